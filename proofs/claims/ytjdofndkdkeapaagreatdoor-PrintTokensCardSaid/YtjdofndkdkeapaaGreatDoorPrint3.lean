/- The printer's state between two calls; the walk over kid. -/
import Derived.Test.YtjdofndkdkeapaaGreatDoorPrint2
import Derived.Test.YtjdofndkdkeapaaGreatDoorNode
import Derived.Test.YtjdofndkdkeapaaGreatDoorSpellLaw
import Derived.Deep.DrawnRows
import Derived.Deep.RegionLaw
import Derived.Maps.AppendAt
namespace Go.Proofs.YtjdofndkdkeapaaGreatDoor
open Go.RowKit
set_option linter.unusedSimpArgs false
set_option linter.unusedVariables false

/-- The printer between two calls: the text so far, what is still to be printed, how many marks it may still put. -/
structure St (w0 wS w : World) (b lo hi : Nat) (path : List Int) (d m : Nat) (txt p : Bytes) (z : Nat) : Prop where
  below : Below w0.heap.size w0 w
  prt : ∃ nm, lo ≤ nm ∧ nm + z ≤ hi ∧ Prt w w0.heap.size b txt nm path d m
  room : txt.length + p.length ≤ 140737488355328
  few : hi ≤ 1000000
  fr : Fr PTs w0.heap.size b wS w
theorem Prt.lt {w : World} {B b : Nat} {s : Bytes} {nm : Nat} {path : List Int} {d m : Nat} (h : Prt w B b s nm path d m) : b < w.heap.size := by
  obtain ⟨u, bv, mv, pv, h⟩ := h
  exact h.lt
theorem St.lt {w0 wS w : World} {b lo hi : Nat} {path : List Int} {d m : Nat} {txt p : Bytes} {z : Nat} (h : St w0 wS w b lo hi path d m txt p z) : b < w.heap.size := by
  obtain ⟨nm, _, _, hp⟩ := h.prt
  exact hp.lt
theorem St.base {w0 wS w : World} {b lo hi : Nat} {path : List Int} {d m : Nat} {txt p : Bytes} {z : Nat} (h : St w0 wS w b lo hi path d m txt p z) : w0.heap.size ≤ w.heap.size := h.below.size
theorem St.lo_le {w0 wS w : World} {b lo hi : Nat} {path : List Int} {d m : Nat} {txt p : Bytes} {z : Nat} (h : St w0 wS w b lo hi path d m txt p z) : lo ≤ 1000000 := by
  obtain ⟨nm, _, _, _⟩ := h.prt
  have := h.few
  omega
theorem fr_of_below {B b : Nat} {w w' : World} (hB : B ≤ w.heap.size) (h : Below w.heap.size w w') : Fr PTs B b w w' := ⟨h.mono hB, fun k hk _ _ => h.block k hk⟩
/-- The world in which more lies. -/
theorem St.bel {w0 wS w w' : World} {b lo hi : Nat} {path : List Int} {d m : Nat} {txt p : Bytes} {z : Nat} (h : St w0 wS w b lo hi path d m txt p z) (hb : Below w.heap.size w w') : St w0 wS w' b lo hi path d m txt p z := by
  obtain ⟨nm, h1, h2, hp⟩ := h.prt
  exact ⟨h.below.trans (hb.mono h.base), ⟨nm, h1, h2, hp.below hb⟩, h.room, h.few, h.fr.trans (fr_of_below h.base hb)⟩
/-- A call's own start. -/
theorem St.start {w0 wS w w' : World} {b lo hi : Nat} {path : List Int} {d m : Nat} {txt p : Bytes} {z : Nat} (h : St w0 wS w b lo hi path d m txt p z) (hb : Below w.heap.size w w') : St w0 w' w' b lo hi path d m txt p z := by
  obtain ⟨h1, h2, h3, h4, _⟩ := h.bel hb
  exact ⟨h1, h2, h3, h4, Fr.refl _ _ _ _⟩
theorem St.leave {w0 wS w w1 w' : World} {b lo hi lo' hi' : Nat} {path path' : List Int} {d m d' : Nat} {txt p txt' p' : Bytes} {z z' : Nat} (h : St w0 wS w b lo hi path d m txt p z) (hb : Below w.heap.size w w1) (h' : St w0 w1 w' b lo' hi' path' d' m txt' p' z') : St w0 wS w' b lo' hi' path' d' m txt' p' z' :=
  ⟨h'.below, h'.prt, h'.room, h'.few, (h.fr.trans (fr_of_below h.base hb)).trans h'.fr⟩
theorem St.weak {w0 wS w : World} {b lo lo' hi : Nat} {path : List Int} {d m : Nat} {txt p : Bytes} {z : Nat} (h : St w0 wS w b lo hi path d m txt p z) (hl : lo' ≤ lo) : St w0 wS w b lo' hi path d m txt p z := by
  obtain ⟨nm, h1, h2, hp⟩ := h.prt
  exact ⟨h.below, ⟨nm, by omega, h2, hp⟩, h.room, h.few, h.fr⟩
/-- The same text, written otherwise. -/
theorem St.eq {w0 wS w : World} {b lo hi : Nat} {path : List Int} {d m : Nat} {txt p txt' p' : Bytes} {z z' : Nat} (h : St w0 wS w b lo hi path d m txt p z) (h1 : txt = txt') (h2 : p = p') (h3 : z = z') : St w0 wS w b lo hi path d m txt' p' z' := by
  subst h1 h2 h3; exact h
theorem St.done {w0 wS w w' : World} {b lo hi nm : Nat} {path : List Int} {d m : Nat} {txt q p : Bytes} {z : Nat} (h : St w0 wS w b lo hi path d m txt (q ++ p) z) (h1 : lo ≤ nm) (h2 : nm + z ≤ hi) (hp : PutPost w0.heap.size b (txt ++ q) nm path d m w w') : St w0 wS w' b lo hi path d m (txt ++ q) p z := by
  have hr := h.room
  rw [List.length_append] at hr
  exact ⟨h.below.trans hp.2.below, ⟨nm, h1, h2, hp.1⟩, by rw [List.length_append]; omega, h.few, h.fr.trans hp.2⟩
theorem node_not_soft {w : World} {k : Nat} {cs : Array Value} {fr : Nat × Nat} (h : w.heap[k]? = some (.cells cs 25 fr)) : ¬ SoftAt PTs w k := by
  rintro ⟨cs', T, fr', h1, h2⟩
  rw [h] at h1
  injection h1 with h1
  injection h1 with _ ht
  subst ht
  revert h2
  decide
theorem cells4 {w : World} {k : Nat} {x0 x1 x2 x3 : Value} {T : TypeId} (h1 : w.heap[k]? = some (.cells #[x0, x1, x2, x3] T (0, 0))) : w.cell? ⟨k, 0, none⟩ = some x0 ∧ w.cell? ⟨k, 1, none⟩ = some x1 ∧ w.cell? ⟨k, 2, none⟩ = some x2 ∧ w.cell? ⟨k, 3, none⟩ = some x3 := by
  have hc := fun j => cell_of_row w k j _ T (0, 0) h1
  exact ⟨by rw [hc]; rfl, by rw [hc]; rfl, by rw [hc]; rfl, by rw [hc]; rfl⟩
/-- A node in a box of the call's own. -/
theorem St.box {w0 w w' : World} {b lo hi : Nat} {path : List Int} {d m : Nat} {txt p : Bytes} {z : Nat} {x0 x1 x2 x3 : Value} (h : St w0 (w.alloc (.cells #[x0, x1, x2, x3] 25)) w' b lo hi path d m txt p z) (hb : b < w.heap.size) :
    w'.cell? ⟨w.heap.size, 0, none⟩ = some x0 ∧ w'.cell? ⟨w.heap.size, 1, none⟩ = some x1 ∧ w'.cell? ⟨w.heap.size, 2, none⟩ = some x2 ∧ w'.cell? ⟨w.heap.size, 3, none⟩ = some x3 := by
  have h0 := heap_alloc_new w (.cells #[x0, x1, x2, x3] 25)
  refine cells4 (T := 25) ?_
  rw [h.fr.keep w.heap.size (by simp) (by omega) (node_not_soft h0), h0]
/-- put, in a walk. -/
theorem St.put {w0 wS w : World} {b lo hi : Nat} {path : List Int} {d m : Nat} {txt p : Bytes} {z : Nat} (xs : List Bytes) (h : St w0 wS w b lo hi path d m txt (xs.flatten ++ p) z) (cs : Array Value) (hcs : cs = (xs.map fun x => Value.string (sb x)).toArray) (r n : Nat) (hr : w.heap.size = r) (hn : n = xs.length) (hfew : xs.length ≤ 1000) :
    Calls Tryz.prog 78 #[.pointer (some ⟨b, 0, none⟩), .slice (some ⟨r, 0, none⟩) n n] (w.alloc (.cells cs 9)) (fun e w' => e = .returned (.tuple #[]) ∧ St w0 wS w' b lo hi path d m (txt ++ xs.flatten) p z) := by
  subst hcs hr
  have hb : Below w.heap.size w (w.alloc (.cells (xs.map fun x => Value.string (sb x)).toArray 9)) := (Below.refl _ _).alloc (Nat.le_refl _) _
  have h' := h.bel hb
  obtain ⟨nm, h1, h2, hp⟩ := h'.prt
  have hr := h.room
  rw [List.length_append] at hr
  refine (p_put hp w.heap.size xs n hn (heap_alloc_new _ _) (by omega) (by omega)).mono ?_
  rintro e w' ⟨rfl, hq⟩
  exact ⟨rfl, h'.done h1 h2 hq⟩
/-- What a node's printing does. -/
def NodeC (w0 : World) (b m d : Nat) (t : Tree) : Prop := ∀ (A : Option Addr) (c : Nat) (wS w : World) (lo hi : Nat) (path : List Int) (txt p : Bytes) (z : Nat), NodeIs w0 t t.kind (sb t.text) t.num A t.kids.length c →
  path.length ≤ lo → St w0 wS w b lo hi path d m txt (printT d t ++ p) (t.sz + z) →
  Calls Tryz.prog 23 #[.pointer (some ⟨b, 0, none⟩), .agg #[.int .u8 t.kind, .string (sb t.text), .int .i64 t.num, .slice A t.kids.length c]] w (fun e w' => e = .returned (.tuple #[]) ∧ St w0 wS w' b (lo + 1) hi path d m (txt ++ printT d t) p z)
theorem Tree.sz_pos (t : Tree) : 1 ≤ t.sz := by cases t; simp [Tree.sz]
theorem Tryz.infoIntP : (Tryz.prog.info? 3).map (fun i => (i.zero, i.size, i.bytes)) = some (some (.int .i64 0), 1, 8) := by kernel_rfl
/-- The path, a number longer. -/
theorem kid_enter {w0 wS w w2 : World} {b lo hi nm : Nat} {path : List Int} {d m : Nat} {txt p : Bytes} {z : Nat} {u bv mv pv : Value} {N : Obj} {i : Nat} {v' : Value} (h : St w0 wS w b lo hi path d m txt p z) (h1 : lo ≤ nm) (h2 : nm + z ≤ hi) (hP : PrtSt w w0.heap.size b u bv mv pv txt nm path d m) {x0 x1 x2 x3 : Value} {I : Obj} (hN : N = .cells #[x0, x1, x2, x3] 25)
    (hg : ((w.alloc N).alloc I).grownBy w2 pv.ownBlock) (ho : w2.ownsRow w0.heap.size 3 1 v' (path.length + 1) (path.map (Value.int .i64) ++ [.int .i64 i])) :
    St w0 wS (w2.setCell ⟨b, 3, none⟩ v') b lo hi (path ++ [(i : Int)]) d m txt p z ∧ w2.frozen? ⟨b, 3, none⟩ = false ∧ (∃ y, w2.cell? ⟨b, 3, none⟩ = some y) ∧
    ((w2.setCell ⟨b, 3, none⟩ v').cell? ⟨w.heap.size, 0, none⟩ = some x0 ∧ (w2.setCell ⟨b, 3, none⟩ v').cell? ⟨w.heap.size, 1, none⟩ = some x1 ∧ (w2.setCell ⟨b, 3, none⟩ v').cell? ⟨w.heap.size, 2, none⟩ = some x2 ∧ (w2.setCell ⟨b, 3, none⟩ v').cell? ⟨w.heap.size, 3, none⟩ = some x3) := by
  subst hN
  have hbb : Below w.heap.size w ((w.alloc (.cells #[x0, x1, x2, x3] 25)).alloc I) := ((Below.refl _ _).alloc (Nat.le_refl _) _).alloc (by simp) _
  have hP2 := hP.below hbb
  obtain ⟨k1, k2, k3⟩ := hP2.put_path hg (v' := v') (path' := path ++ [(i : Int)]) (by simpa using ho)
  have hf : Fr PTs w0.heap.size b w (w2.setCell ⟨b, 3, none⟩ v') := (fr_of_below h.base hbb).trans k2
  refine ⟨⟨h.below.trans hf.below, ⟨nm, h1, h2, _, _, _, _, k1⟩, h.room, h.few, h.fr.trans hf⟩, k3.soft 3, ⟨_, k3.cells.2.2.2.1⟩, ?_⟩
  have h0 : ((w.alloc (.cells #[x0, x1, x2, x3] 25)).alloc I).heap[w.heap.size]? = some (.cells #[x0, x1, x2, x3] 25 (0, 0)) := (heap_alloc_old _ _ (by simp)).trans (heap_alloc_new _ _)
  refine cells4 (T := 25) ?_
  rw [k2.keep w.heap.size (by simp; omega) (by have := hP.lt; omega) (node_not_soft h0), h0]
/-- The path, cut again. -/
theorem St.path_form {w0 wS w : World} {b lo hi : Nat} {path : List Int} {i : Int} {d m : Nat} {txt p : Bytes} {z : Nat} (h : St w0 wS w b lo hi (path ++ [i]) d m txt p z) : ∃ A c, w.cell? ⟨b, 3, none⟩ = some (.slice A (path.length + 1) c) ∧ w.frozen? ⟨b, 3, none⟩ = false ∧ path.length + 1 ≤ c ∧ c ≤ maxLen ∧
    St w0 wS (w.setCell ⟨b, 3, none⟩ (.slice A path.length c)) b lo hi path d m txt p z := by
  obtain ⟨nm, h1, h2, u, bv, mv, pv, hP⟩ := h.prt
  rcases hP.path.2 with ⟨e1, e2⟩ | ⟨g, cap, cur, hv, hb, hh, k1, k2, k3, k4⟩
  · simp at e2
  · subst hv
    simp only [List.length_append, List.length_singleton] at hP k1
    have hc := hP.box.cells.2.2.2.1
    obtain ⟨q1, q2⟩ := hP.cut_path
    exact ⟨_, _, hc, hP.box.soft 3, k1, k2, h.below.trans q2.below, ⟨nm, h1, h2, _, _, _, _, q1⟩, h.room, h.few, h.fr.trans q2⟩
set_option maxHeartbeats 4000000 in
set_option maxRecDepth 100000 in
theorem p_kid {w0 : World} {b m d : Nat} {t : Tree} (hC : NodeC w0 b m d t) {ks : List Tree} (i : Nat) (hi : ks[i]? = some t) (k : Nat) (s : ByteArray) (x : Int) (A : Option Addr) (n c : Nat) {wS w : World} {lo hi' : Nat} {path : List Int} {txt p : Bytes} {z : Nat}
    (hK : KidsAt w0 ks A n c) (hp : path.length + 1 ≤ lo) (h : St w0 wS w b lo hi' path d m txt (printT d t ++ p) (t.sz + z)) :
    Calls Tryz.prog 79 #[.pointer (some ⟨b, 0, none⟩), .agg #[.int .u8 k, .string s, .int .i64 x, .slice A n c], .int .i64 i] w (fun e w' => e = .returned (.tuple #[]) ∧ St w0 wS w' b lo hi' path d m (txt ++ printT d t) p z) := by
  obtain ⟨i0, hi0, hz0, hz1, hz2⟩ := info_parts Tryz.infoIntP
  have HH := Lib.hid h
  have HC := Lib.hid hC
  have hil : i < n := by have := (List.getElem?_eq_some_iff.1 hi).1; have := hK.1; omega
  have hnm : n ≤ 9223372036854775807 := by have h1 := hK.2.1; have h2 := hK.2.2.1; unfold maxLen at h2; omega
  obtain ⟨kb, ko, t', rfl, hi', hT⟩ := hK.get hil
  obtain rfl : t' = t := by rw [hi] at hi'; injection hi' with e; exact e.symm
  obtain ⟨kA, kc, e0, e1, e2, e3, hN⟩ := hT.cells
  have HN := Lib.hid hN
  have HE := Lib.hid (And.intro e0 (And.intro e1 (And.intro e2 e3)))
  obtain ⟨nm, q1, q2, u, bv, mv, pv, hP⟩ := h.prt
  have hlen : path.length ≤ 1000000 := by have := h.lo_le; omega
  have HP := Lib.hid hP
  have HQ := Lib.hid (And.intro q1 q2)
  obtain ⟨N, hNd⟩ : ∃ N : Obj, N = .cells #[.int .u8 k, .string s, .int .i64 x, .slice (some ⟨kb, ko, none⟩) n c] 25 := ⟨_, rfl⟩
  have c3 := (hP.below ((Below.refl _ _).alloc (Nat.le_refl _) N)).box.cells.2.2.2.1
  have hown := (hP.below (((Below.refl _ _).alloc (Nat.le_refl _) N).alloc (by simp) (.cells #[.int .i64 i] 3))).path
  have hnw : ((w.alloc N).alloc (.cells #[.int .i64 i] 3)).heap[w.heap.size + 1]? = some (.cells #[.int .i64 i] 3 (0, 0)) := heap_alloc_at (by simp)
  have hbase := h.base
  have hlt := hP.lt
  obtain ⟨pA, pc, rfl, hpc⟩ := own_form hP.path
  subst hNd
  clear h hK hC hP q1 q2 hi' hT hN e0 e1 e2 e3
  go_enter Tryz.func79, Tryz.ntmps79
  go_wp2_with (at_builtin; refine wpList_append_own _ rfl _ _ 52 rfl w0.heap.size 3 i0 (.int .i64 0) 1 8 Tryz.underlying52 hi0 hz0 hz1 hz2 rfl (by decide) _ _ _ rfl hown ⟨w.heap.size + 1, 0, none⟩ 1 1 [.int .i64 i] rfl rfl (fun j u hu => World.news_of_block hnw j u (by simpa using hu)) (by intro u hu; simp at hu; subst hu; rfl) (by unfold maxLen; omega) (by omega) (by simp; omega) ?_)
  intro v' w2 hown' hgrow _
  obtain ⟨vA, vc, rfl, _⟩ := own_form hown'
  obtain ⟨hS, g1, ⟨y, g2⟩, y0, y1, y2, y3⟩ := kid_enter HH.out HQ.out.1 HQ.out.2 HP.out rfl hgrow hown'
  have HS := Lib.hid hS
  have hbel := hS.below
  have z0 := (hbel.cell (p := ⟨kb, ko + i * 4, none⟩) (cell_lt HE.out.1)).trans HE.out.1
  have z1 := (hbel.cell (p := ⟨kb, ko + i * 4 + 1, none⟩) (cell_lt HE.out.2.1)).trans HE.out.2.1
  have z2 := (hbel.cell (p := ⟨kb, ko + i * 4 + 2, none⟩) (cell_lt HE.out.2.2.1)).trans HE.out.2.2.1
  have z3 := (hbel.cell (p := ⟨kb, ko + i * 4 + 3, none⟩) (cell_lt HE.out.2.2.2)).trans HE.out.2.2.2
  clear hS hown' hgrow hown hnw c3 hbel
  go_wp2_with fail
  refine (HC.out kA kc wS _ lo hi' (path ++ [(i : Int)]) txt p z HN.out (by simp; omega) HS.out).mono ?_
  rintro e w3 ⟨rfl, h3⟩
  obtain ⟨A', c', f1, f2, f3, f4, h5⟩ := (h3.weak (Nat.le_succ lo)).path_form
  have H5 := Lib.hid h5
  clear h3 h5 y0 y1 y2 y3 z0 z1 z2 z3 g1 g2
  go_wp2_with fail
  go_region
  go_end0
  exact ⟨rfl, H5.out.bel ((Below.refl _ _).drew)⟩
end Go.Proofs.YtjdofndkdkeapaaGreatDoor
