/- Regions 5 and 6 of the law SwapApart: Old and New, one behind the other.
   The walk over the law SwapApart.
   From the memory's reading to the walk over the law SwapApart: its row and its tied card. -/
import Derived.Test.YtmikjhohnfcedaaGreatDoorApA
import Derived.Test.YtmikjhohnfcedaaGreatDoorBkR
import Derived.Test.YtmikjhohnfcedaaGreatDoorApC
import Derived.Test.YtmikjhohnfcedaaGreatDoorBk
namespace Go.Proofs.YtmikjhohnfcedaaGreatDoor
set_option linter.unusedSimpArgs false
set_option linter.unusedVariables false
open Go.RowKit
set_option linter.unusedSimpArgs false
set_option linter.unusedVariables false

theorem ap_S2 {w1 w' : World} {b : Nat} {x0 x1 x2 x3 x4 x5 x6 x7 : Value} {T : TypeId} (hp : w1.heap[b]? = some (.cells #[x0, x1, x2, x3, x4, x5, x6, x7] T (0, 0))) (hb : Below w1.heap.size w1 w') : w'.cell? ⟨b, 6, none⟩ = some x6 ∧ w'.cell? ⟨b, 7, none⟩ = some x7 := by
  have h1 := (hb.block _ (Array.getElem?_eq_some_iff.1 hp).1).trans hp
  have h2 := (boxF8 h1).cs
  exact ⟨h2.2.2.2.2.2.2.1, h2.2.2.2.2.2.2.2⟩
theorem below_app1 {w1 W w2 : World} {v : Value} {xs : List Value} {n : Nat} (hg : W.grownBy w2 v.ownBlock) (hb : Below w1.heap.size w1 W) (hW : W.ownsRow w1.heap.size 40 4 v n xs) : Below w1.heap.size w1 w2 :=
  hb.trans (below_grown hW hg (Nat.le_refl _) hb.size)
theorem own_heap {w2 : World} {base : Nat} {e : TypeId} {size : Nat} {v : Value} {n : Nat} {xs : List Value} (h : w2.ownsRow base e size v n xs) : ∀ W : World, W.heap = w2.heap → W.ownsRow base e size v n xs := by
  intro W hW
  obtain ⟨a, b⟩ := h
  refine ⟨a, b.imp id ?_⟩
  rintro ⟨g, cap, cur, h1, h2, h3, h4⟩
  exact ⟨g, cap, cur, h1, h2, by rw [hW]; exact h3, h4⟩
theorem below_heap {w1 w2 : World} (h : Below w1.heap.size w1 w2) : ∀ W : World, W.heap = w2.heap → W.os = w2.os → W.tape = w2.tape → W.output = w2.output → Below w1.heap.size w1 W := by
  intro W e1 e2 e3 e4
  exact ⟨e2.trans h.os, e3.trans h.tape, e4.trans h.output, by rw [e1]; exact h.size, fun k hk => by rw [e1]; exact h.block k hk⟩
theorem lit_row {w1 W : World} (h : W.heap = (w1.alloc (.cells #[] 40)).heap) : W.ownsRow w1.heap.size 40 4 (.slice (some ⟨w1.heap.size, 0, none⟩) 0 0) 0 [] := by
  have h0 := World.ownsRow_lit (e := 40) (size := 4) w1 #[] 0 (Nat.le_refl _) (by unfold maxLen; omega) rfl
  obtain ⟨a, b⟩ := h0
  refine ⟨a, b.imp id ?_⟩
  rintro ⟨g, cap, cur, h1, h2, h3, h4⟩
  exact ⟨g, cap, cur, h1, h2, by rw [h]; exact h3, h4⟩
theorem lit_below {w1 W : World} {o : Obj} (h : W.heap = (w1.alloc o).heap) (h1 : W.os = w1.os) (h2 : W.tape = w1.tape) (h3 : W.output = w1.output) : Below w1.heap.size w1 W := by
  have h0 := apb_alloc (Below.refl w1.heap.size w1) o
  exact ⟨h1, h2, h3, by rw [h]; exact h0.size, fun k hk => by rw [h]; exact h0.block k hk⟩

set_option maxRecDepth 20000 in
set_option maxHeartbeats 20000000 in
theorem ap_r5 (os ns : List Tree) (x0 x1 x2 x3 x4 x5 : Value) (oA : Option Addr) (on oc : Nat) (nA : Option Addr) (nn nc : Nat) (w w1 : World) (b : Nat) (hB : Below w.heap.size w w1)
    (hP : w1.heap[b]? = some (.cells #[x0, x1, x2, x3, x4, x5, .slice oA on oc, .slice nA nn nc] 26 (0, 0))) (ho : KidsAt w os oA on oc) (hn : KidsAt w ns nA nn nc) (hon : on ≤ 1000) (hnn : nn ≤ 1000)
    (z0 z1 z3 z4 z5 z6 z7 z8 z9 z10 z11 z12 z13 z14 z15 z16 z17 z18 z19 z20 z21 z22 z23 z24 z25 z26 z27 z28 z29 z30 z31 z32 z33 z34 z35 z36 z37 z38 z39 z40 z41 z42 z43 z44 z45 z46 z47 z48 z49 z50 z51 z52 z53 z54 z55 z56 z57 z58 z59 z60 z61 z62 z63 z64 z65 z66 z67 z68 z69 z70 z71 z72 z73 z74 z75 z76 z77 z78 z79 z80 z81 z82 z83 z84 z85 z86 z87 z88 z89 z90 z91 z92 z93 z94 z95 z96 z97 z98 z99 z100 z101 z102 z103 z104 z105 z106 z107 z108 z109 z110 z111 z112 z113 z114 z115 z116 z117 z118 z119 z120 z121 z122 z123 z124 z125 z126 z127 z128 z129 z130 z131 z132 z133 z134 z135 z136 z137 z138 z139 z140 z141 z142 : Value) (Q : Exit → Act → World → Prop) (hK : ∀ A c v55 v56 v57 v58 v59 v60 v61 wx, Hid (Below w1.heap.size w1 wx) → Hid (∃ cs, wx.ownsRow w1.heap.size 40 4 (.slice A (on + nn) c) (on + nn) cs ∧ CellsRead w cs (os ++ ns)) → Q .normal ⟨#[z0, z1, .pointer (some ⟨b, 0, none⟩), z3, z4, .slice A (on + nn) c, z6, z7, z8, z9, z10, z11, z12, z13, z14, z15, z16, z17, z18, z19, z20, z21, z22, z23, z24, z25, z26, z27, z28, z29, z30, z31, z32, z33, z34, z35, z36, z37, z38, z39, z40, z41, z42, z43, z44, z45, z46, z47, z48, z49, z50, z51, z52, z53, z54, v55, v56, v57, v58, v59, v60, v61, z62, z63, z64, z65, z66, z67, z68, z69, z70, z71, z72, z73, z74, z75, z76, z77, z78, z79, z80, z81, z82, z83, z84, z85, z86, z87, z88, z89, z90, z91, z92, z93, z94, z95, z96, z97, z98, z99, z100, z101, z102, z103, z104, z105, z106, z107, z108, z109, z110, z111, z112, z113, z114, z115, z116, z117, z118, z119, z120, z121, z122, z123, z124, z125, z126, z127, z128, z129, z130, z131, z132, z133, z134, z135, z136, z137, z138, z139, z140, z141, z142], []⟩ wx) :
    ((regAt 5 (Tryz.f4.body.getD .skip)).getD .skip).wp Tryz.prog Q ⟨#[z0, z1, .pointer (some ⟨b, 0, none⟩), z3, z4, z5, z6, z7, z8, z9, z10, z11, z12, z13, z14, z15, z16, z17, z18, z19, z20, z21, z22, z23, z24, z25, z26, z27, z28, z29, z30, z31, z32, z33, z34, z35, z36, z37, z38, z39, z40, z41, z42, z43, z44, z45, z46, z47, z48, z49, z50, z51, z52, z53, z54, z55, z56, z57, z58, z59, z60, z61, z62, z63, z64, z65, z66, z67, z68, z69, z70, z71, z72, z73, z74, z75, z76, z77, z78, z79, z80, z81, z82, z83, z84, z85, z86, z87, z88, z89, z90, z91, z92, z93, z94, z95, z96, z97, z98, z99, z100, z101, z102, z103, z104, z105, z106, z107, z108, z109, z110, z111, z112, z113, z114, z115, z116, z117, z118, z119, z120, z121, z122, z123, z124, z125, z126, z127, z128, z129, z130, z131, z132, z133, z134, z135, z136, z137, z138, z139, z140, z141, z142], []⟩ w1 := by
  have HB := Lib.hid hB
  have HP := Lib.hid hP
  have HO := Lib.hid ho
  have HN := Lib.hid hn
  have HK := Lib.hid hK
  have HL : Hid (∀ W : World, W.heap = (w1.alloc (.cells #[] 40)).heap → W.ownsRow w1.heap.size 40 4 (.slice (some ⟨w1.heap.size, 0, none⟩) 0 0) 0 []) := fun W hW => lit_row hW
  have HLB : Hid (∀ W : World, W.heap = (w1.alloc (.cells #[] 40)).heap → W.os = w1.os → W.tape = w1.tape → W.output = w1.output → Below w1.heap.size w1 W) := fun W h1 h2 h3 h4 => lit_below h1 h2 h3 h4
  obtain ⟨c0, c1, c2, c3, c4, c5, c6, c7⟩ := (boxF8 hP).cs
  clear c0 c1 c2 c3 c4 c5 hB hP ho hn hK
  conv in Option.getD (regAt _ _) _ => whnf
  have q6 := fun o => (World.cell?_alloc_lt w1 o ⟨b, 6, none⟩ (cell_lt c6)).trans c6
  have q7 := fun o => (World.cell?_alloc_lt w1 o ⟨b, 7, none⟩ (cell_lt c7)).trans c7
  refine wp_region_noPanic ?_
  go_region_law
    (first
      | (refine step_nodes_append _ (by rfl) _ _ (by rfl) w1.heap.size _ on _ (by rfl) (HO1.out _ rfl) (HE2.out _ rfl rfl rfl rfl).size w (bthen HB.out (HE2.out _ rfl rfl rfl rfl)) ns nA nn nc HN.out (by rfl) (by omega) (by omega) ?_; intro A2 k2 w3 cs2 ho2 hr2 hg2; have HD3 : Hid (Below w1.heap.size w1 w3) := below_app1 hg2 (HE2.out _ rfl rfl rfl rfl) (HO1.out _ rfl); have HO2 := Lib.hid ho2; have HR2 := Lib.hid hr2; clear ho2 hr2 hg2)
      | (refine step_nodes_append _ (by rfl) _ _ (by rfl) w1.heap.size _ 0 [] (by rfl) (HL.out _ rfl) (HLB.out _ rfl rfl rfl rfl).size w (bthen HB.out (HLB.out _ rfl rfl rfl rfl)) os oA on oc HO.out (by rfl) (by omega) (by omega) ?_; intro A1 k1 w2 cs1 ho1 hr1 hg1; rw [Nat.zero_add] at ho1; have HD2 : Hid (Below w1.heap.size w1 w2) := below_app1 hg1 (HLB.out _ rfl rfl rfl rfl) (HL.out _ rfl); obtain ⟨e6, e7⟩ := ap_S2 HP.out HD2.out; have HO1 := Lib.hid (own_heap ho1); have HE2 := Lib.hid (below_heap HD2.out); have HR1 := Lib.hid hr1; clear ho1 hr1 hg1))
  all_goals
    have e0 : 0 + on + nn = on + nn := by omega
    have h1 := HO2.out
    rw [List.nil_append] at h1
    refine NoPanic.normal (HK.out _ _ _ _ _ _ _ _ _ _ HD3 ⟨_, by first | exact h1 | (rw [e0] at h1; exact h1), HR1.out.append HR2.out⟩)

set_option maxRecDepth 20000 in
set_option maxHeartbeats 20000000 in
theorem ap_r6 (os ns : List Tree) (x0 x1 x2 x3 x4 x5 : Value) (oA : Option Addr) (on oc : Nat) (nA : Option Addr) (nn nc : Nat) (w w1 : World) (b : Nat) (hB : Below w.heap.size w w1)
    (hP : w1.heap[b]? = some (.cells #[x0, x1, x2, x3, x4, x5, .slice oA on oc, .slice nA nn nc] 26 (0, 0))) (ho : KidsAt w os oA on oc) (hn : KidsAt w ns nA nn nc) (hon : on ≤ 1000) (hnn : nn ≤ 1000)
    (z0 z1 z2 z4 z5 z6 z7 z8 z9 z10 z11 z12 z13 z14 z15 z16 z17 z18 z19 z20 z21 z22 z23 z24 z25 z26 z27 z28 z29 z30 z31 z32 z33 z34 z35 z36 z37 z38 z39 z40 z41 z42 z43 z44 z45 z46 z47 z48 z49 z50 z51 z52 z53 z54 z55 z56 z57 z58 z59 z60 z61 z62 z63 z64 z65 z66 z67 z68 z69 z70 z71 z72 z73 z74 z75 z76 z77 z78 z79 z80 z81 z82 z83 z84 z85 z86 z87 z88 z89 z90 z91 z92 z93 z94 z95 z96 z97 z98 z99 z100 z101 z102 z103 z104 z105 z106 z107 z108 z109 z110 z111 z112 z113 z114 z115 z116 z117 z118 z119 z120 z121 z122 z123 z124 z125 z126 z127 z128 z129 z130 z131 z132 z133 z134 z135 z136 z137 z138 z139 z140 z141 z142 : Value) (Q : Exit → Act → World → Prop) (hK : ∀ A c v62 v63 v64 v65 v66 v67 v68 wx, Hid (Below w1.heap.size w1 wx) → Hid (∃ cs, wx.ownsRow w1.heap.size 40 4 (.slice A (on + nn) c) (on + nn) cs ∧ CellsRead w cs (os ++ ns)) → Q .normal ⟨#[z0, z1, z2, .pointer (some ⟨b, 0, none⟩), z4, z5, .slice A (on + nn) c, z7, z8, z9, z10, z11, z12, z13, z14, z15, z16, z17, z18, z19, z20, z21, z22, z23, z24, z25, z26, z27, z28, z29, z30, z31, z32, z33, z34, z35, z36, z37, z38, z39, z40, z41, z42, z43, z44, z45, z46, z47, z48, z49, z50, z51, z52, z53, z54, z55, z56, z57, z58, z59, z60, z61, v62, v63, v64, v65, v66, v67, v68, z69, z70, z71, z72, z73, z74, z75, z76, z77, z78, z79, z80, z81, z82, z83, z84, z85, z86, z87, z88, z89, z90, z91, z92, z93, z94, z95, z96, z97, z98, z99, z100, z101, z102, z103, z104, z105, z106, z107, z108, z109, z110, z111, z112, z113, z114, z115, z116, z117, z118, z119, z120, z121, z122, z123, z124, z125, z126, z127, z128, z129, z130, z131, z132, z133, z134, z135, z136, z137, z138, z139, z140, z141, z142], []⟩ wx) :
    ((regAt 6 (Tryz.f4.body.getD .skip)).getD .skip).wp Tryz.prog Q ⟨#[z0, z1, z2, .pointer (some ⟨b, 0, none⟩), z4, z5, z6, z7, z8, z9, z10, z11, z12, z13, z14, z15, z16, z17, z18, z19, z20, z21, z22, z23, z24, z25, z26, z27, z28, z29, z30, z31, z32, z33, z34, z35, z36, z37, z38, z39, z40, z41, z42, z43, z44, z45, z46, z47, z48, z49, z50, z51, z52, z53, z54, z55, z56, z57, z58, z59, z60, z61, z62, z63, z64, z65, z66, z67, z68, z69, z70, z71, z72, z73, z74, z75, z76, z77, z78, z79, z80, z81, z82, z83, z84, z85, z86, z87, z88, z89, z90, z91, z92, z93, z94, z95, z96, z97, z98, z99, z100, z101, z102, z103, z104, z105, z106, z107, z108, z109, z110, z111, z112, z113, z114, z115, z116, z117, z118, z119, z120, z121, z122, z123, z124, z125, z126, z127, z128, z129, z130, z131, z132, z133, z134, z135, z136, z137, z138, z139, z140, z141, z142], []⟩ w1 := by
  have HB := Lib.hid hB
  have HP := Lib.hid hP
  have HO := Lib.hid ho
  have HN := Lib.hid hn
  have HK := Lib.hid hK
  have HL : Hid (∀ W : World, W.heap = (w1.alloc (.cells #[] 40)).heap → W.ownsRow w1.heap.size 40 4 (.slice (some ⟨w1.heap.size, 0, none⟩) 0 0) 0 []) := fun W hW => lit_row hW
  have HLB : Hid (∀ W : World, W.heap = (w1.alloc (.cells #[] 40)).heap → W.os = w1.os → W.tape = w1.tape → W.output = w1.output → Below w1.heap.size w1 W) := fun W h1 h2 h3 h4 => lit_below h1 h2 h3 h4
  obtain ⟨c0, c1, c2, c3, c4, c5, c6, c7⟩ := (boxF8 hP).cs
  clear c0 c1 c2 c3 c4 c5 hB hP ho hn hK
  conv in Option.getD (regAt _ _) _ => whnf
  have q6 := fun o => (World.cell?_alloc_lt w1 o ⟨b, 6, none⟩ (cell_lt c6)).trans c6
  have q7 := fun o => (World.cell?_alloc_lt w1 o ⟨b, 7, none⟩ (cell_lt c7)).trans c7
  refine wp_region_noPanic ?_
  go_region_law
    (first
      | (refine step_nodes_append _ (by rfl) _ _ (by rfl) w1.heap.size _ on _ (by rfl) (HO1.out _ rfl) (HE2.out _ rfl rfl rfl rfl).size w (bthen HB.out (HE2.out _ rfl rfl rfl rfl)) ns nA nn nc HN.out (by rfl) (by omega) (by omega) ?_; intro A2 k2 w3 cs2 ho2 hr2 hg2; have HD3 : Hid (Below w1.heap.size w1 w3) := below_app1 hg2 (HE2.out _ rfl rfl rfl rfl) (HO1.out _ rfl); have HO2 := Lib.hid ho2; have HR2 := Lib.hid hr2; clear ho2 hr2 hg2)
      | (refine step_nodes_append _ (by rfl) _ _ (by rfl) w1.heap.size _ 0 [] (by rfl) (HL.out _ rfl) (HLB.out _ rfl rfl rfl rfl).size w (bthen HB.out (HLB.out _ rfl rfl rfl rfl)) os oA on oc HO.out (by rfl) (by omega) (by omega) ?_; intro A1 k1 w2 cs1 ho1 hr1 hg1; rw [Nat.zero_add] at ho1; have HD2 : Hid (Below w1.heap.size w1 w2) := below_app1 hg1 (HLB.out _ rfl rfl rfl rfl) (HL.out _ rfl); obtain ⟨e6, e7⟩ := ap_S2 HP.out HD2.out; have HO1 := Lib.hid (own_heap ho1); have HE2 := Lib.hid (below_heap HD2.out); have HR1 := Lib.hid hr1; clear ho1 hr1 hg1))
  all_goals
    have e0 : 0 + on + nn = on + nn := by omega
    have h1 := HO2.out
    rw [List.nil_append] at h1
    refine NoPanic.normal (HK.out _ _ _ _ _ _ _ _ _ _ HD3 ⟨_, by first | exact h1 | (rw [e0] at h1; exact h1), HR1.out.append HR2.out⟩)
end Go.Proofs.YtmikjhohnfcedaaGreatDoor

namespace Go.Proofs.YtmikjhohnfcedaaGreatDoor
set_option linter.unusedSimpArgs false
set_option linter.unusedVariables false
open Go.RowKit
set_option linter.unusedSimpArgs false
set_option linter.unusedVariables false

/-- A value that reads as a row of an edit's names. -/
def NamesAt (w : World) (e : Edt) (v : Value) : Prop := ∃ ss A n c, v = .slice A n c ∧ (∀ s, s ∈ ss ↔ s ∈ e.names) ∧ StrsT w ss A n c
theorem NamesAt.below {w w' : World} (hb : Below w.heap.size w w') {e : Edt} {v : Value} (h : NamesAt w e v) : NamesAt w' e v := by
  obtain ⟨ss, A, n, c, h1, h2, h3⟩ := h
  exact ⟨ss, A, n, c, h1, h2, h3.below hb⟩
theorem CellsRead.below {w w' : World} {cs : List Value} {us : List Tree} (h : CellsRead w cs us) (hb : Below w.heap.size w w') : CellsRead w' cs us := by
  refine ⟨h.1, fun i t ht => ?_⟩
  obtain ⟨A, c, h0, h1, h2, h3, h4, h5⟩ := h.2 i t ht
  exact ⟨A, c, h0, h1, h2, h3, h4.below hb, h5⟩
theorem kids_done {w w' : World} {base n c : Nat} {A : Option Addr} {us : List Tree} (h : ∃ cs, w'.ownsRow base 40 4 (.slice A n c) n cs ∧ CellsRead w cs us) (hn : n = us.length) (hb : Below w.heap.size w w') : KidsAt w' us A n c := by
  obtain ⟨cs, h1, h2⟩ := h
  obtain ⟨A', c', e, h3⟩ := h2.done h1 hn hb
  injection e with e1 e2 e3
  rw [e1, e3]
  exact h3
theorem names_rest {e : Edt} (hk : e.kind ≠ 1) {ss : List Bytes} (h : ∀ s, s ∈ ss ↔ s ∈ namesL e.parts) : ∀ s, s ∈ ss ↔ s ∈ e.names := by
  intro s
  rw [h s]
  simp [Edt.names, hk]
theorem names_one {e : Edt} (hk : e.kind = 1) : ∀ s, s ∈ [e.frm, e.to_] ↔ s ∈ e.names := by
  intro s
  simp [Edt.names, hk]
theorem CellsRead.one {w : World} {cs : List Value} {us : List Tree} (h : CellsRead w cs us) : ∀ u ∈ cs, u.oneCell' = true := by
  intro u hu
  obtain ⟨m, hm1, hm2⟩ := List.getElem_of_mem hu
  have hl := h.1
  have hq : m / 4 < us.length := by omega
  obtain ⟨A, c, h0, h1, h2, h3, _⟩ := h.2 (m / 4) _ (List.getElem?_eq_getElem hq)
  have hmm : cs[m]? = some u := by rw [List.getElem?_eq_getElem hm1, hm2]
  have hc : m = m / 4 * 4 ∨ m = m / 4 * 4 + 1 ∨ m = m / 4 * 4 + 2 ∨ m = m / 4 * 4 + 3 := by omega
  rcases hc with e | e | e | e <;> rw [e] at hmm
  · rw [h0] at hmm; injection hmm with hmm; rw [← hmm]; rfl
  · rw [h1] at hmm; injection hmm with hmm; rw [← hmm]; rfl
  · rw [h2] at hmm; injection hmm with hmm; rw [← hmm]; rfl
  · rw [h3] at hmm; injection hmm with hmm; rw [← hmm]; rfl
set_option maxRecDepth 20000 in
theorem run_row_append (w : World) (ty : TypeId) (base : Nat) (hbase : base ≤ w.heap.size) (v : Value) (j : Nat) (cs : List Value) (hown : w.ownsRow base 40 4 v j cs) (base2 : Nat) (A : Option Addr) (m c : Nat) (cs6 : List Value)
    (hsrc : w.ownsRow base2 40 4 (.slice A m c) m cs6) (hl : cs6.length = m * 4) (h1 : ∀ u ∈ cs6, u.oneCell' = true) (hj : j ≤ 1000000) (hm : m ≤ 1000000) :
    ∃ v' w', (Builtin.append_ #[24, 24] ty #[v, .slice A m c]).run Tryz.prog w = .ok v' w' ∧ w'.ownsRow base 40 4 v' (j + m) (cs ++ cs6) ∧ w.grownBy w' v.ownBlock := by
  obtain ⟨i0, hi, hz0, hz1, hz2⟩ := info_parts Tryz.infoNode
  by_cases h0 : A = none
  · subst h0
    have hm0 : m = 0 := by
      rcases hsrc.2 with ⟨e, h0⟩ | ⟨g, cap, cur, e, _⟩
      · exact h0
      · injection e with e; cases e
    subst hm0
    have hc0 : cs6 = [] := List.length_eq_zero_iff.1 (by omega)
    subst hc0
    refine ⟨v, w, ?_, by simpa using hown, ⟨rfl, rfl, rfl, Nat.le_refl _, fun _ _ _ => rfl⟩⟩
    rcases hown.2 with ⟨rfl, rfl⟩ | ⟨g, cap, cur, rfl, _, _, hnc, _⟩
    · simp [Builtin.append_, run_underlying Tryz.underlying24, sizeOf, typeInfo, hi, Builtin.lenOf, Builtin.firstCells]
    · simp [Builtin.append_, run_underlying Tryz.underlying24, sizeOf, typeInfo, hi, Builtin.lenOf, Builtin.firstCells, hnc, storeCells]
  · obtain ⟨g, hA⟩ : ∃ g, A = some ⟨g, 0, none⟩ := by
      rcases hsrc.2 with ⟨e, _⟩ | ⟨g, cap, cur, e, _⟩
      · injection e with e; exact absurd e h0
      · injection e with e; exact ⟨g, e⟩
    subst hA
    have x2 : ∀ j u, cs6[j]? = some u → w.cell? ((⟨g, 0, none⟩ : Addr).add j) = some u := fun j u hu => by
      rw [add_mid, Nat.zero_add]; exact own_cells hsrc j u hu
    obtain ⟨v', w', r1, r2, r3, _⟩ := run_append_own (P := Tryz.prog) w base 24 ty 40 i0 _ 4 56 Tryz.underlying24 hi hz0 hz1 hz2 rfl (by decide) v j cs hown ⟨g, 0, none⟩ m c cs6 hl x2 h1 (by unfold maxLen; omega) (by omega) hbase
    exact ⟨v', w', r1, r2, r3⟩
theorem wp_row_append {ops : Array Oper} {rest : List Oper} {o : Oper} {a : Act} {Q : Exit → Act → World → Prop} (w : World) (hgd : o.guard = none) (s x : Operand)
    (ho : o.op = .call { callee := .builtin .append, args := #[s, x], argTypes := #[24, 24] }) (base : Nat) (v : Value) (j : Nat) (cs : List Value) (hs : a.eval s = v) (hown : w.ownsRow base 40 4 v j cs) (hbase : base ≤ w.heap.size)
    (base2 : Nat) (A : Option Addr) (m c : Nat) (cs6 : List Value) (hsrc : w.ownsRow base2 40 4 (.slice A m c) m cs6) {w0 : World} {us : List Tree} (hr : CellsRead w0 cs6 us) (hlu : m = us.length) (hx : a.eval x = .slice A m c) (hj : j ≤ 1000000) (hm : m ≤ 1000000)
    (h : ∀ A' c' w', w'.ownsRow base 40 4 (.slice A' (j + m) c') (j + m) (cs ++ cs6) → w.grownBy w' v.ownBlock → wpList Tryz.prog ops Q rest (a.put o.dst (.slice A' (j + m) c')) w') : wpList Tryz.prog ops Q (o :: rest) a w := by
  obtain ⟨v', w', hr', h1, h3⟩ := run_row_append w o.type base hbase v j cs hown base2 A m c cs6 hsrc (by rw [hlu]; exact hr.1) hr.one hj hm
  obtain ⟨A', c', rfl, _, _⟩ := own_form h1
  exact Lib.wpList_append_run w hgd s x _ _ ho _ _ hs hx _ _ hr' (h _ _ _ h1 h3)
set_option maxRecDepth 20000 in
set_option maxHeartbeats 20000000 in
theorem l_apart (p q : Edt) (k : Nat) (pA : Option Addr) (pn pc : Nat) (i j : Int) (f t : ByteArray) (oA : Option Addr) (on oc : Nat) (nA : Option Addr) (nn nc : Nat) (k' : Nat) (pA' : Option Addr) (pn' pc' : Nat) (i' j' : Int) (f' t' : ByteArray) (oA' : Option Addr) (on' oc' : Nat) (nA' : Option Addr) (nn' nc' : Nat) (w : World) (h : EditIs w p k pA pn pc i j f t oA on oc nA nn nc) (h' : EditIs w q k' pA' pn' pc' i' j' f' t' oA' on' oc' nA' nn' nc') (hE : EnvS w) (hf : p.fine) (hf' : q.fine) :
    Calls Tryz.prog 4 #[.agg #[.int .u8 k, .slice pA pn pc, .int .i64 i, .int .i64 j, .string f, .string t, .slice oA on oc, .slice nA nn nc], .agg #[.int .u8 k', .slice pA' pn' pc', .int .i64 i', .int .i64 j', .string f', .string t', .slice oA' on' oc', .slice nA' nn' nc']] w (NamePost true w) := by
  have H := Lib.hid h
  have H' := Lib.hid h'
  have HE := Lib.hid hE
  have HF := Lib.hid hf
  have HF' := Lib.hid hf'
  have hb0 : Below w.heap.size w ((w.alloc (.cells #[.int .u8 k, .slice pA pn pc, .int .i64 i, .int .i64 j, .string f, .string t, .slice oA on oc, .slice nA nn nc] 26)).alloc (.cells #[.int .u8 k', .slice pA' pn' pc', .int .i64 i', .int .i64 j', .string f', .string t', .slice oA' on' oc', .slice nA' nn' nc'] 26)) := bel_alloc (bel_alloc (Below.refl _ _) _) _
  have HB0 := Lib.hid hb0
  have HP0 : Hid (((w.alloc (.cells #[.int .u8 k, .slice pA pn pc, .int .i64 i, .int .i64 j, .string f, .string t, .slice oA on oc, .slice nA nn nc] 26)).alloc (.cells #[.int .u8 k', .slice pA' pn' pc', .int .i64 i', .int .i64 j', .string f', .string t', .slice oA' on' oc', .slice nA' nn' nc'] 26)).heap[w.heap.size]? = some (.cells #[.int .u8 k, .slice pA pn pc, .int .i64 i, .int .i64 j, .string f, .string t, .slice oA on oc, .slice nA nn nc] 26 (0, 0))) := (heap_alloc_old _ _ (by simp)).trans (heap_alloc_new _ _)
  have HQ0 : Hid (((w.alloc (.cells #[.int .u8 k, .slice pA pn pc, .int .i64 i, .int .i64 j, .string f, .string t, .slice oA on oc, .slice nA nn nc] 26)).alloc (.cells #[.int .u8 k', .slice pA' pn' pc', .int .i64 i', .int .i64 j', .string f', .string t', .slice oA' on' oc', .slice nA' nn' nc'] 26)).heap[w.heap.size + 1]? = some (.cells #[.int .u8 k', .slice pA' pn' pc', .int .i64 i', .int .i64 j', .string f', .string t', .slice oA' on' oc', .slice nA' nn' nc'] 26 (0, 0))) := heap_alloc_at (by simp)
  clear h h' hE hf hf' hb0
  go_enter Tryz.func4, Tryz.ntmps4
  go_wp2_with fail
  refine (p_awake _ (HE.out.below HB0.out (Nat.le_refl _))).mono ?_
  rintro en w1 ⟨rfl, hb⟩
  have HB1 := Lib.hid (bthen HB0.out hb)
  have HP1 := Lib.hid ((hb.block _ (Array.getElem?_eq_some_iff.1 HP0.out).1).trans HP0.out)
  have HQ1 := Lib.hid ((hb.block _ (Array.getElem?_eq_some_iff.1 HQ0.out).1).trans HQ0.out)
  clear hb
  go_upto_region 3 with fail
  refine ap_r3 p q _ _ _ _ _ _ _ _ _ _ _ _ _ _ _ _ _ _ _ _ _ _ _ _ _ _ _ _  w w1 H.out H'.out HE.out HF.out HF'.out HB1.out HP1.out HQ1.out _ _ _ _ _ _ _ _ _ _ _ _ _ _ _ _ _ _ _ _ _ _ _ _ _ _ _ _ _ _ _ _ _ _ _ _ _ _ _ _ _ _ _ _ _ _ _ _ _ _ _ _ _ _ _ _ _ _ _ _ _ _ _ _ _ _ _ _ _ _ _ _ _ _ _ _ _ _ _ _ _ _ _ _ _ _ _ _ _ _ _ _ _ _ _ _ _ _ _ _ _ _ _ _ _ _ _ _ _ _ _ _ _ _ _ _ _ _ _ _ _ _ _ _ _ _ _ _ _ _ _ _ _ _ _ _ _ _ _ _ _  _ ?_
  intro v17 v18 v19 v20 v21 v22 v23 v24 v25 v26 v27 v28 v29 v30 v31 v32 v33 v34 v35 v36 v37 v38 v39 v40 v41 v42 v43 v44 v45 v46 v47 v48 v49 v50 v51 v52 v53 w3 hb
  have HB3 := Lib.hid (bthen HB1.out hb)
  have HP3 := Lib.hid ((hb.block _ (Array.getElem?_eq_some_iff.1 HP1.out).1).trans HP1.out)
  have HQ3 := Lib.hid ((hb.block _ (Array.getElem?_eq_some_iff.1 HQ1.out).1).trans HQ1.out)
  clear hb
  cases hc : apartB p q with
  | true =>
    go_wp2_with fail
    go_ret
    exact NamePost.intro rfl HB3.out
  | false =>
    obtain ⟨hs, hr, hr', _⟩ := apart_of hc
    obtain ⟨ht, ht'⟩ := small_two hs
    have HC := Lib.hid hc
    have HT := Lib.hid ht
    have HT' := Lib.hid ht'
    obtain ⟨ps, os, ns, he, hp, ho, hn⟩ := H.out
    obtain ⟨ps', os', ns', he', hp', ho', hn'⟩ := H'.out
    have HO := Lib.hid ho
    have HN := Lib.hid hn
    have HO' := Lib.hid ho'
    have HN' := Lib.hid hn'
    have so : szL os ≤ 60 := by have := tiny_olds ht; rw [he] at this; exact this
    have sn : szL ns ≤ 60 := by have := tiny_news ht; rw [he] at this; exact this
    have so' : szL os' ≤ 60 := by have := tiny_olds ht'; rw [he'] at this; exact this
    have sn' : szL ns' ≤ 60 := by have := tiny_news ht'; rw [he'] at this; exact this
    have HLn : Hid (on + nn = (os ++ ns).length) := by show _ = _; rw [List.length_append, ho.1, hn.1]
    have HLn' : Hid (on' + nn' = (os' ++ ns').length) := by show _ = _; rw [List.length_append, ho'.1, hn'.1]
    have hon : on ≤ 60 := by rw [ho.1]; exact Nat.le_trans (len_sz os) so
    have hnn : nn ≤ 60 := by rw [hn.1]; exact Nat.le_trans (len_sz ns) sn
    have hon' : on' ≤ 60 := by rw [ho'.1]; exact Nat.le_trans (len_sz os') so'
    have hnn' : nn' ≤ 60 := by rw [hn'.1]; exact Nat.le_trans (len_sz ns') sn'
    have HSH : Hid (shortL 281474976710656 (os ++ ns)) := short_append (by have := tiny_sho ht (L := 281474976710656) (by omega); rw [he] at this; exact this) (by have := tiny_shn ht (L := 281474976710656) (by omega); rw [he] at this; exact this)
    have HSH' : Hid (shortL 281474976710656 (os' ++ ns')) := short_append (by have := tiny_sho ht' (L := 281474976710656) (by omega); rw [he'] at this; exact this) (by have := tiny_shn ht' (L := 281474976710656) (by omega); rw [he'] at this; exact this)
    have HSZ : Hid (szL (os ++ ns) ≤ 1000000) := by show _ ≤ _; rw [sz_append]; omega
    have HSZ' : Hid (szL (os' ++ ns') ≤ 1000000) := by show _ ≤ _; rw [sz_append]; omega
    have HPE := Lib.hid he
    have HQE := Lib.hid he'
    clear hc hs hr hr' ht ht' ho hn ho' hn' so sn so' sn' he he' hp hp'
    go_upto_region 5 with fail
    refine ap_r5 os ns _ _ _ _ _ _ oA on oc nA nn nc w w3 w.heap.size HB3.out HP3.out HO.out HN.out (by omega) (by omega) _ _ _ _ _ _ _ _ _ _ _ _ _ _ _ _ _ _ _ _ _ _ _ _ _ _ _ _ _ _ _ _ _ _ _ _ _ _ _ _ _ _ _ _ _ _ _ _ _ _ _ _ _ _ _ _ _ _ _ _ _ _ _ _ _ _ _ _ _ _ _ _ _ _ _ _ _ _ _ _ _ _ _ _ _ _ _ _ _ _ _ _ _ _ _ _ _ _ _ _ _ _ _ _ _ _ _ _ _ _ _ _ _ _ _ _ _ _ _ _ _ _ _ _ _ _ _ _ _ _ _ _ _ _ _ _ _ _ _ _ _ _  _ ?_
    intro A5 c5 u55 u56 u57 u58 u59 u60 u61 w5 HD5 HA5
    have HB5 := Lib.hid (bthen HB3.out HD5.out)
    have HP5 := Lib.hid ((HD5.out.block _ (Array.getElem?_eq_some_iff.1 HP3.out).1).trans HP3.out)
    have HQ5 := Lib.hid ((HD5.out.block _ (Array.getElem?_eq_some_iff.1 HQ3.out).1).trans HQ3.out)
    go_upto_region 6 with fail
    refine ap_r6 os' ns' _ _ _ _ _ _ oA' on' oc' nA' nn' nc' w w5 (w.heap.size + 1) HB5.out HQ5.out HO'.out HN'.out (by omega) (by omega) _ _ _ _ _ _ _ _ _ _ _ _ _ _ _ _ _ _ _ _ _ _ _ _ _ _ _ _ _ _ _ _ _ _ _ _ _ _ _ _ _ _ _ _ _ _ _ _ _ _ _ _ _ _ _ _ _ _ _ _ _ _ _ _ _ _ _ _ _ _ _ _ _ _ _ _ _ _ _ _ _ _ _ _ _ _ _ _ _ _ _ _ _ _ _ _ _ _ _ _ _ _ _ _ _ _ _ _ _ _ _ _ _ _ _ _ _ _ _ _ _ _ _ _ _ _ _ _ _ _ _ _ _ _ _ _ _ _ _ _ _ _  _ ?_
    intro A6 c6 u62 u63 u64 u65 u66 u67 u68 w6 HD6 HA6
    have HB6 := Lib.hid (bthen HB5.out HD6.out)
    have HP6 := Lib.hid ((HD6.out.block _ (Array.getElem?_eq_some_iff.1 HP5.out).1).trans HP5.out)
    have HQ6 := Lib.hid ((HD6.out.block _ (Array.getElem?_eq_some_iff.1 HQ5.out).1).trans HQ5.out)
    have HK6 : Hid (KidsAt w6 (os ++ ns) A5 (on + nn) c5) := (kids_done HA5.out HLn.out HB5.out).below HD6.out
    have HK6' : Hid (KidsAt w6 (os' ++ ns') A6 (on' + nn') c6) := kids_done HA6.out HLn'.out HB6.out
    go_wp2_with fail
    refine (p_names (os ++ ns) A5 (on + nn) c5 _ HK6.out HSH.out HSZ.out).mono ?_
    rintro en w7 ⟨va, rfl, hb, ss, hss, hsl, hown⟩
    have HB7 := Lib.hid (bthen HB6.out hb)
    have HP7 := Lib.hid ((hb.block _ (Array.getElem?_eq_some_iff.1 HP6.out).1).trans HP6.out)
    have HQ7 := Lib.hid ((hb.block _ (Array.getElem?_eq_some_iff.1 HQ6.out).1).trans HQ6.out)
    have HK7' := Lib.hid (HK6'.out.below hb)
    have HM := Lib.hid hss
    obtain ⟨Aa, ca, rfl, _, _⟩ := own_form hown
    have HSA := Lib.hid (strs_own hown rfl)
    have HD7 := Lib.hid (bthen HD6.out hb)
    have HX7 := Lib.hid hb
    clear hb hss hsl hown
    go_wp2_with fail
    refine (p_names (os' ++ ns') A6 (on' + nn') c6 _ HK7'.out HSH'.out HSZ'.out).mono ?_
    rintro en w8 ⟨vb, rfl, hb, ss', hss, hsl, hown⟩
    have HB8 := Lib.hid (bthen HB7.out hb)
    have HP8 := Lib.hid ((hb.block _ (Array.getElem?_eq_some_iff.1 HP7.out).1).trans HP7.out)
    have HQ8 := Lib.hid ((hb.block _ (Array.getElem?_eq_some_iff.1 HQ7.out).1).trans HQ7.out)
    have HM' := Lib.hid hss
    obtain ⟨Ab, cb, rfl, _, _⟩ := own_form hown
    have HSB := Lib.hid (strs_own hown rfl)
    have HSA8 := Lib.hid (HSA.out.below hb)
    have HD8 := Lib.hid (bthen HD7.out hb)
    have HX8 := Lib.hid (bthen HX7.out hb)
    clear hb hss hsl hown
    obtain ⟨⟨p0, p1, p2, p3, p4, p5, p6, p7⟩, ⟨q0, q1, q2, q3, q4, q5, q6, q7⟩⟩ := ap_S HP8.out HQ8.out (Below.refl _ _)
    go_upto_if 75 with fail
    go_cut [7] (fun v wr => Hid (Below w8.heap.size w8 wr) ∧ Hid (NamesAt wr p v))
    case first =>
      by_cases hk : k = 1
      · subst hk
        have hkb : ((1 : Int) == 1) = true := rfl
        go_wp2_with fail
        go_meet
        case rel =>
          refine ⟨bel_alloc (Below.refl _ _) _, [bl f, bl t], _, _, _, rfl, ?_, two_strsT (heap_alloc_new _ _)⟩
          have h1 := names_one (e := p) (by rw [HPE.out])
          rw [HPE.out] at h1 ⊢
          exact h1
      · have hkb : ((k : Int) == 1) = false := by simp; omega
        go_wp2_with fail
        go_meet
        case rel =>
          refine ⟨Below.refl _ _, ss, _, _, _, rfl, ?_, HSA8.out⟩
          have h1 := HM.out
          rw [HPE.out]
          exact names_rest hk h1
    case rest =>
      obtain ⟨HDa, HNa⟩ := hcut
      obtain ⟨w9, rfl⟩ : ∃ x, x = wc := ⟨_, rfl⟩
      clear p0 p1 p2 p3 p4 p5 p6 p7 q0 q1 q2 q3 q4 q5 q6 q7
      have HB9 := Lib.hid (bthen HB8.out HDa.out)
      have HP9 := Lib.hid ((HDa.out.block _ (Array.getElem?_eq_some_iff.1 HP8.out).1).trans HP8.out)
      have HQ9 := Lib.hid ((HDa.out.block _ (Array.getElem?_eq_some_iff.1 HQ8.out).1).trans HQ8.out)
      have HSB9 := Lib.hid (HSB.out.below HDa.out)
      have HD9 := Lib.hid (bthen HD8.out HDa.out)
      have HX9 := Lib.hid (bthen HX8.out HDa.out)
      obtain ⟨⟨p0, p1, p2, p3, p4, p5, p6, p7⟩, ⟨q0, q1, q2, q3, q4, q5, q6, q7⟩⟩ := ap_S HP9.out HQ9.out (Below.refl _ _)
      go_upto_if 83 with fail
      go_cut [8] (fun v wr => Hid (Below w9.heap.size w9 wr) ∧ Hid (NamesAt wr q v))
      case first =>
        by_cases hk : k' = 1
        · subst hk
          have hkb : ((1 : Int) == 1) = true := rfl
          go_wp2_with fail
          go_meet
          case rel =>
            refine ⟨bel_alloc (Below.refl _ _) _, [bl f', bl t'], _, _, _, rfl, ?_, two_strsT (heap_alloc_new _ _)⟩
            have h1 := names_one (e := q) (by rw [HQE.out])
            rw [HQE.out] at h1 ⊢
            exact h1
        · have hkb : ((k' : Int) == 1) = false := by simp; omega
          go_wp2_with fail
          go_meet
          case rel =>
            refine ⟨Below.refl _ _, ss', _, _, _, rfl, ?_, HSB9.out⟩
            have h1 := HM'.out
            rw [HQE.out]
            exact names_rest hk h1
      case rest =>
        obtain ⟨HDb, HNb⟩ := hcut
        obtain ⟨w10, rfl⟩ : ∃ x, x = wc := ⟨_, rfl⟩
        clear p0 p1 p2 p3 p4 p5 p6 p7 q0 q1 q2 q3 q4 q5 q6 q7
        have HB10 := Lib.hid (bthen HB9.out HDb.out)
        have HP10 := Lib.hid ((HDb.out.block _ (Array.getElem?_eq_some_iff.1 HP9.out).1).trans HP9.out)
        have HQ10 := Lib.hid ((HDb.out.block _ (Array.getElem?_eq_some_iff.1 HQ9.out).1).trans HQ9.out)
        have HD10 := Lib.hid (bthen HD9.out HDb.out)
        have HX10 := Lib.hid (bthen HX9.out HDb.out)
        obtain ⟨la, La, na, ca, rfl, hma, hsa⟩ := (HNa.out.below HDb.out)
        obtain ⟨lb, Lb, nb, cb, rfl, hmb, hsb⟩ := HNb.out
        have HMa := Lib.hid hma
        have HMb := Lib.hid hmb
        have HLa := Lib.hid hsa.1
        have HLb := Lib.hid hsb.1
        clear hma hmb hsa hsb HNa HNb HSA HSB HSA8 HSB9 HM HM'
        have hna : (na : Int) ≤ 9223372036854775807 := by have h1 := HLa.out.2.1; have h2 := HLa.out.2.2.1; unfold maxLen at h2; omega
        have hnb : (nb : Int) ≤ 9223372036854775807 := by have h1 := HLb.out.2.1; have h2 := HLb.out.2.2.1; unfold maxLen at h2; omega
        go_wp2_with fail
        go_loopw [9] (fun iv wr => ∃ i : Nat, i ≤ na ∧ iv = .int .i64 i ∧ Hid (Below w10.heap.size w10 wr) ∧ Hid (∀ m s, m < i → la[m]? = some s → s ∉ lb)) (fun iv _ => na - (intOf iv).toNat)
        case atStart => exact ⟨0, Nat.zero_le _, rfl, Below.refl _ _, fun m s hm => absurd hm (Nat.not_lt_zero _)⟩
        case round =>
          obtain ⟨i, hi, rfl, HBi, HIi⟩ := hrel
          by_cases hlt : i < na
          · obtain ⟨ba, oa, s, rfl, hs, hcs⟩ := HLa.out.get hlt
            have HS1 := Lib.hid hs
            have HCS := Lib.hid hcs
            clear hs hcs
            go_wp2_with fail
            go_loopw [10] (fun kv wx => ∃ kk : Nat, kk ≤ nb ∧ kv = .int .i64 kk ∧ Hid (Below w10.heap.size w10 wx) ∧ Hid (∀ m t, m < kk → lb[m]? = some t → s ≠ t)) (fun kv _ => nb - (intOf kv).toNat)
            case atStart => exact ⟨0, Nat.zero_le _, rfl, HBi.out, fun m t hm => absurd hm (Nat.not_lt_zero _)⟩
            case round =>
              obtain ⟨kk, hkk, rfl, HBk, HIk⟩ := hrel
              by_cases hltk : kk < nb
              · obtain ⟨bb, ob, t, rfl, ht, hct⟩ := HLb.out.get hltk
                have HT1 := Lib.hid ht
                have y1 := cell_below HBk.out HCS.out
                have y2 := cell_below HBk.out hct
                clear ht hct
                by_cases hst : s = t
                · subst hst
                  go_wp2_with fail
                  go_quiet (fail)
                  go_wp2_with fail
                  go_ret
                  exact NamePost.intro rfl (bthen HB10.out (bel_drew HBk.out _))
                · have e1 : (s == t) = false := by simpa using hst
                  go_wp2_with fail
                  go_quiet (fail)
                  go_wp2_with fail
                  go_roundw
                  case rel => exact ⟨kk + 1, by omega, by go_num, bel_drew HBk.out _, fun m t' hm ht' => by
                    by_cases h : m < kk
                    · exact HIk.out m t' h ht'
                    · have e : m = kk := by omega
                      subst e
                      rw [HT1.out] at ht'
                      injection ht' with ht'
                      rw [← ht']
                      exact hst⟩
                  case measure => simp [intOf]; omega
              · have HIk2 : Hid (s ∉ lb) := by
                  intro hm
                  obtain ⟨m, hm1, hm2⟩ := List.getElem_of_mem hm
                  exact HIk.out m s (by have := HLb.out.1; omega) (by rw [List.getElem?_eq_getElem hm1, hm2]) rfl
                go_wp2_with fail
                go_roundw
                case rel => exact ⟨i + 1, by omega, by go_num, HBk, fun m s' hm hs' => by
                  by_cases h : m < i
                  · exact HIi.out m s' h hs'
                  · have e : m = i := by omega
                    subst e
                    rw [HS1.out] at hs'
                    injection hs' with hs'
                    rw [← hs']
                    exact HIk2.out⟩
                case measure => simp [intOf]; omega
          · have HNM : Hid (∀ s, s ∈ p.names → s ∉ q.names) := by
              intro s h1 h2
              obtain ⟨m, hm1, hm2⟩ := List.getElem_of_mem ((HMa.out s).2 h1)
              exact HIi.out m s (by have := HLa.out.1; omega) (by rw [List.getElem?_eq_getElem hm1, hm2]) ((HMb.out s).2 h2)
            clear HIi
            have HB11 := Lib.hid (bthen HB10.out HBi.out)
            have HP11 := Lib.hid ((HBi.out.block _ (Array.getElem?_eq_some_iff.1 HP10.out).1).trans HP10.out)
            have HQ11 := Lib.hid ((HBi.out.block _ (Array.getElem?_eq_some_iff.1 HQ10.out).1).trans HQ10.out)
            have HD11 := Lib.hid (bthen HD10.out HBi.out)
            have HE11 : Hid (Below w6.heap.size w6 wr) := bthen HX10.out HBi.out
            have hlp3 := (Array.getElem?_eq_some_iff.1 HP3.out).1
            have hlq3 := (Array.getElem?_eq_some_iff.1 HQ3.out).1
            obtain ⟨cs5, ho5, hr5⟩ := HA5.out
            obtain ⟨cs6, ho6, hr6⟩ := HA6.out
            have HR5 := Lib.hid (hr5.append hr6)
            have HR6 := Lib.hid hr6
            have hsz11 : w3.heap.size ≤ wr.heap.size := Nat.le_trans HD5.out.size HD11.out.size
            have HOW := Lib.hid (own_below ho5 HD11.out (Nat.le_refl _))
            have HOS := Lib.hid (own_below ho6 HE11.out (Nat.le_refl _))
            have HSz := Lib.hid hsz11
            clear ho5 hr5 ho6 hr6 hsz11
            go_wp2_with (at_builtin; go_must (refine wp_row_append _ rfl _ _ rfl w3.heap.size _ (on + nn) cs5 rfl HOW.out HSz.out w5.heap.size A6 (on' + nn') c6 cs6 HOS.out HR6.out HLn'.out rfl (by omega) (by omega) ?_); intro A7 c7 w12 ho7 hg7)
            have hb12 : Below w3.heap.size wr w12 := below_grown HOW.out hg7 (Nat.le_refl _) HSz.out
            have HB12 := Lib.hid (HB11.out.trans (hb12.mono HB3.out.size))
            have HP12 := Lib.hid ((hb12.block _ hlp3).trans HP11.out)
            have HQ12 := Lib.hid ((hb12.block _ hlq3).trans HQ11.out)
            obtain ⟨all, hall⟩ : ∃ all, all = (os ++ ns) ++ (os' ++ ns') := ⟨_, rfl⟩
            have HALL := Lib.hid hall
            have hlen : on + nn + (on' + nn') = all.length := by rw [hall, List.length_append, ← HLn.out, ← HLn'.out]
            have HLEN := Lib.hid hlen
            have HK12 : Hid (KidsAt w12 all A7 (on + nn + (on' + nn')) c7) := by
              rw [hall] at hlen ⊢
              exact kids_done ⟨_, ho7, HR5.out⟩ hlen HB12.out
            clear ho7 hg7 hb12 hall hlen hlp3 hlq3
            obtain ⟨N, hN⟩ : ∃ N, N = on + nn + (on' + nn') := ⟨_, rfl⟩
            have hNi : (on : Int) + nn + (on' + nn') = N := by omega
            rw [← hN] at HK12 HLEN
            have hNle : N ≤ 240 := by omega
            clear hN
            go_wp2_with fail
            go_loopw [11] (fun iv wr => ∃ m : Nat, m ≤ N ∧ iv = .int .i64 m ∧ Hid (Below w12.heap.size w12 wr) ∧ Hid (callsL (all.take m) = false)) (fun iv _ => N - (intOf iv).toNat)
            case atStart => exact ⟨0, Nat.zero_le _, rfl, Below.refl _ _, by show _ = _; simp [callsL]⟩
            case round =>
              obtain ⟨m, hm, rfl, HBm, HIm⟩ := hrel
              by_cases hlt : m < N
              · obtain ⟨b, o, t, rfl, ht, hat⟩ := (HK12.out.below HBm.out).get hlt
                obtain ⟨B1, d1, z0, z1, z2, z3, hnode⟩ := hat.cells
                have HND := Lib.hid hnode
                have HCS := Lib.hid (callsL_step ht)
                clear ht hat hnode
                go_wp2_with fail
                refine (l_calls t _ _ _ _ _ _ _ HND.out).mono ?_
                rintro en w13 ⟨rfl, hb⟩
                have HB13 := Lib.hid (bthen HBm.out hb)
                clear hb
                cases hct : t.calls with
                | true =>
                  go_wp2_with fail
                  go_ret
                  exact NamePost.intro rfl (bthen HB12.out HB13.out)
                | false =>
                  go_wp2_with fail
                  go_roundw
                  case rel => exact ⟨m + 1, by omega, by go_num, HB13, by show _ = _; rw [HCS.out, HIm.out, hct]; rfl⟩
                  case measure => simp [intOf]; omega
              · have HCM : Hid (commuteE p q = .ok (q, p)) := by
                  have h1 := HIm.out
                  rw [List.take_of_length_le (by have := HLEN.out; omega), HALL.out] at h1
                  refine apart_commute HC.out HNM.out ?_
                  rw [HPE.out, HQE.out]
                  exact h1
                obtain ⟨w13, rfl⟩ : ∃ x, x = wr := ⟨_, rfl⟩
                have HB13 := Lib.hid (bthen HB12.out HBm.out)
                have HP13 := Lib.hid ((HBm.out.block _ (Array.getElem?_eq_some_iff.1 HP12.out).1).trans HP12.out)
                have HQ13 := Lib.hid ((HBm.out.block _ (Array.getElem?_eq_some_iff.1 HQ12.out).1).trans HQ12.out)
                obtain ⟨⟨p0, p1, p2, p3, p4, p5, p6, p7⟩, ⟨q0, q1, q2, q3, q4, q5, q6, q7⟩⟩ := ap_S HP13.out HQ13.out (Below.refl _ _)
                go_wp2_with fail
                refine (p_commute p q _ _ _ _ _ _ _ _ _ _ _ _ _ _ _ _ _ _ _ _ _ _ _ _ _ _ _ _  _ (H.out.below HB13.out) (H'.out.below HB13.out) (HE.out.below HB13.out (Nat.le_refl _)) HT.out HT'.out).mono ?_
                intro en w14 hc
                rw [HCM.out] at hc
                obtain ⟨hb, av, bv, rfl, hx, hy⟩ := hc
                obtain ⟨kx, pAx, pnx, pcx, ix, jx, fx, tx, oAx, onx, ocx, nAx, nnx, ncx, rfl, hex⟩ := hx
                obtain ⟨ky, pAy, pny, pcy, iy, jy, fy, ty, oAy, ony, ocy, nAy, nny, ncy, rfl, hey⟩ := hy
                have HB14 := Lib.hid (bthen HB13.out hb)
                have HX14 := Lib.hid hex.1
                have HY14 := Lib.hid hey.1
                have HP14 := Lib.hid ((hb.block _ (Array.getElem?_eq_some_iff.1 HP13.out).1).trans HP13.out)
                have HQ14 := Lib.hid ((hb.block _ (Array.getElem?_eq_some_iff.1 HQ13.out).1).trans HQ13.out)
                clear hb hex hey p0 p1 p2 p3 p4 p5 p6 p7 q0 q1 q2 q3 q4 q5 q6 q7
                obtain ⟨⟨p0, p1, p2, p3, p4, p5, p6, p7⟩, ⟨q0, q1, q2, q3, q4, q5, q6, q7⟩⟩ := ap_S HP14.out HQ14.out (Below.refl _ _)
                have hlp := (Array.getElem?_eq_some_iff.1 HP14.out).1
                have hlq := (Array.getElem?_eq_some_iff.1 HQ14.out).1
                go_wp2_with fail
                have hby : Below w14.heap.size w14 ((w14.alloc (.cells #[.int .u8 kx, .slice pAx pnx pcx, .int .i64 ix, .int .i64 jx, .string fx, .string tx, .slice oAx onx ocx, .slice nAx nnx ncx] 26)).alloc (.cells #[.int .u8 ky, .slice pAy pny pcy, .int .i64 iy, .int .i64 jy, .string fy, .string ty, .slice oAy ony ocy, .slice nAy nny ncy] 26)) := bel_alloc (bel_alloc (Below.refl _ _) _) _
                refine (k_same_edit q q _ _ _ _ _ _ _ _ _ _ _ _ _ _ _ _ _ _ _ _ _ _ _ _ _ _ _ _  _ (HX14.out.below hby) (H'.out.below (bthen HB14.out hby))).mono ?_
                rintro en w15 ⟨rfl, hb⟩
                have eq : q.same q = true := (Edt.same_iff _ _).2 rfl
                rw [eq]
                have hb15 := bthen hby hb
                have HB15 := Lib.hid (bthen HB14.out hb15)
                have HY15 := Lib.hid (HY14.out.below hb15)
                have HM15 : Hid (w15.heap[w14.heap.size + 1]? = some (.cells #[.int .u8 ky, .slice pAy pny pcy, .int .i64 iy, .int .i64 jy, .string fy, .string ty, .slice oAy ony ocy, .slice nAy nny ncy] 26 (0, 0))) := (hb.block _ (by simp)).trans (heap_alloc_at (by simp))
                have HP15 := Lib.hid ((hb15.block _ (Array.getElem?_eq_some_iff.1 HP14.out).1).trans HP14.out)
                clear hb hb15 hby p0 p1 p2 p3 p4 p5 p6 p7 q0 q1 q2 q3 q4 q5 q6 q7 hlp hlq
                obtain ⟨p0, p1, p2, p3, p4, p5, p6, p7⟩ := (boxF8 HP15.out).cs
                obtain ⟨m0, m1, m2, m3, m4, m5, m6, m7⟩ := (boxF8 HM15.out).cs
                go_wp2_with fail
                refine (k_same_edit p p _ _ _ _ _ _ _ _ _ _ _ _ _ _ _ _ _ _ _ _ _ _ _ _ _ _ _ _  w15 HY15.out (H.out.below HB15.out)).mono ?_
                rintro en w16 ⟨rfl, hb⟩
                have ep : p.same p = true := (Edt.same_iff _ _).2 rfl
                rw [ep]
                have HB16 := Lib.hid (bthen HB15.out hb)
                clear hb
                go_wp2_with fail
                go_ret
                exact NamePost.intro rfl HB16.out
end Go.Proofs.YtmikjhohnfcedaaGreatDoor

namespace Go.Proofs.YtmikjhohnfcedaaGreatDoor
set_option linter.unusedSimpArgs false
set_option linter.unusedVariables false
open Go.ChangeShapes Go.WideShapes Go.ChangeAt Go.RowKit
set_option linter.unusedSimpArgs false

/-- The door's own heap meets the list. -/
theorem swapApart_met (os : Os) (args : Array Value) : laidMetH Tryz.prog Rows.swapApartRow.laid ((World.doorLaid Tryz.prog 33 os).forCall (fun _ _ => 0) ⟨#[], args, []⟩).memory :=
  laidMetH_of_parts3 (fuel := 8) (laidMet_of_run' 8 (by kernel_rfl) (by kernel_rfl)) (by kernel_rfl) (by kernel_rfl)
set_option maxRecDepth 100000 in
theorem swapApart_lifted (os : Os) (started : os.Started) (H : Type) (enc : TypeId × Value → H) :
    ReturnsInHanded {} Tryz.checked os 4 .any (fun w args => (Rows.swapApartSpec.pre enc Tryz.prog Tryz.f4 [] false w args ∧ laidMetH Tryz.prog Rows.swapApartRow.laid w) ∧ sizedMet enc Tryz.prog Tryz.f4 (OpenSpec.ofChange Rows.swapApartSpec) false w args)
      (Rows.swapApartSpec.post enc Tryz.prog Tryz.f4 false true false false) := by
  refine returnsInHanded_of_change_and (C := Tryz.checked) (X := fun w _ => laidMetH Tryz.prog Rows.swapApartRow.laid w) (fun _ _ _ hh h => h.of_heap hh) own started (by kernel_rfl) Tryz.func4
    (ChangeSpec.witness_shaped (enc := enc) (C := Tryz.checked) (os := os) (X := fun w _ => laidMetH Tryz.prog Rows.swapApartRow.laid w) false (World.doorLaid Tryz.prog 33 os) #[.agg #[.int .u8 0, .slice none 0 0, .int .i64 0, .int .i64 0, .string ⟨#[]⟩, .string ⟨#[]⟩, .slice none 0 0, .slice none 0 0], .agg #[.int .u8 0, .slice none 0 0, .int .i64 0, .int .i64 0, .string ⟨#[]⟩, .string ⟨#[]⟩, .slice none 0 0, .slice none 0 0]] 8 rfl (World.shaped_of_RefB (by kernel_rfl) (by kernel_rfl)) (by kernel_rfl) (by kernel_rfl) (by kernel_rfl) (swapApart_met os _)) ?_
  intro W base args ds gs before hval0 hW _ hsz0 hL _
  have hval : ∀ (j : Nat) t v, Tryz.f4.params[j]? = some t → args[j]? = some v → Value.okWide Tryz.prog W .any base t v := hval0
  have hW' := hW
  have hlt := hW'.lt
  obtain ⟨p, q, hA0, hV, rfl, hfz, hnd⟩ := hW
  have hA : DataW.TrodAll enc Tryz.prog W 0 (fun _ => true) true Tryz.f4.params.toList args.toList ds p := hA0
  rw [Tryz.params4] at hA hval
  obtain ⟨v0, v1, d0, d1, p0, p1, rfl, rfl, rfl, h0, h1⟩ := trodAll_two hA
  obtain ⟨rfl, rfl⟩ := trodVars_none hV
  clear hA0 hV
  simp only [List.append_nil] at hW' hlt
  have hE := env_of_laidS hL
  have z0 : ∀ z ∈ d0.weights Tryz.prog 26, z ≤ reachBytes := fun z hz => by
    have := List.all_eq_true.1 hsz0 z (DataW.weights_mem_each (j := 0) (t := 26) (d := d0) (by rfl) (by rfl) z hz)
    simpa using this
  have z1 : ∀ z ∈ d1.weights Tryz.prog 26, z ≤ reachBytes := fun z hz => by
    have := List.all_eq_true.1 hsz0 z (DataW.weights_mem_each (j := 1) (t := 26) (d := d1) (by rfl) (by rfl) z hz)
    simpa using this
  obtain ⟨e0, k, pA, pn, pc, i, j, f, t, oA, on, oc, nA, nn, nc, hv0, hI0, hf0⟩ := arg_edit (hval 0 26 v0 rfl rfl) h0
  obtain ⟨e1, k', pA', pn', pc', i', j', f', t', oA', on', oc', nA', nn', nc', hv1, hI1, hf1⟩ := arg_edit (hval 1 26 v1 rfl rfl) h1
  have hF0 := hf0 z0
  have hF1 := hf1 z1
  subst hv0 hv1
  clear hf0 hf1 z0 z1 hval hval0
  refine (l_apart e0 e1 k pA pn pc i j f t oA on oc nA nn nc k' pA' pn' pc' i' j' f' t' oA' on' oc' nA' nn' nc' W hI0 hI1 hE hF0 hF1).mono fun e W' ⟨he, hb⟩ => ?_
  subst he
  exact ⟨_, rfl, _, _, _, [], _, [], hW', trodAll_mk1 (shut_bool Tryz.underlying4 _), trodAll_mk2 (edit_stays h0 hb fun x hx => hlt x (by simp [hx])) (edit_stays h1 hb fun x hx => hlt x (by simp [hx])), rfl, hb.frame _, fun h => by cases h⟩

theorem swapApart_said : Rows.SwapApartSaid :=
  OpenClaim.holds_of_wide 4 Tryz.f4 rfl rfl rfl rfl rfl rfl rfl ⟨rfl, rfl, rfl, rfl, rfl⟩ rfl rfl rfl rfl rfl (by kernel_rfl) Tryz.func4 (by kernel_rfl)
    (of_decide_eq_true (by kernel_rfl)) (by unfold Func.isWrapper; first | (rw [if_pos (by decide +kernel)]; kernel_rfl) | (rw [if_neg (by decide +kernel)]; exact ⟨rfl, rfl⟩))
    (fun os started H enc _ => swapApart_lifted os started H enc)

/-- No parameter wants a stand-in; the program's own looks are what the card says. -/
theorem swapApart_plain (f : FuncId) (fn : Func) (hf : Tryz.pinned.checked.prog.funcNamed "clerestory/clerestorylaw16.SwapApart" = some f) (hfn : Tryz.pinned.checked.prog.funcs[f]? = some fn) :
    false = Tryz.pinned.checked.prog.looks [] ∧ ∀ (j : Nat) t, fn.params[j]? = some t → Tryz.pinned.checked.prog.wantsStandIn t = false := by
  obtain rfl : f = 4 := Option.some.inj ((show Tryz.prog.funcNamed "clerestory/clerestorylaw16.SwapApart" = some 4 by kernel_rfl).symm.trans hf) |>.symm
  obtain rfl : fn = Tryz.f4 := (Option.some.inj (Tryz.func4.symm.trans hfn)).symm
  refine ⟨by kernel_rfl, fun j t ht => ?_⟩
  rw [Tryz.params4] at ht
  have hm : t ∈ [26, 26] := by simpa using Array.mem_of_getElem? ht
  have hall : ([26, 26].all fun u => !Tryz.prog.wantsStandIn u) = true := by kernel_rfl
  exact (show Tryz.prog.wantsStandIn t = false by simpa using List.all_eq_true.1 hall t hm)
theorem swapApart_card : Rows.SwapApartCardSaid :=
  Claim7.holds_tied_plain_at .later [] _ _ _ _ swapApart_said (fun _ h => by cases h) (by kernel_rfl) (fun _ h => by cases h) swapApart_row_tie rfl ⟨rfl, rfl⟩ (by kernel_rfl) rfl swapApart_plain (by kernel_rfl)
#print axioms swapApart_card
end Go.Proofs.YtmikjhohnfcedaaGreatDoor
