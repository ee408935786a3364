/- Region 3 of Commute: two looks and two boxes, in whatever order.
   Edits in boxes of their own: stores into one box leave the other edits. No program in sight.
   Region 6 of Commute: four inversions and two boxes, in whatever order.
   Region 6 of Commute, over its thirty orders. -/
import Derived.Test.YtmikjhohnfcedaaGreatDoorBkL
namespace Go.Proofs.YtmikjhohnfcedaaGreatDoor
set_option linter.unusedSimpArgs false
set_option linter.unusedVariables false
open Go.RowKit
set_option linter.unusedSimpArgs false

set_option maxRecDepth 20000 in
set_option maxHeartbeats 20000000 in
theorem com_r3 (e e' : Edt) (k : Nat) (pA : Option Addr) (pn pc : Nat) (i j : Int) (f t : ByteArray) (oA : Option Addr) (on oc : Nat) (nA : Option Addr) (nn nc : Nat) (k' : Nat) (pA' : Option Addr) (pn' pc' : Nat) (i' j' : Int) (f' t' : ByteArray) (oA' : Option Addr) (on' oc' : Nat) (nA' : Option Addr) (nn' nc' : Nat) (w w2 : World) (B : Nat) (hwB : w.heap.size ≤ B)
    (h : EditIs w e k pA pn pc i j f t oA on oc nA nn nc) (h' : EditIs w e' k' pA' pn' pc' i' j' f' t' oA' on' oc' nA' nn' nc') (ht : e.tiny) (ht' : e'.tiny) (hr : editRight e = true) (hr' : editRight e' = true) (hB : Below w.heap.size w w2) (hC : CBox B (.int .u8 k) (.slice pA pn pc) (.int .i64 i) (.int .i64 j) (.string f) (.string t) (.slice oA on oc) (.slice nA nn nc) (.int .u8 k') (.slice pA' pn' pc') (.int .i64 i') (.int .i64 j') (.string f') (.string t') (.slice oA' on' oc') (.slice nA' nn' nc') w2)
    (z0 z1 z4 z5 z6 z7 z8 z9 z10 z11 z12 z13 z14 z15 z16 z17 z18 z19 z20 z21 z22 z23 z24 z25 z26 z27 z28 z29 z30 z31 z32 z33 z34 z35 z36 z37 z38 z39 z40 z41 z42 z43 z44 z45 z46 z47 z48 z49 z50 z51 z52 z53 z54 z55 z56 z57 z58 z59 z60 z61 z62 z63 z64 z65 z66 z67 z68 z69 z70 z71 z72 z73 z74 z75 z76 z77 z78 z79 z80 z81 z82 z83 z84 z85 z86 z87 z88 z89 z90 z91 z92 z93 z94 z95 z96 z97 : Value) (Q : Exit → Act → World → Prop) (hQ : ∀ g g' v24 v26 wx, Mid3 w B e e' k pA pn pc i j f t oA on oc nA nn nc k' pA' pn' pc' i' j' f' t' oA' on' oc' nA' nn' nc' g g' wx → Q .normal ⟨#[z0, z1, .pointer (some ⟨B, 0, none⟩), .pointer (some ⟨B + 1, 0, none⟩), z4, z5, z6, .pointer (some ⟨g, 0, none⟩), .pointer (some ⟨g', 0, none⟩), z9, z10, z11, z12, z13, z14, z15, z16, z17, z18, z19, z20, z21, z22, .agg #[.int .u8 k, .slice pA pn pc, .int .i64 i, .int .i64 j, .string f, .string t, .slice oA on oc, .slice nA nn nc], v24, .agg #[.int .u8 k', .slice pA' pn' pc', .int .i64 i', .int .i64 j', .string f', .string t', .slice oA' on' oc', .slice nA' nn' nc'], v26, z27, z28, z29, z30, z31, z32, z33, z34, z35, z36, z37, z38, z39, z40, z41, z42, z43, z44, z45, z46, z47, z48, z49, z50, z51, z52, z53, z54, z55, z56, z57, z58, z59, z60, z61, z62, z63, z64, z65, z66, z67, z68, z69, z70, z71, z72, z73, z74, z75, z76, z77, z78, z79, z80, z81, z82, z83, z84, z85, z86, z87, z88, z89, z90, z91, z92, z93, z94, z95, z96, z97], []⟩ wx) :
    ((regOf 3 (Tryz.f7.body.getD .skip)).getD .skip).wp Tryz.prog Q ⟨#[z0, z1, .pointer (some ⟨B, 0, none⟩), .pointer (some ⟨B + 1, 0, none⟩), z4, z5, z6, z7, z8, z9, z10, z11, z12, z13, z14, z15, z16, z17, z18, z19, z20, z21, z22, z23, z24, z25, z26, z27, z28, z29, z30, z31, z32, z33, z34, z35, z36, z37, z38, z39, z40, z41, z42, z43, z44, z45, z46, z47, z48, z49, z50, z51, z52, z53, z54, z55, z56, z57, z58, z59, z60, z61, z62, z63, z64, z65, z66, z67, z68, z69, z70, z71, z72, z73, z74, z75, z76, z77, z78, z79, z80, z81, z82, z83, z84, z85, z86, z87, z88, z89, z90, z91, z92, z93, z94, z95, z96, z97], []⟩ w2 := by
  have H := Lib.hid h
  have H' := Lib.hid h'
  have HT := Lib.hid ht
  have HT' := Lib.hid ht'
  have HR := Lib.hid hr
  have HR' := Lib.hid hr'
  have HB2 := Lib.hid hB
  have HC2 := Lib.hid hC
  have HQ := Lib.hid hQ
  have hs2 := hC.size
  obtain ⟨⟨c0, c1, c2, c3, c4, c5, c6, c7⟩, ⟨d0, d1, d2, d3, d4, d5, d6, d7⟩⟩ : Box8 w2 B (.int .u8 k) (.slice pA pn pc) (.int .i64 i) (.int .i64 j) (.string f) (.string t) (.slice oA on oc) (.slice nA nn nc) ∧ Box8 w2 (B + 1) (.int .u8 k') (.slice pA' pn' pc') (.int .i64 i') (.int .i64 j') (.string f') (.string t') (.slice oA' on' oc') (.slice nA' nn' nc') := ⟨(boxF8 hC.bx).cs, (boxF8 hC.bz).cs⟩
  clear h h' ht ht' hr hr' hB hC hQ
  conv in Option.getD (regOf _ _) _ => whnf
  go_region_held3 (fun w' => w'.cell? ⟨B, 0, none⟩ = some (.int .u8 k) ∧ w'.cell? ⟨B, 1, none⟩ = some (.slice pA pn pc) ∧ w'.cell? ⟨B, 2, none⟩ = some (.int .i64 i) ∧ w'.cell? ⟨B, 3, none⟩ = some (.int .i64 j) ∧ w'.cell? ⟨B, 4, none⟩ = some (.string f) ∧ w'.cell? ⟨B, 5, none⟩ = some (.string t) ∧ w'.cell? ⟨B, 6, none⟩ = some (.slice oA on oc) ∧ w'.cell? ⟨B, 7, none⟩ = some (.slice nA nn nc) ∧ w'.cell? ⟨B + 1, 0, none⟩ = some (.int .u8 k') ∧ w'.cell? ⟨B + 1, 1, none⟩ = some (.slice pA' pn' pc') ∧ w'.cell? ⟨B + 1, 2, none⟩ = some (.int .i64 i') ∧ w'.cell? ⟨B + 1, 3, none⟩ = some (.int .i64 j') ∧ w'.cell? ⟨B + 1, 4, none⟩ = some (.string f') ∧ w'.cell? ⟨B + 1, 5, none⟩ = some (.string t') ∧ w'.cell? ⟨B + 1, 6, none⟩ = some (.slice oA' on' oc') ∧ w'.cell? ⟨B + 1, 7, none⟩ = some (.slice nA' nn' nc')) ((refine com_S ?_; repeat (first | with_reducible exact HC4.out | with_reducible exact HC3.out | with_reducible exact HC2.out | with_reducible apply CBox.alloc | with_reducible apply CBox.drewN | with_reducible apply CBox.drew | with_reducible refine CBox.set ?_ (by dsimp only; omega))))
    (first
      | (go_at_call 16; refine (p_look e' _ _ _ _ _ _ _ _ _ _ _ _ _ _ _ (H'.out.below (bthen HB3.out (by (repeat (first | with_reducible exact Below.refl _ _ | with_reducible apply bel_alloc | with_reducible apply bel_drew | with_reducible apply bel_drew1))))) HT'.out HR'.out).mono ?_; rintro en w4 ⟨ns2, mA2, mn2, mc2, bA2, bn2, bc2, rfl, hm2, hst2, ht2, hb4⟩; have hbb4 : Below w3.heap.size w3 w4 := bthen (by (repeat (first | with_reducible exact Below.refl _ _ | with_reducible apply bel_alloc | with_reducible apply bel_drew | with_reducible apply bel_drew1))) hb4; have HB4 := Lib.hid (bthen HB3.out hbb4); have HC4 := Lib.hid (HC3.out.next hbb4); have hs4 := hbb4.size; (first | ((with_reducible have zc : ZB12 w4 w3.heap.size := ZB12.next ZB12.made hb4); have hlzc := ZB12.lt zc; obtain ⟨⟨zc0, zc1, zc2, zc3, zc4, zc5, zc6, zc7, zc8, zc9, zc10, zc11⟩, ⟨fzc0, fzc1, fzc2, fzc3, fzc4, fzc5, fzc6, fzc7, fzc8, fzc9, fzc10, fzc11⟩⟩ := box12 zc) | ((with_reducible have zc : ZB12 w4 w3.heap.size := ZB12.next ZB12.made.alloc hb4); have hlzc := ZB12.lt zc; obtain ⟨⟨zc0, zc1, zc2, zc3, zc4, zc5, zc6, zc7, zc8, zc9, zc10, zc11⟩, ⟨fzc0, fzc1, fzc2, fzc3, fzc4, fzc5, fzc6, fzc7, fzc8, fzc9, fzc10, fzc11⟩⟩ := box12 zc) | skip); (first | ((with_reducible have zd : ZB12 w4 (w3.heap.size + 1) := ZB12.next ZB12.made2 hb4); have hlzd := ZB12.lt zd; obtain ⟨⟨zd0, zd1, zd2, zd3, zd4, zd5, zd6, zd7, zd8, zd9, zd10, zd11⟩, ⟨fzd0, fzd1, fzd2, fzd3, fzd4, fzd5, fzd6, fzd7, fzd8, fzd9, fzd10, fzd11⟩⟩ := box12 zd) | skip); (try (have hne1 : ¬ w2.heap.size = w3.heap.size := Nat.ne_of_lt (ZB12.lt za); have hne2 : ¬ w3.heap.size = w2.heap.size := fun e => hne1 e.symm)); (try (replace za := ZB12.next za hbb4; have hlza := ZB12.lt za; obtain ⟨⟨za0, za1, za2, za3, za4, za5, za6, za7, za8, za9, za10, za11⟩, ⟨fza0, fza1, fza2, fza3, fza4, fza5, fza6, fza7, fza8, fza9, fza10, fza11⟩⟩ := box12 za)); (try (replace zb := ZB12.next zb hbb4; have hlzb := ZB12.lt zb; obtain ⟨⟨zb0, zb1, zb2, zb3, zb4, zb5, zb6, zb7, zb8, zb9, zb10, zb11⟩, ⟨fzb0, fzb1, fzb2, fzb3, fzb4, fzb5, fzb6, fzb7, fzb8, fzb9, fzb10, fzb11⟩⟩ := box12 zb)); have HM2 := Lib.hid hm2; have HST2 := Lib.hid hst2; have HBT2 := Lib.hid ht2; have HST1' := Lib.hid (HST1.out.below hbb4); have HBT1' := Lib.hid (HBT1.out.below hbb4); clear hm2 hst2 ht2 hb4 hbb4)
      | (go_at_call 16; refine (p_look e _ _ _ _ _ _ _ _ _ _ _ _ _ _ _ (H.out.below (bthen HB2.out (by (repeat (first | with_reducible exact Below.refl _ _ | with_reducible apply bel_alloc | with_reducible apply bel_drew | with_reducible apply bel_drew1))))) HT.out HR.out).mono ?_; rintro en w3 ⟨ns1, mA1, mn1, mc1, bA1, bn1, bc1, rfl, hm1, hst1, ht1, hb3⟩; have hbb3 : Below w2.heap.size w2 w3 := bthen (by (repeat (first | with_reducible exact Below.refl _ _ | with_reducible apply bel_alloc | with_reducible apply bel_drew | with_reducible apply bel_drew1))) hb3; have HB3 := Lib.hid (bthen HB2.out hbb3); have HC3 := Lib.hid (HC2.out.next hbb3); have hs3 := hbb3.size; (first | ((with_reducible have za : ZB12 w3 w2.heap.size := ZB12.next ZB12.made.drew hb3)) | ((with_reducible have za : ZB12 w3 w2.heap.size := ZB12.next ZB12.made.alloc.drew hb3)) | skip); (first | ((with_reducible have zb : ZB12 w3 (w2.heap.size + 1) := ZB12.next ZB12.made2.drew hb3)) | skip); have HM1 := Lib.hid hm1; have HST1 := Lib.hid hst1; have HBT1 := Lib.hid ht1; clear hm1 hst1 ht1 hb3 hbb3))
  all_goals
    have a1 := HM1.out; have a2 := HM2.out; have a3 := HST1'.out; have a4 := HBT1'.out; have a5 := HST2.out; have a6 := HBT2.out
  · exact HQ.out _ _ _ _ _ (mid_f1 hwB H.out H'.out a1 a2 HB4.out HC4.out a3 a4 a5 a6)
  · exact HQ.out _ _ _ _ _ (mid_f2 hwB H.out H'.out a1 a2 HB4.out HC4.out a3 a4 a5 a6)
  · exact HQ.out _ _ _ _ _ (mid_f3 hwB H.out H'.out a1 a2 HB4.out HC4.out zc (by omega) a3 a4 a5 a6)
  · exact HQ.out _ _ _ _ _ (mid_f5 hwB H.out H'.out a1 a2 HB4.out HC4.out zc (by omega) zd (by omega) (by omega) a3 a4 a5 a6)
  · exact HQ.out _ _ _ _ _ (mid_f4 hwB H.out H'.out a1 a2 HB4.out HC4.out zc (by omega) a3 a4 a5 a6)
  · exact HQ.out _ _ _ _ _ (mid_f5 hwB H.out H'.out a1 a2 HB4.out HC4.out zd (by omega) zc (by omega) (by omega) a3 a4 a5 a6)
  · exact HQ.out _ _ _ _ _ (mid_f3 hwB H.out H'.out a1 a2 HB4.out HC4.out za (by omega) a3 a4 a5 a6)
  · exact HQ.out _ _ _ _ _ (mid_f5 hwB H.out H'.out a1 a2 HB4.out HC4.out za (by omega) zc (by omega) hne1 a3 a4 a5 a6)
  · exact HQ.out _ _ _ _ _ (mid_f5 hwB H.out H'.out a1 a2 HB4.out HC4.out za (by omega) zb (by omega) (by omega) a3 a4 a5 a6)
  · exact HQ.out _ _ _ _ _ (mid_f4 hwB H.out H'.out a1 a2 HB4.out HC4.out za (by omega) a3 a4 a5 a6)
  · exact HQ.out _ _ _ _ _ (mid_f5 hwB H.out H'.out a1 a2 HB4.out HC4.out zc (by omega) za (by omega) hne2 a3 a4 a5 a6)
  · exact HQ.out _ _ _ _ _ (mid_f5 hwB H.out H'.out a1 a2 HB4.out HC4.out zb (by omega) za (by omega) (by omega) a3 a4 a5 a6)
end Go.Proofs.YtmikjhohnfcedaaGreatDoor

namespace Go.Proofs.YtmikjhohnfcedaaGreatDoor
set_option linter.unusedSimpArgs false
set_option linter.unusedVariables false
open Go.RowKit
set_option linter.unusedSimpArgs false

/-- A block holds an edit's eight cells. -/
def IsBox (w : World) (z : Nat) : Prop := ∃ (k : Int) (pA : Option Addr) (pn pc : Nat) (i j : Int) (f t : ByteArray) (oA : Option Addr) (on oc : Nat) (nA : Option Addr) (nn nc : Nat) (fr : Nat × Nat),
  w.heap[z]? = some (.cells #[.int .u8 k, .slice pA pn pc, .int .i64 i, .int .i64 j, .string f, .string t, .slice oA on oc, .slice nA nn nc] 26 fr)
theorem IsBox.no_tree {w : World} {z o : Nat} {k : Int} {s : ByteArray} (h : IsBox w z) (h0 : w.cell? ⟨z, o, none⟩ = some (.int .u8 k)) (h1 : w.cell? ⟨z, o + 1, none⟩ = some (.string s)) : False := by
  obtain ⟨k', pA, pn, pc, i, j, f, t, oA, on, oc, nA, nn, nc, fr, hh⟩ := h
  have hc := fun q => cell_of_row w z q _ _ fr hh
  rw [hc] at h0 h1
  match o, h0, h1 with
  | 0, _, h1 => simp at h1
  | 1, h0, _ => simp at h0
  | 2, h0, _ => simp at h0
  | 3, h0, _ => simp at h0
  | 4, h0, _ => simp at h0
  | 5, h0, _ => simp at h0
  | 6, h0, _ => simp at h0
  | 7, h0, _ => simp at h0
  | _ + 8, h0, _ => simp at h0
mutual
theorem IsBox.tree {w : World} {z : Nat} (hz : IsBox w z) : ∀ {t : Tree} {b o : Nat}, TreeAt w t b o → TreeAt (onlyW w (notB z)) t b o
  | .node k s x ks, b, o, h => by
    obtain ⟨h0, h1, h2, b1, b2, b3, A, c, h3, k2, k3, k4⟩ := h
    have hb : b ≠ z := fun e => by subst e; exact hz.no_tree h0 h1
    have hk : ∀ {p : Nat} {v : Value}, w.cell? ⟨b, p, none⟩ = some v → (onlyW w (notB z)).cell? ⟨b, p, none⟩ = some v := fun hc => only_cell.2 ⟨notB_ne hb, hc⟩
    refine ⟨hk h0, hk h1, hk h2, b1, b2, b3, A, c, hk h3, k2, k3, ?_⟩
    rcases k4 with e | ⟨b', o', e, hr⟩
    · exact .inl e
    · exact .inr ⟨b', o', e, IsBox.row hz hr⟩
theorem IsBox.row {w : World} {z : Nat} (hz : IsBox w z) : ∀ {ts : List Tree} {b o : Nat}, RowAt w ts b o → RowAt (onlyW w (notB z)) ts b o
  | [], _, _, _ => trivial
  | t :: ts, b, o, h => ⟨IsBox.tree hz h.1, IsBox.row hz h.2⟩
end
theorem IsBox.kids {w : World} {z : Nat} (hz : IsBox w z) {ks : List Tree} {A : Option Addr} {n c : Nat} (h : KidsAt w ks A n c) : OnlyK w (notB z) ks A n c := by
  obtain ⟨h1, h2, h3, h4⟩ := h
  refine ⟨h1, h2, h3, h4.imp id ?_⟩
  rintro ⟨b, o, e, hr⟩
  exact ⟨b, o, e, hz.row hr⟩
/-- An edit whose path lies in a block of numbers. -/
def EditT (w : World) (e : Edt) (k : Nat) (pA : Option Addr) (pn pc : Nat) (i j : Int) (f t : ByteArray) (oA : Option Addr) (on oc : Nat) (nA : Option Addr) (nn nc : Nat) : Prop :=
  EditIs w e k pA pn pc i j f t oA on oc nA nn nc ∧ PathT w e.path pA
theorem path_but {w w' : World} {z : Nat} (hz : IsBox w z) (hb : But (notB z) w w') {ps : List Int} {A : Option Addr} {n c : Nat} (h : IntsAt w ps A n c) (hT : PathT w ps A) : IntsAt w' ps A n c ∧ PathT w' ps A := by
  rcases hT with rfl | ⟨b, o, cs, fr, rfl, hh⟩
  · exact ⟨⟨h.1, h.2.1, h.2.2.1, .inl rfl⟩, .inl rfl⟩
  · have hne : b ≠ z := fun e => by
      subst e
      obtain ⟨k', pA, pn, pc, i, j, f, t, oA, on, oc, nA, nn, nc, fr', hh'⟩ := hz
      rw [hh'] at hh
      injection hh with hh
      injection hh with _ ht
      exact absurd ht (by decide)
    have hblk := hb.2 b (Array.getElem?_eq_some_iff.1 hh).1 (notB_ne hne)
    refine ⟨?_, .inr ⟨b, o, cs, fr, rfl, hblk.trans hh⟩⟩
    obtain ⟨h1, h2, h3, h4⟩ := h
    refine ⟨h1, h2, h3, h4.imp id ?_⟩
    rintro ⟨b', o', e, hr⟩
    injection e with e
    injection e with e1 e2
    subst e1 e2
    exact ⟨b, o, rfl, fun j z hz => by rw [World.cell?_of_block hblk]; exact hr j z hz⟩
theorem EditT.but {w w' : World} {z : Nat} (hz : IsBox w z) (hb : But (notB z) w w') {e : Edt} {k : Nat} {pA : Option Addr} {pn pc : Nat} {i j : Int} {f t : ByteArray} {oA : Option Addr} {on oc : Nat} {nA : Option Addr} {nn nc : Nat} (h : EditT w e k pA pn pc i j f t oA on oc nA nn nc) : EditT w' e k pA pn pc i j f t oA on oc nA nn nc := by
  obtain ⟨⟨ps, os, ns, rfl, hp, ho, hn⟩, hT⟩ := h
  obtain ⟨p1, p2⟩ := path_but hz hb hp hT
  exact ⟨⟨ps, os, ns, rfl, p1, (OnlyK.but (hz.kids ho) hb).kids, (OnlyK.but (hz.kids hn) hb).kids⟩, p2⟩
theorem EditT.below {w w' : World} (hb : Below w.heap.size w w') {e : Edt} {k : Nat} {pA : Option Addr} {pn pc : Nat} {i j : Int} {f t : ByteArray} {oA : Option Addr} {on oc : Nat} {nA : Option Addr} {nn nc : Nat} (h : EditT w e k pA pn pc i j f t oA on oc nA nn nc) : EditT w' e k pA pn pc i j f t oA on oc nA nn nc := ⟨h.1.below hb, h.2.below hb⟩
/-- An edit in a box. -/
def EdBox (w : World) (e : Edt) (g : Nat) : Prop := ∃ (k : Nat) (pA : Option Addr) (pn pc : Nat) (i j : Int) (f t : ByteArray) (oA : Option Addr) (on oc : Nat) (nA : Option Addr) (nn nc : Nat),
  w.heap[g]? = some (.cells #[.int .u8 k, .slice pA pn pc, .int .i64 i, .int .i64 j, .string f, .string t, .slice oA on oc, .slice nA nn nc] 26 (0, 0)) ∧ EditT w e k pA pn pc i j f t oA on oc nA nn nc
theorem EdBox.isBox {w : World} {e : Edt} {g : Nat} (h : EdBox w e g) : IsBox w g := by
  obtain ⟨k, pA, pn, pc, i, j, f, t, oA, on, oc, nA, nn, nc, h1, _⟩ := h
  exact ⟨k, pA, pn, pc, i, j, f, t, oA, on, oc, nA, nn, nc, _, h1⟩
theorem EdBox.below {w w' : World} (hb : Below w.heap.size w w') {e : Edt} {g : Nat} (h : EdBox w e g) : EdBox w' e g := by
  obtain ⟨k, pA, pn, pc, i, j, f, t, oA, on, oc, nA, nn, nc, h1, h2⟩ := h
  exact ⟨k, pA, pn, pc, i, j, f, t, oA, on, oc, nA, nn, nc, (hb.block _ (Array.getElem?_eq_some_iff.1 h1).1).trans h1, h2.below hb⟩
theorem EdBox.but {w w' : World} {z : Nat} (hz : IsBox w z) (hb : But (notB z) w w') {e : Edt} {g : Nat} (hg : g ≠ z) (h : EdBox w e g) : EdBox w' e g := by
  obtain ⟨k, pA, pn, pc, i, j, f, t, oA, on, oc, nA, nn, nc, h1, h2⟩ := h
  exact ⟨k, pA, pn, pc, i, j, f, t, oA, on, oc, nA, nn, nc, (hb.2 _ (Array.getElem?_eq_some_iff.1 h1).1 (notB_ne hg)).trans h1, h2.but hz hb⟩
theorem ZB8.isBox {w : World} {z : Nat} (h : ZB8 w z) : IsBox w z := ⟨0, none, 0, 0, 0, 0, ⟨#[]⟩, ⟨#[]⟩, none, 0, 0, none, 0, 0, (0, 0), h⟩
/-- Stores into an edit's own box. -/
theorem put8_heap {w : World} {z : Nat} {v0 v1 v2 v3 v4 v5 v6 v7 x0 x1 x2 x3 x4 x5 x6 x7 : Value} {T : TypeId} (h : w.heap[z]? = some (.cells #[x0, x1, x2, x3, x4, x5, x6, x7] T (0, 0))) : (put8 w z v0 v1 v2 v3 v4 v5 v6 v7).heap[z]? = some (.cells #[v0, v1, v2, v3, v4, v5, v6, v7] T (0, 0)) := by
  simp [put8, World.setCell, Array.getElem?_modify, h]
theorem put8_other {w : World} {z q : Nat} {v0 v1 v2 v3 v4 v5 v6 v7 : Value} (hq : q ≠ z) : (put8 w z v0 v1 v2 v3 v4 v5 v6 v7).heap[q]? = w.heap[q]? := by
  simp only [put8]
  repeat rw [Below.heap_setCell _ _ _ _ (by exact hq)]
theorem put8_size {w : World} {z : Nat} {v0 v1 v2 v3 v4 v5 v6 v7 : Value} : (put8 w z v0 v1 v2 v3 v4 v5 v6 v7).heap.size = w.heap.size := by simp [put8]
theorem put8_but {S : Nat → Bool} {w w' : World} {z : Nat} {v0 v1 v2 v3 v4 v5 v6 v7 : Value} (h : But S w w') (hg : S z = false) : But S w (put8 w' z v0 v1 v2 v3 v4 v5 v6 v7) :=
  ((((((((h.set (p := ⟨z, 0, none⟩) hg _).set (p := ⟨z, 1, none⟩) hg _).set (p := ⟨z, 2, none⟩) hg _).set (p := ⟨z, 3, none⟩) hg _).set (p := ⟨z, 4, none⟩) hg _).set (p := ⟨z, 5, none⟩) hg _).set (p := ⟨z, 6, none⟩) hg _).set (p := ⟨z, 7, none⟩) hg _)
theorem put8_butz {w : World} {z : Nat} {v0 v1 v2 v3 v4 v5 v6 v7 : Value} : But (notB z) w (put8 w z v0 v1 v2 v3 v4 v5 v6 v7) := put8_but (But.refl _ _) (notB_self _)
end Go.Proofs.YtmikjhohnfcedaaGreatDoor

namespace Go.Proofs.YtmikjhohnfcedaaGreatDoor
set_option linter.unusedSimpArgs false
set_option linter.unusedVariables false
open Go.RowKit
set_option linter.unusedSimpArgs false

theorem ed8 {w : World} {z : Nat} (h : ZB8 w z) : (w.cell? ⟨z, 0, none⟩ = some (.int .u8 0) ∧ w.cell? ⟨z, 1, none⟩ = some (.slice none 0 0) ∧ w.cell? ⟨z, 2, none⟩ = some (.int .i64 0) ∧ w.cell? ⟨z, 3, none⟩ = some (.int .i64 0) ∧ w.cell? ⟨z, 4, none⟩ = some (.string ⟨#[]⟩) ∧ w.cell? ⟨z, 5, none⟩ = some (.string ⟨#[]⟩) ∧ w.cell? ⟨z, 6, none⟩ = some (.slice none 0 0) ∧ w.cell? ⟨z, 7, none⟩ = some (.slice none 0 0)) ∧ (w.frozen? ⟨z, 0, none⟩ = false ∧ w.frozen? ⟨z, 1, none⟩ = false ∧ w.frozen? ⟨z, 2, none⟩ = false ∧ w.frozen? ⟨z, 3, none⟩ = false ∧ w.frozen? ⟨z, 4, none⟩ = false ∧ w.frozen? ⟨z, 5, none⟩ = false ∧ w.frozen? ⟨z, 6, none⟩ = false ∧ w.frozen? ⟨z, 7, none⟩ = false) := by
  obtain ⟨h1, h2⟩ := boxF8 h
  exact ⟨h1, h2⟩
/-- Behind region 6: the two edits, twice inverted, in boxes of their own. -/
structure Six (w0 w2 : World) (B : Nat) (a b : Edt) (k : Nat) (pA : Option Addr) (pn pc : Nat) (i j : Int) (f t : ByteArray) (oA : Option Addr) (on oc : Nat) (nA : Option Addr) (nn nc : Nat) (k' : Nat) (pA' : Option Addr) (pn' pc' : Nat) (i' j' : Int) (f' t' : ByteArray) (oA' : Option Addr) (on' oc' : Nat) (nA' : Option Addr) (nn' nc' : Nat) (g g' : Nat) (w : World) : Prop where
  box : CBox B (.int .u8 k) (.slice pA pn pc) (.int .i64 i) (.int .i64 j) (.string f) (.string t) (.slice oA on oc) (.slice nA nn nc) (.int .u8 k') (.slice pA' pn' pc') (.int .i64 i') (.int .i64 j') (.string f') (.string t') (.slice oA' on' oc') (.slice nA' nn' nc') w
  bel : Below w0.heap.size w0 w
  on : Below w2.heap.size w2 w
  a : EdBox w a g
  b : EdBox w b g'
  ne : g ≠ g'
  lo : w2.heap.size ≤ g
  lo' : w2.heap.size ≤ g'
theorem six_f1 {w0 w2 w6 : World} {B : Nat} {a b : Edt} {k : Nat} {pA : Option Addr} {pn pc : Nat} {i j : Int} {f t : ByteArray} {oA : Option Addr} {on oc : Nat} {nA : Option Addr} {nn nc : Nat} {k' : Nat} {pA' : Option Addr} {pn' pc' : Nat} {i' j' : Int} {f' t' : ByteArray} {oA' : Option Addr} {on' oc' : Nat} {nA' : Option Addr} {nn' nc' : Nat} {k2 : Nat} {pA2 : Option Addr} {pn2 pc2 : Nat} {i2 j2 : Int} {f2 t2 : ByteArray} {oA2 : Option Addr} {on2 oc2 : Nat} {nA2 : Option Addr} {nn2 nc2 : Nat} {k4 : Nat} {pA4 : Option Addr} {pn4 pc4 : Nat} {i4 j4 : Int} {f4 t4 : ByteArray} {oA4 : Option Addr} {on4 oc4 : Nat} {nA4 : Option Addr} {nn4 nc4 : Nat} (hB : Below w0.heap.size w0 w6) (hC : CBox B (.int .u8 k) (.slice pA pn pc) (.int .i64 i) (.int .i64 j) (.string f) (.string t) (.slice oA on oc) (.slice nA nn nc) (.int .u8 k') (.slice pA' pn' pc') (.int .i64 i') (.int .i64 j') (.string f') (.string t') (.slice oA' on' oc') (.slice nA' nn' nc') w6) (h26 : Below w2.heap.size w2 w6) (ha : EditT w6 a k2 pA2 pn2 pc2 i2 j2 f2 t2 oA2 on2 oc2 nA2 nn2 nc2) (hb : EditT w6 b k4 pA4 pn4 pc4 i4 j4 f4 t4 oA4 on4 oc4 nA4 nn4 nc4) : Six w0 w2 B a b k pA pn pc i j f t oA on oc nA nn nc k' pA' pn' pc' i' j' f' t' oA' on' oc' nA' nn' nc' w6.heap.size (w6.heap.size + 1) ((w6.alloc (.cells #[.int .u8 k2, .slice pA2 pn2 pc2, .int .i64 i2, .int .i64 j2, .string f2, .string t2, .slice oA2 on2 oc2, .slice nA2 nn2 nc2] 26)).alloc (.cells #[.int .u8 k4, .slice pA4 pn4 pc4, .int .i64 i4, .int .i64 j4, .string f4, .string t4, .slice oA4 on4 oc4, .slice nA4 nn4 nc4] 26)) := by
  have h : Below w6.heap.size w6 ((w6.alloc (.cells #[.int .u8 k2, .slice pA2 pn2 pc2, .int .i64 i2, .int .i64 j2, .string f2, .string t2, .slice oA2 on2 oc2, .slice nA2 nn2 nc2] 26)).alloc (.cells #[.int .u8 k4, .slice pA4 pn4 pc4, .int .i64 i4, .int .i64 j4, .string f4, .string t4, .slice oA4 on4 oc4, .slice nA4 nn4 nc4] 26)) := bel_alloc (bel_alloc (Below.refl _ _) _) _
  exact ⟨hC.next h, bthen hB h, bthen h26 h, ⟨_, _, _, _, _, _, _, _, _, _, _, _, _, _, (heap_alloc_old _ _ (by simp)).trans (heap_alloc_new _ _), ha.below h⟩, ⟨_, _, _, _, _, _, _, _, _, _, _, _, _, _, heap_alloc_at (by simp), hb.below h⟩, by omega, h26.size, by have := h26.size; omega⟩
theorem six_f2 {w0 w2 w6 : World} {B : Nat} {a b : Edt} {k : Nat} {pA : Option Addr} {pn pc : Nat} {i j : Int} {f t : ByteArray} {oA : Option Addr} {on oc : Nat} {nA : Option Addr} {nn nc : Nat} {k' : Nat} {pA' : Option Addr} {pn' pc' : Nat} {i' j' : Int} {f' t' : ByteArray} {oA' : Option Addr} {on' oc' : Nat} {nA' : Option Addr} {nn' nc' : Nat} {k2 : Nat} {pA2 : Option Addr} {pn2 pc2 : Nat} {i2 j2 : Int} {f2 t2 : ByteArray} {oA2 : Option Addr} {on2 oc2 : Nat} {nA2 : Option Addr} {nn2 nc2 : Nat} {k4 : Nat} {pA4 : Option Addr} {pn4 pc4 : Nat} {i4 j4 : Int} {f4 t4 : ByteArray} {oA4 : Option Addr} {on4 oc4 : Nat} {nA4 : Option Addr} {nn4 nc4 : Nat} (hB : Below w0.heap.size w0 w6) (hC : CBox B (.int .u8 k) (.slice pA pn pc) (.int .i64 i) (.int .i64 j) (.string f) (.string t) (.slice oA on oc) (.slice nA nn nc) (.int .u8 k') (.slice pA' pn' pc') (.int .i64 i') (.int .i64 j') (.string f') (.string t') (.slice oA' on' oc') (.slice nA' nn' nc') w6) (h26 : Below w2.heap.size w2 w6) (ha : EditT w6 a k2 pA2 pn2 pc2 i2 j2 f2 t2 oA2 on2 oc2 nA2 nn2 nc2) (hb : EditT w6 b k4 pA4 pn4 pc4 i4 j4 f4 t4 oA4 on4 oc4 nA4 nn4 nc4) : Six w0 w2 B a b k pA pn pc i j f t oA on oc nA nn nc k' pA' pn' pc' i' j' f' t' oA' on' oc' nA' nn' nc' (w6.heap.size + 1) w6.heap.size ((w6.alloc (.cells #[.int .u8 k4, .slice pA4 pn4 pc4, .int .i64 i4, .int .i64 j4, .string f4, .string t4, .slice oA4 on4 oc4, .slice nA4 nn4 nc4] 26)).alloc (.cells #[.int .u8 k2, .slice pA2 pn2 pc2, .int .i64 i2, .int .i64 j2, .string f2, .string t2, .slice oA2 on2 oc2, .slice nA2 nn2 nc2] 26)) := by
  have h : Below w6.heap.size w6 ((w6.alloc (.cells #[.int .u8 k4, .slice pA4 pn4 pc4, .int .i64 i4, .int .i64 j4, .string f4, .string t4, .slice oA4 on4 oc4, .slice nA4 nn4 nc4] 26)).alloc (.cells #[.int .u8 k2, .slice pA2 pn2 pc2, .int .i64 i2, .int .i64 j2, .string f2, .string t2, .slice oA2 on2 oc2, .slice nA2 nn2 nc2] 26)) := bel_alloc (bel_alloc (Below.refl _ _) _) _
  exact ⟨hC.next h, bthen hB h, bthen h26 h, ⟨_, _, _, _, _, _, _, _, _, _, _, _, _, _, heap_alloc_at (by simp), ha.below h⟩, ⟨_, _, _, _, _, _, _, _, _, _, _, _, _, _, (heap_alloc_old _ _ (by simp)).trans (heap_alloc_new _ _), hb.below h⟩, by omega, by have := h26.size; omega, h26.size⟩
/-- Eight stores into one of the new boxes. -/
theorem six_put {w0 w2 w6 : World} {B z : Nat} {k : Nat} {pA : Option Addr} {pn pc : Nat} {i j : Int} {f t : ByteArray} {oA : Option Addr} {on oc : Nat} {nA : Option Addr} {nn nc : Nat} {k' : Nat} {pA' : Option Addr} {pn' pc' : Nat} {i' j' : Int} {f' t' : ByteArray} {oA' : Option Addr} {on' oc' : Nat} {nA' : Option Addr} {nn' nc' : Nat} {v0 v1 v2 v3 v4 v5 v6 v7 : Value} (hB : Below w0.heap.size w0 w6) (hC : CBox B (.int .u8 k) (.slice pA pn pc) (.int .i64 i) (.int .i64 j) (.string f) (.string t) (.slice oA on oc) (.slice nA nn nc) (.int .u8 k') (.slice pA' pn' pc') (.int .i64 i') (.int .i64 j') (.string f') (.string t') (.slice oA' on' oc') (.slice nA' nn' nc') w6) (h26 : Below w2.heap.size w2 w6) (hz : w2.heap.size ≤ z) (hBz : B + 4 ≤ z) (hw : w0.heap.size ≤ z) :
    Below w0.heap.size w0 (put8 w6 z v0 v1 v2 v3 v4 v5 v6 v7) ∧ CBox B (.int .u8 k) (.slice pA pn pc) (.int .i64 i) (.int .i64 j) (.string f) (.string t) (.slice oA on oc) (.slice nA nn nc) (.int .u8 k') (.slice pA' pn' pc') (.int .i64 i') (.int .i64 j') (.string f') (.string t') (.slice oA' on' oc') (.slice nA' nn' nc') (put8 w6 z v0 v1 v2 v3 v4 v5 v6 v7) ∧ Below w2.heap.size w2 (put8 w6 z v0 v1 v2 v3 v4 v5 v6 v7) := by
  obtain ⟨h1, h2, h3, h4⟩ := hC
  exact ⟨put8_below hB hw, ⟨(put8_other (by omega)).trans h1, (put8_other (by omega)).trans h2, (put8_other (by omega)).trans h3, (put8_other (by omega)).trans h4⟩, put8_below h26 hz⟩
theorem six_f3 {z : Nat} {w0 w2 w6 : World} {B : Nat} {a b : Edt} {k : Nat} {pA : Option Addr} {pn pc : Nat} {i j : Int} {f t : ByteArray} {oA : Option Addr} {on oc : Nat} {nA : Option Addr} {nn nc : Nat} {k' : Nat} {pA' : Option Addr} {pn' pc' : Nat} {i' j' : Int} {f' t' : ByteArray} {oA' : Option Addr} {on' oc' : Nat} {nA' : Option Addr} {nn' nc' : Nat} {k2 : Nat} {pA2 : Option Addr} {pn2 pc2 : Nat} {i2 j2 : Int} {f2 t2 : ByteArray} {oA2 : Option Addr} {on2 oc2 : Nat} {nA2 : Option Addr} {nn2 nc2 : Nat} {k4 : Nat} {pA4 : Option Addr} {pn4 pc4 : Nat} {i4 j4 : Int} {f4 t4 : ByteArray} {oA4 : Option Addr} {on4 oc4 : Nat} {nA4 : Option Addr} {nn4 nc4 : Nat} (hB : Below w0.heap.size w0 w6) (hC : CBox B (.int .u8 k) (.slice pA pn pc) (.int .i64 i) (.int .i64 j) (.string f) (.string t) (.slice oA on oc) (.slice nA nn nc) (.int .u8 k') (.slice pA' pn' pc') (.int .i64 i') (.int .i64 j') (.string f') (.string t') (.slice oA' on' oc') (.slice nA' nn' nc') w6) (h26 : Below w2.heap.size w2 w6) (ha : EditT w6 a k2 pA2 pn2 pc2 i2 j2 f2 t2 oA2 on2 oc2 nA2 nn2 nc2) (hb : EditT w6 b k4 pA4 pn4 pc4 i4 j4 f4 t4 oA4 on4 oc4 nA4 nn4 nc4) (hz : ZB8 w6 z) (hlo : w0.heap.size ≤ B ∧ B + 4 ≤ w2.heap.size ∧ w2.heap.size ≤ z) : Six w0 w2 B a b k pA pn pc i j f t oA on oc nA nn nc k' pA' pn' pc' i' j' f' t' oA' on' oc' nA' nn' nc' z w6.heap.size ((put8 w6 z (.int .u8 k2) (.slice pA2 pn2 pc2) (.int .i64 i2) (.int .i64 j2) (.string f2) (.string t2) (.slice oA2 on2 oc2) (.slice nA2 nn2 nc2)).alloc (.cells #[.int .u8 k4, .slice pA4 pn4 pc4, .int .i64 i4, .int .i64 j4, .string f4, .string t4, .slice oA4 on4 oc4, .slice nA4 nn4 nc4] 26)) := by
  have hl := hz.lt
  obtain ⟨g1, g2, g3⟩ := six_put (v0 := .int .u8 k2) (v1 := .slice pA2 pn2 pc2) (v2 := .int .i64 i2) (v3 := .int .i64 j2) (v4 := .string f2) (v5 := .string t2) (v6 := .slice oA2 on2 oc2) (v7 := .slice nA2 nn2 nc2) hB hC h26 hlo.2.2 (by omega) (by omega)
  have hbt : But (notB z) w6 (put8 w6 z (.int .u8 k2) (.slice pA2 pn2 pc2) (.int .i64 i2) (.int .i64 j2) (.string f2) (.string t2) (.slice oA2 on2 oc2) (.slice nA2 nn2 nc2)) := put8_butz
  have h : Below (put8 w6 z (.int .u8 k2) (.slice pA2 pn2 pc2) (.int .i64 i2) (.int .i64 j2) (.string f2) (.string t2) (.slice oA2 on2 oc2) (.slice nA2 nn2 nc2)).heap.size (put8 w6 z (.int .u8 k2) (.slice pA2 pn2 pc2) (.int .i64 i2) (.int .i64 j2) (.string f2) (.string t2) (.slice oA2 on2 oc2) (.slice nA2 nn2 nc2)) ((put8 w6 z (.int .u8 k2) (.slice pA2 pn2 pc2) (.int .i64 i2) (.int .i64 j2) (.string f2) (.string t2) (.slice oA2 on2 oc2) (.slice nA2 nn2 nc2)).alloc (.cells #[.int .u8 k4, .slice pA4 pn4 pc4, .int .i64 i4, .int .i64 j4, .string f4, .string t4, .slice oA4 on4 oc4, .slice nA4 nn4 nc4] 26)) := bel_alloc (Below.refl _ _) _
  exact ⟨g2.next h, bthen g1 h, bthen g3 h, ⟨_, _, _, _, _, _, _, _, _, _, _, _, _, _, (heap_alloc_old _ _ (by rw [put8_size]; exact hl)).trans (put8_heap hz), (ha.but hz.isBox hbt).below h⟩, ⟨_, _, _, _, _, _, _, _, _, _, _, _, _, _, heap_alloc_at put8_size, (hb.but hz.isBox hbt).below h⟩, by omega, hlo.2.2, h26.size⟩
theorem six_f4 {z : Nat} {w0 w2 w6 : World} {B : Nat} {a b : Edt} {k : Nat} {pA : Option Addr} {pn pc : Nat} {i j : Int} {f t : ByteArray} {oA : Option Addr} {on oc : Nat} {nA : Option Addr} {nn nc : Nat} {k' : Nat} {pA' : Option Addr} {pn' pc' : Nat} {i' j' : Int} {f' t' : ByteArray} {oA' : Option Addr} {on' oc' : Nat} {nA' : Option Addr} {nn' nc' : Nat} {k2 : Nat} {pA2 : Option Addr} {pn2 pc2 : Nat} {i2 j2 : Int} {f2 t2 : ByteArray} {oA2 : Option Addr} {on2 oc2 : Nat} {nA2 : Option Addr} {nn2 nc2 : Nat} {k4 : Nat} {pA4 : Option Addr} {pn4 pc4 : Nat} {i4 j4 : Int} {f4 t4 : ByteArray} {oA4 : Option Addr} {on4 oc4 : Nat} {nA4 : Option Addr} {nn4 nc4 : Nat} (hB : Below w0.heap.size w0 w6) (hC : CBox B (.int .u8 k) (.slice pA pn pc) (.int .i64 i) (.int .i64 j) (.string f) (.string t) (.slice oA on oc) (.slice nA nn nc) (.int .u8 k') (.slice pA' pn' pc') (.int .i64 i') (.int .i64 j') (.string f') (.string t') (.slice oA' on' oc') (.slice nA' nn' nc') w6) (h26 : Below w2.heap.size w2 w6) (ha : EditT w6 a k2 pA2 pn2 pc2 i2 j2 f2 t2 oA2 on2 oc2 nA2 nn2 nc2) (hb : EditT w6 b k4 pA4 pn4 pc4 i4 j4 f4 t4 oA4 on4 oc4 nA4 nn4 nc4) (hz : ZB8 w6 z) (hlo : w0.heap.size ≤ B ∧ B + 4 ≤ w2.heap.size ∧ w2.heap.size ≤ z) : Six w0 w2 B a b k pA pn pc i j f t oA on oc nA nn nc k' pA' pn' pc' i' j' f' t' oA' on' oc' nA' nn' nc' w6.heap.size z ((put8 w6 z (.int .u8 k4) (.slice pA4 pn4 pc4) (.int .i64 i4) (.int .i64 j4) (.string f4) (.string t4) (.slice oA4 on4 oc4) (.slice nA4 nn4 nc4)).alloc (.cells #[.int .u8 k2, .slice pA2 pn2 pc2, .int .i64 i2, .int .i64 j2, .string f2, .string t2, .slice oA2 on2 oc2, .slice nA2 nn2 nc2] 26)) := by
  have hl := hz.lt
  obtain ⟨g1, g2, g3⟩ := six_put (v0 := .int .u8 k4) (v1 := .slice pA4 pn4 pc4) (v2 := .int .i64 i4) (v3 := .int .i64 j4) (v4 := .string f4) (v5 := .string t4) (v6 := .slice oA4 on4 oc4) (v7 := .slice nA4 nn4 nc4) hB hC h26 hlo.2.2 (by omega) (by omega)
  have hbt : But (notB z) w6 (put8 w6 z (.int .u8 k4) (.slice pA4 pn4 pc4) (.int .i64 i4) (.int .i64 j4) (.string f4) (.string t4) (.slice oA4 on4 oc4) (.slice nA4 nn4 nc4)) := put8_butz
  have h : Below (put8 w6 z (.int .u8 k4) (.slice pA4 pn4 pc4) (.int .i64 i4) (.int .i64 j4) (.string f4) (.string t4) (.slice oA4 on4 oc4) (.slice nA4 nn4 nc4)).heap.size (put8 w6 z (.int .u8 k4) (.slice pA4 pn4 pc4) (.int .i64 i4) (.int .i64 j4) (.string f4) (.string t4) (.slice oA4 on4 oc4) (.slice nA4 nn4 nc4)) ((put8 w6 z (.int .u8 k4) (.slice pA4 pn4 pc4) (.int .i64 i4) (.int .i64 j4) (.string f4) (.string t4) (.slice oA4 on4 oc4) (.slice nA4 nn4 nc4)).alloc (.cells #[.int .u8 k2, .slice pA2 pn2 pc2, .int .i64 i2, .int .i64 j2, .string f2, .string t2, .slice oA2 on2 oc2, .slice nA2 nn2 nc2] 26)) := bel_alloc (Below.refl _ _) _
  exact ⟨g2.next h, bthen g1 h, bthen g3 h, ⟨_, _, _, _, _, _, _, _, _, _, _, _, _, _, heap_alloc_at put8_size, (ha.but hz.isBox hbt).below h⟩, ⟨_, _, _, _, _, _, _, _, _, _, _, _, _, _, (heap_alloc_old _ _ (by rw [put8_size]; exact hl)).trans (put8_heap hz), (hb.but hz.isBox hbt).below h⟩, by omega, h26.size, hlo.2.2⟩
theorem six_f5 {z z' : Nat} {w0 w2 w6 : World} {B : Nat} {a b : Edt} {k : Nat} {pA : Option Addr} {pn pc : Nat} {i j : Int} {f t : ByteArray} {oA : Option Addr} {on oc : Nat} {nA : Option Addr} {nn nc : Nat} {k' : Nat} {pA' : Option Addr} {pn' pc' : Nat} {i' j' : Int} {f' t' : ByteArray} {oA' : Option Addr} {on' oc' : Nat} {nA' : Option Addr} {nn' nc' : Nat} {k2 : Nat} {pA2 : Option Addr} {pn2 pc2 : Nat} {i2 j2 : Int} {f2 t2 : ByteArray} {oA2 : Option Addr} {on2 oc2 : Nat} {nA2 : Option Addr} {nn2 nc2 : Nat} {k4 : Nat} {pA4 : Option Addr} {pn4 pc4 : Nat} {i4 j4 : Int} {f4 t4 : ByteArray} {oA4 : Option Addr} {on4 oc4 : Nat} {nA4 : Option Addr} {nn4 nc4 : Nat} (hB : Below w0.heap.size w0 w6) (hC : CBox B (.int .u8 k) (.slice pA pn pc) (.int .i64 i) (.int .i64 j) (.string f) (.string t) (.slice oA on oc) (.slice nA nn nc) (.int .u8 k') (.slice pA' pn' pc') (.int .i64 i') (.int .i64 j') (.string f') (.string t') (.slice oA' on' oc') (.slice nA' nn' nc') w6) (h26 : Below w2.heap.size w2 w6) (ha : EditT w6 a k2 pA2 pn2 pc2 i2 j2 f2 t2 oA2 on2 oc2 nA2 nn2 nc2) (hb : EditT w6 b k4 pA4 pn4 pc4 i4 j4 f4 t4 oA4 on4 oc4 nA4 nn4 nc4) (hz : ZB8 w6 z) (hlo : w0.heap.size ≤ B ∧ B + 4 ≤ w2.heap.size ∧ w2.heap.size ≤ z) (hz' : ZB8 w6 z') (hlo' : w0.heap.size ≤ B ∧ B + 4 ≤ w2.heap.size ∧ w2.heap.size ≤ z') (hne : z ≠ z') : Six w0 w2 B a b k pA pn pc i j f t oA on oc nA nn nc k' pA' pn' pc' i' j' f' t' oA' on' oc' nA' nn' nc' z z' (put8 (put8 w6 z (.int .u8 k2) (.slice pA2 pn2 pc2) (.int .i64 i2) (.int .i64 j2) (.string f2) (.string t2) (.slice oA2 on2 oc2) (.slice nA2 nn2 nc2)) z' (.int .u8 k4) (.slice pA4 pn4 pc4) (.int .i64 i4) (.int .i64 j4) (.string f4) (.string t4) (.slice oA4 on4 oc4) (.slice nA4 nn4 nc4)) := by
  obtain ⟨g1, g2, g3⟩ := six_put (v0 := .int .u8 k2) (v1 := .slice pA2 pn2 pc2) (v2 := .int .i64 i2) (v3 := .int .i64 j2) (v4 := .string f2) (v5 := .string t2) (v6 := .slice oA2 on2 oc2) (v7 := .slice nA2 nn2 nc2) hB hC h26 hlo.2.2 (by omega) (by omega)
  have hbt : But (notB z) w6 (put8 w6 z (.int .u8 k2) (.slice pA2 pn2 pc2) (.int .i64 i2) (.int .i64 j2) (.string f2) (.string t2) (.slice oA2 on2 oc2) (.slice nA2 nn2 nc2)) := put8_butz
  have hz2 : ZB8 (put8 w6 z (.int .u8 k2) (.slice pA2 pn2 pc2) (.int .i64 i2) (.int .i64 j2) (.string f2) (.string t2) (.slice oA2 on2 oc2) (.slice nA2 nn2 nc2)) z' := (put8_other (Ne.symm hne)).trans hz'
  obtain ⟨r1, r2, r3⟩ := six_put (v0 := .int .u8 k4) (v1 := .slice pA4 pn4 pc4) (v2 := .int .i64 i4) (v3 := .int .i64 j4) (v4 := .string f4) (v5 := .string t4) (v6 := .slice oA4 on4 oc4) (v7 := .slice nA4 nn4 nc4) g1 g2 g3 hlo'.2.2 (by omega) (by omega)
  have hbt2 : But (notB z') (put8 w6 z (.int .u8 k2) (.slice pA2 pn2 pc2) (.int .i64 i2) (.int .i64 j2) (.string f2) (.string t2) (.slice oA2 on2 oc2) (.slice nA2 nn2 nc2)) (put8 (put8 w6 z (.int .u8 k2) (.slice pA2 pn2 pc2) (.int .i64 i2) (.int .i64 j2) (.string f2) (.string t2) (.slice oA2 on2 oc2) (.slice nA2 nn2 nc2)) z' (.int .u8 k4) (.slice pA4 pn4 pc4) (.int .i64 i4) (.int .i64 j4) (.string f4) (.string t4) (.slice oA4 on4 oc4) (.slice nA4 nn4 nc4)) := put8_butz
  exact ⟨r2, r1, r3, ⟨_, _, _, _, _, _, _, _, _, _, _, _, _, _, (put8_other hne).trans (put8_heap hz), (ha.but hz.isBox hbt).but hz2.isBox hbt2⟩, ⟨_, _, _, _, _, _, _, _, _, _, _, _, _, _, put8_heap hz2, (hb.but hz.isBox hbt).but hz2.isBox hbt2⟩, hne, hlo.2.2, hlo'.2.2⟩
end Go.Proofs.YtmikjhohnfcedaaGreatDoor

namespace Go.Proofs.YtmikjhohnfcedaaGreatDoor
set_option linter.unusedSimpArgs false
set_option linter.unusedVariables false
open Go.RowKit
set_option linter.unusedSimpArgs false

set_option maxRecDepth 20000 in
set_option maxHeartbeats 8000000 in
theorem com_r6 (e e' : Edt) (k : Nat) (pA : Option Addr) (pn pc : Nat) (i j : Int) (f t : ByteArray) (oA : Option Addr) (on oc : Nat) (nA : Option Addr) (nn nc : Nat) (k' : Nat) (pA' : Option Addr) (pn' pc' : Nat) (i' j' : Int) (f' t' : ByteArray) (oA' : Option Addr) (on' oc' : Nat) (nA' : Option Addr) (nn' nc' : Nat) (w w2 : World) (B : Nat) (hwB : w.heap.size ≤ B)
    (h : EditIs w e k pA pn pc i j f t oA on oc nA nn nc) (h' : EditIs w e' k' pA' pn' pc' i' j' f' t' oA' on' oc' nA' nn' nc') (hE : EnvS w) (ht : e.tiny) (ht' : e'.tiny) (hB : Below w.heap.size w w2) (hC : CBox B (.int .u8 k) (.slice pA pn pc) (.int .i64 i) (.int .i64 j) (.string f) (.string t) (.slice oA on oc) (.slice nA nn nc) (.int .u8 k') (.slice pA' pn' pc') (.int .i64 i') (.int .i64 j') (.string f') (.string t') (.slice oA' on' oc') (.slice nA' nn' nc') w2)
    (z0 z1 z4 z5 z6 z7 z8 z9 z10 z11 z12 z13 z14 z15 z16 z17 z18 z19 z20 z21 z22 z23 z24 z25 z26 z27 z28 z29 z30 z31 z32 z33 z34 z35 z36 z37 z38 z39 z40 z41 z42 z43 z44 z45 z46 z47 z48 z49 z50 z51 z52 z53 z54 z55 z56 z57 z58 z59 z60 z61 z62 z63 z64 z65 z66 z67 z68 z69 z70 z71 z72 z73 z74 z75 z76 z77 z78 z79 z80 z81 z82 z83 z84 z85 z86 z87 z88 z89 z90 z91 z92 z93 z94 z95 z96 z97 : Value) (Q : Exit → Act → World → Prop) (hQ : ∀ g g' v33 v34 v36 v37 wx, Six w w2 B (invertE (invertE e')) (invertE (invertE e)) k pA pn pc i j f t oA on oc nA nn nc k' pA' pn' pc' i' j' f' t' oA' on' oc' nA' nn' nc' g g' wx → Q .normal ⟨#[z0, z1, .pointer (some ⟨B, 0, none⟩), .pointer (some ⟨B + 1, 0, none⟩), z4, z5, z6, z7, z8, .pointer (some ⟨g, 0, none⟩), .pointer (some ⟨g', 0, none⟩), z11, z12, z13, z14, z15, z16, z17, z18, z19, z20, z21, z22, z23, z24, z25, z26, z27, z28, z29, z30, z31, .agg #[.int .u8 k', .slice pA' pn' pc', .int .i64 i', .int .i64 j', .string f', .string t', .slice oA' on' oc', .slice nA' nn' nc'], v33, v34, .agg #[.int .u8 k, .slice pA pn pc, .int .i64 i, .int .i64 j, .string f, .string t, .slice oA on oc, .slice nA nn nc], v36, v37, z38, z39, z40, z41, z42, z43, z44, z45, z46, z47, z48, z49, z50, z51, z52, z53, z54, z55, z56, z57, z58, z59, z60, z61, z62, z63, z64, z65, z66, z67, z68, z69, z70, z71, z72, z73, z74, z75, z76, z77, z78, z79, z80, z81, z82, z83, z84, z85, z86, z87, z88, z89, z90, z91, z92, z93, z94, z95, z96, z97], []⟩ wx) :
    ((regOf 6 (Tryz.f7.body.getD .skip)).getD .skip).wp Tryz.prog Q ⟨#[z0, z1, .pointer (some ⟨B, 0, none⟩), .pointer (some ⟨B + 1, 0, none⟩), z4, z5, z6, z7, z8, z9, z10, z11, z12, z13, z14, z15, z16, z17, z18, z19, z20, z21, z22, z23, z24, z25, z26, z27, z28, z29, z30, z31, z32, z33, z34, z35, z36, z37, z38, z39, z40, z41, z42, z43, z44, z45, z46, z47, z48, z49, z50, z51, z52, z53, z54, z55, z56, z57, z58, z59, z60, z61, z62, z63, z64, z65, z66, z67, z68, z69, z70, z71, z72, z73, z74, z75, z76, z77, z78, z79, z80, z81, z82, z83, z84, z85, z86, z87, z88, z89, z90, z91, z92, z93, z94, z95, z96, z97], []⟩ w2 := by
  have H := Lib.hid h
  have H' := Lib.hid h'
  have HE := Lib.hid hE
  have HT := Lib.hid ht
  have HT' := Lib.hid ht'
  have HB2 := Lib.hid hB
  have HC2 := Lib.hid hC
  have HQ := Lib.hid hQ
  have hs2 := hC.size
  obtain ⟨⟨c0, c1, c2, c3, c4, c5, c6, c7⟩, ⟨d0, d1, d2, d3, d4, d5, d6, d7⟩⟩ : Box8 w2 B (.int .u8 k) (.slice pA pn pc) (.int .i64 i) (.int .i64 j) (.string f) (.string t) (.slice oA on oc) (.slice nA nn nc) ∧ Box8 w2 (B + 1) (.int .u8 k') (.slice pA' pn' pc') (.int .i64 i') (.int .i64 j') (.string f') (.string t') (.slice oA' on' oc') (.slice nA' nn' nc') := ⟨(boxF8 hC.bx).cs, (boxF8 hC.bz).cs⟩
  clear h h' hE ht ht' hB hC hQ
  conv in Option.getD (regOf _ _) _ => whnf
  go_region_held3 (fun w' => w'.cell? ⟨B, 0, none⟩ = some (.int .u8 k) ∧ w'.cell? ⟨B, 1, none⟩ = some (.slice pA pn pc) ∧ w'.cell? ⟨B, 2, none⟩ = some (.int .i64 i) ∧ w'.cell? ⟨B, 3, none⟩ = some (.int .i64 j) ∧ w'.cell? ⟨B, 4, none⟩ = some (.string f) ∧ w'.cell? ⟨B, 5, none⟩ = some (.string t) ∧ w'.cell? ⟨B, 6, none⟩ = some (.slice oA on oc) ∧ w'.cell? ⟨B, 7, none⟩ = some (.slice nA nn nc) ∧ w'.cell? ⟨B + 1, 0, none⟩ = some (.int .u8 k') ∧ w'.cell? ⟨B + 1, 1, none⟩ = some (.slice pA' pn' pc') ∧ w'.cell? ⟨B + 1, 2, none⟩ = some (.int .i64 i') ∧ w'.cell? ⟨B + 1, 3, none⟩ = some (.int .i64 j') ∧ w'.cell? ⟨B + 1, 4, none⟩ = some (.string f') ∧ w'.cell? ⟨B + 1, 5, none⟩ = some (.string t') ∧ w'.cell? ⟨B + 1, 6, none⟩ = some (.slice oA' on' oc') ∧ w'.cell? ⟨B + 1, 7, none⟩ = some (.slice nA' nn' nc')) ((refine com_S ?_; repeat (first | with_reducible exact HC6.out | with_reducible exact HC5.out | with_reducible exact HC4.out | with_reducible exact HC3.out | with_reducible exact HC2.out | with_reducible apply CBox.alloc | with_reducible apply CBox.drewN | with_reducible apply CBox.drew | with_reducible refine CBox.set ?_ (by dsimp only; omega))))
    (first
      | (go_at_call 18; refine (p_invert (invertE e) _ _ _ _ _ _ _ _ _ _ _ _ _ _ _ (HR3.out.1.below (by (repeat (first | with_reducible exact Below.refl _ _ | with_reducible apply bel_alloc | with_reducible apply bel_drew | with_reducible apply bel_drew1)))) (HE.out.below (bthen HB5.out (by (repeat (first | with_reducible exact Below.refl _ _ | with_reducible apply bel_alloc | with_reducible apply bel_drew | with_reducible apply bel_drew1)))) (Nat.le_refl _)) (tiny_invert HT.out)).mono ?_; rintro en w6 ⟨k4, pA4, pn4, pc4, i4, j4, f4, t4, oA4, on4, oc4, nA4, nn4, nc4, rfl, hr4, hp4, hb4⟩; have hbb4 : Below w5.heap.size w5 w6 := bthen (by (repeat (first | with_reducible exact Below.refl _ _ | with_reducible apply bel_alloc | with_reducible apply bel_drew | with_reducible apply bel_drew1))) hb4; have HB6 := Lib.hid (bthen HB5.out hbb4); have HC6 := Lib.hid (HC5.out.next hbb4); have hs6 := hbb4.size; (first | ((with_reducible have z4a : ZB8 w6 w5.heap.size := ZB8.next ZB8.made hb4); have hlz4a := ZB8.lt z4a; obtain ⟨⟨z4ac0, z4ac1, z4ac2, z4ac3, z4ac4, z4ac5, z4ac6, z4ac7⟩, ⟨z4af0, z4af1, z4af2, z4af3, z4af4, z4af5, z4af6, z4af7⟩⟩ := ed8 z4a) | ((with_reducible have z4a : ZB8 w6 w5.heap.size := ZB8.next ZB8.made.alloc hb4); have hlz4a := ZB8.lt z4a; obtain ⟨⟨z4ac0, z4ac1, z4ac2, z4ac3, z4ac4, z4ac5, z4ac6, z4ac7⟩, ⟨z4af0, z4af1, z4af2, z4af3, z4af4, z4af5, z4af6, z4af7⟩⟩ := ed8 z4a) | skip); (first | ((with_reducible have z4b : ZB8 w6 (w5.heap.size + 1) := ZB8.next ZB8.made2 hb4); have hlz4b := ZB8.lt z4b; obtain ⟨⟨z4bc0, z4bc1, z4bc2, z4bc3, z4bc4, z4bc5, z4bc6, z4bc7⟩, ⟨z4bf0, z4bf1, z4bf2, z4bf3, z4bf4, z4bf5, z4bf6, z4bf7⟩⟩ := ed8 z4b) | skip); (try (have ne14 : ¬ w2.heap.size = w5.heap.size := Nat.ne_of_lt (ZB8.lt z1a); have ne41 : ¬ w5.heap.size = w2.heap.size := fun e => ne14 e.symm)); (try (have ne24 : ¬ w3.heap.size = w5.heap.size := Nat.ne_of_lt (ZB8.lt z2a); have ne42 : ¬ w5.heap.size = w3.heap.size := fun e => ne24 e.symm)); (try (have ne34 : ¬ w4.heap.size = w5.heap.size := Nat.ne_of_lt (ZB8.lt z3a); have ne43 : ¬ w5.heap.size = w4.heap.size := fun e => ne34 e.symm)); (try (replace z1a := ZB8.next z1a hbb4; have hlz1a := ZB8.lt z1a; obtain ⟨⟨z1ac0, z1ac1, z1ac2, z1ac3, z1ac4, z1ac5, z1ac6, z1ac7⟩, ⟨z1af0, z1af1, z1af2, z1af3, z1af4, z1af5, z1af6, z1af7⟩⟩ := ed8 z1a)); (try (replace z1b := ZB8.next z1b hbb4; have hlz1b := ZB8.lt z1b; obtain ⟨⟨z1bc0, z1bc1, z1bc2, z1bc3, z1bc4, z1bc5, z1bc6, z1bc7⟩, ⟨z1bf0, z1bf1, z1bf2, z1bf3, z1bf4, z1bf5, z1bf6, z1bf7⟩⟩ := ed8 z1b)); (try (replace z2a := ZB8.next z2a hbb4; have hlz2a := ZB8.lt z2a; obtain ⟨⟨z2ac0, z2ac1, z2ac2, z2ac3, z2ac4, z2ac5, z2ac6, z2ac7⟩, ⟨z2af0, z2af1, z2af2, z2af3, z2af4, z2af5, z2af6, z2af7⟩⟩ := ed8 z2a)); (try (replace z2b := ZB8.next z2b hbb4; have hlz2b := ZB8.lt z2b; obtain ⟨⟨z2bc0, z2bc1, z2bc2, z2bc3, z2bc4, z2bc5, z2bc6, z2bc7⟩, ⟨z2bf0, z2bf1, z2bf2, z2bf3, z2bf4, z2bf5, z2bf6, z2bf7⟩⟩ := ed8 z2b)); (try (replace z3a := ZB8.next z3a hbb4; have hlz3a := ZB8.lt z3a; obtain ⟨⟨z3ac0, z3ac1, z3ac2, z3ac3, z3ac4, z3ac5, z3ac6, z3ac7⟩, ⟨z3af0, z3af1, z3af2, z3af3, z3af4, z3af5, z3af6, z3af7⟩⟩ := ed8 z3a)); (try (replace z3b := ZB8.next z3b hbb4; have hlz3b := ZB8.lt z3b; obtain ⟨⟨z3bc0, z3bc1, z3bc2, z3bc3, z3bc4, z3bc5, z3bc6, z3bc7⟩, ⟨z3bf0, z3bf1, z3bf2, z3bf3, z3bf4, z3bf5, z3bf6, z3bf7⟩⟩ := ed8 z3b)); have HR4 := Lib.hid (show EditT w6 _ k4 pA4 pn4 pc4 i4 j4 f4 t4 oA4 on4 oc4 nA4 nn4 nc4 from ⟨hr4, hp4⟩); have HR2xx := Lib.hid (HR2x.out.below hbb4); have ON6 := Lib.hid (bthen ON5.out hbb4); clear hr4 hp4 hb4 hbb4)
      | (go_at_call 18; refine (p_invert e _ _ _ _ _ _ _ _ _ _ _ _ _ _ _ (H.out.below (bthen HB4.out (by (repeat (first | with_reducible exact Below.refl _ _ | with_reducible apply bel_alloc | with_reducible apply bel_drew | with_reducible apply bel_drew1))))) (HE.out.below (bthen HB4.out (by (repeat (first | with_reducible exact Below.refl _ _ | with_reducible apply bel_alloc | with_reducible apply bel_drew | with_reducible apply bel_drew1)))) (Nat.le_refl _)) HT.out).mono ?_; rintro en w5 ⟨k3, pA3, pn3, pc3, i3, j3, f3, t3, oA3, on3, oc3, nA3, nn3, nc3, rfl, hr3, hp3, hb3⟩; have hbb3 : Below w4.heap.size w4 w5 := bthen (by (repeat (first | with_reducible exact Below.refl _ _ | with_reducible apply bel_alloc | with_reducible apply bel_drew | with_reducible apply bel_drew1))) hb3; have HB5 := Lib.hid (bthen HB4.out hbb3); have HC5 := Lib.hid (HC4.out.next hbb3); have hs5 := hbb3.size; (first | ((with_reducible have z3a : ZB8 w5 w4.heap.size := ZB8.next ZB8.made hb3)) | ((with_reducible have z3a : ZB8 w5 w4.heap.size := ZB8.next ZB8.made.alloc hb3)) | skip); (first | ((with_reducible have z3b : ZB8 w5 (w4.heap.size + 1) := ZB8.next ZB8.made2 hb3)) | skip); (try (have ne13 : ¬ w2.heap.size = w4.heap.size := Nat.ne_of_lt (ZB8.lt z1a); have ne31 : ¬ w4.heap.size = w2.heap.size := fun e => ne13 e.symm)); (try (have ne23 : ¬ w3.heap.size = w4.heap.size := Nat.ne_of_lt (ZB8.lt z2a); have ne32 : ¬ w4.heap.size = w3.heap.size := fun e => ne23 e.symm)); (try (replace z1a := ZB8.next z1a hbb3)); (try (replace z1b := ZB8.next z1b hbb3)); (try (replace z2a := ZB8.next z2a hbb3)); (try (replace z2b := ZB8.next z2b hbb3)); have HR3 := Lib.hid (show EditT w5 _ k3 pA3 pn3 pc3 i3 j3 f3 t3 oA3 on3 oc3 nA3 nn3 nc3 from ⟨hr3, hp3⟩); have HR2x := Lib.hid (HR2.out.below hbb3); have ON5 := Lib.hid (bthen ON4.out hbb3); clear hr3 hp3 hb3 hbb3)
      | (go_at_call 18; refine (p_invert (invertE e') _ _ _ _ _ _ _ _ _ _ _ _ _ _ _ (HR1.out.1.below (by (repeat (first | with_reducible exact Below.refl _ _ | with_reducible apply bel_alloc | with_reducible apply bel_drew | with_reducible apply bel_drew1)))) (HE.out.below (bthen HB3.out (by (repeat (first | with_reducible exact Below.refl _ _ | with_reducible apply bel_alloc | with_reducible apply bel_drew | with_reducible apply bel_drew1)))) (Nat.le_refl _)) (tiny_invert HT'.out)).mono ?_; rintro en w4 ⟨k2, pA2, pn2, pc2, i2, j2, f2, t2, oA2, on2, oc2, nA2, nn2, nc2, rfl, hr2, hp2, hb2⟩; have hbb2 : Below w3.heap.size w3 w4 := bthen (by (repeat (first | with_reducible exact Below.refl _ _ | with_reducible apply bel_alloc | with_reducible apply bel_drew | with_reducible apply bel_drew1))) hb2; have HB4 := Lib.hid (bthen HB3.out hbb2); have HC4 := Lib.hid (HC3.out.next hbb2); have hs4 := hbb2.size; (first | ((with_reducible have z2a : ZB8 w4 w3.heap.size := ZB8.next ZB8.made hb2)) | ((with_reducible have z2a : ZB8 w4 w3.heap.size := ZB8.next ZB8.made.alloc hb2)) | skip); (first | ((with_reducible have z2b : ZB8 w4 (w3.heap.size + 1) := ZB8.next ZB8.made2 hb2)) | skip); (try (have ne12 : ¬ w2.heap.size = w3.heap.size := Nat.ne_of_lt (ZB8.lt z1a); have ne21 : ¬ w3.heap.size = w2.heap.size := fun e => ne12 e.symm)); (try (replace z1a := ZB8.next z1a hbb2)); (try (replace z1b := ZB8.next z1b hbb2)); have HR2 := Lib.hid (show EditT w4 _ k2 pA2 pn2 pc2 i2 j2 f2 t2 oA2 on2 oc2 nA2 nn2 nc2 from ⟨hr2, hp2⟩); have ON4 := Lib.hid (bthen ON3.out hbb2); clear hr2 hp2 hb2 hbb2)
      | (go_at_call 18; refine (p_invert e' _ _ _ _ _ _ _ _ _ _ _ _ _ _ _ (H'.out.below (bthen HB2.out (by (repeat (first | with_reducible exact Below.refl _ _ | with_reducible apply bel_alloc | with_reducible apply bel_drew | with_reducible apply bel_drew1))))) (HE.out.below (bthen HB2.out (by (repeat (first | with_reducible exact Below.refl _ _ | with_reducible apply bel_alloc | with_reducible apply bel_drew | with_reducible apply bel_drew1)))) (Nat.le_refl _)) HT'.out).mono ?_; rintro en w3 ⟨k1, pA1, pn1, pc1, i1, j1, f1, t1, oA1, on1, oc1, nA1, nn1, nc1, rfl, hr1, hp1, hb1⟩; have hbb1 : Below w2.heap.size w2 w3 := bthen (by (repeat (first | with_reducible exact Below.refl _ _ | with_reducible apply bel_alloc | with_reducible apply bel_drew | with_reducible apply bel_drew1))) hb1; have HB3 := Lib.hid (bthen HB2.out hbb1); have HC3 := Lib.hid (HC2.out.next hbb1); have hs3 := hbb1.size; (first | ((with_reducible have z1a : ZB8 w3 w2.heap.size := ZB8.next ZB8.made.drew hb1)) | ((with_reducible have z1a : ZB8 w3 w2.heap.size := ZB8.next ZB8.made.alloc.drew hb1)) | skip); (first | ((with_reducible have z1b : ZB8 w3 (w2.heap.size + 1) := ZB8.next ZB8.made2.drew hb1)) | skip); have HR1 := Lib.hid (show EditT w3 _ k1 pA1 pn1 pc1 i1 j1 f1 t1 oA1 on1 oc1 nA1 nn1 nc1 from ⟨hr1, hp1⟩); have ON3 := Lib.hid hbb1; clear hr1 hp1 hb1 hbb1))
  all_goals
    have a2 := HR2xx.out; have a4 := HR4.out
    have hs26 : Below w2.heap.size w2 w6 := ON6.out
  · exact HQ.out _ _ _ _ _ _ _ (six_f1 HB6.out HC6.out hs26 a2 a4)
  · exact HQ.out _ _ _ _ _ _ _ (six_f2 HB6.out HC6.out hs26 a2 a4)
  · exact HQ.out _ _ _ _ _ _ _ (six_f3 HB6.out HC6.out hs26 a2 a4 z4a (by omega))
  · exact HQ.out _ _ _ _ _ _ _ (six_f5 HB6.out HC6.out hs26 a2 a4 z4a (by omega) z4b (by omega) (by omega))
  · exact HQ.out _ _ _ _ _ _ _ (six_f4 HB6.out HC6.out hs26 a2 a4 z4a (by omega))
  · exact HQ.out _ _ _ _ _ _ _ (six_f5 HB6.out HC6.out hs26 a2 a4 z4b (by omega) z4a (by omega) (by omega))
  · exact HQ.out _ _ _ _ _ _ _ (six_f3 HB6.out HC6.out hs26 a2 a4 z3a (by omega))
  · exact HQ.out _ _ _ _ _ _ _ (six_f5 HB6.out HC6.out hs26 a2 a4 z3a (by omega) z4a (by omega) ne34)
  · exact HQ.out _ _ _ _ _ _ _ (six_f5 HB6.out HC6.out hs26 a2 a4 z3a (by omega) z3b (by omega) (by omega))
  · exact HQ.out _ _ _ _ _ _ _ (six_f4 HB6.out HC6.out hs26 a2 a4 z3a (by omega))
  · exact HQ.out _ _ _ _ _ _ _ (six_f5 HB6.out HC6.out hs26 a2 a4 z4a (by omega) z3a (by omega) ne43)
  · exact HQ.out _ _ _ _ _ _ _ (six_f5 HB6.out HC6.out hs26 a2 a4 z3b (by omega) z3a (by omega) (by omega))
  · exact HQ.out _ _ _ _ _ _ _ (six_f3 HB6.out HC6.out hs26 a2 a4 z2a (by omega))
  · exact HQ.out _ _ _ _ _ _ _ (six_f5 HB6.out HC6.out hs26 a2 a4 z2a (by omega) z4a (by omega) ne24)
  · exact HQ.out _ _ _ _ _ _ _ (six_f5 HB6.out HC6.out hs26 a2 a4 z2a (by omega) z3a (by omega) ne23)
  · exact HQ.out _ _ _ _ _ _ _ (six_f5 HB6.out HC6.out hs26 a2 a4 z2a (by omega) z2b (by omega) (by omega))
  · exact HQ.out _ _ _ _ _ _ _ (six_f4 HB6.out HC6.out hs26 a2 a4 z2a (by omega))
  · exact HQ.out _ _ _ _ _ _ _ (six_f5 HB6.out HC6.out hs26 a2 a4 z4a (by omega) z2a (by omega) ne42)
  · exact HQ.out _ _ _ _ _ _ _ (six_f5 HB6.out HC6.out hs26 a2 a4 z3a (by omega) z2a (by omega) ne32)
  · exact HQ.out _ _ _ _ _ _ _ (six_f5 HB6.out HC6.out hs26 a2 a4 z2b (by omega) z2a (by omega) (by omega))
  · exact HQ.out _ _ _ _ _ _ _ (six_f3 HB6.out HC6.out hs26 a2 a4 z1a (by omega))
  · exact HQ.out _ _ _ _ _ _ _ (six_f5 HB6.out HC6.out hs26 a2 a4 z1a (by omega) z4a (by omega) ne14)
  · exact HQ.out _ _ _ _ _ _ _ (six_f5 HB6.out HC6.out hs26 a2 a4 z1a (by omega) z3a (by omega) ne13)
  · exact HQ.out _ _ _ _ _ _ _ (six_f5 HB6.out HC6.out hs26 a2 a4 z1a (by omega) z2a (by omega) ne12)
  · exact HQ.out _ _ _ _ _ _ _ (six_f5 HB6.out HC6.out hs26 a2 a4 z1a (by omega) z1b (by omega) (by omega))
  · exact HQ.out _ _ _ _ _ _ _ (six_f4 HB6.out HC6.out hs26 a2 a4 z1a (by omega))
  · exact HQ.out _ _ _ _ _ _ _ (six_f5 HB6.out HC6.out hs26 a2 a4 z4a (by omega) z1a (by omega) ne41)
  · exact HQ.out _ _ _ _ _ _ _ (six_f5 HB6.out HC6.out hs26 a2 a4 z3a (by omega) z1a (by omega) ne31)
  · exact HQ.out _ _ _ _ _ _ _ (six_f5 HB6.out HC6.out hs26 a2 a4 z2a (by omega) z1a (by omega) ne21)
  · exact HQ.out _ _ _ _ _ _ _ (six_f5 HB6.out HC6.out hs26 a2 a4 z1b (by omega) z1a (by omega) (by omega))
end Go.Proofs.YtmikjhohnfcedaaGreatDoor
