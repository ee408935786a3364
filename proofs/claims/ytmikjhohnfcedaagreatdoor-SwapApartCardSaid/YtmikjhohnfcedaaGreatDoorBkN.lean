/- Commute: what it leaves; the ways with a wrong edit.
   Commute: the ways with a wrong edit.
   Commute: edits that clash.
   What the end of Commute wants.
   Commute: two edits of one list.
   Commute: two edits that are no edits of one list: plain words. -/
import Derived.Test.YtmikjhohnfcedaaGreatDoorBkM
import Derived.Deep.RegionHeld3
namespace Go.Proofs.YtmikjhohnfcedaaGreatDoor
set_option linter.unusedSimpArgs false
set_option linter.unusedVariables false
open Go.RowKit
set_option linter.unusedSimpArgs false

/-- A value that reads as an edit. -/
def EdVal (w : World) (e : Edt) (v : Value) : Prop := ∃ (k : Nat) (pA : Option Addr) (pn pc : Nat) (i j : Int) (f t : ByteArray) (oA : Option Addr) (on oc : Nat) (nA : Option Addr) (nn nc : Nat), v = .agg #[.int .u8 k, .slice pA pn pc, .int .i64 i, .int .i64 j, .string f, .string t, .slice oA on oc, .slice nA nn nc] ∧ EditT w e k pA pn pc i j f t oA on oc nA nn nc
theorem EdVal.below {w w' : World} (hb : Below w.heap.size w w') {e : Edt} {v : Value} (h : EdVal w e v) : EdVal w' e v := by
  obtain ⟨k, pA, pn, pc, i, j, f, t, oA, on, oc, nA, nn, nc, h1, h2⟩ := h
  exact ⟨k, pA, pn, pc, i, j, f, t, oA, on, oc, nA, nn, nc, h1, h2.below hb⟩
def ComPost (r : Except Nat (Edt × Edt)) (w : World) (en : Ending) (w' : World) : Prop := Below w.heap.size w w' ∧ match r with
  | .ok (a, b) => ∃ av bv, en = .returned (.tuple #[av, bv, .int .i64 0]) ∧ EdVal w' a av ∧ EdVal w' b bv
  | .error n => en = .returned (.tuple #[.agg Z8, .agg Z8, .int .i64 n])
theorem ComPost.no {r : Except Nat (Edt × Edt)} {n : Nat} {w w' : World} {en : Ending} (h : r = .error n) (hb : Below w.heap.size w w') (he : en = .returned (.tuple #[.agg Z8, .agg Z8, .int .i64 n])) : ComPost r w en w' := by
  subst h; exact ⟨hb, he⟩
theorem ComPost.yes {r : Except Nat (Edt × Edt)} {a b : Edt} {w w' : World} {av bv : Value} {en : Ending} (h : r = .ok (a, b)) (hb : Below w.heap.size w w') (he : en = .returned (.tuple #[av, bv, .int .i64 0])) (ha : EdVal w' a av) (hb' : EdVal w' b bv) : ComPost r w en w' := by
  subst h; exact ⟨hb, av, bv, he, ha, hb'⟩
theorem com_res (tmps : Array Value) (W : World) (g g' : Nat) {x0 x1 x2 x3 x4 x5 x6 x7 y0 y1 y2 y3 y4 y5 y6 y7 v : Value} (h4 : tmps[4]?.getD undef = .pointer (some ⟨g, 0, none⟩)) (h5 : tmps[5]?.getD undef = .pointer (some ⟨g', 0, none⟩)) (h6 : tmps[6]?.getD undef = v) (hb : Box8 W g x0 x1 x2 x3 x4 x5 x6 x7) (hb' : Box8 W g' y0 y1 y2 y3 y4 y5 y6 y7) :
    (results Tryz.f7 tmps).run Tryz.prog W = .ok (.tuple #[.agg #[x0, x1, x2, x3, x4, x5, x6, x7], .agg #[y0, y1, y2, y3, y4, y5, y6, y7], v]) W := by
  obtain ⟨a0, a1, a2, a3, a4, a5, a6, a7⟩ := hb
  obtain ⟨b0, b1, b2, b3, b4, b5, b6, b7⟩ := hb'
  simp [results, Tryz.results7, go_sem, h4, h5, h6, a0, a1, a2, a3, a4, a5, a6, a7, b0, b1, b2, b3, b4, b5, b6, b7]
def comW (w : World) (x0 x1 x2 x3 x4 x5 x6 x7 y0 y1 y2 y3 y4 y5 y6 y7 : Value) : World :=
  (((w.alloc (.cells #[x0, x1, x2, x3, x4, x5, x6, x7] 26)).alloc (.cells #[y0, y1, y2, y3, y4, y5, y6, y7] 26)).alloc (.cells Z8 26)).alloc (.cells Z8 26)
theorem comW_facts (w : World) (x0 x1 x2 x3 x4 x5 x6 x7 y0 y1 y2 y3 y4 y5 y6 y7 : Value) : Below w.heap.size w (comW w x0 x1 x2 x3 x4 x5 x6 x7 y0 y1 y2 y3 y4 y5 y6 y7) ∧ CBox w.heap.size x0 x1 x2 x3 x4 x5 x6 x7 y0 y1 y2 y3 y4 y5 y6 y7 (comW w x0 x1 x2 x3 x4 x5 x6 x7 y0 y1 y2 y3 y4 y5 y6 y7) := by
  unfold comW
  refine ⟨bel_alloc (bel_alloc (bel_alloc (bel_alloc (Below.refl _ _) _) _) _) _, ?_, ?_, ?_, heap_alloc_at (by simp)⟩
  · exact (heap_alloc_old _ _ (by simp <;> omega)).trans ((heap_alloc_old _ _ (by simp <;> omega)).trans ((heap_alloc_old _ _ (by simp <;> omega)).trans (heap_alloc_new _ _)))
  · exact (heap_alloc_old _ _ (by simp <;> omega)).trans ((heap_alloc_old _ _ (by simp <;> omega)).trans (heap_alloc_at (by simp)))
  · exact (heap_alloc_old _ _ (by simp <;> omega)).trans (heap_alloc_at (by simp))
/-- What the walk knows of the boxes at a world. -/
theorem com_all {B : Nat} {x0 x1 x2 x3 x4 x5 x6 x7 y0 y1 y2 y3 y4 y5 y6 y7 : Value} {w : World} (h : CBox B x0 x1 x2 x3 x4 x5 x6 x7 y0 y1 y2 y3 y4 y5 y6 y7 w) :
    Box8 w B x0 x1 x2 x3 x4 x5 x6 x7 ∧ Box8 w (B + 1) y0 y1 y2 y3 y4 y5 y6 y7 ∧ BoxF8 w (B + 1 + 1) (.int .u8 0) (.slice none 0 0) (.int .i64 0) (.int .i64 0) (.string ⟨#[]⟩) (.string ⟨#[]⟩) (.slice none 0 0) (.slice none 0 0) ∧ BoxF8 w (B + 1 + 1 + 1) (.int .u8 0) (.slice none 0 0) (.int .i64 0) (.int .i64 0) (.string ⟨#[]⟩) (.string ⟨#[]⟩) (.slice none 0 0) (.slice none 0 0) :=
  ⟨(boxF8 h.bx).cs, (boxF8 h.bz).cs, boxF8 h.ra, boxF8 h.rb⟩
/-- The ends with an error: the answers' boxes are written anew with zeros. -/
theorem com_zero {w0 w : World} {B : Nat} {x0 x1 x2 x3 x4 x5 x6 x7 y0 y1 y2 y3 y4 y5 y6 y7 : Value} (hB : Below w0.heap.size w0 w) (hw : w0.heap.size ≤ B) (h : CBox B x0 x1 x2 x3 x4 x5 x6 x7 y0 y1 y2 y3 y4 y5 y6 y7 w) :
    Below w0.heap.size w0 (put8 (put8 w (B + 1 + 1) (.int .u8 0) (.slice none 0 0) (.int .i64 0) (.int .i64 0) (.string ⟨#[]⟩) (.string ⟨#[]⟩) (.slice none 0 0) (.slice none 0 0)) (B + 1 + 1 + 1) (.int .u8 0) (.slice none 0 0) (.int .i64 0) (.int .i64 0) (.string ⟨#[]⟩) (.string ⟨#[]⟩) (.slice none 0 0) (.slice none 0 0)) ∧
    Box8 (put8 (put8 w (B + 1 + 1) (.int .u8 0) (.slice none 0 0) (.int .i64 0) (.int .i64 0) (.string ⟨#[]⟩) (.string ⟨#[]⟩) (.slice none 0 0) (.slice none 0 0)) (B + 1 + 1 + 1) (.int .u8 0) (.slice none 0 0) (.int .i64 0) (.int .i64 0) (.string ⟨#[]⟩) (.string ⟨#[]⟩) (.slice none 0 0) (.slice none 0 0)) (B + 1 + 1) (.int .u8 0) (.slice none 0 0) (.int .i64 0) (.int .i64 0) (.string ⟨#[]⟩) (.string ⟨#[]⟩) (.slice none 0 0) (.slice none 0 0) ∧
    Box8 (put8 (put8 w (B + 1 + 1) (.int .u8 0) (.slice none 0 0) (.int .i64 0) (.int .i64 0) (.string ⟨#[]⟩) (.string ⟨#[]⟩) (.slice none 0 0) (.slice none 0 0)) (B + 1 + 1 + 1) (.int .u8 0) (.slice none 0 0) (.int .i64 0) (.int .i64 0) (.string ⟨#[]⟩) (.string ⟨#[]⟩) (.slice none 0 0) (.slice none 0 0)) (B + 1 + 1 + 1) (.int .u8 0) (.slice none 0 0) (.int .i64 0) (.int .i64 0) (.string ⟨#[]⟩) (.string ⟨#[]⟩) (.slice none 0 0) (.slice none 0 0) := by
  refine ⟨put8_below (put8_below hB (by omega)) (by omega), ?_, ?_⟩
  · exact (boxF8 ((put8_other (by omega)).trans (put8_heap h.ra))).cs
  · exact (boxF8 (put8_heap ((put8_other (by omega)).trans h.rb))).cs
theorem box8_drew {w : World} {b : Nat} {x0 x1 x2 x3 x4 x5 x6 x7 : Value} (h : Box8 w b x0 x1 x2 x3 x4 x5 x6 x7) : Box8 w.drew b x0 x1 x2 x3 x4 x5 x6 x7 := h
theorem com_zeroD {w0 w : World} {B : Nat} {x0 x1 x2 x3 x4 x5 x6 x7 y0 y1 y2 y3 y4 y5 y6 y7 : Value} (hB : Below w0.heap.size w0 w) (hw : w0.heap.size ≤ B) (h : CBox B x0 x1 x2 x3 x4 x5 x6 x7 y0 y1 y2 y3 y4 y5 y6 y7 w) :
    Below w0.heap.size w0 (put8 (put8 w (B + 1 + 1) (.int .u8 0) (.slice none 0 0) (.int .i64 0) (.int .i64 0) (.string ⟨#[]⟩) (.string ⟨#[]⟩) (.slice none 0 0) (.slice none 0 0)) (B + 1 + 1 + 1) (.int .u8 0) (.slice none 0 0) (.int .i64 0) (.int .i64 0) (.string ⟨#[]⟩) (.string ⟨#[]⟩) (.slice none 0 0) (.slice none 0 0)).drew ∧ Box8 (put8 (put8 w (B + 1 + 1) (.int .u8 0) (.slice none 0 0) (.int .i64 0) (.int .i64 0) (.string ⟨#[]⟩) (.string ⟨#[]⟩) (.slice none 0 0) (.slice none 0 0)) (B + 1 + 1 + 1) (.int .u8 0) (.slice none 0 0) (.int .i64 0) (.int .i64 0) (.string ⟨#[]⟩) (.string ⟨#[]⟩) (.slice none 0 0) (.slice none 0 0)).drew (B + 1 + 1) (.int .u8 0) (.slice none 0 0) (.int .i64 0) (.int .i64 0) (.string ⟨#[]⟩) (.string ⟨#[]⟩) (.slice none 0 0) (.slice none 0 0) ∧ Box8 (put8 (put8 w (B + 1 + 1) (.int .u8 0) (.slice none 0 0) (.int .i64 0) (.int .i64 0) (.string ⟨#[]⟩) (.string ⟨#[]⟩) (.slice none 0 0) (.slice none 0 0)) (B + 1 + 1 + 1) (.int .u8 0) (.slice none 0 0) (.int .i64 0) (.int .i64 0) (.string ⟨#[]⟩) (.string ⟨#[]⟩) (.slice none 0 0) (.slice none 0 0)).drew (B + 1 + 1 + 1) (.int .u8 0) (.slice none 0 0) (.int .i64 0) (.int .i64 0) (.string ⟨#[]⟩) (.string ⟨#[]⟩) (.slice none 0 0) (.slice none 0 0) := by
  obtain ⟨h1, h2, h3⟩ := com_zero hB hw h
  exact ⟨h1.drew, box8_drew h2, box8_drew h3⟩
end Go.Proofs.YtmikjhohnfcedaaGreatDoor

namespace Go.Proofs.YtmikjhohnfcedaaGreatDoor
set_option linter.unusedSimpArgs false
set_option linter.unusedVariables false
open Go.RowKit
set_option linter.unusedSimpArgs false

set_option maxRecDepth 20000 in
set_option maxHeartbeats 2000000 in
theorem p_com_a (e e' : Edt) (k : Nat) (pA : Option Addr) (pn pc : Nat) (i j : Int) (f t : ByteArray) (oA : Option Addr) (on oc : Nat) (nA : Option Addr) (nn nc : Nat) (k' : Nat) (pA' : Option Addr) (pn' pc' : Nat) (i' j' : Int) (f' t' : ByteArray) (oA' : Option Addr) (on' oc' : Nat) (nA' : Option Addr) (nn' nc' : Nat) (w : World)
    (h : EditIs w e k pA pn pc i j f t oA on oc nA nn nc) (h' : EditIs w e' k' pA' pn' pc' i' j' f' t' oA' on' oc' nA' nn' nc') (hE : EnvS w) (ht : e.tiny) (ht' : e'.tiny) (hr : editRight e = false) :
    Calls Tryz.prog 7 #[.agg #[.int .u8 k, .slice pA pn pc, .int .i64 i, .int .i64 j, .string f, .string t, .slice oA on oc, .slice nA nn nc], .agg #[.int .u8 k', .slice pA' pn' pc', .int .i64 i', .int .i64 j', .string f', .string t', .slice oA' on' oc', .slice nA' nn' nc']] w (ComPost (commuteE e e') w) := by
  have H := Lib.hid h
  have H' := Lib.hid h'
  have HE := Lib.hid hE
  have HT := Lib.hid ht
  have HT' := Lib.hid ht'
  have HSF : Hid (f.size + t.size ≤ 9223372036854775806) := by obtain ⟨ps, os, ns, rfl, _⟩ := h; exact Nat.le_trans ht.texts (by omega)
  have HSF' : Hid (f'.size + t'.size ≤ 9223372036854775806) := by obtain ⟨ps, os, ns, rfl, _⟩ := h'; exact Nat.le_trans ht'.texts (by omega)
  have HF := Lib.hid (comW_facts w (.int .u8 k) (.slice pA pn pc) (.int .i64 i) (.int .i64 j) (.string f) (.string t) (.slice oA on oc) (.slice nA nn nc) (.int .u8 k') (.slice pA' pn' pc') (.int .i64 i') (.int .i64 j') (.string f') (.string t') (.slice oA' on' oc') (.slice nA' nn' nc'))
  have HV : Hid (commuteE e e' = .error 4) := by show _ = _; unfold commuteE; simp [hr]
  have HR := Lib.hid hr
  clear h h' hE ht ht' hr
  go_enter Tryz.func7, Tryz.ntmps7
  go_wp2_with fail
  refine (p_eright e _ _ _ _ _ _ _ _ _ _ _ _ _ _ (comW w (.int .u8 k) (.slice pA pn pc) (.int .i64 i) (.int .i64 j) (.string f) (.string t) (.slice oA on oc) (.slice nA nn nc) (.int .u8 k') (.slice pA' pn' pc') (.int .i64 i') (.int .i64 j') (.string f') (.string t') (.slice oA' on' oc') (.slice nA' nn' nc')) (H.out.below HF.out.1) (HE.out.below HF.out.1 (Nat.le_refl _)) HSF.out (tiny_sho HT.out (by omega)) (tiny_shn HT.out (by omega))).mono ?_
  rintro en w1 ⟨rfl, hb1⟩
  rw [HR.out]
  have HB1 := Lib.hid (bthen HF.out.1 hb1)
  have HC1 := Lib.hid (HF.out.2.next hb1)
  clear hb1
  obtain ⟨⟨c0, c1, c2, c3, c4, c5, c6, c7⟩, ⟨d0, d1, d2, d3, d4, d5, d6, d7⟩, ⟨⟨m0, m1, m2, m3, m4, m5, m6, m7⟩, ⟨n0, n1, n2, n3, n4, n5, n6, n7⟩⟩, ⟨⟨r0, r1, r2, r3, r4, r5, r6, r7⟩, ⟨s0, s1, s2, s3, s4, s5, s6, s7⟩⟩⟩ := com_all HC1.out
  go_wp2_with fail
  go_region
  all_goals
    go_wp2_with fail
    obtain ⟨z1, z2, z3⟩ := com_zeroD HB1.out (Nat.le_refl _) HC1.out
    exact bodyPost_ret (com_res _ _ (w.heap.size + 1 + 1) (w.heap.size + 1 + 1 + 1) rfl rfl rfl z2 z3) rfl (ComPost.no HV.out z1 rfl)
set_option maxRecDepth 20000 in
set_option maxHeartbeats 2000000 in
theorem p_com_b (e e' : Edt) (k : Nat) (pA : Option Addr) (pn pc : Nat) (i j : Int) (f t : ByteArray) (oA : Option Addr) (on oc : Nat) (nA : Option Addr) (nn nc : Nat) (k' : Nat) (pA' : Option Addr) (pn' pc' : Nat) (i' j' : Int) (f' t' : ByteArray) (oA' : Option Addr) (on' oc' : Nat) (nA' : Option Addr) (nn' nc' : Nat) (w : World)
    (h : EditIs w e k pA pn pc i j f t oA on oc nA nn nc) (h' : EditIs w e' k' pA' pn' pc' i' j' f' t' oA' on' oc' nA' nn' nc') (hE : EnvS w) (ht : e.tiny) (ht' : e'.tiny) (hr : editRight e = true) (hr' : editRight e' = false) :
    Calls Tryz.prog 7 #[.agg #[.int .u8 k, .slice pA pn pc, .int .i64 i, .int .i64 j, .string f, .string t, .slice oA on oc, .slice nA nn nc], .agg #[.int .u8 k', .slice pA' pn' pc', .int .i64 i', .int .i64 j', .string f', .string t', .slice oA' on' oc', .slice nA' nn' nc']] w (ComPost (commuteE e e') w) := by
  have H := Lib.hid h
  have H' := Lib.hid h'
  have HE := Lib.hid hE
  have HT := Lib.hid ht
  have HT' := Lib.hid ht'
  have HSF : Hid (f.size + t.size ≤ 9223372036854775806) := by obtain ⟨ps, os, ns, rfl, _⟩ := h; exact Nat.le_trans ht.texts (by omega)
  have HSF' : Hid (f'.size + t'.size ≤ 9223372036854775806) := by obtain ⟨ps, os, ns, rfl, _⟩ := h'; exact Nat.le_trans ht'.texts (by omega)
  have HF := Lib.hid (comW_facts w (.int .u8 k) (.slice pA pn pc) (.int .i64 i) (.int .i64 j) (.string f) (.string t) (.slice oA on oc) (.slice nA nn nc) (.int .u8 k') (.slice pA' pn' pc') (.int .i64 i') (.int .i64 j') (.string f') (.string t') (.slice oA' on' oc') (.slice nA' nn' nc'))
  have HV : Hid (commuteE e e' = .error 4) := by show _ = _; unfold commuteE; simp [hr']
  have HR := Lib.hid hr
  have HR' := Lib.hid hr'
  clear h h' hE ht ht' hr hr'
  go_enter Tryz.func7, Tryz.ntmps7
  go_wp2_with fail
  refine (p_eright e _ _ _ _ _ _ _ _ _ _ _ _ _ _ (comW w (.int .u8 k) (.slice pA pn pc) (.int .i64 i) (.int .i64 j) (.string f) (.string t) (.slice oA on oc) (.slice nA nn nc) (.int .u8 k') (.slice pA' pn' pc') (.int .i64 i') (.int .i64 j') (.string f') (.string t') (.slice oA' on' oc') (.slice nA' nn' nc')) (H.out.below HF.out.1) (HE.out.below HF.out.1 (Nat.le_refl _)) HSF.out (tiny_sho HT.out (by omega)) (tiny_shn HT.out (by omega))).mono ?_
  rintro en w1 ⟨rfl, hb1⟩
  rw [HR.out]
  have HB1 := Lib.hid (bthen HF.out.1 hb1)
  have HC1 := Lib.hid (HF.out.2.next hb1)
  clear hb1
  obtain ⟨⟨c0, c1, c2, c3, c4, c5, c6, c7⟩, ⟨d0, d1, d2, d3, d4, d5, d6, d7⟩, ⟨⟨m0, m1, m2, m3, m4, m5, m6, m7⟩, ⟨n0, n1, n2, n3, n4, n5, n6, n7⟩⟩, ⟨⟨r0, r1, r2, r3, r4, r5, r6, r7⟩, ⟨s0, s1, s2, s3, s4, s5, s6, s7⟩⟩⟩ := com_all HC1.out
  go_wp2_with fail
  refine (p_eright e' _ _ _ _ _ _ _ _ _ _ _ _ _ _ _ (H'.out.below HB1.out) (HE.out.below HB1.out (Nat.le_refl _)) HSF'.out (tiny_sho HT'.out (by omega)) (tiny_shn HT'.out (by omega))).mono ?_
  rintro en w2 ⟨rfl, hb2⟩
  rw [HR'.out]
  have HB2 := Lib.hid (bthen HB1.out hb2)
  have HC2 := Lib.hid (HC1.out.next hb2)
  clear hb2
  clear c0 c1 c2 c3 c4 c5 c6 c7 d0 d1 d2 d3 d4 d5 d6 d7 m0 m1 m2 m3 m4 m5 m6 m7 n0 n1 n2 n3 n4 n5 n6 n7 r0 r1 r2 r3 r4 r5 r6 r7 s0 s1 s2 s3 s4 s5 s6 s7
  obtain ⟨⟨c0, c1, c2, c3, c4, c5, c6, c7⟩, ⟨d0, d1, d2, d3, d4, d5, d6, d7⟩, ⟨⟨m0, m1, m2, m3, m4, m5, m6, m7⟩, ⟨n0, n1, n2, n3, n4, n5, n6, n7⟩⟩, ⟨⟨r0, r1, r2, r3, r4, r5, r6, r7⟩, ⟨s0, s1, s2, s3, s4, s5, s6, s7⟩⟩⟩ := com_all HC2.out
  go_wp2_with fail
  go_region
  all_goals
    go_wp2_with fail
    obtain ⟨z1, z2, z3⟩ := com_zeroD HB2.out (Nat.le_refl _) HC2.out
    exact bodyPost_ret (com_res _ _ (w.heap.size + 1 + 1) (w.heap.size + 1 + 1 + 1) rfl rfl rfl z2 z3) rfl (ComPost.no HV.out z1 rfl)
end Go.Proofs.YtmikjhohnfcedaaGreatDoor

namespace Go.Proofs.YtmikjhohnfcedaaGreatDoor
set_option linter.unusedSimpArgs false
set_option linter.unusedVariables false
open Go.RowKit
set_option linter.unusedSimpArgs false

set_option maxRecDepth 20000 in
set_option maxHeartbeats 2000000 in
theorem p_com_c (e e' : Edt) (k : Nat) (pA : Option Addr) (pn pc : Nat) (i j : Int) (f t : ByteArray) (oA : Option Addr) (on oc : Nat) (nA : Option Addr) (nn nc : Nat) (k' : Nat) (pA' : Option Addr) (pn' pc' : Nat) (i' j' : Int) (f' t' : ByteArray) (oA' : Option Addr) (on' oc' : Nat) (nA' : Option Addr) (nn' nc' : Nat) (w : World)
    (h : EditIs w e k pA pn pc i j f t oA on oc nA nn nc) (h' : EditIs w e' k' pA' pn' pc' i' j' f' t' oA' on' oc' nA' nn' nc') (hE : EnvS w) (ht : e.tiny) (ht' : e'.tiny) (hr : editRight e = true) (hr' : editRight e' = true) (hm : mixesB e e' = true) :
    Calls Tryz.prog 7 #[.agg #[.int .u8 k, .slice pA pn pc, .int .i64 i, .int .i64 j, .string f, .string t, .slice oA on oc, .slice nA nn nc], .agg #[.int .u8 k', .slice pA' pn' pc', .int .i64 i', .int .i64 j', .string f', .string t', .slice oA' on' oc', .slice nA' nn' nc']] w (ComPost (commuteE e e') w) := by
  have H := Lib.hid h
  have H' := Lib.hid h'
  have HE := Lib.hid hE
  have HT := Lib.hid ht
  have HT' := Lib.hid ht'
  have HSF : Hid (f.size + t.size ≤ 9223372036854775806) := by obtain ⟨ps, os, ns, rfl, _⟩ := h; exact Nat.le_trans ht.texts (by omega)
  have HSF' : Hid (f'.size + t'.size ≤ 9223372036854775806) := by obtain ⟨ps, os, ns, rfl, _⟩ := h'; exact Nat.le_trans ht'.texts (by omega)
  have HF := Lib.hid (comW_facts w (.int .u8 k) (.slice pA pn pc) (.int .i64 i) (.int .i64 j) (.string f) (.string t) (.slice oA on oc) (.slice nA nn nc) (.int .u8 k') (.slice pA' pn' pc') (.int .i64 i') (.int .i64 j') (.string f') (.string t') (.slice oA' on' oc') (.slice nA' nn' nc'))
  have HV : Hid (commuteE e e' = .error 130) := by show _ = _; unfold commuteE; simp [hr, hr', hm]
  have HR := Lib.hid hr
  have HR' := Lib.hid hr'
  have HM := Lib.hid hm
  clear h h' hE ht ht' hr hr' hm
  go_enter Tryz.func7, Tryz.ntmps7
  go_wp2_with fail
  refine (p_eright e _ _ _ _ _ _ _ _ _ _ _ _ _ _ (comW w (.int .u8 k) (.slice pA pn pc) (.int .i64 i) (.int .i64 j) (.string f) (.string t) (.slice oA on oc) (.slice nA nn nc) (.int .u8 k') (.slice pA' pn' pc') (.int .i64 i') (.int .i64 j') (.string f') (.string t') (.slice oA' on' oc') (.slice nA' nn' nc')) (H.out.below HF.out.1) (HE.out.below HF.out.1 (Nat.le_refl _)) HSF.out (tiny_sho HT.out (by omega)) (tiny_shn HT.out (by omega))).mono ?_
  rintro en w1 ⟨rfl, hb1⟩
  rw [HR.out]
  have HB1 := Lib.hid (bthen HF.out.1 hb1)
  have HC1 := Lib.hid (HF.out.2.next hb1)
  clear hb1
  obtain ⟨⟨c0, c1, c2, c3, c4, c5, c6, c7⟩, ⟨d0, d1, d2, d3, d4, d5, d6, d7⟩, ⟨⟨m0, m1, m2, m3, m4, m5, m6, m7⟩, ⟨n0, n1, n2, n3, n4, n5, n6, n7⟩⟩, ⟨⟨r0, r1, r2, r3, r4, r5, r6, r7⟩, ⟨s0, s1, s2, s3, s4, s5, s6, s7⟩⟩⟩ := com_all HC1.out
  go_wp2_with fail
  refine (p_eright e' _ _ _ _ _ _ _ _ _ _ _ _ _ _ _ (H'.out.below HB1.out) (HE.out.below HB1.out (Nat.le_refl _)) HSF'.out (tiny_sho HT'.out (by omega)) (tiny_shn HT'.out (by omega))).mono ?_
  rintro en w2 ⟨rfl, hb2⟩
  rw [HR'.out]
  have HB2 := Lib.hid (bthen HB1.out hb2)
  have HC2 := Lib.hid (HC1.out.next hb2)
  clear hb2
  clear c0 c1 c2 c3 c4 c5 c6 c7 d0 d1 d2 d3 d4 d5 d6 d7 m0 m1 m2 m3 m4 m5 m6 m7 n0 n1 n2 n3 n4 n5 n6 n7 r0 r1 r2 r3 r4 r5 r6 r7 s0 s1 s2 s3 s4 s5 s6 s7
  obtain ⟨⟨c0, c1, c2, c3, c4, c5, c6, c7⟩, ⟨d0, d1, d2, d3, d4, d5, d6, d7⟩, ⟨⟨m0, m1, m2, m3, m4, m5, m6, m7⟩, ⟨n0, n1, n2, n3, n4, n5, n6, n7⟩⟩, ⟨⟨r0, r1, r2, r3, r4, r5, r6, r7⟩, ⟨s0, s1, s2, s3, s4, s5, s6, s7⟩⟩⟩ := com_all HC2.out
  go_upto_region 3 with fail
  refine com_r3 e e' k pA pn pc i j f t oA on oc nA nn nc k' pA' pn' pc' i' j' f' t' oA' on' oc' nA' nn' nc' w w2 w.heap.size (Nat.le_refl _) H.out H'.out HT.out HT'.out HR.out HR'.out HB2.out HC2.out _ _ _ _ _ _ _ _ _ _ _ _ _ _ _ _ _ _ _ _ _ _ _ _ _ _ _ _ _ _ _ _ _ _ _ _ _ _ _ _ _ _ _ _ _ _ _ _ _ _ _ _ _ _ _ _ _ _ _ _ _ _ _ _ _ _ _ _ _ _ _ _ _ _ _ _ _ _ _ _ _ _ _ _ _ _ _ _ _ _ _ _ _ _ _ _ _ ?_
  intro g g' v24 v26 w3 hm
  have HB3 := Lib.hid hm.bel
  have HC3 := Lib.hid hm.box
  obtain ⟨mA, mn, mc, bA, bn, bc, mA', mn', mc', bA', bn', bc', hg, hg', hs, hs'⟩ := hm.sides
  have HG := Lib.hid hg
  have HG' := Lib.hid hg'
  have HS := Lib.hid hs
  have HS' := Lib.hid hs'
  have hl3 := (Array.getElem?_eq_some_iff.1 hg).1
  obtain ⟨⟨a0, a1, a2, a3, a4, a5, a6, a7, a8, a9, a10, a11⟩, _⟩ := box12 hg
  obtain ⟨⟨b0, b1, b2, b3, b4, b5, b6, b7, b8, b9, b10, b11⟩, _⟩ := box12 hg'
  clear hm hg hg' hs hs'
  go_wp2_with fail
  refine (p_mixes e k pA pn pc i j f t oA on oc nA nn nc mA mn mc bA bn bc e' k' pA' pn' pc' i' j' f' t' oA' on' oc' nA' nn' nc' mA' mn' mc' bA' bn' bc' w3 HS.out HS'.out).mono ?_
  rintro en w4 ⟨rfl, hb4⟩
  rw [HM.out]
  have HB4 := Lib.hid (bthen HB3.out hb4)
  have HC4 := Lib.hid (HC3.out.next hb4)
  have HON := Lib.hid hb4
  clear hb4 a0 a1 a2 a3 a4 a5 a6 a7 a8 a9 a10 a11 b0 b1 b2 b3 b4 b5 b6 b7 b8 b9 b10 b11
  obtain ⟨⟨c0, c1, c2, c3, c4, c5, c6, c7⟩, ⟨d0, d1, d2, d3, d4, d5, d6, d7⟩, ⟨⟨m0, m1, m2, m3, m4, m5, m6, m7⟩, ⟨n0, n1, n2, n3, n4, n5, n6, n7⟩⟩, ⟨⟨r0, r1, r2, r3, r4, r5, r6, r7⟩, ⟨s0, s1, s2, s3, s4, s5, s6, s7⟩⟩⟩ := com_all HC4.out
  go_wp2_with fail
  go_region
  all_goals
    go_wp2_with fail
    obtain ⟨z1, z2, z3⟩ := com_zeroD HB4.out (Nat.le_refl _) HC4.out
    exact bodyPost_ret (com_res _ _ (w.heap.size + 1 + 1) (w.heap.size + 1 + 1 + 1) rfl rfl rfl z2 z3) rfl (ComPost.no HV.out z1 rfl)
end Go.Proofs.YtmikjhohnfcedaaGreatDoor

namespace Go.Proofs.YtmikjhohnfcedaaGreatDoor
set_option linter.unusedSimpArgs false
set_option linter.unusedVariables false
open Go.RowKit
set_option linter.unusedSimpArgs false

theorem EditT.drew {w : World} {e : Edt} {k : Nat} {pA : Option Addr} {pn pc : Nat} {i j : Int} {f t : ByteArray} {oA : Option Addr} {on oc : Nat} {nA : Option Addr} {nn nc : Nat} (h : EditT w e k pA pn pc i j f t oA on oc nA nn nc) : EditT w.drew e k pA pn pc i j f t oA on oc nA nn nc := h.below (bel_drew1 (Below.refl _ _))
theorem com_fin {w0 w : World} {B : Nat} {x0 x1 x2 x3 x4 x5 x6 x7 y0 y1 y2 y3 y4 y5 y6 y7 : Value} {a b : Edt} {k2 : Nat} {pA2 : Option Addr} {pn2 pc2 : Nat} {i2 j2 : Int} {f2 t2 : ByteArray} {oA2 : Option Addr} {on2 oc2 : Nat} {nA2 : Option Addr} {nn2 nc2 : Nat} {k4 : Nat} {pA4 : Option Addr} {pn4 pc4 : Nat} {i4 j4 : Int} {f4 t4 : ByteArray} {oA4 : Option Addr} {on4 oc4 : Nat} {nA4 : Option Addr} {nn4 nc4 : Nat} (hB : Below w0.heap.size w0 w) (hw : w0.heap.size ≤ B) (h : CBox B x0 x1 x2 x3 x4 x5 x6 x7 y0 y1 y2 y3 y4 y5 y6 y7 w) (ha : EditT w a k2 pA2 pn2 pc2 i2 j2 f2 t2 oA2 on2 oc2 nA2 nn2 nc2) (hb : EditT w b k4 pA4 pn4 pc4 i4 j4 f4 t4 oA4 on4 oc4 nA4 nn4 nc4) :
    Below w0.heap.size w0 (put8 (put8 w (B + 1 + 1) (.int .u8 k2) (.slice pA2 pn2 pc2) (.int .i64 i2) (.int .i64 j2) (.string f2) (.string t2) (.slice oA2 on2 oc2) (.slice nA2 nn2 nc2)) (B + 1 + 1 + 1) (.int .u8 k4) (.slice pA4 pn4 pc4) (.int .i64 i4) (.int .i64 j4) (.string f4) (.string t4) (.slice oA4 on4 oc4) (.slice nA4 nn4 nc4)).drew ∧ Box8 (put8 (put8 w (B + 1 + 1) (.int .u8 k2) (.slice pA2 pn2 pc2) (.int .i64 i2) (.int .i64 j2) (.string f2) (.string t2) (.slice oA2 on2 oc2) (.slice nA2 nn2 nc2)) (B + 1 + 1 + 1) (.int .u8 k4) (.slice pA4 pn4 pc4) (.int .i64 i4) (.int .i64 j4) (.string f4) (.string t4) (.slice oA4 on4 oc4) (.slice nA4 nn4 nc4)).drew (B + 1 + 1) (.int .u8 k2) (.slice pA2 pn2 pc2) (.int .i64 i2) (.int .i64 j2) (.string f2) (.string t2) (.slice oA2 on2 oc2) (.slice nA2 nn2 nc2) ∧ Box8 (put8 (put8 w (B + 1 + 1) (.int .u8 k2) (.slice pA2 pn2 pc2) (.int .i64 i2) (.int .i64 j2) (.string f2) (.string t2) (.slice oA2 on2 oc2) (.slice nA2 nn2 nc2)) (B + 1 + 1 + 1) (.int .u8 k4) (.slice pA4 pn4 pc4) (.int .i64 i4) (.int .i64 j4) (.string f4) (.string t4) (.slice oA4 on4 oc4) (.slice nA4 nn4 nc4)).drew (B + 1 + 1 + 1) (.int .u8 k4) (.slice pA4 pn4 pc4) (.int .i64 i4) (.int .i64 j4) (.string f4) (.string t4) (.slice oA4 on4 oc4) (.slice nA4 nn4 nc4) ∧ EdVal (put8 (put8 w (B + 1 + 1) (.int .u8 k2) (.slice pA2 pn2 pc2) (.int .i64 i2) (.int .i64 j2) (.string f2) (.string t2) (.slice oA2 on2 oc2) (.slice nA2 nn2 nc2)) (B + 1 + 1 + 1) (.int .u8 k4) (.slice pA4 pn4 pc4) (.int .i64 i4) (.int .i64 j4) (.string f4) (.string t4) (.slice oA4 on4 oc4) (.slice nA4 nn4 nc4)).drew a (.agg #[.int .u8 k2, .slice pA2 pn2 pc2, .int .i64 i2, .int .i64 j2, .string f2, .string t2, .slice oA2 on2 oc2, .slice nA2 nn2 nc2]) ∧ EdVal (put8 (put8 w (B + 1 + 1) (.int .u8 k2) (.slice pA2 pn2 pc2) (.int .i64 i2) (.int .i64 j2) (.string f2) (.string t2) (.slice oA2 on2 oc2) (.slice nA2 nn2 nc2)) (B + 1 + 1 + 1) (.int .u8 k4) (.slice pA4 pn4 pc4) (.int .i64 i4) (.int .i64 j4) (.string f4) (.string t4) (.slice oA4 on4 oc4) (.slice nA4 nn4 nc4)).drew b (.agg #[.int .u8 k4, .slice pA4 pn4 pc4, .int .i64 i4, .int .i64 j4, .string f4, .string t4, .slice oA4 on4 oc4, .slice nA4 nn4 nc4]) := by
  have z1 : ZB8 w (B + 1 + 1) := h.ra
  have z2 : ZB8 (put8 w (B + 1 + 1) (.int .u8 k2) (.slice pA2 pn2 pc2) (.int .i64 i2) (.int .i64 j2) (.string f2) (.string t2) (.slice oA2 on2 oc2) (.slice nA2 nn2 nc2)) (B + 1 + 1 + 1) := (put8_other (by omega)).trans h.rb
  have b1 : But (notB (B + 1 + 1)) w (put8 w (B + 1 + 1) (.int .u8 k2) (.slice pA2 pn2 pc2) (.int .i64 i2) (.int .i64 j2) (.string f2) (.string t2) (.slice oA2 on2 oc2) (.slice nA2 nn2 nc2)) := put8_butz
  have b2 : But (notB (B + 1 + 1 + 1)) (put8 w (B + 1 + 1) (.int .u8 k2) (.slice pA2 pn2 pc2) (.int .i64 i2) (.int .i64 j2) (.string f2) (.string t2) (.slice oA2 on2 oc2) (.slice nA2 nn2 nc2)) (put8 (put8 w (B + 1 + 1) (.int .u8 k2) (.slice pA2 pn2 pc2) (.int .i64 i2) (.int .i64 j2) (.string f2) (.string t2) (.slice oA2 on2 oc2) (.slice nA2 nn2 nc2)) (B + 1 + 1 + 1) (.int .u8 k4) (.slice pA4 pn4 pc4) (.int .i64 i4) (.int .i64 j4) (.string f4) (.string t4) (.slice oA4 on4 oc4) (.slice nA4 nn4 nc4)) := put8_butz
  have ha' := ((ha.but z1.isBox b1).but z2.isBox b2).drew
  have hb' := ((hb.but z1.isBox b1).but z2.isBox b2).drew
  refine ⟨(put8_below (put8_below hB (by omega)) (by omega)).drew, box8_drew ?_, box8_drew ?_, ⟨_, _, _, _, _, _, _, _, _, _, _, _, _, _, rfl, ha'⟩, ⟨_, _, _, _, _, _, _, _, _, _, _, _, _, _, rfl, hb'⟩⟩
  · exact (boxF8 ((put8_other (by omega)).trans (put8_heap z1))).cs
  · exact (boxF8 (put8_heap z2)).cs
/-- A place's number is written. -/
theorem ed_at {w : World} {a : Edt} {g : Nat} (h : EdBox w a g) (x : Int) : EdBox (w.setCell ⟨g, 2, none⟩ (.int .i64 x)) { a with at_ := x } g := by
  have hz := h.isBox
  obtain ⟨k, pA, pn, pc, i, j, f, t, oA, on, oc, nA, nn, nc, h1, h2⟩ := h
  have hb : But (notB g) w (w.setCell ⟨g, 2, none⟩ (.int .i64 x)) := (But.refl _ _).set (notB_self _) _
  obtain ⟨⟨ps, os, ns, rfl, hp, ho, hn⟩, hT⟩ := h2.but hz hb
  exact ⟨k, pA, pn, pc, x, j, f, t, oA, on, oc, nA, nn, nc, by simp [World.setCell, Array.getElem?_modify, h1], ⟨ps, os, ns, rfl, hp, ho, hn⟩, hT⟩
/-- A path is written. -/
theorem ed_path {w : World} {a : Edt} {g : Nat} (h : EdBox w a g) {xs : List Int} {A : Option Addr} {n c : Nat} (hx : IntsAt w xs A n c) (hX : PathT w xs A) : EdBox (w.setCell ⟨g, 1, none⟩ (.slice A n c)) { a with path := xs } g := by
  have hz := h.isBox
  obtain ⟨k, pA, pn, pc, i, j, f, t, oA, on, oc, nA, nn, nc, h1, h2⟩ := h
  have hb : But (notB g) w (w.setCell ⟨g, 1, none⟩ (.slice A n c)) := (But.refl _ _).set (notB_self _) _
  obtain ⟨⟨ps, os, ns, rfl, hp, ho, hn⟩, hT⟩ := h2.but hz hb
  obtain ⟨p1, p2⟩ := path_but hz hb hx hX
  exact ⟨k, A, n, c, i, j, f, t, oA, on, oc, nA, nn, nc, by simp [World.setCell, Array.getElem?_modify, h1], ⟨xs, os, ns, rfl, p1, ho, hn⟩, p2⟩
theorem ed_other {w : World} {a b : Edt} {g g' : Nat} (h : EdBox w a g) (h' : EdBox w b g') (hne : g ≠ g') (j : Nat) (u : Value) : EdBox (w.setCell ⟨g', j, none⟩ u) a g :=
  h.but h'.isBox ((But.refl _ _).set (notB_self _) _) hne
theorem few_of {e : Edt} (h : editRight e = true) : Few e.path := by
  intro z hz
  have := List.all_eq_true.1 ((right_iff e).1 h).1.1 z hz
  simp [numberB] at this
  omega
theorem EditIs.kind {w : World} {e : Edt} {k : Nat} {pA : Option Addr} {pn pc : Nat} {i j : Int} {f t : ByteArray} {oA : Option Addr} {on oc : Nat} {nA : Option Addr} {nn nc : Nat} (h : EditIs w e k pA pn pc i j f t oA on oc nA nn nc) : e.kind = k ∧ e.at_ = i ∧ e.far = j ∧ IntsAt w e.path pA pn pc ∧ e.frm = bl f ∧ e.to_ = bl t := by
  obtain ⟨ps, os, ns, rfl, hp, _⟩ := h
  exact ⟨rfl, rfl, rfl, hp, rfl, rfl⟩
end Go.Proofs.YtmikjhohnfcedaaGreatDoor

namespace Go.Proofs.YtmikjhohnfcedaaGreatDoor
set_option linter.unusedSimpArgs false
set_option linter.unusedVariables false
open Go.RowKit
set_option linter.unusedSimpArgs false

set_option maxRecDepth 20000 in
set_option maxHeartbeats 2000000 in
theorem p_com_d (e e' : Edt) (k : Nat) (pA : Option Addr) (pn pc : Nat) (i j : Int) (f t : ByteArray) (oA : Option Addr) (on oc : Nat) (nA : Option Addr) (nn nc : Nat) (k' : Nat) (pA' : Option Addr) (pn' pc' : Nat) (i' j' : Int) (f' t' : ByteArray) (oA' : Option Addr) (on' oc' : Nat) (nA' : Option Addr) (nn' nc' : Nat) (w : World)
    (h : EditIs w e k pA pn pc i j f t oA on oc nA nn nc) (h' : EditIs w e' k' pA' pn' pc' i' j' f' t' oA' on' oc' nA' nn' nc') (hE : EnvS w) (ht : e.tiny) (ht' : e'.tiny) (hr : editRight e = true) (hr' : editRight e' = true) (hm : mixesB e e' = false) (hl : (loneB e.kind && loneB e'.kind && e.path == e'.path) = true) :
    Calls Tryz.prog 7 #[.agg #[.int .u8 k, .slice pA pn pc, .int .i64 i, .int .i64 j, .string f, .string t, .slice oA on oc, .slice nA nn nc], .agg #[.int .u8 k', .slice pA' pn' pc', .int .i64 i', .int .i64 j', .string f', .string t', .slice oA' on' oc', .slice nA' nn' nc']] w (ComPost (commuteE e e') w) := by
  have H := Lib.hid h
  have H' := Lib.hid h'
  have HE := Lib.hid hE
  have HT := Lib.hid ht
  have HT' := Lib.hid ht'
  have HSF : Hid (f.size + t.size ≤ 9223372036854775806) := by obtain ⟨ps, os, ns, rfl, _⟩ := h; exact Nat.le_trans ht.texts (by omega)
  have HSF' : Hid (f'.size + t'.size ≤ 9223372036854775806) := by obtain ⟨ps, os, ns, rfl, _⟩ := h'; exact Nat.le_trans ht'.texts (by omega)
  have HF := Lib.hid (comW_facts w (.int .u8 k) (.slice pA pn pc) (.int .i64 i) (.int .i64 j) (.string f) (.string t) (.slice oA on oc) (.slice nA nn nc) (.int .u8 k') (.slice pA' pn' pc') (.int .i64 i') (.int .i64 j') (.string f') (.string t') (.slice oA' on' oc') (.slice nA' nn' nc'))
  have HR := Lib.hid hr
  have HR' := Lib.hid hr'
  have HM := Lib.hid hm
  have hl1 : loneB k = true := by rw [Bool.and_eq_true, Bool.and_eq_true, h.kind.1] at hl; exact hl.1.1
  have hl2 : loneB k' = true := by rw [Bool.and_eq_true, Bool.and_eq_true, h'.kind.1] at hl; exact hl.1.2
  have hl3 : (e.path == e'.path) = true := by rw [Bool.and_eq_true] at hl; exact hl.2
  have HL1 := Lib.hid hl1
  have HL2 := Lib.hid hl2
  have HL3 := Lib.hid hl3
  have HSW : Hid (swapped e e' = match besideB e e' with | some (j, i) => some ({ e' with at_ := j }, { e with at_ := i }) | none => none) := by show _ = _; unfold swapped; rw [if_pos hl]; cases besideB e e' <;> rfl
  have HN1 : Hid (numberB i = true) := by have := ((right_iff e).1 hr).1.2.1; rw [h.kind.2.1] at this; exact this
  have HN2 : Hid (numberB i' = true) := by have := ((right_iff e').1 hr').1.2.1; rw [h'.kind.2.1] at this; exact this
  have HK := Lib.hid h.kind
  have HK' := Lib.hid h'.kind
  clear h h' hE ht ht' hr hr' hm hl hl1 hl2 hl3
  go_enter Tryz.func7, Tryz.ntmps7
  go_wp2_with fail
  refine (p_eright e _ _ _ _ _ _ _ _ _ _ _ _ _ _ (comW w (.int .u8 k) (.slice pA pn pc) (.int .i64 i) (.int .i64 j) (.string f) (.string t) (.slice oA on oc) (.slice nA nn nc) (.int .u8 k') (.slice pA' pn' pc') (.int .i64 i') (.int .i64 j') (.string f') (.string t') (.slice oA' on' oc') (.slice nA' nn' nc')) (H.out.below HF.out.1) (HE.out.below HF.out.1 (Nat.le_refl _)) HSF.out (tiny_sho HT.out (by omega)) (tiny_shn HT.out (by omega))).mono ?_
  rintro en w1 ⟨rfl, hb1⟩
  rw [HR.out]
  have HB1 := Lib.hid (bthen HF.out.1 hb1)
  have HC1 := Lib.hid (HF.out.2.next hb1)
  clear hb1
  obtain ⟨⟨c0, c1, c2, c3, c4, c5, c6, c7⟩, ⟨d0, d1, d2, d3, d4, d5, d6, d7⟩, ⟨⟨m0, m1, m2, m3, m4, m5, m6, m7⟩, ⟨n0, n1, n2, n3, n4, n5, n6, n7⟩⟩, ⟨⟨r0, r1, r2, r3, r4, r5, r6, r7⟩, ⟨s0, s1, s2, s3, s4, s5, s6, s7⟩⟩⟩ := com_all HC1.out
  go_wp2_with fail
  refine (p_eright e' _ _ _ _ _ _ _ _ _ _ _ _ _ _ _ (H'.out.below HB1.out) (HE.out.below HB1.out (Nat.le_refl _)) HSF'.out (tiny_sho HT'.out (by omega)) (tiny_shn HT'.out (by omega))).mono ?_
  rintro en w2 ⟨rfl, hb2⟩
  rw [HR'.out]
  have HB2 := Lib.hid (bthen HB1.out hb2)
  have HC2 := Lib.hid (HC1.out.next hb2)
  clear hb2
  clear c0 c1 c2 c3 c4 c5 c6 c7 d0 d1 d2 d3 d4 d5 d6 d7 m0 m1 m2 m3 m4 m5 m6 m7 n0 n1 n2 n3 n4 n5 n6 n7 r0 r1 r2 r3 r4 r5 r6 r7 s0 s1 s2 s3 s4 s5 s6 s7
  obtain ⟨⟨c0, c1, c2, c3, c4, c5, c6, c7⟩, ⟨d0, d1, d2, d3, d4, d5, d6, d7⟩, ⟨⟨m0, m1, m2, m3, m4, m5, m6, m7⟩, ⟨n0, n1, n2, n3, n4, n5, n6, n7⟩⟩, ⟨⟨r0, r1, r2, r3, r4, r5, r6, r7⟩, ⟨s0, s1, s2, s3, s4, s5, s6, s7⟩⟩⟩ := com_all HC2.out
  go_upto_region 3 with fail
  refine com_r3 e e' k pA pn pc i j f t oA on oc nA nn nc k' pA' pn' pc' i' j' f' t' oA' on' oc' nA' nn' nc' w w2 w.heap.size (Nat.le_refl _) H.out H'.out HT.out HT'.out HR.out HR'.out HB2.out HC2.out _ _ _ _ _ _ _ _ _ _ _ _ _ _ _ _ _ _ _ _ _ _ _ _ _ _ _ _ _ _ _ _ _ _ _ _ _ _ _ _ _ _ _ _ _ _ _ _ _ _ _ _ _ _ _ _ _ _ _ _ _ _ _ _ _ _ _ _ _ _ _ _ _ _ _ _ _ _ _ _ _ _ _ _ _ _ _ _ _ _ _ _ _ _ _ _ _ ?_
  intro g g' v24 v26 w3 hm
  have HB3 := Lib.hid hm.bel
  have HC3 := Lib.hid hm.box
  obtain ⟨mA, mn, mc, bA, bn, bc, mA', mn', mc', bA', bn', bc', hg, hg', hs, hs'⟩ := hm.sides
  have HG := Lib.hid hg
  have HG' := Lib.hid hg'
  have HS := Lib.hid hs
  have HS' := Lib.hid hs'
  have hl3 := (Array.getElem?_eq_some_iff.1 hg).1
  obtain ⟨⟨a0, a1, a2, a3, a4, a5, a6, a7, a8, a9, a10, a11⟩, _⟩ := box12 hg
  obtain ⟨⟨b0, b1, b2, b3, b4, b5, b6, b7, b8, b9, b10, b11⟩, _⟩ := box12 hg'
  clear hm hg hg' hs hs'
  go_wp2_with fail
  refine (p_mixes e k pA pn pc i j f t oA on oc nA nn nc mA mn mc bA bn bc e' k' pA' pn' pc' i' j' f' t' oA' on' oc' nA' nn' nc' mA' mn' mc' bA' bn' bc' w3 HS.out HS'.out).mono ?_
  rintro en w4 ⟨rfl, hb4⟩
  rw [HM.out]
  have HB4 := Lib.hid (bthen HB3.out hb4)
  have HC4 := Lib.hid (HC3.out.next hb4)
  have HON := Lib.hid hb4
  clear hb4 a0 a1 a2 a3 a4 a5 a6 a7 a8 a9 a10 a11 b0 b1 b2 b3 b4 b5 b6 b7 b8 b9 b10 b11
  have HG4 := Lib.hid ((HON.out.block _ (Array.getElem?_eq_some_iff.1 HG.out).1).trans HG.out)
  have HG4' := Lib.hid ((HON.out.block _ (Array.getElem?_eq_some_iff.1 HG'.out).1).trans HG'.out)
  go_upto_region 6 with fail
  refine com_r6 e e' k pA pn pc i j f t oA on oc nA nn nc k' pA' pn' pc' i' j' f' t' oA' on' oc' nA' nn' nc' w w4 w.heap.size (Nat.le_refl _) H.out H'.out HE.out HT.out HT'.out HB4.out HC4.out _ _ _ _ _ _ _ _ _ _ _ _ _ _ _ _ _ _ _ _ _ _ _ _ _ _ _ _ _ _ _ _ _ _ _ _ _ _ _ _ _ _ _ _ _ _ _ _ _ _ _ _ _ _ _ _ _ _ _ _ _ _ _ _ _ _ _ _ _ _ _ _ _ _ _ _ _ _ _ _ _ _ _ _ _ _ _ _ _ _ _ _ _ _ _ _ _ ?_
  intro q q' v33 v34 v36 v37 w5 h6
  rw [invert_invert HR.out, invert_invert HR'.out] at h6
  have HB5 := Lib.hid h6.bel
  have HC5 := Lib.hid h6.box
  have HA5 := Lib.hid h6.a
  have HD5 := Lib.hid h6.b
  have hne := h6.ne
  have hlo := h6.lo
  have hlo' := h6.lo'
  have hs4 := HC4.out.size
  have hg5 := (h6.on.block _ (Array.getElem?_eq_some_iff.1 HG4.out).1).trans HG4.out
  have hg5' := (h6.on.block _ (Array.getElem?_eq_some_iff.1 HG4'.out).1).trans HG4'.out
  have HG5 := Lib.hid hg5
  have HG5' := Lib.hid hg5'
  obtain ⟨⟨a0, a1, a2, a3, a4, a5, a6, a7, a8, a9, a10, a11⟩, _⟩ := box12 hg5
  clear h6 hg5 hg5'
  go_wp2_with fail
  refine (p_list k _ _ _ _ _ _ _ _ _ _ _ _).mono ?_
  rintro en w6 ⟨rfl, hb⟩
  rw [HL1.out]
  have HB6 := Lib.hid (bthen HB5.out hb)
  have HC6 := Lib.hid (HC5.out.next hb)
  have HA6 := Lib.hid (HA5.out.below hb)
  have HD6 := Lib.hid (HD5.out.below hb)
  have hg6' := (hb.block _ (Array.getElem?_eq_some_iff.1 HG5'.out).1).trans HG5'.out
  obtain ⟨⟨b0, b1, b2, b3, b4, b5, b6, b7, b8, b9, b10, b11⟩, _⟩ := box12 hg6'
  clear hb a0 a1 a2 a3 a4 a5 a6 a7 a8 a9 a10 a11 hg6'
  go_wp2_with fail
  refine (p_list k' _ _ _ _ _ _ _ _ _ _ _ _).mono ?_
  rintro en w7 ⟨rfl, hb⟩
  rw [HL2.out]
  have HB7 := Lib.hid (bthen HB6.out hb)
  have HC7 := Lib.hid (HC6.out.next hb)
  have HA7 := Lib.hid (HA6.out.below hb)
  have HD7 := Lib.hid (HD6.out.below hb)
  clear hb b0 b1 b2 b3 b4 b5 b6 b7 b8 b9 b10 b11
  obtain ⟨⟨c0, c1, c2, c3, c4, c5, c6, c7⟩, ⟨d0, d1, d2, d3, d4, d5, d6, d7⟩, ⟨⟨m0, m1, m2, m3, m4, m5, m6, m7⟩, ⟨n0, n1, n2, n3, n4, n5, n6, n7⟩⟩, ⟨⟨r0, r1, r2, r3, r4, r5, r6, r7⟩, ⟨s0, s1, s2, s3, s4, s5, s6, s7⟩⟩⟩ := com_all HC7.out
  go_wp2_with fail
  refine (p_equal_ints e.path e'.path _ _ _ _ _ _ _ (HK.out.2.2.2.1.below HB7.out) (HK'.out.2.2.2.1.below HB7.out)).mono ?_
  rintro en w8 ⟨rfl, qd, hw8⟩
  rw [HL3.out]
  have hb : Below w7.heap.size w7 w8 := by rw [hw8]; exact bel_drew (Below.refl _ _) _
  clear hw8
  have HB8 := Lib.hid (bthen HB7.out hb)
  have HC8 := Lib.hid (HC7.out.next hb)
  have HA8 := Lib.hid (HA7.out.below hb)
  have HD8 := Lib.hid (HD7.out.below hb)
  clear hb
  clear c0 c1 c2 c3 c4 c5 c6 c7 d0 d1 d2 d3 d4 d5 d6 d7 m0 m1 m2 m3 m4 m5 m6 m7 n0 n1 n2 n3 n4 n5 n6 n7 r0 r1 r2 r3 r4 r5 r6 r7 s0 s1 s2 s3 s4 s5 s6 s7
  obtain ⟨⟨c0, c1, c2, c3, c4, c5, c6, c7⟩, ⟨d0, d1, d2, d3, d4, d5, d6, d7⟩, ⟨⟨m0, m1, m2, m3, m4, m5, m6, m7⟩, ⟨n0, n1, n2, n3, n4, n5, n6, n7⟩⟩, ⟨⟨r0, r1, r2, r3, r4, r5, r6, r7⟩, ⟨s0, s1, s2, s3, s4, s5, s6, s7⟩⟩⟩ := com_all HC8.out
  go_wp2_with fail
  refine (p_beside e e' k k' i i' _ _ _ _ _ _ _ _ _ _ _ _ _ HK.out.1 HK'.out.1 HK.out.2.1 HK'.out.2.1 HN1.out HN2.out).mono ?_
  rintro en w9 ⟨rfl, hb⟩
  have HB9 := Lib.hid (bthen HB8.out hb)
  have HC9 := Lib.hid (HC8.out.next hb)
  have HA9 := Lib.hid (HA8.out.below hb)
  have HD9 := Lib.hid (HD8.out.below hb)
  clear hb
  clear c0 c1 c2 c3 c4 c5 c6 c7 d0 d1 d2 d3 d4 d5 d6 d7 m0 m1 m2 m3 m4 m5 m6 m7 n0 n1 n2 n3 n4 n5 n6 n7 r0 r1 r2 r3 r4 r5 r6 r7 s0 s1 s2 s3 s4 s5 s6 s7
  cases hbs : besideB e e' with
  | none =>
    have HV2 : Hid (commuteE e e' = .error 130) := by show _ = _; have h1 := HSW.out; rw [hbs] at h1; unfold commuteE; simp [HR.out, HR'.out, HM.out, h1]
    clear hbs
    have ev : besideV none = .tuple #[.int .i64 0, .int .i64 0, .bool false] := rfl
    rw [ev]
    obtain ⟨⟨c0, c1, c2, c3, c4, c5, c6, c7⟩, ⟨d0, d1, d2, d3, d4, d5, d6, d7⟩, ⟨⟨m0, m1, m2, m3, m4, m5, m6, m7⟩, ⟨n0, n1, n2, n3, n4, n5, n6, n7⟩⟩, ⟨⟨r0, r1, r2, r3, r4, r5, r6, r7⟩, ⟨s0, s1, s2, s3, s4, s5, s6, s7⟩⟩⟩ := com_all HC9.out
    obtain ⟨ka, pAa, pna, pca, ia, ja, fa, ta, oAa, ona, oca, nAa, nna, nca, hqa, hta⟩ := HA9.out
    obtain ⟨kb, pAb, pnb, pcb, ib, jb, fb, tb, oAb, onb, ocb, nAb, nnb, ncb, hqb, htb⟩ := HD9.out
    obtain ⟨⟨x0, x1, x2, x3, x4, x5, x6, x7⟩, ⟨xf0, xf1, xf2, xf3, xf4, xf5, xf6, xf7⟩⟩ := boxF8 hqa
    obtain ⟨⟨y0, y1, y2, y3, y4, y5, y6, y7⟩, ⟨yf0, yf1, yf2, yf3, yf4, yf5, yf6, yf7⟩⟩ := boxF8 hqb
    have HTA := Lib.hid hta
    have HTB := Lib.hid htb
    clear hqa hqb hta htb
    go_wp2_with fail
    go_region
    all_goals
      go_wp2_with fail
      have hC := (HC9.out.set (p := ⟨q, 2, none⟩) (u := .int .i64 0) (by dsimp only; omega)).set (p := ⟨q', 2, none⟩) (u := .int .i64 0) (by dsimp only; omega)
      have hB := (HB9.out.setCell (p := ⟨q, 2, none⟩) (by dsimp only; omega) (.int .i64 0)).setCell (p := ⟨q', 2, none⟩) (by dsimp only; omega) (.int .i64 0)
      obtain ⟨z1, z2, z3⟩ := com_zeroD hB (Nat.le_refl _) hC
      exact bodyPost_ret (com_res _ _ (w.heap.size + 1 + 1) (w.heap.size + 1 + 1 + 1) rfl rfl rfl z2 z3) rfl (ComPost.no HV2.out z1 rfl)
  | some r =>
    obtain ⟨jj, ii⟩ := r
    have HS1 : Hid (swapped e e' = some ({ e' with at_ := jj }, { e with at_ := ii })) := by show _ = _; have h1 := HSW.out; rw [hbs] at h1; exact h1
    have HTA2 : Hid (Edt.tiny { e' with at_ := jj }) := tiny_with HT'.out _ _ rfl
    have HTB2 : Hid (Edt.tiny { e with at_ := ii }) := tiny_with HT.out _ _ rfl
    clear hbs
    have ev : besideV (some (jj, ii)) = .tuple #[.int .i64 jj, .int .i64 ii, .bool true] := rfl
    rw [ev]
    obtain ⟨w10, hw10⟩ : ∃ w10, w10 = (w9.setCell ⟨q, 2, none⟩ (.int .i64 jj)).setCell ⟨q', 2, none⟩ (.int .i64 ii) := ⟨_, rfl⟩
    have HC10 : Hid (CBox w.heap.size (.int .u8 k) (.slice pA pn pc) (.int .i64 i) (.int .i64 j) (.string f) (.string t) (.slice oA on oc) (.slice nA nn nc) (.int .u8 k') (.slice pA' pn' pc') (.int .i64 i') (.int .i64 j') (.string f') (.string t') (.slice oA' on' oc') (.slice nA' nn' nc') w10) := by rw [hw10]; exact (HC9.out.set (p := ⟨q, 2, none⟩) (u := .int .i64 jj) (by dsimp only; omega)).set (p := ⟨q', 2, none⟩) (u := .int .i64 ii) (by dsimp only; omega)
    have HB10 : Hid (Below w.heap.size w w10) := by rw [hw10]; exact (HB9.out.setCell (p := ⟨q, 2, none⟩) (by dsimp only; omega) (.int .i64 jj)).setCell (p := ⟨q', 2, none⟩) (by dsimp only; omega) (.int .i64 ii)
    have HA10 : Hid (EdBox w10 { e' with at_ := jj } q) := by rw [hw10]; exact ed_other (ed_at HA9.out jj) (ed_other HD9.out HA9.out (Ne.symm hne) 2 _) hne 2 _
    have HD10 : Hid (EdBox w10 { e with at_ := ii } q') := by rw [hw10]; exact ed_at (ed_other HD9.out HA9.out (Ne.symm hne) 2 _) ii
    obtain ⟨ka, pAa, pna, pca, ia, ja, fa, ta, oAa, ona, oca, nAa, nna, nca, hqa, hta⟩ := HA9.out
    obtain ⟨kb, pAb, pnb, pcb, ib, jb, fb, tb, oAb, onb, ocb, nAb, nnb, ncb, hqb, htb⟩ := HD9.out
    obtain ⟨⟨x0, x1, x2, x3, x4, x5, x6, x7⟩, ⟨xf0, xf1, xf2, xf3, xf4, xf5, xf6, xf7⟩⟩ := boxF8 hqa
    obtain ⟨⟨y0, y1, y2, y3, y4, y5, y6, y7⟩, ⟨yf0, yf1, yf2, yf3, yf4, yf5, yf6, yf7⟩⟩ := boxF8 hqb
    have HTA := Lib.hid hta
    have HTB := Lib.hid htb
    clear hqa hqb hta htb
    go_upto_region 13 with fail
    rw [← hw10]
    clear hw10
    clear x0 x1 x2 x3 x4 x5 x6 x7 xf0 xf1 xf2 xf3 xf4 xf5 xf6 xf7 y0 y1 y2 y3 y4 y5 y6 y7 yf0 yf1 yf2 yf3 yf4 yf5 yf6 yf7 HTA HTB
    obtain ⟨⟨c0, c1, c2, c3, c4, c5, c6, c7⟩, ⟨d0, d1, d2, d3, d4, d5, d6, d7⟩, ⟨⟨m0, m1, m2, m3, m4, m5, m6, m7⟩, ⟨n0, n1, n2, n3, n4, n5, n6, n7⟩⟩, ⟨⟨r0, r1, r2, r3, r4, r5, r6, r7⟩, ⟨s0, s1, s2, s3, s4, s5, s6, s7⟩⟩⟩ := com_all HC10.out
    obtain ⟨ka, pAa, pna, pca, ia, ja, fa, ta, oAa, ona, oca, nAa, nna, nca, hqa, hta⟩ := HA10.out
    obtain ⟨kb, pAb, pnb, pcb, ib, jb, fb, tb, oAb, onb, ocb, nAb, nnb, ncb, hqb, htb⟩ := HD10.out
    obtain ⟨⟨x0, x1, x2, x3, x4, x5, x6, x7⟩, ⟨xf0, xf1, xf2, xf3, xf4, xf5, xf6, xf7⟩⟩ := boxF8 hqa
    obtain ⟨⟨y0, y1, y2, y3, y4, y5, y6, y7⟩, ⟨yf0, yf1, yf2, yf3, yf4, yf5, yf6, yf7⟩⟩ := boxF8 hqb
    have HTA := Lib.hid hta
    have HTB := Lib.hid htb
    clear hqa hqb hta htb
    go_wp2_with fail
    refine (p_eright { e' with at_ := jj } _ _ _ _ _ _ _ _ _ _ _ _ _ _ _ HTA.out.1 (HE.out.below HB10.out (Nat.le_refl _)) (by have h1 := HTA.out.1.kind; have h2 := HTA2.out.texts; rw [h1.2.2.2.2.1, h1.2.2.2.2.2, bl_len, bl_len] at h2; omega) (tiny_sho HTA2.out (by omega)) (tiny_shn HTA2.out (by omega))).mono ?_
    rintro en w11 ⟨rfl, hb⟩
    clear c0 c1 c2 c3 c4 c5 c6 c7 d0 d1 d2 d3 d4 d5 d6 d7 m0 m1 m2 m3 m4 m5 m6 m7 n0 n1 n2 n3 n4 n5 n6 n7 r0 r1 r2 r3 r4 r5 r6 r7 s0 s1 s2 s3 s4 s5 s6 s7
    clear x0 x1 x2 x3 x4 x5 x6 x7 xf0 xf1 xf2 xf3 xf4 xf5 xf6 xf7 y0 y1 y2 y3 y4 y5 y6 y7 yf0 yf1 yf2 yf3 yf4 yf5 yf6 yf7 HTA HTB
    have HB11 := Lib.hid (bthen HB10.out hb)
    have HC11 := Lib.hid (HC10.out.next hb)
    have HA11 := Lib.hid (HA10.out.below hb)
    have HD11 := Lib.hid (HD10.out.below hb)
    clear hb
    cases hra : editRight { e' with at_ := jj } with
    | false =>
      have HV2 : Hid (commuteE e e' = .error 130) := by show _ = _; unfold commuteE; simp [HR.out, HR'.out, HM.out, HS1.out, hra]
      clear hra
      obtain ⟨⟨c0, c1, c2, c3, c4, c5, c6, c7⟩, ⟨d0, d1, d2, d3, d4, d5, d6, d7⟩, ⟨⟨m0, m1, m2, m3, m4, m5, m6, m7⟩, ⟨n0, n1, n2, n3, n4, n5, n6, n7⟩⟩, ⟨⟨r0, r1, r2, r3, r4, r5, r6, r7⟩, ⟨s0, s1, s2, s3, s4, s5, s6, s7⟩⟩⟩ := com_all HC11.out
      go_wp2_with fail
      go_region
      all_goals
        go_wp2_with fail
        obtain ⟨z1, z2, z3⟩ := com_zeroD HB11.out (Nat.le_refl _) HC11.out
        exact bodyPost_ret (com_res _ _ (w.heap.size + 1 + 1) (w.heap.size + 1 + 1 + 1) rfl rfl rfl z2 z3) rfl (ComPost.no HV2.out z1 rfl)
    | true =>
      have HRA := Lib.hid hra
      clear hra
      obtain ⟨⟨c0, c1, c2, c3, c4, c5, c6, c7⟩, ⟨d0, d1, d2, d3, d4, d5, d6, d7⟩, ⟨⟨m0, m1, m2, m3, m4, m5, m6, m7⟩, ⟨n0, n1, n2, n3, n4, n5, n6, n7⟩⟩, ⟨⟨r0, r1, r2, r3, r4, r5, r6, r7⟩, ⟨s0, s1, s2, s3, s4, s5, s6, s7⟩⟩⟩ := com_all HC11.out
      obtain ⟨ka, pAa, pna, pca, ia, ja, fa, ta, oAa, ona, oca, nAa, nna, nca, hqa, hta⟩ := HA11.out
      obtain ⟨kb, pAb, pnb, pcb, ib, jb, fb, tb, oAb, onb, ocb, nAb, nnb, ncb, hqb, htb⟩ := HD11.out
      obtain ⟨⟨x0, x1, x2, x3, x4, x5, x6, x7⟩, ⟨xf0, xf1, xf2, xf3, xf4, xf5, xf6, xf7⟩⟩ := boxF8 hqa
      obtain ⟨⟨y0, y1, y2, y3, y4, y5, y6, y7⟩, ⟨yf0, yf1, yf2, yf3, yf4, yf5, yf6, yf7⟩⟩ := boxF8 hqb
      have HTA := Lib.hid hta
      have HTB := Lib.hid htb
      clear hqa hqb hta htb
      go_wp2_with fail
      refine (p_eright { e with at_ := ii } _ _ _ _ _ _ _ _ _ _ _ _ _ _ _ HTB.out.1 (HE.out.below HB11.out (Nat.le_refl _)) (by have h1 := HTB.out.1.kind; have h2 := HTB2.out.texts; rw [h1.2.2.2.2.1, h1.2.2.2.2.2, bl_len, bl_len] at h2; omega) (tiny_sho HTB2.out (by omega)) (tiny_shn HTB2.out (by omega))).mono ?_
      rintro en w12 ⟨rfl, hb⟩
      clear c0 c1 c2 c3 c4 c5 c6 c7 d0 d1 d2 d3 d4 d5 d6 d7 m0 m1 m2 m3 m4 m5 m6 m7 n0 n1 n2 n3 n4 n5 n6 n7 r0 r1 r2 r3 r4 r5 r6 r7 s0 s1 s2 s3 s4 s5 s6 s7
      clear x0 x1 x2 x3 x4 x5 x6 x7 xf0 xf1 xf2 xf3 xf4 xf5 xf6 xf7 y0 y1 y2 y3 y4 y5 y6 y7 yf0 yf1 yf2 yf3 yf4 yf5 yf6 yf7 HTA HTB
      have HB12 := Lib.hid (bthen HB11.out hb)
      have HC12 := Lib.hid (HC11.out.next hb)
      have HA12 := Lib.hid (HA11.out.below hb)
      have HD12 := Lib.hid (HD11.out.below hb)
      clear hb
      cases hrb : editRight { e with at_ := ii } with
      | false =>
        have HV2 : Hid (commuteE e e' = .error 130) := by show _ = _; unfold commuteE; simp [HR.out, HR'.out, HM.out, HS1.out, hrb]
        clear hrb
        obtain ⟨⟨c0, c1, c2, c3, c4, c5, c6, c7⟩, ⟨d0, d1, d2, d3, d4, d5, d6, d7⟩, ⟨⟨m0, m1, m2, m3, m4, m5, m6, m7⟩, ⟨n0, n1, n2, n3, n4, n5, n6, n7⟩⟩, ⟨⟨r0, r1, r2, r3, r4, r5, r6, r7⟩, ⟨s0, s1, s2, s3, s4, s5, s6, s7⟩⟩⟩ := com_all HC12.out
        go_wp2_with fail
        go_region
        all_goals
          go_wp2_with fail
          obtain ⟨z1, z2, z3⟩ := com_zeroD HB12.out (Nat.le_refl _) HC12.out
          exact bodyPost_ret (com_res _ _ (w.heap.size + 1 + 1) (w.heap.size + 1 + 1 + 1) rfl rfl rfl z2 z3) rfl (ComPost.no HV2.out z1 rfl)
      | true =>
        have HV2 : Hid (commuteE e e' = .ok ({ e' with at_ := jj }, { e with at_ := ii })) := by show _ = _; unfold commuteE; simp [HR.out, HR'.out, HM.out, HS1.out, HRA.out, hrb]
        clear hrb
        obtain ⟨⟨c0, c1, c2, c3, c4, c5, c6, c7⟩, ⟨d0, d1, d2, d3, d4, d5, d6, d7⟩, ⟨⟨m0, m1, m2, m3, m4, m5, m6, m7⟩, ⟨n0, n1, n2, n3, n4, n5, n6, n7⟩⟩, ⟨⟨r0, r1, r2, r3, r4, r5, r6, r7⟩, ⟨s0, s1, s2, s3, s4, s5, s6, s7⟩⟩⟩ := com_all HC12.out
        obtain ⟨ka, pAa, pna, pca, ia, ja, fa, ta, oAa, ona, oca, nAa, nna, nca, hqa, hta⟩ := HA12.out
        obtain ⟨kb, pAb, pnb, pcb, ib, jb, fb, tb, oAb, onb, ocb, nAb, nnb, ncb, hqb, htb⟩ := HD12.out
        obtain ⟨⟨x0, x1, x2, x3, x4, x5, x6, x7⟩, ⟨xf0, xf1, xf2, xf3, xf4, xf5, xf6, xf7⟩⟩ := boxF8 hqa
        obtain ⟨⟨y0, y1, y2, y3, y4, y5, y6, y7⟩, ⟨yf0, yf1, yf2, yf3, yf4, yf5, yf6, yf7⟩⟩ := boxF8 hqb
        have HTA := Lib.hid hta
        have HTB := Lib.hid htb
        clear hqa hqb hta htb
        go_wp2_with fail
        go_region
        all_goals
          go_wp2_with fail
          obtain ⟨z1, z2, z3, z4, z5⟩ := com_fin HB12.out (Nat.le_refl _) HC12.out HTA.out HTB.out
          exact bodyPost_ret (com_res _ _ (w.heap.size + 1 + 1) (w.heap.size + 1 + 1 + 1) rfl rfl rfl z2 z3) rfl (ComPost.yes HV2.out z1 rfl z4 z5)
end Go.Proofs.YtmikjhohnfcedaaGreatDoor

namespace Go.Proofs.YtmikjhohnfcedaaGreatDoor
set_option linter.unusedSimpArgs false
set_option linter.unusedVariables false
open Go.RowKit
set_option linter.unusedSimpArgs false

theorem swapped_way {e e' : Edt} (hl : (loneB e.kind && loneB e'.kind && e.path == e'.path) = false) : swapped e e' = match pastE (invertE e) e'.path with | none => none | some x => match pastE { e' with path := x } e.path with | none => none | some y => some ({ e' with path := x }, { e with path := y }) := by
  unfold swapped
  rw [if_neg (by rw [hl]; simp)]
  cases pastE (invertE e) e'.path with
  | none => rfl
  | some x => cases pastE { e' with path := x } e.path <;> rfl
end Go.Proofs.YtmikjhohnfcedaaGreatDoor
