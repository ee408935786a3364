/- The walk over mixes.
   mixes at any two sides; the walk over list.
   The walk over beside.
   The walks over package place, the last part: Inserted, Deleted, Moved.
   The walks over package place: Deleted, Moved.
   The walks over the closures of swap.past.
   The walk over past's closure for Replace. -/
import Derived.Test.YtmikjhohnfcedaaGreatDoorBkI
import Derived.Test.YtmikjhohnfcedaaGreatDoorBkB
import Derived.Deep.RegionWith
namespace Go.Proofs.YtmikjhohnfcedaaGreatDoor
set_option linter.unusedSimpArgs false
set_option linter.unusedVariables false
open Go.RowKit
set_option linter.unusedSimpArgs false

/-- What is known of a side that is handed over. -/
def SideArg (w : World) (e : Edt) (k : Nat) (pA : Option Addr) (pn pc : Nat) (i j : Int) (f t : ByteArray) (oA : Option Addr) (on oc : Nat) (nA : Option Addr) (nn nc : Nat) (mA : Option Addr) (mn mc : Nat) (bA : Option Addr) (bn bc : Nat) : Prop :=
  EditIs w e k pA pn pc i j f t oA on oc nA nn nc ∧ StrsAt w e.binds bA bn bc ∧ ∃ ns : List Bytes, (∀ s, s ∈ ns ↔ s ∈ e.names) ∧ StrsAt w ns mA mn mc
theorem SideArg.below {w w' : World} (hb : Below w.heap.size w w') {e : Edt} {k : Nat} {pA : Option Addr} {pn pc : Nat} {i j : Int} {f t : ByteArray} {oA : Option Addr} {on oc : Nat} {nA : Option Addr} {nn nc : Nat} {mA : Option Addr} {mn mc : Nat} {bA : Option Addr} {bn bc : Nat} (h : SideArg w e k pA pn pc i j f t oA on oc nA nn nc mA mn mc bA bn bc) : SideArg w' e k pA pn pc i j f t oA on oc nA nn nc mA mn mc bA bn bc := by
  obtain ⟨h1, h2, ns, h3, h4⟩ := h
  exact ⟨h1.below hb, h2.below hb, ns, h3, h4.below hb⟩
theorem one_str {w : World} {g : Nat} {t : ByteArray} {T : TypeId} (h : w.heap[g]? = some (.cells #[.string t] T (0, 0))) : StrsAt w [bl t] (some ⟨g, 0, none⟩) 1 1 :=
  ⟨rfl, Nat.le_refl _, by unfold maxLen; omega, .inr ⟨g, 0, rfl, fun j s hs => by
    have hc := cell_of_row w g j _ T (0, 0) h
    rw [Nat.zero_add, hc]
    match j, hs with
    | 0, hs => simp at hs; subst hs; rfl
    | j + 1, hs => simp at hs⟩⟩
/-- The two boxes behind later worlds. -/
theorem boxes2 {w w' : World} {x0 x1 x2 x3 x4 x5 x6 x7 x8 x9 x10 x11 y0 y1 y2 y3 y4 y5 y6 y7 y8 y9 y10 y11 : Value} {T U : TypeId} {w1 : World} (e : w1 = (w.alloc (.cells #[x0, x1, x2, x3, x4, x5, x6, x7, x8, x9, x10, x11] T)).alloc (.cells #[y0, y1, y2, y3, y4, y5, y6, y7, y8, y9, y10, y11] U)) (hb : Below w1.heap.size w1 w') :
    Box12 w' w.heap.size x0 x1 x2 x3 x4 x5 x6 x7 x8 x9 x10 x11 ∧ Box12 w' (w.heap.size + 1) y0 y1 y2 y3 y4 y5 y6 y7 y8 y9 y10 y11 ∧ Below w.heap.size w w' := by
  subst e
  refine ⟨(box12 ((hb.block _ (by simp; omega)).trans ((heap_alloc_old _ _ (by simp)).trans (heap_alloc_new _ _)))).1, (box12 ((hb.block _ (by simp)).trans (heap_alloc_at (by simp)))).1, ?_⟩
  exact (((Below.refl _ w).alloc (Nat.le_refl _) _).alloc (by simp) _).trans (hb.mono (by simp; omega))
set_option maxRecDepth 20000 in
set_option maxHeartbeats 4000000 in
theorem p_mixes_11 (ps : List Int) (os ns : List Tree) (pA : Option Addr) (pn pc : Nat) (i j : Int) (f t : ByteArray) (oA : Option Addr) (on oc : Nat) (nA : Option Addr) (nn nc : Nat) (mA : Option Addr) (mn mc : Nat) (bA : Option Addr) (bn bc : Nat) (p1 p2 : Bool)
    (ps' : List Int) (os' ns' : List Tree) (pA' : Option Addr) (pn' pc' : Nat) (i' j' : Int) (f' t' : ByteArray) (oA' : Option Addr) (on' oc' : Nat) (nA' : Option Addr) (nn' nc' : Nat) (mA' : Option Addr) (mn' mc' : Nat) (bA' : Option Addr) (bn' bc' : Nat) (p1' p2' : Bool) (w : World)
    (h1 : IntsAt w ps pA pn pc) (h2 : IntsAt w ps' pA' pn' pc') :
    Calls Tryz.prog 17 #[.agg #[.int .u8 1, .slice pA pn pc, .int .i64 i, .int .i64 j, .string f, .string t, .slice oA on oc, .slice nA nn nc, .slice mA mn mc, .slice bA bn bc, .bool p1, .bool p2],
      .agg #[.int .u8 1, .slice pA' pn' pc', .int .i64 i', .int .i64 j', .string f', .string t', .slice oA' on' oc', .slice nA' nn' nc', .slice mA' mn' mc', .slice bA' bn' bc', .bool p1', .bool p2']] w
      (NamePost (mixesB ⟨1, ps, i, j, bl f, bl t, os, ns⟩ ⟨1, ps', i', j', bl f', bl t', os', ns'⟩) w) := by
  have H1 := Lib.hid h1
  have H2 := Lib.hid h2
  clear h1 h2
  have hb2 : Below w.heap.size w ((w.alloc (.cells #[.int .u8 1, .slice pA pn pc, .int .i64 i, .int .i64 j, .string f, .string t, .slice oA on oc, .slice nA nn nc, .slice mA mn mc, .slice bA bn bc, .bool p1, .bool p2] 45)).alloc (.cells #[.int .u8 1, .slice pA' pn' pc', .int .i64 i', .int .i64 j', .string f', .string t', .slice oA' on' oc', .slice nA' nn' nc', .slice mA' mn' mc', .slice bA' bn' bc', .bool p1', .bool p2'] 45)) := ((Below.refl _ w).alloc (Nat.le_refl _) _).alloc (by simp) _
  have HB2 := Lib.hid hb2
  clear hb2
  cases hE : (ps == ps') with
  | true =>
    have HE := Lib.hid hE
    have HV : Hid (mixesB ⟨1, ps, i, j, bl f, bl t, os, ns⟩ ⟨1, ps', i', j', bl f', bl t', os', ns'⟩ = true) := by show _ = _; unfold mixesB; rw [if_pos ⟨rfl, rfl⟩]; simp only [hE, Bool.true_or]
    clear hE
    go_enter Tryz.func17, Tryz.ntmps17
    go_wp2_with fail
    go_quiet (fail)
    go_wp2_with fail
    refine (p_equal_ints ps ps' _ _ _ _ _ _ _ ((H1.out.below HB2.out).drewN _) ((H2.out.below HB2.out).drewN _)).mono ?_
    rintro en w1 ⟨rfl, q1, hw1⟩
    rw [HE.out]
    have hb1 : Below ((w.alloc (.cells #[.int .u8 1, .slice pA pn pc, .int .i64 i, .int .i64 j, .string f, .string t, .slice oA on oc, .slice nA nn nc, .slice mA mn mc, .slice bA bn bc, .bool p1, .bool p2] 45)).alloc (.cells #[.int .u8 1, .slice pA' pn' pc', .int .i64 i', .int .i64 j', .string f', .string t', .slice oA' on' oc', .slice nA' nn' nc', .slice mA' mn' mc', .slice bA' bn' bc', .bool p1', .bool p2'] 45)).heap.size ((w.alloc (.cells #[.int .u8 1, .slice pA pn pc, .int .i64 i, .int .i64 j, .string f, .string t, .slice oA on oc, .slice nA nn nc, .slice mA mn mc, .slice bA bn bc, .bool p1, .bool p2] 45)).alloc (.cells #[.int .u8 1, .slice pA' pn' pc', .int .i64 i', .int .i64 j', .string f', .string t', .slice oA' on' oc', .slice nA' nn' nc', .slice mA' mn' mc', .slice bA' bn' bc', .bool p1', .bool p2'] 45)) w1 := by rw [hw1]; exact below_drews (below_drews (Below.refl _ _) _) _
    have HB1 := Lib.hid (HB2.out.trans (hb1.mono (by simp; omega)))
    obtain ⟨BX, BY, _⟩ := boxes2 rfl hb1
    obtain ⟨c0, c1, c2, c3, c4, c5, c6, c7, c8, c9, c10, c11⟩ := BX
    obtain ⟨d0, d1, d2, d3, d4, d5, d6, d7, d8, d9, d10, d11⟩ := BY
    have hl1 : w.heap.size + 1 < w1.heap.size := by have := hb1.size; simp at this; omega
    have hz5 := fun o => (World.cell?_alloc_lt w1 o ⟨w.heap.size, 5, none⟩ (by show w.heap.size < _; omega)).trans c5
    clear hb1 hw1
    go_wp2_with fail
    go_ret
    exact NamePost.intro HV.out.symm HB1.out
  | false =>
    have HE := Lib.hid hE
    have HV : Hid (mixesB ⟨1, ps, i, j, bl f, bl t, os, ns⟩ ⟨1, ps', i', j', bl f', bl t', os', ns'⟩ = (amongB [bl f', bl t'] [bl t] || bl t' == bl f)) := by show _ = _; unfold mixesB; rw [if_pos ⟨rfl, rfl⟩]; simp only [hE, Bool.false_or]
    clear hE
    go_enter Tryz.func17, Tryz.ntmps17
    go_wp2_with fail
    go_quiet (fail)
    go_wp2_with fail
    refine (p_equal_ints ps ps' _ _ _ _ _ _ _ ((H1.out.below HB2.out).drewN _) ((H2.out.below HB2.out).drewN _)).mono ?_
    rintro en w1 ⟨rfl, q1, hw1⟩
    rw [HE.out]
    have hb1 : Below ((w.alloc (.cells #[.int .u8 1, .slice pA pn pc, .int .i64 i, .int .i64 j, .string f, .string t, .slice oA on oc, .slice nA nn nc, .slice mA mn mc, .slice bA bn bc, .bool p1, .bool p2] 45)).alloc (.cells #[.int .u8 1, .slice pA' pn' pc', .int .i64 i', .int .i64 j', .string f', .string t', .slice oA' on' oc', .slice nA' nn' nc', .slice mA' mn' mc', .slice bA' bn' bc', .bool p1', .bool p2'] 45)).heap.size ((w.alloc (.cells #[.int .u8 1, .slice pA pn pc, .int .i64 i, .int .i64 j, .string f, .string t, .slice oA on oc, .slice nA nn nc, .slice mA mn mc, .slice bA bn bc, .bool p1, .bool p2] 45)).alloc (.cells #[.int .u8 1, .slice pA' pn' pc', .int .i64 i', .int .i64 j', .string f', .string t', .slice oA' on' oc', .slice nA' nn' nc', .slice mA' mn' mc', .slice bA' bn' bc', .bool p1', .bool p2'] 45)) w1 := by rw [hw1]; exact below_drews (below_drews (Below.refl _ _) _) _
    have HB1 := Lib.hid (HB2.out.trans (hb1.mono (by simp; omega)))
    obtain ⟨BX, BY, _⟩ := boxes2 rfl hb1
    obtain ⟨c0, c1, c2, c3, c4, c5, c6, c7, c8, c9, c10, c11⟩ := BX
    obtain ⟨d0, d1, d2, d3, d4, d5, d6, d7, d8, d9, d10, d11⟩ := BY
    have hl1 : w.heap.size + 1 < w1.heap.size := by have := hb1.size; simp at this; omega
    have hz5 := fun o => (World.cell?_alloc_lt w1 o ⟨w.heap.size, 5, none⟩ (by show w.heap.size < _; omega)).trans c5
    clear hb1 hw1
    go_wp2_with fail
    have hba : Below w1.heap.size w1 ((w1.alloc (.cells #[.string f', .string t'] 9)).alloc (.cells #[.string t] 9)) := ((Below.refl _ _).alloc (Nat.le_refl _) _).alloc (by simp) _
    refine (p_among_strs [bl f', bl t'] [bl t] _ _ _ _ _ _ _ (two_strs ((heap_alloc_old _ _ (by simp)).trans (heap_alloc_new _ _))) (one_str (heap_alloc_at (by simp)))).mono ?_
    rintro en w3 ⟨rfl, hb3⟩
    have HBA := Lib.hid (bthen hba hb3)
    have HB3 := Lib.hid (bthen HB1.out HBA.out)
    cases ha : amongB [bl f', bl t'] [bl t] with
    | true =>
      have HV2 : Hid (mixesB ⟨1, ps, i, j, bl f, bl t, os, ns⟩ ⟨1, ps', i', j', bl f', bl t', os', ns'⟩ = true) := by show _ = _; rw [HV.out, ha, Bool.true_or]
      clear hba hb3 ha
      go_wp2_with fail
      go_ret
      exact NamePost.intro HV2.out.symm HB3.out
    | false =>
      have HV2 : Hid (mixesB ⟨1, ps, i, j, bl f, bl t, os, ns⟩ ⟨1, ps', i', j', bl f', bl t', os', ns'⟩ = (bl t' == bl f)) := by show _ = _; rw [HV.out, ha, Bool.false_or]
      have e4 := cell_below HBA.out c4
      have e5 := cell_below HBA.out d5
      clear hba hb3 ha
      go_wp2_with fail
      go_ret
      exact ⟨ret_bool (by rw [HV2.out]; simp [toList_bl]), HB3.out⟩
set_option maxRecDepth 20000 in
set_option maxHeartbeats 4000000 in
theorem p_mixes_n (e : Edt) (k : Nat) (pA : Option Addr) (pn pc : Nat) (i j : Int) (f t : ByteArray) (oA : Option Addr) (on oc : Nat) (nA : Option Addr) (nn nc : Nat) (mA : Option Addr) (mn mc : Nat) (bA : Option Addr) (bn bc : Nat)
    (e' : Edt) (k' : Nat) (pA' : Option Addr) (pn' pc' : Nat) (i' j' : Int) (f' t' : ByteArray) (oA' : Option Addr) (on' oc' : Nat) (nA' : Option Addr) (nn' nc' : Nat) (mA' : Option Addr) (mn' mc' : Nat) (bA' : Option Addr) (bn' bc' : Nat) (w : World)
    (h1 : SideArg w e k pA pn pc i j f t oA on oc nA nn nc mA mn mc bA bn bc) (h2 : SideArg w e' k' pA' pn' pc' i' j' f' t' oA' on' oc' nA' nn' nc' mA' mn' mc' bA' bn' bc') (hk : ¬ (k = 1 ∧ k' = 1)) :
    Calls Tryz.prog 17 #[.agg #[.int .u8 k, .slice pA pn pc, .int .i64 i, .int .i64 j, .string f, .string t, .slice oA on oc, .slice nA nn nc, .slice mA mn mc, .slice bA bn bc, .bool e.params, .bool e.calls],
      .agg #[.int .u8 k', .slice pA' pn' pc', .int .i64 i', .int .i64 j', .string f', .string t', .slice oA' on' oc', .slice nA' nn' nc', .slice mA' mn' mc', .slice bA' bn' bc', .bool e'.params, .bool e'.calls]] w
      (NamePost (mixesB e e') w) := by
  have hb2 : Below w.heap.size w ((w.alloc (.cells #[.int .u8 k, .slice pA pn pc, .int .i64 i, .int .i64 j, .string f, .string t, .slice oA on oc, .slice nA nn nc, .slice mA mn mc, .slice bA bn bc, .bool e.params, .bool e.calls] 45)).alloc (.cells #[.int .u8 k', .slice pA' pn' pc', .int .i64 i', .int .i64 j', .string f', .string t', .slice oA' on' oc', .slice nA' nn' nc', .slice mA' mn' mc', .slice bA' bn' bc', .bool e'.params, .bool e'.calls] 45)) := ((Below.refl _ w).alloc (Nat.le_refl _) _).alloc (by simp) _
  have HB2 := Lib.hid hb2
  obtain ⟨g1, g2, ns, g3, g4⟩ := h1.below hb2
  obtain ⟨g1', g2', ns', g3', g4'⟩ := h2.below hb2
  have ek : e.kind = k := by obtain ⟨ps, os, ns, rfl, _⟩ := g1; rfl
  have ek' : e'.kind = k' := by obtain ⟨ps, os, ns, rfl, _⟩ := g1'; rfl
  have HV : Hid (mixesB e e' = (amongB ns' e.binds || amongB ns e'.binds || (!(k == 1) && !(k' == 1) && (e.params && e'.calls || e'.params && e.calls)))) := by
    show _ = _
    unfold mixesB
    rw [if_neg (by rw [ek, ek']; exact hk), among_same g3, among_same g3', ek, ek']
    cases amongB e'.names e.binds <;> cases amongB e.names e'.binds <;> simp [bne]
  have HN := Lib.hid g4
  have HN' := Lib.hid g4'
  have HBD := Lib.hid g2
  have HBD' := Lib.hid g2'
  clear hb2 g1 g2 g3 g4 g1' g2' g3' g4' ek ek' h1 h2
  generalize e.params = pp at HV HB2 HN HN' HBD HBD' ⊢
  generalize e.calls = pq at HV HB2 HN HN' HBD HBD' ⊢
  generalize e'.params = qp at HV HB2 HN HN' HBD HBD' ⊢
  generalize e'.calls = qq at HV HB2 HN HN' HBD HBD' ⊢
  obtain ⟨b1, b2, q1, q2, q3, q4⟩ : ∃ b1 b2 : Bool, ((k : Int) == 1) = b1 ∧ ((k' : Int) == 1) = b2 ∧ (k == 1) = b1 ∧ (k' == 1) = b2 :=
    ⟨_, _, rfl, rfl, by rw [Bool.eq_iff_iff]; simp; omega, by rw [Bool.eq_iff_iff]; simp; omega⟩
  have hbb : (b1 && b2) = false := by
    rw [← q3, ← q4, ← Bool.not_eq_true, Bool.and_eq_true, beq_iff_eq, beq_iff_eq]; exact hk
  rw [q3, q4] at HV
  clear q3 q4 hk
  obtain ⟨rfl, rfl⟩ | ⟨rfl, rfl⟩ | ⟨rfl, rfl⟩ : (b1 = true ∧ b2 = false) ∨ (b1 = false ∧ b2 = true) ∨ (b1 = false ∧ b2 = false) := by cases b1 <;> cases b2 <;> simp at hbb ⊢
  all_goals
    clear hbb
    go_enter Tryz.func17, Tryz.ntmps17
    go_wp2_with fail
    go_quiet (fail)
    go_wp2_with fail
    refine (p_among_strs ns' e.binds _ _ _ _ _ _ _ (HN'.out.drewN _) (HBD.out.drewN _)).mono ?_
    rintro en w1 ⟨rfl, hb1'⟩
    have hb1 : Below ((w.alloc (.cells #[.int .u8 k, .slice pA pn pc, .int .i64 i, .int .i64 j, .string f, .string t, .slice oA on oc, .slice nA nn nc, .slice mA mn mc, .slice bA bn bc, .bool pp, .bool pq] 45)).alloc (.cells #[.int .u8 k', .slice pA' pn' pc', .int .i64 i', .int .i64 j', .string f', .string t', .slice oA' on' oc', .slice nA' nn' nc', .slice mA' mn' mc', .slice bA' bn' bc', .bool qp, .bool qq] 45)).heap.size ((w.alloc (.cells #[.int .u8 k, .slice pA pn pc, .int .i64 i, .int .i64 j, .string f, .string t, .slice oA on oc, .slice nA nn nc, .slice mA mn mc, .slice bA bn bc, .bool pp, .bool pq] 45)).alloc (.cells #[.int .u8 k', .slice pA' pn' pc', .int .i64 i', .int .i64 j', .string f', .string t', .slice oA' on' oc', .slice nA' nn' nc', .slice mA' mn' mc', .slice bA' bn' bc', .bool qp, .bool qq] 45)) w1 := bthen (below_drews (Below.refl _ _) _) hb1'
    have HB1 := Lib.hid (HB2.out.trans (hb1.mono (by simp; omega)))
    have HNN := Lib.hid (HN.out.below hb1)
    have HBB := Lib.hid (HBD'.out.below hb1)
    obtain ⟨BX, BY, _⟩ := boxes2 rfl hb1
    obtain ⟨c0, c1, c2, c3, c4, c5, c6, c7, c8, c9, c10, c11⟩ := BX
    obtain ⟨d0, d1, d2, d3, d4, d5, d6, d7, d8, d9, d10, d11⟩ := BY
    clear hb1 hb1'
    cases ha : amongB ns' e.binds with
    | true =>
      have HV2 : Hid (mixesB e e' = true) := by show _ = _; rw [HV.out, ha, Bool.true_or, Bool.true_or]
      clear ha
      go_wp2_with fail
      go_ret
      exact NamePost.intro HV2.out.symm HB1.out
    | false =>
      have HV2 := HV
      rw [ha, Bool.false_or] at HV2
      clear ha
      go_wp2_with fail
      refine (p_among_strs ns e'.binds _ _ _ _ _ _ _ HNN.out HBB.out).mono ?_
      rintro en w2 ⟨rfl, hb2⟩
      have HB3 := Lib.hid (bthen HB1.out hb2)
      replace c10 := cell_below hb2 c10
      replace c11 := cell_below hb2 c11
      replace d10 := cell_below hb2 d10
      replace d11 := cell_below hb2 d11
      clear hb2
      cases ha : amongB ns e'.binds with
      | true =>
        have HV3 : Hid (mixesB e e' = true) := by show _ = _; rw [HV2.out, ha, Bool.true_or]
        clear ha
        go_wp2_with fail
        go_ret
        exact NamePost.intro HV3.out.symm HB3.out
      | false =>
        have HV3 := HV2
        rw [ha, Bool.false_or] at HV3
        clear ha
        cases pp <;> cases pq <;> cases qp <;> cases qq
        all_goals
          go_wp2_with fail
          go_ret
          exact ⟨ret_bool (by rw [HV3.out]; rfl), HB3.out⟩
end Go.Proofs.YtmikjhohnfcedaaGreatDoor

namespace Go.Proofs.YtmikjhohnfcedaaGreatDoor
set_option linter.unusedSimpArgs false
set_option linter.unusedVariables false
open Go.RowKit
set_option linter.unusedSimpArgs false

theorem p_mixes (e : Edt) (k : Nat) (pA : Option Addr) (pn pc : Nat) (i j : Int) (f t : ByteArray) (oA : Option Addr) (on oc : Nat) (nA : Option Addr) (nn nc : Nat) (mA : Option Addr) (mn mc : Nat) (bA : Option Addr) (bn bc : Nat)
    (e' : Edt) (k' : Nat) (pA' : Option Addr) (pn' pc' : Nat) (i' j' : Int) (f' t' : ByteArray) (oA' : Option Addr) (on' oc' : Nat) (nA' : Option Addr) (nn' nc' : Nat) (mA' : Option Addr) (mn' mc' : Nat) (bA' : Option Addr) (bn' bc' : Nat) (w : World)
    (h1 : SideArg w e k pA pn pc i j f t oA on oc nA nn nc mA mn mc bA bn bc) (h2 : SideArg w e' k' pA' pn' pc' i' j' f' t' oA' on' oc' nA' nn' nc' mA' mn' mc' bA' bn' bc') :
    Calls Tryz.prog 17 #[.agg #[.int .u8 k, .slice pA pn pc, .int .i64 i, .int .i64 j, .string f, .string t, .slice oA on oc, .slice nA nn nc, .slice mA mn mc, .slice bA bn bc, .bool e.params, .bool e.calls],
      .agg #[.int .u8 k', .slice pA' pn' pc', .int .i64 i', .int .i64 j', .string f', .string t', .slice oA' on' oc', .slice nA' nn' nc', .slice mA' mn' mc', .slice bA' bn' bc', .bool e'.params, .bool e'.calls]] w
      (NamePost (mixesB e e') w) := by
  by_cases hk : k = 1 ∧ k' = 1
  · obtain ⟨rfl, rfl⟩ := hk
    obtain ⟨⟨ps, os, ns, rfl, hp, _, _⟩, _⟩ := h1
    obtain ⟨⟨ps', os', ns', rfl, hp', _, _⟩, _⟩ := h2
    exact p_mixes_11 ps os ns pA pn pc i j f t oA on oc nA nn nc mA mn mc bA bn bc _ _ ps' os' ns' pA' pn' pc' i' j' f' t' oA' on' oc' nA' nn' nc' mA' mn' mc' bA' bn' bc' _ _ w hp hp'
  · exact p_mixes_n e k pA pn pc i j f t oA on oc nA nn nc mA mn mc bA bn bc e' k' pA' pn' pc' i' j' f' t' oA' on' oc' nA' nn' nc' mA' mn' mc' bA' bn' bc' w h1 h2 hk
set_option maxRecDepth 20000 in
set_option maxHeartbeats 1000000 in
theorem p_list (k : Nat) (x1 x2 x3 x4 x5 x6 x7 x8 x9 x10 x11 : Value) (w : World) :
    Calls Tryz.prog 19 #[.agg #[.int .u8 k, x1, x2, x3, x4, x5, x6, x7, x8, x9, x10, x11]] w (NamePost (loneB k) w) := by
  have hb0 : Below w.heap.size w (w.alloc (.cells #[.int .u8 k, x1, x2, x3, x4, x5, x6, x7, x8, x9, x10, x11] 45)) := (Below.refl _ _).alloc (Nat.le_refl _) _
  have HB0 := Lib.hid hb0
  have c0 := (box12 (heap_alloc_new w (.cells #[.int .u8 k, x1, x2, x3, x4, x5, x6, x7, x8, x9, x10, x11] 45))).1.c0
  clear hb0
  by_cases h2 : k = 2
  · subst h2
    go_enter Tryz.func19, Tryz.ntmps19
    go_wp2_with fail
    go_ret
    exact NamePost.intro rfl HB0.out
  have q2 : ((k : Int) == 2) = false := by simp; omega
  by_cases h3 : k = 3
  · subst h3
    go_enter Tryz.func19, Tryz.ntmps19
    go_wp2_with fail
    go_ret
    exact NamePost.intro rfl HB0.out
  have q3 : ((k : Int) == 3) = false := by simp; omega
  by_cases h5 : k = 5
  · subst h5
    go_enter Tryz.func19, Tryz.ntmps19
    go_wp2_with fail
    go_ret
    exact NamePost.intro rfl HB0.out
  have q5 : ((k : Int) == 5) = false := by simp; omega
  have HV : Hid (loneB k = false) := by show _ = _; simp [loneB, h2, h3, h5]
  clear h2 h3 h5
  go_enter Tryz.func19, Tryz.ntmps19
  go_wp2_with fail
  go_ret
  exact NamePost.intro HV.out.symm HB0.out
end Go.Proofs.YtmikjhohnfcedaaGreatDoor

namespace Go.Proofs.YtmikjhohnfcedaaGreatDoor
set_option linter.unusedSimpArgs false
set_option linter.unusedVariables false
open Go.RowKit
set_option linter.unusedSimpArgs false

def upBy (k : Nat) : Int := if k = 2 then 1 else -1
set_option maxRecDepth 20000 in
set_option maxHeartbeats 1000000 in
theorem p_side_up (k : Nat) (x1 x2 x3 x4 x5 x6 x7 : Value) (w : World) :
    Calls Tryz.prog 46 #[.agg #[.int .u8 k, x1, x2, x3, x4, x5, x6, x7]] w fun e w' => e = .returned (.int .i64 (upBy k)) ∧ Below w.heap.size w w' := by
  have hb0 : Below w.heap.size w (w.alloc (.cells #[.int .u8 k, x1, x2, x3, x4, x5, x6, x7] 26)) := (Below.refl _ _).alloc (Nat.le_refl _) _
  have HB0 := Lib.hid hb0
  have c0 := (boxF8 (heap_alloc_new w (.cells #[.int .u8 k, x1, x2, x3, x4, x5, x6, x7] 26))).cs.1
  clear hb0
  by_cases h2 : k = 2
  · subst h2
    go_enter Tryz.func46, Tryz.ntmps46
    go_wp2_with fail
    go_ret
    exact ⟨rfl, HB0.out⟩
  · have q2 : ((k : Int) == 2) = false := by simp; omega
    have HV : Hid (upBy k = -1) := by show _ = _; simp [upBy, h2]
    clear h2
    go_enter Tryz.func46, Tryz.ntmps46
    go_wp2_with fail
    go_ret
    exact ⟨by rw [HV.out]; rfl, HB0.out⟩
theorem enter_side_up (args : Array Value) (w : World) : (callFunc 46 args).run Tryz.prog w = .ok (.enter 46 args) w := run_enter Tryz.func46 (by kernel_rfl) (by kernel_rfl) args w
def besideV (r : Option (Int × Int)) : Value := match r with | some (j, i) => .tuple #[.int .i64 j, .int .i64 i, .bool true] | none => .tuple #[.int .i64 0, .int .i64 0, .bool false]
def BesidePost (r : Option (Int × Int)) (w : World) (e : Ending) (w' : World) : Prop := e = .returned (besideV r) ∧ Below w.heap.size w w'
set_option maxRecDepth 20000 in
set_option maxHeartbeats 4000000 in
theorem p_beside_5 (e e' : Edt) (k k' : Nat) (x1 x2 x3 x4 x5 x6 x7 y1 y2 y3 y4 y5 y6 y7 : Value) (w : World) (hk : e.kind = k) (hk' : e'.kind = k') (h5 : k = 5 ∨ k' = 5) :
    Calls Tryz.prog 21 #[.agg #[.int .u8 k, x1, x2, x3, x4, x5, x6, x7], .agg #[.int .u8 k', y1, y2, y3, y4, y5, y6, y7]] w (BesidePost (besideB e e') w) := by
  have HV : Hid (besideB e e' = none) := by show _ = _; unfold besideB; rw [if_pos (by rw [hk, hk']; exact h5)]
  have hb2 : Below w.heap.size w ((w.alloc (.cells #[.int .u8 k, x1, x2, x3, x4, x5, x6, x7] 26)).alloc (.cells #[.int .u8 k', y1, y2, y3, y4, y5, y6, y7] 26)) := ((Below.refl _ w).alloc (Nat.le_refl _) _).alloc (by simp) _
  have HB2 := Lib.hid hb2
  clear hb2 hk hk'
  by_cases h : k = 5
  · subst h
    clear h5
    go_enter Tryz.func21, Tryz.ntmps21
    go_wp2_with fail
    go_ret3
    exact ⟨by rw [HV.out]; rfl, HB2.out⟩
  · have q5 : ((k : Int) == 5) = false := by simp; omega
    have h' : k' = 5 := by omega
    subst h'
    clear h5 h
    go_enter Tryz.func21, Tryz.ntmps21
    go_wp2_with fail
    go_ret3
    exact ⟨by rw [HV.out]; rfl, HB2.out⟩
theorem beside_in {e e' : Edt} (h5 : ¬ (e.kind = 5 ∨ e'.kind = 5)) (h1 : (if e'.kind = 3 then e.at_ - 1 else e.at_) ≤ e'.at_) (h2 : e'.at_ ≤ (if e.kind = 2 then e.at_ + 1 else e.at_)) : besideB e e' = none := by
  unfold besideB; rw [if_neg h5]; simp only; rw [if_pos ⟨h1, h2⟩]
theorem beside_below {e e' : Edt} (h5 : ¬ (e.kind = 5 ∨ e'.kind = 5)) (h1 : ¬ (if e'.kind = 3 then e.at_ - 1 else e.at_) ≤ e'.at_) : besideB e e' = some (e'.at_, e.at_ + upBy e'.kind) := by
  unfold besideB; rw [if_neg h5]; simp only; rw [if_neg (fun h => h1 h.1), if_pos (by split at h1 <;> omega)]; rfl
theorem beside_above {e e' : Edt} (h5 : ¬ (e.kind = 5 ∨ e'.kind = 5)) (h1 : (if e'.kind = 3 then e.at_ - 1 else e.at_) ≤ e'.at_) (h2 : ¬ e'.at_ ≤ (if e.kind = 2 then e.at_ + 1 else e.at_)) : besideB e e' = some (e'.at_ - upBy e.kind, e.at_) := by
  unfold besideB; rw [if_neg h5]; simp only; rw [if_neg (fun h => h2 h.2), if_neg (by split at h2 <;> omega)]; rfl
theorem upBy_range (k : Nat) : -1 ≤ upBy k ∧ upBy k ≤ 1 := by unfold upBy; split <;> omega
set_option maxRecDepth 20000 in
set_option maxHeartbeats 4000000 in
theorem p_beside_tt (e e' : Edt) (k k' : Nat) (i i' : Int) (x1 x3 x4 x5 x6 x7 y1 y3 y4 y5 y6 y7 : Value) (w : World) (hk : e.kind = k) (hk' : e'.kind = k') (hi : e.at_ = i) (hi' : e'.at_ = i') (h5 : ¬ (k = 5 ∨ k' = 5)) (n1 : numberB i = true) (n2 : numberB i' = true) (g3 : k' = 3) (g2 : k = 2) :
    Calls Tryz.prog 21 #[.agg #[.int .u8 k, x1, .int .i64 i, x3, x4, x5, x6, x7], .agg #[.int .u8 k', y1, .int .i64 i', y3, y4, y5, y6, y7]] w (BesidePost (besideB e e') w) := by
  have hb2 : Below w.heap.size w ((w.alloc (.cells #[.int .u8 k, x1, .int .i64 i, x3, x4, x5, x6, x7] 26)).alloc (.cells #[.int .u8 k', y1, .int .i64 i', y3, y4, y5, y6, y7] 26)) := ((Below.refl _ w).alloc (Nat.le_refl _) _).alloc (by simp) _
  have HB2 := Lib.hid hb2
  obtain ⟨m1, m2⟩ : 0 ≤ i ∧ i ≤ 1073741824 := by simpa [numberB] using n1
  obtain ⟨m3, m4⟩ : 0 ≤ i' ∧ i' ≤ 1073741824 := by simpa [numberB] using n2
  have q5 : ((k : Int) == 5) = false := by simp; omega
  have q5' : ((k' : Int) == 5) = false := by simp; omega
  have q3 : ((k' : Int) == 3) = true := by simp; omega
  have q2 : ((k : Int) == 2) = true := by simp; omega
  have hcf := enter_side_up
  have HK : Hid (e.kind = k ∧ e'.kind = k' ∧ e.at_ = i ∧ e'.at_ = i' ∧ ¬ (e.kind = 5 ∨ e'.kind = 5)) := ⟨hk, hk', hi, hi', by rw [hk, hk']; exact h5⟩
  have EL : Hid ((if e'.kind = 3 then e.at_ - 1 else e.at_) = i - 1) := by show _ = _; rw [hk', hi]; exact if_pos g3
  have EH : Hid ((if e.kind = 2 then e.at_ + 1 else e.at_) = i + 1) := by show _ = _; rw [hk, hi]; exact if_pos g2
  obtain ⟨u1, u2⟩ := upBy_range k
  obtain ⟨u3, u4⟩ := upBy_range k'
  clear n1 n2 hb2 hk hk' hi hi' h5 g2 g3
  by_cases hA : i - 1 ≤ i'
  · by_cases hB : i' ≤ i + 1
    · have HV : Hid (besideB e e' = none) := beside_in HK.out.2.2.2.2 (by rw [EL.out, HK.out.2.2.2.1]; exact hA) (by rw [EH.out, HK.out.2.2.2.1]; exact hB)
      clear u1 u2 u3 u4
      go_enter Tryz.func21, Tryz.ntmps21
      go_wp2_with fail
      go_quiet (fail)
      go_wp2_with fail
      go_ret3
      exact ⟨by rw [HV.out]; rfl, below_drews HB2.out _⟩
    · have HV : Hid (besideB e e' = some (i' - upBy k, i)) := by
        have h := beside_above HK.out.2.2.2.2 (by rw [EL.out, HK.out.2.2.2.1]; exact hA) (by rw [EH.out, HK.out.2.2.2.1]; exact hB)
        rw [HK.out.1, HK.out.2.2.1, HK.out.2.2.2.1] at h
        exact h
      have hC : ¬ i' < i := by omega
      clear u3 u4
      go_enter Tryz.func21, Tryz.ntmps21
      go_wp2_with fail
      go_quiet (fail)
      go_wp2_with fail
      refine (p_side_up k _ _ _ _ _ _ _ _).mono ?_
      rintro en w1 ⟨rfl, hb1⟩
      have HB1 := Lib.hid (bthen (below_drews HB2.out _) hb1)
      clear hb1
      generalize upBy k = u at u1 u2 HV ⊢
      go_wp2_with fail
      go_ret3
      exact ⟨by rw [HV.out]; rfl, HB1.out⟩
  · have HV : Hid (besideB e e' = some (i', i + upBy k')) := by
      have h := beside_below HK.out.2.2.2.2 (by rw [EL.out, HK.out.2.2.2.1]; exact hA)
      rw [HK.out.2.1, HK.out.2.2.1, HK.out.2.2.2.1] at h
      exact h
    have hC : i' < i := by omega
    clear u1 u2
    go_enter Tryz.func21, Tryz.ntmps21
    go_wp2_with fail
    go_quiet (fail)
    go_wp2_with fail
    refine (p_side_up k' _ _ _ _ _ _ _ _).mono ?_
    rintro en w1 ⟨rfl, hb1⟩
    have HB1 := Lib.hid (bthen (below_drews HB2.out _) hb1)
    clear hb1
    generalize upBy k' = u at u3 u4 HV ⊢
    go_wp2_with fail
    go_ret3
    exact ⟨by rw [HV.out]; rfl, HB1.out⟩
set_option maxRecDepth 20000 in
set_option maxHeartbeats 4000000 in
theorem p_beside_tf (e e' : Edt) (k k' : Nat) (i i' : Int) (x1 x3 x4 x5 x6 x7 y1 y3 y4 y5 y6 y7 : Value) (w : World) (hk : e.kind = k) (hk' : e'.kind = k') (hi : e.at_ = i) (hi' : e'.at_ = i') (h5 : ¬ (k = 5 ∨ k' = 5)) (n1 : numberB i = true) (n2 : numberB i' = true) (g3 : k' = 3) (g2 : k ≠ 2) :
    Calls Tryz.prog 21 #[.agg #[.int .u8 k, x1, .int .i64 i, x3, x4, x5, x6, x7], .agg #[.int .u8 k', y1, .int .i64 i', y3, y4, y5, y6, y7]] w (BesidePost (besideB e e') w) := by
  have hb2 : Below w.heap.size w ((w.alloc (.cells #[.int .u8 k, x1, .int .i64 i, x3, x4, x5, x6, x7] 26)).alloc (.cells #[.int .u8 k', y1, .int .i64 i', y3, y4, y5, y6, y7] 26)) := ((Below.refl _ w).alloc (Nat.le_refl _) _).alloc (by simp) _
  have HB2 := Lib.hid hb2
  obtain ⟨m1, m2⟩ : 0 ≤ i ∧ i ≤ 1073741824 := by simpa [numberB] using n1
  obtain ⟨m3, m4⟩ : 0 ≤ i' ∧ i' ≤ 1073741824 := by simpa [numberB] using n2
  have q5 : ((k : Int) == 5) = false := by simp; omega
  have q5' : ((k' : Int) == 5) = false := by simp; omega
  have q3 : ((k' : Int) == 3) = true := by simp; omega
  have q2 : ((k : Int) == 2) = false := by simp; omega
  have hcf := enter_side_up
  have HK : Hid (e.kind = k ∧ e'.kind = k' ∧ e.at_ = i ∧ e'.at_ = i' ∧ ¬ (e.kind = 5 ∨ e'.kind = 5)) := ⟨hk, hk', hi, hi', by rw [hk, hk']; exact h5⟩
  have EL : Hid ((if e'.kind = 3 then e.at_ - 1 else e.at_) = i - 1) := by show _ = _; rw [hk', hi]; exact if_pos g3
  have EH : Hid ((if e.kind = 2 then e.at_ + 1 else e.at_) = i) := by show _ = _; rw [hk, hi]; exact if_neg g2
  obtain ⟨u1, u2⟩ := upBy_range k
  obtain ⟨u3, u4⟩ := upBy_range k'
  clear n1 n2 hb2 hk hk' hi hi' h5 g2 g3
  by_cases hA : i - 1 ≤ i'
  · by_cases hB : i' ≤ i
    · have HV : Hid (besideB e e' = none) := beside_in HK.out.2.2.2.2 (by rw [EL.out, HK.out.2.2.2.1]; exact hA) (by rw [EH.out, HK.out.2.2.2.1]; exact hB)
      clear u1 u2 u3 u4
      go_enter Tryz.func21, Tryz.ntmps21
      go_wp2_with fail
      go_quiet (fail)
      go_wp2_with fail
      go_ret3
      exact ⟨by rw [HV.out]; rfl, below_drews HB2.out _⟩
    · have HV : Hid (besideB e e' = some (i' - upBy k, i)) := by
        have h := beside_above HK.out.2.2.2.2 (by rw [EL.out, HK.out.2.2.2.1]; exact hA) (by rw [EH.out, HK.out.2.2.2.1]; exact hB)
        rw [HK.out.1, HK.out.2.2.1, HK.out.2.2.2.1] at h
        exact h
      have hC : ¬ i' < i := by omega
      clear u3 u4
      go_enter Tryz.func21, Tryz.ntmps21
      go_wp2_with fail
      go_quiet (fail)
      go_wp2_with fail
      refine (p_side_up k _ _ _ _ _ _ _ _).mono ?_
      rintro en w1 ⟨rfl, hb1⟩
      have HB1 := Lib.hid (bthen (below_drews HB2.out _) hb1)
      clear hb1
      generalize upBy k = u at u1 u2 HV ⊢
      go_wp2_with fail
      go_ret3
      exact ⟨by rw [HV.out]; rfl, HB1.out⟩
  · have HV : Hid (besideB e e' = some (i', i + upBy k')) := by
      have h := beside_below HK.out.2.2.2.2 (by rw [EL.out, HK.out.2.2.2.1]; exact hA)
      rw [HK.out.2.1, HK.out.2.2.1, HK.out.2.2.2.1] at h
      exact h
    have hC : i' < i := by omega
    clear u1 u2
    go_enter Tryz.func21, Tryz.ntmps21
    go_wp2_with fail
    go_quiet (fail)
    go_wp2_with fail
    refine (p_side_up k' _ _ _ _ _ _ _ _).mono ?_
    rintro en w1 ⟨rfl, hb1⟩
    have HB1 := Lib.hid (bthen (below_drews HB2.out _) hb1)
    clear hb1
    generalize upBy k' = u at u3 u4 HV ⊢
    go_wp2_with fail
    go_ret3
    exact ⟨by rw [HV.out]; rfl, HB1.out⟩
set_option maxRecDepth 20000 in
set_option maxHeartbeats 4000000 in
theorem p_beside_ft (e e' : Edt) (k k' : Nat) (i i' : Int) (x1 x3 x4 x5 x6 x7 y1 y3 y4 y5 y6 y7 : Value) (w : World) (hk : e.kind = k) (hk' : e'.kind = k') (hi : e.at_ = i) (hi' : e'.at_ = i') (h5 : ¬ (k = 5 ∨ k' = 5)) (n1 : numberB i = true) (n2 : numberB i' = true) (g3 : k' ≠ 3) (g2 : k = 2) :
    Calls Tryz.prog 21 #[.agg #[.int .u8 k, x1, .int .i64 i, x3, x4, x5, x6, x7], .agg #[.int .u8 k', y1, .int .i64 i', y3, y4, y5, y6, y7]] w (BesidePost (besideB e e') w) := by
  have hb2 : Below w.heap.size w ((w.alloc (.cells #[.int .u8 k, x1, .int .i64 i, x3, x4, x5, x6, x7] 26)).alloc (.cells #[.int .u8 k', y1, .int .i64 i', y3, y4, y5, y6, y7] 26)) := ((Below.refl _ w).alloc (Nat.le_refl _) _).alloc (by simp) _
  have HB2 := Lib.hid hb2
  obtain ⟨m1, m2⟩ : 0 ≤ i ∧ i ≤ 1073741824 := by simpa [numberB] using n1
  obtain ⟨m3, m4⟩ : 0 ≤ i' ∧ i' ≤ 1073741824 := by simpa [numberB] using n2
  have q5 : ((k : Int) == 5) = false := by simp; omega
  have q5' : ((k' : Int) == 5) = false := by simp; omega
  have q3 : ((k' : Int) == 3) = false := by simp; omega
  have q2 : ((k : Int) == 2) = true := by simp; omega
  have hcf := enter_side_up
  have HK : Hid (e.kind = k ∧ e'.kind = k' ∧ e.at_ = i ∧ e'.at_ = i' ∧ ¬ (e.kind = 5 ∨ e'.kind = 5)) := ⟨hk, hk', hi, hi', by rw [hk, hk']; exact h5⟩
  have EL : Hid ((if e'.kind = 3 then e.at_ - 1 else e.at_) = i) := by show _ = _; rw [hk', hi]; exact if_neg g3
  have EH : Hid ((if e.kind = 2 then e.at_ + 1 else e.at_) = i + 1) := by show _ = _; rw [hk, hi]; exact if_pos g2
  obtain ⟨u1, u2⟩ := upBy_range k
  obtain ⟨u3, u4⟩ := upBy_range k'
  clear n1 n2 hb2 hk hk' hi hi' h5 g2 g3
  by_cases hA : i ≤ i'
  · by_cases hB : i' ≤ i + 1
    · have HV : Hid (besideB e e' = none) := beside_in HK.out.2.2.2.2 (by rw [EL.out, HK.out.2.2.2.1]; exact hA) (by rw [EH.out, HK.out.2.2.2.1]; exact hB)
      clear u1 u2 u3 u4
      go_enter Tryz.func21, Tryz.ntmps21
      go_wp2_with fail
      go_quiet (fail)
      go_wp2_with fail
      go_ret3
      exact ⟨by rw [HV.out]; rfl, below_drews HB2.out _⟩
    · have HV : Hid (besideB e e' = some (i' - upBy k, i)) := by
        have h := beside_above HK.out.2.2.2.2 (by rw [EL.out, HK.out.2.2.2.1]; exact hA) (by rw [EH.out, HK.out.2.2.2.1]; exact hB)
        rw [HK.out.1, HK.out.2.2.1, HK.out.2.2.2.1] at h
        exact h
      have hC : ¬ i' < i := by omega
      clear u3 u4
      go_enter Tryz.func21, Tryz.ntmps21
      go_wp2_with fail
      go_quiet (fail)
      go_wp2_with fail
      refine (p_side_up k _ _ _ _ _ _ _ _).mono ?_
      rintro en w1 ⟨rfl, hb1⟩
      have HB1 := Lib.hid (bthen (below_drews HB2.out _) hb1)
      clear hb1
      generalize upBy k = u at u1 u2 HV ⊢
      go_wp2_with fail
      go_ret3
      exact ⟨by rw [HV.out]; rfl, HB1.out⟩
  · have HV : Hid (besideB e e' = some (i', i + upBy k')) := by
      have h := beside_below HK.out.2.2.2.2 (by rw [EL.out, HK.out.2.2.2.1]; exact hA)
      rw [HK.out.2.1, HK.out.2.2.1, HK.out.2.2.2.1] at h
      exact h
    have hC : i' < i := by omega
    clear u1 u2
    go_enter Tryz.func21, Tryz.ntmps21
    go_wp2_with fail
    go_quiet (fail)
    go_wp2_with fail
    refine (p_side_up k' _ _ _ _ _ _ _ _).mono ?_
    rintro en w1 ⟨rfl, hb1⟩
    have HB1 := Lib.hid (bthen (below_drews HB2.out _) hb1)
    clear hb1
    generalize upBy k' = u at u3 u4 HV ⊢
    go_wp2_with fail
    go_ret3
    exact ⟨by rw [HV.out]; rfl, HB1.out⟩
set_option maxRecDepth 20000 in
set_option maxHeartbeats 4000000 in
theorem p_beside_ff (e e' : Edt) (k k' : Nat) (i i' : Int) (x1 x3 x4 x5 x6 x7 y1 y3 y4 y5 y6 y7 : Value) (w : World) (hk : e.kind = k) (hk' : e'.kind = k') (hi : e.at_ = i) (hi' : e'.at_ = i') (h5 : ¬ (k = 5 ∨ k' = 5)) (n1 : numberB i = true) (n2 : numberB i' = true) (g3 : k' ≠ 3) (g2 : k ≠ 2) :
    Calls Tryz.prog 21 #[.agg #[.int .u8 k, x1, .int .i64 i, x3, x4, x5, x6, x7], .agg #[.int .u8 k', y1, .int .i64 i', y3, y4, y5, y6, y7]] w (BesidePost (besideB e e') w) := by
  have hb2 : Below w.heap.size w ((w.alloc (.cells #[.int .u8 k, x1, .int .i64 i, x3, x4, x5, x6, x7] 26)).alloc (.cells #[.int .u8 k', y1, .int .i64 i', y3, y4, y5, y6, y7] 26)) := ((Below.refl _ w).alloc (Nat.le_refl _) _).alloc (by simp) _
  have HB2 := Lib.hid hb2
  obtain ⟨m1, m2⟩ : 0 ≤ i ∧ i ≤ 1073741824 := by simpa [numberB] using n1
  obtain ⟨m3, m4⟩ : 0 ≤ i' ∧ i' ≤ 1073741824 := by simpa [numberB] using n2
  have q5 : ((k : Int) == 5) = false := by simp; omega
  have q5' : ((k' : Int) == 5) = false := by simp; omega
  have q3 : ((k' : Int) == 3) = false := by simp; omega
  have q2 : ((k : Int) == 2) = false := by simp; omega
  have hcf := enter_side_up
  have HK : Hid (e.kind = k ∧ e'.kind = k' ∧ e.at_ = i ∧ e'.at_ = i' ∧ ¬ (e.kind = 5 ∨ e'.kind = 5)) := ⟨hk, hk', hi, hi', by rw [hk, hk']; exact h5⟩
  have EL : Hid ((if e'.kind = 3 then e.at_ - 1 else e.at_) = i) := by show _ = _; rw [hk', hi]; exact if_neg g3
  have EH : Hid ((if e.kind = 2 then e.at_ + 1 else e.at_) = i) := by show _ = _; rw [hk, hi]; exact if_neg g2
  obtain ⟨u1, u2⟩ := upBy_range k
  obtain ⟨u3, u4⟩ := upBy_range k'
  clear n1 n2 hb2 hk hk' hi hi' h5 g2 g3
  by_cases hA : i ≤ i'
  · by_cases hB : i' ≤ i
    · have HV : Hid (besideB e e' = none) := beside_in HK.out.2.2.2.2 (by rw [EL.out, HK.out.2.2.2.1]; exact hA) (by rw [EH.out, HK.out.2.2.2.1]; exact hB)
      clear u1 u2 u3 u4
      go_enter Tryz.func21, Tryz.ntmps21
      go_wp2_with fail
      go_quiet (fail)
      go_wp2_with fail
      go_ret3
      exact ⟨by rw [HV.out]; rfl, below_drews HB2.out _⟩
    · have HV : Hid (besideB e e' = some (i' - upBy k, i)) := by
        have h := beside_above HK.out.2.2.2.2 (by rw [EL.out, HK.out.2.2.2.1]; exact hA) (by rw [EH.out, HK.out.2.2.2.1]; exact hB)
        rw [HK.out.1, HK.out.2.2.1, HK.out.2.2.2.1] at h
        exact h
      have hC : ¬ i' < i := by omega
      clear u3 u4
      go_enter Tryz.func21, Tryz.ntmps21
      go_wp2_with fail
      go_quiet (fail)
      go_wp2_with fail
      refine (p_side_up k _ _ _ _ _ _ _ _).mono ?_
      rintro en w1 ⟨rfl, hb1⟩
      have HB1 := Lib.hid (bthen (below_drews HB2.out _) hb1)
      clear hb1
      generalize upBy k = u at u1 u2 HV ⊢
      go_wp2_with fail
      go_ret3
      exact ⟨by rw [HV.out]; rfl, HB1.out⟩
  · have HV : Hid (besideB e e' = some (i', i + upBy k')) := by
      have h := beside_below HK.out.2.2.2.2 (by rw [EL.out, HK.out.2.2.2.1]; exact hA)
      rw [HK.out.2.1, HK.out.2.2.1, HK.out.2.2.2.1] at h
      exact h
    have hC : i' < i := by omega
    clear u1 u2
    go_enter Tryz.func21, Tryz.ntmps21
    go_wp2_with fail
    go_quiet (fail)
    go_wp2_with fail
    refine (p_side_up k' _ _ _ _ _ _ _ _).mono ?_
    rintro en w1 ⟨rfl, hb1⟩
    have HB1 := Lib.hid (bthen (below_drews HB2.out _) hb1)
    clear hb1
    generalize upBy k' = u at u3 u4 HV ⊢
    go_wp2_with fail
    go_ret3
    exact ⟨by rw [HV.out]; rfl, HB1.out⟩
theorem p_beside (e e' : Edt) (k k' : Nat) (i i' : Int) (x1 x3 x4 x5 x6 x7 y1 y3 y4 y5 y6 y7 : Value) (w : World) (hk : e.kind = k) (hk' : e'.kind = k') (hi : e.at_ = i) (hi' : e'.at_ = i') (n1 : numberB i = true) (n2 : numberB i' = true) :
    Calls Tryz.prog 21 #[.agg #[.int .u8 k, x1, .int .i64 i, x3, x4, x5, x6, x7], .agg #[.int .u8 k', y1, .int .i64 i', y3, y4, y5, y6, y7]] w (BesidePost (besideB e e') w) := by
  by_cases h5 : k = 5 ∨ k' = 5
  · exact p_beside_5 e e' k k' _ _ _ _ _ _ _ _ _ _ _ _ _ _ w hk hk' h5
  · by_cases g3 : k' = 3 <;> by_cases g2 : k = 2
    · exact p_beside_tt e e' k k' i i' _ _ _ _ _ _ _ _ _ _ _ _ w hk hk' hi hi' h5 n1 n2 g3 g2
    · exact p_beside_tf e e' k k' i i' _ _ _ _ _ _ _ _ _ _ _ _ w hk hk' hi hi' h5 n1 n2 g3 g2
    · exact p_beside_ft e e' k k' i i' _ _ _ _ _ _ _ _ _ _ _ _ w hk hk' hi hi' h5 n1 n2 g3 g2
    · exact p_beside_ff e e' k k' i i' _ _ _ _ _ _ _ _ _ _ _ _ w hk hk' hi hi' h5 n1 n2 g3 g2
end Go.Proofs.YtmikjhohnfcedaaGreatDoor

namespace Go.Proofs.YtmikjhohnfcedaaGreatDoor
set_option linter.unusedSimpArgs false
set_option linter.unusedVariables false
open Go.RowKit

def movF (i j z : Int) : Int := if z = i then j else upF j (downF i z)
theorem movedL_eq (p l : List Int) (i j : Int) : movedL p l i j = pastL p l (movF i j) := rfl

set_option maxHeartbeats 1000000 in
theorem p_moved1 (z i j : Int) (b1 b2 : Nat) (w : World) (hc1 : w.cell? ⟨b1, 0, none⟩ = some (.int .i64 i)) (hc2 : w.cell? ⟨b2, 0, none⟩ = some (.int .i64 j)) (h1 : 0 ≤ z) (h2 : z ≤ 2147483647) :
    Calls Tryz.prog 77 #[.int .i64 z, .pointer (some ⟨b1, 0, none⟩), .pointer (some ⟨b2, 0, none⟩)] w (IntP (movF i j z) w) := by
  by_cases h : z = i
  · subst h
    have HU : Hid (movF z j z = j) := if_pos rfl
    go_enter Tryz.func77, Tryz.ntmps77
    go_wp2
    go_ret
    exact IntP.intro HU.out (Below.refl _ _)
  · have HU : Hid (movF i j z = upF j (downF i z)) := if_neg h
    have hlt1 := cell_lt hc1
    have hlt2 := cell_lt hc2
    have hd1 : -1 ≤ downF i z := by unfold downF; split <;> omega
    have hd2 : downF i z ≤ 2147483648 := by unfold downF; split <;> omega
    simp only at hlt1 hlt2
    go_enter Tryz.func77, Tryz.ntmps77
    go_wp2
    go_region_with (first | (go_at_call 75; refine (p_up _ _).mono ?_; rintro e w' ⟨rfl, rfl⟩) | (go_at_call 76; refine (p_down _ _).mono ?_; rintro e w' ⟨rfl, rfl⟩) | (go_at_call 101; refine (p_down1 z i _ _ (by go_simp) h1 (by omega)).mono ?_; rintro e w' ⟨rfl, rfl⟩) | (go_at_call 100; refine (p_up1 (downF i z) j _ _ (by go_simp) hd1 hd2).mono ?_; rintro e w' ⟨rfl, rfl⟩))
    all_goals
      go_wp2
      go_ret
      exact IntP.intro HU.out (((Below.refl _ _).alloc (Nat.le_refl _) _).alloc (by simp) _).drew

/-- The numbers of a path are small. -/
def Few (zs : List Int) : Prop := ∀ z ∈ zs, 0 ≤ z ∧ z ≤ 2147483647
theorem Few.at_ {zs : List Int} (h : Few zs) {i : Nat} {z : Int} (hz : zs[i]? = some z) : 0 ≤ z ∧ z ≤ 2147483647 := h z (List.mem_of_getElem? hz)

theorem throughAt_le (p l : List Int) {n m : Nat} (h1 : n = p.length) (h2 : m = l.length) (h3 : n ≤ 17592186044416) (h4 : m ≤ 17592186044416) : throughAt p l ≤ 17592186044416 := by
  unfold throughAt; split <;> omega

set_option maxHeartbeats 400000 in
theorem p_inserted (xs ys : List Int) (i : Int) (A B : Option Addr) (n c m d : Nat) (w : World) (hx : IntsAt w xs A n c) (hy : IntsAt w ys B m d) (hn : n ≤ 17592186044416) (hm : m ≤ 17592186044416) (hf : Few xs) :
    Calls Tryz.prog 49 #[.slice A n c, .slice B m d, .int .i64 i] w (IntsPost (insertedL xs ys i) w) := by
  have HX := Lib.hid hx
  have HY := Lib.hid hy
  have HF := Lib.hid hf
  have HT := Lib.hid (throughAt_le xs ys hx.1 hy.1 hn hm)
  clear hx hy hf
  go_enter Tryz.func49, Tryz.ntmps49
  go_wp2_with fail
  refine (p_through xs ys _ _ _ _ _ _ _ HX.out HY.out).mono ?_
  rintro e w1 ⟨rfl, hb⟩
  have HB := Lib.hid hb
  clear hb
  go_wp2_with fail
  refine (p_up _ _).mono ?_
  rintro e w' ⟨rfl, rfl⟩
  have HB1 : Hid (Below w.heap.size w (w1.alloc (.cells #[.int .i64 i] 3))) := HB.out.alloc HB.out.size _
  go_wp2_with fail
  refine (p_past xs A n c (throughAt xs ys) 100 #[.pointer (some ⟨w1.heap.size, 0, none⟩)] (upF i) _ (HX.out.below HB1.out) hn HT.out enter_up ?_).mono ?_
  · intro z hz w2 hb2
    have hz' := HF.out.at_ hz
    refine (p_up1 z i w1.heap.size w2 ?_ (by omega) (by omega)).mono ?_
    · rw [hb2.cell (by simp)]; simp [World.cell?_alloc_new]
    · rintro e w3 ⟨rfl, rfl⟩; exact ⟨rfl, Below.refl _ _⟩
  · rintro e w3 ⟨A3, c3, rfl, ho, hb3⟩
    have HO := Lib.hid ho
    have HB3 := Lib.hid hb3
    clear ho hb3
    go_wp2
    go_ret
    exact IntsPost.intro (pastL_step xs ys (upF i)) rfl (own_mono HO.out HB1.out.size) (HB1.out.trans (HB3.out.mono HB1.out.size))
end Go.Proofs.YtmikjhohnfcedaaGreatDoor

namespace Go.Proofs.YtmikjhohnfcedaaGreatDoor
set_option linter.unusedSimpArgs false
set_option linter.unusedVariables false
open Go.RowKit

/-- What a call leaves that hands back a row of numbers of its own, or none. -/
def MaybeInts (o : Option (List Int)) (w : World) (e : Ending) (w' : World) : Prop :=
  match o with
  | none => ∃ A n c, e = .returned (.tuple #[.slice A n c, .bool false]) ∧ Below w.heap.size w w'
  | some zs => ∃ A c, e = .returned (.tuple #[.slice A zs.length c, .bool true]) ∧ w'.ownsRow w.heap.size 3 1 (.slice A zs.length c) zs.length (zs.map (Value.int .i64)) ∧ Below w.heap.size w w'
theorem MaybeInts.no {o : Option (List Int)} {w w' : World} {A : Option Addr} {n c : Nat} (h : o = none) (hb : Below w.heap.size w w') : MaybeInts o w (.returned (.tuple #[.slice A n c, .bool false])) w' := by
  subst h; exact ⟨A, n, c, rfl, hb⟩
theorem MaybeInts.yes {o : Option (List Int)} {zs : List Int} {w w' : World} {A : Option Addr} {n c : Nat} (h : o = some zs) (hn : n = zs.length) (ho : w'.ownsRow w.heap.size 3 1 (.slice A n c) n (zs.map (Value.int .i64))) (hb : Below w.heap.size w w') :
    MaybeInts o w (.returned (.tuple #[.slice A n c, .bool true])) w' := by
  subst h hn; exact ⟨A, c, rfl, ho, hb⟩

theorem gone_iff {p l : List Int} {i z : Int} (hl : l.length < p.length) (hz : p[l.length]? = some z) : goneB p l i = (underB p l && z == i) := by
  have hz' : p[l.length] = z := by rw [List.getElem?_eq_getElem hl] at hz; injection hz
  simp [goneB, hl, hz']

set_option maxHeartbeats 1000000 in
theorem p_deleted (xs ys : List Int) (i : Int) (A B : Option Addr) (n c m d : Nat) (w : World) (hx : IntsAt w xs A n c) (hy : IntsAt w ys B m d) (hn : n ≤ 17592186044416) (hm : m ≤ 17592186044416) (hf : Few xs) :
    Calls Tryz.prog 51 #[.slice A n c, .slice B m d, .int .i64 i] w (MaybeInts (deletedL xs ys i) w) := by
  have HX := Lib.hid hx
  have HY := Lib.hid hy
  have HF := Lib.hid hf
  have HT := Lib.hid (throughAt_le xs ys hx.1 hy.1 hn hm)
  have HN : Hid (n = xs.length ∧ m = ys.length) := ⟨hx.1, hy.1⟩
  clear hx hy hf
  -- the tail, the same in each case in which the path is not gone
  have tail : ∀ (w0 : World) (q : Nat), w0 = w.drewN q → goneB xs ys i = false → ∀ w1, Below w0.heap.size w0 w1 → ∀ w2, w2 = w1.alloc (.cells #[.int .i64 i] 3) → 
      Calls Tryz.prog 74 #[.agg #[.slice A n c, .int .i64 (throughAt xs ys : Nat)], .func (.func 101) #[] #[.pointer (some ⟨w1.heap.size, 0, none⟩)]] w2
        fun e w3 => ∃ A3 c3, e = .returned (.slice A3 (stepAt xs (throughAt xs ys) (downF i)).length c3) ∧ MaybeInts (deletedL xs ys i) w (.returned (.tuple #[.slice A3 (stepAt xs (throughAt xs ys) (downF i)).length c3, .bool true])) w3 := by
    rintro w0 q rfl hg w1 hb w2 rfl
    have hb0 : Below w.heap.size w w1 := (below_drews (Below.refl _ _) q).trans hb
    have hb1 : Below w.heap.size w (w1.alloc (.cells #[.int .i64 i] 3)) := hb0.alloc hb0.size _
    refine (p_past xs A n c (throughAt xs ys) 101 #[.pointer (some ⟨w1.heap.size, 0, none⟩)] (downF i) _ (HX.out.below hb1) hn HT.out enter_down ?_).mono ?_
    · intro z hz w2 hb2
      have hz' := HF.out.at_ hz
      refine (p_down1 z i w1.heap.size w2 ?_ (by omega) (by omega)).mono ?_
      · rw [hb2.cell (by simp)]; simp [World.cell?_alloc_new]
      · rintro e w3 ⟨rfl, rfl⟩; exact ⟨rfl, Below.refl _ _⟩
    · rintro e w3 ⟨A3, c3, rfl, ho, hb3⟩
      refine ⟨A3, c3, rfl, MaybeInts.yes ?_ rfl (own_mono ho hb1.size) (hb1.trans (hb3.mono hb1.size))⟩
      unfold deletedL
      rw [hg, pastL_step]
      rfl
  have HTL := Lib.hid tail
  clear tail
  by_cases hl : m < n
  · obtain ⟨b, o, z, rfl, hz, hc⟩ := HX.out.get hl
    have HZ := Lib.hid hz
    have HG : Hid (goneB xs ys i = (underB xs ys && z == i)) := by
      obtain ⟨e1, e2⟩ := HN.out
      exact gone_iff (by omega) (by rw [← e2]; exact hz)
    clear hz
    cases hu : underB xs ys with
    | true =>
      have HU := Lib.hid hu
      clear hu
      by_cases hi : z = i
      · subst hi
        have HD : Hid (deletedL xs ys z = none) := by show _ = _; unfold deletedL; rw [HG.out, HU.out]; simp
        go_enter Tryz.func51, Tryz.ntmps51
        go_wp2_with fail
        refine (p_under xs ys _ _ _ _ _ _ _ HX.out HY.out).mono ?_
        rintro e w1 ⟨rfl, q, rfl⟩
        rw [HU.out]
        go_wp2_with fail
        go_ret2
        exact MaybeInts.no HD.out (below_drews (Below.refl _ _) q)
      · have HGf : Hid (goneB xs ys i = false) := by show _ = _; rw [HG.out]; simp [hi]
        go_enter Tryz.func51, Tryz.ntmps51
        go_wp2_with fail
        refine (p_under xs ys _ _ _ _ _ _ _ HX.out HY.out).mono ?_
        rintro e w1 ⟨rfl, q, rfl⟩
        rw [HU.out]
        go_wp2_with fail
        refine (p_through xs ys _ _ _ _ _ _ _ (HX.out.drewN q) (HY.out.drewN q)).mono ?_
        rintro e w1 ⟨rfl, hb⟩
        have HB := Lib.hid hb
        clear hb
        go_wp2_with fail
        refine (p_down _ _).mono ?_
        rintro e w' ⟨rfl, rfl⟩
        go_wp2_with fail
        refine (HTL.out _ q rfl HGf.out w1 HB.out _ rfl).mono ?_
        rintro e w3 ⟨A3, c3, rfl, hp⟩
        have HP := Lib.hid hp
        clear hp
        go_wp2_with fail
        go_ret2
        exact HP.out
    | false =>
      have HU := Lib.hid hu
      have HGf : Hid (goneB xs ys i = false) := by show _ = _; rw [HG.out, hu]; rfl
      clear hu
      go_enter Tryz.func51, Tryz.ntmps51
      go_wp2_with fail
      refine (p_under xs ys _ _ _ _ _ _ _ HX.out HY.out).mono ?_
      rintro e w1 ⟨rfl, q, rfl⟩
      rw [HU.out]
      go_wp2_with fail
      refine (p_through xs ys _ _ _ _ _ _ _ (HX.out.drewN q) (HY.out.drewN q)).mono ?_
      rintro e w1 ⟨rfl, hb⟩
      have HB := Lib.hid hb
      clear hb
      go_wp2_with fail
      refine (p_down _ _).mono ?_
      rintro e w' ⟨rfl, rfl⟩
      go_wp2_with fail
      refine (HTL.out _ q rfl HGf.out w1 HB.out _ rfl).mono ?_
      rintro e w3 ⟨A3, c3, rfl, hp⟩
      have HP := Lib.hid hp
      clear hp
      go_wp2_with fail
      go_ret2
      exact HP.out
  · have HGf : Hid (goneB xs ys i = false) := by
      show _ = _
      obtain ⟨e1, e2⟩ := HN.out
      simp [goneB]; omega
    go_enter Tryz.func51, Tryz.ntmps51
    go_wp2_with fail
    refine (p_through xs ys _ _ _ _ _ _ _ HX.out HY.out).mono ?_
    rintro e w1 ⟨rfl, hb⟩
    have HB := Lib.hid hb
    clear hb
    go_wp2_with fail
    refine (p_down _ _).mono ?_
    rintro e w' ⟨rfl, rfl⟩
    go_wp2_with fail
    refine (HTL.out _ 0 rfl HGf.out w1 HB.out _ rfl).mono ?_
    rintro e w3 ⟨A3, c3, rfl, hp⟩
    have HP := Lib.hid hp
    clear hp
    go_wp2_with fail
    go_ret2
    exact HP.out

set_option maxHeartbeats 400000 in
theorem p_moved (xs ys : List Int) (i j : Int) (A B : Option Addr) (n c m d : Nat) (w : World) (hx : IntsAt w xs A n c) (hy : IntsAt w ys B m d) (hn : n ≤ 17592186044416) (hm : m ≤ 17592186044416) (hf : Few xs) :
    Calls Tryz.prog 55 #[.slice A n c, .slice B m d, .int .i64 i, .int .i64 j] w (IntsPost (movedL xs ys i j) w) := by
  have hb0 : Below w.heap.size w ((w.alloc (.cells #[.int .i64 i] 3)).alloc (.cells #[.int .i64 j] 3)) := ((Below.refl _ _).alloc (Nat.le_refl _) _).alloc (by simp) _
  have HX0 := Lib.hid hx
  have HX := Lib.hid (hx.below hb0)
  have HY := Lib.hid (hy.below hb0)
  have HF := Lib.hid hf
  have HT := Lib.hid (throughAt_le xs ys hx.1 hy.1 hn hm)
  have HB0 := Lib.hid hb0
  have hmf := run_makeFunc
  clear hx hy hf hb0
  go_enter Tryz.func55, Tryz.ntmps55
  go_wp2_with fail
  refine (p_through xs ys _ _ _ _ _ _ _ HX.out HY.out).mono ?_
  rintro e w1 ⟨rfl, hb⟩
  have HB1 : Hid (Below w.heap.size w w1) := HB0.out.trans (hb.mono HB0.out.size)
  have HS1 : Hid (w.heap.size + 2 ≤ w1.heap.size) := by show _ ≤ _; have := hb.size; simp at this; omega
  have HC1 : Hid (w1.cell? ⟨w.heap.size, 0, none⟩ = some (.int .i64 i)) := by
    show _ = _
    rw [hb.cell (by simp <;> omega)]
    go_simp
  have HC2 : Hid (w1.cell? ⟨w.heap.size + 1, 0, none⟩ = some (.int .i64 j)) := by
    show _ = _
    rw [hb.cell (by simp <;> omega)]
    go_simp
  clear hb
  go_wp2_with fail
  refine (p_past xs A n c (throughAt xs ys) 77 #[.pointer (some ⟨w.heap.size, 0, none⟩), .pointer (some ⟨w.heap.size + 1, 0, none⟩)] (movF i j) _ (IntsAt.below HB1.out HX0.out) hn HT.out enter_moved ?_).mono ?_
  · intro z hz w2 hb2
    have hz' := HF.out.at_ hz
    refine (p_moved1 z i j w.heap.size (w.heap.size + 1) w2 ?_ ?_ (by omega) (by omega))
    · rw [hb2.cell (by have := HS1.out; simp; omega)]; exact HC1.out
    · rw [hb2.cell (by have := HS1.out; simp; omega)]; exact HC2.out
  · rintro e w3 ⟨A3, c3, rfl, ho, hb3⟩
    have HO := Lib.hid ho
    have HB3 := Lib.hid hb3
    clear ho hb3
    go_wp2
    go_ret
    exact IntsPost.intro (by rw [movedL_eq]; exact pastL_step xs ys (movF i j)) rfl (own_mono HO.out HB1.out.size) (HB1.out.trans (HB3.out.mono HB1.out.size))
end Go.Proofs.YtmikjhohnfcedaaGreatDoor

namespace Go.Proofs.YtmikjhohnfcedaaGreatDoor
set_option linter.unusedSimpArgs false
set_option linter.unusedVariables false
open Go.RowKit
set_option linter.unusedSimpArgs false

/-- What the closures of past see: the edit's box, the path's. -/
structure PastEnv (w : World) (xs ps : List Int) (b b' : Nat) (A : Option Addr) (n c : Nat) (k : Nat) (pA : Option Addr) (pn pc : Nat) (i j : Int) (x4 x5 x6 x7 : Value) : Prop where
  box : Box8 w b (.int .u8 k) (.slice pA pn pc) (.int .i64 i) (.int .i64 j) x4 x5 x6 x7
  way : w.cell? ⟨b', 0, none⟩ = some (.slice A n c)
  hx : IntsAt w xs A n c
  hp : IntsAt w ps pA pn pc
  few : Few xs
  hn : n ≤ 17592186044416
  hm : pn ≤ 17592186044000
theorem PastEnv.below {w w' : World} {xs ps : List Int} {b b' : Nat} {A : Option Addr} {n c : Nat} {k : Nat} {pA : Option Addr} {pn pc : Nat} {i j : Int} {x4 x5 x6 x7 : Value} (h : PastEnv w xs ps b b' A n c k pA pn pc i j x4 x5 x6 x7) (hb : Below w.heap.size w w') : PastEnv w' xs ps b b' A n c k pA pn pc i j x4 x5 x6 x7 :=
  ⟨h.box.below hb, cell_below hb h.way, h.hx.below hb, h.hp.below hb, h.few, h.hn, h.hm⟩
set_option maxRecDepth 20000 in
set_option maxHeartbeats 1000000 in
theorem p_past1 {w : World} {xs : List Int} {b' : Nat} {A : Option Addr} {n c : Nat} (hw : w.cell? ⟨b', 0, none⟩ = some (.slice A n c)) (hx : IntsAt w xs A n c) (hn : n ≤ 17592186044416) :
    Calls Tryz.prog 47 #[.pointer (some ⟨b', 0, none⟩)] w (MaybeInts (some xs) w) := by
  have HX := Lib.hid hx
  clear hx
  go_enter Tryz.func47, Tryz.ntmps47
  go_wp2_with fail
  refine (p_clone_ints xs _ _ _ _ HX.out hn).mono ?_
  rintro en w1 ⟨A1, c1, rfl, ho, hb⟩
  have HO := Lib.hid ho
  have HB := Lib.hid hb
  clear ho hb
  go_wp2_with fail
  go_ret2
  exact MaybeInts.yes rfl rfl HO.out HB.out
set_option maxRecDepth 20000 in
set_option maxHeartbeats 1000000 in
theorem p_past2 {w : World} {xs ps : List Int} {b b' : Nat} {A : Option Addr} {n c : Nat} {k : Nat} {pA : Option Addr} {pn pc : Nat} {i j : Int} {x4 x5 x6 x7 : Value} (h : PastEnv w xs ps b b' A n c k pA pn pc i j x4 x5 x6 x7) :
    Calls Tryz.prog 48 #[.pointer (some ⟨b', 0, none⟩), .pointer (some ⟨b, 0, none⟩)] w (MaybeInts (some (insertedL xs ps i)) w) := by
  have H := Lib.hid h
  have hw := h.way
  obtain ⟨c0, c1, c2, c3, c4, c5, c6, c7⟩ := h.box
  clear h
  go_enter Tryz.func48, Tryz.ntmps48
  go_wp2_with fail
  refine (p_inserted xs ps i _ _ _ _ _ _ _ H.out.hx H.out.hp H.out.hn (by have := H.out.hm; omega) H.out.few).mono ?_
  rintro en w1 ⟨A1, c1, rfl, ho, hb⟩
  have HO := Lib.hid ho
  have HB := Lib.hid hb
  clear ho hb
  go_wp2_with fail
  go_ret2
  exact MaybeInts.yes rfl rfl HO.out HB.out
set_option maxRecDepth 20000 in
set_option maxHeartbeats 1000000 in
theorem p_past3 {w : World} {xs ps : List Int} {b b' : Nat} {A : Option Addr} {n c : Nat} {k : Nat} {pA : Option Addr} {pn pc : Nat} {i j : Int} {x4 x5 x6 x7 : Value} (h : PastEnv w xs ps b b' A n c k pA pn pc i j x4 x5 x6 x7) :
    Calls Tryz.prog 50 #[.pointer (some ⟨b', 0, none⟩), .pointer (some ⟨b, 0, none⟩)] w (MaybeInts (deletedL xs ps i) w) := by
  have H := Lib.hid h
  have hw := h.way
  obtain ⟨c0, c1, c2, c3, c4, c5, c6, c7⟩ := h.box
  clear h
  cases hd : deletedL xs ps i with
  | none =>
    have HD := Lib.hid hd
    clear hd
    go_enter Tryz.func50, Tryz.ntmps50
    go_wp2_with fail
    refine (p_deleted xs ps i _ _ _ _ _ _ _ H.out.hx H.out.hp H.out.hn (by have := H.out.hm; omega) H.out.few).mono ?_
    intro en w1 hm
    rw [HD.out] at hm
    obtain ⟨A1, n1, c1, rfl, hb⟩ := hm
    have HB := Lib.hid hb
    clear hb
    go_wp2_with fail
    go_ret2
    exact MaybeInts.no rfl HB.out
  | some zs =>
    have HD := Lib.hid hd
    clear hd
    go_enter Tryz.func50, Tryz.ntmps50
    go_wp2_with fail
    refine (p_deleted xs ps i _ _ _ _ _ _ _ H.out.hx H.out.hp H.out.hn (by have := H.out.hm; omega) H.out.few).mono ?_
    intro en w1 hm
    rw [HD.out] at hm
    obtain ⟨A1, c1, rfl, ho, hb⟩ := hm
    have HO := Lib.hid ho
    have HB := Lib.hid hb
    clear ho hb
    go_wp2_with fail
    go_ret2
    exact MaybeInts.yes rfl rfl HO.out HB.out
end Go.Proofs.YtmikjhohnfcedaaGreatDoor

namespace Go.Proofs.YtmikjhohnfcedaaGreatDoor
set_option linter.unusedSimpArgs false
set_option linter.unusedVariables false
open Go.RowKit
set_option linter.unusedSimpArgs false

/-- A clone in a world that has only drawn. -/
theorem p_clone_drew {w : World} {zs : List Int} {A : Option Addr} {n c : Nat} (d : Nat) (h : IntsAt w zs A n c) (hn : n ≤ 17592186044416) :
    Calls Tryz.prog 44 #[.slice A n c] (w.drewN d) fun e w' => ∃ A' c', e = .returned (.slice A' zs.length c') ∧ w'.ownsRow w.heap.size 3 1 (.slice A' zs.length c') zs.length (zs.map (Value.int .i64)) ∧ Below w.heap.size w w' := by
  refine (p_clone_ints zs A n c _ (h.drewN d) hn).mono ?_
  rintro e w' ⟨A', c', rfl, ho, hb⟩
  exact ⟨A', c', rfl, ho, (below_drews (Below.refl _ _) d).trans hb⟩
theorem after_clone {w w1 : World} {d : Nat} {xs ps : List Int} {b b' : Nat} {A : Option Addr} {n c : Nat} {k : Nat} {pA : Option Addr} {pn pc : Nat} {i j : Int} {x4 x5 x6 x7 : Value} (h : PastEnv w xs ps b b' A n c k pA pn pc i j x4 x5 x6 x7) (hb : Below (w.drewN d).heap.size (w.drewN d) w1) :
    w1.cell? ⟨b', 0, none⟩ = some (.slice A n c) ∧ w1.cell? ⟨b, 1, none⟩ = some (.slice pA pn pc) ∧ IntsAt w1 xs A n c ∧ IntsAt w1 ps pA pn pc ∧ Hid (Below w.heap.size w w1) := by
  have hb' : Below w.heap.size w w1 := (below_drews (Below.refl _ _) d).trans hb
  have h' := h.below hb'
  exact ⟨h'.way, h'.box.2.1, h'.hx, h'.hp, hb'⟩
set_option maxRecDepth 20000 in
set_option maxHeartbeats 1000000 in
theorem p_past4 {w : World} {xs ps : List Int} {b b' : Nat} {A : Option Addr} {n c : Nat} {k : Nat} {pA : Option Addr} {pn pc : Nat} {i j : Int} {x4 x5 x6 x7 : Value} (h : PastEnv w xs ps b b' A n c k pA pn pc i j x4 x5 x6 x7) :
    Calls Tryz.prog 52 #[.pointer (some ⟨b', 0, none⟩), .pointer (some ⟨b, 0, none⟩)] w (MaybeInts (if underB xs ps then none else some xs) w) := by
  have H := Lib.hid h
  have hw := h.way
  obtain ⟨c0, c1, c2, c3, c4, c5, c6, c7⟩ := h.box
  clear h
  generalize hu : underB xs ps = u
  have HU := Lib.hid hu
  clear hu
  generalize hr : (if u = true then none else some xs) = r
  have HR := Lib.hid hr
  clear hr
  go_enter Tryz.func52, Tryz.ntmps52
  go_wp2_with fail
  go_region_with (first
    | (go_at_call 44; refine (p_clone_ints xs _ _ _ _ (by first | exact H.out.hx.drewN 1 | exact (H.out.hx.drewN _).drewN _) H.out.hn).mono ?_; rintro e w1 ⟨A1, k1, rfl, ho, hb⟩; obtain ⟨hw1, hd1, hxx1, hpp1, hbb1⟩ := after_clone H.out hb)
    | (go_at_call 53; refine (p_under xs ps _ _ _ _ _ _ _ (by first | exact hxx1 | exact H.out.hx.drewN 1) (by first | exact hpp1 | exact H.out.hp.drewN 1)).mono ?_; rintro e w2 ⟨rfl, q, rfl⟩))
  all_goals
    rw [HU.out]
    cases u
    · go_wp2_with fail
      go_ret2
      rw [← HR.out]
      exact MaybeInts.yes rfl rfl (own_below ho (below_drews (Below.refl _ _) q) (Nat.le_refl _)) (below_drews hbb1.out q)
    · go_wp2_with fail
      go_ret2
      rw [← HR.out]
      exact MaybeInts.no rfl (below_drews hbb1.out q)
end Go.Proofs.YtmikjhohnfcedaaGreatDoor
