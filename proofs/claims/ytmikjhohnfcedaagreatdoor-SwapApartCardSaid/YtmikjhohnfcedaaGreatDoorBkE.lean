/- The walk over the kit's EditOf: what an edit costs.
   The walk over the law's small: each edit costs at most 60.
   Small edits: what an edit's cost says of the sizes of its parts. No program in sight.
   Trees in memory of a call's own: no row of them lies in a block below a bound.
   slices.Clone at rows of nodes: a row of the call's own that reads as the same trees.
   The walk over tree.copied: a tree of the call's own.
   The walks over tree.find and tree.Get at the empty path, and over edit.copied. -/
import Derived.Test.YtmikjhohnfcedaaGreatDoorBkD
import Derived.Test.YtmikjhohnfcedaaGreatDoorBkB
import Derived.OwnWalk
import Derived.Laws.AppendOwn
import Derived.Deep.RegionWith
namespace Go.Proofs.YtmikjhohnfcedaaGreatDoor
set_option linter.unusedSimpArgs false
set_option linter.unusedVariables false
open Go.RowKit
set_option linter.unusedSimpArgs false

def Edt.cost (e : Edt) : Nat := 1 + e.path.length + (e.frm.length + e.to_.length) / 8 + costL e.olds + costL e.news
def EditPost (c most : Nat) (w : World) (e : Ending) (w' : World) : Prop := ∃ v : Nat, e = .returned (.int .i64 v) ∧ Below w.heap.size w w' ∧ Costs v c most
theorem EditPost.intro {c most v : Nat} {w w' : World} (hb : Below w.heap.size w w') (h3 : Costs v c most) : EditPost c most w (.returned (.int .i64 v)) w' := ⟨v, rfl, hb, h3⟩
set_option maxRecDepth 20000 in
set_option maxHeartbeats 4000000 in
theorem k_edit_of (e : Edt) (k : Nat) (pA : Option Addr) (pn pc : Nat) (i j : Int) (f t : ByteArray) (oA : Option Addr) (on oc : Nat) (nA : Option Addr) (nn nc : Nat) (most : Nat) (w : World)
    (h : EditIs w e k pA pn pc i j f t oA on oc nA nn nc) (hpn : pn ≤ 17592186044416) (hf : f.size ≤ 140737488355328) (ht : t.size ≤ 140737488355328) (hso : shortL LL e.olds) (hsn : shortL LL e.news) (hm : most ≤ 1000000) :
    Calls Tryz.prog 15 #[.agg #[.int .u8 k, .slice pA pn pc, .int .i64 i, .int .i64 j, .string f, .string t, .slice oA on oc, .slice nA nn nc], .int .i64 most] w (EditPost e.cost most w) := by
  obtain ⟨ps, os, ns, rfl, hp, ho, hn⟩ := h
  have hb0 : Below w.heap.size w (w.alloc (.cells #[.int .u8 k, .slice pA pn pc, .int .i64 i, .int .i64 j, .string f, .string t, .slice oA on oc, .slice nA nn nc] 26)) := (Below.refl _ _).alloc (Nat.le_refl _) _
  have HB0 := Lib.hid hb0
  have HO := Lib.hid (ho.below hb0)
  have HN := Lib.hid (hn.below hb0)
  have HBX := Lib.hid (Box8.new (w := w) (x0 := .int .u8 k) (x1 := .slice pA pn pc) (x2 := .int .i64 i) (x3 := .int .i64 j) (x4 := .string f) (x5 := .string t) (x6 := .slice oA on oc) (x7 := .slice nA nn nc) (T := 26))
  have HSO := Lib.hid hso
  have HSN := Lib.hid hsn
  have HLO : Hid (on = os.length) := ho.1
  have HLN : Hid (nn = ns.length) := hn.1
  have HC : Hid (Edt.cost ⟨k, ps, i, j, bl f, bl t, os, ns⟩ = 1 + pn + (f.size + t.size) / 8 + costL os + costL ns) := by show _ = _; simp [Edt.cost, bl_len, ← hp.1]
  have hon : on ≤ 9223372036854775807 := by have h1 := ho.2.1; have h2 := ho.2.2.1; unfold maxLen at h2; omega
  have hnn : nn ≤ 9223372036854775807 := by have h1 := hn.2.1; have h2 := hn.2.2.1; unfold maxLen at h2; omega
  clear hb0 hp ho hn hso hsn
  go_enter Tryz.func15, Tryz.ntmps15
  go_wp2_with fail
  go_loopw [5, 6] (fun cv iv wr => ∃ q v : Nat, q ≤ on ∧ iv = .int .i64 q ∧ cv = .int .i64 v ∧ v ≤ most + 70368744177670 ∧ Hid (Below (w.alloc (.cells #[.int .u8 k, .slice pA pn pc, .int .i64 i, .int .i64 j, .string f, .string t, .slice oA on oc, .slice nA nn nc] 26)).heap.size (w.alloc (.cells #[.int .u8 k, .slice pA pn pc, .int .i64 i, .int .i64 j, .string f, .string t, .slice oA on oc, .slice nA nn nc] 26)) wr) ∧ Hid (Costs v (1 + pn + (f.size + t.size) / 8 + costL (os.take q)) most)) (fun _ iv _ => on - (intOf iv).toNat)
  case atStart =>
    refine ⟨0, 1 + pn + (f.size + t.size) / 8, Nat.zero_le _, rfl, ?_, by omega, Below.refl _ _, ?_⟩
    · go_num
    · show Costs _ _ _; simp [Costs, costL]
  case round =>
    obtain ⟨q, v, hq, rfl, rfl, hv, HB, HI⟩ := hrel
    obtain ⟨c0, c1, c2, c3, c4, c5, c6, c7⟩ := HBX.out.below HB.out
    by_cases hlt : q < on ∧ v ≤ most
    · obtain ⟨hlt, hc⟩ := hlt
      obtain ⟨b, o, t, rfl, ht, hat⟩ := (HO.out.below HB.out).get hlt
      obtain ⟨B1, d1, q0, q1, q2, q3, hnode⟩ := hat.cells
      have HND := Lib.hid hnode
      have HST := Lib.hid (HSO.out.get ht)
      have HCS := Lib.hid (costL_step ht)
      have hv' := HI.out.1 hc
      have HV := Lib.hid hv'
      clear ht hat hnode hv'
      go_wp2_with fail
      rw [show ((most : Int) - (v : Int)) = ((most - v : Nat) : Int) by omega]
      refine (k_nodes_of t _ _ _ _ _ _ (most - v) _ HND.out HST.out (by omega)).mono ?_
      rintro e w3 ⟨z, rfl, hb3, hz1, hz2, hz3⟩
      have HB3 := Lib.hid (bthen HB.out hb3)
      have HZ := Lib.hid hz3
      clear hb3 hz3 c0 c1 c2 c3 c4 c5 c6 c7
      obtain ⟨c0, c1, c2, c3, c4, c5, c6, c7⟩ := HBX.out.below HB3.out
      go_wp2
      go_roundw
      case rel =>
        refine ⟨q + 1, v + z, by omega, by go_num, by go_num, by omega, HB3, ?_⟩
        show Costs _ _ _
        have h1 := HZ.out
        have h2 := HV.out
        have h3 := HCS.out
        unfold Costs at h1 ⊢
        rw [h3]
        omega
      case measure => simp [intOf]; omega
    · have HI2 : Hid (Costs v (1 + pn + (f.size + t.size) / 8 + costL os) most) := by
        have h1 := HI.out
        have h2 := HLO.out
        show Costs _ _ _
        by_cases hq2 : q < on
        · have h3 := costL_take os q
          unfold Costs at h1 ⊢
          omega
        · rw [List.take_of_length_le (by omega)] at h1
          exact h1
      by_cases hq2 : q < on
      · have hc : ¬ v ≤ most := fun h => hlt ⟨hq2, h⟩
        clear hlt
        go_wp2_with fail
        go_loopw [5, 7] (fun cv iv wx => ∃ q v : Nat, q ≤ nn ∧ iv = .int .i64 q ∧ cv = .int .i64 v ∧ v ≤ most + 70368744177670 ∧ Hid (Below (w.alloc (.cells #[.int .u8 k, .slice pA pn pc, .int .i64 i, .int .i64 j, .string f, .string t, .slice oA on oc, .slice nA nn nc] 26)).heap.size (w.alloc (.cells #[.int .u8 k, .slice pA pn pc, .int .i64 i, .int .i64 j, .string f, .string t, .slice oA on oc, .slice nA nn nc] 26)) wx) ∧ Hid (Costs v (1 + pn + (f.size + t.size) / 8 + costL os + costL (ns.take q)) most)) (fun _ iv _ => nn - (intOf iv).toNat)
        case atStart => exact ⟨0, v, Nat.zero_le _, rfl, rfl, hv, HB, by have h1 := HI2.out; simpa [Hid, costL] using h1⟩
        case round =>
          obtain ⟨q', v', hq', rfl, rfl, hv', HB', HI'⟩ := hrel
          clear c0 c1 c2 c3 c4 c5 c6 c7
          obtain ⟨c0, c1, c2, c3, c4, c5, c6, c7⟩ := HBX.out.below HB'.out
          by_cases hlt : q' < nn
          · by_cases hc' : v' ≤ most
            · obtain ⟨b, o, t', rfl, ht, hat⟩ := (HN.out.below HB'.out).get hlt
              obtain ⟨B1, d1, q0, q1, q2, q3, hnode⟩ := hat.cells
              have HND := Lib.hid hnode
              have HST := Lib.hid (HSN.out.get ht)
              have HCS := Lib.hid (costL_step ht)
              have hvv := HI'.out.1 hc'
              have HV := Lib.hid hvv
              clear ht hat hnode hvv
              go_wp2_with fail
              rw [show ((most : Int) - (v' : Int)) = ((most - v' : Nat) : Int) by omega]
              refine (k_nodes_of t' _ _ _ _ _ _ (most - v') _ HND.out HST.out (by omega)).mono ?_
              rintro e w3 ⟨z, rfl, hb3, hz1, hz2, hz3⟩
              have HB3 := Lib.hid (bthen HB'.out hb3)
              have HZ := Lib.hid hz3
              clear hb3 hz3 c0 c1 c2 c3 c4 c5 c6 c7
              obtain ⟨c0, c1, c2, c3, c4, c5, c6, c7⟩ := HBX.out.below HB3.out
              go_wp2
              go_roundw
              case rel =>
                refine ⟨q' + 1, v' + z, by omega, by go_num, by go_num, by omega, HB3, ?_⟩
                show Costs _ _ _
                have h1 := HZ.out
                have h2 := HV.out
                have h3 := HCS.out
                unfold Costs at h1 ⊢
                rw [h3]
                omega
              case measure => simp [intOf]; omega
            · have HT := Lib.hid (costL_take ns q')
              go_wp2_with fail
              go_ret
              refine EditPost.intro (bthen HB0.out HB'.out) ?_
              have h1 := HI'.out
              have h2 := HT.out
              rw [HC.out]
              unfold Costs at h1 ⊢
              omega
          · go_wp2_with fail
            go_ret
            refine EditPost.intro (bthen HB0.out HB'.out) ?_
            have h1 := HI'.out
            rw [List.take_of_length_le (by have := HLN.out; omega)] at h1
            rw [HC.out]
            exact h1
      · clear hlt
        go_wp2_with fail
        go_loopw [5, 7] (fun cv iv wx => ∃ q v : Nat, q ≤ nn ∧ iv = .int .i64 q ∧ cv = .int .i64 v ∧ v ≤ most + 70368744177670 ∧ Hid (Below (w.alloc (.cells #[.int .u8 k, .slice pA pn pc, .int .i64 i, .int .i64 j, .string f, .string t, .slice oA on oc, .slice nA nn nc] 26)).heap.size (w.alloc (.cells #[.int .u8 k, .slice pA pn pc, .int .i64 i, .int .i64 j, .string f, .string t, .slice oA on oc, .slice nA nn nc] 26)) wx) ∧ Hid (Costs v (1 + pn + (f.size + t.size) / 8 + costL os + costL (ns.take q)) most)) (fun _ iv _ => nn - (intOf iv).toNat)
        case atStart => exact ⟨0, v, Nat.zero_le _, rfl, rfl, hv, HB, by have h1 := HI2.out; simpa [Hid, costL] using h1⟩
        case round =>
          obtain ⟨q', v', hq', rfl, rfl, hv', HB', HI'⟩ := hrel
          clear c0 c1 c2 c3 c4 c5 c6 c7
          obtain ⟨c0, c1, c2, c3, c4, c5, c6, c7⟩ := HBX.out.below HB'.out
          by_cases hlt : q' < nn
          · by_cases hc' : v' ≤ most
            · obtain ⟨b, o, t', rfl, ht, hat⟩ := (HN.out.below HB'.out).get hlt
              obtain ⟨B1, d1, q0, q1, q2, q3, hnode⟩ := hat.cells
              have HND := Lib.hid hnode
              have HST := Lib.hid (HSN.out.get ht)
              have HCS := Lib.hid (costL_step ht)
              have hvv := HI'.out.1 hc'
              have HV := Lib.hid hvv
              clear ht hat hnode hvv
              go_wp2_with fail
              rw [show ((most : Int) - (v' : Int)) = ((most - v' : Nat) : Int) by omega]
              refine (k_nodes_of t' _ _ _ _ _ _ (most - v') _ HND.out HST.out (by omega)).mono ?_
              rintro e w3 ⟨z, rfl, hb3, hz1, hz2, hz3⟩
              have HB3 := Lib.hid (bthen HB'.out hb3)
              have HZ := Lib.hid hz3
              clear hb3 hz3 c0 c1 c2 c3 c4 c5 c6 c7
              obtain ⟨c0, c1, c2, c3, c4, c5, c6, c7⟩ := HBX.out.below HB3.out
              go_wp2
              go_roundw
              case rel =>
                refine ⟨q' + 1, v' + z, by omega, by go_num, by go_num, by omega, HB3, ?_⟩
                show Costs _ _ _
                have h1 := HZ.out
                have h2 := HV.out
                have h3 := HCS.out
                unfold Costs at h1 ⊢
                rw [h3]
                omega
              case measure => simp [intOf]; omega
            · have HT := Lib.hid (costL_take ns q')
              go_wp2_with fail
              go_ret
              refine EditPost.intro (bthen HB0.out HB'.out) ?_
              have h1 := HI'.out
              have h2 := HT.out
              rw [HC.out]
              unfold Costs at h1 ⊢
              omega
          · go_wp2_with fail
            go_ret
            refine EditPost.intro (bthen HB0.out HB'.out) ?_
            have h1 := HI'.out
            rw [List.take_of_length_le (by have := HLN.out; omega)] at h1
            rw [HC.out]
            exact h1
end Go.Proofs.YtmikjhohnfcedaaGreatDoor

namespace Go.Proofs.YtmikjhohnfcedaaGreatDoor
set_option linter.unusedSimpArgs false
set_option linter.unusedVariables false
open Go.RowKit
set_option linter.unusedSimpArgs false

/-- The texts and the path of an edit are of a size that the walk can count. -/
def Edt.fine (e : Edt) : Prop := e.path.length ≤ 17592186044416 ∧ e.frm.length ≤ 140737488355328 ∧ e.to_.length ≤ 140737488355328 ∧ shortL LL e.olds ∧ shortL LL e.news
/-- An edit at a place in memory. -/
def EdtAt (w : World) (e : Edt) (b o : Nat) : Prop := ∃ (k : Nat) (pA : Option Addr) (pn pc : Nat) (i j : Int) (f t : ByteArray) (oA : Option Addr) (on oc : Nat) (nA : Option Addr) (nn nc : Nat),
  w.cell? ⟨b, o, none⟩ = some (.int .u8 k) ∧ w.cell? ⟨b, o + 1, none⟩ = some (.slice pA pn pc) ∧ w.cell? ⟨b, o + 2, none⟩ = some (.int .i64 i) ∧ w.cell? ⟨b, o + 3, none⟩ = some (.int .i64 j) ∧ w.cell? ⟨b, o + 4, none⟩ = some (.string f) ∧ w.cell? ⟨b, o + 5, none⟩ = some (.string t) ∧ w.cell? ⟨b, o + 6, none⟩ = some (.slice oA on oc) ∧ w.cell? ⟨b, o + 7, none⟩ = some (.slice nA nn nc) ∧
  EditIs w e k pA pn pc i j f t oA on oc nA nn nc
theorem EdtAt.below {w w' : World} (hb : Below w.heap.size w w') {e : Edt} {b o : Nat} (h : EdtAt w e b o) : EdtAt w' e b o := by
  obtain ⟨k, pA, pn, pc, i, j, f, t, oA, on, oc, nA, nn, nc, h0, h1, h2, h3, h4, h5, h6, h7, h8⟩ := h
  exact ⟨k, pA, pn, pc, i, j, f, t, oA, on, oc, nA, nn, nc, cell_below hb h0, cell_below hb h1, cell_below hb h2, cell_below hb h3, cell_below hb h4, cell_below hb h5, cell_below hb h6, cell_below hb h7, h8.below hb⟩
/-- A row of edits. -/
def EdtsAt (w : World) (es : List Edt) (b : Nat) : Prop := ∀ j e, es[j]? = some e → EdtAt w e b (j * 8)
theorem EdtsAt.below {w w' : World} (hb : Below w.heap.size w w') {es : List Edt} {b : Nat} (h : EdtsAt w es b) : EdtsAt w' es b := fun j e he => (h j e he).below hb
def smallB (es : List Edt) : Bool := es.all fun e => decide (e.cost ≤ 60)
theorem small_step {es : List Edt} {j : Nat} {e : Edt} (h : smallB es = smallB (es.drop j)) (he : es[j]? = some e) : smallB es = (decide (e.cost ≤ 60) && smallB (es.drop (j + 1))) := by
  have h1 : j < es.length := (List.getElem?_eq_some_iff.1 he).1
  rw [h, List.drop_eq_getElem_cons h1]
  rw [List.getElem?_eq_getElem h1] at he
  injection he with he
  rw [he]
  rfl
set_option maxRecDepth 20000 in
set_option maxHeartbeats 2000000 in
theorem l_small (es : List Edt) (b n c : Nat) (w : World) (hn : n = es.length) (hnn : n ≤ 1000) (hc : n ≤ c) (hA : EdtsAt w es b) (hf : ∀ e ∈ es, e.fine) :
    Calls Tryz.prog 6 #[.slice (some ⟨b, 0, none⟩) n c] w (NamePost (smallB es) w) := by
  have HA := Lib.hid hA
  have HF := Lib.hid hf
  have HL := Lib.hid hn
  clear hA hf hn
  go_enter Tryz.func6, Tryz.ntmps6
  go_wp2_with fail
  go_loopw [3] (fun i wr => ∃ j : Nat, j ≤ n ∧ i = .int .i64 j ∧ Hid (Below w.heap.size w wr) ∧ Hid (smallB es = smallB (es.drop j))) (fun i _ => n - (intOf i).toNat)
  case atStart => exact ⟨0, Nat.zero_le _, rfl, Below.refl _ _, rfl⟩
  case round =>
    obtain ⟨j, hj, rfl, HB, HI⟩ := hrel
    by_cases hlt : j < n
    · have HE : Hid (es[j]? = some (es[j]'(by have := HL.out; omega))) := List.getElem?_eq_getElem _
      generalize (es[j]'(by have := HL.out; omega)) = e at HE
      obtain ⟨h1, h2, h3, h4, h5⟩ := HF.out e (List.mem_of_getElem? HE.out)
      obtain ⟨k, pA, pn, pc, i0, j0, f, t, oA, on, oc, nA, nn, nc, c0, c1, c2, c3, c4, c5, c6, c7, hE⟩ := (HA.out j e HE.out).below HB.out
      have HEI := Lib.hid hE
      have HST := Lib.hid (small_step HI.out HE.out)
      have HS4 := Lib.hid h4
      have HS5 := Lib.hid h5
      have hb1 : pn ≤ 17592186044416 ∧ f.size ≤ 140737488355328 ∧ t.size ≤ 140737488355328 := by
        obtain ⟨ps, os, ns, rfl, hp, _, _⟩ := hE
        rw [hp.1]
        exact ⟨h1, h2, h3⟩
      obtain ⟨d1, d2, d3⟩ := hb1
      clear hE h1 h2 h3 h4 h5
      go_wp2_with fail
      refine (k_edit_of e _ _ _ _ _ _ _ _ _ _ _ _ _ _ 60 _ HEI.out d1 d2 d3 HS4.out HS5.out (by omega)).mono ?_
      rintro e3 w3 ⟨v, rfl, hb3, hv⟩
      have HB3 := Lib.hid (bthen HB.out hb3)
      have HV := Lib.hid hv
      clear hb3 hv c0 c1 c2 c3 c4 c5 c6 c7
      by_cases h60 : v ≤ 60
      · have HN : Hid (smallB es = smallB (es.drop (j + 1))) := by
          show _ = _
          rw [HST.out]
          have h1 := HV.out
          unfold Costs at h1
          have : e.cost ≤ 60 := by omega
          simp [this]
        go_wp2
        go_roundw
        case rel => exact ⟨j + 1, by omega, by go_num, HB3, HN⟩
        case measure => simp [intOf]; omega
      · have HN : Hid (smallB es = false) := by
          show _ = _
          rw [HST.out]
          have h1 := HV.out
          unfold Costs at h1
          have : ¬ e.cost ≤ 60 := by omega
          simp [this]
        go_wp2
        go_ret
        exact NamePost.intro HN.out.symm HB3.out
    · have HN : Hid (smallB es = true) := by show _ = _; rw [HI.out, List.drop_eq_nil_of_le (by have := HL.out; omega)]; rfl
      go_wp2_with fail
      go_ret
      exact NamePost.intro HN.out.symm HB.out
end Go.Proofs.YtmikjhohnfcedaaGreatDoor

namespace Go.Proofs.YtmikjhohnfcedaaGreatDoor
set_option linter.unusedSimpArgs false
set_option linter.unusedVariables false
open Go.RowKit
set_option linter.unusedSimpArgs false
set_option linter.unusedVariables false

mutual
theorem Tree.sz_cost : ∀ t : Tree, t.sz ≤ t.cost
  | .node _ _ _ ks => by have := szL_cost ks; simp only [Tree.sz, Tree.cost]; omega
theorem szL_cost : ∀ ts : List Tree, szL ts ≤ costL ts
  | [] => Nat.le_refl _
  | t :: ts => by have := t.sz_cost; have := szL_cost ts; simp only [szL, costL]; omega
end
mutual
theorem Tree.short_cost : ∀ (t : Tree) (m L : Nat), t.cost ≤ m → 8 * m ≤ L → t.short L
  | .node _ s _ ks, m, L, h, hL => by
    simp only [Tree.cost] at h
    refine ⟨by omega, shortL_cost ks m L (by omega) hL⟩
theorem shortL_cost : ∀ (ts : List Tree) (m L : Nat), costL ts ≤ m → 8 * m ≤ L → shortL L ts
  | [], _, _, _, _ => trivial
  | t :: ts, m, L, h, hL => by
    simp only [costL] at h
    exact ⟨t.short_cost m L (by omega) hL, shortL_cost ts m L (by omega) hL⟩
end
/-- An edit with parts of small sizes. -/
structure Edt.tiny (e : Edt) : Prop where
  path : e.path.length ≤ 60
  texts : e.frm.length + e.to_.length ≤ 1000
  olds : costL e.olds ≤ 60
  news : costL e.news ≤ 60
theorem Edt.tiny_of {e : Edt} (h : e.cost ≤ 60) : e.tiny := by
  unfold Edt.cost at h
  exact ⟨by omega, by omega, by omega, by omega⟩
theorem tiny_olds {e : Edt} (h : e.tiny) : szL e.olds ≤ 60 := Nat.le_trans (szL_cost _) h.olds
theorem tiny_news {e : Edt} (h : e.tiny) : szL e.news ≤ 60 := Nat.le_trans (szL_cost _) h.news
theorem tiny_sho {e : Edt} (h : e.tiny) {L : Nat} (hL : 480 ≤ L) : shortL L e.olds := shortL_cost _ 60 L h.olds hL
theorem tiny_shn {e : Edt} (h : e.tiny) {L : Nat} (hL : 480 ≤ L) : shortL L e.news := shortL_cost _ 60 L h.news hL
theorem tiny_with {e : Edt} (h : e.tiny) (p : List Int) (i : Int) (hp : p.length = e.path.length) : Edt.tiny { e with path := p, at_ := i } :=
  ⟨by show p.length ≤ 60; rw [hp]; exact h.path, h.texts, h.olds, h.news⟩
theorem tiny_invert {e : Edt} (h : e.tiny) : (invertE e).tiny := by
  unfold invertE
  obtain ⟨h1, h2, h3, h4⟩ := h
  split
  · exact ⟨by decide, by decide, by decide, by decide⟩
  · split
    · exact ⟨h1, by show e.to_.length + e.frm.length ≤ 1000; omega, h3, h4⟩
    · exact ⟨h1, by show e.to_.length + e.frm.length ≤ 1000; omega, h4, h3⟩
theorem tiny_swapped {p q a b : Edt} (hp : p.tiny) (hq : q.tiny) (h : swapped p q = some (a, b)) : a.tiny ∧ b.tiny := by
  unfold swapped at h
  split at h
  · split at h
    · injection h with h; injection h with h1 h2; subst h1 h2
      exact ⟨tiny_with hq _ _ rfl, tiny_with hp _ _ rfl⟩
    · cases h
  · split at h
    · cases h
    · rename_i x hx
      split at h
      · cases h
      · rename_i y hy
        injection h with h; injection h with h1 h2; subst h1 h2
        exact ⟨tiny_with hq _ _ (pastE_len hx), tiny_with hp _ _ (pastE_len hy)⟩
theorem tiny_commute {p q a b : Edt} (hp : p.tiny) (hq : q.tiny) (h : commuteE p q = .ok (a, b)) : a.tiny ∧ b.tiny := by
  unfold commuteE at h
  split at h
  · cases h
  split at h
  · cases h
  split at h
  · cases h
  · rename_i a' b' hs
    split at h
    · injection h with h; injection h with h1 h2; subst h1 h2
      exact tiny_swapped hp hq hs
    · cases h
theorem small_two {p q : Edt} (h : smallB [p, q] = true) : p.tiny ∧ q.tiny := by
  simp [smallB] at h
  exact ⟨Edt.tiny_of h.1, Edt.tiny_of h.2⟩
mutual
theorem Tree.names_len : ∀ t : Tree, t.names.length ≤ t.sz
  | .node k s _ ks => by
    have := namesL_len ks
    simp only [Tree.names, Tree.sz, List.length_append]
    split <;> simp <;> omega
theorem namesL_len : ∀ ts : List Tree, (namesL ts).length ≤ szL ts
  | [] => Nat.le_refl _
  | t :: ts => by have := t.names_len; have := namesL_len ts; simp only [namesL, szL, List.length_append]; omega
end
mutual
theorem Tree.binds_len : ∀ t : Tree, t.binds.length ≤ t.sz
  | .node k s _ ks => by
    have := bindsL_len ks
    simp only [Tree.binds, Tree.sz, List.length_append]
    split <;> simp <;> omega
theorem bindsL_len : ∀ ts : List Tree, (bindsL ts).length ≤ szL ts
  | [] => Nat.le_refl _
  | t :: ts => by have := t.binds_len; have := bindsL_len ts; simp only [bindsL, szL, List.length_append]; omega
end
theorem sz_append (a b : List Tree) : szL (a ++ b) = szL a + szL b := by
  induction a with
  | nil => simp [szL]
  | cons t ts ih => simp [szL, ih]; omega
theorem names_append (a b : List Tree) : namesL (a ++ b) = namesL a ++ namesL b := by
  induction a with
  | nil => simp [namesL]
  | cons t ts ih => simp [namesL, ih]
theorem binds_append (a b : List Tree) : bindsL (a ++ b) = bindsL a ++ bindsL b := by
  induction a with
  | nil => simp [bindsL]
  | cons t ts ih => simp [bindsL, ih]
theorem calls_append (a b : List Tree) : callsL (a ++ b) = (callsL a || callsL b) := by
  induction a with
  | nil => simp [callsL]
  | cons t ts ih => simp [callsL, ih, Bool.or_assoc]
theorem short_append {L : Nat} {a b : List Tree} (ha : shortL L a) (hb : shortL L b) : shortL L (a ++ b) := by
  induction a with
  | nil => exact hb
  | cons t ts ih => exact ⟨ha.1, ih ha.2⟩
end Go.Proofs.YtmikjhohnfcedaaGreatDoor

namespace Go.Proofs.YtmikjhohnfcedaaGreatDoor
set_option linter.unusedSimpArgs false
set_option linter.unusedVariables false
open Go.RowKit
set_option linter.unusedSimpArgs false

/-- The world with the blocks below `B` blotted out. -/
def sinceW (w : World) (B : Nat) : World := { w with heap := w.heap.mapIdx fun i o => if i < B then Obj.cells #[] 0 else o }
theorem since_cell {w : World} {B : Nat} {a : Addr} {v : Value} : (sinceW w B).cell? a = some v ↔ B ≤ a.block ∧ w.cell? a = some v := by
  unfold World.cell? sinceW
  simp only [Array.getElem?_mapIdx]
  cases h : w.heap[a.block]? with
  | none => simp
  | some o =>
    by_cases hb : a.block < B
    · simp only [Option.map_some, hb, if_true]
      constructor
      · intro e; split at e <;> simp at e
      · rintro ⟨h1, _⟩; omega
    · simp only [Option.map_some, hb, if_false]
      constructor
      · intro e; exact ⟨by omega, e⟩
      · rintro ⟨_, e⟩; exact e
def FreshK (w : World) (B : Nat) (ks : List Tree) (A : Option Addr) (n c : Nat) : Prop := KidsAt (sinceW w B) ks A n c
theorem FreshK.kids {w : World} {B : Nat} {ks : List Tree} {A : Option Addr} {n c : Nat} (h : FreshK w B ks A n c) : KidsAt w ks A n c := KidsAt.keep (fun _ _ h => (since_cell.1 h).2) h
theorem FreshK.keep {w w' : World} {B B' : Nat} {ks : List Tree} {A : Option Addr} {n c : Nat} (h : FreshK w B ks A n c) (hB : B' ≤ B) (hk : ∀ a v, B ≤ a.block → w.cell? a = some v → w'.cell? a = some v) : FreshK w' B' ks A n c :=
  KidsAt.keep (fun _ _ h => by obtain ⟨h1, h2⟩ := since_cell.1 h; exact since_cell.2 ⟨by omega, hk _ _ h1 h2⟩) h
theorem TreeAt.of {w : World} {t : Tree} {b o : Nat} {A : Option Addr} {c : Nat} (h0 : w.cell? ⟨b, o, none⟩ = some (.int .u8 t.kind)) (h1 : w.cell? ⟨b, o + 1, none⟩ = some (.string (sb t.text))) (h2 : w.cell? ⟨b, o + 2, none⟩ = some (.int .i64 t.num)) (h3 : w.cell? ⟨b, o + 3, none⟩ = some (.slice A t.kids.length c))
    (hk : KidsAt w t.kids A t.kids.length c) (b1 : t.kind ≤ 255) (b2 : t.text.length ≤ maxLen) (b3 : fitsI t.num) : TreeAt w t b o := by
  obtain ⟨k, s, x, ks⟩ := t
  obtain ⟨_, k2, k3, k4⟩ := hk
  exact ⟨h0, h1, h2, b1, b2, b3, A, c, h3, k2, k3, k4⟩
theorem TreeAt.parts {w : World} {t : Tree} {b o : Nat} (h : TreeAt w t b o) : ∃ A c, w.cell? ⟨b, o, none⟩ = some (.int .u8 t.kind) ∧ w.cell? ⟨b, o + 1, none⟩ = some (.string (sb t.text)) ∧ w.cell? ⟨b, o + 2, none⟩ = some (.int .i64 t.num) ∧ w.cell? ⟨b, o + 3, none⟩ = some (.slice A t.kids.length c) ∧
    KidsAt w t.kids A t.kids.length c ∧ t.kind ≤ 255 ∧ t.text.length ≤ maxLen ∧ fitsI t.num := by
  obtain ⟨k, s, x, ks⟩ := t
  obtain ⟨h0, h1, h2, b1, b2, b3, A, c, h3, k2, k3, k4⟩ := h
  exact ⟨A, c, h0, h1, h2, h3, ⟨rfl, k2, k3, k4⟩, b1, b2, b3⟩
/-- The cells of a row, as the world has them. -/
def cellsOf (w : World) (b o m : Nat) : List Value := (List.range m).map fun i => (w.cell? ⟨b, o + i, none⟩).getD undef
theorem cellsOf_len (w : World) (b o m : Nat) : (cellsOf w b o m).length = m := by simp [cellsOf]
theorem row_cell {w : World} {ks : List Tree} {b o : Nat} (h : RowAt w ks b o) {j : Nat} (hj : j < ks.length * 4) : ∃ v, w.cell? ⟨b, o + j, none⟩ = some v ∧ v.oneCell' = true := by
  have hi : j / 4 < ks.length := by omega
  obtain ⟨A, c, h0, h1, h2, h3, _⟩ := (h.get (List.getElem?_eq_getElem hi)).parts
  have hj4 : j = j / 4 * 4 + j % 4 := by omega
  have hr : j % 4 = 0 ∨ j % 4 = 1 ∨ j % 4 = 2 ∨ j % 4 = 3 := by omega
  rcases hr with e | e | e | e <;> rw [e] at hj4 <;> rw [hj4]
  · exact ⟨_, h0, rfl⟩
  · exact ⟨_, h1, rfl⟩
  · exact ⟨_, h2, rfl⟩
  · exact ⟨_, h3, rfl⟩
theorem cellsOf_get {w : World} {ks : List Tree} {b o : Nat} (h : RowAt w ks b o) {j : Nat} {u : Value} (hu : (cellsOf w b o (ks.length * 4))[j]? = some u) : w.cell? ⟨b, o + j, none⟩ = some u := by
  have hj : j < ks.length * 4 := by have := (List.getElem?_eq_some_iff.1 hu).1; simpa [cellsOf] using this
  obtain ⟨v, hv, _⟩ := row_cell h hj
  simp [cellsOf, hj, hv] at hu
  rw [hv, hu]
theorem cellsOf_one {w : World} {ks : List Tree} {b o : Nat} (h : RowAt w ks b o) : ∀ u ∈ cellsOf w b o (ks.length * 4), u.oneCell' = true := by
  intro u hu
  obtain ⟨j, hj, e⟩ := List.mem_iff_getElem.1 hu
  have hj' : j < ks.length * 4 := by simpa [cellsOf] using hj
  obtain ⟨v, hv, h1⟩ := row_cell h hj'
  have : (cellsOf w b o (ks.length * 4))[j]? = some u := by rw [List.getElem?_eq_getElem hj, e]
  have h2 := cellsOf_get h this
  rw [hv] at h2
  injection h2 with h2
  rw [← h2]; exact h1
end Go.Proofs.YtmikjhohnfcedaaGreatDoor

namespace Go.Proofs.YtmikjhohnfcedaaGreatDoor
set_option linter.unusedSimpArgs false
set_option linter.unusedVariables false
open Go.RowKit
set_option linter.unusedSimpArgs false

theorem Tryz.infoNode : (Tryz.prog.info? 40).map (fun i => (i.zero, i.size, i.bytes)) = some (some (.agg #[.int .u8 0, .string ⟨#[]⟩, .int .i64 0, .slice none 0 0]), 4, 56) := by kernel_rfl
/-- What a clone leaves: the same elements in a block of its own. -/
def ClonePost (ks : List Tree) (n : Nat) (w0 w : World) (e : Ending) (w' : World) : Prop :=
  ∃ A c, e = .returned (.slice A n c) ∧ Below w.heap.size w w' ∧ n ≤ c ∧ c ≤ maxLen ∧ (ks = [] ∨ ∃ g, A = some ⟨g, 0, none⟩ ∧ w.heap.size ≤ g ∧ g < w'.heap.size ∧ (∀ j, w'.frozen? ⟨g, j, none⟩ = false) ∧
    ∀ i t, ks[i]? = some t → ∃ A c, w'.cell? ⟨g, i * 4, none⟩ = some (.int .u8 t.kind) ∧ w'.cell? ⟨g, i * 4 + 1, none⟩ = some (.string (sb t.text)) ∧ w'.cell? ⟨g, i * 4 + 2, none⟩ = some (.int .i64 t.num) ∧ w'.cell? ⟨g, i * 4 + 3, none⟩ = some (.slice A t.kids.length c) ∧ KidsAt w0 t.kids A t.kids.length c ∧ t.kind ≤ 255 ∧ t.text.length ≤ maxLen ∧ fitsI t.num)
theorem cellsOf_at {w : World} {b o m j : Nat} {v : Value} (hj : j < m) (h : w.cell? ⟨b, o + j, none⟩ = some v) : (cellsOf w b o m)[j]? = some v := by simp [cellsOf, hj, h]
theorem own_soft4 {w : World} {base : Nat} {e : TypeId} {size g n cap : Nat} {xs : List Value} (h : w.ownsRow base e size (.slice (some ⟨g, 0, none⟩) n cap) n xs) (j : Nat) : w.frozen? ⟨g, j, none⟩ = false := by
  rcases h.2 with ⟨hv, _⟩ | ⟨g', cap', cur, hv, hg, hh, _⟩
  · cases hv
  · injection hv with e1 e2 e3
    injection e1 with e1
    injection e1 with e1
    subst e1
    simp [World.frozen?, hh]
set_option maxRecDepth 100000 in
set_option maxHeartbeats 2000000 in
theorem p_clone_nodes (ks : List Tree) (A : Option Addr) (n c : Nat) (w0 w : World) (h0' : KidsAt w0 ks A n c) (hb0 : Below w0.heap.size w0 w) (hbig : n ≤ 1000000000) :
    Calls Tryz.prog 114 #[.slice A n c] w (ClonePost ks n w0 w) := by
  have HB0 := Lib.hid hb0
  have HK0 := Lib.hid h0'
  obtain ⟨hl, h2, h3, h4⟩ := h0'.below hb0
  clear h0' hb0
  obtain ⟨i0, hi, hz0, hz1, hz2⟩ := info_parts Tryz.infoNode
  have q22 : ∀ (w : World) (a : Option Addr) (n c n' c' : Nat), (binOp .eql 24 (.slice a n c) (.slice none n' c')).run Tryz.prog w = .ok (.bool a.isNone) w := fun w a n c n' c' => Lib.run_eql_slice_nil w _ _ a n c n' c' Tryz.underlying24
  cases A with
  | none =>
    have hks : ks = [] := by rcases h4 with e | ⟨b, o, e, _⟩; exact e; cases e
    subst hks
    have HN0 : Hid (n = 0) := hl
    clear h2 h3 h4 hbig hl hi hz0 hz1 hz2
    go_enter Tryz.func114, Tryz.ntmps114
    go_wp2
    go_ret
    exact ⟨none, 0, by rw [HN0.out]; rfl, Below.refl _ _, by rw [HN0.out]; exact Nat.zero_le _, Nat.zero_le _, .inl rfl⟩
  | some ad =>
    have hrow : ks = [] ∨ ∃ b o, ad = ⟨b, o, none⟩ ∧ RowAt w ks b o := by
      rcases h4 with e | ⟨b, o, e, hr⟩
      · exact .inl e
      · injection e with e; exact .inr ⟨b, o, e, hr⟩
    have HR := Lib.hid hrow
    have HLN : Hid (n = ks.length) := hl
    clear h4 hrow hl
    have HX : Hid (∃ news : List Value, news.length = n * 4 ∧ (∀ j u, news[j]? = some u → w.cell? (ad.add j) = some u) ∧ (∀ u ∈ news, u.oneCell' = true) ∧ (ks ≠ [] → ∃ b o, ad = ⟨b, o, none⟩ ∧ RowAt w ks b o ∧ news = cellsOf w b o (ks.length * 4))) := by
      rcases HR.out with rfl | ⟨b, o, rfl, hr⟩
      · have := HLN.out; simp at this; subst this; exact ⟨[], rfl, by simp, by simp, fun e => absurd rfl e⟩
      · refine ⟨cellsOf w b o (ks.length * 4), by rw [cellsOf_len, HLN.out], fun j u hu => ?_, cellsOf_one hr, fun _ => ⟨b, o, rfl, hr, rfl⟩⟩
        rw [add_mid]; exact cellsOf_get hr hu
    obtain ⟨news, x1, x2, x3, x4⟩ := HX.out
    have X4 := Lib.hid x4
    have X2 := Lib.hid x2
    have X3 := Lib.hid x3
    clear x2 x3 x4
    go_enter Tryz.func114, Tryz.ntmps114
    go_wp2_with (at_builtin; refine wpList_append_own _ rfl _ _ 24 rfl w.heap.size 40 i0 _ 4 56 Tryz.underlying24 hi hz0 hz1 hz2 rfl (by decide) _ _ _ rfl (World.ownsRow_made w #[] 0 (Nat.le_refl _) (Nat.zero_le _) rfl) ad n c news rfl (by simpa using x1) ?qc2 X3.out ?qc4 ?qc5 ?qc6 ?_)
    case qc2 =>
      intro j u hj
      exact Lib.cell?_alloc_some _ (X2.out j u hj)
    case qc4 => unfold maxLen; omega
    case qc5 => omega
    case qc6 => simp
    intro v' w1 hown hgrow hnil
    have HO := Lib.hid hown
    have HG := Lib.hid hgrow
    clear hown hgrow hnil
    go_wp2
    go_ret
    have hb : Below w.heap.size w w1 := ((Below.refl _ w).alloc (Nat.le_refl _) _).grown HG.out (by simp) (by intro k hk; simp [Value.ownBlock] at hk; omega)
    obtain ⟨A', c', rfl, k1, k2⟩ := own_form HO.out
    by_cases h0 : ks = []
    · exact ⟨A', c', by simp, hb, by omega, k2, .inl h0⟩
    · obtain ⟨b, o, rfl, hr, hnews⟩ := X4.out h0
      have hpos : 0 < n := by rw [HLN.out]; exact List.length_pos_iff.2 h0
      obtain ⟨g, cap, e, hg⟩ := HO.out.form (by omega)
      injection e with e1 e2 e3
      subst e1 e3
      have hlt := HO.out.lt g rfl
      refine ⟨_, _, by simp, hb, by omega, k2, .inr ⟨g, rfl, hlt.1, hlt.2, own_soft4 (by simpa using HO.out), fun i t ht => ?_⟩⟩
      have hr0 : RowAt w0 ks b o := by
        rcases HK0.out.2.2.2 with e | ⟨b', o', e, hr'⟩
        · exact absurd e h0
        · injection e with e; injection e with e1 e2; subst e1 e2; exact hr'
      obtain ⟨A2, c2, t0, t1, t2, t3, t4, t5, t6, t7⟩ := (hr0.get ht).parts
      replace t0 := cell_below HB0.out t0
      replace t1 := cell_below HB0.out t1
      replace t2 := cell_below HB0.out t2
      replace t3 := cell_below HB0.out t3
      have hi4 : i < ks.length := (List.getElem?_eq_some_iff.1 ht).1
      have hcs : ∀ j u, (cellsOf w b o (ks.length * 4))[j]? = some u → w1.cell? ⟨g, j, none⟩ = some u := by
        intro j u hu
        refine own_cells (by simpa using HO.out) j u ?_
        rw [hnews]; simpa using hu
      exact ⟨A2, c2, hcs _ _ (cellsOf_at (by omega) t0), hcs _ _ (cellsOf_at (by omega) (by rw [← Nat.add_assoc]; exact t1)), hcs _ _ (cellsOf_at (by omega) (by rw [← Nat.add_assoc]; exact t2)), hcs _ _ (cellsOf_at (by omega) (by rw [← Nat.add_assoc]; exact t3)), t4, t5, t6, t7⟩
end Go.Proofs.YtmikjhohnfcedaaGreatDoor

namespace Go.Proofs.YtmikjhohnfcedaaGreatDoor
set_option linter.unusedSimpArgs false
set_option linter.unusedVariables false
open Go.RowKit
set_option linter.unusedSimpArgs false

def CopyPost (ks : List Tree) (k : Nat) (s : ByteArray) (x : Int) (n : Nat) (w : World) (e : Ending) (w' : World) : Prop :=
  ∃ A c, e = .returned (.agg #[.int .u8 k, .string s, .int .i64 x, .slice A n c]) ∧ FreshK w' w.heap.size ks A n c ∧ Below w.heap.size w w'
def CopyC (m : Nat) : Prop := ∀ (t : Tree) (k : Nat) (s : ByteArray) (x : Int) (A : Option Addr) (n c : Nat) (w : World), t.sz ≤ m → NodeIs w t k s x A n c →
  Calls Tryz.prog 98 #[.agg #[.int .u8 k, .string s, .int .i64 x, .slice A n c]] w (CopyPost t.kids k s x n w)
theorem sz_pos (t : Tree) : 1 ≤ t.sz := by cases t; simp [Tree.sz]
theorem len_sz : ∀ ks : List Tree, ks.length ≤ szL ks
  | [] => by simp
  | t :: ts => by have := len_sz ts; have h := sz_pos t; simp [szL]; omega
theorem frozen_below {B : Nat} {w w' : World} (hb : Below B w w') {a : Addr} (h : a.block < B) : w'.frozen? a = w.frozen? a := by
  unfold World.frozen?; rw [hb.block _ h]
/-- The rows half way: the first `j` elements are copied. -/
structure Mid (w wr : World) (g j : Nat) (ks : List Tree) : Prop where
  lo : w.heap.size + 2 ≤ g
  hi : g < wr.heap.size
  soft : ∀ j, wr.frozen? ⟨g, j, none⟩ = false
  at_ : ∀ i t, ks[i]? = some t → ∃ A c, wr.cell? ⟨g, i * 4, none⟩ = some (.int .u8 t.kind) ∧ wr.cell? ⟨g, i * 4 + 1, none⟩ = some (.string (sb t.text)) ∧ wr.cell? ⟨g, i * 4 + 2, none⟩ = some (.int .i64 t.num) ∧ wr.cell? ⟨g, i * 4 + 3, none⟩ = some (.slice A t.kids.length c) ∧
    (i < j → FreshK wr (g + 1) t.kids A t.kids.length c) ∧ (j ≤ i → KidsAt w t.kids A t.kids.length c) ∧ t.kind ≤ 255 ∧ t.text.length ≤ maxLen ∧ fitsI t.num
theorem Mid.done {w wr : World} {g : Nat} {ks : List Tree} {n c : Nat} (h : Mid w wr g ks.length ks) (hn : n = ks.length) (h1 : n ≤ c) (h2 : c ≤ maxLen) : FreshK wr g ks (some ⟨g, 0, none⟩) n c := by
  refine ⟨hn, h1, h2, .inr ⟨g, 0, rfl, RowAt.mk fun i t ht => ?_⟩⟩
  obtain ⟨A, c, t0, t1, t2, t3, t4, _, t5, t6, t7⟩ := h.at_ i t ht
  have hg := h.lo
  have hs : ∀ {a : Addr} {v : Value}, a.block = g → wr.cell? a = some v → (sinceW wr g).cell? a = some v := fun e h => since_cell.2 ⟨by omega, h⟩
  rw [Nat.zero_add]
  exact TreeAt.of (hs rfl t0) (hs rfl t1) (hs rfl t2) (hs rfl t3) (FreshK.keep (t4 (List.getElem?_eq_some_iff.1 ht).1) (by omega) fun _ _ _ h => h) t5 t6 t7
structure BoxF4 (w : World) (b : Nat) (x y z u : Value) : Prop where
  c0 : w.cell? ⟨b, 0, none⟩ = some x
  c1 : w.cell? ⟨b, 1, none⟩ = some y
  c2 : w.cell? ⟨b, 2, none⟩ = some z
  c3 : w.cell? ⟨b, 3, none⟩ = some u
  f0 : w.frozen? ⟨b, 0, none⟩ = false
  f1 : w.frozen? ⟨b, 1, none⟩ = false
  f2 : w.frozen? ⟨b, 2, none⟩ = false
  f3 : w.frozen? ⟨b, 3, none⟩ = false
theorem boxF4 {w : World} {b : Nat} {x y z u : Value} {T : TypeId} (h : w.heap[b]? = some (.cells #[x, y, z, u] T (0, 0))) : BoxF4 w b x y z u := by
  have hc := fun j => cell_of_row w b j _ T (0, 0) h
  refine ⟨by rw [hc]; rfl, by rw [hc]; rfl, by rw [hc]; rfl, by rw [hc]; rfl, ?_, ?_, ?_, ?_⟩ <;> simp [World.frozen?, h]
theorem set_other {w : World} {g p : Nat} {u : Value} {a : Addr} {v : Value} (hne : a ≠ ⟨g, p, none⟩) (h : w.cell? a = some v) : (w.setCell ⟨g, p, none⟩ u).cell? a = some v := by
  rw [World.cell?_setCell_other _ _ _ _ (fun e => hne e.symm)]; exact h
theorem set_self {w : World} {g p : Nat} {u v : Value} (h : w.cell? ⟨g, p, none⟩ = some v) : (w.setCell ⟨g, p, none⟩ u).cell? ⟨g, p, none⟩ = some u := by
  exact World.cell?_setCell_same _ _ _ h
theorem Mid.next {w wr w3 : World} {g j : Nat} {ks : List Tree} {t : Tree} {A3 : Option Addr} {k3 : Nat} (h : Mid w wr g j ks) (ht : ks[j]? = some t) (hq : Below wr.heap.size wr w3) (hf : FreshK w3 wr.heap.size t.kids A3 t.kids.length k3) :
    Mid w ((((w3.setCell ⟨g, j * 4, none⟩ (.int .u8 t.kind)).setCell ⟨g, j * 4 + 1, none⟩ (.string (sb t.text))).setCell ⟨g, j * 4 + 2, none⟩ (.int .i64 t.num)).setCell ⟨g, j * 4 + 3, none⟩ (.slice A3 t.kids.length k3)) g (j + 1) ks := by
  have hg := h.hi
  have hfar : ∀ a v, a.block ≠ g → w3.cell? a = some v → ((((w3.setCell ⟨g, j * 4, none⟩ (.int .u8 t.kind)).setCell ⟨g, j * 4 + 1, none⟩ (.string (sb t.text))).setCell ⟨g, j * 4 + 2, none⟩ (.int .i64 t.num)).setCell ⟨g, j * 4 + 3, none⟩ (.slice A3 t.kids.length k3)).cell? a = some v := by
    intro a v hne hc
    have hn : ∀ p, a ≠ ⟨g, p, none⟩ := fun p e => hne (by rw [e])
    exact set_other (hn _) (set_other (hn _) (set_other (hn _) (set_other (hn _) hc)))
  have hoff : ∀ p v, p ≠ j * 4 → p ≠ j * 4 + 1 → p ≠ j * 4 + 2 → p ≠ j * 4 + 3 → w3.cell? ⟨g, p, none⟩ = some v → ((((w3.setCell ⟨g, j * 4, none⟩ (.int .u8 t.kind)).setCell ⟨g, j * 4 + 1, none⟩ (.string (sb t.text))).setCell ⟨g, j * 4 + 2, none⟩ (.int .i64 t.num)).setCell ⟨g, j * 4 + 3, none⟩ (.slice A3 t.kids.length k3)).cell? ⟨g, p, none⟩ = some v := by
    intro p v h0 h1 h2 h3 hc
    have hn : ∀ q, p ≠ q → (⟨g, p, none⟩ : Addr) ≠ ⟨g, q, none⟩ := fun q hq e => hq (by injection e)
    exact set_other (hn _ h3) (set_other (hn _ h2) (set_other (hn _ h1) (set_other (hn _ h0) hc)))
  refine ⟨h.lo, ?_, fun i => ?_, fun i t' ht' => ?_⟩
  · have := hq.size; simp; omega
  · simp only [World.frozen?_setCell]
    exact (frozen_below (a := ⟨g, i, none⟩) hq hg).trans (h.soft i)
  · obtain ⟨A, c, t0, t1, t2, t3, t4, t5, t6, t7, t8⟩ := h.at_ i t' ht'
    by_cases hij : i = j
    · subst hij
      rw [ht] at ht'
      injection ht' with ht'
      subst ht'
      have hn : ∀ p q, p ≠ q → (⟨g, p, none⟩ : Addr) ≠ ⟨g, q, none⟩ := fun p q hq e => hq (by injection e)
      refine ⟨A3, k3, ?_, ?_, ?_, ?_, fun _ => ?_, fun hh => absurd hh (by omega), t6, t7, t8⟩
      · exact set_other (hn _ _ (by omega)) (set_other (hn _ _ (by omega)) (set_other (hn _ _ (by omega)) (set_self (cell_below hq t0))))
      · exact set_other (hn _ _ (by omega)) (set_other (hn _ _ (by omega)) (set_self (set_other (hn _ _ (by omega)) (cell_below hq t1))))
      · exact set_other (hn _ _ (by omega)) (set_self (set_other (hn _ _ (by omega)) (set_other (hn _ _ (by omega)) (cell_below hq t2))))
      · exact set_self (set_other (hn _ _ (by omega)) (set_other (hn _ _ (by omega)) (set_other (hn _ _ (by omega)) (cell_below hq t3))))
      · exact hf.keep (by omega) fun a v ha hc => hfar a v (by omega) hc
    · refine ⟨A, c, hoff _ _ (by omega) (by omega) (by omega) (by omega) (cell_below hq t0), hoff _ _ (by omega) (by omega) (by omega) (by omega) (cell_below hq t1), hoff _ _ (by omega) (by omega) (by omega) (by omega) (cell_below hq t2), hoff _ _ (by omega) (by omega) (by omega) (by omega) (cell_below hq t3), fun hh => ?_, fun hh => t5 (by omega), t6, t7, t8⟩
      exact (t4 (by omega)).keep (Nat.le_refl _) fun a v ha hc => hfar a v (by omega) (cell_below hq hc)
theorem put4_heap {w : World} {b g : Nat} {o : Obj} {v0 v1 v2 v3 : Value} (h : w.heap[b]? = some o) (hne : b ≠ g) (p0 p1 p2 p3 : Nat) : ((((w.setCell ⟨g, p0, none⟩ v0).setCell ⟨g, p1, none⟩ v1).setCell ⟨g, p2, none⟩ v2).setCell ⟨g, p3, none⟩ v3).heap[b]? = some o := by
  rw [Below.heap_setCell _ _ _ _ hne, Below.heap_setCell _ _ _ _ hne, Below.heap_setCell _ _ _ _ hne, Below.heap_setCell _ _ _ _ hne]
  exact h
theorem put4_cells {w : World} {g : Nat} {v0 v1 v2 v3 x y z u : Value} (h0 : w.cell? ⟨g, 0, none⟩ = some x) (h1 : w.cell? ⟨g, 1, none⟩ = some y) (h2 : w.cell? ⟨g, 2, none⟩ = some z) (h3 : w.cell? ⟨g, 3, none⟩ = some u) :
    ((((w.setCell ⟨g, 0, none⟩ v0).setCell ⟨g, 1, none⟩ v1).setCell ⟨g, 2, none⟩ v2).setCell ⟨g, 3, none⟩ v3).cell? ⟨g, 0, none⟩ = some v0 ∧ ((((w.setCell ⟨g, 0, none⟩ v0).setCell ⟨g, 1, none⟩ v1).setCell ⟨g, 2, none⟩ v2).setCell ⟨g, 3, none⟩ v3).cell? ⟨g, 1, none⟩ = some v1 ∧
    ((((w.setCell ⟨g, 0, none⟩ v0).setCell ⟨g, 1, none⟩ v1).setCell ⟨g, 2, none⟩ v2).setCell ⟨g, 3, none⟩ v3).cell? ⟨g, 2, none⟩ = some v2 ∧ ((((w.setCell ⟨g, 0, none⟩ v0).setCell ⟨g, 1, none⟩ v1).setCell ⟨g, 2, none⟩ v2).setCell ⟨g, 3, none⟩ v3).cell? ⟨g, 3, none⟩ = some v3 := by
  have hn : ∀ p q, p ≠ q → (⟨g, p, none⟩ : Addr) ≠ ⟨g, q, none⟩ := fun p q hq e => hq (by injection e)
  refine ⟨?_, ?_, ?_, ?_⟩
  · exact set_other (hn _ _ (by omega)) (set_other (hn _ _ (by omega)) (set_other (hn _ _ (by omega)) (set_self h0)))
  · exact set_other (hn _ _ (by omega)) (set_other (hn _ _ (by omega)) (set_self (set_other (hn _ _ (by omega)) h1)))
  · exact set_other (hn _ _ (by omega)) (set_self (set_other (hn _ _ (by omega)) (set_other (hn _ _ (by omega)) h2)))
  · exact set_self (set_other (hn _ _ (by omega)) (set_other (hn _ _ (by omega)) (set_other (hn _ _ (by omega)) h3)))
theorem after_copy {w wr w3 : World} {g j B : Nat} {ks : List Tree} {x y z u v0 v1 v2 v3 : Value} {T : TypeId} (hb3 : Below wr.heap.size (wr.drewN 1) w3) (HX : wr.heap[B]? = some (.cells #[x, y, z, u] T (0, 0))) (hm : Mid w wr g j ks)
    (t0 : wr.cell? ⟨g, j * 4, none⟩ = some v0) (t1 : wr.cell? ⟨g, j * 4 + 1, none⟩ = some v1) (t2 : wr.cell? ⟨g, j * 4 + 2, none⟩ = some v2) (t3 : wr.cell? ⟨g, j * 4 + 3, none⟩ = some v3) (hlB : B < wr.heap.size) :
    Hid (Below wr.heap.size wr w3) ∧ w3.cell? ⟨B, 0, none⟩ = some x ∧ w3.cell? ⟨B, 1, none⟩ = some y ∧ w3.cell? ⟨B, 2, none⟩ = some z ∧ w3.cell? ⟨B, 3, none⟩ = some u ∧
    w3.cell? ⟨g, j * 4, none⟩ = some v0 ∧ w3.cell? ⟨g, j * 4 + 1, none⟩ = some v1 ∧ w3.cell? ⟨g, j * 4 + 2, none⟩ = some v2 ∧ w3.cell? ⟨g, j * 4 + 3, none⟩ = some v3 ∧
    w3.frozen? ⟨g, j * 4, none⟩ = false ∧ w3.frozen? ⟨g, j * 4 + 1, none⟩ = false ∧ w3.frozen? ⟨g, j * 4 + 2, none⟩ = false ∧ w3.frozen? ⟨g, j * 4 + 3, none⟩ = false := by
  have hq3 : Below wr.heap.size wr w3 := bthen (below_drews (Below.refl _ _) 1) hb3
  have hX3 := boxF4 ((hq3.block _ hlB).trans HX)
  have hz : ∀ i, w3.frozen? ⟨g, i, none⟩ = false := fun i => (frozen_below (a := ⟨g, i, none⟩) hq3 hm.hi).trans (hm.soft i)
  exact ⟨hq3, hX3.c0, hX3.c1, hX3.c2, hX3.c3, cell_below hq3 t0, cell_below hq3 t1, cell_below hq3 t2, cell_below hq3 t3, hz _, hz _, hz _, hz _⟩
set_option maxHeartbeats 2000000 in
theorem copied_step (m : Nat) (hm : m ≤ 1000000000) (ih : Hid (CopyC m)) : CopyC (m + 1) := by
  intro t k s x A n c w hsz hN
  obtain ⟨ks, rfl, hk255, hsm, hx, hK⟩ := hN
  have hb0 : Below w.heap.size w ((w.alloc (.cells #[.int .u8 k, .string s, .int .i64 x, .slice A n c] 40)).alloc (.cells #[.int .u8 0, .string ⟨#[]⟩, .int .i64 0, .slice none 0 0] 40)) := ((Below.refl _ _).alloc (Nat.le_refl _) _).alloc (by simp) _
  have HB0 := Lib.hid hb0
  have HK := Lib.hid (hK.below hb0)
  have HKW := Lib.hid hK
  have HSZ : Hid (szL ks ≤ m) := by show _ ≤ _; simp only [Tree.sz] at hsz; omega
  have HLN : Hid (n = ks.length) := hK.1
  have hnb : n ≤ 1000000000 := by have h1 := len_sz ks; have h2 := HSZ.out; have h3 := HLN.out; omega
  clear hsz hb0 hK
  go_enter Tryz.func98, Tryz.ntmps98
  go_wp2_with fail
  refine (p_clone_nodes ks _ _ _ w _ HKW.out HB0.out hnb).mono ?_
  rintro e w1 ⟨A1, c1, rfl, hb1, hn1, hc1, hcl⟩
  have HB1 := Lib.hid hb1
  have HCL := Lib.hid hcl
  clear hb1 hcl
  have hbox : w1.heap[w.heap.size]? = some (.cells #[.int .u8 k, .string s, .int .i64 x, .slice A n c] 40 (0, 0)) := (HB1.out.block _ (by simp; omega)).trans ((heap_alloc_old _ _ (by simp)).trans (heap_alloc_new _ _))
  have hres : w1.heap[w.heap.size + 1]? = some (.cells #[.int .u8 0, .string ⟨#[]⟩, .int .i64 0, .slice none 0 0] 40 (0, 0)) := (HB1.out.block _ (by simp)).trans (heap_alloc_at (by simp))
  have HBX := Lib.hid hbox
  have HRS := Lib.hid hres
  obtain ⟨c0, c1', c2, c3, f0, f1, f2, f3⟩ := boxF4 hbox
  clear hbox hres
  have HW1 : Hid (Below w.heap.size w w1) := HB0.out.trans (HB1.out.mono HB0.out.size)
  have HM : Hid (ks = [] ∨ ∃ g, A1 = some ⟨g, 0, none⟩ ∧ Mid w (w1.setCell ⟨w.heap.size, 3, none⟩ (.slice A1 n c1)) g 0 ks) := by
    rcases HCL.out with e | ⟨g, e, h1, h2, h3, h4⟩
    · exact .inl e
    · simp at h1
      refine .inr ⟨g, e, by omega, by simpa using h2, fun j => ?_, fun i t ht => ?_⟩
      · rw [World.frozen?_setCell]; exact h3 j
      · obtain ⟨A2, c2, t0, t1, t2, t3, t4, t5, t6, t7⟩ := h4 i t ht
        have hs : ∀ {a : Addr} {v : Value}, a.block = g → w1.cell? a = some v → (w1.setCell ⟨w.heap.size, 3, none⟩ (.slice A1 n c1)).cell? a = some v := fun e h => by
          rw [World.cell?_setCell_other _ _ _ _ (fun e' => by have e2 : w.heap.size = g := (congrArg Addr.block e').trans e; omega)]; exact h
        exact ⟨A2, c2, hs rfl t0, hs rfl t1, hs rfl t2, hs rfl t3, fun h => absurd h (by omega), fun _ => t4, t5, t6, t7⟩
  clear HCL
  have HX0 : Hid ((w1.setCell ⟨w.heap.size, 3, none⟩ (.slice A1 n c1)).heap[w.heap.size]? = some (.cells #[.int .u8 k, .string s, .int .i64 x, .slice A1 n c1] 40 (0, 0))) := by
    show _ = _
    have h := HBX.out
    simp [World.setCell, Array.getElem?_modify, h]
  have HR0 : Hid ((w1.setCell ⟨w.heap.size, 3, none⟩ (.slice A1 n c1)).heap[w.heap.size + 1]? = some (.cells #[.int .u8 0, .string ⟨#[]⟩, .int .i64 0, .slice none 0 0] 40 (0, 0))) := by
    show _ = _
    rw [Below.heap_setCell _ _ _ _ (by simp)]
    exact HRS.out
  go_wp2_with fail
  go_loopw [11] (fun i wr => ∃ j : Nat, j ≤ n ∧ i = .int .i64 j ∧ Hid (Below w.heap.size w wr) ∧ Hid (wr.heap[w.heap.size]? = some (.cells #[.int .u8 k, .string s, .int .i64 x, .slice A1 n c1] 40 (0, 0))) ∧ Hid (wr.heap[w.heap.size + 1]? = some (.cells #[.int .u8 0, .string ⟨#[]⟩, .int .i64 0, .slice none 0 0] 40 (0, 0))) ∧ Hid (ks = [] ∨ ∃ g, A1 = some ⟨g, 0, none⟩ ∧ Mid w wr g j ks)) (fun i _ => n - (intOf i).toNat)
  case atStart => exact ⟨0, Nat.zero_le _, rfl, HW1.out.setCell (Nat.le_refl _) _, HX0, HR0, HM⟩
  case round =>
    clear c0 c1' c2 c3 f0 f1 f2 f3 HM HX0 HR0
    obtain ⟨j, hj, rfl, HB, HX, HRR, HM⟩ := hrel
    by_cases hlt : j < n
    · obtain ⟨g, rfl, hmid⟩ := HM.out.resolve_left (fun e => by have := HLN.out; rw [e] at this; simp at this; omega)
      have HMD := Lib.hid hmid
      have HT : Hid (ks[j]? = some (ks[j]'(by have := HLN.out; omega))) := List.getElem?_eq_getElem _
      generalize (ks[j]'(by have := HLN.out; omega)) = t at HT
      obtain ⟨A2, k2, t0, t1, t2, t3, _, hk, b1, b2, b3⟩ := hmid.at_ j t HT.out
      have HND := Lib.hid (show NodeIs _ t t.kind (sb t.text) t.num A2 t.kids.length k2 from ⟨t.kids, by cases t; rfl, b1, b2, b3, (hk (Nat.le_refl _)).below HB.out⟩)
      have HST : Hid (t.sz ≤ m) := Nat.le_trans (sz_at HT.out) HSZ.out
      obtain ⟨c0, c1', c2, c3, f0, f1, f2, f3⟩ := boxF4 HX.out
      clear hk b1 b2 b3 hmid
      have hlB : w.heap.size < _ := cell_lt c0
      have hlR := Lib.hid (cell_lt (boxF4 HRR.out).c0)
      go_wp2_with fail
      go_region_with (go_at_call 98; refine (ih.out t _ _ _ _ _ _ _ HST.out (HND.out.below (below_drews (Below.refl _ _) 1))).mono ?_; rintro e w3 ⟨A3, k3, rfl, hf3, hb3⟩; obtain ⟨hq3, d0, d1, d2, d3, s0, s1, s2, s3, z0, z1, z2, z3⟩ := after_copy hb3 HX.out HMD.out t0 t1 t2 t3 hlB)
      all_goals
        have HM3 := Lib.hid (HMD.out.next HT.out hq3.out hf3)
        have HX3 := Lib.hid (put4_heap (v0 := .int .u8 t.kind) (v1 := .string (sb t.text)) (v2 := .int .i64 t.num) (v3 := .slice A3 t.kids.length k3) ((hq3.out.block _ hlB).trans HX.out) (show w.heap.size ≠ g by have := HMD.out.lo; omega) (j * 4) (j * 4 + 1) (j * 4 + 2) (j * 4 + 3))
        have HR3 := Lib.hid (put4_heap (v0 := .int .u8 t.kind) (v1 := .string (sb t.text)) (v2 := .int .i64 t.num) (v3 := .slice A3 t.kids.length k3) ((hq3.out.block _ hlR.out).trans HRR.out) (show w.heap.size + 1 ≠ g by have := HMD.out.lo; omega) (j * 4) (j * 4 + 1) (j * 4 + 2) (j * 4 + 3))
        have HB4 := Lib.hid (bthen HB.out hq3.out)
        have hgB : w.heap.size ≤ g := by have := HMD.out.lo; omega
        clear hf3 hb3 d0 d1 d2 d3 s0 s1 s2 s3 z0 z1 z2 z3
        go_wp2
        go_roundw
        case rel => exact ⟨j + 1, by omega, by go_num, (((HB4.out.setCell hgB _).setCell hgB _).setCell hgB _).setCell hgB _, HX3, HR3, .inr ⟨g, rfl, HM3.out⟩⟩
        case measure => simp [intOf]; omega
    · obtain ⟨c0, c1', c2, c3, f0, f1, f2, f3⟩ := boxF4 HX.out
      obtain ⟨r0, r1, r2, r3, g0, g1, g2, g3⟩ := boxF4 HRR.out
      go_wp2_with fail
      have HFK : Hid (FreshK ((((wr.setCell ⟨w.heap.size + 1, 0, none⟩ (.int .u8 k)).setCell ⟨w.heap.size + 1, 1, none⟩ (.string s)).setCell ⟨w.heap.size + 1, 2, none⟩ (.int .i64 x)).setCell ⟨w.heap.size + 1, 3, none⟩ (.slice A1 n c1)) w.heap.size ks A1 n c1) := by
        rcases HM.out with e | ⟨g, rfl, hmid⟩
        · have h := HLN.out
          subst e
          exact ⟨h, hn1, hc1, .inl rfl⟩
        · have hjn : j = ks.length := by have := HLN.out; omega
          subst hjn
          have hlo := hmid.lo
          refine FreshK.keep (hmid.done HLN.out hn1 hc1) (by omega) fun a v ha hc => ?_
          have hn : ∀ q, a ≠ ⟨w.heap.size + 1, q, none⟩ := fun q e => by rw [e] at ha; simp at ha; omega
          exact set_other (hn _) (set_other (hn _) (set_other (hn _) (set_other (hn _) hc)))
      obtain ⟨a0, a1, a2, a3⟩ := put4_cells (v0 := .int .u8 k) (v1 := .string s) (v2 := .int .i64 x) (v3 := .slice A1 n c1) r0 r1 r2 r3
      refine bodyPost_ret (v := .agg #[.int .u8 k, .string s, .int .i64 x, .slice A1 n c1]) (by simp [results, Tryz.results98, go_sem, a0, a1, a2, a3]) rfl ⟨A1, c1, rfl, HFK.out, (((HB.out.setCell (by simp) _).setCell (by simp) _).setCell (by simp) _).setCell (by simp) _⟩
theorem copied_all : ∀ m, m ≤ 1000000000 → CopyC m
  | 0, _ => by
    intro t k s x A n c w hsz
    obtain ⟨k0, s0, x0, ks0⟩ := t
    simp [Tree.sz] at hsz
  | m + 1, h => copied_step m (by omega) (Lib.hid (copied_all m (by omega)))
theorem p_copied (t : Tree) (k : Nat) (s : ByteArray) (x : Int) (A : Option Addr) (n c : Nat) (w : World) (hsz : t.sz ≤ 1000000) (hN : NodeIs w t k s x A n c) :
    Calls Tryz.prog 98 #[.agg #[.int .u8 k, .string s, .int .i64 x, .slice A n c]] w (CopyPost t.kids k s x n w) := copied_all 1000000 (by omega) t k s x A n c w hsz hN
end Go.Proofs.YtmikjhohnfcedaaGreatDoor

namespace Go.Proofs.YtmikjhohnfcedaaGreatDoor
set_option linter.unusedSimpArgs false
set_option linter.unusedVariables false
open Go.RowKit
set_option linter.unusedSimpArgs false

theorem p_find_nil (b : Nat) (w : World) : Calls Tryz.prog 97 #[.pointer (some ⟨b, 0, none⟩), .slice none 0 0] w fun e w' => e = .returned (.pointer (some ⟨b, 0, none⟩)) ∧ w = w' := by
  go_enter Tryz.func97, Tryz.ntmps97
  go_wp2_with fail
  go_loopw [0, 9] (fun p i wr => p = .pointer (some ⟨b, 0, none⟩) ∧ i = .int .i64 0 ∧ w = wr) (fun _ _ _ => 0)
  case atStart => exact ⟨rfl, rfl, rfl⟩
  case round =>
    obtain ⟨rfl, rfl, rfl⟩ := hrel
    go_wp2
    go_ret
    exact ⟨rfl, rfl⟩
def GetPost (ks : List Tree) (k : Nat) (s : ByteArray) (x : Int) (n : Nat) (w : World) (e : Ending) (w' : World) : Prop :=
  ∃ A c, e = .returned (.tuple #[.agg #[.int .u8 k, .string s, .int .i64 x, .slice A n c], .bool true]) ∧ FreshK w' w.heap.size ks A n c ∧ Below w.heap.size w w'
set_option maxHeartbeats 2000000 in
theorem p_get (t : Tree) (k : Nat) (s : ByteArray) (x : Int) (A : Option Addr) (n c : Nat) (w : World) (hsz : t.sz ≤ 1000000) (hN : NodeIs w t k s x A n c) :
    Calls Tryz.prog 72 #[.agg #[.int .u8 k, .string s, .int .i64 x, .slice A n c], .slice none 0 0] w (GetPost t.kids k s x n w) := by
  have hb0 : Below w.heap.size w ((w.alloc (.cells #[.int .u8 k, .string s, .int .i64 x, .slice A n c] 40)).alloc (.cells #[.int .u8 0, .string ⟨#[]⟩, .int .i64 0, .slice none 0 0] 40)) := ((Below.refl _ _).alloc (Nat.le_refl _) _).alloc (by simp) _
  have HB0 := Lib.hid hb0
  have HN := Lib.hid (hN.below hb0)
  clear hb0 hN
  go_enter Tryz.func72, Tryz.ntmps72
  go_wp2_with fail
  refine (p_find_nil _ _).mono ?_
  rintro e w1 ⟨rfl, rfl⟩
  go_wp2_with fail
  refine (p_copied t _ _ _ _ _ _ _ hsz HN.out).mono ?_
  rintro e w1 ⟨A1, c1, rfl, hf, hb1⟩
  have HF := Lib.hid hf
  have HB1 := Lib.hid hb1
  clear hf hb1
  have hres : w1.heap[w.heap.size + 1]? = some (.cells #[.int .u8 0, .string ⟨#[]⟩, .int .i64 0, .slice none 0 0] 40 (0, 0)) := (HB1.out.block _ (by simp)).trans (heap_alloc_at (by simp))
  obtain ⟨r0, r1, r2, r3, g0, g1, g2, g3⟩ := boxF4 hres
  clear hres
  go_wp2_with fail
  have HFK : Hid (FreshK ((((w1.setCell ⟨w.heap.size + 1, 0, none⟩ (.int .u8 k)).setCell ⟨w.heap.size + 1, 1, none⟩ (.string s)).setCell ⟨w.heap.size + 1, 2, none⟩ (.int .i64 x)).setCell ⟨w.heap.size + 1, 3, none⟩ (.slice A1 n c1)) w.heap.size t.kids A1 n c1) := by
    refine FreshK.keep HF.out (by simp; omega) fun a v ha hc => ?_
    have hn : ∀ q, a ≠ ⟨w.heap.size + 1, q, none⟩ := fun q e => by rw [e] at ha; simp at ha; omega
    exact set_other (hn _) (set_other (hn _) (set_other (hn _) (set_other (hn _) hc)))
  obtain ⟨a0, a1, a2, a3⟩ := put4_cells (v0 := .int .u8 k) (v1 := .string s) (v2 := .int .i64 x) (v3 := .slice A1 n c1) r0 r1 r2 r3
  exact bodyPost_ret (v := .tuple #[.agg #[.int .u8 k, .string s, .int .i64 x, .slice A1 n c1], .bool true]) (by simp [results, Tryz.results72, go_sem, a0, a1, a2, a3]) rfl ⟨A1, c1, rfl, HFK.out, ((((bthen HB0.out HB1.out).setCell (by simp) _).setCell (by simp) _).setCell (by simp) _).setCell (by simp) _⟩
end Go.Proofs.YtmikjhohnfcedaaGreatDoor
