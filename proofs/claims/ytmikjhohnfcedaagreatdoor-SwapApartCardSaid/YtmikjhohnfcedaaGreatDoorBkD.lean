/- Edits in memory; the walks over the kit's SameEdit, NodesOf, EditOf.
   The walk over the kit's NodesOf: what a tree costs.
   The walk over tree.Right (chapter 6).
   The walks over package edit (chapter 14): number, part.
   The walk over edit.Right (chapter 14). -/
import Derived.Test.YtmikjhohnfcedaaGreatDoorBkC
import Derived.Laws.EntriesVeiled
namespace Go.Proofs.YtmikjhohnfcedaaGreatDoor
set_option linter.unusedSimpArgs false
set_option linter.unusedVariables false
open Go.RowKit

/-- The fields of an edit's value, read as an edit. -/
def EditIs (w : World) (e : Edt) (k : Nat) (pA : Option Addr) (pn pc : Nat) (i j : Int) (f t : ByteArray) (oA : Option Addr) (on oc : Nat) (nA : Option Addr) (nn nc : Nat) : Prop :=
  ∃ ps os ns, e = ⟨k, ps, i, j, bl f, bl t, os, ns⟩ ∧ IntsAt w ps pA pn pc ∧ KidsAt w os oA on oc ∧ KidsAt w ns nA nn nc
theorem EditIs.keep {w w' : World} (hb : ∀ a v, w.cell? a = some v → w'.cell? a = some v) {e : Edt} {k : Nat} {pA : Option Addr} {pn pc : Nat} {i j : Int} {f t : ByteArray} {oA : Option Addr} {on oc : Nat} {nA : Option Addr} {nn nc : Nat} (h : EditIs w e k pA pn pc i j f t oA on oc nA nn nc) : EditIs w' e k pA pn pc i j f t oA on oc nA nn nc := by
  obtain ⟨ps, os, ns, e, h1, h2, h3⟩ := h
  exact ⟨ps, os, ns, e, h1.keep hb, h2.keep hb, h3.keep hb⟩
theorem EditIs.below {w w' : World} (hb : Below w.heap.size w w') {e : Edt} {k : Nat} {pA : Option Addr} {pn pc : Nat} {i j : Int} {f t : ByteArray} {oA : Option Addr} {on oc : Nat} {nA : Option Addr} {nn nc : Nat} (h : EditIs w e k pA pn pc i j f t oA on oc nA nn nc) : EditIs w' e k pA pn pc i j f t oA on oc nA nn nc := h.keep fun _ _ => cell_below hb
/-- An edit's box. -/
theorem box8 {w : World} {x0 x1 x2 x3 x4 x5 x6 x7 : Value} {T : TypeId} (j : Nat) (v : Value) (h : #[x0, x1, x2, x3, x4, x5, x6, x7][j]? = some v) : (w.alloc (.cells #[x0, x1, x2, x3, x4, x5, x6, x7] T)).cell? ⟨w.heap.size, j, none⟩ = some v := by
  rw [World.cell?_alloc_new]; exact h
theorem box8n {w : World} {x0 x1 x2 x3 x4 x5 x6 x7 : Value} {T : TypeId} {n : Nat} (hn : n = w.heap.size) (j : Nat) (v : Value) (h : #[x0, x1, x2, x3, x4, x5, x6, x7][j]? = some v) : (w.alloc (.cells #[x0, x1, x2, x3, x4, x5, x6, x7] T)).cell? ⟨n, j, none⟩ = some v := by
  subst hn; exact box8 j v h
theorem edt_same (k k' : Nat) (ps ps' : List Int) (i i' j j' : Int) (f f' t t' : Bytes) (os os' ns ns' : List Tree) : Edt.same ⟨k, ps, i, j, f, t, os, ns⟩ ⟨k', ps', i', j', f', t', os', ns'⟩ = (k == k' && ps == ps' && i == i' && j == j' && f == f' && t == t' && sameL os os' && sameL ns ns') := rfl

set_option maxRecDepth 20000 in
set_option maxHeartbeats 2000000 in
theorem k_same_edit (e1 e2 : Edt) (k : Nat) (pA : Option Addr) (pn pc : Nat) (i j : Int) (f t : ByteArray) (oA : Option Addr) (on oc : Nat) (nA : Option Addr) (nn nc : Nat)
    (k' : Nat) (pA' : Option Addr) (pn' pc' : Nat) (i' j' : Int) (f' t' : ByteArray) (oA' : Option Addr) (on' oc' : Nat) (nA' : Option Addr) (nn' nc' : Nat) (w : World)
    (h : EditIs w e1 k pA pn pc i j f t oA on oc nA nn nc) (h' : EditIs w e2 k' pA' pn' pc' i' j' f' t' oA' on' oc' nA' nn' nc') :
    Calls Tryz.prog 8 #[.agg #[.int .u8 k, .slice pA pn pc, .int .i64 i, .int .i64 j, .string f, .string t, .slice oA on oc, .slice nA nn nc], .agg #[.int .u8 k', .slice pA' pn' pc', .int .i64 i', .int .i64 j', .string f', .string t', .slice oA' on' oc', .slice nA' nn' nc']] w (NamePost (e1.same e2) w) := by
  obtain ⟨ps, os, ns, rfl, hp, ho, hn⟩ := h
  obtain ⟨ps', os', ns', rfl, hp', ho', hn'⟩ := h'
  have hb0 : Below w.heap.size w ((w.alloc (.cells #[.int .u8 k, .slice pA pn pc, .int .i64 i, .int .i64 j, .string f, .string t, .slice oA on oc, .slice nA nn nc] 26)).alloc (.cells #[.int .u8 k', .slice pA' pn' pc', .int .i64 i', .int .i64 j', .string f', .string t', .slice oA' on' oc', .slice nA' nn' nc'] 26)) := ((Below.refl _ _).alloc (Nat.le_refl _) _).alloc (by simp) _
  have HB0 := Lib.hid hb0
  have HP := Lib.hid (hp.below hb0)
  have HP' := Lib.hid (hp'.below hb0)
  have HO := Lib.hid (ho.below hb0)
  have HO' := Lib.hid (ho'.below hb0)
  have HN := Lib.hid (hn.below hb0)
  have HN' := Lib.hid (hn'.below hb0)
  have HE := Lib.hid (edt_same k k' ps ps' i i' j j' (bl f) (bl f') (bl t) (bl t') os os' ns ns')
  clear hb0 hp hp' ho ho' hn hn'
  by_cases h1 : k = k'
  · subst h1
    by_cases h2 : ps = ps'
    · have HQ : Hid ((ps == ps') = true) := by show _ = _; simpa using h2
      by_cases h3 : i = i'
      · subst h3
        by_cases h4 : j = j'
        · subst h4
          by_cases h5 : bl f = bl f'
          · obtain rfl := bl_inj h5
            by_cases h6 : bl t = bl t'
            · obtain rfl := bl_inj h6
              by_cases h7 : sameL os os' = true
              · have HO1 := Lib.hid h7
                have HV := Lib.hid (HE.out.trans (show _ = sameL ns ns' by simp [h2, h7]))
                clear h2 h5 h6 h7
                go_enter Tryz.func8, Tryz.ntmps8
                go_wp2_with fail
                refine (k_same_ints ps ps' _ _ _ _ _ _ _ HP.out HP'.out).mono ?_
                rintro e w1 ⟨rfl, q, rfl⟩
                rw [HQ.out]
                go_wp2_with fail
                have hbq : Below w.heap.size w _ := below_drews HB0.out q
                have hlq : w.heap.size ≤ (((w.alloc (.cells #[.int .u8 k, .slice pA pn pc, .int .i64 i, .int .i64 j, .string f, .string t, .slice oA on oc, .slice nA nn nc] 26)).alloc (.cells #[.int .u8 k, .slice pA' pn' pc', .int .i64 i, .int .i64 j, .string f, .string t, .slice oA' on' oc', .slice nA' nn' nc'] 26)).drewN q).heap.size := hbq.size
                refine (k_same_nodes os os' _ _ _ _ _ _ _ (HO.out.below (below_drews (Below.refl _ _) q)) (HO'.out.below (below_drews (Below.refl _ _) q))).mono ?_
                rintro e w2 ⟨rfl, hb2⟩
                rw [HO1.out]
                have hy := (hb2.cell (p := ⟨w.heap.size, 7, none⟩) (by simp <;> omega)).trans ((World.cell?_drewN _ _ _).trans ((World.cell?_alloc_lt _ _ _ (by simp)).trans (box8 7 _ rfl)))
                have hy' := (hb2.cell (p := ⟨w.heap.size + 1, 7, none⟩) (by simp <;> omega)).trans ((World.cell?_drewN _ _ _).trans (box8n (by simp) 7 _ rfl))
                have HB2 : Hid (Below w.heap.size w w2) := hbq.trans (hb2.mono hlq)
                have HN2 := Lib.hid ((HN.out.below (below_drews (Below.refl _ _) q)).below hb2)
                have HN2' := Lib.hid ((HN'.out.below (below_drews (Below.refl _ _) q)).below hb2)
                clear hb2 hbq hlq
                go_wp2_with fail
                refine (k_same_nodes ns ns' _ _ _ _ _ _ _ HN2.out HN2'.out).mono ?_
                rintro e w3 ⟨rfl, hb3⟩
                have HB3 : Hid (Below w.heap.size w w3) := HB2.out.trans (hb3.mono HB2.out.size)
                clear hb3
                go_wp2_with fail
                go_ret
                exact NamePost.intro HV.out.symm HB3.out
              · have HO1 : Hid (sameL os os' = false) := by show _ = _; simpa using h7
                have HV := Lib.hid (HE.out.trans (show _ = false by simp [h7]))
                clear h2 h5 h6 h7
                go_enter Tryz.func8, Tryz.ntmps8
                go_wp2_with fail
                refine (k_same_ints ps ps' _ _ _ _ _ _ _ HP.out HP'.out).mono ?_
                rintro e w1 ⟨rfl, q, rfl⟩
                rw [HQ.out]
                go_wp2_with fail
                have hbq : Below w.heap.size w _ := below_drews HB0.out q
                have hlq : w.heap.size ≤ (((w.alloc (.cells #[.int .u8 k, .slice pA pn pc, .int .i64 i, .int .i64 j, .string f, .string t, .slice oA on oc, .slice nA nn nc] 26)).alloc (.cells #[.int .u8 k, .slice pA' pn' pc', .int .i64 i, .int .i64 j, .string f, .string t, .slice oA' on' oc', .slice nA' nn' nc'] 26)).drewN q).heap.size := hbq.size
                refine (k_same_nodes os os' _ _ _ _ _ _ _ (HO.out.below (below_drews (Below.refl _ _) q)) (HO'.out.below (below_drews (Below.refl _ _) q))).mono ?_
                rintro e w2 ⟨rfl, hb2⟩
                rw [HO1.out]
                have hy := (hb2.cell (p := ⟨w.heap.size, 7, none⟩) (by simp <;> omega)).trans ((World.cell?_drewN _ _ _).trans ((World.cell?_alloc_lt _ _ _ (by simp)).trans (box8 7 _ rfl)))
                have hy' := (hb2.cell (p := ⟨w.heap.size + 1, 7, none⟩) (by simp <;> omega)).trans ((World.cell?_drewN _ _ _).trans (box8n (by simp) 7 _ rfl))
                have HB2 : Hid (Below w.heap.size w w2) := hbq.trans (hb2.mono hlq)
                have HN2 := Lib.hid ((HN.out.below (below_drews (Below.refl _ _) q)).below hb2)
                have HN2' := Lib.hid ((HN'.out.below (below_drews (Below.refl _ _) q)).below hb2)
                clear hb2 hbq hlq
                go_wp2_with fail
                go_ret
                exact NamePost.intro HV.out.symm HB2.out
            · have hh : (bl t == bl t') = false := beq_eq_false_iff_ne.2 h6
              have HV := Lib.hid (HE.out.trans (show _ = false by simp only [hh, Bool.and_false, Bool.false_and]))
              clear hh
              have e0 := str_ne h6
              clear h2 h6
              go_enter Tryz.func8, Tryz.ntmps8
              go_wp2_with fail
              refine (k_same_ints ps ps' _ _ _ _ _ _ _ HP.out HP'.out).mono ?_
              rintro e w1 ⟨rfl, q, rfl⟩
              rw [HQ.out]
              go_wp2_with fail
              go_ret
              exact NamePost.intro HV.out.symm (below_drews HB0.out q)
          · have hh : (bl f == bl f') = false := beq_eq_false_iff_ne.2 h5
            have HV := Lib.hid (HE.out.trans (show _ = false by simp only [hh, Bool.and_false, Bool.false_and]))
            clear hh
            have e0 := str_ne h5
            clear h2 h5
            go_enter Tryz.func8, Tryz.ntmps8
            go_wp2_with fail
            refine (k_same_ints ps ps' _ _ _ _ _ _ _ HP.out HP'.out).mono ?_
            rintro e w1 ⟨rfl, q, rfl⟩
            rw [HQ.out]
            go_wp2_with fail
            go_ret
            exact NamePost.intro HV.out.symm (below_drews HB0.out q)
        · have HV := Lib.hid (HE.out.trans (show _ = false by simp [h4]))
          have e0 : (j == j') = false := by simpa using h4
          clear h2 h4
          go_enter Tryz.func8, Tryz.ntmps8
          go_wp2_with fail
          refine (k_same_ints ps ps' _ _ _ _ _ _ _ HP.out HP'.out).mono ?_
          rintro e w1 ⟨rfl, q, rfl⟩
          rw [HQ.out]
          go_wp2_with fail
          go_ret
          exact NamePost.intro HV.out.symm (below_drews HB0.out q)
      · have HV := Lib.hid (HE.out.trans (show _ = false by simp [h3]))
        have e0 : (i == i') = false := by simpa using h3
        clear h2 h3
        go_enter Tryz.func8, Tryz.ntmps8
        go_wp2_with fail
        refine (k_same_ints ps ps' _ _ _ _ _ _ _ HP.out HP'.out).mono ?_
        rintro e w1 ⟨rfl, q, rfl⟩
        rw [HQ.out]
        go_wp2_with fail
        go_ret
        exact NamePost.intro HV.out.symm (below_drews HB0.out q)
    · have HV := Lib.hid (HE.out.trans (show _ = false by simp [h2]))
      have HQ : Hid ((ps == ps') = false) := by show _ = _; simpa using h2
      clear h2
      go_enter Tryz.func8, Tryz.ntmps8
      go_wp2_with fail
      refine (k_same_ints ps ps' _ _ _ _ _ _ _ HP.out HP'.out).mono ?_
      rintro e w1 ⟨rfl, q, rfl⟩
      rw [HQ.out]
      go_wp2_with fail
      go_ret
      exact NamePost.intro HV.out.symm (below_drews HB0.out q)
  · have HV := Lib.hid (HE.out.trans (show _ = false by simp [h1]))
    have e0 : ((k : Int) == k') = false := by simp; omega
    clear h1
    go_enter Tryz.func8, Tryz.ntmps8
    go_wp2_with fail
    go_ret
    exact NamePost.intro HV.out.symm HB0.out
end Go.Proofs.YtmikjhohnfcedaaGreatDoor

namespace Go.Proofs.YtmikjhohnfcedaaGreatDoor
set_option linter.unusedSimpArgs false
set_option linter.unusedVariables false
open Go.RowKit
set_option linter.unusedSimpArgs false

mutual
def Tree.cost : Tree → Nat
  | .node _ s _ ks => 1 + s.length / 8 + costL ks
def costL : List Tree → Nat
  | [] => 0
  | t :: ts => t.cost + costL ts
end
theorem costL_step {ks : List Tree} {i : Nat} {t : Tree} (h : ks[i]? = some t) : costL (ks.take (i + 1)) = costL (ks.take i) + t.cost := by
  induction ks generalizing i with
  | nil => simp at h
  | cons u us ih =>
    cases i with
    | zero => simp at h; subst h; simp [costL]
    | succ i => have := ih (i := i) (by simpa using h); simp [costL, this]; omega
theorem costL_take (ks : List Tree) (i : Nat) : costL (ks.take i) ≤ costL ks := by
  induction ks generalizing i with
  | nil => simp [costL]
  | cons u us ih =>
    cases i with
    | zero => simp [costL]
    | succ i => have := ih i; simp [costL]; omega
theorem Tree.cost_pos (t : Tree) : 1 ≤ t.cost := by cases t; simp [Tree.cost]; omega
/-- The longest text that the walk meets. -/
abbrev LL : Nat := 140737488355328
/-- `v` is the cost, where that is at most `most`; above it otherwise. -/
def Costs (v c most : Nat) : Prop := (v ≤ most → v = c) ∧ (most < v → most < c)
def NodesPost (c most : Nat) (w : World) (e : Ending) (w' : World) : Prop := ∃ v : Nat, e = .returned (.int .i64 v) ∧ Below w.heap.size w w' ∧ 1 ≤ v ∧ v ≤ most + 17592186044418 ∧ Costs v c most
theorem NodesPost.intro {c most v : Nat} {w w' : World} (hb : Below w.heap.size w w') (h1 : 1 ≤ v) (h2 : v ≤ most + 17592186044418) (h3 : Costs v c most) : NodesPost c most w (.returned (.int .i64 v)) w' := ⟨v, rfl, hb, h1, h2, h3⟩
def NodesC (m : Nat) : Prop := ∀ (t : Tree) (k : Nat) (s : ByteArray) (x : Int) (A : Option Addr) (n c most : Nat) (w : World), t.sz ≤ m → NodeIs w t k s x A n c → t.short LL → most ≤ 1000000 →
  Calls Tryz.prog 37 #[.agg #[.int .u8 k, .string s, .int .i64 x, .slice A n c], .int .i64 most] w (NodesPost t.cost most w)
set_option maxHeartbeats 2000000 in
theorem nodes_step (m : Nat) (ih : Hid (NodesC m)) : NodesC (m + 1) := by
  intro t k s x A n c most w hsz hN hsh hm
  obtain ⟨ks, rfl, _, _, _, hK⟩ := hN
  have hb0 : Below w.heap.size w (w.alloc (.cells #[.int .u8 k, .string s, .int .i64 x, .slice A n c] 40)) := (Below.refl _ _).alloc (Nat.le_refl _) _
  have HB0 := Lib.hid hb0
  have HK := Lib.hid (hK.below hb0)
  have HBX := Lib.hid (box4 (w := w) (x := .int .u8 k) (y := .string s) (z := .int .i64 x) (u := .slice A n c) (T := 40))
  have HSZ : Hid (szL ks ≤ m) := by show _ ≤ _; simp only [Tree.sz] at hsz; omega
  have hs : s.size ≤ 140737488355328 := by simp only [Tree.short, bl_len] at hsh; exact hsh.1
  have HSH : Hid (shortL LL ks) := by simp only [Tree.short] at hsh; exact hsh.2
  have HC : Hid (Tree.cost (.node k (bl s) x ks) = 1 + s.size / 8 + costL ks) := by show _ = _; simp [Tree.cost, bl_len]
  have hnn : n ≤ 9223372036854775807 := by have h1 := hK.2.1; have h2 := hK.2.2.1; unfold maxLen at h2; omega
  have HL : Hid (n = ks.length) := hK.1
  clear hsz hb0 hK hsh
  go_enter Tryz.func37, Tryz.ntmps37
  go_wp2_with fail
  go_loopw [5, 6] (fun cv i wr => ∃ j v : Nat, j ≤ n ∧ i = .int .i64 j ∧ cv = .int .i64 v ∧ v ≤ most + 17592186044418 ∧ 1 ≤ v ∧ Hid (Below (w.alloc (.cells #[.int .u8 k, .string s, .int .i64 x, .slice A n c] 40)).heap.size (w.alloc (.cells #[.int .u8 k, .string s, .int .i64 x, .slice A n c] 40)) wr) ∧ Hid (Costs v (1 + s.size / 8 + costL (ks.take j)) most)) (fun _ i _ => n - (intOf i).toNat)
  case atStart =>
    refine ⟨0, 1 + s.size / 8, Nat.zero_le _, rfl, ?_, by omega, by omega, Below.refl _ _, ?_⟩
    · go_num
    · show Costs _ _ _; simp [Costs, costL]
  case round =>
    obtain ⟨j, v, hj, rfl, rfl, hv, hv1, HB, HI⟩ := hrel
    obtain ⟨b0, b1, b2, b3⟩ := HBX.out
    have c0 := cell_below HB.out b0
    have c1 := cell_below HB.out b1
    have c2 := cell_below HB.out b2
    have c3 := cell_below HB.out b3
    clear b0 b1 b2 b3
    by_cases hlt : j < n
    · by_cases hc : v ≤ most
      · obtain ⟨b, o, t, rfl, ht, hat⟩ := (HK.out.below HB.out).get hlt
        obtain ⟨B1, d1, q0, q1, q2, q3, hnode⟩ := hat.cells
        have HND := Lib.hid hnode
        have HSZT : Hid (t.sz ≤ m) := Nat.le_trans (sz_at ht) HSZ.out
        have HST := Lib.hid (HSH.out.get ht)
        have HCS := Lib.hid (costL_step ht)
        have hv' : v = 1 + s.size / 8 + costL (ks.take j) := HI.out.1 hc
        have HV := Lib.hid hv'
        clear ht hat hnode hv'
        go_wp2_with fail
        rw [show ((most : Int) - (v : Int)) = ((most - v : Nat) : Int) by omega]
        refine (ih.out t _ _ _ _ _ _ (most - v) _ HSZT.out HND.out HST.out (by omega)).mono ?_
        rintro e w3 ⟨z, rfl, hb3, hz1, hz2, hz3⟩
        have HB3 := Lib.hid (HB.out.trans (hb3.mono HB.out.size))
        have HZ := Lib.hid hz3
        clear hb3 hz3
        obtain ⟨b0, b1, b2, b3⟩ := HBX.out
        clear c0 c1 c2 c3
        have c0 := cell_below HB3.out b0
        have c1 := cell_below HB3.out b1
        have c2 := cell_below HB3.out b2
        have c3 := cell_below HB3.out b3
        clear b0 b1 b2 b3
        go_wp2
        go_roundw
        case rel =>
          refine ⟨j + 1, v + z, by omega, by go_num, by go_num, by omega, by omega, HB3, ?_⟩
          show Costs _ _ _
          have h1 := HZ.out
          have h2 := HV.out
          have h3 := HCS.out
          unfold Costs at h1 ⊢
          rw [h3]
          omega
        case measure => simp [intOf]; omega
      · have HT := Lib.hid (costL_take ks j)
        go_wp2_with fail
        go_ret
        refine NodesPost.intro (HB0.out.trans (HB.out.mono HB0.out.size)) hv1 hv ?_
        have h1 := HI.out
        have h2 := HT.out
        rw [HC.out]
        unfold Costs at h1 ⊢
        omega
    · go_wp2_with fail
      go_ret
      refine NodesPost.intro (HB0.out.trans (HB.out.mono HB0.out.size)) hv1 hv ?_
      have h1 := HI.out
      rw [List.take_of_length_le (by have := HL.out; omega)] at h1
      rw [HC.out]
      exact h1
theorem nodes_all : ∀ m, NodesC m
  | 0 => by
    intro t k s x A n c most w hsz
    obtain ⟨k0, s0, x0, ks0⟩ := t
    simp [Tree.sz] at hsz
  | m + 1 => nodes_step m (Lib.hid (nodes_all m))
theorem k_nodes_of (t : Tree) (k : Nat) (s : ByteArray) (x : Int) (A : Option Addr) (n c most : Nat) (w : World) (hN : NodeIs w t k s x A n c) (hsh : t.short LL) (hm : most ≤ 1000000) :
    Calls Tryz.prog 37 #[.agg #[.int .u8 k, .string s, .int .i64 x, .slice A n c], .int .i64 most] w (NodesPost t.cost most w) := nodes_all t.sz _ _ _ _ _ _ _ _ _ (Nat.le_refl _) hN hsh hm
end Go.Proofs.YtmikjhohnfcedaaGreatDoor

namespace Go.Proofs.YtmikjhohnfcedaaGreatDoor
set_option linter.unusedSimpArgs false
set_option linter.unusedVariables false
open Go.RowKit

theorem enter_right (args : Array Value) (w : World) : (callFunc 80 args).run Tryz.prog w = .ok (.enter 80 args) w := run_enter Tryz.func80 (by kernel_rfl) (by kernel_rfl) args w

/-- The contract of the closure at trees of at most a size. -/
def RightC (m : Nat) : Prop := ∀ (t : Tree) (k : Nat) (s : ByteArray) (x : Int) (A : Option Addr) (n c deep rb : Nat) (w : World), t.sz ≤ m → NodeIs w t k s x A n c → t.short 9223372036854775806 → deep ≤ 41 → EnvS w →
  w.cell? ⟨rb, 0, none⟩ = some (.func (.func 80) #[] #[.pointer (some ⟨rb, 0, none⟩)]) →
  Calls Tryz.prog 80 #[.agg #[.int .u8 k, .string s, .int .i64 x, .slice A n c], .int .i64 deep, .pointer (some ⟨rb, 0, none⟩)] w (NamePost (rightT deep t) w)

theorem rightL_cons (k i d : Nat) (t : Tree) (ts : List Tree) : rightL k i d (t :: ts) = (fitsB k t.kind i && rightT d t && rightL k (i + 1) d ts) := by
  simp only [rightL]
theorem rightL_step {k d i : Nat} {ks : List Tree} {t : Tree} (h : rightL k 0 d ks = rightL k i d (ks.drop i)) (ht : ks[i]? = some t) : rightL k 0 d ks = (fitsB k t.kind i && rightT d t && rightL k (i + 1) d (ks.drop (i + 1))) := by
  have hi : i < ks.length := (List.getElem?_eq_some_iff.1 ht).1
  rw [h, List.drop_eq_getElem_cons hi]
  rw [List.getElem?_eq_getElem hi] at ht
  injection ht with ht
  rw [ht, rightL_cons]
theorem sz_get {ks : List Tree} {i : Nat} {t : Tree} (h : ks[i]? = some t) : t.sz ≤ szL ks := by
  induction ks generalizing i with
  | nil => simp at h
  | cons u us ih =>
    cases i with
    | zero => simp at h; subst h; simp [szL]
    | succ i => have := ih (i := i) (by simpa using h); simp [szL]; omega

def setOk (ks : List Tree) : Bool := match ks with | .node 22 _ _ _ :: _ => true | .node _ _ _ (.node 22 _ _ _ :: _) :: _ => true | _ => false
theorem box2n {w : World} {x y : Value} {T : TypeId} : (w.alloc (.cells #[x, y] T)).cell? ⟨w.heap.size, 0, none⟩ = some x ∧ (w.alloc (.cells #[x, y] T)).cell? ⟨w.heap.size, 1, none⟩ = some y := by
  refine ⟨?_, ?_⟩ <;> (rw [World.cell?_alloc_new]; rfl)
/-- What is told where the closure leaves early. -/
theorem rightT_none {d k : Nat} {s : Bytes} {x : Int} {ks : List Tree} (h : rowsOf k = none) : rightT d (.node k s x ks) = false := by simp [rightT, h]
theorem rightT_some {d k : Nat} {s : Bytes} {x : Int} {ks : List Tree} {l : List Nat} {all : Bool} (h : rowsOf k = some (l, all)) : rightT d (.node k s x ks) = (decide (d ≤ 40) && saysB k s x && (all || ks.length == l.length) && rightL k 0 (d + 1) ks &&
        (k != 7 || setOk ks)) := by simp only [rightT, h]; rfl

theorem right7 {d : Nat} {ks : List Tree} (h : rightL 7 0 d ks = true) (hl : 0 < ks.length) : ∃ t0 ts, ks = t0 :: ts ∧ ((t0.kind = 22 ∧ setOk ks = true) ∨ (t0.kind = 26 ∧ ∃ u us, t0.kids = u :: us ∧ setOk ks = (u.kind == 22))) := by
  match ks, hl with
  | t0 :: ts, _ =>
    rw [rightL_cons] at h
    simp only [Bool.and_eq_true] at h
    obtain ⟨⟨h1, h2⟩, _⟩ := h
    refine ⟨t0, ts, rfl, ?_⟩
    obtain ⟨k0, s0, x0, ks0⟩ := t0
    have hk : k0 = 22 ∨ k0 = 26 := by simpa [fitsB, rowsOf, isB, Tree.kind] using h1
    rcases hk with rfl | rfl
    · exact .inl ⟨rfl, rfl⟩
    · right
      refine ⟨rfl, ?_⟩
      have hr : rowsOf 26 = some ([200, 200], false) := rfl
      rw [rightT_some hr] at h2
      have h3 : ks0.length = 2 := by revert h2; simp; intros; assumption
      match ks0, h3 with
      | u :: us, _ =>
        refine ⟨u, us, rfl, ?_⟩
        obtain ⟨ku, su, xu, ksu⟩ := u
        by_cases hu : ku = 22
        · subst hu; rfl
        · have : (Tree.kind (.node ku su xu ksu) == 22) = false := by simp [Tree.kind, hu]
          rw [this]
          unfold setOk
          split
          · rename_i heq; injection heq with h1 _; injection h1 with h1; omega
          · rename_i heq; injection heq with h1 _; injection h1 with _ _ _ h1; injection h1 with h1 _; injection h1 with h1; omega
          · rfl
set_option maxRecDepth 20000 in
set_option maxHeartbeats 2000000 in
theorem right_step (m : Nat) (ih : Hid (RightC m)) : RightC (m + 1) := by
  intro t k s x A n c deep rb w hsz hN hsh hd hE hrb
  obtain ⟨ks, rfl, hk255, hsm, hx, hK⟩ := hN
  have hs : s.size ≤ 9223372036854775806 := by simp only [Tree.short] at hsh; exact hsh.1
  have HSZ : Hid (szL ks ≤ m) := by show _ ≤ _; simp only [Tree.sz] at hsz; omega
  have HSH : Hid (shortL 9223372036854775806 ks) := by simp only [Tree.short] at hsh; exact hsh.2
  have hb0 : Below w.heap.size w (w.alloc (.cells #[.int .u8 k, .string s, .int .i64 x, .slice A n c] 40)) := (Below.refl _ _).alloc (Nat.le_refl _) _
  have HB0 := Lib.hid hb0
  have HE := Lib.hid (hE.below hb0 (Nat.le_refl _))
  have HK := Lib.hid (hK.below hb0)
  have HRB := Lib.hid (cell_below hb0 hrb)
  have hlrb := cell_lt hrb
  simp only at hlrb
  clear hsz hsh hb0 hE hrb hx hk255
  cases hr : rowsOf k with
  | none =>
    have HR := Lib.hid hr
    have HF := Lib.hid (rightT_none (d := deep) (s := bl s) (x := x) (ks := ks) hr)
    clear hr
    go_enter Tryz.func80, Tryz.ntmps80
    go_wp2_with fail
    refine (p_rows k _).mono ?_
    rintro e w1 ⟨hb, hp⟩
    rw [HR.out] at hp
    simp only at hp
    subst hp
    have HB : Hid (Below w.heap.size w w1) := HB0.out.trans (hb.mono HB0.out.size)
    clear hb
    go_wp2_with fail
    go_ret
    exact NamePost.intro HF.out.symm (HB.out.alloc HB.out.size _)
  | some r =>
    obtain ⟨l, all⟩ := r
    have HR := Lib.hid hr
    have HF := Lib.hid (rightT_some (d := deep) (s := bl s) (x := x) (ks := ks) hr)
    clear hr
    by_cases hdp : 40 < deep
    · have HV : Hid (rightT deep (.node k (bl s) x ks) = false) := by show _ = _; rw [HF.out]; simp [Nat.not_le.2 hdp]
      go_enter Tryz.func80, Tryz.ntmps80
      go_wp2_with fail
      refine (p_rows k _).mono ?_
      rintro e w1 ⟨hb, hp⟩
      rw [HR.out] at hp
      simp only at hp
      obtain ⟨v, rfl, A1, n1, c1, rfl, hk1⟩ := hp
      have HB : Hid (Below w.heap.size w w1) := HB0.out.trans (hb.mono HB0.out.size)
      clear hb hk1
      go_wp2_with fail
      go_ret
      exact NamePost.intro HV.out.symm (HB.out.alloc HB.out.size _)
    · have hd40 : deep ≤ 40 := by omega
      clear hdp
      cases hsy : saysB k (bl s) x with
      | false =>
        have HSY := Lib.hid hsy
        have HV : Hid (rightT deep (.node k (bl s) x ks) = false) := by show _ = _; rw [HF.out, hsy]; simp
        clear hsy
        go_enter Tryz.func80, Tryz.ntmps80
        go_wp2_with fail
        refine (p_rows k _).mono ?_
        rintro e w1 ⟨hb, hp⟩
        rw [HR.out] at hp
        simp only at hp
        obtain ⟨v, rfl, A1, n1, c1, rfl, hk1⟩ := hp
        have HB : Hid (Below w.heap.size w w1) := HB0.out.trans (hb.mono HB0.out.size)
        have HE1 := Lib.hid ((HE.out.below hb (Nat.le_refl _)).below ((Below.refl _ _).alloc (Nat.le_refl _) (.cells #[.slice A1 n1 c1, .bool all] 106)) (Nat.le_refl _))
        have hc0 := (hb.cell (p := ⟨w.heap.size, 0, none⟩) (by simp)).trans box4.1
        have hc1 := (hb.cell (p := ⟨w.heap.size, 1, none⟩) (by simp)).trans box4.2.1
        have hc2 := (hb.cell (p := ⟨w.heap.size, 2, none⟩) (by simp)).trans box4.2.2.1
        have hc3 := (hb.cell (p := ⟨w.heap.size, 3, none⟩) (by simp)).trans box4.2.2.2
        have hlt : w.heap.size < w1.heap.size := by have := hb.size; simp at this; omega
        clear hb hk1
        go_wp2_with fail
        refine (p_says k s x A _ c _ HE1.out hs).mono ?_
        rintro e w2 ⟨rfl, hb⟩
        rw [HSY.out]
        have HB2 : Hid (Below w.heap.size w w2) := (HB.out.alloc HB.out.size _).trans (hb.mono (by simp; have := HB.out.size; omega))
        clear hb
        go_wp2_with fail
        go_ret
        exact NamePost.intro HV.out.symm HB2.out
      | true =>
        have HSY := Lib.hid hsy
        have hnk : n = ks.length := HK.out.1
        by_cases hcount : all = false ∧ n ≠ l.length
        · obtain ⟨rfl, hne⟩ := hcount
          have HV : Hid (rightT deep (.node k (bl s) x ks) = false) := by
            show _ = _; rw [HF.out]
            have : (ks.length == l.length) = false := by simp; omega
            simp [this]
          have hne' : ((n : Int) != l.length) = true := by simp; omega
          clear hsy hne hnk
          go_enter Tryz.func80, Tryz.ntmps80
          go_wp2_with fail
          refine (p_rows k _).mono ?_
          rintro e w1 ⟨hb, hp⟩
          rw [HR.out] at hp
          simp only at hp
          obtain ⟨v, rfl, A1, n1, c1, rfl, hk1⟩ := hp
          have HB : Hid (Below w.heap.size w w1) := HB0.out.trans (hb.mono HB0.out.size)
          have HE1 := Lib.hid ((HE.out.below hb (Nat.le_refl _)).below ((Below.refl _ _).alloc (Nat.le_refl _) (.cells #[.slice A1 n1 c1, .bool false] 106)) (Nat.le_refl _))
          have hc0 := (hb.cell (p := ⟨w.heap.size, 0, none⟩) (by simp)).trans box4.1
          have hc1 := (hb.cell (p := ⟨w.heap.size, 1, none⟩) (by simp)).trans box4.2.1
          have hc2 := (hb.cell (p := ⟨w.heap.size, 2, none⟩) (by simp)).trans box4.2.2.1
          have hc3 := (hb.cell (p := ⟨w.heap.size, 3, none⟩) (by simp)).trans box4.2.2.2
          have hlt : w.heap.size < w1.heap.size := by have := hb.size; simp at this; omega
          have HN1 : Hid (n1 = l.length) := hk1.1
          have HKr := Lib.hid (HK.out.below hb)
          have HRr := Lib.hid (cell_below hb HRB.out)
          clear hb hk1
          go_wp2_with fail
          refine (p_says k s x A _ c _ HE1.out hs).mono ?_
          rintro e w2 ⟨rfl, hb⟩
          rw [HSY.out]
          have HB2 : Hid (Below w.heap.size w w2) := (HB.out.alloc HB.out.size _).trans (hb.mono (by simp; have := HB.out.size; omega))
          have hbw : Below w1.heap.size w1 w2 := ((Below.refl _ _).alloc (Nat.le_refl _) _).trans (hb.mono (by simp))
          have hd0 := (hbw.cell (p := ⟨w.heap.size, 0, none⟩) hlt).trans hc0
          have hd1 := (hbw.cell (p := ⟨w.heap.size, 1, none⟩) hlt).trans hc1
          have hd2 := (hbw.cell (p := ⟨w.heap.size, 2, none⟩) hlt).trans hc2
          have hd3 := (hbw.cell (p := ⟨w.heap.size, 3, none⟩) hlt).trans hc3
          have hr0 := (hb.cell (p := ⟨w1.heap.size, 0, none⟩) (by simp)).trans (box2n (w := w1)).1
          have hr1 := (hb.cell (p := ⟨w1.heap.size, 1, none⟩) (by simp)).trans (box2n (w := w1)).2
          have HE2 := Lib.hid (HE1.out.below hb (Nat.le_refl _))
          have HK2 := Lib.hid (HKr.out.below hbw)
          have HR2 := Lib.hid (cell_below hbw HRr.out)
          have hlt2 : w.heap.size < w2.heap.size := by have := hbw.size; omega
          clear hb hbw hc0 hc1 hc2 hc3 HE1 HKr HRr
          obtain rfl := HN1.out
          go_wp2_with fail
          go_ret
          exact NamePost.intro HV.out.symm HB2.out
        · have HC : Hid (rightT deep (.node k (bl s) x ks) = (rightL k 0 (deep + 1) ks && (k != 7 || setOk ks))) := by
            show _ = _; rw [HF.out, hsy]
            have : (all || ks.length == l.length) = true := by
              cases all with
              | true => rfl
              | false => simp at hcount ⊢; omega
            simp [hd40, this]
          have hall : all = true ∨ (all = false ∧ n = l.length) := by cases all <;> simp at hcount ⊢; exact hcount
          clear hsy hcount hnk
          rcases hall with rfl | ⟨rfl, rfl⟩
          · go_enter Tryz.func80, Tryz.ntmps80
            go_wp2_with fail
            refine (p_rows k _).mono ?_
            rintro e w1 ⟨hb, hp⟩
            rw [HR.out] at hp
            simp only at hp
            obtain ⟨v, rfl, A1, n1, c1, rfl, hk1⟩ := hp
            have HB : Hid (Below w.heap.size w w1) := HB0.out.trans (hb.mono HB0.out.size)
            have HE1 := Lib.hid ((HE.out.below hb (Nat.le_refl _)).below ((Below.refl _ _).alloc (Nat.le_refl _) (.cells #[.slice A1 n1 c1, .bool true] 106)) (Nat.le_refl _))
            have hc0 := (hb.cell (p := ⟨w.heap.size, 0, none⟩) (by simp)).trans box4.1
            have hc1 := (hb.cell (p := ⟨w.heap.size, 1, none⟩) (by simp)).trans box4.2.1
            have hc2 := (hb.cell (p := ⟨w.heap.size, 2, none⟩) (by simp)).trans box4.2.2.1
            have hc3 := (hb.cell (p := ⟨w.heap.size, 3, none⟩) (by simp)).trans box4.2.2.2
            have hlt : w.heap.size < w1.heap.size := by have := hb.size; simp at this; omega
            have HN1 : Hid (n1 = l.length) := hk1.1
            have HKr := Lib.hid (HK.out.below hb)
            have HRr := Lib.hid (cell_below hb HRB.out)
            clear hb hk1
            go_wp2_with fail
            refine (p_says k s x A _ c _ HE1.out hs).mono ?_
            rintro e w2 ⟨rfl, hb⟩
            rw [HSY.out]
            have HB2 : Hid (Below w.heap.size w w2) := (HB.out.alloc HB.out.size _).trans (hb.mono (by simp; have := HB.out.size; omega))
            have hbw : Below w1.heap.size w1 w2 := ((Below.refl _ _).alloc (Nat.le_refl _) _).trans (hb.mono (by simp))
            have hd0 := (hbw.cell (p := ⟨w.heap.size, 0, none⟩) hlt).trans hc0
            have hd1 := (hbw.cell (p := ⟨w.heap.size, 1, none⟩) hlt).trans hc1
            have hd2 := (hbw.cell (p := ⟨w.heap.size, 2, none⟩) hlt).trans hc2
            have hd3 := (hbw.cell (p := ⟨w.heap.size, 3, none⟩) hlt).trans hc3
            have hr0 := (hb.cell (p := ⟨w1.heap.size, 0, none⟩) (by simp)).trans (box2n (w := w1)).1
            have hr1 := (hb.cell (p := ⟨w1.heap.size, 1, none⟩) (by simp)).trans (box2n (w := w1)).2
            have HE2 := Lib.hid (HE1.out.below hb (Nat.le_refl _))
            have HK2 := Lib.hid (HKr.out.below hbw)
            have HR2 := Lib.hid (cell_below hbw HRr.out)
            have hlt2 : w.heap.size < w2.heap.size := by have := hbw.size; omega
            clear hb hbw hc0 hc1 hc2 hc3 HE1 HKr HRr
            obtain rfl := HN1.out
            have hnn : n ≤ 9223372036854775807 := by have h1 := HK.out.2.1; have h2 := HK.out.2.2.1; unfold maxLen at h2; omega
            have HNK : Hid (n = ks.length) := HK.out.1
            go_wp2_with fail
            go_loopw [44] (fun i wr => ∃ j : Nat, j ≤ n ∧ i = .int .i64 j ∧ Hid (Below w2.heap.size w2 wr) ∧ Hid (EnvS wr) ∧ Hid (rightL k 0 (deep + 1) ks = rightL k j (deep + 1) (ks.drop j))) (fun i _ => n - (intOf i).toNat)
            case atStart => exact ⟨0, Nat.zero_le _, rfl, Below.refl _ _, HE2.out, rfl⟩
            case round =>
              obtain ⟨j, hj, rfl, HBr, HEr, HI⟩ := hrel
              have hbr := HBr.out
              have he0 := (hbr.cell (p := ⟨w.heap.size, 0, none⟩) hlt2).trans hd0
              have he3 := (hbr.cell (p := ⟨w.heap.size, 3, none⟩) hlt2).trans hd3
              have HKw := Lib.hid (HK2.out.below hbr)
              have HRw := Lib.hid (cell_below hbr HR2.out)
              have hltr : w.heap.size < wr.heap.size := by have := hbr.size; omega
              have HBw : Hid (Below w.heap.size w wr) := HB2.out.trans (hbr.mono HB2.out.size)
              have HSr : Hid (w2.heap.size ≤ wr.heap.size) := hbr.size
              clear hbr
              by_cases hlt : j < n
              · obtain ⟨b, o, t, rfl, ht, hat⟩ := HKw.out.get hlt
                obtain ⟨A', c', q0, q1, q2, q3, hnode⟩ := hat.cells
                have hqlt := cell_lt q0
                simp only at hqlt
                have HND := Lib.hid hnode
                have HSZT : Hid (t.sz ≤ m) := Nat.le_trans (sz_get ht) HSZ.out
                have HSHT : Hid (t.short 9223372036854775806) := shortL.get HSH.out ht
                have HST := Lib.hid (rightL_step HI.out ht)
                clear ht hat hnode
                cases hf : fitsB k t.kind j with
                | false =>
                  have HFF := Lib.hid hf
                  have HV : Hid (rightT deep (.node k (bl s) x ks) = false) := by show _ = _; rw [HC.out, HST.out, hf]; simp
                  clear hf
                  go_wp2_with fail
                  refine (p_fits k t.kind j _).mono ?_
                  rintro e w3 ⟨rfl, hb⟩
                  rw [HFF.out]
                  have HB3 : Hid (Below w.heap.size w w3) := (HBw.out.alloc HBw.out.size _).trans (hb.mono (by simp; omega))
                  clear hb
                  go_wp2_with fail
                  go_ret
                  exact NamePost.intro HV.out.symm HB3.out
                | true =>
                  have HFF := Lib.hid hf
                  have HST2 : Hid (rightL k 0 (deep + 1) ks = (rightT (deep + 1) t && rightL k (j + 1) (deep + 1) (ks.drop (j + 1)))) := by show _ = _; rw [HST.out, hf]; simp
                  clear hf
                  go_wp2_with fail
                  refine (p_fits k t.kind j _).mono ?_
                  rintro e w3 ⟨rfl, hb⟩
                  rw [HFF.out]
                  have hb3 : Below wr.heap.size wr w3 := ((Below.refl _ _).alloc (Nat.le_refl _) _).trans (hb.mono (by simp))
                  have HB3 := Lib.hid hb3
                  have s0 := (hb.cell (p := ⟨wr.heap.size, 0, none⟩) (by simp)).trans box4.1
                  have s1 := (hb.cell (p := ⟨wr.heap.size, 1, none⟩) (by simp)).trans box4.2.1
                  have s2 := (hb.cell (p := ⟨wr.heap.size, 2, none⟩) (by simp)).trans box4.2.2.1
                  have s3 := (hb.cell (p := ⟨wr.heap.size, 3, none⟩) (by simp)).trans box4.2.2.2
                  have srb := cell_below hb3 HRw.out
                  have HSRB := Lib.hid srb
                  have HND3 := Lib.hid (HND.out.below hb3)
                  have HE3 := Lib.hid (HEr.out.below hb3 (Nat.le_refl _))
                  have hcf := enter_right
                  clear hb hb3
                  go_wp2_with fail
                  refine (ih.out t t.kind (sb t.text) t.num A' t.kids.length c' (deep + 1) rb _ HSZT.out HND3.out HSHT.out (by omega) HE3.out HSRB.out).mono ?_
                  rintro e w4 ⟨rfl, hb4⟩
                  have HB4 : Hid (Below wr.heap.size wr w4) := HB3.out.trans (hb4.mono HB3.out.size)
                  have HE4 := Lib.hid (HE3.out.below hb4 (Nat.le_refl _))
                  clear hb4
                  cases hrt : rightT (deep + 1) t with
                  | false =>
                    have HV : Hid (rightT deep (.node k (bl s) x ks) = false) := by show _ = _; rw [HC.out, HST2.out, hrt]; simp
                    clear hrt
                    go_wp2_with fail
                    go_ret
                    exact NamePost.intro HV.out.symm (HBw.out.trans (HB4.out.mono HBw.out.size))
                  | true =>
                    have HST3 : Hid (rightL k 0 (deep + 1) ks = rightL k (j + 1) (deep + 1) (ks.drop (j + 1))) := by show _ = _; rw [HST2.out, hrt]; simp
                    clear hrt
                    go_wp2_with fail
                    go_roundw
                    case rel => exact ⟨j + 1, by omega, by go_num, HBr.out.trans (HB4.out.mono HSr.out), HE4.out, HST3.out⟩
                    case measure => simp [intOf]; omega
              · have HV : Hid (rightT deep (.node k (bl s) x ks) = (k != 7 || setOk ks)) := by
                  show _ = _; rw [HC.out, HI.out]
                  rw [List.drop_eq_nil_of_le (by have := HNK.out; omega)]
                  simp [rightL]
                have HRL : Hid (rightL k 0 (deep + 1) ks = true) := by
                  show _ = _; rw [HI.out, List.drop_eq_nil_of_le (by have := HNK.out; omega)]; simp [rightL]
                by_cases hk7 : k = 7
                · exfalso
                  have := HR.out
                  rw [hk7] at this
                  simp [rowsOf] at this
                · have e7 : ((k : Int) != 7) = true := by simp; omega
                  have HV2 : Hid (rightT deep (.node k (bl s) x ks) = true) := by show _ = _; rw [HV.out]; simp [hk7]
                  clear hk7
                  go_wp2_with fail
                  go_ret
                  exact NamePost.intro HV2.out.symm HBw.out
          · go_enter Tryz.func80, Tryz.ntmps80
            go_wp2_with fail
            refine (p_rows k _).mono ?_
            rintro e w1 ⟨hb, hp⟩
            rw [HR.out] at hp
            simp only at hp
            obtain ⟨v, rfl, A1, n1, c1, rfl, hk1⟩ := hp
            have HB : Hid (Below w.heap.size w w1) := HB0.out.trans (hb.mono HB0.out.size)
            have HE1 := Lib.hid ((HE.out.below hb (Nat.le_refl _)).below ((Below.refl _ _).alloc (Nat.le_refl _) (.cells #[.slice A1 n1 c1, .bool false] 106)) (Nat.le_refl _))
            have hc0 := (hb.cell (p := ⟨w.heap.size, 0, none⟩) (by simp)).trans box4.1
            have hc1 := (hb.cell (p := ⟨w.heap.size, 1, none⟩) (by simp)).trans box4.2.1
            have hc2 := (hb.cell (p := ⟨w.heap.size, 2, none⟩) (by simp)).trans box4.2.2.1
            have hc3 := (hb.cell (p := ⟨w.heap.size, 3, none⟩) (by simp)).trans box4.2.2.2
            have hlt : w.heap.size < w1.heap.size := by have := hb.size; simp at this; omega
            have HN1 : Hid (n1 = l.length) := hk1.1
            have HKr := Lib.hid (HK.out.below hb)
            have HRr := Lib.hid (cell_below hb HRB.out)
            clear hb hk1
            go_wp2_with fail
            refine (p_says k s x A _ c _ HE1.out hs).mono ?_
            rintro e w2 ⟨rfl, hb⟩
            rw [HSY.out]
            have HB2 : Hid (Below w.heap.size w w2) := (HB.out.alloc HB.out.size _).trans (hb.mono (by simp; have := HB.out.size; omega))
            have hbw : Below w1.heap.size w1 w2 := ((Below.refl _ _).alloc (Nat.le_refl _) _).trans (hb.mono (by simp))
            have hd0 := (hbw.cell (p := ⟨w.heap.size, 0, none⟩) hlt).trans hc0
            have hd1 := (hbw.cell (p := ⟨w.heap.size, 1, none⟩) hlt).trans hc1
            have hd2 := (hbw.cell (p := ⟨w.heap.size, 2, none⟩) hlt).trans hc2
            have hd3 := (hbw.cell (p := ⟨w.heap.size, 3, none⟩) hlt).trans hc3
            have hr0 := (hb.cell (p := ⟨w1.heap.size, 0, none⟩) (by simp)).trans (box2n (w := w1)).1
            have hr1 := (hb.cell (p := ⟨w1.heap.size, 1, none⟩) (by simp)).trans (box2n (w := w1)).2
            have HE2 := Lib.hid (HE1.out.below hb (Nat.le_refl _))
            have HK2 := Lib.hid (HKr.out.below hbw)
            have HR2 := Lib.hid (cell_below hbw HRr.out)
            have hlt2 : w.heap.size < w2.heap.size := by have := hbw.size; omega
            clear hb hbw hc0 hc1 hc2 hc3 HE1 HKr HRr
            obtain rfl := HN1.out
            have hnn : l.length ≤ 9223372036854775807 := by have h1 := HK.out.2.1; have h2 := HK.out.2.2.1; unfold maxLen at h2; omega
            have HNK : Hid (l.length = ks.length) := HK.out.1
            go_wp2_with fail
            go_loopw [44] (fun i wr => ∃ j : Nat, j ≤ l.length ∧ i = .int .i64 j ∧ Hid (Below w2.heap.size w2 wr) ∧ Hid (EnvS wr) ∧ Hid (rightL k 0 (deep + 1) ks = rightL k j (deep + 1) (ks.drop j))) (fun i _ => l.length - (intOf i).toNat)
            case atStart => exact ⟨0, Nat.zero_le _, rfl, Below.refl _ _, HE2.out, rfl⟩
            case round =>
              obtain ⟨j, hj, rfl, HBr, HEr, HI⟩ := hrel
              have hbr := HBr.out
              have he0 := (hbr.cell (p := ⟨w.heap.size, 0, none⟩) hlt2).trans hd0
              have he3 := (hbr.cell (p := ⟨w.heap.size, 3, none⟩) hlt2).trans hd3
              have HKw := Lib.hid (HK2.out.below hbr)
              have HRw := Lib.hid (cell_below hbr HR2.out)
              have hltr : w.heap.size < wr.heap.size := by have := hbr.size; omega
              have HBw : Hid (Below w.heap.size w wr) := HB2.out.trans (hbr.mono HB2.out.size)
              have HSr : Hid (w2.heap.size ≤ wr.heap.size) := hbr.size
              clear hbr
              by_cases hlt : j < l.length
              · obtain ⟨b, o, t, rfl, ht, hat⟩ := HKw.out.get hlt
                obtain ⟨A', c', q0, q1, q2, q3, hnode⟩ := hat.cells
                have hqlt := cell_lt q0
                simp only at hqlt
                have HND := Lib.hid hnode
                have HSZT : Hid (t.sz ≤ m) := Nat.le_trans (sz_get ht) HSZ.out
                have HSHT : Hid (t.short 9223372036854775806) := shortL.get HSH.out ht
                have HST := Lib.hid (rightL_step HI.out ht)
                clear ht hat hnode
                cases hf : fitsB k t.kind j with
                | false =>
                  have HFF := Lib.hid hf
                  have HV : Hid (rightT deep (.node k (bl s) x ks) = false) := by show _ = _; rw [HC.out, HST.out, hf]; simp
                  clear hf
                  go_wp2_with fail
                  refine (p_fits k t.kind j _).mono ?_
                  rintro e w3 ⟨rfl, hb⟩
                  rw [HFF.out]
                  have HB3 : Hid (Below w.heap.size w w3) := (HBw.out.alloc HBw.out.size _).trans (hb.mono (by simp; omega))
                  clear hb
                  go_wp2_with fail
                  go_ret
                  exact NamePost.intro HV.out.symm HB3.out
                | true =>
                  have HFF := Lib.hid hf
                  have HST2 : Hid (rightL k 0 (deep + 1) ks = (rightT (deep + 1) t && rightL k (j + 1) (deep + 1) (ks.drop (j + 1)))) := by show _ = _; rw [HST.out, hf]; simp
                  clear hf
                  go_wp2_with fail
                  refine (p_fits k t.kind j _).mono ?_
                  rintro e w3 ⟨rfl, hb⟩
                  rw [HFF.out]
                  have hb3 : Below wr.heap.size wr w3 := ((Below.refl _ _).alloc (Nat.le_refl _) _).trans (hb.mono (by simp))
                  have HB3 := Lib.hid hb3
                  have s0 := (hb.cell (p := ⟨wr.heap.size, 0, none⟩) (by simp)).trans box4.1
                  have s1 := (hb.cell (p := ⟨wr.heap.size, 1, none⟩) (by simp)).trans box4.2.1
                  have s2 := (hb.cell (p := ⟨wr.heap.size, 2, none⟩) (by simp)).trans box4.2.2.1
                  have s3 := (hb.cell (p := ⟨wr.heap.size, 3, none⟩) (by simp)).trans box4.2.2.2
                  have srb := cell_below hb3 HRw.out
                  have HSRB := Lib.hid srb
                  have HND3 := Lib.hid (HND.out.below hb3)
                  have HE3 := Lib.hid (HEr.out.below hb3 (Nat.le_refl _))
                  have hcf := enter_right
                  clear hb hb3
                  go_wp2_with fail
                  refine (ih.out t t.kind (sb t.text) t.num A' t.kids.length c' (deep + 1) rb _ HSZT.out HND3.out HSHT.out (by omega) HE3.out HSRB.out).mono ?_
                  rintro e w4 ⟨rfl, hb4⟩
                  have HB4 : Hid (Below wr.heap.size wr w4) := HB3.out.trans (hb4.mono HB3.out.size)
                  have HE4 := Lib.hid (HE3.out.below hb4 (Nat.le_refl _))
                  clear hb4
                  cases hrt : rightT (deep + 1) t with
                  | false =>
                    have HV : Hid (rightT deep (.node k (bl s) x ks) = false) := by show _ = _; rw [HC.out, HST2.out, hrt]; simp
                    clear hrt
                    go_wp2_with fail
                    go_ret
                    exact NamePost.intro HV.out.symm (HBw.out.trans (HB4.out.mono HBw.out.size))
                  | true =>
                    have HST3 : Hid (rightL k 0 (deep + 1) ks = rightL k (j + 1) (deep + 1) (ks.drop (j + 1))) := by show _ = _; rw [HST2.out, hrt]; simp
                    clear hrt
                    go_wp2_with fail
                    go_roundw
                    case rel => exact ⟨j + 1, by omega, by go_num, HBr.out.trans (HB4.out.mono HSr.out), HE4.out, HST3.out⟩
                    case measure => simp [intOf]; omega
              · have HV : Hid (rightT deep (.node k (bl s) x ks) = (k != 7 || setOk ks)) := by
                  show _ = _; rw [HC.out, HI.out]
                  rw [List.drop_eq_nil_of_le (by have := HNK.out; omega)]
                  simp [rightL]
                have HRL : Hid (rightL k 0 (deep + 1) ks = true) := by
                  show _ = _; rw [HI.out, List.drop_eq_nil_of_le (by have := HNK.out; omega)]; simp [rightL]
                by_cases hk7 : k = 7
                · subst hk7
                  have hlen : 0 < l.length := by have := HR.out; simp [rowsOf] at this; rw [← this]; simp
                  obtain ⟨t0, ts, rfl, hcase⟩ := right7 HRL.out (by have := HNK.out; omega)
                  obtain ⟨b, o, t, rfl, ht, hat⟩ := HKw.out.get (i := 0) hlen
                  simp at ht
                  subst ht
                  obtain ⟨A', c', q0, q1, q2, q3, ks0, hnode, _, _, _, hk0⟩ := hat.cells
                  have hkk : t0.kids = ks0 := by rw [hnode]; rfl
                  simp only [Nat.zero_mul, Nat.add_zero] at q0 q3
                  rcases hcase with ⟨hk22, hso⟩ | ⟨hk26, u, us, hku, hso⟩
                  · have HV2 : Hid (rightT deep (.node 7 (bl s) x (t0 :: ts)) = true) := by show _ = _; rw [HV.out, hso]; rfl
                    rw [hk22] at q0
                    clear hat hnode hk0 hso q1 q2 q3 hkk hk22
                    go_wp2_with fail
                    go_ret
                    exact NamePost.intro HV2.out.symm HBw.out
                  · have HV2 : Hid (rightT deep (.node 7 (bl s) x (t0 :: ts)) = (u.kind == 22)) := by show _ = _; rw [HV.out, hso]; rfl
                    rw [hk26] at q0
                    obtain ⟨b2, o2, u', rfl, hu', hat2⟩ := hk0.get (i := 0) (by rw [hku]; simp)
                    rw [← hkk, hku] at hu'
                    simp at hu'
                    subst hu'
                    obtain ⟨A2, c2, p0, _⟩ := hat2.cells
                    simp only [Nat.zero_mul, Nat.add_zero] at p0
                    have hlk : (t0.kids.length : Int) = us.length + 1 := by rw [hku]; simp
                    rw [hku] at q3
                    clear hat hat2 hnode hk0 hso q1 q2 hkk hk26
                    go_wp2_with fail
                    go_ret
                    refine NamePost.intro ?_ HBw.out
                    rw [HV2.out, Bool.eq_iff_iff]
                    simp
                    omega
                · have e7 : ((k : Int) != 7) = true := by simp; omega
                  have HV2 : Hid (rightT deep (.node k (bl s) x ks) = true) := by show _ = _; rw [HV.out]; simp [hk7]
                  clear hk7
                  go_wp2_with fail
                  go_ret
                  exact NamePost.intro HV2.out.symm HBw.out

theorem right_all : ∀ m, RightC m
  | 0 => by
    intro t k s x A n c deep rb w hsz
    obtain ⟨k0, s0, x0, ks0⟩ := t
    simp [Tree.sz] at hsz
  | m + 1 => right_step m (Lib.hid (right_all m))

set_option maxHeartbeats 400000 in
theorem p_right (t : Tree) (k : Nat) (s : ByteArray) (x : Int) (A : Option Addr) (n c : Nat) (w : World) (hN : NodeIs w t k s x A n c) (hsh : t.short 9223372036854775806) (hE : EnvS w) :
    Calls Tryz.prog 62 #[.agg #[.int .u8 k, .string s, .int .i64 x, .slice A n c]] w (NamePost (treeRight t) w) := by
  have HN := Lib.hid hN
  have HE := Lib.hid hE
  have HSH := Lib.hid hsh
  have hmf := run_makeFunc
  have hcf := enter_right
  clear hN hE hsh
  go_enter Tryz.func62, Tryz.ntmps62
  go_wp2_with fail
  have hb0 : Below w.heap.size w ((w.alloc (.cells #[.int .u8 k, .string s, .int .i64 x, .slice A n c] 40)).alloc (.cells #[.func (.func 80) #[] #[.pointer (some ⟨w.heap.size + 1, 0, none⟩)]] 104)) := ((Below.refl _ _).alloc (Nat.le_refl _) _).alloc (by simp) _
  refine (right_all t.sz t k s x A n c 1 (w.heap.size + 1) _ (Nat.le_refl _) (HN.out.below hb0) HSH.out (by omega) (HE.out.below hb0 (Nat.le_refl _)) (by go_simp)).mono ?_
  rintro e w1 ⟨rfl, hb⟩
  have HB : Hid (Below w.heap.size w w1) := hb0.trans (hb.mono hb0.size)
  clear hb hb0
  go_wp2_with fail
  go_ret
  exact NamePost.intro rfl HB.out
end Go.Proofs.YtmikjhohnfcedaaGreatDoor

namespace Go.Proofs.YtmikjhohnfcedaaGreatDoor
set_option linter.unusedSimpArgs false
set_option linter.unusedVariables false
open Go.RowKit
set_option linter.unusedSimpArgs false
set_option linter.unusedVariables false

theorem p_number (x : Int) (w : World) : Calls Tryz.prog 26 #[.int .i64 x] w (DrawnP (.bool (numberB x)) w) := by
  by_cases h0 : 0 ≤ x
  · by_cases h1 : x ≤ 1073741824
    · have HV : Hid (numberB x = true) := by show _ = _; simp [numberB, h0, h1]
      go_enter Tryz.func26, Tryz.ntmps26
      go_wp2
      go_ret
      exact ⟨ret_bool (by rw [HV.out]), 0, rfl⟩
    · have HV : Hid (numberB x = false) := by show _ = _; simp [numberB, h1]
      go_enter Tryz.func26, Tryz.ntmps26
      go_wp2
      go_ret
      exact ⟨ret_bool (by rw [HV.out]), 0, rfl⟩
  · have HV : Hid (numberB x = false) := by show _ = _; simp [numberB, h0]
    go_enter Tryz.func26, Tryz.ntmps26
    go_wp2
    go_ret
    exact ⟨ret_bool (by rw [HV.out]), 0, rfl⟩
theorem p_nonumber (x : Int) (w : World) : Calls Tryz.prog 25 #[.int .i64 x] w (DrawnP (.bool (!numberB x)) w) := by
  go_enter Tryz.func25, Tryz.ntmps25
  go_wp2_with fail
  refine (p_number x _).mono ?_
  rintro e w1 ⟨rfl, q, rfl⟩
  go_wp2
  go_ret
  exact ⟨rfl, q, rfl⟩
theorem enter_nonumber (args : Array Value) (w : World) : (callFunc 25 args).run Tryz.prog w = .ok (.enter 25 args) w := run_enter Tryz.func25 (by kernel_rfl) (by kernel_rfl) args w
theorem all_step {xs : List Int} {j : Nat} {x : Int} (h : xs.all numberB = (xs.drop j).all numberB) (hx : xs[j]? = some x) : xs.all numberB = (numberB x && (xs.drop (j + 1)).all numberB) := by
  have h1 : j < xs.length := (List.getElem?_eq_some_iff.1 hx).1
  rw [h, List.drop_eq_getElem_cons h1]
  rw [List.getElem?_eq_getElem h1] at hx
  injection hx with hx
  rw [hx]
  rfl
def IndexP (b : Bool) (w : World) (e : Ending) (w' : World) : Prop := (∃ d, w' = w.drewN d) ∧ ∃ i : Int, e = .returned (.int .i64 i) ∧ (0 ≤ i ↔ b = true)
theorem IndexP.intro {b : Bool} {w : World} {d : Nat} {i : Int} (h : 0 ≤ i ↔ b = true) : IndexP b w (.returned (.int .i64 i)) (w.drewN d) := ⟨⟨d, rfl⟩, i, rfl, h⟩
set_option maxHeartbeats 1000000 in
theorem p_index_no (xs : List Int) (A : Option Addr) (n c : Nat) (w : World) (hx : IntsAt w xs A n c) :
    Calls Tryz.prog 57 #[.slice A n c, .func (.func 25) #[] #[]] w (IndexP (!xs.all numberB) w) := by
  have HX := Lib.hid hx
  have hnn : n ≤ 9223372036854775807 := by have h1 := hx.2.1; have h2 := hx.2.2.1; unfold maxLen at h2; omega
  have HL : Hid (n = xs.length) := hx.1
  have hcf := enter_nonumber
  clear hx
  go_enter Tryz.func57, Tryz.ntmps57
  go_wp2_with fail
  go_loopw [8] (fun i wr => ∃ j d : Nat, j ≤ n ∧ i = .int .i64 j ∧ wr = w.drewN d ∧ Hid (xs.all numberB = (xs.drop j).all numberB)) (fun i _ => n - (intOf i).toNat)
  case atStart => exact ⟨0, 0, Nat.zero_le _, rfl, rfl, rfl⟩
  case round =>
    obtain ⟨j, d, hj, rfl, rfl, HI⟩ := hrel
    by_cases hlt : j < n
    · obtain ⟨b, o, x, rfl, hxx, q0⟩ := HX.out.get hlt
      have HST := Lib.hid (all_step HI.out hxx)
      clear hxx
      cases hn : numberB x with
      | true =>
        have HNN := Lib.hid hn
        have HN : Hid (xs.all numberB = (xs.drop (j + 1)).all numberB) := by show _ = _; rw [HST.out, hn]; simp
        clear hn
        go_wp2_with fail
        refine (p_nonumber x _).mono ?_
        rintro e w3 ⟨rfl, q, rfl⟩
        rw [HNN.out]
        go_wp2
        go_roundw
        case rel => exact ⟨j + 1, d + q, by omega, by go_num, by simp [World.drewN, Nat.add_assoc], HN⟩
        case measure => simp [intOf]; omega
      | false =>
        have HNN := Lib.hid hn
        have HV : Hid (xs.all numberB = false) := by show _ = _; rw [HST.out, hn]; simp
        clear hn
        go_wp2_with fail
        refine (p_nonumber x _).mono ?_
        rintro e w3 ⟨rfl, q, rfl⟩
        rw [HNN.out]
        go_wp2
        go_ret
        exact IndexP.intro (by rw [HV.out]; simp)
    · have HV : Hid (xs.all numberB = true) := by
        show _ = _; have e1 := HL.out
        rw [HI.out, List.drop_eq_nil_of_le (by omega)]; rfl
      go_wp2_with fail
      go_ret
      exact IndexP.intro (by rw [HV.out]; simp)
theorem p_any_no (xs : List Int) (A : Option Addr) (n c : Nat) (w : World) (hx : IntsAt w xs A n c) :
    Calls Tryz.prog 24 #[.slice A n c, .func (.func 25) #[] #[]] w (DrawnP (.bool (!xs.all numberB)) w) := by
  have HX := Lib.hid hx
  clear hx
  go_enter Tryz.func24, Tryz.ntmps24
  go_wp2_with fail
  refine (p_index_no xs _ _ _ _ HX.out).mono ?_
  rintro e w1 ⟨⟨q, rfl⟩, i, rfl, hi⟩
  have HI := Lib.hid hi
  clear hi
  go_wp2
  go_ret
  exact ⟨ret_bool (by rw [Bool.eq_iff_iff, ← HI.out]; simp), q, rfl⟩

set_option maxHeartbeats 1000000 in
theorem p_part (ks : List Tree) (A : Option Addr) (n c : Nat) (w : World) (hK : KidsAt w ks A n c) (hsh : shortL 9223372036854775806 ks) (hE : EnvS w) :
    Calls Tryz.prog 28 #[.slice A n c] w (NamePost (partB ks) w) := by
  have hL := hK.1
  have HE := Lib.hid hE
  have hnn : n ≤ 9223372036854775807 := by have h1 := hK.2.1; have h2 := hK.2.2.1; unfold maxLen at h2; omega
  by_cases h1 : n = 1
  · subst h1
    obtain ⟨t, rfl⟩ : ∃ t, ks = [t] := List.length_eq_one_iff.1 hL.symm
    obtain ⟨b, o, t', rfl, ht, hat⟩ := hK.get (i := 0) (by omega)
    simp at ht
    subst ht
    simp only [Nat.zero_mul, Nat.add_zero] at hat
    obtain ⟨A1, c1, q0, q1, q2, q3, hnode⟩ := hat.cells
    have HN := Lib.hid hnode
    have HS : Hid (t.short 9223372036854775806) := by simp only [shortL] at hsh; exact hsh.1
    clear hK hat hnode hL hsh hE
    go_enter Tryz.func28, Tryz.ntmps28
    go_wp2_with fail
    refine (p_right t _ _ _ _ _ _ _ HN.out HS.out HE.out).mono ?_
    rintro e w3 ⟨rfl, hb3⟩
    have HB3 := Lib.hid hb3
    clear hb3
    go_wp2
    go_ret
    exact NamePost.intro rfl HB3.out
  · have HV : Hid (partB ks = false) := by
      show _ = _
      match ks, hL with
      | [], _ => rfl
      | [t], h => simp at h; omega
      | _ :: _ :: _, _ => rfl
    have e1 : ¬ (n : Int) = 1 := by omega
    clear hK hL hsh h1
    go_enter Tryz.func28, Tryz.ntmps28
    go_wp2
    go_ret
    exact NamePost.intro HV.out.symm (Below.refl _ _)
end Go.Proofs.YtmikjhohnfcedaaGreatDoor

namespace Go.Proofs.YtmikjhohnfcedaaGreatDoor
set_option linter.unusedSimpArgs false
set_option linter.unusedVariables false
open Go.RowKit
set_option linter.unusedSimpArgs false

/-- An edit's right as a function of its tests. -/
def ERV (k : Nat) (al ni nj i0 pe ij j0 nf nt ft em po pn eo en sm : Bool) : Bool :=
  if !al || !ni || !nj then false
  else if (!loneB k && (!i0 || pe)) || ((!ij) != (k == 5) && k != 2 && k != 3) || (!j0 && k != 5) then false
  else if (k == 1) != (nf && nt && !ft) || (k != 1 && !em) then false
  else if oldsB k != po || newsB k != pn || (!oldsB k && !eo) || (!newsB k && !en) then false
  else k == 1 || loneB k || (k == 4 && !sm)
theorem bthen {w w1 w2 : World} (h1 : Below w.heap.size w w1) (h2 : Below w1.heap.size w1 w2) : Below w.heap.size w w2 := h1.trans (h2.mono h1.size)
theorem bl_app (a b : ByteArray) : bl (a ++ b) = bl a ++ bl b := by simp [bl]
theorem er_eq (e : Edt) : editRight e = ERV e.kind (e.path.all numberB) (numberB e.at_) (numberB e.far) (e.at_ == 0) e.path.isEmpty (e.at_ == e.far) (e.far == 0) (isName e.frm) (isName e.to_) (e.frm == e.to_) (e.frm ++ e.to_).isEmpty (partB e.olds) (partB e.news) e.olds.isEmpty e.news.isEmpty (sameL e.olds e.news) := rfl
/-- What an edit's box holds. -/
def Box8 (w : World) (b : Nat) (x0 x1 x2 x3 x4 x5 x6 x7 : Value) : Prop :=
  w.cell? ⟨b, 0, none⟩ = some x0 ∧ w.cell? ⟨b, 1, none⟩ = some x1 ∧ w.cell? ⟨b, 2, none⟩ = some x2 ∧ w.cell? ⟨b, 3, none⟩ = some x3 ∧ w.cell? ⟨b, 4, none⟩ = some x4 ∧ w.cell? ⟨b, 5, none⟩ = some x5 ∧ w.cell? ⟨b, 6, none⟩ = some x6 ∧ w.cell? ⟨b, 7, none⟩ = some x7
theorem Box8.below {w w' : World} {b : Nat} {x0 x1 x2 x3 x4 x5 x6 x7 : Value} (h : Box8 w b x0 x1 x2 x3 x4 x5 x6 x7) (hb : Below w.heap.size w w') : Box8 w' b x0 x1 x2 x3 x4 x5 x6 x7 := by
  obtain ⟨h0, h1, h2, h3, h4, h5, h6, h7⟩ := h
  exact ⟨cell_below hb h0, cell_below hb h1, cell_below hb h2, cell_below hb h3, cell_below hb h4, cell_below hb h5, cell_below hb h6, cell_below hb h7⟩
theorem Box8.new {w : World} {x0 x1 x2 x3 x4 x5 x6 x7 : Value} {T : TypeId} : Box8 (w.alloc (.cells #[x0, x1, x2, x3, x4, x5, x6, x7] T)) w.heap.size x0 x1 x2 x3 x4 x5 x6 x7 := by
  refine ⟨?_, ?_, ?_, ?_, ?_, ?_, ?_, ?_⟩ <;> (rw [World.cell?_alloc_new]; rfl)

end Go.Proofs.YtmikjhohnfcedaaGreatDoor
