/- The walk over edit.Invert (chapter 14), at the kinds other than Move.
   What the walk over Commute knows of its boxes.
   What Commute's regions that draw their order are proved over. -/
import Derived.Test.YtmikjhohnfcedaaGreatDoorBkK
import Derived.Test.YtmikjhohnfcedaaGreatDoorBkE
import Derived.Deep.RegionWith
import Derived.Deep.RegionLaw
import Derived.Test.YtmikjhohnfcedaaGreatDoorBkI
import Derived.Test.YtmikjhohnfcedaaGreatDoorBkJ
import Derived.Deep.RegionHeld3
namespace Go.Proofs.YtmikjhohnfcedaaGreatDoor
set_option linter.unusedSimpArgs false
set_option linter.unusedVariables false
open Go.RowKit
set_option linter.unusedSimpArgs false

theorem after8b {w3 w4 : World} {B : Nat} {x0 x1 x2 x3 x4 x5 x6 x7 y0 y1 y2 y3 y4 y5 y6 y7 : Value} {T : TypeId} (hb4 : Below w3.heap.size w3 w4) (HX : w3.heap[B]? = some (.cells #[x0, x1, x2, x3, x4, x5, x6, x7] T (0, 0))) (HR : w3.heap[B + 1]? = some (.cells #[y0, y1, y2, y3, y4, y5, y6, y7] T (0, 0))) :
    Hid (Below w3.heap.size w3 w4) ∧ Hid (w4.heap[B]? = some (.cells #[x0, x1, x2, x3, x4, x5, x6, x7] T (0, 0))) ∧ Hid (w4.heap[B + 1]? = some (.cells #[y0, y1, y2, y3, y4, y5, y6, y7] T (0, 0))) ∧ Box8 w4 B x0 x1 x2 x3 x4 x5 x6 x7 ∧ (w4.frozen? ⟨B, 0, none⟩ = false ∧ w4.frozen? ⟨B, 1, none⟩ = false ∧ w4.frozen? ⟨B, 2, none⟩ = false ∧ w4.frozen? ⟨B, 3, none⟩ = false ∧ w4.frozen? ⟨B, 4, none⟩ = false ∧ w4.frozen? ⟨B, 5, none⟩ = false ∧ w4.frozen? ⟨B, 6, none⟩ = false ∧ w4.frozen? ⟨B, 7, none⟩ = false) := by
  have h1 := (hb4.block _ (Array.getElem?_eq_some_iff.1 HX).1).trans HX
  exact ⟨hb4, h1, (hb4.block _ (Array.getElem?_eq_some_iff.1 HR).1).trans HR, (boxF8 h1).cs, (boxF8 h1).fs⟩
theorem inv_res (tmps : Array Value) (W : World) (g : Nat) {x0 x1 x2 x3 x4 x5 x6 x7 : Value} (ht : tmps[2]?.getD undef = .pointer (some ⟨g, 0, none⟩)) (hb : Box8 W g x0 x1 x2 x3 x4 x5 x6 x7) :
    (results Tryz.f18 tmps).run Tryz.prog W = .ok (.agg #[x0, x1, x2, x3, x4, x5, x6, x7]) W := by
  obtain ⟨a0, a1, a2, a3, a4, a5, a6, a7⟩ := hb
  simp [results, Tryz.results18, go_sem, ht, a0, a1, a2, a3, a4, a5, a6, a7]
/-- Stores into one block leave another block's cells. -/
theorem Far.box {b g : Nat} {w w' : World} {x0 x1 x2 x3 x4 x5 x6 x7 : Value} (h : Far b w w') (hg : b ≤ g) (hb : Box8 w g x0 x1 x2 x3 x4 x5 x6 x7) : Box8 w' g x0 x1 x2 x3 x4 x5 x6 x7 := by
  obtain ⟨h0, h1, h2, h3, h4, h5, h6, h7⟩ := hb
  have e : ∀ j, w'.cell? ⟨g, j, none⟩ = w.cell? ⟨g, j, none⟩ := fun j => World.cell?_of_block (h g hg)
  exact ⟨(e 0).trans h0, (e 1).trans h1, (e 2).trans h2, (e 3).trans h3, (e 4).trans h4, (e 5).trans h5, (e 6).trans h6, (e 7).trans h7⟩
/-- Trees of the call's own stay over later calls and stores into older blocks. -/
theorem FreshK.on {w3 w4 W : World} {B b : Nat} {ks : List Tree} {A : Option Addr} {n c : Nat} (h : FreshK w3 B ks A n c) (hb : Below w3.heap.size w3 w4) (hf : Far b w4 W) (hB : b ≤ B) : KidsAt W ks A n c :=
  FreshK.kids (FreshK.keep h (Nat.le_refl _) fun a v ha hc => by rw [World.cell?_of_block (hf _ (by omega))]; exact cell_below hb hc)
set_option maxRecDepth 20000 in
set_option maxHeartbeats 4000000 in
theorem p_invert_2 (ps : List Int) (os ns : List Tree) (pA : Option Addr) (pn pc : Nat) (i j : Int) (f t : ByteArray) (oA : Option Addr) (on oc : Nat) (nA : Option Addr) (nn nc : Nat) (w : World)
    (hp : IntsAt w ps pA pn pc) (ho : KidsAt w os oA on oc) (hn : KidsAt w ns nA nn nc) (hE : EnvS w) (hsz : f.size + t.size ≤ 9223372036854775806) (hso : shortL 9223372036854775806 os) (hsn : shortL 9223372036854775806 ns) (hyes : editRight ⟨2, ps, i, j, bl f, bl t, os, ns⟩ = true) (hpn : pn ≤ 17592186044416) (hos : szL os ≤ 1000000) (hns : szL ns ≤ 1000000) :
    Calls Tryz.prog 18 #[.agg #[.int .u8 2, .slice pA pn pc, .int .i64 i, .int .i64 j, .string f, .string t, .slice oA on oc, .slice nA nn nc]] w (EdtPost (invertE ⟨2, ps, i, j, bl f, bl t, os, ns⟩) w) := by
  have hb0 : Below w.heap.size w ((w.alloc (.cells #[.int .u8 2, .slice pA pn pc, .int .i64 i, .int .i64 j, .string f, .string t, .slice oA on oc, .slice nA nn nc] 26)).alloc (.cells #[.int .u8 0, .slice none 0 0, .int .i64 0, .int .i64 0, .string ⟨#[]⟩, .string ⟨#[]⟩, .slice none 0 0, .slice none 0 0] 26)) := ((Below.refl _ _).alloc (Nat.le_refl _) _).alloc (by simp) _
  have HB0 := Lib.hid hb0
  have HE := Lib.hid (hE.below hb0 (Nat.le_refl _))
  have HI := Lib.hid (EditIs.below hb0 (show EditIs w ⟨2, ps, i, j, bl f, bl t, os, ns⟩ 2 pA pn pc i j f t oA on oc nA nn nc from ⟨ps, os, ns, rfl, hp, ho, hn⟩))
  have HV : Hid (invertE ⟨2, ps, i, j, bl f, bl t, os, ns⟩ = ⟨3, ps, i, j, bl t, bl f, ns, os⟩) := by show _ = _; unfold invertE; rw [hyes]; rfl
  have HP := Lib.hid hp
  have HO := Lib.hid ho
  have HN := Lib.hid hn
  have HYES := Lib.hid hyes
  clear hb0 hE hp ho hn hyes
  go_enter Tryz.func18, Tryz.ntmps18
  go_wp2_with fail
  refine (p_eright _ _ _ _ _ _ _ _ _ _ _ _ _ _ _ _ HI.out HE.out hsz hso hsn).mono ?_
  rintro en w1 ⟨rfl, hb1⟩
  rw [HYES.out]
  have hbox : w1.heap[w.heap.size]? = some (.cells #[.int .u8 2, .slice pA pn pc, .int .i64 i, .int .i64 j, .string f, .string t, .slice oA on oc, .slice nA nn nc] 26 (0, 0)) := (hb1.block _ (by simp; omega)).trans ((heap_alloc_old _ _ (by simp)).trans (heap_alloc_new _ _))
  have hres : w1.heap[w.heap.size + 1]? = some (.cells #[.int .u8 0, .slice none 0 0, .int .i64 0, .int .i64 0, .string ⟨#[]⟩, .string ⟨#[]⟩, .slice none 0 0, .slice none 0 0] 26 (0, 0)) := (hb1.block _ (by simp)).trans (heap_alloc_at (by simp))
  have HB1 := Lib.hid (bthen HB0.out hb1)
  have HS1 : Hid (w.heap.size + 2 ≤ w1.heap.size) := by show _ ≤ _; have := hb1.size; simp at this; omega
  obtain ⟨c0, c1, c2, c3, c4, c5, c6, c7⟩ := (boxF8 hbox).cs
  have HBX := Lib.hid hbox
  have HRS := Lib.hid hres
  clear hbox hres hb1
  go_wp2_with fail
  refine (p_clone_ints ps _ _ _ _ (HP.out.below HB1.out) hpn).mono ?_
  rintro en w2 ⟨A2, k2, rfl, ho2, hb2⟩
  have HB2 := Lib.hid (bthen HB1.out hb2)
  have HBX2 := Lib.hid ((hb2.block w.heap.size (by have := HS1.out; omega)).trans HBX.out)
  have HRS2 := Lib.hid ((hb2.block (w.heap.size + 1) (by have := HS1.out; omega)).trans HRS.out)
  have HS2 : Hid (w.heap.size + 2 ≤ w2.heap.size) := by have := hb2.size; have := HS1.out; show _ ≤ _; omega
  have HOW := Lib.hid ho2
  clear c0 c1 c2 c3 c4 c5 c6 c7 ho2 hb2
  obtain ⟨c0, c1, c2, c3, c4, c5, c6, c7⟩ := (boxF8 HBX2.out).cs
  obtain ⟨f0, f1, f2, f3, f4, f5, f6, f7⟩ := (boxF8 HBX2.out).fs
  go_wp2_with fail
  have HX5 := Lib.hid (box145 (y1 := .slice A2 ps.length k2) (y4 := .string t) (y5 := .string f) HBX2.out)
  have HR5 := Lib.hid (far145 (y1 := .slice A2 ps.length k2) (y4 := .string t) (y5 := .string f) HRS2.out)
  have HB5 : Hid (Below w.heap.size w (((w2.setCell ⟨w.heap.size, 1, none⟩ (.slice A2 ps.length k2)).setCell ⟨w.heap.size, 4, none⟩ (.string t)).setCell ⟨w.heap.size, 5, none⟩ (.string f))) := ((HB2.out.setCell (Nat.le_refl _) _).setCell (Nat.le_refl _) _).setCell (Nat.le_refl _) _
  have HO5 := Lib.hid (HO.out.below HB5.out)
  have HN5 := Lib.hid (HN.out.below HB5.out)
  have hl5 : Hid (w.heap.size + 1 < (((w2.setCell ⟨w.heap.size, 1, none⟩ (.slice A2 ps.length k2)).setCell ⟨w.heap.size, 4, none⟩ (.string t)).setCell ⟨w.heap.size, 5, none⟩ (.string f)).heap.size) := by show _ < _; have := HS2.out; simp; omega
  have hn5 : (w.heap.size + 2 ≤ (((w2.setCell ⟨w.heap.size, 1, none⟩ (.slice A2 ps.length k2)).setCell ⟨w.heap.size, 4, none⟩ (.string t)).setCell ⟨w.heap.size, 5, none⟩ (.string f)).heap.size) := by have := HS2.out; simp; omega
  go_region_law (first
    | (go_simp; go_at_call 45; refine (p_copies os _ _ _ w3 hos (HO5.out.below HQ.out)).mono ?_; rintro en w4 ⟨A4, k4, rfl, hf4, hb4⟩; obtain ⟨HQ4, HX4, HR4, ⟨m0, m1, m2, m3, m4, m5, m6, m7⟩, ⟨n0, n1, n2, n3, n4, n5, n6, n7⟩⟩ := after8b hb4 HX3.out HR3.out)
    | (go_simp; go_at_call 45; refine (p_copies ns _ _ _ _ hns (HN5.out.below (below_drews (Below.refl _ _) 1))).mono ?_; rintro en w3 ⟨A3, k3, rfl, hf3, hb3⟩; obtain ⟨HQ, HX3, HR3, ⟨d0, d1, d2, d3, d4, d5, d6, d7⟩, ⟨g0, g1, g2, g3, g4, g5, g6, g7⟩⟩ := after8 hb3 HX5.out HR5.out hl5.out))
  all_goals
    have HF3 := Lib.hid hf3
    have HF4 := Lib.hid hf4
    have HB4 := Lib.hid (bthen (bthen HB5.out HQ.out) HQ4.out)
    obtain ⟨r0, r1, r2, r3, r4, r5, r6, r7⟩ := (boxF8 HR4.out).cs
    obtain ⟨s0, s1, s2, s3, s4, s5, s6, s7⟩ := (boxF8 HR4.out).fs
    clear hf3 hb3 hf4 hb4
    go_wp2_with fail
  all_goals
    have HFA : Hid (Far (w.heap.size + 1) w4 (((w4.setCell ⟨w.heap.size, 6, none⟩ (.slice A3 nn k3)).setCell ⟨w.heap.size, 7, none⟩ (.slice A4 on k4)).setCell ⟨w.heap.size, 0, none⟩ (.int .u8 3))) := (((Far.refl (w.heap.size + 1) w4).set (p := ⟨w.heap.size, 6, none⟩) (u := .slice A3 nn k3) (by simp)).set (p := ⟨w.heap.size, 7, none⟩) (u := .slice A4 on k4) (by simp)).set (p := ⟨w.heap.size, 0, none⟩) (u := .int .u8 3) (by simp)
    have HFAR : Hid (Far (w.heap.size + 2) w4 (put8 (((w4.setCell ⟨w.heap.size, 6, none⟩ (.slice A3 nn k3)).setCell ⟨w.heap.size, 7, none⟩ (.slice A4 on k4)).setCell ⟨w.heap.size, 0, none⟩ (.int .u8 3)) (w.heap.size + 1) (.int .u8 3) (.slice A2 ps.length k2) (.int .i64 i) (.int .i64 j) (.string t) (.string f) (.slice A3 nn k3) (.slice A4 on k4))) := put8_far (fun q hq => HFA.out q (by omega)) (by omega)
    have HBF : Hid (Below w.heap.size w (put8 (((w4.setCell ⟨w.heap.size, 6, none⟩ (.slice A3 nn k3)).setCell ⟨w.heap.size, 7, none⟩ (.slice A4 on k4)).setCell ⟨w.heap.size, 0, none⟩ (.int .u8 3)) (w.heap.size + 1) (.int .u8 3) (.slice A2 ps.length k2) (.int .i64 i) (.int .i64 j) (.string t) (.string f) (.slice A3 nn k3) (.slice A4 on k4))) := put8_below (((HB4.out.setCell (p := ⟨w.heap.size, 6, none⟩) (Nat.le_refl _) (.slice A3 nn k3)).setCell (p := ⟨w.heap.size, 7, none⟩) (Nat.le_refl _) (.slice A4 on k4)).setCell (p := ⟨w.heap.size, 0, none⟩) (Nat.le_refl _) (.int .u8 3)) (by omega)
    have HNF : Hid (KidsAt (put8 (((w4.setCell ⟨w.heap.size, 6, none⟩ (.slice A3 nn k3)).setCell ⟨w.heap.size, 7, none⟩ (.slice A4 on k4)).setCell ⟨w.heap.size, 0, none⟩ (.int .u8 3)) (w.heap.size + 1) (.int .u8 3) (.slice A2 ps.length k2) (.int .i64 i) (.int .i64 j) (.string t) (.string f) (.slice A3 nn k3) (.slice A4 on k4)) ns A3 nn k3) := HF3.out.on HQ4.out HFAR.out hn5
    have HOF : Hid (KidsAt (put8 (((w4.setCell ⟨w.heap.size, 6, none⟩ (.slice A3 nn k3)).setCell ⟨w.heap.size, 7, none⟩ (.slice A4 on k4)).setCell ⟨w.heap.size, 0, none⟩ (.int .u8 3)) (w.heap.size + 1) (.int .u8 3) (.slice A2 ps.length k2) (.int .i64 i) (.int .i64 j) (.string t) (.string f) (.slice A3 nn k3) (.slice A4 on k4)) os A4 on k4) := HF4.out.on (Below.refl _ _) HFAR.out (Nat.le_trans hn5 HQ.out.size)
    have HPF : Hid (IntsAt (put8 (((w4.setCell ⟨w.heap.size, 6, none⟩ (.slice A3 nn k3)).setCell ⟨w.heap.size, 7, none⟩ (.slice A4 on k4)).setCell ⟨w.heap.size, 0, none⟩ (.int .u8 3)) (w.heap.size + 1) (.int .u8 3) (.slice A2 ps.length k2) (.int .i64 i) (.int .i64 j) (.string t) (.string f) (.slice A3 nn k3) (.slice A4 on k4)) ps A2 ps.length k2 ∧ PathT (put8 (((w4.setCell ⟨w.heap.size, 6, none⟩ (.slice A3 nn k3)).setCell ⟨w.heap.size, 7, none⟩ (.slice A4 on k4)).setCell ⟨w.heap.size, 0, none⟩ (.int .u8 3)) (w.heap.size + 1) (.int .u8 3) (.slice A2 ps.length k2) (.int .i64 i) (.int .i64 j) (.string t) (.string f) (.slice A3 nn k3) (.slice A4 on k4)) ps A2) := by
      have h1 := Far.own HOW.out (((Far.refl (w.heap.size + 2) _).set (p := ⟨w.heap.size, 1, none⟩) (u := .slice A2 ps.length k2) (by simp)).set (p := ⟨w.heap.size, 4, none⟩) (u := .string t) (by simp) |>.set (p := ⟨w.heap.size, 5, none⟩) (u := .string f) (by simp)) HS1.out
      have h2 := Far.own (own_below (own_below h1 HQ.out (Nat.le_refl _)) HQ4.out (Nat.le_refl _)) HFAR.out HS1.out
      exact ⟨own_ints h2, PathT.own h2 rfl⟩
    refine bodyPost_ret (inv_res _ _ (w.heap.size + 1) rfl (put8_box (v0 := .int .u8 3) (v1 := .slice A2 ps.length k2) (v2 := .int .i64 i) (v3 := .int .i64 j) (v4 := .string t) (v5 := .string f) (v6 := .slice A3 nn k3) (v7 := .slice A4 on k4) (HFA.out.box (Nat.le_refl _) (boxF8 HR4.out).cs))) rfl ?_
    rw [HV.out]
    exact ⟨3, A2, ps.length, k2, i, j, t, f, A3, nn, k3, A4, on, k4, rfl, ⟨ps, ns, os, rfl, HPF.out.1, HNF.out, HOF.out⟩, HPF.out.2, HBF.out⟩
set_option maxRecDepth 20000 in
set_option maxHeartbeats 4000000 in
theorem p_invert_3 (ps : List Int) (os ns : List Tree) (pA : Option Addr) (pn pc : Nat) (i j : Int) (f t : ByteArray) (oA : Option Addr) (on oc : Nat) (nA : Option Addr) (nn nc : Nat) (w : World)
    (hp : IntsAt w ps pA pn pc) (ho : KidsAt w os oA on oc) (hn : KidsAt w ns nA nn nc) (hE : EnvS w) (hsz : f.size + t.size ≤ 9223372036854775806) (hso : shortL 9223372036854775806 os) (hsn : shortL 9223372036854775806 ns) (hyes : editRight ⟨3, ps, i, j, bl f, bl t, os, ns⟩ = true) (hpn : pn ≤ 17592186044416) (hos : szL os ≤ 1000000) (hns : szL ns ≤ 1000000) :
    Calls Tryz.prog 18 #[.agg #[.int .u8 3, .slice pA pn pc, .int .i64 i, .int .i64 j, .string f, .string t, .slice oA on oc, .slice nA nn nc]] w (EdtPost (invertE ⟨3, ps, i, j, bl f, bl t, os, ns⟩) w) := by
  have hb0 : Below w.heap.size w ((w.alloc (.cells #[.int .u8 3, .slice pA pn pc, .int .i64 i, .int .i64 j, .string f, .string t, .slice oA on oc, .slice nA nn nc] 26)).alloc (.cells #[.int .u8 0, .slice none 0 0, .int .i64 0, .int .i64 0, .string ⟨#[]⟩, .string ⟨#[]⟩, .slice none 0 0, .slice none 0 0] 26)) := ((Below.refl _ _).alloc (Nat.le_refl _) _).alloc (by simp) _
  have HB0 := Lib.hid hb0
  have HE := Lib.hid (hE.below hb0 (Nat.le_refl _))
  have HI := Lib.hid (EditIs.below hb0 (show EditIs w ⟨3, ps, i, j, bl f, bl t, os, ns⟩ 3 pA pn pc i j f t oA on oc nA nn nc from ⟨ps, os, ns, rfl, hp, ho, hn⟩))
  have HV : Hid (invertE ⟨3, ps, i, j, bl f, bl t, os, ns⟩ = ⟨2, ps, i, j, bl t, bl f, ns, os⟩) := by show _ = _; unfold invertE; rw [hyes]; rfl
  have HP := Lib.hid hp
  have HO := Lib.hid ho
  have HN := Lib.hid hn
  have HYES := Lib.hid hyes
  clear hb0 hE hp ho hn hyes
  go_enter Tryz.func18, Tryz.ntmps18
  go_wp2_with fail
  refine (p_eright _ _ _ _ _ _ _ _ _ _ _ _ _ _ _ _ HI.out HE.out hsz hso hsn).mono ?_
  rintro en w1 ⟨rfl, hb1⟩
  rw [HYES.out]
  have hbox : w1.heap[w.heap.size]? = some (.cells #[.int .u8 3, .slice pA pn pc, .int .i64 i, .int .i64 j, .string f, .string t, .slice oA on oc, .slice nA nn nc] 26 (0, 0)) := (hb1.block _ (by simp; omega)).trans ((heap_alloc_old _ _ (by simp)).trans (heap_alloc_new _ _))
  have hres : w1.heap[w.heap.size + 1]? = some (.cells #[.int .u8 0, .slice none 0 0, .int .i64 0, .int .i64 0, .string ⟨#[]⟩, .string ⟨#[]⟩, .slice none 0 0, .slice none 0 0] 26 (0, 0)) := (hb1.block _ (by simp)).trans (heap_alloc_at (by simp))
  have HB1 := Lib.hid (bthen HB0.out hb1)
  have HS1 : Hid (w.heap.size + 2 ≤ w1.heap.size) := by show _ ≤ _; have := hb1.size; simp at this; omega
  obtain ⟨c0, c1, c2, c3, c4, c5, c6, c7⟩ := (boxF8 hbox).cs
  have HBX := Lib.hid hbox
  have HRS := Lib.hid hres
  clear hbox hres hb1
  go_wp2_with fail
  refine (p_clone_ints ps _ _ _ _ (HP.out.below HB1.out) hpn).mono ?_
  rintro en w2 ⟨A2, k2, rfl, ho2, hb2⟩
  have HB2 := Lib.hid (bthen HB1.out hb2)
  have HBX2 := Lib.hid ((hb2.block w.heap.size (by have := HS1.out; omega)).trans HBX.out)
  have HRS2 := Lib.hid ((hb2.block (w.heap.size + 1) (by have := HS1.out; omega)).trans HRS.out)
  have HS2 : Hid (w.heap.size + 2 ≤ w2.heap.size) := by have := hb2.size; have := HS1.out; show _ ≤ _; omega
  have HOW := Lib.hid ho2
  clear c0 c1 c2 c3 c4 c5 c6 c7 ho2 hb2
  obtain ⟨c0, c1, c2, c3, c4, c5, c6, c7⟩ := (boxF8 HBX2.out).cs
  obtain ⟨f0, f1, f2, f3, f4, f5, f6, f7⟩ := (boxF8 HBX2.out).fs
  go_wp2_with fail
  have HX5 := Lib.hid (box145 (y1 := .slice A2 ps.length k2) (y4 := .string t) (y5 := .string f) HBX2.out)
  have HR5 := Lib.hid (far145 (y1 := .slice A2 ps.length k2) (y4 := .string t) (y5 := .string f) HRS2.out)
  have HB5 : Hid (Below w.heap.size w (((w2.setCell ⟨w.heap.size, 1, none⟩ (.slice A2 ps.length k2)).setCell ⟨w.heap.size, 4, none⟩ (.string t)).setCell ⟨w.heap.size, 5, none⟩ (.string f))) := ((HB2.out.setCell (Nat.le_refl _) _).setCell (Nat.le_refl _) _).setCell (Nat.le_refl _) _
  have HO5 := Lib.hid (HO.out.below HB5.out)
  have HN5 := Lib.hid (HN.out.below HB5.out)
  have hl5 : Hid (w.heap.size + 1 < (((w2.setCell ⟨w.heap.size, 1, none⟩ (.slice A2 ps.length k2)).setCell ⟨w.heap.size, 4, none⟩ (.string t)).setCell ⟨w.heap.size, 5, none⟩ (.string f)).heap.size) := by show _ < _; have := HS2.out; simp; omega
  have hn5 : (w.heap.size + 2 ≤ (((w2.setCell ⟨w.heap.size, 1, none⟩ (.slice A2 ps.length k2)).setCell ⟨w.heap.size, 4, none⟩ (.string t)).setCell ⟨w.heap.size, 5, none⟩ (.string f)).heap.size) := by have := HS2.out; simp; omega
  go_region_law (first
    | (go_simp; go_at_call 45; refine (p_copies os _ _ _ w3 hos (HO5.out.below HQ.out)).mono ?_; rintro en w4 ⟨A4, k4, rfl, hf4, hb4⟩; obtain ⟨HQ4, HX4, HR4, ⟨m0, m1, m2, m3, m4, m5, m6, m7⟩, ⟨n0, n1, n2, n3, n4, n5, n6, n7⟩⟩ := after8b hb4 HX3.out HR3.out)
    | (go_simp; go_at_call 45; refine (p_copies ns _ _ _ _ hns (HN5.out.below (below_drews (Below.refl _ _) 1))).mono ?_; rintro en w3 ⟨A3, k3, rfl, hf3, hb3⟩; obtain ⟨HQ, HX3, HR3, ⟨d0, d1, d2, d3, d4, d5, d6, d7⟩, ⟨g0, g1, g2, g3, g4, g5, g6, g7⟩⟩ := after8 hb3 HX5.out HR5.out hl5.out))
  all_goals
    have HF3 := Lib.hid hf3
    have HF4 := Lib.hid hf4
    have HB4 := Lib.hid (bthen (bthen HB5.out HQ.out) HQ4.out)
    obtain ⟨r0, r1, r2, r3, r4, r5, r6, r7⟩ := (boxF8 HR4.out).cs
    obtain ⟨s0, s1, s2, s3, s4, s5, s6, s7⟩ := (boxF8 HR4.out).fs
    clear hf3 hb3 hf4 hb4
    go_wp2_with fail
  all_goals
    have HFA : Hid (Far (w.heap.size + 1) w4 (((w4.setCell ⟨w.heap.size, 6, none⟩ (.slice A3 nn k3)).setCell ⟨w.heap.size, 7, none⟩ (.slice A4 on k4)).setCell ⟨w.heap.size, 0, none⟩ (.int .u8 2))) := (((Far.refl (w.heap.size + 1) w4).set (p := ⟨w.heap.size, 6, none⟩) (u := .slice A3 nn k3) (by simp)).set (p := ⟨w.heap.size, 7, none⟩) (u := .slice A4 on k4) (by simp)).set (p := ⟨w.heap.size, 0, none⟩) (u := .int .u8 2) (by simp)
    have HFAR : Hid (Far (w.heap.size + 2) w4 (put8 (((w4.setCell ⟨w.heap.size, 6, none⟩ (.slice A3 nn k3)).setCell ⟨w.heap.size, 7, none⟩ (.slice A4 on k4)).setCell ⟨w.heap.size, 0, none⟩ (.int .u8 2)) (w.heap.size + 1) (.int .u8 2) (.slice A2 ps.length k2) (.int .i64 i) (.int .i64 j) (.string t) (.string f) (.slice A3 nn k3) (.slice A4 on k4))) := put8_far (fun q hq => HFA.out q (by omega)) (by omega)
    have HBF : Hid (Below w.heap.size w (put8 (((w4.setCell ⟨w.heap.size, 6, none⟩ (.slice A3 nn k3)).setCell ⟨w.heap.size, 7, none⟩ (.slice A4 on k4)).setCell ⟨w.heap.size, 0, none⟩ (.int .u8 2)) (w.heap.size + 1) (.int .u8 2) (.slice A2 ps.length k2) (.int .i64 i) (.int .i64 j) (.string t) (.string f) (.slice A3 nn k3) (.slice A4 on k4))) := put8_below (((HB4.out.setCell (p := ⟨w.heap.size, 6, none⟩) (Nat.le_refl _) (.slice A3 nn k3)).setCell (p := ⟨w.heap.size, 7, none⟩) (Nat.le_refl _) (.slice A4 on k4)).setCell (p := ⟨w.heap.size, 0, none⟩) (Nat.le_refl _) (.int .u8 2)) (by omega)
    have HNF : Hid (KidsAt (put8 (((w4.setCell ⟨w.heap.size, 6, none⟩ (.slice A3 nn k3)).setCell ⟨w.heap.size, 7, none⟩ (.slice A4 on k4)).setCell ⟨w.heap.size, 0, none⟩ (.int .u8 2)) (w.heap.size + 1) (.int .u8 2) (.slice A2 ps.length k2) (.int .i64 i) (.int .i64 j) (.string t) (.string f) (.slice A3 nn k3) (.slice A4 on k4)) ns A3 nn k3) := HF3.out.on HQ4.out HFAR.out hn5
    have HOF : Hid (KidsAt (put8 (((w4.setCell ⟨w.heap.size, 6, none⟩ (.slice A3 nn k3)).setCell ⟨w.heap.size, 7, none⟩ (.slice A4 on k4)).setCell ⟨w.heap.size, 0, none⟩ (.int .u8 2)) (w.heap.size + 1) (.int .u8 2) (.slice A2 ps.length k2) (.int .i64 i) (.int .i64 j) (.string t) (.string f) (.slice A3 nn k3) (.slice A4 on k4)) os A4 on k4) := HF4.out.on (Below.refl _ _) HFAR.out (Nat.le_trans hn5 HQ.out.size)
    have HPF : Hid (IntsAt (put8 (((w4.setCell ⟨w.heap.size, 6, none⟩ (.slice A3 nn k3)).setCell ⟨w.heap.size, 7, none⟩ (.slice A4 on k4)).setCell ⟨w.heap.size, 0, none⟩ (.int .u8 2)) (w.heap.size + 1) (.int .u8 2) (.slice A2 ps.length k2) (.int .i64 i) (.int .i64 j) (.string t) (.string f) (.slice A3 nn k3) (.slice A4 on k4)) ps A2 ps.length k2 ∧ PathT (put8 (((w4.setCell ⟨w.heap.size, 6, none⟩ (.slice A3 nn k3)).setCell ⟨w.heap.size, 7, none⟩ (.slice A4 on k4)).setCell ⟨w.heap.size, 0, none⟩ (.int .u8 2)) (w.heap.size + 1) (.int .u8 2) (.slice A2 ps.length k2) (.int .i64 i) (.int .i64 j) (.string t) (.string f) (.slice A3 nn k3) (.slice A4 on k4)) ps A2) := by
      have h1 := Far.own HOW.out (((Far.refl (w.heap.size + 2) _).set (p := ⟨w.heap.size, 1, none⟩) (u := .slice A2 ps.length k2) (by simp)).set (p := ⟨w.heap.size, 4, none⟩) (u := .string t) (by simp) |>.set (p := ⟨w.heap.size, 5, none⟩) (u := .string f) (by simp)) HS1.out
      have h2 := Far.own (own_below (own_below h1 HQ.out (Nat.le_refl _)) HQ4.out (Nat.le_refl _)) HFAR.out HS1.out
      exact ⟨own_ints h2, PathT.own h2 rfl⟩
    refine bodyPost_ret (inv_res _ _ (w.heap.size + 1) rfl (put8_box (v0 := .int .u8 2) (v1 := .slice A2 ps.length k2) (v2 := .int .i64 i) (v3 := .int .i64 j) (v4 := .string t) (v5 := .string f) (v6 := .slice A3 nn k3) (v7 := .slice A4 on k4) (HFA.out.box (Nat.le_refl _) (boxF8 HR4.out).cs))) rfl ?_
    rw [HV.out]
    exact ⟨2, A2, ps.length, k2, i, j, t, f, A3, nn, k3, A4, on, k4, rfl, ⟨ps, ns, os, rfl, HPF.out.1, HNF.out, HOF.out⟩, HPF.out.2, HBF.out⟩
set_option maxRecDepth 20000 in
set_option maxHeartbeats 4000000 in
theorem p_invert_k (k : Nat) (ps : List Int) (os ns : List Tree) (pA : Option Addr) (pn pc : Nat) (i j : Int) (f t : ByteArray) (oA : Option Addr) (on oc : Nat) (nA : Option Addr) (nn nc : Nat) (w : World)
    (hp : IntsAt w ps pA pn pc) (ho : KidsAt w os oA on oc) (hn : KidsAt w ns nA nn nc) (hE : EnvS w) (hsz : f.size + t.size ≤ 9223372036854775806) (hso : shortL 9223372036854775806 os) (hsn : shortL 9223372036854775806 ns) (hyes : editRight ⟨k, ps, i, j, bl f, bl t, os, ns⟩ = true) (hpn : pn ≤ 17592186044416) (hos : szL os ≤ 1000000) (hns : szL ns ≤ 1000000) (hk : k ≠ 2 ∧ k ≠ 3 ∧ k ≠ 5) :
    Calls Tryz.prog 18 #[.agg #[.int .u8 k, .slice pA pn pc, .int .i64 i, .int .i64 j, .string f, .string t, .slice oA on oc, .slice nA nn nc]] w (EdtPost (invertE ⟨k, ps, i, j, bl f, bl t, os, ns⟩) w) := by
  have hb0 : Below w.heap.size w ((w.alloc (.cells #[.int .u8 k, .slice pA pn pc, .int .i64 i, .int .i64 j, .string f, .string t, .slice oA on oc, .slice nA nn nc] 26)).alloc (.cells #[.int .u8 0, .slice none 0 0, .int .i64 0, .int .i64 0, .string ⟨#[]⟩, .string ⟨#[]⟩, .slice none 0 0, .slice none 0 0] 26)) := ((Below.refl _ _).alloc (Nat.le_refl _) _).alloc (by simp) _
  have HB0 := Lib.hid hb0
  have HE := Lib.hid (hE.below hb0 (Nat.le_refl _))
  have HI := Lib.hid (EditIs.below hb0 (show EditIs w ⟨k, ps, i, j, bl f, bl t, os, ns⟩ k pA pn pc i j f t oA on oc nA nn nc from ⟨ps, os, ns, rfl, hp, ho, hn⟩))
  have HV : Hid (invertE ⟨k, ps, i, j, bl f, bl t, os, ns⟩ = ⟨k, ps, i, j, bl t, bl f, ns, os⟩) := by show _ = _; unfold invertE; rw [hyes]; obtain ⟨h2, h3, h5⟩ := hk; simp [h2, h3, h5]
  have HP := Lib.hid hp
  have HO := Lib.hid ho
  have HN := Lib.hid hn
  have HYES := Lib.hid hyes
  clear hb0 hE hp ho hn hyes
  have q2 : ((k : Int) == 2) = false := by simp; omega
  have q3 : ((k : Int) == 3) = false := by simp; omega
  have q5 : ((k : Int) == 5) = false := by simp; omega
  clear hk
  go_enter Tryz.func18, Tryz.ntmps18
  go_wp2_with fail
  refine (p_eright _ _ _ _ _ _ _ _ _ _ _ _ _ _ _ _ HI.out HE.out hsz hso hsn).mono ?_
  rintro en w1 ⟨rfl, hb1⟩
  rw [HYES.out]
  have hbox : w1.heap[w.heap.size]? = some (.cells #[.int .u8 k, .slice pA pn pc, .int .i64 i, .int .i64 j, .string f, .string t, .slice oA on oc, .slice nA nn nc] 26 (0, 0)) := (hb1.block _ (by simp; omega)).trans ((heap_alloc_old _ _ (by simp)).trans (heap_alloc_new _ _))
  have hres : w1.heap[w.heap.size + 1]? = some (.cells #[.int .u8 0, .slice none 0 0, .int .i64 0, .int .i64 0, .string ⟨#[]⟩, .string ⟨#[]⟩, .slice none 0 0, .slice none 0 0] 26 (0, 0)) := (hb1.block _ (by simp)).trans (heap_alloc_at (by simp))
  have HB1 := Lib.hid (bthen HB0.out hb1)
  have HS1 : Hid (w.heap.size + 2 ≤ w1.heap.size) := by show _ ≤ _; have := hb1.size; simp at this; omega
  obtain ⟨c0, c1, c2, c3, c4, c5, c6, c7⟩ := (boxF8 hbox).cs
  have HBX := Lib.hid hbox
  have HRS := Lib.hid hres
  clear hbox hres hb1
  go_wp2_with fail
  refine (p_clone_ints ps _ _ _ _ (HP.out.below HB1.out) hpn).mono ?_
  rintro en w2 ⟨A2, k2, rfl, ho2, hb2⟩
  have HB2 := Lib.hid (bthen HB1.out hb2)
  have HBX2 := Lib.hid ((hb2.block w.heap.size (by have := HS1.out; omega)).trans HBX.out)
  have HRS2 := Lib.hid ((hb2.block (w.heap.size + 1) (by have := HS1.out; omega)).trans HRS.out)
  have HS2 : Hid (w.heap.size + 2 ≤ w2.heap.size) := by have := hb2.size; have := HS1.out; show _ ≤ _; omega
  have HOW := Lib.hid ho2
  clear c0 c1 c2 c3 c4 c5 c6 c7 ho2 hb2
  obtain ⟨c0, c1, c2, c3, c4, c5, c6, c7⟩ := (boxF8 HBX2.out).cs
  obtain ⟨f0, f1, f2, f3, f4, f5, f6, f7⟩ := (boxF8 HBX2.out).fs
  go_wp2_with fail
  have HX5 := Lib.hid (box145 (y1 := .slice A2 ps.length k2) (y4 := .string t) (y5 := .string f) HBX2.out)
  have HR5 := Lib.hid (far145 (y1 := .slice A2 ps.length k2) (y4 := .string t) (y5 := .string f) HRS2.out)
  have HB5 : Hid (Below w.heap.size w (((w2.setCell ⟨w.heap.size, 1, none⟩ (.slice A2 ps.length k2)).setCell ⟨w.heap.size, 4, none⟩ (.string t)).setCell ⟨w.heap.size, 5, none⟩ (.string f))) := ((HB2.out.setCell (Nat.le_refl _) _).setCell (Nat.le_refl _) _).setCell (Nat.le_refl _) _
  have HO5 := Lib.hid (HO.out.below HB5.out)
  have HN5 := Lib.hid (HN.out.below HB5.out)
  have hl5 : Hid (w.heap.size + 1 < (((w2.setCell ⟨w.heap.size, 1, none⟩ (.slice A2 ps.length k2)).setCell ⟨w.heap.size, 4, none⟩ (.string t)).setCell ⟨w.heap.size, 5, none⟩ (.string f)).heap.size) := by show _ < _; have := HS2.out; simp; omega
  have hn5 : (w.heap.size + 2 ≤ (((w2.setCell ⟨w.heap.size, 1, none⟩ (.slice A2 ps.length k2)).setCell ⟨w.heap.size, 4, none⟩ (.string t)).setCell ⟨w.heap.size, 5, none⟩ (.string f)).heap.size) := by have := HS2.out; simp; omega
  go_region_law (first
    | (go_simp; go_at_call 45; refine (p_copies os _ _ _ w3 hos (HO5.out.below HQ.out)).mono ?_; rintro en w4 ⟨A4, k4, rfl, hf4, hb4⟩; obtain ⟨HQ4, HX4, HR4, ⟨m0, m1, m2, m3, m4, m5, m6, m7⟩, ⟨n0, n1, n2, n3, n4, n5, n6, n7⟩⟩ := after8b hb4 HX3.out HR3.out)
    | (go_simp; go_at_call 45; refine (p_copies ns _ _ _ _ hns (HN5.out.below (below_drews (Below.refl _ _) 1))).mono ?_; rintro en w3 ⟨A3, k3, rfl, hf3, hb3⟩; obtain ⟨HQ, HX3, HR3, ⟨d0, d1, d2, d3, d4, d5, d6, d7⟩, ⟨g0, g1, g2, g3, g4, g5, g6, g7⟩⟩ := after8 hb3 HX5.out HR5.out hl5.out))
  all_goals
    have HF3 := Lib.hid hf3
    have HF4 := Lib.hid hf4
    have HB4 := Lib.hid (bthen (bthen HB5.out HQ.out) HQ4.out)
    obtain ⟨r0, r1, r2, r3, r4, r5, r6, r7⟩ := (boxF8 HR4.out).cs
    obtain ⟨s0, s1, s2, s3, s4, s5, s6, s7⟩ := (boxF8 HR4.out).fs
    clear hf3 hb3 hf4 hb4
    go_wp2_with fail
  all_goals
    have HFA : Hid (Far (w.heap.size + 1) w4 ((w4.setCell ⟨w.heap.size, 6, none⟩ (.slice A3 nn k3)).setCell ⟨w.heap.size, 7, none⟩ (.slice A4 on k4))) := ((Far.refl (w.heap.size + 1) w4).set (p := ⟨w.heap.size, 6, none⟩) (u := .slice A3 nn k3) (by simp)).set (p := ⟨w.heap.size, 7, none⟩) (u := .slice A4 on k4) (by simp)
    have HFAR : Hid (Far (w.heap.size + 2) w4 (put8 ((w4.setCell ⟨w.heap.size, 6, none⟩ (.slice A3 nn k3)).setCell ⟨w.heap.size, 7, none⟩ (.slice A4 on k4)) (w.heap.size + 1) (.int .u8 k) (.slice A2 ps.length k2) (.int .i64 i) (.int .i64 j) (.string t) (.string f) (.slice A3 nn k3) (.slice A4 on k4))) := put8_far (fun q hq => HFA.out q (by omega)) (by omega)
    have HBF : Hid (Below w.heap.size w (put8 ((w4.setCell ⟨w.heap.size, 6, none⟩ (.slice A3 nn k3)).setCell ⟨w.heap.size, 7, none⟩ (.slice A4 on k4)) (w.heap.size + 1) (.int .u8 k) (.slice A2 ps.length k2) (.int .i64 i) (.int .i64 j) (.string t) (.string f) (.slice A3 nn k3) (.slice A4 on k4))) := put8_below ((HB4.out.setCell (p := ⟨w.heap.size, 6, none⟩) (Nat.le_refl _) (.slice A3 nn k3)).setCell (p := ⟨w.heap.size, 7, none⟩) (Nat.le_refl _) (.slice A4 on k4)) (by omega)
    have HNF : Hid (KidsAt (put8 ((w4.setCell ⟨w.heap.size, 6, none⟩ (.slice A3 nn k3)).setCell ⟨w.heap.size, 7, none⟩ (.slice A4 on k4)) (w.heap.size + 1) (.int .u8 k) (.slice A2 ps.length k2) (.int .i64 i) (.int .i64 j) (.string t) (.string f) (.slice A3 nn k3) (.slice A4 on k4)) ns A3 nn k3) := HF3.out.on HQ4.out HFAR.out hn5
    have HOF : Hid (KidsAt (put8 ((w4.setCell ⟨w.heap.size, 6, none⟩ (.slice A3 nn k3)).setCell ⟨w.heap.size, 7, none⟩ (.slice A4 on k4)) (w.heap.size + 1) (.int .u8 k) (.slice A2 ps.length k2) (.int .i64 i) (.int .i64 j) (.string t) (.string f) (.slice A3 nn k3) (.slice A4 on k4)) os A4 on k4) := HF4.out.on (Below.refl _ _) HFAR.out (Nat.le_trans hn5 HQ.out.size)
    have HPF : Hid (IntsAt (put8 ((w4.setCell ⟨w.heap.size, 6, none⟩ (.slice A3 nn k3)).setCell ⟨w.heap.size, 7, none⟩ (.slice A4 on k4)) (w.heap.size + 1) (.int .u8 k) (.slice A2 ps.length k2) (.int .i64 i) (.int .i64 j) (.string t) (.string f) (.slice A3 nn k3) (.slice A4 on k4)) ps A2 ps.length k2 ∧ PathT (put8 ((w4.setCell ⟨w.heap.size, 6, none⟩ (.slice A3 nn k3)).setCell ⟨w.heap.size, 7, none⟩ (.slice A4 on k4)) (w.heap.size + 1) (.int .u8 k) (.slice A2 ps.length k2) (.int .i64 i) (.int .i64 j) (.string t) (.string f) (.slice A3 nn k3) (.slice A4 on k4)) ps A2) := by
      have h1 := Far.own HOW.out (((Far.refl (w.heap.size + 2) _).set (p := ⟨w.heap.size, 1, none⟩) (u := .slice A2 ps.length k2) (by simp)).set (p := ⟨w.heap.size, 4, none⟩) (u := .string t) (by simp) |>.set (p := ⟨w.heap.size, 5, none⟩) (u := .string f) (by simp)) HS1.out
      have h2 := Far.own (own_below (own_below h1 HQ.out (Nat.le_refl _)) HQ4.out (Nat.le_refl _)) HFAR.out HS1.out
      exact ⟨own_ints h2, PathT.own h2 rfl⟩
    refine bodyPost_ret (inv_res _ _ (w.heap.size + 1) rfl (put8_box (v0 := .int .u8 k) (v1 := .slice A2 ps.length k2) (v2 := .int .i64 i) (v3 := .int .i64 j) (v4 := .string t) (v5 := .string f) (v6 := .slice A3 nn k3) (v7 := .slice A4 on k4) (HFA.out.box (Nat.le_refl _) (boxF8 HR4.out).cs))) rfl ?_
    rw [HV.out]
    exact ⟨k, A2, ps.length, k2, i, j, t, f, A3, nn, k3, A4, on, k4, rfl, ⟨ps, ns, os, rfl, HPF.out.1, HNF.out, HOF.out⟩, HPF.out.2, HBF.out⟩
theorem p_invert (e : Edt) (k : Nat) (pA : Option Addr) (pn pc : Nat) (i j : Int) (f t : ByteArray) (oA : Option Addr) (on oc : Nat) (nA : Option Addr) (nn nc : Nat) (w : World)
    (h : EditIs w e k pA pn pc i j f t oA on oc nA nn nc) (hE : EnvS w) (ht : e.tiny) :
    Calls Tryz.prog 18 #[.agg #[.int .u8 k, .slice pA pn pc, .int .i64 i, .int .i64 j, .string f, .string t, .slice oA on oc, .slice nA nn nc]] w (EdtPost (invertE e) w) := by
  have hso := tiny_sho ht (L := 9223372036854775806) (by omega)
  have hsn := tiny_shn ht (L := 9223372036854775806) (by omega)
  have hos := Nat.le_trans (tiny_olds ht) (show 60 ≤ 1000000 by omega)
  have hns := Nat.le_trans (tiny_news ht) (show 60 ≤ 1000000 by omega)
  have h' := h
  obtain ⟨ps, os, ns, rfl, hp, ho, hn⟩ := h
  have hsz : f.size + t.size ≤ 9223372036854775806 := Nat.le_trans ht.texts (by omega)
  have hpn : pn ≤ 17592186044416 := by rw [hp.1]; exact Nat.le_trans ht.path (by omega)
  cases hr : editRight ⟨k, ps, i, j, bl f, bl t, os, ns⟩ with
  | false => exact p_invert_no _ _ _ _ _ _ _ _ _ _ _ _ _ _ _ _ h' hE hsz hso hsn hr
  | true =>
    by_cases h5 : k = 5
    · subst h5; exact p_invert_5 ps os ns pA pn pc i j f t oA on oc nA nn nc w hp ho hn hE hsz hso hsn hr hpn hos
    by_cases h2 : k = 2
    · subst h2; exact p_invert_2 ps os ns pA pn pc i j f t oA on oc nA nn nc w hp ho hn hE hsz hso hsn hr hpn hos hns
    by_cases h3 : k = 3
    · subst h3; exact p_invert_3 ps os ns pA pn pc i j f t oA on oc nA nn nc w hp ho hn hE hsz hso hsn hr hpn hos hns
    exact p_invert_k k ps os ns pA pn pc i j f t oA on oc nA nn nc w hp ho hn hE hsz hso hsn hr hpn hos hns ⟨h2, h3, h5⟩
end Go.Proofs.YtmikjhohnfcedaaGreatDoor

namespace Go.Proofs.YtmikjhohnfcedaaGreatDoor
set_option linter.unusedSimpArgs false
set_option linter.unusedVariables false
open Go.RowKit
set_option linter.unusedSimpArgs false

abbrev Z8 : Array Value := #[.int .u8 0, .slice none 0 0, .int .i64 0, .int .i64 0, .string ⟨#[]⟩, .string ⟨#[]⟩, .slice none 0 0, .slice none 0 0]
abbrev Z12 : Array Value := #[.int .u8 0, .slice none 0 0, .int .i64 0, .int .i64 0, .string ⟨#[]⟩, .string ⟨#[]⟩, .slice none 0 0, .slice none 0 0, .slice none 0 0, .slice none 0 0, .bool false, .bool false]
/-- Two edits' boxes and the two answers' boxes. -/
structure CBox (B : Nat) (x0 x1 x2 x3 x4 x5 x6 x7 y0 y1 y2 y3 y4 y5 y6 y7 : Value) (w : World) : Prop where
  bx : w.heap[B]? = some (.cells #[x0, x1, x2, x3, x4, x5, x6, x7] 26 (0, 0))
  bz : w.heap[B + 1]? = some (.cells #[y0, y1, y2, y3, y4, y5, y6, y7] 26 (0, 0))
  ra : w.heap[B + 1 + 1]? = some (.cells Z8 26 (0, 0))
  rb : w.heap[B + 1 + 1 + 1]? = some (.cells Z8 26 (0, 0))
theorem CBox.next {B : Nat} {x0 x1 x2 x3 x4 x5 x6 x7 y0 y1 y2 y3 y4 y5 y6 y7 : Value} {w w' : World} (h : CBox B x0 x1 x2 x3 x4 x5 x6 x7 y0 y1 y2 y3 y4 y5 y6 y7 w) (hb : Below w.heap.size w w') : CBox B x0 x1 x2 x3 x4 x5 x6 x7 y0 y1 y2 y3 y4 y5 y6 y7 w' := by
  obtain ⟨h1, h2, h3, h4⟩ := h
  have l : ∀ {g : Nat} {o : Obj}, w.heap[g]? = some o → w'.heap[g]? = some o := fun e => (hb.block _ (Array.getElem?_eq_some_iff.1 e).1).trans e
  exact ⟨l h1, l h2, l h3, l h4⟩
theorem CBox.size {B : Nat} {x0 x1 x2 x3 x4 x5 x6 x7 y0 y1 y2 y3 y4 y5 y6 y7 : Value} {w : World} (h : CBox B x0 x1 x2 x3 x4 x5 x6 x7 y0 y1 y2 y3 y4 y5 y6 y7 w) : B + 4 ≤ w.heap.size := by
  have := (Array.getElem?_eq_some_iff.1 h.rb).1
  omega
/-- A box of zeros. -/
def ZB8 (w : World) (g : Nat) : Prop := w.heap[g]? = some (.cells Z8 26 (0, 0))
def ZB12 (w : World) (g : Nat) : Prop := w.heap[g]? = some (.cells Z12 45 (0, 0))
theorem ZB8.next {w w' : World} {g : Nat} (h : ZB8 w g) (hb : Below w.heap.size w w') : ZB8 w' g := (hb.block _ (Array.getElem?_eq_some_iff.1 h).1).trans h
theorem ZB12.next {w w' : World} {g : Nat} (h : ZB12 w g) (hb : Below w.heap.size w w') : ZB12 w' g := (hb.block _ (Array.getElem?_eq_some_iff.1 h).1).trans h
theorem ZB8.lt {w : World} {g : Nat} (h : ZB8 w g) : g < w.heap.size := (Array.getElem?_eq_some_iff.1 h).1
theorem ZB12.lt {w : World} {g : Nat} (h : ZB12 w g) : g < w.heap.size := (Array.getElem?_eq_some_iff.1 h).1
theorem bel_alloc {X W : World} (h : Below X.heap.size X W) (o : Obj) : Below X.heap.size X (W.alloc o) := h.alloc h.size o
theorem bel_drew {X W : World} (h : Below X.heap.size X W) (n : Nat) : Below X.heap.size X (W.drewN n) := below_drews h n
theorem bel_drew1 {X W : World} (h : Below X.heap.size X W) : Below X.heap.size X W.drew := h.drew
theorem CBox.alloc {B : Nat} {x0 x1 x2 x3 x4 x5 x6 x7 y0 y1 y2 y3 y4 y5 y6 y7 : Value} {w : World} {o : Obj} (h : CBox B x0 x1 x2 x3 x4 x5 x6 x7 y0 y1 y2 y3 y4 y5 y6 y7 w) : CBox B x0 x1 x2 x3 x4 x5 x6 x7 y0 y1 y2 y3 y4 y5 y6 y7 (w.alloc o) := h.next (bel_alloc (Below.refl _ _) o)
theorem CBox.drewN {B : Nat} {x0 x1 x2 x3 x4 x5 x6 x7 y0 y1 y2 y3 y4 y5 y6 y7 : Value} {w : World} {n : Nat} (h : CBox B x0 x1 x2 x3 x4 x5 x6 x7 y0 y1 y2 y3 y4 y5 y6 y7 w) : CBox B x0 x1 x2 x3 x4 x5 x6 x7 y0 y1 y2 y3 y4 y5 y6 y7 (w.drewN n) := h.next (bel_drew (Below.refl _ _) n)
theorem CBox.drew {B : Nat} {x0 x1 x2 x3 x4 x5 x6 x7 y0 y1 y2 y3 y4 y5 y6 y7 : Value} {w : World} (h : CBox B x0 x1 x2 x3 x4 x5 x6 x7 y0 y1 y2 y3 y4 y5 y6 y7 w) : CBox B x0 x1 x2 x3 x4 x5 x6 x7 y0 y1 y2 y3 y4 y5 y6 y7 w.drew := h.next (bel_drew1 (Below.refl _ _))
theorem CBox.set {B : Nat} {x0 x1 x2 x3 x4 x5 x6 x7 y0 y1 y2 y3 y4 y5 y6 y7 : Value} {w : World} {p : Addr} {u : Value} (h : CBox B x0 x1 x2 x3 x4 x5 x6 x7 y0 y1 y2 y3 y4 y5 y6 y7 w) (hp : B + 4 ≤ p.block) : CBox B x0 x1 x2 x3 x4 x5 x6 x7 y0 y1 y2 y3 y4 y5 y6 y7 (w.setCell p u) := by
  obtain ⟨h1, h2, h3, h4⟩ := h
  refine ⟨?_, ?_, ?_, ?_⟩ <;> rw [Below.heap_setCell _ _ _ _ (by omega)] <;> assumption
theorem ZB12.alloc {w : World} {g : Nat} {o : Obj} (h : ZB12 w g) : ZB12 (w.alloc o) g := h.next (bel_alloc (Below.refl _ _) o)
theorem ZB12.drewN {w : World} {g n : Nat} (h : ZB12 w g) : ZB12 (w.drewN n) g := h.next (bel_drew (Below.refl _ _) n)
theorem ZB12.drew {w : World} {g : Nat} (h : ZB12 w g) : ZB12 w.drew g := h.next (bel_drew1 (Below.refl _ _))
theorem ZB12.made {w : World} : ZB12 (w.alloc (.cells Z12 45)) w.heap.size := heap_alloc_new _ _
theorem ZB12.made2 {w : World} {o : Obj} : ZB12 ((w.alloc o).alloc (.cells Z12 45)) (w.heap.size + 1) := heap_alloc_at (by simp)
theorem ZB8.alloc {w : World} {g : Nat} {o : Obj} (h : ZB8 w g) : ZB8 (w.alloc o) g := h.next (bel_alloc (Below.refl _ _) o)
theorem ZB8.drewN {w : World} {g n : Nat} (h : ZB8 w g) : ZB8 (w.drewN n) g := h.next (bel_drew (Below.refl _ _) n)
theorem ZB8.drew {w : World} {g : Nat} (h : ZB8 w g) : ZB8 w.drew g := h.next (bel_drew1 (Below.refl _ _))
theorem ZB8.made {w : World} : ZB8 (w.alloc (.cells Z8 26)) w.heap.size := heap_alloc_new _ _
theorem ZB8.made2 {w : World} {o : Obj} : ZB8 ((w.alloc o).alloc (.cells Z8 26)) (w.heap.size + 1) := heap_alloc_at (by simp)
theorem com_S {B : Nat} {x0 x1 x2 x3 x4 x5 x6 x7 y0 y1 y2 y3 y4 y5 y6 y7 : Value} {w : World} (h : CBox B x0 x1 x2 x3 x4 x5 x6 x7 y0 y1 y2 y3 y4 y5 y6 y7 w) : w.cell? ⟨B, 0, none⟩ = some x0 ∧ w.cell? ⟨B, 1, none⟩ = some x1 ∧ w.cell? ⟨B, 2, none⟩ = some x2 ∧ w.cell? ⟨B, 3, none⟩ = some x3 ∧ w.cell? ⟨B, 4, none⟩ = some x4 ∧ w.cell? ⟨B, 5, none⟩ = some x5 ∧ w.cell? ⟨B, 6, none⟩ = some x6 ∧ w.cell? ⟨B, 7, none⟩ = some x7 ∧ w.cell? ⟨B + 1, 0, none⟩ = some y0 ∧ w.cell? ⟨B + 1, 1, none⟩ = some y1 ∧ w.cell? ⟨B + 1, 2, none⟩ = some y2 ∧ w.cell? ⟨B + 1, 3, none⟩ = some y3 ∧ w.cell? ⟨B + 1, 4, none⟩ = some y4 ∧ w.cell? ⟨B + 1, 5, none⟩ = some y5 ∧ w.cell? ⟨B + 1, 6, none⟩ = some y6 ∧ w.cell? ⟨B + 1, 7, none⟩ = some y7 := by
  obtain ⟨⟨c0, c1, c2, c3, c4, c5, c6, c7⟩, ⟨d0, d1, d2, d3, d4, d5, d6, d7⟩⟩ : Box8 w B x0 x1 x2 x3 x4 x5 x6 x7 ∧ Box8 w (B + 1) y0 y1 y2 y3 y4 y5 y6 y7 := ⟨(boxF8 h.bx).cs, (boxF8 h.bz).cs⟩
  exact ⟨c0, c1, c2, c3, c4, c5, c6, c7, d0, d1, d2, d3, d4, d5, d6, d7⟩
end Go.Proofs.YtmikjhohnfcedaaGreatDoor

namespace Go.Proofs.YtmikjhohnfcedaaGreatDoor
set_option linter.unusedSimpArgs false
set_option linter.unusedVariables false
open Go.RowKit
set_option linter.unusedSimpArgs false

/-- A region of a body, by its number. -/
def regOf (n : Nat) : Code → Option Code
  | .region id ops d => if id = n then some (.region id ops d) else none
  | .seq a b => match regOf n a with | some c => some c | none => regOf n b
  | .cond _ a b => match regOf n a with | some c => some c | none => regOf n b
  | .block _ a => regOf n a
  | .loop a => regOf n a
  | .scope a => regOf n a
  | _ => none
/-- Behind region 3: the two sides in boxes of their own. -/
structure Mid3 (w0 : World) (B : Nat) (e e' : Edt) (k : Nat) (pA : Option Addr) (pn pc : Nat) (i j : Int) (f t : ByteArray) (oA : Option Addr) (on oc : Nat) (nA : Option Addr) (nn nc : Nat) (k' : Nat) (pA' : Option Addr) (pn' pc' : Nat) (i' j' : Int) (f' t' : ByteArray) (oA' : Option Addr) (on' oc' : Nat) (nA' : Option Addr) (nn' nc' : Nat) (g g' : Nat) (w : World) : Prop where
  box : CBox B (.int .u8 k) (.slice pA pn pc) (.int .i64 i) (.int .i64 j) (.string f) (.string t) (.slice oA on oc) (.slice nA nn nc) (.int .u8 k') (.slice pA' pn' pc') (.int .i64 i') (.int .i64 j') (.string f') (.string t') (.slice oA' on' oc') (.slice nA' nn' nc') w
  bel : Below w0.heap.size w0 w
  sides : ∃ (mA : Option Addr) (mn mc : Nat) (bA : Option Addr) (bn bc : Nat) (mA' : Option Addr) (mn' mc' : Nat) (bA' : Option Addr) (bn' bc' : Nat),
    w.heap[g]? = some (.cells #[.int .u8 k, .slice pA pn pc, .int .i64 i, .int .i64 j, .string f, .string t, .slice oA on oc, .slice nA nn nc, .slice mA mn mc, .slice bA bn bc, .bool e.params, .bool e.calls] 45 (0, 0)) ∧
    w.heap[g']? = some (.cells #[.int .u8 k', .slice pA' pn' pc', .int .i64 i', .int .i64 j', .string f', .string t', .slice oA' on' oc', .slice nA' nn' nc', .slice mA' mn' mc', .slice bA' bn' bc', .bool e'.params, .bool e'.calls] 45 (0, 0)) ∧
    SideArg w e k pA pn pc i j f t oA on oc nA nn nc mA mn mc bA bn bc ∧ SideArg w e' k' pA' pn' pc' i' j' f' t' oA' on' oc' nA' nn' nc' mA' mn' mc' bA' bn' bc'
theorem put12_heap {w : World} {z : Nat} {v0 v1 v2 v3 v4 v5 v6 v7 v8 v9 v10 v11 x0 x1 x2 x3 x4 x5 x6 x7 x8 x9 x10 x11 : Value} {T : TypeId} (h : w.heap[z]? = some (.cells #[x0, x1, x2, x3, x4, x5, x6, x7, x8, x9, x10, x11] T (0, 0))) : (put12 w z v0 v1 v2 v3 v4 v5 v6 v7 v8 v9 v10 v11).heap[z]? = some (.cells #[v0, v1, v2, v3, v4, v5, v6, v7, v8, v9, v10, v11] T (0, 0)) := by
  simp [put12, World.setCell, Array.getElem?_modify, h]
theorem put12_other {w : World} {z q : Nat} {v0 v1 v2 v3 v4 v5 v6 v7 v8 v9 v10 v11 : Value} (hq : q ≠ z) : (put12 w z v0 v1 v2 v3 v4 v5 v6 v7 v8 v9 v10 v11).heap[q]? = w.heap[q]? := by
  simp only [put12]
  repeat rw [Below.heap_setCell _ _ _ _ (by exact hq)]
theorem put12_size {w : World} {z : Nat} {v0 v1 v2 v3 v4 v5 v6 v7 v8 v9 v10 v11 : Value} : (put12 w z v0 v1 v2 v3 v4 v5 v6 v7 v8 v9 v10 v11).heap.size = w.heap.size := by simp [put12]
theorem put12_butz {w : World} {z : Nat} {v0 v1 v2 v3 v4 v5 v6 v7 v8 v9 v10 v11 : Value} : But (notB z) w (put12 w z v0 v1 v2 v3 v4 v5 v6 v7 v8 v9 v10 v11) := put12_but (But.refl _ _) (notB_self _)
theorem put12_cbox {B : Nat} {a0 a1 a2 a3 a4 a5 a6 a7 b0 b1 b2 b3 b4 b5 b6 b7 : Value} {w : World} {z : Nat} {v0 v1 v2 v3 v4 v5 v6 v7 v8 v9 v10 v11 : Value} (h : CBox B a0 a1 a2 a3 a4 a5 a6 a7 b0 b1 b2 b3 b4 b5 b6 b7 w) (hz : B + 4 ≤ z) : CBox B a0 a1 a2 a3 a4 a5 a6 a7 b0 b1 b2 b3 b4 b5 b6 b7 (put12 w z v0 v1 v2 v3 v4 v5 v6 v7 v8 v9 v10 v11) := by
  obtain ⟨h1, h2, h3, h4⟩ := h
  exact ⟨(put12_other (by omega)).trans h1, (put12_other (by omega)).trans h2, (put12_other (by omega)).trans h3, (put12_other (by omega)).trans h4⟩
theorem mid_of {w0 W : World} {B g g' : Nat} {e e' : Edt} {k : Nat} {pA : Option Addr} {pn pc : Nat} {i j : Int} {f t : ByteArray} {oA : Option Addr} {on oc : Nat} {nA : Option Addr} {nn nc : Nat} {k' : Nat} {pA' : Option Addr} {pn' pc' : Nat} {i' j' : Int} {f' t' : ByteArray} {oA' : Option Addr} {on' oc' : Nat} {nA' : Option Addr} {nn' nc' : Nat} {mA : Option Addr} {mn mc : Nat} {bA : Option Addr} {bn bc : Nat} {mA' : Option Addr} {mn' mc' : Nat} {bA' : Option Addr} {bn' bc' : Nat} {ns ns' : List Bytes} (hwB : w0.heap.size ≤ B) (h : EditIs w0 e k pA pn pc i j f t oA on oc nA nn nc) (h' : EditIs w0 e' k' pA' pn' pc' i' j' f' t' oA' on' oc' nA' nn' nc') (hm : ∀ s, s ∈ ns ↔ s ∈ e.names) (hm' : ∀ s, s ∈ ns' ↔ s ∈ e'.names) (hB : Below w0.heap.size w0 W) (hC : CBox B (.int .u8 k) (.slice pA pn pc) (.int .i64 i) (.int .i64 j) (.string f) (.string t) (.slice oA on oc) (.slice nA nn nc) (.int .u8 k') (.slice pA' pn' pc') (.int .i64 i') (.int .i64 j') (.string f') (.string t') (.slice oA' on' oc') (.slice nA' nn' nc') W)
    (hg : W.heap[g]? = some (.cells #[.int .u8 k, .slice pA pn pc, .int .i64 i, .int .i64 j, .string f, .string t, .slice oA on oc, .slice nA nn nc, .slice mA mn mc, .slice bA bn bc, .bool e.params, .bool e.calls] 45 (0, 0))) (hg' : W.heap[g']? = some (.cells #[.int .u8 k', .slice pA' pn' pc', .int .i64 i', .int .i64 j', .string f', .string t', .slice oA' on' oc', .slice nA' nn' nc', .slice mA' mn' mc', .slice bA' bn' bc', .bool e'.params, .bool e'.calls] 45 (0, 0))) (s1 : StrsT W ns mA mn mc) (s2 : StrsT W e.binds bA bn bc) (s1' : StrsT W ns' mA' mn' mc') (s2' : StrsT W e'.binds bA' bn' bc') :
    Mid3 w0 B e e' k pA pn pc i j f t oA on oc nA nn nc k' pA' pn' pc' i' j' f' t' oA' on' oc' nA' nn' nc' g g' W :=
  ⟨hC, hB, mA, mn, mc, bA, bn, bc, mA', mn', mc', bA', bn', bc', hg, hg', ⟨h.below hB, s2.1, ns, hm, s1.1⟩, ⟨h'.below hB, s2'.1, ns', hm', s1'.1⟩⟩
theorem mid_f1 {w0 w4 : World} {B : Nat} {e e' : Edt} {k : Nat} {pA : Option Addr} {pn pc : Nat} {i j : Int} {f t : ByteArray} {oA : Option Addr} {on oc : Nat} {nA : Option Addr} {nn nc : Nat} {k' : Nat} {pA' : Option Addr} {pn' pc' : Nat} {i' j' : Int} {f' t' : ByteArray} {oA' : Option Addr} {on' oc' : Nat} {nA' : Option Addr} {nn' nc' : Nat} {mA : Option Addr} {mn mc : Nat} {bA : Option Addr} {bn bc : Nat} {mA' : Option Addr} {mn' mc' : Nat} {bA' : Option Addr} {bn' bc' : Nat} {ns ns' : List Bytes} (hwB : w0.heap.size ≤ B) (h : EditIs w0 e k pA pn pc i j f t oA on oc nA nn nc) (h' : EditIs w0 e' k' pA' pn' pc' i' j' f' t' oA' on' oc' nA' nn' nc') (hm : ∀ s, s ∈ ns ↔ s ∈ e.names) (hm' : ∀ s, s ∈ ns' ↔ s ∈ e'.names) (hB : Below w0.heap.size w0 w4) (hC : CBox B (.int .u8 k) (.slice pA pn pc) (.int .i64 i) (.int .i64 j) (.string f) (.string t) (.slice oA on oc) (.slice nA nn nc) (.int .u8 k') (.slice pA' pn' pc') (.int .i64 i') (.int .i64 j') (.string f') (.string t') (.slice oA' on' oc') (.slice nA' nn' nc') w4) (s1 : StrsT w4 ns mA mn mc) (s2 : StrsT w4 e.binds bA bn bc) (s1' : StrsT w4 ns' mA' mn' mc') (s2' : StrsT w4 e'.binds bA' bn' bc') :
    Mid3 w0 B e e' k pA pn pc i j f t oA on oc nA nn nc k' pA' pn' pc' i' j' f' t' oA' on' oc' nA' nn' nc' w4.heap.size (w4.heap.size + 1) ((w4.alloc (.cells #[.int .u8 k, .slice pA pn pc, .int .i64 i, .int .i64 j, .string f, .string t, .slice oA on oc, .slice nA nn nc, .slice mA mn mc, .slice bA bn bc, .bool e.params, .bool e.calls] 45)).alloc (.cells #[.int .u8 k', .slice pA' pn' pc', .int .i64 i', .int .i64 j', .string f', .string t', .slice oA' on' oc', .slice nA' nn' nc', .slice mA' mn' mc', .slice bA' bn' bc', .bool e'.params, .bool e'.calls] 45)) := by
  have hb : Below w4.heap.size w4 ((w4.alloc (.cells #[.int .u8 k, .slice pA pn pc, .int .i64 i, .int .i64 j, .string f, .string t, .slice oA on oc, .slice nA nn nc, .slice mA mn mc, .slice bA bn bc, .bool e.params, .bool e.calls] 45)).alloc (.cells #[.int .u8 k', .slice pA' pn' pc', .int .i64 i', .int .i64 j', .string f', .string t', .slice oA' on' oc', .slice nA' nn' nc', .slice mA' mn' mc', .slice bA' bn' bc', .bool e'.params, .bool e'.calls] 45)) := bel_alloc (bel_alloc (Below.refl _ _) _) _
  exact mid_of hwB h h' hm hm' (bthen hB hb) (hC.next hb) ((heap_alloc_old _ _ (by simp)).trans (heap_alloc_new _ _)) (heap_alloc_at (by simp)) (s1.below hb) (s2.below hb) (s1'.below hb) (s2'.below hb)
theorem mid_f2 {w0 w4 : World} {B : Nat} {e e' : Edt} {k : Nat} {pA : Option Addr} {pn pc : Nat} {i j : Int} {f t : ByteArray} {oA : Option Addr} {on oc : Nat} {nA : Option Addr} {nn nc : Nat} {k' : Nat} {pA' : Option Addr} {pn' pc' : Nat} {i' j' : Int} {f' t' : ByteArray} {oA' : Option Addr} {on' oc' : Nat} {nA' : Option Addr} {nn' nc' : Nat} {mA : Option Addr} {mn mc : Nat} {bA : Option Addr} {bn bc : Nat} {mA' : Option Addr} {mn' mc' : Nat} {bA' : Option Addr} {bn' bc' : Nat} {ns ns' : List Bytes} (hwB : w0.heap.size ≤ B) (h : EditIs w0 e k pA pn pc i j f t oA on oc nA nn nc) (h' : EditIs w0 e' k' pA' pn' pc' i' j' f' t' oA' on' oc' nA' nn' nc') (hm : ∀ s, s ∈ ns ↔ s ∈ e.names) (hm' : ∀ s, s ∈ ns' ↔ s ∈ e'.names) (hB : Below w0.heap.size w0 w4) (hC : CBox B (.int .u8 k) (.slice pA pn pc) (.int .i64 i) (.int .i64 j) (.string f) (.string t) (.slice oA on oc) (.slice nA nn nc) (.int .u8 k') (.slice pA' pn' pc') (.int .i64 i') (.int .i64 j') (.string f') (.string t') (.slice oA' on' oc') (.slice nA' nn' nc') w4) (s1 : StrsT w4 ns mA mn mc) (s2 : StrsT w4 e.binds bA bn bc) (s1' : StrsT w4 ns' mA' mn' mc') (s2' : StrsT w4 e'.binds bA' bn' bc') :
    Mid3 w0 B e e' k pA pn pc i j f t oA on oc nA nn nc k' pA' pn' pc' i' j' f' t' oA' on' oc' nA' nn' nc' (w4.heap.size + 1) w4.heap.size ((w4.alloc (.cells #[.int .u8 k', .slice pA' pn' pc', .int .i64 i', .int .i64 j', .string f', .string t', .slice oA' on' oc', .slice nA' nn' nc', .slice mA' mn' mc', .slice bA' bn' bc', .bool e'.params, .bool e'.calls] 45)).alloc (.cells #[.int .u8 k, .slice pA pn pc, .int .i64 i, .int .i64 j, .string f, .string t, .slice oA on oc, .slice nA nn nc, .slice mA mn mc, .slice bA bn bc, .bool e.params, .bool e.calls] 45)) := by
  have hb : Below w4.heap.size w4 ((w4.alloc (.cells #[.int .u8 k', .slice pA' pn' pc', .int .i64 i', .int .i64 j', .string f', .string t', .slice oA' on' oc', .slice nA' nn' nc', .slice mA' mn' mc', .slice bA' bn' bc', .bool e'.params, .bool e'.calls] 45)).alloc (.cells #[.int .u8 k, .slice pA pn pc, .int .i64 i, .int .i64 j, .string f, .string t, .slice oA on oc, .slice nA nn nc, .slice mA mn mc, .slice bA bn bc, .bool e.params, .bool e.calls] 45)) := bel_alloc (bel_alloc (Below.refl _ _) _) _
  exact mid_of hwB h h' hm hm' (bthen hB hb) (hC.next hb) (heap_alloc_at (by simp)) ((heap_alloc_old _ _ (by simp)).trans (heap_alloc_new _ _)) (s1.below hb) (s2.below hb) (s1'.below hb) (s2'.below hb)
theorem mid_f3 {w0 w4 : World} {B z : Nat} {e e' : Edt} {k : Nat} {pA : Option Addr} {pn pc : Nat} {i j : Int} {f t : ByteArray} {oA : Option Addr} {on oc : Nat} {nA : Option Addr} {nn nc : Nat} {k' : Nat} {pA' : Option Addr} {pn' pc' : Nat} {i' j' : Int} {f' t' : ByteArray} {oA' : Option Addr} {on' oc' : Nat} {nA' : Option Addr} {nn' nc' : Nat} {mA : Option Addr} {mn mc : Nat} {bA : Option Addr} {bn bc : Nat} {mA' : Option Addr} {mn' mc' : Nat} {bA' : Option Addr} {bn' bc' : Nat} {ns ns' : List Bytes} (hwB : w0.heap.size ≤ B) (h : EditIs w0 e k pA pn pc i j f t oA on oc nA nn nc) (h' : EditIs w0 e' k' pA' pn' pc' i' j' f' t' oA' on' oc' nA' nn' nc') (hm : ∀ s, s ∈ ns ↔ s ∈ e.names) (hm' : ∀ s, s ∈ ns' ↔ s ∈ e'.names) (hB : Below w0.heap.size w0 w4) (hC : CBox B (.int .u8 k) (.slice pA pn pc) (.int .i64 i) (.int .i64 j) (.string f) (.string t) (.slice oA on oc) (.slice nA nn nc) (.int .u8 k') (.slice pA' pn' pc') (.int .i64 i') (.int .i64 j') (.string f') (.string t') (.slice oA' on' oc') (.slice nA' nn' nc') w4) (hz : ZB12 w4 z) (hzB : B + 4 ≤ z) (s1 : StrsT w4 ns mA mn mc) (s2 : StrsT w4 e.binds bA bn bc) (s1' : StrsT w4 ns' mA' mn' mc') (s2' : StrsT w4 e'.binds bA' bn' bc') :
    Mid3 w0 B e e' k pA pn pc i j f t oA on oc nA nn nc k' pA' pn' pc' i' j' f' t' oA' on' oc' nA' nn' nc' z w4.heap.size ((put12 w4 z (.int .u8 k) (.slice pA pn pc) (.int .i64 i) (.int .i64 j) (.string f) (.string t) (.slice oA on oc) (.slice nA nn nc) (.slice mA mn mc) (.slice bA bn bc) (.bool e.params) (.bool e.calls)).alloc (.cells #[.int .u8 k', .slice pA' pn' pc', .int .i64 i', .int .i64 j', .string f', .string t', .slice oA' on' oc', .slice nA' nn' nc', .slice mA' mn' mc', .slice bA' bn' bc', .bool e'.params, .bool e'.calls] 45)) := by
  have hl := hz.lt
  have hb1 : But (notB z) w4 (put12 w4 z (.int .u8 k) (.slice pA pn pc) (.int .i64 i) (.int .i64 j) (.string f) (.string t) (.slice oA on oc) (.slice nA nn nc) (.slice mA mn mc) (.slice bA bn bc) (.bool e.params) (.bool e.calls)) := put12_butz
  have hb : Below (put12 w4 z (.int .u8 k) (.slice pA pn pc) (.int .i64 i) (.int .i64 j) (.string f) (.string t) (.slice oA on oc) (.slice nA nn nc) (.slice mA mn mc) (.slice bA bn bc) (.bool e.params) (.bool e.calls)).heap.size (put12 w4 z (.int .u8 k) (.slice pA pn pc) (.int .i64 i) (.int .i64 j) (.string f) (.string t) (.slice oA on oc) (.slice nA nn nc) (.slice mA mn mc) (.slice bA bn bc) (.bool e.params) (.bool e.calls)) ((put12 w4 z (.int .u8 k) (.slice pA pn pc) (.int .i64 i) (.int .i64 j) (.string f) (.string t) (.slice oA on oc) (.slice nA nn nc) (.slice mA mn mc) (.slice bA bn bc) (.bool e.params) (.bool e.calls)).alloc (.cells #[.int .u8 k', .slice pA' pn' pc', .int .i64 i', .int .i64 j', .string f', .string t', .slice oA' on' oc', .slice nA' nn' nc', .slice mA' mn' mc', .slice bA' bn' bc', .bool e'.params, .bool e'.calls] 45)) := bel_alloc (Below.refl _ _) _
  have hty : 45 ≠ 9 := by decide
  exact mid_of hwB h h' hm hm' ((put12_below hB (by omega)).trans (hb.mono (by rw [put12_size]; exact hB.size))) ((put12_cbox hC hzB).next hb) ((heap_alloc_old _ _ (by rw [put12_size]; exact hl)).trans (put12_heap hz)) (heap_alloc_at put12_size) ((s1.but hz hty hb1).below hb) ((s2.but hz hty hb1).below hb) ((s1'.but hz hty hb1).below hb) ((s2'.but hz hty hb1).below hb)
theorem mid_f4 {w0 w4 : World} {B z : Nat} {e e' : Edt} {k : Nat} {pA : Option Addr} {pn pc : Nat} {i j : Int} {f t : ByteArray} {oA : Option Addr} {on oc : Nat} {nA : Option Addr} {nn nc : Nat} {k' : Nat} {pA' : Option Addr} {pn' pc' : Nat} {i' j' : Int} {f' t' : ByteArray} {oA' : Option Addr} {on' oc' : Nat} {nA' : Option Addr} {nn' nc' : Nat} {mA : Option Addr} {mn mc : Nat} {bA : Option Addr} {bn bc : Nat} {mA' : Option Addr} {mn' mc' : Nat} {bA' : Option Addr} {bn' bc' : Nat} {ns ns' : List Bytes} (hwB : w0.heap.size ≤ B) (h : EditIs w0 e k pA pn pc i j f t oA on oc nA nn nc) (h' : EditIs w0 e' k' pA' pn' pc' i' j' f' t' oA' on' oc' nA' nn' nc') (hm : ∀ s, s ∈ ns ↔ s ∈ e.names) (hm' : ∀ s, s ∈ ns' ↔ s ∈ e'.names) (hB : Below w0.heap.size w0 w4) (hC : CBox B (.int .u8 k) (.slice pA pn pc) (.int .i64 i) (.int .i64 j) (.string f) (.string t) (.slice oA on oc) (.slice nA nn nc) (.int .u8 k') (.slice pA' pn' pc') (.int .i64 i') (.int .i64 j') (.string f') (.string t') (.slice oA' on' oc') (.slice nA' nn' nc') w4) (hz : ZB12 w4 z) (hzB : B + 4 ≤ z) (s1 : StrsT w4 ns mA mn mc) (s2 : StrsT w4 e.binds bA bn bc) (s1' : StrsT w4 ns' mA' mn' mc') (s2' : StrsT w4 e'.binds bA' bn' bc') :
    Mid3 w0 B e e' k pA pn pc i j f t oA on oc nA nn nc k' pA' pn' pc' i' j' f' t' oA' on' oc' nA' nn' nc' w4.heap.size z ((put12 w4 z (.int .u8 k') (.slice pA' pn' pc') (.int .i64 i') (.int .i64 j') (.string f') (.string t') (.slice oA' on' oc') (.slice nA' nn' nc') (.slice mA' mn' mc') (.slice bA' bn' bc') (.bool e'.params) (.bool e'.calls)).alloc (.cells #[.int .u8 k, .slice pA pn pc, .int .i64 i, .int .i64 j, .string f, .string t, .slice oA on oc, .slice nA nn nc, .slice mA mn mc, .slice bA bn bc, .bool e.params, .bool e.calls] 45)) := by
  have hl := hz.lt
  have hb1 : But (notB z) w4 (put12 w4 z (.int .u8 k') (.slice pA' pn' pc') (.int .i64 i') (.int .i64 j') (.string f') (.string t') (.slice oA' on' oc') (.slice nA' nn' nc') (.slice mA' mn' mc') (.slice bA' bn' bc') (.bool e'.params) (.bool e'.calls)) := put12_butz
  have hb : Below (put12 w4 z (.int .u8 k') (.slice pA' pn' pc') (.int .i64 i') (.int .i64 j') (.string f') (.string t') (.slice oA' on' oc') (.slice nA' nn' nc') (.slice mA' mn' mc') (.slice bA' bn' bc') (.bool e'.params) (.bool e'.calls)).heap.size (put12 w4 z (.int .u8 k') (.slice pA' pn' pc') (.int .i64 i') (.int .i64 j') (.string f') (.string t') (.slice oA' on' oc') (.slice nA' nn' nc') (.slice mA' mn' mc') (.slice bA' bn' bc') (.bool e'.params) (.bool e'.calls)) ((put12 w4 z (.int .u8 k') (.slice pA' pn' pc') (.int .i64 i') (.int .i64 j') (.string f') (.string t') (.slice oA' on' oc') (.slice nA' nn' nc') (.slice mA' mn' mc') (.slice bA' bn' bc') (.bool e'.params) (.bool e'.calls)).alloc (.cells #[.int .u8 k, .slice pA pn pc, .int .i64 i, .int .i64 j, .string f, .string t, .slice oA on oc, .slice nA nn nc, .slice mA mn mc, .slice bA bn bc, .bool e.params, .bool e.calls] 45)) := bel_alloc (Below.refl _ _) _
  have hty : 45 ≠ 9 := by decide
  exact mid_of hwB h h' hm hm' ((put12_below hB (by omega)).trans (hb.mono (by rw [put12_size]; exact hB.size))) ((put12_cbox hC hzB).next hb) (heap_alloc_at put12_size) ((heap_alloc_old _ _ (by rw [put12_size]; exact hl)).trans (put12_heap hz)) ((s1.but hz hty hb1).below hb) ((s2.but hz hty hb1).below hb) ((s1'.but hz hty hb1).below hb) ((s2'.but hz hty hb1).below hb)
theorem mid_f5 {w0 w4 : World} {B z z' : Nat} {e e' : Edt} {k : Nat} {pA : Option Addr} {pn pc : Nat} {i j : Int} {f t : ByteArray} {oA : Option Addr} {on oc : Nat} {nA : Option Addr} {nn nc : Nat} {k' : Nat} {pA' : Option Addr} {pn' pc' : Nat} {i' j' : Int} {f' t' : ByteArray} {oA' : Option Addr} {on' oc' : Nat} {nA' : Option Addr} {nn' nc' : Nat} {mA : Option Addr} {mn mc : Nat} {bA : Option Addr} {bn bc : Nat} {mA' : Option Addr} {mn' mc' : Nat} {bA' : Option Addr} {bn' bc' : Nat} {ns ns' : List Bytes} (hwB : w0.heap.size ≤ B) (h : EditIs w0 e k pA pn pc i j f t oA on oc nA nn nc) (h' : EditIs w0 e' k' pA' pn' pc' i' j' f' t' oA' on' oc' nA' nn' nc') (hm : ∀ s, s ∈ ns ↔ s ∈ e.names) (hm' : ∀ s, s ∈ ns' ↔ s ∈ e'.names) (hB : Below w0.heap.size w0 w4) (hC : CBox B (.int .u8 k) (.slice pA pn pc) (.int .i64 i) (.int .i64 j) (.string f) (.string t) (.slice oA on oc) (.slice nA nn nc) (.int .u8 k') (.slice pA' pn' pc') (.int .i64 i') (.int .i64 j') (.string f') (.string t') (.slice oA' on' oc') (.slice nA' nn' nc') w4) (hz : ZB12 w4 z) (hzB : B + 4 ≤ z) (hz' : ZB12 w4 z') (hzB' : B + 4 ≤ z') (hne : z ≠ z') (s1 : StrsT w4 ns mA mn mc) (s2 : StrsT w4 e.binds bA bn bc) (s1' : StrsT w4 ns' mA' mn' mc') (s2' : StrsT w4 e'.binds bA' bn' bc') :
    Mid3 w0 B e e' k pA pn pc i j f t oA on oc nA nn nc k' pA' pn' pc' i' j' f' t' oA' on' oc' nA' nn' nc' z z' (put12 (put12 w4 z (.int .u8 k) (.slice pA pn pc) (.int .i64 i) (.int .i64 j) (.string f) (.string t) (.slice oA on oc) (.slice nA nn nc) (.slice mA mn mc) (.slice bA bn bc) (.bool e.params) (.bool e.calls)) z' (.int .u8 k') (.slice pA' pn' pc') (.int .i64 i') (.int .i64 j') (.string f') (.string t') (.slice oA' on' oc') (.slice nA' nn' nc') (.slice mA' mn' mc') (.slice bA' bn' bc') (.bool e'.params) (.bool e'.calls)) := by
  have hb1 : But (notB z) w4 (put12 w4 z (.int .u8 k) (.slice pA pn pc) (.int .i64 i) (.int .i64 j) (.string f) (.string t) (.slice oA on oc) (.slice nA nn nc) (.slice mA mn mc) (.slice bA bn bc) (.bool e.params) (.bool e.calls)) := put12_butz
  have hb2 : But (notB z') (put12 w4 z (.int .u8 k) (.slice pA pn pc) (.int .i64 i) (.int .i64 j) (.string f) (.string t) (.slice oA on oc) (.slice nA nn nc) (.slice mA mn mc) (.slice bA bn bc) (.bool e.params) (.bool e.calls)) (put12 (put12 w4 z (.int .u8 k) (.slice pA pn pc) (.int .i64 i) (.int .i64 j) (.string f) (.string t) (.slice oA on oc) (.slice nA nn nc) (.slice mA mn mc) (.slice bA bn bc) (.bool e.params) (.bool e.calls)) z' (.int .u8 k') (.slice pA' pn' pc') (.int .i64 i') (.int .i64 j') (.string f') (.string t') (.slice oA' on' oc') (.slice nA' nn' nc') (.slice mA' mn' mc') (.slice bA' bn' bc') (.bool e'.params) (.bool e'.calls)) := put12_butz
  have hty : 45 ≠ 9 := by decide
  have hz2 : ZB12 (put12 w4 z (.int .u8 k) (.slice pA pn pc) (.int .i64 i) (.int .i64 j) (.string f) (.string t) (.slice oA on oc) (.slice nA nn nc) (.slice mA mn mc) (.slice bA bn bc) (.bool e.params) (.bool e.calls)) z' := (put12_other (Ne.symm hne)).trans hz'
  exact mid_of hwB h h' hm hm' (put12_below (put12_below hB (by omega)) (by omega)) (put12_cbox (put12_cbox hC hzB) hzB') ((put12_other hne).trans (put12_heap hz)) (put12_heap hz2) ((s1.but hz hty hb1).but hz2 hty hb2) ((s2.but hz hty hb1).but hz2 hty hb2) ((s1'.but hz hty hb1).but hz2 hty hb2) ((s2'.but hz hty hb1).but hz2 hty hb2)
end Go.Proofs.YtmikjhohnfcedaaGreatDoor
