/- Commute: two edits that are no edits of one list, way 1. -/
import Derived.Test.YtmikjhohnfcedaaGreatDoorBkN
import Derived.Deep.RegionHeld3
namespace Go.Proofs.YtmikjhohnfcedaaGreatDoor
set_option linter.unusedSimpArgs false
set_option linter.unusedVariables false
open Go.RowKit
set_option linter.unusedSimpArgs false

set_option maxRecDepth 20000 in
set_option maxHeartbeats 2000000 in
theorem p_com_e1 (e e' : Edt) (k : Nat) (pA : Option Addr) (pn pc : Nat) (i j : Int) (f t : ByteArray) (oA : Option Addr) (on oc : Nat) (nA : Option Addr) (nn nc : Nat) (k' : Nat) (pA' : Option Addr) (pn' pc' : Nat) (i' j' : Int) (f' t' : ByteArray) (oA' : Option Addr) (on' oc' : Nat) (nA' : Option Addr) (nn' nc' : Nat) (w : World)
    (h : EditIs w e k pA pn pc i j f t oA on oc nA nn nc) (h' : EditIs w e' k' pA' pn' pc' i' j' f' t' oA' on' oc' nA' nn' nc') (hE : EnvS w) (ht : e.tiny) (ht' : e'.tiny) (hr : editRight e = true) (hr' : editRight e' = true) (hm : mixesB e e' = false) (hl : (loneB e.kind && loneB e'.kind && e.path == e'.path) = false) (hl1 : loneB k = false) :
    Calls Tryz.prog 7 #[.agg #[.int .u8 k, .slice pA pn pc, .int .i64 i, .int .i64 j, .string f, .string t, .slice oA on oc, .slice nA nn nc], .agg #[.int .u8 k', .slice pA' pn' pc', .int .i64 i', .int .i64 j', .string f', .string t', .slice oA' on' oc', .slice nA' nn' nc']] w (ComPost (commuteE e e') w) := by
  have H := Lib.hid h
  have H' := Lib.hid h'
  have HE := Lib.hid hE
  have HT := Lib.hid ht
  have HT' := Lib.hid ht'
  have HSF : Hid (f.size + t.size ≤ 9223372036854775806) := by obtain ⟨ps, os, ns, rfl, _⟩ := h; exact Nat.le_trans ht.texts (by omega)
  have HSF' : Hid (f'.size + t'.size ≤ 9223372036854775806) := by obtain ⟨ps, os, ns, rfl, _⟩ := h'; exact Nat.le_trans ht'.texts (by omega)
  have HF := Lib.hid (comW_facts w (.int .u8 k) (.slice pA pn pc) (.int .i64 i) (.int .i64 j) (.string f) (.string t) (.slice oA on oc) (.slice nA nn nc) (.int .u8 k') (.slice pA' pn' pc') (.int .i64 i') (.int .i64 j') (.string f') (.string t') (.slice oA' on' oc') (.slice nA' nn' nc'))
  have HR := Lib.hid hr
  have HR' := Lib.hid hr'
  have HM := Lib.hid hm
  have HL1 := Lib.hid hl1
  have HSW := Lib.hid (swapped_way hl)
  have HK := Lib.hid h.kind
  have HK' := Lib.hid h'.kind
  clear h h' hE ht ht' hr hr' hm hl hl1
  go_enter Tryz.func7, Tryz.ntmps7
  go_wp2_with fail
  refine (p_eright e _ _ _ _ _ _ _ _ _ _ _ _ _ _ (comW w (.int .u8 k) (.slice pA pn pc) (.int .i64 i) (.int .i64 j) (.string f) (.string t) (.slice oA on oc) (.slice nA nn nc) (.int .u8 k') (.slice pA' pn' pc') (.int .i64 i') (.int .i64 j') (.string f') (.string t') (.slice oA' on' oc') (.slice nA' nn' nc')) (H.out.below HF.out.1) (HE.out.below HF.out.1 (Nat.le_refl _)) HSF.out (tiny_sho HT.out (by omega)) (tiny_shn HT.out (by omega))).mono ?_
  rintro en w1 ⟨rfl, hb1⟩
  rw [HR.out]
  have HB1 := Lib.hid (bthen HF.out.1 hb1)
  have HC1 := Lib.hid (HF.out.2.next hb1)
  clear hb1
  obtain ⟨⟨c0, c1, c2, c3, c4, c5, c6, c7⟩, ⟨d0, d1, d2, d3, d4, d5, d6, d7⟩, ⟨⟨m0, m1, m2, m3, m4, m5, m6, m7⟩, ⟨n0, n1, n2, n3, n4, n5, n6, n7⟩⟩, ⟨⟨r0, r1, r2, r3, r4, r5, r6, r7⟩, ⟨s0, s1, s2, s3, s4, s5, s6, s7⟩⟩⟩ := com_all HC1.out
  go_wp2_with fail
  refine (p_eright e' _ _ _ _ _ _ _ _ _ _ _ _ _ _ _ (H'.out.below HB1.out) (HE.out.below HB1.out (Nat.le_refl _)) HSF'.out (tiny_sho HT'.out (by omega)) (tiny_shn HT'.out (by omega))).mono ?_
  rintro en w2 ⟨rfl, hb2⟩
  rw [HR'.out]
  have HB2 := Lib.hid (bthen HB1.out hb2)
  have HC2 := Lib.hid (HC1.out.next hb2)
  clear hb2
  clear c0 c1 c2 c3 c4 c5 c6 c7 d0 d1 d2 d3 d4 d5 d6 d7 m0 m1 m2 m3 m4 m5 m6 m7 n0 n1 n2 n3 n4 n5 n6 n7 r0 r1 r2 r3 r4 r5 r6 r7 s0 s1 s2 s3 s4 s5 s6 s7
  obtain ⟨⟨c0, c1, c2, c3, c4, c5, c6, c7⟩, ⟨d0, d1, d2, d3, d4, d5, d6, d7⟩, ⟨⟨m0, m1, m2, m3, m4, m5, m6, m7⟩, ⟨n0, n1, n2, n3, n4, n5, n6, n7⟩⟩, ⟨⟨r0, r1, r2, r3, r4, r5, r6, r7⟩, ⟨s0, s1, s2, s3, s4, s5, s6, s7⟩⟩⟩ := com_all HC2.out
  go_upto_region 3 with fail
  refine com_r3 e e' k pA pn pc i j f t oA on oc nA nn nc k' pA' pn' pc' i' j' f' t' oA' on' oc' nA' nn' nc' w w2 w.heap.size (Nat.le_refl _) H.out H'.out HT.out HT'.out HR.out HR'.out HB2.out HC2.out _ _ _ _ _ _ _ _ _ _ _ _ _ _ _ _ _ _ _ _ _ _ _ _ _ _ _ _ _ _ _ _ _ _ _ _ _ _ _ _ _ _ _ _ _ _ _ _ _ _ _ _ _ _ _ _ _ _ _ _ _ _ _ _ _ _ _ _ _ _ _ _ _ _ _ _ _ _ _ _ _ _ _ _ _ _ _ _ _ _ _ _ _ _ _ _ _ ?_
  intro g g' v24 v26 w3 hm
  have HB3 := Lib.hid hm.bel
  have HC3 := Lib.hid hm.box
  obtain ⟨mA, mn, mc, bA, bn, bc, mA', mn', mc', bA', bn', bc', hg, hg', hs, hs'⟩ := hm.sides
  have HG := Lib.hid hg
  have HG' := Lib.hid hg'
  have HS := Lib.hid hs
  have HS' := Lib.hid hs'
  have hl3 := (Array.getElem?_eq_some_iff.1 hg).1
  obtain ⟨⟨a0, a1, a2, a3, a4, a5, a6, a7, a8, a9, a10, a11⟩, _⟩ := box12 hg
  obtain ⟨⟨b0, b1, b2, b3, b4, b5, b6, b7, b8, b9, b10, b11⟩, _⟩ := box12 hg'
  clear hm hg hg' hs hs'
  go_wp2_with fail
  refine (p_mixes e k pA pn pc i j f t oA on oc nA nn nc mA mn mc bA bn bc e' k' pA' pn' pc' i' j' f' t' oA' on' oc' nA' nn' nc' mA' mn' mc' bA' bn' bc' w3 HS.out HS'.out).mono ?_
  rintro en w4 ⟨rfl, hb4⟩
  rw [HM.out]
  have HB4 := Lib.hid (bthen HB3.out hb4)
  have HC4 := Lib.hid (HC3.out.next hb4)
  have HON := Lib.hid hb4
  clear hb4 a0 a1 a2 a3 a4 a5 a6 a7 a8 a9 a10 a11 b0 b1 b2 b3 b4 b5 b6 b7 b8 b9 b10 b11
  have HG4 := Lib.hid ((HON.out.block _ (Array.getElem?_eq_some_iff.1 HG.out).1).trans HG.out)
  have HG4' := Lib.hid ((HON.out.block _ (Array.getElem?_eq_some_iff.1 HG'.out).1).trans HG'.out)
  go_upto_region 6 with fail
  refine com_r6 e e' k pA pn pc i j f t oA on oc nA nn nc k' pA' pn' pc' i' j' f' t' oA' on' oc' nA' nn' nc' w w4 w.heap.size (Nat.le_refl _) H.out H'.out HE.out HT.out HT'.out HB4.out HC4.out _ _ _ _ _ _ _ _ _ _ _ _ _ _ _ _ _ _ _ _ _ _ _ _ _ _ _ _ _ _ _ _ _ _ _ _ _ _ _ _ _ _ _ _ _ _ _ _ _ _ _ _ _ _ _ _ _ _ _ _ _ _ _ _ _ _ _ _ _ _ _ _ _ _ _ _ _ _ _ _ _ _ _ _ _ _ _ _ _ _ _ _ _ _ _ _ _ ?_
  intro q q' v33 v34 v36 v37 w5 h6
  rw [invert_invert HR.out, invert_invert HR'.out] at h6
  have HB5 := Lib.hid h6.bel
  have HC5 := Lib.hid h6.box
  have HA5 := Lib.hid h6.a
  have HD5 := Lib.hid h6.b
  have hne := h6.ne
  have hlo := h6.lo
  have hlo' := h6.lo'
  have hs4 := HC4.out.size
  have hg5 := (h6.on.block _ (Array.getElem?_eq_some_iff.1 HG4.out).1).trans HG4.out
  have hg5' := (h6.on.block _ (Array.getElem?_eq_some_iff.1 HG4'.out).1).trans HG4'.out
  have HG5 := Lib.hid hg5
  have HG5' := Lib.hid hg5'
  obtain ⟨⟨a0, a1, a2, a3, a4, a5, a6, a7, a8, a9, a10, a11⟩, _⟩ := box12 hg5
  clear h6 hg5 hg5'
  go_wp2_with fail
  refine (p_list k _ _ _ _ _ _ _ _ _ _ _ _).mono ?_
  rintro en w6 ⟨rfl, hb⟩
  rw [HL1.out]
  have HB6 := Lib.hid (bthen HB5.out hb)
  have HC6 := Lib.hid (HC5.out.next hb)
  have HA6 := Lib.hid (HA5.out.below hb)
  have HD6 := Lib.hid (HD5.out.below hb)
  clear hb a0 a1 a2 a3 a4 a5 a6 a7 a8 a9 a10 a11
  cases hps : pastE (invertE e) e'.path with
  | none =>
    have HPS := Lib.hid hps
    have HV2 : Hid (commuteE e e' = .error 130) := by show _ = _; have h1 := HSW.out; rw [hps] at h1; unfold commuteE; simp [HR.out, HR'.out, HM.out, h1]
    clear hps
    obtain ⟨⟨c0, c1, c2, c3, c4, c5, c6, c7⟩, ⟨d0, d1, d2, d3, d4, d5, d6, d7⟩, ⟨⟨m0, m1, m2, m3, m4, m5, m6, m7⟩, ⟨n0, n1, n2, n3, n4, n5, n6, n7⟩⟩, ⟨⟨r0, r1, r2, r3, r4, r5, r6, r7⟩, ⟨s0, s1, s2, s3, s4, s5, s6, s7⟩⟩⟩ := com_all HC6.out
    go_upto_region 10 with fail
    go_region_held3 (fun w' => w'.cell? ⟨w.heap.size, 0, none⟩ = some (.int .u8 k) ∧ w'.cell? ⟨w.heap.size, 1, none⟩ = some (.slice pA pn pc) ∧ w'.cell? ⟨w.heap.size, 2, none⟩ = some (.int .i64 i) ∧ w'.cell? ⟨w.heap.size, 3, none⟩ = some (.int .i64 j) ∧ w'.cell? ⟨w.heap.size, 4, none⟩ = some (.string f) ∧ w'.cell? ⟨w.heap.size, 5, none⟩ = some (.string t) ∧ w'.cell? ⟨w.heap.size, 6, none⟩ = some (.slice oA on oc) ∧ w'.cell? ⟨w.heap.size, 7, none⟩ = some (.slice nA nn nc) ∧ w'.cell? ⟨w.heap.size + 1, 0, none⟩ = some (.int .u8 k') ∧ w'.cell? ⟨w.heap.size + 1, 1, none⟩ = some (.slice pA' pn' pc') ∧ w'.cell? ⟨w.heap.size + 1, 2, none⟩ = some (.int .i64 i') ∧ w'.cell? ⟨w.heap.size + 1, 3, none⟩ = some (.int .i64 j') ∧ w'.cell? ⟨w.heap.size + 1, 4, none⟩ = some (.string f') ∧ w'.cell? ⟨w.heap.size + 1, 5, none⟩ = some (.string t') ∧ w'.cell? ⟨w.heap.size + 1, 6, none⟩ = some (.slice oA' on' oc') ∧ w'.cell? ⟨w.heap.size + 1, 7, none⟩ = some (.slice nA' nn' nc')) ((refine com_S ?_; repeat (first | with_reducible exact HC12.out | with_reducible exact HC11.out | with_reducible exact HC6.out | with_reducible apply CBox.alloc | with_reducible apply CBox.drewN | with_reducible apply CBox.drew | with_reducible refine CBox.set ?_ (by dsimp only; omega))))
      (first
        | (go_at_call 22; refine (p_past_e (w := w11) (invertE e) e'.path _ _ _ _ _ _ _ _ _ _ _ _ _ (HK'.out.2.2.2.1.below HB11.out) HRK.out.2.2.2.1 (few_of HR'.out) (by rw [HK'.out.2.2.2.1.1]; exact Nat.le_trans HT'.out.path (by omega)) (by rw [HRK.out.2.2.2.1.1]; exact Nat.le_trans (tiny_invert HT.out).path (by omega)) HRK.out.1 HRK.out.2.1 HRK.out.2.2.1).mono ?_; intro en w12 hm12; rw [HPS.out] at hm12; obtain ⟨A12, n12, c12, rfl, hb⟩ := hm12; have HB12 := Lib.hid (bthen HB11.out hb); have HC12 := Lib.hid (HC11.out.next hb); have HA12 := Lib.hid (HA11.out.below hb); have HD12 := Lib.hid (HD11.out.below hb); obtain ⟨ka, pAa, pna, pca, ia, ja, fa, ta, oAa, ona, oca, nAa, nna, nca, hqa, hta⟩ := HA12.out; obtain ⟨kb, pAb, pnb, pcb, ib, jb, fb, tb, oAb, onb, ocb, nAb, nnb, ncb, hqb, htb⟩ := HD12.out; obtain ⟨⟨x0, x1, x2, x3, x4, x5, x6, x7⟩, ⟨xf0, xf1, xf2, xf3, xf4, xf5, xf6, xf7⟩⟩ := boxF8 hqa; obtain ⟨⟨y0, y1, y2, y3, y4, y5, y6, y7⟩, ⟨yf0, yf1, yf2, yf3, yf4, yf5, yf6, yf7⟩⟩ := boxF8 hqb; have HTA := Lib.hid hta; have HTB := Lib.hid htb; clear hqa hqb hta htb; clear hb)
        | (go_at_call 18; refine (p_invert e _ _ _ _ _ _ _ _ _ _ _ _ _ _ _ (H.out.below (bthen HB6.out (by (repeat (first | with_reducible exact Below.refl _ _ | with_reducible apply bel_alloc | with_reducible apply bel_drew | with_reducible apply bel_drew1))))) (HE.out.below (bthen HB6.out (by (repeat (first | with_reducible exact Below.refl _ _ | with_reducible apply bel_alloc | with_reducible apply bel_drew | with_reducible apply bel_drew1)))) (Nat.le_refl _)) HT.out).mono ?_; rintro en w11 ⟨kv, pAv, pnv, pcv, iv, jv, fv, tv, oAv, onv, ocv, nAv, nnv, ncv, rfl, hri, _, hb⟩; have hbb : Below w6.heap.size w6 w11 := bthen (by (repeat (first | with_reducible exact Below.refl _ _ | with_reducible apply bel_alloc | with_reducible apply bel_drew | with_reducible apply bel_drew1))) hb; have HB11 := Lib.hid (bthen HB6.out hbb); have HC11 := Lib.hid (HC6.out.next hbb); have HA11 := Lib.hid (HA6.out.below hbb); have HD11 := Lib.hid (HD6.out.below hbb); have HRI := Lib.hid hri; have HRK := Lib.hid hri.kind; clear hb hbb hri))
    clear c0 c1 c2 c3 c4 c5 c6 c7 d0 d1 d2 d3 d4 d5 d6 d7 m0 m1 m2 m3 m4 m5 m6 m7 n0 n1 n2 n3 n4 n5 n6 n7 r0 r1 r2 r3 r4 r5 r6 r7 s0 s1 s2 s3 s4 s5 s6 s7
    obtain ⟨⟨c0, c1, c2, c3, c4, c5, c6, c7⟩, ⟨d0, d1, d2, d3, d4, d5, d6, d7⟩, ⟨⟨m0, m1, m2, m3, m4, m5, m6, m7⟩, ⟨n0, n1, n2, n3, n4, n5, n6, n7⟩⟩, ⟨⟨r0, r1, r2, r3, r4, r5, r6, r7⟩, ⟨s0, s1, s2, s3, s4, s5, s6, s7⟩⟩⟩ := com_all HC12.out
    go_wp2_with fail
    go_region
    all_goals
      go_wp2_with fail
      have hC := HC12.out.set (p := ⟨q, 1, none⟩) (u := .slice A12 n12 c12) (by dsimp only; omega)
      have hB := HB12.out.setCell (p := ⟨q, 1, none⟩) (by dsimp only; omega) (.slice A12 n12 c12)
      obtain ⟨z1, z2, z3⟩ := com_zeroD hB (Nat.le_refl _) hC
      exact bodyPost_ret (com_res _ _ (w.heap.size + 1 + 1) (w.heap.size + 1 + 1 + 1) rfl rfl rfl z2 z3) rfl (ComPost.no HV2.out z1 rfl)
  | some xx =>
    have HPS := Lib.hid hps
    have hxl := pastE_len hps
    have HTA2 : Hid (Edt.tiny { e' with path := xx }) := tiny_with HT'.out xx e'.at_ hxl
    have HXL := Lib.hid hxl
    clear hps hxl
    obtain ⟨⟨c0, c1, c2, c3, c4, c5, c6, c7⟩, ⟨d0, d1, d2, d3, d4, d5, d6, d7⟩, ⟨⟨m0, m1, m2, m3, m4, m5, m6, m7⟩, ⟨n0, n1, n2, n3, n4, n5, n6, n7⟩⟩, ⟨⟨r0, r1, r2, r3, r4, r5, r6, r7⟩, ⟨s0, s1, s2, s3, s4, s5, s6, s7⟩⟩⟩ := com_all HC6.out
    go_upto_region 10 with fail
    go_region_held3 (fun w' => w'.cell? ⟨w.heap.size, 0, none⟩ = some (.int .u8 k) ∧ w'.cell? ⟨w.heap.size, 1, none⟩ = some (.slice pA pn pc) ∧ w'.cell? ⟨w.heap.size, 2, none⟩ = some (.int .i64 i) ∧ w'.cell? ⟨w.heap.size, 3, none⟩ = some (.int .i64 j) ∧ w'.cell? ⟨w.heap.size, 4, none⟩ = some (.string f) ∧ w'.cell? ⟨w.heap.size, 5, none⟩ = some (.string t) ∧ w'.cell? ⟨w.heap.size, 6, none⟩ = some (.slice oA on oc) ∧ w'.cell? ⟨w.heap.size, 7, none⟩ = some (.slice nA nn nc) ∧ w'.cell? ⟨w.heap.size + 1, 0, none⟩ = some (.int .u8 k') ∧ w'.cell? ⟨w.heap.size + 1, 1, none⟩ = some (.slice pA' pn' pc') ∧ w'.cell? ⟨w.heap.size + 1, 2, none⟩ = some (.int .i64 i') ∧ w'.cell? ⟨w.heap.size + 1, 3, none⟩ = some (.int .i64 j') ∧ w'.cell? ⟨w.heap.size + 1, 4, none⟩ = some (.string f') ∧ w'.cell? ⟨w.heap.size + 1, 5, none⟩ = some (.string t') ∧ w'.cell? ⟨w.heap.size + 1, 6, none⟩ = some (.slice oA' on' oc') ∧ w'.cell? ⟨w.heap.size + 1, 7, none⟩ = some (.slice nA' nn' nc')) ((refine com_S ?_; repeat (first | with_reducible exact HC12.out | with_reducible exact HC11.out | with_reducible exact HC6.out | with_reducible apply CBox.alloc | with_reducible apply CBox.drewN | with_reducible apply CBox.drew | with_reducible refine CBox.set ?_ (by dsimp only; omega))))
      (first
        | (go_at_call 22; refine (p_past_e (w := w11) (invertE e) e'.path _ _ _ _ _ _ _ _ _ _ _ _ _ (HK'.out.2.2.2.1.below HB11.out) HRK.out.2.2.2.1 (few_of HR'.out) (by rw [HK'.out.2.2.2.1.1]; exact Nat.le_trans HT'.out.path (by omega)) (by rw [HRK.out.2.2.2.1.1]; exact Nat.le_trans (tiny_invert HT.out).path (by omega)) HRK.out.1 HRK.out.2.1 HRK.out.2.2.1).mono ?_; intro en w12 hm12; rw [HPS.out] at hm12; obtain ⟨A12, c12, rfl, ho, hb⟩ := hm12; have HO12 := Lib.hid ho; have HB12 := Lib.hid (bthen HB11.out hb); have HC12 := Lib.hid (HC11.out.next hb); have HA12 := Lib.hid (HA11.out.below hb); have HD12 := Lib.hid (HD11.out.below hb); obtain ⟨ka, pAa, pna, pca, ia, ja, fa, ta, oAa, ona, oca, nAa, nna, nca, hqa, hta⟩ := HA12.out; obtain ⟨kb, pAb, pnb, pcb, ib, jb, fb, tb, oAb, onb, ocb, nAb, nnb, ncb, hqb, htb⟩ := HD12.out; obtain ⟨⟨x0, x1, x2, x3, x4, x5, x6, x7⟩, ⟨xf0, xf1, xf2, xf3, xf4, xf5, xf6, xf7⟩⟩ := boxF8 hqa; obtain ⟨⟨y0, y1, y2, y3, y4, y5, y6, y7⟩, ⟨yf0, yf1, yf2, yf3, yf4, yf5, yf6, yf7⟩⟩ := boxF8 hqb; have HTA := Lib.hid hta; have HTB := Lib.hid htb; clear hqa hqb hta htb; clear hb ho)
        | (go_at_call 18; refine (p_invert e _ _ _ _ _ _ _ _ _ _ _ _ _ _ _ (H.out.below (bthen HB6.out (by (repeat (first | with_reducible exact Below.refl _ _ | with_reducible apply bel_alloc | with_reducible apply bel_drew | with_reducible apply bel_drew1))))) (HE.out.below (bthen HB6.out (by (repeat (first | with_reducible exact Below.refl _ _ | with_reducible apply bel_alloc | with_reducible apply bel_drew | with_reducible apply bel_drew1)))) (Nat.le_refl _)) HT.out).mono ?_; rintro en w11 ⟨kv, pAv, pnv, pcv, iv, jv, fv, tv, oAv, onv, ocv, nAv, nnv, ncv, rfl, hri, _, hb⟩; have hbb : Below w6.heap.size w6 w11 := bthen (by (repeat (first | with_reducible exact Below.refl _ _ | with_reducible apply bel_alloc | with_reducible apply bel_drew | with_reducible apply bel_drew1))) hb; have HB11 := Lib.hid (bthen HB6.out hbb); have HC11 := Lib.hid (HC6.out.next hbb); have HA11 := Lib.hid (HA6.out.below hbb); have HD11 := Lib.hid (HD6.out.below hbb); have HRI := Lib.hid hri; have HRK := Lib.hid hri.kind; clear hb hbb hri))
    obtain ⟨w13, hw13⟩ : ∃ w13, w13 = w12.setCell ⟨q, 1, none⟩ (.slice A12 xx.length c12) := ⟨_, rfl⟩
    have HC13 : Hid (CBox w.heap.size (.int .u8 k) (.slice pA pn pc) (.int .i64 i) (.int .i64 j) (.string f) (.string t) (.slice oA on oc) (.slice nA nn nc) (.int .u8 k') (.slice pA' pn' pc') (.int .i64 i') (.int .i64 j') (.string f') (.string t') (.slice oA' on' oc') (.slice nA' nn' nc') w13) := by rw [hw13]; exact HC12.out.set (p := ⟨q, 1, none⟩) (u := .slice A12 xx.length c12) (by dsimp only; omega)
    have HB13 : Hid (Below w.heap.size w w13) := by rw [hw13]; exact HB12.out.setCell (p := ⟨q, 1, none⟩) (by dsimp only; omega) (.slice A12 xx.length c12)
    have HA13 : Hid (EdBox w13 { e' with path := xx } q) := by rw [hw13]; exact ed_path HA12.out (own_ints HO12.out) (PathT.own HO12.out rfl)
    have HD13 : Hid (EdBox w13 e q') := by rw [hw13]; exact ed_other HD12.out HA12.out (Ne.symm hne) 1 _
    go_upto_region 12 with fail
    rw [← hw13]
    clear hw13 c0 c1 c2 c3 c4 c5 c6 c7 d0 d1 d2 d3 d4 d5 d6 d7 m0 m1 m2 m3 m4 m5 m6 m7 n0 n1 n2 n3 n4 n5 n6 n7 r0 r1 r2 r3 r4 r5 r6 r7 s0 s1 s2 s3 s4 s5 s6 s7
    clear x0 x1 x2 x3 x4 x5 x6 x7 xf0 xf1 xf2 xf3 xf4 xf5 xf6 xf7 y0 y1 y2 y3 y4 y5 y6 y7 yf0 yf1 yf2 yf3 yf4 yf5 yf6 yf7 HTA HTB
    cases hps2 : pastE { e' with path := xx } e.path with
    | none =>
      have HPS2 := Lib.hid hps2
      have HV2 : Hid (commuteE e e' = .error 130) := by show _ = _; have h1 := HSW.out; rw [HPS.out] at h1; simp only [hps2] at h1; unfold commuteE; simp [HR.out, HR'.out, HM.out, h1]
      clear hps2
      obtain ⟨⟨c0, c1, c2, c3, c4, c5, c6, c7⟩, ⟨d0, d1, d2, d3, d4, d5, d6, d7⟩, ⟨⟨m0, m1, m2, m3, m4, m5, m6, m7⟩, ⟨n0, n1, n2, n3, n4, n5, n6, n7⟩⟩, ⟨⟨r0, r1, r2, r3, r4, r5, r6, r7⟩, ⟨s0, s1, s2, s3, s4, s5, s6, s7⟩⟩⟩ := com_all HC13.out
      obtain ⟨ka, pAa, pna, pca, ia, ja, fa, ta, oAa, ona, oca, nAa, nna, nca, hqa, hta⟩ := HA13.out
      obtain ⟨kb, pAb, pnb, pcb, ib, jb, fb, tb, oAb, onb, ocb, nAb, nnb, ncb, hqb, htb⟩ := HD13.out
      obtain ⟨⟨x0, x1, x2, x3, x4, x5, x6, x7⟩, ⟨xf0, xf1, xf2, xf3, xf4, xf5, xf6, xf7⟩⟩ := boxF8 hqa
      obtain ⟨⟨y0, y1, y2, y3, y4, y5, y6, y7⟩, ⟨yf0, yf1, yf2, yf3, yf4, yf5, yf6, yf7⟩⟩ := boxF8 hqb
      have HTA := Lib.hid hta
      have HTB := Lib.hid htb
      clear hqa hqb hta htb
      go_wp2_with fail
      refine (p_past_e (w := w13) { e' with path := xx } e.path _ _ _ _ _ _ _ _ _ _ _ _ _ (HK.out.2.2.2.1.below HB13.out) HTA.out.1.kind.2.2.2.1 (few_of HR.out) (by rw [HK.out.2.2.2.1.1]; exact Nat.le_trans HT.out.path (by omega)) (by rw [HTA.out.1.kind.2.2.2.1.1]; exact Nat.le_trans HTA2.out.path (by omega)) HTA.out.1.kind.1 HTA.out.1.kind.2.1 HTA.out.1.kind.2.2.1).mono ?_
      intro en w14 hm14
      rw [HPS2.out] at hm14
      obtain ⟨A14, n14, c14, rfl, hb⟩ := hm14
      clear c0 c1 c2 c3 c4 c5 c6 c7 d0 d1 d2 d3 d4 d5 d6 d7 m0 m1 m2 m3 m4 m5 m6 m7 n0 n1 n2 n3 n4 n5 n6 n7 r0 r1 r2 r3 r4 r5 r6 r7 s0 s1 s2 s3 s4 s5 s6 s7
      clear x0 x1 x2 x3 x4 x5 x6 x7 xf0 xf1 xf2 xf3 xf4 xf5 xf6 xf7 y0 y1 y2 y3 y4 y5 y6 y7 yf0 yf1 yf2 yf3 yf4 yf5 yf6 yf7 HTA HTB
      have HB14 := Lib.hid (bthen HB13.out hb)
      have HC14 := Lib.hid (HC13.out.next hb)
      have HA14 := Lib.hid (HA13.out.below hb)
      have HD14 := Lib.hid (HD13.out.below hb)
      clear hb
      obtain ⟨⟨c0, c1, c2, c3, c4, c5, c6, c7⟩, ⟨d0, d1, d2, d3, d4, d5, d6, d7⟩, ⟨⟨m0, m1, m2, m3, m4, m5, m6, m7⟩, ⟨n0, n1, n2, n3, n4, n5, n6, n7⟩⟩, ⟨⟨r0, r1, r2, r3, r4, r5, r6, r7⟩, ⟨s0, s1, s2, s3, s4, s5, s6, s7⟩⟩⟩ := com_all HC14.out
      obtain ⟨ka, pAa, pna, pca, ia, ja, fa, ta, oAa, ona, oca, nAa, nna, nca, hqa, hta⟩ := HA14.out
      obtain ⟨kb, pAb, pnb, pcb, ib, jb, fb, tb, oAb, onb, ocb, nAb, nnb, ncb, hqb, htb⟩ := HD14.out
      obtain ⟨⟨x0, x1, x2, x3, x4, x5, x6, x7⟩, ⟨xf0, xf1, xf2, xf3, xf4, xf5, xf6, xf7⟩⟩ := boxF8 hqa
      obtain ⟨⟨y0, y1, y2, y3, y4, y5, y6, y7⟩, ⟨yf0, yf1, yf2, yf3, yf4, yf5, yf6, yf7⟩⟩ := boxF8 hqb
      have HTA := Lib.hid hta
      have HTB := Lib.hid htb
      clear hqa hqb hta htb
      go_wp2_with fail
      go_region
      all_goals
        go_wp2_with fail
        have hC := HC14.out.set (p := ⟨q', 1, none⟩) (u := .slice A14 n14 c14) (by dsimp only; omega)
        have hB := HB14.out.setCell (p := ⟨q', 1, none⟩) (by dsimp only; omega) (.slice A14 n14 c14)
        obtain ⟨z1, z2, z3⟩ := com_zeroD hB (Nat.le_refl _) hC
        exact bodyPost_ret (com_res _ _ (w.heap.size + 1 + 1) (w.heap.size + 1 + 1 + 1) rfl rfl rfl z2 z3) rfl (ComPost.no HV2.out z1 rfl)
    | some yy =>
      have HPS2 := Lib.hid hps2
      have hyl := pastE_len hps2
      have HTB2 : Hid (Edt.tiny { e with path := yy }) := tiny_with HT.out yy e.at_ hyl
      have HS1 : Hid (swapped e e' = some ({ e' with path := xx }, { e with path := yy })) := by show _ = _; have h1 := HSW.out; rw [HPS.out] at h1; simp only [hps2] at h1; exact h1
      clear hps2 hyl
      obtain ⟨⟨c0, c1, c2, c3, c4, c5, c6, c7⟩, ⟨d0, d1, d2, d3, d4, d5, d6, d7⟩, ⟨⟨m0, m1, m2, m3, m4, m5, m6, m7⟩, ⟨n0, n1, n2, n3, n4, n5, n6, n7⟩⟩, ⟨⟨r0, r1, r2, r3, r4, r5, r6, r7⟩, ⟨s0, s1, s2, s3, s4, s5, s6, s7⟩⟩⟩ := com_all HC13.out
      obtain ⟨ka, pAa, pna, pca, ia, ja, fa, ta, oAa, ona, oca, nAa, nna, nca, hqa, hta⟩ := HA13.out
      obtain ⟨kb, pAb, pnb, pcb, ib, jb, fb, tb, oAb, onb, ocb, nAb, nnb, ncb, hqb, htb⟩ := HD13.out
      obtain ⟨⟨x0, x1, x2, x3, x4, x5, x6, x7⟩, ⟨xf0, xf1, xf2, xf3, xf4, xf5, xf6, xf7⟩⟩ := boxF8 hqa
      obtain ⟨⟨y0, y1, y2, y3, y4, y5, y6, y7⟩, ⟨yf0, yf1, yf2, yf3, yf4, yf5, yf6, yf7⟩⟩ := boxF8 hqb
      have HTA := Lib.hid hta
      have HTB := Lib.hid htb
      clear hqa hqb hta htb
      go_wp2_with fail
      refine (p_past_e (w := w13) { e' with path := xx } e.path _ _ _ _ _ _ _ _ _ _ _ _ _ (HK.out.2.2.2.1.below HB13.out) HTA.out.1.kind.2.2.2.1 (few_of HR.out) (by rw [HK.out.2.2.2.1.1]; exact Nat.le_trans HT.out.path (by omega)) (by rw [HTA.out.1.kind.2.2.2.1.1]; exact Nat.le_trans HTA2.out.path (by omega)) HTA.out.1.kind.1 HTA.out.1.kind.2.1 HTA.out.1.kind.2.2.1).mono ?_
      intro en w14 hm14
      rw [HPS2.out] at hm14
      obtain ⟨A14, c14, rfl, ho, hb⟩ := hm14
      have HO14 := Lib.hid ho
      clear c0 c1 c2 c3 c4 c5 c6 c7 d0 d1 d2 d3 d4 d5 d6 d7 m0 m1 m2 m3 m4 m5 m6 m7 n0 n1 n2 n3 n4 n5 n6 n7 r0 r1 r2 r3 r4 r5 r6 r7 s0 s1 s2 s3 s4 s5 s6 s7
      clear x0 x1 x2 x3 x4 x5 x6 x7 xf0 xf1 xf2 xf3 xf4 xf5 xf6 xf7 y0 y1 y2 y3 y4 y5 y6 y7 yf0 yf1 yf2 yf3 yf4 yf5 yf6 yf7 HTA HTB
      have HB14 := Lib.hid (bthen HB13.out hb)
      have HC14 := Lib.hid (HC13.out.next hb)
      have HA14 := Lib.hid (HA13.out.below hb)
      have HD14 := Lib.hid (HD13.out.below hb)
      clear hb ho
      obtain ⟨⟨c0, c1, c2, c3, c4, c5, c6, c7⟩, ⟨d0, d1, d2, d3, d4, d5, d6, d7⟩, ⟨⟨m0, m1, m2, m3, m4, m5, m6, m7⟩, ⟨n0, n1, n2, n3, n4, n5, n6, n7⟩⟩, ⟨⟨r0, r1, r2, r3, r4, r5, r6, r7⟩, ⟨s0, s1, s2, s3, s4, s5, s6, s7⟩⟩⟩ := com_all HC14.out
      obtain ⟨ka, pAa, pna, pca, ia, ja, fa, ta, oAa, ona, oca, nAa, nna, nca, hqa, hta⟩ := HA14.out
      obtain ⟨kb, pAb, pnb, pcb, ib, jb, fb, tb, oAb, onb, ocb, nAb, nnb, ncb, hqb, htb⟩ := HD14.out
      obtain ⟨⟨x0, x1, x2, x3, x4, x5, x6, x7⟩, ⟨xf0, xf1, xf2, xf3, xf4, xf5, xf6, xf7⟩⟩ := boxF8 hqa
      obtain ⟨⟨y0, y1, y2, y3, y4, y5, y6, y7⟩, ⟨yf0, yf1, yf2, yf3, yf4, yf5, yf6, yf7⟩⟩ := boxF8 hqb
      have HTA := Lib.hid hta
      have HTB := Lib.hid htb
      clear hqa hqb hta htb
      obtain ⟨w15, hw15⟩ : ∃ w15, w15 = w14.setCell ⟨q', 1, none⟩ (.slice A14 yy.length c14) := ⟨_, rfl⟩
      have HC15 : Hid (CBox w.heap.size (.int .u8 k) (.slice pA pn pc) (.int .i64 i) (.int .i64 j) (.string f) (.string t) (.slice oA on oc) (.slice nA nn nc) (.int .u8 k') (.slice pA' pn' pc') (.int .i64 i') (.int .i64 j') (.string f') (.string t') (.slice oA' on' oc') (.slice nA' nn' nc') w15) := by rw [hw15]; exact HC14.out.set (p := ⟨q', 1, none⟩) (u := .slice A14 yy.length c14) (by dsimp only; omega)
      have HB15 : Hid (Below w.heap.size w w15) := by rw [hw15]; exact HB14.out.setCell (p := ⟨q', 1, none⟩) (by dsimp only; omega) (.slice A14 yy.length c14)
      have HD15 : Hid (EdBox w15 { e with path := yy } q') := by rw [hw15]; exact ed_path HD14.out (own_ints HO14.out) (PathT.own HO14.out rfl)
      have HA15 : Hid (EdBox w15 { e' with path := xx } q) := by rw [hw15]; exact ed_other HA14.out HD14.out hne 1 _
      go_upto_region 13 with fail
      rw [← hw15]
      clear hw15
      clear c0 c1 c2 c3 c4 c5 c6 c7 d0 d1 d2 d3 d4 d5 d6 d7 m0 m1 m2 m3 m4 m5 m6 m7 n0 n1 n2 n3 n4 n5 n6 n7 r0 r1 r2 r3 r4 r5 r6 r7 s0 s1 s2 s3 s4 s5 s6 s7
      clear x0 x1 x2 x3 x4 x5 x6 x7 xf0 xf1 xf2 xf3 xf4 xf5 xf6 xf7 y0 y1 y2 y3 y4 y5 y6 y7 yf0 yf1 yf2 yf3 yf4 yf5 yf6 yf7 HTA HTB
      obtain ⟨⟨c0, c1, c2, c3, c4, c5, c6, c7⟩, ⟨d0, d1, d2, d3, d4, d5, d6, d7⟩, ⟨⟨m0, m1, m2, m3, m4, m5, m6, m7⟩, ⟨n0, n1, n2, n3, n4, n5, n6, n7⟩⟩, ⟨⟨r0, r1, r2, r3, r4, r5, r6, r7⟩, ⟨s0, s1, s2, s3, s4, s5, s6, s7⟩⟩⟩ := com_all HC15.out
      obtain ⟨ka, pAa, pna, pca, ia, ja, fa, ta, oAa, ona, oca, nAa, nna, nca, hqa, hta⟩ := HA15.out
      obtain ⟨kb, pAb, pnb, pcb, ib, jb, fb, tb, oAb, onb, ocb, nAb, nnb, ncb, hqb, htb⟩ := HD15.out
      obtain ⟨⟨x0, x1, x2, x3, x4, x5, x6, x7⟩, ⟨xf0, xf1, xf2, xf3, xf4, xf5, xf6, xf7⟩⟩ := boxF8 hqa
      obtain ⟨⟨y0, y1, y2, y3, y4, y5, y6, y7⟩, ⟨yf0, yf1, yf2, yf3, yf4, yf5, yf6, yf7⟩⟩ := boxF8 hqb
      have HTA := Lib.hid hta
      have HTB := Lib.hid htb
      clear hqa hqb hta htb
      go_wp2_with fail
      refine (p_eright { e' with path := xx } _ _ _ _ _ _ _ _ _ _ _ _ _ _ _ HTA.out.1 (HE.out.below HB15.out (Nat.le_refl _)) (by have h1 := HTA.out.1.kind; have h2 := HTA2.out.texts; rw [h1.2.2.2.2.1, h1.2.2.2.2.2, bl_len, bl_len] at h2; omega) (tiny_sho HTA2.out (by omega)) (tiny_shn HTA2.out (by omega))).mono ?_
      rintro en w16 ⟨rfl, hb⟩
      clear c0 c1 c2 c3 c4 c5 c6 c7 d0 d1 d2 d3 d4 d5 d6 d7 m0 m1 m2 m3 m4 m5 m6 m7 n0 n1 n2 n3 n4 n5 n6 n7 r0 r1 r2 r3 r4 r5 r6 r7 s0 s1 s2 s3 s4 s5 s6 s7
      clear x0 x1 x2 x3 x4 x5 x6 x7 xf0 xf1 xf2 xf3 xf4 xf5 xf6 xf7 y0 y1 y2 y3 y4 y5 y6 y7 yf0 yf1 yf2 yf3 yf4 yf5 yf6 yf7 HTA HTB
      have HB16 := Lib.hid (bthen HB15.out hb)
      have HC16 := Lib.hid (HC15.out.next hb)
      have HA16 := Lib.hid (HA15.out.below hb)
      have HD16 := Lib.hid (HD15.out.below hb)
      clear hb
      cases hra : editRight { e' with path := xx } with
      | false =>
        have HV2 : Hid (commuteE e e' = .error 130) := by show _ = _; unfold commuteE; simp [HR.out, HR'.out, HM.out, HS1.out, hra]
        clear hra
        obtain ⟨⟨c0, c1, c2, c3, c4, c5, c6, c7⟩, ⟨d0, d1, d2, d3, d4, d5, d6, d7⟩, ⟨⟨m0, m1, m2, m3, m4, m5, m6, m7⟩, ⟨n0, n1, n2, n3, n4, n5, n6, n7⟩⟩, ⟨⟨r0, r1, r2, r3, r4, r5, r6, r7⟩, ⟨s0, s1, s2, s3, s4, s5, s6, s7⟩⟩⟩ := com_all HC16.out
        go_wp2_with fail
        go_region
        all_goals
          go_wp2_with fail
          obtain ⟨z1, z2, z3⟩ := com_zeroD HB16.out (Nat.le_refl _) HC16.out
          exact bodyPost_ret (com_res _ _ (w.heap.size + 1 + 1) (w.heap.size + 1 + 1 + 1) rfl rfl rfl z2 z3) rfl (ComPost.no HV2.out z1 rfl)
      | true =>
        have HRA := Lib.hid hra
        clear hra
        obtain ⟨⟨c0, c1, c2, c3, c4, c5, c6, c7⟩, ⟨d0, d1, d2, d3, d4, d5, d6, d7⟩, ⟨⟨m0, m1, m2, m3, m4, m5, m6, m7⟩, ⟨n0, n1, n2, n3, n4, n5, n6, n7⟩⟩, ⟨⟨r0, r1, r2, r3, r4, r5, r6, r7⟩, ⟨s0, s1, s2, s3, s4, s5, s6, s7⟩⟩⟩ := com_all HC16.out
        obtain ⟨ka, pAa, pna, pca, ia, ja, fa, ta, oAa, ona, oca, nAa, nna, nca, hqa, hta⟩ := HA16.out
        obtain ⟨kb, pAb, pnb, pcb, ib, jb, fb, tb, oAb, onb, ocb, nAb, nnb, ncb, hqb, htb⟩ := HD16.out
        obtain ⟨⟨x0, x1, x2, x3, x4, x5, x6, x7⟩, ⟨xf0, xf1, xf2, xf3, xf4, xf5, xf6, xf7⟩⟩ := boxF8 hqa
        obtain ⟨⟨y0, y1, y2, y3, y4, y5, y6, y7⟩, ⟨yf0, yf1, yf2, yf3, yf4, yf5, yf6, yf7⟩⟩ := boxF8 hqb
        have HTA := Lib.hid hta
        have HTB := Lib.hid htb
        clear hqa hqb hta htb
        go_wp2_with fail
        refine (p_eright { e with path := yy } _ _ _ _ _ _ _ _ _ _ _ _ _ _ _ HTB.out.1 (HE.out.below HB16.out (Nat.le_refl _)) (by have h1 := HTB.out.1.kind; have h2 := HTB2.out.texts; rw [h1.2.2.2.2.1, h1.2.2.2.2.2, bl_len, bl_len] at h2; omega) (tiny_sho HTB2.out (by omega)) (tiny_shn HTB2.out (by omega))).mono ?_
        rintro en w17 ⟨rfl, hb⟩
        clear c0 c1 c2 c3 c4 c5 c6 c7 d0 d1 d2 d3 d4 d5 d6 d7 m0 m1 m2 m3 m4 m5 m6 m7 n0 n1 n2 n3 n4 n5 n6 n7 r0 r1 r2 r3 r4 r5 r6 r7 s0 s1 s2 s3 s4 s5 s6 s7
        clear x0 x1 x2 x3 x4 x5 x6 x7 xf0 xf1 xf2 xf3 xf4 xf5 xf6 xf7 y0 y1 y2 y3 y4 y5 y6 y7 yf0 yf1 yf2 yf3 yf4 yf5 yf6 yf7 HTA HTB
        have HB17 := Lib.hid (bthen HB16.out hb)
        have HC17 := Lib.hid (HC16.out.next hb)
        have HA17 := Lib.hid (HA16.out.below hb)
        have HD17 := Lib.hid (HD16.out.below hb)
        clear hb
        cases hrb : editRight { e with path := yy } with
        | false =>
          have HV2 : Hid (commuteE e e' = .error 130) := by show _ = _; unfold commuteE; simp [HR.out, HR'.out, HM.out, HS1.out, hrb]
          clear hrb
          obtain ⟨⟨c0, c1, c2, c3, c4, c5, c6, c7⟩, ⟨d0, d1, d2, d3, d4, d5, d6, d7⟩, ⟨⟨m0, m1, m2, m3, m4, m5, m6, m7⟩, ⟨n0, n1, n2, n3, n4, n5, n6, n7⟩⟩, ⟨⟨r0, r1, r2, r3, r4, r5, r6, r7⟩, ⟨s0, s1, s2, s3, s4, s5, s6, s7⟩⟩⟩ := com_all HC17.out
          go_wp2_with fail
          go_region
          all_goals
            go_wp2_with fail
            obtain ⟨z1, z2, z3⟩ := com_zeroD HB17.out (Nat.le_refl _) HC17.out
            exact bodyPost_ret (com_res _ _ (w.heap.size + 1 + 1) (w.heap.size + 1 + 1 + 1) rfl rfl rfl z2 z3) rfl (ComPost.no HV2.out z1 rfl)
        | true =>
          have HV2 : Hid (commuteE e e' = .ok ({ e' with path := xx }, { e with path := yy })) := by show _ = _; unfold commuteE; simp [HR.out, HR'.out, HM.out, HS1.out, HRA.out, hrb]
          clear hrb
          obtain ⟨⟨c0, c1, c2, c3, c4, c5, c6, c7⟩, ⟨d0, d1, d2, d3, d4, d5, d6, d7⟩, ⟨⟨m0, m1, m2, m3, m4, m5, m6, m7⟩, ⟨n0, n1, n2, n3, n4, n5, n6, n7⟩⟩, ⟨⟨r0, r1, r2, r3, r4, r5, r6, r7⟩, ⟨s0, s1, s2, s3, s4, s5, s6, s7⟩⟩⟩ := com_all HC17.out
          obtain ⟨ka, pAa, pna, pca, ia, ja, fa, ta, oAa, ona, oca, nAa, nna, nca, hqa, hta⟩ := HA17.out
          obtain ⟨kb, pAb, pnb, pcb, ib, jb, fb, tb, oAb, onb, ocb, nAb, nnb, ncb, hqb, htb⟩ := HD17.out
          obtain ⟨⟨x0, x1, x2, x3, x4, x5, x6, x7⟩, ⟨xf0, xf1, xf2, xf3, xf4, xf5, xf6, xf7⟩⟩ := boxF8 hqa
          obtain ⟨⟨y0, y1, y2, y3, y4, y5, y6, y7⟩, ⟨yf0, yf1, yf2, yf3, yf4, yf5, yf6, yf7⟩⟩ := boxF8 hqb
          have HTA := Lib.hid hta
          have HTB := Lib.hid htb
          clear hqa hqb hta htb
          go_wp2_with fail
          go_region
          all_goals
            go_wp2_with fail
            obtain ⟨z1, z2, z3, z4, z5⟩ := com_fin HB17.out (Nat.le_refl _) HC17.out HTA.out HTB.out
            exact bodyPost_ret (com_res _ _ (w.heap.size + 1 + 1) (w.heap.size + 1 + 1 + 1) rfl rfl rfl z2 z3) rfl (ComPost.yes HV2.out z1 rfl z4 z5)
end Go.Proofs.YtmikjhohnfcedaaGreatDoor
