/- The walk over edit.Right (chapter 14), at k = 1.
   The walk over edit.Right (chapter 14), at k = 2.
   The walk over edit.Right (chapter 14), at k = 3.
   The walk over edit.Right (chapter 14), at k = 4. -/
import Derived.Test.YtmikjhohnfcedaaGreatDoorBkD
namespace Go.Proofs.YtmikjhohnfcedaaGreatDoor
set_option linter.unusedSimpArgs false
set_option linter.unusedVariables false
open Go.RowKit
set_option linter.unusedSimpArgs false

set_option maxRecDepth 20000 in
set_option maxHeartbeats 4000000 in
theorem p_eright_1 (ps : List Int) (os ns : List Tree) (pA : Option Addr) (pn pc : Nat) (i j : Int) (f t : ByteArray) (oA : Option Addr) (on oc : Nat) (nA : Option Addr) (nn nc : Nat) (w : World) 
    (hp : IntsAt w ps pA pn pc) (ho : KidsAt w os oA on oc) (hn : KidsAt w ns nA nn nc) (hE : EnvS w) (hsz : f.size + t.size ≤ 9223372036854775806) (hso : shortL 9223372036854775806 os) (hsn : shortL 9223372036854775806 ns) :
    Calls Tryz.prog 9 #[.agg #[.int .u8 1, .slice pA pn pc, .int .i64 i, .int .i64 j, .string f, .string t, .slice oA on oc, .slice nA nn nc]] w (NamePost (editRight ⟨1, ps, i, j, bl f, bl t, os, ns⟩) w) := by
  have hb0 : Below w.heap.size w (w.alloc (.cells #[.int .u8 1, .slice pA pn pc, .int .i64 i, .int .i64 j, .string f, .string t, .slice oA on oc, .slice nA nn nc] 26)) := (Below.refl _ _).alloc (Nat.le_refl _) _
  have HB0 := Lib.hid hb0
  have HE := Lib.hid (hE.below hb0 (Nat.le_refl _))
  have HP := Lib.hid (hp.below hb0)
  have HO := Lib.hid (ho.below hb0)
  have HN := Lib.hid (hn.below hb0)
  have HR := Lib.hid (er_eq ⟨1, ps, i, j, bl f, bl t, os, ns⟩)
  have HBX := Lib.hid (Box8.new (w := w) (x0 := .int .u8 1) (x1 := .slice pA pn pc) (x2 := .int .i64 i) (x3 := .int .i64 j) (x4 := .string f) (x5 := .string t) (x6 := .slice oA on oc) (x7 := .slice nA nn nc) (T := 26))
  have HSO := Lib.hid hso
  have HSN := Lib.hid hsn
  have HLP : Hid (pn = ps.length) := hp.1
  have HLO : Hid (on = os.length) := ho.1
  have HLN : Hid (nn = ns.length) := hn.1
  have hfs : f.size ≤ 9223372036854775806 := by omega
  have hts : t.size ≤ 9223372036854775806 := by omega
  have hpn : pn ≤ 9223372036854775807 := by have h1 := hp.2.1; have h2 := hp.2.2.1; unfold maxLen at h2; omega
  have hon : on ≤ 9223372036854775807 := by have h1 := ho.2.1; have h2 := ho.2.2.1; unfold maxLen at h2; omega
  have hnn : nn ≤ 9223372036854775807 := by have h1 := hn.2.1; have h2 := hn.2.2.1; unfold maxLen at h2; omega
  have hcf := enter_nonumber
  clear hb0 hE hp ho hn hso hsn
  go_enter Tryz.func9, Tryz.ntmps9
  go_wp2_with fail
  go_quiet (fail)
  go_wp2_with fail
  refine (p_any_no ps _ _ _ _ (HP.out.below (below_drews (Below.refl _ _) _))).mono ?_
  rintro e wq ⟨rfl, q1, rfl⟩
  cases ha : ps.all numberB with
  | false =>
    have HV : Hid (editRight _ = false) := HR.out.trans (by simp [ERV, loneB, oldsB, newsB, ha])
    go_wp2_with fail
    go_ret
    exact NamePost.intro HV.out.symm (below_drews HB0.out _)
  | true =>
    go_wp2_with fail
    refine (p_number i _).mono ?_
    rintro e wq ⟨rfl, q2, rfl⟩
    cases hi : numberB i with
    | false =>
      have HV : Hid (editRight _ = false) := HR.out.trans (by simp [ERV, loneB, oldsB, newsB, ha, hi])
      go_wp2_with fail
      go_ret
      exact NamePost.intro HV.out.symm (below_drews HB0.out _)
    | true =>
      go_wp2_with fail
      refine (p_number j _).mono ?_
      rintro e wq ⟨rfl, q3, rfl⟩
      cases hj : numberB j with
      | false =>
        have HV : Hid (editRight _ = false) := HR.out.trans (by simp [ERV, loneB, oldsB, newsB, ha, hi, hj])
        go_wp2_with fail
        go_ret
        exact NamePost.intro HV.out.symm (below_drews HB0.out _)
      | true =>
        cases hi0 : (i == 0) with
        | false =>
          have n_hi0 : (i != 0) = true := by simpa using hi0
          have HV : Hid (editRight _ = false) := HR.out.trans (by simp [ERV, loneB, oldsB, newsB, ha, hi, hj, hi0])
          go_wp2_with fail
          go_ret
          exact NamePost.intro HV.out.symm (below_drews HB0.out _)
        | true =>
          have q_hi0 : (i != 0) = false := by simpa using hi0
          cases hpe : ps.isEmpty with
          | true =>
            have pe : ((pn : Int) == 0) = true := by have e1 := HLP.out; have e2 := List.isEmpty_iff.1 hpe; subst e2; simp at e1; simp [e1]
            have HV : Hid (editRight _ = false) := HR.out.trans (by simp [ERV, loneB, oldsB, newsB, ha, hi, hj, hi0, hpe])
            go_wp2_with fail
            go_ret
            exact NamePost.intro HV.out.symm (below_drews HB0.out _)
          | false =>
            have pe : ((pn : Int) == 0) = false := by
              have e1 := HLP.out
              cases ps with
              | nil => cases hpe
              | cons a l => simp at e1; simp; omega
            cases hij : (i == j) with
            | false =>
              have n_hij : (i != j) = true := by simpa using hij
              have HV : Hid (editRight _ = false) := HR.out.trans (by simp [ERV, loneB, oldsB, newsB, ha, hi, hj, hi0, hpe, hij])
              go_wp2_with fail
              go_ret
              exact NamePost.intro HV.out.symm (below_drews HB0.out _)
            | true =>
              have q_hij : (i != j) = false := by simpa using hij
              cases hj0 : (j == 0) with
              | false =>
                have n_hj0 : (j != 0) = true := by simpa using hj0
                have HV : Hid (editRight _ = false) := HR.out.trans (by simp [ERV, loneB, oldsB, newsB, ha, hi, hj, hi0, hpe, hij, hj0])
                go_wp2_with fail
                go_ret
                exact NamePost.intro HV.out.symm (below_drews HB0.out _)
              | true =>
                have q_hj0 : (j != 0) = false := by simpa using hj0
                go_wp2_with fail
                refine (p_name f _ (HE.out.below (below_drews (Below.refl _ _) _) (Nat.le_refl _)) hfs).mono ?_
                rintro e w1 ⟨rfl, hb1⟩
                have HA1 := Lib.hid (bthen (below_drews (Below.refl _ _) _) hb1)
                clear hb1
                obtain ⟨c0, c1, c2, c3, c4, c5, c6, c7⟩ := HBX.out.below HA1.out
                cases hf : isName (bl f) with
                | false =>
                  have HV : Hid (editRight _ = false) := HR.out.trans (by simp [ERV, loneB, oldsB, newsB, ha, hi, hj, hi0, hpe, hij, hj0, hf])
                  go_wp2_with fail
                  go_ret
                  exact NamePost.intro HV.out.symm (bthen HB0.out HA1.out)
                | true =>
                  go_wp2_with fail
                  refine (p_name t _ (HE.out.below HA1.out (Nat.le_refl _)) hts).mono ?_
                  rintro e w2 ⟨rfl, hb2⟩
                  have HA2 := Lib.hid (bthen HA1.out hb2)
                  clear hb2
                  clear c0 c1 c2 c3 c4 c5 c6 c7
                  obtain ⟨c0, c1, c2, c3, c4, c5, c6, c7⟩ := HBX.out.below HA2.out
                  cases ht : isName (bl t) with
                  | false =>
                    have HV : Hid (editRight _ = false) := HR.out.trans (by simp [ERV, loneB, oldsB, newsB, ha, hi, hj, hi0, hpe, hij, hj0, hf, ht])
                    go_wp2_with fail
                    go_ret
                    exact NamePost.intro HV.out.symm (bthen HB0.out HA2.out)
                  | true =>
                    cases hft : (bl f == bl t) with
                    | true =>
                      obtain rfl := bl_inj (by simpa using hft)
                      have HV : Hid (editRight _ = false) := HR.out.trans (by simp [ERV, loneB, oldsB, newsB, ha, hi, hj, hi0, hpe, hij, hj0, hf, ht, hft])
                      go_wp2_with fail
                      go_ret
                      exact NamePost.intro HV.out.symm (bthen HB0.out HA2.out)
                    | false =>
                      have e0 : (f.toList == t.toList) = false := str_ne (by simpa using hft)
                      go_wp2_with fail
                      refine (p_part os _ _ _ _ (HO.out.below HA2.out) HSO.out (HE.out.below HA2.out (Nat.le_refl _))).mono ?_
                      rintro e w3 ⟨rfl, hb3⟩
                      have HA3 := Lib.hid (bthen HA2.out hb3)
                      clear hb3
                      clear c0 c1 c2 c3 c4 c5 c6 c7
                      obtain ⟨c0, c1, c2, c3, c4, c5, c6, c7⟩ := HBX.out.below HA3.out
                      cases hpo : partB os with
                      | true =>
                        have HV : Hid (editRight _ = false) := HR.out.trans (by simp [ERV, loneB, oldsB, newsB, ha, hi, hj, hi0, hpe, hij, hj0, hf, ht, hft, hpo])
                        go_wp2_with fail
                        go_ret
                        exact NamePost.intro HV.out.symm (bthen HB0.out HA3.out)
                      | false =>
                        go_wp2_with fail
                        refine (p_part ns _ _ _ _ (HN.out.below HA3.out) HSN.out (HE.out.below HA3.out (Nat.le_refl _))).mono ?_
                        rintro e w4 ⟨rfl, hb4⟩
                        have HA4 := Lib.hid (bthen HA3.out hb4)
                        clear hb4
                        clear c0 c1 c2 c3 c4 c5 c6 c7
                        obtain ⟨c0, c1, c2, c3, c4, c5, c6, c7⟩ := HBX.out.below HA4.out
                        cases hpn : partB ns with
                        | true =>
                          have HV : Hid (editRight _ = false) := HR.out.trans (by simp [ERV, loneB, oldsB, newsB, ha, hi, hj, hi0, hpe, hij, hj0, hf, ht, hft, hpo, hpn])
                          go_wp2_with fail
                          go_ret
                          exact NamePost.intro HV.out.symm (bthen HB0.out HA4.out)
                        | false =>
                          cases heo : os.isEmpty with
                          | false =>
                            have gheo : (0 : Int) < on := by
                              have e1 := HLO.out
                              cases os with
                              | nil => cases heo
                              | cons a l => simp at e1; omega
                            have HV : Hid (editRight _ = false) := HR.out.trans (by simp [ERV, loneB, oldsB, newsB, ha, hi, hj, hi0, hpe, hij, hj0, hf, ht, hft, hpo, hpn, heo])
                            go_wp2_with fail
                            go_ret
                            exact NamePost.intro HV.out.symm (bthen HB0.out HA4.out)
                          | true =>
                            have gheo : ¬ (0 : Int) < on := by have e1 := HLO.out; have e2 := List.isEmpty_iff.1 heo; subst e2; simp at e1; omega
                            cases hen : ns.isEmpty with
                            | false =>
                              have ghen : (0 : Int) < nn := by
                                have e1 := HLN.out
                                cases ns with
                                | nil => cases hen
                                | cons a l => simp at e1; omega
                              have HV : Hid (editRight _ = false) := HR.out.trans (by simp [ERV, loneB, oldsB, newsB, ha, hi, hj, hi0, hpe, hij, hj0, hf, ht, hft, hpo, hpn, heo, hen])
                              go_wp2_with fail
                              go_ret
                              exact NamePost.intro HV.out.symm (bthen HB0.out HA4.out)
                            | true =>
                              have ghen : ¬ (0 : Int) < nn := by have e1 := HLN.out; have e2 := List.isEmpty_iff.1 hen; subst e2; simp at e1; omega
                              have HV : Hid (editRight _ = true) := HR.out.trans (by simp [ERV, loneB, oldsB, newsB, ha, hi, hj, hi0, hpe, hij, hj0, hf, ht, hft, hpo, hpn, heo, hen])
                              go_wp2_with fail
                              go_quiet (fail)
                              go_wp2
                              go_ret
                              exact NamePost.intro HV.out.symm (below_drews (bthen HB0.out HA4.out) _)
end Go.Proofs.YtmikjhohnfcedaaGreatDoor

namespace Go.Proofs.YtmikjhohnfcedaaGreatDoor
set_option linter.unusedSimpArgs false
set_option linter.unusedVariables false
open Go.RowKit
set_option linter.unusedSimpArgs false

set_option maxRecDepth 20000 in
set_option maxHeartbeats 4000000 in
theorem p_eright_2 (ps : List Int) (os ns : List Tree) (pA : Option Addr) (pn pc : Nat) (i j : Int) (f t : ByteArray) (oA : Option Addr) (on oc : Nat) (nA : Option Addr) (nn nc : Nat) (w : World) 
    (hp : IntsAt w ps pA pn pc) (ho : KidsAt w os oA on oc) (hn : KidsAt w ns nA nn nc) (hE : EnvS w) (hsz : f.size + t.size ≤ 9223372036854775806) (hso : shortL 9223372036854775806 os) (hsn : shortL 9223372036854775806 ns) :
    Calls Tryz.prog 9 #[.agg #[.int .u8 2, .slice pA pn pc, .int .i64 i, .int .i64 j, .string f, .string t, .slice oA on oc, .slice nA nn nc]] w (NamePost (editRight ⟨2, ps, i, j, bl f, bl t, os, ns⟩) w) := by
  have hb0 : Below w.heap.size w (w.alloc (.cells #[.int .u8 2, .slice pA pn pc, .int .i64 i, .int .i64 j, .string f, .string t, .slice oA on oc, .slice nA nn nc] 26)) := (Below.refl _ _).alloc (Nat.le_refl _) _
  have HB0 := Lib.hid hb0
  have HE := Lib.hid (hE.below hb0 (Nat.le_refl _))
  have HP := Lib.hid (hp.below hb0)
  have HO := Lib.hid (ho.below hb0)
  have HN := Lib.hid (hn.below hb0)
  have HR := Lib.hid (er_eq ⟨2, ps, i, j, bl f, bl t, os, ns⟩)
  have HBX := Lib.hid (Box8.new (w := w) (x0 := .int .u8 2) (x1 := .slice pA pn pc) (x2 := .int .i64 i) (x3 := .int .i64 j) (x4 := .string f) (x5 := .string t) (x6 := .slice oA on oc) (x7 := .slice nA nn nc) (T := 26))
  have HSO := Lib.hid hso
  have HSN := Lib.hid hsn
  have HLP : Hid (pn = ps.length) := hp.1
  have HLO : Hid (on = os.length) := ho.1
  have HLN : Hid (nn = ns.length) := hn.1
  have hfs : f.size ≤ 9223372036854775806 := by omega
  have hts : t.size ≤ 9223372036854775806 := by omega
  have hpn : pn ≤ 9223372036854775807 := by have h1 := hp.2.1; have h2 := hp.2.2.1; unfold maxLen at h2; omega
  have hon : on ≤ 9223372036854775807 := by have h1 := ho.2.1; have h2 := ho.2.2.1; unfold maxLen at h2; omega
  have hnn : nn ≤ 9223372036854775807 := by have h1 := hn.2.1; have h2 := hn.2.2.1; unfold maxLen at h2; omega
  have hcf := enter_nonumber
  clear hb0 hE hp ho hn hso hsn
  go_enter Tryz.func9, Tryz.ntmps9
  go_wp2_with fail
  go_quiet (fail)
  go_wp2_with fail
  refine (p_any_no ps _ _ _ _ (HP.out.below (below_drews (Below.refl _ _) _))).mono ?_
  rintro e wq ⟨rfl, q1, rfl⟩
  cases ha : ps.all numberB with
  | false =>
    have HV : Hid (editRight _ = false) := HR.out.trans (by simp [ERV, loneB, oldsB, newsB, ha])
    go_wp2_with fail
    go_ret
    exact NamePost.intro HV.out.symm (below_drews HB0.out _)
  | true =>
    go_wp2_with fail
    refine (p_number i _).mono ?_
    rintro e wq ⟨rfl, q2, rfl⟩
    cases hi : numberB i with
    | false =>
      have HV : Hid (editRight _ = false) := HR.out.trans (by simp [ERV, loneB, oldsB, newsB, ha, hi])
      go_wp2_with fail
      go_ret
      exact NamePost.intro HV.out.symm (below_drews HB0.out _)
    | true =>
      go_wp2_with fail
      refine (p_number j _).mono ?_
      rintro e wq ⟨rfl, q3, rfl⟩
      cases hj : numberB j with
      | false =>
        have HV : Hid (editRight _ = false) := HR.out.trans (by simp [ERV, loneB, oldsB, newsB, ha, hi, hj])
        go_wp2_with fail
        go_ret
        exact NamePost.intro HV.out.symm (below_drews HB0.out _)
      | true =>
        cases hij : (i == j) with
        | false =>
          have n_hij : (i != j) = true := by simpa using hij
          cases hj0 : (j == 0) with
          | false =>
            have n_hj0 : (j != 0) = true := by simpa using hj0
            have HV : Hid (editRight _ = false) := HR.out.trans (by simp [ERV, loneB, oldsB, newsB, ha, hi, hj, hij, hj0])
            go_wp2_with fail
            go_ret
            exact NamePost.intro HV.out.symm (below_drews HB0.out _)
          | true =>
            have q_hj0 : (j != 0) = false := by simpa using hj0
            go_wp2_with fail
            cases hem : (bl f ++ bl t).isEmpty with
            | false =>
              have hne : (!(f ++ t).toList.isEmpty) = true := by rw [toList_bl, bl_app, hem]; rfl
              refine (p_name f _ (HE.out.below (below_drews (Below.refl _ _) _) (Nat.le_refl _)) hfs).mono ?_
              rintro e w1 ⟨rfl, hb1⟩
              have HA1 := Lib.hid (bthen (below_drews (Below.refl _ _) _) hb1)
              clear hb1
              obtain ⟨c0, c1, c2, c3, c4, c5, c6, c7⟩ := HBX.out.below HA1.out
              cases hf : isName (bl f) with
              | false =>
                have HV : Hid (editRight _ = false) := HR.out.trans (by simp [ERV, loneB, oldsB, newsB, ha, hi, hj, hij, hj0, hem, hf])
                go_wp2_with fail
                go_ret
                exact NamePost.intro HV.out.symm (bthen HB0.out HA1.out)
              | true =>
                go_wp2_with fail
                refine (p_name t _ (HE.out.below HA1.out (Nat.le_refl _)) hts).mono ?_
                rintro e w2 ⟨rfl, hb2⟩
                have HA2 := Lib.hid (bthen HA1.out hb2)
                clear hb2
                clear c0 c1 c2 c3 c4 c5 c6 c7
                obtain ⟨c0, c1, c2, c3, c4, c5, c6, c7⟩ := HBX.out.below HA2.out
                cases ht : isName (bl t) with
                | false =>
                  have HV : Hid (editRight _ = false) := HR.out.trans (by simp [ERV, loneB, oldsB, newsB, ha, hi, hj, hij, hj0, hem, hf, ht])
                  go_wp2_with fail
                  go_ret
                  exact NamePost.intro HV.out.symm (bthen HB0.out HA2.out)
                | true =>
                  cases hft : (bl f == bl t) with
                  | true =>
                    obtain rfl := bl_inj (by simpa using hft)
                    have HV : Hid (editRight _ = false) := HR.out.trans (by simp [ERV, loneB, oldsB, newsB, ha, hi, hj, hij, hj0, hem, hf, ht, hft])
                    go_wp2_with fail
                    go_ret
                    exact NamePost.intro HV.out.symm (bthen HB0.out HA2.out)
                  | false =>
                    have e0 : (f.toList == t.toList) = false := str_ne (by simpa using hft)
                    have HV : Hid (editRight _ = false) := HR.out.trans (by simp [ERV, loneB, oldsB, newsB, ha, hi, hj, hij, hj0, hem, hf, ht, hft])
                    go_wp2_with fail
                    go_ret
                    exact NamePost.intro HV.out.symm (bthen HB0.out HA2.out)
            | true =>
              have hee : (!(f ++ t).toList.isEmpty) = false := by rw [toList_bl, bl_app, hem]; rfl
              have hf0 : isName (bl f) = false := by rw [(List.append_eq_nil_iff.1 (List.isEmpty_iff.1 hem)).1]; rfl
              refine (p_name f _ (HE.out.below (below_drews (Below.refl _ _) _) (Nat.le_refl _)) hfs).mono ?_
              rintro e w1 ⟨rfl, hb1⟩
              have HA1 := Lib.hid (bthen (below_drews (Below.refl _ _) _) hb1)
              clear hb1
              obtain ⟨c0, c1, c2, c3, c4, c5, c6, c7⟩ := HBX.out.below HA1.out
              rw [hf0]
              go_wp2_with fail
              refine (p_part os _ _ _ _ (HO.out.below HA1.out) HSO.out (HE.out.below HA1.out (Nat.le_refl _))).mono ?_
              rintro e w2 ⟨rfl, hb2⟩
              have HA2 := Lib.hid (bthen HA1.out hb2)
              clear hb2
              clear c0 c1 c2 c3 c4 c5 c6 c7
              obtain ⟨c0, c1, c2, c3, c4, c5, c6, c7⟩ := HBX.out.below HA2.out
              cases hpo : partB os with
              | true =>
                have HV : Hid (editRight _ = false) := HR.out.trans (by simp [ERV, loneB, oldsB, newsB, ha, hi, hj, hij, hj0, hem, hf0, hpo])
                go_wp2_with fail
                go_ret
                exact NamePost.intro HV.out.symm (bthen HB0.out HA2.out)
              | false =>
                go_wp2_with fail
                refine (p_part ns _ _ _ _ (HN.out.below HA2.out) HSN.out (HE.out.below HA2.out (Nat.le_refl _))).mono ?_
                rintro e w3 ⟨rfl, hb3⟩
                have HA3 := Lib.hid (bthen HA2.out hb3)
                clear hb3
                clear c0 c1 c2 c3 c4 c5 c6 c7
                obtain ⟨c0, c1, c2, c3, c4, c5, c6, c7⟩ := HBX.out.below HA3.out
                cases hpn : partB ns with
                | false =>
                  have HV : Hid (editRight _ = false) := HR.out.trans (by simp [ERV, loneB, oldsB, newsB, ha, hi, hj, hij, hj0, hem, hf0, hpo, hpn])
                  go_wp2_with fail
                  go_ret
                  exact NamePost.intro HV.out.symm (bthen HB0.out HA3.out)
                | true =>
                  cases heo : os.isEmpty with
                  | false =>
                    have gheo : (0 : Int) < on := by
                      have e1 := HLO.out
                      cases os with
                      | nil => cases heo
                      | cons a l => simp at e1; omega
                    have HV : Hid (editRight _ = false) := HR.out.trans (by simp [ERV, loneB, oldsB, newsB, ha, hi, hj, hij, hj0, hem, hf0, hpo, hpn, heo])
                    go_wp2_with fail
                    go_ret
                    exact NamePost.intro HV.out.symm (bthen HB0.out HA3.out)
                  | true =>
                    have gheo : ¬ (0 : Int) < on := by have e1 := HLO.out; have e2 := List.isEmpty_iff.1 heo; subst e2; simp at e1; omega
                    have HV : Hid (editRight _ = true) := HR.out.trans (by simp [ERV, loneB, oldsB, newsB, ha, hi, hj, hij, hj0, hem, hf0, hpo, hpn, heo])
                    go_wp2_with fail
                    go_quiet (fail)
                    go_wp2
                    go_ret
                    exact NamePost.intro HV.out.symm (below_drews (bthen HB0.out HA3.out) _)
        | true =>
          have q_hij : (i != j) = false := by simpa using hij
          cases hj0 : (j == 0) with
          | false =>
            have n_hj0 : (j != 0) = true := by simpa using hj0
            have HV : Hid (editRight _ = false) := HR.out.trans (by simp [ERV, loneB, oldsB, newsB, ha, hi, hj, hij, hj0])
            go_wp2_with fail
            go_ret
            exact NamePost.intro HV.out.symm (below_drews HB0.out _)
          | true =>
            have q_hj0 : (j != 0) = false := by simpa using hj0
            go_wp2_with fail
            cases hem : (bl f ++ bl t).isEmpty with
            | false =>
              have hne : (!(f ++ t).toList.isEmpty) = true := by rw [toList_bl, bl_app, hem]; rfl
              refine (p_name f _ (HE.out.below (below_drews (Below.refl _ _) _) (Nat.le_refl _)) hfs).mono ?_
              rintro e w1 ⟨rfl, hb1⟩
              have HA1 := Lib.hid (bthen (below_drews (Below.refl _ _) _) hb1)
              clear hb1
              obtain ⟨c0, c1, c2, c3, c4, c5, c6, c7⟩ := HBX.out.below HA1.out
              cases hf : isName (bl f) with
              | false =>
                have HV : Hid (editRight _ = false) := HR.out.trans (by simp [ERV, loneB, oldsB, newsB, ha, hi, hj, hij, hj0, hem, hf])
                go_wp2_with fail
                go_ret
                exact NamePost.intro HV.out.symm (bthen HB0.out HA1.out)
              | true =>
                go_wp2_with fail
                refine (p_name t _ (HE.out.below HA1.out (Nat.le_refl _)) hts).mono ?_
                rintro e w2 ⟨rfl, hb2⟩
                have HA2 := Lib.hid (bthen HA1.out hb2)
                clear hb2
                clear c0 c1 c2 c3 c4 c5 c6 c7
                obtain ⟨c0, c1, c2, c3, c4, c5, c6, c7⟩ := HBX.out.below HA2.out
                cases ht : isName (bl t) with
                | false =>
                  have HV : Hid (editRight _ = false) := HR.out.trans (by simp [ERV, loneB, oldsB, newsB, ha, hi, hj, hij, hj0, hem, hf, ht])
                  go_wp2_with fail
                  go_ret
                  exact NamePost.intro HV.out.symm (bthen HB0.out HA2.out)
                | true =>
                  cases hft : (bl f == bl t) with
                  | true =>
                    obtain rfl := bl_inj (by simpa using hft)
                    have HV : Hid (editRight _ = false) := HR.out.trans (by simp [ERV, loneB, oldsB, newsB, ha, hi, hj, hij, hj0, hem, hf, ht, hft])
                    go_wp2_with fail
                    go_ret
                    exact NamePost.intro HV.out.symm (bthen HB0.out HA2.out)
                  | false =>
                    have e0 : (f.toList == t.toList) = false := str_ne (by simpa using hft)
                    have HV : Hid (editRight _ = false) := HR.out.trans (by simp [ERV, loneB, oldsB, newsB, ha, hi, hj, hij, hj0, hem, hf, ht, hft])
                    go_wp2_with fail
                    go_ret
                    exact NamePost.intro HV.out.symm (bthen HB0.out HA2.out)
            | true =>
              have hee : (!(f ++ t).toList.isEmpty) = false := by rw [toList_bl, bl_app, hem]; rfl
              have hf0 : isName (bl f) = false := by rw [(List.append_eq_nil_iff.1 (List.isEmpty_iff.1 hem)).1]; rfl
              refine (p_name f _ (HE.out.below (below_drews (Below.refl _ _) _) (Nat.le_refl _)) hfs).mono ?_
              rintro e w1 ⟨rfl, hb1⟩
              have HA1 := Lib.hid (bthen (below_drews (Below.refl _ _) _) hb1)
              clear hb1
              obtain ⟨c0, c1, c2, c3, c4, c5, c6, c7⟩ := HBX.out.below HA1.out
              rw [hf0]
              go_wp2_with fail
              refine (p_part os _ _ _ _ (HO.out.below HA1.out) HSO.out (HE.out.below HA1.out (Nat.le_refl _))).mono ?_
              rintro e w2 ⟨rfl, hb2⟩
              have HA2 := Lib.hid (bthen HA1.out hb2)
              clear hb2
              clear c0 c1 c2 c3 c4 c5 c6 c7
              obtain ⟨c0, c1, c2, c3, c4, c5, c6, c7⟩ := HBX.out.below HA2.out
              cases hpo : partB os with
              | true =>
                have HV : Hid (editRight _ = false) := HR.out.trans (by simp [ERV, loneB, oldsB, newsB, ha, hi, hj, hij, hj0, hem, hf0, hpo])
                go_wp2_with fail
                go_ret
                exact NamePost.intro HV.out.symm (bthen HB0.out HA2.out)
              | false =>
                go_wp2_with fail
                refine (p_part ns _ _ _ _ (HN.out.below HA2.out) HSN.out (HE.out.below HA2.out (Nat.le_refl _))).mono ?_
                rintro e w3 ⟨rfl, hb3⟩
                have HA3 := Lib.hid (bthen HA2.out hb3)
                clear hb3
                clear c0 c1 c2 c3 c4 c5 c6 c7
                obtain ⟨c0, c1, c2, c3, c4, c5, c6, c7⟩ := HBX.out.below HA3.out
                cases hpn : partB ns with
                | false =>
                  have HV : Hid (editRight _ = false) := HR.out.trans (by simp [ERV, loneB, oldsB, newsB, ha, hi, hj, hij, hj0, hem, hf0, hpo, hpn])
                  go_wp2_with fail
                  go_ret
                  exact NamePost.intro HV.out.symm (bthen HB0.out HA3.out)
                | true =>
                  cases heo : os.isEmpty with
                  | false =>
                    have gheo : (0 : Int) < on := by
                      have e1 := HLO.out
                      cases os with
                      | nil => cases heo
                      | cons a l => simp at e1; omega
                    have HV : Hid (editRight _ = false) := HR.out.trans (by simp [ERV, loneB, oldsB, newsB, ha, hi, hj, hij, hj0, hem, hf0, hpo, hpn, heo])
                    go_wp2_with fail
                    go_ret
                    exact NamePost.intro HV.out.symm (bthen HB0.out HA3.out)
                  | true =>
                    have gheo : ¬ (0 : Int) < on := by have e1 := HLO.out; have e2 := List.isEmpty_iff.1 heo; subst e2; simp at e1; omega
                    have HV : Hid (editRight _ = true) := HR.out.trans (by simp [ERV, loneB, oldsB, newsB, ha, hi, hj, hij, hj0, hem, hf0, hpo, hpn, heo])
                    go_wp2_with fail
                    go_quiet (fail)
                    go_wp2
                    go_ret
                    exact NamePost.intro HV.out.symm (below_drews (bthen HB0.out HA3.out) _)
end Go.Proofs.YtmikjhohnfcedaaGreatDoor

namespace Go.Proofs.YtmikjhohnfcedaaGreatDoor
set_option linter.unusedSimpArgs false
set_option linter.unusedVariables false
open Go.RowKit
set_option linter.unusedSimpArgs false

set_option maxRecDepth 20000 in
set_option maxHeartbeats 4000000 in
theorem p_eright_3 (ps : List Int) (os ns : List Tree) (pA : Option Addr) (pn pc : Nat) (i j : Int) (f t : ByteArray) (oA : Option Addr) (on oc : Nat) (nA : Option Addr) (nn nc : Nat) (w : World) 
    (hp : IntsAt w ps pA pn pc) (ho : KidsAt w os oA on oc) (hn : KidsAt w ns nA nn nc) (hE : EnvS w) (hsz : f.size + t.size ≤ 9223372036854775806) (hso : shortL 9223372036854775806 os) (hsn : shortL 9223372036854775806 ns) :
    Calls Tryz.prog 9 #[.agg #[.int .u8 3, .slice pA pn pc, .int .i64 i, .int .i64 j, .string f, .string t, .slice oA on oc, .slice nA nn nc]] w (NamePost (editRight ⟨3, ps, i, j, bl f, bl t, os, ns⟩) w) := by
  have hb0 : Below w.heap.size w (w.alloc (.cells #[.int .u8 3, .slice pA pn pc, .int .i64 i, .int .i64 j, .string f, .string t, .slice oA on oc, .slice nA nn nc] 26)) := (Below.refl _ _).alloc (Nat.le_refl _) _
  have HB0 := Lib.hid hb0
  have HE := Lib.hid (hE.below hb0 (Nat.le_refl _))
  have HP := Lib.hid (hp.below hb0)
  have HO := Lib.hid (ho.below hb0)
  have HN := Lib.hid (hn.below hb0)
  have HR := Lib.hid (er_eq ⟨3, ps, i, j, bl f, bl t, os, ns⟩)
  have HBX := Lib.hid (Box8.new (w := w) (x0 := .int .u8 3) (x1 := .slice pA pn pc) (x2 := .int .i64 i) (x3 := .int .i64 j) (x4 := .string f) (x5 := .string t) (x6 := .slice oA on oc) (x7 := .slice nA nn nc) (T := 26))
  have HSO := Lib.hid hso
  have HSN := Lib.hid hsn
  have HLP : Hid (pn = ps.length) := hp.1
  have HLO : Hid (on = os.length) := ho.1
  have HLN : Hid (nn = ns.length) := hn.1
  have hfs : f.size ≤ 9223372036854775806 := by omega
  have hts : t.size ≤ 9223372036854775806 := by omega
  have hpn : pn ≤ 9223372036854775807 := by have h1 := hp.2.1; have h2 := hp.2.2.1; unfold maxLen at h2; omega
  have hon : on ≤ 9223372036854775807 := by have h1 := ho.2.1; have h2 := ho.2.2.1; unfold maxLen at h2; omega
  have hnn : nn ≤ 9223372036854775807 := by have h1 := hn.2.1; have h2 := hn.2.2.1; unfold maxLen at h2; omega
  have hcf := enter_nonumber
  clear hb0 hE hp ho hn hso hsn
  go_enter Tryz.func9, Tryz.ntmps9
  go_wp2_with fail
  go_quiet (fail)
  go_wp2_with fail
  refine (p_any_no ps _ _ _ _ (HP.out.below (below_drews (Below.refl _ _) _))).mono ?_
  rintro e wq ⟨rfl, q1, rfl⟩
  cases ha : ps.all numberB with
  | false =>
    have HV : Hid (editRight _ = false) := HR.out.trans (by simp [ERV, loneB, oldsB, newsB, ha])
    go_wp2_with fail
    go_ret
    exact NamePost.intro HV.out.symm (below_drews HB0.out _)
  | true =>
    go_wp2_with fail
    refine (p_number i _).mono ?_
    rintro e wq ⟨rfl, q2, rfl⟩
    cases hi : numberB i with
    | false =>
      have HV : Hid (editRight _ = false) := HR.out.trans (by simp [ERV, loneB, oldsB, newsB, ha, hi])
      go_wp2_with fail
      go_ret
      exact NamePost.intro HV.out.symm (below_drews HB0.out _)
    | true =>
      go_wp2_with fail
      refine (p_number j _).mono ?_
      rintro e wq ⟨rfl, q3, rfl⟩
      cases hj : numberB j with
      | false =>
        have HV : Hid (editRight _ = false) := HR.out.trans (by simp [ERV, loneB, oldsB, newsB, ha, hi, hj])
        go_wp2_with fail
        go_ret
        exact NamePost.intro HV.out.symm (below_drews HB0.out _)
      | true =>
        cases hij : (i == j) with
        | false =>
          have n_hij : (i != j) = true := by simpa using hij
          cases hj0 : (j == 0) with
          | false =>
            have n_hj0 : (j != 0) = true := by simpa using hj0
            have HV : Hid (editRight _ = false) := HR.out.trans (by simp [ERV, loneB, oldsB, newsB, ha, hi, hj, hij, hj0])
            go_wp2_with fail
            go_ret
            exact NamePost.intro HV.out.symm (below_drews HB0.out _)
          | true =>
            have q_hj0 : (j != 0) = false := by simpa using hj0
            go_wp2_with fail
            cases hem : (bl f ++ bl t).isEmpty with
            | false =>
              have hne : (!(f ++ t).toList.isEmpty) = true := by rw [toList_bl, bl_app, hem]; rfl
              refine (p_name f _ (HE.out.below (below_drews (Below.refl _ _) _) (Nat.le_refl _)) hfs).mono ?_
              rintro e w1 ⟨rfl, hb1⟩
              have HA1 := Lib.hid (bthen (below_drews (Below.refl _ _) _) hb1)
              clear hb1
              obtain ⟨c0, c1, c2, c3, c4, c5, c6, c7⟩ := HBX.out.below HA1.out
              cases hf : isName (bl f) with
              | false =>
                have HV : Hid (editRight _ = false) := HR.out.trans (by simp [ERV, loneB, oldsB, newsB, ha, hi, hj, hij, hj0, hem, hf])
                go_wp2_with fail
                go_ret
                exact NamePost.intro HV.out.symm (bthen HB0.out HA1.out)
              | true =>
                go_wp2_with fail
                refine (p_name t _ (HE.out.below HA1.out (Nat.le_refl _)) hts).mono ?_
                rintro e w2 ⟨rfl, hb2⟩
                have HA2 := Lib.hid (bthen HA1.out hb2)
                clear hb2
                clear c0 c1 c2 c3 c4 c5 c6 c7
                obtain ⟨c0, c1, c2, c3, c4, c5, c6, c7⟩ := HBX.out.below HA2.out
                cases ht : isName (bl t) with
                | false =>
                  have HV : Hid (editRight _ = false) := HR.out.trans (by simp [ERV, loneB, oldsB, newsB, ha, hi, hj, hij, hj0, hem, hf, ht])
                  go_wp2_with fail
                  go_ret
                  exact NamePost.intro HV.out.symm (bthen HB0.out HA2.out)
                | true =>
                  cases hft : (bl f == bl t) with
                  | true =>
                    obtain rfl := bl_inj (by simpa using hft)
                    have HV : Hid (editRight _ = false) := HR.out.trans (by simp [ERV, loneB, oldsB, newsB, ha, hi, hj, hij, hj0, hem, hf, ht, hft])
                    go_wp2_with fail
                    go_ret
                    exact NamePost.intro HV.out.symm (bthen HB0.out HA2.out)
                  | false =>
                    have e0 : (f.toList == t.toList) = false := str_ne (by simpa using hft)
                    have HV : Hid (editRight _ = false) := HR.out.trans (by simp [ERV, loneB, oldsB, newsB, ha, hi, hj, hij, hj0, hem, hf, ht, hft])
                    go_wp2_with fail
                    go_ret
                    exact NamePost.intro HV.out.symm (bthen HB0.out HA2.out)
            | true =>
              have hee : (!(f ++ t).toList.isEmpty) = false := by rw [toList_bl, bl_app, hem]; rfl
              have hf0 : isName (bl f) = false := by rw [(List.append_eq_nil_iff.1 (List.isEmpty_iff.1 hem)).1]; rfl
              refine (p_name f _ (HE.out.below (below_drews (Below.refl _ _) _) (Nat.le_refl _)) hfs).mono ?_
              rintro e w1 ⟨rfl, hb1⟩
              have HA1 := Lib.hid (bthen (below_drews (Below.refl _ _) _) hb1)
              clear hb1
              obtain ⟨c0, c1, c2, c3, c4, c5, c6, c7⟩ := HBX.out.below HA1.out
              rw [hf0]
              go_wp2_with fail
              refine (p_part os _ _ _ _ (HO.out.below HA1.out) HSO.out (HE.out.below HA1.out (Nat.le_refl _))).mono ?_
              rintro e w2 ⟨rfl, hb2⟩
              have HA2 := Lib.hid (bthen HA1.out hb2)
              clear hb2
              clear c0 c1 c2 c3 c4 c5 c6 c7
              obtain ⟨c0, c1, c2, c3, c4, c5, c6, c7⟩ := HBX.out.below HA2.out
              cases hpo : partB os with
              | false =>
                have HV : Hid (editRight _ = false) := HR.out.trans (by simp [ERV, loneB, oldsB, newsB, ha, hi, hj, hij, hj0, hem, hf0, hpo])
                go_wp2_with fail
                go_ret
                exact NamePost.intro HV.out.symm (bthen HB0.out HA2.out)
              | true =>
                go_wp2_with fail
                refine (p_part ns _ _ _ _ (HN.out.below HA2.out) HSN.out (HE.out.below HA2.out (Nat.le_refl _))).mono ?_
                rintro e w3 ⟨rfl, hb3⟩
                have HA3 := Lib.hid (bthen HA2.out hb3)
                clear hb3
                clear c0 c1 c2 c3 c4 c5 c6 c7
                obtain ⟨c0, c1, c2, c3, c4, c5, c6, c7⟩ := HBX.out.below HA3.out
                cases hpn : partB ns with
                | true =>
                  have HV : Hid (editRight _ = false) := HR.out.trans (by simp [ERV, loneB, oldsB, newsB, ha, hi, hj, hij, hj0, hem, hf0, hpo, hpn])
                  go_wp2_with fail
                  go_ret
                  exact NamePost.intro HV.out.symm (bthen HB0.out HA3.out)
                | false =>
                  cases hen : ns.isEmpty with
                  | false =>
                    have ghen : (0 : Int) < nn := by
                      have e1 := HLN.out
                      cases ns with
                      | nil => cases hen
                      | cons a l => simp at e1; omega
                    have HV : Hid (editRight _ = false) := HR.out.trans (by simp [ERV, loneB, oldsB, newsB, ha, hi, hj, hij, hj0, hem, hf0, hpo, hpn, hen])
                    go_wp2_with fail
                    go_ret
                    exact NamePost.intro HV.out.symm (bthen HB0.out HA3.out)
                  | true =>
                    have ghen : ¬ (0 : Int) < nn := by have e1 := HLN.out; have e2 := List.isEmpty_iff.1 hen; subst e2; simp at e1; omega
                    have HV : Hid (editRight _ = true) := HR.out.trans (by simp [ERV, loneB, oldsB, newsB, ha, hi, hj, hij, hj0, hem, hf0, hpo, hpn, hen])
                    go_wp2_with fail
                    go_quiet (fail)
                    go_wp2
                    go_ret
                    exact NamePost.intro HV.out.symm (below_drews (bthen HB0.out HA3.out) _)
        | true =>
          have q_hij : (i != j) = false := by simpa using hij
          cases hj0 : (j == 0) with
          | false =>
            have n_hj0 : (j != 0) = true := by simpa using hj0
            have HV : Hid (editRight _ = false) := HR.out.trans (by simp [ERV, loneB, oldsB, newsB, ha, hi, hj, hij, hj0])
            go_wp2_with fail
            go_ret
            exact NamePost.intro HV.out.symm (below_drews HB0.out _)
          | true =>
            have q_hj0 : (j != 0) = false := by simpa using hj0
            go_wp2_with fail
            cases hem : (bl f ++ bl t).isEmpty with
            | false =>
              have hne : (!(f ++ t).toList.isEmpty) = true := by rw [toList_bl, bl_app, hem]; rfl
              refine (p_name f _ (HE.out.below (below_drews (Below.refl _ _) _) (Nat.le_refl _)) hfs).mono ?_
              rintro e w1 ⟨rfl, hb1⟩
              have HA1 := Lib.hid (bthen (below_drews (Below.refl _ _) _) hb1)
              clear hb1
              obtain ⟨c0, c1, c2, c3, c4, c5, c6, c7⟩ := HBX.out.below HA1.out
              cases hf : isName (bl f) with
              | false =>
                have HV : Hid (editRight _ = false) := HR.out.trans (by simp [ERV, loneB, oldsB, newsB, ha, hi, hj, hij, hj0, hem, hf])
                go_wp2_with fail
                go_ret
                exact NamePost.intro HV.out.symm (bthen HB0.out HA1.out)
              | true =>
                go_wp2_with fail
                refine (p_name t _ (HE.out.below HA1.out (Nat.le_refl _)) hts).mono ?_
                rintro e w2 ⟨rfl, hb2⟩
                have HA2 := Lib.hid (bthen HA1.out hb2)
                clear hb2
                clear c0 c1 c2 c3 c4 c5 c6 c7
                obtain ⟨c0, c1, c2, c3, c4, c5, c6, c7⟩ := HBX.out.below HA2.out
                cases ht : isName (bl t) with
                | false =>
                  have HV : Hid (editRight _ = false) := HR.out.trans (by simp [ERV, loneB, oldsB, newsB, ha, hi, hj, hij, hj0, hem, hf, ht])
                  go_wp2_with fail
                  go_ret
                  exact NamePost.intro HV.out.symm (bthen HB0.out HA2.out)
                | true =>
                  cases hft : (bl f == bl t) with
                  | true =>
                    obtain rfl := bl_inj (by simpa using hft)
                    have HV : Hid (editRight _ = false) := HR.out.trans (by simp [ERV, loneB, oldsB, newsB, ha, hi, hj, hij, hj0, hem, hf, ht, hft])
                    go_wp2_with fail
                    go_ret
                    exact NamePost.intro HV.out.symm (bthen HB0.out HA2.out)
                  | false =>
                    have e0 : (f.toList == t.toList) = false := str_ne (by simpa using hft)
                    have HV : Hid (editRight _ = false) := HR.out.trans (by simp [ERV, loneB, oldsB, newsB, ha, hi, hj, hij, hj0, hem, hf, ht, hft])
                    go_wp2_with fail
                    go_ret
                    exact NamePost.intro HV.out.symm (bthen HB0.out HA2.out)
            | true =>
              have hee : (!(f ++ t).toList.isEmpty) = false := by rw [toList_bl, bl_app, hem]; rfl
              have hf0 : isName (bl f) = false := by rw [(List.append_eq_nil_iff.1 (List.isEmpty_iff.1 hem)).1]; rfl
              refine (p_name f _ (HE.out.below (below_drews (Below.refl _ _) _) (Nat.le_refl _)) hfs).mono ?_
              rintro e w1 ⟨rfl, hb1⟩
              have HA1 := Lib.hid (bthen (below_drews (Below.refl _ _) _) hb1)
              clear hb1
              obtain ⟨c0, c1, c2, c3, c4, c5, c6, c7⟩ := HBX.out.below HA1.out
              rw [hf0]
              go_wp2_with fail
              refine (p_part os _ _ _ _ (HO.out.below HA1.out) HSO.out (HE.out.below HA1.out (Nat.le_refl _))).mono ?_
              rintro e w2 ⟨rfl, hb2⟩
              have HA2 := Lib.hid (bthen HA1.out hb2)
              clear hb2
              clear c0 c1 c2 c3 c4 c5 c6 c7
              obtain ⟨c0, c1, c2, c3, c4, c5, c6, c7⟩ := HBX.out.below HA2.out
              cases hpo : partB os with
              | false =>
                have HV : Hid (editRight _ = false) := HR.out.trans (by simp [ERV, loneB, oldsB, newsB, ha, hi, hj, hij, hj0, hem, hf0, hpo])
                go_wp2_with fail
                go_ret
                exact NamePost.intro HV.out.symm (bthen HB0.out HA2.out)
              | true =>
                go_wp2_with fail
                refine (p_part ns _ _ _ _ (HN.out.below HA2.out) HSN.out (HE.out.below HA2.out (Nat.le_refl _))).mono ?_
                rintro e w3 ⟨rfl, hb3⟩
                have HA3 := Lib.hid (bthen HA2.out hb3)
                clear hb3
                clear c0 c1 c2 c3 c4 c5 c6 c7
                obtain ⟨c0, c1, c2, c3, c4, c5, c6, c7⟩ := HBX.out.below HA3.out
                cases hpn : partB ns with
                | true =>
                  have HV : Hid (editRight _ = false) := HR.out.trans (by simp [ERV, loneB, oldsB, newsB, ha, hi, hj, hij, hj0, hem, hf0, hpo, hpn])
                  go_wp2_with fail
                  go_ret
                  exact NamePost.intro HV.out.symm (bthen HB0.out HA3.out)
                | false =>
                  cases hen : ns.isEmpty with
                  | false =>
                    have ghen : (0 : Int) < nn := by
                      have e1 := HLN.out
                      cases ns with
                      | nil => cases hen
                      | cons a l => simp at e1; omega
                    have HV : Hid (editRight _ = false) := HR.out.trans (by simp [ERV, loneB, oldsB, newsB, ha, hi, hj, hij, hj0, hem, hf0, hpo, hpn, hen])
                    go_wp2_with fail
                    go_ret
                    exact NamePost.intro HV.out.symm (bthen HB0.out HA3.out)
                  | true =>
                    have ghen : ¬ (0 : Int) < nn := by have e1 := HLN.out; have e2 := List.isEmpty_iff.1 hen; subst e2; simp at e1; omega
                    have HV : Hid (editRight _ = true) := HR.out.trans (by simp [ERV, loneB, oldsB, newsB, ha, hi, hj, hij, hj0, hem, hf0, hpo, hpn, hen])
                    go_wp2_with fail
                    go_quiet (fail)
                    go_wp2
                    go_ret
                    exact NamePost.intro HV.out.symm (below_drews (bthen HB0.out HA3.out) _)
end Go.Proofs.YtmikjhohnfcedaaGreatDoor

namespace Go.Proofs.YtmikjhohnfcedaaGreatDoor
set_option linter.unusedSimpArgs false
set_option linter.unusedVariables false
open Go.RowKit
set_option linter.unusedSimpArgs false

set_option maxRecDepth 20000 in
set_option maxHeartbeats 4000000 in
theorem p_eright_4 (ps : List Int) (os ns : List Tree) (pA : Option Addr) (pn pc : Nat) (i j : Int) (f t : ByteArray) (oA : Option Addr) (on oc : Nat) (nA : Option Addr) (nn nc : Nat) (w : World) 
    (hp : IntsAt w ps pA pn pc) (ho : KidsAt w os oA on oc) (hn : KidsAt w ns nA nn nc) (hE : EnvS w) (hsz : f.size + t.size ≤ 9223372036854775806) (hso : shortL 9223372036854775806 os) (hsn : shortL 9223372036854775806 ns) :
    Calls Tryz.prog 9 #[.agg #[.int .u8 4, .slice pA pn pc, .int .i64 i, .int .i64 j, .string f, .string t, .slice oA on oc, .slice nA nn nc]] w (NamePost (editRight ⟨4, ps, i, j, bl f, bl t, os, ns⟩) w) := by
  have hb0 : Below w.heap.size w (w.alloc (.cells #[.int .u8 4, .slice pA pn pc, .int .i64 i, .int .i64 j, .string f, .string t, .slice oA on oc, .slice nA nn nc] 26)) := (Below.refl _ _).alloc (Nat.le_refl _) _
  have HB0 := Lib.hid hb0
  have HE := Lib.hid (hE.below hb0 (Nat.le_refl _))
  have HP := Lib.hid (hp.below hb0)
  have HO := Lib.hid (ho.below hb0)
  have HN := Lib.hid (hn.below hb0)
  have HR := Lib.hid (er_eq ⟨4, ps, i, j, bl f, bl t, os, ns⟩)
  have HBX := Lib.hid (Box8.new (w := w) (x0 := .int .u8 4) (x1 := .slice pA pn pc) (x2 := .int .i64 i) (x3 := .int .i64 j) (x4 := .string f) (x5 := .string t) (x6 := .slice oA on oc) (x7 := .slice nA nn nc) (T := 26))
  have HSO := Lib.hid hso
  have HSN := Lib.hid hsn
  have HLP : Hid (pn = ps.length) := hp.1
  have HLO : Hid (on = os.length) := ho.1
  have HLN : Hid (nn = ns.length) := hn.1
  have hfs : f.size ≤ 9223372036854775806 := by omega
  have hts : t.size ≤ 9223372036854775806 := by omega
  have hpn : pn ≤ 9223372036854775807 := by have h1 := hp.2.1; have h2 := hp.2.2.1; unfold maxLen at h2; omega
  have hon : on ≤ 9223372036854775807 := by have h1 := ho.2.1; have h2 := ho.2.2.1; unfold maxLen at h2; omega
  have hnn : nn ≤ 9223372036854775807 := by have h1 := hn.2.1; have h2 := hn.2.2.1; unfold maxLen at h2; omega
  have hcf := enter_nonumber
  clear hb0 hE hp ho hn hso hsn
  go_enter Tryz.func9, Tryz.ntmps9
  go_wp2_with fail
  go_quiet (fail)
  go_wp2_with fail
  refine (p_any_no ps _ _ _ _ (HP.out.below (below_drews (Below.refl _ _) _))).mono ?_
  rintro e wq ⟨rfl, q1, rfl⟩
  cases ha : ps.all numberB with
  | false =>
    have HV : Hid (editRight _ = false) := HR.out.trans (by simp [ERV, loneB, oldsB, newsB, ha])
    go_wp2_with fail
    go_ret
    exact NamePost.intro HV.out.symm (below_drews HB0.out _)
  | true =>
    go_wp2_with fail
    refine (p_number i _).mono ?_
    rintro e wq ⟨rfl, q2, rfl⟩
    cases hi : numberB i with
    | false =>
      have HV : Hid (editRight _ = false) := HR.out.trans (by simp [ERV, loneB, oldsB, newsB, ha, hi])
      go_wp2_with fail
      go_ret
      exact NamePost.intro HV.out.symm (below_drews HB0.out _)
    | true =>
      go_wp2_with fail
      refine (p_number j _).mono ?_
      rintro e wq ⟨rfl, q3, rfl⟩
      cases hj : numberB j with
      | false =>
        have HV : Hid (editRight _ = false) := HR.out.trans (by simp [ERV, loneB, oldsB, newsB, ha, hi, hj])
        go_wp2_with fail
        go_ret
        exact NamePost.intro HV.out.symm (below_drews HB0.out _)
      | true =>
        cases hi0 : (i == 0) with
        | false =>
          have n_hi0 : (i != 0) = true := by simpa using hi0
          have HV : Hid (editRight _ = false) := HR.out.trans (by simp [ERV, loneB, oldsB, newsB, ha, hi, hj, hi0])
          go_wp2_with fail
          go_ret
          exact NamePost.intro HV.out.symm (below_drews HB0.out _)
        | true =>
          have q_hi0 : (i != 0) = false := by simpa using hi0
          cases hpe : ps.isEmpty with
          | true =>
            have pe : ((pn : Int) == 0) = true := by have e1 := HLP.out; have e2 := List.isEmpty_iff.1 hpe; subst e2; simp at e1; simp [e1]
            have HV : Hid (editRight _ = false) := HR.out.trans (by simp [ERV, loneB, oldsB, newsB, ha, hi, hj, hi0, hpe])
            go_wp2_with fail
            go_ret
            exact NamePost.intro HV.out.symm (below_drews HB0.out _)
          | false =>
            have pe : ((pn : Int) == 0) = false := by
              have e1 := HLP.out
              cases ps with
              | nil => cases hpe
              | cons a l => simp at e1; simp; omega
            cases hij : (i == j) with
            | false =>
              have n_hij : (i != j) = true := by simpa using hij
              have HV : Hid (editRight _ = false) := HR.out.trans (by simp [ERV, loneB, oldsB, newsB, ha, hi, hj, hi0, hpe, hij])
              go_wp2_with fail
              go_ret
              exact NamePost.intro HV.out.symm (below_drews HB0.out _)
            | true =>
              have q_hij : (i != j) = false := by simpa using hij
              cases hj0 : (j == 0) with
              | false =>
                have n_hj0 : (j != 0) = true := by simpa using hj0
                have HV : Hid (editRight _ = false) := HR.out.trans (by simp [ERV, loneB, oldsB, newsB, ha, hi, hj, hi0, hpe, hij, hj0])
                go_wp2_with fail
                go_ret
                exact NamePost.intro HV.out.symm (below_drews HB0.out _)
              | true =>
                have q_hj0 : (j != 0) = false := by simpa using hj0
                go_wp2_with fail
                cases hem : (bl f ++ bl t).isEmpty with
                | false =>
                  have hne : (!(f ++ t).toList.isEmpty) = true := by rw [toList_bl, bl_app, hem]; rfl
                  refine (p_name f _ (HE.out.below (below_drews (Below.refl _ _) _) (Nat.le_refl _)) hfs).mono ?_
                  rintro e w1 ⟨rfl, hb1⟩
                  have HA1 := Lib.hid (bthen (below_drews (Below.refl _ _) _) hb1)
                  clear hb1
                  obtain ⟨c0, c1, c2, c3, c4, c5, c6, c7⟩ := HBX.out.below HA1.out
                  cases hf : isName (bl f) with
                  | false =>
                    have HV : Hid (editRight _ = false) := HR.out.trans (by simp [ERV, loneB, oldsB, newsB, ha, hi, hj, hi0, hpe, hij, hj0, hem, hf])
                    go_wp2_with fail
                    go_ret
                    exact NamePost.intro HV.out.symm (bthen HB0.out HA1.out)
                  | true =>
                    go_wp2_with fail
                    refine (p_name t _ (HE.out.below HA1.out (Nat.le_refl _)) hts).mono ?_
                    rintro e w2 ⟨rfl, hb2⟩
                    have HA2 := Lib.hid (bthen HA1.out hb2)
                    clear hb2
                    clear c0 c1 c2 c3 c4 c5 c6 c7
                    obtain ⟨c0, c1, c2, c3, c4, c5, c6, c7⟩ := HBX.out.below HA2.out
                    cases ht : isName (bl t) with
                    | false =>
                      have HV : Hid (editRight _ = false) := HR.out.trans (by simp [ERV, loneB, oldsB, newsB, ha, hi, hj, hi0, hpe, hij, hj0, hem, hf, ht])
                      go_wp2_with fail
                      go_ret
                      exact NamePost.intro HV.out.symm (bthen HB0.out HA2.out)
                    | true =>
                      cases hft : (bl f == bl t) with
                      | true =>
                        obtain rfl := bl_inj (by simpa using hft)
                        have HV : Hid (editRight _ = false) := HR.out.trans (by simp [ERV, loneB, oldsB, newsB, ha, hi, hj, hi0, hpe, hij, hj0, hem, hf, ht, hft])
                        go_wp2_with fail
                        go_ret
                        exact NamePost.intro HV.out.symm (bthen HB0.out HA2.out)
                      | false =>
                        have e0 : (f.toList == t.toList) = false := str_ne (by simpa using hft)
                        have HV : Hid (editRight _ = false) := HR.out.trans (by simp [ERV, loneB, oldsB, newsB, ha, hi, hj, hi0, hpe, hij, hj0, hem, hf, ht, hft])
                        go_wp2_with fail
                        go_ret
                        exact NamePost.intro HV.out.symm (bthen HB0.out HA2.out)
                | true =>
                  have hee : (!(f ++ t).toList.isEmpty) = false := by rw [toList_bl, bl_app, hem]; rfl
                  have hf0 : isName (bl f) = false := by rw [(List.append_eq_nil_iff.1 (List.isEmpty_iff.1 hem)).1]; rfl
                  refine (p_name f _ (HE.out.below (below_drews (Below.refl _ _) _) (Nat.le_refl _)) hfs).mono ?_
                  rintro e w1 ⟨rfl, hb1⟩
                  have HA1 := Lib.hid (bthen (below_drews (Below.refl _ _) _) hb1)
                  clear hb1
                  obtain ⟨c0, c1, c2, c3, c4, c5, c6, c7⟩ := HBX.out.below HA1.out
                  rw [hf0]
                  go_wp2_with fail
                  refine (p_part os _ _ _ _ (HO.out.below HA1.out) HSO.out (HE.out.below HA1.out (Nat.le_refl _))).mono ?_
                  rintro e w2 ⟨rfl, hb2⟩
                  have HA2 := Lib.hid (bthen HA1.out hb2)
                  clear hb2
                  clear c0 c1 c2 c3 c4 c5 c6 c7
                  obtain ⟨c0, c1, c2, c3, c4, c5, c6, c7⟩ := HBX.out.below HA2.out
                  cases hpo : partB os with
                  | false =>
                    have HV : Hid (editRight _ = false) := HR.out.trans (by simp [ERV, loneB, oldsB, newsB, ha, hi, hj, hi0, hpe, hij, hj0, hem, hf0, hpo])
                    go_wp2_with fail
                    go_ret
                    exact NamePost.intro HV.out.symm (bthen HB0.out HA2.out)
                  | true =>
                    go_wp2_with fail
                    refine (p_part ns _ _ _ _ (HN.out.below HA2.out) HSN.out (HE.out.below HA2.out (Nat.le_refl _))).mono ?_
                    rintro e w3 ⟨rfl, hb3⟩
                    have HA3 := Lib.hid (bthen HA2.out hb3)
                    clear hb3
                    clear c0 c1 c2 c3 c4 c5 c6 c7
                    obtain ⟨c0, c1, c2, c3, c4, c5, c6, c7⟩ := HBX.out.below HA3.out
                    cases hpn : partB ns with
                    | false =>
                      have HV : Hid (editRight _ = false) := HR.out.trans (by simp [ERV, loneB, oldsB, newsB, ha, hi, hj, hi0, hpe, hij, hj0, hem, hf0, hpo, hpn])
                      go_wp2_with fail
                      go_ret
                      exact NamePost.intro HV.out.symm (bthen HB0.out HA3.out)
                    | true =>
                      obtain ⟨ta, rfl⟩ : ∃ ta, os = [ta] := by
                        match os, hpo with
                        | [ta], _ => exact ⟨ta, rfl⟩
                      obtain ⟨tb, rfl⟩ : ∃ tb, ns = [tb] := by
                        match ns, hpn with
                        | [tb], _ => exact ⟨tb, rfl⟩
                      have hon1 : on = 1 := HLO.out
                      have hnn1 : nn = 1 := HLN.out
                      obtain ⟨b1, o1, t', rfl, ht1, hat1⟩ := HO.out.get (i := 0) (by omega)
                      obtain ⟨b2, o2, t'', rfl, ht2, hat2⟩ := HN.out.get (i := 0) (by omega)
                      simp at ht1 ht2
                      subst ht1 ht2
                      simp only [Nat.zero_mul, Nat.add_zero] at hat1 hat2
                      obtain ⟨A1, d1, p0, p1, p2, p3, hnode1⟩ := (hat1.below HA3.out).cells
                      obtain ⟨A2, d2, r0, r1, r2, r3, hnode2⟩ := (hat2.below HA3.out).cells
                      have HN1 := Lib.hid hnode1
                      have HN2 := Lib.hid hnode2
                      clear hat1 hat2 hnode1 hnode2
                      have HSS : Hid (sameL [ta] [tb] = ta.same tb) := by show _ = _; simp [sameL]
                      have HV : Hid (editRight _ = !(ta.same tb)) := HR.out.trans (by rw [HSS.out]; simp [ERV, loneB, oldsB, newsB, ha, hi, hj, hi0, hpe, hij, hj0, hem, hf0, hpo, hpn])
                      go_wp2_with fail
                      go_region_with (go_at_call 29; refine (p_same ta tb _ _ _ _ _ _ _ _ _ _ _ _ _ (HN1.out.below (below_drews (Below.refl _ _) 1)) (HN2.out.below (below_drews (Below.refl _ _) 1))).mono ?_; rintro e w9 ⟨rfl, hb9⟩)
                      all_goals
                        have HB9 := Lib.hid (bthen (below_drews (bthen HB0.out HA3.out) _) hb9)
                        clear hb9
                        go_wp2
                        go_ret
                        exact NamePost.intro HV.out.symm HB9.out
end Go.Proofs.YtmikjhohnfcedaaGreatDoor
