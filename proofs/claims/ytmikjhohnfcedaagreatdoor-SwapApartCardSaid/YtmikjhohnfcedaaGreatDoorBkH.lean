/- The walk over edit.Right (chapter 14), at k = 5.
   The walk over edit.Right (chapter 14), at k ≠ 1 ∧ k ≠ 2 ∧ k ≠ 3 ∧ k ≠ 4 ∧ k ≠ 5.
   The walk over edit.Right (chapter 14).
   The walk over edit.Invert (chapter 14).
   Worlds that agree but at some blocks; boxes of twelve cells. No program in sight.
   The walks over look's first closure, and IndexFunc, ContainsFunc over nodes with it. -/
import Derived.Test.YtmikjhohnfcedaaGreatDoorBkD
import Derived.Test.YtmikjhohnfcedaaGreatDoorBkG
import Derived.Test.YtmikjhohnfcedaaGreatDoorBkF
namespace Go.Proofs.YtmikjhohnfcedaaGreatDoor
set_option linter.unusedSimpArgs false
set_option linter.unusedVariables false
open Go.RowKit
set_option linter.unusedSimpArgs false

set_option maxRecDepth 20000 in
set_option maxHeartbeats 4000000 in
theorem p_eright_5 (ps : List Int) (os ns : List Tree) (pA : Option Addr) (pn pc : Nat) (i j : Int) (f t : ByteArray) (oA : Option Addr) (on oc : Nat) (nA : Option Addr) (nn nc : Nat) (w : World) 
    (hp : IntsAt w ps pA pn pc) (ho : KidsAt w os oA on oc) (hn : KidsAt w ns nA nn nc) (hE : EnvS w) (hsz : f.size + t.size ≤ 9223372036854775806) (hso : shortL 9223372036854775806 os) (hsn : shortL 9223372036854775806 ns) :
    Calls Tryz.prog 9 #[.agg #[.int .u8 5, .slice pA pn pc, .int .i64 i, .int .i64 j, .string f, .string t, .slice oA on oc, .slice nA nn nc]] w (NamePost (editRight ⟨5, ps, i, j, bl f, bl t, os, ns⟩) w) := by
  have hb0 : Below w.heap.size w (w.alloc (.cells #[.int .u8 5, .slice pA pn pc, .int .i64 i, .int .i64 j, .string f, .string t, .slice oA on oc, .slice nA nn nc] 26)) := (Below.refl _ _).alloc (Nat.le_refl _) _
  have HB0 := Lib.hid hb0
  have HE := Lib.hid (hE.below hb0 (Nat.le_refl _))
  have HP := Lib.hid (hp.below hb0)
  have HO := Lib.hid (ho.below hb0)
  have HN := Lib.hid (hn.below hb0)
  have HR := Lib.hid (er_eq ⟨5, ps, i, j, bl f, bl t, os, ns⟩)
  have HBX := Lib.hid (Box8.new (w := w) (x0 := .int .u8 5) (x1 := .slice pA pn pc) (x2 := .int .i64 i) (x3 := .int .i64 j) (x4 := .string f) (x5 := .string t) (x6 := .slice oA on oc) (x7 := .slice nA nn nc) (T := 26))
  have HSO := Lib.hid hso
  have HSN := Lib.hid hsn
  have HLP : Hid (pn = ps.length) := hp.1
  have HLO : Hid (on = os.length) := ho.1
  have HLN : Hid (nn = ns.length) := hn.1
  have hfs : f.size ≤ 9223372036854775806 := by omega
  have hts : t.size ≤ 9223372036854775806 := by omega
  have hpn : pn ≤ 9223372036854775807 := by have h1 := hp.2.1; have h2 := hp.2.2.1; unfold maxLen at h2; omega
  have hon : on ≤ 9223372036854775807 := by have h1 := ho.2.1; have h2 := ho.2.2.1; unfold maxLen at h2; omega
  have hnn : nn ≤ 9223372036854775807 := by have h1 := hn.2.1; have h2 := hn.2.2.1; unfold maxLen at h2; omega
  have hcf := enter_nonumber
  clear hb0 hE hp ho hn hso hsn
  go_enter Tryz.func9, Tryz.ntmps9
  go_wp2_with fail
  go_quiet (fail)
  go_wp2_with fail
  refine (p_any_no ps _ _ _ _ (HP.out.below (below_drews (Below.refl _ _) _))).mono ?_
  rintro e wq ⟨rfl, q1, rfl⟩
  cases ha : ps.all numberB with
  | false =>
    have HV : Hid (editRight _ = false) := HR.out.trans (by simp [ERV, loneB, oldsB, newsB, ha])
    go_wp2_with fail
    go_ret
    exact NamePost.intro HV.out.symm (below_drews HB0.out _)
  | true =>
    go_wp2_with fail
    refine (p_number i _).mono ?_
    rintro e wq ⟨rfl, q2, rfl⟩
    cases hi : numberB i with
    | false =>
      have HV : Hid (editRight _ = false) := HR.out.trans (by simp [ERV, loneB, oldsB, newsB, ha, hi])
      go_wp2_with fail
      go_ret
      exact NamePost.intro HV.out.symm (below_drews HB0.out _)
    | true =>
      go_wp2_with fail
      refine (p_number j _).mono ?_
      rintro e wq ⟨rfl, q3, rfl⟩
      cases hj : numberB j with
      | false =>
        have HV : Hid (editRight _ = false) := HR.out.trans (by simp [ERV, loneB, oldsB, newsB, ha, hi, hj])
        go_wp2_with fail
        go_ret
        exact NamePost.intro HV.out.symm (below_drews HB0.out _)
      | true =>
        cases hij : (i == j) with
        | true =>
          have q_hij : (i != j) = false := by simpa using hij
          have HV : Hid (editRight _ = false) := HR.out.trans (by simp [ERV, loneB, oldsB, newsB, ha, hi, hj, hij])
          go_wp2_with fail
          go_ret
          exact NamePost.intro HV.out.symm (below_drews HB0.out _)
        | false =>
          have n_hij : (i != j) = true := by simpa using hij
          cases hj0 : (j == 0) with
          | false =>
            have n_hj0 : (j != 0) = true := by simpa using hj0
            go_wp2_with fail
            cases hem : (bl f ++ bl t).isEmpty with
            | false =>
              have hne : (!(f ++ t).toList.isEmpty) = true := by rw [toList_bl, bl_app, hem]; rfl
              refine (p_name f _ (HE.out.below (below_drews (Below.refl _ _) _) (Nat.le_refl _)) hfs).mono ?_
              rintro e w1 ⟨rfl, hb1⟩
              have HA1 := Lib.hid (bthen (below_drews (Below.refl _ _) _) hb1)
              clear hb1
              obtain ⟨c0, c1, c2, c3, c4, c5, c6, c7⟩ := HBX.out.below HA1.out
              cases hf : isName (bl f) with
              | false =>
                have HV : Hid (editRight _ = false) := HR.out.trans (by simp [ERV, loneB, oldsB, newsB, ha, hi, hj, hij, hj0, hem, hf])
                go_wp2_with fail
                go_ret
                exact NamePost.intro HV.out.symm (bthen HB0.out HA1.out)
              | true =>
                go_wp2_with fail
                refine (p_name t _ (HE.out.below HA1.out (Nat.le_refl _)) hts).mono ?_
                rintro e w2 ⟨rfl, hb2⟩
                have HA2 := Lib.hid (bthen HA1.out hb2)
                clear hb2
                clear c0 c1 c2 c3 c4 c5 c6 c7
                obtain ⟨c0, c1, c2, c3, c4, c5, c6, c7⟩ := HBX.out.below HA2.out
                cases ht : isName (bl t) with
                | false =>
                  have HV : Hid (editRight _ = false) := HR.out.trans (by simp [ERV, loneB, oldsB, newsB, ha, hi, hj, hij, hj0, hem, hf, ht])
                  go_wp2_with fail
                  go_ret
                  exact NamePost.intro HV.out.symm (bthen HB0.out HA2.out)
                | true =>
                  cases hft : (bl f == bl t) with
                  | true =>
                    obtain rfl := bl_inj (by simpa using hft)
                    have HV : Hid (editRight _ = false) := HR.out.trans (by simp [ERV, loneB, oldsB, newsB, ha, hi, hj, hij, hj0, hem, hf, ht, hft])
                    go_wp2_with fail
                    go_ret
                    exact NamePost.intro HV.out.symm (bthen HB0.out HA2.out)
                  | false =>
                    have e0 : (f.toList == t.toList) = false := str_ne (by simpa using hft)
                    have HV : Hid (editRight _ = false) := HR.out.trans (by simp [ERV, loneB, oldsB, newsB, ha, hi, hj, hij, hj0, hem, hf, ht, hft])
                    go_wp2_with fail
                    go_ret
                    exact NamePost.intro HV.out.symm (bthen HB0.out HA2.out)
            | true =>
              have hee : (!(f ++ t).toList.isEmpty) = false := by rw [toList_bl, bl_app, hem]; rfl
              have hf0 : isName (bl f) = false := by rw [(List.append_eq_nil_iff.1 (List.isEmpty_iff.1 hem)).1]; rfl
              refine (p_name f _ (HE.out.below (below_drews (Below.refl _ _) _) (Nat.le_refl _)) hfs).mono ?_
              rintro e w1 ⟨rfl, hb1⟩
              have HA1 := Lib.hid (bthen (below_drews (Below.refl _ _) _) hb1)
              clear hb1
              obtain ⟨c0, c1, c2, c3, c4, c5, c6, c7⟩ := HBX.out.below HA1.out
              rw [hf0]
              go_wp2_with fail
              refine (p_part os _ _ _ _ (HO.out.below HA1.out) HSO.out (HE.out.below HA1.out (Nat.le_refl _))).mono ?_
              rintro e w2 ⟨rfl, hb2⟩
              have HA2 := Lib.hid (bthen HA1.out hb2)
              clear hb2
              clear c0 c1 c2 c3 c4 c5 c6 c7
              obtain ⟨c0, c1, c2, c3, c4, c5, c6, c7⟩ := HBX.out.below HA2.out
              cases hpo : partB os with
              | false =>
                have HV : Hid (editRight _ = false) := HR.out.trans (by simp [ERV, loneB, oldsB, newsB, ha, hi, hj, hij, hj0, hem, hf0, hpo])
                go_wp2_with fail
                go_ret
                exact NamePost.intro HV.out.symm (bthen HB0.out HA2.out)
              | true =>
                go_wp2_with fail
                refine (p_part ns _ _ _ _ (HN.out.below HA2.out) HSN.out (HE.out.below HA2.out (Nat.le_refl _))).mono ?_
                rintro e w3 ⟨rfl, hb3⟩
                have HA3 := Lib.hid (bthen HA2.out hb3)
                clear hb3
                clear c0 c1 c2 c3 c4 c5 c6 c7
                obtain ⟨c0, c1, c2, c3, c4, c5, c6, c7⟩ := HBX.out.below HA3.out
                cases hpn : partB ns with
                | true =>
                  have HV : Hid (editRight _ = false) := HR.out.trans (by simp [ERV, loneB, oldsB, newsB, ha, hi, hj, hij, hj0, hem, hf0, hpo, hpn])
                  go_wp2_with fail
                  go_ret
                  exact NamePost.intro HV.out.symm (bthen HB0.out HA3.out)
                | false =>
                  cases hen : ns.isEmpty with
                  | false =>
                    have ghen : (0 : Int) < nn := by
                      have e1 := HLN.out
                      cases ns with
                      | nil => cases hen
                      | cons a l => simp at e1; omega
                    have HV : Hid (editRight _ = false) := HR.out.trans (by simp [ERV, loneB, oldsB, newsB, ha, hi, hj, hij, hj0, hem, hf0, hpo, hpn, hen])
                    go_wp2_with fail
                    go_ret
                    exact NamePost.intro HV.out.symm (bthen HB0.out HA3.out)
                  | true =>
                    have ghen : ¬ (0 : Int) < nn := by have e1 := HLN.out; have e2 := List.isEmpty_iff.1 hen; subst e2; simp at e1; omega
                    have HV : Hid (editRight _ = true) := HR.out.trans (by simp [ERV, loneB, oldsB, newsB, ha, hi, hj, hij, hj0, hem, hf0, hpo, hpn, hen])
                    go_wp2_with fail
                    go_quiet (fail)
                    go_wp2
                    go_ret
                    exact NamePost.intro HV.out.symm (below_drews (bthen HB0.out HA3.out) _)
          | true =>
            have q_hj0 : (j != 0) = false := by simpa using hj0
            go_wp2_with fail
            cases hem : (bl f ++ bl t).isEmpty with
            | false =>
              have hne : (!(f ++ t).toList.isEmpty) = true := by rw [toList_bl, bl_app, hem]; rfl
              refine (p_name f _ (HE.out.below (below_drews (Below.refl _ _) _) (Nat.le_refl _)) hfs).mono ?_
              rintro e w1 ⟨rfl, hb1⟩
              have HA1 := Lib.hid (bthen (below_drews (Below.refl _ _) _) hb1)
              clear hb1
              obtain ⟨c0, c1, c2, c3, c4, c5, c6, c7⟩ := HBX.out.below HA1.out
              cases hf : isName (bl f) with
              | false =>
                have HV : Hid (editRight _ = false) := HR.out.trans (by simp [ERV, loneB, oldsB, newsB, ha, hi, hj, hij, hj0, hem, hf])
                go_wp2_with fail
                go_ret
                exact NamePost.intro HV.out.symm (bthen HB0.out HA1.out)
              | true =>
                go_wp2_with fail
                refine (p_name t _ (HE.out.below HA1.out (Nat.le_refl _)) hts).mono ?_
                rintro e w2 ⟨rfl, hb2⟩
                have HA2 := Lib.hid (bthen HA1.out hb2)
                clear hb2
                clear c0 c1 c2 c3 c4 c5 c6 c7
                obtain ⟨c0, c1, c2, c3, c4, c5, c6, c7⟩ := HBX.out.below HA2.out
                cases ht : isName (bl t) with
                | false =>
                  have HV : Hid (editRight _ = false) := HR.out.trans (by simp [ERV, loneB, oldsB, newsB, ha, hi, hj, hij, hj0, hem, hf, ht])
                  go_wp2_with fail
                  go_ret
                  exact NamePost.intro HV.out.symm (bthen HB0.out HA2.out)
                | true =>
                  cases hft : (bl f == bl t) with
                  | true =>
                    obtain rfl := bl_inj (by simpa using hft)
                    have HV : Hid (editRight _ = false) := HR.out.trans (by simp [ERV, loneB, oldsB, newsB, ha, hi, hj, hij, hj0, hem, hf, ht, hft])
                    go_wp2_with fail
                    go_ret
                    exact NamePost.intro HV.out.symm (bthen HB0.out HA2.out)
                  | false =>
                    have e0 : (f.toList == t.toList) = false := str_ne (by simpa using hft)
                    have HV : Hid (editRight _ = false) := HR.out.trans (by simp [ERV, loneB, oldsB, newsB, ha, hi, hj, hij, hj0, hem, hf, ht, hft])
                    go_wp2_with fail
                    go_ret
                    exact NamePost.intro HV.out.symm (bthen HB0.out HA2.out)
            | true =>
              have hee : (!(f ++ t).toList.isEmpty) = false := by rw [toList_bl, bl_app, hem]; rfl
              have hf0 : isName (bl f) = false := by rw [(List.append_eq_nil_iff.1 (List.isEmpty_iff.1 hem)).1]; rfl
              refine (p_name f _ (HE.out.below (below_drews (Below.refl _ _) _) (Nat.le_refl _)) hfs).mono ?_
              rintro e w1 ⟨rfl, hb1⟩
              have HA1 := Lib.hid (bthen (below_drews (Below.refl _ _) _) hb1)
              clear hb1
              obtain ⟨c0, c1, c2, c3, c4, c5, c6, c7⟩ := HBX.out.below HA1.out
              rw [hf0]
              go_wp2_with fail
              refine (p_part os _ _ _ _ (HO.out.below HA1.out) HSO.out (HE.out.below HA1.out (Nat.le_refl _))).mono ?_
              rintro e w2 ⟨rfl, hb2⟩
              have HA2 := Lib.hid (bthen HA1.out hb2)
              clear hb2
              clear c0 c1 c2 c3 c4 c5 c6 c7
              obtain ⟨c0, c1, c2, c3, c4, c5, c6, c7⟩ := HBX.out.below HA2.out
              cases hpo : partB os with
              | false =>
                have HV : Hid (editRight _ = false) := HR.out.trans (by simp [ERV, loneB, oldsB, newsB, ha, hi, hj, hij, hj0, hem, hf0, hpo])
                go_wp2_with fail
                go_ret
                exact NamePost.intro HV.out.symm (bthen HB0.out HA2.out)
              | true =>
                go_wp2_with fail
                refine (p_part ns _ _ _ _ (HN.out.below HA2.out) HSN.out (HE.out.below HA2.out (Nat.le_refl _))).mono ?_
                rintro e w3 ⟨rfl, hb3⟩
                have HA3 := Lib.hid (bthen HA2.out hb3)
                clear hb3
                clear c0 c1 c2 c3 c4 c5 c6 c7
                obtain ⟨c0, c1, c2, c3, c4, c5, c6, c7⟩ := HBX.out.below HA3.out
                cases hpn : partB ns with
                | true =>
                  have HV : Hid (editRight _ = false) := HR.out.trans (by simp [ERV, loneB, oldsB, newsB, ha, hi, hj, hij, hj0, hem, hf0, hpo, hpn])
                  go_wp2_with fail
                  go_ret
                  exact NamePost.intro HV.out.symm (bthen HB0.out HA3.out)
                | false =>
                  cases hen : ns.isEmpty with
                  | false =>
                    have ghen : (0 : Int) < nn := by
                      have e1 := HLN.out
                      cases ns with
                      | nil => cases hen
                      | cons a l => simp at e1; omega
                    have HV : Hid (editRight _ = false) := HR.out.trans (by simp [ERV, loneB, oldsB, newsB, ha, hi, hj, hij, hj0, hem, hf0, hpo, hpn, hen])
                    go_wp2_with fail
                    go_ret
                    exact NamePost.intro HV.out.symm (bthen HB0.out HA3.out)
                  | true =>
                    have ghen : ¬ (0 : Int) < nn := by have e1 := HLN.out; have e2 := List.isEmpty_iff.1 hen; subst e2; simp at e1; omega
                    have HV : Hid (editRight _ = true) := HR.out.trans (by simp [ERV, loneB, oldsB, newsB, ha, hi, hj, hij, hj0, hem, hf0, hpo, hpn, hen])
                    go_wp2_with fail
                    go_quiet (fail)
                    go_wp2
                    go_ret
                    exact NamePost.intro HV.out.symm (below_drews (bthen HB0.out HA3.out) _)
end Go.Proofs.YtmikjhohnfcedaaGreatDoor

namespace Go.Proofs.YtmikjhohnfcedaaGreatDoor
set_option linter.unusedSimpArgs false
set_option linter.unusedVariables false
open Go.RowKit
set_option linter.unusedSimpArgs false

set_option maxRecDepth 20000 in
set_option maxHeartbeats 4000000 in
theorem p_eright_o (ps : List Int) (os ns : List Tree) (k : Nat) (pA : Option Addr) (pn pc : Nat) (i j : Int) (f t : ByteArray) (oA : Option Addr) (on oc : Nat) (nA : Option Addr) (nn nc : Nat) (w : World) (hk : k ≠ 1 ∧ k ≠ 2 ∧ k ≠ 3 ∧ k ≠ 4 ∧ k ≠ 5)
    (hp : IntsAt w ps pA pn pc) (ho : KidsAt w os oA on oc) (hn : KidsAt w ns nA nn nc) (hE : EnvS w) (hsz : f.size + t.size ≤ 9223372036854775806) (hso : shortL 9223372036854775806 os) (hsn : shortL 9223372036854775806 ns) :
    Calls Tryz.prog 9 #[.agg #[.int .u8 k, .slice pA pn pc, .int .i64 i, .int .i64 j, .string f, .string t, .slice oA on oc, .slice nA nn nc]] w (NamePost (editRight ⟨k, ps, i, j, bl f, bl t, os, ns⟩) w) := by
  have hb0 : Below w.heap.size w (w.alloc (.cells #[.int .u8 k, .slice pA pn pc, .int .i64 i, .int .i64 j, .string f, .string t, .slice oA on oc, .slice nA nn nc] 26)) := (Below.refl _ _).alloc (Nat.le_refl _) _
  have HB0 := Lib.hid hb0
  have HE := Lib.hid (hE.below hb0 (Nat.le_refl _))
  have HP := Lib.hid (hp.below hb0)
  have HO := Lib.hid (ho.below hb0)
  have HN := Lib.hid (hn.below hb0)
  have HR := Lib.hid (er_eq ⟨k, ps, i, j, bl f, bl t, os, ns⟩)
  have HBX := Lib.hid (Box8.new (w := w) (x0 := .int .u8 k) (x1 := .slice pA pn pc) (x2 := .int .i64 i) (x3 := .int .i64 j) (x4 := .string f) (x5 := .string t) (x6 := .slice oA on oc) (x7 := .slice nA nn nc) (T := 26))
  have HSO := Lib.hid hso
  have HSN := Lib.hid hsn
  have HLP : Hid (pn = ps.length) := hp.1
  have HLO : Hid (on = os.length) := ho.1
  have HLN : Hid (nn = ns.length) := hn.1
  have hfs : f.size ≤ 9223372036854775806 := by omega
  have hts : t.size ≤ 9223372036854775806 := by omega
  have hpn : pn ≤ 9223372036854775807 := by have h1 := hp.2.1; have h2 := hp.2.2.1; unfold maxLen at h2; omega
  have hon : on ≤ 9223372036854775807 := by have h1 := ho.2.1; have h2 := ho.2.2.1; unfold maxLen at h2; omega
  have hnn : nn ≤ 9223372036854775807 := by have h1 := hn.2.1; have h2 := hn.2.2.1; unfold maxLen at h2; omega
  have hcf := enter_nonumber
  clear hb0 hE hp ho hn hso hsn
  obtain ⟨hk1, hk2, hk3, hk4, hk5⟩ := hk
  have e1 : ¬ (k : Int) = 1 := by omega
  have e2 : ¬ (k : Int) = 2 := by omega
  have e3 : ¬ (k : Int) = 3 := by omega
  have e4 : ¬ (k : Int) = 4 := by omega
  have e5 : ¬ (k : Int) = 5 := by omega
  have b1 : ((k : Int) == 1) = false := by simp; omega
  have b2 : ((k : Int) == 2) = false := by simp; omega
  have b3 : ((k : Int) == 3) = false := by simp; omega
  have b4 : ((k : Int) == 4) = false := by simp; omega
  have b5 : ((k : Int) == 5) = false := by simp; omega
  have f2 : ((k : Int) != 2) = true := by simp; omega
  have f3 : ((k : Int) != 3) = true := by simp; omega
  have f5 : ((k : Int) != 5) = true := by simp; omega
  have g2 : (!((k : Int) == 2)) = true := by simp; omega
  have g3 : (!((k : Int) == 3)) = true := by simp; omega
  have g5 : (!((k : Int) == 5)) = true := by simp; omega
  go_enter Tryz.func9, Tryz.ntmps9
  go_wp2_with fail
  go_quiet (fail)
  go_wp2_with fail
  refine (p_any_no ps _ _ _ _ (HP.out.below (below_drews (Below.refl _ _) _))).mono ?_
  rintro e wq ⟨rfl, q1, rfl⟩
  cases ha : ps.all numberB with
  | false =>
    have HV : Hid (editRight _ = false) := HR.out.trans (by simp [ERV, loneB, oldsB, newsB, ha, hk1, hk2, hk3, hk4, hk5])
    go_wp2_with fail
    go_ret
    exact NamePost.intro HV.out.symm (below_drews HB0.out _)
  | true =>
    go_wp2_with fail
    refine (p_number i _).mono ?_
    rintro e wq ⟨rfl, q2, rfl⟩
    cases hi : numberB i with
    | false =>
      have HV : Hid (editRight _ = false) := HR.out.trans (by simp [ERV, loneB, oldsB, newsB, ha, hi, hk1, hk2, hk3, hk4, hk5])
      go_wp2_with fail
      go_ret
      exact NamePost.intro HV.out.symm (below_drews HB0.out _)
    | true =>
      go_wp2_with fail
      refine (p_number j _).mono ?_
      rintro e wq ⟨rfl, q3, rfl⟩
      cases hj : numberB j with
      | false =>
        have HV : Hid (editRight _ = false) := HR.out.trans (by simp [ERV, loneB, oldsB, newsB, ha, hi, hj, hk1, hk2, hk3, hk4, hk5])
        go_wp2_with fail
        go_ret
        exact NamePost.intro HV.out.symm (below_drews HB0.out _)
      | true =>
        cases hi0 : (i == 0) with
        | false =>
          have n_hi0 : (i != 0) = true := by simpa using hi0
          have HV : Hid (editRight _ = false) := HR.out.trans (by simp [ERV, loneB, oldsB, newsB, ha, hi, hj, hi0, hk1, hk2, hk3, hk4, hk5])
          go_wp2_with fail
          go_ret
          exact NamePost.intro HV.out.symm (below_drews HB0.out _)
        | true =>
          have q_hi0 : (i != 0) = false := by simpa using hi0
          cases hpe : ps.isEmpty with
          | true =>
            have pe : ((pn : Int) == 0) = true := by have e1 := HLP.out; have e2 := List.isEmpty_iff.1 hpe; subst e2; simp at e1; simp [e1]
            have HV : Hid (editRight _ = false) := HR.out.trans (by simp [ERV, loneB, oldsB, newsB, ha, hi, hj, hi0, hpe, hk1, hk2, hk3, hk4, hk5])
            go_wp2_with fail
            go_ret
            exact NamePost.intro HV.out.symm (below_drews HB0.out _)
          | false =>
            have pe : ((pn : Int) == 0) = false := by
              have e1 := HLP.out
              cases ps with
              | nil => cases hpe
              | cons a l => simp at e1; simp; omega
            cases hij : (i == j) with
            | false =>
              have n_hij : (i != j) = true := by simpa using hij
              have HV : Hid (editRight _ = false) := HR.out.trans (by simp [ERV, loneB, oldsB, newsB, ha, hi, hj, hi0, hpe, hij, hk1, hk2, hk3, hk4, hk5])
              go_wp2_with fail
              go_ret
              exact NamePost.intro HV.out.symm (below_drews HB0.out _)
            | true =>
              have q_hij : (i != j) = false := by simpa using hij
              cases hj0 : (j == 0) with
              | false =>
                have n_hj0 : (j != 0) = true := by simpa using hj0
                have HV : Hid (editRight _ = false) := HR.out.trans (by simp [ERV, loneB, oldsB, newsB, ha, hi, hj, hi0, hpe, hij, hj0, hk1, hk2, hk3, hk4, hk5])
                go_wp2_with fail
                go_ret
                exact NamePost.intro HV.out.symm (below_drews HB0.out _)
              | true =>
                have q_hj0 : (j != 0) = false := by simpa using hj0
                go_wp2_with fail
                cases hem : (bl f ++ bl t).isEmpty with
                | false =>
                  have hne : (!(f ++ t).toList.isEmpty) = true := by rw [toList_bl, bl_app, hem]; rfl
                  refine (p_name f _ (HE.out.below (below_drews (Below.refl _ _) _) (Nat.le_refl _)) hfs).mono ?_
                  rintro e w1 ⟨rfl, hb1⟩
                  have HA1 := Lib.hid (bthen (below_drews (Below.refl _ _) _) hb1)
                  clear hb1
                  obtain ⟨c0, c1, c2, c3, c4, c5, c6, c7⟩ := HBX.out.below HA1.out
                  cases hf : isName (bl f) with
                  | false =>
                    have HV : Hid (editRight _ = false) := HR.out.trans (by simp [ERV, loneB, oldsB, newsB, ha, hi, hj, hi0, hpe, hij, hj0, hem, hf, hk1, hk2, hk3, hk4, hk5])
                    go_wp2_with fail
                    go_ret
                    exact NamePost.intro HV.out.symm (bthen HB0.out HA1.out)
                  | true =>
                    go_wp2_with fail
                    refine (p_name t _ (HE.out.below HA1.out (Nat.le_refl _)) hts).mono ?_
                    rintro e w2 ⟨rfl, hb2⟩
                    have HA2 := Lib.hid (bthen HA1.out hb2)
                    clear hb2
                    clear c0 c1 c2 c3 c4 c5 c6 c7
                    obtain ⟨c0, c1, c2, c3, c4, c5, c6, c7⟩ := HBX.out.below HA2.out
                    cases ht : isName (bl t) with
                    | false =>
                      have HV : Hid (editRight _ = false) := HR.out.trans (by simp [ERV, loneB, oldsB, newsB, ha, hi, hj, hi0, hpe, hij, hj0, hem, hf, ht, hk1, hk2, hk3, hk4, hk5])
                      go_wp2_with fail
                      go_ret
                      exact NamePost.intro HV.out.symm (bthen HB0.out HA2.out)
                    | true =>
                      cases hft : (bl f == bl t) with
                      | true =>
                        obtain rfl := bl_inj (by simpa using hft)
                        have HV : Hid (editRight _ = false) := HR.out.trans (by simp [ERV, loneB, oldsB, newsB, ha, hi, hj, hi0, hpe, hij, hj0, hem, hf, ht, hft, hk1, hk2, hk3, hk4, hk5])
                        go_wp2_with fail
                        go_ret
                        exact NamePost.intro HV.out.symm (bthen HB0.out HA2.out)
                      | false =>
                        have e0 : (f.toList == t.toList) = false := str_ne (by simpa using hft)
                        have HV : Hid (editRight _ = false) := HR.out.trans (by simp [ERV, loneB, oldsB, newsB, ha, hi, hj, hi0, hpe, hij, hj0, hem, hf, ht, hft, hk1, hk2, hk3, hk4, hk5])
                        go_wp2_with fail
                        go_ret
                        exact NamePost.intro HV.out.symm (bthen HB0.out HA2.out)
                | true =>
                  have hee : (!(f ++ t).toList.isEmpty) = false := by rw [toList_bl, bl_app, hem]; rfl
                  have hf0 : isName (bl f) = false := by rw [(List.append_eq_nil_iff.1 (List.isEmpty_iff.1 hem)).1]; rfl
                  refine (p_name f _ (HE.out.below (below_drews (Below.refl _ _) _) (Nat.le_refl _)) hfs).mono ?_
                  rintro e w1 ⟨rfl, hb1⟩
                  have HA1 := Lib.hid (bthen (below_drews (Below.refl _ _) _) hb1)
                  clear hb1
                  obtain ⟨c0, c1, c2, c3, c4, c5, c6, c7⟩ := HBX.out.below HA1.out
                  rw [hf0]
                  go_wp2_with fail
                  refine (p_part os _ _ _ _ (HO.out.below HA1.out) HSO.out (HE.out.below HA1.out (Nat.le_refl _))).mono ?_
                  rintro e w2 ⟨rfl, hb2⟩
                  have HA2 := Lib.hid (bthen HA1.out hb2)
                  clear hb2
                  clear c0 c1 c2 c3 c4 c5 c6 c7
                  obtain ⟨c0, c1, c2, c3, c4, c5, c6, c7⟩ := HBX.out.below HA2.out
                  cases hpo : partB os with
                  | true =>
                    have HV : Hid (editRight _ = false) := HR.out.trans (by simp [ERV, loneB, oldsB, newsB, ha, hi, hj, hi0, hpe, hij, hj0, hem, hf0, hpo, hk1, hk2, hk3, hk4, hk5])
                    go_wp2_with fail
                    go_ret
                    exact NamePost.intro HV.out.symm (bthen HB0.out HA2.out)
                  | false =>
                    go_wp2_with fail
                    refine (p_part ns _ _ _ _ (HN.out.below HA2.out) HSN.out (HE.out.below HA2.out (Nat.le_refl _))).mono ?_
                    rintro e w3 ⟨rfl, hb3⟩
                    have HA3 := Lib.hid (bthen HA2.out hb3)
                    clear hb3
                    clear c0 c1 c2 c3 c4 c5 c6 c7
                    obtain ⟨c0, c1, c2, c3, c4, c5, c6, c7⟩ := HBX.out.below HA3.out
                    cases hpn : partB ns with
                    | true =>
                      have HV : Hid (editRight _ = false) := HR.out.trans (by simp [ERV, loneB, oldsB, newsB, ha, hi, hj, hi0, hpe, hij, hj0, hem, hf0, hpo, hpn, hk1, hk2, hk3, hk4, hk5])
                      go_wp2_with fail
                      go_ret
                      exact NamePost.intro HV.out.symm (bthen HB0.out HA3.out)
                    | false =>
                      cases heo : os.isEmpty with
                      | false =>
                        have gheo : (0 : Int) < on := by
                          have e1 := HLO.out
                          cases os with
                          | nil => cases heo
                          | cons a l => simp at e1; omega
                        have HV : Hid (editRight _ = false) := HR.out.trans (by simp [ERV, loneB, oldsB, newsB, ha, hi, hj, hi0, hpe, hij, hj0, hem, hf0, hpo, hpn, heo, hk1, hk2, hk3, hk4, hk5])
                        go_wp2_with fail
                        go_ret
                        exact NamePost.intro HV.out.symm (bthen HB0.out HA3.out)
                      | true =>
                        have gheo : ¬ (0 : Int) < on := by have e1 := HLO.out; have e2 := List.isEmpty_iff.1 heo; subst e2; simp at e1; omega
                        cases hen : ns.isEmpty with
                        | false =>
                          have ghen : (0 : Int) < nn := by
                            have e1 := HLN.out
                            cases ns with
                            | nil => cases hen
                            | cons a l => simp at e1; omega
                          have HV : Hid (editRight _ = false) := HR.out.trans (by simp [ERV, loneB, oldsB, newsB, ha, hi, hj, hi0, hpe, hij, hj0, hem, hf0, hpo, hpn, heo, hen, hk1, hk2, hk3, hk4, hk5])
                          go_wp2_with fail
                          go_ret
                          exact NamePost.intro HV.out.symm (bthen HB0.out HA3.out)
                        | true =>
                          have ghen : ¬ (0 : Int) < nn := by have e1 := HLN.out; have e2 := List.isEmpty_iff.1 hen; subst e2; simp at e1; omega
                          have HV : Hid (editRight _ = false) := HR.out.trans (by simp [ERV, loneB, oldsB, newsB, ha, hi, hj, hi0, hpe, hij, hj0, hem, hf0, hpo, hpn, heo, hen, hk1, hk2, hk3, hk4, hk5])
                          go_wp2_with fail
                          go_quiet (fail)
                          go_wp2
                          go_ret
                          exact NamePost.intro HV.out.symm (below_drews (bthen HB0.out HA3.out) _)
end Go.Proofs.YtmikjhohnfcedaaGreatDoor

namespace Go.Proofs.YtmikjhohnfcedaaGreatDoor
set_option linter.unusedSimpArgs false
set_option linter.unusedVariables false
open Go.RowKit
set_option linter.unusedSimpArgs false
set_option linter.unusedVariables false
theorem p_eright (e : Edt) (k : Nat) (pA : Option Addr) (pn pc : Nat) (i j : Int) (f t : ByteArray) (oA : Option Addr) (on oc : Nat) (nA : Option Addr) (nn nc : Nat) (w : World)
    (h : EditIs w e k pA pn pc i j f t oA on oc nA nn nc) (hE : EnvS w) (hsz : f.size + t.size ≤ 9223372036854775806) (hso : shortL 9223372036854775806 e.olds) (hsn : shortL 9223372036854775806 e.news) :
    Calls Tryz.prog 9 #[.agg #[.int .u8 k, .slice pA pn pc, .int .i64 i, .int .i64 j, .string f, .string t, .slice oA on oc, .slice nA nn nc]] w (NamePost (editRight e) w) := by
  obtain ⟨ps, os, ns, rfl, hp, ho, hn⟩ := h
  by_cases k1 : k = 1
  · subst k1; exact p_eright_1 ps os ns pA pn pc i j f t oA on oc nA nn nc w hp ho hn hE hsz hso hsn
  by_cases k2 : k = 2
  · subst k2; exact p_eright_2 ps os ns pA pn pc i j f t oA on oc nA nn nc w hp ho hn hE hsz hso hsn
  by_cases k3 : k = 3
  · subst k3; exact p_eright_3 ps os ns pA pn pc i j f t oA on oc nA nn nc w hp ho hn hE hsz hso hsn
  by_cases k4 : k = 4
  · subst k4; exact p_eright_4 ps os ns pA pn pc i j f t oA on oc nA nn nc w hp ho hn hE hsz hso hsn
  by_cases k5 : k = 5
  · subst k5; exact p_eright_5 ps os ns pA pn pc i j f t oA on oc nA nn nc w hp ho hn hE hsz hso hsn
  exact p_eright_o ps os ns k pA pn pc i j f t oA on oc nA nn nc w ⟨k1, k2, k3, k4, k5⟩ hp ho hn hE hsz hso hsn
end Go.Proofs.YtmikjhohnfcedaaGreatDoor

namespace Go.Proofs.YtmikjhohnfcedaaGreatDoor
set_option linter.unusedSimpArgs false
set_option linter.unusedVariables false
open Go.RowKit
set_option linter.unusedSimpArgs false

/-- From a block on, two worlds have the same memory. -/
def Far (b : Nat) (w w' : World) : Prop := ∀ q, b ≤ q → w'.heap[q]? = w.heap[q]?
theorem Far.refl (b : Nat) (w : World) : Far b w w := fun _ _ => rfl
theorem Far.set {b : Nat} {w w' : World} {p : Addr} {u : Value} (h : Far b w w') (hp : p.block < b) : Far b w (w'.setCell p u) := fun q hq => by
  rw [Below.heap_setCell _ _ _ _ (by omega)]; exact h q hq
theorem Far.fresh {b B : Nat} {w w' : World} {ks : List Tree} {A : Option Addr} {n c : Nat} (h : FreshK w B ks A n c) (hf : Far b w w') (hB : b ≤ B) : FreshK w' b ks A n c :=
  h.keep hB fun a v ha hc => by rw [World.cell?_of_block (hf _ (by omega))]; exact hc
theorem Far.own {b base : Nat} {w w' : World} {e : TypeId} {size : Nat} {v : Value} {n : Nat} {xs : List Value} (h : w.ownsRow base e size v n xs) (hf : Far b w w') (hB : b ≤ base) : w'.ownsRow base e size v n xs := by
  obtain ⟨h1, h2⟩ := h
  refine ⟨h1, h2.imp id ?_⟩
  rintro ⟨g, cap, cur, hv, hg, hh, r⟩
  exact ⟨g, cap, cur, hv, hg, by rw [hf g (by omega)]; exact hh, r⟩
/-- A path's row lies in a block of numbers. -/
def PathT (w : World) (ps : List Int) (A : Option Addr) : Prop := ps = [] ∨ ∃ b o cs fr, A = some ⟨b, o, none⟩ ∧ w.heap[b]? = some (.cells cs 3 fr)
theorem PathT.below {w w' : World} (hb : Below w.heap.size w w') {ps : List Int} {A : Option Addr} (h : PathT w ps A) : PathT w' ps A := by
  refine h.imp id ?_
  rintro ⟨b, o, cs, fr, e, hh⟩
  exact ⟨b, o, cs, fr, e, (hb.block _ (Array.getElem?_eq_some_iff.1 hh).1).trans hh⟩
theorem PathT.own {w : World} {base n c : Nat} {A : Option Addr} {zs : List Int} (h : w.ownsRow base 3 1 (.slice A n c) n (zs.map (Value.int .i64))) (hn : n = zs.length) : PathT w zs A := by
  rcases h.2 with ⟨e, h0⟩ | ⟨g, cap, cur, hv, hg, hh, _⟩
  · left; exact List.length_eq_zero_iff.1 (by omega)
  · injection hv with hv1
    exact .inr ⟨g, 0, cur, _, hv1, hh⟩
/-- What a call leaves that hands back an edit. -/
def EdtPost (e : Edt) (w : World) (en : Ending) (w' : World) : Prop := ∃ (k : Nat) (pA : Option Addr) (pn pc : Nat) (i j : Int) (f t : ByteArray) (oA : Option Addr) (on oc : Nat) (nA : Option Addr) (nn nc : Nat),
  en = .returned (.agg #[.int .u8 k, .slice pA pn pc, .int .i64 i, .int .i64 j, .string f, .string t, .slice oA on oc, .slice nA nn nc]) ∧ EditIs w' e k pA pn pc i j f t oA on oc nA nn nc ∧ PathT w' e.path pA ∧ Below w.heap.size w w'
structure BoxF8 (w : World) (b : Nat) (x0 x1 x2 x3 x4 x5 x6 x7 : Value) : Prop where
  cs : Box8 w b x0 x1 x2 x3 x4 x5 x6 x7
  fs : w.frozen? ⟨b, 0, none⟩ = false ∧ w.frozen? ⟨b, 1, none⟩ = false ∧ w.frozen? ⟨b, 2, none⟩ = false ∧ w.frozen? ⟨b, 3, none⟩ = false ∧ w.frozen? ⟨b, 4, none⟩ = false ∧ w.frozen? ⟨b, 5, none⟩ = false ∧ w.frozen? ⟨b, 6, none⟩ = false ∧ w.frozen? ⟨b, 7, none⟩ = false
theorem boxF8 {w : World} {b : Nat} {x0 x1 x2 x3 x4 x5 x6 x7 : Value} {T : TypeId} (h : w.heap[b]? = some (.cells #[x0, x1, x2, x3, x4, x5, x6, x7] T (0, 0))) : BoxF8 w b x0 x1 x2 x3 x4 x5 x6 x7 := by
  have hc := fun j => cell_of_row w b j _ T (0, 0) h
  refine ⟨⟨by rw [hc]; rfl, by rw [hc]; rfl, by rw [hc]; rfl, by rw [hc]; rfl, by rw [hc]; rfl, by rw [hc]; rfl, by rw [hc]; rfl, by rw [hc]; rfl⟩, ?_⟩
  refine ⟨?_, ?_, ?_, ?_, ?_, ?_, ?_, ?_⟩ <;> simp [World.frozen?, h]
/-- Eight stores, one behind the other. -/
def put8 (w : World) (g : Nat) (v0 v1 v2 v3 v4 v5 v6 v7 : Value) : World :=
  (((((((w.setCell ⟨g, 0, none⟩ v0).setCell ⟨g, 1, none⟩ v1).setCell ⟨g, 2, none⟩ v2).setCell ⟨g, 3, none⟩ v3).setCell ⟨g, 4, none⟩ v4).setCell ⟨g, 5, none⟩ v5).setCell ⟨g, 6, none⟩ v6).setCell ⟨g, 7, none⟩ v7
theorem put8_box {w : World} {g : Nat} {v0 v1 v2 v3 v4 v5 v6 v7 x0 x1 x2 x3 x4 x5 x6 x7 : Value} (h : Box8 w g x0 x1 x2 x3 x4 x5 x6 x7) : Box8 (put8 w g v0 v1 v2 v3 v4 v5 v6 v7) g v0 v1 v2 v3 v4 v5 v6 v7 := by
  obtain ⟨h0, h1, h2, h3, h4, h5, h6, h7⟩ := h
  have hn : ∀ p q, p ≠ q → (⟨g, p, none⟩ : Addr) ≠ ⟨g, q, none⟩ := fun p q hq e => hq (by injection e)
  unfold put8
  refine ⟨?_, ?_, ?_, ?_, ?_, ?_, ?_, ?_⟩
  · exact (set_other (hn 0 7 (by decide)) (set_other (hn 0 6 (by decide)) (set_other (hn 0 5 (by decide)) (set_other (hn 0 4 (by decide)) (set_other (hn 0 3 (by decide)) (set_other (hn 0 2 (by decide)) (set_other (hn 0 1 (by decide)) (set_self h0))))))))
  · exact (set_other (hn 1 7 (by decide)) (set_other (hn 1 6 (by decide)) (set_other (hn 1 5 (by decide)) (set_other (hn 1 4 (by decide)) (set_other (hn 1 3 (by decide)) (set_other (hn 1 2 (by decide)) (set_self (set_other (hn 1 0 (by decide)) h1))))))))
  · exact (set_other (hn 2 7 (by decide)) (set_other (hn 2 6 (by decide)) (set_other (hn 2 5 (by decide)) (set_other (hn 2 4 (by decide)) (set_other (hn 2 3 (by decide)) (set_self (set_other (hn 2 1 (by decide)) (set_other (hn 2 0 (by decide)) h2))))))))
  · exact (set_other (hn 3 7 (by decide)) (set_other (hn 3 6 (by decide)) (set_other (hn 3 5 (by decide)) (set_other (hn 3 4 (by decide)) (set_self (set_other (hn 3 2 (by decide)) (set_other (hn 3 1 (by decide)) (set_other (hn 3 0 (by decide)) h3))))))))
  · exact (set_other (hn 4 7 (by decide)) (set_other (hn 4 6 (by decide)) (set_other (hn 4 5 (by decide)) (set_self (set_other (hn 4 3 (by decide)) (set_other (hn 4 2 (by decide)) (set_other (hn 4 1 (by decide)) (set_other (hn 4 0 (by decide)) h4))))))))
  · exact (set_other (hn 5 7 (by decide)) (set_other (hn 5 6 (by decide)) (set_self (set_other (hn 5 4 (by decide)) (set_other (hn 5 3 (by decide)) (set_other (hn 5 2 (by decide)) (set_other (hn 5 1 (by decide)) (set_other (hn 5 0 (by decide)) h5))))))))
  · exact (set_other (hn 6 7 (by decide)) (set_self (set_other (hn 6 5 (by decide)) (set_other (hn 6 4 (by decide)) (set_other (hn 6 3 (by decide)) (set_other (hn 6 2 (by decide)) (set_other (hn 6 1 (by decide)) (set_other (hn 6 0 (by decide)) h6))))))))
  · exact (set_self (set_other (hn 7 6 (by decide)) (set_other (hn 7 5 (by decide)) (set_other (hn 7 4 (by decide)) (set_other (hn 7 3 (by decide)) (set_other (hn 7 2 (by decide)) (set_other (hn 7 1 (by decide)) (set_other (hn 7 0 (by decide)) h7))))))))
theorem put8_far {w w' : World} {b g : Nat} {v0 v1 v2 v3 v4 v5 v6 v7 : Value} (h : Far b w w') (hg : g < b) : Far b w (put8 w' g v0 v1 v2 v3 v4 v5 v6 v7) :=
  (((((((h.set hg).set hg).set hg).set hg).set hg).set hg).set hg).set hg
theorem put8_below {B : Nat} {w w' : World} {g : Nat} {v0 v1 v2 v3 v4 v5 v6 v7 : Value} (h : Below B w w') (hg : B ≤ g) : Below B w (put8 w' g v0 v1 v2 v3 v4 v5 v6 v7) :=
  (((((((h.setCell hg _).setCell hg _).setCell hg _).setCell hg _).setCell hg _).setCell hg _).setCell hg _).setCell hg _
set_option maxRecDepth 20000 in
set_option maxHeartbeats 4000000 in
theorem p_invert_no (e : Edt) (k : Nat) (pA : Option Addr) (pn pc : Nat) (i j : Int) (f t : ByteArray) (oA : Option Addr) (on oc : Nat) (nA : Option Addr) (nn nc : Nat) (w : World)
    (h : EditIs w e k pA pn pc i j f t oA on oc nA nn nc) (hE : EnvS w) (hsz : f.size + t.size ≤ 9223372036854775806) (hso : shortL 9223372036854775806 e.olds) (hsn : shortL 9223372036854775806 e.news) (hno : editRight e = false) :
    Calls Tryz.prog 18 #[.agg #[.int .u8 k, .slice pA pn pc, .int .i64 i, .int .i64 j, .string f, .string t, .slice oA on oc, .slice nA nn nc]] w (EdtPost (invertE e) w) := by
  have hb0 : Below w.heap.size w ((w.alloc (.cells #[.int .u8 k, .slice pA pn pc, .int .i64 i, .int .i64 j, .string f, .string t, .slice oA on oc, .slice nA nn nc] 26)).alloc (.cells #[.int .u8 0, .slice none 0 0, .int .i64 0, .int .i64 0, .string ⟨#[]⟩, .string ⟨#[]⟩, .slice none 0 0, .slice none 0 0] 26)) := ((Below.refl _ _).alloc (Nat.le_refl _) _).alloc (by simp) _
  have HB0 := Lib.hid hb0
  have HE := Lib.hid (hE.below hb0 (Nat.le_refl _))
  have HI := Lib.hid (h.below hb0)
  have HV : Hid (invertE e = Edt.zero) := by show _ = _; unfold invertE; rw [hno]; rfl
  have HNO := Lib.hid hno
  clear hb0 hE h hno
  go_enter Tryz.func18, Tryz.ntmps18
  go_wp2_with fail
  refine (p_eright e _ _ _ _ _ _ _ _ _ _ _ _ _ _ _ HI.out HE.out hsz hso hsn).mono ?_
  rintro en w1 ⟨rfl, hb1⟩
  rw [HNO.out]
  have HB1 := Lib.hid hb1
  have hres : w1.heap[w.heap.size + 1]? = some (.cells #[.int .u8 0, .slice none 0 0, .int .i64 0, .int .i64 0, .string ⟨#[]⟩, .string ⟨#[]⟩, .slice none 0 0, .slice none 0 0] 26 (0, 0)) := (hb1.block _ (by simp)).trans (heap_alloc_at (by simp))
  have HRS := Lib.hid (boxF8 hres)
  obtain ⟨c0, c1, c2, c3, c4, c5, c6, c7⟩ := HRS.out.cs
  obtain ⟨f0, f1, f2, f3, f4, f5, f6, f7⟩ := HRS.out.fs
  clear hres hb1
  go_wp2_with fail
  obtain ⟨a0, a1, a2, a3, a4, a5, a6, a7⟩ := put8_box (v0 := .int .u8 0) (v1 := .slice none 0 0) (v2 := .int .i64 0) (v3 := .int .i64 0) (v4 := .string ⟨#[]⟩) (v5 := .string ⟨#[]⟩) (v6 := .slice none 0 0) (v7 := .slice none 0 0) HRS.out.cs
  simp only [put8] at a0 a1 a2 a3 a4 a5 a6 a7
  refine bodyPost_ret (v := .agg #[.int .u8 0, .slice none 0 0, .int .i64 0, .int .i64 0, .string ⟨#[]⟩, .string ⟨#[]⟩, .slice none 0 0, .slice none 0 0]) (by simp [results, Tryz.results18, go_sem, a0, a1, a2, a3, a4, a5, a6, a7]) rfl ?_
  rw [HV.out]
  refine ⟨0, none, 0, 0, 0, 0, ⟨#[]⟩, ⟨#[]⟩, none, 0, 0, none, 0, 0, rfl, ⟨[], [], [], rfl, ⟨rfl, Nat.le_refl _, Nat.zero_le _, .inl rfl⟩, KidsAt.nil _ _ (Nat.zero_le _), KidsAt.nil _ _ (Nat.zero_le _)⟩, .inl rfl, ?_⟩
  exact put8_below (bthen HB0.out HB1.out) (by omega)
end Go.Proofs.YtmikjhohnfcedaaGreatDoor

namespace Go.Proofs.YtmikjhohnfcedaaGreatDoor
set_option linter.unusedSimpArgs false
set_option linter.unusedVariables false
open Go.RowKit
set_option linter.unusedSimpArgs false

/-- The old blocks of a kind are as they were. -/
def But (S : Nat → Bool) (w w' : World) : Prop := w.heap.size ≤ w'.heap.size ∧ ∀ q, q < w.heap.size → S q = true → w'.heap[q]? = w.heap[q]?
theorem But.refl (S : Nat → Bool) (w : World) : But S w w := ⟨Nat.le_refl _, fun _ _ _ => rfl⟩
theorem But.trans {S : Nat → Bool} {w w1 w2 : World} (h : But S w w1) (h' : But S w1 w2) : But S w w2 :=
  ⟨Nat.le_trans h.1 h'.1, fun q hq hS => (h'.2 q (Nat.lt_of_lt_of_le hq h.1) hS).trans (h.2 q hq hS)⟩
theorem But.below {S : Nat → Bool} {w w' : World} (h : Below w.heap.size w w') : But S w w' := ⟨h.size, fun q hq _ => h.block q hq⟩
theorem But.set {S : Nat → Bool} {w w' : World} (h : But S w w') {p : Addr} (hp : S p.block = false) (u : Value) : But S w (w'.setCell p u) :=
  ⟨by simpa using h.1, fun q hq hS => by rw [Below.heap_setCell _ _ _ _ (fun e => by rw [e, hp] at hS; cases hS)]; exact h.2 q hq hS⟩
theorem But.of_keep {S : Nat → Bool} {b : Nat} {w w' : World} (h : Keep b w w') (hb : S b = false) : But S w w' := ⟨h.bel.size, fun q hq hS => h.old q hq (fun e => by rw [e, hb] at hS; cases hS)⟩
theorem notB_self (b : Nat) : notB b b = false := by simp [notB]
theorem notB_ne {b q : Nat} (h : q ≠ b) : notB b q = true := by simp [notB, h]
theorem OnlyK.but {w w' : World} {S : Nat → Bool} {ks : List Tree} {A : Option Addr} {n c : Nat} (h : OnlyK w S ks A n c) (hb : But S w w') : OnlyK w' S ks A n c :=
  OnlyK.keep h fun a v hS hc => ⟨hS, by rw [World.cell?_of_block (hb.2 _ (cell_lt hc) hS)]; exact hc⟩
theorem OnlyK.kids {w : World} {S : Nat → Bool} {ks : List Tree} {A : Option Addr} {n c : Nat} (h : OnlyK w S ks A n c) : KidsAt w ks A n c := KidsAt.keep (fun _ _ hc => (only_cell.1 hc).2) h
theorem own_but {w w' : World} {S : Nat → Bool} {base : Nat} {e : TypeId} {size : Nat} {v : Value} {n : Nat} {xs : List Value} (h : w.ownsRow base e size v n xs) (hS : ∀ g, base ≤ g → S g = true) (hb : But S w w') : w'.ownsRow base e size v n xs := by
  obtain ⟨h1, h2⟩ := h
  refine ⟨h1, h2.imp id ?_⟩
  rintro ⟨g, cap, cur, hv, hg, hh, r⟩
  exact ⟨g, cap, cur, hv, hg, by rw [hb.2 g (Array.getElem?_eq_some_iff.1 hh).1 (hS g hg)]; exact hh, r⟩
/-- A row that the call owns, over trees from before, knows nothing of a block between. -/
theorem only_parts {w w' : World} {base b : Nat} {us : List Tree} {cs : List Value} {A : Option Addr} {n c : Nat} (h : CellsRead w cs us) (hown : w'.ownsRow base 40 4 (.slice A n c) n cs) (hn : n = us.length) (hb : Below w.heap.size w w') (h1 : w.heap.size ≤ b) (h2 : b < base) : OnlyK w' (notB b) us A n c := by
  obtain ⟨A', c', e, k1, k2⟩ := own_form hown
  injection e with e1 e2 e3
  subst e1 e3
  refine ⟨hn, k1, k2, ?_⟩
  by_cases h0 : us = []
  · exact .inl h0
  · right
    obtain ⟨g, cap, e, hg⟩ := hown.form (by rw [hn]; exact List.length_pos_iff.2 h0)
    injection e with e1 e2 e3
    subst e1 e3
    have hgb := (hown.lt g rfl).1
    have hoc : ∀ p u, cs[p]? = some u → (onlyW w' (notB b)).cell? ⟨g, p, none⟩ = some u := fun p u hu => only_cell.2 ⟨notB_ne (by show g ≠ b; omega), own_cells hown _ _ hu⟩
    refine ⟨g, 0, rfl, RowAt.mk fun i t ht => ?_⟩
    obtain ⟨A2, c2, t0, t1, t2, t3, t4, t5, t6, t7⟩ := h.2 i t ht
    rw [Nat.zero_add]
    refine TreeAt.of (hoc _ _ t0) (hoc _ _ t1) (hoc _ _ t2) (hoc _ _ t3) ?_ t5 t6 t7
    exact KidsAt.keep (fun a v hc => only_cell.2 ⟨notB_ne (by have := cell_lt hc; omega), cell_below hb hc⟩) t4

structure Box12 (w : World) (b : Nat) (x0 x1 x2 x3 x4 x5 x6 x7 x8 x9 x10 x11 : Value) : Prop where
  c0 : w.cell? ⟨b, 0, none⟩ = some x0
  c1 : w.cell? ⟨b, 1, none⟩ = some x1
  c2 : w.cell? ⟨b, 2, none⟩ = some x2
  c3 : w.cell? ⟨b, 3, none⟩ = some x3
  c4 : w.cell? ⟨b, 4, none⟩ = some x4
  c5 : w.cell? ⟨b, 5, none⟩ = some x5
  c6 : w.cell? ⟨b, 6, none⟩ = some x6
  c7 : w.cell? ⟨b, 7, none⟩ = some x7
  c8 : w.cell? ⟨b, 8, none⟩ = some x8
  c9 : w.cell? ⟨b, 9, none⟩ = some x9
  c10 : w.cell? ⟨b, 10, none⟩ = some x10
  c11 : w.cell? ⟨b, 11, none⟩ = some x11
structure Soft12 (w : World) (b : Nat) : Prop where
  f0 : w.frozen? ⟨b, 0, none⟩ = false
  f1 : w.frozen? ⟨b, 1, none⟩ = false
  f2 : w.frozen? ⟨b, 2, none⟩ = false
  f3 : w.frozen? ⟨b, 3, none⟩ = false
  f4 : w.frozen? ⟨b, 4, none⟩ = false
  f5 : w.frozen? ⟨b, 5, none⟩ = false
  f6 : w.frozen? ⟨b, 6, none⟩ = false
  f7 : w.frozen? ⟨b, 7, none⟩ = false
  f8 : w.frozen? ⟨b, 8, none⟩ = false
  f9 : w.frozen? ⟨b, 9, none⟩ = false
  f10 : w.frozen? ⟨b, 10, none⟩ = false
  f11 : w.frozen? ⟨b, 11, none⟩ = false
theorem box12 {w : World} {b : Nat} {x0 x1 x2 x3 x4 x5 x6 x7 x8 x9 x10 x11 : Value} {T : TypeId} (h : w.heap[b]? = some (.cells #[x0, x1, x2, x3, x4, x5, x6, x7, x8, x9, x10, x11] T (0, 0))) : Box12 w b x0 x1 x2 x3 x4 x5 x6 x7 x8 x9 x10 x11 ∧ Soft12 w b := by
  have hc := fun j => cell_of_row w b j _ T (0, 0) h
  refine ⟨⟨by rw [hc]; rfl, by rw [hc]; rfl, by rw [hc]; rfl, by rw [hc]; rfl, by rw [hc]; rfl, by rw [hc]; rfl, by rw [hc]; rfl, by rw [hc]; rfl, by rw [hc]; rfl, by rw [hc]; rfl, by rw [hc]; rfl, by rw [hc]; rfl⟩, ⟨?_, ?_, ?_, ?_, ?_, ?_, ?_, ?_, ?_, ?_, ?_, ?_⟩⟩ <;> simp [World.frozen?, h]
/-- Twelve stores, one behind the other. -/
def put12 (w : World) (g : Nat) (v0 v1 v2 v3 v4 v5 v6 v7 v8 v9 v10 v11 : Value) : World :=
  ((((((((((((w.setCell ⟨g, 0, none⟩ v0).setCell ⟨g, 1, none⟩ v1).setCell ⟨g, 2, none⟩ v2).setCell ⟨g, 3, none⟩ v3).setCell ⟨g, 4, none⟩ v4).setCell ⟨g, 5, none⟩ v5).setCell ⟨g, 6, none⟩ v6).setCell ⟨g, 7, none⟩ v7).setCell ⟨g, 8, none⟩ v8).setCell ⟨g, 9, none⟩ v9).setCell ⟨g, 10, none⟩ v10).setCell ⟨g, 11, none⟩ v11)
theorem put12_box {w : World} {g : Nat} {v0 v1 v2 v3 v4 v5 v6 v7 v8 v9 v10 v11 x0 x1 x2 x3 x4 x5 x6 x7 x8 x9 x10 x11 : Value} (h : Box12 w g x0 x1 x2 x3 x4 x5 x6 x7 x8 x9 x10 x11) : Box12 (put12 w g v0 v1 v2 v3 v4 v5 v6 v7 v8 v9 v10 v11) g v0 v1 v2 v3 v4 v5 v6 v7 v8 v9 v10 v11 := by
  obtain ⟨h0, h1, h2, h3, h4, h5, h6, h7, h8, h9, h10, h11⟩ := h
  have hn : ∀ p q, p ≠ q → (⟨g, p, none⟩ : Addr) ≠ ⟨g, q, none⟩ := fun p q hq e => hq (by injection e)
  unfold put12
  refine ⟨?_, ?_, ?_, ?_, ?_, ?_, ?_, ?_, ?_, ?_, ?_, ?_⟩
  · exact (set_other (hn 0 11 (by decide)) (set_other (hn 0 10 (by decide)) (set_other (hn 0 9 (by decide)) (set_other (hn 0 8 (by decide)) (set_other (hn 0 7 (by decide)) (set_other (hn 0 6 (by decide)) (set_other (hn 0 5 (by decide)) (set_other (hn 0 4 (by decide)) (set_other (hn 0 3 (by decide)) (set_other (hn 0 2 (by decide)) (set_other (hn 0 1 (by decide)) (set_self h0))))))))))))
  · exact (set_other (hn 1 11 (by decide)) (set_other (hn 1 10 (by decide)) (set_other (hn 1 9 (by decide)) (set_other (hn 1 8 (by decide)) (set_other (hn 1 7 (by decide)) (set_other (hn 1 6 (by decide)) (set_other (hn 1 5 (by decide)) (set_other (hn 1 4 (by decide)) (set_other (hn 1 3 (by decide)) (set_other (hn 1 2 (by decide)) (set_self (set_other (hn 1 0 (by decide)) h1))))))))))))
  · exact (set_other (hn 2 11 (by decide)) (set_other (hn 2 10 (by decide)) (set_other (hn 2 9 (by decide)) (set_other (hn 2 8 (by decide)) (set_other (hn 2 7 (by decide)) (set_other (hn 2 6 (by decide)) (set_other (hn 2 5 (by decide)) (set_other (hn 2 4 (by decide)) (set_other (hn 2 3 (by decide)) (set_self (set_other (hn 2 1 (by decide)) (set_other (hn 2 0 (by decide)) h2))))))))))))
  · exact (set_other (hn 3 11 (by decide)) (set_other (hn 3 10 (by decide)) (set_other (hn 3 9 (by decide)) (set_other (hn 3 8 (by decide)) (set_other (hn 3 7 (by decide)) (set_other (hn 3 6 (by decide)) (set_other (hn 3 5 (by decide)) (set_other (hn 3 4 (by decide)) (set_self (set_other (hn 3 2 (by decide)) (set_other (hn 3 1 (by decide)) (set_other (hn 3 0 (by decide)) h3))))))))))))
  · exact (set_other (hn 4 11 (by decide)) (set_other (hn 4 10 (by decide)) (set_other (hn 4 9 (by decide)) (set_other (hn 4 8 (by decide)) (set_other (hn 4 7 (by decide)) (set_other (hn 4 6 (by decide)) (set_other (hn 4 5 (by decide)) (set_self (set_other (hn 4 3 (by decide)) (set_other (hn 4 2 (by decide)) (set_other (hn 4 1 (by decide)) (set_other (hn 4 0 (by decide)) h4))))))))))))
  · exact (set_other (hn 5 11 (by decide)) (set_other (hn 5 10 (by decide)) (set_other (hn 5 9 (by decide)) (set_other (hn 5 8 (by decide)) (set_other (hn 5 7 (by decide)) (set_other (hn 5 6 (by decide)) (set_self (set_other (hn 5 4 (by decide)) (set_other (hn 5 3 (by decide)) (set_other (hn 5 2 (by decide)) (set_other (hn 5 1 (by decide)) (set_other (hn 5 0 (by decide)) h5))))))))))))
  · exact (set_other (hn 6 11 (by decide)) (set_other (hn 6 10 (by decide)) (set_other (hn 6 9 (by decide)) (set_other (hn 6 8 (by decide)) (set_other (hn 6 7 (by decide)) (set_self (set_other (hn 6 5 (by decide)) (set_other (hn 6 4 (by decide)) (set_other (hn 6 3 (by decide)) (set_other (hn 6 2 (by decide)) (set_other (hn 6 1 (by decide)) (set_other (hn 6 0 (by decide)) h6))))))))))))
  · exact (set_other (hn 7 11 (by decide)) (set_other (hn 7 10 (by decide)) (set_other (hn 7 9 (by decide)) (set_other (hn 7 8 (by decide)) (set_self (set_other (hn 7 6 (by decide)) (set_other (hn 7 5 (by decide)) (set_other (hn 7 4 (by decide)) (set_other (hn 7 3 (by decide)) (set_other (hn 7 2 (by decide)) (set_other (hn 7 1 (by decide)) (set_other (hn 7 0 (by decide)) h7))))))))))))
  · exact (set_other (hn 8 11 (by decide)) (set_other (hn 8 10 (by decide)) (set_other (hn 8 9 (by decide)) (set_self (set_other (hn 8 7 (by decide)) (set_other (hn 8 6 (by decide)) (set_other (hn 8 5 (by decide)) (set_other (hn 8 4 (by decide)) (set_other (hn 8 3 (by decide)) (set_other (hn 8 2 (by decide)) (set_other (hn 8 1 (by decide)) (set_other (hn 8 0 (by decide)) h8))))))))))))
  · exact (set_other (hn 9 11 (by decide)) (set_other (hn 9 10 (by decide)) (set_self (set_other (hn 9 8 (by decide)) (set_other (hn 9 7 (by decide)) (set_other (hn 9 6 (by decide)) (set_other (hn 9 5 (by decide)) (set_other (hn 9 4 (by decide)) (set_other (hn 9 3 (by decide)) (set_other (hn 9 2 (by decide)) (set_other (hn 9 1 (by decide)) (set_other (hn 9 0 (by decide)) h9))))))))))))
  · exact (set_other (hn 10 11 (by decide)) (set_self (set_other (hn 10 9 (by decide)) (set_other (hn 10 8 (by decide)) (set_other (hn 10 7 (by decide)) (set_other (hn 10 6 (by decide)) (set_other (hn 10 5 (by decide)) (set_other (hn 10 4 (by decide)) (set_other (hn 10 3 (by decide)) (set_other (hn 10 2 (by decide)) (set_other (hn 10 1 (by decide)) (set_other (hn 10 0 (by decide)) h10))))))))))))
  · exact (set_self (set_other (hn 11 10 (by decide)) (set_other (hn 11 9 (by decide)) (set_other (hn 11 8 (by decide)) (set_other (hn 11 7 (by decide)) (set_other (hn 11 6 (by decide)) (set_other (hn 11 5 (by decide)) (set_other (hn 11 4 (by decide)) (set_other (hn 11 3 (by decide)) (set_other (hn 11 2 (by decide)) (set_other (hn 11 1 (by decide)) (set_other (hn 11 0 (by decide)) h11))))))))))))
theorem put12_but {S : Nat → Bool} {w w' : World} {g : Nat} {v0 v1 v2 v3 v4 v5 v6 v7 v8 v9 v10 v11 : Value} (h : But S w w') (hg : S g = false) : But S w (put12 w' g v0 v1 v2 v3 v4 v5 v6 v7 v8 v9 v10 v11) :=
  ((((((((((((h.set (p := ⟨g, 0, none⟩) hg _).set (p := ⟨g, 1, none⟩) hg _).set (p := ⟨g, 2, none⟩) hg _).set (p := ⟨g, 3, none⟩) hg _).set (p := ⟨g, 4, none⟩) hg _).set (p := ⟨g, 5, none⟩) hg _).set (p := ⟨g, 6, none⟩) hg _).set (p := ⟨g, 7, none⟩) hg _).set (p := ⟨g, 8, none⟩) hg _).set (p := ⟨g, 9, none⟩) hg _).set (p := ⟨g, 10, none⟩) hg _).set (p := ⟨g, 11, none⟩) hg _)
theorem put12_below {B : Nat} {w w' : World} {g : Nat} {v0 v1 v2 v3 v4 v5 v6 v7 v8 v9 v10 v11 : Value} (h : Below B w w') (hg : B ≤ g) : Below B w (put12 w' g v0 v1 v2 v3 v4 v5 v6 v7 v8 v9 v10 v11) :=
  ((((((((((((h.setCell (p := ⟨g, 0, none⟩) hg _).setCell (p := ⟨g, 1, none⟩) hg _).setCell (p := ⟨g, 2, none⟩) hg _).setCell (p := ⟨g, 3, none⟩) hg _).setCell (p := ⟨g, 4, none⟩) hg _).setCell (p := ⟨g, 5, none⟩) hg _).setCell (p := ⟨g, 6, none⟩) hg _).setCell (p := ⟨g, 7, none⟩) hg _).setCell (p := ⟨g, 8, none⟩) hg _).setCell (p := ⟨g, 9, none⟩) hg _).setCell (p := ⟨g, 10, none⟩) hg _).setCell (p := ⟨g, 11, none⟩) hg _)
end Go.Proofs.YtmikjhohnfcedaaGreatDoor

namespace Go.Proofs.YtmikjhohnfcedaaGreatDoor
set_option linter.unusedSimpArgs false
set_option linter.unusedVariables false
open Go.RowKit
set_option linter.unusedSimpArgs false

def paramB (k : Nat) : Bool := k == 4 || k == 3
set_option maxRecDepth 20000 in
set_option maxHeartbeats 1000000 in
theorem p_isparam (k : Nat) (s : ByteArray) (x : Int) (A : Option Addr) (n c : Nat) (w : World) :
    Calls Tryz.prog 40 #[.agg #[.int .u8 k, .string s, .int .i64 x, .slice A n c]] w (NamePost (paramB k) w) := by
  have hb0 : Below w.heap.size w (w.alloc (.cells #[.int .u8 k, .string s, .int .i64 x, .slice A n c] 40)) := (Below.refl _ _).alloc (Nat.le_refl _) _
  have HB0 := Lib.hid hb0
  have HBX := Lib.hid (boxF4 (heap_alloc_new w (.cells #[.int .u8 k, .string s, .int .i64 x, .slice A n c] 40)))
  have c0 := HBX.out.c0
  clear hb0
  by_cases h4 : k = 4
  · subst h4
    have HV : Hid (paramB 4 = true) := rfl
    go_enter Tryz.func40, Tryz.ntmps40
    go_wp2_with fail
    all_goals
      go_ret
      exact NamePost.intro HV.out.symm HB0.out
  · have e1 : ((k : Int) == 4) = false := by simp; omega
    by_cases h3 : k = 3
    · subst h3
      have HV : Hid (paramB 3 = true) := rfl
      go_enter Tryz.func40, Tryz.ntmps40
      go_wp2_with fail
      all_goals
        go_ret
        exact NamePost.intro HV.out.symm HB0.out
    · have e2 : ((k : Int) == 3) = false := by simp; omega
      have HV : Hid (paramB k = false) := by show _ = _; simp [paramB, h3, h4]
      clear h3 h4
      go_enter Tryz.func40, Tryz.ntmps40
      go_wp2_with fail
      all_goals
        go_ret
        exact NamePost.intro HV.out.symm HB0.out
theorem enter_isparam (args : Array Value) (w : World) : (callFunc 40 args).run Tryz.prog w = .ok (.enter 40 args) w := run_enter Tryz.func40 (by kernel_rfl) (by kernel_rfl) args w
def paramsL (ts : List Tree) : Bool := ts.any fun t => paramB t.kind
theorem params_step {ts : List Tree} {j : Nat} {t : Tree} (h : paramsL ts = paramsL (ts.drop j)) (hx : ts[j]? = some t) : paramsL ts = (paramB t.kind || paramsL (ts.drop (j + 1))) := by
  have h1 : j < ts.length := (List.getElem?_eq_some_iff.1 hx).1
  rw [h, List.drop_eq_getElem_cons h1]
  rw [List.getElem?_eq_getElem h1] at hx
  injection hx with hx
  rw [hx]
  rfl
def IndexB (b : Bool) (w : World) (e : Ending) (w' : World) : Prop := Below w.heap.size w w' ∧ ∃ i : Int, e = .returned (.int .i64 i) ∧ (0 ≤ i ↔ b = true)
theorem IndexB.intro {b : Bool} {w w' : World} {i : Int} (hb : Below w.heap.size w w') (h : 0 ≤ i ↔ b = true) : IndexB b w (.returned (.int .i64 i)) w' := ⟨hb, i, rfl, h⟩
set_option maxRecDepth 20000 in
set_option maxHeartbeats 1000000 in
theorem p_index_params (ts : List Tree) (A : Option Addr) (n c : Nat) (w : World) (hK : KidsAt w ts A n c) :
    Calls Tryz.prog 69 #[.slice A n c, .func (.func 40) #[] #[]] w (IndexB (paramsL ts) w) := by
  have HK := Lib.hid hK
  have hnn : n ≤ 9223372036854775807 := by have h1 := hK.2.1; have h2 := hK.2.2.1; unfold maxLen at h2; omega
  have HL : Hid (n = ts.length) := hK.1
  have hcf := enter_isparam
  clear hK
  go_enter Tryz.func69, Tryz.ntmps69
  go_wp2_with fail
  go_loopw [8] (fun i wr => ∃ j : Nat, j ≤ n ∧ i = .int .i64 j ∧ Hid (Below w.heap.size w wr) ∧ Hid (paramsL ts = paramsL (ts.drop j))) (fun i _ => n - (intOf i).toNat)
  case atStart => exact ⟨0, Nat.zero_le _, rfl, Below.refl _ _, rfl⟩
  case round =>
    obtain ⟨j, hj, rfl, HB, HI⟩ := hrel
    by_cases hlt : j < n
    · obtain ⟨b, o, t, rfl, ht, hat⟩ := (HK.out.below HB.out).get hlt
      obtain ⟨B1, d1, q0, q1, q2, q3, hnode⟩ := hat.cells
      have HST := Lib.hid (params_step HI.out ht)
      clear ht hat hnode
      cases hn : paramB t.kind with
      | false =>
        have HNN := Lib.hid hn
        have HN : Hid (paramsL ts = paramsL (ts.drop (j + 1))) := by show _ = _; rw [HST.out, hn]; rfl
        clear hn
        go_wp2_with fail
        refine (p_isparam _ _ _ _ _ _ _).mono ?_
        rintro e w3 ⟨rfl, hb3⟩
        rw [HNN.out]
        have HB3 := Lib.hid (bthen HB.out hb3)
        clear hb3
        go_wp2
        go_roundw
        case rel => exact ⟨j + 1, by omega, by go_num, HB3, HN⟩
        case measure => simp [intOf]; omega
      | true =>
        have HNN := Lib.hid hn
        have HV : Hid (paramsL ts = true) := by show _ = _; rw [HST.out, hn]; rfl
        clear hn
        go_wp2_with fail
        refine (p_isparam _ _ _ _ _ _ _).mono ?_
        rintro e w3 ⟨rfl, hb3⟩
        rw [HNN.out]
        have HB3 := Lib.hid (bthen HB.out hb3)
        clear hb3
        go_wp2
        go_ret
        exact IndexB.intro HB3.out (by rw [HV.out]; simp)
    · have HV : Hid (paramsL ts = false) := by
        show _ = _; have e1 := HL.out
        rw [HI.out, List.drop_eq_nil_of_le (by omega)]; rfl
      go_wp2_with fail
      go_ret
      exact IndexB.intro HB.out (by rw [HV.out]; simp)
theorem p_any_params (ts : List Tree) (A : Option Addr) (n c : Nat) (w : World) (hK : KidsAt w ts A n c) :
    Calls Tryz.prog 39 #[.slice A n c, .func (.func 40) #[] #[]] w (NamePost (paramsL ts) w) := by
  have HK := Lib.hid hK
  clear hK
  go_enter Tryz.func39, Tryz.ntmps39
  go_wp2_with fail
  refine (p_index_params ts _ _ _ _ HK.out).mono ?_
  rintro e w1 ⟨hb, i, rfl, hi⟩
  have HI := Lib.hid hi
  have HB := Lib.hid hb
  clear hi hb
  go_wp2
  go_ret
  exact NamePost.intro (by rw [Bool.eq_iff_iff, ← HI.out]; simp) HB.out
end Go.Proofs.YtmikjhohnfcedaaGreatDoor
