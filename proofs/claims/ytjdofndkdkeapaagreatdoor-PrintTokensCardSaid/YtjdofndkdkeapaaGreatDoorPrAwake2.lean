/- The walk over the law's awake: the chapter's examples. -/
import Derived.Test.YtjdofndkdkeapaaGreatDoorPrAwake
import Derived.Test.YtjdofndkdkeapaaGreatDoorPrLen
namespace Go.Proofs.YtjdofndkdkeapaaGreatDoor
open Go.RowKit
set_option linter.unusedSimpArgs false
set_option linter.unusedVariables false

def exX : Tree := .node 24 [45] 0 [.node 24 [42] 0 [.node 24 [43] 0 [.node 20 [] 1 [], .node 22 [97] 0 []], .node 23 [45] 0 [.node 20 [] 2 []]], .node 24 [45] 0 [.node 20 [] 3 [], .node 22 [97] 0 []]]
def exF : Tree := fileT [.node 10 [] 0 [exX]]
def exE : Tree := .node 1 [] 0 []
def exTxt : Bytes := [102, 117, 110, 99, 32, 102, 40, 97, 41, 32, 123, 10, 32, 32, 114, 101, 116, 117, 114, 110, 32, 40, 49, 32, 43, 32, 97, 41, 32, 42, 32, 45, 50, 32, 45, 32, 40, 51, 32, 45, 32, 97, 41, 59, 10, 125, 10]
theorem exF_right : treeRight exF = true := by kernel_rfl
theorem exE_right : treeRight exE = true := by kernel_rfl
theorem exF_text : printT 0 exF = exTxt := by
  have d1 : Lib.itoa 1 = [49] := by kernel_rfl
  have d2 : Lib.itoa 2 = [50] := by kernel_rfl
  have d3 : Lib.itoa 3 = [51] := by kernel_rfl
  simp [exF, fileT, exX, exTxt, printT, printL, spellK, fileJ, commaJ, blockJ, pad, opd, levelT, levelOp, Tree.kids, d1, d2, d3, List.replicate]
theorem exE_text : printT 0 exE = [] := by simp [exE, printT, printL, spellK, fileJ]
theorem exF_can : CanPrint exF := ⟨by simp [exF, fileT, exX, Tree.nums, numsL], by simp [exF, fileT, exX, Tree.sz, szL], by rw [exF_text]; simp [exTxt]⟩
theorem exE_can : CanPrint exE := ⟨by simp [exE, Tree.nums, numsL], by simp [exE, Tree.sz, szL], by rw [exE_text]; simp⟩
theorem exF_short : exF.short 9223372036854775806 := by simp [exF, fileT, exX, Tree.short, shortL]
theorem exX_short : exX.short 9223372036854775806 := by simp [exX, Tree.short, shortL]
theorem exE_short : exE.short 9223372036854775806 := by simp [exE, Tree.short, shortL]
/-- of, in a walk: a tree of Kids that stand in memory. -/
theorem p_ofT (k : Nat) (kk : Int) (hkk : kk = (k : Int)) (s : Bytes) (ks : List Tree) (A : Option Addr) (n c : Nat) (w : World) (hK : KidsAt w ks A n c) (hk : k ≤ 255) (hs : s.length ≤ maxLen) :
    Calls Tryz.prog 11 #[.int .u8 kk, .string (sb s), .slice A n c] w (MakesPost (.node k s 0 ks) w) := by
  refine (p_of kk (sb s) A n c w).mono ?_
  rintro e w' ⟨rfl, hb⟩
  exact MakesPost.intro hkk (hK.below hb) hk hs ⟨by omega, by omega⟩ hb
/-- of one Kid that has just been laid. -/
theorem p_of1 (k : Nat) (kk : Int) (hkk : kk = (k : Int)) (s : Bytes) (a : Tree) (A : Option Addr) (c r : Nat) (w : World) (hr : w.heap.size = r) (ha : NodeIs w a a.kind (sb a.text) a.num A a.kids.length c) (hk : k ≤ 255) (hs : s.length ≤ maxLen) :
    Calls Tryz.prog 11 #[.int .u8 kk, .string (sb s), .slice (some ⟨r, 0, none⟩) 1 1] (w.alloc (.cells #[.int .u8 a.kind, .string (sb a.text), .int .i64 a.num, .slice A a.kids.length c] 25)) (MakesPost (.node k s 0 [a]) w) := by
  subst hr
  have hb : Below w.heap.size w (w.alloc (.cells #[.int .u8 a.kind, .string (sb a.text), .int .i64 a.num, .slice A a.kids.length c] 25)) := (Below.refl _ _).alloc (Nat.le_refl _) _
  refine (p_ofT k kk hkk s [a] _ 1 1 _ (kids1_at (heap_alloc_new _ _) (ha.below hb)) hk hs).mono ?_
  rintro e w' ⟨t, A', c', h1, h2, h3, h4⟩
  exact ⟨t, A', c', h1, h2, h3, hb.trans (h4.out.mono hb.size)⟩
theorem p_mkfile1 (a : Tree) (A : Option Addr) (c r : Nat) (w : World) (hr : w.heap.size = r) (ha : NodeIs w a a.kind (sb a.text) a.num A a.kids.length c) :
    Calls Tryz.prog 12 #[.slice (some ⟨r, 0, none⟩) 1 1] (w.alloc (.cells #[.int .u8 a.kind, .string (sb a.text), .int .i64 a.num, .slice A a.kids.length c] 25)) (MakesPost (fileT [a]) w) := by
  subst hr
  have hb : Below w.heap.size w (w.alloc (.cells #[.int .u8 a.kind, .string (sb a.text), .int .i64 a.num, .slice A a.kids.length c] 25)) := (Below.refl _ _).alloc (Nat.le_refl _) _
  refine (p_mkfile [a] _ 1 1 _ (kids1_at (heap_alloc_new _ _) (ha.below hb))).mono ?_
  rintro e w' ⟨t, A', c', h1, h2, h3, h4⟩
  exact ⟨t, A', c', h1, h2, h3, hb.trans (h4.out.mono hb.size)⟩
set_option maxHeartbeats 8000000 in
set_option maxRecDepth 100000 in
theorem p_awake8 (w : World) (hE : EnvS w) (hT : TabP w) : Calls Tryz.prog 4 #[] w (fun e w' => e = .returned (.bool true) ∧ Below w.heap.size w w') := by
  have HE := Lib.hid hE
  have HT := Lib.hid hT
  have HB0 := Lib.hid (Below.refl w.heap.size w)
  clear hE hT
  go_enter Tryz.func4, Tryz.ntmps4
  go_wp2_with fail
  refine (p_num 1 _ (by omega) (by omega)).mono ?_
  rintro e w1 ⟨t1, A1, c1, HT1, rfl, HN1, hb1⟩
  have HB1 := Lib.hid (HB0.out.trans (hb1.out.mono HB0.out.size))
  clear hb1
  go_wp2_with fail
  refine (p_name8 [97] _ (by simp [maxLen])).mono ?_
  rintro e w2 ⟨t2, A2, c2, HT2, rfl, HN2, hb2⟩
  have HB2 := Lib.hid (HB1.out.trans (hb2.out.mono HB1.out.size))
  replace HN1 := Lib.hid (HN1.out.below hb2.out)
  clear hb2
  go_wp2_with fail
  refine (p_op [43] t1 t2 A1 A2 c1 c2 _ (by simp [maxLen]) HN1.out HN2.out).mono ?_
  rintro e w3 ⟨t3, A3, c3, HT3, rfl, HN3, hb3⟩
  have HB3 := Lib.hid (HB2.out.trans (hb3.out.mono HB2.out.size))
  clear hb3
  go_wp2_with fail
  refine (p_num 2 _ (by omega) (by omega)).mono ?_
  rintro e w4 ⟨t4, A4, c4, HT4, rfl, HN4, hb4⟩
  have HB4 := Lib.hid (HB3.out.trans (hb4.out.mono HB3.out.size))
  replace HN3 := Lib.hid (HN3.out.below hb4.out)
  clear hb4
  go_wp2_with fail
  refine (p_of1 23 23 rfl [45] t4 A4 c4 _ _ rfl HN4.out (by omega) (by simp [maxLen])).mono ?_
  rintro e w5 ⟨t5, A5, c5, HT5, rfl, HN5, hb5⟩
  have HB5 := Lib.hid (HB4.out.trans (hb5.out.mono HB4.out.size))
  replace HN3 := Lib.hid (HN3.out.below hb5.out)
  clear hb5
  go_wp2_with fail
  refine (p_op [42] t3 t5 A3 A5 c3 c5 _ (by simp [maxLen]) HN3.out HN5.out).mono ?_
  rintro e w6 ⟨t6, A6, c6, HT6, rfl, HN6, hb6⟩
  have HB6 := Lib.hid (HB5.out.trans (hb6.out.mono HB5.out.size))
  clear hb6
  go_wp2_with fail
  refine (p_num 3 _ (by omega) (by omega)).mono ?_
  rintro e w7 ⟨t7, A7, c7, HT7, rfl, HN7, hb7⟩
  have HB7 := Lib.hid (HB6.out.trans (hb7.out.mono HB6.out.size))
  replace HN6 := Lib.hid (HN6.out.below hb7.out)
  clear hb7
  go_wp2_with fail
  refine (p_name8 [97] _ (by simp [maxLen])).mono ?_
  rintro e w8 ⟨t8, A8, c8, HT8, rfl, HN8, hb8⟩
  have HB8 := Lib.hid (HB7.out.trans (hb8.out.mono HB7.out.size))
  replace HN6 := Lib.hid (HN6.out.below hb8.out)
  replace HN7 := Lib.hid (HN7.out.below hb8.out)
  clear hb8
  go_wp2_with fail
  refine (p_op [45] t7 t8 A7 A8 c7 c8 _ (by simp [maxLen]) HN7.out HN8.out).mono ?_
  rintro e w9 ⟨t9, A9, c9, HT9, rfl, HN9, hb9⟩
  have HB9 := Lib.hid (HB8.out.trans (hb9.out.mono HB8.out.size))
  replace HN6 := Lib.hid (HN6.out.below hb9.out)
  clear hb9
  go_wp2_with fail
  refine (p_op [45] t6 t9 A6 A9 c6 c9 _ (by simp [maxLen]) HN6.out HN9.out).mono ?_
  rintro e w10 ⟨t10, A10, c10, HT10, rfl, HN10, hb10⟩
  have HB10 := Lib.hid (HB9.out.trans (hb10.out.mono HB9.out.size))
  clear hb10
  have HX : Hid (t10 = exX) := by
    show _ = _
    rw [HT10.out, HT6.out, HT9.out, HT3.out, HT5.out, HT1.out, HT2.out, HT4.out, HT7.out, HT8.out]
    rfl
  clear HT10 HT6 HT9 HT3 HT5 HT1 HT2 HT4 HT7 HT8 HN1 HN2 HN3 HN4 HN5 HN6 HN7 HN8 HN9 HB1 HB2 HB3 HB4 HB5 HB6 HB7 HB8 HB9
  have hb : Below w10.heap.size w10 (w10.alloc (.cells #[.int .u8 t10.kind, .string (sb t10.text), .int .i64 t10.num, .slice A10 t10.kids.length c10] 25)) := (Below.refl _ _).alloc (Nat.le_refl _) _
  have HBX := Lib.hid (HB10.out.trans (hb.mono HB10.out.size))
  have HNX := Lib.hid (HN10.out.below hb)
  have HBOX := Lib.hid (heap_alloc_new w10 (.cells #[.int .u8 t10.kind, .string (sb t10.text), .int .i64 t10.num, .slice A10 t10.kids.length c10] 25))
  have hsz : (w10.alloc (.cells #[.int .u8 t10.kind, .string (sb t10.text), .int .i64 t10.num, .slice A10 t10.kids.length c10] 25)).heap.size = w10.heap.size + 1 := by simp
  have HSZ := Lib.hid hsz
  clear hb hsz
  go_wp2_with fail
  refine (p_of1 10 10 rfl [] t10 A10 c10 _ _ HSZ.out HNX.out (by omega) (by simp)).mono ?_
  rintro e w11 ⟨t11, A11, c11, HT11, rfl, HN11, hb11⟩
  have HB11 := Lib.hid (HBX.out.trans (hb11.out.mono HBX.out.size))
  have HO11 := Lib.hid (keep_row HBOX.out hb11.out)
  have HX11 := Lib.hid (HNX.out.below hb11.out)
  clear hb11
  go_wp2_with fail
  refine (p_mkfile1 t11 A11 c11 _ _ rfl HN11.out).mono ?_
  rintro e w12 ⟨t12, A12, c12, HT12, rfl, HN12, hb12⟩
  have HB12 := Lib.hid (HB11.out.trans (hb12.out.mono HB11.out.size))
  have HO12 := Lib.hid (keep_row HO11.out hb12.out)
  have HX12 := Lib.hid (HX11.out.below hb12.out)
  have HF : Hid (t12 = exF) := by show _ = _; rw [HT12.out, HT11.out, HX.out]; rfl
  clear hb12
  go_wp2_with fail
  refine (p_file t12 A12 c12 _ HN12.out (by rw [HF.out]; exact exF_short) (HE.out.below HB12.out (Nat.le_refl _)) (HT.out.below HB12.out (Nat.le_refl _)) (fun _ => by rw [HF.out]; exact exF_can)).mono ?_
  rintro e w13 ⟨hb13, h13⟩
  rw [HF.out, if_pos ⟨rfl, exF_right⟩, exF_text] at h13
  subst h13
  have HB13 := Lib.hid (HB12.out.trans (hb13.mono HB12.out.size))
  have HO13 := Lib.hid (keep_row HO12.out hb13)
  have HX13 := Lib.hid (HX12.out.below hb13)
  clear hb13
  go_wp2_with fail
  refine (p_ofT 1 1 rfl [] [] none 0 0 _ (KidsAt.nil _ _ (Nat.zero_le _)) (by omega) (by simp)).mono ?_
  rintro e w14 ⟨t14, A14, c14, HT14, rfl, HN14, hb14⟩
  have HB14 := Lib.hid (HB13.out.trans (hb14.out.mono HB13.out.size))
  have HO14 := Lib.hid (keep_row HO13.out hb14.out)
  have HX14 := Lib.hid (HX13.out.below hb14.out)
  have HF14 : Hid (t14 = exE) := HT14
  clear hb14 HT14
  go_wp2_with fail
  refine (p_file t14 A14 c14 _ HN14.out (by rw [HF14.out]; exact exE_short) (HE.out.below HB14.out (Nat.le_refl _)) (HT.out.below HB14.out (Nat.le_refl _)) (fun _ => by rw [HF14.out]; exact exE_can)).mono ?_
  rintro e w15 ⟨hb15, h15⟩
  rw [HF14.out, if_pos ⟨rfl, exE_right⟩, exE_text] at h15
  subst h15
  have HB15 := Lib.hid (HB14.out.trans (hb15.mono HB14.out.size))
  have HO15 := Lib.hid (keep_row HO14.out hb15)
  have HX15 := Lib.hid (HX14.out.below hb15)
  obtain ⟨b0, b1, b2, b3⟩ := cells4 HO15.out
  clear hb15
  go_wp2_with fail
  refine (p_file t10 A10 c10 _ HX15.out (by rw [HX.out]; exact exX_short) (HE.out.below HB15.out (Nat.le_refl _)) (HT.out.below HB15.out (Nat.le_refl _)) (fun h => by rw [HX.out] at h; exact absurd h.1 (by decide))).mono ?_
  rintro e w16 ⟨hb16, h16⟩
  rw [HX.out, if_neg (fun h => absurd h.1 (by decide))] at h16
  subst h16
  have HB16 := Lib.hid (HB15.out.trans (hb16.mono HB15.out.size))
  clear hb16 b0 b1 b2 b3
  go_wp2_with fail
  refine (p_ofT 1 1 rfl [] [] none 0 0 _ (KidsAt.nil _ _ (Nat.zero_le _)) (by omega) (by simp)).mono ?_
  rintro e w17 ⟨t17, A17, c17, HT17, rfl, HN17, hb17⟩
  have HB17 := Lib.hid (HB16.out.trans (hb17.out.mono HB16.out.size))
  have HF17 : Hid (t17 = exE) := HT17
  clear hb17 HT17
  go_wp2_with fail
  refine (p_marks t17 A17 c17 _ HN17.out (by rw [HF17.out]; exact exE_short) (HE.out.below HB17.out (Nat.le_refl _)) (HT.out.below HB17.out (Nat.le_refl _)) (by rw [HF17.out]; rfl) (by rw [HF17.out]; exact exE_right) (by rw [HF17.out]; exact exE_can)).mono ?_
  rintro e w18 ⟨hb18, mA, n18, mc, rfl, q1, q2⟩
  have hn18 : n18 = 1 := by
    rw [HF17.out] at q2
    simp only [exE, Tree.sz, szL] at q2
    omega
  subst hn18
  have HB18 := Lib.hid (HB17.out.trans (hb18.mono HB17.out.size))
  clear hb18 q1 q2
  go_wp2_with fail
  go_ret
  exact ⟨rfl, HB18.out⟩
end Go.Proofs.YtjdofndkdkeapaaGreatDoor
