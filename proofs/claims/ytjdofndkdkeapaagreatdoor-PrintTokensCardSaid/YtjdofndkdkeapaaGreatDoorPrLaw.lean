/- The walk over the law PrintTokens. -/
import Derived.Test.YtjdofndkdkeapaaGreatDoorPrAwake2
import Derived.Test.YtjdofndkdkeapaaGreatDoorPrLen
import Derived.Test.YtjdofndkdkeapaaGreatDoorLexProg7
import Derived.Test.YtjdofndkdkeapaaGreatDoorNodesOf
namespace Go.Proofs.YtjdofndkdkeapaaGreatDoor
open Go.RowKit
set_option linter.unusedSimpArgs false
set_option linter.unusedVariables false

mutual
theorem nums_tree {w : World} : ∀ {t : Tree} {b o : Nat}, TreeAt w t b o → t.nums
  | .node k s x ks, b, o, h => by
    simp only [TreeAt] at h
    obtain ⟨_, _, _, _, _, hx, A, c, _, _, _, hk⟩ := h
    simp only [Tree.nums]
    refine ⟨hx.2, ?_⟩
    rcases hk with e | ⟨b', o', _, hr⟩
    · rw [e]; simp [numsL]
    · exact nums_row hr
theorem nums_row {w : World} : ∀ {ts : List Tree} {b o : Nat}, RowAt w ts b o → numsL ts
  | [], _, _, _ => by simp [numsL]
  | t :: ts, b, o, h => by
    simp only [RowAt] at h
    simp only [numsL]
    exact ⟨nums_tree h.1, nums_row h.2⟩
end
theorem nums_node {w : World} {t : Tree} {k : Nat} {s : ByteArray} {x : Int} {A : Option Addr} {n c : Nat} (h : NodeIs w t k s x A n c) : t.nums := by
  obtain ⟨ks, rfl, _, _, hx, hK⟩ := h
  simp only [Tree.nums]
  refine ⟨hx.2, ?_⟩
  rcases hK.2.2.2 with e | ⟨b, o, _, hr⟩
  · rw [e]; simp [numsL]
  · exact nums_row hr
mutual
theorem short_mono {L L' : Nat} (hl : L ≤ L') : ∀ {t : Tree}, t.short L → t.short L'
  | .node _ s _ ks, h => by
    simp only [Tree.short] at h ⊢
    exact ⟨Nat.le_trans h.1 hl, shortL_mono hl h.2⟩
theorem shortL_mono {L L' : Nat} (hl : L ≤ L') : ∀ {ts : List Tree}, shortL L ts → shortL L' ts
  | [], _ => by simp [shortL]
  | t :: ts, h => by
    simp only [shortL] at h ⊢
    exact ⟨short_mono hl h.1, shortL_mono hl h.2⟩
end
theorem can_of {t : Tree} (hn : t.nums) (hc : t.cost ≤ 3000) (h : t.kind = 1 ∧ treeRight t = true) : CanPrint t ∧ (printT 0 t).length ≤ 1000000 := by
  have h1 := print_len t.sz t (Nat.le_refl _) 1 0 h.2 hn (by omega)
  have h2 := wt_cost t
  have h3 := sz_cost t
  exact ⟨⟨hn, by omega, by omega⟩, by omega⟩
theorem sb_app (a b : Bytes) : sb a ++ sb b = sb (a ++ b) := by
  apply ByteArray.ext
  show (ByteArray.append _ _).data = _
  simp [sb]
theorem sb_size (a : Bytes) : (sb a).size = a.length := by show a.toArray.size = _; simp
theorem bl_sb (a : Bytes) : bl (sb a) = a := by simp [bl, sb]
def TokensPost (r : LexRes) (w : World) (e : Ending) (w' : World) : Prop := Below w.heap.size w w' ∧ ∀ ts, r = .ok ts → ∃ A c, ts.length ≤ 9223372036854775807 ∧ e = .returned (.tuple #[.slice A ts.length c, .agg #[.int .i64 0, .int .i64 0]])
theorem p_tokens8 (s : Bytes) (w : World) (hE : Lx.Env w) (hs : s.length ≤ 2000000) : Calls Tryz.prog 7 #[.string (sb s)] w (TokensPost (lexOf s) w) := by
  refine (Lx.p_tokens (sb s) w hE (by rw [sb_size]; omega)).mono ?_
  rintro e w' ⟨hb, h⟩
  rw [bl_sb] at h
  refine ⟨hb, fun ts hts => ?_⟩
  rw [hts] at h
  obtain ⟨v, rfl, ho⟩ := h
  obtain ⟨A, c, rfl, hc1, hc2⟩ := own_form ho
  exact ⟨A, c, Nat.le_trans hc1 hc2, rfl⟩
theorem keep2 {w W : World} {o1 o2 : Obj} {x0 x1 x2 x3 y0 y1 y2 y3 : Value} (h1 : o1 = .cells #[x0, x1, x2, x3] 25) (h2 : o2 = .cells #[y0, y1, y2, y3] 25) (hb : Below ((w.alloc o1).alloc o2).heap.size ((w.alloc o1).alloc o2) W) :
    (W.cell? ⟨w.heap.size, 0, none⟩ = some x0 ∧ W.cell? ⟨w.heap.size, 1, none⟩ = some x1 ∧ W.cell? ⟨w.heap.size, 2, none⟩ = some x2 ∧ W.cell? ⟨w.heap.size, 3, none⟩ = some x3) ∧ (W.cell? ⟨w.heap.size + 1, 0, none⟩ = some y0 ∧ W.cell? ⟨w.heap.size + 1, 1, none⟩ = some y1 ∧ W.cell? ⟨w.heap.size + 1, 2, none⟩ = some y2 ∧ W.cell? ⟨w.heap.size + 1, 3, none⟩ = some y3) := by
  subst h1 h2
  exact ⟨cells4 ((hb.block _ (by simp; omega)).trans ((heap_alloc_old _ _ (by simp)).trans (heap_alloc_new _ _))), cells4 ((hb.block _ (by simp)).trans (heap_alloc_at (by simp)))⟩
set_option maxHeartbeats 8000000 in
set_option maxRecDepth 100000 in
theorem l_print (n m : Tree) (A B : Option Addr) (c d : Nat) (w : World) (hn : NodeIs w n n.kind (sb n.text) n.num A n.kids.length c) (hm : NodeIs w m m.kind (sb m.text) m.num B m.kids.length d) (sn : n.short LL) (sm : m.short LL) (hE : Lx.Env w) :
    Calls Tryz.prog 3 #[.agg #[.int .u8 n.kind, .string (sb n.text), .int .i64 n.num, .slice A n.kids.length c], .agg #[.int .u8 m.kind, .string (sb m.text), .int .i64 m.num, .slice B m.kids.length d]] w (fun e w' => e = .returned (.bool true) ∧ Below w.heap.size w w') := by
  obtain ⟨o1, ho1⟩ : ∃ o : Obj, o = .cells #[.int .u8 n.kind, .string (sb n.text), .int .i64 n.num, .slice A n.kids.length c] 25 := ⟨_, rfl⟩
  obtain ⟨o2, ho2⟩ : ∃ o : Obj, o = .cells #[.int .u8 m.kind, .string (sb m.text), .int .i64 m.num, .slice B m.kids.length d] 25 := ⟨_, rfl⟩
  have hb0 : Below w.heap.size w ((w.alloc o1).alloc o2) := ((Below.refl _ _).alloc (Nat.le_refl _) _).alloc (by simp) _
  have HK := fun (W : World) (hb : Below ((w.alloc o1).alloc o2).heap.size ((w.alloc o1).alloc o2) W) => keep2 ho1 ho2 hb
  have HKK := Lib.hid HK
  have HB0 := Lib.hid hb0
  have HN := Lib.hid hn
  have HM := Lib.hid hm
  have HE := Lib.hid hE
  have HNN := Lib.hid (And.intro (nums_node hn) (nums_node hm))
  have HS1 := Lib.hid (short_mono (L' := 9223372036854775806) (by decide) sn)
  have HS2 := Lib.hid (short_mono (L' := 9223372036854775806) (by decide) sm)
  subst ho1 ho2
  clear HK hb0 hn hm hE
  go_enter Tryz.func3, Tryz.ntmps3
  go_wp2_with fail
  refine (p_awake8 _ ⟨(HE.out.below HB0.out (Nat.le_refl _)).tabS⟩ (HE.out.below HB0.out (Nat.le_refl _)).tabP).mono ?_
  rintro e w1 ⟨rfl, hb1⟩
  have HB1 := Lib.hid hb1
  have HW1 := Lib.hid (HB0.out.trans (hb1.mono HB0.out.size))
  obtain ⟨⟨a0, a1, a2, a3⟩, ⟨b0, b1, b2, b3⟩⟩ := HKK.out w1 hb1
  clear hb1
  go_wp2_with fail
  refine (k_nodes_of n _ _ _ _ _ _ 3000 _ (HN.out.below HW1.out) sn (by omega)).mono ?_
  rintro e w2 ⟨v, rfl, hb2, v1, v2, hC⟩
  have HB2 := Lib.hid (HB1.out.trans (hb2.mono HB1.out.size))
  have HW2 := Lib.hid (HB0.out.trans (HB2.out.mono HB0.out.size))
  obtain ⟨⟨a0', a1', a2', a3'⟩, ⟨b0', b1', b2', b3'⟩⟩ := HKK.out w2 HB2.out
  have HC := Lib.hid hC
  clear hb2 a0 a1 a2 a3 b0 b1 b2 b3 hC
  by_cases hv : 3000 < v
  · go_wp2_with fail
    go_ret
    exact ⟨rfl, HW2.out⟩
  · have hvle : v ≤ 3000 := by omega
    have HCn := Lib.hid (HC.out.1 hvle)
    go_wp2_with fail
    refine (k_nodes_of m _ _ _ _ _ _ 3000 _ (HM.out.below HW2.out) sm (by omega)).mono ?_
    rintro e w3 ⟨v', rfl, hb3, v1', v2', hC'⟩
    have HB3 := Lib.hid (HB2.out.trans (hb3.mono HB2.out.size))
    have HW3 := Lib.hid (HB0.out.trans (HB3.out.mono HB0.out.size))
    obtain ⟨⟨p0, p1, p2, p3⟩, ⟨q0, q1, q2, q3⟩⟩ := HKK.out w3 HB3.out
    have HC' := Lib.hid hC'
    clear hb3 a0' a1' a2' a3' b0' b1' b2' b3' hC'
    by_cases hv' : 3000 < v'
    · go_wp2_with fail
      go_ret
      exact ⟨rfl, HW3.out⟩
    · have hvle' : v' ≤ 3000 := by omega
      have HCm := Lib.hid (HC'.out.1 hvle')
      have HQN : Hid (n.kind = 1 ∧ treeRight n = true → CanPrint n ∧ (printT 0 n).length ≤ 1000000) := can_of HNN.out.1 (by have := HCn.out; omega)
      have HQM : Hid (m.kind = 1 ∧ treeRight m = true → CanPrint m ∧ (printT 0 m).length ≤ 1000000) := can_of HNN.out.2 (by have := HCm.out; omega)
      go_wp2_with fail
      refine (p_file n A c _ (HN.out.below HW3.out) HS1.out ⟨(HE.out.below HW3.out (Nat.le_refl _)).tabS⟩ (HE.out.below HW3.out (Nat.le_refl _)).tabP (fun h => (HQN.out h).1)).mono ?_
      rintro e w4 ⟨hb4, hf⟩
      have HB4 := Lib.hid (HB3.out.trans (hb4.mono HB3.out.size))
      have HW4 := Lib.hid (HB0.out.trans (HB4.out.mono HB0.out.size))
      obtain ⟨⟨x0, x1, x2, x3⟩, ⟨y0, y1, y2, y3⟩⟩ := HKK.out w4 HB4.out
      clear hb4 p0 p1 p2 p3 q0 q1 q2 q3
      by_cases hrn : n.kind = 1 ∧ treeRight n = true
      · rw [if_pos hrn] at hf
        subst hf
        have HRN := Lib.hid hrn
        clear hrn
        go_wp2_with fail
        refine (p_file m B d _ (HM.out.below HW4.out) HS2.out ⟨(HE.out.below HW4.out (Nat.le_refl _)).tabS⟩ (HE.out.below HW4.out (Nat.le_refl _)).tabP (fun h => (HQM.out h).1)).mono ?_
        rintro e w5 ⟨hb5, hf⟩
        have HW5 := Lib.hid (HW4.out.trans (hb5.mono HW4.out.size))
        clear hb5 x0 x1 x2 x3 y0 y1 y2 y3
        by_cases hrm : m.kind = 1 ∧ treeRight m = true
        · rw [if_pos hrm] at hf
          subst hf
          have HRM := Lib.hid hrm
          obtain ⟨a, b', cc, ea, eb, ec, la, lb, lc⟩ := print_tokens HRN.out.1 hrm.1 HRN.out.2 hrm.2 HNN.out.1 HNN.out.2
          obtain ⟨S, hS⟩ : ∃ S, S = printT 0 n := ⟨_, rfl⟩
          obtain ⟨T, hT⟩ : ∃ T, T = printT 0 m := ⟨_, rfl⟩
          have hSl := (HQN.out HRN.out).2
          have hTl := (HQM.out hrm).2
          rw [← hS] at ea ec hSl ⊢
          rw [← hT] at eb ec hTl ⊢
          have hs1 : (sb S).size ≤ 1000000 := by rw [sb_size]; exact hSl
          have hs2 : (sb T).size ≤ 1000000 := by rw [sb_size]; exact hTl
          have HEA := Lib.hid (And.intro ea (And.intro eb ec))
          clear hrm hS hT ea eb ec
          go_wp2_with fail
          refine (p_tokens8 S _ (HE.out.below HW5.out (Nat.le_refl _)) (by omega)).mono ?_
          rintro e w6 ⟨hb6, h6⟩
          obtain ⟨A6, c6, l6, rfl⟩ := h6 a HEA.out.1
          have HW6 := Lib.hid (HW5.out.trans (hb6.mono HW5.out.size))
          clear hb6 h6
          go_wp2_with fail
          have hbx : Below w6.heap.size w6 (w6.alloc (.cells #[.int .i64 0, .int .i64 0] 33)) := (Below.refl _ _).alloc (Nat.le_refl _) _
          have HW6' := Lib.hid (HW6.out.trans (hbx.mono HW6.out.size))
          clear hbx
          refine (p_tokens8 T _ (HE.out.below HW6'.out (Nat.le_refl _)) (by omega)).mono ?_
          rintro e w7 ⟨hb7, h7⟩
          obtain ⟨A7, c7, l7, rfl⟩ := h7 b' HEA.out.2.1
          have HW7 := Lib.hid (HW6'.out.trans (hb7.mono HW6'.out.size))
          have HF6 := Lib.hid (keep_row (heap_alloc_new w6 (.cells #[.int .i64 0, .int .i64 0] 33)) hb7)
          clear hb7 h7
          go_wp2_with fail
          rw [sb_app]
          have hbx : Below w7.heap.size w7 (w7.alloc (.cells #[.int .i64 0, .int .i64 0] 33)) := (Below.refl _ _).alloc (Nat.le_refl _) _
          have HW7' := Lib.hid (HW7.out.trans (hbx.mono HW7.out.size))
          have HF6' := Lib.hid (keep_row HF6.out hbx)
          clear hbx
          refine (p_tokens8 (S ++ T) _ (HE.out.below HW7'.out (Nat.le_refl _)) (by rw [List.length_append]; omega)).mono ?_
          rintro e w8 ⟨hb8, h8⟩
          obtain ⟨A8, c8, l8, rfl⟩ := h8 cc HEA.out.2.2
          have HW8 := Lib.hid (HW7'.out.trans (hb8.mono HW7'.out.size))
          have hbx : Below w8.heap.size w8 (w8.alloc (.cells #[.int .i64 0, .int .i64 0] 33)) := (Below.refl _ _).alloc (Nat.le_refl _) _
          have HW9 := Lib.hid (HW8.out.trans (hbx.mono HW8.out.size))
          have z6 := (cell_of_row _ w6.heap.size 0 _ 33 (0, 0) (keep_row (keep_row HF6'.out hb8) hbx)).trans rfl
          have z7 := (cell_of_row _ w7.heap.size 0 _ 33 (0, 0) (keep_row (keep_row (heap_alloc_new w7 (.cells #[.int .i64 0, .int .i64 0] 33)) hb8) hbx)).trans rfl
          clear hb8 h8 hbx
          go_wp2_with fail
          go_ret
          refine ⟨?_, HW9.out⟩
          have hq : (((a.length - 1 : Nat) : Int) + (b'.length : Int) == (a.length : Int) - 1 + (b'.length : Int)) = true := by
            have e1 : ((a.length - 1 : Nat) : Int) = (a.length : Int) - 1 := by omega
            rw [e1]
            simp
          exact congrArg (fun x => Ending.returned (Value.bool x)) hq
        · rw [if_neg hrm] at hf
          subst hf
          clear hrm
          go_wp2_with fail
          go_ret
          exact ⟨rfl, HW5.out⟩
      · rw [if_neg hrn] at hf
        subst hf
        clear hrn
        go_wp2_with fail
        refine (p_file m B d _ (HM.out.below HW4.out) HS2.out ⟨(HE.out.below HW4.out (Nat.le_refl _)).tabS⟩ (HE.out.below HW4.out (Nat.le_refl _)).tabP (fun h => (HQM.out h).1)).mono ?_
        rintro e w5 ⟨hb5, hf⟩
        have HW5 := Lib.hid (HW4.out.trans (hb5.mono HW4.out.size))
        clear hb5 x0 x1 x2 x3 y0 y1 y2 y3
        obtain ⟨S5, e5, rfl⟩ : ∃ (S5 : ByteArray) (e5 : Int), e = .returned (.tuple #[.string S5, .int .i64 e5]) := by
          split at hf
          · exact ⟨_, _, hf⟩
          · exact ⟨_, _, hf⟩
        clear hf
        go_wp2_with fail
        go_ret
        exact ⟨rfl, HW5.out⟩
end Go.Proofs.YtjdofndkdkeapaaGreatDoor
