/- The walks over the law's makers of trees: of, num, name, op, file. -/
import Derived.Test.YtjdofndkdkeapaaGreatDoorPrint11
namespace Go.Proofs.YtjdofndkdkeapaaGreatDoor
open Go.RowKit
set_option linter.unusedSimpArgs false
set_option linter.unusedVariables false

/-- A node's value. -/
def nodeV (t : Tree) (A : Option Addr) (c : Nat) : Value := .agg #[.int .u8 t.kind, .string (sb t.text), .int .i64 t.num, .slice A t.kids.length c]
def MakesPost (T : Tree) (w : World) (e : Ending) (w' : World) : Prop := ∃ (t : Tree) (A : Option Addr) (c : Nat), Hid (t = T) ∧ e = .returned (.agg #[.int .u8 t.kind, .string (sb t.text), .int .i64 t.num, .slice A t.kids.length c]) ∧ Hid (NodeIs w' t t.kind (sb t.text) t.num A t.kids.length c) ∧ Hid (Below w.heap.size w w')
theorem MakesPost.intro {k : Nat} {kk : Int} {s : Bytes} {x : Int} {ks : List Tree} {A : Option Addr} {n c : Nat} {w w' : World} (hkk : kk = (k : Int)) (hK : KidsAt w' ks A n c) (hk : k ≤ 255) (hs : s.length ≤ maxLen) (hx : fitsI x) (hb : Below w.heap.size w w') :
    MakesPost (.node k s x ks) w (.returned (.agg #[.int .u8 kk, .string (sb s), .int .i64 x, .slice A n c])) w' := by
  subst hkk
  obtain rfl := hK.1
  exact ⟨.node k s x ks, A, c, rfl, rfl, ⟨ks, rfl, hk, hs, hx, hK⟩, hb⟩
theorem kids1_at {W : World} {g : Nat} {a : Tree} {A : Option Addr} {c : Nat} (hg : W.heap[g]? = some (.cells #[.int .u8 a.kind, .string (sb a.text), .int .i64 a.num, .slice A a.kids.length c] 25 (0, 0))) (ha : NodeIs W a a.kind (sb a.text) a.num A a.kids.length c) :
    KidsAt W [a] (some ⟨g, 0, none⟩) 1 1 := by
  refine ⟨rfl, Nat.le_refl _, by unfold maxLen; omega, .inr ⟨_, _, rfl, RowAt.mk fun i t hi => ?_⟩⟩
  have hc := fun j => cell_of_row _ g j _ 25 (0, 0) hg
  match i, hi with
  | 0, hi =>
    simp only [List.getElem?_cons_zero, Option.some.injEq] at hi
    subst hi
    obtain ⟨k, s, x, ks⟩ := a
    obtain ⟨ks', e, g1, g2, g3, hK⟩ := ha
    injection e with e1 e2 e3 e4
    subst e4
    simp only [TreeAt]
    exact ⟨by rw [hc]; rfl, by rw [hc]; rfl, by rw [hc]; rfl, g1, g2, g3, A, c, by rw [hc]; rfl, hK.2.1, hK.2.2.1, hK.2.2.2⟩
theorem kids2_at {W : World} {g : Nat} {a b : Tree} {A B : Option Addr} {c d : Nat} (hg : W.heap[g]? = some (.cells #[.int .u8 a.kind, .string (sb a.text), .int .i64 a.num, .slice A a.kids.length c, .int .u8 b.kind, .string (sb b.text), .int .i64 b.num, .slice B b.kids.length d] 25 (0, 0))) (ha : NodeIs W a a.kind (sb a.text) a.num A a.kids.length c) (hb : NodeIs W b b.kind (sb b.text) b.num B b.kids.length d) :
    KidsAt W [a, b] (some ⟨g, 0, none⟩) 2 2 := by
  refine ⟨rfl, Nat.le_refl _, by unfold maxLen; omega, .inr ⟨_, _, rfl, RowAt.mk fun i t hi => ?_⟩⟩
  have hc := fun j => cell_of_row _ g j _ 25 (0, 0) hg
  match i, hi with
  | 0, hi =>
    simp only [List.getElem?_cons_zero, Option.some.injEq] at hi
    subst hi
    obtain ⟨k, s, x, ks⟩ := a
    obtain ⟨ks', e, g1, g2, g3, hK⟩ := ha
    injection e with e1 e2 e3 e4
    subst e4
    simp only [TreeAt]
    exact ⟨by rw [hc]; rfl, by rw [hc]; rfl, by rw [hc]; rfl, g1, g2, g3, A, c, by rw [hc]; rfl, hK.2.1, hK.2.2.1, hK.2.2.2⟩
  | 1, hi =>
    simp only [List.getElem?_cons_succ, List.getElem?_cons_zero, Option.some.injEq] at hi
    subst hi
    obtain ⟨k, s, x, ks⟩ := b
    obtain ⟨ks', e, g1, g2, g3, hK⟩ := hb
    injection e with e1 e2 e3 e4
    subst e4
    simp only [TreeAt]
    exact ⟨by rw [hc]; rfl, by rw [hc]; rfl, by rw [hc]; rfl, g1, g2, g3, B, d, by rw [hc]; rfl, hK.2.1, hK.2.2.1, hK.2.2.2⟩
/-- A node's box, written whole. -/
theorem set4 {w W : World} {b : Nat} {x0 x1 x2 x3 : Value} {T : TypeId} (v0 v1 v2 v3 : Value) (h : W.heap[b]? = some (.cells #[x0, x1, x2, x3] T (0, 0))) (hb : w.heap.size ≤ b) (hB : Below w.heap.size w W) :
    let W' := (((W.setCell ⟨b, 0, none⟩ v0).setCell ⟨b, 1, none⟩ v1).setCell ⟨b, 2, none⟩ v2).setCell ⟨b, 3, none⟩ v3
    (W'.cell? ⟨b, 0, none⟩ = some v0 ∧ W'.cell? ⟨b, 1, none⟩ = some v1 ∧ W'.cell? ⟨b, 2, none⟩ = some v2 ∧ W'.cell? ⟨b, 3, none⟩ = some v3) ∧ (∀ g, g ≠ b → W'.heap[g]? = W.heap[g]?) ∧ Below w.heap.size w W' := by
  intro W'
  refine ⟨cells4 (T := T) ?_, fun g hg => ?_, (((hB.setCell hb _).setCell hb _).setCell hb _).setCell hb _⟩
  · simp [W', World.setCell, Array.getElem?_modify, h]
  · simp only [W']
    rw [Below.heap_setCell _ _ _ _ (by exact hg), Below.heap_setCell _ _ _ _ (by exact hg), Below.heap_setCell _ _ _ _ (by exact hg), Below.heap_setCell _ _ _ _ (by exact hg)]
set_option maxHeartbeats 1000000 in
theorem p_of (kk : Int) (s : ByteArray) (A : Option Addr) (n c : Nat) (w : World) :
    Calls Tryz.prog 11 #[.int .u8 kk, .string s, .slice A n c] w (fun e w' => e = .returned (.agg #[.int .u8 kk, .string s, .int .i64 0, .slice A n c]) ∧ Below w.heap.size w w') := by
  go_enter Tryz.func11, Tryz.ntmps11
  go_wp2_with fail
  exact bodyPost_ret (v := .agg #[.int .u8 kk, .string s, .int .i64 0, .slice A n c]) (by simp [results, Tryz.results11, go_sem]) rfl ⟨rfl, (Below.refl _ _).alloc (Nat.le_refl _) _⟩
set_option maxHeartbeats 1000000 in
theorem p_num (x : Int) (w : World) (h0 : -9223372036854775808 ≤ x) (h1 : x ≤ 9223372036854775807) :
    Calls Tryz.prog 9 #[.int .i64 x] w (MakesPost (.node 20 [] x []) w) := by
  go_enter Tryz.func9, Tryz.ntmps9
  go_wp2_with fail
  refine bodyPost_ret (v := .agg #[.int .u8 20, .string (sb []), .int .i64 x, .slice none 0 0]) (by simp [results, Tryz.results9, go_sem, sb]) rfl ?_
  exact MakesPost.intro (k := 20) rfl (KidsAt.nil _ _ (Nat.zero_le _)) (by omega) (by simp) ⟨h0, h1⟩ ((Below.refl _ _).alloc (Nat.le_refl _) _)
set_option maxHeartbeats 1000000 in
theorem p_name8 (s : Bytes) (w : World) (hs : s.length ≤ maxLen) :
    Calls Tryz.prog 10 #[.string (sb s)] w (MakesPost (.node 22 s 0 []) w) := by
  have hb : Below w.heap.size w (w.alloc (.cells #[.int .u8 0, .string ⟨#[]⟩, .int .i64 0, .slice none 0 0] 25)) := (Below.refl _ _).alloc (Nat.le_refl _) _
  have HB := Lib.hid hb
  clear hb
  go_enter Tryz.func10, Tryz.ntmps10
  go_wp2_with fail
  refine (p_of 22 (sb s) none 0 0 _).mono ?_
  rintro e w1 ⟨rfl, hb1⟩
  have hx : w1.heap[w.heap.size]? = some (.cells #[.int .u8 0, .string ⟨#[]⟩, .int .i64 0, .slice none 0 0] 25 (0, 0)) := (hb1.block _ (by simp)).trans (heap_alloc_new _ _)
  obtain ⟨c0, c1, c2, c3⟩ := cells4 hx
  have f0 := Lib.frozen_of_heap hx 0
  have f1 := Lib.frozen_of_heap hx 1
  have f2 := Lib.frozen_of_heap hx 2
  have f3 := Lib.frozen_of_heap hx 3
  obtain ⟨⟨r0, r1, r2, r3⟩, _, hB4⟩ := set4 (w := w) (.int .u8 22) (.string (sb s)) (.int .i64 0) (.slice none 0 0) hx (Nat.le_refl _) (HB.out.trans (hb1.mono HB.out.size))
  have HB4 := Lib.hid hB4
  clear hx hb1 hB4
  go_wp2_with fail
  refine bodyPost_ret (v := .agg #[.int .u8 22, .string (sb s), .int .i64 0, .slice none 0 0]) (by simp [results, Tryz.results10, go_sem, r0, r1, r2, r3]) rfl ?_
  exact MakesPost.intro (k := 22) rfl (KidsAt.nil _ _ (Nat.zero_le _)) (by omega) hs ⟨by omega, by omega⟩ HB4.out
set_option maxHeartbeats 2000000 in
theorem p_op (s : Bytes) (a b : Tree) (A B : Option Addr) (c d : Nat) (w : World) (hs : s.length ≤ maxLen) (ha : NodeIs w a a.kind (sb a.text) a.num A a.kids.length c) (hb : NodeIs w b b.kind (sb b.text) b.num B b.kids.length d) :
    Calls Tryz.prog 8 #[.string (sb s), .agg #[.int .u8 a.kind, .string (sb a.text), .int .i64 a.num, .slice A a.kids.length c], .agg #[.int .u8 b.kind, .string (sb b.text), .int .i64 b.num, .slice B b.kids.length d]] w (MakesPost (.node 24 s 0 [a, b]) w) := by
  have hb3 : Below w.heap.size w (((w.alloc (.cells #[.int .u8 a.kind, .string (sb a.text), .int .i64 a.num, .slice A a.kids.length c] 25)).alloc (.cells #[.int .u8 b.kind, .string (sb b.text), .int .i64 b.num, .slice B b.kids.length d] 25)).alloc (.cells #[.int .u8 0, .string ⟨#[]⟩, .int .i64 0, .slice none 0 0] 25)) := (((Below.refl _ _).alloc (Nat.le_refl _) _).alloc (by simp) _).alloc (by simp; omega) _
  have hbb : Below w.heap.size w ((((w.alloc (.cells #[.int .u8 a.kind, .string (sb a.text), .int .i64 a.num, .slice A a.kids.length c] 25)).alloc (.cells #[.int .u8 b.kind, .string (sb b.text), .int .i64 b.num, .slice B b.kids.length d] 25)).alloc (.cells #[.int .u8 0, .string ⟨#[]⟩, .int .i64 0, .slice none 0 0] 25)).alloc (.cells #[.int .u8 a.kind, .string (sb a.text), .int .i64 a.num, .slice A a.kids.length c, .int .u8 b.kind, .string (sb b.text), .int .i64 b.num, .slice B b.kids.length d] 25)) := hb3.alloc (by simp; omega) _
  have h3 : ((((w.alloc (.cells #[.int .u8 a.kind, .string (sb a.text), .int .i64 a.num, .slice A a.kids.length c] 25)).alloc (.cells #[.int .u8 b.kind, .string (sb b.text), .int .i64 b.num, .slice B b.kids.length d] 25)).alloc (.cells #[.int .u8 0, .string ⟨#[]⟩, .int .i64 0, .slice none 0 0] 25)).alloc (.cells #[.int .u8 a.kind, .string (sb a.text), .int .i64 a.num, .slice A a.kids.length c, .int .u8 b.kind, .string (sb b.text), .int .i64 b.num, .slice B b.kids.length d] 25)).heap[w.heap.size + 1 + 1]? = some (.cells #[.int .u8 0, .string ⟨#[]⟩, .int .i64 0, .slice none 0 0] 25 (0, 0)) := (heap_alloc_old _ _ (by simp)).trans (heap_alloc_at (by simp))
  have h4 : ((((w.alloc (.cells #[.int .u8 a.kind, .string (sb a.text), .int .i64 a.num, .slice A a.kids.length c] 25)).alloc (.cells #[.int .u8 b.kind, .string (sb b.text), .int .i64 b.num, .slice B b.kids.length d] 25)).alloc (.cells #[.int .u8 0, .string ⟨#[]⟩, .int .i64 0, .slice none 0 0] 25)).alloc (.cells #[.int .u8 a.kind, .string (sb a.text), .int .i64 a.num, .slice A a.kids.length c, .int .u8 b.kind, .string (sb b.text), .int .i64 b.num, .slice B b.kids.length d] 25)).heap[w.heap.size + 1 + 1 + 1]? = some (.cells #[.int .u8 a.kind, .string (sb a.text), .int .i64 a.num, .slice A a.kids.length c, .int .u8 b.kind, .string (sb b.text), .int .i64 b.num, .slice B b.kids.length d] 25 (0, 0)) := heap_alloc_at (by simp)
  have HBB := Lib.hid hbb
  have HA := Lib.hid ha
  have HBn := Lib.hid hb
  have H3 := Lib.hid h3
  have H4 := Lib.hid h4
  clear hbb ha hb hb3 h3 h4
  go_enter Tryz.func8, Tryz.ntmps8
  go_wp2_with fail
  refine (p_of 24 (sb s) (some ⟨w.heap.size + 1 + 1 + 1, 0, none⟩) 2 2 _).mono ?_
  rintro e w1 ⟨rfl, hb1⟩
  have hx := (hb1.block (w.heap.size + 1 + 1) (by simp)).trans H3.out
  have hr := (hb1.block (w.heap.size + 1 + 1 + 1) (by simp)).trans H4.out
  obtain ⟨c0, c1, c2, c3⟩ := cells4 hx
  have f0 := Lib.frozen_of_heap hx 0
  have f1 := Lib.frozen_of_heap hx 1
  have f2 := Lib.frozen_of_heap hx 2
  have f3 := Lib.frozen_of_heap hx 3
  obtain ⟨⟨r0, r1, r2, r3⟩, hoth, hB4⟩ := set4 (w := w) (.int .u8 24) (.string (sb s)) (.int .i64 0) (.slice (some ⟨w.heap.size + 1 + 1 + 1, 0, none⟩) 2 2) hx (by omega) (HBB.out.trans (hb1.mono HBB.out.size))
  have HB4 := Lib.hid hB4
  have HR4 := Lib.hid ((hoth (w.heap.size + 1 + 1 + 1) (by omega)).trans hr)
  clear hx hb1 hB4 hr hoth
  go_wp2_with fail
  refine bodyPost_ret (v := .agg #[.int .u8 24, .string (sb s), .int .i64 0, .slice (some ⟨w.heap.size + 1 + 1 + 1, 0, none⟩) 2 2]) (by simp [results, Tryz.results8, go_sem, r0, r1, r2, r3]) rfl ?_
  exact MakesPost.intro (k := 24) rfl (kids2_at HR4.out (HA.out.below HB4.out) (HBn.out.below HB4.out)) (by omega) hs ⟨by omega, by omega⟩ HB4.out
/-- A file of a function f of a, with a Block of these. -/
def fileT (ks : List Tree) : Tree := .node 1 [] 0 [.node 2 [102] 0 [.node 3 [] 0 [.node 4 [97] 0 []], .node 5 [] 0 ks]]
theorem node_lit {W : World} {k : Nat} {s : Bytes} {x : Int} {ks : List Tree} {A : Option Addr} {n c : Nat} (hK : KidsAt W ks A n c) (hk : k ≤ 255) (hs : s.length ≤ maxLen) (hx : fitsI x) : NodeIs W (.node k s x ks) k (sb s) x A ks.length c := by
  obtain rfl := hK.1
  exact ⟨ks, rfl, hk, hs, hx, hK⟩
theorem keep_row {W W' : World} {g : Nat} {o : Obj} (h : W.heap[g]? = some o) (hb : Below W.heap.size W W') : W'.heap[g]? = some o := (hb.block g (Array.getElem?_eq_some_iff.1 h).1).trans h
theorem file_lit {W : World} {g1 g3 g4 : Nat} {ks : List Tree} {A : Option Addr} {n c : Nat} (q1 : W.heap[g1]? = some (.cells #[.int .u8 4, .string ⟨#[97]⟩, .int .i64 0, .slice none 0 0] 25 (0, 0)))
    (q2 : W.heap[g3]? = some (.cells #[.int .u8 3, .string ⟨#[]⟩, .int .i64 0, .slice (some ⟨g1, 0, none⟩) 1 1, .int .u8 5, .string ⟨#[]⟩, .int .i64 0, .slice A n c] 25 (0, 0)))
    (q3 : W.heap[g4]? = some (.cells #[.int .u8 2, .string ⟨#[102]⟩, .int .i64 0, .slice (some ⟨g3, 0, none⟩) 2 2] 25 (0, 0))) (hK : KidsAt W ks A n c) :
    KidsAt W [.node 2 [102] 0 [.node 3 [] 0 [.node 4 [97] 0 []], .node 5 [] 0 ks]] (some ⟨g4, 0, none⟩) 1 1 := by
  obtain rfl := hK.1
  have f0 : fitsI 0 := ⟨by omega, by omega⟩
  have n4 := node_lit (k := 4) (s := [97]) (x := 0) (KidsAt.nil W none (c := 0) (Nat.zero_le _)) (by omega) (by simp [maxLen]) f0
  have k3 := kids1_at (W := W) (g := g1) (a := .node 4 [97] 0 []) (A := none) (c := 0) q1 n4
  have n3 := node_lit (k := 3) (s := []) (x := 0) k3 (by omega) (by simp) f0
  have n5 := node_lit (k := 5) (s := []) (x := 0) hK (by omega) (by simp) f0
  have k2 := kids2_at (W := W) (g := g3) (a := .node 3 [] 0 [.node 4 [97] 0 []]) (b := .node 5 [] 0 ks) (A := some ⟨g1, 0, none⟩) (B := A) (c := 1) (d := c) q2 n3 n5
  have n2 := node_lit (k := 2) (s := [102]) (x := 0) k2 (by omega) (by simp [maxLen]) f0
  exact kids1_at (W := W) (g := g4) (a := .node 2 [102] 0 [.node 3 [] 0 [.node 4 [97] 0 []], .node 5 [] 0 ks]) (A := some ⟨g3, 0, none⟩) (c := 2) q3 n2
set_option maxHeartbeats 4000000 in
set_option maxRecDepth 20000 in
theorem p_mkfile (ks : List Tree) (A : Option Addr) (n c : Nat) (w : World) (hK : KidsAt w ks A n c) :
    Calls Tryz.prog 12 #[.slice A n c] w (MakesPost (fileT ks) w) := by
  have hb0 : Below w.heap.size w (w.alloc (.cells #[.int .u8 0, .string ⟨#[]⟩, .int .i64 0, .slice none 0 0] 25)) := (Below.refl _ _).alloc (Nat.le_refl _) _
  have HB0 := Lib.hid hb0
  have HX0 := Lib.hid (heap_alloc_new w (.cells #[.int .u8 0, .string ⟨#[]⟩, .int .i64 0, .slice none 0 0] 25))
  have HK := Lib.hid hK
  clear hb0 hK
  go_enter Tryz.func12, Tryz.ntmps12
  go_wp2_with fail
  refine (p_of 4 ⟨#[97]⟩ none 0 0 _).mono ?_
  rintro e w1 ⟨rfl, hb1⟩
  have HB1 := Lib.hid (HB0.out.trans (hb1.mono HB0.out.size))
  have HX1 := Lib.hid (keep_row HX0.out hb1)
  clear hb1
  go_wp2_with fail
  refine (p_of 3 ⟨#[]⟩ (some ⟨w1.heap.size, 0, none⟩) 1 1 _).mono ?_
  rintro e w2 ⟨rfl, hb2⟩
  have hba : Below w1.heap.size w1 w2 := ((Below.refl _ _).alloc (Nat.le_refl _) _).trans (hb2.mono (by simp))
  have HB2 := Lib.hid (HB1.out.trans (hba.mono HB1.out.size))
  have HX2 := Lib.hid (keep_row HX1.out hba)
  have HR2 := Lib.hid (keep_row (heap_alloc_new w1 _) hb2)
  have HL1 : Hid (w.heap.size < w1.heap.size) := by have := (Array.getElem?_eq_some_iff.1 HX1.out).1; exact this
  clear hb2 hba
  go_wp2_with fail
  refine (p_of 5 ⟨#[]⟩ A n c _).mono ?_
  rintro e w3 ⟨rfl, hb3⟩
  have HB3 := Lib.hid (HB2.out.trans (hb3.mono HB2.out.size))
  have HX3 := Lib.hid (keep_row HX2.out hb3)
  have HR3 := Lib.hid (keep_row HR2.out hb3)
  clear hb3
  go_wp2_with fail
  refine (p_of 2 ⟨#[102]⟩ (some ⟨w3.heap.size, 0, none⟩) 2 2 _).mono ?_
  rintro e w4 ⟨rfl, hb4⟩
  have hba : Below w3.heap.size w3 w4 := ((Below.refl _ _).alloc (Nat.le_refl _) _).trans (hb4.mono (by simp))
  have HB4 := Lib.hid (HB3.out.trans (hba.mono HB3.out.size))
  have HX4 := Lib.hid (keep_row HX3.out hba)
  have HR4 := Lib.hid (keep_row HR3.out hba)
  have HS4 := Lib.hid (keep_row (heap_alloc_new w3 _) hb4)
  have HL3 : Hid (w.heap.size < w3.heap.size) := by have := (Array.getElem?_eq_some_iff.1 HX3.out).1; exact this
  clear hb4 hba
  go_wp2_with fail
  refine (p_of 1 ⟨#[]⟩ (some ⟨w4.heap.size, 0, none⟩) 1 1 _).mono ?_
  rintro e w5 ⟨rfl, hb5⟩
  have hba : Below w4.heap.size w4 w5 := ((Below.refl _ _).alloc (Nat.le_refl _) _).trans (hb5.mono (by simp))
  have HB5 := Lib.hid (HB4.out.trans (hba.mono HB4.out.size))
  have hx := keep_row HX4.out hba
  have hr1 := keep_row HR4.out hba
  have hr2 := keep_row HS4.out hba
  have hr3 := keep_row (heap_alloc_new w4 _) hb5
  have hl4 : w.heap.size < w4.heap.size := (Array.getElem?_eq_some_iff.1 HX4.out).1
  obtain ⟨c0, c1, c2, c3⟩ := cells4 hx
  have f0 := Lib.frozen_of_heap hx 0
  have f1 := Lib.frozen_of_heap hx 1
  have f2 := Lib.frozen_of_heap hx 2
  have f3 := Lib.frozen_of_heap hx 3
  obtain ⟨⟨r0, r1, r2, r3⟩, hoth, hB6⟩ := set4 (w := w) (.int .u8 1) (.string ⟨#[]⟩) (.int .i64 0) (.slice (some ⟨w4.heap.size, 0, none⟩) 1 1) hx (Nat.le_refl _) HB5.out
  have HB6 := Lib.hid hB6
  have HQ1 := Lib.hid ((hoth w1.heap.size (by have := HL1.out; omega)).trans hr1)
  have HQ2 := Lib.hid ((hoth w3.heap.size (by have := HL3.out; omega)).trans hr2)
  have HQ3 := Lib.hid ((hoth w4.heap.size (by omega)).trans hr3)
  clear hx hb5 hba hB6 hr1 hr2 hr3 hoth hl4
  go_wp2_with fail
  refine bodyPost_ret (v := .agg #[.int .u8 1, .string ⟨#[]⟩, .int .i64 0, .slice (some ⟨w4.heap.size, 0, none⟩) 1 1]) (by simp [results, Tryz.results12, go_sem, r0, r1, r2, r3]) rfl ?_
  exact MakesPost.intro (k := 1) rfl (file_lit HQ1.out HQ2.out HQ3.out (HK.out.below HB6.out)) (by omega) (by simp) ⟨by omega, by omega⟩ HB6.out
end Go.Proofs.YtjdofndkdkeapaaGreatDoor
