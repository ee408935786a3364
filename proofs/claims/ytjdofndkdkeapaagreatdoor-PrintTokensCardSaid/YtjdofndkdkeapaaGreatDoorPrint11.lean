/- The walks over printed, File and Marks. -/
import Derived.Test.YtjdofndkdkeapaaGreatDoorPrint10
import Derived.Test.YtjdofndkdkeapaaGreatDoorTreeC
namespace Go.Proofs.YtjdofndkdkeapaaGreatDoor
open Go.RowKit
set_option linter.unusedSimpArgs false
set_option linter.unusedVariables false

/-- What printed leaves of a file. -/
def PrintedPost (t : Tree) (w : World) (e : Ending) (w' : World) : Prop := ∃ B b nm m, e = .returned (.pointer (some ⟨b, 0, none⟩)) ∧ w.heap.size ≤ B ∧ Prt w' B b (printT 0 t) nm [] 0 m ∧ 1 ≤ nm ∧ nm ≤ t.sz ∧ Below w.heap.size w w'
/-- A file's tree that the walk can print. -/
structure CanPrint (t : Tree) : Prop where
  nums : t.nums
  sz : t.sz ≤ 1000000
  len : (printT 0 t).length ≤ 140737488355328
theorem prt_new {w : World} {m : Nat} (hm : MapIs w m waysL) : PrtSt (w.alloc (.cells #[.pointer none, .slice none 0 0, .slice none 0 0, .slice none 0 0, .int .i64 0, .map (some m)] 55)) w.heap.size w.heap.size (.pointer none) (.slice none 0 0) (.slice none 0 0) (.slice none 0 0) [] 0 [] 0 m := by
  refine ⟨Nat.le_refl _, ?_, .inl rfl, World.ownsRow_nil _ _ _ _, ⟨[], World.ownsRow_nil _ _ _ _⟩, World.ownsRow_nil _ _ _ _, hm.below ((Below.refl _ _).alloc (Nat.le_refl _) _)⟩
  unfold PBox
  exact heap_alloc_new w _
set_option maxHeartbeats 4000000 in
set_option maxRecDepth 100000 in
theorem p_printed_no (t : Tree) (A : Option Addr) (c : Nat) (w : World) (hN : NodeIs w t t.kind (sb t.text) t.num A t.kids.length c) (hsh : t.short 9223372036854775806) (hE : EnvS w) (h : t.kind ≠ 1 ∨ treeRight t = false) :
    Calls Tryz.prog 14 #[.agg #[.int .u8 t.kind, .string (sb t.text), .int .i64 t.num, .slice A t.kids.length c]] w (fun e w' => e = .returned (.pointer none) ∧ Below w.heap.size w w') := by
  have hb : Below w.heap.size w (w.alloc (.cells #[.int .u8 t.kind, .string (sb t.text), .int .i64 t.num, .slice A t.kids.length c] 25)) := (Below.refl _ _).alloc (Nat.le_refl _) _
  have HB := Lib.hid hb
  have HN := Lib.hid (hN.below hb)
  have HE := Lib.hid (hE.below hb (Nat.le_refl _))
  by_cases hk : t.kind = 1
  · have hr : treeRight t = false := by rcases h with h | h; exact absurd hk h; exact h
    have hkk : ((t.kind : Int) != 1) = false := by rw [hk]; rfl
    have HR := Lib.hid hr
    clear hb hN hE h hk hr
    go_enter Tryz.func14, Tryz.ntmps14
    go_wp2_with fail
    refine (p_right t t.kind (sb t.text) t.num A t.kids.length c _ HN.out hsh HE.out).mono ?_
    rintro e w1 ⟨rfl, hb1⟩
    rw [HR.out]
    have HB1 : Hid (Below w.heap.size w w1) := HB.out.trans (hb1.mono HB.out.size)
    clear hb1
    go_wp2_with fail
    go_ret
    exact ⟨rfl, HB1.out⟩
  · have hkk : ((t.kind : Int) != 1) = true := by simp; omega
    clear hb hN hE h hk
    go_enter Tryz.func14, Tryz.ntmps14
    go_wp2_with fail
    go_ret
    exact ⟨rfl, HB.out⟩
set_option maxHeartbeats 4000000 in
set_option maxRecDepth 100000 in
theorem p_printed (t : Tree) (A : Option Addr) (c : Nat) (w : World) (hN : NodeIs w t t.kind (sb t.text) t.num A t.kids.length c) (hsh : t.short 9223372036854775806) (hE : EnvS w) (hT : TabP w) (hk : t.kind = 1) (hr : treeRight t = true) (hC : CanPrint t) :
    Calls Tryz.prog 14 #[.agg #[.int .u8 t.kind, .string (sb t.text), .int .i64 t.num, .slice A t.kids.length c]] w (PrintedPost t w) := by
  have hb : Below w.heap.size w (w.alloc (.cells #[.int .u8 t.kind, .string (sb t.text), .int .i64 t.num, .slice A t.kids.length c] 25)) := (Below.refl _ _).alloc (Nat.le_refl _) _
  have HB := Lib.hid hb
  have HN := Lib.hid (hN.below hb)
  have HE := Lib.hid (hE.below hb (Nat.le_refl _))
  have HT := Lib.hid (hT.below hb (Nat.le_refl _))
  have hkk : ((t.kind : Int) != 1) = false := by rw [hk]; rfl
  have HR := Lib.hid hr
  have HCP := Lib.hid hC
  have hbox := cells4 (heap_alloc_new w (.cells #[.int .u8 t.kind, .string (sb t.text), .int .i64 t.num, .slice A t.kids.length c] 25))
  have HBX := Lib.hid hbox
  clear hb hN hE hk hr hT hC hbox
  go_enter Tryz.func14, Tryz.ntmps14
  go_wp2_with fail
  refine (p_right t t.kind (sb t.text) t.num A t.kids.length c _ HN.out hsh HE.out).mono ?_
  rintro e w1 ⟨rfl, hb1⟩
  rw [HR.out]
  have HB1 := Lib.hid hb1
  clear hb1
  go_wp2_with fail
  refine (p_ways _).mono ?_
  rintro e w2 ⟨rfl, hm, hb2⟩
  have HB2 : Hid (Below (w.alloc (.cells #[.int .u8 t.kind, .string (sb t.text), .int .i64 t.num, .slice A t.kids.length c] 25)).heap.size (w.alloc (.cells #[.int .u8 t.kind, .string (sb t.text), .int .i64 t.num, .slice A t.kids.length c] 25)) w2) := HB1.out.trans (hb2.mono HB1.out.size)
  have hP := prt_new hm
  have HM := Lib.hid hm
  obtain ⟨m, hmd⟩ : ∃ m, m = w1.heap.size := ⟨_, rfl⟩
  rw [← hmd] at hP ⊢
  have hst : St w2 (w2.alloc (.cells #[.pointer none, .slice none 0 0, .slice none 0 0, .slice none 0 0, .int .i64 0, .map (some m)] 55)) (w2.alloc (.cells #[.pointer none, .slice none 0 0, .slice none 0 0, .slice none 0 0, .int .i64 0, .map (some m)] 55)) w2.heap.size 0 t.sz [] 0 m [] (printT 0 t ++ []) (t.sz + 0) :=
    ⟨(Below.refl _ _).alloc (Nat.le_refl _) _, ⟨0, Nat.le_refl _, by omega, _, _, _, _, hP⟩, by have := HCP.out.len; simp; omega, HCP.out.sz, Fr.refl _ _ _ _⟩
  have HST := Lib.hid hst
  have HN2 := Lib.hid (HN.out.below HB2.out)
  have HC2 : Hid (NodeC w2 w2.heap.size m 0 t) := prt_nodes_all (HT.out.below HB2.out (Nat.le_refl _)) t.sz t (Nat.le_refl _) 1 0 HR.out HCP.out.nums (by omega)
  obtain ⟨x0, x1, x2, x3⟩ := HBX.out
  have y0 := ((HB2.out.cell (p := ⟨w.heap.size, 0, none⟩) (by simp)).trans x0)
  have y1 := ((HB2.out.cell (p := ⟨w.heap.size, 1, none⟩) (by simp)).trans x1)
  have y2 := ((HB2.out.cell (p := ⟨w.heap.size, 2, none⟩) (by simp)).trans x2)
  have y3 := ((HB2.out.cell (p := ⟨w.heap.size, 3, none⟩) (by simp)).trans x3)
  have hsz2 : w.heap.size < w2.heap.size := by have := HB2.out.size; simp at this; omega
  clear hm hb2 hP hst x0 x1 x2 x3 hmd
  have HBS : Hid (Below w.heap.size w w2) := HB.out.trans (HB2.out.mono HB.out.size)
  go_wp2_with fail
  have T := HC2.out A c _ _ 0 t.sz [] [] [] 0 HN2.out (by simp) HST.out
  refine T.mono ?_
  clear T
  rintro e w3 ⟨rfl, h3⟩
  have H3 := Lib.hid h3
  clear h3
  go_wp2_with fail
  go_ret
  obtain ⟨nm, q1, q2, hp⟩ := H3.out.prt
  exact ⟨_, _, nm, m, rfl, HBS.out.size, hp, q1, by omega, HBS.out.trans (H3.out.below.mono HBS.out.size)⟩
/-- What File tells of a tree. -/
def FilePost (t : Tree) (w : World) (e : Ending) (w' : World) : Prop := Below w.heap.size w w' ∧ if t.kind = 1 ∧ treeRight t = true then e = .returned (.tuple #[.string (sb (printT 0 t)), .int .i64 0]) else e = .returned (.tuple #[.string ⟨#[]⟩, .int .i64 4])
theorem FilePost.yes {t : Tree} {w w' : World} (h : t.kind = 1 ∧ treeRight t = true) (hb : Below w.heap.size w w') : FilePost t w (.returned (.tuple #[.string (sb (printT 0 t)), .int .i64 0])) w' := ⟨hb, by rw [if_pos h]⟩
theorem FilePost.no {t : Tree} {w w' : World} (h : ¬ (t.kind = 1 ∧ treeRight t = true)) (hb : Below w.heap.size w w') : FilePost t w (.returned (.tuple #[.string ⟨#[]⟩, .int .i64 4])) w' := ⟨hb, by rw [if_neg h]⟩
/-- What Marks tells of a tree. -/
def MarksPost (t : Tree) (w : World) (e : Ending) (w' : World) : Prop := Below w.heap.size w w' ∧ ∃ A n c, e = .returned (.tuple #[.slice A n c, .int .i64 0]) ∧ 1 ≤ n ∧ n ≤ t.sz
set_option maxHeartbeats 4000000 in
set_option maxRecDepth 100000 in
theorem p_file (t : Tree) (A : Option Addr) (c : Nat) (w : World) (hN : NodeIs w t t.kind (sb t.text) t.num A t.kids.length c) (hsh : t.short 9223372036854775806) (hE : EnvS w) (hT : TabP w) (hC : t.kind = 1 ∧ treeRight t = true → CanPrint t) :
    Calls Tryz.prog 6 #[.agg #[.int .u8 t.kind, .string (sb t.text), .int .i64 t.num, .slice A t.kids.length c]] w (FilePost t w) := by
  have hb : Below w.heap.size w (w.alloc (.cells #[.int .u8 t.kind, .string (sb t.text), .int .i64 t.num, .slice A t.kids.length c] 25)) := (Below.refl _ _).alloc (Nat.le_refl _) _
  have HB := Lib.hid hb
  have HN := Lib.hid (hN.below hb)
  have HE := Lib.hid (hE.below hb (Nat.le_refl _))
  have HT := Lib.hid (hT.below hb (Nat.le_refl _))
  by_cases hr : t.kind = 1 ∧ treeRight t = true
  · have HR := Lib.hid hr
    have HCP := Lib.hid (hC hr)
    clear hb hN hE hT hC hr
    go_enter Tryz.func6, Tryz.ntmps6
    go_wp2_with fail
    refine (p_printed t A c _ HN.out hsh HE.out HT.out HR.out.1 HR.out.2 HCP.out).mono ?_
    rintro e w1 ⟨B, b, nm, m, rfl, hB, hp, _, _, hb1⟩
    have HB1 : Hid (Below w.heap.size w w1) := HB.out.trans (hb1.mono HB.out.size)
    have HP := Lib.hid hp
    have hBw : w.heap.size ≤ B := Nat.le_trans HB.out.size hB
    clear hb1 hp hB
    go_wp2_with fail
    refine (p_string HP.out).mono ?_
    rintro e w2 ⟨rfl, hb2⟩
    have HB2 : Hid (Below w.heap.size w w2) := HB1.out.trans (hb2.mono hBw)
    clear hb2
    go_wp2_with fail
    go_ret2
    exact FilePost.yes HR.out HB2.out
  · have HR := Lib.hid hr
    have hno : t.kind ≠ 1 ∨ treeRight t = false := by
      by_cases h1 : t.kind = 1
      · right
        cases h2 : treeRight t with
        | false => rfl
        | true => exact absurd ⟨h1, h2⟩ hr
      · exact .inl h1
    have HNO := Lib.hid hno
    clear hb hN hE hT hC hr hno
    go_enter Tryz.func6, Tryz.ntmps6
    go_wp2_with fail
    refine (p_printed_no t A c _ HN.out hsh HE.out HNO.out).mono ?_
    rintro e w1 ⟨rfl, hb1⟩
    have HB1 : Hid (Below w.heap.size w w1) := HB.out.trans (hb1.mono HB.out.size)
    clear hb1
    go_wp2_with fail
    go_ret2
    exact FilePost.no HR.out HB1.out
set_option maxHeartbeats 4000000 in
set_option maxRecDepth 100000 in
theorem p_marks (t : Tree) (A : Option Addr) (c : Nat) (w : World) (hN : NodeIs w t t.kind (sb t.text) t.num A t.kids.length c) (hsh : t.short 9223372036854775806) (hE : EnvS w) (hT : TabP w) (hk : t.kind = 1) (hr : treeRight t = true) (hC : CanPrint t) :
    Calls Tryz.prog 13 #[.agg #[.int .u8 t.kind, .string (sb t.text), .int .i64 t.num, .slice A t.kids.length c]] w (MarksPost t w) := by
  have hb : Below w.heap.size w (w.alloc (.cells #[.int .u8 t.kind, .string (sb t.text), .int .i64 t.num, .slice A t.kids.length c] 25)) := (Below.refl _ _).alloc (Nat.le_refl _) _
  have HB := Lib.hid hb
  have HN := Lib.hid (hN.below hb)
  have HE := Lib.hid (hE.below hb (Nat.le_refl _))
  have HT := Lib.hid (hT.below hb (Nat.le_refl _))
  have HCP := Lib.hid hC
  have HR := Lib.hid (And.intro hk hr)
  clear hb hN hE hT hC hk hr
  go_enter Tryz.func13, Tryz.ntmps13
  go_wp2_with fail
  refine (p_printed t A c _ HN.out hsh HE.out HT.out HR.out.1 HR.out.2 HCP.out).mono ?_
  rintro e w1 ⟨B, b, nm, m, rfl, hB, hp, q1, q2, hb1⟩
  have HB1 : Hid (Below w.heap.size w w1) := HB.out.trans (hb1.mono HB.out.size)
  obtain ⟨u, bv, mv, pv, hP⟩ := hp
  obtain ⟨ms, hms⟩ := hP.marks
  obtain ⟨mA, mc, rfl, _⟩ := own_form hms
  have c2 := hP.box.cells.2.2.1
  clear hb1 hP hms
  go_wp2_with fail
  go_ret2
  exact ⟨HB1.out, mA, nm, mc, rfl, q1, q2⟩
end Go.Proofs.YtjdofndkdkeapaaGreatDoor
