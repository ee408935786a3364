/- The walks over the lexer's text and sign. -/
import Derived.Test.YtjdofndkdkeapaaGreatDoorLexProg4
namespace Go.Proofs.YtjdofndkdkeapaaGreatDoor.Lx
open Go.RowKit

theorem LxS.below {B : Nat} {w w' : World} {b : Nat} {s : ByteArray} {k : Nat} {ts : List Tok} {v : Value} (h : LxS B w b s k ts v) (hb : Below w.heap.size w w') : LxS B w' b s k ts v :=
  ⟨h.lx.below hb h.lx.lt, own_below h.own hb (Nat.le_refl _), h.base⟩
theorem LxS.old {B : Nat} {w w' : World} {b : Nat} {s : ByteArray} {k : Nat} {ts : List Tok} {v : Value} (h : LxS B w b s k ts v) (hb : Below w.heap.size w w') : Below B w w' :=
  hb.mono (by have := h.base; have := h.lx.lt; omega)
theorem below_drewN (w : World) (n : Nat) : Below w.heap.size w (w.drewN n) := ⟨rfl, rfl, rfl, Nat.le_refl _, fun _ _ => rfl⟩

def StepPost (B b : Nat) (s : ByteArray) (ok : Bool) (er k : Nat) (ts : List Tok) (w : World) (e : Ending) (w' : World) : Prop :=
  e = .returned (.tuple #[.bool ok, .int .i64 er]) ∧ ∃ v', LxS B w' b s k ts v' ∧ Below B w w'

/-- What text says of the letters and digits that stand there. -/
def textK (t : Bytes) : Bool × Nat := if t = [] then (false, 0) else match kindOf t with
  | some _ => (true, 0)
  | none => (false, 101)
theorem takeWhile_all (p : UInt8 → Bool) (l : Bytes) : (l.takeWhile p).all p = true := by
  rw [List.all_eq_true]
  intro c hc
  induction l with
  | nil => simp at hc
  | cons a l ih =>
    simp only [List.takeWhile_cons] at hc
    split at hc
    · rename_i h
      rcases List.mem_cons.1 hc with rfl | h'
      · exact h
      · exact ih h'
    · simp at hc

section
variable (B : Nat) (s : ByteArray) (b k : Nat) (ts : List Tok) (v : Value) (w : World)

set_option maxHeartbeats 1000000 in
set_option maxRecDepth 20000 in
theorem p_text_nil (h : LxS B w b s k ts v) (hk : k ≤ s.size) (hs : s.size ≤ 1073741824) (ht : ((bl s).drop k).takeWhile wordyB = []) :
    Calls Tryz.prog 18 #[.pointer (some ⟨b, 0, none⟩)] w (DrawnPost (.tuple #[.bool false, .int .i64 0]) w) := by
  have HL := Lib.hid h
  have HT := Lib.hid ht
  clear h ht
  go_enter Tryz.func18, Tryz.ntmps18
  go_wp2_with fail
  refine (p_while _ wordyB enter_wordy (Lib.hid p_wordy) s b k v _ HL.out.lx hk (by omega)).mono ?_
  rintro e w1 ⟨rfl, n1, rfl⟩
  rw [HT.out]
  go_wp2
  go_ret2
  exact ⟨rfl, _, rfl⟩

set_option maxHeartbeats 1000000 in
set_option maxRecDepth 20000 in
theorem p_text (t : Bytes) (h : LxS B w b s k ts v) (hE : Env w) (hk : k ≤ s.size) (hs : s.size ≤ 1073741824) (hfew : ts.length ≤ 1073741824) (ht : ((bl s).drop k).takeWhile wordyB = t) (h0 : 0 < t.length) (hw : hasB wordsL t = true) :
    Calls Tryz.prog 18 #[.pointer (some ⟨b, 0, none⟩)] w (StepPost B b s true 0 (k + t.length) (ts ++ [⟨2, t, k⟩]) w) := by
  have HL := Lib.hid h
  have HT := Lib.hid ht
  have HE := Lib.hid hE
  have HW := Lib.hid hw
  have hle : t.length ≤ s.size := by have := takeWhile_le wordyB ((bl s).drop k); rw [ht, List.length_drop, bl_len] at this; omega
  have he : (t.isEmpty) = false := by cases t with | nil => simp at h0 | cons a l => rfl
  clear h ht hE hw
  go_enter Tryz.func18, Tryz.ntmps18
  go_wp2_with fail
  refine (p_while _ wordyB enter_wordy (Lib.hid p_wordy) s b k v _ HL.out.lx hk (by omega)).mono ?_
  rintro e w1 ⟨rfl, n1, rfl⟩
  rw [HT.out]
  go_wp2_with fail
  refine (p_words _ (HE.out.below (below_drewN w n1) (Nat.le_refl _))).mono ?_
  rintro e w2 ⟨A1, rfl, hrow, hb2, _, g1, rfl⟩
  go_wp2_with fail
  refine (p_contains _ _ _ _ _ _ hrow (by omega)).mono ?_
  rintro e w3 ⟨rfl, rfl⟩
  rw [HW.out]
  have hb1 : Below w.heap.size w w2 := (below_drewN w n1).trans hb2
  have HL2 := Lib.hid (HL.out.below hb1)
  clear hrow hb2
  go_wp2_with fail
  refine (p_put B s (sb t) b k 2 ts v _ HL2.out (by omega) (by show t.length ≤ _; omega) (by omega)).mono ?_
  rintro e w4 ⟨rfl, v', h1, h2⟩
  go_wp2
  go_ret2
  exact ⟨rfl, v', h1, (HL.out.old hb1).trans h2⟩

set_option maxHeartbeats 1000000 in
set_option maxRecDepth 20000 in
theorem p_text_name (t : Bytes) (h : LxS B w b s k ts v) (hE : Env w) (hk : k ≤ s.size) (hs : s.size ≤ 1073741824) (_hfew : ts.length ≤ 1073741824) (ht : ((bl s).drop k).takeWhile wordyB = t) (h0 : 0 < t.length) (hw : hasB wordsL t = false) (hnm : isName t = true) :
    Calls Tryz.prog 18 #[.pointer (some ⟨b, 0, none⟩)] w (StepPost B b s true 0 (k + t.length) (ts ++ [⟨1, t, k⟩]) w) := by
  have HL := Lib.hid h
  have HT := Lib.hid ht
  have HE := Lib.hid hE
  have HW := Lib.hid hw
  have HNM := Lib.hid hnm
  have hle : t.length ≤ s.size := by have := takeWhile_le wordyB ((bl s).drop k); rw [ht, List.length_drop, bl_len] at this; omega
  have he : (t.isEmpty) = false := by cases t with | nil => simp at h0 | cons a l => rfl
  clear h ht hE hw hnm
  go_enter Tryz.func18, Tryz.ntmps18
  go_wp2_with fail
  refine (p_while _ wordyB enter_wordy (Lib.hid p_wordy) s b k v _ HL.out.lx hk (by omega)).mono ?_
  rintro e w1 ⟨rfl, n1, rfl⟩
  rw [HT.out]
  go_wp2_with fail
  refine (p_words _ (HE.out.below (below_drewN w n1) (Nat.le_refl _))).mono ?_
  rintro e w2 ⟨A1, rfl, hrow, hb2, _, g1, rfl⟩
  go_wp2_with fail
  refine (p_contains _ _ _ _ _ _ hrow (by omega)).mono ?_
  rintro e w3 ⟨rfl, rfl⟩
  rw [HW.out]
  have hb1 : Below w.heap.size w w2 := (below_drewN w n1).trans hb2
  clear hrow hb2
  go_wp2_with fail
  refine (p_name (sb t) _ (HE.out.below hb1 (Nat.le_refl _)) (by show t.length ≤ _; omega)).mono ?_
  rintro e w4 ⟨rfl, hb3⟩
  rw [show isName (bl (sb t)) = true from HNM.out]
  have hb4 : Below w.heap.size w w4 := hb1.trans (hb3.mono hb1.size)
  clear hb3
  have HL2 := Lib.hid (HL.out.below hb4)
  go_wp2_with fail
  refine (p_put B s (sb t) b k 1 ts v _ HL2.out (by omega) (by show t.length ≤ _; omega) (by omega)).mono ?_
  rintro e w6 ⟨rfl, v', h1, h2⟩
  go_wp2
  go_ret2
  exact ⟨rfl, v', h1, (HL.out.old hb4).trans h2⟩

set_option maxHeartbeats 1000000 in
set_option maxRecDepth 20000 in
theorem p_text_int (t : Bytes) (h : LxS B w b s k ts v) (hE : Env w) (hk : k ≤ s.size) (hs : s.size ≤ 1073741824) (_hfew : ts.length ≤ 1073741824) (ht : ((bl s).drop k).takeWhile wordyB = t) (h0 : 0 < t.length) (hw : hasB wordsL t = false) (hnm : isName t = false) (hin : isInt t = true) :
    Calls Tryz.prog 18 #[.pointer (some ⟨b, 0, none⟩)] w (StepPost B b s true 0 (k + t.length) (ts ++ [⟨3, t, k⟩]) w) := by
  have HL := Lib.hid h
  have HT := Lib.hid ht
  have HE := Lib.hid hE
  have HW := Lib.hid hw
  have HNM := Lib.hid hnm
  have HIN : Hid (numberB t = isInt t) := number_is (by rw [← ht]; exact takeWhile_all _ _)
  have HI2 := Lib.hid hin
  have hle : t.length ≤ s.size := by have := takeWhile_le wordyB ((bl s).drop k); rw [ht, List.length_drop, bl_len] at this; omega
  have he : (t.isEmpty) = false := by cases t with | nil => simp at h0 | cons a l => rfl
  clear h ht hE hw hnm hin
  go_enter Tryz.func18, Tryz.ntmps18
  go_wp2_with fail
  refine (p_while _ wordyB enter_wordy (Lib.hid p_wordy) s b k v _ HL.out.lx hk (by omega)).mono ?_
  rintro e w1 ⟨rfl, n1, rfl⟩
  rw [HT.out]
  go_wp2_with fail
  refine (p_words _ (HE.out.below (below_drewN w n1) (Nat.le_refl _))).mono ?_
  rintro e w2 ⟨A1, rfl, hrow, hb2, _, g1, rfl⟩
  go_wp2_with fail
  refine (p_contains _ _ _ _ _ _ hrow (by omega)).mono ?_
  rintro e w3 ⟨rfl, rfl⟩
  rw [HW.out]
  have hb1 : Below w.heap.size w w2 := (below_drewN w n1).trans hb2
  clear hrow hb2
  go_wp2_with fail
  refine (p_name (sb t) _ (HE.out.below hb1 (Nat.le_refl _)) (by show t.length ≤ _; omega)).mono ?_
  rintro e w4 ⟨rfl, hb3⟩
  rw [show isName (bl (sb t)) = false from HNM.out]
  have hb4 : Below w.heap.size w w4 := hb1.trans (hb3.mono hb1.size)
  clear hb3
  go_wp2_with fail
  refine (p_number (sb t) _ (HE.out.below hb4 (Nat.le_refl _)) (by show t.length ≤ _; omega)).mono ?_
  rintro e w5 ⟨rfl, hb5⟩
  rw [show numberB (bl (sb t)) = true from HIN.out.trans HI2.out]
  have hb6 : Below w.heap.size w w5 := hb4.trans (hb5.mono hb4.size)
  clear hb5
  have HL2 := Lib.hid (HL.out.below hb6)
  go_wp2_with fail
  refine (p_put B s (sb t) b k 3 ts v _ HL2.out (by omega) (by show t.length ≤ _; omega) (by omega)).mono ?_
  rintro e w6 ⟨rfl, v', h1, h2⟩
  go_wp2
  go_ret2
  exact ⟨rfl, v', h1, (HL.out.old hb6).trans h2⟩

set_option maxHeartbeats 1000000 in
set_option maxRecDepth 20000 in
theorem p_text_bad (t : Bytes) (h : LxS B w b s k ts v) (hE : Env w) (hk : k ≤ s.size) (hs : s.size ≤ 1073741824) (_hfew : ts.length ≤ 1073741824) (ht : ((bl s).drop k).takeWhile wordyB = t) (h0 : 0 < t.length) (hw : hasB wordsL t = false) (hnm : isName t = false) (hin : isInt t = false) :
    Calls Tryz.prog 18 #[.pointer (some ⟨b, 0, none⟩)] w (StepPost B b s false 101 k ts w) := by
  have HL := Lib.hid h
  have HT := Lib.hid ht
  have HE := Lib.hid hE
  have HW := Lib.hid hw
  have HNM := Lib.hid hnm
  have HIN : Hid (numberB t = isInt t) := number_is (by rw [← ht]; exact takeWhile_all _ _)
  have HI2 := Lib.hid hin
  have hle : t.length ≤ s.size := by have := takeWhile_le wordyB ((bl s).drop k); rw [ht, List.length_drop, bl_len] at this; omega
  have he : (t.isEmpty) = false := by cases t with | nil => simp at h0 | cons a l => rfl
  clear h ht hE hw hnm hin
  go_enter Tryz.func18, Tryz.ntmps18
  go_wp2_with fail
  refine (p_while _ wordyB enter_wordy (Lib.hid p_wordy) s b k v _ HL.out.lx hk (by omega)).mono ?_
  rintro e w1 ⟨rfl, n1, rfl⟩
  rw [HT.out]
  go_wp2_with fail
  refine (p_words _ (HE.out.below (below_drewN w n1) (Nat.le_refl _))).mono ?_
  rintro e w2 ⟨A1, rfl, hrow, hb2, _, g1, rfl⟩
  go_wp2_with fail
  refine (p_contains _ _ _ _ _ _ hrow (by omega)).mono ?_
  rintro e w3 ⟨rfl, rfl⟩
  rw [HW.out]
  have hb1 : Below w.heap.size w w2 := (below_drewN w n1).trans hb2
  clear hrow hb2
  go_wp2_with fail
  refine (p_name (sb t) _ (HE.out.below hb1 (Nat.le_refl _)) (by show t.length ≤ _; omega)).mono ?_
  rintro e w4 ⟨rfl, hb3⟩
  rw [show isName (bl (sb t)) = false from HNM.out]
  have hb4 : Below w.heap.size w w4 := hb1.trans (hb3.mono hb1.size)
  clear hb3
  go_wp2_with fail
  refine (p_number (sb t) _ (HE.out.below hb4 (Nat.le_refl _)) (by show t.length ≤ _; omega)).mono ?_
  rintro e w5 ⟨rfl, hb5⟩
  rw [show numberB (bl (sb t)) = false from HIN.out.trans HI2.out]
  have hb6 : Below w.heap.size w w5 := hb4.trans (hb5.mono hb4.size)
  clear hb5
  go_wp2
  go_ret2
  exact ⟨rfl, v, HL.out.below hb6, HL.out.old hb6⟩

def SignPost (B b : Nat) (s : ByteArray) (k : Nat) (ts : List Tok) (w : World) (o : Option Bytes) (e : Ending) (w' : World) : Prop := match o with
  | some t => StepPost B b s true 0 (k + t.length) (ts ++ [⟨4, t, k⟩]) w e w'
  | none => StepPost B b s false 100 k ts w e w'

set_option maxHeartbeats 1000000 in
set_option maxRecDepth 20000 in
/-- The longest sign that stands there, or none. -/
theorem p_sign (h : LxS B w b s k ts v) (hE : Env w) (hk : k ≤ s.size) (hs : s.size ≤ 1073741824) (hfew : ts.length ≤ 1073741824) :
    Calls Tryz.prog 19 #[.pointer (some ⟨b, 0, none⟩)] w (SignPost B b s k ts w (signAt ((bl s).drop k))) := by
  have HL := Lib.hid h
  have HE := Lib.hid hE
  clear h hE
  go_enter Tryz.func19, Tryz.ntmps19
  go_wp2_with fail
  refine (p_fields_signs _ HE.out).mono ?_
  rintro e w2 ⟨A1, rfl, hrow, hb2, _, g1, rfl⟩
  have HR := Lib.hid hrow
  have HB := Lib.hid hb2
  clear hrow hb2
  go_wp2
  go_loopw [8] (fun i wx => ∃ j : Nat, j ≤ 23 ∧ i = .int .i64 j ∧ Hid (Below w.heap.size w wx) ∧ Hid (StrRow wx (some ⟨g1, 0, none⟩) 23 signsL) ∧ Hid (NoSign ((bl s).drop k) j)) (fun i _ => 23 - (intOf i).toNat)
  case atStart => exact ⟨0, by omega, rfl, HB, HR, fun i v h => by omega⟩
  case round =>
    clear HR HB
    obtain ⟨j, hj, rfl, HB, HR, HN⟩ := hrel
    by_cases hj23 : j < 23
    · obtain ⟨ad, u, had, _, hu, hcu⟩ := HR.out.at_ hj23
      injection had with had
      subst had
      rw [add_mid] at hcu
      have hul : u.length ≤ 2 := signs_short u (List.mem_of_getElem? hu)
      have hcu' : wr.cell? ⟨g1, j, none⟩ = some (.string (sb u)) := by simpa using hcu
      have HU := Lib.hid hu
      clear hu hcu
      have HT : Hid (bl (s.extract k s.size) = (bl s).drop k) := Lib.extract_to_end s k
      cases hp : u.isPrefixOf ((bl s).drop k) with
      | true =>
        have HF : Hid (signAt ((bl s).drop k) = some u) := HN.out.found HU.out hp
        have HP : Hid (Lib.hasPrefix (bl (s.extract k s.size)) (bl (sb u)) = true) := by show Lib.hasPrefix (bl (s.extract k s.size)) u = true; rw [HT.out]; exact hp
        clear hp
        go_wp2_with fail
        refine (p_left s b k v _ (HL.out.below HB.out).lx hk (by omega)).mono ?_
        rintro e w3 ⟨rfl, n3, rfl⟩
        go_wp2_with fail
        refine (Tryz.strings_HasPrefix _ _ _).mono ?_
        rintro e w4 ⟨rfl, rfl⟩
        rw [HP.out]
        have HB2 : Hid (Below w.heap.size w (wr.drewN n3)) := HB.out.trans ((below_drewN wr n3).mono HB.out.size)
        go_wp2_with fail
        refine (p_put B s (sb u) b k 4 ts v _ (HL.out.below HB2.out) (by omega) (by show u.length ≤ _; omega) (by omega)).mono ?_
        rintro e w5 ⟨rfl, v', h1, h2⟩
        go_wp2
        go_ret2
        rw [HF.out]
        exact ⟨rfl, v', h1, (HL.out.old HB2.out).trans h2⟩
      | false =>
        have HN2 := Lib.hid (HN.out.step HU.out hp)
        have HP : Hid (Lib.hasPrefix (bl (s.extract k s.size)) (bl (sb u)) = false) := by show Lib.hasPrefix (bl (s.extract k s.size)) u = false; rw [HT.out]; exact hp
        clear hp
        go_wp2_with fail
        refine (p_left s b k v _ (HL.out.below HB.out).lx hk (by omega)).mono ?_
        rintro e w3 ⟨rfl, n3, rfl⟩
        go_wp2_with fail
        refine (Tryz.strings_HasPrefix _ _ _).mono ?_
        rintro e w4 ⟨rfl, rfl⟩
        rw [HP.out]
        go_wp2
        go_roundw
        case rel => exact ⟨j + 1, by omega, by go_num, HB.out.trans ((below_drewN wr n3).mono HB.out.size), HR.out, HN2⟩
        case measure => simp [intOf]; omega
    · have HA : Hid (signAt ((bl s).drop k) = none) := HN.out.all (by omega)
      go_wp2
      go_ret2
      rw [HA.out]
      exact ⟨rfl, v, HL.out.below HB.out, HL.out.old HB.out⟩
end
end Go.Proofs.YtjdofndkdkeapaaGreatDoor.Lx
