/- The walks over the program's lexer (package lex), its small functions: each returns what the plain functions say. -/
import Derived.Test.YtjdofndkdkeapaaGreatDoorLexRefS
import Derived.Test.YtjdofndkdkeapaaGreatDoorMem
import Derived.Test.YtjdofndkdkeapaaGreatDoorShelf
import Derived.Lib.SmallJoins
import Derived.Deep.RegionHeld3
import Derived.Deep.QuietTactic
import Derived.BigQuiet
namespace Go.Proofs.YtjdofndkdkeapaaGreatDoor.Lx
open Go.RowKit

/-- What the library's functions want of the package-level variables. -/
structure Env (w : World) : Prop where
  tabS : Lib.TabIs Tryz.prog w "strings.asciiSpace" .u8 Lib.asciiSpaceTab
  tabP : Lib.TabIs Tryz.prog w "internal/strconv.uint64pow10" .u64 Lib.pow10Tab
  errS : ∃ tp p, w.var? Tryz.prog "strconv.ErrSyntax" = some #[.iface tp p]
  errR : ∃ tp p, w.var? Tryz.prog "strconv.ErrRange" = some #[.iface tp p]

theorem var_lt {P : Program} {w : World} {g : Nat} {n : String} {cs : Array Value} (hg : P.globalNamed n = some g) (h : w.var? P n = some cs) : g < w.heap.size := by
  unfold World.var? at h
  simp only [hg, Option.bind_some] at h
  rcases Nat.lt_or_ge g w.heap.size with hl | hl
  · exact hl
  · rw [Array.getElem?_eq_none hl] at h; simp at h
theorem var_at {P : Program} {w w' : World} {B g : Nat} {n : String} {cs : Array Value} (hg : P.globalNamed n = some g) (h : w.var? P n = some cs) (hb : Below B w w') (hB : w.heap.size ≤ B) : w'.var? P n = some cs :=
  var?_below hb hg (Nat.lt_of_lt_of_le (var_lt hg h) hB) h
/-- The variables stand in every later world. -/
theorem Env.below {w w' : World} {B : Nat} (h : Env w) (hb : Below B w w') (hB : w.heap.size ≤ B) : Env w' :=
  ⟨var_at (g := 0) (by kernel_rfl) h.tabS hb hB, var_at (g := 5) (by kernel_rfl) h.tabP hb hB,
   let ⟨tp, p, e⟩ := h.errS; ⟨tp, p, var_at (g := 3) (by kernel_rfl) e hb hB⟩,
   let ⟨tp, p, e⟩ := h.errR; ⟨tp, p, var_at (g := 4) (by kernel_rfl) e hb hB⟩⟩

theorem ascii_of {l : Bytes} (h : l.all (fun b => b.toNat < 128) = true) : ∀ (j : Nat) (b : UInt8), l[j]? = some b → b.toNat < 128 := by
  intro j b hj
  have := List.all_eq_true.1 h b (List.mem_of_getElem? hj)
  simpa using this
theorem row_of_fields {l : Bytes} {n : Nat} {ss : List Bytes} (hl : Lib.fields l = ss) (hn : ss.length = n) (w : World) :
    RowPost n ss w (.returned (.slice (some ⟨w.heap.size, 0, none⟩) (Lib.fields l).length (Lib.fields l).length)) (w.alloc (.cells ((Lib.fields l).map fun l => Value.string ⟨l.toArray⟩).toArray 9)) := by
  rw [hl]
  refine ⟨some ⟨w.heap.size, 0, none⟩, by rw [hn], StrRow.new ss hn, (Below.refl _ _).alloc (Nat.le_refl _) _, fun ad h => ?_, _, rfl⟩
  injection h with h; rw [← h]; exact Nat.le_refl _
theorem p_fields_words (w : World) (hE : Env w) : Calls Tryz.prog 35 #[.string ⟨#[102, 117, 110, 99, 32, 118, 97, 114, 32, 105, 102, 32, 101, 108, 115, 101, 32, 119, 104, 105, 108, 101, 32, 114, 101, 116, 117, 114, 110, 32, 112, 114, 105, 110, 116, 32, 116, 114, 117, 101, 32, 102, 97, 108, 115, 101, 32, 108, 101, 110, 32, 114, 101, 97, 100]⟩] w (RowPost 11 wordsL w) := by
  refine (Tryz.strings_Fields _ w (by decide) (ascii_of (by decide)) hE.tabS).mono ?_
  rintro e w1 ⟨rfl, rfl⟩
  exact row_of_fields (by decide +kernel) (by decide) w
theorem p_fields_signs (w : World) (hE : Env w) : Calls Tryz.prog 35 #[.string ⟨#[61, 61, 32, 33, 61, 32, 60, 61, 32, 62, 61, 32, 38, 38, 32, 124, 124, 32, 40, 32, 41, 32, 123, 32, 125, 32, 91, 32, 93, 32, 44, 32, 59, 32, 61, 32, 60, 32, 62, 32, 43, 32, 45, 32, 42, 32, 47, 32, 37, 32, 33]⟩] w (RowPost 23 signsL w) := by
  refine (Tryz.strings_Fields _ w (by decide) (ascii_of (by decide)) hE.tabS).mono ?_
  rintro e w1 ⟨rfl, rfl⟩
  exact row_of_fields (by decide +kernel) (by decide) w

set_option maxHeartbeats 400000 in
theorem p_words (w : World) (hE : Env w) : Calls Tryz.prog 32 #[] w (RowPost 11 wordsL w) := by
  have hT := Lib.hid hE
  clear hE
  go_enter Tryz.func32, Tryz.ntmps32
  go_wp2_with (go_at_call 35; refine (p_fields_words _ hT.out).mono ?_; rintro e w1 ⟨A1, rfl, hrow, hbel, hnew⟩)
  go_ret
  exact ⟨A1, rfl, hrow, hbel, hnew⟩

theorem letter_or_all : ∀ n : Fin 256, ((decide (97 ≤ bits BinOp.or IntKind.u8 (n.val : Int) 32) && decide (bits BinOp.or IntKind.u8 (n.val : Int) 32 ≤ 122)) || (n.val == 95)) =
    ((decide (97 ≤ n.val) && decide (n.val ≤ 122)) || (decide (65 ≤ n.val) && decide (n.val ≤ 90)) || n.val == 95) := by decide +kernel
theorem letter_or (c : UInt8) : ((decide (97 ≤ bits BinOp.or IntKind.u8 (c.toNat : Int) 32) && decide (bits BinOp.or IntKind.u8 (c.toNat : Int) 32 ≤ 122)) || (c.toNat == 95)) = letterB c :=
  letter_or_all ⟨c.toNat, c.toNat_lt⟩

set_option maxHeartbeats 400000 in
theorem p_letter (c : UInt8) (w : World) :
    Calls Tryz.prog 66 #[.int .u8 c.toNat] w fun e w' => e = .returned (.bool (letterB c)) ∧ w = w' := by
  have hl := Lib.hid (letter_or c)
  generalize hg : bits BinOp.or IntKind.u8 (c.toNat : Int) 32 = g at hl
  have HG := Lib.hid hg
  go_enter Tryz.func66, Tryz.ntmps66
  go_wp2
  all_goals
    go_ret
    refine ⟨ret_bool ?_, rfl⟩
    rw [← hl.out]
    simp
    omega

set_option maxHeartbeats 400000 in
theorem p_wordy (c : UInt8) (w : World) :
    Calls Tryz.prog 30 #[.int .u8 c.toNat] w fun e w' => e = .returned (.bool (wordyB c)) ∧ w = w' := by
  cases hl : letterB c with
  | true =>
    have HL := Lib.hid hl
    clear hl
    go_enter Tryz.func30, Tryz.ntmps30
    go_wp2_with (go_at_call 66; refine (p_letter _ _).mono ?_; rintro e w1 ⟨rfl, rfl⟩; rw [HL.out])
    go_ret
    exact ⟨ret_bool (by simp [wordyB, HL.out]), rfl⟩
  | false =>
    have HL := Lib.hid hl
    clear hl
    go_enter Tryz.func30, Tryz.ntmps30
    go_wp2_with (go_at_call 66; refine (p_letter _ _).mono ?_; rintro e w1 ⟨rfl, rfl⟩; rw [HL.out])
    all_goals
      go_ret
      exact ⟨ret_bool (by simp [wordyB, HL.out, digitB]; try omega), rfl⟩

set_option maxHeartbeats 400000 in
theorem p_line (c : UInt8) (w : World) :
    Calls Tryz.prog 29 #[.int .u8 c.toNat] w fun e w' => e = .returned (.bool (c.toNat != 10)) ∧ w = w' := by
  go_enter Tryz.func29, Tryz.ntmps29
  go_wp2
  all_goals
    go_ret
    exact ⟨ret_bool (by simp; try omega), rfl⟩

theorem index_blank_all : ∀ n : Fin 256, decide (0 ≤ Lib.indexByte [32, 9, 10, 13] (UInt8.ofNat n.val)) = (n.val == 32 || n.val == 9 || n.val == 10 || n.val == 13) := by decide +kernel
theorem index_blank (c : UInt8) : decide (0 ≤ Lib.indexByte [32, 9, 10, 13] c) = blankB c := by
  have := index_blank_all ⟨c.toNat, c.toNat_lt⟩
  simpa [blankB] using this
set_option maxHeartbeats 400000 in
theorem p_blank (c : UInt8) (w : World) :
    Calls Tryz.prog 25 #[.int .u8 c.toNat] w fun e w' => e = .returned (.bool (blankB c)) ∧ w = w' := by
  go_enter Tryz.func25, Tryz.ntmps25
  go_wp2_with (go_at_call 26; refine (Tryz.strings_IndexByte _ _ _).mono ?_; rintro e w1 ⟨rfl, rfl⟩)
  go_ret
  refine ⟨ret_bool ?_, rfl⟩
  rw [← index_blank c]
end Go.Proofs.YtjdofndkdkeapaaGreatDoor.Lx
