/- The walks over the reference's small functions (chapter 5): each returns what the plain functions say. -/
import Derived.Test.YtnchfjhnacidlaaDoorLexBase
import Derived.Test.YtnchfjhnacidlaaDoorRows
import Derived.WalkKit
import Derived.WalkSpells
import Derived.WalkLawsBesides
namespace Go.Proofs.YtnchfjhnacidlaaDoor
open Go.RowKit

set_option maxHeartbeats 400000 in
theorem r_blank (c : UInt8) (w : World) :
    Calls Tryd.prog 22 #[.int .u8 c.toNat] w fun e w' => e = .returned (.bool (blankB c)) ∧ w = w' := by
  go_enter Tryd.func22, Tryd.ntmps22
  go_wp2
  all_goals
    go_ret
    exact ⟨ret_bool (by simp [blankB]; try omega), rfl⟩

set_option maxHeartbeats 400000 in
theorem r_letter (c : UInt8) (w : World) :
    Calls Tryd.prog 24 #[.int .u8 c.toNat] w fun e w' => e = .returned (.bool (letterB c)) ∧ w = w' := by
  go_enter Tryd.func24, Tryd.ntmps24
  go_wp2
  all_goals
    go_ret
    exact ⟨ret_bool (by simp [letterB]; try omega), rfl⟩

set_option maxHeartbeats 400000 in
theorem r_digit (c : UInt8) (w : World) :
    Calls Tryd.prog 25 #[.int .u8 c.toNat] w fun e w' => e = .returned (.bool (digitB c)) ∧ w = w' := by
  go_enter Tryd.func25, Tryd.ntmps25
  go_wp2
  all_goals
    go_ret
    exact ⟨ret_bool (by simp [digitB]; try omega), rfl⟩

set_option maxHeartbeats 400000 in
theorem r_begins (s p : ByteArray) (k : Nat) (w : World) (hk : k ≤ s.size) (hs : s.size ≤ 9223372036854775807) (hp : p.size ≤ 9223372036854775807) :
    Calls Tryd.prog 23 #[.string s, .int .i64 k, .string p] w fun e w' => e = .returned (.bool ((bl p).isPrefixOf ((bl s).drop k))) ∧ w = w' := by
  by_cases h : p.size ≤ s.size - k
  · have h' : k + p.size ≤ s.size := by omega
    clear h
    go_enter Tryd.func23, Tryd.ntmps23
    go_wp2
    go_ret
    refine ⟨ret_bool ?_, rfl⟩
    show ((s.extract k (k + p.size)).toList == p.toList) = true ↔ _
    rw [prefix_take, Lib.extract_toList, toList_bl, Nat.add_sub_cancel_left, bl_len]
  · go_enter Tryd.func23, Tryd.ntmps23
    go_wp2
    go_ret
    refine ⟨ret_bool ?_, rfl⟩
    simp [prefix_take]
    intro e
    have := congrArg List.length e
    simp at this
    omega

/-- A slice of strings, as a list. -/
def StrRow (w : World) (A : Option Addr) (n : Nat) (ss : List Bytes) : Prop :=
  ss.length = n ∧ (0 < n → ∃ ad, A = some ad ∧ ad.block < w.heap.size ∧ ∀ j u, ss[j]? = some u → w.cell? (ad.add j) = some (.string (sb u)))

theorem StrRow.at_ {w : World} {A : Option Addr} {n : Nat} {ss : List Bytes} (h : StrRow w A n ss) {k : Nat} (hk : k < n) :
    ∃ ad u, A = some ad ∧ ad.block < w.heap.size ∧ ss[k]? = some u ∧ w.cell? (ad.add k) = some (.string (sb u)) := by
  obtain ⟨hl, h⟩ := h
  obtain ⟨ad, e, hb, hc⟩ := h (by omega)
  exact ⟨ad, ss[k]'(by omega), e, hb, List.getElem?_eq_getElem (by omega), hc k _ (List.getElem?_eq_getElem (by omega))⟩

def hasB (l : List Bytes) (x : Bytes) : Bool := l.contains x
theorem hasB_mem {l : List Bytes} {x : Bytes} {k : Nat} (h : l[k]? = some x) : hasB l x = true := by
  unfold hasB; simp; exact List.mem_of_getElem? h
theorem block_add (a : Addr) (n : Nat) : (a.add n).block = a.block := by unfold Addr.add; split <;> rfl
theorem StrRow.set_ {w : World} {A : Option Addr} {n : Nat} {ss : List Bytes} (h : StrRow w A n ss) {p : Addr} (hp : ∀ ad, A = some ad → ad.block ≠ p.block) (u : Value) : StrRow (w.setCell p u) A n ss := by
  refine ⟨h.1, fun hn => ?_⟩
  obtain ⟨ad, e, hb, hc⟩ := h.2 hn
  refine ⟨ad, e, by simpa using hb, fun j v hv => ?_⟩
  rw [World.cell?_setCell_other w p _ u (fun e' => hp ad e (by rw [← block_add ad j, e']))]
  exact hc j v hv
theorem contains_step {ss : List Bytes} {x u : Bytes} {k : Nat} (hu : ss[k]? = some u) : hasB (ss.take (k + 1)) x = (hasB (ss.take k) x || u == x) := by
  have hk : k < ss.length := (List.getElem?_eq_some_iff.1 hu).1
  have : ss.take (k + 1) = ss.take k ++ [u] := by
    rw [List.take_succ_eq_append_getElem hk]
    rw [List.getElem?_eq_getElem hk] at hu
    injection hu with hu
    rw [hu]
  rw [this]
  unfold hasB
  rw [Bool.eq_iff_iff]
  simp only [List.contains_iff_mem, List.mem_append, List.mem_singleton, Bool.or_eq_true, beq_iff_eq]
  exact ⟨fun h => h.imp id Eq.symm, fun h => h.imp id Eq.symm⟩

set_option maxHeartbeats 400000 in
theorem r_one (s : ByteArray) (A : Option Addr) (n c : Nat) (ss : List Bytes) (w : World) (h : StrRow w A n ss) (hn : n ≤ 9223372036854775806) :
    Calls Tryd.prog 27 #[.string s, .slice A n c] w fun e w' => e = .returned (.bool (hasB ss (bl s))) ∧ w = w' := by
  have hlen := Lib.hid h.1
  go_enter Tryd.func27, Tryd.ntmps27
  go_wp2
  go_loop [5] (fun i => ∃ k : Nat, k ≤ n ∧ i = .int .i64 k ∧ Hid (hasB (ss.take k) (bl s) = false)) (fun i => n - (intOf i).toNat)
  case atStart => exact ⟨0, Nat.zero_le _, rfl, by show _ = _; simp [hasB]⟩
  case round =>
    obtain ⟨k, hk, rfl, HB⟩ := hrel
    by_cases hlt : k < n
    · obtain ⟨ad, u, rfl, hbl, hu, hc⟩ := h.at_ hlt
      have HU := Lib.hid hu
      have HS := Lib.hid (contains_step (x := bl s) hu)
      clear hu
      by_cases heq : u = bl s
      · have HQ := Lib.hid heq
        have ht : (u == s.toList) = true := by simp [toList_bl, heq]
        clear heq
        go_wp2
        go_ret
        refine ⟨ret_bool ?_, rfl⟩
        have h2 := HU.out
        rw [HQ.out] at h2
        rw [hasB_mem h2]
      · have HQ := Lib.hid heq
        have ht : (u == s.toList) = false := by simp [toList_bl, heq]
        clear heq
        go_wp2
        go_round
        case rel => exact ⟨k + 1, by omega, by go_num, by show _ = _; rw [HS.out, HB.out]; simp [HQ.out]⟩
        case measure => simp [intOf]; omega
    · go_wp2
      go_ret
      refine ⟨ret_bool ?_, rfl⟩
      have h1 := HB.out
      rw [List.take_of_length_le (by have := hlen.out; omega)] at h1
      rw [h1]

/-- A row that the call laid: a block of its own at the heap's old end. -/
theorem StrRow.new {w : World} {T : TypeId} {n : Nat} (ss : List Bytes) (hn : ss.length = n) :
    StrRow (w.alloc (.cells (ss.map fun u => Value.string (sb u)).toArray T)) (some ⟨w.heap.size, 0, none⟩) n ss := by
  refine ⟨hn, fun _ => ⟨_, rfl, by simp, fun j u hu => ?_⟩⟩
  have hj : (Addr.add ⟨w.heap.size, 0, none⟩ j) = ⟨w.heap.size, j, none⟩ := by unfold Addr.add; split <;> simp_all
  rw [hj, World.cell?_alloc_new]
  simp [hu]

/-- What a call leaves that hands back a new slice of strings: where it lies is a letter. -/
def RowPost (n : Nat) (ss : List Bytes) (w : World) (e : Ending) (w' : World) : Prop := ∃ A, e = .returned (.slice A n n) ∧ StrRow w' A n ss ∧ Below w.heap.size w w' ∧ (∀ ad, A = some ad → w.heap.size ≤ ad.block) ∧ ∃ g, A = some ⟨g, 0, none⟩

set_option maxHeartbeats 400000 in
theorem r_words (w : World) :
    Calls Tryd.prog 16 #[] w (RowPost 11 wordsL w) := by
  go_enter Tryd.func16, Tryd.ntmps16
  go_wp2
  go_ret
  exact ⟨_, rfl, StrRow.new (w := w) (T := 9) wordsL rfl, (Below.refl _ _).alloc (Nat.le_refl _) _, fun ad h => by injection h with h; rw [← h]; exact Nat.le_refl _, _, rfl⟩

set_option maxHeartbeats 400000 in
theorem r_signs (w : World) :
    Calls Tryd.prog 28 #[] w (RowPost 23 signsL w) := by
  go_enter Tryd.func28, Tryd.ntmps28
  go_wp2
  go_ret
  exact ⟨_, rfl, StrRow.new (w := w) (T := 9) signsL rfl, (Below.refl _ _).alloc (Nat.le_refl _) _, fun ad h => by injection h with h; rw [← h]; exact Nat.le_refl _, _, rfl⟩
end Go.Proofs.YtnchfjhnacidlaaDoor
