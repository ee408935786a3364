/- The walks over the lexer's Name and what it calls.
   The walks over package tree (chapter 6): is, named, Fits.
   The walks over package tree (chapter 6): says.
   The walks over sameness of trees: tree.Same with slices.EqualFunc, kit.SameNode with SameNodes, SameInts.
   The walks over the kit's sameness: SameNodes, SameNode, SameInts, SameEdit. -/
import Derived.Test.YtmikjhohnfcedaaGreatDoorBkA
import Derived.Test.YtmikjhohnfcedaaGreatDoorShelf
import Derived.Lib.SmallJoins
import Derived.Deep.RegionHeld3
import Derived.Deep.QuietTactic
import Derived.BigQuiet
import Derived.Test.YtmikjhohnfcedaaGreatDoorBkB
import Derived.Deep.RegionWith
namespace Go.Proofs.YtmikjhohnfcedaaGreatDoor
set_option linter.unusedSimpArgs false
set_option linter.unusedVariables false
open Go.RowKit

/-- What the library's functions want of the package-level variables. -/
structure EnvS (w : World) : Prop where
  tabS : Lib.TabIs Tryz.prog w "strings.asciiSpace" .u8 Lib.asciiSpaceTab
theorem var_lt {P : Program} {w : World} {g : Nat} {n : String} {cs : Array Value} (hg : P.globalNamed n = some g) (h : w.var? P n = some cs) : g < w.heap.size := by
  unfold World.var? at h
  simp only [hg, Option.bind_some] at h
  rcases Nat.lt_or_ge g w.heap.size with hl | hl
  · exact hl
  · rw [Array.getElem?_eq_none hl] at h; simp at h
theorem var_at {P : Program} {w w' : World} {B g : Nat} {n : String} {cs : Array Value} (hg : P.globalNamed n = some g) (h : w.var? P n = some cs) (hb : Below B w w') (hB : w.heap.size ≤ B) : w'.var? P n = some cs :=
  var?_below hb hg (Nat.lt_of_lt_of_le (var_lt hg h) hB) h
/-- The variable stands in every later world. -/
theorem EnvS.below {w w' : World} {B : Nat} (h : EnvS w) (hb : Below B w w') (hB : w.heap.size ≤ B) : EnvS w' :=
  ⟨var_at (g := 0) (by kernel_rfl) h.tabS hb hB⟩
theorem ascii_of {l : Bytes} (h : l.all (fun b => b.toNat < 128) = true) : ∀ (j : Nat) (b : UInt8), l[j]? = some b → b.toNat < 128 := by
  intro j b hj
  have := List.all_eq_true.1 h b (List.mem_of_getElem? hj)
  simpa using this
theorem row_of_fields {l : Bytes} {n : Nat} {ss : List Bytes} (hl : Lib.fields l = ss) (hn : ss.length = n) (w : World) :
    RowPost n ss w (.returned (.slice (some ⟨w.heap.size, 0, none⟩) (Lib.fields l).length (Lib.fields l).length)) (w.alloc (.cells ((Lib.fields l).map fun l => Value.string ⟨l.toArray⟩).toArray 9)) := by
  rw [hl]
  refine ⟨some ⟨w.heap.size, 0, none⟩, by rw [hn], StrRow.new ss hn, (Below.refl _ _).alloc (Nat.le_refl _) _, fun ad h => ?_, _, rfl⟩
  injection h with h; rw [← h]; exact Nat.le_refl _
theorem p_fields_words (w : World) (hE : EnvS w) : Calls Tryz.prog 79 #[.string ⟨#[102, 117, 110, 99, 32, 118, 97, 114, 32, 105, 102, 32, 101, 108, 115, 101, 32, 119, 104, 105, 108, 101, 32, 114, 101, 116, 117, 114, 110, 32, 112, 114, 105, 110, 116, 32, 116, 114, 117, 101, 32, 102, 97, 108, 115, 101, 32, 108, 101, 110, 32, 114, 101, 97, 100]⟩] w (RowPost 11 wordsL w) := by
  refine (Tryz.strings_Fields _ w (by decide) (ascii_of (by decide)) hE.tabS).mono ?_
  rintro e w1 ⟨rfl, rfl⟩
  exact row_of_fields (by decide +kernel) (by decide) w

set_option maxHeartbeats 400000 in
theorem p_words (w : World) (hE : EnvS w) : Calls Tryz.prog 60 #[] w (RowPost 11 wordsL w) := by
  have hT := Lib.hid hE
  clear hE
  go_enter Tryz.func60, Tryz.ntmps60
  go_wp2_with (go_at_call 79; refine (p_fields_words _ hT.out).mono ?_; rintro e w1 ⟨A1, rfl, hrow, hbel, hnew⟩)
  go_ret
  exact ⟨A1, rfl, hrow, hbel, hnew⟩

theorem letter_or_all : ∀ n : Fin 256, ((decide (97 ≤ bits BinOp.or IntKind.u8 (n.val : Int) 32) && decide (bits BinOp.or IntKind.u8 (n.val : Int) 32 ≤ 122)) || (n.val == 95)) =
    ((decide (97 ≤ n.val) && decide (n.val ≤ 122)) || (decide (65 ≤ n.val) && decide (n.val ≤ 90)) || n.val == 95) := by decide +kernel
theorem letter_or (c : UInt8) : ((decide (97 ≤ bits BinOp.or IntKind.u8 (c.toNat : Int) 32) && decide (bits BinOp.or IntKind.u8 (c.toNat : Int) 32 ≤ 122)) || (c.toNat == 95)) = letterB c :=
  letter_or_all ⟨c.toNat, c.toNat_lt⟩

set_option maxHeartbeats 400000 in
theorem p_letter (c : UInt8) (w : World) :
    Calls Tryz.prog 58 #[.int .u8 c.toNat] w fun e w' => e = .returned (.bool (letterB c)) ∧ w = w' := by
  have hl := Lib.hid (letter_or c)
  generalize hg : bits BinOp.or IntKind.u8 (c.toNat : Int) 32 = g at hl
  have HG := Lib.hid hg
  go_enter Tryz.func58, Tryz.ntmps58
  go_wp2
  all_goals
    go_ret
    refine ⟨ret_bool ?_, rfl⟩
    rw [← hl.out]
    simp
    omega

set_option maxHeartbeats 400000 in
theorem p_wordy (c : UInt8) (w : World) :
    Calls Tryz.prog 61 #[.int .u8 c.toNat] w fun e w' => e = .returned (.bool (wordyB c)) ∧ w = w' := by
  cases hl : letterB c with
  | true =>
    have HL := Lib.hid hl
    clear hl
    go_enter Tryz.func61, Tryz.ntmps61
    go_wp2_with (go_at_call 58; refine (p_letter _ _).mono ?_; rintro e w1 ⟨rfl, rfl⟩; rw [HL.out])
    go_ret
    exact ⟨ret_bool (by simp [wordyB, HL.out]), rfl⟩
  | false =>
    have HL := Lib.hid hl
    clear hl
    go_enter Tryz.func61, Tryz.ntmps61
    go_wp2_with (go_at_call 58; refine (p_letter _ _).mono ?_; rintro e w1 ⟨rfl, rfl⟩; rw [HL.out])
    all_goals
      go_ret
      exact ⟨ret_bool (by simp [wordyB, HL.out, digitB]; try omega), rfl⟩

/-! ### slices.Contains over a row of strings -/
theorem p_contains (g n c : Nat) (ss : List Bytes) (x : ByteArray) (w : World) (h : StrRow w (some ⟨g, 0, none⟩) n ss) (hn : n ≤ 9223372036854775807) :
    Calls Tryz.prog 59 #[.slice (some ⟨g, 0, none⟩) n c, .string x] w fun e w' => e = .returned (.bool (hasB ss (bl x))) ∧ w = w' := by
  have hl := h.1
  by_cases h0 : n = 0
  · subst h0
    have : ss = [] := List.eq_nil_of_length_eq_zero hl
    subst this
    refine (Tryz.slices_Contains_string_empty _ c x w).mono ?_
    rintro e w1 ⟨rfl, rfl⟩
    exact ⟨rfl, rfl⟩
  · obtain ⟨ad, e, _, hc⟩ := h.2 (by omega)
    injection e with e
    subst e
    refine (Tryz.slices_Contains_string g 0 n c (ss.map sb) x w (by simp [hl]) hn ?_).mono ?_
    · intro j hj
      have hj' : j < ss.length := by simpa using hj
      have h1 := hc j ss[j] (List.getElem?_eq_getElem hj')
      rw [add_mid] at h1
      rw [h1]
      congr 1
      simp [List.getD, List.getElem?_map, List.getElem?_eq_getElem hj']
    · rintro e w1 ⟨rfl, rfl⟩
      refine ⟨ret_bool ?_, rfl⟩
      rw [Lib.containsS_iff, List.take_of_length_le (by simp [hl])]
      unfold hasB
      simp only [List.contains_iff_mem, List.mem_map]
      constructor
      · rintro ⟨l, hl, rfl⟩; exact hl
      · intro h; exact ⟨_, h, rfl⟩

set_option maxHeartbeats 1000000 in
theorem p_name (s : ByteArray) (w : World) (hE : EnvS w) (hs : s.size ≤ 9223372036854775806) :
    Calls Tryz.prog 27 #[.string s] w (NamePost (isName (bl s)) w) := by
  have HE := Lib.hid hE
  clear hE
  by_cases h0 : s.size = 0
  · have he : s.toList = [] := by rw [toList_bl]; exact List.eq_nil_of_length_eq_zero h0
    have hi : Hid (isName (bl s) = false) := by show _ = _; rw [← toList_bl, he]; rfl
    clear h0
    go_enter Tryz.func27, Tryz.ntmps27
    go_wp2
    go_ret
    exact NamePost.intro hi.out.symm (Below.refl _ _)
  · have he : (s.toList.isEmpty) = false := by rw [toList_bl]; cases hh : bl s with | nil => exact absurd (by rw [← bl_len, hh]; rfl) h0 | cons a l => rfl
    have hpos : 0 < s.size := by omega
    clear h0
    by_cases h24 : 24 < s.size
    · have hi := Lib.hid (isName_long h24)
      go_enter Tryz.func27, Tryz.ntmps27
      go_wp2
      go_ret
      exact NamePost.intro hi.out.symm (Below.refl _ _)
    · have h24' : s.size ≤ 24 := by omega
      clear h24
      cases hc : letterB s[0] with
      | false =>
        have hi := Lib.hid (isName_head hpos hc)
        have HC := Lib.hid hc
        clear hc
        go_enter Tryz.func27, Tryz.ntmps27
        go_wp2_with (go_at_call 58; refine (p_letter _ _).mono ?_; rintro e w' ⟨rfl, rfl⟩; rw [HC.out])
        go_ret
        exact NamePost.intro hi.out.symm (Below.refl _ _)
      | true =>
        have HC := Lib.hid hc
        clear hc
        cases hw : hasB wordsL (bl s) with
        | true =>
          have hi := Lib.hid (isName_word hw)
          have HW := Lib.hid hw
          clear hw
          go_enter Tryz.func27, Tryz.ntmps27
          go_wp2_with (first | (go_at_call 58; refine (p_letter _ _).mono ?_; rintro e w' ⟨rfl, rfl⟩; rw [HC.out]) | (go_at_call 60; refine (p_words _ HE.out).mono ?_; rintro e w1 ⟨A1, rfl, hrow, hbel, _, g1, rfl⟩) | (go_at_call 59; refine (p_contains _ _ _ _ _ _ hrow (by omega)).mono ?_; rintro e w' ⟨rfl, rfl⟩; rw [HW.out]))
          go_ret
          exact NamePost.intro hi.out.symm hbel
        | false =>
          have HW := Lib.hid hw
          clear hw
          go_enter Tryz.func27, Tryz.ntmps27
          go_wp2_with (first | (go_at_call 58; refine (p_letter _ _).mono ?_; rintro e w' ⟨rfl, rfl⟩; rw [HC.out]) | (go_at_call 60; refine (p_words _ HE.out).mono ?_; rintro e w1 ⟨A1, rfl, hrow, hbel, _, g1, rfl⟩) | (go_at_call 59; refine (p_contains _ _ _ _ _ _ hrow (by omega)).mono ?_; rintro e w' ⟨rfl, rfl⟩; rw [HW.out]))
          go_loop [24] (fun i => ∃ k : Nat, k ≤ s.size ∧ i = .int .i64 k ∧ Hid (∀ j (h : j < s.size), j < k → wordyB s[j] = true)) (fun i => s.size - (intOf i).toNat)
          case atStart => exact ⟨0, Nat.zero_le _, rfl, fun j _ h => by omega⟩
          case round =>
            obtain ⟨k, hk, rfl, HI⟩ := hrel
            by_cases hlt : k < s.size
            · cases hl : wordyB s[k] with
              | true =>
                have HL := Lib.hid hl
                have HN : Hid (∀ j (h : j < s.size), j < k + 1 → wordyB s[j] = true) := by
                  intro j h hj
                  by_cases e : j = k
                  · subst e; exact hl
                  · exact HI.out j h (by omega)
                clear hl
                go_wp2_with (go_at_call 61; refine (p_wordy _ _).mono ?_; rintro e w' ⟨rfl, rfl⟩; rw [HL.out])
                go_round
                case rel => exact ⟨k + 1, by omega, by go_num, HN⟩
                case measure => simp [intOf]; omega
              | false =>
                have HL := Lib.hid hl
                have hi := Lib.hid (isName_bad hlt hl)
                clear hl
                go_wp2_with (go_at_call 61; refine (p_wordy _ _).mono ?_; rintro e w' ⟨rfl, rfl⟩; rw [HL.out])
                go_ret
                exact NamePost.intro hi.out.symm hbel
            · have hi := Lib.hid (isName_good hpos h24' HC.out HW.out (fun j h => HI.out j h (by omega)))
              go_wp2
              go_ret
              exact NamePost.intro hi.out.symm hbel
end Go.Proofs.YtmikjhohnfcedaaGreatDoor

namespace Go.Proofs.YtmikjhohnfcedaaGreatDoor
set_option linter.unusedSimpArgs false
set_option linter.unusedVariables false
open Go.RowKit

set_option maxHeartbeats 1000000 in
theorem p_is (k o : Nat) (w : World) : Calls Tryz.prog 107 #[.int .u8 k, .int .u8 o] w fun e w' => e = .returned (.bool (isB k o)) ∧ w = w' := by
  by_cases h0 : o = 200
  · subst h0
    go_enter Tryz.func107, Tryz.ntmps107
    go_wp2
    all_goals
      go_ret
      exact ⟨ret_bool (by simp [isB]; try omega), rfl⟩
  · by_cases h1 : o = 201
    · subst h1
      go_enter Tryz.func107, Tryz.ntmps107
      go_wp2
      all_goals
        go_ret
        exact ⟨ret_bool (by simp [isB]; try omega), rfl⟩
    · by_cases h2 : o = 202
      · subst h2
        go_enter Tryz.func107, Tryz.ntmps107
        go_wp2
        all_goals
          go_ret
          exact ⟨ret_bool (by simp [isB]; try omega), rfl⟩
      · have e0 : ¬ (o : Int) = 200 := by omega
        have e1 : ¬ (o : Int) = 201 := by omega
        have e2 : ¬ (o : Int) = 202 := by omega
        have HR : Hid (isB k o = (k == o)) := by show _ = _; simp [isB, h0, h1, h2]
        clear h0 h1 h2
        go_enter Tryz.func107, Tryz.ntmps107
        go_wp2
        go_ret
        exact ⟨ret_bool (by rw [HR.out]; simp; try omega), rfl⟩

/-! ### slices.Contains over a row of kinds -/
def hasK (zs : List Nat) (x : Nat) : Bool := zs.contains x
theorem kinds_step {zs : List Nat} {x z : Nat} {k : Nat} (hz : zs[k]? = some z) : hasK (zs.take (k + 1)) x = (hasK (zs.take k) x || x == z) := by
  have hk : k < zs.length := (List.getElem?_eq_some_iff.1 hz).1
  have : zs.take (k + 1) = zs.take k ++ [z] := by
    rw [List.take_succ_eq_append_getElem hk]
    rw [List.getElem?_eq_getElem hk] at hz
    injection hz with hz
    rw [hz]
  unfold hasK
  rw [this, Bool.eq_iff_iff]
  simp
def IndexPost (b : Bool) (w : World) (e : Ending) (w' : World) : Prop := w = w' ∧ ∃ i : Int, e = .returned (.int .i64 i) ∧ (0 ≤ i ↔ b = true)
theorem IndexPost.intro {b : Bool} {w : World} {i : Int} (h : 0 ≤ i ↔ b = true) : IndexPost b w (.returned (.int .i64 i)) w := ⟨rfl, i, rfl, h⟩
set_option maxHeartbeats 400000 in
theorem p_index_kinds (zs : List Nat) (A : Option Addr) (n c x : Nat) (w : World) (h : KindsAt w zs A n c) :
    Calls Tryz.prog 84 #[.slice A n c, .int .u8 x] w (IndexPost (hasK zs x) w) := by
  have H := Lib.hid h
  have HL : Hid (n = zs.length) := h.1
  have hn : n ≤ 9223372036854775807 := by have := h.2.1; have := h.2.2.1; unfold maxLen at this; omega
  clear h
  go_enter Tryz.func84, Tryz.ntmps84
  go_wp2
  go_loop [8] (fun i => ∃ k : Nat, k ≤ n ∧ i = .int .i64 k ∧ Hid (hasK (zs.take k) x = false)) (fun i => n - (intOf i).toNat)
  case atStart => exact ⟨0, Nat.zero_le _, rfl, by show _ = _; simp [hasK]⟩
  case round =>
    obtain ⟨k, hk, rfl, HB⟩ := hrel
    by_cases hlt : k < n
    · obtain ⟨b, o, z, rfl, hz, hc⟩ := H.out.get hlt
      have HZ := Lib.hid hz
      have HS := Lib.hid (kinds_step (x := x) hz)
      by_cases heq : x = z
      · subst heq
        have HQ : Hid (hasK zs x = true) := by show _ = _; simp [hasK]; exact List.mem_of_getElem? hz
        clear hz
        go_wp2
        go_ret
        exact IndexPost.intro (by rw [HQ.out]; simp)
      · have HQ := Lib.hid heq
        have e1 : ¬ (x : Int) = z := by omega
        clear heq hz
        go_wp2
        go_round
        case rel => exact ⟨k + 1, by omega, by go_num, by show _ = _; rw [HS.out, HB.out]; simp [HQ.out]⟩
        case measure => simp [intOf]; omega
    · go_wp2
      go_ret
      have h1 := HB.out
      rw [List.take_of_length_le (by have := HL.out; omega)] at h1
      exact IndexPost.intro (by rw [h1]; simp)

set_option maxHeartbeats 400000 in
theorem p_contains_kinds (zs : List Nat) (A : Option Addr) (n c x : Nat) (w : World) (h : KindsAt w zs A n c) :
    Calls Tryz.prog 64 #[.slice A n c, .int .u8 x] w fun e w' => e = .returned (.bool (hasK zs x)) ∧ w = w' := by
  have H := Lib.hid h
  clear h
  go_enter Tryz.func64, Tryz.ntmps64
  go_wp2_with fail
  refine (p_index_kinds zs A n c x _ H.out).mono ?_
  rintro e w' ⟨rfl, i, rfl, hi⟩
  have HI := Lib.hid hi
  clear hi
  go_wp2
  go_ret
  exact ⟨ret_bool (by simp [HI.out]), rfl⟩

set_option maxHeartbeats 400000 in
theorem p_named (k : Nat) (w : World) : Calls Tryz.prog 32 #[.int .u8 k] w (NamePost (namedB k) w) := by
  have HK := Lib.hid (KindsAt.new w #[.int .u8 2, .int .u8 4, .int .u8 6, .int .u8 22, .int .u8 25] 38 (by rfl) (by decide))
  have HR : Hid (hasK [2, 4, 6, 22, 25] k = namedB k) := by
    show _ = _
    unfold hasK namedB
    rw [Bool.eq_iff_iff]
    simp [or_assoc]
  go_enter Tryz.func32, Tryz.ntmps32
  go_wp2_with fail
  refine (p_contains_kinds [2, 4, 6, 22, 25] _ _ _ _ _ HK.out).mono ?_
  rintro e w' ⟨rfl, rfl⟩
  rw [HR.out]
  go_wp2
  go_ret
  exact NamePost.intro rfl ((Below.refl _ _).alloc (Nat.le_refl _) _)

/-! ### Fits -/
theorem rowTbl_all : ∀ k : Fin 30, ∀ l, rowsOf k.val = some (l, true) → l = [l.headD 0] := by
  intro k l h
  revert h
  revert l
  have : ∀ k : Fin 30, (match rowsOf k.val with | some (l, true) => l == [l.headD 0] | _ => true) = true := by decide
  intro l h
  have h2 := this k
  rw [h] at h2
  simpa using h2
theorem rowsOf_big {k : Nat} (h : 30 ≤ k) : rowsOf k = none := by
  obtain ⟨n, rfl⟩ : ∃ n, k = n + 30 := ⟨k - 30, by omega⟩
  rfl
theorem rowsOf_all {k : Nat} {l : List Nat} (h : rowsOf k = some (l, true)) : ∃ a, l = [a] := by
  by_cases hk : k < 30
  · exact ⟨_, rowTbl_all ⟨k, hk⟩ l h⟩
  · rw [rowsOf_big (by omega)] at h; cases h

set_option maxRecDepth 20000 in
set_option maxHeartbeats 1000000 in
theorem p_fits (p k i : Nat) (w : World) : Calls Tryz.prog 83 #[.int .u8 p, .int .u8 k, .int .i64 i] w (NamePost (fitsB p k i) w) := by
  cases hr : rowsOf p with
  | none =>
    have HR := Lib.hid hr
    have HF : Hid (fitsB p k i = false) := by show _ = _; unfold fitsB; rw [hr]
    clear hr
    go_enter Tryz.func83, Tryz.ntmps83
    go_wp2_with fail
    refine (p_rows p _).mono ?_
    rintro e w1 ⟨hb, hp⟩
    rw [HR.out] at hp
    simp only at hp
    subst hp
    have HB := Lib.hid hb
    clear hb
    go_wp2
    go_ret
    exact NamePost.intro HF.out.symm (HB.out.alloc HB.out.size _)
  | some r =>
    obtain ⟨l, all⟩ := r
    have HR := Lib.hid hr
    cases all with
    | true =>
      obtain ⟨a, rfl⟩ := rowsOf_all hr
      have HF : Hid (isB k a = fitsB p k i) := by show _ = _; unfold fitsB; rw [hr]; rfl
      clear hr
      go_enter Tryz.func83, Tryz.ntmps83
      go_wp2_with fail
      refine (p_rows p _).mono ?_
      rintro e w1 ⟨hb, hp⟩
      rw [HR.out] at hp
      simp only at hp
      obtain ⟨v, rfl, A, n, c, rfl, hk⟩ := hp
      have HB := Lib.hid hb
      obtain ⟨rfl, _⟩ := id hk
      obtain ⟨b, o, z, rfl, hz, hc⟩ := hk.get (i := 0) (by simp)
      simp at hz
      subst hz
      have hlt := cell_lt hc
      simp only [Nat.add_zero] at hc hlt
      clear hk hb
      go_wp2_with fail
      refine (p_is k a _).mono ?_
      rintro e w2 ⟨rfl, rfl⟩
      go_wp2
      go_ret
      exact NamePost.intro HF.out (HB.out.alloc HB.out.size _)
    | false =>
      by_cases hi : i < l.length
      · have HF : Hid (∀ z, l[i]? = some z → isB k z = fitsB p k i) := by intro z hz; unfold fitsB; rw [hr]; simp [hz]
        clear hr
        go_enter Tryz.func83, Tryz.ntmps83
        go_wp2_with fail
        refine (p_rows p _).mono ?_
        rintro e w1 ⟨hb, hp⟩
        rw [HR.out] at hp
        simp only at hp
        obtain ⟨v, rfl, A, n, c, rfl, hk⟩ := hp
        have HB := Lib.hid hb
        obtain ⟨rfl, _⟩ := id hk
        obtain ⟨b, o, z, rfl, hz, hc⟩ := hk.get (i := i) hi
        have HZ := Lib.hid (HF.out z hz)
        have hlt := cell_lt hc
        simp only at hlt
        have hll : l.length ≤ 9223372036854775807 := by have h1 := hk.2.1; have h2 := hk.2.2.1; simp only at h1; unfold maxLen at h2; omega
        clear hk hb hz
        go_wp2_with fail
        refine (p_is k z _).mono ?_
        rintro e w2 ⟨rfl, rfl⟩
        go_wp2
        go_ret
        exact NamePost.intro HZ.out (HB.out.alloc HB.out.size _)
      · have HF : Hid (fitsB p k i = false) := by show _ = _; unfold fitsB; rw [hr]; simp [List.getElem?_eq_none (by omega : l.length ≤ i)]
        clear hr
        go_enter Tryz.func83, Tryz.ntmps83
        go_wp2_with fail
        refine (p_rows p _).mono ?_
        rintro e w1 ⟨hb, hp⟩
        rw [HR.out] at hp
        simp only at hp
        obtain ⟨v, rfl, A, n, c, rfl, hk⟩ := hp
        have HB := Lib.hid hb
        obtain ⟨rfl, _⟩ := id hk
        have hll : l.length ≤ 9223372036854775807 := by have h1 := hk.2.1; have h2 := hk.2.2.1; simp only at h1; unfold maxLen at h2; omega
        clear hk hb
        go_wp2_with fail
        go_ret
        exact NamePost.intro HF.out.symm (HB.out.alloc HB.out.size _)
end Go.Proofs.YtmikjhohnfcedaaGreatDoor

namespace Go.Proofs.YtmikjhohnfcedaaGreatDoor
set_option linter.unusedSimpArgs false
set_option linter.unusedVariables false
open Go.RowKit

theorem p_fields_unary (w : World) (hE : EnvS w) : Calls Tryz.prog 79 #[.string ⟨#[45, 32, 33]⟩] w (RowPost 2 unaryL w) := by
  refine (Tryz.strings_Fields _ w (by decide) (ascii_of (by decide)) hE.tabS).mono ?_
  rintro e w1 ⟨rfl, rfl⟩
  exact row_of_fields (by decide +kernel) (by decide) w
theorem p_fields_binary (w : World) (hE : EnvS w) : Calls Tryz.prog 79 #[.string ⟨#[124, 124, 32, 38, 38, 32, 61, 61, 32, 33, 61, 32, 60, 32, 60, 61, 32, 62, 32, 62, 61, 32, 43, 32, 45, 32, 42, 32, 47, 32, 37]⟩] w (RowPost 13 binaryL w) := by
  refine (Tryz.strings_Fields _ w (by decide) (ascii_of (by decide)) hE.tabS).mono ?_
  rintro e w1 ⟨rfl, rfl⟩
  exact row_of_fields (by decide +kernel) (by decide) w

set_option maxHeartbeats 1000000 in
theorem p_among (s t : ByteArray) (n : Nat) (ss : List Bytes) (b : Nat) (w : World) (hE : EnvS w) (hx : w.cell? ⟨b, 1, none⟩ = some (.string t)) (hF : Hid (∀ w, EnvS w → Calls Tryz.prog 79 #[.string s] w (RowPost n ss w))) (hn : n ≤ 9223372036854775807) (h0 : hasB ss [] = false) :
    Calls Tryz.prog 106 #[.string s, .pointer (some ⟨b, 0, none⟩)] w (NamePost (hasB ss (bl t)) w) := by
  have HE := Lib.hid hE
  have hlt := cell_lt hx
  simp only at hlt
  have H0 := Lib.hid h0
  clear hE h0
  by_cases ht : bl t = []
  · obtain rfl : t = ⟨#[]⟩ := by apply bl_inj; rw [ht]
    have HR : Hid (hasB ss (bl ⟨#[]⟩) = false) := H0.out
    clear ht
    go_enter Tryz.func106, Tryz.ntmps106
    go_wp2
    go_quiet (fail)
    go_wp2
    go_ret
    exact NamePost.intro HR.out.symm (below_drews (Below.refl _ _) _)
  · have h1 : t.toList.isEmpty = false := by rw [toList_bl]; cases hh : bl t with | nil => exact absurd hh ht | cons a l => rfl
    clear ht
    go_enter Tryz.func106, Tryz.ntmps106
    go_wp2
    go_region_with (first | (go_at_call 79; refine (hF.out _ (HE.out.below (B := w.heap.size) (by first | exact Below.refl _ _ | exact (Below.refl _ _).drew) (Nat.le_refl _))).mono ?_; rintro e w1 ⟨A1, rfl, hrow, hbel', _, g1, rfl⟩; have hbel : Below w.heap.size w w1 := Below.trans (by first | exact Below.refl _ _ | exact (Below.refl _ _).drew) hbel'; have hx1 := (hbel.cell (p := ⟨b, 1, none⟩) (by simpa using hlt)).trans hx; clear hbel') | (go_at_call 59; refine (p_contains _ _ _ _ _ _ hrow hn).mono ?_; rintro e w' ⟨rfl, rfl⟩))
    all_goals
      go_wp2
      go_ret
      exact NamePost.intro rfl (by first | exact hbel | exact hbel.drew)

theorem enter_says (args : Array Value) (w : World) : (callFunc 106 args).run Tryz.prog w = .ok (.enter 106 args) w := run_enter Tryz.func106 (by kernel_rfl) (by kernel_rfl) args w
theorem nil_eq (s : ByteArray) : (s.toList = []) = (bl s = []) := by rw [toList_bl]
theorem box4 {w : World} {x y z u : Value} {T : TypeId} : (w.alloc (.cells #[x, y, z, u] T)).cell? ⟨w.heap.size, 0, none⟩ = some x ∧ (w.alloc (.cells #[x, y, z, u] T)).cell? ⟨w.heap.size, 1, none⟩ = some y ∧ (w.alloc (.cells #[x, y, z, u] T)).cell? ⟨w.heap.size, 2, none⟩ = some z ∧ (w.alloc (.cells #[x, y, z, u] T)).cell? ⟨w.heap.size, 3, none⟩ = some u := by
  refine ⟨?_, ?_, ?_, ?_⟩ <;> (rw [World.cell?_alloc_new]; rfl)

set_option maxRecDepth 20000 in
set_option maxHeartbeats 1000000 in
theorem p_says (k : Nat) (s : ByteArray) (x : Int) (A : Option Addr) (n c : Nat) (w : World) (hE : EnvS w) (hs : s.size ≤ 9223372036854775806) :
    Calls Tryz.prog 82 #[.agg #[.int .u8 k, .string s, .int .i64 x, .slice A n c]] w (NamePost (saysB k (bl s) x) w) := by
  have hb0 : Below w.heap.size w (w.alloc (.cells #[.int .u8 k, .string s, .int .i64 x, .slice A n c] 40)) := (Below.refl _ _).alloc (Nat.le_refl _) _
  have HB0 := Lib.hid hb0
  have HE := Lib.hid (hE.below hb0 (Nat.le_refl _))
  have hmf := run_makeFunc
  clear hE hb0
  have HS1 : Hid (bl s = [] → s = ⟨#[]⟩) := fun h => by apply bl_inj; rw [h]
  have HS2 : Hid (bl s ≠ [] → s.toList.isEmpty = false) := fun h => by rw [toList_bl]; cases hh : bl s with | nil => exact absurd hh h | cons a l => rfl
  by_cases h20 : k = 20
  · subst h20
    by_cases he : bl s = []
    · obtain rfl := HS1.out he
      clear he
      go_enter Tryz.func82, Tryz.ntmps82
      go_wp2_with fail
      go_ret
      exact NamePost.intro (by simp [saysB]) HB0.out
    · have h1 := HS2.out he
      have HR : Hid (saysB 20 (bl s) x = false) := by show _ = _; revert he; generalize bl s = t; intro he; simp [saysB, he]
      clear he
      go_enter Tryz.func82, Tryz.ntmps82
      go_wp2_with fail
      go_ret
      exact NamePost.intro HR.out.symm HB0.out
  · by_cases h21 : k = 21
    · subst h21
      by_cases he : bl s = []
      · obtain rfl := HS1.out he
        clear he
        go_enter Tryz.func82, Tryz.ntmps82
        go_wp2_with fail
        go_ret
        refine NamePost.intro ?_ HB0.out
        rw [Bool.eq_iff_iff]
        simp [saysB]
        omega
      · have h1 := HS2.out he
        have HR : Hid (saysB 21 (bl s) x = false) := by show _ = _; revert he; generalize bl s = t; intro he; simp [saysB, he]
        clear he
        go_enter Tryz.func82, Tryz.ntmps82
        go_wp2_with fail
        go_ret
        exact NamePost.intro HR.out.symm HB0.out
    · have e20 : ¬ (k : Int) = 20 := by omega
      have e21 : ¬ (k : Int) = 21 := by omega
      by_cases hx : x = 0
      · subst hx
        cases hn : namedB k with
        | true =>
          have HN := Lib.hid hn
          have HR : Hid (isName (bl s) = saysB k (bl s) 0) := by show _ = _; simp [saysB, h20, h21, hn]
          clear hn h20 h21
          go_enter Tryz.func82, Tryz.ntmps82
          go_wp2_with fail
          refine (p_named k _).mono ?_
          rintro e w1 ⟨rfl, hb⟩
          rw [HN.out]
          have HB1 : Hid (Below w.heap.size w w1) := HB0.out.trans (hb.mono HB0.out.size)
          have HE1 := Lib.hid (HE.out.below hb (Nat.le_refl _))
          have hc := (hb.cell (p := ⟨w.heap.size, 1, none⟩) (by simp)).trans box4.2.1
          clear hb
          go_wp2_with fail
          refine (p_name s _ HE1.out hs).mono ?_
          rintro e w2 ⟨rfl, hb⟩
          have HB2 : Hid (Below w.heap.size w w2) := HB1.out.trans (hb.mono HB1.out.size)
          clear hb
          go_wp2
          go_ret
          exact NamePost.intro HR.out HB2.out
        | false =>
          have HN := Lib.hid hn
          by_cases h23 : k = 23
          · subst h23
            have HR : Hid (hasB unaryL (bl s) = saysB 23 (bl s) 0) := rfl
            clear hn
            go_enter Tryz.func82, Tryz.ntmps82
            go_wp2_with fail
            refine (p_named 23 _).mono ?_
            rintro e w1 ⟨rfl, hb⟩
            rw [HN.out]
            have HB1 : Hid (Below w.heap.size w w1) := HB0.out.trans (hb.mono HB0.out.size)
            have HE1 := Lib.hid (HE.out.below hb (Nat.le_refl _))
            have hc := (hb.cell (p := ⟨w.heap.size, 1, none⟩) (by simp)).trans box4.2.1
            have hc0 := (hb.cell (p := ⟨w.heap.size, 0, none⟩) (by simp)).trans box4.1
            have HC := Lib.hid hc
            have hcf := enter_says
            clear hb hc
            go_wp2_with fail
            refine (p_among _ s 2 unaryL w.heap.size _ HE1.out HC.out (Lib.hid p_fields_unary) (by decide) (by decide)).mono ?_
            rintro e w2 ⟨rfl, hb⟩
            have HB2 : Hid (Below w.heap.size w w2) := HB1.out.trans (hb.mono HB1.out.size)
            clear hb
            go_wp2
            go_ret
            exact NamePost.intro HR.out HB2.out
          · have e23 : ¬ (k : Int) = 23 := by omega
            by_cases h24 : k = 24
            · subst h24
              have HR : Hid (hasB binaryL (bl s) = saysB 24 (bl s) 0) := rfl
              clear hn
              go_enter Tryz.func82, Tryz.ntmps82
              go_wp2_with fail
              refine (p_named 24 _).mono ?_
              rintro e w1 ⟨rfl, hb⟩
              rw [HN.out]
              have HB1 : Hid (Below w.heap.size w w1) := HB0.out.trans (hb.mono HB0.out.size)
              have HE1 := Lib.hid (HE.out.below hb (Nat.le_refl _))
              have hc := (hb.cell (p := ⟨w.heap.size, 1, none⟩) (by simp)).trans box4.2.1
              have hc0 := (hb.cell (p := ⟨w.heap.size, 0, none⟩) (by simp)).trans box4.1
              have HC := Lib.hid hc
              have hcf := enter_says
              clear hb hc
              go_wp2_with fail
              refine (p_among _ s 13 binaryL w.heap.size _ HE1.out HC.out (Lib.hid p_fields_binary) (by decide) (by decide)).mono ?_
              rintro e w2 ⟨rfl, hb⟩
              have HB2 : Hid (Below w.heap.size w w2) := HB1.out.trans (hb.mono HB1.out.size)
              clear hb
              go_wp2
              go_ret
              exact NamePost.intro HR.out HB2.out
            · have e24 : ¬ (k : Int) = 24 := by omega
              have HR : Hid (saysB k (bl s) 0 = (bl s == [])) := by show _ = _; simp [saysB, h20, h21, hn, h23, h24]
              clear hn h20 h21 h23 h24
              by_cases he : bl s = []
              · obtain rfl := HS1.out he
                clear he
                go_enter Tryz.func82, Tryz.ntmps82
                go_wp2_with fail
                refine (p_named k _).mono ?_
                rintro e w1 ⟨rfl, hb⟩
                rw [HN.out]
                have HB1 : Hid (Below w.heap.size w w1) := HB0.out.trans (hb.mono HB0.out.size)
                have hc := (hb.cell (p := ⟨w.heap.size, 1, none⟩) (by simp)).trans box4.2.1
                have hc0 := (hb.cell (p := ⟨w.heap.size, 0, none⟩) (by simp)).trans box4.1
                clear hb
                go_wp2
                go_ret
                exact NamePost.intro (by rw [HR.out]; rfl) HB1.out
              · have h1 := HS2.out he
                have HF : Hid (saysB k (bl s) 0 = false) := by show _ = _; rw [HR.out]; simpa using he
                clear he
                go_enter Tryz.func82, Tryz.ntmps82
                go_wp2_with fail
                refine (p_named k _).mono ?_
                rintro e w1 ⟨rfl, hb⟩
                rw [HN.out]
                have HB1 : Hid (Below w.heap.size w w1) := HB0.out.trans (hb.mono HB0.out.size)
                have hc := (hb.cell (p := ⟨w.heap.size, 1, none⟩) (by simp)).trans box4.2.1
                have hc0 := (hb.cell (p := ⟨w.heap.size, 0, none⟩) (by simp)).trans box4.1
                clear hb
                go_wp2
                go_ret
                exact NamePost.intro HF.out.symm HB1.out
      · have HR : Hid (saysB k (bl s) x = false) := by show _ = _; simp [saysB, h20, h21, hx]
        clear h20 h21
        go_enter Tryz.func82, Tryz.ntmps82
        go_wp2_with fail
        go_ret
        exact NamePost.intro HR.out.symm HB0.out
end Go.Proofs.YtmikjhohnfcedaaGreatDoor

namespace Go.Proofs.YtmikjhohnfcedaaGreatDoor
set_option linter.unusedSimpArgs false
set_option linter.unusedVariables false
open Go.RowKit

theorem sz_at {ks : List Tree} {i : Nat} {t : Tree} (h : ks[i]? = some t) : t.sz ≤ szL ks := by
  induction ks generalizing i with
  | nil => simp at h
  | cons u us ih =>
    cases i with
    | zero => simp at h; subst h; simp [szL]
    | succ i => have := ih (i := i) (by simpa using h); simp [szL]; omega
theorem sameL_len : ∀ {ts us : List Tree}, ts.length ≠ us.length → sameL ts us = false := by
  intro ts us h
  rw [not_sameL]
  intro e
  exact h (by rw [e])
theorem sameL_step {ts us : List Tree} {j : Nat} {t u : Tree} (h : sameL ts us = sameL (ts.drop j) (us.drop j)) (ht : ts[j]? = some t) (hu : us[j]? = some u) : sameL ts us = (t.same u && sameL (ts.drop (j + 1)) (us.drop (j + 1))) := by
  have h1 : j < ts.length := (List.getElem?_eq_some_iff.1 ht).1
  have h2 : j < us.length := (List.getElem?_eq_some_iff.1 hu).1
  rw [h, List.drop_eq_getElem_cons h1, List.drop_eq_getElem_cons h2]
  rw [List.getElem?_eq_getElem h1] at ht
  rw [List.getElem?_eq_getElem h2] at hu
  injection ht with ht
  injection hu with hu
  rw [ht, hu]
  simp only [sameL]
theorem same_kids {k k' : Nat} {s s' : Bytes} {x x' : Int} {ks ks' : List Tree} (h1 : k = k') (h2 : s = s') (h3 : x = x') : Tree.same (.node k s x ks) (.node k' s' x' ks') = sameL ks ks' := by
  subst h1 h2 h3
  simp [Tree.same]
theorem same_not {k k' : Nat} {s s' : Bytes} {x x' : Int} {ks ks' : List Tree} (h : ¬ (k = k' ∧ s = s' ∧ x = x')) : Tree.same (.node k s x ks) (.node k' s' x' ks') = false := by
  rw [← Bool.not_eq_true, same_iff]
  intro e
  injection e with e1 e2 e3 _
  exact h ⟨e1, e2, e3⟩

/-- A contract of a function that says whether two trees are the same, at trees of at most a size. -/
def SameC (f : FuncId) (m : Nat) : Prop := ∀ (t u : Tree) (k : Nat) (s : ByteArray) (x : Int) (A : Option Addr) (n c k' : Nat) (s' : ByteArray) (x' : Int) (A' : Option Addr) (n' c' : Nat) (w : World), t.sz ≤ m → NodeIs w t k s x A n c → NodeIs w u k' s' x' A' n' c' →
  Calls Tryz.prog f #[.agg #[.int .u8 k, .string s, .int .i64 x, .slice A n c], .agg #[.int .u8 k', .string s', .int .i64 x', .slice A' n' c']] w (NamePost (t.same u) w)
theorem enter_same (args : Array Value) (w : World) : (callFunc 29 args).run Tryz.prog w = .ok (.enter 29 args) w := run_enter Tryz.func29 (by kernel_rfl) (by kernel_rfl) args w

set_option maxHeartbeats 1000000 in
theorem p_equalfunc (m : Nat) (ih : Hid (SameC 29 m)) (ts us : List Tree) (A A' : Option Addr) (n c n' c' : Nat) (w : World) (hsz : szL ts ≤ m) (hK : KidsAt w ts A n c) (hK' : KidsAt w us A' n' c') :
    Calls Tryz.prog 63 #[.slice A n c, .slice A' n' c', .func (.func 29) #[] #[]] w (NamePost (sameL ts us) w) := by
  have HK := Lib.hid hK
  have HK' := Lib.hid hK'
  have HSZ := Lib.hid hsz
  have hnn : n ≤ 9223372036854775807 := by have h1 := hK.2.1; have h2 := hK.2.2.1; unfold maxLen at h2; omega
  have HL : Hid (n = ts.length ∧ n' = us.length) := ⟨hK.1, hK'.1⟩
  clear hK hK' hsz
  by_cases hl : n = n'
  · subst hl
    go_enter Tryz.func63, Tryz.ntmps63
    go_wp2_with fail
    go_loopw [17] (fun i wr => ∃ j : Nat, j ≤ n ∧ i = .int .i64 j ∧ Hid (Below w.heap.size w wr) ∧ Hid (sameL ts us = sameL (ts.drop j) (us.drop j))) (fun i _ => n - (intOf i).toNat)
    case atStart => exact ⟨0, Nat.zero_le _, rfl, Below.refl _ _, rfl⟩
    case round =>
      obtain ⟨j, hj, rfl, HB, HI⟩ := hrel
      by_cases hlt : j < n
      · obtain ⟨b, o, t, rfl, ht, hat⟩ := (HK.out.below HB.out).get hlt
        obtain ⟨B1, d1, q0, q1, q2, q3, hnode⟩ := hat.cells
        obtain ⟨b', o', u, rfl, hu, hat'⟩ := (HK'.out.below HB.out).get hlt
        obtain ⟨B2, d2, p0, p1, p2, p3, hnode'⟩ := hat'.cells
        have hqlt := cell_lt q0
        have hplt := cell_lt p0
        simp only at hqlt hplt
        have HND := Lib.hid hnode
        have HND' := Lib.hid hnode'
        have HSZT : Hid (t.sz ≤ m) := Nat.le_trans (sz_at ht) HSZ.out
        have HST := Lib.hid (sameL_step HI.out ht hu)
        have hcf := enter_same
        clear ht hat hnode hu hat' hnode'
        go_wp2_with fail
        have hb2 : Below wr.heap.size wr ((wr.alloc (.cells #[.int .u8 t.kind, .string (sb t.text), .int .i64 t.num, .slice B1 t.kids.length d1] 40)).alloc (.cells #[.int .u8 u.kind, .string (sb u.text), .int .i64 u.num, .slice B2 u.kids.length d2] 40)) := ((Below.refl _ _).alloc (Nat.le_refl _) _).alloc (by simp) _
        refine (ih.out t u _ _ _ _ _ _ _ _ _ _ _ _ _ HSZT.out (HND.out.below hb2) (HND'.out.below hb2)).mono ?_
        rintro e w3 ⟨rfl, hb3⟩
        have HB3 : Hid (Below w.heap.size w w3) := HB.out.trans ((hb2.trans (hb3.mono hb2.size)).mono HB.out.size)
        clear hb2 hb3
        cases hs : t.same u with
        | true =>
          have HN : Hid (sameL ts us = sameL (ts.drop (j + 1)) (us.drop (j + 1))) := by show _ = _; rw [HST.out, hs]; simp
          clear hs
          go_wp2_with fail
          go_roundw
          case rel => exact ⟨j + 1, by omega, by go_num, HB3.out, HN.out⟩
          case measure => simp [intOf]; omega
        | false =>
          have HV : Hid (sameL ts us = false) := by show _ = _; rw [HST.out, hs]; simp
          clear hs
          go_wp2_with fail
          go_ret
          exact NamePost.intro HV.out.symm HB3.out
      · have HV : Hid (sameL ts us = true) := by
          show _ = _; obtain ⟨e1, e2⟩ := HL.out
          rw [HI.out, List.drop_eq_nil_of_le (by omega), List.drop_eq_nil_of_le (by omega)]; rfl
        go_wp2_with fail
        go_ret
        exact NamePost.intro HV.out.symm HB.out
  · have HV : Hid (sameL ts us = false) := sameL_len (by obtain ⟨e1, e2⟩ := HL.out; omega)
    have hl' : ((n : Int) != n') = true := by simp; omega
    go_enter Tryz.func63, Tryz.ntmps63
    go_wp2_with fail
    go_ret
    exact NamePost.intro HV.out.symm (Below.refl _ _)

theorem str_ne {s s' : ByteArray} (h : bl s ≠ bl s') : (s.toList == s'.toList) = false := by rw [toList_bl, toList_bl]; simpa using h
set_option maxHeartbeats 1000000 in
theorem same_step (m : Nat) (ih : Hid (SameC 29 m)) : SameC 29 (m + 1) := by
  intro t u k s x A n c k' s' x' A' n' c' w hsz hN hN'
  obtain ⟨ks, rfl, _, _, _, hK⟩ := hN
  obtain ⟨ks', rfl, _, _, _, hK'⟩ := hN'
  have hb0 : Below w.heap.size w ((w.alloc (.cells #[.int .u8 k, .string s, .int .i64 x, .slice A n c] 40)).alloc (.cells #[.int .u8 k', .string s', .int .i64 x', .slice A' n' c'] 40)) := ((Below.refl _ _).alloc (Nat.le_refl _) _).alloc (by simp) _
  have HB0 := Lib.hid hb0
  have HK := Lib.hid (hK.below hb0)
  have HK' := Lib.hid (hK'.below hb0)
  have HSZ : Hid (szL ks ≤ m) := by show _ ≤ _; simp only [Tree.sz] at hsz; omega
  clear hsz hb0 hK hK'
  by_cases h1 : k = k'
  · subst h1
    by_cases h2 : bl s = bl s'
    · obtain rfl := bl_inj h2
      by_cases h3 : x = x'
      · subst h3
        have HV : Hid (Tree.same (.node k (bl s) x ks) (.node k (bl s) x ks') = sameL ks ks') := same_kids rfl rfl rfl
        clear h2
        go_enter Tryz.func29, Tryz.ntmps29
        go_wp2_with fail
        refine (p_equalfunc m ih ks ks' _ _ _ _ _ _ _ HSZ.out HK.out HK'.out).mono ?_
        rintro e w1 ⟨rfl, hb⟩
        have HB : Hid (Below w.heap.size w w1) := HB0.out.trans (hb.mono HB0.out.size)
        clear hb
        go_wp2
        go_ret
        exact NamePost.intro HV.out.symm HB.out
      · have HV : Hid (Tree.same (.node k (bl s) x ks) (.node k (bl s) x' ks') = false) := same_not (fun h => h3 h.2.2)
        have e3 : (x == x') = false := by simpa using h3
        clear h2
        go_enter Tryz.func29, Tryz.ntmps29
        go_wp2_with fail
        go_ret
        exact NamePost.intro HV.out.symm HB0.out
    · have HV : Hid (Tree.same (.node k (bl s) x ks) (.node k (bl s') x' ks') = false) := same_not (fun h => h2 h.2.1)
      have e2 := str_ne h2
      clear h2
      go_enter Tryz.func29, Tryz.ntmps29
      go_wp2_with fail
      go_ret
      exact NamePost.intro HV.out.symm HB0.out
  · have HV : Hid (Tree.same (.node k (bl s) x ks) (.node k' (bl s') x' ks') = false) := same_not (fun h => h1 h.1)
    have e1 : ((k : Int) == k') = false := by simp; omega
    clear h1
    go_enter Tryz.func29, Tryz.ntmps29
    go_wp2_with fail
    go_ret
    exact NamePost.intro HV.out.symm HB0.out
theorem same_all : ∀ m, SameC 29 m
  | 0 => by
    intro t u k s x A n c k' s' x' A' n' c' w hsz
    obtain ⟨k0, s0, x0, ks0⟩ := t
    simp [Tree.sz] at hsz
  | m + 1 => same_step m (Lib.hid (same_all m))
theorem p_same (t u : Tree) (k : Nat) (s : ByteArray) (x : Int) (A : Option Addr) (n c k' : Nat) (s' : ByteArray) (x' : Int) (A' : Option Addr) (n' c' : Nat) (w : World) (hN : NodeIs w t k s x A n c) (hN' : NodeIs w u k' s' x' A' n' c') :
    Calls Tryz.prog 29 #[.agg #[.int .u8 k, .string s, .int .i64 x, .slice A n c], .agg #[.int .u8 k', .string s', .int .i64 x', .slice A' n' c']] w (NamePost (t.same u) w) := same_all t.sz _ _ _ _ _ _ _ _ _ _ _ _ _ _ _ (Nat.le_refl _) hN hN'
end Go.Proofs.YtmikjhohnfcedaaGreatDoor

namespace Go.Proofs.YtmikjhohnfcedaaGreatDoor
set_option linter.unusedSimpArgs false
set_option linter.unusedVariables false
open Go.RowKit

set_option maxHeartbeats 2000000 in
theorem k_nodes (m : Nat) (ih : Hid (SameC 56 m)) (ts us : List Tree) (A A' : Option Addr) (n c n' c' : Nat) (w : World) (hsz : szL ts ≤ m) (hK : KidsAt w ts A n c) (hK' : KidsAt w us A' n' c') :
    Calls Tryz.prog 23 #[.slice A n c, .slice A' n' c'] w (NamePost (sameL ts us) w) := by
  have HK := Lib.hid hK
  have HK' := Lib.hid hK'
  have HSZ := Lib.hid hsz
  have hnn : n ≤ 9223372036854775807 := by have h1 := hK.2.1; have h2 := hK.2.2.1; unfold maxLen at h2; omega
  have HL : Hid (n = ts.length ∧ n' = us.length) := ⟨hK.1, hK'.1⟩
  clear hK hK' hsz
  by_cases hl : n = n'
  · subst hl
    go_enter Tryz.func23, Tryz.ntmps23
    go_wp2_with fail
    go_loopw [5] (fun i wr => ∃ j : Nat, j ≤ n ∧ i = .int .i64 j ∧ Hid (Below w.heap.size w wr) ∧ Hid (sameL ts us = sameL (ts.drop j) (us.drop j))) (fun i _ => n - (intOf i).toNat)
    case atStart => exact ⟨0, Nat.zero_le _, rfl, Below.refl _ _, rfl⟩
    case round =>
      obtain ⟨j, hj, rfl, HB, HI⟩ := hrel
      by_cases hlt : j < n
      · obtain ⟨b, o, t, rfl, ht, hat⟩ := (HK.out.below HB.out).get hlt
        obtain ⟨B1, d1, q0, q1, q2, q3, hnode⟩ := hat.cells
        obtain ⟨b', o', u, rfl, hu, hat'⟩ := (HK'.out.below HB.out).get hlt
        obtain ⟨B2, d2, p0, p1, p2, p3, hnode'⟩ := hat'.cells
        have HND := Lib.hid hnode
        have HND' := Lib.hid hnode'
        have HSZT : Hid (t.sz ≤ m) := Nat.le_trans (sz_at ht) HSZ.out
        have HST := Lib.hid (sameL_step HI.out ht hu)
        clear ht hat hnode hu hat' hnode'
        cases hs : t.same u with
        | true =>
          have HS := Lib.hid hs
          have HN : Hid (sameL ts us = sameL (ts.drop (j + 1)) (us.drop (j + 1))) := by show _ = _; rw [HST.out, hs]; simp
          clear hs
          go_wp2_with fail
          go_region_with (go_at_call 56; refine (ih.out t u _ _ _ _ _ _ _ _ _ _ _ _ _ HSZT.out (HND.out.below (below_drews (Below.refl _ _) 1)) (HND'.out.below (below_drews (Below.refl _ _) 1))).mono ?_; rintro e w3 ⟨rfl, hb3⟩; rw [HS.out])
          all_goals
            have HB3 : Hid (Below w.heap.size w w3) := HB.out.trans (((below_drews (Below.refl _ _) 1).trans hb3).mono HB.out.size)
            clear hb3
            go_wp2
            go_roundw
            case rel => exact ⟨j + 1, by omega, by go_num, HB3.out, HN.out⟩
            case measure => simp [intOf]; omega
        | false =>
          have HS := Lib.hid hs
          have HV : Hid (sameL ts us = false) := by show _ = _; rw [HST.out, hs]; simp
          clear hs
          go_wp2_with fail
          go_region_with (go_at_call 56; refine (ih.out t u _ _ _ _ _ _ _ _ _ _ _ _ _ HSZT.out (HND.out.below (below_drews (Below.refl _ _) 1)) (HND'.out.below (below_drews (Below.refl _ _) 1))).mono ?_; rintro e w3 ⟨rfl, hb3⟩; rw [HS.out])
          all_goals
            have HB3 : Hid (Below w.heap.size w w3) := HB.out.trans (((below_drews (Below.refl _ _) 1).trans hb3).mono HB.out.size)
            clear hb3
            go_wp2
            go_ret
            exact NamePost.intro HV.out.symm HB3.out
      · have HV : Hid (sameL ts us = true) := by
          show _ = _; obtain ⟨e1, e2⟩ := HL.out
          rw [HI.out, List.drop_eq_nil_of_le (by omega), List.drop_eq_nil_of_le (by omega)]; rfl
        go_wp2_with fail
        go_ret
        exact NamePost.intro HV.out.symm HB.out
  · have HV : Hid (sameL ts us = false) := sameL_len (by obtain ⟨e1, e2⟩ := HL.out; omega)
    have hl' : ((n : Int) != n') = true := by simp; omega
    go_enter Tryz.func23, Tryz.ntmps23
    go_wp2_with fail
    go_ret
    exact NamePost.intro HV.out.symm (Below.refl _ _)
set_option maxHeartbeats 1000000 in
theorem k_step (m : Nat) (ih : Hid (SameC 56 m)) : SameC 56 (m + 1) := by
  intro t u k s x A n c k' s' x' A' n' c' w hsz hN hN'
  obtain ⟨ks, rfl, _, _, _, hK⟩ := hN
  obtain ⟨ks', rfl, _, _, _, hK'⟩ := hN'
  have hb0 : Below w.heap.size w ((w.alloc (.cells #[.int .u8 k, .string s, .int .i64 x, .slice A n c] 40)).alloc (.cells #[.int .u8 k', .string s', .int .i64 x', .slice A' n' c'] 40)) := ((Below.refl _ _).alloc (Nat.le_refl _) _).alloc (by simp) _
  have HB0 := Lib.hid hb0
  have HK := Lib.hid (hK.below hb0)
  have HK' := Lib.hid (hK'.below hb0)
  have HSZ : Hid (szL ks ≤ m) := by show _ ≤ _; simp only [Tree.sz] at hsz; omega
  clear hsz hb0 hK hK'
  by_cases h1 : k = k'
  · subst h1
    by_cases h2 : bl s = bl s'
    · obtain rfl := bl_inj h2
      by_cases h3 : x = x'
      · subst h3
        have HV : Hid (Tree.same (.node k (bl s) x ks) (.node k (bl s) x ks') = sameL ks ks') := same_kids rfl rfl rfl
        clear h2
        go_enter Tryz.func56, Tryz.ntmps56
        go_wp2_with fail
        refine (k_nodes m ih ks ks' _ _ _ _ _ _ _ HSZ.out HK.out HK'.out).mono ?_
        rintro e w1 ⟨rfl, hb⟩
        have HB : Hid (Below w.heap.size w w1) := HB0.out.trans (hb.mono HB0.out.size)
        clear hb
        go_wp2
        go_ret
        exact NamePost.intro HV.out.symm HB.out
      · have HV : Hid (Tree.same (.node k (bl s) x ks) (.node k (bl s) x' ks') = false) := same_not (fun h => h3 h.2.2)
        have e3 : (x == x') = false := by simpa using h3
        clear h2
        go_enter Tryz.func56, Tryz.ntmps56
        go_wp2_with fail
        go_ret
        exact NamePost.intro HV.out.symm HB0.out
    · have HV : Hid (Tree.same (.node k (bl s) x ks) (.node k (bl s') x' ks') = false) := same_not (fun h => h2 h.2.1)
      have e2 := str_ne h2
      clear h2
      go_enter Tryz.func56, Tryz.ntmps56
      go_wp2_with fail
      go_ret
      exact NamePost.intro HV.out.symm HB0.out
  · have HV : Hid (Tree.same (.node k (bl s) x ks) (.node k' (bl s') x' ks') = false) := same_not (fun h => h1 h.1)
    have e1 : ((k : Int) == k') = false := by simp; omega
    clear h1
    go_enter Tryz.func56, Tryz.ntmps56
    go_wp2_with fail
    go_ret
    exact NamePost.intro HV.out.symm HB0.out
theorem k_all : ∀ m, SameC 56 m
  | 0 => by
    intro t u k s x A n c k' s' x' A' n' c' w hsz
    obtain ⟨k0, s0, x0, ks0⟩ := t
    simp [Tree.sz] at hsz
  | m + 1 => k_step m (Lib.hid (k_all m))
theorem k_same_node (t u : Tree) (k : Nat) (s : ByteArray) (x : Int) (A : Option Addr) (n c k' : Nat) (s' : ByteArray) (x' : Int) (A' : Option Addr) (n' c' : Nat) (w : World) (hN : NodeIs w t k s x A n c) (hN' : NodeIs w u k' s' x' A' n' c') :
    Calls Tryz.prog 56 #[.agg #[.int .u8 k, .string s, .int .i64 x, .slice A n c], .agg #[.int .u8 k', .string s', .int .i64 x', .slice A' n' c']] w (NamePost (t.same u) w) := k_all t.sz _ _ _ _ _ _ _ _ _ _ _ _ _ _ _ (Nat.le_refl _) hN hN'
theorem k_same_nodes (ts us : List Tree) (A A' : Option Addr) (n c n' c' : Nat) (w : World) (hK : KidsAt w ts A n c) (hK' : KidsAt w us A' n' c') :
    Calls Tryz.prog 23 #[.slice A n c, .slice A' n' c'] w (NamePost (sameL ts us) w) := k_nodes (szL ts) (Lib.hid (k_all _)) ts us A A' n c n' c' w (Nat.le_refl _) hK hK'

theorem ints_step {xs ys : List Int} {j : Nat} {x y : Int} (h : (xs == ys) = (xs.drop j == ys.drop j)) (hx : xs[j]? = some x) (hy : ys[j]? = some y) : (xs == ys) = (x == y && xs.drop (j + 1) == ys.drop (j + 1)) := by
  have h1 : j < xs.length := (List.getElem?_eq_some_iff.1 hx).1
  have h2 : j < ys.length := (List.getElem?_eq_some_iff.1 hy).1
  rw [h, List.drop_eq_getElem_cons h1, List.drop_eq_getElem_cons h2]
  rw [List.getElem?_eq_getElem h1] at hx
  rw [List.getElem?_eq_getElem h2] at hy
  injection hx with hx
  injection hy with hy
  rw [hx, hy]
  rfl
set_option maxHeartbeats 1000000 in
theorem k_same_ints (xs ys : List Int) (A A' : Option Addr) (n c n' c' : Nat) (w : World) (hx : IntsAt w xs A n c) (hy : IntsAt w ys A' n' c') :
    Calls Tryz.prog 14 #[.slice A n c, .slice A' n' c'] w (DrawnP (.bool (xs == ys)) w) := by
  have HX := Lib.hid hx
  have HY := Lib.hid hy
  have hnn : n ≤ 9223372036854775807 := by have h1 := hx.2.1; have h2 := hx.2.2.1; unfold maxLen at h2; omega
  have HL : Hid (n = xs.length ∧ n' = ys.length) := ⟨hx.1, hy.1⟩
  clear hx hy
  by_cases hl : n = n'
  · subst hl
    go_enter Tryz.func14, Tryz.ntmps14
    go_wp2_with fail
    go_loopw [5] (fun i wr => ∃ j d : Nat, j ≤ n ∧ i = .int .i64 j ∧ wr = w.drewN d ∧ Hid ((xs == ys) = (xs.drop j == ys.drop j))) (fun i _ => n - (intOf i).toNat)
    case atStart => exact ⟨0, 0, Nat.zero_le _, rfl, rfl, rfl⟩
    case round =>
      obtain ⟨j, d, hj, rfl, rfl, HI⟩ := hrel
      by_cases hlt : j < n
      · obtain ⟨b, o, x, rfl, hxx, q0⟩ := HX.out.get hlt
        obtain ⟨b', o', y, rfl, hyy, p0⟩ := HY.out.get hlt
        have HST := Lib.hid (ints_step HI.out hxx hyy)
        clear hxx hyy
        by_cases he : x = y
        · have HN : Hid ((xs == ys) = (xs.drop (j + 1) == ys.drop (j + 1))) := by show _ = _; rw [HST.out]; simp [he]
          have e1 : (x != y) = false := by simp [he]
          clear he
          go_wp2
          go_quiet (fail)
          go_wp2
          go_roundw
          case rel => exact ⟨j + 1, _, by omega, by go_num, rfl, HN⟩
          case measure => simp [intOf]; omega
        · have HV : Hid ((xs == ys) = false) := by show _ = _; rw [HST.out]; simp [he]
          have e1 : (x != y) = true := by simp [he]
          clear he
          go_wp2
          go_quiet (fail)
          go_wp2
          go_ret
          exact ⟨ret_bool (by rw [HV.out]), d + nq, by simp [World.drewN, Nat.add_assoc]⟩
      · have HV : Hid ((xs == ys) = true) := by
          show _ = _; obtain ⟨e1, e2⟩ := HL.out
          rw [HI.out, List.drop_eq_nil_of_le (by omega), List.drop_eq_nil_of_le (by omega)]; rfl
        go_wp2
        go_ret
        exact ⟨ret_bool (by rw [HV.out]), d, rfl⟩
  · have HV : Hid ((xs == ys) = false) := by show _ = _; simp; intro e; obtain ⟨e1, e2⟩ := HL.out; rw [e] at e1; omega
    have hl' : ((n : Int) != n') = true := by simp; omega
    go_enter Tryz.func14, Tryz.ntmps14
    go_wp2_with fail
    go_ret
    exact ⟨ret_bool (by rw [HV.out]), 0, rfl⟩
end Go.Proofs.YtmikjhohnfcedaaGreatDoor
