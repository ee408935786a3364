/- The walk over tree.each, with the closure of tree.Names.
   The walk over tree.Names: the names in trees, each once.
   The walk over swap.look at a Rename.
   The walk over swap.look at another edit.
   swap.look at a right edit.
   The walks over swap.among, and IndexFunc, ContainsFunc over strings with its closure. -/
import Derived.Test.YtmikjhohnfcedaaGreatDoorBkF
import Derived.Test.YtmikjhohnfcedaaGreatDoorShelf
import Derived.Lib.OwnBridge
import Derived.Sort.OwnSorted
import Derived.Lib.SlicesCompact
import Derived.Test.YtmikjhohnfcedaaGreatDoorBkH
namespace Go.Proofs.YtmikjhohnfcedaaGreatDoor
set_option linter.unusedSimpArgs false
set_option linter.unusedVariables false
open Go.RowKit
set_option linter.unusedSimpArgs false

theorem enter_names1 (args : Array Value) (w : World) : (callFunc 31 args).run Tryz.prog w = .ok (.enter 31 args) w := run_enter Tryz.func31 (by kernel_rfl) (by kernel_rfl) args w
def namesMore (ss : List Bytes) (ks : List Tree) : List Bytes := ss ++ namesL ks
theorem namesMore_step {ss : List Bytes} {ks : List Tree} {j : Nat} {t : Tree} (h : ks[j]? = some t) : namesMore ss (ks.take (j + 1)) = namesMore (nameMore t.kind (sb t.text) (namesMore ss (ks.take j))) t.kids := by
  have hj : j < ks.length := (List.getElem?_eq_some_iff.1 h).1
  have e : ks.take (j + 1) = ks.take j ++ [t] := by
    rw [List.take_succ_eq_append_getElem hj]
    rw [List.getElem?_eq_getElem hj] at h
    injection h with h
    rw [h]
  obtain ⟨k, s, x, us⟩ := t
  rw [e]
  unfold namesMore nameMore
  simp only [names_append, namesL, Tree.names, Tree.kind, Tree.text, Tree.kids, List.append_nil, bl_mk]
  split <;> simp_all
theorem namesMore_len {ss : List Bytes} {ks : List Tree} {j : Nat} {t : Tree} (h : ks[j]? = some t) : (namesMore ss (ks.take j)).length + t.sz ≤ ss.length + szL ks := by
  have h1 := namesL_len (ks.take j)
  have hj : j < ks.length := (List.getElem?_eq_some_iff.1 h).1
  have e : szL ks = szL (ks.take j) + szL (ks.drop j) := by rw [← sz_append, List.take_append_drop]
  have e2 : szL (ks.drop j) = t.sz + szL (ks.drop (j + 1)) := by
    rw [List.drop_eq_getElem_cons hj]
    rw [List.getElem?_eq_getElem hj] at h
    injection h with h
    rw [h]
    rfl
  unfold namesMore
  rw [List.length_append]
  omega
def EachPost (b : Nat) (ss : List Bytes) (w0 : World) (e : Ending) (w' : World) : Prop := e = .returned (.tuple #[]) ∧ Below w0.heap.size w0 w' ∧ ∃ v', StrBox (b + 1) b 0 w' v' ss
def EachC (m : Nat) : Prop := ∀ (ks : List Tree) (A : Option Addr) (n c : Nat) (ss : List Bytes) (w0 w : World) (v : Value), szL ks < m → KidsAt w0 ks A n c → shortL 281474976710656 ks → Below w0.heap.size w0 w → StrBox (w0.heap.size + 1) w0.heap.size 0 w v ss → ss.length + szL ks ≤ 1000000 →
  Calls Tryz.prog 30 #[.func (.func 31) #[] #[.pointer (some ⟨w0.heap.size, 0, none⟩)], .slice A n c] w (EachPost w0.heap.size (namesMore ss ks) w0)
theorem each_mid {w w3 : World} {b : Nat} {v : Value} {ss : List Bytes} {x0 x1 x2 x3 : Value} {T : TypeId} (hS : StrBox (b + 1) b 0 w v ss) (hbut : ButB b v (w.alloc (.cells #[x0, x1, x2, x3] T)) w3) (hb3 : Below b (w.alloc (.cells #[x0, x1, x2, x3] T)) w3) :
    Hid (Below b w w3) ∧ Hid (w3.cell? ⟨w.heap.size, 3, none⟩ = some x3) := by
  have hlt : b < w.heap.size := cell_lt hS.cell
  have hb : Below b w w3 := ((Below.refl _ _).alloc (by omega) _).trans hb3
  refine ⟨hb, ?_⟩
  have h1 : w3.heap[w.heap.size]? = (w.alloc (.cells #[x0, x1, x2, x3] T)).heap[w.heap.size]? := hbut.2 _ (by simp) (by omega) (fun e => by have := (hS.own.lt _ e).2; omega)
  rw [heap_alloc_new] at h1
  exact (boxF4 h1).c3
theorem nameMore_len (k : Nat) (s : ByteArray) (ss : List Bytes) : (nameMore k s ss).length ≤ ss.length + 1 := by
  unfold nameMore; split <;> simp
set_option maxRecDepth 20000 in
set_option maxHeartbeats 4000000 in
theorem each_step (m : Nat) (ih : Hid (EachC m)) : EachC (m + 1) := by
  intro ks A n c ss w0 w v hm hK hsh hb hS hfew
  have HK := Lib.hid hK
  have HSH := Lib.hid hsh
  have HM := Lib.hid hm
  have HLN : Hid (n = ks.length) := hK.1
  have hnn : n ≤ 9223372036854775807 := by have h1 := hK.2.1; have h2 := hK.2.2.1; unfold maxLen at h2; omega
  have HB := Lib.hid hb
  have HS := Lib.hid hS
  have hcf := enter_names1
  clear hK hsh hm hb hS
  go_enter Tryz.func30, Tryz.ntmps30
  go_wp2_with fail
  go_loopw [8] (fun i wr => ∃ j : Nat, j ≤ n ∧ i = .int .i64 j ∧ Hid (Below w0.heap.size w0 wr) ∧ Hid (∃ v', StrBox (w0.heap.size + 1) w0.heap.size 0 wr v' (namesMore ss (ks.take j)))) (fun i _ => n - (intOf i).toNat)
  case atStart => exact ⟨0, Nat.zero_le _, rfl, HB.out, v, by simpa [namesMore, namesL] using HS.out⟩
  case round =>
    obtain ⟨j, hj, rfl, HBR, HSR⟩ := hrel
    by_cases hlt : j < n
    · obtain ⟨b, o, t, rfl, ht, hat⟩ := (HK.out.below HBR.out).get hlt
      obtain ⟨B1, d1, q0, q1, q2, q3, hnode⟩ := hat.cells
      obtain ⟨B0, d0, q3', hkk⟩ : ∃ B0 d0, wr.cell? ⟨b, o + j * 4 + 3, none⟩ = some (.slice B0 t.kids.length d0) ∧ KidsAt w0 t.kids B0 t.kids.length d0 := by
        obtain ⟨b', o', t', e1, e2, hat0⟩ := HK.out.get hlt
        injection e1 with e1
        injection e1 with e1 e1'
        rw [ht] at e2
        injection e2 with e2
        subst e1 e1' e2
        obtain ⟨A', c', _, _, _, h3, hk, _⟩ := hat0.parts
        exact ⟨A', c', cell_below HBR.out h3, hk⟩
      rw [q3] at q3'
      injection q3' with q3'
      injection q3' with q3' _ q3''
      subst q3' q3''
      have HKK := Lib.hid hkk
      clear hkk
      obtain ⟨vr, hvr⟩ := HSR.out
      have HND := Lib.hid hnode
      have HT := Lib.hid ht
      have HSV := Lib.hid hvr
      have HL1 := Lib.hid (namesMore_len (ss := ss) ht)
      have HST := Lib.hid (HSH.out.get ht)
      have HSZ : Hid (szL t.kids + 1 < m + 1) := Nat.lt_of_le_of_lt (by have := sz_at ht; obtain ⟨k, s, x, us⟩ := t; simp [Tree.sz, Tree.kids] at this ⊢; omega) HM.out
      have HSE : Hid (namesMore ss (ks.take (j + 1)) = namesMore (nameMore t.kind (sb t.text) (namesMore ss (ks.take j))) t.kids) := namesMore_step ht
      clear ht hat hnode hvr
      go_wp2_with fail
      have hba : Below wr.heap.size wr (wr.alloc (.cells #[.int .u8 t.kind, .string (sb t.text), .int .i64 t.num, .slice B1 t.kids.length d1] 40)) := (Below.refl _ _).alloc (Nat.le_refl _) _
      refine (p_names1 (w0.heap.size + 1) w0.heap.size t.kind (sb t.text) t.num B1 t.kids.length d1 (namesMore ss (ks.take j)) vr _ (HSV.out.below hba) (by have := HST.out; obtain ⟨k, s, x, us⟩ := t; exact this.1) (by have := HL1.out; omega) (by have := cell_lt HSV.out.cell; simp at this ⊢; omega)).mono ?_
      rintro en w3 ⟨rfl, v3, hS3, hbut, hb3⟩
      obtain ⟨HB3, HX3⟩ := each_mid HSV.out hbut hb3
      have HBW := Lib.hid (HBR.out.trans HB3.out)
      have HS3 := Lib.hid hS3
      have c3 := HX3.out
      clear hba hS3 hbut hb3
      go_wp2_with fail
      refine (ih.out t.kids B1 t.kids.length d1 _ w0 w3 v3 (by have := HSZ.out; omega) (HKK.out) (by have := HST.out; obtain ⟨k, s, x, us⟩ := t; exact this.2) HBW.out HS3.out (by have := HL1.out; have := nameMore_len t.kind (sb t.text) (namesMore ss (ks.take j)); obtain ⟨k, s, x, us⟩ := t; simp [Tree.sz, Tree.kids] at *; omega)).mono ?_
      rintro en w4 ⟨rfl, hb4, v4, hS4⟩
      have HB4 := Lib.hid hb4
      have HS4 := Lib.hid hS4
      clear hb4 hS4
      go_wp2
      go_roundw
      case rel => exact ⟨j + 1, by omega, by go_num, HB4, v4, by rw [HSE.out]; exact HS4.out⟩
      case measure => simp [intOf]; omega
    · have hjn : j = n := by omega
      subst hjn
      have HD : Hid (namesMore ss (ks.take j) = namesMore ss ks) := by show _ = _; rw [List.take_of_length_le (by have := HLN.out; omega)]
      obtain ⟨vr, hvr⟩ := HSR.out
      have HSV := Lib.hid hvr
      clear hvr
      go_wp2_with fail
      go_end0
      rw [← HD.out]
      exact ⟨rfl, HBR.out, vr, HSV.out⟩
theorem each_all : ∀ m, EachC m
  | 0 => fun _ _ _ _ _ _ _ _ hm => absurd hm (Nat.not_lt_zero _)
  | m + 1 => each_step m (Lib.hid (each_all m))
theorem p_each (ks : List Tree) (A : Option Addr) (n c : Nat) (ss : List Bytes) (w0 w : World) (v : Value) (hK : KidsAt w0 ks A n c) (hsh : shortL 281474976710656 ks) (hb : Below w0.heap.size w0 w) (hS : StrBox (w0.heap.size + 1) w0.heap.size 0 w v ss) (hfew : ss.length + szL ks ≤ 1000000) :
    Calls Tryz.prog 30 #[.func (.func 31) #[] #[.pointer (some ⟨w0.heap.size, 0, none⟩)], .slice A n c] w (EachPost w0.heap.size (namesMore ss ks) w0) :=
  each_all (szL ks + 1) ks A n c ss w0 w v (Nat.lt_succ_self _) hK hsh hb hS hfew
end Go.Proofs.YtmikjhohnfcedaaGreatDoor

namespace Go.Proofs.YtmikjhohnfcedaaGreatDoor
set_option linter.unusedSimpArgs false
set_option linter.unusedVariables false
open Go.RowKit Go.Sort
set_option linter.unusedSimpArgs false

theorem getB {d : Array Bytes} {j : Nat} (h : j < d.size) : d[j]! ∈ d.toList := by
  rw [getElem!_pos d j h]; simp
theorem mem_compactUpTo (d : Array Bytes) : ∀ m, m ≤ d.size → ∀ s, s ∈ Lib.compactUpTo d m ↔ ∃ j, j < m ∧ d[j]! = s
  | 0, _, s => by simp [Lib.compactUpTo]
  | m + 1, hm, s => by
    rw [Lib.compactUpTo_succ, List.mem_append, mem_compactUpTo d m (by omega) s]
    constructor
    · rintro (⟨j, hj, e⟩ | h)
      · exact ⟨j, by omega, e⟩
      · split at h
        · simp at h; exact ⟨m, by omega, h.symm⟩
        · simp at h
    · rintro ⟨j, hj, e⟩
      by_cases hjm : j = m
      · subst hjm
        by_cases hk : Lib.keeps d j = true
        · right; rw [if_pos hk]; simp [e]
        · left
          unfold Lib.keeps at hk
          simp only [decide_eq_true_eq, not_or, Decidable.not_not] at hk
          exact ⟨j - 1, by omega, by rw [← hk.2]; exact e⟩
      · exact .inl ⟨j, by omega, e⟩
theorem mem_compact (ss : List Bytes) (s : Bytes) : s ∈ Lib.compact ss ↔ s ∈ ss := by
  unfold Lib.compact
  rw [mem_compactUpTo _ _ (by simp)]
  constructor
  · rintro ⟨j, hj, e⟩
    have := getB (d := ss.toArray) (j := j) (by simpa using hj)
    rw [e] at this
    simpa using this
  · intro h
    obtain ⟨j, hj, e⟩ := List.getElem_of_mem h
    exact ⟨j, hj, by rw [getElem!_pos _ j (by simpa using hj)]; simpa using e⟩
theorem compact_len (ss : List Bytes) : (Lib.compact ss).length ≤ ss.length := by
  unfold Lib.compact Lib.compactUpTo
  rw [List.length_map]
  exact Nat.le_trans (List.length_filter_le _ _) (by simp)
/-- A call's own row of strings, with the same strings as another. -/
def SameStrs (base : Nat) (w : World) (ss : List Bytes) (v : Value) (w' : World) : Prop := ∃ ss', (∀ s, s ∈ ss' ↔ s ∈ ss) ∧ ss'.length ≤ ss.length ∧ w'.ownsRow base 9 1 v ss'.length (strCells ss') ∧ Below base w w'
theorem p_sort (base : Nat) (ss : List Bytes) (v : Value) (w : World) (h : w.ownsRow base 9 1 v ss.length (strCells ss)) (hB : base ≤ w.heap.size) (hl : ss.length ≤ 1000000) :
    Calls Tryz.prog 34 #[v] w fun e w' => e = .returned (.tuple #[]) ∧ ∃ ss', (∀ s, s ∈ ss' ↔ s ∈ ss) ∧ ss'.length = ss.length ∧ w'.ownsRow base 9 1 v ss'.length (strCells ss') ∧ Below base w w' := by
  rcases h.2 with ⟨rfl, h0⟩ | ⟨g, cap, cur, rfl, hb, hg, hn, hm, hs, ht⟩
  · refine (Tryz.slices_Sort_string_none none 0 w).mono ?_
    rintro e w1 ⟨rfl, rfl⟩
    exact ⟨rfl, ss, fun _ => Iff.rfl, rfl, h, Below.refl _ _⟩
  · have hlt : g < w.heap.size := (Array.getElem?_eq_some_iff.1 hg).1
    refine (Tryz.slices_Sort_string g 0 cap ss w (holds_of_block hg (by have := ht; rw [Nat.mul_one] at this; exact this)) hlt (by omega)).mono ?_
    rintro e w1 ⟨rfl, n, os, rfl⟩
    refine ⟨rfl, ss.mergeSort fun x y => decide (x ≤ y), fun s => List.mem_mergeSort, by simp, ?_, ?_⟩
    · have hl' : (ss.mergeSort fun x y => decide (x ≤ y)).length = ss.length := by simp
      rw [hl']
      exact ownsRow_sorted hl' hb hg hn hm hs
    · exact (Below.refl _ _).grown (grownBy_sorted _) hB (fun k hk => by injection hk with hk; omega)
theorem p_compact (base : Nat) (ss : List Bytes) (v : Value) (w : World) (h : w.ownsRow base 9 1 v ss.length (strCells ss)) (hl : ss.length ≤ 1000000) :
    Calls Tryz.prog 35 #[v] w fun e w' => ∃ v', e = .returned v' ∧ SameStrs base w ss v' w' := by
  by_cases hv : v = .slice none 0 0
  · subst hv
    have h0 : ss = [] := by
      rcases h.2 with ⟨_, h0⟩ | ⟨g, cap, cur, e, _⟩
      · exact List.length_eq_zero_iff.1 h0
      · cases e
    subst h0
    refine (Tryz.slices_Compact_string_empty none 0 w).mono ?_
    rintro e w1 ⟨rfl, rfl⟩
    exact ⟨_, rfl, [], fun _ => Iff.rfl, Nat.le_refl _, h, Below.refl _ _⟩
  · obtain ⟨g, cap, rfl, hb, hlt, hn, hm, _, hH⟩ := Lib.holds_of_ownsRow (enc := encStr) (zs := ss) h hv
    refine (Tryz.slices_Compact_string g 0 cap ss w hH (by omega) hn).mono ?_
    rintro e w1 ⟨rfl, q, rfl⟩
    refine ⟨_, rfl, Lib.compact ss, mem_compact ss, compact_len ss, ?_, Lib.below_putRow (Below.refl _ _) hb⟩
    have hc := compact_len ss
    have := Lib.ownsRow_putRow (enc := encStr) (q := q) (k := (Lib.compact ss).length) (ys := Lib.compact ss ++ List.replicate (ss.length - (Lib.compact ss).length) []) h (by simp; omega) hc
    rw [List.take_left] at this
    exact this
def NamesIs (w : World) (ks : List Tree) (e : Ending) (w' : World) : Prop := ∃ v, e = .returned v ∧ Below w.heap.size w w' ∧ ∃ ss, (∀ s, s ∈ ss ↔ s ∈ namesL ks) ∧ ss.length ≤ (namesL ks).length ∧ w'.ownsRow w.heap.size 9 1 v ss.length (strCells ss)
set_option maxRecDepth 20000 in
set_option maxHeartbeats 1000000 in
theorem p_names (ks : List Tree) (A : Option Addr) (n c : Nat) (w : World) (hK : KidsAt w ks A n c) (hsh : shortL 281474976710656 ks) (hfew : szL ks ≤ 1000000) :
    Calls Tryz.prog 10 #[.slice A n c] w (NamesIs w ks) := by
  have hb0 : Below w.heap.size w (w.alloc (.cells #[.slice none 0 0] 35)) := (Below.refl _ _).alloc (Nat.le_refl _) _
  have hS0 : StrBox (w.heap.size + 1) w.heap.size 0 (w.alloc (.cells #[.slice none 0 0] 35)) (.slice none 0 0) [] := by
    have hc := cell_of_row (w.alloc (.cells #[.slice none 0 0] 35)) w.heap.size 0 _ _ (0, 0) (heap_alloc_new _ _)
    exact ⟨hc, by unfold World.frozen?; rw [heap_alloc_new]; rfl, World.ownsRow_nil _ _ _ _, Nat.lt_succ_self _⟩
  have HB0 := Lib.hid hb0
  have HS0 := Lib.hid hS0
  have HK := Lib.hid hK
  have HSH := Lib.hid hsh
  have hnl := namesL_len ks
  clear hb0 hS0 hK hsh
  go_enter Tryz.func10, Tryz.ntmps10
  go_wp2_with fail
  refine (p_each ks A n c [] w _ _ HK.out HSH.out HB0.out HS0.out (by simp; omega)).mono ?_
  rintro en w1 ⟨rfl, hb1, v1, hS1⟩
  have hc1 := hS1.cell
  have HS1 := Lib.hid hS1
  have HB1 := Lib.hid hb1
  have hlt : w.heap.size < w1.heap.size := cell_lt hS1.cell
  clear hb1 hS1
  go_wp2_with fail
  refine (p_sort (w.heap.size + 1) _ _ _ HS1.out.own hlt (by simp [namesMore]; omega)).mono ?_
  rintro en w2 ⟨rfl, ss2, hm2, hl2, ho2, hb2⟩
  have hc2 : w2.cell? ⟨w.heap.size, 0, none⟩ = some v1 := (hb2.cell (p := ⟨w.heap.size, 0, none⟩) (by show w.heap.size < _; omega)).trans hc1
  have HB2 := Lib.hid (HB1.out.trans (hb2.mono (by omega)))
  have HO2 := Lib.hid ho2
  have HM2 := Lib.hid hm2
  clear hb2 ho2 hm2 hc1
  have hl3 : ss2.length ≤ (namesL ks).length := by rw [hl2]; simp [namesMore]
  go_wp2_with fail
  refine (p_compact (w.heap.size + 1) _ _ _ HO2.out (by omega)).mono ?_
  rintro en w3 ⟨v3, rfl, ss3, hm3, hl4, ho3, hb3⟩
  have HB3 := Lib.hid (HB2.out.trans (hb3.mono (by omega)))
  have HO3 := Lib.hid ho3
  have HM3 := Lib.hid hm3
  clear hb3 ho3 hm3 hc2
  go_wp2
  go_ret
  refine ⟨_, rfl, HB3.out, ss3, fun s => ?_, by omega, own_mono HO3.out (by omega)⟩
  rw [HM3.out, HM2.out]
  simp [namesMore]
end Go.Proofs.YtmikjhohnfcedaaGreatDoor

namespace Go.Proofs.YtmikjhohnfcedaaGreatDoor
set_option linter.unusedSimpArgs false
set_option linter.unusedVariables false
open Go.RowKit
set_option linter.unusedSimpArgs false

/-- A slice value that reads as a list of strings. -/
def StrsAt (w : World) (ss : List Bytes) (A : Option Addr) (n c : Nat) : Prop := n = ss.length ∧ n ≤ c ∧ c ≤ maxLen ∧ (ss = [] ∨ ∃ b o, A = some ⟨b, o, none⟩ ∧ ∀ j s, ss[j]? = some s → w.cell? ⟨b, o + j, none⟩ = some (.string (sb s)))
theorem StrsAt.keep {w w' : World} (hb : ∀ a v, w.cell? a = some v → w'.cell? a = some v) {ss : List Bytes} {A : Option Addr} {n c : Nat} (h : StrsAt w ss A n c) : StrsAt w' ss A n c := by
  obtain ⟨h1, h2, h3, h4⟩ := h
  refine ⟨h1, h2, h3, h4.imp id ?_⟩
  rintro ⟨b, o, e, h5⟩
  exact ⟨b, o, e, fun j s hs => hb _ _ (h5 j s hs)⟩
theorem StrsAt.below {w w' : World} (hb : Below w.heap.size w w') {ss : List Bytes} {A : Option Addr} {n c : Nat} (h : StrsAt w ss A n c) : StrsAt w' ss A n c := h.keep fun _ _ => cell_below hb
theorem StrsAt.own {w : World} {base : Nat} {v : Value} {ss : List Bytes} {n : Nat} (h : w.ownsRow base 9 1 v n (strCells ss)) (hn : n = ss.length) : ∃ A c, v = .slice A n c ∧ StrsAt w ss A n c := by
  obtain ⟨A, c, rfl, k1, k2⟩ := own_form h
  refine ⟨A, c, rfl, hn, k1, k2, ?_⟩
  by_cases h0 : ss = []
  · exact .inl h0
  · right
    obtain ⟨g, cap, e, hg⟩ := h.form (by rw [hn]; exact List.length_pos_iff.2 h0)
    injection e with e1 e2 e3
    subst e1 e3
    refine ⟨g, 0, rfl, fun j s hs => ?_⟩
    rw [Nat.zero_add]
    exact own_cells h j _ (by simp [strCells, hs])
theorem two_strs {w : World} {g : Nat} {f t : ByteArray} {T : TypeId} (h : w.heap[g]? = some (.cells #[.string f, .string t] T (0, 0))) : StrsAt w [bl f, bl t] (some ⟨g, 0, none⟩) 2 2 :=
  ⟨rfl, Nat.le_refl _, by unfold maxLen; omega, .inr ⟨g, 0, rfl, fun j s hs => by
    have hc := cell_of_row w g j _ T (0, 0) h
    rw [Nat.zero_add, hc]
    match j, hs with
    | 0, hs => simp at hs; subst hs; rfl
    | 1, hs => simp at hs; subst hs; rfl
    | j + 2, hs => simp at hs⟩⟩
/-- The same, and the row's block is one of strings. -/
def StrsT (w : World) (ss : List Bytes) (A : Option Addr) (n c : Nat) : Prop := StrsAt w ss A n c ∧ (ss = [] ∨ ∃ b o cs fr, A = some ⟨b, o, none⟩ ∧ w.heap[b]? = some (.cells cs 9 fr))
theorem StrsT.below {w w' : World} (hb : Below w.heap.size w w') {ss : List Bytes} {A : Option Addr} {n c : Nat} (h : StrsT w ss A n c) : StrsT w' ss A n c := by
  refine ⟨h.1.below hb, h.2.imp id ?_⟩
  rintro ⟨b, o, cs, fr, e, hh⟩
  exact ⟨b, o, cs, fr, e, (hb.block _ (Array.getElem?_eq_some_iff.1 hh).1).trans hh⟩
theorem StrsT.but {w w' : World} {z : Nat} {ss : List Bytes} {A : Option Addr} {n c : Nat} {cs : Array Value} {T : TypeId} {fr : Nat × Nat} (h : StrsT w ss A n c) (hz : w.heap[z]? = some (.cells cs T fr)) (hT : T ≠ 9) (hb : But (notB z) w w') : StrsT w' ss A n c := by
  obtain ⟨⟨h1, h2, h3, h4⟩, h5⟩ := h
  have hne : ∀ b o, A = some ⟨b, o, none⟩ → ss ≠ [] → b ≠ z ∧ b < w.heap.size := by
    intro b o e h0
    rcases h5 with e0 | ⟨b', o', cs', fr', e', hh⟩
    · exact absurd e0 h0
    · rw [e] at e'
      injection e' with e'
      injection e' with e1 e2
      subst e1
      refine ⟨fun e => ?_, (Array.getElem?_eq_some_iff.1 hh).1⟩
      rw [e, hz] at hh
      injection hh with hh
      injection hh with _ ht
      exact hT ht
  refine ⟨⟨h1, h2, h3, ?_⟩, ?_⟩
  · by_cases h0 : ss = []
    · exact .inl h0
    · rcases h4 with e | ⟨b, o, e, hc⟩
      · exact absurd e h0
      · obtain ⟨n1, n2⟩ := hne b o e h0
        exact .inr ⟨b, o, e, fun j s hs => by rw [World.cell?_of_block (hb.2 b n2 (notB_ne n1))]; exact hc j s hs⟩
  · by_cases h0 : ss = []
    · exact .inl h0
    · rcases h5 with e | ⟨b, o, cs', fr', e, hh⟩
      · exact absurd e h0
      · obtain ⟨n1, n2⟩ := hne b o e h0
        exact .inr ⟨b, o, cs', fr', e, (hb.2 b n2 (notB_ne n1)).trans hh⟩
theorem two_strsT {w : World} {g : Nat} {f t : ByteArray} (h : w.heap[g]? = some (.cells #[.string f, .string t] 9 (0, 0))) : StrsT w [bl f, bl t] (some ⟨g, 0, none⟩) 2 2 := ⟨two_strs h, .inr ⟨g, 0, _, _, rfl, h⟩⟩
/-- What look tells. -/
def LookPost (e : Edt) (x0 x1 x2 x3 x4 x5 x6 x7 : Value) (w : World) (en : Ending) (w' : World) : Prop := ∃ (ns : List Bytes) (nA : Option Addr) (nn nc : Nat) (bA : Option Addr) (bn bc : Nat),
  en = .returned (.agg #[x0, x1, x2, x3, x4, x5, x6, x7, .slice nA nn nc, .slice bA bn bc, .bool e.params, .bool e.calls]) ∧ (∀ s, s ∈ ns ↔ s ∈ e.names) ∧ StrsT w' ns nA nn nc ∧ StrsT w' e.binds bA bn bc ∧ Below w.heap.size w w'
set_option maxRecDepth 20000 in
set_option maxHeartbeats 4000000 in
theorem p_look_1 (ps : List Int) (os ns : List Tree) (pA : Option Addr) (pn pc : Nat) (i j : Int) (f t : ByteArray) (oA : Option Addr) (on oc : Nat) (nA : Option Addr) (nn nc : Nat) (w : World) :
    Calls Tryz.prog 16 #[.agg #[.int .u8 1, .slice pA pn pc, .int .i64 i, .int .i64 j, .string f, .string t, .slice oA on oc, .slice nA nn nc]] w
      (LookPost ⟨1, ps, i, j, bl f, bl t, os, ns⟩ (.int .u8 1) (.slice pA pn pc) (.int .i64 i) (.int .i64 j) (.string f) (.string t) (.slice oA on oc) (.slice nA nn nc) w) := by
  go_enter Tryz.func16, Tryz.ntmps16
  go_wp2_with fail
  refine bodyPost_ret (v := .agg #[.int .u8 1, .slice pA pn pc, .int .i64 i, .int .i64 j, .string f, .string t, .slice oA on oc, .slice nA nn nc, .slice (some ⟨w.heap.size + 1 + 1 + 1, 0, none⟩) 2 2, .slice (some ⟨w.heap.size + 1 + 1 + 1, 0, none⟩) 2 2, .bool false, .bool false]) (by simp [results, Tryz.results16, go_sem]) rfl ?_
  exact ⟨[bl f, bl t], _, 2, 2, _, 2, 2, rfl, fun s => Iff.rfl, two_strsT (heap_alloc_at (by simp)), two_strsT (heap_alloc_at (by simp)), (((((Below.refl _ w).alloc (Nat.le_refl _) _).alloc (by simp) _).alloc (by simp; omega) _).alloc (by simp; omega) _)⟩
end Go.Proofs.YtmikjhohnfcedaaGreatDoor

namespace Go.Proofs.YtmikjhohnfcedaaGreatDoor
set_option linter.unusedSimpArgs false
set_option linter.unusedVariables false
open Go.RowKit
set_option linter.unusedSimpArgs false

/-- The worlds at look's door. -/
def lookW (w : World) (x0 x1 x2 x3 x4 x5 x6 x7 : Value) : World :=
  (((w.alloc (.cells #[x0, x1, x2, x3, x4, x5, x6, x7] 26)).alloc (.cells #[.int .u8 0, .slice none 0 0, .int .i64 0, .int .i64 0, .string ⟨#[]⟩, .string ⟨#[]⟩, .slice none 0 0, .slice none 0 0, .slice none 0 0, .slice none 0 0, .bool false, .bool false] 45)).alloc (.cells #[x0, x1, x2, x3, x4, x5, x6, x7, .slice none 0 0, .slice none 0 0, .bool false, .bool false] 45)).alloc (.cells #[x6, x7] 24)
theorem lookW_facts (w : World) (x0 x1 x2 x3 x4 x5 x6 x7 : Value) : Below w.heap.size w (lookW w x0 x1 x2 x3 x4 x5 x6 x7) ∧ (lookW w x0 x1 x2 x3 x4 x5 x6 x7).heap.size = w.heap.size + 4 ∧
    (lookW w x0 x1 x2 x3 x4 x5 x6 x7).heap[w.heap.size + 1]? = some (.cells #[.int .u8 0, .slice none 0 0, .int .i64 0, .int .i64 0, .string ⟨#[]⟩, .string ⟨#[]⟩, .slice none 0 0, .slice none 0 0, .slice none 0 0, .slice none 0 0, .bool false, .bool false] 45 (0, 0)) ∧
    (lookW w x0 x1 x2 x3 x4 x5 x6 x7).heap[w.heap.size + 1 + 1]? = some (.cells #[x0, x1, x2, x3, x4, x5, x6, x7, .slice none 0 0, .slice none 0 0, .bool false, .bool false] 45 (0, 0)) ∧
    (lookW w x0 x1 x2 x3 x4 x5 x6 x7).heap[w.heap.size + 1 + 1 + 1]? = some (.cells #[x6, x7] 24 (0, 0)) := by
  unfold lookW
  refine ⟨((((Below.refl _ w).alloc (Nat.le_refl _) _).alloc (by simp) _).alloc (by simp; omega) _).alloc (by simp; omega) _, by simp, ?_, ?_, heap_alloc_at (by simp)⟩
  · exact (heap_alloc_old _ _ (by simp)).trans ((heap_alloc_old _ _ (by simp)).trans (heap_alloc_at (by simp)))
  · exact (heap_alloc_old _ _ (by simp)).trans (heap_alloc_at (by simp))
theorem box_set8 {w : World} {b : Nat} {x0 x1 x2 x3 x4 x5 x6 x7 x8 x9 x10 x11 u : Value} {T : TypeId} (h : w.heap[b]? = some (.cells #[x0, x1, x2, x3, x4, x5, x6, x7, x8, x9, x10, x11] T (0, 0))) : (w.setCell ⟨b, 8, none⟩ u).heap[b]? = some (.cells #[x0, x1, x2, x3, x4, x5, x6, x7, u, x9, x10, x11] T (0, 0)) := by
  simp [World.setCell, Array.getElem?_modify, h]
theorem box_set10 {w : World} {b : Nat} {x0 x1 x2 x3 x4 x5 x6 x7 x8 x9 x10 x11 u : Value} {T : TypeId} (h : w.heap[b]? = some (.cells #[x0, x1, x2, x3, x4, x5, x6, x7, x8, x9, x10, x11] T (0, 0))) : (w.setCell ⟨b, 10, none⟩ u).heap[b]? = some (.cells #[x0, x1, x2, x3, x4, x5, x6, x7, x8, x9, u, x11] T (0, 0)) := by
  simp [World.setCell, Array.getElem?_modify, h]
theorem side_start {w : World} {b : Nat} {x0 x1 x2 x3 x4 x5 x6 x7 x8 x10 : Value} {T : TypeId} (h : w.heap[b]? = some (.cells #[x0, x1, x2, x3, x4, x5, x6, x7, x8, .slice none 0 0, x10, .bool false] T (0, 0))) : SideBox w.heap.size b w (.slice none 0 0) [] false := by
  obtain ⟨h1, h2⟩ := box12 h
  exact ⟨⟨h1.c9, h2.f9, World.ownsRow_nil _ _ _ _, (Array.getElem?_eq_some_iff.1 h).1⟩, h1.c11, h2.f11⟩
theorem side_end {w w' : World} {b : Nat} {x0 x1 x2 x3 x4 x5 x6 x7 x8 x9 x10 x11 v : Value} {T : TypeId} {B : Nat} {ss : List Bytes} {c : Bool} (h : w.heap[b]? = some (.cells #[x0, x1, x2, x3, x4, x5, x6, x7, x8, x9, x10, x11] T (0, 0))) (hk : Keep b w w') (hS : SideBox B b w' v ss c) : Box12 w' b x0 x1 x2 x3 x4 x5 x6 x7 x8 v x10 (.bool c) := by
  obtain ⟨h1, h2⟩ := box12 h
  exact ⟨(hk.only 0 _ (by decide) (by decide) h1.c0).1, (hk.only 1 _ (by decide) (by decide) h1.c1).1, (hk.only 2 _ (by decide) (by decide) h1.c2).1, (hk.only 3 _ (by decide) (by decide) h1.c3).1, (hk.only 4 _ (by decide) (by decide) h1.c4).1, (hk.only 5 _ (by decide) (by decide) h1.c5).1, (hk.only 6 _ (by decide) (by decide) h1.c6).1, (hk.only 7 _ (by decide) (by decide) h1.c7).1, (hk.only 8 _ (by decide) (by decide) h1.c8).1, hS.str.cell, (hk.only 10 _ (by decide) (by decide) h1.c10).1, hS.cell⟩
theorem strs_own {w : World} {base n c : Nat} {A : Option Addr} {ss : List Bytes} (h : w.ownsRow base 9 1 (.slice A n c) n (strCells ss)) (hn : n = ss.length) : StrsT w ss A n c := by
  obtain ⟨A', c', e, h4⟩ := StrsAt.own h hn
  injection e with e1 e2 e3
  rw [e1, e3]
  refine ⟨h4, ?_⟩
  rcases h.2 with ⟨e, h0⟩ | ⟨g, cap, cur, hv, hg, hh, _⟩
  · left; exact List.length_eq_zero_iff.1 (by omega)
  · injection hv with hv1
    right
    exact ⟨g, 0, cur, _, by rw [← e1, hv1], hh⟩
theorem side_res (tmps : Array Value) (W : World) (g : Nat) {x0 x1 x2 x3 x4 x5 x6 x7 x8 x9 x10 x11 : Value} (ht : tmps[2]?.getD undef = .pointer (some ⟨g, 0, none⟩)) (hb : Box12 W g x0 x1 x2 x3 x4 x5 x6 x7 x8 x9 x10 x11) :
    (results Tryz.f16 tmps).run Tryz.prog W = .ok (.agg #[x0, x1, x2, x3, x4, x5, x6, x7, x8, x9, x10, x11]) W := by
  obtain ⟨a0, a1, a2, a3, a4, a5, a6, a7, a8, a9, a10, a11⟩ := hb
  simp [results, Tryz.results16, go_sem, ht, a0, a1, a2, a3, a4, a5, a6, a7, a8, a9, a10, a11]
set_option maxRecDepth 20000 in
set_option maxHeartbeats 4000000 in
theorem p_look_n (k : Nat) (ps : List Int) (os ns : List Tree) (pA : Option Addr) (pn pc : Nat) (i j : Int) (f t : ByteArray) (oA : Option Addr) (on oc : Nat) (nA : Option Addr) (nn nc : Nat) (w : World)
    (ho : KidsAt w os oA on oc) (hn : KidsAt w ns nA nn nc) (hk : k ≠ 1) (hpos : 0 < on + nn) (hos : szL os ≤ 1000) (hns : szL ns ≤ 1000) (sho : shortL 281474976710656 os) (shn : shortL 281474976710656 ns) :
    Calls Tryz.prog 16 #[.agg #[.int .u8 k, .slice pA pn pc, .int .i64 i, .int .i64 j, .string f, .string t, .slice oA on oc, .slice nA nn nc]] w
      (LookPost ⟨k, ps, i, j, bl f, bl t, os, ns⟩ (.int .u8 k) (.slice pA pn pc) (.int .i64 i) (.int .i64 j) (.string f) (.string t) (.slice oA on oc) (.slice nA nn nc) w) := by
  have q1 : ((k : Int) == 1) = false := by simp; omega
  have HF := Lib.hid (lookW_facts w (.int .u8 k) (.slice pA pn pc) (.int .i64 i) (.int .i64 j) (.string f) (.string t) (.slice oA on oc) (.slice nA nn nc))
  have hlo := len_sz os
  have hln := len_sz ns
  have HLO : Hid (on = os.length) := ho.1
  have HLN : Hid (nn = ns.length) := hn.1
  have hon : on ≤ 1000 := by rw [HLO.out]; omega
  have hnn : nn ≤ 1000 := by rw [HLN.out]; omega
  have HO := Lib.hid ho
  have HN := Lib.hid hn
  have HSH := Lib.hid (short_append sho shn)
  have HSZ : Hid (szL (os ++ ns) ≤ 1000000) := by show _ ≤ _; rw [sz_append]; omega
  clear ho hn sho shn
  go_enter Tryz.func16, Tryz.ntmps16
  go_wp2_with fail
  refine (p_concat os ns (w.heap.size + 1 + 1 + 1) oA on oc nA nn nc w (lookW w (.int .u8 k) (.slice pA pn pc) (.int .i64 i) (.int .i64 j) (.string f) (.string t) (.slice oA on oc) (.slice nA nn nc)) HF.out.1 ((cell_of_row _ _ 0 _ _ (0, 0) HF.out.2.2.2.2).trans rfl) ((cell_of_row _ _ 1 _ _ (0, 0) HF.out.2.2.2.2).trans rfl) HO.out HN.out hpos (by omega)).mono ?_
  rintro en w1 ⟨v1, cs, rfl, hown, hread, hb1⟩
  have HB1 := Lib.hid (bthen HF.out.1 hb1)
  have HR1 : Hid (w1.heap[w.heap.size + 1]? = some (.cells #[.int .u8 0, .slice none 0 0, .int .i64 0, .int .i64 0, .string ⟨#[]⟩, .string ⟨#[]⟩, .slice none 0 0, .slice none 0 0, .slice none 0 0, .slice none 0 0, .bool false, .bool false] 45 (0, 0))) := (hb1.block _ (by rw [HF.out.2.1]; omega)).trans HF.out.2.2.1
  have HX1 : Hid (w1.heap[w.heap.size + 1 + 1]? = some (.cells #[.int .u8 k, .slice pA pn pc, .int .i64 i, .int .i64 j, .string f, .string t, .slice oA on oc, .slice nA nn nc, .slice none 0 0, .slice none 0 0, .bool false, .bool false] 45 (0, 0))) := (hb1.block _ (by rw [HF.out.2.1]; omega)).trans HF.out.2.2.2.1
  have HS1 : Hid (w.heap.size + 4 ≤ w1.heap.size) := by show _ ≤ _; have := hb1.size; rw [HF.out.2.1] at this; exact this
  obtain ⟨A, c, rfl, hk1⟩ := hread.done hown (by rw [List.length_append, ← HLO.out, ← HLN.out]) HB1.out
  have HK1 := Lib.hid hk1
  have HON := Lib.hid (only_parts (b := w.heap.size + 1 + 1) hread hown (by rw [List.length_append, ← HLO.out, ← HLN.out]) HB1.out (by omega) (by rw [HF.out.2.1]; omega))
  clear hown hread hb1 hk1
  go_wp2_with fail
  refine (p_names (os ++ ns) A (on + nn) c _ HK1.out HSH.out HSZ.out).mono ?_
  rintro en w2 ⟨v2, rfl, hb2, ns2, hm2, hl2, ho2⟩
  obtain ⟨A2, c2, rfl, ka, kb⟩ := own_form ho2
  clear ka kb
  have HB2 := Lib.hid hb2
  have HO2 := Lib.hid ho2
  have HM2 := Lib.hid hm2
  have HX2 := Lib.hid ((hb2.block _ (by have := HS1.out; omega)).trans HX1.out)
  have HR2 := Lib.hid ((hb2.block _ (by have := HS1.out; omega)).trans HR1.out)
  have c8 := (box12 HX2.out).1.c8
  have f8 := (box12 HX2.out).2.f8
  clear hb2 ho2 hm2
  go_wp2_with fail
  have HBT2 : Hid (But (notB (w.heap.size + 1 + 1)) w1 (w2.setCell ⟨w.heap.size + 1 + 1, 8, none⟩ (.slice A2 ns2.length c2))) := (But.below HB2.out).set (notB_self _) _
  have HON2 := Lib.hid (OnlyK.but HON.out HBT2.out)
  refine (p_any_params (os ++ ns) A (on + nn) c _ (OnlyK.kids HON2.out)).mono ?_
  rintro en w3 ⟨rfl, hb3⟩
  have HB3 := Lib.hid hb3
  have hs2 : w.heap.size + 4 ≤ w2.heap.size := Nat.le_trans HS1.out HB2.out.size
  have HX3 := Lib.hid ((hb3.block _ (by simp; omega)).trans (box_set8 (u := .slice A2 ns2.length c2) HX2.out))
  have HR3 := Lib.hid ((hb3.block _ (by simp; omega)).trans ((Below.heap_setCell w2 ⟨w.heap.size + 1 + 1, 8, none⟩ (.slice A2 ns2.length c2) (w.heap.size + 1) (by simp)).trans HR2.out))
  clear c8 f8
  have c10 := (box12 HX3.out).1.c10
  have f10 := (box12 HX3.out).2.f10
  have hs3 : w.heap.size + 4 ≤ w3.heap.size := by have := hb3.size; simp at this; omega
  clear hb3
  go_wp2_with fail
  have HX4 := Lib.hid (box_set10 (u := .bool (paramsL (os ++ ns))) HX3.out)
  have HSB := Lib.hid (side_start HX4.out)
  have HBT3 : Hid (But (notB (w.heap.size + 1 + 1)) (w2.setCell ⟨w.heap.size + 1 + 1, 8, none⟩ (.slice A2 ns2.length c2)) (w3.setCell ⟨w.heap.size + 1 + 1, 10, none⟩ (.bool (paramsL (os ++ ns))))) := (But.below HB3.out).set (notB_self _) _
  have HON3 := Lib.hid (OnlyK.but HON2.out HBT3.out)
  refine (p_swap_each (os ++ ns) A (on + nn) c [] false (w.heap.size + 1 + 1) _ _ _ HON3.out (Keep.refl _ _) HSB.out (by have := HSZ.out; simp; omega)).mono ?_
  rintro en w4 ⟨rfl, hk4, v4, hS4⟩
  have HK4 := Lib.hid hk4
  have e4 : (bindsMore [] (os ++ ns)) = bindsL (os ++ ns) := rfl
  have e5 : (callsMore false (os ++ ns)) = callsL (os ++ ns) := by simp [callsMore]
  rw [e4, e5] at hS4
  clear e4 e5
  obtain ⟨A4, c4, rfl, ka, kb⟩ := own_form hS4.str.own
  clear ka kb
  have HS4 := Lib.hid hS4
  have HR4 := Lib.hid ((hk4.old (w.heap.size + 1) (by simp; omega) (by omega)).trans ((Below.heap_setCell w3 ⟨w.heap.size + 1 + 1, 10, none⟩ (.bool (paramsL (os ++ ns))) (w.heap.size + 1) (by simp)).trans HR3.out))
  clear c10 f10
  obtain ⟨d0, d1, d2, d3, d4, d5, d6, d7, d8, d9, d10, d11⟩ := side_end HX4.out hk4 hS4
  obtain ⟨r0, r1, r2, r3, r4, r5, r6, r7, r8, r9, r10, r11⟩ := (box12 HR4.out).1
  obtain ⟨s0, s1, s2, s3, s4, s5, s6, s7, s8, s9, s10, s11⟩ := (box12 HR4.out).2
  clear hk4 hS4
  go_wp2_with fail
  have HBW : Hid (But (notB (w.heap.size + 1)) w4 (put12 w4 (w.heap.size + 1) (.int .u8 k) (.slice pA pn pc) (.int .i64 i) (.int .i64 j) (.string f) (.string t) (.slice oA on oc) (.slice nA nn nc) (.slice A2 ns2.length c2) (.slice A4 (bindsL (os ++ ns)).length c4) (.bool (paramsL (os ++ ns))) (.bool (callsL (os ++ ns))))) := put12_but (But.refl _ _) (notB_self _)
  have HBLW : Hid (Below w.heap.size w (put12 w4 (w.heap.size + 1) (.int .u8 k) (.slice pA pn pc) (.int .i64 i) (.int .i64 j) (.string f) (.string t) (.slice oA on oc) (.slice nA nn nc) (.slice A2 ns2.length c2) (.slice A4 (bindsL (os ++ ns)).length c4) (.bool (paramsL (os ++ ns))) (.bool (callsL (os ++ ns))))) := by
    have h1 : Below w.heap.size w (w2.setCell ⟨w.heap.size + 1 + 1, 8, none⟩ (.slice A2 ns2.length c2)) := (bthen HB1.out HB2.out).setCell (p := ⟨w.heap.size + 1 + 1, 8, none⟩) (by simp; omega) _
    have h2 : Below w.heap.size w (w3.setCell ⟨w.heap.size + 1 + 1, 10, none⟩ (.bool (paramsL (os ++ ns)))) := (bthen h1 HB3.out).setCell (p := ⟨w.heap.size + 1 + 1, 10, none⟩) (by simp; omega) _
    have h3 : Below w.heap.size w w4 := h2.trans (HK4.out.bel.mono (by omega))
    exact put12_below h3 (by omega)
  have HNW : Hid (StrsT (put12 w4 (w.heap.size + 1) (.int .u8 k) (.slice pA pn pc) (.int .i64 i) (.int .i64 j) (.string f) (.string t) (.slice oA on oc) (.slice nA nn nc) (.slice A2 ns2.length c2) (.slice A4 (bindsL (os ++ ns)).length c4) (.bool (paramsL (os ++ ns))) (.bool (callsL (os ++ ns)))) ns2 A2 ns2.length c2) := by
    have h1 := own_but HO2.out (fun g hg => notB_ne (b := w.heap.size + 1 + 1) (by have := HS1.out; omega)) ((But.below (Below.refl _ _)).set (p := ⟨w.heap.size + 1 + 1, 8, none⟩) (u := .slice A2 ns2.length c2) (notB_self _))
    have h2 := own_but h1 (fun g hg => notB_ne (b := w.heap.size + 1 + 1) (by have := HS1.out; omega)) (HBT3.out.trans (But.of_keep HK4.out (notB_self _)))
    have h3 := own_but h2 (fun g hg => notB_ne (b := w.heap.size + 1) (by have := HS1.out; omega)) HBW.out
    exact strs_own h3 rfl
  have HBI : Hid (StrsT (put12 w4 (w.heap.size + 1) (.int .u8 k) (.slice pA pn pc) (.int .i64 i) (.int .i64 j) (.string f) (.string t) (.slice oA on oc) (.slice nA nn nc) (.slice A2 ns2.length c2) (.slice A4 (bindsL (os ++ ns)).length c4) (.bool (paramsL (os ++ ns))) (.bool (callsL (os ++ ns)))) (bindsL (os ++ ns)) A4 (bindsL (os ++ ns)).length c4) := by
    have h3 := own_but HS4.out.str.own (fun g hg => notB_ne (b := w.heap.size + 1) (by simp at hg; omega)) HBW.out
    exact strs_own h3 rfl
  refine bodyPost_ret (side_res _ _ (w.heap.size + 1) rfl (put12_box (v0 := .int .u8 k) (v1 := .slice pA pn pc) (v2 := .int .i64 i) (v3 := .int .i64 j) (v4 := .string f) (v5 := .string t) (v6 := .slice oA on oc) (v7 := .slice nA nn nc) (v8 := .slice A2 ns2.length c2) (v9 := .slice A4 (bindsL (os ++ ns)).length c4) (v10 := .bool (paramsL (os ++ ns))) (v11 := .bool (callsL (os ++ ns))) (box12 HR4.out).1)) rfl ?_
  have ep : Edt.params ⟨k, ps, i, j, bl f, bl t, os, ns⟩ = paramsL (os ++ ns) := by unfold Edt.params; rw [if_neg hk]; rfl
  have ec : Edt.calls ⟨k, ps, i, j, bl f, bl t, os, ns⟩ = callsL (os ++ ns) := by unfold Edt.calls; rw [if_neg hk]; rfl
  have en : Edt.names ⟨k, ps, i, j, bl f, bl t, os, ns⟩ = namesL (os ++ ns) := by unfold Edt.names; rw [if_neg hk]; rfl
  have eb : Edt.binds ⟨k, ps, i, j, bl f, bl t, os, ns⟩ = bindsL (os ++ ns) := by unfold Edt.binds; rw [if_neg hk]; rfl
  refine ⟨ns2, A2, ns2.length, c2, A4, (bindsL (os ++ ns)).length, c4, by rw [ep, ec], by rw [en]; exact HM2.out, HNW.out, by rw [eb]; exact HBI.out, HBLW.out⟩
end Go.Proofs.YtmikjhohnfcedaaGreatDoor

namespace Go.Proofs.YtmikjhohnfcedaaGreatDoor
set_option linter.unusedSimpArgs false
set_option linter.unusedVariables false
open Go.RowKit
set_option linter.unusedSimpArgs false
set_option linter.unusedVariables false

theorem part_pos {ts : List Tree} (h : partB ts = true) : 0 < ts.length := by
  cases ts with
  | nil => simp [partB] at h
  | cons t ts => simp
theorem p_look (e : Edt) (k : Nat) (pA : Option Addr) (pn pc : Nat) (i j : Int) (f t : ByteArray) (oA : Option Addr) (on oc : Nat) (nA : Option Addr) (nn nc : Nat) (w : World)
    (h : EditIs w e k pA pn pc i j f t oA on oc nA nn nc) (ht : e.tiny) (hr : editRight e = true) :
    Calls Tryz.prog 16 #[.agg #[.int .u8 k, .slice pA pn pc, .int .i64 i, .int .i64 j, .string f, .string t, .slice oA on oc, .slice nA nn nc]] w
      (LookPost e (.int .u8 k) (.slice pA pn pc) (.int .i64 i) (.int .i64 j) (.string f) (.string t) (.slice oA on oc) (.slice nA nn nc) w) := by
  obtain ⟨ps, os, ns, rfl, hp, ho, hn⟩ := h
  by_cases hk : k = 1
  · subst hk
    exact p_look_1 ps os ns pA pn pc i j f t oA on oc nA nn nc w
  · have hR := ((right_iff _).1 hr).2
    have hpos : 0 < on + nn := by
      have e1 := ho.1
      have e2 := hn.1
      unfold RightIs at hR
      simp only at hR
      rcases hR with ⟨h, _⟩ | ⟨_, _, _, _, _, h⟩ | ⟨_, _, _, _, _, h⟩ | ⟨_, _, _, _, _, _, h, _⟩ | ⟨_, _, _, _, _, h⟩
      · exact absurd h hk
      all_goals (have := part_pos h; omega)
    exact p_look_n k ps os ns pA pn pc i j f t oA on oc nA nn nc w ho hn hk hpos (Nat.le_trans (tiny_olds ht) (by omega)) (Nat.le_trans (tiny_news ht) (by omega)) (tiny_sho ht (by omega)) (tiny_shn ht (by omega))
end Go.Proofs.YtmikjhohnfcedaaGreatDoor

namespace Go.Proofs.YtmikjhohnfcedaaGreatDoor
set_option linter.unusedSimpArgs false
set_option linter.unusedVariables false
open Go.RowKit
set_option linter.unusedSimpArgs false

theorem StrsAt.get {w : World} {ss : List Bytes} {A : Option Addr} {n c : Nat} (h : StrsAt w ss A n c) {i : Nat} (hi : i < n) : ∃ b o s, A = some ⟨b, o, none⟩ ∧ ss[i]? = some s ∧ w.cell? ⟨b, o + i, none⟩ = some (.string (sb s)) := by
  obtain ⟨h1, h2, h3, h4⟩ := h
  have hi' : i < ss.length := by omega
  rcases h4 with e | ⟨b, o, e, h5⟩
  · subst e; simp at hi'
  · exact ⟨b, o, ss[i], e, List.getElem?_eq_getElem hi', h5 i _ (List.getElem?_eq_getElem hi')⟩
theorem StrsAt.drewN {w : World} {ss : List Bytes} {A : Option Addr} {n c : Nat} (h : StrsAt w ss A n c) (d : Nat) : StrsAt (w.drewN d) ss A n c := h.keep fun _ _ h => by rw [World.cell?_drewN]; exact h
theorem contains_sb (ss : List Bytes) (x : ByteArray) : Lib.containsS (ss.map sb) x = ss.contains (bl x) := by
  rw [Bool.eq_iff_iff, Lib.containsS_iff]
  simp only [List.contains_eq_mem, decide_eq_true_eq, List.mem_map]
  constructor
  · rintro ⟨s, hs, rfl⟩; exact hs
  · intro h; exact ⟨bl x, h, mk_bl x⟩
theorem p_contains_strs (ss : List Bytes) (A : Option Addr) (n c : Nat) (x : ByteArray) (w : World) (h : StrsAt w ss A n c) :
    Calls Tryz.prog 59 #[.slice A n c, .string x] w fun e w' => e = .returned (.bool (ss.contains (bl x))) ∧ w' = w := by
  obtain ⟨h1, h2, h3, h4⟩ := h
  by_cases h0 : ss = []
  · subst h0
    have : n = 0 := h1
    subst this
    refine (Tryz.slices_Contains_string_empty A c x w).mono ?_
    rintro e w1 ⟨rfl, rfl⟩
    exact ⟨rfl, rfl⟩
  · rcases h4 with e | ⟨b, o, rfl, h5⟩
    · exact absurd e h0
    · refine (Tryz.slices_Contains_string b o n c (ss.map sb) x w (by simp; omega) (by unfold maxLen at h3; omega) (fun j hj => ?_)).mono ?_
      · rw [List.length_map] at hj
        rw [h5 j _ (List.getElem?_eq_getElem hj)]
        simp [List.getD, hj]
      · rintro e w1 ⟨rfl, rfl⟩
        refine ⟨?_, rfl⟩
        rw [List.take_of_length_le (by simp; omega), contains_sb]
set_option maxRecDepth 20000 in
set_option maxHeartbeats 1000000 in
theorem p_has (ss : List Bytes) (A : Option Addr) (n c b : Nat) (x : ByteArray) (w : World) (hc : w.cell? ⟨b, 0, none⟩ = some (.slice A n c)) (h : StrsAt w ss A n c) :
    Calls Tryz.prog 71 #[.string x, .pointer (some ⟨b, 0, none⟩)] w fun e w' => e = .returned (.bool (ss.contains (bl x))) ∧ w' = w := by
  have H := Lib.hid h
  clear h
  go_enter Tryz.func71, Tryz.ntmps71
  go_wp2_with fail
  refine (p_contains_strs ss _ _ _ _ _ H.out).mono ?_
  rintro e w1 ⟨rfl, rfl⟩
  go_wp2
  go_ret
  exact ⟨ret_bool (by simp), rfl⟩
theorem enter_has (args : Array Value) (w : World) : (callFunc 71 args).run Tryz.prog w = .ok (.enter 71 args) w := run_enter Tryz.func71 (by kernel_rfl) (by kernel_rfl) args w
theorem among_step {ns os : List Bytes} {j : Nat} {s : Bytes} (h : amongB ns os = amongB ns (os.drop j)) (hx : os[j]? = some s) : amongB ns os = (ns.contains s || amongB ns (os.drop (j + 1))) := by
  have h1 : j < os.length := (List.getElem?_eq_some_iff.1 hx).1
  rw [h, List.drop_eq_getElem_cons h1]
  rw [List.getElem?_eq_getElem h1] at hx
  injection hx with hx
  rw [hx]
  rfl
def IndexW (b : Bool) (w : World) (e : Ending) (w' : World) : Prop := w' = w ∧ ∃ i : Int, e = .returned (.int .i64 i) ∧ (0 ≤ i ↔ b = true)
theorem IndexW.intro {b : Bool} {w : World} {i : Int} (h : 0 ≤ i ↔ b = true) : IndexW b w (.returned (.int .i64 i)) w := ⟨rfl, i, rfl, h⟩
set_option maxRecDepth 20000 in
set_option maxHeartbeats 1000000 in
theorem p_index_has (ns os : List Bytes) (nA : Option Addr) (nn nc : Nat) (b : Nat) (A : Option Addr) (n c : Nat) (w : World) (hc : w.cell? ⟨b, 0, none⟩ = some (.slice nA nn nc)) (hN : StrsAt w ns nA nn nc) (hO : StrsAt w os A n c) :
    Calls Tryz.prog 96 #[.slice A n c, .func (.func 71) #[] #[.pointer (some ⟨b, 0, none⟩)]] w (IndexW (amongB ns os) w) := by
  have HN := Lib.hid hN
  have HO := Lib.hid hO
  have HC := Lib.hid hc
  have hnn : n ≤ 9223372036854775807 := by have h1 := hO.2.1; have h2 := hO.2.2.1; unfold maxLen at h2; omega
  have HL : Hid (n = os.length) := hO.1
  have hcf := enter_has
  clear hN hO hc
  go_enter Tryz.func96, Tryz.ntmps96
  go_wp2_with fail
  go_loopw [8] (fun i wr => ∃ j : Nat, j ≤ n ∧ i = .int .i64 j ∧ w = wr ∧ Hid (amongB ns os = amongB ns (os.drop j))) (fun i _ => n - (intOf i).toNat)
  case atStart => exact ⟨0, Nat.zero_le _, rfl, rfl, rfl⟩
  case round =>
    obtain ⟨j, hj, rfl, rfl, HI⟩ := hrel
    by_cases hlt : j < n
    · obtain ⟨b', o, s, rfl, hs, q0⟩ := HO.out.get hlt
      have HST := Lib.hid (among_step HI.out hs)
      clear hs
      cases hn : ns.contains s with
      | false =>
        have HNN := Lib.hid hn
        have HN2 : Hid (amongB ns os = amongB ns (os.drop (j + 1))) := by show _ = _; rw [HST.out, hn]; rfl
        clear hn
        go_wp2_with fail
        refine (p_has ns _ _ _ b (sb s) _ HC.out HN.out).mono ?_
        rintro e w3 ⟨rfl, rfl⟩
        rw [bl_mk, HNN.out]
        go_wp2
        go_roundw
        case rel => exact ⟨j + 1, by omega, by go_num, trivial, HN2⟩
        case measure => simp [intOf]; omega
      | true =>
        have HNN := Lib.hid hn
        have HV : Hid (amongB ns os = true) := by show _ = _; rw [HST.out, hn]; rfl
        clear hn
        go_wp2_with fail
        refine (p_has ns _ _ _ b (sb s) _ HC.out HN.out).mono ?_
        rintro e w3 ⟨rfl, rfl⟩
        rw [bl_mk, HNN.out]
        go_wp2
        go_ret
        exact IndexW.intro (by rw [HV.out]; simp)
    · have HV : Hid (amongB ns os = false) := by
        show _ = _; have e1 := HL.out
        rw [HI.out, List.drop_eq_nil_of_le (by omega)]; rfl
      go_wp2_with fail
      go_ret
      exact IndexW.intro (by rw [HV.out]; simp)
theorem p_any_has (ns os : List Bytes) (nA : Option Addr) (nn nc : Nat) (b : Nat) (A : Option Addr) (n c : Nat) (w : World) (hc : w.cell? ⟨b, 0, none⟩ = some (.slice nA nn nc)) (hN : StrsAt w ns nA nn nc) (hO : StrsAt w os A n c) :
    Calls Tryz.prog 70 #[.slice A n c, .func (.func 71) #[] #[.pointer (some ⟨b, 0, none⟩)]] w fun e w' => e = .returned (.bool (amongB ns os)) ∧ w' = w := by
  have HN := Lib.hid hN
  have HO := Lib.hid hO
  have HC := Lib.hid hc
  clear hN hO hc
  go_enter Tryz.func70, Tryz.ntmps70
  go_wp2_with fail
  refine (p_index_has ns os _ _ _ b _ _ _ _ HC.out HN.out HO.out).mono ?_
  rintro e w1 ⟨rfl, i, rfl, hi⟩
  have HI := Lib.hid hi
  clear hi
  go_wp2
  go_ret
  exact ⟨ret_bool (by rw [Bool.eq_iff_iff, ← HI.out]; simp), rfl⟩
set_option maxRecDepth 20000 in
set_option maxHeartbeats 1000000 in
theorem p_among_strs (ns os : List Bytes) (nA : Option Addr) (nn nc : Nat) (A : Option Addr) (n c : Nat) (w : World) (hN : StrsAt w ns nA nn nc) (hO : StrsAt w os A n c) :
    Calls Tryz.prog 43 #[.slice nA nn nc, .slice A n c] w (NamePost (amongB ns os) w) := by
  have hb0 : Below w.heap.size w (w.alloc (.cells #[.slice nA nn nc] 35)) := (Below.refl _ _).alloc (Nat.le_refl _) _
  have HB0 := Lib.hid hb0
  have HN := Lib.hid (hN.below hb0)
  have HO := Lib.hid (hO.below hb0)
  have HC : Hid ((w.alloc (.cells #[.slice nA nn nc] 35)).cell? ⟨w.heap.size, 0, none⟩ = some (.slice nA nn nc)) := (cell_of_row _ _ 0 _ _ (0, 0) (heap_alloc_new _ _)).trans rfl
  clear hb0 hN hO
  go_enter Tryz.func43, Tryz.ntmps43
  go_wp2_with fail
  refine (p_any_has ns os _ _ _ w.heap.size _ _ _ _ HC.out HN.out HO.out).mono ?_
  rintro e w1 ⟨rfl, rfl⟩
  go_wp2
  go_ret
  exact NamePost.intro rfl HB0.out
theorem among_same {ns ns' os : List Bytes} (h : ∀ s, s ∈ ns' ↔ s ∈ ns) : amongB ns' os = amongB ns os := by
  unfold amongB
  congr 1
  funext s
  rw [Bool.eq_iff_iff]
  simp [h s]
end Go.Proofs.YtmikjhohnfcedaaGreatDoor
