/- The walks over the lexer's reader: left, while; and pass. -/
import Derived.Test.YtjdofndkdkeapaaGreatDoorLexProg
import Derived.Deep.DeepMust
import Derived.Deep.DeepCutAuto
import Derived.Deep.CutBlock
namespace Go.Proofs.YtjdofndkdkeapaaGreatDoor.Lx
open Go.RowKit

/-- The lexer's block: its text, where it is, its tokens so far. -/
def Lx (w : World) (b : Nat) (s : ByteArray) (k : Nat) (v : Value) : Prop := w.heap[b]? = some (.cells #[.string s, .int .i64 k, v] 60 (0, 0))
theorem Lx.box {w : World} {b : Nat} {s : ByteArray} {k : Nat} {v : Value} (h : Lx w b s k v) : Box3 w b (.string s) (.int .i64 k) v := box3 h
theorem Lx.lt {w : World} {b : Nat} {s : ByteArray} {k : Nat} {v : Value} (h : Lx w b s k v) : b < w.heap.size := by
  unfold Lx at h
  rcases Nat.lt_or_ge b w.heap.size with hl | hl
  · exact hl
  · rw [Array.getElem?_eq_none hl] at h; cases h
theorem Lx.drewN {w : World} {b : Nat} {s : ByteArray} {k : Nat} {v : Value} (h : Lx w b s k v) (n : Nat) : Lx (w.drewN n) b s k v := h
theorem Lx.below {w w' : World} {b B : Nat} {s : ByteArray} {k : Nat} {v : Value} (h : Lx w b s k v) (hb : Below B w w') (hB : b < B) : Lx w' b s k v := (hb.block b hB).trans h

def DrawnPost (v : Value) (w : World) (e : Ending) (w' : World) : Prop := e = .returned v ∧ ∃ n, w' = w.drewN n

set_option maxHeartbeats 400000 in
theorem p_left (s : ByteArray) (b k : Nat) (v : Value) (w : World) (h : Lx w b s k v) (hk : k ≤ s.size) (_hs : s.size ≤ 9223372036854775807) :
    Calls Tryz.prog 28 #[.pointer (some ⟨b, 0, none⟩)] w (DrawnPost (.string (s.extract k s.size)) w) := by
  have hbx := h.box
  have hx0 := hbx.c0; have hx1 := hbx.c1
  clear hbx h
  go_enter Tryz.func28, Tryz.ntmps28
  go_wp2
  go_quiet (fail)
  go_wp2
  go_ret
  exact ⟨rfl, _, rfl⟩

theorem tail_get (s : ByteArray) (k j : Nat) (h : j < (s.extract k s.size).size) (h' : k + j < s.size) : (s.extract k s.size)[j] = s[k + j] := by
  have h1 := bl_get (s.extract k s.size) j h
  have h2 := bl_get s (k + j) h'
  have h3 : bl (s.extract k s.size) = (bl s).drop k := Lib.extract_to_end s k
  rw [h3, List.getElem?_drop, h2] at h1
  injection h1 with h1
  exact h1.symm
theorem tail_size (s : ByteArray) (k : Nat) : (s.extract k s.size).size = s.size - k := by
  have h3 : bl (s.extract k s.size) = (bl s).drop k := Lib.extract_to_end s k
  rw [← bl_len, h3, List.length_drop, bl_len]

theorem DrawnPost.two {v v' : Value} {w : World} {n : Nat} (h : v' = v) : DrawnPost v w (.returned v') (w.drewN n) := ⟨by rw [h], n, rfl⟩
theorem tail_cut (s : ByteArray) (k j : Nat) {l : Bytes} (h : l = ((bl s).drop k).take (k + j - k)) : (s.extract k s.size).extract 0 j = sb l := by
  apply bl_inj
  rw [h]
  have h1 : bl ((s.extract k s.size).extract 0 j) = ((bl (s.extract k s.size)).drop 0).take (j - 0) := Lib.extract_data _ 0 j
  have h2 : bl (s.extract k s.size) = (bl s).drop k := Lib.extract_to_end s k
  rw [h1, h2, bl_mk]
  simp
set_option maxHeartbeats 1000000 in
theorem p_while (f : Nat) (p : UInt8 → Bool) (hcf : ∀ (args : Array Value) (w : World), (callFunc f args).run Tryz.prog w = .ok (.enter f args) w) (hF : Hid (∀ (c : UInt8) (w : World), Calls Tryz.prog f #[.int .u8 c.toNat] w fun e w' => e = .returned (.bool (p c)) ∧ w = w'))
    (s : ByteArray) (b k : Nat) (v : Value) (w : World) (h : Lx w b s k v) (hk : k ≤ s.size) (hs : s.size ≤ 9223372036854775806) :
    Calls Tryz.prog 24 #[.pointer (some ⟨b, 0, none⟩), .func (.func f) #[] #[]] w (DrawnPost (.string (sb (((bl s).drop k).takeWhile p))) w) := by
  have HL := Lib.hid h
  have hts := tail_size s k
  have HTS := Lib.hid hts
  clear h hts
  go_enter Tryz.func24, Tryz.ntmps24
  go_wp2_with (go_at_call 28; refine (p_left s b k v _ HL.out hk (by omega)).mono ?_; rintro e w1 ⟨rfl, n1, rfl⟩)
  go_loop [5] (fun i => ∃ j : Nat, k + j ≤ s.size ∧ i = .int .i64 j ∧ Hid (Scan p s k (k + j))) (fun i => s.size - (intOf i).toNat)
  case atStart => exact ⟨0, hk, rfl, Scan.start hk⟩
  case round =>
    obtain ⟨j, hj, rfl, HS⟩ := hrel
    by_cases hlt : k + j < s.size
    · have hjl : j < (s.extract k s.size).size := by rw [HTS.out]; omega
      have HG := Lib.hid (tail_get s k j hjl hlt)
      have hjk : j < s.size - k := by omega
      cases hp : p s[k + j] with
      | true =>
        have HP := Lib.hid hp
        have HN : Hid (Scan p s k (k + (j + 1))) := by have := HS.out.step hlt hp; rwa [Nat.add_assoc] at this
        clear hp
        go_wp2_with (refine (hF.out _ _).mono ?_; rintro e w' ⟨rfl, rfl⟩; rw [HG.out, HP.out])
        go_round
        case rel => exact ⟨j + 1, by omega, by go_num, HN⟩
        case measure => simp [intOf]; omega
      | false =>
        have HP := Lib.hid hp
        have HE : Hid ((((bl s).drop k).takeWhile p) = ((bl s).drop k).take (k + j - k)) := HS.out.take (fun _ => hp)
        clear hp
        go_wp2_with (first | (go_at_call 28; refine (p_left s b k v _ (HL.out.drewN n1) hk (by omega)).mono ?_; rintro e w1 ⟨rfl, n2, rfl⟩) | (refine (hF.out _ _).mono ?_; rintro e w' ⟨rfl, rfl⟩; rw [HG.out, HP.out]))
        go_ret
        exact DrawnPost.two (congrArg Value.string (tail_cut s k j HE.out))
    · have HE : Hid ((((bl s).drop k).takeWhile p) = ((bl s).drop k).take (k + j - k)) := HS.out.take (fun h => absurd h hlt)
      have hjk : ¬ j < s.size - k := by omega
      go_wp2_with (go_at_call 28; refine (p_left s b k v _ (HL.out.drewN n1) hk (by omega)).mono ?_; rintro e w1 ⟨rfl, n2, rfl⟩)
      go_ret
      exact DrawnPost.two (congrArg Value.string (tail_cut s k j HE.out))

def passN (r : Bytes) : Nat := if ([47, 47] : Bytes).isPrefixOf r then (r.takeWhile (fun c => c.toNat != 10)).length else (r.takeWhile blankB).length
def PassPost (b : Nat) (k n : Nat) (w : World) (e : Ending) (w' : World) : Prop := e = .returned (.bool (decide (0 < n))) ∧ ∃ d, w' = (w.setCell ⟨b, 1, none⟩ (.int .i64 (k + n : Nat))).drewN d
theorem passN_le (s : ByteArray) (k : Nat) (hk : k ≤ s.size) : k + passN ((bl s).drop k) ≤ s.size := by
  have h1 := takeWhile_le (fun c => c.toNat != 10) ((bl s).drop k)
  have h2 := takeWhile_le blankB ((bl s).drop k)
  rw [List.length_drop, bl_len] at h1 h2
  unfold passN
  split <;> omega

theorem PassPost.intro {b k n m d : Nat} {w : World} (h : n = m) : PassPost b k n w (.returned (.bool (decide (0 < m)))) ((w.setCell ⟨b, 1, none⟩ (.int .i64 ((k : Int) + (m : Int)))).drewN d) :=
  ⟨by rw [h], d, by rw [h]; simp⟩
theorem enter_blank (args : Array Value) (w : World) : (callFunc 25 args).run Tryz.prog w = .ok (.enter 25 args) w := run_enter Tryz.func25 (by kernel_rfl) (by kernel_rfl) args w
theorem enter_line (args : Array Value) (w : World) : (callFunc 29 args).run Tryz.prog w = .ok (.enter 29 args) w := run_enter Tryz.func29 (by kernel_rfl) (by kernel_rfl) args w
theorem enter_wordy (args : Array Value) (w : World) : (callFunc 30 args).run Tryz.prog w = .ok (.enter 30 args) w := run_enter Tryz.func30 (by kernel_rfl) (by kernel_rfl) args w

set_option maxHeartbeats 1000000 in
theorem p_pass (s : ByteArray) (b k : Nat) (v : Value) (w : World) (h : Lx w b s k v) (hk : k ≤ s.size) (hs : s.size ≤ 1073741824) :
    Calls Tryz.prog 16 #[.pointer (some ⟨b, 0, none⟩)] w (PassPost b k (passN ((bl s).drop k)) w) := by
  have HL := Lib.hid h
  have hbx := h.box
  have hx0 := hbx.c0; have hx1 := hbx.c1; have hx2 := hbx.c2; have hy1 := hbx.f1
  have HPN := Lib.hid (passN_le s k hk)
  clear hbx h
  cases hc : ([47, 47] : Bytes).isPrefixOf ((bl s).drop k) with
  | true =>
    have HC : Hid (Lib.hasPrefix (s.extract k s.size).data.toList #[47, 47].toList = true) := by
      show Lib.hasPrefix (bl (s.extract k s.size)) [47, 47] = true
      rw [show bl (s.extract k s.size) = (bl s).drop k from Lib.extract_to_end s k]
      exact hc
    have HN : Hid (passN ((bl s).drop k) = (((bl s).drop k).takeWhile (fun c => c.toNat != 10)).length) := by show _ = _; unfold passN; rw [hc]; rfl
    clear hc
    go_enter Tryz.func16, Tryz.ntmps16
    go_wp2_with fail
    refine (p_while _ blankB enter_blank (Lib.hid p_blank) s b k v _ HL.out hk (by omega)).mono ?_
    rintro e w1 ⟨rfl, n1, rfl⟩
    go_wp2_with fail
    refine (p_left s b k v _ (HL.out.drewN n1) hk (by omega)).mono ?_
    rintro e w2 ⟨rfl, n2, rfl⟩
    go_wp2_with fail
    refine (Tryz.strings_HasPrefix _ _ _).mono ?_
    rintro e w3 ⟨rfl, rfl⟩
    rw [HC.out]
    have hle : k + (((bl s).drop k).takeWhile (fun c => c.toNat != 10)).length ≤ s.size := by rw [← HN.out]; exact HPN.out
    go_wp2_with fail
    refine (p_while _ (fun c => c.toNat != 10) enter_line (Lib.hid p_line) s b k v _ (HL.out.drewN (n1 + n2)) hk (by omega)).mono ?_
    rintro e w4 ⟨rfl, n3, rfl⟩
    go_wp2
    go_ret
    exact PassPost.intro HN.out
  | false =>
    have HC : Hid (Lib.hasPrefix (s.extract k s.size).data.toList #[47, 47].toList = false) := by
      show Lib.hasPrefix (bl (s.extract k s.size)) [47, 47] = false
      rw [show bl (s.extract k s.size) = (bl s).drop k from Lib.extract_to_end s k]
      exact hc
    have HN : Hid (passN ((bl s).drop k) = (((bl s).drop k).takeWhile blankB).length) := by show _ = _; unfold passN; rw [hc]; rfl
    clear hc
    go_enter Tryz.func16, Tryz.ntmps16
    go_wp2_with fail
    refine (p_while _ blankB enter_blank (Lib.hid p_blank) s b k v _ HL.out hk (by omega)).mono ?_
    rintro e w1 ⟨rfl, n1, rfl⟩
    go_wp2_with fail
    refine (p_left s b k v _ (HL.out.drewN n1) hk (by omega)).mono ?_
    rintro e w2 ⟨rfl, n2, rfl⟩
    go_wp2_with fail
    refine (Tryz.strings_HasPrefix _ _ _).mono ?_
    rintro e w3 ⟨rfl, rfl⟩
    rw [HC.out]
    have hle : k + (((bl s).drop k).takeWhile blankB).length ≤ s.size := by rw [← HN.out]; exact HPN.out
    go_wp2
    go_ret
    exact PassPost.intro HN.out
end Go.Proofs.YtjdofndkdkeapaaGreatDoor.Lx
