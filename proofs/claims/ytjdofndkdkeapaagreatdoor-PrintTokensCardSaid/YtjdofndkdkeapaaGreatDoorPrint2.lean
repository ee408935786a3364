/- The walks over WriteString, Len, put. -/
import Derived.Test.YtjdofndkdkeapaaGreatDoorPrint1
namespace Go.Proofs.YtjdofndkdkeapaaGreatDoor
open Go.RowKit
set_option linter.unusedSimpArgs false
set_option linter.unusedVariables false

theorem Tryz.infoU8 : (Tryz.prog.info? 5).map (fun i => (i.zero, i.size, i.bytes)) = some (some (.int .u8 0), 1, 1) := by kernel_rfl
theorem strCells_sb (x : Bytes) : Lib.strCells (sb x) = Lib.byteCells x := rfl
theorem byteCells_append (x y : Bytes) : Lib.byteCells (x ++ y) = Lib.byteCells x ++ Lib.byteCells y := by simp [Lib.byteCells]
/-- What a call leaves that printed x. -/
def PutPost (B b : Nat) (s : Bytes) (nm : Nat) (path : List Int) (d m : Nat) (w : World) (w' : World) : Prop := Prt w' B b s nm path d m ∧ Fr PTs B b w w'
set_option maxHeartbeats 2000000 in
set_option maxRecDepth 100000 in
theorem p_write {w : World} {B b : Nat} {s : Bytes} {nm : Nat} {path : List Int} {d m : Nat} (h : Prt w B b s nm path d m) (x : Bytes) (hl : s.length + x.length ≤ 140737488355328) :
    Calls Tryz.prog 90 #[.pointer (some ⟨b, 0, none⟩), .string (sb x)] w (fun e w' => e = .returned (.tuple #[.int .i64 x.length, .nilIface]) ∧ PutPost B b (s ++ x) nm path d m w w') := by
  obtain ⟨i0, hi, hz0, hz1, hz2⟩ := info_parts Tryz.infoU8
  obtain ⟨u, bv, mv, pv, h⟩ := h
  have HH := Lib.hid h
  have hsz : (sb x).size = x.length := by show x.toArray.size = _; simp
  clear h
  go_enter Tryz.func90, Tryz.ntmps90
  go_wp2_with fail
  refine (p_copycheck HH.out).mono ?_
  rintro e w1 ⟨rfl, h1, f1⟩
  have c1 := h1.box.cells.2.1
  have hown := h1.bytes
  have H1 := Lib.hid h1
  have F1 := Lib.hid f1
  have hB1 := h1.base
  clear h1 f1
  go_wp2_with (at_builtin; refine Lib.wpList_append_own_string _ rfl _ _ 49 9 rfl B 5 i0 Tryz.underlying49 Tryz.underlying9 hi hz0 hz1 hz2 _ _ _ rfl hown (sb x) rfl ?c3 ?c4 ?c5 ?_)
  case c3 => unfold maxLen; omega
  case c4 => omega
  case c5 => omega
  intro v' w2 hown' hgrow _
  obtain ⟨ao, n', cap, rfl⟩ : ∃ ao n' cap, v' = .slice ao n' cap := by
    rcases hown'.2 with ⟨hv, _⟩ | ⟨g, cap, cur, hv, _⟩
    · exact ⟨_, _, _, hv⟩
    · exact ⟨_, _, _, hv⟩
  have hp := H1.out.put_bytes (s' := s ++ x) hgrow (by simpa [hsz, strCells_sb, byteCells_append] using hown')
  have hb2 := hp.2.2
  have HP := Lib.hid hp
  have d0 := hb2.cells.1
  have d1 := hb2.cells.2.1
  have e1 := hb2.soft 1
  clear hp hb2 hown' hgrow hown
  go_wp2
  go_ret2
  exact ⟨rfl, ⟨_, _, _, _, HP.out.1⟩, F1.out.trans HP.out.2.1⟩
theorem p_len {w : World} {B b : Nat} {s : Bytes} {nm : Nat} {path : List Int} {d m : Nat} (h : Prt w B b s nm path d m) :
    Calls Tryz.prog 63 #[.pointer (some ⟨b, 0, none⟩)] w (fun e w' => e = .returned (.int .i64 s.length) ∧ w' = w) := by
  obtain ⟨u, bv, mv, pv, h⟩ := h
  obtain ⟨A, c, rfl, _⟩ := own_form h.bytes
  have c1 := h.box.cells.2.1
  clear h
  go_enter Tryz.func63, Tryz.ntmps63
  go_wp2
  go_ret
  exact ⟨rfl, rfl⟩
theorem flat_take (xs : List Bytes) (k : Nat) {x : Bytes} (h : xs[k]? = some x) : (xs.take (k + 1)).flatten = (xs.take k).flatten ++ x := by
  have hk : k < xs.length := (List.getElem?_eq_some_iff.1 h).1
  rw [List.take_succ_eq_append_getElem hk]
  rw [List.getElem?_eq_getElem hk] at h
  injection h with h
  simp [h]
theorem flat_take_le (xs : List Bytes) (k : Nat) : (xs.take k).flatten.length ≤ xs.flatten.length := by
  have : xs.flatten = (xs.take k).flatten ++ (xs.drop k).flatten := by rw [← List.flatten_append, List.take_append_drop]
  rw [this, List.length_append]
  omega
/-- A row of texts in a block of its own. -/
def TextRow (w : World) (g : Nat) (xs : List Bytes) : Prop := w.heap[g]? = some (.cells (xs.map fun x => Value.string (sb x)).toArray 9 (0, 0))
theorem TextRow.fr {w w' : World} {B b g : Nat} {xs : List Bytes} (h : TextRow w g xs) (hf : Fr PTs B b w w') (hb : g ≠ b) : TextRow w' g xs := by
  unfold TextRow at h ⊢
  rw [hf.keep g (Array.getElem?_eq_some_iff.1 h).1 hb ?_, h]
  rintro ⟨cs, T, fr, h1, h2⟩
  rw [h] at h1
  injection h1 with h1
  injection h1 with _ ht
  subst ht
  revert h2
  decide
theorem TextRow.cell {w : World} {g : Nat} {xs : List Bytes} (h : TextRow w g xs) {k : Nat} {x : Bytes} (hx : xs[k]? = some x) : w.cell? ⟨g, k, none⟩ = some (.string (sb x)) := by
  have := cell_of_row w g k _ 9 (0, 0) h
  rw [this]
  simp [hx]
theorem Prt.not_text {w : World} {B b : Nat} {s : Bytes} {nm : Nat} {path : List Int} {d m : Nat} (h : Prt w B b s nm path d m) {g : Nat} {xs : List Bytes} (hx : TextRow w g xs) : g ≠ b := by
  obtain ⟨u, bv, mv, pv, h⟩ := h
  rintro rfl
  have hb := h.box
  unfold PBox at hb
  unfold TextRow at hx
  rw [hx] at hb
  injection hb with hb
  injection hb with _ ht
  revert ht
  decide
set_option maxHeartbeats 2000000 in
set_option maxRecDepth 100000 in
theorem p_put {w : World} {B b : Nat} {s : Bytes} {nm : Nat} {path : List Int} {d m : Nat} (h : Prt w B b s nm path d m) (g : Nat) (xs : List Bytes) (n : Nat) (hn : n = xs.length) (hx : TextRow w g xs) (hfew : n ≤ 1000) (hl : s.length + xs.flatten.length ≤ 140737488355328) :
    Calls Tryz.prog 78 #[.pointer (some ⟨b, 0, none⟩), .slice (some ⟨g, 0, none⟩) n n] w (fun e w' => e = .returned (.tuple #[]) ∧ PutPost B b (s ++ xs.flatten) nm path d m w w') := by
  have HH := Lib.hid h
  have HX := Lib.hid hx
  have HN := Lib.hid hn
  have HG := Lib.hid (h.not_text hx)
  clear h hx hn
  go_enter Tryz.func78, Tryz.ntmps78
  go_wp2_with fail
  go_loopw [8] (fun i wr => ∃ j : Nat, j ≤ n ∧ i = .int .i64 j ∧ Hid (PutPost B b (s ++ (xs.take j).flatten) nm path d m w wr)) (fun i _ => n - (intOf i).toNat)
  case atStart => exact ⟨0, Nat.zero_le _, rfl, by simpa using HH.out, Fr.refl _ _ _ _⟩
  case round =>
    obtain ⟨j, hj, rfl, HR⟩ := hrel
    by_cases hlt : j < n
    · obtain ⟨x, hx⟩ : ∃ x, xs[j]? = some x := ⟨xs[j]'(by rw [← HN.out]; exact hlt), List.getElem?_eq_getElem _⟩
      have HXJ := Lib.hid hx
      have hc := (HX.out.fr HR.out.2 HG.out).cell hx
      clear hx
      go_wp2_with fail
      refine (p_write HR.out.1 x ?_).mono ?_
      · have h1 := flat_take_le xs (j + 1)
        rw [flat_take xs j HXJ.out, List.length_append] at h1
        rw [List.length_append]
        omega
      rintro e w3 ⟨rfl, h3⟩
      have H3 := Lib.hid h3
      clear h3
      go_wp2
      go_roundw
      case rel => exact ⟨j + 1, by omega, by go_num, by rw [flat_take xs j HXJ.out, ← List.append_assoc]; exact H3.out.1, HR.out.2.trans H3.out.2⟩
      case measure => simp [intOf]; omega
    · have hjn : j = n := by omega
      subst hjn
      go_wp2_with fail
      go_end0
      have := HR.out
      rw [List.take_of_length_le (by rw [← HN.out]; exact Nat.le_refl _)] at this
      exact ⟨rfl, this⟩
end Go.Proofs.YtjdofndkdkeapaaGreatDoor
