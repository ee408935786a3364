/- The walks over the Builder's String and over ways. -/
import Derived.Test.YtjdofndkdkeapaaGreatDoorPrint9
import Derived.Shelf.RegionOpenPlain
namespace Go.Proofs.YtjdofndkdkeapaaGreatDoor
open Go.RowKit
set_option linter.unusedSimpArgs false
set_option linter.unusedVariables false

theorem cellsU8 : Tryz.prog.cellsOf 5 = 1 := by kernel_rfl
set_option maxHeartbeats 2000000 in
set_option maxRecDepth 100000 in
theorem p_string {w : World} {B b : Nat} {txt : Bytes} {nm : Nat} {path : List Int} {d m : Nat} (h : Prt w B b txt nm path d m) :
    Calls Tryz.prog 15 #[.pointer (some ⟨b, 0, none⟩)] w (fun e w' => e = .returned (.string (sb txt)) ∧ Below B w w') := by
  have hB := h.base
  have hlt := h.lt
  obtain ⟨u, bv, mv, pv, h⟩ := h
  have c0 := h.box.cells.2.1
  have hown := h.bytes
  have hUS0 := fun (W : World) (q : Option Addr) => Lib.run_unsafeString_none (P := Tryz.prog) W 68 3 9 q
  rcases hown.2 with ⟨e1, e2⟩ | ⟨g, cap, cur, e1, hbg, hg, hnc, hcm, hcs, htake⟩
  · subst e1
    obtain rfl : txt = [] := List.length_eq_zero_iff.1 e2
    have c1 : w.drew.cell? ⟨b, 1, none⟩ = some (.slice none 0 0) := c0
    have hSD : (Builtin.unsafeSliceData_ #[49] 68 #[.slice none 0 0]).run Tryz.prog w.drew = .ok (.pointer none) w.drew := rfl
    clear h hown
    go_enter Tryz.func15, Tryz.ntmps15
    go_wp2
    go_region
    all_goals (go_wp2; go_ret; exact ⟨rfl, Below.drew (Below.refl B w)⟩)
  · subst e1
    by_cases h0 : txt = []
    · subst h0
      by_cases hc0 : cap = 0
      · subst hc0
        have c1 : w.drew.cell? ⟨b, 1, none⟩ = some (.slice (some ⟨g, 0, none⟩) 0 0) := c0
        have hSD : (Builtin.unsafeSliceData_ #[49] 68 #[.slice (some ⟨g, 0, none⟩) 0 0]).run Tryz.prog w.drew = .ok (.pointer (some ⟨w.drew.heap.size, 0, none⟩)) (w.drew.alloc (.view ⟨g, 0, none⟩ 5)) :=
          Lib.run_unsafeSliceData_zero w.drew _ _ 5 Tryz.underlying68 ⟨g, 0, none⟩ 0 (5, cur.size) (by have hg' : w.drew.heap[g]? = some (.cells cur 5 (0, 0)) := hg; simp [World.shape?, hg'])
        have c2 : (w.drew.alloc (.view ⟨g, 0, none⟩ 5)).cell? ⟨b, 1, none⟩ = some (.slice (some ⟨g, 0, none⟩) 0 0) := (World.cell?_alloc_lt w.drew _ ⟨b, 1, none⟩ (by exact hlt)).trans c1
        have c3 : (w.alloc (.view ⟨g, 0, none⟩ 5)).drew.cell? ⟨b, 1, none⟩ = some (.slice (some ⟨g, 0, none⟩) 0 0) := c2
        clear h hown
        go_enter Tryz.func15, Tryz.ntmps15
        go_wp2
        go_region
        all_goals (go_wp2; go_ret; exact ⟨rfl, (Below.drew (Below.refl B w)).alloc hB _⟩)
      · have c1 : w.drew.cell? ⟨b, 1, none⟩ = some (.slice (some ⟨g, 0, none⟩) 0 cap) := c0
        have hSD : (Builtin.unsafeSliceData_ #[49] 68 #[.slice (some ⟨g, 0, none⟩) 0 cap]).run Tryz.prog w.drew = .ok (.pointer (some ⟨g, 0, none⟩)) w.drew :=
          Lib.run_unsafeSliceData_row _ _ _ _ _ _ hc0
        clear h hown
        go_enter Tryz.func15, Tryz.ntmps15
        go_wp2
        go_region
        all_goals (go_wp2; go_ret; exact ⟨rfl, Below.drew (Below.refl B w)⟩)
    · have hl0 : 0 < txt.length := List.length_pos_iff.2 h0
      have c1 : w.drew.cell? ⟨b, 1, none⟩ = some (.slice (some ⟨g, 0, none⟩) txt.length cap) := c0
      have hSD : (Builtin.unsafeSliceData_ #[49] 68 #[.slice (some ⟨g, 0, none⟩) txt.length cap]).run Tryz.prog w.drew = .ok (.pointer (some ⟨g, 0, none⟩)) w.drew :=
        Lib.run_unsafeSliceData_row _ _ _ _ _ _ (by omega)
      have hUS : (Builtin.unsafeString_ #[68, 3] 9 #[.pointer (some ⟨g, 0, none⟩), .int .i64 txt.length]).run Tryz.prog w.drew = .ok (.string ⟨txt.toArray⟩) (w.drew.freeze ⟨g, 0, none⟩ txt.length) := by
        refine Lib.run_unsafeString_row w.drew 68 3 9 5 Tryz.underlying68 cellsU8 g cur.size (by have hg' : w.drew.heap[g]? = some (.cells cur 5 (0, 0)) := hg; simp [World.shape?, hg']) txt h0 (by omega) (by unfold maxLen at hcm; omega) ?_
        intro j x hx
        have := hown.cells (g := g) rfl j (.int .u8 x.toNat) (by simp [Lib.byteCells, hx])
        exact this
      clear h hown
      go_enter Tryz.func15, Tryz.ntmps15
      go_wp2
      go_region
      all_goals (go_wp2; go_ret; exact ⟨rfl, Lib.below_freeze (Below.drew (Below.refl B w)) (p := ⟨g, 0, none⟩) hbg _⟩)
/-- The map of the ways, made step by step. -/
theorem ways_map {W0 : World} {M : Nat} (hM : W0.heap.size = M) :
    ∃ W1 W2 W3 W4 W5 W6 W7 W8 W9 W10 W11 W12 W13 W14 W15 W16 W17 W18 W19 W20 W21 W22,
      (Instr.mapUpdate 53 (.map (some M)) (.int .u8 1) (.func (.func 41) #[] #[])).run Tryz.prog (W0.alloc (.map #[] 0)) = .ok () W1 ∧
      (Instr.mapUpdate 53 (.map (some M)) (.int .u8 2) (.func (.func 42) #[] #[])).run Tryz.prog W1 = .ok () W2 ∧
      (Instr.mapUpdate 53 (.map (some M)) (.int .u8 3) (.func (.func 43) #[] #[])).run Tryz.prog W2 = .ok () W3 ∧
      (Instr.mapUpdate 53 (.map (some M)) (.int .u8 4) (.func (.func 44) #[] #[])).run Tryz.prog W3 = .ok () W4 ∧
      (Instr.mapUpdate 53 (.map (some M)) (.int .u8 5) (.func (.func 45) #[] #[])).run Tryz.prog W4 = .ok () W5 ∧
      (Instr.mapUpdate 53 (.map (some M)) (.int .u8 6) (.func (.func 46) #[] #[])).run Tryz.prog W5 = .ok () W6 ∧
      (Instr.mapUpdate 53 (.map (some M)) (.int .u8 7) (.func (.func 47) #[] #[])).run Tryz.prog W6 = .ok () W7 ∧
      (Instr.mapUpdate 53 (.map (some M)) (.int .u8 8) (.func (.func 48) #[] #[])).run Tryz.prog W7 = .ok () W8 ∧
      (Instr.mapUpdate 53 (.map (some M)) (.int .u8 9) (.func (.func 49) #[] #[])).run Tryz.prog W8 = .ok () W9 ∧
      (Instr.mapUpdate 53 (.map (some M)) (.int .u8 10) (.func (.func 50) #[] #[])).run Tryz.prog W9 = .ok () W10 ∧
      (Instr.mapUpdate 53 (.map (some M)) (.int .u8 11) (.func (.func 51) #[] #[])).run Tryz.prog W10 = .ok () W11 ∧
      (Instr.mapUpdate 53 (.map (some M)) (.int .u8 12) (.func (.func 52) #[] #[])).run Tryz.prog W11 = .ok () W12 ∧
      (Instr.mapUpdate 53 (.map (some M)) (.int .u8 20) (.func (.func 53) #[] #[])).run Tryz.prog W12 = .ok () W13 ∧
      (Instr.mapUpdate 53 (.map (some M)) (.int .u8 21) (.func (.func 54) #[] #[])).run Tryz.prog W13 = .ok () W14 ∧
      (Instr.mapUpdate 53 (.map (some M)) (.int .u8 22) (.func (.func 44) #[] #[])).run Tryz.prog W14 = .ok () W15 ∧
      (Instr.mapUpdate 53 (.map (some M)) (.int .u8 23) (.func (.func 55) #[] #[])).run Tryz.prog W15 = .ok () W16 ∧
      (Instr.mapUpdate 53 (.map (some M)) (.int .u8 24) (.func (.func 56) #[] #[])).run Tryz.prog W16 = .ok () W17 ∧
      (Instr.mapUpdate 53 (.map (some M)) (.int .u8 25) (.func (.func 57) #[] #[])).run Tryz.prog W17 = .ok () W18 ∧
      (Instr.mapUpdate 53 (.map (some M)) (.int .u8 26) (.func (.func 58) #[] #[])).run Tryz.prog W18 = .ok () W19 ∧
      (Instr.mapUpdate 53 (.map (some M)) (.int .u8 27) (.func (.func 59) #[] #[])).run Tryz.prog W19 = .ok () W20 ∧
      (Instr.mapUpdate 53 (.map (some M)) (.int .u8 28) (.func (.func 60) #[] #[])).run Tryz.prog W20 = .ok () W21 ∧
      (Instr.mapUpdate 53 (.map (some M)) (.int .u8 29) (.func (.func 61) #[] #[])).run Tryz.prog W21 = .ok () W22 ∧
      MapIs W22 M waysL ∧ Below W0.heap.size W0 W22 := by
  have h0 := MapIs.made W0
  rw [hM] at h0
  obtain ⟨W1, r1, h1, g1⟩ := h0.insert Tryz.underlying53 Tryz.underlying22 (k := 1) (.func (.func 41) #[] #[]) rfl
  obtain ⟨W2, r2, h2, g2⟩ := h1.insert Tryz.underlying53 Tryz.underlying22 (k := 2) (.func (.func 42) #[] #[]) rfl
  obtain ⟨W3, r3, h3, g3⟩ := h2.insert Tryz.underlying53 Tryz.underlying22 (k := 3) (.func (.func 43) #[] #[]) rfl
  obtain ⟨W4, r4, h4, g4⟩ := h3.insert Tryz.underlying53 Tryz.underlying22 (k := 4) (.func (.func 44) #[] #[]) rfl
  obtain ⟨W5, r5, h5, g5⟩ := h4.insert Tryz.underlying53 Tryz.underlying22 (k := 5) (.func (.func 45) #[] #[]) rfl
  obtain ⟨W6, r6, h6, g6⟩ := h5.insert Tryz.underlying53 Tryz.underlying22 (k := 6) (.func (.func 46) #[] #[]) rfl
  obtain ⟨W7, r7, h7, g7⟩ := h6.insert Tryz.underlying53 Tryz.underlying22 (k := 7) (.func (.func 47) #[] #[]) rfl
  obtain ⟨W8, r8, h8, g8⟩ := h7.insert Tryz.underlying53 Tryz.underlying22 (k := 8) (.func (.func 48) #[] #[]) rfl
  obtain ⟨W9, r9, h9, g9⟩ := h8.insert Tryz.underlying53 Tryz.underlying22 (k := 9) (.func (.func 49) #[] #[]) rfl
  obtain ⟨W10, r10, h10, g10⟩ := h9.insert Tryz.underlying53 Tryz.underlying22 (k := 10) (.func (.func 50) #[] #[]) rfl
  obtain ⟨W11, r11, h11, g11⟩ := h10.insert Tryz.underlying53 Tryz.underlying22 (k := 11) (.func (.func 51) #[] #[]) rfl
  obtain ⟨W12, r12, h12, g12⟩ := h11.insert Tryz.underlying53 Tryz.underlying22 (k := 12) (.func (.func 52) #[] #[]) rfl
  obtain ⟨W13, r13, h13, g13⟩ := h12.insert Tryz.underlying53 Tryz.underlying22 (k := 20) (.func (.func 53) #[] #[]) rfl
  obtain ⟨W14, r14, h14, g14⟩ := h13.insert Tryz.underlying53 Tryz.underlying22 (k := 21) (.func (.func 54) #[] #[]) rfl
  obtain ⟨W15, r15, h15, g15⟩ := h14.insert Tryz.underlying53 Tryz.underlying22 (k := 22) (.func (.func 44) #[] #[]) rfl
  obtain ⟨W16, r16, h16, g16⟩ := h15.insert Tryz.underlying53 Tryz.underlying22 (k := 23) (.func (.func 55) #[] #[]) rfl
  obtain ⟨W17, r17, h17, g17⟩ := h16.insert Tryz.underlying53 Tryz.underlying22 (k := 24) (.func (.func 56) #[] #[]) rfl
  obtain ⟨W18, r18, h18, g18⟩ := h17.insert Tryz.underlying53 Tryz.underlying22 (k := 25) (.func (.func 57) #[] #[]) rfl
  obtain ⟨W19, r19, h19, g19⟩ := h18.insert Tryz.underlying53 Tryz.underlying22 (k := 26) (.func (.func 58) #[] #[]) rfl
  obtain ⟨W20, r20, h20, g20⟩ := h19.insert Tryz.underlying53 Tryz.underlying22 (k := 27) (.func (.func 59) #[] #[]) rfl
  obtain ⟨W21, r21, h21, g21⟩ := h20.insert Tryz.underlying53 Tryz.underlying22 (k := 28) (.func (.func 60) #[] #[]) rfl
  obtain ⟨W22, r22, h22, g22⟩ := h21.insert Tryz.underlying53 Tryz.underlying22 (k := 29) (.func (.func 61) #[] #[]) rfl
  have b0 : Below W0.heap.size W0 (W0.alloc (.map #[] 0)) := (Below.refl _ _).alloc (Nat.le_refl _) _
  have b1 := b0.grown g1 b0.size (fun k hk => by injection hk with hk; omega)
  have b2 := b1.grown g2 b1.size (fun k hk => by injection hk with hk; omega)
  have b3 := b2.grown g3 b2.size (fun k hk => by injection hk with hk; omega)
  have b4 := b3.grown g4 b3.size (fun k hk => by injection hk with hk; omega)
  have b5 := b4.grown g5 b4.size (fun k hk => by injection hk with hk; omega)
  have b6 := b5.grown g6 b5.size (fun k hk => by injection hk with hk; omega)
  have b7 := b6.grown g7 b6.size (fun k hk => by injection hk with hk; omega)
  have b8 := b7.grown g8 b7.size (fun k hk => by injection hk with hk; omega)
  have b9 := b8.grown g9 b8.size (fun k hk => by injection hk with hk; omega)
  have b10 := b9.grown g10 b9.size (fun k hk => by injection hk with hk; omega)
  have b11 := b10.grown g11 b10.size (fun k hk => by injection hk with hk; omega)
  have b12 := b11.grown g12 b11.size (fun k hk => by injection hk with hk; omega)
  have b13 := b12.grown g13 b12.size (fun k hk => by injection hk with hk; omega)
  have b14 := b13.grown g14 b13.size (fun k hk => by injection hk with hk; omega)
  have b15 := b14.grown g15 b14.size (fun k hk => by injection hk with hk; omega)
  have b16 := b15.grown g16 b15.size (fun k hk => by injection hk with hk; omega)
  have b17 := b16.grown g17 b16.size (fun k hk => by injection hk with hk; omega)
  have b18 := b17.grown g18 b17.size (fun k hk => by injection hk with hk; omega)
  have b19 := b18.grown g19 b18.size (fun k hk => by injection hk with hk; omega)
  have b20 := b19.grown g20 b19.size (fun k hk => by injection hk with hk; omega)
  have b21 := b20.grown g21 b20.size (fun k hk => by injection hk with hk; omega)
  have b22 := b21.grown g22 b21.size (fun k hk => by injection hk with hk; omega)
  exact ⟨W1, W2, W3, W4, W5, W6, W7, W8, W9, W10, W11, W12, W13, W14, W15, W16, W17, W18, W19, W20, W21, W22, r1, r2, r3, r4, r5, r6, r7, r8, r9, r10, r11, r12, r13, r14, r15, r16, r17, r18, r19, r20, r21, r22, h22, b22⟩
set_option maxHeartbeats 4000000 in
set_option maxRecDepth 100000 in
theorem p_ways (w : World) : Calls Tryz.prog 22 #[] w (fun e w' => e = .returned (.map (some w.heap.size)) ∧ MapIs w' w.heap.size waysL ∧ Below w.heap.size w w') := by
  obtain ⟨W1, W2, W3, W4, W5, W6, W7, W8, W9, W10, W11, W12, W13, W14, W15, W16, W17, W18, W19, W20, W21, W22, r1, r2, r3, r4, r5, r6, r7, r8, r9, r10, r11, r12, r13, r14, r15, r16, r17, r18, r19, r20, r21, r22, hmap, hb⟩ := ways_map (W0 := w) (M := w.heap.size) rfl
  have hmm := @run_makeMap Tryz.prog
  have HM := Lib.hid hmap
  have HB := Lib.hid hb
  clear hmap hb
  go_enter Tryz.func22, Tryz.ntmps22
  go_wp2
  go_ret
  exact ⟨rfl, HM.out, HB.out⟩
end Go.Proofs.YtjdofndkdkeapaaGreatDoor
