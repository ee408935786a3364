/- The walks over level and operand. -/
import Derived.Test.YtjdofndkdkeapaaGreatDoorPrint4
import Derived.Test.YtjdofndkdkeapaaGreatDoorMapS
namespace Go.Proofs.YtjdofndkdkeapaaGreatDoor
open Go.RowKit
set_option linter.unusedSimpArgs false
set_option linter.unusedVariables false

def levL : List (Bytes × Value) := [([124, 124], .int .i64 1), ([38, 38], .int .i64 2), ([43], .int .i64 4), ([45], .int .i64 4), ([42], .int .i64 5), ([47], .int .i64 5), ([37], .int .i64 5)]
theorem lev_look (s : Bytes) : (levL.lookup s).getD (.int .i64 0) = (if (levL.lookup s).isSome = true then .int .i64 (levelOp s) else .int .i64 0) ∧ ((levL.lookup s).isSome = false → levelOp s = 3) := by
  unfold levL levelOp
  by_cases h1 : s = [124, 124]
  · subst h1; exact ⟨rfl, fun h => by simp at h⟩
  by_cases h2 : s = [38, 38]
  · subst h2; exact ⟨rfl, fun h => by simp at h⟩
  by_cases h3 : s = [43]
  · subst h3; exact ⟨rfl, fun h => by simp at h⟩
  by_cases h4 : s = [45]
  · subst h4; exact ⟨rfl, fun h => by simp at h⟩
  by_cases h5 : s = [42]
  · subst h5; exact ⟨rfl, fun h => by simp at h⟩
  by_cases h6 : s = [47]
  · subst h6; exact ⟨rfl, fun h => by simp at h⟩
  by_cases h7 : s = [37]
  · subst h7; exact ⟨rfl, fun h => by simp at h⟩
  have b1 : (s == [124, 124]) = false := by simpa using h1
  have b2 : (s == [38, 38]) = false := by simpa using h2
  have b3 : (s == [43]) = false := by simpa using h3
  have b4 : (s == [45]) = false := by simpa using h4
  have b5 : (s == [42]) = false := by simpa using h5
  have b6 : (s == [47]) = false := by simpa using h6
  have b7 : (s == [37]) = false := by simpa using h7
  refine ⟨by simp [List.lookup, b1, b2, b3, b4, b5, b6, b7], fun _ => by rw [if_neg h1, if_neg h2, if_neg (by simp [h3, h4]), if_neg (by simp [h5, h6, h7])]⟩
/-- The map of the levels, made step by step. -/
theorem lev_map {w W0 : World} {M : Nat} (hM : W0.heap.size = M) :
    ∃ W1 W2 W3 W4 W5 W6 W7, (Instr.mapUpdate 129 (.map (some M)) (.string ⟨#[124, 124]⟩) (.int .i64 1)).run Tryz.prog (W0.alloc (.map #[] 0)) = .ok () W1 ∧
      (Instr.mapUpdate 129 (.map (some M)) (.string ⟨#[38, 38]⟩) (.int .i64 2)).run Tryz.prog W1 = .ok () W2 ∧
      (Instr.mapUpdate 129 (.map (some M)) (.string ⟨#[43]⟩) (.int .i64 4)).run Tryz.prog W2 = .ok () W3 ∧
      (Instr.mapUpdate 129 (.map (some M)) (.string ⟨#[45]⟩) (.int .i64 4)).run Tryz.prog W3 = .ok () W4 ∧
      (Instr.mapUpdate 129 (.map (some M)) (.string ⟨#[42]⟩) (.int .i64 5)).run Tryz.prog W4 = .ok () W5 ∧
      (Instr.mapUpdate 129 (.map (some M)) (.string ⟨#[47]⟩) (.int .i64 5)).run Tryz.prog W5 = .ok () W6 ∧
      (Instr.mapUpdate 129 (.map (some M)) (.string ⟨#[37]⟩) (.int .i64 5)).run Tryz.prog W6 = .ok () W7 ∧
      MapS W7 M levL ∧ Below W0.heap.size W0 W7 := by
  have h0 := MapS.made W0
  rw [hM] at h0
  obtain ⟨W1, r1, h1, g1⟩ := h0.insert Tryz.underlying129 Tryz.underlying9 (k := [124, 124]) (.int .i64 1) rfl
  obtain ⟨W2, r2, h2, g2⟩ := h1.insert Tryz.underlying129 Tryz.underlying9 (k := [38, 38]) (.int .i64 2) rfl
  obtain ⟨W3, r3, h3, g3⟩ := h2.insert Tryz.underlying129 Tryz.underlying9 (k := [43]) (.int .i64 4) rfl
  obtain ⟨W4, r4, h4, g4⟩ := h3.insert Tryz.underlying129 Tryz.underlying9 (k := [45]) (.int .i64 4) rfl
  obtain ⟨W5, r5, h5, g5⟩ := h4.insert Tryz.underlying129 Tryz.underlying9 (k := [42]) (.int .i64 5) rfl
  obtain ⟨W6, r6, h6, g6⟩ := h5.insert Tryz.underlying129 Tryz.underlying9 (k := [47]) (.int .i64 5) rfl
  obtain ⟨W7, r7, h7, g7⟩ := h6.insert Tryz.underlying129 Tryz.underlying9 (k := [37]) (.int .i64 5) rfl
  have b0 : Below W0.heap.size W0 (W0.alloc (.map #[] 0)) := (Below.refl _ _).alloc (Nat.le_refl _) _
  have b1 := b0.grown g1 b0.size (fun k hk => by injection hk with hk; omega)
  have b2 := b1.grown g2 b1.size (fun k hk => by injection hk with hk; omega)
  have b3 := b2.grown g3 b2.size (fun k hk => by injection hk with hk; omega)
  have b4 := b3.grown g4 b3.size (fun k hk => by injection hk with hk; omega)
  have b5 := b4.grown g5 b4.size (fun k hk => by injection hk with hk; omega)
  have b6 := b5.grown g6 b5.size (fun k hk => by injection hk with hk; omega)
  have b7 := b6.grown g7 b6.size (fun k hk => by injection hk with hk; omega)
  exact ⟨W1, W2, W3, W4, W5, W6, W7, r1, r2, r3, r4, r5, r6, r7, h7, b7⟩
theorem zero_int (w : World) : (zeroValue 3).run Tryz.prog w = .ok (.int .i64 0) w := by kernel_rfl
def LevPost (l : Nat) (w : World) (e : Ending) (w' : World) : Prop := e = .returned (.int .i64 l) ∧ Below w.heap.size w w'
theorem LevPost.intro {l : Nat} {j : Int} {w w' : World} (h : j = l) (hb : Below w.heap.size w w') : LevPost l w (.returned (.int .i64 j)) w' := ⟨by rw [h], hb⟩
set_option maxHeartbeats 4000000 in
set_option maxRecDepth 100000 in
theorem p_level_at (k : Int) (s : Bytes) (x : Int) (v : Value) (w : World) (l : Nat) (hl : l = if k = 23 then 6 else if k = 24 then levelOp s else 7) :
    Calls Tryz.prog 83 #[.agg #[.int .u8 k, .string (sb s), .int .i64 x, v]] w (LevPost l w) := by
  have HL := Lib.hid hl
  clear hl
  obtain ⟨N, hNd⟩ : ∃ N : Obj, N = .cells #[.int .u8 k, .string (sb s), .int .i64 x, v] 25 := ⟨_, rfl⟩
  obtain ⟨W1, W2, W3, W4, W5, W6, W7, r1, r2, r3, r4, r5, r6, r7, hmap, hb7⟩ := lev_map (w := w) (W0 := w.alloc N) (M := w.heap.size + 1) (by simp)
  have hB : Below w.heap.size w W7 := ((Below.refl _ _).alloc (Nat.le_refl _) N).trans (hb7.mono (by simp))
  have hlook := hmap.look Tryz.underlying129 Tryz.underlying9 s (zero_int W7) true
  obtain ⟨v1, v2⟩ := lev_look s
  rw [v1] at hlook
  generalize hq : (levL.lookup s).isSome = q at hlook v2
  have hc := cells4 (T := 25) (w := W7) (k := w.heap.size) (x0 := .int .u8 k) (x1 := .string (sb s)) (x2 := .int .i64 x) (x3 := v) ((hb7.block w.heap.size (by simp)).trans (by rw [← hNd]; exact heap_alloc_new _ _))
  obtain ⟨c0, c1, c2, c3⟩ := hc
  have hmm := @run_makeMap Tryz.prog
  have HB := Lib.hid hB
  subst hNd
  clear hmap hb7 hB v1 hq
  by_cases h23 : k = 23
  · rw [if_pos h23] at HL
    subst h23
    go_enter Tryz.func83, Tryz.ntmps83
    go_wp2
    go_ret
    exact LevPost.intro (by rw [HL.out]; rfl) HB.out
  · rw [if_neg h23] at HL
    have n23 : (k == 23) = false := by simp; omega
    by_cases h24 : k = 24
    · rw [if_pos h24] at HL
      subst h24
      cases q with
      | true =>
        simp only [if_true] at hlook
        go_enter Tryz.func83, Tryz.ntmps83
        go_wp2
        go_ret
        exact LevPost.intro (by rw [HL.out]) HB.out
      | false =>
        have h3 := v2 rfl
        simp only [if_true, Bool.false_eq_true, if_false] at hlook
        go_enter Tryz.func83, Tryz.ntmps83
        go_wp2
        go_ret
        exact LevPost.intro (by rw [HL.out, h3]; rfl) HB.out
    · rw [if_neg h24] at HL
      have n24 : (k == 24) = false := by simp; omega
      go_enter Tryz.func83, Tryz.ntmps83
      go_wp2
      go_ret
      exact LevPost.intro (by rw [HL.out]; rfl) HB.out
theorem p_level (t : Tree) (x : Int) (v : Value) (w : World) :
    Calls Tryz.prog 83 #[.agg #[.int .u8 t.kind, .string (sb t.text), .int .i64 x, v]] w (LevPost (levelT t) w) := by
  refine p_level_at t.kind t.text x v w _ ?_
  obtain ⟨k, s, y, ks⟩ := t
  simp only [levelT, Tree.kind, Tree.text]
  by_cases h : k = 23
  · subst h; simp
  · have h1 : ¬ (k : Int) = 23 := by omega
    by_cases h' : k = 24
    · subst h'; simp
    · have h2 : ¬ (k : Int) = 24 := by omega
      simp [h, h1, h', h2]
set_option maxHeartbeats 4000000 in
set_option maxRecDepth 100000 in
theorem p_operand {w0 : World} {b m d : Nat} {t : Tree} (hC : NodeC w0 b m d t) {ks : List Tree} (i : Nat) (hi : ks[i]? = some t) (least : Nat) (k : Nat) (s : ByteArray) (x : Int) (A : Option Addr) (n c : Nat) {wS w : World} {lo hi' : Nat} {path : List Int} {txt p : Bytes} {z : Nat}
    (hK : KidsAt w0 ks A n c) (hp : path.length + 1 ≤ lo) (h : St w0 wS w b lo hi' path d m txt (opd least t (printT d t) ++ p) (t.sz + z)) :
    Calls Tryz.prog 82 #[.pointer (some ⟨b, 0, none⟩), .agg #[.int .u8 k, .string s, .int .i64 x, .slice A n c], .int .i64 i, .int .i64 least] w (fun e w' => e = .returned (.tuple #[]) ∧ St w0 wS w' b lo hi' path d m (txt ++ opd least t (printT d t)) p z) := by
  have hil : i < n := by have := (List.getElem?_eq_some_iff.1 hi).1; have := hK.1; omega
  have hnm : n ≤ 9223372036854775807 := by have h1 := hK.2.1; have h2 := hK.2.2.1; unfold maxLen at h2; omega
  obtain ⟨kb, ko, t', rfl, hi2, hT⟩ := hK.get hil
  obtain rfl : t' = t := by rw [hi] at hi2; injection hi2 with e; exact e.symm
  obtain ⟨kA, kc, e0, e1, e2, e3, hN⟩ := hT.cells
  obtain ⟨N, hNd⟩ : ∃ N : Obj, N = .cells #[.int .u8 k, .string s, .int .i64 x, .slice (some ⟨kb, ko, none⟩) n c] 25 := ⟨_, rfl⟩
  have hb : Below w.heap.size w (w.alloc N) := (Below.refl _ _).alloc (Nat.le_refl _) _
  have hS := h.start hb
  have hbel := hS.below
  have z0 := (hbel.cell (p := ⟨kb, ko + i * 4, none⟩) (cell_lt e0)).trans e0
  have z1 := (hbel.cell (p := ⟨kb, ko + i * 4 + 1, none⟩) (cell_lt e1)).trans e1
  have z2 := (hbel.cell (p := ⟨kb, ko + i * 4 + 2, none⟩) (cell_lt e2)).trans e2
  have z3 := (hbel.cell (p := ⟨kb, ko + i * 4 + 3, none⟩) (cell_lt e3)).trans e3
  have HB := Lib.hid hb
  have HH := Lib.hid h
  have HS := Lib.hid hS
  have HC := Lib.hid hC
  have HK := Lib.hid hK
  have hlt := h.lt
  subst hNd
  clear hb h hS hC hK hi2 hT hN e0 e1 e2 e3 hbel
  by_cases hle : least ≤ levelT t'
  · have ho : opd least t' (printT d t') = printT d t' := by unfold opd; rw [if_pos hle]
    rw [ho] at HS ⊢
    go_enter Tryz.func82, Tryz.ntmps82
    go_wp2_with fail
    refine (p_level t' _ _ _).mono ?_
    rintro e w1 ⟨rfl, hb1⟩
    have hS1 := HS.out.bel hb1
    have HS1 := Lib.hid hS1
    obtain ⟨c0, c1, c2, c3⟩ := hS1.box hlt
    clear hb1 hS1 z0 z1 z2 z3
    go_wp2_with fail
    refine (p_kid HC.out i hi k s x _ n c HK.out hp HS1.out).mono ?_
    rintro e w2 ⟨rfl, h2⟩
    have HS2 := Lib.hid h2
    clear h2 c0 c1 c2 c3
    go_wp2_with fail
    (try simp only [Exit.inBlock, Exit.then])
    refine bodyPost_ret (results_none rfl _ _ _) rfl ?_
    exact ⟨rfl, HH.out.leave HB.out HS2.out⟩
  · have ho : opd least t' (printT d t') = [[40]].flatten ++ (printT d t' ++ [[41]].flatten) := by unfold opd; rw [if_neg hle]; simp
    rw [ho] at HS ⊢
    have HS0 := Lib.hid (HS.out.eq (p' := [[40]].flatten ++ (printT d t' ++ ([[41]].flatten ++ p))) rfl (by simp) rfl)
    go_enter Tryz.func82, Tryz.ntmps82
    go_wp2_with fail
    refine (p_level t' _ _ _).mono ?_
    rintro e w1 ⟨rfl, hb1⟩
    have hS1 := HS0.out.bel hb1
    have HS1 := Lib.hid hS1
    obtain ⟨c0, c1, c2, c3⟩ := hS1.box hlt
    clear hb1 hS1 z0 z1 z2 z3
    go_wp2_with fail
    refine (St.put [[40]] HS1.out _ rfl _ _ rfl rfl (by simp)).mono ?_
    rintro e w2 ⟨rfl, h2⟩
    have HS2 := Lib.hid h2
    obtain ⟨d0, d1, d2, d3⟩ := h2.box hlt
    clear h2 c0 c1 c2 c3
    go_wp2_with fail
    refine (p_kid HC.out i hi k s x _ n c HK.out hp HS2.out).mono ?_
    rintro e w3 ⟨rfl, h3⟩
    have HS3 := Lib.hid h3
    clear h3 d0 d1 d2 d3
    go_wp2_with fail
    refine (St.put [[41]] HS3.out _ rfl _ _ rfl rfl (by simp)).mono ?_
    rintro e w4 ⟨rfl, h4⟩
    have HS4 := Lib.hid h4
    clear h4
    go_wp2_with fail
    go_end0
    exact ⟨rfl, HH.out.leave HB.out (HS4.out.eq (by simp) rfl rfl)⟩
end Go.Proofs.YtjdofndkdkeapaaGreatDoor
