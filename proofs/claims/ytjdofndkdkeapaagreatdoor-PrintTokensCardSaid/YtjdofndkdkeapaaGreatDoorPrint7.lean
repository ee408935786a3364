/- The walks over number, truth, binary, branch, indent. -/
import Derived.Test.YtjdofndkdkeapaaGreatDoorPrint6
import Derived.Test.YtjdofndkdkeapaaGreatDoorShelf
import Derived.Lib.AppendIntMem
import Derived.Lib.LaidTab
import Derived.Lib.SmallJoins
namespace Go.Proofs.YtjdofndkdkeapaaGreatDoor
open Go.RowKit
set_option linter.unusedSimpArgs false
set_option linter.unusedVariables false

/-- What FormatInt wants. -/
def TabP (w : World) : Prop := Lib.TabIs Tryz.prog w "internal/strconv.uint64pow10" .u64 Lib.pow10Tab
theorem pvar_lt {P : Program} {w : World} {g : Nat} {n : String} {cs : Array Value} (hg : P.globalNamed n = some g) (h : w.var? P n = some cs) : g < w.heap.size := by
  unfold World.var? at h
  simp only [hg, Option.bind_some] at h
  rcases Nat.lt_or_ge g w.heap.size with hl | hl
  · exact hl
  · rw [Array.getElem?_eq_none hl] at h; simp at h
theorem TabP.below {w w' : World} {B : Nat} (h : TabP w) (hb : Below B w w') (hB : w.heap.size ≤ B) : TabP w' := by
  have hg : Tryz.prog.globalNamed "internal/strconv.uint64pow10" = some 5 := by kernel_rfl
  have hlt := Nat.lt_of_lt_of_le (pvar_lt hg h) hB
  unfold TabP Lib.TabIs World.var? at h ⊢
  simp only [hg, Option.bind_some] at h ⊢
  rw [hb.block _ hlt]
  exact h
theorem p_format {x : Int} {w : World} (h0 : -9223372036854775808 ≤ x) (h1 : x ≤ 9223372036854775807) (hT : TabP w) : Calls Tryz.prog 69 #[.int .i64 x, .int .i64 10] w (fun e w' => e = .returned (.string (sb (Lib.itoa x))) ∧ Below w.heap.size w w') := by
  refine (Tryz.strconv_FormatInt_10 x h0 h1 w hT).mono ?_
  rintro e w' ⟨rfl, k, os, rfl⟩
  exact ⟨rfl, Lib.below_grow _ w (Nat.le_refl _) k os⟩
set_option maxHeartbeats 4000000 in
set_option maxRecDepth 100000 in
theorem w_number {w0 : World} {b m d : Nat} (hT : TabP w0) (k : Nat) (s : Bytes) (x : Int) (h0 : -9223372036854775808 ≤ x) (h1 : x ≤ 9223372036854775807) : BodyC w0 b m d [] 53 k s x (Lib.itoa x) := by
  intro A n c wS w lo hi path txt p z hK hp h
  obtain ⟨N, hNd⟩ : ∃ N : Obj, N = .cells #[.int .u8 k, .string (sb s), .int .i64 x, .slice A n c] 25 := ⟨_, rfl⟩
  have hb : Below w.heap.size w (w.alloc N) := (Below.refl _ _).alloc (Nat.le_refl _) _
  have HS0 := Lib.hid ((h.start hb).eq (p' := ([Lib.itoa x] : List Bytes).flatten ++ p) (z' := z) rfl (by simp) (by simp [szL]))
  have HB := Lib.hid hb
  have HH := Lib.hid h
  have hlt := h.lt
  have HT := Lib.hid (hT.below HS0.out.below (Nat.le_refl _))
  subst hNd
  clear hb h hK
  go_enter Tryz.func53, Tryz.ntmps53
  go_wp2_with fail
  refine (p_format h0 h1 HT.out).mono ?_
  rintro e w1 ⟨rfl, hb1⟩
  have HS1 := Lib.hid (HS0.out.bel hb1)
  clear hb1
  go_wp2_with fail
  refine (St.put ([Lib.itoa x] : List Bytes) HS1.out _ rfl _ _ rfl rfl (by simp)).mono ?_
  rintro e w2 ⟨rfl, h2⟩
  have HS2 := Lib.hid h2
  clear h2
  go_wp2_with fail
  go_end0
  exact ⟨rfl, HH.out.leave HB.out (HS2.out.eq (by simp) rfl rfl)⟩
def truthB (x : Int) : Bytes := if x = 1 then [116, 114, 117, 101] else [102, 97, 108, 115, 101]
theorem p_fbool (v : Bool) (w : World) : Calls Tryz.prog 81 #[.bool v] w (fun e w' => e = .returned (.string (sb (if v = true then [116, 114, 117, 101] else [102, 97, 108, 115, 101]))) ∧ w' = w) := by
  cases v
  · go_enter Tryz.func81, Tryz.ntmps81
    go_wp2
    go_ret
    exact ⟨rfl, rfl⟩
  · go_enter Tryz.func81, Tryz.ntmps81
    go_wp2
    go_ret
    exact ⟨rfl, rfl⟩
set_option maxHeartbeats 4000000 in
set_option maxRecDepth 100000 in
theorem w_truth {w0 : World} {b m d : Nat} (k : Nat) (s : Bytes) (x : Int) : BodyC w0 b m d [] 54 k s x (truthB x) := by
  intro A n c wS w lo hi path txt p z hK hp h
  obtain ⟨N, hNd⟩ : ∃ N : Obj, N = .cells #[.int .u8 k, .string (sb s), .int .i64 x, .slice A n c] 25 := ⟨_, rfl⟩
  have hb : Below w.heap.size w (w.alloc N) := (Below.refl _ _).alloc (Nat.le_refl _) _
  have HS0 := Lib.hid ((h.start hb).eq (p' := ([truthB x] : List Bytes).flatten ++ p) (z' := z) rfl (by simp) (by simp [szL]))
  have HB := Lib.hid hb
  have HH := Lib.hid h
  have hlt := h.lt
  have ht : truthB x = if (x == 1) = true then [116, 114, 117, 101] else [102, 97, 108, 115, 101] := by unfold truthB; simp
  have HT := Lib.hid ht
  generalize hq : (x == 1) = q at ht HT
  subst hNd
  clear hb h hK ht
  go_enter Tryz.func54, Tryz.ntmps54
  go_wp2_with fail
  refine (p_fbool q _).mono ?_
  rintro e w1 ⟨rfl, hw1⟩
  rw [← HT.out, hw1]
  go_wp2_with fail
  refine (St.put ([truthB x] : List Bytes) HS0.out _ rfl (w.heap.size + 1) _ (by simp) rfl (by simp)).mono ?_
  rintro e w2 ⟨rfl, h2⟩
  have HS2 := Lib.hid h2
  clear h2
  go_wp2_with fail
  go_end0
  exact ⟨rfl, HH.out.leave HB.out (HS2.out.eq (by simp) rfl rfl)⟩
theorem p_operand_y {w0 : World} {b m d : Nat} {t : Tree} (hC : NodeC w0 b m d t) {ks : List Tree} (i : Nat) (hi : ks[i]? = some t) (least : Nat) (y : Int) (hy : y = (least : Int)) (k : Nat) (s : ByteArray) (x : Int) (A : Option Addr) (n c : Nat) {wS w : World} {lo hi' : Nat} {path : List Int} {txt p : Bytes} {z : Nat}
    (hK : KidsAt w0 ks A n c) (hp : path.length + 1 ≤ lo) (h : St w0 wS w b lo hi' path d m txt (opd least t (printT d t) ++ p) (t.sz + z)) :
    Calls Tryz.prog 82 #[.pointer (some ⟨b, 0, none⟩), .agg #[.int .u8 k, .string s, .int .i64 x, .slice A n c], .int .i64 i, .int .i64 y] w (fun e w' => e = .returned (.tuple #[]) ∧ St w0 wS w' b lo hi' path d m (txt ++ opd least t (printT d t)) p z) := by
  subst hy
  exact p_operand hC i hi least k s x A n c hK hp h
set_option maxHeartbeats 4000000 in
set_option maxRecDepth 100000 in
theorem w_binary {w0 : World} {b m d : Nat} {t0 t1 : Tree} (h0 : NodeC w0 b m d t0) (h1 : NodeC w0 b m d t1) (s : Bytes) (x : Int) : BodyC w0 b m d [t0, t1] 56 24 s x (opd (levelOp s) t0 (printT d t0) ++ 32 :: s ++ 32 :: opd (levelOp s + 1) t1 (printT d t1)) := by
  intro A n c wS w lo hi path txt p z hK hp h
  have hlo : levelOp s ≤ 5 := by unfold levelOp; repeat' (first | omega | split)
  obtain ⟨l1, hl1⟩ : ∃ l1, l1 = levelOp s + 1 := ⟨_, rfl⟩
  rw [← hl1] at h ⊢
  have hq : levelT (.node 24 s x []) = levelOp s := rfl
  generalize hl0 : levelOp s = l0 at *
  have hc : IntKind.i64.wrap ((l0 : Int) + 1) = (l1 : Int) := by rw [IntKind.wrap_i64]; omega
  have HC := Lib.hid hc
  clear hc
  obtain ⟨k, hk⟩ : ∃ k : Nat, k = 24 := ⟨_, rfl⟩
  rw [← hk]
  obtain ⟨N, hNd⟩ : ∃ N : Obj, N = .cells #[.int .u8 k, .string (sb s), .int .i64 x, .slice A n c] 25 := ⟨_, rfl⟩
  have hb : Below w.heap.size w (w.alloc N) := (Below.refl _ _).alloc (Nat.le_refl _) _
  have HS0 := Lib.hid ((h.start hb).eq (p' := opd (l0) t0 (printT d t0) ++ (([[32], s, [32]] : List Bytes).flatten ++ (opd (l1) t1 (printT d t1) ++ p))) (z' := t0.sz + (t1.sz + z)) rfl (by simp) (by simp [szL] <;> omega))
  have HB := Lib.hid hb
  have HH := Lib.hid h
  have HK := Lib.hid hK
  have hlt := h.lt
  have hlv : levelT (.node k s x []) = l0 := by subst hk; exact hq
  have HV := Lib.hid hlv
  subst hNd
  clear hb h hK hk hlv hq hl0 hl1
  go_enter Tryz.func56, Tryz.ntmps56
  go_upto_region 1 with fail
  go_cut [] (fun wx => Hid (St w0 (w.alloc (.cells #[.int .u8 k, .string (sb s), .int .i64 x, .slice A n c] 25)) wx b lo hi path d m (txt ++ opd (l0) t0 (printT d t0)) (([[32], s, [32]] : List Bytes).flatten ++ (opd (l1) t1 (printT d t1) ++ p)) (t1.sz + z)))
  case first =>
    go_region_law (first
      | (go_simp; go_at_call 83; refine (p_level (.node k s x []) x (.slice A n c) _).mono ?_; rintro e w1 ⟨rfl, hb1⟩; have hS1 := (HS0.out.bel (by exact (Below.refl _ _).drew)).bel hb1; have HS1 := Lib.hid hS1; obtain ⟨c0, c1, c2, c3⟩ := hS1.box hlt; clear hb1 hS1)
      | (go_simp; go_at_call 82; refine (p_operand h0 0 rfl (levelT (.node k s x [])) k (sb s) x A n c HK.out hp (by rw [HV.out]; exact HS1.out)).mono ?_; rintro e w2 ⟨rfl, h2⟩))
    all_goals
      go_wp2_with fail
      go_meet
      case rel => rw [HV.out] at h2; exact h2
  case rest =>
    obtain ⟨c0, c1, c2, c3⟩ := hcut.out.box hlt
    go_wp2_with fail
    refine (St.put ([[32], s, [32]] : List Bytes) hcut.out _ rfl _ _ rfl rfl (by simp)).mono ?_
    rintro e w3 ⟨rfl, h3⟩
    have HS3 := Lib.hid h3
    obtain ⟨d0, d1, d2, d3⟩ := h3.box hlt
    clear h3 c0 c1 c2 c3
    go_upto_region 3 with fail
    go_region_law (first
        | (go_simp; go_at_call 83; refine (p_level (.node k s x []) x (.slice A n c) _).mono ?_; rintro e w4 ⟨rfl, hb4⟩; rw [HV.out]; have hS4 := (HS3.out.bel (by exact (Below.refl _ _).drew)).bel hb4; have HS4 := Lib.hid hS4; obtain ⟨e0, e1, e2, e3⟩ := hS4.box hlt; clear hb4 hS4)
        | (go_simp; go_at_call 82; have T := p_operand_y h1 1 rfl l1 _ HC.out k (sb s) x A n c HK.out hp HS4.out; refine T.mono ?_; clear T; rintro e w5 ⟨rfl, h5⟩))
    all_goals
      go_end0
      exact ⟨rfl, HH.out.leave HB.out (h5.eq (by simp) rfl rfl)⟩
set_option maxHeartbeats 4000000 in
set_option maxRecDepth 100000 in
theorem w_branch {w0 : World} {b m d : Nat} {t0 t1 t2 : Tree} (h0 : NodeC w0 b m d t0) (h1 : NodeC w0 b m d t1) (h2 : NodeC w0 b m d t2) (k : Nat) (s : Bytes) (x : Int) : BodyC w0 b m d [t0, t1, t2] 48 k s x ([105, 102, 32] ++ printT d t0 ++ 32 :: printT d t1 ++ (if t2.kids = [] then [] else [32, 101, 108, 115, 101, 32] ++ printT d t2)) := by
  intro A n c wS w lo hi path txt p z hK hp h
  obtain ⟨N, hNd⟩ : ∃ N : Obj, N = .cells #[.int .u8 k, .string (sb s), .int .i64 x, .slice A n c] 25 := ⟨_, rfl⟩
  have hb : Below w.heap.size w (w.alloc N) := (Below.refl _ _).alloc (Nat.le_refl _) _
  obtain ⟨R, hR⟩ : ∃ R : Bytes, R = if t2.kids = [] then [] else [32, 101, 108, 115, 101, 32] ++ printT d t2 := ⟨_, rfl⟩
  rw [← hR] at h ⊢
  have HR := Lib.hid hR
  have HS0 := Lib.hid ((h.start hb).eq (p' := ([[105, 102, 32]] : List Bytes).flatten ++ (printT d t0 ++ (([[32]] : List Bytes).flatten ++ (printT d t1 ++ (R ++ p))))) (z' := t0.sz + (t1.sz + (t2.sz + z))) rfl (by simp) (by simp [szL] <;> omega))
  have HB := Lib.hid hb
  have HH := Lib.hid h
  have HK := Lib.hid hK
  have hlt := h.lt
  obtain ⟨kb, ko, t', rfl, hi2, hT⟩ := hK.get (i := 2) (by rw [hK.1]; simp)
  obtain rfl : t' = t2 := by simpa using hi2.symm
  obtain ⟨kA, kc, e0, e1, e2, e3, hN⟩ := hT.cells
  have hnm : 2 < n := by rw [hK.1]; simp
  have hnm2 : n ≤ 9223372036854775807 := by rw [hK.1]; simp
  have HE := Lib.hid e3
  have HN := Lib.hid hN
  subst hNd
  clear hb h hK hR hi2 hT e0 e1 e2 e3 hN
  go_enter Tryz.func48, Tryz.ntmps48
  go_wp2_with fail
  refine (St.put ([[105, 102, 32]] : List Bytes) HS0.out _ rfl (w.heap.size + 1) _ (by simp) rfl (by simp)).mono ?_
  rintro e w1 ⟨rfl, h1'⟩
  have HS1 := Lib.hid h1'
  obtain ⟨c1a, c1b, c1c, c1d⟩ := h1'.box hlt
  clear h1'
  go_wp2_with fail
  refine (p_kid h0 0 rfl k (sb s) x _ n c HK.out hp HS1.out).mono ?_
  rintro e w2 ⟨rfl, h2'⟩
  have HS2 := Lib.hid h2'
  obtain ⟨c2a, c2b, c2c, c2d⟩ := h2'.box hlt
  clear h2' c1a c1b c1c c1d
  go_wp2_with fail
  refine (St.put ([[32]] : List Bytes) HS2.out _ rfl _ _ rfl rfl (by simp)).mono ?_
  rintro e w3 ⟨rfl, h3'⟩
  have HS3 := Lib.hid h3'
  obtain ⟨c3a, c3b, c3c, c3d⟩ := h3'.box hlt
  clear h3' c2a c2b c2c c2d
  go_wp2_with fail
  refine (p_kid h1 1 rfl k (sb s) x _ n c HK.out hp HS3.out).mono ?_
  rintro e w4 ⟨rfl, h4'⟩
  have HS4 := Lib.hid h4'
  obtain ⟨c4a, c4b, c4c, c4d⟩ := h4'.box hlt
  have z3 := (h4'.below.cell (p := ⟨kb, ko + 2 * 4 + 3, none⟩) (cell_lt HE.out)).trans HE.out
  have z3' : w4.cell? ⟨kb, ko + 8 + 3, none⟩ = some (.slice kA t'.kids.length kc) := z3
  clear h4' c3a c3b c3c c3d
  by_cases hk : t'.kids = []
  · have hl0 : t'.kids.length = 0 := by rw [hk]; rfl
    rw [hl0] at z3 z3'
    have hR0 : R = [] := by rw [HR.out, if_pos hk]
    go_wp2_with fail
    go_end0
    exact ⟨rfl, HH.out.leave HB.out ((HS4.out.drop (a := t'.sz)).eq (by rw [hR0]; simp) (by rw [hR0]; simp) rfl)⟩
  · have hl1 : 0 < t'.kids.length := List.length_pos_iff.2 hk
    have hR1 : R ++ p = ([[32, 101, 108, 115, 101, 32]] : List Bytes).flatten ++ (printT d t' ++ p) := by rw [HR.out, if_neg hk]; simp
    have HS4' := Lib.hid (HS4.out.eq rfl hR1 rfl)
    go_wp2_with fail
    refine (St.put ([[32, 101, 108, 115, 101, 32]] : List Bytes) HS4'.out _ rfl _ _ rfl rfl (by simp)).mono ?_
    rintro e w5 ⟨rfl, h5'⟩
    have HS5 := Lib.hid h5'
    obtain ⟨c5a, c5b, c5c, c5d⟩ := h5'.box hlt
    clear h5' c4a c4b c4c c4d z3 z3'
    go_wp2_with fail
    refine (p_kid h2 2 rfl k (sb s) x _ n c HK.out hp HS5.out).mono ?_
    rintro e w6 ⟨rfl, h6'⟩
    have HS6 := Lib.hid h6'
    clear h6' c5a c5b c5c c5d
    go_wp2_with fail
    go_end0
    exact ⟨rfl, HH.out.leave HB.out (HS6.out.eq (by rw [HR.out, if_neg hk]; simp) rfl rfl)⟩
theorem repeat_sp (d : Nat) : Lib.repeatL [32, 32] d = List.replicate (2 * d) 32 := by
  induction d with
  | zero => rfl
  | succ d ih => rw [Lib.repeatL, ih, show 2 * (d + 1) = 2 * d + 1 + 1 from by omega]; rfl
theorem p_repeat (d : Nat) (hd : d ≤ 1000000) (w : World) : Calls Tryz.prog 91 #[.string ⟨#[32, 32]⟩, .int .i64 d] w (fun e w' => e = .returned (.string (sb (List.replicate (2 * d) 32))) ∧ Below w.heap.size w w') := by
  refine (Tryz.strings_Repeat ⟨#[32, 32]⟩ d w (by omega) (by show 2 * d ≤ _; omega)).mono ?_
  rintro e w' ⟨rfl, hb⟩
  exact ⟨by rw [show (⟨#[32, 32]⟩ : ByteArray).data.toList = [32, 32] from rfl, repeat_sp], hb⟩
theorem St.deep_cell {w0 wS w : World} {b lo hi : Nat} {path : List Int} {d m : Nat} {txt p : Bytes} {z : Nat} (h : St w0 wS w b lo hi path d m txt p z) : w.cell? ⟨b, 4, none⟩ = some (.int .i64 d) ∧ w.frozen? ⟨b, 4, none⟩ = false ∧ ∀ d' : Nat, St w0 wS (w.setCell ⟨b, 4, none⟩ (.int .i64 d')) b lo hi path d' m txt p z := by
  obtain ⟨nm, h1, h2, u, bv, mv, pv, hP⟩ := h.prt
  refine ⟨hP.box.cells.2.2.2.2.1, hP.box.soft 4, fun d' => ?_⟩
  obtain ⟨q1, q2⟩ := hP.put_deep d'
  exact ⟨h.below.trans q2.below, ⟨nm, h1, h2, _, _, _, _, q1⟩, h.room, h.few, h.fr.trans q2⟩
set_option maxHeartbeats 4000000 in
set_option maxRecDepth 100000 in
theorem p_indent {w0 wS w : World} {b lo hi : Nat} {path : List Int} {d m : Nat} {txt p : Bytes} {z : Nat} (hd : d ≤ 1000000) (h : St w0 wS w b lo hi path d m txt (pad d ++ p) z) :
    Calls Tryz.prog 80 #[.pointer (some ⟨b, 0, none⟩)] w (fun e w' => e = .returned (.tuple #[]) ∧ St w0 wS w' b lo hi path d m (txt ++ pad d) p z) := by
  have HS := Lib.hid (h.eq (p' := ([[10], List.replicate (2 * d) 32] : List Bytes).flatten ++ p) rfl (by simp [pad]) rfl)
  obtain ⟨c4, f4, _⟩ := h.deep_cell
  clear h
  go_enter Tryz.func80, Tryz.ntmps80
  go_wp2_with fail
  refine (p_repeat d hd _).mono ?_
  rintro e w1 ⟨rfl, hb1⟩
  have HS1 := Lib.hid (HS.out.bel hb1)
  clear hb1
  go_wp2_with fail
  refine (St.put ([[10], List.replicate (2 * d) 32] : List Bytes) HS1.out _ rfl _ _ rfl rfl (by simp)).mono ?_
  rintro e w2 ⟨rfl, h2⟩
  have HS2 := Lib.hid h2
  clear h2
  go_wp2_with fail
  go_end0
  exact ⟨rfl, HS2.out.eq (by simp [pad]) rfl rfl⟩
end Go.Proofs.YtjdofndkdkeapaaGreatDoor
