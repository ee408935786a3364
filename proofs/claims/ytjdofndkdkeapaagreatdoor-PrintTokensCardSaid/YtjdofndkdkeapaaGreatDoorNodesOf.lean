/- The walk over the kit's NodesOf: what a tree costs. -/
import Derived.Test.YtjdofndkdkeapaaGreatDoorTreeC
import Derived.Test.YtjdofndkdkeapaaGreatDoorSzAt
namespace Go.Proofs.YtjdofndkdkeapaaGreatDoor
open Go.RowKit
set_option linter.unusedSimpArgs false

mutual
def Tree.cost : Tree → Nat
  | .node _ s _ ks => 1 + s.length / 8 + costL ks
def costL : List Tree → Nat
  | [] => 0
  | t :: ts => t.cost + costL ts
end
theorem costL_step {ks : List Tree} {i : Nat} {t : Tree} (h : ks[i]? = some t) : costL (ks.take (i + 1)) = costL (ks.take i) + t.cost := by
  induction ks generalizing i with
  | nil => simp at h
  | cons u us ih =>
    cases i with
    | zero => simp at h; subst h; simp [costL]
    | succ i => have := ih (i := i) (by simpa using h); simp [costL, this]; omega
theorem costL_take (ks : List Tree) (i : Nat) : costL (ks.take i) ≤ costL ks := by
  induction ks generalizing i with
  | nil => simp [costL]
  | cons u us ih =>
    cases i with
    | zero => simp [costL]
    | succ i => have := ih i; simp [costL]; omega
theorem Tree.cost_pos (t : Tree) : 1 ≤ t.cost := by cases t; simp [Tree.cost]; omega
/-- The longest text that the walk meets. -/
abbrev LL : Nat := 140737488355328
/-- `v` is the cost, where that is at most `most`; above it otherwise. -/
def Costs (v c most : Nat) : Prop := (v ≤ most → v = c) ∧ (most < v → most < c)
def NodesPost (c most : Nat) (w : World) (e : Ending) (w' : World) : Prop := ∃ v : Nat, e = .returned (.int .i64 v) ∧ Below w.heap.size w w' ∧ 1 ≤ v ∧ v ≤ most + 17592186044418 ∧ Costs v c most
theorem NodesPost.intro {c most v : Nat} {w w' : World} (hb : Below w.heap.size w w') (h1 : 1 ≤ v) (h2 : v ≤ most + 17592186044418) (h3 : Costs v c most) : NodesPost c most w (.returned (.int .i64 v)) w' := ⟨v, rfl, hb, h1, h2, h3⟩
def NodesC (m : Nat) : Prop := ∀ (t : Tree) (k : Nat) (s : ByteArray) (x : Int) (A : Option Addr) (n c most : Nat) (w : World), t.sz ≤ m → NodeIs w t k s x A n c → t.short LL → most ≤ 1000000 →
  Calls Tryz.prog 5 #[.agg #[.int .u8 k, .string s, .int .i64 x, .slice A n c], .int .i64 most] w (NodesPost t.cost most w)
set_option maxHeartbeats 2000000 in
theorem nodes_step (m : Nat) (ih : Hid (NodesC m)) : NodesC (m + 1) := by
  intro t k s x A n c most w hsz hN hsh hm
  obtain ⟨ks, rfl, _, _, _, hK⟩ := hN
  have hb0 : Below w.heap.size w (w.alloc (.cells #[.int .u8 k, .string s, .int .i64 x, .slice A n c] 25)) := (Below.refl _ _).alloc (Nat.le_refl _) _
  have HB0 := Lib.hid hb0
  have HK := Lib.hid (hK.below hb0)
  have HBX := Lib.hid (box4 (w := w) (x := .int .u8 k) (y := .string s) (z := .int .i64 x) (u := .slice A n c) (T := 25))
  have HSZ : Hid (szL ks ≤ m) := by show _ ≤ _; simp only [Tree.sz] at hsz; omega
  have hs : s.size ≤ 140737488355328 := by simp only [Tree.short, bl_len] at hsh; exact hsh.1
  have HSH : Hid (shortL LL ks) := by simp only [Tree.short] at hsh; exact hsh.2
  have HC : Hid (Tree.cost (.node k (bl s) x ks) = 1 + s.size / 8 + costL ks) := by show _ = _; simp [Tree.cost, bl_len]
  have hnn : n ≤ 9223372036854775807 := by have h1 := hK.2.1; have h2 := hK.2.2.1; unfold maxLen at h2; omega
  have HL : Hid (n = ks.length) := hK.1
  clear hsz hb0 hK hsh
  go_enter Tryz.func5, Tryz.ntmps5
  go_wp2_with fail
  go_loopw [5, 6] (fun cv i wr => ∃ j v : Nat, j ≤ n ∧ i = .int .i64 j ∧ cv = .int .i64 v ∧ v ≤ most + 17592186044418 ∧ 1 ≤ v ∧ Hid (Below (w.alloc (.cells #[.int .u8 k, .string s, .int .i64 x, .slice A n c] 25)).heap.size (w.alloc (.cells #[.int .u8 k, .string s, .int .i64 x, .slice A n c] 25)) wr) ∧ Hid (Costs v (1 + s.size / 8 + costL (ks.take j)) most)) (fun _ i _ => n - (intOf i).toNat)
  case atStart =>
    refine ⟨0, 1 + s.size / 8, Nat.zero_le _, rfl, ?_, by omega, by omega, Below.refl _ _, ?_⟩
    · go_num
    · show Costs _ _ _; simp [Costs, costL]
  case round =>
    obtain ⟨j, v, hj, rfl, rfl, hv, hv1, HB, HI⟩ := hrel
    obtain ⟨b0, b1, b2, b3⟩ := HBX.out
    have c0 := cell_below HB.out b0
    have c1 := cell_below HB.out b1
    have c2 := cell_below HB.out b2
    have c3 := cell_below HB.out b3
    clear b0 b1 b2 b3
    by_cases hlt : j < n
    · by_cases hc : v ≤ most
      · obtain ⟨b, o, t, rfl, ht, hat⟩ := (HK.out.below HB.out).get hlt
        obtain ⟨B1, d1, q0, q1, q2, q3, hnode⟩ := hat.cells
        have HND := Lib.hid hnode
        have HSZT : Hid (t.sz ≤ m) := Nat.le_trans (sz_at ht) HSZ.out
        have HST := Lib.hid (HSH.out.get ht)
        have HCS := Lib.hid (costL_step ht)
        have hv' : v = 1 + s.size / 8 + costL (ks.take j) := HI.out.1 hc
        have HV := Lib.hid hv'
        clear ht hat hnode hv'
        go_wp2_with fail
        rw [show ((most : Int) - (v : Int)) = ((most - v : Nat) : Int) by omega]
        refine (ih.out t _ _ _ _ _ _ (most - v) _ HSZT.out HND.out HST.out (by omega)).mono ?_
        rintro e w3 ⟨z, rfl, hb3, hz1, hz2, hz3⟩
        have HB3 := Lib.hid (HB.out.trans (hb3.mono HB.out.size))
        have HZ := Lib.hid hz3
        clear hb3 hz3
        obtain ⟨b0, b1, b2, b3⟩ := HBX.out
        clear c0 c1 c2 c3
        have c0 := cell_below HB3.out b0
        have c1 := cell_below HB3.out b1
        have c2 := cell_below HB3.out b2
        have c3 := cell_below HB3.out b3
        clear b0 b1 b2 b3
        go_wp2
        go_roundw
        case rel =>
          refine ⟨j + 1, v + z, by omega, by go_num, by go_num, by omega, by omega, HB3, ?_⟩
          show Costs _ _ _
          have h1 := HZ.out
          have h2 := HV.out
          have h3 := HCS.out
          unfold Costs at h1 ⊢
          rw [h3]
          omega
        case measure => simp [intOf]; omega
      · have HT := Lib.hid (costL_take ks j)
        go_wp2_with fail
        go_ret
        refine NodesPost.intro (HB0.out.trans (HB.out.mono HB0.out.size)) hv1 hv ?_
        have h1 := HI.out
        have h2 := HT.out
        rw [HC.out]
        unfold Costs at h1 ⊢
        omega
    · go_wp2_with fail
      go_ret
      refine NodesPost.intro (HB0.out.trans (HB.out.mono HB0.out.size)) hv1 hv ?_
      have h1 := HI.out
      rw [List.take_of_length_le (by have := HL.out; omega)] at h1
      rw [HC.out]
      exact h1
theorem nodes_all : ∀ m, NodesC m
  | 0 => by
    intro t k s x A n c most w hsz
    obtain ⟨k0, s0, x0, ks0⟩ := t
    simp [Tree.sz] at hsz
  | m + 1 => nodes_step m (Lib.hid (nodes_all m))
theorem k_nodes_of (t : Tree) (k : Nat) (s : ByteArray) (x : Int) (A : Option Addr) (n c most : Nat) (w : World) (hN : NodeIs w t k s x A n c) (hsh : t.short LL) (hm : most ≤ 1000000) :
    Calls Tryz.prog 5 #[.agg #[.int .u8 k, .string s, .int .i64 x, .slice A n c], .int .i64 most] w (NodesPost t.cost most w) := nodes_all t.sz _ _ _ _ _ _ _ _ _ (Nat.le_refl _) hN hsh hm
end Go.Proofs.YtjdofndkdkeapaaGreatDoor
