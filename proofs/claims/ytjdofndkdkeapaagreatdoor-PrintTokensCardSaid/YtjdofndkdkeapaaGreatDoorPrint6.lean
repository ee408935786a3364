/- The walks over the printer's ways that print a fixed row of texts and Kids. -/
import Derived.Test.YtjdofndkdkeapaaGreatDoorPrint5
namespace Go.Proofs.YtjdofndkdkeapaaGreatDoor
open Go.RowKit
set_option linter.unusedSimpArgs false
set_option linter.unusedVariables false

/-- What a way prints of a node with these fields. -/
def BodyC (w0 : World) (b m d : Nat) (ks : List Tree) (f : FuncId) (k : Nat) (s : Bytes) (x : Int) (out : Bytes) : Prop := ∀ (A : Option Addr) (n c : Nat) (wS w : World) (lo hi : Nat) (path : List Int) (txt p : Bytes) (z : Nat), KidsAt w0 ks A n c →
  path.length + 1 ≤ lo → St w0 wS w b lo hi path d m txt (out ++ p) (szL ks + z) →
  Calls Tryz.prog f #[.pointer (some ⟨b, 0, none⟩), .agg #[.int .u8 k, .string (sb s), .int .i64 x, .slice A n c]] w (fun e w' => e = .returned (.tuple #[]) ∧ St w0 wS w' b lo hi path d m (txt ++ out) p z)
theorem BodyC.way {w0 : World} {b m d : Nat} {k : Nat} {s : Bytes} {x : Int} {ks : List Tree} {f : FuncId} {out : Bytes} (h : BodyC w0 b m d ks f k s x out) (ho : printT d (.node k s x ks) = out) : WayC w0 b m d (.node k s x ks) f := by
  intro A c wS w lo hi path txt p z hN hp hS
  rw [ho] at hS ⊢
  obtain ⟨ks', e, _, _, _, hK⟩ := hN
  injection e with e1 e2 e3 e4
  subst e4
  exact h A _ c wS w lo hi path txt p z hK hp hS
theorem St.drop {w0 wS w : World} {b lo hi : Nat} {path : List Int} {d m : Nat} {txt p : Bytes} {a z : Nat} (h : St w0 wS w b lo hi path d m txt p (a + z)) : St w0 wS w b lo hi path d m txt p z := by
  obtain ⟨nm, h1, h2, hp⟩ := h.prt
  exact ⟨h.below, ⟨nm, h1, by omega, hp⟩, h.room, h.few, h.fr⟩
set_option maxHeartbeats 4000000 in
set_option maxRecDepth 100000 in
theorem w_text {w0 : World} {b m d : Nat}  (k : Nat) (s : Bytes) (x : Int) : BodyC w0 b m d [] 44 k s x (s) := by
  intro A n c wS w lo hi path txt p z hK hp h
  obtain ⟨N, hNd⟩ : ∃ N : Obj, N = .cells #[.int .u8 k, .string (sb s), .int .i64 x, .slice A n c] 25 := ⟨_, rfl⟩
  have hb : Below w.heap.size w (w.alloc N) := (Below.refl _ _).alloc (Nat.le_refl _) _
  have HS0 := Lib.hid ((h.start hb).eq (p' := ([s] : List Bytes).flatten ++ (p)) (z' := z) rfl (by simp) (by simp [szL] <;> omega))
  have HB := Lib.hid hb
  have HH := Lib.hid h
  have HK := Lib.hid hK
  have hlt := h.lt
  subst hNd
  clear hb h hK
  go_enter Tryz.func44, Tryz.ntmps44
  go_wp2_with fail
  refine (St.put ([s] : List Bytes) HS0.out _ rfl (w.heap.size + 1) _ (by simp) rfl (by simp)).mono ?_
  rintro e w1 ⟨rfl, h1'⟩
  have HS1 := Lib.hid h1'
  obtain ⟨c1a, c1b, c1c, c1d⟩ := h1'.box hlt
  clear h1'
  go_wp2_with fail
  go_end0
  exact ⟨rfl, HH.out.leave HB.out (HS1.out.eq (by simp) rfl rfl)⟩
set_option maxHeartbeats 4000000 in
set_option maxRecDepth 100000 in
theorem w_read {w0 : World} {b m d : Nat}  (k : Nat) (s : Bytes) (x : Int) : BodyC w0 b m d [] 61 k s x ([114, 101, 97, 100, 40, 41]) := by
  intro A n c wS w lo hi path txt p z hK hp h
  obtain ⟨N, hNd⟩ : ∃ N : Obj, N = .cells #[.int .u8 k, .string (sb s), .int .i64 x, .slice A n c] 25 := ⟨_, rfl⟩
  have hb : Below w.heap.size w (w.alloc N) := (Below.refl _ _).alloc (Nat.le_refl _) _
  have HS0 := Lib.hid ((h.start hb).eq (p' := ([[114, 101, 97, 100, 40, 41]] : List Bytes).flatten ++ (p)) (z' := z) rfl (by simp) (by simp [szL] <;> omega))
  have HB := Lib.hid hb
  have HH := Lib.hid h
  have HK := Lib.hid hK
  have hlt := h.lt
  subst hNd
  clear hb h hK
  go_enter Tryz.func61, Tryz.ntmps61
  go_wp2_with fail
  refine (St.put ([[114, 101, 97, 100, 40, 41]] : List Bytes) HS0.out _ rfl (w.heap.size + 1) _ (by simp) rfl (by simp)).mono ?_
  rintro e w1 ⟨rfl, h1'⟩
  have HS1 := Lib.hid h1'
  obtain ⟨c1a, c1b, c1c, c1d⟩ := h1'.box hlt
  clear h1'
  go_wp2_with fail
  go_end0
  exact ⟨rfl, HH.out.leave HB.out (HS1.out.eq (by simp) rfl rfl)⟩
set_option maxHeartbeats 4000000 in
set_option maxRecDepth 100000 in
theorem w_do {w0 : World} {b m d : Nat} {t0 : Tree} (h0 : NodeC w0 b m d t0) (k : Nat) (s : Bytes) (x : Int) : BodyC w0 b m d [t0] 52 k s x (printT d t0 ++ [59]) := by
  intro A n c wS w lo hi path txt p z hK hp h
  obtain ⟨N, hNd⟩ : ∃ N : Obj, N = .cells #[.int .u8 k, .string (sb s), .int .i64 x, .slice A n c] 25 := ⟨_, rfl⟩
  have hb : Below w.heap.size w (w.alloc N) := (Below.refl _ _).alloc (Nat.le_refl _) _
  have HS0 := Lib.hid ((h.start hb).eq (p' := printT d t0 ++ (([[59]] : List Bytes).flatten ++ (p))) (z' := t0.sz + (z)) rfl (by simp) (by simp [szL] <;> omega))
  have HB := Lib.hid hb
  have HH := Lib.hid h
  have HK := Lib.hid hK
  have hlt := h.lt
  subst hNd
  clear hb h hK
  go_enter Tryz.func52, Tryz.ntmps52
  go_wp2_with fail
  refine (p_kid h0 0 rfl k (sb s) x A n c HK.out hp HS0.out).mono ?_
  rintro e w1 ⟨rfl, h1'⟩
  have HS1 := Lib.hid h1'
  obtain ⟨c1a, c1b, c1c, c1d⟩ := h1'.box hlt
  clear h1'
  go_wp2_with fail
  refine (St.put ([[59]] : List Bytes) HS1.out _ rfl _ _ rfl rfl (by simp)).mono ?_
  rintro e w2 ⟨rfl, h2'⟩
  have HS2 := Lib.hid h2'
  obtain ⟨c2a, c2b, c2c, c2d⟩ := h2'.box hlt
  clear h2'
  clear c1a c1b c1c c1d
  go_wp2_with fail
  go_end0
  exact ⟨rfl, HH.out.leave HB.out (HS2.out.eq (by simp) rfl rfl)⟩
set_option maxHeartbeats 4000000 in
set_option maxRecDepth 100000 in
theorem w_back {w0 : World} {b m d : Nat} {t0 : Tree} (h0 : NodeC w0 b m d t0) (k : Nat) (s : Bytes) (x : Int) : BodyC w0 b m d [t0] 50 k s x ([114, 101, 116, 117, 114, 110, 32] ++ printT d t0 ++ [59]) := by
  intro A n c wS w lo hi path txt p z hK hp h
  obtain ⟨N, hNd⟩ : ∃ N : Obj, N = .cells #[.int .u8 k, .string (sb s), .int .i64 x, .slice A n c] 25 := ⟨_, rfl⟩
  have hb : Below w.heap.size w (w.alloc N) := (Below.refl _ _).alloc (Nat.le_refl _) _
  have HS0 := Lib.hid ((h.start hb).eq (p' := ([[114, 101, 116, 117, 114, 110, 32]] : List Bytes).flatten ++ ((printT d t0 ++ [59]) ++ (p))) (z' := szL [t0] + (z)) rfl (by simp) (by simp [szL] <;> omega))
  have HB := Lib.hid hb
  have HH := Lib.hid h
  have HK := Lib.hid hK
  have hlt := h.lt
  subst hNd
  clear hb h hK
  go_enter Tryz.func50, Tryz.ntmps50
  go_wp2_with fail
  refine (St.put ([[114, 101, 116, 117, 114, 110, 32]] : List Bytes) HS0.out _ rfl (w.heap.size + 1) _ (by simp) rfl (by simp)).mono ?_
  rintro e w1 ⟨rfl, h1'⟩
  have HS1 := Lib.hid h1'
  obtain ⟨c1a, c1b, c1c, c1d⟩ := h1'.box hlt
  clear h1'
  go_wp2_with fail
  refine (w_do h0 k s x A n c _ _ lo hi path _ _ _ HK.out hp HS1.out).mono ?_
  rintro e w2 ⟨rfl, h2'⟩
  have HS2 := Lib.hid h2'
  obtain ⟨c2a, c2b, c2c, c2d⟩ := h2'.box hlt
  clear h2'
  clear c1a c1b c1c c1d
  go_wp2_with fail
  go_end0
  exact ⟨rfl, HH.out.leave HB.out (HS2.out.eq (by simp) rfl rfl)⟩
set_option maxHeartbeats 4000000 in
set_option maxRecDepth 100000 in
theorem w_tell {w0 : World} {b m d : Nat} {t0 : Tree} (h0 : NodeC w0 b m d t0) (k : Nat) (s : Bytes) (x : Int) : BodyC w0 b m d [t0] 51 k s x ([112, 114, 105, 110, 116, 32] ++ printT d t0 ++ [59]) := by
  intro A n c wS w lo hi path txt p z hK hp h
  obtain ⟨N, hNd⟩ : ∃ N : Obj, N = .cells #[.int .u8 k, .string (sb s), .int .i64 x, .slice A n c] 25 := ⟨_, rfl⟩
  have hb : Below w.heap.size w (w.alloc N) := (Below.refl _ _).alloc (Nat.le_refl _) _
  have HS0 := Lib.hid ((h.start hb).eq (p' := ([[112, 114, 105, 110, 116, 32]] : List Bytes).flatten ++ ((printT d t0 ++ [59]) ++ (p))) (z' := szL [t0] + (z)) rfl (by simp) (by simp [szL] <;> omega))
  have HB := Lib.hid hb
  have HH := Lib.hid h
  have HK := Lib.hid hK
  have hlt := h.lt
  subst hNd
  clear hb h hK
  go_enter Tryz.func51, Tryz.ntmps51
  go_wp2_with fail
  refine (St.put ([[112, 114, 105, 110, 116, 32]] : List Bytes) HS0.out _ rfl (w.heap.size + 1) _ (by simp) rfl (by simp)).mono ?_
  rintro e w1 ⟨rfl, h1'⟩
  have HS1 := Lib.hid h1'
  obtain ⟨c1a, c1b, c1c, c1d⟩ := h1'.box hlt
  clear h1'
  go_wp2_with fail
  refine (w_do h0 k s x A n c _ _ lo hi path _ _ _ HK.out hp HS1.out).mono ?_
  rintro e w2 ⟨rfl, h2'⟩
  have HS2 := Lib.hid h2'
  obtain ⟨c2a, c2b, c2c, c2d⟩ := h2'.box hlt
  clear h2'
  clear c1a c1b c1c c1d
  go_wp2_with fail
  go_end0
  exact ⟨rfl, HH.out.leave HB.out (HS2.out.eq (by simp) rfl rfl)⟩
set_option maxHeartbeats 4000000 in
set_option maxRecDepth 100000 in
theorem w_declare {w0 : World} {b m d : Nat} {t0 : Tree} (h0 : NodeC w0 b m d t0) (k : Nat) (s : Bytes) (x : Int) : BodyC w0 b m d [t0] 46 k s x ([118, 97, 114, 32] ++ s ++ [32, 61, 32] ++ printT d t0 ++ [59]) := by
  intro A n c wS w lo hi path txt p z hK hp h
  obtain ⟨N, hNd⟩ : ∃ N : Obj, N = .cells #[.int .u8 k, .string (sb s), .int .i64 x, .slice A n c] 25 := ⟨_, rfl⟩
  have hb : Below w.heap.size w (w.alloc N) := (Below.refl _ _).alloc (Nat.le_refl _) _
  have HS0 := Lib.hid ((h.start hb).eq (p' := ([[118, 97, 114, 32], s, [32, 61, 32]] : List Bytes).flatten ++ (printT d t0 ++ (([[59]] : List Bytes).flatten ++ (p)))) (z' := t0.sz + (z)) rfl (by simp) (by simp [szL] <;> omega))
  have HB := Lib.hid hb
  have HH := Lib.hid h
  have HK := Lib.hid hK
  have hlt := h.lt
  subst hNd
  clear hb h hK
  go_enter Tryz.func46, Tryz.ntmps46
  go_wp2_with fail
  refine (St.put ([[118, 97, 114, 32], s, [32, 61, 32]] : List Bytes) HS0.out _ rfl (w.heap.size + 1) _ (by simp) rfl (by simp)).mono ?_
  rintro e w1 ⟨rfl, h1'⟩
  have HS1 := Lib.hid h1'
  obtain ⟨c1a, c1b, c1c, c1d⟩ := h1'.box hlt
  clear h1'
  go_wp2_with fail
  refine (p_kid h0 0 rfl k (sb s) x A n c HK.out hp HS1.out).mono ?_
  rintro e w2 ⟨rfl, h2'⟩
  have HS2 := Lib.hid h2'
  obtain ⟨c2a, c2b, c2c, c2d⟩ := h2'.box hlt
  clear h2'
  clear c1a c1b c1c c1d
  go_wp2_with fail
  refine (St.put ([[59]] : List Bytes) HS2.out _ rfl _ _ rfl rfl (by simp)).mono ?_
  rintro e w3 ⟨rfl, h3'⟩
  have HS3 := Lib.hid h3'
  obtain ⟨c3a, c3b, c3c, c3d⟩ := h3'.box hlt
  clear h3'
  clear c2a c2b c2c c2d
  go_wp2_with fail
  go_end0
  exact ⟨rfl, HH.out.leave HB.out (HS3.out.eq (by simp) rfl rfl)⟩
set_option maxHeartbeats 4000000 in
set_option maxRecDepth 100000 in
theorem w_set {w0 : World} {b m d : Nat} {t0 t1 : Tree} (h0 : NodeC w0 b m d t0) (h1 : NodeC w0 b m d t1) (k : Nat) (s : Bytes) (x : Int) : BodyC w0 b m d [t0, t1] 47 k s x (printT d t0 ++ [32, 61, 32] ++ printT d t1 ++ [59]) := by
  intro A n c wS w lo hi path txt p z hK hp h
  obtain ⟨N, hNd⟩ : ∃ N : Obj, N = .cells #[.int .u8 k, .string (sb s), .int .i64 x, .slice A n c] 25 := ⟨_, rfl⟩
  have hb : Below w.heap.size w (w.alloc N) := (Below.refl _ _).alloc (Nat.le_refl _) _
  have HS0 := Lib.hid ((h.start hb).eq (p' := printT d t0 ++ (([[32, 61, 32]] : List Bytes).flatten ++ (printT d t1 ++ (([[59]] : List Bytes).flatten ++ (p))))) (z' := t0.sz + (t1.sz + (z))) rfl (by simp) (by simp [szL] <;> omega))
  have HB := Lib.hid hb
  have HH := Lib.hid h
  have HK := Lib.hid hK
  have hlt := h.lt
  subst hNd
  clear hb h hK
  go_enter Tryz.func47, Tryz.ntmps47
  go_wp2_with fail
  refine (p_kid h0 0 rfl k (sb s) x A n c HK.out hp HS0.out).mono ?_
  rintro e w1 ⟨rfl, h1'⟩
  have HS1 := Lib.hid h1'
  obtain ⟨c1a, c1b, c1c, c1d⟩ := h1'.box hlt
  clear h1'
  go_wp2_with fail
  refine (St.put ([[32, 61, 32]] : List Bytes) HS1.out _ rfl _ _ rfl rfl (by simp)).mono ?_
  rintro e w2 ⟨rfl, h2'⟩
  have HS2 := Lib.hid h2'
  obtain ⟨c2a, c2b, c2c, c2d⟩ := h2'.box hlt
  clear h2'
  clear c1a c1b c1c c1d
  go_wp2_with fail
  refine (p_kid h1 1 rfl k (sb s) x A n c HK.out hp HS2.out).mono ?_
  rintro e w3 ⟨rfl, h3'⟩
  have HS3 := Lib.hid h3'
  obtain ⟨c3a, c3b, c3c, c3d⟩ := h3'.box hlt
  clear h3'
  clear c2a c2b c2c c2d
  go_wp2_with fail
  refine (St.put ([[59]] : List Bytes) HS3.out _ rfl _ _ rfl rfl (by simp)).mono ?_
  rintro e w4 ⟨rfl, h4'⟩
  have HS4 := Lib.hid h4'
  obtain ⟨c4a, c4b, c4c, c4d⟩ := h4'.box hlt
  clear h4'
  clear c3a c3b c3c c3d
  go_wp2_with fail
  go_end0
  exact ⟨rfl, HH.out.leave HB.out (HS4.out.eq (by simp) rfl rfl)⟩
set_option maxHeartbeats 4000000 in
set_option maxRecDepth 100000 in
theorem w_while {w0 : World} {b m d : Nat} {t0 t1 : Tree} (h0 : NodeC w0 b m d t0) (h1 : NodeC w0 b m d t1) (k : Nat) (s : Bytes) (x : Int) : BodyC w0 b m d [t0, t1] 49 k s x ([119, 104, 105, 108, 101, 32] ++ printT d t0 ++ 32 :: printT d t1) := by
  intro A n c wS w lo hi path txt p z hK hp h
  obtain ⟨N, hNd⟩ : ∃ N : Obj, N = .cells #[.int .u8 k, .string (sb s), .int .i64 x, .slice A n c] 25 := ⟨_, rfl⟩
  have hb : Below w.heap.size w (w.alloc N) := (Below.refl _ _).alloc (Nat.le_refl _) _
  have HS0 := Lib.hid ((h.start hb).eq (p' := ([[119, 104, 105, 108, 101, 32]] : List Bytes).flatten ++ (printT d t0 ++ (([[32]] : List Bytes).flatten ++ (printT d t1 ++ (p))))) (z' := t0.sz + (t1.sz + (z))) rfl (by simp) (by simp [szL] <;> omega))
  have HB := Lib.hid hb
  have HH := Lib.hid h
  have HK := Lib.hid hK
  have hlt := h.lt
  subst hNd
  clear hb h hK
  go_enter Tryz.func49, Tryz.ntmps49
  go_wp2_with fail
  refine (St.put ([[119, 104, 105, 108, 101, 32]] : List Bytes) HS0.out _ rfl (w.heap.size + 1) _ (by simp) rfl (by simp)).mono ?_
  rintro e w1 ⟨rfl, h1'⟩
  have HS1 := Lib.hid h1'
  obtain ⟨c1a, c1b, c1c, c1d⟩ := h1'.box hlt
  clear h1'
  go_wp2_with fail
  refine (p_kid h0 0 rfl k (sb s) x A n c HK.out hp HS1.out).mono ?_
  rintro e w2 ⟨rfl, h2'⟩
  have HS2 := Lib.hid h2'
  obtain ⟨c2a, c2b, c2c, c2d⟩ := h2'.box hlt
  clear h2'
  clear c1a c1b c1c c1d
  go_wp2_with fail
  refine (St.put ([[32]] : List Bytes) HS2.out _ rfl _ _ rfl rfl (by simp)).mono ?_
  rintro e w3 ⟨rfl, h3'⟩
  have HS3 := Lib.hid h3'
  obtain ⟨c3a, c3b, c3c, c3d⟩ := h3'.box hlt
  clear h3'
  clear c2a c2b c2c c2d
  go_wp2_with fail
  refine (p_kid h1 1 rfl k (sb s) x A n c HK.out hp HS3.out).mono ?_
  rintro e w4 ⟨rfl, h4'⟩
  have HS4 := Lib.hid h4'
  obtain ⟨c4a, c4b, c4c, c4d⟩ := h4'.box hlt
  clear h4'
  clear c3a c3b c3c c3d
  go_wp2_with fail
  go_end0
  exact ⟨rfl, HH.out.leave HB.out (HS4.out.eq (by simp) rfl rfl)⟩
set_option maxHeartbeats 4000000 in
set_option maxRecDepth 100000 in
theorem w_function {w0 : World} {b m d : Nat} {t0 t1 : Tree} (h0 : NodeC w0 b m d t0) (h1 : NodeC w0 b m d t1) (k : Nat) (s : Bytes) (x : Int) : BodyC w0 b m d [t0, t1] 42 k s x ([102, 117, 110, 99, 32] ++ s ++ 40 :: printT d t0 ++ 41 :: 32 :: printT d t1) := by
  intro A n c wS w lo hi path txt p z hK hp h
  obtain ⟨N, hNd⟩ : ∃ N : Obj, N = .cells #[.int .u8 k, .string (sb s), .int .i64 x, .slice A n c] 25 := ⟨_, rfl⟩
  have hb : Below w.heap.size w (w.alloc N) := (Below.refl _ _).alloc (Nat.le_refl _) _
  have HS0 := Lib.hid ((h.start hb).eq (p' := ([[102, 117, 110, 99, 32], s, [40]] : List Bytes).flatten ++ (printT d t0 ++ (([[41, 32]] : List Bytes).flatten ++ (printT d t1 ++ (p))))) (z' := t0.sz + (t1.sz + (z))) rfl (by simp) (by simp [szL] <;> omega))
  have HB := Lib.hid hb
  have HH := Lib.hid h
  have HK := Lib.hid hK
  have hlt := h.lt
  subst hNd
  clear hb h hK
  go_enter Tryz.func42, Tryz.ntmps42
  go_wp2_with fail
  refine (St.put ([[102, 117, 110, 99, 32], s, [40]] : List Bytes) HS0.out _ rfl (w.heap.size + 1) _ (by simp) rfl (by simp)).mono ?_
  rintro e w1 ⟨rfl, h1'⟩
  have HS1 := Lib.hid h1'
  obtain ⟨c1a, c1b, c1c, c1d⟩ := h1'.box hlt
  clear h1'
  go_wp2_with fail
  refine (p_kid h0 0 rfl k (sb s) x A n c HK.out hp HS1.out).mono ?_
  rintro e w2 ⟨rfl, h2'⟩
  have HS2 := Lib.hid h2'
  obtain ⟨c2a, c2b, c2c, c2d⟩ := h2'.box hlt
  clear h2'
  clear c1a c1b c1c c1d
  go_wp2_with fail
  refine (St.put ([[41, 32]] : List Bytes) HS2.out _ rfl _ _ rfl rfl (by simp)).mono ?_
  rintro e w3 ⟨rfl, h3'⟩
  have HS3 := Lib.hid h3'
  obtain ⟨c3a, c3b, c3c, c3d⟩ := h3'.box hlt
  clear h3'
  clear c2a c2b c2c c2d
  go_wp2_with fail
  refine (p_kid h1 1 rfl k (sb s) x A n c HK.out hp HS3.out).mono ?_
  rintro e w4 ⟨rfl, h4'⟩
  have HS4 := Lib.hid h4'
  obtain ⟨c4a, c4b, c4c, c4d⟩ := h4'.box hlt
  clear h4'
  clear c3a c3b c3c c3d
  go_wp2_with fail
  go_end0
  exact ⟨rfl, HH.out.leave HB.out (HS4.out.eq (by simp) rfl rfl)⟩
set_option maxHeartbeats 4000000 in
set_option maxRecDepth 100000 in
theorem w_unary {w0 : World} {b m d : Nat} {t0 : Tree} (h0 : NodeC w0 b m d t0) (k : Nat) (s : Bytes) (x : Int) : BodyC w0 b m d [t0] 55 k s x (s ++ opd 6 t0 (printT d t0)) := by
  intro A n c wS w lo hi path txt p z hK hp h
  obtain ⟨N, hNd⟩ : ∃ N : Obj, N = .cells #[.int .u8 k, .string (sb s), .int .i64 x, .slice A n c] 25 := ⟨_, rfl⟩
  have hb : Below w.heap.size w (w.alloc N) := (Below.refl _ _).alloc (Nat.le_refl _) _
  have HS0 := Lib.hid ((h.start hb).eq (p' := ([s] : List Bytes).flatten ++ (opd 6 t0 (printT d t0) ++ (p))) (z' := t0.sz + (z)) rfl (by simp) (by simp [szL] <;> omega))
  have HB := Lib.hid hb
  have HH := Lib.hid h
  have HK := Lib.hid hK
  have hlt := h.lt
  subst hNd
  clear hb h hK
  go_enter Tryz.func55, Tryz.ntmps55
  go_wp2_with fail
  refine (St.put ([s] : List Bytes) HS0.out _ rfl (w.heap.size + 1) _ (by simp) rfl (by simp)).mono ?_
  rintro e w1 ⟨rfl, h1'⟩
  have HS1 := Lib.hid h1'
  obtain ⟨c1a, c1b, c1c, c1d⟩ := h1'.box hlt
  clear h1'
  go_wp2_with fail
  refine (p_operand h0 0 rfl 6 k (sb s) x A n c HK.out hp HS1.out).mono ?_
  rintro e w2 ⟨rfl, h2'⟩
  have HS2 := Lib.hid h2'
  obtain ⟨c2a, c2b, c2c, c2d⟩ := h2'.box hlt
  clear h2'
  clear c1a c1b c1c c1d
  go_wp2_with fail
  go_end0
  exact ⟨rfl, HH.out.leave HB.out (HS2.out.eq (by simp) rfl rfl)⟩
set_option maxHeartbeats 4000000 in
set_option maxRecDepth 100000 in
theorem w_index {w0 : World} {b m d : Nat} {t0 t1 : Tree} (h0 : NodeC w0 b m d t0) (h1 : NodeC w0 b m d t1) (k : Nat) (s : Bytes) (x : Int) : BodyC w0 b m d [t0, t1] 58 k s x (opd 7 t0 (printT d t0) ++ 91 :: printT d t1 ++ [93]) := by
  intro A n c wS w lo hi path txt p z hK hp h
  obtain ⟨N, hNd⟩ : ∃ N : Obj, N = .cells #[.int .u8 k, .string (sb s), .int .i64 x, .slice A n c] 25 := ⟨_, rfl⟩
  have hb : Below w.heap.size w (w.alloc N) := (Below.refl _ _).alloc (Nat.le_refl _) _
  have HS0 := Lib.hid ((h.start hb).eq (p' := opd 7 t0 (printT d t0) ++ (([[91]] : List Bytes).flatten ++ (printT d t1 ++ (([[93]] : List Bytes).flatten ++ (p))))) (z' := t0.sz + (t1.sz + (z))) rfl (by simp) (by simp [szL] <;> omega))
  have HB := Lib.hid hb
  have HH := Lib.hid h
  have HK := Lib.hid hK
  have hlt := h.lt
  subst hNd
  clear hb h hK
  go_enter Tryz.func58, Tryz.ntmps58
  go_wp2_with fail
  refine (p_operand h0 0 rfl 7 k (sb s) x A n c HK.out hp HS0.out).mono ?_
  rintro e w1 ⟨rfl, h1'⟩
  have HS1 := Lib.hid h1'
  obtain ⟨c1a, c1b, c1c, c1d⟩ := h1'.box hlt
  clear h1'
  go_wp2_with fail
  refine (St.put ([[91]] : List Bytes) HS1.out _ rfl _ _ rfl rfl (by simp)).mono ?_
  rintro e w2 ⟨rfl, h2'⟩
  have HS2 := Lib.hid h2'
  obtain ⟨c2a, c2b, c2c, c2d⟩ := h2'.box hlt
  clear h2'
  clear c1a c1b c1c c1d
  go_wp2_with fail
  refine (p_kid h1 1 rfl k (sb s) x A n c HK.out hp HS2.out).mono ?_
  rintro e w3 ⟨rfl, h3'⟩
  have HS3 := Lib.hid h3'
  obtain ⟨c3a, c3b, c3c, c3d⟩ := h3'.box hlt
  clear h3'
  clear c2a c2b c2c c2d
  go_wp2_with fail
  refine (St.put ([[93]] : List Bytes) HS3.out _ rfl _ _ rfl rfl (by simp)).mono ?_
  rintro e w4 ⟨rfl, h4'⟩
  have HS4 := Lib.hid h4'
  obtain ⟨c4a, c4b, c4c, c4d⟩ := h4'.box hlt
  clear h4'
  clear c3a c3b c3c c3d
  go_wp2_with fail
  go_end0
  exact ⟨rfl, HH.out.leave HB.out (HS4.out.eq (by simp) rfl rfl)⟩
set_option maxHeartbeats 4000000 in
set_option maxRecDepth 100000 in
theorem w_array {w0 : World} {b m d : Nat} {t0 t1 : Tree} (h0 : NodeC w0 b m d t0) (h1 : NodeC w0 b m d t1) (k : Nat) (s : Bytes) (x : Int) : BodyC w0 b m d [t0, t1] 59 k s x (91 :: printT d t0 ++ [59, 32] ++ printT d t1 ++ [93]) := by
  intro A n c wS w lo hi path txt p z hK hp h
  obtain ⟨N, hNd⟩ : ∃ N : Obj, N = .cells #[.int .u8 k, .string (sb s), .int .i64 x, .slice A n c] 25 := ⟨_, rfl⟩
  have hb : Below w.heap.size w (w.alloc N) := (Below.refl _ _).alloc (Nat.le_refl _) _
  have HS0 := Lib.hid ((h.start hb).eq (p' := ([[91]] : List Bytes).flatten ++ (printT d t0 ++ (([[59, 32]] : List Bytes).flatten ++ (printT d t1 ++ (([[93]] : List Bytes).flatten ++ (p)))))) (z' := t0.sz + (t1.sz + (z))) rfl (by simp) (by simp [szL] <;> omega))
  have HB := Lib.hid hb
  have HH := Lib.hid h
  have HK := Lib.hid hK
  have hlt := h.lt
  subst hNd
  clear hb h hK
  go_enter Tryz.func59, Tryz.ntmps59
  go_wp2_with fail
  refine (St.put ([[91]] : List Bytes) HS0.out _ rfl (w.heap.size + 1) _ (by simp) rfl (by simp)).mono ?_
  rintro e w1 ⟨rfl, h1'⟩
  have HS1 := Lib.hid h1'
  obtain ⟨c1a, c1b, c1c, c1d⟩ := h1'.box hlt
  clear h1'
  go_wp2_with fail
  refine (p_kid h0 0 rfl k (sb s) x A n c HK.out hp HS1.out).mono ?_
  rintro e w2 ⟨rfl, h2'⟩
  have HS2 := Lib.hid h2'
  obtain ⟨c2a, c2b, c2c, c2d⟩ := h2'.box hlt
  clear h2'
  clear c1a c1b c1c c1d
  go_wp2_with fail
  refine (St.put ([[59, 32]] : List Bytes) HS2.out _ rfl _ _ rfl rfl (by simp)).mono ?_
  rintro e w3 ⟨rfl, h3'⟩
  have HS3 := Lib.hid h3'
  obtain ⟨c3a, c3b, c3c, c3d⟩ := h3'.box hlt
  clear h3'
  clear c2a c2b c2c c2d
  go_wp2_with fail
  refine (p_kid h1 1 rfl k (sb s) x A n c HK.out hp HS3.out).mono ?_
  rintro e w4 ⟨rfl, h4'⟩
  have HS4 := Lib.hid h4'
  obtain ⟨c4a, c4b, c4c, c4d⟩ := h4'.box hlt
  clear h4'
  clear c3a c3b c3c c3d
  go_wp2_with fail
  refine (St.put ([[93]] : List Bytes) HS4.out _ rfl _ _ rfl rfl (by simp)).mono ?_
  rintro e w5 ⟨rfl, h5'⟩
  have HS5 := Lib.hid h5'
  obtain ⟨c5a, c5b, c5c, c5d⟩ := h5'.box hlt
  clear h5'
  clear c4a c4b c4c c4d
  go_wp2_with fail
  go_end0
  exact ⟨rfl, HH.out.leave HB.out (HS5.out.eq (by simp) rfl rfl)⟩
set_option maxHeartbeats 4000000 in
set_option maxRecDepth 100000 in
theorem w_length {w0 : World} {b m d : Nat} {t0 : Tree} (h0 : NodeC w0 b m d t0) (k : Nat) (s : Bytes) (x : Int) : BodyC w0 b m d [t0] 60 k s x ([108, 101, 110, 40] ++ printT d t0 ++ [41]) := by
  intro A n c wS w lo hi path txt p z hK hp h
  obtain ⟨N, hNd⟩ : ∃ N : Obj, N = .cells #[.int .u8 k, .string (sb s), .int .i64 x, .slice A n c] 25 := ⟨_, rfl⟩
  have hb : Below w.heap.size w (w.alloc N) := (Below.refl _ _).alloc (Nat.le_refl _) _
  have HS0 := Lib.hid ((h.start hb).eq (p' := ([[108, 101, 110, 40]] : List Bytes).flatten ++ (printT d t0 ++ (([[41]] : List Bytes).flatten ++ (p)))) (z' := t0.sz + (z)) rfl (by simp) (by simp [szL] <;> omega))
  have HB := Lib.hid hb
  have HH := Lib.hid h
  have HK := Lib.hid hK
  have hlt := h.lt
  subst hNd
  clear hb h hK
  go_enter Tryz.func60, Tryz.ntmps60
  go_wp2_with fail
  refine (St.put ([[108, 101, 110, 40]] : List Bytes) HS0.out _ rfl (w.heap.size + 1) _ (by simp) rfl (by simp)).mono ?_
  rintro e w1 ⟨rfl, h1'⟩
  have HS1 := Lib.hid h1'
  obtain ⟨c1a, c1b, c1c, c1d⟩ := h1'.box hlt
  clear h1'
  go_wp2_with fail
  refine (p_kid h0 0 rfl k (sb s) x A n c HK.out hp HS1.out).mono ?_
  rintro e w2 ⟨rfl, h2'⟩
  have HS2 := Lib.hid h2'
  obtain ⟨c2a, c2b, c2c, c2d⟩ := h2'.box hlt
  clear h2'
  clear c1a c1b c1c c1d
  go_wp2_with fail
  refine (St.put ([[41]] : List Bytes) HS2.out _ rfl _ _ rfl rfl (by simp)).mono ?_
  rintro e w3 ⟨rfl, h3'⟩
  have HS3 := Lib.hid h3'
  obtain ⟨c3a, c3b, c3c, c3d⟩ := h3'.box hlt
  clear h3'
  clear c2a c2b c2c c2d
  go_wp2_with fail
  go_end0
  exact ⟨rfl, HH.out.leave HB.out (HS3.out.eq (by simp) rfl rfl)⟩
end Go.Proofs.YtjdofndkdkeapaaGreatDoor
