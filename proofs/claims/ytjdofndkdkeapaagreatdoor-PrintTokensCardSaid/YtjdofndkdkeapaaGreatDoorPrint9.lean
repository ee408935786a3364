/- Every node of a right tree is printed as the plain printer says. -/
import Derived.Test.YtjdofndkdkeapaaGreatDoorPrint8
namespace Go.Proofs.YtjdofndkdkeapaaGreatDoor
open Go.RowKit
set_option linter.unusedSimpArgs false
set_option linter.unusedVariables false

theorem enter_ok {f : FuncId} {fn : Func} (hf : Tryz.prog.funcs[f]? = some fn) (hn : (fn.name == "runtime.NumGoroutine") = false) (hb : fn.body.isNone = false) (args : Array Value) (w : World) :
    (callFunc f args).run Tryz.prog w = .ok (.enter f args) w := run_enter hf hn hb args w
/-- The shapes of a right node. -/
theorem right_kids {deep k : Nat} {s : Bytes} {x : Int} {ks : List Tree} (h : rightT deep (.node k s x ks) = true) : ∃ l all, rowsOf k = some (l, all) ∧ deep ≤ 40 ∧ (all = false → ks.length = l.length) ∧ ∀ t ∈ ks, rightT (deep + 1) t = true := by
  cases hr : rowsOf k with
  | none => simp [rightT, hr] at h
  | some la =>
    obtain ⟨l, all⟩ := la
    simp only [rightT, hr, Bool.and_eq_true, decide_eq_true_eq, Bool.or_eq_true, beq_iff_eq] at h
    refine ⟨l, all, rfl, ?_, ?_, ?_⟩
    · exact h.1.1.1.1
    · intro ha; rcases h.1.1.2 with h1 | h1
      · rw [ha] at h1; cases h1
      · exact h1
    · intro t ht
      obtain ⟨j, hj⟩ := List.mem_iff_getElem?.1 ht
      exact (rightL_mem h.1.2 j t hj).2
theorem nums_kids {k : Nat} {s : Bytes} {x : Int} {ks : List Tree} (h : (Tree.node k s x ks).nums) : numsL ks := by simp only [Tree.nums] at h; exact h.2
theorem nums_num {k : Nat} {s : Bytes} {x : Int} {ks : List Tree} (h : (Tree.node k s x ks).nums) : x ≤ 9223372036854775807 := by simp only [Tree.nums] at h; exact h.1
theorem right_num {deep : Nat} {s : Bytes} {x : Int} {ks : List Tree} (h : rightT deep (.node 20 s x ks) = true) : 0 ≤ x := by
  simp only [rightT, rowsOf, Bool.and_eq_true, decide_eq_true_eq, saysB, if_true] at h
  exact h.1.1.1.2.2
/-! Kinds -/
theorem node_1 {w0 : World} {b m d : Nat} {s : Bytes} {x : Int} {ks : List Tree} (hC : ∀ t ∈ ks, NodeC w0 b m d t) : NodeC w0 b m d (.node 1 s x ks) :=
  p_node rfl (enter_ok Tryz.func41 (by kernel_rfl) (by kernel_rfl)) ((w_file hC 1 s x).way (by simp [printT, spellK]))
theorem node_2 {w0 : World} {b m d : Nat} {s : Bytes} {x : Int} {t0 t1 : Tree} (h0 : NodeC w0 b m d t0) (h1 : NodeC w0 b m d t1)  : NodeC w0 b m d (.node 2 s x [t0, t1]) :=
  p_node rfl (enter_ok Tryz.func42 (by kernel_rfl) (by kernel_rfl)) ((w_function h0 h1 2 s x).way (by simp [printT, printL, spellK, truthB]))
theorem node_3 {w0 : World} {b m d : Nat} {s : Bytes} {x : Int} {ks : List Tree} (hC : ∀ t ∈ ks, NodeC w0 b m d t) : NodeC w0 b m d (.node 3 s x ks) :=
  p_node rfl (enter_ok Tryz.func43 (by kernel_rfl) (by kernel_rfl)) ((w_row hC 3 s x).way (by simp [printT, spellK]))
theorem node_4 {w0 : World} {b m d : Nat} {s : Bytes} {x : Int}   : NodeC w0 b m d (.node 4 s x []) :=
  p_node rfl (enter_ok Tryz.func44 (by kernel_rfl) (by kernel_rfl)) ((w_text  4 s x).way (by simp [printT, printL, spellK, truthB]))
theorem node_5 {w0 : World} {b m d : Nat} {s : Bytes} {x : Int} {ks : List Tree} (hd : d ≤ 1000) (hC : ∀ t ∈ ks, NodeC w0 b m (d + 1) t) : NodeC w0 b m d (.node 5 s x ks) :=
  p_node rfl (enter_ok Tryz.func45 (by kernel_rfl) (by kernel_rfl)) ((w_block hd hC 5 s x).way (by simp [printT, spellK]))
theorem node_6 {w0 : World} {b m d : Nat} {s : Bytes} {x : Int} {t0 : Tree} (h0 : NodeC w0 b m d t0)  : NodeC w0 b m d (.node 6 s x [t0]) :=
  p_node rfl (enter_ok Tryz.func46 (by kernel_rfl) (by kernel_rfl)) ((w_declare h0 6 s x).way (by simp [printT, printL, spellK, truthB]))
theorem node_7 {w0 : World} {b m d : Nat} {s : Bytes} {x : Int} {t0 t1 : Tree} (h0 : NodeC w0 b m d t0) (h1 : NodeC w0 b m d t1)  : NodeC w0 b m d (.node 7 s x [t0, t1]) :=
  p_node rfl (enter_ok Tryz.func47 (by kernel_rfl) (by kernel_rfl)) ((w_set h0 h1 7 s x).way (by simp [printT, printL, spellK, truthB]))
theorem node_8 {w0 : World} {b m d : Nat} {s : Bytes} {x : Int} {t0 t1 t2 : Tree} (h0 : NodeC w0 b m d t0) (h1 : NodeC w0 b m d t1) (h2 : NodeC w0 b m d t2)  : NodeC w0 b m d (.node 8 s x [t0, t1, t2]) :=
  p_node rfl (enter_ok Tryz.func48 (by kernel_rfl) (by kernel_rfl)) ((w_branch h0 h1 h2 8 s x).way (by simp [printT, printL, spellK, truthB]))
theorem node_9 {w0 : World} {b m d : Nat} {s : Bytes} {x : Int} {t0 t1 : Tree} (h0 : NodeC w0 b m d t0) (h1 : NodeC w0 b m d t1)  : NodeC w0 b m d (.node 9 s x [t0, t1]) :=
  p_node rfl (enter_ok Tryz.func49 (by kernel_rfl) (by kernel_rfl)) ((w_while h0 h1 9 s x).way (by simp [printT, printL, spellK, truthB]))
theorem node_10 {w0 : World} {b m d : Nat} {s : Bytes} {x : Int} {t0 : Tree} (h0 : NodeC w0 b m d t0)  : NodeC w0 b m d (.node 10 s x [t0]) :=
  p_node rfl (enter_ok Tryz.func50 (by kernel_rfl) (by kernel_rfl)) ((w_back h0 10 s x).way (by simp [printT, printL, spellK, truthB]))
theorem node_11 {w0 : World} {b m d : Nat} {s : Bytes} {x : Int} {t0 : Tree} (h0 : NodeC w0 b m d t0)  : NodeC w0 b m d (.node 11 s x [t0]) :=
  p_node rfl (enter_ok Tryz.func51 (by kernel_rfl) (by kernel_rfl)) ((w_tell h0 11 s x).way (by simp [printT, printL, spellK, truthB]))
theorem node_12 {w0 : World} {b m d : Nat} {s : Bytes} {x : Int} {t0 : Tree} (h0 : NodeC w0 b m d t0)  : NodeC w0 b m d (.node 12 s x [t0]) :=
  p_node rfl (enter_ok Tryz.func52 (by kernel_rfl) (by kernel_rfl)) ((w_do h0 12 s x).way (by simp [printT, printL, spellK, truthB]))
theorem node_20 {w0 : World} {b m d : Nat} {s : Bytes} {x : Int}  (hT : TabP w0) (g0 : -9223372036854775808 ≤ x) (g1 : x ≤ 9223372036854775807) : NodeC w0 b m d (.node 20 s x []) :=
  p_node rfl (enter_ok Tryz.func53 (by kernel_rfl) (by kernel_rfl)) ((w_number hT 20 s x g0 g1).way (by simp [printT, printL, spellK, truthB]))
theorem node_21 {w0 : World} {b m d : Nat} {s : Bytes} {x : Int}   : NodeC w0 b m d (.node 21 s x []) :=
  p_node rfl (enter_ok Tryz.func54 (by kernel_rfl) (by kernel_rfl)) ((w_truth  21 s x).way (by simp [printT, printL, spellK, truthB]))
theorem node_22 {w0 : World} {b m d : Nat} {s : Bytes} {x : Int}   : NodeC w0 b m d (.node 22 s x []) :=
  p_node rfl (enter_ok Tryz.func44 (by kernel_rfl) (by kernel_rfl)) ((w_text  22 s x).way (by simp [printT, printL, spellK, truthB]))
theorem node_23 {w0 : World} {b m d : Nat} {s : Bytes} {x : Int} {t0 : Tree} (h0 : NodeC w0 b m d t0)  : NodeC w0 b m d (.node 23 s x [t0]) :=
  p_node rfl (enter_ok Tryz.func55 (by kernel_rfl) (by kernel_rfl)) ((w_unary h0 23 s x).way (by simp [printT, printL, spellK, truthB]))
theorem node_24 {w0 : World} {b m d : Nat} {s : Bytes} {x : Int} {t0 t1 : Tree} (h0 : NodeC w0 b m d t0) (h1 : NodeC w0 b m d t1)  : NodeC w0 b m d (.node 24 s x [t0, t1]) :=
  p_node rfl (enter_ok Tryz.func56 (by kernel_rfl) (by kernel_rfl)) ((w_binary h0 h1 s x).way (by simp [printT, printL, spellK, truthB]))
theorem node_25 {w0 : World} {b m d : Nat} {s : Bytes} {x : Int} {ks : List Tree} (hC : ∀ t ∈ ks, NodeC w0 b m d t) : NodeC w0 b m d (.node 25 s x ks) :=
  p_node rfl (enter_ok Tryz.func57 (by kernel_rfl) (by kernel_rfl)) ((w_call hC 25 s x).way (by simp [printT, spellK]))
theorem node_26 {w0 : World} {b m d : Nat} {s : Bytes} {x : Int} {t0 t1 : Tree} (h0 : NodeC w0 b m d t0) (h1 : NodeC w0 b m d t1)  : NodeC w0 b m d (.node 26 s x [t0, t1]) :=
  p_node rfl (enter_ok Tryz.func58 (by kernel_rfl) (by kernel_rfl)) ((w_index h0 h1 26 s x).way (by simp [printT, printL, spellK, truthB]))
theorem node_27 {w0 : World} {b m d : Nat} {s : Bytes} {x : Int} {t0 t1 : Tree} (h0 : NodeC w0 b m d t0) (h1 : NodeC w0 b m d t1)  : NodeC w0 b m d (.node 27 s x [t0, t1]) :=
  p_node rfl (enter_ok Tryz.func59 (by kernel_rfl) (by kernel_rfl)) ((w_array h0 h1 27 s x).way (by simp [printT, printL, spellK, truthB]))
theorem node_28 {w0 : World} {b m d : Nat} {s : Bytes} {x : Int} {t0 : Tree} (h0 : NodeC w0 b m d t0)  : NodeC w0 b m d (.node 28 s x [t0]) :=
  p_node rfl (enter_ok Tryz.func60 (by kernel_rfl) (by kernel_rfl)) ((w_length h0 28 s x).way (by simp [printT, printL, spellK, truthB]))
theorem node_29 {w0 : World} {b m d : Nat} {s : Bytes} {x : Int}   : NodeC w0 b m d (.node 29 s x []) :=
  p_node rfl (enter_ok Tryz.func61 (by kernel_rfl) (by kernel_rfl)) ((w_read  29 s x).way (by simp [printT, printL, spellK, truthB]))
theorem kids0 {ks : List Tree} (h : ks.length = 0) : ks = [] := List.length_eq_zero_iff.1 h
theorem prt_nodes_all {w0 : World} {b m : Nat} (hT : TabP w0) : ∀ (n : Nat) (t : Tree), t.sz ≤ n → ∀ (deep d : Nat), rightT deep t = true → t.nums → d ≤ deep → NodeC w0 b m d t := by
  intro n
  induction n with
  | zero => intro t ht; have := t.sz_pos; omega
  | succ n ih =>
    rintro ⟨k, s, x, ks⟩ hsz deep d hr hn hd
    obtain ⟨l, all, hrow, h40, hlen, hkr⟩ := right_kids hr
    have hsz' : szL ks ≤ n := by simp [Tree.sz] at hsz; omega
    have hks : ∀ t ∈ ks, ∀ d' ≤ deep + 1, NodeC w0 b m d' t := fun t ht d' hd' => ih t (by have := sz_mem t ht; omega) (deep + 1) d' (hkr t ht) (numsL.mem (nums_kids hn) t ht) hd'
    have hC : ∀ t ∈ ks, NodeC w0 b m d t := fun t ht => hks t ht d (by omega)
    have hC1 : ∀ t ∈ ks, NodeC w0 b m (d + 1) t := fun t ht => hks t ht (d + 1) (by omega)
    have hk : k = 1 ∨ k = 2 ∨ k = 3 ∨ k = 4 ∨ k = 5 ∨ k = 6 ∨ k = 7 ∨ k = 8 ∨ k = 9 ∨ k = 10 ∨ k = 11 ∨ k = 12 ∨ k = 20 ∨ k = 21 ∨ k = 22 ∨ k = 23 ∨ k = 24 ∨ k = 25 ∨ k = 26 ∨ k = 27 ∨ k = 28 ∨ k = 29 := by
      have := rows_kind hrow
      omega
    rcases hk with rfl | rfl | rfl | rfl | rfl | rfl | rfl | rfl | rfl | rfl | rfl | rfl | rfl | rfl | rfl | rfl | rfl | rfl | rfl | rfl | rfl | rfl
    · exact node_1 hC
    · simp only [rowsOf, Option.some.injEq, Prod.mk.injEq] at hrow
      obtain ⟨rfl, rfl⟩ := hrow
      obtain ⟨a, c, rfl⟩ := kids2 (hlen rfl)
      exact node_2 (hC _ (by simp)) (hC _ (by simp))
    · exact node_3 hC
    · simp only [rowsOf, Option.some.injEq, Prod.mk.injEq] at hrow
      obtain ⟨rfl, rfl⟩ := hrow
      obtain rfl := kids0 (hlen rfl)
      exact node_4 
    · exact node_5 (by omega) hC1
    · simp only [rowsOf, Option.some.injEq, Prod.mk.injEq] at hrow
      obtain ⟨rfl, rfl⟩ := hrow
      obtain ⟨a, rfl⟩ := kids1 (hlen rfl)
      exact node_6 (hC _ (by simp))
    · simp only [rowsOf, Option.some.injEq, Prod.mk.injEq] at hrow
      obtain ⟨rfl, rfl⟩ := hrow
      obtain ⟨a, c, rfl⟩ := kids2 (hlen rfl)
      exact node_7 (hC _ (by simp)) (hC _ (by simp))
    · simp only [rowsOf, Option.some.injEq, Prod.mk.injEq] at hrow
      obtain ⟨rfl, rfl⟩ := hrow
      obtain ⟨a, c, e, rfl⟩ := kids3 (hlen rfl)
      exact node_8 (hC _ (by simp)) (hC _ (by simp)) (hC _ (by simp))
    · simp only [rowsOf, Option.some.injEq, Prod.mk.injEq] at hrow
      obtain ⟨rfl, rfl⟩ := hrow
      obtain ⟨a, c, rfl⟩ := kids2 (hlen rfl)
      exact node_9 (hC _ (by simp)) (hC _ (by simp))
    · simp only [rowsOf, Option.some.injEq, Prod.mk.injEq] at hrow
      obtain ⟨rfl, rfl⟩ := hrow
      obtain ⟨a, rfl⟩ := kids1 (hlen rfl)
      exact node_10 (hC _ (by simp))
    · simp only [rowsOf, Option.some.injEq, Prod.mk.injEq] at hrow
      obtain ⟨rfl, rfl⟩ := hrow
      obtain ⟨a, rfl⟩ := kids1 (hlen rfl)
      exact node_11 (hC _ (by simp))
    · simp only [rowsOf, Option.some.injEq, Prod.mk.injEq] at hrow
      obtain ⟨rfl, rfl⟩ := hrow
      obtain ⟨a, rfl⟩ := kids1 (hlen rfl)
      exact node_12 (hC _ (by simp))
    · simp only [rowsOf, Option.some.injEq, Prod.mk.injEq] at hrow
      obtain ⟨rfl, rfl⟩ := hrow
      obtain rfl := kids0 (hlen rfl)
      have hx := nums_num hn
      have h0 := right_num hr
      exact node_20 hT (by omega) hx
    · simp only [rowsOf, Option.some.injEq, Prod.mk.injEq] at hrow
      obtain ⟨rfl, rfl⟩ := hrow
      obtain rfl := kids0 (hlen rfl)
      exact node_21 
    · simp only [rowsOf, Option.some.injEq, Prod.mk.injEq] at hrow
      obtain ⟨rfl, rfl⟩ := hrow
      obtain rfl := kids0 (hlen rfl)
      exact node_22 
    · simp only [rowsOf, Option.some.injEq, Prod.mk.injEq] at hrow
      obtain ⟨rfl, rfl⟩ := hrow
      obtain ⟨a, rfl⟩ := kids1 (hlen rfl)
      exact node_23 (hC _ (by simp))
    · simp only [rowsOf, Option.some.injEq, Prod.mk.injEq] at hrow
      obtain ⟨rfl, rfl⟩ := hrow
      obtain ⟨a, c, rfl⟩ := kids2 (hlen rfl)
      exact node_24 (hC _ (by simp)) (hC _ (by simp))
    · exact node_25 hC
    · simp only [rowsOf, Option.some.injEq, Prod.mk.injEq] at hrow
      obtain ⟨rfl, rfl⟩ := hrow
      obtain ⟨a, c, rfl⟩ := kids2 (hlen rfl)
      exact node_26 (hC _ (by simp)) (hC _ (by simp))
    · simp only [rowsOf, Option.some.injEq, Prod.mk.injEq] at hrow
      obtain ⟨rfl, rfl⟩ := hrow
      obtain ⟨a, c, rfl⟩ := kids2 (hlen rfl)
      exact node_27 (hC _ (by simp)) (hC _ (by simp))
    · simp only [rowsOf, Option.some.injEq, Prod.mk.injEq] at hrow
      obtain ⟨rfl, rfl⟩ := hrow
      obtain ⟨a, rfl⟩ := kids1 (hlen rfl)
      exact node_28 (hC _ (by simp))
    · simp only [rowsOf, Option.some.injEq, Prod.mk.injEq] at hrow
      obtain ⟨rfl, rfl⟩ := hrow
      obtain rfl := kids0 (hlen rfl)
      exact node_29 
end Go.Proofs.YtjdofndkdkeapaaGreatDoor
