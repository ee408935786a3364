/- How long a right tree's text is. No program in sight. -/
import Derived.Test.YtjdofndkdkeapaaGreatDoorSpellLaw
import Derived.Test.YtjdofndkdkeapaaGreatDoorNodesOf
namespace Go.Proofs.YtjdofndkdkeapaaGreatDoor
open Go.RowKit
set_option linter.unusedSimpArgs false
set_option linter.unusedVariables false

def sumP : List Bytes → Nat
  | [] => 0
  | p :: ps => p.length + sumP ps
theorem sumP_three (ps : List Bytes) : (ps.getD 0 []).length + (ps.getD 1 []).length + (ps.getD 2 []).length ≤ sumP ps := by
  match ps with
  | [] => simp [sumP]
  | [a] => simp [sumP]
  | [a, b] => simp [sumP]
  | a :: b :: c :: r => simp [sumP]; omega
theorem commaJ_len : ∀ ps : List Bytes, (commaJ ps).length ≤ sumP ps + 2 * ps.length
  | [] => by simp [commaJ]
  | [p] => by simp [commaJ, sumP]
  | p :: q :: ps => by
    have := commaJ_len (q :: ps)
    simp only [commaJ, sumP, List.length_append, List.length_cons] at this ⊢
    omega
theorem fileJ_len : ∀ ps : List Bytes, (fileJ ps).length ≤ sumP ps + 2 * ps.length
  | [] => by simp [fileJ]
  | [p] => by simp [fileJ, sumP]
  | p :: q :: ps => by
    have := fileJ_len (q :: ps)
    simp only [fileJ, sumP, List.length_append, List.length_cons] at this ⊢
    omega
theorem pad_len (d : Nat) : (pad d).length = 1 + 2 * d := by simp [pad]; omega
theorem blockJ_len (d : Nat) : ∀ ps : List Bytes, (blockJ d ps).length = sumP ps + (1 + 2 * d) * ps.length
  | [] => by simp [blockJ, sumP]
  | p :: ps => by
    simp only [blockJ, sumP, List.length_append, List.length_cons, blockJ_len d ps, pad_len, Nat.mul_succ]
    omega
theorem opd_len (l : Nat) (t : Tree) (p : Bytes) : (opd l t p).length ≤ p.length + 2 := by
  unfold opd
  split
  · omega
  · simp
theorem itoa_len {x : Int} (h0 : 0 ≤ x) (h1 : x ≤ 9223372036854775807) : (Lib.itoa x).length ≤ 20 := by
  unfold Lib.itoa
  rw [if_neg (by omega)]
  have := Dec.dec_len 18 x.toNat (by have : x.toNat ≤ 9223372036854775807 := by omega
                                     show _ < 10 ^ 19
                                     omega)
  omega
theorem spellK_len {d k : Nat} {s : Bytes} {x : Int} {ks : List Tree} {ps : List Bytes} (hd : d ≤ 40) (hx : k = 20 → 0 ≤ x ∧ x ≤ 9223372036854775807) : (spellK d k s x ks ps).length ≤ s.length + 120 + sumP ps + 100 * ps.length := by
  have h3 := sumP_three ps
  have hc := commaJ_len ps
  have hf := fileJ_len ps
  have hb := blockJ_len (d + 1) ps
  have hp := pad_len d
  have hm : (1 + 2 * (d + 1)) * ps.length ≤ 83 * ps.length := Nat.mul_le_mul_right _ (by omega)
  have o6 := opd_len 6 (ks.getD 0 default) (ps.getD 0 [])
  have o7 := opd_len 7 (ks.getD 0 default) (ps.getD 0 [])
  have oa := opd_len (levelOp s) (ks.getD 0 default) (ps.getD 0 [])
  have ob := opd_len (levelOp s + 1) (ks.getD 1 default) (ps.getD 1 [])
  unfold spellK
  split
  case h_13 => dsimp only; have := itoa_len (hx rfl).1 (hx rfl).2; omega
  case h_14 => dsimp only; split <;> simp only [List.length_append, List.length_cons, List.length_nil] <;> omega
  case h_8 => dsimp only; split <;> simp only [List.length_append, List.length_cons, List.length_nil] <;> omega
  all_goals (simp only [List.length_append, List.length_cons, List.length_nil] ; omega)
mutual
def Tree.wt : Tree → Nat
  | .node _ s _ ks => s.length + 300 + wtL ks
def wtL : List Tree → Nat
  | [] => 0
  | t :: ts => t.wt + wtL ts
end
theorem sumP_wt {d : Nat} : ∀ {ts : List Tree}, (∀ t ∈ ts, (printT d t).length + 100 ≤ t.wt) → sumP (printL d ts) + 100 * (printL d ts).length ≤ wtL ts
  | [], _ => by simp [printL, sumP, wtL]
  | t :: ts, h => by
    have h1 := h t (by simp)
    have h2 := sumP_wt (ts := ts) fun u hu => h u (by simp [hu])
    simp only [printL, sumP, wtL, List.length_cons]
    omega
theorem rightL_all {k i deep : Nat} {ts : List Tree} (h : rightL k i deep ts = true) : ∀ t ∈ ts, rightT deep t = true := by
  intro t ht
  obtain ⟨j, hj⟩ := List.mem_iff_getElem?.1 ht
  exact (rightL_mem h j t hj).2
theorem print_len : ∀ (n : Nat) (t : Tree), t.sz ≤ n → ∀ (deep d : Nat), rightT deep t = true → t.nums → d ≤ deep → (printT d t).length + 100 ≤ t.wt := by
  intro n
  induction n with
  | zero => intro t ht; cases t; simp [Tree.sz] at ht
  | succ n ih =>
    rintro ⟨k, s, x, ks⟩ hsz deep d hr hn hd
    have hsz' : szL ks ≤ n := by simp [Tree.sz] at hsz; omega
    cases hrow : rowsOf k with
    | none => simp [rightT, hrow] at hr
    | some la =>
      obtain ⟨l, all⟩ := la
      simp only [rightT, hrow, Bool.and_eq_true, decide_eq_true_eq] at hr
      have h40 : deep ≤ 40 := hr.1.1.1.1
      have hk := rightL_all hr.1.2
      simp only [Tree.nums] at hn
      have hx : k = 20 → 0 ≤ x ∧ x ≤ 9223372036854775807 := by
        intro e
        have hs := hr.1.1.1.2
        simp only [saysB, e, if_true, Bool.and_eq_true, decide_eq_true_eq] at hs
        exact ⟨hs.2, hn.1⟩
      have hks : ∀ t ∈ ks, ∀ d' ≤ deep + 1, (printT d' t).length + 100 ≤ t.wt := fun t ht d' hd' => ih t (by have := sz_mem t ht; omega) (deep + 1) d' (hk t ht) (numsL.mem hn.2 t ht) hd'
      have hS := sumP_wt (d := if k = 5 then d + 1 else d) (ts := ks) fun t ht => hks t ht _ (by split <;> omega)
      have hL := spellK_len (d := d) (k := k) (s := s) (x := x) (ks := ks) (ps := printL (if k = 5 then d + 1 else d) ks) (by omega) hx
      simp only [printT, Tree.wt]
      omega
mutual
theorem wt_cost : ∀ t : Tree, t.wt ≤ 308 * t.cost
  | .node _ s _ ks => by
    have := wtL_cost ks
    simp only [Tree.wt, Tree.cost]
    omega
theorem wtL_cost : ∀ ts : List Tree, wtL ts ≤ 308 * costL ts
  | [] => by simp [wtL, costL]
  | t :: ts => by
    have h1 := wt_cost t
    have h2 := wtL_cost ts
    simp only [wtL, costL]
    omega
end
mutual
theorem sz_cost : ∀ t : Tree, t.sz ≤ t.cost
  | .node _ s _ ks => by
    have := szL_cost ks
    simp only [Tree.sz, Tree.cost]
    omega
theorem szL_cost : ∀ ts : List Tree, szL ts ≤ costL ts
  | [] => by simp [szL, costL]
  | t :: ts => by
    have h1 := sz_cost t
    have h2 := szL_cost ts
    simp only [szL, costL]
    omega
end
end Go.Proofs.YtjdofndkdkeapaaGreatDoor
