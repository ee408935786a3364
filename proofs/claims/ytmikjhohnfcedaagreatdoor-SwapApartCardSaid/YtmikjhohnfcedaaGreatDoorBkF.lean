/- The walk over edit.copied: a row of trees of the call's own.
   The walk over tree.Names' closure: a name more.
   The walk over look's second closure: calls and binders.
   The walk over slices.Grow at a nil row of nodes.
   The walk over slices.Concat at two rows of nodes.
   The walk over swap.each, with look's second closure. -/
import Derived.Test.YtmikjhohnfcedaaGreatDoorBkE
import Derived.Deep.DrawnRows
import Derived.Deep.RegionLaw
import Derived.Deep.AppendLies
import Derived.Lib.AppendZeros
namespace Go.Proofs.YtmikjhohnfcedaaGreatDoor
set_option linter.unusedSimpArgs false
set_option linter.unusedVariables false
open Go.RowKit
set_option linter.unusedSimpArgs false

/-- The world with the blocks outside `S` blotted out. -/
def onlyW (w : World) (S : Nat → Bool) : World := { w with heap := w.heap.mapIdx fun i o => if S i then o else Obj.cells #[] 0 }
theorem only_cell {w : World} {S : Nat → Bool} {a : Addr} {v : Value} : (onlyW w S).cell? a = some v ↔ S a.block = true ∧ w.cell? a = some v := by
  unfold World.cell? onlyW
  simp only [Array.getElem?_mapIdx]
  cases h : w.heap[a.block]? with
  | none => simp
  | some o =>
    by_cases hb : S a.block = true
    · simp only [Option.map_some, hb, if_true]
      constructor
      · intro e; exact ⟨trivial, e⟩
      · rintro ⟨_, e⟩; exact e
    · have hb' : S a.block = false := by simpa using hb
      simp only [Option.map_some, hb', Bool.false_eq_true, if_false, false_and, iff_false]
      intro e; split at e <;> simp at e
def OnlyK (w : World) (S : Nat → Bool) (ks : List Tree) (A : Option Addr) (n c : Nat) : Prop := KidsAt (onlyW w S) ks A n c
theorem OnlyK.keep {w w' : World} {S S' : Nat → Bool} {ks : List Tree} {A : Option Addr} {n c : Nat} (h : OnlyK w S ks A n c) (hk : ∀ a v, S a.block = true → w.cell? a = some v → S' a.block = true ∧ w'.cell? a = some v) : OnlyK w' S' ks A n c :=
  KidsAt.keep (fun _ _ h => by obtain ⟨h1, h2⟩ := only_cell.1 h; exact only_cell.2 (hk _ _ h1 h2)) h
theorem FreshK.only {w : World} {B : Nat} {S : Nat → Bool} {ks : List Tree} {A : Option Addr} {n c : Nat} (h : FreshK w B ks A n c) (hS : ∀ i, B ≤ i → i < w.heap.size → S i = true) : OnlyK w S ks A n c :=
  KidsAt.keep (fun _ _ h => by obtain ⟨h1, h2⟩ := since_cell.1 h; exact only_cell.2 ⟨hS _ h1 (cell_lt h2), h2⟩) h
/-- The blocks from `B` on, but for a value's own. -/
def rest (B : Nat) (v : Value) (q : Nat) : Bool := decide (B ≤ q) && !(v.ownBlock == some q)
theorem rest_iff {B : Nat} {v : Value} {q : Nat} : rest B v q = true ↔ B ≤ q ∧ v.ownBlock ≠ some q := by simp [rest]
/-- The row so far. -/
def OutIs (B : Nat) (w : World) (ks : List Tree) (j : Nat) (v : Value) : Prop :=
  ∃ xs, w.ownsRow B 40 4 v j xs ∧ xs.length = j * 4 ∧ ∀ i t, i < j → ks[i]? = some t → ∃ A c, xs[i * 4]? = some (.int .u8 t.kind) ∧ xs[i * 4 + 1]? = some (.string (sb t.text)) ∧ xs[i * 4 + 2]? = some (.int .i64 t.num) ∧ xs[i * 4 + 3]? = some (.slice A t.kids.length c) ∧
    OnlyK w (rest B v) t.kids A t.kids.length c ∧ t.kind ≤ 255 ∧ t.text.length ≤ maxLen ∧ fitsI t.num
theorem OutIs.below {B : Nat} {w w' : World} {ks : List Tree} {j : Nat} {v : Value} (h : OutIs B w ks j v) (hb : Below w.heap.size w w') : OutIs B w' ks j v := by
  obtain ⟨xs, h1, h2, h3⟩ := h
  refine ⟨xs, own_below h1 hb (Nat.le_refl _), h2, fun i t hi ht => ?_⟩
  obtain ⟨A, c, t0, t1, t2, t3, t4, t5⟩ := h3 i t hi ht
  exact ⟨A, c, t0, t1, t2, t3, t4.keep fun a v hS hc => ⟨hS, cell_below hb hc⟩, t5⟩
theorem OutIs.start (B : Nat) (w : World) (ks : List Tree) : OutIs B w ks 0 (.slice none 0 0) := ⟨[], World.ownsRow_nil w _ _ _, rfl, fun _ _ h => absurd h (Nat.not_lt_zero _)⟩
def nodeCells (t : Tree) (A : Option Addr) (c : Nat) : List Value := [.int .u8 t.kind, .string (sb t.text), .int .i64 t.num, .slice A t.kids.length c]
theorem OutIs.push {B : Nat} {w w' : World} {ks : List Tree} {j : Nat} {v : Value} {xs : List Value} {t : Tree} {A : Option Addr} {c g cap : Nat}
    (h : ∀ i t, i < j → ks[i]? = some t → ∃ A c, xs[i * 4]? = some (.int .u8 t.kind) ∧ xs[i * 4 + 1]? = some (.string (sb t.text)) ∧ xs[i * 4 + 2]? = some (.int .i64 t.num) ∧ xs[i * 4 + 3]? = some (.slice A t.kids.length c) ∧ OnlyK w (rest B v) t.kids A t.kids.length c ∧ t.kind ≤ 255 ∧ t.text.length ≤ maxLen ∧ fitsI t.num)
    (hx : xs.length = j * 4) (ht : ks[j]? = some t) (hk : OnlyK w (rest B v) t.kids A t.kids.length c) (b1 : t.kind ≤ 255) (b2 : t.text.length ≤ maxLen) (b3 : fitsI t.num)
    (hown : w'.ownsRow B 40 4 (.slice (some ⟨g, 0, none⟩) (j + 1) cap) (j + 1) (xs ++ nodeCells t A c)) (hgr : w.grownBy w' v.ownBlock) (hg : v.ownBlock = some g ∨ g = w.heap.size) :
    OutIs B w' ks (j + 1) (.slice (some ⟨g, 0, none⟩) (j + 1) cap) := by
  have hkeep : ∀ {ks' : List Tree} {A : Option Addr} {n c : Nat}, OnlyK w (rest B v) ks' A n c → OnlyK w' (rest B (.slice (some ⟨g, 0, none⟩) (j + 1) cap)) ks' A n c := by
    intro ks' A n c h
    refine h.keep fun a u hS hc => ?_
    obtain ⟨s1, s2⟩ := rest_iff.1 hS
    have hlt := cell_lt hc
    refine ⟨rest_iff.2 ⟨s1, ?_⟩, ?_⟩
    · intro e
      simp [Value.ownBlock] at e
      rcases hg with e' | e'
      · exact s2 (by rw [e', e])
      · omega
    · exact hgr.cell hc (fun e => s2 e.symm)
  refine ⟨_, hown, by simp [nodeCells, hx]; omega, fun i t' hi ht' => ?_⟩
  by_cases hij : i = j
  · subst hij
    rw [ht] at ht'
    injection ht' with ht'
    subst ht'
    refine ⟨A, c, ?_, ?_, ?_, ?_, hkeep hk, b1, b2, b3⟩ <;> rw [List.getElem?_append_right (by omega)] <;> simp [hx, nodeCells]
  · obtain ⟨A', c', t0, t1, t2, t3, t4, t5⟩ := h i t' (by omega) ht'
    exact ⟨A', c', by rw [List.getElem?_append_left (by omega)]; exact t0, by rw [List.getElem?_append_left (by omega)]; exact t1, by rw [List.getElem?_append_left (by omega)]; exact t2, by rw [List.getElem?_append_left (by omega)]; exact t3, hkeep t4, t5⟩
theorem OutIs.done {B : Nat} {w : World} {ks : List Tree} {v : Value} (h : OutIs B w ks ks.length v) : ∃ A c, v = .slice A ks.length c ∧ FreshK w B ks A ks.length c := by
  obtain ⟨xs, h1, h2, h3⟩ := h
  obtain ⟨A, c, rfl, k1, k2⟩ := own_form h1
  refine ⟨A, c, rfl, rfl, k1, k2, ?_⟩
  by_cases h0 : ks = []
  · exact .inl h0
  · right
    obtain ⟨g, cap, e, hg⟩ := h1.form (List.length_pos_iff.2 h0)
    injection e with e1 e2 e3
    subst e1 e3
    have hlt := h1.lt g rfl
    refine ⟨g, 0, rfl, RowAt.mk fun i t ht => ?_⟩
    obtain ⟨A2, c2, t0, t1, t2, t3, t4, t5, t6, t7⟩ := h3 i t (List.getElem?_eq_some_iff.1 ht).1 ht
    have hc : ∀ p u, xs[p]? = some u → (sinceW w B).cell? ⟨g, p, none⟩ = some u := fun p u hu => since_cell.2 ⟨hlt.1, own_cells h1 p u hu⟩
    rw [Nat.zero_add]
    refine TreeAt.of (hc _ _ t0) (hc _ _ t1) (hc _ _ t2) (hc _ _ t3) ?_ t5 t6 t7
    exact KidsAt.keep (fun a u h => by obtain ⟨s1, s2⟩ := only_cell.1 h; exact since_cell.2 ⟨(rest_iff.1 s1).1, s2⟩) t4

theorem nodeCells_one (t : Tree) (A : Option Addr) (c : Nat) : ∀ u ∈ nodeCells t A c, u.oneCell' = true := by
  intro u hu
  simp [nodeCells] at hu
  rcases hu with rfl | rfl | rfl | rfl <;> rfl
theorem wp_node_append {ops : Array Oper} {rest : List Oper} {o : Oper} {a : Act} {Q : Exit → Act → World → Prop} (w : World) (hgd : o.guard = none) (s x : Operand)
    (ho : o.op = .call { callee := .builtin .append, args := #[s, x], argTypes := #[24, 24] })
    (base : Nat) (v : Value) (j : Nat) (xs : List Value) (hs : a.eval s = v) (hown : w.ownsRow base 40 4 v j xs)
    (Bk c : Nat) (t : Tree) (A : Option Addr) (k : Nat) (hx : a.eval x = .slice (some ⟨Bk, 0, none⟩) 1 c) (hblk : w.heap[Bk]? = some (.cells (nodeCells t A k).toArray 40 (0, 0)))
    (hfew : j ≤ 1000000) (hbase : base ≤ w.heap.size)
    (h : ∀ g cap w', w'.ownsRow base 40 4 (.slice (some ⟨g, 0, none⟩) (j + 1) cap) (j + 1) (xs ++ nodeCells t A k) → w.grownBy w' v.ownBlock → (v.ownBlock = some g ∨ g = w.heap.size) → wpList Tryz.prog ops Q rest (a.put o.dst (.slice (some ⟨g, 0, none⟩) (j + 1) cap)) w') : wpList Tryz.prog ops Q (o :: rest) a w := by
  obtain ⟨i0, hi, hz0, hz1, hz2⟩ := info_parts Tryz.infoNode
  exact wpList_append_lies w hgd s x _ ho base 40 i0 _ 4 56 Tryz.underlying24 hi hz0 hz1 hz2 rfl (by omega) v j xs hs hown ⟨Bk, 0, none⟩ 1 c (nodeCells t A k) hx rfl
    (fun j u hu => World.news_of_block hblk j u (by simpa using hu)) (nodeCells_one t A k) (by omega) (by unfold maxLen; omega) (by omega) hbase _ rfl fun g cap w' h1 h2 h3 _ => h g cap w' h1 h2 h3

def CopiesPost (ks : List Tree) (n : Nat) (w : World) (e : Ending) (w' : World) : Prop := ∃ A c, e = .returned (.slice A n c) ∧ FreshK w' w.heap.size ks A n c ∧ Below w.heap.size w w'
set_option maxRecDepth 100000 in
set_option maxHeartbeats 2000000 in
theorem p_copies (ks : List Tree) (A : Option Addr) (n c : Nat) (w : World) (hsz : szL ks ≤ 1000000) (hK : KidsAt w ks A n c) :
    Calls Tryz.prog 45 #[.slice A n c] w (CopiesPost ks n w) := by
  have HK := Lib.hid hK
  have HSZ := Lib.hid hsz
  have HLN : Hid (n = ks.length) := hK.1
  have hnb : n ≤ 1000000 := by have h1 := len_sz ks; have h3 := HLN.out; omega
  clear hK hsz
  go_enter Tryz.func45, Tryz.ntmps45
  go_wp2_with fail
  go_loopw [3, 10] (fun v i wr => ∃ j : Nat, j ≤ n ∧ i = .int .i64 j ∧ Hid (Below w.heap.size w wr) ∧ Hid (OutIs w.heap.size wr ks j v)) (fun _ i _ => n - (intOf i).toNat)
  case atStart => exact ⟨0, Nat.zero_le _, rfl, Below.refl _ _, OutIs.start _ _ _⟩
  case round =>
    obtain ⟨j, hj, rfl, HB, HI⟩ := hrel
    by_cases hlt : j < n
    · obtain ⟨b, o, t, rfl, ht, hat⟩ := (HK.out.below HB.out).get hlt
      obtain ⟨B1, d1, q0, q1, q2, q3, hnode⟩ := hat.cells
      have HND := Lib.hid hnode
      have HT := Lib.hid ht
      have HST : Hid (t.sz ≤ 1000000) := Nat.le_trans (sz_at ht) HSZ.out
      clear ht hat hnode
      go_wp2_with fail
      have hb1 : Below wr.heap.size wr (wr.alloc (.cells #[.int .u8 t.kind, .string (sb t.text), .int .i64 t.num, .slice B1 t.kids.length d1] 40)) := (Below.refl _ _).alloc (Nat.le_refl _) _
      refine (p_get t _ _ _ _ _ _ _ HST.out (HND.out.below hb1)).mono ?_
      rintro e w3 ⟨A3, k3, rfl, hf3, hb3⟩
      have HB3 := Lib.hid (bthen hb1 hb3)
      have HF3 := Lib.hid hf3
      clear hf3 hb3 hb1
      have HBND : Hid (t.kind ≤ 255 ∧ t.text.length ≤ maxLen ∧ fitsI t.num) := by
        obtain ⟨ks', e, h1, h2, h3, _⟩ := HND.out
        exact ⟨h1, h2, h3⟩
      have HK3 : Hid (OnlyK w3 (rest w.heap.size u3) t.kids A3 t.kids.length k3) := HF3.out.only fun i h1 h2 => by
        obtain ⟨xs, ho, _⟩ := HI.out
        simp at h1
        have h3 := HB.out.size
        refine rest_iff.2 ⟨by omega, fun e => ?_⟩
        have := (ho.lt i e).2
        omega
      have hb4 : Below w3.heap.size w3 ((w3.alloc (.cells #[.int .u8 t.kind, .string (sb t.text), .int .i64 t.num, .slice A3 t.kids.length k3] 40)).alloc (.cells #[.int .u8 t.kind, .string (sb t.text), .int .i64 t.num, .slice A3 t.kids.length k3] 40)) := ((Below.refl _ _).alloc (Nat.le_refl _) _).alloc (by simp) _
      have HO4 := Lib.hid ((HI.out.below HB3.out).below hb4)
      have HK4 : Hid (OnlyK ((w3.alloc (.cells #[.int .u8 t.kind, .string (sb t.text), .int .i64 t.num, .slice A3 t.kids.length k3] 40)).alloc (.cells #[.int .u8 t.kind, .string (sb t.text), .int .i64 t.num, .slice A3 t.kids.length k3] 40)) (rest w.heap.size u3) t.kids A3 t.kids.length k3) := HK3.out.keep fun a v hS hc => ⟨hS, cell_below hb4 hc⟩
      have HB4 := Lib.hid (bthen HB.out (bthen HB3.out hb4))
      clear hb4
      obtain ⟨xs, hown, hxl, hat⟩ := HO4.out
      have HOW := Lib.hid hown
      have HAT := Lib.hid hat
      clear hown hat
      go_wp2_with (at_builtin; go_must (refine wp_node_append _ rfl _ _ rfl w.heap.size u3 j xs rfl HOW.out (w3.heap.size + 1) 1 t A3 k3 rfl (heap_alloc_at (by simp)) (by omega) HB4.out.size ?_); intro g cap w5 ho5 hg5 hd5)
      have HN5 := Lib.hid (OutIs.push HAT.out hxl HT.out HK4.out HBND.out.1 HBND.out.2.1 HBND.out.2.2 ho5 hg5 hd5)
      have HB5 := Lib.hid (below_grown HOW.out hg5 (Nat.le_refl _) HB4.out.size)
      have HB6 := Lib.hid (HB4.out.trans HB5.out)
      clear ho5 hg5 hd5
      go_wp2
      go_roundw
      case rel => exact ⟨j + 1, by omega, by go_num, HB6, HN5⟩
      case measure => simp [intOf]; omega
    · have hjn : j = n := by omega
      subst hjn
      have HD : Hid (∃ A c, u3 = .slice A j c ∧ FreshK wr w.heap.size ks A j c) := by
        have h := HI.out
        rw [HLN.out] at h ⊢
        exact h.done
      obtain ⟨A2, c2, rfl, hf⟩ := HD.out
      have HF := Lib.hid hf
      clear hf HD
      go_wp2_with fail
      go_ret
      exact ⟨A2, c2, rfl, HF.out, HB.out⟩
end Go.Proofs.YtmikjhohnfcedaaGreatDoor

namespace Go.Proofs.YtmikjhohnfcedaaGreatDoor
set_option linter.unusedSimpArgs false
set_option linter.unusedVariables false
open Go.RowKit
set_option linter.unusedSimpArgs false

theorem Tryz.infoStr : (Tryz.prog.info? 9).map (fun i => (i.zero, i.size, i.bytes)) = some (some (.string ByteArray.empty), 1, 16) := by kernel_rfl
def strCells (ss : List Bytes) : List Value := ss.map fun s => .string (sb s)
theorem strCells_snoc (ss : List Bytes) (s : Bytes) : strCells (ss ++ [s]) = strCells ss ++ [.string (sb s)] := by simp [strCells]
theorem strCells_len (ss : List Bytes) : (strCells ss).length = ss.length := by simp [strCells]
/-- append(out, s) in a region that draws its order. -/
theorem step_str_append {ops : Array Oper} {o : Oper} {a : Act} {K : Act → World → Prop} {Q : Exit → Act → World → Prop} {E : Prop} (w : World) (hgd : o.guard = none) (s x : Operand)
    (ho : o.op = .call { callee := .builtin .append, args := #[s, x], argTypes := #[35, 35] })
    (base : Nat) (v : Value) (ss : List Bytes) (hs : a.eval s = v) (hown : w.ownsRow base 9 1 v ss.length (strCells ss))
    (Bk c : Nat) (t : Bytes) (hx : a.eval x = .slice (some ⟨Bk, 0, none⟩) 1 c) (hblk : w.heap[Bk]? = some (.cells #[.string (sb t)] 9 (0, 0)))
    (hfew : ss.length ≤ 2147483648) (hbase : base ≤ w.heap.size)
    (h : ∀ g cap w', w'.ownsRow base 9 1 (.slice (some ⟨g, 0, none⟩) (ss.length + 1) cap) (ss ++ [t]).length (strCells (ss ++ [t])) → w.grownBy w' v.ownBlock → K (a.put o.dst (.slice (some ⟨g, 0, none⟩) (ss.length + 1) cap)) w') :
    if Region.wanted o (yielded ops a.tmps) = true then Oper.wp Tryz.prog o a w K Q else E := by
  obtain ⟨i0, hi, hz0, hz1, hz2⟩ := info_parts Tryz.infoStr
  refine step_append_lies w hgd s x _ ho base 9 i0 _ 1 16 Tryz.underlying35 hi hz0 hz1 hz2 rfl (by omega) v ss.length (strCells ss) hs hown ⟨Bk, 0, none⟩ 1 c [.string (sb t)] hx rfl
    (fun j u hu => World.news_of_block hblk j u (by simpa using hu)) (by simp [Value.oneCell']) (by omega) (by unfold maxLen; omega) (by omega) hbase _ rfl ?_
  intro g cap w' hown' hgr hat hlt
  refine h g cap w' ?_ hgr
  rw [strCells_snoc, List.length_append]
  exact hown'
/-- What a box and the row of strings behind it hold. -/
structure StrBox (B b j : Nat) (w : World) (v : Value) (ss : List Bytes) : Prop where
  cell : w.cell? ⟨b, j, none⟩ = some v
  soft : w.frozen? ⟨b, j, none⟩ = false
  own : w.ownsRow B 9 1 v ss.length (strCells ss)
  lt : b < B
/-- Nothing has changed but a block and a row's own. -/
def ButB (b : Nat) (v : Value) (w w' : World) : Prop := w.heap.size ≤ w'.heap.size ∧ ∀ q, q < w.heap.size → q ≠ b → v.ownBlock ≠ some q → w'.heap[q]? = w.heap[q]?
theorem ButB.refl (b : Nat) (v : Value) (w : World) : ButB b v w w := ⟨Nat.le_refl _, fun _ _ _ _ => rfl⟩
theorem ButB.below {b : Nat} {v : Value} {w w1 w' : World} (h : ButB b v w1 w') (hb : Below w.heap.size w w1) : ButB b v w w' :=
  ⟨Nat.le_trans hb.size h.1, fun q h1 h2 h3 => (h.2 q (Nat.lt_of_lt_of_le h1 hb.size) h2 h3).trans (hb.block q h1)⟩
set_option maxHeartbeats 400000 in
theorem p_clone (s : ByteArray) (w : World) (hs : s.size ≤ 281474976710656) :
    Calls Tryz.prog 33 #[.string s] w fun e w' => e = .returned (.string s) ∧ Below w.heap.size w w' := by
  go_enter Tryz.func33, Tryz.ntmps33
  go_wp2_with (go_at_call 65; refine (Tryz.stringslite_Clone _ _ hs).mono ?_; rintro e w1 ⟨rfl, hb⟩)
  go_ret
  exact ⟨rfl, hb⟩
theorem StrBox.ne {B b j : Nat} {w : World} {v : Value} {ss : List Bytes} (h : StrBox B b j w v ss) : v.ownBlock ≠ some b := by
  intro e
  have h1 := (h.own.lt b e).1
  have h2 := h.lt
  omega
theorem StrBox.below {B b j : Nat} {w w' : World} {v : Value} {ss : List Bytes} (h : StrBox B b j w v ss) (hb : Below w.heap.size w w') : StrBox B b j w' v ss := by
  have hlt := cell_lt h.cell
  exact ⟨cell_below hb h.cell, by rw [← h.soft]; unfold World.frozen?; rw [hb.block b hlt], own_below h.own hb (Nat.le_refl _), h.lt⟩
/-- The box's facts behind the append. -/
theorem str_mid {B b j : Nat} {w w1 w2 : World} {v : Value} {ss : List Bytes} {o : Obj} (h : StrBox B b j w v ss) (hbel : Below w.heap.size w w1) (hgr : (w1.alloc o).grownBy w2 v.ownBlock) : w2.heap[b]? = w.heap[b]? := by
  have hlt : b < w.heap.size := cell_lt h.cell
  have hsz := hbel.size
  rw [hgr.block b (by simp; omega) (Ne.symm h.ne), Below.heap_alloc _ _ _ (by omega), hbel.block b hlt]
theorem cell_same {w w' : World} {b j : Nat} (h : w'.heap[b]? = w.heap[b]?) : w'.cell? ⟨b, j, none⟩ = w.cell? ⟨b, j, none⟩ ∧ w'.frozen? ⟨b, j, none⟩ = w.frozen? ⟨b, j, none⟩ := by
  unfold World.cell? World.frozen?
  simp only [h]
  exact ⟨trivial, trivial⟩
def NamesPost1 (B b : Nat) (v : Value) (ss : List Bytes) (w : World) (e : Ending) (w' : World) : Prop := e = .returned (.tuple #[]) ∧ ∃ v', StrBox B b 0 w' v' ss ∧ ButB b v w w' ∧ Below b w w'
theorem str_done {B b : Nat} {w w1 w2 : World} {v : Value} {ss : List Bytes} {o : Obj} {t : Bytes} {V : Value} (j : Nat) (h : StrBox B b j w v ss) (hbel : Below w.heap.size w w1)
    (hown : w2.ownsRow B 9 1 V (ss ++ [t]).length (strCells (ss ++ [t]))) (hgr : (w1.alloc o).grownBy w2 v.ownBlock) : StrBox B b j (w2.setCell ⟨b, j, none⟩ V) V (ss ++ [t]) ∧ ButB b v w (w2.setCell ⟨b, j, none⟩ V) ∧ Below b w (w2.setCell ⟨b, j, none⟩ V) := by
  have hm := str_mid h hbel hgr
  obtain ⟨e1, e2⟩ := cell_same (j := j) hm
  have hlt : b < w.heap.size := cell_lt h.cell
  have hsz := hbel.size
  have hne : V.ownBlock ≠ some b := by
    intro e
    have h1 := (hown.lt b e).1
    have h2 := h.lt
    omega
  refine ⟨⟨set_self (e1.trans h.cell), ?_, own_set hown hne _, h.lt⟩, ⟨?_, ?_⟩, ?_⟩
  · have hf : w2.frozen? ⟨b, j, none⟩ = false := e2.trans h.soft
    rw [← hf]
    simp [World.frozen?, World.setCell, Array.getElem?_modify]
    cases w2.heap[b]? with
    | none => rfl
    | some o => cases o <;> rfl
  · have h1 := hgr.size
    simp at h1 ⊢
    omega
  · intro q hq hqb hqv
    rw [Below.heap_setCell _ _ _ _ (fun e => hqb e), hgr.block q (by simp; omega) (Ne.symm hqv), Below.heap_alloc _ _ _ (by omega), hbel.block q hq]
  · have hB1 : Below b w w1 := hbel.mono (by omega)
    have hB2 : Below b w (w1.alloc o) := hB1.alloc (by omega) o
    have hB3 : Below b w w2 := hB2.grown hgr (by simp; omega) (fun k hk => by have h1 := (h.own.lt k hk).1; have h2 := h.lt; omega)
    exact hB3.setCell (p := ⟨b, j, none⟩) (Nat.le_refl _) V

def nameMore (k : Nat) (s : ByteArray) (ss : List Bytes) : List Bytes := if namedB k then ss ++ [bl s] else ss
set_option maxHeartbeats 1000000 in
set_option maxRecDepth 20000 in
theorem p_names1 (B b k : Nat) (s : ByteArray) (x : Int) (A : Option Addr) (n c : Nat) (ss : List Bytes) (v : Value) (w : World) (h : StrBox B b 0 w v ss) (hs : s.size ≤ 281474976710656) (hfew : ss.length ≤ 2147483648) (hB : B ≤ w.heap.size) :
    Calls Tryz.prog 31 #[.agg #[.int .u8 k, .string s, .int .i64 x, .slice A n c], .pointer (some ⟨b, 0, none⟩)] w (NamesPost1 B b v (nameMore k s ss) w) := by
  have hb0 : Below w.heap.size w (w.alloc (.cells #[.int .u8 k, .string s, .int .i64 x, .slice A n c] 40)) := (Below.refl _ _).alloc (Nat.le_refl _) _
  have HS := Lib.hid h
  have HB0 := Lib.hid hb0
  have hlt : b < w.heap.size := cell_lt h.cell
  clear hb0 h
  go_enter Tryz.func31, Tryz.ntmps31
  go_wp2_with fail
  refine (p_named k _).mono ?_
  rintro en w1 ⟨rfl, hb1⟩
  have HB1 := Lib.hid (bthen HB0.out hb1)
  have hbox : w1.heap[w.heap.size]? = some (.cells #[.int .u8 k, .string s, .int .i64 x, .slice A n c] 40 (0, 0)) := (hb1.block _ (by simp)).trans (heap_alloc_new _ _)
  have HBX := Lib.hid hbox
  have hw1 : w.heap.size < w1.heap.size := by have := hb1.size; simp at this; omega
  clear hb1 hbox
  cases hk : namedB k with
  | false =>
    have HN := Lib.hid hk
    go_wp2_with fail
    go_end0
    have e : nameMore k s ss = ss := by unfold nameMore; rw [HN.out]; rfl
    rw [e]
    exact ⟨rfl, v, HS.out.below HB1.out, (ButB.refl _ _ _).below HB1.out, HB1.out.mono (by omega)⟩
  | true =>
    have HN := Lib.hid hk
    have c0 := (boxF4 HBX.out).c0; have c1 := (boxF4 HBX.out).c1; have c2 := (boxF4 HBX.out).c2; have c3 := (boxF4 HBX.out).c3
    have hz0 : w1.cell? ⟨b, 0, none⟩ = some v := cell_below HB1.out HS.out.cell
    go_wp2
    go_region_law (first | (refine step_str_append _ (by rfl) _ _ (by rfl) B v ss (by rfl) ((own_below HS.out.own hbel (Nat.le_refl _)).alloc _) w3.heap.size 1 (bl s) (by rfl) (heap_alloc_at (by simp)) (by omega) (by simp; omega) ?_; intro g cap w2 hown2 hgr2; have hv1 := (cell_same (j := 0) (str_mid HS.out hbel hgr2)).1.trans HS.out.cell; have hfz1 := (cell_same (j := 0) (str_mid HS.out hbel hgr2)).2.trans HS.out.soft) | (go_simp; go_at_call 33; refine (p_clone _ _ (by omega)).mono ?_; rintro e w3 ⟨rfl, hbel'⟩; have hbel : Below w.heap.size w w3 := bthen HB1.out (bthen (below_drews (Below.refl _ _) 1) hbel'); clear hbel'; have hsz1 : w.heap.size ≤ w3.heap.size := hbel.size; have hz1 := (hbel.cell (p := ⟨b, 0, none⟩) hlt).trans HS.out.cell; have hz2a := fun o => (World.cell?_alloc_lt w3 o ⟨b, 0, none⟩ (by show b < _; omega)).trans hz1))
    all_goals
      go_wp2
      go_end0
      have e : nameMore k s ss = ss ++ [bl s] := by unfold nameMore; rw [HN.out]; rfl
      rw [e]
      exact ⟨rfl, _, str_done 0 HS.out hbel hown2 hgr2⟩
end Go.Proofs.YtmikjhohnfcedaaGreatDoor

namespace Go.Proofs.YtmikjhohnfcedaaGreatDoor
set_option linter.unusedSimpArgs false
set_option linter.unusedVariables false
open Go.RowKit
set_option linter.unusedSimpArgs false

/-- What is told of binders and calls so far. -/
structure SideBox (B b : Nat) (w : World) (v : Value) (ss : List Bytes) (c : Bool) : Prop where
  str : StrBox B b 9 w v ss
  cell : w.cell? ⟨b, 11, none⟩ = some (.bool c)
  soft : w.frozen? ⟨b, 11, none⟩ = false
def bindB (k : Nat) : Bool := k == 2 || k == 4 || k == 6
def bindMore (k : Nat) (s : ByteArray) (ss : List Bytes) : List Bytes := if bindB k then ss ++ [bl s] else ss
def callMore (k : Nat) (c : Bool) : Bool := c || k == 25
/-- The box's other cells stay. -/
def OnlyAt (b : Nat) (w w' : World) : Prop := ∀ j v, j ≠ 9 → j ≠ 11 → w.cell? ⟨b, j, none⟩ = some v → w'.cell? ⟨b, j, none⟩ = some v ∧ w'.frozen? ⟨b, j, none⟩ = w.frozen? ⟨b, j, none⟩
def SidePost (B b : Nat) (v : Value) (ss : List Bytes) (c : Bool) (w : World) (e : Ending) (w' : World) : Prop := e = .returned (.tuple #[]) ∧ ∃ v', SideBox B b w' v' ss c ∧ ButB b v w w' ∧ Below b w w' ∧ OnlyAt b w w'
theorem frozen_set (w : World) (a p : Addr) (v : Value) : (w.setCell p v).frozen? a = w.frozen? a := by
  simp only [World.frozen?, World.setCell, Array.getElem?_modify]
  by_cases h : p.block = a.block
  · simp only [h, if_true]
    cases w.heap[a.block]? with
    | none => rfl
    | some o => cases o <;> rfl
  · simp [h]
theorem wp_str_append {ops : Array Oper} {rest : List Oper} {o : Oper} {a : Act} {Q : Exit → Act → World → Prop} (w : World) (hgd : o.guard = none) (s x : Operand)
    (ho : o.op = .call { callee := .builtin .append, args := #[s, x], argTypes := #[35, 35] })
    (base : Nat) (v : Value) (ss : List Bytes) (hs : a.eval s = v) (hown : w.ownsRow base 9 1 v ss.length (strCells ss))
    (Bk c : Nat) (t : Bytes) (hx : a.eval x = .slice (some ⟨Bk, 0, none⟩) 1 c) (hblk : w.heap[Bk]? = some (.cells #[.string (sb t)] 9 (0, 0)))
    (hfew : ss.length ≤ 2147483648) (hbase : base ≤ w.heap.size)
    (h : ∀ g cap w', w'.ownsRow base 9 1 (.slice (some ⟨g, 0, none⟩) (ss.length + 1) cap) (ss ++ [t]).length (strCells (ss ++ [t])) → w.grownBy w' v.ownBlock → wpList Tryz.prog ops Q rest (a.put o.dst (.slice (some ⟨g, 0, none⟩) (ss.length + 1) cap)) w') : wpList Tryz.prog ops Q (o :: rest) a w := by
  obtain ⟨i0, hi, hz0, hz1, hz2⟩ := info_parts Tryz.infoStr
  refine wpList_append_lies w hgd s x _ ho base 9 i0 _ 1 16 Tryz.underlying35 hi hz0 hz1 hz2 rfl (by omega) v ss.length (strCells ss) hs hown ⟨Bk, 0, none⟩ 1 c [.string (sb t)] hx rfl
    (fun j u hu => World.news_of_block hblk j u (by simpa using hu)) (by simp [Value.oneCell']) (by omega) (by unfold maxLen; omega) (by omega) hbase _ rfl ?_
  intro g cap w' hown' hgr hat hlt
  refine h g cap w' ?_ hgr
  rw [strCells_snoc, List.length_append]
  exact hown'
theorem SideBox.below {B b : Nat} {w w' : World} {v : Value} {ss : List Bytes} {c : Bool} (h : SideBox B b w v ss c) (hb : Below w.heap.size w w') : SideBox B b w' v ss c := by
  have hlt := cell_lt h.cell
  refine ⟨h.str.below hb, cell_below hb h.cell, ?_⟩
  rw [← h.soft]; unfold World.frozen?; rw [hb.block b hlt]
theorem only_of_block {b : Nat} {w w' : World} (h : w'.heap[b]? = w.heap[b]?) : OnlyAt b w w' := fun j v _ _ hc => by
  obtain ⟨e1, e2⟩ := cell_same (j := j) h
  exact ⟨e1.trans hc, e2⟩
theorem OnlyAt.set {b : Nat} {w w' : World} (h : OnlyAt b w w') (i : Nat) (hi : i = 9 ∨ i = 11) (u : Value) : OnlyAt b w (w'.setCell ⟨b, i, none⟩ u) := fun j v h9 h11 hc => by
  obtain ⟨e1, e2⟩ := h j v h9 h11 hc
  refine ⟨set_other (fun e => ?_) e1, (frozen_set _ _ _ _).trans e2⟩
  injection e with _ e
  omega
/-- Nothing has happened. -/
theorem side_none {B b : Nat} {w w1 : World} {v : Value} {ss : List Bytes} {c : Bool} (h : SideBox B b w v ss c) (hb : Below w.heap.size w w1) : SidePost B b v ss c w (.returned (.tuple #[])) w1 := by
  have hlt : b < w.heap.size := cell_lt h.cell
  exact ⟨rfl, v, h.below hb, (ButB.refl _ _ _).below hb, hb.mono (Nat.le_of_lt hlt), only_of_block (hb.block b hlt)⟩
/-- A call has been met. -/
theorem side_call {B b : Nat} {w w1 : World} {v : Value} {ss : List Bytes} {c : Bool} (h : SideBox B b w v ss c) (hb : Below w.heap.size w w1) : SidePost B b v ss true w (.returned (.tuple #[])) (w1.setCell ⟨b, 11, none⟩ (.bool true)) := by
  have hlt : b < w.heap.size := cell_lt h.cell
  obtain ⟨⟨h1, h2, h3, h6⟩, h4, h5⟩ := h.below hb
  refine ⟨rfl, v, ⟨⟨set_other (fun e => by injection e with _ e; omega) h1, (frozen_set _ _ _ _).trans h2, own_set h3 (fun e => by have h0 : B ≤ b := (h3.lt _ e).1; omega) _, h6⟩, set_self h4, (frozen_set _ _ _ _).trans h5⟩, ⟨?_, ?_⟩, ?_, (only_of_block (hb.block b hlt)).set 11 (.inr rfl) _⟩
  · have := hb.size; simpa using this
  · intro q h1 h2 h3
    rw [Below.heap_setCell _ _ _ _ (fun e => h2 e), hb.block q h1]
  · exact (hb.mono (Nat.le_of_lt hlt)).setCell (p := ⟨b, 11, none⟩) (Nat.le_refl _) _
/-- A binder has been met. -/
theorem side_bind {B b : Nat} {w w1 w2 : World} {v : Value} {ss : List Bytes} {c : Bool} {o : Obj} {t : Bytes} {V : Value} (h : SideBox B b w v ss c) (hbel : Below w.heap.size w w1)
    (hown : w2.ownsRow B 9 1 V (ss ++ [t]).length (strCells (ss ++ [t]))) (hgr : (w1.alloc o).grownBy w2 v.ownBlock) : SidePost B b v (ss ++ [t]) c w (.returned (.tuple #[])) (w2.setCell ⟨b, 9, none⟩ V) := by
  obtain ⟨d1, d2, d3⟩ := str_done 9 h.str hbel hown hgr
  have hm := str_mid h.str hbel hgr
  obtain ⟨e1, e2⟩ := cell_same (j := 11) hm
  refine ⟨rfl, V, ⟨d1, set_other (fun e => by injection e with _ e; omega) (e1.trans h.cell), (frozen_set _ _ _ _).trans (e2.trans h.soft)⟩, d2, d3, (only_of_block hm).set 9 (.inl rfl) _⟩
set_option maxHeartbeats 1000000 in
set_option maxRecDepth 20000 in
theorem p_bind1 (B b k : Nat) (s : ByteArray) (x : Int) (A : Option Addr) (n d : Nat) (ss : List Bytes) (c : Bool) (v : Value) (w : World) (h : SideBox B b w v ss c) (hfew : ss.length ≤ 2147483648) (hB : B ≤ w.heap.size) :
    Calls Tryz.prog 42 #[.agg #[.int .u8 k, .string s, .int .i64 x, .slice A n d], .pointer (some ⟨b, 0, none⟩)] w (SidePost B b v (bindMore k s ss) (callMore k c) w) := by
  have hb0 : Below w.heap.size w (w.alloc (.cells #[.int .u8 k, .string s, .int .i64 x, .slice A n d] 40)) := (Below.refl _ _).alloc (Nat.le_refl _) _
  have HS := Lib.hid h
  have HB0 := Lib.hid hb0
  have HBX := Lib.hid (boxF4 (heap_alloc_new w (.cells #[.int .u8 k, .string s, .int .i64 x, .slice A n d] 40)))
  have hlt : b < w.heap.size := cell_lt h.cell
  have HS1 := Lib.hid (h.below hb0)
  have z9 := HS1.out.str.cell
  have z11 := HS1.out.cell
  have f9 := HS1.out.str.soft
  have f11 := HS1.out.soft
  have y9 := HS.out.str.cell
  have y11 := HS.out.cell
  have g9 := HS.out.str.soft
  have g11 := HS.out.soft
  have c0 := HBX.out.c0
  have c1 := HBX.out.c1
  clear hb0 h
  by_cases h25 : k = 25
  · subst h25
    have e1 : bindMore 25 s ss = ss := rfl
    have e2 : callMore 25 c = true := by simp [callMore]
    rw [e1, e2]
    go_enter Tryz.func42, Tryz.ntmps42
    go_wp2_with fail
    go_end0
    rw [← World.setCell_alloc_past _ _ _ _ hlt]
    exact side_call HS.out HB0.out
  · have q25 : ((k : Int) == 25) = false := by simp; omega
    have e2 : callMore k c = c := by simp [callMore, h25]
    rw [e2]
    by_cases hb : bindB k = true
    · have e1 : bindMore k s ss = ss ++ [bl s] := by unfold bindMore; rw [hb]; rfl
      rw [e1]
      have hk : k = 2 ∨ k = 4 ∨ k = 6 := by simpa [bindB, or_assoc] using hb
      clear hb e1 e2 h25
      rcases hk with rfl | rfl | rfl
      all_goals
        go_enter Tryz.func42, Tryz.ntmps42
        go_wp2_with (at_builtin; go_must (refine wp_str_append _ rfl _ _ rfl B v ss rfl (HS1.out.str.own.alloc _) (w.heap.size + 1) 1 (bl s) rfl (heap_alloc_at (by simp)) (by omega) (by simp; omega) ?_); intro g cap w2 hown2 hgr2; have hv9 := (cell_same (j := 9) (str_mid HS.out.str HB0.out hgr2)).1.trans HS.out.str.cell; have hf9 := (cell_same (j := 9) (str_mid HS.out.str HB0.out hgr2)).2.trans HS.out.str.soft)
        go_end0
        exact side_bind HS.out HB0.out hown2 hgr2
    · have hb' : bindB k = false := by simpa using hb
      have e1 : bindMore k s ss = ss := by unfold bindMore; rw [hb']; rfl
      rw [e1]
      have q2 : ((k : Int) == 2) = false := by simp [bindB] at hb'; simp; omega
      have q4 : ((k : Int) == 4) = false := by simp [bindB] at hb'; simp; omega
      have q6 : ((k : Int) == 6) = false := by simp [bindB] at hb'; simp; omega
      clear hb hb' e1 e2 h25
      go_enter Tryz.func42, Tryz.ntmps42
      go_wp2_with fail
      go_end0
      exact side_none HS.out HB0.out
end Go.Proofs.YtmikjhohnfcedaaGreatDoor

namespace Go.Proofs.YtmikjhohnfcedaaGreatDoor
set_option linter.unusedSimpArgs false
set_option linter.unusedVariables false
open Go.RowKit
set_option linter.unusedSimpArgs false

def GrowPost (n : Nat) (w : World) (e : Ending) (w' : World) : Prop := ∃ cap, e = .returned (.slice (some ⟨w.heap.size, 0, none⟩) 0 cap) ∧ n ≤ cap ∧ w'.ownsRow w.heap.size 40 4 (.slice (some ⟨w.heap.size, 0, none⟩) 0 cap) 0 [] ∧ Below w.heap.size w w'
theorem run_node_zeros (w : World) (ty : TypeId) (n : Nat) (h0 : 0 < n) (hn : n ≤ 1000000) : ∃ (cap : Nat) (w' : World), (Builtin.append_ #[24, 3] ty #[.slice none 0 0, .int .i64 n]).run Tryz.prog w = .ok (.slice (some ⟨w.heap.size, 0, none⟩) n cap) w' ∧ n ≤ cap ∧ cap ≤ maxLen ∧ w'.ownsRow w.heap.size 40 4 (.slice (some ⟨w.heap.size, 0, none⟩) 0 cap) 0 [] ∧ Below w.heap.size w w' := by
  obtain ⟨i0, hi, hz0, hz1, hz2⟩ := info_parts Tryz.infoNode
  have h1 := grownCap_ge w n 0 40
  have h2 := grownCap_le_maxLen w n 0 40 (by unfold maxLen; omega)
  refine ⟨_, _, Lib.run_append_nil_zeros w 24 3 ty 40 i0 _ .i64 .i64 Tryz.underlying24 Tryz.underlying3 hi hz0 n h0 (by omega) (by omega) (by rw [hz2]; omega), h1, h2, ?_, ?_⟩
  · refine ⟨rfl, .inr ⟨w.heap.size, _, _, rfl, Nat.le_refl _, heap_alloc_new _ _, Nat.zero_le _, h2, ?_, ?_⟩⟩
    · rw [Array.size_append, size_zeroCells, size_zeroCells]
      have : (Value.agg #[.int .u8 0, .string ⟨#[]⟩, .int .i64 0, .slice none 0 0]).cells.size = 4 := rfl
      rw [this]
      omega
    · simp
  · exact ((Below.refl _ _).drew).alloc (Nat.le_refl _) _
set_option maxRecDepth 20000 in
set_option maxHeartbeats 1000000 in
theorem p_grow (n : Nat) (w : World) (h0 : 0 < n) (hn : n ≤ 1000000) :
    Calls Tryz.prog 68 #[.slice none 0 0, .int .i64 n] w (GrowPost n w) := by
  obtain ⟨cap, w1, hr, h1, h2, ho, hb⟩ := run_node_zeros w 24 n h0 hn
  have HR := Lib.hid hr
  have HO := Lib.hid ho
  have HB := Lib.hid hb
  clear hr ho hb
  go_enter Tryz.func68, Tryz.ntmps68
  go_wp2_with (at_builtin; go_must (refine Lib.wpList_append_run _ rfl _ _ _ _ rfl _ _ rfl rfl _ _ HR.out ?_))
  go_ret
  exact ⟨cap, rfl, h1, HO.out, HB.out⟩
end Go.Proofs.YtmikjhohnfcedaaGreatDoor

namespace Go.Proofs.YtmikjhohnfcedaaGreatDoor
set_option linter.unusedSimpArgs false
set_option linter.unusedVariables false
open Go.RowKit
set_option linter.unusedSimpArgs false

/-- Cells that read as a row of trees. -/
def CellsRead (w : World) (cs : List Value) (us : List Tree) : Prop := cs.length = us.length * 4 ∧ ∀ i t, us[i]? = some t → ∃ A c, cs[i * 4]? = some (.int .u8 t.kind) ∧ cs[i * 4 + 1]? = some (.string (sb t.text)) ∧ cs[i * 4 + 2]? = some (.int .i64 t.num) ∧ cs[i * 4 + 3]? = some (.slice A t.kids.length c) ∧ KidsAt w t.kids A t.kids.length c ∧ t.kind ≤ 255 ∧ t.text.length ≤ maxLen ∧ fitsI t.num
theorem CellsRead.nil (w : World) : CellsRead w [] [] := ⟨rfl, fun _ _ h => by simp at h⟩
theorem CellsRead.append {w : World} {cs cs' : List Value} {us us' : List Tree} (h : CellsRead w cs us) (h' : CellsRead w cs' us') : CellsRead w (cs ++ cs') (us ++ us') := by
  obtain ⟨l, h⟩ := h
  obtain ⟨l', h'⟩ := h'
  refine ⟨by simp [l, l']; omega, fun i t ht => ?_⟩
  by_cases hi : i < us.length
  · rw [List.getElem?_append_left hi] at ht
    obtain ⟨A, c, t0, t1, t2, t3, r⟩ := h i t ht
    exact ⟨A, c, by rw [List.getElem?_append_left (by omega)]; exact t0, by rw [List.getElem?_append_left (by omega)]; exact t1, by rw [List.getElem?_append_left (by omega)]; exact t2, by rw [List.getElem?_append_left (by omega)]; exact t3, r⟩
  · rw [List.getElem?_append_right (by omega)] at ht
    obtain ⟨A, c, t0, t1, t2, t3, r⟩ := h' _ t ht
    refine ⟨A, c, ?_, ?_, ?_, ?_, r⟩ <;> rw [List.getElem?_append_right (by omega)]
    · rw [show i * 4 - cs.length = (i - us.length) * 4 by omega]; exact t0
    · rw [show i * 4 + 1 - cs.length = (i - us.length) * 4 + 1 by omega]; exact t1
    · rw [show i * 4 + 2 - cs.length = (i - us.length) * 4 + 2 by omega]; exact t2
    · rw [show i * 4 + 3 - cs.length = (i - us.length) * 4 + 3 by omega]; exact t3
theorem CellsRead.of_row {w : World} {us : List Tree} {b o : Nat} (h : RowAt w us b o) : CellsRead w (cellsOf w b o (us.length * 4)) us := by
  refine ⟨cellsOf_len _ _ _ _, fun i t ht => ?_⟩
  have hi := (List.getElem?_eq_some_iff.1 ht).1
  obtain ⟨A, c, t0, t1, t2, t3, r⟩ := (h.get ht).parts
  exact ⟨A, c, cellsOf_at (by omega) t0, cellsOf_at (by omega) (by rw [← Nat.add_assoc]; exact t1), cellsOf_at (by omega) (by rw [← Nat.add_assoc]; exact t2), cellsOf_at (by omega) (by rw [← Nat.add_assoc]; exact t3), r⟩
theorem CellsRead.done {w w' : World} {base : Nat} {us : List Tree} {cs : List Value} {v : Value} {n : Nat} (h : CellsRead w cs us) (hown : w'.ownsRow base 40 4 v n cs) (hn : n = us.length) (hb : Below w.heap.size w w') : ∃ A c, v = .slice A n c ∧ KidsAt w' us A n c := by
  obtain ⟨A, c, rfl, k1, k2⟩ := own_form hown
  refine ⟨A, c, rfl, hn, k1, k2, ?_⟩
  by_cases h0 : us = []
  · exact .inl h0
  · right
    obtain ⟨g, cap, e, hg⟩ := hown.form (by rw [hn]; exact List.length_pos_iff.2 h0)
    injection e with e1 e2 e3
    subst e1 e3
    refine ⟨g, 0, rfl, RowAt.mk fun i t ht => ?_⟩
    obtain ⟨A2, c2, t0, t1, t2, t3, t4, t5, t6, t7⟩ := h.2 i t ht
    rw [Nat.zero_add]
    exact TreeAt.of (own_cells hown _ _ t0) (own_cells hown _ _ t1) (own_cells hown _ _ t2) (own_cells hown _ _ t3) (t4.below hb) t5 t6 t7
theorem run_nodes_append {w0 w : World} (hb : Below w0.heap.size w0 w) (ty : TypeId) (base : Nat) (hbase : base ≤ w.heap.size) (v : Value) (j : Nat) (cs : List Value) (hown : w.ownsRow base 40 4 v j cs) (us : List Tree) (A : Option Addr) (m c : Nat) (hK : KidsAt w0 us A m c) (hj : j ≤ 1000000) (hm : m ≤ 1000000) :
    ∃ v' w' cs', (Builtin.append_ #[24, 24] ty #[v, .slice A m c]).run Tryz.prog w = .ok v' w' ∧ w'.ownsRow base 40 4 v' (j + m) (cs ++ cs') ∧ CellsRead w0 cs' us ∧ w.grownBy w' v.ownBlock := by
  obtain ⟨i0, hi, hz0, hz1, hz2⟩ := info_parts Tryz.infoNode
  have hl := hK.1
  cases A with
  | none =>
    have hks : us = [] := by rcases hK.2.2.2 with e | ⟨b, o, e, _⟩; exact e; cases e
    subst hks
    have hm0 : m = 0 := hl
    subst hm0
    refine ⟨v, w, [], ?_, by simpa using hown, CellsRead.nil _, ⟨rfl, rfl, rfl, Nat.le_refl _, fun _ _ _ => rfl⟩⟩
    rcases hown.2 with ⟨rfl, rfl⟩ | ⟨g, cap, cur, rfl, _, _, hnc, _⟩
    · simp [Builtin.append_, run_underlying Tryz.underlying24, sizeOf, typeInfo, hi, Builtin.lenOf, Builtin.firstCells]
    · simp [Builtin.append_, run_underlying Tryz.underlying24, sizeOf, typeInfo, hi, Builtin.lenOf, Builtin.firstCells, hnc, storeCells]
  | some ad =>
    have hX : ∃ news : List Value, news.length = m * 4 ∧ (∀ j u, news[j]? = some u → w.cell? (ad.add j) = some u) ∧ (∀ u ∈ news, u.oneCell' = true) ∧ CellsRead w0 news us := by
      rcases hK.2.2.2 with e | ⟨b, o, e, hr⟩
      · subst e; have : m = 0 := hl; subst this; exact ⟨[], rfl, by simp, by simp, CellsRead.nil _⟩
      · injection e with e
        subst e
        refine ⟨cellsOf w0 b o (us.length * 4), by rw [cellsOf_len, hl], fun j u hu => ?_, cellsOf_one hr, CellsRead.of_row hr⟩
        rw [add_mid]; exact cell_below hb (cellsOf_get hr hu)
    obtain ⟨news, x1, x2, x3, x4⟩ := hX
    obtain ⟨v', w', r1, r2, r3, _⟩ := run_append_own (P := Tryz.prog) w base 24 ty 40 i0 _ 4 56 Tryz.underlying24 hi hz0 hz1 hz2 rfl (by decide) v j cs hown ad m c news x1 x2 x3 (by unfold maxLen; omega) (by omega) hbase
    exact ⟨v', w', news, r1, r2, x4, r3⟩
def sumAt (j a b : Nat) : Nat := match j with | 0 => 0 | 1 => a | _ => a + b
def rowAt (j : Nat) (os ns : List Tree) : List Tree := match j with | 0 => [] | 1 => os | _ => os ++ ns
def ConcatPost (us : List Tree) (n : Nat) (w0 w : World) (e : Ending) (w' : World) : Prop := ∃ v cs, e = .returned v ∧ w'.ownsRow w.heap.size 40 4 v n cs ∧ CellsRead w0 cs us ∧ Below w.heap.size w w'
set_option maxRecDepth 20000 in
set_option maxHeartbeats 2000000 in
theorem p_concat (os ns : List Tree) (bp : Nat) (oA : Option Addr) (on oc : Nat) (nA : Option Addr) (nn nc : Nat) (w0 w : World) (hb0 : Below w0.heap.size w0 w) (h0 : w.cell? ⟨bp, 0, none⟩ = some (.slice oA on oc)) (h1 : w.cell? ⟨bp, 1, none⟩ = some (.slice nA nn nc))
    (hO : KidsAt w0 os oA on oc) (hN : KidsAt w0 ns nA nn nc) (hpos : 0 < on + nn) (hfew : on + nn ≤ 1000000) :
    Calls Tryz.prog 38 #[.slice (some ⟨bp, 0, none⟩) 2 2] w (ConcatPost (os ++ ns) (on + nn) w0 w) := by
  have HO := Lib.hid hO
  have HN := Lib.hid hN
  have HLO : Hid (on = os.length) := hO.1
  have HLN : Hid (nn = ns.length) := hN.1
  have H0 := Lib.hid h0
  have H1 := Lib.hid h1
  have HW := Lib.hid hb0
  clear hO hN hb0
  go_enter Tryz.func38, Tryz.ntmps38
  go_wp2_with fail
  go_loopw [3, 11] (fun sv iv wr => ∃ j : Nat, j ≤ 2 ∧ iv = .int .i64 j ∧ sv = .int .i64 ((sumAt j on nn : Nat) : Int) ∧ w = wr) (fun _ iv _ => 2 - (intOf iv).toNat)
  case atStart => exact ⟨0, by omega, rfl, rfl, rfl⟩
  case round =>
    obtain ⟨j, hj, rfl, rfl, rfl⟩ := hrel
    have h0 := H0.out
    have h1 := H1.out
    obtain rfl | rfl | rfl : j = 0 ∨ j = 1 ∨ j = 2 := by omega
    · have e0 : sumAt 0 on nn = 0 := rfl
      rw [e0]
      go_wp2_with fail
      go_roundw
      case rel => exact ⟨1, by omega, by simp, by simp [sumAt], trivial⟩
      case measure => simp [intOf]
    · have e0 : sumAt 1 on nn = on := rfl
      rw [e0]
      go_wp2_with fail
      go_roundw
      case rel => exact ⟨2, by omega, by simp, by simp [sumAt], trivial⟩
      case measure => simp [intOf]
    · have e0 : sumAt 2 on nn = on + nn := rfl
      rw [e0]
      go_wp2_with fail
      refine (p_grow (on + nn) _ hpos hfew).mono ?_
      rintro en w1 ⟨cap, rfl, hcap, ho1, hb1⟩
      have HOW := Lib.hid ho1
      have HB1 := Lib.hid hb1
      clear ho1 hb1
      go_wp2_with fail
      go_loopw [6, 27] (fun v iv wr => ∃ j : Nat, j ≤ 2 ∧ iv = .int .i64 j ∧ Hid (Below w.heap.size w wr) ∧ Hid (∃ cs, wr.ownsRow w.heap.size 40 4 v (sumAt j on nn) cs ∧ CellsRead w0 cs (rowAt j os ns))) (fun _ iv _ => 2 - (intOf iv).toNat)
      case atStart => exact ⟨0, by omega, rfl, HB1.out, [], HOW.out, CellsRead.nil _⟩
      case round =>
        obtain ⟨j, hj, rfl, HB, HI⟩ := hrel
        obtain ⟨cs, hown, hread⟩ := HI.out
        have HC := Lib.hid hown
        have HRD := Lib.hid hread
        clear hown hread
        have h0 := cell_below HB.out H0.out
        have h1 := cell_below HB.out H1.out
        obtain rfl | rfl | rfl : j = 0 ∨ j = 1 ∨ j = 2 := by omega
        · obtain ⟨v', w', cs', hr, ho, hrd, hgr⟩ := run_nodes_append (bthen HW.out HB.out) 24 w.heap.size HB.out.size u6 _ cs HC.out os oA on oc HO.out (by simp [sumAt]) (by omega)
          have HR := Lib.hid hr
          have HO2 := Lib.hid ho
          have HRD2 := Lib.hid (HRD.out.append hrd)
          have HBN := Lib.hid (HB.out.trans (below_grown HC.out hgr (Nat.le_refl _) HB.out.size))
          clear hr ho hrd hgr
          go_wp2_with (at_builtin; go_must (refine Lib.wpList_append_run _ rfl _ _ _ _ rfl _ _ rfl rfl _ _ HR.out ?_))
          go_roundw
          case rel => exact ⟨1, by omega, by simp, HBN, _, by simpa [sumAt] using HO2.out, by simpa [rowAt] using HRD2.out⟩
          case measure => simp [intOf]
        · obtain ⟨v', w', cs', hr, ho, hrd, hgr⟩ := run_nodes_append (bthen HW.out HB.out) 24 w.heap.size HB.out.size u6 _ cs HC.out ns nA nn nc HN.out (by simp [sumAt]; omega) (by omega)
          have HR := Lib.hid hr
          have HO2 := Lib.hid ho
          have HRD2 := Lib.hid (HRD.out.append hrd)
          have HBN := Lib.hid (HB.out.trans (below_grown HC.out hgr (Nat.le_refl _) HB.out.size))
          clear hr ho hrd hgr
          go_wp2_with (at_builtin; go_must (refine Lib.wpList_append_run _ rfl _ _ _ _ rfl _ _ rfl rfl _ _ HR.out ?_))
          go_roundw
          case rel => exact ⟨2, by omega, by simp, HBN, _, by simpa [sumAt] using HO2.out, by simpa [rowAt] using HRD2.out⟩
          case measure => simp [intOf]
        · go_wp2_with fail
          go_ret
          exact ⟨u6, cs, rfl, HC.out, HRD.out, HB.out⟩
end Go.Proofs.YtmikjhohnfcedaaGreatDoor

namespace Go.Proofs.YtmikjhohnfcedaaGreatDoor
set_option linter.unusedSimpArgs false
set_option linter.unusedVariables false
open Go.RowKit
set_option linter.unusedSimpArgs false

theorem enter_bind1 (args : Array Value) (w : World) : (callFunc 42 args).run Tryz.prog w = .ok (.enter 42 args) w := run_enter Tryz.func42 (by kernel_rfl) (by kernel_rfl) args w
theorem treesTake {ks : List Tree} {j : Nat} {t : Tree} (h : ks[j]? = some t) : ks.take (j + 1) = ks.take j ++ [t] := by
  have hj : j < ks.length := (List.getElem?_eq_some_iff.1 h).1
  rw [List.take_succ_eq_append_getElem hj]
  rw [List.getElem?_eq_getElem hj] at h
  injection h with h
  rw [h]
def bindsMore (ss : List Bytes) (ks : List Tree) : List Bytes := ss ++ bindsL ks
def callsMore (c : Bool) (ks : List Tree) : Bool := c || callsL ks
theorem bindsMore_step {ss : List Bytes} {ks : List Tree} {j : Nat} {t : Tree} (h : ks[j]? = some t) : bindsMore ss (ks.take (j + 1)) = bindsMore (bindMore t.kind (sb t.text) (bindsMore ss (ks.take j))) t.kids := by
  obtain ⟨k, s, x, us⟩ := t
  rw [treesTake h]
  unfold bindsMore bindMore bindB
  simp only [binds_append, bindsL, Tree.binds, Tree.kind, Tree.text, Tree.kids, List.append_nil, bl_mk]
  split <;> simp_all
theorem callsMore_step {c : Bool} {ks : List Tree} {j : Nat} {t : Tree} (h : ks[j]? = some t) : callsMore c (ks.take (j + 1)) = callsMore (callMore t.kind (callsMore c (ks.take j))) t.kids := by
  obtain ⟨k, s, x, us⟩ := t
  rw [treesTake h]
  unfold callsMore callMore
  simp only [calls_append, callsL, Tree.calls, Tree.kind, Tree.kids, Bool.or_false, Bool.or_assoc]
theorem bindsMore_len {ss : List Bytes} {ks : List Tree} {j : Nat} {t : Tree} (h : ks[j]? = some t) : (bindsMore ss (ks.take j)).length + t.sz ≤ ss.length + szL ks := by
  have h1 := bindsL_len (ks.take j)
  have hj : j < ks.length := (List.getElem?_eq_some_iff.1 h).1
  have e : szL ks = szL (ks.take j) + szL (ks.drop j) := by rw [← sz_append, List.take_append_drop]
  have e2 : szL (ks.drop j) = t.sz + szL (ks.drop (j + 1)) := by
    rw [List.drop_eq_getElem_cons hj]
    rw [List.getElem?_eq_getElem hj] at h
    injection h with h
    rw [h]
    rfl
  unfold bindsMore
  rw [List.length_append]
  omega
theorem bindMore_len (k : Nat) (s : ByteArray) (ss : List Bytes) : (bindMore k s ss).length ≤ ss.length + 1 := by
  unfold bindMore; split <;> simp
/-- Nothing that was there has changed but two cells of a block. -/
structure Keep (b : Nat) (w0 w : World) : Prop where
  bel : Below b w0 w
  old : ∀ q, q < w0.heap.size → q ≠ b → w.heap[q]? = w0.heap[q]?
  only : OnlyAt b w0 w
theorem Keep.refl (b : Nat) (w : World) : Keep b w w := ⟨Below.refl _ _, fun _ _ _ => rfl, fun _ _ _ _ h => ⟨h, rfl⟩⟩
theorem OnlyAt.trans {b : Nat} {w w1 w2 : World} (h : OnlyAt b w w1) (h' : OnlyAt b w1 w2) : OnlyAt b w w2 := fun j v h9 h11 hc => by
  obtain ⟨e1, e2⟩ := h j v h9 h11 hc
  obtain ⟨e3, e4⟩ := h' j v h9 h11 e1
  exact ⟨e3, e4.trans e2⟩
theorem Keep.below {b : Nat} {w0 w w' : World} (h : Keep b w0 w) (hlt : b < w.heap.size) (hb : Below w.heap.size w w') : Keep b w0 w' :=
  ⟨h.bel.trans (hb.mono (Nat.le_of_lt hlt)), fun q hq hqb => (hb.block q (Nat.lt_of_lt_of_le hq h.bel.size)).trans (h.old q hq hqb), h.only.trans (only_of_block (hb.block b hlt))⟩
theorem Keep.side {b : Nat} {w0 w w' : World} {v : Value} {ss : List Bytes} {c : Bool} (h : Keep b w0 w) (hS : SideBox w0.heap.size b w v ss c) (hbut : ButB b v w w') (hb : Below b w w') (ho : OnlyAt b w w') : Keep b w0 w' :=
  ⟨h.bel.trans hb, fun q hq hqb => (hbut.2 q (Nat.lt_of_lt_of_le hq h.bel.size) hqb (fun e => by have := (hS.str.own.lt q e).1; omega)).trans (h.old q hq hqb), h.only.trans ho⟩
def notB (b q : Nat) : Bool := !(q == b)
theorem Keep.kids {b : Nat} {w0 w : World} {ks : List Tree} {A : Option Addr} {n c : Nat} (h : Keep b w0 w) (hK : OnlyK w0 (notB b) ks A n c) : KidsAt w ks A n c :=
  KidsAt.keep (fun a v hc => by
    obtain ⟨h1, h2⟩ := only_cell.1 hc
    rw [World.cell?_of_block (h.old _ (cell_lt h2) (by simpa [notB] using h1))]
    exact h2) hK
def SideEach (b : Nat) (ss : List Bytes) (c : Bool) (w0 : World) (e : Ending) (w' : World) : Prop := e = .returned (.tuple #[]) ∧ Keep b w0 w' ∧ ∃ v', SideBox w0.heap.size b w' v' ss c
def SideC (m : Nat) : Prop := ∀ (ks : List Tree) (A : Option Addr) (n d : Nat) (ss : List Bytes) (c : Bool) (b : Nat) (w0 w : World) (v : Value), szL ks < m → OnlyK w0 (notB b) ks A n d → Keep b w0 w → SideBox w0.heap.size b w v ss c → ss.length + szL ks ≤ 1000000 →
  Calls Tryz.prog 41 #[.func (.func 42) #[] #[.pointer (some ⟨b, 0, none⟩)], .slice A n d] w (SideEach b (bindsMore ss ks) (callsMore c ks) w0)
theorem side_mid {w0 w w3 : World} {b : Nat} {v : Value} {ss : List Bytes} {c : Bool} {x0 x1 x2 x3 : Value} {T : TypeId} (hk : Keep b w0 w) (hS : SideBox w0.heap.size b w v ss c) (hbut : ButB b v (w.alloc (.cells #[x0, x1, x2, x3] T)) w3) (hb3 : Below b (w.alloc (.cells #[x0, x1, x2, x3] T)) w3) (ho : OnlyAt b (w.alloc (.cells #[x0, x1, x2, x3] T)) w3) :
    Hid (Keep b w0 w3) ∧ Hid (w3.cell? ⟨w.heap.size, 3, none⟩ = some x3) := by
  have hlt : b < w.heap.size := cell_lt hS.cell
  have ha : Below w.heap.size w (w.alloc (.cells #[x0, x1, x2, x3] T)) := (Below.refl _ _).alloc (Nat.le_refl _) _
  refine ⟨(hk.below hlt ha).side (hS.below ha) hbut hb3 ho, ?_⟩
  have h1 : w3.heap[w.heap.size]? = (w.alloc (.cells #[x0, x1, x2, x3] T)).heap[w.heap.size]? := hbut.2 _ (by simp) (by omega) (fun e => by have := (hS.str.own.lt _ e).2; omega)
  rw [heap_alloc_new] at h1
  exact (boxF4 h1).c3
set_option maxRecDepth 20000 in
set_option maxHeartbeats 4000000 in
theorem side_step (m : Nat) (ih : Hid (SideC m)) : SideC (m + 1) := by
  intro ks A n d ss c bb w0 w v hm hK hb hS hfew
  have HK := Lib.hid hK
  have HM := Lib.hid hm
  have HLN : Hid (n = ks.length) := hK.1
  have hnn : n ≤ 9223372036854775807 := by have h1 := hK.2.1; have h2 := hK.2.2.1; unfold maxLen at h2; omega
  have HB := Lib.hid hb
  have HS := Lib.hid hS
  have hcf := enter_bind1
  clear hK hm hb hS
  go_enter Tryz.func41, Tryz.ntmps41
  go_wp2_with fail
  go_loopw [8] (fun i wr => ∃ j : Nat, j ≤ n ∧ i = .int .i64 j ∧ Hid (Keep bb w0 wr) ∧ Hid (∃ v', SideBox w0.heap.size bb wr v' (bindsMore ss (ks.take j)) (callsMore c (ks.take j)))) (fun i _ => n - (intOf i).toNat)
  case atStart => exact ⟨0, Nat.zero_le _, rfl, HB.out, v, by simpa [bindsMore, bindsL, callsMore, callsL] using HS.out⟩
  case round =>
    obtain ⟨j, hj, rfl, HBR, HSR⟩ := hrel
    by_cases hlt : j < n
    · obtain ⟨b, o, t, rfl, ht, hat⟩ := (HBR.out.kids HK.out).get hlt
      obtain ⟨B1, d1, q0, q1, q2, q3, hnode⟩ := hat.cells
      obtain ⟨B0, d0, q3', hkk⟩ : ∃ B0 d0, wr.cell? ⟨b, o + j * 4 + 3, none⟩ = some (.slice B0 t.kids.length d0) ∧ OnlyK w0 (notB bb) t.kids B0 t.kids.length d0 := by
        obtain ⟨b', o', t', e1, e2, hat0⟩ := KidsAt.get HK.out hlt
        injection e1 with e1
        injection e1 with e1 e1'
        rw [ht] at e2
        injection e2 with e2
        subst e1 e1' e2
        obtain ⟨A', c', _, _, _, h3, hk, _⟩ := hat0.parts
        obtain ⟨g1, g2⟩ := only_cell.1 h3
        refine ⟨A', c', ?_, hk⟩
        rw [World.cell?_of_block (HBR.out.old _ (cell_lt g2) (by simpa [notB] using g1))]
        exact g2
      rw [q3] at q3'
      injection q3' with q3'
      injection q3' with q3' _ q3''
      subst q3' q3''
      have HKK := Lib.hid hkk
      clear hkk
      obtain ⟨vr, hvr⟩ := HSR.out
      have HND := Lib.hid hnode
      have HT := Lib.hid ht
      have HSV := Lib.hid hvr
      have HL1 := Lib.hid (bindsMore_len (ss := ss) ht)
      have HSZ : Hid (szL t.kids + 1 < m + 1) := Nat.lt_of_le_of_lt (by have := sz_at ht; obtain ⟨k, s, x, us⟩ := t; simp [Tree.sz, Tree.kids] at this ⊢; omega) HM.out
      have HSE : Hid (bindsMore ss (ks.take (j + 1)) = bindsMore (bindMore t.kind (sb t.text) (bindsMore ss (ks.take j))) t.kids) := bindsMore_step ht
      have HCE : Hid (callsMore c (ks.take (j + 1)) = callsMore (callMore t.kind (callsMore c (ks.take j))) t.kids) := callsMore_step ht
      clear ht hat hnode hvr
      go_wp2_with fail
      have hba : Below wr.heap.size wr (wr.alloc (.cells #[.int .u8 t.kind, .string (sb t.text), .int .i64 t.num, .slice B1 t.kids.length d1] 40)) := (Below.refl _ _).alloc (Nat.le_refl _) _
      refine (p_bind1 w0.heap.size bb t.kind (sb t.text) t.num B1 t.kids.length d1 (bindsMore ss (ks.take j)) (callsMore c (ks.take j)) vr _ (HSV.out.below hba) (by have := HL1.out; omega) (by have := HBR.out.bel.size; simp; omega)).mono ?_
      rintro en w3 ⟨rfl, v3, hS3, hbut, hb3, ho3⟩
      obtain ⟨HB3, HX3⟩ := side_mid HBR.out HSV.out hbut hb3 ho3
      have HS3 := Lib.hid hS3
      have c3 := HX3.out
      clear hba hS3 hbut hb3 ho3
      go_wp2_with fail
      refine (ih.out t.kids B1 t.kids.length d1 _ _ bb w0 w3 v3 (by have := HSZ.out; omega) (HKK.out) HB3.out HS3.out (by have := HL1.out; have := bindMore_len t.kind (sb t.text) (bindsMore ss (ks.take j)); obtain ⟨k, s, x, us⟩ := t; simp [Tree.sz, Tree.kids] at *; omega)).mono ?_
      rintro en w4 ⟨rfl, hb4, v4, hS4⟩
      have HB4 := Lib.hid hb4
      have HS4 := Lib.hid hS4
      clear hb4 hS4
      go_wp2
      go_roundw
      case rel => exact ⟨j + 1, by omega, by go_num, HB4, v4, by rw [HSE.out, HCE.out]; exact HS4.out⟩
      case measure => simp [intOf]; omega
    · have hjn : j = n := by omega
      subst hjn
      have HD : Hid (ks.take j = ks) := List.take_of_length_le (by have := HLN.out; omega)
      obtain ⟨vr, hvr⟩ := HSR.out
      have HSV := Lib.hid hvr
      clear hvr
      go_wp2_with fail
      go_end0
      have h := HSV.out
      rw [HD.out] at h
      exact ⟨rfl, HBR.out, vr, h⟩
theorem side_all : ∀ m, SideC m
  | 0 => fun _ _ _ _ _ _ _ _ _ _ hm => absurd hm (Nat.not_lt_zero _)
  | m + 1 => side_step m (Lib.hid (side_all m))
theorem p_swap_each (ks : List Tree) (A : Option Addr) (n d : Nat) (ss : List Bytes) (c : Bool) (b : Nat) (w0 w : World) (v : Value) (hK : OnlyK w0 (notB b) ks A n d) (hb : Keep b w0 w) (hS : SideBox w0.heap.size b w v ss c) (hfew : ss.length + szL ks ≤ 1000000) :
    Calls Tryz.prog 41 #[.func (.func 42) #[] #[.pointer (some ⟨b, 0, none⟩)], .slice A n d] w (SideEach b (bindsMore ss ks) (callsMore c ks) w0) :=
  side_all (szL ks + 1) ks A n d ss c b w0 w v (Nat.lt_succ_self _) hK hb hS hfew
end Go.Proofs.YtmikjhohnfcedaaGreatDoor
