/- The walks over the lexer's put, text, sign, try; Name and number. -/
import Derived.Test.YtjdofndkdkeapaaGreatDoorLexProg2
import Derived.Test.YtjdofndkdkeapaaGreatDoorLexRefS
import Derived.Deep.DrawnRows
import Derived.Deep.RegionLaw
namespace Go.Proofs.YtjdofndkdkeapaaGreatDoor.Lx
open Go.RowKit

set_option maxHeartbeats 400000 in
theorem p_clone (s : ByteArray) (w : World) (hs : s.size ≤ 281474976710656) :
    Calls Tryz.prog 36 #[.string s] w fun e w' => e = .returned (.string s) ∧ Below w.heap.size w w' := by
  go_enter Tryz.func36, Tryz.ntmps36
  go_wp2_with (go_at_call 72; refine (Tryz.stringslite_Clone _ _ hs).mono ?_; rintro e w1 ⟨rfl, hb⟩)
  go_ret
  exact ⟨rfl, hb⟩

/-- What the lexer has put so far. -/
structure LxS (B : Nat) (w : World) (b : Nat) (s : ByteArray) (k : Nat) (ts : List Tok) (v : Value) : Prop where
  lx : Lx w b s k v
  own : w.ownsRow B 82 3 v ts.length (tokCells ts)
  base : B ≤ b
def PutPost (B b : Nat) (s : ByteArray) (k : Nat) (ts : List Tok) (w : World) (e : Ending) (w' : World) : Prop :=
  e = .returned (.tuple #[]) ∧ ∃ v', LxS B w' b s k ts v' ∧ Below B w w'
theorem LxS.ne {B : Nat} {w : World} {b : Nat} {s : ByteArray} {k : Nat} {ts : List Tok} {v : Value} (h : LxS B w b s k ts v) : v.ownBlock ≠ some b := by
  intro e
  rcases h.own.2 with ⟨rfl, _⟩ | ⟨g, cap, cur, rfl, _, hh, _⟩
  · simp [Value.ownBlock] at e
  · simp [Value.ownBlock] at e
    subst e
    have := h.lx
    unfold Lx at this
    rw [hh] at this
    injection this with this
    injection this with _ ht
    exact absurd ht (by decide)

/-- append(out, t) in a region that draws its order. -/
theorem step_tok_append {ops : Array Oper} {o : Oper} {a : Act} {K : Act → World → Prop} {Q : Exit → Act → World → Prop} {E : Prop} (w : World) (hgd : o.guard = none) (s x : Operand)
    (ho : o.op = .call { callee := .builtin .append, args := #[s, x], argTypes := #[31, 31] })
    (base : Nat) (v : Value) (ts : List Tok) (hs : a.eval s = v) (hown : w.ownsRow base 82 3 v ts.length (tokCells ts))
    (Bk c : Nat) (t : Tok) (hx : a.eval x = .slice (some ⟨Bk, 0, none⟩) 1 c) (hblk : w.heap[Bk]? = some (.cells (tokV t).toArray 82 (0, 0)))
    (hfew : ts.length ≤ 2147483648) (hbase : base ≤ w.heap.size)
    (h : ∀ g cap w', w'.ownsRow base 82 3 (.slice (some ⟨g, 0, none⟩) (ts.length + 1) cap) (ts ++ [t]).length (tokCells (ts ++ [t])) → w.grownBy w' v.ownBlock → K (a.put o.dst (.slice (some ⟨g, 0, none⟩) (ts.length + 1) cap)) w') :
    if Region.wanted o (yielded ops a.tmps) = true then Oper.wp Tryz.prog o a w K Q else E := by
  obtain ⟨i0, hi, hz0, hz1, hz2⟩ := info_parts Tryz.infoTok
  refine step_append_lies w hgd s x _ ho base 82 i0 _ 3 32 Tryz.underlying31 hi hz0 hz1 hz2 rfl (by omega) v ts.length (tokCells ts) hs hown ⟨Bk, 0, none⟩ 1 c (tokV t) hx rfl
    (fun j u hu => World.news_of_block hblk j u (by simpa using hu)) (tokV_one t) (by omega) (by unfold maxLen; omega) (by omega) hbase _ rfl ?_
  intro g cap w' hown' hgr hat hlt
  refine h g cap w' ?_ hgr
  rw [tokCells_snoc, List.length_append]
  exact hown'

theorem own_ne_type {w : World} {base g : Nat} {e t' : TypeId} {size n : Nat} {v : Value} {xs : List Value} {cs : Array Value} {fr : Nat × Nat} (h : w.ownsRow base e size v n xs) (hg : w.heap[g]? = some (.cells cs t' fr)) (hne : e ≠ t') : v.ownBlock ≠ some g := by
  intro hv
  rcases h.2 with ⟨rfl, _⟩ | ⟨g', cap, cur, rfl, _, hh, _⟩
  · simp [Value.ownBlock] at hv
  · simp [Value.ownBlock] at hv
    subst hv
    rw [hh] at hg
    injection hg with hg
    injection hg with _ ht
    exact hne ht
theorem put_mid {B : Nat} {w w1 w2 : World} {b : Nat} {s : ByteArray} {k : Nat} {ts : List Tok} {v : Value} {o : Obj} (h : LxS B w b s k ts v) (hbel : Below w.heap.size w w1) (hgr : (w1.alloc o).grownBy w2 v.ownBlock) : Lx w2 b s k v := by
  have hlt := h.lx.lt
  have hsz := hbel.size
  show w2.heap[b]? = _
  rw [hgr.block b (by simp; omega) (Ne.symm h.ne), Below.heap_alloc _ _ _ (by omega), hbel.block b hlt]
  exact h.lx
theorem put_done {B : Nat} {w w1 w2 : World} {b : Nat} {s : ByteArray} {k k' : Nat} {ts : List Tok} {v V : Value} {t : Tok} {o : Obj} {x : Int} (h : LxS B w b s k ts v) (hbel : Below w.heap.size w w1)
    (hown : w2.ownsRow B 82 3 V (ts ++ [t]).length (tokCells (ts ++ [t]))) (hgr : (w1.alloc o).grownBy w2 v.ownBlock) (hx : x = (k' : Nat)) :
    PutPost B b s k' (ts ++ [t]) w (.returned (.tuple #[])) ((w2.setCell ⟨b, 2, none⟩ V).setCell ⟨b, 1, none⟩ (.int .i64 x)) := by
  subst hx
  have hlt := h.lx.lt
  have hsz := hbel.size
  have h2 : w2.heap[b]? = some (.cells #[.string s, .int .i64 k, v] 60 (0, 0)) := put_mid h hbel hgr
  have hne := own_ne_type hown h2 (by decide)
  have hB1 : Below B w w1 := hbel.mono (by have := h.base; omega)
  have hB2 : Below B w w2 := (hB1.alloc (by have := h.base; omega) o).grown hgr (by simp; have := h.base; omega) (fun k hk => (h.own.lt k hk).1)
  refine ⟨rfl, V, ⟨?_, own_set (own_set hown hne _) hne _, h.base⟩, (hB2.setCell (p := ⟨b, 2, none⟩) h.base _).setCell (p := ⟨b, 1, none⟩) h.base _⟩
  unfold Lx
  simp [World.setCell, Array.getElem?_modify, h2]

attribute [local go_sem ↓] Go.wp_at_zero Go.wp_at_succ
set_option maxHeartbeats 1000000 in
set_option maxRecDepth 20000 in
theorem p_put (B : Nat) (s t : ByteArray) (b k kd : Nat) (ts : List Tok) (v : Value) (w : World) (h : LxS B w b s k ts v) (hk : k ≤ 2147483647) (ht : t.size ≤ 2147483647) (hfew : ts.length ≤ 2147483647) :
    Calls Tryz.prog 20 #[.pointer (some ⟨b, 0, none⟩), .int .u8 kd, .string t] w (PutPost B b s (k + t.size) (ts ++ [⟨kd, bl t, k⟩]) w) := by
  have HL := Lib.hid h
  have hbx := h.lx.box
  have hlt := h.lx.lt
  have hbase := h.base
  have hx1 := hbx.c1; have hx2 := hbx.c2; have hy1 := hbx.f1; have hy2 := hbx.f2
  clear hbx h
  go_enter Tryz.func20, Tryz.ntmps20
  go_wp2
  go_region_law (first | (refine step_tok_append _ (by rfl) _ _ (by rfl) B v ts (by rfl) ((own_below HL.out.own hbel (Nat.le_refl _)).alloc _) w1.heap.size 1 ⟨kd, bl t, k⟩ (by rfl) (heap_alloc_at (by simp)) (by omega) (by simp; omega) ?_; intro g cap w2 hown2 hgr2; have hbx2 := (put_mid HL.out hbel hgr2).box; have hv1 := hbx2.c1; have hv2 := hbx2.c2; have hfz := hbx2.f2; have hfz1 := hbx2.f1; clear hbx2) | (go_simp; go_at_call 36; refine (p_clone _ _ (by omega)).mono ?_; rintro e w1 ⟨rfl, hbel'⟩; have hbel : Below w.heap.size w w1 := ((Below.refl _ w).drew).trans hbel'; clear hbel'; have hsz1 : w.heap.size ≤ w1.heap.size := hbel.size; have hz1 := (hbel.cell (p := ⟨b, 1, none⟩) hlt).trans hx1; have hz2 := (hbel.cell (p := ⟨b, 2, none⟩) hlt).trans hx2; have hz2a := fun o => (World.cell?_alloc_lt w1 o ⟨b, 2, none⟩ (by show b < _; omega)).trans hz2))
  all_goals
    clear hz2a
    go_wp2
    go_end0
    exact put_done HL.out hbel hown2 hgr2 (by simp)
end Go.Proofs.YtjdofndkdkeapaaGreatDoor.Lx
