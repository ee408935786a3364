/- The walk over node: it marks, takes the kind's way, and marks the end. -/
import Derived.Test.YtjdofndkdkeapaaGreatDoorPrint3
import Derived.Deep.AppendLies
import Derived.Lib.SliceRun
import Derived.Deep.QuietTactic
import Derived.BigQuiet
import Derived.Deep.DeepCutAuto
import Derived.Deep.CutBlock
namespace Go.Proofs.YtjdofndkdkeapaaGreatDoor
open Go.RowKit
set_option linter.unusedSimpArgs false
set_option linter.unusedVariables false

def ClonePost (n : Nat) (w : World) (e : Ending) (w' : World) : Prop := ∃ A k, e = .returned (.slice A n k) ∧ Below w.heap.size w w'
set_option maxHeartbeats 1000000 in
set_option maxRecDepth 20000 in
theorem p_clone_path {w : World} {B : Nat} {pv : Value} {path : List Int} (ho : w.ownsRow B 3 1 pv path.length (path.map (Value.int .i64))) (hl : path.length ≤ 1000000) :
    Calls Tryz.prog 62 #[pv] w (ClonePost path.length w) := by
  obtain ⟨i0, hi0, hz0, hz1, hz2⟩ := info_parts Tryz.infoIntP
  obtain ⟨A, c, rfl, hc⟩ := own_form ho
  have q := fun (w : World) (a : Option Addr) (n c n' c' : Nat) => Lib.run_eql_slice_nil (P := Tryz.prog) w _ _ a n c n' c' Tryz.underlying52
  rcases ho.2 with ⟨e1, e2⟩ | ⟨g, cap, cur, e1, _⟩
  · injection e1 with v1 v2 v3
    subst v1 v3
    obtain rfl : path = [] := List.length_eq_zero_iff.1 e2
    clear ho hc e2
    go_enter Tryz.func62, Tryz.ntmps62
    go_wp2
    go_ret
    exact ⟨none, 0, rfl, Below.refl _ _⟩
  · injection e1 with v1 v2 v3
    subst v1 v3
    have hb : Below w.heap.size w (w.alloc (.cells #[] 3)) := (Below.refl _ _).alloc (Nat.le_refl _) _
    have ho' := own_below ho hb (Nat.le_refl _)
    have hnews := own_cells ho'
    have hmade : (w.alloc (.cells #[] 3)).ownsRow w.heap.size 3 1 (.slice (some ⟨w.heap.size, 0, none⟩) 0 0) 0 [] := World.ownsRow_lit w #[] 0 (Nat.le_refl _) (by unfold maxLen; omega) (by simp)
    have HB := Lib.hid hb
    clear ho ho' hb hc
    go_enter Tryz.func62, Tryz.ntmps62
    go_wp2_with (at_builtin; refine wpList_append_own _ rfl _ _ 52 rfl w.heap.size 3 i0 (.int .i64 0) 1 8 Tryz.underlying52 hi0 hz0 hz1 hz2 rfl (by decide) _ _ _ rfl hmade ⟨g, 0, none⟩ path.length c (path.map (Value.int .i64)) rfl (by simp) (fun j u hu => by rw [add_mid, Nat.zero_add]; exact hnews j u hu) (by intro u hu; simp at hu; obtain ⟨x, _, rfl⟩ := hu; rfl) (by unfold maxLen; omega) (by omega) (by simp) ?_)
    intro v' w2 hown' hgrow _
    obtain ⟨vA, vc, rfl, _⟩ := own_form hown'
    have HB2 : Hid (Below w.heap.size w w2) := HB.out.grown hgrow HB.out.size (fun k hk => by simp only [Value.ownBlock, Option.some.injEq] at hk; subst hk; exact Nat.le_refl _)
    clear hown' hgrow hmade hnews
    go_wp2
    go_ret
    exact ⟨vA, vc, by simp, HB2.out⟩
theorem Tryz.infoMarkP : (Tryz.prog.info? 96).map (fun i => (i.zero, i.size, i.bytes)) = some (some (.agg #[.slice none 0 0, .int .i64 0, .int .i64 0]), 3, 40) := by kernel_rfl
/-- A mark more, in a region that draws its order. -/
theorem step_mark_append {ops : Array Oper} {o : Oper} {a : Act} {K : Act → World → Prop} {Q : Exit → Act → World → Prop} {E : Prop} (w : World) (hgd : o.guard = none) (s x : Operand)
    (ho : o.op = .call { callee := .builtin .append, args := #[s, x], argTypes := #[42, 42] })
    (base : Nat) (v : Value) (n : Nat) (ms : List Value) (hs : a.eval s = v) (hown : w.ownsRow base 96 3 v n ms)
    (Bk c : Nat) (A : Option Addr) (k l : Nat) (x1 x2 : Int) (hx : a.eval x = .slice (some ⟨Bk, 0, none⟩) 1 c) (hblk : w.heap[Bk]? = some (.cells #[.slice A k l, .int .i64 x1, .int .i64 x2] 96 (0, 0)))
    (hfew : n ≤ 1000000) (hbase : base ≤ w.heap.size)
    (h : ∀ g cap w', w'.ownsRow base 96 3 (.slice (some ⟨g, 0, none⟩) (n + 1) cap) (n + 1) (ms ++ [.slice A k l, .int .i64 x1, .int .i64 x2]) → w.grownBy w' v.ownBlock → K (a.put o.dst (.slice (some ⟨g, 0, none⟩) (n + 1) cap)) w') :
    if Region.wanted o (yielded ops a.tmps) = true then Oper.wp Tryz.prog o a w K Q else E := by
  obtain ⟨i0, hi, hz0, hz1, hz2⟩ := info_parts Tryz.infoMarkP
  refine step_append_lies w hgd s x _ ho base 96 i0 _ 3 40 Tryz.underlying42 hi hz0 hz1 hz2 rfl (by omega) v n ms hs hown ⟨Bk, 0, none⟩ 1 c [.slice A k l, .int .i64 x1, .int .i64 x2] hx rfl
    (fun j u hu => World.news_of_block hblk j u (by simpa using hu)) (by simp [Value.oneCell']) (by omega) (by unfold maxLen; omega) (by omega) hbase _ rfl ?_
  intro g cap w' hown' hgr hat hlt
  exact h g cap w' hown' hgr
/-- What a way does with a node of its kind. -/
def WayC (w0 : World) (b m d : Nat) (t : Tree) (f : FuncId) : Prop := ∀ (A : Option Addr) (c : Nat) (wS w : World) (lo hi : Nat) (path : List Int) (txt p : Bytes) (z : Nat), NodeIs w0 t t.kind (sb t.text) t.num A t.kids.length c →
  path.length + 1 ≤ lo → St w0 wS w b lo hi path d m txt (printT d t ++ p) (szL t.kids + z) →
  Calls Tryz.prog f #[.pointer (some ⟨b, 0, none⟩), .agg #[.int .u8 t.kind, .string (sb t.text), .int .i64 t.num, .slice A t.kids.length c]] w (fun e w' => e = .returned (.tuple #[]) ∧ St w0 wS w' b lo hi path d m (txt ++ printT d t) p z)
theorem MapIs.drew1 {w : World} {b : Nat} {l : List (Nat × Value)} (h : MapIs w b l) : MapIs w.drew b l := h
theorem zero_way (w : World) : (zeroValue 90).run Tryz.prog w = .ok .nilFunc w := by kernel_rfl
/-- The end of a mark, written. -/
theorem St.mark_to {w0 wS w : World} {b lo hi : Nat} {path : List Int} {d m : Nat} {txt p : Bytes} {z : Nat} (h : St w0 wS w b lo hi path d m txt p z) {k : Nat} (hk : k < lo) : ∃ g n c, w.cell? ⟨b, 2, none⟩ = some (.slice (some ⟨g, 0, none⟩) n c) ∧ k < n ∧ n ≤ 1000000 ∧ (∃ y, w.cell? ⟨g, k * 3 + 2, none⟩ = some y) ∧ w.frozen? ⟨g, k * 3 + 2, none⟩ = false ∧
    (∀ x : Int, St w0 wS (w.setCell ⟨g, k * 3 + 2, none⟩ (.int .i64 x)) b lo hi path d m txt p z) := by
  have hbase := h.base
  obtain ⟨nm, h1, h2, u, bv, mv, pv, hP⟩ := h.prt
  obtain ⟨ms, hms⟩ := hP.marks
  have hnm : nm ≤ 1000000 := by have := h.few; omega
  have hM := hms
  rcases hms.2 with ⟨e1, e2⟩ | ⟨g, cap, cur, hv, hb, hh, k1, k2, k3, k4⟩
  · omega
  · subst hv
    have hj : k * 3 + 2 < nm * 3 := by omega
    have hat := hM.cellAt (k * 3 + 2) hj
    have hlen : k * 3 + 2 < ms.length := by rw [hM.1]; exact hj
    have hne : ∀ {e : TypeId} {size : Nat} {v : Value} {n : Nat} {xs : List Value}, w.ownsRow w0.heap.size e size v n xs → 96 ≠ e → v.ownBlock ≠ some g := fun ho he hg => own_blocks hM ho he (k := g) rfl hg
    have hgb : g ≠ b := by
      rintro rfl
      have hx := hP.box
      unfold PBox at hx
      rw [hh] at hx
      injection hx with hx
      injection hx with _ ht
      revert ht
      decide
    refine ⟨g, nm, cap, hP.box.cells.2.2.1, by omega, hnm, ⟨_, hat.trans (List.getElem?_eq_getElem hlen)⟩, hM.frozenAt _, fun x => ?_⟩
    have hf : Fr PTs w0.heap.size b w (w.setCell ⟨g, k * 3 + 2, none⟩ (.int .i64 x)) := (Fr.refl _ _ _ _).setSoft hb ⟨cur, _, _, hh, by decide⟩ ((Fr.refl PTs w0.heap.size b w).not_soft ⟨cur, _, _, hh, by decide⟩) _ _
    refine ⟨h.below.trans hf.below, ⟨nm, h1, h2, u, bv, _, pv, ⟨hP.le, ?_, hP.own, own_set hP.bytes (hne hP.bytes (by decide)) _, ⟨_, (hM.stored (k * 3 + 2) _).1⟩, own_set hP.path (hne hP.path (by decide)) _, ?_⟩⟩, h.room, h.few, h.fr.trans hf⟩
    · unfold PBox
      rw [Below.heap_setCell _ _ _ _ (by exact Ne.symm hgb)]
      exact hP.box
    · exact hP.map.setCell hh _ _
theorem PrtSt.same {w w' : World} {B b : Nat} {u bv mv pv : Value} {s : Bytes} {nm : Nat} {path : List Int} {d m : Nat} (h : PrtSt w B b u bv mv pv s nm path d m) (e : w'.heap = w.heap) : PrtSt w' B b u bv mv pv s nm path d m := by
  obtain ⟨h1, h2, h3, h4, ⟨ms, h5⟩, h6, h7⟩ := h
  exact ⟨h1, by unfold PBox at h2 ⊢; rw [e]; exact h2, h3, by unfold World.ownsRow at h4 ⊢; rw [e]; exact h4, ⟨ms, by unfold World.ownsRow at h5 ⊢; rw [e]; exact h5⟩, by unfold World.ownsRow at h6 ⊢; rw [e]; exact h6, by unfold MapIs at h7 ⊢; rw [e]; exact h7⟩
theorem p_clone_at {w w' : World} {B b : Nat} {u bv mv pv : Value} {s : Bytes} {nm : Nat} {path : List Int} {d m : Nat} (h : PrtSt w B b u bv mv pv s nm path d m) (e : w'.heap = w.heap) (hl : path.length ≤ 1000000) :
    Calls Tryz.prog 62 #[pv] w' (ClonePost path.length w') := p_clone_path (h.same e).path hl
theorem p_len_at {w w' : World} {B b : Nat} {u bv mv pv : Value} {s : Bytes} {nm : Nat} {path : List Int} {d m : Nat} (h : PrtSt w B b u bv mv pv s nm path d m) (e : w'.heap = w.heap) :
    Calls Tryz.prog 63 #[.pointer (some ⟨b, 0, none⟩)] w' (fun e w'' => e = .returned (.int .i64 s.length) ∧ w' = w'') := (p_len ⟨_, _, _, _, h.same e⟩).mono fun _ _ h => ⟨h.1, h.2.symm⟩
/-- Behind the clone of the path. -/
theorem node_clone {w w1 W : World} {N : Obj} {B b : Nat} {u bv mv pv : Value} {s : Bytes} {nm : Nat} {path : List Int} {d m : Nat} (h : PrtSt w B b u bv mv pv s nm path d m) (e : Below (w.alloc N).heap.size (w.alloc N) W) (hb : Below W.heap.size W w1) :
    Hid (Below (w.alloc N).heap.size (w.alloc N) w1) ∧ Hid (PrtSt w1 B b u bv mv pv s nm path d m) ∧ w1.cell? ⟨b, 2, none⟩ = some mv ∧ (∀ o, (w1.alloc o).cell? ⟨b, 2, none⟩ = some mv) ∧ Hid (B ≤ w1.heap.size) := by
  have hB : Below (w.alloc N).heap.size (w.alloc N) w1 := e.trans (hb.mono e.size)
  have h1 := (h.below ((Below.refl _ _).alloc (Nat.le_refl _) N)).below hB
  have c2 := h1.box.cells.2.2.1
  exact ⟨hB, h1, c2, fun o => (World.cell?_alloc_lt w1 o ⟨b, 2, none⟩ (by exact h1.lt)).trans c2, h1.base⟩
theorem node_enter {w0 wS w w1 w2 : World} {b lo hi nm : Nat} {path : List Int} {d m : Nat} {txt p : Bytes} {z : Nat} {u bv mv pv : Value} {N M : Obj} {v' : Value} {ms ms' : List Value} (h : St w0 wS w b lo hi path d m txt p (1 + z)) (q1 : lo ≤ nm) (q2 : nm + (1 + z) ≤ hi) (hP : PrtSt w w0.heap.size b u bv mv pv txt nm path d m) (hms : w.ownsRow w0.heap.size 96 3 mv nm ms) {x0 x1 x2 x3 : Value} (hN : N = .cells #[x0, x1, x2, x3] 25)
    (hb : Below (w.alloc N).heap.size (w.alloc N) w1) (hg : (w1.alloc M).grownBy w2 mv.ownBlock) (ho : w2.ownsRow w0.heap.size 96 3 v' (nm + 1) ms') :
    St w0 wS (w2.setCell ⟨b, 2, none⟩ v') b (nm + 1) hi path d m txt p z ∧ w2.frozen? ⟨b, 2, none⟩ = false ∧ (∃ y, w2.cell? ⟨b, 2, none⟩ = some y) ∧
    ((w2.setCell ⟨b, 2, none⟩ v').cell? ⟨w.heap.size, 0, none⟩ = some x0 ∧ (w2.setCell ⟨b, 2, none⟩ v').cell? ⟨w.heap.size, 1, none⟩ = some x1 ∧ (w2.setCell ⟨b, 2, none⟩ v').cell? ⟨w.heap.size, 2, none⟩ = some x2 ∧ (w2.setCell ⟨b, 2, none⟩ v').cell? ⟨w.heap.size, 3, none⟩ = some x3) := by
  subst hN
  have hbb : Below w.heap.size w (w1.alloc M) := (((Below.refl _ _).alloc (Nat.le_refl _) _).trans (hb.mono (by simp))).alloc (by have := hb.size; simp at this; omega) _
  have hP2 := hP.below hbb
  obtain ⟨k1, k2, k3⟩ := hP2.put_marks (own_below hms hbb (Nat.le_refl _)) hg ho
  have hf : Fr PTs w0.heap.size b w (w2.setCell ⟨b, 2, none⟩ v') := (fr_of_below h.base hbb).trans k2
  refine ⟨⟨h.below.trans hf.below, ⟨nm + 1, by omega, by omega, _, _, _, _, k1⟩, h.room, h.few, h.fr.trans hf⟩, k3.soft 2, ⟨_, k3.cells.2.2.1⟩, ?_⟩
  have h0 : (w1.alloc M).heap[w.heap.size]? = some (.cells #[x0, x1, x2, x3] 25 (0, 0)) := (heap_alloc_old _ _ (by have := hb.size; simp at this; omega)).trans ((hb.block _ (by simp)).trans (heap_alloc_new _ _))
  refine cells4 (T := 25) ?_
  rw [k2.keep w.heap.size (by have := hb.size; simp at this; simp; omega) (by have := hP.lt; omega) (node_not_soft h0), h0]
theorem St.ways_cell {w0 wS w : World} {b lo hi : Nat} {path : List Int} {d m : Nat} {txt p : Bytes} {z : Nat} (h : St w0 wS w b lo hi path d m txt p z) : w.cell? ⟨b, 5, none⟩ = some (.map (some m)) ∧ MapIs w m waysL := by
  obtain ⟨nm, h1, h2, u, bv, mv, pv, hP⟩ := h.prt
  exact ⟨hP.box.cells.2.2.2.2.2, hP.map⟩
set_option maxHeartbeats 4000000 in
set_option maxRecDepth 100000 in
theorem p_node {w0 : World} {b m d : Nat} {t : Tree} {f : FuncId} (hf : waysL.lookup t.kind = some (.func (.func f) #[] #[])) (hcf : ∀ (args : Array Value) (w : World), (callFunc f args).run Tryz.prog w = .ok (.enter f args) w) (hW : WayC w0 b m d t f) : NodeC w0 b m d t := by
  intro A c wS w lo hi path txt p z hN hp h
  have HH := Lib.hid (h.eq rfl rfl (z' := 1 + (szL t.kids + z)) (by cases t; simp [Tree.sz, Tree.kids]; omega))
  have HW := Lib.hid hW
  have HN := Lib.hid hN
  obtain ⟨nm, q1, q2, u, bv, mv, pv, hP⟩ := HH.out.prt
  have hlo := h.lo_le
  have hlen : path.length ≤ 1000000 := by omega
  have hfew : nm ≤ 1000000 := by have := h.few; omega
  have hb0 := h.base
  obtain ⟨ms, hms⟩ := hP.marks
  obtain ⟨mA, mc, rfl, hmc⟩ := own_form hms
  obtain ⟨pA, pc, rfl, hpc⟩ := own_form hP.path
  have HP := Lib.hid hP
  have HMS := Lib.hid hms
  have HQ := Lib.hid (And.intro q1 q2)
  obtain ⟨N, hNd⟩ : ∃ N : Obj, N = .cells #[.int .u8 t.kind, .string (sb t.text), .int .i64 t.num, .slice A t.kids.length c] 25 := ⟨_, rfl⟩
  have hP1 := hP.below ((Below.refl _ _).alloc (Nat.le_refl _) N)
  have HP1 := Lib.hid hP1
  have c2 := hP1.box.cells.2.2.1
  have c3 := hP1.box.cells.2.2.2.1
  have hlt := hP.lt
  have hcl := fun (w1 : World) (W : World) (e : Below (w.alloc N).heap.size (w.alloc N) W) (hb : Below W.heap.size W w1) => node_clone hP e hb
  have HCL := Lib.hid hcl
  subst hNd
  clear h hN hP hms q1 q2 hP1 hW hcl
  go_enter Tryz.func23, Tryz.ntmps23
  go_upto_region 2 with fail
  go_cut [] (fun wx => Hid (St w0 wS wx b (nm + 1) hi path d m txt (printT d t ++ p) (szL t.kids + z)) ∧ wx.cell? ⟨w.heap.size, 0, none⟩ = some (.int .u8 t.kind) ∧ wx.cell? ⟨w.heap.size, 1, none⟩ = some (.string (sb t.text)) ∧ wx.cell? ⟨w.heap.size, 2, none⟩ = some (.int .i64 t.num) ∧ wx.cell? ⟨w.heap.size, 3, none⟩ = some (.slice A t.kids.length c))
  case first =>
    --{
    go_region_law (first
      | (refine step_mark_append _ (by rfl) _ _ (by rfl) w0.heap.size _ nm ms (by rfl) (own_below HMS.out (((Below.refl _ _).alloc (Nat.le_refl _) _).trans (HB1.out.mono (by simp))) (Nat.le_refl _) |>.alloc _) w1.heap.size 1 cA path.length cK txt.length 0 (by rfl) (heap_alloc_at (by simp)) hfew (by have := HS1.out; simp; omega) ?_; intro g cap w2 hown2 hgr2; obtain ⟨hS2, g1, ⟨y, g2⟩, y0, y1, y2, y3⟩ := node_enter HH.out HQ.out.1 HQ.out.2 HP.out HMS.out rfl HB1.out hgr2 hown2)
      | (go_simp; go_at_call 62; refine (p_clone_at HP1.out (by rfl) hlen).mono ?_; rintro e w1 ⟨cA, cK, rfl, hb⟩; obtain ⟨HB1, HPb, k2, k2a, HS1⟩ := HCL.out w1 _ (by exact (Below.refl _ _).drew) hb; clear hb)
      | (go_simp; go_at_call 63; refine (p_len_at HPb.out (by rfl)).mono ?_; rintro e w9 ⟨rfl, rfl⟩)
      | (go_simp; go_at_call 63; refine (p_len_at HP1.out (by rfl)).mono ?_; rintro e w9 ⟨rfl, rfl⟩))
    all_goals
      go_wp2_with fail
      go_meet
      case rel => exact ⟨hS2, y0, y1, y2, y3⟩
    --}
  case rest =>
    obtain ⟨HS2, y0, y1, y2, y3⟩ := hcut
    obtain ⟨k5, hM⟩ := HS2.out.ways_cell
    have hlook := hM.drew1.look Tryz.underlying53 Tryz.underlying22 t.kind (zero_way _) false
    simp only [hf, Option.getD_some, Bool.false_eq_true, if_false] at hlook
    have hlo1 : path.length + 1 ≤ nm + 1 := by have := HQ.out.1; omega
    clear c2 c3 hM
    go_upto_region 3 with fail
    go_cut [] (fun wy => Hid (St w0 wS wy b (nm + 1) hi path d m (txt ++ printT d t) p z))
    case first =>
      --{
      go_region_law (go_simp; refine (HW.out A c wS _ (nm + 1) hi path txt p z HN.out hlo1 (HS2.out.bel (by exact (Below.refl _ _).drew))).mono ?_; rintro e w3 ⟨rfl, h3⟩)
      all_goals
        go_wp2_with fail
        go_meet
        case rel => exact h3
      --}
    case rest =>
      obtain ⟨g, n, cc, e1, e2, e3, ⟨y, e4⟩, e5, hS⟩ := hcut.out.mark_to (k := nm) (Nat.lt_succ_self nm)
      obtain ⟨nm2, r1, r2, u2, bv2, mv2, pv2, hP2⟩ := hcut.out.prt
      have HP2 := Lib.hid hP2
      have HS := Lib.hid hS
      have e4' : wc.cell? ⟨g, nm * 3 + 1 + 1, none⟩ = some y := e4
      have e5' : wc.frozen? ⟨g, nm * 3 + 1 + 1, none⟩ = false := e5
      clear hP2 hS y0 y1 y2 y3 k5 hlook
      go_wp2_with fail
      go_region_law (go_simp; go_at_call 63; refine (p_len_at HP2.out (by rfl)).mono ?_; rintro e w9 ⟨rfl, rfl⟩)
      all_goals
        go_end0
        exact ⟨rfl, ((HS.out _).bel (Below.refl _ _).drew).weak (by have := HQ.out.1; omega)⟩
end Go.Proofs.YtjdofndkdkeapaaGreatDoor
