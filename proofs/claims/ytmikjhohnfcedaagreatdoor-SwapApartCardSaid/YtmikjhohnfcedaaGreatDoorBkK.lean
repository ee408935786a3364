/- The walk over past's closure for Move.
   The walk over swap.past: a map of closures.
   The walk over edit.Invert (chapter 14), at a move. -/
import Derived.Test.YtmikjhohnfcedaaGreatDoorBkJ
import Derived.Deep.RegionHeld3
import Derived.Deep.RegionLaw
import Derived.Deep.AppendLies
import Derived.Test.YtmikjhohnfcedaaGreatDoorBkA
import Derived.Test.YtmikjhohnfcedaaGreatDoorBkH
namespace Go.Proofs.YtmikjhohnfcedaaGreatDoor
set_option linter.unusedSimpArgs false
set_option linter.unusedVariables false
open Go.RowKit
set_option linter.unusedSimpArgs false

theorem Tryz.infoInt : (Tryz.prog.info? 3).map (fun i => (i.zero, i.size, i.bytes)) = some (some (.int .i64 0), 1, 8) := by kernel_rfl
/-- append(out, i) in a region that draws its order. -/
theorem step_int_append {ops : Array Oper} {o : Oper} {a : Act} {K : Act → World → Prop} {Q : Exit → Act → World → Prop} {E : Prop} (w : World) (hgd : o.guard = none) (s x : Operand)
    (ho : o.op = .call { callee := .builtin .append, args := #[s, x], argTypes := #[23, 23] })
    (base : Nat) (v : Value) (zs : List Int) (hs : a.eval s = v) (hown : w.ownsRow base 3 1 v zs.length (zs.map (Value.int .i64)))
    (Bk c : Nat) (i : Int) (hx : a.eval x = .slice (some ⟨Bk, 0, none⟩) 1 c) (hblk : w.heap[Bk]? = some (.cells #[.int .i64 i] 3 (0, 0)))
    (hfew : zs.length ≤ 17592186044000) (hbase : base ≤ w.heap.size)
    (h : ∀ g cap w', w'.ownsRow base 3 1 (.slice (some ⟨g, 0, none⟩) (zs.length + 1) cap) (zs ++ [i]).length ((zs ++ [i]).map (Value.int .i64)) → w.grownBy w' v.ownBlock → K (a.put o.dst (.slice (some ⟨g, 0, none⟩) (zs.length + 1) cap)) w') :
    if Region.wanted o (yielded ops a.tmps) = true then Oper.wp Tryz.prog o a w K Q else E := by
  obtain ⟨i0, hi, hz0, hz1, hz2⟩ := info_parts Tryz.infoInt
  refine step_append_lies w hgd s x _ ho base 3 i0 _ 1 8 Tryz.underlying23 hi hz0 hz1 hz2 rfl (by omega) v zs.length (zs.map (Value.int .i64)) hs hown ⟨Bk, 0, none⟩ 1 c [.int .i64 i] hx rfl
    (fun j u hu => World.news_of_block hblk j u (by simpa using hu)) (by simp [Value.oneCell']) (by omega) (by unfold maxLen; omega) (by omega) hbase _ rfl ?_
  intro g cap w' hown' hgr hat hlt
  refine h g cap w' ?_ hgr
  rw [List.map_append, List.length_append]
  exact hown'
/-- What is known behind the clone. -/
theorem after_clone5 {w W w1 : World} {xs ps zs : List Int} {b b' : Nat} {A : Option Addr} {n c : Nat} {k : Nat} {pA : Option Addr} {pn pc : Nat} {i j : Int} {x4 x5 x6 x7 : Value} {v : Value} {m : Nat} (h : PastEnv w xs ps b b' A n c k pA pn pc i j x4 x5 x6 x7) (hW : Below w.heap.size w W) (hb : Below W.heap.size W w1) (ho : w1.ownsRow W.heap.size 3 1 v m (zs.map (Value.int .i64))) :
    w1.cell? ⟨b, 2, none⟩ = some (.int .i64 i) ∧ Hid (Below w.heap.size w w1) ∧ w1.ownsRow w.heap.size 3 1 v m (zs.map (Value.int .i64)) := by
  have hb' : Below w.heap.size w w1 := bthen hW hb
  have h' := h.below hb'
  exact ⟨h'.box.2.2.1, hb', own_mono ho hW.size⟩
/-- The row and what was there, behind the append. -/
theorem after_app {w W w2 : World} {zs : List Int} {A : Option Addr} {c g cap : Nat} {i : Int} (hW : Below w.heap.size w W) (ho : W.ownsRow w.heap.size 3 1 (.slice A zs.length c) zs.length (zs.map (Value.int .i64)))
    (hown : w2.ownsRow w.heap.size 3 1 (.slice (some ⟨g, 0, none⟩) (zs.length + 1) cap) (zs ++ [i]).length ((zs ++ [i]).map (Value.int .i64))) (hgr : W.grownBy w2 (Value.slice A zs.length c).ownBlock) : Hid (Below w.heap.size w w2) ∧ Hid (IntsAt w2 (zs ++ [i]) (some ⟨g, 0, none⟩) (zs.length + 1) cap) := by
  refine ⟨hW.grown hgr hW.size (fun k hk => (ho.lt k hk).1), ?_⟩
  have e : (zs ++ [i]).length = zs.length + 1 := by simp
  obtain ⟨A', c', e', h3⟩ := IntsAt.own (v := .slice (some ⟨g, 0, none⟩) (zs.length + 1) cap) hown
  rw [e] at e' h3
  injection e' with e1 e2 e3
  rw [e1, e3]
  exact h3
theorem after_moved {w w1 : World} {d : Nat} {xs ps : List Int} {b b' : Nat} {A : Option Addr} {n c : Nat} {k : Nat} {pA : Option Addr} {pn pc : Nat} {i j : Int} {x4 x5 x6 x7 : Value} (h : PastEnv w xs ps b b' A n c k pA pn pc i j x4 x5 x6 x7) (hb : Below (w.drewN d).heap.size (w.drewN d) w1) :
    w1.cell? ⟨b', 0, none⟩ = some (.slice A n c) ∧ w1.cell? ⟨b, 1, none⟩ = some (.slice pA pn pc) ∧ w1.cell? ⟨b, 2, none⟩ = some (.int .i64 i) ∧ w1.cell? ⟨b, 3, none⟩ = some (.int .i64 j) ∧ Hid (Below w.heap.size w w1) := by
  have hb' : Below w.heap.size w w1 := (below_drews (Below.refl _ _) d).trans hb
  have h' := h.below hb'
  exact ⟨h'.way, h'.box.2.1, h'.box.2.2.1, h'.box.2.2.2.1, hb'⟩
set_option maxRecDepth 20000 in
set_option maxHeartbeats 4000000 in
theorem p_past5 {w : World} {xs ps : List Int} {b b' : Nat} {A : Option Addr} {n c : Nat} {k : Nat} {pA : Option Addr} {pn pc : Nat} {i j : Int} {x4 x5 x6 x7 : Value} (h : PastEnv w xs ps b b' A n c k pA pn pc i j x4 x5 x6 x7) :
    Calls Tryz.prog 54 #[.pointer (some ⟨b, 0, none⟩), .pointer (some ⟨b', 0, none⟩)] w (MaybeInts (if underB xs (ps ++ [i]) then none else some (movedL xs ps i j)) w) := by
  have H := Lib.hid h
  have hw := h.way
  obtain ⟨c0, c1, c2, c3, c4, c5, c6, c7⟩ := h.box
  have hps : ps.length ≤ 17592186044000 := by rw [← h.hp.1]; exact h.hm
  have hq1 := fun o => (World.cell?_alloc_lt w o ⟨b, 1, none⟩ (cell_lt c1)).trans c1
  have hblt : b < w.heap.size := cell_lt c1
  clear h
  generalize hu : underB xs (ps ++ [i]) = u
  have HU := Lib.hid hu
  clear hu
  generalize hr : (if u = true then none else some (movedL xs ps i j)) = r
  have HR := Lib.hid hr
  clear hr
  go_enter Tryz.func54, Tryz.ntmps54
  go_wp2_with fail
  go_region_law (first
    | (refine step_int_append _ (by rfl) _ _ (by rfl) w.heap.size _ ps (by rfl) (ho.alloc _) w1.heap.size 1 i (by rfl) (heap_alloc_at (by simp)) hps (by have := HB1.out.size; simp; omega) ?_; intro g cap w2 hown2 hgr2; obtain ⟨HB2, HI2⟩ := after_app (HB1.out.alloc HB1.out.size _) (ho.alloc _) hown2 hgr2)
    | (refine step_int_append _ (by rfl) _ _ (by rfl) w.heap.size _ ps (by rfl) ho w.heap.size 1 i (by rfl) hbk hps HB1.out.size ?_; intro g cap w2 hown2 hgr2; obtain ⟨HB2, HI2⟩ := after_app HB1.out ho hown2 hgr2)
    | (go_simp; go_at_call 44; refine (p_clone_ints ps _ _ _ (w.drewN 1) (H.out.hp.drewN 1) (by have := H.out.hm; omega)).mono ?_; rintro e w1 ⟨A1, k1, rfl, ho', hb⟩; obtain ⟨hd2, HB1, ho⟩ := after_clone5 H.out (below_drews (Below.refl _ _) 1) hb ho'; have hz2 := fun o => (World.cell?_alloc_lt w1 o ⟨b, 2, none⟩ (cell_lt hd2)).trans hd2; clear ho' hb)
    | (go_simp; go_at_call 44; refine (p_clone_ints ps _ _ _ ((w.alloc (.cells #[.int .i64 i] 3)).drewN 1) ((H.out.hp.below ((Below.refl _ _).alloc (Nat.le_refl _) _)).drewN 1) (by have := H.out.hm; omega)).mono ?_; rintro e w1 ⟨A1, k1, rfl, ho', hb⟩; have hbk : w1.heap[w.heap.size]? = some (.cells #[.int .i64 i] 3 (0, 0)) := (hb.block _ (by simp)).trans (heap_alloc_new _ _); obtain ⟨hd2, HB1, ho⟩ := after_clone5 H.out (below_drews ((Below.refl _ _).alloc (Nat.le_refl _) _) 1) hb ho'; clear ho' hb))
  all_goals
    have H2 := Lib.hid (H.out.below HB2.out)
    have HB2' := HB2
    have y0 := H2.out.way
    have y1 := H2.out.box.2.1
    have y2 := H2.out.box.2.2.1
    have y3 := H2.out.box.2.2.2.1
    clear ho hown2 hgr2 hd2 hq1
    go_wp2_with fail
    go_region_held3 (fun w' => w'.cell? ⟨b', 0, none⟩ = some (.slice A n c) ∧ w'.cell? ⟨b, 1, none⟩ = some (.slice pA pn pc) ∧ w'.cell? ⟨b, 2, none⟩ = some (.int .i64 i) ∧ w'.cell? ⟨b, 3, none⟩ = some (.int .i64 j)) (first | exact ⟨y0, y1, y2, y3⟩ | exact ⟨z0, z1, z2, z3⟩ | go_keep)
      (first
        | (go_at_call 55; refine (p_moved xs ps i j _ _ _ _ _ _ _ (H2.out.hx.drewN 1) (H2.out.hp.drewN 1) H2.out.hn (by have := H2.out.hm; omega) H2.out.few).mono ?_; rintro e w3 ⟨A3, k3, rfl, ho3, hb3⟩; obtain ⟨z0, z1, z2, z3, HB3⟩ := after_moved H2.out hb3)
        | (go_at_call 53; refine (p_under xs (ps ++ [i]) _ _ _ _ _ _ _ (H2.out.hx.below HB3.out) (HI2.out.below HB3.out)).mono ?_; rintro e w4 ⟨rfl, q, rfl⟩))
    have HB4 := Lib.hid (bthen HB2.out HB3.out)
    have HO4 := Lib.hid (own_mono (own_below ho3 (below_drews (Below.refl _ _) q) (Nat.le_refl _)) HB2.out.size)
    clear ho3 hb3
    rw [HU.out]
    cases u
    · go_wp2_with fail
      go_ret2
      rw [← HR.out]
      exact MaybeInts.yes rfl rfl HO4.out (below_drews HB4.out q)
    · go_wp2_with fail
      go_ret2
      rw [← HR.out]
      exact MaybeInts.no rfl (below_drews HB4.out q)
end Go.Proofs.YtmikjhohnfcedaaGreatDoor

namespace Go.Proofs.YtmikjhohnfcedaaGreatDoor
set_option linter.unusedSimpArgs false
set_option linter.unusedVariables false
open Go.RowKit
set_option linter.unusedSimpArgs false

theorem enter_past1 (args : Array Value) (w : World) : (callFunc 47 args).run Tryz.prog w = .ok (.enter 47 args) w := run_enter Tryz.func47 (by kernel_rfl) (by kernel_rfl) args w
theorem enter_past2 (args : Array Value) (w : World) : (callFunc 48 args).run Tryz.prog w = .ok (.enter 48 args) w := run_enter Tryz.func48 (by kernel_rfl) (by kernel_rfl) args w
theorem enter_past3 (args : Array Value) (w : World) : (callFunc 50 args).run Tryz.prog w = .ok (.enter 50 args) w := run_enter Tryz.func50 (by kernel_rfl) (by kernel_rfl) args w
theorem enter_past4 (args : Array Value) (w : World) : (callFunc 52 args).run Tryz.prog w = .ok (.enter 52 args) w := run_enter Tryz.func52 (by kernel_rfl) (by kernel_rfl) args w
theorem enter_past5 (args : Array Value) (w : World) : (callFunc 54 args).run Tryz.prog w = .ok (.enter 54 args) w := run_enter Tryz.func54 (by kernel_rfl) (by kernel_rfl) args w
theorem MaybeInts.form {o : Option (List Int)} {w w' : World} {e : Ending} (h : MaybeInts o w e w') : ∃ A n c ok, e = .returned (.tuple #[.slice A n c, .bool ok]) ∧ Hid (MaybeInts o w (.returned (.tuple #[.slice A n c, .bool ok])) w') := by
  cases o with
  | none => obtain ⟨A, n, c, rfl, hb⟩ := h; exact ⟨A, n, c, false, rfl, ⟨A, n, c, rfl, hb⟩⟩
  | some zs => obtain ⟨A, c, rfl, ho, hb⟩ := h; exact ⟨A, zs.length, c, true, rfl, ⟨A, c, rfl, ho, hb⟩⟩
theorem MaybeInts.lift {o : Option (List Int)} {w w1 w' : World} {e : Ending} (hb : Below w.heap.size w w1) (h : MaybeInts o w1 e w') : MaybeInts o w e w' := by
  cases o with
  | none => obtain ⟨A, n, c, rfl, hb'⟩ := h; exact ⟨A, n, c, rfl, bthen hb hb'⟩
  | some zs => obtain ⟨A, c, rfl, ho, hb'⟩ := h; exact ⟨A, c, rfl, own_mono ho hb.size, bthen hb hb'⟩
/-- The map of the closures, made step by step. -/
theorem past_map {w W0 : World} {M : Nat} (hM : W0.heap.size = M) (hb0 : Below w.heap.size w W0) (f2 f3 f4 f5 : Value) :
    ∃ W2 W3 W4 W5, (Instr.mapUpdate 78 (.map (some M)) (.int .u8 2) f2).run Tryz.prog (W0.alloc (.map #[] 0)) = .ok () W2 ∧
      (Instr.mapUpdate 78 (.map (some M)) (.int .u8 3) f3).run Tryz.prog W2 = .ok () W3 ∧
      (Instr.mapUpdate 78 (.map (some M)) (.int .u8 4) f4).run Tryz.prog W3 = .ok () W4 ∧
      (Instr.mapUpdate 78 (.map (some M)) (.int .u8 5) f5).run Tryz.prog W4 = .ok () W5 ∧
      MapIs W5 M [(2, f2), (3, f3), (4, f4), (5, f5)] ∧ Below W0.heap.size W0 W5 := by
  have h1 := MapIs.made W0
  rw [hM] at h1
  obtain ⟨W2, r2, h2, g2⟩ := h1.insert Tryz.underlying78 Tryz.underlying22 (k := 2) f2 rfl
  obtain ⟨W3, r3, h3, g3⟩ := h2.insert Tryz.underlying78 Tryz.underlying22 (k := 3) f3 rfl
  obtain ⟨W4, r4, h4, g4⟩ := h3.insert Tryz.underlying78 Tryz.underlying22 (k := 4) f4 rfl
  obtain ⟨W5, r5, h5, g5⟩ := h4.insert Tryz.underlying78 Tryz.underlying22 (k := 5) f5 rfl
  have b1 : Below W0.heap.size W0 (W0.alloc (.map #[] 0)) := (Below.refl _ _).alloc (Nat.le_refl _) _
  have b2 := b1.grown g2 b1.size (fun k hk => by injection hk with hk; omega)
  have b3 := b2.grown g3 b2.size (fun k hk => by injection hk with hk; omega)
  have b4 := b3.grown g4 b3.size (fun k hk => by injection hk with hk; omega)
  have b5 := b4.grown g5 b4.size (fun k hk => by injection hk with hk; omega)
  exact ⟨W2, W3, W4, W5, r2, r3, r4, r5, h5, b5⟩
theorem zero_fn (w : World) : (zeroValue 73).run Tryz.prog w = .ok .nilFunc w := by kernel_rfl
set_option maxRecDepth 20000 in
set_option maxHeartbeats 4000000 in
theorem p_past_2 {w : World} (xs ps : List Int) (A : Option Addr) (n c : Nat) (k : Nat) (pA : Option Addr) (pn pc : Nat) (i j : Int) (x4 x5 x6 x7 : Value) (hx : IntsAt w xs A n c) (hp : IntsAt w ps pA pn pc) (hf : Few xs) (hn : n ≤ 17592186044416) (hm : pn ≤ 17592186044000) (hk : k = 2) (r : Option (List Int)) (hr : (some (insertedL xs ps i)) = r) :
    Calls Tryz.prog 22 #[.agg #[.int .u8 k, .slice pA pn pc, .int .i64 i, .int .i64 j, x4, x5, x6, x7], .slice A n c] w (MaybeInts r w) := by
  have HRR := Lib.hid hr
  have hb0 : Below w.heap.size w ((w.alloc (.cells #[.int .u8 k, .slice pA pn pc, .int .i64 i, .int .i64 j, x4, x5, x6, x7] 26)).alloc (.cells #[.slice A n c] 23)) := ((Below.refl _ w).alloc (Nat.le_refl _) _).alloc (by simp) _
  obtain ⟨W2, W3, W4, W5, r2, r3, r4, r5, hmap, hb5⟩ := past_map (w := w) (M := w.heap.size + 1 + 1) (by simp) hb0
    (.func (.func 48) #[] #[.pointer (some ⟨w.heap.size + 1, 0, none⟩), .pointer (some ⟨w.heap.size, 0, none⟩)])
    (.func (.func 50) #[] #[.pointer (some ⟨w.heap.size + 1, 0, none⟩), .pointer (some ⟨w.heap.size, 0, none⟩)])
    (.func (.func 52) #[] #[.pointer (some ⟨w.heap.size + 1, 0, none⟩), .pointer (some ⟨w.heap.size, 0, none⟩)])
    (.func (.func 54) #[] #[.pointer (some ⟨w.heap.size, 0, none⟩), .pointer (some ⟨w.heap.size + 1, 0, none⟩)])
  have hlook := hmap.look Tryz.underlying78 Tryz.underlying22 k (zero_fn W5) true
  have hl : List.lookup k [(2, (Value.func (.func 48) #[] #[.pointer (some ⟨w.heap.size + 1, 0, none⟩), .pointer (some ⟨w.heap.size, 0, none⟩)])), (3, .func (.func 50) #[] #[.pointer (some ⟨w.heap.size + 1, 0, none⟩), .pointer (some ⟨w.heap.size, 0, none⟩)]), (4, .func (.func 52) #[] #[.pointer (some ⟨w.heap.size + 1, 0, none⟩), .pointer (some ⟨w.heap.size, 0, none⟩)]), (5, .func (.func 54) #[] #[.pointer (some ⟨w.heap.size, 0, none⟩), .pointer (some ⟨w.heap.size + 1, 0, none⟩)])] = some (.func (.func 48) #[] #[.pointer (some ⟨w.heap.size + 1, 0, none⟩), .pointer (some ⟨w.heap.size, 0, none⟩)]) := by
    rw [hk]; rfl
  rw [hl] at hlook
  simp only [if_true, Option.getD_some, Option.isSome_some, Option.getD_none, Option.isSome_none] at hlook
  have hB5 : Below w.heap.size w W5 := bthen hb0 hb5
  have hbox := (boxF8 ((hb5.block w.heap.size (by simp; omega)).trans ((heap_alloc_old _ _ (by simp)).trans (heap_alloc_new w _)))).cs
  have hway : W5.cell? ⟨w.heap.size + 1, 0, none⟩ = some (.slice A n c) := (cell_of_row _ (w.heap.size + 1) 0 _ _ (0, 0) ((hb5.block (w.heap.size + 1) (by simp)).trans (heap_alloc_at (by simp)))).trans rfl
  have HE : Hid (PastEnv W5 xs ps w.heap.size (w.heap.size + 1) A n c k pA pn pc i j x4 x5 x6 x7) := ⟨hbox, hway, hx.below hB5, hp.below hB5, hf, hn, hm⟩
  obtain ⟨c0, c1, c2, c3, c4, c5, c6, c7⟩ := hbox
  have HB5 := Lib.hid hB5
  have hmm := @run_makeMap Tryz.prog
  have hcf := enter_past2
  clear hk
  clear hmap hb5 hb0 hl hB5 hx hp hf hr
  go_enter Tryz.func22, Tryz.ntmps22
  go_wp2_with fail
  refine (p_past2 HE.out).mono ?_
  intro en w6 hm6
  rw [HRR.out] at hm6
  obtain ⟨A6, n6, c6, ok, rfl, HM⟩ := hm6.form
  clear hm6
  go_wp2_with fail
  go_ret2
  exact MaybeInts.lift HB5.out HM.out
set_option maxRecDepth 20000 in
set_option maxHeartbeats 4000000 in
theorem p_past_3 {w : World} (xs ps : List Int) (A : Option Addr) (n c : Nat) (k : Nat) (pA : Option Addr) (pn pc : Nat) (i j : Int) (x4 x5 x6 x7 : Value) (hx : IntsAt w xs A n c) (hp : IntsAt w ps pA pn pc) (hf : Few xs) (hn : n ≤ 17592186044416) (hm : pn ≤ 17592186044000) (hk : k = 3) (r : Option (List Int)) (hr : (deletedL xs ps i) = r) :
    Calls Tryz.prog 22 #[.agg #[.int .u8 k, .slice pA pn pc, .int .i64 i, .int .i64 j, x4, x5, x6, x7], .slice A n c] w (MaybeInts r w) := by
  have HRR := Lib.hid hr
  have hb0 : Below w.heap.size w ((w.alloc (.cells #[.int .u8 k, .slice pA pn pc, .int .i64 i, .int .i64 j, x4, x5, x6, x7] 26)).alloc (.cells #[.slice A n c] 23)) := ((Below.refl _ w).alloc (Nat.le_refl _) _).alloc (by simp) _
  obtain ⟨W2, W3, W4, W5, r2, r3, r4, r5, hmap, hb5⟩ := past_map (w := w) (M := w.heap.size + 1 + 1) (by simp) hb0
    (.func (.func 48) #[] #[.pointer (some ⟨w.heap.size + 1, 0, none⟩), .pointer (some ⟨w.heap.size, 0, none⟩)])
    (.func (.func 50) #[] #[.pointer (some ⟨w.heap.size + 1, 0, none⟩), .pointer (some ⟨w.heap.size, 0, none⟩)])
    (.func (.func 52) #[] #[.pointer (some ⟨w.heap.size + 1, 0, none⟩), .pointer (some ⟨w.heap.size, 0, none⟩)])
    (.func (.func 54) #[] #[.pointer (some ⟨w.heap.size, 0, none⟩), .pointer (some ⟨w.heap.size + 1, 0, none⟩)])
  have hlook := hmap.look Tryz.underlying78 Tryz.underlying22 k (zero_fn W5) true
  have hl : List.lookup k [(2, (Value.func (.func 48) #[] #[.pointer (some ⟨w.heap.size + 1, 0, none⟩), .pointer (some ⟨w.heap.size, 0, none⟩)])), (3, .func (.func 50) #[] #[.pointer (some ⟨w.heap.size + 1, 0, none⟩), .pointer (some ⟨w.heap.size, 0, none⟩)]), (4, .func (.func 52) #[] #[.pointer (some ⟨w.heap.size + 1, 0, none⟩), .pointer (some ⟨w.heap.size, 0, none⟩)]), (5, .func (.func 54) #[] #[.pointer (some ⟨w.heap.size, 0, none⟩), .pointer (some ⟨w.heap.size + 1, 0, none⟩)])] = some (.func (.func 50) #[] #[.pointer (some ⟨w.heap.size + 1, 0, none⟩), .pointer (some ⟨w.heap.size, 0, none⟩)]) := by
    rw [hk]; rfl
  rw [hl] at hlook
  simp only [if_true, Option.getD_some, Option.isSome_some, Option.getD_none, Option.isSome_none] at hlook
  have hB5 : Below w.heap.size w W5 := bthen hb0 hb5
  have hbox := (boxF8 ((hb5.block w.heap.size (by simp; omega)).trans ((heap_alloc_old _ _ (by simp)).trans (heap_alloc_new w _)))).cs
  have hway : W5.cell? ⟨w.heap.size + 1, 0, none⟩ = some (.slice A n c) := (cell_of_row _ (w.heap.size + 1) 0 _ _ (0, 0) ((hb5.block (w.heap.size + 1) (by simp)).trans (heap_alloc_at (by simp)))).trans rfl
  have HE : Hid (PastEnv W5 xs ps w.heap.size (w.heap.size + 1) A n c k pA pn pc i j x4 x5 x6 x7) := ⟨hbox, hway, hx.below hB5, hp.below hB5, hf, hn, hm⟩
  obtain ⟨c0, c1, c2, c3, c4, c5, c6, c7⟩ := hbox
  have HB5 := Lib.hid hB5
  have hmm := @run_makeMap Tryz.prog
  have hcf := enter_past3
  clear hk
  clear hmap hb5 hb0 hl hB5 hx hp hf hr
  go_enter Tryz.func22, Tryz.ntmps22
  go_wp2_with fail
  refine (p_past3 HE.out).mono ?_
  intro en w6 hm6
  rw [HRR.out] at hm6
  obtain ⟨A6, n6, c6, ok, rfl, HM⟩ := hm6.form
  clear hm6
  go_wp2_with fail
  go_ret2
  exact MaybeInts.lift HB5.out HM.out
set_option maxRecDepth 20000 in
set_option maxHeartbeats 4000000 in
theorem p_past_4 {w : World} (xs ps : List Int) (A : Option Addr) (n c : Nat) (k : Nat) (pA : Option Addr) (pn pc : Nat) (i j : Int) (x4 x5 x6 x7 : Value) (hx : IntsAt w xs A n c) (hp : IntsAt w ps pA pn pc) (hf : Few xs) (hn : n ≤ 17592186044416) (hm : pn ≤ 17592186044000) (hk : k = 4) (r : Option (List Int)) (hr : (if underB xs ps then none else some xs) = r) :
    Calls Tryz.prog 22 #[.agg #[.int .u8 k, .slice pA pn pc, .int .i64 i, .int .i64 j, x4, x5, x6, x7], .slice A n c] w (MaybeInts r w) := by
  have HRR := Lib.hid hr
  have hb0 : Below w.heap.size w ((w.alloc (.cells #[.int .u8 k, .slice pA pn pc, .int .i64 i, .int .i64 j, x4, x5, x6, x7] 26)).alloc (.cells #[.slice A n c] 23)) := ((Below.refl _ w).alloc (Nat.le_refl _) _).alloc (by simp) _
  obtain ⟨W2, W3, W4, W5, r2, r3, r4, r5, hmap, hb5⟩ := past_map (w := w) (M := w.heap.size + 1 + 1) (by simp) hb0
    (.func (.func 48) #[] #[.pointer (some ⟨w.heap.size + 1, 0, none⟩), .pointer (some ⟨w.heap.size, 0, none⟩)])
    (.func (.func 50) #[] #[.pointer (some ⟨w.heap.size + 1, 0, none⟩), .pointer (some ⟨w.heap.size, 0, none⟩)])
    (.func (.func 52) #[] #[.pointer (some ⟨w.heap.size + 1, 0, none⟩), .pointer (some ⟨w.heap.size, 0, none⟩)])
    (.func (.func 54) #[] #[.pointer (some ⟨w.heap.size, 0, none⟩), .pointer (some ⟨w.heap.size + 1, 0, none⟩)])
  have hlook := hmap.look Tryz.underlying78 Tryz.underlying22 k (zero_fn W5) true
  have hl : List.lookup k [(2, (Value.func (.func 48) #[] #[.pointer (some ⟨w.heap.size + 1, 0, none⟩), .pointer (some ⟨w.heap.size, 0, none⟩)])), (3, .func (.func 50) #[] #[.pointer (some ⟨w.heap.size + 1, 0, none⟩), .pointer (some ⟨w.heap.size, 0, none⟩)]), (4, .func (.func 52) #[] #[.pointer (some ⟨w.heap.size + 1, 0, none⟩), .pointer (some ⟨w.heap.size, 0, none⟩)]), (5, .func (.func 54) #[] #[.pointer (some ⟨w.heap.size, 0, none⟩), .pointer (some ⟨w.heap.size + 1, 0, none⟩)])] = some (.func (.func 52) #[] #[.pointer (some ⟨w.heap.size + 1, 0, none⟩), .pointer (some ⟨w.heap.size, 0, none⟩)]) := by
    rw [hk]; rfl
  rw [hl] at hlook
  simp only [if_true, Option.getD_some, Option.isSome_some, Option.getD_none, Option.isSome_none] at hlook
  have hB5 : Below w.heap.size w W5 := bthen hb0 hb5
  have hbox := (boxF8 ((hb5.block w.heap.size (by simp; omega)).trans ((heap_alloc_old _ _ (by simp)).trans (heap_alloc_new w _)))).cs
  have hway : W5.cell? ⟨w.heap.size + 1, 0, none⟩ = some (.slice A n c) := (cell_of_row _ (w.heap.size + 1) 0 _ _ (0, 0) ((hb5.block (w.heap.size + 1) (by simp)).trans (heap_alloc_at (by simp)))).trans rfl
  have HE : Hid (PastEnv W5 xs ps w.heap.size (w.heap.size + 1) A n c k pA pn pc i j x4 x5 x6 x7) := ⟨hbox, hway, hx.below hB5, hp.below hB5, hf, hn, hm⟩
  obtain ⟨c0, c1, c2, c3, c4, c5, c6, c7⟩ := hbox
  have HB5 := Lib.hid hB5
  have hmm := @run_makeMap Tryz.prog
  have hcf := enter_past4
  clear hk
  clear hmap hb5 hb0 hl hB5 hx hp hf hr
  go_enter Tryz.func22, Tryz.ntmps22
  go_wp2_with fail
  refine (p_past4 HE.out).mono ?_
  intro en w6 hm6
  rw [HRR.out] at hm6
  obtain ⟨A6, n6, c6, ok, rfl, HM⟩ := hm6.form
  clear hm6
  go_wp2_with fail
  go_ret2
  exact MaybeInts.lift HB5.out HM.out
set_option maxRecDepth 20000 in
set_option maxHeartbeats 4000000 in
theorem p_past_5 {w : World} (xs ps : List Int) (A : Option Addr) (n c : Nat) (k : Nat) (pA : Option Addr) (pn pc : Nat) (i j : Int) (x4 x5 x6 x7 : Value) (hx : IntsAt w xs A n c) (hp : IntsAt w ps pA pn pc) (hf : Few xs) (hn : n ≤ 17592186044416) (hm : pn ≤ 17592186044000) (hk : k = 5) (r : Option (List Int)) (hr : (if underB xs (ps ++ [i]) then none else some (movedL xs ps i j)) = r) :
    Calls Tryz.prog 22 #[.agg #[.int .u8 k, .slice pA pn pc, .int .i64 i, .int .i64 j, x4, x5, x6, x7], .slice A n c] w (MaybeInts r w) := by
  have HRR := Lib.hid hr
  have hb0 : Below w.heap.size w ((w.alloc (.cells #[.int .u8 k, .slice pA pn pc, .int .i64 i, .int .i64 j, x4, x5, x6, x7] 26)).alloc (.cells #[.slice A n c] 23)) := ((Below.refl _ w).alloc (Nat.le_refl _) _).alloc (by simp) _
  obtain ⟨W2, W3, W4, W5, r2, r3, r4, r5, hmap, hb5⟩ := past_map (w := w) (M := w.heap.size + 1 + 1) (by simp) hb0
    (.func (.func 48) #[] #[.pointer (some ⟨w.heap.size + 1, 0, none⟩), .pointer (some ⟨w.heap.size, 0, none⟩)])
    (.func (.func 50) #[] #[.pointer (some ⟨w.heap.size + 1, 0, none⟩), .pointer (some ⟨w.heap.size, 0, none⟩)])
    (.func (.func 52) #[] #[.pointer (some ⟨w.heap.size + 1, 0, none⟩), .pointer (some ⟨w.heap.size, 0, none⟩)])
    (.func (.func 54) #[] #[.pointer (some ⟨w.heap.size, 0, none⟩), .pointer (some ⟨w.heap.size + 1, 0, none⟩)])
  have hlook := hmap.look Tryz.underlying78 Tryz.underlying22 k (zero_fn W5) true
  have hl : List.lookup k [(2, (Value.func (.func 48) #[] #[.pointer (some ⟨w.heap.size + 1, 0, none⟩), .pointer (some ⟨w.heap.size, 0, none⟩)])), (3, .func (.func 50) #[] #[.pointer (some ⟨w.heap.size + 1, 0, none⟩), .pointer (some ⟨w.heap.size, 0, none⟩)]), (4, .func (.func 52) #[] #[.pointer (some ⟨w.heap.size + 1, 0, none⟩), .pointer (some ⟨w.heap.size, 0, none⟩)]), (5, .func (.func 54) #[] #[.pointer (some ⟨w.heap.size, 0, none⟩), .pointer (some ⟨w.heap.size + 1, 0, none⟩)])] = some (.func (.func 54) #[] #[.pointer (some ⟨w.heap.size, 0, none⟩), .pointer (some ⟨w.heap.size + 1, 0, none⟩)]) := by
    rw [hk]; rfl
  rw [hl] at hlook
  simp only [if_true, Option.getD_some, Option.isSome_some, Option.getD_none, Option.isSome_none] at hlook
  have hB5 : Below w.heap.size w W5 := bthen hb0 hb5
  have hbox := (boxF8 ((hb5.block w.heap.size (by simp; omega)).trans ((heap_alloc_old _ _ (by simp)).trans (heap_alloc_new w _)))).cs
  have hway : W5.cell? ⟨w.heap.size + 1, 0, none⟩ = some (.slice A n c) := (cell_of_row _ (w.heap.size + 1) 0 _ _ (0, 0) ((hb5.block (w.heap.size + 1) (by simp)).trans (heap_alloc_at (by simp)))).trans rfl
  have HE : Hid (PastEnv W5 xs ps w.heap.size (w.heap.size + 1) A n c k pA pn pc i j x4 x5 x6 x7) := ⟨hbox, hway, hx.below hB5, hp.below hB5, hf, hn, hm⟩
  obtain ⟨c0, c1, c2, c3, c4, c5, c6, c7⟩ := hbox
  have HB5 := Lib.hid hB5
  have hmm := @run_makeMap Tryz.prog
  have hcf := enter_past5
  clear hk
  clear hmap hb5 hb0 hl hB5 hx hp hf hr
  go_enter Tryz.func22, Tryz.ntmps22
  go_wp2_with fail
  refine (p_past5 HE.out).mono ?_
  intro en w6 hm6
  rw [HRR.out] at hm6
  obtain ⟨A6, n6, c6, ok, rfl, HM⟩ := hm6.form
  clear hm6
  go_wp2_with fail
  go_ret2
  exact MaybeInts.lift HB5.out HM.out
set_option maxRecDepth 20000 in
set_option maxHeartbeats 4000000 in
theorem p_past_0 {w : World} (xs ps : List Int) (A : Option Addr) (n c : Nat) (k : Nat) (pA : Option Addr) (pn pc : Nat) (i j : Int) (x4 x5 x6 x7 : Value) (hx : IntsAt w xs A n c) (hp : IntsAt w ps pA pn pc) (hf : Few xs) (hn : n ≤ 17592186044416) (hm : pn ≤ 17592186044000) (hk : k ≠ 2 ∧ k ≠ 3 ∧ k ≠ 4 ∧ k ≠ 5) (r : Option (List Int)) (hr : (some xs) = r) :
    Calls Tryz.prog 22 #[.agg #[.int .u8 k, .slice pA pn pc, .int .i64 i, .int .i64 j, x4, x5, x6, x7], .slice A n c] w (MaybeInts r w) := by
  have HRR := Lib.hid hr
  have hb0 : Below w.heap.size w ((w.alloc (.cells #[.int .u8 k, .slice pA pn pc, .int .i64 i, .int .i64 j, x4, x5, x6, x7] 26)).alloc (.cells #[.slice A n c] 23)) := ((Below.refl _ w).alloc (Nat.le_refl _) _).alloc (by simp) _
  obtain ⟨W2, W3, W4, W5, r2, r3, r4, r5, hmap, hb5⟩ := past_map (w := w) (M := w.heap.size + 1 + 1) (by simp) hb0
    (.func (.func 48) #[] #[.pointer (some ⟨w.heap.size + 1, 0, none⟩), .pointer (some ⟨w.heap.size, 0, none⟩)])
    (.func (.func 50) #[] #[.pointer (some ⟨w.heap.size + 1, 0, none⟩), .pointer (some ⟨w.heap.size, 0, none⟩)])
    (.func (.func 52) #[] #[.pointer (some ⟨w.heap.size + 1, 0, none⟩), .pointer (some ⟨w.heap.size, 0, none⟩)])
    (.func (.func 54) #[] #[.pointer (some ⟨w.heap.size, 0, none⟩), .pointer (some ⟨w.heap.size + 1, 0, none⟩)])
  have hlook := hmap.look Tryz.underlying78 Tryz.underlying22 k (zero_fn W5) true
  have hl : List.lookup k [(2, (Value.func (.func 48) #[] #[.pointer (some ⟨w.heap.size + 1, 0, none⟩), .pointer (some ⟨w.heap.size, 0, none⟩)])), (3, .func (.func 50) #[] #[.pointer (some ⟨w.heap.size + 1, 0, none⟩), .pointer (some ⟨w.heap.size, 0, none⟩)]), (4, .func (.func 52) #[] #[.pointer (some ⟨w.heap.size + 1, 0, none⟩), .pointer (some ⟨w.heap.size, 0, none⟩)]), (5, .func (.func 54) #[] #[.pointer (some ⟨w.heap.size, 0, none⟩), .pointer (some ⟨w.heap.size + 1, 0, none⟩)])] = none := by
    obtain ⟨h2, h3, h4, h5⟩ := hk; have e2 : (k == 2) = false := by simp [h2]
    have e3 : (k == 3) = false := by simp [h3]
    have e4 : (k == 4) = false := by simp [h4]
    have e5 : (k == 5) = false := by simp [h5]
    simp [List.lookup, e2, e3, e4, e5]
  rw [hl] at hlook
  simp only [if_true, Option.getD_some, Option.isSome_some, Option.getD_none, Option.isSome_none] at hlook
  have hB5 : Below w.heap.size w W5 := bthen hb0 hb5
  have hbox := (boxF8 ((hb5.block w.heap.size (by simp; omega)).trans ((heap_alloc_old _ _ (by simp)).trans (heap_alloc_new w _)))).cs
  have hway : W5.cell? ⟨w.heap.size + 1, 0, none⟩ = some (.slice A n c) := (cell_of_row _ (w.heap.size + 1) 0 _ _ (0, 0) ((hb5.block (w.heap.size + 1) (by simp)).trans (heap_alloc_at (by simp)))).trans rfl
  have HE : Hid (PastEnv W5 xs ps w.heap.size (w.heap.size + 1) A n c k pA pn pc i j x4 x5 x6 x7) := ⟨hbox, hway, hx.below hB5, hp.below hB5, hf, hn, hm⟩
  obtain ⟨c0, c1, c2, c3, c4, c5, c6, c7⟩ := hbox
  have HB5 := Lib.hid hB5
  have hmm := @run_makeMap Tryz.prog
  have hcf := enter_past1
  clear hk
  clear hmap hb5 hb0 hl hB5 hx hp hf hr
  go_enter Tryz.func22, Tryz.ntmps22
  go_wp2_with fail
  refine (p_past1 HE.out.way HE.out.hx HE.out.hn).mono ?_
  intro en w6 hm6
  rw [HRR.out] at hm6
  obtain ⟨A6, n6, c6, ok, rfl, HM⟩ := hm6.form
  clear hm6
  go_wp2_with fail
  go_ret2
  exact MaybeInts.lift HB5.out HM.out
theorem p_past_e {w : World} (e : Edt) (xs : List Int) (A : Option Addr) (n c : Nat) (k : Nat) (pA : Option Addr) (pn pc : Nat) (i j : Int) (x4 x5 x6 x7 : Value) (hx : IntsAt w xs A n c) (hp : IntsAt w e.path pA pn pc) (hf : Few xs) (hn : n ≤ 17592186044416) (hm : pn ≤ 17592186044000) (hk : e.kind = k) (hi : e.at_ = i) (hj : e.far = j) :
    Calls Tryz.prog 22 #[.agg #[.int .u8 k, .slice pA pn pc, .int .i64 i, .int .i64 j, x4, x5, x6, x7], .slice A n c] w (MaybeInts (pastE e xs) w) := by
  subst hk hi hj
  by_cases h2 : e.kind = 2
  · have ee : pastE e xs = some (insertedL xs e.path e.at_) := by unfold pastE; rw [if_pos h2]
    rw [ee]; exact p_past_2 xs e.path A n c _ pA pn pc _ _ x4 x5 x6 x7 hx hp hf hn hm h2 _ rfl
  by_cases h3 : e.kind = 3
  · have ee : pastE e xs = deletedL xs e.path e.at_ := by unfold pastE; rw [if_neg h2, if_pos h3]
    rw [ee]; exact p_past_3 xs e.path A n c _ pA pn pc _ _ x4 x5 x6 x7 hx hp hf hn hm h3 _ rfl
  by_cases h4 : e.kind = 4
  · have ee : pastE e xs = if underB xs e.path then none else some xs := by unfold pastE; rw [if_neg h2, if_neg h3, if_pos h4]
    rw [ee]; exact p_past_4 xs e.path A n c _ pA pn pc _ _ x4 x5 x6 x7 hx hp hf hn hm h4 _ rfl
  by_cases h5 : e.kind = 5
  · have ee : pastE e xs = if underB xs (e.path ++ [e.at_]) then none else some (movedL xs e.path e.at_ e.far) := by unfold pastE; rw [if_neg h2, if_neg h3, if_neg h4, if_pos h5]
    rw [ee]; exact p_past_5 xs e.path A n c _ pA pn pc _ _ x4 x5 x6 x7 hx hp hf hn hm h5 _ rfl
  have ee : pastE e xs = some xs := by unfold pastE; rw [if_neg h2, if_neg h3, if_neg h4, if_neg h5]
  rw [ee]; exact p_past_0 xs e.path A n c _ pA pn pc _ _ x4 x5 x6 x7 hx hp hf hn hm ⟨h2, h3, h4, h5⟩ _ rfl
end Go.Proofs.YtmikjhohnfcedaaGreatDoor

namespace Go.Proofs.YtmikjhohnfcedaaGreatDoor
set_option linter.unusedSimpArgs false
set_option linter.unusedVariables false
open Go.RowKit
set_option linter.unusedSimpArgs false

theorem box145 {w : World} {B : Nat} {x0 x1 x2 x3 x4 x5 x6 x7 y1 y4 y5 : Value} {T : TypeId} (h : w.heap[B]? = some (.cells #[x0, x1, x2, x3, x4, x5, x6, x7] T (0, 0))) : (((w.setCell ⟨B, 1, none⟩ y1).setCell ⟨B, 4, none⟩ y4).setCell ⟨B, 5, none⟩ y5).heap[B]? = some (.cells #[x0, y1, x2, x3, y4, y5, x6, x7] T (0, 0)) := by
  simp [World.setCell, Array.getElem?_modify, h]
theorem far145 {w : World} {B : Nat} {o : Obj} {y1 y4 y5 : Value} (h : w.heap[B + 1]? = some o) : (((w.setCell ⟨B, 1, none⟩ y1).setCell ⟨B, 4, none⟩ y4).setCell ⟨B, 5, none⟩ y5).heap[B + 1]? = some o := by
  rw [Below.heap_setCell _ _ _ _ (by simp), Below.heap_setCell _ _ _ _ (by simp), Below.heap_setCell _ _ _ _ (by simp)]; exact h
theorem own_ints {w : World} {base : Nat} {A : Option Addr} {c : Nat} {zs : List Int} (h : w.ownsRow base 3 1 (.slice A zs.length c) zs.length (zs.map (Value.int .i64))) : IntsAt w zs A zs.length c := by
  obtain ⟨A', c', e, h3⟩ := IntsAt.own h
  injection e with e1 e2 e3
  rw [e1, e3]
  exact h3
theorem box_far {w : World} {B : Nat} {x0 x1 x2 x3 x4 x5 x6 x7 y2 y3 y6 : Value} (h : Box8 w (B + 1) x0 x1 x2 x3 x4 x5 x6 x7) : Box8 (((w.setCell ⟨B, 2, none⟩ y2).setCell ⟨B, 3, none⟩ y3).setCell ⟨B, 6, none⟩ y6) (B + 1) x0 x1 x2 x3 x4 x5 x6 x7 := by
  obtain ⟨h0, h1, h2, h3, h4, h5, h6, h7⟩ := h
  have hn : ∀ p q, (⟨B + 1, p, none⟩ : Addr) ≠ ⟨B, q, none⟩ := fun p q e => by injection e; omega
  have hs : ∀ p v, w.cell? ⟨B + 1, p, none⟩ = some v → (((w.setCell ⟨B, 2, none⟩ y2).setCell ⟨B, 3, none⟩ y3).setCell ⟨B, 6, none⟩ y6).cell? ⟨B + 1, p, none⟩ = some v := fun p v h => set_other (hn _ _) (set_other (hn _ _) (set_other (hn _ _) h))
  exact ⟨hs _ _ h0, hs _ _ h1, hs _ _ h2, hs _ _ h3, hs _ _ h4, hs _ _ h5, hs _ _ h6, hs _ _ h7⟩
theorem after8 {wr w3 : World} {B : Nat} {x0 x1 x2 x3 x4 x5 x6 x7 y0 y1 y2 y3 y4 y5 y6 y7 : Value} {T : TypeId} (hb3 : Below wr.heap.size (wr.drewN 1) w3) (HX : wr.heap[B]? = some (.cells #[x0, x1, x2, x3, x4, x5, x6, x7] T (0, 0))) (HR : wr.heap[B + 1]? = some (.cells #[y0, y1, y2, y3, y4, y5, y6, y7] T (0, 0))) (hl : B + 1 < wr.heap.size) :
    Hid (Below wr.heap.size wr w3) ∧ Hid (w3.heap[B]? = some (.cells #[x0, x1, x2, x3, x4, x5, x6, x7] T (0, 0))) ∧ Hid (w3.heap[B + 1]? = some (.cells #[y0, y1, y2, y3, y4, y5, y6, y7] T (0, 0))) ∧ Box8 w3 B x0 x1 x2 x3 x4 x5 x6 x7 ∧ (w3.frozen? ⟨B, 0, none⟩ = false ∧ w3.frozen? ⟨B, 1, none⟩ = false ∧ w3.frozen? ⟨B, 2, none⟩ = false ∧ w3.frozen? ⟨B, 3, none⟩ = false ∧ w3.frozen? ⟨B, 4, none⟩ = false ∧ w3.frozen? ⟨B, 5, none⟩ = false ∧ w3.frozen? ⟨B, 6, none⟩ = false ∧ w3.frozen? ⟨B, 7, none⟩ = false) := by
  have hq3 : Below wr.heap.size wr w3 := bthen (below_drews (Below.refl _ _) 1) hb3
  have h1 := (hq3.block _ (by omega)).trans HX
  exact ⟨hq3, h1, (hq3.block _ hl).trans HR, (boxF8 h1).cs, (boxF8 h1).fs⟩
set_option maxRecDepth 20000 in
set_option maxHeartbeats 4000000 in
theorem p_invert_5 (ps : List Int) (os ns : List Tree) (pA : Option Addr) (pn pc : Nat) (i j : Int) (f t : ByteArray) (oA : Option Addr) (on oc : Nat) (nA : Option Addr) (nn nc : Nat) (w : World)
    (hp : IntsAt w ps pA pn pc) (ho : KidsAt w os oA on oc) (hn : KidsAt w ns nA nn nc) (hE : EnvS w) (hsz : f.size + t.size ≤ 9223372036854775806) (hso : shortL 9223372036854775806 os) (hsn : shortL 9223372036854775806 ns) (hyes : editRight ⟨5, ps, i, j, bl f, bl t, os, ns⟩ = true) (hpn : pn ≤ 17592186044416) (hos : szL os ≤ 1000000) :
    Calls Tryz.prog 18 #[.agg #[.int .u8 5, .slice pA pn pc, .int .i64 i, .int .i64 j, .string f, .string t, .slice oA on oc, .slice nA nn nc]] w (EdtPost (invertE ⟨5, ps, i, j, bl f, bl t, os, ns⟩) w) := by
  have hb0 : Below w.heap.size w ((w.alloc (.cells #[.int .u8 5, .slice pA pn pc, .int .i64 i, .int .i64 j, .string f, .string t, .slice oA on oc, .slice nA nn nc] 26)).alloc (.cells #[.int .u8 0, .slice none 0 0, .int .i64 0, .int .i64 0, .string ⟨#[]⟩, .string ⟨#[]⟩, .slice none 0 0, .slice none 0 0] 26)) := ((Below.refl _ _).alloc (Nat.le_refl _) _).alloc (by simp) _
  have HB0 := Lib.hid hb0
  have HE := Lib.hid (hE.below hb0 (Nat.le_refl _))
  have HI := Lib.hid (EditIs.below hb0 (show EditIs w ⟨5, ps, i, j, bl f, bl t, os, ns⟩ 5 pA pn pc i j f t oA on oc nA nn nc from ⟨ps, os, ns, rfl, hp, ho, hn⟩))
  have HV : Hid (invertE ⟨5, ps, i, j, bl f, bl t, os, ns⟩ = ⟨5, ps, j, i, bl t, bl f, os, ns⟩) := by show _ = _; unfold invertE; rw [hyes]; rfl
  have HP := Lib.hid hp
  have HO := Lib.hid ho
  have HN := Lib.hid hn
  have HYES := Lib.hid hyes
  clear hb0 hE hp ho hn hyes
  go_enter Tryz.func18, Tryz.ntmps18
  go_wp2_with fail
  refine (p_eright _ _ _ _ _ _ _ _ _ _ _ _ _ _ _ _ HI.out HE.out hsz hso hsn).mono ?_
  rintro en w1 ⟨rfl, hb1⟩
  rw [HYES.out]
  have hbox : w1.heap[w.heap.size]? = some (.cells #[.int .u8 5, .slice pA pn pc, .int .i64 i, .int .i64 j, .string f, .string t, .slice oA on oc, .slice nA nn nc] 26 (0, 0)) := (hb1.block _ (by simp; omega)).trans ((heap_alloc_old _ _ (by simp)).trans (heap_alloc_new _ _))
  have hres : w1.heap[w.heap.size + 1]? = some (.cells #[.int .u8 0, .slice none 0 0, .int .i64 0, .int .i64 0, .string ⟨#[]⟩, .string ⟨#[]⟩, .slice none 0 0, .slice none 0 0] 26 (0, 0)) := (hb1.block _ (by simp)).trans (heap_alloc_at (by simp))
  have HB1 := Lib.hid (bthen HB0.out hb1)
  have HS1 : Hid (w.heap.size + 2 ≤ w1.heap.size) := by show _ ≤ _; have := hb1.size; simp at this; omega
  obtain ⟨c0, c1, c2, c3, c4, c5, c6, c7⟩ := (boxF8 hbox).cs
  have HBX := Lib.hid hbox
  have HRS := Lib.hid hres
  clear hbox hres hb1
  go_wp2_with fail
  refine (p_clone_ints ps _ _ _ _ (HP.out.below HB1.out) hpn).mono ?_
  rintro en w2 ⟨A2, k2, rfl, ho2, hb2⟩
  have HB2 := Lib.hid (bthen HB1.out hb2)
  have HBX2 := Lib.hid ((hb2.block w.heap.size (by have := HS1.out; omega)).trans HBX.out)
  have HRS2 := Lib.hid ((hb2.block (w.heap.size + 1) (by have := HS1.out; omega)).trans HRS.out)
  have HS2 : Hid (w.heap.size + 2 ≤ w2.heap.size) := by have := hb2.size; have := HS1.out; show _ ≤ _; omega
  have HOW := Lib.hid ho2
  clear c0 c1 c2 c3 c4 c5 c6 c7 ho2 hb2
  obtain ⟨c0, c1, c2, c3, c4, c5, c6, c7⟩ := (boxF8 HBX2.out).cs
  obtain ⟨f0, f1, f2, f3, f4, f5, f6, f7⟩ := (boxF8 HBX2.out).fs
  go_wp2_with fail
  have HX5 := Lib.hid (box145 (y1 := .slice A2 ps.length k2) (y4 := .string t) (y5 := .string f) HBX2.out)
  have HR5 := Lib.hid (far145 (y1 := .slice A2 ps.length k2) (y4 := .string t) (y5 := .string f) HRS2.out)
  have HB5 : Hid (Below w.heap.size w (((w2.setCell ⟨w.heap.size, 1, none⟩ (.slice A2 ps.length k2)).setCell ⟨w.heap.size, 4, none⟩ (.string t)).setCell ⟨w.heap.size, 5, none⟩ (.string f))) := ((HB2.out.setCell (Nat.le_refl _) _).setCell (Nat.le_refl _) _).setCell (Nat.le_refl _) _
  have HO5 := Lib.hid (HO.out.below HB5.out)
  have hl5 : Hid (w.heap.size + 1 < (((w2.setCell ⟨w.heap.size, 1, none⟩ (.slice A2 ps.length k2)).setCell ⟨w.heap.size, 4, none⟩ (.string t)).setCell ⟨w.heap.size, 5, none⟩ (.string f)).heap.size) := by show _ < _; have := HS2.out; simp; omega
  go_region_with (go_at_call 45; refine (p_copies os _ _ _ _ hos (HO5.out.below (below_drews (Below.refl _ _) 1))).mono ?_; rintro en w3 ⟨A3, k3, rfl, hf3, hb3⟩; obtain ⟨HQ, HX3, HR3, ⟨d0, d1, d2, d3, d4, d5, d6, d7⟩, ⟨g0, g1, g2, g3, g4, g5, g6, g7⟩⟩ := after8 hb3 HX5.out HR5.out hl5.out)
  all_goals
    have HF3 := Lib.hid hf3
    have HB3 := Lib.hid (bthen HB5.out HQ.out)
    obtain ⟨r0, r1, r2, r3, r4, r5, r6, r7⟩ := (boxF8 HR3.out).cs
    obtain ⟨s0, s1, s2, s3, s4, s5, s6, s7⟩ := (boxF8 HR3.out).fs
    clear hf3 hb3
    go_wp2_with fail
  all_goals
    have HFAR : Hid (Far (w.heap.size + 2) w3 (put8 (((w3.setCell ⟨w.heap.size, 2, none⟩ (.int .i64 j)).setCell ⟨w.heap.size, 3, none⟩ (.int .i64 i)).setCell ⟨w.heap.size, 6, none⟩ (.slice A3 on k3)) (w.heap.size + 1) (.int .u8 5) (.slice A2 ps.length k2) (.int .i64 j) (.int .i64 i) (.string t) (.string f) (.slice A3 on k3) (.slice nA nn nc))) := put8_far ((((Far.refl _ _).set (by simp)).set (by simp)).set (by simp)) (by omega)
    have HBF : Hid (Below w.heap.size w (put8 (((w3.setCell ⟨w.heap.size, 2, none⟩ (.int .i64 j)).setCell ⟨w.heap.size, 3, none⟩ (.int .i64 i)).setCell ⟨w.heap.size, 6, none⟩ (.slice A3 on k3)) (w.heap.size + 1) (.int .u8 5) (.slice A2 ps.length k2) (.int .i64 j) (.int .i64 i) (.string t) (.string f) (.slice A3 on k3) (.slice nA nn nc))) := put8_below (((HB3.out.setCell (Nat.le_refl _) _).setCell (Nat.le_refl _) _).setCell (Nat.le_refl _) _) (by omega)
    have HOF : Hid (KidsAt (put8 (((w3.setCell ⟨w.heap.size, 2, none⟩ (.int .i64 j)).setCell ⟨w.heap.size, 3, none⟩ (.int .i64 i)).setCell ⟨w.heap.size, 6, none⟩ (.slice A3 on k3)) (w.heap.size + 1) (.int .u8 5) (.slice A2 ps.length k2) (.int .i64 j) (.int .i64 i) (.string t) (.string f) (.slice A3 on k3) (.slice nA nn nc)) os A3 on k3) := FreshK.kids (Far.fresh HF3.out HFAR.out (by have := HS2.out; simp; omega))
    have HPF : Hid (IntsAt (put8 (((w3.setCell ⟨w.heap.size, 2, none⟩ (.int .i64 j)).setCell ⟨w.heap.size, 3, none⟩ (.int .i64 i)).setCell ⟨w.heap.size, 6, none⟩ (.slice A3 on k3)) (w.heap.size + 1) (.int .u8 5) (.slice A2 ps.length k2) (.int .i64 j) (.int .i64 i) (.string t) (.string f) (.slice A3 on k3) (.slice nA nn nc)) ps A2 ps.length k2 ∧ PathT (put8 (((w3.setCell ⟨w.heap.size, 2, none⟩ (.int .i64 j)).setCell ⟨w.heap.size, 3, none⟩ (.int .i64 i)).setCell ⟨w.heap.size, 6, none⟩ (.slice A3 on k3)) (w.heap.size + 1) (.int .u8 5) (.slice A2 ps.length k2) (.int .i64 j) (.int .i64 i) (.string t) (.string f) (.slice A3 on k3) (.slice nA nn nc)) ps A2) := by
      have h1 := Far.own HOW.out (((Far.refl (w.heap.size + 2) _).set (p := ⟨w.heap.size, 1, none⟩) (u := .slice A2 ps.length k2) (by simp)).set (p := ⟨w.heap.size, 4, none⟩) (u := .string t) (by simp) |>.set (p := ⟨w.heap.size, 5, none⟩) (u := .string f) (by simp)) HS1.out
      have h2 := Far.own (own_below h1 HQ.out (Nat.le_refl _)) HFAR.out HS1.out
      exact ⟨own_ints h2, PathT.own h2 rfl⟩
    obtain ⟨a0, a1, a2, a3, a4, a5, a6, a7⟩ := put8_box (v0 := .int .u8 5) (v1 := .slice A2 ps.length k2) (v2 := .int .i64 j) (v3 := .int .i64 i) (v4 := .string t) (v5 := .string f) (v6 := .slice A3 on k3) (v7 := .slice nA nn nc) (box_far (y2 := .int .i64 j) (y3 := .int .i64 i) (y6 := .slice A3 on k3) ⟨r0, r1, r2, r3, r4, r5, r6, r7⟩)
    simp only [put8] at a0 a1 a2 a3 a4 a5 a6 a7
    refine bodyPost_ret (v := .agg #[.int .u8 5, .slice A2 ps.length k2, .int .i64 j, .int .i64 i, .string t, .string f, .slice A3 on k3, .slice nA nn nc]) (by simp [results, Tryz.results18, go_sem, a0, a1, a2, a3, a4, a5, a6, a7]) rfl ?_
    rw [HV.out]
    exact ⟨5, A2, ps.length, k2, j, i, t, f, A3, on, k3, nA, nn, nc, rfl, ⟨ps, os, ns, rfl, HPF.out.1, HOF.out, HN.out.below HBF.out⟩, HPF.out.2, HBF.out⟩
end Go.Proofs.YtmikjhohnfcedaaGreatDoor
