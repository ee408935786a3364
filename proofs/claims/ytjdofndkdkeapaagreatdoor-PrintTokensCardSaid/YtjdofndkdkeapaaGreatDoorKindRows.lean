/- The walk over tree.rows (chapter 6): a map of rows, and what it says of a kind. -/
import Derived.Test.YtjdofndkdkeapaaGreatDoorNode
import Derived.Test.YtjdofndkdkeapaaGreatDoorMapU
import Derived.Test.YtjdofndkdkeapaaGreatDoorStr
import Derived.Test.YtjdofndkdkeapaaGreatDoorDrews
namespace Go.Proofs.YtjdofndkdkeapaaGreatDoor
open Go.RowKit

/-- A slice value that reads as a list of kinds. -/
def KindsAt (w : World) (zs : List Nat) (A : Option Addr) (n c : Nat) : Prop :=
  n = zs.length ∧ n ≤ c ∧ c ≤ maxLen ∧ (zs = [] ∨ ∃ b o : Nat, A = some ⟨b, o, none⟩ ∧ ∀ (j z : Nat), zs[j]? = some z → w.cell? ⟨b, o + j, none⟩ = some (.int .u8 (z : Int)))
theorem KindsAt.keep {w w' : World} (hb : ∀ a v, w.cell? a = some v → w'.cell? a = some v) {zs : List Nat} {A : Option Addr} {n c : Nat} (h : KindsAt w zs A n c) : KindsAt w' zs A n c := by
  obtain ⟨h1, h2, h3, h4⟩ := h
  refine ⟨h1, h2, h3, ?_⟩
  rcases h4 with e | ⟨b, o, e, hr⟩
  · exact .inl e
  · exact .inr ⟨b, o, e, fun j z hz => hb _ _ (hr j z hz)⟩
theorem KindsAt.below {w w' : World} (hb : Below w.heap.size w w') {zs : List Nat} {A : Option Addr} {n c : Nat} (h : KindsAt w zs A n c) : KindsAt w' zs A n c := h.keep fun _ _ => cell_below hb
theorem KindsAt.get {w : World} {zs : List Nat} {A : Option Addr} {n c : Nat} (h : KindsAt w zs A n c) {i : Nat} (hi : i < n) : ∃ (b o z : Nat), A = some ⟨b, o, none⟩ ∧ zs[i]? = some z ∧ w.cell? ⟨b, o + i, none⟩ = some (.int .u8 z) := by
  obtain ⟨hn, _, _, h⟩ := h
  rcases h with rfl | ⟨b, o, e, hr⟩
  · simp at hn; omega
  · have : zs[i]? = some (zs[i]'(by omega)) := List.getElem?_eq_getElem (by omega)
    exact ⟨b, o, _, e, this, hr i _ this⟩
theorem KindsAt.nil (w : World) (A : Option Addr) {c : Nat} (h : c ≤ maxLen) : KindsAt w [] A 0 c := ⟨rfl, Nat.zero_le _, h, .inl rfl⟩
/-- The kinds that some cells hold. -/
def unU8 (cs : Array Value) : List Nat := cs.toList.map fun v => match v with | .int _ n => n.toNat | _ => 0
theorem KindsAt.new (w : World) (cs : Array Value) (T : TypeId) (hu : cs = ((unU8 cs).map fun (k : Nat) => Value.int .u8 k).toArray) (hm : cs.size ≤ maxLen) : KindsAt (w.alloc (.cells cs T)) (unU8 cs) (some ⟨w.heap.size, 0, none⟩) cs.size cs.size := by
  refine ⟨by simp [unU8], Nat.le_refl _, hm, .inr ⟨_, _, rfl, fun j z hz => ?_⟩⟩
  rw [show 0 + j = j from Nat.zero_add j, World.cell?_alloc_new]
  have e : cs[j]? = (((unU8 cs).map fun (k : Nat) => Value.int .u8 k).toArray)[j]? := by rw [← hu]
  rw [e]
  simp [hz]

/-- A row's value. -/
def RowIs (w : World) (v : Value) (r : List Nat × Bool) : Prop := ∃ A n c, v = .agg #[.slice A n c, .bool r.2] ∧ KindsAt w r.1 A n c
theorem RowIs.below {w w' : World} (hb : Below w.heap.size w w') {v : Value} {r : List Nat × Bool} (h : RowIs w v r) : RowIs w' v r := by
  obtain ⟨A, n, c, e, hk⟩ := h
  exact ⟨A, n, c, e, hk.below hb⟩
def RowPostOf (r : List Nat × Bool) (w : World) (e : Ending) (w' : World) : Prop := ∃ v, e = .returned v ∧ RowIs w' v r ∧ Below w.heap.size w w'

set_option maxHeartbeats 400000 in
theorem p_one (ks : List Nat) (A : Option Addr) (n c : Nat) (w : World) (h : KindsAt w ks A n c) : Calls Tryz.prog 73 #[.slice A n c] w (RowPostOf (ks, false) w) := by
  have H := Lib.hid h
  clear h
  go_enter Tryz.func73, Tryz.ntmps73
  go_wp2
  have hb : Below w.heap.size w (w.alloc (.cells #[.slice A n c, .bool false] 86)) := (Below.refl _ _).alloc (Nat.le_refl _) _
  exact bodyPost_ret (v := .agg #[.slice A n c, .bool false]) (by simp [results, Tryz.results73, go_sem]) rfl ⟨_, rfl, ⟨A, n, c, rfl, H.out.below hb⟩, hb⟩
set_option maxHeartbeats 400000 in
theorem p_many (z : Int) (w : World) (hz : 0 ≤ z) : Calls Tryz.prog 74 #[.int .u8 z] w (RowPostOf ([z.toNat], true) w) := by
  go_enter Tryz.func74, Tryz.ntmps74
  go_wp2
  have hb : Below w.heap.size w ((w.alloc (.cells #[.slice (some ⟨w.heap.size + 1, 0, none⟩) 1 1, .bool true] 86)).alloc (.cells #[.int .u8 z] 22)) := ((Below.refl _ _).alloc (Nat.le_refl _) _).alloc (by simp) _
  have hk := KindsAt.new (w.alloc (.cells #[.slice (some ⟨w.heap.size + 1, 0, none⟩) 1 1, .bool true] 86)) #[.int .u8 z] 22 (by simp [unU8]; omega) (by unfold maxLen; simp)
  have hs : (w.alloc (.cells #[.slice (some ⟨w.heap.size + 1, 0, none⟩) 1 1, .bool true] 86)).heap.size = w.heap.size + 1 := by simp
  rw [hs] at hk
  have hk' : KindsAt ((w.alloc (.cells #[.slice (some ⟨w.heap.size + 1, 0, none⟩) 1 1, .bool true] 86)).alloc (.cells #[.int .u8 z] 22)) [z.toNat] (some ⟨w.heap.size + 1, 0, none⟩) 1 1 := hk
  exact bodyPost_ret (v := .agg #[.slice (some ⟨w.heap.size + 1, 0, none⟩) 1 1, .bool true]) (by simp [results, Tryz.results74, go_sem]) rfl ⟨_, rfl, ⟨some ⟨w.heap.size + 1, 0, none⟩, 1, 1, rfl, hk'⟩, hb⟩

/-! The map so far. -/
def RowsIn (w : World) (vs : List (Nat × Value)) (tbl : List (Nat × List Nat × Bool)) : Prop :=
  vs.map (·.1) = tbl.map (·.1) ∧ ∀ (i : Nat) (p : Nat × Value) (q : Nat × List Nat × Bool), vs[i]? = some p → tbl[i]? = some q → RowIs w p.2 q.2
structure Tab (w0 w : World) (B : Nat) (tbl : List (Nat × List Nat × Bool)) : Prop where
  map : ∃ vs, MapIs w B vs ∧ RowsIn w vs tbl
  bel : Below w0.heap.size w0 w
theorem Tab.below {w0 w w' : World} {B : Nat} {tbl : List (Nat × List Nat × Bool)} (h : Tab w0 w B tbl) (hb : Below w.heap.size w w') : Tab w0 w' B tbl := by
  obtain ⟨⟨vs, h1, h2, h3⟩, h4⟩ := h
  exact ⟨⟨vs, h1.below hb, h2, fun i p q hp hq => (h3 i p q hp hq).below hb⟩, h4.trans (hb.mono h4.size)⟩
theorem Tab.made {w0 w : World} (hb : Below w0.heap.size w0 w) : Tab w0 (w.alloc (.map #[] 0)) w.heap.size [] :=
  ⟨⟨[], MapIs.made w, rfl, fun i p q hp => by simp at hp⟩, hb.alloc hb.size _⟩
theorem rowsIn_all {w : World} {vs : List (Nat × Value)} {tbl : List (Nat × List Nat × Bool)} (h : RowsIn w vs tbl) (k : Nat) : (vs.all fun p => p.1 != k) = tbl.all fun p => p.1 != k := by
  have e : ∀ {β : Type} (l : List (Nat × β)), (l.all fun p => p.1 != k) = (l.map (·.1)).all (· != k) := by intro β l; rw [List.all_map]; rfl
  rw [e, e, h.1]
theorem RowIs.grown {w w' : World} {B : Nat} {v : Value} {r : List Nat × Bool} (h : RowIs w v r) (hg : w.grownBy w' (some B)) (hm : ∃ es c, w.heap[B]? = some (.map es c)) : RowIs w' v r := by
  obtain ⟨A, n, c, e, hk⟩ := h
  obtain ⟨es, cl, hB⟩ := hm
  refine ⟨A, n, c, e, hk.keep fun a u ha => ?_⟩
  refine hg.cell ha ?_
  intro e
  injection e with e
  simp [World.cell?, e, hB] at ha

theorem ins_run {w0 w : World} {B : Nat} {tbl : List (Nat × List Nat × Bool)} {val : Value} {r : List Nat × Bool} (hT : Hid (Tab w0 w B tbl)) (hV : RowIs w val r) (hB : w0.heap.size ≤ B) (z : Int) (hz : 0 ≤ z) (hn : (tbl.all fun p => p.1 != z.toNat) = true) :
    ∃ w', (Instr.mapUpdate 109 (.map (some B)) (.int .u8 z) val).run Tryz.prog w = .ok () w' ∧ Hid (Tab w0 w' B (tbl ++ [(z.toNat, r)])) := by
  obtain ⟨⟨vs, h1, h2⟩, h4⟩ := hT.out
  have hz' : ((z.toNat : Nat) : Int) = z := Int.toNat_of_nonneg hz
  have h1m : ∃ es c, w.heap[B]? = some (.map es c) := by obtain ⟨es, c, e, _⟩ := h1; exact ⟨es, c, e⟩
  obtain ⟨w', hrun, hm', hg'⟩ := h1.insert Tryz.underlying109 Tryz.underlying22 (k := z.toNat) val (by rw [rowsIn_all h2]; exact hn)
  rw [hz'] at hrun
  refine ⟨w', hrun, ⟨⟨_, hm', ?_, ?_⟩, h4.grown hg' h4.size (fun k hk => by injection hk with hk; omega)⟩⟩
  · rw [List.map_append, List.map_append, h2.1]; rfl
  · intro i p q hp hq
    have hl : vs.length = tbl.length := by have := congrArg List.length h2.1; simpa using this
    by_cases hi : i < vs.length
    · rw [List.getElem?_append_left hi] at hp
      rw [List.getElem?_append_left (by omega)] at hq
      exact (h2.2 i p q hp hq).grown hg' h1m
    · have hi0 : i = vs.length := by
        have := (List.getElem?_eq_some_iff.1 hp).1
        simp at this; omega
      subst hi0
      rw [List.getElem?_append_right (Nat.le_refl _)] at hp
      rw [hl, List.getElem?_append_right (Nat.le_refl _)] at hq
      simp at hp hq
      subst hp hq
      exact hV.grown hg' h1m

theorem lookup_rows {w : World} : ∀ {vs : List (Nat × Value)} {tbl : List (Nat × List Nat × Bool)}, RowsIn w vs tbl → ∀ k, (vs.lookup k = none ∧ tbl.lookup k = none) ∨ ∃ v r, vs.lookup k = some v ∧ tbl.lookup k = some r ∧ RowIs w v r
  | [], [], _, k => .inl ⟨rfl, rfl⟩
  | [], _ :: _, h, _ => by have := h.1; simp at this
  | _ :: _, [], h, _ => by have := h.1; simp at this
  | p :: vs, q :: tbl, h, k => by
    obtain ⟨h1, h2⟩ := h
    simp only [List.map_cons, List.cons.injEq] at h1
    by_cases hk : k = p.1
    · have hq : k = q.1 := by rw [hk, h1.1]
      right
      refine ⟨p.2, q.2, ?_, ?_, h2 0 p q rfl rfl⟩
      · simp [List.lookup, hk]
      · simp [List.lookup, hq]
    · have hq : ¬ k = q.1 := by rw [← h1.1]; exact hk
      have look_ne : ∀ {β : Type} (a : Nat × β) (l : List (Nat × β)), ¬ k = a.1 → (a :: l).lookup k = l.lookup k := by
        intro β a l hne
        obtain ⟨a, b⟩ := a
        have : (k == a) = false := by simpa using hne
        simp [List.lookup, this]
      have e1 := look_ne p vs hk
      have e2 := look_ne q tbl hq
      rw [e1, e2]
      exact lookup_rows ⟨h1.2, fun i p' q' hp hq => h2 (i + 1) p' q' (by simpa using hp) (by simpa using hq)⟩ k
def rowTbl : List (Nat × List Nat × Bool) := [(1, [2], true), (2, [3, 5], false), (3, [4], true), (4, [], false), (5, [201], true), (6, [200], false), (7, [202, 200], false), (8, [200, 5, 5], false), (9, [200, 5], false), (10, [200], false), (11, [200], false), (12, [25], false),
  (20, [], false), (21, [], false), (22, [], false), (23, [200], false), (24, [200, 200], false), (25, [200], true), (26, [200, 200], false), (27, [200, 200], false), (28, [200], false), (29, [], false)]
theorem rowTbl_small : ∀ k : Fin 30, rowTbl.lookup k.val = rowsOf k.val := by decide
theorem rowTbl_is (k : Nat) : rowTbl.lookup k = rowsOf k := by
  by_cases h : k < 30
  · exact rowTbl_small ⟨k, h⟩
  · obtain ⟨n, rfl⟩ : ∃ n, k = n + 30 := ⟨k - 30, by omega⟩
    have e : ∀ m, m < 30 → (n + 30 == m) = false := by intro m hm; simp; omega
    have h1 : rowsOf (n + 30) = none := rfl
    rw [h1]
    simp [rowTbl, List.lookup, e]
/-- What rows tells. -/
def RowsPost (k : Nat) (w : World) (e : Ending) (w' : World) : Prop :=
  Below w.heap.size w w' ∧ match rowsOf k with
    | some r => ∃ v, e = .returned (.tuple #[v, .bool true]) ∧ RowIs w' v r
    | none => e = .returned (.tuple #[.agg #[.slice none 0 0, .bool false], .bool false])

theorem RowsPost.no {k : Nat} {w w' : World} (h : rowsOf k = none) (hb : Below w.heap.size w w') : RowsPost k w (.returned (.tuple #[.agg #[.slice none 0 0, .bool false], .bool false])) w' := by
  refine ⟨hb, ?_⟩
  rw [h]
theorem RowsPost.yes {k : Nat} {w w' : World} {v : Value} {r : List Nat × Bool} (h : rowsOf k = some r) (hr : RowIs w' v r) (hb : Below w.heap.size w w') : RowsPost k w (.returned (.tuple #[v, .bool true])) w' := by
  refine ⟨hb, ?_⟩
  rw [h]
  exact ⟨v, rfl, hr⟩
/-- A block of two cells behind two stores and a new block. -/
theorem after2 {w : World} {b : Nat} {x y u v : Value} {T : TypeId} {o : Obj} (h : w.heap[b]? = some (.cells #[x, y] T (0, 0))) : (((w.setCell ⟨b, 0, none⟩ u).setCell ⟨b, 1, none⟩ v).alloc o).cell? ⟨b, 0, none⟩ = some u ∧ (((w.setCell ⟨b, 0, none⟩ u).setCell ⟨b, 1, none⟩ v).alloc o).cell? ⟨b, 1, none⟩ = some v := by
  have hlt : b < w.heap.size := (Array.getElem?_eq_some_iff.1 h).1
  have h2 : (((w.setCell ⟨b, 0, none⟩ u).setCell ⟨b, 1, none⟩ v).alloc o).heap[b]? = some (.cells #[u, v] T (0, 0)) := by
    rw [Below.heap_alloc _ _ _ (by simpa using hlt)]
    simp [World.setCell, Array.getElem?_modify, h]
  exact ⟨(cell_of_row _ b 0 _ _ (0, 0) h2).trans rfl, (cell_of_row _ b 1 _ _ (0, 0) h2).trans rfl⟩

/-- Kinds stay while a block of another type is written. -/
theorem KindsAt.keepBlock {w w' : World} {zs : List Nat} {A : Option Addr} {n c b : Nat} {x y : Value} {T : TypeId} (h : KindsAt w zs A n c) (hb : w.heap[b]? = some (.cells #[x, y] T (0, 0))) (hk : ∀ i, i < w.heap.size → i ≠ b → w'.heap[i]? = w.heap[i]?)
    (hx : ∀ z : Nat, x ≠ .int .u8 z := by intros; simp) (hy : ∀ z : Nat, y ≠ .int .u8 z := by intros; simp) : KindsAt w' zs A n c := by
  obtain ⟨h1, h2, h3, h4⟩ := h
  refine ⟨h1, h2, h3, ?_⟩
  rcases h4 with e | ⟨g, o, e, hr⟩
  · exact .inl e
  · refine .inr ⟨g, o, e, fun j z hz => ?_⟩
    have hc := hr j z hz
    have hlt := cell_lt hc
    by_cases hg : g = b
    · exfalso
      subst hg
      have := (cell_of_row w g (o + j) _ _ (0, 0) hb).symm.trans hc
      match o + j, this with
      | 0, this => simp at this; exact hx z this
      | 1, this => simp at this; exact hy z this
      | _ + 2, this => simp at this
    · rw [World.cell?_of_block (w := w) (hk g hlt hg)]; exact hc

theorem RowIs.slot {w : World} {v : Value} {r : List Nat × Bool} (h : RowIs w v r) : ∃ A n c, v = .agg #[.slice A n c, .bool r.2] ∧ KindsAt w r.1 A n c := h

theorem one_new (w : World) (cs : Array Value) (n c : Nat) (hu : cs = ((unU8 cs).map fun (k : Nat) => Value.int .u8 k).toArray) (hm : cs.size ≤ maxLen) (hn : n = cs.size) (hc : c = cs.size) :
    Calls Tryz.prog 73 #[.slice (some ⟨w.heap.size, 0, none⟩) n c] (w.alloc (.cells cs 22)) fun e w' => ∃ v, e = .returned v ∧ RowIs w' v (unU8 cs, false) ∧ Below w.heap.size w w' := by
  subst hn hc
  refine (p_one (unU8 cs) _ _ _ _ (KindsAt.new w cs _ hu hm)).mono ?_
  rintro e w' ⟨v, rfl, hr, hb⟩
  exact ⟨v, rfl, hr, ((Below.refl _ _).alloc (Nat.le_refl _) _).trans (hb.mono (by simp))⟩
theorem one_nil (w : World) :
    Calls Tryz.prog 73 #[.slice none 0 0] w fun e w' => ∃ v, e = .returned v ∧ RowIs w' v ([], false) ∧ Below w.heap.size w w' := by
  refine (p_one [] _ _ _ _ (KindsAt.nil w none (by omega))).mono ?_
  rintro e w' ⟨v, rfl, hr, hb⟩
  exact ⟨v, rfl, hr, hb⟩

set_option maxRecDepth 100000 in
set_option maxHeartbeats 4000000 in
theorem p_rows (k : Nat) (w : World) : Calls Tryz.prog 38 #[.int .u8 k] w (RowsPost k w) := by
  have HT := Lib.hid (Tab.made (Below.refl (w.alloc (.cells #[.slice none 0 0, .bool false] 86)).heap.size (w.alloc (.cells #[.slice none 0 0, .bool false] 86))))
  have hsz : (w.alloc (.cells #[.slice none 0 0, .bool false] 86)).heap.size = w.heap.size + 1 := by simp
  rw [hsz] at HT
  clear hsz
  have hmm := @run_makeMap Tryz.prog
  go_enter Tryz.func38, Tryz.ntmps38
  go_wp2_with fail
  refine (p_many _ _ (by decide)).mono ?_
  rintro e w1 ⟨v1, rfl, hr, hb⟩
  obtain ⟨w2, hrun, HT2⟩ := ins_run (Lib.hid (HT.out.below hb)) hr (by simp) 1 (by decide) (by decide)
  clear HT hr hb
  rename Hid _ => HT
  go_wp2_with fail
  refine (one_new _ _ _ _ (by rfl) (by decide) (by decide) (by decide)).mono ?_
  rintro e w1 ⟨v1, rfl, hr, hb⟩
  obtain ⟨w2, hrun, HT2⟩ := ins_run (Lib.hid (HT.out.below hb)) hr (by simp) 2 (by decide) (by decide)
  clear HT hr hb
  rename Hid _ => HT
  go_wp2_with fail
  refine (p_many _ _ (by decide)).mono ?_
  rintro e w1 ⟨v1, rfl, hr, hb⟩
  obtain ⟨w2, hrun, HT2⟩ := ins_run (Lib.hid (HT.out.below hb)) hr (by simp) 3 (by decide) (by decide)
  clear HT hr hb
  rename Hid _ => HT
  go_wp2_with fail
  refine (one_nil _).mono ?_
  rintro e w1 ⟨v1, rfl, hr, hb⟩
  obtain ⟨w2, hrun, HT2⟩ := ins_run (Lib.hid (HT.out.below hb)) hr (by simp) 4 (by decide) (by decide)
  clear HT hr hb
  rename Hid _ => HT
  go_wp2_with fail
  refine (p_many _ _ (by decide)).mono ?_
  rintro e w1 ⟨v1, rfl, hr, hb⟩
  obtain ⟨w2, hrun, HT2⟩ := ins_run (Lib.hid (HT.out.below hb)) hr (by simp) 5 (by decide) (by decide)
  clear HT hr hb
  rename Hid _ => HT
  go_wp2_with fail
  refine (one_new _ _ _ _ (by rfl) (by decide) (by decide) (by decide)).mono ?_
  rintro e w1 ⟨v1, rfl, hr, hb⟩
  obtain ⟨w2, hrun, HT2⟩ := ins_run (Lib.hid (HT.out.below hb)) hr (by simp) 6 (by decide) (by decide)
  clear HT hr hb
  rename Hid _ => HT
  go_wp2_with fail
  refine (one_new _ _ _ _ (by rfl) (by decide) (by decide) (by decide)).mono ?_
  rintro e w1 ⟨v1, rfl, hr, hb⟩
  obtain ⟨w2, hrun, HT2⟩ := ins_run (Lib.hid (HT.out.below hb)) hr (by simp) 7 (by decide) (by decide)
  clear HT hr hb
  rename Hid _ => HT
  go_wp2_with fail
  refine (one_new _ _ _ _ (by rfl) (by decide) (by decide) (by decide)).mono ?_
  rintro e w1 ⟨v1, rfl, hr, hb⟩
  obtain ⟨w2, hrun, HT2⟩ := ins_run (Lib.hid (HT.out.below hb)) hr (by simp) 8 (by decide) (by decide)
  clear HT hr hb
  rename Hid _ => HT
  go_wp2_with fail
  refine (one_new _ _ _ _ (by rfl) (by decide) (by decide) (by decide)).mono ?_
  rintro e w1 ⟨v1, rfl, hr, hb⟩
  obtain ⟨w2, hrun, HT2⟩ := ins_run (Lib.hid (HT.out.below hb)) hr (by simp) 9 (by decide) (by decide)
  clear HT hr hb
  rename Hid _ => HT
  go_wp2_with fail
  refine (one_new _ _ _ _ (by rfl) (by decide) (by decide) (by decide)).mono ?_
  rintro e w1 ⟨v1, rfl, hr, hb⟩
  obtain ⟨w2, hrun, HT2⟩ := ins_run (Lib.hid (HT.out.below hb)) hr (by simp) 10 (by decide) (by decide)
  clear HT hr hb
  rename Hid _ => HT
  go_wp2_with fail
  refine (one_new _ _ _ _ (by rfl) (by decide) (by decide) (by decide)).mono ?_
  rintro e w1 ⟨v1, rfl, hr, hb⟩
  obtain ⟨w2, hrun, HT2⟩ := ins_run (Lib.hid (HT.out.below hb)) hr (by simp) 11 (by decide) (by decide)
  clear HT hr hb
  rename Hid _ => HT
  go_wp2_with fail
  refine (one_new _ _ _ _ (by rfl) (by decide) (by decide) (by decide)).mono ?_
  rintro e w1 ⟨v1, rfl, hr, hb⟩
  obtain ⟨w2, hrun, HT2⟩ := ins_run (Lib.hid (HT.out.below hb)) hr (by simp) 12 (by decide) (by decide)
  clear HT hr hb
  rename Hid _ => HT
  go_wp2_with fail
  refine (one_nil _).mono ?_
  rintro e w1 ⟨v1, rfl, hr, hb⟩
  obtain ⟨w2, hrun, HT2⟩ := ins_run (Lib.hid (HT.out.below hb)) hr (by simp) 20 (by decide) (by decide)
  clear HT hr hb
  rename Hid _ => HT
  go_wp2_with fail
  refine (one_nil _).mono ?_
  rintro e w1 ⟨v1, rfl, hr, hb⟩
  obtain ⟨w2, hrun, HT2⟩ := ins_run (Lib.hid (HT.out.below hb)) hr (by simp) 21 (by decide) (by decide)
  clear HT hr hb
  rename Hid _ => HT
  go_wp2_with fail
  refine (one_nil _).mono ?_
  rintro e w1 ⟨v1, rfl, hr, hb⟩
  obtain ⟨w2, hrun, HT2⟩ := ins_run (Lib.hid (HT.out.below hb)) hr (by simp) 22 (by decide) (by decide)
  clear HT hr hb
  rename Hid _ => HT
  go_wp2_with fail
  refine (one_new _ _ _ _ (by rfl) (by decide) (by decide) (by decide)).mono ?_
  rintro e w1 ⟨v1, rfl, hr, hb⟩
  obtain ⟨w2, hrun, HT2⟩ := ins_run (Lib.hid (HT.out.below hb)) hr (by simp) 23 (by decide) (by decide)
  clear HT hr hb
  rename Hid _ => HT
  go_wp2_with fail
  refine (one_new _ _ _ _ (by rfl) (by decide) (by decide) (by decide)).mono ?_
  rintro e w1 ⟨v1, rfl, hr, hb⟩
  obtain ⟨w2, hrun, HT2⟩ := ins_run (Lib.hid (HT.out.below hb)) hr (by simp) 24 (by decide) (by decide)
  clear HT hr hb
  rename Hid _ => HT
  go_wp2_with fail
  refine (p_many _ _ (by decide)).mono ?_
  rintro e w1 ⟨v1, rfl, hr, hb⟩
  obtain ⟨w2, hrun, HT2⟩ := ins_run (Lib.hid (HT.out.below hb)) hr (by simp) 25 (by decide) (by decide)
  clear HT hr hb
  rename Hid _ => HT
  go_wp2_with fail
  refine (one_new _ _ _ _ (by rfl) (by decide) (by decide) (by decide)).mono ?_
  rintro e w1 ⟨v1, rfl, hr, hb⟩
  obtain ⟨w2, hrun, HT2⟩ := ins_run (Lib.hid (HT.out.below hb)) hr (by simp) 26 (by decide) (by decide)
  clear HT hr hb
  rename Hid _ => HT
  go_wp2_with fail
  refine (one_new _ _ _ _ (by rfl) (by decide) (by decide) (by decide)).mono ?_
  rintro e w1 ⟨v1, rfl, hr, hb⟩
  obtain ⟨w2, hrun, HT2⟩ := ins_run (Lib.hid (HT.out.below hb)) hr (by simp) 27 (by decide) (by decide)
  clear HT hr hb
  rename Hid _ => HT
  go_wp2_with fail
  refine (one_new _ _ _ _ (by rfl) (by decide) (by decide) (by decide)).mono ?_
  rintro e w1 ⟨v1, rfl, hr, hb⟩
  obtain ⟨w2, hrun, HT2⟩ := ins_run (Lib.hid (HT.out.below hb)) hr (by simp) 28 (by decide) (by decide)
  clear HT hr hb
  rename Hid _ => HT
  go_wp2_with fail
  refine (one_nil _).mono ?_
  rintro e w1 ⟨v1, rfl, hr, hb⟩
  obtain ⟨w2, hrun, HT2⟩ := ins_run (Lib.hid (HT.out.below hb)) hr (by simp) 29 (by decide) (by decide)
  clear HT hr hb
  rename Hid _ => HT
  have HT' : Hid (Tab (w.alloc (.cells #[.slice none 0 0, .bool false] 86)) w2 (w.heap.size + 1) rowTbl) := HT
  clear HT
  obtain ⟨⟨vs, hm, hr⟩, hbel⟩ := HT'.out
  have hz : ∀ w, (zeroValue 86).run Tryz.prog w = .ok (.agg #[.slice none 0 0, .bool false]) w := fun _ => by kernel_rfl
  have hlook := hm.look Tryz.underlying109 Tryz.underlying22 k (hz w2) true
  have hsz : (w.alloc (.cells #[.slice none 0 0, .bool false] 86)).heap.size = w.heap.size + 1 := by simp
  have HB : Hid (Below w.heap.size w w2) := ((Below.refl _ _).alloc (Nat.le_refl _) _).trans (hbel.mono (by omega))
  have hlt : w.heap.size < w2.heap.size := by have := hbel.size; omega
  have hblk : w2.heap[w.heap.size]? = some (.cells #[.slice none 0 0, .bool false] 86 (0, 0)) := (hbel.block w.heap.size (by omega)).trans (heap_alloc_new w _)
  have hc0 := (cell_of_row w2 w.heap.size 0 _ _ (0, 0) hblk).trans (show _ = some (Value.slice none 0 0) from rfl)
  have hc1 := (cell_of_row w2 w.heap.size 1 _ _ (0, 0) hblk).trans (show _ = some (Value.bool false) from rfl)
  have hf0 : w2.frozen? ⟨w.heap.size, 0, none⟩ = false := by simp [World.frozen?, hblk]
  have hf1 : w2.frozen? ⟨w.heap.size, 1, none⟩ = false := by simp [World.frozen?, hblk]
  have HBK := Lib.hid hblk
  clear hsz hblk
  have HR := Lib.hid (rowTbl_is k)
  rcases lookup_rows hr k with ⟨h1, h2⟩ | ⟨v, r, h1, h2, A, n, c, rfl, hk⟩
  · rw [h1] at hlook
    have HN : Hid (rowsOf k = none) := by show _ = _; rw [← HR.out]; exact h2
    simp only [if_true, Option.getD_none, Option.isSome_none] at hlook
    clear HT' hm hr hbel hz h1 h2 HR
    go_wp2_with fail
    refine bodyPost_ret (v := .tuple #[.agg #[.slice none 0 0, .bool false], .bool false]) ?_ rfl ?_
    · obtain ⟨a0, a1⟩ := after2 (u := .slice none 0 0) (v := .bool false) (o := .cells #[.slice none 0 0, .bool false] 86) HBK.out
      simp [results, Tryz.results38, go_sem, a0, a1]
    · exact RowsPost.no HN.out (((HB.out.setCell (Nat.le_refl _) _).setCell (Nat.le_refl _) _).alloc (by simp; omega) _)
  · rw [h1] at hlook
    have HN : Hid (rowsOf k = some r) := by show _ = _; rw [← HR.out]; exact h2
    simp only [if_true, Option.getD_some, Option.isSome_some] at hlook
    have HK := Lib.hid hk
    clear HT' hm hr hbel hz h1 h2 HR hk
    go_wp2_with fail
    refine bodyPost_ret (v := .tuple #[.agg #[.slice A n c, .bool r.2], .bool true]) ?_ rfl ?_
    · obtain ⟨a0, a1⟩ := after2 (u := .slice A n c) (v := .bool r.2) (o := .cells #[.slice A n c, .bool r.2] 86) HBK.out
      simp [results, Tryz.results38, go_sem, a0, a1]
    · refine RowsPost.yes HN.out ⟨A, n, c, rfl, HK.out.keepBlock (b := w.heap.size) HBK.out ?_⟩ (((HB.out.setCell (Nat.le_refl _) _).setCell (Nat.le_refl _) _).alloc (by simp; omega) _)
      intro i hi hne
      rw [Below.heap_alloc _ _ _ (by simpa using hi), Below.heap_setCell _ _ _ _ hne, Below.heap_setCell _ _ _ _ hne]
end Go.Proofs.YtjdofndkdkeapaaGreatDoor
