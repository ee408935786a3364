/- Maps keyed by small numbers, of whatever elements: what a block holds, entry by entry. No program in sight. -/
import Derived.Test.YtjdofndkdkeapaaGreatDoorMem
import Derived.Maps.OwnSet
namespace Go.Proofs.YtjdofndkdkeapaaGreatDoor
open Go.RowKit Go.MapKept Go.ChangeMaps

/-- Block b is a map whose entries have, in order, these keys and values. -/
def MapIs (w : World) (b : Nat) (l : List (Nat × Value)) : Prop :=
  ∃ es clock, w.heap[b]? = some (.map es clock) ∧ es.toList.map (fun e => (e.key, e.val)) = l.map (fun p => (Value.int .u8 p.1, p.2))

theorem MapIs.lt {w : World} {b : Nat} {l : List (Nat × Value)} (h : MapIs w b l) : b < w.heap.size := by
  obtain ⟨es, clock, hb, _⟩ := h
  exact (Array.getElem?_eq_some_iff.1 hb).1
theorem MapIs.made (w : World) : MapIs (w.alloc (.map #[] 0)) w.heap.size [] := ⟨#[], 0, heap_alloc_new w _, rfl⟩
theorem MapIs.kept {w w' : World} {b : Nat} {l : List (Nat × Value)} {row : Option Nat} (h : MapIs w b l) (hg : w.grownBy w' row) (hne : some b ≠ row) : MapIs w' b l := by
  have hlt := h.lt
  obtain ⟨es, clock, hb, e⟩ := h
  exact ⟨es, clock, (hg.block b hlt hne).trans hb, e⟩
theorem MapIs.below {w w' : World} {b : Nat} {l : List (Nat × Value)} (h : MapIs w b l) (hb : Below w.heap.size w w') : MapIs w' b l := by
  have hlt := h.lt
  obtain ⟨es, clock, hh, e⟩ := h
  exact ⟨es, clock, (hb.block b hlt).trans hh, e⟩

theorem isKey_u8 (n : Int) : IsKey (.int .u8) (.int .u8 n) := by simp [IsKey]

theorem mapIs_keys {l : List (Nat × Value)} {es : Array MapEntry} (h : es.toList.map (fun e => (e.key, e.val)) = l.map (fun p => (Value.int .u8 p.1, p.2))) : ∀ x ∈ es.toList, IsKey (.int .u8) x.key := by
  intro x hx
  have : (x.key, x.val) ∈ es.toList.map (fun e => (e.key, e.val)) := List.mem_map.2 ⟨x, hx, rfl⟩
  rw [h] at this
  obtain ⟨p, _, e⟩ := List.mem_map.1 this
  injection e with e1 e2
  rw [← e1]; exact isKey_u8 _

theorem MapIs.insert {P : Program} {t kt e : TypeId} (ht : P.underlying t = some (.map kt e)) (hk : P.underlying kt = some (.int .u8)) {w : World} {b : Nat} {l : List (Nat × Value)} (h : MapIs w b l) {k : Nat} (v : Value) (hn : (l.all fun p => p.1 != k) = true) :
    ∃ w', (Instr.mapUpdate t (.map (some b)) (.int .u8 k) v).run P w = .ok () w' ∧ MapIs w' b (l ++ [(k, v)]) ∧ w.grownBy w' (some b) := by
  obtain ⟨es, clock, hb, he⟩ := h
  have hks := mapIs_keys he
  rcases findNow_spec (isKey_u8 (k : Int)) es.toList 0 hks with ⟨h1, _⟩ | ⟨j, e0, _, h2, h3⟩
  · refine ⟨setBlock w b (.map (es.push { key := .int .u8 k, val := v, born := clock }) (clock + 1)), ?_, ⟨_, _, heap_setBlock_same hb _, ?_⟩, ⟨rfl, rfl, rfl, by simp [setBlock], fun i _ hi => heap_setBlock_other hb _ (fun e => hi (by rw [e]))⟩⟩
    · simp [Instr.mapUpdate, run_underlying ht, MapKept.run_getObj_map hb, run_checkKey hk (isKey_u8 _), run_findKey hk h1, MapKept.run_setObj_map _ hb, Result.andThen, setBlock]
    · simp [he]
  · exfalso
    have hm : (e0.key, e0.val) ∈ es.toList.map (fun e => (e.key, e.val)) := List.mem_map.2 ⟨e0, List.mem_of_getElem? h2, rfl⟩
    rw [he] at hm
    obtain ⟨p, hp, e⟩ := List.mem_map.1 hm
    injection e with e1 _
    rw [h3] at e1
    injection e1 with _ e1
    have := List.all_eq_true.1 hn p hp
    simp at this
    omega

theorem wpList_insert_u8 {P : Program} (w : World) {ops : Array Oper} {rest : List Oper} {o : Oper} {a : Act} {Q : Exit → Act → World → Prop}
    (hg : o.guard = none) (m x v : Operand) (t : TypeId) (hop : o.op = Op.insert t m x v) (kt e : TypeId) (ht : P.underlying t = some (.map kt e)) (hk : P.underlying kt = some (.int .u8)) (b : Nat) (l : List (Nat × Value))
    (hm : a.eval m = .map (some b)) (h : MapIs w b l) (k : Nat) (val : Value) (hx : a.eval x = .int .u8 k) (hv : a.eval v = val) (hn : (l.all fun p => p.1 != k) = true)
    (hK : ∀ w', MapIs w' b (l ++ [(k, val)]) → w.grownBy w' (some b) → wpList P ops Q rest (a.put o.dst undef) w') :
    wpList P ops Q (o :: rest) a w := by
  refine wpList_plain hg fun K' hK' => ?_
  obtain ⟨w', hrun, r1, r2⟩ := h.insert ht hk val hn
  unfold Oper.wp
  simp [execOp, hop, hm, hx, hv, hrun, Result.andThen]
  exact hK' _ _ (hK w' r1 r2)

theorem findNow_list : ∀ (es : List MapEntry) (l : List (Nat × Value)) (k i : Nat), es.map (fun e => (e.key, e.val)) = l.map (fun p => (Value.int .u8 p.1, p.2)) →
    ∃ r, Instr.findNow (.int .u8) (.int .u8 (k : Int)) es i = some r ∧ r.map (·.2) = l.lookup k
  | [], [], _, _, _ => ⟨none, rfl, rfl⟩
  | [], _ :: _, _, _, h => by simp at h
  | _ :: _, [], _, _, h => by simp at h
  | e :: es, p :: l, k, i, h => by
    simp only [List.map_cons, List.cons.injEq, Prod.mk.injEq] at h
    obtain ⟨⟨h1, h2⟩, h3⟩ := h
    obtain ⟨q, v⟩ := p
    simp only at h1 h2
    by_cases hk : k = q
    · subst hk
      refine ⟨some (i, e.val), ?_, ?_⟩
      · simp [Instr.findNow, Instr.sameNow, h1]
      · simp [List.lookup, h2]
    · obtain ⟨r, hr, hr2⟩ := findNow_list es l k (i + 1) h3
      refine ⟨r, ?_, ?_⟩
      · have : ((k : Int) == q) = false := by simp; omega
        simp [Instr.findNow, Instr.sameNow, h1, this, hr]
      · have : (k == q) = false := by simp [hk]
        simp [List.lookup, this, hr2]

theorem MapIs.look {P : Program} {t kt e : TypeId} (ht : P.underlying t = some (.map kt e)) (hk : P.underlying kt = some (.int .u8)) {w : World} {b : Nat} {l : List (Nat × Value)} (h : MapIs w b l) (k : Nat) {z : Value} (hz : (zeroValue e).run P w = .ok z w) (ok : Bool) :
    (Instr.lookup t (.map (some b)) (.int .u8 k) ok).run P w = .ok (if ok then .tuple #[(l.lookup k).getD z, .bool (l.lookup k).isSome] else (l.lookup k).getD z) w := by
  obtain ⟨es, clock, hb, he⟩ := h
  obtain ⟨r, h1, h2⟩ := findNow_list es.toList l k 0 he
  cases r with
  | none =>
    rw [← h2]
    simp [Instr.lookup, run_underlying ht, MapKept.run_getObj_map hb, run_checkKey hk (isKey_u8 _), run_findKey hk h1, hz, Result.andThen]
  | some y =>
    rw [← h2]
    simp [Instr.lookup, run_underlying ht, MapKept.run_getObj_map hb, run_checkKey hk (isKey_u8 _), run_findKey hk h1, Result.andThen]

theorem wpList_lookup_u8 {P : Program} (w : World) {ops : Array Oper} {rest : List Oper} {o : Oper} {a : Act} {Q : Exit → Act → World → Prop}
    (hg : o.guard = none) (m x : Operand) (t : TypeId) (hop : o.op = Op.lookup t m x true) (kt e : TypeId) (ht : P.underlying t = some (.map kt e)) (hk : P.underlying kt = some (.int .u8)) (b : Nat) (l : List (Nat × Value)) {z : Value} (hz : ∀ w, (zeroValue e).run P w = .ok z w)
    (hm : a.eval m = .map (some b)) (h : MapIs w b l) (k : Nat) (hx : a.eval x = .int .u8 k) (v : Value) (ok : Bool) (hv : (l.lookup k).getD z = v) (hok : (l.lookup k).isSome = ok)
    (hK : wpList P ops Q rest (a.put o.dst (.tuple #[v, .bool ok])) w) :
    wpList P ops Q (o :: rest) a w := by
  refine wpList_plain hg fun K' hK' => ?_
  have hrun := h.look ht hk k (hz w) true
  rw [hv, hok] at hrun
  unfold Oper.wp
  simp [execOp, hop, hm, hx, hrun, Result.andThen]
  exact hK' _ _ hK
theorem wpList_lookup1_u8 {P : Program} (w : World) {ops : Array Oper} {rest : List Oper} {o : Oper} {a : Act} {Q : Exit → Act → World → Prop}
    (hg : o.guard = none) (m x : Operand) (t : TypeId) (hop : o.op = Op.lookup t m x false) (kt e : TypeId) (ht : P.underlying t = some (.map kt e)) (hk : P.underlying kt = some (.int .u8)) (b : Nat) (l : List (Nat × Value)) {z : Value} (hz : ∀ w, (zeroValue e).run P w = .ok z w)
    (hm : a.eval m = .map (some b)) (h : MapIs w b l) (k : Nat) (hx : a.eval x = .int .u8 k) (v : Value) (hv : (l.lookup k).getD z = v)
    (hK : wpList P ops Q rest (a.put o.dst v) w) :
    wpList P ops Q (o :: rest) a w := by
  refine wpList_plain hg fun K' hK' => ?_
  have hrun := h.look ht hk k (hz w) false
  simp only [Bool.false_eq_true, if_false, hv] at hrun
  unfold Oper.wp
  simp [execOp, hop, hm, hx, hrun, Result.andThen]
  exact hK' _ _ hK
end Go.Proofs.YtjdofndkdkeapaaGreatDoor
