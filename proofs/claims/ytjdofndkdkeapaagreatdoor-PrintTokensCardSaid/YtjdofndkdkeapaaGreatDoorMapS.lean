/- Maps keyed by strings, of whatever elements: what a block holds, entry by entry. No program in sight. -/
import Derived.Test.YtjdofndkdkeapaaGreatDoorMem
import Derived.Test.YtjdofndkdkeapaaGreatDoorLexBase
import Derived.Maps.OwnSet
namespace Go.Proofs.YtjdofndkdkeapaaGreatDoor
open Go.RowKit Go.MapKept Go.ChangeMaps

/-- Block b is a map whose entries have, in order, these keys and values. -/
def MapS (w : World) (b : Nat) (l : List (Bytes × Value)) : Prop :=
  ∃ es clock, w.heap[b]? = some (.map es clock) ∧ es.toList.map (fun e => (e.key, e.val)) = l.map (fun p => (Value.string (sb p.1), p.2))

theorem MapS.lt {w : World} {b : Nat} {l : List (Bytes × Value)} (h : MapS w b l) : b < w.heap.size := by
  obtain ⟨es, clock, hb, _⟩ := h
  exact (Array.getElem?_eq_some_iff.1 hb).1
theorem MapS.made (w : World) : MapS (w.alloc (.map #[] 0)) w.heap.size [] := ⟨#[], 0, heap_alloc_new w _, rfl⟩
theorem MapS.kept {w w' : World} {b : Nat} {l : List (Bytes × Value)} {row : Option Nat} (h : MapS w b l) (hg : w.grownBy w' row) (hne : some b ≠ row) : MapS w' b l := by
  have hlt := h.lt
  obtain ⟨es, clock, hb, e⟩ := h
  exact ⟨es, clock, (hg.block b hlt hne).trans hb, e⟩
theorem MapS.below {w w' : World} {b : Nat} {l : List (Bytes × Value)} (h : MapS w b l) (hb : Below w.heap.size w w') : MapS w' b l := by
  have hlt := h.lt
  obtain ⟨es, clock, hh, e⟩ := h
  exact ⟨es, clock, (hb.block b hlt).trans hh, e⟩

theorem sb_inj {a b : Bytes} (h : sb a = sb b) : a = b := by
  have := congrArg bl h
  simpa [bl, sb] using this
theorem sb_beq (a b : Bytes) : (sb a == sb b) = decide (a = b) := by
  show (a.toArray == b.toArray) = _
  by_cases h : a = b
  · subst h; simp
  · simp [h]
theorem isKey_str (s : ByteArray) : IsKey .string (.string s) := by simp [IsKey]

theorem mapS_keys {l : List (Bytes × Value)} {es : Array MapEntry} (h : es.toList.map (fun e => (e.key, e.val)) = l.map (fun p => (Value.string (sb p.1), p.2))) : ∀ x ∈ es.toList, IsKey .string x.key := by
  intro x hx
  have : (x.key, x.val) ∈ es.toList.map (fun e => (e.key, e.val)) := List.mem_map.2 ⟨x, hx, rfl⟩
  rw [h] at this
  obtain ⟨p, _, e⟩ := List.mem_map.1 this
  injection e with e1 e2
  rw [← e1]; exact isKey_str _

theorem MapS.insert {P : Program} {t kt e : TypeId} (ht : P.underlying t = some (.map kt e)) (hk : P.underlying kt = some .string) {w : World} {b : Nat} {l : List (Bytes × Value)} (h : MapS w b l) {k : Bytes} (v : Value) (hn : (l.all fun p => p.1 != k) = true) :
    ∃ w', (Instr.mapUpdate t (.map (some b)) (.string (sb k)) v).run P w = .ok () w' ∧ MapS w' b (l ++ [(k, v)]) ∧ w.grownBy w' (some b) := by
  obtain ⟨es, clock, hb, he⟩ := h
  have hks := mapS_keys he
  rcases findNow_spec (isKey_str (sb k)) es.toList 0 hks with ⟨h1, _⟩ | ⟨j, e0, _, h2, h3⟩
  · refine ⟨setBlock w b (.map (es.push { key := .string (sb k), val := v, born := clock }) (clock + 1)), ?_, ⟨_, _, heap_setBlock_same hb _, ?_⟩, ⟨rfl, rfl, rfl, by simp [setBlock], fun i _ hi => heap_setBlock_other hb _ (fun e => hi (by rw [e]))⟩⟩
    · simp [Instr.mapUpdate, run_underlying ht, MapKept.run_getObj_map hb, run_checkKey hk (isKey_str _), run_findKey hk h1, MapKept.run_setObj_map _ hb, Result.andThen, setBlock]
    · simp [he]
  · exfalso
    have hm : (e0.key, e0.val) ∈ es.toList.map (fun e => (e.key, e.val)) := List.mem_map.2 ⟨e0, List.mem_of_getElem? h2, rfl⟩
    rw [he] at hm
    obtain ⟨p, hp, e⟩ := List.mem_map.1 hm
    injection e with e1 _
    rw [h3] at e1
    injection e1 with e1
    have := List.all_eq_true.1 hn p hp
    simp at this
    exact this (sb_inj e1)

theorem wpList_insert_str {P : Program} (w : World) {ops : Array Oper} {rest : List Oper} {o : Oper} {a : Act} {Q : Exit → Act → World → Prop}
    (hg : o.guard = none) (m x v : Operand) (t : TypeId) (hop : o.op = Op.insert t m x v) (kt e : TypeId) (ht : P.underlying t = some (.map kt e)) (hk : P.underlying kt = some .string) (b : Nat) (l : List (Bytes × Value))
    (hm : a.eval m = .map (some b)) (h : MapS w b l) (k : Bytes) (val : Value) (hx : a.eval x = .string (sb k)) (hv : a.eval v = val) (hn : (l.all fun p => p.1 != k) = true)
    (hK : ∀ w', MapS w' b (l ++ [(k, val)]) → w.grownBy w' (some b) → wpList P ops Q rest (a.put o.dst undef) w') :
    wpList P ops Q (o :: rest) a w := by
  refine wpList_plain hg fun K' hK' => ?_
  obtain ⟨w', hrun, r1, r2⟩ := h.insert ht hk val hn
  unfold Oper.wp
  simp [execOp, hop, hm, hx, hv, hrun, Result.andThen]
  exact hK' _ _ (hK w' r1 r2)

theorem findNow_strs : ∀ (es : List MapEntry) (l : List (Bytes × Value)) (k : Bytes) (i : Nat), es.map (fun e => (e.key, e.val)) = l.map (fun p => (Value.string (sb p.1), p.2)) →
    ∃ r, Instr.findNow .string (.string (sb k)) es i = some r ∧ r.map (·.2) = l.lookup k
  | [], [], _, _, _ => ⟨none, rfl, rfl⟩
  | [], _ :: _, _, _, h => by simp at h
  | _ :: _, [], _, _, h => by simp at h
  | e :: es, p :: l, k, i, h => by
    simp only [List.map_cons, List.cons.injEq, Prod.mk.injEq] at h
    obtain ⟨⟨h1, h2⟩, h3⟩ := h
    obtain ⟨q, v⟩ := p
    simp only at h1 h2
    by_cases hk : k = q
    · subst hk
      refine ⟨some (i, e.val), ?_, ?_⟩
      · simp [Instr.findNow, Instr.sameNow, h1, sb_beq]
      · simp [List.lookup, h2]
    · obtain ⟨r, hr, hr2⟩ := findNow_strs es l k (i + 1) h3
      refine ⟨r, ?_, ?_⟩
      · have : (sb k == sb q) = false := by rw [sb_beq]; simp [hk]
        simp [Instr.findNow, Instr.sameNow, h1, this, hr]
      · have : (k == q) = false := by simp [hk]
        simp [List.lookup, this, hr2]

theorem MapS.look {P : Program} {t kt e : TypeId} (ht : P.underlying t = some (.map kt e)) (hk : P.underlying kt = some .string) {w : World} {b : Nat} {l : List (Bytes × Value)} (h : MapS w b l) (k : Bytes) {z : Value} (hz : (zeroValue e).run P w = .ok z w) (ok : Bool) :
    (Instr.lookup t (.map (some b)) (.string (sb k)) ok).run P w = .ok (if ok then .tuple #[(l.lookup k).getD z, .bool (l.lookup k).isSome] else (l.lookup k).getD z) w := by
  obtain ⟨es, clock, hb, he⟩ := h
  obtain ⟨r, h1, h2⟩ := findNow_strs es.toList l k 0 he
  cases r with
  | none =>
    rw [← h2]
    simp [Instr.lookup, run_underlying ht, MapKept.run_getObj_map hb, run_checkKey hk (isKey_str _), run_findKey hk h1, hz, Result.andThen]
  | some y =>
    rw [← h2]
    simp [Instr.lookup, run_underlying ht, MapKept.run_getObj_map hb, run_checkKey hk (isKey_str _), run_findKey hk h1, Result.andThen]

theorem wpList_lookup_str {P : Program} (w : World) {ops : Array Oper} {rest : List Oper} {o : Oper} {a : Act} {Q : Exit → Act → World → Prop}
    (hg : o.guard = none) (m x : Operand) (t : TypeId) (hop : o.op = Op.lookup t m x true) (kt e : TypeId) (ht : P.underlying t = some (.map kt e)) (hk : P.underlying kt = some .string) (b : Nat) (l : List (Bytes × Value)) {z : Value} (hz : ∀ w, (zeroValue e).run P w = .ok z w)
    (hm : a.eval m = .map (some b)) (h : MapS w b l) (k : Bytes) (hx : a.eval x = .string (sb k)) (v : Value) (ok : Bool) (hv : (l.lookup k).getD z = v) (hok : (l.lookup k).isSome = ok)
    (hK : wpList P ops Q rest (a.put o.dst (.tuple #[v, .bool ok])) w) :
    wpList P ops Q (o :: rest) a w := by
  refine wpList_plain hg fun K' hK' => ?_
  have hrun := h.look ht hk k (hz w) true
  rw [hv, hok] at hrun
  unfold Oper.wp
  simp [execOp, hop, hm, hx, hrun, Result.andThen]
  exact hK' _ _ hK
theorem wpList_lookup1_str {P : Program} (w : World) {ops : Array Oper} {rest : List Oper} {o : Oper} {a : Act} {Q : Exit → Act → World → Prop}
    (hg : o.guard = none) (m x : Operand) (t : TypeId) (hop : o.op = Op.lookup t m x false) (kt e : TypeId) (ht : P.underlying t = some (.map kt e)) (hk : P.underlying kt = some .string) (b : Nat) (l : List (Bytes × Value)) {z : Value} (hz : ∀ w, (zeroValue e).run P w = .ok z w)
    (hm : a.eval m = .map (some b)) (h : MapS w b l) (k : Bytes) (hx : a.eval x = .string (sb k)) (v : Value) (hv : (l.lookup k).getD z = v)
    (hK : wpList P ops Q rest (a.put o.dst v) w) :
    wpList P ops Q (o :: rest) a w := by
  refine wpList_plain hg fun K' hK' => ?_
  have hrun := h.look ht hk k (hz w) false
  simp only [Bool.false_eq_true, if_false, hv] at hrun
  unfold Oper.wp
  simp [execOp, hop, hm, hx, hrun, Result.andThen]
  exact hK' _ _ hK
end Go.Proofs.YtjdofndkdkeapaaGreatDoor
