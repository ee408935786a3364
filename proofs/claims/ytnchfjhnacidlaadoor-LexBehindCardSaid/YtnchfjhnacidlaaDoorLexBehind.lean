/- LexBehind: what stands behind a text, with a byte 10 between, changes none of its tokens. No condition. -/
import Derived.Test.YtnchfjhnacidlaaDoorLexPlain
import Derived.Test.YtnchfjhnacidlaaDoorLexLaw2
import Derived.Test.YtnchfjhnacidlaaDoorLexEnv
import Derived.ShutString
import Derived.BigQuiet
import Derived.SizedLaws
namespace Go.Proofs.YtnchfjhnacidlaaDoor
open Go.RowKit

theorem sb_join (s m : ByteArray) : s ++ (⟨#[10]⟩ : ByteArray) ++ m = sb (bl s ++ 10 :: bl m) := by
  apply bl_inj
  rw [bl_mk, Joins.data_append, Joins.data_append]
  simp
theorem lex_behind_bad {s m : ByteArray} {er p : Nat} (h : lexOf (bl s) = .error (er, p)) : lexOf (bl (s ++ (⟨#[10]⟩ : ByteArray) ++ m)) = .error (er, p) := by
  rw [sb_join, bl_mk, lex_joined, h]; rfl
theorem lex_behind_bad2 {s m : ByteArray} {ts : List Tok} {er p : Nat} (h : lexOf (bl s) = .ok ts) (h2 : lexOf (bl m) = .error (er, p)) : lexOf (bl (s ++ (⟨#[10]⟩ : ByteArray) ++ m)) = .error (er, p + (s.size + 1)) := by
  rw [sb_join, bl_mk, lex_joined, h, h2]; rfl
theorem lex_behind_ok {s m : ByteArray} {ts us : List Tok} (h : lexOf (bl s) = .ok ts) (h2 : lexOf (bl m) = .ok us) : lexOf (bl (s ++ (⟨#[10]⟩ : ByteArray) ++ m)) = .ok (ts.dropLast ++ us.map (Tok.shift (s.size + 1))) := by
  rw [sb_join, bl_mk, lex_joined, h, h2]; rfl

/-- Tokens' answer, whichever. -/
def TokAny (w : World) (e : Ending) (w' : World) : Prop := Below w.heap.size w w' ∧ ∃ (v : Value) (i j : Nat), e = .returned (.tuple #[v, .agg #[.int .i64 i, .int .i64 j]])
theorem p_tokens_any (s : ByteArray) (w : World) (hE : Env w) (hs : s.size ≤ 1073741824) : Calls Tryd.prog 9 #[.string s] w (TokAny w) := by
  cases hr : lexOf (bl s) with
  | ok ts =>
    refine (p_tokens_ok s w hE hs hr).mono ?_
    rintro e w' ⟨hb, g, c, rfl, _⟩
    exact ⟨hb, _, 0, 0, rfl⟩
  | error e =>
    refine (p_tokens_bad s w hE hs (er := e.1) (p := e.2) hr).mono ?_
    rintro e' w' ⟨hb, rfl⟩
    exact ⟨hb, _, _, _, rfl⟩

set_option maxHeartbeats 1000000 in
set_option maxRecDepth 20000 in
theorem behind_bad (s m : ByteArray) (w : World) (hE : Env w) (hs : s.size + m.size ≤ 2000) (er p : Nat) (hr : lexOf (bl s) = .error (er, p)) : Calls Tryd.prog 7 #[.string s, .string m] w (NamePost true w) := by
  have HE := Lib.hid hE
  have HR := Lib.hid hr
  have HJ := Lib.hid (lex_behind_bad (m := m) hr)
  have hjz : (s ++ (⟨#[10]⟩ : ByteArray) ++ m).size ≤ 1073741824 := by rw [sb_join, mk_size]; simp; omega
  have hjz2 : (s ++ (⟨#[10]⟩ : ByteArray)).size = s.size + 1 := by rw [ByteArray.size_append]; rfl
  obtain ⟨her, hp⟩ := lexOf_fault hr
  have hne : ((er : Int) != 0) = true := by rcases her with rfl | rfl <;> rfl
  have hsm : s.size ≤ 2000 := by omega
  have hmm : m.size ≤ 2000 := by omega
  clear hE hr her hp
  go_enter Tryd.func7, Tryd.ntmps7
  go_wp2_with fail
  refine (p_awake _ HE.out).mono ?_
  rintro e w1 ⟨rfl, hb1⟩
  have HB1 := Lib.hid hb1
  clear hb1
  go_wp2_with fail
  refine (p_tokens_bad s _ (HE.out.below HB1.out (Nat.le_refl _)) (by omega) HR.out).mono ?_
  rintro e w2 ⟨hb2, rfl⟩
  have HB2 : Hid (Below w.heap.size w (w2.alloc (.cells #[.int .i64 er, .int .i64 p] 26))) := HB1.out.trans ((hb2.alloc hb2.size _).mono HB1.out.size)
  clear hb2
  go_wp2_with fail
  refine (p_tokens_any m _ (HE.out.below HB2.out (Nat.le_refl _)) (by omega)).mono ?_
  rintro e w3 ⟨hb3, v, er2, p2, rfl⟩
  have HA3 : Hid (Below (w2.heap.size + 1) (w2.alloc (.cells #[.int .i64 er, .int .i64 p] 26)) (w3.alloc (.cells #[.int .i64 er2, .int .i64 p2] 26))) := by
    show Below _ _ _
    have := hb3.alloc hb3.size (.cells #[.int .i64 er2, .int .i64 p2] 26)
    simpa using this
  have HB3 : Hid (Below w.heap.size w (w3.alloc (.cells #[.int .i64 er2, .int .i64 p2] 26))) := HB2.out.trans (HA3.out.mono (by have := HB2.out.size; simpa using this))
  clear hb3
  go_wp2_with fail
  refine (p_tokens_bad _ _ (HE.out.below HB3.out (Nat.le_refl _)) hjz HJ.out).mono ?_
  rintro e w4 ⟨hb4, rfl⟩
  have HA4 : Hid (Below (w3.heap.size + 1) (w3.alloc (.cells #[.int .i64 er2, .int .i64 p2] 26)) (w4.alloc (.cells #[.int .i64 er, .int .i64 p] 26))) := by
    show Below _ _ _
    have := hb4.alloc hb4.size (.cells #[.int .i64 er, .int .i64 p] 26)
    simpa using this
  have HB4 : Hid (Below w.heap.size w (w4.alloc (.cells #[.int .i64 er, .int .i64 p] 26))) := HB3.out.trans (HA4.out.mono (by have := HB3.out.size; simpa using this))
  clear hb4
  have h24 := HA3.out.trans (HA4.out.mono (by have := HA3.out.size; simpa using this))
  obtain ⟨f20, f21⟩ := box2 ((h24.block w2.heap.size (by omega)).trans (heap_alloc_new w2 _))
  clear HA3 HA4 HB2 HB3 HB1 h24
  go_wp2
  go_ret
  exact ⟨ret_bool (by simp), HB4.out⟩

set_option maxHeartbeats 1000000 in
set_option maxRecDepth 20000 in
theorem behind_bad2 (s m : ByteArray) (w : World) (hE : Env w) (hs : s.size + m.size ≤ 2000) (ts : List Tok) (hr : lexOf (bl s) = .ok ts) (er p : Nat) (hr2 : lexOf (bl m) = .error (er, p)) : Calls Tryd.prog 7 #[.string s, .string m] w (NamePost true w) := by
  have HE := Lib.hid hE
  have HR := Lib.hid hr
  have HR2 := Lib.hid hr2
  obtain ⟨q, hq⟩ : ∃ q, q = p + (s.size + 1) := ⟨_, rfl⟩
  have HJ : Hid (lexOf (bl (s ++ (⟨#[10]⟩ : ByteArray) ++ m)) = .error (er, q)) := by rw [hq]; exact lex_behind_bad2 hr hr2
  have HQ := Lib.hid hq
  clear hq
  have hjz : (s ++ (⟨#[10]⟩ : ByteArray) ++ m).size ≤ 1073741824 := by rw [sb_join, mk_size]; simp; omega
  have hjz2 : (s ++ (⟨#[10]⟩ : ByteArray)).size = s.size + 1 := by rw [ByteArray.size_append]; rfl
  obtain ⟨her, hp⟩ := lexOf_fault hr2
  rw [bl_len] at hp
  have hne : ((er : Int) != 0) = true := by rcases her with rfl | rfl <;> rfl
  have hsm : s.size ≤ 2000 := by omega
  have hmm : m.size ≤ 2000 := by omega
  have hpm : p ≤ 2000 := by omega
  clear hE hr hr2 her hp
  go_enter Tryd.func7, Tryd.ntmps7
  go_wp2_with fail
  refine (p_awake _ HE.out).mono ?_
  rintro e w1 ⟨rfl, hb1⟩
  have HB1 := Lib.hid hb1
  clear hb1
  go_wp2_with fail
  refine (p_tokens_ok s _ (HE.out.below HB1.out (Nat.le_refl _)) (by omega) HR.out).mono ?_
  rintro e w2 ⟨hb2, g2, c2, rfl, ho2⟩
  have HB2 : Hid (Below w.heap.size w (w2.alloc (.cells #[.int .i64 0, .int .i64 0] 26))) := HB1.out.trans ((hb2.alloc hb2.size _).mono HB1.out.size)
  clear hb2 ho2
  go_wp2_with fail
  refine (p_tokens_bad m _ (HE.out.below HB2.out (Nat.le_refl _)) (by omega) HR2.out).mono ?_
  rintro e w3 ⟨hb3, rfl⟩
  have HA3 : Hid (Below (w2.heap.size + 1) (w2.alloc (.cells #[.int .i64 0, .int .i64 0] 26)) (w3.alloc (.cells #[.int .i64 er, .int .i64 p] 26))) := by
    show Below _ _ _
    have := hb3.alloc hb3.size (.cells #[.int .i64 er, .int .i64 p] 26)
    simpa using this
  have HB3 : Hid (Below w.heap.size w (w3.alloc (.cells #[.int .i64 er, .int .i64 p] 26))) := HB2.out.trans (HA3.out.mono (by have := HB2.out.size; simpa using this))
  clear hb3
  go_wp2_with fail
  refine (p_tokens_bad _ _ (HE.out.below HB3.out (Nat.le_refl _)) hjz HJ.out).mono ?_
  rintro e w4 ⟨hb4, rfl⟩
  have HA4 : Hid (Below (w3.heap.size + 1) (w3.alloc (.cells #[.int .i64 er, .int .i64 p] 26)) (w4.alloc (.cells #[.int .i64 er, .int .i64 q] 26))) := by
    show Below _ _ _
    have := hb4.alloc hb4.size (.cells #[.int .i64 er, .int .i64 q] 26)
    simpa using this
  have HB4 : Hid (Below w.heap.size w (w4.alloc (.cells #[.int .i64 er, .int .i64 q] 26))) := HB3.out.trans (HA4.out.mono (by have := HB3.out.size; simpa using this))
  clear hb4
  have h24 := HA3.out.trans (HA4.out.mono (by have := HA3.out.size; simpa using this))
  obtain ⟨f20, f21⟩ := box2 ((h24.block w2.heap.size (by omega)).trans (heap_alloc_new w2 _))
  obtain ⟨f30, f31⟩ := box2 ((HA4.out.block w3.heap.size (by omega)).trans (heap_alloc_new w3 _))
  clear HA3 HA4 HB2 HB3 HB1 h24
  go_wp2
  · go_ret
    have hq' : (q : Int) = p + s.size + 1 := by have := HQ.out; omega
    have hf := HB4.out
    rw [hq'] at hf
    exact ⟨ret_bool (by simp), hf⟩
  · rename_i hh
    exact absurd (by have := HQ.out; omega) hh

/-! ### Rows written in place, and an append under a guard -/
theorem own_put {w : World} {base : Nat} {e : TypeId} {size g n cap : Nat} {xs : List Value} (h : w.ownsRow base e size (.slice (some ⟨g, 0, none⟩) n cap) n xs) (j : Nat) (u : Value) :
    (w.setCell ⟨g, j, none⟩ u).ownsRow base e size (.slice (some ⟨g, 0, none⟩) n cap) n (xs.set j u) := by
  obtain ⟨h1, h2⟩ := h
  refine ⟨by simpa using h1, h2.imp id ?_⟩
  rintro ⟨g', cap', cur, hv, hg, hh, hc, hm, hs, ht⟩
  injection hv with e1 e2 e3
  injection e1 with e1
  injection e1 with e1
  subst e1 e3
  refine ⟨g, cap, cur.setIfInBounds j u, rfl, hg, ?_, hc, hm, by simpa using hs, ?_⟩
  · simp [World.setCell, Array.getElem?_modify, hh]
  · rw [← ht]
    simp [List.take_set]
theorem own_soft {w : World} {base : Nat} {e : TypeId} {size g n cap : Nat} {xs : List Value} (h : w.ownsRow base e size (.slice (some ⟨g, 0, none⟩) n cap) n xs) (j : Nat) : w.frozen? ⟨g, j, none⟩ = false := by
  rcases h.2 with ⟨hv, _⟩ | ⟨g', cap', cur, hv, hg, hh, _⟩
  · cases hv
  · injection hv with e1 e2 e3
    injection e1 with e1
    injection e1 with e1
    subst e1
    simp [World.frozen?, hh]
theorem tokCells_set : ∀ (ts : List Tok) (k : Nat) (t : Tok) (p : Nat), ts[k]? = some t → (tokCells ts).set (k * 3 + 2) (.int .i64 p) = tokCells (ts.set k ⟨t.kind, t.text, p⟩)
  | [], k, t, p, h => by simp at h
  | a :: ts, 0, t, p, h => by
    simp at h
    subst h
    rfl
  | a :: ts, k + 1, t, p, h => by
    have ih := tokCells_set ts k t p (by simpa using h)
    have e : tokCells (a :: ts) = tokV a ++ tokCells ts := by simp [tokCells]
    have e2 : tokCells (a :: ts.set k ⟨t.kind, t.text, p⟩) = tokV a ++ tokCells (ts.set k ⟨t.kind, t.text, p⟩) := by simp [tokCells]
    have hl : (tokV a).length = 3 := rfl
    rw [List.set_cons_succ, e, e2, ← ih, List.set_append_right _ _ (by omega), hl, show (k + 1) * 3 + 2 - 3 = k * 3 + 2 from by omega]
def mix (d j : Nat) (l : List Tok) : List Tok := (l.take j).map (Tok.shift d) ++ l.drop j
theorem mix_len (d j : Nat) (l : List Tok) : (mix d j l).length = l.length := by
  unfold mix
  simp
  omega
theorem mix_get {d j : Nat} {l : List Tok} (h : j < l.length) : (mix d j l)[j]? = some l[j] := by
  unfold mix
  rw [List.getElem?_append_right (by simp; omega)]
  simp [Nat.min_eq_left (Nat.le_of_lt h)]
theorem mix_set {d j : Nat} {l : List Tok} (h : j < l.length) : (mix d j l).set j (Tok.shift d l[j]) = mix d (j + 1) l := by
  unfold mix
  have h1 : ((l.take j).map (Tok.shift d)).length = j := by simp; omega
  rw [List.set_append_right _ _ (by omega), h1, Nat.sub_self, List.drop_eq_getElem_cons h, List.set_cons_zero, List.take_add_one, List.getElem?_eq_getElem h, List.map_append, List.append_assoc]
  rfl
theorem tokCells_app (a b : List Tok) : tokCells (a ++ b) = tokCells a ++ tokCells b := by simp [tokCells]
theorem wpList_append_on {P : Program} (w : World) {ops : Array Oper} {rest : List Oper} {o : Oper} {a : Act} {Q : Exit → Act → World → Prop} (hw : Region.wanted o (yielded ops a.tmps) = true) (s x : Operand) (t : TypeId)
    (ho : o.op = .call { callee := .builtin .append, args := #[s, x], argTypes := #[t, t] })
    (base : Nat) (e : TypeId) (i : TypeInfo) (z : Value) (size bytes : Nat) (ht : P.underlying t = some (.slice e)) (hi : P.info? e = some i) (hz : i.zero = some z)
    (hsize : i.size = size) (hby : i.bytes = bytes) (hzs : z.cells.size = size) (hsz : 0 < size)
    (v : Value) (n : Nat) (xs : List Value) (hs : a.eval s = v) (hown : w.ownsRow base e size v n xs)
    (ad : Addr) (m c : Nat) (news : List Value) (hx : a.eval x = .slice (some ad) m c) (hl : news.length = m * size) (hnews : ∀ j u, news[j]? = some u → w.cell? (ad.add j) = some u) (h1 : ∀ u ∈ news, u.oneCell' = true)
    (h63 : n + m ≤ maxLen) (hbytes : (n + m) * bytes ≤ 140737488355328) (hbase : base ≤ w.heap.size)
    (h : ∀ A cap w', w'.ownsRow base e size (.slice A (n + m) cap) (n + m) (xs ++ news) → w.grownBy w' v.ownBlock → wpList P ops Q rest (a.put o.dst (.slice A (n + m) cap)) w') :
    wpList P ops Q (o :: rest) a w := by
  refine BigFrame.wpList_want hw fun K hK => ?_
  obtain ⟨v', w', hr, h2, h3, h4, h5⟩ := run_append_own_at (P := P) w base t o.type e i z size bytes ht hi hz hsize hby hzs hsz v n xs hown ad m c news hl hnews h1 h63 hbytes hbase
  obtain ⟨A, cap, rfl, _, _⟩ := own_form h2
  unfold Oper.wp execOp
  simp only [ho, resolve, invoke, builtin, Sem.run_bind, Sem.run_pure, Result.andThen_ok, List.map_toArray, List.map_cons, List.map_nil, hs, hx, hr]
  exact hK _ _ (h A cap w' h2 h3)

theorem tokCells_one (ts : List Tok) : ∀ u ∈ tokCells ts, u.oneCell' = true := by
  intro u hu
  obtain ⟨t, _, ht⟩ := List.mem_flatMap.1 hu
  exact tokV_one t u ht
theorem wpList_tok_append (w : World) {ops : Array Oper} {rest : List Oper} {o : Oper} {a : Act} {Q : Exit → Act → World → Prop} (hw : Region.wanted o (yielded ops a.tmps) = true) (s x : Operand)
    (ho : o.op = .call { callee := .builtin .append, args := #[s, x], argTypes := #[23, 23] })
    (base : Nat) (v : Value) (n : Nat) (ts : List Tok) (hs : a.eval s = v) (hown : w.ownsRow base 38 3 v n (tokCells ts))
    (g m c : Nat) (us : List Tok) (hx : a.eval x = .slice (some ⟨g, 0, none⟩) m c) (hm : us.length = m) (hcells : ∀ j u, (tokCells us)[j]? = some u → w.cell? ⟨g, j, none⟩ = some u)
    (r : Nat) (hr : n + m = r) (hfew : r ≤ 2147483648) (hbase : base ≤ w.heap.size)
    (h : ∀ A cap w', w'.ownsRow base 38 3 (.slice A r cap) r (tokCells (ts ++ us)) → w.grownBy w' v.ownBlock → wpList Tryd.prog ops Q rest (a.put o.dst (.slice A r cap)) w') :
    wpList Tryd.prog ops Q (o :: rest) a w := by
  subst hr
  obtain ⟨i0, hi, hz0, hz1, hz2⟩ := info_parts Tryd.infoTok
  refine wpList_append_on w hw s x _ ho base 38 i0 _ 3 32 Tryd.underlying23 hi hz0 hz1 hz2 rfl (by omega) v n (tokCells ts) hs hown ⟨g, 0, none⟩ m c (tokCells us) hx (by rw [tokCells_len, hm])
    (fun j u hu => by rw [add_mid]; simpa using hcells j u hu) (tokCells_one us) (by unfold maxLen; omega) (by omega) hbase ?_
  intro A cap w' hown' hgr
  refine h A cap w' ?_ hgr
  rw [tokCells_app]
  exact hown'
theorem own_cap {w : World} {base : Nat} {e : TypeId} {size n c : Nat} {A : Option Addr} {xs : List Value} (h : w.ownsRow base e size (.slice A n c) n xs) : n ≤ c := by
  obtain ⟨A', c', hv, h1, _⟩ := own_form h
  injection hv with e1 e2 e3
  omega
theorem own_row_any {w : World} {base n c : Nat} {A : Option Addr} {ts : List Tok} (h : w.ownsRow base 38 3 (.slice A n c) n (tokCells ts)) (hn : ts.length = n) : TokRow w A n ts := by
  rcases h.2 with ⟨hv, h0⟩ | ⟨g, cap, cur, hv, _⟩
  · exact ⟨hn, fun h => by omega⟩
  · injection hv with e1 e2 e3
    subst e1
    exact own_row h hn
theorem cells_head {w : World} {g : Nat} {ts us : List Tok} (h : ∀ j u, (tokCells (ts ++ us))[j]? = some u → w.cell? ⟨g, j, none⟩ = some u) : ∀ j u, (tokCells ts)[j]? = some u → w.cell? ⟨g, j, none⟩ = some u := by
  intro j u hu
  refine h j u ?_
  rw [tokCells_app, List.getElem?_append_left (List.getElem?_eq_some_iff.1 hu).1]
  exact hu
theorem Stand.pos {s : Bytes} : ∀ {us : List Tok} {e : Nat}, Stand s e us → ∀ t ∈ us, t.pos ≤ s.length
  | [], _, _, t, ht => by simp at ht
  | u :: us, e, h, t, ht => by
    rcases List.mem_cons.1 ht with rfl | ht
    · have := h.2.2.1; omega
    · exact Stand.pos h.2.2.2.2 t ht
theorem lexOf_pos {s : Bytes} {ts : List Tok} (h : lexOf s = .ok ts) : ∀ t ∈ ts, t.pos ≤ s.length := by
  obtain ⟨us, rfl, hs, _⟩ := lexOf_stands h
  intro t ht
  rcases List.mem_append.1 ht with ht | ht
  · exact hs.pos t ht
  · simp at ht; rw [ht]; exact Nat.le_refl _
theorem mix_put {w : World} {base g n c j d z : Nat} {l : List Tok} (h : w.ownsRow base 38 3 (.slice (some ⟨g, 0, none⟩) n c) n (tokCells (mix (d + 1) j l))) (hn : l.length = n) (hj : j < n) (hp : ∀ t ∈ l, t.pos ≤ z) :
    ∃ p : Nat, p ≤ z ∧ w.cell? ⟨g, j * 3 + 2, none⟩ = some (.int .i64 p) ∧ (w.setCell ⟨g, j * 3 + 2, none⟩ (.int .i64 ((p : Int) + d + 1))).ownsRow base 38 3 (.slice (some ⟨g, 0, none⟩) n c) n (tokCells (mix (d + 1) (j + 1) l)) := by
  have hj2 : j < l.length := by omega
  have hrow := own_row h (by rw [mix_len]; exact hn)
  obtain ⟨g', t, hg, ht, _, _, b2⟩ := hrow.at_ (k := j) hj
  obtain rfl : g = g' := by injection hg with hg; injection hg
  rw [mix_get hj2] at ht
  injection ht with ht
  refine ⟨t.pos, by rw [← ht]; exact hp _ (List.getElem_mem hj2), b2, ?_⟩
  have hpb := own_put h (j * 3 + 2) (.int .i64 (l[j].pos + (d + 1) : Nat))
  rw [tokCells_set _ j l[j] _ (mix_get hj2)] at hpb
  have e1 : (⟨l[j].kind, l[j].text, l[j].pos + (d + 1)⟩ : Tok) = Tok.shift (d + 1) l[j] := rfl
  rw [e1, mix_set hj2, ht] at hpb
  have e2 : ((t.pos + (d + 1) : Nat) : Int) = (t.pos : Int) + d + 1 := by omega
  rw [e2] at hpb
  exact hpb

set_option maxHeartbeats 1000000 in
set_option maxRecDepth 20000 in
theorem behind_ok (s m : ByteArray) (w : World) (hE : Env w) (hs : s.size + m.size ≤ 2000) (aa bs : List Tok) (hr : lexOf (bl s) = .ok (aa ++ [⟨5, [], s.size⟩])) (hr2 : lexOf (bl m) = .ok bs) (hb0 : 0 < bs.length) : Calls Tryd.prog 7 #[.string s, .string m] w (NamePost true w) := by
  have HE := Lib.hid hE
  have HR := Lib.hid hr
  have HR2 := Lib.hid hr2
  obtain ⟨cs, hcs⟩ : ∃ cs, cs = aa ++ bs.map (Tok.shift (s.size + 1)) := ⟨_, rfl⟩
  have HJ : Hid (lexOf (bl (s ++ (⟨#[10]⟩ : ByteArray) ++ m)) = .ok cs) := by
    have := lex_behind_ok hr hr2
    rw [List.dropLast_concat] at this
    rw [hcs]
    exact this
  have hjz : (s ++ (⟨#[10]⟩ : ByteArray) ++ m).size ≤ 1073741824 := by rw [sb_join, mk_size]; simp; omega
  have hjz2 : (s ++ (⟨#[10]⟩ : ByteArray)).size = s.size + 1 := by rw [ByteArray.size_append]; rfl
  have hsm : s.size ≤ 2000 := by omega
  have hmm : m.size ≤ 2000 := by omega
  have hfa := lexOf_few hr
  have hfb := lexOf_few hr2
  rw [bl_len] at hfa hfb
  obtain ⟨N, hN⟩ : ∃ N, N = aa.length := ⟨_, rfl⟩
  obtain ⟨M, hM⟩ : ∃ M, M = bs.length := ⟨_, rfl⟩
  have hNa : (aa ++ [⟨5, [], s.size⟩] : List Tok).length = N + 1 := by simp [hN]
  have hCl : cs.length = N + M := by rw [hcs, hN, hM]; simp
  have hM0 : 0 < M := by omega
  have hN2 : N ≤ 2000 := by omega
  have hM2 : M ≤ 2001 := by omega
  have HN := Lib.hid hN
  have HM := Lib.hid hM
  have HNa := Lib.hid hNa
  have HCl := Lib.hid hCl
  have HCs := Lib.hid hcs
  clear hE hr hr2 hcs hfa hfb hN hM hNa hCl hb0
  go_enter Tryd.func7, Tryd.ntmps7
  go_wp2_with fail
  refine (p_awake _ HE.out).mono ?_
  rintro e w1 ⟨rfl, hb1⟩
  have HB1 := Lib.hid hb1
  clear hb1
  go_wp2_with fail
  refine (p_tokens_ok s _ (HE.out.below HB1.out (Nat.le_refl _)) (by omega) HR.out).mono ?_
  rintro e w2 ⟨hb2, g2, c2, rfl, ho2⟩
  rw [HNa.out] at ho2 ⊢
  have HB2 : Hid (Below w.heap.size w (w2.alloc (.cells #[.int .i64 0, .int .i64 0] 26))) := HB1.out.trans ((hb2.alloc hb2.size _).mono HB1.out.size)
  have HO2 := Lib.hid (ho2.alloc (.cells #[.int .i64 0, .int .i64 0] 26))
  have hg2 : g2 < w2.heap.size := (ho2.lt g2 rfl).2
  have hz1 := HB1.out.size
  have hgw2 : w.heap.size ≤ g2 := Nat.le_trans hz1 (ho2.lt g2 rfl).1
  have HZ2 := Lib.hid hgw2
  clear hb2 ho2 hz1 hgw2
  go_wp2_with fail
  refine (p_tokens_ok m _ (HE.out.below HB2.out (Nat.le_refl _)) (by omega) HR2.out).mono ?_
  rintro e w3 ⟨hb3, g3, c3, rfl, ho3⟩
  rw [← HM.out] at ho3 ⊢
  have HB3 : Hid (Below (w2.heap.size + 1) (w2.alloc (.cells #[.int .i64 0, .int .i64 0] 26)) (w3.alloc (.cells #[.int .i64 0, .int .i64 0] 26))) := by
    show Below _ _ _
    have := hb3.alloc hb3.size (.cells #[.int .i64 0, .int .i64 0] 26)
    simpa using this
  have HC3 : Hid (Below w.heap.size w (w3.alloc (.cells #[.int .i64 0, .int .i64 0] 26))) := HB2.out.trans (HB3.out.mono (by have := HB2.out.size; simpa using this))
  have HO3 := Lib.hid (ho3.alloc (.cells #[.int .i64 0, .int .i64 0] 26))
  have hg3 : g3 < w3.heap.size := (ho3.lt g3 rfl).2
  have hl3 : w2.heap.size + 1 ≤ g3 := by simpa using (ho3.lt g3 rfl).1
  clear hb3 ho3
  go_wp2_with fail
  refine (p_tokens_ok _ _ (HE.out.below HC3.out (Nat.le_refl _)) hjz HJ.out).mono ?_
  rintro e w4 ⟨hb4, g4, c4, rfl, ho4⟩
  rw [HCl.out] at ho4 ⊢
  have HB4 : Hid (Below (w3.heap.size + 1) (w3.alloc (.cells #[.int .i64 0, .int .i64 0] 26)) (w4.alloc (.cells #[.int .i64 0, .int .i64 0] 26))) := by
    show Below _ _ _
    have := hb4.alloc hb4.size (.cells #[.int .i64 0, .int .i64 0] 26)
    simpa using this
  have HC4 : Hid (Below w.heap.size w (w4.alloc (.cells #[.int .i64 0, .int .i64 0] 26))) := HC3.out.trans (HB4.out.mono (by have := HC3.out.size; simpa using this))
  have HO4 := Lib.hid (ho4.alloc (.cells #[.int .i64 0, .int .i64 0] 26))
  have hg4 : g4 < w4.heap.size := (ho4.lt g4 rfl).2
  have hl4 : w3.heap.size + 1 ≤ g4 := by simpa using (ho4.lt g4 rfl).1
  clear hb4 ho4
  have hs2 : w2.heap.size + 1 ≤ w3.heap.size + 1 := by have := HB3.out.size; simpa using this
  have h24 := HB3.out.trans (HB4.out.mono hs2)
  obtain ⟨f20, f21⟩ := box2 ((h24.block w2.heap.size (by omega)).trans (heap_alloc_new w2 _))
  obtain ⟨f30, f31⟩ := box2 ((HB4.out.block w3.heap.size (by omega)).trans (heap_alloc_new w3 _))
  obtain ⟨f40, f41⟩ := box2 (heap_alloc_new w4 (.cells #[.int .i64 0, .int .i64 0] 26))
  have QA : Hid ((w4.alloc (.cells #[.int .i64 0, .int .i64 0] 26)).ownsRow w.heap.size 38 3 (.slice (some ⟨g2, 0, none⟩) (N + 1) c2) (N + 1) (tokCells (aa ++ [⟨5, [], s.size⟩]))) := own_mono (own_below HO2.out h24 (by simp)) HB1.out.size
  have QB : Hid ((w4.alloc (.cells #[.int .i64 0, .int .i64 0] 26)).ownsRow w.heap.size 38 3 (.slice (some ⟨g3, 0, none⟩) M c3) M (tokCells bs)) := own_mono (own_below HO3.out HB4.out (by simp)) (by have := HB2.out.size; simpa using this)
  have QC : Hid ((w4.alloc (.cells #[.int .i64 0, .int .i64 0] 26)).ownsRow w.heap.size 38 3 (.slice (some ⟨g4, 0, none⟩) (N + M) c4) (N + M) (tokCells cs)) := own_mono HO4.out (by have := HC3.out.size; simpa using this)
  have hgl : w3.heap.size + 1 ≤ w4.heap.size + 1 := by have := HB4.out.size; simpa using this
  clear HB3 HB4 h24 HC3 HO2 HO3 HO4 HB2 HB1
  have hcmp : ((N : Int) + M != (N : Int) + 1 - 1 + M) = false := by simp
  have hM1 : ((M : Int) == 0) = false := by simp; omega
  go_wp2
  go_loopw [11] (fun i wx => ∃ j : Nat, j ≤ M ∧ i = .int .i64 j ∧ Hid (Below w.heap.size w wx) ∧ Hid (wx.ownsRow w.heap.size 38 3 (.slice (some ⟨g2, 0, none⟩) (N + 1) c2) (N + 1) (tokCells (aa ++ [⟨5, [], s.size⟩]))) ∧
    Hid (wx.ownsRow w.heap.size 38 3 (.slice (some ⟨g4, 0, none⟩) (N + M) c4) (N + M) (tokCells cs)) ∧ Hid (wx.ownsRow w.heap.size 38 3 (.slice (some ⟨g3, 0, none⟩) M c3) M (tokCells (mix (s.size + 1) j bs))) ∧
    wx.cell? ⟨w4.heap.size, 0, none⟩ = some (.int .i64 0)) (fun i _ => M - (intOf i).toNat)
  case atStart => exact ⟨0, Nat.zero_le _, rfl, HC4, QA, QC, by show World.ownsRow _ _ _ _ _ _ _; unfold mix; simpa using QB.out, f40⟩
  case round =>
    obtain ⟨j, hj, rfl, HB, RA, RC, RB, hf⟩ := hrel
    clear QA QB QC HC4 f20 f21 f30 f31 f40 f41
    by_cases hlt : j < M
    · obtain ⟨tp, htp, b2, hpb⟩ := mix_put RB.out HM.out.symm hlt (lexOf_pos HR2.out)
      have hfz := own_soft RB.out (j * 3 + 2)
      have RB2 := Lib.hid hpb
      rw [bl_len] at htp
      have hne2 : g2 ≠ g3 := by omega
      have hne4 : g4 ≠ g3 := by omega
      have hneb : w4.heap.size ≠ g3 := by omega
      have hbg : w.heap.size ≤ g3 := (RB.out.lt g3 rfl).1
      have HBg := Lib.hid hbg
      clear hpb hbg
      go_wp2
      go_roundw
      case rel => exact ⟨j + 1, by omega, by go_num, HB.out.setCell HBg.out _, own_set RA.out (by simpa [Value.ownBlock] using hne2) _, own_set RC.out (by simpa [Value.ownBlock] using hne4) _, RB2, (World.cell?_setCell_other _ _ _ _ (by simp)).trans hf⟩
      case measure => simp [intOf]; omega
    · obtain rfl : j = M := by omega
      have RB3 : Hid (wr.ownsRow w.heap.size 38 3 (.slice (some ⟨g3, 0, none⟩) j c3) j (tokCells (bs.map (Tok.shift (s.size + 1))))) := by
        have := RB.out
        unfold mix at this
        rw [List.take_of_length_le (by rw [← HM.out]; exact Nat.le_refl _), List.drop_of_length_le (by rw [← HM.out]; exact Nat.le_refl _), List.append_nil] at this
        exact this
      clear RB
      have hcA := cells_head (own_cells (RA.out.alloc (.cells #[] 38)))
      have HCA := Lib.hid hcA
      have hlit : (wr.alloc (.cells #[] 38)).ownsRow wr.heap.size 38 3 (.slice (some ⟨wr.heap.size, 0, none⟩) 0 0) 0 (tokCells []) := World.ownsRow_lit wr #[] 0 (Nat.le_refl _) (by unfold maxLen; omega) rfl
      have HLit := Lib.hid hlit
      have hc2 : N + 1 ≤ c2 := own_cap RA.out
      have hc2' : ((N : Int) ≤ c2) = True := by simp; omega
      have hc2'' : N ≤ c2 := by omega
      clear hcA hlit
      go_wp2_with (first | (at_builtin; refine wpList_tok_append _ (by rfl) _ _ (by rfl) wr.heap.size _ 0 [] (by rfl) HLit.out g2 N c2 aa (by rfl) HN.out.symm HCA.out N (by omega) (by omega) (by simp) ?_; intro A1 k1 w5 ho5 hg5; have HB5 : Hid (Below wr.heap.size wr w5) := ((Below.refl wr.heap.size wr).alloc (Nat.le_refl _) _).grown hg5 (by simp) (fun k hk => by simp [Value.ownBlock] at hk; omega); have HO5 := Lib.hid ho5; have HCB := Lib.hid (own_cells (own_below RB3.out HB5.out (Nat.le_refl _))); clear ho5 hg5) | (at_builtin; go_loud (refine wpList_tok_append _ (by rfl) _ _ (by rfl) wr.heap.size _ N ([] ++ aa) (by rfl) HO5.out g3 j c3 (bs.map (Tok.shift (s.size + 1))) (by rfl) (by rw [List.length_map]; exact HM.out.symm) HCB.out (N + j) (by omega) (by omega) HB5.out.size ?_); intro A2 k2 w6 ho6 hg6; have HB6 : Hid (Below wr.heap.size wr w6) := HB5.out.grown hg6 HB5.out.size (fun k hk => (HO5.out.lt k hk).1); have HO6 := Lib.hid ho6; clear ho6 hg6))
      have hrow6 : TokRow w6 A2 (N + j) cs := by
        rw [HCs.out]
        exact own_row_any HO6.out (by rw [← HCs.out]; exact HCl.out)
      have hrowc := own_row (own_below RC.out HB6.out (Nat.le_refl _)) HCl.out
      refine (k_same_tokens _ _ _ _ _ _ cs cs _ hrowc hrow6 (by omega)).mono ?_
      rintro e w7 ⟨rfl, d, rfl⟩
      go_wp2
      go_ret
      exact ⟨ret_bool (by simp), (HB.out.trans (HB6.out.mono HB.out.size)).trans (below_draws' _ _ _)⟩

set_option maxHeartbeats 1000000 in
set_option maxRecDepth 20000 in
theorem law_behind (s m : ByteArray) (w : World) (hE : Env w) (h63 : s.size + m.size ≤ 9223372036854775807) : Calls Tryd.prog 7 #[.string s, .string m] w (NamePost true w) := by
  by_cases h2 : 2000 < s.size + m.size
  · have HE := Lib.hid hE
    clear hE
    have hd : decide ((2000 : Int) < (s.size : Int) + m.size) = true := by simp; omega
    go_enter Tryd.func7, Tryd.ntmps7
    go_wp2_with fail
    refine (p_awake _ HE.out).mono ?_
    rintro e w1 ⟨rfl, hb1⟩
    go_wp2
    go_ret
    exact ⟨rfl, hb1⟩
  · cases hr : lexOf (bl s) with
    | error e => exact behind_bad s m w hE (by omega) e.1 e.2 hr
    | ok ts =>
      cases hr2 : lexOf (bl m) with
      | error e => exact behind_bad2 s m w hE (by omega) ts hr e.1 e.2 hr2
      | ok bs =>
        obtain ⟨us, rfl, _⟩ := lexOf_stands hr
        obtain ⟨vs, rfl, _⟩ := lexOf_stands hr2
        exact behind_ok s m w hE (by omega) us _ hr hr2 (by simp)

/-! ### The row and the card of LexBehind -/
section
open Go.ChangeShapes Go.WideShapes Go.ChangeAt Go.RowKit
open Go.ChangeMaps (open_string shut_string)

set_option maxRecDepth 100000 in
theorem lexBehind_lifted (os : Os) (started : os.Started) (H : Type) (enc : TypeId × Value → H) :
    ReturnsInHanded {} Tryd.checked os 7 .any (fun w args => (Rows.lexBehindSpec.pre enc Tryd.prog Tryd.f7 [] false w args ∧ laidMetH Tryd.prog Rows.lexBehindRow.laid w) ∧ sizedMet enc Tryd.prog Tryd.f7 (OpenSpec.ofChange Rows.lexBehindSpec) false w args)
      (Rows.lexBehindSpec.post enc Tryd.prog Tryd.f7 false true false false) := by
  refine returnsInHanded_of_change_and (C := Tryd.checked) (X := fun w _ => laidMetH Tryd.prog Rows.lexBehindRow.laid w) (fun _ _ _ hh h => h.of_heap hh) own started (by kernel_rfl) Tryd.func7
    (ChangeSpec.witness_shaped (enc := enc) (C := Tryd.checked) (os := os) (X := fun w _ => laidMetH Tryd.prog Rows.lexBehindRow.laid w) false (World.doorLaid Tryd.prog 86 os) #[.string ByteArray.empty, .string ByteArray.empty] 8 rfl (World.shaped_of_RefB (by kernel_rfl) (by kernel_rfl)) (by kernel_rfl) (by kernel_rfl) (by kernel_rfl) (door_met os _)) ?_
  intro W base args ds gs before hval0 hW _ hsz0 hL _
  have hval : ∀ (j : Nat) t v, Tryd.f7.params[j]? = some t → args[j]? = some v → Value.okWide Tryd.prog W .any base t v := hval0
  have hW' := hW
  obtain ⟨p, q, hA0, hV, rfl, hfz, hnd⟩ := hW
  have hA : DataW.TrodAll enc Tryd.prog W 0 (fun _ => true) true Tryd.f7.params.toList args.toList ds p := hA0
  rw [Tryd.params7] at hA hval
  obtain ⟨v0, v1, d0, d1, p0, p1, rfl, rfl, rfl, h0, h1⟩ := trodAll_two hA
  obtain ⟨rfl, rfl⟩ := trodVars_none hV
  obtain ⟨x0, rfl, rfl, rfl, w0⟩ := open_string Tryd.underlying9 (hval 0 9 v0 rfl rfl) h0
  obtain ⟨x1, rfl, rfl, rfl, w1⟩ := open_string Tryd.underlying9 (hval 1 9 v1 rfl rfl) h1
  clear hA0 hval0
  simp only [List.append_nil] at hW'
  have hE := env_of_laid hL
  have z0 : (bl x0).length ≤ reachBytes := sized_string (j := 0) hsz0 (by rfl) (by rfl)
  have z1 : (bl x1).length ≤ reachBytes := sized_string (j := 1) hsz0 (by rfl) (by rfl)
  rw [bl_len] at z0 z1
  refine (law_behind x0 x1 W hE (by unfold reachBytes at z0 z1; omega)).mono fun e W' ⟨he, hb⟩ => ?_
  subst he
  exact ⟨_, rfl, _, _, _, [], [], [], hW', trodAll_mk1 (shut_bool Tryd.underlying4 _), trodAll_mk2 (shut_string Tryd.underlying9 w0) (shut_string Tryd.underlying9 w1), rfl, hb.frame _, fun h => by cases h⟩

theorem lexBehind_said : Rows.LexBehindSaid :=
  OpenClaim.holds_of_wide 7 Tryd.f7 rfl rfl rfl rfl rfl rfl rfl ⟨rfl, rfl, rfl, rfl, rfl⟩ rfl rfl rfl rfl rfl (by kernel_rfl) Tryd.func7 (by kernel_rfl)
    (of_decide_eq_true (by kernel_rfl)) (by unfold Func.isWrapper; first | (rw [if_pos (by decide +kernel)]; kernel_rfl) | (rw [if_neg (by decide +kernel)]; exact ⟨rfl, rfl⟩))
    (fun os started H enc _ => lexBehind_lifted os started H enc)

/-- No parameter wants a stand-in; the program's own looks are what the card says. -/
theorem lexBehind_plain (f : FuncId) (fn : Func) (hf : Tryd.pinned.checked.prog.funcNamed "clerestory/clerestorylaw05.LexBehind" = some f) (hfn : Tryd.pinned.checked.prog.funcs[f]? = some fn) :
    true = Tryd.pinned.checked.prog.looks [] ∧ ∀ (j : Nat) t, fn.params[j]? = some t → Tryd.pinned.checked.prog.wantsStandIn t = false := by
  obtain rfl : f = 7 := Option.some.inj ((show Tryd.prog.funcNamed "clerestory/clerestorylaw05.LexBehind" = some 7 by kernel_rfl).symm.trans hf) |>.symm
  obtain rfl : fn = Tryd.f7 := (Option.some.inj (Tryd.func7.symm.trans hfn)).symm
  refine ⟨by kernel_rfl, fun j t ht => ?_⟩
  rw [Tryd.params7] at ht
  have hm : t ∈ [9, 9] := by simpa using Array.mem_of_getElem? ht
  have hall : ([9, 9].all fun u => !Tryd.prog.wantsStandIn u) = true := by kernel_rfl
  exact (show Tryd.prog.wantsStandIn t = false by simpa using List.all_eq_true.1 hall t hm)
theorem lexBehind_card : Rows.LexBehindCardSaid :=
  Claim7.holds_tied_plain_at .later [] _ _ _ _ lexBehind_said (fun _ h => by cases h) (by kernel_rfl) (fun _ h => by cases h) lexBehind_row_tie rfl ⟨rfl, rfl⟩ (by kernel_rfl) rfl lexBehind_plain (by kernel_rfl)
#print axioms lexBehind_card
end
end Go.Proofs.YtnchfjhnacidlaaDoor
