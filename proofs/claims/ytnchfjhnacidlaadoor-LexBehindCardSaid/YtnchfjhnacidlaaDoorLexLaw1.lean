/- The walks over what the statements of chapter 5 share: awake, SameTokens. -/
import Derived.Test.YtnchfjhnacidlaaDoorLexProg7
import Derived.KernelRfl
namespace Go.Proofs.YtnchfjhnacidlaaDoor
open Go.RowKit

/-- The last token is the end. -/
theorem lexFuel_ends : ∀ (f p : Nat) (r : Bytes) (ts : List Tok), lexFuel f p r = .ok ts → ∃ l, ts = l ++ [⟨5, [], p + r.length⟩]
  | f, p, [], ts, h => by
    cases f <;> (simp only [lexFuel] at h; injection h with h; exact ⟨[], by rw [← h]; rfl⟩)
  | 0, p, c :: r, ts, h => by simp [lexFuel] at h
  | f + 1, p, c :: r, ts, h => by
    have hl := headOf_len c r
    unfold lexFuel at h
    split at h
    · rename_i n hn
      simp only [hn, Head.len] at hl
      obtain ⟨l, e⟩ := lexFuel_ends f _ _ ts h
      refine ⟨l, ?_⟩
      rw [e, List.length_drop]
      simp only [List.length_cons]
      rw [show p + n + (r.length + 1 - n) = p + (r.length + 1) from by omega]
    · rename_i k n hn
      simp only [hn, Head.len] at hl
      cases hr : lexFuel f (p + n) ((c :: r).drop n) with
      | error e => rw [hr] at h; simp [LexRes.push] at h
      | ok ts' =>
        rw [hr] at h
        simp only [LexRes.push] at h
        injection h with h
        obtain ⟨l, e⟩ := lexFuel_ends f _ _ ts' hr
        refine ⟨⟨k, (c :: r).take n, p⟩ :: l, ?_⟩
        rw [← h, e, List.length_drop]
        simp only [List.length_cons]
        rw [show p + n + (r.length + 1 - n) = p + (r.length + 1) from by omega]
        rfl
    · cases h
theorem lexOf_ends {s : Bytes} {ts : List Tok} (h : lexOf s = .ok ts) : ∃ l, ts = l ++ [⟨5, [], s.length⟩] := by
  have := lexFuel_ends _ _ _ _ h
  simpa using this

/-- Tokens' answer, its slice written out. -/
def TokOk (w : World) (ts : List Tok) (e : Ending) (w' : World) : Prop :=
  Below w.heap.size w w' ∧ ∃ g c, e = .returned (.tuple #[.slice (some ⟨g, 0, none⟩) ts.length c, .agg #[.int .i64 0, .int .i64 0]]) ∧ w'.ownsRow w.heap.size 38 3 (.slice (some ⟨g, 0, none⟩) ts.length c) ts.length (tokCells ts)
def TokBad (w : World) (er p : Nat) (e : Ending) (w' : World) : Prop :=
  Below w.heap.size w w' ∧ e = .returned (.tuple #[.slice none 0 0, .agg #[.int .i64 er, .int .i64 p]])
theorem LexPost.ok {w : World} {s : Bytes} {ts : List Tok} (h : lexOf s = .ok ts) {e : Ending} {w' : World} (hp : LexPost w (lexOf s) e w') : TokOk w ts e w' := by
  obtain ⟨hb, hr⟩ := hp
  rw [h] at hr
  obtain ⟨v, rfl, hown⟩ := hr
  obtain ⟨l, rfl⟩ := lexOf_ends h
  obtain ⟨g, cap, rfl, _, _⟩ := hown.form (by simp)
  exact ⟨hb, g, cap, rfl, hown⟩
theorem LexPost.fault {w : World} {s : Bytes} {er p : Nat} (h : lexOf s = .error (er, p)) {e : Ending} {w' : World} (hp : LexPost w (lexOf s) e w') : TokBad w er p e w' := by
  obtain ⟨hb, hr⟩ := hp
  rw [h] at hr
  exact ⟨hb, hr⟩
theorem p_tokens_ok (s : ByteArray) (w : World) (hE : Env w) (hs : s.size ≤ 1073741824) {ts : List Tok} (h : lexOf (bl s) = .ok ts) : Calls Tryd.prog 9 #[.string s] w (TokOk w ts) :=
  (p_tokens s w hE hs).mono fun _ _ hp => LexPost.ok h hp
theorem p_tokens_bad (s : ByteArray) (w : World) (hE : Env w) (hs : s.size ≤ 1073741824) {er p : Nat} (h : lexOf (bl s) = .error (er, p)) : Calls Tryd.prog 9 #[.string s] w (TokBad w er p) :=
  (p_tokens s w hE hs).mono fun _ _ hp => LexPost.fault h hp

theorem lex_a : lexOf (bl ⟨#[118, 97, 114, 32, 97, 49, 61, 51, 59, 32, 47, 47, 32, 120]⟩) = .ok [⟨2, [118, 97, 114], 0⟩, ⟨1, [97, 49], 4⟩, ⟨4, [61], 6⟩, ⟨3, [51], 7⟩, ⟨4, [59], 8⟩, ⟨5, [], 14⟩] := by kernel_rfl
theorem lex_b : lexOf (bl ⟨#[48, 49]⟩) = .error (101, 0) := by kernel_rfl
theorem lex_c : lexOf (bl ⟨#[97, 32, 38, 32, 98]⟩) = .error (100, 2) := by kernel_rfl
theorem lex_d : lexOf (bl ⟨#[97, 60, 61, 61]⟩) = .ok [⟨1, [97], 0⟩, ⟨4, [60, 61], 1⟩, ⟨4, [61], 3⟩, ⟨5, [], 4⟩] := by kernel_rfl

/-- A fault's box. -/
theorem box2 {w : World} {b : Nat} {x y : Value} {T : TypeId} (h : w.heap[b]? = some (.cells #[x, y] T (0, 0))) : w.cell? ⟨b, 0, none⟩ = some x ∧ w.cell? ⟨b, 1, none⟩ = some y := by
  have hc := fun j => cell_of_row w b j _ T (0, 0) h
  exact ⟨by rw [hc]; rfl, by rw [hc]; rfl⟩

set_option maxHeartbeats 1000000 in
set_option maxRecDepth 20000 in
theorem p_awake (w : World) (hE : Env w) : Calls Tryd.prog 8 #[] w (NamePost true w) := by
  have HE := Lib.hid hE
  clear hE
  go_enter Tryd.func8, Tryd.ntmps8
  go_wp2_with fail
  refine (p_tokens_ok _ _ HE.out (by decide) lex_a).mono ?_
  rintro e w1 ⟨hb1, g1, c1, rfl, ho1⟩
  have HO1 := Lib.hid ho1
  have HA1 : Hid (Below w.heap.size w (w1.alloc (.cells #[.int .i64 0, .int .i64 0] 26))) := hb1.alloc hb1.size _
  clear hb1 ho1
  go_wp2_with fail
  refine (p_tokens_bad _ _ (HE.out.below HA1.out (Nat.le_refl _)) (by decide) lex_b).mono ?_
  rintro e w2 ⟨hb2, rfl⟩
  have HA2 : Hid (Below (w1.heap.size + 1) (w1.alloc (.cells #[.int .i64 0, .int .i64 0] 26)) (w2.alloc (.cells #[.int .i64 101, .int .i64 0] 26))) := by
    show Below _ _ _
    have := hb2.alloc hb2.size (.cells #[.int .i64 101, .int .i64 0] 26)
    simpa using this
  have HW2 : Hid (Below w.heap.size w (w2.alloc (.cells #[.int .i64 101, .int .i64 0] 26))) := HA1.out.trans (HA2.out.mono (by have := HA1.out.size; simpa using this))
  clear hb2
  go_wp2_with fail
  refine (p_tokens_bad _ _ (HE.out.below HW2.out (Nat.le_refl _)) (by decide) lex_c).mono ?_
  rintro e w3 ⟨hb3, rfl⟩
  have HA3 : Hid (Below (w2.heap.size + 1) (w2.alloc (.cells #[.int .i64 101, .int .i64 0] 26)) (w3.alloc (.cells #[.int .i64 100, .int .i64 2] 26))) := by
    show Below _ _ _
    have := hb3.alloc hb3.size (.cells #[.int .i64 100, .int .i64 2] 26)
    simpa using this
  have HW3 : Hid (Below w.heap.size w (w3.alloc (.cells #[.int .i64 100, .int .i64 2] 26))) := HW2.out.trans (HA3.out.mono (by have := HW2.out.size; simpa using this))
  clear hb3
  go_wp2_with fail
  refine (p_tokens_ok _ _ (HE.out.below HW3.out (Nat.le_refl _)) (by decide) lex_d).mono ?_
  rintro e w4 ⟨hb4, g4, c4, rfl, ho4⟩
  have HA4 : Hid (Below (w3.heap.size + 1) (w3.alloc (.cells #[.int .i64 100, .int .i64 2] 26)) (w4.alloc (.cells #[.int .i64 0, .int .i64 0] 26))) := by
    show Below _ _ _
    have := hb4.alloc hb4.size (.cells #[.int .i64 0, .int .i64 0] 26)
    simpa using this
  have HW4 : Hid (Below w.heap.size w (w4.alloc (.cells #[.int .i64 0, .int .i64 0] 26))) := HW3.out.trans (HA4.out.mono (by have := HW3.out.size; simpa using this))
  have ho4' := ho4.alloc (.cells #[.int .i64 0, .int .i64 0] 26)
  clear hb4 ho4
  -- the facts at the last world
  have hs1 : w1.heap.size + 1 ≤ w2.heap.size + 1 := by have := HA2.out.size; simpa using this
  have hs2 : w2.heap.size + 1 ≤ w3.heap.size + 1 := by have := HA3.out.size; simpa using this
  have hs3 : w3.heap.size + 1 ≤ w4.heap.size + 1 := by have := HA4.out.size; simpa using this
  have h24 := HA3.out.trans (HA4.out.mono hs2)
  have h14 := HA2.out.trans (h24.mono hs1)
  obtain ⟨f10, f11⟩ := box2 ((h14.block w1.heap.size (by omega)).trans (heap_alloc_new w1 _))
  obtain ⟨f20, f21⟩ := box2 ((h24.block w2.heap.size (by omega)).trans (heap_alloc_new w2 _))
  obtain ⟨f30, f31⟩ := box2 ((HA4.out.block w3.heap.size (by omega)).trans (heap_alloc_new w3 _))
  have ho1' := own_below (HO1.out.alloc (.cells #[.int .i64 0, .int .i64 0] 26)) h14 (by simp)
  have a0 := own_cells ho1' 0 _ rfl
  have a1 := own_cells ho1' 4 _ rfl
  have a3 := own_cells ho1' 9 _ rfl
  have a5 := own_cells ho1' 17 _ rfl
  have d1 := own_cells ho4' 4 _ rfl
  have HW := Lib.hid HW4.out
  clear HA1 HA2 HA3 HA4 HW2 HW3 HW4 HO1 ho1' ho4' h24 h14 HE
  go_wp2
  go_ret
  exact ⟨rfl, HW.out⟩

/-! ### SameTokens -/
/-- A slice that reads as tokens. -/
def TokRow (w : World) (A : Option Addr) (n : Nat) (ts : List Tok) : Prop :=
  ts.length = n ∧ (0 < n → ∃ g, A = some ⟨g, 0, none⟩ ∧ g < w.heap.size ∧ ∀ j u, (tokCells ts)[j]? = some u → w.cell? ⟨g, j, none⟩ = some u)
theorem tokCells_at : ∀ (ts : List Tok) (k : Nat) (t : Tok), ts[k]? = some t →
    (tokCells ts)[k * 3]? = some (.int .u8 t.kind) ∧ (tokCells ts)[k * 3 + 1]? = some (.string (sb t.text)) ∧ (tokCells ts)[k * 3 + 2]? = some (.int .i64 t.pos)
  | [], k, t, h => by simp at h
  | a :: ts, 0, t, h => by
    simp at h
    subst h
    exact ⟨rfl, rfl, rfl⟩
  | a :: ts, k + 1, t, h => by
    have ih := tokCells_at ts k t (by simpa using h)
    have e : tokCells (a :: ts) = tokV a ++ tokCells ts := by simp [tokCells]
    have hl : (tokV a).length = 3 := rfl
    rw [e, List.getElem?_append_right (by omega), List.getElem?_append_right (by omega), List.getElem?_append_right (by omega), hl]
    rw [show (k + 1) * 3 - 3 = k * 3 from by omega, show (k + 1) * 3 + 1 - 3 = k * 3 + 1 from by omega, show (k + 1) * 3 + 2 - 3 = k * 3 + 2 from by omega]
    exact ih
theorem TokRow.at_ {w : World} {A : Option Addr} {n : Nat} {ts : List Tok} (h : TokRow w A n ts) {k : Nat} (hk : k < n) :
    ∃ g t, A = some ⟨g, 0, none⟩ ∧ ts[k]? = some t ∧ w.cell? ⟨g, k * 3, none⟩ = some (.int .u8 t.kind) ∧ w.cell? ⟨g, k * 3 + 1, none⟩ = some (.string (sb t.text)) ∧ w.cell? ⟨g, k * 3 + 2, none⟩ = some (.int .i64 t.pos) := by
  obtain ⟨hl, h⟩ := h
  obtain ⟨g, e, _, hc⟩ := h (by omega)
  have ht : ts[k]? = some (ts[k]'(by omega)) := List.getElem?_eq_getElem (by omega)
  obtain ⟨h0, h1, h2⟩ := tokCells_at ts k _ ht
  exact ⟨g, _, e, ht, hc _ _ h0, hc _ _ h1, hc _ _ h2⟩

theorem tok_cases (t u : Tok) : (t = u ∧ ((t.kind : Int) == u.kind) = true ∧ (t.text == u.text) = true ∧ ((t.pos : Int) == u.pos) = true) ∨ (t ≠ u ∧ ((t.kind : Int) == u.kind) = false) ∨
    (t ≠ u ∧ ((t.kind : Int) == u.kind) = true ∧ (t.text == u.text) = false) ∨ (t ≠ u ∧ ((t.kind : Int) == u.kind) = true ∧ (t.text == u.text) = true ∧ ((t.pos : Int) == u.pos) = false) := by
  obtain ⟨a, b, c⟩ := t
  obtain ⟨a', b', c'⟩ := u
  by_cases h1 : a = a' <;> by_cases h2 : b = b' <;> by_cases h3 : c = c' <;> simp [h1, h2, h3] <;> omega
theorem take_same {ts us : List Tok} {k : Nat} {t : Tok} (h : ts.take k = us.take k) (h1 : ts[k]? = some t) (h2 : us[k]? = some t) : ts.take (k + 1) = us.take (k + 1) := by
  rw [List.take_add_one, List.take_add_one, h, h1, h2]
theorem take_other {ts us : List Tok} {k : Nat} {t u : Tok} (h1 : ts[k]? = some t) (h2 : us[k]? = some u) (h : t ≠ u) : ts ≠ us := by
  intro e
  rw [e, h2] at h1
  injection h1 with h1
  exact h h1.symm

set_option maxHeartbeats 1000000 in
theorem k_same_tokens (A A' : Option Addr) (n c n' c' : Nat) (ts us : List Tok) (w : World) (h : TokRow w A n ts) (h' : TokRow w A' n' us) (hn : n ≤ 2147483647) :
    Calls Tryd.prog 11 #[.slice A n c, .slice A' n' c'] w (DrawnPost (.bool (decide (ts = us))) w) := by
  have H := Lib.hid h
  have H' := Lib.hid h'
  have hl : Hid (ts.length = n) := h.1
  have hl' : Hid (us.length = n') := h'.1
  clear h h'
  by_cases hnn : n = n'
  · subst hnn
    go_enter Tryd.func11, Tryd.ntmps11
    go_wp2
    go_loopw [5] (fun i wx => ∃ k d : Nat, k ≤ n ∧ i = .int .i64 k ∧ wx = w.drewN d ∧ Hid (ts.take k = us.take k)) (fun i _ => n - (intOf i).toNat)
    case atStart => exact ⟨0, 0, Nat.zero_le _, rfl, rfl, by show _ = _; simp⟩
    case round =>
      obtain ⟨k, d, hk, rfl, rfl, HT⟩ := hrel
      by_cases hlt : k < n
      · obtain ⟨g, t, rfl, ht, hc0, hc1, hc2⟩ := H.out.at_ hlt
        obtain ⟨g', u, rfl, hu, hd0, hd1, hd2⟩ := H'.out.at_ hlt
        have HT1 := Lib.hid ht
        have HU1 := Lib.hid hu
        clear ht hu
        have hcase : (t = u ∧ ((t.kind : Int) == u.kind) = true ∧ (t.text == u.text) = true ∧ ((t.pos : Int) == u.pos) = true) ∨ (t ≠ u ∧ ((t.kind : Int) == u.kind) = false) ∨
            (t ≠ u ∧ ((t.kind : Int) == u.kind) = true ∧ (t.text == u.text) = false) ∨ (t ≠ u ∧ ((t.kind : Int) == u.kind) = true ∧ (t.text == u.text) = true ∧ ((t.pos : Int) == u.pos) = false) := tok_cases t u
        rcases hcase with ⟨heq, e1, e2, e3⟩ | ⟨hne, e1⟩ | ⟨hne, e1, e2⟩ | ⟨hne, e1, e2, e3⟩
        · have HN := Lib.hid (take_same HT.out HT1.out (heq ▸ HU1.out))
          clear heq
          go_wp2
          go_quiet (fail)
          go_wp2
          go_roundw
          case rel => exact ⟨k + 1, _, by omega, by go_num, rfl, HN⟩
          case measure => simp [intOf]; omega
        all_goals
          have HN := Lib.hid (take_other HT1.out HU1.out hne)
          clear hne
          go_wp2
          go_quiet (fail)
          go_wp2
          go_ret
          exact ⟨ret_bool (by simp [HN.out]), d + nq, by simp [World.drewN, Nat.add_assoc]⟩
      · go_wp2
        go_ret
        have h1 := HT.out
        rw [List.take_of_length_le (by have := hl.out; omega), List.take_of_length_le (by have := hl'.out; omega)] at h1
        exact ⟨ret_bool (by simp [h1]), _, rfl⟩
  · have hne : ((n : Int) != n') = true := by simp; omega
    go_enter Tryd.func11, Tryd.ntmps11
    go_wp2
    go_ret
    refine ⟨ret_bool ?_, 0, rfl⟩
    have : ts ≠ us := fun e => by
      have h1 := hl.out; have h2 := hl'.out
      rw [e] at h1; omega
    simp [this]
end Go.Proofs.YtnchfjhnacidlaaDoor
