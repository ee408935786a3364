/- The walk over LexTells. -/
import Derived.Test.YtnchfjhnacidlaaDoorLexLaw1
namespace Go.Proofs.YtnchfjhnacidlaaDoor
open Go.RowKit

theorem r_tokens_ok (s : ByteArray) (w : World) (hs : s.size ≤ 1073741824) {ts : List Tok} (h : lexOf (bl s) = .ok ts) : Calls Tryd.prog 10 #[.string s] w (TokOk w ts) :=
  (r_tokens s w hs).mono fun _ _ hp => LexPost.ok h hp
theorem r_tokens_bad (s : ByteArray) (w : World) (hs : s.size ≤ 1073741824) {er p : Nat} (h : lexOf (bl s) = .error (er, p)) : Calls Tryd.prog 10 #[.string s] w (TokBad w er p) :=
  (r_tokens s w hs).mono fun _ _ hp => LexPost.fault h hp

theorem own_row {w : World} {base g n c : Nat} {ts : List Tok} (h : w.ownsRow base 38 3 (.slice (some ⟨g, 0, none⟩) n c) n (tokCells ts)) (hn : ts.length = n) : TokRow w (some ⟨g, 0, none⟩) n ts :=
  ⟨hn, fun _ => ⟨g, rfl, (h.lt g rfl).2, own_cells h⟩⟩
theorem nil_row (w : World) : TokRow w none 0 [] := ⟨rfl, fun h => by omega⟩

/-- How many tokens there may be. -/
theorem lexFuel_few : ∀ (f p : Nat) (r : Bytes) (ts : List Tok), lexFuel f p r = .ok ts → ts.length ≤ r.length + 1
  | f, p, [], ts, h => by cases f <;> (simp only [lexFuel] at h; injection h with h; rw [← h]; simp)
  | 0, p, c :: r, ts, h => by simp [lexFuel] at h
  | f + 1, p, c :: r, ts, h => by
    have hl := headOf_len c r
    unfold lexFuel at h
    split at h
    · rename_i n hn
      simp only [hn, Head.len] at hl
      have := lexFuel_few f _ _ ts h
      rw [List.length_drop] at this
      simp only [List.length_cons] at this ⊢
      omega
    · rename_i k n hn
      simp only [hn, Head.len] at hl
      cases hr : lexFuel f (p + n) ((c :: r).drop n) with
      | error e => rw [hr] at h; simp [LexRes.push] at h
      | ok ts' =>
        rw [hr] at h
        simp only [LexRes.push] at h
        injection h with h
        have := lexFuel_few f _ _ ts' hr
        rw [List.length_drop] at this
        rw [← h]
        simp only [List.length_cons, List.length_append, List.length_nil] at this ⊢
        omega
    · cases h
theorem lexOf_few {s : Bytes} {ts : List Tok} (h : lexOf s = .ok ts) : ts.length ≤ s.length + 1 := lexFuel_few _ _ _ _ h

set_option maxHeartbeats 1000000 in
set_option maxRecDepth 20000 in
theorem law_tells (s : ByteArray) (w : World) (hE : Env w) (_hs : s.size ≤ 9223372036854775807) : Calls Tryd.prog 3 #[.string s] w (NamePost true w) := by
  have HE := Lib.hid hE
  clear hE
  by_cases h2 : 2000 < s.size
  · go_enter Tryd.func3, Tryd.ntmps3
    go_wp2_with fail
    refine (p_awake _ HE.out).mono ?_
    rintro e w1 ⟨rfl, hb1⟩
    go_wp2
    go_ret
    exact ⟨rfl, hb1⟩
  · cases hr : lexOf (bl s) with
    | ok ts =>
      have HR := Lib.hid hr
      have hfew := lexOf_few hr
      rw [bl_len] at hfew
      clear hr
      go_enter Tryd.func3, Tryd.ntmps3
      go_wp2_with fail
      refine (p_awake _ HE.out).mono ?_
      rintro e w1 ⟨rfl, hb1⟩
      have HB1 := Lib.hid hb1
      clear hb1
      go_wp2_with fail
      refine (p_tokens_ok s _ (HE.out.below HB1.out (Nat.le_refl _)) (by omega) HR.out).mono ?_
      rintro e w2 ⟨hb2, g2, c2, rfl, ho2⟩
      have HB2 : Hid (Below w1.heap.size w1 (w2.alloc (.cells #[.int .i64 0, .int .i64 0] 26))) := hb2.alloc hb2.size _
      have HO2 := Lib.hid (ho2.alloc (.cells #[.int .i64 0, .int .i64 0] 26))
      clear hb2 ho2
      go_wp2_with fail
      refine (r_tokens_ok s _ (by omega) HR.out).mono ?_
      rintro e w3 ⟨hb3, g3, c3, rfl, ho3⟩
      have hb4 : Below (w2.heap.size + 1) (w2.alloc (.cells #[.int .i64 0, .int .i64 0] 26)) (w3.alloc (.cells #[.int .i64 0, .int .i64 0] 26)) := by
        have := hb3.alloc hb3.size (.cells #[.int .i64 0, .int .i64 0] 26)
        simpa using this
      have HB4 := Lib.hid hb4
      have HB5 : Hid (Below w.heap.size w (w3.alloc (.cells #[.int .i64 0, .int .i64 0] 26))) := by
        have h1 : w1.heap.size ≤ w2.heap.size + 1 := by have := HB2.out.size; simpa using this
        exact HB1.out.trans ((HB2.out.trans (hb4.mono h1)).mono HB1.out.size)
      have hr2 := own_row (own_below HO2.out hb4 (by simp)) rfl
      have hr3 := own_row (ho3.alloc (.cells #[.int .i64 0, .int .i64 0] 26)) rfl
      have HR2 := Lib.hid hr2
      have HR3 := Lib.hid hr3
      obtain ⟨f20, f21⟩ := box2 ((hb4.block w2.heap.size (by omega)).trans (heap_alloc_new w2 _))
      clear hb3 ho3 hb4 hr2 hr3
      go_wp2_with fail
      refine (k_same_tokens _ _ _ _ _ _ ts ts _ HR2.out HR3.out (by omega)).mono ?_
      rintro e w4 ⟨rfl, d, rfl⟩
      go_wp2
      go_ret
      exact ⟨ret_bool (by simp), HB5.out.trans (below_draws' _ _ _)⟩
    | error e =>
      obtain ⟨er, p⟩ := e
      have HR := Lib.hid hr
      clear hr
      go_enter Tryd.func3, Tryd.ntmps3
      go_wp2_with fail
      refine (p_awake _ HE.out).mono ?_
      rintro e w1 ⟨rfl, hb1⟩
      have HB1 := Lib.hid hb1
      clear hb1
      go_wp2_with fail
      refine (p_tokens_bad s _ (HE.out.below HB1.out (Nat.le_refl _)) (by omega) HR.out).mono ?_
      rintro e w2 ⟨hb2, rfl⟩
      have HB2 : Hid (Below w1.heap.size w1 (w2.alloc (.cells #[.int .i64 er, .int .i64 p] 26))) := hb2.alloc hb2.size _
      clear hb2
      go_wp2_with fail
      refine (r_tokens_bad s _ (by omega) HR.out).mono ?_
      rintro e w3 ⟨hb3, rfl⟩
      have hb4 : Below (w2.heap.size + 1) (w2.alloc (.cells #[.int .i64 er, .int .i64 p] 26)) (w3.alloc (.cells #[.int .i64 er, .int .i64 p] 26)) := by
        have := hb3.alloc hb3.size (.cells #[.int .i64 er, .int .i64 p] 26)
        simpa using this
      have HB5 : Hid (Below w.heap.size w (w3.alloc (.cells #[.int .i64 er, .int .i64 p] 26))) := by
        have h1 : w1.heap.size ≤ w2.heap.size + 1 := by have := HB2.out.size; simpa using this
        exact HB1.out.trans ((HB2.out.trans (hb4.mono h1)).mono HB1.out.size)
      obtain ⟨f20, f21⟩ := box2 ((hb4.block w2.heap.size (by omega)).trans (heap_alloc_new w2 _))
      clear hb3 hb4
      go_wp2_with fail
      refine (k_same_tokens _ _ _ _ _ _ [] [] _ (nil_row _) (nil_row _) (by omega)).mono ?_
      rintro e w4 ⟨rfl, d, rfl⟩
      go_wp2
      go_ret
      exact ⟨ret_bool (by simp), HB5.out.trans (below_draws' _ _ _)⟩
end Go.Proofs.YtnchfjhnacidlaaDoor
