/- The walks over the printer's ways with loops: row, call, file, block. -/
import Derived.Test.YtjdofndkdkeapaaGreatDoorPrint7
namespace Go.Proofs.YtjdofndkdkeapaaGreatDoor
open Go.RowKit
set_option linter.unusedSimpArgs false
set_option linter.unusedVariables false

theorem szL_step {ks : List Tree} {j : Nat} {t : Tree} (h : ks[j]? = some t) : szL (ks.drop j) = t.sz + szL (ks.drop (j + 1)) := by
  have hj : j < ks.length := (List.getElem?_eq_some_iff.1 h).1
  rw [List.drop_eq_getElem_cons hj, szL]
  rw [List.getElem?_eq_getElem hj] at h
  injection h with h
  rw [h]
theorem drop_step {α : Type} {l : List α} {j : Nat} {t : α} (h : l[j]? = some t) : l.drop j = t :: l.drop (j + 1) := by
  have hj : j < l.length := (List.getElem?_eq_some_iff.1 h).1
  rw [List.drop_eq_getElem_cons hj]
  rw [List.getElem?_eq_getElem hj] at h
  injection h with h
  rw [h]
/-- What is still to be printed of a row. -/
def restC (ps : List Bytes) (j : Nat) : Bytes := if j = 0 then commaJ ps else match ps.drop j with | [] => [] | q :: qs => 44 :: 32 :: commaJ (q :: qs)
theorem restC_next (ps : List Bytes) (j : Nat) : restC ps (j + 1) = match ps.drop (j + 1) with | [] => [] | q :: qs => 44 :: 32 :: commaJ (q :: qs) := by unfold restC; rw [if_neg (by omega)]
theorem restC_step {ps : List Bytes} {j : Nat} {q : Bytes} (h : ps[j]? = some q) : restC ps j = (if j = 0 then [] else [44, 32]) ++ (q ++ restC ps (j + 1)) := by
  have hd := drop_step h
  rw [restC_next]
  unfold restC
  by_cases hj : j = 0
  · subst hj
    simp only [List.drop_zero] at hd
    rw [if_pos rfl, if_pos rfl, hd]
    simp only [List.drop_succ_cons, List.drop_zero, List.nil_append, commaJ]
    cases ps.drop (0 + 1) <;> simp [commaJ]
  · rw [if_neg hj, if_neg hj, hd]
    simp only [commaJ]
    cases ps.drop (j + 1) <;> simp [commaJ]
theorem restC_end (ps : List Bytes) : restC ps ps.length = [] := by
  unfold restC
  cases ps with
  | nil => rfl
  | cons p ps => simp
def restF (ps : List Bytes) (j : Nat) : Bytes := if j = 0 then fileJ ps else match ps.drop j with | [] => [] | q :: qs => 10 :: fileJ (q :: qs)
theorem restF_next (ps : List Bytes) (j : Nat) : restF ps (j + 1) = match ps.drop (j + 1) with | [] => [] | q :: qs => 10 :: fileJ (q :: qs) := by unfold restF; rw [if_neg (by omega)]
theorem restF_step {ps : List Bytes} {j : Nat} {q : Bytes} (h : ps[j]? = some q) : restF ps j = (if j = 0 then [] else [10]) ++ (q ++ ([10] ++ restF ps (j + 1))) := by
  have hd := drop_step h
  rw [restF_next]
  unfold restF
  by_cases hj : j = 0
  · subst hj
    simp only [List.drop_zero] at hd
    rw [if_pos rfl, if_pos rfl, hd]
    simp only [List.drop_succ_cons, List.drop_zero, List.nil_append, fileJ]
    cases ps.drop (0 + 1) <;> simp [fileJ]
  · rw [if_neg hj, if_neg hj, hd]
    simp only [fileJ]
    cases ps.drop (j + 1) <;> simp [fileJ]
theorem restF_end (ps : List Bytes) : restF ps ps.length = [] := by
  unfold restF
  cases ps with
  | nil => rfl
  | cons p ps => simp
theorem blockJ_step {d : Nat} {ps : List Bytes} {j : Nat} {q : Bytes} (h : ps[j]? = some q) : blockJ d (ps.drop j) = pad d ++ (q ++ blockJ d (ps.drop (j + 1))) := by
  rw [drop_step h, blockJ]
  simp
set_option maxHeartbeats 4000000 in
set_option maxRecDepth 100000 in
theorem w_row {w0 : World} {b m d : Nat} {ks : List Tree} (hC : ∀ t ∈ ks, NodeC w0 b m d t) (k : Nat) (s : Bytes) (x : Int) : BodyC w0 b m d ks 43 k s x (commaJ (printL d ks)) := by
  intro A n c wS w lo hi path txt p z hK hp h
  obtain ⟨N, hNd⟩ : ∃ N : Obj, N = .cells #[.int .u8 k, .string (sb s), .int .i64 x, .slice A n c] 25 := ⟨_, rfl⟩
  have hb : Below w.heap.size w (w.alloc N) := (Below.refl _ _).alloc (Nat.le_refl _) _
  have HS0 := Lib.hid (h.start hb)
  have HB := Lib.hid hb
  have HH := Lib.hid h
  have HK := Lib.hid hK
  have HC := Lib.hid hC
  have hlt := h.lt
  have hn := hK.1
  have hnm : n ≤ 9223372036854775807 := by have h1 := hK.2.1; have h2 := hK.2.2.1; unfold maxLen at h2; omega
  have HN := Lib.hid hn
  have HPL := Lib.hid (printL_len d ks)
  subst hNd
  clear hb h hK hC hn
  go_enter Tryz.func43, Tryz.ntmps43
  go_wp2_with fail
  go_loopw [8] (fun i wr => ∃ (j : Nat) (dn : Bytes), j ≤ n ∧ i = .int .i64 j ∧ dn ++ restC (printL d ks) j = commaJ (printL d ks) ∧ Hid (St w0 (w.alloc (.cells #[.int .u8 k, .string (sb s), .int .i64 x, .slice A n c] 25)) wr b lo hi path d m (txt ++ dn) (restC (printL d ks) j ++ p) (szL (ks.drop j) + z))) (fun i _ => n - (intOf i).toNat)
  case atStart => exact ⟨0, [], Nat.zero_le _, rfl, by simp [restC], HS0.out.eq (by simp) (by simp [restC]) (by simp)⟩
  case round =>
    obtain ⟨j, dn, hj, rfl, hdn, HR⟩ := hrel
    have HD := Lib.hid hdn
    clear hdn
    by_cases hlt2 : j < n
    · obtain ⟨t, ht⟩ : ∃ t, ks[j]? = some t := ⟨ks[j]'(by rw [← HN.out]; exact hlt2), List.getElem?_eq_getElem _⟩
      have HT := Lib.hid ht
      have HCT := Lib.hid (HC.out t (List.mem_of_getElem? ht))
      have hst := restC_step (printL_get d ks j t ht)
      have HST := Lib.hid hst
      have hsz := szL_step ht
      by_cases hj0 : j = 0
      · subst hj0
        have HS1 := Lib.hid (HR.out.eq (p' := printT d t ++ (restC (printL d ks) (0 + 1) ++ p)) (z' := t.sz + (szL (ks.drop (0 + 1)) + z)) rfl (by rw [hst]; simp) (by rw [hsz]; omega))
        obtain ⟨c0, c1, c2, c3⟩ := HS1.out.box hlt
        clear ht hst hsz
        go_wp2_with fail
        have T := p_kid HCT.out 0 HT.out k (sb s) x A n c HK.out hp HS1.out
        refine T.mono ?_
        clear T
        rintro e w2 ⟨rfl, h2⟩
        have HS2 := Lib.hid h2
        clear h2 c0 c1 c2 c3
        go_wp2
        go_roundw
        case rel => exact ⟨0 + 1, dn ++ printT d t, by omega, by go_num, by rw [← HD.out, HST.out]; simp, HS2.out.eq (by simp) rfl rfl⟩
        case measure => simp [intOf]; omega
      · have HS1 := Lib.hid (HR.out.eq (p' := ([[44, 32]] : List Bytes).flatten ++ (printT d t ++ (restC (printL d ks) (j + 1) ++ p))) (z' := t.sz + (szL (ks.drop (j + 1)) + z)) rfl (by rw [hst, if_neg hj0]; simp) (by rw [hsz]; omega))
        obtain ⟨c0, c1, c2, c3⟩ := HS1.out.box hlt
        have hjp : 0 < j := by omega
        clear ht hst hsz
        go_wp2_with fail
        refine (St.put ([[44, 32]] : List Bytes) HS1.out _ rfl _ _ rfl rfl (by simp)).mono ?_
        rintro e w2 ⟨rfl, h2⟩
        have HS2 := Lib.hid h2
        obtain ⟨d0, d1, d2, d3⟩ := h2.box hlt
        clear h2 c0 c1 c2 c3
        go_wp2_with fail
        have T := p_kid HCT.out j HT.out k (sb s) x A n c HK.out hp HS2.out
        refine T.mono ?_
        clear T
        rintro e w3 ⟨rfl, h3⟩
        have HS3 := Lib.hid h3
        clear h3 d0 d1 d2 d3
        go_wp2
        go_roundw
        case rel => exact ⟨j + 1, dn ++ [44, 32] ++ printT d t, by omega, by go_num, by rw [← HD.out, HST.out, if_neg hj0]; simp, HS3.out.eq (by simp) rfl rfl⟩
        case measure => simp [intOf]; omega
    · have hjn : j = n := by omega
      have HE : Hid (restC (printL d ks) j = [] ∧ ks.drop j = []) := by
        rw [hjn, HN.out]
        refine ⟨?_, List.drop_length⟩
        rw [← HPL.out]
        exact restC_end _
      go_wp2_with fail
      go_end0
      refine ⟨rfl, HH.out.leave HB.out (HR.out.eq ?_ ?_ ?_)⟩
      · rw [← HD.out, HE.out.1]; simp
      · rw [HE.out.1]; simp
      · rw [HE.out.2]; simp [szL]
set_option maxHeartbeats 4000000 in
set_option maxRecDepth 100000 in
theorem w_call {w0 : World} {b m d : Nat} {ks : List Tree} (hC : ∀ t ∈ ks, NodeC w0 b m d t) (k : Nat) (s : Bytes) (x : Int) : BodyC w0 b m d ks 57 k s x (s ++ 40 :: commaJ (printL d ks) ++ [41]) := by
  intro A n c wS w lo hi path txt p z hK hp h
  obtain ⟨N, hNd⟩ : ∃ N : Obj, N = .cells #[.int .u8 k, .string (sb s), .int .i64 x, .slice A n c] 25 := ⟨_, rfl⟩
  have hb : Below w.heap.size w (w.alloc N) := (Below.refl _ _).alloc (Nat.le_refl _) _
  have HS0 := Lib.hid ((h.start hb).eq (p' := ([s, [40]] : List Bytes).flatten ++ (commaJ (printL d ks) ++ (([[41]] : List Bytes).flatten ++ p))) rfl (by simp) rfl)
  have HB := Lib.hid hb
  have HH := Lib.hid h
  have HK := Lib.hid hK
  have HC := Lib.hid hC
  have hlt := h.lt
  subst hNd
  clear hb h hK hC
  go_enter Tryz.func57, Tryz.ntmps57
  go_wp2_with fail
  refine (St.put ([s, [40]] : List Bytes) HS0.out _ rfl (w.heap.size + 1) _ (by simp) rfl (by simp)).mono ?_
  rintro e w1 ⟨rfl, h1⟩
  have HS1 := Lib.hid h1
  obtain ⟨c0, c1, c2, c3⟩ := h1.box hlt
  clear h1
  go_wp2_with fail
  have T := w_row HC.out k s x A n c _ _ lo hi path _ _ _ HK.out hp HS1.out
  refine T.mono ?_
  clear T
  rintro e w2 ⟨rfl, h2⟩
  have HS2 := Lib.hid h2
  obtain ⟨d0, d1, d2, d3⟩ := h2.box hlt
  clear h2 c0 c1 c2 c3
  go_wp2_with fail
  refine (St.put ([[41]] : List Bytes) HS2.out _ rfl _ _ rfl rfl (by simp)).mono ?_
  rintro e w3 ⟨rfl, h3⟩
  have HS3 := Lib.hid h3
  clear h3 d0 d1 d2 d3
  go_wp2_with fail
  go_end0
  exact ⟨rfl, HH.out.leave HB.out (HS3.out.eq (by simp) rfl rfl)⟩
set_option maxHeartbeats 4000000 in
set_option maxRecDepth 100000 in
theorem w_file {w0 : World} {b m d : Nat} {ks : List Tree} (hC : ∀ t ∈ ks, NodeC w0 b m d t) (k : Nat) (s : Bytes) (x : Int) : BodyC w0 b m d ks 41 k s x (fileJ (printL d ks)) := by
  intro A n c wS w lo hi path txt p z hK hp h
  obtain ⟨N, hNd⟩ : ∃ N : Obj, N = .cells #[.int .u8 k, .string (sb s), .int .i64 x, .slice A n c] 25 := ⟨_, rfl⟩
  have hb : Below w.heap.size w (w.alloc N) := (Below.refl _ _).alloc (Nat.le_refl _) _
  have HS0 := Lib.hid (h.start hb)
  have HB := Lib.hid hb
  have HH := Lib.hid h
  have HK := Lib.hid hK
  have HC := Lib.hid hC
  have hlt := h.lt
  have hn := hK.1
  have hnm : n ≤ 9223372036854775807 := by have h1 := hK.2.1; have h2 := hK.2.2.1; unfold maxLen at h2; omega
  have HN := Lib.hid hn
  have HPL := Lib.hid (printL_len d ks)
  subst hNd
  clear hb h hK hC hn
  go_enter Tryz.func41, Tryz.ntmps41
  go_wp2_with fail
  go_loopw [8] (fun i wr => ∃ (j : Nat) (dn : Bytes), j ≤ n ∧ i = .int .i64 j ∧ dn ++ restF (printL d ks) j = fileJ (printL d ks) ∧ Hid (St w0 (w.alloc (.cells #[.int .u8 k, .string (sb s), .int .i64 x, .slice A n c] 25)) wr b lo hi path d m (txt ++ dn) (restF (printL d ks) j ++ p) (szL (ks.drop j) + z))) (fun i _ => n - (intOf i).toNat)
  case atStart => exact ⟨0, [], Nat.zero_le _, rfl, by simp [restF], HS0.out.eq (by simp) (by simp [restF]) (by simp)⟩
  case round =>
    obtain ⟨j, dn, hj, rfl, hdn, HR⟩ := hrel
    have HD := Lib.hid hdn
    clear hdn
    by_cases hlt2 : j < n
    · obtain ⟨t, ht⟩ : ∃ t, ks[j]? = some t := ⟨ks[j]'(by rw [← HN.out]; exact hlt2), List.getElem?_eq_getElem _⟩
      have HT := Lib.hid ht
      have HCT := Lib.hid (HC.out t (List.mem_of_getElem? ht))
      have hst := restF_step (printL_get d ks j t ht)
      have HST := Lib.hid hst
      have hsz := szL_step ht
      by_cases hj0 : j = 0
      · subst hj0
        have HS1 := Lib.hid (HR.out.eq (p' := printT d t ++ (([[10]] : List Bytes).flatten ++ (restF (printL d ks) (0 + 1) ++ p))) (z' := t.sz + (szL (ks.drop (0 + 1)) + z)) rfl (by rw [hst]; simp) (by rw [hsz]; omega))
        obtain ⟨c0, c1, c2, c3⟩ := HS1.out.box hlt
        clear ht hst hsz
        go_wp2_with fail
        have T := p_kid HCT.out 0 HT.out k (sb s) x A n c HK.out hp HS1.out
        refine T.mono ?_
        clear T
        rintro e w2 ⟨rfl, h2⟩
        have HS2 := Lib.hid h2
        obtain ⟨d0, d1, d2, d3⟩ := h2.box hlt
        clear h2 c0 c1 c2 c3
        go_wp2_with fail
        refine (St.put ([[10]] : List Bytes) HS2.out _ rfl _ _ rfl rfl (by simp)).mono ?_
        rintro e w3 ⟨rfl, h3⟩
        have HS3 := Lib.hid h3
        clear h3 d0 d1 d2 d3
        go_wp2
        go_roundw
        case rel => exact ⟨0 + 1, dn ++ printT d t ++ [10], by omega, by go_num, by rw [← HD.out, HST.out]; simp, HS3.out.eq (by simp) rfl rfl⟩
        case measure => simp [intOf]; omega
      · have HS1 := Lib.hid (HR.out.eq (p' := ([[10]] : List Bytes).flatten ++ (printT d t ++ (([[10]] : List Bytes).flatten ++ (restF (printL d ks) (j + 1) ++ p)))) (z' := t.sz + (szL (ks.drop (j + 1)) + z)) rfl (by rw [hst, if_neg hj0]; simp) (by rw [hsz]; omega))
        obtain ⟨c0, c1, c2, c3⟩ := HS1.out.box hlt
        have hjp : 0 < j := by omega
        clear ht hst hsz
        go_wp2_with fail
        refine (St.put ([[10]] : List Bytes) HS1.out _ rfl _ _ rfl rfl (by simp)).mono ?_
        rintro e w2 ⟨rfl, h2⟩
        have HS2 := Lib.hid h2
        obtain ⟨d0, d1, d2, d3⟩ := h2.box hlt
        clear h2 c0 c1 c2 c3
        go_wp2_with fail
        have T := p_kid HCT.out j HT.out k (sb s) x A n c HK.out hp HS2.out
        refine T.mono ?_
        clear T
        rintro e w3 ⟨rfl, h3⟩
        have HS3 := Lib.hid h3
        obtain ⟨f0, f1, f2, f3⟩ := h3.box hlt
        clear h3 d0 d1 d2 d3
        go_wp2_with fail
        refine (St.put ([[10]] : List Bytes) HS3.out _ rfl _ _ rfl rfl (by simp)).mono ?_
        rintro e w4 ⟨rfl, h4⟩
        have HS4 := Lib.hid h4
        clear h4 f0 f1 f2 f3
        go_wp2
        go_roundw
        case rel => exact ⟨j + 1, dn ++ [10] ++ printT d t ++ [10], by omega, by go_num, by rw [← HD.out, HST.out, if_neg hj0]; simp, HS4.out.eq (by simp) rfl rfl⟩
        case measure => simp [intOf]; omega
    · have hjn : j = n := by omega
      have HE : Hid (restF (printL d ks) j = [] ∧ ks.drop j = []) := by
        rw [hjn, HN.out]
        refine ⟨?_, List.drop_length⟩
        rw [← HPL.out]
        exact restF_end _
      go_wp2_with fail
      go_end0
      refine ⟨rfl, HH.out.leave HB.out (HR.out.eq ?_ ?_ ?_)⟩
      · rw [← HD.out, HE.out.1]; simp
      · rw [HE.out.1]; simp
      · rw [HE.out.2]; simp [szL]
set_option maxHeartbeats 4000000 in
set_option maxRecDepth 100000 in
theorem w_block {w0 : World} {b m d : Nat} {ks : List Tree} (hd : d ≤ 1000) (hC : ∀ t ∈ ks, NodeC w0 b m (d + 1) t) (k : Nat) (s : Bytes) (x : Int) : BodyC w0 b m d ks 45 k s x (123 :: blockJ (d + 1) (printL (d + 1) ks) ++ pad d ++ [125]) := by
  intro A n c wS w lo hi path txt p z hK hp h
  obtain ⟨D, hD⟩ : ∃ D, D = d + 1 := ⟨_, rfl⟩
  rw [← hD] at hC h ⊢
  have HDD := Lib.hid hD
  obtain ⟨N, hNd⟩ : ∃ N : Obj, N = .cells #[.int .u8 k, .string (sb s), .int .i64 x, .slice A n c] 25 := ⟨_, rfl⟩
  have hb : Below w.heap.size w (w.alloc N) := (Below.refl _ _).alloc (Nat.le_refl _) _
  have HS0 := Lib.hid ((h.start hb).eq (p' := ([[123]] : List Bytes).flatten ++ (blockJ D (printL D ks) ++ (pad d ++ (([[125]] : List Bytes).flatten ++ p)))) rfl (by simp) rfl)
  have HB := Lib.hid hb
  have HH := Lib.hid h
  have HK := Lib.hid hK
  have HC := Lib.hid hC
  have hlt := h.lt
  have hn := hK.1
  have hnm : n ≤ 9223372036854775807 := by have h1 := hK.2.1; have h2 := hK.2.2.1; unfold maxLen at h2; omega
  have HN := Lib.hid hn
  have HPL := Lib.hid (printL_len D ks)
  subst hNd
  clear hb h hK hC hn hD
  go_enter Tryz.func45, Tryz.ntmps45
  go_wp2_with fail
  refine (St.put ([[123]] : List Bytes) HS0.out _ rfl (w.heap.size + 1) _ (by simp) rfl (by simp)).mono ?_
  rintro e w1 ⟨rfl, h1⟩
  obtain ⟨a4, b4, hset⟩ := h1.deep_cell
  have HS1 := Lib.hid ((hset D).eq rfl rfl rfl)
  obtain ⟨c0, c1, c2, c3⟩ := HS1.out.box hlt
  have hcast : ((d : Int) + 1) = (D : Int) := by have := HDD.out; omega
  have HCast := Lib.hid hcast
  clear h1 hset hcast
  rw [← HCast.out] at c0 c1 c2 c3
  have HS1' : Hid (St w0 (w.alloc (.cells #[.int .u8 k, .string (sb s), .int .i64 x, .slice A n c] 25)) (w1.setCell ⟨b, 4, none⟩ (.int .i64 ((d : Int) + 1))) b lo hi path D m (txt ++ ([[123]] : List Bytes).flatten) (blockJ D (printL D ks) ++ (pad d ++ (([[125]] : List Bytes).flatten ++ p))) (szL ks + z)) := by rw [HCast.out]; exact HS1.out
  go_wp2_with fail
  go_loopw [18] (fun i wr => ∃ (j : Nat) (dn : Bytes), j ≤ n ∧ i = .int .i64 j ∧ dn ++ blockJ D ((printL D ks).drop j) = blockJ D (printL D ks) ∧ Hid (St w0 (w.alloc (.cells #[.int .u8 k, .string (sb s), .int .i64 x, .slice A n c] 25)) wr b lo hi path D m (txt ++ ([[123]] : List Bytes).flatten ++ dn) (blockJ D ((printL D ks).drop j) ++ (pad d ++ (([[125]] : List Bytes).flatten ++ p))) (szL (ks.drop j) + z))) (fun i _ => n - (intOf i).toNat)
  case atStart => exact ⟨0, [], Nat.zero_le _, rfl, by simp, HS1'.out.eq (by simp) (by simp) (by simp)⟩
  case round =>
    obtain ⟨j, dn, hj, rfl, hdn, HR⟩ := hrel
    have HD := Lib.hid hdn
    clear hdn c0 c1 c2 c3
    by_cases hlt2 : j < n
    · obtain ⟨t, ht⟩ : ∃ t, ks[j]? = some t := ⟨ks[j]'(by rw [← HN.out]; exact hlt2), List.getElem?_eq_getElem _⟩
      have HT := Lib.hid ht
      have HCT := Lib.hid (HC.out t (List.mem_of_getElem? ht))
      have hst := blockJ_step (d := D) (printL_get D ks j t ht)
      have HST := Lib.hid hst
      have hsz := szL_step ht
      have HS1 := Lib.hid (HR.out.eq (p' := pad D ++ (printT D t ++ (blockJ D ((printL D ks).drop (j + 1)) ++ (pad d ++ (([[125]] : List Bytes).flatten ++ p))))) (z' := t.sz + (szL (ks.drop (j + 1)) + z)) rfl (by rw [hst]; simp) (by rw [hsz]; omega))
      obtain ⟨c0, c1, c2, c3⟩ := HS1.out.box hlt
      clear ht hst hsz
      go_wp2_with fail
      refine (p_indent (by have := HDD.out; omega) HS1.out).mono ?_
      rintro e w2 ⟨rfl, h2⟩
      have HS2 := Lib.hid h2
      obtain ⟨d0, d1, d2, d3⟩ := h2.box hlt
      clear h2 c0 c1 c2 c3
      go_wp2_with fail
      have T := p_kid HCT.out j HT.out k (sb s) x A n c HK.out hp HS2.out
      refine T.mono ?_
      clear T
      rintro e w3 ⟨rfl, h3⟩
      have HS3 := Lib.hid h3
      clear h3 d0 d1 d2 d3
      go_wp2
      go_roundw
      case rel => exact ⟨j + 1, dn ++ pad D ++ printT D t, by omega, by go_num, by rw [← HD.out, HST.out]; simp, HS3.out.eq (by simp) rfl rfl⟩
      case measure => simp [intOf]; omega
    · have hjn : j = n := by omega
      have HE : Hid ((printL D ks).drop j = [] ∧ ks.drop j = []) := by
        rw [hjn, HN.out]
        refine ⟨?_, List.drop_length⟩
        rw [← HPL.out]
        exact List.drop_length
      have hS1 := HR.out.eq (p' := pad d ++ (([[125]] : List Bytes).flatten ++ p)) (z' := z) rfl (by rw [HE.out.1]; simp [blockJ]) (by rw [HE.out.2]; simp [szL])
      have HS2 := Lib.hid hS1
      obtain ⟨a5, b5, hset2⟩ := hS1.deep_cell
      have HS3 := Lib.hid (hset2 d)
      have HW : Hid (IntKind.i64.wrap ((D : Int) - 1) = (d : Int)) := by show _ = _; have := HDD.out; rw [IntKind.wrap_i64]; omega
      have hD1 : 1 ≤ D := by have := HDD.out; omega
      have hD2 : D ≤ 1001 := by have := HDD.out; omega
      have hDd : (D : Int) - 1 = (d : Int) := by have := HDD.out; omega
      clear hS1 hset2
      go_wp2_with fail
      refine (p_indent (by omega) HS3.out).mono ?_
      rintro e w5 ⟨rfl, h5⟩
      have HS5 := Lib.hid h5
      clear h5
      go_wp2_with fail
      refine (St.put ([[125]] : List Bytes) HS5.out _ rfl _ _ rfl rfl (by simp)).mono ?_
      rintro e w6 ⟨rfl, h6⟩
      have HS6 := Lib.hid h6
      clear h6
      go_wp2_with fail
      go_end0
      refine ⟨rfl, HH.out.leave HB.out (HS6.out.eq ?_ rfl rfl)⟩
      rw [← HD.out, HE.out.1]
      simp [blockJ]
end Go.Proofs.YtjdofndkdkeapaaGreatDoor
