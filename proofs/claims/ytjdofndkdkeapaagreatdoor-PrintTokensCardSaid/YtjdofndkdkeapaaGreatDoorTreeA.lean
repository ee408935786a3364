/- The walks over package tree (chapter 6): is, named, Fits. -/
import Derived.Test.YtjdofndkdkeapaaGreatDoorKindRows
import Derived.Test.YtjdofndkdkeapaaGreatDoorLexName
namespace Go.Proofs.YtjdofndkdkeapaaGreatDoor
open Go.RowKit

set_option maxHeartbeats 1000000 in
theorem p_is (k o : Nat) (w : World) : Calls Tryz.prog 77 #[.int .u8 k, .int .u8 o] w fun e w' => e = .returned (.bool (isB k o)) ∧ w = w' := by
  by_cases h0 : o = 200
  · subst h0
    go_enter Tryz.func77, Tryz.ntmps77
    go_wp2
    all_goals
      go_ret
      exact ⟨ret_bool (by simp [isB]; try omega), rfl⟩
  · by_cases h1 : o = 201
    · subst h1
      go_enter Tryz.func77, Tryz.ntmps77
      go_wp2
      all_goals
        go_ret
        exact ⟨ret_bool (by simp [isB]; try omega), rfl⟩
    · by_cases h2 : o = 202
      · subst h2
        go_enter Tryz.func77, Tryz.ntmps77
        go_wp2
        all_goals
          go_ret
          exact ⟨ret_bool (by simp [isB]; try omega), rfl⟩
      · have e0 : ¬ (o : Int) = 200 := by omega
        have e1 : ¬ (o : Int) = 201 := by omega
        have e2 : ¬ (o : Int) = 202 := by omega
        have HR : Hid (isB k o = (k == o)) := by show _ = _; simp [isB, h0, h1, h2]
        clear h0 h1 h2
        go_enter Tryz.func77, Tryz.ntmps77
        go_wp2
        go_ret
        exact ⟨ret_bool (by rw [HR.out]; simp; try omega), rfl⟩

/-! ### slices.Contains over a row of kinds -/
def hasK (zs : List Nat) (x : Nat) : Bool := zs.contains x
theorem kinds_step {zs : List Nat} {x z : Nat} {k : Nat} (hz : zs[k]? = some z) : hasK (zs.take (k + 1)) x = (hasK (zs.take k) x || x == z) := by
  have hk : k < zs.length := (List.getElem?_eq_some_iff.1 hz).1
  have : zs.take (k + 1) = zs.take k ++ [z] := by
    rw [List.take_succ_eq_append_getElem hk]
    rw [List.getElem?_eq_getElem hk] at hz
    injection hz with hz
    rw [hz]
  unfold hasK
  rw [this, Bool.eq_iff_iff]
  simp
def IndexPost (b : Bool) (w : World) (e : Ending) (w' : World) : Prop := w = w' ∧ ∃ i : Int, e = .returned (.int .i64 i) ∧ (0 ≤ i ↔ b = true)
theorem IndexPost.intro {b : Bool} {w : World} {i : Int} (h : 0 ≤ i ↔ b = true) : IndexPost b w (.returned (.int .i64 i)) w := ⟨rfl, i, rfl, h⟩
set_option maxHeartbeats 400000 in
theorem p_index_kinds (zs : List Nat) (A : Option Addr) (n c x : Nat) (w : World) (h : KindsAt w zs A n c) :
    Calls Tryz.prog 104 #[.slice A n c, .int .u8 x] w (IndexPost (hasK zs x) w) := by
  have H := Lib.hid h
  have HL : Hid (n = zs.length) := h.1
  have hn : n ≤ 9223372036854775807 := by have := h.2.1; have := h.2.2.1; unfold maxLen at this; omega
  clear h
  go_enter Tryz.func104, Tryz.ntmps104
  go_wp2
  go_loop [8] (fun i => ∃ k : Nat, k ≤ n ∧ i = .int .i64 k ∧ Hid (hasK (zs.take k) x = false)) (fun i => n - (intOf i).toNat)
  case atStart => exact ⟨0, Nat.zero_le _, rfl, by show _ = _; simp [hasK]⟩
  case round =>
    obtain ⟨k, hk, rfl, HB⟩ := hrel
    by_cases hlt : k < n
    · obtain ⟨b, o, z, rfl, hz, hc⟩ := H.out.get hlt
      have HZ := Lib.hid hz
      have HS := Lib.hid (kinds_step (x := x) hz)
      by_cases heq : x = z
      · subst heq
        have HQ : Hid (hasK zs x = true) := by show _ = _; simp [hasK]; exact List.mem_of_getElem? hz
        clear hz
        go_wp2
        go_ret
        exact IndexPost.intro (by rw [HQ.out]; simp)
      · have HQ := Lib.hid heq
        have e1 : ¬ (x : Int) = z := by omega
        clear heq hz
        go_wp2
        go_round
        case rel => exact ⟨k + 1, by omega, by go_num, by show _ = _; rw [HS.out, HB.out]; simp [HQ.out]⟩
        case measure => simp [intOf]; omega
    · go_wp2
      go_ret
      have h1 := HB.out
      rw [List.take_of_length_le (by have := HL.out; omega)] at h1
      exact IndexPost.intro (by rw [h1]; simp)

set_option maxHeartbeats 400000 in
theorem p_contains_kinds (zs : List Nat) (A : Option Addr) (n c x : Nat) (w : World) (h : KindsAt w zs A n c) :
    Calls Tryz.prog 89 #[.slice A n c, .int .u8 x] w fun e w' => e = .returned (.bool (hasK zs x)) ∧ w = w' := by
  have H := Lib.hid h
  clear h
  go_enter Tryz.func89, Tryz.ntmps89
  go_wp2_with fail
  refine (p_index_kinds zs A n c x _ H.out).mono ?_
  rintro e w' ⟨rfl, i, rfl, hi⟩
  have HI := Lib.hid hi
  clear hi
  go_wp2
  go_ret
  exact ⟨ret_bool (by simp [HI.out]), rfl⟩

set_option maxHeartbeats 400000 in
theorem p_named (k : Nat) (w : World) : Calls Tryz.prog 76 #[.int .u8 k] w (NamePost (namedB k) w) := by
  have HK := Lib.hid (KindsAt.new w #[.int .u8 2, .int .u8 4, .int .u8 6, .int .u8 22, .int .u8 25] 22 (by rfl) (by decide))
  have HR : Hid (hasK [2, 4, 6, 22, 25] k = namedB k) := by
    show _ = _
    unfold hasK namedB
    rw [Bool.eq_iff_iff]
    simp [or_assoc]
  go_enter Tryz.func76, Tryz.ntmps76
  go_wp2_with fail
  refine (p_contains_kinds [2, 4, 6, 22, 25] _ _ _ _ _ HK.out).mono ?_
  rintro e w' ⟨rfl, rfl⟩
  rw [HR.out]
  go_wp2
  go_ret
  exact NamePost.intro rfl ((Below.refl _ _).alloc (Nat.le_refl _) _)

/-! ### Fits -/
theorem rowTbl_all : ∀ k : Fin 30, ∀ l, rowsOf k.val = some (l, true) → l = [l.headD 0] := by
  intro k l h
  revert h
  revert l
  have : ∀ k : Fin 30, (match rowsOf k.val with | some (l, true) => l == [l.headD 0] | _ => true) = true := by decide
  intro l h
  have h2 := this k
  rw [h] at h2
  simpa using h2
theorem rowsOf_big {k : Nat} (h : 30 ≤ k) : rowsOf k = none := by
  obtain ⟨n, rfl⟩ : ∃ n, k = n + 30 := ⟨k - 30, by omega⟩
  rfl
theorem rowsOf_all {k : Nat} {l : List Nat} (h : rowsOf k = some (l, true)) : ∃ a, l = [a] := by
  by_cases hk : k < 30
  · exact ⟨_, rowTbl_all ⟨k, hk⟩ l h⟩
  · rw [rowsOf_big (by omega)] at h; cases h

set_option maxRecDepth 20000 in
set_option maxHeartbeats 1000000 in
theorem p_fits (p k i : Nat) (w : World) : Calls Tryz.prog 40 #[.int .u8 p, .int .u8 k, .int .i64 i] w (NamePost (fitsB p k i) w) := by
  cases hr : rowsOf p with
  | none =>
    have HR := Lib.hid hr
    have HF : Hid (fitsB p k i = false) := by show _ = _; unfold fitsB; rw [hr]
    clear hr
    go_enter Tryz.func40, Tryz.ntmps40
    go_wp2_with fail
    refine (p_rows p _).mono ?_
    rintro e w1 ⟨hb, hp⟩
    rw [HR.out] at hp
    simp only at hp
    subst hp
    have HB := Lib.hid hb
    clear hb
    go_wp2
    go_ret
    exact NamePost.intro HF.out.symm (HB.out.alloc HB.out.size _)
  | some r =>
    obtain ⟨l, all⟩ := r
    have HR := Lib.hid hr
    cases all with
    | true =>
      obtain ⟨a, rfl⟩ := rowsOf_all hr
      have HF : Hid (isB k a = fitsB p k i) := by show _ = _; unfold fitsB; rw [hr]; rfl
      clear hr
      go_enter Tryz.func40, Tryz.ntmps40
      go_wp2_with fail
      refine (p_rows p _).mono ?_
      rintro e w1 ⟨hb, hp⟩
      rw [HR.out] at hp
      simp only at hp
      obtain ⟨v, rfl, A, n, c, rfl, hk⟩ := hp
      have HB := Lib.hid hb
      obtain ⟨rfl, _⟩ := id hk
      obtain ⟨b, o, z, rfl, hz, hc⟩ := hk.get (i := 0) (by simp)
      simp at hz
      subst hz
      have hlt := cell_lt hc
      simp only [Nat.add_zero] at hc hlt
      clear hk hb
      go_wp2_with fail
      refine (p_is k a _).mono ?_
      rintro e w2 ⟨rfl, rfl⟩
      go_wp2
      go_ret
      exact NamePost.intro HF.out (HB.out.alloc HB.out.size _)
    | false =>
      by_cases hi : i < l.length
      · have HF : Hid (∀ z, l[i]? = some z → isB k z = fitsB p k i) := by intro z hz; unfold fitsB; rw [hr]; simp [hz]
        clear hr
        go_enter Tryz.func40, Tryz.ntmps40
        go_wp2_with fail
        refine (p_rows p _).mono ?_
        rintro e w1 ⟨hb, hp⟩
        rw [HR.out] at hp
        simp only at hp
        obtain ⟨v, rfl, A, n, c, rfl, hk⟩ := hp
        have HB := Lib.hid hb
        obtain ⟨rfl, _⟩ := id hk
        obtain ⟨b, o, z, rfl, hz, hc⟩ := hk.get (i := i) hi
        have HZ := Lib.hid (HF.out z hz)
        have hlt := cell_lt hc
        simp only at hlt
        have hll : l.length ≤ 9223372036854775807 := by have h1 := hk.2.1; have h2 := hk.2.2.1; simp only at h1; unfold maxLen at h2; omega
        clear hk hb hz
        go_wp2_with fail
        refine (p_is k z _).mono ?_
        rintro e w2 ⟨rfl, rfl⟩
        go_wp2
        go_ret
        exact NamePost.intro HZ.out (HB.out.alloc HB.out.size _)
      · have HF : Hid (fitsB p k i = false) := by show _ = _; unfold fitsB; rw [hr]; simp [List.getElem?_eq_none (by omega : l.length ≤ i)]
        clear hr
        go_enter Tryz.func40, Tryz.ntmps40
        go_wp2_with fail
        refine (p_rows p _).mono ?_
        rintro e w1 ⟨hb, hp⟩
        rw [HR.out] at hp
        simp only at hp
        obtain ⟨v, rfl, A, n, c, rfl, hk⟩ := hp
        have HB := Lib.hid hb
        obtain ⟨rfl, _⟩ := id hk
        have hll : l.length ≤ 9223372036854775807 := by have h1 := hk.2.1; have h2 := hk.2.2.1; simp only at h1; unfold maxLen at h2; omega
        clear hk hb
        go_wp2_with fail
        go_ret
        exact NamePost.intro HF.out.symm (HB.out.alloc HB.out.size _)
end Go.Proofs.YtjdofndkdkeapaaGreatDoor
