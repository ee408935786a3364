/- The walks over package tree (chapter 6): says. -/
import Derived.Test.YtjdofndkdkeapaaGreatDoorTreeA
import Derived.Deep.RegionWith
namespace Go.Proofs.YtjdofndkdkeapaaGreatDoor
open Go.RowKit

theorem p_fields_unary (w : World) (hE : EnvS w) : Calls Tryz.prog 35 #[.string ⟨#[45, 32, 33]⟩] w (RowPost 2 unaryL w) := by
  refine (Tryz.strings_Fields _ w (by decide) (ascii_of (by decide)) hE.tabS).mono ?_
  rintro e w1 ⟨rfl, rfl⟩
  exact row_of_fields (by decide +kernel) (by decide) w
theorem p_fields_binary (w : World) (hE : EnvS w) : Calls Tryz.prog 35 #[.string ⟨#[124, 124, 32, 38, 38, 32, 61, 61, 32, 33, 61, 32, 60, 32, 60, 61, 32, 62, 32, 62, 61, 32, 43, 32, 45, 32, 42, 32, 47, 32, 37]⟩] w (RowPost 13 binaryL w) := by
  refine (Tryz.strings_Fields _ w (by decide) (ascii_of (by decide)) hE.tabS).mono ?_
  rintro e w1 ⟨rfl, rfl⟩
  exact row_of_fields (by decide +kernel) (by decide) w

set_option maxHeartbeats 1000000 in
theorem p_among (s t : ByteArray) (n : Nat) (ss : List Bytes) (b : Nat) (w : World) (hE : EnvS w) (hx : w.cell? ⟨b, 1, none⟩ = some (.string t)) (hF : Hid (∀ w, EnvS w → Calls Tryz.prog 35 #[.string s] w (RowPost n ss w))) (hn : n ≤ 9223372036854775807) (h0 : hasB ss [] = false) :
    Calls Tryz.prog 75 #[.string s, .pointer (some ⟨b, 0, none⟩)] w (NamePost (hasB ss (bl t)) w) := by
  have HE := Lib.hid hE
  have hlt := cell_lt hx
  simp only at hlt
  have H0 := Lib.hid h0
  clear hE h0
  by_cases ht : bl t = []
  · obtain rfl : t = ⟨#[]⟩ := by apply bl_inj; rw [ht]
    have HR : Hid (hasB ss (bl ⟨#[]⟩) = false) := H0.out
    clear ht
    go_enter Tryz.func75, Tryz.ntmps75
    go_wp2
    go_quiet (fail)
    go_wp2
    go_ret
    exact NamePost.intro HR.out.symm (below_drews (Below.refl _ _) _)
  · have h1 : t.toList.isEmpty = false := by rw [toList_bl]; cases hh : bl t with | nil => exact absurd hh ht | cons a l => rfl
    clear ht
    go_enter Tryz.func75, Tryz.ntmps75
    go_wp2
    go_region_with (first | (go_at_call 35; refine (hF.out _ (HE.out.below (B := w.heap.size) (by first | exact Below.refl _ _ | exact (Below.refl _ _).drew) (Nat.le_refl _))).mono ?_; rintro e w1 ⟨A1, rfl, hrow, hbel', _, g1, rfl⟩; have hbel : Below w.heap.size w w1 := Below.trans (by first | exact Below.refl _ _ | exact (Below.refl _ _).drew) hbel'; have hx1 := (hbel.cell (p := ⟨b, 1, none⟩) (by simpa using hlt)).trans hx; clear hbel') | (go_at_call 31; refine (p_contains _ _ _ _ _ _ hrow hn).mono ?_; rintro e w' ⟨rfl, rfl⟩))
    all_goals
      go_wp2
      go_ret
      exact NamePost.intro rfl (by first | exact hbel | exact hbel.drew)

theorem enter_says (args : Array Value) (w : World) : (callFunc 75 args).run Tryz.prog w = .ok (.enter 75 args) w := run_enter Tryz.func75 (by kernel_rfl) (by kernel_rfl) args w
theorem nil_eq (s : ByteArray) : (s.toList = []) = (bl s = []) := by rw [toList_bl]
theorem box4 {w : World} {x y z u : Value} {T : TypeId} : (w.alloc (.cells #[x, y, z, u] T)).cell? ⟨w.heap.size, 0, none⟩ = some x ∧ (w.alloc (.cells #[x, y, z, u] T)).cell? ⟨w.heap.size, 1, none⟩ = some y ∧ (w.alloc (.cells #[x, y, z, u] T)).cell? ⟨w.heap.size, 2, none⟩ = some z ∧ (w.alloc (.cells #[x, y, z, u] T)).cell? ⟨w.heap.size, 3, none⟩ = some u := by
  refine ⟨?_, ?_, ?_, ?_⟩ <;> (rw [World.cell?_alloc_new]; rfl)

set_option maxRecDepth 20000 in
set_option maxHeartbeats 1000000 in
theorem p_says (k : Nat) (s : ByteArray) (x : Int) (A : Option Addr) (n c : Nat) (w : World) (hE : EnvS w) (hs : s.size ≤ 9223372036854775806) :
    Calls Tryz.prog 39 #[.agg #[.int .u8 k, .string s, .int .i64 x, .slice A n c]] w (NamePost (saysB k (bl s) x) w) := by
  have hb0 : Below w.heap.size w (w.alloc (.cells #[.int .u8 k, .string s, .int .i64 x, .slice A n c] 25)) := (Below.refl _ _).alloc (Nat.le_refl _) _
  have HB0 := Lib.hid hb0
  have HE := Lib.hid (hE.below hb0 (Nat.le_refl _))
  have hmf := run_makeFunc
  clear hE hb0
  have HS1 : Hid (bl s = [] → s = ⟨#[]⟩) := fun h => by apply bl_inj; rw [h]
  have HS2 : Hid (bl s ≠ [] → s.toList.isEmpty = false) := fun h => by rw [toList_bl]; cases hh : bl s with | nil => exact absurd hh h | cons a l => rfl
  by_cases h20 : k = 20
  · subst h20
    by_cases he : bl s = []
    · obtain rfl := HS1.out he
      clear he
      go_enter Tryz.func39, Tryz.ntmps39
      go_wp2_with fail
      go_ret
      exact NamePost.intro (by simp [saysB]) HB0.out
    · have h1 := HS2.out he
      have HR : Hid (saysB 20 (bl s) x = false) := by show _ = _; revert he; generalize bl s = t; intro he; simp [saysB, he]
      clear he
      go_enter Tryz.func39, Tryz.ntmps39
      go_wp2_with fail
      go_ret
      exact NamePost.intro HR.out.symm HB0.out
  · by_cases h21 : k = 21
    · subst h21
      by_cases he : bl s = []
      · obtain rfl := HS1.out he
        clear he
        go_enter Tryz.func39, Tryz.ntmps39
        go_wp2_with fail
        go_ret
        refine NamePost.intro ?_ HB0.out
        rw [Bool.eq_iff_iff]
        simp [saysB]
        omega
      · have h1 := HS2.out he
        have HR : Hid (saysB 21 (bl s) x = false) := by show _ = _; revert he; generalize bl s = t; intro he; simp [saysB, he]
        clear he
        go_enter Tryz.func39, Tryz.ntmps39
        go_wp2_with fail
        go_ret
        exact NamePost.intro HR.out.symm HB0.out
    · have e20 : ¬ (k : Int) = 20 := by omega
      have e21 : ¬ (k : Int) = 21 := by omega
      by_cases hx : x = 0
      · subst hx
        cases hn : namedB k with
        | true =>
          have HN := Lib.hid hn
          have HR : Hid (isName (bl s) = saysB k (bl s) 0) := by show _ = _; simp [saysB, h20, h21, hn]
          clear hn h20 h21
          go_enter Tryz.func39, Tryz.ntmps39
          go_wp2_with fail
          refine (p_named k _).mono ?_
          rintro e w1 ⟨rfl, hb⟩
          rw [HN.out]
          have HB1 : Hid (Below w.heap.size w w1) := HB0.out.trans (hb.mono HB0.out.size)
          have HE1 := Lib.hid (HE.out.below hb (Nat.le_refl _))
          have hc := (hb.cell (p := ⟨w.heap.size, 1, none⟩) (by simp)).trans box4.2.1
          clear hb
          go_wp2_with fail
          refine (p_name s _ HE1.out hs).mono ?_
          rintro e w2 ⟨rfl, hb⟩
          have HB2 : Hid (Below w.heap.size w w2) := HB1.out.trans (hb.mono HB1.out.size)
          clear hb
          go_wp2
          go_ret
          exact NamePost.intro HR.out HB2.out
        | false =>
          have HN := Lib.hid hn
          by_cases h23 : k = 23
          · subst h23
            have HR : Hid (hasB unaryL (bl s) = saysB 23 (bl s) 0) := rfl
            clear hn
            go_enter Tryz.func39, Tryz.ntmps39
            go_wp2_with fail
            refine (p_named 23 _).mono ?_
            rintro e w1 ⟨rfl, hb⟩
            rw [HN.out]
            have HB1 : Hid (Below w.heap.size w w1) := HB0.out.trans (hb.mono HB0.out.size)
            have HE1 := Lib.hid (HE.out.below hb (Nat.le_refl _))
            have hc := (hb.cell (p := ⟨w.heap.size, 1, none⟩) (by simp)).trans box4.2.1
            have hc0 := (hb.cell (p := ⟨w.heap.size, 0, none⟩) (by simp)).trans box4.1
            have HC := Lib.hid hc
            have hcf := enter_says
            clear hb hc
            go_wp2_with fail
            refine (p_among _ s 2 unaryL w.heap.size _ HE1.out HC.out (Lib.hid p_fields_unary) (by decide) (by decide)).mono ?_
            rintro e w2 ⟨rfl, hb⟩
            have HB2 : Hid (Below w.heap.size w w2) := HB1.out.trans (hb.mono HB1.out.size)
            clear hb
            go_wp2
            go_ret
            exact NamePost.intro HR.out HB2.out
          · have e23 : ¬ (k : Int) = 23 := by omega
            by_cases h24 : k = 24
            · subst h24
              have HR : Hid (hasB binaryL (bl s) = saysB 24 (bl s) 0) := rfl
              clear hn
              go_enter Tryz.func39, Tryz.ntmps39
              go_wp2_with fail
              refine (p_named 24 _).mono ?_
              rintro e w1 ⟨rfl, hb⟩
              rw [HN.out]
              have HB1 : Hid (Below w.heap.size w w1) := HB0.out.trans (hb.mono HB0.out.size)
              have HE1 := Lib.hid (HE.out.below hb (Nat.le_refl _))
              have hc := (hb.cell (p := ⟨w.heap.size, 1, none⟩) (by simp)).trans box4.2.1
              have hc0 := (hb.cell (p := ⟨w.heap.size, 0, none⟩) (by simp)).trans box4.1
              have HC := Lib.hid hc
              have hcf := enter_says
              clear hb hc
              go_wp2_with fail
              refine (p_among _ s 13 binaryL w.heap.size _ HE1.out HC.out (Lib.hid p_fields_binary) (by decide) (by decide)).mono ?_
              rintro e w2 ⟨rfl, hb⟩
              have HB2 : Hid (Below w.heap.size w w2) := HB1.out.trans (hb.mono HB1.out.size)
              clear hb
              go_wp2
              go_ret
              exact NamePost.intro HR.out HB2.out
            · have e24 : ¬ (k : Int) = 24 := by omega
              have HR : Hid (saysB k (bl s) 0 = (bl s == [])) := by show _ = _; simp [saysB, h20, h21, hn, h23, h24]
              clear hn h20 h21 h23 h24
              by_cases he : bl s = []
              · obtain rfl := HS1.out he
                clear he
                go_enter Tryz.func39, Tryz.ntmps39
                go_wp2_with fail
                refine (p_named k _).mono ?_
                rintro e w1 ⟨rfl, hb⟩
                rw [HN.out]
                have HB1 : Hid (Below w.heap.size w w1) := HB0.out.trans (hb.mono HB0.out.size)
                have hc := (hb.cell (p := ⟨w.heap.size, 1, none⟩) (by simp)).trans box4.2.1
                have hc0 := (hb.cell (p := ⟨w.heap.size, 0, none⟩) (by simp)).trans box4.1
                clear hb
                go_wp2
                go_ret
                exact NamePost.intro (by rw [HR.out]; rfl) HB1.out
              · have h1 := HS2.out he
                have HF : Hid (saysB k (bl s) 0 = false) := by show _ = _; rw [HR.out]; simpa using he
                clear he
                go_enter Tryz.func39, Tryz.ntmps39
                go_wp2_with fail
                refine (p_named k _).mono ?_
                rintro e w1 ⟨rfl, hb⟩
                rw [HN.out]
                have HB1 : Hid (Below w.heap.size w w1) := HB0.out.trans (hb.mono HB0.out.size)
                have hc := (hb.cell (p := ⟨w.heap.size, 1, none⟩) (by simp)).trans box4.2.1
                have hc0 := (hb.cell (p := ⟨w.heap.size, 0, none⟩) (by simp)).trans box4.1
                clear hb
                go_wp2
                go_ret
                exact NamePost.intro HF.out.symm HB1.out
      · have HR : Hid (saysB k (bl s) x = false) := by show _ = _; simp [saysB, h20, h21, hx]
        clear h20 h21
        go_enter Tryz.func39, Tryz.ntmps39
        go_wp2_with fail
        go_ret
        exact NamePost.intro HR.out.symm HB0.out
end Go.Proofs.YtjdofndkdkeapaaGreatDoor
