/- The walk over tree.Right (chapter 6). -/
import Derived.Test.YtjdofndkdkeapaaGreatDoorTreeB
import Derived.Laws.EntriesVeiled
namespace Go.Proofs.YtjdofndkdkeapaaGreatDoor
open Go.RowKit

theorem enter_right (args : Array Value) (w : World) : (callFunc 37 args).run Tryz.prog w = .ok (.enter 37 args) w := run_enter Tryz.func37 (by kernel_rfl) (by kernel_rfl) args w

/-- The contract of the closure at trees of at most a size. -/
def RightC (m : Nat) : Prop := ∀ (t : Tree) (k : Nat) (s : ByteArray) (x : Int) (A : Option Addr) (n c deep rb : Nat) (w : World), t.sz ≤ m → NodeIs w t k s x A n c → t.short 9223372036854775806 → deep ≤ 41 → EnvS w →
  w.cell? ⟨rb, 0, none⟩ = some (.func (.func 37) #[] #[.pointer (some ⟨rb, 0, none⟩)]) →
  Calls Tryz.prog 37 #[.agg #[.int .u8 k, .string s, .int .i64 x, .slice A n c], .int .i64 deep, .pointer (some ⟨rb, 0, none⟩)] w (NamePost (rightT deep t) w)

theorem rightL_cons (k i d : Nat) (t : Tree) (ts : List Tree) : rightL k i d (t :: ts) = (fitsB k t.kind i && rightT d t && rightL k (i + 1) d ts) := by
  simp only [rightL]
theorem rightL_step {k d i : Nat} {ks : List Tree} {t : Tree} (h : rightL k 0 d ks = rightL k i d (ks.drop i)) (ht : ks[i]? = some t) : rightL k 0 d ks = (fitsB k t.kind i && rightT d t && rightL k (i + 1) d (ks.drop (i + 1))) := by
  have hi : i < ks.length := (List.getElem?_eq_some_iff.1 ht).1
  rw [h, List.drop_eq_getElem_cons hi]
  rw [List.getElem?_eq_getElem hi] at ht
  injection ht with ht
  rw [ht, rightL_cons]
theorem sz_get {ks : List Tree} {i : Nat} {t : Tree} (h : ks[i]? = some t) : t.sz ≤ szL ks := by
  induction ks generalizing i with
  | nil => simp at h
  | cons u us ih =>
    cases i with
    | zero => simp at h; subst h; simp [szL]
    | succ i => have := ih (i := i) (by simpa using h); simp [szL]; omega

def setOk (ks : List Tree) : Bool := match ks with | .node 22 _ _ _ :: _ => true | .node _ _ _ (.node 22 _ _ _ :: _) :: _ => true | _ => false
theorem box2n {w : World} {x y : Value} {T : TypeId} : (w.alloc (.cells #[x, y] T)).cell? ⟨w.heap.size, 0, none⟩ = some x ∧ (w.alloc (.cells #[x, y] T)).cell? ⟨w.heap.size, 1, none⟩ = some y := by
  refine ⟨?_, ?_⟩ <;> (rw [World.cell?_alloc_new]; rfl)
/-- What is told where the closure leaves early. -/
theorem rightT_none {d k : Nat} {s : Bytes} {x : Int} {ks : List Tree} (h : rowsOf k = none) : rightT d (.node k s x ks) = false := by simp [rightT, h]
theorem rightT_some {d k : Nat} {s : Bytes} {x : Int} {ks : List Tree} {l : List Nat} {all : Bool} (h : rowsOf k = some (l, all)) : rightT d (.node k s x ks) = (decide (d ≤ 40) && saysB k s x && (all || ks.length == l.length) && rightL k 0 (d + 1) ks &&
        (k != 7 || setOk ks)) := by simp only [rightT, h]; rfl

theorem right7 {d : Nat} {ks : List Tree} (h : rightL 7 0 d ks = true) (hl : 0 < ks.length) : ∃ t0 ts, ks = t0 :: ts ∧ ((t0.kind = 22 ∧ setOk ks = true) ∨ (t0.kind = 26 ∧ ∃ u us, t0.kids = u :: us ∧ setOk ks = (u.kind == 22))) := by
  match ks, hl with
  | t0 :: ts, _ =>
    rw [rightL_cons] at h
    simp only [Bool.and_eq_true] at h
    obtain ⟨⟨h1, h2⟩, _⟩ := h
    refine ⟨t0, ts, rfl, ?_⟩
    obtain ⟨k0, s0, x0, ks0⟩ := t0
    have hk : k0 = 22 ∨ k0 = 26 := by simpa [fitsB, rowsOf, isB, Tree.kind] using h1
    rcases hk with rfl | rfl
    · exact .inl ⟨rfl, rfl⟩
    · right
      refine ⟨rfl, ?_⟩
      have hr : rowsOf 26 = some ([200, 200], false) := rfl
      rw [rightT_some hr] at h2
      have h3 : ks0.length = 2 := by revert h2; simp; intros; assumption
      match ks0, h3 with
      | u :: us, _ =>
        refine ⟨u, us, rfl, ?_⟩
        obtain ⟨ku, su, xu, ksu⟩ := u
        by_cases hu : ku = 22
        · subst hu; rfl
        · have : (Tree.kind (.node ku su xu ksu) == 22) = false := by simp [Tree.kind, hu]
          rw [this]
          unfold setOk
          split
          · rename_i heq; injection heq with h1 _; injection h1 with h1; omega
          · rename_i heq; injection heq with h1 _; injection h1 with _ _ _ h1; injection h1 with h1 _; injection h1 with h1; omega
          · rfl
set_option maxRecDepth 20000 in
set_option maxHeartbeats 2000000 in
theorem right_step (m : Nat) (ih : Hid (RightC m)) : RightC (m + 1) := by
  intro t k s x A n c deep rb w hsz hN hsh hd hE hrb
  obtain ⟨ks, rfl, hk255, hsm, hx, hK⟩ := hN
  have hs : s.size ≤ 9223372036854775806 := by simp only [Tree.short] at hsh; exact hsh.1
  have HSZ : Hid (szL ks ≤ m) := by show _ ≤ _; simp only [Tree.sz] at hsz; omega
  have HSH : Hid (shortL 9223372036854775806 ks) := by simp only [Tree.short] at hsh; exact hsh.2
  have hb0 : Below w.heap.size w (w.alloc (.cells #[.int .u8 k, .string s, .int .i64 x, .slice A n c] 25)) := (Below.refl _ _).alloc (Nat.le_refl _) _
  have HB0 := Lib.hid hb0
  have HE := Lib.hid (hE.below hb0 (Nat.le_refl _))
  have HK := Lib.hid (hK.below hb0)
  have HRB := Lib.hid (cell_below hb0 hrb)
  have hlrb := cell_lt hrb
  simp only at hlrb
  clear hsz hsh hb0 hE hrb hx hk255
  cases hr : rowsOf k with
  | none =>
    have HR := Lib.hid hr
    have HF := Lib.hid (rightT_none (d := deep) (s := bl s) (x := x) (ks := ks) hr)
    clear hr
    go_enter Tryz.func37, Tryz.ntmps37
    go_wp2_with fail
    refine (p_rows k _).mono ?_
    rintro e w1 ⟨hb, hp⟩
    rw [HR.out] at hp
    simp only at hp
    subst hp
    have HB : Hid (Below w.heap.size w w1) := HB0.out.trans (hb.mono HB0.out.size)
    clear hb
    go_wp2_with fail
    go_ret
    exact NamePost.intro HF.out.symm (HB.out.alloc HB.out.size _)
  | some r =>
    obtain ⟨l, all⟩ := r
    have HR := Lib.hid hr
    have HF := Lib.hid (rightT_some (d := deep) (s := bl s) (x := x) (ks := ks) hr)
    clear hr
    by_cases hdp : 40 < deep
    · have HV : Hid (rightT deep (.node k (bl s) x ks) = false) := by show _ = _; rw [HF.out]; simp [Nat.not_le.2 hdp]
      go_enter Tryz.func37, Tryz.ntmps37
      go_wp2_with fail
      refine (p_rows k _).mono ?_
      rintro e w1 ⟨hb, hp⟩
      rw [HR.out] at hp
      simp only at hp
      obtain ⟨v, rfl, A1, n1, c1, rfl, hk1⟩ := hp
      have HB : Hid (Below w.heap.size w w1) := HB0.out.trans (hb.mono HB0.out.size)
      clear hb hk1
      go_wp2_with fail
      go_ret
      exact NamePost.intro HV.out.symm (HB.out.alloc HB.out.size _)
    · have hd40 : deep ≤ 40 := by omega
      clear hdp
      cases hsy : saysB k (bl s) x with
      | false =>
        have HSY := Lib.hid hsy
        have HV : Hid (rightT deep (.node k (bl s) x ks) = false) := by show _ = _; rw [HF.out, hsy]; simp
        clear hsy
        go_enter Tryz.func37, Tryz.ntmps37
        go_wp2_with fail
        refine (p_rows k _).mono ?_
        rintro e w1 ⟨hb, hp⟩
        rw [HR.out] at hp
        simp only at hp
        obtain ⟨v, rfl, A1, n1, c1, rfl, hk1⟩ := hp
        have HB : Hid (Below w.heap.size w w1) := HB0.out.trans (hb.mono HB0.out.size)
        have HE1 := Lib.hid ((HE.out.below hb (Nat.le_refl _)).below ((Below.refl _ _).alloc (Nat.le_refl _) (.cells #[.slice A1 n1 c1, .bool all] 86)) (Nat.le_refl _))
        have hc0 := (hb.cell (p := ⟨w.heap.size, 0, none⟩) (by simp)).trans box4.1
        have hc1 := (hb.cell (p := ⟨w.heap.size, 1, none⟩) (by simp)).trans box4.2.1
        have hc2 := (hb.cell (p := ⟨w.heap.size, 2, none⟩) (by simp)).trans box4.2.2.1
        have hc3 := (hb.cell (p := ⟨w.heap.size, 3, none⟩) (by simp)).trans box4.2.2.2
        have hlt : w.heap.size < w1.heap.size := by have := hb.size; simp at this; omega
        clear hb hk1
        go_wp2_with fail
        refine (p_says k s x A _ c _ HE1.out hs).mono ?_
        rintro e w2 ⟨rfl, hb⟩
        rw [HSY.out]
        have HB2 : Hid (Below w.heap.size w w2) := (HB.out.alloc HB.out.size _).trans (hb.mono (by simp; have := HB.out.size; omega))
        clear hb
        go_wp2_with fail
        go_ret
        exact NamePost.intro HV.out.symm HB2.out
      | true =>
        have HSY := Lib.hid hsy
        have hnk : n = ks.length := HK.out.1
        by_cases hcount : all = false ∧ n ≠ l.length
        · obtain ⟨rfl, hne⟩ := hcount
          have HV : Hid (rightT deep (.node k (bl s) x ks) = false) := by
            show _ = _; rw [HF.out]
            have : (ks.length == l.length) = false := by simp; omega
            simp [this]
          have hne' : ((n : Int) != l.length) = true := by simp; omega
          clear hsy hne hnk
          go_enter Tryz.func37, Tryz.ntmps37
          go_wp2_with fail
          refine (p_rows k _).mono ?_
          rintro e w1 ⟨hb, hp⟩
          rw [HR.out] at hp
          simp only at hp
          obtain ⟨v, rfl, A1, n1, c1, rfl, hk1⟩ := hp
          have HB : Hid (Below w.heap.size w w1) := HB0.out.trans (hb.mono HB0.out.size)
          have HE1 := Lib.hid ((HE.out.below hb (Nat.le_refl _)).below ((Below.refl _ _).alloc (Nat.le_refl _) (.cells #[.slice A1 n1 c1, .bool false] 86)) (Nat.le_refl _))
          have hc0 := (hb.cell (p := ⟨w.heap.size, 0, none⟩) (by simp)).trans box4.1
          have hc1 := (hb.cell (p := ⟨w.heap.size, 1, none⟩) (by simp)).trans box4.2.1
          have hc2 := (hb.cell (p := ⟨w.heap.size, 2, none⟩) (by simp)).trans box4.2.2.1
          have hc3 := (hb.cell (p := ⟨w.heap.size, 3, none⟩) (by simp)).trans box4.2.2.2
          have hlt : w.heap.size < w1.heap.size := by have := hb.size; simp at this; omega
          have HN1 : Hid (n1 = l.length) := hk1.1
          have HKr := Lib.hid (HK.out.below hb)
          have HRr := Lib.hid (cell_below hb HRB.out)
          clear hb hk1
          go_wp2_with fail
          refine (p_says k s x A _ c _ HE1.out hs).mono ?_
          rintro e w2 ⟨rfl, hb⟩
          rw [HSY.out]
          have HB2 : Hid (Below w.heap.size w w2) := (HB.out.alloc HB.out.size _).trans (hb.mono (by simp; have := HB.out.size; omega))
          have hbw : Below w1.heap.size w1 w2 := ((Below.refl _ _).alloc (Nat.le_refl _) _).trans (hb.mono (by simp))
          have hd0 := (hbw.cell (p := ⟨w.heap.size, 0, none⟩) hlt).trans hc0
          have hd1 := (hbw.cell (p := ⟨w.heap.size, 1, none⟩) hlt).trans hc1
          have hd2 := (hbw.cell (p := ⟨w.heap.size, 2, none⟩) hlt).trans hc2
          have hd3 := (hbw.cell (p := ⟨w.heap.size, 3, none⟩) hlt).trans hc3
          have hr0 := (hb.cell (p := ⟨w1.heap.size, 0, none⟩) (by simp)).trans (box2n (w := w1)).1
          have hr1 := (hb.cell (p := ⟨w1.heap.size, 1, none⟩) (by simp)).trans (box2n (w := w1)).2
          have HE2 := Lib.hid (HE1.out.below hb (Nat.le_refl _))
          have HK2 := Lib.hid (HKr.out.below hbw)
          have HR2 := Lib.hid (cell_below hbw HRr.out)
          have hlt2 : w.heap.size < w2.heap.size := by have := hbw.size; omega
          clear hb hbw hc0 hc1 hc2 hc3 HE1 HKr HRr
          obtain rfl := HN1.out
          go_wp2_with fail
          go_ret
          exact NamePost.intro HV.out.symm HB2.out
        · have HC : Hid (rightT deep (.node k (bl s) x ks) = (rightL k 0 (deep + 1) ks && (k != 7 || setOk ks))) := by
            show _ = _; rw [HF.out, hsy]
            have : (all || ks.length == l.length) = true := by
              cases all with
              | true => rfl
              | false => simp at hcount ⊢; omega
            simp [hd40, this]
          have hall : all = true ∨ (all = false ∧ n = l.length) := by cases all <;> simp at hcount ⊢; exact hcount
          clear hsy hcount hnk
          rcases hall with rfl | ⟨rfl, rfl⟩
          · go_enter Tryz.func37, Tryz.ntmps37
            go_wp2_with fail
            refine (p_rows k _).mono ?_
            rintro e w1 ⟨hb, hp⟩
            rw [HR.out] at hp
            simp only at hp
            obtain ⟨v, rfl, A1, n1, c1, rfl, hk1⟩ := hp
            have HB : Hid (Below w.heap.size w w1) := HB0.out.trans (hb.mono HB0.out.size)
            have HE1 := Lib.hid ((HE.out.below hb (Nat.le_refl _)).below ((Below.refl _ _).alloc (Nat.le_refl _) (.cells #[.slice A1 n1 c1, .bool true] 86)) (Nat.le_refl _))
            have hc0 := (hb.cell (p := ⟨w.heap.size, 0, none⟩) (by simp)).trans box4.1
            have hc1 := (hb.cell (p := ⟨w.heap.size, 1, none⟩) (by simp)).trans box4.2.1
            have hc2 := (hb.cell (p := ⟨w.heap.size, 2, none⟩) (by simp)).trans box4.2.2.1
            have hc3 := (hb.cell (p := ⟨w.heap.size, 3, none⟩) (by simp)).trans box4.2.2.2
            have hlt : w.heap.size < w1.heap.size := by have := hb.size; simp at this; omega
            have HN1 : Hid (n1 = l.length) := hk1.1
            have HKr := Lib.hid (HK.out.below hb)
            have HRr := Lib.hid (cell_below hb HRB.out)
            clear hb hk1
            go_wp2_with fail
            refine (p_says k s x A _ c _ HE1.out hs).mono ?_
            rintro e w2 ⟨rfl, hb⟩
            rw [HSY.out]
            have HB2 : Hid (Below w.heap.size w w2) := (HB.out.alloc HB.out.size _).trans (hb.mono (by simp; have := HB.out.size; omega))
            have hbw : Below w1.heap.size w1 w2 := ((Below.refl _ _).alloc (Nat.le_refl _) _).trans (hb.mono (by simp))
            have hd0 := (hbw.cell (p := ⟨w.heap.size, 0, none⟩) hlt).trans hc0
            have hd1 := (hbw.cell (p := ⟨w.heap.size, 1, none⟩) hlt).trans hc1
            have hd2 := (hbw.cell (p := ⟨w.heap.size, 2, none⟩) hlt).trans hc2
            have hd3 := (hbw.cell (p := ⟨w.heap.size, 3, none⟩) hlt).trans hc3
            have hr0 := (hb.cell (p := ⟨w1.heap.size, 0, none⟩) (by simp)).trans (box2n (w := w1)).1
            have hr1 := (hb.cell (p := ⟨w1.heap.size, 1, none⟩) (by simp)).trans (box2n (w := w1)).2
            have HE2 := Lib.hid (HE1.out.below hb (Nat.le_refl _))
            have HK2 := Lib.hid (HKr.out.below hbw)
            have HR2 := Lib.hid (cell_below hbw HRr.out)
            have hlt2 : w.heap.size < w2.heap.size := by have := hbw.size; omega
            clear hb hbw hc0 hc1 hc2 hc3 HE1 HKr HRr
            obtain rfl := HN1.out
            have hnn : n ≤ 9223372036854775807 := by have h1 := HK.out.2.1; have h2 := HK.out.2.2.1; unfold maxLen at h2; omega
            have HNK : Hid (n = ks.length) := HK.out.1
            go_wp2_with fail
            go_loopw [44] (fun i wr => ∃ j : Nat, j ≤ n ∧ i = .int .i64 j ∧ Hid (Below w2.heap.size w2 wr) ∧ Hid (EnvS wr) ∧ Hid (rightL k 0 (deep + 1) ks = rightL k j (deep + 1) (ks.drop j))) (fun i _ => n - (intOf i).toNat)
            case atStart => exact ⟨0, Nat.zero_le _, rfl, Below.refl _ _, HE2.out, rfl⟩
            case round =>
              obtain ⟨j, hj, rfl, HBr, HEr, HI⟩ := hrel
              have hbr := HBr.out
              have he0 := (hbr.cell (p := ⟨w.heap.size, 0, none⟩) hlt2).trans hd0
              have he3 := (hbr.cell (p := ⟨w.heap.size, 3, none⟩) hlt2).trans hd3
              have HKw := Lib.hid (HK2.out.below hbr)
              have HRw := Lib.hid (cell_below hbr HR2.out)
              have hltr : w.heap.size < wr.heap.size := by have := hbr.size; omega
              have HBw : Hid (Below w.heap.size w wr) := HB2.out.trans (hbr.mono HB2.out.size)
              have HSr : Hid (w2.heap.size ≤ wr.heap.size) := hbr.size
              clear hbr
              by_cases hlt : j < n
              · obtain ⟨b, o, t, rfl, ht, hat⟩ := HKw.out.get hlt
                obtain ⟨A', c', q0, q1, q2, q3, hnode⟩ := hat.cells
                have hqlt := cell_lt q0
                simp only at hqlt
                have HND := Lib.hid hnode
                have HSZT : Hid (t.sz ≤ m) := Nat.le_trans (sz_get ht) HSZ.out
                have HSHT : Hid (t.short 9223372036854775806) := shortL.get HSH.out ht
                have HST := Lib.hid (rightL_step HI.out ht)
                clear ht hat hnode
                cases hf : fitsB k t.kind j with
                | false =>
                  have HFF := Lib.hid hf
                  have HV : Hid (rightT deep (.node k (bl s) x ks) = false) := by show _ = _; rw [HC.out, HST.out, hf]; simp
                  clear hf
                  go_wp2_with fail
                  refine (p_fits k t.kind j _).mono ?_
                  rintro e w3 ⟨rfl, hb⟩
                  rw [HFF.out]
                  have HB3 : Hid (Below w.heap.size w w3) := (HBw.out.alloc HBw.out.size _).trans (hb.mono (by simp; omega))
                  clear hb
                  go_wp2_with fail
                  go_ret
                  exact NamePost.intro HV.out.symm HB3.out
                | true =>
                  have HFF := Lib.hid hf
                  have HST2 : Hid (rightL k 0 (deep + 1) ks = (rightT (deep + 1) t && rightL k (j + 1) (deep + 1) (ks.drop (j + 1)))) := by show _ = _; rw [HST.out, hf]; simp
                  clear hf
                  go_wp2_with fail
                  refine (p_fits k t.kind j _).mono ?_
                  rintro e w3 ⟨rfl, hb⟩
                  rw [HFF.out]
                  have hb3 : Below wr.heap.size wr w3 := ((Below.refl _ _).alloc (Nat.le_refl _) _).trans (hb.mono (by simp))
                  have HB3 := Lib.hid hb3
                  have s0 := (hb.cell (p := ⟨wr.heap.size, 0, none⟩) (by simp)).trans box4.1
                  have s1 := (hb.cell (p := ⟨wr.heap.size, 1, none⟩) (by simp)).trans box4.2.1
                  have s2 := (hb.cell (p := ⟨wr.heap.size, 2, none⟩) (by simp)).trans box4.2.2.1
                  have s3 := (hb.cell (p := ⟨wr.heap.size, 3, none⟩) (by simp)).trans box4.2.2.2
                  have srb := cell_below hb3 HRw.out
                  have HSRB := Lib.hid srb
                  have HND3 := Lib.hid (HND.out.below hb3)
                  have HE3 := Lib.hid (HEr.out.below hb3 (Nat.le_refl _))
                  have hcf := enter_right
                  clear hb hb3
                  go_wp2_with fail
                  refine (ih.out t t.kind (sb t.text) t.num A' t.kids.length c' (deep + 1) rb _ HSZT.out HND3.out HSHT.out (by omega) HE3.out HSRB.out).mono ?_
                  rintro e w4 ⟨rfl, hb4⟩
                  have HB4 : Hid (Below wr.heap.size wr w4) := HB3.out.trans (hb4.mono HB3.out.size)
                  have HE4 := Lib.hid (HE3.out.below hb4 (Nat.le_refl _))
                  clear hb4
                  cases hrt : rightT (deep + 1) t with
                  | false =>
                    have HV : Hid (rightT deep (.node k (bl s) x ks) = false) := by show _ = _; rw [HC.out, HST2.out, hrt]; simp
                    clear hrt
                    go_wp2_with fail
                    go_ret
                    exact NamePost.intro HV.out.symm (HBw.out.trans (HB4.out.mono HBw.out.size))
                  | true =>
                    have HST3 : Hid (rightL k 0 (deep + 1) ks = rightL k (j + 1) (deep + 1) (ks.drop (j + 1))) := by show _ = _; rw [HST2.out, hrt]; simp
                    clear hrt
                    go_wp2_with fail
                    go_roundw
                    case rel => exact ⟨j + 1, by omega, by go_num, HBr.out.trans (HB4.out.mono HSr.out), HE4.out, HST3.out⟩
                    case measure => simp [intOf]; omega
              · have HV : Hid (rightT deep (.node k (bl s) x ks) = (k != 7 || setOk ks)) := by
                  show _ = _; rw [HC.out, HI.out]
                  rw [List.drop_eq_nil_of_le (by have := HNK.out; omega)]
                  simp [rightL]
                have HRL : Hid (rightL k 0 (deep + 1) ks = true) := by
                  show _ = _; rw [HI.out, List.drop_eq_nil_of_le (by have := HNK.out; omega)]; simp [rightL]
                by_cases hk7 : k = 7
                · exfalso
                  have := HR.out
                  rw [hk7] at this
                  simp [rowsOf] at this
                · have e7 : ((k : Int) != 7) = true := by simp; omega
                  have HV2 : Hid (rightT deep (.node k (bl s) x ks) = true) := by show _ = _; rw [HV.out]; simp [hk7]
                  clear hk7
                  go_wp2_with fail
                  go_ret
                  exact NamePost.intro HV2.out.symm HBw.out
          · go_enter Tryz.func37, Tryz.ntmps37
            go_wp2_with fail
            refine (p_rows k _).mono ?_
            rintro e w1 ⟨hb, hp⟩
            rw [HR.out] at hp
            simp only at hp
            obtain ⟨v, rfl, A1, n1, c1, rfl, hk1⟩ := hp
            have HB : Hid (Below w.heap.size w w1) := HB0.out.trans (hb.mono HB0.out.size)
            have HE1 := Lib.hid ((HE.out.below hb (Nat.le_refl _)).below ((Below.refl _ _).alloc (Nat.le_refl _) (.cells #[.slice A1 n1 c1, .bool false] 86)) (Nat.le_refl _))
            have hc0 := (hb.cell (p := ⟨w.heap.size, 0, none⟩) (by simp)).trans box4.1
            have hc1 := (hb.cell (p := ⟨w.heap.size, 1, none⟩) (by simp)).trans box4.2.1
            have hc2 := (hb.cell (p := ⟨w.heap.size, 2, none⟩) (by simp)).trans box4.2.2.1
            have hc3 := (hb.cell (p := ⟨w.heap.size, 3, none⟩) (by simp)).trans box4.2.2.2
            have hlt : w.heap.size < w1.heap.size := by have := hb.size; simp at this; omega
            have HN1 : Hid (n1 = l.length) := hk1.1
            have HKr := Lib.hid (HK.out.below hb)
            have HRr := Lib.hid (cell_below hb HRB.out)
            clear hb hk1
            go_wp2_with fail
            refine (p_says k s x A _ c _ HE1.out hs).mono ?_
            rintro e w2 ⟨rfl, hb⟩
            rw [HSY.out]
            have HB2 : Hid (Below w.heap.size w w2) := (HB.out.alloc HB.out.size _).trans (hb.mono (by simp; have := HB.out.size; omega))
            have hbw : Below w1.heap.size w1 w2 := ((Below.refl _ _).alloc (Nat.le_refl _) _).trans (hb.mono (by simp))
            have hd0 := (hbw.cell (p := ⟨w.heap.size, 0, none⟩) hlt).trans hc0
            have hd1 := (hbw.cell (p := ⟨w.heap.size, 1, none⟩) hlt).trans hc1
            have hd2 := (hbw.cell (p := ⟨w.heap.size, 2, none⟩) hlt).trans hc2
            have hd3 := (hbw.cell (p := ⟨w.heap.size, 3, none⟩) hlt).trans hc3
            have hr0 := (hb.cell (p := ⟨w1.heap.size, 0, none⟩) (by simp)).trans (box2n (w := w1)).1
            have hr1 := (hb.cell (p := ⟨w1.heap.size, 1, none⟩) (by simp)).trans (box2n (w := w1)).2
            have HE2 := Lib.hid (HE1.out.below hb (Nat.le_refl _))
            have HK2 := Lib.hid (HKr.out.below hbw)
            have HR2 := Lib.hid (cell_below hbw HRr.out)
            have hlt2 : w.heap.size < w2.heap.size := by have := hbw.size; omega
            clear hb hbw hc0 hc1 hc2 hc3 HE1 HKr HRr
            obtain rfl := HN1.out
            have hnn : l.length ≤ 9223372036854775807 := by have h1 := HK.out.2.1; have h2 := HK.out.2.2.1; unfold maxLen at h2; omega
            have HNK : Hid (l.length = ks.length) := HK.out.1
            go_wp2_with fail
            go_loopw [44] (fun i wr => ∃ j : Nat, j ≤ l.length ∧ i = .int .i64 j ∧ Hid (Below w2.heap.size w2 wr) ∧ Hid (EnvS wr) ∧ Hid (rightL k 0 (deep + 1) ks = rightL k j (deep + 1) (ks.drop j))) (fun i _ => l.length - (intOf i).toNat)
            case atStart => exact ⟨0, Nat.zero_le _, rfl, Below.refl _ _, HE2.out, rfl⟩
            case round =>
              obtain ⟨j, hj, rfl, HBr, HEr, HI⟩ := hrel
              have hbr := HBr.out
              have he0 := (hbr.cell (p := ⟨w.heap.size, 0, none⟩) hlt2).trans hd0
              have he3 := (hbr.cell (p := ⟨w.heap.size, 3, none⟩) hlt2).trans hd3
              have HKw := Lib.hid (HK2.out.below hbr)
              have HRw := Lib.hid (cell_below hbr HR2.out)
              have hltr : w.heap.size < wr.heap.size := by have := hbr.size; omega
              have HBw : Hid (Below w.heap.size w wr) := HB2.out.trans (hbr.mono HB2.out.size)
              have HSr : Hid (w2.heap.size ≤ wr.heap.size) := hbr.size
              clear hbr
              by_cases hlt : j < l.length
              · obtain ⟨b, o, t, rfl, ht, hat⟩ := HKw.out.get hlt
                obtain ⟨A', c', q0, q1, q2, q3, hnode⟩ := hat.cells
                have hqlt := cell_lt q0
                simp only at hqlt
                have HND := Lib.hid hnode
                have HSZT : Hid (t.sz ≤ m) := Nat.le_trans (sz_get ht) HSZ.out
                have HSHT : Hid (t.short 9223372036854775806) := shortL.get HSH.out ht
                have HST := Lib.hid (rightL_step HI.out ht)
                clear ht hat hnode
                cases hf : fitsB k t.kind j with
                | false =>
                  have HFF := Lib.hid hf
                  have HV : Hid (rightT deep (.node k (bl s) x ks) = false) := by show _ = _; rw [HC.out, HST.out, hf]; simp
                  clear hf
                  go_wp2_with fail
                  refine (p_fits k t.kind j _).mono ?_
                  rintro e w3 ⟨rfl, hb⟩
                  rw [HFF.out]
                  have HB3 : Hid (Below w.heap.size w w3) := (HBw.out.alloc HBw.out.size _).trans (hb.mono (by simp; omega))
                  clear hb
                  go_wp2_with fail
                  go_ret
                  exact NamePost.intro HV.out.symm HB3.out
                | true =>
                  have HFF := Lib.hid hf
                  have HST2 : Hid (rightL k 0 (deep + 1) ks = (rightT (deep + 1) t && rightL k (j + 1) (deep + 1) (ks.drop (j + 1)))) := by show _ = _; rw [HST.out, hf]; simp
                  clear hf
                  go_wp2_with fail
                  refine (p_fits k t.kind j _).mono ?_
                  rintro e w3 ⟨rfl, hb⟩
                  rw [HFF.out]
                  have hb3 : Below wr.heap.size wr w3 := ((Below.refl _ _).alloc (Nat.le_refl _) _).trans (hb.mono (by simp))
                  have HB3 := Lib.hid hb3
                  have s0 := (hb.cell (p := ⟨wr.heap.size, 0, none⟩) (by simp)).trans box4.1
                  have s1 := (hb.cell (p := ⟨wr.heap.size, 1, none⟩) (by simp)).trans box4.2.1
                  have s2 := (hb.cell (p := ⟨wr.heap.size, 2, none⟩) (by simp)).trans box4.2.2.1
                  have s3 := (hb.cell (p := ⟨wr.heap.size, 3, none⟩) (by simp)).trans box4.2.2.2
                  have srb := cell_below hb3 HRw.out
                  have HSRB := Lib.hid srb
                  have HND3 := Lib.hid (HND.out.below hb3)
                  have HE3 := Lib.hid (HEr.out.below hb3 (Nat.le_refl _))
                  have hcf := enter_right
                  clear hb hb3
                  go_wp2_with fail
                  refine (ih.out t t.kind (sb t.text) t.num A' t.kids.length c' (deep + 1) rb _ HSZT.out HND3.out HSHT.out (by omega) HE3.out HSRB.out).mono ?_
                  rintro e w4 ⟨rfl, hb4⟩
                  have HB4 : Hid (Below wr.heap.size wr w4) := HB3.out.trans (hb4.mono HB3.out.size)
                  have HE4 := Lib.hid (HE3.out.below hb4 (Nat.le_refl _))
                  clear hb4
                  cases hrt : rightT (deep + 1) t with
                  | false =>
                    have HV : Hid (rightT deep (.node k (bl s) x ks) = false) := by show _ = _; rw [HC.out, HST2.out, hrt]; simp
                    clear hrt
                    go_wp2_with fail
                    go_ret
                    exact NamePost.intro HV.out.symm (HBw.out.trans (HB4.out.mono HBw.out.size))
                  | true =>
                    have HST3 : Hid (rightL k 0 (deep + 1) ks = rightL k (j + 1) (deep + 1) (ks.drop (j + 1))) := by show _ = _; rw [HST2.out, hrt]; simp
                    clear hrt
                    go_wp2_with fail
                    go_roundw
                    case rel => exact ⟨j + 1, by omega, by go_num, HBr.out.trans (HB4.out.mono HSr.out), HE4.out, HST3.out⟩
                    case measure => simp [intOf]; omega
              · have HV : Hid (rightT deep (.node k (bl s) x ks) = (k != 7 || setOk ks)) := by
                  show _ = _; rw [HC.out, HI.out]
                  rw [List.drop_eq_nil_of_le (by have := HNK.out; omega)]
                  simp [rightL]
                have HRL : Hid (rightL k 0 (deep + 1) ks = true) := by
                  show _ = _; rw [HI.out, List.drop_eq_nil_of_le (by have := HNK.out; omega)]; simp [rightL]
                by_cases hk7 : k = 7
                · subst hk7
                  have hlen : 0 < l.length := by have := HR.out; simp [rowsOf] at this; rw [← this]; simp
                  obtain ⟨t0, ts, rfl, hcase⟩ := right7 HRL.out (by have := HNK.out; omega)
                  obtain ⟨b, o, t, rfl, ht, hat⟩ := HKw.out.get (i := 0) hlen
                  simp at ht
                  subst ht
                  obtain ⟨A', c', q0, q1, q2, q3, ks0, hnode, _, _, _, hk0⟩ := hat.cells
                  have hkk : t0.kids = ks0 := by rw [hnode]; rfl
                  simp only [Nat.zero_mul, Nat.add_zero] at q0 q3
                  rcases hcase with ⟨hk22, hso⟩ | ⟨hk26, u, us, hku, hso⟩
                  · have HV2 : Hid (rightT deep (.node 7 (bl s) x (t0 :: ts)) = true) := by show _ = _; rw [HV.out, hso]; rfl
                    rw [hk22] at q0
                    clear hat hnode hk0 hso q1 q2 q3 hkk hk22
                    go_wp2_with fail
                    go_ret
                    exact NamePost.intro HV2.out.symm HBw.out
                  · have HV2 : Hid (rightT deep (.node 7 (bl s) x (t0 :: ts)) = (u.kind == 22)) := by show _ = _; rw [HV.out, hso]; rfl
                    rw [hk26] at q0
                    obtain ⟨b2, o2, u', rfl, hu', hat2⟩ := hk0.get (i := 0) (by rw [hku]; simp)
                    rw [← hkk, hku] at hu'
                    simp at hu'
                    subst hu'
                    obtain ⟨A2, c2, p0, _⟩ := hat2.cells
                    simp only [Nat.zero_mul, Nat.add_zero] at p0
                    have hlk : (t0.kids.length : Int) = us.length + 1 := by rw [hku]; simp
                    rw [hku] at q3
                    clear hat hat2 hnode hk0 hso q1 q2 hkk hk26
                    go_wp2_with fail
                    go_ret
                    refine NamePost.intro ?_ HBw.out
                    rw [HV2.out, Bool.eq_iff_iff]
                    simp
                    omega
                · have e7 : ((k : Int) != 7) = true := by simp; omega
                  have HV2 : Hid (rightT deep (.node k (bl s) x ks) = true) := by show _ = _; rw [HV.out]; simp [hk7]
                  clear hk7
                  go_wp2_with fail
                  go_ret
                  exact NamePost.intro HV2.out.symm HBw.out

theorem right_all : ∀ m, RightC m
  | 0 => by
    intro t k s x A n c deep rb w hsz
    obtain ⟨k0, s0, x0, ks0⟩ := t
    simp [Tree.sz] at hsz
  | m + 1 => right_step m (Lib.hid (right_all m))

set_option maxHeartbeats 400000 in
theorem p_right (t : Tree) (k : Nat) (s : ByteArray) (x : Int) (A : Option Addr) (n c : Nat) (w : World) (hN : NodeIs w t k s x A n c) (hsh : t.short 9223372036854775806) (hE : EnvS w) :
    Calls Tryz.prog 21 #[.agg #[.int .u8 k, .string s, .int .i64 x, .slice A n c]] w (NamePost (treeRight t) w) := by
  have HN := Lib.hid hN
  have HE := Lib.hid hE
  have HSH := Lib.hid hsh
  have hmf := run_makeFunc
  have hcf := enter_right
  clear hN hE hsh
  go_enter Tryz.func21, Tryz.ntmps21
  go_wp2_with fail
  have hb0 : Below w.heap.size w ((w.alloc (.cells #[.int .u8 k, .string s, .int .i64 x, .slice A n c] 25)).alloc (.cells #[.func (.func 37) #[] #[.pointer (some ⟨w.heap.size + 1, 0, none⟩)]] 83)) := ((Below.refl _ _).alloc (Nat.le_refl _) _).alloc (by simp) _
  refine (right_all t.sz t k s x A n c 1 (w.heap.size + 1) _ (Nat.le_refl _) (HN.out.below hb0) HSH.out (by omega) (HE.out.below hb0 (Nat.le_refl _)) (by go_simp)).mono ?_
  rintro e w1 ⟨rfl, hb⟩
  have HB : Hid (Below w.heap.size w w1) := hb0.trans (hb.mono hb0.size)
  clear hb hb0
  go_wp2_with fail
  go_ret
  exact NamePost.intro rfl HB.out
end Go.Proofs.YtjdofndkdkeapaaGreatDoor
