/- The walk over the program's Tokens. -/
import Derived.Test.YtjdofndkdkeapaaGreatDoorLexProg6
import Derived.Deep.LoopGhost
namespace Go.Proofs.YtjdofndkdkeapaaGreatDoor.Lx
open Go.RowKit

theorem below_draws' (B : Nat) (w : World) (n : Nat) : Below B w (w.drewN n) := ⟨rfl, rfl, rfl, Nat.le_refl _, fun _ _ => rfl⟩
theorem Lx.move {w : World} {b : Nat} {s : ByteArray} {k k' : Nat} {v : Value} (h : Lx w b s k v) : Lx (w.setCell ⟨b, 1, none⟩ (.int .i64 k')) b s k' v := by
  unfold Lx at h ⊢
  simp [World.setCell, Array.getElem?_modify, h]
theorem LxS.move {B : Nat} {w : World} {b : Nat} {s : ByteArray} {k k' : Nat} {ts : List Tok} {v : Value} (h : LxS B w b s k ts v) (d : Nat) : LxS B ((w.setCell ⟨b, 1, none⟩ (.int .i64 k')).drewN d) b s k' ts v :=
  ⟨h.lx.move.drewN d, own_set h.own h.ne _, h.base⟩
theorem ProgInv.start (s : ByteArray) (w : World) : ProgInv s w ((laidF w).alloc (.cells #[.string s, .int .i64 0, .slice none 0 0] 60)) 0 [] (.slice none 0 0) := by
  refine ⟨Nat.zero_le _, by rw [LexRes.push_nil]; rfl, ⟨?_, World.ownsRow_nil _ _ _ _, Nat.le_refl _⟩, Nat.le_refl _, (Below.refl _ _).alloc (by simp [laidF]) _⟩
  have := heap_alloc_new (laidF w) (.cells #[.string s, .int .i64 0, .slice none 0 0] 60)
  simpa [laidF, Lx] using this
theorem ProgInv.pass {s : ByteArray} {w wr : World} {k : Nat} {ts : List Tok} {v : Value} (h : ProgInv s w wr k ts v) (hk : k < s.size) (hp : 0 < passN ((bl s).drop k)) (d : Nat) :
    ProgInv s w ((wr.setCell ⟨w.heap.size + 1, 1, none⟩ (.int .i64 (k + passN ((bl s).drop k) : Nat))).drewN d) (k + passN ((bl s).drop k)) ts v :=
  ⟨passN_le s k (by omega), by rw [← pass_run s k hk hp]; exact h.run, h.st.move d, by have := h.few; omega,
   (h.below.setCell (p := ⟨w.heap.size + 1, 1, none⟩) (Nat.le_refl _) _).trans (below_draws' _ _ _)⟩
theorem ProgInv.stay {s : ByteArray} {w wr : World} {k : Nat} {ts : List Tok} {v : Value} (h : ProgInv s w wr k ts v) (d : Nat) : ProgInv s w ((wr.setCell ⟨w.heap.size + 1, 1, none⟩ (.int .i64 k)).drewN d) k ts v :=
  ⟨h.le, h.run, h.st.move d, h.few, (h.below.setCell (p := ⟨w.heap.size + 1, 1, none⟩) (Nat.le_refl _) _).trans (below_draws' _ _ _)⟩
theorem ProgInv.step {s : ByteArray} {w wr w2 : World} {k : Nat} {ts : List Tok} {v v' : Value} {kd : Nat} {t : Bytes} (h : ProgInv s w wr k ts v) (hk : k < s.size) (hp : ¬ 0 < passN ((bl s).drop k)) (ho : tryOut ((bl s).drop k) = .inl (kd, t))
    (hst : LxS (w.heap.size + 1) w2 (w.heap.size + 1) s (k + t.length) (ts ++ [⟨kd, t, k⟩]) v') (hb : Below (w.heap.size + 1) wr w2) : ProgInv s w w2 (k + t.length) (ts ++ [⟨kd, t, k⟩]) v' := by
  obtain ⟨h1, h2⟩ := tryOut_len ho h.le
  refine ⟨h2, ?_, hst, by have := h.few; simp; omega, h.below.trans hb⟩
  have := try_run hk hp
  rw [ho] at this
  rw [h.run, this, LexRes.push_push]

set_option maxHeartbeats 1000000 in
set_option maxRecDepth 20000 in
theorem p_tokens (s : ByteArray) (w : World) (hE : Env w) (hs : s.size ≤ 1073741824) :
    Calls Tryz.prog 7 #[.string s] w (LexPost w (lexOf (bl s))) := by
  have HE := Lib.hid hE
  clear hE
  go_enter Tryz.func7, Tryz.ntmps7
  go_wp2
  go_loopg [5] s.size (fun g _ wr => ∃ k ts v, s.size - k = g ∧ Hid (ProgInv s w wr k ts v))
  case atStart => exact ⟨0, [], _, rfl, ProgInv.start s w⟩
  case round =>
    obtain ⟨k, ts, v, rfl, HI⟩ := hrel
    have hk := HI.out.le
    have hfew := HI.out.few
    have hbx := HI.out.st.lx.box
    have hx1 := hbx.c1
    clear hbx
    have HEr : Hid (Env wr) := HE.out.below ((laidF_below w).trans (HI.out.below.mono (by omega))) (Nat.le_refl _)
    by_cases hlt : k < s.size
    · by_cases hp : 0 < passN ((bl s).drop k)
      · have HP := Lib.hid hp
        have hpd : Hid (decide (0 < passN ((bl s).drop k)) = true) := by show _ = _; simp [hp]
        clear hp
        go_wp2_with fail
        refine (p_pass s _ k v _ HI.out.st.lx hk hs).mono ?_
        rintro e w1 ⟨rfl, d, rfl⟩
        rw [hpd.out]
        go_wp2
        go_roundg (s.size - (k + passN ((bl s).drop k)))
        case measure => have := HP.out; have := passN_le s k hk; omega
        case rel => exact ⟨_, ts, v, rfl, HI.out.pass hlt HP.out d⟩
      · have HP := Lib.hid hp
        have hpd : Hid (decide (0 < passN ((bl s).drop k)) = false) := by show _ = _; simp [hp]
        have hp0 : Hid (passN ((bl s).drop k) = 0) := by show _ = _; omega
        clear hp
        go_wp2_with fail
        refine (p_pass s _ k v _ HI.out.st.lx hk hs).mono ?_
        rintro e w1 ⟨rfl, d, rfl⟩
        rw [hpd.out, hp0.out, Nat.add_zero]
        have HI2 := Lib.hid (HI.out.stay d)
        generalize hw2 : (wr.setCell ⟨w.heap.size + 1, 1, none⟩ (.int .i64 k)).drewN d = w2 at HI2
        clear hw2
        go_wp2_with fail
        have HA : Hid (Below w2.heap.size w2 (w2.alloc (.cells #[.func (.func 18) #[.pointer (some ⟨w.heap.size + 1, 0, none⟩)] #[], .func (.func 19) #[.pointer (some ⟨w.heap.size + 1, 0, none⟩)] #[]] 62))) := (Below.refl _ _).alloc (Nat.le_refl _) _
        have HEw : Hid (Env w2) := HE.out.below ((laidF_below w).trans (HI2.out.below.mono (by omega))) (Nat.le_refl _)
        have HC := p_try (w.heap.size + 1) s (w.heap.size + 1) k w2.heap.size ts v _ (HI2.out.st.below HA.out) (HEw.out.below HA.out (Nat.le_refl _)) hk hs (by omega) (by simp) (by simp)
        have HSZ : Hid (w.heap.size + 1 ≤ w2.heap.size) := by show _ ≤ _; have := HI2.out.below.size; simpa [laidF] using this
        cases ho : tryOut ((bl s).drop k) with
        | inl p =>
          obtain ⟨kd, t⟩ := p
          rw [ho] at HC
          have HO := Lib.hid ho
          have HC2 := Lib.hid HC
          clear ho HC
          refine HC2.out.mono ?_
          rintro e w3 ⟨rfl, v', h3, h4⟩
          have HI3 := Lib.hid (HI2.out.step hlt HP.out HO.out h3 ((HA.out.mono HSZ.out).trans h4))
          have hl1 := (tryOut_len HO.out hk).1
          have hl2 := (tryOut_len HO.out hk).2
          clear h3 h4
          go_wp2
          go_roundg (s.size - (k + t.length))
          case measure => omega
          case rel => exact ⟨_, _, v', rfl, HI3⟩
        | inr er =>
          rw [ho] at HC
          have HL : Hid (lexAt k ((bl s).drop k) = .error (er, k)) := by have := try_run hlt HP.out; rw [ho] at this; exact this
          have her : er = 100 ∨ er = 101 := by
            unfold tryOut at ho
            split at ho
            · split at ho
              · cases ho
              · injection ho with ho; exact .inl ho.symm
            · split at ho
              · cases ho
              · injection ho with ho; exact .inr ho.symm
          have HC2 := Lib.hid HC
          clear ho HC
          refine HC2.out.mono ?_
          rintro e w3 ⟨rfl, v', h3, h4⟩
          have hb3 := HI2.out.below.trans ((HA.out.mono HSZ.out).trans h4)
          have HB3 := Lib.hid hb3
          have hbx := h3.lx.box
          have hy1 := hbx.c1
          have hfl := faultIn hb3
          have hc0 := hfl.c0; have hc1 := hfl.c1; have hf0 := hfl.f0; have hf1 := hfl.f1
          have hee : ((er : Int) != 0) = true := by rcases her with rfl | rfl <;> rfl
          clear hbx hfl h3 h4 hb3 hx1
          go_wp2
          go_region_held3 (fun w' => w'.cell? ⟨w.heap.size + 1, 1, none⟩ = some (.int .i64 k)) (go_keep) (fail)
          go_wp2
          refine bodyPost_ret (v := .tuple #[.slice none 0 0, .agg #[.int .i64 er, .int .i64 k]]) (by simp [results, Tryz.results7, go_sem, hc0, hc1]) rfl ?_
          exact ⟨(below_fault ((laidF_below w).trans (HB3.out.mono (by omega))) _ _).drew, by rw [HI2.out.run, HL.out]; rfl⟩
    · obtain rfl : k = s.size := by omega
      go_wp2_with fail
      refine (p_put (w.heap.size + 1) s (sb []) _ s.size 5 ts v _ HI.out.st (by omega) (by decide) (by omega)).mono ?_
      rintro e w3 ⟨rfl, v', h3, h4⟩
      have hb3 := HI.out.below.trans h4
      have HB3 := Lib.hid hb3
      have HST := Lib.hid h3
      have hbx := h3.lx.box
      have hy1 := hbx.c1
      have hy2 := hbx.c2
      have hfl := faultIn hb3
      have hc0 := hfl.c0; have hc1 := hfl.c1; have hf0 := hfl.f0; have hf1 := hfl.f1
      clear hbx hfl h3 h4 hb3 hx1
      go_wp2
      refine bodyPost_ret (v := .tuple #[v', .agg #[.int .i64 0, .int .i64 0]]) (by simp [results, Tryz.results7, go_sem, hc0, hc1]) rfl ?_
      refine ⟨below_fault ((laidF_below w).trans (HB3.out.mono (by omega))) _ _, ?_⟩
      have e : (bl s).drop s.size = [] := List.drop_eq_nil_of_le (by rw [bl_len]; exact Nat.le_refl _)
      rw [HI.out.run, e, lexAt_nil]
      refine ⟨v', rfl, ?_⟩
      have hown := HST.out.own
      refine own_mono (own_set (own_set hown ?_ _) ?_ _) (by omega)
      · intro e; have := (hown.lt _ e).1; simp at this; omega
      · intro e; have := (hown.lt _ e).1; simp at this; omega
end Go.Proofs.YtjdofndkdkeapaaGreatDoor.Lx
