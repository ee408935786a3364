/- The walk over the reference's Tokens (chapter 5): just what the plain lexer says. -/
import Derived.Test.YtnchfjhnacidlaaDoorLexRef2
import Derived.Test.YtnchfjhnacidlaaDoorMem
import Derived.Deep.AppendLies
import Derived.Deep.RegionHeld3
import Derived.Deep.DeepMust
import Derived.Deep.DeepCutAuto
import Derived.Deep.CutBlock
import Derived.Deep.LoopGhost
namespace Go.Proofs.YtnchfjhnacidlaaDoor
open Go.RowKit

def LexPost (w : World) (r : LexRes) (e : Ending) (w' : World) : Prop :=
  Below w.heap.size w w' ∧ match r with
    | .ok ts => ∃ v, e = .returned (.tuple #[v, .agg #[.int .i64 0, .int .i64 0]]) ∧ w'.ownsRow w.heap.size 38 3 v ts.length (tokCells ts)
    | .error (er, p) => e = .returned (.tuple #[.slice none 0 0, .agg #[.int .i64 er, .int .i64 p]])

/-- The world in which the fault's block has been laid. -/
abbrev laidF (w : World) : World := w.alloc (.cells #[.int .i64 0, .int .i64 0] 26)
structure RefInv (s : ByteArray) (w wr : World) (k : Nat) (ts : List Tok) (v : Value) : Prop where
  le : k ≤ s.size
  run : lexOf (bl s) = LexRes.push ts (lexAt k ((bl s).drop k))
  own : wr.ownsRow (w.heap.size + 1) 38 3 v ts.length (tokCells ts)
  few : ts.length ≤ k
  below : Below (w.heap.size + 1) (laidF w) wr

theorem Tryd.infoTok : (Tryd.prog.info? 38).map (fun i => (i.zero, i.size, i.bytes)) = some (some (.agg #[.int .u8 0, .string ByteArray.empty, .int .i64 0]), 3, 32) := by kernel_rfl

theorem RefInv.start (s : ByteArray) (w : World) : RefInv s w (laidF w) 0 [] (.slice none 0 0) :=
  ⟨Nat.zero_le _, by rw [LexRes.push_nil]; rfl, World.ownsRow_nil _ _ _ _, Nat.le_refl _, Below.refl _ _⟩

theorem RefInv.skip {s : ByteArray} {w wr wr' : World} {k m : Nat} {ts : List Tok} {v : Value} (h : RefInv s w wr k ts v) (hm : k ≤ m) (hs : m ≤ s.size)
    (hl : lexAt k ((bl s).drop k) = lexAt m ((bl s).drop m)) (ho : wr'.ownsRow (w.heap.size + 1) 38 3 v ts.length (tokCells ts)) (hb : Below (w.heap.size + 1) (laidF w) wr') : RefInv s w wr' m ts v :=
  ⟨hs, by rw [← hl]; exact h.run, ho, Nat.le_trans h.few hm, hb⟩

theorem tokV_one (t : Tok) : ∀ u ∈ tokV t, u.oneCell' = true := by
  intro u hu
  simp [tokV] at hu
  rcases hu with rfl | rfl | rfl <;> rfl

/-- append(out, t): the row has one token more. -/
theorem wp_tok_append {ops : Array Oper} {rest : List Oper} {o : Oper} {a : Act} {Q : Exit → Act → World → Prop} (w : World) (hgd : o.guard = none) (s x : Operand)
    (ho : o.op = .call { callee := .builtin .append, args := #[s, x], argTypes := #[23, 23] })
    (base : Nat) (v : Value) (ts : List Tok) (hs : a.eval s = v) (hown : w.ownsRow base 38 3 v ts.length (tokCells ts))
    (Bk c : Nat) (t : Tok) (hx : a.eval x = .slice (some ⟨Bk, 0, none⟩) 1 c) (hblk : w.heap[Bk]? = some (.cells (tokV t).toArray 38 (0, 0)))
    (hfew : ts.length ≤ 2147483648) (hbase : base ≤ w.heap.size)
    (h : ∀ v' w', w'.ownsRow base 38 3 v' (ts ++ [t]).length (tokCells (ts ++ [t])) → w.grownBy w' v.ownBlock → wpList Tryd.prog ops Q rest (a.put o.dst v') w') : wpList Tryd.prog ops Q (o :: rest) a w := by
  obtain ⟨i0, hi, hz0, hz1, hz2⟩ := info_parts Tryd.infoTok
  refine wpList_append_lies w hgd s x _ ho base 38 i0 _ 3 32 Tryd.underlying23 hi hz0 hz1 hz2 rfl (by omega) v ts.length (tokCells ts) hs hown ⟨Bk, 0, none⟩ 1 c (tokV t) hx rfl
    (fun j u hu => World.news_of_block hblk j u (by simpa using hu)) (tokV_one t) (by omega) (by unfold maxLen; omega) (by omega) hbase _ rfl ?_
  intro g cap w' hown' hgr hat hlt
  refine h _ w' ?_ hgr
  rw [tokCells_snoc, List.length_append]
  exact hown'

/-- The fault's own block, in every later world. -/
structure FaultIn (F : Nat) (w' : World) : Prop where
  c0 : w'.cell? ⟨F, 0, none⟩ = some (.int .i64 0)
  c1 : w'.cell? ⟨F, 1, none⟩ = some (.int .i64 0)
  f0 : w'.frozen? ⟨F, 0, none⟩ = false
  f1 : w'.frozen? ⟨F, 1, none⟩ = false
theorem faultIn {w w' : World} (hb : Below (w.heap.size + 1) (laidF w) w') : FaultIn w.heap.size w' := by
  refine ⟨?_, ?_, ?_, ?_⟩
  · rw [hb.cell (p := ⟨w.heap.size, 0, none⟩) (by simp)]; simp
  · rw [hb.cell (p := ⟨w.heap.size, 1, none⟩) (by simp)]; simp
  · rw [hb.frozen (p := ⟨w.heap.size, 0, none⟩) (by simp)]; simp
  · rw [hb.frozen (p := ⟨w.heap.size, 1, none⟩) (by simp)]; simp

theorem comment_far {s : ByteArray} {k m : Nat} (hk : k < s.size) (hkm : k ≤ m) (hm : m ≤ s.size) (hc : (bl ⟨#[47, 47]⟩).isPrefixOf ((bl s).drop k) = true) (he : ∀ h : m < s.size, s[m].toNat = 10) : k < m := by
  rcases Nat.lt_or_ge k m with h | h
  · exact h
  · obtain rfl : k = m := by omega
    have h1 := he hk
    rw [drop_cons s k hk] at hc
    have h2 : (47 : UInt8) = s[k] := by
      have : ([47, 47] : Bytes).isPrefixOf (s[k] :: (bl s).drop (k + 1)) = true := hc
      simp [List.isPrefixOf] at this
      exact this.1
    rw [← h2] at h1
    exact absurd h1 (by decide)
theorem laidF_below (w : World) : Below w.heap.size w (laidF w) := (Below.refl _ _).alloc (Nat.le_refl _) _
theorem RefInv.old {s : ByteArray} {w wr : World} {k : Nat} {ts : List Tok} {v : Value} (h : RefInv s w wr k ts v) : Below w.heap.size w wr :=
  (laidF_below w).trans (h.below.mono (by omega))
theorem RefInv.room {s : ByteArray} {w wr : World} {k : Nat} {ts : List Tok} {v : Value} (h : RefInv s w wr k ts v) : w.heap.size + 1 ≤ wr.heap.size := by
  have := h.below.size
  simpa [laidF] using this
/-- Behind an append. -/
theorem RefInv.next {s : ByteArray} {w wr w1 w2 : World} {k m : Nat} {ts : List Tok} {v v' : Value} {t : Tok} (h : RefInv s w wr k ts v) (hb : Below wr.heap.size wr w1) (hg : w1.grownBy w2 v.ownBlock)
    (ho : w2.ownsRow (w.heap.size + 1) 38 3 v' (ts ++ [t]).length (tokCells (ts ++ [t]))) (hl : lexAt k ((bl s).drop k) = LexRes.push [t] (lexAt m ((bl s).drop m))) (hkm : k < m) (hm : m ≤ s.size) : RefInv s w w2 m (ts ++ [t]) v' := by
  have hr := h.room
  have h1 := own_below h.own hb (Nat.le_refl _)
  have h2 := below_grown h1 hg (Nat.le_refl _) (Nat.le_trans hr hb.size)
  refine ⟨hm, ?_, ho, ?_, (h.below.trans (hb.mono hr)).trans h2⟩
  · rw [h.run, hl, LexRes.push_push]
  · have := h.few; simp; omega
theorem RefInv.faultIn {s : ByteArray} {w wr w1 : World} {k : Nat} {ts : List Tok} {v : Value} (h : RefInv s w wr k ts v) (hb : Below wr.heap.size wr w1) : FaultIn w.heap.size w1 :=
  Go.Proofs.YtnchfjhnacidlaaDoor.faultIn (h.below.trans (hb.mono h.room))
theorem RefInv.fault2 {s : ByteArray} {w wr w1 w2 : World} {k : Nat} {ts : List Tok} {v : Value} (h : RefInv s w wr k ts v) (hb : Below wr.heap.size wr w1) (hg : w1.grownBy w2 v.ownBlock) : FaultIn w.heap.size w2 :=
  Go.Proofs.YtnchfjhnacidlaaDoor.faultIn ((h.below.trans (hb.mono h.room)).trans (below_grown (own_below h.own hb (Nat.le_refl _)) hg (Nat.le_refl _) (Nat.le_trans h.room hb.size)))
theorem below_fault {w w2 : World} (h : Below w.heap.size w w2) (x0 x1 : Value) : Below w.heap.size w ((w2.setCell ⟨w.heap.size, 0, none⟩ x0).setCell ⟨w.heap.size, 1, none⟩ x1) :=
  (h.setCell (p := ⟨w.heap.size, 0, none⟩) (Nat.le_refl _) _).setCell (p := ⟨w.heap.size, 1, none⟩) (Nat.le_refl _) _
theorem LexPost.done {s : ByteArray} {w wr w1 w2 : World} {ts : List Tok} {v v' : Value} (h : RefInv s w wr s.size ts v)
    (hown : w2.ownsRow (w.heap.size + 1) 38 3 v' (ts ++ [(⟨5, [], s.size⟩ : Tok)]).length (tokCells (ts ++ [⟨5, [], s.size⟩]))) (hb : Below wr.heap.size wr w1) (hgr : w1.grownBy w2 v.ownBlock) (x0 x1 : Value) :
    LexPost w (lexOf (bl s)) (.returned (.tuple #[v', .agg #[.int .i64 0, .int .i64 0]])) ((w2.setCell ⟨w.heap.size, 0, none⟩ x0).setCell ⟨w.heap.size, 1, none⟩ x1) := by
  have h2 := below_grown (own_below h.own hb (Nat.le_refl _)) hgr (B := w.heap.size) (by omega) (Nat.le_trans (by have := h.room; omega) hb.size)
  have hbw : Below w.heap.size w w2 := (h.old.trans (hb.mono (by have := h.room; omega))).trans h2
  refine ⟨below_fault hbw _ _, ?_⟩
  have e : (bl s).drop s.size = [] := List.drop_eq_nil_of_le (by rw [bl_len]; exact Nat.le_refl _)
  rw [h.run, e, lexAt_nil]
  refine ⟨v', rfl, ?_⟩
  refine own_mono (own_set (own_set hown ?_ _) ?_ _) (by omega)
  · intro e; have := (hown.lt _ e).1; simp at this; omega
  · intro e; have := (hown.lt _ e).1; simp at this; omega
theorem LexPost.bad {s : ByteArray} {w wr w1 : World} {k er : Nat} {ts : List Tok} {v : Value} (h : RefInv s w wr k ts v) (hb : Below wr.heap.size wr w1) (hl : lexAt k ((bl s).drop k) = .error (er, k)) (x0 x1 : Value) :
    LexPost w (lexOf (bl s)) (.returned (.tuple #[.slice none 0 0, .agg #[.int .i64 er, .int .i64 k]])) ((w1.setCell ⟨w.heap.size, 0, none⟩ x0).setCell ⟨w.heap.size, 1, none⟩ x1) := by
  have hbw : Below w.heap.size w w1 := h.old.trans (hb.mono (by have := h.room; omega))
  refine ⟨below_fault hbw _ _, ?_⟩
  rw [h.run, hl]
  rfl

/-- The signs' loop: what is known at its head. -/
structure SignInv (s : ByteArray) (wr wx : World) (k : Nat) (A : Option Addr) (j kd : Nat) (tx : Bytes) : Prop where
  below : Below wr.heap.size wr wx
  row : StrRow wx A 23 signsL
  box : wx.heap[wr.heap.size]? = some (.cells #[.int .u8 kd, .string (sb tx), .int .i64 k] 38 (0, 0))
  far : ∀ ad, A = some ad → ad.block ≠ wr.heap.size
theorem SignInv.size {s : ByteArray} {wr wx : World} {k : Nat} {A : Option Addr} {j kd : Nat} {tx : Bytes} (h : SignInv s wr wx k A j kd tx) : wr.heap.size + 1 ≤ wx.heap.size := by
  have := h.box
  rcases Nat.lt_or_ge wr.heap.size wx.heap.size with h | h
  · exact h
  · rw [Array.getElem?_eq_none h] at this; cases this
theorem SignInv.move {s : ByteArray} {wr wx : World} {k : Nat} {A : Option Addr} {j kd j' : Nat} {tx : Bytes} (h : SignInv s wr wx k A j kd tx) : SignInv s wr wx k A j' kd tx := ⟨h.below, h.row, h.box, h.far⟩
theorem SignInv.found {s : ByteArray} {wr wx : World} {k : Nat} {A : Option Addr} {j : Nat} {tx u : Bytes} (h : SignInv s wr wx k A j 0 tx) :
    SignInv s wr ((wx.setCell ⟨wr.heap.size, 1, none⟩ (.string (sb u))).setCell ⟨wr.heap.size, 0, none⟩ (.int .u8 4)) k A (j + 1) 4 u := by
  refine ⟨(h.below.setCell (p := ⟨wr.heap.size, 1, none⟩) (Nat.le_refl _) _).setCell (p := ⟨wr.heap.size, 0, none⟩) (Nat.le_refl _) _, ?_, ?_, h.far⟩
  · exact (h.row.set_ (fun ad e => h.far ad e) _).set_ (fun ad e => h.far ad e) _
  · simp [World.setCell, Array.getElem?_modify, h.box]

set_option maxHeartbeats 1000000 in
set_option maxRecDepth 100000 in
theorem r_tokens (s : ByteArray) (w : World) (hs : s.size ≤ 1073741824) :
    Calls Tryd.prog 10 #[.string s] w (LexPost w (lexOf (bl s))) := by
  go_enter Tryd.func10, Tryd.ntmps10
  go_wp2
  go_loopw [4, 5] (fun v i wr => ∃ k ts, i = .int .i64 (k : Nat) ∧ Hid (RefInv s w wr k ts v)) (fun _ i _ => s.size - (intOf i).toNat)
  case atStart => exact ⟨0, [], rfl, RefInv.start _ _⟩
  case round =>
    obtain ⟨k, ts, rfl, HI⟩ := hrel
    have hk := HI.out.le
    by_cases hlt : k < s.size
    · cases hb : blankB s[k] with
      | true =>
        have HB := Lib.hid hb
        have HL := Lib.hid (head_blank hlt hb k)
        clear hb
        go_wp2_with (go_at_call 22; refine (r_blank _ _).mono ?_; rintro e w' ⟨rfl, rfl⟩; rw [HB.out])
        go_roundw
        case rel => exact ⟨k + 1, ts, by go_num, HI.out.skip (by omega) (by omega) HL.out HI.out.own HI.out.below⟩
        case measure => simp [intOf]; omega
      | false =>
        have HB := Lib.hid hb
        cases hc : (bl ⟨#[47, 47]⟩).isPrefixOf ((bl s).drop k) with
        | true =>
          have HC := Lib.hid hc
          clear hb hc
          go_wp2_with (first | (go_at_call 22; refine (r_blank _ _).mono ?_; rintro e w' ⟨rfl, rfl⟩; rw [HB.out]) | (go_at_call 23; refine (r_begins _ _ _ _ (by omega) (by omega) (by decide)).mono ?_; rintro e w' ⟨rfl, rfl⟩; rw [HC.out]))
          go_loop [5] (fun i => ∃ m : Nat, k ≤ m ∧ m ≤ s.size ∧ i = .int .i64 m ∧ Hid (Scan (fun c => c.toNat != 10) s k m)) (fun i => s.size - (intOf i).toNat)
          case atStart => exact ⟨k, Nat.le_refl _, hk, rfl, Scan.start hk⟩
          case round =>
            obtain ⟨m, hkm, hm, rfl, HS⟩ := hrel
            by_cases hml : m < s.size
            · by_cases hn : s[m].toNat = 10
              · have HE : Hid (lexAt k ((bl s).drop k) = lexAt m ((bl s).drop m)) := by
                  have := head_comment hlt HC.out HS.out (fun _ => by simp [hn]) k
                  rw [show k + (m - k) = m from by omega] at this
                  exact this
                have hn1 : ((s[m].toNat : Int) != 10) = false := by simp [hn]
                have hkm' := comment_far hlt hkm hm HC.out (fun _ => hn)
                clear hn
                go_wp2
                go_roundw
                case rel => exact ⟨m, ts, rfl, HI.out.skip (by omega) (by omega) HE.out HI.out.own HI.out.below⟩
                case measure => simp [intOf]; omega
              · have HN := Lib.hid (HS.out.step hml (by simp [hn]))
                have hn1 : ((s[m].toNat : Int) != 10) = true := by simp; omega
                clear hn
                go_wp2
                go_round
                case rel => exact ⟨m + 1, by omega, by omega, by go_num, HN⟩
                case measure => simp [intOf]; omega
            · have HE : Hid (lexAt k ((bl s).drop k) = lexAt m ((bl s).drop m)) := by
                have := head_comment hlt HC.out HS.out (fun h => absurd h hml) k
                rw [show k + (m - k) = m from by omega] at this
                exact this
              have hkm' := comment_far hlt hkm hm HC.out (fun h => absurd h hml)
              go_wp2
              go_roundw
              case rel => exact ⟨m, ts, rfl, HI.out.skip (by omega) (by omega) HE.out HI.out.own HI.out.below⟩
              case measure => simp [intOf]; omega
        | false =>
          have HC := Lib.hid hc
          clear hb hc
          go_upto_block 4 with (first | (go_at_call 22; refine (r_blank _ _).mono ?_; rintro e w' ⟨rfl, rfl⟩; rw [HB.out]) | (go_at_call 23; refine (r_begins _ _ _ _ (by omega) (by omega) (by decide)).mono ?_; rintro e w' ⟨rfl, rfl⟩; rw [HC.out]))
          go_cut [6] (fun i wx => ∃ m : Nat, k ≤ m ∧ m ≤ s.size ∧ i = .int .i64 m ∧ wr = wx ∧ Hid (Scan wordyB s k m) ∧ Hid (∀ h : m < s.size, wordyB s[m] = false))
          case first =>
            --{
            go_wp2
            go_loop [6] (fun i => ∃ m : Nat, k ≤ m ∧ m ≤ s.size ∧ i = .int .i64 m ∧ Hid (Scan wordyB s k m)) (fun i => s.size - (intOf i).toNat)
            case atStart => exact ⟨k, Nat.le_refl _, hk, rfl, Scan.start hk⟩
            case round =>
              obtain ⟨m, hkm, hm, rfl, HS⟩ := hrel
              by_cases hml : m < s.size
              · cases hl : letterB s[m] with
                | true =>
                  have HL := Lib.hid hl
                  have HN := Lib.hid (HS.out.step hml (by simp [wordyB, hl]))
                  clear hl
                  go_wp2_with (go_at_call 24; refine (r_letter _ _).mono ?_; rintro e w' ⟨rfl, rfl⟩; rw [HL.out])
                  go_round
                  case rel => exact ⟨m + 1, by omega, by omega, by go_num, HN⟩
                  case measure => simp [intOf]; omega
                | false =>
                  have HL := Lib.hid hl
                  cases hd : digitB s[m] with
                  | true =>
                    have HD := Lib.hid hd
                    have HN := Lib.hid (HS.out.step hml (by simp [wordyB, hd]))
                    clear hl hd
                    go_wp2_with (first | (go_at_call 24; refine (r_letter _ _).mono ?_; rintro e w' ⟨rfl, rfl⟩; rw [HL.out]) | (go_at_call 25; refine (r_digit _ _).mono ?_; rintro e w' ⟨rfl, rfl⟩; rw [HD.out]))
                    go_round
                    case rel => exact ⟨m + 1, by omega, by omega, by go_num, HN⟩
                    case measure => simp [intOf]; omega
                  | false =>
                    have HD := Lib.hid hd
                    have HE : Hid (∀ h : m < s.size, wordyB s[m] = false) := fun _ => by simp [wordyB, hl, hd]
                    clear hl hd
                    go_wp2_with (first | (go_at_call 24; refine (r_letter _ _).mono ?_; rintro e w' ⟨rfl, rfl⟩; rw [HL.out]) | (go_at_call 25; refine (r_digit _ _).mono ?_; rintro e w' ⟨rfl, rfl⟩; rw [HD.out]))
                    go_meet
                    case rel => exact ⟨m, hkm, hm, rfl, rfl, HS, HE⟩
              · have HE : Hid (∀ h : m < s.size, wordyB s[m] = false) := fun h => absurd h hml
                go_wp2
                go_meet
                case rel => exact ⟨m, hkm, hm, rfl, rfl, HS, HE⟩
            --}
          case rest =>
            obtain ⟨m, hkm, hm, rfl, rfl, HS, HE⟩ := hcut
            by_cases hkm' : k < m
            · have hsub : bl (s.extract k m) = ((bl s).drop k).take (m - k) := Lib.extract_data s k m
              have hxs : (s.extract k m).size ≤ s.size := by rw [← bl_len, hsub]; simp; omega
              have hwk : wordyB s[k] = true := HS.out.2.2 k hlt (Nat.le_refl _) hkm'
              have hhd := head_word hlt hwk HS.out HE.out k
              rw [← hsub, show k + (m - k) = m from by omega] at hhd
              have HHD := Lib.hid hhd
              have HSUB := Lib.hid hsub
              clear hhd hsub
              cases hwd : hasB wordsL (bl (s.extract k m)) with
              | true =>
                --{
                have HW := Lib.hid hwd
                have HL : Hid (lexAt k ((bl s).drop k) = LexRes.push [⟨2, bl (s.extract k m), k⟩] (lexAt m ((bl s).drop m))) := by
                  have h1 : kindOf (bl (s.extract k m)) = some 2 := by unfold kindOf; unfold hasB at hwd; rw [if_pos hwd]
                  have := HHD.out
                  rw [h1] at this
                  exact this
                clear hwd
                go_wp2_with (go_at_call 26; refine (r_number _ _ (by omega)).mono ?_; rintro e w' ⟨rfl, x, rfl⟩)
                go_region_held3 (fun w' => w'.cell? ⟨wr.heap.size, 1, none⟩ = some (.string (s.extract k m))) (first | go_keep | (rw [hbel.cell (p := ⟨wr.heap.size, 1, none⟩) (by simp)]; simp)) (first | (go_at_call 16; refine (r_words _).mono ?_; rintro e w1 ⟨A1, rfl, hrow, hbel, hnew⟩) | (go_at_call 27; refine (r_one _ _ _ _ _ _ hrow (by omega)).mono ?_; rintro e w' ⟨rfl, rfl⟩; rw [HW.out]))
                have hB1 : Below wr.heap.size wr w1 := (((Below.refl _ _).alloc (Nat.le_refl _) _).drew).trans (hbel.mono (by simp))
                have hbk := Lib.hid ((hbel.block wr.heap.size (by simp)).trans (heap_alloc_new wr _))
                have hbx := box3 hbk.out
                have hx0 := hbx.c0; have hx1 := hbx.c1; have hx2 := hbx.c2; have hy0 := hbx.f0
                have hfew := HI.out.few
                have hroom := HI.out.room
                have hsz1 : wr.heap.size + 1 ≤ w1.heap.size := by have := hbel.size; simpa using this
                have HNE : Hid (u4.ownBlock ≠ some wr.heap.size) := by intro e; have := (HI.out.own.lt _ e).2; omega
                clear hbx hrow hbel hnew
                go_wp2_with (at_builtin; go_must (refine wp_tok_append _ rfl _ _ rfl (w.heap.size + 1) u4 ts rfl ((own_set (own_below HI.out.own hB1 (Nat.le_refl _)) HNE.out _).alloc _) w1.heap.size 1 ⟨2, bl (s.extract k m), k⟩ rfl (heap_alloc_at (by simp)) (by omega) (by simp; omega) ?_); intro v' w2 hown2 hgr2)
                go_roundw
                case rel => exact ⟨m, ts ++ [_], rfl, HI.out.next ((hB1.setCell (Nat.le_refl _) _).alloc (by simp; omega) _) hgr2 hown2 HL.out (by omega) hm⟩
                case measure => simp [intOf]; omega
                --}
              | false =>
                have HW := Lib.hid hwd
                have HK : Hid (kindOf (bl (s.extract k m)) = if isName (bl (s.extract k m)) then some 1 else if isInt (bl (s.extract k m)) then some 3 else none) := by
                  show _ = _
                  unfold kindOf
                  unfold hasB at hwd
                  rw [hwd]
                  simp
                clear hwd
                cases hnm : isName (bl (s.extract k m)) with
                | true =>
                  --{
                  have HNM := Lib.hid hnm
                  have HL : Hid (lexAt k ((bl s).drop k) = LexRes.push [⟨1, bl (s.extract k m), k⟩] (lexAt m ((bl s).drop m))) := by
                    have h1 : kindOf (bl (s.extract k m)) = some 1 := by rw [HK.out, hnm]; rfl
                    have := HHD.out
                    rw [h1] at this
                    exact this
                  clear hnm
                  go_wp2_with (go_at_call 26; refine (r_number _ _ (by omega)).mono ?_; rintro e w' ⟨rfl, x, rfl⟩)
                  go_region_held3 (fun w' => w'.cell? ⟨wr.heap.size, 1, none⟩ = some (.string (s.extract k m))) (first | go_keep | (rw [hbel.cell (p := ⟨wr.heap.size, 1, none⟩) (by simp)]; simp)) (first | (go_at_call 16; refine (r_words _).mono ?_; rintro e w1 ⟨A1, rfl, hrow, hbel, hnew⟩) | (go_at_call 27; refine (r_one _ _ _ _ _ _ hrow (by omega)).mono ?_; rintro e w' ⟨rfl, rfl⟩; rw [HW.out]))
                  have hB1 : Below wr.heap.size wr w1 := (((Below.refl _ _).alloc (Nat.le_refl _) _).drew).trans (hbel.mono (by simp))
                  have hbk := Lib.hid ((hbel.block wr.heap.size (by simp)).trans (heap_alloc_new wr _))
                  have hbx := box3 hbk.out
                  have hx0 := hbx.c0; have hx1 := hbx.c1; have hx2 := hbx.c2; have hy0 := hbx.f0
                  have hfew := HI.out.few
                  have hroom := HI.out.room
                  have hsz1 : wr.heap.size + 1 ≤ w1.heap.size := by have := hbel.size; simpa using this
                  have HNE : Hid (u4.ownBlock ≠ some wr.heap.size) := by intro e; have := (HI.out.own.lt _ e).2; omega
                  clear hbx hrow hbel hnew
                  go_wp2_with (first | (go_at_call 13; refine (r_name _ _ (by omega)).mono ?_; rintro e w3 ⟨rfl, hbel2⟩; rw [HNM.out]; have hB2 := hB1.trans (hbel2.mono (by omega)); have hbx := box3 ((hbel2.block wr.heap.size (by omega)).trans hbk.out); have hz0 := hbx.c0; have hz1 := hbx.c1; have hz2 := hbx.c2; have hv0 := hbx.f0; have hsz2 := hB2.size; clear hbx hbel2) | (at_builtin; go_must (refine wp_tok_append _ rfl _ _ rfl (w.heap.size + 1) u4 ts rfl ((own_set (own_below HI.out.own hB2 (Nat.le_refl _)) HNE.out _).alloc _) w3.heap.size 1 ⟨1, bl (s.extract k m), k⟩ rfl (heap_alloc_at (by simp)) (by omega) (by simp; omega) ?_); intro v' w2 hown2 hgr2))
                  go_roundw
                  case rel => exact ⟨m, ts ++ [_], rfl, HI.out.next ((hB2.setCell (Nat.le_refl _) _).alloc (by simp; omega) _) hgr2 hown2 HL.out (by omega) hm⟩
                  case measure => simp [intOf]; omega
                  --}
                | false =>
                  have HNM := Lib.hid hnm
                  cases hin : isInt (bl (s.extract k m)) with
                  | true =>
                    --{
                    have HIN := Lib.hid hin
                    have HL : Hid (lexAt k ((bl s).drop k) = LexRes.push [⟨3, bl (s.extract k m), k⟩] (lexAt m ((bl s).drop m))) := by
                      have h1 : kindOf (bl (s.extract k m)) = some 3 := by rw [HK.out, hnm, hin]; rfl
                      have := HHD.out
                      rw [h1] at this
                      exact this
                    clear hnm hin
                    go_wp2_with (go_at_call 26; refine (r_number _ _ (by omega)).mono ?_; rintro e w' ⟨rfl, x, rfl⟩; rw [HIN.out])
                    go_region_held3 (fun w' => w'.cell? ⟨wr.heap.size, 1, none⟩ = some (.string (s.extract k m))) (first | go_keep | (rw [hbel.cell (p := ⟨wr.heap.size, 1, none⟩) (by simp)]; simp)) (first | (go_at_call 16; refine (r_words _).mono ?_; rintro e w1 ⟨A1, rfl, hrow, hbel, hnew⟩) | (go_at_call 27; refine (r_one _ _ _ _ _ _ hrow (by omega)).mono ?_; rintro e w' ⟨rfl, rfl⟩; rw [HW.out]))
                    have hB1 : Below wr.heap.size wr w1 := (((Below.refl _ _).alloc (Nat.le_refl _) _).drew).trans (hbel.mono (by simp))
                    have hbk := Lib.hid ((hbel.block wr.heap.size (by simp)).trans (heap_alloc_new wr _))
                    have hbx := box3 hbk.out
                    have hx0 := hbx.c0; have hx1 := hbx.c1; have hx2 := hbx.c2; have hy0 := hbx.f0
                    have hfew := HI.out.few
                    have hroom := HI.out.room
                    have hsz1 : wr.heap.size + 1 ≤ w1.heap.size := by have := hbel.size; simpa using this
                    have HNE : Hid (u4.ownBlock ≠ some wr.heap.size) := by intro e; have := (HI.out.own.lt _ e).2; omega
                    clear hbx hrow hbel hnew
                    go_wp2_with (first | (go_at_call 13; refine (r_name _ _ (by omega)).mono ?_; rintro e w3 ⟨rfl, hbel2⟩; rw [HNM.out]; have hB2 := hB1.trans (hbel2.mono (by omega)); have hbx := box3 ((hbel2.block wr.heap.size (by omega)).trans hbk.out); have hz0 := hbx.c0; have hz1 := hbx.c1; have hz2 := hbx.c2; have hv0 := hbx.f0; have hsz2 := hB2.size; clear hbx hbel2) | (at_builtin; go_must (refine wp_tok_append _ rfl _ _ rfl (w.heap.size + 1) u4 ts rfl ((own_set (own_below HI.out.own hB2 (Nat.le_refl _)) HNE.out _).alloc _) w3.heap.size 1 ⟨3, bl (s.extract k m), k⟩ rfl (heap_alloc_at (by simp)) (by omega) (by simp; omega) ?_); intro v' w2 hown2 hgr2))
                    go_roundw
                    case rel => exact ⟨m, ts ++ [_], rfl, HI.out.next ((hB2.setCell (Nat.le_refl _) _).alloc (by simp; omega) _) hgr2 hown2 HL.out (by omega) hm⟩
                    case measure => simp [intOf]; omega
                    --}
                  | false =>
                    --{
                    have HIN := Lib.hid hin
                    have HL : Hid (lexAt k ((bl s).drop k) = .error (101, k)) := by
                      have h1 : kindOf (bl (s.extract k m)) = none := by rw [HK.out, hnm, hin]; rfl
                      have := HHD.out
                      rw [h1] at this
                      exact this
                    clear hnm hin
                    go_wp2_with (go_at_call 26; refine (r_number _ _ (by omega)).mono ?_; rintro e w' ⟨rfl, x, rfl⟩; rw [HIN.out])
                    go_region_held3 (fun w' => w'.cell? ⟨wr.heap.size, 1, none⟩ = some (.string (s.extract k m))) (first | go_keep | (rw [hbel.cell (p := ⟨wr.heap.size, 1, none⟩) (by simp)]; simp)) (first | (go_at_call 16; refine (r_words _).mono ?_; rintro e w1 ⟨A1, rfl, hrow, hbel, hnew⟩) | (go_at_call 27; refine (r_one _ _ _ _ _ _ hrow (by omega)).mono ?_; rintro e w' ⟨rfl, rfl⟩; rw [HW.out]))
                    have hB1 : Below wr.heap.size wr w1 := (((Below.refl _ _).alloc (Nat.le_refl _) _).drew).trans (hbel.mono (by simp))
                    have hbk := Lib.hid ((hbel.block wr.heap.size (by simp)).trans (heap_alloc_new wr _))
                    have hbx := box3 hbk.out
                    have hx0 := hbx.c0; have hx1 := hbx.c1; have hx2 := hbx.c2; have hy0 := hbx.f0
                    have hfew := HI.out.few
                    have hroom := HI.out.room
                    have hsz1 : wr.heap.size + 1 ≤ w1.heap.size := by have := hbel.size; simpa using this
                    have HNE : Hid (u4.ownBlock ≠ some wr.heap.size) := by intro e; have := (HI.out.own.lt _ e).2; omega
                    clear hbx hrow hbel hnew
                    go_wp2_with (go_at_call 13; refine (r_name _ _ (by omega)).mono ?_; rintro e w3 ⟨rfl, hbel2⟩; rw [HNM.out]; have hB2 := hB1.trans (hbel2.mono (by omega)); have hbx := box3 ((hbel2.block wr.heap.size (by omega)).trans hbk.out); have hz0 := hbx.c0; have hz1 := hbx.c1; have hz2 := hbx.c2; have hv0 := hbx.f0; have hsz2 := hB2.size; clear hbx hbel2; have hfl := HI.out.faultIn hB2; have hc0 := hfl.c0; have hc1 := hfl.c1; have hf0 := hfl.f0; have hf1 := hfl.f1; clear hfl)
                    refine bodyPost_ret (v := .tuple #[.slice none 0 0, .agg #[.int .i64 101, .int .i64 k]]) (by simp [results, Tryd.results10, go_sem, hc0, hc1]) rfl ?_
                    exact LexPost.bad HI.out hB2 HL.out _ _
                    --}
            · obtain rfl : k = m := by omega
              have hsg := head_sign hlt HB.out HC.out (HE.out hlt) k
              have HSG := Lib.hid hsg
              clear hsg
              go_wp2_with (go_at_call 28; refine (r_signs _).mono ?_; rintro e w1 ⟨A1, rfl, hrow, hbel, hnew⟩)
              obtain ⟨wo, rfl⟩ : ∃ wo : World, wo = wr := ⟨_, rfl⟩
              have HS0 : Hid (SignInv s wo w1 k A1 0 0 []) := by
                refine ⟨((Below.refl _ _).alloc (Nat.le_refl _) _).trans (hbel.mono (by simp)), hrow, ?_, fun ad e h => ?_⟩
                · rw [hbel.block wo.heap.size (by simp), heap_alloc_new]; rfl
                · have := hnew.1 ad e; simp at this; omega
              clear hrow hbel hnew
              have hfew := HI.out.few
              have hroom := HI.out.room
              have HNE : Hid (u4.ownBlock ≠ some wo.heap.size) := by intro e; have := (HI.out.own.lt _ e).2; omega
              go_loopw [11] (fun i wx => ∃ (j kd : Nat) (tx : Bytes), j ≤ 23 ∧ i = .int .i64 j ∧ Hid (SignInv s wo wx k A1 j kd tx) ∧ ((kd = 0 ∧ Hid (NoSign ((bl s).drop k) j)) ∨ (kd = 4 ∧ Hid (signAt ((bl s).drop k) = some tx)))) (fun i _ => 23 - (intOf i).toNat)
              case atStart => exact ⟨0, 0, [], by omega, rfl, HS0, .inl ⟨rfl, fun i v h => by omega⟩⟩
              case round =>
                clear HS0
                obtain ⟨j, kd, tx, hj, rfl, HS1, hst⟩ := hrel
                have hbx := box3 HS1.out.box
                have hx0 := hbx.c0; have hx1 := hbx.c1; have hx2 := hbx.c2; have hy0 := hbx.f0; have hy1 := hbx.f1
                have hsz := HS1.out.size
                clear hbx
                rcases hst with ⟨rfl, HN⟩ | ⟨rfl, HF⟩
                · by_cases hj23 : j < 23
                  · obtain ⟨ad, u, rfl, hbl, hu, hcu⟩ := HS1.out.row.at_ hj23
                    have hul : u.length ≤ 2 := signs_short u (List.mem_of_getElem? hu)
                    cases hp : u.isPrefixOf ((bl s).drop k) with
                    | true =>
                      have HF : Hid (signAt ((bl s).drop k) = some u) := HN.out.found hu hp
                      have HP : Hid ((bl (sb u)).isPrefixOf ((bl s).drop k) = true) := hp
                      have HS2 := Lib.hid (HS1.out.found (u := u))
                      clear hp hu
                      go_wp2_with (go_at_call 23; refine (r_begins _ _ _ _ (by omega) (by omega) (by show u.length ≤ _; omega)).mono ?_; rintro e w' ⟨rfl, rfl⟩; rw [HP.out])
                      go_roundw
                      case rel => exact ⟨j + 1, 4, u, by omega, by go_num, HS2, .inr ⟨rfl, HF⟩⟩
                      case measure => simp [intOf]; omega
                    | false =>
                      have HN2 := Lib.hid (HN.out.step hu hp)
                      have HP : Hid ((bl (sb u)).isPrefixOf ((bl s).drop k) = false) := hp
                      clear hp hu
                      go_wp2_with (go_at_call 23; refine (r_begins _ _ _ _ (by omega) (by omega) (by show u.length ≤ _; omega)).mono ?_; rintro e w' ⟨rfl, rfl⟩; rw [HP.out])
                      go_roundw
                      case rel => exact ⟨j + 1, 0, tx, by omega, by go_num, HS1.out.move, .inl ⟨rfl, HN2⟩⟩
                      case measure => simp [intOf]; omega
                  · have HL : Hid (lexAt k ((bl s).drop k) = .error (100, k)) := by
                      have := HSG.out
                      rw [HN.out.all (by omega)] at this
                      exact this
                    have hfl := HI.out.faultIn HS1.out.below
                    have hc0 := hfl.c0; have hc1 := hfl.c1; have hf0 := hfl.f0; have hf1 := hfl.f1
                    clear hfl
                    go_wp2
                    refine bodyPost_ret (v := .tuple #[.slice none 0 0, .agg #[.int .i64 100, .int .i64 k]]) (by simp [results, Tryd.results10, go_sem, hc0, hc1]) rfl ?_
                    exact LexPost.bad HI.out HS1.out.below HL.out _ _
                · have hpos := signAt_pos HF.out
                  have hp1 := hpos.2.1
                  have hp2 : k + tx.length ≤ s.size := by
                    have := hpos.2.2.2.length_le
                    rw [List.length_drop, bl_len] at this
                    omega
                  have hts : (sb tx).size = tx.length := rfl
                  have HTS := Lib.hid hts
                  have HL : Hid (lexAt k ((bl s).drop k) = LexRes.push [⟨4, tx, k⟩] (lexAt (k + tx.length) ((bl s).drop (k + tx.length)))) := by
                    have := HSG.out
                    rw [HF.out] at this
                    exact this
                  clear hpos hts
                  by_cases hj23 : j < 23
                  all_goals
                    go_wp2_with (at_builtin; go_must (refine wp_tok_append _ rfl _ _ rfl (w.heap.size + 1) u4 ts rfl ((own_below HI.out.own HS1.out.below (Nat.le_refl _)).alloc _) wr.heap.size 1 ⟨4, tx, k⟩ rfl (heap_alloc_new _ _) (by omega) (by simp; omega) ?_); go_must (intro v' w2 hown2 hgr2; have hz1 := hgr2.cell (a := ⟨wo.heap.size, 1, none⟩) ((World.cell?_alloc_lt wr _ _ (by show wo.heap.size < _; omega)).trans hx1) (Ne.symm HNE.out)))
                    go_roundw
                    case rel => exact ⟨k + tx.length, ts ++ [_], by go_num, HI.out.next (HS1.out.below.alloc (by omega) _) hgr2 hown2 HL.out (by omega) hp2⟩
                    case measure => simp [intOf]; omega
    · obtain rfl : k = s.size := by omega
      have hown := HI.out.own
      have hfew := HI.out.few
      have hsz := HI.out.room
      go_wp2_with (at_builtin; go_must (refine wp_tok_append _ rfl _ _ rfl (w.heap.size + 1) u4 ts rfl (hown.alloc _) wr.heap.size 1 ⟨5, [], s.size⟩ rfl (heap_alloc_new _ _) (by omega) (by simp; omega) ?_); intro v' w2 hown2 hgr2; have hfl := HI.out.fault2 ((Below.refl _ _).alloc (Nat.le_refl _) _) hgr2; have hc0 := hfl.c0; have hc1 := hfl.c1; have hf0 := hfl.f0; have hf1 := hfl.f1; clear hfl)
      refine bodyPost_ret (v := .tuple #[v', .agg #[.int .i64 0, .int .i64 0]]) (by simp [results, Tryd.results10, go_sem, hc0, hc1]) rfl ?_
      exact LexPost.done HI.out hown2 ((Below.refl _ _).alloc (Nat.le_refl _) _) hgr2 _ _
end Go.Proofs.YtnchfjhnacidlaaDoor
