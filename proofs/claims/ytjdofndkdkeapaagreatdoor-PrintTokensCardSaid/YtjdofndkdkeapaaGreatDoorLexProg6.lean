/- The walks over the lexer's try and Tokens: the program's lexer is the plain one. -/
import Derived.Test.YtjdofndkdkeapaaGreatDoorLexProg5
namespace Go.Proofs.YtjdofndkdkeapaaGreatDoor.Lx
open Go.RowKit

/-- What is tried: letters and digits, then a sign. -/
def tryOut (r : Bytes) : Sum (Nat × Bytes) Nat :=
  if r.takeWhile wordyB = [] then
    match signAt r with
    | some u => .inl (4, u)
    | none => .inr 100
  else match kindOf (r.takeWhile wordyB) with
    | some kd => .inl (kd, r.takeWhile wordyB)
    | none => .inr 101
def TryPost (B b : Nat) (s : ByteArray) (k : Nat) (ts : List Tok) (w : World) (o : Sum (Nat × Bytes) Nat) (e : Ending) (w' : World) : Prop := match o with
  | .inl (kd, t) => e = .returned (.int .i64 0) ∧ ∃ v', LxS B w' b s (k + t.length) (ts ++ [⟨kd, t, k⟩]) v' ∧ Below B w w'
  | .inr er => e = .returned (.int .i64 er) ∧ ∃ v', LxS B w' b s k ts v' ∧ Below B w w'

/-- text, whatever stands there, if something does. -/
def TextPost (B b : Nat) (s : ByteArray) (k : Nat) (ts : List Tok) (w : World) (t : Bytes) (o : Option Nat) (e : Ending) (w' : World) : Prop := match o with
  | some kd => StepPost B b s true 0 (k + t.length) (ts ++ [⟨kd, t, k⟩]) w e w'
  | none => StepPost B b s false 101 k ts w e w'
theorem p_text_any (B : Nat) (s : ByteArray) (b k : Nat) (ts : List Tok) (v : Value) (w : World) (t : Bytes) (h : LxS B w b s k ts v) (hE : Env w) (hk : k ≤ s.size) (hs : s.size ≤ 1073741824) (hfew : ts.length ≤ 1073741824) (ht : ((bl s).drop k).takeWhile wordyB = t) (h0 : 0 < t.length) :
    Calls Tryz.prog 18 #[.pointer (some ⟨b, 0, none⟩)] w (TextPost B b s k ts w t (kindOf t)) := by
  cases hw : hasB wordsL t with
  | true =>
    rw [show kindOf t = some 2 from by unfold kindOf; unfold hasB at hw; rw [if_pos hw]]
    exact p_text B s b k ts v w t h hE hk hs hfew ht h0 hw
  | false =>
    have hw' : ¬ wordsL.contains t = true := by unfold hasB at hw; rw [hw]; simp
    cases hnm : isName t with
    | true =>
      rw [show kindOf t = some 1 from by unfold kindOf; rw [if_neg hw', if_pos hnm]]
      exact p_text_name B s b k ts v w t h hE hk hs hfew ht h0 hw hnm
    | false =>
      cases hin : isInt t with
      | true =>
        rw [show kindOf t = some 3 from by unfold kindOf; rw [if_neg hw', if_neg (by rw [hnm]; simp), if_pos hin]]
        exact p_text_int B s b k ts v w t h hE hk hs hfew ht h0 hw hnm hin
      | false =>
        rw [show kindOf t = none from by unfold kindOf; rw [if_neg hw', if_neg (by rw [hnm]; simp), if_neg (by rw [hin]; simp)]]
        exact p_text_bad B s b k ts v w t h hE hk hs hfew ht h0 hw hnm hin

section
variable (B : Nat) (s : ByteArray) (b k g : Nat) (ts : List Tok) (v : Value) (w : World)

set_option maxHeartbeats 1000000 in
set_option maxRecDepth 20000 in
theorem p_try (h : LxS B w b s k ts v) (hE : Env w) (hk : k ≤ s.size) (hs : s.size ≤ 1073741824) (hfew : ts.length ≤ 1073741824)
    (h0 : w.cell? ⟨g, 0, none⟩ = some (.func (.func 18) #[.pointer (some ⟨b, 0, none⟩)] #[])) (h1 : w.cell? ⟨g, 1, none⟩ = some (.func (.func 19) #[.pointer (some ⟨b, 0, none⟩)] #[])) :
    Calls Tryz.prog 17 #[.pointer (some ⟨b, 0, none⟩), .slice (some ⟨g, 0, none⟩) 2 2] w (TryPost B b s k ts w (tryOut ((bl s).drop k))) := by
  have HL := Lib.hid h
  have HE := Lib.hid hE
  clear h hE
  by_cases ht : ((bl s).drop k).takeWhile wordyB = []
  · have HT := Lib.hid ht
    have HO : Hid (tryOut ((bl s).drop k) = match signAt ((bl s).drop k) with
      | some u => .inl (4, u)
      | none => .inr 100) := by show _ = _; unfold tryOut; rw [if_pos ht]
    clear ht
    go_enter Tryz.func17, Tryz.ntmps17
    go_wp2
    go_loopw [11] (fun i wx => ∃ j n : Nat, j ≤ 1 ∧ i = .int .i64 j ∧ wx = w.drewN n) (fun i _ => 2 - (intOf i).toNat)
    case atStart => exact ⟨0, 0, by omega, rfl, rfl⟩
    case round =>
      obtain ⟨j, n, hj, rfl, rfl⟩ := hrel
      have HD := Lib.hid (below_drewN w n)
      by_cases hj0 : j = 0
      · subst hj0
        go_wp2_with fail
        refine (p_text_nil B s b k ts v _ (HL.out.below HD.out) hk hs HT.out).mono ?_
        rintro e w3 ⟨rfl, n3, rfl⟩
        go_wp2
        go_roundw
        case rel => exact ⟨1, n + n3, by omega, by go_num, by simp⟩
        case measure => simp [intOf]
      · obtain rfl : j = 1 := by omega
        have HC := p_sign B s b k ts v (w.drewN n) (HL.out.below HD.out) (HE.out.below HD.out (Nat.le_refl _)) hk hs hfew
        cases hsg : signAt ((bl s).drop k) with
        | some u =>
          rw [hsg] at HC
          have HC2 := Lib.hid HC
          have HSG := Lib.hid hsg
          clear HC hsg
          go_wp2_with fail
          refine HC2.out.mono ?_
          rintro e w3 ⟨rfl, v', h3, h4⟩
          go_wp2
          go_ret
          rw [HO.out, HSG.out]
          exact ⟨rfl, v', h3, (HL.out.old HD.out).trans h4⟩
        | none =>
          rw [hsg] at HC
          have HC2 := Lib.hid HC
          have HSG := Lib.hid hsg
          clear HC hsg
          go_wp2_with fail
          refine HC2.out.mono ?_
          rintro e w3 ⟨rfl, v', h3, h4⟩
          go_wp2
          go_ret
          rw [HO.out, HSG.out]
          exact ⟨rfl, v', h3, (HL.out.old HD.out).trans h4⟩
  · have hpos : 0 < (((bl s).drop k).takeWhile wordyB).length := List.length_pos_iff.2 ht
    have HC := p_text_any B s b k ts v w _ HL.out HE.out hk hs hfew rfl hpos
    cases hkd : kindOf (((bl s).drop k).takeWhile wordyB) with
    | some kd =>
      have HO : Hid (tryOut ((bl s).drop k) = .inl (kd, ((bl s).drop k).takeWhile wordyB)) := by show _ = _; unfold tryOut; rw [if_neg ht, hkd]
      rw [hkd] at HC
      have HC2 := Lib.hid HC
      clear ht HC hkd
      rw [HO.out]
      go_enter Tryz.func17, Tryz.ntmps17
      go_wp2
      go_loopw [11] (fun i wx => i = .int .i64 0 ∧ wx = w) (fun i _ => 2 - (intOf i).toNat)
      case atStart => exact ⟨rfl, rfl⟩
      case round =>
        obtain ⟨rfl, rfl⟩ := hrel
        go_wp2_with fail
        refine HC2.out.mono ?_
        rintro e w3 ⟨rfl, v', h3, h4⟩
        go_wp2
        go_ret
        exact ⟨rfl, v', h3, h4⟩
    | none =>
      have HO : Hid (tryOut ((bl s).drop k) = .inr 101) := by show _ = _; unfold tryOut; rw [if_neg ht, hkd]
      rw [hkd] at HC
      have HC2 := Lib.hid HC
      clear ht HC hkd
      rw [HO.out]
      go_enter Tryz.func17, Tryz.ntmps17
      go_wp2
      go_loopw [11] (fun i wx => i = .int .i64 0 ∧ wx = w) (fun i _ => 2 - (intOf i).toNat)
      case atStart => exact ⟨rfl, rfl⟩
      case round =>
        obtain ⟨rfl, rfl⟩ := hrel
        go_wp2_with fail
        refine HC2.out.mono ?_
        rintro e w3 ⟨rfl, v', h3, h4⟩
        go_wp2
        go_ret
        exact ⟨rfl, v', h3, h4⟩
end

/-! ### Tokens -/
theorem enter_text (args : Array Value) (w : World) : (callFunc 18 args).run Tryz.prog w = .ok (.enter 18 args) w := run_enter Tryz.func18 (by kernel_rfl) (by kernel_rfl) args w

/-- What is known at the head of the program's loop. -/
structure ProgInv (s : ByteArray) (w wr : World) (k : Nat) (ts : List Tok) (v : Value) : Prop where
  le : k ≤ s.size
  run : lexOf (bl s) = LexRes.push ts (lexAt k ((bl s).drop k))
  st : LxS (w.heap.size + 1) wr (w.heap.size + 1) s k ts v
  few : ts.length ≤ k
  below : Below (w.heap.size + 1) (laidF w) wr

theorem pass_blanks (s : ByteArray) : ∀ (n k : Nat), k + n ≤ s.size → Scan blankB s k (k + n) → lexAt k ((bl s).drop k) = lexAt (k + n) ((bl s).drop (k + n))
  | 0, _, _, _ => rfl
  | n + 1, k, hk, hs => by
    have h1 := head_blank (s := s) (k := k) (by omega) (hs.2.2 k (by omega) (by omega) (by omega)) k
    rw [h1]
    have := pass_blanks s n (k + 1) (by omega) ⟨by omega, by omega, fun i hi h1 h2 => hs.2.2 i hi (by omega) (by omega)⟩
    rw [this, show k + 1 + n = k + (n + 1) from by omega]
theorem scan_of_take {p : UInt8 → Bool} {s : ByteArray} {k : Nat} (hk : k ≤ s.size) : Scan p s k (k + (((bl s).drop k).takeWhile p).length) := by
  have h1 := takeWhile_le p ((bl s).drop k)
  rw [List.length_drop, bl_len] at h1
  refine ⟨by omega, by omega, fun i hi h2 h3 => ?_⟩
  have hj : i - k < (((bl s).drop k).takeWhile p).length := by omega
  have hpre := List.takeWhile_prefix p (l := (bl s).drop k)
  have h4 : ((bl s).drop k)[i - k]? = (((bl s).drop k).takeWhile p)[i - k]? := by
    obtain ⟨r, hr⟩ := hpre
    have h6 : ((bl s).drop k)[i - k]? = (((bl s).drop k).takeWhile p ++ r)[i - k]? := by rw [hr]
    rw [h6, List.getElem?_append_left hj]
  rw [List.getElem?_drop, show k + (i - k) = i from by omega, bl_get s i hi] at h4
  have h5 := takeWhile_all p ((bl s).drop k)
  exact List.all_eq_true.1 h5 _ (List.mem_of_getElem? h4.symm)
theorem take_ends {p : UInt8 → Bool} : ∀ (l : Bytes) (c : UInt8), l[(l.takeWhile p).length]? = some c → p c = false
  | [], c, h => by simp at h
  | a :: l, c, h => by
    by_cases ha : p a = true
    · simp only [List.takeWhile_cons, ha, if_true, List.length_cons, List.getElem?_cons_succ] at h
      exact take_ends l c h
    · have ha' : p a = false := by simpa using ha
      simp only [List.takeWhile_cons, ha'] at h
      simp at h
      rw [← h]; exact ha'
theorem scan_ends {p : UInt8 → Bool} {s : ByteArray} {k : Nat} (hm : k + (((bl s).drop k).takeWhile p).length < s.size) : p s[k + (((bl s).drop k).takeWhile p).length] = false := by
  refine take_ends ((bl s).drop k) _ ?_
  rw [List.getElem?_drop, bl_get s _ hm]

/-- pass passes over what the plain lexer passes over. -/
theorem pass_run (s : ByteArray) (k : Nat) (hk : k < s.size) (hp : 0 < passN ((bl s).drop k)) : lexAt k ((bl s).drop k) = lexAt (k + passN ((bl s).drop k)) ((bl s).drop (k + passN ((bl s).drop k))) := by
  have hle := passN_le s k (by omega)
  cases hc : ([47, 47] : Bytes).isPrefixOf ((bl s).drop k) with
  | true =>
    have hn : passN ((bl s).drop k) = (((bl s).drop k).takeWhile (fun c => c.toNat != 10)).length := by unfold passN; rw [hc]; rfl
    rw [hn] at hle hp ⊢
    have := head_comment hk hc (scan_of_take (by omega)) (fun hm => scan_ends hm) k
    rw [this, show k + (k + (((bl s).drop k).takeWhile (fun c => c.toNat != 10)).length - k) = k + (((bl s).drop k).takeWhile (fun c => c.toNat != 10)).length from by omega]
  | false =>
    have hn : passN ((bl s).drop k) = (((bl s).drop k).takeWhile blankB).length := by unfold passN; rw [hc]; rfl
    rw [hn] at hle hp ⊢
    exact pass_blanks s _ k hle (scan_of_take (by omega))
theorem pass_none {s : ByteArray} {k : Nat} (hk : k < s.size) (hp : ¬ 0 < passN ((bl s).drop k)) : blankB s[k] = false ∧ ([47, 47] : Bytes).isPrefixOf ((bl s).drop k) = false := by
  have h0 : passN ((bl s).drop k) = 0 := by omega
  cases hc : ([47, 47] : Bytes).isPrefixOf ((bl s).drop k) with
  | true =>
    exfalso
    have hn : passN ((bl s).drop k) = (((bl s).drop k).takeWhile (fun c => c.toNat != 10)).length := by unfold passN; rw [hc]; rfl
    rw [hn, drop_cons s k hk] at h0
    rw [drop_cons s k hk] at hc
    simp [List.isPrefixOf] at hc
    rw [← hc.1] at h0
    simp at h0
  | false =>
    refine ⟨?_, rfl⟩
    have hn : passN ((bl s).drop k) = (((bl s).drop k).takeWhile blankB).length := by unfold passN; rw [hc]; rfl
    rw [hn, drop_cons s k hk] at h0
    cases hb : blankB s[k]
    · rfl
    · simp [hb] at h0
/-- What is tried is what the plain lexer tells. -/
theorem try_run {s : ByteArray} {k : Nat} (hk : k < s.size) (hp : ¬ 0 < passN ((bl s).drop k)) : lexAt k ((bl s).drop k) = match tryOut ((bl s).drop k) with
    | .inl (kd, t) => LexRes.push [⟨kd, t, k⟩] (lexAt (k + t.length) ((bl s).drop (k + t.length)))
    | .inr er => .error (er, k) := by
  obtain ⟨hb, hc⟩ := pass_none hk hp
  cases hw : wordyB s[k] with
  | true =>
    have ht : ((bl s).drop k).takeWhile wordyB ≠ [] := by rw [drop_cons s k hk]; simp [hw]
    have h1 := head_word hk hw (scan_of_take (by omega)) (fun hm => scan_ends hm) k
    have h2 := (scan_of_take (p := wordyB) (s := s) (k := k) (by omega)).take (fun hm => scan_ends hm)
    rw [← h2, show k + (k + (((bl s).drop k).takeWhile wordyB).length - k) = k + (((bl s).drop k).takeWhile wordyB).length from by omega] at h1
    rw [h1]
    unfold tryOut
    rw [if_neg ht]
    cases kindOf (((bl s).drop k).takeWhile wordyB) <;> rfl
  | false =>
    have ht : ((bl s).drop k).takeWhile wordyB = [] := by rw [drop_cons s k hk]; simp [hw]
    rw [head_sign hk hb hc hw k]
    unfold tryOut
    rw [if_pos ht]
    cases signAt ((bl s).drop k) <;> rfl
theorem tryOut_len {s : ByteArray} {k kd : Nat} {t : Bytes} (h : tryOut ((bl s).drop k) = .inl (kd, t)) (hk : k ≤ s.size) : 0 < t.length ∧ k + t.length ≤ s.size := by
  unfold tryOut at h
  split at h
  · split at h
    · rename_i u hu
      injection h with h
      injection h with _ h
      subst h
      obtain ⟨_, h1, _, h2⟩ := signAt_pos hu
      have := h2.length_le
      rw [List.length_drop, bl_len] at this
      exact ⟨h1, by omega⟩
    · cases h
  · rename_i h0
    split at h
    · injection h with h
      injection h with _ h
      have h1 := takeWhile_le wordyB ((bl s).drop k)
      rw [List.length_drop, bl_len] at h1
      rw [← h]
      exact ⟨List.length_pos_iff.2 h0, by omega⟩
    · cases h
end Go.Proofs.YtjdofndkdkeapaaGreatDoor.Lx
