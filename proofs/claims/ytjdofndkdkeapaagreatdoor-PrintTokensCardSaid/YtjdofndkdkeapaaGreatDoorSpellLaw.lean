/- What the printer prints of a right tree the lexer takes; texts behind one another. No program in sight. -/
import Derived.Test.YtjdofndkdkeapaaGreatDoorSpell
import Derived.Test.YtjdofndkdkeapaaGreatDoorLexJoin
namespace Go.Proofs.YtjdofndkdkeapaaGreatDoor
open Go.RowKit
set_option linter.unusedSimpArgs false

mutual
/-- All numbers are at most the greatest one. -/
def Tree.nums : Tree → Prop
  | .node _ _ x ks => x ≤ 9223372036854775807 ∧ numsL ks
def numsL : List Tree → Prop
  | [] => True
  | t :: ts => t.nums ∧ numsL ts
end
theorem numsL.mem : ∀ {ts : List Tree}, numsL ts → ∀ t ∈ ts, t.nums
  | _ :: _, h, t, ht => by
    simp only [numsL] at h
    rcases List.mem_cons.1 ht with rfl | ht
    · exact h.1
    · exact numsL.mem h.2 t ht
theorem sz_mem : ∀ {ts : List Tree}, ∀ t ∈ ts, t.sz ≤ szL ts
  | u :: ts, t, ht => by
    simp only [szL]
    rcases List.mem_cons.1 ht with rfl | ht
    · omega
    · have := sz_mem t ht; omega
def Start (p : Bytes) : Prop := ∃ c p', p = c :: p' ∧ c ≠ 61
def Takes (p : Bytes) : Prop := ∀ r, Lexes r → Ends r → Lexes (p ++ r)
def Good (d : Nat) (t : Tree) : Prop := Takes (printT d t) ∧ (20 ≤ t.kind → Start (printT d t))
theorem rightL_mem : ∀ {ts : List Tree} {k i deep : Nat}, rightL k i deep ts = true → ∀ (j : Nat) (t : Tree), ts[j]? = some t → fitsB k t.kind (i + j) = true ∧ rightT deep t = true
  | [], _, _, _, _, _, _, h => by simp at h
  | u :: ts, k, i, deep, h, 0, t, ht => by
    simp only [List.getElem?_cons_zero, Option.some.injEq] at ht
    subst ht
    simp only [rightL, Bool.and_eq_true] at h
    exact ⟨by simpa using h.1.1, h.1.2⟩
  | u :: ts, k, i, deep, h, j + 1, t, ht => by
    simp only [List.getElem?_cons_succ] at ht
    simp only [rightL, Bool.and_eq_true] at h
    have := rightL_mem h.2 j t ht
    rw [show i + 1 + j = i + (j + 1) by omega] at this
    exact this
theorem Ends.app {p r : Bytes} (h : Start p ∨ True) (hp : ∀ c p', p = c :: p' → wordyB c = false) (h0 : p ≠ []) : Ends (p ++ r) := by
  cases p with
  | nil => exact absurd rfl h0
  | cons c p => exact fun c' r' e => by injection e with e1 e2; rw [← e1]; exact hp c p rfl
theorem takes_comma {d : Nat} : ∀ {ts : List Tree}, (∀ t ∈ ts, Takes (printT d t)) → Takes (commaJ (printL d ts))
  | [], _ => fun r h _ => h
  | [t], h => fun r hl he => by
    have := h t (by simp) r hl he
    simpa [printL, commaJ] using this
  | t :: u :: ts, h => fun r hl he => by
    have h1 := takes_comma (ts := u :: ts) (fun t ht => h t (List.mem_cons_of_mem _ ht)) r hl he
    have h2 := h t (by simp) (44 :: 32 :: (commaJ (printL d (u :: ts)) ++ r)) (Lexes.plain (by decide) (Lexes.sp h1)) (Ends.plain (by decide))
    simpa [printL, commaJ] using h2
theorem takes_block {d : Nat} : ∀ {ts : List Tree}, (∀ t ∈ ts, Takes (printT d t)) → ∀ r, Lexes r → Ends r → Lexes (blockJ d (printL d ts) ++ r) ∧ Ends (blockJ d (printL d ts) ++ r)
  | [], _, r, h, he => ⟨h, he⟩
  | t :: ts, h, r, hl, he => by
    obtain ⟨h1, h2⟩ := takes_block (ts := ts) (fun t ht => h t (List.mem_cons_of_mem _ ht)) r hl he
    have h3 := h t (by simp) _ h1 h2
    refine ⟨?_, ?_⟩
    · have := Lexes.pad d h3
      simpa [printL, blockJ] using this
    · have := Ends.pad (r := printT d t ++ (blockJ d (printL d ts) ++ r)) d
      simpa [printL, blockJ] using this
theorem takes_file {d : Nat} : ∀ {ts : List Tree}, (∀ t ∈ ts, Takes (printT d t)) → ∀ r, Lexes r → Lexes (fileJ (printL d ts) ++ r)
  | [], _, r, h => h
  | [t], h, r, hl => by
    have := h t (by simp) _ (Lexes.nl hl) (Ends.blank (.inr rfl))
    simpa [printL, fileJ] using this
  | t :: u :: ts, h, r, hl => by
    have h1 := takes_file (ts := u :: ts) (fun t ht => h t (List.mem_cons_of_mem _ ht)) r hl
    have h2 := h t (by simp) _ (Lexes.nl (Lexes.nl h1)) (Ends.blank (.inr rfl))
    simpa [printL, fileJ] using h2
theorem opd_takes {d l : Nat} {t : Tree} (h : Takes (printT d t)) : Takes (opd l t (printT d t)) := by
  unfold opd
  split
  · exact h
  · intro r hl he
    have := Lexes.plain (c := 40) (by decide) (h _ (Lexes.plain (c := 41) (by decide) hl) (Ends.plain (by decide)))
    simpa using this
theorem opd_start {d l : Nat} {t : Tree} (h : Start (printT d t)) : Start (opd l t (printT d t)) := by
  unfold opd
  split
  · exact h
  · exact ⟨40, _, rfl, by decide⟩
theorem Start.app {p q : Bytes} (h : Start p) : Start (p ++ q) := by
  obtain ⟨c, p', rfl, h⟩ := h
  exact ⟨c, p' ++ q, rfl, h⟩
theorem Start.apart {p : Bytes} (h : Start p) (r : Bytes) : Apart (p ++ r) := by
  obtain ⟨c, p', rfl, h⟩ := h
  intro c' r' e
  injection e with e1 e2
  rw [← e1]; exact h
theorem name_start {s : Bytes} (h : isName s = true) : Start s := by
  obtain ⟨h0, hw, _⟩ := name_facts h
  cases s with
  | nil => exact absurd rfl h0
  | cons c r =>
    refine ⟨c, r, rfl, ?_⟩
    rintro rfl
    simp only [List.all_cons, Bool.and_eq_true] at hw
    exact absurd hw.1 (by decide)
theorem num_start {x : Int} (h : 0 ≤ x) : Start (Lib.itoa x) := by
  unfold Lib.itoa
  rw [if_neg (by omega)]
  obtain ⟨d1, _⟩ := Dec.dec_spec x.toNat x.toNat (Nat.le_refl _)
  have h0 := Dec.decDigits_pos x.toNat
  cases hd : Lib.decDigits x.toNat with
  | nil => exact absurd hd h0
  | cons c r =>
    refine ⟨c, r, rfl, ?_⟩
    rw [hd] at d1
    simp only [List.all_cons, Bool.and_eq_true] at d1
    rintro rfl
    exact absurd d1.1 (by decide)
theorem getD_print {d i : Nat} {ks : List Tree} {t : Tree} (h : ks[i]? = some t) : (printL d ks).getD i [] = printT d t := by
  rw [List.getD_eq_getElem?_getD, printL_get d ks i t h]; rfl
theorem getD_kid {i : Nat} {ks : List Tree} {t : Tree} (h : ks[i]? = some t) : ks.getD i default = t := by
  rw [List.getD_eq_getElem?_getD, h]; rfl
theorem kw {w : Bytes} (h : w ∈ wordsL) {r : Bytes} (hl : Lexes r) : Lexes (w ++ 32 :: r) := Lexes.kw h (Ends.blank (.inl rfl)) (Lexes.sp hl)
theorem kids1 {ks : List Tree} (h : ks.length = 1) : ∃ a, ks = [a] := by
  match ks, h with
  | [a], _ => exact ⟨a, rfl⟩
theorem kids2 {ks : List Tree} (h : ks.length = 2) : ∃ a b, ks = [a, b] := by
  match ks, h with
  | [a, b], _ => exact ⟨a, b, rfl⟩
theorem kids3 {ks : List Tree} (h : ks.length = 3) : ∃ a b c, ks = [a, b, c] := by
  match ks, h with
  | [a, b, c], _ => exact ⟨a, b, c, rfl⟩
theorem expr_of {k : Nat} (h : isB k 200 = true) : 20 ≤ k := by
  simp [isB] at h; exact h.1
theorem rows_kind {k : Nat} {x : List Nat × Bool} (h : rowsOf k = some x) : (1 ≤ k ∧ k ≤ 12) ∨ (20 ≤ k ∧ k ≤ 29) := by
  unfold rowsOf at h
  split at h <;> first | omega | cases h
theorem good_all : ∀ (n : Nat) (t : Tree), t.sz ≤ n → ∀ (deep : Nat), rightT deep t = true → t.nums → ∀ d, Good d t := by
  intro n
  induction n with
  | zero => intro t h; obtain ⟨k, s, x, ks⟩ := t; simp [Tree.sz] at h
  | succ n ih =>
    intro t hsz deep hr hn d
    obtain ⟨k, s, x, ks⟩ := t
    simp only [Tree.sz] at hsz
    simp only [Tree.nums] at hn
    have hk : ∀ (i : Nat) (u : Tree), ks[i]? = some u → ∀ d, fitsB k u.kind i = true ∧ Good d u := by
      intro i u hu d
      have hm := List.mem_of_getElem? hu
      simp only [rightT] at hr
      split at hr
      · cases hr
      · simp only [Bool.and_eq_true] at hr
        obtain ⟨h1, h2⟩ := rightL_mem hr.1.2 i u hu
        rw [Nat.zero_add] at h1
        exact ⟨h1, ih u (by have := sz_mem u hm; omega) _ h2 (hn.2.mem u hm) d⟩
    have hall : ∀ u ∈ ks, ∀ d, Takes (printT d u) := by
      intro u hu d
      obtain ⟨i, hi, e⟩ := List.getElem_of_mem hu
      exact (hk i u (by rw [List.getElem?_eq_getElem hi, e]) d).2.1
    simp only [rightT] at hr
    split at hr
    · cases hr
    rename_i l all hrow
    simp only [Bool.and_eq_true, Bool.or_eq_true, beq_iff_eq, decide_eq_true_eq] at hr
    obtain ⟨⟨⟨⟨_, hs⟩, hlen⟩, _⟩, _⟩ := hr
    have hkk := rows_kind hrow
    clear ih
    have hcase : k = 1 ∨ k = 2 ∨ k = 3 ∨ k = 4 ∨ k = 5 ∨ k = 6 ∨ k = 7 ∨ k = 8 ∨ k = 9 ∨ k = 10 ∨ k = 11 ∨ k = 12 ∨ k = 20 ∨ k = 21 ∨ k = 22 ∨ k = 23 ∨ k = 24 ∨ k = 25 ∨ k = 26 ∨ k = 27 ∨ k = 28 ∨ k = 29 := by omega
    rcases hcase with rfl | rfl | rfl | rfl | rfl | rfl | rfl | rfl | rfl | rfl | rfl | rfl | rfl | rfl | rfl | rfl | rfl | rfl | rfl | rfl | rfl | rfl
    · -- 1
      simp [rowsOf] at hrow
      obtain ⟨rfl, rfl⟩ := hrow
      refine ⟨fun r hl he => ?_, fun h20 => ?_⟩
      · have h1 := takes_file (fun u hu => hall u hu d) r hl
        simpa [printT, spellK, printL] using h1
      · exact absurd h20 (by simp [Tree.kind])
    · -- 2
      simp [rowsOf] at hrow
      obtain ⟨rfl, rfl⟩ := hrow
      have hs' : x = 0 ∧ isName s = true := by simpa [saysB, namedB] using hs
      obtain ⟨a, b, rfl⟩ := kids2 (by simpa using hlen)
      obtain ⟨fa, ga⟩ := hk 0 a rfl d
      obtain ⟨fb, gb⟩ := hk 1 b rfl d
      have ta := ga.1
      have tb := gb.1
      refine ⟨fun r hl he => ?_, fun h20 => ?_⟩
      · have h1 := tb r hl he
        have h2 := ta _ (Lexes.plain (c := 41) (by decide) (Lexes.sp h1)) (Ends.plain (by decide))
        have h3 := Lexes.name hs'.2 (Ends.plain (by decide)) (Lexes.plain (c := 40) (by decide) h2)
        have h4 := kw (w := [102, 117, 110, 99]) (by decide) h3
        simpa [printT, spellK, printL] using h4
      · exact absurd h20 (by simp [Tree.kind])
    · -- 3
      simp [rowsOf] at hrow
      obtain ⟨rfl, rfl⟩ := hrow
      refine ⟨fun r hl he => ?_, fun h20 => ?_⟩
      · have h1 := takes_comma (fun u hu => hall u hu d) r hl he
        simpa [printT, spellK, printL] using h1
      · exact absurd h20 (by simp [Tree.kind])
    · -- 4
      simp [rowsOf] at hrow
      obtain ⟨rfl, rfl⟩ := hrow
      have hs' : x = 0 ∧ isName s = true := by simpa [saysB, namedB] using hs
      have hk0 : ks = [] := List.length_eq_zero_iff.1 (by simpa using hlen)
      subst hk0
      refine ⟨fun r hl he => ?_, fun h20 => ?_⟩
      · have h1 := Lexes.name hs'.2 he hl
        simpa [printT, spellK, printL] using h1
      · exact absurd h20 (by simp [Tree.kind])
    · -- 5
      simp [rowsOf] at hrow
      obtain ⟨rfl, rfl⟩ := hrow
      refine ⟨fun r hl he => ?_, fun h20 => ?_⟩
      · have h0 := Lexes.pad d (Lexes.plain (c := 125) (by decide) hl)
        obtain ⟨h1, _⟩ := takes_block (d := d + 1) (fun u hu => hall u hu (d + 1)) _ h0 (Ends.pad d)
        have h2 := Lexes.plain (c := 123) (by decide) h1
        simpa [printT, spellK, printL] using h2
      · exact absurd h20 (by simp [Tree.kind])
    · -- 6
      simp [rowsOf] at hrow
      obtain ⟨rfl, rfl⟩ := hrow
      have hs' : x = 0 ∧ isName s = true := by simpa [saysB, namedB] using hs
      obtain ⟨a, rfl⟩ := kids1 (by simpa using hlen)
      obtain ⟨fa, ga⟩ := hk 0 a rfl d
      have ta := ga.1
      refine ⟨fun r hl he => ?_, fun h20 => ?_⟩
      · have h1 := Lexes.plain (c := 59) (by decide) hl
        have h2 := Lexes.name hs'.2 (Ends.blank (.inl rfl)) (Lexes.eq (ta _ h1 (Ends.plain (by decide))))
        have h3 := kw (w := [118, 97, 114]) (by decide) h2
        simpa [printT, spellK, printL] using h3
      · exact absurd h20 (by simp [Tree.kind])
    · -- 7
      simp [rowsOf] at hrow
      obtain ⟨rfl, rfl⟩ := hrow
      obtain ⟨a, b, rfl⟩ := kids2 (by simpa using hlen)
      obtain ⟨fa, ga⟩ := hk 0 a rfl d
      obtain ⟨fb, gb⟩ := hk 1 b rfl d
      have ta := ga.1
      have tb := gb.1
      refine ⟨fun r hl he => ?_, fun h20 => ?_⟩
      · have h1 := Lexes.plain (c := 59) (by decide) hl
        have h2 := ta _ (Lexes.eq (tb _ h1 (Ends.plain (by decide)))) (Ends.blank (.inl rfl))
        simpa [printT, spellK, printL] using h2
      · exact absurd h20 (by simp [Tree.kind])
    · -- 8
      simp [rowsOf] at hrow
      obtain ⟨rfl, rfl⟩ := hrow
      obtain ⟨a, b, c, rfl⟩ := kids3 (by simpa using hlen)
      obtain ⟨fa, ga⟩ := hk 0 a rfl d
      obtain ⟨fb, gb⟩ := hk 1 b rfl d
      obtain ⟨fc, gc⟩ := hk 2 c rfl d
      have ta := ga.1
      have tb := gb.1
      have tc := gc.1
      refine ⟨fun r hl he => ?_, fun h20 => ?_⟩
      · by_cases h0 : c.kids = []
        · have h1 := ta _ (Lexes.sp (tb r hl he)) (Ends.blank (.inl rfl))
          have h2 := kw (w := [105, 102]) (by decide) h1
          simpa [printT, spellK, printL, h0] using h2
        · have h1 := kw (w := [101, 108, 115, 101]) (by decide) (tc r hl he)
          have h2 := ta _ (Lexes.sp (tb _ (Lexes.sp h1) (Ends.blank (.inl rfl)))) (Ends.blank (.inl rfl))
          have h3 := kw (w := [105, 102]) (by decide) h2
          simpa [printT, spellK, printL, h0] using h3
      · exact absurd h20 (by simp [Tree.kind])
    · -- 9
      simp [rowsOf] at hrow
      obtain ⟨rfl, rfl⟩ := hrow
      obtain ⟨a, b, rfl⟩ := kids2 (by simpa using hlen)
      obtain ⟨fa, ga⟩ := hk 0 a rfl d
      obtain ⟨fb, gb⟩ := hk 1 b rfl d
      have ta := ga.1
      have tb := gb.1
      refine ⟨fun r hl he => ?_, fun h20 => ?_⟩
      · have h1 := ta _ (Lexes.sp (tb r hl he)) (Ends.blank (.inl rfl))
        have h2 := kw (w := [119, 104, 105, 108, 101]) (by decide) h1
        simpa [printT, spellK, printL] using h2
      · exact absurd h20 (by simp [Tree.kind])
    · -- 10
      simp [rowsOf] at hrow
      obtain ⟨rfl, rfl⟩ := hrow
      obtain ⟨a, rfl⟩ := kids1 (by simpa using hlen)
      obtain ⟨fa, ga⟩ := hk 0 a rfl d
      have ta := ga.1
      refine ⟨fun r hl he => ?_, fun h20 => ?_⟩
      · have h1 := Lexes.plain (c := 59) (by decide) hl
        have h2 := kw (w := [114, 101, 116, 117, 114, 110]) (by decide) (ta _ h1 (Ends.plain (by decide)))
        simpa [printT, spellK, printL] using h2
      · exact absurd h20 (by simp [Tree.kind])
    · -- 11
      simp [rowsOf] at hrow
      obtain ⟨rfl, rfl⟩ := hrow
      obtain ⟨a, rfl⟩ := kids1 (by simpa using hlen)
      obtain ⟨fa, ga⟩ := hk 0 a rfl d
      have ta := ga.1
      refine ⟨fun r hl he => ?_, fun h20 => ?_⟩
      · have h1 := Lexes.plain (c := 59) (by decide) hl
        have h2 := kw (w := [112, 114, 105, 110, 116]) (by decide) (ta _ h1 (Ends.plain (by decide)))
        simpa [printT, spellK, printL] using h2
      · exact absurd h20 (by simp [Tree.kind])
    · -- 12
      simp [rowsOf] at hrow
      obtain ⟨rfl, rfl⟩ := hrow
      obtain ⟨a, rfl⟩ := kids1 (by simpa using hlen)
      obtain ⟨fa, ga⟩ := hk 0 a rfl d
      have ta := ga.1
      refine ⟨fun r hl he => ?_, fun h20 => ?_⟩
      · have h1 := Lexes.plain (c := 59) (by decide) hl
        have h2 := ta _ h1 (Ends.plain (by decide))
        simpa [printT, spellK, printL] using h2
      · exact absurd h20 (by simp [Tree.kind])
    · -- 20
      simp [rowsOf] at hrow
      obtain ⟨rfl, rfl⟩ := hrow
      have hs' : s = [] ∧ 0 ≤ x := by simpa [saysB, namedB] using hs
      have hk0 : ks = [] := List.length_eq_zero_iff.1 (by simpa using hlen)
      subst hk0
      refine ⟨fun r hl he => ?_, fun h20 => ?_⟩
      · have h1 := Lexes.num hs'.2 hn.1 he hl
        simpa [printT, spellK, printL] using h1
      · have h1 := num_start hs'.2
        simpa [printT, spellK, printL] using h1
    · -- 21
      simp [rowsOf] at hrow
      obtain ⟨rfl, rfl⟩ := hrow
      have hk0 : ks = [] := List.length_eq_zero_iff.1 (by simpa using hlen)
      subst hk0
      refine ⟨fun r hl he => ?_, fun h20 => ?_⟩
      · by_cases h1 : x = 1
        · have h2 := Lexes.kw (w := [116, 114, 117, 101]) (by decide) he hl
          simpa [printT, spellK, printL, h1] using h2
        · have h2 := Lexes.kw (w := [102, 97, 108, 115, 101]) (by decide) he hl
          simpa [printT, spellK, printL, h1] using h2
      · by_cases h1 : x = 1
        · exact ⟨116, _, by simp [printT, spellK, printL, h1]; rfl, by decide⟩
        · exact ⟨102, _, by simp [printT, spellK, printL, h1]; rfl, by decide⟩
    · -- 22
      simp [rowsOf] at hrow
      obtain ⟨rfl, rfl⟩ := hrow
      have hs' : x = 0 ∧ isName s = true := by simpa [saysB, namedB] using hs
      have hk0 : ks = [] := List.length_eq_zero_iff.1 (by simpa using hlen)
      subst hk0
      refine ⟨fun r hl he => ?_, fun h20 => ?_⟩
      · have h1 := Lexes.name hs'.2 he hl
        simpa [printT, spellK, printL] using h1
      · have h1 := name_start hs'.2
        simpa [printT, spellK, printL] using h1
    · -- 23
      simp [rowsOf] at hrow
      obtain ⟨rfl, rfl⟩ := hrow
      have hs' : x = 0 ∧ (s = [45] ∨ s = [33]) := by simpa [saysB, namedB, unaryL] using hs
      obtain ⟨a, rfl⟩ := kids1 (by simpa using hlen)
      obtain ⟨fa, ga⟩ := hk 0 a rfl d
      have ta := ga.1
      refine ⟨fun r hl he => ?_, fun h20 => ?_⟩
      · have ea : 20 ≤ a.kind := expr_of (by simpa [fitsB, rowsOf] using fa)
        have h1 := opd_takes (l := 6) ta r hl he
        have h2 := (opd_start (l := 6) (ga.2 ea)).apart r
        rcases hs'.2 with rfl | rfl
        · have h3 := Lexes.minus h1
          simpa [printT, spellK, printL] using h3
        · have h3 := Lexes.bang h1 h2
          simpa [printT, spellK, printL] using h3
      · rcases hs'.2 with rfl | rfl
        · exact ⟨45, _, by simp [printT, spellK, printL]; rfl, by decide⟩
        · exact ⟨33, _, by simp [printT, spellK, printL]; rfl, by decide⟩
    · -- 24
      simp [rowsOf] at hrow
      obtain ⟨rfl, rfl⟩ := hrow
      have hs' : x = 0 ∧ s ∈ binaryL := by simp [saysB, namedB] at hs; exact hs
      obtain ⟨a, b, rfl⟩ := kids2 (by simpa using hlen)
      obtain ⟨fa, ga⟩ := hk 0 a rfl d
      obtain ⟨fb, gb⟩ := hk 1 b rfl d
      have ta := ga.1
      have tb := gb.1
      refine ⟨fun r hl he => ?_, fun h20 => ?_⟩
      · have h1 := opd_takes (l := levelOp s + 1) tb r hl he
        have h2 := opd_takes (l := levelOp s) ta _ (Lexes.op hs'.2 h1) (Ends.blank (.inl rfl))
        simpa [printT, spellK, printL] using h2
      · have ea : 20 ≤ a.kind := expr_of (by simpa [fitsB, rowsOf] using fa)
        have h1 := opd_start (l := levelOp s) (ga.2 ea)
        have h2 := h1.app (q := 32 :: s ++ 32 :: opd (levelOp s + 1) b (printT d b))
        simpa [printT, spellK, printL] using h2
    · -- 25
      simp [rowsOf] at hrow
      obtain ⟨rfl, rfl⟩ := hrow
      have hs' : x = 0 ∧ isName s = true := by simpa [saysB, namedB] using hs
      refine ⟨fun r hl he => ?_, fun h20 => ?_⟩
      · have h1 := takes_comma (fun u hu => hall u hu d) _ (Lexes.plain (c := 41) (by decide) hl) (Ends.plain (by decide))
        have h2 := Lexes.name hs'.2 (Ends.plain (by decide)) (Lexes.plain (c := 40) (by decide) h1)
        simpa [printT, spellK, printL] using h2
      · have h1 := (name_start hs'.2).app (q := 40 :: commaJ (printL d ks) ++ [41])
        simpa [printT, spellK, printL] using h1
    · -- 26
      simp [rowsOf] at hrow
      obtain ⟨rfl, rfl⟩ := hrow
      obtain ⟨a, b, rfl⟩ := kids2 (by simpa using hlen)
      obtain ⟨fa, ga⟩ := hk 0 a rfl d
      obtain ⟨fb, gb⟩ := hk 1 b rfl d
      have ta := ga.1
      have tb := gb.1
      refine ⟨fun r hl he => ?_, fun h20 => ?_⟩
      · have h1 := tb _ (Lexes.plain (c := 93) (by decide) hl) (Ends.plain (by decide))
        have h2 := opd_takes (l := 7) ta _ (Lexes.plain (c := 91) (by decide) h1) (Ends.plain (by decide))
        simpa [printT, spellK, printL] using h2
      · have ea : 20 ≤ a.kind := expr_of (by simpa [fitsB, rowsOf] using fa)
        have h1 := opd_start (l := 7) (ga.2 ea)
        have h2 := h1.app (q := 91 :: printT d b ++ [93])
        simpa [printT, spellK, printL] using h2
    · -- 27
      simp [rowsOf] at hrow
      obtain ⟨rfl, rfl⟩ := hrow
      obtain ⟨a, b, rfl⟩ := kids2 (by simpa using hlen)
      obtain ⟨fa, ga⟩ := hk 0 a rfl d
      obtain ⟨fb, gb⟩ := hk 1 b rfl d
      have ta := ga.1
      have tb := gb.1
      refine ⟨fun r hl he => ?_, fun h20 => ?_⟩
      · have h1 := tb _ (Lexes.plain (c := 93) (by decide) hl) (Ends.plain (by decide))
        have h2 := ta _ (Lexes.plain (c := 59) (by decide) (Lexes.sp h1)) (Ends.plain (by decide))
        have h3 := Lexes.plain (c := 91) (by decide) h2
        simpa [printT, spellK, printL] using h3
      · exact ⟨91, _, by simp [printT, spellK, printL]; rfl, by decide⟩
    · -- 28
      simp [rowsOf] at hrow
      obtain ⟨rfl, rfl⟩ := hrow
      obtain ⟨a, rfl⟩ := kids1 (by simpa using hlen)
      obtain ⟨fa, ga⟩ := hk 0 a rfl d
      have ta := ga.1
      refine ⟨fun r hl he => ?_, fun h20 => ?_⟩
      · have h1 := ta _ (Lexes.plain (c := 41) (by decide) hl) (Ends.plain (by decide))
        have h2 := Lexes.kw (w := [108, 101, 110]) (by decide) (Ends.plain (by decide)) (Lexes.plain (c := 40) (by decide) h1)
        simpa [printT, spellK, printL] using h2
      · exact ⟨108, _, by simp [printT, spellK, printL]; rfl, by decide⟩
    · -- 29
      simp [rowsOf] at hrow
      obtain ⟨rfl, rfl⟩ := hrow
      have hk0 : ks = [] := List.length_eq_zero_iff.1 (by simpa using hlen)
      subst hk0
      refine ⟨fun r hl he => ?_, fun h20 => ?_⟩
      · have h1 := Lexes.plain (c := 40) (by decide) (Lexes.plain (c := 41) (by decide) hl)
        have h2 := Lexes.kw (w := [114, 101, 97, 100]) (by decide) (Ends.plain (by decide)) h1
        simpa [printT, spellK, printL] using h2
      · exact ⟨114, _, by simp [printT, spellK, printL]; rfl, by decide⟩
theorem file_lexes {d : Nat} : ∀ {ts : List Tree}, (∀ t ∈ ts, Takes (printT d t)) → fileJ (printL d ts) = [] ∨ ∃ s0, fileJ (printL d ts) = s0 ++ [10] ∧ Lexes s0
  | [], _ => .inl rfl
  | [t], h => .inr ⟨printT d t, by simp [printL, fileJ], by simpa using h t (by simp) [] Lexes.nil Ends.nil⟩
  | t :: u :: ts, h => by
    right
    have hu := file_lexes (ts := u :: ts) (fun t ht => h t (List.mem_cons_of_mem _ ht))
    rcases hu with e | ⟨s0, e, h0⟩
    · exact ⟨printT d t ++ [10], by have : fileJ (printL d (t :: u :: ts)) = printT d t ++ 10 :: 10 :: fileJ (printL d (u :: ts)) := rfl
                                    rw [this, e]; simp, h t (by simp) _ (Lexes.nl Lexes.nil) (Ends.blank (.inr rfl))⟩
    · refine ⟨printT d t ++ 10 :: 10 :: s0, ?_, h t (by simp) _ (Lexes.nl (Lexes.nl h0)) (Ends.blank (.inr rfl))⟩
      have : fileJ (printL d (t :: u :: ts)) = printT d t ++ 10 :: 10 :: fileJ (printL d (u :: ts)) := rfl
      rw [this, e]; simp
theorem lexOf_ok {s : Bytes} (h : Lexes s) : ∃ ts, lexOf s = .ok ts ∧ 0 < ts.length := by
  obtain ⟨ts, e⟩ := h 0
  refine ⟨ts, e, List.length_pos_iff.2 (Dec.lexAt_some e)⟩
theorem joined_len {s m : Bytes} {a b : List Tok} (h : lexOf s = .ok a) (h2 : lexOf m = .ok b) : ∃ c, lexOf (s ++ 10 :: m) = .ok c ∧ c.length = a.length - 1 + b.length := by
  refine ⟨_, by rw [Dec.lex_joined, h, h2]; rfl, ?_⟩
  simp
/-- Behind a file's text another one's tokens are what they are alone: so many. -/
theorem print_tokens {n m : Tree} (hn : n.kind = 1) (hm : m.kind = 1) (rn : treeRight n = true) (rm : treeRight m = true) (fn : n.nums) (fm : m.nums) :
    ∃ a b c, lexOf (printT 0 n) = .ok a ∧ lexOf (printT 0 m) = .ok b ∧ lexOf (printT 0 n ++ printT 0 m) = .ok c ∧ 0 < a.length ∧ 0 < b.length ∧ c.length = a.length - 1 + b.length := by
  have hb := (good_all _ m (Nat.le_refl _) 1 rm fm 0).1 [] Lexes.nil Ends.nil
  rw [List.append_nil] at hb
  obtain ⟨b, eb, lb⟩ := lexOf_ok hb
  have ha := (good_all _ n (Nat.le_refl _) 1 rn fn 0).1 [] Lexes.nil Ends.nil
  rw [List.append_nil] at ha
  obtain ⟨a, ea, la⟩ := lexOf_ok ha
  obtain ⟨k, s, x, ks⟩ := n
  simp only [Tree.kind] at hn
  subst hn
  have hk : ∀ t ∈ ks, Takes (printT 0 t) := by
    intro t ht
    simp only [treeRight, rightT, rowsOf, Bool.and_eq_true] at rn
    obtain ⟨i, hi, e⟩ := List.getElem_of_mem ht
    obtain ⟨_, h2⟩ := rightL_mem rn.1.2 i t (by rw [List.getElem?_eq_getElem hi, e])
    simp only [Tree.nums] at fn
    exact (good_all _ t (Nat.le_refl _) _ h2 (fn.2.mem t ht) 0).1
  have hp : printT 0 (.node 1 s x ks) = fileJ (printL 0 ks) := by simp [printT, spellK]
  rw [hp] at ea ⊢
  rcases file_lexes hk with e | ⟨s0, e, h0⟩
  · rw [e] at ea ⊢
    rw [List.nil_append]
    have : lexOf [] = .ok [⟨5, [], 0⟩] := rfl
    rw [this] at ea
    injection ea with ea
    subst ea
    exact ⟨_, b, b, rfl, eb, eb, la, lb, by simp⟩
  · obtain ⟨a0, e0, l0⟩ := lexOf_ok h0
    obtain ⟨c, ec, lc⟩ := joined_len e0 eb
    obtain ⟨c1, ec1, lc1⟩ := joined_len (m := []) e0 (b := [⟨5, [], 0⟩]) rfl
    rw [e] at ea ⊢
    rw [ec1] at ea
    injection ea with ea
    subst ea
    refine ⟨c1, b, c, ec1, eb, ?_, la, lb, ?_⟩
    · rw [List.append_assoc]; exact ec
    · rw [lc, lc1]; simp only [List.length_cons, List.length_nil]; omega
end Go.Proofs.YtjdofndkdkeapaaGreatDoor
