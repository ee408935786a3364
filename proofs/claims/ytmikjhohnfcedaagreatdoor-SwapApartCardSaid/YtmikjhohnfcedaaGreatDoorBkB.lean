/- The plain laws of chapter 16: two edits the other way round, and back again; edits of unlike functions. No program in sight.
   The walks over package place (chapter 13): each function returns what the plain functions say.
   The walks over package place, the second half: where paths lead.
   The walk over tree.rows (chapter 6): a map of rows, and what it says of a kind. -/
import Derived.Test.YtmikjhohnfcedaaGreatDoorBkA
import Derived.Test.YtmikjhohnfcedaaGreatDoorShelf
import Derived.Deep.RegionHeld3
import Derived.Deep.QuietTactic
import Derived.BigQuiet
namespace Go.Proofs.YtmikjhohnfcedaaGreatDoor
set_option linter.unusedSimpArgs false
set_option linter.unusedVariables false

/-- What a right edit is, kind by kind. -/
def RightIs (e : Edt) : Prop :=
  (e.kind = 1 ∧ e.at_ = 0 ∧ e.far = 0 ∧ e.path ≠ [] ∧ isName e.frm = true ∧ isName e.to_ = true ∧ e.frm ≠ e.to_ ∧ e.olds = [] ∧ e.news = []) ∨
  (e.kind = 2 ∧ e.far = 0 ∧ e.frm = [] ∧ e.to_ = [] ∧ e.olds = [] ∧ partB e.news = true) ∨
  (e.kind = 3 ∧ e.far = 0 ∧ e.frm = [] ∧ e.to_ = [] ∧ e.news = [] ∧ partB e.olds = true) ∨
  (e.kind = 4 ∧ e.at_ = 0 ∧ e.far = 0 ∧ e.path ≠ [] ∧ e.frm = [] ∧ e.to_ = [] ∧ partB e.olds = true ∧ partB e.news = true ∧ e.olds ≠ e.news) ∨
  (e.kind = 5 ∧ e.at_ ≠ e.far ∧ e.frm = [] ∧ e.to_ = [] ∧ e.news = [] ∧ partB e.olds = true)

theorem partB_nil : partB [] = false := rfl
theorem isName_nil : isName [] = false := rfl
theorem not_sameL {a b : List Tree} : sameL a b = false ↔ a ≠ b := by
  rw [← Bool.not_eq_true, sameL_iff]
theorem right_iff (e : Edt) : editRight e = true ↔ (e.path.all numberB = true ∧ numberB e.at_ = true ∧ numberB e.far = true) ∧ RightIs e := by
  obtain ⟨k, p, i, f, a, b, o, n⟩ := e
  have ho : partB o = true → o ≠ [] := by rintro h rfl; simp [partB] at h
  have hn : partB n = true → n ≠ [] := by rintro h rfl; simp [partB] at h
  have ha : isName a = true → a ≠ [] := by rintro h rfl; simp [isName] at h
  have hs := @not_sameL o n
  have hs' := sameL_iff o n
  unfold editRight RightIs
  simp only
  by_cases k1 : k = 1
  · subst k1; simp [loneB, oldsB, newsB]; grind
  by_cases k2 : k = 2
  · subst k2; simp [loneB, oldsB, newsB]; grind
  by_cases k3 : k = 3
  · subst k3; simp [loneB, oldsB, newsB]; grind
  by_cases k4 : k = 4
  · subst k4; simp [loneB, oldsB, newsB]; grind
  by_cases k5 : k = 5
  · subst k5; simp [loneB, oldsB, newsB]; grind
  simp [loneB, oldsB, newsB, k1, k2, k3, k4, k5]

theorem invert_right {e : Edt} (h : editRight e = true) : editRight (invertE e) = true := by
  have h' := (right_iff e).1 h
  obtain ⟨k, p, i, f, a, b, o, n⟩ := e
  rw [right_iff]
  unfold invertE
  simp only [h]
  unfold RightIs at h' ⊢
  simp only at h'
  obtain ⟨hp, h'⟩ := h'
  rcases h' with ⟨rfl, h'⟩ | ⟨rfl, h'⟩ | ⟨rfl, h'⟩ | ⟨rfl, h'⟩ | ⟨rfl, h'⟩ <;> simp <;> grind
theorem invert_eq {e : Edt} (h : editRight e = true) : invertE e = if e.kind = 5 then ⟨5, e.path, e.far, e.at_, e.to_, e.frm, e.olds, e.news⟩ else ⟨if e.kind = 2 then 3 else if e.kind = 3 then 2 else e.kind, e.path, e.at_, e.far, e.to_, e.frm, e.news, e.olds⟩ := by
  unfold invertE; simp [h]
theorem invert_invert {e : Edt} (h : editRight e = true) : invertE (invertE e) = e := by
  have hr := invert_right h
  rw [invert_eq hr, invert_eq h]
  obtain ⟨k, p, i, f, a, b, o, n⟩ := e
  simp only
  by_cases h5 : k = 5
  · subst h5; simp
  · by_cases h2 : k = 2
    · subst h2; simp
    · by_cases h3 : k = 3
      · subst h3; simp
      · simp [h5, h2, h3]

theorem under_iff {a b : List Int} : underB a b = true ↔ ∃ r, a = b ++ r := by
  unfold underB
  rw [List.isPrefixOf_iff_prefix]
  exact ⟨fun ⟨r, h⟩ => ⟨r, h.symm⟩, fun ⟨r, h⟩ => ⟨r, h.symm⟩⟩
theorem under_self (l r : List Int) : underB (l ++ r) l = true := under_iff.2 ⟨r, rfl⟩
theorem pastL_not {p l : List Int} (f : Int → Int) (h : underB p l = false) : pastL p l f = p := by simp [pastL, h]
theorem pastL_self (l : List Int) (f : Int → Int) : pastL l l f = l := by
  have : underB l l = true := under_iff.2 ⟨[], by simp⟩
  simp [pastL, stepAt, this]
theorem pastL_cons (l : List Int) (k : Int) (r : List Int) (f : Int → Int) : pastL (l ++ k :: r) l f = l ++ f k :: r := by
  simp [pastL, stepAt, under_self]
/-- A path is not under a list, is the list's own, or goes through it. -/
theorem path_cases (p l : List Int) : underB p l = false ∨ p = l ∨ ∃ k r, p = l ++ k :: r := by
  cases h : underB p l with
  | false => exact .inl rfl
  | true =>
    obtain ⟨r, rfl⟩ := under_iff.1 h
    cases r with
    | nil => right; left; simp
    | cons k r => exact .inr (.inr ⟨k, r, rfl⟩)
theorem pastL_len (p l : List Int) (f : Int → Int) : (pastL p l f).length = p.length := by
  rcases path_cases p l with h | rfl | ⟨k, r, rfl⟩
  · rw [pastL_not f h]
  · rw [pastL_self]
  · rw [pastL_cons]; simp
theorem gone_cons (l : List Int) (k : Int) (r : List Int) (i : Int) : goneB (l ++ k :: r) l i = (k == i) := by
  rw [Bool.eq_iff_iff]
  simp [goneB, under_self]
theorem gone_not {p l : List Int} (i : Int) (h : underB p l = false) : goneB p l i = false := by simp [goneB, h]
theorem gone_self (l : List Int) (i : Int) : goneB l l i = false := by simp [goneB]
theorem under_at (l : List Int) (k : Int) (r : List Int) (i : Int) : underB (l ++ k :: r) (l ++ [i]) = (k == i) := by
  rw [Bool.eq_iff_iff, under_iff]
  simp
theorem under_at_self (l : List Int) (i : Int) : underB l (l ++ [i]) = false := by
  rw [← Bool.not_eq_true, under_iff]
  rintro ⟨r, h⟩
  have := congrArg List.length h
  simp at this
theorem under_at_not {p l : List Int} (i : Int) (h : underB p l = false) : underB p (l ++ [i]) = false := by
  rw [← Bool.not_eq_true] at h ⊢
  intro hu
  apply h
  obtain ⟨r, e⟩ := under_iff.1 hu
  exact under_iff.2 ⟨[i] ++ r, by rw [e]; simp⟩

theorem pastE_len {e : Edt} {z y : List Int} (h : pastE e z = some y) : y.length = z.length := by
  unfold pastE insertedL deletedL movedL at h
  split at h
  · injection h with h; rw [← h, pastL_len]
  split at h
  · split at h
    · cases h
    · injection h with h; rw [← h, pastL_len]
  split at h
  · split at h
    · cases h
    · injection h with h; rw [← h]
  split at h
  · split at h
    · cases h
    · injection h with h; rw [← h, pastL_len]
  injection h with h; rw [← h]

theorem pastE_inv {e : Edt} (hr : editRight e = true) {z y : List Int} (h : pastE e z = some y) : pastE (invertE e) y = some z := by
  have hR := ((right_iff e).1 hr).2
  rw [invert_eq hr]
  obtain ⟨k, p, i, f, a, b, o, n⟩ := e
  simp only [RightIs] at hR
  simp only [pastE] at h
  rcases hR with ⟨rfl, _⟩ | ⟨rfl, _⟩ | ⟨rfl, _⟩ | ⟨rfl, _⟩ | ⟨rfl, hne, _⟩
  · simp at h; simp [pastE, h]
  · simp [insertedL] at h
    subst h
    rcases path_cases z p with hu | rfl | ⟨m, r, rfl⟩
    · simp [pastE, deletedL, pastL_not _ hu, gone_not _ hu]
    · simp [pastE, deletedL, pastL_self, gone_self]
    · have h1 : (upF i m == i) = false := by simp only [upF, beq_eq_false_iff_ne]; split <;> omega
      have h2 : downF i (upF i m) = m := by unfold upF downF; split <;> split <;> omega
      simp [pastE, deletedL, pastL_cons, gone_cons, h1, h2]
  · simp [deletedL] at h
    obtain ⟨hg, rfl⟩ := h
    rcases path_cases z p with hu | rfl | ⟨m, r, rfl⟩
    · simp [pastE, insertedL, pastL_not _ hu]
    · simp [pastE, insertedL, pastL_self]
    · rw [gone_cons] at hg
      have hg' : m ≠ i := by simpa using hg
      have h2 : upF i (downF i m) = m := by unfold upF downF; split <;> split <;> omega
      simp [pastE, insertedL, pastL_cons, h2]
  · simp at h
    obtain ⟨hu, rfl⟩ := h
    simp [pastE, hu]
  · simp [movedL] at h
    obtain ⟨hu, rfl⟩ := h
    rcases path_cases z p with hv | rfl | ⟨m, r, rfl⟩
    · simp [pastE, movedL, pastL_not _ hv, under_at_not _ hv]
    · simp [pastE, movedL, pastL_self, under_at_self]
    · rw [under_at] at hu
      have hm : m ≠ i := by simpa using hu
      have h1 : (upF f (downF i m) == f) = false := by simp only [beq_eq_false_iff_ne]; unfold upF downF; split <;> split <;> omega
      have h1' : ¬ upF f (downF i m) = f := by simpa using h1
      have h2 : upF i (downF f (upF f (downF i m))) = m := by unfold upF downF; repeat' split <;> try omega
      simp [pastE, movedL, pastL_cons, under_at, h1, h1', hm, h2]

/-- The second path stays apart from the first one. -/
theorem pastE_apart {p q : Edt} {x y : List Int} (h1 : pastE (invertE p) q.path = some x) (h2 : pastE { q with path := x } p.path = some y) (hp : editRight p = true) (lp : loneB p.kind = true) (lq : loneB q.kind = true) (h : x = y) : p.path = q.path := by
  subst h
  have l1 := pastE_len h1
  have l2 := pastE_len h2
  -- a path as long as the list's own is not turned
  have still : ∀ (e : Edt) (z y : List Int), e.path.length = z.length → loneB e.kind = true → pastE e z = some y → y = z := by
    intro e z y hl hk hz
    have hpast : ∀ f, pastL z e.path f = z := by
      intro f
      rcases path_cases z e.path with hu | hu | ⟨k, r, hu⟩
      · exact pastL_not f hu
      · rw [hu]; rw [pastL_self]
      · rw [hu] at hl; simp at hl
    unfold pastE insertedL deletedL movedL at hz
    simp only [hpast] at hz
    grind
  have e2 := still { q with path := x } p.path x (by simpa using l2) lq h2
  have lp' : loneB (invertE p).kind = true := by
    rw [invert_eq hp]
    unfold loneB at lp ⊢
    split
    · rfl
    · simp only; grind
  have hpp : (invertE p).path = p.path := by rw [invert_eq hp]; split <;> rfl
  have e1 := still (invertE p) q.path x (by rw [hpp, ← e2]; exact l1) lp' h1
  rw [← e2, e1]

theorem mixes_swap {p q : Edt} (j i : Int) (x y : List Int) (h : mixesB p q = false) (hp : p.kind = 1 ∧ q.kind = 1 → x ≠ y) : mixesB { q with path := x, at_ := j } { p with path := y, at_ := i } = false := by
  obtain ⟨k, p1, i1, f1, a1, b1, o1, n1⟩ := p
  obtain ⟨k', p2, i2, f2, a2, b2, o2, n2⟩ := q
  simp only at hp
  unfold mixesB Edt.names Edt.binds Edt.params Edt.calls Edt.parts at h ⊢
  simp only at h ⊢
  by_cases hk : k = 1 <;> by_cases hk' : k' = 1
  · simp only [hk, hk', amongB, and_self, if_true] at h hp ⊢
    simp at h hp ⊢
    grind
  · simp only [hk, hk', amongB, and_false, if_true, if_false] at h ⊢
    simp at h ⊢
    grind
  · simp only [hk, hk', amongB, and_true, if_true, if_false] at h ⊢
    simp at h ⊢
    grind
  · simp only [hk, hk', amongB, and_false, if_false] at h ⊢
    simp at h ⊢
    grind

theorem commute_back {p q a b : Edt} (h : commuteE p q = .ok (a, b)) : commuteE a b = .ok (p, q) ∧ editRight a = true ∧ editRight b = true := by
  unfold commuteE at h
  split at h
  · cases h
  rename_i hr
  simp only [Bool.or_eq_true, Bool.not_eq_true', not_or, Bool.not_eq_false] at hr
  obtain ⟨hp, hq⟩ := hr
  split at h
  · cases h
  rename_i hm
  have hm' : mixesB p q = false := by simpa using hm
  split at h
  · cases h
  rename_i a' b' hs
  split at h
  · rename_i hab
    injection h with h
    injection h with ha hb
    subst ha hb
    simp only [Bool.and_eq_true] at hab
    obtain ⟨ra, rb⟩ := hab
    refine ⟨?_, ra, rb⟩
    have hR1 := ((right_iff p).1 hp).2
    have hR2 := ((right_iff q).1 hq).2
    -- what the two are, and that they lead back
    have key : swapped a' b' = some (p, q) ∧ mixesB a' b' = false := by
      unfold swapped at hs
      split at hs
      · rename_i hl
        simp only [Bool.and_eq_true, beq_iff_eq] at hl
        obtain ⟨⟨l1, l2⟩, lp⟩ := hl
        split at hs
        · rename_i j i hbs
          injection hs with hs
          injection hs with ha hb
          subst ha hb
          have hkinds : ¬ (p.kind = 1 ∧ q.kind = 1) := by rintro ⟨e, _⟩; rw [e] at l1; simp [loneB] at l1
          refine ⟨?_, mixes_swap j i q.path p.path hm' (fun h => absurd h hkinds)⟩
          unfold swapped
          rw [if_pos (by simp [l1, l2, lp])]
          have hb2 : besideB { q with at_ := j } { p with at_ := i } = some (p.at_, q.at_) := by
            unfold besideB at hbs ⊢
            simp only at hbs ⊢
            unfold loneB at l1 l2
            have k1 : p.kind = 2 ∨ p.kind = 3 ∨ p.kind = 5 := by simpa [or_assoc] using l1
            have k2 : q.kind = 2 ∨ q.kind = 3 ∨ q.kind = 5 := by simpa [or_assoc] using l2
            rcases k1 with k1 | k1 | k1 <;> rcases k2 with k2 | k2 | k2 <;> simp only [k1, k2] at hbs ⊢ <;> simp at hbs ⊢ <;> grind
          rw [hb2]
        · cases hs
      · rename_i hl
        split at hs
        · cases hs
        rename_i x hx
        split at hs
        · cases hs
        rename_i y hy
        injection hs with hs
        injection hs with ha hb
        subst ha hb
        have h1 : pastE (invertE { q with path := x }) y = some p.path := pastE_inv ra hy
        have h2 : pastE { p with path := p.path } x = some q.path := by
          have := pastE_inv (invert_right hp) hx
          rw [invert_invert hp] at this
          exact this
        constructor
        · unfold swapped
          rw [if_neg]
          · simp only [h1, h2]
          · simp only [Bool.and_eq_true, beq_iff_eq]
            rintro ⟨⟨l2, l1⟩, e⟩
            apply hl
            simp only [Bool.and_eq_true, beq_iff_eq]
            exact ⟨⟨l1, l2⟩, pastE_apart hx hy hp l1 l2 e⟩
        · refine mixes_swap q.at_ p.at_ x y hm' ?_
          rintro ⟨k1, k2⟩ e
          subst e
          have e1 : x = q.path := by
            rw [invert_eq hp] at hx
            simp [pastE, k1] at hx
            exact hx.symm
          have e2 : x = p.path := by
            simp [pastE, k2] at hy
            exact hy.symm
          unfold mixesB at hm'
          simp [k1, k2] at hm'
          exact hm'.1.1 (e2.symm.trans e1)
    unfold commuteE
    simp [ra, rb, hp, hq, key.1, key.2]
  · cases h

theorem commute_apart {p q : Edt} (hp : editRight p = true) (hq : editRight q = true) (lp : p.path ≠ []) (lq : q.path ≠ []) (h0 : p.path.head? ≠ q.path.head?)
    (hn : ∀ s, s ∈ p.names → s ∉ q.names) (hcp : callsL p.parts = false) (hcq : callsL q.parts = false) (hbp : ∀ s ∈ p.binds, s ∈ p.names) (hbq : ∀ s ∈ q.binds, s ∈ q.names) : commuteE p q = .ok (q, p) := by
  obtain ⟨u, pr, hpe⟩ : ∃ u r, p.path = u :: r := List.exists_cons_of_ne_nil lp
  obtain ⟨v, qr, hqe⟩ : ∃ u r, q.path = u :: r := List.exists_cons_of_ne_nil lq
  have huv : u ≠ v := by rw [hpe, hqe] at h0; simpa using h0
  have hnu : ∀ r, underB q.path (p.path ++ r) = false := by
    intro r; rw [← Bool.not_eq_true, under_iff]; rintro ⟨r', e⟩; rw [hpe, hqe] at e; simp at e; exact huv e.1.symm
  have hnu' : ∀ r, underB p.path (q.path ++ r) = false := by
    intro r; rw [← Bool.not_eq_true, under_iff]; rintro ⟨r', e⟩; rw [hpe, hqe] at e; simp at e; exact huv e.1
  have g1 := hnu []
  have g2 := hnu' []
  simp only [List.append_nil] at g1 g2
  have hpast : ∀ (e : Edt) (z : List Int), underB z e.path = false → (∀ r, underB z (e.path ++ r) = false) → pastE e z = some z := by
    intro e z e1 e2
    unfold pastE insertedL deletedL movedL
    simp only [pastL_not _ e1, gone_not _ e1, e1, e2]
    repeat' split
    all_goals simp_all
  have hpp : (invertE p).path = p.path := by rw [invert_eq hp]; split <;> rfl
  have hs : swapped p q = some (q, p) := by
    unfold swapped
    rw [if_neg]
    · rw [hpast (invertE p) q.path (by rw [hpp]; exact g1) (by rw [hpp]; exact hnu)]
      simp only
      rw [hpast q p.path g2 hnu']
    · simp only [Bool.and_eq_true, beq_iff_eq]
      rintro ⟨_, e⟩
      rw [hpe, hqe] at e; simp at e; exact huv e.1
  have hm : mixesB p q = false := by
    unfold mixesB
    by_cases hk : p.kind = 1 ∧ q.kind = 1
    · have e1 : p.names = [p.frm, p.to_] := by simp [Edt.names, hk.1]
      have e2 : q.names = [q.frm, q.to_] := by simp [Edt.names, hk.2]
      rw [e1, e2] at hn
      have hne : (p.path == q.path) = false := by simp [hpe, hqe, huv]
      have n1 := hn p.frm (by simp)
      have n2 := hn p.to_ (by simp)
      simp only [List.mem_cons, List.not_mem_nil, or_false, not_or] at n1 n2
      simp only [hk, and_self, if_true, hne, amongB, Bool.false_or]
      simp
      exact ⟨n2, fun e => n1.2 e.symm⟩
    · rw [if_neg hk]
      have a1 : amongB q.names p.binds = false := by
        simp only [amongB, List.any_eq_false, List.contains_eq_mem, decide_eq_true_eq]
        exact fun s hs hc => hn s (hbp s hs) hc
      have a2 : amongB p.names q.binds = false := by
        simp only [amongB, List.any_eq_false, List.contains_eq_mem, decide_eq_true_eq]
        exact fun s hs hc => hn s hc (hbq s hs)
      have c1 : p.calls = false := by unfold Edt.calls; split <;> simp [hcp]
      have c2 : q.calls = false := by unfold Edt.calls; split <;> simp [hcq]
      simp [a1, a2, c1, c2]
  unfold commuteE
  simp [hp, hq, hm, hs]

/-! Whoever is bound is named. -/
mutual
theorem binds_named : ∀ (t : Tree) (s : Bytes), s ∈ t.binds → s ∈ t.names
  | .node k x n ks, s, h => by
    simp only [Tree.binds, Tree.names, List.mem_append] at h ⊢
    rcases h with h | h
    · left
      split at h
      · rename_i hk
        have : namedB k = true := by unfold namedB; simp only [Bool.or_eq_true] at hk ⊢; grind
        simpa [this] using h
      · simp at h
    · right; exact bindsL_named ks s h
theorem bindsL_named : ∀ (ts : List Tree) (s : Bytes), s ∈ bindsL ts → s ∈ namesL ts
  | [], s, h => by simp [bindsL] at h
  | t :: ts, s, h => by
    simp only [bindsL, namesL, List.mem_append] at h ⊢
    rcases h with h | h
    · exact .inl (binds_named t s h)
    · exact .inr (bindsL_named ts s h)
end
theorem Edt.binds_named (e : Edt) : ∀ s ∈ e.binds, s ∈ e.names := by
  intro s h
  unfold Edt.binds at h
  unfold Edt.names
  split at h
  · rename_i hk; rw [if_pos hk]; exact h
  · rename_i hk; rw [if_neg hk]; exact bindsL_named _ _ h
end Go.Proofs.YtmikjhohnfcedaaGreatDoor

namespace Go.Proofs.YtmikjhohnfcedaaGreatDoor
set_option linter.unusedSimpArgs false
set_option linter.unusedVariables false
open Go.RowKit

/-- A slice value that reads as a list of numbers. -/
def IntsAt (w : World) (zs : List Int) (A : Option Addr) (n c : Nat) : Prop :=
  n = zs.length ∧ n ≤ c ∧ c ≤ maxLen ∧ (zs = [] ∨ ∃ b o, A = some ⟨b, o, none⟩ ∧ ∀ j z, zs[j]? = some z → w.cell? ⟨b, o + j, none⟩ = some (.int .i64 z))
theorem IntsAt.keep {w w' : World} (hb : ∀ a v, w.cell? a = some v → w'.cell? a = some v) {zs : List Int} {A : Option Addr} {n c : Nat} (h : IntsAt w zs A n c) : IntsAt w' zs A n c := by
  obtain ⟨h1, h2, h3, h4⟩ := h
  refine ⟨h1, h2, h3, ?_⟩
  rcases h4 with e | ⟨b, o, e, hr⟩
  · exact .inl e
  · exact .inr ⟨b, o, e, fun j z hz => hb _ _ (hr j z hz)⟩
theorem IntsAt.below {w w' : World} (hb : Below w.heap.size w w') {zs : List Int} {A : Option Addr} {n c : Nat} (h : IntsAt w zs A n c) : IntsAt w' zs A n c := h.keep fun _ _ => cell_below hb
theorem IntsAt.drewN {w : World} {zs : List Int} {A : Option Addr} {n c : Nat} (h : IntsAt w zs A n c) (d : Nat) : IntsAt (w.drewN d) zs A n c := h.keep fun _ _ h => by rw [World.cell?_drewN]; exact h
theorem IntsAt.getD {w : World} {zs : List Int} {b o : Nat} (h : ∀ j z, zs[j]? = some z → w.cell? ⟨b, o + j, none⟩ = some (.int .i64 z)) : ∀ j, j < zs.length → w.cell? ⟨b, o + j, none⟩ = some (.int .i64 (zs.getD j 0)) := by
  intro j hj
  have : zs[j]? = some (zs[j]) := List.getElem?_eq_getElem hj
  rw [h j _ this]
  simp [List.getD, this]
/-- The head of a row of numbers. -/
theorem IntsAt.take {w : World} {zs : List Int} {A : Option Addr} {n c : Nat} (h : IntsAt w zs A n c) (m : Nat) (hm : m ≤ n) : IntsAt w (zs.take m) A m c := by
  obtain ⟨h1, h2, h3, h4⟩ := h
  refine ⟨by simp; omega, by omega, h3, ?_⟩
  rcases h4 with e | ⟨b, o, e, hr⟩
  · exact .inl (by simp [e])
  · refine .inr ⟨b, o, e, fun j z hz => hr j z ?_⟩
    rw [List.getElem?_take] at hz
    split at hz
    · exact hz
    · cases hz
theorem IntsAt.get {w : World} {zs : List Int} {A : Option Addr} {n c : Nat} (h : IntsAt w zs A n c) {i : Nat} (hi : i < n) : ∃ b o z, A = some ⟨b, o, none⟩ ∧ zs[i]? = some z ∧ w.cell? ⟨b, o + i, none⟩ = some (.int .i64 z) := by
  obtain ⟨hn, _, _, h⟩ := h
  rcases h with rfl | ⟨b, o, e, hr⟩
  · simp at hn; omega
  · have : zs[i]? = some (zs[i]'(by omega)) := List.getElem?_eq_getElem (by omega)
    exact ⟨b, o, _, e, this, hr i _ this⟩
theorem IntsAt.own {w : World} {base : Nat} {v : Value} {zs : List Int} (h : w.ownsRow base 3 1 v zs.length (zs.map (Value.int .i64))) : ∃ A c, v = .slice A zs.length c ∧ IntsAt w zs A zs.length c := by
  obtain ⟨A, c, rfl, h1, h2⟩ := own_form h
  refine ⟨A, c, rfl, rfl, h1, h2, ?_⟩
  by_cases h0 : zs = []
  · exact .inl h0
  · right
    have hpos : 0 < zs.length := List.length_pos_iff.2 h0
    obtain ⟨g, cap, e, _⟩ := h.form hpos
    injection e with e1 e2 e3
    subst e1
    refine ⟨g, 0, rfl, fun j z hz => ?_⟩
    have := own_cells h j (.int .i64 z) (by simp [hz])
    simpa using this

/-- What a call leaves that draws and returns. -/
def DrawnP (v : Value) (w : World) (e : Ending) (w' : World) : Prop := e = .returned v ∧ ∃ n, w' = w.drewN n
/-- What a call leaves that hands back a row of numbers of its own. -/
def IntsPost (zs : List Int) (w : World) (e : Ending) (w' : World) : Prop := ∃ A c, e = .returned (.slice A zs.length c) ∧ w'.ownsRow w.heap.size 3 1 (.slice A zs.length c) zs.length (zs.map (Value.int .i64)) ∧ Below w.heap.size w w'

theorem p_equal_ints (xs ys : List Int) (A B : Option Addr) (n c m d : Nat) (w : World) (hx : IntsAt w xs A n c) (hy : IntsAt w ys B m d) :
    Calls Tryz.prog 20 #[.slice A n c, .slice B m d] w (DrawnP (.bool (xs == ys)) w) := by
  obtain ⟨rfl, x2, x3, x4⟩ := hx
  obtain ⟨rfl, y2, y3, y4⟩ := hy
  unfold maxLen at x3 y3
  by_cases hl : xs.length = ys.length
  · rcases x4 with rfl | ⟨b, o, rfl, hr⟩
    · have : ys = [] := List.eq_nil_of_length_eq_zero hl.symm
      subst this
      refine (Tryz.slices_Equal_int_empty A B c 0 d w (by omega)).mono ?_
      rintro e w' ⟨rfl, rfl⟩
      exact ⟨rfl, 0, rfl⟩
    · rcases y4 with rfl | ⟨b', o', rfl, hr'⟩
      · have : xs = [] := List.eq_nil_of_length_eq_zero hl
        subst this
        refine (Tryz.slices_Equal_int_empty _ B c 0 d w (by omega)).mono ?_
        rintro e w' ⟨rfl, rfl⟩
        exact ⟨rfl, 0, rfl⟩
      · refine (Tryz.slices_Equal_int b o xs.length c b' o' ys.length d xs ys w (Nat.le_refl _) (Nat.le_refl _) (by omega) (by omega) (IntsAt.getD hr) (IntsAt.getD hr')).mono ?_
        rintro e w' ⟨rfl, q, rfl⟩
        exact ⟨by simp, q, rfl⟩
  · refine (Tryz.slices_Equal_int_lens A B xs.length c ys.length d w hl).mono ?_
    rintro e w' ⟨rfl, rfl⟩
    have : (xs == ys) = false := by simp; intro e; exact hl (by rw [e])
    exact ⟨by rw [this], 0, rfl⟩

theorem p_clone_ints (zs : List Int) (A : Option Addr) (n c : Nat) (w : World) (h : IntsAt w zs A n c) (hn : n ≤ 17592186044416) :
    Calls Tryz.prog 44 #[.slice A n c] w (IntsPost zs w) := by
  obtain ⟨rfl, h2, h3, h4⟩ := h
  rcases h4 with rfl | ⟨b, o, rfl, hr⟩
  · cases A with
    | none =>
      refine (Tryz.slices_Clone_int_nil 0 c w).mono ?_
      rintro e w' ⟨rfl, rfl⟩
      exact ⟨none, 0, rfl, World.ownsRow_nil _ _ _ _, Below.refl _ _⟩
    | some a =>
      refine (Tryz.slices_Clone_int_zero a c w).mono ?_
      rintro e w' ⟨v', rfl, hown, _, hb⟩
      obtain ⟨A', c', rfl, _⟩ := own_form hown
      exact ⟨A', c', rfl, hown, hb⟩
  · refine (Tryz.slices_Clone_int b o zs.length c zs w (Nat.le_refl _) (by omega) (IntsAt.getD hr)).mono ?_
    rintro e w' ⟨v', rfl, hown, _, hb⟩
    rw [List.take_length] at hown
    obtain ⟨A', c', rfl, _⟩ := own_form hown
    exact ⟨A', c', rfl, hown, hb⟩

theorem under_len {a b : List Int} (h : a.length < b.length) : underB a b = false := by
  rw [← Bool.not_eq_true, under_iff]
  rintro ⟨r, rfl⟩
  simp at h
  omega
theorem under_take {a b : List Int} (_h : b.length ≤ a.length) : (a.take b.length == b) = underB a b := by
  unfold underB
  rw [Bool.eq_iff_iff, List.isPrefixOf_iff_prefix, List.prefix_iff_eq_take, beq_iff_eq]
  exact ⟨Eq.symm, Eq.symm⟩

set_option maxHeartbeats 400000 in
theorem p_under (xs ys : List Int) (A B : Option Addr) (n c m d : Nat) (w : World) (hx : IntsAt w xs A n c) (hy : IntsAt w ys B m d) :
    Calls Tryz.prog 53 #[.slice A n c, .slice B m d] w (DrawnP (.bool (underB xs ys)) w) := by
  have HX := Lib.hid hx
  have HY := Lib.hid hy
  have hxl := hx.1; have hyl := hy.1
  have hxc := hx.2.1; have hxm := hx.2.2.1
  unfold maxLen at hxm
  by_cases hl : m ≤ n
  · have HR : Hid ((xs.take m == ys) = underB xs ys) := by show _ = _; rw [hyl]; exact under_take (by omega)
    clear hx hy hxl hyl
    go_enter Tryz.func53, Tryz.ntmps53
    go_wp2_with fail
    refine (p_equal_ints (xs.take m) ys _ _ _ _ _ _ _ (HX.out.take m hl) HY.out).mono ?_
    rintro e w1 ⟨rfl, q, rfl⟩
    go_wp2
    go_ret
    exact ⟨ret_bool (by rw [← HR.out]), q, rfl⟩
  · have HR : Hid (underB xs ys = false) := under_len (by omega)
    clear hx hy hxl hyl
    go_enter Tryz.func53, Tryz.ntmps53
    go_wp2
    go_ret
    exact ⟨ret_bool (by rw [HR.out]), 0, rfl⟩
end Go.Proofs.YtmikjhohnfcedaaGreatDoor

namespace Go.Proofs.YtmikjhohnfcedaaGreatDoor
set_option linter.unusedSimpArgs false
set_option linter.unusedVariables false
open Go.RowKit

theorem run_makeFunc (fn : Fn) (first cap : Array Value) (w : World) : (Instr.makeFunc fn first cap).run Tryz.prog w = .ok (.func fn first cap) w := rfl

/-- What a function value on numbers does, in every later world. -/
def Pays (w : World) (f : FuncId) (caps : Array Value) (z : Int) (y : Int) : Prop :=
  ∀ w1, Below w.heap.size w w1 → Calls Tryz.prog f (#[.int .i64 z] ++ caps) w1 fun e w2 => e = .returned (.int .i64 y) ∧ Below w1.heap.size w1 w2

theorem own_stored {w : World} {base g n c : Nat} {zs : List Int} (h : w.ownsRow base 3 1 (.slice (some ⟨g, 0, none⟩) n c) n (zs.map (Value.int .i64))) (i : Nat) (y : Int) :
    (w.setCell ⟨g, i, none⟩ (.int .i64 y)).ownsRow base 3 1 (.slice (some ⟨g, 0, none⟩) n c) n ((zs.set i y).map (Value.int .i64)) := by
  have := (h.stored i (.int .i64 y)).1
  rwa [List.map_set]

theorem IntsPost.intro {zs ys : List Int} {w w' : World} {A : Option Addr} {n c : Nat} (h : zs = ys) (hn : n = ys.length) (ho : w'.ownsRow w.heap.size 3 1 (.slice A n c) n (ys.map (Value.int .i64))) (hb : Below w.heap.size w w') :
    IntsPost zs w (.returned (.slice A n c)) w' := by
  subst h hn
  exact ⟨A, c, rfl, ho, hb⟩
set_option maxHeartbeats 400000 in
theorem p_step (zs : List Int) (A : Option Addr) (n c at_ : Nat) (f : FuncId) (caps : Array Value) (F : Int → Int) (w : World) (h : IntsAt w zs A n c) (hn : n ≤ 17592186044416) (ha : at_ ≤ 17592186044416)
    (hcf : ∀ (args : Array Value) (w : World), (callFunc f args).run Tryz.prog w = .ok (.enter f args) w) (hF : ∀ z, zs[at_]? = some z → Pays w f caps z (F z)) :
    Calls Tryz.prog 99 #[.slice A n c, .int .i64 at_, .func (.func f) #[] caps] w (IntsPost (stepAt zs at_ F) w) := by
  have H := Lib.hid h
  have HF := Lib.hid hF
  obtain ⟨rfl, _⟩ := h
  clear hF
  by_cases hl : at_ < zs.length
  · have HZ : Hid (zs[at_]? = some zs[at_]) := List.getElem?_eq_getElem hl
    have HS : Hid (stepAt zs at_ F = zs.set at_ (F zs[at_])) := by show _ = _; unfold stepAt; rw [HZ.out]
    go_enter Tryz.func99, Tryz.ntmps99
    go_wp2_with fail
    refine (p_clone_ints zs A _ c _ H.out hn).mono ?_
    rintro e w1 ⟨A1, c1, rfl, ho, hb⟩
    have HO := Lib.hid ho
    obtain ⟨g, cap, e1, hg, _⟩ := ho.form (by omega)
    injection e1 with e1 e2 e3
    subst e1 e3
    have hc := own_cells ho at_ (.int .i64 zs[at_]) (by simp [hl])
    have HB := Lib.hid hb
    clear ho hb
    go_wp2_with fail
    refine (HF.out _ HZ.out _ HB.out).mono ?_
    rintro e w2 ⟨rfl, hb2⟩
    have ho2 := own_below HO.out hb2 (Nat.le_refl _)
    have hc2 := own_cells ho2 at_ (.int .i64 zs[at_]) (by simp [hl])
    have hf2 := ho2.frozenAt at_
    have HO2 := Lib.hid (own_stored ho2 at_ (F zs[at_]))
    have HB2 : Hid (Below w.heap.size w (w2.setCell ⟨g, at_, none⟩ (.int .i64 (F zs[at_])))) := (HB.out.trans (hb2.mono HB.out.size)).setCell hg _
    clear ho2 hb2
    go_wp2
    go_ret
    exact IntsPost.intro HS.out (by rw [List.length_set]) HO2.out HB2.out
  · have HS : Hid (stepAt zs at_ F = zs) := by show _ = _; unfold stepAt; rw [List.getElem?_eq_none (by omega)]
    go_enter Tryz.func99, Tryz.ntmps99
    go_wp2_with fail
    refine (p_clone_ints zs A _ c _ H.out hn).mono ?_
    rintro e w1 ⟨A1, c1, rfl, ho, hb⟩
    have HO := Lib.hid ho
    have HB := Lib.hid hb
    clear ho hb
    go_wp2
    go_ret
    exact IntsPost.intro HS.out rfl HO.out HB.out

/-- A path that goes through a list: where its number stands. -/
def throughAt (p l : List Int) : Nat := if underB p l then l.length else p.length
theorem pastL_step (p l : List Int) (F : Int → Int) : pastL p l F = stepAt p (throughAt p l) F := by
  unfold pastL throughAt
  split
  · rfl
  · simp [stepAt]

def ThroughPost (A : Option Addr) (n c i : Nat) (w : World) (e : Ending) (w' : World) : Prop := e = .returned (.agg #[.slice A n c, .int .i64 i]) ∧ Below w.heap.size w w'
theorem ThroughPost.intro {A : Option Addr} {n c i j : Nat} {w w' : World} (h : i = j) (hb : Below w.heap.size w w') : ThroughPost A n c i w (.returned (.agg #[.slice A n c, .int .i64 j])) w' := ⟨by rw [h], hb⟩
theorem below_drews {B : Nat} {a w : World} (h : Below B a w) (q : Nat) : Below B a (w.drewN q) := ⟨h.os, h.tape, h.output, h.size, h.block⟩
theorem Pays.later {w w' : World} {f : FuncId} {caps : Array Value} {z y : Int} (h : Pays w f caps z y) (hb : Below w.heap.size w w') : Pays w' f caps z y := fun w1 hb1 => h w1 (hb.trans (hb1.mono hb.size))
set_option maxHeartbeats 400000 in
theorem p_through (xs ys : List Int) (A B : Option Addr) (n c m d : Nat) (w : World) (hx : IntsAt w xs A n c) (hy : IntsAt w ys B m d) :
    Calls Tryz.prog 73 #[.slice A n c, .slice B m d] w (ThroughPost A n c (throughAt xs ys) w) := by
  have HX := Lib.hid hx
  have HY := Lib.hid hy
  have HL : Hid (throughAt xs ys = if underB xs ys then m else n) := by show _ = _; unfold throughAt; rw [← hx.1, ← hy.1]
  clear hx hy
  cases hu : underB xs ys with
  | true =>
    have HU := Lib.hid hu
    clear hu
    go_enter Tryz.func73, Tryz.ntmps73
    go_wp2_with fail
    refine (p_under xs ys _ _ _ _ _ _ _ (HX.out.below ((Below.refl _ _).alloc (Nat.le_refl _) _)) (HY.out.below ((Below.refl _ _).alloc (Nat.le_refl _) _))).mono ?_
    rintro e w1 ⟨rfl, q, rfl⟩
    rw [HU.out]
    go_wp2
    refine bodyPost_ret (v := .agg #[.slice A n c, .int .i64 m]) (by simp [results, Tryz.results73, go_sem]) rfl (ThroughPost.intro (by rw [HL.out, HU.out]; rfl) ?_)
    exact ((below_drews ((Below.refl _ _).alloc (Nat.le_refl _) _) q).setCell (Nat.le_refl _) _).setCell (Nat.le_refl _) _
  | false =>
    have HU := Lib.hid hu
    clear hu
    go_enter Tryz.func73, Tryz.ntmps73
    go_wp2_with fail
    refine (p_under xs ys _ _ _ _ _ _ _ (HX.out.below ((Below.refl _ _).alloc (Nat.le_refl _) _)) (HY.out.below ((Below.refl _ _).alloc (Nat.le_refl _) _))).mono ?_
    rintro e w1 ⟨rfl, q, rfl⟩
    rw [HU.out]
    go_wp2
    refine bodyPost_ret (v := .agg #[.slice A n c, .int .i64 n]) (by simp [results, Tryz.results73, go_sem]) rfl (ThroughPost.intro (by rw [HL.out, HU.out]; rfl) ?_)
    exact ((below_drews ((Below.refl _ _).alloc (Nat.le_refl _) _) q).setCell (Nat.le_refl _) _).setCell (Nat.le_refl _) _

set_option maxHeartbeats 400000 in
theorem p_past (zs : List Int) (A : Option Addr) (n c at_ : Nat) (f : FuncId) (caps : Array Value) (F : Int → Int) (w : World) (h : IntsAt w zs A n c) (hn : n ≤ 17592186044416) (ha : at_ ≤ 17592186044416)
    (hcf : ∀ (args : Array Value) (w : World), (callFunc f args).run Tryz.prog w = .ok (.enter f args) w) (hF : ∀ z, zs[at_]? = some z → Pays w f caps z (F z)) :
    Calls Tryz.prog 74 #[.agg #[.slice A n c, .int .i64 at_], .func (.func f) #[] caps] w (IntsPost (stepAt zs at_ F) w) := by
  have hb0 : Below w.heap.size w (w.alloc (.cells #[.slice A n c, .int .i64 at_] 97)) := (Below.refl _ _).alloc (Nat.le_refl _) _
  have H := Lib.hid (h.below hb0)
  have HF : Hid (∀ z, zs[at_]? = some z → Pays (w.alloc (.cells #[.slice A n c, .int .i64 at_] 97)) f caps z (F z)) := fun z hz => (hF z hz).later hb0
  have HB0 := Lib.hid hb0
  clear h hF hb0
  go_enter Tryz.func74, Tryz.ntmps74
  go_wp2_with fail
  refine (p_step zs A n c at_ f caps F _ H.out hn ha hcf HF.out).mono ?_
  rintro e w1 hp
  obtain ⟨A1, c1, rfl, ho, hb⟩ := hp
  have HO := Lib.hid ho
  have HB := Lib.hid hb
  clear ho hb
  go_wp2
  go_ret
  exact IntsPost.intro rfl rfl (own_mono HO.out (by simp)) (HB0.out.trans (HB.out.mono (by simp)))

/-! The three function values. -/
theorem enter_up (args : Array Value) (w : World) : (callFunc 100 args).run Tryz.prog w = .ok (.enter 100 args) w := run_enter Tryz.func100 (by kernel_rfl) (by kernel_rfl) args w
theorem enter_down (args : Array Value) (w : World) : (callFunc 101 args).run Tryz.prog w = .ok (.enter 101 args) w := run_enter Tryz.func101 (by kernel_rfl) (by kernel_rfl) args w
theorem enter_moved (args : Array Value) (w : World) : (callFunc 77 args).run Tryz.prog w = .ok (.enter 77 args) w := run_enter Tryz.func77 (by kernel_rfl) (by kernel_rfl) args w

def IntP (x : Int) (w : World) (e : Ending) (w' : World) : Prop := e = .returned (.int .i64 x) ∧ Below w.heap.size w w'
theorem IntP.intro {x y : Int} {w w' : World} (h : x = y) (hb : Below w.heap.size w w') : IntP x w (.returned (.int .i64 y)) w' := ⟨by rw [h], hb⟩
set_option maxHeartbeats 400000 in
theorem p_up1 (z i : Int) (b : Nat) (w : World) (hc : w.cell? ⟨b, 0, none⟩ = some (.int .i64 i)) (h1 : -1 ≤ z) (h2 : z ≤ 2147483648) : Calls Tryz.prog 100 #[.int .i64 z, .pointer (some ⟨b, 0, none⟩)] w fun e w' => e = .returned (.int .i64 (upF i z)) ∧ w = w' := by
  by_cases h : i ≤ z
  · have HU : Hid (upF i z = z + 1) := if_pos h
    go_enter Tryz.func100, Tryz.ntmps100
    go_wp2
    go_ret
    exact ⟨ret_int HU.out.symm, rfl⟩
  · have HU : Hid (upF i z = z) := if_neg h
    go_enter Tryz.func100, Tryz.ntmps100
    go_wp2
    go_ret
    exact ⟨ret_int HU.out.symm, rfl⟩
set_option maxHeartbeats 400000 in
theorem p_down1 (z i : Int) (b : Nat) (w : World) (hc : w.cell? ⟨b, 0, none⟩ = some (.int .i64 i)) (h1 : 0 ≤ z) (h2 : z ≤ 2147483648) : Calls Tryz.prog 101 #[.int .i64 z, .pointer (some ⟨b, 0, none⟩)] w fun e w' => e = .returned (.int .i64 (downF i z)) ∧ w = w' := by
  by_cases h : i < z
  · have HU : Hid (downF i z = z - 1) := if_pos h
    go_enter Tryz.func101, Tryz.ntmps101
    go_wp2
    go_ret
    exact ⟨ret_int HU.out.symm, rfl⟩
  · have HU : Hid (downF i z = z) := if_neg h
    go_enter Tryz.func101, Tryz.ntmps101
    go_wp2
    go_ret
    exact ⟨ret_int HU.out.symm, rfl⟩

/-- What up and down hand back: a function value that has its number in a block of its own. -/
def FnPost (f : FuncId) (i : Int) (w : World) (e : Ending) (w' : World) : Prop := e = .returned (.func (.func f) #[] #[.pointer (some ⟨w.heap.size, 0, none⟩)]) ∧ w' = w.alloc (.cells #[.int .i64 i] 3)
set_option maxHeartbeats 400000 in
theorem p_up (i : Int) (w : World) : Calls Tryz.prog 75 #[.int .i64 i] w (FnPost 100 i w) := by
  have hmf := run_makeFunc
  go_enter Tryz.func75, Tryz.ntmps75
  go_wp2
  go_ret
  exact ⟨rfl, rfl⟩
set_option maxHeartbeats 400000 in
theorem p_down (i : Int) (w : World) : Calls Tryz.prog 76 #[.int .i64 i] w (FnPost 101 i w) := by
  have hmf := run_makeFunc
  go_enter Tryz.func76, Tryz.ntmps76
  go_wp2
  go_ret
  exact ⟨rfl, rfl⟩
end Go.Proofs.YtmikjhohnfcedaaGreatDoor

namespace Go.Proofs.YtmikjhohnfcedaaGreatDoor
set_option linter.unusedSimpArgs false
set_option linter.unusedVariables false
open Go.RowKit

/-- A slice value that reads as a list of kinds. -/
def KindsAt (w : World) (zs : List Nat) (A : Option Addr) (n c : Nat) : Prop :=
  n = zs.length ∧ n ≤ c ∧ c ≤ maxLen ∧ (zs = [] ∨ ∃ b o : Nat, A = some ⟨b, o, none⟩ ∧ ∀ (j z : Nat), zs[j]? = some z → w.cell? ⟨b, o + j, none⟩ = some (.int .u8 (z : Int)))
theorem KindsAt.keep {w w' : World} (hb : ∀ a v, w.cell? a = some v → w'.cell? a = some v) {zs : List Nat} {A : Option Addr} {n c : Nat} (h : KindsAt w zs A n c) : KindsAt w' zs A n c := by
  obtain ⟨h1, h2, h3, h4⟩ := h
  refine ⟨h1, h2, h3, ?_⟩
  rcases h4 with e | ⟨b, o, e, hr⟩
  · exact .inl e
  · exact .inr ⟨b, o, e, fun j z hz => hb _ _ (hr j z hz)⟩
theorem KindsAt.below {w w' : World} (hb : Below w.heap.size w w') {zs : List Nat} {A : Option Addr} {n c : Nat} (h : KindsAt w zs A n c) : KindsAt w' zs A n c := h.keep fun _ _ => cell_below hb
theorem KindsAt.get {w : World} {zs : List Nat} {A : Option Addr} {n c : Nat} (h : KindsAt w zs A n c) {i : Nat} (hi : i < n) : ∃ (b o z : Nat), A = some ⟨b, o, none⟩ ∧ zs[i]? = some z ∧ w.cell? ⟨b, o + i, none⟩ = some (.int .u8 z) := by
  obtain ⟨hn, _, _, h⟩ := h
  rcases h with rfl | ⟨b, o, e, hr⟩
  · simp at hn; omega
  · have : zs[i]? = some (zs[i]'(by omega)) := List.getElem?_eq_getElem (by omega)
    exact ⟨b, o, _, e, this, hr i _ this⟩
theorem KindsAt.nil (w : World) (A : Option Addr) {c : Nat} (h : c ≤ maxLen) : KindsAt w [] A 0 c := ⟨rfl, Nat.zero_le _, h, .inl rfl⟩
/-- The kinds that some cells hold. -/
def unU8 (cs : Array Value) : List Nat := cs.toList.map fun v => match v with | .int _ n => n.toNat | _ => 0
theorem KindsAt.new (w : World) (cs : Array Value) (T : TypeId) (hu : cs = ((unU8 cs).map fun (k : Nat) => Value.int .u8 k).toArray) (hm : cs.size ≤ maxLen) : KindsAt (w.alloc (.cells cs T)) (unU8 cs) (some ⟨w.heap.size, 0, none⟩) cs.size cs.size := by
  refine ⟨by simp [unU8], Nat.le_refl _, hm, .inr ⟨_, _, rfl, fun j z hz => ?_⟩⟩
  rw [show 0 + j = j from Nat.zero_add j, World.cell?_alloc_new]
  have e : cs[j]? = (((unU8 cs).map fun (k : Nat) => Value.int .u8 k).toArray)[j]? := by rw [← hu]
  rw [e]
  simp [hz]

/-- A row's value. -/
def RowIs (w : World) (v : Value) (r : List Nat × Bool) : Prop := ∃ A n c, v = .agg #[.slice A n c, .bool r.2] ∧ KindsAt w r.1 A n c
theorem RowIs.below {w w' : World} (hb : Below w.heap.size w w') {v : Value} {r : List Nat × Bool} (h : RowIs w v r) : RowIs w' v r := by
  obtain ⟨A, n, c, e, hk⟩ := h
  exact ⟨A, n, c, e, hk.below hb⟩
def RowPostOf (r : List Nat × Bool) (w : World) (e : Ending) (w' : World) : Prop := ∃ v, e = .returned v ∧ RowIs w' v r ∧ Below w.heap.size w w'

set_option maxHeartbeats 400000 in
theorem p_one (ks : List Nat) (A : Option Addr) (n c : Nat) (w : World) (h : KindsAt w ks A n c) : Calls Tryz.prog 104 #[.slice A n c] w (RowPostOf (ks, false) w) := by
  have H := Lib.hid h
  clear h
  go_enter Tryz.func104, Tryz.ntmps104
  go_wp2
  have hb : Below w.heap.size w (w.alloc (.cells #[.slice A n c, .bool false] 106)) := (Below.refl _ _).alloc (Nat.le_refl _) _
  exact bodyPost_ret (v := .agg #[.slice A n c, .bool false]) (by simp [results, Tryz.results104, go_sem]) rfl ⟨_, rfl, ⟨A, n, c, rfl, H.out.below hb⟩, hb⟩
set_option maxHeartbeats 400000 in
theorem p_many (z : Int) (w : World) (hz : 0 ≤ z) : Calls Tryz.prog 105 #[.int .u8 z] w (RowPostOf ([z.toNat], true) w) := by
  go_enter Tryz.func105, Tryz.ntmps105
  go_wp2
  have hb : Below w.heap.size w ((w.alloc (.cells #[.slice (some ⟨w.heap.size + 1, 0, none⟩) 1 1, .bool true] 106)).alloc (.cells #[.int .u8 z] 38)) := ((Below.refl _ _).alloc (Nat.le_refl _) _).alloc (by simp) _
  have hk := KindsAt.new (w.alloc (.cells #[.slice (some ⟨w.heap.size + 1, 0, none⟩) 1 1, .bool true] 106)) #[.int .u8 z] 38 (by simp [unU8]; omega) (by unfold maxLen; simp)
  have hs : (w.alloc (.cells #[.slice (some ⟨w.heap.size + 1, 0, none⟩) 1 1, .bool true] 106)).heap.size = w.heap.size + 1 := by simp
  rw [hs] at hk
  have hk' : KindsAt ((w.alloc (.cells #[.slice (some ⟨w.heap.size + 1, 0, none⟩) 1 1, .bool true] 106)).alloc (.cells #[.int .u8 z] 38)) [z.toNat] (some ⟨w.heap.size + 1, 0, none⟩) 1 1 := hk
  exact bodyPost_ret (v := .agg #[.slice (some ⟨w.heap.size + 1, 0, none⟩) 1 1, .bool true]) (by simp [results, Tryz.results105, go_sem]) rfl ⟨_, rfl, ⟨some ⟨w.heap.size + 1, 0, none⟩, 1, 1, rfl, hk'⟩, hb⟩

/-! The map so far. -/
def RowsIn (w : World) (vs : List (Nat × Value)) (tbl : List (Nat × List Nat × Bool)) : Prop :=
  vs.map (·.1) = tbl.map (·.1) ∧ ∀ (i : Nat) (p : Nat × Value) (q : Nat × List Nat × Bool), vs[i]? = some p → tbl[i]? = some q → RowIs w p.2 q.2
structure Tab (w0 w : World) (B : Nat) (tbl : List (Nat × List Nat × Bool)) : Prop where
  map : ∃ vs, MapIs w B vs ∧ RowsIn w vs tbl
  bel : Below w0.heap.size w0 w
theorem Tab.below {w0 w w' : World} {B : Nat} {tbl : List (Nat × List Nat × Bool)} (h : Tab w0 w B tbl) (hb : Below w.heap.size w w') : Tab w0 w' B tbl := by
  obtain ⟨⟨vs, h1, h2, h3⟩, h4⟩ := h
  exact ⟨⟨vs, h1.below hb, h2, fun i p q hp hq => (h3 i p q hp hq).below hb⟩, h4.trans (hb.mono h4.size)⟩
theorem Tab.made {w0 w : World} (hb : Below w0.heap.size w0 w) : Tab w0 (w.alloc (.map #[] 0)) w.heap.size [] :=
  ⟨⟨[], MapIs.made w, rfl, fun i p q hp => by simp at hp⟩, hb.alloc hb.size _⟩
theorem rowsIn_all {w : World} {vs : List (Nat × Value)} {tbl : List (Nat × List Nat × Bool)} (h : RowsIn w vs tbl) (k : Nat) : (vs.all fun p => p.1 != k) = tbl.all fun p => p.1 != k := by
  have e : ∀ {β : Type} (l : List (Nat × β)), (l.all fun p => p.1 != k) = (l.map (·.1)).all (· != k) := by intro β l; rw [List.all_map]; rfl
  rw [e, e, h.1]
theorem RowIs.grown {w w' : World} {B : Nat} {v : Value} {r : List Nat × Bool} (h : RowIs w v r) (hg : w.grownBy w' (some B)) (hm : ∃ es c, w.heap[B]? = some (.map es c)) : RowIs w' v r := by
  obtain ⟨A, n, c, e, hk⟩ := h
  obtain ⟨es, cl, hB⟩ := hm
  refine ⟨A, n, c, e, hk.keep fun a u ha => ?_⟩
  refine hg.cell ha ?_
  intro e
  injection e with e
  simp [World.cell?, e, hB] at ha

theorem ins_run {w0 w : World} {B : Nat} {tbl : List (Nat × List Nat × Bool)} {val : Value} {r : List Nat × Bool} (hT : Hid (Tab w0 w B tbl)) (hV : RowIs w val r) (hB : w0.heap.size ≤ B) (z : Int) (hz : 0 ≤ z) (hn : (tbl.all fun p => p.1 != z.toNat) = true) :
    ∃ w', (Instr.mapUpdate 136 (.map (some B)) (.int .u8 z) val).run Tryz.prog w = .ok () w' ∧ Hid (Tab w0 w' B (tbl ++ [(z.toNat, r)])) := by
  obtain ⟨⟨vs, h1, h2⟩, h4⟩ := hT.out
  have hz' : ((z.toNat : Nat) : Int) = z := Int.toNat_of_nonneg hz
  have h1m : ∃ es c, w.heap[B]? = some (.map es c) := by obtain ⟨es, c, e, _⟩ := h1; exact ⟨es, c, e⟩
  obtain ⟨w', hrun, hm', hg'⟩ := h1.insert Tryz.underlying136 Tryz.underlying38 (k := z.toNat) val (by rw [rowsIn_all h2]; exact hn)
  rw [hz'] at hrun
  refine ⟨w', hrun, ⟨⟨_, hm', ?_, ?_⟩, h4.grown hg' h4.size (fun k hk => by injection hk with hk; omega)⟩⟩
  · rw [List.map_append, List.map_append, h2.1]; rfl
  · intro i p q hp hq
    have hl : vs.length = tbl.length := by have := congrArg List.length h2.1; simpa using this
    by_cases hi : i < vs.length
    · rw [List.getElem?_append_left hi] at hp
      rw [List.getElem?_append_left (by omega)] at hq
      exact (h2.2 i p q hp hq).grown hg' h1m
    · have hi0 : i = vs.length := by
        have := (List.getElem?_eq_some_iff.1 hp).1
        simp at this; omega
      subst hi0
      rw [List.getElem?_append_right (Nat.le_refl _)] at hp
      rw [hl, List.getElem?_append_right (Nat.le_refl _)] at hq
      simp at hp hq
      subst hp hq
      exact hV.grown hg' h1m

theorem lookup_rows {w : World} : ∀ {vs : List (Nat × Value)} {tbl : List (Nat × List Nat × Bool)}, RowsIn w vs tbl → ∀ k, (vs.lookup k = none ∧ tbl.lookup k = none) ∨ ∃ v r, vs.lookup k = some v ∧ tbl.lookup k = some r ∧ RowIs w v r
  | [], [], _, k => .inl ⟨rfl, rfl⟩
  | [], _ :: _, h, _ => by have := h.1; simp at this
  | _ :: _, [], h, _ => by have := h.1; simp at this
  | p :: vs, q :: tbl, h, k => by
    obtain ⟨h1, h2⟩ := h
    simp only [List.map_cons, List.cons.injEq] at h1
    by_cases hk : k = p.1
    · have hq : k = q.1 := by rw [hk, h1.1]
      right
      refine ⟨p.2, q.2, ?_, ?_, h2 0 p q rfl rfl⟩
      · simp [List.lookup, hk]
      · simp [List.lookup, hq]
    · have hq : ¬ k = q.1 := by rw [← h1.1]; exact hk
      have look_ne : ∀ {β : Type} (a : Nat × β) (l : List (Nat × β)), ¬ k = a.1 → (a :: l).lookup k = l.lookup k := by
        intro β a l hne
        obtain ⟨a, b⟩ := a
        have : (k == a) = false := by simpa using hne
        simp [List.lookup, this]
      have e1 := look_ne p vs hk
      have e2 := look_ne q tbl hq
      rw [e1, e2]
      exact lookup_rows ⟨h1.2, fun i p' q' hp hq => h2 (i + 1) p' q' (by simpa using hp) (by simpa using hq)⟩ k
def rowTbl : List (Nat × List Nat × Bool) := [(1, [2], true), (2, [3, 5], false), (3, [4], true), (4, [], false), (5, [201], true), (6, [200], false), (7, [202, 200], false), (8, [200, 5, 5], false), (9, [200, 5], false), (10, [200], false), (11, [200], false), (12, [25], false),
  (20, [], false), (21, [], false), (22, [], false), (23, [200], false), (24, [200, 200], false), (25, [200], true), (26, [200, 200], false), (27, [200, 200], false), (28, [200], false), (29, [], false)]
theorem rowTbl_small : ∀ k : Fin 30, rowTbl.lookup k.val = rowsOf k.val := by decide
theorem rowTbl_is (k : Nat) : rowTbl.lookup k = rowsOf k := by
  by_cases h : k < 30
  · exact rowTbl_small ⟨k, h⟩
  · obtain ⟨n, rfl⟩ : ∃ n, k = n + 30 := ⟨k - 30, by omega⟩
    have e : ∀ m, m < 30 → (n + 30 == m) = false := by intro m hm; simp; omega
    have h1 : rowsOf (n + 30) = none := rfl
    rw [h1]
    simp [rowTbl, List.lookup, e]
/-- What rows tells. -/
def RowsPost (k : Nat) (w : World) (e : Ending) (w' : World) : Prop :=
  Below w.heap.size w w' ∧ match rowsOf k with
    | some r => ∃ v, e = .returned (.tuple #[v, .bool true]) ∧ RowIs w' v r
    | none => e = .returned (.tuple #[.agg #[.slice none 0 0, .bool false], .bool false])

theorem RowsPost.no {k : Nat} {w w' : World} (h : rowsOf k = none) (hb : Below w.heap.size w w') : RowsPost k w (.returned (.tuple #[.agg #[.slice none 0 0, .bool false], .bool false])) w' := by
  refine ⟨hb, ?_⟩
  rw [h]
theorem RowsPost.yes {k : Nat} {w w' : World} {v : Value} {r : List Nat × Bool} (h : rowsOf k = some r) (hr : RowIs w' v r) (hb : Below w.heap.size w w') : RowsPost k w (.returned (.tuple #[v, .bool true])) w' := by
  refine ⟨hb, ?_⟩
  rw [h]
  exact ⟨v, rfl, hr⟩
/-- A block of two cells behind two stores and a new block. -/
theorem after2 {w : World} {b : Nat} {x y u v : Value} {T : TypeId} {o : Obj} (h : w.heap[b]? = some (.cells #[x, y] T (0, 0))) : (((w.setCell ⟨b, 0, none⟩ u).setCell ⟨b, 1, none⟩ v).alloc o).cell? ⟨b, 0, none⟩ = some u ∧ (((w.setCell ⟨b, 0, none⟩ u).setCell ⟨b, 1, none⟩ v).alloc o).cell? ⟨b, 1, none⟩ = some v := by
  have hlt : b < w.heap.size := (Array.getElem?_eq_some_iff.1 h).1
  have h2 : (((w.setCell ⟨b, 0, none⟩ u).setCell ⟨b, 1, none⟩ v).alloc o).heap[b]? = some (.cells #[u, v] T (0, 0)) := by
    rw [Below.heap_alloc _ _ _ (by simpa using hlt)]
    simp [World.setCell, Array.getElem?_modify, h]
  exact ⟨(cell_of_row _ b 0 _ _ (0, 0) h2).trans rfl, (cell_of_row _ b 1 _ _ (0, 0) h2).trans rfl⟩

/-- Kinds stay while a block of another type is written. -/
theorem KindsAt.keepBlock {w w' : World} {zs : List Nat} {A : Option Addr} {n c b : Nat} {x y : Value} {T : TypeId} (h : KindsAt w zs A n c) (hb : w.heap[b]? = some (.cells #[x, y] T (0, 0))) (hk : ∀ i, i < w.heap.size → i ≠ b → w'.heap[i]? = w.heap[i]?)
    (hx : ∀ z : Nat, x ≠ .int .u8 z := by intros; simp) (hy : ∀ z : Nat, y ≠ .int .u8 z := by intros; simp) : KindsAt w' zs A n c := by
  obtain ⟨h1, h2, h3, h4⟩ := h
  refine ⟨h1, h2, h3, ?_⟩
  rcases h4 with e | ⟨g, o, e, hr⟩
  · exact .inl e
  · refine .inr ⟨g, o, e, fun j z hz => ?_⟩
    have hc := hr j z hz
    have hlt := cell_lt hc
    by_cases hg : g = b
    · exfalso
      subst hg
      have := (cell_of_row w g (o + j) _ _ (0, 0) hb).symm.trans hc
      match o + j, this with
      | 0, this => simp at this; exact hx z this
      | 1, this => simp at this; exact hy z this
      | _ + 2, this => simp at this
    · rw [World.cell?_of_block (w := w) (hk g hlt hg)]; exact hc

theorem RowIs.slot {w : World} {v : Value} {r : List Nat × Bool} (h : RowIs w v r) : ∃ A n c, v = .agg #[.slice A n c, .bool r.2] ∧ KindsAt w r.1 A n c := h

theorem one_new (w : World) (cs : Array Value) (n c : Nat) (hu : cs = ((unU8 cs).map fun (k : Nat) => Value.int .u8 k).toArray) (hm : cs.size ≤ maxLen) (hn : n = cs.size) (hc : c = cs.size) :
    Calls Tryz.prog 104 #[.slice (some ⟨w.heap.size, 0, none⟩) n c] (w.alloc (.cells cs 38)) fun e w' => ∃ v, e = .returned v ∧ RowIs w' v (unU8 cs, false) ∧ Below w.heap.size w w' := by
  subst hn hc
  refine (p_one (unU8 cs) _ _ _ _ (KindsAt.new w cs _ hu hm)).mono ?_
  rintro e w' ⟨v, rfl, hr, hb⟩
  exact ⟨v, rfl, hr, ((Below.refl _ _).alloc (Nat.le_refl _) _).trans (hb.mono (by simp))⟩
theorem one_nil (w : World) :
    Calls Tryz.prog 104 #[.slice none 0 0] w fun e w' => ∃ v, e = .returned v ∧ RowIs w' v ([], false) ∧ Below w.heap.size w w' := by
  refine (p_one [] _ _ _ _ (KindsAt.nil w none (by omega))).mono ?_
  rintro e w' ⟨v, rfl, hr, hb⟩
  exact ⟨v, rfl, hr, hb⟩

set_option maxRecDepth 100000 in
set_option maxHeartbeats 4000000 in
theorem p_rows (k : Nat) (w : World) : Calls Tryz.prog 81 #[.int .u8 k] w (RowsPost k w) := by
  have HT := Lib.hid (Tab.made (Below.refl (w.alloc (.cells #[.slice none 0 0, .bool false] 106)).heap.size (w.alloc (.cells #[.slice none 0 0, .bool false] 106))))
  have hsz : (w.alloc (.cells #[.slice none 0 0, .bool false] 106)).heap.size = w.heap.size + 1 := by simp
  rw [hsz] at HT
  clear hsz
  have hmm := @run_makeMap Tryz.prog
  go_enter Tryz.func81, Tryz.ntmps81
  go_wp2_with fail
  refine (p_many _ _ (by decide)).mono ?_
  rintro e w1 ⟨v1, rfl, hr, hb⟩
  obtain ⟨w2, hrun, HT2⟩ := ins_run (Lib.hid (HT.out.below hb)) hr (by simp) 1 (by decide) (by decide)
  clear HT hr hb
  rename Hid _ => HT
  go_wp2_with fail
  refine (one_new _ _ _ _ (by rfl) (by decide) (by decide) (by decide)).mono ?_
  rintro e w1 ⟨v1, rfl, hr, hb⟩
  obtain ⟨w2, hrun, HT2⟩ := ins_run (Lib.hid (HT.out.below hb)) hr (by simp) 2 (by decide) (by decide)
  clear HT hr hb
  rename Hid _ => HT
  go_wp2_with fail
  refine (p_many _ _ (by decide)).mono ?_
  rintro e w1 ⟨v1, rfl, hr, hb⟩
  obtain ⟨w2, hrun, HT2⟩ := ins_run (Lib.hid (HT.out.below hb)) hr (by simp) 3 (by decide) (by decide)
  clear HT hr hb
  rename Hid _ => HT
  go_wp2_with fail
  refine (one_nil _).mono ?_
  rintro e w1 ⟨v1, rfl, hr, hb⟩
  obtain ⟨w2, hrun, HT2⟩ := ins_run (Lib.hid (HT.out.below hb)) hr (by simp) 4 (by decide) (by decide)
  clear HT hr hb
  rename Hid _ => HT
  go_wp2_with fail
  refine (p_many _ _ (by decide)).mono ?_
  rintro e w1 ⟨v1, rfl, hr, hb⟩
  obtain ⟨w2, hrun, HT2⟩ := ins_run (Lib.hid (HT.out.below hb)) hr (by simp) 5 (by decide) (by decide)
  clear HT hr hb
  rename Hid _ => HT
  go_wp2_with fail
  refine (one_new _ _ _ _ (by rfl) (by decide) (by decide) (by decide)).mono ?_
  rintro e w1 ⟨v1, rfl, hr, hb⟩
  obtain ⟨w2, hrun, HT2⟩ := ins_run (Lib.hid (HT.out.below hb)) hr (by simp) 6 (by decide) (by decide)
  clear HT hr hb
  rename Hid _ => HT
  go_wp2_with fail
  refine (one_new _ _ _ _ (by rfl) (by decide) (by decide) (by decide)).mono ?_
  rintro e w1 ⟨v1, rfl, hr, hb⟩
  obtain ⟨w2, hrun, HT2⟩ := ins_run (Lib.hid (HT.out.below hb)) hr (by simp) 7 (by decide) (by decide)
  clear HT hr hb
  rename Hid _ => HT
  go_wp2_with fail
  refine (one_new _ _ _ _ (by rfl) (by decide) (by decide) (by decide)).mono ?_
  rintro e w1 ⟨v1, rfl, hr, hb⟩
  obtain ⟨w2, hrun, HT2⟩ := ins_run (Lib.hid (HT.out.below hb)) hr (by simp) 8 (by decide) (by decide)
  clear HT hr hb
  rename Hid _ => HT
  go_wp2_with fail
  refine (one_new _ _ _ _ (by rfl) (by decide) (by decide) (by decide)).mono ?_
  rintro e w1 ⟨v1, rfl, hr, hb⟩
  obtain ⟨w2, hrun, HT2⟩ := ins_run (Lib.hid (HT.out.below hb)) hr (by simp) 9 (by decide) (by decide)
  clear HT hr hb
  rename Hid _ => HT
  go_wp2_with fail
  refine (one_new _ _ _ _ (by rfl) (by decide) (by decide) (by decide)).mono ?_
  rintro e w1 ⟨v1, rfl, hr, hb⟩
  obtain ⟨w2, hrun, HT2⟩ := ins_run (Lib.hid (HT.out.below hb)) hr (by simp) 10 (by decide) (by decide)
  clear HT hr hb
  rename Hid _ => HT
  go_wp2_with fail
  refine (one_new _ _ _ _ (by rfl) (by decide) (by decide) (by decide)).mono ?_
  rintro e w1 ⟨v1, rfl, hr, hb⟩
  obtain ⟨w2, hrun, HT2⟩ := ins_run (Lib.hid (HT.out.below hb)) hr (by simp) 11 (by decide) (by decide)
  clear HT hr hb
  rename Hid _ => HT
  go_wp2_with fail
  refine (one_new _ _ _ _ (by rfl) (by decide) (by decide) (by decide)).mono ?_
  rintro e w1 ⟨v1, rfl, hr, hb⟩
  obtain ⟨w2, hrun, HT2⟩ := ins_run (Lib.hid (HT.out.below hb)) hr (by simp) 12 (by decide) (by decide)
  clear HT hr hb
  rename Hid _ => HT
  go_wp2_with fail
  refine (one_nil _).mono ?_
  rintro e w1 ⟨v1, rfl, hr, hb⟩
  obtain ⟨w2, hrun, HT2⟩ := ins_run (Lib.hid (HT.out.below hb)) hr (by simp) 20 (by decide) (by decide)
  clear HT hr hb
  rename Hid _ => HT
  go_wp2_with fail
  refine (one_nil _).mono ?_
  rintro e w1 ⟨v1, rfl, hr, hb⟩
  obtain ⟨w2, hrun, HT2⟩ := ins_run (Lib.hid (HT.out.below hb)) hr (by simp) 21 (by decide) (by decide)
  clear HT hr hb
  rename Hid _ => HT
  go_wp2_with fail
  refine (one_nil _).mono ?_
  rintro e w1 ⟨v1, rfl, hr, hb⟩
  obtain ⟨w2, hrun, HT2⟩ := ins_run (Lib.hid (HT.out.below hb)) hr (by simp) 22 (by decide) (by decide)
  clear HT hr hb
  rename Hid _ => HT
  go_wp2_with fail
  refine (one_new _ _ _ _ (by rfl) (by decide) (by decide) (by decide)).mono ?_
  rintro e w1 ⟨v1, rfl, hr, hb⟩
  obtain ⟨w2, hrun, HT2⟩ := ins_run (Lib.hid (HT.out.below hb)) hr (by simp) 23 (by decide) (by decide)
  clear HT hr hb
  rename Hid _ => HT
  go_wp2_with fail
  refine (one_new _ _ _ _ (by rfl) (by decide) (by decide) (by decide)).mono ?_
  rintro e w1 ⟨v1, rfl, hr, hb⟩
  obtain ⟨w2, hrun, HT2⟩ := ins_run (Lib.hid (HT.out.below hb)) hr (by simp) 24 (by decide) (by decide)
  clear HT hr hb
  rename Hid _ => HT
  go_wp2_with fail
  refine (p_many _ _ (by decide)).mono ?_
  rintro e w1 ⟨v1, rfl, hr, hb⟩
  obtain ⟨w2, hrun, HT2⟩ := ins_run (Lib.hid (HT.out.below hb)) hr (by simp) 25 (by decide) (by decide)
  clear HT hr hb
  rename Hid _ => HT
  go_wp2_with fail
  refine (one_new _ _ _ _ (by rfl) (by decide) (by decide) (by decide)).mono ?_
  rintro e w1 ⟨v1, rfl, hr, hb⟩
  obtain ⟨w2, hrun, HT2⟩ := ins_run (Lib.hid (HT.out.below hb)) hr (by simp) 26 (by decide) (by decide)
  clear HT hr hb
  rename Hid _ => HT
  go_wp2_with fail
  refine (one_new _ _ _ _ (by rfl) (by decide) (by decide) (by decide)).mono ?_
  rintro e w1 ⟨v1, rfl, hr, hb⟩
  obtain ⟨w2, hrun, HT2⟩ := ins_run (Lib.hid (HT.out.below hb)) hr (by simp) 27 (by decide) (by decide)
  clear HT hr hb
  rename Hid _ => HT
  go_wp2_with fail
  refine (one_new _ _ _ _ (by rfl) (by decide) (by decide) (by decide)).mono ?_
  rintro e w1 ⟨v1, rfl, hr, hb⟩
  obtain ⟨w2, hrun, HT2⟩ := ins_run (Lib.hid (HT.out.below hb)) hr (by simp) 28 (by decide) (by decide)
  clear HT hr hb
  rename Hid _ => HT
  go_wp2_with fail
  refine (one_nil _).mono ?_
  rintro e w1 ⟨v1, rfl, hr, hb⟩
  obtain ⟨w2, hrun, HT2⟩ := ins_run (Lib.hid (HT.out.below hb)) hr (by simp) 29 (by decide) (by decide)
  clear HT hr hb
  rename Hid _ => HT
  have HT' : Hid (Tab (w.alloc (.cells #[.slice none 0 0, .bool false] 106)) w2 (w.heap.size + 1) rowTbl) := HT
  clear HT
  obtain ⟨⟨vs, hm, hr⟩, hbel⟩ := HT'.out
  have hz : ∀ w, (zeroValue 106).run Tryz.prog w = .ok (.agg #[.slice none 0 0, .bool false]) w := fun _ => by kernel_rfl
  have hlook := hm.look Tryz.underlying136 Tryz.underlying38 k (hz w2) true
  have hsz : (w.alloc (.cells #[.slice none 0 0, .bool false] 106)).heap.size = w.heap.size + 1 := by simp
  have HB : Hid (Below w.heap.size w w2) := ((Below.refl _ _).alloc (Nat.le_refl _) _).trans (hbel.mono (by omega))
  have hlt : w.heap.size < w2.heap.size := by have := hbel.size; omega
  have hblk : w2.heap[w.heap.size]? = some (.cells #[.slice none 0 0, .bool false] 106 (0, 0)) := (hbel.block w.heap.size (by omega)).trans (heap_alloc_new w _)
  have hc0 := (cell_of_row w2 w.heap.size 0 _ _ (0, 0) hblk).trans (show _ = some (Value.slice none 0 0) from rfl)
  have hc1 := (cell_of_row w2 w.heap.size 1 _ _ (0, 0) hblk).trans (show _ = some (Value.bool false) from rfl)
  have hf0 : w2.frozen? ⟨w.heap.size, 0, none⟩ = false := by simp [World.frozen?, hblk]
  have hf1 : w2.frozen? ⟨w.heap.size, 1, none⟩ = false := by simp [World.frozen?, hblk]
  have HBK := Lib.hid hblk
  clear hsz hblk
  have HR := Lib.hid (rowTbl_is k)
  rcases lookup_rows hr k with ⟨h1, h2⟩ | ⟨v, r, h1, h2, A, n, c, rfl, hk⟩
  · rw [h1] at hlook
    have HN : Hid (rowsOf k = none) := by show _ = _; rw [← HR.out]; exact h2
    simp only [if_true, Option.getD_none, Option.isSome_none] at hlook
    clear HT' hm hr hbel hz h1 h2 HR
    go_wp2_with fail
    refine bodyPost_ret (v := .tuple #[.agg #[.slice none 0 0, .bool false], .bool false]) ?_ rfl ?_
    · obtain ⟨a0, a1⟩ := after2 (u := .slice none 0 0) (v := .bool false) (o := .cells #[.slice none 0 0, .bool false] 106) HBK.out
      simp [results, Tryz.results81, go_sem, a0, a1]
    · exact RowsPost.no HN.out (((HB.out.setCell (Nat.le_refl _) _).setCell (Nat.le_refl _) _).alloc (by simp; omega) _)
  · rw [h1] at hlook
    have HN : Hid (rowsOf k = some r) := by show _ = _; rw [← HR.out]; exact h2
    simp only [if_true, Option.getD_some, Option.isSome_some] at hlook
    have HK := Lib.hid hk
    clear HT' hm hr hbel hz h1 h2 HR hk
    go_wp2_with fail
    refine bodyPost_ret (v := .tuple #[.agg #[.slice A n c, .bool r.2], .bool true]) ?_ rfl ?_
    · obtain ⟨a0, a1⟩ := after2 (u := .slice A n c) (v := .bool r.2) (o := .cells #[.slice A n c, .bool r.2] 106) HBK.out
      simp [results, Tryz.results81, go_sem, a0, a1]
    · refine RowsPost.yes HN.out ⟨A, n, c, rfl, HK.out.keepBlock (b := w.heap.size) HBK.out ?_⟩ (((HB.out.setCell (Nat.le_refl _) _).setCell (Nat.le_refl _) _).alloc (by simp; omega) _)
      intro i hi hne
      rw [Below.heap_alloc _ _ _ (by simpa using hi), Below.heap_setCell _ _ _ _ hne, Below.heap_setCell _ _ _ _ hne]
end Go.Proofs.YtmikjhohnfcedaaGreatDoor
