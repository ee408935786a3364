/- Trees and edits as plain data, and what the program's packages tree, edit, place, swap compute of them. No program in sight. -/
import Derived.Test.YtjdofndkdkeapaaGreatDoorLexBase
namespace Go.Proofs.YtjdofndkdkeapaaGreatDoor

inductive Tree where
  | node (k : Nat) (s : Bytes) (x : Int) (ks : List Tree)
  deriving Repr, Inhabited

def Tree.kind : Tree → Nat | .node k _ _ _ => k
def Tree.text : Tree → Bytes | .node _ s _ _ => s
def Tree.num : Tree → Int | .node _ _ x _ => x
def Tree.kids : Tree → List Tree | .node _ _ _ ks => ks

mutual
def Tree.sz : Tree → Nat
  | .node _ _ _ ks => 1 + szL ks
def szL : List Tree → Nat
  | [] => 0
  | t :: ts => t.sz + szL ts
end

mutual
def Tree.same : Tree → Tree → Bool
  | .node k s x ks, .node k' s' x' ks' => k == k' && s == s' && x == x' && sameL ks ks'
def sameL : List Tree → List Tree → Bool
  | [], [] => true
  | t :: ts, u :: us => t.same u && sameL ts us
  | _, _ => false
end

mutual
theorem same_iff : ∀ t u : Tree, t.same u = true ↔ t = u
  | .node k s x ks, .node k' s' x' ks' => by
    simp only [Tree.same, Bool.and_eq_true, beq_iff_eq, Tree.node.injEq]
    rw [sameL_iff ks ks']
    exact ⟨fun ⟨⟨⟨a, b⟩, c⟩, d⟩ => ⟨a, b, c, d⟩, fun ⟨a, b, c, d⟩ => ⟨⟨⟨a, b⟩, c⟩, d⟩⟩
theorem sameL_iff : ∀ ts us : List Tree, sameL ts us = true ↔ ts = us
  | [], [] => by simp [sameL]
  | [], _ :: _ => by simp [sameL]
  | _ :: _, [] => by simp [sameL]
  | t :: ts, u :: us => by
    simp only [sameL, Bool.and_eq_true, List.cons.injEq]
    rw [same_iff t u, sameL_iff ts us]
end

/-! ### Layer 6 -/
def rowsOf : Nat → Option (List Nat × Bool)
  | 1 => some ([2], true)
  | 2 => some ([3, 5], false)
  | 3 => some ([4], true)
  | 4 => some ([], false)
  | 5 => some ([201], true)
  | 6 => some ([200], false)
  | 7 => some ([202, 200], false)
  | 8 => some ([200, 5, 5], false)
  | 9 => some ([200, 5], false)
  | 10 => some ([200], false)
  | 11 => some ([200], false)
  | 12 => some ([25], false)
  | 20 => some ([], false)
  | 21 => some ([], false)
  | 22 => some ([], false)
  | 23 => some ([200], false)
  | 24 => some ([200, 200], false)
  | 25 => some ([200], true)
  | 26 => some ([200, 200], false)
  | 27 => some ([200, 200], false)
  | 28 => some ([200], false)
  | 29 => some ([], false)
  | _ => none

def isB (k of : Nat) : Bool :=
  if of = 200 then decide (20 ≤ k) && decide (k ≤ 29)
  else if of = 201 then (decide (6 ≤ k) && decide (k ≤ 12)) || k == 5
  else if of = 202 then k == 22 || k == 26
  else k == of

def fitsB (parent kid at_ : Nat) : Bool :=
  match rowsOf parent with
  | none => false
  | some (l, true) => isB kid (l.headD 0)
  | some (l, false) => match l[at_]? with | some o => isB kid o | none => false

def namedB (k : Nat) : Bool := k == 2 || k == 4 || k == 6 || k == 22 || k == 25

def unaryL : List Bytes := [[45], [33]]
def binaryL : List Bytes := [[124, 124], [38, 38], [61, 61], [33, 61], [60], [60, 61], [62], [62, 61], [43], [45], [42], [47], [37]]
def saysB (k : Nat) (s : Bytes) (x : Int) : Bool :=
  if k = 20 then s == [] && decide (0 ≤ x)
  else if k = 21 then s == [] && (x == 0 || x == 1)
  else if x != 0 then false
  else if namedB k then isName s
  else if k = 23 then unaryL.contains s
  else if k = 24 then binaryL.contains s
  else s == []

mutual
def rightT : Nat → Tree → Bool
  | deep, .node k s x ks =>
    match rowsOf k with
    | none => false
    | some (l, all) =>
      decide (deep ≤ 40) && saysB k s x && (all || ks.length == l.length) && rightL k 0 (deep + 1) ks &&
        (k != 7 || match ks with | .node 22 _ _ _ :: _ => true | .node _ _ _ (.node 22 _ _ _ :: _) :: _ => true | _ => false)
def rightL : Nat → Nat → Nat → List Tree → Bool
  | _, _, _, [] => true
  | k, i, deep, t :: ts => fitsB k t.kind i && rightT deep t && rightL k (i + 1) deep ts
end
def treeRight (t : Tree) : Bool := rightT 1 t

mutual
def Tree.names : Tree → List Bytes
  | .node k s _ ks => (if namedB k then [s] else []) ++ namesL ks
def namesL : List Tree → List Bytes
  | [] => []
  | t :: ts => t.names ++ namesL ts
end
mutual
def Tree.binds : Tree → List Bytes
  | .node k s _ ks => (if k == 2 || k == 4 || k == 6 then [s] else []) ++ bindsL ks
def bindsL : List Tree → List Bytes
  | [] => []
  | t :: ts => t.binds ++ bindsL ts
end
mutual
def Tree.calls : Tree → Bool
  | .node k _ _ ks => k == 25 || callsL ks
def callsL : List Tree → Bool
  | [] => false
  | t :: ts => t.calls || callsL ts
end

/-! ### Layer 13 -/
def underB (a b : List Int) : Bool := b.isPrefixOf a
/-- A path's number at a place, turned by a function, if there is one. -/
def stepAt (p : List Int) (at_ : Nat) (f : Int → Int) : List Int :=
  match p[at_]? with
  | some k => p.set at_ (f k)
  | none => p
def upF (at_ k : Int) : Int := if at_ ≤ k then k + 1 else k
def downF (at_ k : Int) : Int := if at_ < k then k - 1 else k
def pastL (p list : List Int) (f : Int → Int) : List Int := if underB p list then stepAt p list.length f else p
def insertedL (p list : List Int) (at_ : Int) : List Int := pastL p list (upF at_)
def goneB (p list : List Int) (at_ : Int) : Bool := decide (list.length < p.length) && underB p list && p[list.length]? == some at_
def deletedL (p list : List Int) (at_ : Int) : Option (List Int) := if goneB p list at_ then none else some (pastL p list (downF at_))
def movedL (p list : List Int) (from_ to_ : Int) : List Int := pastL p list (fun k => if k = from_ then to_ else upF to_ (downF from_ k))

/-! ### Layer 14 -/
structure Edt where
  kind : Nat
  path : List Int
  at_ : Int
  far : Int
  frm : Bytes
  to_ : Bytes
  olds : List Tree
  news : List Tree
  deriving Repr, Inhabited
def Edt.zero : Edt := ⟨0, [], 0, 0, [], [], [], []⟩

def Edt.same (a b : Edt) : Bool := a.kind == b.kind && a.path == b.path && a.at_ == b.at_ && a.far == b.far && a.frm == b.frm && a.to_ == b.to_ && sameL a.olds b.olds && sameL a.news b.news
theorem Edt.same_iff (a b : Edt) : a.same b = true ↔ a = b := by
  obtain ⟨a1, a2, a3, a4, a5, a6, a7, a8⟩ := a
  obtain ⟨b1, b2, b3, b4, b5, b6, b7, b8⟩ := b
  simp only [Edt.same, Bool.and_eq_true, beq_iff_eq, sameL_iff, Edt.mk.injEq]
  exact ⟨fun ⟨⟨⟨⟨⟨⟨⟨a, b⟩, c⟩, d⟩, e⟩, f⟩, g⟩, h⟩ => ⟨a, b, c, d, e, f, g, h⟩, fun ⟨a, b, c, d, e, f, g, h⟩ => ⟨⟨⟨⟨⟨⟨⟨a, b⟩, c⟩, d⟩, e⟩, f⟩, g⟩, h⟩⟩

def numberB (n : Int) : Bool := decide (0 ≤ n) && decide (n ≤ 1073741824)
def partB : List Tree → Bool
  | [t] => treeRight t
  | _ => false
def loneB (k : Nat) : Bool := k == 2 || k == 3 || k == 5
def oldsB (k : Nat) : Bool := k == 3 || k == 4 || k == 5
def newsB (k : Nat) : Bool := k == 2 || k == 4
def editRight (e : Edt) : Bool :=
  if !e.path.all numberB || !numberB e.at_ || !numberB e.far then false
  else if (!loneB e.kind && (e.at_ != 0 || e.path.isEmpty)) || ((e.at_ != e.far) != (e.kind == 5) && e.kind != 2 && e.kind != 3) || (e.far != 0 && e.kind != 5) then false
  else if (e.kind == 1) != (isName e.frm && isName e.to_ && e.frm != e.to_) || (e.kind != 1 && !(e.frm ++ e.to_).isEmpty) then false
  else if oldsB e.kind != partB e.olds || newsB e.kind != partB e.news || (!oldsB e.kind && !e.olds.isEmpty) || (!newsB e.kind && !e.news.isEmpty) then false
  else e.kind == 1 || loneB e.kind || (e.kind == 4 && !sameL e.olds e.news)

def invertE (e : Edt) : Edt :=
  if !editRight e then Edt.zero
  else if e.kind = 5 then ⟨5, e.path, e.far, e.at_, e.to_, e.frm, e.olds, e.news⟩
  else ⟨if e.kind = 2 then 3 else if e.kind = 3 then 2 else e.kind, e.path, e.at_, e.far, e.to_, e.frm, e.news, e.olds⟩

/-! ### Layer 16 -/
def Edt.parts (e : Edt) : List Tree := e.olds ++ e.news
def Edt.names (e : Edt) : List Bytes := if e.kind = 1 then [e.frm, e.to_] else namesL e.parts
def Edt.binds (e : Edt) : List Bytes := if e.kind = 1 then [e.frm, e.to_] else bindsL e.parts
def Edt.params (e : Edt) : Bool := if e.kind = 1 then false else e.parts.any fun t => t.kind == 4 || t.kind == 3
def Edt.calls (e : Edt) : Bool := if e.kind = 1 then false else callsL e.parts
def amongB (names others : List Bytes) : Bool := others.any fun s => names.contains s
def mixesB (p q : Edt) : Bool :=
  if p.kind = 1 ∧ q.kind = 1 then p.path == q.path || amongB [q.frm, q.to_] [p.to_] || q.to_ == p.frm
  else if amongB q.names p.binds || amongB p.names q.binds then true
  else p.kind != 1 && q.kind != 1 && (p.params && q.calls || q.params && p.calls)
def pastE (e : Edt) (p : List Int) : Option (List Int) :=
  if e.kind = 2 then some (insertedL p e.path e.at_)
  else if e.kind = 3 then deletedL p e.path e.at_
  else if e.kind = 4 then (if underB p e.path then none else some p)
  else if e.kind = 5 then (if underB p (e.path ++ [e.at_]) then none else some (movedL p e.path e.at_ e.far))
  else some p
def besideB (p q : Edt) : Option (Int × Int) :=
  if p.kind = 5 ∨ q.kind = 5 then none
  else
    let least := if q.kind = 3 then p.at_ - 1 else p.at_
    let most := if p.kind = 2 then p.at_ + 1 else p.at_
    if least ≤ q.at_ ∧ q.at_ ≤ most then none
    else if q.at_ < p.at_ then some (q.at_, p.at_ + (if q.kind = 2 then 1 else -1))
    else some (q.at_ - (if p.kind = 2 then 1 else -1), p.at_)
/-- The two edits the other way round, before they are looked at again. -/
def swapped (p q : Edt) : Option (Edt × Edt) :=
  if loneB p.kind && loneB q.kind && p.path == q.path then
    match besideB p q with
    | some (j, i) => some ({ q with at_ := j }, { p with at_ := i })
    | none => none
  else
    match pastE (invertE p) q.path with
    | none => none
    | some x =>
      match pastE { q with path := x } p.path with
      | none => none
      | some y => some ({ q with path := x }, { p with path := y })
def commuteE (p q : Edt) : Except Nat (Edt × Edt) :=
  if !editRight p || !editRight q then .error 4
  else if mixesB p q then .error 130
  else match swapped p q with
    | none => .error 130
    | some (a, b) => if editRight a && editRight b then .ok (a, b) else .error 130
end Go.Proofs.YtjdofndkdkeapaaGreatDoor
