/- Part 1 of the proof. -/
import Derived.Lib.Strings
import Derived.Lib.IndexBytes
import Derived.Below
import Derived.Lib.Hide
namespace Go.Proofs.YtlkmefhogabgdaaGreatDoor
open Go.RowKit
set_option linter.all false
set_option maxHeartbeats 40000000
set_option maxRecDepth 100000
abbrev aa:=@Lib.hid
abbrev ah:=@Nat.le_refl
abbrev ai:=@Below.refl
abbrev aE:=@Nat.zero_le
abbrev aJ:=@Nat.le_trans
abbrev aK:=@Array.getElem?_eq_some_iff
abbrev aY:=@Below.heap_setCell
abbrev br:=@List.getElem?_eq_getElem
abbrev bs:=@List.getElem?_eq_some_iff
abbrev cb:=@List.length_append
abbrev cM:=@List.getElem?_append_left
abbrev eK:=@List.getElem?_append_right
abbrev fJ:=@Nat.lt_of_lt_of_le
abbrev iB:=@Nat.le_of_lt
abbrev jt:=@World.ownsRow_lit
abbrev ny:=@List.length_map
abbrev ar:=List UInt8
abbrev bl(s:ByteArray):ar:=s.data.toList
abbrev sb(l:ar):ByteArray:=⟨l.toArray⟩
theorem l9(l:ar):bl (sb l)=l:=rfl
theorem ow(s:ByteArray):sb (bl s)=s:=rfl
theorem dt(s:ByteArray):(bl s).length=s.size:=rfl
theorem fk{a b:ByteArray}(h:bl a=bl b):a=b:=by rw[<-ow a,<-ow b,h]
theorem pP(s:ByteArray)(i:Nat)(h:i<s.size):(bl s)[i]? =some s[i]:=Lib.data_getElem? s i h
theorem bG(s:ByteArray):s.toList=bl s:=ByteArray.toList_eq s
theorem dg{a b:Bool}(h:a=true↔b=true):Ending.returned (.bool a)= .returned (.bool b):=by rw[Bool.eq_iff_iff.2 h]
theorem mS{k:IntKind}{a b:Int}(h:a=b):Ending.returned (.int k a)= .returned (.int k b):=by rw[h]
def gh(c:UInt8):Bool:=(97<=c.toNat && c.toNat<=122) || (65<=c.toNat && c.toNat<=90) || c.toNat == 95
def lp(c:UInt8):Bool:=48<=c.toNat && c.toNat<=57
def eI(c:UInt8):Bool:=gh c || lp c
def iu:List ar:=[[102,117,110,99],[118,97,114],[105,102],[101,108,115,101],[119,104,105,108,101],[114,101,116,117,114,110],[112,114,105,110,116],[116,114,117,101],[102,97,108,115,101],[108,101,110],[114,101,97,100]]
def be(s:ar):Bool:=
 match s with
 |[]=>false
 |c::_=>decide (s.length<=24) && gh c && !iu.contains s && s.all eI
theorem uu(s:ByteArray)(k:Nat)(h:k<s.size):(bl s).drop k=s[k] :: (bl s).drop (k+1):=by rw[List.drop_eq_getElem_cons (by simpa using h)];rfl
inductive ag where
 |node (k:Nat) (s:ar) (x:Int) (ks:List ag)
 deriving Repr,Inhabited
def ag.kind:ag->Nat| .node k _ _ _=>k
def ag.text:ag->ar| .node _ s _ _=>s
def ag.num:ag->Int| .node _ _ x _=>x
def ag.kids:ag->List ag| .node _ _ _ ks=>ks
mutual
def ag.sz:ag->Nat
 | .node _ _ _ ks=>1+ao ks
def ao:List ag->Nat
 |[]=>0
 |t::ts=>t.sz+ao ts
end
mutual
def ag.same:ag->ag->Bool
 | .node k s x ks,.node k' s' x' ks'=>k == k' && s == s' && x == x' && bB ks ks'
def bB:List ag->List ag->Bool
 |[],[]=>true
 |t::ts,u::us=>t.same u && bB ts us
 |_,_=>false
end
mutual
theorem same_iff:∀t u:ag,t.same u=true↔t=u
 | .node k s x ks,.node k' s' x' ks'=>by simp only[ag.same,Bool.and_eq_true,beq_iff_eq,ag.node.injEq];rw[kP ks ks'];exact⟨fun⟨⟨⟨a,b⟩,c⟩,d⟩=>⟨a,b,c,d⟩,fun⟨a,b,c,d⟩=>⟨⟨⟨a,b⟩,c⟩,d⟩⟩
theorem kP:∀ts us:List ag,bB ts us=true↔ts=us
 |[],[]=>by simp[bB]
 |[],_::_=>by simp[bB]
 |_::_,[]=>by simp[bB]
 |t::ts,u::us=>by simp only[bB,Bool.and_eq_true,List.cons.injEq];rw[same_iff t u,kP ts us]
end
def cp:Nat->Option (List Nat×Bool)
 |1=>some ([2],true)
 |2=>some ([3,5],false)
 |3=>some ([4],true)
 |4=>some ([],false)
 |5=>some ([201],true)
 |6=>some ([200],false)
 |7=>some ([202,200],false)
 |8=>some ([200,5,5],false)
 |9=>some ([200,5],false)
 |10=>some ([200],false)
 |11=>some ([200],false)
 |12=>some ([25],false)
 |20=>some ([],false)
 |21=>some ([],false)
 |22=>some ([],false)
 |23=>some ([200],false)
 |24=>some ([200,200],false)
 |25=>some ([200],true)
 |26=>some ([200,200],false)
 |27=>some ([200,200],false)
 |28=>some ([200],false)
 |29=>some ([],false)
 |_=>none
def fP(k of:Nat):Bool:=
 if of=200 then decide (20<=k) && decide (k<=29)
 else if of=201 then(decide (6<=k) && decide (k<=12)) || k == 5
 else if of=202 then k == 22 || k == 26
 else k == of
def ed(parent kid at_:Nat):Bool:=
 match cp parent with
 |none=>false
 |some (l,true)=>fP kid (l.headD 0)
 |some (l,false)=>match l[at_]? with|some o=>fP kid o|none=>false
def cG(k:Nat):Bool:=k == 2 || k == 4 || k == 6 || k == 22 || k == 25
def lK:List ar:=[[45],[33]]
def Bz:List ar:=[[124,124],[38,38],[61,61],[33,61],[60],[60,61],[62],[62,61],[43],[45],[42],[47],[37]]
def dx(k:Nat)(s:ar)(x:Int):Bool:=
 if k=20 then s == [] && decide (0<=x)
 else if k=21 then s == [] && (x == 0 || x == 1)
 else if x != 0 then false
 else if cG k then be s
 else if k=23 then lK.contains s
 else if k=24 then Bz.contains s
 else s == []
mutual
def cE:Nat->ag->Bool
 |deep,.node k s x ks=>
  match cp k with
  |none=>false
  |some (l,all)=>
   decide (deep<=40) && dx k s x && (all || ks.length == l.length) && bV k 0 (deep+1) ks &&
    (k != 7 || match ks with| .node 22 _ _ _::_=>true| .node _ _ _ (.node 22 _ _ _::_) ::_=>true|_=>false)
def bV:Nat->Nat->Nat->List ag->Bool
 |_,_,_,[]=>true
 |k,i,deep,t::ts=>ed k t.kind i && cE deep t && bV k (i+1) deep ts
end
def pi(t:ag):Bool:=cE 1 t
mutual
def ag.names:ag->List ar
 | .node k s _ ks=>(if cG k then[s] else[])++bE ks
def bE:List ag->List ar
 |[]=>[]
 |t::ts=>t.names++bE ts
end
mutual
def ag.binds:ag->List ar
 | .node k s _ ks=>(if k == 2 || k == 4 || k == 6 then[s] else[])++cO ks
def cO:List ag->List ar
 |[]=>[]
 |t::ts=>t.binds++cO ts
end
mutual
def ag.calls:ag->Bool
 | .node k _ _ ks=>k == 25 || bP ks
def bP:List ag->Bool
 |[]=>false
 |t::ts=>t.calls || bP ts
end
def bu(a b:List Int):Bool:=b.isPrefixOf a
def fo(p:List Int)(at_:Nat)(f:Int->Int):List Int:=
 match p[at_]? with
 |some k=>p.set at_ (f k)
 |none=>p
def dl(at_ k:Int):Int:=if at_<=k then k+1 else k
def cF(at_ k:Int):Int:=if at_<k then k - 1 else k
def ei(p list:List Int)(f:Int->Int):List Int:=if bu p list then fo p list.length f else p
def fO(p list:List Int)(at_:Int):List Int:=ei p list (dl at_)
def fN(p list:List Int)(at_:Int):Bool:=decide (list.length<p.length) && bu p list && p[list.length]? == some at_
def dR(p list:List Int)(at_:Int):Option (List Int):=if fN p list at_ then none else some (ei p list (cF at_))
def eT(p list:List Int)(from_ to_:Int):List Int:=ei p list (fun k=>if k=from_ then to_ else dl to_ (cF from_ k))
structure aj where
 kind:Nat
 path:List Int
 at_:Int
 far:Int
 frm:ar
 to_:ar
 olds:List ag
 news:List ag
 deriving Repr,Inhabited
def aj.zero:aj:=⟨0,[],0,0,[],[],[],[]⟩
def aj.same(a b:aj):Bool:=a.kind == b.kind && a.path == b.path && a.at_ == b.at_ && a.far == b.far && a.frm == b.frm && a.to_ == b.to_ && bB a.olds b.olds && bB a.news b.news
theorem aj.same_iff(a b:aj):a.same b=true↔a=b:=by obtain⟨a1,a2,a3,a4,a5,a6,a7,a8⟩:=a;obtain⟨b1,b2,b3,b4,b5,b6,b7,b8⟩:=b;simp only[aj.same,Bool.and_eq_true,beq_iff_eq,kP,aj.mk.injEq];exact⟨fun⟨⟨⟨⟨⟨⟨⟨a,b⟩,c⟩,d⟩,e⟩,f⟩,g⟩,h⟩=>⟨a,b,c,d,e,f,g,h⟩,fun⟨a,b,c,d,e,f,g,h⟩=>⟨⟨⟨⟨⟨⟨⟨a,b⟩,c⟩,d⟩,e⟩,f⟩,g⟩,h⟩⟩
def aH(n:Int):Bool:=decide (0<=n) && decide (n<=1073741824)
def bR:List ag->Bool
 |[t]=>pi t
 |_=>false
def aq(k:Nat):Bool:=k == 2 || k == 3 || k == 5
def aG(k:Nat):Bool:=k == 3 || k == 4 || k == 5
def aF(k:Nat):Bool:=k == 2 || k == 4
def ap(e:aj):Bool:=
 if !e.path.all aH || !aH e.at_ || !aH e.far then false
 else if (!aq e.kind && (e.at_ != 0 || e.path.isEmpty)) || ((e.at_ != e.far) != (e.kind == 5) && e.kind != 2 && e.kind != 3) || (e.far != 0 && e.kind != 5) then false
 else if (e.kind == 1) != (be e.frm && be e.to_ && e.frm != e.to_) || (e.kind != 1 && !(e.frm++e.to_).isEmpty) then false
 else if aG e.kind != bR e.olds || aF e.kind != bR e.news || (!aG e.kind && !e.olds.isEmpty) || (!aF e.kind && !e.news.isEmpty) then false
 else e.kind == 1 || aq e.kind || (e.kind == 4 && !bB e.olds e.news)
def bD(e:aj):aj:=
 if !ap e then aj.zero
 else if e.kind=5 then⟨5,e.path,e.far,e.at_,e.to_,e.frm,e.olds,e.news⟩
 else⟨if e.kind=2 then 3 else if e.kind=3 then 2 else e.kind,e.path,e.at_,e.far,e.to_,e.frm,e.news,e.olds⟩
def aj.parts(e:aj):List ag:=e.olds++e.news
def aj.names(e:aj):List ar:=if e.kind=1 then[e.frm,e.to_] else bE e.parts
def aj.binds(e:aj):List ar:=if e.kind=1 then[e.frm,e.to_] else cO e.parts
def aj.params(e:aj):Bool:=if e.kind=1 then false else e.parts.any fun t=>t.kind == 4 || t.kind == 3
def aj.calls(e:aj):Bool:=if e.kind=1 then false else bP e.parts
def bX(names others:List ar):Bool:=others.any fun s=>names.contains s
def cK(p q:aj):Bool:=
 if p.kind=1/\q.kind=1 then p.path == q.path || bX [q.frm,q.to_] [p.to_] || q.to_ == p.frm
 else if bX q.names p.binds || bX p.names q.binds then true
 else p.kind != 1 && q.kind != 1 && (p.params && q.calls || q.params && p.calls)
def co(e:aj)(p:List Int):Option (List Int):=
 if e.kind=2 then some (fO p e.path e.at_)
 else if e.kind=3 then dR p e.path e.at_
 else if e.kind=4 then(if bu p e.path then none else some p)
 else if e.kind=5 then(if bu p (e.path++[e.at_]) then none else some (eT p e.path e.at_ e.far))
 else some p
def bY(p q:aj):Option (Int×Int):=
 if p.kind=5∨q.kind=5 then none
 else
  let least:=if q.kind=3 then p.at_ - 1 else p.at_
  let most:=if p.kind=2 then p.at_+1 else p.at_
  if least<=q.at_/\q.at_<=most then none
  else if q.at_<p.at_ then some (q.at_,p.at_+(if q.kind=2 then 1 else -1))
  else some (q.at_ - (if p.kind=2 then 1 else -1),p.at_)
def el(p q:aj):Option (aj×aj):=
 if aq p.kind && aq q.kind && p.path == q.path then
  match bY p q with
  |some (j,i)=>some ({ q with at_:=j },{ p with at_:=i })
  |none=>none
 else
  match co (bD p) q.path with
  |none=>none
  |some x=>
   match co { q with path:=x } p.path with
   |none=>none
   |some y=>some ({ q with path:=x },{ p with path:=y })
def aO(p q:aj):Except Nat (aj×aj):=
 if !ap p || !ap q then .error 4
 else if cK p q then .error 130
 else match el p q with
  |none=>.error 130
  |some (a,b)=>if ap a && ap b then .ok (a,b) else .error 130
def lT(e:aj):Prop:=
 (e.kind=1/\e.at_=0/\e.far=0/\e.path≠[]/\be e.frm=true/\be e.to_=true/\e.frm≠e.to_/\e.olds=[]/\e.news=[])∨
 (e.kind=2/\e.far=0/\e.frm=[]/\e.to_=[]/\e.olds=[]/\bR e.news=true)∨
 (e.kind=3/\e.far=0/\e.frm=[]/\e.to_=[]/\e.news=[]/\bR e.olds=true)∨
 (e.kind=4/\e.at_=0/\e.far=0/\e.path≠[]/\e.frm=[]/\e.to_=[]/\bR e.olds=true/\bR e.news=true/\e.olds≠e.news)∨
 (e.kind=5/\e.at_≠e.far/\e.frm=[]/\e.to_=[]/\e.news=[]/\bR e.olds=true)
theorem qY{a b:List ag}:bB a b=false↔a≠b:=by rw[<-Bool.not_eq_true,kP]
theorem iY(e:aj):ap e=true↔(e.path.all aH=true/\aH e.at_=true/\aH e.far=true)/\lT e:=by
 obtain⟨k,p,i,f,a,b,o,n⟩:=e;have ho:bR o=true->o≠[]:=(by rintro h rfl;simp[bR] at h);have hn:bR n=true->n≠[]:=(by rintro h rfl;simp[bR] at h);have ha:be a=true->a≠[]:=(by rintro h rfl;simp[be] at h);have hs:= @qY o n;have hs':=kP o n;unfold ap lT;simp only;by_cases k1:k=1
 .subst k1;simp[aq,aG,aF];grind
 by_cases k2:k=2
 .subst k2;simp[aq,aG,aF];grind
 by_cases k3:k=3
 .subst k3;simp[aq,aG,aF];grind
 by_cases k4:k=4
 .subst k4;simp[aq,aG,aF];grind
 by_cases k5:k=5
 .subst k5;simp[aq,aG,aF];grind
 simp[aq,aG,aF,k1,k2,k3,k4,k5]
theorem vv{e:aj}(h:ap e=true):ap (bD e)=true:=by have h':=(iY e).1 h;obtain⟨k,p,i,f,a,b,o,n⟩:=e;rw[iY];unfold bD;simp only[h];unfold lT at h' ⊢;simp only at h';obtain⟨hp,h'⟩:=h';rcases h' with ⟨rfl,h'⟩|⟨rfl,h'⟩|⟨rfl,h'⟩|⟨rfl,h'⟩|⟨rfl,h'⟩ <;>simp<;>grind
theorem qm{e:aj}(h:ap e=true):bD e=if e.kind=5 then⟨5,e.path,e.far,e.at_,e.to_,e.frm,e.olds,e.news⟩ else⟨if e.kind=2 then 3 else if e.kind=3 then 2 else e.kind,e.path,e.at_,e.far,e.to_,e.frm,e.news,e.olds⟩:=by unfold bD;simp[h]
theorem iL{e:aj}(h:ap e=true):bD (bD e)=e:=by
 have hr:=vv h;rw[qm hr,qm h];obtain⟨k,p,i,f,a,b,o,n⟩:=e;simp only;by_cases h5:k=5
 .subst h5;simp
 .by_cases h2:k=2
  .subst h2;simp
  .by_cases h3:k=3
   .subst h3;simp
   .simp[h5,h2,h3]
theorem kV{a b:List Int}:bu a b=true↔∃r,a=b++r:=by unfold bu;rw[List.isPrefixOf_iff_prefix];exact⟨fun⟨r,h⟩=>⟨r,h.symm⟩,fun⟨r,h⟩=>⟨r,h.symm⟩⟩
theorem Bn(l r:List Int):bu (l++r) l=true:=kV.2 ⟨r,rfl⟩
theorem zj{p l:List Int}(f:Int->Int)(h:bu p l=false):ei p l f=p:=by simp[ei,h]
theorem zk(l:List Int)(f:Int->Int):ei l l f=l:=by have:bu l l=true:=kV.2 ⟨[],by simp⟩;simp[ei,fo,this]
theorem zi(l:List Int)(k:Int)(r:List Int)(f:Int->Int):ei (l++k::r) l f=l++f k::r:=by simp[ei,fo,Bn]
theorem zl(p l:List Int):bu p l=false∨p=l∨∃k r,p=l++k::r:=by
 cases h:bu p l with
 |false=>exact .inl rfl
 |true=>
  obtain⟨r,rfl⟩:=kV.1 h;cases r with
  |nil=>right;left;simp
  |cons k r=>exact .inr (.inr ⟨k,r,rfl⟩)
theorem oK(p l:List Int)(f:Int->Int):(ei p l f).length=p.length:=by
 rcases zl p l with h|rfl|⟨k,r,rfl⟩
 .rw[zj f h]
 .rw[zk]
 .rw[zi];simp
theorem gH{e:aj}{z y:List Int}(h:co e z=some y):y.length=z.length:=by
 unfold co fO dR eT at h;split at h
 .injection h with h;rw[<-h,oK]
 split at h
 .split at h
  .cases h
  .injection h with h;rw[<-h,oK]
 split at h
 .split at h
  .cases h
  .injection h with h;rw[<-h]
 split at h
 .split at h
  .cases h
  .injection h with h;rw[<-h,oK]
 injection h with h;rw[<-h]
end Go.Proofs.YtlkmefhogabgdaaGreatDoor
