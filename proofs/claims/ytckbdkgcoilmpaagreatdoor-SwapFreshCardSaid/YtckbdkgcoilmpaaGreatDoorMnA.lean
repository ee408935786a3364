/- Part 1 of the proof. -/
import Derived.Lib.Strings
import Derived.Lib.IndexBytes
import Derived.Below
import Derived.Lib.Hide
namespace Go.Proofs.YtckbdkgcoilmpaaGreatDoor
open Go.RowKit
set_option linter.all false
set_option maxHeartbeats 40000000
set_option maxRecDepth 100000
abbrev aa:=@Lib.hid
abbrev ah:=@Nat.le_refl
abbrev ai:=@Below.refl
abbrev aK:=@Array.getElem?_eq_some_iff
abbrev aJ:=@Nat.le_trans
abbrev aY:=@Below.heap_setCell
abbrev br:=@List.getElem?_eq_getElem
abbrev aE:=@Nat.zero_le
abbrev cM:=@List.getElem?_append_left
abbrev eK:=@List.getElem?_append_right
abbrev fJ:=@Nat.lt_of_lt_of_le
abbrev ny:=@List.length_map
abbrev gl:=@List.getElem?_eq_some_iff
abbrev CD:=@List.length_append
abbrev ar:=List UInt8
abbrev bl(s:ByteArray):ar:=s.data.toList
abbrev sb(l:ar):ByteArray:=⟨l.toArray⟩
theorem l9(l:ar):bl (sb l)=l:=rfl
theorem ow(s:ByteArray):sb (bl s)=s:=rfl
theorem dt(s:ByteArray):(bl s).length=s.size:=rfl
theorem fk{a b:ByteArray}(h:bl a=bl b):a=b:=by rw[<-ow a,<-ow b,h]
theorem pP(s:ByteArray)(i:Nat)(h:i<s.size):(bl s)[i]? =some s[i]:=Lib.data_getElem? s i h
theorem bG(s:ByteArray):s.toList=bl s:=ByteArray.toList_eq s
theorem dg{a b:Bool}(h:a=true↔b=true):Ending.returned (.bool a)= .returned (.bool b):=by rw[Bool.eq_iff_iff.2 h]
theorem mS{k:IntKind}{a b:Int}(h:a=b):Ending.returned (.int k a)= .returned (.int k b):=by rw[h]
def gh(c:UInt8):Bool:=(97<=c.toNat && c.toNat<=122) || (65<=c.toNat && c.toNat<=90) || c.toNat == 95
def lp(c:UInt8):Bool:=48<=c.toNat && c.toNat<=57
def eI(c:UInt8):Bool:=gh c || lp c
def iu:List ar:=[[102,117,110,99],[118,97,114],[105,102],[101,108,115,101],[119,104,105,108,101],[114,101,116,117,114,110],[112,114,105,110,116],[116,114,117,101],[102,97,108,115,101],[108,101,110],[114,101,97,100]]
def be(s:ar):Bool:=
 match s with
 |[]=>false
 |c::_=>decide (s.length<=24) && gh c && !iu.contains s && s.all eI
theorem uu(s:ByteArray)(k:Nat)(h:k<s.size):(bl s).drop k=s[k] :: (bl s).drop (k+1):=by rw[List.drop_eq_getElem_cons (by simpa using h)];rfl
inductive ag where
 |node (k:Nat) (s:ar) (x:Int) (ks:List ag)
 deriving Repr,Inhabited
def ag.kind:ag->Nat| .node k _ _ _=>k
def ag.text:ag->ar| .node _ s _ _=>s
def ag.num:ag->Int| .node _ _ x _=>x
def ag.kids:ag->List ag| .node _ _ _ ks=>ks
mutual
def ag.sz:ag->Nat
 | .node _ _ _ ks=>1+ao ks
def ao:List ag->Nat
 |[]=>0
 |t::ts=>t.sz+ao ts
end
mutual
def ag.same:ag->ag->Bool
 | .node k s x ks,.node k' s' x' ks'=>k == k' && s == s' && x == x' && bB ks ks'
def bB:List ag->List ag->Bool
 |[],[]=>true
 |t::ts,u::us=>t.same u && bB ts us
 |_,_=>false
end
mutual
theorem same_iff:∀t u:ag,t.same u=true↔t=u
 | .node k s x ks,.node k' s' x' ks'=>by simp only[ag.same,Bool.and_eq_true,beq_iff_eq,ag.node.injEq];rw[kP ks ks'];exact⟨fun⟨⟨⟨a,b⟩,c⟩,d⟩=>⟨a,b,c,d⟩,fun⟨a,b,c,d⟩=>⟨⟨⟨a,b⟩,c⟩,d⟩⟩
theorem kP:∀ts us:List ag,bB ts us=true↔ts=us
 |[],[]=>by simp[bB]
 |[],_::_=>by simp[bB]
 |_::_,[]=>by simp[bB]
 |t::ts,u::us=>by simp only[bB,Bool.and_eq_true,List.cons.injEq];rw[same_iff t u,kP ts us]
end
def cp:Nat->Option (List Nat×Bool)
 |1=>some ([2],true)
 |2=>some ([3,5],false)
 |3=>some ([4],true)
 |4=>some ([],false)
 |5=>some ([201],true)
 |6=>some ([200],false)
 |7=>some ([202,200],false)
 |8=>some ([200,5,5],false)
 |9=>some ([200,5],false)
 |10=>some ([200],false)
 |11=>some ([200],false)
 |12=>some ([25],false)
 |20=>some ([],false)
 |21=>some ([],false)
 |22=>some ([],false)
 |23=>some ([200],false)
 |24=>some ([200,200],false)
 |25=>some ([200],true)
 |26=>some ([200,200],false)
 |27=>some ([200,200],false)
 |28=>some ([200],false)
 |29=>some ([],false)
 |_=>none
def fP(k of:Nat):Bool:=
 if of=200 then decide (20<=k) && decide (k<=29)
 else if of=201 then(decide (6<=k) && decide (k<=12)) || k == 5
 else if of=202 then k == 22 || k == 26
 else k == of
def ed(parent kid at_:Nat):Bool:=
 match cp parent with
 |none=>false
 |some (l,true)=>fP kid (l.headD 0)
 |some (l,false)=>match l[at_]? with|some o=>fP kid o|none=>false
def cG(k:Nat):Bool:=k == 2 || k == 4 || k == 6 || k == 22 || k == 25
def lK:List ar:=[[45],[33]]
def Bz:List ar:=[[124,124],[38,38],[61,61],[33,61],[60],[60,61],[62],[62,61],[43],[45],[42],[47],[37]]
def dx(k:Nat)(s:ar)(x:Int):Bool:=
 if k=20 then s == [] && decide (0<=x)
 else if k=21 then s == [] && (x == 0 || x == 1)
 else if x != 0 then false
 else if cG k then be s
 else if k=23 then lK.contains s
 else if k=24 then Bz.contains s
 else s == []
mutual
def cE:Nat->ag->Bool
 |deep,.node k s x ks=>
  match cp k with
  |none=>false
  |some (l,all)=>
   decide (deep<=40) && dx k s x && (all || ks.length == l.length) && bV k 0 (deep+1) ks &&
    (k != 7 || match ks with| .node 22 _ _ _::_=>true| .node _ _ _ (.node 22 _ _ _::_) ::_=>true|_=>false)
def bV:Nat->Nat->Nat->List ag->Bool
 |_,_,_,[]=>true
 |k,i,deep,t::ts=>ed k t.kind i && cE deep t && bV k (i+1) deep ts
end
def pi(t:ag):Bool:=cE 1 t
mutual
def ag.names:ag->List ar
 | .node k s _ ks=>(if cG k then[s] else[])++bE ks
def bE:List ag->List ar
 |[]=>[]
 |t::ts=>t.names++bE ts
end
mutual
def ag.binds:ag->List ar
 | .node k s _ ks=>(if k == 2 || k == 4 || k == 6 then[s] else[])++cO ks
def cO:List ag->List ar
 |[]=>[]
 |t::ts=>t.binds++cO ts
end
mutual
def ag.calls:ag->Bool
 | .node k _ _ ks=>k == 25 || bP ks
def bP:List ag->Bool
 |[]=>false
 |t::ts=>t.calls || bP ts
end
def bu(a b:List Int):Bool:=b.isPrefixOf a
def fo(p:List Int)(at_:Nat)(f:Int->Int):List Int:=
 match p[at_]? with
 |some k=>p.set at_ (f k)
 |none=>p
def dl(at_ k:Int):Int:=if at_<=k then k+1 else k
def cF(at_ k:Int):Int:=if at_<k then k - 1 else k
def CB(p list:List Int)(f:Int->Int):List Int:=if bu p list then fo p list.length f else p
def fO(p list:List Int)(at_:Int):List Int:=CB p list (dl at_)
def fN(p list:List Int)(at_:Int):Bool:=decide (list.length<p.length) && bu p list && p[list.length]? == some at_
def dR(p list:List Int)(at_:Int):Option (List Int):=if fN p list at_ then none else some (CB p list (cF at_))
def eT(p list:List Int)(from_ to_:Int):List Int:=CB p list (fun k=>if k=from_ then to_ else dl to_ (cF from_ k))
structure aj where
 kind:Nat
 path:List Int
 at_:Int
 far:Int
 frm:ar
 to_:ar
 olds:List ag
 news:List ag
 deriving Repr,Inhabited
def aj.zero:aj:=⟨0,[],0,0,[],[],[],[]⟩
def aj.same(a b:aj):Bool:=a.kind == b.kind && a.path == b.path && a.at_ == b.at_ && a.far == b.far && a.frm == b.frm && a.to_ == b.to_ && bB a.olds b.olds && bB a.news b.news
theorem aj.same_iff(a b:aj):a.same b=true↔a=b:=by obtain⟨a1,a2,a3,a4,a5,a6,a7,a8⟩:=a;obtain⟨b1,b2,b3,b4,b5,b6,b7,b8⟩:=b;simp only[aj.same,Bool.and_eq_true,beq_iff_eq,kP,aj.mk.injEq];exact⟨fun⟨⟨⟨⟨⟨⟨⟨a,b⟩,c⟩,d⟩,e⟩,f⟩,g⟩,h⟩=>⟨a,b,c,d,e,f,g,h⟩,fun⟨a,b,c,d,e,f,g,h⟩=>⟨⟨⟨⟨⟨⟨⟨a,b⟩,c⟩,d⟩,e⟩,f⟩,g⟩,h⟩⟩
def aH(n:Int):Bool:=decide (0<=n) && decide (n<=1073741824)
def bR:List ag->Bool
 |[t]=>pi t
 |_=>false
def aq(k:Nat):Bool:=k == 2 || k == 3 || k == 5
def aG(k:Nat):Bool:=k == 3 || k == 4 || k == 5
def aF(k:Nat):Bool:=k == 2 || k == 4
def ap(e:aj):Bool:=
 if !e.path.all aH || !aH e.at_ || !aH e.far then false
 else if (!aq e.kind && (e.at_ != 0 || e.path.isEmpty)) || ((e.at_ != e.far) != (e.kind == 5) && e.kind != 2 && e.kind != 3) || (e.far != 0 && e.kind != 5) then false
 else if (e.kind == 1) != (be e.frm && be e.to_ && e.frm != e.to_) || (e.kind != 1 && !(e.frm++e.to_).isEmpty) then false
 else if aG e.kind != bR e.olds || aF e.kind != bR e.news || (!aG e.kind && !e.olds.isEmpty) || (!aF e.kind && !e.news.isEmpty) then false
 else e.kind == 1 || aq e.kind || (e.kind == 4 && !bB e.olds e.news)
def bD(e:aj):aj:=
 if !ap e then aj.zero
 else if e.kind=5 then⟨5,e.path,e.far,e.at_,e.to_,e.frm,e.olds,e.news⟩
 else⟨if e.kind=2 then 3 else if e.kind=3 then 2 else e.kind,e.path,e.at_,e.far,e.to_,e.frm,e.news,e.olds⟩
def aj.parts(e:aj):List ag:=e.olds++e.news
def aj.names(e:aj):List ar:=if e.kind=1 then[e.frm,e.to_] else bE e.parts
def aj.binds(e:aj):List ar:=if e.kind=1 then[e.frm,e.to_] else cO e.parts
def aj.params(e:aj):Bool:=if e.kind=1 then false else e.parts.any fun t=>t.kind == 4 || t.kind == 3
def aj.calls(e:aj):Bool:=if e.kind=1 then false else bP e.parts
def bX(names others:List ar):Bool:=others.any fun s=>names.contains s
def cK(p q:aj):Bool:=
 if p.kind=1/\q.kind=1 then p.path == q.path || bX [q.frm,q.to_] [p.to_] || q.to_ == p.frm
 else if bX q.names p.binds || bX p.names q.binds then true
 else p.kind != 1 && q.kind != 1 && (p.params && q.calls || q.params && p.calls)
def co(e:aj)(p:List Int):Option (List Int):=
 if e.kind=2 then some (fO p e.path e.at_)
 else if e.kind=3 then dR p e.path e.at_
 else if e.kind=4 then(if bu p e.path then none else some p)
 else if e.kind=5 then(if bu p (e.path++[e.at_]) then none else some (eT p e.path e.at_ e.far))
 else some p
def bY(p q:aj):Option (Int×Int):=
 if p.kind=5∨q.kind=5 then none
 else
  let least:=if q.kind=3 then p.at_ - 1 else p.at_
  let most:=if p.kind=2 then p.at_+1 else p.at_
  if least<=q.at_/\q.at_<=most then none
  else if q.at_<p.at_ then some (q.at_,p.at_+(if q.kind=2 then 1 else -1))
  else some (q.at_ - (if p.kind=2 then 1 else -1),p.at_)
def el(p q:aj):Option (aj×aj):=
 if aq p.kind && aq q.kind && p.path == q.path then
  match bY p q with
  |some (j,i)=>some ({ q with at_:=j },{ p with at_:=i })
  |none=>none
 else
  match co (bD p) q.path with
  |none=>none
  |some x=>
   match co { q with path:=x } p.path with
   |none=>none
   |some y=>some ({ q with path:=x },{ p with path:=y })
def aO(p q:aj):Except Nat (aj×aj):=
 if !ap p || !ap q then .error 4
 else if cK p q then .error 130
 else match el p q with
  |none=>.error 130
  |some (a,b)=>if ap a && ap b then .ok (a,b) else .error 130
abbrev bq:=List (ar×Nat)
structure bo where
 bs:List (ar×Nat)
 ev:List (List Int×Nat)
 all:List Nat
 at_:Nat
abbrev lb:=Except (Nat×Nat) (bq×bo)
def eg:bq->ar->Option Nat
 |[],_=>none
 |(x,i) ::m,s=>if x=s then some i else eg m s
def mb:List bq->ar->Option Nat
 |[],_=>none
 |m::e,s=>match eg m s with
  |some i=>some i
  |none=>mb e s
def j5(own:bq)(s:ar)(q:List Int)(a:Nat)(st:bo):lb:=
 match eg own s with
 |some _=>.error (110,a)
 |none=>.ok (own++[(s,st.bs.length)],⟨st.bs++[(s,0)],st.ev++[(q,st.bs.length)],st.all++[st.bs.length],st.at_⟩)
def j8(st:bo)(i:Nat):Nat:=((st.bs[i]?).map Prod.snd).getD 0
def hY(env:List bq)(call:Bool)(n:Nat)(s:ar)(q:List Int)(a:Nat)(st:bo):Except (Nat×Nat) bo:=
 match mb env s with
 |none=>.error (111,a)
 |some i=>if call && j8 st i != n then .error (112,a) else .ok ⟨st.bs,st.ev++[(q,i)],st.all,st.at_⟩
def bo.next(st:bo):bo:=⟨st.bs,st.ev,st.all,st.at_+1⟩
def bo.func(st:bo)(i:Nat):bo:=⟨st.bs,st.ev,st.all++[i],st.at_⟩
def CR(own:bq):lb->lb
 | .ok r=>.ok (own,r.2)
 | .error e=>.error e
def oo(r:lb)(f:bq->bo->lb):lb:=
 match r with
 | .ok (o,st)=>f o st
 | .error e=>.error e
def C2(r:Except (Nat×Nat) bo)(f:bo->lb):lb:=
 match r with
 | .ok st=>f st
 | .error e=>.error e
mutual
def da (fe:bq):ag->List bq->bq->List Int->bo->lb
 | .node k s _ ks,out,own,q,st=>
  if k=2 then CR own (dq fe ks (own::out) [] q 0 (st.next.func ((eg fe s).getD 0)))
  else if k=4 then oo (j5 own s q st.at_ st.next) fun o st1=>dq fe ks out o q 0 st1
  else if k=5 then CR own (dq fe ks (own::out) [] q 0 st.next)
  else if k=6 then
   match eg own s with
   |some _=>.error (110,st.at_)
   |none=>oo (dq fe ks out own q 0 st.next) fun o st1=>j5 o s q st.at_ st1
  else if k=22 then C2 (hY (own::out) false ks.length s q st.at_ st.next) fun st1=>dq fe ks out own q 0 st1
  else if k=25 then C2 (hY [fe] true ks.length s q st.at_ st.next) fun st1=>dq fe ks out own q 0 st1
  else dq fe ks out own q 0 st.next
def dq (fe:bq):List ag->List bq->bq->List Int->Nat->bo->lb
 |[],_,own,_,_,st=>.ok (own,st)
 |t::ts,out,own,q,j,st=>oo (da fe t out own (q++[(j:Int)]) st) fun o st1=>dq fe ts out o q (j+1) st1
end
def k9(st st':bo)(q:List Int)(j:Nat):Prop:=∃new,st'.ev=st.ev++new/\(∀e∈new,∃m:Nat,∃r,j<=m/\e.1=q++(m:Int) ::r)/\(new.map Prod.fst).Nodup/\st.bs.length<=st'.bs.length
def DD(st st':bo)(q:List Int):Prop:=∃new,st'.ev=st.ev++new/\(∀e∈new,∃r,e.1=q++r)/\(new.map Prod.fst).Nodup/\st.bs.length<=st'.bs.length
theorem k9.refl(st:bo)(q:List Int)(j:Nat):k9 st st q j:=⟨[],by simp,by simp,by simp,ah _⟩
theorem k9.same{st st1 st':bo}{q:List Int}{j:Nat}(h:k9 st1 st' q j)(he:st1.ev=st.ev)(hl:st.bs.length<=st1.bs.length):k9 st st' q j:=by obtain⟨new,h1,h2,h3,h4⟩:=h;exact⟨new,he ▸ h1,h2,h3,aJ hl h4⟩
theorem k9.toN{st st':bo}{q:List Int}{j:Nat}(h:k9 st st' q j):DD st st' q:=by obtain⟨new,h1,h2,h3,h4⟩:=h;exact⟨new,h1,fun e he=>by obtain⟨m,r,_,hr⟩:=h2 e he;exact⟨_,hr⟩,h3,h4⟩
theorem k9.push{st st1 st':bo}{q:List Int}{j i:Nat}(h:k9 st1 st' q j)(he:st1.ev=st.ev++[(q,i)])(hl:st.bs.length<=st1.bs.length):DD st st' q:=by
 obtain⟨new,h1,h2,h3,h4⟩:=h;refine⟨(q,i) ::new,by rw[h1,he];simp,?_,?_,aJ hl h4⟩
 .intro e hm;rcases List.mem_cons.1 hm with rfl|hm
  .exact⟨[],by simp⟩
  .obtain⟨m,r,_,hr⟩:=h2 e hm;exact⟨_,hr⟩
 .simp only[List.map_cons,List.nodup_cons];refine⟨fun hm=>?_,h3⟩;obtain⟨e,hm,h5⟩:=List.mem_map.1 hm;obtain⟨m,r,_,hr⟩:=h2 e hm;rw[hr] at h5;have:=congrArg List.length h5;simp at this
theorem k9.post{st st1 st':bo}{q:List Int}{j i:Nat}(h:k9 st st1 q j)(he:st'.ev=st1.ev++[(q,i)])(hl:st1.bs.length<=st'.bs.length):DD st st' q:=by
 obtain⟨new,h1,h2,h3,h4⟩:=h;refine⟨new++[(q,i)],by rw[he,h1];simp,?_,?_,aJ h4 hl⟩
 .intro e hm;rcases List.mem_append.1 hm with hm|hm
  .obtain⟨m,r,_,hr⟩:=h2 e hm;exact⟨_,hr⟩
  .obtain rfl:=List.mem_singleton.1 hm;exact⟨[],by simp⟩
 .rw[List.map_append,List.nodup_append];refine⟨h3,by simp,fun a ha b hb=>?_⟩;obtain⟨e,hm,rfl⟩:=List.mem_map.1 ha;obtain rfl:b=q:=(by simpa using hb);obtain⟨m,r,_,hr⟩:=h2 e hm;intro h5;rw[hr] at h5;have:=congrArg List.length h5;simp at this
theorem k9.cons{st st1 st':bo}{q:List Int}{j:Nat}(h:DD st st1 (q++[(j:Int)]))(h':k9 st1 st' q (j+1)):k9 st st' q j:=by
 obtain⟨n1,a1,a2,a3,a4⟩:=h;obtain⟨n2,b1,b2,b3,b4⟩:=h';refine⟨n1++n2,by rw[b1,a1];simp,?_,?_,aJ a4 b4⟩
 .intro e hm;rcases List.mem_append.1 hm with hm|hm
  .obtain⟨r,hr⟩:=a2 e hm;exact⟨j,r,ah _,by rw[hr];simp⟩
  .obtain⟨m,r,hm,hr⟩:=b2 e hm;exact⟨m,r,by omega,hr⟩
 .rw[List.map_append,List.nodup_append];refine⟨a3,b3,fun x hx y hy hxy=>?_⟩;obtain⟨e,hm,rfl⟩:=List.mem_map.1 hx;obtain⟨f,hf,rfl⟩:=List.mem_map.1 hy;obtain⟨r,hr⟩:=a2 e hm;obtain⟨m,r',hm',hr'⟩:=b2 f hf;rw[hr,hr',List.append_assoc] at hxy;have:=List.append_cancel_left hxy;simp at this;omega
theorem i9{r:lb}{f:bq->bo->lb}{o:bq}{st:bo}(h:oo r f= .ok (o,st)):∃o1 st1,r= .ok (o1,st1)/\f o1 st1= .ok (o,st):=by
 unfold oo at h;split at h
 .exact⟨_,_,rfl,h⟩
 .cases h
theorem CG{r:Except (Nat×Nat) bo}{f:bo->lb}{o:bq}{st:bo}(h:C2 r f= .ok (o,st)):∃st1,r= .ok st1/\f st1= .ok (o,st):=by
 unfold C2 at h;split at h
 .exact⟨_,rfl,h⟩
 .cases h
theorem Cy{r:lb}{own o:bq}{st:bo}(h:CR own r= .ok (o,st)):∃o1,r= .ok (o1,st)/\o=own:=by
 unfold CR at h;split at h
 .rename_i x;cases h
  exact⟨x.1,rfl,rfl⟩
 .cases h
theorem ve{own o:bq}{s:ar}{q:List Int}{a:Nat}{st st':bo}(h:j5 own s q a st= .ok (o,st')):eg own s=none/\o=own++[(s,st.bs.length)]/\st'=⟨st.bs++[(s,0)],st.ev++[(q,st.bs.length)],st.all++[st.bs.length],st.at_⟩:=by
 unfold j5 at h;split at h
 .cases h
 .rename_i h1;cases h
  exact⟨h1,rfl,rfl⟩
theorem CC{env:List bq}{call:Bool}{n:Nat}{s:ar}{q:List Int}{a:Nat}{st st':bo}(h:hY env call n s q a st= .ok st'):∃i,mb env s=some i/\¬(call && j8 st i != n)=true/\st'=⟨st.bs,st.ev++[(q,i)],st.all,st.at_⟩:=by
 unfold hY at h;split at h
 .cases h
 .rename_i i h1;split at h
  .cases h
  .rename_i h2;cases h
   exact⟨i,h1,h2,rfl⟩
mutual
theorem Ho (fe:bq):∀(t:ag) (out:List bq) (own:bq) (q:List Int) (st:bo) (o:bq) (st':bo),da fe t out own q st= .ok (o,st')->DD st st' q
 | .node k s x ks,out,own,q,st,o,st',h=>by
  unfold da at h;split at h
  .obtain⟨o1,h1,_⟩:=Cy h;exact(k9.same (Cn fe ks _ _ _ _ _ _ _ h1) rfl (ah _)).toN
  split at h
  .obtain⟨o1,st1,h1,h2⟩:=i9 h;obtain⟨_,rfl,rfl⟩:=ve h1;exact k9.push (Cn fe ks _ _ _ _ _ _ _ h2) rfl (by simp[bo.next])
  split at h
  .obtain⟨o1,h1,_⟩:=Cy h;exact(k9.same (Cn fe ks _ _ _ _ _ _ _ h1) rfl (ah _)).toN
  split at h
  .split at h
   .cases h
   .obtain⟨o1,st1,h1,h2⟩:=i9 h;obtain⟨_,rfl,rfl⟩:=ve h2;exact k9.post (k9.same (Cn fe ks _ _ _ _ _ _ _ h1) rfl (ah _)) rfl (by simp)
  split at h
  .obtain⟨st1,h1,h2⟩:=CG h;obtain⟨i,_,_,rfl⟩:=CC h1;exact k9.push (Cn fe ks _ _ _ _ _ _ _ h2) rfl (ah _)
  split at h
  .obtain⟨st1,h1,h2⟩:=CG h;obtain⟨i,_,_,rfl⟩:=CC h1;exact k9.push (Cn fe ks _ _ _ _ _ _ _ h2) rfl (ah _)
  .exact(k9.same (Cn fe ks _ _ _ _ _ _ _ h) rfl (ah _)).toN
theorem Cn (fe:bq):∀(ts:List ag) (out:List bq) (own:bq) (q:List Int) (j:Nat) (st:bo) (o:bq) (st':bo),dq fe ts out own q j st= .ok (o,st')->k9 st st' q j
 |[],out,own,q,j,st,o,st',h=>by
  unfold dq at h;cases h
  exact k9.refl _ _ _
 |t::ts,out,own,q,j,st,o,st',h=>by unfold dq at h;obtain⟨o1,st1,h1,h2⟩:=i9 h;exact k9.cons (Ho fe t _ _ _ _ _ _ h1) (Cn fe ts _ _ _ _ _ _ _ h2)
end
def gb(i:Nat)(a:ar)(m:bq):bq:=m.map fun p=>(if p.2=i then a else p.1,p.2)
def gi(i:Nat)(a:ar)(st:bo):bo:=⟨st.bs.mapIdx (fun j p=>if j=i then(a,p.2) else p),st.ev,st.all,st.at_⟩
mutual
def ag.rent (P:List Int->Bool) (a:ar):List Int->ag->ag
 |q,.node k s x ks=>.node k (if P q then a else s) x (db P a q 0 ks)
def db (P:List Int->Bool) (a:ar):List Int->Nat->List ag->List ag
 |_,_,[]=>[]
 |q,j,t::ts=>t.rent P a (q++[(j:Int)]) ::db P a q (j+1) ts
end
mutual
def ag.noFunc:ag->Prop
 | .node k _ _ ks=>k≠2/\Dz ks
def Dz:List ag->Prop
 |[]=>True
 |t::ts=>t.noFunc/\Dz ts
end
def B8(a:ar)(m:bq):Prop:=∀p∈m,p.1≠a
def k7(n:Nat)(m:bq):Prop:=∀p∈m,p.2<n
theorem DJ{P:List Int->Bool}{a:ar}:∀{ts:List ag} {q:List Int} {j:Nat},(db P a q j ts).length=ts.length
 |[],_,_=>rfl
 |t::ts,q,j=>by simp[db,DJ (ts:=ts)]
theorem DV{i:Nat}{a s:ar}(hs:s≠a):∀{m:bq},eg m s=none->eg (gb i a m) s=none
 |[],_=>rfl
 |(x,l) ::m,h=>by
  unfold eg at h;split at h
  .cases h
  .rename_i hx;show(if (if l=i then a else x)=s then some l else eg (gb i a m) s)=none;rw[if_neg (by split;exact fun h=>hs h.symm;exact hx),DV hs h]
theorem Dw{i j:Nat}{a s:ar}(hs:s≠a)(hj:j≠i):∀{m:bq},eg m s=some j->eg (gb i a m) s=some j
 |[],h=>by cases h
 |(x,l) ::m,h=>by
  unfold eg at h;show(if (if l=i then a else x)=s then some l else eg (gb i a m) s)=some j;split at h
  .rename_i hx;cases h
   rw[if_neg hj,if_pos hx]
  .rename_i hx;rw[if_neg (by split;exact fun h=>hs h.symm;exact hx),Dw hs hj h]
theorem Er{i:Nat}{a s:ar}:∀{m:bq},B8 a m->eg m s=some i->eg (gb i a m) a=some i
 |[],_,h=>by cases h
 |(x,l) ::m,hk,h=>by
  unfold eg at h;show(if (if l=i then a else x)=a then some l else eg (gb i a m) a)=some i;split at h
  .cases h
   rw[if_pos (if_pos rfl)]
  .by_cases hl:l=i
   .subst hl;rw[if_pos (if_pos rfl)]
   .rw[if_neg (by rw[if_neg hl];exact hk _ (List.mem_cons_self ..)),Er (fun p hp=>hk p (List.mem_cons_of_mem _ hp)) h]
theorem Fw{i l:Nat}{a:ar}:∀{m:bq},B8 a m->eg (gb i a m) a=some l->l=i
 |[],_,h=>by cases h
 |(x,k) ::m,hk,h=>by
  by_cases hl:k=i
  .subst hl;simp[gb,eg] at h;exact h.symm
  .have:eg (gb i a m) a=some l:=by have h2:(if (if k=i then a else x)=a then some k else eg (gb i a m) a)=some l:=h;rwa [if_neg (by rw[if_neg hl];exact hk _ (List.mem_cons_self ..))] at h2
   exact Fw (fun p hp=>hk p (List.mem_cons_of_mem _ hp)) this
theorem Ep{i:Nat}{a:ar}:∀{m:bq},B8 a m->k7 i m->eg (gb i a m) a=none
 |[],_,_=>rfl
 |(x,k) ::m,hk,hi=>by show(if (if k=i then a else x)=a then some k else eg (gb i a m) a)=none;have h1:k≠i:=(by have:=hi _ (List.mem_cons_self ..);simp at this;omega);rw[if_neg (by rw[if_neg h1];exact hk _ (List.mem_cons_self ..)),Ep (fun p hp=>hk p (List.mem_cons_of_mem _ hp)) (fun p hp=>hi p (List.mem_cons_of_mem _ hp))]
theorem E3{i j:Nat}{a s:ar}(hs:s≠a)(hj:j≠i):∀{e:List bq},mb e s=some j->mb (e.map (gb i a)) s=some j
 |[],h=>by cases h
 |m::e,h=>by
  unfold mb at h;show(match eg (gb i a m) s with|some l=>some l|none=>mb (e.map (gb i a)) s)=some j;cases hm:eg m s with
  |some l=>rw[hm] at h;cases h;rw[Dw hs hj hm]
  |none=>rw[hm] at h;rw[DV hs hm];exact E3 hs hj h
theorem E4{i:Nat}{a s:ar}:∀{e:List bq},(∀m∈e,B8 a m)->mb e s=some i->mb (e.map (gb i a)) a=some i
 |[],_,h=>by cases h
 |m::e,hk,h=>by
  have hm0:=hk m (List.mem_cons_self ..);unfold mb at h;show(match eg (gb i a m) a with|some l=>some l|none=>mb (e.map (gb i a)) a)=some i;cases hm:eg m s with
  |some l=>rw[hm] at h;cases h;rw[Er hm0 hm]
  |none=>
   rw[hm] at h;cases hn:eg (gb i a m) a with
   |some l=>rw[Fw hm0 hn]
   |none=>exact E4 (fun m h=>hk m (List.mem_cons_of_mem _ h)) h
theorem Fy{i j:Nat}{a:ar}{st:bo}:j8 (gi i a st) j=j8 st j:=by
 unfold j8 gi;simp only[List.getElem?_mapIdx,Option.map_map];cases st.bs[j]? with
 |none=>rfl
 |some p=>simp only[Option.map_some,Function.comp];split<;>rfl
theorem Ef{i:Nat}{a s:ar}{P:List Int->Bool}{own o:bq}{q:List Int}{a0:Nat}{st st':bo}(h:j5 own s q a0 st= .ok (o,st'))(hs:s≠a)(hk:B8 a own)(hi:k7 st.bs.length own)(hP:P q=true↔st.bs.length=i):j5 (gb i a own) (if P q then a else s) q a0 (gi i a st)= .ok (gb i a o,gi i a st')/\B8 a o/\k7 st'.bs.length o:=by
 obtain⟨h1,rfl,rfl⟩:=ve h;refine⟨?_,?_,?_⟩
 .have hl:(gi i a st).bs.length=st.bs.length:=(by simp[gi]);by_cases hp:P q=true
  .have hj:=hP.1 hp;rw[if_pos hp];unfold j5;rw[Ep hk (hj ▸ hi)];simp only[hl];simp[gb,gi,hj,List.mapIdx_append]
  .have hj:st.bs.length≠i:=fun h=>hp (hP.2 h);rw[if_neg hp];unfold j5;rw[DV hs h1];simp only[hl];simp[gb,gi,hj,List.mapIdx_append]
 .intro p hp;rcases List.mem_append.1 hp with hp|hp
  .exact hk p hp
  .obtain rfl:=List.mem_singleton.1 hp;exact hs
 .intro p hp;rcases List.mem_append.1 hp with hp|hp
  .have:=hi p hp;simp;omega
  .obtain rfl:=List.mem_singleton.1 hp;simp
theorem Gk{i:Nat}{a s:ar}{P:List Int->Bool}{env:List bq}{call:Bool}{n:Nat}{q:List Int}{a0:Nat}{st st':bo}(h:hY env call n s q a0 st= .ok st')(hs:s≠a)(hk:∀m∈env,B8 a m)(hP:∀e∈st'.ev,P e.1=true↔e.2=i):hY (env.map (gb i a)) call n (if P q then a else s) q a0 (gi i a st)= .ok (gi i a st'):=by
 obtain⟨j,h1,h2,rfl⟩:=CC h;have h3:=hP (q,j) (by simp);simp only at h3;by_cases hp:P q=true
 .obtain rfl:=h3.1 hp;rw[if_pos hp];unfold hY;rw[E4 hk h1];simp only[Fy,h2];rfl
 .have hj:j≠i:=fun h=>hp (h3.2 h);rw[if_neg hp];unfold hY;rw[E3 hs hj h1];simp only[Fy,h2];rfl
theorem k7.le{n m:Nat}{o:bq}(h:k7 n o)(hl:n<=m):k7 m o:=fun p hp=>fJ (h p hp) hl
theorem k9.ev{st st':bo}{q:List Int}{j:Nat}(h:k9 st st' q j){e:List Int×Nat}(he:e∈st.ev):e∈st'.ev:=by obtain⟨new,h1,_⟩:=h;rw[h1];exact List.mem_append_left _ he
theorem k9.len{st st':bo}{q:List Int}{j:Nat}(h:k9 st st' q j):st.bs.length<=st'.bs.length:=by obtain⟨_,_,_,_,h⟩:=h;exact h
structure DO (i:Nat) (a:ar) (r:lb) (o:bq) (st':bo):Prop where
 run:r= .ok (gb i a o,gi i a st')
 key:B8 a o
 ids:k7 st'.bs.length o
theorem IL{i:Nat}{a:ar}{r:lb}{o own:bq}{st st':bo}(h:DO i a r o st')(hk:B8 a own)(hi:k7 st.bs.length own)(hl:st.bs.length<=st'.bs.length):DO i a (CR (gb i a own) r) own st':=by refine⟨?_,hk,hi.le hl⟩;rw[h.run];rfl
mutual
theorem Ht (fe:bq) (i:Nat) (a:ar) (P:List Int->Bool) (hf:B8 a fe):∀(t:ag) (out:List bq) (own:bq) (q:List Int) (st:bo) (o:bq) (st':bo),da fe t out own q st= .ok (o,st')->t.noFunc->a∉t.names->(∀m∈out,B8 a m)->B8 a own->k7 st.bs.length own->(∀e∈st'.ev,P e.1=true↔e.2=i)->
 DO i a (da (gb i a fe) (t.rent P a q) (out.map (gb i a)) (gb i a own) q (gi i a st)) o st'
 | .node k s x ks,out,own,q,st,o,st',h,hn,ha,ho,hk,hi,hP=>by
  obtain⟨hk2,hnk⟩:=hn;have ha2:a∉bE ks:=fun h=>ha (by unfold ag.names;exact List.mem_append_right _ h);have hs:cG k=true->s≠a:=fun h h'=>ha (by unfold ag.names;rw[if_pos h];subst h';exact List.mem_append_left _ (List.mem_singleton.2 rfl));unfold da at h;unfold ag.rent da;rw[if_neg hk2] at h;rw[if_neg hk2];by_cases h4:k=4
  .rw[if_pos h4] at h;rw[if_pos h4];obtain⟨o1,st1,h1,h2⟩:=i9 h;have hg:=Cn fe ks _ _ _ _ _ _ _ h2;have hb:=ve h1;obtain⟨b1,b2,b3⟩:=Ef (i:=i) (a:=a) (P:=P) h1 (hs (by subst h4;rfl)) hk hi (by have:=hP (q,st.bs.length) (hg.ev (by rw[hb.2.2];simp[bo.next]));exact this)
   have b1':j5 (gb i a own) (if P q then a else s) q (gi i a st).at_ (gi i a st).next= .ok (gb i a o1,gi i a st1):=b1;rw[b1'];exact Da fe i a P hf ks out o1 q 0 st1 o st' h2 hnk ha2 ho b2 b3 hP
  rw[if_neg h4] at h;rw[if_neg h4];by_cases h5:k=5
  .rw[if_pos h5] at h;rw[if_pos h5];obtain⟨o1,h1,he⟩:=Cy h;subst he;have hg:=Cn fe ks _ _ _ _ _ _ _ h1;have:=Da fe i a P hf ks (o::out) [] q 0 st.next o1 st' h1 hnk ha2 (fun m hm=>by rcases List.mem_cons.1 hm with hm|hm;exact hm ▸ hk;exact ho m hm) (fun p hp=>by cases hp) (fun p hp=>by cases hp) hP;exact IL this hk hi hg.len
  rw[if_neg h5] at h;rw[if_neg h5];by_cases h6:k=6
  .rw[if_pos h6] at h;rw[if_pos h6];cases hl:eg own s with
   |some _=>rw[hl] at h;cases h
   |none=>
    rw[hl] at h;obtain⟨o1,st1,h1,h2⟩:=i9 h;have hg:=Cn fe ks _ _ _ _ _ _ _ h1;have hb:=ve h2;have hP1:∀e∈st1.ev,P e.1=true↔e.2=i:=fun e he=>hP e (by rw[hb.2.2];exact List.mem_append_left _ he);have hK:=Da fe i a P hf ks out own q 0 st.next o1 st1 h1 hnk ha2 ho hk hi hP1;have hPq:P q=true↔st1.bs.length=i:=hP (q,st1.bs.length) (by rw[hb.2.2];simp);obtain⟨b1,b2,b3⟩:=Ef (i:=i) (a:=a) (P:=P) h2 (hs (by subst h6;rfl)) hK.key hK.ids hPq;have hl':eg (gb i a own) (if P q then a else s)=none:=by
     by_cases hp:P q=true
     .rw[if_pos hp];have:=hPq.1 hp;exact Ep hk (this ▸ hi.le hg.len)
     .rw[if_neg hp];exact DV (hs (by subst h6;rfl)) hl
    rw[hl'];have hr:dq (gb i a fe) (db P a q 0 ks) (out.map (gb i a)) (gb i a own) q 0 (gi i a st).next= .ok (gb i a o1,gi i a st1):=hK.run;simp only[hr,oo];exact⟨b1,b2,b3⟩
  rw[if_neg h6] at h;rw[if_neg h6];by_cases h22:k=22
  .rw[if_pos h22] at h;rw[if_pos h22];obtain⟨st1,h1,h2⟩:=CG h;have hg:=Cn fe ks _ _ _ _ _ _ _ h2;obtain⟨j,_,_,h3⟩:=CC h1;have b1:=Gk (i:=i) (a:=a) (P:=P) h1 (hs (by subst h22;rfl)) (fun m hm=>by rcases List.mem_cons.1 hm with rfl|hm;exact hk;exact ho m hm) (fun e he=>hP e (hg.ev he));have b1':hY (gb i a own::out.map (gb i a)) false (db P a q 0 ks).length (if P q then a else s) q (gi i a st).at_ (gi i a st).next= .ok (gi i a st1):=(by rw[DJ];exact b1);rw[b1'];exact Da fe i a P hf ks out own q 0 st1 o st' h2 hnk ha2 ho hk (by rw[h3];exact hi) hP
  rw[if_neg h22] at h;rw[if_neg h22];by_cases h25:k=25
  .rw[if_pos h25] at h;rw[if_pos h25];obtain⟨st1,h1,h2⟩:=CG h;have hg:=Cn fe ks _ _ _ _ _ _ _ h2;obtain⟨j,_,_,h3⟩:=CC h1;have b1:=Gk (i:=i) (a:=a) (P:=P) h1 (hs (by subst h25;rfl)) (fun m hm=>by obtain rfl:=List.mem_singleton.1 hm;exact hf) (fun e he=>hP e (hg.ev he));have b1':hY [gb i a fe] true (db P a q 0 ks).length (if P q then a else s) q (gi i a st).at_ (gi i a st).next= .ok (gi i a st1):=(by rw[DJ];exact b1);rw[b1'];exact Da fe i a P hf ks out own q 0 st1 o st' h2 hnk ha2 ho hk (by rw[h3];exact hi) hP
  rw[if_neg h25] at h;rw[if_neg h25];exact Da fe i a P hf ks out own q 0 st.next o st' h hnk ha2 ho hk hi hP
theorem Da (fe:bq) (i:Nat) (a:ar) (P:List Int->Bool) (hf:B8 a fe):∀(ts:List ag) (out:List bq) (own:bq) (q:List Int) (j:Nat) (st:bo) (o:bq) (st':bo),dq fe ts out own q j st= .ok (o,st')->Dz ts->a∉bE ts->(∀m∈out,B8 a m)->B8 a own->k7 st.bs.length own->(∀e∈st'.ev,P e.1=true↔e.2=i)->
 DO i a (dq (gb i a fe) (db P a q j ts) (out.map (gb i a)) (gb i a own) q j (gi i a st)) o st'
 |[],out,own,q,j,st,o,st',h,hn,ha,ho,hk,hi,hP=>by
  unfold dq at h;cases h
  exact⟨rfl,hk,hi⟩
 |t::ts,out,own,q,j,st,o,st',h,hn,ha,ho,hk,hi,hP=>by unfold dq at h;obtain⟨o1,st1,h1,h2⟩:=i9 h;have hg:=Cn fe ts _ _ _ _ _ _ _ h2;unfold bE at ha;have hT:=Ht fe i a P hf t out own _ st o1 st1 h1 hn.1 (fun h=>ha (List.mem_append_left _ h)) ho hk hi (fun e he=>hP e (hg.ev he));unfold db dq;rw[hT.run];exact Da fe i a P hf ts out o1 q (j+1) st1 o st' h2 hn.2 (fun h=>ha (List.mem_append_right _ h)) ho hT.key hT.ids hP
end
def la(st:bo)(i n:Nat):bo:=⟨st.bs.mapIdx (fun j p=>if j=i then(p.1,n) else p),st.ev,st.all,st.at_⟩
def i6:List ag->Nat->Nat->bq->bo->lb
 |[],_,_,fe,st=>.ok (fe,st)
 |t::ts,k,a,fe,st=>oo (j5 fe t.text [(k:Int)] a st) fun fe1 st1=>i6 ts (k+1) (a+t.sz) fe1 (la st1 st.bs.length (match t.kids with|p::_=>p.kids.length|[]=>0))
def Cl:bo:=⟨[],[],[],0⟩
def bo.anew(st:bo):bo:=⟨st.bs,st.ev,[],0⟩
def gn(ks:List ag):lb:=oo (i6 ks 0 1 [] Cl) fun fe st=>dq fe ks [] [] [] 0 st.anew.next
def A7(t:ag):Prop:=∃s x p b,t= .node 2 s x [p,b]/\p.noFunc/\b.noFunc
theorem IG{i j n:Nat}{a:ar}{st:bo}:la (gi i a st) j n=gi i a (la st j n):=by
 unfold la gi;simp only[List.mapIdx_mapIdx]
 congr 1
 refine List.mapIdx_eq_mapIdx_iff.2 fun l hl=>?_;simp only[Function.comp];by_cases h1:l=i
 .by_cases h2:l=j
  .rw[if_pos h2,if_pos h1,if_pos h1,if_pos h2]
  .rw[if_neg h2,if_pos h1,if_pos h1,if_neg h2]
 .by_cases h2:l=j
  .rw[if_pos h2,if_neg h1,if_neg h1,if_pos h2]
  .rw[if_neg h2,if_neg h1,if_neg h1,if_neg h2]
theorem Iy{P:List Int->Bool}{a:ar}:∀(t:ag) (q:List Int),(t.rent P a q).sz=t.sz:=by intro t q;exact rent_sz_go t q
where
 rent_sz_go {P:List Int->Bool} {a:ar}:∀(t:ag) (q:List Int),(t.rent P a q).sz=t.sz
  | .node k s x ks,q=>by show 1+ao (db P a q 0 ks)=1+ao ks;rw[rentL_sz ks q 0]
 rentL_sz {P:List Int->Bool} {a:ar}:∀(ts:List ag) (q:List Int) (j:Nat),ao (db P a q j ts)=ao ts
  |[],q,j=>rfl
  |t::ts,q,j=>by show(t.rent P a (q++[(j:Int)])).sz+ao (db P a q (j+1) ts)=t.sz+ao ts;rw[rent_sz_go t _,rentL_sz ts q (j+1)]
theorem Fa(i:Nat)(a:ar)(P:List Int->Bool):∀(ts:List ag) (k a0:Nat) (fe:bq) (st:bo) (o:bq) (st':bo),i6 ts k a0 fe st= .ok (o,st')->(∀t∈ts,A7 t)->a∉bE ts->B8 a fe->k7 st.bs.length fe->(∀e∈st'.ev,P e.1=true↔e.2=i)->i6 (db P a [] k ts) k a0 (gb i a fe) (gi i a st)= .ok (gb i a o,gi i a st')/\B8 a o/\k7 st'.bs.length o/\(∃new,st'.ev=st.ev++new/\∀e∈new,∃m:Nat,e.1=[(m:Int)]/\k<=m)
 |[],k,a0,fe,st,o,st',h,hF,ha,hk,hi,hP=>by
  unfold i6 at h;cases h
  exact⟨rfl,hk,hi,[],by simp,by simp⟩
 |t::ts,k,a0,fe,st,o,st',h,hF,ha,hk,hi,hP=>by
  obtain⟨s,x,p,b,rfl,_,_⟩:=hF t (List.mem_cons_self ..);unfold i6 at h;obtain⟨o1,st1,h1,h2⟩:=i9 h;have hb:=ve h1;have ev:∃new,st'.ev=(la st1 st.bs.length p.kids.length).ev++new/\∀e∈new,∃m:Nat,e.1=[(m:Int)]/\k+1<=m:=fns_ev ts (k+1) _ _ _ _ _ h2;obtain⟨new,hn1,hn2⟩:=ev;have hs:s≠a:=fun h'=>ha (by subst h';simp[bE,ag.names,cG]);have hm:([(k:Int)],st.bs.length)∈st'.ev:=(by rw[hn1];exact List.mem_append_left _ (by rw[hb.2.2];simp[la]));obtain⟨b1,b2,b3⟩:=Ef (i:=i) (a:=a) (P:=P) h1 hs hk hi (hP _ hm);have hT:=Fa i a P ts (k+1) (a0+(ag.node 2 s x [p,b]).sz) o1 (la st1 st.bs.length p.kids.length) o st' h2 (fun t ht=>hF t (List.mem_cons_of_mem _ ht)) (fun h=>ha (by unfold bE;exact List.mem_append_right _ h)) b2 (by simpa[la] using b3) hP;refine⟨?_,hT.2.1,hT.2.2.1,?_⟩
  .unfold db i6;have e1:j5 (gb i a fe) ((ag.node 2 s x [p,b]).rent P a ([]++[(k:Int)])).text [(k:Int)] a0 (gi i a st)= .ok (gb i a o1,gi i a st1):=by
    have:((ag.node 2 s x [p,b]).rent P a ([]++[(k:Int)])).text=if P [(k:Int)] then a else s:=by simp[ag.rent,ag.text]
    rw[this];exact b1
   rw[e1];have e2:(match ((ag.node 2 s x [p,b]).rent P a ([]++[(k:Int)])).kids with|p::_=>p.kids.length|[]=>0)=p.kids.length:=by obtain⟨k',s',x',ks'⟩:=p;simp[ag.rent,ag.kids,db,DJ]
   have e3:(gi i a st).bs.length=st.bs.length:=(by simp[gi]);show i6 (db P a [] (k+1) ts) (k+1) (a0+((ag.node 2 s x [p,b]).rent P a ([]++[(k:Int)])).sz) (gb i a o1) (la (gi i a st1) (gi i a st).bs.length _)=_;rw[e2,e3,IG,Iy];exact hT.1
  .exact⟨([(k:Int)],st.bs.length) ::new,by rw[hn1,hb.2.2];simp[la],fun e he=>by
    rcases List.mem_cons.1 he with rfl|he
    .exact⟨k,rfl,ah _⟩
    .obtain⟨m,h1,h2⟩:=hn2 e he;exact⟨m,h1,by omega⟩⟩
where
 fns_ev:∀(ts:List ag) (k a0:Nat) (fe:bq) (st:bo) (o:bq) (st':bo),i6 ts k a0 fe st= .ok (o,st')->∃new,st'.ev=st.ev++new/\∀e∈new,∃m:Nat,e.1=[(m:Int)]/\k<=m
  |[],k,a0,fe,st,o,st',h=>by
   unfold i6 at h;cases h
   exact⟨[],by simp,by simp⟩
  |t::ts,k,a0,fe,st,o,st',h=>by
   unfold i6 at h;obtain⟨o1,st1,h1,h2⟩:=i9 h;have hb:=ve h1;obtain⟨new,hn1,hn2⟩:=fns_ev ts (k+1) _ _ _ _ _ h2;exact⟨([(k:Int)],st.bs.length) ::new,by rw[hn1,hb.2.2];simp[la],fun e he=>by
    rcases List.mem_cons.1 he with rfl|he
    .exact⟨k,rfl,ah _⟩
    .obtain⟨m,h1,h2⟩:=hn2 e he;exact⟨m,h1,by omega⟩⟩
theorem DT{m:bq}{x s:ar}{l:Nat}:eg (m++[(x,l)]) s=match eg m s with|some j=>some j|none=>if x=s then some l else none:=by
 induction m with
 |nil=>rfl
 |cons p m ih=>
  obtain⟨y,j⟩:=p;simp only[List.cons_append,eg];by_cases h:y=s
  .rw[if_pos h,if_pos h]
  .rw[if_neg h,if_neg h,ih]
theorem Du:∀(ts:List ag) (k a0:Nat) (fe:bq) (st:bo) (o:bq) (st':bo),i6 ts k a0 fe st= .ok (o,st')->(∀s j,eg fe s=some j->eg o s=some j)/\(∀m t,ts[m]? =some t->∃j,eg o t.text=some j/\([((k+m:Nat):Int)],j)∈st'.ev)/\∃new,st'.ev=st.ev++new/\(∀e∈new,∃m:Nat,e.1=[(m:Int)]/\k<=m)/\(new.map Prod.fst).Nodup
 |[],k,a0,fe,st,o,st',h=>by
  unfold i6 at h;cases h
  exact⟨fun _ _ h=>h,fun m t h=>by simp at h,[],by simp,by simp,by simp⟩
 |t::ts,k,a0,fe,st,o,st',h=>by
  unfold i6 at h;obtain⟨o1,st1,h1,h2⟩:=i9 h;obtain⟨hb1,rfl,hb3⟩:=ve h1;obtain⟨g1,g2,new,g3,g4,g5⟩:=Du ts (k+1) _ _ _ _ _ h2;have hev:st'.ev=st.ev++(([(k:Int)],st.bs.length) ::new):=(by rw[g3,hb3];simp[la]);refine⟨fun s j hs=>g1 s j (by rw[DT,hs]),fun m u hu=>?_,([(k:Int)],st.bs.length) ::new,hev,fun e he=>?_,?_⟩
  .cases m with
   |zero=>simp at hu;subst hu;exact⟨st.bs.length,g1 _ _ (by rw[DT,hb1];simp),by rw[hev];simp⟩
   |succ m=>obtain⟨j,h3,h4⟩:=g2 m u (by simpa using hu);exact⟨j,h3,by rwa [show k+(m+1)=k+1+m by omega]⟩
  .rcases List.mem_cons.1 he with rfl|he
   .exact⟨k,rfl,ah _⟩
   .obtain⟨m,h3,h4⟩:=g4 e he;exact⟨m,h3,by omega⟩
  .simp only[List.map_cons,List.nodup_cons];refine⟨fun hm=>?_,g5⟩;obtain⟨e,he,h3⟩:=List.mem_map.1 hm;obtain⟨m,h4,h5⟩:=g4 e he;rw[h4] at h3;simp at h3;omega
theorem Dl(fe:bq):∀(ts:List ag) (out:List bq) (own:bq) (k:Nat) (st:bo) (o:bq) (st':bo),dq fe ts out own [] k st= .ok (o,st')->(∀t∈ts,A7 t)->o=own/\st.bs.length<=st'.bs.length/\∃new,st'.ev=st.ev++new/\(∀e∈new,∃(m m':Nat) (r:List Int),e.1=(m:Int) :: (m':Int) ::r/\k<=m)/\(new.map Prod.fst).Nodup
 |[],out,own,k,st,o,st',h,_=>by
  unfold dq at h;cases h
  exact⟨rfl,ah _,[],by simp,by simp,by simp⟩
 |t::ts,out,own,k,st,o,st',h,hF=>by
  obtain⟨s,x,p,b,rfl,_,_⟩:=hF t (List.mem_cons_self ..);unfold dq at h;obtain⟨o1,st1,h1,h2⟩:=i9 h;unfold da at h1;rw[if_pos rfl] at h1;obtain⟨o2,h3,rfl⟩:=Cy h1;obtain⟨n1,a1,a2,a3,a4⟩:=Cn fe [p,b] _ _ _ _ _ _ _ h3;obtain⟨rfl,b0,n2,b1,b2,b3⟩:=Dl fe ts _ _ _ _ _ _ h2 (fun t ht=>hF t (List.mem_cons_of_mem _ ht));refine⟨rfl,aJ a4 b0,n1++n2,by rw[b1,a1];simp[bo.func,bo.next],fun e he=>?_,?_⟩
  .rcases List.mem_append.1 he with he|he
   .obtain⟨m,r,_,hr⟩:=a2 e he;exact⟨k,m,r,by rw[hr];simp,ah _⟩
   .obtain⟨m,m',r,hr,hm⟩:=b2 e he;exact⟨m,m',r,hr,by omega⟩
  .rw[List.map_append,List.nodup_append];refine⟨a3,b3,fun u hu v hv huv=>?_⟩;obtain⟨e,he,rfl⟩:=List.mem_map.1 hu;obtain⟨f,hf,rfl⟩:=List.mem_map.1 hv;obtain⟨m,r,_,hr⟩:=a2 e he;obtain⟨m',m'',r',hr',hm'⟩:=b2 f hf;rw[hr,hr'] at huv;simp at huv;omega
theorem Fg(fe:bq)(i:Nat)(a:ar)(P:List Int->Bool)(hf:B8 a fe):∀(ts:List ag) (out:List bq) (k:Nat) (st:bo) (o:bq) (st':bo),dq fe ts out [] [] k st= .ok (o,st')->(∀t∈ts,A7 t)->a∉bE ts->(∀m∈out,B8 a m)->(∀e∈st'.ev,P e.1=true↔e.2=i)->(∀m t,ts[m]? =some t->∃j,eg fe t.text=some j/\(P [((k+m:Nat):Int)]=true↔j=i))->dq (gb i a fe) (db P a [] k ts) (out.map (gb i a)) [] [] k (gi i a st)= .ok ([],gi i a st')
 |[],out,k,st,o,st',h,hF,ha,ho,hP,hL=>by
  unfold dq at h;cases h
  rfl
 |t::ts,out,k,st,o,st',h,hF,ha,ho,hP,hL=>by
  obtain⟨s,x,p,b,rfl,hp,hb⟩:=hF t (List.mem_cons_self ..);unfold dq at h;obtain⟨o1,st1,h1,h2⟩:=i9 h;unfold da at h1;rw[if_pos rfl] at h1;obtain⟨o2,h3,rfl⟩:=Cy h1;obtain⟨_,b0,n2,b1,b2,b3⟩:=Dl fe ts _ _ _ _ _ _ h2 (fun t ht=>hF t (List.mem_cons_of_mem _ ht));have hs:s≠a:=fun h'=>ha (by subst h';simp[bE,ag.names,cG]);obtain⟨j,hj1,hj2⟩:=hL 0 _ rfl;rw[Nat.add_zero] at hj2;have hj1':eg fe s=some j:=hj1;have hq:eg (gb i a fe) (if P [(k:Int)] then a else s)=some j:=by
   by_cases hp:P [(k:Int)]=true
   .obtain rfl:=hj2.1 hp;rw[if_pos hp];exact Er hf hj1'
   .rw[if_neg hp];exact Dw hs (fun h=>hp (hj2.2 h)) hj1'
  have hK:=Da fe i a P hf [p,b] ([] ::out) [] [(k:Int)] 0 (st.next.func j) o2 st1 (by rw[hj1'] at h3;exact h3) ⟨hp,hb,trivial⟩ (fun h=>ha (by unfold bE ag.names;exact List.mem_append_left _ (List.mem_append_right _ h))) (fun m hm=>by
   rcases List.mem_cons.1 hm with h|hm
   .subst h;intro p hp;cases hp
   .exact ho m hm) (fun p hp=>by cases hp) (fun p hp=>by cases hp) (fun e he=>hP e (by rw[b1];exact List.mem_append_left _ he))
  unfold db dq;have e1:da (gb i a fe) ((ag.node 2 s x [p,b]).rent P a ([]++[(k:Int)])) (out.map (gb i a)) [] ([]++[(k:Int)]) (gi i a st)= .ok ([],gi i a st1):=by show da (gb i a fe) (.node 2 (if P [(k:Int)] then a else s) x (db P a [(k:Int)] 0 [p,b])) (out.map (gb i a)) [] [(k:Int)] (gi i a st)=_;unfold da;rw[if_pos rfl,hq];have:=hK.run;show CR [] (dq (gb i a fe) (db P a [(k:Int)] 0 [p,b]) (([] ::out).map (gb i a)) (gb i a []) [(k:Int)] 0 (gi i a (st.next.func j)))=_;rw[this];rfl
  rw[e1];exact Fg fe i a P hf ts out (k+1) st1 o st' h2 (fun t ht=>hF t (List.mem_cons_of_mem _ ht)) (fun h=>ha (by unfold bE;exact List.mem_append_right _ h)) ho hP (fun m t ht=>by obtain⟨j,h4,h5⟩:=hL (m+1) t (by simpa using ht);exact⟨j,h4,by rwa [show k+1+m=k+(m+1) by omega]⟩)
def l5(st:bo)(i:Nat)(q:List Int):Bool:=decide ((q,i)∈st.ev)
theorem Eo{ks:List ag}{o:bq}{st:bo}(h:gn ks= .ok (o,st))(hF:∀t∈ks,A7 t):(st.ev.map Prod.fst).Nodup:=by unfold gn at h;obtain⟨fe,st1,h1,h2⟩:=i9 h;obtain⟨_,_,n1,a1,a2,a3⟩:=Du ks 0 1 [] Cl fe st1 h1;obtain⟨_,_,n2,b1,b2,b3⟩:=Dl fe ks [] [] 0 _ o st h2 hF;have:st.ev=n1++n2:=(by rw[b1];show st1.ev++n2=_;rw[a1];rfl);rw[this,List.map_append,List.nodup_append];refine⟨a3,b3,fun u hu v hv huv=>?_⟩;obtain⟨e,he,rfl⟩:=List.mem_map.1 hu;obtain⟨f,hf,rfl⟩:=List.mem_map.1 hv;obtain⟨m,h3,_⟩:=a2 e he;obtain⟨m',m'',r,h4,_⟩:=b2 f hf;rw[h3,h4] at huv;simp at huv
theorem Et{l:List (List Int×Nat)}(h:(l.map Prod.fst).Nodup){q:List Int}{i j:Nat}(hi:(q,i)∈l)(hj:(q,j)∈l):i=j:=by
 induction l with
 |nil=>cases hi
 |cons p l ih=>
  simp only[List.map_cons,List.nodup_cons] at h;rcases List.mem_cons.1 hi with h1|h1
  .rcases List.mem_cons.1 hj with h2|h2
   .rw[<-h1] at h2;injection h2 with _ h2;exact h2.symm
   .exact absurd (List.mem_map.2 ⟨_,h2,rfl⟩) (by rw[<-h1] at h;exact h.1)
  .rcases List.mem_cons.1 hj with h2|h2
   .exact absurd (List.mem_map.2 ⟨_,h1,rfl⟩) (by rw[<-h2] at h;exact h.1)
   .exact ih h.2 h1 h2
theorem He{ks:List ag}{o:bq}{st:bo}(i:Nat)(a:ar)(h:gn ks= .ok (o,st))(hF:∀t∈ks,A7 t)(ha:a∉bE ks):gn (db (l5 st i) a [] 0 ks)= .ok ([],gi i a st):=by
 have hN:=Eo h hF;have hP:∀e∈st.ev,l5 st i e.1=true↔e.2=i:=fun e he=>by unfold l5;rw[decide_eq_true_iff];exact⟨fun h1=>Et hN he h1,fun h1=>by rw[<-h1];exact he⟩
 unfold gn at h;obtain⟨fe,st1,h1,h2⟩:=i9 h;obtain⟨_,g2,_⟩:=Du ks 0 1 [] Cl fe st1 h1;obtain⟨_,_,n2,b1,b2,b3⟩:=Dl fe ks [] [] 0 _ o st h2 hF;have hsub:∀e∈st1.ev,e∈st.ev:=fun e he=>by rw[b1];exact List.mem_append_left _ he
 obtain⟨r1,r2,r3,_⟩:=Fa i a (l5 st i) ks 0 1 [] Cl fe st1 h1 hF ha (fun p hp=>by cases hp) (fun p hp=>by cases hp) (fun e he=>hP e (hsub e he));have r1':i6 (db (l5 st i) a [] 0 ks) 0 1 [] Cl= .ok (gb i a fe,gi i a st1):=r1;unfold gn;rw[r1'];exact Fg fe i a (l5 st i) r2 ks [] 0 st1.anew.next o st h2 hF ha (fun m hm=>by cases hm) hP (fun m t ht=>by obtain⟨j,h3,h4⟩:=g2 m t ht;exact⟨j,h3,hP _ (hsub _ h4)⟩)
mutual
def ag.setAt (a:ar):List Int->ag->ag
 |[],.node k _ x ks=>.node k a x ks
 |z::p,.node k s x ks=>.node k s x (Cb a z.toNat p ks)
def Cb (a:ar):Nat->List Int->List ag->List ag
 |_,_,[]=>[]
 |0,p,t::ts=>t.setAt a p::ts
 |n+1,p,t::ts=>t::Cb a n p ts
end
mutual
def ag.kindAt:List Int->ag->Option Nat
 |[],.node k _ _ _=>some k
 |z::p,.node _ _ _ ks=>if z<0 then none else np z.toNat p ks
def np:Nat->List Int->List ag->Option Nat
 |_,_,[]=>none
 |0,p,t::_=>t.kindAt p
 |n+1,p,_::ts=>np n p ts
end
mutual
theorem FU (a:ar):∀(t:ag) (q:List Int),t.rent (fun _=>false) a q=t
 | .node k s x ks,q=>by show ag.node k s x (db (fun _=>false) a q 0 ks)=_;rw[FQ a ks q 0]
theorem FQ (a:ar):∀(ts:List ag) (q:List Int) (j:Nat),db (fun _=>false) a q j ts=ts
 |[],_,_=>rfl
 |t::ts,q,j=>by show t.rent (fun _=>false) a (q++[(j:Int)]) ::db (fun _=>false) a q (j+1) ts=_;rw[FU a t _,FQ a ts q (j+1)]
end
mutual
theorem DK {P Q:List Int->Bool} {a:ar}:∀(t:ag) (q:List Int),(∀r,P (q++r)=Q (q++r))->t.rent P a q=t.rent Q a q
 | .node k s x ks,q,h=>by show ag.node k (if P q then a else s) x (db P a q 0 ks)= .node k (if Q q then a else s) x (db Q a q 0 ks);have h0:=h [];rw[List.append_nil] at h0;rw[h0,D2 ks q 0 (fun m r _=>by have:=h ((m:Int) ::r);exact this)]
theorem D2 {P Q:List Int->Bool} {a:ar}:∀(ts:List ag) (q:List Int) (j:Nat),(∀(m:Nat) r,j<=m->P (q++(m:Int) ::r)=Q (q++(m:Int) ::r))->db P a q j ts=db Q a q j ts
 |[],_,_,_=>rfl
 |t::ts,q,j,h=>by show t.rent P a (q++[(j:Int)]) ::db P a q (j+1) ts=t.rent Q a (q++[(j:Int)]) ::db Q a q (j+1) ts;rw[DK t _ (fun r=>by have:=h j r (ah _);simpa using this),D2 ts q (j+1) (fun m r hm=>h m r (by omega))]
end
def Ck(P:List Int->Bool)(p:List Int):List Int->Bool:=fun r=>P r || decide (r=p)
mutual
theorem FW {P:List Int->Bool} {a:ar}:∀(t:ag) (q p:List Int),(∀z∈p,0<=z)->(t.rent P a q).setAt a p=t.rent (Ck P (q++p)) a q
 | .node k s x ks,q,[],_=>by show ag.node k a x (db P a q 0 ks)= .node k (if Ck P (q++[]) q then a else s) x (db (Ck P (q++[])) a q 0 ks);rw[if_pos (by simp[Ck]),D2 (Q:=Ck P (q++[])) ks q 0 (fun m r _=>by simp[Ck])]
 | .node k s x ks,q,z::p,h=>by have hz:0<=z:=h z (List.mem_cons_self ..);show ag.node k (if P q then a else s) x (Cb a z.toNat p (db P a q 0 ks))= .node k (if Ck P (q++z::p) q then a else s) x (db (Ck P (q++z::p)) a q 0 ks);rw[show Ck P (q++z::p) q=P q by simp[Ck],FS ks q z.toNat p 0 (fun z hz=>h z (List.mem_cons_of_mem _ hz)),Nat.zero_add,Int.toNat_of_nonneg hz]
theorem FS {P:List Int->Bool} {a:ar}:∀(ts:List ag) (q:List Int) (n:Nat) (p:List Int) (j:Nat),(∀z∈p,0<=z)->Cb a n p (db P a q j ts)=db (Ck P (q++((j+n:Nat):Int) ::p)) a q j ts
 |[],q,n,p,j,_=>by cases n<;>rfl
 |t::ts,q,0,p,j,h=>by
  show(t.rent P a (q++[(j:Int)])).setAt a p::db P a q (j+1) ts=t.rent _ a (q++[(j:Int)]) ::db _ a q (j+1) ts;rw[FW t _ p h,D2 (Q:=Ck P (q++((j+0:Nat):Int) ::p)) ts q (j+1) (fun m r hm=>by
   have:¬((m:Int)=(j:Int)/\r=p):=fun h=>by omega
   simp[Ck,this])]
  simp
 |t::ts,q,n+1,p,j,h=>by
  show t.rent P a (q++[(j:Int)]) ::Cb a n p (db P a q (j+1) ts)=t.rent _ a (q++[(j:Int)]) ::db _ a q (j+1) ts;rw[FS ts q n p (j+1) h,show j+1+n=j+(n+1) by omega,DK (P:=P) (Q:=Ck P (q++((j+(n+1):Nat):Int) ::p)) t _ (fun r=>by
   have:¬((j:Int)=((j+(n+1):Nat):Int)/\r=p):=fun h=>by omega
   simp only[Ck,List.append_assoc,List.singleton_append];rw[show decide (q++(j:Int) ::r=q++((j+(n+1):Nat):Int) ::p)=false from decide_eq_false fun h=>this (by simpa using h),Bool.or_false])]
end
theorem FT{a:ar}:∀(ps:List (List Int)) (P:List Int->Bool) (t:ag),(∀p∈ps,∀z∈p,0<=z)->ps.foldl (fun t p=>t.setAt a p) (t.rent P a [])=t.rent (fun r=>P r || ps.contains r) a []
 |[],P,t,_=>by simp only[List.foldl_nil];exact DK t [] (fun r=>by simp)
 |p::ps,P,t,h=>by simp only[List.foldl_cons];rw[FW t [] p (h p (List.mem_cons_self ..)),FT ps _ t (fun p hp=>h p (List.mem_cons_of_mem _ hp))];refine DK t [] fun r=>?_;simp only[Ck,List.nil_append,List.contains_cons,Bool.or_assoc];rw[show(r == p)=decide (r=p) from by by_cases h:r=p<;>simp[h]]
mutual
theorem Ix {P Q:List Int->Bool} {a b:ar}:∀(t:ag) (q:List Int),(∀r,¬(P (q++r)=true/\Q (q++r)=true))->(t.rent P a q).rent Q b q=(t.rent Q b q).rent P a q
 | .node k s x ks,q,h=>by show ag.node k (if Q q then b else if P q then a else s) x (db Q b q 0 (db P a q 0 ks))= .node k (if P q then a else if Q q then b else s) x (db P a q 0 (db Q b q 0 ks));have h0:=h [];rw[List.append_nil] at h0;rw[EB ks q 0 (fun m r _=>h ((m:Int) ::r))];cases hp:P q<;>cases hq:Q q<;>simp_all
theorem EB {P Q:List Int->Bool} {a b:ar}:∀(ts:List ag) (q:List Int) (j:Nat),(∀(m:Nat) r,j<=m->¬(P (q++(m:Int) ::r)=true/\Q (q++(m:Int) ::r)=true))->db Q b q j (db P a q j ts)=db P a q j (db Q b q j ts)
 |[],_,_,_=>rfl
 |t::ts,q,j,h=>by show(t.rent P a (q++[(j:Int)])).rent Q b (q++[(j:Int)]) ::db Q b q (j+1) (db P a q (j+1) ts)=(t.rent Q b (q++[(j:Int)])).rent P a (q++[(j:Int)]) ::db P a q (j+1) (db Q b q (j+1) ts);rw[Ix t _ (fun r=>by have:=h j r (ah _);simpa using this),EB ts q (j+1) (fun m r hm=>h m r (by omega))]
end
def EO(t:ag)(q:List Int)(st st':bo):Prop:=∀e∈st'.ev,e∈st.ev∨∃r k,e.1=q++r/\t.kindAt r=some k/\cG k=true
def Ea(ts:List ag)(q:List Int)(j:Nat)(st st':bo):Prop:=∀e∈st'.ev,e∈st.ev∨∃(m:Nat) (r:List Int) (k:Nat),e.1=q++((j+m:Nat):Int) ::r/\np m r ts=some k/\cG k=true
theorem Ea.node{k:Nat}{s:ar}{x:Int}{ks:List ag}{q:List Int}{st st1 st':bo}(h:Ea ks q 0 st1 st')(he:∀e∈st1.ev,e∈st.ev∨(e.1=q/\cG k=true)):EO (.node k s x ks) q st st':=by
 intro e hm;rcases h e hm with h1|⟨m,r,k',h1,h2,h3⟩
 .rcases he e h1 with h4|⟨h4,h5⟩
  .exact .inl h4
  .exact .inr ⟨[],k,by rw[h4];simp,rfl,h5⟩
 .exact .inr ⟨(m:Int) ::r,k',by rw[h1,Nat.zero_add],by show(if (m:Int)<0 then none else np (m:Int).toNat r ks)=_;rw[if_neg (by omega)];exact h2,h3⟩
mutual
theorem Hq (fe:bq):∀(t:ag) (out:List bq) (own:bq) (q:List Int) (st:bo) (o:bq) (st':bo),da fe t out own q st= .ok (o,st')->EO t q st st'
 | .node k s x ks,out,own,q,st,o,st',h=>by
  unfold da at h;split at h
  .obtain⟨o1,h1,_⟩:=Cy h;exact(CX fe ks _ _ _ _ _ _ _ h1).node fun e he=>.inl he
  split at h
  .rename_i hk;obtain⟨o1,st1,h1,h2⟩:=i9 h;obtain⟨_,rfl,rfl⟩:=ve h1;exact(CX fe ks _ _ _ _ _ _ _ h2).node fun e he=>by
    rcases List.mem_append.1 he with he|he
    .exact .inl he
    .obtain rfl:=List.mem_singleton.1 he;exact .inr ⟨rfl,by subst hk;rfl⟩
  split at h
  .obtain⟨o1,h1,_⟩:=Cy h;exact(CX fe ks _ _ _ _ _ _ _ h1).node fun e he=>.inl he
  split at h
  .rename_i hk;split at h
   .cases h
   .obtain⟨o1,st1,h1,h2⟩:=i9 h;obtain⟨_,rfl,rfl⟩:=ve h2;have hN:=(CX fe ks _ _ _ _ _ _ _ h1).node (k:=k) (s:=s) (x:=x) (st:=st) fun e he=>.inl he;intro e he;rcases List.mem_append.1 he with he|he
    .exact hN e he
    .obtain rfl:=List.mem_singleton.1 he;exact .inr ⟨[],k,by simp,rfl,by subst hk;rfl⟩
  split at h
  .rename_i hk;obtain⟨st1,h1,h2⟩:=CG h;obtain⟨i,_,_,rfl⟩:=CC h1;exact(CX fe ks _ _ _ _ _ _ _ h2).node fun e he=>by
    rcases List.mem_append.1 he with he|he
    .exact .inl he
    .obtain rfl:=List.mem_singleton.1 he;exact .inr ⟨rfl,by subst hk;rfl⟩
  split at h
  .rename_i hk;obtain⟨st1,h1,h2⟩:=CG h;obtain⟨i,_,_,rfl⟩:=CC h1;exact(CX fe ks _ _ _ _ _ _ _ h2).node fun e he=>by
    rcases List.mem_append.1 he with he|he
    .exact .inl he
    .obtain rfl:=List.mem_singleton.1 he;exact .inr ⟨rfl,by subst hk;rfl⟩
  .exact(CX fe ks _ _ _ _ _ _ _ h).node fun e he=>.inl he
theorem CX (fe:bq):∀(ts:List ag) (out:List bq) (own:bq) (q:List Int) (j:Nat) (st:bo) (o:bq) (st':bo),dq fe ts out own q j st= .ok (o,st')->Ea ts q j st st'
 |[],out,own,q,j,st,o,st',h=>by
  unfold dq at h;cases h
  exact fun e he=>.inl he
 |t::ts,out,own,q,j,st,o,st',h=>by
  unfold dq at h;obtain⟨o1,st1,h1,h2⟩:=i9 h;have a1:=Hq fe t _ _ _ _ _ _ h1;have a2:=CX fe ts _ _ _ _ _ _ _ h2;intro e he;rcases a2 e he with h3|⟨m,r,k,h3,h4,h5⟩
  .rcases a1 e h3 with h6|⟨r,k,h6,h7,h8⟩
   .exact .inl h6
   .exact .inr ⟨0,r,k,by rw[h6,Nat.add_zero];simp,h7,h8⟩
  .exact .inr ⟨m+1,r,k,by rw[h3,show j+1+m=j+(m+1) by omega],h4,h5⟩
end
theorem DU{ks:List ag}{o:bq}{st:bo}(h:gn ks= .ok (o,st))(hF:∀t∈ks,A7 t):∀e∈st.ev,∃(m:Nat) (r:List Int) (k:Nat),e.1=(m:Int) ::r/\np m r ks=some k/\cG k=true:=by
 unfold gn at h;obtain⟨fe,st1,h1,h2⟩:=i9 h;obtain⟨_,_,n1,a1,a2,a3⟩:=Du ks 0 1 [] Cl fe st1 h1;have hk:∀(ts:List ag) (k a0:Nat) (fe:bq) (st:bo) (o:bq) (st':bo),i6 ts k a0 fe st= .ok (o,st')->(∀t∈ts,A7 t)->∀e∈st'.ev,e∈st.ev∨∃(m:Nat),e.1=[((k+m:Nat):Int)]/\np m [] ts=some 2:=by
  intro ts;induction ts with
  |nil=>
   intro k a0 fe st o st' h _ e he;unfold i6 at h;cases h
   exact .inl he
  |cons t ts ih=>
   intro k a0 fe st o st' h hF e he;unfold i6 at h;obtain⟨o1,st1,h1,h2⟩:=i9 h;obtain⟨_,_,rfl⟩:=ve h1;rcases ih _ _ _ _ _ _ h2 (fun t ht=>hF t (List.mem_cons_of_mem _ ht)) e he with h3|⟨m,h3,h4⟩
   .rcases List.mem_append.1 (show e∈st.ev++[([(k:Int)],st.bs.length)] from h3) with h3|h3
    .exact .inl h3
    .obtain rfl:=List.mem_singleton.1 h3;obtain⟨s,x,p,b,rfl,_,_⟩:=hF t (List.mem_cons_self ..);exact .inr ⟨0,by simp,rfl⟩
   .exact .inr ⟨m+1,by rw[h3,show k+1+m=k+(m+1) by omega],h4⟩
 intro e he;rcases CX fe ks _ _ _ _ _ _ _ h2 e he with h3|⟨m,r,k,h3,h4,h5⟩
 .rcases hk ks 0 1 [] Cl fe st1 h1 hF e h3 with h6|⟨m,h6,h7⟩
  .cases h6
  .exact⟨m,[],2,by rw[h6,Nat.zero_add],h7,rfl⟩
 .exact⟨m,r,k,by rw[h3,Nat.zero_add];rfl,h4,h5⟩
mutual
theorem FV {P:List Int->Bool} {a:ar} (ha:be a=true):∀(t:ag) (q:List Int) (d:Nat),(∀r,P (q++r)=true->∀k,t.kindAt r=some k->cG k=true)->cE d t=true->cE d (t.rent P a q)=true
 | .node k s x ks,q,d,h,hr=>by
  have e1:(t:ag)->(q:List Int)->(t.rent P a q).kind=t.kind:=fun t q=>by cases t;rfl
  unfold cE at hr;unfold ag.rent cE;cases hrow:cp k with
  |none=>rw[hrow] at hr;cases hr
  |some p=>
   obtain⟨l,all⟩:=p;rw[hrow] at hr;simp only[Bool.and_eq_true] at hr ⊢;obtain⟨⟨⟨⟨h1,h2⟩,h3⟩,h4⟩,h5⟩:=hr;refine⟨⟨⟨⟨h1,?_⟩,by rw[DJ];exact h3⟩,FR ha ks q 0 k 0 (d+1) (fun m r hP=>h ((m:Int) ::r) (by simpa using hP)) h4⟩,?_⟩
   .by_cases hp:P q=true
    .rw[if_pos hp];have hn:=h [] (by rw[List.append_nil];exact hp) k rfl;have hk:k=2∨k=4∨k=6∨k=22∨k=25:=(by simp[cG,Bool.or_eq_true] at hn;omega);have hx:(x != 0)=false:=by
      cases hx:x != 0 with
      |false=>rfl
      |true=>rcases hk with rfl|rfl|rfl|rfl|rfl<;> (unfold dx at h2;simp[hx] at h2)
     rcases hk with rfl|rfl|rfl|rfl|rfl<;> (unfold dx;simp[hx,cG,ha])
    .rw[if_neg hp];exact h2
   .match ks,h5 with
    |[],h5=>exact h5
    | .node k1 s1 x1 ks1::ks,h5=>
     by_cases hk1:k1=22
     .subst hk1;simp[db,ag.rent]
     .match ks1,h5 with
      |[],h5=>simpa[db,ag.rent,hk1] using h5
      | .node k2 s2 x2 ks2::us,h5=>
       by_cases hk2:k2=22
       .subst hk2;simp[db,ag.rent]
       .simpa[db,ag.rent,hk1,hk2] using h5
theorem FR {P:List Int->Bool} {a:ar} (ha:be a=true):∀(ts:List ag) (q:List Int) (j k i d:Nat),(∀(m:Nat) r,P (q++((j+m:Nat):Int) ::r)=true->∀k,(.node k [] 0 ts:ag).kindAt ((m:Int) ::r)=some k->cG k=true)->bV k i d ts=true->bV k i d (db P a q j ts)=true
 |[],_,_,_,_,_,_,_=>rfl
 |t::ts,q,j,k,i,d,h,hr=>by unfold bV at hr;unfold db bV;simp only[Bool.and_eq_true] at hr ⊢;have e1:(t.rent P a (q++[(j:Int)])).kind=t.kind:=(by cases t;rfl);refine⟨⟨by rw[e1];exact hr.1.1,FV ha t _ d (fun r hP k hk=>h 0 r (by simpa using hP) k (by simpa[ag.kindAt,np] using hk)) hr.1.2⟩,FR ha ts q (j+1) k (i+1) d (fun m r hP k hk=>h (m+1) r (by rwa [show j+(m+1)=j+1+m by omega]) k ?_) hr.2⟩;have h2:(if (m:Int)<0 then none else np (m:Int).toNat r ts)=some k:=hk;show(if ((m+1:Nat):Int)<0 then none else np ((m+1:Nat):Int).toNat r (t::ts))=some k;rw[if_neg (by omega)] at h2 ⊢;exact h2
end
theorem Fk{k of:Nat}(ho:of=3∨of=4∨of=5∨of=25∨of=200∨of=201∨of=202)(h:fP k of=true):k≠1/\k≠2:=by unfold fP at h;rcases ho with rfl|rfl|rfl|rfl|rfl|rfl|rfl<;>simp at h<;>omega
theorem El{k kid i:Nat}(hk:k≠1)(h:ed k kid i=true):kid≠1/\kid≠2:=by
 unfold ed at h;cases hr:cp k with
 |none=>rw[hr] at h;cases h
 |some p=>
  obtain⟨l,all⟩:=p;have hl:(all=true->l.headD 0=3∨l.headD 0=4∨l.headD 0=5∨l.headD 0=25∨l.headD 0=200∨l.headD 0=201∨l.headD 0=202)/\∀o∈l,o=3∨o=4∨o=5∨o=25∨o=200∨o=201∨o=202:=by unfold cp at hr;split at hr<;>first|contradiction|(cases hr;simp)|exact absurd rfl hk
  rw[hr] at h;cases all with
  |true=>exact Fk (hl.1 rfl) h
  |false=>
   cases hg:l[i]? with
   |none=>simp[hg] at h
   |some o=>simp only[hg] at h;exact Fk (hl.2 o (List.mem_of_getElem? hg)) h
mutual
theorem ED:∀(t:ag) (d:Nat),t.kind≠1->t.kind≠2->cE d t=true->t.noFunc
 | .node k s x ks,d,h1,h2,h=>by
  refine⟨h2,?_⟩;unfold cE at h;cases hr:cp k with
  |none=>rw[hr] at h;cases h
  |some p=>obtain⟨l,all⟩:=p;rw[hr] at h;simp only[Bool.and_eq_true] at h;exact FY ks k 0 (d+1) h1 h.1.2
theorem FY:∀(ts:List ag) (k i d:Nat),k≠1->bV k i d ts=true->Dz ts
 |[],_,_,_,_,_=>trivial
 |t::ts,k,i,d,hk,h=>by unfold bV at h;simp only[Bool.and_eq_true] at h;obtain⟨h1,h2⟩:=El hk h.1.1;exact⟨ED t d h1 h2 h.1.2,FY ts k (i+1) d hk h.2⟩
end
theorem G0{t:ag}{d:Nat}(hk:t.kind=2)(h:cE d t=true):A7 t:=by
 obtain⟨k,s,x,ks⟩:=t;obtain rfl:k=2:=hk;unfold cE at h;simp only[cp,Bool.and_eq_true,Bool.false_or] at h;obtain⟨⟨⟨_,h3⟩,h4⟩,_⟩:=h;match ks,h3,h4 with
 |[],h3,_=>simp at h3
 |[_],h3,_=>simp at h3
 |[p,b],_,h4=>unfold bV bV at h4;simp only[Bool.and_eq_true] at h4;obtain⟨⟨h5,h6⟩,⟨h7,h8⟩,_⟩:=h4;obtain⟨a1,a2⟩:=El (by decide) h5;obtain⟨b1,b2⟩:=El (by decide) h7;exact⟨s,x,p,b,rfl,ED p _ a1 a2 h6,ED b _ b1 b2 h8⟩
 |_::_::_::_,h3,_=>simp at h3
theorem Fe:∀{ts:List ag} {i d:Nat},bV 1 i d ts=true->∀t∈ts,A7 t
 |[],_,_,_,t,ht=>by cases ht
 |u::ts,i,d,h,t,ht=>by
  unfold bV at h;simp only[Bool.and_eq_true] at h;rcases List.mem_cons.1 ht with rfl|ht
  .exact G0 (by have:=h.1.1;simpa[ed,cp,fP] using this) h.1.2
  .exact Fe h.2 t ht
theorem CP{t:ag}(hk:t.kind=1)(h:pi t=true):∀u∈t.kids,A7 u:=by obtain⟨k,s,x,ks⟩:=t;obtain rfl:k=1:=hk;unfold pi cE at h;simp only[cp,Bool.and_eq_true] at h;exact Fe h.1.2
mutual
theorem Iw {P:List Int->Bool} {a b:ar} (hb:b≠a):∀(t:ag) (q:List Int),b∉t.names->b∉ (t.rent P a q).names
 | .node k s x ks,q,h=>by
  unfold ag.names at h;unfold ag.rent ag.names;rw[List.mem_append,not_or] at h ⊢;refine⟨?_,EA hb ks q 0 h.2⟩;cases hn:cG k with
  |false=>simp
  |true=>
   have:=h.1;rw[if_pos hn] at this;simp only[if_true,List.mem_singleton] at this ⊢;split
   .exact hb
   .exact this
theorem EA {P:List Int->Bool} {a b:ar} (hb:b≠a):∀(ts:List ag) (q:List Int) (j:Nat),b∉bE ts->b∉bE (db P a q j ts)
 |[],_,_,h=>h
 |t::ts,q,j,h=>by unfold bE at h;unfold db bE;rw[List.mem_append,not_or] at h ⊢;exact⟨Iw hb t _ h.1,EA hb ts q (j+1) h.2⟩
end
def ln(st:bo)(i:Nat):List (List Int):=(st.ev.filter fun e=>e.2 == i).map Prod.fst
def hG(st:bo)(i:Nat):ar:=((st.bs[i]?).map Prod.fst).getD []
theorem Ip{st:bo}{i:Nat}{q:List Int}:(ln st i).contains q=l5 st i q:=by
 unfold l5;rw[Bool.eq_iff_iff,List.contains_iff_mem,decide_eq_true_iff];unfold ln;rw[List.mem_map];constructor
 .rintro⟨e,he,rfl⟩;obtain⟨h1,h2⟩:=List.mem_filter.1 he;have h3:e.2=i:=(by simpa using h2);rw[<-h3];exact h1
 .intro h;exact⟨(q,i),List.mem_filter.2 ⟨h,by simp⟩,rfl⟩
theorem Es{st:bo}{i j:Nat}{a:ar}(hj:j<st.bs.length):hG (gi i a st) j=if j=i then a else hG st j:=by unfold hG gi;simp only[List.getElem?_mapIdx,br hj,Option.map_some,Option.getD_some];split<;>rfl
theorem IH{ks:List ag}{o:bq}{st:bo}{s:ar}{x:Int}{i:Nat}{a:ar}(h:gn ks= .ok (o,st))(hF:∀t∈ks,A7 t):(ln st i).foldl (fun t p=>t.setAt a p) (.node 1 s x ks)=(.node 1 s x (db (l5 st i) a [] 0 ks):ag):=by
 have hN:=DU h hF;have kz:∀(r:List Int) (t:ag) (k:Nat),t.kindAt r=some k->∀z∈r,0<=z:=by
  intro r;induction r with
  |nil=>intro t k _ z hz;cases hz
  |cons y r ih=>
   intro t k hk z hz;obtain⟨k',s',x',ks'⟩:=t;have h1:(if y<0 then none else np y.toNat r ks')=some k:=hk;split at h1
   .cases h1
   .rcases List.mem_cons.1 hz with rfl|hz
    .omega
    .have go:∀(l:List ag) (n:Nat),np n r l=some k->∃t,ag.kindAt r t=some k:=by
      intro l;induction l with
      |nil=>intro n h;cases n<;>simp[np] at h
      |cons t l ih2=>
       intro n h;cases n with
       |zero=>exact⟨t,h⟩
       |succ n=>exact ih2 n h
     obtain⟨t,ht⟩:=go ks' _ h1;exact ih t k ht z hz
 have hz:∀p∈ln st i,∀z∈p,0<=z:=by
  intro p hp;obtain⟨e,he,rfl⟩:=List.mem_map.1 hp;obtain⟨m,r,k,h1,h2,_⟩:=hN e (List.mem_filter.1 he).1;have h3:(ag.node 1 [] 0 ks).kindAt e.1=some k:=by rw[h1];show(if (m:Int)<0 then none else np (m:Int).toNat r ks)=some k;rw[if_neg (by omega)];exact h2
  exact kz _ _ _ h3
 have h1:=FT (a:=a) (ln st i) (fun _=>false) (.node 1 s x ks) hz;rw[FU] at h1;rw[h1,DK (Q:=l5 st i) _ [] (fun r=>by simp only[Bool.false_or];exact Ip)];have h0:l5 st i []=false:=by
  cases h0:l5 st i [] with
  |false=>rfl
  |true=>obtain⟨m,r,k,h2,_⟩:=hN _ (of_decide_eq_true h0);cases h2
 show ag.node 1 (if l5 st i []=true then a else s) x (db (l5 st i) a [] 0 ks)=_;rw[h0];rfl
end Go.Proofs.YtckbdkgcoilmpaaGreatDoor
