/- Part 5 of the proof. -/
import Derived.Test.YtlkmefhogabgdaaGreatDoorMnD
namespace Go.Proofs.YtlkmefhogabgdaaGreatDoor
open Go.RowKit
set_option linter.all false
set_option maxHeartbeats 40000000
set_option maxRecDepth 100000
def aX(k:Nat):Int:=
 if k=1∨k=3∨k=5∨k=25 then -1
 else if k=2∨k=7∨k=9∨k=24∨k=26∨k=27 then 2
 else if k=8 then 3
 else if k=6∨k=10∨k=11∨k=23∨k=28∨k=12 then 1
 else 0
def dz(k:Nat):Bool:=decide (20<=k) && decide (k<=29)
def fV(k:Nat):Bool:=(decide (6<=k) && decide (k<=12)) || k == 5
def aD(parent kid at_:Nat):Bool:=
 if 0<=aX parent/\aX parent<=at_ then false
 else if parent=1 then kid == 2
 else if parent=2 then(at_ == 0 && kid == 3) || (at_ == 1 && kid == 5)
 else if parent=3 then kid == 4
 else if parent=5 then fV kid
 else if parent=7 then(at_ == 0 && (kid == 22 || kid == 26)) || (at_ == 1 && dz kid)
 else if parent=8∨parent=9 then(at_ == 0 && dz kid) || (decide (0<at_) && kid == 5)
 else if parent=12 then kid == 25
 else dz kid
theorem om(k:Nat):k=1∨k=2∨k=3∨k=4∨k=5∨k=6∨k=7∨k=8∨k=9∨k=10∨k=11∨k=12∨k=20∨k=21∨k=22∨k=23∨k=24∨k=25∨k=26∨k=27∨k=28∨k=29∨(cp k=none/\aX k=0/\((k<1∨12<k)/\(k<20∨29<k))):=by
 by_cases h:(1<=k/\k<=12)∨(20<=k/\k<=29)
 .omega
 .have hr:cp k=none:=by unfold cp;split<;>first|omega|rfl
  have hm:aX k=0:=by unfold aX;rw[if_neg (by omega),if_neg (by omega),if_neg (by omega),if_neg (by omega)]
  have:(k<1∨12<k)/\(k<20∨29<k):=(by omega);right;right;right;right;right;right;right;right;right;right;right;right;right;right;right;right;right;right;right;right;right;right;exact⟨hr,hm,this⟩
theorem tB(n:Nat):n=0∨n=1∨n=2∨∃m,n=m+3:=by
 match n with
 |0=>simp
 |1=>simp
 |2=>simp
 |m+3=>exact .inr (.inr (.inr ⟨m,rfl⟩))
theorem uO(p k i:Nat):aD p k i=ed p k i:=by
 rcases om p with h|h|h|h|h|h|h|h|h|h|h|h|h|h|h|h|h|h|h|h|h|h|⟨h1,h2,h3⟩
 case inr.inr.inr.inr.inr.inr.inr.inr.inr.inr.inr.inr.inr.inr.inr.inr.inr.inr.inr.inr.inr.inr=>unfold aD ed;rw[h1,h2,if_pos ⟨by omega,by omega⟩]
 all_goals
  subst h;rcases tB i with rfl|rfl|rfl|⟨m,rfl⟩ <;>simp[aD,ed,aX,cp,fP,dz,fV] <;>omega
def eE(k:Nat)(s:ar):Bool:=if cG k=true then be s else if k=23 then(s == [45] || s == [33]) else if k≠24 then s == [] else Bz.any (fun b=>s == b)
def fC(k:Nat):Bool:=(decide (1<=k) && decide (k<=12)) || dz k
def dA(k:Nat)(x:Int):Bool:=x == 0 || (k == 20 && decide (0<x)) || (k == 21 && x == 1)
theorem pI(l:List ar)(s:ar):l.any (fun b=>s == b)=l.contains s:=by
 rw[Bool.eq_iff_iff,List.any_eq_true,List.contains_iff_mem];constructor
 .rintro⟨b,hb,e⟩;have:s=b:=by simpa using e
  rw[this];exact hb
 .intro h;exact⟨s,h,by simp⟩
theorem Ar(k:Nat)(s:ar)(x:Int):(dA k x && eE k s)=dx k s x:=by
 by_cases h20:k=20
 .subst h20;simp[dA,eE,dx,cG];by_cases hx:0<=x
  .have:x=0∨0<x:=(by omega);simp[hx,this]
  .have h1:¬x=0:=(by omega);have h2:¬0<x:=(by omega);simp[hx,h1,h2]
 by_cases h21:k=21
 .subst h21;simp[dA,eE,dx,cG];rw[Bool.and_comm]
 have hn:dA k x=(x == 0):=by have e20:(k == 20)=false:=(by simpa using h20);have e21:(k == 21)=false:=(by simpa using h21);unfold dA;rw[e20,e21];simp
 rw[hn];unfold dx eE;rw[if_neg h20,if_neg h21];by_cases hx:x=0
 .subst hx;by_cases hnm:cG k=true
  .simp[hnm]
  .by_cases h23:k=23
   .subst h23;have e1:(s == [45])=decide (s=[45]):=(by rw[Bool.eq_iff_iff];simp);have e2:(s == [33])=decide (s=[33]):=(by rw[Bool.eq_iff_iff];simp);simp[cG,lK,e1,e2]
   .by_cases h24:k=24
    .subst h24;simp only[cG];rw[pI];simp
    .simp[hnm,h23,h24]
 .simp[hx]
def it(ks:List ag):Bool:=match ks with
 |t::_=>t.kind != 26 || (match t.kids with|u::_=>u.kind == 22|[]=>false)
 |[]=>false
mutual
def fm:Nat->ag->Bool
 |most,.node k s x ks=>decide (1<=most) && fC k && dA k x && eE k s && (decide (aX k<0) || decide ((ks.length:Int)=aX k)) && eX k 0 (most - 1) ks && (k != 7 || it ks)
def eX:Nat->Nat->Nat->List ag->Bool
 |_,_,_,[]=>true
 |k,i,most,t::ts=>aD k t.kind i && fm most t && eX k (i+1) most ts
end
theorem qG(k:Nat):fC k=(cp k).isSome:=by
 rcases om k with h|h|h|h|h|h|h|h|h|h|h|h|h|h|h|h|h|h|h|h|h|h|⟨h1,h2,h3⟩
 case inr.inr.inr.inr.inr.inr.inr.inr.inr.inr.inr.inr.inr.inr.inr.inr.inr.inr.inr.inr.inr.inr=>rw[h1];simp[fC,dz];omega
 all_goals (subst h;rfl)
theorem wK{k:Nat}{l:List Nat}{all:Bool}(h:cp k=some (l,all))(n:Nat):(decide (aX k<0) || decide ((n:Int)=aX k))=(all || n == l.length):=by
 rcases om k with h'|h'|h'|h'|h'|h'|h'|h'|h'|h'|h'|h'|h'|h'|h'|h'|h'|h'|h'|h'|h'|h'|⟨h1,_⟩
 case inr.inr.inr.inr.inr.inr.inr.inr.inr.inr.inr.inr.inr.inr.inr.inr.inr.inr.inr.inr.inr.inr=>rw[h1] at h;cases h
 all_goals
  subst h';simp only[cp,Option.some.injEq,Prod.mk.injEq] at h;obtain⟨rfl,rfl⟩:=h;first
  |rfl
  |(rw[Bool.eq_iff_iff];simp[aX];try omega)
def oY(ks:List ag):Bool:=match ks with| .node 22 _ _ _::_=>true| .node _ _ _ (.node 22 _ _ _::_) ::_=>true|_=>false
theorem rV{d k:Nat}{s:ar}{x:Int}{ks:List ag}{l:List Nat}{all:Bool}(h:cp k=some (l,all)):cE d (.node k s x ks)=(decide (d<=40) && dx k s x && (all || ks.length == l.length) && bV k 0 (d+1) ks && (k != 7 || oY ks)):=by simp only[cE,h];rfl
theorem zV{d k:Nat}{s:ar}{x:Int}{ks:List ag}(h:cp k=none):cE d (.node k s x ks)=false:=by simp[cE,h]
theorem Au{ks:List ag}{d:Nat}(h:bV 7 0 d ks=true)(hl:ks.length=2):it ks=oY ks:=by
 match ks,hl with
 |t0::ts,_=>
  simp only[bV,Bool.and_eq_true] at h;obtain⟨⟨h1,h2⟩,_⟩:=h;obtain⟨k0,s0,x0,ks0⟩:=t0;have hk:k0=22∨k0=26:=(by simpa[ed,cp,fP,ag.kind] using h1);rcases hk with rfl|rfl
  .rfl
  .have hr:cp 26=some ([200,200],false):=rfl;rw[rV hr] at h2;have h3:ks0.length=2:=(by revert h2;simp;intros;assumption);match ks0,h3 with
   |u::us,_=>
    obtain⟨ku,su,xu,ksu⟩:=u;have e:it (.node 26 s0 x0 (.node ku su xu ksu::us) ::ts)=(ku == 22):=rfl;rw[e];by_cases hu:ku=22
    .subst hu;rfl
    .have:(ku == 22)=false:=(by simp[hu]);rw[this];unfold oY;split
     .rename_i heq;injection heq with h1 _;injection h1 with h1;omega
     .rename_i heq;injection heq with h1 _;injection h1 with _ _ _ h1;injection h1 with h1 _;injection h1 with h1;omega
     .rfl
mutual
theorem rX:∀(t:ag) (most:Nat),most<=40->fm most t=cE (41 - most) t
 | .node k s x ks,most,hm=>by
  simp only[fm];cases hr:cp k with
  |none=>have:=qG k;rw[hr] at this;rw[zV hr,this];simp
  |some la=>
   obtain⟨l,all⟩:=la;have hkn:=qG k;rw[hr] at hkn;have hma:=wK hr ks.length;have hs:=Ar k s x;rw[rV hr];by_cases h1:1<=most
   .have hd:41 - most<=40:=(by omega);have hrec:=rW ks k 0 (most - 1) (by omega);rw[show 41 - (most - 1)=41 - most+1 from by omega] at hrec;rw[hkn,hma,hrec,<-hs];simp only[h1,hd,decide_true,Option.isSome_some,Bool.true_and];by_cases h7:k=7
    .subst h7;simp only[cp,Option.some.injEq,Prod.mk.injEq] at hr;obtain⟨rfl,rfl⟩:=hr;by_cases hl:ks.length=2
     .cases hrl:bV 7 0 (41 - most+1) ks with
      |false=>simp
      |true=>rw[Au hrl hl]
     .have e2:(ks.length == [202,200].length)=false:=(by simpa using hl);rw[e2];simp
    .have e7:(k != 7)=true:=(by simpa using h7);rw[e7];simp
   .have hd:¬(41 - most<=40):=(by omega);simp[h1,hd]
theorem rW:∀(ts:List ag) (k i most:Nat),most<=40->eX k i most ts=bV k i (41 - most) ts
 |[],_,_,_,_=>by simp[eX,bV]
 |t::ts,k,i,most,hm=>by simp only[eX,bV,uO,rX t most hm,rW ts k (i+1) most hm]
end
def dS(l:List ag):Bool:=match l with
 |[t]=>fm 40 t
 |_=>false
theorem zg(l:List ag):dS l=bR l:=by
 match l with
 |[]=>rfl
 |[t]=>simp only[dS,bR,pi];exact rX t 40 (ah _)
 |_::_::_=>rfl
def fj(e:aj):aj:=
 if e.kind=1 then⟨e.kind,e.path,0,0,e.frm,e.to_,[],[]⟩
 else if e.kind=2 then⟨e.kind,e.path,e.at_,0,[],[],[],e.news⟩
 else if e.kind=3 then⟨e.kind,e.path,e.at_,0,[],[],e.olds,[]⟩
 else if e.kind=4 then⟨e.kind,e.path,0,0,[],[],e.olds,e.news⟩
 else⟨e.kind,e.path,e.at_,e.far,[],[],e.olds,[]⟩
def cV(e:aj):Bool:=
 if !e.path.all aH then false
 else if e.kind=1 then e.same (fj e) && !e.path.isEmpty && be e.frm && be e.to_ && e.frm != e.to_
 else if e.kind=2 then e.same (fj e) && aH e.at_ && dS e.news
 else if e.kind=3 then e.same (fj e) && aH e.at_ && dS e.olds
 else if e.kind=4 then e.same (fj e) && !e.path.isEmpty && dS e.olds && dS e.news && !bB e.olds e.news
 else if e.kind=5 then e.same (fj e) && aH e.at_ && aH e.far && e.at_ != e.far && dS e.olds
 else false
theorem hD(l:List ag):bB l l=true:=(kP l l).2 rfl
theorem gZ(l:List ag):bB l []=l.isEmpty:=by cases l<;>simp[bB]
theorem lj(s:ar):(s == [])=s.isEmpty:=by cases s<;>rfl
theorem kB:aH 0=true:=by decide
theorem lv:be []=false:=rfl
theorem kI:bR []=false:=rfl
theorem ml(e:aj):cV e=ap e:=by
 obtain⟨k,path,a,f,frm,to_,olds,news⟩:=e;simp only[cV,zg];cases hp:path.all aH with
 |false=>simp[ap,hp]
 |true=>
  simp only[Bool.not_true,Bool.false_eq_true,if_false];by_cases h1:k=1
  .subst h1;simp only[if_true,fj,aj.same,hD,gZ,lj,beq_self_eq_true,Bool.and_true,Bool.true_and,ap,hp,aq,aG,aF];by_cases ha:a=0<;>by_cases hf:f=0<;>cases olds<;>cases news<;>cases path<;>
    simp[ha,hf,kB,kI] <;>
    (cases h5:be frm<;>cases h6:be to_<;>by_cases h7:frm=to_<;>simp[h5,h6,h7])
  by_cases h2:k=2
  .subst h2;simp only[fj,aj.same,hD,gZ,lj,beq_self_eq_true,Bool.and_true,Bool.true_and,ap,hp,aq,aG,aF];by_cases hf:f=0<;>cases frm<;>cases to_<;>cases olds<;>simp[hf,kB,kI,lv,hD,gZ]
  by_cases h3:k=3
  .subst h3;simp only[fj,aj.same,hD,gZ,lj,beq_self_eq_true,Bool.and_true,Bool.true_and,ap,hp,aq,aG,aF];by_cases hf:f=0<;>cases frm<;>cases to_<;>cases news<;>simp[hf,kB,kI,lv,hD,gZ]
  by_cases h4:k=4
  .subst h4;simp only[fj,aj.same,hD,gZ,lj,beq_self_eq_true,Bool.and_true,Bool.true_and,ap,hp,aq,aG,aF];by_cases ha:a=0<;>by_cases hf:f=0<;>cases frm<;>cases to_<;>cases path<;>simp[ha,hf,kB,kI,lv,hD,gZ]
  by_cases h5:k=5
  .subst h5;simp only[fj,aj.same,hD,gZ,lj,beq_self_eq_true,Bool.and_true,Bool.true_and,ap,hp,aq,aG,aF];by_cases haf:a=f
   .cases frm<;>cases to_<;>cases news<;>simp[haf,kB,kI,lv,hD,gZ]
   .have hb:(a != f)=true:=(by simpa using haf);cases frm<;>cases to_<;>cases news<;>simp[haf,hb,kB,kI,lv,hD,gZ]
  simp[ap,aq,h1,h2,h3,h4,h5]
def cD(a b:List ar):Bool:=a.any fun s=>b.any fun t=>s == t
theorem wP{a b:List ar}:cD a b=true↔∃s,s∈a/\s∈b:=by
 simp only[cD,List.any_eq_true,beq_iff_eq];constructor
 .rintro⟨s,h1,t,h2,rfl⟩;exact⟨s,h1,h2⟩
 .rintro⟨s,h1,h2⟩;exact⟨s,h1,s,h2,rfl⟩
theorem nK{a b:List ar}:bX a b=true↔∃s,s∈b/\s∈a:=by simp only[bX,List.any_eq_true,List.contains_iff_mem]
theorem qQ{a b a' b':List ar}(ha:∀s,s∈a↔s∈a')(hb:∀s,s∈b↔s∈b'):cD a b=bX b' a':=by
 rw[Bool.eq_iff_iff,wP,nK];constructor
 .rintro⟨s,h1,h2⟩;exact⟨s,(ha s).1 h1,(hb s).1 h2⟩
 .rintro⟨s,h1,h2⟩;exact⟨s,(ha s).2 h1,(hb s).2 h2⟩
def dP(a l:List ar):Prop:=∀s,s∈a↔s∈l
def gS(p q:aj)(bp np bq nq:List ar):Bool:=
 if p.kind=1/\q.kind=1 then p.path == q.path || p.to_ == q.to_ || p.to_ == q.frm || q.to_ == p.frm
 else cD bp nq || cD np bq
def gO(p q:aj):Bool:=(p.parts.any fun t=>t.kind == 4 || t.kind == 3) && bP q.parts
def oB(p q:aj):Option (Int×Int):=
 let i:=p.at_
 let j:=q.at_
 if p.kind=5∨q.kind=5 then none
 else if p.kind=2/\q.kind=2 then(if j=i∨j=i+1 then none else if j<i then some (j,i+1) else some (j - 1,i))
 else if p.kind=2 then(if i - 1<=j/\j<=i+1 then none else if j<i then some (j,i - 1) else some (j - 1,i))
 else if q.kind=2 then(if j=i then none else if j<i then some (j,i+1) else some (j+1,i))
 else if j=i∨j=i - 1 then none else if j<i then some (j,i - 1) else some (j+1,i)
theorem xp(p q:aj)(hp:p.kind=2∨p.kind=3∨p.kind=5)(hq:q.kind=2∨q.kind=3∨q.kind=5):oB p q=bY p q:=by
 unfold oB bY;rcases hp with h|h|h<;>rcases hq with h'|h'|h'<;>simp only[h,h'] <;>simp<;>
  (try (split<;> (try split) <;> (try split) <;> (try split) <;>first|rfl|(exfalso;omega)|(simp;omega)))
def nN(e:aj)(x:List Int):Option (List Int):=
 if e.kind=2 then dR x e.path e.at_
 else if e.kind=3 then some (fO x e.path e.at_)
 else if e.kind=4 then(if bu x e.path then none else some x)
 else if e.kind=5 then(if bu x (e.path++[e.far]) then none else some (eT x e.path e.far e.at_))
 else some x
theorem tJ(e:aj)(x:List Int)(h:ap e=true):nN e x=co (bD e) x:=by
 obtain⟨k,path,a,f,frm,to_,olds,news⟩:=e;unfold nN co bD;rw[h];by_cases h5:k=5
 .subst h5;simp
 by_cases h2:k=2
 .subst h2;simp
 by_cases h3:k=3
 .subst h3;simp
 by_cases h4:k=4
 .subst h4;simp
 simp[h2,h3,h4,h5]
theorem mu{k:Nat}(h:aq k=true):k=2∨k=3∨k=5:=by simpa[aq,or_assoc] using h
theorem wV{p q:aj}{bp np bq nq:List ar}(h1:dP bp p.binds)(h2:dP np p.names)(h3:dP bq q.binds)(h4:dP nq q.names):(gS p q bp np bq nq || (p.kind != 1 && q.kind != 1 && (gO p q || gO q p)))=cK p q:=by
 unfold gS cK;by_cases hk:p.kind=1/\q.kind=1
 .rw[if_pos hk,if_pos hk];have e:(p.kind != 1)=false:=(by simp[hk.1]);rw[e];have e2:bX [q.frm,q.to_] [p.to_]=(p.to_ == q.to_ || p.to_ == q.frm):=by rw[Bool.eq_iff_iff];simp[bX,or_comm]
  rw[e2];simp[Bool.or_assoc]
 .rw[if_neg hk,if_neg hk,qQ h1 h4,qQ h2 h3];have e3:bX q.binds p.names=bX p.names q.binds:=by rw[Bool.eq_iff_iff,nK,nK];exact⟨fun⟨s,a,b⟩=>⟨s,b,a⟩,fun⟨s,a,b⟩=>⟨s,b,a⟩⟩
  rw[e3];have e4:(p.kind != 1 && q.kind != 1 && (gO p q || gO q p))=(p.kind != 1 && q.kind != 1 && (p.params && q.calls || q.params && p.calls)):=by
   by_cases hp:p.kind=1
   .simp[hp]
   .by_cases hq:q.kind=1
    .simp[hq]
    .simp only[gO,aj.params,aj.calls,if_neg hp,if_neg hq]
  rw[e4];cases bX q.names p.binds<;>cases bX p.names q.binds<;>simp
def ay(w:World)(e:aj)(k:Nat)(pA:Option Addr)(pn pc:Nat)(i j:Int)(f t:ByteArray)(oA:Option Addr)(on oc:Nat)(nA:Option Addr)(nn nc:Nat):Prop:=
 ∃ps os ns,e=⟨k,ps,i,j,bl f,bl t,os,ns⟩/\aA w ps pA pn pc/\KidsAt w os oA on oc/\KidsAt w ns nA nn nc
theorem ay.keep{w w':World}(hb:∀a v,w.cell? a=some v->w'.cell? a=some v){e:aj}{k:Nat}{pA:Option Addr}{pn pc:Nat}{i j:Int}{f t:ByteArray}{oA:Option Addr}{on oc:Nat}{nA:Option Addr}{nn nc:Nat}(h:ay w e k pA pn pc i j f t oA on oc nA nn nc):ay w' e k pA pn pc i j f t oA on oc nA nn nc:=by obtain⟨ps,os,ns,e,h1,h2,h3⟩:=h;exact⟨ps,os,ns,e,h1.keep hb,h2.keep hb,h3.keep hb⟩
theorem ay.below{w w':World}(hb:Below w.heap.size w w'){e:aj}{k:Nat}{pA:Option Addr}{pn pc:Nat}{i j:Int}{f t:ByteArray}{oA:Option Addr}{on oc:Nat}{nA:Option Addr}{nn nc:Nat}(h:ay w e k pA pn pc i j f t oA on oc nA nn nc):ay w' e k pA pn pc i j f t oA on oc nA nn nc:=h.keep fun _ _=>ac hb
theorem nU{w:World}{x0 x1 x2 x3 x4 x5 x6 x7:Value}{T:TypeId}(j:Nat)(v:Value)(h: #[x0,x1,x2,x3,x4,x5,x6,x7][j]? =some v):(w.alloc (.cells #[x0,x1,x2,x3,x4,x5,x6,x7] T)).cell? ⟨w.heap.size,j,none⟩=some v:=by rw[World.cell?_alloc_new];exact h
theorem pQ{w:World}{x0 x1 x2 x3 x4 x5 x6 x7:Value}{T:TypeId}{n:Nat}(hn:n=w.heap.size)(j:Nat)(v:Value)(h: #[x0,x1,x2,x3,x4,x5,x6,x7][j]? =some v):(w.alloc (.cells #[x0,x1,x2,x3,x4,x5,x6,x7] T)).cell? ⟨n,j,none⟩=some v:=by subst hn;exact nU j v h
theorem uy(k k':Nat)(ps ps':List Int)(i i' j j':Int)(f f' t t':ar)(os os' ns ns':List ag):aj.same ⟨k,ps,i,j,f,t,os,ns⟩ ⟨k',ps',i',j',f',t',os',ns'⟩=(k == k' && ps == ps' && i == i' && j == j' && f == f' && t == t' && bB os os' && bB ns ns'):=rfl
theorem ey(e1 e2:aj)(k:Nat)(pA:Option Addr)(pn pc:Nat)(i j:Int)(f t:ByteArray)(oA:Option Addr)(on oc:Nat)(nA:Option Addr)(nn nc:Nat)(k':Nat)(pA':Option Addr)(pn' pc':Nat)(i' j':Int)(f' t':ByteArray)(oA':Option Addr)(on' oc':Nat)(nA':Option Addr)(nn' nc':Nat)(w:World)(h:ay w e1 k pA pn pc i j f t oA on oc nA nn nc)(h':ay w e2 k' pA' pn' pc' i' j' f' t' oA' on' oc' nA' nn' nc'):Calls Tryz.prog 38 #[.agg #[.int .u8 k,.slice pA pn pc,.int .i64 i,.int .i64 j,.string f,.string t,.slice oA on oc,.slice nA nn nc],.agg #[.int .u8 k',.slice pA' pn' pc',.int .i64 i',.int .i64 j',.string f',.string t',.slice oA' on' oc',.slice nA' nn' nc']] w (ak (e1.same e2) w):=by
 obtain⟨ps,os,ns,rfl,hp,ho,hn⟩:=h;obtain⟨ps',os',ns',rfl,hp',ho',hn'⟩:=h';have hb0:Below w.heap.size w ((w.alloc (.cells #[.int .u8 k,.slice pA pn pc,.int .i64 i,.int .i64 j,.string f,.string t,.slice oA on oc,.slice nA nn nc] 26)).alloc (.cells #[.int .u8 k',.slice pA' pn' pc',.int .i64 i',.int .i64 j',.string f',.string t',.slice oA' on' oc',.slice nA' nn' nc'] 26)):=((ai _ _).alloc (ah _) _).alloc (by simp) _;have HB0:=aa hb0;have HP:=aa (hp.below hb0);have HP':=aa (hp'.below hb0);have HO:=aa (ho.below hb0);have HO':=aa (ho'.below hb0);have HN:=aa (hn.below hb0);have HN':=aa (hn'.below hb0);have HE:=aa (uy k k' ps ps' i i' j j' (bl f) (bl f') (bl t) (bl t') os os' ns ns');clear hb0 hp hp' ho ho' hn hn';by_cases h1:k=k'
 .subst h1;by_cases h2:ps=ps'
  .have HQ:Hid ((ps == ps')=true):=(by show _=_;simpa using h2);by_cases h3:i=i'
   .subst h3;by_cases h4:j=j'
    .subst h4;by_cases h5:bl f=bl f'
     .obtain rfl:=fk h5;by_cases h6:bl t=bl t'
      .obtain rfl:=fk h6;by_cases h7:bB os os'=true
       .have HO1:=aa h7;have HV:=aa (HE.out.trans (show _=bB ns ns' by simp[h2,h7]));clear h2 h5 h6 h7
        go_in
        go_wp2_with fail;refine(gQ ps ps' _ _ _ _ _ _ _ HP.out HP'.out).mono ?_;rintro e w1 ⟨rfl,q,rfl⟩;rw[HQ.out];go_wp2_with fail;have hbq:Below w.heap.size w _:=ax HB0.out q;have hlq:w.heap.size<=(((w.alloc (.cells #[.int .u8 k,.slice pA pn pc,.int .i64 i,.int .i64 j,.string f,.string t,.slice oA on oc,.slice nA nn nc] 26)).alloc (.cells #[.int .u8 k,.slice pA' pn' pc',.int .i64 i,.int .i64 j,.string f,.string t,.slice oA' on' oc',.slice nA' nn' nc'] 26)).drewN q).heap.size:=hbq.size;refine(ol os os' _ _ _ _ _ _ _ (HO.out.below (ax (ai _ _) q)) (HO'.out.below (ax (ai _ _) q))).mono ?_;rintro e w2 ⟨rfl,hb2⟩;rw[HO1.out];have hy:=(hb2.cell (p:=⟨w.heap.size,7,none⟩) (by simp<;>omega)).trans ((World.cell?_drewN _ _ _).trans ((World.cell?_alloc_lt _ _ _ (by simp)).trans (nU 7 _ rfl)));have hy':=(hb2.cell (p:=⟨w.heap.size+1,7,none⟩) (by simp<;>omega)).trans ((World.cell?_drewN _ _ _).trans (pQ (by simp) 7 _ rfl));have HB2:Hid (Below w.heap.size w w2):=hbq.trans (hb2.mono hlq);have HN2:=aa ((HN.out.below (ax (ai _ _) q)).below hb2);have HN2':=aa ((HN'.out.below (ax (ai _ _) q)).below hb2);clear hb2 hbq hlq;go_wp2_with fail;refine(ol ns ns' _ _ _ _ _ _ _ HN2.out HN2'.out).mono ?_;rintro e w3 ⟨rfl,hb3⟩;have HB3:Hid (Below w.heap.size w w3):=HB2.out.trans (hb3.mono HB2.out.size);clear hb3;go_wp2_with fail;go_ret;exact ak.intro HV.out.symm HB3.out
       .have HO1:Hid (bB os os'=false):=(by show _=_;simpa using h7);have HV:=aa (HE.out.trans (show _=false by simp[h7]));clear h2 h5 h6 h7
        go_in
        go_wp2_with fail;refine(gQ ps ps' _ _ _ _ _ _ _ HP.out HP'.out).mono ?_;rintro e w1 ⟨rfl,q,rfl⟩;rw[HQ.out];go_wp2_with fail;have hbq:Below w.heap.size w _:=ax HB0.out q;have hlq:w.heap.size<=(((w.alloc (.cells #[.int .u8 k,.slice pA pn pc,.int .i64 i,.int .i64 j,.string f,.string t,.slice oA on oc,.slice nA nn nc] 26)).alloc (.cells #[.int .u8 k,.slice pA' pn' pc',.int .i64 i,.int .i64 j,.string f,.string t,.slice oA' on' oc',.slice nA' nn' nc'] 26)).drewN q).heap.size:=hbq.size;refine(ol os os' _ _ _ _ _ _ _ (HO.out.below (ax (ai _ _) q)) (HO'.out.below (ax (ai _ _) q))).mono ?_;rintro e w2 ⟨rfl,hb2⟩;rw[HO1.out];have hy:=(hb2.cell (p:=⟨w.heap.size,7,none⟩) (by simp<;>omega)).trans ((World.cell?_drewN _ _ _).trans ((World.cell?_alloc_lt _ _ _ (by simp)).trans (nU 7 _ rfl)));have hy':=(hb2.cell (p:=⟨w.heap.size+1,7,none⟩) (by simp<;>omega)).trans ((World.cell?_drewN _ _ _).trans (pQ (by simp) 7 _ rfl));have HB2:Hid (Below w.heap.size w w2):=hbq.trans (hb2.mono hlq);have HN2:=aa ((HN.out.below (ax (ai _ _) q)).below hb2);have HN2':=aa ((HN'.out.below (ax (ai _ _) q)).below hb2);clear hb2 hbq hlq;go_wp2_with fail;go_ret;exact ak.intro HV.out.symm HB2.out
      .have hh:(bl t == bl t')=false:=beq_eq_false_iff_ne.2 h6;have HV:=aa (HE.out.trans (show _=false by simp only[hh,Bool.and_false,Bool.false_and]));clear hh;have e0:=fW h6;clear h2 h6
       go_in
       go_wp2_with fail;refine(gQ ps ps' _ _ _ _ _ _ _ HP.out HP'.out).mono ?_;rintro e w1 ⟨rfl,q,rfl⟩;rw[HQ.out];go_wp2_with fail;go_ret;exact ak.intro HV.out.symm (ax HB0.out q)
     .have hh:(bl f == bl f')=false:=beq_eq_false_iff_ne.2 h5;have HV:=aa (HE.out.trans (show _=false by simp only[hh,Bool.and_false,Bool.false_and]));clear hh;have e0:=fW h5;clear h2 h5
      go_in
      go_wp2_with fail;refine(gQ ps ps' _ _ _ _ _ _ _ HP.out HP'.out).mono ?_;rintro e w1 ⟨rfl,q,rfl⟩;rw[HQ.out];go_wp2_with fail;go_ret;exact ak.intro HV.out.symm (ax HB0.out q)
    .have HV:=aa (HE.out.trans (show _=false by simp[h4]));have e0:(j == j')=false:=(by simpa using h4);clear h2 h4
     go_in
     go_wp2_with fail;refine(gQ ps ps' _ _ _ _ _ _ _ HP.out HP'.out).mono ?_;rintro e w1 ⟨rfl,q,rfl⟩;rw[HQ.out];go_wp2_with fail;go_ret;exact ak.intro HV.out.symm (ax HB0.out q)
   .have HV:=aa (HE.out.trans (show _=false by simp[h3]));have e0:(i == i')=false:=(by simpa using h3);clear h2 h3
    go_in
    go_wp2_with fail;refine(gQ ps ps' _ _ _ _ _ _ _ HP.out HP'.out).mono ?_;rintro e w1 ⟨rfl,q,rfl⟩;rw[HQ.out];go_wp2_with fail;go_ret;exact ak.intro HV.out.symm (ax HB0.out q)
  .have HV:=aa (HE.out.trans (show _=false by simp[h2]));have HQ:Hid ((ps == ps')=false):=(by show _=_;simpa using h2);clear h2
   go_in
   go_wp2_with fail;refine(gQ ps ps' _ _ _ _ _ _ _ HP.out HP'.out).mono ?_;rintro e w1 ⟨rfl,q,rfl⟩;rw[HQ.out];go_wp2_with fail;go_ret;exact ak.intro HV.out.symm (ax HB0.out q)
 .have HV:=aa (HE.out.trans (show _=false by simp[h1]));have e0:((k:Int) == k')=false:=(by simp;omega);clear h1
  go_in
  go_wp2_with fail;go_ret;exact ak.intro HV.out.symm HB0.out
theorem fT(x:Int)(w:World):Calls Tryz.prog 48 #[.int .i64 x] w (iy (.bool (aH x)) w):=by
 by_cases h0:0<=x
 .by_cases h1:x<=1073741824
  .have HV:Hid (aH x=true):=by show _=_;simp[aH,h0,h1]
   go_in
   go_wp2;go_ret;exact⟨dg (by rw[HV.out]),0,rfl⟩
  .have HV:Hid (aH x=false):=by show _=_;simp[aH,h1]
   go_in
   go_wp2;go_ret;exact⟨dg (by rw[HV.out]),0,rfl⟩
 .have HV:Hid (aH x=false):=by show _=_;simp[aH,h0]
  go_in
  go_wp2;go_ret;exact⟨dg (by rw[HV.out]),0,rfl⟩
theorem ro(x:Int)(w:World):Calls Tryz.prog 47 #[.int .i64 x] w (iy (.bool (!aH x)) w):=by
 go_in
 go_wp2_with fail;refine(fT x _).mono ?_;rintro e w1 ⟨rfl,q,rfl⟩;go_wp2;go_ret;exact⟨rfl,q,rfl⟩
theorem jy(args:Array Value)(w:World):(callFunc 47 args).run Tryz.prog w= .ok (.enter 47 args) w:=eH Tryz.func47 (by kernel_rfl) (by kernel_rfl) args w
theorem tu{xs:List Int}{j:Nat}{x:Int}(h:xs.all aH=(xs.drop j).all aH)(hx:xs[j]? =some x):xs.all aH=(aH x && (xs.drop (j+1)).all aH):=by have h1:j<xs.length:=(bs.1 hx).1;rw[h,List.drop_eq_getElem_cons h1];rw[br h1] at hx;injection hx with hx;rw[hx];rfl
def kZ(b:Bool)(w:World)(e:Ending)(w':World):Prop:=(∃d,w'=w.drewN d)/\∃i:Int,e= .returned (.int .i64 i)/\(0<=i↔b=true)
theorem kZ.intro{b:Bool}{w:World}{d:Nat}{i:Int}(h:0<=i↔b=true):kZ b w (.returned (.int .i64 i)) (w.drewN d):=⟨⟨d,rfl⟩,i,rfl,h⟩
theorem yr(xs:List Int)(A:Option Addr)(n c:Nat)(w:World)(hx:aA w xs A n c):Calls Tryz.prog 114 #[.slice A n c,.func (.func 47) #[] #[]] w (kZ (!xs.all aH) w):=by
 have HX:=aa hx;have hnn:n<=9223372036854775807:=(by have h1:=hx.2.1;have h2:=hx.2.2.1;unfold maxLen at h2;omega);have HL:Hid (n=xs.length):=hx.1;have hcf:=jy;clear hx
 go_in
 go_wp2_with fail;go_loopw [8] (fun i wr=>∃j d:Nat,j<=n/\i= .int .i64 j/\wr=w.drewN d/\Hid (xs.all aH=(xs.drop j).all aH)) (fun i _=>n - (intOf i).toNat);case atStart=>exact⟨0,0,aE _,rfl,rfl,rfl⟩
 case round=>
  obtain⟨j,d,hj,rfl,rfl,HI⟩:=hrel;by_cases hlt:j<n
  .obtain⟨b,o,x,rfl,hxx,q0⟩:=HX.out.get hlt;have HST:=aa (tu HI.out hxx);clear hxx;cases hn:aH x with
   |true=>
    have HNN:=aa hn;have HN:Hid (xs.all aH=(xs.drop (j+1)).all aH):=(by show _=_;rw[HST.out,hn];simp);clear hn;go_wp2_with fail;refine(ro x _).mono ?_;rintro e w3 ⟨rfl,q,rfl⟩;rw[HNN.out];go_wp2;go_roundw;case rel=>exact⟨j+1,d+q,by omega,by go_num,by simp[World.drewN,Nat.add_assoc],HN⟩
    case measure=>simp[intOf];omega
   |false=>have HNN:=aa hn;have HV:Hid (xs.all aH=false):=(by show _=_;rw[HST.out,hn];simp);clear hn;go_wp2_with fail;refine(ro x _).mono ?_;rintro e w3 ⟨rfl,q,rfl⟩;rw[HNN.out];go_wp2;go_ret;exact kZ.intro (by rw[HV.out];simp)
  .have HV:Hid (xs.all aH=true):=by show _=_;have e1:=HL.out;rw[HI.out,List.drop_eq_nil_of_le (by omega)];rfl
   go_wp2_with fail;go_ret;exact kZ.intro (by rw[HV.out];simp)
theorem kG(xs:List Int)(A:Option Addr)(n c:Nat)(w:World)(hx:aA w xs A n c):Calls Tryz.prog 46 #[.slice A n c,.func (.func 47) #[] #[]] w (iy (.bool (!xs.all aH)) w):=by
 have HX:=aa hx;clear hx
 go_in
 go_wp2_with fail;refine(yr xs _ _ _ _ HX.out).mono ?_;rintro e w1 ⟨⟨q,rfl⟩,i,rfl,hi⟩;have HI:=aa hi;clear hi;go_wp2;go_ret;exact⟨dg (by rw[Bool.eq_iff_iff,<-HI.out];simp),q,rfl⟩
theorem eC(ks:List ag)(A:Option Addr)(n c:Nat)(w:World)(hK:KidsAt w ks A n c)(hsh:bi 9223372036854775806 ks)(hE:bI w):Calls Tryz.prog 50 #[.slice A n c] w (ak (bR ks) w):=by
 have hL:=hK.1;have HE:=aa hE;have hnn:n<=9223372036854775807:=(by have h1:=hK.2.1;have h2:=hK.2.2.1;unfold maxLen at h2;omega);by_cases h1:n=1
 .subst h1;obtain⟨t,rfl⟩:∃t,ks=[t]:=List.length_eq_one_iff.1 hL.symm;obtain⟨b,o,t',rfl,ht,hat⟩:=hK.get (i:=0) (by omega);simp at ht;subst ht;simp only[Nat.zero_mul,Nat.add_zero] at hat;obtain⟨A1,c1,q0,q1,q2,q3,hnode⟩:=hat.cells;have HN:=aa hnode;have HS:Hid (t.short 9223372036854775806):=(by simp only[bi] at hsh;exact hsh.1);clear hK hat hnode hL hsh hE
  go_in
  go_wp2_with fail;refine(yU t _ _ _ _ _ _ _ HN.out HS.out HE.out).mono ?_;rintro e w3 ⟨rfl,hb3⟩;have HB3:=aa hb3;clear hb3;go_wp2;go_ret;exact ak.intro rfl HB3.out
 .have HV:Hid (bR ks=false):=by
   show _=_;match ks,hL with
   |[],_=>rfl
   |[t],h=>simp at h;omega
   |_::_::_,_=>rfl
  have e1:¬(n:Int)=1:=(by omega);clear hK hL hsh h1
  go_in
  go_wp2;go_ret;exact ak.intro HV.out.symm (ai _ _)
end Go.Proofs.YtlkmefhogabgdaaGreatDoor
