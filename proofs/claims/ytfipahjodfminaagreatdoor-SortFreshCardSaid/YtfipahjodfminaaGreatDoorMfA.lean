/- Part 1 of the proof. -/
import Derived.Lib.Strings
import Derived.Lib.IndexBytes
import Derived.Below
import Derived.Lib.Hide
import Derived.WalkKit
import Derived.WalkSpells
import Derived.Deep.AppendLies
import Derived.Deep.Draws
import Derived.Maps.OwnSet
import Derived.Test.YtfipahjodfminaaGreatDoorRows
import Derived.WalkLawsBesides
import Derived.Test.YtfipahjodfminaaGreatDoorShelf
import Derived.Deep.RegionHeld3
import Derived.Deep.QuietTactic
import Derived.BigQuiet
namespace Go.Proofs.YtfipahjodfminaaGreatDoor
open Go.RowKit
set_option linter.all false
set_option maxHeartbeats 40000000
set_option maxRecDepth 100000
abbrev ab:=@Lib.hid
abbrev ah:=@Nat.le_refl
abbrev ai:=@Below.refl
abbrev aK:=@Array.getElem?_eq_some_iff
abbrev aJ:=@Nat.le_trans
abbrev aY:=@Below.heap_setCell
abbrev gl:=@List.getElem?_eq_some_iff
abbrev br:=@List.getElem?_eq_getElem
abbrev aE:=@Nat.zero_le
abbrev fJ:=@Nat.lt_of_lt_of_le
abbrev cM:=@List.getElem?_append_left
abbrev CD:=@List.length_append
abbrev eK:=@List.getElem?_append_right
abbrev ny:=@List.length_map
abbrev ar:=List UInt8
abbrev bl(s:ByteArray):ar:=s.data.toList
abbrev sb(l:ar):ByteArray:=⟨l.toArray⟩
theorem ow(s:ByteArray):sb (bl s)=s:=rfl
theorem dt(s:ByteArray):(bl s).length=s.size:=rfl
theorem fk{a b:ByteArray}(h:bl a=bl b):a=b:=by rw[<-ow a,<-ow b,h]
theorem pP(s:ByteArray)(i:Nat)(h:i<s.size):(bl s)[i]? =some s[i]:=Lib.data_getElem? s i h
theorem bG(s:ByteArray):s.toList=bl s:=ByteArray.toList_eq s
theorem dg{a b:Bool}(h:a=true↔b=true):Ending.returned (.bool a)= .returned (.bool b):=by rw[Bool.eq_iff_iff.2 h]
theorem mS{k:IntKind}{a b:Int}(h:a=b):Ending.returned (.int k a)= .returned (.int k b):=by rw[h]
theorem NV(p l:ar):p.isPrefixOf l=(l.take p.length == p):=by rw[Bool.eq_iff_iff];simp[List.isPrefixOf_iff_prefix,List.prefix_iff_eq_take];constructor<;> (intro h;exact h.symm)
def Jb(c:UInt8):Bool:=c.toNat == 32 || c.toNat == 9 || c.toNat == 10 || c.toNat == 13
def gh(c:UInt8):Bool:=(97<=c.toNat && c.toNat<=122) || (65<=c.toNat && c.toNat<=90) || c.toNat == 95
def lp(c:UInt8):Bool:=48<=c.toNat && c.toNat<=57
def eI(c:UInt8):Bool:=gh c || lp c
def iu:List ar:=[[102,117,110,99],[118,97,114],[105,102],[101,108,115,101],[119,104,105,108,101],[114,101,116,117,114,110],[112,114,105,110,116],[116,114,117,101],[102,97,108,115,101],[108,101,110],[114,101,97,100]]
def zd:List ar:=[[61,61],[33,61],[60,61],[62,61],[38,38],[124,124],[40],[41],[123],[125],[91],[93],[44],[59],[61],[60],[62],[43],[45],[42],[47],[37],[33]]
def be(s:ar):Bool:=
 match s with
 |[]=>false
 |c::_=>decide (s.length<=24) && gh c && !iu.contains s && s.all eI
def qd(s:ar):Nat:=s.foldl (fun n c=>10*n+(c.toNat - 48)) 0
def fx(s:ar):Bool:=
 match s with
 |[]=>false
 |c::r=> !(!r.isEmpty && c.toNat == 48) && s.all lp && decide (qd s<=9223372036854775807)
structure bi where
 kind:Nat
 text:ar
 pos:Nat
 deriving DecidableEq,Repr
inductive xa where
 |skip (n:Nat)
 |tok (k n:Nat)
 |bad (e:Nat)
 deriving DecidableEq,Repr
def Jd(t:ar):Option Nat:=if iu.contains t then some 2 else if be t then some 1 else if fx t then some 3 else none
def LJ(r:ar):ar:=r.takeWhile (fun c=>c.toNat != 10)
def JG(r:ar):Option ar:=zd.find? (fun s=>s.isPrefixOf r)
def u5:ar->xa
 |[]=>.skip 0
 |c::r=>
  if Jb c then .skip 1
  else if ([47,47]:ar).isPrefixOf (c::r) then .skip (LJ (c::r)).length
  else if eI c then
   match Jd ((c::r).takeWhile eI) with
   |some k=>.tok k ((c::r).takeWhile eI).length
   |none=>.bad 101
  else match JG (c::r) with
   |some s=>.tok 4 s.length
   |none=>.bad 100
abbrev ib:=Except (Nat×Nat) (List bi)
def ib.push(out:List bi):ib->ib
 | .ok l=>.ok (out++l)
 | .error e=>.error e
def JP:Nat->Nat->ar->ib
 |_,p,[]=>.ok [⟨5,[],p⟩]
 |0,p,_::_=>.error (0,p)
 |f+1,p,c::r=>
  match u5 (c::r) with
  | .skip n=>JP f (p+n) ((c::r).drop n)
  | .tok k n=>ib.push [⟨k,(c::r).take n,p⟩] (JP f (p+n) ((c::r).drop n))
  | .bad e=>.error (e,p)
def fa(p:Nat)(r:ar):ib:=JP r.length p r
def Kb(s:ar):ib:=fa 0 s
theorem ib.push_push(a b:List bi)(r:ib):ib.push a (ib.push b r)=ib.push (a++b) r:=by cases r<;>simp[ib.push]
theorem ib.push_nil(r:ib):ib.push [] r=r:=by cases r<;>simp[ib.push]
theorem Mu{r s:ar}(h:JG r=some s):s∈zd/\0<s.length/\s.length<=2/\s<+:r:=by
 have h1:=List.mem_of_find?_eq_some h;have h2:=List.find?_some h;refine⟨h1,?_,?_,List.isPrefixOf_iff_prefix.1 h2⟩
 .have:∀s∈zd,0<s.length:=(by decide);exact this s h1
 .have:∀s∈zd,s.length<=2:=(by decide);exact this s h1
def xa.len:xa->Nat
 | .skip n=>n
 | .tok _ n=>n
 | .bad _=>1
theorem Om(p:UInt8->Bool)(r:ar):(r.takeWhile p).length<=r.length:=by exact List.IsPrefix.length_le (List.takeWhile_prefix p)
theorem Nm(c:UInt8)(r:ar):0< (u5 (c::r)).len/\(u5 (c::r)).len<=r.length+1:=by
 simp only[u5];split
 .simp[xa.len]
 .split
  .rename_i h1 h2;have hc:c=47:=(by simp[List.isPrefixOf] at h2;exact h2.1.symm);subst hc;constructor
   .simp[xa.len,LJ]
   .exact Om _ (47::r)
  .split
   .rename_i hw;split
    .refine⟨?_,Om _ (c::r)⟩;simp[xa.len,hw]
    .simp[xa.len]
   .split
    .rename_i s hs;obtain⟨_,h1,_,h2⟩:=Mu hs;exact⟨h1,h2.length_le⟩
    .simp[xa.len]
theorem Nv:∀(f g p:Nat) (r:ar),r.length<=f->r.length<=g->JP f p r=JP g p r:=by
 intro f;induction f with
 |zero=>intro g p r hf hg;have:r=[]:=List.eq_nil_of_length_eq_zero (by omega);subst this;cases g<;>rfl
 |succ f ih=>
  intro g p r hf hg;match r with
  |[]=>cases g<;>rfl
  |c::r=>
   cases g with
   |zero=>simp at hg
   |succ g=>
    have hl:=Nm c r;simp only[List.length_cons] at hf hg;unfold JP;split
    .rename_i n hn;simp only[hn,xa.len] at hl;exact ih g _ _ (by simp;omega) (by simp;omega)
    .rename_i k n hn;simp only[hn,xa.len] at hl;rw[ih g _ _ (by simp;omega) (by simp;omega)]
    .rfl
theorem PR(p:Nat):fa p []= .ok [⟨5,[],p⟩]:=rfl
theorem K6(p:Nat)(c:UInt8)(r:ar):fa p (c::r)=match u5 (c::r) with
 | .skip n=>fa (p+n) ((c::r).drop n)
 | .tok k n=>ib.push [⟨k,(c::r).take n,p⟩] (fa (p+n) ((c::r).drop n))
 | .bad e=>.error (e,p):=by
 have hl:=Nm c r;unfold fa;simp only[List.length_cons];rw[JP];split
 .rename_i n hn;simp only[hn,xa.len] at hl;exact Nv _ _ _ _ (by simp;omega) (by simp)
 .rename_i k n hn;simp only[hn,xa.len] at hl;rw[Nv r.length _ _ _ (by simp;omega) (ah _)]
 .rfl
theorem Nu{p n:Nat}{c:UInt8}{r:ar}(h:u5 (c::r)= .skip n):fa p (c::r)=fa (p+n) ((c::r).drop n):=by rw[K6,h]
theorem PS{p k n:Nat}{c:UInt8}{r:ar}(h:u5 (c::r)= .tok k n):fa p (c::r)=ib.push [⟨k,(c::r).take n,p⟩] (fa (p+n) ((c::r).drop n)):=by rw[K6,h]
theorem PQ{p e:Nat}{c:UInt8}{r:ar}(h:u5 (c::r)= .bad e):fa p (c::r)= .error (e,p):=by rw[K6,h]
theorem Oq(s:ByteArray)(k:Nat)(h:k<s.size):(bl s).take (k+1)=(bl s).take k++[s[k]]:=by rw[List.take_succ_eq_append_getElem (by simpa using h)];rfl
theorem uu(s:ByteArray)(k:Nat)(h:k<s.size):(bl s).drop k=s[k] :: (bl s).drop (k+1):=by rw[List.drop_eq_getElem_cons (by simpa using h)];rfl
theorem Mc(l:ar)(c:UInt8):qd (l++[c])=10*qd l+(c.toNat - 48):=by simp[qd,List.foldl_append]
theorem P5(l r:ar):qd l<=qd (l++r):=by
 induction r generalizing l with
 |nil=>simp
 |cons c r ih=>have h1:=ih (l++[c]);rw[List.append_assoc] at h1;have h2:=Mc l c;simp only[List.singleton_append] at h1;omega
theorem P6(s:ar)(k:Nat):qd (s.take k)<=qd s:=by have:=P5 (s.take k) (s.drop k);rwa [List.take_append_drop] at this
theorem KX{c:UInt8}:lp c=true↔48<=c.toNat/\c.toNat<=57:=by simp[lp]
theorem Nr{s:ar}(h1:1<s.length)(h2:s[0]? =some 48):fx s=false:=by
 match s,h1 with
 |c::d::r,_=>simp at h2;subst h2;simp[fx]
theorem Nq{s:ar}{k:Nat}{c:UInt8}(h:s[k]? =some c)(hc:lp c=false):fx s=false:=by
 have hm:=List.mem_of_getElem? h;match s with
 |[]=>rfl
 |d::r=>
  have:(d::r).all lp=false:=by rw[List.all_eq_false];exact⟨c,hm,by simp[hc]⟩
  simp only[fx,this];simp
theorem Py{s:ar}(h:9223372036854775807<qd s):fx s=false:=by
 match s with
 |[]=>rfl
 |d::r=>simp only[fx];simp[Nat.not_le.2 h]
theorem Pz{s:ar}(h0:s≠[])(h1:s.length=1∨s[0]? ≠some 48)(h2:s.all lp=true)(h3:qd s<=9223372036854775807):fx s=true:=by
 match s with
 |[]=>exact absurd rfl h0
 |d::r=>
  simp only[fx,h2];simp[h3];rcases h1 with h1|h1
  .left;simpa using h1
  .right;simp at h1;intro e;exact h1 (UInt8.toNat_inj.1 (by rw[e];rfl))
def r9(p:UInt8->Bool)(s:ByteArray)(k m:Nat):Prop:=k<=m/\m<=s.size/\∀i (h:i<s.size),k<=i->i<m->p s[i]=true
theorem r9.start{p:UInt8->Bool}{s:ByteArray}{k:Nat}(hk:k<=s.size):r9 p s k k:=⟨ah _,hk,fun i _ h1 h2=>by omega⟩
theorem r9.step{p:UInt8->Bool}{s:ByteArray}{k m:Nat}(h:r9 p s k m)(hm:m<s.size)(hp:p s[m]=true):r9 p s k (m+1):=by
 obtain⟨h1,h2,h3⟩:=h;refine⟨by omega,by omega,fun i hi a b=>?_⟩;by_cases e:i=m
 .subst e;exact hp
 .exact h3 i hi a (by omega)
theorem On{p:UInt8->Bool}:∀(l:ar) (n:Nat),n<=l.length->(∀i c,i<n->l[i]? =some c->p c=true)->(∀c,l[n]? =some c->p c=false)->(l.takeWhile p).length=n
 |[],n,h,_,_=>by simp at h;simp[h]
 |c::l,0,_,_,h=>by have:=h c (by simp);simp[this]
 |c::l,n+1,hn,h1,h2=>by have hc:=h1 0 c (by omega) (by simp);simp only[List.takeWhile_cons,hc,if_true,List.length_cons];rw[On l n (by simpa using hn) (fun i d hi hd=>h1 (i+1) d (by omega) (by simpa using hd)) (fun d hd=>h2 d (by simpa using hd))]
theorem r9.done{p:UInt8->Bool}{s:ByteArray}{k m:Nat}(h:r9 p s k m)(he:∀(hm:m<s.size),p s[m]=false):(((bl s).drop k).takeWhile p).length=m - k:=by
 obtain⟨h1,h2,h3⟩:=h;refine On _ _ (by rw[List.length_drop,dt];omega) (fun i c hi hc=>?_) (fun c hc=>?_)
 .rw[List.getElem?_drop,pP s _ (by omega)] at hc;injection hc with hc;rw[<-hc];exact h3 _ _ (by omega) (by omega)
 .rw[List.getElem?_drop] at hc;have hlt:k+(m - k)<s.size:=(by rw[<-dt];exact(gl.1 hc).1);rw[pP s _ hlt] at hc;injection hc with hc;rw[<-hc];have e:k+(m - k)=m:=(by omega);have:=he (by omega);simpa[e] using this
theorem Pt{s:ByteArray}{k:Nat}(h:k<s.size)(hb:Jb s[k]=true)(p:Nat):fa p ((bl s).drop k)=fa (p+1) ((bl s).drop (k+1)):=by rw[uu s k h];rw[Nu (n:=1) (by simp[u5,hb])];simp
theorem Rq{s:ByteArray}{k:Nat}(h:k<s.size)(hc:([47,47]:ar).isPrefixOf ((bl s).drop k)=true):Jb s[k]=false:=by rw[uu s k h] at hc;simp[List.isPrefixOf] at hc;rw[<-hc.1];rfl
theorem Nn{s:ByteArray}{k m:Nat}(h:k<s.size)(hc:([47,47]:ar).isPrefixOf ((bl s).drop k)=true)(hs:r9 (fun c=>c.toNat != 10) s k m)(he:∀(hm:m<s.size),(s[m].toNat != 10)=false)(p:Nat):fa p ((bl s).drop k)=fa (p+(m - k)) ((bl s).drop m):=by have hl:=hs.done he;have hb:=Rq h hc;have h1:=hs.1;have hd:(bl s).drop m=((bl s).drop k).drop (m - k):=(by rw[List.drop_drop];congr 1;omega);rw[hd];rw[uu s k h] at hc hl ⊢;rw[Nu (n:=m - k)];simp[u5,hb,hc,LJ,hl]
theorem RZ{c:UInt8}(h:eI c=true):Jb c=false:=by
 cases hb:Jb c
 .rfl
 .simp[eI,gh,lp] at h;simp[Jb] at hb;omega
theorem R5{s:ByteArray}{k:Nat}(h:k<s.size)(hw:eI s[k]=true):([47,47]:ar).isPrefixOf ((bl s).drop k)=false:=by
 rw[uu s k h];cases hc:([47,47]:ar).isPrefixOf (s[k] :: (bl s).drop (k+1))
 .rfl
 .simp[List.isPrefixOf] at hc;rw[<-hc.1] at hw;revert hw;decide
theorem r9.take{p:UInt8->Bool}{s:ByteArray}{k m:Nat}(hs:r9 p s k m)(he:∀(hm:m<s.size),p s[m]=false):((bl s).drop k).takeWhile p=((bl s).drop k).take (m - k):=by have h1:=hs.done he;have h2:=List.takeWhile_prefix p (l:=(bl s).drop k);rw[List.prefix_iff_eq_take] at h2;rw[h2,h1]
theorem Pv{s:ByteArray}{k m:Nat}(h:k<s.size)(hw:eI s[k]=true)(hs:r9 eI s k m)(he:∀(hm:m<s.size),eI s[m]=false)(p:Nat):fa p ((bl s).drop k)=match Jd (((bl s).drop k).take (m - k)) with
 |some kd=>ib.push [⟨kd,((bl s).drop k).take (m - k),p⟩] (fa (p+(m - k)) ((bl s).drop m))
 |none=>.error (101,p):=by
 have hl:=hs.done he;have ht:=hs.take he;have hb:=RZ hw;have hc:=R5 h hw;have h1:=hs.1;have hd:(bl s).drop m=((bl s).drop k).drop (m - k):=(by rw[List.drop_drop];congr 1;omega);rw[hd];rw[uu s k h] at hl hc ht ⊢;rw[K6];simp only[u5,hb,hc,hw];rw[hl,ht];cases hk:Jd (((s[k] :: (bl s).drop (k+1))).take (m - k)) <;>simp
theorem Pu{s:ByteArray}{k:Nat}(h:k<s.size)(hb:Jb s[k]=false)(hc:([47,47]:ar).isPrefixOf ((bl s).drop k)=false)(hw:eI s[k]=false)(p:Nat):fa p ((bl s).drop k)=match JG ((bl s).drop k) with
 |some t=>ib.push [⟨4,t,p⟩] (fa (p+t.length) ((bl s).drop (k+t.length)))
 |none=>.error (100,p):=by
 cases hs:JG ((bl s).drop k) with
 |none=>rw[uu s k h] at hc hs ⊢;rw[PQ];simp[u5,hb,hc,hw,hs]
 |some t=>have h1:=(Mu hs).2.2.2;have hd:(bl s).drop (k+t.length)=((bl s).drop k).drop t.length:=(by rw[List.drop_drop]);have ht:((bl s).drop k).take t.length=t:=(List.prefix_iff_eq_take.1 h1).symm;simp only;rw[hd];rw[uu s k h] at hc hs ht ⊢;rw[PS (k:=4) (n:=t.length),ht];simp[u5,hb,hc,hw,hs]
def Ks(t:bi):List Value:=[.int .u8 t.kind,.string (sb t.text),.int .i64 t.pos]
def r8(ts:List bi):List Value:=ts.flatMap Ks
theorem RM(ts:List bi)(t:bi):r8 (ts++[t])=r8 ts++Ks t:=by simp[r8]
theorem Nc{p:ar->Bool}:∀(l:List ar) (j:Nat) (u:ar),(∀i v,i<j->l[i]? =some v->p v=false)->l[j]? =some u->p u=true->l.find? p=some u
 |[],j,u,_,h,_=>by simp at h
 |a::l,0,u,_,h,hp=>by simp at h;subst h;simp[hp]
 |a::l,j+1,u,h0,h,hp=>by have ha:=h0 0 a (by omega) (by simp);rw[List.find?_cons,ha];exact Nc l j u (fun i v hi hv=>h0 (i+1) v (by omega) (by simpa using hv)) (by simpa using h) hp
theorem Ph{p:ar->Bool}{l:List ar}{n:Nat}(hn:l.length<=n)(h:∀i v,i<n->l[i]? =some v->p v=false):l.find? p=none:=by rw[List.find?_eq_none];intro x hx;obtain⟨i,hi⟩:=List.getElem?_of_mem hx;have:i<l.length:=(gl.1 hi).1;rw[h i x (by omega) hi];simp
def Jz(r:ar)(j:Nat):Prop:=∀i v,i<j->zd[i]? =some v->v.isPrefixOf r=false
theorem Jz.step{r:ar}{j:Nat}{u:ar}(h:Jz r j)(hu:zd[j]? =some u)(hp:u.isPrefixOf r=false):Jz r (j+1):=by
 intro i v hi hv;by_cases e:i=j
 .subst e;rw[hu] at hv;injection hv with hv;rw[<-hv];exact hp
 .exact h i v (by omega) hv
theorem Jz.found{r:ar}{j:Nat}{u:ar}(h:Jz r j)(hu:zd[j]? =some u)(hp:u.isPrefixOf r=true):JG r=some u:=
 Nc zd j u h hu hp
theorem Jz.all{r:ar}{j:Nat}(h:Jz r j)(hj:23<=j):JG r=none:=Ph (n:=j) (by exact hj) h
theorem Rp:∀u∈zd,u.length<=2:=by decide
inductive ag where
 |node (k:Nat) (s:ar) (x:Int) (ks:List ag)
 deriving Repr,Inhabited
def ag.kind:ag->Nat| .node k _ _ _=>k
def ag.text:ag->ar| .node _ s _ _=>s
def ag.num:ag->Int| .node _ _ x _=>x
def ag.kids:ag->List ag| .node _ _ _ ks=>ks
mutual
def ag.sz:ag->Nat
 | .node _ _ _ ks=>1+ao ks
def ao:List ag->Nat
 |[]=>0
 |t::ts=>t.sz+ao ts
end
mutual
def ag.same:ag->ag->Bool
 | .node k s x ks,.node k' s' x' ks'=>k == k' && s == s' && x == x' && bB ks ks'
def bB:List ag->List ag->Bool
 |[],[]=>true
 |t::ts,u::us=>t.same u && bB ts us
 |_,_=>false
end
mutual
theorem Kq:∀t u:ag,t.same u=true↔t=u
 | .node k s x ks,.node k' s' x' ks'=>by simp only[ag.same,Bool.and_eq_true,beq_iff_eq,ag.node.injEq];rw[kP ks ks'];exact⟨fun⟨⟨⟨a,b⟩,c⟩,d⟩=>⟨a,b,c,d⟩,fun⟨a,b,c,d⟩=>⟨⟨⟨a,b⟩,c⟩,d⟩⟩
theorem kP:∀ts us:List ag,bB ts us=true↔ts=us
 |[],[]=>by simp[bB]
 |[],_::_=>by simp[bB]
 |_::_,[]=>by simp[bB]
 |t::ts,u::us=>by simp only[bB,Bool.and_eq_true,List.cons.injEq];rw[Kq t u,kP ts us]
end
def ig:Nat->Option (List Nat×Bool)
 |1=>some ([2],true)
 |2=>some ([3,5],false)
 |3=>some ([4],true)
 |4=>some ([],false)
 |5=>some ([201],true)
 |6=>some ([200],false)
 |7=>some ([202,200],false)
 |8=>some ([200,5,5],false)
 |9=>some ([200,5],false)
 |10=>some ([200],false)
 |11=>some ([200],false)
 |12=>some ([25],false)
 |20=>some ([],false)
 |21=>some ([],false)
 |22=>some ([],false)
 |23=>some ([200],false)
 |24=>some ([200,200],false)
 |25=>some ([200],true)
 |26=>some ([200,200],false)
 |27=>some ([200,200],false)
 |28=>some ([200],false)
 |29=>some ([],false)
 |_=>none
def fP(k of:Nat):Bool:=
 if of=200 then decide (20<=k) && decide (k<=29)
 else if of=201 then(decide (6<=k) && decide (k<=12)) || k == 5
 else if of=202 then k == 22 || k == 26
 else k == of
def mn(parent kid at_:Nat):Bool:=
 match ig parent with
 |none=>false
 |some (l,true)=>fP kid (l.headD 0)
 |some (l,false)=>match l[at_]? with|some o=>fP kid o|none=>false
def cG(k:Nat):Bool:=k == 2 || k == 4 || k == 6 || k == 22 || k == 25
def lK:List ar:=[[45],[33]]
def Bz:List ar:=[[124,124],[38,38],[61,61],[33,61],[60],[60,61],[62],[62,61],[43],[45],[42],[47],[37]]
def dx(k:Nat)(s:ar)(x:Int):Bool:=
 if k=20 then s == [] && decide (0<=x)
 else if k=21 then s == [] && (x == 0 || x == 1)
 else if x != 0 then false
 else if cG k then be s
 else if k=23 then lK.contains s
 else if k=24 then Bz.contains s
 else s == []
mutual
def cE:Nat->ag->Bool
 |deep,.node k s x ks=>
  match ig k with
  |none=>false
  |some (l,all)=>
   decide (deep<=40) && dx k s x && (all || ks.length == l.length) && bV k 0 (deep+1) ks &&
    (k != 7 || match ks with| .node 22 _ _ _::_=>true| .node _ _ _ (.node 22 _ _ _::_) ::_=>true|_=>false)
def bV:Nat->Nat->Nat->List ag->Bool
 |_,_,_,[]=>true
 |k,i,deep,t::ts=>mn k t.kind i && cE deep t && bV k (i+1) deep ts
end
def pi(t:ag):Bool:=cE 1 t
mutual
def ag.names:ag->List ar
 | .node k s _ ks=>(if cG k then[s] else[])++bE ks
def bE:List ag->List ar
 |[]=>[]
 |t::ts=>t.names++bE ts
end
def bu(a b:List Int):Bool:=b.isPrefixOf a
def fo(p:List Int)(at_:Nat)(f:Int->Int):List Int:=
 match p[at_]? with
 |some k=>p.set at_ (f k)
 |none=>p
def jd(at_ k:Int):Int:=if at_<=k then k+1 else k
def cF(at_ k:Int):Int:=if at_<k then k - 1 else k
def CB(p list:List Int)(f:Int->Int):List Int:=if bu p list then fo p list.length f else p
def fO(p list:List Int)(at_:Int):List Int:=CB p list (jd at_)
def fN(p list:List Int)(at_:Int):Bool:=decide (list.length<p.length) && bu p list && p[list.length]? == some at_
def dR(p list:List Int)(at_:Int):Option (List Int):=if fN p list at_ then none else some (CB p list (cF at_))
def eT(p list:List Int)(from_ to_:Int):List Int:=CB p list (fun k=>if k=from_ then to_ else jd to_ (cF from_ k))
structure aj where
 kind:Nat
 path:List Int
 at_:Int
 far:Int
 frm:ar
 to_:ar
 olds:List ag
 news:List ag
 deriving Repr,Inhabited
def aj.zero:aj:=⟨0,[],0,0,[],[],[],[]⟩
def aH(n:Int):Bool:=decide (0<=n) && decide (n<=1073741824)
def bR:List ag->Bool
 |[t]=>pi t
 |_=>false
def aq(k:Nat):Bool:=k == 2 || k == 3 || k == 5
def aG(k:Nat):Bool:=k == 3 || k == 4 || k == 5
def aF(k:Nat):Bool:=k == 2 || k == 4
def ap(e:aj):Bool:=
 if !e.path.all aH || !aH e.at_ || !aH e.far then false
 else if (!aq e.kind && (e.at_ != 0 || e.path.isEmpty)) || ((e.at_ != e.far) != (e.kind == 5) && e.kind != 2 && e.kind != 3) || (e.far != 0 && e.kind != 5) then false
 else if (e.kind == 1) != (be e.frm && be e.to_ && e.frm != e.to_) || (e.kind != 1 && !(e.frm++e.to_).isEmpty) then false
 else if aG e.kind != bR e.olds || aF e.kind != bR e.news || (!aG e.kind && !e.olds.isEmpty) || (!aF e.kind && !e.news.isEmpty) then false
 else e.kind == 1 || aq e.kind || (e.kind == 4 && !bB e.olds e.news)
def bD(e:aj):aj:=
 if !ap e then aj.zero
 else if e.kind=5 then⟨5,e.path,e.far,e.at_,e.to_,e.frm,e.olds,e.news⟩
 else⟨if e.kind=2 then 3 else if e.kind=3 then 2 else e.kind,e.path,e.at_,e.far,e.to_,e.frm,e.news,e.olds⟩
def Ml(e:aj)(p:List Int):Option (List Int):=
 if e.kind=2 then some (fO p e.path e.at_)
 else if e.kind=3 then dR p e.path e.at_
 else if e.kind=4 then(if bu p e.path then none else some p)
 else if e.kind=5 then(if bu p (e.path++[e.at_]) then none else some (eT p e.path e.at_ e.far))
 else some p
def a8(toks:List bi)(i:Nat)(s:ar):Bool:=match toks[i]? with
 |some t=>(t.kind == 2 || t.kind == 4) && t.text == s
 |none=>false
def I7:Nat->List ar
 |0=>[[124,124]]
 |1=>[[38,38]]
 |2=>[[61,61],[33,61],[60],[60,61],[62],[62,61]]
 |3=>[[43],[45]]
 |_=>[[42],[47],[37]]
def td(toks:List bi)(i:Nat):List ar->ar->ar
 |[],a=>a
 |s::l,a=>td toks i l (if a8 toks i s then s else a)
mutual
def tc (toks:List bi):Nat->Nat->Nat->Option (ag×Nat)
 |0,_,_=>none
 |f+1,lv,i=>match JV toks f lv i with
  |none=>none
  |some (n,j)=>KF toks f lv n j
def JV (toks:List bi):Nat->Nat->Nat->Option (ag×Nat)
 |0,_,_=>none
 |f+1,lv,i=>if lv<4 then tc toks f (lv+1) i else KI toks f i
def KF (toks:List bi):Nat->Nat->ag->Nat->Option (ag×Nat)
 |0,_,_,_=>none
 |f+1,lv,n,i=>if td toks i (I7 lv) []=[] then some (n,i) else match JV toks f lv (i+1) with
  |none=>none
  |some (m,j)=>KF toks f lv (.node 24 (td toks i (I7 lv) []) 0 [n,m]) j
def KI (toks:List bi):Nat->Nat->Option (ag×Nat)
 |0,_=>none
 |f+1,i=>if a8 toks i [45] || a8 toks i [33] then none else match KG toks f i with
  |none=>none
  |some (n,j)=>if a8 toks j [91] then none else some (n,j)
def KG (toks:List bi):Nat->Nat->Option (ag×Nat)
 |0,_=>none
 |f+1,i=>match toks[i]? with
  |none=>none
  |some t=>if t.kind=3 then(if fx t.text then some (.node 20 [] (qd t.text) [],i+1) else none)
   else if t.kind=1 then(if a8 toks (i+1) [40] then JU toks f t.text (i+1) else some (.node 22 t.text 0 [],i+1))
   else none
def JU (toks:List bi):Nat->ar->Nat->Option (ag×Nat)
 |0,_,_=>none
 |f+1,s,i=>if a8 toks i [40] then match Jr toks f (!a8 toks (i+1) [41]) [] (i+1) with
  |none=>none
  |some (ks,j)=>if a8 toks j [41] then some (.node 25 s 0 ks,j+1) else none
  else none
def Jr (toks:List bi):Nat->Bool->List ag->Nat->Option (List ag×Nat)
 |0,_,_,_=>none
 |_+1,false,ks,i=>some (ks,i)
 |f+1,true,ks,i=>match tc toks f 0 i with
  |none=>none
  |some (e,j)=>Jr toks f (a8 toks j [44]) (ks++[e]) (if a8 toks j [44] then j+1 else j)
end
def y9(toks:List bi)(i k:Nat):Option ar:=match toks[i]? with
 |some t=>if t.kind=k then some t.text else none
 |none=>none
def Kh(toks:List bi)(f k i:Nat):Option (ag×Nat):=match tc toks f 0 (i+1) with
 |none=>none
 |some (e,j)=>if a8 toks j [59] then some (.node k [] 0 [e],j+1) else none
def Mh(toks:List bi)(f i:Nat):Option (ag×Nat):=match y9 toks (i+1) 1 with
 |none=>none
 |some s=>if a8 toks (i+2) [61] then match tc toks f 0 (i+3) with
  |none=>none
  |some (e,j)=>if a8 toks j [59] then some (.node 6 s 0 [e],j+1) else none
  else none
def Mg(toks:List bi)(f i:Nat):Option (ag×Nat):=match y9 toks i 1 with
 |none=>none
 |some s=>if a8 toks (i+1) [40] then match JU toks f s (i+1) with
  |none=>none
  |some (c,j)=>if a8 toks j [59] then some (.node 12 [] 0 [c],j+1) else none
  else none
mutual
def KH (toks:List bi):Nat->Nat->Option (ag×Nat)
 |0,_=>none
 |f+1,i=>
  if a8 toks i [118,97,114] then Mh toks f i
  else if a8 toks i [105,102] then none
  else if a8 toks i [119,104,105,108,101] then none
  else if a8 toks i [114,101,116,117,114,110] then Kh toks f 10 i
  else if a8 toks i [112,114,105,110,116] then Kh toks f 11 i
  else if a8 toks i [123] then JT toks f i
  else Mg toks f i
def JT (toks:List bi):Nat->Nat->Option (ag×Nat)
 |0,_=>none
 |f+1,i=>if a8 toks i [123] then match Ki toks f [] (i+1) with
  |none=>none
  |some (ks,j)=>if a8 toks j [125] then some (.node 5 [] 0 ks,j+1) else none
  else none
def Ki (toks:List bi):Nat->List ag->Nat->Option (List ag×Nat)
 |0,_,_=>none
 |f+1,ks,i=>if a8 toks i [125] then some (ks,i) else match KH toks f i with
  |none=>none
  |some (s,j)=>Ki toks f (ks++[s]) j
end
def Js(toks:List bi):Nat->Bool->List ag->Nat->Option (List ag×Nat)
 |0,_,_,_=>none
 |_+1,false,ks,i=>some (ks,i)
 |f+1,true,ks,i=>match y9 toks i 1 with
  |none=>none
  |some s=>Js toks f (a8 toks (i+1) [44]) (ks++[.node 4 s 0 []]) (if a8 toks (i+1) [44] then i+2 else i+1)
def Lj(toks:List bi)(f i:Nat):Option (ag×Nat):=
 if a8 toks i [102,117,110,99] then match y9 toks (i+1) 1 with
  |none=>none
  |some s=>if a8 toks (i+2) [40] then match Js toks f (!a8 toks (i+3) [41]) [] (i+3) with
   |none=>none
   |some (ps,j)=>if a8 toks j [41] then match JT toks f (j+1) with
    |none=>none
    |some (b,k)=>some (.node 2 s 0 [.node 3 [] 0 ps,b],k)
    else none
   else none
 else none
def JE(toks:List bi):Nat->List ag->Nat->Option (List ag)
 |0,_,_=>none
 |f+1,ks,i=>match toks[i]? with
  |none=>none
  |some t=>if t.kind=5 then some ks else match Lj toks f i with
   |none=>none
   |some (x,j)=>JE toks f (ks++[x]) j
theorem CN{X W:World}(h:Below X.heap.size X W)(n:Nat):Below X.heap.size X (W.drewN n):=⟨h.os,h.tape,h.output,h.size,h.block⟩
theorem ua{X W:World}(h:Below X.heap.size X W):Below X.heap.size X W.drew:=h.drew
theorem bz_alloc{X W:World}(h:Below X.heap.size X W)(o:Obj):Below X.heap.size X (W.alloc o):=h.alloc h.size o
theorem bz{p:Prop}(h:p:=by(repeat (first|with_reducible exact ai _ _|(refine Hid.out ?_;with_reducible assumption)|with_reducible apply CN|with_reducible apply ua|with_reducible apply bz_alloc))):p:=h
theorem dk{w:World}{base base':Nat}{e:TypeId}{size:Nat}{v:Value}{n:Nat}{xs:List Value}(h:w.ownsRow base e size v n xs)(hb:base'<=base):w.ownsRow base' e size v n xs:=by obtain⟨h1,h2⟩:=h;refine⟨h1,h2.imp id ?_⟩;rintro⟨g,cap,cur,hv,hg,r⟩;exact⟨g,cap,cur,hv,aJ hb hg,r⟩
theorem bM{w w':World}{B base:Nat}{e:TypeId}{size:Nat}{v:Value}{n:Nat}{xs:List Value}(h:w.ownsRow base e size v n xs)(hb:Below B w w')(hB:w.heap.size<=B):w'.ownsRow base e size v n xs:=by
 obtain⟨h1,h2⟩:=h;refine⟨h1,h2.imp id ?_⟩;rintro⟨g,cap,cur,hv,hg,hh,r⟩;refine⟨g,cap,cur,hv,hg,?_,r⟩;have hlt:g<w.heap.size:=by
  rcases Nat.lt_or_ge g w.heap.size with hlt|hge
  .exact hlt
  .rw[Array.getElem?_eq_none hge] at hh;cases hh
 rw[hb.block g (by omega)];exact hh
theorem re{w:World}{base:Nat}{e:TypeId}{size:Nat}{v:Value}{n:Nat}{xs:List Value}(h:w.ownsRow base e size v n xs){a:Addr}(ha:v.ownBlock≠some a.block)(u:Value):(w.setCell a u).ownsRow base e size v n xs:=by obtain⟨h1,h2⟩:=h;refine⟨h1,h2.imp id ?_⟩;rintro⟨g,cap,cur,rfl,hg,hh,r⟩;refine⟨g,cap,cur,rfl,hg,?_,r⟩;rw[aY _ _ _ _ (fun e=>ha (by simp[Value.ownBlock,e]))];exact hh
theorem Ee{B:Nat}{w w':World}{v:Value}{base:Nat}{e:TypeId}{size:Nat}{n:Nat}{xs:List Value}(h:w.ownsRow base e size v n xs)(hg:w.grownBy w' v.ownBlock)(hB:B<=base)(hs:B<=w.heap.size):Below B w w':=
 (ai _ _).grown hg hs (fun k hk=>aJ hB (h.lt k hk).1)
theorem t9{w:World}{base:Nat}{e:TypeId}{size:Nat}{v:Value}{n:Nat}{xs:List Value}(h:w.ownsRow base e size v n xs):∃A c,v= .slice A n c/\n<=c/\c<=maxLen:=by
 rcases h.2 with ⟨h1,h2⟩|⟨g,cap,cur,hv,_,_,h3,h4,_⟩
 .exact⟨none,0,by rw[h1,h2],by omega,by unfold maxLen;omega⟩
 .exact⟨some ⟨g,0,none⟩,cap,hv,h3,h4⟩
theorem CE(b o j:Nat):(⟨b,o,none⟩:Addr).add j=⟨b,o+j,none⟩:=by unfold Addr.add;split<;>simp_all
theorem bH{w:World}{base:Nat}{e:TypeId}{size:Nat}{g n c:Nat}{xs:List Value}(h:w.ownsRow base e size (.slice (some ⟨g,0,none⟩) n c) n xs):∀j u,xs[j]? =some u->w.cell? ⟨g,j,none⟩=some u:=by intro j u hu;have:=h.cells (g:=g) rfl j u hu;rw[CE] at this;simpa using this
theorem heap_alloc_at{w:World}{o:Obj}{n:Nat}(h:w.heap.size=n):(w.alloc o).heap[n]? =some o:=by subst h;exact heap_alloc_new w o
structure OE (w:World) (b:Nat) (x y z:Value):Prop where
 c0:w.cell? ⟨b,0,none⟩=some x
 c1:w.cell? ⟨b,1,none⟩=some y
 c2:w.cell? ⟨b,2,none⟩=some z
 f0:w.frozen? ⟨b,0,none⟩=false
 f1:w.frozen? ⟨b,1,none⟩=false
 f2:w.frozen? ⟨b,2,none⟩=false
theorem Jc{w:World}{b:Nat}{x y z:Value}{T:TypeId}(h:w.heap[b]? =some (.cells #[x,y,z] T (0,0))):OE w b x y z:=by have hc:=fun j=>cell_of_row w b j _ T (0,0) h;refine⟨by rw[hc];rfl,by rw[hc];rfl,by rw[hc];rfl,?_,?_,?_⟩ <;>simp[World.frozen?,h]
theorem eH{P:Program}{f:FuncId}{fn:Func}(hf:P.funcs[f]? =some fn)(hn:(fn.name == "runtime.NumGoroutine")=false)(hb:fn.body.isNone=false)(args:Array Value)(w:World):(callFunc f args).run P w= .ok (.enter f args) w:=by have hn':¬fn.name= "runtime.NumGoroutine":=(by simpa using hn);have hb':¬fn.body=none:=(by intro e;rw[e] at hb;simp at hb);simp[callFunc,hf,hn',hb']
def tw(x:Int):Prop:= -9223372036854775808<=x/\x<=9223372036854775807
mutual
def cJ (w:World):ag->Nat->Nat->Prop
 | .node k s x ks,b,o=>w.cell? ⟨b,o,none⟩=some (.int .u8 k)/\w.cell? ⟨b,o+1,none⟩=some (.string (sb s))/\w.cell? ⟨b,o+2,none⟩=some (.int .i64 x)/\k<=255/\s.length<=maxLen/\tw x/\
  ∃A c,w.cell? ⟨b,o+3,none⟩=some (.slice A ks.length c)/\ks.length<=c/\c<=maxLen/\(ks=[]∨∃b' o',A=some ⟨b',o',none⟩/\bk w ks b' o')
def bk (w:World):List ag->Nat->Nat->Prop
 |[],_,_=>True
 |t::ts,b,o=>cJ w t b o/\bk w ts b (o+4)
end
def ce(w:World)(ks:List ag)(A:Option Addr)(n c:Nat):Prop:=n=ks.length/\n<=c/\c<=maxLen/\(ks=[]∨∃b o,A=some ⟨b,o,none⟩/\bk w ks b o)
def cf(w:World)(t:ag)(k:Nat)(s:ByteArray)(x:Int)(A:Option Addr)(n c:Nat):Prop:=
 ∃ks,t= .node k (bl s) x ks/\k<=255/\s.size<=maxLen/\tw x/\ce w ks A n c
theorem bk.get{w:World}:∀{ts:List ag} {b o:Nat},bk w ts b o->∀{i:Nat} {t:ag},ts[i]? =some t->cJ w t b (o+i*4)
 |t::ts,b,o,h,0,u,hu=>by simp only[List.getElem?_cons_zero,Option.some.injEq] at hu;subst hu;simp only[bk] at h;simpa using h.1
 |t::ts,b,o,h,i+1,u,hu=>by simp only[List.getElem?_cons_succ] at hu;simp only[bk] at h;have:=bk.get h.2 hu;rwa [show o+(i+1) *4=o+4+i*4 from by omega]
theorem bk.mk{w:World}:∀{ts:List ag} {b o:Nat},(∀i t,ts[i]? =some t->cJ w t b (o+i*4))->bk w ts b o
 |[],_,_,_=>by simp[bk]
 |t::ts,b,o,h=>by simp only[bk];refine⟨by simpa using h 0 t rfl,bk.mk fun i u hu=>?_⟩;have:=h (i+1) u (by simpa using hu);rwa [show o+4+i*4=o+(i+1) *4 from by omega]
theorem cJ.cells{w:World}{t:ag}{b o:Nat}(h:cJ w t b o):∃A c,w.cell? ⟨b,o,none⟩=some (.int .u8 t.kind)/\w.cell? ⟨b,o+1,none⟩=some (.string (sb t.text))/\w.cell? ⟨b,o+2,none⟩=some (.int .i64 t.num)/\w.cell? ⟨b,o+3,none⟩=some (.slice A t.kids.length c)/\cf w t t.kind (sb t.text) t.num A t.kids.length c:=by obtain⟨k,s,x,ks⟩:=t;simp only[cJ] at h;obtain⟨h0,h1,h2,g0,g1,g2,A,c,h3,g3,g4,g5⟩:=h;exact⟨A,c,h0,h1,h2,h3,ks,rfl,g0,g1,g2,rfl,g3,g4,g5⟩
theorem ce.get{w:World}{ks:List ag}{A:Option Addr}{n c:Nat}(h:ce w ks A n c){i:Nat}(hi:i<n):∃b o t,A=some ⟨b,o,none⟩/\ks[i]? =some t/\cJ w t b (o+i*4):=by
 obtain⟨hn,_,_,h⟩:=h;rcases h with rfl|⟨b,o,e,hr⟩
 .simp at hn;omega
 .have:ks[i]? =some (ks[i]'(by omega)):=br (by omega);exact⟨b,o,_,e,this,hr.get this⟩
theorem bK{w:World}{a:Addr}{v:Value}(h:w.cell? a=some v):a.block<w.heap.size:=by
 rcases Nat.lt_or_ge a.block w.heap.size with hl|hg
 .exact hl
 .simp[World.cell?,Array.getElem?_eq_none hg] at h
theorem ac{w w':World}(hb:Below w.heap.size w w'){a:Addr}{v:Value}(h:w.cell? a=some v):w'.cell? a=some v:=by rw[hb.cell (bK h)];exact h
mutual
theorem cJ.keep {w w':World} (hb:∀a v,w.cell? a=some v->w'.cell? a=some v):∀{t:ag} {b o:Nat},cJ w t b o->cJ w' t b o
 | .node k s x ks,b,o,h=>by
  simp only[cJ] at h ⊢;obtain⟨h0,h1,h2,g0,g1,g2,A,c,h3,g3,g4,g5⟩:=h;refine⟨hb _ _ h0,hb _ _ h1,hb _ _ h2,g0,g1,g2,A,c,hb _ _ h3,g3,g4,?_⟩;rcases g5 with e|⟨b',o',e,hr⟩
  .exact .inl e
  .exact .inr ⟨b',o',e,bk.keep hb hr⟩
theorem bk.keep {w w':World} (hb:∀a v,w.cell? a=some v->w'.cell? a=some v):∀{ts:List ag} {b o:Nat},bk w ts b o->bk w' ts b o
 |[],_,_,_=>by simp[bk]
 |t::ts,b,o,h=>by simp only[bk] at h ⊢;exact⟨cJ.keep hb h.1,bk.keep hb h.2⟩
end
theorem ce.keep{w w':World}(hb:∀a v,w.cell? a=some v->w'.cell? a=some v){ks:List ag}{A:Option Addr}{n c:Nat}(h:ce w ks A n c):ce w' ks A n c:=by
 obtain⟨h1,h2,h3,h4⟩:=h;refine⟨h1,h2,h3,?_⟩;rcases h4 with e|⟨b,o,e,hr⟩
 .exact .inl e
 .exact .inr ⟨b,o,e,hr.keep hb⟩
theorem ce.below{w w':World}(hb:Below w.heap.size w w'){ks:List ag}{A:Option Addr}{n c:Nat}(h:ce w ks A n c):ce w' ks A n c:=h.keep fun _ _=>ac hb
theorem cJ.below{w w':World}(hb:Below w.heap.size w w'){t:ag}{b o:Nat}(h:cJ w t b o):cJ w' t b o:=h.keep fun _ _=>ac hb
theorem cf.keep{w w':World}(hb:∀a v,w.cell? a=some v->w'.cell? a=some v){t:ag}{k:Nat}{s:ByteArray}{x:Int}{A:Option Addr}{n c:Nat}(h:cf w t k s x A n c):cf w' t k s x A n c:=by obtain⟨ks,e,h1,h2,h3,h4⟩:=h;exact⟨ks,e,h1,h2,h3,h4.keep hb⟩
theorem cf.below{w w':World}(hb:Below w.heap.size w w'){t:ag}{k:Nat}{s:ByteArray}{x:Int}{A:Option Addr}{n c:Nat}(h:cf w t k s x A n c):cf w' t k s x A n c:=h.keep fun _ _=>ac hb
theorem ce.nil(w:World)(A:Option Addr){c:Nat}(h:c<=maxLen):ce w [] A 0 c:=⟨rfl,aE _,h,.inl rfl⟩
mutual
def ag.short (L:Nat):ag->Prop
 | .node _ s _ ks=>s.length<=L/\ex L ks
def ex (L:Nat):List ag->Prop
 |[]=>True
 |t::ts=>t.short L/\ex L ts
end
theorem ex.get{L:Nat}:∀{ts:List ag},ex L ts->∀{i:Nat} {t:ag},ts[i]? =some t->t.short L
 |t::ts,h,0,u,hu=>by simp only[List.getElem?_cons_zero,Option.some.injEq] at hu;subst hu;simp only[ex] at h;exact h.1
 |t::ts,h,i+1,u,hu=>by simp only[List.getElem?_cons_succ] at hu;simp only[ex] at h;exact ex.get h.2 hu
section
open Go.RowKit Go.MapKept Go.ChangeMaps
def eL(w:World)(b:Nat)(l:List (Nat×Value)):Prop:=
 ∃es clock,w.heap[b]? =some (.map es clock)/\es.toList.map (fun e=>(e.key,e.val))=l.map (fun p=>(Value.int .u8 p.1,p.2))
theorem eL.lt{w:World}{b:Nat}{l:List (Nat×Value)}(h:eL w b l):b<w.heap.size:=by obtain⟨es,clock,hb,_⟩:=h;exact(aK.1 hb).1
theorem eL.made(w:World):eL (w.alloc (.map #[] 0)) w.heap.size []:=⟨#[],0,heap_alloc_new w _,rfl⟩
theorem eL.below{w w':World}{b:Nat}{l:List (Nat×Value)}(h:eL w b l)(hb:Below w.heap.size w w'):eL w' b l:=by have hlt:=h.lt;obtain⟨es,clock,hh,e⟩:=h;exact⟨es,clock,(hb.block b hlt).trans hh,e⟩
theorem lr(n:Int):IsKey (.int .u8) (.int .u8 n):=by simp[IsKey]
theorem wL{l:List (Nat×Value)}{es:Array MapEntry}(h:es.toList.map (fun e=>(e.key,e.val))=l.map (fun p=>(Value.int .u8 p.1,p.2))):∀x∈es.toList,IsKey (.int .u8) x.key:=by intro x hx;have:(x.key,x.val)∈es.toList.map (fun e=>(e.key,e.val)):=List.mem_map.2 ⟨x,hx,rfl⟩;rw[h] at this;obtain⟨p,_,e⟩:=List.mem_map.1 this;injection e with e1 e2;rw[<-e1];exact lr _
theorem eL.insert{P:Program}{t kt e:TypeId}(ht:P.underlying t=some (.map kt e))(hk:P.underlying kt=some (.int .u8)){w:World}{b:Nat}{l:List (Nat×Value)}(h:eL w b l){k:Nat}(v:Value)(hn:(l.all fun p=>p.1 != k)=true):∃w',(Instr.mapUpdate t (.map (some b)) (.int .u8 k) v).run P w= .ok () w'/\eL w' b (l++[(k,v)])/\w.grownBy w' (some b):=by
 obtain⟨es,clock,hb,he⟩:=h;have hks:=wL he;rcases findNow_spec (lr (k:Int)) es.toList 0 hks with ⟨h1,_⟩|⟨j,e0,_,h2,h3⟩
 .refine⟨setBlock w b (.map (es.push { key:=.int .u8 k,val:=v,born:=clock }) (clock+1)),?_,⟨_,_,heap_setBlock_same hb _,?_⟩,⟨rfl,rfl,rfl,by simp[setBlock],fun i _ hi=>heap_setBlock_other hb _ (fun e=>hi (by rw[e]))⟩⟩
  .simp[Instr.mapUpdate,run_underlying ht,MapKept.run_getObj_map hb,run_checkKey hk (lr _),run_findKey hk h1,MapKept.run_setObj_map _ hb,Result.andThen,setBlock]
  .simp[he]
 .exfalso;have hm:(e0.key,e0.val)∈es.toList.map (fun e=>(e.key,e.val)):=List.mem_map.2 ⟨e0,List.mem_of_getElem? h2,rfl⟩;rw[he] at hm;obtain⟨p,hp,e⟩:=List.mem_map.1 hm;injection e with e1 _;rw[h3] at e1;injection e1 with _ e1;have:=List.all_eq_true.1 hn p hp;simp at this;omega
theorem qh:∀(es:List MapEntry) (l:List (Nat×Value)) (k i:Nat),es.map (fun e=>(e.key,e.val))=l.map (fun p=>(Value.int .u8 p.1,p.2))->∃r,Instr.findNow (.int .u8) (.int .u8 (k:Int)) es i=some r/\r.map (·.2)=l.lookup k
 |[],[],_,_,_=>⟨none,rfl,rfl⟩
 |[],_::_,_,_,h=>by simp at h
 |_::_,[],_,_,h=>by simp at h
 |e::es,p::l,k,i,h=>by
  simp only[List.map_cons,List.cons.injEq,Prod.mk.injEq] at h;obtain⟨⟨h1,h2⟩,h3⟩:=h;obtain⟨q,v⟩:=p;simp only at h1 h2;by_cases hk:k=q
  .subst hk;refine⟨some (i,e.val),?_,?_⟩
   .simp[Instr.findNow,Instr.sameNow,h1]
   .simp[List.lookup,h2]
  .obtain⟨r,hr,hr2⟩:=qh es l k (i+1) h3;refine⟨r,?_,?_⟩
   .have:((k:Int) == q)=false:=(by simp;omega);simp[Instr.findNow,Instr.sameNow,h1,this,hr]
   .have:(k == q)=false:=(by simp[hk]);simp[List.lookup,this,hr2]
theorem eL.look{P:Program}{t kt e:TypeId}(ht:P.underlying t=some (.map kt e))(hk:P.underlying kt=some (.int .u8)){w:World}{b:Nat}{l:List (Nat×Value)}(h:eL w b l)(k:Nat){z:Value}(hz:(zeroValue e).run P w= .ok z w)(ok:Bool):(Instr.lookup t (.map (some b)) (.int .u8 k) ok).run P w= .ok (if ok then .tuple #[(l.lookup k).getD z,.bool (l.lookup k).isSome] else(l.lookup k).getD z) w:=by
 obtain⟨es,clock,hb,he⟩:=h;obtain⟨r,h1,h2⟩:=qh es.toList l k 0 he;cases r with
 |none=>rw[<-h2];simp[Instr.lookup,run_underlying ht,MapKept.run_getObj_map hb,run_checkKey hk (lr _),run_findKey hk h1,hz,Result.andThen]
 |some y=>rw[<-h2];simp[Instr.lookup,run_underlying ht,MapKept.run_getObj_map hb,run_checkKey hk (lr _),run_findKey hk h1,Result.andThen]
end
def gL(w:World)(A:Option Addr)(n:Nat)(ss:List ar):Prop:=
 ss.length=n/\(0<n->∃ad,A=some ad/\ad.block<w.heap.size/\∀j u,ss[j]? =some u->w.cell? (ad.add j)=some (.string (sb u)))
theorem gL.at_{w:World}{A:Option Addr}{n:Nat}{ss:List ar}(h:gL w A n ss){k:Nat}(hk:k<n):∃ad u,A=some ad/\ad.block<w.heap.size/\ss[k]? =some u/\w.cell? (ad.add k)=some (.string (sb u)):=by obtain⟨hl,h⟩:=h;obtain⟨ad,e,hb,hc⟩:=h (by omega);exact⟨ad,ss[k]'(by omega),e,hb,br (by omega),hc k _ (br (by omega))⟩
def dj(l:List ar)(x:ar):Bool:=l.contains x
theorem qk{l:List ar}{x:ar}{k:Nat}(h:l[k]? =some x):dj l x=true:=by unfold dj;simp;exact List.mem_of_getElem? h
theorem pV{ss:List ar}{x u:ar}{k:Nat}(hu:ss[k]? =some u):dj (ss.take (k+1)) x=(dj (ss.take k) x || u == x):=by
 have hk:k<ss.length:=(gl.1 hu).1;have:ss.take (k+1)=ss.take k++[u]:=by rw[List.take_succ_eq_append_getElem hk];rw[br hk] at hu;injection hu with hu;rw[hu]
 rw[this];unfold dj;rw[Bool.eq_iff_iff];simp only[List.contains_iff_mem,List.mem_append,List.mem_singleton,Bool.or_eq_true,beq_iff_eq];exact⟨fun h=>h.imp id Eq.symm,fun h=>h.imp id Eq.symm⟩
theorem gL.new{w:World}{T:TypeId}{n:Nat}(ss:List ar)(hn:ss.length=n):gL (w.alloc (.cells (ss.map fun u=>Value.string (sb u)).toArray T)) (some ⟨w.heap.size,0,none⟩) n ss:=by
 refine⟨hn,fun _=>⟨_,rfl,by simp,fun j u hu=>?_⟩⟩;have hj:(Addr.add ⟨w.heap.size,0,none⟩ j)=⟨w.heap.size,j,none⟩:=by unfold Addr.add;split<;>simp_all
 rw[hj,World.cell?_alloc_new];simp[hu]
def jq(n:Nat)(ss:List ar)(w:World)(e:Ending)(w':World):Prop:=∃A,e= .returned (.slice A n n)/\gL w' A n ss/\Below w.heap.size w w'/\(∀ad,A=some ad->w.heap.size<=ad.block)/\∃g,A=some ⟨g,0,none⟩
def ak(b:Bool)(w:World)(e:Ending)(w':World):Prop:=e= .returned (.bool b)/\Below w.heap.size w w'
theorem ak.intro{b b':Bool}{w w':World}(h:b'=b)(hb:Below w.heap.size w w'):ak b w (.returned (.bool b')) w':=⟨by rw[h],hb⟩
theorem L8{s:ByteArray}(h:0<s.size):∃r,bl s=s[0] ::r:=⟨(bl s).drop 1,by have:=uu s 0 h;simpa using this⟩
theorem qt{s:ByteArray}(h:24<s.size):be (bl s)=false:=by obtain⟨r,hr⟩:=L8 (s:=s) (by omega);have hl:=dt s;rw[hr] at hl ⊢;simp only[be];rw[hl];simp[Nat.not_le.2 h]
theorem qs{s:ByteArray}(h:0<s.size)(hc:gh s[0]=false):be (bl s)=false:=by obtain⟨r,hr⟩:=L8 (s:=s) (by omega);rw[hr];simp[be,hc]
theorem qu{s:ByteArray}(hw:dj iu (bl s)=true):be (bl s)=false:=by
 unfold dj at hw;cases hr:bl s with
 |nil=>rfl
 |cons a l=>rw[hr] at hw;simp only[be,hw];simp
theorem qo{s:ByteArray}{k:Nat}(h:k<s.size)(hc:eI s[k]=false):be (bl s)=false:=by
 have hm:=List.mem_of_getElem? (pP s k h);cases hr:bl s with
 |nil=>rfl
 |cons a l=>
  rw[hr] at hm;have:(a::l).all eI=false:=by rw[List.all_eq_false];exact⟨_,hm,by simp[hc]⟩
  simp only[be,this];simp
theorem qr{s:ByteArray}(h0:0<s.size)(h1:s.size<=24)(h2:gh s[0]=true)(h3:dj iu (bl s)=false)(h4:∀j (h:j<s.size),eI s[j]=true):be (bl s)=true:=by
 unfold dj at h3;have ha:(bl s).all eI=true:=by rw[List.all_eq_true];intro c hc;obtain⟨j,hj⟩:=List.getElem?_of_mem hc;have hl:j<s.size:=(gl.1 hj).1;rw[pP s j hl] at hj;injection hj with hj;rw[<-hj];exact h4 j hl
 obtain⟨r,hr⟩:=L8 h0;have hl:=dt s;rw[hr] at hl ha h3 ⊢;simp only[be,hl,h2,ha,h3];simp[h1]
def lT(e:aj):Prop:=
 (e.kind=1/\e.at_=0/\e.far=0/\e.path≠[]/\be e.frm=true/\be e.to_=true/\e.frm≠e.to_/\e.olds=[]/\e.news=[])∨
 (e.kind=2/\e.far=0/\e.frm=[]/\e.to_=[]/\e.olds=[]/\bR e.news=true)∨
 (e.kind=3/\e.far=0/\e.frm=[]/\e.to_=[]/\e.news=[]/\bR e.olds=true)∨
 (e.kind=4/\e.at_=0/\e.far=0/\e.path≠[]/\e.frm=[]/\e.to_=[]/\bR e.olds=true/\bR e.news=true/\e.olds≠e.news)∨
 (e.kind=5/\e.at_≠e.far/\e.frm=[]/\e.to_=[]/\e.news=[]/\bR e.olds=true)
theorem qY{a b:List ag}:bB a b=false↔a≠b:=by rw[<-Bool.not_eq_true,kP]
theorem iY(e:aj):ap e=true↔(e.path.all aH=true/\aH e.at_=true/\aH e.far=true)/\lT e:=by
 obtain⟨k,p,i,f,a,b,o,n⟩:=e;have ho:bR o=true->o≠[]:=(by rintro h rfl;simp[bR] at h);have hn:bR n=true->n≠[]:=(by rintro h rfl;simp[bR] at h);have ha:be a=true->a≠[]:=(by rintro h rfl;simp[be] at h);have hs:= @qY o n;have hs':=kP o n;unfold ap lT;simp only;by_cases k1:k=1
 .subst k1;simp[aq,aG,aF];grind
 by_cases k2:k=2
 .subst k2;simp[aq,aG,aF];grind
 by_cases k3:k=3
 .subst k3;simp[aq,aG,aF];grind
 by_cases k4:k=4
 .subst k4;simp[aq,aG,aF];grind
 by_cases k5:k=5
 .subst k5;simp[aq,aG,aF];grind
 simp[aq,aG,aF,k1,k2,k3,k4,k5]
theorem vv{e:aj}(h:ap e=true):ap (bD e)=true:=by have h':=(iY e).1 h;obtain⟨k,p,i,f,a,b,o,n⟩:=e;rw[iY];unfold bD;simp only[h];unfold lT at h' ⊢;simp only at h';obtain⟨hp,h'⟩:=h';rcases h' with ⟨rfl,h'⟩|⟨rfl,h'⟩|⟨rfl,h'⟩|⟨rfl,h'⟩|⟨rfl,h'⟩ <;>simp<;>grind
theorem qm{e:aj}(h:ap e=true):bD e=if e.kind=5 then⟨5,e.path,e.far,e.at_,e.to_,e.frm,e.olds,e.news⟩ else⟨if e.kind=2 then 3 else if e.kind=3 then 2 else e.kind,e.path,e.at_,e.far,e.to_,e.frm,e.news,e.olds⟩:=by unfold bD;simp[h]
theorem kV{a b:List Int}:bu a b=true↔∃r,a=b++r:=by unfold bu;rw[List.isPrefixOf_iff_prefix];exact⟨fun⟨r,h⟩=>⟨r,h.symm⟩,fun⟨r,h⟩=>⟨r,h.symm⟩⟩
theorem Bn(l r:List Int):bu (l++r) l=true:=kV.2 ⟨r,rfl⟩
theorem zi(l:List Int)(k:Int)(r:List Int)(f:Int->Int):CB (l++k::r) l f=l++f k::r:=by simp[CB,fo,Bn]
def cc(w:World)(zs:List Int)(A:Option Addr)(n c:Nat):Prop:=
 n=zs.length/\n<=c/\c<=maxLen/\(zs=[]∨∃b o,A=some ⟨b,o,none⟩/\∀j z,zs[j]? =some z->w.cell? ⟨b,o+j,none⟩=some (.int .i64 z))
theorem cc.keep{w w':World}(hb:∀a v,w.cell? a=some v->w'.cell? a=some v){zs:List Int}{A:Option Addr}{n c:Nat}(h:cc w zs A n c):cc w' zs A n c:=by
 obtain⟨h1,h2,h3,h4⟩:=h;refine⟨h1,h2,h3,?_⟩;rcases h4 with e|⟨b,o,e,hr⟩
 .exact .inl e
 .exact .inr ⟨b,o,e,fun j z hz=>hb _ _ (hr j z hz)⟩
theorem cc.below{w w':World}(hb:Below w.heap.size w w'){zs:List Int}{A:Option Addr}{n c:Nat}(h:cc w zs A n c):cc w' zs A n c:=h.keep fun _ _=>ac hb
theorem cc.drewN{w:World}{zs:List Int}{A:Option Addr}{n c:Nat}(h:cc w zs A n c)(d:Nat):cc (w.drewN d) zs A n c:=h.keep fun _ _ h=>by rw[World.cell?_drewN];exact h
theorem cc.getD{w:World}{zs:List Int}{b o:Nat}(h:∀j z,zs[j]? =some z->w.cell? ⟨b,o+j,none⟩=some (.int .i64 z)):∀j,j<zs.length->w.cell? ⟨b,o+j,none⟩=some (.int .i64 (zs.getD j 0)):=by intro j hj;have:zs[j]? =some (zs[j]):=br hj;rw[h j _ this];simp[List.getD,this]
theorem cc.take{w:World}{zs:List Int}{A:Option Addr}{n c:Nat}(h:cc w zs A n c)(m:Nat)(hm:m<=n):cc w (zs.take m) A m c:=by
 obtain⟨h1,h2,h3,h4⟩:=h;refine⟨by simp;omega,by omega,h3,?_⟩;rcases h4 with e|⟨b,o,e,hr⟩
 .exact .inl (by simp[e])
 .refine .inr ⟨b,o,e,fun j z hz=>hr j z ?_⟩;rw[List.getElem?_take] at hz;split at hz
  .exact hz
  .cases hz
theorem cc.get{w:World}{zs:List Int}{A:Option Addr}{n c:Nat}(h:cc w zs A n c){i:Nat}(hi:i<n):∃b o z,A=some ⟨b,o,none⟩/\zs[i]? =some z/\w.cell? ⟨b,o+i,none⟩=some (.int .i64 z):=by
 obtain⟨hn,_,_,h⟩:=h;rcases h with rfl|⟨b,o,e,hr⟩
 .simp at hn;omega
 .have:zs[i]? =some (zs[i]'(by omega)):=br (by omega);exact⟨b,o,_,e,this,hr i _ this⟩
theorem cc.own{w:World}{base:Nat}{v:Value}{zs:List Int}(h:w.ownsRow base 3 1 v zs.length (zs.map (Value.int .i64))):∃A c,v= .slice A zs.length c/\cc w zs A zs.length c:=by
 obtain⟨A,c,rfl,h1,h2⟩:=t9 h;refine⟨A,c,rfl,rfl,h1,h2,?_⟩;by_cases h0:zs=[]
 .exact .inl h0
 .right;have hpos:0<zs.length:=List.length_pos_iff.2 h0;obtain⟨g,cap,e,_⟩:=h.form hpos;injection e with e1 e2 e3;subst e1;refine⟨g,0,rfl,fun j z hz=>?_⟩;have:=bH h j (.int .i64 z) (by simp[hz]);simpa using this
def Dq(v:Value)(w:World)(e:Ending)(w':World):Prop:=e= .returned v/\∃n,w'=w.drewN n
def dL(zs:List Int)(w:World)(e:Ending)(w':World):Prop:=∃A c,e= .returned (.slice A zs.length c)/\w'.ownsRow w.heap.size 3 1 (.slice A zs.length c) zs.length (zs.map (Value.int .i64))/\Below w.heap.size w w'
theorem lz(xs ys:List Int)(A B:Option Addr)(n c m d:Nat)(w:World)(hx:cc w xs A n c)(hy:cc w ys B m d):Calls Tryz.prog 56 #[.slice A n c,.slice B m d] w (Dq (.bool (xs == ys)) w):=by
 obtain⟨rfl,x2,x3,x4⟩:=hx;obtain⟨rfl,y2,y3,y4⟩:=hy;unfold maxLen at x3 y3;by_cases hl:xs.length=ys.length
 .rcases x4 with rfl|⟨b,o,rfl,hr⟩
  .have:ys=[]:=List.eq_nil_of_length_eq_zero hl.symm;subst this;refine(Tryz.slices_Equal_int_empty A B c 0 d w (by omega)).mono ?_;rintro e w' ⟨rfl,rfl⟩;exact⟨rfl,0,rfl⟩
  .rcases y4 with rfl|⟨b',o',rfl,hr'⟩
   .have:xs=[]:=List.eq_nil_of_length_eq_zero hl;subst this;refine(Tryz.slices_Equal_int_empty _ B c 0 d w (by omega)).mono ?_;rintro e w' ⟨rfl,rfl⟩;exact⟨rfl,0,rfl⟩
   .refine(Tryz.slices_Equal_int b o xs.length c b' o' ys.length d xs ys w (ah _) (ah _) (by omega) (by omega) (cc.getD hr) (cc.getD hr')).mono ?_;rintro e w' ⟨rfl,q,rfl⟩;exact⟨by simp,q,rfl⟩
 .refine(Tryz.slices_Equal_int_lens A B xs.length c ys.length d w hl).mono ?_;rintro e w' ⟨rfl,rfl⟩;have:(xs == ys)=false:=(by simp;intro e;exact hl (by rw[e]));exact⟨by rw[this],0,rfl⟩
theorem gV(zs:List Int)(A:Option Addr)(n c:Nat)(w:World)(h:cc w zs A n c)(hn:n<=17592186044416):Calls Tryz.prog 53 #[.slice A n c] w (dL zs w):=by
 obtain⟨rfl,h2,h3,h4⟩:=h;rcases h4 with rfl|⟨b,o,rfl,hr⟩
 .cases A with
  |none=>refine(Tryz.slices_Clone_int_nil 0 c w).mono ?_;rintro e w' ⟨rfl,rfl⟩;exact⟨none,0,rfl,World.ownsRow_nil _ _ _ _,ai _ _⟩
  |some a=>refine(Tryz.slices_Clone_int_zero a c w).mono ?_;rintro e w' ⟨v',rfl,hown,_,hb⟩;obtain⟨A',c',rfl,_⟩:=t9 hown;exact⟨A',c',rfl,hown,hb⟩
 .refine(Tryz.slices_Clone_int b o zs.length c zs w (ah _) (by omega) (cc.getD hr)).mono ?_;rintro e w' ⟨v',rfl,hown,_,hb⟩;rw[List.take_length] at hown;obtain⟨A',c',rfl,_⟩:=t9 hown;exact⟨A',c',rfl,hown,hb⟩
theorem sL{a b:List Int}(h:a.length<b.length):bu a b=false:=by rw[<-Bool.not_eq_true,kV];rintro⟨r,rfl⟩;simp at h;omega
theorem I1{a b:List Int}(_h:b.length<=a.length):(a.take b.length == b)=bu a b:=by unfold bu;rw[Bool.eq_iff_iff,List.isPrefixOf_iff_prefix,List.prefix_iff_eq_take,beq_iff_eq];exact⟨Eq.symm,Eq.symm⟩
theorem jG(xs ys:List Int)(A B:Option Addr)(n c m d:Nat)(w:World)(hx:cc w xs A n c)(hy:cc w ys B m d):Calls Tryz.prog 76 #[.slice A n c,.slice B m d] w (Dq (.bool (bu xs ys)) w):=by
 have HX:=ab hx;have HY:=ab hy;have hxl:=hx.1;have hyl:=hy.1;have hxc:=hx.2.1;have hxm:=hx.2.2.1;unfold maxLen at hxm;by_cases hl:m<=n
 .have HR:Hid ((xs.take m == ys)=bu xs ys):=(by show _=_;rw[hyl];exact I1 (by omega));clear hx hy hxl hyl
  go_in
  go_wp2_with fail;refine(lz (xs.take m) ys _ _ _ _ _ _ _ (HX.out.take m hl) HY.out).mono ?_;rintro e w1 ⟨rfl,q,rfl⟩;go_wp2;go_ret;exact⟨dg (by rw[<-HR.out]),q,rfl⟩
 .have HR:Hid (bu xs ys=false):=sL (by omega);clear hx hy hxl hyl
  go_in
  go_wp2;go_ret;exact⟨dg (by rw[HR.out]),0,rfl⟩
theorem lH(fn:Fn)(first cap:Array Value)(w:World):(Instr.makeFunc fn first cap).run Tryz.prog w= .ok (.func fn first cap) w:=rfl
def jT(w:World)(f:FuncId)(caps:Array Value)(z:Int)(y:Int):Prop:=
 ∀w1,Below w.heap.size w w1->Calls Tryz.prog f (#[.int .i64 z]++caps) w1 fun e w2=>e= .returned (.int .i64 y)/\Below w1.heap.size w1 w2
theorem xC{w:World}{base g n c:Nat}{zs:List Int}(h:w.ownsRow base 3 1 (.slice (some ⟨g,0,none⟩) n c) n (zs.map (Value.int .i64)))(i:Nat)(y:Int):(w.setCell ⟨g,i,none⟩ (.int .i64 y)).ownsRow base 3 1 (.slice (some ⟨g,0,none⟩) n c) n ((zs.set i y).map (Value.int .i64)):=by have:=(h.stored i (.int .i64 y)).1;rwa [List.map_set]
theorem dL.intro{zs ys:List Int}{w w':World}{A:Option Addr}{n c:Nat}(h:zs=ys)(hn:n=ys.length)(ho:w'.ownsRow w.heap.size 3 1 (.slice A n c) n (ys.map (Value.int .i64)))(hb:Below w.heap.size w w'):dL zs w (.returned (.slice A n c)) w':=by subst h hn;exact⟨A,c,rfl,ho,hb⟩
theorem yX(zs:List Int)(A:Option Addr)(n c at_:Nat)(f:FuncId)(caps:Array Value)(F:Int->Int)(w:World)(h:cc w zs A n c)(hn:n<=17592186044416)(ha:at_<=17592186044416)(hcf:∀(args:Array Value) (w:World),(callFunc f args).run Tryz.prog w= .ok (.enter f args) w)(hF:∀z,zs[at_]? =some z->jT w f caps z (F z)):Calls Tryz.prog 186 #[.slice A n c,.int .i64 at_,.func (.func f) #[] caps] w (dL (fo zs at_ F) w):=by
 have H:=ab h;have HF:=ab hF;obtain⟨rfl,_⟩:=h;clear hF;by_cases hl:at_<zs.length
 .have HZ:Hid (zs[at_]? =some zs[at_]):=br hl;have HS:Hid (fo zs at_ F=zs.set at_ (F zs[at_])):=by show _=_;unfold fo;rw[HZ.out]
  go_in
  go_wp2_with fail;refine(gV zs A _ c _ H.out hn).mono ?_;rintro e w1 ⟨A1,c1,rfl,ho,hb⟩;have HO:=ab ho;obtain⟨g,cap,e1,hg,_⟩:=ho.form (by omega);injection e1 with e1 e2 e3;subst e1 e3;have hc:=bH ho at_ (.int .i64 zs[at_]) (by simp[hl]);have HB:=ab hb;clear ho hb;go_wp2_with fail;refine(HF.out _ HZ.out _ HB.out).mono ?_;rintro e w2 ⟨rfl,hb2⟩;have ho2:=bM HO.out hb2 (ah _);have hc2:=bH ho2 at_ (.int .i64 zs[at_]) (by simp[hl]);have hf2:=ho2.frozenAt at_;have HO2:=ab (xC ho2 at_ (F zs[at_]));have HB2:Hid (Below w.heap.size w (w2.setCell ⟨g,at_,none⟩ (.int .i64 (F zs[at_])))):=(HB.out.trans (hb2.mono HB.out.size)).setCell hg _;clear ho2 hb2;go_wp2;go_ret;exact dL.intro HS.out (by rw[List.length_set]) HO2.out HB2.out
 .have HS:Hid (fo zs at_ F=zs):=by show _=_;unfold fo;rw[List.getElem?_eq_none (by omega)]
  go_in
  go_wp2_with fail;refine(gV zs A _ c _ H.out hn).mono ?_;rintro e w1 ⟨A1,c1,rfl,ho,hb⟩;have HO:=ab ho;have HB:=ab hb;clear ho hb;go_wp2;go_ret;exact dL.intro HS.out rfl HO.out HB.out
def fX(p l:List Int):Nat:=if bu p l then l.length else p.length
theorem oL(p l:List Int)(F:Int->Int):CB p l F=fo p (fX p l) F:=by
 unfold CB fX;split
 .rfl
 .simp[fo]
def lh(A:Option Addr)(n c i:Nat)(w:World)(e:Ending)(w':World):Prop:=e= .returned (.agg #[.slice A n c,.int .i64 i])/\Below w.heap.size w w'
theorem lh.intro{A:Option Addr}{n c i j:Nat}{w w':World}(h:i=j)(hb:Below w.heap.size w w'):lh A n c i w (.returned (.agg #[.slice A n c,.int .i64 j])) w':=⟨by rw[h],hb⟩
theorem bS{B:Nat}{a w:World}(h:Below B a w)(q:Nat):Below B a (w.drewN q):=⟨h.os,h.tape,h.output,h.size,h.block⟩
theorem jT.later{w w':World}{f:FuncId}{caps:Array Value}{z y:Int}(h:jT w f caps z y)(hb:Below w.heap.size w w'):jT w' f caps z y:=fun w1 hb1=>h w1 (hb.trans (hb1.mono hb.size))
theorem lC(xs ys:List Int)(A B:Option Addr)(n c m d:Nat)(w:World)(hx:cc w xs A n c)(hy:cc w ys B m d):Calls Tryz.prog 129 #[.slice A n c,.slice B m d] w (lh A n c (fX xs ys) w):=by
 have HX:=ab hx;have HY:=ab hy;have HL:Hid (fX xs ys=if bu xs ys then m else n):=(by show _=_;unfold fX;rw[<-hx.1,<-hy.1]);clear hx hy;cases hu:bu xs ys with
 |true=>
  have HU:=ab hu;clear hu
  go_in
  go_wp2_with fail;refine(jG xs ys _ _ _ _ _ _ _ (HX.out.below ((ai _ _).alloc (ah _) _)) (HY.out.below ((ai _ _).alloc (ah _) _))).mono ?_;rintro e w1 ⟨rfl,q,rfl⟩;rw[HU.out];go_wp2;refine bodyPost_ret (v:=.agg #[.slice A n c,.int .i64 m]) (by simp[results,Tryz.results129,go_sem]) rfl (lh.intro (by rw[HL.out,HU.out];rfl) ?_);exact((bS ((ai _ _).alloc (ah _) _) q).setCell (ah _) _).setCell (ah _) _
 |false=>
  have HU:=ab hu;clear hu
  go_in
  go_wp2_with fail;refine(jG xs ys _ _ _ _ _ _ _ (HX.out.below ((ai _ _).alloc (ah _) _)) (HY.out.below ((ai _ _).alloc (ah _) _))).mono ?_;rintro e w1 ⟨rfl,q,rfl⟩;rw[HU.out];go_wp2;refine bodyPost_ret (v:=.agg #[.slice A n c,.int .i64 n]) (by simp[results,Tryz.results129,go_sem]) rfl (lh.intro (by rw[HL.out,HU.out];rfl) ?_);exact((bS ((ai _ _).alloc (ah _) _) q).setCell (ah _) _).setCell (ah _) _
theorem oJ(zs:List Int)(A:Option Addr)(n c at_:Nat)(f:FuncId)(caps:Array Value)(F:Int->Int)(w:World)(h:cc w zs A n c)(hn:n<=17592186044416)(ha:at_<=17592186044416)(hcf:∀(args:Array Value) (w:World),(callFunc f args).run Tryz.prog w= .ok (.enter f args) w)(hF:∀z,zs[at_]? =some z->jT w f caps z (F z)):Calls Tryz.prog 130 #[.agg #[.slice A n c,.int .i64 at_],.func (.func f) #[] caps] w (dL (fo zs at_ F) w):=by
 have hb0:Below w.heap.size w (w.alloc (.cells #[.slice A n c,.int .i64 at_] 154)):=(ai _ _).alloc (ah _) _;have H:=ab (h.below hb0);have HF:Hid (∀z,zs[at_]? =some z->jT (w.alloc (.cells #[.slice A n c,.int .i64 at_] 154)) f caps z (F z)):=fun z hz=>(hF z hz).later hb0;have HB0:=ab hb0;clear h hF hb0
 go_in
 go_wp2_with fail;refine(yX zs A n c at_ f caps F _ H.out hn ha hcf HF.out).mono ?_;rintro e w1 hp;obtain⟨A1,c1,rfl,ho,hb⟩:=hp;have HO:=ab ho;have HB:=ab hb;clear ho hb;go_wp2;go_ret;exact dL.intro rfl rfl (dk HO.out (by simp)) (HB0.out.trans (HB.out.mono (by simp)))
theorem uL(args:Array Value)(w:World):(callFunc 187 args).run Tryz.prog w= .ok (.enter 187 args) w:=eH Tryz.func187 (by kernel_rfl) (by kernel_rfl) args w
theorem GM(args:Array Value)(w:World):(callFunc 188 args).run Tryz.prog w= .ok (.enter 188 args) w:=eH Tryz.func188 (by kernel_rfl) (by kernel_rfl) args w
theorem uD(args:Array Value)(w:World):(callFunc 133 args).run Tryz.prog w= .ok (.enter 133 args) w:=eH Tryz.func133 (by kernel_rfl) (by kernel_rfl) args w
def lg(x:Int)(w:World)(e:Ending)(w':World):Prop:=e= .returned (.int .i64 x)/\Below w.heap.size w w'
theorem lg.intro{x y:Int}{w w':World}(h:x=y)(hb:Below w.heap.size w w'):lg x w (.returned (.int .i64 y)) w':=⟨by rw[h],hb⟩
theorem FK(z i:Int)(b:Nat)(w:World)(hc:w.cell? ⟨b,0,none⟩=some (.int .i64 i))(h1: -1<=z)(h2:z<=2147483648):Calls Tryz.prog 187 #[.int .i64 z,.pointer (some ⟨b,0,none⟩)] w fun e w'=>e= .returned (.int .i64 (jd i z))/\w=w':=by
 by_cases h:i<=z
 .have HU:Hid (jd i z=z+1):=if_pos h
  go_in
  go_wp2;go_ret;exact⟨mS HU.out.symm,rfl⟩
 .have HU:Hid (jd i z=z):=if_neg h
  go_in
  go_wp2;go_ret;exact⟨mS HU.out.symm,rfl⟩
theorem FE(z i:Int)(b:Nat)(w:World)(hc:w.cell? ⟨b,0,none⟩=some (.int .i64 i))(h1:0<=z)(h2:z<=2147483648):Calls Tryz.prog 188 #[.int .i64 z,.pointer (some ⟨b,0,none⟩)] w fun e w'=>e= .returned (.int .i64 (cF i z))/\w=w':=by
 by_cases h:i<z
 .have HU:Hid (cF i z=z - 1):=if_pos h
  go_in
  go_wp2;go_ret;exact⟨mS HU.out.symm,rfl⟩
 .have HU:Hid (cF i z=z):=if_neg h
  go_in
  go_wp2;go_ret;exact⟨mS HU.out.symm,rfl⟩
def EN(f:FuncId)(i:Int)(w:World)(e:Ending)(w':World):Prop:=e= .returned (.func (.func f) #[] #[.pointer (some ⟨w.heap.size,0,none⟩)])/\w'=w.alloc (.cells #[.int .i64 i] 3)
theorem rr(i:Int)(w:World):Calls Tryz.prog 131 #[.int .i64 i] w (EN 187 i w):=by
 have hmf:=lH
 go_in
 go_wp2;go_ret;exact⟨rfl,rfl⟩
theorem mD(i:Int)(w:World):Calls Tryz.prog 132 #[.int .i64 i] w (EN 188 i w):=by
 have hmf:=lH
 go_in
 go_wp2;go_ret;exact⟨rfl,rfl⟩
end Go.Proofs.YtfipahjodfminaaGreatDoor
