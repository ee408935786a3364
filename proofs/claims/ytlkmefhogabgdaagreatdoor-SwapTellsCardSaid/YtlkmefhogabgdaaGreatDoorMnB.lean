/- Part 2 of the proof. -/
import Derived.WalkKit
import Derived.WalkSpells
import Derived.Deep.AppendLies
import Derived.Deep.Draws
import Derived.Maps.OwnSet
import Derived.Test.YtlkmefhogabgdaaGreatDoorRows
import Derived.WalkLawsBesides
import Derived.Test.YtlkmefhogabgdaaGreatDoorShelf
import Derived.Deep.RegionHeld3
import Derived.Deep.QuietTactic
import Derived.BigQuiet
import Derived.Test.YtlkmefhogabgdaaGreatDoorMnA
namespace Go.Proofs.YtlkmefhogabgdaaGreatDoor
open Go.RowKit
set_option linter.all false
set_option maxHeartbeats 40000000
set_option maxRecDepth 100000
theorem ub{X W:World}(h:Below X.heap.size X W)(n:Nat):Below X.heap.size X (W.drewN n):=⟨h.os,h.tape,h.output,h.size,h.block⟩
theorem ua{X W:World}(h:Below X.heap.size X W):Below X.heap.size X W.drew:=h.drew
theorem tZ{X W:World}(h:Below X.heap.size X W)(o:Obj):Below X.heap.size X (W.alloc o):=h.alloc h.size o
theorem bz{p:Prop}(h:p:=by(repeat (first|with_reducible exact ai _ _|(refine Hid.out ?_;with_reducible assumption)|with_reducible apply ub|with_reducible apply ua|with_reducible apply tZ))):p:=h
theorem dk{w:World}{base base':Nat}{e:TypeId}{size:Nat}{v:Value}{n:Nat}{xs:List Value}(h:w.ownsRow base e size v n xs)(hb:base'<=base):w.ownsRow base' e size v n xs:=by obtain⟨h1,h2⟩:=h;refine⟨h1,h2.imp id ?_⟩;rintro⟨g,cap,cur,hv,hg,r⟩;exact⟨g,cap,cur,hv,aJ hb hg,r⟩
theorem bM{w w':World}{B base:Nat}{e:TypeId}{size:Nat}{v:Value}{n:Nat}{xs:List Value}(h:w.ownsRow base e size v n xs)(hb:Below B w w')(hB:w.heap.size<=B):w'.ownsRow base e size v n xs:=by
 obtain⟨h1,h2⟩:=h;refine⟨h1,h2.imp id ?_⟩;rintro⟨g,cap,cur,hv,hg,hh,r⟩;refine⟨g,cap,cur,hv,hg,?_,r⟩;have hlt:g<w.heap.size:=by
  rcases Nat.lt_or_ge g w.heap.size with hlt|hge
  .exact hlt
  .rw[Array.getElem?_eq_none hge] at hh;cases hh
 rw[hb.block g (by omega)];exact hh
theorem re{w:World}{base:Nat}{e:TypeId}{size:Nat}{v:Value}{n:Nat}{xs:List Value}(h:w.ownsRow base e size v n xs){a:Addr}(ha:v.ownBlock≠some a.block)(u:Value):(w.setCell a u).ownsRow base e size v n xs:=by obtain⟨h1,h2⟩:=h;refine⟨h1,h2.imp id ?_⟩;rintro⟨g,cap,cur,rfl,hg,hh,r⟩;refine⟨g,cap,cur,rfl,hg,?_,r⟩;rw[aY _ _ _ _ (fun e=>ha (by simp[Value.ownBlock,e]))];exact hh
theorem l0{B:Nat}{w w':World}{v:Value}{base:Nat}{e:TypeId}{size:Nat}{n:Nat}{xs:List Value}(h:w.ownsRow base e size v n xs)(hg:w.grownBy w' v.ownBlock)(hB:B<=base)(hs:B<=w.heap.size):Below B w w':=
 (ai _ _).grown hg hs (fun k hk=>aJ hB (h.lt k hk).1)
theorem cw{w:World}{base:Nat}{e:TypeId}{size:Nat}{v:Value}{n:Nat}{xs:List Value}(h:w.ownsRow base e size v n xs):∃A c,v= .slice A n c/\n<=c/\c<=maxLen:=by
 rcases h.2 with ⟨h1,h2⟩|⟨g,cap,cur,hv,_,_,h3,h4,_⟩
 .exact⟨none,0,by rw[h1,h2],by omega,by unfold maxLen;omega⟩
 .exact⟨some ⟨g,0,none⟩,cap,hv,h3,h4⟩
theorem fi(b o j:Nat):(⟨b,o,none⟩:Addr).add j=⟨b,o+j,none⟩:=by unfold Addr.add;split<;>simp_all
theorem bH{w:World}{base:Nat}{e:TypeId}{size:Nat}{g n c:Nat}{xs:List Value}(h:w.ownsRow base e size (.slice (some ⟨g,0,none⟩) n c) n xs):∀j u,xs[j]? =some u->w.cell? ⟨g,j,none⟩=some u:=by intro j u hu;have:=h.cells (g:=g) rfl j u hu;rw[fi] at this;simpa using this
theorem aQ{w:World}{o:Obj}{n:Nat}(h:w.heap.size=n):(w.alloc o).heap[n]? =some o:=by subst h;exact heap_alloc_new w o
theorem eH{P:Program}{f:FuncId}{fn:Func}(hf:P.funcs[f]? =some fn)(hn:(fn.name == "runtime.NumGoroutine")=false)(hb:fn.body.isNone=false)(args:Array Value)(w:World):(callFunc f args).run P w= .ok (.enter f args) w:=by have hn':¬fn.name= "runtime.NumGoroutine":=(by simpa using hn);have hb':¬fn.body=none:=(by intro e;rw[e] at hb;simp at hb);simp[callFunc,hf,hn',hb']
section
open Go.RowKit Go.MapKept Go.ChangeMaps
def eL(w:World)(b:Nat)(l:List (Nat×Value)):Prop:=
 ∃es clock,w.heap[b]? =some (.map es clock)/\es.toList.map (fun e=>(e.key,e.val))=l.map (fun p=>(Value.int .u8 p.1,p.2))
theorem eL.lt{w:World}{b:Nat}{l:List (Nat×Value)}(h:eL w b l):b<w.heap.size:=by obtain⟨es,clock,hb,_⟩:=h;exact(aK.1 hb).1
theorem eL.made(w:World):eL (w.alloc (.map #[] 0)) w.heap.size []:=⟨#[],0,heap_alloc_new w _,rfl⟩
theorem eL.below{w w':World}{b:Nat}{l:List (Nat×Value)}(h:eL w b l)(hb:Below w.heap.size w w'):eL w' b l:=by have hlt:=h.lt;obtain⟨es,clock,hh,e⟩:=h;exact⟨es,clock,(hb.block b hlt).trans hh,e⟩
theorem lr(n:Int):IsKey (.int .u8) (.int .u8 n):=by simp[IsKey]
theorem wL{l:List (Nat×Value)}{es:Array MapEntry}(h:es.toList.map (fun e=>(e.key,e.val))=l.map (fun p=>(Value.int .u8 p.1,p.2))):∀x∈es.toList,IsKey (.int .u8) x.key:=by intro x hx;have:(x.key,x.val)∈es.toList.map (fun e=>(e.key,e.val)):=List.mem_map.2 ⟨x,hx,rfl⟩;rw[h] at this;obtain⟨p,_,e⟩:=List.mem_map.1 this;injection e with e1 e2;rw[<-e1];exact lr _
theorem eL.insert{P:Program}{t kt e:TypeId}(ht:P.underlying t=some (.map kt e))(hk:P.underlying kt=some (.int .u8)){w:World}{b:Nat}{l:List (Nat×Value)}(h:eL w b l){k:Nat}(v:Value)(hn:(l.all fun p=>p.1 != k)=true):∃w',(Instr.mapUpdate t (.map (some b)) (.int .u8 k) v).run P w= .ok () w'/\eL w' b (l++[(k,v)])/\w.grownBy w' (some b):=by
 obtain⟨es,clock,hb,he⟩:=h;have hks:=wL he;rcases findNow_spec (lr (k:Int)) es.toList 0 hks with ⟨h1,_⟩|⟨j,e0,_,h2,h3⟩
 .refine⟨setBlock w b (.map (es.push { key:=.int .u8 k,val:=v,born:=clock }) (clock+1)),?_,⟨_,_,heap_setBlock_same hb _,?_⟩,⟨rfl,rfl,rfl,by simp[setBlock],fun i _ hi=>heap_setBlock_other hb _ (fun e=>hi (by rw[e]))⟩⟩
  .simp[Instr.mapUpdate,run_underlying ht,MapKept.run_getObj_map hb,run_checkKey hk (lr _),run_findKey hk h1,MapKept.run_setObj_map _ hb,Result.andThen,setBlock]
  .simp[he]
 .exfalso;have hm:(e0.key,e0.val)∈es.toList.map (fun e=>(e.key,e.val)):=List.mem_map.2 ⟨e0,List.mem_of_getElem? h2,rfl⟩;rw[he] at hm;obtain⟨p,hp,e⟩:=List.mem_map.1 hm;injection e with e1 _;rw[h3] at e1;injection e1 with _ e1;have:=List.all_eq_true.1 hn p hp;simp at this;omega
theorem qh:∀(es:List MapEntry) (l:List (Nat×Value)) (k i:Nat),es.map (fun e=>(e.key,e.val))=l.map (fun p=>(Value.int .u8 p.1,p.2))->∃r,Instr.findNow (.int .u8) (.int .u8 (k:Int)) es i=some r/\r.map (·.2)=l.lookup k
 |[],[],_,_,_=>⟨none,rfl,rfl⟩
 |[],_::_,_,_,h=>by simp at h
 |_::_,[],_,_,h=>by simp at h
 |e::es,p::l,k,i,h=>by
  simp only[List.map_cons,List.cons.injEq,Prod.mk.injEq] at h;obtain⟨⟨h1,h2⟩,h3⟩:=h;obtain⟨q,v⟩:=p;simp only at h1 h2;by_cases hk:k=q
  .subst hk;refine⟨some (i,e.val),?_,?_⟩
   .simp[Instr.findNow,Instr.sameNow,h1]
   .simp[List.lookup,h2]
  .obtain⟨r,hr,hr2⟩:=qh es l k (i+1) h3;refine⟨r,?_,?_⟩
   .have:((k:Int) == q)=false:=(by simp;omega);simp[Instr.findNow,Instr.sameNow,h1,this,hr]
   .have:(k == q)=false:=(by simp[hk]);simp[List.lookup,this,hr2]
theorem eL.look{P:Program}{t kt e:TypeId}(ht:P.underlying t=some (.map kt e))(hk:P.underlying kt=some (.int .u8)){w:World}{b:Nat}{l:List (Nat×Value)}(h:eL w b l)(k:Nat){z:Value}(hz:(zeroValue e).run P w= .ok z w)(ok:Bool):(Instr.lookup t (.map (some b)) (.int .u8 k) ok).run P w= .ok (if ok then .tuple #[(l.lookup k).getD z,.bool (l.lookup k).isSome] else(l.lookup k).getD z) w:=by
 obtain⟨es,clock,hb,he⟩:=h;obtain⟨r,h1,h2⟩:=qh es.toList l k 0 he;cases r with
 |none=>rw[<-h2];simp[Instr.lookup,run_underlying ht,MapKept.run_getObj_map hb,run_checkKey hk (lr _),run_findKey hk h1,hz,Result.andThen]
 |some y=>rw[<-h2];simp[Instr.lookup,run_underlying ht,MapKept.run_getObj_map hb,run_checkKey hk (lr _),run_findKey hk h1,Result.andThen]
end
def gL(w:World)(A:Option Addr)(n:Nat)(ss:List ar):Prop:=
 ss.length=n/\(0<n->∃ad,A=some ad/\ad.block<w.heap.size/\∀j u,ss[j]? =some u->w.cell? (ad.add j)=some (.string (sb u)))
theorem gL.at_{w:World}{A:Option Addr}{n:Nat}{ss:List ar}(h:gL w A n ss){k:Nat}(hk:k<n):∃ad u,A=some ad/\ad.block<w.heap.size/\ss[k]? =some u/\w.cell? (ad.add k)=some (.string (sb u)):=by obtain⟨hl,h⟩:=h;obtain⟨ad,e,hb,hc⟩:=h (by omega);exact⟨ad,ss[k]'(by omega),e,hb,br (by omega),hc k _ (br (by omega))⟩
def dj(l:List ar)(x:ar):Bool:=l.contains x
theorem qk{l:List ar}{x:ar}{k:Nat}(h:l[k]? =some x):dj l x=true:=by unfold dj;simp;exact List.mem_of_getElem? h
theorem pV{ss:List ar}{x u:ar}{k:Nat}(hu:ss[k]? =some u):dj (ss.take (k+1)) x=(dj (ss.take k) x || u == x):=by
 have hk:k<ss.length:=(bs.1 hu).1;have:ss.take (k+1)=ss.take k++[u]:=by rw[List.take_succ_eq_append_getElem hk];rw[br hk] at hu;injection hu with hu;rw[hu]
 rw[this];unfold dj;rw[Bool.eq_iff_iff];simp only[List.contains_iff_mem,List.mem_append,List.mem_singleton,Bool.or_eq_true,beq_iff_eq];exact⟨fun h=>h.imp id Eq.symm,fun h=>h.imp id Eq.symm⟩
theorem gL.new{w:World}{T:TypeId}{n:Nat}(ss:List ar)(hn:ss.length=n):gL (w.alloc (.cells (ss.map fun u=>Value.string (sb u)).toArray T)) (some ⟨w.heap.size,0,none⟩) n ss:=by
 refine⟨hn,fun _=>⟨_,rfl,by simp,fun j u hu=>?_⟩⟩;have hj:(Addr.add ⟨w.heap.size,0,none⟩ j)=⟨w.heap.size,j,none⟩:=by unfold Addr.add;split<;>simp_all
 rw[hj,World.cell?_alloc_new];simp[hu]
def jq(n:Nat)(ss:List ar)(w:World)(e:Ending)(w':World):Prop:=∃A,e= .returned (.slice A n n)/\gL w' A n ss/\Below w.heap.size w w'/\(∀ad,A=some ad->w.heap.size<=ad.block)/\∃g,A=some ⟨g,0,none⟩
def ak(b:Bool)(w:World)(e:Ending)(w':World):Prop:=e= .returned (.bool b)/\Below w.heap.size w w'
theorem ak.intro{b b':Bool}{w w':World}(h:b'=b)(hb:Below w.heap.size w w'):ak b w (.returned (.bool b')) w':=⟨by rw[h],hb⟩
theorem oz{s:ByteArray}(h:0<s.size):∃r,bl s=s[0] ::r:=⟨(bl s).drop 1,by have:=uu s 0 h;simpa using this⟩
theorem qt{s:ByteArray}(h:24<s.size):be (bl s)=false:=by obtain⟨r,hr⟩:=oz (s:=s) (by omega);have hl:=dt s;rw[hr] at hl ⊢;simp only[be];rw[hl];simp[Nat.not_le.2 h]
theorem qs{s:ByteArray}(h:0<s.size)(hc:gh s[0]=false):be (bl s)=false:=by obtain⟨r,hr⟩:=oz (s:=s) (by omega);rw[hr];simp[be,hc]
theorem qu{s:ByteArray}(hw:dj iu (bl s)=true):be (bl s)=false:=by
 unfold dj at hw;cases hr:bl s with
 |nil=>rfl
 |cons a l=>rw[hr] at hw;simp only[be,hw];simp
theorem qo{s:ByteArray}{k:Nat}(h:k<s.size)(hc:eI s[k]=false):be (bl s)=false:=by
 have hm:=List.mem_of_getElem? (pP s k h);cases hr:bl s with
 |nil=>rfl
 |cons a l=>
  rw[hr] at hm;have:(a::l).all eI=false:=by rw[List.all_eq_false];exact⟨_,hm,by simp[hc]⟩
  simp only[be,this];simp
theorem qr{s:ByteArray}(h0:0<s.size)(h1:s.size<=24)(h2:gh s[0]=true)(h3:dj iu (bl s)=false)(h4:∀j (h:j<s.size),eI s[j]=true):be (bl s)=true:=by
 unfold dj at h3;have ha:(bl s).all eI=true:=by rw[List.all_eq_true];intro c hc;obtain⟨j,hj⟩:=List.getElem?_of_mem hc;have hl:j<s.size:=(bs.1 hj).1;rw[pP s j hl] at hj;injection hj with hj;rw[<-hj];exact h4 j hl
 obtain⟨r,hr⟩:=oz h0;have hl:=dt s;rw[hr] at hl ha h3 ⊢;simp only[be,hl,h2,ha,h3];simp[h1]
def cm(x:Int):Prop:= -9223372036854775808<=x/\x<=9223372036854775807
mutual
def cJ (w:World):ag->Nat->Nat->Prop
 | .node k s x ks,b,o=>w.cell? ⟨b,o,none⟩=some (.int .u8 k)/\w.cell? ⟨b,o+1,none⟩=some (.string (sb s))/\w.cell? ⟨b,o+2,none⟩=some (.int .i64 x)/\k<=255/\s.length<=maxLen/\cm x/\
  ∃A c,w.cell? ⟨b,o+3,none⟩=some (.slice A ks.length c)/\ks.length<=c/\c<=maxLen/\(ks=[]∨∃b' o',A=some ⟨b',o',none⟩/\ch w ks b' o')
def ch (w:World):List ag->Nat->Nat->Prop
 |[],_,_=>True
 |t::ts,b,o=>cJ w t b o/\ch w ts b (o+4)
end
def KidsAt(w:World)(ks:List ag)(A:Option Addr)(n c:Nat):Prop:=n=ks.length/\n<=c/\c<=maxLen/\(ks=[]∨∃b o,A=some ⟨b,o,none⟩/\ch w ks b o)
def cf(w:World)(t:ag)(k:Nat)(s:ByteArray)(x:Int)(A:Option Addr)(n c:Nat):Prop:=
 ∃ks,t= .node k (bl s) x ks/\k<=255/\s.size<=maxLen/\cm x/\KidsAt w ks A n c
theorem ch.get{w:World}:∀{ts:List ag} {b o:Nat},ch w ts b o->∀{i:Nat} {t:ag},ts[i]? =some t->cJ w t b (o+i*4)
 |t::ts,b,o,h,0,u,hu=>by simp only[List.getElem?_cons_zero,Option.some.injEq] at hu;subst hu;simp only[ch] at h;simpa using h.1
 |t::ts,b,o,h,i+1,u,hu=>by simp only[List.getElem?_cons_succ] at hu;simp only[ch] at h;have:=ch.get h.2 hu;rwa [show o+(i+1) *4=o+4+i*4 from by omega]
theorem ch.mk{w:World}:∀{ts:List ag} {b o:Nat},(∀i t,ts[i]? =some t->cJ w t b (o+i*4))->ch w ts b o
 |[],_,_,_=>by simp[ch]
 |t::ts,b,o,h=>by simp only[ch];refine⟨by simpa using h 0 t rfl,ch.mk fun i u hu=>?_⟩;have:=h (i+1) u (by simpa using hu);rwa [show o+4+i*4=o+(i+1) *4 from by omega]
theorem cJ.cells{w:World}{t:ag}{b o:Nat}(h:cJ w t b o):∃A c,w.cell? ⟨b,o,none⟩=some (.int .u8 t.kind)/\w.cell? ⟨b,o+1,none⟩=some (.string (sb t.text))/\w.cell? ⟨b,o+2,none⟩=some (.int .i64 t.num)/\w.cell? ⟨b,o+3,none⟩=some (.slice A t.kids.length c)/\cf w t t.kind (sb t.text) t.num A t.kids.length c:=by obtain⟨k,s,x,ks⟩:=t;simp only[cJ] at h;obtain⟨h0,h1,h2,g0,g1,g2,A,c,h3,g3,g4,g5⟩:=h;exact⟨A,c,h0,h1,h2,h3,ks,rfl,g0,g1,g2,rfl,g3,g4,g5⟩
theorem KidsAt.get{w:World}{ks:List ag}{A:Option Addr}{n c:Nat}(h:KidsAt w ks A n c){i:Nat}(hi:i<n):∃b o t,A=some ⟨b,o,none⟩/\ks[i]? =some t/\cJ w t b (o+i*4):=by
 obtain⟨hn,_,_,h⟩:=h;rcases h with rfl|⟨b,o,e,hr⟩
 .simp at hn;omega
 .have:ks[i]? =some (ks[i]'(by omega)):=br (by omega);exact⟨b,o,_,e,this,hr.get this⟩
theorem bK{w:World}{a:Addr}{v:Value}(h:w.cell? a=some v):a.block<w.heap.size:=by
 rcases Nat.lt_or_ge a.block w.heap.size with hl|hg
 .exact hl
 .simp[World.cell?,Array.getElem?_eq_none hg] at h
theorem ac{w w':World}(hb:Below w.heap.size w w'){a:Addr}{v:Value}(h:w.cell? a=some v):w'.cell? a=some v:=by rw[hb.cell (bK h)];exact h
mutual
theorem cJ.keep {w w':World} (hb:∀a v,w.cell? a=some v->w'.cell? a=some v):∀{t:ag} {b o:Nat},cJ w t b o->cJ w' t b o
 | .node k s x ks,b,o,h=>by
  simp only[cJ] at h ⊢;obtain⟨h0,h1,h2,g0,g1,g2,A,c,h3,g3,g4,g5⟩:=h;refine⟨hb _ _ h0,hb _ _ h1,hb _ _ h2,g0,g1,g2,A,c,hb _ _ h3,g3,g4,?_⟩;rcases g5 with e|⟨b',o',e,hr⟩
  .exact .inl e
  .exact .inr ⟨b',o',e,ch.keep hb hr⟩
theorem ch.keep {w w':World} (hb:∀a v,w.cell? a=some v->w'.cell? a=some v):∀{ts:List ag} {b o:Nat},ch w ts b o->ch w' ts b o
 |[],_,_,_=>by simp[ch]
 |t::ts,b,o,h=>by simp only[ch] at h ⊢;exact⟨cJ.keep hb h.1,ch.keep hb h.2⟩
end
theorem KidsAt.keep{w w':World}(hb:∀a v,w.cell? a=some v->w'.cell? a=some v){ks:List ag}{A:Option Addr}{n c:Nat}(h:KidsAt w ks A n c):KidsAt w' ks A n c:=by
 obtain⟨h1,h2,h3,h4⟩:=h;refine⟨h1,h2,h3,?_⟩;rcases h4 with e|⟨b,o,e,hr⟩
 .exact .inl e
 .exact .inr ⟨b,o,e,hr.keep hb⟩
theorem KidsAt.below{w w':World}(hb:Below w.heap.size w w'){ks:List ag}{A:Option Addr}{n c:Nat}(h:KidsAt w ks A n c):KidsAt w' ks A n c:=h.keep fun _ _=>ac hb
theorem cJ.below{w w':World}(hb:Below w.heap.size w w'){t:ag}{b o:Nat}(h:cJ w t b o):cJ w' t b o:=h.keep fun _ _=>ac hb
theorem cf.keep{w w':World}(hb:∀a v,w.cell? a=some v->w'.cell? a=some v){t:ag}{k:Nat}{s:ByteArray}{x:Int}{A:Option Addr}{n c:Nat}(h:cf w t k s x A n c):cf w' t k s x A n c:=by obtain⟨ks,e,h1,h2,h3,h4⟩:=h;exact⟨ks,e,h1,h2,h3,h4.keep hb⟩
theorem cf.below{w w':World}(hb:Below w.heap.size w w'){t:ag}{k:Nat}{s:ByteArray}{x:Int}{A:Option Addr}{n c:Nat}(h:cf w t k s x A n c):cf w' t k s x A n c:=h.keep fun _ _=>ac hb
theorem KidsAt.nil(w:World)(A:Option Addr){c:Nat}(h:c<=maxLen):KidsAt w [] A 0 c:=⟨rfl,aE _,h,.inl rfl⟩
mutual
def ag.short (L:Nat):ag->Prop
 | .node _ s _ ks=>s.length<=L/\bi L ks
def bi (L:Nat):List ag->Prop
 |[]=>True
 |t::ts=>t.short L/\bi L ts
end
theorem bi.get{L:Nat}:∀{ts:List ag},bi L ts->∀{i:Nat} {t:ag},ts[i]? =some t->t.short L
 |t::ts,h,0,u,hu=>by simp only[List.getElem?_cons_zero,Option.some.injEq] at hu;subst hu;simp only[bi] at h;exact h.1
 |t::ts,h,i+1,u,hu=>by simp only[List.getElem?_cons_succ] at hu;simp only[bi] at h;exact bi.get h.2 hu
def aA(w:World)(zs:List Int)(A:Option Addr)(n c:Nat):Prop:=
 n=zs.length/\n<=c/\c<=maxLen/\(zs=[]∨∃b o,A=some ⟨b,o,none⟩/\∀j z,zs[j]? =some z->w.cell? ⟨b,o+j,none⟩=some (.int .i64 z))
theorem aA.keep{w w':World}(hb:∀a v,w.cell? a=some v->w'.cell? a=some v){zs:List Int}{A:Option Addr}{n c:Nat}(h:aA w zs A n c):aA w' zs A n c:=by
 obtain⟨h1,h2,h3,h4⟩:=h;refine⟨h1,h2,h3,?_⟩;rcases h4 with e|⟨b,o,e,hr⟩
 .exact .inl e
 .exact .inr ⟨b,o,e,fun j z hz=>hb _ _ (hr j z hz)⟩
theorem aA.below{w w':World}(hb:Below w.heap.size w w'){zs:List Int}{A:Option Addr}{n c:Nat}(h:aA w zs A n c):aA w' zs A n c:=h.keep fun _ _=>ac hb
theorem aA.drewN{w:World}{zs:List Int}{A:Option Addr}{n c:Nat}(h:aA w zs A n c)(d:Nat):aA (w.drewN d) zs A n c:=h.keep fun _ _ h=>by rw[World.cell?_drewN];exact h
theorem aA.getD{w:World}{zs:List Int}{b o:Nat}(h:∀j z,zs[j]? =some z->w.cell? ⟨b,o+j,none⟩=some (.int .i64 z)):∀j,j<zs.length->w.cell? ⟨b,o+j,none⟩=some (.int .i64 (zs.getD j 0)):=by intro j hj;have:zs[j]? =some (zs[j]):=br hj;rw[h j _ this];simp[List.getD,this]
theorem aA.take{w:World}{zs:List Int}{A:Option Addr}{n c:Nat}(h:aA w zs A n c)(m:Nat)(hm:m<=n):aA w (zs.take m) A m c:=by
 obtain⟨h1,h2,h3,h4⟩:=h;refine⟨by simp;omega,by omega,h3,?_⟩;rcases h4 with e|⟨b,o,e,hr⟩
 .exact .inl (by simp[e])
 .refine .inr ⟨b,o,e,fun j z hz=>hr j z ?_⟩;rw[List.getElem?_take] at hz;split at hz
  .exact hz
  .cases hz
theorem aA.get{w:World}{zs:List Int}{A:Option Addr}{n c:Nat}(h:aA w zs A n c){i:Nat}(hi:i<n):∃b o z,A=some ⟨b,o,none⟩/\zs[i]? =some z/\w.cell? ⟨b,o+i,none⟩=some (.int .i64 z):=by
 obtain⟨hn,_,_,h⟩:=h;rcases h with rfl|⟨b,o,e,hr⟩
 .simp at hn;omega
 .have:zs[i]? =some (zs[i]'(by omega)):=br (by omega);exact⟨b,o,_,e,this,hr i _ this⟩
theorem aA.own{w:World}{base:Nat}{v:Value}{zs:List Int}(h:w.ownsRow base 3 1 v zs.length (zs.map (Value.int .i64))):∃A c,v= .slice A zs.length c/\aA w zs A zs.length c:=by
 obtain⟨A,c,rfl,h1,h2⟩:=cw h;refine⟨A,c,rfl,rfl,h1,h2,?_⟩;by_cases h0:zs=[]
 .exact .inl h0
 .right;have hpos:0<zs.length:=List.length_pos_iff.2 h0;obtain⟨g,cap,e,_⟩:=h.form hpos;injection e with e1 e2 e3;subst e1;refine⟨g,0,rfl,fun j z hz=>?_⟩;have:=bH h j (.int .i64 z) (by simp[hz]);simpa using this
def iy(v:Value)(w:World)(e:Ending)(w':World):Prop:=e= .returned v/\∃n,w'=w.drewN n
def dL(zs:List Int)(w:World)(e:Ending)(w':World):Prop:=∃A c,e= .returned (.slice A zs.length c)/\w'.ownsRow w.heap.size 3 1 (.slice A zs.length c) zs.length (zs.map (Value.int .i64))/\Below w.heap.size w w'
theorem lz(xs ys:List Int)(A B:Option Addr)(n c m d:Nat)(w:World)(hx:aA w xs A n c)(hy:aA w ys B m d):Calls Tryz.prog 27 #[.slice A n c,.slice B m d] w (iy (.bool (xs == ys)) w):=by
 obtain⟨rfl,x2,x3,x4⟩:=hx;obtain⟨rfl,y2,y3,y4⟩:=hy;unfold maxLen at x3 y3;by_cases hl:xs.length=ys.length
 .rcases x4 with rfl|⟨b,o,rfl,hr⟩
  .have:ys=[]:=List.eq_nil_of_length_eq_zero hl.symm;subst this;refine(Tryz.slices_Equal_int_empty A B c 0 d w (by omega)).mono ?_;rintro e w' ⟨rfl,rfl⟩;exact⟨rfl,0,rfl⟩
  .rcases y4 with rfl|⟨b',o',rfl,hr'⟩
   .have:xs=[]:=List.eq_nil_of_length_eq_zero hl;subst this;refine(Tryz.slices_Equal_int_empty _ B c 0 d w (by omega)).mono ?_;rintro e w' ⟨rfl,rfl⟩;exact⟨rfl,0,rfl⟩
   .refine(Tryz.slices_Equal_int b o xs.length c b' o' ys.length d xs ys w (ah _) (ah _) (by omega) (by omega) (aA.getD hr) (aA.getD hr')).mono ?_;rintro e w' ⟨rfl,q,rfl⟩;exact⟨by simp,q,rfl⟩
 .refine(Tryz.slices_Equal_int_lens A B xs.length c ys.length d w hl).mono ?_;rintro e w' ⟨rfl,rfl⟩;have:(xs == ys)=false:=(by simp;intro e;exact hl (by rw[e]));exact⟨by rw[this],0,rfl⟩
theorem gV(zs:List Int)(A:Option Addr)(n c:Nat)(w:World)(h:aA w zs A n c)(hn:n<=17592186044416):Calls Tryz.prog 59 #[.slice A n c] w (dL zs w):=by
 obtain⟨rfl,h2,h3,h4⟩:=h;rcases h4 with rfl|⟨b,o,rfl,hr⟩
 .cases A with
  |none=>refine(Tryz.slices_Clone_int_nil 0 c w).mono ?_;rintro e w' ⟨rfl,rfl⟩;exact⟨none,0,rfl,World.ownsRow_nil _ _ _ _,ai _ _⟩
  |some a=>refine(Tryz.slices_Clone_int_zero a c w).mono ?_;rintro e w' ⟨v',rfl,hown,_,hb⟩;obtain⟨A',c',rfl,_⟩:=cw hown;exact⟨A',c',rfl,hown,hb⟩
 .refine(Tryz.slices_Clone_int b o zs.length c zs w (ah _) (by omega) (aA.getD hr)).mono ?_;rintro e w' ⟨v',rfl,hown,_,hb⟩;rw[List.take_length] at hown;obtain⟨A',c',rfl,_⟩:=cw hown;exact⟨A',c',rfl,hown,hb⟩
theorem sL{a b:List Int}(h:a.length<b.length):bu a b=false:=by rw[<-Bool.not_eq_true,kV];rintro⟨r,rfl⟩;simp at h;omega
theorem Bp{a b:List Int}(_h:b.length<=a.length):(a.take b.length == b)=bu a b:=by unfold bu;rw[Bool.eq_iff_iff,List.isPrefixOf_iff_prefix,List.prefix_iff_eq_take,beq_iff_eq];exact⟨Eq.symm,Eq.symm⟩
theorem jG(xs ys:List Int)(A B:Option Addr)(n c m d:Nat)(w:World)(hx:aA w xs A n c)(hy:aA w ys B m d):Calls Tryz.prog 68 #[.slice A n c,.slice B m d] w (iy (.bool (bu xs ys)) w):=by
 have HX:=aa hx;have HY:=aa hy;have hxl:=hx.1;have hyl:=hy.1;have hxc:=hx.2.1;have hxm:=hx.2.2.1;unfold maxLen at hxm;by_cases hl:m<=n
 .have HR:Hid ((xs.take m == ys)=bu xs ys):=(by show _=_;rw[hyl];exact Bp (by omega));clear hx hy hxl hyl
  go_in
  go_wp2_with fail;refine(lz (xs.take m) ys _ _ _ _ _ _ _ (HX.out.take m hl) HY.out).mono ?_;rintro e w1 ⟨rfl,q,rfl⟩;go_wp2;go_ret;exact⟨dg (by rw[<-HR.out]),q,rfl⟩
 .have HR:Hid (bu xs ys=false):=sL (by omega);clear hx hy hxl hyl
  go_in
  go_wp2;go_ret;exact⟨dg (by rw[HR.out]),0,rfl⟩
theorem lH(fn:Fn)(first cap:Array Value)(w:World):(Instr.makeFunc fn first cap).run Tryz.prog w= .ok (.func fn first cap) w:=rfl
def jT(w:World)(f:FuncId)(caps:Array Value)(z:Int)(y:Int):Prop:=
 ∀w1,Below w.heap.size w w1->Calls Tryz.prog f (#[.int .i64 z]++caps) w1 fun e w2=>e= .returned (.int .i64 y)/\Below w1.heap.size w1 w2
theorem xC{w:World}{base g n c:Nat}{zs:List Int}(h:w.ownsRow base 3 1 (.slice (some ⟨g,0,none⟩) n c) n (zs.map (Value.int .i64)))(i:Nat)(y:Int):(w.setCell ⟨g,i,none⟩ (.int .i64 y)).ownsRow base 3 1 (.slice (some ⟨g,0,none⟩) n c) n ((zs.set i y).map (Value.int .i64)):=by have:=(h.stored i (.int .i64 y)).1;rwa [List.map_set]
theorem dL.intro{zs ys:List Int}{w w':World}{A:Option Addr}{n c:Nat}(h:zs=ys)(hn:n=ys.length)(ho:w'.ownsRow w.heap.size 3 1 (.slice A n c) n (ys.map (Value.int .i64)))(hb:Below w.heap.size w w'):dL zs w (.returned (.slice A n c)) w':=by subst h hn;exact⟨A,c,rfl,ho,hb⟩
theorem yX(zs:List Int)(A:Option Addr)(n c at_:Nat)(f:FuncId)(caps:Array Value)(F:Int->Int)(w:World)(h:aA w zs A n c)(hn:n<=17592186044416)(ha:at_<=17592186044416)(hcf:∀(args:Array Value) (w:World),(callFunc f args).run Tryz.prog w= .ok (.enter f args) w)(hF:∀z,zs[at_]? =some z->jT w f caps z (F z)):Calls Tryz.prog 185 #[.slice A n c,.int .i64 at_,.func (.func f) #[] caps] w (dL (fo zs at_ F) w):=by
 have H:=aa h;have HF:=aa hF;obtain⟨rfl,_⟩:=h;clear hF;by_cases hl:at_<zs.length
 .have HZ:Hid (zs[at_]? =some zs[at_]):=br hl;have HS:Hid (fo zs at_ F=zs.set at_ (F zs[at_])):=by show _=_;unfold fo;rw[HZ.out]
  go_in
  go_wp2_with fail;refine(gV zs A _ c _ H.out hn).mono ?_;rintro e w1 ⟨A1,c1,rfl,ho,hb⟩;have HO:=aa ho;obtain⟨g,cap,e1,hg,_⟩:=ho.form (by omega);injection e1 with e1 e2 e3;subst e1 e3;have hc:=bH ho at_ (.int .i64 zs[at_]) (by simp[hl]);have HB:=aa hb;clear ho hb;go_wp2_with fail;refine(HF.out _ HZ.out _ HB.out).mono ?_;rintro e w2 ⟨rfl,hb2⟩;have ho2:=bM HO.out hb2 (ah _);have hc2:=bH ho2 at_ (.int .i64 zs[at_]) (by simp[hl]);have hf2:=ho2.frozenAt at_;have HO2:=aa (xC ho2 at_ (F zs[at_]));have HB2:Hid (Below w.heap.size w (w2.setCell ⟨g,at_,none⟩ (.int .i64 (F zs[at_])))):=(HB.out.trans (hb2.mono HB.out.size)).setCell hg _;clear ho2 hb2;go_wp2;go_ret;exact dL.intro HS.out (by rw[List.length_set]) HO2.out HB2.out
 .have HS:Hid (fo zs at_ F=zs):=by show _=_;unfold fo;rw[List.getElem?_eq_none (by omega)]
  go_in
  go_wp2_with fail;refine(gV zs A _ c _ H.out hn).mono ?_;rintro e w1 ⟨A1,c1,rfl,ho,hb⟩;have HO:=aa ho;have HB:=aa hb;clear ho hb;go_wp2;go_ret;exact dL.intro HS.out rfl HO.out HB.out
def fX(p l:List Int):Nat:=if bu p l then l.length else p.length
theorem oL(p l:List Int)(F:Int->Int):ei p l F=fo p (fX p l) F:=by
 unfold ei fX;split
 .rfl
 .simp[fo]
def lh(A:Option Addr)(n c i:Nat)(w:World)(e:Ending)(w':World):Prop:=e= .returned (.agg #[.slice A n c,.int .i64 i])/\Below w.heap.size w w'
theorem lh.intro{A:Option Addr}{n c i j:Nat}{w w':World}(h:i=j)(hb:Below w.heap.size w w'):lh A n c i w (.returned (.agg #[.slice A n c,.int .i64 j])) w':=⟨by rw[h],hb⟩
theorem ax{B:Nat}{a w:World}(h:Below B a w)(q:Nat):Below B a (w.drewN q):=⟨h.os,h.tape,h.output,h.size,h.block⟩
theorem jT.later{w w':World}{f:FuncId}{caps:Array Value}{z y:Int}(h:jT w f caps z y)(hb:Below w.heap.size w w'):jT w' f caps z y:=fun w1 hb1=>h w1 (hb.trans (hb1.mono hb.size))
theorem lC(xs ys:List Int)(A B:Option Addr)(n c m d:Nat)(w:World)(hx:aA w xs A n c)(hy:aA w ys B m d):Calls Tryz.prog 132 #[.slice A n c,.slice B m d] w (lh A n c (fX xs ys) w):=by
 have HX:=aa hx;have HY:=aa hy;have HL:Hid (fX xs ys=if bu xs ys then m else n):=(by show _=_;unfold fX;rw[<-hx.1,<-hy.1]);clear hx hy;cases hu:bu xs ys with
 |true=>
  have HU:=aa hu;clear hu
  go_in
  go_wp2_with fail;refine(jG xs ys _ _ _ _ _ _ _ (HX.out.below ((ai _ _).alloc (ah _) _)) (HY.out.below ((ai _ _).alloc (ah _) _))).mono ?_;rintro e w1 ⟨rfl,q,rfl⟩;rw[HU.out];go_wp2;refine bodyPost_ret (v:=.agg #[.slice A n c,.int .i64 m]) (by simp[results,Tryz.results132,go_sem]) rfl (lh.intro (by rw[HL.out,HU.out];rfl) ?_);exact((ax ((ai _ _).alloc (ah _) _) q).setCell (ah _) _).setCell (ah _) _
 |false=>
  have HU:=aa hu;clear hu
  go_in
  go_wp2_with fail;refine(jG xs ys _ _ _ _ _ _ _ (HX.out.below ((ai _ _).alloc (ah _) _)) (HY.out.below ((ai _ _).alloc (ah _) _))).mono ?_;rintro e w1 ⟨rfl,q,rfl⟩;rw[HU.out];go_wp2;refine bodyPost_ret (v:=.agg #[.slice A n c,.int .i64 n]) (by simp[results,Tryz.results132,go_sem]) rfl (lh.intro (by rw[HL.out,HU.out];rfl) ?_);exact((ax ((ai _ _).alloc (ah _) _) q).setCell (ah _) _).setCell (ah _) _
theorem oJ(zs:List Int)(A:Option Addr)(n c at_:Nat)(f:FuncId)(caps:Array Value)(F:Int->Int)(w:World)(h:aA w zs A n c)(hn:n<=17592186044416)(ha:at_<=17592186044416)(hcf:∀(args:Array Value) (w:World),(callFunc f args).run Tryz.prog w= .ok (.enter f args) w)(hF:∀z,zs[at_]? =some z->jT w f caps z (F z)):Calls Tryz.prog 133 #[.agg #[.slice A n c,.int .i64 at_],.func (.func f) #[] caps] w (dL (fo zs at_ F) w):=by
 have hb0:Below w.heap.size w (w.alloc (.cells #[.slice A n c,.int .i64 at_] 151)):=(ai _ _).alloc (ah _) _;have H:=aa (h.below hb0);have HF:Hid (∀z,zs[at_]? =some z->jT (w.alloc (.cells #[.slice A n c,.int .i64 at_] 151)) f caps z (F z)):=fun z hz=>(hF z hz).later hb0;have HB0:=aa hb0;clear h hF hb0
 go_in
 go_wp2_with fail;refine(yX zs A n c at_ f caps F _ H.out hn ha hcf HF.out).mono ?_;rintro e w1 hp;obtain⟨A1,c1,rfl,ho,hb⟩:=hp;have HO:=aa ho;have HB:=aa hb;clear ho hb;go_wp2;go_ret;exact dL.intro rfl rfl (dk HO.out (by simp)) (HB0.out.trans (HB.out.mono (by simp)))
theorem uL(args:Array Value)(w:World):(callFunc 186 args).run Tryz.prog w= .ok (.enter 186 args) w:=eH Tryz.func186 (by kernel_rfl) (by kernel_rfl) args w
theorem uA(args:Array Value)(w:World):(callFunc 187 args).run Tryz.prog w= .ok (.enter 187 args) w:=eH Tryz.func187 (by kernel_rfl) (by kernel_rfl) args w
theorem uD(args:Array Value)(w:World):(callFunc 136 args).run Tryz.prog w= .ok (.enter 136 args) w:=eH Tryz.func136 (by kernel_rfl) (by kernel_rfl) args w
def lg(x:Int)(w:World)(e:Ending)(w':World):Prop:=e= .returned (.int .i64 x)/\Below w.heap.size w w'
theorem lg.intro{x y:Int}{w w':World}(h:x=y)(hb:Below w.heap.size w w'):lg x w (.returned (.int .i64 y)) w':=⟨by rw[h],hb⟩
theorem rs(z i:Int)(b:Nat)(w:World)(hc:w.cell? ⟨b,0,none⟩=some (.int .i64 i))(h1: -1<=z)(h2:z<=2147483648):Calls Tryz.prog 186 #[.int .i64 z,.pointer (some ⟨b,0,none⟩)] w fun e w'=>e= .returned (.int .i64 (dl i z))/\w=w':=by
 by_cases h:i<=z
 .have HU:Hid (dl i z=z+1):=if_pos h
  go_in
  go_wp2;go_ret;exact⟨mS HU.out.symm,rfl⟩
 .have HU:Hid (dl i z=z):=if_neg h
  go_in
  go_wp2;go_ret;exact⟨mS HU.out.symm,rfl⟩
theorem ri(z i:Int)(b:Nat)(w:World)(hc:w.cell? ⟨b,0,none⟩=some (.int .i64 i))(h1:0<=z)(h2:z<=2147483648):Calls Tryz.prog 187 #[.int .i64 z,.pointer (some ⟨b,0,none⟩)] w fun e w'=>e= .returned (.int .i64 (cF i z))/\w=w':=by
 by_cases h:i<z
 .have HU:Hid (cF i z=z - 1):=if_pos h
  go_in
  go_wp2;go_ret;exact⟨mS HU.out.symm,rfl⟩
 .have HU:Hid (cF i z=z):=if_neg h
  go_in
  go_wp2;go_ret;exact⟨mS HU.out.symm,rfl⟩
def pv(f:FuncId)(i:Int)(w:World)(e:Ending)(w':World):Prop:=e= .returned (.func (.func f) #[] #[.pointer (some ⟨w.heap.size,0,none⟩)])/\w'=w.alloc (.cells #[.int .i64 i] 3)
theorem rr(i:Int)(w:World):Calls Tryz.prog 134 #[.int .i64 i] w (pv 186 i w):=by
 have hmf:=lH
 go_in
 go_wp2;go_ret;exact⟨rfl,rfl⟩
theorem mD(i:Int)(w:World):Calls Tryz.prog 135 #[.int .i64 i] w (pv 187 i w):=by
 have hmf:=lH
 go_in
 go_wp2;go_ret;exact⟨rfl,rfl⟩
def dp(w:World)(zs:List Nat)(A:Option Addr)(n c:Nat):Prop:=
 n=zs.length/\n<=c/\c<=maxLen/\(zs=[]∨∃b o:Nat,A=some ⟨b,o,none⟩/\∀(j z:Nat),zs[j]? =some z->w.cell? ⟨b,o+j,none⟩=some (.int .u8 (z:Int)))
theorem dp.keep{w w':World}(hb:∀a v,w.cell? a=some v->w'.cell? a=some v){zs:List Nat}{A:Option Addr}{n c:Nat}(h:dp w zs A n c):dp w' zs A n c:=by
 obtain⟨h1,h2,h3,h4⟩:=h;refine⟨h1,h2,h3,?_⟩;rcases h4 with e|⟨b,o,e,hr⟩
 .exact .inl e
 .exact .inr ⟨b,o,e,fun j z hz=>hb _ _ (hr j z hz)⟩
theorem dp.below{w w':World}(hb:Below w.heap.size w w'){zs:List Nat}{A:Option Addr}{n c:Nat}(h:dp w zs A n c):dp w' zs A n c:=h.keep fun _ _=>ac hb
theorem dp.get{w:World}{zs:List Nat}{A:Option Addr}{n c:Nat}(h:dp w zs A n c){i:Nat}(hi:i<n):∃(b o z:Nat),A=some ⟨b,o,none⟩/\zs[i]? =some z/\w.cell? ⟨b,o+i,none⟩=some (.int .u8 z):=by
 obtain⟨hn,_,_,h⟩:=h;rcases h with rfl|⟨b,o,e,hr⟩
 .simp at hn;omega
 .have:zs[i]? =some (zs[i]'(by omega)):=br (by omega);exact⟨b,o,_,e,this,hr i _ this⟩
theorem dp.nil(w:World)(A:Option Addr){c:Nat}(h:c<=maxLen):dp w [] A 0 c:=⟨rfl,aE _,h,.inl rfl⟩
def jk(cs:Array Value):List Nat:=cs.toList.map fun v=>match v with| .int _ n=>n.toNat|_=>0
theorem dp.new(w:World)(cs:Array Value)(T:TypeId)(hu:cs=((jk cs).map fun(k:Nat)=>Value.int .u8 k).toArray)(hm:cs.size<=maxLen):dp (w.alloc (.cells cs T)) (jk cs) (some ⟨w.heap.size,0,none⟩) cs.size cs.size:=by refine⟨by simp[jk],ah _,hm,.inr ⟨_,_,rfl,fun j z hz=>?_⟩⟩;rw[show 0+j=j from Nat.zero_add j,World.cell?_alloc_new];have e:cs[j]? =(((jk cs).map fun(k:Nat)=>Value.int .u8 k).toArray)[j]? :=(by rw[<-hu]);rw[e];simp[hz]
def fw(w:World)(v:Value)(r:List Nat×Bool):Prop:=∃A n c,v= .agg #[.slice A n c,.bool r.2]/\dp w r.1 A n c
theorem fw.below{w w':World}(hb:Below w.heap.size w w'){v:Value}{r:List Nat×Bool}(h:fw w v r):fw w' v r:=by obtain⟨A,n,c,e,hk⟩:=h;exact⟨A,n,c,e,hk.below hb⟩
def pC(r:List Nat×Bool)(w:World)(e:Ending)(w':World):Prop:=∃v,e= .returned v/\fw w' v r/\Below w.heap.size w w'
theorem rp(ks:List Nat)(A:Option Addr)(n c:Nat)(w:World)(h:dp w ks A n c):Calls Tryz.prog 197 #[.slice A n c] w (pC (ks,false) w):=by
 have H:=aa h;clear h
 go_in
 go_wp2;have hb:Below w.heap.size w (w.alloc (.cells #[.slice A n c,.bool false] 238)):=(ai _ _).alloc (ah _) _;exact bodyPost_ret (v:=.agg #[.slice A n c,.bool false]) (by simp[results,Tryz.results197,go_sem]) rfl ⟨_,rfl,⟨A,n,c,rfl,H.out.below hb⟩,hb⟩
theorem mG(z:Int)(w:World)(hz:0<=z):Calls Tryz.prog 198 #[.int .u8 z] w (pC ([z.toNat],true) w):=by
 go_in
 go_wp2;have hb:Below w.heap.size w ((w.alloc (.cells #[.slice (some ⟨w.heap.size+1,0,none⟩) 1 1,.bool true] 238)).alloc (.cells #[.int .u8 z] 42)):=((ai _ _).alloc (ah _) _).alloc (by simp) _;have hk:=dp.new (w.alloc (.cells #[.slice (some ⟨w.heap.size+1,0,none⟩) 1 1,.bool true] 238)) #[.int .u8 z] 42 (by simp[jk];omega) (by unfold maxLen;simp);have hs:(w.alloc (.cells #[.slice (some ⟨w.heap.size+1,0,none⟩) 1 1,.bool true] 238)).heap.size=w.heap.size+1:=(by simp);rw[hs] at hk;have hk':dp ((w.alloc (.cells #[.slice (some ⟨w.heap.size+1,0,none⟩) 1 1,.bool true] 238)).alloc (.cells #[.int .u8 z] 42)) [z.toNat] (some ⟨w.heap.size+1,0,none⟩) 1 1:=hk;exact bodyPost_ret (v:=.agg #[.slice (some ⟨w.heap.size+1,0,none⟩) 1 1,.bool true]) (by simp[results,Tryz.results198,go_sem]) rfl ⟨_,rfl,⟨some ⟨w.heap.size+1,0,none⟩,1,1,rfl,hk'⟩,hb⟩
def nG(w:World)(vs:List (Nat×Value))(tbl:List (Nat×List Nat×Bool)):Prop:=
 vs.map (·.1)=tbl.map (·.1)/\∀(i:Nat) (p:Nat×Value) (q:Nat×List Nat×Bool),vs[i]? =some p->tbl[i]? =some q->fw w p.2 q.2
structure hJ (w0 w:World) (B:Nat) (tbl:List (Nat×List Nat×Bool)):Prop where
 map:∃vs,eL w B vs/\nG w vs tbl
 bel:Below w0.heap.size w0 w
theorem hJ.below{w0 w w':World}{B:Nat}{tbl:List (Nat×List Nat×Bool)}(h:hJ w0 w B tbl)(hb:Below w.heap.size w w'):hJ w0 w' B tbl:=by obtain⟨⟨vs,h1,h2,h3⟩,h4⟩:=h;exact⟨⟨vs,h1.below hb,h2,fun i p q hp hq=>(h3 i p q hp hq).below hb⟩,h4.trans (hb.mono h4.size)⟩
theorem hJ.made{w0 w:World}(hb:Below w0.heap.size w0 w):hJ w0 (w.alloc (.map #[] 0)) w.heap.size []:=
 ⟨⟨[],eL.made w,rfl,fun i p q hp=>by simp at hp⟩,hb.alloc hb.size _⟩
theorem Ac{w:World}{vs:List (Nat×Value)}{tbl:List (Nat×List Nat×Bool)}(h:nG w vs tbl)(k:Nat):(vs.all fun p=>p.1 != k)=tbl.all fun p=>p.1 != k:=by have e:∀{β:Type} (l:List (Nat×β)),(l.all fun p=>p.1 != k)=(l.map (·.1)).all (· != k):=(by intro β l;rw[List.all_map];rfl);rw[e,e,h.1]
theorem fw.grown{w w':World}{B:Nat}{v:Value}{r:List Nat×Bool}(h:fw w v r)(hg:w.grownBy w' (some B))(hm:∃es c,w.heap[B]? =some (.map es c)):fw w' v r:=by obtain⟨A,n,c,e,hk⟩:=h;obtain⟨es,cl,hB⟩:=hm;refine⟨A,n,c,e,hk.keep fun a u ha=>?_⟩;refine hg.cell ha ?_;intro e;injection e with e;simp[World.cell?,e,hB] at ha
theorem dG{w0 w:World}{B:Nat}{tbl:List (Nat×List Nat×Bool)}{val:Value}{r:List Nat×Bool}(hT:Hid (hJ w0 w B tbl))(hV:fw w val r)(hB:w0.heap.size<=B)(z:Int)(hz:0<=z)(hn:(tbl.all fun p=>p.1 != z.toNat)=true):∃w',(Instr.mapUpdate 259 (.map (some B)) (.int .u8 z) val).run Tryz.prog w= .ok () w'/\Hid (hJ w0 w' B (tbl++[(z.toNat,r)])):=by
 obtain⟨⟨vs,h1,h2⟩,h4⟩:=hT.out;have hz':((z.toNat:Nat):Int)=z:=Int.toNat_of_nonneg hz;have h1m:∃es c,w.heap[B]? =some (.map es c):=(by obtain⟨es,c,e,_⟩:=h1;exact⟨es,c,e⟩);obtain⟨w',hrun,hm',hg'⟩:=h1.insert Tryz.underlying259 Tryz.underlying42 (k:=z.toNat) val (by rw[Ac h2];exact hn);rw[hz'] at hrun;refine⟨w',hrun,⟨⟨_,hm',?_,?_⟩,h4.grown hg' h4.size (fun k hk=>by injection hk with hk;omega)⟩⟩
 .rw[List.map_append,List.map_append,h2.1];rfl
 .intro i p q hp hq;have hl:vs.length=tbl.length:=(by have:=congrArg List.length h2.1;simpa using this);by_cases hi:i<vs.length
  .rw[cM hi] at hp;rw[cM (by omega)] at hq;exact(h2.2 i p q hp hq).grown hg' h1m
  .have hi0:i=vs.length:=by have:=(bs.1 hp).1;simp at this;omega
   subst hi0;rw[eK (ah _)] at hp;rw[hl,eK (ah _)] at hq;simp at hp hq;subst hp hq;exact hV.grown hg' h1m
theorem qM{w:World}:∀{vs:List (Nat×Value)} {tbl:List (Nat×List Nat×Bool)},nG w vs tbl->∀k,(vs.lookup k=none/\tbl.lookup k=none)∨∃v r,vs.lookup k=some v/\tbl.lookup k=some r/\fw w v r
 |[],[],_,k=>.inl ⟨rfl,rfl⟩
 |[],_::_,h,_=>by have:=h.1;simp at this
 |_::_,[],h,_=>by have:=h.1;simp at this
 |p::vs,q::tbl,h,k=>by
  obtain⟨h1,h2⟩:=h;simp only[List.map_cons,List.cons.injEq] at h1;by_cases hk:k=p.1
  .have hq:k=q.1:=(by rw[hk,h1.1]);right;refine⟨p.2,q.2,?_,?_,h2 0 p q rfl rfl⟩
   .simp[List.lookup,hk]
   .simp[List.lookup,hq]
  .have hq:¬k=q.1:=(by rw[<-h1.1];exact hk);have look_ne:∀{β:Type} (a:Nat×β) (l:List (Nat×β)),¬k=a.1->(a::l).lookup k=l.lookup k:=by intro β a l hne;obtain⟨a,b⟩:=a;have:(k == a)=false:=(by simpa using hne);simp[List.lookup,this]
   have e1:=look_ne p vs hk;have e2:=look_ne q tbl hq;rw[e1,e2];exact qM ⟨h1.2,fun i p' q' hp hq=>h2 (i+1) p' q' (by simpa using hp) (by simpa using hq)⟩ k
def mU:List (Nat×List Nat×Bool):=[(1,[2],true),(2,[3,5],false),(3,[4],true),(4,[],false),(5,[201],true),(6,[200],false),(7,[202,200],false),(8,[200,5,5],false),(9,[200,5],false),(10,[200],false),(11,[200],false),(12,[25],false),
 (20,[],false),(21,[],false),(22,[],false),(23,[200],false),(24,[200,200],false),(25,[200],true),(26,[200,200],false),(27,[200,200],false),(28,[200],false),(29,[],false)]
theorem Ab:∀k:Fin 30,mU.lookup k.val=cp k.val:=by decide
theorem Aa(k:Nat):mU.lookup k=cp k:=by
 by_cases h:k<30
 .exact Ab ⟨k,h⟩
 .obtain⟨n,rfl⟩:∃n,k=n+30:=⟨k - 30,by omega⟩;have e:∀m,m<30->(n+30 == m)=false:=(by intro m hm;simp;omega);have h1:cp (n+30)=none:=rfl;rw[h1];simp[mU,List.lookup,e]
def js(k:Nat)(w:World)(e:Ending)(w':World):Prop:=
 Below w.heap.size w w'/\match cp k with
  |some r=>∃v,e= .returned (.tuple #[v,.bool true])/\fw w' v r
  |none=>e= .returned (.tuple #[.agg #[.slice none 0 0,.bool false],.bool false])
theorem js.no{k:Nat}{w w':World}(h:cp k=none)(hb:Below w.heap.size w w'):js k w (.returned (.tuple #[.agg #[.slice none 0 0,.bool false],.bool false])) w':=by refine⟨hb,?_⟩;rw[h]
theorem js.yes{k:Nat}{w w':World}{v:Value}{r:List Nat×Bool}(h:cp k=some r)(hr:fw w' v r)(hb:Below w.heap.size w w'):js k w (.returned (.tuple #[v,.bool true])) w':=by refine⟨hb,?_⟩;rw[h];exact⟨v,rfl,hr⟩
theorem pE{w:World}{b:Nat}{x y u v:Value}{T:TypeId}{o:Obj}(h:w.heap[b]? =some (.cells #[x,y] T (0,0))):(((w.setCell ⟨b,0,none⟩ u).setCell ⟨b,1,none⟩ v).alloc o).cell? ⟨b,0,none⟩=some u/\(((w.setCell ⟨b,0,none⟩ u).setCell ⟨b,1,none⟩ v).alloc o).cell? ⟨b,1,none⟩=some v:=by
 have hlt:b<w.heap.size:=(aK.1 h).1;have h2:(((w.setCell ⟨b,0,none⟩ u).setCell ⟨b,1,none⟩ v).alloc o).heap[b]? =some (.cells #[u,v] T (0,0)):=by rw[Below.heap_alloc _ _ _ (by simpa using hlt)];simp[World.setCell,Array.getElem?_modify,h]
 exact⟨(cell_of_row _ b 0 _ _ (0,0) h2).trans rfl,(cell_of_row _ b 1 _ _ (0,0) h2).trans rfl⟩
theorem dp.keepBlock{w w':World}{zs:List Nat}{A:Option Addr}{n c b:Nat}{x y:Value}{T:TypeId}(h:dp w zs A n c)(hb:w.heap[b]? =some (.cells #[x,y] T (0,0)))(hk:∀i,i<w.heap.size->i≠b->w'.heap[i]? =w.heap[i]?)(hx:∀z:Nat,x≠ .int .u8 z:=by intros;simp)(hy:∀z:Nat,y≠ .int .u8 z:=by intros;simp):dp w' zs A n c:=by
 obtain⟨h1,h2,h3,h4⟩:=h;refine⟨h1,h2,h3,?_⟩;rcases h4 with e|⟨g,o,e,hr⟩
 .exact .inl e
 .refine .inr ⟨g,o,e,fun j z hz=>?_⟩;have hc:=hr j z hz;have hlt:=bK hc;by_cases hg:g=b
  .exfalso;subst hg;have:=(cell_of_row w g (o+j) _ _ (0,0) hb).symm.trans hc;match o+j,this with
   |0,this=>simp at this;exact hx z this
   |1,this=>simp at this;exact hy z this
   |_+2,this=>simp at this
  .rw[World.cell?_of_block (w:=w) (hk g hlt hg)];exact hc
theorem fR(w:World)(cs:Array Value)(n c:Nat)(hu:cs=((jk cs).map fun(k:Nat)=>Value.int .u8 k).toArray)(hm:cs.size<=maxLen)(hn:n=cs.size)(hc:c=cs.size):Calls Tryz.prog 197 #[.slice (some ⟨w.heap.size,0,none⟩) n c] (w.alloc (.cells cs 42)) fun e w'=>∃v,e= .returned v/\fw w' v (jk cs,false)/\Below w.heap.size w w':=by subst hn hc;refine(rp (jk cs) _ _ _ _ (dp.new w cs _ hu hm)).mono ?_;rintro e w' ⟨v,rfl,hr,hb⟩;exact⟨v,rfl,hr,((ai _ _).alloc (ah _) _).trans (hb.mono (by simp))⟩
theorem lw(w:World):Calls Tryz.prog 197 #[.slice none 0 0] w fun e w'=>∃v,e= .returned v/\fw w' v ([],false)/\Below w.heap.size w w':=by refine(rp [] _ _ _ _ (dp.nil w none (by omega))).mono ?_;rintro e w' ⟨v,rfl,hr,hb⟩;exact⟨v,rfl,hr,hb⟩
theorem gX(k:Nat)(w:World):Calls Tryz.prog 175 #[.int .u8 k] w (js k w):=by
 have HT:=aa (hJ.made (ai (w.alloc (.cells #[.slice none 0 0,.bool false] 238)).heap.size (w.alloc (.cells #[.slice none 0 0,.bool false] 238))));have hsz:(w.alloc (.cells #[.slice none 0 0,.bool false] 238)).heap.size=w.heap.size+1:=(by simp);rw[hsz] at HT;clear hsz;have hmm:= @run_makeMap Tryz.prog
 go_in
 go_wp2_with fail;refine(mG _ _ (by decide)).mono ?_;rintro e w1 ⟨v1,rfl,hr,hb⟩;obtain⟨w2,hrun,HT2⟩:=dG (aa (HT.out.below hb)) hr (by simp) 1 (by decide) (by decide);clear HT hr hb
 rename Hid _=>HT
 go_wp2_with fail;refine(fR _ _ _ _ (by rfl) (by decide) (by decide) (by decide)).mono ?_;rintro e w1 ⟨v1,rfl,hr,hb⟩;obtain⟨w2,hrun,HT2⟩:=dG (aa (HT.out.below hb)) hr (by simp) 2 (by decide) (by decide);clear HT hr hb
 rename Hid _=>HT
 go_wp2_with fail;refine(mG _ _ (by decide)).mono ?_;rintro e w1 ⟨v1,rfl,hr,hb⟩;obtain⟨w2,hrun,HT2⟩:=dG (aa (HT.out.below hb)) hr (by simp) 3 (by decide) (by decide);clear HT hr hb
 rename Hid _=>HT
 go_wp2_with fail;refine(lw _).mono ?_;rintro e w1 ⟨v1,rfl,hr,hb⟩;obtain⟨w2,hrun,HT2⟩:=dG (aa (HT.out.below hb)) hr (by simp) 4 (by decide) (by decide);clear HT hr hb
 rename Hid _=>HT
 go_wp2_with fail;refine(mG _ _ (by decide)).mono ?_;rintro e w1 ⟨v1,rfl,hr,hb⟩;obtain⟨w2,hrun,HT2⟩:=dG (aa (HT.out.below hb)) hr (by simp) 5 (by decide) (by decide);clear HT hr hb
 rename Hid _=>HT
 go_wp2_with fail;refine(fR _ _ _ _ (by rfl) (by decide) (by decide) (by decide)).mono ?_;rintro e w1 ⟨v1,rfl,hr,hb⟩;obtain⟨w2,hrun,HT2⟩:=dG (aa (HT.out.below hb)) hr (by simp) 6 (by decide) (by decide);clear HT hr hb
 rename Hid _=>HT
 go_wp2_with fail;refine(fR _ _ _ _ (by rfl) (by decide) (by decide) (by decide)).mono ?_;rintro e w1 ⟨v1,rfl,hr,hb⟩;obtain⟨w2,hrun,HT2⟩:=dG (aa (HT.out.below hb)) hr (by simp) 7 (by decide) (by decide);clear HT hr hb
 rename Hid _=>HT
 go_wp2_with fail;refine(fR _ _ _ _ (by rfl) (by decide) (by decide) (by decide)).mono ?_;rintro e w1 ⟨v1,rfl,hr,hb⟩;obtain⟨w2,hrun,HT2⟩:=dG (aa (HT.out.below hb)) hr (by simp) 8 (by decide) (by decide);clear HT hr hb
 rename Hid _=>HT
 go_wp2_with fail;refine(fR _ _ _ _ (by rfl) (by decide) (by decide) (by decide)).mono ?_;rintro e w1 ⟨v1,rfl,hr,hb⟩;obtain⟨w2,hrun,HT2⟩:=dG (aa (HT.out.below hb)) hr (by simp) 9 (by decide) (by decide);clear HT hr hb
 rename Hid _=>HT
 go_wp2_with fail;refine(fR _ _ _ _ (by rfl) (by decide) (by decide) (by decide)).mono ?_;rintro e w1 ⟨v1,rfl,hr,hb⟩;obtain⟨w2,hrun,HT2⟩:=dG (aa (HT.out.below hb)) hr (by simp) 10 (by decide) (by decide);clear HT hr hb
 rename Hid _=>HT
 go_wp2_with fail;refine(fR _ _ _ _ (by rfl) (by decide) (by decide) (by decide)).mono ?_;rintro e w1 ⟨v1,rfl,hr,hb⟩;obtain⟨w2,hrun,HT2⟩:=dG (aa (HT.out.below hb)) hr (by simp) 11 (by decide) (by decide);clear HT hr hb
 rename Hid _=>HT
 go_wp2_with fail;refine(fR _ _ _ _ (by rfl) (by decide) (by decide) (by decide)).mono ?_;rintro e w1 ⟨v1,rfl,hr,hb⟩;obtain⟨w2,hrun,HT2⟩:=dG (aa (HT.out.below hb)) hr (by simp) 12 (by decide) (by decide);clear HT hr hb
 rename Hid _=>HT
 go_wp2_with fail;refine(lw _).mono ?_;rintro e w1 ⟨v1,rfl,hr,hb⟩;obtain⟨w2,hrun,HT2⟩:=dG (aa (HT.out.below hb)) hr (by simp) 20 (by decide) (by decide);clear HT hr hb
 rename Hid _=>HT
 go_wp2_with fail;refine(lw _).mono ?_;rintro e w1 ⟨v1,rfl,hr,hb⟩;obtain⟨w2,hrun,HT2⟩:=dG (aa (HT.out.below hb)) hr (by simp) 21 (by decide) (by decide);clear HT hr hb
 rename Hid _=>HT
 go_wp2_with fail;refine(lw _).mono ?_;rintro e w1 ⟨v1,rfl,hr,hb⟩;obtain⟨w2,hrun,HT2⟩:=dG (aa (HT.out.below hb)) hr (by simp) 22 (by decide) (by decide);clear HT hr hb
 rename Hid _=>HT
 go_wp2_with fail;refine(fR _ _ _ _ (by rfl) (by decide) (by decide) (by decide)).mono ?_;rintro e w1 ⟨v1,rfl,hr,hb⟩;obtain⟨w2,hrun,HT2⟩:=dG (aa (HT.out.below hb)) hr (by simp) 23 (by decide) (by decide);clear HT hr hb
 rename Hid _=>HT
 go_wp2_with fail;refine(fR _ _ _ _ (by rfl) (by decide) (by decide) (by decide)).mono ?_;rintro e w1 ⟨v1,rfl,hr,hb⟩;obtain⟨w2,hrun,HT2⟩:=dG (aa (HT.out.below hb)) hr (by simp) 24 (by decide) (by decide);clear HT hr hb
 rename Hid _=>HT
 go_wp2_with fail;refine(mG _ _ (by decide)).mono ?_;rintro e w1 ⟨v1,rfl,hr,hb⟩;obtain⟨w2,hrun,HT2⟩:=dG (aa (HT.out.below hb)) hr (by simp) 25 (by decide) (by decide);clear HT hr hb
 rename Hid _=>HT
 go_wp2_with fail;refine(fR _ _ _ _ (by rfl) (by decide) (by decide) (by decide)).mono ?_;rintro e w1 ⟨v1,rfl,hr,hb⟩;obtain⟨w2,hrun,HT2⟩:=dG (aa (HT.out.below hb)) hr (by simp) 26 (by decide) (by decide);clear HT hr hb
 rename Hid _=>HT
 go_wp2_with fail;refine(fR _ _ _ _ (by rfl) (by decide) (by decide) (by decide)).mono ?_;rintro e w1 ⟨v1,rfl,hr,hb⟩;obtain⟨w2,hrun,HT2⟩:=dG (aa (HT.out.below hb)) hr (by simp) 27 (by decide) (by decide);clear HT hr hb
 rename Hid _=>HT
 go_wp2_with fail;refine(fR _ _ _ _ (by rfl) (by decide) (by decide) (by decide)).mono ?_;rintro e w1 ⟨v1,rfl,hr,hb⟩;obtain⟨w2,hrun,HT2⟩:=dG (aa (HT.out.below hb)) hr (by simp) 28 (by decide) (by decide);clear HT hr hb
 rename Hid _=>HT
 go_wp2_with fail;refine(lw _).mono ?_;rintro e w1 ⟨v1,rfl,hr,hb⟩;obtain⟨w2,hrun,HT2⟩:=dG (aa (HT.out.below hb)) hr (by simp) 29 (by decide) (by decide);clear HT hr hb
 rename Hid _=>HT
 have HT':Hid (hJ (w.alloc (.cells #[.slice none 0 0,.bool false] 238)) w2 (w.heap.size+1) mU):=HT;clear HT;obtain⟨⟨vs,hm,hr⟩,hbel⟩:=HT'.out;have hz:∀w,(zeroValue 238).run Tryz.prog w= .ok (.agg #[.slice none 0 0,.bool false]) w:=fun _=>by kernel_rfl
 have hlook:=hm.look Tryz.underlying259 Tryz.underlying42 k (hz w2) true;have hsz:(w.alloc (.cells #[.slice none 0 0,.bool false] 238)).heap.size=w.heap.size+1:=(by simp);have HB:Hid (Below w.heap.size w w2):=((ai _ _).alloc (ah _) _).trans (hbel.mono (by omega));have hlt:w.heap.size<w2.heap.size:=(by have:=hbel.size;omega);have hblk:w2.heap[w.heap.size]? =some (.cells #[.slice none 0 0,.bool false] 238 (0,0)):=(hbel.block w.heap.size (by omega)).trans (heap_alloc_new w _);have hc0:=(cell_of_row w2 w.heap.size 0 _ _ (0,0) hblk).trans (show _=some (Value.slice none 0 0) from rfl);have hc1:=(cell_of_row w2 w.heap.size 1 _ _ (0,0) hblk).trans (show _=some (Value.bool false) from rfl);have hf0:w2.frozen? ⟨w.heap.size,0,none⟩=false:=(by simp[World.frozen?,hblk]);have hf1:w2.frozen? ⟨w.heap.size,1,none⟩=false:=(by simp[World.frozen?,hblk]);have HBK:=aa hblk;clear hsz hblk;have HR:=aa (Aa k);rcases qM hr k with ⟨h1,h2⟩|⟨v,r,h1,h2,A,n,c,rfl,hk⟩
 .rw[h1] at hlook;have HN:Hid (cp k=none):=(by show _=_;rw[<-HR.out];exact h2);simp only[if_true,Option.getD_none,Option.isSome_none] at hlook;clear HT' hm hr hbel hz h1 h2 HR;go_wp2_with fail;refine bodyPost_ret (v:=.tuple #[.agg #[.slice none 0 0,.bool false],.bool false]) ?_ rfl ?_
  .obtain⟨a0,a1⟩:=pE (u:=.slice none 0 0) (v:=.bool false) (o:=.cells #[.slice none 0 0,.bool false] 238) HBK.out;simp[results,Tryz.results175,go_sem,a0,a1]
  .exact js.no HN.out (((HB.out.setCell (ah _) _).setCell (ah _) _).alloc (by simp;omega) _)
 .rw[h1] at hlook;have HN:Hid (cp k=some r):=(by show _=_;rw[<-HR.out];exact h2);simp only[if_true,Option.getD_some,Option.isSome_some] at hlook;have HK:=aa hk;clear HT' hm hr hbel hz h1 h2 HR hk;go_wp2_with fail;refine bodyPost_ret (v:=.tuple #[.agg #[.slice A n c,.bool r.2],.bool true]) ?_ rfl ?_
  .obtain⟨a0,a1⟩:=pE (u:=.slice A n c) (v:=.bool r.2) (o:=.cells #[.slice A n c,.bool r.2] 238) HBK.out;simp[results,Tryz.results175,go_sem,a0,a1]
  .refine js.yes HN.out ⟨A,n,c,rfl,HK.out.keepBlock (b:=w.heap.size) HBK.out ?_⟩ (((HB.out.setCell (ah _) _).setCell (ah _) _).alloc (by simp;omega) _);intro i hi hne;rw[Below.heap_alloc _ _ _ (by simpa using hi),aY _ _ _ _ hne,aY _ _ _ _ hne]
end Go.Proofs.YtlkmefhogabgdaaGreatDoor
