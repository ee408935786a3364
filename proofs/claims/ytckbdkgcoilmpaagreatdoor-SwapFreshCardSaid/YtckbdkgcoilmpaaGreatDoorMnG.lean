/- Part 7 of the proof. -/
import Derived.Recover
import Derived.Defers
import Derived.Deep.DrawnRows
import Derived.Deep.RegionLaw
import Derived.Test.YtckbdkgcoilmpaaGreatDoorMnF
namespace Go.Proofs.YtckbdkgcoilmpaaGreatDoor
open Go.RowKit
set_option linter.all false
set_option maxHeartbeats 40000000
set_option maxRecDepth 100000
structure cg (S:Nat->Prop) (w w':World):Prop where
 os:w'.os=w.os
 tape:w'.tape=w.tape
 output:w'.output=w.output
 size:w.heap.size<=w'.heap.size
 keep:∀k,k<w.heap.size->¬S k->w'.heap[k]? =w.heap[k]?
theorem cg.refl(S:Nat->Prop)(w:World):cg S w w:=⟨rfl,rfl,rfl,ah _,fun _ _ _=>rfl⟩
theorem cg.trans{S S':Nat->Prop}{w w1 w2:World}(h:cg S w w1)(h':cg S' w1 w2)(hs:∀k,k<w.heap.size->S' k->S k):cg S w w2:=
 ⟨h'.os.trans h.os,h'.tape.trans h.tape,h'.output.trans h.output,aJ h.size h'.size,fun k hk hS=>(h'.keep k (fJ hk h.size) (fun h1=>hS (hs k hk h1))).trans (h.keep k hk hS)⟩
theorem cg.mono{S S':Nat->Prop}{w w1:World}(h:cg S w w1)(hs:∀k,k<w.heap.size->S k->S' k):cg S' w w1:=
 ⟨h.os,h.tape,h.output,h.size,fun k hk hS=>h.keep k hk (fun h1=>hS (hs k hk h1))⟩
theorem cg.below{S:Nat->Prop}{w w':World}{B:Nat}(h:cg S w w')(hB:B<=w.heap.size)(hs:∀k,S k->B<=k):Below B w w':=
 ⟨h.os,h.tape,h.output,h.size,fun k hk=>h.keep k (fJ hk hB) (fun h1=>by have:=hs k h1;omega)⟩
theorem cg.of_below{S:Nat->Prop}{w w':World}(h:Below w.heap.size w w'):cg S w w':=⟨h.os,h.tape,h.output,h.size,fun k hk _=>h.block k hk⟩
theorem cg.then_below{S:Nat->Prop}{w w1 w':World}(h:cg S w w1)(hb:Below w1.heap.size w1 w'):cg S w w':=h.trans (S':=S) (cg.of_below hb) (fun _ _ h=>h)
theorem cg.set{S:Nat->Prop}{w w1:World}(h:cg S w w1){a:Addr}(ha:w.heap.size<=a.block∨S a.block)(u:Value):cg S w (w1.setCell a u):=
 ⟨h.os,h.tape,h.output,by have:=h.size;simpa using this,fun k hk hS=>by rw[aY _ _ _ _ (fun e=>by subst e;rcases ha with ha|ha;omega;exact hS ha)];exact h.keep k hk hS⟩
theorem cg.grown{S:Nat->Prop}{w w1 w2:World}{r:Option Nat}(h:cg S w w1)(hg:w1.grownBy w2 r)(hr:∀k,r=some k->w.heap.size<=k∨S k):cg S w w2:=
 ⟨hg.os.trans h.os,hg.tape.trans h.tape,hg.output.trans h.output,aJ h.size hg.size,fun k hk hS=>(hg.block k (fJ hk h.size) (fun e=>by rcases hr k e.symm with h1|h1;omega;exact hS h1)).trans (h.keep k hk hS)⟩
theorem cg.alloc{S:Nat->Prop}{w w1:World}(h:cg S w w1)(o:Obj):cg S w (w1.alloc o):=h.then_below ((ai _ _).alloc (ah _) o)
theorem cg.drewN{S:Nat->Prop}{w w1:World}(h:cg S w w1)(n:Nat):cg S w (w1.drewN n):=h.then_below (CN (ai _ _) n)
def Cd(w:World)(p:List Int)(v:Value):Prop:=∃A c,v= .slice A p.length c/\cc w p A p.length c/\bT w p A
def Cc(S:Nat->Prop)(w:World):Prop:=∀k,S k->∀cs fr,w.heap[k]? ≠some (.cells cs 3 fr)
theorem C8{S:Nat->Prop}{w w':World}{p:List Int}{A:Option Addr}{n c:Nat}(h:cc w p A n c)(ht:bT w p A)(ho:cg S w w')(hS:Cc S w):cc w' p A n c/\bT w' p A:=by
 obtain⟨h1,h2,h3,h4⟩:=h;by_cases hp:p=[]
 .exact⟨⟨h1,h2,h3,.inl hp⟩,.inl hp⟩
 .rcases ht with e|⟨b,o,cs,fr,e,hh⟩
  .exact absurd e hp
  rcases h4 with e'|⟨b',o',e',hr⟩
  .exact absurd e' hp
  rw[e] at e';injection e' with e';injection e' with e1 e2 e3;subst e1 e2;have hb:=ho.keep b (aK.1 hh).1 (fun hs=>hS b hs cs fr hh);refine⟨⟨h1,h2,h3,.inr ⟨b,o,e,fun j z hz=>?_⟩⟩,.inr ⟨b,o,cs,fr,e,hb.trans hh⟩⟩;rw[World.cell?_of_block hb];exact hr j z hz
theorem Cd.only{S:Nat->Prop}{w w':World}{p:List Int}{v:Value}(h:Cd w p v)(ho:cg S w w')(hS:Cc S w):Cd w' p v:=by obtain⟨A,c,e,h1,h2⟩:=h;obtain⟨h3,h4⟩:=C8 h1 h2 ho hS;exact⟨A,c,e,h3,h4⟩
theorem Cd.below{w w':World}{p:List Int}{v:Value}(h:Cd w p v)(hb:Below w.heap.size w w'):Cd w' p v:=by obtain⟨A,c,e,h1,h2⟩:=h;exact⟨A,c,e,h1.below hb,h2.below hb⟩
theorem Dd{S:Nat->Prop}{w w':World}{base:Nat}{e:TypeId}{size:Nat}{v:Value}{n:Nat}{xs:List Value}(h:w.ownsRow base e size v n xs)(ho:cg S w w')(hS:∀k,v.ownBlock=some k->¬S k):w'.ownsRow base e size v n xs:=by obtain⟨h1,h2⟩:=h;refine⟨h1,h2.imp id ?_⟩;rintro⟨g,cap,cur,rfl,hg,hh,r⟩;exact⟨g,cap,cur,rfl,hg,(ho.keep g (aK.1 hh).1 (hS g rfl)).trans hh,r⟩
theorem CF{S:Nat->Prop}{w w':World}{b:Nat}{l:List (ar×Value)}(h:gm w b l)(ho:cg S w w')(hS:¬S b):gm w' b l:=by have hlt:=h.lt;obtain⟨es,clock,hb,e⟩:=h;exact⟨es,clock,(ho.keep b hlt hS).trans hb,e⟩
theorem k8{w:World}{base:Nat}{e:TypeId}{size:Nat}{v:Value}{n:Nat}{xs:List Value}(h:w.ownsRow base e size v n xs){k:Nat}(hk:v.ownBlock=some k):base<=k/\∃cs fr,w.heap[k]? =some (.cells cs e fr):=by
 rcases h.2 with ⟨rfl,_⟩|⟨g,cap,cur,rfl,hg,hh,_⟩
 .cases hk
 .simp only[Value.ownBlock,Option.some.injEq] at hk;subst hk;exact⟨hg,_,_,hh⟩
structure cz where
 adr:Nat
 pv:Value
 uv:Value
 us:List Value
def C5(w:World)(us:List Value)(ps:List (List Int)):Prop:=us.length=ps.length/\∀(j:Nat) (u:Value) (p:List Int),us[j]? =some u->ps[j]? =some p->Cd w p u
structure DM (w:World) (B:Nat) (r:cz) (s:ar) (m:Nat) (p:List Int) (us:List (List Int)):Prop where
 box:w.heap[r.adr]? =some (.cells #[r.pv,.string (sb s),r.uv,.int .i64 m] 89 (0,0))
 lo:B<=r.adr
 path:Cd w p r.pv
 row:w.ownsRow B 27 1 r.uv r.us.length r.us
 uses:C5 w r.us us
theorem C5.only{S:Nat->Prop}{w w':World}{us:List Value}{ps:List (List Int)}(h:C5 w us ps)(ho:cg S w w')(hS:Cc S w):C5 w' us ps:=⟨h.1,fun j u p hu hp=>(h.2 j u p hu hp).only ho hS⟩
theorem C5.push{w:World}{us:List Value}{ps:List (List Int)}(h:C5 w us ps){u:Value}{p:List Int}(hp:Cd w p u):C5 w (us++[u]) (ps++[p]):=by
 refine⟨by simp[h.1],fun j v q hv hq=>?_⟩;by_cases hj:j<us.length
 .rw[cM hj] at hv;rw[cM (by have:=h.1;omega)] at hq;exact h.2 j v q hv hq
 .rw[eK (by omega)] at hv;rw[eK (by have:=h.1;omega)] at hq;rw[<-h.1] at hq;cases hn:j - us.length with
  |zero=>rw[hn] at hv hq;simp at hv hq;subst hv hq;exact hp
  |succ n=>rw[hn] at hv;simp at hv
theorem DM.only{S:Nat->Prop}{w w':World}{B:Nat}{r:cz}{s:ar}{m:Nat}{p:List Int}{us:List (List Int)}(h:DM w B r s m p us)(ho:cg S w w')(hS:Cc S w)(h1:¬S r.adr)(h2:∀k,r.uv.ownBlock=some k->¬S k):DM w' B r s m p us:=
 ⟨(ho.keep _ (aK.1 h.box).1 h1).trans h.box,h.lo,h.path.only ho hS,Dd h.row ho h2,h.uses.only ho hS⟩
def cn(recs:List cz):List Nat:=recs.map cz.adr
def lc(ads:List Nat)(i:Nat):Nat:=ads.getD i 0
def i7(ads:List Nat)(i:Nat):Value:=.pointer (some ⟨lc ads i,0,none⟩)
theorem FO{ads l:List Nat}{i:Nat}(h:i<ads.length):i7 (ads++l) i=i7 ads i:=by unfold i7 lc;rw[List.getD_eq_getElem?_getD,List.getD_eq_getElem?_getD,cM h]
def C1:Value:=.func (.func 92) #[] #[]
structure eP (w:World) (B wb fm:Nat) (recs:List cz) (av:Value) (st:bo):Prop where
 box:w.heap[wb]? =some (.cells #[.pointer none,.map (some fm),av,.int .i64 st.at_,C1] 139 (0,0))
 lo:B<=wb
 len:recs.length=st.bs.length
 recA:∀(i:Nat) (r:cz),recs[i]? =some r->∃p us,ln st i=p::us/\DM w B r (hG st i) (j8 st i) p us
 row:w.ownsRow B 87 1 av st.all.length (st.all.map (i7 (cn recs)))
 ids:∀i∈st.all,i<recs.length
 evs:∀e∈st.ev,e.2<recs.length
 nd:(cn recs).Nodup
 ub:∀(i j:Nat) (ri rj:cz) (k:Nat),recs[i]? =some ri->recs[j]? =some rj->ri.uv.ownBlock=some k->rj.uv.ownBlock=some k->i=j
def gp(wb:Nat)(recs:List cz)(av:Value)(k:Nat):Prop:=k=wb∨(∃r∈recs,k=r.adr∨r.uv.ownBlock=some k)∨av.ownBlock=some k
theorem eP.lows{w:World}{B wb fm:Nat}{recs:List cz}{av:Value}{st:bo}(h:eP w B wb fm recs av st):∀k,gp wb recs av k->B<=k/\k<w.heap.size:=by
 rintro k (rfl|⟨r,hr,rfl|hk⟩|hk)
 .exact⟨h.lo,(aK.1 h.box).1⟩
 .obtain⟨i,hi⟩:=List.mem_iff_getElem?.1 hr;obtain⟨p,us,_,hR⟩:=h.recA i r hi;exact⟨hR.lo,(aK.1 hR.box).1⟩
 .obtain⟨i,hi⟩:=List.mem_iff_getElem?.1 hr;obtain⟨p,us,_,hR⟩:=h.recA i r hi;exact hR.row.lt k hk
 .exact h.row.lt k hk
theorem eP.types{w:World}{B wb fm:Nat}{recs:List cz}{av:Value}{st:bo}(h:eP w B wb fm recs av st):∀k,gp wb recs av k->∃cs T fr,w.heap[k]? =some (.cells cs T fr)/\(T=139∨T=89∨T=27∨T=87):=by
 rintro k (rfl|⟨r,hr,rfl|hk⟩|hk)
 .exact⟨_,_,_,h.box,.inl rfl⟩
 .obtain⟨i,hi⟩:=List.mem_iff_getElem?.1 hr;obtain⟨p,us,_,hR⟩:=h.recA i r hi;exact⟨_,_,_,hR.box,.inr (.inl rfl)⟩
 .obtain⟨i,hi⟩:=List.mem_iff_getElem?.1 hr;obtain⟨p,us,_,hR⟩:=h.recA i r hi;obtain⟨_,cs,fr,hh⟩:=k8 hR.row hk;exact⟨_,_,_,hh,.inr (.inr (.inl rfl))⟩
 .obtain⟨_,cs,fr,hh⟩:=k8 h.row hk;exact⟨_,_,_,hh,.inr (.inr (.inr rfl))⟩
theorem eP.only{S:Nat->Prop}{w w':World}{B wb fm:Nat}{recs:List cz}{av:Value}{st:bo}(h:eP w B wb fm recs av st)(ho:cg S w w')(hS:Cc S w)(hd:∀k,gp wb recs av k->¬S k):eP w' B wb fm recs av st:=by refine⟨(ho.keep _ (aK.1 h.box).1 (hd wb (.inl rfl))).trans h.box,h.lo,h.len,fun i r hr=>?_,Dd h.row ho (fun k hk=>hd k (.inr (.inr hk))),h.ids,h.evs,h.nd,h.ub⟩;obtain⟨p,us,e,hR⟩:=h.recA i r hr;have hm:r∈recs:=List.mem_iff_getElem?.2 ⟨i,hr⟩;exact⟨p,us,e,hR.only ho hS (hd _ (.inr (.inl ⟨r,hm,.inl rfl⟩))) (fun k hk=>hd k (.inr (.inl ⟨r,hm,.inr hk⟩)))⟩
theorem eP.below{w w':World}{B wb fm:Nat}{recs:List cz}{av:Value}{st:bo}(h:eP w B wb fm recs av st)(hb:Below w.heap.size w w'):eP w' B wb fm recs av st:=
 h.only (S:=fun _=>False) (cg.of_below hb) (fun _ h=>h.elim) (fun _ _ h=>h)
theorem Cf{w:World}{b j:Nat}{cs:Array Value}{T:TypeId}{u:Value}(h:w.heap[b]? =some (.cells cs T (0,0))):(w.setCell ⟨b,j,none⟩ u).heap[b]? =some (.cells (cs.setIfInBounds j u) T (0,0)):=by have hl:b<w.heap.size:=(aK.1 h).1;unfold World.setCell;simp only[Array.getElem?_modify,if_true];rw[h];rfl
theorem eP.wb_ne{w:World}{B wb fm:Nat}{recs:List cz}{av:Value}{st:bo}(h:eP w B wb fm recs av st){r:cz}(hr:r∈recs):r.adr≠wb/\∀k,r.uv.ownBlock=some k->k≠wb:=by
 obtain⟨i,hi⟩:=List.mem_iff_getElem?.1 hr;obtain⟨p,us,_,hR⟩:=h.recA i r hi;refine⟨fun e=>?_,fun k hk e=>?_⟩
 .have h1:=hR.box;rw[e,h.box] at h1;simp at h1
 .obtain⟨_,cs,fr,hh⟩:=k8 hR.row hk;rw[e,h.box] at hh;simp at hh
theorem eP.setBox{w:World}{B wb fm:Nat}{recs:List cz}{av:Value}{st:bo}(h:eP w B wb fm recs av st){w':World}{av':Value}{st':bo}(hw:cg (fun k=>k=wb) w w')(hbox:w'.heap[wb]? =some (.cells #[.pointer none,.map (some fm),av',.int .i64 st'.at_,C1] 139 (0,0)))(hrow:w'.ownsRow B 87 1 av' st'.all.length (st'.all.map (i7 (cn recs))))(hids:∀i∈st'.all,i<recs.length)(e1:st'.bs=st.bs)(e2:st'.ev=st.ev):eP w' B wb fm recs av' st':=by have hN:Cc (fun k=>k=wb) w:=(by rintro k rfl cs fr e;rw[h.box] at e;simp at e);refine⟨hbox,h.lo,by rw[h.len,e1],fun i r hr=>?_,hrow,hids,by rw[e2];exact h.evs,h.nd,h.ub⟩;obtain⟨p,us,e,hR⟩:=h.recA i r hr;have hne:=h.wb_ne (List.mem_iff_getElem?.2 ⟨i,hr⟩);refine⟨p,us,by unfold ln at e ⊢;rw[e2];exact e,?_⟩;have:=hR.only hw hN hne.1 (fun k hk=>hne.2 k hk);unfold hG j8 at this ⊢;rw[e1];exact this
theorem FC{l:List Nat}(h:l.Nodup):∀{i j:Nat} {a:Nat},l[i]? =some a->l[j]? =some a->i=j:=by
 induction l with
 |nil=>intro i j a h1;simp at h1
 |cons b l ih=>
  intro i j a h1 h2;simp only[List.nodup_cons] at h;cases i with
  |zero=>
   cases j with
   |zero=>rfl
   |succ j=>simp at h1 h2;subst h1;exact absurd (List.mem_iff_getElem?.2 ⟨j,h2⟩) h.1
  |succ i=>
   cases j with
   |zero=>simp at h1 h2;subst h2;exact absurd (List.mem_iff_getElem?.2 ⟨i,h1⟩) h.1
   |succ j=>simp at h1 h2;rw[ih h.2 h1 h2]
theorem DZ{st:bo}{q:List Int}{i j:Nat}{bs:List (ar×Nat)}{all:List Nat}{a:Nat}:ln ⟨bs,st.ev++[(q,i)],all,a⟩ j=if j=i then ln st j++[q] else ln st j:=by
 unfold ln;rw[List.filter_append,List.map_append];by_cases h:j=i
 .rw[if_pos h];subst h;simp
 .rw[if_neg h];have:(i == j)=false:=by simp;exact fun e=>h e.symm
  simp[this]
theorem Iq{st:bo}{i:Nat}(h:∀e∈st.ev,e.2≠i):ln st i=[]:=by unfold ln;rw[List.map_eq_nil_iff,List.filter_eq_nil_iff];intro e he;simpa using h e he
theorem Hi{st st':bo}{i:Nat}{p:ar×Nat}(h:i<st.bs.length)(e:st'.bs=st.bs++[p]):hG st' i=hG st i/\j8 st' i=j8 st i:=by unfold hG j8;rw[e,cM h];exact⟨rfl,rfl⟩
theorem eP.bind{w:World}{B wb fm:Nat}{recs:List cz}{av:Value}{st:bo}(h:eP w B wb fm recs av st){w':World}{M g:Nat}{av' pv:Value}{s:ar}{q:List Int}(hw:cg (fun k=>k=M∨k=wb∨av.ownBlock=some k) w w')(hM:∃es c,w.heap[M]? =some (.map es c))(hbox:w'.heap[wb]? =some (.cells #[.pointer none,.map (some fm),av',.int .i64 st.at_,C1] 139 (0,0)))(hg:w'.heap[g]? =some (.cells #[pv,.string (sb s),.slice none 0 0,.int .i64 0] 89 (0,0)))(hlo:w.heap.size<=g)(hp:Cd w' q pv)(hrow:w'.ownsRow B 87 1 av' (st.all.length+1) (st.all.map (i7 (cn recs))++[.pointer (some ⟨g,0,none⟩)])):eP w' B wb fm (recs++[⟨g,pv,.slice none 0 0,[]⟩]) av' ⟨st.bs++[(s,0)],st.ev++[(q,st.bs.length)],st.all++[st.bs.length],st.at_⟩:=by
 have hN:Cc (fun k=>k=M∨k=wb∨av.ownBlock=some k) w:=by
  rintro k (rfl|rfl|hk) cs fr e
  .obtain⟨es,c,hh⟩:=hM;rw[hh] at e;simp at e
  .rw[h.box] at e;simp at e
  .obtain⟨_,cs',fr',hh⟩:=k8 h.row hk;rw[hh] at e;simp at e
 have hlast:i7 (cn (recs++[⟨g,pv,.slice none 0 0,[]⟩])) st.bs.length= .pointer (some ⟨g,0,none⟩):=by unfold i7 lc cn;rw[<-h.len,List.getD_eq_getElem?_getD,List.map_append,eK (by simp)];simp
 have hBg:B<=g:=aJ (aJ h.lo (Nat.le_of_lt (aK.1 h.box).1)) hlo;refine⟨hbox,h.lo,by simp[h.len],fun i r hr=>?_,?_,fun i hi=>?_,fun e he=>?_,?_,?_⟩
 .by_cases hi:i<recs.length
  .rw[cM hi] at hr;obtain⟨p,us,e,hR⟩:=h.recA i r hr;have hm:r∈recs:=List.mem_iff_getElem?.2 ⟨i,hr⟩;have hil:i<st.bs.length:=(by rw[<-h.len];exact hi);obtain⟨n1,n2⟩:=Hi (st:=st) (st':=⟨st.bs++[(s,0)],st.ev++[(q,st.bs.length)],st.all++[st.bs.length],st.at_⟩) hil rfl;refine⟨p,us,by rw[DZ,if_neg (by omega)];exact e,?_⟩;rw[n1,n2];refine hR.only hw hN ?_ (fun k hk=>?_)
   .rintro(e|e|e)
    .obtain⟨es,c,hh⟩:=hM;rw[<-e,hR.box] at hh;simp at hh
    .exact(h.wb_ne hm).1 e
    .obtain⟨_,cs',fr',hh⟩:=k8 h.row e;rw[hR.box] at hh;simp at hh
   .obtain⟨_,cs',fr',hh⟩:=k8 hR.row hk;rintro(e|e|e)
    .obtain⟨es,c,hh'⟩:=hM;rw[<-e,hh] at hh';simp at hh'
    .exact(h.wb_ne hm).2 k hk e
    .obtain⟨_,cs'',fr'',hh'⟩:=k8 h.row e;rw[hh] at hh';simp at hh'
  .have hi':i=recs.length:=by have:=(gl.1 hr).1;simp at this;omega
   subst hi';rw[eK (ah _)] at hr;simp at hr;subst hr;have hnew:hG ⟨st.bs++[(s,0)],st.ev++[(q,st.bs.length)],st.all++[st.bs.length],st.at_⟩ recs.length=s/\j8 ⟨st.bs++[(s,0)],st.ev++[(q,st.bs.length)],st.all++[st.bs.length],st.at_⟩ recs.length=0:=by unfold hG j8;simp only;rw[h.len,eK (ah _)];simp
   rw[hnew.1,hnew.2];refine⟨q,[],?_,hg,hBg,hp,World.ownsRow_nil _ _ _ _,rfl,fun j u p hu=>by simp at hu⟩;rw[DZ,if_pos h.len,Iq (fun e he=>by have:=h.evs e he;omega)];rfl
 .have e:(st.all++[st.bs.length]).map (i7 (cn (recs++[⟨g,pv,.slice none 0 0,[]⟩])))=st.all.map (i7 (cn recs))++[.pointer (some ⟨g,0,none⟩)]:=by
   rw[List.map_append]
   congr 1
   .refine List.map_congr_left fun i hi=>?_;unfold cn;rw[List.map_append];exact FO (by rw[ny];exact h.ids i hi)
   .simp only[List.map_cons,List.map_nil];rw[hlast]
  rw[e,CD];exact hrow
 .rcases List.mem_append.1 hi with hi|hi
  .have:=h.ids i hi;simp;omega
  .obtain rfl:=List.mem_singleton.1 hi;rw[<-h.len];simp
 .rcases List.mem_append.1 he with he|he
  .have:=h.evs e he;simp;omega
  .obtain rfl:=List.mem_singleton.1 he;rw[<-h.len];simp
 .unfold cn;rw[List.map_append,List.nodup_append];refine⟨h.nd,by simp,fun a ha b hb=>?_⟩;obtain rfl:b=g:=(by simpa using hb);obtain⟨r,hr,rfl⟩:=List.mem_map.1 ha;have:=(h.lows r.adr (.inr (.inl ⟨r,hr,.inl rfl⟩))).2;omega
 .intro i j ri rj k hi hj hki hkj;have hlt:∀(i:Nat) (ri:cz),(recs++[⟨g,pv,.slice none 0 0,[]⟩])[i]? =some ri->ri.uv.ownBlock=some k->recs[i]? =some ri:=by
   intro i ri hi hk;by_cases hil:i<recs.length
   .rw[cM hil] at hi;exact hi
   .rw[eK (by omega)] at hi;cases hn:i - recs.length with
    |zero=>rw[hn] at hi;simp at hi;subst hi;cases hk
    |succ n=>rw[hn] at hi;simp at hi
  exact h.ub i j ri rj k (hlt i ri hi hki) (hlt j rj hj hkj) hki hkj
theorem eP.use{w:World}{B wb fm:Nat}{recs:List cz}{av:Value}{st:bo}(h:eP w B wb fm recs av st){w':World}{i:Nat}{r:cz}(hr:recs[i]? =some r){uv' u:Value}{q:List Int}(hw:cg (fun k=>k=r.adr∨r.uv.ownBlock=some k) w w')(hbox:w'.heap[r.adr]? =some (.cells #[r.pv,.string (sb (hG st i)),uv',.int .i64 (j8 st i)] 89 (0,0)))(hrow:w'.ownsRow B 27 1 uv' (r.us.length+1) (r.us++[u]))(hu:Cd w' q u)(hub:∀k,uv'.ownBlock=some k->r.uv.ownBlock=some k∨w.heap.size<=k):eP w' B wb fm (recs.set i ⟨r.adr,r.pv,uv',r.us++[u]⟩) av ⟨st.bs,st.ev++[(q,i)],st.all,st.at_⟩:=by
 have hil:i<recs.length:=(gl.1 hr).1;have hm:r∈recs:=List.mem_iff_getElem?.2 ⟨i,hr⟩;obtain⟨p0,us0,ep0,hR0⟩:=h.recA i r hr;have hN:Cc (fun k=>k=r.adr∨r.uv.ownBlock=some k) w:=by
  rintro k (rfl|hk) cs fr e
  .rw[hR0.box] at e;simp at e
  .obtain⟨_,cs',fr',hh⟩:=k8 hR0.row hk;rw[hh] at e;simp at e
 have ha:cn (recs.set i ⟨r.adr,r.pv,uv',r.us++[u]⟩)=cn recs:=by
  unfold cn;refine List.ext_getElem? fun j=>?_;rw[List.getElem?_map,List.getElem?_map,List.getElem?_set];split
  .rename_i hij;subst hij;rw[hr];rfl
  .rfl
 have hwb:=h.wb_ne hm;refine⟨(hw.keep _ (aK.1 h.box).1 ?_).trans h.box,h.lo,by simp[h.len],fun j rj hj=>?_,?_,by simpa using h.ids,fun e he=>?_,by rw[ha];exact h.nd,?_⟩
 .rintro(e|e)
  .exact hwb.1 e.symm
  .exact hwb.2 _ e rfl
 .rw[List.getElem?_set] at hj;split at hj
  .rename_i hij;subst hij;cases hj
   refine⟨p0,us0++[q],by rw[DZ,if_pos rfl,ep0];rfl,hbox,hR0.lo,hR0.path.only hw hN,by simpa using hrow,(hR0.uses.only hw hN).push hu⟩
  .rename_i hij;obtain⟨p,us,e,hR⟩:=h.recA j rj hj;refine⟨p,us,by rw[DZ,if_neg (fun e=>hij e.symm)];exact e,hR.only hw hN ?_ fun k hk=>?_⟩
   .rintro(e|e)
    .have h1:(cn recs)[i]? =some r.adr:=(by unfold cn;rw[List.getElem?_map,hr];rfl);have h2:(cn recs)[j]? =some r.adr:=(by unfold cn;rw[List.getElem?_map,hj];exact congrArg some e);exact hij (FC h.nd h1 h2)
    .obtain⟨_,cs',fr',hh⟩:=k8 hR0.row e;rw[hR.box] at hh;simp at hh
   .rintro(e|e)
    .subst e;obtain⟨_,cs',fr',hh⟩:=k8 hR.row hk;rw[hR0.box] at hh;simp at hh
    .exact hij (h.ub i j r rj k hr hj e hk)
 .rw[ha];refine Dd h.row hw fun k hk=>?_;obtain⟨_,cs',fr',hh⟩:=k8 h.row hk;rintro(e|e)
  .subst e;rw[hR0.box] at hh;simp at hh
  .obtain⟨_,cs'',fr'',hh'⟩:=k8 hR0.row e;rw[hh] at hh';simp at hh'
 .rw[List.length_set];rcases List.mem_append.1 he with he|he
  .exact h.evs e he
  .obtain rfl:=List.mem_singleton.1 he;exact hil
 .intro a b ra rb k h1 h2 hka hkb;have key:∀(a:Nat) (ra:cz),(recs.set i ⟨r.adr,r.pv,uv',r.us++[u]⟩)[a]? =some ra->ra.uv.ownBlock=some k->(∃ro,recs[a]? =some ro/\ro.uv.ownBlock=some k)∨(a=i/\w.heap.size<=k):=by
   intro a ra h1 hk;rw[List.getElem?_set] at h1;split at h1
   .rename_i hia;subst hia;cases h1
    rcases hub k hk with h3|h3
    .exact .inl ⟨r,hr,h3⟩
    .exact .inr ⟨rfl,h3⟩
   .exact .inl ⟨ra,h1,hk⟩
  have hsm:∀(a:Nat) (ro:cz),recs[a]? =some ro->ro.uv.ownBlock=some k->k<w.heap.size:=fun a ro h1 h2=>(h.lows k (.inr (.inl ⟨ro,List.mem_iff_getElem?.2 ⟨a,h1⟩,.inr h2⟩))).2;rcases key a ra h1 hka with ⟨ro,h3,h4⟩|⟨h3,h4⟩
  .rcases key b rb h2 hkb with ⟨ro',h5,h6⟩|⟨h5,h6⟩
   .exact h.ub a b ro ro' k h3 h5 h4 h6
   .have:=hsm a ro h3 h4;omega
  .rcases key b rb h2 hkb with ⟨ro',h5,h6⟩|⟨h5,h6⟩
   .have:=hsm b ro' h5 h6;omega
   .omega
theorem eP.many{w:World}{B wb fm:Nat}{recs:List cz}{av:Value}{st:bo}(h:eP w B wb fm recs av st){w':World}{i n:Nat}{r:cz}(hr:recs[i]? =some r)(hw:cg (fun k=>k=r.adr) w w')(hbox:w'.heap[r.adr]? =some (.cells #[r.pv,.string (sb (hG st i)),r.uv,.int .i64 n] 89 (0,0))):eP w' B wb fm recs av (la st i n):=by
 have hil:i<recs.length:=(gl.1 hr).1;have hm:r∈recs:=List.mem_iff_getElem?.2 ⟨i,hr⟩;obtain⟨p0,us0,ep0,hR0⟩:=h.recA i r hr;have hN:Cc (fun k=>k=r.adr) w:=by rintro k rfl cs fr e;rw[hR0.box] at e;simp at e
 have hwb:=h.wb_ne hm;have hnm:∀j,j<st.bs.length->hG (la st i n) j=hG st j/\j8 (la st i n) j=if j=i then n else j8 st j:=by intro j hj;unfold hG j8 la;simp only[List.getElem?_mapIdx,br hj,Option.map_some,Option.getD_some];split<;>exact⟨rfl,rfl⟩
 refine⟨(hw.keep _ (aK.1 h.box).1 (fun e=>hwb.1 e.symm)).trans h.box,h.lo,by simp[la,h.len],fun j rj hj=>?_,Dd h.row hw fun k hk=>?_,h.ids,h.evs,h.nd,h.ub⟩
 .obtain⟨p,us,e,hR⟩:=h.recA j rj hj;have hjl:j<st.bs.length:=(by rw[<-h.len];exact(gl.1 hj).1);obtain⟨n1,n2⟩:=hnm j hjl;refine⟨p,us,e,?_⟩;rw[n1,n2];by_cases hij:j=i
  .subst hij;rw[hr] at hj;cases hj
   rw[if_pos rfl];exact⟨hbox,hR.lo,hR.path.only hw hN,Dd hR.row hw fun k hk e=>by subst e;obtain⟨_,cs',fr',hh⟩:=k8 hR.row hk;rw[hR.box] at hh;simp at hh,hR.uses.only hw hN⟩
  .rw[if_neg hij];refine hR.only hw hN (fun e=>?_) fun k hk e=>?_
   .have h1:(cn recs)[i]? =some r.adr:=(by unfold cn;rw[List.getElem?_map,hr];rfl);have h2:(cn recs)[j]? =some r.adr:=(by unfold cn;rw[List.getElem?_map,hj];exact congrArg some e);exact hij (FC h.nd h2 h1)
   .subst e;obtain⟨_,cs',fr',hh⟩:=k8 hR.row hk;rw[hR0.box] at hh;simp at hh
 .intro e;subst e;obtain⟨_,cs',fr',hh⟩:=k8 h.row hk;rw[hR0.box] at hh;simp at hh
def k6(ads:List Nat)(m:bq):List (ar×Value):=m.map fun p=>(p.1,i7 ads p.2)
theorem De{ads:List Nat}{s:ar}:∀(m:bq),(k6 ads m).lookup s=(eg m s).map (i7 ads)
 |[]=>rfl
 |(x,i) ::m=>by
  show((x,i7 ads i) ::k6 ads m).lookup s=_;unfold eg;rw[List.lookup_cons];by_cases h:x=s
  .subst h;simp
  .rw[if_neg h,De m];have:(s == x)=false:=by simp;exact fun e=>h e.symm
   rw[this]
theorem EF{ads l:List Nat}{m:bq}(h:k7 ads.length m):k6 (ads++l) m=k6 ads m:=by unfold k6;refine List.map_congr_left fun p hp=>?_;rw[FO (h p hp)]
def wo(w:World)(ads:List Nat):List bq->List Nat->Value->Prop
 |[],ms,v=>ms=[]/\v= .pointer none
 |m::out,ms,v=>∃b v' M ms',ms=M::ms'/\v= .pointer (some ⟨b,0,none⟩)/\w.heap[b]? =some (.cells #[v',.map (some M)] 184 (0,0))/\gm w M (k6 ads m)/\wo w ads out ms' v'
theorem wo.only{S:Nat->Prop}{w w':World}{ads:List Nat}(ho:cg S w w')(hT:∀k,S k->∀cs fr,w.heap[k]? ≠some (.cells cs 184 fr)):∀{out:List bq} {ms:List Nat} {v:Value},wo w ads out ms v->(∀M∈ms,¬S M)->wo w' ads out ms v
 |[],ms,v,h,_=>h
 |m::out,ms,v,h,hM=>by obtain⟨b,v',M,ms',rfl,rfl,hb,hm,hr⟩:=h;exact⟨b,v',M,ms',rfl,rfl,(ho.keep b (aK.1 hb).1 (fun hS=>hT b hS _ _ hb)).trans hb,CF hm ho (hM M (List.mem_cons_self ..)),hr.only ho hT fun M h=>hM M (List.mem_cons_of_mem _ h)⟩
theorem wo.below{w w':World}{ads:List Nat}(hb:Below w.heap.size w w'){out:List bq}{ms:List Nat}{v:Value}(h:wo w ads out ms v):wo w' ads out ms v:=
 h.only (S:=fun _=>False) (cg.of_below hb) (fun _ h=>h.elim) (fun _ _ h=>h)
theorem wo.more{w:World}{ads l:List Nat}:∀{out:List bq} {ms:List Nat} {v:Value},wo w ads out ms v->(∀m∈out,k7 ads.length m)->wo w (ads++l) out ms v
 |[],ms,v,h,_=>h
 |m::out,ms,v,h,hI=>by obtain⟨b,v',M,ms',rfl,rfl,hb,hm,hr⟩:=h;exact⟨b,v',M,ms',rfl,rfl,hb,by rw[EF (hI m (List.mem_cons_self ..))];exact hm,hr.more fun m h=>hI m (List.mem_cons_of_mem _ h)⟩
theorem wo.lt{w:World}{ads:List Nat}:∀{out:List bq} {ms:List Nat} {v:Value},wo w ads out ms v->∀M∈ms,M<w.heap.size
 |[],ms,v,h,M,hM=>by rw[h.1] at hM;cases hM
 |m::out,ms,v,h,M,hM=>by
  obtain⟨b,v',M',ms',rfl,rfl,hb,hm,hr⟩:=h;rcases List.mem_cons.1 hM with rfl|hM
  .exact hm.lt
  .exact hr.lt M hM
theorem FM(pa:Option Addr)(M:Nat)(w:World):Calls Tryz.prog 136 #[.agg #[.pointer pa,.map (some M)]] w fun e w'=>∃b M',e= .returned (.agg #[.pointer (some ⟨b,0,none⟩),.map (some M')])/\w'.heap[b]? =some (.cells #[.pointer pa,.map (some M)] 184 (0,0))/\gm w' M' []/\w.heap.size<=M'/\Below w.heap.size w w':=by
 have hmm:= @run_makeMap Tryz.prog
 go_in
 go_wp2;refine bodyPost_ret (v:=.agg #[.pointer (some ⟨w.heap.size+1+1,0,none⟩),.map (some (w.heap.size+1+1+1))]) (by simp[results,Tryz.results136,go_sem]) rfl ⟨_,_,rfl,?_,⟨#[],0,aQ (by simp),rfl⟩,by omega,(((ai _ _).alloc (ah _) _).alloc (by simp) _).alloc (by simp;omega) _ |>.alloc (by simp;omega) _⟩;exact(heap_alloc_old _ _ (by simp)).trans (aQ (by simp))
theorem Dp(w:World):(zeroValue 87).run Tryz.prog w= .ok (.pointer none) w:=by kernel_rfl
def Df(r:Value)(w:World)(e:Ending)(w':World):Prop:=e= .returned r/\Below w.heap.size w w'
theorem Df.intro{r r':Value}{w w':World}(h:r=r')(hb:Below w.heap.size w w'):Df r w (.returned r') w':=⟨by rw[h],hb⟩
def CK(ads:List Nat)(o:Option Nat):Value:=match o with|some i=>i7 ads i|none=>.pointer none
theorem Fc{ads:List Nat}{own:bq}{out:List bq}{s:ar}{i:Nat}(h:eg own s=some i):CK ads (mb (own::out) s)= .pointer (some ⟨lc ads i,0,none⟩):=by unfold mb;rw[h];rfl
theorem Fb{ads:List Nat}{own:bq}{out:List bq}{s:ar}(h:eg own s=none):CK ads (mb (own::out) s)=CK ads (mb out s):=by rw[mb.eq_2,h]
theorem Id(ads:List Nat)(s:ar):∀(out:List bq) (own:bq) (ms:List Nat) (v:Value) (M:Nat) (w:World),wo w ads out ms v->gm w M (k6 ads own)->Calls Tryz.prog 152 #[.agg #[v,.map (some M)],.string (sb s)] w (Df (CK ads (mb (own::out) s)) w):=by
 intro out;induction out with
 |nil=>
  intro own ms v M w hA hM;obtain⟨_,rfl⟩:=hA;have hM':gm (w.alloc (.cells #[.pointer none,.map (some M)] 136)) M (k6 ads own):=hM.below ((ai _ _).alloc (ah _) _);have hlook:=hM'.look Tryz.underlying133 Tryz.underlying9 s (Dp _) false;rw[De] at hlook;clear hM';cases hl:eg own s with
  |none=>
   have HR:Hid (CK ads (mb [own] s)= .pointer none):=Fb hl;rw[hl] at hlook;simp only[Bool.false_eq_true,if_false,Option.map_none,Option.getD_none] at hlook
   go_in
   go_wp2;go_ret;exact Df.intro HR.out ((ai _ _).alloc (ah _) _)
  |some i=>
   have HR:Hid (CK ads (mb [own] s)= .pointer (some ⟨lc ads i,0,none⟩)):=Fc hl;rw[hl] at hlook;simp only[Bool.false_eq_true,if_false,Option.map_some,Option.getD_some,i7] at hlook
   go_in
   go_wp2;go_ret;exact Df.intro HR.out ((ai _ _).alloc (ah _) _)
 |cons m out ih=>
  intro own ms v M w hA hM;obtain⟨b,v',M2,ms',rfl,rfl,hb,hm2,hA2⟩:=hA;have hM':gm (w.alloc (.cells #[.pointer (some ⟨b,0,none⟩),.map (some M)] 136)) M (k6 ads own):=hM.below ((ai _ _).alloc (ah _) _);have hlook:=hM'.look Tryz.underlying133 Tryz.underlying9 s (Dp _) false;rw[De] at hlook;clear hM';cases hl:eg own s with
  |none=>
   have HR:Hid (CK ads (mb (own::m::out) s)=CK ads (mb (m::out) s)):=Fb hl;rw[hl] at hlook;simp only[Bool.false_eq_true,if_false,Option.map_none,Option.getD_none] at hlook;have hW:Below w.heap.size w (w.alloc (.cells #[.pointer (some ⟨b,0,none⟩),.map (some M)] 136)):=(ai _ _).alloc (ah _) _;have c0:(w.alloc (.cells #[.pointer (some ⟨b,0,none⟩),.map (some M)] 136)).cell? ⟨b,0,none⟩=some v':=by rw[hW.cell (aK.1 hb).1,cell_of_row w b 0 _ _ _ hb];rfl
   have c1:(w.alloc (.cells #[.pointer (some ⟨b,0,none⟩),.map (some M)] 136)).cell? ⟨b,1,none⟩=some (.map (some M2)):=by rw[hW.cell (aK.1 hb).1,cell_of_row w b 1 _ _ _ hb];rfl
   have HI:=aa (ih m ms' v' M2 _ (hA2.below hW) (hm2.below hW));have HW:=aa hW;clear hM ih hb hm2 hA2 hl
   go_in
   go_wp2_with fail;refine HI.out.mono ?_;rintro e w1 ⟨rfl,hb1⟩;go_wp2;go_ret;exact Df.intro HR.out (af HW.out hb1)
  |some i=>
   have HR:Hid (CK ads (mb (own::m::out) s)= .pointer (some ⟨lc ads i,0,none⟩)):=Fc hl;rw[hl] at hlook;simp only[Bool.false_eq_true,if_false,Option.map_some,Option.getD_some,i7] at hlook;clear hM ih hb hm2 hA2 hl
   go_in
   go_wp2;go_ret;exact Df.intro HR.out ((ai _ _).alloc (ah _) _)
def Do(e a:Int):Value:=.iface 131 (.agg #[.int .i64 e,.int .i64 a])
def EM(e a:Int)(w:World)(en:Ending)(w':World):Prop:=en= .panicked [{ v:=Do e a,recovered:=false }]/\Below w.heap.size w w'
theorem GS(args:Array Value)(w:World):(callFunc 92 args).run Tryz.prog w= .ok (.enter 92 args) w:=eH Tryz.func92 (by kernel_rfl) (by kernel_rfl) args w
theorem In(e a:Int)(w:World):Calls Tryz.prog 92 #[.agg #[.int .i64 e,.int .i64 a]] w (EM e a w):=by
 go_in
 go_wp2;exact⟨rfl,rfl,(ai _ _).alloc (ah _) _⟩
theorem DY(e a:Int)(wb:Nat)(w:World)(h:w.cell? ⟨wb,4,none⟩=some C1):Calls Tryz.prog 134 #[.pointer (some ⟨wb,0,none⟩),.int .i64 e,.int .i64 a] w (EM e a w):=by
 have hcf:=GS;unfold C1 at h
 go_in
 go_wp2_with fail;refine(In e a _).mono ?_;rintro en w1 ⟨rfl,hb⟩;go_wp2;exact⟨rfl,rfl,hb⟩
mutual
def ag.cost:ag->Nat
 | .node _ s _ ks=>1+s.length / 8+cj ks
def cj:List ag->Nat
 |[]=>0
 |t::ts=>t.cost+cj ts
end
theorem mh{ks:List ag}{i:Nat}{t:ag}(h:ks[i]? =some t):cj (ks.take (i+1))=cj (ks.take i)+t.cost:=by
 induction ks generalizing i with
 |nil=>simp at h
 |cons u us ih=>
  cases i with
  |zero=>simp at h;subst h;simp[cj]
  |succ i=>have:=ih (i:=i) (by simpa using h);simp[cj,this];omega
theorem mi(ks:List ag)(i:Nat):cj (ks.take i)<=cj ks:=by
 induction ks generalizing i with
 |nil=>simp[cj]
 |cons u us ih=>
  cases i with
  |zero=>simp[cj]
  |succ i=>have:=ih i;simp[cj];omega
abbrev LL:Nat:=140737488355328
def cL(v c most:Nat):Prop:=(v<=most->v=c)/\(most<v->most<c)
def jS(c most:Nat)(w:World)(e:Ending)(w':World):Prop:=∃v:Nat,e= .returned (.int .i64 v)/\Below w.heap.size w w'/\1<=v/\v<=most+17592186044418/\cL v c most
theorem jS.intro{c most v:Nat}{w w':World}(hb:Below w.heap.size w w')(h1:1<=v)(h2:v<=most+17592186044418)(h3:cL v c most):jS c most w (.returned (.int .i64 v)) w':=⟨v,rfl,hb,h1,h2,h3⟩
def nD(m:Nat):Prop:=∀(t:ag) (k:Nat) (s:ByteArray) (x:Int) (A:Option Addr) (n c most:Nat) (w:World),t.sz<=m->cf w t k s x A n c->t.short LL->most<=1000000->
 Calls Tryz.prog 22 #[.agg #[.int .u8 k,.string s,.int .i64 x,.slice A n c],.int .i64 most] w (jS t.cost most w)
theorem Hx(m:Nat)(ih:Hid (nD m)):nD (m+1):=by
 intro t k s x A n c most w hsz hN hsh hm;obtain⟨ks,rfl,_,_,_,hK⟩:=hN;have hb0:Below w.heap.size w (w.alloc (.cells #[.int .u8 k,.string s,.int .i64 x,.slice A n c] 25)):=(ai _ _).alloc (ah _) _;have HB0:=aa hb0;have HK:=aa (hK.below hb0);have HBX:=aa (j7 (w:=w) (x:=.int .u8 k) (y:=.string s) (z:=.int .i64 x) (u:=.slice A n c) (T:=25));have HSZ:Hid (ao ks<=m):=(by show _<=_;simp only[ag.sz] at hsz;omega);have hs:s.size<=140737488355328:=(by simp only[ag.short,dt] at hsh;exact hsh.1);have HSH:Hid (ex LL ks):=(by simp only[ag.short] at hsh;exact hsh.2);have HC:Hid (ag.cost (.node k (bl s) x ks)=1+s.size / 8+cj ks):=(by show _=_;simp[ag.cost,dt]);have hnn:n<=9223372036854775807:=(by have h1:=hK.2.1;have h2:=hK.2.2.1;unfold maxLen at h2;omega);have HL:Hid (n=ks.length):=hK.1;clear hsz hb0 hK hsh
 go_in
 go_wp2_with fail;go_loopw [5,6] (fun cv i wr=>∃j v:Nat,j<=n/\i= .int .i64 j/\cv= .int .i64 v/\v<=most+17592186044418/\1<=v/\Hid (Below (w.alloc (.cells #[.int .u8 k,.string s,.int .i64 x,.slice A n c] 25)).heap.size (w.alloc (.cells #[.int .u8 k,.string s,.int .i64 x,.slice A n c] 25)) wr)/\Hid (cL v (1+s.size / 8+cj (ks.take j)) most)) (fun _ i _=>n - (intOf i).toNat);case atStart=>
  refine⟨0,1+s.size / 8,aE _,rfl,?_,by omega,by omega,ai _ _,?_⟩
  .go_num
  .show cL _ _ _;simp[cL,cj]
 case round=>
  obtain⟨j,v,hj,rfl,rfl,hv,hv1,HB,HI⟩:=hrel;obtain⟨b0,b1,b2,b3⟩:=HBX.out;have c0:=ac HB.out b0;have c1:=ac HB.out b1;have c2:=ac HB.out b2;have c3:=ac HB.out b3;clear b0 b1 b2 b3;by_cases hlt:j<n
  .by_cases hc:v<=most
   .obtain⟨b,o,t,rfl,ht,hat⟩:=(HK.out.below HB.out).get hlt;obtain⟨B1,d1,q0,q1,q2,q3,hnode⟩:=hat.cells;have HND:=aa hnode;have HSZT:Hid (t.sz<=m):=aJ (jL ht) HSZ.out;have HST:=aa (HSH.out.get ht);have HCS:=aa (mh ht);have hv':v=1+s.size / 8+cj (ks.take j):=HI.out.1 hc;have HV:=aa hv';clear ht hat hnode hv';go_wp2_with fail;rw[show((most:Int) - (v:Int))=((most - v:Nat):Int) by omega];refine(ih.out t _ _ _ _ _ _ (most - v) _ HSZT.out HND.out HST.out (by omega)).mono ?_;rintro e w3 ⟨z,rfl,hb3,hz1,hz2,hz3⟩;have HB3:=aa (HB.out.trans (hb3.mono HB.out.size));have HZ:=aa hz3;clear hb3 hz3;obtain⟨b0,b1,b2,b3⟩:=HBX.out;clear c0 c1 c2 c3;have c0:=ac HB3.out b0;have c1:=ac HB3.out b1;have c2:=ac HB3.out b2;have c3:=ac HB3.out b3;clear b0 b1 b2 b3;go_wp2;go_roundw;case rel=>refine⟨j+1,v+z,by omega,by go_num,by go_num,by omega,by omega,HB3,?_⟩;show cL _ _ _;have h1:=HZ.out;have h2:=HV.out;have h3:=HCS.out;unfold cL at h1 ⊢;rw[h3];omega
    case measure=>simp[intOf];omega
   .have HT:=aa (mi ks j);go_wp2_with fail;go_ret;refine jS.intro (HB0.out.trans (HB.out.mono HB0.out.size)) hv1 hv ?_;have h1:=HI.out;have h2:=HT.out;rw[HC.out];unfold cL at h1 ⊢;omega
  .go_wp2_with fail;go_ret;refine jS.intro (HB0.out.trans (HB.out.mono HB0.out.size)) hv1 hv ?_;have h1:=HI.out;rw[List.take_of_length_le (by have:=HL.out;omega)] at h1;rw[HC.out];exact h1
theorem qX:∀m,nD m
 |0=>by intro t k s x A n c most w hsz;obtain⟨k0,s0,x0,ks0⟩:=t;simp[ag.sz] at hsz
 |m+1=>Hx m (aa (qX m))
theorem oj(t:ag)(k:Nat)(s:ByteArray)(x:Int)(A:Option Addr)(n c most:Nat)(w:World)(hN:cf w t k s x A n c)(hsh:t.short LL)(hm:most<=1000000):Calls Tryz.prog 22 #[.agg #[.int .u8 k,.string s,.int .i64 x,.slice A n c],.int .i64 most] w (jS t.cost most w):=qX t.sz _ _ _ _ _ _ _ _ _ (ah _) hN hsh hm


mutual
theorem ag.sz_cost:∀t:ag,t.sz<=t.cost
 | .node _ _ _ ks=>by have:=m9 ks;simp only[ag.sz,ag.cost];omega
theorem m9:∀ts:List ag,ao ts<=cj ts
 |[]=>ah _
 |t::ts=>by have:=t.sz_cost;have:=m9 ts;simp only[ao,cj];omega
end
mutual
theorem ag.short_cost:∀(t:ag) (m L:Nat),t.cost<=m->8*m<=L->t.short L
 | .node _ s _ ks,m,L,h,hL=>by simp only[ag.cost] at h;refine⟨by omega,mX ks m L (by omega) hL⟩
theorem mX:∀(ts:List ag) (m L:Nat),cj ts<=m->8*m<=L->ex L ts
 |[],_,_,_,_=>trivial
 |t::ts,m,L,h,hL=>by simp only[cj] at h;exact⟨t.short_cost m L (by omega) hL,mX ts m L (by omega) hL⟩
end
structure aj.tiny (e:aj):Prop where
 path:e.path.length<=60
 texts:e.frm.length+e.to_.length<=1000
 olds:cj e.olds<=60
 news:cj e.news<=60
theorem fZ{e:aj}(h:e.tiny):ao e.olds<=60:=aJ (m9 _) h.olds
theorem fY{e:aj}(h:e.tiny):ao e.news<=60:=aJ (m9 _) h.news
theorem dC{e:aj}(h:e.tiny){L:Nat}(hL:480<=L):ex L e.olds:=mX _ 60 L h.olds hL
theorem dB{e:aj}(h:e.tiny){L:Nat}(hL:480<=L):ex L e.news:=mX _ 60 L h.news hL
theorem gz{e:aj}(h:e.tiny)(p:List Int)(i:Int)(hp:p.length=e.path.length):aj.tiny { e with path:=p,at_:=i }:=
 ⟨by show p.length<=60;rw[hp];exact h.path,h.texts,h.olds,h.news⟩
theorem ji{e:aj}(h:e.tiny):(bD e).tiny:=by
 unfold bD;obtain⟨h1,h2,h3,h4⟩:=h;split
 .exact⟨by decide,by decide,by decide,by decide⟩
 .split
  .exact⟨h1,by show e.to_.length+e.frm.length<=1000;omega,h3,h4⟩
  .exact⟨h1,by show e.to_.length+e.frm.length<=1000;omega,h4,h3⟩
mutual
theorem ag.names_len:∀t:ag,t.names.length<=t.sz
 | .node k s _ ks=>by have:=mv ks;simp only[ag.names,ag.sz,CD];split<;>simp<;>omega
theorem mv:∀ts:List ag,(bE ts).length<=ao ts
 |[]=>ah _
 |t::ts=>by have:=t.names_len;have:=mv ts;simp only[bE,ao,CD];omega
end
mutual
theorem ag.binds_len:∀t:ag,t.binds.length<=t.sz
 | .node k s _ ks=>by have:=nT ks;simp only[ag.binds,ag.sz,CD];split<;>simp<;>omega
theorem nT:∀ts:List ag,(cO ts).length<=ao ts
 |[]=>ah _
 |t::ts=>by have:=t.binds_len;have:=nT ts;simp only[cO,ao,CD];omega
end
theorem o9(a b:List ag):ao (a++b)=ao a+ao b:=by
 induction a with
 |nil=>simp[ao]
 |cons t ts ih=>simp[ao,ih];omega
theorem xi(a b:List ag):bE (a++b)=bE a++bE b:=by
 induction a with
 |nil=>simp[bE]
 |cons t ts ih=>simp[bE,ih]
theorem tT(a b:List ag):cO (a++b)=cO a++cO b:=by
 induction a with
 |nil=>simp[cO]
 |cons t ts ih=>simp[cO,ih]
theorem uf(a b:List ag):bP (a++b)=(bP a || bP b):=by
 induction a with
 |nil=>simp[bP]
 |cons t ts ih=>simp[bP,ih,Bool.or_assoc]
theorem Av{L:Nat}{a b:List ag}(ha:ex L a)(hb:ex L b):ex L (a++b):=by
 induction a with
 |nil=>exact hb
 |cons t ts ih=>exact⟨ha.1,ih ha.2⟩
theorem Tryz.infoStr:(Tryz.prog.info? 9).map (fun i=>(i.zero,i.size,i.bytes))=some (some (.string ByteArray.empty),1,16):=by kernel_rfl
def bj(ss:List ar):List Value:=ss.map fun s=>.string (sb s)
theorem sy(ss:List ar)(s:ar):bj (ss++[s])=bj ss++[.string (sb s)]:=by simp[bj]
theorem AK{ops:Array Oper}{o:Oper}{a:Act}{K:Act->World->Prop}{Q:Exit->Act->World->Prop}{E:Prop}(w:World)(hgd:o.guard=none)(s x:Operand)(ho:o.op= .call { callee:=.builtin .append,args:=#[s,x],argTypes:=#[69,69] })(base:Nat)(v:Value)(ss:List ar)(hs:a.eval s=v)(hown:w.ownsRow base 9 1 v ss.length (bj ss))(Bk c:Nat)(t:ar)(hx:a.eval x= .slice (some ⟨Bk,0,none⟩) 1 c)(hblk:w.heap[Bk]? =some (.cells #[.string (sb t)] 9 (0,0)))(hfew:ss.length<=2147483648)(hbase:base<=w.heap.size)(h:∀g cap w',w'.ownsRow base 9 1 (.slice (some ⟨g,0,none⟩) (ss.length+1) cap) (ss++[t]).length (bj (ss++[t]))->w.grownBy w' v.ownBlock->K (a.put o.dst (.slice (some ⟨g,0,none⟩) (ss.length+1) cap)) w'):if Region.wanted o (yielded ops a.tmps)=true then Oper.wp Tryz.prog o a w K Q else E:=by
 obtain⟨i0,hi,hz0,hz1,hz2⟩:=info_parts Tryz.infoStr;refine step_append_lies w hgd s x _ ho base 9 i0 _ 1 16 Tryz.underlying69 hi hz0 hz1 hz2 rfl (by omega) v ss.length (bj ss) hs hown ⟨Bk,0,none⟩ 1 c [.string (sb t)] hx rfl
  (fun j u hu=>World.news_of_block hblk j u (by simpa using hu)) (by simp[Value.oneCell']) (by omega) (by unfold maxLen;omega) (by omega) hbase _ rfl ?_
 intro g cap w' hown' hgr hat hlt;refine h g cap w' ?_ hgr;rw[sy,CD];exact hown'
structure eG (B b j:Nat) (w:World) (v:Value) (ss:List ar):Prop where
 cell:w.cell? ⟨b,j,none⟩=some v
 soft:w.frozen? ⟨b,j,none⟩=false
 own:w.ownsRow B 9 1 v ss.length (bj ss)
 lt:b<B
def fI(b:Nat)(v:Value)(w w':World):Prop:=w.heap.size<=w'.heap.size/\∀q,q<w.heap.size->q≠b->v.ownBlock≠some q->w'.heap[q]? =w.heap[q]?
theorem fI.refl(b:Nat)(v:Value)(w:World):fI b v w w:=⟨ah _,fun _ _ _ _=>rfl⟩
theorem fI.below{b:Nat}{v:Value}{w w1 w':World}(h:fI b v w1 w')(hb:Below w.heap.size w w1):fI b v w w':=
 ⟨aJ hb.size h.1,fun q h1 h2 h3=>(h.2 q (fJ h1 hb.size) h2 h3).trans (hb.block q h1)⟩
theorem xN(s:ByteArray)(w:World)(hs:s.size<=281474976710656):Calls Tryz.prog 103 #[.string s] w fun e w'=>e= .returned (.string s)/\Below w.heap.size w w':=by
 go_in
 go_wp2_with (go_at_call 140;refine(Tryz.stringslite_Clone _ _ hs).mono ?_;rintro e w1 ⟨rfl,hb⟩);go_ret;exact⟨rfl,hb⟩
theorem eG.ne{B b j:Nat}{w:World}{v:Value}{ss:List ar}(h:eG B b j w v ss):v.ownBlock≠some b:=by intro e;have h1:=(h.own.lt b e).1;have h2:=h.lt;omega
theorem eG.below{B b j:Nat}{w w':World}{v:Value}{ss:List ar}(h:eG B b j w v ss)(hb:Below w.heap.size w w'):eG B b j w' v ss:=by have hlt:=bK h.cell;exact⟨ac hb h.cell,by rw[<-h.soft];unfold World.frozen?;rw[hb.block b hlt],bM h.own hb (ah _),h.lt⟩
theorem kS{B b j:Nat}{w w1 w2:World}{v:Value}{ss:List ar}{o:Obj}(h:eG B b j w v ss)(hbel:Below w.heap.size w w1)(hgr:(w1.alloc o).grownBy w2 v.ownBlock):w2.heap[b]? =w.heap[b]? :=by have hlt:b<w.heap.size:=bK h.cell;have hsz:=hbel.size;rw[hgr.block b (by simp;omega) (Ne.symm h.ne),Below.heap_alloc _ _ _ (by omega),hbel.block b hlt]
theorem jw{w w':World}{b j:Nat}(h:w'.heap[b]? =w.heap[b]?):w'.cell? ⟨b,j,none⟩=w.cell? ⟨b,j,none⟩/\w'.frozen? ⟨b,j,none⟩=w.frozen? ⟨b,j,none⟩:=by unfold World.cell? World.frozen?;simp only[h];exact⟨trivial,trivial⟩
def tf(B b:Nat)(v:Value)(ss:List ar)(w:World)(e:Ending)(w':World):Prop:=e= .returned (.tuple #[])/\∃v',eG B b 0 w' v' ss/\fI b v w w'/\Below b w w'
theorem sA{B b:Nat}{w w1 w2:World}{v:Value}{ss:List ar}{o:Obj}{t:ar}{V:Value}(j:Nat)(h:eG B b j w v ss)(hbel:Below w.heap.size w w1)(hown:w2.ownsRow B 9 1 V (ss++[t]).length (bj (ss++[t])))(hgr:(w1.alloc o).grownBy w2 v.ownBlock):eG B b j (w2.setCell ⟨b,j,none⟩ V) V (ss++[t])/\fI b v w (w2.setCell ⟨b,j,none⟩ V)/\Below b w (w2.setCell ⟨b,j,none⟩ V):=by
 have hm:=kS h hbel hgr;obtain⟨e1,e2⟩:=jw (j:=j) hm;have hlt:b<w.heap.size:=bK h.cell;have hsz:=hbel.size;have hne:V.ownBlock≠some b:=by intro e;have h1:=(hown.lt b e).1;have h2:=h.lt;omega
 refine⟨⟨set_self (e1.trans h.cell),?_,re hown hne _,h.lt⟩,⟨?_,?_⟩,?_⟩
 .have hf:w2.frozen? ⟨b,j,none⟩=false:=e2.trans h.soft;rw[<-hf];simp[World.frozen?,World.setCell,Array.getElem?_modify];cases w2.heap[b]? with
  |none=>rfl
  |some o=>cases o<;>rfl
 .have h1:=hgr.size;simp at h1 ⊢;omega
 .intro q hq hqb hqv;rw[aY _ _ _ _ (fun e=>hqb e),hgr.block q (by simp;omega) (Ne.symm hqv),Below.heap_alloc _ _ _ (by omega),hbel.block q hq]
 .have hB1:Below b w w1:=hbel.mono (by omega);have hB2:Below b w (w1.alloc o):=hB1.alloc (by omega) o;have hB3:Below b w w2:=hB2.grown hgr (by simp;omega) (fun k hk=>by have h1:=(h.own.lt k hk).1;have h2:=h.lt;omega);exact hB3.setCell (p:=⟨b,j,none⟩) (ah _) V
def gT(k:Nat)(s:ByteArray)(ss:List ar):List ar:=if cG k then ss++[bl s] else ss
theorem yI(B b k:Nat)(s:ByteArray)(x:Int)(A:Option Addr)(n c:Nat)(ss:List ar)(v:Value)(w:World)(h:eG B b 0 w v ss)(hs:s.size<=281474976710656)(hfew:ss.length<=2147483648)(hB:B<=w.heap.size):Calls Tryz.prog 101 #[.agg #[.int .u8 k,.string s,.int .i64 x,.slice A n c],.pointer (some ⟨b,0,none⟩)] w (tf B b v (gT k s ss) w):=by
 have hb0:Below w.heap.size w (w.alloc (.cells #[.int .u8 k,.string s,.int .i64 x,.slice A n c] 25)):=(ai _ _).alloc (ah _) _;have HS:=aa h;have HB0:=aa hb0;have hlt:b<w.heap.size:=bK h.cell;clear hb0 h
 go_in
 go_wp2_with fail;refine(kH k _).mono ?_;rintro en w1 ⟨rfl,hb1⟩;have HB1:=aa (af HB0.out hb1);have hbox:w1.heap[w.heap.size]? =some (.cells #[.int .u8 k,.string s,.int .i64 x,.slice A n c] 25 (0,0)):=(hb1.block _ (by simp)).trans (heap_alloc_new _ _);have HBX:=aa hbox;have hw1:w.heap.size<w1.heap.size:=(by have:=hb1.size;simp at this;omega);clear hb1 hbox;cases hk:cG k with
 |false=>
  have HN:=aa hk;go_wp2_with fail
  go_end0
  have e:gT k s ss=ss:=(by unfold gT;rw[HN.out];rfl);rw[e];exact⟨rfl,v,HS.out.below HB1.out,(fI.refl _ _ _).below HB1.out,HB1.out.mono (by omega)⟩
 |true=>
  have HN:=aa hk;have c0:=(di HBX.out).c0;have c1:=(di HBX.out).c1;have c2:=(di HBX.out).c2;have c3:=(di HBX.out).c3;have hz0:w1.cell? ⟨b,0,none⟩=some v:=ac HB1.out HS.out.cell;go_wp2;go_region_law (first|(refine AK _ (by rfl) _ _ (by rfl) B v ss (by rfl) ((bM HS.out.own hbel (ah _)).alloc _) w3.heap.size 1 (bl s) (by rfl) (aQ (by simp)) (by omega) (by simp;omega) ?_;intro g cap w2 hown2 hgr2;have hv1:=(jw (j:=0) (kS HS.out hbel hgr2)).1.trans HS.out.cell;have hfz1:=(jw (j:=0) (kS HS.out hbel hgr2)).2.trans HS.out.soft)|(go_simp;go_at_call 103;refine(xN _ _ (by omega)).mono ?_;rintro e w3 ⟨rfl,hbel'⟩;have hbel:Below w.heap.size w w3:=af HB1.out (af (bS (ai _ _) 1) hbel');clear hbel';have hsz1:w.heap.size<=w3.heap.size:=hbel.size;have hz1:=(hbel.cell (p:=⟨b,0,none⟩) hlt).trans HS.out.cell;have hz2a:=fun o=>(World.cell?_alloc_lt w3 o ⟨b,0,none⟩ (by show b<_;omega)).trans hz1));all_goals
   go_wp2
   go_end0
   have e:gT k s ss=ss++[bl s]:=(by unfold gT;rw[HN.out];rfl);rw[e];exact⟨rfl,_,sA 0 HS.out hbel hown2 hgr2⟩
def Cs(w:World)(B wb fm M:Nat)(recs:List cz)(av:Value)(r:lb)(en:Ending)(w':World):Prop:=
 cg (fun k=>gp wb recs av k∨k=M) w w'/\match r with
  | .error (e,a)=>en= .panicked [{ v:=Do e a,recovered:=false }]
  | .ok (o,st')=>en= .returned (.tuple #[])/\∃recs' av',eP w' B wb fm recs' av' st'/\gm w' M (k6 (cn recs') o)/\k7 recs'.length o/\(∃l,cn recs'=cn recs++l)/\∀k,k<w.heap.size->gp wb recs' av' k->gp wb recs av k
theorem Fh:(Tryz.prog.info? 87).map (fun i=>(i.zero,i.size,i.bytes))=some (some (.pointer none),1,8):=by kernel_rfl
theorem G6{ads:List Nat}{s:ar}{own:bq}(h:eg own s=none):((k6 ads own).all fun p=>p.1 != s)=true:=by
 rw[List.all_eq_true];intro p hp;obtain⟨e,he,rfl⟩:=List.mem_map.1 hp;have:∀(m:bq),eg m s=none->∀e∈m,e.1≠s:=by
  intro m;induction m with
  |nil=>intro _ e he;cases he
  |cons x m ih=>
   intro h e he;obtain⟨y,i⟩:=x;unfold eg at h;split at h
   .cases h
   .rename_i h1;rcases List.mem_cons.1 he with rfl|he
    .exact h1
    .exact ih h e he
 simpa using this own h e he
theorem GD{w wf W4 W5 W6:World}{B wb fm M:Nat}{recs:List cz}{av:Value}{st:bo}{own:bq}{q:List Int}{s:ar}{gA:Option Addr}{gc:Nat}{v':Value}(h:eP w B wb fm recs av st)(hM:gm w M (k6 (cn recs) own))(hI:k7 recs.length own)(hb:Below w.heap.size w wf)(hr:wf.ownsRow w.heap.size 3 1 (.slice gA q.length gc) q.length (q.map (Value.int .i64)))(hm4:gm W4 M (k6 (cn recs) own++[(s,.pointer (some ⟨wf.heap.size,0,none⟩))]))(hg4:(wf.alloc (.cells #[.slice gA q.length gc,.string (sb s),.slice none 0 0,.int .i64 0] 89)).grownBy W4 (some M))(hown:W6.ownsRow B 87 1 v' (st.all.length+1) (st.all.map (i7 (cn recs))++[.pointer (some ⟨wf.heap.size,0,none⟩)]))(hway:jY av v' st.all.length 1 W5 W6)(h5:W5=W4.alloc (.cells #[.pointer (some ⟨wf.heap.size,0,none⟩)] 87)):cg (fun k=>gp wb recs av k∨k=M) w (W6.setCell ⟨wb,2,none⟩ v')/\∃recs' av',eP (W6.setCell ⟨wb,2,none⟩ v') B wb fm recs' av' ⟨st.bs++[(s,0)],st.ev++[(q,st.bs.length)],st.all++[st.bs.length],st.at_⟩/\gm (W6.setCell ⟨wb,2,none⟩ v') M (k6 (cn recs') (own++[(s,st.bs.length)]))/\k7 recs'.length (own++[(s,st.bs.length)])/\(∃l,cn recs'=cn recs++l)/\∀k,k<w.heap.size->gp wb recs' av' k->gp wb recs av k:=by
 have hwb:=(aK.1 h.box).1;have hMl:=hM.lt;obtain⟨es,clk,hMm,_⟩:=hM;have hMt:∀k,gp wb recs av k->k≠M:=fun k hk e=>by obtain⟨cs,T,fr,hh,_⟩:=h.types k hk;rw[e,hMm] at hh;simp at hh
 have hs:=hb.size;have hg:v'.ownBlock=av.ownBlock∨∃g,v'.ownBlock=some g/\w.heap.size<=g/\wf.heap.size<g:=by
  rcases hway with ⟨g,cap,e,_,e',_⟩|⟨cap,e,_⟩
  .subst e e';exact .inl rfl
  .subst e;refine .inr ⟨_,rfl,?_⟩;have:=hg4.size;simp at this;rw[h5];simp;omega
 have hgr:W5.grownBy W6 av.ownBlock∨W5.grownBy W6 none:=by
  rcases hway with ⟨g,cap,e,_,e',hh⟩|⟨cap,e,_,hh,_⟩
  .subst e;exact .inl hh
  .exact .inr hh
 have o1:cg (fun k=>k=M∨k=wb∨av.ownBlock=some k) w wf:=cg.of_below hb;have o2:=o1.alloc (.cells #[.slice gA q.length gc,.string (sb s),.slice none 0 0,.int .i64 0] 89);have o3:=o2.grown hg4 (fun k hk=>.inr (.inl (Option.some.inj hk).symm));have o4:=o3.alloc (.cells #[.pointer (some ⟨wf.heap.size,0,none⟩)] 87);rw[<-h5] at o4;have o5:cg (fun k=>k=M∨k=wb∨av.ownBlock=some k) w W6:=by
  rcases hgr with hh|hh
  .exact o4.grown hh (fun k hk=>.inr (.inr (.inr hk)))
  .exact o4.grown hh (fun k hk=>by cases hk)
 have o6:=o5.set (a:=⟨wb,2,none⟩) (.inr (.inr (.inl rfl))) v';have hwM:wb≠M:=hMt wb (.inl rfl);have hfM:wf.heap.size≠M:=(by omega);have hsz4:wf.heap.size+1<=W4.heap.size:=(by have:=hg4.size;simpa using this);have b1:wf.heap[wb]? =w.heap[wb]? :=hb.block wb hwb;have b2:W4.heap[wb]? =w.heap[wb]? :=(by rw[hg4.block wb (by simp;omega) (fun e=>hwM (Option.some.inj e)),heap_alloc_old _ _ (by omega),b1]);have b3:W5.heap[wb]? =w.heap[wb]? :=(by rw[h5,heap_alloc_old _ _ (by omega),b2]);have hs5:W5.heap.size=W4.heap.size+1:=(by rw[h5];simp);have hav:∀k,av.ownBlock=some k->k<w.heap.size/\k≠wb/\k≠M:=fun k hk=>by have h1:=(h.lows k (.inr (.inr hk))).2;refine⟨h1,fun e=>?_,hMt k (.inr (.inr hk))⟩;obtain⟨_,cs,fr,hh⟩:=k8 h.row hk;rw[e,h.box] at hh;simp at hh
 have CL:∀k,k<W5.heap.size->av.ownBlock≠some k->W6.heap[k]? =W5.heap[k]? :=fun k hk hne=>by
  rcases hgr with hh|hh
  .exact hh.block k hk (fun e=>hne e.symm)
  .exact hh.block k hk (fun e=>by cases e)
 have b4:W6.heap[wb]? =w.heap[wb]? :=(by rw[CL wb (by omega) (fun e=>(hav wb e).2.1 rfl),b3]);have hbox':(W6.setCell ⟨wb,2,none⟩ v').heap[wb]? =some (.cells #[.pointer none,.map (some fm),v',.int .i64 st.at_,C1] 139 (0,0)):=by rw[Cf (b4.trans h.box)];rfl
 have g4:W4.heap[wf.heap.size]? =some (.cells #[.slice gA q.length gc,.string (sb s),.slice none 0 0,.int .i64 0] 89 (0,0)):=by rw[hg4.block _ (by simp) (fun e=>hfM (Option.some.inj e)),heap_alloc_new]
 have g6:W6.heap[wf.heap.size]? =some (.cells #[.slice gA q.length gc,.string (sb s),.slice none 0 0,.int .i64 0] 89 (0,0)):=by rw[CL _ (by omega) (fun e=>by have:=(hav _ e).1;omega),h5,heap_alloc_old _ _ (by omega),g4]
 have hg':(W6.setCell ⟨wb,2,none⟩ v').heap[wf.heap.size]? =some (.cells #[.slice gA q.length gc,.string (sb s),.slice none 0 0,.int .i64 0] 89 (0,0)):=by rw[aY _ _ _ _ (show wf.heap.size≠wb by omega),g6]
 have hMw:∀k,k<wf.heap.size->k≠M->k≠wb->av.ownBlock≠some k->(W6.setCell ⟨wb,2,none⟩ v').heap[k]? =wf.heap[k]? :=fun k h1 h2 h3 h4=>by rw[aY _ _ _ _ (show k≠wb from h3),CL _ (by omega) h4,h5,heap_alloc_old _ _ (by omega),hg4.block _ (by simp;omega) (fun e=>h2 (Option.some.inj e)),heap_alloc_old _ _ h1]
 have hp':Cd (W6.setCell ⟨wb,2,none⟩ v') q (.slice gA q.length gc):=by
  have hr':(W6.setCell ⟨wb,2,none⟩ v').ownsRow w.heap.size 3 1 (.slice gA q.length gc) q.length (q.map (Value.int .i64)):=by obtain⟨r1,r2⟩:=hr;refine⟨r1,r2.imp id ?_⟩;rintro⟨g,cap,cur,e1,e2,e3,e4⟩;refine⟨g,cap,cur,e1,e2,?_,e4⟩;rw[hMw g (aK.1 e3).1 (by omega) (by omega) (fun e=>by have:=(hav _ e).1;omega),e3]
  obtain⟨A,c,e,hi⟩:=cc.own hr';injection e with e1 e2 e3;subst e1 e3;exact⟨_,_,rfl,hi,bT.own hr' rfl⟩
 have hrow':(W6.setCell ⟨wb,2,none⟩ v').ownsRow B 87 1 v' (st.all.length+1) (st.all.map (i7 (cn recs))++[.pointer (some ⟨wf.heap.size,0,none⟩)]):=by
  refine re hown (fun e=>?_) _;rcases hg with h1|⟨g,h1,h2,_⟩
  .rw[h1] at e;exact(hav _ e).2.1 rfl
  .rw[h1] at e;have e':g=wb:=Option.some.inj e;omega
 have hN:=h.bind o6 ⟨es,clk,hMm⟩ hbox' hg' (by omega) hp' hrow';refine⟨o6.mono (fun k _ hk=>?_),_,_,hN,?_,?_,⟨[wf.heap.size],by simp[cn]⟩,?_⟩
 .rcases hk with hk|hk|hk
  .exact .inr hk
  .exact .inl (.inl hk)
  .exact .inl (.inr (.inr hk))
 .have e:k6 (cn (recs++[⟨wf.heap.size,.slice gA q.length gc,.slice none 0 0,[]⟩])) (own++[(s,st.bs.length)])=k6 (cn recs) own++[(s,.pointer (some ⟨wf.heap.size,0,none⟩))]:=by
   unfold k6 cn;rw[List.map_append,List.map_append]
   congr 1
   .have:=EF (ads:=cn recs) (l:=[wf.heap.size]) (m:=own) (by unfold cn;rw[ny];exact hI);exact this
   .simp only[List.map_cons,List.map_nil];unfold i7 lc;rw[<-h.len,List.getD_eq_getElem?_getD,eK (by simp)];simp
  rw[e];obtain⟨es4,c4,k1,k2⟩:=hm4;refine⟨es4,c4,?_,k2⟩;have hM5:M<W5.heap.size:=(by omega);rw[aY _ _ _ _ (show M≠wb from fun e=>hwM e.symm),CL _ hM5 (fun e=>(hav _ e).2.2 rfl),h5,heap_alloc_old _ _ (by omega),k1]
 .intro p hp;rcases List.mem_append.1 hp with hp|hp
  .have:=hI p hp;simp;omega
  .obtain rfl:=List.mem_singleton.1 hp;rw[<-h.len];simp
 .intro k hk hS;rcases hS with hS|⟨r,hr,hS⟩|hS
  .exact .inl hS
  .rcases List.mem_append.1 hr with hr|hr
   .exact .inr (.inl ⟨r,hr,hS⟩)
   .obtain rfl:=List.mem_singleton.1 hr;rcases hS with hS|hS
    .simp at hS;omega
    .cases hS
  .rcases hg with h1|⟨g,h1,h2,_⟩
   .rw[h1] at hS;exact .inr (.inr hS)
   .rw[h1] at hS;have:=Option.some.inj hS;omega
theorem DA{w:World}{b:Nat}{T:TypeId}{x:Value}(h:w.heap[b]? =some (.cells #[x] T (0,0))):∀j u,[x][j]? =some u->w.cell? ((⟨b,0,none⟩:Addr).add j)=some u:=by
 intro j u hu;cases j with
 |zero=>simp at hu;subst hu;rw[CE,cell_of_row w b _ _ _ _ h];rfl
 |succ j=>simp at hu
theorem I2{w W4 W6:World}{wb B:Nat}{av v':Value}{n:Nat}{xs:List Value}{o:Obj}{x0 x1 x3 x4:Value}(ho:W4.ownsRow B 87 1 av n xs)(h4:W4.heap[wb]? =w.heap[wb]?)(hb:w.heap[wb]? =some (.cells #[x0,x1,av,x3,x4] 139 (0,0)))(h:jY av v' n 1 (W4.alloc o) W6):W6.cell? ⟨wb,2,none⟩=some av/\W6.frozen? ⟨wb,2,none⟩=false:=by
 have hbx:=h4.trans hb;have hl:wb<W4.heap.size:=(aK.1 hbx).1;have e:W6.heap[wb]? =W4.heap[wb]? :=by
  rcases h with ⟨g,cap,rfl,_,_,hh⟩|⟨cap,_,_,hh,_⟩
  .rw[hh.block wb (by simp;omega) (fun e=>?_),heap_alloc_old _ _ hl];have e':wb=g:=Option.some.inj e;obtain⟨_,cs,fr,h3⟩:=k8 ho (k:=g) rfl;rw[<-e',hbx] at h3;simp at h3
  .rw[hh.block wb (by simp;omega) (fun e=>by cases e),heap_alloc_old _ _ hl]
 refine⟨?_,?_⟩
 .rw[cell_of_row W6 wb 2 _ _ _ (e.trans hbx)];rfl
 .simp[World.frozen?,e.trans hbx]
theorem Eu(B wb fm M:Nat)(recs:List cz)(av:Value)(st:bo)(own:bq)(v:Value)(k:Nat)(s:ar)(x:Int)(A:Option Addr)(n c:Nat)(q:List Int)(pA:Option Addr)(pc a:Nat)(w:World)(h:eP w B wb fm recs av st)(hM:gm w M (k6 (cn recs) own))(hI:k7 recs.length own)(hp:cc w q pA q.length pc)(hpt:bT w q pA)(hB:B<=w.heap.size)(hq:q.length<=1000000)(hs:s.length<=281474976710656)(hfew:st.all.length<=1000000):Calls Tryz.prog 93 #[.pointer (some ⟨wb,0,none⟩),.agg #[v,.map (some M)],.agg #[.int .u8 k,.string (sb s),.int .i64 x,.slice A n c],.slice pA q.length pc,.int .i64 a] w (Cs w B wb fm M recs av (j5 own s q a st)):=by
 obtain⟨aA,aC,rfl,_,_⟩:=t9 h.row;have hb0:Below w.heap.size w ((w.alloc (.cells #[v,.map (some M)] 136)).alloc (.cells #[.int .u8 k,.string (sb s),.int .i64 x,.slice A n c] 25)):=((ai _ _).alloc (ah _) _).alloc (by simp) _;have hM':=hM.below hb0;have hlook:=hM'.look Tryz.underlying133 Tryz.underlying9 s (Dp _) false;rw[De] at hlook;clear hM';have hbox0:=(hb0.block _ (aK.1 h.box).1).trans h.box;have H:=aa h;have HM:=aa hM;have HI:=aa hI;have HP:=aa hp;have HPT:=aa hpt;have HB0:=aa hb0;have HBX:=aa hbox0;cases hl:eg own s with
 |some i=>
  have HR:Hid (j5 own s q a st= .error (110,a)):=(by show _=_;unfold j5;rw[hl]);rw[hl] at hlook;simp only[Bool.false_eq_true,if_false,Option.map_some,Option.getD_some,i7] at hlook;clear h hM hI hp hpt hb0 hbox0 hl
  go_in
  go_wp2_with fail;refine(DY 110 a wb _ (by rw[cell_of_row _ wb 4 _ _ _ HBX.out];rfl)).mono ?_;rintro en w1 ⟨rfl,hb1⟩;go_wp2;refine⟨rfl,cg.of_below (af HB0.out hb1),?_⟩;rw[HR.out];rfl
 |none=>
  have HR:Hid (j5 own s q a st= .ok (own++[(s,st.bs.length)],⟨st.bs++[(s,0)],st.ev++[(q,st.bs.length)],st.all++[st.bs.length],st.at_⟩)):=(by show _=_;unfold j5;rw[hl]);have HL:=aa hl;rw[hl] at hlook;simp only[Bool.false_eq_true,if_false,Option.map_none,Option.getD_none] at hlook;have hsz:(sb s).size<=281474976710656:=(by show(ByteArray.mk s.toArray).data.size<=_;simpa using hs);have hql:q.length<=17592186044416:=(by omega);clear h hM hI hp hpt hb0 hbox0 hl
  go_in
  go_upto_region 3 with fail;generalize hW:(w.alloc (.cells #[v,.map (some M)] 136)).alloc (.cells #[.int .u8 k,.string (sb s),.int .i64 x,.slice A n c] 25)=W at*;have cw:W.cell? ⟨w.heap.size,1,none⟩=some (.map (some M)):=by rw[cell_of_row W w.heap.size 1 #[v,.map (some M)] 136 (0,0) (by rw[<-hW];exact(heap_alloc_old _ _ (by simp)).trans (heap_alloc_new _ _))];rfl
  have cb:=(di (show W.heap[w.heap.size+1]? =_ by rw[<-hW];exact aQ (by simp))).c1;have hWs:W.heap.size=w.heap.size+2:=(by rw[<-hW];simp);go_region_held3 (fun w'=>w'.cell? ⟨w.heap.size+1,1,none⟩=some (.string (sb s)))
   (first|assumption|with_reducible exact ac hbb2 ‹_› |with_reducible exact ac hbb1 ‹_› |exact ac ((ai _ _).alloc (ah _) _) ‹_›)
   (first
    |(go_at_call 103;refine(xN (sb s) _ hsz).mono ?_;rintro en w2 ⟨rfl,hb2⟩;have hbb2:=hb2)
    |(go_at_call 75;refine(gV q pA _ pc _ (HP.out.below (af HB0.out bz)) hql).mono ?_;rintro en w1 ⟨gA,gc,rfl,ho1,hb1⟩;have hbb1:=hb1))
  .have hbf:Below W.heap.size W w2:=((ai _ _).drew).trans (hb1.mono (by simp)) |>.trans (hb2.mono (by have:=hb1.size;simpa using this));have hof:w2.ownsRow w.heap.size 3 1 (.slice gA q.length gc) q.length (q.map (Value.int .i64)):=dk (bM ho1 hb2 (ah _)) (by simp;omega);have HBF:=aa hbf;have HOF:=aa hof;have hbw:Below w.heap.size w w2:=af HB0.out hbf;have HBW:=aa hbw;have hsf:=hbf.size;have hwbl:wb<w.heap.size:=(aK.1 H.out.box).1;have hwfx:(w2.alloc (.cells #[.slice gA q.length gc,.string (sb s),.slice none 0 0,.int .i64 0] 89)).heap[wb]? =w.heap[wb]? :=(by rw[heap_alloc_old _ _ (by omega),hbw.block wb hwbl]);have cs0:(w2.alloc (.cells #[.slice gA q.length gc,.string (sb s),.slice none 0 0,.int .i64 0] 89)).cell? ⟨w.heap.size,1,none⟩=some (.map (some M)):=ac ((ai _ _).alloc (ah _) _) (ac hbf cw);have cs1:(w2.alloc (.cells #[.slice gA q.length gc,.string (sb s),.slice none 0 0,.int .i64 0] 89)).cell? ⟨w.heap.size+1,1,none⟩=some (.string (sb s)):=ac ((ai _ _).alloc (ah _) _) (ac hbf cb);obtain⟨W4,hins,hm4,hg4⟩:=(HM.out.below ((af HB0.out hbf).alloc (by omega) (.cells #[.slice gA q.length gc,.string (sb s),.slice none 0 0,.int .i64 0] 89))).insert Tryz.underlying133 Tryz.underlying9 (.pointer (some ⟨w2.heap.size,0,none⟩)) (G6 HL.out);have hMne:M≠wb:=by intro e;obtain⟨es,ck,hh,_⟩:=HM.out;rw[e,H.out.box] at hh;simp at hh
   have h4x:W4.heap[wb]? =w.heap[wb]? :=(by rw[hg4.block wb (by simp;omega) (fun e=>hMne (Option.some.inj e).symm)];exact hwfx);have h4s:w2.heap.size+1<=W4.heap.size:=(by have:=hg4.size;simpa using this);have ow4:W4.ownsRow B 87 1 (.slice aA st.all.length aC) st.all.length (st.all.map (i7 (cn recs))):=by refine Dd H.out.row (S:=fun k=>k=M) ((cg.of_below (hbw.alloc (by omega) _)).grown hg4 (fun k hk=>.inr (Option.some.inj hk).symm)) (fun k hk e=>?_);obtain⟨es,ck,hh,_⟩:=HM.out;obtain⟨_,cs,fr,hh'⟩:=k8 H.out.row hk;rw[e,hh] at hh';simp at hh'
   have d2:W4.cell? ⟨wb,2,none⟩=some (.slice aA st.all.length aC):=(by rw[cell_of_row W4 wb 2 _ _ _ (h4x.trans H.out.box)];rfl);have HM4:=aa hm4;have HG4:=aa hg4;have HO4:=aa ow4;have H4X:=aa h4x;clear hbf hof hbw hwfx hm4 hg4 ow4 h4x;obtain⟨i0,hi,hz0,hz1,hz2⟩:=info_parts Fh;have hBW:B<=W4.heap.size:=(by omega);have hT:∀(v':Value) (W6:World),jY (.slice aA st.all.length aC) v' st.all.length 1 (W4.alloc (.cells #[.pointer (some ⟨w2.heap.size,0,none⟩)] 87)) W6->W6.cell? ⟨wb,2,none⟩=some (.slice aA st.all.length aC)/\W6.frozen? ⟨wb,2,none⟩=false:=fun v' W6 hway=>I2 HO4.out H4X.out H.out.box hway;go_wp2_with (at_builtin;refine kW _ rfl _ _ 81 rfl B 87 i0 _ 1 8 Tryz.underlying81 hi hz0 hz1 hz2 rfl (by decide) (.slice aA st.all.length aC) st.all.length (st.all.map (i7 (cn recs))) rfl (bM HO4.out ((ai _ _).alloc (ah _) _) (ah _)) ⟨W4.heap.size,0,none⟩ 1 1 [.pointer (some ⟨w2.heap.size,0,none⟩)] rfl rfl (DA (heap_alloc_new _ _)) (by simp[Value.oneCell']) (by omega) (by unfold maxLen;omega) (by omega) (by simp;omega) ?_;intro v' W6 hown hway;obtain⟨vg,vc,hv',hgx⟩:=hway.form;subst hv';obtain⟨e2,e3⟩:=hT _ _ hway)
   go_end0
   show Cs w B wb fm M recs (.slice aA st.all.length aC) (j5 own s q a st) _ _;rw[HR.out];obtain⟨d1,d2⟩:=GD H.out HM.out HI.out HBW.out HOF.out HM4.out HG4.out hown hway rfl;exact⟨d1,rfl,d2⟩
end Go.Proofs.YtckbdkgcoilmpaaGreatDoor
