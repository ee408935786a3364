/- Part 4 of the proof. -/
import Derived.Test.YtfipahjodfminaaGreatDoorMfC
namespace Go.Proofs.YtfipahjodfminaaGreatDoor
open Go.RowKit
set_option linter.all false
set_option maxHeartbeats 40000000
set_option maxRecDepth 100000
def fS(w:World)(S:Nat->Bool):World:={ w with heap:=w.heap.mapIdx fun i o=>if S i then o else Obj.cells #[] 0 }
theorem fD{w:World}{S:Nat->Bool}{a:Addr}{v:Value}:(fS w S).cell? a=some v↔S a.block=true/\w.cell? a=some v:=by
 unfold World.cell? fS;simp only[Array.getElem?_mapIdx];cases h:w.heap[a.block]? with
 |none=>simp
 |some o=>
  by_cases hb:S a.block=true
  .simp only[Option.map_some,hb,if_true];constructor
   .intro e;exact⟨trivial,e⟩
   .rintro⟨_,e⟩;exact e
  .have hb':S a.block=false:=(by simpa using hb);simp only[Option.map_some,hb',Bool.false_eq_true,if_false,false_and,iff_false];intro e;split at e<;>simp at e
def cq(w:World)(S:Nat->Bool)(ks:List ag)(A:Option Addr)(n c:Nat):Prop:=ce (fS w S) ks A n c
theorem cq.keep{w w':World}{S S':Nat->Bool}{ks:List ag}{A:Option Addr}{n c:Nat}(h:cq w S ks A n c)(hk:∀a v,S a.block=true->w.cell? a=some v->S' a.block=true/\w'.cell? a=some v):cq w' S' ks A n c:=
 ce.keep (fun _ _ h=>by obtain⟨h1,h2⟩:=fD.1 h;exact fD.2 (hk _ _ h1 h2)) h
theorem bJ.only{w:World}{B:Nat}{S:Nat->Bool}{ks:List ag}{A:Option Addr}{n c:Nat}(h:bJ w B ks A n c)(hS:∀i,B<=i->i<w.heap.size->S i=true):cq w S ks A n c:=
 ce.keep (fun _ _ h=>by obtain⟨h1,h2⟩:=i8.1 h;exact fD.2 ⟨hS _ h1 (bK h2),h2⟩) h.1
def rest(B:Nat)(v:Value)(q:Nat):Bool:=decide (B<=q) && !(v.ownBlock == some q)
theorem lG{B:Nat}{v:Value}{q:Nat}:rest B v q=true↔B<=q/\v.ownBlock≠some q:=by simp[rest]
def iC(B M:Nat)(w:World)(ks:List ag)(j:Nat)(v:Value)(xs:List Value):Prop:=(∀q,v.ownBlock=some q->q<M)/\∃R,eu w (ks.take j) xs R/\(∀u∈R,hH w B 25 4 u)/\(aW R).Nodup/\(∀q∈aW R,q<M)/\(∀q,v.ownBlock=some q->q∉aW R)
def eZ(B M:Nat)(w:World)(ks:List ag)(j:Nat)(v:Value):Prop:=
 ∃xs,w.ownsRow B 25 4 v j xs/\xs.length=j*4/\(∀i t,i<j->ks[i]? =some t->∃A c,xs[i*4]? =some (.int .u8 t.kind)/\xs[i*4+1]? =some (.string (sb t.text))/\xs[i*4+2]? =some (.int .i64 t.num)/\xs[i*4+3]? =some (.slice A t.kids.length c)/\
  cq w (rest B v) t.kids A t.kids.length c/\t.kind<=255/\t.text.length<=maxLen/\tw t.num)/\iC B M w ks j v xs
theorem iC.below{B M:Nat}{w w':World}{ks:List ag}{j:Nat}{v:Value}{xs:List Value}(h:iC B M w ks j v xs)(hb:Below w.heap.size w w'):iC B M w' ks j v xs:=by
 obtain⟨h0,R,h1,h2,h3,h4,h5⟩:=h;have hk:∀q∈aW R,w'.heap[q]? =w.heap[q]? :=fun q hq=>by obtain⟨u,hu,e⟩:=eV hq;exact hb.block q ((h2 u hu).lt e).2
 exact⟨h0,R,h1.keep hk,fun u hu=>(h2 u hu).keep (ah _) fun q e=>hk q (iR hu e),h3,h4,h5⟩
theorem eZ.below{B M:Nat}{w w':World}{ks:List ag}{j:Nat}{v:Value}(h:eZ B M w ks j v)(hb:Below w.heap.size w w'):eZ B M w' ks j v:=by obtain⟨xs,h1,h2,h3,h4⟩:=h;refine⟨xs,bM h1 hb (ah _),h2,fun i t hi ht=>?_,h4.below hb⟩;obtain⟨A,c,t0,t1,t2,t3,t4,t5⟩:=h3 i t hi ht;exact⟨A,c,t0,t1,t2,t3,t4.keep fun a v hS hc=>⟨hS,ac hb hc⟩,t5⟩
theorem iC.start(B M:Nat)(w:World)(ks:List ag):iC B M w ks 0 (.slice none 0 0) []:=
 ⟨fun q e=>(by cases e),[],rfl,fun u h=>absurd h (by simp),List.nodup_nil,fun q h=>absurd h (by simp[aW]),fun q e=>(by cases e)⟩
theorem eZ.start(B M:Nat)(w:World)(ks:List ag):eZ B M w ks 0 (.slice none 0 0):=⟨[],World.ownsRow_nil w _ _ _,rfl,fun _ _ h=>absurd h (Nat.not_lt_zero _),iC.start B M w ks⟩
def eU(t:ag)(A:Option Addr)(c:Nat):List Value:=[.int .u8 t.kind,.string (sb t.text),.int .i64 t.num,.slice A t.kids.length c]
theorem eZ.push{B M M':Nat}{w w':World}{ks:List ag}{j:Nat}{v:Value}{xs:List Value}{t:ag}{A:Option Addr}{c g cap:Nat}(h:(∀i t,i<j->ks[i]? =some t->∃A c,xs[i*4]? =some (.int .u8 t.kind)/\xs[i*4+1]? =some (.string (sb t.text))/\xs[i*4+2]? =some (.int .i64 t.num)/\xs[i*4+3]? =some (.slice A t.kids.length c)/\cq w (rest B v) t.kids A t.kids.length c/\t.kind<=255/\t.text.length<=maxLen/\tw t.num)/\iC B M w ks j v xs)(hF:bJ w M' t.kids A t.kids.length c)(hM:M<=M')(hBM:B<=M')(hx:xs.length=j*4)(ht:ks[j]? =some t)(hk:cq w (rest B v) t.kids A t.kids.length c)(b1:t.kind<=255)(b2:t.text.length<=maxLen)(b3:tw t.num)(hown:w'.ownsRow B 25 4 (.slice (some ⟨g,0,none⟩) (j+1) cap) (j+1) (xs++eU t A c))(hgr:w.grownBy w' v.ownBlock)(hg:v.ownBlock=some g∨g=w.heap.size):eZ B w'.heap.size w' ks (j+1) (.slice (some ⟨g,0,none⟩) (j+1) cap):=by
 obtain⟨h,hR⟩:=h;have hkeep:∀{ks':List ag} {A:Option Addr} {n c:Nat},cq w (rest B v) ks' A n c->cq w' (rest B (.slice (some ⟨g,0,none⟩) (j+1) cap)) ks' A n c:=by
  intro ks' A n c h;refine h.keep fun a u hS hc=>?_;obtain⟨s1,s2⟩:=lG.1 hS;have hlt:=bK hc;refine⟨lG.2 ⟨s1,?_⟩,?_⟩
  .intro e;simp[Value.ownBlock] at e;rcases hg with e'|e'
   .exact s2 (by rw[e',e])
   .omega
  .exact hgr.cell hc (fun e=>s2 e.symm)
 refine⟨_,hown,by simp[eU,hx];omega,fun i t' hi ht'=>?_,?_⟩;rotate_left
 .obtain⟨h0,R,h1,h2,h3,h4,h5⟩:=hR;obtain⟨_,R3,f1⟩:=hF;have hgl:=(hown.lt g rfl).2;have hltR:∀q∈aW R,q<w.heap.size:=fun q hq=>by obtain⟨u,hu,e⟩:=eV hq;exact((h2 u hu).lt e).2
  have hkR:∀q∈aW R,w'.heap[q]? =w.heap[q]? :=fun q hq=>hgr.block q (hltR q hq) fun e=>h5 q e.symm hq;have hk3:∀q∈aW R3,w'.heap[q]? =w.heap[q]? :=fun q hq=>hgr.block q (f1.lt hq).2 fun e=>by have:=h0 q e.symm;have:=(f1.lt hq).1;omega
  have hjl:j<ks.length:=(gl.1 ht).1;have htk:ks.take (j+1)=ks.take j++[t]:=by obtain⟨hj,e⟩:=gl.1 ht;rw[List.take_succ_eq_append_getElem hj,e]
  refine⟨fun q e=>?_,R++R3,?_,?_,?_,?_,?_⟩
  .simp only[Value.ownBlock,Option.some.injEq] at e;omega
  .rw[htk];exact eu.snoc (h1.keep hkR) (by rw[hx,List.length_take];omega) (by simp[eU]) (f1.rows.keep hk3)
  .intro u hu;rcases List.mem_append.1 hu with hu|hu
   .exact(h2 u hu).keep (ah _) fun q e=>hkR q (iR hu e)
   .exact(f1.own u hu).keep hBM fun q e=>hk3 q (iR hu e)
  .exact iq h3 f1.nd (m:=M') (fun q hq=>fJ (h4 q hq) hM) fun q hq=>(f1.lt hq).1
  .intro q hq;rw[gg] at hq;have:=hgr.size;rcases List.mem_append.1 hq with hq|hq
   .have:=hltR q hq;omega
   .have:=(f1.lt hq).2;omega
  .intro q e hq;simp only[Value.ownBlock,Option.some.injEq] at e;subst e;rw[gg] at hq;rcases hg with hg|hg
   .rcases List.mem_append.1 hq with hq|hq
    .exact h5 _ hg hq
    .have:=h0 _ hg;have:=(f1.lt hq).1;omega
   .rcases List.mem_append.1 hq with hq|hq
    .have:=hltR _ hq;omega
    .have:=(f1.lt hq).2;omega
 by_cases hij:i=j
 .subst hij;rw[ht] at ht';injection ht' with ht';subst ht';refine⟨A,c,?_,?_,?_,?_,hkeep hk,b1,b2,b3⟩ <;>rw[eK (by omega)] <;>simp[hx,eU]
 .obtain⟨A',c',t0,t1,t2,t3,t4,t5⟩:=h i t' (by omega) ht';exact⟨A',c',by rw[cM (by omega)];exact t0,by rw[cM (by omega)];exact t1,by rw[cM (by omega)];exact t2,by rw[cM (by omega)];exact t3,hkeep t4,t5⟩
theorem eZ.done{B M:Nat}{w:World}{ks:List ag}{v:Value}(h:eZ B M w ks ks.length v):∃A c,v= .slice A ks.length c/\bJ w B ks A ks.length c:=by
 obtain⟨xs,h1,h2,h3,hR⟩:=h;obtain⟨A,c,rfl,k1,k2⟩:=t9 h1;refine⟨A,c,rfl,⟨rfl,k1,k2,?_⟩,?_⟩;rotate_left
 .obtain⟨r0,R,r1,r2,r3,r4,r5⟩:=hR;rw[List.take_length] at r1;by_cases h0:ks=[]
  .subst h0;exact⟨_,cZ.nil ⟨_,_,h1⟩⟩
  .obtain⟨g,cap,e,hg⟩:=h1.form (List.length_pos_iff.2 h0);injection e with e1 e2 e3;subst e1 e3;exact⟨_,cZ.mk' (eu.mem r1 fun p u hu=>by rw[Nat.zero_add];exact bH h1 p u hu) ⟨_,_,h1⟩ r2 r3 (r5 g rfl)⟩
 by_cases h0:ks=[]
 .exact .inl h0
 .right;obtain⟨g,cap,e,hg⟩:=h1.form (List.length_pos_iff.2 h0);injection e with e1 e2 e3;subst e1 e3;have hlt:=h1.lt g rfl;refine⟨g,0,rfl,bk.mk fun i t ht=>?_⟩;obtain⟨A2,c2,t0,t1,t2,t3,t4,t5,t6,t7⟩:=h3 i t (gl.1 ht).1 ht;have hc:∀p u,xs[p]? =some u->(cX w B).cell? ⟨g,p,none⟩=some u:=fun p u hu=>i8.2 ⟨hlt.1,bH h1 p u hu⟩;rw[Nat.zero_add];refine cJ.of (hc _ _ t0) (hc _ _ t1) (hc _ _ t2) (hc _ _ t3) ?_ t5 t6 t7;exact ce.keep (fun a u h=>by obtain⟨s1,s2⟩:=fD.1 h;exact i8.2 ⟨(lG.1 s1).1,s2⟩) t4
theorem qW(t:ag)(A:Option Addr)(c:Nat):∀u∈eU t A c,u.oneCell'=true:=by intro u hu;simp[eU] at hu;rcases hu with rfl|rfl|rfl|rfl<;>rfl
theorem pj{ops:Array Oper}{rest:List Oper}{o:Oper}{a:Act}{Q:Exit->Act->World->Prop}(w:World)(hgd:o.guard=none)(s x:Operand)(ho:o.op= .call { callee:=.builtin .append,args:=#[s,x],argTypes:=#[23,23] })(base:Nat)(v:Value)(j:Nat)(xs:List Value)(hs:a.eval s=v)(hown:w.ownsRow base 25 4 v j xs)(Bk c:Nat)(t:ag)(A:Option Addr)(k:Nat)(hx:a.eval x= .slice (some ⟨Bk,0,none⟩) 1 c)(hblk:w.heap[Bk]? =some (.cells (eU t A k).toArray 25 (0,0)))(hfew:j<=1000000)(hbase:base<=w.heap.size)(h:∀g cap w',w'.ownsRow base 25 4 (.slice (some ⟨g,0,none⟩) (j+1) cap) (j+1) (xs++eU t A k)->w.grownBy w' v.ownBlock->(v.ownBlock=some g∨g=w.heap.size)->wpList Tryz.prog ops Q rest (a.put o.dst (.slice (some ⟨g,0,none⟩) (j+1) cap)) w'):wpList Tryz.prog ops Q (o::rest) a w:=by
 obtain⟨i0,hi,hz0,hz1,hz2⟩:=info_parts Tryz.infoNode;exact wpList_append_lies w hgd s x _ ho base 25 i0 _ 4 56 Tryz.underlying23 hi hz0 hz1 hz2 rfl (by omega) v j xs hs hown ⟨Bk,0,none⟩ 1 c (eU t A k) hx rfl
  (fun j u hu=>World.news_of_block hblk j u (by simpa using hu)) (qW t A k) (by omega) (by unfold maxLen;omega) (by omega) hbase _ rfl fun g cap w' h1 h2 h3 _=>h g cap w' h1 h2 h3
def nl(ks:List ag)(n:Nat)(w:World)(e:Ending)(w':World):Prop:=∃A c,e= .returned (.slice A n c)/\bJ w' w.heap.size ks A n c/\Below w.heap.size w w'
theorem jE(ks:List ag)(A:Option Addr)(n c:Nat)(w:World)(hsz:ao ks<=1000000)(hK:ce w ks A n c):Calls Tryz.prog 54 #[.slice A n c] w (nl ks n w):=by
 have HK:=ab hK;have HSZ:=ab hsz;have HLN:Hid (n=ks.length):=hK.1;have hnb:n<=1000000:=(by have h1:=eA ks;have h3:=HLN.out;omega);clear hK hsz
 go_in
 go_wp2_with fail;go_loopw [3,10] (fun v i wr=>∃j:Nat,j<=n/\i= .int .i64 j/\Hid (Below w.heap.size w wr)/\Hid (eZ w.heap.size wr.heap.size wr ks j v)) (fun _ i _=>n - (intOf i).toNat);case atStart=>exact⟨0,aE _,rfl,ai _ _,eZ.start _ _ _ _⟩
 case round=>
  obtain⟨j,hj,rfl,HB,HI⟩:=hrel;by_cases hlt:j<n
  .obtain⟨b,o,t,rfl,ht,hat⟩:=(HK.out.below HB.out).get hlt;obtain⟨B1,d1,q0,q1,q2,q3,hnode⟩:=hat.cells;have HND:=ab hnode;have HT:=ab ht;have HST:Hid (t.sz<=1000000):=aJ (jL ht) HSZ.out;clear ht hat hnode;go_wp2_with fail;have hb1:Below wr.heap.size wr (wr.alloc (.cells #[.int .u8 t.kind,.string (sb t.text),.int .i64 t.num,.slice B1 t.kids.length d1] 25)):=(ai _ _).alloc (ah _) _;refine(Ew t _ _ _ _ _ _ _ HST.out (HND.out.below hb1)).mono ?_;rintro e w3 ⟨A3,k3,rfl,hf3,hb3⟩;have HB3:=ab (af hb1 hb3);have HF3:=ab hf3;clear hf3 hb3 hb1;have HBND:Hid (t.kind<=255/\t.text.length<=maxLen/\tw t.num):=by obtain⟨ks',e,h1,h2,h3,_⟩:=HND.out;exact⟨h1,h2,h3⟩
   have HK3:Hid (cq w3 (rest w.heap.size u3) t.kids A3 t.kids.length k3):=HF3.out.only fun i h1 h2=>by obtain⟨xs,ho,_,_⟩:=HI.out;simp at h1;have h3:=HB.out.size;refine lG.2 ⟨by omega,fun e=>?_⟩;have:=(ho.lt i e).2;omega
   have hb4:Below w3.heap.size w3 ((w3.alloc (.cells #[.int .u8 t.kind,.string (sb t.text),.int .i64 t.num,.slice A3 t.kids.length k3] 25)).alloc (.cells #[.int .u8 t.kind,.string (sb t.text),.int .i64 t.num,.slice A3 t.kids.length k3] 25)):=((ai _ _).alloc (ah _) _).alloc (by simp) _;have HO4:=ab ((HI.out.below HB3.out).below hb4);have HK4:Hid (cq ((w3.alloc (.cells #[.int .u8 t.kind,.string (sb t.text),.int .i64 t.num,.slice A3 t.kids.length k3] 25)).alloc (.cells #[.int .u8 t.kind,.string (sb t.text),.int .i64 t.num,.slice A3 t.kids.length k3] 25)) (rest w.heap.size u3) t.kids A3 t.kids.length k3):=HK3.out.keep fun a v hS hc=>⟨hS,ac hb4 hc⟩;have HF4:=ab (HF3.out.keep (ah _) fun q _ h=>hb4.block q h);have HB4:=ab (af HB.out (af HB3.out hb4));clear hb4;obtain⟨xs,hown,hxl,hat⟩:=HO4.out;have HOW:=ab hown;have HAT:=ab hat;clear hown hat;go_wp2_with (at_builtin;go_must (refine pj _ rfl _ _ rfl w.heap.size u3 j xs rfl HOW.out (w3.heap.size+1) 1 t A3 k3 rfl (heap_alloc_at (by simp)) (by omega) HB4.out.size ?_);intro g cap w5 ho5 hg5 hd5);have HN5:=ab (eZ.push HAT.out HF4.out (by simp) (by have:=HB.out.size;simp;omega) hxl HT.out HK4.out HBND.out.1 HBND.out.2.1 HBND.out.2.2 ho5 hg5 hd5);have HB5:=ab (Ee HOW.out hg5 (ah _) HB4.out.size);have HB6:=ab (HB4.out.trans HB5.out);clear ho5 hg5 hd5;go_wp2;go_roundw;case rel=>exact⟨j+1,by omega,by go_num,HB6,HN5⟩
   case measure=>simp[intOf];omega
  .have hjn:j=n:=(by omega);subst hjn;have HD:Hid (∃A c,u3= .slice A j c/\bJ wr w.heap.size ks A j c):=by have h:=HI.out;rw[HLN.out] at h ⊢;exact h.done
   obtain⟨A2,c2,rfl,hf⟩:=HD.out;have HF:=ab hf;clear hf HD;go_wp2_with fail;go_ret;exact⟨A2,c2,rfl,HF.out,HB.out⟩
structure a9 (r:Nat) (w w':World):Prop where
 os:w'.os=w.os
 tape:w'.tape=w.tape
 output:w'.output=w.output
 size:w.heap.size<=w'.heap.size
 block:∀k,k<w.heap.size->k≠r->w'.heap[k]? =w.heap[k]?
theorem a9.refl(r:Nat)(w:World):a9 r w w:=⟨rfl,rfl,rfl,ah _,fun _ _ _=>rfl⟩
theorem a9.trans{r:Nat}{a b c:World}(h:a9 r a b)(k:a9 r b c):a9 r a c:=⟨k.os.trans h.os,k.tape.trans h.tape,k.output.trans h.output,aJ h.size k.size,fun i hi hr=>(k.block i (fJ hi h.size) hr).trans (h.block i hi hr)⟩
theorem a9.below{r:Nat}{w w':World}(h:Below w.heap.size w w'):a9 r w w':=⟨h.os,h.tape,h.output,h.size,fun k hk _=>h.block k hk⟩
theorem a9.set{r j:Nat}{w:World}(v:Value):a9 r w (w.setCell ⟨r,j,none⟩ v):=⟨rfl,rfl,rfl,by simp,fun k _ hk=>aY _ _ _ _ hk⟩
theorem a9.cell{r:Nat}{w w':World}(h:a9 r w w'){a:Addr}{v:Value}(ha:a.block≠r)(hc:w.cell? a=some v):w'.cell? a=some v:=by rw[World.cell?_of_block (h.block _ (bK hc) ha)];exact hc
theorem a9.out{r:Nat}{w0 w w':World}(h:a9 r w w')(hb:Below w0.heap.size w0 w)(hr:w0.heap.size<=r):Below w0.heap.size w0 w':=⟨h.os.trans hb.os,h.tape.trans hb.tape,h.output.trans hb.output,aJ hb.size h.size,fun k hk=>(h.block k (fJ hk hb.size) (by omega)).trans (hb.block k hk)⟩
structure ca (B:Nat) (w:World) (r:Nat) (toks:List bi) (i o:Nat):Prop where
 row:∃g c,w.cell? ⟨r,0,none⟩=some (.slice (some ⟨g,0,none⟩) toks.length c)/\g≠r/\g<B/\toks.length<=c/\c<=maxLen/\∀j u,(r8 toks)[j]? =some u->w.cell? ⟨g,j,none⟩=some u
 c1:w.cell? ⟨r,1,none⟩=some (.int .i64 i)
 c2:w.cell? ⟨r,2,none⟩=some (.int .i64 o)
 c3:w.cell? ⟨r,3,none⟩=some (.int .i64 0)
 c4:w.cell? ⟨r,4,none⟩=some (.int .i64 0)
 fz:∀j,w.frozen? ⟨r,j,none⟩=false
 len:toks.length<=100000
 hi:i<toks.length
 ho:o<=1000
 rB:r<B
 wB:B<=w.heap.size
structure ii (toks:List bi):Prop where
 tx:∀t,t∈toks->t.text.length<=100000
 nx:∀i t,toks[i]? =some t->t.kind≠5->i+1<toks.length
theorem ca.own{B:Nat}{w w':World}{r i o:Nat}{toks:List bi}(h:ca B w r toks i o)(hb:Below B w w'):ca B w' r toks i o:=by
 obtain⟨⟨g,c,h0,hg,hgB,hc1,hc2,hr⟩,h1,h2,h3,h4,h5,h6,h7,h8,h9,h10⟩:=h;have hk:∀k j v,k<B->w.cell? ⟨k,j,none⟩=some v->w'.cell? ⟨k,j,none⟩=some v:=fun k j v hk hv=>by rw[World.cell?_of_block (hb.block k hk)];exact hv
 exact⟨⟨g,c,hk _ _ _ h9 h0,hg,hgB,hc1,hc2,fun j u hu=>hk _ _ _ hgB (hr j u hu)⟩,hk _ _ _ h9 h1,hk _ _ _ h9 h2,hk _ _ _ h9 h3,hk _ _ _ h9 h4,fun j=>(World.frozen?_of_block (hb.block r h9)).trans (h5 j),h6,h7,h8,h9,aJ h10 hb.size⟩
theorem ca.setAt{B:Nat}{w:World}{r i o:Nat}{toks:List bi}(h:ca B w r toks i o){i':Nat}(hi:i'<toks.length):ca B (w.setCell ⟨r,1,none⟩ (.int .i64 i')) r toks i' o:=by obtain⟨⟨g,c,h0,hg,hgB,hc1,hc2,hr⟩,h1,h2,h3,h4,h5,h6,h7,h8,h9,h10⟩:=h;exact⟨⟨g,c,am (by simp) h0,hg,hgB,hc1,hc2,fun j u hu=>am (by intro e;injection e with e;exact hg e) (hr j u hu)⟩,set_self h1,am (by simp) h2,am (by simp) h3,am (by simp) h4,fun j=>by rw[World.frozen?_setCell];exact h5 j,h6,hi,h8,h9,by simpa using h10⟩
theorem ca.setOp{B:Nat}{w:World}{r i o:Nat}{toks:List bi}(h:ca B w r toks i o){o':Nat}(ho:o'<=1000):ca B (w.setCell ⟨r,2,none⟩ (.int .i64 o')) r toks i o':=by obtain⟨⟨g,c,h0,hg,hgB,hc1,hc2,hr⟩,h1,h2,h3,h4,h5,h6,h7,h8,h9,h10⟩:=h;exact⟨⟨g,c,am (by simp) h0,hg,hgB,hc1,hc2,fun j u hu=>am (by intro e;injection e with e;exact hg e) (hr j u hu)⟩,am (by simp) h1,set_self h2,am (by simp) h3,am (by simp) h4,fun j=>by rw[World.frozen?_setCell];exact h5 j,h6,h7,ho,h9,by simpa using h10⟩
theorem Ot:∀(ts:List bi) (k:Nat) (t:bi),ts[k]? =some t->(r8 ts)[k*3]? =some (.int .u8 t.kind)/\(r8 ts)[k*3+1]? =some (.string (sb t.text))/\(r8 ts)[k*3+2]? =some (.int .i64 t.pos)
 |[],k,t,h=>by simp at h
 |a::ts,0,t,h=>by simp at h;subst h;exact⟨rfl,rfl,rfl⟩
 |a::ts,k+1,t,h=>by have e:r8 (a::ts)= .int .u8 a.kind:: .string (sb a.text) :: .int .i64 a.pos::r8 ts:=rfl;obtain⟨h1,h2,h3⟩:=Ot ts k t (by simpa using h);rw[e,show(k+1) *3=k*3+1+1+1 from by omega];exact⟨h1,h2,h3⟩
theorem ca.tok{B:Nat}{w:World}{r i o:Nat}{toks:List bi}(h:ca B w r toks i o):∃g c t,w.cell? ⟨r,0,none⟩=some (.slice (some ⟨g,0,none⟩) toks.length c)/\g≠r/\toks[i]? =some t/\w.cell? ⟨g,i*3,none⟩=some (.int .u8 t.kind)/\w.cell? ⟨g,i*3+1,none⟩=some (.string (sb t.text))/\w.cell? ⟨g,i*3+2,none⟩=some (.int .i64 t.pos):=by obtain⟨g,c,h0,hg,_,_,_,hr⟩:=h.row;have ht:toks[i]? =some (toks[i]'h.hi):=br h.hi;obtain⟨h1,h2,h3⟩:=Ot toks i _ ht;exact⟨g,c,_,h0,hg,ht,hr _ _ h1,hr _ _ h2,hr _ _ h3⟩
theorem tq(a:ar):bl (sb a)=a:=by simp[bl,sb]
def th(b:Bool)(w:World)(e:Ending)(w':World):Prop:=e= .returned (.bool b)/\Below w.heap.size w w'
theorem PF{toks:List bi}{i:Nat}{t:bi}{s:ar}(h:toks[i]? =some t):a8 toks i s=((t.kind == 2 || t.kind == 4) && t.text == s):=by unfold a8;rw[h]
theorem fh(B:Nat)(toks:List bi)(r i o:Nat)(s:ByteArray)(w:World)(h:ca B w r toks i o):Calls Tryz.prog 150 #[.pointer (some ⟨r,0,none⟩),.string s] w (th (a8 toks i (bl s)) w):=by
 obtain⟨g,c,t,h0,hg,ht,t0,t1,t2⟩:=h.tok;have h1:=h.c1;have h3:=h.c3;have hi:=h.hi;have hlen:=h.len;have HT:=ab (PF (s:=bl s) ht);have hgs:=bK t0;have hrs:=bK h1;clear h ht
 go_in
 have HB:Hid (Below w.heap.size w ((w.alloc (.cells #[.int .u8 t.kind,.string (sb t.text),.int .i64 t.pos] 115)).drew)):=Below.drew ((ai _ _).alloc (ah _) _);obtain⟨b2,e2⟩:∃b,((t.kind:Int) == 2)=b:=⟨_,rfl⟩;obtain⟨b4,e4⟩:∃b,((t.kind:Int) == 4)=b:=⟨_,rfl⟩;obtain⟨bt,et⟩:∃b,(t.text == s.toList)=b:=⟨_,rfl⟩;have HV:Hid (a8 toks i (bl s)=((b2 || b4) && bt)):=by
  show _=_;rw[HT.out,<-e2,<-e4,<-et,bG]
  congr 1
  rw[Bool.eq_iff_iff];simp only[Bool.or_eq_true,beq_iff_eq];omega
 cases b2
 .cases b4
  .go_upto_region 1 with fail
   go_region
   all_goals (go_wp2;go_ret;exact⟨by rw[HV.out];rfl,HB.out⟩)
  .cases bt
   all_goals
    go_upto_region 1 with fail
    go_region
    all_goals (go_wp2;go_ret;exact⟨by rw[HV.out];rfl,HB.out⟩)
 .cases bt
  all_goals
   go_upto_region 1 with fail
   go_region
   all_goals (go_wp2;go_ret;exact⟨by rw[HV.out];rfl,HB.out⟩)
def kA(i j z:Int):Int:=if z=i then j else jd j (cF i z)
theorem xc(p l:List Int)(i j:Int):eT p l i j=CB p l (kA i j):=rfl
theorem yG(z i j:Int)(b1 b2:Nat)(w:World)(hc1:w.cell? ⟨b1,0,none⟩=some (.int .i64 i))(hc2:w.cell? ⟨b2,0,none⟩=some (.int .i64 j))(h1:0<=z)(h2:z<=2147483647):Calls Tryz.prog 133 #[.int .i64 z,.pointer (some ⟨b1,0,none⟩),.pointer (some ⟨b2,0,none⟩)] w (lg (kA i j z) w):=by
 by_cases h:z=i
 .subst h;have HU:Hid (kA z j z=j):=if_pos rfl
  go_in
  go_wp2;go_ret;exact lg.intro HU.out (ai _ _)
 .have HU:Hid (kA i j z=jd j (cF i z)):=if_neg h;have hlt1:=bK hc1;have hlt2:=bK hc2;have hd1: -1<=cF i z:=by unfold cF;split<;>omega
  have hd2:cF i z<=2147483648:=by unfold cF;split<;>omega
  simp only at hlt1 hlt2
  go_in
  go_wp2
  go_region_with (first|(go_at_call 131;refine(rr _ _).mono ?_;rintro e w' ⟨rfl,rfl⟩)|(go_at_call 132;refine(mD _ _).mono ?_;rintro e w' ⟨rfl,rfl⟩)|(go_at_call 188;refine(FE z i _ _ (by go_simp) h1 (by omega)).mono ?_;rintro e w' ⟨rfl,rfl⟩)|(go_at_call 187;refine(FK (cF i z) j _ _ (by go_simp) hd1 hd2).mono ?_;rintro e w' ⟨rfl,rfl⟩))
  all_goals
   go_wp2;go_ret;exact lg.intro HU.out (((ai _ _).alloc (ah _) _).alloc (by simp) _).drew
def dE(zs:List Int):Prop:=∀z∈zs,0<=z/\z<=2147483647
theorem dE.at_{zs:List Int}(h:dE zs){i:Nat}{z:Int}(hz:zs[i]? =some z):0<=z/\z<=2147483647:=h z (List.mem_of_getElem? hz)
theorem pf(p l:List Int){n m:Nat}(h1:n=p.length)(h2:m=l.length)(h3:n<=17592186044416)(h4:m<=17592186044416):fX p l<=17592186044416:=by unfold fX;split<;>omega
theorem Ig(xs ys:List Int)(i:Int)(A B:Option Addr)(n c m d:Nat)(w:World)(hx:cc w xs A n c)(hy:cc w ys B m d)(hn:n<=17592186044416)(hm:m<=17592186044416)(hf:dE xs):Calls Tryz.prog 72 #[.slice A n c,.slice B m d,.int .i64 i] w (dL (fO xs ys i) w):=by
 have HX:=ab hx;have HY:=ab hy;have HF:=ab hf;have HT:=ab (pf xs ys hx.1 hy.1 hn hm);clear hx hy hf
 go_in
 go_wp2_with fail;refine(lC xs ys _ _ _ _ _ _ _ HX.out HY.out).mono ?_;rintro e w1 ⟨rfl,hb⟩;have HB:=ab hb;clear hb;go_wp2_with fail;refine(rr _ _).mono ?_;rintro e w' ⟨rfl,rfl⟩;have HB1:Hid (Below w.heap.size w (w1.alloc (.cells #[.int .i64 i] 3))):=HB.out.alloc HB.out.size _;go_wp2_with fail;refine(oJ xs A n c (fX xs ys) 187 #[.pointer (some ⟨w1.heap.size,0,none⟩)] (jd i) _ (HX.out.below HB1.out) hn HT.out uL ?_).mono ?_
 .intro z hz w2 hb2;have hz':=HF.out.at_ hz;refine(FK z i w1.heap.size w2 ?_ (by omega) (by omega)).mono ?_
  .rw[hb2.cell (by simp)];simp[World.cell?_alloc_new]
  .rintro e w3 ⟨rfl,rfl⟩;exact⟨rfl,ai _ _⟩
 .rintro e w3 ⟨A3,c3,rfl,ho,hb3⟩;have HO:=ab ho;have HB3:=ab hb3;clear ho hb3;go_wp2;go_ret;exact dL.intro (oL xs ys (jd i)) rfl (dk HO.out HB1.out.size) (HB1.out.trans (HB3.out.mono HB1.out.size))
def bL(o:Option (List Int))(w:World)(e:Ending)(w':World):Prop:=
 match o with
 |none=>∃A n c,e= .returned (.tuple #[.slice A n c,.bool false])/\Below w.heap.size w w'
 |some zs=>∃A c,e= .returned (.tuple #[.slice A zs.length c,.bool true])/\w'.ownsRow w.heap.size 3 1 (.slice A zs.length c) zs.length (zs.map (Value.int .i64))/\Below w.heap.size w w'
theorem bL.no{o:Option (List Int)}{w w':World}{A:Option Addr}{n c:Nat}(h:o=none)(hb:Below w.heap.size w w'):bL o w (.returned (.tuple #[.slice A n c,.bool false])) w':=by subst h;exact⟨A,n,c,rfl,hb⟩
theorem bL.yes{o:Option (List Int)}{zs:List Int}{w w':World}{A:Option Addr}{n c:Nat}(h:o=some zs)(hn:n=zs.length)(ho:w'.ownsRow w.heap.size 3 1 (.slice A n c) n (zs.map (Value.int .i64)))(hb:Below w.heap.size w w'):bL o w (.returned (.tuple #[.slice A n c,.bool true])) w':=by subst h hn;exact⟨A,c,rfl,ho,hb⟩
theorem vm{p l:List Int}{i z:Int}(hl:l.length<p.length)(hz:p[l.length]? =some z):fN p l i=(bu p l && z == i):=by have hz':p[l.length]=z:=(by rw[br hl] at hz;injection hz);simp[fN,hl,hz']
theorem rh(xs ys:List Int)(i:Int)(A B:Option Addr)(n c m d:Nat)(w:World)(hx:cc w xs A n c)(hy:cc w ys B m d)(hn:n<=17592186044416)(hm:m<=17592186044416)(hf:dE xs):Calls Tryz.prog 74 #[.slice A n c,.slice B m d,.int .i64 i] w (bL (dR xs ys i) w):=by
 have HX:=ab hx;have HY:=ab hy;have HF:=ab hf;have HT:=ab (pf xs ys hx.1 hy.1 hn hm);have HN:Hid (n=xs.length/\m=ys.length):=⟨hx.1,hy.1⟩;clear hx hy hf;have tail:∀(w0:World) (q:Nat),w0=w.drewN q->fN xs ys i=false->∀w1,Below w0.heap.size w0 w1->∀w2,w2=w1.alloc (.cells #[.int .i64 i] 3)->
  Calls Tryz.prog 130 #[.agg #[.slice A n c,.int .i64 (fX xs ys:Nat)],.func (.func 188) #[] #[.pointer (some ⟨w1.heap.size,0,none⟩)]] w2
   fun e w3=>∃A3 c3,e= .returned (.slice A3 (fo xs (fX xs ys) (cF i)).length c3)/\bL (dR xs ys i) w (.returned (.tuple #[.slice A3 (fo xs (fX xs ys) (cF i)).length c3,.bool true])) w3:=by
  rintro w0 q rfl hg w1 hb w2 rfl;have hb0:Below w.heap.size w w1:=(bS (ai _ _) q).trans hb;have hb1:Below w.heap.size w (w1.alloc (.cells #[.int .i64 i] 3)):=hb0.alloc hb0.size _;refine(oJ xs A n c (fX xs ys) 188 #[.pointer (some ⟨w1.heap.size,0,none⟩)] (cF i) _ (HX.out.below hb1) hn HT.out GM ?_).mono ?_
  .intro z hz w2 hb2;have hz':=HF.out.at_ hz;refine(FE z i w1.heap.size w2 ?_ (by omega) (by omega)).mono ?_
   .rw[hb2.cell (by simp)];simp[World.cell?_alloc_new]
   .rintro e w3 ⟨rfl,rfl⟩;exact⟨rfl,ai _ _⟩
  .rintro e w3 ⟨A3,c3,rfl,ho,hb3⟩;refine⟨A3,c3,rfl,bL.yes ?_ rfl (dk ho hb1.size) (hb1.trans (hb3.mono hb1.size))⟩;unfold dR;rw[hg,oL];rfl
 have HTL:=ab tail;clear tail;by_cases hl:m<n
 .obtain⟨b,o,z,rfl,hz,hc⟩:=HX.out.get hl;have HZ:=ab hz;have HG:Hid (fN xs ys i=(bu xs ys && z == i)):=by obtain⟨e1,e2⟩:=HN.out;exact vm (by omega) (by rw[<-e2];exact hz)
  clear hz;cases hu:bu xs ys with
  |true=>
   have HU:=ab hu;clear hu;by_cases hi:z=i
   .subst hi;have HD:Hid (dR xs ys z=none):=by show _=_;unfold dR;rw[HG.out,HU.out];simp
    go_in
    go_wp2_with fail;refine(jG xs ys _ _ _ _ _ _ _ HX.out HY.out).mono ?_;rintro e w1 ⟨rfl,q,rfl⟩;rw[HU.out];go_wp2_with fail
    go_ret2
    exact bL.no HD.out (bS (ai _ _) q)
   .have HGf:Hid (fN xs ys i=false):=by show _=_;rw[HG.out];simp[hi]
    go_in
    go_wp2_with fail;refine(jG xs ys _ _ _ _ _ _ _ HX.out HY.out).mono ?_;rintro e w1 ⟨rfl,q,rfl⟩;rw[HU.out];go_wp2_with fail;refine(lC xs ys _ _ _ _ _ _ _ (HX.out.drewN q) (HY.out.drewN q)).mono ?_;rintro e w1 ⟨rfl,hb⟩;have HB:=ab hb;clear hb;go_wp2_with fail;refine(mD _ _).mono ?_;rintro e w' ⟨rfl,rfl⟩;go_wp2_with fail;refine(HTL.out _ q rfl HGf.out w1 HB.out _ rfl).mono ?_;rintro e w3 ⟨A3,c3,rfl,hp⟩;have HP:=ab hp;clear hp;go_wp2_with fail
    go_ret2
    exact HP.out
  |false=>
   have HU:=ab hu;have HGf:Hid (fN xs ys i=false):=(by show _=_;rw[HG.out,hu];rfl);clear hu
   go_in
   go_wp2_with fail;refine(jG xs ys _ _ _ _ _ _ _ HX.out HY.out).mono ?_;rintro e w1 ⟨rfl,q,rfl⟩;rw[HU.out];go_wp2_with fail;refine(lC xs ys _ _ _ _ _ _ _ (HX.out.drewN q) (HY.out.drewN q)).mono ?_;rintro e w1 ⟨rfl,hb⟩;have HB:=ab hb;clear hb;go_wp2_with fail;refine(mD _ _).mono ?_;rintro e w' ⟨rfl,rfl⟩;go_wp2_with fail;refine(HTL.out _ q rfl HGf.out w1 HB.out _ rfl).mono ?_;rintro e w3 ⟨A3,c3,rfl,hp⟩;have HP:=ab hp;clear hp;go_wp2_with fail
   go_ret2
   exact HP.out
 .have HGf:Hid (fN xs ys i=false):=by show _=_;obtain⟨e1,e2⟩:=HN.out;simp[fN];omega
  go_in
  go_wp2_with fail;refine(lC xs ys _ _ _ _ _ _ _ HX.out HY.out).mono ?_;rintro e w1 ⟨rfl,hb⟩;have HB:=ab hb;clear hb;go_wp2_with fail;refine(mD _ _).mono ?_;rintro e w' ⟨rfl,rfl⟩;go_wp2_with fail;refine(HTL.out _ 0 rfl HGf.out w1 HB.out _ rfl).mono ?_;rintro e w3 ⟨A3,c3,rfl,hp⟩;have HP:=ab hp;clear hp;go_wp2_with fail
  go_ret2
  exact HP.out
theorem yF(xs ys:List Int)(i j:Int)(A B:Option Addr)(n c m d:Nat)(w:World)(hx:cc w xs A n c)(hy:cc w ys B m d)(hn:n<=17592186044416)(hm:m<=17592186044416)(hf:dE xs):Calls Tryz.prog 78 #[.slice A n c,.slice B m d,.int .i64 i,.int .i64 j] w (dL (eT xs ys i j) w):=by
 have hb0:Below w.heap.size w ((w.alloc (.cells #[.int .i64 i] 3)).alloc (.cells #[.int .i64 j] 3)):=((ai _ _).alloc (ah _) _).alloc (by simp) _;have HX0:=ab hx;have HX:=ab (hx.below hb0);have HY:=ab (hy.below hb0);have HF:=ab hf;have HT:=ab (pf xs ys hx.1 hy.1 hn hm);have HB0:=ab hb0;have hmf:=lH;clear hx hy hf hb0
 go_in
 go_wp2_with fail;refine(lC xs ys _ _ _ _ _ _ _ HX.out HY.out).mono ?_;rintro e w1 ⟨rfl,hb⟩;have HB1:Hid (Below w.heap.size w w1):=HB0.out.trans (hb.mono HB0.out.size);have HS1:Hid (w.heap.size+2<=w1.heap.size):=(by show _<=_;have:=hb.size;simp at this;omega);have HC1:Hid (w1.cell? ⟨w.heap.size,0,none⟩=some (.int .i64 i)):=by show _=_;rw[hb.cell (by simp<;>omega)];go_simp
 have HC2:Hid (w1.cell? ⟨w.heap.size+1,0,none⟩=some (.int .i64 j)):=by show _=_;rw[hb.cell (by simp<;>omega)];go_simp
 clear hb;go_wp2_with fail;refine(oJ xs A n c (fX xs ys) 133 #[.pointer (some ⟨w.heap.size,0,none⟩),.pointer (some ⟨w.heap.size+1,0,none⟩)] (kA i j) _ (cc.below HB1.out HX0.out) hn HT.out uD ?_).mono ?_
 .intro z hz w2 hb2;have hz':=HF.out.at_ hz;refine(yG z i j w.heap.size (w.heap.size+1) w2 ?_ ?_ (by omega) (by omega))
  .rw[hb2.cell (by have:=HS1.out;simp;omega)];exact HC1.out
  .rw[hb2.cell (by have:=HS1.out;simp;omega)];exact HC2.out
 .rintro e w3 ⟨A3,c3,rfl,ho,hb3⟩;have HO:=ab ho;have HB3:=ab hb3;clear ho hb3;go_wp2;go_ret;exact dL.intro (by rw[xc];exact oL xs ys (kA i j)) rfl (dk HO.out HB1.out.size) (HB1.out.trans (HB3.out.mono HB1.out.size))




theorem OU{X W:World}(h:Below X.heap.size X W)(o:Obj):Below X.heap.size X (W.alloc o):=h.alloc h.size o
abbrev Z4:Array Value:=#[.int .u8 0,.string ⟨#[]⟩,.int .i64 0,.slice none 0 0]
theorem kT{ks:List ag}{i:Nat}{t:ag}(h:ks[i]? =some t):t.sz<=ao ks:=by
 induction ks generalizing i with
 |nil=>simp at h
 |cons u us ih=>
  cases i with
  |zero=>simp at h;subst h;simp[ao]
  |succ i=>have:=ih (i:=i) (by simpa using h);simp[ao];omega
theorem ko{w:World}{x y z u:Value}{T:TypeId}:(w.alloc (.cells #[x,y,z,u] T)).cell? ⟨w.heap.size,0,none⟩=some x/\(w.alloc (.cells #[x,y,z,u] T)).cell? ⟨w.heap.size,1,none⟩=some y/\(w.alloc (.cells #[x,y,z,u] T)).cell? ⟨w.heap.size,2,none⟩=some z/\(w.alloc (.cells #[x,y,z,u] T)).cell? ⟨w.heap.size,3,none⟩=some u:=by have hc:=fun j=>cell_of_row _ w.heap.size j _ T (0,0) (heap_alloc_new w (.cells #[x,y,z,u] T));exact⟨by rw[hc];rfl,by rw[hc];rfl,by rw[hc];rfl,by rw[hc];rfl⟩


theorem PG{toks:List bi}{i:Nat}{s:ar}(h:a8 toks i s=true):∃t,toks[i]? =some t/\(t.kind=2∨t.kind=4)/\t.text=s:=by
 unfold a8 at h;cases ht:toks[i]? with
 |none=>rw[ht] at h;simp at h
 |some t=>rw[ht] at h;simp at h;exact⟨t,rfl,h.1,h.2⟩
theorem ii.next{toks:List bi}(h:ii toks){i:Nat}{s:ar}(hs:a8 toks i s=true):i+1<toks.length:=by obtain⟨t,h1,h2,_⟩:=PG hs;exact h.nx i t h1 (by omega)
def LG(B r:Nat)(toks:List bi)(i o:Nat)(w:World)(e:Ending)(w':World):Prop:=e= .returned (.tuple #[])/\a9 r w w'/\ca B w' r toks i o
theorem a9.setOwn{r j:Nat}{w w':World}(h:a9 r w w')(v:Value):a9 r w (w'.setCell ⟨r,j,none⟩ v):=h.trans (a9.set v)
theorem Km(B:Nat)(toks:List bi)(r i o:Nat)(s:ByteArray)(w:World)(h:ca B w r toks i o)(hF:ii toks)(hs:a8 toks i (bl s)=true):Calls Tryz.prog 147 #[.pointer (some ⟨r,0,none⟩),.string s] w (LG B r toks (i+1) o w):=by
 have HS:=ab h;have HT:=ab hs;have HN:Hid (i+1<toks.length):=hF.next hs;clear h hs
 go_in
 go_wp2_with fail;refine(fh B toks r i o s _ HS.out).mono ?_;rintro e w1 ⟨rfl,hb⟩;rw[HT.out];have HS1:=ab (HS.out.own (hb.mono HS.out.wB));have HR1:=ab (a9.below (r:=r) hb);clear hb;have h1:=HS1.out.c1;have hf:=HS1.out.fz 1;have hlen:=HS1.out.len;have hn:=HN.out;go_wp2;exact bodyPost_end (v:=.tuple #[]) (by simp[results,Tryz.results147,go_sem]) rfl ⟨rfl,HR1.out.setOwn _,HS1.out.setAt HN.out⟩
theorem Mm(B:Nat)(toks:List bi)(r i o:Nat)(s:ByteArray)(w:World)(h:ca B w r toks i o)(hF:ii toks)(hs:a8 toks i (bl s)=true)(ho:o<120):Calls Tryz.prog 149 #[.pointer (some ⟨r,0,none⟩),.string s] w (LG B r toks (i+1) (o+1) w):=by
 have HS:=ab h;have HT:=ab hs;have HN:Hid (i+1<toks.length):=hF.next hs;clear h hs
 go_in
 go_wp2_with fail;refine(fh B toks r i o s _ HS.out).mono ?_;rintro e w1 ⟨rfl,hb⟩;rw[HT.out];have HS1:=ab (HS.out.own (hb.mono HS.out.wB));have HR1:=ab (a9.below (r:=r) hb);clear hb;have h1:=HS1.out.c1;have h2:=HS1.out.c2;have hf:=HS1.out.fz 1;have hf2:=HS1.out.fz 2;have hlen:=HS1.out.len;have hn:=HN.out;go_wp2;exact bodyPost_end (v:=.tuple #[]) (by simp[results,Tryz.results149,go_sem]) rfl ⟨rfl,(HR1.out.setOwn _).setOwn _,(HS1.out.setOp (o':=o+1) (by omega)).setAt HN.out⟩
theorem Mo(B:Nat)(toks:List bi)(r i o:Nat)(s:ByteArray)(w:World)(h:ca B w r toks i (o+1))(hF:ii toks)(hs:a8 toks i (bl s)=true):Calls Tryz.prog 151 #[.pointer (some ⟨r,0,none⟩),.string s] w (LG B r toks (i+1) o w):=by
 have HS:=ab h;have HT:=ab hs;have HF:=ab hF;clear h hs hF
 go_in
 go_wp2_with fail;refine(Km B toks r i (o+1) s _ HS.out HF.out HT.out).mono ?_;rintro e w1 ⟨rfl,hr1,hs1⟩;have HS1:=ab hs1;have HR1:=ab hr1;clear hs1 hr1;have h2:=HS1.out.c2;have hf2:=HS1.out.fz 2;have ho:=HS1.out.ho;go_wp2;exact bodyPost_end (v:=.tuple #[]) (by simp[results,Tryz.results151,go_sem]) rfl ⟨rfl,HR1.out.setOwn _,by have:=HS1.out.setOp (o':=o) (by omega);simpa using this⟩
def d8(B r:Nat)(toks:List bi)(t:ag)(i o:Nat)(w:World)(e:Ending)(w':World):Prop:=a9 r w w'/\ca B w' r toks i o/\∃A c,e= .returned (.agg #[.int .u8 t.kind,.string (sb t.text),.int .i64 t.num,.slice A t.kids.length c])/\cf (cX w' w.heap.size) t t.kind (sb t.text) t.num A t.kids.length c
def ON(k:Nat)(A:Option Addr)(n c:Nat)(w:World)(e:Ending)(w':World):Prop:=Below w.heap.size w w'/\e= .returned (.agg #[.int .u8 k,.string ⟨#[]⟩,.int .i64 0,.slice A n c])
theorem NY(k:Nat)(A:Option Addr)(n c:Nat)(w:World):Calls Tryz.prog 216 #[.int .u8 k,.slice A n c] w (ON k A n c w):=by
 go_in
 go_wp2_with fail;obtain⟨a0,a1,a2,a3,_⟩:=di (heap_alloc_new w (.cells #[.int .u8 k,.string ⟨#[]⟩,.int .i64 0,.slice A n c] 25));exact bodyPost_ret (v:=.agg #[.int .u8 k,.string ⟨#[]⟩,.int .i64 0,.slice A n c]) (by simp[results,Tryz.results216,go_sem,a0,a1,a2,a3]) rfl ⟨bz_alloc (ai _ _) _,rfl⟩
def OP(B r:Nat)(toks:List bi)(s:ar)(i o:Nat)(w:World)(e:Ending)(w':World):Prop:=e= .returned (.string (sb s))/\a9 r w w'/\ca B w' r toks i o
theorem J8{toks:List bi}{i k:Nat}{s:ar}(h:y9 toks i k=some s):∃t,toks[i]? =some t/\t.kind=k/\t.text=s:=by
 unfold y9 at h;cases ht:toks[i]? with
 |none=>rw[ht] at h;simp at h
 |some t=>rw[ht] at h;simp at h;exact⟨t,rfl,h⟩
theorem QV(B:Nat)(toks:List bi)(r i o k:Nat)(s:ar)(w:World)(h:ca B w r toks i o)(hF:ii toks)(hs:y9 toks i k=some s)(hk:k≠5):Calls Tryz.prog 190 #[.pointer (some ⟨r,0,none⟩),.int .u8 k] w (OP B r toks s (i+1) o w):=by
 obtain⟨g,c,t,h0,hg,ht,t0,t1,t2⟩:=h.tok;obtain⟨t',ht',e1,e2⟩:=J8 hs;rw[ht] at ht';injection ht' with ht';subst ht';rw[e1] at t0;rw[e2] at t1;have h1:=h.c1;have h3:=h.c3;have hi:=h.hi;have hlen:=h.len;have hrs:=h.rB;have hws:=h.wB;have hrl:r<w.heap.size:=(by omega);have hgs:=bK t0;have hf:=h.fz 1;have HN:Hid (i+1<toks.length):=hF.nx i t ht (by omega);have HS:=ab h;clear h hs ht
 go_in
 have HS0:=ab (HS.out.setAt HN.out);have HR0:Hid (a9 r w (w.setCell ⟨r,1,none⟩ (.int .i64 (i+1)))):=a9.set _;have hb:Below (w.setCell ⟨r,1,none⟩ (.int .i64 (i+1))).heap.size (w.setCell ⟨r,1,none⟩ (.int .i64 (i+1))) (((w.setCell ⟨r,1,none⟩ (.int .i64 (i+1))).alloc (.cells #[.int .u8 k,.string (sb s),.int .i64 t.pos] 115)).drew):=Below.drew ((ai _ _).alloc (ah _) _);have HR1:=ab (HR0.out.trans (a9.below (r:=r) hb));have HS1:=ab (HS0.out.own (hb.mono HS0.out.wB));clear hb;go_upto_region 3 with fail
 go_region
 all_goals
  go_wp2;go_ret;exact⟨rfl,HR1.out,HS1.out⟩
theorem a9.alloc{r:Nat}{w w':World}(h:a9 r w w')(o:Obj):a9 r w (w'.alloc o):=h.trans (a9.below (bz_alloc (ai _ _) o))
theorem cf.rds{r B N:Nat}{w w':World}(h:a9 r w w')(hr:r<N){t:ag}{k:Nat}{s:ByteArray}{x:Int}{A:Option Addr}{n c:Nat}(hN:cf (cX w N) t k s x A n c):cf (cX w' N) t k s x A n c:=hN.keep fun a v hc=>by obtain⟨h1,h2⟩:=i8.1 hc;exact i8.2 ⟨h1,h.cell (by omega) h2⟩
theorem cf.sinceOf{w w':World}{N N':Nat}(hN':N'<=N)(hk:∀q,N<=q->q<w.heap.size->w'.heap[q]? =w.heap[q]?){t:ag}{k:Nat}{s:ByteArray}{x:Int}{A:Option Addr}{n c:Nat}(hN:cf (cX w N) t k s x A n c):cf (cX w' N') t k s x A n c:=hN.keep fun a v hc=>by obtain⟨h1,h2⟩:=i8.1 hc;exact i8.2 ⟨by omega,by rw[World.cell?_of_block (hk _ h1 (bK h2))];exact h2⟩
theorem d8.put{B r:Nat}{toks:List bi}{i o:Nat}{w W:World}{t:ag}{A:Option Addr}{c:Nat}(hR:a9 r w W)(hS:ca B W r toks i o)(hB:B<=w.heap.size)(hN:cf (cX W (w.heap.size+1)) t t.kind (sb t.text) t.num A t.kids.length c)(v0 v1 v2 v3:Value):d8 B r toks t i o w (.returned (.agg #[.int .u8 t.kind,.string (sb t.text),.int .i64 t.num,.slice A t.kids.length c])) ((((W.setCell ⟨w.heap.size,0,none⟩ v0).setCell ⟨w.heap.size,1,none⟩ v1).setCell ⟨w.heap.size,2,none⟩ v2).setCell ⟨w.heap.size,3,none⟩ v3):=by have hb:Below w.heap.size W ((((W.setCell ⟨w.heap.size,0,none⟩ v0).setCell ⟨w.heap.size,1,none⟩ v1).setCell ⟨w.heap.size,2,none⟩ v2).setCell ⟨w.heap.size,3,none⟩ v3):=((((ai w.heap.size W).setCell (p:=⟨_,_,none⟩) (ah _) v0).setCell (p:=⟨_,_,none⟩) (ah _) v1).setCell (p:=⟨_,_,none⟩) (ah _) v2).setCell (p:=⟨_,_,none⟩) (ah _) v3;refine⟨⟨hb.os.trans hR.os,hb.tape.trans hR.tape,hb.output.trans hR.output,aJ hR.size hb.size,fun k hk hr=>(hb.block k hk).trans (hR.block k hk hr)⟩,hS.own (hb.mono hB),A,c,rfl,?_⟩;refine cf.sinceOf (N:=w.heap.size+1) (by omega) (fun q h1 h2=>?_) hN;rw[aY _ _ _ _ (show q≠w.heap.size by omega),aY _ _ _ _ (show q≠w.heap.size by omega),aY _ _ _ _ (show q≠w.heap.size by omega),aY _ _ _ _ (show q≠w.heap.size by omega)]
theorem L4{W:World}(k:Nat)(s:ar)(x:Int)(hk:k<=255)(hs:s.length<=100000)(hx:tw x):cf W (.node k s x []) k (sb s) x none 0 0:=⟨[],by rw[tq],hk,by show s.toArray.size<=_;unfold maxLen;simp;omega,hx,rfl,ah _,by decide,.inl rfl⟩
theorem Lp(B:Nat)(toks:List bi)(r i o k:Nat)(s:ar)(w:World)(h:ca B w r toks i o)(hF:ii toks)(hs:y9 toks i 1=some s)(hk:k<=255):Calls Tryz.prog 148 #[.pointer (some ⟨r,0,none⟩),.int .u8 k] w (d8 B r toks (.node k s 0 []) (i+1) o w):=by
 have HS:=ab h;have HT:=ab hs;have HF:=ab hF;have HL:Hid (s.length<=100000):=by obtain⟨t,h1,h2,h3⟩:=J8 hs;rw[<-h3];exact hF.tx t (List.mem_of_getElem? h1)
 clear h hs hF;have HSb:=ab (HS.out.own (bz_alloc (ai w.heap.size w) (.cells Z4 25) |>.mono HS.out.wB))
 go_in
 go_wp2_with fail;refine(QV B toks r i o 1 s _ HSb.out HF.out HT.out (by omega)).mono ?_;rintro e w1 ⟨rfl,hr1,hs1⟩;have hbox:w1.heap[w.heap.size]? =some (.cells Z4 25 (0,0)):=(hr1.block _ (by simp) (Nat.ne_of_gt (fJ HS.out.rB HS.out.wB))).trans (heap_alloc_new _ _);have HS1:=ab hs1;have HR1:=ab (((a9.refl r w).alloc _).trans hr1);clear hr1 hs1;obtain⟨c0,c1,c2,c3,f0,f1,f2,f3⟩:=di hbox;clear hbox;go_wp2_with fail;obtain⟨a0,a1,a2,a3⟩:=mL (v0:=.int .u8 k) (v1:=.string (sb s)) (v2:=.int .i64 0) (v3:=.slice none 0 0) c0 c1 c2 c3;exact bodyPost_ret (v:=.agg #[.int .u8 k,.string (sb s),.int .i64 0,.slice none 0 0]) (by simp[results,Tryz.results148,go_sem,a0,a1,a2,a3]) rfl (d8.put (t:=.node k s 0 []) HR1.out HS1.out HS.out.wB (L4 k s 0 hk HL.out (by unfold tw;omega)) _ _ _ _)
abbrev bq:=List (ar×Nat)
structure bo where
 bs:List (ar×Nat)
 ev:List (List Int×Nat)
 all:List Nat
 at_:Nat
abbrev ix:=Except (Nat×Nat) (bq×bo)
def bn:bq->ar->Option Nat
 |[],_=>none
 |(x,i) ::m,s=>if x=s then some i else bn m s
def mb:List bq->ar->Option Nat
 |[],_=>none
 |m::e,s=>match bn m s with
  |some i=>some i
  |none=>mb e s
def j5(own:bq)(s:ar)(q:List Int)(a:Nat)(st:bo):ix:=
 match bn own s with
 |some _=>.error (110,a)
 |none=>.ok (own++[(s,st.bs.length)],⟨st.bs++[(s,0)],st.ev++[(q,st.bs.length)],st.all++[st.bs.length],st.at_⟩)
def j8(st:bo)(i:Nat):Nat:=((st.bs[i]?).map Prod.snd).getD 0
def ia(env:List bq)(call:Bool)(n:Nat)(s:ar)(q:List Int)(a:Nat)(st:bo):Except (Nat×Nat) bo:=
 match mb env s with
 |none=>.error (111,a)
 |some i=>if call && j8 st i != n then .error (112,a) else .ok ⟨st.bs,st.ev++[(q,i)],st.all,st.at_⟩
def bo.next(st:bo):bo:=⟨st.bs,st.ev,st.all,st.at_+1⟩
def bo.func(st:bo)(i:Nat):bo:=⟨st.bs,st.ev,st.all++[i],st.at_⟩
def CR(own:bq):ix->ix
 | .ok r=>.ok (own,r.2)
 | .error e=>.error e
def oo(r:ix)(f:bq->bo->ix):ix:=
 match r with
 | .ok (o,st)=>f o st
 | .error e=>.error e
def C2(r:Except (Nat×Nat) bo)(f:bo->ix):ix:=
 match r with
 | .ok st=>f st
 | .error e=>.error e
mutual
def da (fe:bq):ag->List bq->bq->List Int->bo->ix
 | .node k s _ ks,out,own,q,st=>
  if k=2 then CR own (dq fe ks (own::out) [] q 0 (st.next.func ((bn fe s).getD 0)))
  else if k=4 then oo (j5 own s q st.at_ st.next) fun o st1=>dq fe ks out o q 0 st1
  else if k=5 then CR own (dq fe ks (own::out) [] q 0 st.next)
  else if k=6 then
   match bn own s with
   |some _=>.error (110,st.at_)
   |none=>oo (dq fe ks out own q 0 st.next) fun o st1=>j5 o s q st.at_ st1
  else if k=22 then C2 (ia (own::out) false ks.length s q st.at_ st.next) fun st1=>dq fe ks out own q 0 st1
  else if k=25 then C2 (ia [fe] true ks.length s q st.at_ st.next) fun st1=>dq fe ks out own q 0 st1
  else dq fe ks out own q 0 st.next
def dq (fe:bq):List ag->List bq->bq->List Int->Nat->bo->ix
 |[],_,own,_,_,st=>.ok (own,st)
 |t::ts,out,own,q,j,st=>oo (da fe t out own (q++[(j:Int)]) st) fun o st1=>dq fe ts out o q (j+1) st1
end
def i4(st st':bo)(q:List Int)(j:Nat):Prop:=∃new,st'.ev=st.ev++new/\(∀e∈new,∃m:Nat,∃r,j<=m/\e.1=q++(m:Int) ::r)/\(new.map Prod.fst).Nodup/\st.bs.length<=st'.bs.length
def DD(st st':bo)(q:List Int):Prop:=∃new,st'.ev=st.ev++new/\(∀e∈new,∃r,e.1=q++r)/\(new.map Prod.fst).Nodup/\st.bs.length<=st'.bs.length
theorem i4.refl(st:bo)(q:List Int)(j:Nat):i4 st st q j:=⟨[],by simp,by simp,by simp,ah _⟩
theorem i4.same{st st1 st':bo}{q:List Int}{j:Nat}(h:i4 st1 st' q j)(he:st1.ev=st.ev)(hl:st.bs.length<=st1.bs.length):i4 st st' q j:=by obtain⟨new,h1,h2,h3,h4⟩:=h;exact⟨new,he ▸ h1,h2,h3,aJ hl h4⟩
theorem i4.toN{st st':bo}{q:List Int}{j:Nat}(h:i4 st st' q j):DD st st' q:=by obtain⟨new,h1,h2,h3,h4⟩:=h;exact⟨new,h1,fun e he=>by obtain⟨m,r,_,hr⟩:=h2 e he;exact⟨_,hr⟩,h3,h4⟩
theorem i4.push{st st1 st':bo}{q:List Int}{j i:Nat}(h:i4 st1 st' q j)(he:st1.ev=st.ev++[(q,i)])(hl:st.bs.length<=st1.bs.length):DD st st' q:=by
 obtain⟨new,h1,h2,h3,h4⟩:=h;refine⟨(q,i) ::new,by rw[h1,he];simp,?_,?_,aJ hl h4⟩
 .intro e hm;rcases List.mem_cons.1 hm with rfl|hm
  .exact⟨[],by simp⟩
  .obtain⟨m,r,_,hr⟩:=h2 e hm;exact⟨_,hr⟩
 .simp only[List.map_cons,List.nodup_cons];refine⟨fun hm=>?_,h3⟩;obtain⟨e,hm,h5⟩:=List.mem_map.1 hm;obtain⟨m,r,_,hr⟩:=h2 e hm;rw[hr] at h5;have:=congrArg List.length h5;simp at this
theorem i4.post{st st1 st':bo}{q:List Int}{j i:Nat}(h:i4 st st1 q j)(he:st'.ev=st1.ev++[(q,i)])(hl:st1.bs.length<=st'.bs.length):DD st st' q:=by
 obtain⟨new,h1,h2,h3,h4⟩:=h;refine⟨new++[(q,i)],by rw[he,h1];simp,?_,?_,aJ h4 hl⟩
 .intro e hm;rcases List.mem_append.1 hm with hm|hm
  .obtain⟨m,r,_,hr⟩:=h2 e hm;exact⟨_,hr⟩
  .obtain rfl:=List.mem_singleton.1 hm;exact⟨[],by simp⟩
 .rw[List.map_append,List.nodup_append];refine⟨h3,by simp,fun a ha b hb=>?_⟩;obtain⟨e,hm,rfl⟩:=List.mem_map.1 ha;obtain rfl:b=q:=(by simpa using hb);obtain⟨m,r,_,hr⟩:=h2 e hm;intro h5;rw[hr] at h5;have:=congrArg List.length h5;simp at this
theorem i4.cons{st st1 st':bo}{q:List Int}{j:Nat}(h:DD st st1 (q++[(j:Int)]))(h':i4 st1 st' q (j+1)):i4 st st' q j:=by
 obtain⟨n1,a1,a2,a3,a4⟩:=h;obtain⟨n2,b1,b2,b3,b4⟩:=h';refine⟨n1++n2,by rw[b1,a1];simp,?_,?_,aJ a4 b4⟩
 .intro e hm;rcases List.mem_append.1 hm with hm|hm
  .obtain⟨r,hr⟩:=a2 e hm;exact⟨j,r,ah _,by rw[hr];simp⟩
  .obtain⟨m,r,hm,hr⟩:=b2 e hm;exact⟨m,r,by omega,hr⟩
 .rw[List.map_append,List.nodup_append];refine⟨a3,b3,fun x hx y hy hxy=>?_⟩;obtain⟨e,hm,rfl⟩:=List.mem_map.1 hx;obtain⟨f,hf,rfl⟩:=List.mem_map.1 hy;obtain⟨r,hr⟩:=a2 e hm;obtain⟨m,r',hm',hr'⟩:=b2 f hf;rw[hr,hr',List.append_assoc] at hxy;have:=List.append_cancel_left hxy;simp at this;omega
theorem i9{r:ix}{f:bq->bo->ix}{o:bq}{st:bo}(h:oo r f= .ok (o,st)):∃o1 st1,r= .ok (o1,st1)/\f o1 st1= .ok (o,st):=by
 unfold oo at h;split at h
 .exact⟨_,_,rfl,h⟩
 .cases h
theorem CG{r:Except (Nat×Nat) bo}{f:bo->ix}{o:bq}{st:bo}(h:C2 r f= .ok (o,st)):∃st1,r= .ok st1/\f st1= .ok (o,st):=by
 unfold C2 at h;split at h
 .exact⟨_,rfl,h⟩
 .cases h
theorem Cy{r:ix}{own o:bq}{st:bo}(h:CR own r= .ok (o,st)):∃o1,r= .ok (o1,st)/\o=own:=by
 unfold CR at h;split at h
 .rename_i x;cases h
  exact⟨x.1,rfl,rfl⟩
 .cases h
theorem ve{own o:bq}{s:ar}{q:List Int}{a:Nat}{st st':bo}(h:j5 own s q a st= .ok (o,st')):bn own s=none/\o=own++[(s,st.bs.length)]/\st'=⟨st.bs++[(s,0)],st.ev++[(q,st.bs.length)],st.all++[st.bs.length],st.at_⟩:=by
 unfold j5 at h;split at h
 .cases h
 .rename_i h1;cases h
  exact⟨h1,rfl,rfl⟩
theorem CC{env:List bq}{call:Bool}{n:Nat}{s:ar}{q:List Int}{a:Nat}{st st':bo}(h:ia env call n s q a st= .ok st'):∃i,mb env s=some i/\¬(call && j8 st i != n)=true/\st'=⟨st.bs,st.ev++[(q,i)],st.all,st.at_⟩:=by
 unfold ia at h;split at h
 .cases h
 .rename_i i h1;split at h
  .cases h
  .rename_i h2;cases h
   exact⟨i,h1,h2,rfl⟩
mutual
theorem Ho (fe:bq):∀(t:ag) (out:List bq) (own:bq) (q:List Int) (st:bo) (o:bq) (st':bo),da fe t out own q st= .ok (o,st')->DD st st' q
 | .node k s x ks,out,own,q,st,o,st',h=>by
  unfold da at h;split at h
  .obtain⟨o1,h1,_⟩:=Cy h;exact(i4.same (Cn fe ks _ _ _ _ _ _ _ h1) rfl (ah _)).toN
  split at h
  .obtain⟨o1,st1,h1,h2⟩:=i9 h;obtain⟨_,rfl,rfl⟩:=ve h1;exact i4.push (Cn fe ks _ _ _ _ _ _ _ h2) rfl (by simp[bo.next])
  split at h
  .obtain⟨o1,h1,_⟩:=Cy h;exact(i4.same (Cn fe ks _ _ _ _ _ _ _ h1) rfl (ah _)).toN
  split at h
  .split at h
   .cases h
   .obtain⟨o1,st1,h1,h2⟩:=i9 h;obtain⟨_,rfl,rfl⟩:=ve h2;exact i4.post (i4.same (Cn fe ks _ _ _ _ _ _ _ h1) rfl (ah _)) rfl (by simp)
  split at h
  .obtain⟨st1,h1,h2⟩:=CG h;obtain⟨i,_,_,rfl⟩:=CC h1;exact i4.push (Cn fe ks _ _ _ _ _ _ _ h2) rfl (ah _)
  split at h
  .obtain⟨st1,h1,h2⟩:=CG h;obtain⟨i,_,_,rfl⟩:=CC h1;exact i4.push (Cn fe ks _ _ _ _ _ _ _ h2) rfl (ah _)
  .exact(i4.same (Cn fe ks _ _ _ _ _ _ _ h) rfl (ah _)).toN
theorem Cn (fe:bq):∀(ts:List ag) (out:List bq) (own:bq) (q:List Int) (j:Nat) (st:bo) (o:bq) (st':bo),dq fe ts out own q j st= .ok (o,st')->i4 st st' q j
 |[],out,own,q,j,st,o,st',h=>by
  unfold dq at h;cases h
  exact i4.refl _ _ _
 |t::ts,out,own,q,j,st,o,st',h=>by unfold dq at h;obtain⟨o1,st1,h1,h2⟩:=i9 h;exact i4.cons (Ho fe t _ _ _ _ _ _ h1) (Cn fe ts _ _ _ _ _ _ _ h2)
end
def gb(i:Nat)(a:ar)(m:bq):bq:=m.map fun p=>(if p.2=i then a else p.1,p.2)
mutual
def ag.rent (P:List Int->Bool) (a:ar):List Int->ag->ag
 |q,.node k s x ks=>.node k (if P q then a else s) x (db P a q 0 ks)
def db (P:List Int->Bool) (a:ar):List Int->Nat->List ag->List ag
 |_,_,[]=>[]
 |q,j,t::ts=>t.rent P a (q++[(j:Int)]) ::db P a q (j+1) ts
end
mutual
def ag.noFunc:ag->Prop
 | .node k _ _ ks=>k≠2/\Dz ks
def Dz:List ag->Prop
 |[]=>True
 |t::ts=>t.noFunc/\Dz ts
end
def fv(n:Nat)(m:bq):Prop:=∀p∈m,p.2<n
theorem Dw{i j:Nat}{a s:ar}(hs:s≠a)(hj:j≠i):∀{m:bq},bn m s=some j->bn (gb i a m) s=some j
 |[],h=>by cases h
 |(x,l) ::m,h=>by
  unfold bn at h;show(if (if l=i then a else x)=s then some l else bn (gb i a m) s)=some j;split at h
  .rename_i hx;cases h
   rw[if_neg hj,if_pos hx]
  .rename_i hx;rw[if_neg (by split;exact fun h=>hs h.symm;exact hx),Dw hs hj h]
theorem fv.le{n m:Nat}{o:bq}(h:fv n o)(hl:n<=m):fv m o:=fun p hp=>fJ (h p hp) hl
def la(st:bo)(i n:Nat):bo:=⟨st.bs.mapIdx (fun j p=>if j=i then(p.1,n) else p),st.ev,st.all,st.at_⟩
def i6:List ag->Nat->Nat->bq->bo->ix
 |[],_,_,fe,st=>.ok (fe,st)
 |t::ts,k,a,fe,st=>oo (j5 fe t.text [(k:Int)] a st) fun fe1 st1=>i6 ts (k+1) (a+t.sz) fe1 (la st1 st.bs.length (match t.kids with|p::_=>p.kids.length|[]=>0))
def Cl:bo:=⟨[],[],[],0⟩
def bo.anew(st:bo):bo:=⟨st.bs,st.ev,[],0⟩
def gn(ks:List ag):ix:=oo (i6 ks 0 1 [] Cl) fun fe st=>dq fe ks [] [] [] 0 st.anew.next
def sv(t:ag):Prop:=∃s x p b,t= .node 2 s x [p,b]/\p.noFunc/\b.noFunc
theorem DT{m:bq}{x s:ar}{l:Nat}:bn (m++[(x,l)]) s=match bn m s with|some j=>some j|none=>if x=s then some l else none:=by
 induction m with
 |nil=>rfl
 |cons p m ih=>
  obtain⟨y,j⟩:=p;simp only[List.cons_append,bn];by_cases h:y=s
  .rw[if_pos h,if_pos h]
  .rw[if_neg h,if_neg h,ih]
theorem Du:∀(ts:List ag) (k a0:Nat) (fe:bq) (st:bo) (o:bq) (st':bo),i6 ts k a0 fe st= .ok (o,st')->(∀s j,bn fe s=some j->bn o s=some j)/\(∀m t,ts[m]? =some t->∃j,bn o t.text=some j/\([((k+m:Nat):Int)],j)∈st'.ev)/\∃new,st'.ev=st.ev++new/\(∀e∈new,∃m:Nat,e.1=[(m:Int)]/\k<=m)/\(new.map Prod.fst).Nodup
 |[],k,a0,fe,st,o,st',h=>by
  unfold i6 at h;cases h
  exact⟨fun _ _ h=>h,fun m t h=>by simp at h,[],by simp,by simp,by simp⟩
 |t::ts,k,a0,fe,st,o,st',h=>by
  unfold i6 at h;obtain⟨o1,st1,h1,h2⟩:=i9 h;obtain⟨hb1,rfl,hb3⟩:=ve h1;obtain⟨g1,g2,new,g3,g4,g5⟩:=Du ts (k+1) _ _ _ _ _ h2;have hev:st'.ev=st.ev++(([(k:Int)],st.bs.length) ::new):=(by rw[g3,hb3];simp[la]);refine⟨fun s j hs=>g1 s j (by rw[DT,hs]),fun m u hu=>?_,([(k:Int)],st.bs.length) ::new,hev,fun e he=>?_,?_⟩
  .cases m with
   |zero=>simp at hu;subst hu;exact⟨st.bs.length,g1 _ _ (by rw[DT,hb1];simp),by rw[hev];simp⟩
   |succ m=>obtain⟨j,h3,h4⟩:=g2 m u (by simpa using hu);exact⟨j,h3,by rwa [show k+(m+1)=k+1+m by omega]⟩
  .rcases List.mem_cons.1 he with rfl|he
   .exact⟨k,rfl,ah _⟩
   .obtain⟨m,h3,h4⟩:=g4 e he;exact⟨m,h3,by omega⟩
  .simp only[List.map_cons,List.nodup_cons];refine⟨fun hm=>?_,g5⟩;obtain⟨e,he,h3⟩:=List.mem_map.1 hm;obtain⟨m,h4,h5⟩:=g4 e he;rw[h4] at h3;simp at h3;omega
theorem Dl(fe:bq):∀(ts:List ag) (out:List bq) (own:bq) (k:Nat) (st:bo) (o:bq) (st':bo),dq fe ts out own [] k st= .ok (o,st')->(∀t∈ts,sv t)->o=own/\st.bs.length<=st'.bs.length/\∃new,st'.ev=st.ev++new/\(∀e∈new,∃(m m':Nat) (r:List Int),e.1=(m:Int) :: (m':Int) ::r/\k<=m)/\(new.map Prod.fst).Nodup
 |[],out,own,k,st,o,st',h,_=>by
  unfold dq at h;cases h
  exact⟨rfl,ah _,[],by simp,by simp,by simp⟩
 |t::ts,out,own,k,st,o,st',h,hF=>by
  obtain⟨s,x,p,b,rfl,_,_⟩:=hF t (List.mem_cons_self ..);unfold dq at h;obtain⟨o1,st1,h1,h2⟩:=i9 h;unfold da at h1;rw[if_pos rfl] at h1;obtain⟨o2,h3,rfl⟩:=Cy h1;obtain⟨n1,a1,a2,a3,a4⟩:=Cn fe [p,b] _ _ _ _ _ _ _ h3;obtain⟨rfl,b0,n2,b1,b2,b3⟩:=Dl fe ts _ _ _ _ _ _ h2 (fun t ht=>hF t (List.mem_cons_of_mem _ ht));refine⟨rfl,aJ a4 b0,n1++n2,by rw[b1,a1];simp[bo.func,bo.next],fun e he=>?_,?_⟩
  .rcases List.mem_append.1 he with he|he
   .obtain⟨m,r,_,hr⟩:=a2 e he;exact⟨k,m,r,by rw[hr];simp,ah _⟩
   .obtain⟨m,m',r,hr,hm⟩:=b2 e he;exact⟨m,m',r,hr,by omega⟩
  .rw[List.map_append,List.nodup_append];refine⟨a3,b3,fun u hu v hv huv=>?_⟩;obtain⟨e,he,rfl⟩:=List.mem_map.1 hu;obtain⟨f,hf,rfl⟩:=List.mem_map.1 hv;obtain⟨m,r,_,hr⟩:=a2 e he;obtain⟨m',m'',r',hr',hm'⟩:=b2 f hf;rw[hr,hr'] at huv;simp at huv;omega
def jy(st:bo)(i:Nat)(q:List Int):Bool:=decide ((q,i)∈st.ev)
theorem Eo{ks:List ag}{o:bq}{st:bo}(h:gn ks= .ok (o,st))(hF:∀t∈ks,sv t):(st.ev.map Prod.fst).Nodup:=by unfold gn at h;obtain⟨fe,st1,h1,h2⟩:=i9 h;obtain⟨_,_,n1,a1,a2,a3⟩:=Du ks 0 1 [] Cl fe st1 h1;obtain⟨_,_,n2,b1,b2,b3⟩:=Dl fe ks [] [] 0 _ o st h2 hF;have:st.ev=n1++n2:=(by rw[b1];show st1.ev++n2=_;rw[a1];rfl);rw[this,List.map_append,List.nodup_append];refine⟨a3,b3,fun u hu v hv huv=>?_⟩;obtain⟨e,he,rfl⟩:=List.mem_map.1 hu;obtain⟨f,hf,rfl⟩:=List.mem_map.1 hv;obtain⟨m,h3,_⟩:=a2 e he;obtain⟨m',m'',r,h4,_⟩:=b2 f hf;rw[h3,h4] at huv;simp at huv
theorem Et{l:List (List Int×Nat)}(h:(l.map Prod.fst).Nodup){q:List Int}{i j:Nat}(hi:(q,i)∈l)(hj:(q,j)∈l):i=j:=by
 induction l with
 |nil=>cases hi
 |cons p l ih=>
  simp only[List.map_cons,List.nodup_cons] at h;rcases List.mem_cons.1 hi with h1|h1
  .rcases List.mem_cons.1 hj with h2|h2
   .rw[<-h1] at h2;injection h2 with _ h2;exact h2.symm
   .exact absurd (List.mem_map.2 ⟨_,h2,rfl⟩) (by rw[<-h1] at h;exact h.1)
  .rcases List.mem_cons.1 hj with h2|h2
   .exact absurd (List.mem_map.2 ⟨_,h1,rfl⟩) (by rw[<-h2] at h;exact h.1)
   .exact ih h.2 h1 h2
mutual
def ag.setAt (a:ar):List Int->ag->ag
 |[],.node k _ x ks=>.node k a x ks
 |z::p,.node k s x ks=>.node k s x (Cb a z.toNat p ks)
def Cb (a:ar):Nat->List Int->List ag->List ag
 |_,_,[]=>[]
 |0,p,t::ts=>t.setAt a p::ts
 |n+1,p,t::ts=>t::Cb a n p ts
end
mutual
def ag.kindAt:List Int->ag->Option Nat
 |[],.node k _ _ _=>some k
 |z::p,.node _ _ _ ks=>if z<0 then none else ja z.toNat p ks
def ja:Nat->List Int->List ag->Option Nat
 |_,_,[]=>none
 |0,p,t::_=>t.kindAt p
 |n+1,p,_::ts=>ja n p ts
end
mutual
theorem FU (a:ar):∀(t:ag) (q:List Int),t.rent (fun _=>false) a q=t
 | .node k s x ks,q=>by show ag.node k s x (db (fun _=>false) a q 0 ks)=_;rw[FQ a ks q 0]
theorem FQ (a:ar):∀(ts:List ag) (q:List Int) (j:Nat),db (fun _=>false) a q j ts=ts
 |[],_,_=>rfl
 |t::ts,q,j=>by show t.rent (fun _=>false) a (q++[(j:Int)]) ::db (fun _=>false) a q (j+1) ts=_;rw[FU a t _,FQ a ts q (j+1)]
end
mutual
theorem DK {P Q:List Int->Bool} {a:ar}:∀(t:ag) (q:List Int),(∀r,P (q++r)=Q (q++r))->t.rent P a q=t.rent Q a q
 | .node k s x ks,q,h=>by show ag.node k (if P q then a else s) x (db P a q 0 ks)= .node k (if Q q then a else s) x (db Q a q 0 ks);have h0:=h [];rw[List.append_nil] at h0;rw[h0,D2 ks q 0 (fun m r _=>by have:=h ((m:Int) ::r);exact this)]
theorem D2 {P Q:List Int->Bool} {a:ar}:∀(ts:List ag) (q:List Int) (j:Nat),(∀(m:Nat) r,j<=m->P (q++(m:Int) ::r)=Q (q++(m:Int) ::r))->db P a q j ts=db Q a q j ts
 |[],_,_,_=>rfl
 |t::ts,q,j,h=>by show t.rent P a (q++[(j:Int)]) ::db P a q (j+1) ts=t.rent Q a (q++[(j:Int)]) ::db Q a q (j+1) ts;rw[DK t _ (fun r=>by have:=h j r (ah _);simpa using this),D2 ts q (j+1) (fun m r hm=>h m r (by omega))]
end
def Ck(P:List Int->Bool)(p:List Int):List Int->Bool:=fun r=>P r || decide (r=p)
mutual
theorem FW {P:List Int->Bool} {a:ar}:∀(t:ag) (q p:List Int),(∀z∈p,0<=z)->(t.rent P a q).setAt a p=t.rent (Ck P (q++p)) a q
 | .node k s x ks,q,[],_=>by show ag.node k a x (db P a q 0 ks)= .node k (if Ck P (q++[]) q then a else s) x (db (Ck P (q++[])) a q 0 ks);rw[if_pos (by simp[Ck]),D2 (Q:=Ck P (q++[])) ks q 0 (fun m r _=>by simp[Ck])]
 | .node k s x ks,q,z::p,h=>by have hz:0<=z:=h z (List.mem_cons_self ..);show ag.node k (if P q then a else s) x (Cb a z.toNat p (db P a q 0 ks))= .node k (if Ck P (q++z::p) q then a else s) x (db (Ck P (q++z::p)) a q 0 ks);rw[show Ck P (q++z::p) q=P q by simp[Ck],FS ks q z.toNat p 0 (fun z hz=>h z (List.mem_cons_of_mem _ hz)),Nat.zero_add,Int.toNat_of_nonneg hz]
theorem FS {P:List Int->Bool} {a:ar}:∀(ts:List ag) (q:List Int) (n:Nat) (p:List Int) (j:Nat),(∀z∈p,0<=z)->Cb a n p (db P a q j ts)=db (Ck P (q++((j+n:Nat):Int) ::p)) a q j ts
 |[],q,n,p,j,_=>by cases n<;>rfl
 |t::ts,q,0,p,j,h=>by
  show(t.rent P a (q++[(j:Int)])).setAt a p::db P a q (j+1) ts=t.rent _ a (q++[(j:Int)]) ::db _ a q (j+1) ts;rw[FW t _ p h,D2 (Q:=Ck P (q++((j+0:Nat):Int) ::p)) ts q (j+1) (fun m r hm=>by
   have:¬((m:Int)=(j:Int)/\r=p):=fun h=>by omega
   simp[Ck,this])]
  simp
 |t::ts,q,n+1,p,j,h=>by
  show t.rent P a (q++[(j:Int)]) ::Cb a n p (db P a q (j+1) ts)=t.rent _ a (q++[(j:Int)]) ::db _ a q (j+1) ts;rw[FS ts q n p (j+1) h,show j+1+n=j+(n+1) by omega,DK (P:=P) (Q:=Ck P (q++((j+(n+1):Nat):Int) ::p)) t _ (fun r=>by
   have:¬((j:Int)=((j+(n+1):Nat):Int)/\r=p):=fun h=>by omega
   simp only[Ck,List.append_assoc,List.singleton_append];rw[show decide (q++(j:Int) ::r=q++((j+(n+1):Nat):Int) ::p)=false from decide_eq_false fun h=>this (by simpa using h),Bool.or_false])]
end
theorem FT{a:ar}:∀(ps:List (List Int)) (P:List Int->Bool) (t:ag),(∀p∈ps,∀z∈p,0<=z)->ps.foldl (fun t p=>t.setAt a p) (t.rent P a [])=t.rent (fun r=>P r || ps.contains r) a []
 |[],P,t,_=>by simp only[List.foldl_nil];exact DK t [] (fun r=>by simp)
 |p::ps,P,t,h=>by simp only[List.foldl_cons];rw[FW t [] p (h p (List.mem_cons_self ..)),FT ps _ t (fun p hp=>h p (List.mem_cons_of_mem _ hp))];refine DK t [] fun r=>?_;simp only[Ck,List.nil_append,List.contains_cons,Bool.or_assoc];rw[show(r == p)=decide (r=p) from by by_cases h:r=p<;>simp[h]]
def EO(t:ag)(q:List Int)(st st':bo):Prop:=∀e∈st'.ev,e∈st.ev∨∃r k,e.1=q++r/\t.kindAt r=some k/\cG k=true
def Ea(ts:List ag)(q:List Int)(j:Nat)(st st':bo):Prop:=∀e∈st'.ev,e∈st.ev∨∃(m:Nat) (r:List Int) (k:Nat),e.1=q++((j+m:Nat):Int) ::r/\ja m r ts=some k/\cG k=true
theorem Ea.node{k:Nat}{s:ar}{x:Int}{ks:List ag}{q:List Int}{st st1 st':bo}(h:Ea ks q 0 st1 st')(he:∀e∈st1.ev,e∈st.ev∨(e.1=q/\cG k=true)):EO (.node k s x ks) q st st':=by
 intro e hm;rcases h e hm with h1|⟨m,r,k',h1,h2,h3⟩
 .rcases he e h1 with h4|⟨h4,h5⟩
  .exact .inl h4
  .exact .inr ⟨[],k,by rw[h4];simp,rfl,h5⟩
 .exact .inr ⟨(m:Int) ::r,k',by rw[h1,Nat.zero_add],by show(if (m:Int)<0 then none else ja (m:Int).toNat r ks)=_;rw[if_neg (by omega)];exact h2,h3⟩
mutual
theorem Hq (fe:bq):∀(t:ag) (out:List bq) (own:bq) (q:List Int) (st:bo) (o:bq) (st':bo),da fe t out own q st= .ok (o,st')->EO t q st st'
 | .node k s x ks,out,own,q,st,o,st',h=>by
  unfold da at h;split at h
  .obtain⟨o1,h1,_⟩:=Cy h;exact(CX fe ks _ _ _ _ _ _ _ h1).node fun e he=>.inl he
  split at h
  .rename_i hk;obtain⟨o1,st1,h1,h2⟩:=i9 h;obtain⟨_,rfl,rfl⟩:=ve h1;exact(CX fe ks _ _ _ _ _ _ _ h2).node fun e he=>by
    rcases List.mem_append.1 he with he|he
    .exact .inl he
    .obtain rfl:=List.mem_singleton.1 he;exact .inr ⟨rfl,by subst hk;rfl⟩
  split at h
  .obtain⟨o1,h1,_⟩:=Cy h;exact(CX fe ks _ _ _ _ _ _ _ h1).node fun e he=>.inl he
  split at h
  .rename_i hk;split at h
   .cases h
   .obtain⟨o1,st1,h1,h2⟩:=i9 h;obtain⟨_,rfl,rfl⟩:=ve h2;have hN:=(CX fe ks _ _ _ _ _ _ _ h1).node (k:=k) (s:=s) (x:=x) (st:=st) fun e he=>.inl he;intro e he;rcases List.mem_append.1 he with he|he
    .exact hN e he
    .obtain rfl:=List.mem_singleton.1 he;exact .inr ⟨[],k,by simp,rfl,by subst hk;rfl⟩
  split at h
  .rename_i hk;obtain⟨st1,h1,h2⟩:=CG h;obtain⟨i,_,_,rfl⟩:=CC h1;exact(CX fe ks _ _ _ _ _ _ _ h2).node fun e he=>by
    rcases List.mem_append.1 he with he|he
    .exact .inl he
    .obtain rfl:=List.mem_singleton.1 he;exact .inr ⟨rfl,by subst hk;rfl⟩
  split at h
  .rename_i hk;obtain⟨st1,h1,h2⟩:=CG h;obtain⟨i,_,_,rfl⟩:=CC h1;exact(CX fe ks _ _ _ _ _ _ _ h2).node fun e he=>by
    rcases List.mem_append.1 he with he|he
    .exact .inl he
    .obtain rfl:=List.mem_singleton.1 he;exact .inr ⟨rfl,by subst hk;rfl⟩
  .exact(CX fe ks _ _ _ _ _ _ _ h).node fun e he=>.inl he
theorem CX (fe:bq):∀(ts:List ag) (out:List bq) (own:bq) (q:List Int) (j:Nat) (st:bo) (o:bq) (st':bo),dq fe ts out own q j st= .ok (o,st')->Ea ts q j st st'
 |[],out,own,q,j,st,o,st',h=>by
  unfold dq at h;cases h
  exact fun e he=>.inl he
 |t::ts,out,own,q,j,st,o,st',h=>by
  unfold dq at h;obtain⟨o1,st1,h1,h2⟩:=i9 h;have a1:=Hq fe t _ _ _ _ _ _ h1;have a2:=CX fe ts _ _ _ _ _ _ _ h2;intro e he;rcases a2 e he with h3|⟨m,r,k,h3,h4,h5⟩
  .rcases a1 e h3 with h6|⟨r,k,h6,h7,h8⟩
   .exact .inl h6
   .exact .inr ⟨0,r,k,by rw[h6,Nat.add_zero];simp,h7,h8⟩
  .exact .inr ⟨m+1,r,k,by rw[h3,show j+1+m=j+(m+1) by omega],h4,h5⟩
end
theorem DU{ks:List ag}{o:bq}{st:bo}(h:gn ks= .ok (o,st))(hF:∀t∈ks,sv t):∀e∈st.ev,∃(m:Nat) (r:List Int) (k:Nat),e.1=(m:Int) ::r/\ja m r ks=some k/\cG k=true:=by
 unfold gn at h;obtain⟨fe,st1,h1,h2⟩:=i9 h;obtain⟨_,_,n1,a1,a2,a3⟩:=Du ks 0 1 [] Cl fe st1 h1;have hk:∀(ts:List ag) (k a0:Nat) (fe:bq) (st:bo) (o:bq) (st':bo),i6 ts k a0 fe st= .ok (o,st')->(∀t∈ts,sv t)->∀e∈st'.ev,e∈st.ev∨∃(m:Nat),e.1=[((k+m:Nat):Int)]/\ja m [] ts=some 2:=by
  intro ts;induction ts with
  |nil=>
   intro k a0 fe st o st' h _ e he;unfold i6 at h;cases h
   exact .inl he
  |cons t ts ih=>
   intro k a0 fe st o st' h hF e he;unfold i6 at h;obtain⟨o1,st1,h1,h2⟩:=i9 h;obtain⟨_,_,rfl⟩:=ve h1;rcases ih _ _ _ _ _ _ h2 (fun t ht=>hF t (List.mem_cons_of_mem _ ht)) e he with h3|⟨m,h3,h4⟩
   .rcases List.mem_append.1 (show e∈st.ev++[([(k:Int)],st.bs.length)] from h3) with h3|h3
    .exact .inl h3
    .obtain rfl:=List.mem_singleton.1 h3;obtain⟨s,x,p,b,rfl,_,_⟩:=hF t (List.mem_cons_self ..);exact .inr ⟨0,by simp,rfl⟩
   .exact .inr ⟨m+1,by rw[h3,show k+1+m=k+(m+1) by omega],h4⟩
 intro e he;rcases CX fe ks _ _ _ _ _ _ _ h2 e he with h3|⟨m,r,k,h3,h4,h5⟩
 .rcases hk ks 0 1 [] Cl fe st1 h1 hF e h3 with h6|⟨m,h6,h7⟩
  .cases h6
  .exact⟨m,[],2,by rw[h6,Nat.zero_add],h7,rfl⟩
 .exact⟨m,r,k,by rw[h3,Nat.zero_add];rfl,h4,h5⟩
end Go.Proofs.YtfipahjodfminaaGreatDoor
