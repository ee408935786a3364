/- Part 9 of the proof. -/
import Derived.Test.YtlkmefhogabgdaaGreatDoorMnF
namespace Go.Proofs.YtlkmefhogabgdaaGreatDoor
open Go.RowKit
set_option linter.all false
set_option maxHeartbeats 40000000
set_option maxRecDepth 100000
def cX(w:World)(B:Nat):World:={ w with heap:=w.heap.mapIdx fun i o=>if i<B then Obj.cells #[] 0 else o }
theorem ej{w:World}{B:Nat}{a:Addr}{v:Value}:(cX w B).cell? a=some v↔B<=a.block/\w.cell? a=some v:=by
 unfold World.cell? cX;simp only[Array.getElem?_mapIdx];cases h:w.heap[a.block]? with
 |none=>simp
 |some o=>
  by_cases hb:a.block<B
  .simp only[Option.map_some,hb,if_true];constructor
   .intro e;split at e<;>simp at e
   .rintro⟨h1,_⟩;omega
  .simp only[Option.map_some,hb,if_false];constructor
   .intro e;exact⟨by omega,e⟩
   .rintro⟨_,e⟩;exact e
def bJ(w:World)(B:Nat)(ks:List ag)(A:Option Addr)(n c:Nat):Prop:=KidsAt (cX w B) ks A n c/\∃R,cZ w B ks A n c R
theorem bJ.kids{w:World}{B:Nat}{ks:List ag}{A:Option Addr}{n c:Nat}(h:bJ w B ks A n c):KidsAt w ks A n c:=KidsAt.keep (fun _ _ h=>(ej.1 h).2) h.1
theorem kR{w w':World}{B B':Nat}{ks:List ag}{A:Option Addr}{n c:Nat}(h:KidsAt (cX w B) ks A n c)(hB:B'<=B)(hk:∀a v,B<=a.block->w.cell? a=some v->w'.cell? a=some v):KidsAt (cX w' B') ks A n c:=
 KidsAt.keep (fun _ _ h=>by obtain⟨h1,h2⟩:=ej.1 h;exact ej.2 ⟨by omega,hk _ _ h1 h2⟩) h
theorem bJ.keep{w w':World}{B B':Nat}{ks:List ag}{A:Option Addr}{n c:Nat}(h:bJ w B ks A n c)(hB:B'<=B)(hk:∀q,B<=q->q<w.heap.size->w'.heap[q]? =w.heap[q]?):bJ w' B' ks A n c:=by obtain⟨h1,R,h2⟩:=h;exact⟨kR h1 hB fun a v ha hc=>by rw[World.cell?_of_block (hk _ ha (bK hc))];exact hc,R,h2.keep hB hk⟩
theorem cJ.of{w:World}{t:ag}{b o:Nat}{A:Option Addr}{c:Nat}(h0:w.cell? ⟨b,o,none⟩=some (.int .u8 t.kind))(h1:w.cell? ⟨b,o+1,none⟩=some (.string (sb t.text)))(h2:w.cell? ⟨b,o+2,none⟩=some (.int .i64 t.num))(h3:w.cell? ⟨b,o+3,none⟩=some (.slice A t.kids.length c))(hk:KidsAt w t.kids A t.kids.length c)(b1:t.kind<=255)(b2:t.text.length<=maxLen)(b3:cm t.num):cJ w t b o:=by obtain⟨k,s,x,ks⟩:=t;obtain⟨_,k2,k3,k4⟩:=hk;exact⟨h0,h1,h2,b1,b2,b3,A,c,h3,k2,k3,k4⟩
theorem cJ.parts{w:World}{t:ag}{b o:Nat}(h:cJ w t b o):∃A c,w.cell? ⟨b,o,none⟩=some (.int .u8 t.kind)/\w.cell? ⟨b,o+1,none⟩=some (.string (sb t.text))/\w.cell? ⟨b,o+2,none⟩=some (.int .i64 t.num)/\w.cell? ⟨b,o+3,none⟩=some (.slice A t.kids.length c)/\KidsAt w t.kids A t.kids.length c/\t.kind<=255/\t.text.length<=maxLen/\cm t.num:=by obtain⟨k,s,x,ks⟩:=t;obtain⟨h0,h1,h2,b1,b2,b3,A,c,h3,k2,k3,k4⟩:=h;exact⟨A,c,h0,h1,h2,h3,⟨rfl,k2,k3,k4⟩,b1,b2,b3⟩
def cellsOf(w:World)(b o m:Nat):List Value:=(List.range m).map fun i=>(w.cell? ⟨b,o+i,none⟩).getD undef
theorem nX(w:World)(b o m:Nat):(cellsOf w b o m).length=m:=by simp[cellsOf]
theorem sa{w:World}{ks:List ag}{b o:Nat}(h:ch w ks b o){j:Nat}(hj:j<ks.length*4):∃v,w.cell? ⟨b,o+j,none⟩=some v/\v.oneCell'=true:=by
 have hi:j / 4<ks.length:=(by omega);obtain⟨A,c,h0,h1,h2,h3,_⟩:=(h.get (br hi)).parts;have hj4:j=j / 4*4+j % 4:=(by omega);have hr:j % 4=0∨j % 4=1∨j % 4=2∨j % 4=3:=(by omega);rcases hr with e|e|e|e<;>rw[e] at hj4<;>rw[hj4]
 .exact⟨_,h0,rfl⟩
 .exact⟨_,h1,rfl⟩
 .exact⟨_,h2,rfl⟩
 .exact⟨_,h3,rfl⟩
theorem nW{w:World}{ks:List ag}{b o:Nat}(h:ch w ks b o){j:Nat}{u:Value}(hu:(cellsOf w b o (ks.length*4))[j]? =some u):w.cell? ⟨b,o+j,none⟩=some u:=by have hj:j<ks.length*4:=(by have:=(bs.1 hu).1;simpa[cellsOf] using this);obtain⟨v,hv,_⟩:=sa h hj;simp[cellsOf,hj,hv] at hu;rw[hv,hu]
theorem pS{w:World}{ks:List ag}{b o:Nat}(h:ch w ks b o):∀u∈cellsOf w b o (ks.length*4),u.oneCell'=true:=by intro u hu;obtain⟨j,hj,e⟩:=List.mem_iff_getElem.1 hu;have hj':j<ks.length*4:=(by simpa[cellsOf] using hj);obtain⟨v,hv,h1⟩:=sa h hj';have:(cellsOf w b o (ks.length*4))[j]? =some u:=(by rw[br hj,e]);have h2:=nW h this;rw[hv] at h2;injection h2 with h2;rw[<-h2];exact h1
theorem Tryz.infoNode:(Tryz.prog.info? 44).map (fun i=>(i.zero,i.size,i.bytes))=some (some (.agg #[.int .u8 0,.string ⟨#[]⟩,.int .i64 0,.slice none 0 0]),4,56):=by kernel_rfl
def sP(ks:List ag)(n:Nat)(w0 w:World)(e:Ending)(w':World):Prop:=
 ∃A c,e= .returned (.slice A n c)/\Below w.heap.size w w'/\n<=c/\c<=maxLen/\bd w' w.heap.size 44 4 (.slice A n c)/\(ks=[]∨∃g,A=some ⟨g,0,none⟩/\w.heap.size<=g/\g<w'.heap.size/\(∀j,w'.frozen? ⟨g,j,none⟩=false)/\
  ∀i t,ks[i]? =some t->∃A c,w'.cell? ⟨g,i*4,none⟩=some (.int .u8 t.kind)/\w'.cell? ⟨g,i*4+1,none⟩=some (.string (sb t.text))/\w'.cell? ⟨g,i*4+2,none⟩=some (.int .i64 t.num)/\w'.cell? ⟨g,i*4+3,none⟩=some (.slice A t.kids.length c)/\KidsAt w0 t.kids A t.kids.length c/\t.kind<=255/\t.text.length<=maxLen/\cm t.num)
theorem iJ{w:World}{b o m j:Nat}{v:Value}(hj:j<m)(h:w.cell? ⟨b,o+j,none⟩=some v):(cellsOf w b o m)[j]? =some v:=by simp[cellsOf,hj,h]
theorem oG{w:World}{base:Nat}{e:TypeId}{size g n cap:Nat}{xs:List Value}(h:w.ownsRow base e size (.slice (some ⟨g,0,none⟩) n cap) n xs)(j:Nat):w.frozen? ⟨g,j,none⟩=false:=by
 rcases h.2 with ⟨hv,_⟩|⟨g',cap',cur,hv,hg,hh,_⟩
 .cases hv
 .injection hv with e1 e2 e3;injection e1 with e1;injection e1 with e1;subst e1;simp[World.frozen?,hh]
theorem xO(ks:List ag)(A:Option Addr)(n c:Nat)(w0 w:World)(h0':KidsAt w0 ks A n c)(hb0:Below w0.heap.size w0 w)(hbig:n<=1000000000):Calls Tryz.prog 213 #[.slice A n c] w (sP ks n w0 w):=by
 have HB0:=aa hb0;have HK0:=aa h0';obtain⟨hl,h2,h3,h4⟩:=h0'.below hb0;clear h0' hb0;obtain⟨i0,hi,hz0,hz1,hz2⟩:=info_parts Tryz.infoNode;have q22:∀(w:World) (a:Option Addr) (n c n' c':Nat),(binOp .eql 24 (.slice a n c) (.slice none n' c')).run Tryz.prog w= .ok (.bool a.isNone) w:=fun w a n c n' c'=>Lib.run_eql_slice_nil w _ _ a n c n' c' Tryz.underlying24;cases A with
 |none=>
  have hks:ks=[]:=by rcases h4 with e|⟨b,o,e,_⟩;exact e;cases e
  subst hks;have HN0:Hid (n=0):=hl;clear h2 h3 h4 hbig hl hi hz0 hz1 hz2
  go_in
  go_wp2;go_ret;exact⟨none,0,by rw[HN0.out];rfl,ai _ _,by rw[HN0.out];exact aE _,aE _,by rw[HN0.out];exact⟨0,[],World.ownsRow_nil _ _ _ _⟩,.inl rfl⟩
 |some ad=>
  have hrow:ks=[]∨∃b o,ad=⟨b,o,none⟩/\ch w ks b o:=by
   rcases h4 with e|⟨b,o,e,hr⟩
   .exact .inl e
   .injection e with e;exact .inr ⟨b,o,e,hr⟩
  have HR:=aa hrow;have HLN:Hid (n=ks.length):=hl;clear h4 hrow hl;have HX:Hid (∃news:List Value,news.length=n*4/\(∀j u,news[j]? =some u->w.cell? (ad.add j)=some u)/\(∀u∈news,u.oneCell'=true)/\(ks≠[]->∃b o,ad=⟨b,o,none⟩/\ch w ks b o/\news=cellsOf w b o (ks.length*4))):=by
   rcases HR.out with rfl|⟨b,o,rfl,hr⟩
   .have:=HLN.out;simp at this;subst this;exact⟨[],rfl,by simp,by simp,fun e=>absurd rfl e⟩
   .refine⟨cellsOf w b o (ks.length*4),by rw[nX,HLN.out],fun j u hu=>?_,pS hr,fun _=>⟨b,o,rfl,hr,rfl⟩⟩;rw[fi];exact nW hr hu
  obtain⟨news,x1,x2,x3,x4⟩:=HX.out;have X4:=aa x4;have X2:=aa x2;have X3:=aa x3;clear x2 x3 x4
  go_in
  go_wp2_with (at_builtin;refine wpList_append_own _ rfl _ _ 24 rfl w.heap.size 44 i0 _ 4 56 Tryz.underlying24 hi hz0 hz1 hz2 rfl (by decide) _ _ _ rfl (World.ownsRow_made w #[] 0 (ah _) (aE _) rfl) ad n c news rfl (by simpa using x1) ?qc2 X3.out ?qc4 ?qc5 ?qc6 ?_);case qc2=>intro j u hj;exact Lib.cell?_alloc_some _ (X2.out j u hj)
  case qc4=>unfold maxLen;omega
  case qc5=>omega
  case qc6=>simp
  intro v' w1 hown hgrow hnil;have HO:=aa hown;have HG:=aa hgrow;clear hown hgrow hnil;go_wp2;go_ret;have hb:Below w.heap.size w w1:=((ai _ w).alloc (ah _) _).grown HG.out (by simp) (by intro k hk;simp[Value.ownBlock] at hk;omega);obtain⟨A',c',rfl,k1,k2⟩:=cw HO.out;by_cases h0:ks=[]
  .exact⟨A',c',by simp,hb,by omega,k2,⟨_,_,by simpa using HO.out⟩,.inl h0⟩
  .obtain⟨b,o,rfl,hr,hnews⟩:=X4.out h0;have hpos:0<n:=(by rw[HLN.out];exact List.length_pos_iff.2 h0);obtain⟨g,cap,e,hg⟩:=HO.out.form (by omega);injection e with e1 e2 e3;subst e1 e3;have hlt:=HO.out.lt g rfl;refine⟨_,_,by simp,hb,by omega,k2,⟨_,_,by simpa using HO.out⟩,.inr ⟨g,rfl,hlt.1,hlt.2,oG (by simpa using HO.out),fun i t ht=>?_⟩⟩;have hr0:ch w0 ks b o:=by
    rcases HK0.out.2.2.2 with e|⟨b',o',e,hr'⟩
    .exact absurd e h0
    .injection e with e;injection e with e1 e2;subst e1 e2;exact hr'
   obtain⟨A2,c2,t0,t1,t2,t3,t4,t5,t6,t7⟩:=(hr0.get ht).parts;replace t0:=ac HB0.out t0;replace t1:=ac HB0.out t1;replace t2:=ac HB0.out t2;replace t3:=ac HB0.out t3;have hi4:i<ks.length:=(bs.1 ht).1;have hcs:∀j u,(cellsOf w b o (ks.length*4))[j]? =some u->w1.cell? ⟨g,j,none⟩=some u:=by intro j u hu;refine bH (by simpa using HO.out) j u ?_;rw[hnews];simpa using hu
   exact⟨A2,c2,hcs _ _ (iJ (by omega) t0),hcs _ _ (iJ (by omega) (by rw[<-Nat.add_assoc];exact t1)),hcs _ _ (iJ (by omega) (by rw[<-Nat.add_assoc];exact t2)),hcs _ _ (iJ (by omega) (by rw[<-Nat.add_assoc];exact t3)),t4,t5,t6,t7⟩
def pm(ks:List ag)(k:Nat)(s:ByteArray)(x:Int)(n:Nat)(w:World)(e:Ending)(w':World):Prop:=
 ∃A c,e= .returned (.agg #[.int .u8 k,.string s,.int .i64 x,.slice A n c])/\bJ w' w.heap.size ks A n c/\Below w.heap.size w w'
def nm(m:Nat):Prop:=∀(t:ag) (k:Nat) (s:ByteArray) (x:Int) (A:Option Addr) (n c:Nat) (w:World),t.sz<=m->cf w t k s x A n c->
 Calls Tryz.prog 184 #[.agg #[.int .u8 k,.string s,.int .i64 x,.slice A n c]] w (pm t.kids k s x n w)
theorem AV(t:ag):1<=t.sz:=by cases t;simp[ag.sz]
theorem eA:∀ks:List ag,ks.length<=ao ks
 |[]=>by simp
 |t::ts=>by have:=eA ts;have h:=AV t;simp[ao];omega
theorem dd{B:Nat}{w w':World}(hb:Below B w w'){a:Addr}(h:a.block<B):w'.frozen? a=w.frozen? a:=by unfold World.frozen?;rw[hb.block _ h]
structure iA (w wr:World) (g j:Nat) (ks:List ag) (n c:Nat):Prop where
 lo:w.heap.size+2<=g
 hi:g<wr.heap.size
 soft:∀j,wr.frozen? ⟨g,j,none⟩=false
 row:bd wr g 44 4 (.slice (some ⟨g,0,none⟩) n c)
 foot:∃R,cR wr (ks.take j) g 0 R/\(∀v∈R,bd wr (g+1) 44 4 v)/\(aW R).Nodup
 at_:∀i t,ks[i]? =some t->∃A c,wr.cell? ⟨g,i*4,none⟩=some (.int .u8 t.kind)/\wr.cell? ⟨g,i*4+1,none⟩=some (.string (sb t.text))/\wr.cell? ⟨g,i*4+2,none⟩=some (.int .i64 t.num)/\wr.cell? ⟨g,i*4+3,none⟩=some (.slice A t.kids.length c)/\
  (i<j->bJ wr (g+1) t.kids A t.kids.length c)/\(j<=i->KidsAt w t.kids A t.kids.length c)/\t.kind<=255/\t.text.length<=maxLen/\cm t.num
theorem iA.done{w wr:World}{g:Nat}{ks:List ag}{n c:Nat}(h:iA w wr g ks.length ks n c)(hn:n=ks.length)(h1:n<=c)(h2:c<=maxLen):bJ wr g ks (some ⟨g,0,none⟩) n c:=by
 refine⟨⟨hn,h1,h2,.inr ⟨g,0,rfl,ch.mk fun i t ht=>?_⟩⟩,?_⟩;rotate_left
 .obtain⟨R,r1,r2,r3⟩:=h.foot;rw[List.take_length] at r1;refine⟨_,cZ.mk' r1 h.row (fun v hv=>(r2 v hv).keep (by omega) fun _ _=>rfl) r3 fun hg=>?_⟩;obtain⟨v,hv,e⟩:=eV hg;have:=((r2 v hv).lt e).1;omega
 obtain⟨A,c,t0,t1,t2,t3,t4,_,t5,t6,t7⟩:=h.at_ i t ht;have hg:=h.lo;have hs:∀{a:Addr} {v:Value},a.block=g->wr.cell? a=some v->(cX wr g).cell? a=some v:=fun e h=>ej.2 ⟨by omega,h⟩;rw[Nat.zero_add];exact cJ.of (hs rfl t0) (hs rfl t1) (hs rfl t2) (hs rfl t3) (kR (t4 (bs.1 ht).1).1 (by omega) fun _ _ _ h=>h) t5 t6 t7
structure nh (w:World) (b:Nat) (x y z u:Value):Prop where
 c0:w.cell? ⟨b,0,none⟩=some x
 c1:w.cell? ⟨b,1,none⟩=some y
 c2:w.cell? ⟨b,2,none⟩=some z
 c3:w.cell? ⟨b,3,none⟩=some u
 f0:w.frozen? ⟨b,0,none⟩=false
 f1:w.frozen? ⟨b,1,none⟩=false
 f2:w.frozen? ⟨b,2,none⟩=false
 f3:w.frozen? ⟨b,3,none⟩=false
theorem di{w:World}{b:Nat}{x y z u:Value}{T:TypeId}(h:w.heap[b]? =some (.cells #[x,y,z,u] T (0,0))):nh w b x y z u:=by have hc:=fun j=>cell_of_row w b j _ T (0,0) h;refine⟨by rw[hc];rfl,by rw[hc];rfl,by rw[hc];rfl,by rw[hc];rfl,?_,?_,?_,?_⟩ <;>simp[World.frozen?,h]
theorem am{w:World}{g p:Nat}{u:Value}{a:Addr}{v:Value}(hne:a≠⟨g,p,none⟩)(h:w.cell? a=some v):(w.setCell ⟨g,p,none⟩ u).cell? a=some v:=by rw[World.cell?_setCell_other _ _ _ _ (fun e=>hne e.symm)];exact h
theorem cI{w:World}{g p:Nat}{u v:Value}(h:w.cell? ⟨g,p,none⟩=some v):(w.setCell ⟨g,p,none⟩ u).cell? ⟨g,p,none⟩=some u:=by exact World.cell?_setCell_same _ _ _ h
theorem iA.next{w wr w3:World}{g j:Nat}{ks:List ag}{t:ag}{A3:Option Addr}{k3 n c:Nat}(h:iA w wr g j ks n c)(ht:ks[j]? =some t)(hq:Below wr.heap.size wr w3)(hf:bJ w3 wr.heap.size t.kids A3 t.kids.length k3):iA w ((((w3.setCell ⟨g,j*4,none⟩ (.int .u8 t.kind)).setCell ⟨g,j*4+1,none⟩ (.string (sb t.text))).setCell ⟨g,j*4+2,none⟩ (.int .i64 t.num)).setCell ⟨g,j*4+3,none⟩ (.slice A3 t.kids.length k3)) g (j+1) ks n c:=by
 have hg:=h.hi;have hblk:∀q,q≠g->((((w3.setCell ⟨g,j*4,none⟩ (.int .u8 t.kind)).setCell ⟨g,j*4+1,none⟩ (.string (sb t.text))).setCell ⟨g,j*4+2,none⟩ (.int .i64 t.num)).setCell ⟨g,j*4+3,none⟩ (.slice A3 t.kids.length k3)).heap[q]? =w3.heap[q]? :=fun q hne=>by rw[aY _ _ _ _ hne,aY _ _ _ _ hne,aY _ _ _ _ hne,aY _ _ _ _ hne]
 have hfar:∀a v,a.block≠g->w3.cell? a=some v->((((w3.setCell ⟨g,j*4,none⟩ (.int .u8 t.kind)).setCell ⟨g,j*4+1,none⟩ (.string (sb t.text))).setCell ⟨g,j*4+2,none⟩ (.int .i64 t.num)).setCell ⟨g,j*4+3,none⟩ (.slice A3 t.kids.length k3)).cell? a=some v:=by intro a v hne hc;have hn:∀p,a≠⟨g,p,none⟩:=fun p e=>hne (by rw[e]);exact am (hn _) (am (hn _) (am (hn _) (am (hn _) hc)))
 have hoff:∀p v,p≠j*4->p≠j*4+1->p≠j*4+2->p≠j*4+3->w3.cell? ⟨g,p,none⟩=some v->((((w3.setCell ⟨g,j*4,none⟩ (.int .u8 t.kind)).setCell ⟨g,j*4+1,none⟩ (.string (sb t.text))).setCell ⟨g,j*4+2,none⟩ (.int .i64 t.num)).setCell ⟨g,j*4+3,none⟩ (.slice A3 t.kids.length k3)).cell? ⟨g,p,none⟩=some v:=by intro p v h0 h1 h2 h3 hc;have hn:∀q,p≠q->(⟨g,p,none⟩:Addr)≠⟨g,q,none⟩:=fun q hq e=>hq (by injection e);exact am (hn _ h3) (am (hn _ h2) (am (hn _ h1) (am (hn _ h0) hc)))
 refine⟨h.lo,?_,fun i=>?_,?_,?_,fun i t' ht'=>?_⟩
 .have:=hq.size;simp;omega
 .simp only[World.frozen?_setCell];exact(dd (a:=⟨g,i,none⟩) hq hg).trans (h.soft i)
 .exact(((((h.row.keep (ah _) fun q e=>by simp only[Value.ownBlock,Option.some.injEq] at e;subst e;exact hq.block _ hg).put _ _).put _ _).put _ _).put _ _)
 .obtain⟨R,r1,r2,r3⟩:=h.foot;obtain⟨_,R3,f1⟩:=hf;have hlt:∀q∈aW R,g<q/\q<wr.heap.size:=fun q hq=>by obtain⟨v,hv,e⟩:=eV hq;have:=(r2 v hv).lt e;omega
  have hlt3:∀q∈aW R3,wr.heap.size<=q:=fun q hq=>(f1.lt hq).1;have hbR:∀q,g<q->q<wr.heap.size->((((w3.setCell ⟨g,j*4,none⟩ (.int .u8 t.kind)).setCell ⟨g,j*4+1,none⟩ (.string (sb t.text))).setCell ⟨g,j*4+2,none⟩ (.int .i64 t.num)).setCell ⟨g,j*4+3,none⟩ (.slice A3 t.kids.length k3)).heap[q]? =wr.heap[q]? :=fun q h1 h2=>(hblk q (by omega)).trans (hq.block q h2);have ht2:ks.take (j+1)=ks.take j++[t]:=by have hj:=(bs.1 ht);obtain⟨hj,e⟩:=hj;rw[List.take_succ_eq_append_getElem hj,e]
  have hjl:(ks.take j).length=j:=by have hj:=(bs.1 ht).1;simp;omega
  refine⟨R++R3,?_,?_,?_⟩
  .rw[ht2];refine cR.snoc (cR.keepC r1 (fun i hi=>?_) fun q hq=>hbR q (hlt q hq).1 (hlt q hq).2) (fy.of (A:=A3) (c:=k3) ?_ (f1.rows.keep fun q hq=>hblk q (by have:=hlt3 q hq;omega)))
   .have hi':i<ks.length:=(by have:=List.length_take_le' j ks;omega);obtain⟨A,c,t0,t1,t2,t3,_⟩:=h.at_ i _ (br hi');rw[Nat.zero_add,t3];exact hoff _ _ (by omega) (by omega) (by omega) (by omega) (ac hq t3)
   .obtain⟨A,c,t0,t1,t2,t3,_⟩:=h.at_ j t ht;rw[hjl,Nat.zero_add];exact cI (am (fun e=>by injection e;omega) (am (fun e=>by injection e;omega) (am (fun e=>by injection e;omega) (ac hq t3))))
  .intro v hv;rcases List.mem_append.1 hv with hv|hv
   .exact(r2 v hv).keep (ah _) fun q e=>hbR q (by have:=((r2 v hv).lt e).1;omega) ((r2 v hv).lt e).2
   .exact(f1.own v hv).keep (by omega) fun q e=>hblk q (by have:=((f1.own v hv).lt e).1;omega)
  .exact iq r3 f1.nd (fun q hq=>(hlt q hq).2) hlt3
 .obtain⟨A,c,t0,t1,t2,t3,t4,t5,t6,t7,t8⟩:=h.at_ i t' ht';by_cases hij:i=j
  .subst hij;rw[ht] at ht';injection ht' with ht';subst ht';have hn:∀p q,p≠q->(⟨g,p,none⟩:Addr)≠⟨g,q,none⟩:=fun p q hq e=>hq (by injection e);refine⟨A3,k3,?_,?_,?_,?_,fun _=>?_,fun hh=>absurd hh (by omega),t6,t7,t8⟩
   .exact am (hn _ _ (by omega)) (am (hn _ _ (by omega)) (am (hn _ _ (by omega)) (cI (ac hq t0))))
   .exact am (hn _ _ (by omega)) (am (hn _ _ (by omega)) (cI (am (hn _ _ (by omega)) (ac hq t1))))
   .exact am (hn _ _ (by omega)) (cI (am (hn _ _ (by omega)) (am (hn _ _ (by omega)) (ac hq t2))))
   .exact cI (am (hn _ _ (by omega)) (am (hn _ _ (by omega)) (am (hn _ _ (by omega)) (ac hq t3))))
   .exact hf.keep (by omega) fun q h1 h2=>hblk q (by omega)
  .refine⟨A,c,hoff _ _ (by omega) (by omega) (by omega) (by omega) (ac hq t0),hoff _ _ (by omega) (by omega) (by omega) (by omega) (ac hq t1),hoff _ _ (by omega) (by omega) (by omega) (by omega) (ac hq t2),hoff _ _ (by omega) (by omega) (by omega) (by omega) (ac hq t3),fun hh=>?_,fun hh=>t5 (by omega),t6,t7,t8⟩;exact(t4 (by omega)).keep (ah _) fun q h1 h2=>(hblk q (by omega)).trans (hq.block q h2)
theorem ry{w:World}{b g:Nat}{o:Obj}{v0 v1 v2 v3:Value}(h:w.heap[b]? =some o)(hne:b≠g)(p0 p1 p2 p3:Nat):((((w.setCell ⟨g,p0,none⟩ v0).setCell ⟨g,p1,none⟩ v1).setCell ⟨g,p2,none⟩ v2).setCell ⟨g,p3,none⟩ v3).heap[b]? =some o:=by rw[aY _ _ _ _ hne,aY _ _ _ _ hne,aY _ _ _ _ hne,aY _ _ _ _ hne];exact h
theorem mL{w:World}{g:Nat}{v0 v1 v2 v3 x y z u:Value}(h0:w.cell? ⟨g,0,none⟩=some x)(h1:w.cell? ⟨g,1,none⟩=some y)(h2:w.cell? ⟨g,2,none⟩=some z)(h3:w.cell? ⟨g,3,none⟩=some u):((((w.setCell ⟨g,0,none⟩ v0).setCell ⟨g,1,none⟩ v1).setCell ⟨g,2,none⟩ v2).setCell ⟨g,3,none⟩ v3).cell? ⟨g,0,none⟩=some v0/\((((w.setCell ⟨g,0,none⟩ v0).setCell ⟨g,1,none⟩ v1).setCell ⟨g,2,none⟩ v2).setCell ⟨g,3,none⟩ v3).cell? ⟨g,1,none⟩=some v1/\((((w.setCell ⟨g,0,none⟩ v0).setCell ⟨g,1,none⟩ v1).setCell ⟨g,2,none⟩ v2).setCell ⟨g,3,none⟩ v3).cell? ⟨g,2,none⟩=some v2/\((((w.setCell ⟨g,0,none⟩ v0).setCell ⟨g,1,none⟩ v1).setCell ⟨g,2,none⟩ v2).setCell ⟨g,3,none⟩ v3).cell? ⟨g,3,none⟩=some v3:=by
 have hn:∀p q,p≠q->(⟨g,p,none⟩:Addr)≠⟨g,q,none⟩:=fun p q hq e=>hq (by injection e);refine⟨?_,?_,?_,?_⟩
 .exact am (hn _ _ (by omega)) (am (hn _ _ (by omega)) (am (hn _ _ (by omega)) (cI h0)))
 .exact am (hn _ _ (by omega)) (am (hn _ _ (by omega)) (cI (am (hn _ _ (by omega)) h1)))
 .exact am (hn _ _ (by omega)) (cI (am (hn _ _ (by omega)) (am (hn _ _ (by omega)) h2)))
 .exact cI (am (hn _ _ (by omega)) (am (hn _ _ (by omega)) (am (hn _ _ (by omega)) h3)))
theorem tq{w wr w3:World}{g j B n c:Nat}{ks:List ag}{x y z u v0 v1 v2 v3:Value}{T:TypeId}(hb3:Below wr.heap.size (wr.drewN 1) w3)(HX:wr.heap[B]? =some (.cells #[x,y,z,u] T (0,0)))(hm:iA w wr g j ks n c)(t0:wr.cell? ⟨g,j*4,none⟩=some v0)(t1:wr.cell? ⟨g,j*4+1,none⟩=some v1)(t2:wr.cell? ⟨g,j*4+2,none⟩=some v2)(t3:wr.cell? ⟨g,j*4+3,none⟩=some v3)(hlB:B<wr.heap.size):Hid (Below wr.heap.size wr w3)/\w3.cell? ⟨B,0,none⟩=some x/\w3.cell? ⟨B,1,none⟩=some y/\w3.cell? ⟨B,2,none⟩=some z/\w3.cell? ⟨B,3,none⟩=some u/\w3.cell? ⟨g,j*4,none⟩=some v0/\w3.cell? ⟨g,j*4+1,none⟩=some v1/\w3.cell? ⟨g,j*4+2,none⟩=some v2/\w3.cell? ⟨g,j*4+3,none⟩=some v3/\w3.frozen? ⟨g,j*4,none⟩=false/\w3.frozen? ⟨g,j*4+1,none⟩=false/\w3.frozen? ⟨g,j*4+2,none⟩=false/\w3.frozen? ⟨g,j*4+3,none⟩=false:=by have hq3:Below wr.heap.size wr w3:=af (ax (ai _ _) 1) hb3;have hX3:=di ((hq3.block _ hlB).trans HX);have hz:∀i,w3.frozen? ⟨g,i,none⟩=false:=fun i=>(dd (a:=⟨g,i,none⟩) hq3 hm.hi).trans (hm.soft i);exact⟨hq3,hX3.c0,hX3.c1,hX3.c2,hX3.c3,ac hq3 t0,ac hq3 t1,ac hq3 t2,ac hq3 t3,hz _,hz _,hz _,hz _⟩
theorem um(m:Nat)(hm:m<=1000000000)(ih:Hid (nm m)):nm (m+1):=by
 intro t k s x A n c w hsz hN;obtain⟨ks,rfl,hk255,hsm,hx,hK⟩:=hN;have hb0:Below w.heap.size w ((w.alloc (.cells #[.int .u8 k,.string s,.int .i64 x,.slice A n c] 44)).alloc (.cells #[.int .u8 0,.string ⟨#[]⟩,.int .i64 0,.slice none 0 0] 44)):=((ai _ _).alloc (ah _) _).alloc (by simp) _;have HB0:=aa hb0;have HK:=aa (hK.below hb0);have HKW:=aa hK;have HSZ:Hid (ao ks<=m):=(by show _<=_;simp only[ag.sz] at hsz;omega);have HLN:Hid (n=ks.length):=hK.1;have hnb:n<=1000000000:=(by have h1:=eA ks;have h2:=HSZ.out;have h3:=HLN.out;omega);clear hsz hb0 hK
 go_in
 go_wp2_with fail;refine(xO ks _ _ _ w _ HKW.out HB0.out hnb).mono ?_;rintro e w1 ⟨A1,c1,rfl,hb1,hn1,hc1,hro1,hcl⟩;have HRO:=aa hro1;clear hro1;have HB1:=aa hb1;have HCL:=aa hcl;clear hb1 hcl;have hbox:w1.heap[w.heap.size]? =some (.cells #[.int .u8 k,.string s,.int .i64 x,.slice A n c] 44 (0,0)):=(HB1.out.block _ (by simp;omega)).trans ((heap_alloc_old _ _ (by simp)).trans (heap_alloc_new _ _));have hres:w1.heap[w.heap.size+1]? =some (.cells #[.int .u8 0,.string ⟨#[]⟩,.int .i64 0,.slice none 0 0] 44 (0,0)):=(HB1.out.block _ (by simp)).trans (aQ (by simp));have HBX:=aa hbox;have HRS:=aa hres;obtain⟨c0,c1',c2,c3,f0,f1,f2,f3⟩:=di hbox;clear hbox hres;have HW1:Hid (Below w.heap.size w w1):=HB0.out.trans (HB1.out.mono HB0.out.size);have HRO3:Hid (bd (w1.setCell ⟨w.heap.size,3,none⟩ (.slice A1 n c1)) (w.heap.size+2) 44 4 (.slice A1 n c1)):=HRO.out.keep (by simp) fun q e=>aY _ _ _ _ (by have:=(HRO.out.lt e).1;simp at this;show q≠w.heap.size;omega);have HM:Hid ((ks=[]/\bd (w1.setCell ⟨w.heap.size,3,none⟩ (.slice A1 n c1)) (w.heap.size+2) 44 4 (.slice A1 n c1))∨∃g,A1=some ⟨g,0,none⟩/\iA w (w1.setCell ⟨w.heap.size,3,none⟩ (.slice A1 n c1)) g 0 ks n c1):=by
  rcases HCL.out with e|⟨g,e,h1,h2,h3,h4⟩
  .exact .inl ⟨e,HRO3.out⟩
  .simp at h1;refine .inr ⟨g,e,by omega,by simpa using h2,fun j=>?_,?_,⟨[],rfl,fun v hv=>absurd hv (by simp),by simp[aW]⟩,fun i t ht=>?_⟩
   .rw[World.frozen?_setCell];exact h3 j
   .obtain⟨m,xs,q1,q2⟩:=HRO3.out;subst e;rcases q2 with ⟨hv,_⟩|⟨g',cap,cur,hv,hg,r⟩
    .cases hv
    .injection hv with v1 v2 v3;injection v1 with v1;injection v1 with v1;subst v1 v2 v3;exact⟨n,xs,q1,.inr ⟨g,c1,cur,rfl,ah _,r⟩⟩
   .obtain⟨A2,c2,t0,t1,t2,t3,t4,t5,t6,t7⟩:=h4 i t ht;have hs:∀{a:Addr} {v:Value},a.block=g->w1.cell? a=some v->(w1.setCell ⟨w.heap.size,3,none⟩ (.slice A1 n c1)).cell? a=some v:=fun e h=>by rw[World.cell?_setCell_other _ _ _ _ (fun e'=>by have e2:w.heap.size=g:=(congrArg Addr.block e').trans e;omega)];exact h
    exact⟨A2,c2,hs rfl t0,hs rfl t1,hs rfl t2,hs rfl t3,fun h=>absurd h (by omega),fun _=>t4,t5,t6,t7⟩
 clear HCL;have HX0:Hid ((w1.setCell ⟨w.heap.size,3,none⟩ (.slice A1 n c1)).heap[w.heap.size]? =some (.cells #[.int .u8 k,.string s,.int .i64 x,.slice A1 n c1] 44 (0,0))):=by show _=_;have h:=HBX.out;simp[World.setCell,Array.getElem?_modify,h]
 have HR0:Hid ((w1.setCell ⟨w.heap.size,3,none⟩ (.slice A1 n c1)).heap[w.heap.size+1]? =some (.cells #[.int .u8 0,.string ⟨#[]⟩,.int .i64 0,.slice none 0 0] 44 (0,0))):=by show _=_;rw[aY _ _ _ _ (by simp)];exact HRS.out
 go_wp2_with fail;go_loopw [11] (fun i wr=>∃j:Nat,j<=n/\i= .int .i64 j/\Hid (Below w.heap.size w wr)/\Hid (wr.heap[w.heap.size]? =some (.cells #[.int .u8 k,.string s,.int .i64 x,.slice A1 n c1] 44 (0,0)))/\Hid (wr.heap[w.heap.size+1]? =some (.cells #[.int .u8 0,.string ⟨#[]⟩,.int .i64 0,.slice none 0 0] 44 (0,0)))/\Hid ((ks=[]/\bd wr (w.heap.size+2) 44 4 (.slice A1 n c1))∨∃g,A1=some ⟨g,0,none⟩/\iA w wr g j ks n c1)) (fun i _=>n - (intOf i).toNat);case atStart=>exact⟨0,aE _,rfl,HW1.out.setCell (ah _) _,HX0,HR0,HM⟩
 case round=>
  clear c0 c1' c2 c3 f0 f1 f2 f3 HM HX0 HR0;obtain⟨j,hj,rfl,HB,HX,HRR,HM⟩:=hrel;by_cases hlt:j<n
  .obtain⟨g,rfl,hmid⟩:=HM.out.resolve_left (fun e=>by have:=HLN.out;rw[e.1] at this;simp at this;omega);have HMD:=aa hmid;have HT:Hid (ks[j]? =some (ks[j]'(by have:=HLN.out;omega))):=br _;generalize (ks[j]'(by have:=HLN.out;omega))=t at HT;obtain⟨A2,k2,t0,t1,t2,t3,_,hk,b1,b2,b3⟩:=hmid.at_ j t HT.out;have HND:=aa (show cf _ t t.kind (sb t.text) t.num A2 t.kids.length k2 from⟨t.kids,by cases t;rfl,b1,b2,b3,(hk (ah _)).below HB.out⟩);have HST:Hid (t.sz<=m):=aJ (jL HT.out) HSZ.out;obtain⟨c0,c1',c2,c3,f0,f1,f2,f3⟩:=di HX.out;clear hk b1 b2 b3 hmid;have hlB:w.heap.size<_:=bK c0;have hlR:=aa (bK (di HRR.out).c0);go_wp2_with fail
   go_region_with (go_at_call 184;refine(ih.out t _ _ _ _ _ _ _ HST.out (HND.out.below (ax (ai _ _) 1))).mono ?_;rintro e w3 ⟨A3,k3,rfl,hf3,hb3⟩;obtain⟨hq3,d0,d1,d2,d3,s0,s1,s2,s3,z0,z1,z2,z3⟩:=tq hb3 HX.out HMD.out t0 t1 t2 t3 hlB)
   all_goals
    have HM3:=aa (HMD.out.next HT.out hq3.out hf3);have HX3:=aa (ry (v0:=.int .u8 t.kind) (v1:=.string (sb t.text)) (v2:=.int .i64 t.num) (v3:=.slice A3 t.kids.length k3) ((hq3.out.block _ hlB).trans HX.out) (show w.heap.size≠g by have:=HMD.out.lo;omega) (j*4) (j*4+1) (j*4+2) (j*4+3));have HR3:=aa (ry (v0:=.int .u8 t.kind) (v1:=.string (sb t.text)) (v2:=.int .i64 t.num) (v3:=.slice A3 t.kids.length k3) ((hq3.out.block _ hlR.out).trans HRR.out) (show w.heap.size+1≠g by have:=HMD.out.lo;omega) (j*4) (j*4+1) (j*4+2) (j*4+3));have HB4:=aa (af HB.out hq3.out);have hgB:w.heap.size<=g:=(by have:=HMD.out.lo;omega);clear hf3 hb3 d0 d1 d2 d3 s0 s1 s2 s3 z0 z1 z2 z3;go_wp2;go_roundw;case rel=>exact⟨j+1,by omega,by go_num,(((HB4.out.setCell hgB _).setCell hgB _).setCell hgB _).setCell hgB _,HX3,HR3,.inr ⟨g,rfl,HM3.out⟩⟩
    case measure=>simp[intOf];omega
  .obtain⟨c0,c1',c2,c3,f0,f1,f2,f3⟩:=di HX.out;obtain⟨r0,r1,r2,r3,g0,g1,g2,g3⟩:=di HRR.out;go_wp2_with fail;have HFK:Hid (bJ ((((wr.setCell ⟨w.heap.size+1,0,none⟩ (.int .u8 k)).setCell ⟨w.heap.size+1,1,none⟩ (.string s)).setCell ⟨w.heap.size+1,2,none⟩ (.int .i64 x)).setCell ⟨w.heap.size+1,3,none⟩ (.slice A1 n c1)) w.heap.size ks A1 n c1):=by
    rcases HM.out with ⟨e,hro⟩|⟨g,rfl,hmid⟩
    .have h:=HLN.out;subst e;refine⟨⟨h,hn1,hc1,.inl rfl⟩,_,cZ.nil (hro.keep (by omega) fun q e=>?_)⟩;have hq:=(hro.lt e).1;rw[aY _ _ _ _ (show q≠w.heap.size+1 by omega),aY _ _ _ _ (show q≠w.heap.size+1 by omega),aY _ _ _ _ (show q≠w.heap.size+1 by omega),aY _ _ _ _ (show q≠w.heap.size+1 by omega)]
    .have hjn:j=ks.length:=(by have:=HLN.out;omega);subst hjn;have hlo:=hmid.lo;refine bJ.keep (hmid.done HLN.out hn1 hc1) (by omega) fun q ha _=>?_;rw[aY _ _ _ _ (show q≠w.heap.size+1 by omega),aY _ _ _ _ (show q≠w.heap.size+1 by omega),aY _ _ _ _ (show q≠w.heap.size+1 by omega),aY _ _ _ _ (show q≠w.heap.size+1 by omega)]
   obtain⟨a0,a1,a2,a3⟩:=mL (v0:=.int .u8 k) (v1:=.string s) (v2:=.int .i64 x) (v3:=.slice A1 n c1) r0 r1 r2 r3;refine bodyPost_ret (v:=.agg #[.int .u8 k,.string s,.int .i64 x,.slice A1 n c1]) (by simp[results,Tryz.results184,go_sem,a0,a1,a2,a3]) rfl ⟨A1,c1,rfl,HFK.out,(((HB.out.setCell (by simp) _).setCell (by simp) _).setCell (by simp) _).setCell (by simp) _⟩
theorem pW:∀m,m<=1000000000->nm m
 |0,_=>by intro t k s x A n c w hsz;obtain⟨k0,s0,x0,ks0⟩:=t;simp[ag.sz] at hsz
 |m+1,h=>um m (by omega) (aa (pW m (by omega)))
theorem ya(t:ag)(k:Nat)(s:ByteArray)(x:Int)(A:Option Addr)(n c:Nat)(w:World)(hsz:t.sz<=1000000)(hN:cf w t k s x A n c):Calls Tryz.prog 184 #[.agg #[.int .u8 k,.string s,.int .i64 x,.slice A n c]] w (pm t.kids k s x n w):=pW 1000000 (by omega) t k s x A n c w hsz hN
theorem ye(ps:List Int)(os ns:List ag)(pA:Option Addr)(pn pc:Nat)(i j:Int)(f t:ByteArray)(oA:Option Addr)(on oc:Nat)(nA:Option Addr)(nn nc:Nat)(w:World)(hp:aA w ps pA pn pc)(ho:KidsAt w os oA on oc)(hn:KidsAt w ns nA nn nc)(hE:bI w)(hsz:f.size+t.size<=9223372036854775806)(hso:bi 9223372036854775806 os)(hsn:bi 9223372036854775806 ns):Calls Tryz.prog 22 #[.agg #[.int .u8 2,.slice pA pn pc,.int .i64 i,.int .i64 j,.string f,.string t,.slice oA on oc,.slice nA nn nc]] w (ak (ap ⟨2,ps,i,j,bl f,bl t,os,ns⟩) w):=by
 have hb0:Below w.heap.size w (w.alloc (.cells #[.int .u8 2,.slice pA pn pc,.int .i64 i,.int .i64 j,.string f,.string t,.slice oA on oc,.slice nA nn nc] 26)):=(ai _ _).alloc (ah _) _;have HB0:=aa hb0;have HE:=aa (hE.below hb0 (ah _));have HP:=aa (hp.below hb0);have HO:=aa (ho.below hb0);have HN:=aa (hn.below hb0);have HR:=aa (kw ⟨2,ps,i,j,bl f,bl t,os,ns⟩);have HBX:=aa (bw.new (w:=w) (x0:=.int .u8 2) (x1:=.slice pA pn pc) (x2:=.int .i64 i) (x3:=.int .i64 j) (x4:=.string f) (x5:=.string t) (x6:=.slice oA on oc) (x7:=.slice nA nn nc) (T:=26));have HSO:=aa hso;have HSN:=aa hsn;have HLP:Hid (pn=ps.length):=hp.1;have HLO:Hid (on=os.length):=ho.1;have HLN:Hid (nn=ns.length):=hn.1;have hfs:f.size<=9223372036854775806:=(by omega);have hts:t.size<=9223372036854775806:=(by omega);have hpn:pn<=9223372036854775807:=(by have h1:=hp.2.1;have h2:=hp.2.2.1;unfold maxLen at h2;omega);have hon:on<=9223372036854775807:=(by have h1:=ho.2.1;have h2:=ho.2.2.1;unfold maxLen at h2;omega);have hnn:nn<=9223372036854775807:=(by have h1:=hn.2.1;have h2:=hn.2.2.1;unfold maxLen at h2;omega);have hcf:=jy;clear hb0 hE hp ho hn hso hsn
 go_in
 go_wp2_with fail
 go_quiet (fail)
 go_wp2_with fail;refine(kG ps _ _ _ _ (HP.out.below (ax (ai _ _) _))).mono ?_;rintro e wq ⟨rfl,q1,rfl⟩;cases ha:ps.all aH with
 |false=>have HV:Hid (ap _=false):=HR.out.trans (by simp[aI,aq,aG,aF,ha]);go_wp2_with fail;go_ret;exact ak.intro HV.out.symm (ax HB0.out _)
 |true=>
  go_wp2_with fail;refine(fT i _).mono ?_;rintro e wq ⟨rfl,q2,rfl⟩;cases hi:aH i with
  |false=>have HV:Hid (ap _=false):=HR.out.trans (by simp[aI,aq,aG,aF,ha,hi]);go_wp2_with fail;go_ret;exact ak.intro HV.out.symm (ax HB0.out _)
  |true=>
   go_wp2_with fail;refine(fT j _).mono ?_;rintro e wq ⟨rfl,q3,rfl⟩;cases hj:aH j with
   |false=>have HV:Hid (ap _=false):=HR.out.trans (by simp[aI,aq,aG,aF,ha,hi,hj]);go_wp2_with fail;go_ret;exact ak.intro HV.out.symm (ax HB0.out _)
   |true=>
    cases hij:(i == j) with
    |false=>
     have n_hij:(i != j)=true:=(by simpa using hij);cases hj0:(j == 0) with
     |false=>have n_hj0:(j != 0)=true:=(by simpa using hj0);have HV:Hid (ap _=false):=HR.out.trans (by simp[aI,aq,aG,aF,ha,hi,hj,hij,hj0]);go_wp2_with fail;go_ret;exact ak.intro HV.out.symm (ax HB0.out _)
     |true=>
      have q_hj0:(j != 0)=false:=(by simpa using hj0);go_wp2_with fail;cases hem:(bl f++bl t).isEmpty with
      |false=>
       have hne:(!(f++t).toList.isEmpty)=true:=(by rw[bG,eS,hem];rfl);refine(cW f _ (HE.out.below (ax (ai _ _) _) (ah _)) hfs).mono ?_;rintro e w1 ⟨rfl,hb1⟩;have HA1:=aa (af (ax (ai _ _) _) hb1);clear hb1;obtain⟨c0,c1,c2,c3,c4,c5,c6,c7⟩:=HBX.out.below HA1.out;cases hf:be (bl f) with
       |false=>have HV:Hid (ap _=false):=HR.out.trans (by simp[aI,aq,aG,aF,ha,hi,hj,hij,hj0,hem,hf]);go_wp2_with fail;go_ret;exact ak.intro HV.out.symm (af HB0.out HA1.out)
       |true=>
        go_wp2_with fail;refine(cW t _ (HE.out.below HA1.out (ah _)) hts).mono ?_;rintro e w2 ⟨rfl,hb2⟩;have HA2:=aa (af HA1.out hb2);clear hb2;clear c0 c1 c2 c3 c4 c5 c6 c7;obtain⟨c0,c1,c2,c3,c4,c5,c6,c7⟩:=HBX.out.below HA2.out;cases ht:be (bl t) with
        |false=>have HV:Hid (ap _=false):=HR.out.trans (by simp[aI,aq,aG,aF,ha,hi,hj,hij,hj0,hem,hf,ht]);go_wp2_with fail;go_ret;exact ak.intro HV.out.symm (af HB0.out HA2.out)
        |true=>
         cases hft:(bl f == bl t) with
         |true=>obtain rfl:=fk (by simpa using hft);have HV:Hid (ap _=false):=HR.out.trans (by simp[aI,aq,aG,aF,ha,hi,hj,hij,hj0,hem,hf,ht,hft]);go_wp2_with fail;go_ret;exact ak.intro HV.out.symm (af HB0.out HA2.out)
         |false=>have e0:(f.toList == t.toList)=false:=fW (by simpa using hft);have HV:Hid (ap _=false):=HR.out.trans (by simp[aI,aq,aG,aF,ha,hi,hj,hij,hj0,hem,hf,ht,hft]);go_wp2_with fail;go_ret;exact ak.intro HV.out.symm (af HB0.out HA2.out)
      |true=>
       have hee:(!(f++t).toList.isEmpty)=false:=(by rw[bG,eS,hem];rfl);have hf0:be (bl f)=false:=(by rw[(List.append_eq_nil_iff.1 (List.isEmpty_iff.1 hem)).1];rfl);refine(cW f _ (HE.out.below (ax (ai _ _) _) (ah _)) hfs).mono ?_;rintro e w1 ⟨rfl,hb1⟩;have HA1:=aa (af (ax (ai _ _) _) hb1);clear hb1;obtain⟨c0,c1,c2,c3,c4,c5,c6,c7⟩:=HBX.out.below HA1.out;rw[hf0];go_wp2_with fail;refine(eC os _ _ _ _ (HO.out.below HA1.out) HSO.out (HE.out.below HA1.out (ah _))).mono ?_;rintro e w2 ⟨rfl,hb2⟩;have HA2:=aa (af HA1.out hb2);clear hb2;clear c0 c1 c2 c3 c4 c5 c6 c7;obtain⟨c0,c1,c2,c3,c4,c5,c6,c7⟩:=HBX.out.below HA2.out;cases hpo:bR os with
       |true=>have HV:Hid (ap _=false):=HR.out.trans (by simp[aI,aq,aG,aF,ha,hi,hj,hij,hj0,hem,hf0,hpo]);go_wp2_with fail;go_ret;exact ak.intro HV.out.symm (af HB0.out HA2.out)
       |false=>
        go_wp2_with fail;refine(eC ns _ _ _ _ (HN.out.below HA2.out) HSN.out (HE.out.below HA2.out (ah _))).mono ?_;rintro e w3 ⟨rfl,hb3⟩;have HA3:=aa (af HA2.out hb3);clear hb3;clear c0 c1 c2 c3 c4 c5 c6 c7;obtain⟨c0,c1,c2,c3,c4,c5,c6,c7⟩:=HBX.out.below HA3.out;cases hpn:bR ns with
        |false=>have HV:Hid (ap _=false):=HR.out.trans (by simp[aI,aq,aG,aF,ha,hi,hj,hij,hj0,hem,hf0,hpo,hpn]);go_wp2_with fail;go_ret;exact ak.intro HV.out.symm (af HB0.out HA3.out)
        |true=>
         cases heo:os.isEmpty with
         |false=>
          have gheo:(0:Int)<on:=by
           have e1:=HLO.out;cases os with
           |nil=>cases heo
           |cons a l=>simp at e1;omega
          have HV:Hid (ap _=false):=HR.out.trans (by simp[aI,aq,aG,aF,ha,hi,hj,hij,hj0,hem,hf0,hpo,hpn,heo]);go_wp2_with fail;go_ret;exact ak.intro HV.out.symm (af HB0.out HA3.out)
         |true=>
          have gheo:¬(0:Int)<on:=(by have e1:=HLO.out;have e2:=List.isEmpty_iff.1 heo;subst e2;simp at e1;omega);have HV:Hid (ap _=true):=HR.out.trans (by simp[aI,aq,aG,aF,ha,hi,hj,hij,hj0,hem,hf0,hpo,hpn,heo]);go_wp2_with fail
          go_quiet (fail)
          go_wp2;go_ret;exact ak.intro HV.out.symm (ax (af HB0.out HA3.out) _)
    |true=>
     have q_hij:(i != j)=false:=(by simpa using hij);cases hj0:(j == 0) with
     |false=>have n_hj0:(j != 0)=true:=(by simpa using hj0);have HV:Hid (ap _=false):=HR.out.trans (by simp[aI,aq,aG,aF,ha,hi,hj,hij,hj0]);go_wp2_with fail;go_ret;exact ak.intro HV.out.symm (ax HB0.out _)
     |true=>
      have q_hj0:(j != 0)=false:=(by simpa using hj0);go_wp2_with fail;cases hem:(bl f++bl t).isEmpty with
      |false=>
       have hne:(!(f++t).toList.isEmpty)=true:=(by rw[bG,eS,hem];rfl);refine(cW f _ (HE.out.below (ax (ai _ _) _) (ah _)) hfs).mono ?_;rintro e w1 ⟨rfl,hb1⟩;have HA1:=aa (af (ax (ai _ _) _) hb1);clear hb1;obtain⟨c0,c1,c2,c3,c4,c5,c6,c7⟩:=HBX.out.below HA1.out;cases hf:be (bl f) with
       |false=>have HV:Hid (ap _=false):=HR.out.trans (by simp[aI,aq,aG,aF,ha,hi,hj,hij,hj0,hem,hf]);go_wp2_with fail;go_ret;exact ak.intro HV.out.symm (af HB0.out HA1.out)
       |true=>
        go_wp2_with fail;refine(cW t _ (HE.out.below HA1.out (ah _)) hts).mono ?_;rintro e w2 ⟨rfl,hb2⟩;have HA2:=aa (af HA1.out hb2);clear hb2;clear c0 c1 c2 c3 c4 c5 c6 c7;obtain⟨c0,c1,c2,c3,c4,c5,c6,c7⟩:=HBX.out.below HA2.out;cases ht:be (bl t) with
        |false=>have HV:Hid (ap _=false):=HR.out.trans (by simp[aI,aq,aG,aF,ha,hi,hj,hij,hj0,hem,hf,ht]);go_wp2_with fail;go_ret;exact ak.intro HV.out.symm (af HB0.out HA2.out)
        |true=>
         cases hft:(bl f == bl t) with
         |true=>obtain rfl:=fk (by simpa using hft);have HV:Hid (ap _=false):=HR.out.trans (by simp[aI,aq,aG,aF,ha,hi,hj,hij,hj0,hem,hf,ht,hft]);go_wp2_with fail;go_ret;exact ak.intro HV.out.symm (af HB0.out HA2.out)
         |false=>have e0:(f.toList == t.toList)=false:=fW (by simpa using hft);have HV:Hid (ap _=false):=HR.out.trans (by simp[aI,aq,aG,aF,ha,hi,hj,hij,hj0,hem,hf,ht,hft]);go_wp2_with fail;go_ret;exact ak.intro HV.out.symm (af HB0.out HA2.out)
      |true=>
       have hee:(!(f++t).toList.isEmpty)=false:=(by rw[bG,eS,hem];rfl);have hf0:be (bl f)=false:=(by rw[(List.append_eq_nil_iff.1 (List.isEmpty_iff.1 hem)).1];rfl);refine(cW f _ (HE.out.below (ax (ai _ _) _) (ah _)) hfs).mono ?_;rintro e w1 ⟨rfl,hb1⟩;have HA1:=aa (af (ax (ai _ _) _) hb1);clear hb1;obtain⟨c0,c1,c2,c3,c4,c5,c6,c7⟩:=HBX.out.below HA1.out;rw[hf0];go_wp2_with fail;refine(eC os _ _ _ _ (HO.out.below HA1.out) HSO.out (HE.out.below HA1.out (ah _))).mono ?_;rintro e w2 ⟨rfl,hb2⟩;have HA2:=aa (af HA1.out hb2);clear hb2;clear c0 c1 c2 c3 c4 c5 c6 c7;obtain⟨c0,c1,c2,c3,c4,c5,c6,c7⟩:=HBX.out.below HA2.out;cases hpo:bR os with
       |true=>have HV:Hid (ap _=false):=HR.out.trans (by simp[aI,aq,aG,aF,ha,hi,hj,hij,hj0,hem,hf0,hpo]);go_wp2_with fail;go_ret;exact ak.intro HV.out.symm (af HB0.out HA2.out)
       |false=>
        go_wp2_with fail;refine(eC ns _ _ _ _ (HN.out.below HA2.out) HSN.out (HE.out.below HA2.out (ah _))).mono ?_;rintro e w3 ⟨rfl,hb3⟩;have HA3:=aa (af HA2.out hb3);clear hb3;clear c0 c1 c2 c3 c4 c5 c6 c7;obtain⟨c0,c1,c2,c3,c4,c5,c6,c7⟩:=HBX.out.below HA3.out;cases hpn:bR ns with
        |false=>have HV:Hid (ap _=false):=HR.out.trans (by simp[aI,aq,aG,aF,ha,hi,hj,hij,hj0,hem,hf0,hpo,hpn]);go_wp2_with fail;go_ret;exact ak.intro HV.out.symm (af HB0.out HA3.out)
        |true=>
         cases heo:os.isEmpty with
         |false=>
          have gheo:(0:Int)<on:=by
           have e1:=HLO.out;cases os with
           |nil=>cases heo
           |cons a l=>simp at e1;omega
          have HV:Hid (ap _=false):=HR.out.trans (by simp[aI,aq,aG,aF,ha,hi,hj,hij,hj0,hem,hf0,hpo,hpn,heo]);go_wp2_with fail;go_ret;exact ak.intro HV.out.symm (af HB0.out HA3.out)
         |true=>
          have gheo:¬(0:Int)<on:=(by have e1:=HLO.out;have e2:=List.isEmpty_iff.1 heo;subst e2;simp at e1;omega);have HV:Hid (ap _=true):=HR.out.trans (by simp[aI,aq,aG,aF,ha,hi,hj,hij,hj0,hem,hf0,hpo,hpn,heo]);go_wp2_with fail
          go_quiet (fail)
          go_wp2;go_ret;exact ak.intro HV.out.symm (ax (af HB0.out HA3.out) _)
end Go.Proofs.YtlkmefhogabgdaaGreatDoor
