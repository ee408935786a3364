/- Part 5 of the proof. -/
import Derived.Test.YtckbdkgcoilmpaaGreatDoorMnD
namespace Go.Proofs.YtckbdkgcoilmpaaGreatDoor
open Go.RowKit
set_option linter.all false
set_option maxHeartbeats 40000000
set_option maxRecDepth 100000
def pm(ks:List ag)(k:Nat)(s:ByteArray)(x:Int)(n:Nat)(w:World)(e:Ending)(w':World):Prop:=
 ∃A c,e= .returned (.agg #[.int .u8 k,.string s,.int .i64 x,.slice A n c])/\bJ w' w.heap.size ks A n c/\Below w.heap.size w w'
def D7(m:Nat):Prop:=∀(t:ag) (k:Nat) (s:ByteArray) (x:Int) (A:Option Addr) (n c:Nat) (w:World),t.sz<=m->cf w t k s x A n c->
 Calls Tryz.prog 48 #[.agg #[.int .u8 k,.string s,.int .i64 x,.slice A n c]] w (pm t.kids k s x n w)
theorem AV(t:ag):1<=t.sz:=by cases t;simp[ag.sz]
theorem eA:∀ks:List ag,ks.length<=ao ks
 |[]=>by simp
 |t::ts=>by have:=eA ts;have h:=AV t;simp[ao];omega
theorem dd{B:Nat}{w w':World}(hb:Below B w w'){a:Addr}(h:a.block<B):w'.frozen? a=w.frozen? a:=by unfold World.frozen?;rw[hb.block _ h]
structure iA (w wr:World) (g j:Nat) (ks:List ag) (n c:Nat):Prop where
 lo:w.heap.size+2<=g
 hi:g<wr.heap.size
 soft:∀j,wr.frozen? ⟨g,j,none⟩=false
 row:bd wr g 25 4 (.slice (some ⟨g,0,none⟩) n c)
 foot:∃R,cR wr (ks.take j) g 0 R/\(∀v∈R,bd wr (g+1) 25 4 v)/\(aW R).Nodup
 at_:∀i t,ks[i]? =some t->∃A c,wr.cell? ⟨g,i*4,none⟩=some (.int .u8 t.kind)/\wr.cell? ⟨g,i*4+1,none⟩=some (.string (sb t.text))/\wr.cell? ⟨g,i*4+2,none⟩=some (.int .i64 t.num)/\wr.cell? ⟨g,i*4+3,none⟩=some (.slice A t.kids.length c)/\
  (i<j->bJ wr (g+1) t.kids A t.kids.length c)/\(j<=i->ce w t.kids A t.kids.length c)/\t.kind<=255/\t.text.length<=maxLen/\tw t.num
theorem iA.done{w wr:World}{g:Nat}{ks:List ag}{n c:Nat}(h:iA w wr g ks.length ks n c)(hn:n=ks.length)(h1:n<=c)(h2:c<=maxLen):bJ wr g ks (some ⟨g,0,none⟩) n c:=by
 refine⟨⟨hn,h1,h2,.inr ⟨g,0,rfl,ch.mk fun i t ht=>?_⟩⟩,?_⟩;rotate_left
 .obtain⟨R,r1,r2,r3⟩:=h.foot;rw[List.take_length] at r1;refine⟨_,cZ.mk' r1 h.row (fun v hv=>(r2 v hv).keep (by omega) fun _ _=>rfl) r3 fun hg=>?_⟩;obtain⟨v,hv,e⟩:=eV hg;have:=((r2 v hv).lt e).1;omega
 obtain⟨A,c,t0,t1,t2,t3,t4,_,t5,t6,t7⟩:=h.at_ i t ht;have hg:=h.lo;have hs:∀{a:Addr} {v:Value},a.block=g->wr.cell? a=some v->(cX wr g).cell? a=some v:=fun e h=>i8.2 ⟨by omega,h⟩;rw[Nat.zero_add];exact cJ.of (hs rfl t0) (hs rfl t1) (hs rfl t2) (hs rfl t3) (kR (t4 (gl.1 ht).1).1 (by omega) fun _ _ _ h=>h) t5 t6 t7
structure nh (w:World) (b:Nat) (x y z u:Value):Prop where
 c0:w.cell? ⟨b,0,none⟩=some x
 c1:w.cell? ⟨b,1,none⟩=some y
 c2:w.cell? ⟨b,2,none⟩=some z
 c3:w.cell? ⟨b,3,none⟩=some u
 f0:w.frozen? ⟨b,0,none⟩=false
 f1:w.frozen? ⟨b,1,none⟩=false
 f2:w.frozen? ⟨b,2,none⟩=false
 f3:w.frozen? ⟨b,3,none⟩=false
theorem di{w:World}{b:Nat}{x y z u:Value}{T:TypeId}(h:w.heap[b]? =some (.cells #[x,y,z,u] T (0,0))):nh w b x y z u:=by have hc:=fun j=>cell_of_row w b j _ T (0,0) h;refine⟨by rw[hc];rfl,by rw[hc];rfl,by rw[hc];rfl,by rw[hc];rfl,?_,?_,?_,?_⟩ <;>simp[World.frozen?,h]
theorem am{w:World}{g p:Nat}{u:Value}{a:Addr}{v:Value}(hne:a≠⟨g,p,none⟩)(h:w.cell? a=some v):(w.setCell ⟨g,p,none⟩ u).cell? a=some v:=by rw[World.cell?_setCell_other _ _ _ _ (fun e=>hne e.symm)];exact h
theorem set_self{w:World}{g p:Nat}{u v:Value}(h:w.cell? ⟨g,p,none⟩=some v):(w.setCell ⟨g,p,none⟩ u).cell? ⟨g,p,none⟩=some u:=by exact World.cell?_setCell_same _ _ _ h
theorem iA.next{w wr w3:World}{g j:Nat}{ks:List ag}{t:ag}{A3:Option Addr}{k3 n c:Nat}(h:iA w wr g j ks n c)(ht:ks[j]? =some t)(hq:Below wr.heap.size wr w3)(hf:bJ w3 wr.heap.size t.kids A3 t.kids.length k3):iA w ((((w3.setCell ⟨g,j*4,none⟩ (.int .u8 t.kind)).setCell ⟨g,j*4+1,none⟩ (.string (sb t.text))).setCell ⟨g,j*4+2,none⟩ (.int .i64 t.num)).setCell ⟨g,j*4+3,none⟩ (.slice A3 t.kids.length k3)) g (j+1) ks n c:=by
 have hg:=h.hi;have hblk:∀q,q≠g->((((w3.setCell ⟨g,j*4,none⟩ (.int .u8 t.kind)).setCell ⟨g,j*4+1,none⟩ (.string (sb t.text))).setCell ⟨g,j*4+2,none⟩ (.int .i64 t.num)).setCell ⟨g,j*4+3,none⟩ (.slice A3 t.kids.length k3)).heap[q]? =w3.heap[q]? :=fun q hne=>by rw[aY _ _ _ _ hne,aY _ _ _ _ hne,aY _ _ _ _ hne,aY _ _ _ _ hne]
 have hfar:∀a v,a.block≠g->w3.cell? a=some v->((((w3.setCell ⟨g,j*4,none⟩ (.int .u8 t.kind)).setCell ⟨g,j*4+1,none⟩ (.string (sb t.text))).setCell ⟨g,j*4+2,none⟩ (.int .i64 t.num)).setCell ⟨g,j*4+3,none⟩ (.slice A3 t.kids.length k3)).cell? a=some v:=by intro a v hne hc;have hn:∀p,a≠⟨g,p,none⟩:=fun p e=>hne (by rw[e]);exact am (hn _) (am (hn _) (am (hn _) (am (hn _) hc)))
 have hoff:∀p v,p≠j*4->p≠j*4+1->p≠j*4+2->p≠j*4+3->w3.cell? ⟨g,p,none⟩=some v->((((w3.setCell ⟨g,j*4,none⟩ (.int .u8 t.kind)).setCell ⟨g,j*4+1,none⟩ (.string (sb t.text))).setCell ⟨g,j*4+2,none⟩ (.int .i64 t.num)).setCell ⟨g,j*4+3,none⟩ (.slice A3 t.kids.length k3)).cell? ⟨g,p,none⟩=some v:=by intro p v h0 h1 h2 h3 hc;have hn:∀q,p≠q->(⟨g,p,none⟩:Addr)≠⟨g,q,none⟩:=fun q hq e=>hq (by injection e);exact am (hn _ h3) (am (hn _ h2) (am (hn _ h1) (am (hn _ h0) hc)))
 refine⟨h.lo,?_,fun i=>?_,?_,?_,fun i t' ht'=>?_⟩
 .have:=hq.size;simp;omega
 .simp only[World.frozen?_setCell];exact(dd (a:=⟨g,i,none⟩) hq hg).trans (h.soft i)
 .exact(((((h.row.keep (ah _) fun q e=>by simp only[Value.ownBlock,Option.some.injEq] at e;subst e;exact hq.block _ hg).put _ _).put _ _).put _ _).put _ _)
 .obtain⟨R,r1,r2,r3⟩:=h.foot;obtain⟨_,R3,f1⟩:=hf;have hlt:∀q∈aW R,g<q/\q<wr.heap.size:=fun q hq=>by obtain⟨v,hv,e⟩:=eV hq;have:=(r2 v hv).lt e;omega
  have hlt3:∀q∈aW R3,wr.heap.size<=q:=fun q hq=>(f1.lt hq).1;have hbR:∀q,g<q->q<wr.heap.size->((((w3.setCell ⟨g,j*4,none⟩ (.int .u8 t.kind)).setCell ⟨g,j*4+1,none⟩ (.string (sb t.text))).setCell ⟨g,j*4+2,none⟩ (.int .i64 t.num)).setCell ⟨g,j*4+3,none⟩ (.slice A3 t.kids.length k3)).heap[q]? =wr.heap[q]? :=fun q h1 h2=>(hblk q (by omega)).trans (hq.block q h2);have ht2:ks.take (j+1)=ks.take j++[t]:=by have hj:=(gl.1 ht);obtain⟨hj,e⟩:=hj;rw[List.take_succ_eq_append_getElem hj,e]
  have hjl:(ks.take j).length=j:=by have hj:=(gl.1 ht).1;simp;omega
  refine⟨R++R3,?_,?_,?_⟩
  .rw[ht2];refine cR.snoc (cR.keepC r1 (fun i hi=>?_) fun q hq=>hbR q (hlt q hq).1 (hlt q hq).2) (rc.of (A:=A3) (c:=k3) ?_ (f1.rows.keep fun q hq=>hblk q (by have:=hlt3 q hq;omega)))
   .have hi':i<ks.length:=(by have:=List.length_take_le' j ks;omega);obtain⟨A,c,t0,t1,t2,t3,_⟩:=h.at_ i _ (br hi');rw[Nat.zero_add,t3];exact hoff _ _ (by omega) (by omega) (by omega) (by omega) (ac hq t3)
   .obtain⟨A,c,t0,t1,t2,t3,_⟩:=h.at_ j t ht;rw[hjl,Nat.zero_add];exact set_self (am (fun e=>by injection e;omega) (am (fun e=>by injection e;omega) (am (fun e=>by injection e;omega) (ac hq t3))))
  .intro v hv;rcases List.mem_append.1 hv with hv|hv
   .exact(r2 v hv).keep (ah _) fun q e=>hbR q (by have:=((r2 v hv).lt e).1;omega) ((r2 v hv).lt e).2
   .exact(f1.own v hv).keep (by omega) fun q e=>hblk q (by have:=((f1.own v hv).lt e).1;omega)
  .exact iq r3 f1.nd (fun q hq=>(hlt q hq).2) hlt3
 .obtain⟨A,c,t0,t1,t2,t3,t4,t5,t6,t7,t8⟩:=h.at_ i t' ht';by_cases hij:i=j
  .subst hij;rw[ht] at ht';injection ht' with ht';subst ht';have hn:∀p q,p≠q->(⟨g,p,none⟩:Addr)≠⟨g,q,none⟩:=fun p q hq e=>hq (by injection e);refine⟨A3,k3,?_,?_,?_,?_,fun _=>?_,fun hh=>absurd hh (by omega),t6,t7,t8⟩
   .exact am (hn _ _ (by omega)) (am (hn _ _ (by omega)) (am (hn _ _ (by omega)) (set_self (ac hq t0))))
   .exact am (hn _ _ (by omega)) (am (hn _ _ (by omega)) (set_self (am (hn _ _ (by omega)) (ac hq t1))))
   .exact am (hn _ _ (by omega)) (set_self (am (hn _ _ (by omega)) (am (hn _ _ (by omega)) (ac hq t2))))
   .exact set_self (am (hn _ _ (by omega)) (am (hn _ _ (by omega)) (am (hn _ _ (by omega)) (ac hq t3))))
   .exact hf.keep (by omega) fun q h1 h2=>hblk q (by omega)
  .refine⟨A,c,hoff _ _ (by omega) (by omega) (by omega) (by omega) (ac hq t0),hoff _ _ (by omega) (by omega) (by omega) (by omega) (ac hq t1),hoff _ _ (by omega) (by omega) (by omega) (by omega) (ac hq t2),hoff _ _ (by omega) (by omega) (by omega) (by omega) (ac hq t3),fun hh=>?_,fun hh=>t5 (by omega),t6,t7,t8⟩;exact(t4 (by omega)).keep (ah _) fun q h1 h2=>(hblk q (by omega)).trans (hq.block q h2)
theorem ry{w:World}{b g:Nat}{o:Obj}{v0 v1 v2 v3:Value}(h:w.heap[b]? =some o)(hne:b≠g)(p0 p1 p2 p3:Nat):((((w.setCell ⟨g,p0,none⟩ v0).setCell ⟨g,p1,none⟩ v1).setCell ⟨g,p2,none⟩ v2).setCell ⟨g,p3,none⟩ v3).heap[b]? =some o:=by rw[aY _ _ _ _ hne,aY _ _ _ _ hne,aY _ _ _ _ hne,aY _ _ _ _ hne];exact h
theorem mL{w:World}{g:Nat}{v0 v1 v2 v3 x y z u:Value}(h0:w.cell? ⟨g,0,none⟩=some x)(h1:w.cell? ⟨g,1,none⟩=some y)(h2:w.cell? ⟨g,2,none⟩=some z)(h3:w.cell? ⟨g,3,none⟩=some u):((((w.setCell ⟨g,0,none⟩ v0).setCell ⟨g,1,none⟩ v1).setCell ⟨g,2,none⟩ v2).setCell ⟨g,3,none⟩ v3).cell? ⟨g,0,none⟩=some v0/\((((w.setCell ⟨g,0,none⟩ v0).setCell ⟨g,1,none⟩ v1).setCell ⟨g,2,none⟩ v2).setCell ⟨g,3,none⟩ v3).cell? ⟨g,1,none⟩=some v1/\((((w.setCell ⟨g,0,none⟩ v0).setCell ⟨g,1,none⟩ v1).setCell ⟨g,2,none⟩ v2).setCell ⟨g,3,none⟩ v3).cell? ⟨g,2,none⟩=some v2/\((((w.setCell ⟨g,0,none⟩ v0).setCell ⟨g,1,none⟩ v1).setCell ⟨g,2,none⟩ v2).setCell ⟨g,3,none⟩ v3).cell? ⟨g,3,none⟩=some v3:=by
 have hn:∀p q,p≠q->(⟨g,p,none⟩:Addr)≠⟨g,q,none⟩:=fun p q hq e=>hq (by injection e);refine⟨?_,?_,?_,?_⟩
 .exact am (hn _ _ (by omega)) (am (hn _ _ (by omega)) (am (hn _ _ (by omega)) (set_self h0)))
 .exact am (hn _ _ (by omega)) (am (hn _ _ (by omega)) (set_self (am (hn _ _ (by omega)) h1)))
 .exact am (hn _ _ (by omega)) (set_self (am (hn _ _ (by omega)) (am (hn _ _ (by omega)) h2)))
 .exact set_self (am (hn _ _ (by omega)) (am (hn _ _ (by omega)) (am (hn _ _ (by omega)) h3)))
theorem Gz{w wr w3:World}{g j B n c:Nat}{ks:List ag}{x y z u v0 v1 v2 v3:Value}{T:TypeId}(hb3:Below wr.heap.size (wr.drewN 1) w3)(HX:wr.heap[B]? =some (.cells #[x,y,z,u] T (0,0)))(hm:iA w wr g j ks n c)(t0:wr.cell? ⟨g,j*4,none⟩=some v0)(t1:wr.cell? ⟨g,j*4+1,none⟩=some v1)(t2:wr.cell? ⟨g,j*4+2,none⟩=some v2)(t3:wr.cell? ⟨g,j*4+3,none⟩=some v3)(hlB:B<wr.heap.size):Hid (Below wr.heap.size wr w3)/\w3.cell? ⟨B,0,none⟩=some x/\w3.cell? ⟨B,1,none⟩=some y/\w3.cell? ⟨B,2,none⟩=some z/\w3.cell? ⟨B,3,none⟩=some u/\w3.cell? ⟨g,j*4,none⟩=some v0/\w3.cell? ⟨g,j*4+1,none⟩=some v1/\w3.cell? ⟨g,j*4+2,none⟩=some v2/\w3.cell? ⟨g,j*4+3,none⟩=some v3/\w3.frozen? ⟨g,j*4,none⟩=false/\w3.frozen? ⟨g,j*4+1,none⟩=false/\w3.frozen? ⟨g,j*4+2,none⟩=false/\w3.frozen? ⟨g,j*4+3,none⟩=false:=by have hq3:Below wr.heap.size wr w3:=af (bS (ai _ _) 1) hb3;have hX3:=di ((hq3.block _ hlB).trans HX);have hz:∀i,w3.frozen? ⟨g,i,none⟩=false:=fun i=>(dd (a:=⟨g,i,none⟩) hq3 hm.hi).trans (hm.soft i);exact⟨hq3,hX3.c0,hX3.c1,hX3.c2,hX3.c3,ac hq3 t0,ac hq3 t1,ac hq3 t2,ac hq3 t3,hz _,hz _,hz _,hz _⟩
theorem um(m:Nat)(hm:m<=1000000000)(ih:Hid (D7 m)):D7 (m+1):=by
 intro t k s x A n c w hsz hN;obtain⟨ks,rfl,hk255,hsm,hx,hK⟩:=hN;have hb0:Below w.heap.size w ((w.alloc (.cells #[.int .u8 k,.string s,.int .i64 x,.slice A n c] 25)).alloc (.cells #[.int .u8 0,.string ⟨#[]⟩,.int .i64 0,.slice none 0 0] 25)):=((ai _ _).alloc (ah _) _).alloc (by simp) _;have HB0:=aa hb0;have HK:=aa (hK.below hb0);have HKW:=aa hK;have HSZ:Hid (ao ks<=m):=(by show _<=_;simp only[ag.sz] at hsz;omega);have HLN:Hid (n=ks.length):=hK.1;have hnb:n<=1000000000:=(by have h1:=eA ks;have h2:=HSZ.out;have h3:=HLN.out;omega);clear hsz hb0 hK
 go_in
 go_wp2_with fail;refine(xO ks _ _ _ w _ HKW.out HB0.out hnb).mono ?_;rintro e w1 ⟨A1,c1,rfl,hb1,hn1,hc1,hro1,hcl⟩;have HRO:=aa hro1;clear hro1;have HB1:=aa hb1;have HCL:=aa hcl;clear hb1 hcl;have hbox:w1.heap[w.heap.size]? =some (.cells #[.int .u8 k,.string s,.int .i64 x,.slice A n c] 25 (0,0)):=(HB1.out.block _ (by simp;omega)).trans ((heap_alloc_old _ _ (by simp)).trans (heap_alloc_new _ _));have hres:w1.heap[w.heap.size+1]? =some (.cells #[.int .u8 0,.string ⟨#[]⟩,.int .i64 0,.slice none 0 0] 25 (0,0)):=(HB1.out.block _ (by simp)).trans (aQ (by simp));have HBX:=aa hbox;have HRS:=aa hres;obtain⟨c0,c1',c2,c3,f0,f1,f2,f3⟩:=di hbox;clear hbox hres;have HW1:Hid (Below w.heap.size w w1):=HB0.out.trans (HB1.out.mono HB0.out.size);have HRO3:Hid (bd (w1.setCell ⟨w.heap.size,3,none⟩ (.slice A1 n c1)) (w.heap.size+2) 25 4 (.slice A1 n c1)):=HRO.out.keep (by simp) fun q e=>aY _ _ _ _ (by have:=(HRO.out.lt e).1;simp at this;show q≠w.heap.size;omega);have HM:Hid ((ks=[]/\bd (w1.setCell ⟨w.heap.size,3,none⟩ (.slice A1 n c1)) (w.heap.size+2) 25 4 (.slice A1 n c1))∨∃g,A1=some ⟨g,0,none⟩/\iA w (w1.setCell ⟨w.heap.size,3,none⟩ (.slice A1 n c1)) g 0 ks n c1):=by
  rcases HCL.out with e|⟨g,e,h1,h2,h3,h4⟩
  .exact .inl ⟨e,HRO3.out⟩
  .simp at h1;refine .inr ⟨g,e,by omega,by simpa using h2,fun j=>?_,?_,⟨[],rfl,fun v hv=>absurd hv (by simp),by simp[aW]⟩,fun i t ht=>?_⟩
   .rw[World.frozen?_setCell];exact h3 j
   .obtain⟨m,xs,q1,q2⟩:=HRO3.out;subst e;rcases q2 with ⟨hv,_⟩|⟨g',cap,cur,hv,hg,r⟩
    .cases hv
    .injection hv with v1 v2 v3;injection v1 with v1;injection v1 with v1;subst v1 v2 v3;exact⟨n,xs,q1,.inr ⟨g,c1,cur,rfl,ah _,r⟩⟩
   .obtain⟨A2,c2,t0,t1,t2,t3,t4,t5,t6,t7⟩:=h4 i t ht;have hs:∀{a:Addr} {v:Value},a.block=g->w1.cell? a=some v->(w1.setCell ⟨w.heap.size,3,none⟩ (.slice A1 n c1)).cell? a=some v:=fun e h=>by rw[World.cell?_setCell_other _ _ _ _ (fun e'=>by have e2:w.heap.size=g:=(congrArg Addr.block e').trans e;omega)];exact h
    exact⟨A2,c2,hs rfl t0,hs rfl t1,hs rfl t2,hs rfl t3,fun h=>absurd h (by omega),fun _=>t4,t5,t6,t7⟩
 clear HCL;have HX0:Hid ((w1.setCell ⟨w.heap.size,3,none⟩ (.slice A1 n c1)).heap[w.heap.size]? =some (.cells #[.int .u8 k,.string s,.int .i64 x,.slice A1 n c1] 25 (0,0))):=by show _=_;have h:=HBX.out;simp[World.setCell,Array.getElem?_modify,h]
 have HR0:Hid ((w1.setCell ⟨w.heap.size,3,none⟩ (.slice A1 n c1)).heap[w.heap.size+1]? =some (.cells #[.int .u8 0,.string ⟨#[]⟩,.int .i64 0,.slice none 0 0] 25 (0,0))):=by show _=_;rw[aY _ _ _ _ (by simp)];exact HRS.out
 go_wp2_with fail;go_loopw [11] (fun i wr=>∃j:Nat,j<=n/\i= .int .i64 j/\Hid (Below w.heap.size w wr)/\Hid (wr.heap[w.heap.size]? =some (.cells #[.int .u8 k,.string s,.int .i64 x,.slice A1 n c1] 25 (0,0)))/\Hid (wr.heap[w.heap.size+1]? =some (.cells #[.int .u8 0,.string ⟨#[]⟩,.int .i64 0,.slice none 0 0] 25 (0,0)))/\Hid ((ks=[]/\bd wr (w.heap.size+2) 25 4 (.slice A1 n c1))∨∃g,A1=some ⟨g,0,none⟩/\iA w wr g j ks n c1)) (fun i _=>n - (intOf i).toNat);case atStart=>exact⟨0,aE _,rfl,HW1.out.setCell (ah _) _,HX0,HR0,HM⟩
 case round=>
  clear c0 c1' c2 c3 f0 f1 f2 f3 HM HX0 HR0;obtain⟨j,hj,rfl,HB,HX,HRR,HM⟩:=hrel;by_cases hlt:j<n
  .obtain⟨g,rfl,hmid⟩:=HM.out.resolve_left (fun e=>by have:=HLN.out;rw[e.1] at this;simp at this;omega);have HMD:=aa hmid;have HT:Hid (ks[j]? =some (ks[j]'(by have:=HLN.out;omega))):=br _;generalize (ks[j]'(by have:=HLN.out;omega))=t at HT;obtain⟨A2,k2,t0,t1,t2,t3,_,hk,b1,b2,b3⟩:=hmid.at_ j t HT.out;have HND:=aa (show cf _ t t.kind (sb t.text) t.num A2 t.kids.length k2 from⟨t.kids,by cases t;rfl,b1,b2,b3,(hk (ah _)).below HB.out⟩);have HST:Hid (t.sz<=m):=aJ (jL HT.out) HSZ.out;obtain⟨c0,c1',c2,c3,f0,f1,f2,f3⟩:=di HX.out;clear hk b1 b2 b3 hmid;have hlB:w.heap.size<_:=bK c0;have hlR:=aa (bK (di HRR.out).c0);go_wp2_with fail
   go_region_with (go_at_call 48;refine(ih.out t _ _ _ _ _ _ _ HST.out (HND.out.below (bS (ai _ _) 1))).mono ?_;rintro e w3 ⟨A3,k3,rfl,hf3,hb3⟩;obtain⟨hq3,d0,d1,d2,d3,s0,s1,s2,s3,z0,z1,z2,z3⟩:=Gz hb3 HX.out HMD.out t0 t1 t2 t3 hlB)
   all_goals
    have HM3:=aa (HMD.out.next HT.out hq3.out hf3);have HX3:=aa (ry (v0:=.int .u8 t.kind) (v1:=.string (sb t.text)) (v2:=.int .i64 t.num) (v3:=.slice A3 t.kids.length k3) ((hq3.out.block _ hlB).trans HX.out) (show w.heap.size≠g by have:=HMD.out.lo;omega) (j*4) (j*4+1) (j*4+2) (j*4+3));have HR3:=aa (ry (v0:=.int .u8 t.kind) (v1:=.string (sb t.text)) (v2:=.int .i64 t.num) (v3:=.slice A3 t.kids.length k3) ((hq3.out.block _ hlR.out).trans HRR.out) (show w.heap.size+1≠g by have:=HMD.out.lo;omega) (j*4) (j*4+1) (j*4+2) (j*4+3));have HB4:=aa (af HB.out hq3.out);have hgB:w.heap.size<=g:=(by have:=HMD.out.lo;omega);clear hf3 hb3 d0 d1 d2 d3 s0 s1 s2 s3 z0 z1 z2 z3;go_wp2;go_roundw;case rel=>exact⟨j+1,by omega,by go_num,(((HB4.out.setCell hgB _).setCell hgB _).setCell hgB _).setCell hgB _,HX3,HR3,.inr ⟨g,rfl,HM3.out⟩⟩
    case measure=>simp[intOf];omega
  .obtain⟨c0,c1',c2,c3,f0,f1,f2,f3⟩:=di HX.out;obtain⟨r0,r1,r2,r3,g0,g1,g2,g3⟩:=di HRR.out;go_wp2_with fail;have HFK:Hid (bJ ((((wr.setCell ⟨w.heap.size+1,0,none⟩ (.int .u8 k)).setCell ⟨w.heap.size+1,1,none⟩ (.string s)).setCell ⟨w.heap.size+1,2,none⟩ (.int .i64 x)).setCell ⟨w.heap.size+1,3,none⟩ (.slice A1 n c1)) w.heap.size ks A1 n c1):=by
    rcases HM.out with ⟨e,hro⟩|⟨g,rfl,hmid⟩
    .have h:=HLN.out;subst e;refine⟨⟨h,hn1,hc1,.inl rfl⟩,_,cZ.nil (hro.keep (by omega) fun q e=>?_)⟩;have hq:=(hro.lt e).1;rw[aY _ _ _ _ (show q≠w.heap.size+1 by omega),aY _ _ _ _ (show q≠w.heap.size+1 by omega),aY _ _ _ _ (show q≠w.heap.size+1 by omega),aY _ _ _ _ (show q≠w.heap.size+1 by omega)]
    .have hjn:j=ks.length:=(by have:=HLN.out;omega);subst hjn;have hlo:=hmid.lo;refine bJ.keep (hmid.done HLN.out hn1 hc1) (by omega) fun q ha _=>?_;rw[aY _ _ _ _ (show q≠w.heap.size+1 by omega),aY _ _ _ _ (show q≠w.heap.size+1 by omega),aY _ _ _ _ (show q≠w.heap.size+1 by omega),aY _ _ _ _ (show q≠w.heap.size+1 by omega)]
   obtain⟨a0,a1,a2,a3⟩:=mL (v0:=.int .u8 k) (v1:=.string s) (v2:=.int .i64 x) (v3:=.slice A1 n c1) r0 r1 r2 r3;refine bodyPost_ret (v:=.agg #[.int .u8 k,.string s,.int .i64 x,.slice A1 n c1]) (by simp[results,Tryz.results48,go_sem,a0,a1,a2,a3]) rfl ⟨A1,c1,rfl,HFK.out,(((HB.out.setCell (by simp) _).setCell (by simp) _).setCell (by simp) _).setCell (by simp) _⟩
theorem pW:∀m,m<=1000000000->D7 m
 |0,_=>by intro t k s x A n c w hsz;obtain⟨k0,s0,x0,ks0⟩:=t;simp[ag.sz] at hsz
 |m+1,h=>um m (by omega) (aa (pW m (by omega)))
theorem ya(t:ag)(k:Nat)(s:ByteArray)(x:Int)(A:Option Addr)(n c:Nat)(w:World)(hsz:t.sz<=1000000)(hN:cf w t k s x A n c):Calls Tryz.prog 48 #[.agg #[.int .u8 k,.string s,.int .i64 x,.slice A n c]] w (pm t.kids k s x n w):=pW 1000000 (by omega) t k s x A n c w hsz hN
theorem ym(b:Nat)(w:World):Calls Tryz.prog 47 #[.pointer (some ⟨b,0,none⟩),.slice none 0 0] w fun e w'=>e= .returned (.pointer (some ⟨b,0,none⟩))/\w=w':=by
 go_in
 go_wp2_with fail;go_loopw [0,9] (fun p i wr=>p= .pointer (some ⟨b,0,none⟩)/\i= .int .i64 0/\w=wr) (fun _ _ _=>0);case atStart=>exact⟨rfl,rfl,rfl⟩
 case round=>obtain⟨rfl,rfl,rfl⟩:=hrel;go_wp2;go_ret;exact⟨rfl,rfl⟩
def sT(ks:List ag)(k:Nat)(s:ByteArray)(x:Int)(n:Nat)(w:World)(e:Ending)(w':World):Prop:=
 ∃A c,e= .returned (.tuple #[.agg #[.int .u8 k,.string s,.int .i64 x,.slice A n c],.bool true])/\bJ w' w.heap.size ks A n c/\Below w.heap.size w w'
theorem Ew(t:ag)(k:Nat)(s:ByteArray)(x:Int)(A:Option Addr)(n c:Nat)(w:World)(hsz:t.sz<=1000000)(hN:cf w t k s x A n c):Calls Tryz.prog 24 #[.agg #[.int .u8 k,.string s,.int .i64 x,.slice A n c],.slice none 0 0] w (sT t.kids k s x n w):=by
 have hb0:Below w.heap.size w ((w.alloc (.cells #[.int .u8 k,.string s,.int .i64 x,.slice A n c] 25)).alloc (.cells #[.int .u8 0,.string ⟨#[]⟩,.int .i64 0,.slice none 0 0] 25)):=((ai _ _).alloc (ah _) _).alloc (by simp) _;have HB0:=aa hb0;have HN:=aa (hN.below hb0);clear hb0 hN
 go_in
 go_wp2_with fail;refine(ym _ _).mono ?_;rintro e w1 ⟨rfl,rfl⟩;go_wp2_with fail;refine(ya t _ _ _ _ _ _ _ hsz HN.out).mono ?_;rintro e w1 ⟨A1,c1,rfl,hf,hb1⟩;have HF:=aa hf;have HB1:=aa hb1;clear hf hb1;have hres:w1.heap[w.heap.size+1]? =some (.cells #[.int .u8 0,.string ⟨#[]⟩,.int .i64 0,.slice none 0 0] 25 (0,0)):=(HB1.out.block _ (by simp)).trans (aQ (by simp));obtain⟨r0,r1,r2,r3,g0,g1,g2,g3⟩:=di hres;clear hres;go_wp2_with fail;have HFK:Hid (bJ ((((w1.setCell ⟨w.heap.size+1,0,none⟩ (.int .u8 k)).setCell ⟨w.heap.size+1,1,none⟩ (.string s)).setCell ⟨w.heap.size+1,2,none⟩ (.int .i64 x)).setCell ⟨w.heap.size+1,3,none⟩ (.slice A1 n c1)) w.heap.size t.kids A1 n c1):=by refine bJ.keep HF.out (by simp;omega) fun q ha _=>?_;simp at ha;rw[aY _ _ _ _ (show q≠w.heap.size+1 by omega),aY _ _ _ _ (show q≠w.heap.size+1 by omega),aY _ _ _ _ (show q≠w.heap.size+1 by omega),aY _ _ _ _ (show q≠w.heap.size+1 by omega)]
 obtain⟨a0,a1,a2,a3⟩:=mL (v0:=.int .u8 k) (v1:=.string s) (v2:=.int .i64 x) (v3:=.slice A1 n c1) r0 r1 r2 r3;exact bodyPost_ret (v:=.tuple #[.agg #[.int .u8 k,.string s,.int .i64 x,.slice A1 n c1],.bool true]) (by simp[results,Tryz.results24,go_sem,a0,a1,a2,a3]) rfl ⟨A1,c1,rfl,HFK.out,((((af HB0.out HB1.out).setCell (by simp) _).setCell (by simp) _).setCell (by simp) _).setCell (by simp) _⟩
def fS(w:World)(S:Nat->Bool):World:={ w with heap:=w.heap.mapIdx fun i o=>if S i then o else Obj.cells #[] 0 }
theorem fD{w:World}{S:Nat->Bool}{a:Addr}{v:Value}:(fS w S).cell? a=some v↔S a.block=true/\w.cell? a=some v:=by
 unfold World.cell? fS;simp only[Array.getElem?_mapIdx];cases h:w.heap[a.block]? with
 |none=>simp
 |some o=>
  by_cases hb:S a.block=true
  .simp only[Option.map_some,hb,if_true];constructor
   .intro e;exact⟨trivial,e⟩
   .rintro⟨_,e⟩;exact e
  .have hb':S a.block=false:=(by simpa using hb);simp only[Option.map_some,hb',Bool.false_eq_true,if_false,false_and,iff_false];intro e;split at e<;>simp at e
def cq(w:World)(S:Nat->Bool)(ks:List ag)(A:Option Addr)(n c:Nat):Prop:=ce (fS w S) ks A n c
theorem cq.keep{w w':World}{S S':Nat->Bool}{ks:List ag}{A:Option Addr}{n c:Nat}(h:cq w S ks A n c)(hk:∀a v,S a.block=true->w.cell? a=some v->S' a.block=true/\w'.cell? a=some v):cq w' S' ks A n c:=
 ce.keep (fun _ _ h=>by obtain⟨h1,h2⟩:=fD.1 h;exact fD.2 (hk _ _ h1 h2)) h
theorem bJ.only{w:World}{B:Nat}{S:Nat->Bool}{ks:List ag}{A:Option Addr}{n c:Nat}(h:bJ w B ks A n c)(hS:∀i,B<=i->i<w.heap.size->S i=true):cq w S ks A n c:=
 ce.keep (fun _ _ h=>by obtain⟨h1,h2⟩:=i8.1 h;exact fD.2 ⟨hS _ h1 (bK h2),h2⟩) h.1
def rest(B:Nat)(v:Value)(q:Nat):Bool:=decide (B<=q) && !(v.ownBlock == some q)
theorem lG{B:Nat}{v:Value}{q:Nat}:rest B v q=true↔B<=q/\v.ownBlock≠some q:=by simp[rest]
def iC(B M:Nat)(w:World)(ks:List ag)(j:Nat)(v:Value)(xs:List Value):Prop:=(∀q,v.ownBlock=some q->q<M)/\∃R,eu w (ks.take j) xs R/\(∀u∈R,bd w B 25 4 u)/\(aW R).Nodup/\(∀q∈aW R,q<M)/\(∀q,v.ownBlock=some q->q∉aW R)
def eZ(B M:Nat)(w:World)(ks:List ag)(j:Nat)(v:Value):Prop:=
 ∃xs,w.ownsRow B 25 4 v j xs/\xs.length=j*4/\(∀i t,i<j->ks[i]? =some t->∃A c,xs[i*4]? =some (.int .u8 t.kind)/\xs[i*4+1]? =some (.string (sb t.text))/\xs[i*4+2]? =some (.int .i64 t.num)/\xs[i*4+3]? =some (.slice A t.kids.length c)/\
  cq w (rest B v) t.kids A t.kids.length c/\t.kind<=255/\t.text.length<=maxLen/\tw t.num)/\iC B M w ks j v xs
theorem iC.below{B M:Nat}{w w':World}{ks:List ag}{j:Nat}{v:Value}{xs:List Value}(h:iC B M w ks j v xs)(hb:Below w.heap.size w w'):iC B M w' ks j v xs:=by
 obtain⟨h0,R,h1,h2,h3,h4,h5⟩:=h;have hk:∀q∈aW R,w'.heap[q]? =w.heap[q]? :=fun q hq=>by obtain⟨u,hu,e⟩:=eV hq;exact hb.block q ((h2 u hu).lt e).2
 exact⟨h0,R,h1.keep hk,fun u hu=>(h2 u hu).keep (ah _) fun q e=>hk q (iR hu e),h3,h4,h5⟩
theorem eZ.below{B M:Nat}{w w':World}{ks:List ag}{j:Nat}{v:Value}(h:eZ B M w ks j v)(hb:Below w.heap.size w w'):eZ B M w' ks j v:=by obtain⟨xs,h1,h2,h3,h4⟩:=h;refine⟨xs,bM h1 hb (ah _),h2,fun i t hi ht=>?_,h4.below hb⟩;obtain⟨A,c,t0,t1,t2,t3,t4,t5⟩:=h3 i t hi ht;exact⟨A,c,t0,t1,t2,t3,t4.keep fun a v hS hc=>⟨hS,ac hb hc⟩,t5⟩
theorem iC.start(B M:Nat)(w:World)(ks:List ag):iC B M w ks 0 (.slice none 0 0) []:=
 ⟨fun q e=>(by cases e),[],rfl,fun u h=>absurd h (by simp),List.nodup_nil,fun q h=>absurd h (by simp[aW]),fun q e=>(by cases e)⟩
theorem eZ.start(B M:Nat)(w:World)(ks:List ag):eZ B M w ks 0 (.slice none 0 0):=⟨[],World.ownsRow_nil w _ _ _,rfl,fun _ _ h=>absurd h (Nat.not_lt_zero _),iC.start B M w ks⟩
def eU(t:ag)(A:Option Addr)(c:Nat):List Value:=[.int .u8 t.kind,.string (sb t.text),.int .i64 t.num,.slice A t.kids.length c]
theorem eZ.push{B M M':Nat}{w w':World}{ks:List ag}{j:Nat}{v:Value}{xs:List Value}{t:ag}{A:Option Addr}{c g cap:Nat}(h:(∀i t,i<j->ks[i]? =some t->∃A c,xs[i*4]? =some (.int .u8 t.kind)/\xs[i*4+1]? =some (.string (sb t.text))/\xs[i*4+2]? =some (.int .i64 t.num)/\xs[i*4+3]? =some (.slice A t.kids.length c)/\cq w (rest B v) t.kids A t.kids.length c/\t.kind<=255/\t.text.length<=maxLen/\tw t.num)/\iC B M w ks j v xs)(hF:bJ w M' t.kids A t.kids.length c)(hM:M<=M')(hBM:B<=M')(hx:xs.length=j*4)(ht:ks[j]? =some t)(hk:cq w (rest B v) t.kids A t.kids.length c)(b1:t.kind<=255)(b2:t.text.length<=maxLen)(b3:tw t.num)(hown:w'.ownsRow B 25 4 (.slice (some ⟨g,0,none⟩) (j+1) cap) (j+1) (xs++eU t A c))(hgr:w.grownBy w' v.ownBlock)(hg:v.ownBlock=some g∨g=w.heap.size):eZ B w'.heap.size w' ks (j+1) (.slice (some ⟨g,0,none⟩) (j+1) cap):=by
 obtain⟨h,hR⟩:=h;have hkeep:∀{ks':List ag} {A:Option Addr} {n c:Nat},cq w (rest B v) ks' A n c->cq w' (rest B (.slice (some ⟨g,0,none⟩) (j+1) cap)) ks' A n c:=by
  intro ks' A n c h;refine h.keep fun a u hS hc=>?_;obtain⟨s1,s2⟩:=lG.1 hS;have hlt:=bK hc;refine⟨lG.2 ⟨s1,?_⟩,?_⟩
  .intro e;simp[Value.ownBlock] at e;rcases hg with e'|e'
   .exact s2 (by rw[e',e])
   .omega
  .exact hgr.cell hc (fun e=>s2 e.symm)
 refine⟨_,hown,by simp[eU,hx];omega,fun i t' hi ht'=>?_,?_⟩;rotate_left
 .obtain⟨h0,R,h1,h2,h3,h4,h5⟩:=hR;obtain⟨_,R3,f1⟩:=hF;have hgl:=(hown.lt g rfl).2;have hltR:∀q∈aW R,q<w.heap.size:=fun q hq=>by obtain⟨u,hu,e⟩:=eV hq;exact((h2 u hu).lt e).2
  have hkR:∀q∈aW R,w'.heap[q]? =w.heap[q]? :=fun q hq=>hgr.block q (hltR q hq) fun e=>h5 q e.symm hq;have hk3:∀q∈aW R3,w'.heap[q]? =w.heap[q]? :=fun q hq=>hgr.block q (f1.lt hq).2 fun e=>by have:=h0 q e.symm;have:=(f1.lt hq).1;omega
  have hjl:j<ks.length:=(gl.1 ht).1;have htk:ks.take (j+1)=ks.take j++[t]:=by obtain⟨hj,e⟩:=gl.1 ht;rw[List.take_succ_eq_append_getElem hj,e]
  refine⟨fun q e=>?_,R++R3,?_,?_,?_,?_,?_⟩
  .simp only[Value.ownBlock,Option.some.injEq] at e;omega
  .rw[htk];exact eu.snoc (h1.keep hkR) (by rw[hx,List.length_take];omega) (by simp[eU]) (f1.rows.keep hk3)
  .intro u hu;rcases List.mem_append.1 hu with hu|hu
   .exact(h2 u hu).keep (ah _) fun q e=>hkR q (iR hu e)
   .exact(f1.own u hu).keep hBM fun q e=>hk3 q (iR hu e)
  .exact iq h3 f1.nd (m:=M') (fun q hq=>fJ (h4 q hq) hM) fun q hq=>(f1.lt hq).1
  .intro q hq;rw[gg] at hq;have:=hgr.size;rcases List.mem_append.1 hq with hq|hq
   .have:=hltR q hq;omega
   .have:=(f1.lt hq).2;omega
  .intro q e hq;simp only[Value.ownBlock,Option.some.injEq] at e;subst e;rw[gg] at hq;rcases hg with hg|hg
   .rcases List.mem_append.1 hq with hq|hq
    .exact h5 _ hg hq
    .have:=h0 _ hg;have:=(f1.lt hq).1;omega
   .rcases List.mem_append.1 hq with hq|hq
    .have:=hltR _ hq;omega
    .have:=(f1.lt hq).2;omega
 by_cases hij:i=j
 .subst hij;rw[ht] at ht';injection ht' with ht';subst ht';refine⟨A,c,?_,?_,?_,?_,hkeep hk,b1,b2,b3⟩ <;>rw[eK (by omega)] <;>simp[hx,eU]
 .obtain⟨A',c',t0,t1,t2,t3,t4,t5⟩:=h i t' (by omega) ht';exact⟨A',c',by rw[cM (by omega)];exact t0,by rw[cM (by omega)];exact t1,by rw[cM (by omega)];exact t2,by rw[cM (by omega)];exact t3,hkeep t4,t5⟩
theorem eZ.done{B M:Nat}{w:World}{ks:List ag}{v:Value}(h:eZ B M w ks ks.length v):∃A c,v= .slice A ks.length c/\bJ w B ks A ks.length c:=by
 obtain⟨xs,h1,h2,h3,hR⟩:=h;obtain⟨A,c,rfl,k1,k2⟩:=t9 h1;refine⟨A,c,rfl,⟨rfl,k1,k2,?_⟩,?_⟩;rotate_left
 .obtain⟨r0,R,r1,r2,r3,r4,r5⟩:=hR;rw[List.take_length] at r1;by_cases h0:ks=[]
  .subst h0;exact⟨_,cZ.nil ⟨_,_,h1⟩⟩
  .obtain⟨g,cap,e,hg⟩:=h1.form (List.length_pos_iff.2 h0);injection e with e1 e2 e3;subst e1 e3;exact⟨_,cZ.mk' (eu.mem r1 fun p u hu=>by rw[Nat.zero_add];exact bH h1 p u hu) ⟨_,_,h1⟩ r2 r3 (r5 g rfl)⟩
 by_cases h0:ks=[]
 .exact .inl h0
 .right;obtain⟨g,cap,e,hg⟩:=h1.form (List.length_pos_iff.2 h0);injection e with e1 e2 e3;subst e1 e3;have hlt:=h1.lt g rfl;refine⟨g,0,rfl,ch.mk fun i t ht=>?_⟩;obtain⟨A2,c2,t0,t1,t2,t3,t4,t5,t6,t7⟩:=h3 i t (gl.1 ht).1 ht;have hc:∀p u,xs[p]? =some u->(cX w B).cell? ⟨g,p,none⟩=some u:=fun p u hu=>i8.2 ⟨hlt.1,bH h1 p u hu⟩;rw[Nat.zero_add];refine cJ.of (hc _ _ t0) (hc _ _ t1) (hc _ _ t2) (hc _ _ t3) ?_ t5 t6 t7;exact ce.keep (fun a u h=>by obtain⟨s1,s2⟩:=fD.1 h;exact i8.2 ⟨(lG.1 s1).1,s2⟩) t4
theorem qW(t:ag)(A:Option Addr)(c:Nat):∀u∈eU t A c,u.oneCell'=true:=by intro u hu;simp[eU] at hu;rcases hu with rfl|rfl|rfl|rfl<;>rfl
theorem pj{ops:Array Oper}{rest:List Oper}{o:Oper}{a:Act}{Q:Exit->Act->World->Prop}(w:World)(hgd:o.guard=none)(s x:Operand)(ho:o.op= .call { callee:=.builtin .append,args:=#[s,x],argTypes:=#[23,23] })(base:Nat)(v:Value)(j:Nat)(xs:List Value)(hs:a.eval s=v)(hown:w.ownsRow base 25 4 v j xs)(Bk c:Nat)(t:ag)(A:Option Addr)(k:Nat)(hx:a.eval x= .slice (some ⟨Bk,0,none⟩) 1 c)(hblk:w.heap[Bk]? =some (.cells (eU t A k).toArray 25 (0,0)))(hfew:j<=1000000)(hbase:base<=w.heap.size)(h:∀g cap w',w'.ownsRow base 25 4 (.slice (some ⟨g,0,none⟩) (j+1) cap) (j+1) (xs++eU t A k)->w.grownBy w' v.ownBlock->(v.ownBlock=some g∨g=w.heap.size)->wpList Tryz.prog ops Q rest (a.put o.dst (.slice (some ⟨g,0,none⟩) (j+1) cap)) w'):wpList Tryz.prog ops Q (o::rest) a w:=by
 obtain⟨i0,hi,hz0,hz1,hz2⟩:=info_parts Tryz.infoNode;exact wpList_append_lies w hgd s x _ ho base 25 i0 _ 4 56 Tryz.underlying23 hi hz0 hz1 hz2 rfl (by omega) v j xs hs hown ⟨Bk,0,none⟩ 1 c (eU t A k) hx rfl
  (fun j u hu=>World.news_of_block hblk j u (by simpa using hu)) (qW t A k) (by omega) (by unfold maxLen;omega) (by omega) hbase _ rfl fun g cap w' h1 h2 h3 _=>h g cap w' h1 h2 h3
def nl(ks:List ag)(n:Nat)(w:World)(e:Ending)(w':World):Prop:=∃A c,e= .returned (.slice A n c)/\bJ w' w.heap.size ks A n c/\Below w.heap.size w w'
theorem jE(ks:List ag)(A:Option Addr)(n c:Nat)(w:World)(hsz:ao ks<=1000000)(hK:ce w ks A n c):Calls Tryz.prog 59 #[.slice A n c] w (nl ks n w):=by
 have HK:=aa hK;have HSZ:=aa hsz;have HLN:Hid (n=ks.length):=hK.1;have hnb:n<=1000000:=(by have h1:=eA ks;have h3:=HLN.out;omega);clear hK hsz
 go_in
 go_wp2_with fail;go_loopw [3,10] (fun v i wr=>∃j:Nat,j<=n/\i= .int .i64 j/\Hid (Below w.heap.size w wr)/\Hid (eZ w.heap.size wr.heap.size wr ks j v)) (fun _ i _=>n - (intOf i).toNat);case atStart=>exact⟨0,aE _,rfl,ai _ _,eZ.start _ _ _ _⟩
 case round=>
  obtain⟨j,hj,rfl,HB,HI⟩:=hrel;by_cases hlt:j<n
  .obtain⟨b,o,t,rfl,ht,hat⟩:=(HK.out.below HB.out).get hlt;obtain⟨B1,d1,q0,q1,q2,q3,hnode⟩:=hat.cells;have HND:=aa hnode;have HT:=aa ht;have HST:Hid (t.sz<=1000000):=aJ (jL ht) HSZ.out;clear ht hat hnode;go_wp2_with fail;have hb1:Below wr.heap.size wr (wr.alloc (.cells #[.int .u8 t.kind,.string (sb t.text),.int .i64 t.num,.slice B1 t.kids.length d1] 25)):=(ai _ _).alloc (ah _) _;refine(Ew t _ _ _ _ _ _ _ HST.out (HND.out.below hb1)).mono ?_;rintro e w3 ⟨A3,k3,rfl,hf3,hb3⟩;have HB3:=aa (af hb1 hb3);have HF3:=aa hf3;clear hf3 hb3 hb1;have HBND:Hid (t.kind<=255/\t.text.length<=maxLen/\tw t.num):=by obtain⟨ks',e,h1,h2,h3,_⟩:=HND.out;exact⟨h1,h2,h3⟩
   have HK3:Hid (cq w3 (rest w.heap.size u3) t.kids A3 t.kids.length k3):=HF3.out.only fun i h1 h2=>by obtain⟨xs,ho,_,_⟩:=HI.out;simp at h1;have h3:=HB.out.size;refine lG.2 ⟨by omega,fun e=>?_⟩;have:=(ho.lt i e).2;omega
   have hb4:Below w3.heap.size w3 ((w3.alloc (.cells #[.int .u8 t.kind,.string (sb t.text),.int .i64 t.num,.slice A3 t.kids.length k3] 25)).alloc (.cells #[.int .u8 t.kind,.string (sb t.text),.int .i64 t.num,.slice A3 t.kids.length k3] 25)):=((ai _ _).alloc (ah _) _).alloc (by simp) _;have HO4:=aa ((HI.out.below HB3.out).below hb4);have HK4:Hid (cq ((w3.alloc (.cells #[.int .u8 t.kind,.string (sb t.text),.int .i64 t.num,.slice A3 t.kids.length k3] 25)).alloc (.cells #[.int .u8 t.kind,.string (sb t.text),.int .i64 t.num,.slice A3 t.kids.length k3] 25)) (rest w.heap.size u3) t.kids A3 t.kids.length k3):=HK3.out.keep fun a v hS hc=>⟨hS,ac hb4 hc⟩;have HF4:=aa (HF3.out.keep (ah _) fun q _ h=>hb4.block q h);have HB4:=aa (af HB.out (af HB3.out hb4));clear hb4;obtain⟨xs,hown,hxl,hat⟩:=HO4.out;have HOW:=aa hown;have HAT:=aa hat;clear hown hat;go_wp2_with (at_builtin;go_must (refine pj _ rfl _ _ rfl w.heap.size u3 j xs rfl HOW.out (w3.heap.size+1) 1 t A3 k3 rfl (aQ (by simp)) (by omega) HB4.out.size ?_);intro g cap w5 ho5 hg5 hd5);have HN5:=aa (eZ.push HAT.out HF4.out (by simp) (by have:=HB.out.size;simp;omega) hxl HT.out HK4.out HBND.out.1 HBND.out.2.1 HBND.out.2.2 ho5 hg5 hd5);have HB5:=aa (Ee HOW.out hg5 (ah _) HB4.out.size);have HB6:=aa (HB4.out.trans HB5.out);clear ho5 hg5 hd5;go_wp2;go_roundw;case rel=>exact⟨j+1,by omega,by go_num,HB6,HN5⟩
   case measure=>simp[intOf];omega
  .have hjn:j=n:=(by omega);subst hjn;have HD:Hid (∃A c,u3= .slice A j c/\bJ wr w.heap.size ks A j c):=by have h:=HI.out;rw[HLN.out] at h ⊢;exact h.done
   obtain⟨A2,c2,rfl,hf⟩:=HD.out;have HF:=aa hf;clear hf HD;go_wp2_with fail;go_ret;exact⟨A2,c2,rfl,HF.out,HB.out⟩
theorem yd(ps:List Int)(os ns:List ag)(pA:Option Addr)(pn pc:Nat)(i j:Int)(f t:ByteArray)(oA:Option Addr)(on oc:Nat)(nA:Option Addr)(nn nc:Nat)(w:World)(hp:cc w ps pA pn pc)(ho:ce w os oA on oc)(hn:ce w ns nA nn nc)(hE:bI w)(hsz:f.size+t.size<=9223372036854775806)(hso:ex 9223372036854775806 os)(hsn:ex 9223372036854775806 ns):Calls Tryz.prog 30 #[.agg #[.int .u8 1,.slice pA pn pc,.int .i64 i,.int .i64 j,.string f,.string t,.slice oA on oc,.slice nA nn nc]] w (ak (ap ⟨1,ps,i,j,bl f,bl t,os,ns⟩) w):=by
 have hb0:Below w.heap.size w (w.alloc (.cells #[.int .u8 1,.slice pA pn pc,.int .i64 i,.int .i64 j,.string f,.string t,.slice oA on oc,.slice nA nn nc] 29)):=(ai _ _).alloc (ah _) _;have HB0:=aa hb0;have HE:=aa (hE.below hb0 (ah _));have HP:=aa (hp.below hb0);have HO:=aa (ho.below hb0);have HN:=aa (hn.below hb0);have HR:=aa (kw ⟨1,ps,i,j,bl f,bl t,os,ns⟩);have HBX:=aa (bw.new (w:=w) (x0:=.int .u8 1) (x1:=.slice pA pn pc) (x2:=.int .i64 i) (x3:=.int .i64 j) (x4:=.string f) (x5:=.string t) (x6:=.slice oA on oc) (x7:=.slice nA nn nc) (T:=29));have HSO:=aa hso;have HSN:=aa hsn;have HLP:Hid (pn=ps.length):=hp.1;have HLO:Hid (on=os.length):=ho.1;have HLN:Hid (nn=ns.length):=hn.1;have hfs:f.size<=9223372036854775806:=(by omega);have hts:t.size<=9223372036854775806:=(by omega);have hpn:pn<=9223372036854775807:=(by have h1:=hp.2.1;have h2:=hp.2.2.1;unfold maxLen at h2;omega);have hon:on<=9223372036854775807:=(by have h1:=ho.2.1;have h2:=ho.2.2.1;unfold maxLen at h2;omega);have hnn:nn<=9223372036854775807:=(by have h1:=hn.2.1;have h2:=hn.2.2.1;unfold maxLen at h2;omega);have hcf:=Dj;clear hb0 hE hp ho hn hso hsn
 go_in
 go_wp2_with fail
 go_quiet (fail)
 go_wp2_with fail;refine(kG ps _ _ _ _ (HP.out.below (bS (ai _ _) _))).mono ?_;rintro e wq ⟨rfl,q1,rfl⟩;cases ha:ps.all aH with
 |false=>have HV:Hid (ap _=false):=HR.out.trans (by simp[aI,aq,aG,aF,ha]);go_wp2_with fail;go_ret;exact ak.intro HV.out.symm (bS HB0.out _)
 |true=>
  go_wp2_with fail;refine(fT i _).mono ?_;rintro e wq ⟨rfl,q2,rfl⟩;cases hi:aH i with
  |false=>have HV:Hid (ap _=false):=HR.out.trans (by simp[aI,aq,aG,aF,ha,hi]);go_wp2_with fail;go_ret;exact ak.intro HV.out.symm (bS HB0.out _)
  |true=>
   go_wp2_with fail;refine(fT j _).mono ?_;rintro e wq ⟨rfl,q3,rfl⟩;cases hj:aH j with
   |false=>have HV:Hid (ap _=false):=HR.out.trans (by simp[aI,aq,aG,aF,ha,hi,hj]);go_wp2_with fail;go_ret;exact ak.intro HV.out.symm (bS HB0.out _)
   |true=>
    cases hi0:(i == 0) with
    |false=>have n_hi0:(i != 0)=true:=(by simpa using hi0);have HV:Hid (ap _=false):=HR.out.trans (by simp[aI,aq,aG,aF,ha,hi,hj,hi0]);go_wp2_with fail;go_ret;exact ak.intro HV.out.symm (bS HB0.out _)
    |true=>
     have q_hi0:(i != 0)=false:=(by simpa using hi0);cases hpe:ps.isEmpty with
     |true=>have pe:((pn:Int) == 0)=true:=(by have e1:=HLP.out;have e2:=List.isEmpty_iff.1 hpe;subst e2;simp at e1;simp[e1]);have HV:Hid (ap _=false):=HR.out.trans (by simp[aI,aq,aG,aF,ha,hi,hj,hi0,hpe]);go_wp2_with fail;go_ret;exact ak.intro HV.out.symm (bS HB0.out _)
     |false=>
      have pe:((pn:Int) == 0)=false:=by
       have e1:=HLP.out;cases ps with
       |nil=>cases hpe
       |cons a l=>simp at e1;simp;omega
      cases hij:(i == j) with
      |false=>have n_hij:(i != j)=true:=(by simpa using hij);have HV:Hid (ap _=false):=HR.out.trans (by simp[aI,aq,aG,aF,ha,hi,hj,hi0,hpe,hij]);go_wp2_with fail;go_ret;exact ak.intro HV.out.symm (bS HB0.out _)
      |true=>
       have q_hij:(i != j)=false:=(by simpa using hij);cases hj0:(j == 0) with
       |false=>have n_hj0:(j != 0)=true:=(by simpa using hj0);have HV:Hid (ap _=false):=HR.out.trans (by simp[aI,aq,aG,aF,ha,hi,hj,hi0,hpe,hij,hj0]);go_wp2_with fail;go_ret;exact ak.intro HV.out.symm (bS HB0.out _)
       |true=>
        have q_hj0:(j != 0)=false:=(by simpa using hj0);go_wp2_with fail;refine(cW f _ (HE.out.below (bS (ai _ _) _) (ah _)) hfs).mono ?_;rintro e w1 ⟨rfl,hb1⟩;have HA1:=aa (af (bS (ai _ _) _) hb1);clear hb1;obtain⟨c0,c1,c2,c3,c4,c5,c6,c7⟩:=HBX.out.below HA1.out;cases hf:be (bl f) with
        |false=>have HV:Hid (ap _=false):=HR.out.trans (by simp[aI,aq,aG,aF,ha,hi,hj,hi0,hpe,hij,hj0,hf]);go_wp2_with fail;go_ret;exact ak.intro HV.out.symm (af HB0.out HA1.out)
        |true=>
         go_wp2_with fail;refine(cW t _ (HE.out.below HA1.out (ah _)) hts).mono ?_;rintro e w2 ⟨rfl,hb2⟩;have HA2:=aa (af HA1.out hb2);clear hb2;clear c0 c1 c2 c3 c4 c5 c6 c7;obtain⟨c0,c1,c2,c3,c4,c5,c6,c7⟩:=HBX.out.below HA2.out;cases ht:be (bl t) with
         |false=>have HV:Hid (ap _=false):=HR.out.trans (by simp[aI,aq,aG,aF,ha,hi,hj,hi0,hpe,hij,hj0,hf,ht]);go_wp2_with fail;go_ret;exact ak.intro HV.out.symm (af HB0.out HA2.out)
         |true=>
          cases hft:(bl f == bl t) with
          |true=>obtain rfl:=fk (by simpa using hft);have HV:Hid (ap _=false):=HR.out.trans (by simp[aI,aq,aG,aF,ha,hi,hj,hi0,hpe,hij,hj0,hf,ht,hft]);go_wp2_with fail;go_ret;exact ak.intro HV.out.symm (af HB0.out HA2.out)
          |false=>
           have e0:(f.toList == t.toList)=false:=fW (by simpa using hft);go_wp2_with fail;refine(eC os _ _ _ _ (HO.out.below HA2.out) HSO.out (HE.out.below HA2.out (ah _))).mono ?_;rintro e w3 ⟨rfl,hb3⟩;have HA3:=aa (af HA2.out hb3);clear hb3;clear c0 c1 c2 c3 c4 c5 c6 c7;obtain⟨c0,c1,c2,c3,c4,c5,c6,c7⟩:=HBX.out.below HA3.out;cases hpo:bR os with
           |true=>have HV:Hid (ap _=false):=HR.out.trans (by simp[aI,aq,aG,aF,ha,hi,hj,hi0,hpe,hij,hj0,hf,ht,hft,hpo]);go_wp2_with fail;go_ret;exact ak.intro HV.out.symm (af HB0.out HA3.out)
           |false=>
            go_wp2_with fail;refine(eC ns _ _ _ _ (HN.out.below HA3.out) HSN.out (HE.out.below HA3.out (ah _))).mono ?_;rintro e w4 ⟨rfl,hb4⟩;have HA4:=aa (af HA3.out hb4);clear hb4;clear c0 c1 c2 c3 c4 c5 c6 c7;obtain⟨c0,c1,c2,c3,c4,c5,c6,c7⟩:=HBX.out.below HA4.out;cases hpn:bR ns with
            |true=>have HV:Hid (ap _=false):=HR.out.trans (by simp[aI,aq,aG,aF,ha,hi,hj,hi0,hpe,hij,hj0,hf,ht,hft,hpo,hpn]);go_wp2_with fail;go_ret;exact ak.intro HV.out.symm (af HB0.out HA4.out)
            |false=>
             cases heo:os.isEmpty with
             |false=>
              have gheo:(0:Int)<on:=by
               have e1:=HLO.out;cases os with
               |nil=>cases heo
               |cons a l=>simp at e1;omega
              have HV:Hid (ap _=false):=HR.out.trans (by simp[aI,aq,aG,aF,ha,hi,hj,hi0,hpe,hij,hj0,hf,ht,hft,hpo,hpn,heo]);go_wp2_with fail;go_ret;exact ak.intro HV.out.symm (af HB0.out HA4.out)
             |true=>
              have gheo:¬(0:Int)<on:=(by have e1:=HLO.out;have e2:=List.isEmpty_iff.1 heo;subst e2;simp at e1;omega);cases hen:ns.isEmpty with
              |false=>
               have ghen:(0:Int)<nn:=by
                have e1:=HLN.out;cases ns with
                |nil=>cases hen
                |cons a l=>simp at e1;omega
               have HV:Hid (ap _=false):=HR.out.trans (by simp[aI,aq,aG,aF,ha,hi,hj,hi0,hpe,hij,hj0,hf,ht,hft,hpo,hpn,heo,hen]);go_wp2_with fail;go_ret;exact ak.intro HV.out.symm (af HB0.out HA4.out)
              |true=>
               have ghen:¬(0:Int)<nn:=(by have e1:=HLN.out;have e2:=List.isEmpty_iff.1 hen;subst e2;simp at e1;omega);have HV:Hid (ap _=true):=HR.out.trans (by simp[aI,aq,aG,aF,ha,hi,hj,hi0,hpe,hij,hj0,hf,ht,hft,hpo,hpn,heo,hen]);go_wp2_with fail
               go_quiet (fail)
               go_wp2;go_ret;exact ak.intro HV.out.symm (bS (af HB0.out HA4.out) _)
theorem ye(ps:List Int)(os ns:List ag)(pA:Option Addr)(pn pc:Nat)(i j:Int)(f t:ByteArray)(oA:Option Addr)(on oc:Nat)(nA:Option Addr)(nn nc:Nat)(w:World)(hp:cc w ps pA pn pc)(ho:ce w os oA on oc)(hn:ce w ns nA nn nc)(hE:bI w)(hsz:f.size+t.size<=9223372036854775806)(hso:ex 9223372036854775806 os)(hsn:ex 9223372036854775806 ns):Calls Tryz.prog 30 #[.agg #[.int .u8 2,.slice pA pn pc,.int .i64 i,.int .i64 j,.string f,.string t,.slice oA on oc,.slice nA nn nc]] w (ak (ap ⟨2,ps,i,j,bl f,bl t,os,ns⟩) w):=by
 have hb0:Below w.heap.size w (w.alloc (.cells #[.int .u8 2,.slice pA pn pc,.int .i64 i,.int .i64 j,.string f,.string t,.slice oA on oc,.slice nA nn nc] 29)):=(ai _ _).alloc (ah _) _;have HB0:=aa hb0;have HE:=aa (hE.below hb0 (ah _));have HP:=aa (hp.below hb0);have HO:=aa (ho.below hb0);have HN:=aa (hn.below hb0);have HR:=aa (kw ⟨2,ps,i,j,bl f,bl t,os,ns⟩);have HBX:=aa (bw.new (w:=w) (x0:=.int .u8 2) (x1:=.slice pA pn pc) (x2:=.int .i64 i) (x3:=.int .i64 j) (x4:=.string f) (x5:=.string t) (x6:=.slice oA on oc) (x7:=.slice nA nn nc) (T:=29));have HSO:=aa hso;have HSN:=aa hsn;have HLP:Hid (pn=ps.length):=hp.1;have HLO:Hid (on=os.length):=ho.1;have HLN:Hid (nn=ns.length):=hn.1;have hfs:f.size<=9223372036854775806:=(by omega);have hts:t.size<=9223372036854775806:=(by omega);have hpn:pn<=9223372036854775807:=(by have h1:=hp.2.1;have h2:=hp.2.2.1;unfold maxLen at h2;omega);have hon:on<=9223372036854775807:=(by have h1:=ho.2.1;have h2:=ho.2.2.1;unfold maxLen at h2;omega);have hnn:nn<=9223372036854775807:=(by have h1:=hn.2.1;have h2:=hn.2.2.1;unfold maxLen at h2;omega);have hcf:=Dj;clear hb0 hE hp ho hn hso hsn
 go_in
 go_wp2_with fail
 go_quiet (fail)
 go_wp2_with fail;refine(kG ps _ _ _ _ (HP.out.below (bS (ai _ _) _))).mono ?_;rintro e wq ⟨rfl,q1,rfl⟩;cases ha:ps.all aH with
 |false=>have HV:Hid (ap _=false):=HR.out.trans (by simp[aI,aq,aG,aF,ha]);go_wp2_with fail;go_ret;exact ak.intro HV.out.symm (bS HB0.out _)
 |true=>
  go_wp2_with fail;refine(fT i _).mono ?_;rintro e wq ⟨rfl,q2,rfl⟩;cases hi:aH i with
  |false=>have HV:Hid (ap _=false):=HR.out.trans (by simp[aI,aq,aG,aF,ha,hi]);go_wp2_with fail;go_ret;exact ak.intro HV.out.symm (bS HB0.out _)
  |true=>
   go_wp2_with fail;refine(fT j _).mono ?_;rintro e wq ⟨rfl,q3,rfl⟩;cases hj:aH j with
   |false=>have HV:Hid (ap _=false):=HR.out.trans (by simp[aI,aq,aG,aF,ha,hi,hj]);go_wp2_with fail;go_ret;exact ak.intro HV.out.symm (bS HB0.out _)
   |true=>
    cases hij:(i == j) with
    |false=>
     have n_hij:(i != j)=true:=(by simpa using hij);cases hj0:(j == 0) with
     |false=>have n_hj0:(j != 0)=true:=(by simpa using hj0);have HV:Hid (ap _=false):=HR.out.trans (by simp[aI,aq,aG,aF,ha,hi,hj,hij,hj0]);go_wp2_with fail;go_ret;exact ak.intro HV.out.symm (bS HB0.out _)
     |true=>
      have q_hj0:(j != 0)=false:=(by simpa using hj0);go_wp2_with fail;cases hem:(bl f++bl t).isEmpty with
      |false=>
       have hne:(!(f++t).toList.isEmpty)=true:=(by rw[bG,eS,hem];rfl);refine(cW f _ (HE.out.below (bS (ai _ _) _) (ah _)) hfs).mono ?_;rintro e w1 ⟨rfl,hb1⟩;have HA1:=aa (af (bS (ai _ _) _) hb1);clear hb1;obtain⟨c0,c1,c2,c3,c4,c5,c6,c7⟩:=HBX.out.below HA1.out;cases hf:be (bl f) with
       |false=>have HV:Hid (ap _=false):=HR.out.trans (by simp[aI,aq,aG,aF,ha,hi,hj,hij,hj0,hem,hf]);go_wp2_with fail;go_ret;exact ak.intro HV.out.symm (af HB0.out HA1.out)
       |true=>
        go_wp2_with fail;refine(cW t _ (HE.out.below HA1.out (ah _)) hts).mono ?_;rintro e w2 ⟨rfl,hb2⟩;have HA2:=aa (af HA1.out hb2);clear hb2;clear c0 c1 c2 c3 c4 c5 c6 c7;obtain⟨c0,c1,c2,c3,c4,c5,c6,c7⟩:=HBX.out.below HA2.out;cases ht:be (bl t) with
        |false=>have HV:Hid (ap _=false):=HR.out.trans (by simp[aI,aq,aG,aF,ha,hi,hj,hij,hj0,hem,hf,ht]);go_wp2_with fail;go_ret;exact ak.intro HV.out.symm (af HB0.out HA2.out)
        |true=>
         cases hft:(bl f == bl t) with
         |true=>obtain rfl:=fk (by simpa using hft);have HV:Hid (ap _=false):=HR.out.trans (by simp[aI,aq,aG,aF,ha,hi,hj,hij,hj0,hem,hf,ht,hft]);go_wp2_with fail;go_ret;exact ak.intro HV.out.symm (af HB0.out HA2.out)
         |false=>have e0:(f.toList == t.toList)=false:=fW (by simpa using hft);have HV:Hid (ap _=false):=HR.out.trans (by simp[aI,aq,aG,aF,ha,hi,hj,hij,hj0,hem,hf,ht,hft]);go_wp2_with fail;go_ret;exact ak.intro HV.out.symm (af HB0.out HA2.out)
      |true=>
       have hee:(!(f++t).toList.isEmpty)=false:=(by rw[bG,eS,hem];rfl);have hf0:be (bl f)=false:=(by rw[(List.append_eq_nil_iff.1 (List.isEmpty_iff.1 hem)).1];rfl);refine(cW f _ (HE.out.below (bS (ai _ _) _) (ah _)) hfs).mono ?_;rintro e w1 ⟨rfl,hb1⟩;have HA1:=aa (af (bS (ai _ _) _) hb1);clear hb1;obtain⟨c0,c1,c2,c3,c4,c5,c6,c7⟩:=HBX.out.below HA1.out;rw[hf0];go_wp2_with fail;refine(eC os _ _ _ _ (HO.out.below HA1.out) HSO.out (HE.out.below HA1.out (ah _))).mono ?_;rintro e w2 ⟨rfl,hb2⟩;have HA2:=aa (af HA1.out hb2);clear hb2;clear c0 c1 c2 c3 c4 c5 c6 c7;obtain⟨c0,c1,c2,c3,c4,c5,c6,c7⟩:=HBX.out.below HA2.out;cases hpo:bR os with
       |true=>have HV:Hid (ap _=false):=HR.out.trans (by simp[aI,aq,aG,aF,ha,hi,hj,hij,hj0,hem,hf0,hpo]);go_wp2_with fail;go_ret;exact ak.intro HV.out.symm (af HB0.out HA2.out)
       |false=>
        go_wp2_with fail;refine(eC ns _ _ _ _ (HN.out.below HA2.out) HSN.out (HE.out.below HA2.out (ah _))).mono ?_;rintro e w3 ⟨rfl,hb3⟩;have HA3:=aa (af HA2.out hb3);clear hb3;clear c0 c1 c2 c3 c4 c5 c6 c7;obtain⟨c0,c1,c2,c3,c4,c5,c6,c7⟩:=HBX.out.below HA3.out;cases hpn:bR ns with
        |false=>have HV:Hid (ap _=false):=HR.out.trans (by simp[aI,aq,aG,aF,ha,hi,hj,hij,hj0,hem,hf0,hpo,hpn]);go_wp2_with fail;go_ret;exact ak.intro HV.out.symm (af HB0.out HA3.out)
        |true=>
         cases heo:os.isEmpty with
         |false=>
          have gheo:(0:Int)<on:=by
           have e1:=HLO.out;cases os with
           |nil=>cases heo
           |cons a l=>simp at e1;omega
          have HV:Hid (ap _=false):=HR.out.trans (by simp[aI,aq,aG,aF,ha,hi,hj,hij,hj0,hem,hf0,hpo,hpn,heo]);go_wp2_with fail;go_ret;exact ak.intro HV.out.symm (af HB0.out HA3.out)
         |true=>
          have gheo:¬(0:Int)<on:=(by have e1:=HLO.out;have e2:=List.isEmpty_iff.1 heo;subst e2;simp at e1;omega);have HV:Hid (ap _=true):=HR.out.trans (by simp[aI,aq,aG,aF,ha,hi,hj,hij,hj0,hem,hf0,hpo,hpn,heo]);go_wp2_with fail
          go_quiet (fail)
          go_wp2;go_ret;exact ak.intro HV.out.symm (bS (af HB0.out HA3.out) _)
    |true=>
     have q_hij:(i != j)=false:=(by simpa using hij);cases hj0:(j == 0) with
     |false=>have n_hj0:(j != 0)=true:=(by simpa using hj0);have HV:Hid (ap _=false):=HR.out.trans (by simp[aI,aq,aG,aF,ha,hi,hj,hij,hj0]);go_wp2_with fail;go_ret;exact ak.intro HV.out.symm (bS HB0.out _)
     |true=>
      have q_hj0:(j != 0)=false:=(by simpa using hj0);go_wp2_with fail;cases hem:(bl f++bl t).isEmpty with
      |false=>
       have hne:(!(f++t).toList.isEmpty)=true:=(by rw[bG,eS,hem];rfl);refine(cW f _ (HE.out.below (bS (ai _ _) _) (ah _)) hfs).mono ?_;rintro e w1 ⟨rfl,hb1⟩;have HA1:=aa (af (bS (ai _ _) _) hb1);clear hb1;obtain⟨c0,c1,c2,c3,c4,c5,c6,c7⟩:=HBX.out.below HA1.out;cases hf:be (bl f) with
       |false=>have HV:Hid (ap _=false):=HR.out.trans (by simp[aI,aq,aG,aF,ha,hi,hj,hij,hj0,hem,hf]);go_wp2_with fail;go_ret;exact ak.intro HV.out.symm (af HB0.out HA1.out)
       |true=>
        go_wp2_with fail;refine(cW t _ (HE.out.below HA1.out (ah _)) hts).mono ?_;rintro e w2 ⟨rfl,hb2⟩;have HA2:=aa (af HA1.out hb2);clear hb2;clear c0 c1 c2 c3 c4 c5 c6 c7;obtain⟨c0,c1,c2,c3,c4,c5,c6,c7⟩:=HBX.out.below HA2.out;cases ht:be (bl t) with
        |false=>have HV:Hid (ap _=false):=HR.out.trans (by simp[aI,aq,aG,aF,ha,hi,hj,hij,hj0,hem,hf,ht]);go_wp2_with fail;go_ret;exact ak.intro HV.out.symm (af HB0.out HA2.out)
        |true=>
         cases hft:(bl f == bl t) with
         |true=>obtain rfl:=fk (by simpa using hft);have HV:Hid (ap _=false):=HR.out.trans (by simp[aI,aq,aG,aF,ha,hi,hj,hij,hj0,hem,hf,ht,hft]);go_wp2_with fail;go_ret;exact ak.intro HV.out.symm (af HB0.out HA2.out)
         |false=>have e0:(f.toList == t.toList)=false:=fW (by simpa using hft);have HV:Hid (ap _=false):=HR.out.trans (by simp[aI,aq,aG,aF,ha,hi,hj,hij,hj0,hem,hf,ht,hft]);go_wp2_with fail;go_ret;exact ak.intro HV.out.symm (af HB0.out HA2.out)
      |true=>
       have hee:(!(f++t).toList.isEmpty)=false:=(by rw[bG,eS,hem];rfl);have hf0:be (bl f)=false:=(by rw[(List.append_eq_nil_iff.1 (List.isEmpty_iff.1 hem)).1];rfl);refine(cW f _ (HE.out.below (bS (ai _ _) _) (ah _)) hfs).mono ?_;rintro e w1 ⟨rfl,hb1⟩;have HA1:=aa (af (bS (ai _ _) _) hb1);clear hb1;obtain⟨c0,c1,c2,c3,c4,c5,c6,c7⟩:=HBX.out.below HA1.out;rw[hf0];go_wp2_with fail;refine(eC os _ _ _ _ (HO.out.below HA1.out) HSO.out (HE.out.below HA1.out (ah _))).mono ?_;rintro e w2 ⟨rfl,hb2⟩;have HA2:=aa (af HA1.out hb2);clear hb2;clear c0 c1 c2 c3 c4 c5 c6 c7;obtain⟨c0,c1,c2,c3,c4,c5,c6,c7⟩:=HBX.out.below HA2.out;cases hpo:bR os with
       |true=>have HV:Hid (ap _=false):=HR.out.trans (by simp[aI,aq,aG,aF,ha,hi,hj,hij,hj0,hem,hf0,hpo]);go_wp2_with fail;go_ret;exact ak.intro HV.out.symm (af HB0.out HA2.out)
       |false=>
        go_wp2_with fail;refine(eC ns _ _ _ _ (HN.out.below HA2.out) HSN.out (HE.out.below HA2.out (ah _))).mono ?_;rintro e w3 ⟨rfl,hb3⟩;have HA3:=aa (af HA2.out hb3);clear hb3;clear c0 c1 c2 c3 c4 c5 c6 c7;obtain⟨c0,c1,c2,c3,c4,c5,c6,c7⟩:=HBX.out.below HA3.out;cases hpn:bR ns with
        |false=>have HV:Hid (ap _=false):=HR.out.trans (by simp[aI,aq,aG,aF,ha,hi,hj,hij,hj0,hem,hf0,hpo,hpn]);go_wp2_with fail;go_ret;exact ak.intro HV.out.symm (af HB0.out HA3.out)
        |true=>
         cases heo:os.isEmpty with
         |false=>
          have gheo:(0:Int)<on:=by
           have e1:=HLO.out;cases os with
           |nil=>cases heo
           |cons a l=>simp at e1;omega
          have HV:Hid (ap _=false):=HR.out.trans (by simp[aI,aq,aG,aF,ha,hi,hj,hij,hj0,hem,hf0,hpo,hpn,heo]);go_wp2_with fail;go_ret;exact ak.intro HV.out.symm (af HB0.out HA3.out)
         |true=>
          have gheo:¬(0:Int)<on:=(by have e1:=HLO.out;have e2:=List.isEmpty_iff.1 heo;subst e2;simp at e1;omega);have HV:Hid (ap _=true):=HR.out.trans (by simp[aI,aq,aG,aF,ha,hi,hj,hij,hj0,hem,hf0,hpo,hpn,heo]);go_wp2_with fail
          go_quiet (fail)
          go_wp2;go_ret;exact ak.intro HV.out.symm (bS (af HB0.out HA3.out) _)
end Go.Proofs.YtckbdkgcoilmpaaGreatDoor
