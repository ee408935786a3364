/- Part 9 of the proof. -/
import Derived.Lib.OwnBridge
import Derived.Sort.OwnSorted
import Derived.Lib.SlicesCompact
import Derived.Test.YtckbdkgcoilmpaaGreatDoorMnH
namespace Go.Proofs.YtckbdkgcoilmpaaGreatDoor
open Go.RowKit
set_option linter.all false
set_option maxHeartbeats 40000000
set_option maxRecDepth 100000
theorem uE(args:Array Value)(w:World):(callFunc 101 args).run Tryz.prog w= .ok (.enter 101 args) w:=eH Tryz.func101 (by kernel_rfl) (by kernel_rfl) args w
def dV(ss:List ar)(ks:List ag):List ar:=ss++bE ks
theorem xg{ss:List ar}{ks:List ag}{j:Nat}{t:ag}(h:ks[j]? =some t):dV ss (ks.take (j+1))=dV (gT t.kind (sb t.text) (dV ss (ks.take j))) t.kids:=by
 have hj:j<ks.length:=(gl.1 h).1;have e:ks.take (j+1)=ks.take j++[t]:=by rw[List.take_succ_eq_append_getElem hj];rw[br hj] at h;injection h with h;rw[h]
 obtain⟨k,s,x,us⟩:=t;rw[e];unfold dV gT;simp only[xi,bE,ag.names,ag.kind,ag.text,ag.kids,List.append_nil,l9];split<;>simp_all
theorem xf{ss:List ar}{ks:List ag}{j:Nat}{t:ag}(h:ks[j]? =some t):(dV ss (ks.take j)).length+t.sz<=ss.length+ao ks:=by
 have h1:=mv (ks.take j);have hj:j<ks.length:=(gl.1 h).1;have e:ao ks=ao (ks.take j)+ao (ks.drop j):=(by rw[<-o9,List.take_append_drop]);have e2:ao (ks.drop j)=t.sz+ao (ks.drop (j+1)):=by rw[List.drop_eq_getElem_cons hj];rw[br hj] at h;injection h with h;rw[h];rfl
 unfold dV;rw[CD];omega
def pr(b:Nat)(ss:List ar)(w0:World)(e:Ending)(w':World):Prop:=e= .returned (.tuple #[])/\Below w0.heap.size w0 w'/\∃v',eG (b+1) b 0 w' v' ss
def nr(m:Nat):Prop:=∀(ks:List ag) (A:Option Addr) (n c:Nat) (ss:List ar) (w0 w:World) (v:Value),ao ks<m->ce w0 ks A n c->ex 281474976710656 ks->Below w0.heap.size w0 w->eG (w0.heap.size+1) w0.heap.size 0 w v ss->ss.length+ao ks<=1000000->
 Calls Tryz.prog 100 #[.func (.func 101) #[] #[.pointer (some ⟨w0.heap.size,0,none⟩)],.slice A n c] w (pr w0.heap.size (dV ss ks) w0)
theorem GK{w w3:World}{b:Nat}{v:Value}{ss:List ar}{x0 x1 x2 x3:Value}{T:TypeId}(hS:eG (b+1) b 0 w v ss)(hbut:fI b v (w.alloc (.cells #[x0,x1,x2,x3] T)) w3)(hb3:Below b (w.alloc (.cells #[x0,x1,x2,x3] T)) w3):Hid (Below b w w3)/\Hid (w3.cell? ⟨w.heap.size,3,none⟩=some x3):=by have hlt:b<w.heap.size:=bK hS.cell;have hb:Below b w w3:=((ai _ _).alloc (by omega) _).trans hb3;refine⟨hb,?_⟩;have h1:w3.heap[w.heap.size]? =(w.alloc (.cells #[x0,x1,x2,x3] T)).heap[w.heap.size]? :=hbut.2 _ (by simp) (by omega) (fun e=>by have:=(hS.own.lt _ e).2;omega);rw[heap_alloc_new] at h1;exact(di h1).c3
theorem xd(k:Nat)(s:ByteArray)(ss:List ar):(gT k s ss).length<=ss.length+1:=by unfold gT;split<;>simp
theorem uw(m:Nat)(ih:Hid (nr m)):nr (m+1):=by
 intro ks A n c ss w0 w v hm hK hsh hb hS hfew;have HK:=aa hK;have HSH:=aa hsh;have HM:=aa hm;have HLN:Hid (n=ks.length):=hK.1;have hnn:n<=9223372036854775807:=(by have h1:=hK.2.1;have h2:=hK.2.2.1;unfold maxLen at h2;omega);have HB:=aa hb;have HS:=aa hS;have hcf:=uE;clear hK hsh hm hb hS
 go_in
 go_wp2_with fail;go_loopw [8] (fun i wr=>∃j:Nat,j<=n/\i= .int .i64 j/\Hid (Below w0.heap.size w0 wr)/\Hid (∃v',eG (w0.heap.size+1) w0.heap.size 0 wr v' (dV ss (ks.take j)))) (fun i _=>n - (intOf i).toNat);case atStart=>exact⟨0,aE _,rfl,HB.out,v,by simpa[dV,bE] using HS.out⟩
 case round=>
  obtain⟨j,hj,rfl,HBR,HSR⟩:=hrel;by_cases hlt:j<n
  .obtain⟨b,o,t,rfl,ht,hat⟩:=(HK.out.below HBR.out).get hlt;obtain⟨B1,d1,q0,q1,q2,q3,hnode⟩:=hat.cells;obtain⟨B0,d0,q3',hkk⟩:∃B0 d0,wr.cell? ⟨b,o+j*4+3,none⟩=some (.slice B0 t.kids.length d0)/\ce w0 t.kids B0 t.kids.length d0:=by obtain⟨b',o',t',e1,e2,hat0⟩:=HK.out.get hlt;injection e1 with e1;injection e1 with e1 e1';rw[ht] at e2;injection e2 with e2;subst e1 e1' e2;obtain⟨A',c',_,_,_,h3,hk,_⟩:=hat0.parts;exact⟨A',c',ac HBR.out h3,hk⟩
   rw[q3] at q3';injection q3' with q3';injection q3' with q3' _ q3'';subst q3' q3'';have HKK:=aa hkk;clear hkk;obtain⟨vr,hvr⟩:=HSR.out;have HND:=aa hnode;have HT:=aa ht;have HSV:=aa hvr;have HL1:=aa (xf (ss:=ss) ht);have HST:=aa (HSH.out.get ht);have HSZ:Hid (ao t.kids+1<m+1):=Nat.lt_of_le_of_lt (by have:=jL ht;obtain⟨k,s,x,us⟩:=t;simp[ag.sz,ag.kids] at this ⊢;omega) HM.out;have HSE:Hid (dV ss (ks.take (j+1))=dV (gT t.kind (sb t.text) (dV ss (ks.take j))) t.kids):=xg ht;clear ht hat hnode hvr;go_wp2_with fail;have hba:Below wr.heap.size wr (wr.alloc (.cells #[.int .u8 t.kind,.string (sb t.text),.int .i64 t.num,.slice B1 t.kids.length d1] 25)):=(ai _ _).alloc (ah _) _;refine(yI (w0.heap.size+1) w0.heap.size t.kind (sb t.text) t.num B1 t.kids.length d1 (dV ss (ks.take j)) vr _ (HSV.out.below hba) (by have:=HST.out;obtain⟨k,s,x,us⟩:=t;exact this.1) (by have:=HL1.out;omega) (by have:=bK HSV.out.cell;simp at this ⊢;omega)).mono ?_;rintro en w3 ⟨rfl,v3,hS3,hbut,hb3⟩;obtain⟨HB3,HX3⟩:=GK HSV.out hbut hb3;have HBW:=aa (HBR.out.trans HB3.out);have HS3:=aa hS3;have c3:=HX3.out;clear hba hS3 hbut hb3;go_wp2_with fail;refine(ih.out t.kids B1 t.kids.length d1 _ w0 w3 v3 (by have:=HSZ.out;omega) (HKK.out) (by have:=HST.out;obtain⟨k,s,x,us⟩:=t;exact this.2) HBW.out HS3.out (by have:=HL1.out;have:=xd t.kind (sb t.text) (dV ss (ks.take j));obtain⟨k,s,x,us⟩:=t;simp[ag.sz,ag.kids] at*;omega)).mono ?_;rintro en w4 ⟨rfl,hb4,v4,hS4⟩;have HB4:=aa hb4;have HS4:=aa hS4;clear hb4 hS4;go_wp2;go_roundw;case rel=>exact⟨j+1,by omega,by go_num,HB4,v4,by rw[HSE.out];exact HS4.out⟩
   case measure=>simp[intOf];omega
  .have hjn:j=n:=(by omega);subst hjn;have HD:Hid (dV ss (ks.take j)=dV ss ks):=(by show _=_;rw[List.take_of_length_le (by have:=HLN.out;omega)]);obtain⟨vr,hvr⟩:=HSR.out;have HSV:=aa hvr;clear hvr;go_wp2_with fail
   go_end0
   rw[<-HD.out];exact⟨rfl,HBR.out,vr,HSV.out⟩
theorem p9:∀m,nr m
 |0=>fun _ _ _ _ _ _ _ _ hm=>absurd hm (Nat.not_lt_zero _)
 |m+1=>uw m (aa (p9 m))
theorem yb(ks:List ag)(A:Option Addr)(n c:Nat)(ss:List ar)(w0 w:World)(v:Value)(hK:ce w0 ks A n c)(hsh:ex 281474976710656 ks)(hb:Below w0.heap.size w0 w)(hS:eG (w0.heap.size+1) w0.heap.size 0 w v ss)(hfew:ss.length+ao ks<=1000000):Calls Tryz.prog 100 #[.func (.func 101) #[] #[.pointer (some ⟨w0.heap.size,0,none⟩)],.slice A n c] w (pr w0.heap.size (dV ss ks) w0):=
 p9 (ao ks+1) ks A n c ss w0 w v (Nat.lt_succ_self _) hK hsh hb hS hfew
section
open Go.RowKit Go.Sort
theorem vl{d:Array ar}{j:Nat}(h:j<d.size):d[j]! ∈d.toList:=by rw[getElem!_pos d j h];simp
theorem qR(d:Array ar):∀m,m<=d.size->∀s,s∈Lib.compactUpTo d m↔∃j,j<m/\d[j]! =s
 |0,_,s=>by simp[Lib.compactUpTo]
 |m+1,hm,s=>by
  rw[Lib.compactUpTo_succ,List.mem_append,qR d m (by omega) s];constructor
  .rintro(⟨j,hj,e⟩|h)
   .exact⟨j,by omega,e⟩
   .split at h
    .simp at h;exact⟨m,by omega,h.symm⟩
    .simp at h
  .rintro⟨j,hj,e⟩;by_cases hjm:j=m
   .subst hjm;by_cases hk:Lib.keeps d j=true
    .right;rw[if_pos hk];simp[e]
    .left;unfold Lib.keeps at hk;simp only[decide_eq_true_eq,not_or,Decidable.not_not] at hk;exact⟨j - 1,by omega,by rw[<-hk.2];exact e⟩
   .exact .inl ⟨j,by omega,e⟩
theorem wS(ss:List ar)(s:ar):s∈Lib.compact ss↔s∈ss:=by
 unfold Lib.compact;rw[qR _ _ (by simp)];constructor
 .rintro⟨j,hj,e⟩;have:=vl (d:=ss.toArray) (j:=j) (by simpa using hj);rw[e] at this;simpa using this
 .intro h;obtain⟨j,hj,e⟩:=List.getElem_of_mem h;exact⟨j,hj,by rw[getElem!_pos _ j (by simpa using hj)];simpa using e⟩
theorem pU(ss:List ar):(Lib.compact ss).length<=ss.length:=by unfold Lib.compact Lib.compactUpTo;rw[ny];exact aJ (List.length_filter_le _ _) (by simp)
def tk(base:Nat)(w:World)(ss:List ar)(v:Value)(w':World):Prop:=∃ss',(∀s,s∈ss'↔s∈ss)/\ss'.length<=ss.length/\w'.ownsRow base 9 1 v ss'.length (bj ss')/\Below base w w'
theorem yW(base:Nat)(ss:List ar)(v:Value)(w:World)(h:w.ownsRow base 9 1 v ss.length (bj ss))(hB:base<=w.heap.size)(hl:ss.length<=1000000):Calls Tryz.prog 104 #[v] w fun e w'=>e= .returned (.tuple #[])/\∃ss',(∀s,s∈ss'↔s∈ss)/\ss'.length=ss.length/\w'.ownsRow base 9 1 v ss'.length (bj ss')/\Below base w w':=by
 rcases h.2 with ⟨rfl,h0⟩|⟨g,cap,cur,rfl,hb,hg,hn,hm,hs,ht⟩
 .refine(Tryz.slices_Sort_string_none none 0 w).mono ?_;rintro e w1 ⟨rfl,rfl⟩;exact⟨rfl,ss,fun _=>Iff.rfl,rfl,h,ai _ _⟩
 .have hlt:g<w.heap.size:=(aK.1 hg).1;refine(Tryz.slices_Sort_string g 0 cap ss w (holds_of_block hg (by have:=ht;rw[Nat.mul_one] at this;exact this)) hlt (by omega)).mono ?_;rintro e w1 ⟨rfl,n,os,rfl⟩;refine⟨rfl,ss.mergeSort fun x y=>decide (x<=y),fun s=>List.mem_mergeSort,by simp,?_,?_⟩
  .have hl':(ss.mergeSort fun x y=>decide (x<=y)).length=ss.length:=(by simp);rw[hl'];exact ownsRow_sorted hl' hb hg hn hm hs
  .exact(ai _ _).grown (grownBy_sorted _) hB (fun k hk=>by injection hk with hk;omega)
theorem xW(base:Nat)(ss:List ar)(v:Value)(w:World)(h:w.ownsRow base 9 1 v ss.length (bj ss))(hl:ss.length<=1000000):Calls Tryz.prog 105 #[v] w fun e w'=>∃v',e= .returned v'/\tk base w ss v' w':=by
 by_cases hv:v= .slice none 0 0
 .subst hv;have h0:ss=[]:=by
   rcases h.2 with ⟨_,h0⟩|⟨g,cap,cur,e,_⟩
   .exact List.length_eq_zero_iff.1 h0
   .cases e
  subst h0;refine(Tryz.slices_Compact_string_empty none 0 w).mono ?_;rintro e w1 ⟨rfl,rfl⟩;exact⟨_,rfl,[],fun _=>Iff.rfl,ah _,h,ai _ _⟩
 .obtain⟨g,cap,rfl,hb,hlt,hn,hm,_,hH⟩:=Lib.holds_of_ownsRow (enc:=encStr) (zs:=ss) h hv;refine(Tryz.slices_Compact_string g 0 cap ss w hH (by omega) hn).mono ?_;rintro e w1 ⟨rfl,q,rfl⟩;refine⟨_,rfl,Lib.compact ss,wS ss,pU ss,?_,Lib.below_putRow (ai _ _) hb⟩;have hc:=pU ss;have:=Lib.ownsRow_putRow (enc:=encStr) (q:=q) (k:=(Lib.compact ss).length) (ys:=Lib.compact ss++List.replicate (ss.length - (Lib.compact ss).length) []) h (by simp;omega) hc;rw[List.take_left] at this;exact this
def sZ(w:World)(ks:List ag)(e:Ending)(w':World):Prop:=∃v,e= .returned v/\Below w.heap.size w w'/\∃ss,(∀s,s∈ss↔s∈bE ks)/\ss.length<=(bE ks).length/\w'.ownsRow w.heap.size 9 1 v ss.length (bj ss)
theorem yH(ks:List ag)(A:Option Addr)(n c:Nat)(w:World)(hK:ce w ks A n c)(hsh:ex 281474976710656 ks)(hfew:ao ks<=1000000):Calls Tryz.prog 44 #[.slice A n c] w (sZ w ks):=by
 have hb0:Below w.heap.size w (w.alloc (.cells #[.slice none 0 0] 69)):=(ai _ _).alloc (ah _) _;have hS0:eG (w.heap.size+1) w.heap.size 0 (w.alloc (.cells #[.slice none 0 0] 69)) (.slice none 0 0) []:=by have hc:=cell_of_row (w.alloc (.cells #[.slice none 0 0] 69)) w.heap.size 0 _ _ (0,0) (heap_alloc_new _ _);exact⟨hc,by unfold World.frozen?;rw[heap_alloc_new];rfl,World.ownsRow_nil _ _ _ _,Nat.lt_succ_self _⟩
 have HB0:=aa hb0;have HS0:=aa hS0;have HK:=aa hK;have HSH:=aa hsh;have hnl:=mv ks;clear hb0 hS0 hK hsh
 go_in
 go_wp2_with fail;refine(yb ks A n c [] w _ _ HK.out HSH.out HB0.out HS0.out (by simp;omega)).mono ?_;rintro en w1 ⟨rfl,hb1,v1,hS1⟩;have hc1:=hS1.cell;have HS1:=aa hS1;have HB1:=aa hb1;have hlt:w.heap.size<w1.heap.size:=bK hS1.cell;clear hb1 hS1;go_wp2_with fail;refine(yW (w.heap.size+1) _ _ _ HS1.out.own hlt (by simp[dV];omega)).mono ?_;rintro en w2 ⟨rfl,ss2,hm2,hl2,ho2,hb2⟩;have hc2:w2.cell? ⟨w.heap.size,0,none⟩=some v1:=(hb2.cell (p:=⟨w.heap.size,0,none⟩) (by show w.heap.size<_;omega)).trans hc1;have HB2:=aa (HB1.out.trans (hb2.mono (by omega)));have HO2:=aa ho2;have HM2:=aa hm2;clear hb2 ho2 hm2 hc1;have hl3:ss2.length<=(bE ks).length:=(by rw[hl2];simp[dV]);go_wp2_with fail;refine(xW (w.heap.size+1) _ _ _ HO2.out (by omega)).mono ?_;rintro en w3 ⟨v3,rfl,ss3,hm3,hl4,ho3,hb3⟩;have HB3:=aa (HB2.out.trans (hb3.mono (by omega)));have HO3:=aa ho3;have HM3:=aa hm3;clear hb3 ho3 hm3 hc2;go_wp2;go_ret;refine⟨_,rfl,HB3.out,ss3,fun s=>?_,by omega,dk HO3.out (by omega)⟩;rw[HM3.out,HM2.out];simp[dV]
end
def cS(w:World)(ss:List ar)(A:Option Addr)(n c:Nat):Prop:=n=ss.length/\n<=c/\c<=maxLen/\(ss=[]∨∃b o,A=some ⟨b,o,none⟩/\∀j s,ss[j]? =some s->w.cell? ⟨b,o+j,none⟩=some (.string (sb s)))
theorem cS.keep{w w':World}(hb:∀a v,w.cell? a=some v->w'.cell? a=some v){ss:List ar}{A:Option Addr}{n c:Nat}(h:cS w ss A n c):cS w' ss A n c:=by obtain⟨h1,h2,h3,h4⟩:=h;refine⟨h1,h2,h3,h4.imp id ?_⟩;rintro⟨b,o,e,h5⟩;exact⟨b,o,e,fun j s hs=>hb _ _ (h5 j s hs)⟩
theorem cS.below{w w':World}(hb:Below w.heap.size w w'){ss:List ar}{A:Option Addr}{n c:Nat}(h:cS w ss A n c):cS w' ss A n c:=h.keep fun _ _=>ac hb
theorem cS.own{w:World}{base:Nat}{v:Value}{ss:List ar}{n:Nat}(h:w.ownsRow base 9 1 v n (bj ss))(hn:n=ss.length):∃A c,v= .slice A n c/\cS w ss A n c:=by
 obtain⟨A,c,rfl,k1,k2⟩:=t9 h;refine⟨A,c,rfl,hn,k1,k2,?_⟩;by_cases h0:ss=[]
 .exact .inl h0
 .right;obtain⟨g,cap,e,hg⟩:=h.form (by rw[hn];exact List.length_pos_iff.2 h0);injection e with e1 e2 e3;subst e1 e3;refine⟨g,0,rfl,fun j s hs=>?_⟩;rw[Nat.zero_add];exact bH h j _ (by simp[bj,hs])
theorem sJ{w:World}{g:Nat}{f t:ByteArray}{T:TypeId}(h:w.heap[g]? =some (.cells #[.string f,.string t] T (0,0))):cS w [bl f,bl t] (some ⟨g,0,none⟩) 2 2:=
 ⟨rfl,ah _,by unfold maxLen;omega,.inr ⟨g,0,rfl,fun j s hs=>by
  have hc:=cell_of_row w g j _ T (0,0) h;rw[Nat.zero_add,hc];match j,hs with
  |0,hs=>simp at hs;subst hs;rfl
  |1,hs=>simp at hs;subst hs;rfl
  |j+2,hs=>simp at hs⟩⟩
def bW(w:World)(ss:List ar)(A:Option Addr)(n c:Nat):Prop:=cS w ss A n c/\(ss=[]∨∃b o cs fr,A=some ⟨b,o,none⟩/\w.heap[b]? =some (.cells cs 9 fr))
theorem bW.below{w w':World}(hb:Below w.heap.size w w'){ss:List ar}{A:Option Addr}{n c:Nat}(h:bW w ss A n c):bW w' ss A n c:=by refine⟨h.1.below hb,h.2.imp id ?_⟩;rintro⟨b,o,cs,fr,e,hh⟩;exact⟨b,o,cs,fr,e,(hb.block _ (aK.1 hh).1).trans hh⟩
theorem bW.but{w w':World}{z:Nat}{ss:List ar}{A:Option Addr}{n c:Nat}{cs:Array Value}{T:TypeId}{fr:Nat×Nat}(h:bW w ss A n c)(hz:w.heap[z]? =some (.cells cs T fr))(hT:T≠9)(hb:aU (bf z) w w'):bW w' ss A n c:=by
 obtain⟨⟨h1,h2,h3,h4⟩,h5⟩:=h;have hne:∀b o,A=some ⟨b,o,none⟩->ss≠[]->b≠z/\b<w.heap.size:=by
  intro b o e h0;rcases h5 with e0|⟨b',o',cs',fr',e',hh⟩
  .exact absurd e0 h0
  .rw[e] at e';injection e' with e';injection e' with e1 e2;subst e1;refine⟨fun e=>?_,(aK.1 hh).1⟩;rw[e,hz] at hh;injection hh with hh;injection hh with _ ht;exact hT ht
 refine⟨⟨h1,h2,h3,?_⟩,?_⟩
 .by_cases h0:ss=[]
  .exact .inl h0
  .rcases h4 with e|⟨b,o,e,hc⟩
   .exact absurd e h0
   .obtain⟨n1,n2⟩:=hne b o e h0;exact .inr ⟨b,o,e,fun j s hs=>by rw[World.cell?_of_block (hb.2 b n2 (fl n1))];exact hc j s hs⟩
 .by_cases h0:ss=[]
  .exact .inl h0
  .rcases h5 with e|⟨b,o,cs',fr',e,hh⟩
   .exact absurd e h0
   .obtain⟨n1,n2⟩:=hne b o e h0;exact .inr ⟨b,o,cs',fr',e,(hb.2 b n2 (fl n1)).trans hh⟩
theorem sK{w:World}{g:Nat}{f t:ByteArray}(h:w.heap[g]? =some (.cells #[.string f,.string t] 9 (0,0))):bW w [bl f,bl t] (some ⟨g,0,none⟩) 2 2:=⟨sJ h,.inr ⟨g,0,_,_,rfl,h⟩⟩
def nz(e:aj)(x0 x1 x2 x3 x4 x5 x6 x7:Value)(w:World)(en:Ending)(w':World):Prop:=∃(ns:List ar) (nA:Option Addr) (nn nc:Nat) (bA:Option Addr) (bn bc:Nat),
 en= .returned (.agg #[x0,x1,x2,x3,x4,x5,x6,x7,.slice nA nn nc,.slice bA bn bc,.bool e.params,.bool e.calls])/\(∀s,s∈ns↔s∈e.names)/\bW w' ns nA nn nc/\bW w' e.binds bA bn bc/\Below w.heap.size w w'
theorem yB(ps:List Int)(os ns:List ag)(pA:Option Addr)(pn pc:Nat)(i j:Int)(f t:ByteArray)(oA:Option Addr)(on oc:Nat)(nA:Option Addr)(nn nc:Nat)(w:World):Calls Tryz.prog 31 #[.agg #[.int .u8 1,.slice pA pn pc,.int .i64 i,.int .i64 j,.string f,.string t,.slice oA on oc,.slice nA nn nc]] w (nz ⟨1,ps,i,j,bl f,bl t,os,ns⟩ (.int .u8 1) (.slice pA pn pc) (.int .i64 i) (.int .i64 j) (.string f) (.string t) (.slice oA on oc) (.slice nA nn nc) w):=by
 go_in
 go_wp2_with fail;refine bodyPost_ret (v:=.agg #[.int .u8 1,.slice pA pn pc,.int .i64 i,.int .i64 j,.string f,.string t,.slice oA on oc,.slice nA nn nc,.slice (some ⟨w.heap.size+1+1+1,0,none⟩) 2 2,.slice (some ⟨w.heap.size+1+1+1,0,none⟩) 2 2,.bool false,.bool false]) (by simp[results,Tryz.results31,go_sem]) rfl ?_;exact⟨[bl f,bl t],_,2,2,_,2,2,rfl,fun s=>Iff.rfl,sK (aQ (by simp)),sK (aQ (by simp)),(((((ai _ w).alloc (ah _) _).alloc (by simp) _).alloc (by simp;omega) _).alloc (by simp;omega) _)⟩
def jC(w:World)(x0 x1 x2 x3 x4 x5 x6 x7:Value):World:=
 (((w.alloc (.cells #[x0,x1,x2,x3,x4,x5,x6,x7] 29)).alloc (.cells #[.int .u8 0,.slice none 0 0,.int .i64 0,.int .i64 0,.string ⟨#[]⟩,.string ⟨#[]⟩,.slice none 0 0,.slice none 0 0,.slice none 0 0,.slice none 0 0,.bool false,.bool false] 71)).alloc (.cells #[x0,x1,x2,x3,x4,x5,x6,x7,.slice none 0 0,.slice none 0 0,.bool false,.bool false] 71)).alloc (.cells #[x6,x7] 23)
theorem wJ(w:World)(x0 x1 x2 x3 x4 x5 x6 x7:Value):Below w.heap.size w (jC w x0 x1 x2 x3 x4 x5 x6 x7)/\(jC w x0 x1 x2 x3 x4 x5 x6 x7).heap.size=w.heap.size+4/\(jC w x0 x1 x2 x3 x4 x5 x6 x7).heap[w.heap.size+1]? =some (.cells #[.int .u8 0,.slice none 0 0,.int .i64 0,.int .i64 0,.string ⟨#[]⟩,.string ⟨#[]⟩,.slice none 0 0,.slice none 0 0,.slice none 0 0,.slice none 0 0,.bool false,.bool false] 71 (0,0))/\(jC w x0 x1 x2 x3 x4 x5 x6 x7).heap[w.heap.size+1+1]? =some (.cells #[x0,x1,x2,x3,x4,x5,x6,x7,.slice none 0 0,.slice none 0 0,.bool false,.bool false] 71 (0,0))/\(jC w x0 x1 x2 x3 x4 x5 x6 x7).heap[w.heap.size+1+1+1]? =some (.cells #[x6,x7] 23 (0,0)):=by
 unfold jC;refine⟨((((ai _ w).alloc (ah _) _).alloc (by simp) _).alloc (by simp;omega) _).alloc (by simp;omega) _,by simp,?_,?_,aQ (by simp)⟩
 .exact(heap_alloc_old _ _ (by simp)).trans ((heap_alloc_old _ _ (by simp)).trans (aQ (by simp)))
 .exact(heap_alloc_old _ _ (by simp)).trans (aQ (by simp))
theorem tY{w:World}{b:Nat}{x0 x1 x2 x3 x4 x5 x6 x7 x8 x9 x10 x11 u:Value}{T:TypeId}(h:w.heap[b]? =some (.cells #[x0,x1,x2,x3,x4,x5,x6,x7,x8,x9,x10,x11] T (0,0))):(w.setCell ⟨b,8,none⟩ u).heap[b]? =some (.cells #[x0,x1,x2,x3,x4,x5,x6,x7,u,x9,x10,x11] T (0,0)):=by simp[World.setCell,Array.getElem?_modify,h]
theorem tX{w:World}{b:Nat}{x0 x1 x2 x3 x4 x5 x6 x7 x8 x9 x10 x11 u:Value}{T:TypeId}(h:w.heap[b]? =some (.cells #[x0,x1,x2,x3,x4,x5,x6,x7,x8,x9,x10,x11] T (0,0))):(w.setCell ⟨b,10,none⟩ u).heap[b]? =some (.cells #[x0,x1,x2,x3,x4,x5,x6,x7,x8,x9,u,x11] T (0,0)):=by simp[World.setCell,Array.getElem?_modify,h]
theorem AC{w:World}{b:Nat}{x0 x1 x2 x3 x4 x5 x6 x7 x8 x10:Value}{T:TypeId}(h:w.heap[b]? =some (.cells #[x0,x1,x2,x3,x4,x5,x6,x7,x8,.slice none 0 0,x10,.bool false] T (0,0))):eQ w.heap.size b w (.slice none 0 0) [] false:=by obtain⟨h1,h2⟩:=cr h;exact⟨⟨h1.c9,h2.f9,World.ownsRow_nil _ _ _ _,(aK.1 h).1⟩,h1.c11,h2.f11⟩
theorem Ay{w w':World}{b:Nat}{x0 x1 x2 x3 x4 x5 x6 x7 x8 x9 x10 x11 v:Value}{T:TypeId}{B:Nat}{ss:List ar}{c:Bool}(h:w.heap[b]? =some (.cells #[x0,x1,x2,x3,x4,x5,x6,x7,x8,x9,x10,x11] T (0,0)))(hk:dY b w w')(hS:eQ B b w' v ss c):jn w' b x0 x1 x2 x3 x4 x5 x6 x7 x8 v x10 (.bool c):=by obtain⟨h1,h2⟩:=cr h;exact⟨(hk.only 0 _ (by decide) (by decide) h1.c0).1,(hk.only 1 _ (by decide) (by decide) h1.c1).1,(hk.only 2 _ (by decide) (by decide) h1.c2).1,(hk.only 3 _ (by decide) (by decide) h1.c3).1,(hk.only 4 _ (by decide) (by decide) h1.c4).1,(hk.only 5 _ (by decide) (by decide) h1.c5).1,(hk.only 6 _ (by decide) (by decide) h1.c6).1,(hk.only 7 _ (by decide) (by decide) h1.c7).1,(hk.only 8 _ (by decide) (by decide) h1.c8).1,hS.str.cell,(hk.only 10 _ (by decide) (by decide) h1.c10).1,hS.cell⟩
theorem sB{w:World}{base n c:Nat}{A:Option Addr}{ss:List ar}(h:w.ownsRow base 9 1 (.slice A n c) n (bj ss))(hn:n=ss.length):bW w ss A n c:=by
 obtain⟨A',c',e,h4⟩:=cS.own h hn;injection e with e1 e2 e3;rw[e1,e3];refine⟨h4,?_⟩;rcases h.2 with ⟨e,h0⟩|⟨g,cap,cur,hv,hg,hh,_⟩
 .left;exact List.length_eq_zero_iff.1 (by omega)
 .injection hv with hv1;right;exact⟨g,0,cur,_,by rw[<-e1,hv1],hh⟩
theorem AB(tmps:Array Value)(W:World)(g:Nat){x0 x1 x2 x3 x4 x5 x6 x7 x8 x9 x10 x11:Value}(ht:tmps[2]?.getD undef= .pointer (some ⟨g,0,none⟩))(hb:jn W g x0 x1 x2 x3 x4 x5 x6 x7 x8 x9 x10 x11):(results Tryz.f31 tmps).run Tryz.prog W= .ok (.agg #[x0,x1,x2,x3,x4,x5,x6,x7,x8,x9,x10,x11]) W:=by obtain⟨a0,a1,a2,a3,a4,a5,a6,a7,a8,a9,a10,a11⟩:=hb;simp[results,Tryz.results31,go_sem,ht,a0,a1,a2,a3,a4,a5,a6,a7,a8,a9,a10,a11]
theorem yC(k:Nat)(ps:List Int)(os ns:List ag)(pA:Option Addr)(pn pc:Nat)(i j:Int)(f t:ByteArray)(oA:Option Addr)(on oc:Nat)(nA:Option Addr)(nn nc:Nat)(w:World)(ho:ce w os oA on oc)(hn:ce w ns nA nn nc)(hk:k≠1)(hpos:0<on+nn)(hos:ao os<=1000)(hns:ao ns<=1000)(sho:ex 281474976710656 os)(shn:ex 281474976710656 ns):Calls Tryz.prog 31 #[.agg #[.int .u8 k,.slice pA pn pc,.int .i64 i,.int .i64 j,.string f,.string t,.slice oA on oc,.slice nA nn nc]] w (nz ⟨k,ps,i,j,bl f,bl t,os,ns⟩ (.int .u8 k) (.slice pA pn pc) (.int .i64 i) (.int .i64 j) (.string f) (.string t) (.slice oA on oc) (.slice nA nn nc) w):=by
 have q1:((k:Int) == 1)=false:=(by simp;omega);have HF:=aa (wJ w (.int .u8 k) (.slice pA pn pc) (.int .i64 i) (.int .i64 j) (.string f) (.string t) (.slice oA on oc) (.slice nA nn nc));have hlo:=eA os;have hln:=eA ns;have HLO:Hid (on=os.length):=ho.1;have HLN:Hid (nn=ns.length):=hn.1;have hon:on<=1000:=(by rw[HLO.out];omega);have hnn:nn<=1000:=(by rw[HLN.out];omega);have HO:=aa ho;have HN:=aa hn;have HSH:=aa (Av sho shn);have HSZ:Hid (ao (os++ns)<=1000000):=(by show _<=_;rw[o9];omega);clear ho hn sho shn
 go_in
 go_wp2_with fail;refine(xX os ns (w.heap.size+1+1+1) oA on oc nA nn nc w (jC w (.int .u8 k) (.slice pA pn pc) (.int .i64 i) (.int .i64 j) (.string f) (.string t) (.slice oA on oc) (.slice nA nn nc)) HF.out.1 ((cell_of_row _ _ 0 _ _ (0,0) HF.out.2.2.2.2).trans rfl) ((cell_of_row _ _ 1 _ _ (0,0) HF.out.2.2.2.2).trans rfl) HO.out HN.out hpos (by omega)).mono ?_;rintro en w1 ⟨v1,cs,rfl,hown,hread,hb1⟩;have HB1:=aa (af HF.out.1 hb1);have HR1:Hid (w1.heap[w.heap.size+1]? =some (.cells #[.int .u8 0,.slice none 0 0,.int .i64 0,.int .i64 0,.string ⟨#[]⟩,.string ⟨#[]⟩,.slice none 0 0,.slice none 0 0,.slice none 0 0,.slice none 0 0,.bool false,.bool false] 71 (0,0))):=(hb1.block _ (by rw[HF.out.2.1];omega)).trans HF.out.2.2.1;have HX1:Hid (w1.heap[w.heap.size+1+1]? =some (.cells #[.int .u8 k,.slice pA pn pc,.int .i64 i,.int .i64 j,.string f,.string t,.slice oA on oc,.slice nA nn nc,.slice none 0 0,.slice none 0 0,.bool false,.bool false] 71 (0,0))):=(hb1.block _ (by rw[HF.out.2.1];omega)).trans HF.out.2.2.2.1;have HS1:Hid (w.heap.size+4<=w1.heap.size):=(by show _<=_;have:=hb1.size;rw[HF.out.2.1] at this;exact this);obtain⟨A,c,rfl,hk1⟩:=hread.done hown (by rw[CD,<-HLO.out,<-HLN.out]) HB1.out;have HK1:=aa hk1;have HON:=aa (xr (b:=w.heap.size+1+1) hread hown (by rw[CD,<-HLO.out,<-HLN.out]) HB1.out (by omega) (by rw[HF.out.2.1];omega));clear hown hread hb1 hk1;go_wp2_with fail;refine(yH (os++ns) A (on+nn) c _ HK1.out HSH.out HSZ.out).mono ?_;rintro en w2 ⟨v2,rfl,hb2,ns2,hm2,hl2,ho2⟩;obtain⟨A2,c2,rfl,ka,kb⟩:=t9 ho2;clear ka kb;have HB2:=aa hb2;have HO2:=aa ho2;have HM2:=aa hm2;have HX2:=aa ((hb2.block _ (by have:=HS1.out;omega)).trans HX1.out);have HR2:=aa ((hb2.block _ (by have:=HS1.out;omega)).trans HR1.out);have c8:=(cr HX2.out).1.c8;have f8:=(cr HX2.out).2.f8;clear hb2 ho2 hm2;go_wp2_with fail;have HBT2:Hid (aU (bf (w.heap.size+1+1)) w1 (w2.setCell ⟨w.heap.size+1+1,8,none⟩ (.slice A2 ns2.length c2))):=(aU.below HB2.out).set (fQ _) _;have HON2:=aa (cq.but HON.out HBT2.out);refine(xE (os++ns) A (on+nn) c _ (cq.kids HON2.out)).mono ?_;rintro en w3 ⟨rfl,hb3⟩;have HB3:=aa hb3;have hs2:w.heap.size+4<=w2.heap.size:=aJ HS1.out HB2.out.size;have HX3:=aa ((hb3.block _ (by simp;omega)).trans (tY (u:=.slice A2 ns2.length c2) HX2.out));have HR3:=aa ((hb3.block _ (by simp;omega)).trans ((aY w2 ⟨w.heap.size+1+1,8,none⟩ (.slice A2 ns2.length c2) (w.heap.size+1) (by simp)).trans HR2.out));clear c8 f8;have c10:=(cr HX3.out).1.c10;have f10:=(cr HX3.out).2.f10;have hs3:w.heap.size+4<=w3.heap.size:=(by have:=hb3.size;simp at this;omega);clear hb3;go_wp2_with fail;have HX4:=aa (tX (u:=.bool (dH (os++ns))) HX3.out);have HSB:=aa (AC HX4.out);have HBT3:Hid (aU (bf (w.heap.size+1+1)) (w2.setCell ⟨w.heap.size+1+1,8,none⟩ (.slice A2 ns2.length c2)) (w3.setCell ⟨w.heap.size+1+1,10,none⟩ (.bool (dH (os++ns))))):=(aU.below HB3.out).set (fQ _) _;have HON3:=aa (cq.but HON2.out HBT3.out);refine(yY (os++ns) A (on+nn) c [] false (w.heap.size+1+1) _ _ _ HON3.out (dY.refl _ _) HSB.out (by have:=HSZ.out;simp;omega)).mono ?_;rintro en w4 ⟨rfl,hk4,v4,hS4⟩;have HK4:=aa hk4;have e4:(eR [] (os++ns))=cO (os++ns):=rfl;have e5:(fA false (os++ns))=bP (os++ns):=(by simp[fA]);rw[e4,e5] at hS4;clear e4 e5;obtain⟨A4,c4,rfl,ka,kb⟩:=t9 hS4.str.own;clear ka kb;have HS4:=aa hS4;have HR4:=aa ((hk4.old (w.heap.size+1) (by simp;omega) (by omega)).trans ((aY w3 ⟨w.heap.size+1+1,10,none⟩ (.bool (dH (os++ns))) (w.heap.size+1) (by simp)).trans HR3.out));clear c10 f10;obtain⟨d0,d1,d2,d3,d4,d5,d6,d7,d8,d9,d10,d11⟩:=Ay HX4.out hk4 hS4;obtain⟨r0,r1,r2,r3,r4,r5,r6,r7,r8,r9,r10,r11⟩:=(cr HR4.out).1;obtain⟨s0,s1,s2,s3,s4,s5,s6,s7,s8,s9,s10,s11⟩:=(cr HR4.out).2;clear hk4 hS4;go_wp2_with fail;have HBW:Hid (aU (bf (w.heap.size+1)) w4 (cA w4 (w.heap.size+1) (.int .u8 k) (.slice pA pn pc) (.int .i64 i) (.int .i64 j) (.string f) (.string t) (.slice oA on oc) (.slice nA nn nc) (.slice A2 ns2.length c2) (.slice A4 (cO (os++ns)).length c4) (.bool (dH (os++ns))) (.bool (bP (os++ns))))):=rx (aU.refl _ _) (fQ _);have HBLW:Hid (Below w.heap.size w (cA w4 (w.heap.size+1) (.int .u8 k) (.slice pA pn pc) (.int .i64 i) (.int .i64 j) (.string f) (.string t) (.slice oA on oc) (.slice nA nn nc) (.slice A2 ns2.length c2) (.slice A4 (cO (os++ns)).length c4) (.bool (dH (os++ns))) (.bool (bP (os++ns))))):=by have h1:Below w.heap.size w (w2.setCell ⟨w.heap.size+1+1,8,none⟩ (.slice A2 ns2.length c2)):=(af HB1.out HB2.out).setCell (p:=⟨w.heap.size+1+1,8,none⟩) (by simp;omega) _;have h2:Below w.heap.size w (w3.setCell ⟨w.heap.size+1+1,10,none⟩ (.bool (dH (os++ns)))):=(af h1 HB3.out).setCell (p:=⟨w.heap.size+1+1,10,none⟩) (by simp;omega) _;have h3:Below w.heap.size w w4:=h2.trans (HK4.out.bel.mono (by omega));exact lE h3 (by omega)
 have HNW:Hid (bW (cA w4 (w.heap.size+1) (.int .u8 k) (.slice pA pn pc) (.int .i64 i) (.int .i64 j) (.string f) (.string t) (.slice oA on oc) (.slice nA nn nc) (.slice A2 ns2.length c2) (.slice A4 (cO (os++ns)).length c4) (.bool (dH (os++ns))) (.bool (bP (os++ns)))) ns2 A2 ns2.length c2):=by have h1:=my HO2.out (fun g hg=>fl (b:=w.heap.size+1+1) (by have:=HS1.out;omega)) ((aU.below (ai _ _)).set (p:=⟨w.heap.size+1+1,8,none⟩) (u:=.slice A2 ns2.length c2) (fQ _));have h2:=my h1 (fun g hg=>fl (b:=w.heap.size+1+1) (by have:=HS1.out;omega)) (HBT3.out.trans (aU.of_keep HK4.out (fQ _)));have h3:=my h2 (fun g hg=>fl (b:=w.heap.size+1) (by have:=HS1.out;omega)) HBW.out;exact sB h3 rfl
 have HBI:Hid (bW (cA w4 (w.heap.size+1) (.int .u8 k) (.slice pA pn pc) (.int .i64 i) (.int .i64 j) (.string f) (.string t) (.slice oA on oc) (.slice nA nn nc) (.slice A2 ns2.length c2) (.slice A4 (cO (os++ns)).length c4) (.bool (dH (os++ns))) (.bool (bP (os++ns)))) (cO (os++ns)) A4 (cO (os++ns)).length c4):=by have h3:=my HS4.out.str.own (fun g hg=>fl (b:=w.heap.size+1) (by simp at hg;omega)) HBW.out;exact sB h3 rfl
 refine bodyPost_ret (AB _ _ (w.heap.size+1) rfl (zm (v0:=.int .u8 k) (v1:=.slice pA pn pc) (v2:=.int .i64 i) (v3:=.int .i64 j) (v4:=.string f) (v5:=.string t) (v6:=.slice oA on oc) (v7:=.slice nA nn nc) (v8:=.slice A2 ns2.length c2) (v9:=.slice A4 (cO (os++ns)).length c4) (v10:=.bool (dH (os++ns))) (v11:=.bool (bP (os++ns))) (cr HR4.out).1)) rfl ?_;have ep:aj.params ⟨k,ps,i,j,bl f,bl t,os,ns⟩=dH (os++ns):=(by unfold aj.params;rw[if_neg hk];rfl);have ec:aj.calls ⟨k,ps,i,j,bl f,bl t,os,ns⟩=bP (os++ns):=(by unfold aj.calls;rw[if_neg hk];rfl);have en:aj.names ⟨k,ps,i,j,bl f,bl t,os,ns⟩=bE (os++ns):=(by unfold aj.names;rw[if_neg hk];rfl);have eb:aj.binds ⟨k,ps,i,j,bl f,bl t,os,ns⟩=cO (os++ns):=(by unfold aj.binds;rw[if_neg hk];rfl);refine⟨ns2,A2,ns2.length,c2,A4,(cO (os++ns)).length,c4,by rw[ep,ec],by rw[en];exact HM2.out,HNW.out,by rw[eb];exact HBI.out,HBLW.out⟩
theorem zh{ts:List ag}(h:bR ts=true):0<ts.length:=by
 cases ts with
 |nil=>simp[bR] at h
 |cons t ts=>simp
theorem rm(e:aj)(k:Nat)(pA:Option Addr)(pn pc:Nat)(i j:Int)(f t:ByteArray)(oA:Option Addr)(on oc:Nat)(nA:Option Addr)(nn nc:Nat)(w:World)(h:ay w e k pA pn pc i j f t oA on oc nA nn nc)(ht:e.tiny)(hr:ap e=true):Calls Tryz.prog 31 #[.agg #[.int .u8 k,.slice pA pn pc,.int .i64 i,.int .i64 j,.string f,.string t,.slice oA on oc,.slice nA nn nc]] w (nz e (.int .u8 k) (.slice pA pn pc) (.int .i64 i) (.int .i64 j) (.string f) (.string t) (.slice oA on oc) (.slice nA nn nc) w):=by
 obtain⟨ps,os,ns,rfl,hp,ho,hn⟩:=h;by_cases hk:k=1
 .subst hk;exact yB ps os ns pA pn pc i j f t oA on oc nA nn nc w
 .have hR:=((iY _).1 hr).2;have hpos:0<on+nn:=by
   have e1:=ho.1;have e2:=hn.1;unfold lT at hR;simp only at hR;rcases hR with ⟨h,_⟩|⟨_,_,_,_,_,h⟩|⟨_,_,_,_,_,h⟩|⟨_,_,_,_,_,_,h,_⟩|⟨_,_,_,_,_,h⟩
   .exact absurd h hk
   all_goals (have:=zh h;omega)
  exact yC k ps os ns pA pn pc i j f t oA on oc nA nn nc w ho hn hk hpos (aJ (fZ ht) (by omega)) (aJ (fY ht) (by omega)) (dC ht (by omega)) (dB ht (by omega))
theorem cS.get{w:World}{ss:List ar}{A:Option Addr}{n c:Nat}(h:cS w ss A n c){i:Nat}(hi:i<n):∃b o s,A=some ⟨b,o,none⟩/\ss[i]? =some s/\w.cell? ⟨b,o+i,none⟩=some (.string (sb s)):=by
 obtain⟨h1,h2,h3,h4⟩:=h;have hi':i<ss.length:=(by omega);rcases h4 with e|⟨b,o,e,h5⟩
 .subst e;simp at hi'
 .exact⟨b,o,ss[i],e,br hi',h5 i _ (br hi')⟩
theorem cS.drewN{w:World}{ss:List ar}{A:Option Addr}{n c:Nat}(h:cS w ss A n c)(d:Nat):cS (w.drewN d) ss A n c:=h.keep fun _ _ h=>by rw[World.cell?_drewN];exact h
theorem ul(ss:List ar)(x:ByteArray):Lib.containsS (ss.map sb) x=ss.contains (bl x):=by
 rw[Bool.eq_iff_iff,Lib.containsS_iff];simp only[List.contains_eq_mem,decide_eq_true_eq,List.mem_map];constructor
 .rintro⟨s,hs,rfl⟩;exact hs
 .intro h;exact⟨bl x,h,ow x⟩
theorem xZ(ss:List ar)(A:Option Addr)(n c:Nat)(x:ByteArray)(w:World)(h:cS w ss A n c):Calls Tryz.prog 43 #[.slice A n c,.string x] w fun e w'=>e= .returned (.bool (ss.contains (bl x)))/\w'=w:=by
 obtain⟨h1,h2,h3,h4⟩:=h;by_cases h0:ss=[]
 .subst h0;have:n=0:=h1;subst this;refine(Tryz.slices_Contains_string_empty A c x w).mono ?_;rintro e w1 ⟨rfl,rfl⟩;exact⟨rfl,rfl⟩
 .rcases h4 with e|⟨b,o,rfl,h5⟩
  .exact absurd e h0
  .refine(Tryz.slices_Contains_string b o n c (ss.map sb) x w (by simp;omega) (by unfold maxLen at h3;omega) (fun j hj=>?_)).mono ?_
   .rw[ny] at hj;rw[h5 j _ (br hj)];simp[List.getD,hj]
   .rintro e w1 ⟨rfl,rfl⟩;refine⟨?_,rfl⟩;rw[List.take_of_length_le (by simp;omega),ul]
theorem FG(ss:List ar)(A:Option Addr)(n c b:Nat)(x:ByteArray)(w:World)(hc:w.cell? ⟨b,0,none⟩=some (.slice A n c))(h:cS w ss A n c):Calls Tryz.prog 121 #[.string x,.pointer (some ⟨b,0,none⟩)] w fun e w'=>e= .returned (.bool (ss.contains (bl x)))/\w'=w:=by
 have H:=aa h;clear h
 go_in
 go_wp2_with fail;refine(xZ ss _ _ _ _ _ H.out).mono ?_;rintro e w1 ⟨rfl,rfl⟩;go_wp2;go_ret;exact⟨dg (by simp),rfl⟩
theorem uB(args:Array Value)(w:World):(callFunc 121 args).run Tryz.prog w= .ok (.enter 121 args) w:=eH Tryz.func121 (by kernel_rfl) (by kernel_rfl) args w
theorem tz{ns os:List ar}{j:Nat}{s:ar}(h:bX ns os=bX ns (os.drop j))(hx:os[j]? =some s):bX ns os=(ns.contains s || bX ns (os.drop (j+1))):=by have h1:j<os.length:=(gl.1 hx).1;rw[h,List.drop_eq_getElem_cons h1];rw[br h1] at hx;injection hx with hx;rw[hx];rfl
def lf(b:Bool)(w:World)(e:Ending)(w':World):Prop:=w'=w/\∃i:Int,e= .returned (.int .i64 i)/\(0<=i↔b=true)
theorem lf.intro{b:Bool}{w:World}{i:Int}(h:0<=i↔b=true):lf b w (.returned (.int .i64 i)) w:=⟨rfl,i,rfl,h⟩
theorem If(ns os:List ar)(nA:Option Addr)(nn nc:Nat)(b:Nat)(A:Option Addr)(n c:Nat)(w:World)(hc:w.cell? ⟨b,0,none⟩=some (.slice nA nn nc))(hN:cS w ns nA nn nc)(hO:cS w os A n c):Calls Tryz.prog 145 #[.slice A n c,.func (.func 121) #[] #[.pointer (some ⟨b,0,none⟩)]] w (lf (bX ns os) w):=by
 have HN:=aa hN;have HO:=aa hO;have HC:=aa hc;have hnn:n<=9223372036854775807:=(by have h1:=hO.2.1;have h2:=hO.2.2.1;unfold maxLen at h2;omega);have HL:Hid (n=os.length):=hO.1;have hcf:=uB;clear hN hO hc
 go_in
 go_wp2_with fail;go_loopw [8] (fun i wr=>∃j:Nat,j<=n/\i= .int .i64 j/\w=wr/\Hid (bX ns os=bX ns (os.drop j))) (fun i _=>n - (intOf i).toNat);case atStart=>exact⟨0,aE _,rfl,rfl,rfl⟩
 case round=>
  obtain⟨j,hj,rfl,rfl,HI⟩:=hrel;by_cases hlt:j<n
  .obtain⟨b',o,s,rfl,hs,q0⟩:=HO.out.get hlt;have HST:=aa (tz HI.out hs);clear hs;cases hn:ns.contains s with
   |false=>
    have HNN:=aa hn;have HN2:Hid (bX ns os=bX ns (os.drop (j+1))):=(by show _=_;rw[HST.out,hn];rfl);clear hn;go_wp2_with fail;refine(FG ns _ _ _ b (sb s) _ HC.out HN.out).mono ?_;rintro e w3 ⟨rfl,rfl⟩;rw[l9,HNN.out];go_wp2;go_roundw;case rel=>exact⟨j+1,by omega,by go_num,trivial,HN2⟩
    case measure=>simp[intOf];omega
   |true=>have HNN:=aa hn;have HV:Hid (bX ns os=true):=(by show _=_;rw[HST.out,hn];rfl);clear hn;go_wp2_with fail;refine(FG ns _ _ _ b (sb s) _ HC.out HN.out).mono ?_;rintro e w3 ⟨rfl,rfl⟩;rw[l9,HNN.out];go_wp2;go_ret;exact lf.intro (by rw[HV.out];simp)
  .have HV:Hid (bX ns os=false):=by show _=_;have e1:=HL.out;rw[HI.out,List.drop_eq_nil_of_le (by omega)];rfl
   go_wp2_with fail;go_ret;exact lf.intro (by rw[HV.out];simp)
theorem xD(ns os:List ar)(nA:Option Addr)(nn nc:Nat)(b:Nat)(A:Option Addr)(n c:Nat)(w:World)(hc:w.cell? ⟨b,0,none⟩=some (.slice nA nn nc))(hN:cS w ns nA nn nc)(hO:cS w os A n c):Calls Tryz.prog 120 #[.slice A n c,.func (.func 121) #[] #[.pointer (some ⟨b,0,none⟩)]] w fun e w'=>e= .returned (.bool (bX ns os))/\w'=w:=by
 have HN:=aa hN;have HO:=aa hO;have HC:=aa hc;clear hN hO hc
 go_in
 go_wp2_with fail;refine(If ns os _ _ _ b _ _ _ _ HC.out HN.out HO.out).mono ?_;rintro e w1 ⟨rfl,i,rfl,hi⟩;have HI:=aa hi;clear hi;go_wp2;go_ret;exact⟨dg (by rw[Bool.eq_iff_iff,<-HI.out];simp),rfl⟩
theorem oH(ns os:List ar)(nA:Option Addr)(nn nc:Nat)(A:Option Addr)(n c:Nat)(w:World)(hN:cS w ns nA nn nc)(hO:cS w os A n c):Calls Tryz.prog 74 #[.slice nA nn nc,.slice A n c] w (ak (bX ns os) w):=by
 have hb0:Below w.heap.size w (w.alloc (.cells #[.slice nA nn nc] 69)):=(ai _ _).alloc (ah _) _;have HB0:=aa hb0;have HN:=aa (hN.below hb0);have HO:=aa (hO.below hb0);have HC:Hid ((w.alloc (.cells #[.slice nA nn nc] 69)).cell? ⟨w.heap.size,0,none⟩=some (.slice nA nn nc)):=(cell_of_row _ _ 0 _ _ (0,0) (heap_alloc_new _ _)).trans rfl;clear hb0 hN hO
 go_in
 go_wp2_with fail;refine(xD ns os _ _ _ w.heap.size _ _ _ _ HC.out HN.out HO.out).mono ?_;rintro e w1 ⟨rfl,rfl⟩;go_wp2;go_ret;exact ak.intro rfl HB0.out
theorem pH{ns ns' os:List ar}(h:∀s,s∈ns'↔s∈ns):bX ns' os=bX ns os:=by
 unfold bX
 congr 1
 funext s;rw[Bool.eq_iff_iff];simp[h s]
def SideArg(w:World)(e:aj)(k:Nat)(pA:Option Addr)(pn pc:Nat)(i j:Int)(f t:ByteArray)(oA:Option Addr)(on oc:Nat)(nA:Option Addr)(nn nc:Nat)(mA:Option Addr)(mn mc:Nat)(bA:Option Addr)(bn bc:Nat):Prop:=
 ay w e k pA pn pc i j f t oA on oc nA nn nc/\cS w e.binds bA bn bc/\∃ns:List ar,(∀s,s∈ns↔s∈e.names)/\cS w ns mA mn mc
theorem SideArg.below{w w':World}(hb:Below w.heap.size w w'){e:aj}{k:Nat}{pA:Option Addr}{pn pc:Nat}{i j:Int}{f t:ByteArray}{oA:Option Addr}{on oc:Nat}{nA:Option Addr}{nn nc:Nat}{mA:Option Addr}{mn mc:Nat}{bA:Option Addr}{bn bc:Nat}(h:SideArg w e k pA pn pc i j f t oA on oc nA nn nc mA mn mc bA bn bc):SideArg w' e k pA pn pc i j f t oA on oc nA nn nc mA mn mc bA bn bc:=by obtain⟨h1,h2,ns,h3,h4⟩:=h;exact⟨h1.below hb,h2.below hb,ns,h3,h4.below hb⟩
theorem xq{w:World}{g:Nat}{t:ByteArray}{T:TypeId}(h:w.heap[g]? =some (.cells #[.string t] T (0,0))):cS w [bl t] (some ⟨g,0,none⟩) 1 1:=
 ⟨rfl,ah _,by unfold maxLen;omega,.inr ⟨g,0,rfl,fun j s hs=>by
  have hc:=cell_of_row w g j _ T (0,0) h;rw[Nat.zero_add,hc];match j,hs with
  |0,hs=>simp at hs;subst hs;rfl
  |j+1,hs=>simp at hs⟩⟩
theorem nV{w w':World}{x0 x1 x2 x3 x4 x5 x6 x7 x8 x9 x10 x11 y0 y1 y2 y3 y4 y5 y6 y7 y8 y9 y10 y11:Value}{T U:TypeId}{w1:World}(e:w1=(w.alloc (.cells #[x0,x1,x2,x3,x4,x5,x6,x7,x8,x9,x10,x11] T)).alloc (.cells #[y0,y1,y2,y3,y4,y5,y6,y7,y8,y9,y10,y11] U))(hb:Below w1.heap.size w1 w'):jn w' w.heap.size x0 x1 x2 x3 x4 x5 x6 x7 x8 x9 x10 x11/\jn w' (w.heap.size+1) y0 y1 y2 y3 y4 y5 y6 y7 y8 y9 y10 y11/\Below w.heap.size w w':=by subst e;refine⟨(cr ((hb.block _ (by simp;omega)).trans ((heap_alloc_old _ _ (by simp)).trans (heap_alloc_new _ _)))).1,(cr ((hb.block _ (by simp)).trans (aQ (by simp)))).1,?_⟩;exact(((ai _ w).alloc (ah _) _).alloc (by simp) _).trans (hb.mono (by simp;omega))
theorem yD(ps:List Int)(os ns:List ag)(pA:Option Addr)(pn pc:Nat)(i j:Int)(f t:ByteArray)(oA:Option Addr)(on oc:Nat)(nA:Option Addr)(nn nc:Nat)(mA:Option Addr)(mn mc:Nat)(bA:Option Addr)(bn bc:Nat)(p1 p2:Bool)(ps':List Int)(os' ns':List ag)(pA':Option Addr)(pn' pc':Nat)(i' j':Int)(f' t':ByteArray)(oA':Option Addr)(on' oc':Nat)(nA':Option Addr)(nn' nc':Nat)(mA':Option Addr)(mn' mc':Nat)(bA':Option Addr)(bn' bc':Nat)(p1' p2':Bool)(w:World)(h1:cc w ps pA pn pc)(h2:cc w ps' pA' pn' pc'):Calls Tryz.prog 32 #[.agg #[.int .u8 1,.slice pA pn pc,.int .i64 i,.int .i64 j,.string f,.string t,.slice oA on oc,.slice nA nn nc,.slice mA mn mc,.slice bA bn bc,.bool p1,.bool p2],.agg #[.int .u8 1,.slice pA' pn' pc',.int .i64 i',.int .i64 j',.string f',.string t',.slice oA' on' oc',.slice nA' nn' nc',.slice mA' mn' mc',.slice bA' bn' bc',.bool p1',.bool p2']] w (ak (cK ⟨1,ps,i,j,bl f,bl t,os,ns⟩ ⟨1,ps',i',j',bl f',bl t',os',ns'⟩) w):=by
 have H1:=aa h1;have H2:=aa h2;clear h1 h2;have hb2:Below w.heap.size w ((w.alloc (.cells #[.int .u8 1,.slice pA pn pc,.int .i64 i,.int .i64 j,.string f,.string t,.slice oA on oc,.slice nA nn nc,.slice mA mn mc,.slice bA bn bc,.bool p1,.bool p2] 71)).alloc (.cells #[.int .u8 1,.slice pA' pn' pc',.int .i64 i',.int .i64 j',.string f',.string t',.slice oA' on' oc',.slice nA' nn' nc',.slice mA' mn' mc',.slice bA' bn' bc',.bool p1',.bool p2'] 71)):=((ai _ w).alloc (ah _) _).alloc (by simp) _;have HB2:=aa hb2;clear hb2;cases hE:(ps == ps') with
 |true=>
  have HE:=aa hE;have HV:Hid (cK ⟨1,ps,i,j,bl f,bl t,os,ns⟩ ⟨1,ps',i',j',bl f',bl t',os',ns'⟩=true):=(by show _=_;unfold cK;rw[if_pos ⟨rfl,rfl⟩];simp only[hE,Bool.true_or]);clear hE
  go_in
  go_wp2_with fail
  go_quiet (fail)
  go_wp2_with fail;refine(lz ps ps' _ _ _ _ _ _ _ ((H1.out.below HB2.out).drewN _) ((H2.out.below HB2.out).drewN _)).mono ?_;rintro en w1 ⟨rfl,q1,hw1⟩;rw[HE.out];have hb1:Below ((w.alloc (.cells #[.int .u8 1,.slice pA pn pc,.int .i64 i,.int .i64 j,.string f,.string t,.slice oA on oc,.slice nA nn nc,.slice mA mn mc,.slice bA bn bc,.bool p1,.bool p2] 71)).alloc (.cells #[.int .u8 1,.slice pA' pn' pc',.int .i64 i',.int .i64 j',.string f',.string t',.slice oA' on' oc',.slice nA' nn' nc',.slice mA' mn' mc',.slice bA' bn' bc',.bool p1',.bool p2'] 71)).heap.size ((w.alloc (.cells #[.int .u8 1,.slice pA pn pc,.int .i64 i,.int .i64 j,.string f,.string t,.slice oA on oc,.slice nA nn nc,.slice mA mn mc,.slice bA bn bc,.bool p1,.bool p2] 71)).alloc (.cells #[.int .u8 1,.slice pA' pn' pc',.int .i64 i',.int .i64 j',.string f',.string t',.slice oA' on' oc',.slice nA' nn' nc',.slice mA' mn' mc',.slice bA' bn' bc',.bool p1',.bool p2'] 71)) w1:=(by rw[hw1];exact bS (bS (ai _ _) _) _);have HB1:=aa (HB2.out.trans (hb1.mono (by simp;omega)));obtain⟨BX,BY,_⟩:=nV rfl hb1;obtain⟨c0,c1,c2,c3,c4,c5,c6,c7,c8,c9,c10,c11⟩:=BX;obtain⟨d0,d1,d2,d3,d4,d5,d6,d7,d8,d9,d10,d11⟩:=BY;have hl1:w.heap.size+1<w1.heap.size:=(by have:=hb1.size;simp at this;omega);have hz5:=fun o=>(World.cell?_alloc_lt w1 o ⟨w.heap.size,5,none⟩ (by show w.heap.size<_;omega)).trans c5;clear hb1 hw1;go_wp2_with fail;go_ret;exact ak.intro HV.out.symm HB1.out
 |false=>
  have HE:=aa hE;have HV:Hid (cK ⟨1,ps,i,j,bl f,bl t,os,ns⟩ ⟨1,ps',i',j',bl f',bl t',os',ns'⟩=(bX [bl f',bl t'] [bl t] || bl t' == bl f)):=(by show _=_;unfold cK;rw[if_pos ⟨rfl,rfl⟩];simp only[hE,Bool.false_or]);clear hE
  go_in
  go_wp2_with fail
  go_quiet (fail)
  go_wp2_with fail;refine(lz ps ps' _ _ _ _ _ _ _ ((H1.out.below HB2.out).drewN _) ((H2.out.below HB2.out).drewN _)).mono ?_;rintro en w1 ⟨rfl,q1,hw1⟩;rw[HE.out];have hb1:Below ((w.alloc (.cells #[.int .u8 1,.slice pA pn pc,.int .i64 i,.int .i64 j,.string f,.string t,.slice oA on oc,.slice nA nn nc,.slice mA mn mc,.slice bA bn bc,.bool p1,.bool p2] 71)).alloc (.cells #[.int .u8 1,.slice pA' pn' pc',.int .i64 i',.int .i64 j',.string f',.string t',.slice oA' on' oc',.slice nA' nn' nc',.slice mA' mn' mc',.slice bA' bn' bc',.bool p1',.bool p2'] 71)).heap.size ((w.alloc (.cells #[.int .u8 1,.slice pA pn pc,.int .i64 i,.int .i64 j,.string f,.string t,.slice oA on oc,.slice nA nn nc,.slice mA mn mc,.slice bA bn bc,.bool p1,.bool p2] 71)).alloc (.cells #[.int .u8 1,.slice pA' pn' pc',.int .i64 i',.int .i64 j',.string f',.string t',.slice oA' on' oc',.slice nA' nn' nc',.slice mA' mn' mc',.slice bA' bn' bc',.bool p1',.bool p2'] 71)) w1:=(by rw[hw1];exact bS (bS (ai _ _) _) _);have HB1:=aa (HB2.out.trans (hb1.mono (by simp;omega)));obtain⟨BX,BY,_⟩:=nV rfl hb1;obtain⟨c0,c1,c2,c3,c4,c5,c6,c7,c8,c9,c10,c11⟩:=BX;obtain⟨d0,d1,d2,d3,d4,d5,d6,d7,d8,d9,d10,d11⟩:=BY;have hl1:w.heap.size+1<w1.heap.size:=(by have:=hb1.size;simp at this;omega);have hz5:=fun o=>(World.cell?_alloc_lt w1 o ⟨w.heap.size,5,none⟩ (by show w.heap.size<_;omega)).trans c5;clear hb1 hw1;go_wp2_with fail;have hba:Below w1.heap.size w1 ((w1.alloc (.cells #[.string f',.string t'] 9)).alloc (.cells #[.string t] 9)):=((ai _ _).alloc (ah _) _).alloc (by simp) _;refine(oH [bl f',bl t'] [bl t] _ _ _ _ _ _ _ (sJ ((heap_alloc_old _ _ (by simp)).trans (heap_alloc_new _ _))) (xq (aQ (by simp)))).mono ?_;rintro en w3 ⟨rfl,hb3⟩;have HBA:=aa (af hba hb3);have HB3:=aa (af HB1.out HBA.out);cases ha:bX [bl f',bl t'] [bl t] with
  |true=>have HV2:Hid (cK ⟨1,ps,i,j,bl f,bl t,os,ns⟩ ⟨1,ps',i',j',bl f',bl t',os',ns'⟩=true):=(by show _=_;rw[HV.out,ha,Bool.true_or]);clear hba hb3 ha;go_wp2_with fail;go_ret;exact ak.intro HV2.out.symm HB3.out
  |false=>have HV2:Hid (cK ⟨1,ps,i,j,bl f,bl t,os,ns⟩ ⟨1,ps',i',j',bl f',bl t',os',ns'⟩=(bl t' == bl f)):=(by show _=_;rw[HV.out,ha,Bool.false_or]);have e4:=ac HBA.out c4;have e5:=ac HBA.out d5;clear hba hb3 ha;go_wp2_with fail;go_ret;exact⟨dg (by rw[HV2.out];simp[bG]),HB3.out⟩
theorem yE(e:aj)(k:Nat)(pA:Option Addr)(pn pc:Nat)(i j:Int)(f t:ByteArray)(oA:Option Addr)(on oc:Nat)(nA:Option Addr)(nn nc:Nat)(mA:Option Addr)(mn mc:Nat)(bA:Option Addr)(bn bc:Nat)(e':aj)(k':Nat)(pA':Option Addr)(pn' pc':Nat)(i' j':Int)(f' t':ByteArray)(oA':Option Addr)(on' oc':Nat)(nA':Option Addr)(nn' nc':Nat)(mA':Option Addr)(mn' mc':Nat)(bA':Option Addr)(bn' bc':Nat)(w:World)(h1:SideArg w e k pA pn pc i j f t oA on oc nA nn nc mA mn mc bA bn bc)(h2:SideArg w e' k' pA' pn' pc' i' j' f' t' oA' on' oc' nA' nn' nc' mA' mn' mc' bA' bn' bc')(hk:¬(k=1/\k'=1)):Calls Tryz.prog 32 #[.agg #[.int .u8 k,.slice pA pn pc,.int .i64 i,.int .i64 j,.string f,.string t,.slice oA on oc,.slice nA nn nc,.slice mA mn mc,.slice bA bn bc,.bool e.params,.bool e.calls],.agg #[.int .u8 k',.slice pA' pn' pc',.int .i64 i',.int .i64 j',.string f',.string t',.slice oA' on' oc',.slice nA' nn' nc',.slice mA' mn' mc',.slice bA' bn' bc',.bool e'.params,.bool e'.calls]] w (ak (cK e e') w):=by
 have hb2:Below w.heap.size w ((w.alloc (.cells #[.int .u8 k,.slice pA pn pc,.int .i64 i,.int .i64 j,.string f,.string t,.slice oA on oc,.slice nA nn nc,.slice mA mn mc,.slice bA bn bc,.bool e.params,.bool e.calls] 71)).alloc (.cells #[.int .u8 k',.slice pA' pn' pc',.int .i64 i',.int .i64 j',.string f',.string t',.slice oA' on' oc',.slice nA' nn' nc',.slice mA' mn' mc',.slice bA' bn' bc',.bool e'.params,.bool e'.calls] 71)):=((ai _ w).alloc (ah _) _).alloc (by simp) _;have HB2:=aa hb2;obtain⟨g1,g2,ns,g3,g4⟩:=h1.below hb2;obtain⟨g1',g2',ns',g3',g4'⟩:=h2.below hb2;have ek:e.kind=k:=(by obtain⟨ps,os,ns,rfl,_⟩:=g1;rfl);have ek':e'.kind=k':=(by obtain⟨ps,os,ns,rfl,_⟩:=g1';rfl);have HV:Hid (cK e e'=(bX ns' e.binds || bX ns e'.binds || (!(k == 1) && !(k' == 1) && (e.params && e'.calls || e'.params && e.calls)))):=by show _=_;unfold cK;rw[if_neg (by rw[ek,ek'];exact hk),pH g3,pH g3',ek,ek'];cases bX e'.names e.binds<;>cases bX e.names e'.binds<;>simp[bne]
 have HN:=aa g4;have HN':=aa g4';have HBD:=aa g2;have HBD':=aa g2';clear hb2 g1 g2 g3 g4 g1' g2' g3' g4' ek ek' h1 h2;generalize e.params=pp at HV HB2 HN HN' HBD HBD' ⊢;generalize e.calls=pq at HV HB2 HN HN' HBD HBD' ⊢;generalize e'.params=qp at HV HB2 HN HN' HBD HBD' ⊢;generalize e'.calls=qq at HV HB2 HN HN' HBD HBD' ⊢;obtain⟨b1,b2,q1,q2,q3,q4⟩:∃b1 b2:Bool,((k:Int) == 1)=b1/\((k':Int) == 1)=b2/\(k == 1)=b1/\(k' == 1)=b2:=
  ⟨_,_,rfl,rfl,by rw[Bool.eq_iff_iff];simp;omega,by rw[Bool.eq_iff_iff];simp;omega⟩
 have hbb:(b1 && b2)=false:=by rw[<-q3,<-q4,<-Bool.not_eq_true,Bool.and_eq_true,beq_iff_eq,beq_iff_eq];exact hk
 rw[q3,q4] at HV;clear q3 q4 hk;obtain⟨rfl,rfl⟩|⟨rfl,rfl⟩|⟨rfl,rfl⟩:(b1=true/\b2=false)∨(b1=false/\b2=true)∨(b1=false/\b2=false):=by cases b1<;>cases b2<;>simp at hbb ⊢
 all_goals
  clear hbb
  go_in
  go_wp2_with fail
  go_quiet (fail)
  go_wp2_with fail;refine(oH ns' e.binds _ _ _ _ _ _ _ (HN'.out.drewN _) (HBD.out.drewN _)).mono ?_;rintro en w1 ⟨rfl,hb1'⟩;have hb1:Below ((w.alloc (.cells #[.int .u8 k,.slice pA pn pc,.int .i64 i,.int .i64 j,.string f,.string t,.slice oA on oc,.slice nA nn nc,.slice mA mn mc,.slice bA bn bc,.bool pp,.bool pq] 71)).alloc (.cells #[.int .u8 k',.slice pA' pn' pc',.int .i64 i',.int .i64 j',.string f',.string t',.slice oA' on' oc',.slice nA' nn' nc',.slice mA' mn' mc',.slice bA' bn' bc',.bool qp,.bool qq] 71)).heap.size ((w.alloc (.cells #[.int .u8 k,.slice pA pn pc,.int .i64 i,.int .i64 j,.string f,.string t,.slice oA on oc,.slice nA nn nc,.slice mA mn mc,.slice bA bn bc,.bool pp,.bool pq] 71)).alloc (.cells #[.int .u8 k',.slice pA' pn' pc',.int .i64 i',.int .i64 j',.string f',.string t',.slice oA' on' oc',.slice nA' nn' nc',.slice mA' mn' mc',.slice bA' bn' bc',.bool qp,.bool qq] 71)) w1:=af (bS (ai _ _) _) hb1';have HB1:=aa (HB2.out.trans (hb1.mono (by simp;omega)));have HNN:=aa (HN.out.below hb1);have HBB:=aa (HBD'.out.below hb1);obtain⟨BX,BY,_⟩:=nV rfl hb1;obtain⟨c0,c1,c2,c3,c4,c5,c6,c7,c8,c9,c10,c11⟩:=BX;obtain⟨d0,d1,d2,d3,d4,d5,d6,d7,d8,d9,d10,d11⟩:=BY;clear hb1 hb1';cases ha:bX ns' e.binds with
  |true=>have HV2:Hid (cK e e'=true):=(by show _=_;rw[HV.out,ha,Bool.true_or,Bool.true_or]);clear ha;go_wp2_with fail;go_ret;exact ak.intro HV2.out.symm HB1.out
  |false=>
   have HV2:=HV;rw[ha,Bool.false_or] at HV2;clear ha;go_wp2_with fail;refine(oH ns e'.binds _ _ _ _ _ _ _ HNN.out HBB.out).mono ?_;rintro en w2 ⟨rfl,hb2⟩;have HB3:=aa (af HB1.out hb2);replace c10:=ac hb2 c10;replace c11:=ac hb2 c11;replace d10:=ac hb2 d10;replace d11:=ac hb2 d11;clear hb2;cases ha:bX ns e'.binds with
   |true=>have HV3:Hid (cK e e'=true):=(by show _=_;rw[HV2.out,ha,Bool.true_or]);clear ha;go_wp2_with fail;go_ret;exact ak.intro HV3.out.symm HB3.out
   |false=>
    have HV3:=HV2;rw[ha,Bool.false_or] at HV3;clear ha;cases pp<;>cases pq<;>cases qp<;>cases qq
    all_goals
     go_wp2_with fail;go_ret;exact⟨dg (by rw[HV3.out];rfl),HB3.out⟩
theorem lB(e:aj)(k:Nat)(pA:Option Addr)(pn pc:Nat)(i j:Int)(f t:ByteArray)(oA:Option Addr)(on oc:Nat)(nA:Option Addr)(nn nc:Nat)(mA:Option Addr)(mn mc:Nat)(bA:Option Addr)(bn bc:Nat)(e':aj)(k':Nat)(pA':Option Addr)(pn' pc':Nat)(i' j':Int)(f' t':ByteArray)(oA':Option Addr)(on' oc':Nat)(nA':Option Addr)(nn' nc':Nat)(mA':Option Addr)(mn' mc':Nat)(bA':Option Addr)(bn' bc':Nat)(w:World)(h1:SideArg w e k pA pn pc i j f t oA on oc nA nn nc mA mn mc bA bn bc)(h2:SideArg w e' k' pA' pn' pc' i' j' f' t' oA' on' oc' nA' nn' nc' mA' mn' mc' bA' bn' bc'):Calls Tryz.prog 32 #[.agg #[.int .u8 k,.slice pA pn pc,.int .i64 i,.int .i64 j,.string f,.string t,.slice oA on oc,.slice nA nn nc,.slice mA mn mc,.slice bA bn bc,.bool e.params,.bool e.calls],.agg #[.int .u8 k',.slice pA' pn' pc',.int .i64 i',.int .i64 j',.string f',.string t',.slice oA' on' oc',.slice nA' nn' nc',.slice mA' mn' mc',.slice bA' bn' bc',.bool e'.params,.bool e'.calls]] w (ak (cK e e') w):=by
 by_cases hk:k=1/\k'=1
 .obtain⟨rfl,rfl⟩:=hk;obtain⟨⟨ps,os,ns,rfl,hp,_,_⟩,_⟩:=h1;obtain⟨⟨ps',os',ns',rfl,hp',_,_⟩,_⟩:=h2;exact yD ps os ns pA pn pc i j f t oA on oc nA nn nc mA mn mc bA bn bc _ _ ps' os' ns' pA' pn' pc' i' j' f' t' oA' on' oc' nA' nn' nc' mA' mn' mc' bA' bn' bc' _ _ w hp hp'
 .exact yE e k pA pn pc i j f t oA on oc nA nn nc mA mn mc bA bn bc e' k' pA' pn' pc' i' j' f' t' oA' on' oc' nA' nn' nc' mA' mn' mc' bA' bn' bc' w h1 h2 hk
theorem jF(k:Nat)(x1 x2 x3 x4 x5 x6 x7 x8 x9 x10 x11:Value)(w:World):Calls Tryz.prog 34 #[.agg #[.int .u8 k,x1,x2,x3,x4,x5,x6,x7,x8,x9,x10,x11]] w (ak (aq k) w):=by
 have hb0:Below w.heap.size w (w.alloc (.cells #[.int .u8 k,x1,x2,x3,x4,x5,x6,x7,x8,x9,x10,x11] 71)):=(ai _ _).alloc (ah _) _;have HB0:=aa hb0;have c0:=(cr (heap_alloc_new w (.cells #[.int .u8 k,x1,x2,x3,x4,x5,x6,x7,x8,x9,x10,x11] 71))).1.c0;clear hb0;by_cases h2:k=2
 .subst h2
  go_in
  go_wp2_with fail;go_ret;exact ak.intro rfl HB0.out
 have q2:((k:Int) == 2)=false:=(by simp;omega);by_cases h3:k=3
 .subst h3
  go_in
  go_wp2_with fail;go_ret;exact ak.intro rfl HB0.out
 have q3:((k:Int) == 3)=false:=(by simp;omega);by_cases h5:k=5
 .subst h5
  go_in
  go_wp2_with fail;go_ret;exact ak.intro rfl HB0.out
 have q5:((k:Int) == 5)=false:=(by simp;omega);have HV:Hid (aq k=false):=(by show _=_;simp[aq,h2,h3,h5]);clear h2 h3 h5
 go_in
 go_wp2_with fail;go_ret;exact ak.intro HV.out.symm HB0.out
end Go.Proofs.YtckbdkgcoilmpaaGreatDoor
