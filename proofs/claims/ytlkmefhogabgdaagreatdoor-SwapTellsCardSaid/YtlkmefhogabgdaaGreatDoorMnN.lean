/- Part 14 of the proof. -/
import Derived.Lib.OwnBridge
import Derived.Sort.OwnSorted
import Derived.Lib.SlicesCompact
import Derived.IntWalk
import Derived.Test.YtlkmefhogabgdaaGreatDoorMnK
import Derived.Test.YtlkmefhogabgdaaGreatDoorMnM
namespace Go.Proofs.YtlkmefhogabgdaaGreatDoor
open Go.RowKit
set_option linter.all false
set_option maxHeartbeats 40000000
set_option maxRecDepth 100000
theorem uE(args:Array Value)(w:World):(callFunc 123 args).run Tryz.prog w= .ok (.enter 123 args) w:=eH Tryz.func123 (by kernel_rfl) (by kernel_rfl) args w
def dV(ss:List ar)(ks:List ag):List ar:=ss++bE ks
theorem xg{ss:List ar}{ks:List ag}{j:Nat}{t:ag}(h:ks[j]? =some t):dV ss (ks.take (j+1))=dV (gT t.kind (sb t.text) (dV ss (ks.take j))) t.kids:=by
 have hj:j<ks.length:=(bs.1 h).1;have e:ks.take (j+1)=ks.take j++[t]:=by rw[List.take_succ_eq_append_getElem hj];rw[br hj] at h;injection h with h;rw[h]
 obtain⟨k,s,x,us⟩:=t;rw[e];unfold dV gT;simp only[xi,bE,ag.names,ag.kind,ag.text,ag.kids,List.append_nil,l9];split<;>simp_all
theorem xf{ss:List ar}{ks:List ag}{j:Nat}{t:ag}(h:ks[j]? =some t):(dV ss (ks.take j)).length+t.sz<=ss.length+ao ks:=by
 have h1:=mv (ks.take j);have hj:j<ks.length:=(bs.1 h).1;have e:ao ks=ao (ks.take j)+ao (ks.drop j):=(by rw[<-o9,List.take_append_drop]);have e2:ao (ks.drop j)=t.sz+ao (ks.drop (j+1)):=by rw[List.drop_eq_getElem_cons hj];rw[br hj] at h;injection h with h;rw[h];rfl
 unfold dV;rw[cb];omega
def pr(b:Nat)(ss:List ar)(w0:World)(e:Ending)(w':World):Prop:=e= .returned (.tuple #[])/\Below w0.heap.size w0 w'/\∃v',eG (b+1) b 0 w' v' ss
def nr(m:Nat):Prop:=∀(ks:List ag) (A:Option Addr) (n c:Nat) (ss:List ar) (w0 w:World) (v:Value),ao ks<m->KidsAt w0 ks A n c->bi 281474976710656 ks->Below w0.heap.size w0 w->eG (w0.heap.size+1) w0.heap.size 0 w v ss->ss.length+ao ks<=1000000->
 Calls Tryz.prog 122 #[.func (.func 123) #[] #[.pointer (some ⟨w0.heap.size,0,none⟩)],.slice A n c] w (pr w0.heap.size (dV ss ks) w0)
theorem uv{w w3:World}{b:Nat}{v:Value}{ss:List ar}{x0 x1 x2 x3:Value}{T:TypeId}(hS:eG (b+1) b 0 w v ss)(hbut:fI b v (w.alloc (.cells #[x0,x1,x2,x3] T)) w3)(hb3:Below b (w.alloc (.cells #[x0,x1,x2,x3] T)) w3):Hid (Below b w w3)/\Hid (w3.cell? ⟨w.heap.size,3,none⟩=some x3):=by have hlt:b<w.heap.size:=bK hS.cell;have hb:Below b w w3:=((ai _ _).alloc (by omega) _).trans hb3;refine⟨hb,?_⟩;have h1:w3.heap[w.heap.size]? =(w.alloc (.cells #[x0,x1,x2,x3] T)).heap[w.heap.size]? :=hbut.2 _ (by simp) (by omega) (fun e=>by have:=(hS.own.lt _ e).2;omega);rw[heap_alloc_new] at h1;exact(di h1).c3
theorem xd(k:Nat)(s:ByteArray)(ss:List ar):(gT k s ss).length<=ss.length+1:=by unfold gT;split<;>simp
theorem uw(m:Nat)(ih:Hid (nr m)):nr (m+1):=by
 intro ks A n c ss w0 w v hm hK hsh hb hS hfew;have HK:=aa hK;have HSH:=aa hsh;have HM:=aa hm;have HLN:Hid (n=ks.length):=hK.1;have hnn:n<=9223372036854775807:=(by have h1:=hK.2.1;have h2:=hK.2.2.1;unfold maxLen at h2;omega);have HB:=aa hb;have HS:=aa hS;have hcf:=uE;clear hK hsh hm hb hS
 go_in
 go_wp2_with fail;go_loopw [8] (fun i wr=>∃j:Nat,j<=n/\i= .int .i64 j/\Hid (Below w0.heap.size w0 wr)/\Hid (∃v',eG (w0.heap.size+1) w0.heap.size 0 wr v' (dV ss (ks.take j)))) (fun i _=>n - (intOf i).toNat);case atStart=>exact⟨0,aE _,rfl,HB.out,v,by simpa[dV,bE] using HS.out⟩
 case round=>
  obtain⟨j,hj,rfl,HBR,HSR⟩:=hrel;by_cases hlt:j<n
  .obtain⟨b,o,t,rfl,ht,hat⟩:=(HK.out.below HBR.out).get hlt;obtain⟨B1,d1,q0,q1,q2,q3,hnode⟩:=hat.cells;obtain⟨B0,d0,q3',hkk⟩:∃B0 d0,wr.cell? ⟨b,o+j*4+3,none⟩=some (.slice B0 t.kids.length d0)/\KidsAt w0 t.kids B0 t.kids.length d0:=by obtain⟨b',o',t',e1,e2,hat0⟩:=HK.out.get hlt;injection e1 with e1;injection e1 with e1 e1';rw[ht] at e2;injection e2 with e2;subst e1 e1' e2;obtain⟨A',c',_,_,_,h3,hk,_⟩:=hat0.parts;exact⟨A',c',ac HBR.out h3,hk⟩
   rw[q3] at q3';injection q3' with q3';injection q3' with q3' _ q3'';subst q3' q3'';have HKK:=aa hkk;clear hkk;obtain⟨vr,hvr⟩:=HSR.out;have HND:=aa hnode;have HT:=aa ht;have HSV:=aa hvr;have HL1:=aa (xf (ss:=ss) ht);have HST:=aa (HSH.out.get ht);have HSZ:Hid (ao t.kids+1<m+1):=Nat.lt_of_le_of_lt (by have:=jL ht;obtain⟨k,s,x,us⟩:=t;simp[ag.sz,ag.kids] at this ⊢;omega) HM.out;have HSE:Hid (dV ss (ks.take (j+1))=dV (gT t.kind (sb t.text) (dV ss (ks.take j))) t.kids):=xg ht;clear ht hat hnode hvr;go_wp2_with fail;have hba:Below wr.heap.size wr (wr.alloc (.cells #[.int .u8 t.kind,.string (sb t.text),.int .i64 t.num,.slice B1 t.kids.length d1] 44)):=(ai _ _).alloc (ah _) _;refine(yI (w0.heap.size+1) w0.heap.size t.kind (sb t.text) t.num B1 t.kids.length d1 (dV ss (ks.take j)) vr _ (HSV.out.below hba) (by have:=HST.out;obtain⟨k,s,x,us⟩:=t;exact this.1) (by have:=HL1.out;omega) (by have:=bK HSV.out.cell;simp at this ⊢;omega)).mono ?_;rintro en w3 ⟨rfl,v3,hS3,hbut,hb3⟩;obtain⟨HB3,HX3⟩:=uv HSV.out hbut hb3;have HBW:=aa (HBR.out.trans HB3.out);have HS3:=aa hS3;have c3:=HX3.out;clear hba hS3 hbut hb3;go_wp2_with fail;refine(ih.out t.kids B1 t.kids.length d1 _ w0 w3 v3 (by have:=HSZ.out;omega) (HKK.out) (by have:=HST.out;obtain⟨k,s,x,us⟩:=t;exact this.2) HBW.out HS3.out (by have:=HL1.out;have:=xd t.kind (sb t.text) (dV ss (ks.take j));obtain⟨k,s,x,us⟩:=t;simp[ag.sz,ag.kids] at*;omega)).mono ?_;rintro en w4 ⟨rfl,hb4,v4,hS4⟩;have HB4:=aa hb4;have HS4:=aa hS4;clear hb4 hS4;go_wp2;go_roundw;case rel=>exact⟨j+1,by omega,by go_num,HB4,v4,by rw[HSE.out];exact HS4.out⟩
   case measure=>simp[intOf];omega
  .have hjn:j=n:=(by omega);subst hjn;have HD:Hid (dV ss (ks.take j)=dV ss ks):=(by show _=_;rw[List.take_of_length_le (by have:=HLN.out;omega)]);obtain⟨vr,hvr⟩:=HSR.out;have HSV:=aa hvr;clear hvr;go_wp2_with fail
   go_end0
   rw[<-HD.out];exact⟨rfl,HBR.out,vr,HSV.out⟩
theorem p9:∀m,nr m
 |0=>fun _ _ _ _ _ _ _ _ hm=>absurd hm (Nat.not_lt_zero _)
 |m+1=>uw m (aa (p9 m))
theorem yb(ks:List ag)(A:Option Addr)(n c:Nat)(ss:List ar)(w0 w:World)(v:Value)(hK:KidsAt w0 ks A n c)(hsh:bi 281474976710656 ks)(hb:Below w0.heap.size w0 w)(hS:eG (w0.heap.size+1) w0.heap.size 0 w v ss)(hfew:ss.length+ao ks<=1000000):Calls Tryz.prog 122 #[.func (.func 123) #[] #[.pointer (some ⟨w0.heap.size,0,none⟩)],.slice A n c] w (pr w0.heap.size (dV ss ks) w0):=
 p9 (ao ks+1) ks A n c ss w0 w v (Nat.lt_succ_self _) hK hsh hb hS hfew
section
open Go.RowKit Go.Sort
theorem vl{d:Array ar}{j:Nat}(h:j<d.size):d[j]! ∈d.toList:=by rw[getElem!_pos d j h];simp
theorem qR(d:Array ar):∀m,m<=d.size->∀s,s∈Lib.compactUpTo d m↔∃j,j<m/\d[j]! =s
 |0,_,s=>by simp[Lib.compactUpTo]
 |m+1,hm,s=>by
  rw[Lib.compactUpTo_succ,List.mem_append,qR d m (by omega) s];constructor
  .rintro(⟨j,hj,e⟩|h)
   .exact⟨j,by omega,e⟩
   .split at h
    .simp at h;exact⟨m,by omega,h.symm⟩
    .simp at h
  .rintro⟨j,hj,e⟩;by_cases hjm:j=m
   .subst hjm;by_cases hk:Lib.keeps d j=true
    .right;rw[if_pos hk];simp[e]
    .left;unfold Lib.keeps at hk;simp only[decide_eq_true_eq,not_or,Decidable.not_not] at hk;exact⟨j - 1,by omega,by rw[<-hk.2];exact e⟩
   .exact .inl ⟨j,by omega,e⟩
theorem wS(ss:List ar)(s:ar):s∈Lib.compact ss↔s∈ss:=by
 unfold Lib.compact;rw[qR _ _ (by simp)];constructor
 .rintro⟨j,hj,e⟩;have:=vl (d:=ss.toArray) (j:=j) (by simpa using hj);rw[e] at this;simpa using this
 .intro h;obtain⟨j,hj,e⟩:=List.getElem_of_mem h;exact⟨j,hj,by rw[getElem!_pos _ j (by simpa using hj)];simpa using e⟩
theorem pU(ss:List ar):(Lib.compact ss).length<=ss.length:=by unfold Lib.compact Lib.compactUpTo;rw[ny];exact aJ (List.length_filter_le _ _) (by simp)
def tk(base:Nat)(w:World)(ss:List ar)(v:Value)(w':World):Prop:=∃ss',(∀s,s∈ss'↔s∈ss)/\ss'.length<=ss.length/\w'.ownsRow base 9 1 v ss'.length (bj ss')/\Below base w w'
theorem yW(base:Nat)(ss:List ar)(v:Value)(w:World)(h:w.ownsRow base 9 1 v ss.length (bj ss))(hB:base<=w.heap.size)(hl:ss.length<=1000000):Calls Tryz.prog 126 #[v] w fun e w'=>e= .returned (.tuple #[])/\∃ss',(∀s,s∈ss'↔s∈ss)/\ss'.length=ss.length/\w'.ownsRow base 9 1 v ss'.length (bj ss')/\Below base w w':=by
 rcases h.2 with ⟨rfl,h0⟩|⟨g,cap,cur,rfl,hb,hg,hn,hm,hs,ht⟩
 .refine(Tryz.slices_Sort_string_none none 0 w).mono ?_;rintro e w1 ⟨rfl,rfl⟩;exact⟨rfl,ss,fun _=>Iff.rfl,rfl,h,ai _ _⟩
 .have hlt:g<w.heap.size:=(aK.1 hg).1;refine(Tryz.slices_Sort_string g 0 cap ss w (holds_of_block hg (by have:=ht;rw[Nat.mul_one] at this;exact this)) hlt (by omega)).mono ?_;rintro e w1 ⟨rfl,n,os,rfl⟩;refine⟨rfl,ss.mergeSort fun x y=>decide (x<=y),fun s=>List.mem_mergeSort,by simp,?_,?_⟩
  .have hl':(ss.mergeSort fun x y=>decide (x<=y)).length=ss.length:=(by simp);rw[hl'];exact ownsRow_sorted hl' hb hg hn hm hs
  .exact(ai _ _).grown (grownBy_sorted _) hB (fun k hk=>by injection hk with hk;omega)
theorem xW(base:Nat)(ss:List ar)(v:Value)(w:World)(h:w.ownsRow base 9 1 v ss.length (bj ss))(hl:ss.length<=1000000):Calls Tryz.prog 127 #[v] w fun e w'=>∃v',e= .returned v'/\tk base w ss v' w':=by
 by_cases hv:v= .slice none 0 0
 .subst hv;have h0:ss=[]:=by
   rcases h.2 with ⟨_,h0⟩|⟨g,cap,cur,e,_⟩
   .exact List.length_eq_zero_iff.1 h0
   .cases e
  subst h0;refine(Tryz.slices_Compact_string_empty none 0 w).mono ?_;rintro e w1 ⟨rfl,rfl⟩;exact⟨_,rfl,[],fun _=>Iff.rfl,ah _,h,ai _ _⟩
 .obtain⟨g,cap,rfl,hb,hlt,hn,hm,_,hH⟩:=Lib.holds_of_ownsRow (enc:=encStr) (zs:=ss) h hv;refine(Tryz.slices_Compact_string g 0 cap ss w hH (by omega) hn).mono ?_;rintro e w1 ⟨rfl,q,rfl⟩;refine⟨_,rfl,Lib.compact ss,wS ss,pU ss,?_,Lib.below_putRow (ai _ _) hb⟩;have hc:=pU ss;have:=Lib.ownsRow_putRow (enc:=encStr) (q:=q) (k:=(Lib.compact ss).length) (ys:=Lib.compact ss++List.replicate (ss.length - (Lib.compact ss).length) []) h (by simp;omega) hc;rw[List.take_left] at this;exact this
def sZ(w:World)(ks:List ag)(e:Ending)(w':World):Prop:=∃v,e= .returned v/\Below w.heap.size w w'/\∃ss,(∀s,s∈ss↔s∈bE ks)/\ss.length<=(bE ks).length/\w'.ownsRow w.heap.size 9 1 v ss.length (bj ss)
theorem yH(ks:List ag)(A:Option Addr)(n c:Nat)(w:World)(hK:KidsAt w ks A n c)(hsh:bi 281474976710656 ks)(hfew:ao ks<=1000000):Calls Tryz.prog 53 #[.slice A n c] w (sZ w ks):=by
 have hb0:Below w.heap.size w (w.alloc (.cells #[.slice none 0 0] 52)):=(ai _ _).alloc (ah _) _;have hS0:eG (w.heap.size+1) w.heap.size 0 (w.alloc (.cells #[.slice none 0 0] 52)) (.slice none 0 0) []:=by have hc:=cell_of_row (w.alloc (.cells #[.slice none 0 0] 52)) w.heap.size 0 _ _ (0,0) (heap_alloc_new _ _);exact⟨hc,by unfold World.frozen?;rw[heap_alloc_new];rfl,World.ownsRow_nil _ _ _ _,Nat.lt_succ_self _⟩
 have HB0:=aa hb0;have HS0:=aa hS0;have HK:=aa hK;have HSH:=aa hsh;have hnl:=mv ks;clear hb0 hS0 hK hsh
 go_in
 go_wp2_with fail;refine(yb ks A n c [] w _ _ HK.out HSH.out HB0.out HS0.out (by simp;omega)).mono ?_;rintro en w1 ⟨rfl,hb1,v1,hS1⟩;have hc1:=hS1.cell;have HS1:=aa hS1;have HB1:=aa hb1;have hlt:w.heap.size<w1.heap.size:=bK hS1.cell;clear hb1 hS1;go_wp2_with fail;refine(yW (w.heap.size+1) _ _ _ HS1.out.own hlt (by simp[dV];omega)).mono ?_;rintro en w2 ⟨rfl,ss2,hm2,hl2,ho2,hb2⟩;have hc2:w2.cell? ⟨w.heap.size,0,none⟩=some v1:=(hb2.cell (p:=⟨w.heap.size,0,none⟩) (by show w.heap.size<_;omega)).trans hc1;have HB2:=aa (HB1.out.trans (hb2.mono (by omega)));have HO2:=aa ho2;have HM2:=aa hm2;clear hb2 ho2 hm2 hc1;have hl3:ss2.length<=(bE ks).length:=(by rw[hl2];simp[dV]);go_wp2_with fail;refine(xW (w.heap.size+1) _ _ _ HO2.out (by omega)).mono ?_;rintro en w3 ⟨v3,rfl,ss3,hm3,hl4,ho3,hb3⟩;have HB3:=aa (HB2.out.trans (hb3.mono (by omega)));have HO3:=aa ho3;have HM3:=aa hm3;clear hb3 ho3 hm3 hc2;go_wp2;go_ret;refine⟨_,rfl,HB3.out,ss3,fun s=>?_,by omega,dk HO3.out (by omega)⟩;rw[HM3.out,HM2.out];simp[dV]
end
def iT(k:Nat):Bool:=k == 4 || k == 3
theorem rl(k:Nat)(s:ByteArray)(x:Int)(A:Option Addr)(n c:Nat)(w:World):Calls Tryz.prog 55 #[.agg #[.int .u8 k,.string s,.int .i64 x,.slice A n c]] w (ak (iT k) w):=by
 have hb0:Below w.heap.size w (w.alloc (.cells #[.int .u8 k,.string s,.int .i64 x,.slice A n c] 44)):=(ai _ _).alloc (ah _) _;have HB0:=aa hb0;have HBX:=aa (di (heap_alloc_new w (.cells #[.int .u8 k,.string s,.int .i64 x,.slice A n c] 44)));have c0:=HBX.out.c0;clear hb0;by_cases h4:k=4
 .subst h4;have HV:Hid (iT 4=true):=rfl
  go_in
  go_wp2_with fail;all_goals
   go_ret;exact ak.intro HV.out.symm HB0.out
 .have e1:((k:Int) == 4)=false:=(by simp;omega);by_cases h3:k=3
  .subst h3;have HV:Hid (iT 3=true):=rfl
   go_in
   go_wp2_with fail;all_goals
    go_ret;exact ak.intro HV.out.symm HB0.out
  .have e2:((k:Int) == 3)=false:=(by simp;omega);have HV:Hid (iT k=false):=(by show _=_;simp[iT,h3,h4]);clear h3 h4
   go_in
   go_wp2_with fail;all_goals
    go_ret;exact ak.intro HV.out.symm HB0.out
theorem uC(args:Array Value)(w:World):(callFunc 55 args).run Tryz.prog w= .ok (.enter 55 args) w:=eH Tryz.func55 (by kernel_rfl) (by kernel_rfl) args w
def dH(ts:List ag):Bool:=ts.any fun t=>iT t.kind
theorem zf{ts:List ag}{j:Nat}{t:ag}(h:dH ts=dH (ts.drop j))(hx:ts[j]? =some t):dH ts=(iT t.kind || dH (ts.drop (j+1))):=by have h1:j<ts.length:=(bs.1 hx).1;rw[h,List.drop_eq_getElem_cons h1];rw[br h1] at hx;injection hx with hx;rw[hx];rfl
def kY(b:Bool)(w:World)(e:Ending)(w':World):Prop:=Below w.heap.size w w'/\∃i:Int,e= .returned (.int .i64 i)/\(0<=i↔b=true)
theorem kY.intro{b:Bool}{w w':World}{i:Int}(hb:Below w.heap.size w w')(h:0<=i↔b=true):kY b w (.returned (.int .i64 i)) w':=⟨hb,i,rfl,h⟩
theorem yt(ts:List ag)(A:Option Addr)(n c:Nat)(w:World)(hK:KidsAt w ts A n c):Calls Tryz.prog 128 #[.slice A n c,.func (.func 55) #[] #[]] w (kY (dH ts) w):=by
 have HK:=aa hK;have hnn:n<=9223372036854775807:=(by have h1:=hK.2.1;have h2:=hK.2.2.1;unfold maxLen at h2;omega);have HL:Hid (n=ts.length):=hK.1;have hcf:=uC;clear hK
 go_in
 go_wp2_with fail;go_loopw [8] (fun i wr=>∃j:Nat,j<=n/\i= .int .i64 j/\Hid (Below w.heap.size w wr)/\Hid (dH ts=dH (ts.drop j))) (fun i _=>n - (intOf i).toNat);case atStart=>exact⟨0,aE _,rfl,ai _ _,rfl⟩
 case round=>
  obtain⟨j,hj,rfl,HB,HI⟩:=hrel;by_cases hlt:j<n
  .obtain⟨b,o,t,rfl,ht,hat⟩:=(HK.out.below HB.out).get hlt;obtain⟨B1,d1,q0,q1,q2,q3,hnode⟩:=hat.cells;have HST:=aa (zf HI.out ht);clear ht hat hnode;cases hn:iT t.kind with
   |false=>
    have HNN:=aa hn;have HN:Hid (dH ts=dH (ts.drop (j+1))):=(by show _=_;rw[HST.out,hn];rfl);clear hn;go_wp2_with fail;refine(rl _ _ _ _ _ _ _).mono ?_;rintro e w3 ⟨rfl,hb3⟩;rw[HNN.out];have HB3:=aa (af HB.out hb3);clear hb3;go_wp2;go_roundw;case rel=>exact⟨j+1,by omega,by go_num,HB3,HN⟩
    case measure=>simp[intOf];omega
   |true=>have HNN:=aa hn;have HV:Hid (dH ts=true):=(by show _=_;rw[HST.out,hn];rfl);clear hn;go_wp2_with fail;refine(rl _ _ _ _ _ _ _).mono ?_;rintro e w3 ⟨rfl,hb3⟩;rw[HNN.out];have HB3:=aa (af HB.out hb3);clear hb3;go_wp2;go_ret;exact kY.intro HB3.out (by rw[HV.out];simp)
  .have HV:Hid (dH ts=false):=by show _=_;have e1:=HL.out;rw[HI.out,List.drop_eq_nil_of_le (by omega)];rfl
   go_wp2_with fail;go_ret;exact kY.intro HB.out (by rw[HV.out];simp)
theorem xE(ts:List ag)(A:Option Addr)(n c:Nat)(w:World)(hK:KidsAt w ts A n c):Calls Tryz.prog 54 #[.slice A n c,.func (.func 55) #[] #[]] w (ak (dH ts) w):=by
 have HK:=aa hK;clear hK
 go_in
 go_wp2_with fail;refine(yt ts _ _ _ _ HK.out).mono ?_;rintro e w1 ⟨hb,i,rfl,hi⟩;have HI:=aa hi;have HB:=aa hb;clear hi hb;go_wp2;go_ret;exact ak.intro (by rw[Bool.eq_iff_iff,<-HI.out];simp) HB.out
def aB(k i:Nat):Int:=1000003* ((k:Int)+7)+(i:Int)
def aC(mc:Int->List Value)(k s n:Nat):List Value:=(List.range n).flatMap fun i=>mc (aB k (s+i))
theorem qN(mc:Int->List Value)(k s:Nat):aC mc k s 0=[]:=rfl
theorem gR(mc:Int->List Value)(k s n:Nat):aC mc k s (n+1)=aC mc k s n++mc (aB k (s+n)):=by simp[aC,List.range_succ,List.flatMap_append]
theorem iN{mc:Int->List Value}{z:Nat}(h:∀m,(mc m).length=z)(k s:Nat):∀n,(aC mc k s n).length=n*z
 |0=>by simp[aC]
 |n+1=>by rw[gR,cb,iN h k s n,h,Nat.add_mul];omega
theorem jD{mc:Int->List Value}{z:Nat}(h:∀m,(mc m).length=z)(k s:Nat){j q:Nat}(hq:q<z):∀{n:Nat},j<n->(aC mc k s n)[j*z+q]? =(mc (aB k (s+j)))[q]?
 |0,hj=>by omega
 |n+1,hj=>by
  rw[gR];by_cases e:j=n
  .subst e;rw[eK (by rw[iN h];omega),iN h,Nat.add_sub_cancel_left]
  .have hl:j*z+q< (aC mc k s n).length:=by rw[iN h];have:(j+1) *z<=n*z:=Nat.mul_le_mul_right _ (by omega);rw[Nat.add_mul] at this;omega
   rw[cM hl];exact jD h k s hq (by omega)
def aS(m:Int):List Value:=[.int .i64 m]
def aT(m:Int):List Value:=[.int .u8 0,.string ⟨#[]⟩,.int .i64 m,.slice none 0 0]
def aR(m:Int):List Value:=[.int .u8 0,.slice none 0 0,.int .i64 m,.int .i64 0,.string ⟨#[]⟩,.string ⟨#[]⟩,.slice none 0 0,.slice none 0 0]
theorem iP(m:Int):(aS m).length=1:=rfl
theorem iQ(m:Int):(aT m).length=4:=rfl
theorem iO(m:Int):(aR m).length=8:=rfl
theorem kF{w:World}{base:Nat}{e:TypeId}{size g n cap:Nat}{xs:List Value}(h:w.ownsRow base e size (.slice (some ⟨g,0,none⟩) n cap) n xs){m:Nat}(hm:m<=n):w.ownsRow base e size (.slice (some ⟨g,0,none⟩) m cap) m (xs.take (m*size)):=by
 obtain⟨h1,h2⟩:=h;have hle:m*size<=n*size:=Nat.mul_le_mul_right _ hm;refine⟨by rw[List.length_take];omega,?_⟩;rcases h2 with ⟨hv,_⟩|⟨g',cap',cur,hv,hg,hh,h3,h4,h5,h6⟩
 .cases hv
 .injection hv with e1 e2 e3;injection e1 with e1;injection e1 with e1;subst e1 e3;refine .inr ⟨g,cap,cur,rfl,hg,hh,by omega,h4,h5,?_⟩;rw[<-h6,List.take_take,Nat.min_eq_left hle]
theorem zT{a b:Int}(h:a=b):Ending.returned (.int .i64 a)= .returned (.int .i64 b):=by rw[h]
theorem gP(k i:Nat)(w:World)(hk:k<=1000000)(hi:i<=1000000000):Calls Tryz.prog 45 #[.int .i64 k,.int .i64 i] w (fun e w'=>e= .returned (.int .i64 (aB k i))/\w=w'):=by
 go_in
 go_wp2;go_ret;exact⟨zT rfl,rfl⟩
theorem qy(i:Nat)(w:World)(hi:i<=1000000000):Calls Tryz.prog 45 #[.int .i64 1,.int .i64 i] w (fun e w'=>e= .returned (.int .i64 (aB 1 i))/\w=w'):=gP 1 i w (by omega) hi
theorem Tryz.infoIntL:(Tryz.prog.info? 3).map (fun i=>(i.zero,i.size,i.bytes))=some (some (.int .i64 0),1,8):=by kernel_rfl
def sW(zs:List Int)(w:World)(e:Ending)(w':World):Prop:=∃g,e= .returned (.slice (some ⟨g,0,none⟩) zs.length (zs.length+12))/\
 w'.ownsRow w.heap.size 3 1 (.slice (some ⟨g,0,none⟩) (zs.length+12) (zs.length+12)) (zs.length+12) (zs.map (Value.int .i64)++aC aS 1 0 12)/\Below w.heap.size w w'
theorem mT(w:World)(u:Value)(T:TypeId):∀j v,[u][j]? =some v->(w.alloc (.cells #[u] T)).cell? ((⟨w.heap.size,0,none⟩:Addr).add j)=some v:=by
 intro j v hv;rw[fi];match j,hv with
 |0,hv=>simp only[List.getElem?_cons_zero,Option.some.injEq] at hv;subst hv;rw[World.cell?_alloc_new];rfl
theorem Bs{w:World}{ops:Array Oper}{rest:List Oper}{o:Oper}{a:Act}{Q:Exit->Act->World->Prop}(hgd:o.guard=none)(s x:Operand)(ho:o.op= .call { callee:=.builtin .append,args:=#[s,x],argTypes:=#[23,23] })(base g k cap:Nat)(old:List Value)(xs:List Int)(hs:a.eval s= .slice (some ⟨g,0,none⟩) k cap)(hown:w.ownsRow base 3 1 (.slice (some ⟨g,0,none⟩) k cap) k old)(A:Option Addr)(n c:Nat)(hx:a.eval x= .slice A n c)(hX:aA w xs A n c)(hroom:k+n<=cap)(h:∀w',w'.ownsRow base 3 1 (.slice (some ⟨g,0,none⟩) (k+n) cap) (k+n) (old++xs.map (Value.int .i64))->w.grownBy w' (some g)->wpList Tryz.prog ops Q rest (a.put o.dst (.slice (some ⟨g,0,none⟩) (k+n) cap)) w'):wpList Tryz.prog ops Q (o::rest) a w:=by
 obtain⟨i0,hi,hz0,hz1,hz2⟩:=info_parts Tryz.infoIntL;obtain⟨rfl,h2,h3,h4⟩:=hX;rcases h4 with rfl|⟨b,of,rfl,hr⟩
 .refine wpList_plain hgd fun K hK=>?_;have hrun:=oW (w:=w) base 23 o.type 3 i0 1 Tryz.underlying23 hi _ _ _ hown A c;unfold Oper.wp;simp only[List.length_nil] at hx;simp[execOp,ho,resolve,invoke,builtin,hs,hx,hrun,Result.andThen];exact hK _ _ (h w (by simpa using hown) ⟨rfl,rfl,rfl,ah _,fun _ _ _=>rfl⟩)
 .refine wpList_append_fits _ hgd s x 23 ho base 3 i0 1 Tryz.underlying23 hi hz1 g k cap old hs hown ⟨b,of,none⟩ xs.length c (xs.map (Value.int .i64)) hx (by simp) ?_ (ints_oneCell .i64 xs) hroom h;intro j u hu;rw[fi];rw[List.getElem?_map] at hu;cases hj:xs[j]? with
  |none=>rw[hj] at hu;cases hu
  |some z=>rw[hj] at hu;simp at hu;subst hu;exact hr j z hj
theorem wd(zs:List Int)(A:Option Addr)(n c:Nat)(w:World)(hx:aA w zs A n c)(hn:n<=17592186044000):Calls Tryz.prog 43 #[.slice A n c] w (sW zs w):=by
 obtain⟨hN,hx2,hx3,hx4⟩:=hx;subst hN;have HX:Hid (aA w zs A zs.length c):=⟨rfl,hx2,hx3,hx4⟩;obtain⟨i0,hi,hz0,hz1,hz2⟩:=info_parts Tryz.infoIntL;clear hx4;generalize hL:zs.length=n at*;have HN:=aa hL;clear hL
 go_in
 go_wp2_with (first
  |(at_make;refine wpList_make_own _ rfl _ _ 23 rfl w.heap.size 3 i0 (.int .i64 0) 1 Tryz.underlying23 hi hz0 hz1 .i64 .i64 _ (n+12) rfl rfl (by omega) (by rw[hz2];omega) (by unfold maxLen;omega) (ah _) ?_;intro w0 hown0 hgrow0;have HO0:=aa hown0;have HB0:=aa ((ai w.heap.size w).grown hgrow0 (ah _) (fun k hk=>by cases hk));clear hown0 hgrow0)
  |(at_builtin;refine Bs rfl _ _ rfl w.heap.size w.heap.size 0 (n+12) [] zs rfl HO0.out A n c rfl (HX.out.below HB0.out) (by omega) ?_;intro w1 hown1 hgrow1))
 have HO1:Hid (w1.ownsRow w.heap.size 3 1 (.slice (some ⟨w.heap.size,0,none⟩) (n+0) (n+12)) (n+0) (zs.map (Value.int .i64)++aC aS 1 0 0)):=by show World.ownsRow _ _ _ _ _ _ _;simpa[aC] using hown1
 have HB1:Hid (Below w.heap.size w w1):=HB0.out.grown hgrow1 HB0.out.size (fun k hk=>by injection hk with hk;omega);clear hown1 hgrow1;go_wp2_with fail;go_loopw [3,4] (fun v i wr=>∃j:Nat,j<=12/\i= .int .i64 j/\v= .slice (some ⟨w.heap.size,0,none⟩) (n+j) (n+12)/\Hid (Below w.heap.size w wr)/\Hid (wr.ownsRow w.heap.size 3 1 (.slice (some ⟨w.heap.size,0,none⟩) (n+j) (n+12)) (n+j) (zs.map (Value.int .i64)++aC aS 1 0 j))) (fun _ i _=>12 - (intOf i).toNat);case atStart=>exact⟨0,aE _,rfl,(by simp),HB1,HO1⟩
 case round=>
  obtain⟨j,hj,rfl,rfl,HB,HO⟩:=hrel;by_cases hlt:j<12
  .go_wp2_with fail;refine(qy j _ (by omega)).mono ?_;rintro e w' ⟨rfl,rfl⟩;have hrow:=mT wr (.int .i64 (aB 1 j)) 3;have HA:=aa (HO.out.alloc (.cells #[.int .i64 (aB 1 j)] 3));have HBA:=aa (HB.out.alloc HB.out.size (.cells #[.int .i64 (aB 1 j)] 3));have HRW:=aa hrow;clear hrow;have HM:Hid (aC aS 1 0 (j+1)=aC aS 1 0 j++[.int .i64 (aB 1 j)]):=(by show _=_;rw[gR,Nat.zero_add];rfl);generalize aB 1 j=m at HA HRW HBA HM ⊢;go_wp2_with (at_builtin;refine wpList_append_fits _ rfl _ _ 23 rfl w.heap.size 3 i0 1 Tryz.underlying23 hi hz1 w.heap.size (n+j) (n+12) _ rfl HA.out ⟨wr.heap.size,0,none⟩ 1 1 [.int .i64 m] rfl rfl HRW.out (by simp[Value.oneCell']) (by omega) ?_;intro w2 hown2 hgrow2);have HO2:Hid (w2.ownsRow w.heap.size 3 1 (.slice (some ⟨w.heap.size,0,none⟩) (n+(j+1)) (n+12)) (n+(j+1)) (zs.map (Value.int .i64)++aC aS 1 0 (j+1))):=by show World.ownsRow _ _ _ _ _ _ _;rw[HM.out,<-List.append_assoc];exact hown2
   have HB2:Hid (Below w.heap.size w w2):=HBA.out.grown hgrow2 HBA.out.size (fun k hk=>by injection hk with hk;omega);clear hown2 hgrow2;go_wp2;go_roundw;case rel=>exact⟨j+1,by omega,by go_num,rfl,HB2,HO2⟩
   case measure=>simp[intOf];omega
  .have hj12:j=12:=(by omega);subst hj12;go_wp2_with fail;go_ret;exact⟨w.heap.size,(by rw[HN.out];rfl),(by rw[HN.out];exact HO.out),HB.out⟩
mutual
def fq (w:World):ag->Nat->Nat->Prop
 | .node _ _ _ ks,b,o=>∃A,w.cell? ⟨b,o+3,none⟩=some (.slice A ks.length (ks.length+12))/\∃g,A=some ⟨g,0,none⟩/\(∀j u,(aC aT 1 0 12)[j]? =some u->w.cell? ⟨g,ks.length*4+j,none⟩=some u)/\eY w ks g 0
def eY (w:World):List ag->Nat->Nat->Prop
 |[],_,_=>True
 |t::ts,b,o=>fq w t b o/\eY w ts b (o+4)
end
def cC(w:World)(ks:List ag)(A:Option Addr)(n c:Nat):Prop:=n=ks.length/\c=n+12/\∃g,A=some ⟨g,0,none⟩/\(∀j u,(aC aT 1 0 12)[j]? =some u->w.cell? ⟨g,ks.length*4+j,none⟩=some u)/\eY w ks g 0
mutual
theorem fq.keep {w w':World} (hb:∀a v,w.cell? a=some v->w'.cell? a=some v):∀{t:ag} {b o:Nat},fq w t b o->fq w' t b o
 | .node k s x ks,b,o,h=>by obtain⟨A,h3,g,e,hm,hr⟩:=h;exact⟨A,hb _ _ h3,g,e,fun j u hu=>hb _ _ (hm j u hu),eY.keep hb hr⟩
theorem eY.keep {w w':World} (hb:∀a v,w.cell? a=some v->w'.cell? a=some v):∀{ts:List ag} {b o:Nat},eY w ts b o->eY w' ts b o
 |[],_,_,_=>trivial
 |t::ts,b,o,h=>⟨fq.keep hb h.1,eY.keep hb h.2⟩
end
theorem cC.keep{w w':World}(hb:∀a v,w.cell? a=some v->w'.cell? a=some v){ks:List ag}{A:Option Addr}{n c:Nat}(h:cC w ks A n c):cC w' ks A n c:=by obtain⟨h1,h2,g,e,hm,hr⟩:=h;exact⟨h1,h2,g,e,fun j u hu=>hb _ _ (hm j u hu),hr.keep hb⟩
theorem cC.below{w w':World}(hb:Below w.heap.size w w'){ks:List ag}{A:Option Addr}{n c:Nat}(h:cC w ks A n c):cC w' ks A n c:=h.keep fun _ _=>ac hb
theorem fq.of{w:World}{t:ag}{b o:Nat}{A:Option Addr}{c:Nat}(h3:w.cell? ⟨b,o+3,none⟩=some (.slice A t.kids.length c))(h:cC w t.kids A t.kids.length c):fq w t b o:=by obtain⟨k,s,x,ks⟩:=t;obtain⟨_,hc,g,e,hm,hr⟩:=h;subst hc;exact⟨A,h3,g,e,hm,hr⟩
theorem fq.kids{w:World}{t:ag}{b o:Nat}(h:fq w t b o){A:Option Addr}{n c:Nat}(h3:w.cell? ⟨b,o+3,none⟩=some (.slice A n c)):cC w t.kids A n c:=by obtain⟨k,s,x,ks⟩:=t;obtain⟨A',h3',g,e,hm,hr⟩:=h;rw[h3] at h3';injection h3' with h3';injection h3' with e1 e2 e3;subst e1 e2 e3;exact⟨rfl,rfl,g,e,hm,hr⟩
theorem eY.get{w:World}:∀{ts:List ag} {b o:Nat},eY w ts b o->∀{i:Nat} {t:ag},ts[i]? =some t->fq w t b (o+i*4)
 |t::ts,b,o,h,0,u,hu=>by simp only[List.getElem?_cons_zero,Option.some.injEq] at hu;subst hu;simpa using h.1
 |t::ts,b,o,h,i+1,u,hu=>by simp only[List.getElem?_cons_succ] at hu;have:=eY.get h.2 hu;rwa [show o+(i+1) *4=o+4+i*4 from by omega]
theorem eY.mk{w:World}:∀{ts:List ag} {b o:Nat},(∀i t,ts[i]? =some t->fq w t b (o+i*4))->eY w ts b o
 |[],_,_,_=>trivial
 |t::ts,b,o,h=>by refine⟨by simpa using h 0 t rfl,eY.mk fun i u hu=>?_⟩;have:=h (i+1) u (by simpa using hu);rwa [show o+4+i*4=o+(i+1) *4 from by omega]
def iX(B g q:Nat):Bool:=decide (B<=q) && !(q == g)
theorem oS{B g q:Nat}:iX B g q=true↔B<=q/\q≠g:=by simp[iX]
structure dZ (B g:Nat) (w:World) (ks:List ag) (xs R:List Value):Prop where
 at_:∀(i:Nat) (t:ag),ks[i]? =some t->∃A c,xs[i*4]? =some (.int .u8 t.kind)/\xs[i*4+1]? =some (.string (sb t.text))/\xs[i*4+2]? =some (.int .i64 t.num)/\xs[i*4+3]? =some (.slice A t.kids.length c)/\
  KidsAt (fS w (iX B g)) t.kids A t.kids.length c/\cC (fS w (iX B g)) t.kids A t.kids.length c/\t.kind<=255/\t.text.length<=maxLen/\cm t.num
 rows:eu w ks xs R
 own:∀u∈R,bd w B 44 4 u
 nd:(aW R).Nodup
 out:g∉aW R
 len:xs.length=ks.length*4
theorem dZ.start(B g:Nat)(w:World):dZ B g w [] [] []:=⟨fun i t h=>by simp at h,rfl,fun u h=>(by cases h),List.nodup_nil,(by intro h;cases h),rfl⟩
theorem dZ.lt{B g:Nat}{w:World}{ks:List ag}{xs R:List Value}(h:dZ B g w ks xs R){q:Nat}(hq:q∈aW R):B<=q/\q<w.heap.size/\q≠g:=by obtain⟨u,hu,e⟩:=eV hq;have:=(h.own u hu).lt e;exact⟨this.1,this.2,fun e2=>h.out (e2 ▸ hq)⟩
theorem dZ.keep{B g:Nat}{w w':World}{ks:List ag}{xs R:List Value}(h:dZ B g w ks xs R)(hk:∀q,q≠g->q<w.heap.size->w'.heap[q]? =w.heap[q]?):dZ B g w' ks xs R:=by
 have hc:∀a v,(fS w (iX B g)).cell? a=some v->(fS w' (iX B g)).cell? a=some v:=fun a v hc=>by obtain⟨h1,h2⟩:=fD.1 hc;exact fD.2 ⟨h1,by rw[World.cell?_of_block (hk _ (oS.1 h1).2 (bK h2))];exact h2⟩
 refine⟨fun i t ht=>?_,h.rows.keep fun q hq=>hk q (h.lt hq).2.2 (h.lt hq).2.1,fun u hu=>(h.own u hu).keep (ah _) fun q e=>hk q (h.lt (iR hu e)).2.2 (h.lt (iR hu e)).2.1,h.nd,h.out,h.len⟩;obtain⟨A,c,t0,t1,t2,t3,t4,t5,t6⟩:=h.at_ i t ht;exact⟨A,c,t0,t1,t2,t3,t4.keep hc,t5.keep hc,t6⟩
theorem dZ.push{B g M:Nat}{w:World}{ks:List ag}{xs R:List Value}{t:ag}{A:Option Addr}{c:Nat}(h:dZ B g w ks xs R)(hF:bJ w M t.kids A t.kids.length c)(hL:cC (cX w M) t.kids A t.kids.length c)(hg:g<M)(hBM:B<=M)(hM:∀q∈aW R,q<M)(b1:t.kind<=255)(b2:t.text.length<=maxLen)(b3:cm t.num):∃R',dZ B g w (ks++[t]) (xs++eU t A c) R'/\∀q∈aW R',q<w.heap.size:=by
 obtain⟨f0,R3,f1⟩:=hF;have hc:∀a v,(cX w M).cell? a=some v->(fS w (iX B g)).cell? a=some v:=fun a v hc=>by obtain⟨h1,h2⟩:=ej.1 hc;exact fD.2 ⟨oS.2 ⟨by omega,by omega⟩,h2⟩
 refine⟨R++R3,⟨fun i u hu=>?_,eu.snoc h.rows h.len (by simp[eU]) f1.rows,fun u hu=>?_,iq h.nd f1.nd hM fun q hq=>(f1.lt hq).1,fun hq=>?_,by simp[h.len,eU];omega⟩,fun q hq=>?_⟩
 .have hl:=h.len;by_cases hi:i<ks.length
  .rw[cM hi] at hu;obtain⟨A',c',t0,t1,t2,t3,t4⟩:=h.at_ i u hu;exact⟨A',c',by rw[cM (by omega)];exact t0,by rw[cM (by omega)];exact t1,by rw[cM (by omega)];exact t2,by rw[cM (by omega)];exact t3,t4⟩
  .rw[eK (by omega)] at hu;have hz:i - ks.length=0:=(by have:=(bs.1 hu).1;simp at this;omega);rw[hz] at hu;simp at hu;subst hu;have hi4:i*4=xs.length:=(by omega);refine⟨A,c,?_,?_,?_,?_,f0.keep hc,hL.keep hc,b1,b2,b3⟩ <;>rw[hi4,eK (by omega)] <;>simp[eU]
 .rcases List.mem_append.1 hu with hu|hu
  .exact h.own u hu
  .exact(f1.own u hu).keep hBM fun _ _=>rfl
 .rw[gg] at hq;rcases List.mem_append.1 hq with hq|hq
  .exact h.out hq
  .have:=(f1.lt hq).1;omega
 .rw[gg] at hq;rcases List.mem_append.1 hq with hq|hq
  .exact(h.lt hq).2.1
  .exact(f1.lt hq).2
theorem dZ.done{B g:Nat}{w:World}{ks:List ag}{xs R:List Value}(h:dZ B g w ks xs R)(ho:w.ownsRow B 44 4 (.slice (some ⟨g,0,none⟩) (ks.length+12) (ks.length+12)) (ks.length+12) (xs++aC aT 1 0 12)):bJ w B ks (some ⟨g,0,none⟩) ks.length (ks.length+12)/\cC (cX w B) ks (some ⟨g,0,none⟩) ks.length (ks.length+12):=by
 obtain⟨_,_,e,k1,k2⟩:=cw ho;injection e with e1 e2 e3;subst e1 e3;have hlt:=ho.lt g rfl;have hl:=h.len;have hc0:∀p u,(xs++aC aT 1 0 12)[p]? =some u->(cX w B).cell? ⟨g,p,none⟩=some u:=fun p u hu=>ej.2 ⟨hlt.1,bH ho p u hu⟩;have hc:∀p u,xs[p]? =some u->(cX w B).cell? ⟨g,p,none⟩=some u:=fun p u hu=>hc0 p u (by rw[cM (bs.1 hu).1];exact hu);have hon:∀a v,(fS w (iX B g)).cell? a=some v->(cX w B).cell? a=some v:=fun a v hc=>by obtain⟨h1,h2⟩:=fD.1 hc;exact ej.2 ⟨(oS.1 h1).1,h2⟩
 refine⟨⟨⟨rfl,by omega,k2,.inr ⟨g,0,rfl,ch.mk fun i t ht=>?_⟩⟩,_,cZ.mk' (eu.mem h.rows fun p u hu=>by rw[Nat.zero_add];exact(ej.1 (hc p u hu)).2) ⟨_,_,kF ho (m:=ks.length) (by omega)⟩ h.own h.nd h.out⟩,rfl,rfl,g,rfl,fun j u hu=>?_,eY.mk fun i t ht=>?_⟩
 .obtain⟨A2,c2,t0,t1,t2,t3,t4,t5,t6,t7,t8⟩:=h.at_ i t ht;rw[Nat.zero_add];exact cJ.of (hc _ _ t0) (hc _ _ t1) (hc _ _ t2) (hc _ _ t3) (t4.keep hon) t6 t7 t8
 .refine hc0 _ _ ?_;rw[eK (by omega),hl,Nat.add_sub_cancel_left];exact hu
 .obtain⟨A2,c2,t0,t1,t2,t3,t4,t5,t6,t7,t8⟩:=h.at_ i t ht;rw[Nat.zero_add];exact fq.of (hc _ _ t3) (t5.keep hon)
theorem bt{X W:World}(h:Below X.heap.size X W)(o:Obj):Below X.heap.size X (W.alloc o):=h.alloc h.size o
abbrev Z4:Array Value:=#[.int .u8 0,.string ⟨#[]⟩,.int .i64 0,.slice none 0 0]
theorem ip(k i:Nat)(w:World)(hk:k<=1000000)(hi:i<=1000000000):Calls Tryz.prog 113 #[.int .i64 k,.int .i64 i] w (fun e w'=>e= .returned (.agg #[.int .u8 0,.string ⟨#[]⟩,.int .i64 (aB k i),.slice none 0 0])/\Below w.heap.size w w'):=by
 go_in
 go_wp2_with fail;refine(gP k i _ hk hi).mono ?_;rintro e w' ⟨rfl,rfl⟩;go_wp2_with fail;exact bodyPost_ret (v:=.agg #[.int .u8 0,.string ⟨#[]⟩,.int .i64 (aB k i),.slice none 0 0]) (by simp[results,Tryz.results113,go_sem]) rfl ⟨rfl,bt (ai _ _) _⟩
theorem io(k i:Nat)(w:World)(hk:k<=1000000)(hi:i<=1000000000):Calls Tryz.prog 21 #[.int .i64 k,.int .i64 i] w (fun e w'=>e= .returned (.agg #[.int .u8 0,.slice none 0 0,.int .i64 (aB k i),.int .i64 0,.string ⟨#[]⟩,.string ⟨#[]⟩,.slice none 0 0,.slice none 0 0])/\Below w.heap.size w w'):=by
 go_in
 go_wp2_with fail;refine(gP k i _ hk hi).mono ?_;rintro e w' ⟨rfl,rfl⟩;go_wp2_with fail;exact bodyPost_ret (v:=.agg #[.int .u8 0,.slice none 0 0,.int .i64 (aB k i),.int .i64 0,.string ⟨#[]⟩,.string ⟨#[]⟩,.slice none 0 0,.slice none 0 0]) (by simp[results,Tryz.results21,go_sem]) rfl ⟨rfl,bt (ai _ _) _⟩
def gJ(w:World)(zs:List Int)(g:Nat):Prop:=(∀(j:Nat) (z:Int),zs[j]? =some z->w.cell? ⟨g,j,none⟩=some (.int .i64 z))/\∀j,j<12->w.cell? ⟨g,zs.length+j,none⟩=some (.int .i64 (aB 1 j))
theorem gJ.of{w:World}{base:Nat}{zs:List Int}{g n c:Nat}(h:w.ownsRow base 3 1 (.slice (some ⟨g,0,none⟩) n c) n (zs.map (Value.int .i64)++aC aS 1 0 12)):gJ w zs g:=by
 refine⟨fun j z hz=>bH h j _ ?_,fun j hj=>bH h _ _ ?_⟩
 .rw[cM (by simpa using(bs.1 hz).1),List.getElem?_map,hz];rfl
 .rw[eK (by simp)];have:=jD (mc:=aS) (z:=1) iP 1 0 (j:=j) (q:=0) (by omega) hj;rw[Nat.mul_one,Nat.add_zero] at this;simp only[ny,Nat.add_sub_cancel_left];rw[this,Nat.zero_add];rfl
theorem gJ.below{w w':World}(hb:Below w.heap.size w w'){zs:List Int}{g:Nat}(h:gJ w zs g):gJ w' zs g:=⟨fun j z hz=>ac hb (h.1 j z hz),fun j hj=>ac hb (h.2 j hj)⟩
theorem we{x:Int}{r:Nat}{w:World}(h:x=r)(hr:r<=1000000000):Calls Tryz.prog 45 #[.int .i64 1,.int .i64 x] w (fun e w'=>e= .returned (.int .i64 (aB 1 r))/\w'=w):=by subst h;exact(qy r w hr).mono fun _ _ h=>⟨h.1,h.2.symm⟩
theorem vZ(zs:List Int)(g n:Nat)(A:Option Addr)(c:Nat)(w:World)(hL:gJ w zs g)(hx:aA w zs A n c)(hn:n<=17592186044000):Calls Tryz.prog 88 #[.slice (some ⟨g,0,none⟩) n (n+12),.slice A n c] w (iy (.bool true) w):=by
 have HX:=aa hx;have HL:=aa hL;have HN:Hid (n=zs.length):=hx.1;clear hx hL
 go_in
 go_wp2_with fail;go_loopw [6] (fun i wr=>∃j q:Nat,j<=n+12/\i= .int .i64 j/\wr=w.drewN q) (fun i _=>n+12 - (intOf i).toNat);case atStart=>exact⟨0,0,aE _,rfl,rfl⟩
 case round=>
  obtain⟨j,q,hj,rfl,rfl⟩:=hrel;by_cases hlt:j<n+12
  .by_cases hln:j<n
   .obtain⟨b,o,z,rfl,hz,cz⟩:=HX.out.get hln;have cg:=HL.out.1 j z hz;clear hz;have d1:decide (j<n)=true:=(by simpa using hln);have d2:decide (n<=j)=false:=(by simp;omega);have d3:decide ((n:Int)<=(j:Int))=false:=(by simp;omega);have d4:decide ((j:Int)< (n:Int))=true:=(by simp;omega);go_wp2_with fail
    go_quiet (fail)
    all_goals
     go_wp2;go_roundw;case rel=>exact⟨j+1,_,by omega,by go_num,rfl⟩
     case measure=>simp[intOf];omega
   .obtain⟨r,hr⟩:∃r,j=n+r:=⟨j - n,by omega⟩;have cg:=HL.out.2 r (by omega);rw[<-HN.out,<-hr] at cg;have d1:decide (j<n)=false:=(by simp;omega);have d2:decide (n<=j)=true:=(by simp;omega);have hr12:r<=1000000000:=(by omega);have HS:Hid ((j:Int) - (n:Int)=(r:Int)):=(by show _=_;omega);clear hr;go_wp2_with fail
    go_quiet ((go_at_call 45;exact(we HS.out hr12).mono fun _ _ h=>⟨h.1,_,h.2⟩))
    all_goals
     go_wp2;go_roundw;case rel=>exact⟨j+1,_,by omega,by go_num,rfl⟩
     case measure=>simp[intOf];omega
  .have hj12:j=n+12:=(by omega);subst hj12;go_wp2_with fail;go_ret;exact⟨rfl,q,rfl⟩
def lenOf:Value->Nat
 | .slice _ n _=>n
 |_=>0
def fL:Value->Nat
 | .slice _ _ c=>c
 |_=>0
def dK(vs:List Value):Prop:=∀(k k':Nat) (v v':Value),vs[k]? =some v->vs[k']? =some v'->k≠k'->(∀q,v.ownBlock=some q->v'.ownBlock≠some q)∨(v=v'/\lenOf v=0/\fL v<64)
theorem xy{w:World}{B:Nat}{T:TypeId}{s:Nat}{v:Value}{n:Nat}{xs:List Value}(h:w.ownsRow B T s v n xs):lenOf v=n:=by
 rcases h.2 with ⟨rfl,h0⟩|⟨g,cap,cur,rfl,_⟩
 .exact h0.symm
 .rfl
theorem eB{w w':World}{B:Nat}{T:TypeId}{s:Nat}{v:Value}{n:Nat}{xs:List Value}(h:w.ownsRow B T s v n xs)(hk:∀q,v.ownBlock=some q->w'.heap[q]? =w.heap[q]?):w'.ownsRow B T s v n xs:=by refine⟨h.1,h.2.imp id ?_⟩;rintro⟨g,cap,cur,hv,hg,hh,r⟩;exact⟨g,cap,cur,hv,hg,(hk g (by rw[hv];rfl)).trans hh,r⟩
def lI:List Value->Nat->List Value->List Value
 |xs,_,[]=>xs
 |xs,p,c::cs=>lI (xs.set p c) (p+1) cs
def gu:World->Nat->Nat->List Value->World
 |w,_,_,[]=>w
 |w,g,p,c::cs=>gu (w.setCell ⟨g,p,none⟩ c) g (p+1) cs
theorem oX:∀(cs xs:List Value) (p:Nat),p+cs.length<=xs.length->(lI xs p cs).take (p+cs.length)=xs.take p++cs
 |[],xs,p,_=>by simp[lI]
 |c::cs,xs,p,h=>by simp only[List.length_cons] at h;have:=oX cs (xs.set p c) (p+1) (by simp;omega);simp only[lI,List.length_cons];rw[show p+(cs.length+1)=p+1+cs.length from by omega,this,List.take_succ_eq_append_getElem (by simp;omega)];simp[List.take_set_of_le]
theorem oP{B:Nat}{T:TypeId}{s g n cap:Nat}:∀(cs:List Value) {w:World} {xs:List Value} (p:Nat),w.ownsRow B T s (.slice (some ⟨g,0,none⟩) n cap) n xs->(gu w g p cs).ownsRow B T s (.slice (some ⟨g,0,none⟩) n cap) n (lI xs p cs)
 |[],_,_,_,h=>h
 |c::cs,_,_,p,h=>oP cs (p+1) (oF h p c)
theorem oO{g q:Nat}(hq:q≠g):∀(cs:List Value) (w:World) (p:Nat),(gu w g p cs).heap[q]? =w.heap[q]?
 |[],_,_=>rfl
 |c::cs,w,p=>by rw[gu,oO hq cs,aY _ _ _ _ (by exact hq)]
theorem rC{g:Nat}:∀(cs:List Value) (w:World) (p:Nat),(gu w g p cs).heap.size=w.heap.size
 |[],_,_=>rfl
 |c::cs,w,p=>by rw[gu,rC cs];simp
def cY(w w':World):Prop:=w'.os=w.os/\w'.tape=w.tape/\w'.output=w.output
theorem cY.refl(w:World):cY w w:=⟨rfl,rfl,rfl⟩
theorem cY.trans{a b c:World}(h:cY a b)(k:cY b c):cY a c:=⟨k.1.trans h.1,k.2.1.trans h.2.1,k.2.2.trans h.2.2⟩
theorem cY.of_below{B:Nat}{w w':World}(h:Below B w w'):cY w w':=⟨h.os,h.tape,h.output⟩
theorem cY.of_grown{w w':World}{r:Option Nat}(h:w.grownBy w' r):cY w w':=⟨h.os,h.tape,h.output⟩
theorem rB{g:Nat}:∀(cs:List Value) (w:World) (p:Nat),cY w (gu w g p cs)
 |[],_,_=>cY.refl _
 |c::cs,w,p=>(show cY w (w.setCell ⟨g,p,none⟩ c) from⟨rfl,rfl,rfl⟩).trans (rB cs _ (p+1))
section
variable (T:TypeId) (s:Nat) (mc:Int->List Value)
structure bC (w0 w:World) (vs:List Value) (k i:Nat):Prop where
 rows:∀(j:Nat) (v:Value),vs[j]? =some v->∃xs,w.ownsRow 0 T s v (lenOf v) xs/\(j<k->xs=aC mc j 0 (lenOf v))/\(j=k->xs.take (i*s)=aC mc j 0 i)
 frame:∀q,q<w0.heap.size->q∉aW vs->w.heap[q]? =w0.heap[q]?
 size:w0.heap.size<=w.heap.size
 calm:cY w0 w
variable {T s mc}
theorem bC.start{w:World}{vs:List Value}(h:∀v∈vs,bd w 0 T s v):bC T s mc w w vs 0 0:=by refine⟨fun j v hv=>?_,fun _ _ _=>rfl,ah _,cY.refl _⟩;obtain⟨n,xs,ho⟩:=h v (List.mem_of_getElem? hv);have:=xy ho;subst this;exact⟨xs,ho,fun h=>by omega,fun _=>by simp[aC]⟩
theorem bC.below{w0 w w':World}{vs:List Value}{k i:Nat}(h:bC T s mc w0 w vs k i)(hb:Below w.heap.size w w'):bC T s mc w0 w' vs k i:=by refine⟨fun j v hv=>?_,fun q hq hn=>(hb.block q (by have:=h.size;omega)).trans (h.frame q hq hn),aJ h.size hb.size,h.calm.trans (cY.of_below hb)⟩;obtain⟨xs,ho,h1,h2⟩:=h.rows j v hv;exact⟨xs,bM ho hb (ah _),h1,h2⟩
theorem bC.step{w0 w:World}{vs:List Value}{k i g n c:Nat}(h:bC T s mc w0 w vs k i)(hd:dK vs)(hmc:∀m,(mc m).length=s)(hv:vs[k]? =some (.slice (some ⟨g,0,none⟩) n c))(hi:i<n):bC T s mc w0 (gu w g (i*s) (mc (aB k i))) vs k (i+1):=by
 refine⟨fun j v hj=>?_,fun q hq hn=>?_,by rw[rC];exact h.size,h.calm.trans (rB _ _ _)⟩
 .obtain⟨xs,ho,h1,h2⟩:=h.rows j v hj;by_cases hjk:j=k
  .subst hjk;rw[hv] at hj;injection hj with hj;subst hj;refine⟨_,oP _ _ ho,fun h=>by omega,fun _=>?_⟩;have hl:xs.length=n*s:=ho.1;have hle:i*s+s<=n*s:=by have:=Nat.mul_le_mul_right s (show i+1<=n by omega);rw[Nat.add_mul] at this;omega
   have:=oX (mc (aB j i)) xs (i*s) (by rw[hmc];omega);rw[hmc] at this;rw[Nat.add_mul,Nat.one_mul,this,h2 rfl,gR,Nat.zero_add]
  .refine⟨xs,eB ho fun q e=>oO (fun e2=>?_) _ _ _,h1,fun e=>absurd e hjk⟩;subst e2;rcases hd k j _ _ hv hj (fun e=>hjk e.symm) with hx|⟨_,hx,_⟩
   .exact hx q rfl e
   .simp[lenOf] at hx;omega
 .rw[oO (fun e=>hn ?_)]
  .exact h.frame q hq hn
  .subst e;exact iR (List.mem_of_getElem? hv) rfl
theorem bC.next{w0 w:World}{vs:List Value}{k:Nat}{v:Value}(h:bC T s mc w0 w vs k (lenOf v))(hv:vs[k]? =some v):bC T s mc w0 w vs (k+1) 0:=by
 refine⟨fun j u hj=>?_,h.frame,h.size,h.calm⟩;obtain⟨xs,ho,h1,h2⟩:=h.rows j u hj;refine⟨xs,ho,fun hlt=>?_,fun _=>by simp[aC]⟩;by_cases hjk:j=k
 .subst hjk;rw[hv] at hj;injection hj with hj;subst hj;have h3:=h2 rfl;rwa [List.take_of_length_le (by rw[ho.1];exact ah _)] at h3
 .exact h1 (by omega)
variable (T s mc)
structure aV (H:Nat) (w0 w:World) (vs us:List Value) (E:Nat->Nat->List Value):Prop where
 rows:∀(j:Nat) (v:Value),vs[j]? =some v->w.ownsRow 0 T s v (lenOf v) (aC mc j 0 (lenOf v))
 ext:∀(j:Nat) (v u:Value),vs[j]? =some v->us[j]? =some u->w.ownsRow 0 T s u (lenOf v+64) (E j (lenOf v))
 sep:∀(j:Nat) (u:Value) (q:Nat),us[j]? =some u->u.ownBlock=some q->(∀(j':Nat) (v':Value),vs[j']? =some v'->j'≠j->v'.ownBlock≠some q)/\∀(j':Nat) (u':Value),us[j']? =some u'->j'≠j->u'.ownBlock≠some q
 frame:∀q,q<H->q∉aW vs->w.heap[q]? =w0.heap[q]?
 size:H<=w.heap.size
 calm:cY w0 w
structure dJ (H:Nat) (w:World) (vs us:List Value) (k:Nat) (v u:Value) (len:Nat) (xs:List Value):Prop where
 own:w.ownsRow 0 T s u len xs
 pre:xs.take (lenOf v*s)=aC mc k 0 (lenOf v)
 le:lenOf v<=len
 blk:∀q,u.ownBlock=some q->(v.ownBlock=some q/\fL u=fL v)∨(H<=q/\(∀v'∈vs,v'.ownBlock≠some q)/\∀u'∈us,u'.ownBlock≠some q)
variable {T s mc}
theorem bC.grown{w0 w:World}{vs:List Value}{i:Nat}(h:bC T s mc w0 w vs vs.length i)(E:Nat->Nat->List Value):aV T s mc w0.heap.size w0 w vs [] E:=by refine⟨fun j v hv=>?_,fun j v u _ hu=>by simp at hu,fun j u q hu=>by simp at hu,h.frame,h.size,h.calm⟩;obtain⟨xs,ho,h1,_⟩:=h.rows j v hv;rw[<-h1 (bs.1 hv).1];exact ho
theorem aV.below{H:Nat}{w0 w w':World}{vs us:List Value}{E:Nat->Nat->List Value}(h:aV T s mc H w0 w vs us E)(hb:Below w.heap.size w w'):aV T s mc H w0 w' vs us E:=
 ⟨fun j v hv=>bM (h.rows j v hv) hb (ah _),fun j v u hv hu=>bM (h.ext j v u hv hu) hb (ah _),h.sep,fun q hq hn=>(hb.block q (by have:=h.size;omega)).trans (h.frame q hq hn),aJ h.size hb.size,h.calm.trans (cY.of_below hb)⟩
theorem dJ.below{H:Nat}{w w':World}{vs us:List Value}{k:Nat}{v u:Value}{len:Nat}{xs:List Value}(h:dJ T s mc H w vs us k v u len xs)(hb:Below w.heap.size w w'):dJ T s mc H w' vs us k v u len xs:=⟨bM h.own hb (ah _),h.pre,h.le,h.blk⟩
theorem aV.cur{H:Nat}{w0 w:World}{vs us:List Value}{E:Nat->Nat->List Value}{k:Nat}{v:Value}(h:aV T s mc H w0 w vs us E)(hv:vs[k]? =some v):dJ T s mc H w vs us k v v (lenOf v) (aC mc k 0 (lenOf v)):=by have ho:=h.rows k v hv;exact⟨ho,by rw[List.take_of_length_le (by rw[ho.1];exact ah _)],ah _,fun q e=>.inl ⟨e,rfl⟩⟩
theorem gA{w:World}{B:Nat}{v:Value}{n:Nat}{xs:List Value}(h:w.ownsRow B T s v n xs){q:Nat}(hq:v.ownBlock=some q):q<w.heap.size:=(h.lt q hq).2
theorem dJ.self{H:Nat}{w0 w w':World}{vs us:List Value}{E:Nat->Nat->List Value}{k:Nat}{v:Value}{len m g cap:Nat}{xs ys:List Value}(h:dJ T s mc H w vs us k v (.slice (some ⟨g,0,none⟩) len cap) len xs)(hG:aV T s mc H w0 w vs us E)(hv:vs[k]? =some v)(ho:w'.ownsRow 0 T s (.slice (some ⟨g,0,none⟩) (len+m) cap) (len+m) ys)(hpre:ys.take (lenOf v*s)=aC mc k 0 (lenOf v))(hvg:v.ownBlock=some g):w'.ownsRow 0 T s v (lenOf v) (aC mc k 0 (lenOf v)):=by
 have hle:=h.le;rcases h.blk g rfl with ⟨_,hc⟩|⟨_,hx,_⟩
 .have h0:=hG.rows k v hv;rcases h0.2 with ⟨e,_⟩|⟨g2,cap2,cur2,e2,_⟩
  .rw[e] at hvg;cases hvg
  .rw[e2] at hvg hc;have hg2:g2=g:=(by injection hvg);have hc2:cap=cap2:=hc;rw[hg2,<-hc2] at e2;have:=kF ho (m:=lenOf v) (aJ hle (Nat.le_add_right _ _));rw[hpre] at this;rw[<-e2] at this;exact this
 .exact absurd hvg (hx v (List.mem_of_getElem? hv))
theorem dJ.pre'{H:Nat}{w:World}{vs us:List Value}{k:Nat}{v u:Value}{len:Nat}{xs news:List Value}(h:dJ T s mc H w vs us k v u len xs):(xs++news).take (lenOf v*s)=aC mc k 0 (lenOf v):=by rw[List.take_append_of_le_length (by rw[h.own.1];exact Nat.mul_le_mul_right _ h.le)];exact h.pre
theorem dJ.stay{H:Nat}{w0 w w':World}{vs us:List Value}{E:Nat->Nat->List Value}{k:Nat}{v:Value}{len m g cap:Nat}{xs ys:List Value}(h:dJ T s mc H w vs us k v (.slice (some ⟨g,0,none⟩) len cap) len xs)(hG:aV T s mc H w0 w vs us E)(hv:vs[k]? =some v)(huk:us.length=k)(hd:dK vs)(ho:w'.ownsRow 0 T s (.slice (some ⟨g,0,none⟩) (len+m) cap) (len+m) ys)(hpre:ys.take (lenOf v*s)=aC mc k 0 (lenOf v))(hgr:w.grownBy w' (some g)):aV T s mc H w0 w' vs us E:=by
 have hblk:=h.blk g rfl;refine⟨fun j x hx=>?_,fun j x y hx hy=>?_,hG.sep,fun q hq hn=>?_,aJ hG.size hgr.size,hG.calm.trans (cY.of_grown hgr)⟩
 .by_cases hxg:x.ownBlock=some g
  .by_cases hjk:j=k
   .subst hjk;rw[hv] at hx;injection hx with hx;subst hx;exact dJ.self h hG hv ho hpre hxg
   .rcases hd j k x v hx hv hjk with hn|⟨e1,hz,_⟩
    .rcases hblk with ⟨e,_⟩|⟨_,hn2,_⟩
     .exact absurd e (hn g hxg)
     .exact absurd hxg (hn2 x (List.mem_of_getElem? hx))
    .have hvg:v.ownBlock=some g:=(by rw[<-e1];exact hxg);have h2:=dJ.self h hG hv ho hpre hvg;rw[<-e1,hz,qN] at h2;rw[hz,qN];exact h2
  .exact eB (hG.rows j x hx) fun q e=>hgr.block q (gA (hG.rows j x hx) e) fun e2=>hxg (by rw[e,e2])
 .have hlt:j<us.length:=(bs.1 hy).1;refine eB (hG.ext j x y hx hy) fun q e=>hgr.block q (gA (hG.ext j x y hx hy) e) fun e2=>?_;have e2:q=g:=(by injection e2);rcases hblk with ⟨e3,_⟩|⟨_,_,hn2⟩
  .exact(hG.sep j y q hy e).1 k v hv (fun e5=>absurd hlt (by rw[huk,e5];exact Nat.lt_irrefl _)) (by rw[e2];exact e3)
  .exact hn2 y (List.mem_of_getElem? hy) (by rw[<-e2];exact e)
 .have hs:=hG.size;rw[hgr.block q (fJ hq hs) fun e2=>?_]
  .exact hG.frame q hq hn
  .have e2:q=g:=(by injection e2);rcases hblk with ⟨e3,_⟩|⟨hn2,_⟩
   .exact hn (iR (List.mem_of_getElem? hv) (by rw[e2];exact e3))
   .exact absurd hq (Nat.not_lt.2 (by rw[e2];exact hn2))
theorem aV.kept{H:Nat}{w0 w w':World}{vs us:List Value}{E:Nat->Nat->List Value}(hG:aV T s mc H w0 w vs us E)(hgr:w.grownBy w' none):aV T s mc H w0 w' vs us E:=by have hk:∀q,q<w.heap.size->w'.heap[q]? =w.heap[q]? :=fun q hq=>hgr.block q hq (by simp);have hs:=hG.size;exact⟨fun j x hx=>eB (hG.rows j x hx) fun q e=>hk q (gA (hG.rows j x hx) e),fun j x y hx hy=>eB (hG.ext j x y hx hy) fun q e=>hk q (gA (hG.ext j x y hx hy) e),hG.sep,fun q hq hn=>(hk q (fJ hq hs)).trans (hG.frame q hq hn),aJ hG.size hgr.size,hG.calm.trans (cY.of_grown hgr)⟩
theorem aV.new{H:Nat}{w0 w:World}{vs us:List Value}{E:Nat->Nat->List Value}(hG:aV T s mc H w0 w vs us E)(hl:us.length<=vs.length):H<=w.heap.size/\(∀v'∈vs,v'.ownBlock≠some w.heap.size)/\∀u'∈us,u'.ownBlock≠some w.heap.size:=by
 refine⟨hG.size,fun x hx e=>?_,fun y hy e=>?_⟩
 .obtain⟨j,hj,e2⟩:=List.mem_iff_getElem.1 hx;have:=gA (hG.rows j x (by rw[br hj,e2])) e;omega
 .obtain⟨j,hj,e2⟩:=List.mem_iff_getElem.1 hy;have:=gA (hG.ext j (vs[j]'(by omega)) y (br (by omega)) (by rw[br hj,e2])) e;omega
theorem dJ.step{H:Nat}{w0 w w':World}{vs us:List Value}{E:Nat->Nat->List Value}{k:Nat}{v u u':Value}{len m:Nat}{xs news:List Value}(h:dJ T s mc H w vs us k v u len xs)(hG:aV T s mc H w0 w vs us E)(hv:vs[k]? =some v)(huk:us.length=k)(hd:dK vs)(ho:w'.ownsRow 0 T s u' (len+m) (xs++news))(hw:jY u u' len m w w'):dJ T s mc H w' vs us k v u' (len+m) (xs++news)/\aV T s mc H w0 w' vs us E:=by
 have hpre:=h.pre' (news:=news);have hle:lenOf v<=len+m:=aJ h.le (Nat.le_add_right _ _);rcases hw with ⟨g,cap,e1,hroom,e2,hgr⟩|⟨cap,e1,hgt,hgr,_⟩
 .rw[e1] at h;rw[e2] at ho;refine⟨⟨by rw[e2];exact ho,hpre,hle,fun q e=>?_⟩,dJ.stay h hG hv huk hd ho hpre hgr⟩;rw[e2] at e ⊢;have hq:g=q:=(by injection e);have hb:=h.blk g rfl;rw[hq] at hb;exact hb
 .have hkl:k<vs.length:=(bs.1 hv).1;have hnew:=hG.new (by omega);refine⟨⟨ho,hpre,hle,fun q e=>?_⟩,hG.kept hgr⟩;rw[e1] at e;have hq:w.heap.size=q:=(by injection e);rw[hq] at hnew;exact .inr hnew
theorem dJ.finish{H:Nat}{w0 w:World}{vs us:List Value}{E:Nat->Nat->List Value}{k:Nat}{v u:Value}{xs:List Value}(h:dJ T s mc H w vs us k v u (lenOf v+64) xs)(hG:aV T s mc H w0 w vs us E)(hv:vs[k]? =some v)(huk:us.length=k)(hd:dK vs)(hE:xs=E k (lenOf v))(hcap:lenOf v+64<=fL u):aV T s mc H w0 w vs (us++[u]) E:=by
 have hkl:k<vs.length:=(bs.1 hv).1;have hget:∀(j:Nat) (y:Value),(us++[u])[j]? =some y->(j<k/\us[j]? =some y)∨(j=k/\y=u):=by
  intro j y hy;by_cases hj:j<k
  .rw[cM (by omega)] at hy;exact .inl ⟨hj,hy⟩
  .rw[eK (by omega)] at hy;have:j - us.length=0:=by have:=(bs.1 hy).1;simp at this;omega
   rw[this] at hy;simp at hy;exact .inr ⟨by omega,hy.symm⟩
 have hnew:∀q,u.ownBlock=some q->(∀(j':Nat) (v':Value),vs[j']? =some v'->j'≠k->v'.ownBlock≠some q)/\∀(j':Nat) (u':Value),us[j']? =some u'->u'.ownBlock≠some q:=by
  intro q e;rcases h.blk q e with ⟨e2,hc⟩|⟨_,h1,h2⟩
  .refine⟨fun j' v' hv' hne e3=>?_,fun j' u' hu' e3=>?_⟩
   .rcases hd k j' v v' hv hv' (fun e=>hne e.symm) with hx|⟨_,_,hx⟩
    .exact hx q e2 e3
    .omega
   .have hlt:j'<us.length:=(bs.1 hu').1;exact(hG.sep j' u' q hu' e3).1 k v hv (by omega) e2
  .exact⟨fun j' v' hv' _=>h1 v' (List.mem_of_getElem? hv'),fun j' u' hu'=>h2 u' (List.mem_of_getElem? hu')⟩
 refine⟨hG.rows,fun j x y hx hy=>?_,fun j y q hy e=>?_,hG.frame,hG.size,hG.calm⟩
 .rcases hget j y hy with ⟨_,hy⟩|⟨rfl,rfl⟩
  .exact hG.ext j x y hx hy
  .rw[hv] at hx;injection hx with hx;subst hx;rw[<-hE];exact h.own
 .rcases hget j y hy with ⟨hj,hy⟩|⟨rfl,rfl⟩
  .refine⟨(hG.sep j y q hy e).1,fun j' u' hu' hne=>?_⟩;rcases hget j' u' hu' with ⟨_,hu'⟩|⟨_,e4⟩
   .exact(hG.sep j y q hy e).2 j' u' hu' hne
   .rw[e4];exact fun e2=>(hnew q e2).2 j y hy e
  .refine⟨(hnew q e).1,fun j' u' hu' hne=>?_⟩;rcases hget j' u' hu' with ⟨_,hu'⟩|⟨e3,_⟩
   .exact(hnew q e).2 j' u' hu'
   .exact absurd e3 hne
end
theorem ls{w w':World}{B B':Nat}{ks:List ag}{A:Option Addr}{n c:Nat}(h:cC (cX w B) ks A n c)(hB:B'<=B)(hk:∀q,B<=q->q<w.heap.size->w'.heap[q]? =w.heap[q]?):cC (cX w' B') ks A n c:=
 h.keep fun a v hc=>by obtain⟨h1,h2⟩:=ej.1 hc;exact ej.2 ⟨by omega,by rw[World.cell?_of_block (hk _ h1 (bK h2))];exact h2⟩
def px(ks:List ag)(w:World)(e:Ending)(w':World):Prop:=∃g,e= .returned (.slice (some ⟨g,0,none⟩) ks.length (ks.length+12))/\bJ w' w.heap.size ks (some ⟨g,0,none⟩) ks.length (ks.length+12)/\cC (cX w' w.heap.size) ks (some ⟨g,0,none⟩) ks.length (ks.length+12)/\Below w.heap.size w w'
def sX(ks:List ag)(k:Nat)(s:ByteArray)(x:Int)(w:World)(e:Ending)(w':World):Prop:=∃g,e= .returned (.agg #[.int .u8 k,.string s,.int .i64 x,.slice (some ⟨g,0,none⟩) ks.length (ks.length+12)])/\bJ w' w.heap.size ks (some ⟨g,0,none⟩) ks.length (ks.length+12)/\cC (cX w' w.heap.size) ks (some ⟨g,0,none⟩) ks.length (ks.length+12)/\Below w.heap.size w w'
def lR(m:Nat):Prop:=∀(ks:List ag) (A:Option Addr) (n c:Nat) (w:World),ao ks<m->KidsAt w ks A n c->Calls Tryz.prog 44 #[.slice A n c] w (px ks w)
theorem wF{m:Nat}(ih:Hid (lR m))(t:ag)(k:Nat)(s:ByteArray)(x:Int)(A:Option Addr)(n c:Nat)(w:World)(hsz:t.sz<=m)(hN:cf w t k s x A n c):Calls Tryz.prog 112 #[.agg #[.int .u8 k,.string s,.int .i64 x,.slice A n c]] w (sX t.kids k s x w):=by
 obtain⟨ks,rfl,hk255,hsm,hx,hK⟩:=hN;have hb0:Below w.heap.size w ((w.alloc (.cells #[.int .u8 k,.string s,.int .i64 x,.slice A n c] 44)).alloc (.cells Z4 44)):=bt (bt (ai _ _) _) _;have HB0:=aa hb0;have HK:=aa (hK.below hb0);have HSZ:Hid (ao ks<m):=(by show _<_;simp only[ag.sz] at hsz;omega);clear hsz hb0 hK
 go_in
 go_wp2_with fail;refine(ih.out ks _ _ _ _ HSZ.out HK.out).mono ?_;rintro e w1 ⟨g,rfl,hf,hl,hb1⟩;have HF:=aa hf;have HL:=aa hl;have HB1:=aa hb1;clear hf hl hb1;have hbox:w1.heap[w.heap.size]? =some (.cells #[.int .u8 k,.string s,.int .i64 x,.slice A n c] 44 (0,0)):=(HB1.out.block _ (by simp;omega)).trans ((heap_alloc_old _ _ (by simp)).trans (heap_alloc_new _ _));have hres:w1.heap[w.heap.size+1]? =some (.cells Z4 44 (0,0)):=(HB1.out.block _ (by simp)).trans (aQ (by simp));obtain⟨c0,c1,c2,c3,f0,f1,f2,f3⟩:=di hbox;obtain⟨r0,r1,r2,r3,g0,g1,g2,g3⟩:=di hres;have HR3:Hid (nh (w1.setCell ⟨w.heap.size,3,none⟩ (.slice (some ⟨g,0,none⟩) ks.length (ks.length+12))) (w.heap.size+1) (.int .u8 0) (.string ⟨#[]⟩) (.int .i64 0) (.slice none 0 0)):=di (by rw[aY _ _ _ _ (show w.heap.size+1≠w.heap.size by omega)];exact hres);clear hbox hres;go_wp2_with fail;have hblk:∀q,w.heap.size+2<=q->(((((w1.setCell ⟨w.heap.size,3,none⟩ (.slice (some ⟨g,0,none⟩) ks.length (ks.length+12))).setCell ⟨w.heap.size+1,0,none⟩ (.int .u8 k)).setCell ⟨w.heap.size+1,1,none⟩ (.string s)).setCell ⟨w.heap.size+1,2,none⟩ (.int .i64 x)).setCell ⟨w.heap.size+1,3,none⟩ (.slice (some ⟨g,0,none⟩) ks.length (ks.length+12))).heap[q]? =w1.heap[q]? :=fun q hq=>by rw[aY _ _ _ _ (show q≠w.heap.size+1 by omega),aY _ _ _ _ (show q≠w.heap.size+1 by omega),aY _ _ _ _ (show q≠w.heap.size+1 by omega),aY _ _ _ _ (show q≠w.heap.size+1 by omega),aY _ _ _ _ (show q≠w.heap.size by omega)]
 have HFK:=aa (bJ.keep HF.out (B':=w.heap.size) (by simp;omega) fun q h1 _=>hblk q (by simp at h1;omega));have HLK:=aa (ls HL.out (B':=w.heap.size) (by simp;omega) fun q h1 _=>hblk q (by simp at h1;omega));clear hblk;obtain⟨a0,a1,a2,a3⟩:=mL (v0:=.int .u8 k) (v1:=.string s) (v2:=.int .i64 x) (v3:=.slice (some ⟨g,0,none⟩) ks.length (ks.length+12)) HR3.out.c0 HR3.out.c1 HR3.out.c2 HR3.out.c3;exact bodyPost_ret (v:=.agg #[.int .u8 k,.string s,.int .i64 x,.slice (some ⟨g,0,none⟩) ks.length (ks.length+12)]) (by simp[results,Tryz.results112,go_sem,a0,a1,a2,a3]) rfl ⟨g,rfl,HFK.out,HLK.out,(((((af HB0.out HB1.out).setCell (ah _) _).setCell (by simp) _).setCell (by simp) _).setCell (by simp) _).setCell (by simp) _⟩
theorem qP(w:World)(m:Int):∀j u,(aT m)[j]? =some u->(w.alloc (.cells #[.int .u8 0,.string ⟨#[]⟩,.int .i64 m,.slice none 0 0] 44)).cell? ((⟨w.heap.size,0,none⟩:Addr).add j)=some u:=
 World.news_of_block (heap_alloc_new w _)
theorem ov(m:Int):∀u∈aT m,u.oneCell'=true:=by intro u hu;simp[aT] at hu;rcases hu with rfl|rfl|rfl|rfl<;>rfl
def jR(B:Nat)(w:World)(ks:List ag)(j n:Nat):Prop:=∃xs R,w.ownsRow B 44 4 (.slice (some ⟨B,0,none⟩) j (n+12)) j xs/\dZ B B w (ks.take j) xs R
theorem jR.push'{B n j:Nat}{w w3 w4 w5:World}{ks:List ag}{t:ag}{g:Nat}{xs R:List Value}(ho:w.ownsRow B 44 4 (.slice (some ⟨B,0,none⟩) j (n+12)) j xs)(hP:dZ B B w (ks.take j) xs R)(hj:ks[j]? =some t)(hb3:Below w.heap.size w w3)(hF:bJ w3 w.heap.size t.kids (some ⟨g,0,none⟩) t.kids.length (t.kids.length+12))(hL:cC (cX w3 w.heap.size) t.kids (some ⟨g,0,none⟩) t.kids.length (t.kids.length+12))(hb4:Below w3.heap.size w3 w4)(b1:t.kind<=255)(b2:t.text.length<=maxLen)(b3:cm t.num)(k:w5.ownsRow B 44 4 (.slice (some ⟨B,0,none⟩) (j+1) (n+12)) (j+1) (xs++eU t (some ⟨g,0,none⟩) (t.kids.length+12)))(hg:w4.grownBy w5 (some B)):jR B w5 ks (j+1) n:=by
 have hlt:=ho.lt B rfl;have hP3:dZ B B w3 (ks.take j) xs R:=hP.keep fun q _ hq=>hb3.block q hq;obtain⟨R',hP',_⟩:=hP3.push hF hL hlt.2 (iB hlt.2) (fun q hq=>(hP.lt hq).2.1) b1 b2 b3;have e:ks.take (j+1)=ks.take j++[t]:=by obtain⟨h1,h2⟩:=bs.1 hj;rw[List.take_succ_eq_append_getElem h1,h2]
 refine⟨_,R',k,?_⟩;rw[e];exact(hP'.keep (w':=w4) fun q _ hq=>hb4.block q hq).keep fun q h1 hq=>hg.block q hq (by intro e;injection e with e;exact h1 e)
theorem wG(m:Nat)(hm:m<=1000000)(ih:Hid (lR m)):lR (m+1):=by
 intro ks A n c w hsz hK;have HK:=aa hK;have HSZ:=aa hsz;have HLN:Hid (n=ks.length):=hK.1;have hnb:n<=1000001:=(by have h1:=eA ks;have h3:=HLN.out;omega);obtain⟨i0,hi,hz0,hz1,hz2⟩:=info_parts Tryz.infoNode;clear hK hsz
 go_in
 go_wp2_with (at_make;refine wpList_make_own _ rfl _ _ 24 rfl w.heap.size 44 i0 _ 4 Tryz.underlying24 hi hz0 hz1 .i64 .i64 _ (n+12) rfl rfl (by omega) (by rw[hz2];omega) (by unfold maxLen;omega) (ah _) ?_;intro w0 hown0 hgrow0);have HB0:Hid (Below w.heap.size w w0):=(ai w.heap.size w).grown hgrow0 (ah _) (fun k hk=>by cases hk);have HS0:Hid (jR w.heap.size w0 ks 0 n):=⟨[],[],hown0,dZ.start _ _ _⟩;clear hown0 hgrow0;go_wp2_with fail;go_loopw [3,4] (fun v i wr=>∃j:Nat,j<=n/\i= .int .i64 j/\v= .slice (some ⟨w.heap.size,0,none⟩) j (n+12)/\Hid (Below w.heap.size w wr)/\Hid (jR w.heap.size wr ks j n)) (fun _ i _=>n - (intOf i).toNat);case atStart=>exact⟨0,aE _,rfl,rfl,HB0,HS0⟩
 case round=>
  obtain⟨j,hj,rfl,rfl,HB,HS⟩:=hrel;by_cases hlt:j<n
  .obtain⟨b,o,t,rfl,ht,hat⟩:=(HK.out.below HB.out).get hlt;obtain⟨B1,d1,q0,q1,q2,q3,hnode⟩:=hat.cells;have HND:=aa hnode;have HT:=aa ht;have HST:Hid (t.sz<=m):=aJ (kT ht) (Nat.le_of_lt_succ HSZ.out);have HBND:Hid (t.kind<=255/\t.text.length<=maxLen/\cm t.num):=by obtain⟨ks',e,h1,h2,h3,_⟩:=hnode;exact⟨h1,h2,h3⟩
   clear ht hat hnode;go_wp2_with fail;refine(wF ih t _ _ _ _ _ _ _ HST.out HND.out).mono ?_;rintro e w3 ⟨g,rfl,hf3,hl3,hb3⟩;have HB3:=aa hb3;have HF3:=aa hf3;have HL3:=aa hl3;clear hf3 hl3 hb3;have hb4:Below w3.heap.size w3 ((w3.alloc (.cells #[.int .u8 t.kind,.string (sb t.text),.int .i64 t.num,.slice (some ⟨g,0,none⟩) t.kids.length (t.kids.length+12)] 44)).alloc (.cells #[.int .u8 t.kind,.string (sb t.text),.int .i64 t.num,.slice (some ⟨g,0,none⟩) t.kids.length (t.kids.length+12)] 44)):=bt (bt (ai _ _) _) _;have HB4:=aa hb4;have HBB:=aa (af (af HB.out HB3.out) hb4);clear hb4 q0 q1 q2 q3;obtain⟨xs,R,hown,hP⟩:=HS.out;have HOW:=aa (bM (bM hown HB3.out (ah _)) HB4.out (ah _));have HXS:Hid (wr.ownsRow w.heap.size 44 4 (.slice (some ⟨w.heap.size,0,none⟩) j (n+12)) j xs/\dZ w.heap.size w.heap.size wr (ks.take j) xs R):=⟨hown,hP⟩;clear hown hP HS;go_wp2_with (at_builtin;refine wpList_append_fits _ rfl _ _ 24 rfl w.heap.size 44 i0 4 Tryz.underlying24 hi hz1 w.heap.size j (n+12) xs rfl HOW.out ⟨w3.heap.size+1,0,none⟩ 1 1 (eU t (some ⟨g,0,none⟩) (t.kids.length+12)) rfl rfl (World.news_of_block (aQ (by simp))) (qW _ _ _) (by omega) ?_;intro w5 hown5 hgrow5);have HS5:Hid (jR w.heap.size w5 ks (j+1) n):=jR.push' HXS.out.1 HXS.out.2 HT.out HB3.out HF3.out HL3.out HB4.out HBND.out.1 HBND.out.2.1 HBND.out.2.2 hown5 hgrow5;have HB5:Hid (Below w.heap.size w w5):=HBB.out.grown hgrow5 HBB.out.size (fun k hk=>by injection hk with hk;omega);clear hown5 hgrow5;go_wp2;go_roundw;case rel=>exact⟨j+1,by omega,by go_num,rfl,HB5,HS5⟩
   case measure=>simp[intOf];omega
  .have hjn:j=n:=(by omega);subst hjn;have HS1:Hid (∃xs R,(wr.ownsRow w.heap.size 44 4 (.slice (some ⟨w.heap.size,0,none⟩) (j+0) (j+12)) (j+0) (xs++aC aT 1 0 0))/\dZ w.heap.size w.heap.size wr ks xs R):=by obtain⟨xs,R,h1,h2⟩:=HS.out;rw[HLN.out,List.take_length] at h2;exact⟨xs,R,by simpa[aC] using h1,h2⟩
   obtain⟨xs,R,h1,h2⟩:=HS1.out;have HO1:=aa h1;have HP1:=aa h2;clear h1 h2 HS HS1;go_wp2_with fail;go_loopw [3,6] (fun v i wq=>∃q:Nat,q<=12/\i= .int .i64 q/\v= .slice (some ⟨w.heap.size,0,none⟩) (j+q) (j+12)/\Hid (Below w.heap.size w wq)/\Hid (wq.ownsRow w.heap.size 44 4 (.slice (some ⟨w.heap.size,0,none⟩) (j+q) (j+12)) (j+q) (xs++aC aT 1 0 q))/\Hid (dZ w.heap.size w.heap.size wq ks xs R)) (fun _ i _=>12 - (intOf i).toNat);case atStart=>exact⟨0,aE _,rfl,(by simp),HB,HO1,HP1⟩
   case round=>
    clear HO1 HP1 HB;obtain⟨q,hq,rfl,rfl,HB,HO,HP⟩:=hrel;by_cases hq12:q<12
    .go_wp2_with fail;refine(ip 1 q _ (by omega) (by omega)).mono ?_;rintro e w3 ⟨rfl,hb3⟩;have HB3:=aa hb3;clear hb3;have HM:Hid (aC aT 1 0 (q+1)=aC aT 1 0 q++aT (aB 1 q)):=(by show _=_;rw[gR,Nat.zero_add]);generalize aB 1 q=mm at HM ⊢;have hb4:Below w3.heap.size w3 (w3.alloc (.cells #[.int .u8 0,.string ⟨#[]⟩,.int .i64 mm,.slice none 0 0] 44)):=bt (ai _ _) _;have HBB:=aa (af (af HB.out HB3.out) hb4);have HOW:=aa (bM (bM HO.out HB3.out (ah _)) hb4 (ah _));have HPW:=aa ((HP.out.keep fun q _ h=>HB3.out.block q h).keep fun q _ h=>hb4.block q h);clear hb4;go_wp2_with (at_builtin;refine wpList_append_fits _ rfl _ _ 24 rfl w.heap.size 44 i0 4 Tryz.underlying24 hi hz1 w.heap.size (j+q) (j+12) _ rfl HOW.out ⟨w3.heap.size,0,none⟩ 1 1 (aT mm) rfl rfl (qP _ _) (ov _) (by omega) ?_;intro w5 hown5 hgrow5);have HO5:Hid (w5.ownsRow w.heap.size 44 4 (.slice (some ⟨w.heap.size,0,none⟩) (j+(q+1)) (j+12)) (j+(q+1)) (xs++aC aT 1 0 (q+1))):=by show World.ownsRow _ _ _ _ _ _ _;rw[HM.out,<-List.append_assoc];exact hown5
     have HP5:=aa (HPW.out.keep fun q h1 hq=>hgrow5.block q hq (by intro e;injection e with e;exact h1 e));have HB5:Hid (Below w.heap.size w w5):=HBB.out.grown hgrow5 HBB.out.size (fun k hk=>by injection hk with hk;omega);clear hown5 hgrow5;go_wp2;go_roundw;case rel=>exact⟨q+1,by omega,by go_num,rfl,HB5,HO5,HP5⟩
     case measure=>simp[intOf];omega
    .have hq:q=12:=(by omega);subst hq;have HD:Hid (bJ wr w.heap.size ks (some ⟨w.heap.size,0,none⟩) ks.length (ks.length+12)/\cC (cX wr w.heap.size) ks (some ⟨w.heap.size,0,none⟩) ks.length (ks.length+12)):=by have h1:=HO.out;rw[HLN.out] at h1;exact HP.out.done h1
     go_wp2_with fail;go_ret;exact⟨w.heap.size,(by rw[<-HLN.out];rfl),HD.out.1,HD.out.2,HB.out⟩
theorem qH:∀m,m<=1000000->lR m
 |0,_=>fun ks A n c w h=>absurd h (Nat.not_lt_zero _)
 |m+1,h=>wG m (by omega) (aa (qH m (by omega)))
theorem qx(ks:List ag)(A:Option Addr)(n c:Nat)(w:World)(hsz:ao ks<1000000)(hK:KidsAt w ks A n c):Calls Tryz.prog 44 #[.slice A n c] w (px ks w):=qH 1000000 (by omega) ks A n c w hsz hK
end Go.Proofs.YtlkmefhogabgdaaGreatDoor
