/- Part 21 of the proof. -/
import Derived.Test.YtfipahjodfminaaGreatDoorMnT
namespace Go.Proofs.YtfipahjodfminaaGreatDoor
open Go.RowKit
set_option linter.all false
set_option maxHeartbeats 40000000
set_option maxRecDepth 100000
theorem MY(args:Array Value)(w:World):(callFunc 101 args).run Tryz.prog w= .ok (.enter 101 args) w:=eH Tryz.func101 (by kernel_rfl) (by kernel_rfl) args w
theorem M6(args:Array Value)(w:World):(callFunc 104 args).run Tryz.prog w= .ok (.enter 104 args) w:=eH Tryz.func104 (by kernel_rfl) (by kernel_rfl) args w
theorem MZ(args:Array Value)(w:World):(callFunc 108 args).run Tryz.prog w= .ok (.enter 108 args) w:=eH Tryz.func108 (by kernel_rfl) (by kernel_rfl) args w
theorem M7(args:Array Value)(w:World):(callFunc 107 args).run Tryz.prog w= .ok (.enter 107 args) w:=eH Tryz.func107 (by kernel_rfl) (by kernel_rfl) args w
theorem Cu.apart{W:World}{B:Nat}{u:ag}{g o:Nat}{Ru R':List Value}{A:Option Addr}{n c:Nat}(h:Cu W B u g o Ru)(hR:Ru= .slice A n c::R'):(∀q∈aW R',B<=q/\q<W.heap.size/\q≠g/\(Value.slice A n c).ownBlock≠some q)/\∀q,(Value.slice A n c).ownBlock=some q->B<=q/\q<W.heap.size/\q≠g:=by
 subst hR;have hnd:=h.nd;have hmem:∀q∈aW R',q∈aW (.slice A n c::R'):=fun q hq=>by
  simp only[aW,List.filterMap_cons];split
  .exact hq
  .exact List.mem_cons_of_mem _ hq
 have hown:∀q,(Value.slice A n c).ownBlock=some q->q∈aW (.slice A n c::R'):=fun q hq=>iR (List.mem_cons_self ..) hq;refine⟨fun q hq=>⟨(h.blk (hmem q hq)).1,(h.blk (hmem q hq)).2,fun e=>h.out (by rw[<-e];exact hmem q hq),fun e=>?_⟩,fun q hq=>⟨(h.blk (hown q hq)).1,(h.blk (hown q hq)).2,fun e=>h.out (by rw[<-e];exact hown q hq)⟩⟩;simp only[aW,List.filterMap_cons,e,List.nodup_cons] at hnd;exact hnd.1 hq
theorem JZ{W W':World}{B g o:Nat}{u:ag}{Ru:List Value}(h:Cu W B u g o Ru)(hb:W'.heap[g]? =W.heap[g]?){i:Nat}(hi:i<4):W'.frozen? ⟨g,o+i,none⟩=false:=(World.frozen?_of_block (a:=⟨g,o+i,none⟩) hb).trans (h.soft i hi)
theorem No{W W0 w1 w2:World}{B g o k:Nat}{s:ar}{x:Int}{ks ks0:List ag}{v:ag}{Ru R':List Value}{A A0 A':Option Addr}{n n0 c c0 c' vb at_:Nat}{xs vs:List Value}{R2:List Value}(hN:Cu W B (.node k s x ks) g o Ru)(hR:Ru= .slice A n c::R')(hB:B<=W.heap.size)(hon:cg (fun q=>(Value.slice A n c).ownBlock=some q) W W0)(hA0:(Value.slice A0 n0 c0).ownBlock=(Value.slice A n c).ownBlock)(hxs:ez W0 (jh R') ks0 xs)(hb1:Below W0.heap.size W0 w1)(hv:ez w1 (jh R2) [v] vs)(hR2:∀q∈aW R2,W0.heap.size<=q/\q<w1.heap.size)(hvb:W0.heap.size<=vb)(hat:at_<=ks0.length)(hn0:n0=ks0.length)(hrow:w2.ownsRow B 25 4 (.slice A' (n0+1) c') (n0+1) (xs.take (at_*4)++vs++xs.drop (at_*4)))(hgr:w1.grownBy w2 (Value.slice A0 n0 c0).ownBlock)(hfr:∀q,(Value.slice A' (n0+1) c').ownBlock=some q->(Value.slice A0 n0 c0).ownBlock=some q∨w1.heap.size<=q):Ec W (w2.setCell ⟨g,o+3,none⟩ (.slice A' (n0+1) c')) B (.node k s x (ks0.take at_++v::ks0.drop at_)) g o Ru:=by
 obtain⟨ap1,ap2⟩:=hN.apart hR;have hs0:=hon.size;have hs1:=hb1.size;have hgW:=hN.hi;refine Ou (S:=fun q=>jh R' q || jh R2 q) (by rw[Pw hat,hn0]) hN hR hB ((hon.then_below hb1).grown hgr fun q hq=>.inr (by rw[<-hA0,hq])) hrow (fun q hq=>?_) (hxs.keep (fun q hq=>⟨hq,?_⟩) |>.ins hv fun q hq=>⟨by simpa using hq,?_⟩) (fun q hq=>?_)
 .rcases hfr q hq with h|h
  .exact(ap2 q (by rw[<-hA0];exact h)).2.2
  .omega
 .have hq':q∈aW R':=(by simpa[jh] using hq);exact hb1.block q (by have:=(ap1 q hq').2.1;omega)
 .rcases hq with hq|hq
  .have hq':q∈aW R':=(by simpa[jh] using hq);exact hgr.block q (by have:=(ap1 q hq').2.1;omega) (by rw[hA0];exact Ne.symm (ap1 q hq').2.2.2)
  .have hq':q∈aW R2:=(by simpa[jh] using hq);exact hgr.block q (hR2 q hq').2 (fun e=>by have:=(ap2 q (by rw[<-hA0];exact e.symm)).2.1;have:=(hR2 q hq').1;omega)
 .rcases Bool.or_eq_true _ _ ▸ hq with hq|hq
  .have hq':q∈aW R':=(by simpa[jh] using hq);exact⟨(ap1 q hq').1,(ap1 q hq').2.2.1⟩
  .have hq':q∈aW R2:=(by simpa[jh] using hq);have:=(hR2 q hq').1;exact⟨by omega,by omega⟩
theorem Qz(wk at_:Nat)(v:ag)(nA:Option Addr)(nc:Nat)(w0:World)(k:Nat)(s:ar)(x:Int)(ks:List ag)(hc2:w0.cell? ⟨wk,2,none⟩=some (.int .i64 at_))(hc7:w0.cell? ⟨wk,7,none⟩=some (.slice nA 1 nc))(hK:ce w0 [v] nA 1 nc)(hv:v.sz<=1000000)(hat:at_<=ks.length)(hlen:ks.length<=100000):EP 101 wk w0 (.node k s x ks) (.node k s x (ks.take at_++v::ks.drop at_)):=by
 intro W B g o Ru h1 h2 hb hN;obtain⟨A,c,xs,R',hRu,h3,ho,hcs⟩:=hN.cellsN;have hwk:=bK hc2;have c2:=ac hb hc2;have c7:=ac hb hc7;have HC:=ab (jE [v] nA 1 nc W.drew (by simp only[ao];omega) (hK.below (ua hb)));have HN:=ab hN;have HO:=ab ho;have HX:=ab hcs;have HR:=ab hRu;obtain⟨ap1,ap2⟩:=hN.apart hRu;have HAP:=ab ap2;have h3:W.cell? ⟨g,o+3,none⟩=some (.slice A ks.length c):=h3;have hkm:ks.length<=9223372036854775807:=(by omega);have HWK:Hid (wk<B):=(by show _<_;simp at hwk;omega);have HH2:=ab h2;clear hN ho hcs hRu ap1 ap2 hc2 hc7 hK hb hwk
 go_in
 go_wp2_with fail;refine wp_region_noPanic ?_;refine Mz 15 (S:=fun w'=>w'.cell? ⟨g,o+3,none⟩=some (.slice A ks.length c)/\w'.cell? ⟨wk,2,none⟩=some (.int .i64 at_)/\w'.cell? ⟨wk,7,none⟩=some (.slice nA 1 nc)) (by kernel_rfl) ⟨h3,c2,c7⟩ fun hH0=>?_;refine ec 0 ?_;refine ec 1 ?_;refine ec 2 ?_;refine ec 3 ?_;refine ec 4 ?_;refine ec 5 ?_;refine ec 6 ?_;refine ec 7 ?_;refine ec 8 ?_;refine ec 9 ?_;refine ec 10 ?_;refine yy 11 fun K hK=>?_;go_simp;refine HC.out.mono ?_;rintro en w1 ⟨vA,vc,rfl,hf,hb1⟩;have HB1:Hid (Below W.heap.size W w1):=af (ua (ai _ _)) hb1;obtain⟨vs,R2,hvo,hvc,hv2,hv3⟩:=hf.cellsN hb1.size;obtain⟨vb,rfl,hvb,hone⟩:=NL hvo hvc.one;have HV2:=ab hv2;have HVC:=ab hvc;have HON:=ab hone;have HVB:Hid (W.heap.size<=vb):=hvb;clear hf hb1 hvo hvc hv2 hv3 hone hvb;go_wp2_with fail;refine hK.out _ _ (fun _=>?_) (fun hH1=>?_)
 .exact⟨ac HB1.out h3,ac HB1.out c2,ac HB1.out c7⟩
 have hH1:=hH1 (by decide);clear hK K;refine za ?_;refine yy 12 fun K hK=>?_;go_simp;refine(NR xs vs B A ks.length c at_ vb vc w1 (bM HO.out HB1.out (ah _)) hlen hat HON.out (fun q hq=>by have:=(HAP.out q hq).2.1;have:=HVB.out;omega) (by have:=HB1.out.size;have:=HH2.out;omega) HX.out.one).mono ?_;rintro en w2 ⟨A',c',rfl,hrow,hgr,hfr⟩;have HT:=ab (No HN.out HR.out HH2.out (cg.refl _ W) rfl HX.out HB1.out HVC.out HV2.out HVB.out hat rfl hrow hgr hfr);have hgg:w2.heap[g]? =W.heap[g]? :=by have hgl:=HN.out.hi;rw[hgr.block g (by have:=HB1.out.size;omega) (fun e=>(HAP.out g e.symm).2.2 rfl),HB1.out.block g hgl]
 have hwkk:w2.heap[wk]? =W.heap[wk]? :=by have h5:=HWK.out;have h6:=HH2.out;rw[hgr.block wk (by have:=HB1.out.size;omega) (fun e=>by have:=(HAP.out wk e.symm).1;omega),HB1.out.block wk (by omega)]
 have e3:w2.cell? ⟨g,o+3,none⟩=some (.slice A ks.length c):=(World.cell?_of_block (a:=⟨g,o+3,none⟩) hgg).trans h3;have f3:w2.frozen? ⟨g,o+3,none⟩=false:=JZ HN.out hgg (by omega);have e2:=(World.cell?_of_block (a:=⟨wk,2,none⟩) hwkk).trans c2;have e7:=(World.cell?_of_block (a:=⟨wk,7,none⟩) hwkk).trans c7;clear hrow hgr hfr hgg hwkk;go_wp2_with fail;refine hK.out _ _ (fun _=>?_) (fun hH2=>?_)
 .exact⟨e3,e2,e7⟩
 have hH2:=hH2 (by decide);clear hK K;refine za ?_;refine yy 13 fun K hK=>?_;go_simp;refine hK.out _ _ (fun _=>hH2) (fun _=>?_);clear hK K;refine za ?_;refine ec 14 ?_;refine yy 15 fun K hK=>?_;go_simp;refine hK.out _ _ (fun h=>absurd rfl h) (fun _=>?_);clear hK K;refine za ?_;refine LO ?_ (by kernel_rfl) _;refine NoPanic.normal ?_;exact bodyPost_end (v:=.tuple #[]) (by simp[results,Tryz.results101,go_sem]) rfl ⟨rfl,HT.out⟩
theorem MT{W w2:World}{B g o k:Nat}{s:ar}{x:Int}{ks:List ag}{Ru R':List Value}{gA m c at_:Nat}{xs:List Value}{n:Nat}(hN:Cu W B (.node k s x ks) g o Ru)(hR:Ru= .slice (some ⟨gA,0,none⟩) n c::R')(hB:B<=W.heap.size)(hxs:ez W (jh R') ks xs)(hat:at_<ks.length)(hm:ks.length=m+1)(hrow:w2.ownsRow B 25 4 (.slice (some ⟨gA,0,none⟩) m c) m (xs.take (at_*4)++xs.drop (at_*4+4)))(hgr:W.drew.grownBy w2 (some gA)):ez w2 (jh R') (ks.take at_++ks.drop (at_+1)) (xs.take (at_*4)++xs.drop (at_*4+4))/\cg (fun q=>(Value.slice (some ⟨gA,0,none⟩) n c).ownBlock=some q) W w2/\Ec W (w2.setCell ⟨g,o+3,none⟩ (.slice (some ⟨gA,0,none⟩) m c)) B (.node k s x (ks.take at_++ks.drop (at_+1))) g o Ru:=by
 obtain⟨ap1,ap2⟩:=hN.apart hR;have hc:ez w2 (jh R') (ks.take at_++ks.drop (at_+1)) (xs.take (at_*4)++xs.drop (at_*4+4)):=hxs.del fun q hq=>⟨hq,by have hq':q∈aW R':=(by simpa[jh] using hq);exact hgr.block q (ap1 q hq').2.1 (fun e=>(ap1 q hq').2.2.2 (by simpa[Value.ownBlock] using e.symm))⟩
 have hon:cg (fun q=>(Value.slice (some ⟨gA,0,none⟩) n c).ownBlock=some q) W w2:=((cg.refl _ W).drew).grown hgr fun q hq=>.inr (by simpa[Value.ownBlock] using hq);refine⟨hc,hon,Ou (S:=jh R') (by have:=MS hat;omega) hN hR hB hon hrow (fun q hq=>(ap2 q (by simpa[Value.ownBlock] using hq)).2.2) hc fun q hq=>?_⟩;have hq':q∈aW R':=(by simpa[jh] using hq);exact⟨(ap1 q hq').1,(ap1 q hq').2.2.1⟩
theorem QD(wk at_:Nat)(w0:World)(k:Nat)(s:ar)(x:Int)(ks:List ag)(hc2:w0.cell? ⟨wk,2,none⟩=some (.int .i64 at_))(hat:at_<ks.length)(hlen:ks.length<=100000):EP 104 wk w0 (.node k s x ks) (.node k s x (ks.take at_++ks.drop (at_+1))):=by
 intro W B g o Ru h1 h2 hb hN;obtain⟨A,c,xs,R',hRu,h3,ho,hcs⟩:=hN.cellsN;have hwk:=bK hc2;have c2:=ac hb hc2;have HN:=ab hN;have HO:=ab ho;have HX:=ab hcs;have HR:=ab hRu;obtain⟨ap1,ap2⟩:=hN.apart hRu;have HAP:=ab ap2;have HAP1:=ab ap1;have h3:W.cell? ⟨g,o+3,none⟩=some (.slice A ks.length c):=h3;obtain⟨m,hm⟩:∃m,ks.length=m+1:=⟨ks.length - 1,by omega⟩;have HWK:Hid (wk<B):=(by show _<_;simp at hwk;omega);have HH2:=ab h2;have ho':W.ownsRow B 25 4 (.slice A ks.length c) ks.length xs:=ho;rw[hm] at h3 ho';obtain⟨gA,rfl⟩:∃gA,A=some ⟨gA,0,none⟩:=by
  rcases ho'.2 with ⟨e,h0⟩|⟨g,cap,cur,e,_⟩
  .omega
  .injection e with e;exact⟨g,e⟩
 have HO':=ab ho';have HM:=ab hm;have hmm:(m:Int)+1<=9223372036854775807:=(by omega);have hatm:at_<=m:=(by omega);have hm1:m<=100000:=(by omega);clear hN ho ho' hcs hRu ap1 ap2 hc2 hb hwk hm
 go_in
 go_wp2_with fail;refine wp_region_noPanic ?_;refine Mz 15 (S:=fun w'=>w'.cell? ⟨g,o+3,none⟩=some (.slice (some ⟨gA,0,none⟩) (m+1) c)/\w'.cell? ⟨wk,2,none⟩=some (.int .i64 at_)) (by kernel_rfl) ⟨h3,c2⟩ fun hH0=>?_;refine ec 0 ?_;refine ec 1 ?_;refine ec 2 ?_;refine ec 3 ?_;refine ec 4 ?_;refine ec 5 ?_;refine ec 6 ?_;refine ec 7 ?_;refine ec 8 ?_;refine ec 9 ?_;refine ec 10 ?_;refine ec 11 ?_;refine yy 12 fun K hK=>?_;go_simp;rw[show IntKind.i64.wrap ((at_:Int)+1)=(at_:Int)+1 from IntWalk.i64_in _ (by omega)];refine(NQ xs B gA m c at_ W.drew (bM HO'.out (ua (ai W.heap.size W)) (ah _)) hm1 hatm HX.out.one).mono ?_;rintro en w2 ⟨rfl,hrow,hgr⟩;have HT:=ab (MT HN.out HR.out HH2.out HX.out hat HM.out hrow hgr).2.2;have hgg:w2.heap[g]? =W.heap[g]? :=hgr.block g HN.out.hi (fun e=>(HAP.out g e.symm).2.2 rfl);have hwkk:w2.heap[wk]? =W.heap[wk]? :=by have h5:=HWK.out;have h6:=HH2.out;exact hgr.block wk (by show wk<W.heap.size;omega) (fun e=>by have:=(HAP.out wk e.symm).1;omega)
 have e3:w2.cell? ⟨g,o+3,none⟩=some (.slice (some ⟨gA,0,none⟩) (m+1) c):=(World.cell?_of_block (a:=⟨g,o+3,none⟩) hgg).trans h3;have f3:w2.frozen? ⟨g,o+3,none⟩=false:=JZ HN.out hgg (by omega);have e2:=(World.cell?_of_block (a:=⟨wk,2,none⟩) hwkk).trans c2;clear hrow hgr hgg hwkk;go_wp2_with fail;refine hK.out _ _ (fun _=>?_) (fun hH2=>?_)
 .exact⟨e3,e2⟩
 have hH2:=hH2 (by decide);clear hK K;refine za ?_;refine yy 13 fun K hK=>?_;go_simp;refine hK.out _ _ (fun _=>hH2) (fun _=>?_);clear hK K;refine za ?_;refine ec 14 ?_;refine yy 15 fun K hK=>?_;go_simp;refine hK.out _ _ (fun h=>absurd rfl h) (fun _=>?_);clear hK K;refine za ?_;refine LO ?_ (by kernel_rfl) _;refine NoPanic.normal ?_;exact bodyPost_end (v:=.tuple #[]) (by simp[results,Tryz.results104,go_sem]) rfl ⟨rfl,HT.out⟩
theorem QC(wk at_ far:Nat)(v:ag)(oA:Option Addr)(oc:Nat)(w0:World)(k:Nat)(s:ar)(x:Int)(ks:List ag)(hc2:w0.cell? ⟨wk,2,none⟩=some (.int .i64 at_))(hc3:w0.cell? ⟨wk,3,none⟩=some (.int .i64 far))(hc6:w0.cell? ⟨wk,6,none⟩=some (.slice oA 1 oc))(hK:ce w0 [v] oA 1 oc)(hv:v.sz<=1000000)(hat:at_<ks.length)(hfar:far<ks.length)(hlen:ks.length<=100000):EP 108 wk w0 (.node k s x ks) (.node k s x ((ks.take at_++ks.drop (at_+1)).take far++v:: (ks.take at_++ks.drop (at_+1)).drop far)):=by
 intro W B g o Ru h1 h2 hb hN;obtain⟨A,c,xs,R',hRu,h3,ho,hcs⟩:=hN.cellsN;have hwk:=bK hc2;have c2:=ac hb hc2;have c3:=ac hb hc3;have c6:=ac hb hc6;have HN:=ab hN;have HX:=ab hcs;have HR:=ab hRu;have HK:=ab hK;have HBB:=ab hb;obtain⟨ap1,ap2⟩:=hN.apart hRu;have HAP:=ab ap2;have h3:W.cell? ⟨g,o+3,none⟩=some (.slice A ks.length c):=h3;obtain⟨m,hm⟩:∃m,ks.length=m+1:=⟨ks.length - 1,by omega⟩;have HWK:Hid (wk<w0.heap.size):=(by show _<_;simpa using hwk);have HH2:=ab h2;have HH1:=ab h1;have ho':W.ownsRow B 25 4 (.slice A ks.length c) ks.length xs:=ho;rw[hm] at h3 ho';obtain⟨gA,rfl⟩:∃gA,A=some ⟨gA,0,none⟩:=by
  rcases ho'.2 with ⟨e,h0⟩|⟨g,cap,cur,e,_⟩
  .omega
  .injection e with e;exact⟨g,e⟩
 have HO':=ab ho';have HM:=ab hm;have HAT:=ab hat;have hmm:(m:Int)+1<=9223372036854775807:=(by omega);have hatm:at_<=m:=(by omega);have hfarm:far<=m:=(by omega);have hm1:m<=100000:=(by omega);clear hN ho ho' hcs hRu ap1 ap2 hc2 hc3 hc6 hK hb hwk hm hat
 go_in
 go_wp2_with fail;refine wp_region_noPanic ?_;refine Mz 23 (S:=fun w'=>w'.cell? ⟨g,o+3,none⟩=some (.slice (some ⟨gA,0,none⟩) (m+1) c)/\w'.cell? ⟨wk,2,none⟩=some (.int .i64 at_)/\w'.cell? ⟨wk,3,none⟩=some (.int .i64 far)/\w'.cell? ⟨wk,6,none⟩=some (.slice oA 1 oc)) (by kernel_rfl) ⟨h3,c2,c3,c6⟩ fun hH0=>?_;refine ec 0 ?_;refine ec 1 ?_;refine ec 2 ?_;refine ec 3 ?_;refine ec 4 ?_;refine ec 5 ?_;refine ec 6 ?_;refine ec 7 ?_;refine ec 8 ?_;refine ec 9 ?_;refine ec 10 ?_;refine ec 11 ?_;refine ec 13 ?_;refine ec 14 ?_;refine ec 15 ?_;refine ec 16 ?_;refine ec 17 ?_;refine ec 18 ?_;refine yy 12 fun K hK=>?_;go_simp;rw[show IntKind.i64.wrap ((at_:Int)+1)=(at_:Int)+1 from IntWalk.i64_in _ (by omega)];refine(NQ xs B gA m c at_ W.drew (bM HO'.out (ua (ai W.heap.size W)) (ah _)) hm1 hatm HX.out.one).mono ?_;rintro en w2 ⟨rfl,hrow,hgr⟩;obtain⟨hc2',hon2,_⟩:=MT HN.out HR.out HH2.out HX.out HAT.out HM.out hrow hgr;have hb02:Below w0.heap.size w0 w2:=HBB.out.trans (hon2.below (aJ HH1.out HH2.out) fun q hq=>aJ HH1.out (HAP.out q hq).1);have HB02:=ab hb02;have HC:=ab (jE [v] oA 1 oc w2 (by simp only[ao];omega) (HK.out.below hb02));have HROW:=ab hrow;have HX2:=ab hc2';have HON2:=ab hon2;have hgg:w2.heap[g]? =W.heap[g]? :=hon2.keep g HN.out.hi (fun e=>(HAP.out g e).2.2 rfl);have hwkk:w2.heap[wk]? =W.heap[wk]? :=hon2.keep wk (by have:=HWK.out;have:=HH1.out;have:=HH2.out;omega) (fun e=>by have:=(HAP.out wk e).1;have:=HWK.out;have:=HH1.out;omega);have d3:w2.cell? ⟨g,o+3,none⟩=some (.slice (some ⟨gA,0,none⟩) (m+1) c):=(World.cell?_of_block (a:=⟨g,o+3,none⟩) hgg).trans h3;have HGG:=ab hgg;have k2:=(World.cell?_of_block (a:=⟨wk,2,none⟩) hwkk).trans c2;have k3:=(World.cell?_of_block (a:=⟨wk,3,none⟩) hwkk).trans c3;have k6:=(World.cell?_of_block (a:=⟨wk,6,none⟩) hwkk).trans c6;have HWS:Hid (W.heap.size<=w2.heap.size):=hon2.size;clear hrow hgr hc2' hon2 hb02 hgg hwkk;go_wp2_with fail;refine hK.out _ _ (fun _=>?_) (fun hH1=>?_)
 .exact⟨d3,k2,k3,k6⟩
 have hH1:=hH1 (by decide);clear hK K hH0 h3 c2 c3 c6;refine za ?_;refine yy 19 fun K hK=>?_;go_simp;refine HC.out.mono ?_;rintro en w3 ⟨vA,vc,rfl,hf,hb3⟩;have HB3:=ab hb3;obtain⟨vs,R2,hvo,hvc,hv2,hv3⟩:=hf.cellsN hb3.size;obtain⟨vb,rfl,hvb,hone⟩:=NL hvo hvc.one;have HV2:=ab hv2;have HVC:=ab hvc;have HON:=ab hone;have HVB:=ab hvb;clear hf hb3 hvo hvc hv2 hv3 hone hvb;go_wp2_with fail;refine hK.out _ _ (fun _=>?_) (fun hH2=>?_)
 .exact⟨ac HB3.out d3,ac HB3.out k2,ac HB3.out k3,ac HB3.out k6⟩
 have hH2:=hH2 (by decide);clear hK K;refine za ?_;refine yy 20 fun K hK=>?_;go_simp;have hll:(ks.take at_++ks.drop (at_+1)).length=m:=(by have:=MS HAT.out;have:=HM.out;omega);have HLL:=ab hll;refine(NR _ vs B (some ⟨gA,0,none⟩) m c far vb vc w3 (bM HROW.out HB3.out (ah _)) hm1 hfarm HON.out (fun q hq=>by have:=(HAP.out q hq).2.1;have:=HVB.out;have:=HWS.out;omega) (by have:=HB3.out.size;have:=HH2.out;have:=HWS.out;omega) HX2.out.one).mono ?_;rintro en w4 ⟨A',c',rfl,hrow,hgr,hfr⟩;have HT:=ab (No (n0:=m) HN.out HR.out HH2.out HON2.out rfl HX2.out HB3.out HVC.out HV2.out HVB.out (by rw[HLL.out];exact hfarm) HLL.out.symm hrow hgr hfr);have hgg:w4.heap[g]? =W.heap[g]? :=by have hgl:=HN.out.hi;have:=HWS.out;rw[hgr.block g (by have:=HB3.out.size;omega) (fun e=>(HAP.out g e.symm).2.2 rfl),HB3.out.block g (by omega)];exact HGG.out
 have e3:w4.cell? ⟨g,o+3,none⟩=some (.slice (some ⟨gA,0,none⟩) (m+1) c):=by rw[World.cell?_of_block (a:=⟨g,o+3,none⟩) (hgg.trans HGG.out.symm)];exact d3
 have f3:w4.frozen? ⟨g,o+3,none⟩=false:=JZ HN.out hgg (by omega);have hwkk:w4.heap[wk]? =w2.heap[wk]? :=by have h5:=HWK.out;have h6:=HH1.out;have h7:=HH2.out;have h8:=HWS.out;rw[hgr.block wk (by have:=HB3.out.size;omega) (fun e=>by have:=(HAP.out wk e.symm).1;omega),HB3.out.block wk (by omega)]
 have e2:=(World.cell?_of_block (a:=⟨wk,2,none⟩) hwkk).trans k2;have e4:=(World.cell?_of_block (a:=⟨wk,3,none⟩) hwkk).trans k3;have e6:=(World.cell?_of_block (a:=⟨wk,6,none⟩) hwkk).trans k6;clear hrow hgr hfr hgg hwkk hll;go_wp2_with fail;refine hK.out _ _ (fun _=>?_) (fun hH3=>?_)
 .exact⟨e3,e2,e4,e6⟩
 have hH3:=hH3 (by decide);clear hK K;refine za ?_;refine yy 21 fun K hK=>?_;go_simp;refine hK.out _ _ (fun _=>hH3) (fun _=>?_);clear hK K;refine za ?_;refine ec 22 ?_;refine yy 23 fun K hK=>?_;go_simp;refine hK.out _ _ (fun h=>absurd rfl h) (fun _=>?_);clear hK K;refine za ?_;refine LO ?_ (by kernel_rfl) _;refine NoPanic.normal ?_;exact bodyPost_end (v:=.tuple #[]) (by simp[results,Tryz.results108,go_sem]) rfl ⟨rfl,HT.out⟩
theorem RO{W w1:World}{B g o:Nat}{u v:ag}{Ru:List Value}{A:Option Addr}{c:Nat}(hN:Cu W B u g o Ru)(hB:B<=W.heap.size)(hb1:Below W.heap.size W w1)(hk:ce (cX w1 W.heap.size) v.kids A v.kids.length c)(b1:v.kind<=255)(b2:v.text.length<=maxLen)(b3:tw v.num):Ec W ((((w1.setCell ⟨g,o,none⟩ (.int .u8 v.kind)).setCell ⟨g,o+1,none⟩ (.string (sb v.text))).setCell ⟨g,o+2,none⟩ (.int .i64 v.num)).setCell ⟨g,o+3,none⟩ (.slice A v.kids.length c)) B v g o Ru:=by
 have hlo:=hN.lo;have hhi:=hN.hi;obtain⟨A0,c0,t0,t1,t2,t3,_⟩:=hN.at_.parts;have hcell:∀i x,(cX W B).cell? ⟨g,i,none⟩=some x->w1.cell? ⟨g,i,none⟩=some x:=fun i x hx=>ac hb1 (i8.1 hx).2;have hne:∀p q,p≠q->(⟨g,p,none⟩:Addr)≠⟨g,q,none⟩:=fun p q hq e=>hq (by injection e);refine⟨?_,?_,fun q i hq hn _=>?_⟩
 .refine cJ.of (i8.2 ⟨hlo,am (hne _ _ (by omega)) (am (hne _ _ (by omega)) (am (hne _ _ (by omega)) (set_self (hcell _ _ t0))))⟩) (i8.2 ⟨hlo,am (hne _ _ (by omega)) (am (hne _ _ (by omega)) (set_self (am (hne _ _ (by omega)) (hcell _ _ t1))))⟩)
   (i8.2 ⟨hlo,am (hne _ _ (by omega)) (set_self (am (hne _ _ (by omega)) (am (hne _ _ (by omega)) (hcell _ _ t2))))⟩) (i8.2 ⟨hlo,set_self (am (hne _ _ (by omega)) (am (hne _ _ (by omega)) (am (hne _ _ (by omega)) (hcell _ _ t3))))⟩) (ce.keep (fun a y hy=>?_) hk) b1 b2 b3
  obtain⟨g1,g2⟩:=i8.1 hy;have hng:∀q,a≠(⟨g,q,none⟩:Addr):=fun q e=>by have g3:W.heap.size<=g:=(by rw[e] at g1;exact g1);omega
  exact i8.2 ⟨by omega,am (hng _) (am (hng _) (am (hng _) (am (hng _) g2)))⟩
 .exact((((hb1.mono hB).setCell hlo _).setCell hlo _).setCell hlo _).setCell hlo _
 .have hng:∀j,o<=j->j<o+4->(⟨g,j,none⟩:Addr)≠⟨q,i,none⟩:=fun j h1 h2 e=>hn (by injection e with e1 e2;exact⟨e1.symm,by omega,by omega⟩);rw[World.cell?_setCell_other _ _ _ _ (hng _ (by omega) (by omega)),World.cell?_setCell_other _ _ _ _ (hng _ (by omega) (by omega)),World.cell?_setCell_other _ _ _ _ (hng _ (by omega) (by omega)),World.cell?_setCell_other _ _ _ _ (hng _ (by omega) (by omega))];exact World.cell?_of_block (a:=⟨q,i,none⟩) (hb1.block q hq)
theorem QF(wk:Nat)(v:ag)(nA:Option Addr)(nc:Nat)(w0:World)(u:ag)(hc7:w0.cell? ⟨wk,7,none⟩=some (.slice nA 1 nc))(hK:ce w0 [v] nA 1 nc)(hv:v.sz<=1000000):EP 107 wk w0 u v:=by
 intro W B g o Ru h1 h2 hb hN;have c7:=ac hb hc7;have HC:=ab (jE [v] nA 1 nc W (by simp only[ao];omega) (hK.below hb));have HN:=ab hN;have HH2:=ab h2;clear hc7 hK hb hN
 go_in
 go_wp2_with fail;refine HC.out.mono ?_;rintro en w1 ⟨vA,vc,rfl,hf,hb1⟩;obtain⟨b',o',v',rfl,hv',hat⟩:=hf.1.get (i:=0) (by omega);obtain rfl:v=v':=(by simpa using hv');obtain⟨A1,c1,t0,t1,t2,t3,hkk,b1,b2,b3⟩:=hat.parts;have HT:=ab (RO HN.out HH2.out hb1 hkk b1 b2 b3);rw[Nat.zero_mul,Nat.add_zero] at t0 t1 t2 t3;obtain⟨_,t0⟩:=i8.1 t0;obtain⟨_,t1⟩:=i8.1 t1;obtain⟨_,t2⟩:=i8.1 t2;obtain⟨_,t3⟩:=i8.1 t3;obtain⟨A0,c0,s0,s1,s2,s3,_⟩:=HN.out.at_.parts;have q0:=ac hb1 (i8.1 s0).2;have q1:=ac hb1 (i8.1 s1).2;have q2:=ac hb1 (i8.1 s2).2;have q3:=ac hb1 (i8.1 s3).2;have hgb:=hb1.block g HN.out.hi;have f0:=JZ HN.out hgb (i:=0) (by omega);have f1:=JZ HN.out hgb (i:=1) (by omega);have f2:=JZ HN.out hgb (i:=2) (by omega);have f3:=JZ HN.out hgb (i:=3) (by omega);rw[Nat.add_zero] at f0;clear hf hb1 hv' hat hkk b1 b2 b3 s0 s1 s2 s3 hgb;go_wp2_with fail
 trace_state
 exact bodyPost_end (v:=.tuple #[]) (by simp[results,Tryz.results107,go_sem]) rfl ⟨rfl,HT.out⟩
theorem cf.lowS{w:World}{B B':Nat}{t:ag}{k:Nat}{s:ByteArray}{x:Int}{A:Option Addr}{n c:Nat}(h:cf (cX w B) t k s x A n c)(hB:B'<=B):cf (cX w B') t k s x A n c:=h.keep fun a v hc=>by obtain⟨h1,h2⟩:=i8.1 hc;exact i8.2 ⟨by omega,h2⟩
def JQ(k:Nat):Bool:=k == 1 || k == 3 || k == 5
theorem QL(k:Nat)(w:World):Calls Tryz.prog 165 #[.int .u8 k] w (ak (JQ k) w):=by
 have HK:=ab (qn.new w #[.int .u8 1,.int .u8 3,.int .u8 5] 22 (by rfl) (by decide));have HR:Hid (gG [1,3,5] k=JQ k):=by show _=_;unfold gG JQ;rw[Bool.eq_iff_iff];simp[or_assoc]
 go_in
 go_wp2_with fail;refine(xY [1,3,5] _ _ _ _ _ HK.out).mono ?_;rintro e w' ⟨rfl,rfl⟩;rw[HR.out];go_wp2;go_ret;exact ak.intro rfl ((ai _ _).alloc (ah _) _)
def kx(m:Nat)(zs:List Int):Bool:=zs.any fun z=>decide ((m:Int)<z)
theorem O9(args:Array Value)(w:World):(callFunc 166 args).run Tryz.prog w= .ok (.enter 166 args) w:=eH Tryz.func166 (by kernel_rfl) (by kernel_rfl) args w
theorem NO(z:Int)(bx m c:Nat)(A:Option Addr)(w:World)(hc:w.cell? ⟨bx,3,none⟩=some (.slice A m c)):Calls Tryz.prog 166 #[.int .i64 z,.pointer (some ⟨bx,0,none⟩)] w fun e w'=>e= .returned (.bool (decide ((m:Int)<z)))/\w=w':=by
 go_in
 go_wp2;go_ret;exact⟨rfl,rfl⟩
theorem Pg{m:Nat}{zs:List Int}{j:Nat}{z:Int}(h:kx m zs=kx m (zs.drop j))(hz:zs[j]? =some z):kx m zs=(decide ((m:Int)<z) || kx m (zs.drop (j+1))):=by obtain⟨h1,h2⟩:=gl.1 hz;rw[h,List.drop_eq_getElem_cons h1,h2];rfl
def Kv(b:Bool)(w:World)(e:Ending)(w':World):Prop:=w'=w/\∃i:Int,e= .returned (.int .i64 i)/\(0<=i↔b=true)
theorem Kv.intro{b:Bool}{w:World}{i:Int}(h:0<=i↔b=true):Kv b w (.returned (.int .i64 i)) w:=⟨rfl,i,rfl,h⟩
theorem Qw(zs:List Int)(A:Option Addr)(n c bx m c':Nat)(K:Option Addr)(w:World)(hx:cc w zs A n c)(hc:w.cell? ⟨bx,3,none⟩=some (.slice K m c')):Calls Tryz.prog 171 #[.slice A n c,.func (.func 166) #[] #[.pointer (some ⟨bx,0,none⟩)]] w (Kv (kx m zs) w):=by
 have HX:=ab hx;have HC:=ab hc;have hnn:n<=9223372036854775807:=(by have h1:=hx.2.1;have h2:=hx.2.2.1;unfold maxLen at h2;omega);have HL:Hid (n=zs.length):=hx.1;have hcf:=O9;clear hx hc
 go_in
 go_wp2_with fail;go_loopw [8] (fun i wr=>∃j:Nat,j<=n/\i= .int .i64 j/\w=wr/\Hid (kx m zs=kx m (zs.drop j))) (fun i _=>n - (intOf i).toNat);case atStart=>exact⟨0,aE _,rfl,rfl,rfl⟩
 case round=>
  obtain⟨j,hj,rfl,rfl,HI⟩:=hrel;by_cases hlt:j<n
  .obtain⟨b,o,x,rfl,hxx,q0⟩:=HX.out.get hlt;have HST:=ab (Pg HI.out hxx);clear hxx;cases hn:decide ((m:Int)<x) with
   |false=>
    have HN:Hid (kx m zs=kx m (zs.drop (j+1))):=(by show _=_;rw[HST.out,hn];rfl);have HD:=ab hn;clear hn;go_wp2_with fail;refine(NO x bx m c' K _ HC.out).mono ?_;rintro e w3 ⟨rfl,rfl⟩;rw[HD.out];go_wp2;go_roundw;case rel=>exact⟨j+1,by omega,by go_num,(by first|exact trivial|exact rfl),HN⟩
    case measure=>simp[intOf];omega
   |true=>have HV:Hid (kx m zs=true):=(by show _=_;rw[HST.out,hn];rfl);have HD:=ab hn;clear hn;go_wp2_with fail;refine(NO x bx m c' K _ HC.out).mono ?_;rintro e w3 ⟨rfl,rfl⟩;rw[HD.out];go_wp2;go_ret;exact Kv.intro (by rw[HV.out];simp)
  .have HV:Hid (kx m zs=false):=by show _=_;have e1:=HL.out;rw[HI.out,List.drop_eq_nil_of_le (by omega)];rfl
   go_wp2_with fail;go_ret;exact Kv.intro (by rw[HV.out];simp)
theorem Qg(zs:List Int)(A:Option Addr)(n c bx m c':Nat)(K:Option Addr)(w:World)(hx:cc w zs A n c)(hc:w.cell? ⟨bx,3,none⟩=some (.slice K m c')):Calls Tryz.prog 109 #[.slice A n c,.func (.func 166) #[] #[.pointer (some ⟨bx,0,none⟩)]] w fun e w'=>e= .returned (.bool (kx m zs))/\w=w':=by
 have HX:=ab hx;have HC:=ab hc;clear hx hc
 go_in
 go_wp2_with fail;refine(Qw zs _ _ _ _ _ _ _ _ HX.out HC.out).mono ?_;rintro e w1 ⟨rfl,i,rfl,hi⟩;have HI:=ab hi;clear hi;go_wp2;go_ret;exact⟨dg (by rw[Bool.eq_iff_iff,<-HI.out];simp),rfl⟩
def ie(t:ag)(p zs:List Int):Except Nat ag:=match t.sub p with
 |none=>.error 6
 |some l=>if JQ l.kind && !kx l.kids.length zs then .ok l else .error 6
def Jh(r:Except Nat ag)(w:World)(e:Ending)(w':World):Prop:=Below w.heap.size w w'/\match r with
 | .error n=>∃(k:Nat) (s:ByteArray) (x:Int) (A:Option Addr) (n' c:Nat),e= .returned (.tuple #[.agg #[.int .u8 k,.string s,.int .i64 x,.slice A n' c],.int .i64 n])
 | .ok t=>∃(k:Nat) (s:ByteArray) (x:Int) (A:Option Addr) (n c:Nat),e= .returned (.tuple #[.agg #[.int .u8 k,.string s,.int .i64 x,.slice A n c],.int .i64 0])/\cf (cX w' w.heap.size) t k s x A n c
theorem Jh.err{r:Except Nat ag}{w w':World}{n k:Nat}{s:ByteArray}{x:Int}{A:Option Addr}{n' c:Nat}(h:r= .error n)(hb:Below w.heap.size w w'):Jh r w (.returned (.tuple #[.agg #[.int .u8 k,.string s,.int .i64 x,.slice A n' c],.int .i64 n])) w':=by subst h;exact⟨hb,k,s,x,A,n',c,rfl⟩
theorem Jh.ok{r:Except Nat ag}{w w':World}{t:ag}{k:Nat}{s:ByteArray}{x:Int}{A:Option Addr}{n c:Nat}(h:r= .ok t)(hb:Below w.heap.size w w')(hN:cf (cX w' w.heap.size) t k s x A n c):Jh r w (.returned (.tuple #[.agg #[.int .u8 k,.string s,.int .i64 x,.slice A n c],.int .i64 0])) w':=by subst h;exact⟨hb,k,s,x,A,n,c,rfl,hN⟩
theorem K8{W:World}{t:Array Value}{Q:Ending->World->Prop}{b:Nat}{n:Int}{v0 v1 v2 v3:Value}(h2:t[4]? =some (.pointer (some ⟨b,0,none⟩)))(h3:t[5]? =some (.int .i64 n))(c0:W.cell? ⟨b,0,none⟩=some v0)(c1:W.cell? ⟨b,1,none⟩=some v1)(c2:W.cell? ⟨b,2,none⟩=some v2)(c3:W.cell? ⟨b,3,none⟩=some v3)(h:Q (.returned (.tuple #[.agg #[v0,v1,v2,v3],.int .i64 n])) W):bodyPost Tryz.prog Tryz.f99 Q Exit.ret { tmps:=t,defers:=[] } W:=by
 have hres:(results Tryz.f99 t).run Tryz.prog W= .ok (.tuple #[.agg #[v0,v1,v2,v3],.int .i64 n]) W:=by simp[results,Tryz.results99,go_sem,h2,h3,c0,c1,c2,c3]
 exact bodyPost_ret hres rfl h
theorem NN(T:ag)(x0 x2 x3 x4 x5 x6 x7:Value)(p:List Int)(pA:Option Addr)(pn pc:Nat)(k:Nat)(s:ByteArray)(x:Int)(A:Option Addr)(n c:Nat)(zs:List Int)(zA:Option Addr)(zn zc:Nat)(w:World)(hN:cf w T k s x A n c)(hsz:T.sz<=1000000)(hp:cc w p pA pn pc)(hz:cc w zs zA zn zc):Calls Tryz.prog 99 #[.agg #[x0,.slice pA pn pc,x2,x3,x4,x5,x6,x7,.int .u8 k,.string s,.int .i64 x,.slice A n c],.slice zA zn zc] w (Jh (ie T p zs) w):=by
 have hb0:Below w.heap.size w ((w.alloc (.cells #[x0,.slice pA pn pc,x2,x3,x4,x5,x6,x7,.int .u8 k,.string s,.int .i64 x,.slice A n c] 83)).alloc (.cells #[.int .u8 0,.string ⟨#[]⟩,.int .i64 0,.slice none 0 0] 25)):=((ai _ _).alloc (ah _) _).alloc (by simp) _;have HB0:=ab hb0;have HR0:Hid (((w.alloc (.cells #[x0,.slice pA pn pc,x2,x3,x4,x5,x6,x7,.int .u8 k,.string s,.int .i64 x,.slice A n c] 83)).alloc (.cells #[.int .u8 0,.string ⟨#[]⟩,.int .i64 0,.slice none 0 0] 25)).heap[w.heap.size+1]? =some (.cells #[.int .u8 0,.string ⟨#[]⟩,.int .i64 0,.slice none 0 0] 25 (0,0))):=aQ (by simp);have HG:=ab (Mk T k s x A n c p pA pn pc _ hsz (hN.below hb0) (hp.below hb0));have HZ:=ab hz;clear hb0 hN hp hz
 go_in
 go_wp2_with fail;refine HG.out.mono ?_;rintro e w1 ⟨hb1,hpost⟩;have HB1:=af HB0.out hb1;have HR1:=(hb1.block _ (by simp)).trans HR0.out;cases hs:T.sub p with
 |none=>rw[hs] at hpost;simp only at hpost;subst hpost;have HRES:Hid (ie T p zs= .error 6):=(by show _=_;unfold ie;rw[hs]);have hq:Below w1.heap.size w1 (w1.alloc (.cells #[.int .u8 0,.string ⟨#[]⟩,.int .i64 0,.slice none 0 0] 25)):=bz_alloc (ai _ _) _;have hgf:=heap_alloc_new w1 (.cells #[.int .u8 0,.string ⟨#[]⟩,.int .i64 0,.slice none 0 0] 25);have HB2:=af HB1 hq;have HR2:=(hq.block _ (aK.1 HR1).1).trans HR1;clear hq hs hb1 HB1 HR1 HB0 HR0;go_upto_region 2 with fail;generalize w1.alloc (.cells #[.int .u8 0,.string ⟨#[]⟩,.int .i64 0,.slice none 0 0] 25)=W at hgf HB2 HR2 ⊢;have HGF:=ab hgf;have HBW:=ab HB2;have HRW:=ab HR2;clear hgf HB2 HR2;obtain⟨r0,r1,r2,r3,_⟩:=di HGF.out;obtain⟨q0,q1,q2,q3,f0,f1,f2,f3⟩:=di HRW.out;go_wp2_with fail;obtain⟨a0,a1,a2,a3,hb9⟩:=CY (v0:=.int .u8 0) (v1:=.string ⟨#[]⟩) (v2:=.int .i64 0) (v3:=.slice none 0 0) HRW.out HBW.out (by omega);exact K8 (b:=w.heap.size+1) rfl rfl a0 a1 a2 a3 (Jh.err (k:=0) HRES.out hb9)
 |some l=>
  rw[hs] at hpost;obtain⟨k1,s1,y1,A1,n1,c1,rfl,hn1⟩:=hpost;have HRES:Hid (ie T p zs=if JQ l.kind && !kx l.kids.length zs then .ok l else .error 6):=(by show _=_;unfold ie;rw[hs]);have hq:Below w1.heap.size w1 (w1.alloc (.cells #[.int .u8 k1,.string s1,.int .i64 y1,.slice A1 n1 c1] 25)):=bz_alloc (ai _ _) _;have hgf:=heap_alloc_new w1 (.cells #[.int .u8 k1,.string s1,.int .i64 y1,.slice A1 n1 c1] 25);have HB2:=af HB1 hq;have HR2:=(hq.block _ (aK.1 HR1).1).trans HR1;have HN2:=(hn1.lowS (by simp:w.heap.size+2<=_)).sinceBelow hq;obtain⟨ks1,el,_,_,_,hk1,_⟩:=hn1;have hlk:l.kind=k1:=(by rw[el];rfl);have hll:l.kids.length=n1:=(by rw[el];exact hk1.symm);rw[hlk,hll] at HRES;clear hq hs hb1 HB1 HR1 HB0 HR0 el hk1;go_upto_region 2 with fail;generalize w1.alloc (.cells #[.int .u8 k1,.string s1,.int .i64 y1,.slice A1 n1 c1] 25)=W at hgf HB2 HR2 HN2 ⊢;have HGF:=ab hgf;have HBW:=ab HB2;have HRW:=ab HR2;have HNW:=ab HN2;clear hgf HB2 HR2 HN2;obtain⟨r0,r1,r2,r3,_⟩:=di HGF.out;go_wp2_with fail;refine(QL k1 W).mono ?_;rintro e w3 ⟨rfl,hb3⟩;have HB3:=ab (af HBW.out hb3);have HR3:=ab ((hb3.block _ (aK.1 HRW.out).1).trans HRW.out);have HG3:=ab ((hb3.block _ (aK.1 HGF.out).1).trans HGF.out);have HN3:=ab (HNW.out.sinceBelow hb3);clear hb3 HBW HRW HGF HNW r0 r1 r2 r3;obtain⟨r0,r1,r2,r3,_⟩:=di HG3.out;obtain⟨q0,q1,q2,q3,f0,f1,f2,f3⟩:=di HR3.out;cases hk:JQ k1 with
  |false=>have HRES2:Hid (ie T p zs= .error 6):=(by rw[HRES.out,hk];exact ab rfl);clear hk;go_wp2_with fail;obtain⟨a0,a1,a2,a3,hb9⟩:=CY (v0:=.int .u8 k1) (v1:=.string s1) (v2:=.int .i64 y1) (v3:=.slice A1 n1 c1) HR3.out HB3.out (by omega);exact K8 (b:=w.heap.size+1) rfl rfl a0 a1 a2 a3 (Jh.err HRES2.out hb9)
  |true=>
   have HKK:=ab hk;clear hk;go_wp2_with fail;refine(Qg zs zA zn zc _ n1 c1 A1 w3 (HZ.out.below HB3.out) r3).mono ?_;rintro e w4 ⟨rfl,rfl⟩;cases hf:kx n1 zs with
   |true=>have HRES2:Hid (ie T p zs= .error 6):=(by rw[HRES.out,HKK.out,hf];exact ab rfl);clear hf;go_wp2_with fail;obtain⟨a0,a1,a2,a3,hb9⟩:=CY (v0:=.int .u8 k1) (v1:=.string s1) (v2:=.int .i64 y1) (v3:=.slice A1 n1 c1) HR3.out HB3.out (by omega);exact K8 (b:=w.heap.size+1) rfl rfl a0 a1 a2 a3 (Jh.err HRES2.out hb9)
   |false=>have HRES2:Hid (ie T p zs= .ok l):=(by rw[HRES.out,HKK.out,hf];exact ab rfl);clear hf;go_wp2_with fail;obtain⟨a0,a1,a2,a3,hb9⟩:=CY (v0:=.int .u8 k1) (v1:=.string s1) (v2:=.int .i64 y1) (v3:=.slice A1 n1 c1) HR3.out HB3.out (by omega);exact K8 (b:=w.heap.size+1) rfl rfl a0 a1 a2 a3 (Jh.ok HRES2.out hb9 HN3.out.sincePut4)
def jc(t:ag)(p zs:List Int)(at_:Nat)(o:ag):Nat:=match ie t p zs with
 | .error n=>n
 | .ok l=>match l.kids[at_]? with
  |some u=>if u.same o then 0 else 121
  |none=>121
def OO(r:Nat)(w:World)(e:Ending)(w':World):Prop:=e= .returned (.int .i64 r)/\Below w.heap.size w w'
theorem KC{t:ag}{p zs:List Int}{n:Nat}(h:ie t p zs= .error n):n=6:=by
 unfold ie at h;split at h
 .injection h with h;exact h.symm
 .split at h
  .cases h
  .injection h with h;exact h.symm
theorem PU{t l:ag}{p zs:List Int}{at_:Nat}(h:ie t p zs= .ok l)(hz:((at_:Int)+1)∈zs):at_<l.kids.length:=by
 unfold ie at h;split at h
 .cases h
 .split at h
  .rename_i hc;injection h with h;subst h;simp only[Bool.and_eq_true,Bool.not_eq_true',kx,List.any_eq_false,decide_eq_true_eq] at hc;have:=hc.2 _ hz;omega
  .cases h
theorem NP(T o:ag)(x0 x3 x4 x5 x7:Value)(p:List Int)(pA:Option Addr)(pn pc at_:Nat)(oA:Option Addr)(oc:Nat)(k:Nat)(s:ByteArray)(x:Int)(A:Option Addr)(n c:Nat)(zs:List Int)(zA:Option Addr)(zn zc:Nat)(w:World)(hN:cf w T k s x A n c)(hsz:T.sz<=1000000)(hp:cc w p pA pn pc)(hz:cc w zs zA zn zc)(ho:ce w [o] oA 1 oc)(hat:((at_:Int)+1)∈zs):Calls Tryz.prog 103 #[.agg #[x0,.slice pA pn pc,.int .i64 at_,x3,x4,x5,.slice oA 1 oc,x7,.int .u8 k,.string s,.int .i64 x,.slice A n c],.slice zA zn zc] w (OO (jc T p zs at_ o) w):=by
 have hb0:Below w.heap.size w (w.alloc (.cells #[x0,.slice pA pn pc,.int .i64 at_,x3,x4,x5,.slice oA 1 oc,x7,.int .u8 k,.string s,.int .i64 x,.slice A n c] 83)):=bz_alloc (ai _ _) _;have HB0:=ab hb0;have HW0:Hid ((w.alloc (.cells #[x0,.slice pA pn pc,.int .i64 at_,x3,x4,x5,.slice oA 1 oc,x7,.int .u8 k,.string s,.int .i64 x,.slice A n c] 83)).heap[w.heap.size]? =some (.cells #[x0,.slice pA pn pc,.int .i64 at_,x3,x4,x5,.slice oA 1 oc,x7,.int .u8 k,.string s,.int .i64 x,.slice A n c] 83 (0,0))):=heap_alloc_new _ _;have HL:=ab (NN T x0 (.int .i64 at_) x3 x4 x5 (.slice oA 1 oc) x7 p pA pn pc k s x A n c zs zA zn zc _ (hN.below hb0) hsz (hp.below hb0) (hz.below hb0));have HO:=ab ho;have HAT:=ab hat;clear hb0 hN hp hz ho hat hsz;obtain⟨⟨e0,e1,e2,e3,e4,e5,e6,e7,e8,e9,e10,e11⟩,_⟩:=cr HW0.out
 go_in
 go_wp2_with fail;refine HL.out.mono ?_;rintro en w1 ⟨hb1,hpost⟩;have HB1:=af HB0.out hb1;have HW1:=(hb1.block _ (aK.1 HW0.out).1).trans HW0.out;clear e0 e1 e2 e3 e4 e5 e6 e7 e8 e9 e10 e11 HL;cases hl:ie T p zs with
 |error m=>have hm:=KC hl;subst hm;rw[hl] at hpost;obtain⟨k1,s1,y1,A1,n1,c1,rfl⟩:=hpost;have HRES:Hid (jc T p zs at_ o=6):=(by show _=_;unfold jc;rw[hl]);have hq:Below w1.heap.size w1 (w1.alloc (.cells #[.int .u8 k1,.string s1,.int .i64 y1,.slice A1 n1 c1] 25)):=bz_alloc (ai _ _) _;have HB2:=ab (af HB1 hq);clear hl HB1 HW1 hb1 hq;go_upto_region 2 with fail;generalize w1.alloc (.cells #[.int .u8 k1,.string s1,.int .i64 y1,.slice A1 n1 c1] 25)=W at HB2 ⊢;refine wp_region_noPanic ?_;refine wp_region_held_drew (S:=fun _=>True) (by kernel_rfl) trivial fun hH0=>?_;refine ae 0 ?_;refine ae 1 ?_;refine ae 2 ?_;refine az 3 ?_;refine az 4 ?_;refine az 5 ?_;refine az 6 ?_;refine az 7 ?_;refine az 8 ?_;refine az 9 ?_;refine az 10 ?_;refine az 11 ?_;refine az 12 ?_;refine az 13 ?_;refine az 14 ?_;refine az 15 ?_;refine az 16 ?_;refine ae 17 ?_;refine wpAnyH_done (by kernel_rfl) ?_ _;refine NoPanic.normal ?_;clear hH0;go_wp2_with fail;go_ret;exact⟨by rw[HRES.out];rfl,ua HB2.out⟩
 |ok l=>
  rw[hl] at hpost;obtain⟨k1,s1,y1,A1,n1,c1,rfl,hn1⟩:=hpost;have hlt:=PU hl HAT.out;have hq:Below w1.heap.size w1 (w1.alloc (.cells #[.int .u8 k1,.string s1,.int .i64 y1,.slice A1 n1 c1] 25)):=bz_alloc (ai _ _) _;have hgf:=heap_alloc_new w1 (.cells #[.int .u8 k1,.string s1,.int .i64 y1,.slice A1 n1 c1] 25);have HB2:=af HB1 hq;have HW2:=(hq.block _ (aK.1 HW1).1).trans HW1;obtain⟨ks1,el,_,_,_,hk1⟩:=(hn1.since).below hq;have hle:l.kids=ks1:=(by rw[el];rfl);rw[hle] at hlt;have hlt2:at_<n1:=(by rw[hk1.1];exact hlt);obtain⟨b,of,u,rfl,hu,hau⟩:=hk1.get (i:=at_) hlt2;have HRES:Hid (jc T p zs at_ o=if u.same o then 0 else 121):=(by show _=_;unfold jc;rw[hl];simp only;rw[hle,hu]);clear hq hl HB1 HW1 hb1 hn1 el hle hlt;go_upto_region 2 with fail;generalize w1.alloc (.cells #[.int .u8 k1,.string s1,.int .i64 y1,.slice (some ⟨b,of,none⟩) n1 c1] 25)=W at hgf HB2 HW2 hk1 hau ⊢;have HGF:=ab hgf;have HBW:=ab HB2;have HWW:=ab HW2;obtain⟨b',of',u',rfl,hu',hao⟩:=(HO.out.below HBW.out).get (i:=0) (by omega);obtain rfl:o=u':=(by simpa using hu');obtain⟨Au,cu,k0,k1',k2,k3,hnu⟩:=hau.cells;obtain⟨Ao,co,o0,o1,o2,o3,hno⟩:=hao.cells;have HSM:=ab (fun(W':World) (h:Below W.heap.size W W')=>yV u o _ _ _ _ _ _ _ _ _ _ _ _ W' (hnu.below h) (hno.below h));obtain⟨r0,r1,r2,r3,_⟩:=di HGF.out;obtain⟨⟨e0,e1,e2,e3,e4,e5,e6,e7,e8,e9,e10,e11⟩,_⟩:=cr HWW.out;have hn1m:n1<=9223372036854775807:=(by have h1:=hk1.2.1;have h2:=hk1.2.2.1;unfold maxLen at h2;omega);rw[Nat.zero_mul,Nat.add_zero] at o0 o1 o2 o3;clear hgf HB2 HW2 hk1 hau hao hnu hno hu hu' r0 r1 r2 e0 e1 e3 e4 e5 e7 e8 e9 e10 e11;refine wp_region_noPanic ?_;refine wp_region_held_drew (S:=fun w'=>(w'.cell? ⟨w.heap.size,2,none⟩=some (.int .i64 at_)/\w'.cell? ⟨w.heap.size,6,none⟩=some (.slice (some ⟨b',of',none⟩) 1 oc)/\w'.cell? ⟨w1.heap.size,3,none⟩=some (.slice (some ⟨b,of,none⟩) n1 c1))/\
   (w'.cell? ⟨b,of+at_*4,none⟩=some (.int .u8 u.kind)/\w'.cell? ⟨b,of+at_*4+1,none⟩=some (.string (sb u.text))/\w'.cell? ⟨b,of+at_*4+2,none⟩=some (.int .i64 u.num)/\w'.cell? ⟨b,of+at_*4+3,none⟩=some (.slice Au u.kids.length cu))/\
   (w'.cell? ⟨b',of',none⟩=some (.int .u8 o.kind)/\w'.cell? ⟨b',of'+1,none⟩=some (.string (sb o.text))/\w'.cell? ⟨b',of'+2,none⟩=some (.int .i64 o.num)/\w'.cell? ⟨b',of'+3,none⟩=some (.slice Ao o.kids.length co))) (by kernel_rfl) ⟨⟨e2,e6,r3⟩,⟨k0,k1',k2,k3⟩,⟨o0,o1,o2,o3⟩⟩ fun hH0=>?_
  refine ae 0 ?_;refine ae 1 ?_;refine ae 2 ?_;refine ae 3 ?_;refine ae 4 ?_;refine ae 5 ?_;refine ae 6 ?_;refine ae 7 ?_;refine ae 8 ?_;refine ae 9 ?_;refine ae 10 ?_;refine ae 11 ?_;refine ae 12 ?_;refine ae 13 ?_;refine ae 14 ?_;refine aL 15 fun K hK=>?_;go_simp;refine(HSM.out _ (ua (ai _ _))).mono ?_;rintro en w5 ⟨rfl,hb5⟩;have hb6:Below W.heap.size W w5:=af (ua (ai _ _)) hb5;have HB6:=ab (af HBW.out hb6);go_wp2_with fail;refine hK.out _ _ ?_ (fun hH1=>?_)
  .exact⟨⟨ac hb6 e2,ac hb6 e6,ac hb6 r3⟩,⟨ac hb6 k0,ac hb6 k1',ac hb6 k2,ac hb6 k3⟩,⟨ac hb6 o0,ac hb6 o1,ac hb6 o2,ac hb6 o3⟩⟩
  clear hK K;refine aM ?_;refine ae 16 ?_;refine ae 17 ?_;refine wpAnyH_done (by kernel_rfl) ?_ _;refine NoPanic.normal ?_;clear hH0 hH1 hb5 hb6 e2 e6 r3 k0 k1' k2 k3 o0 o1 o2 o3 HSM;cases hsm:u.same o with
  |true=>have HR2:Hid (jc T p zs at_ o=0):=(by rw[HRES.out,if_pos hsm];exact ab rfl);clear hsm;go_wp2_with fail;go_ret;exact⟨by rw[HR2.out];rfl,HB6.out⟩
  |false=>have HR2:Hid (jc T p zs at_ o=121):=(by rw[HRES.out,if_neg (by rw[hsm];simp)];exact ab rfl);clear hsm;go_wp2_with fail;go_ret;exact⟨by rw[HR2.out];rfl,HB6.out⟩
mutual
def ag.deep:ag->Nat
 | .node _ _ _ ks=>kr ks+1
def kr:List ag->Nat
 |[]=>0
 |t::ts=>max t.deep (kr ts)
end
theorem OY(a b:List ag):kr (a++b)=max (kr a) (kr b):=by
 induction a with
 |nil=>simp[kr]
 |cons t ts ih=>simp only[List.cons_append,kr,ih];omega
theorem OZ{ks:List ag}{j:Nat}{t:ag}(h:ks[j]? =some t):kr (ks.take (j+1))=max (kr (ks.take j)) t.deep:=by obtain⟨h1,h2⟩:=gl.1 h;rw[List.take_succ_eq_append_getElem h1,OY,h2];simp[kr]
mutual
theorem MR:∀t:ag,t.deep<=t.sz
 | .node _ _ _ ks=>by have:=LK ks;simp only[ag.deep,ag.sz];omega
theorem LK:∀ts:List ag,kr ts<=ao ts
 |[]=>ah _
 |t::ts=>by have:=MR t;have:=LK ts;simp only[kr,ao];omega
end
def MA(d:Nat)(w:World)(e:Ending)(w':World):Prop:=e= .returned (.int .i64 d)/\Below w.heap.size w w'
def Ly(m:Nat):Prop:=∀(t:ag) (k:Nat) (s:ByteArray) (x:Int) (A:Option Addr) (n c:Nat) (w:World),t.sz<=m->cf w t k s x A n c->
 Calls Tryz.prog 167 #[.agg #[.int .u8 k,.string s,.int .i64 x,.slice A n c]] w (MA t.deep w)
theorem O0(m:Nat)(hm:m<=1000000)(ih:Hid (Ly m)):Ly (m+1):=by
 intro t k s x A n c w hsz hN;obtain⟨ks,rfl,g1,g2,g3,hK⟩:=hN;have hb0:Below w.heap.size w (w.alloc (.cells #[.int .u8 k,.string s,.int .i64 x,.slice A n c] 25)):=(ai _ _).alloc (ah _) _;have HB0:=ab hb0;have HK:=ab hK;have HLN:Hid (n=ks.length):=hK.1;have hnn:n<=9223372036854775807:=(by have h1:=hK.2.1;have h2:=hK.2.2.1;unfold maxLen at h2;omega);have HSZ:Hid (ao ks<=m):=(by show _<=_;simp only[ag.sz] at hsz;omega);clear hsz hK hb0 g1 g2 g3
 go_in
 go_wp2_with fail;go_loopw [9,3,5] (fun i d q wr=>∃j:Nat,j<=n/\i= .int .i64 j/\d= .int .i64 (kr (ks.take j))/\Hid (Below w.heap.size w wr)) (fun i _ _ _=>n - (intOf i).toNat);case atStart=>exact⟨0,aE _,rfl,rfl,HB0⟩
 case round=>
  obtain⟨j,hj,rfl,rfl,HB⟩:=hrel;have hdl:kr (ks.take j)<=1000000:=by
   have h1:=LK (ks.take j);have h2:ao (ks.take j)<=ao ks:=by
    have:∀(a b:List ag),ao (a++b)=ao a+ao b:=fun a b=>by
     induction a with
     |nil=>simp[ao]
     |cons t ts ih=>simp only[List.cons_append,ao,ih];omega
    have h3:=this (ks.take j) (ks.drop j);rw[List.take_append_drop] at h3;omega
   have h3:=HSZ.out;omega
  by_cases hlt:j<n
  .obtain⟨b,o,t,rfl,ht,hat⟩:=(HK.out.below HB.out).get hlt;obtain⟨A1,c1,q0,q1,q2,q3,hnode⟩:=hat.cells;have HND:=ab hnode;have HNX:=ab (OZ ht);have hst:t.sz<=m:=aJ (jL ht) HSZ.out;have htd:t.deep<=1000000:=aJ (MR t) (aJ hst hm);have HST:=ab hst;clear hnode ht hat hst;go_wp2_with fail;refine(ih.out t _ _ _ _ _ _ _ HST.out (HND.out.below bz)).mono ?_;rintro e w3 ⟨rfl,hb3⟩;have HB3:Hid (Below w.heap.size w w3):=af (af HB.out (bz_alloc (ai _ _) _)) hb3;clear hb3 q0 q1 q2 q3;go_wp2;go_roundw;case rel=>exact⟨j+1,by omega,by go_num,by rw[HNX.out];go_num,HB3⟩
   case measure=>simp[intOf];omega
  .have hjn:j=n:=(by omega);have HRE:Hid (ag.deep (.node k (bl s) x ks)=kr (ks.take j)+1):=by show Hid (kr ks+1=_);rw[List.take_of_length_le (by have:=HLN.out;omega)];exact ab rfl
   generalize kr (ks.take j)=dd at HRE hdl ⊢;go_wp2;go_ret;exact⟨by rw[HRE.out];rfl,HB.out⟩
theorem MQ:∀m,m<=1000000->Ly m
 |0,_=>by intro t k s x A n c w hsz;obtain⟨k0,s0,x0,ks0⟩:=t;simp[ag.sz] at hsz
 |m+1,h=>O0 m (by omega) (ab (MQ m (by omega)))
theorem Qk(t:ag)(k:Nat)(s:ByteArray)(x:Int)(A:Option Addr)(n c:Nat)(w:World)(hsz:t.sz<=1000000)(hN:cf w t k s x A n c):Calls Tryz.prog 167 #[.agg #[.int .u8 k,.string s,.int .i64 x,.slice A n c]] w (MA t.deep w):=MQ 1000000 (by omega) t k s x A n c w hsz hN
def jj(t:ag):Except Nat ag:=if 40<t.deep then .error 103 else if (gx t).1≠0 then .error (gx t).1 else .ok t
theorem Mr{W:World}{t:Array Value}{Q:Ending->World->Prop}{b:Nat}{n:Int}{v0 v1 v2 v3:Value}(h2:t[2]? =some (.pointer (some ⟨b,0,none⟩)))(h3:t[3]? =some (.int .i64 n))(c0:W.cell? ⟨b,0,none⟩=some v0)(c1:W.cell? ⟨b,1,none⟩=some v1)(c2:W.cell? ⟨b,2,none⟩=some v2)(c3:W.cell? ⟨b,3,none⟩=some v3)(h:Q (.returned (.tuple #[.agg #[v0,v1,v2,v3],.int .i64 n])) W):bodyPost Tryz.prog Tryz.f100 Q Exit.ret { tmps:=t,defers:=[] } W:=by
 have hres:(results Tryz.f100 t).run Tryz.prog W= .ok (.tuple #[.agg #[v0,v1,v2,v3],.int .i64 n]) W:=by simp[results,Tryz.results100,go_sem,h2,h3,c0,c1,c2,c3]
 exact bodyPost_ret hres rfl h
def JA(N:Nat)(r:Except Nat ag)(w:World)(e:Ending)(w':World):Prop:=Below w.heap.size w w'/\match r with
 | .error n=>e= .returned (.tuple #[.agg #[.int .u8 0,.string ⟨#[]⟩,.int .i64 0,.slice none 0 0],.int .i64 n])
 | .ok t=>∃(k:Nat) (s:ByteArray) (x:Int) (A:Option Addr) (n c:Nat),e= .returned (.tuple #[.agg #[.int .u8 k,.string s,.int .i64 x,.slice A n c],.int .i64 0])/\cf (cX w' N) t k s x A n c
theorem JA.err{N:Nat}{r:Except Nat ag}{w w':World}{n:Nat}(h:r= .error n)(hb:Below w.heap.size w w'):JA N r w (.returned (.tuple #[.agg #[.int .u8 0,.string ⟨#[]⟩,.int .i64 0,.slice none 0 0],.int .i64 n])) w':=by subst h;exact⟨hb,rfl⟩
theorem JA.ok{N:Nat}{r:Except Nat ag}{w w':World}{t:ag}{k:Nat}{s:ByteArray}{x:Int}{A:Option Addr}{n c:Nat}(h:r= .ok t)(hb:Below w.heap.size w w')(hN:cf (cX w' N) t k s x A n c):JA N r w (.returned (.tuple #[.agg #[.int .u8 k,.string s,.int .i64 x,.slice A n c],.int .i64 0])) w':=by subst h;exact⟨hb,k,s,x,A,n,c,rfl,hN⟩
theorem cf.lentPut4{w W:World}{N:Nat}{t:ag}{k:Nat}{s:ByteArray}{x:Int}{A:Option Addr}{n c:Nat}{v0 v1 v2 v3:Value}(h:cf (cX w N) t k s x A n c)(hb:Below w.heap.size w W):cf (cX ((((W.setCell ⟨w.heap.size+1,0,none⟩ v0).setCell ⟨w.heap.size+1,1,none⟩ v1).setCell ⟨w.heap.size+1,2,none⟩ v2).setCell ⟨w.heap.size+1,3,none⟩ v3) N) t k s x A n c:=h.keep fun a v hc=>by
 obtain⟨h1,h2⟩:=i8.1 hc;have hlt:=bK h2;have hne:∀q,a≠(⟨w.heap.size+1,q,none⟩:Addr):=fun q e=>by have g3:w.heap.size+1<w.heap.size:=(by rw[e] at hlt;exact hlt);omega
 exact i8.2 ⟨h1,am (hne _) (am (hne _) (am (hne _) (am (hne _) (ac hb h2))))⟩
theorem Ll(t:ag)(k:Nat)(s:ByteArray)(x:Int)(A:Option Addr)(n c N:Nat)(w:World)(hN:cf (cX w N) t k s x A n c)(hsh:t.short 281474976710656)(hsz:t.sz<=100000)(hE:bI w):Calls Tryz.prog 100 #[.agg #[.int .u8 k,.string s,.int .i64 x,.slice A n c]] w (JA N (jj t) w):=by
 have hb0:Below w.heap.size w ((w.alloc (.cells #[.int .u8 k,.string s,.int .i64 x,.slice A n c] 25)).alloc (.cells #[.int .u8 0,.string ⟨#[]⟩,.int .i64 0,.slice none 0 0] 25)):=((ai _ _).alloc (ah _) _).alloc (by simp) _;have HB0:=ab hb0;have HW0:Hid (((w.alloc (.cells #[.int .u8 k,.string s,.int .i64 x,.slice A n c] 25)).alloc (.cells #[.int .u8 0,.string ⟨#[]⟩,.int .i64 0,.slice none 0 0] 25)).heap[w.heap.size]? =some (.cells #[.int .u8 k,.string s,.int .i64 x,.slice A n c] 25 (0,0))):=(hpo _ _ (by simp)).trans (heap_alloc_new _ _);have HR0:Hid (((w.alloc (.cells #[.int .u8 k,.string s,.int .i64 x,.slice A n c] 25)).alloc (.cells #[.int .u8 0,.string ⟨#[]⟩,.int .i64 0,.slice none 0 0] 25)).heap[w.heap.size+1]? =some (.cells #[.int .u8 0,.string ⟨#[]⟩,.int .i64 0,.slice none 0 0] 25 (0,0))):=aQ (by simp);have HN:=ab hN;have HSZ:=ab hsz;have hck:=ab (DX t k s x A n c _ (hN.since.below hb0) hsh hsz (hE.below hb0 (ah _)));clear hb0 hN hsh hE hsz
 go_in
 go_wp2_with fail;refine hck.out.mono ?_;rintro en w1 ⟨rfl,hb1⟩;have hq:Below w1.heap.size w1 (w1.alloc (.cells #[.int .i64 (gx t).1,.int .i64 (gx t).2] 76)):=(ai _ _).alloc (ah _) _;have hgf:=heap_alloc_new w1 (.cells #[.int .i64 (gx t).1,.int .i64 (gx t).2] 76);have hb2:=hb1.trans (hq.mono hb1.size);have HB2:=af HB0.out hb2;have HW2:=(hb2.block _ (by simp;omega)).trans HW0.out;have HR2:=(hb2.block _ (by simp)).trans HR0.out;have HFB:Hid (w.heap.size+1<w1.heap.size):=(by have:=(aK.1 HR0.out).1;have:=hb1.size;show _<_;omega);clear hq hb2 hb1 hck;go_upto_region 2 with fail;generalize w1.alloc (.cells #[.int .i64 (gx t).1,.int .i64 (gx t).2] 76)=W at hgf HB2 HW2 HR2 ⊢;have HGF:=ab hgf;have HBW:=ab HB2;have HWW:=ab HW2;have HRW:=ab HR2;clear hgf HB2 HW2 HR2 HB0 HW0 HR0;obtain⟨r0,r1,r2,r3,_⟩:=di HWW.out;go_wp2_with fail;refine(Qk t k s x A n c _ (aJ HSZ.out (by omega)) (HN.out.since.below HBW.out)).mono ?_;rintro en w3 ⟨rfl,hb3⟩;have HB3:=ab (af HBW.out hb3);have HW3:=ab ((hb3.block _ (aK.1 HWW.out).1).trans HWW.out);have HR3:=ab ((hb3.block _ (aK.1 HRW.out).1).trans HRW.out);have HG3:=ab ((hb3.block _ (aK.1 HGF.out).1).trans HGF.out);clear hb3 HBW HWW HRW HGF r0 r1 r2 r3;obtain⟨q0,q1,q2,q3,f0,f1,f2,f3⟩:=di HR3.out;obtain⟨r0,r1,r2,r3,_⟩:=di HW3.out;have e0:w3.cell? ⟨w1.heap.size,0,none⟩=some (.int .i64 (gx t).1):=(cell_of_row w3 w1.heap.size 0 _ _ (0,0) HG3.out).trans rfl;by_cases hd:40<t.deep
 .have hd':(40:Int)<t.deep:=(by omega);have HRES:Hid (jj t= .error 103):=(by show _=_;unfold jj;rw[if_pos hd]);clear hd;go_wp2_with fail;obtain⟨a0,a1,a2,a3,hb9⟩:=CY (v0:=.int .u8 0) (v1:=.string ⟨#[]⟩) (v2:=.int .i64 0) (v3:=.slice none 0 0) HR3.out HB3.out (by omega);exact Mr (b:=w.heap.size+1) rfl rfl a0 a1 a2 a3 (JA.err HRES.out hb9)
 .have hd':¬(40:Int)<t.deep:=(by omega);by_cases hc:(gx t).1=0
  .have hci:(((gx t).1:Nat):Int)=0:=(by rw[hc];rfl);rw[hci] at e0;have HRES:Hid (jj t= .ok t):=(by show _=_;unfold jj;rw[if_neg hd,if_neg (by simpa using hc)]);clear hc hci hd;go_wp2_with fail;obtain⟨a0,a1,a2,a3,hb9⟩:=CY (v0:=.int .u8 k) (v1:=.string s) (v2:=.int .i64 x) (v3:=.slice A n c) HR3.out HB3.out (by omega);exact Mr (b:=w.heap.size+1) rfl rfl a0 a1 a2 a3 (JA.ok HRES.out hb9 (HN.out.lentPut4 HB3.out))
  .have hc2:(((gx t).1:Int) != 0)=true:=(by simpa using hc);have hc3:(((gx t).1:Int) == 0)=false:=(by simpa using hc);have HRES:Hid (jj t= .error (gx t).1):=(by show _=_;unfold jj;rw[if_neg hd,if_pos hc]);clear hc hd;have hne1:w1.heap.size≠w.heap.size+1:=(by have:=HFB.out;omega);have hne2:w.heap.size+1≠w1.heap.size:=(by have:=HFB.out;omega);go_wp2_with fail
   go_region
   all_goals
    obtain⟨a0,a1,a2,a3,hb9⟩:=CY (v0:=.int .u8 0) (v1:=.string ⟨#[]⟩) (v2:=.int .i64 0) (v3:=.slice none 0 0) HR3.out HB3.out (by omega);go_wp2_with fail;refine Mr (b:=w.heap.size+1) rfl rfl a0 a1 a2 a3 (JA.err HRES.out ?_);first|with_reducible exact hb9|with_reducible exact ua hb9
end Go.Proofs.YtfipahjodfminaaGreatDoor
