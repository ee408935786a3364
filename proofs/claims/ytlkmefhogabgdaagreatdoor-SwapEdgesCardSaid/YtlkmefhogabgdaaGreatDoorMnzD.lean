/- Part 30 of the proof. -/
import Derived.Test.YtlkmefhogabgdaaGreatDoorMnU
import Derived.Test.YtlkmefhogabgdaaGreatDoorMnzB
import Derived.Test.YtlkmefhogabgdaaGreatDoorMnzC
namespace Go.Proofs.YtlkmefhogabgdaaGreatDoor
open Go.RowKit
set_option linter.all false
set_option maxHeartbeats 40000000
set_option maxRecDepth 100000
theorem dQ{w:World}{b:Nat}{vi vn ve:List Value}{I N E:Value}(h:dD w b vi vn ve I N E)(j:Nat){v:Value}(hv:(iG I N E)[j]? =some v):w.cell? ⟨b,j,none⟩=some v:=(cell_of_row w b j _ _ (0,0) h.box).trans hv
theorem qi{vs:List Value}{w w':World}{T:TypeId}{s:Nat}(hown:∀v∈vs,bd w 0 T s v)(hf:∀q,q<w.heap.size->q∉aW vs->w'.heap[q]? =w.heap[q]?){q:Nat}{cs:Array Value}{T':TypeId}{fr:Nat×Nat}(hq:w.heap[q]? =some (.cells cs T' fr))(hT:T≠T'):w'.heap[q]? =w.heap[q]? :=by refine hf q (aK.1 hq).1 fun hin=>?_;obtain⟨v,hv,e⟩:=eV hin;obtain⟨c,h1⟩:=(hown v hv).block e;rw[h1] at hq;injection hq with hq;injection hq with _ hq;exact hT hq
theorem mq{vs:List Value}{w w':World}{T:TypeId}{s:Nat}(hown:∀v∈vs,bd w 0 T s v)(hf:∀q,q<w.heap.size->q∉aW vs->w'.heap[q]? =w.heap[q]?){B:Nat}{T':TypeId}{s':Nat}{v:Value}{n:Nat}{xs:List Value}(h:w.ownsRow B T' s' v n xs)(hT:T≠T'):w'.ownsRow B T' s' v n xs:=
 eB h fun q e=>by obtain⟨c,h1⟩:=lx h e;exact qi hown hf h1 hT
theorem vh{vs us:List Value}{w w':World}{T:TypeId}{s:Nat}(hown:∀v∈vs,bd w 0 T s v)(hf:∀q,q<w.heap.size->q∉aW vs->w'.heap[q]? =w.heap[q]?){T':TypeId}{s':Nat}(h:∀v∈us,bd w 0 T' s' v)(hT:T≠T'):∀v∈us,bd w' 0 T' s' v:=by intro v hv;obtain⟨n,xs,ho⟩:=h v hv;exact⟨n,xs,mq hown hf ho hT⟩
theorem n9{vs:List Value}{w w':World}{T:TypeId}{s:Nat}(hown:∀v∈vs,bd w 0 T s v)(hf:∀q,q<w.heap.size->q∉aW vs->w'.heap[q]? =w.heap[q]?){b:Nat}{vi vn ve:List Value}{I N E:Value}(h:dD w b vi vn ve I N E)(h0:T≠83)(h1:T≠23)(h2:T≠24)(h3:T≠29):dD w' b vi vn ve I N E:=
 ⟨(qi hown hf h.box h0).trans h.box,mq hown hf h.ints h1,mq hown hf h.nodes h2,mq hown hf h.edits h3⟩
theorem Ag{w w':World}{vs:List Value}{T:TypeId}{s:Nat}(h:∀v∈vs,bd w 0 T s v)(hb:Below w.heap.size w w'):∀v∈vs,bd w' 0 T s v:=by intro v hv;obtain⟨n,xs,ho⟩:=h v hv;exact⟨n,xs,bM ho hb (ah _)⟩
structure eF (w:World) (T:TypeId) (s:Nat) (vs:List Value):Prop where
 own:∀v∈vs,bd w 0 T s v
 dis:dK vs
 lens:∀v∈vs,lenOf v<=1000000
 few:vs.length<=100000
 one:0<vs.length
theorem eF.below{w w':World}{T:TypeId}{s:Nat}{vs:List Value}(h:eF w T s vs)(hb:Below w.heap.size w w'):eF w' T s vs:=⟨Ag h.own hb,h.dis,h.lens,h.few,h.one⟩
theorem eF.flat{vs us:List Value}{w w':World}{T:TypeId}{s:Nat}(hown:∀v∈vs,bd w 0 T s v)(hf:∀q,q<w.heap.size->q∉aW vs->w'.heap[q]? =w.heap[q]?){T':TypeId}{s':Nat}(h:eF w T' s' us)(hT:T≠T'):eF w' T' s' us:=⟨vh hown hf h.own hT,h.dis,h.lens,h.few,h.one⟩
theorem oC{w:World}{B:Nat}{T:TypeId}{s:Nat}{v:Value}{n:Nat}{xs:List Value}(h:w.ownsRow B T s v n xs)(hn:0<n):∃g c,v= .slice (some ⟨g,0,none⟩) n c:=by obtain⟨A,c,rfl,_⟩:=cw h;obtain⟨g,rfl⟩:=kE h hn;exact⟨g,c,rfl⟩
structure ff (vi vn ve:List Value) (w w':World):Prop where
 frame:∀q,q<w.heap.size->q∉aW vi->q∉aW vn->q∉aW ve->w'.heap[q]? =w.heap[q]?
 size:w.heap.size<=w'.heap.size
 calm:cY w w'
theorem ff.refl(vi vn ve:List Value)(w:World):ff vi vn ve w w:=⟨fun _ _ _ _ _=>rfl,ah _,cY.refl _⟩
theorem ff.below{vi vn ve:List Value}{w w1 w2:World}(h:ff vi vn ve w w1)(hb:Below w1.heap.size w1 w2):ff vi vn ve w w2:=
 ⟨fun q hq h1 h2 h3=>(hb.block q (fJ hq h.size)).trans (h.frame q hq h1 h2 h3),aJ h.size hb.size,h.calm.trans (cY.of_below hb)⟩
theorem ff.of{vi vn ve:List Value}{w w1 w2:World}(hb:Below w.heap.size w w1)(h:ff vi vn ve w1 w2):ff vi vn ve w w2:=
 ⟨fun q hq h1 h2 h3=>(h.frame q (fJ hq hb.size) h1 h2 h3).trans (hb.block q hq),aJ hb.size h.size,(cY.of_below hb).trans h.calm⟩
theorem ff.flat{vs vi vn ve:List Value}{w w1 w2:World}(h:ff vi vn ve w w1)(hin:∀q,q∉aW vi->q∉aW vn->q∉aW ve->q∉aW vs)(hf:∀q,q<w1.heap.size->q∉aW vs->w2.heap[q]? =w1.heap[q]?)(hs:w1.heap.size<=w2.heap.size)(hc:cY w1 w2):ff vi vn ve w w2:=
 ⟨fun q hq h1 h2 h3=>(hf q (fJ hq h.size) (hin q h1 h2 h3)).trans (h.frame q hq h1 h2 h3),aJ h.size hs,h.calm.trans hc⟩
theorem vy(b:Nat)(vi vn ve:List Value)(w:World)(h:dm w b vi vn ve)(hi:eF w 3 1 vi)(hn:eF w 44 4 vn)(he:eF w 26 8 ve):Calls Tryz.prog 41 #[.pointer (some ⟨b,0,none⟩)] w (fun e w'=>e= .returned (.bool true)/\ff vi vn ve w w'):=by
 have HST:=aa (ff.refl vi vn ve w);obtain⟨I,N,E,hB⟩:=h;obtain⟨gi,ci,rfl⟩:=oC hB.ints hi.one;obtain⟨gn,cn,rfl⟩:=oC hB.nodes hn.one;obtain⟨ge,ce,rfl⟩:=oC hB.edits he.one;have HB:=aa hB;have HI:=aa hi;have HN:=aa hn;have HE:=aa he;have c:=dQ hB 0 rfl;clear hB hi hn he
 go_in
 go_wp2_with fail;refine(vI _).mono ?_;rintro e w' ⟨rfl,hb⟩;replace HB:=aa (HB.out.below hb);replace HST:=aa (HST.out.below hb);replace HI:=aa (HI.out.below hb);replace HN:=aa (HN.out.below hb);replace HE:=aa (HE.out.below hb);clear hb c;have c:=dQ HB.out 1 rfl;go_wp2_with fail;refine(vT _).mono ?_;rintro e w' ⟨rfl,hb⟩;replace HB:=aa (HB.out.below hb);replace HST:=aa (HST.out.below hb);replace HI:=aa (HI.out.below hb);replace HN:=aa (HN.out.below hb);replace HE:=aa (HE.out.below hb);clear hb c;have c:=dQ HB.out 2 rfl;go_wp2_with fail;refine(vV _ _ _ _ _ (dk HB.out.ints (aE _)) HI.out.own HI.out.dis HI.out.few HI.out.lens).mono ?_;rintro e w' ⟨rfl,hf,hs,hc⟩;replace HST:=aa (HST.out.flat (fun q h1 h2 h3=>h1) hf hs hc);replace HN:=aa (eF.flat HI.out.own hf HN.out (by decide));replace HE:=aa (eF.flat HI.out.own hf HE.out (by decide));replace HB:=aa (n9 HI.out.own hf HB.out (by decide) (by decide) (by decide) (by decide));clear hf hs hc HI c;have c:=dQ HB.out 3 rfl;go_wp2_with fail;refine(vJ _).mono ?_;rintro e w' ⟨rfl,hb⟩;replace HB:=aa (HB.out.below hb);replace HST:=aa (HST.out.below hb);replace HN:=aa (HN.out.below hb);replace HE:=aa (HE.out.below hb);clear hb c;have c:=dQ HB.out 4 rfl;go_wp2_with fail;refine(vP _).mono ?_;rintro e w' ⟨rfl,hb⟩;replace HB:=aa (HB.out.below hb);replace HST:=aa (HST.out.below hb);replace HN:=aa (HN.out.below hb);replace HE:=aa (HE.out.below hb);clear hb c;have c:=dQ HB.out 5 rfl;go_wp2_with fail;refine(vD _).mono ?_;rintro e w' ⟨rfl,hb⟩;replace HB:=aa (HB.out.below hb);replace HST:=aa (HST.out.below hb);replace HN:=aa (HN.out.below hb);replace HE:=aa (HE.out.below hb);clear hb c;have c:=dQ HB.out 6 rfl;go_wp2_with fail;refine(vR _).mono ?_;rintro e w' ⟨rfl,hb⟩;replace HB:=aa (HB.out.below hb);replace HST:=aa (HST.out.below hb);replace HN:=aa (HN.out.below hb);replace HE:=aa (HE.out.below hb);clear hb c;have c:=dQ HB.out 7 rfl;go_wp2_with fail;refine(vQ _).mono ?_;rintro e w' ⟨rfl,hb⟩;replace HB:=aa (HB.out.below hb);replace HST:=aa (HST.out.below hb);replace HN:=aa (HN.out.below hb);replace HE:=aa (HE.out.below hb);clear hb c;have c:=dQ HB.out 8 rfl;go_wp2_with fail;refine(vO _).mono ?_;rintro e w' ⟨rfl,hb⟩;replace HB:=aa (HB.out.below hb);replace HST:=aa (HST.out.below hb);replace HN:=aa (HN.out.below hb);replace HE:=aa (HE.out.below hb);clear hb c;have c:=dQ HB.out 9 rfl;go_wp2_with fail;refine(vW _ _ _ _ _ (dk HB.out.nodes (aE _)) HN.out.own HN.out.dis HN.out.few HN.out.lens).mono ?_;rintro e w' ⟨rfl,hf,hs,hc⟩;replace HST:=aa (HST.out.flat (fun q h1 h2 h3=>h2) hf hs hc);replace HE:=aa (eF.flat HN.out.own hf HE.out (by decide));replace HB:=aa (n9 HN.out.own hf HB.out (by decide) (by decide) (by decide) (by decide));clear hf hs hc HN c;have c:=dQ HB.out 10 rfl;go_wp2_with fail;refine(vG _).mono ?_;rintro e w' ⟨rfl,hb⟩;replace HB:=aa (HB.out.below hb);replace HST:=aa (HST.out.below hb);replace HE:=aa (HE.out.below hb);clear hb c;have c:=dQ HB.out 11 rfl;go_wp2_with fail;refine(vK _).mono ?_;rintro e w' ⟨rfl,hb⟩;replace HB:=aa (HB.out.below hb);replace HST:=aa (HST.out.below hb);replace HE:=aa (HE.out.below hb);clear hb c;have c:=dQ HB.out 12 rfl;go_wp2_with fail;refine(vH _).mono ?_;rintro e w' ⟨rfl,hb⟩;replace HB:=aa (HB.out.below hb);replace HST:=aa (HST.out.below hb);replace HE:=aa (HE.out.below hb);clear hb c;have c:=dQ HB.out 13 rfl;go_wp2_with fail;refine(vU _ _ _ _ _ (dk HB.out.edits (aE _)) HE.out.own HE.out.dis HE.out.few HE.out.lens).mono ?_;rintro e w' ⟨rfl,hf,hs,hc⟩;replace HST:=aa (HST.out.flat (fun q h1 h2 h3=>h3) hf hs hc);replace HB:=aa (n9 HE.out.own hf HB.out (by decide) (by decide) (by decide) (by decide));clear hf hs hc HE c;have c:=dQ HB.out 14 rfl;go_wp2_with fail;refine(vN _).mono ?_;rintro e w' ⟨rfl,hb⟩;replace HB:=aa (HB.out.below hb);replace HST:=aa (HST.out.below hb);clear hb c;have c:=dQ HB.out 15 rfl;go_wp2_with fail;refine(vF _).mono ?_;rintro e w' ⟨rfl,hb⟩;replace HB:=aa (HB.out.below hb);replace HST:=aa (HST.out.below hb);clear hb c;have c:=dQ HB.out 16 rfl;go_wp2_with fail;refine(vL _).mono ?_;rintro e w' ⟨rfl,hb⟩;replace HB:=aa (HB.out.below hb);replace HST:=aa (HST.out.below hb);clear hb c;have c:=dQ HB.out 17 rfl;go_wp2_with fail;refine(vS _).mono ?_;rintro e w' ⟨rfl,hb⟩;replace HB:=aa (HB.out.below hb);replace HST:=aa (HST.out.below hb);clear hb c;have c:=dQ HB.out 18 rfl;go_wp2_with fail;refine(vM _).mono ?_;rintro e w' ⟨rfl,hb⟩;replace HB:=aa (HB.out.below hb);replace HST:=aa (HST.out.below hb);clear hb c;have c:=dQ HB.out 19 rfl;go_wp2_with fail;refine(vE _).mono ?_;rintro e w' ⟨rfl,hb⟩;replace HB:=aa (HB.out.below hb);replace HST:=aa (HST.out.below hb);clear hb c;have c:=dQ HB.out 20 rfl;go_wp2_with fail;refine(vC _).mono ?_;rintro e w' ⟨rfl,hb⟩;replace HB:=aa (HB.out.below hb);replace HST:=aa (HST.out.below hb);clear hb c;go_wp2_with fail;go_ret;exact⟨rfl,HST.out⟩
def gw(x:List bm×Nat×Nat):Value:=.slice (some ⟨x.2.1,0,none⟩) x.1.length x.2.2
def gB(LL:List (List bm×Nat×Nat)):List Value:=LL.flatMap fun x=>x.1.map bm.path
def gf(LL:List (List bm×Nat×Nat)):List Value:=LL.flatMap fun x=>x.1.flatMap bm.nodes
theorem qj{α β:Type}{LL:List α}{f:α->List β}{j:Nat}{x:α}(h:LL[j]? =some x):((LL.take j).flatMap f).length+(f x).length<=(LL.flatMap f).length:=by
 obtain⟨h1,h2⟩:=bs.1 h;have h3:((LL.take (j+1)).flatMap f).length<=(LL.flatMap f).length:=by have:=congrArg (fun l=>(l.flatMap f).length) (List.take_append_drop (j+1) LL);simp only[List.flatMap_append,cb] at this;omega
 rw[jM h,List.flatMap_append,cb] at h3;simpa using h3
theorem oE(w:World)(B:Nat)(T:TypeId)(s:Nat):w.ownsRow B T s (.slice none 0 0) 0 []:=⟨by simp,.inl ⟨rfl,rfl⟩⟩
theorem vw(LL:List (List bm×Nat×Nat))(gl cl n:Nat)(w:World)(hn:LL.length=n)(hC:∀(j:Nat) (x:List bm×Nat×Nat),LL[j]? =some x->w.cell? ⟨gl,j,none⟩=some (gw x))(hL:∀(j:Nat) (x:List bm×Nat×Nat),LL[j]? =some x->∀(i:Nat) (y:bm),x.1[i]? =some y->y.at_ w x.2.1 (i*8))(hi:eF w 3 1 (gB LL))(hN:eF w 44 4 (gf LL))(hE:eF w 26 8 (LL.map gw)):Calls Tryz.prog 12 #[.slice (some ⟨gl,0,none⟩) n cl] w (fun e w'=>e= .returned (.bool true)/\ff (gB LL) (gf LL) (LL.map gw) w w'):=by
 have HLN:=aa hn;have HC:=aa hC;have HL:=aa hL;have HI:=aa hi;have HN:=aa hN;have HE:=aa hE;have hn5:n<=100000:=(by have:=hE.few;simp at this;omega);have HA:Hid (dm (w.alloc (.cells #[.slice none 0 0,.slice none 0 0,.slice none 0 0,.slice none 0 0,.slice none 0 0,.slice none 0 0,.slice none 0 0,.slice none 0 0,.slice none 0 0,.slice none 0 0,.slice none 0 0,.slice none 0 0,.slice none 0 0,.slice none 0 0,.slice none 0 0,.slice none 0 0,.slice none 0 0,.slice none 0 0,.slice none 0 0,.slice none 0 0,.slice none 0 0] 83)) w.heap.size (gB (LL.take 0)) (gf (LL.take 0)) ((LL.take 0).map gw)):=
  ⟨_,_,_,heap_alloc_new _ _,oE _ _ _ _,oE _ _ _ _,oE _ _ _ _⟩
 have HB0:Hid (Below w.heap.size w (w.alloc (.cells #[.slice none 0 0,.slice none 0 0,.slice none 0 0,.slice none 0 0,.slice none 0 0,.slice none 0 0,.slice none 0 0,.slice none 0 0,.slice none 0 0,.slice none 0 0,.slice none 0 0,.slice none 0 0,.slice none 0 0,.slice none 0 0,.slice none 0 0,.slice none 0 0,.slice none 0 0,.slice none 0 0,.slice none 0 0,.slice none 0 0,.slice none 0 0] 83))):=bt (ai _ _) _;clear hn hC hL hi hN hE
 go_in
 go_wp2_with fail;go_loopw [4] (fun v wr=>∃j:Nat,j<=n/\v= .int .i64 j/\Hid (Below w.heap.size w wr)/\Hid (dm wr w.heap.size (gB (LL.take j)) (gf (LL.take j)) ((LL.take j).map gw))) (fun v _=>n - (intOf v).toNat);case atStart=>exact⟨0,aE _,rfl,HB0,HA⟩
 case round=>
  clear HB0 HA;obtain⟨j,hj,rfl,HB,HG⟩:=hrel;by_cases hlt:j<n
  .obtain⟨x,hx⟩:∃x,LL[j]? =some x:=⟨LL[j]'(by have:=HLN.out;omega),br _⟩;have HX:=aa hx;have ck:=ac HB.out (HC.out j x hx);have HF:Hid ((gB (LL.take j)).length+x.1.length<=1000000/\(gf (LL.take j)).length+(x.1.flatMap bm.nodes).length<=1000000/\((LL.take j).map gw).length<=1000000):=by
    have h1:=qj (f:=fun x=>x.1.map bm.path) hx;have h2:=qj (f:=fun x=>x.1.flatMap bm.nodes) hx;have h3:=HI.out.few;have h4:=HN.out.few;have h5:=HLN.out;unfold gB at*;unfold gf at*;refine⟨?_,?_,?_⟩
    .simp only[ny] at h1;omega
    .omega
    .simp;omega
   have HNX:Hid (gB (LL.take j)++x.1.map bm.path=gB (LL.take (j+1))/\gf (LL.take j)++x.1.flatMap bm.nodes=gf (LL.take (j+1))/\(LL.take j).map gw++[.slice (some ⟨x.2.1,0,none⟩) x.1.length x.2.2]=(LL.take (j+1)).map gw):=by
    refine⟨?_,?_,?_⟩
    .simp[gB,jM hx]
    .simp[gf,jM hx]
    .simp[jM hx,gw]
   clear hx;obtain⟨L,g,c⟩:=x;simp only[gw] at ck;go_wp2_with fail;refine(wm L g c w.heap.size _ _ _ w wr (fun i y hy=>HL.out j _ HX.out i y hy) (ah _) HB.out HG.out HF.out.1 HF.out.2.1 HF.out.2.2).mono ?_;rintro e w3 ⟨⟨v,rfl⟩,hB3,hf3,hk3⟩;have HB3:=aa (HB.out.trans hf3);rw[HNX.out.1,HNX.out.2.1,HNX.out.2.2] at hB3;have HG3:=aa hB3;clear hB3 hf3 hk3 HB HG ck;go_wp2_with fail;go_roundw;case rel=>exact⟨j+1,by omega,by go_num,HB3,HG3⟩
   case measure=>simp[intOf];omega
  .have hjn:j=n:=(by omega);have HG2:Hid (dm wr w.heap.size (gB LL) (gf LL) (LL.map gw)):=by have h:=HG.out;rw[List.take_of_length_le (by have:=HLN.out;omega)] at h;exact h
   go_wp2_with fail;refine(vy w.heap.size _ _ _ wr HG2.out (HI.out.below HB.out) (HN.out.below HB.out) (HE.out.below HB.out)).mono ?_;rintro e w3 ⟨rfl,hst⟩;have HS3:=aa (ff.of HB.out hst);clear hst;go_wp2_with fail;go_ret;exact⟨rfl,HS3.out⟩
theorem nY{vs:List Value}(h:(aW vs).Nodup):dK vs:=by
 have h2:vs.Pairwise (fun a a'=>∀b,a.ownBlock=some b->∀b',a'.ownBlock=some b'->b≠b'):=List.pairwise_filterMap.1 h;intro k k' v v' hk hk' hne;left;intro q hq hq';obtain⟨l1,e1⟩:=bs.1 hk;obtain⟨l2,e2⟩:=bs.1 hk';rcases Nat.lt_or_gt_of_ne hne with hlt|hlt
 .exact List.pairwise_iff_getElem.1 h2 k k' l1 l2 hlt q (by rw[e1];exact hq) q (by rw[e2];exact hq') rfl
 .exact List.pairwise_iff_getElem.1 h2 k' k l2 l1 hlt q (by rw[e2];exact hq') q (by rw[e1];exact hq) rfl
theorem pK{xs ys:List Value}{v a:Value}{k:Nat}(h:(xs++v::ys)[k]? =some a):(k=xs.length/\a=v)∨(k<xs.length/\(xs++ys)[k]? =some a)∨(xs.length<k/\(xs++ys)[k - 1]? =some a):=by
 rcases Nat.lt_trichotomy k xs.length with hk|hk|hk
 .refine .inr (.inl ⟨hk,?_⟩);rw[cM hk] at h ⊢;exact h
 .left;subst hk;rw[eK (ah _),Nat.sub_self] at h;simp at h;exact⟨rfl,h.symm⟩
 .refine .inr (.inr ⟨hk,?_⟩);rw[eK (by omega)] at h ⊢;obtain⟨m,hm⟩:∃m,k - xs.length=m+1:=⟨k - xs.length - 1,by omega⟩;rw[hm] at h;rw[show k - 1 - xs.length=m by omega];simpa using h
theorem mj{xs ys:List Value}{v:Value}(h:dK (xs++ys))(hv:v∈xs++ys)(h0:lenOf v=0)(hc:fL v<64):dK (xs++v::ys):=by
 obtain⟨m,hm⟩:=List.getElem?_of_mem hv;have one:∀(j:Nat) (a:Value),(xs++ys)[j]? =some a->(∀q,v.ownBlock=some q->a.ownBlock≠some q)∨(v=a/\lenOf v=0/\fL v<64):=by
  intro j a hj;by_cases e:m=j
  .subst e;rw[hm] at hj;injection hj with hj;exact .inr ⟨hj,h0,hc⟩
  .exact h m j v a hm hj e
 have two:∀(j:Nat) (a:Value),(xs++ys)[j]? =some a->(∀q,a.ownBlock=some q->v.ownBlock≠some q)∨(a=v/\lenOf a=0/\fL a<64):=by
  intro j a hj;rcases one j a hj with h1|⟨h1,h2,h3⟩
  .exact .inl fun q e1 e2=>h1 q e2 e1
  .subst h1;exact .inr ⟨rfl,h2,h3⟩
 intro k k' a b hk hk' hne;rcases pK hk with ⟨e1,rfl⟩|⟨e1,f1⟩|⟨e1,f1⟩ <;>rcases pK hk' with ⟨e2,rfl⟩|⟨e2,f2⟩|⟨e2,f2⟩
 .omega
 .exact one _ _ f2
 .exact one _ _ f2
 .exact two _ _ f1
 .exact h _ _ a b f1 f2 hne
 .exact h _ _ a b f1 f2 (by omega)
 .exact two _ _ f1
 .exact h _ _ a b f1 f2 (by omega)
 .exact h _ _ a b f1 f2 (by omega)
mutual
theorem Af {w:World}:∀{t:ag} {b o:Nat} {R:List Value},fy w t b o R->R.length<=t.sz/\∀v∈R,lenOf v<=t.sz
 | .node k s x ks,b,o,R,h=>by
  obtain⟨A,c,h3,R',rfl,h⟩:=h;have hl:=eA ks;have hR:R'.length<=ao ks/\∀v∈R',lenOf v<=ao ks:=by
   rcases h with ⟨_,rfl⟩|⟨g,rfl,h⟩
   .simp
   .exact oV h
  refine⟨by simp only[List.length_cons,ag.sz];omega,fun v hv=>?_⟩;rcases List.mem_cons.1 hv with rfl|hv
  .simp only[lenOf,ag.sz];omega
  .have:=hR.2 v hv;simp only[ag.sz];omega
theorem oV {w:World}:∀{ts:List ag} {b o:Nat} {R:List Value},cR w ts b o R->R.length<=ao ts/\∀v∈R,lenOf v<=ao ts
 |[],_,_,R,h=>by cases h;simp
 |t::ts,b,o,R,h=>by
  obtain⟨R1,R2,rfl,h1,h2⟩:=h;obtain⟨a1,a2⟩:=Af h1;obtain⟨b1,b2⟩:=oV h2;refine⟨by simp only[cb,ao];omega,fun v hv=>?_⟩;rcases List.mem_append.1 hv with hv|hv
  .have:=a2 v hv;simp only[ao];omega
  .have:=b2 v hv;simp only[ao];omega
end
theorem se{w:World}{ks:List ag}{A:Option Addr}{n c:Nat}{R:List Value}(h:dr w ks A n c R)(hn:n=ks.length)(hs:ao ks<=60):R.length<=61/\0<R.length/\∀v∈R,lenOf v<=60:=by
 obtain⟨R',rfl,h⟩:=h;have hl:=eA ks;have hR:R'.length<=ao ks/\∀v∈R',lenOf v<=ao ks:=by
  rcases h with ⟨_,rfl⟩|⟨g,rfl,h⟩
  .simp
  .exact oV h
 refine⟨by simp only[List.length_cons];omega,by simp,fun v hv=>?_⟩;rcases List.mem_cons.1 hv with rfl|hv
 .simp only[lenOf];omega
 .have:=hR.2 v hv;omega
theorem qe{M:Nat}{H:Option Addr×Nat×Nat}{X:Option Nat}{R:List Value}{w:World}{e:aj}{k:Nat}{pA:Option Addr}{pn pc:Nat}{i j:Int}{f t:ByteArray}{oA:Option Addr}{on oc:Nat}{nA:Option Addr}{nn nc:Nat}(h:bg M H X R w e k pA pn pc i j f t oA on oc nA nn nc):∃Ro Rn,dr w e.olds oA on oc Ro/\dr w e.news nA nn nc Rn/\(R=Ro++Rn∨R=Ro/\Rn=[.slice nA nn nc]/\nn=0/\(nA,nn,nc)=H):=by
 obtain⟨h1,h2,h3,h4⟩:=h;obtain⟨Ro,Rn,rfl,q2,q3,q4⟩:=h3.parts;by_cases hk:e.kind=5
 .obtain⟨a1,a2,rfl⟩:=q3 hk;obtain⟨ps,os,ns,rfl,_,_,hN⟩:=h1;have hn:ns=[]:=a1;subst hn;have h0:nn=0:=hN.1;refine⟨Ro,[.slice nA nn nc],q2,⟨[],rfl,.inl ⟨rfl,rfl⟩⟩,.inr ⟨by simp,rfl,h0,a2⟩⟩
 .exact⟨Ro,Rn,q2,q4 hk,.inl rfl⟩
theorem kO{w:World}{B:Nat}{T:TypeId}{s:Nat}{v:Value}(h:bd w B T s v):bd w 0 T s v:=h.keep (aE _) fun _ _=>rfl
theorem sd{w:World}{g:Nat}{cs:Array Value}{T:TypeId}{s:Nat}(h:w.heap[g]? =some (.cells cs T (0,0)))(hs:cs.size=1*s):bd w 0 T s (.slice (some ⟨g,0,none⟩) 1 1):=
 ⟨1,cs.toList,by simpa using hs,.inr ⟨g,1,cs,rfl,aE _,h,ah _,by unfold maxLen;omega,hs,List.take_of_length_le (by rw[Array.length_toList,hs];exact ah _)⟩⟩
def jB(k:Nat)(i j:Int)(f t:ByteArray)(ps:List Int)(os ns:List ag)(gp go gn:Nat)(Ro Rn:List Value):bm:=
 ⟨k,some ⟨gp,0,none⟩,ps.length,ps.length+12,i,j,f,t,some ⟨go,0,none⟩,os.length,os.length+12,some ⟨gn,0,none⟩,ns.length,ns.length+12,os,ns,Ro,Rn⟩
theorem qI{wM w:World}{B:Nat}{k:Nat}{i j:Int}{f t:ByteArray}{ps:List Int}{os ns:List ag}{gp go gn:Nat}{Ro Rn:List Value}{g o:Nat}(hb:Below wM.heap.size wM w)(hc:∀p u,(cU k (bh gp ps.length) i j f t (bh go os.length) (bh gn ns.length))[p]? =some u->wM.cell? ⟨g,o+p,none⟩=some u)(h:dN wM B ps os ns gp go gn)(ho:cZ wM B os (some ⟨go,0,none⟩) os.length (os.length+12) Ro)(hn:cZ wM B ns (some ⟨gn,0,none⟩) ns.length (ns.length+12) Rn):(jB k i j f t ps os ns gp go gn Ro Rn).at_ w g o:=by have hk:∀{ks:List ag} {A:Option Addr} {n c:Nat},KidsAt (cX wM B) ks A n c->KidsAt w ks A n c:=fun h=>(KidsAt.keep (fun _ _ h=>(ej.1 h).2) h).below hb;refine⟨ac hb (hc 0 _ rfl),ac hb (hc 1 _ rfl),ac hb (hc 2 _ rfl),ac hb (hc 3 _ rfl),ac hb (hc 4 _ rfl),ac hb (hc 5 _ rfl),ac hb (hc 6 _ rfl),ac hb (hc 7 _ rfl),hk h.olds,hk h.news,ho.rows.keep fun q hq=>hb.block q (ho.lt hq).2,hn.rows.keep fun q hq=>hb.block q (hn.lt hq).2⟩
theorem jJ{wM w:World}{B:Nat}{T:TypeId}{s:Nat}{v:Value}(hb:Below wM.heap.size wM w)(h:bd wM B T s v):bd w 0 T s v:=h.keep (aE _) fun g hg=>hb.block g (h.lt hg).2
theorem sc{w:World}{A:Option Addr}{n c:Nat}{ks:List ag}{R:List Value}(h:dr w ks A n c R):Value.slice A n c∈R:=by obtain⟨R',rfl,_⟩:=h;exact List.mem_cons_self
theorem ut{D Ra Rb Roa Rna Rob Rnb:List Value}{va vb:Value}(hnd:(aW (D++(Ra++Rb))).Nodup)(hva:va∈D)(hvb:vb∈D)(a3:Ra=Roa++Rna∨Ra=Roa/\Rna=[va]/\lenOf va=0/\fL va<64)(b3:Rb=Rob++Rnb∨Rb=Rob/\Rnb=[vb]/\lenOf vb=0/\fL vb<64):dK (D++((Roa++Rna)++(Rob++Rnb))):=by
 have h0:=nY hnd;rcases a3 with rfl|⟨rfl,rfl,a4,a5⟩ <;>rcases b3 with rfl|⟨rfl,rfl,b4,b5⟩
 .exact h0
 .have h1:=mj (xs:=D++((Roa++Rna)++Rb)) (ys:=[]) (v:=vb) (by simpa using h0) (by simp[hvb]) b4 b5;simpa using h1
 .have h1:=mj (xs:=D++Ra) (ys:=Rob++Rnb) (v:=va) (by simpa using h0) (by simp[hva]) a4 a5;simpa using h1
 .have h1:=mj (xs:=D++Ra) (ys:=Rb) (v:=va) (by simpa using h0) (by simp[hva]) a4 a5;have h2:=mj (xs:=D++Ra++va::Rb) (ys:=[]) (v:=vb) (by simpa using h1) (by simp[hvb]) b4 b5;simpa using h2
theorem mV{w:World}{Ro Rn:List Value}{os ns:List ag}{oA nA:Option Addr}{on oc nn nc:Nat}(h:dr w os oA on oc Ro)(h':dr w ns nA nn nc Rn)(e1:on=os.length)(e2:nn=ns.length)(s1:ao os<=60)(s2:ao ns<=60):(Ro++Rn).length<=122/\0< (Ro++Rn).length/\∀v∈Ro++Rn,lenOf v<=60:=by
 obtain⟨a1,a2,a3⟩:=se h e1 s1;obtain⟨b1,b2,b3⟩:=se h' e2 s2;refine⟨by simp;omega,by simp;omega,fun v hv=>?_⟩;rcases List.mem_append.1 hv with hv|hv
 .exact a3 v hv
 .exact b3 v hv
theorem wt(M:Nat)(k:Nat)(i j:Int)(f t:ByteArray)(ps:List Int)(os ns:List ag)(gp go gn:Nat)(k':Nat)(i' j':Int)(f' t':ByteArray)(ps':List Int)(os' ns':List ag)(gp' go' gn':Nat)(g ga gb gl B0 B1:Nat)(wM w:World)(hO:wM.ownsRow B0 26 8 (.slice (some ⟨g,0,none⟩) 14 14) 14 ((cU k (bh gp ps.length) i j f t (bh go os.length) (bh gn ns.length)++cU k' (bh gp' ps'.length) i' j' f' t' (bh go' os'.length) (bh gn' ns'.length))++aC aR 1 0 12))(hT:eJ wM B1 ps os ns gp go gn ps' os' ns' gp' go' gn')(hb:Below wM.heap.size wM w)(s1:ps.length<=60)(s2:ao os<=60)(s3:ao ns<=60)(s1':ps'.length<=60)(s2':ao os'<=60)(s3':ao ns'<=60){X X':Option Nat}{R R':List Value}{ea eb:aj}{ka:Nat}{pAa:Option Addr}{pna pca:Nat}{ia ja:Int}{fa ta:ByteArray}{oAa:Option Addr}{ona oca:Nat}{nAa:Option Addr}{nna nca:Nat}{kb:Nat}{pAb:Option Addr}{pnb pcb:Nat}{ib jb:Int}{fb tb:ByteArray}{oAb:Option Addr}{onb ocb:Nat}{nAb:Option Addr}{nnb ncb:Nat}(ha:bg wM.heap.size (some ⟨gn',0,none⟩,ns'.length,ns'.length+12) X R w ea ka pAa pna pca ia ja fa ta oAa ona oca nAa nna nca)(hb':bg wM.heap.size (some ⟨gn,0,none⟩,ns.length,ns.length+12) X' R' w eb kb pAb pnb pcb ib jb fb tb oAb onb ocb nAb nnb ncb)(hd:dn X R X' R')(hta:ea.tiny)(htb:eb.tiny)(hga:w.heap[ga]? =some (.cells #[.int .u8 ka,.slice pAa pna pca,.int .i64 ia,.int .i64 ja,.string fa,.string ta,.slice oAa ona oca,.slice nAa nna nca] 26 (0,0)))(hgb:w.heap[gb]? =some (.cells #[.int .u8 kb,.slice pAb pnb pcb,.int .i64 ib,.int .i64 jb,.string fb,.string tb,.slice oAb onb ocb,.slice nAb nnb ncb] 26 (0,0)))(hne:ga≠gb)(hgaM:wM.heap.size<=ga)(hgbM:wM.heap.size<=gb){TL:TypeId}(hM0:M<=B0)(hM1:M<=B1)(hMM:M<=wM.heap.size)(hl:w.heap[gl]? =some (.cells #[.slice (some ⟨g,0,none⟩) 2 14,.slice (some ⟨ga,0,none⟩) 1 1,.slice (some ⟨gb,0,none⟩) 1 1] TL (0,0))):Calls Tryz.prog 12 #[.slice (some ⟨gl,0,none⟩) 3 3] w (fun e w'=>e= .returned (.bool true)/\Below M w w'):=by
 obtain⟨Ro,Rn,Ro',Rn',o1,o2,o3,o4,o5⟩:=hT.rows;obtain⟨Roa,Rna,a1,a2,a3⟩:=qe ha;obtain⟨Rob,Rnb,b1,b2,b3⟩:=qe hb';have hea:=ha.1;have heb:=hb'.1;have hoa:=ha.2.2.1;have hob:=hb'.2.2.1;have hxa:=ha.2.2.2;have hxb:=hb'.2.2.2;obtain⟨psa,osa,nsa,ea_,hpa,hka,hna⟩:=hea;obtain⟨psb,osb,nsb,eb_,hpb,hkb,hnb⟩:=heb;have za:pna=ea.path.length/\ona=ea.olds.length/\nna=ea.news.length:=(by rw[ea_];exact⟨hpa.1,hka.1,hna.1⟩);have zb:pnb=eb.path.length/\onb=eb.olds.length/\nnb=eb.news.length:=(by rw[eb_];exact⟨hpb.1,hkb.1,hnb.1⟩);have Ka:KidsAt w ea.olds oAa ona oca/\KidsAt w ea.news nAa nna nca:=(by rw[ea_];exact⟨hka,hna⟩);have Kb:KidsAt w eb.olds oAb onb ocb/\KidsAt w eb.news nAb nnb ncb:=(by rw[eb_];exact⟨hkb,hnb⟩);have xa:(⟨ka,pAa,pna,pca,ia,ja,fa,ta,oAa,ona,oca,nAa,nna,nca,ea.olds,ea.news,Roa,Rna⟩:bm).at_ w ga 0:=by obtain⟨c0,c1,c2,c3,c4,c5,c6,c7⟩:=(aw hga).cs;exact⟨c0,c1,c2,c3,c4,c5,c6,c7,Ka.1,Ka.2,a1,a2⟩
 have xb:(⟨kb,pAb,pnb,pcb,ib,jb,fb,tb,oAb,onb,ocb,nAb,nnb,ncb,eb.olds,eb.news,Rob,Rnb⟩:bm).at_ w gb 0:=by obtain⟨c0,c1,c2,c3,c4,c5,c6,c7⟩:=(aw hgb).cs;exact⟨c0,c1,c2,c3,c4,c5,c6,c7,Kb.1,Kb.2,b1,b2⟩
 have x1:=qI (k:=k) (i:=i) (j:=j) (f:=f) (t:=t) (g:=g) (o:=0) hb (fun p u hu=>by rw[Nat.zero_add];refine bH hO p u ?_;have hp:p<8:=(bs.1 hu).1;rw[cM (by simp[cU];omega),cM (by simpa[cU] using hp)];exact hu) hT.one o1 o2
 have x2:=qI (k:=k') (i:=i') (j:=j') (f:=f') (t:=t') (g:=g) (o:=8) hb (fun p u hu=>by refine bH hO (8+p) u ?_;have hp:p<8:=(bs.1 hu).1;rw[cM (by simp[cU];omega),eK (by simp[cU])];rw[show 8+p - (cU k (bh gp ps.length) i j f t (bh go os.length) (bh gn ns.length)).length=p by simp[cU]];exact hu) hT.two o3 o4
 have eP:∀(x1 x2 xa xb:bm),gB [([x1,x2],g,14),([xa],ga,1),([xb],gb,1)]=[x1.path,x2.path]++[xa.path,xb.path]:=fun _ _ _ _=>rfl;have eN:∀(x1 x2 xa xb:bm),gf [([x1,x2],g,14),([xa],ga,1),([xb],gb,1)]=(x1.nodes++x2.nodes)++(xa.nodes++xb.nodes):=fun _ _ _ _=>by simp[gf]
 have hcl:=fun q=>cell_of_row w gl q _ TL (0,0) hl;have r1:=mV o1.rows o2.rows rfl rfl s2 s3;have r2:=mV o3.rows o4.rows rfl rfl s2' s3';have r3:=mV a1 a2 za.2.1 za.2.2 (fZ hta) (fY hta);have r4:=mV b1 b2 zb.2.1 zb.2.2 (fZ htb) (fY htb);have va:(Value.slice (some ⟨gn',0,none⟩) ns'.length (ns'.length+12))∈Rn':=sc o4.rows;have vb:(Value.slice (some ⟨gn,0,none⟩) ns.length (ns.length+12))∈Rn:=sc o2.rows;have own1:∀v∈(Ro++Rn)++(Ro'++Rn'),bd w 0 44 4 v:=by
  intro v hv;simp only[List.mem_append] at hv;rcases hv with (hv|hv)|(hv|hv)
  .exact jJ hb (o1.own v hv)
  .exact jJ hb (o2.own v hv)
  .exact jJ hb (o3.own v hv)
  .exact jJ hb (o4.own v hv)
 have a3':R=Roa++Rna∨R=Roa/\Rna=[.slice (some ⟨gn',0,none⟩) ns'.length (ns'.length+12)]/\lenOf (.slice (some ⟨gn',0,none⟩) ns'.length (ns'.length+12))=0/\fL (.slice (some ⟨gn',0,none⟩) ns'.length (ns'.length+12))<64:=by
  rcases a3 with h|⟨h1,h2,h3,h4⟩
  .exact .inl h
  .injection h4 with e1 e2;injection e2 with e2 e3;subst e1 e3;refine .inr ⟨h1,by rw[h2,e2],by simp only[lenOf];omega,by simp only[fL];omega⟩
 have b3':R'=Rob++Rnb∨R'=Rob/\Rnb=[.slice (some ⟨gn,0,none⟩) ns.length (ns.length+12)]/\lenOf (.slice (some ⟨gn,0,none⟩) ns.length (ns.length+12))=0/\fL (.slice (some ⟨gn,0,none⟩) ns.length (ns.length+12))<64:=by
  rcases b3 with h|⟨h1,h2,h3,h4⟩
  .exact .inl h
  .injection h4 with e1 e2;injection e2 with e2 e3;subst e1 e3;refine .inr ⟨h1,by rw[h2,e2],by simp only[lenOf];omega,by simp only[fL];omega⟩
 have low:∀v∈((jB k i j f t ps os ns gp go gn Ro Rn).nodes++(jB k' i' j' f' t' ps' os' ns' gp' go' gn' Ro' Rn').nodes)++((⟨ka,pAa,pna,pca,ia,ja,fa,ta,oAa,ona,oca,nAa,nna,nca,ea.olds,ea.news,Roa,Rna⟩:bm).nodes++(⟨kb,pAb,pnb,pcb,ib,jb,fb,tb,oAb,onb,ocb,nAb,nnb,ncb,eb.olds,eb.news,Rob,Rnb⟩:bm).nodes),∀q,v.ownBlock=some q->M<=q:=by
  have lo1:∀v∈(Ro++Rn)++(Ro'++Rn'),∀q,v.ownBlock=some q->M<=q:=by
   intro v hv q e;simp only[List.mem_append] at hv;rcases hv with (hv|hv)|(hv|hv)
   .have:=((o1.own v hv).lt e).1;omega
   .have:=((o2.own v hv).lt e).1;omega
   .have:=((o3.own v hv).lt e).1;omega
   .have:=((o4.own v hv).lt e).1;omega
  intro v hv q e;rcases List.mem_append.1 hv with hv|hv
  .exact lo1 v hv q e
  .rcases List.mem_append.1 hv with hv|hv
   .rcases a3' with h|⟨h1,h2,_⟩
    .have:=((hoa.own v (by rw[h];exact hv)).lt e).1;omega
    .rcases List.mem_append.1 hv with hv|hv
     .have:=((hoa.own v (by rw[h1];exact hv)).lt e).1;omega
     .have hv2:v∈Rna:=hv;rw[h2] at hv2;simp at hv2;subst hv2;exact lo1 _ (by simp[va]) q e
   .rcases b3' with h|⟨h1,h2,_⟩
    .have:=((hob.own v (by rw[h];exact hv)).lt e).1;omega
    .rcases List.mem_append.1 hv with hv|hv
     .have:=((hob.own v (by rw[h1];exact hv)).lt e).1;omega
     .have hv2:v∈Rnb:=hv;rw[h2] at hv2;simp at hv2;subst hv2;exact lo1 _ (by simp[vb]) q e
 refine(vw [([jB k i j f t ps os ns gp go gn Ro Rn,jB k' i' j' f' t' ps' os' ns' gp' go' gn' Ro' Rn'],g,14),([⟨ka,pAa,pna,pca,ia,ja,fa,ta,oAa,ona,oca,nAa,nna,nca,ea.olds,ea.news,Roa,Rna⟩],ga,1),([⟨kb,pAb,pnb,pcb,ib,jb,fb,tb,oAb,onb,ocb,nAb,nnb,ncb,eb.olds,eb.news,Rob,Rnb⟩],gb,1)] gl 3 3 w rfl ?hC ?hL ?hi ?hN ?hE).mono ?fin;case fin=>
  rintro e w' ⟨rfl,hst⟩;rw[eP,eN] at hst;refine⟨rfl,hst.calm.1,hst.calm.2.1,hst.calm.2.2,hst.size,fun q hq=>hst.frame q (fJ hq (aJ hMM hb.size)) (fun h=>?_) (fun h=>?_) fun h=>?_⟩
  .obtain⟨v,hv,e⟩:=eV h;simp only[List.mem_append,List.mem_cons,List.not_mem_nil,or_false] at hv;rcases hv with (rfl|rfl)|(rfl|rfl)
   .have:=(hT.one.path.lt q e).1;omega
   .have:=(hT.two.path.lt q e).1;omega
   .have:=(hoa.path.lt e).1;omega
   .have:=(hob.path.lt e).1;omega
  .obtain⟨v,hv,e⟩:=eV h;have:=low v hv q e;omega
  .obtain⟨v,hv,e⟩:=eV h;simp only[List.map_cons,List.map_nil,List.mem_cons,List.not_mem_nil,or_false,gw] at hv;rcases hv with rfl|rfl|rfl
   .have:=(hO.lt q e).1;omega
   .simp[Value.ownBlock] at e;omega
   .simp[Value.ownBlock] at e;omega
 case hC=>
  intro q x hx;match q,hx with
  |0,hx=>injection hx with hx;subst hx;exact hcl 0
  |1,hx=>injection hx with hx;subst hx;exact hcl 1
  |2,hx=>injection hx with hx;subst hx;exact hcl 2
  |q+3,hx=>cases hx
 case hL=>
  intro q x hx m y hy;match q,hx with
  |0,hx=>
   injection hx with hx;subst hx;match m,hy with
   |0,hy=>injection hy with hy;subst hy;exact x1
   |1,hy=>injection hy with hy;subst hy;exact x2
   |m+2,hy=>cases hy
  |1,hx=>
   injection hx with hx;subst hx;match m,hy with
   |0,hy=>injection hy with hy;subst hy;exact xa
   |m+1,hy=>cases hy
  |2,hx=>
   injection hx with hx;subst hx;match m,hy with
   |0,hy=>injection hy with hy;subst hy;exact xb
   |m+1,hy=>cases hy
  |q+3,hx=>cases hx
 case hi=>
  rw[eP];have p1:bd wM B1 3 1 (.slice (some ⟨gp,0,none⟩) ps.length (ps.length+12)):=⟨_,_,kF hT.one.path (Nat.le_add_right _ _)⟩;have p2:bd wM B1 3 1 (.slice (some ⟨gp',0,none⟩) ps'.length (ps'.length+12)):=⟨_,_,kF hT.two.path (Nat.le_add_right _ _)⟩;refine⟨?_,?_,?_,by simp,by simp⟩
  .intro v hv;simp only[List.mem_append,List.mem_cons,List.not_mem_nil,or_false] at hv;rcases hv with (rfl|rfl)|(rfl|rfl)
   .exact jJ hb p1
   .exact jJ hb p2
   .exact kO hoa.path
   .exact kO hob.path
  .refine nY (iq (m:=wM.heap.size) ?_ ?_ ?_ ?_)
   .simp[aW,bm.path,jB,Value.ownBlock,hT.ne]
   .have h1:=hd.1;rw[hxa,hxb] at h1;have eb2:aW [(Value.slice pAa pna pca),(Value.slice pAb pnb pcb)]=(Value.slice pAa pna pca).ownBlock.toList++(Value.slice pAb pnb pcb).ownBlock.toList:=by simp only[aW,List.filterMap_cons,List.filterMap_nil];cases (Value.slice pAa pna pca).ownBlock<;>cases (Value.slice pAb pnb pcb).ownBlock<;>rfl
    show(aW [(Value.slice pAa pna pca),(Value.slice pAb pnb pcb)]).Nodup;rw[eb2];cases hqa:(Value.slice pAa pna pca).ownBlock with
    |none=>cases (Value.slice pAb pnb pcb).ownBlock<;>simp
    |some q=>
     cases hqb:(Value.slice pAb pnb pcb).ownBlock with
     |none=>simp
     |some q'=>have:=h1 q hqa;rw[hqb] at this;simp;exact fun e=>this (by rw[e])
   .intro q hq;simp[aW,bm.path,jB,Value.ownBlock] at hq;rcases hq with rfl|rfl
    .exact(p1.lt rfl).2
    .exact(p2.lt rfl).2
   .intro q hq;obtain⟨v,hv,e⟩:=eV hq;simp only[List.mem_cons,List.not_mem_nil,or_false] at hv;rcases hv with rfl|rfl
    .exact(hoa.path.lt e).1
    .exact(hob.path.lt e).1
  .intro v hv;simp only[List.mem_append,List.mem_cons,List.not_mem_nil,or_false] at hv;rcases hv with (rfl|rfl)|(rfl|rfl)
   .show ps.length<=_;omega
   .show ps'.length<=_;omega
   .show pna<=_;have:=hta.path;omega
   .show pnb<=_;have:=htb.path;omega
 case hN=>
  rw[eN];show eF w 44 4 (((Ro++Rn)++(Ro'++Rn'))++((Roa++Rna)++(Rob++Rnb)));refine⟨?_,?_,?_,?_,?_⟩
  .intro v hv;rcases List.mem_append.1 hv with hv|hv
   .exact own1 v hv
   .rcases List.mem_append.1 hv with hv|hv
    .rcases a3' with h|⟨h1,h2,_⟩
     .exact kO (hoa.own v (by rw[h];exact hv))
     .rcases List.mem_append.1 hv with hv|hv
      .exact kO (hoa.own v (by rw[h1];exact hv))
      .rw[h2] at hv;simp at hv;subst hv;exact own1 _ (by simp[va])
    .rcases b3' with h|⟨h1,h2,_⟩
     .exact kO (hob.own v (by rw[h];exact hv))
     .rcases List.mem_append.1 hv with hv|hv
      .exact kO (hob.own v (by rw[h1];exact hv))
      .rw[h2] at hv;simp at hv;subst hv;exact own1 _ (by simp[vb])
  .refine ut (iq (m:=wM.heap.size) o5 hd.2 (fun q hq=>?_) fun q hq=>?_) (by simp[va]) (by simp[vb]) a3' b3'
   .obtain⟨v,hv,e⟩:=eV hq;simp only[List.mem_append] at hv;rcases hv with (hv|hv)|(hv|hv)
    .exact((o1.own v hv).lt e).2
    .exact((o2.own v hv).lt e).2
    .exact((o3.own v hv).lt e).2
    .exact((o4.own v hv).lt e).2
   .obtain⟨v,hv,e⟩:=eV hq;rcases List.mem_append.1 hv with hv|hv
    .exact((hoa.own v hv).lt e).1
    .exact((hob.own v hv).lt e).1
  .intro v hv;rcases List.mem_append.1 hv with hv|hv
   .rcases List.mem_append.1 hv with hv|hv
    .have:=r1.2.2 v hv;omega
    .have:=r2.2.2 v hv;omega
   .rcases List.mem_append.1 hv with hv|hv
    .have:=r3.2.2 v hv;omega
    .have:=r4.2.2 v hv;omega
  .have h1:=r1.1;have h2:=r2.1;have h3:=r3.1;have h4:=r4.1;simp only[cb] at h1 h2 h3 h4 ⊢;omega
  .have h1:=r1.2.1;simp only[cb] at h1 ⊢;omega
 case hE=>
  show eF w 26 8 [.slice (some ⟨g,0,none⟩) 2 14,.slice (some ⟨ga,0,none⟩) 1 1,.slice (some ⟨gb,0,none⟩) 1 1];have p1:bd wM B0 26 8 (.slice (some ⟨g,0,none⟩) 2 14):=⟨_,_,kF hO (by decide)⟩;have hg:g<wM.heap.size:=(p1.lt (g:=g) rfl).2;have hg1:g≠ga:=(by omega);have hg2:g≠gb:=(by omega);refine⟨?_,nY ?_,?_,by simp,by simp⟩
  .intro v hv;simp only[List.mem_cons,List.not_mem_nil,or_false] at hv;rcases hv with rfl|rfl|rfl
   .exact jJ hb p1
   .exact sd hga rfl
   .exact sd hgb rfl
  .simp[aW,Value.ownBlock];exact⟨⟨hg1,hg2⟩,hne⟩
  .intro v hv;simp only[List.mem_cons,List.not_mem_nil,or_false] at hv;rcases hv with rfl|rfl|rfl<;>simp[lenOf]
end Go.Proofs.YtlkmefhogabgdaaGreatDoor
