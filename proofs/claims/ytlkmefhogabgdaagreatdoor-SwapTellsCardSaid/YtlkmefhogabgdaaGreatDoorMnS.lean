/- Part 19 of the proof. -/
import Derived.Deep.CutBlock
import Derived.Test.YtlkmefhogabgdaaGreatDoorMnO
namespace Go.Proofs.YtlkmefhogabgdaaGreatDoor
open Go.RowKit
set_option linter.all false
set_option maxHeartbeats 40000000
set_option maxRecDepth 100000
def eh(k l i j:Int):Option (Int×Int):=
 if k=5∨l=5 then none
 else if k=2/\l=2 then(if j=i∨j=i+1 then none else if j<i then some (j,i+1) else some (j - 1,i))
 else if k=2 then(if i - 1<=j/\j<=i+1 then none else if j<i then some (j,i - 1) else some (j - 1,i))
 else if l=2 then(if j=i then none else if j<i then some (j,i+1) else some (j+1,i))
 else if j=i∨j=i - 1 then none else if j<i then some (j,i - 1) else some (j+1,i)
def dO(r:Option (Int×Int))(w:World)(e:Ending)(w':World):Prop:=Below w.heap.size w w'/\match r with
 |some (a,b)=>e= .returned (.tuple #[.int .i64 a,.int .i64 b,.bool true])
 |none=>e= .returned (.tuple #[.int .i64 0,.int .i64 0,.bool false])
theorem dO.yes{r:Option (Int×Int)}{a b:Int}{w w':World}(h:r=some (a,b))(hb:Below w.heap.size w w'):dO r w (.returned (.tuple #[.int .i64 a,.int .i64 b,.bool true])) w':=by subst h;exact⟨hb,rfl⟩
theorem dO.no{r:Option (Int×Int)}{w w':World}(h:r=none)(hb:Below w.heap.size w w'):dO r w (.returned (.tuple #[.int .i64 0,.int .i64 0,.bool false])) w':=by subst h;exact⟨hb,rfl⟩
theorem zN(k l i j:Int)(x1 x3 x4 x5 x6 x7 y1 y3 y4 y5 y6 y7:Value)(w:World)(hi:0<=i/\i<=1073741824)(hj:0<=j/\j<=1073741824)(r:Option (Int×Int))(hr:eh k l i j=r):Calls Tryz.prog 35 #[.agg #[.int .u8 k,x1,.int .i64 i,x3,x4,x5,x6,x7],.agg #[.int .u8 l,y1,.int .i64 j,y3,y4,y5,y6,y7]] w (dO r w):=by
 have hb:∀u v u' v':Value,Below w.heap.size w ((w.alloc (.cells #[u,x1,v,x3,x4,x5,x6,x7] 26)).alloc (.cells #[u',y1,v',y3,y4,y5,y6,y7] 26)).drew:=fun u v u' v'=>(((ai _ _).alloc (ah _) _).alloc (by simp) _).drew;have HB:=aa hb;clear hb;by_cases hk5:k=5
 .skip
  have hk5b:(k == 5)=true:=(by simp[hk5]);subst hk5;have HR:Hid (r=none):=(by show _=_;rw[<-hr];unfold eh;rw[if_pos (.inl rfl)]);clear hr
  go_in
  go_wp2_with fail
  go_region
  all_goals
   go_wp2
   go_ret3
   exact dO.no HR.out (HB.out _ _ _ _)
 .skip
  have hk5b:(k == 5)=false:=(by simp[hk5]);by_cases hl5:l=5
  .skip
   have hl5b:(l == 5)=true:=(by simp[hl5]);subst hl5;have HR:Hid (r=none):=(by show _=_;rw[<-hr];unfold eh;rw[if_pos (.inr rfl)]);clear hr
   go_in
   go_wp2_with fail
   go_region
   all_goals
    go_wp2
    go_ret3
    exact dO.no HR.out (HB.out _ _ _ _)
  .skip
   have hl5b:(l == 5)=false:=(by simp[hl5]);by_cases hk2:k=2
   .skip
    have hk2b:(k == 2)=true:=(by simp[hk2]);subst hk2;by_cases hl2:l=2
    .skip
     have hl2b:(l == 2)=true:=(by simp[hl2]);subst hl2;by_cases e1:j=i
     .skip
      have e1b:(j == i)=true:=(by simp[e1]);subst e1;have HR:Hid (r=none):=(by show _=_;rw[<-hr];unfold eh;rw[if_neg (by omega),if_pos ⟨rfl,rfl⟩];rw[if_pos (.inl rfl)]);clear hr
      go_in
      go_wp2_with fail
      go_region
      all_goals
       go_wp2
       go_ret3
       exact dO.no HR.out (HB.out _ _ _ _)
     .skip
      have e1b:(j == i)=false:=(by simp[e1]);by_cases e2:j=i+1
      .skip
       have e2b:(j == i+1)=true:=(by simp[e2]);subst e2;have HR:Hid (r=none):=(by show _=_;rw[<-hr];unfold eh;rw[if_neg (by omega),if_pos ⟨rfl,rfl⟩];rw[if_pos (.inr rfl)]);clear hr
       go_in
       go_wp2_with fail
       go_region
       all_goals
        go_wp2
        go_ret3
        exact dO.no HR.out (HB.out _ _ _ _)
      .skip
       have e2b:(j == i+1)=false:=(by simp[e2]);by_cases hlt:j<i
       .skip
        have HR:Hid (r=some (j,i+1)):=(by show _=_;rw[<-hr];unfold eh;rw[if_neg (by omega),if_pos ⟨rfl,rfl⟩];rw[if_neg (by omega)];rw[if_pos hlt]);clear hr
        go_in
        go_wp2_with fail
        go_region
        all_goals
         go_wp2
         go_ret3
         exact dO.yes HR.out (HB.out _ _ _ _)
       .skip
        have HR:Hid (r=some (j - 1,i)):=(by show _=_;rw[<-hr];unfold eh;rw[if_neg (by omega),if_pos ⟨rfl,rfl⟩];rw[if_neg (by omega)];rw[if_neg hlt]);clear hr
        go_in
        go_wp2_with fail
        go_region
        all_goals
         go_wp2
         go_ret3
         exact dO.yes HR.out (HB.out _ _ _ _)
    .skip
     have hl2b:(l == 2)=false:=(by simp[hl2]);by_cases e1:i - 1<=j/\j<=i+1
     .skip
      have HR:Hid (r=none):=(by show _=_;rw[<-hr];unfold eh;rw[if_neg (by omega),if_neg (by omega),if_pos rfl];rw[if_pos e1]);clear hr
      go_in
      go_wp2_with fail
      go_region
      all_goals
       go_wp2
       go_ret3
       exact dO.no HR.out (HB.out _ _ _ _)
     .skip
      by_cases hlt:j<i
      .skip
       have HR:Hid (r=some (j,i - 1)):=(by show _=_;rw[<-hr];unfold eh;rw[if_neg (by omega),if_neg (by omega),if_pos rfl];rw[if_neg e1];rw[if_pos hlt]);clear hr
       go_in
       go_wp2_with fail
       go_region
       all_goals
        go_wp2
        go_ret3
        exact dO.yes HR.out (HB.out _ _ _ _)
      .skip
       have HR:Hid (r=some (j - 1,i)):=(by show _=_;rw[<-hr];unfold eh;rw[if_neg (by omega),if_neg (by omega),if_pos rfl];rw[if_neg e1];rw[if_neg hlt]);clear hr
       go_in
       go_wp2_with fail
       go_region
       all_goals
        go_wp2
        go_ret3
        exact dO.yes HR.out (HB.out _ _ _ _)
   .skip
    have hk2b:(k == 2)=false:=(by simp[hk2]);by_cases hl2:l=2
    .skip
     have hl2b:(l == 2)=true:=(by simp[hl2]);subst hl2;by_cases e1:j=i
     .skip
      have e1b:(j == i)=true:=(by simp[e1]);subst e1;have HR:Hid (r=none):=(by show _=_;rw[<-hr];unfold eh;rw[if_neg (by omega),if_neg (by omega),if_neg (by omega),if_pos rfl];rw[if_pos rfl]);clear hr
      go_in
      go_wp2_with fail
      go_region
      all_goals
       go_wp2
       go_ret3
       exact dO.no HR.out (HB.out _ _ _ _)
     .skip
      have e1b:(j == i)=false:=(by simp[e1]);by_cases hlt:j<i
      .skip
       have HR:Hid (r=some (j,i+1)):=(by show _=_;rw[<-hr];unfold eh;rw[if_neg (by omega),if_neg (by omega),if_neg (by omega),if_pos rfl];rw[if_neg e1];rw[if_pos hlt]);clear hr
       go_in
       go_wp2_with fail
       go_region
       all_goals
        go_wp2
        go_ret3
        exact dO.yes HR.out (HB.out _ _ _ _)
      .skip
       have HR:Hid (r=some (j+1,i)):=(by show _=_;rw[<-hr];unfold eh;rw[if_neg (by omega),if_neg (by omega),if_neg (by omega),if_pos rfl];rw[if_neg e1];rw[if_neg hlt]);clear hr
       go_in
       go_wp2_with fail
       go_region
       all_goals
        go_wp2
        go_ret3
        exact dO.yes HR.out (HB.out _ _ _ _)
    .skip
     have hl2b:(l == 2)=false:=(by simp[hl2]);by_cases e1:j=i
     .skip
      have e1b:(j == i)=true:=(by simp[e1]);subst e1;have HR:Hid (r=none):=(by show _=_;rw[<-hr];unfold eh;rw[if_neg (by omega),if_neg (by omega),if_neg (by omega),if_neg (by omega)];rw[if_pos (.inl rfl)]);clear hr
      go_in
      go_wp2_with fail
      go_region
      all_goals
       go_wp2
       go_ret3
       exact dO.no HR.out (HB.out _ _ _ _)
     .skip
      have e1b:(j == i)=false:=(by simp[e1]);by_cases e2:j=i - 1
      .skip
       have e2b:(j == i - 1)=true:=(by simp[e2]);subst e2;have HR:Hid (r=none):=(by show _=_;rw[<-hr];unfold eh;rw[if_neg (by omega),if_neg (by omega),if_neg (by omega),if_neg (by omega)];rw[if_pos (.inr rfl)]);clear hr
       go_in
       go_wp2_with fail
       go_region
       all_goals
        go_wp2
        go_ret3
        exact dO.no HR.out (HB.out _ _ _ _)
      .skip
       have e2b:(j == i - 1)=false:=(by simp[e2]);by_cases hlt:j<i
       .skip
        have HR:Hid (r=some (j,i - 1)):=(by show _=_;rw[<-hr];unfold eh;rw[if_neg (by omega),if_neg (by omega),if_neg (by omega),if_neg (by omega)];rw[if_neg (by omega)];rw[if_pos hlt]);clear hr
        go_in
        go_wp2_with fail
        go_region
        all_goals
         go_wp2
         go_ret3
         exact dO.yes HR.out (HB.out _ _ _ _)
       .skip
        have HR:Hid (r=some (j+1,i)):=(by show _=_;rw[<-hr];unfold eh;rw[if_neg (by omega),if_neg (by omega),if_neg (by omega),if_neg (by omega)];rw[if_neg (by omega)];rw[if_neg hlt]);clear hr
        go_in
        go_wp2_with fail
        go_region
        all_goals
         go_wp2
         go_ret3
         exact dO.yes HR.out (HB.out _ _ _ _)
abbrev E8:Array Value:=#[.int .u8 0,.slice none 0 0,.int .i64 0,.int .i64 0,.string ⟨#[]⟩,.string ⟨#[]⟩,.slice none 0 0,.slice none 0 0]
structure dN (w:World) (B:Nat) (ps:List Int) (os ns:List ag) (gp go gn:Nat):Prop where
 path:w.ownsRow B 3 1 (.slice (some ⟨gp,0,none⟩) (ps.length+12) (ps.length+12)) (ps.length+12) (ps.map (Value.int .i64)++aC aS 1 0 12)
 olds:KidsAt (cX w B) os (some ⟨go,0,none⟩) os.length (os.length+12)
 news:KidsAt (cX w B) ns (some ⟨gn,0,none⟩) ns.length (ns.length+12)
 lentO:cC (cX w B) os (some ⟨go,0,none⟩) os.length (os.length+12)
 lentN:cC (cX w B) ns (some ⟨gn,0,none⟩) ns.length (ns.length+12)
 rows:∃Ro Rn,cZ w B os (some ⟨go,0,none⟩) os.length (os.length+12) Ro/\cZ w B ns (some ⟨gn,0,none⟩) ns.length (ns.length+12) Rn/\(aW (Ro++Rn)).Nodup
theorem dN.keep{w w':World}{B B':Nat}{ps:List Int}{os ns:List ag}{gp go gn:Nat}(h:dN w B ps os ns gp go gn)(hB:B'<=B)(hk:∀q,B<=q->q<w.heap.size->w'.heap[q]? =w.heap[q]?):dN w' B' ps os ns gp go gn:=by
 obtain⟨h1,h2,h3,h4,h5,Ro,Rn,h6,h7,h8⟩:=h;have hc:∀a v,B<=a.block->w.cell? a=some v->w'.cell? a=some v:=fun a v ha hc=>by rw[World.cell?_of_block (hk _ ha (bK hc))];exact hc
 exact⟨dk (eB h1 fun q e=>hk q (h1.lt q e).1 (h1.lt q e).2) hB,kR h2 hB hc,kR h3 hB hc,ls h4 hB hk,ls h5 hB hk,Ro,Rn,h6.keep hB hk,h7.keep hB hk,h8⟩
theorem dN.below{w w':World}{B:Nat}{ps:List Int}{os ns:List ag}{gp go gn:Nat}(h:dN w B ps os ns gp go gn)(hb:Below w.heap.size w w'):dN w' B ps os ns gp go gn:=h.keep (ah _) fun q _ hq=>hb.block q hq
theorem dN.mk'{w1 w2 w3 W:World}{B B1 B2 B3:Nat}{ps:List Int}{os ns:List ag}{gp go gn:Nat}(hp:w1.ownsRow B1 3 1 (.slice (some ⟨gp,0,none⟩) (ps.length+12) (ps.length+12)) (ps.length+12) (ps.map (Value.int .i64)++aC aS 1 0 12))(ho:bJ w2 B2 os (some ⟨go,0,none⟩) os.length (os.length+12))(lo:cC (cX w2 B2) os (some ⟨go,0,none⟩) os.length (os.length+12))(hn:bJ w3 B3 ns (some ⟨gn,0,none⟩) ns.length (ns.length+12))(ln:cC (cX w3 B3) ns (some ⟨gn,0,none⟩) ns.length (ns.length+12))(hB1:B<=B1)(hB2:B<=B2)(hB3:w2.heap.size<=B3)(hBB:B<=B3)(h1:∀q,B1<=q->q<w1.heap.size->W.heap[q]? =w1.heap[q]?)(h2:∀q,B2<=q->q<w2.heap.size->W.heap[q]? =w2.heap[q]?)(h3:∀q,B3<=q->q<w3.heap.size->W.heap[q]? =w3.heap[q]?):dN W B ps os ns gp go gn:=by
 obtain⟨o1,Ro,o2⟩:=ho;obtain⟨n1,Rn,n2⟩:=hn;exact⟨dk (eB hp fun q e=>h1 q (hp.lt q e).1 (hp.lt q e).2) hB1,kR o1 hB2 fun a v ha hc=>by rw[World.cell?_of_block (h2 _ ha (bK hc))];exact hc,kR n1 hBB fun a v ha hc=>by rw[World.cell?_of_block (h3 _ ha (bK hc))];exact hc,ls lo hB2 h2,ls ln hBB h3,
  Ro,Rn,o2.keep hB2 h2,n2.keep hBB h3,iq o2.nd n2.nd (m:=w2.heap.size) (fun q hq=>(o2.lt hq).2) fun q hq=>aJ hB3 (n2.lt hq).1⟩
theorem rz{w:World}{z q:Nat}{v0 v1 v2 v3 v4 v5 v6 v7:Value}(hq:q≠z):(an w z v0 v1 v2 v3 v4 v5 v6 v7).heap[q]? =w.heap[q]? :=by simp only[an];repeat rw[aY _ _ _ _ (by exact hq)]
def sV(ps:List Int)(os ns:List ag)(k:Nat)(i j:Int)(f t:ByteArray)(w:World)(e:Ending)(w':World):Prop:=∃gp go gn,e= .returned (.agg #[.int .u8 k,.slice (some ⟨gp,0,none⟩) ps.length (ps.length+12),.int .i64 i,.int .i64 j,.string f,.string t,.slice (some ⟨go,0,none⟩) os.length (os.length+12),.slice (some ⟨gn,0,none⟩) ns.length (ns.length+12)])/\
 dN w' w.heap.size ps os ns gp go gn/\Below w.heap.size w w'
theorem wa(ps:List Int)(os ns:List ag)(k:Nat)(pA:Option Addr)(pn pc:Nat)(i j:Int)(f t:ByteArray)(oA:Option Addr)(on oc:Nat)(nA:Option Addr)(nn nc:Nat)(w:World)(hp:aA w ps pA pn pc)(ho:KidsAt w os oA on oc)(hn:KidsAt w ns nA nn nc)(hpn:pn<=17592186044000)(hos:ao os<1000000)(hns:ao ns<1000000):Calls Tryz.prog 20 #[.agg #[.int .u8 k,.slice pA pn pc,.int .i64 i,.int .i64 j,.string f,.string t,.slice oA on oc,.slice nA nn nc]] w (sV ps os ns k i j f t w):=by
 have hb0:Below w.heap.size w ((w.alloc (.cells #[.int .u8 k,.slice pA pn pc,.int .i64 i,.int .i64 j,.string f,.string t,.slice oA on oc,.slice nA nn nc] 26)).alloc (.cells E8 26)):=bt (bt (ai _ _) _) _;have HB0:=aa hb0;have HP:=aa (hp.below hb0);have HO:=aa ho;have HN:=aa hn;clear hb0 hp ho hn
 go_in
 go_wp2_with fail;refine(wd ps _ _ _ _ HP.out hpn).mono ?_;rintro e w1 ⟨gp,rfl,hown1,hb1⟩;have HO1:=aa hown1;have HB1:=aa hb1;have hbox:w1.heap[w.heap.size]? =some (.cells #[.int .u8 k,.slice pA pn pc,.int .i64 i,.int .i64 j,.string f,.string t,.slice oA on oc,.slice nA nn nc] 26 (0,0)):=(hb1.block _ (by simp;omega)).trans ((heap_alloc_old _ _ (by simp)).trans (heap_alloc_new _ _));have hres:w1.heap[w.heap.size+1]? =some (.cells E8 26 (0,0)):=(hb1.block _ (by simp)).trans (aQ (by simp));have HS1:Hid (w.heap.size+2<=w1.heap.size):=(by have:=hb1.size;simp at this;exact(by omega:w.heap.size+2<=w1.heap.size));obtain⟨⟨c0,c1,c2,c3,c4,c5,c6,c7⟩,⟨f0,f1,f2,f3,f4,f5,f6,f7⟩⟩:=aw hbox;have HBX1:Hid ((w1.setCell ⟨w.heap.size,1,none⟩ (.slice (some ⟨gp,0,none⟩) ps.length (ps.length+12))).heap[w.heap.size]? =some (.cells #[.int .u8 k,.slice (some ⟨gp,0,none⟩) ps.length (ps.length+12),.int .i64 i,.int .i64 j,.string f,.string t,.slice oA on oc,.slice nA nn nc] 26 (0,0))):=by show _=_;simp[World.setCell,Array.getElem?_modify,hbox]
 have HRS1:Hid ((w1.setCell ⟨w.heap.size,1,none⟩ (.slice (some ⟨gp,0,none⟩) ps.length (ps.length+12))).heap[w.heap.size+1]? =some (.cells E8 26 (0,0))):=by show _=_;rw[aY _ _ _ _ (show w.heap.size+1≠w.heap.size by omega)];exact hres
 have HBA:Hid (Below w.heap.size w (w1.setCell ⟨w.heap.size,1,none⟩ (.slice (some ⟨gp,0,none⟩) ps.length (ps.length+12)))):=(af HB0.out hb1).setCell (ah _) _;clear hown1 hb1 hbox hres;go_wp2_with fail;clear c0 c1 c2 c3 c4 c5 c6 c7 f0 f1 f2 f3 f4 f5 f6 f7;refine(qx os _ _ _ _ hos (HO.out.below HBA.out)).mono ?_;rintro e w2 ⟨go,rfl,hf2,hl2,hb2⟩;have HF2:=aa hf2;have HL2:=aa hl2;have HB2:=aa hb2;have hbox:w2.heap[w.heap.size]? =some (.cells #[.int .u8 k,.slice (some ⟨gp,0,none⟩) ps.length (ps.length+12),.int .i64 i,.int .i64 j,.string f,.string t,.slice oA on oc,.slice nA nn nc] 26 (0,0)):=(hb2.block _ (by simp;have:=HS1.out;omega)).trans HBX1.out;have hres:w2.heap[w.heap.size+1]? =some (.cells E8 26 (0,0)):=(hb2.block _ (by simp;have:=HS1.out;omega)).trans HRS1.out;have HS2:Hid (w1.heap.size<=w2.heap.size):=(by have:=hb2.size;simp at this;exact(by omega:w1.heap.size<=w2.heap.size));obtain⟨⟨c0,c1,c2,c3,c4,c5,c6,c7⟩,⟨f0,f1,f2,f3,f4,f5,f6,f7⟩⟩:=aw hbox;have HBX2:Hid ((w2.setCell ⟨w.heap.size,6,none⟩ (.slice (some ⟨go,0,none⟩) os.length (os.length+12))).heap[w.heap.size]? =some (.cells #[.int .u8 k,.slice (some ⟨gp,0,none⟩) ps.length (ps.length+12),.int .i64 i,.int .i64 j,.string f,.string t,.slice (some ⟨go,0,none⟩) os.length (os.length+12),.slice nA nn nc] 26 (0,0))):=by show _=_;simp[World.setCell,Array.getElem?_modify,hbox]
 have HRS2:Hid ((w2.setCell ⟨w.heap.size,6,none⟩ (.slice (some ⟨go,0,none⟩) os.length (os.length+12))).heap[w.heap.size+1]? =some (.cells E8 26 (0,0))):=by show _=_;rw[aY _ _ _ _ (show w.heap.size+1≠w.heap.size by omega)];exact hres
 have HBC:Hid (Below w.heap.size w (w2.setCell ⟨w.heap.size,6,none⟩ (.slice (some ⟨go,0,none⟩) os.length (os.length+12)))):=(af HBA.out hb2).setCell (ah _) _;clear hf2 hl2 hb2 hbox hres;go_wp2_with fail;clear c0 c1 c2 c3 c4 c5 c6 c7 f0 f1 f2 f3 f4 f5 f6 f7;refine(qx ns _ _ _ _ hns (HN.out.below HBC.out)).mono ?_;rintro e w3 ⟨gn,rfl,hf3,hl3,hb3⟩;have HF3:=aa hf3;have HL3:=aa hl3;have HB3:=aa hb3;have hbox:w3.heap[w.heap.size]? =some (.cells #[.int .u8 k,.slice (some ⟨gp,0,none⟩) ps.length (ps.length+12),.int .i64 i,.int .i64 j,.string f,.string t,.slice (some ⟨go,0,none⟩) os.length (os.length+12),.slice nA nn nc] 26 (0,0)):=(hb3.block _ (by simp;have:=HS1.out;have:=HS2.out;omega)).trans HBX2.out;have hres:w3.heap[w.heap.size+1]? =some (.cells E8 26 (0,0)):=(hb3.block _ (by simp;have:=HS1.out;have:=HS2.out;omega)).trans HRS2.out;have HS3:Hid (w2.heap.size<=w3.heap.size):=(by have:=hb3.size;simp at this;exact(by omega:w2.heap.size<=w3.heap.size));obtain⟨⟨c0,c1,c2,c3,c4,c5,c6,c7⟩,⟨f0,f1,f2,f3,f4,f5,f6,f7⟩⟩:=aw hbox;have HBX3:Hid ((w3.setCell ⟨w.heap.size,7,none⟩ (.slice (some ⟨gn,0,none⟩) ns.length (ns.length+12))).heap[w.heap.size]? =some (.cells #[.int .u8 k,.slice (some ⟨gp,0,none⟩) ps.length (ps.length+12),.int .i64 i,.int .i64 j,.string f,.string t,.slice (some ⟨go,0,none⟩) os.length (os.length+12),.slice (some ⟨gn,0,none⟩) ns.length (ns.length+12)] 26 (0,0))):=by show _=_;simp[World.setCell,Array.getElem?_modify,hbox]
 have HRS3:Hid ((w3.setCell ⟨w.heap.size,7,none⟩ (.slice (some ⟨gn,0,none⟩) ns.length (ns.length+12))).heap[w.heap.size+1]? =some (.cells E8 26 (0,0))):=by show _=_;rw[aY _ _ _ _ (show w.heap.size+1≠w.heap.size by omega)];exact hres
 have HBD:Hid (Below w.heap.size w (w3.setCell ⟨w.heap.size,7,none⟩ (.slice (some ⟨gn,0,none⟩) ns.length (ns.length+12)))):=(af HBC.out hb3).setCell (ah _) _;obtain⟨r0,r1,r2,r3,r4,r5,r6,r7⟩:=(aw hres).cs;clear hf3 hl3 hb3 hbox hres;go_upto_region 4 with fail;clear c0 c1 c2 c3 c4 c5 c6 c7 f0 f1 f2 f3 f4 f5 f6 f7 r0 r1 r2 r3 r4 r5 r6 r7;obtain⟨⟨c0,c1,c2,c3,c4,c5,c6,c7⟩,⟨f0,f1,f2,f3,f4,f5,f6,f7⟩⟩:=aw HBX3.out;obtain⟨⟨r0,r1,r2,r3,r4,r5,r6,r7⟩,⟨g0,g1,g2,g3,g4,g5,g6,g7⟩⟩:=aw HRS3.out;go_wp2_with fail;have hblk:∀q,w.heap.size+2<=q->(an (w3.setCell ⟨w.heap.size,7,none⟩ (.slice (some ⟨gn,0,none⟩) ns.length (ns.length+12))) (w.heap.size+1) (.int .u8 k) (.slice (some ⟨gp,0,none⟩) ps.length (ps.length+12)) (.int .i64 i) (.int .i64 j) (.string f) (.string t) (.slice (some ⟨go,0,none⟩) os.length (os.length+12)) (.slice (some ⟨gn,0,none⟩) ns.length (ns.length+12))).heap[q]? =w3.heap[q]? :=fun q hq=>by rw[rz (show q≠w.heap.size+1 by omega),aY _ _ _ _ (show q≠w.heap.size by omega)]
 have HLE:Hid (dN (an (w3.setCell ⟨w.heap.size,7,none⟩ (.slice (some ⟨gn,0,none⟩) ns.length (ns.length+12))) (w.heap.size+1) (.int .u8 k) (.slice (some ⟨gp,0,none⟩) ps.length (ps.length+12)) (.int .i64 i) (.int .i64 j) (.string f) (.string t) (.slice (some ⟨go,0,none⟩) os.length (os.length+12)) (.slice (some ⟨gn,0,none⟩) ns.length (ns.length+12))) w.heap.size ps os ns gp go gn):=by
  have h1:=HS1.out;have h2:=HS2.out;refine dN.mk' HO1.out HF2.out HL2.out HF3.out HL3.out (by simp;omega) (by simp;omega) (by simp) (by simp;omega) (fun q q1 q2=>?_) (fun q q1 q2=>?_) (fun q q1 q2=>hblk q (by simp at q1;omega))
  .rw[hblk q (by simp at q1;omega),HB3.out.block q (by simp;omega),aY _ _ _ _ (show q≠w.heap.size by simp at q1;omega),HB2.out.block q (by simpa using q2),aY _ _ _ _ (show q≠w.heap.size by simp at q1;omega)]
  .rw[hblk q (by simp at q1;omega),HB3.out.block q (by simpa using q2),aY _ _ _ _ (show q≠w.heap.size by simp at q1;omega)]
 have HBE:Hid (Below w.heap.size w (an (w3.setCell ⟨w.heap.size,7,none⟩ (.slice (some ⟨gn,0,none⟩) ns.length (ns.length+12))) (w.heap.size+1) (.int .u8 k) (.slice (some ⟨gp,0,none⟩) ps.length (ps.length+12)) (.int .i64 i) (.int .i64 j) (.string f) (.string t) (.slice (some ⟨go,0,none⟩) os.length (os.length+12)) (.slice (some ⟨gn,0,none⟩) ns.length (ns.length+12)))):=cH HBD.out (by omega);clear hblk;obtain⟨a0,a1,a2,a3,a4,a5,a6,a7⟩:=jH (v0:=.int .u8 k) (v1:=(.slice (some ⟨gp,0,none⟩) ps.length (ps.length+12))) (v2:=.int .i64 i) (v3:=.int .i64 j) (v4:=.string f) (v5:=.string t) (v6:=(.slice (some ⟨go,0,none⟩) os.length (os.length+12))) (v7:=(.slice (some ⟨gn,0,none⟩) ns.length (ns.length+12))) (aw HRS3.out).cs;simp only[an] at a0 a1 a2 a3 a4 a5 a6 a7;exact bodyPost_ret (v:=.agg #[.int .u8 k,.slice (some ⟨gp,0,none⟩) ps.length (ps.length+12),.int .i64 i,.int .i64 j,.string f,.string t,.slice (some ⟨go,0,none⟩) os.length (os.length+12),.slice (some ⟨gn,0,none⟩) ns.length (ns.length+12)]) (by simp[results,Tryz.results20,go_sem,a0,a1,a2,a3,a4,a5,a6,a7]) rfl ⟨gp,go,gn,rfl,HLE.out,HBE.out⟩
theorem Tryz.infoEdit:(Tryz.prog.info? 26).map (fun i=>(i.zero,i.size,i.bytes))=some (some (.agg E8),8,128):=by kernel_rfl
def cU(k:Nat)(P:Value)(i j:Int)(f t:ByteArray)(O N:Value):List Value:=[.int .u8 k,P,.int .i64 i,.int .i64 j,.string f,.string t,O,N]
def bh(g n:Nat):Value:=.slice (some ⟨g,0,none⟩) n (n+12)
theorem ux(k:Nat)(gp np go no gn nn:Nat)(i j:Int)(f t:ByteArray):∀u∈cU k (bh gp np) i j f t (bh go no) (bh gn nn),u.oneCell'=true:=by intro u hu;simp[cU,bh] at hu;rcases hu with rfl|rfl|rfl|rfl|rfl|rfl|rfl|rfl<;>rfl
theorem ou(m:Int):∀u∈aR m,u.oneCell'=true:=by intro u hu;simp[aR] at hu;rcases hu with rfl|rfl|rfl|rfl|rfl|rfl|rfl|rfl<;>rfl
structure eJ (w:World) (B:Nat) (ps:List Int) (os ns:List ag) (gp go gn:Nat) (ps':List Int) (os' ns':List ag) (gp' go' gn':Nat):Prop where
 one:dN w B ps os ns gp go gn
 two:dN w B ps' os' ns' gp' go' gn'
 ne:gp≠gp'
 rows:∃Ro Rn Ro' Rn',cZ w B os (some ⟨go,0,none⟩) os.length (os.length+12) Ro/\cZ w B ns (some ⟨gn,0,none⟩) ns.length (ns.length+12) Rn/\cZ w B os' (some ⟨go',0,none⟩) os'.length (os'.length+12) Ro'/\cZ w B ns' (some ⟨gn',0,none⟩) ns'.length (ns'.length+12) Rn'/\(aW ((Ro++Rn)++(Ro'++Rn'))).Nodup
theorem eJ.of{w1 w2:World}{B B2:Nat}{ps:List Int}{os ns:List ag}{gp go gn:Nat}{ps':List Int}{os' ns':List ag}{gp' go' gn':Nat}(h:dN w1 B ps os ns gp go gn)(hb:Below w1.heap.size w1 w2)(h':dN w2 B2 ps' os' ns' gp' go' gn')(hB:w1.heap.size<=B2)(hBB:B<=B2):eJ w2 B ps os ns gp go gn ps' os' ns' gp' go' gn':=by
 have g:=h.below hb;have g':=h'.keep (w':=w2) hBB fun _ _ _=>rfl;obtain⟨Ro,Rn,o1,o2,o3⟩:=h.rows;obtain⟨Ro',Rn',p1,p2,p3⟩:=h'.rows;refine⟨g,g',?_,Ro,Rn,Ro',Rn',o1.keep (ah _) fun q _ hq=>hb.block q hq,o2.keep (ah _) fun q _ hq=>hb.block q hq,p1.keep hBB fun _ _ _=>rfl,p2.keep hBB fun _ _ _=>rfl,iq o3 p3 (m:=w1.heap.size) (fun q hq=>?_) fun q hq=>?_⟩
 .have h1:=(h.path.lt gp rfl).2;have h2:=(h'.path.lt gp' rfl).1;omega
 .rw[gg] at hq;rcases List.mem_append.1 hq with hq|hq
  .exact(o1.lt hq).2
  .exact(o2.lt hq).2
 .rw[gg] at hq;rcases List.mem_append.1 hq with hq|hq
  .exact aJ hB (p1.lt hq).1
  .exact aJ hB (p2.lt hq).1
theorem eJ.keep{w w':World}{B B':Nat}{ps:List Int}{os ns:List ag}{gp go gn:Nat}{ps':List Int}{os' ns':List ag}{gp' go' gn':Nat}(h:eJ w B ps os ns gp go gn ps' os' ns' gp' go' gn')(hB:B'<=B)(hk:∀q,B<=q->q<w.heap.size->w'.heap[q]? =w.heap[q]?):eJ w' B' ps os ns gp go gn ps' os' ns' gp' go' gn':=by obtain⟨h1,h2,h3,Ro,Rn,Ro',Rn',o1,o2,o3,o4,o5⟩:=h;exact⟨h1.keep hB hk,h2.keep hB hk,h3,Ro,Rn,Ro',Rn',o1.keep hB hk,o2.keep hB hk,o3.keep hB hk,o4.keep hB hk,o5⟩
theorem eJ.below{w w':World}{B:Nat}{ps:List Int}{os ns:List ag}{gp go gn:Nat}{ps':List Int}{os' ns':List ag}{gp' go' gn':Nat}(h:eJ w B ps os ns gp go gn ps' os' ns' gp' go' gn')(hb:Below w.heap.size w w'):eJ w' B ps os ns gp go gn ps' os' ns' gp' go' gn':=h.keep (ah _) fun q _ hq=>hb.block q hq
def nx(B:Nat)(w:World)(c1 c2:Nat->Nat->Nat->List Value)(ps:List Int)(os ns:List ag)(ps':List Int)(os' ns':List ag)(j:Nat):Prop:=
 match j with
 |0=>w.ownsRow B 26 8 (.slice (some ⟨B,0,none⟩) 0 14) 0 []
 |1=>∃gp go gn,w.ownsRow B 26 8 (.slice (some ⟨B,0,none⟩) 1 14) 1 (c1 gp go gn)/\dN w (B+1) ps os ns gp go gn
 |_=>∃gp go gn gp' go' gn',w.ownsRow B 26 8 (.slice (some ⟨B,0,none⟩) 2 14) 2 (c1 gp go gn++c2 gp' go' gn')/\eJ w (B+1) ps os ns gp go gn ps' os' ns' gp' go' gn'
def sY(c1 c2:Nat->Nat->Nat->List Value)(ps:List Int)(os ns:List ag)(ps':List Int)(os' ns':List ag)(w:World)(e:Ending)(w':World):Prop:=∃g gp go gn gp' go' gn',e= .returned (.slice (some ⟨g,0,none⟩) 2 14)/\
 w'.ownsRow w.heap.size 26 8 (.slice (some ⟨g,0,none⟩) 14 14) 14 ((c1 gp go gn++c2 gp' go' gn')++aC aR 1 0 12)/\eJ w' (w.heap.size+1) ps os ns gp go gn ps' os' ns' gp' go' gn'/\Below w.heap.size w w'
theorem wb(ps:List Int)(os ns:List ag)(k:Nat)(pA:Option Addr)(pn pc:Nat)(i j:Int)(f t:ByteArray)(oA:Option Addr)(on oc:Nat)(nA:Option Addr)(nn nc:Nat)(ps':List Int)(os' ns':List ag)(k':Nat)(pA':Option Addr)(pn' pc':Nat)(i' j':Int)(f' t':ByteArray)(oA':Option Addr)(on' oc':Nat)(nA':Option Addr)(nn' nc':Nat)(b:Nat)(w:World)(hl:w.heap[b]? =some (.cells #[.int .u8 k,.slice pA pn pc,.int .i64 i,.int .i64 j,.string f,.string t,.slice oA on oc,.slice nA nn nc,.int .u8 k',.slice pA' pn' pc',.int .i64 i',.int .i64 j',.string f',.string t',.slice oA' on' oc',.slice nA' nn' nc'] 26 (0,0)))(hp:aA w ps pA pn pc)(ho:KidsAt w os oA on oc)(hn:KidsAt w ns nA nn nc)(hpn:pn<=17592186044000)(hos:ao os<1000000)(hns:ao ns<1000000)(hp':aA w ps' pA' pn' pc')(ho':KidsAt w os' oA' on' oc')(hn':KidsAt w ns' nA' nn' nc')(hpn':pn'<=17592186044000)(hos':ao os'<1000000)(hns':ao ns'<1000000):Calls Tryz.prog 7 #[.slice (some ⟨b,0,none⟩) 2 2] w (sY (fun gp go gn=>cU k (bh gp ps.length) i j f t (bh go os.length) (bh gn ns.length)) (fun gp go gn=>cU k' (bh gp ps'.length) i' j' f' t' (bh go os'.length) (bh gn ns'.length)) ps os ns ps' os' ns' w):=by
 have HL:=aa hl;have HP:=aa (And.intro hp (And.intro ho hn));have HP':=aa (And.intro hp' (And.intro ho' hn'));obtain⟨i0,hi,hz0,hz1,hz2⟩:=info_parts Tryz.infoEdit;clear hl hp ho hn hp' ho' hn';generalize hc1:(fun gp go gn=>cU k (bh gp ps.length) i j f t (bh go os.length) (bh gn ns.length))=c1;generalize hc2:(fun gp go gn=>cU k' (bh gp ps'.length) i' j' f' t' (bh go os'.length) (bh gn ns'.length))=c2;have HC1:=aa hc1;have HC2:=aa hc2;clear hc1 hc2
 go_in
 go_wp2_with (at_make;refine wpList_make_own _ rfl _ _ 29 rfl w.heap.size 26 i0 _ 8 Tryz.underlying29 hi hz0 hz1 .i64 .i64 _ 14 rfl rfl (by omega) (by rw[hz2];omega) (by unfold maxLen;omega) (ah _) ?_;intro w0 hown0 hgrow0);have HB0:Hid (Below w.heap.size w w0):=(ai w.heap.size w).grown hgrow0 (ah _) (fun k hk=>by cases hk);have HS0:Hid (nx w.heap.size w0 c1 c2 ps os ns ps' os' ns' 0):=hown0;clear hown0 hgrow0;go_wp2_with fail;go_loopw [3,4] (fun v i wr=>∃q:Nat,q<=2/\i= .int .i64 q/\v= .slice (some ⟨w.heap.size,0,none⟩) q 14/\Hid (Below w.heap.size w wr)/\Hid (nx w.heap.size wr c1 c2 ps os ns ps' os' ns' q)) (fun _ i _=>2 - (intOf i).toNat);case atStart=>exact⟨0,aE _,rfl,rfl,HB0,HS0⟩
 case round=>
  obtain⟨q,hq,rfl,rfl,HB,HS⟩:=hrel;by_cases hlt:q<2
  .obtain⟨kx,pAx,pnx,pcx,ix,jx,fx,tx,oAx,onx,ocx,nAx,nnx,ncx,psx,osx,nsx,hcx,hix,hlk⟩:∃(kx:Nat) (pAx:Option Addr) (pnx pcx:Nat) (ix jx:Int) (fx tx:ByteArray) (oAx:Option Addr) (onx ocx:Nat) (nAx:Option Addr) (nnx ncx:Nat) (psx:List Int) (osx nsx:List ag),
    Hid (w.cell? ⟨b,q*8,none⟩=some (.int .u8 kx)/\w.cell? ⟨b,q*8+1,none⟩=some (.slice pAx pnx pcx)/\w.cell? ⟨b,q*8+2,none⟩=some (.int .i64 ix)/\w.cell? ⟨b,q*8+3,none⟩=some (.int .i64 jx)/\w.cell? ⟨b,q*8+4,none⟩=some (.string fx)/\w.cell? ⟨b,q*8+5,none⟩=some (.string tx)/\w.cell? ⟨b,q*8+6,none⟩=some (.slice oAx onx ocx)/\w.cell? ⟨b,q*8+7,none⟩=some (.slice nAx nnx ncx))/\Hid (aA w psx pAx pnx pcx/\KidsAt w osx oAx onx ocx/\KidsAt w nsx nAx nnx ncx/\pnx<=17592186044000/\ao osx<1000000/\ao nsx<1000000)/\
    Hid ((q=0/\c1=(fun gp go gn=>cU kx (bh gp psx.length) ix jx fx tx (bh go osx.length) (bh gn nsx.length))/\ps=psx/\os=osx/\ns=nsx)∨(q=1/\c2=(fun gp go gn=>cU kx (bh gp psx.length) ix jx fx tx (bh go osx.length) (bh gn nsx.length))/\ps'=psx/\os'=osx/\ns'=nsx)):=by
    have hc:=fun o=>cell_of_row w b o _ 26 (0,0) HL.out;have hq01:q=0∨q=1:=(by omega);rcases hq01 with rfl|rfl
    .exact⟨k,pA,pn,pc,i,j,f,t,oA,on,oc,nA,nn,nc,ps,os,ns,⟨(hc _).trans rfl,(hc _).trans rfl,(hc _).trans rfl,(hc _).trans rfl,(hc _).trans rfl,(hc _).trans rfl,(hc _).trans rfl,(hc _).trans rfl⟩,⟨HP.out.1,HP.out.2.1,HP.out.2.2,hpn,hos,hns⟩,.inl ⟨rfl,HC1.out.symm,rfl,rfl,rfl⟩⟩
    .exact⟨k',pA',pn',pc',i',j',f',t',oA',on',oc',nA',nn',nc',ps',os',ns',⟨(hc _).trans rfl,(hc _).trans rfl,(hc _).trans rfl,(hc _).trans rfl,(hc _).trans rfl,(hc _).trans rfl,(hc _).trans rfl,(hc _).trans rfl⟩,⟨HP'.out.1,HP'.out.2.1,HP'.out.2.2,hpn',hos',hns'⟩,.inr ⟨rfl,HC2.out.symm,rfl,rfl,rfl⟩⟩
   obtain⟨b0,b1,b2,b3,b4,b5,b6,b7⟩:=hcx.out;have d0:=ac HB.out b0;have d1:=ac HB.out b1;have d2:=ac HB.out b2;have d3:=ac HB.out b3;have d4:=ac HB.out b4;have d5:=ac HB.out b5;have d6:=ac HB.out b6;have d7:=ac HB.out b7;clear b0 b1 b2 b3 b4 b5 b6 b7;go_wp2_with fail;refine(wa psx osx nsx kx _ _ _ ix jx fx tx _ _ _ _ _ _ _ (hix.out.1.below HB.out) (hix.out.2.1.below HB.out) (hix.out.2.2.1.below HB.out) hix.out.2.2.2.1 hix.out.2.2.2.2.1 hix.out.2.2.2.2.2).mono ?_;rintro e w3 ⟨gpx,gox,gnx,rfl,hle3,hb3⟩;have HE3:=aa hle3;have HB3:=aa hb3;clear hle3 hb3 d0 d1 d2 d3 d4 d5 d6 d7;have hb4:Below w3.heap.size w3 ((w3.alloc (.cells #[.int .u8 kx,.slice (some ⟨gpx,0,none⟩) psx.length (psx.length+12),.int .i64 ix,.int .i64 jx,.string fx,.string tx,.slice (some ⟨gox,0,none⟩) osx.length (osx.length+12),.slice (some ⟨gnx,0,none⟩) nsx.length (nsx.length+12)] 26)).alloc (.cells #[.int .u8 kx,.slice (some ⟨gpx,0,none⟩) psx.length (psx.length+12),.int .i64 ix,.int .i64 jx,.string fx,.string tx,.slice (some ⟨gox,0,none⟩) osx.length (osx.length+12),.slice (some ⟨gnx,0,none⟩) nsx.length (nsx.length+12)] 26)):=bt (bt (ai _ _) _) _;have HB4:=aa hb4;have HBB:=aa (af (af HB.out HB3.out) hb4);clear hb4;obtain⟨xs,how,hlo⟩:∃xs,wr.ownsRow w.heap.size 26 8 (.slice (some ⟨w.heap.size,0,none⟩) q 14) q xs/\Hid (∀(w5:World),w5.ownsRow w.heap.size 26 8 (.slice (some ⟨w.heap.size,0,none⟩) (q+1) 14) (q+1) (xs++cU kx (bh gpx psx.length) ix jx fx tx (bh gox osx.length) (bh gnx nsx.length))->(∀g,w.heap.size+1<=g->g<w3.heap.size->w5.heap[g]? =w3.heap[g]?)->nx w.heap.size w5 c1 c2 ps os ns ps' os' ns' (q+1)):=by
    rcases hlk.out with ⟨rfl,hc,rfl,rfl,rfl⟩|⟨rfl,hc,rfl,rfl,rfl⟩
    .have ho:wr.ownsRow w.heap.size 26 8 (.slice (some ⟨w.heap.size,0,none⟩) 0 14) 0 []:=HS.out;refine⟨_,ho,fun w5 h5 hk=>⟨gpx,gox,gnx,?_,HE3.out.keep (ho.lt _ rfl).2 fun g h1 h2=>hk g (by have h3:=(ho.lt w.heap.size rfl).2;omega) h2⟩⟩;rw[hc];exact h5
    .obtain⟨gp1,go1,gn1,ho1,he1⟩:∃gp go gn,wr.ownsRow w.heap.size 26 8 (.slice (some ⟨w.heap.size,0,none⟩) 1 14) 1 (c1 gp go gn)/\dN wr (w.heap.size+1) ps os ns gp go gn:=HS.out;refine⟨_,ho1,fun w5 h5 hk=>⟨gp1,go1,gn1,gpx,gox,gnx,?_,(eJ.of he1 HB3.out HE3.out (ah _) (ho1.lt _ rfl).2).keep (ah _) hk⟩⟩;rw[hc];exact h5
   have HLO:=aa hlo.out;have HOW:=aa (bM (bM how HB3.out (ah _)) HB4.out (ah _));clear how hlo;go_wp2_with (at_builtin;refine wpList_append_fits _ rfl _ _ 29 rfl w.heap.size 26 i0 8 Tryz.underlying29 hi hz1 w.heap.size q 14 _ rfl HOW.out ⟨w3.heap.size+1,0,none⟩ 1 1 (cU kx (bh gpx psx.length) ix jx fx tx (bh gox osx.length) (bh gnx nsx.length)) rfl rfl (World.news_of_block (aQ (by simp))) (ux _ _ _ _ _ _ _ _ _ _ _) (by omega) ?_;intro w5 hown5 hgrow5);have HS5:=aa (HLO.out w5 hown5 fun g h1 h2=>(hgrow5.block g (fJ h2 HB4.out.size) (by intro e;injection e with e;omega)).trans (HB4.out.block g h2));have HB5:Hid (Below w.heap.size w w5):=HBB.out.grown hgrow5 HBB.out.size (fun k hk=>by injection hk with hk;omega);clear hown5 hgrow5;go_wp2;go_roundw;case rel=>exact⟨q+1,by omega,by go_num,rfl,HB5,HS5⟩
   case measure=>simp[intOf];omega
  .have hq2:q=2:=(by omega);have HS2:Hid (∃gp go gn gp' go' gn',wr.ownsRow w.heap.size 26 8 (.slice (some ⟨w.heap.size,0,none⟩) (q+0) 14) (q+0) ((c1 gp go gn++c2 gp' go' gn')++aC aR 1 0 0)/\eJ wr (w.heap.size+1) ps os ns gp go gn ps' os' ns' gp' go' gn'):=by have h:=HS.out;rw[hq2] at h;obtain⟨gp,go,gn,gp',go',gn',h1,h2⟩:=h;rw[hq2];exact⟨gp,go,gn,gp',go',gn',by simpa[aC] using h1,h2⟩
   obtain⟨gp1,go1,gn1,gp2,go2,gn2,ho2,ht2⟩:=HS2.out;have HO1:=aa ho2;have HT1:=aa ht2;clear ho2 ht2 HS HS2;have HQ2:=aa hq2;have hq12:q<=2:=(by omega);have hqge:2<=q:=(by omega);clear hq2;generalize hxs:c1 gp1 go1 gn1++c2 gp2 go2 gn2=xs at HO1;have HXS:=aa hxs;clear hxs;go_wp2_with fail;go_loopw [3,6] (fun v i wq=>∃r:Nat,r<=12/\i= .int .i64 r/\v= .slice (some ⟨w.heap.size,0,none⟩) (q+r) 14/\Hid (Below w.heap.size w wq)/\Hid (wq.ownsRow w.heap.size 26 8 (.slice (some ⟨w.heap.size,0,none⟩) (q+r) 14) (q+r) (xs++aC aR 1 0 r))/\Hid (eJ wq (w.heap.size+1) ps os ns gp1 go1 gn1 ps' os' ns' gp2 go2 gn2)) (fun _ i _=>12 - (intOf i).toNat);case atStart=>exact⟨0,aE _,rfl,(by simp),HB,HO1,HT1⟩
   case round=>
    clear HO1 HT1 HB;obtain⟨r,hr,rfl,rfl,HB,HO,HT⟩:=hrel;by_cases hr12:r<12
    .go_wp2_with fail;refine(io 1 r _ (by omega) (by omega)).mono ?_;rintro e w3 ⟨rfl,hb3⟩;have HB3:=aa hb3;clear hb3;have HM:Hid (aC aR 1 0 (r+1)=aC aR 1 0 r++aR (aB 1 r)):=(by show _=_;rw[gR,Nat.zero_add]);generalize aB 1 r=mm at HM ⊢;have hb4:Below w3.heap.size w3 (w3.alloc (.cells #[.int .u8 0,.slice none 0 0,.int .i64 mm,.int .i64 0,.string ⟨#[]⟩,.string ⟨#[]⟩,.slice none 0 0,.slice none 0 0] 26)):=bt (ai _ _) _;have HBB:=aa (af (af HB.out HB3.out) hb4);have HOW:=aa (bM (bM HO.out HB3.out (ah _)) hb4 (ah _));have HTW:=aa ((HT.out.below HB3.out).below hb4);clear hb4;go_wp2_with (at_builtin;refine wpList_append_fits _ rfl _ _ 29 rfl w.heap.size 26 i0 8 Tryz.underlying29 hi hz1 w.heap.size (q+r) 14 _ rfl HOW.out ⟨w3.heap.size,0,none⟩ 1 1 (aR mm) rfl rfl (World.news_of_block (heap_alloc_new w3 _)) (ou _) (by omega) ?_;intro w5 hown5 hgrow5);have HO5:Hid (w5.ownsRow w.heap.size 26 8 (.slice (some ⟨w.heap.size,0,none⟩) (q+(r+1)) 14) (q+(r+1)) (xs++aC aR 1 0 (r+1))):=by show World.ownsRow _ _ _ _ _ _ _;rw[HM.out,<-List.append_assoc];exact hown5
     have HT5:=aa (HTW.out.keep (w':=w5) (ah _) fun g h1 h2=>hgrow5.block g h2 (by intro e;injection e with e;omega));have HB5:Hid (Below w.heap.size w w5):=HBB.out.grown hgrow5 HBB.out.size (fun k hk=>by injection hk with hk;omega);clear hown5 hgrow5;go_wp2;go_roundw;case rel=>exact⟨r+1,by omega,by go_num,rfl,HB5,HO5,HT5⟩
     case measure=>simp[intOf];omega
    .have hr12:r=12:=(by omega);subst hr12;go_wp2_with fail;go_ret;refine⟨w.heap.size,gp1,go1,gn1,gp2,go2,gn2,rfl,?_,HT.out,HB.out⟩;have h:=HO.out;rw[HQ2.out,<-HXS.out] at h;exact h
def bU(n:Nat):Code->Option Code
 | .block id a=>if id=n then some (.block id a) else bU n a
 | .seq a b=>match bU n a with|some c=>some c|none=>bU n b
 | .cond _ a b=>match bU n a with|some c=>some c|none=>bU n b
 | .loop a=>bU n a
 | .scope a=>bU n a
 |_=>none
theorem lZ{X W:World}(h:Below X.heap.size X W):Below X.heap.size X W.drew:=h.drew
theorem dv{w:World}{a:Addr}{v:Value}(h:w.cell? a=some v):a.block<w.heap.size:=bK h
section
variable {T TS:TypeId} {s:Nat} {mc:Int->List Value}
theorem xA{w:World}{vs:List Value}{lb:Nat}{cs:Array Value}(hb:w.heap[lb]? =some (.cells cs TS (0,0)))(ho:∀v∈vs,bd w 0 T s v)(hT:T≠TS):lb∉aW vs:=by intro h;obtain⟨v,hv,e⟩:=eV h;obtain⟨c,h1⟩:=(ho v hv).block e;rw[h1] at hb;injection hb with hb;injection hb with _ hb;exact hT hb
structure cd (T TS:TypeId) (s:Nat) (w:World) (lb c K:Nat) (vs:List Value):Prop where
 row:w.ownsRow 0 TS 1 (.slice (some ⟨lb,0,none⟩) K c) K vs
 out:lb∉aW vs
 len:vs.length=K
 lens:∀v∈vs,lenOf v<=1000000
 lt:lb<w.heap.size
theorem cd.of{w:World}{lb c K:Nat}{vs:List Value}(h:w.ownsRow 0 TS 1 (.slice (some ⟨lb,0,none⟩) K c) K vs)(ho:∀v∈vs,bd w 0 T s v)(hT:T≠TS)(hn:∀v∈vs,lenOf v<=1000000):cd T TS s w lb c K vs:=by obtain⟨cur,hb⟩:=bd.block ⟨_,_,h⟩ (g:=lb) rfl;exact⟨h,xA hb ho hT,by have:=h.1;simpa using this,hn,(aK.1 hb).1⟩
theorem cd.cell{w wr:World}{lb c K:Nat}{vs:List Value}(h:cd T TS s w lb c K vs)(hfr:wr.heap[lb]? =w.heap[lb]?){k:Nat}{v:Value}(hv:vs[k]? =some v):wr.cell? ⟨lb,k,none⟩=some v:=by rw[World.cell?_of_block hfr];exact bH h.row k v hv
theorem cd.marked{w wr:World}{lb c K k i:Nat}{vs:List Value}(h:cd T TS s w lb c K vs)(hM:bC T s mc w wr vs k i):wr.heap[lb]? =w.heap[lb]? :=hM.frame lb h.lt h.out
theorem cd.grown{w wr:World}{lb c K:Nat}{vs us:List Value}{E:Nat->Nat->List Value}(h:cd T TS s w lb c K vs)(hM:aV T s mc w.heap.size w wr vs us E):wr.heap[lb]? =w.heap[lb]? :=hM.frame lb h.lt h.out
theorem cd.get{w wr:World}{lb c K:Nat}{vs:List Value}(h:cd T TS s w lb c K vs)(hfr:wr.heap[lb]? =w.heap[lb]?)(hrow:∀(j:Nat) (v:Value),vs[j]? =some v->∃n xs,wr.ownsRow 0 T s v n xs){k:Nat}(hk:k<K):∃A n cc,vs[k]? =some (.slice A n cc)/\wr.cell? ⟨lb,k,none⟩=some (.slice A n cc)/\n<=1000000/\n<=cc/\cc<=maxLen:=by have hl:=h.len;obtain⟨v,hv⟩:∃v,vs[k]? =some v:=⟨vs[k]'(by omega),br (by omega)⟩;obtain⟨n,xs,ho⟩:=hrow k v hv;obtain⟨A,c',rfl,h1,h2⟩:=cw ho;have:=h.lens _ (List.mem_of_getElem? hv);exact⟨A,n,c',hv,h.cell hfr hv,this,h1,h2⟩
theorem kE{w:World}{B:Nat}{A:Option Addr}{n c:Nat}{xs:List Value}{m:Nat}(h:w.ownsRow B T s (.slice A n c) m xs)(hn:0<n):∃g,A=some ⟨g,0,none⟩:=by have:=rd h;subst this;obtain⟨g,cap,e,_⟩:=h.form hn;injection e with e;exact⟨g,e⟩
theorem fE{w:World}{B g n c:Nat}{xs:List Value}(h:w.ownsRow B T s (.slice (some ⟨g,0,none⟩) n c) n xs){p:Nat}(hp:p<n*s):∃x,w.cell? ⟨g,p,none⟩=some x/\w.frozen? ⟨g,p,none⟩=false:=by have hl:=h.1;exact⟨xs[p]'(by omega),bH h p _ (br (by omega)),oG h p⟩
theorem fM{i n:Nat}(hi:i<n){q:Nat}(hq:q<s):i*s+q<n*s:=by have:=Nat.mul_le_mul_right s (show i+1<=n by omega);rw[Nat.add_mul] at this;omega
end
theorem oD{w:World}{B B':Nat}{T T':TypeId}{s s':Nat}{v v':Value}{n n':Nat}{xs xs':List Value}(h:w.ownsRow B T s v n xs)(h':w.ownsRow B' T' s' v' n' xs')(hT:T≠T'){q:Nat}(hq:v.ownBlock=some q):v'.ownBlock≠some q:=by intro e;obtain⟨c,h1⟩:=bd.block ⟨n,xs,h⟩ hq;obtain⟨c',h2⟩:=bd.block ⟨n',xs',h'⟩ e;rw[h1] at h2;injection h2 with h2;injection h2 with _ h2;exact hT h2
def aZ(TS:TypeId)(H:Nat)(w:World)(G K:Nat)(l:List Value):Prop:=w.ownsRow H TS 1 (.slice (some ⟨G,0,none⟩) K K) K l
section
variable {T TS:TypeId} {s:Nat} {mc:Int->List Value}
theorem aZ.below{H:Nat}{w w':World}{G K:Nat}{l:List Value}(h:aZ TS H w G K l)(hb:Below w.heap.size w w'):aZ TS H w' G K l:=bM h hb (ah _)
theorem aZ.len{H:Nat}{w:World}{G K:Nat}{l:List Value}(h:aZ TS H w G K l):l.length=K:=by have:=h.1;simpa using this
theorem aZ.way{H:Nat}{w w':World}{G K:Nat}{l:List Value}{u u':Value}{len m:Nat}{xs:List Value}(h:aZ TS H w G K l)(ho:w.ownsRow 0 T s u len xs)(hT:T≠TS)(hw:jY u u' len m w w'):aZ TS H w' G K l:=by
 refine eB h fun q e=>?_;have hq:=(h.lt q e).2;rcases hw with ⟨g,cap,e1,_,_,hg⟩|⟨cap,_,_,hg,_⟩
 .refine hg.block q hq fun e2=>?_;exact oD ho h hT (q:=q) (by rw[e1,e2];rfl) e
 .exact hg.block q hq (by simp)
theorem aZ.cell{H:Nat}{w:World}{G K:Nat}{l:List Value}(h:aZ TS H w G K l){k:Nat}{v:Value}(hv:l[k]? =some v):w.cell? ⟨G,k,none⟩=some v:=bH h k v hv
theorem aZ.soft{H:Nat}{w:World}{G K:Nat}{l:List Value}(h:aZ TS H w G K l)(k:Nat):w.frozen? ⟨G,k,none⟩=false:=oG h k
theorem aZ.set{H:Nat}{w:World}{G K:Nat}{us rest:List Value}{x u:Value}(h:aZ TS H w G K (us++x::rest)):aZ TS H (w.setCell ⟨G,us.length,none⟩ u) G K ((us++[u])++rest):=by have:=oF h us.length u;rw[List.set_append_right _ _ (ah _),Nat.sub_self,List.set_cons_zero] at this;rw[List.append_assoc];exact this
theorem aV.gs{H:Nat}{w0 w:World}{vs us:List Value}{E:Nat->Nat->List Value}{G K p:Nat}{l:List Value}{u:Value}(h:aV T s mc H w0 w vs us E)(hg:aZ TS H w G K l)(hT:T≠TS):aV T s mc H w0 (w.setCell ⟨G,p,none⟩ u) vs us E:=by
 have hGH:=(hg.lt G rfl).1;refine⟨fun j v hv=>eB (h.rows j v hv) fun q e=>aY _ _ _ _ fun e2=>?_,fun j v y hv hy=>eB (h.ext j v y hv hy) fun q e=>aY _ _ _ _ fun e2=>?_,h.sep,fun q hq hn=>?_,by simpa using h.size,h.calm.trans ⟨rfl,rfl,rfl⟩⟩
 .have e2:q=G:=e2;exact oD (h.rows j v hv) hg hT e (by rw[e2];rfl)
 .have e2:q=G:=e2;exact oD (h.ext j v y hv hy) hg hT e (by rw[e2];rfl)
 .rw[aY _ _ _ _ (show q≠G by omega)];exact h.frame q hq hn
theorem kN{us rest:List Value}{k K:Nat}(hl:(us++rest).length=K)(hu:us.length=k)(hk:k<K):∃x r,rest=x::r:=by
 cases rest with
 |nil=>simp at hl;omega
 |cons x r=>exact⟨x,r,rfl⟩
theorem ky{us rest:List Value}{x:Value}{k:Nat}(hu:us.length=k):(us++x::rest)[k]? =some x:=by rw[eK (by omega),<-hu];simp
end
theorem qB{k i:Nat}{x:Int}{w:World}(h:x=(i:Int))(hk:k<=1000000)(hi:i<=1000000000):Calls Tryz.prog 45 #[.int .i64 k,.int .i64 x] w (fun e w'=>e= .returned (.int .i64 (aB k i))/\w=w'):=by subst h;exact gP k i w hk hi
theorem qC{k i:Nat}{x:Int}{w:World}(h:x=(i:Int))(hk:k<=1000000)(hi:i<=1000000000):Calls Tryz.prog 113 #[.int .i64 k,.int .i64 x] w (fun e w'=>e= .returned (.agg #[.int .u8 0,.string ⟨#[]⟩,.int .i64 (aB k i),.slice none 0 0])/\Below w.heap.size w w'):=by subst h;exact ip k i w hk hi
theorem qz{k i:Nat}{x:Int}{w:World}(h:x=(i:Int))(hk:k<=1000000)(hi:i<=1000000000):Calls Tryz.prog 21 #[.int .i64 k,.int .i64 x] w (fun e w'=>e= .returned (.agg #[.int .u8 0,.slice none 0 0,.int .i64 (aB k i),.int .i64 0,.string ⟨#[]⟩,.string ⟨#[]⟩,.slice none 0 0,.slice none 0 0])/\Below w.heap.size w w'):=by subst h;exact io k i w hk hi
theorem qO(m:Int):∀u∈aS m,u.oneCell'=true:=by intro u hu;simp[aS] at hu;subst hu;rfl
theorem wO(w:World)(m:Int):∀j u,(aS m)[j]? =some u->(w.alloc (.cells #[.int .i64 m] 3)).cell? ((⟨w.heap.size,0,none⟩:Addr).add j)=some u:=World.news_of_block (heap_alloc_new w _)
theorem wN(w:World)(m:Int):∀j u,(aR m)[j]? =some u->(w.alloc (.cells #[.int .u8 0,.slice none 0 0,.int .i64 m,.int .i64 0,.string ⟨#[]⟩,.string ⟨#[]⟩,.slice none 0 0,.slice none 0 0] 26)).cell? ((⟨w.heap.size,0,none⟩:Addr).add j)=some u:=World.news_of_block (heap_alloc_new w _)
def nu(vs:List Value)(w:World)(e:Ending)(w':World):Prop:=e= .returned (.bool true)/\(∀q,q<w.heap.size->q∉aW vs->w'.heap[q]? =w.heap[q]?)/\w.heap.size<=w'.heap.size/\cY w w'
end Go.Proofs.YtlkmefhogabgdaaGreatDoor
