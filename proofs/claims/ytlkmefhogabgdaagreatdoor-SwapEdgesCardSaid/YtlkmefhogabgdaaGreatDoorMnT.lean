/- Part 20 of the proof. -/
import Derived.SizedLaws
import Derived.DataShut
import Derived.Test.YtlkmefhogabgdaaGreatDoorCards
import Derived.Test.YtlkmefhogabgdaaGreatDoorTie
import Derived.ProofKit
import Derived.LaidMore
import Derived.OpenShut
import Derived.Carry
import Derived.Stop.Joined
import Derived.Stop.LaidErr
import Derived.Lib.LaidTab
import Derived.Deep.DeepHandedRow
import Derived.Test.YtlkmefhogabgdaaGreatDoorMnP
import Derived.Test.YtlkmefhogabgdaaGreatDoorMnS
namespace Go.Proofs.YtlkmefhogabgdaaGreatDoor
open Go.RowKit
set_option linter.all false
set_option maxHeartbeats 40000000
set_option maxRecDepth 100000
def lQ(m:Nat):Prop:=∀(ks:List ag) (g:Nat) (A:Option Addr) (n c:Nat) (w:World),ao ks<m->KidsAt w ks (some ⟨g,0,none⟩) n (n+12)->cC w ks (some ⟨g,0,none⟩) n (n+12)->KidsAt w ks A n c->n<=1000000->
 Calls Tryz.prog 89 #[.slice (some ⟨g,0,none⟩) n (n+12),.slice A n c] w (ak true w)
theorem wu{m:Nat}(ih:Hid (lQ m))(t:ag)(k:Nat)(s:ByteArray)(x:Int)(g n:Nat)(k':Nat)(s':ByteArray)(x':Int)(A:Option Addr)(n' c:Nat)(w:World)(hsz:t.sz<=m)(hm:m<=1000000)(hN:cf w t k s x (some ⟨g,0,none⟩) n (n+12))(hL:cC w t.kids (some ⟨g,0,none⟩) n (n+12))(hN':cf w t k' s' x' A n' c):Calls Tryz.prog 147 #[.agg #[.int .u8 k,.string s,.int .i64 x,.slice (some ⟨g,0,none⟩) n (n+12)],.agg #[.int .u8 k',.string s',.int .i64 x',.slice A n' c]] w (ak true w):=by
 have hb0:Below w.heap.size w ((w.alloc (.cells #[.int .u8 k,.string s,.int .i64 x,.slice (some ⟨g,0,none⟩) n (n+12)] 44)).alloc (.cells #[.int .u8 k',.string s',.int .i64 x',.slice A n' c] 44)):=bt (bt (ai _ _) _) _;have HB0:=aa hb0;have HN:=aa (hN.below hb0);have HN':=aa (hN'.below hb0);have HL:=aa (hL.below hb0);have HSM:Hid (t.same t=true):=(same_iff t t).2 rfl;have HSZ:Hid (ao t.kids<m):=by obtain⟨k0,s0,x0,ks0⟩:=t;show _<_;simp only[ag.sz] at hsz;simp only[ag.kids];omega
 obtain⟨ks,e1,_,_,_,hK⟩:=hN;obtain⟨ks',e2,_,_,_,hK'⟩:=hN';have hn':n'=n:=(by rw[e1] at e2;injection e2 with _ _ _ e2;rw[hK'.1,hK.1,e2]);subst hn';have HKT:Hid (t.kids=ks/\t.kids=ks'):=⟨by rw[e1];rfl,by rw[e2];rfl⟩;have HK:=aa (hK.below hb0);have HK':=aa (hK'.below hb0);have hn6:n'<=1000000:=by have h1:=eA ks;have h2:=HSZ.out;rw[HKT.out.1] at h2;have h3:=hK.1;omega
 clear hb0 hsz hm hL e1 e2 hK hK'
 go_in
 go_wp2_with fail;refine(iM t t _ _ _ _ _ _ _ _ _ _ _ _ _ HN.out HN'.out).mono ?_;rintro e w1 ⟨rfl,hb1⟩;rw[HSM.out];have HB1:=aa hb1;have hbox:w1.heap[w.heap.size]? =some (.cells #[.int .u8 k,.string s,.int .i64 x,.slice (some ⟨g,0,none⟩) n' (n'+12)] 44 (0,0)):=(hb1.block _ (by simp;omega)).trans ((heap_alloc_old _ _ (by simp)).trans (heap_alloc_new _ _));have hres:w1.heap[w.heap.size+1]? =some (.cells #[.int .u8 k',.string s',.int .i64 x',.slice A n' c] 44 (0,0)):=(hb1.block _ (by simp)).trans (aQ (by simp));obtain⟨c0,c1,c2,c3,f0,f1,f2,f3⟩:=di hbox;obtain⟨r0,r1,r2,r3,g0,g1,g2,g3⟩:=di hres;clear hb1 hbox hres;go_wp2_with fail;refine(ih.out t.kids g A n' c _ HSZ.out ?_ (HL.out.below HB1.out) ?_ hn6).mono ?_
 .rw[HKT.out.1];exact HK.out.below HB1.out
 .rw[HKT.out.2];exact HK'.out.below HB1.out
 rintro e w2 ⟨rfl,hb2⟩;have HB2:=aa hb2;clear hb2;go_wp2_with fail;go_ret;exact ak.intro rfl (af (af HB0.out HB1.out) HB2.out)
theorem gk(w:World)(m:Int)(h:cm m):cf w (.node 0 [] m []) 0 ⟨#[]⟩ m none 0 0:=⟨[],rfl,by omega,aE _,h,KidsAt.nil _ _ (aE _)⟩
theorem ox{k i:Nat}(hk:k<=1000000)(hi:i<=1000000000):cm (aB k i):=by unfold cm aB;omega
theorem wE{w:World}{ks:List ag}{g n c:Nat}(h:cC w ks (some ⟨g,0,none⟩) n c){r:Nat}(hr:r<12):w.cell? ⟨g,(n+r) *4,none⟩=some (.int .u8 0)/\w.cell? ⟨g,(n+r) *4+1,none⟩=some (.string ⟨#[]⟩)/\w.cell? ⟨g,(n+r) *4+2,none⟩=some (.int .i64 (aB 1 r))/\w.cell? ⟨g,(n+r) *4+3,none⟩=some (.slice none 0 0):=by
 obtain⟨h1,_,g',e,hm,_⟩:=h;injection e with e;injection e with e;subst e;have hq:∀q u,q<4->(aT (aB 1 r))[q]? =some u->w.cell? ⟨g,(n+r) *4+q,none⟩=some u:=fun q u hq hu=>by have:=hm (r*4+q) u (by rw[jD iQ 1 0 hq hr,Nat.zero_add];exact hu);rwa [<-h1,show n*4+(r*4+q)=(n+r) *4+q from by omega] at this
 exact⟨hq 0 _ (by omega) rfl,hq 1 _ (by omega) rfl,hq 2 _ (by omega) rfl,hq 3 _ (by omega) rfl⟩
theorem wk{i n r:Nat}(h:IntKind.i64.wrap ((i:Int) - (n:Int))=(r:Int))(hr:r<=1000000000)(w:World):Calls Tryz.prog 113 #[.int .i64 1,.int .i64 (IntKind.i64.wrap ((i:Int) - (n:Int)))] w (fun e w'=>e= .returned (.agg #[.int .u8 0,.string ⟨#[]⟩,.int .i64 (aB 1 r),.slice none 0 0])/\Below w.heap.size w w'):=by rw[h];exact ip 1 r w (by omega) hr
theorem lY{X W:World}(h:Below X.heap.size X W)(n:Nat):Below X.heap.size X (W.drewN n):=ax h n
theorem wv(m:Nat)(hm:m<=1000000)(ih:Hid (lQ m)):lQ (m+1):=by
 intro ks g A n c w hsz hK hL hK' hn;have HK:=aa hK;have HK':=aa hK';have HL:=aa hL;have HSZ:=aa hsz;have HLN:Hid (n=ks.length):=hK.1;clear hK hK' hL hsz
 go_in
 go_wp2_with fail;go_loopw [6] (fun i wr=>∃j:Nat,j<=n+12/\i= .int .i64 j/\Hid (Below w.heap.size w wr)) (fun i _=>n+12 - (intOf i).toNat);case atStart=>exact⟨0,aE _,rfl,ai _ _⟩
 case round=>
  obtain⟨j,hj,rfl,HB⟩:=hrel;by_cases hlt:j<n+12
  .by_cases hln:j<n
   .obtain⟨b1,o1,t,e1,ht,hat⟩:=(HK.out.below HB.out).get hln;injection e1 with e1;injection e1 with e1 e2;subst e1 e2;obtain⟨B1,d1,q0,q1,q2,q3,hnode⟩:=hat.cells;obtain⟨b2,o2,u,rfl,hu,hat'⟩:=(HK'.out.below HB.out).get hln;have hut:u=t:=(by rw[ht] at hu;injection hu with hu;exact hu.symm);subst hut;obtain⟨B2,d2,p0,p1,p2,p3,hnode'⟩:=hat'.cells;obtain⟨g2,hgB,hd1⟩:∃g2,B1=some ⟨g2,0,none⟩/\d1=u.kids.length+12:=by obtain⟨_,_,g0,e0,_,hr⟩:=HL.out.below HB.out;injection e0 with e0;injection e0 with e0;have:=fq.kids (hr.get ht) (by rw[<-e0];exact q3);obtain⟨_,e5,g2,e6,_⟩:=this;exact⟨g2,e6,e5⟩
    have hlk:cC wr u.kids B1 u.kids.length d1:=by obtain⟨_,_,g0,e0,_,hr⟩:=HL.out.below HB.out;injection e0 with e0;injection e0 with e0;exact fq.kids (hr.get ht) (by rw[<-e0];exact q3)
    subst hgB hd1;rw[Nat.zero_add] at q0 q1 q2 q3;have HND:=aa hnode;have HND':=aa hnode';have HLK:=aa hlk;have HST:Hid (u.sz<=m):=aJ (kT ht) (Nat.le_of_lt_succ HSZ.out);have da:decide (j<n)=true:=(by simpa using hln);have db:decide (n<=j)=false:=(by simp;omega);clear ht hat hnode hu hat' hnode' hlk;go_upto_region 7 with fail;refine wp_region_noPanic ?_;refine wp_region_held_drew (S:=(fun w'=>(w'.cell? ⟨g,j*4,none⟩=some (.int .u8 u.kind)/\w'.cell? ⟨g,j*4+1,none⟩=some (.string (sb u.text))/\w'.cell? ⟨g,j*4+2,none⟩=some (.int .i64 u.num)/\w'.cell? ⟨g,j*4+3,none⟩=some (.slice (some ⟨g2,0,none⟩) u.kids.length (u.kids.length+12)))/\(w'.cell? ⟨b2,o2+j*4,none⟩=some (.int .u8 u.kind)/\w'.cell? ⟨b2,o2+j*4+1,none⟩=some (.string (sb u.text))/\w'.cell? ⟨b2,o2+j*4+2,none⟩=some (.int .i64 u.num)/\w'.cell? ⟨b2,o2+j*4+3,none⟩=some (.slice B2 u.kids.length d2)))) (by kernel_rfl) ?_ fun hH0=>?_
    .exact⟨⟨ac bz q0,ac bz q1,ac bz q2,ac bz q3⟩,⟨ac bz p0,ac bz p1,ac bz p2,ac bz p3⟩⟩
    refine ae 0 ?_;refine ae 1 ?_;refine ae 2 ?_;refine ae 3 ?_;refine ae 4 ?_;refine ae 5 ?_;refine ae 6 ?_;refine ae 7 ?_;refine ae 8 ?_;refine ae 9 ?_;refine ae 10 ?_;refine ae 11 ?_;refine ae 12 ?_;refine aL 13 fun K hK=>?_;go_simp;refine(wu ih u _ _ _ _ _ _ _ _ _ _ _ _ HST.out hm (HND.out.below bz) (HLK.out.below bz) (HND'.out.below bz)).mono ?_;rintro e w2 ⟨rfl,hb2⟩;have HD2:Hid (Below wr.heap.size wr w2):=af bz hb2;clear hb2;go_wp2_with fail;refine hK.out _ _ ?_ (fun hH1=>?_)
    .exact⟨⟨ac HD2.out q0,ac HD2.out q1,ac HD2.out q2,ac HD2.out q3⟩,⟨ac HD2.out p0,ac HD2.out p1,ac HD2.out p2,ac HD2.out p3⟩⟩
    clear hK K;refine aM ?_;refine ae 14 ?_;refine ae 15 ?_;refine ae 16 ?_;refine ae 17 ?_;refine ae 18 ?_;refine ae 19 ?_;refine ae 20 ?_;refine ae 21 ?_;refine az 22 ?_;refine az 23 ?_;refine az 24 ?_;refine az 25 ?_;refine az 26 ?_;refine az 27 ?_;refine az 28 ?_;refine az 29 ?_;refine az 30 ?_;refine az 31 ?_;refine az 32 ?_;refine ae 33 ?_;refine ae 34 ?_;refine wpAnyH_done (by kernel_rfl) ?_ _;refine NoPanic.normal ?_;have HB3:=aa (af HB.out HD2.out);clear q0 q1 q2 q3 p0 p1 p2 p3 hH0 hH1;go_wp2;go_roundw;case rel=>exact⟨j+1,by omega,by go_num,HB3⟩
    case measure=>simp[intOf];omega
   .obtain⟨r,hr⟩:∃r,j=n+r:=⟨j - n,by omega⟩;have hr12:r<12:=(by omega);have hr9:r<=1000000000:=(by omega);obtain⟨m0,m1,m2,m3⟩:=wE (HL.out.below HB.out) hr12;rw[<-hr] at m0 m1 m2 m3;have HS:Hid (IntKind.i64.wrap ((j:Int) - (n:Int))=(r:Int)):=(by show _=_;rw[show(j:Int) - (n:Int)=(r:Int) from by omega];exact IntWalk.i64_in _ (by omega));have HFT:Hid (cm (aB 1 r)):=ox (by omega) hr9;have HSM:Hid ((ag.node 0 [] (aB 1 r) []).same (ag.node 0 [] (aB 1 r) [])=true):=(same_iff _ _).2 rfl;have da:decide (j<n)=false:=(by simp;omega);have db:decide (n<=j)=true:=(by simp;omega);clear hr;go_upto_region 7 with fail;refine wp_region_noPanic ?_;refine wp_region_held_drew (S:=(fun w'=>w'.cell? ⟨g,j*4,none⟩=some (.int .u8 0)/\w'.cell? ⟨g,j*4+1,none⟩=some (.string ⟨#[]⟩)/\w'.cell? ⟨g,j*4+2,none⟩=some (.int .i64 (aB 1 r))/\w'.cell? ⟨g,j*4+3,none⟩=some (.slice none 0 0))) (by kernel_rfl) ?_ fun hH0=>?_
    .exact⟨ac bz m0,ac bz m1,ac bz m2,ac bz m3⟩
    refine ae 0 ?_;refine ae 1 ?_;refine ae 2 ?_;refine ae 3 ?_;refine ae 4 ?_;refine az 5 ?_;refine az 6 ?_;refine az 7 ?_;refine az 8 ?_;refine az 9 ?_;refine az 10 ?_;refine az 11 ?_;refine az 12 ?_;refine az 13 ?_;refine az 14 ?_;refine ae 15 ?_;refine ae 16 ?_;refine ae 17 ?_;refine ae 18 ?_;refine ae 19 ?_;refine ae 20 ?_;refine ae 21 ?_;refine ae 22 ?_;refine ae 23 ?_;refine ae 24 ?_;refine ae 25 ?_;refine ae 26 ?_;refine ae 27 ?_;refine ae 28 ?_;refine ae 29 ?_;refine aL 30 fun K hK=>?_;go_simp;refine(wk (i:=j) (n:=n) HS.out hr9 _).mono ?_;rintro e w2 ⟨rfl,hb2⟩;have HD2:Hid (Below wr.heap.size wr w2):=af bz hb2;clear hb2;go_wp2_with fail;refine hK.out _ _ ?_ (fun hH1=>?_)
    .exact⟨ac HD2.out m0,ac HD2.out m1,ac HD2.out m2,ac HD2.out m3⟩
    clear hK K;refine aM ?_;refine aL 31 fun K hK=>?_;go_simp;refine(iM (.node 0 [] (aB 1 r) []) (.node 0 [] (aB 1 r) []) _ _ _ _ _ _ _ _ _ _ _ _ _ (gk _ _ HFT.out) (gk _ _ HFT.out)).mono ?_;rintro e w3 ⟨rfl,hb3⟩;rw[HSM.out];have HD3:Hid (Below wr.heap.size wr w3):=af HD2.out hb3;clear hb3;go_wp2_with fail;refine hK.out _ _ ?_ (fun hH2=>?_)
    .exact⟨ac HD3.out m0,ac HD3.out m1,ac HD3.out m2,ac HD3.out m3⟩
    clear hK K;refine aM ?_;refine ae 32 ?_;refine ae 33 ?_;refine ae 34 ?_;refine wpAnyH_done (by kernel_rfl) ?_ _;refine NoPanic.normal ?_;have HB3:=aa (af HB.out HD3.out);clear m0 m1 m2 m3 hH0 hH1 hH2;go_wp2;go_roundw;case rel=>exact⟨j+1,by omega,by go_num,HB3⟩
    case measure=>simp[intOf];omega
  .have hj12:j=n+12:=(by omega);subst hj12;go_wp2_with fail;go_ret;exact ak.intro rfl HB.out
theorem qF:∀m,m<=1000000->lQ m
 |0,_=>fun ks g A n c w h=>absurd h (Nat.not_lt_zero _)
 |m+1,h=>wv m (by omega) (aa (qF m (by omega)))
theorem qw(ks:List ag)(g:Nat)(A:Option Addr)(n c:Nat)(w:World)(hsz:ao ks<1000000)(hK:KidsAt w ks (some ⟨g,0,none⟩) n (n+12))(hL:cC w ks (some ⟨g,0,none⟩) n (n+12))(hK':KidsAt w ks A n c):Calls Tryz.prog 89 #[.slice (some ⟨g,0,none⟩) n (n+12),.slice A n c] w (ak true w):=
 qF 1000000 (by omega) ks g A n c w hsz hK hL hK' (by have h1:=eA ks;have h2:=hK.1;omega)
theorem Tryz.infoRI:(Tryz.prog.info? 23).map (fun i=>(i.zero,i.size,i.bytes))=some (some (.slice none 0 0),1,24):=by kernel_rfl
theorem Tryz.infoRN:(Tryz.prog.info? 24).map (fun i=>(i.zero,i.size,i.bytes))=some (some (.slice none 0 0),1,24):=by kernel_rfl
theorem Tryz.infoRE:(Tryz.prog.info? 29).map (fun i=>(i.zero,i.size,i.bytes))=some (some (.slice none 0 0),1,24):=by kernel_rfl
def iG(I N E:Value):Array Value:=#[.slice none 0 0,.slice none 0 0,I,.slice none 0 0,.slice none 0 0,.slice none 0 0,.slice none 0 0,.slice none 0 0,.slice none 0 0,N,.slice none 0 0,.slice none 0 0,.slice none 0 0,E,.slice none 0 0,.slice none 0 0,.slice none 0 0,.slice none 0 0,.slice none 0 0,.slice none 0 0,.slice none 0 0]
structure dD (w:World) (b:Nat) (vi vn ve:List Value) (I N E:Value):Prop where
 box:w.heap[b]? =some (.cells (iG I N E) 83 (0,0))
 ints:w.ownsRow (b+1) 23 1 I vi.length vi
 nodes:w.ownsRow (b+1) 24 1 N vn.length vn
 edits:w.ownsRow (b+1) 29 1 E ve.length ve
def dm(w:World)(b:Nat)(vi vn ve:List Value):Prop:=∃I N E,dD w b vi vn ve I N E
theorem lx{w:World}{B:Nat}{T:TypeId}{s:Nat}{v:Value}{n:Nat}{xs:List Value}(h:w.ownsRow B T s v n xs){g:Nat}(hg:v.ownBlock=some g):∃cur,w.heap[g]? =some (.cells cur T (0,0)):=bd.block ⟨n,xs,h⟩ hg
theorem kC{w:World}{B B':Nat}{T T':TypeId}{s s':Nat}{v v':Value}{n n':Nat}{xs xs':List Value}(h:w.ownsRow B T s v n xs)(h':w.ownsRow B' T' s' v' n' xs')(hT:T≠T'){q:Nat}(hq:v.ownBlock=some q):v'.ownBlock≠some q:=by intro e;obtain⟨c,h1⟩:=lx h hq;obtain⟨c',h2⟩:=lx h' e;rw[h1] at h2;injection h2 with h2;injection h2 with _ h2;exact hT h2
theorem kD{w:World}{B b:Nat}{T T':TypeId}{s:Nat}{v:Value}{n:Nat}{xs:List Value}{cs:Array Value}{fr:Nat×Nat}(h:w.ownsRow B T s v n xs)(hb:w.heap[b]? =some (.cells cs T' fr))(hT:T≠T'):v.ownBlock≠some b:=by intro e;obtain⟨c,h1⟩:=lx h e;rw[h1] at hb;injection hb with h2;injection h2 with _ h2;exact hT h2
theorem dD.below{w w':World}{b:Nat}{vi vn ve:List Value}{I N E:Value}(h:dD w b vi vn ve I N E)(hb:Below w.heap.size w w'):dD w' b vi vn ve I N E:=
 ⟨(hb.block _ (aK.1 h.box).1).trans h.box,bM h.ints hb (ah _),bM h.nodes hb (ah _),bM h.edits hb (ah _)⟩
theorem dm.below{w w':World}{b:Nat}{vi vn ve:List Value}(h:dm w b vi vn ve)(hb:Below w.heap.size w w'):dm w' b vi vn ve:=by obtain⟨I,N,E,h⟩:=h;exact⟨I,N,E,h.below hb⟩
theorem dD.lt{w:World}{b:Nat}{vi vn ve:List Value}{I N E:Value}(h:dD w b vi vn ve I N E):b<w.heap.size:=(aK.1 h.box).1
theorem nO{w:World}{b:Nat}{vi vn ve:List Value}{I N E:Value}(h:dD w b vi vn ve I N E):w.cell? ⟨b,2,none⟩=some I/\w.cell? ⟨b,9,none⟩=some N/\w.cell? ⟨b,13,none⟩=some E/\w.frozen? ⟨b,2,none⟩=false/\w.frozen? ⟨b,9,none⟩=false/\w.frozen? ⟨b,13,none⟩=false:=by have hc:=fun j=>cell_of_row w b j _ _ (0,0) h.box;refine⟨(hc _).trans rfl,(hc _).trans rfl,(hc _).trans rfl,?_,?_,?_⟩ <;>simp[World.frozen?,h.box]
def dT(w w':World):Prop:=∀(q:Nat) (cs:Array Value) (T:TypeId) (fr:Nat×Nat),w.heap[q]? =some (.cells cs T fr)->(T≠83/\T≠23/\T≠24/\T≠29)->w'.heap[q]? =some (.cells cs T fr)
theorem dT.trans{w w1 w2:World}(h:dT w w1)(h':dT w1 w2):dT w w2:=fun q cs T fr hq hT=>h' q cs T fr (h q cs T fr hq hT) hT
theorem dT.of_below{w w':World}(h:Below w.heap.size w w'):dT w w':=fun q cs T fr hq _=>(h.block q (aK.1 hq).1).trans hq
theorem dT.put{w w1 w2:World}{b p:Nat}{u:Value}{B n:Nat}{T':TypeId}{v:Value}{xs:List Value}{cs':Array Value}(hb:Below w.heap.size w w1)(hbox:w1.heap[b]? =some (.cells cs' 83 (0,0)))(ho:w1.ownsRow B T' 1 v n xs)(hT':T'=23∨T'=24∨T'=29)(hg:w1.grownBy w2 v.ownBlock):dT w (w2.setCell ⟨b,p,none⟩ u):=by
 intro q cs T fr hq hT;have h1:=(hb.block q (aK.1 hq).1).trans hq;have hqb:q≠b:=by intro e;rw[e,hbox] at h1;injection h1 with h1;injection h1 with _ h1;exact hT.1 h1.symm
 rw[aY _ _ _ _ (by exact hqb),hg.block q (aK.1 h1).1 fun e=>?_,h1];obtain⟨c,h2⟩:=lx ho e.symm;rw[h1] at h2;injection h2 with h2;injection h2 with _ h2;rcases hT' with e'|e'|e'
 .exact hT.2.1 (h2.trans e')
 .exact hT.2.2.1 (h2.trans e')
 .exact hT.2.2.2 (h2.trans e')
def jU(b:Nat)(vi vn ve:List Value)(w:World)(e:Ending)(w':World):Prop:=(∃v,e= .returned v)/\dm w' b vi vn ve/\Below b w w'/\dT w w'
theorem dD.put_ints{w w':World}{b:Nat}{vi vn ve:List Value}{I N E l v':Value}(h:dD w b vi vn ve I N E)(ho:w'.ownsRow (b+1) 23 1 v' (vi.length+1) (vi++[l]))(hg:w.grownBy w' I.ownBlock):dD (w'.setCell ⟨b,2,none⟩ v') b (vi++[l]) vn ve v' N E:=by
 have hlt:=h.lt;have hbox:w'.heap[b]? =some (.cells (iG I N E) 83 (0,0)):=(hg.block b hlt (fun e=>kD h.ints h.box (by decide) e.symm)).trans h.box;have hb:b<b+1:=Nat.lt_succ_self _;refine⟨?_,?_,?_,?_⟩
 .simp[World.setCell,Array.getElem?_modify,hbox,iG]
 .exact ownsRow_setCell_below (by simpa using ho) hb _
 .exact ownsRow_setCell_below (eB h.nodes fun q e=>hg.block q (gA h.nodes e) fun e2=>kC h.nodes h.ints (by decide) e e2.symm) hb _
 .exact ownsRow_setCell_below (eB h.edits fun q e=>hg.block q (gA h.edits e) fun e2=>kC h.edits h.ints (by decide) e e2.symm) hb _
theorem dD.put_nodes{w w':World}{b:Nat}{vi vn ve:List Value}{I N E l v':Value}(h:dD w b vi vn ve I N E)(ho:w'.ownsRow (b+1) 24 1 v' (vn.length+1) (vn++[l]))(hg:w.grownBy w' N.ownBlock):dD (w'.setCell ⟨b,9,none⟩ v') b vi (vn++[l]) ve I v' E:=by
 have hlt:=h.lt;have hbox:w'.heap[b]? =some (.cells (iG I N E) 83 (0,0)):=(hg.block b hlt (fun e=>kD h.nodes h.box (by decide) e.symm)).trans h.box;have hb:b<b+1:=Nat.lt_succ_self _;refine⟨?_,?_,?_,?_⟩
 .simp[World.setCell,Array.getElem?_modify,hbox,iG]
 .exact ownsRow_setCell_below (eB h.ints fun q e=>hg.block q (gA h.ints e) fun e2=>kC h.ints h.nodes (by decide) e e2.symm) hb _
 .exact ownsRow_setCell_below (by simpa using ho) hb _
 .exact ownsRow_setCell_below (eB h.edits fun q e=>hg.block q (gA h.edits e) fun e2=>kC h.edits h.nodes (by decide) e e2.symm) hb _
theorem dD.put_edits{w w':World}{b:Nat}{vi vn ve:List Value}{I N E l v':Value}(h:dD w b vi vn ve I N E)(ho:w'.ownsRow (b+1) 29 1 v' (ve.length+1) (ve++[l]))(hg:w.grownBy w' E.ownBlock):dD (w'.setCell ⟨b,13,none⟩ v') b vi vn (ve++[l]) I N v':=by
 have hlt:=h.lt;have hbox:w'.heap[b]? =some (.cells (iG I N E) 83 (0,0)):=(hg.block b hlt (fun e=>kD h.edits h.box (by decide) e.symm)).trans h.box;have hb:b<b+1:=Nat.lt_succ_self _;refine⟨?_,?_,?_,?_⟩
 .simp[World.setCell,Array.getElem?_modify,hbox,iG]
 .exact ownsRow_setCell_below (eB h.ints fun q e=>hg.block q (gA h.ints e) fun e2=>kC h.ints h.edits (by decide) e e2.symm) hb _
 .exact ownsRow_setCell_below (eB h.nodes fun q e=>hg.block q (gA h.nodes e) fun e2=>kC h.nodes h.edits (by decide) e e2.symm) hb _
 .exact ownsRow_setCell_below (by simpa using ho) hb _
theorem tK{w w':World}{b:Nat}{vi vn ve:List Value}{I N E:Value}(h:dD w b vi vn ve I N E)(hk:w'.heap[b]? =w.heap[b]?):w'.cell? ⟨b,2,none⟩=some I/\w'.frozen? ⟨b,2,none⟩=false:=by have hb:=hk.trans h.box;exact⟨(cell_of_row w' b 2 _ _ (0,0) hb).trans rfl,by simp[World.frozen?,hb]⟩
theorem nP{w w1 w2:World}{b p:Nat}{u:Value}{row:Option Nat}(hb:Below w.heap.size w w1)(hs:b+1<=w.heap.size)(hg:w1.grownBy w2 row)(hr:∀k,row=some k->b+1<=k):Below b w (w2.setCell ⟨b,p,none⟩ u):=by have h1:Below b w w1:=hb.mono (iB hs);have h2:Below b w w2:=h1.grown hg (aJ (iB hs) hb.size) (fun k hk=>iB (hr k hk));exact h2.setCell (p:=⟨b,p,none⟩) (ah _) u
theorem wn(b:Nat)(vi vn ve:List Value)(A:Option Addr)(n c:Nat)(w:World)(h:dm w b vi vn ve)(hfew:vi.length<=1000000):Calls Tryz.prog 148 #[.pointer (some ⟨b,0,none⟩),.slice A n c] w (jU b (vi++[.slice A n c]) vn ve w):=by
 obtain⟨I,N,E,hB⟩:=h;obtain⟨c2,c9,c13,f2,f9,f13⟩:=nO hB;obtain⟨i0,hi,hz0,hz1,hz2⟩:=info_parts Tryz.infoRI;have hb1:Below w.heap.size w (w.alloc (.cells #[.slice A n c] 23)):=bt (ai _ _) _;have HB:=aa (hB.below hb1);have HB1:=aa hb1;have HO:=aa (hB.below hb1).ints;have HR:=aa (mT w (.slice A n c) 23);have HS:Hid (b+1<=w.heap.size):=hB.lt;clear hB hb1
 go_in
 go_wp2_with (at_builtin;refine wpList_append_own _ rfl _ _ 64 rfl (b+1) 23 i0 _ 1 24 Tryz.underlying64 hi hz0 hz1 hz2 rfl (by decide) I vi.length vi rfl HO.out ⟨w.heap.size,0,none⟩ 1 1 [.slice A n c] rfl rfl HR.out (by simp[Value.oneCell']) (by unfold maxLen;omega) (by omega) (by have:=HS.out;simp;omega) ?_;intro v' w2 hown2 hgr2 _;obtain⟨A2,k2,rfl,_⟩:=cw hown2;have HB2:=aa (HB.out.put_ints hown2 hgr2);obtain⟨g2,z2⟩:=tK HB.out (hgr2.block b HB.out.lt (fun e=>kD HB.out.ints HB.out.box (by decide) e.symm));have HF:=aa (nP (u:=.slice A2 (vi.length+1) k2) (p:=2) HB1.out HS.out hgr2 (fun k hk=>(HB.out.ints.lt k hk).1));have HKP:=aa (dT.put (u:=.slice A2 (vi.length+1) k2) (p:=2) HB1.out HB.out.box HB.out.ints (.inl rfl) hgr2);clear hown2 hgr2 c2 c9 c13 f2 f9 f13);exact bodyPost_end (v:=.tuple #[]) (by simp[results,Tryz.results148,go_sem]) rfl ⟨⟨_,rfl⟩,⟨_,_,_,HB2.out⟩,HF.out,HKP.out⟩
theorem tM{w w':World}{b:Nat}{vi vn ve:List Value}{I N E:Value}(h:dD w b vi vn ve I N E)(hk:w'.heap[b]? =w.heap[b]?):w'.cell? ⟨b,9,none⟩=some N/\w'.frozen? ⟨b,9,none⟩=false:=by have hb:=hk.trans h.box;exact⟨(cell_of_row w' b 9 _ _ (0,0) hb).trans rfl,by simp[World.frozen?,hb]⟩
theorem tL{w w':World}{b:Nat}{vi vn ve:List Value}{I N E:Value}(h:dD w b vi vn ve I N E)(hk:w'.heap[b]? =w.heap[b]?):w'.cell? ⟨b,13,none⟩=some E/\w'.frozen? ⟨b,13,none⟩=false:=by have hb:=hk.trans h.box;exact⟨(cell_of_row w' b 13 _ _ (0,0) hb).trans rfl,by simp[World.frozen?,hb]⟩
def lS(m:Nat):Prop:=∀(ks:List ag) (A:Option Addr) (n c:Nat) (R:List Value) (b:Nat) (vi vn ve:List Value) (w0 w:World),ao ks<m->KidsAt w0 ks A n c->dr w0 ks A n c R->w0.heap.size<=b->Below b w0 w->dm w b vi vn ve->vn.length+R.length<=1000000->
 Calls Tryz.prog 149 #[.pointer (some ⟨b,0,none⟩),.slice A n c] w (jU b vi (vn++R) ve w)
theorem zo{m:Nat}(ih:Hid (lS m))(t:ag)(k:Nat)(s:ByteArray)(x:Int)(A:Option Addr)(n c:Nat)(R:List Value)(b:Nat)(vi vn ve:List Value)(w0 w:World)(hsz:t.sz<=m)(hN:KidsAt w0 t.kids A n c)(hR:dr w0 t.kids A n c R)(h0:w0.heap.size<=b)(hb:Below b w0 w)(hB:dm w b vi vn ve)(hf:vn.length+R.length<=1000000):Calls Tryz.prog 190 #[.pointer (some ⟨b,0,none⟩),.agg #[.int .u8 k,.string s,.int .i64 x,.slice A n c]] w (jU b vi (vn++R) ve w):=by
 have hb0:Below w.heap.size w (w.alloc (.cells #[.int .u8 k,.string s,.int .i64 x,.slice A n c] 44)):=bt (ai _ _) _;have hlt:b<w.heap.size:=(by obtain⟨I,N,E,hh⟩:=hB;exact hh.lt);have HSZ:Hid (ao t.kids<m):=by obtain⟨k0,s0,x0,ks0⟩:=t;show _<_;simp only[ag.sz] at hsz;simp only[ag.kids];omega
 have HB:=aa (hB.below hb0);have HF:Hid (Below b w (w.alloc (.cells #[.int .u8 k,.string s,.int .i64 x,.slice A n c] 44))):=hb0.mono (iB hlt);have HKA:=aa (dT.of_below hb0);have HG:=aa (And.intro hN (And.intro hR (And.intro h0 (And.intro hb hf))));clear hb0 hlt hsz hN hR h0 hb hB hf
 go_in
 go_wp2_with fail;refine(ih.out t.kids A n c R b vi vn ve w0 _ HSZ.out HG.out.1 HG.out.2.1 HG.out.2.2.1 (HG.out.2.2.2.1.trans HF.out) HB.out HG.out.2.2.2.2).mono ?_;rintro e w1 ⟨⟨v,rfl⟩,hB1,hf1,hk1⟩;have HP:Hid (dm w1 b vi (vn++R) ve/\Below b w w1/\dT w w1):=⟨hB1,HF.out.trans hf1,HKA.out.trans hk1⟩;clear hB1 hf1 hk1;go_wp2_with fail;exact bodyPost_end (v:=.tuple #[]) (by simp[results,Tryz.results190,go_sem]) rfl ⟨⟨_,rfl⟩,HP.out.1,HP.out.2.1,HP.out.2.2⟩
theorem zp(m:Nat)(ih:Hid (lS m)):lS (m+1):=by
 intro ks A n c R b vi vn ve w0 w hsz hK hR h0 hb hBI hf;obtain⟨I,N,E,hB⟩:=hBI;obtain⟨c2,c9,c13,f2,f9,f13⟩:=nO hB;obtain⟨i0,hi,hz0,hz1,hz2⟩:=info_parts Tryz.infoRN;have hb1:Below w.heap.size w (w.alloc (.cells #[.slice A n c] 24)):=bt (ai _ _) _;have HB:=aa (hB.below hb1);have HB1:=aa hb1;have HO:=aa (hB.below hb1).nodes;have HR:=aa (mT w (.slice A n c) 24);have HS:Hid (b+1<=w.heap.size):=hB.lt;have HSZ:=aa hsz;have HK:=aa hK;have HRK:=aa hR;have HG:=aa (And.intro h0 (And.intro hb hf));have hvn:vn.length<=1000000:=(by omega);have hnn:n<=9223372036854775807:=(by have h1:=hK.2.1;have h2:=hK.2.2.1;unfold maxLen at h2;omega);clear hB hb1 hsz hK hR h0 hb hf
 go_in
 go_wp2_with (at_builtin;refine wpList_append_own _ rfl _ _ 71 rfl (b+1) 24 i0 _ 1 24 Tryz.underlying71 hi hz0 hz1 hz2 rfl (by decide) N vn.length vn rfl HO.out ⟨w.heap.size,0,none⟩ 1 1 [.slice A n c] rfl rfl HR.out (by simp[Value.oneCell']) (by unfold maxLen;omega) (by omega) (by have:=HS.out;simp;omega) ?_;intro v' w2 hown2 hgr2 _;obtain⟨A2,k2,rfl,_⟩:=cw hown2;have HB2:=aa (HB.out.put_nodes hown2 hgr2);obtain⟨g2,z2⟩:=tM HB.out (hgr2.block b HB.out.lt (fun e=>kD HB.out.nodes HB.out.box (by decide) e.symm));have HF:=aa (nP (u:=.slice A2 (vn.length+1) k2) (p:=9) HB1.out HS.out hgr2 (fun k hk=>(HB.out.nodes.lt k hk).1));have HKP:=aa (dT.put (u:=.slice A2 (vn.length+1) k2) (p:=9) HB1.out HB.out.box HB.out.nodes (.inr (.inl rfl)) hgr2);clear hown2 hgr2 c2 c9 c13 f2 f9 f13);obtain⟨R',hRe,hRR⟩:=HRK.out;have HRE:=aa hRe;have HST:Hid (∃R1 R2,R'=R1++R2/\(ks=[]/\R2=[]∨∃g,A=some ⟨g,0,none⟩/\cR w0 (ks.drop 0) g (0*4) R2)/\dm (w2.setCell ⟨b,9,none⟩ (.slice A2 (vn.length+1) k2)) b vi (vn++(.slice A n c::R1)) ve):=by
  refine⟨[],R',rfl,?_,_,_,_,HB2.out⟩;rcases hRR with h|⟨g,h1,h2⟩
  .exact .inl h
  .exact .inr ⟨g,h1,by simpa using h2⟩
 clear hRe hRR HB2 g2 z2;go_wp2_with fail;go_loopw [4] (fun v wr=>∃j:Nat,j<=n/\v= .int .i64 j/\Hid (Below b w wr/\dT w wr)/\Hid (∃R1 R2,R'=R1++R2/\(ks=[]/\R2=[]∨∃g,A=some ⟨g,0,none⟩/\cR w0 (ks.drop j) g (j*4) R2)/\dm wr b vi (vn++(.slice A n c::R1)) ve)) (fun v _=>n - (intOf v).toNat);case atStart=>exact⟨0,aE _,rfl,⟨HF.out,HKP.out⟩,HST⟩
 case round=>
  clear HF HST;obtain⟨j,hj,rfl,HF,HST⟩:=hrel;by_cases hlt:j<n
  .have hbw:Below w0.heap.size w0 wr:=(HG.out.2.1.trans HF.out.1).mono HG.out.1;have HBW:=aa hbw;obtain⟨b1,o1,t,rfl,ht,hat⟩:=HK.out.get hlt;obtain⟨B1,d1,q0,q1,q2,q3,hnode⟩:=hat.cells;obtain⟨R1,R2,S1,S2,hsp,hes,hk1,hrest,hbag⟩:∃R1 R2 S1 S2,R'=R1++R2/\R2=S1++S2/\dr w0 t.kids B1 t.kids.length d1 S1/\Hid (ks=[]/\S2=[]∨∃g,some (⟨b1,o1,none⟩:Addr)=some ⟨g,0,none⟩/\cR w0 (ks.drop (j+1)) g ((j+1) *4) S2)/\dm wr b vi (vn++(.slice (some ⟨b1,o1,none⟩) n c::R1)) ve:=by
    obtain⟨R1,R2,e1,e2,e3⟩:=HST.out;rcases e2 with ⟨e,_⟩|⟨g,eg,er⟩
    .rw[e] at ht;simp at ht
    .have hg:=eg;injection eg with eg;injection eg with eg1 eg2;have hj':j<ks.length:=(bs.1 ht).1;rw[List.drop_eq_getElem_cons hj'] at er;obtain⟨S1,S2,es,h1,h2⟩:=er;have htt:ks[j]=t:=(by rw[br hj'] at ht;injection ht);rw[htt] at h1;obtain⟨A',c',h3,h4⟩:=h1.kids;rw[<-eg1,show j*4+3=o1+j*4+3 from by omega,q3] at h3;injection h3 with h3;injection h3 with h5 _ h6;subst h5 h6;exact⟨R1,R2,S1,S2,e1,es,h4,.inr ⟨g,hg,by rw[show(j+1) *4=j*4+4 from by omega];exact h2⟩,e3⟩
   have HK1:=aa hk1;have HBG:=aa hbag;have HSP:Hid (R'=R1++(S1++S2)):=(by show _=_;rw[hsp,hes]);have HND:=aa (show KidsAt w0 t.kids B1 t.kids.length d1 by obtain⟨k0,s0,x0,ks0⟩:=t;obtain⟨ks',e,_,_,_,h⟩:=hnode;injection e with _ _ _ e;subst e;exact h);have HSZT:Hid (t.sz<=m):=aJ (kT ht) (Nat.le_of_lt_succ HSZ.out);have HFW:Hid ((vn++(.slice (some ⟨b1,o1,none⟩) n c::R1)).length+S1.length<=1000000):=by have h1:=HG.out.2.2;rw[HRE.out,HSP.out] at h1;show _<=_;simp at h1 ⊢;omega
   replace q0:=ac hbw q0;replace q1:=ac hbw q1;replace q2:=ac hbw q2;replace q3:=ac hbw q3;clear hbw ht hat hnode hsp hes hk1 hbag HST;go_wp2_with fail;refine(zo ih t _ _ _ B1 _ d1 S1 b vi _ ve w0 wr HSZT.out HND.out HK1.out HG.out.1 (HG.out.2.1.trans HF.out.1) HBG.out HFW.out).mono ?_;rintro e w3 ⟨⟨v,rfl⟩,hB3,hf3,hk3⟩;have HF3:Hid (Below b w w3/\dT w w3):=⟨HF.out.1.trans hf3,HF.out.2.trans hk3⟩;have HST3:Hid (∃R1 R2,R'=R1++R2/\(ks=[]/\R2=[]∨∃g,some (⟨b1,o1,none⟩:Addr)=some ⟨g,0,none⟩/\cR w0 (ks.drop (j+1)) g ((j+1) *4) R2)/\dm w3 b vi (vn++(.slice (some ⟨b1,o1,none⟩) n c::R1)) ve):=
    ⟨R1++S1,S2,by rw[HSP.out,List.append_assoc],hrest.out,by simpa using hB3⟩
   clear hB3 hf3 hk3 q0 q1 q2 q3;go_wp2;go_roundw;case rel=>exact⟨j+1,by omega,by go_num,HF3,HST3⟩
   case measure=>simp[intOf];omega
  .have HE:Hid (dm wr b vi (vn++R) ve):=by
    obtain⟨R1,R2,e1,e2,e3⟩:=HST.out;have hR2:R2=[]:=by
     rcases e2 with ⟨_,e⟩|⟨g,_,e⟩
     .exact e
     .rw[List.drop_eq_nil_of_le (by have:=HK.out.1;omega)] at e;exact e
    rw[HRE.out,e1,hR2,List.append_nil];exact e3
   go_wp2_with fail;exact bodyPost_end (v:=.tuple #[]) (by simp[results,Tryz.results149,go_sem]) rfl ⟨⟨_,rfl⟩,HE.out,HF.out.1,HF.out.2⟩
theorem rD:∀m,lS m
 |0=>fun ks A n c R b vi vn ve w0 w h=>absurd h (Nat.not_lt_zero _)
 |m+1=>zp m (aa (rD m))
theorem qE(ks:List ag)(A:Option Addr)(n c:Nat)(R:List Value)(b:Nat)(vi vn ve:List Value)(w0 w:World)(hK:KidsAt w0 ks A n c)(hR:dr w0 ks A n c R)(h0:w0.heap.size<=b)(hb:Below b w0 w)(hB:dm w b vi vn ve)(hf:vn.length+R.length<=1000000):Calls Tryz.prog 149 #[.pointer (some ⟨b,0,none⟩),.slice A n c] w (jU b vi (vn++R) ve w):=rD (ao ks+1) ks A n c R b vi vn ve w0 w (Nat.lt_succ_self _) hK hR h0 hb hB hf
section
open Go.RowKit Go.Deep
theorem pT{α:Type}[Inhabited α]{n:Nat}{p:Nat->α->Prop}(h:∀i,i<n->∃v,p i v):∃l:List α,l.length=n/\∀i v,l[i]? =some v->p i v:=by
 induction n with
 |zero=>exact⟨[],rfl,fun i v hv=>by simp at hv⟩
 |succ n ih=>
  obtain⟨l,h1,h2⟩:=ih (fun i hi=>h i (by omega));obtain⟨v,hv⟩:=h n (by omega);refine⟨l++[v],by simp[h1],fun i u hu=>?_⟩;by_cases hi:i<l.length
  .rw[cM hi] at hu;exact h2 i u hu
  .rw[eK (by omega)] at hu;have:i=n:=by have:=(bs.1 hu).1;simp at this;omega
   subst this;simp[h1] at hu;subst hu;exact hv
theorem qK{α:Type}{cs:List α}(h:cs.length=4):∃a b c d,cs=[a,b,c,d]:=by
 match cs,h with
 |[a,b,c,d],_=>exact⟨a,b,c,d,rfl⟩
variable {H:Type} {enc:TypeId×Value->H} {W:World} {spare:Nat->Bool} {held:Bool}
def pB(W:World)(cs:List Value)(t:ag):Prop:=∃A c,cs=[.int .u8 t.kind,.string (sb t.text),.int .i64 t.num,.slice A t.kids.length c]/\KidsAt W t.kids A t.kids.length c/\t.kind<=255/\t.text.length<=maxLen/\cm t.num
theorem ui{a:Addr}{cs:List Value}{t:ag}(hc:W.cells? 0 a 4=some cs)(h:pB W cs t):∃b o,a=⟨b,o,none⟩/\cJ W t b o:=by
 obtain⟨_,hl,hcell⟩:=World.cells?_some hc;obtain⟨A,c,rfl,hk,b1,b2,b3⟩:=h;have h0:=hcell 0 (by omega);obtain⟨b,o,sp⟩:=a;cases sp with
 |some s=>exfalso;simp[World.cell?,Addr.add] at h0;split at h0<;>simp at h0
 |none=>
  refine⟨b,o,rfl,cJ.of ?_ ?_ ?_ ?_ hk b1 b2 b3⟩
  .have:=hcell 0 (by omega);rw[fi] at this;simpa using this
  .have:=hcell 1 (by omega);rw[fi] at this;simpa using this
  .have:=hcell 2 (by omega);rw[fi] at this;simpa using this
  .have:=hcell 3 (by omega);rw[fi] at this;simpa using this
theorem so{L:Nat}:∀{ts:List ag},(∀(i:Nat) (t:ag),ts[i]? =some t->t.short L)->bi L ts
 |[],_=>by simp[bi]
 |t::ts,h=>by simp only[bi];exact⟨h 0 t rfl,so fun i u hu=>h (i+1) u (by simpa using hu)⟩
theorem sM{P:Program}{e:TypeId}{z:Nat}:∀{l:List (DataW H)} {i:Nat} {d:DataW H},l[i]? =some d->z∈d.weights P e->z∈DataW.weightsAll P e l
 |d0::l,0,d,hd,hz=>by simp only[List.getElem?_cons_zero,Option.some.injEq] at hd;subst hd;simp only[DataW.weightsAll,List.mem_append];exact .inl hz
 |d0::l,i+1,d,hd,hz=>by simp only[List.getElem?_cons_succ] at hd;simp only[DataW.weightsAll,List.mem_append];exact .inr (sM hd hz)
 |[],_,_,hd,_=>by simp at hd
def py(enc:TypeId×Value->H)(W:World)(spare:Nat->Bool)(held:Bool)(n:Nat):Prop:=∀(cs:List Value) (x:DataW H×List MemPlace),DataW.trod enc Tryz.prog W 0 spare held n 44 cs=some x->∃t,pB W cs t/\((∀z∈x.1.weights Tryz.prog 44,z<=reachBytes)->t.short LL)
theorem q9{n:Nat}(ih:∀q,q<n->py enc W spare held q){cs:List Value}{x:DataW H×List MemPlace}(h:DataW.trod enc Tryz.prog W 0 spare held n 24 cs=some x):∃A ts c,cs=[.slice A ts.length c]/\KidsAt W ts A ts.length c/\((∀z∈x.1.weights Tryz.prog 24,z<=reachBytes)->bi LL ts):=by
 have k4:Tryz.prog.cellsOf 44=4:=(by kernel_rfl);rcases DataW.trod_slice Tryz.underlying24 h with ⟨g3,_⟩|⟨a,len,cap,elems,rest,q,rfl,g3,hx0,_,hle,hcm,hel,hx,_⟩
 .subst g3;exact⟨none,[],0,rfl,KidsAt.nil _ _ (aE _),fun _=>by simp[bi]⟩
 .subst g3;obtain⟨ts,h1,h2⟩:=pT (α:=ag) (n:=len) (p:=fun i t=>(∃b o,a.add (i*4)=⟨b,o,none⟩/\cJ W t b o)/\((∀z∈x.1.weights Tryz.prog 24,z<=reachBytes)->t.short LL)) (fun i hi=>by have h3:=hx i hi;rw[br (by omega),k4] at h3;obtain⟨cs',h4,h5⟩:=Option.bind_eq_some_iff.1 h3;obtain⟨t,ht,hsh⟩:=ih q (by omega) cs' _ h5;obtain⟨b,o,h6,h7⟩:=ui h4 ht;refine⟨t,⟨b,o,h6,h7⟩,fun hz=>hsh fun z hm=>hz z ?_⟩;rw[hx0];simp only[DataW.weights,Tryz.underlying24,List.mem_cons,List.mem_append];exact .inr (.inl (sM (i:=i) (by rw[List.getElem?_map,br (by omega)];rfl) hm)))
  refine⟨some a,ts,cap,by rw[h1],⟨rfl,by rw[h1];exact hle,hcm,?_⟩,fun hz=>so fun i t ht=>(h2 i t ht).2 hz⟩;by_cases h0:ts=[]
  .exact .inl h0
  .right;obtain⟨t0,ht0⟩:∃t,ts[0]? =some t:=⟨ts[0]'(List.length_pos_iff.2 h0),br _⟩;obtain⟨⟨b,o,h3,_⟩,_⟩:=h2 0 t0 ht0;have ha:a=⟨b,o,none⟩:=(by simpa[Addr.add] using h3);refine⟨b,o,by rw[ha],ch.mk fun i t ht=>?_⟩;obtain⟨⟨b',o',h4,h5⟩,_⟩:=h2 i t ht;rw[ha,fi] at h4;injection h4 with h6 h7;subst h6 h7;exact h5
theorem jN{P:Program}{t:TypeId}{fs:Array Field}(hu:P.underlying t=some (.struct fs)){ds:List (DataW H)}{i:Nat}{f:Field}{d:DataW H}(hf:fs[i]? =some f)(hd:ds[i]? =some d){z:Nat}(hz:z∈d.weights P f.type):z∈(DataW.agg ds:DataW H).weights P t:=by simp only[DataW.weights,hu];exact DataW.weights_mem_each (j:=i) (t:=f.type) (by simp[hf]) hd z hz
theorem xw:∀(n:Nat),py enc W spare held n:=by
 intro n;induction n using Nat.strongRecOn with
 |_ n ih=>
  intro cs x h;obtain⟨xs,m,rfl,rfl,hl,hlen,hf⟩:=DataW.trod_struct Tryz.underlying44 h;obtain⟨c0,c1,c2,c3,rfl⟩:=qK (hl.trans (by kernel_rfl));obtain⟨y0,y1,y2,y3,rfl⟩:=qK (hlen.trans rfl);have e0:=hf 0 _ rfl;have e1:=hf 1 _ rfl;have e2:=hf 2 _ rfl;have e3:=hf 3 _ rfl;have k0:Tryz.prog.cellsOf 42=1:=(by kernel_rfl);have k1:Tryz.prog.cellsOf 9=1:=(by kernel_rfl);have k2:Tryz.prog.cellsOf 2=1:=(by kernel_rfl);have k3:Tryz.prog.cellsOf 24=1:=(by kernel_rfl);simp[k0] at e0;simp[k1] at e1;simp[k2] at e2;simp[k3] at e3;obtain⟨a0,g0,-,w0⟩:=DataW.trod_int Tryz.underlying42 e0;obtain⟨a1,g1,hy1,w1⟩:=DataW.trod_string Tryz.underlying9 e1;obtain⟨a2,g2,-,w2⟩:=DataW.trod_int Tryz.underlying2 e2;obtain⟨A,ts,c,g3,hk,hsh⟩:=q9 (fun q hq=>ih q (Nat.lt_succ_of_lt hq)) e3;injection g0 with g0;injection g1 with g1;injection g2 with g2;injection g3 with g3;subst g0 g1 g2 g3;have b0:∃k:Nat,a0=k/\k<=255:=by have h8:=(Go.Lit.wf_int_iff _ _).1 w0;rw[show IntKind.min .u8=0 by decide,show IntKind.max .u8=255 by decide] at h8;exact⟨a0.toNat,by omega,by omega⟩
  have b2:cm a2:=by have h8:=(Go.Lit.wf_int_iff _ _).1 w2;rw[show IntKind.min .i64= -9223372036854775808 by decide,show IntKind.max .i64=9223372036854775807 by decide] at h8;exact h8
  obtain⟨k,rfl,hk0⟩:=b0;refine⟨.node k (bl a1) a2 ts,⟨A,c,rfl,hk,hk0,w1,b2⟩,fun hz=>?_⟩;simp only[ag.short];refine⟨?_,hsh fun z hm=>hz z (jN (i:=3) Tryz.underlying44 rfl rfl hm)⟩;have:=hz a1.data.toList.length (jN (i:=1) Tryz.underlying44 rfl rfl (by simp[hy1,DataW.weights]));unfold reachBytes at this;exact aJ this (by decide)
theorem q8{n:Nat}{cs:List Value}{x:DataW H×List MemPlace}(h:DataW.trod enc Tryz.prog W 0 spare held n 24 cs=some x):∃A ts c,cs=[.slice A ts.length c]/\KidsAt W ts A ts.length c/\((∀z∈x.1.weights Tryz.prog 24,z<=reachBytes)->bi LL ts):=q9 (fun q _=>xw q) h
theorem xv{n:Nat}{cs:List Value}{x:DataW H×List MemPlace}(h:DataW.trod enc Tryz.prog W 0 spare held n 23 cs=some x):∃A ps c,cs=[.slice A ps.length c]/\aA W ps A ps.length c/\((∀z∈x.1.weights Tryz.prog 23,z<=reachBytes)->ps.length<=17592186044416):=by
 have k8:Tryz.prog.bytesOf 3=8:=(by kernel_rfl);rcases open_slice1 Tryz.underlying23 (by kernel_rfl) h with ⟨rfl,_⟩|⟨a,len,cap,m,q,V,D,Pl,rfl,_,hle,hcm,hm,rfl,hx⟩
 .exact⟨none,[],0,rfl,⟨rfl,ah _,aE _,.inl rfl⟩,fun _=>by simp⟩
 .have hlm:len<=m:=by rw[hm];split<;>omega
  obtain⟨ps,h1,h2⟩:=pT (α:=Int) (n:=len) (p:=fun i z=>W.cell? (a.add i)=some (.int .i64 z)) (fun i hi=>by obtain⟨h3,h4⟩:=hx i (by omega);obtain⟨z,h5,_⟩:=DataW.trod_int Tryz.underlying3 h4;injection h5 with h5;exact⟨z,by rw[h3,h5]⟩)
  refine⟨some a,ps,cap,by rw[h1],⟨rfl,by rw[h1];exact hle,hcm,?_⟩,fun hz=>?_⟩
  .by_cases h0:ps=[]
   .exact .inl h0
   .right;obtain⟨t0,ht0⟩:∃t,ps[0]? =some t:=⟨ps[0]'(List.length_pos_iff.2 h0),br _⟩;have h3:=h2 0 t0 ht0;obtain⟨b,o,sp⟩:=a;cases sp with
    |some s=>exfalso;simp[World.cell?,Addr.add] at h3;split at h3<;>simp at h3
    |none=>exact⟨b,o,rfl,fun i z hi=>by have:=h2 i z hi;rw[fi] at this;exact this⟩
  .have:=hz (len*8+(m - len) *8) (by simp[DataW.weights,Tryz.underlying23,k8,Nat.add_mul]);unfold reachBytes at this;omega
theorem qL{α:Type}{cs:List α}(h:cs.length=8):∃a b c d e f g i,cs=[a,b,c,d,e,f,g,i]:=by
 match cs,h with
 |[a,b,c,d,e,f,g,i],_=>exact⟨a,b,c,d,e,f,g,i,rfl⟩
theorem xt{n:Nat}{cs:List Value}{x:DataW H×List MemPlace}(h:DataW.trod enc Tryz.prog W 0 spare held n 26 cs=some x):∃(e:aj) (k:Nat) (pA:Option Addr) (pn pc:Nat) (i j:Int) (f t:ByteArray) (oA:Option Addr) (on oc:Nat) (nA:Option Addr) (nn nc:Nat),cs=[.int .u8 k,.slice pA pn pc,.int .i64 i,.int .i64 j,.string f,.string t,.slice oA on oc,.slice nA nn nc]/\ay W e k pA pn pc i j f t oA on oc nA nn nc/\((∀z∈x.1.weights Tryz.prog 26,z<=reachBytes)->e.fine)/\k<=255/\cm i/\cm j:=by
 obtain⟨xs,m,rfl,rfl,hl,hlen,hf⟩:=DataW.trod_struct Tryz.underlying26 h;obtain⟨c0,c1,c2,c3,c4,c5,c6,c7,rfl⟩:=qL (hl.trans (by kernel_rfl));obtain⟨y0,y1,y2,y3,y4,y5,y6,y7,rfl⟩:=qL (hlen.trans rfl);have e0:=hf 0 _ rfl;have e1:=hf 1 _ rfl;have e2:=hf 2 _ rfl;have e3:=hf 3 _ rfl;have e4:=hf 4 _ rfl;have e5:=hf 5 _ rfl;have e6:=hf 6 _ rfl;have e7:=hf 7 _ rfl;have k0:Tryz.prog.cellsOf 22=1:=(by kernel_rfl);have k1:Tryz.prog.cellsOf 23=1:=(by kernel_rfl);have k2:Tryz.prog.cellsOf 3=1:=(by kernel_rfl);have k4:Tryz.prog.cellsOf 9=1:=(by kernel_rfl);have k6:Tryz.prog.cellsOf 24=1:=(by kernel_rfl);simp[k0] at e0;simp[k1] at e1;simp[k2] at e2;simp[k2] at e3;simp[k4] at e4;simp[k4] at e5;simp[k6] at e6;simp[k6] at e7;obtain⟨a0,g0,-,w0⟩:=DataW.trod_int Tryz.underlying22 e0;obtain⟨pA,ps,pc,g1,hp,hpz⟩:=xv e1;obtain⟨a2,g2,-,w2⟩:=DataW.trod_int Tryz.underlying3 e2;obtain⟨a3,g3,-,w3⟩:=DataW.trod_int Tryz.underlying3 e3;obtain⟨a4,g4,hy4,w4⟩:=DataW.trod_string Tryz.underlying9 e4;obtain⟨a5,g5,hy5,w5⟩:=DataW.trod_string Tryz.underlying9 e5;obtain⟨oA,os,oc,g6,ho,hoz⟩:=q8 e6;obtain⟨nA,ns,nc,g7,hn,hnz⟩:=q8 e7;injection g0 with g0;injection g1 with g1;injection g2 with g2;injection g3 with g3;injection g4 with g4;injection g5 with g5;injection g6 with g6;injection g7 with g7;subst g0 g1 g2 g3 g4 g5 g6 g7;have b0:∃k:Nat,a0=k/\k<=255:=by have h8:=(Go.Lit.wf_int_iff _ _).1 w0;rw[show IntKind.min .u8=0 by decide,show IntKind.max .u8=255 by decide] at h8;exact⟨a0.toNat,by omega,by omega⟩
 have fits:∀z,(Lit.int .i64 z).wf=true->cm z:=fun z hz=>by have h8:=(Go.Lit.wf_int_iff _ _).1 hz;rw[show IntKind.min .i64= -9223372036854775808 by decide,show IntKind.max .i64=9223372036854775807 by decide] at h8;exact h8
 obtain⟨k,rfl,hk0⟩:=b0;refine⟨⟨k,ps,a2,a3,bl a4,bl a5,os,ns⟩,k,pA,ps.length,pc,a2,a3,a4,a5,oA,os.length,oc,nA,ns.length,nc,rfl,⟨ps,os,ns,rfl,hp,ho,hn⟩,fun hz=>?_,hk0,fits _ w2,fits _ w3⟩;have z4:=hz a4.data.toList.length (jN (i:=4) Tryz.underlying26 rfl rfl (by simp[hy4,DataW.weights]));have z5:=hz a5.data.toList.length (jN (i:=5) Tryz.underlying26 rfl rfl (by simp[hy5,DataW.weights]));have q4:(bl a4).length=a4.data.toList.length:=rfl;have q5:(bl a5).length=a5.data.toList.length:=rfl;unfold reachBytes at z4 z5;refine⟨hpz fun z hm=>hz z (jN (i:=1) Tryz.underlying26 rfl rfl hm),?_,?_,hoz fun z hm=>hz z (jN (i:=6) Tryz.underlying26 rfl rfl hm),hnz fun z hm=>hz z (jN (i:=7) Tryz.underlying26 rfl rfl hm)⟩
 .show(bl a4).length<=_;omega
 .show(bl a5).length<=_;omega
end
section
open Go.ChangeShapes Go.WideShapes Go.ChangeAt Go.RowKit
theorem own:ownKnob Tryz.prog.godebug=none:=by kernel_rfl
theorem vk:Tryz.prog.globalNamed "strings.asciiSpace"=some 0:=by kernel_rfl
theorem AW:(Tryz.prog.globals[0]?).map (·.type)=some 254:=by kernel_rfl
theorem uc:Tryz.prog.cellsOf 254=256:=by kernel_rfl
theorem ud:Tryz.prog.cellsOf 5=1:=by kernel_rfl
theorem wC:laidOutB Tryz.prog=true:=by kernel_rfl
theorem zQ:Tryz.prog.readableRec 26=true:=by kernel_rfl
theorem zY:26<Tryz.prog.types.size:=of_decide_eq_true (by kernel_rfl)
theorem AJ{W:World}(h:laidMet Tryz.prog [("strings.asciiSpace",Rows.laid_strings_asciiSpace)] W):Lib.TabIs Tryz.prog W "strings.asciiSpace" .u8 Lib.asciiSpaceTab:=
 Lib.tabIs_of_head (rest:=[]) vk AW Tryz.underlying254 Tryz.underlying5 ud uc (by rw[show Lib.tabData (H:=Unit) .u8 Lib.asciiSpaceTab=Rows.laid_strings_asciiSpace from by kernel_rfl];exact h)
theorem wD{P:Program}{l:List (String×DataW Unit)}{w:World}(h:(l.all fun x=>x.2.handleName?.isNone)=true)(hm:laidMetH P l w):laidMet P l w:=by rw[MakeChecks.laidMetH_plain P l w h] at hm;exact hm
theorem uM{W:World}(h:laidMetH Tryz.prog Rows.swapTellsRow.laid W):bI W:=by exact⟨AJ (wD (by kernel_rfl) h).tail⟩
theorem BA{W:World}(h:laidMetH Tryz.prog Rows.swapEdgesRow.laid W):bI W:=by exact⟨AJ (wD (by kernel_rfl) h).tail⟩
section
variable {H:Type} {enc:TypeId×Value->H}
theorem pJ{W:World}{r:Reach}{base:Nat}{v:Value}{d:DataW H}{ps:List MemPlace}(hv:Value.okWide Tryz.prog W r base 26 v)(h:DataW.Trod enc Tryz.prog W 0 (fun _=>true) true 26 v d ps):∃(e:aj) (k:Nat) (pA:Option Addr) (pn pc:Nat) (i j:Int) (f t:ByteArray) (oA:Option Addr) (on oc:Nat) (nA:Option Addr) (nn nc:Nat),v= .agg #[.int .u8 k,.slice pA pn pc,.int .i64 i,.int .i64 j,.string f,.string t,.slice oA on oc,.slice nA nn nc]/\ay W e k pA pn pc i j f t oA on oc nA nn nc/\((∀z∈d.weights Tryz.prog 26,z<=reachBytes)->e.fine):=by obtain⟨cs,rfl,_⟩:=okWide_struct Tryz.underlying26 hv;obtain⟨n,hn⟩:=h;obtain⟨e,k,pA,pn,pc,i,j,f,t,oA,on,oc,nA,nn,nc,hcs,hI,hf,_⟩:=xt hn;have h2:cs.toList=[.int .u8 k,.slice pA pn pc,.int .i64 i,.int .i64 j,.string f,.string t,.slice oA on oc,.slice nA nn nc]:=hcs;refine⟨e,k,pA,pn,pc,i,j,f,t,oA,on,oc,nA,nn,nc,?_,hI,hf⟩;rw[<-Array.toArray_toList (xs:=cs),h2]
theorem qf{W W':World}{v:Value}{d:DataW H}{ps:List MemPlace}(h:DataW.Trod enc Tryz.prog W 0 (fun _=>true) true 26 v d ps)(hb:Below W.heap.size W W')(hlt:∀x∈ps,x.block<W.heap.size):DataW.Trod enc Tryz.prog W' 0 (fun b=>decide (b<W.heap.size)) true 26 v d ps:=Below.trod wC zQ zY h hb hlt
end
end
def cN(A0:Option Addr)(o:Option (List Int))(w:World)(e:Ending)(w':World):Prop:=Below w.heap.size w w'/\match o with
 |none=>∃A n c,e= .returned (.tuple #[.slice A n c,.bool false])
 |some zs=>∃A n c,e= .returned (.tuple #[.slice A n c,.bool true])/\aA w' zs A n c/\(A=A0∨bT w' zs A)
theorem cN.no{A0:Option Addr}{o:Option (List Int)}{w w':World}{A:Option Addr}{n c:Nat}(h:o=none)(hb:Below w.heap.size w w'):cN A0 o w (.returned (.tuple #[.slice A n c,.bool false])) w':=by subst h;exact⟨hb,A,n,c,rfl⟩
theorem cN.yes{A0:Option Addr}{o:Option (List Int)}{zs:List Int}{w w':World}{A:Option Addr}{n c:Nat}(h:o=some zs)(hI:aA w' zs A n c)(hb:Below w.heap.size w w')(hS:A=A0∨bT w' zs A):cN A0 o w (.returned (.tuple #[.slice A n c,.bool true])) w':=by subst h;exact⟨hb,A,n,c,rfl,hI,hS⟩
theorem jA{w:World}{base:Nat}{zs:List Int}{A:Option Addr}{c:Nat}(h:w.ownsRow base 3 1 (.slice A zs.length c) zs.length (zs.map (Value.int .i64))):aA w zs A zs.length c:=by obtain⟨A',c',e,hI⟩:=aA.own h;injection e with e1 e2 e3;subst e1 e3;exact hI
def kf(k:Int)(ps:List Int)(i j:Int)(xs:List Int):Option (List Int):=
 if k=2 then dR xs ps i
 else if k=3 then some (fO xs ps i)
 else if k=4 then(if bu xs ps then none else some xs)
 else if k=5 then(if bu xs (ps++[j]) then none else some (eT xs ps j i))
 else some xs
def jz(k:Int)(ps:List Int)(i j:Int)(xs:List Int):Option (List Int):=
 if k=2 then some (fO xs ps i)
 else if k=3 then dR xs ps i
 else if k=4 then(if bu xs ps then none else some xs)
 else if k=5 then(if bu xs (ps++[i]) then none else some (eT xs ps i j))
 else some xs
theorem zr(k:Int)(h5:k≠5)(ps xs:List Int)(pA A:Option Addr)(pn pc n c:Nat)(i j:Int)(x4 x5 x6 x7:Value)(w:World)(hp:aA w ps pA pn pc)(hx:aA w xs A n c)(hpn:pn<=17592186043000)(hn:n<=17592186043000)(hf:dE xs)(r:Option (List Int))(hr:kf k ps i j xs=r):Calls Tryz.prog 36 #[.agg #[.int .u8 k,.slice pA pn pc,.int .i64 i,.int .i64 j,x4,x5,x6,x7],.slice A n c] w (cN A r w):=by
 have hb:Below w.heap.size w (w.alloc (.cells #[.int .u8 k,.slice pA pn pc,.int .i64 i,.int .i64 j,x4,x5,x6,x7] 26)):=(ai _ _).alloc (ah _) _;have HB:=aa hb;have HP:=aa (hp.below hb);have HX:=aa (hx.below hb);have HF:=aa hf;have HR:=aa hr;have hc:=fun o=>cell_of_row _ w.heap.size o _ 26 (0,0) (heap_alloc_new w (.cells #[.int .u8 k,.slice pA pn pc,.int .i64 i,.int .i64 j,x4,x5,x6,x7] 26));have c1:(w.alloc (.cells #[.int .u8 k,.slice pA pn pc,.int .i64 i,.int .i64 j,x4,x5,x6,x7] 26)).cell? ⟨w.heap.size,1,none⟩=some (.slice pA pn pc):=(hc 1).trans rfl;have c2:(w.alloc (.cells #[.int .u8 k,.slice pA pn pc,.int .i64 i,.int .i64 j,x4,x5,x6,x7] 26)).cell? ⟨w.heap.size,2,none⟩=some (.int .i64 i):=(hc 2).trans rfl;have c3:(w.alloc (.cells #[.int .u8 k,.slice pA pn pc,.int .i64 i,.int .i64 j,x4,x5,x6,x7] 26)).cell? ⟨w.heap.size,3,none⟩=some (.int .i64 j):=(hc 3).trans rfl;have HC:=aa (And.intro c1 (And.intro c2 c3));clear hb hp hx hf hr hc c1 c2 c3;by_cases h2:k=2
 .subst h2;have HQ:Hid (dR xs ps i=r):=by show _=_;rw[<-HR.out];rfl
  go_in
  go_wp2_with fail;refine(rG xs ps i _ _ _ _ _ _ _ HX.out HP.out (by omega) (by omega) HF.out).mono ?_;intro e w1 hm;rw[HQ.out] at hm;cases r with
  |none=>
   obtain⟨A1,n1,c1,rfl,hb1⟩:=hm;have HB1:=aa (HB.out.trans (hb1.mono HB.out.size));clear hb1;go_wp2
   go_ret2
   exact cN.no rfl HB1.out
  |some zs=>
   obtain⟨A1,c1,rfl,ho,hb1⟩:=hm;have HB1:=aa (HB.out.trans (hb1.mono HB.out.size));have HI:=aa (jA ho);have HTP:=aa (bT.own ho rfl);clear hb1 ho;go_wp2
   go_ret2
   exact cN.yes rfl HI.out HB1.out (.inr HTP.out)
 have n2:(k == 2)=false:=(by simp[h2]);by_cases h3:k=3
 .subst h3;have HQ:Hid (some (fO xs ps i)=r):=(by show _=_;rw[<-HR.out];rfl);clear n2 h2
  go_in
  go_wp2_with fail;refine(rJ xs ps i _ _ _ _ _ _ _ HX.out HP.out (by omega) (by omega) HF.out).mono ?_;rintro e w1 ⟨A1,c1,rfl,ho,hb1⟩;have HB1:=aa (HB.out.trans (hb1.mono HB.out.size));have HI:=aa (jA ho);have HTP:=aa (bT.own ho rfl);clear hb1 ho;go_wp2
  go_ret2
  exact cN.yes HQ.out.symm HI.out HB1.out (.inr HTP.out)
 have n3:(k == 3)=false:=(by simp[h3]);by_cases h4:k=4
 .subst h4;have HQ:Hid ((if bu xs ps then none else some xs)=r):=(by show _=_;rw[<-HR.out];rfl);clear n2 h2 n3 h3;cases hu:bu xs ps with
  |true=>
   rw[hu] at HQ;have HU:=aa hu;clear hu
   go_in
   go_wp2_with fail;refine(iW xs ps _ _ _ _ _ _ _ HX.out HP.out).mono ?_;rintro e w1 ⟨rfl,q,rfl⟩;rw[HU.out];go_wp2
   go_ret2
   exact cN.no HQ.out.symm (ax HB.out q)
  |false=>
   rw[hu] at HQ;have HU:=aa hu;clear hu
   go_in
   go_wp2_with fail;refine(iW xs ps _ _ _ _ _ _ _ HX.out HP.out).mono ?_;rintro e w1 ⟨rfl,q,rfl⟩;rw[HU.out];go_wp2
   go_ret2
   exact cN.yes HQ.out.symm (HX.out.drewN q) (ax HB.out q) (.inl rfl)
 have n4:(k == 4)=false:=(by simp[h4]);have n5:(k == 5)=false:=(by simp[h5]);have HQ:Hid (some xs=r):=by show _=_;rw[<-HR.out];unfold kf;rw[if_neg h2,if_neg h3,if_neg h4,if_neg h5]
 go_in
 go_wp2
 go_ret2
 exact cN.yes HQ.out.symm HX.out HB.out (.inl rfl)
theorem zG(k:Int)(h5:k≠5)(ps xs:List Int)(pA A:Option Addr)(pn pc n c:Nat)(i j:Int)(x4 x5 x6 x7:Value)(w:World)(hp:aA w ps pA pn pc)(hx:aA w xs A n c)(hpn:pn<=17592186043000)(hn:n<=17592186043000)(hf:dE xs)(r:Option (List Int))(hr:jz k ps i j xs=r):Calls Tryz.prog 37 #[.agg #[.int .u8 k,.slice pA pn pc,.int .i64 i,.int .i64 j,x4,x5,x6,x7],.slice A n c] w (cN A r w):=by
 have hb:Below w.heap.size w (w.alloc (.cells #[.int .u8 k,.slice pA pn pc,.int .i64 i,.int .i64 j,x4,x5,x6,x7] 26)):=(ai _ _).alloc (ah _) _;have HB:=aa hb;have HP:=aa (hp.below hb);have HX:=aa (hx.below hb);have HF:=aa hf;have HR:=aa hr;have hc:=fun o=>cell_of_row _ w.heap.size o _ 26 (0,0) (heap_alloc_new w (.cells #[.int .u8 k,.slice pA pn pc,.int .i64 i,.int .i64 j,x4,x5,x6,x7] 26));have c1:(w.alloc (.cells #[.int .u8 k,.slice pA pn pc,.int .i64 i,.int .i64 j,x4,x5,x6,x7] 26)).cell? ⟨w.heap.size,1,none⟩=some (.slice pA pn pc):=(hc 1).trans rfl;have c2:(w.alloc (.cells #[.int .u8 k,.slice pA pn pc,.int .i64 i,.int .i64 j,x4,x5,x6,x7] 26)).cell? ⟨w.heap.size,2,none⟩=some (.int .i64 i):=(hc 2).trans rfl;have c3:(w.alloc (.cells #[.int .u8 k,.slice pA pn pc,.int .i64 i,.int .i64 j,x4,x5,x6,x7] 26)).cell? ⟨w.heap.size,3,none⟩=some (.int .i64 j):=(hc 3).trans rfl;have HC:=aa (And.intro c1 (And.intro c2 c3));clear hb hp hx hf hr hc c1 c2 c3;by_cases h2:k=2
 .subst h2;have HQ:Hid (some (fO xs ps i)=r):=by show _=_;rw[<-HR.out];rfl
  go_in
  go_wp2_with fail;refine(rJ xs ps i _ _ _ _ _ _ _ HX.out HP.out (by omega) (by omega) HF.out).mono ?_;rintro e w1 ⟨A1,c1,rfl,ho,hb1⟩;have HB1:=aa (HB.out.trans (hb1.mono HB.out.size));have HI:=aa (jA ho);have HTP:=aa (bT.own ho rfl);clear hb1 ho;go_wp2
  go_ret2
  exact cN.yes HQ.out.symm HI.out HB1.out (.inr HTP.out)
 have n2:(k == 2)=false:=(by simp[h2]);by_cases h3:k=3
 .subst h3;have HQ:Hid (dR xs ps i=r):=(by show _=_;rw[<-HR.out];rfl);clear n2 h2
  go_in
  go_wp2_with fail;refine(rG xs ps i _ _ _ _ _ _ _ HX.out HP.out (by omega) (by omega) HF.out).mono ?_;intro e w1 hm;rw[HQ.out] at hm;cases r with
  |none=>
   obtain⟨A1,n1,c1,rfl,hb1⟩:=hm;have HB1:=aa (HB.out.trans (hb1.mono HB.out.size));clear hb1;go_wp2
   go_ret2
   exact cN.no rfl HB1.out
  |some zs=>
   obtain⟨A1,c1,rfl,ho,hb1⟩:=hm;have HB1:=aa (HB.out.trans (hb1.mono HB.out.size));have HI:=aa (jA ho);have HTP:=aa (bT.own ho rfl);clear hb1 ho;go_wp2
   go_ret2
   exact cN.yes rfl HI.out HB1.out (.inr HTP.out)
 have n3:(k == 3)=false:=(by simp[h3]);by_cases h4:k=4
 .subst h4;have HQ:Hid ((if bu xs ps then none else some xs)=r):=(by show _=_;rw[<-HR.out];rfl);clear n2 h2 n3 h3;cases hu:bu xs ps with
  |true=>
   rw[hu] at HQ;have HU:=aa hu;clear hu
   go_in
   go_wp2_with fail;refine(iW xs ps _ _ _ _ _ _ _ HX.out HP.out).mono ?_;rintro e w1 ⟨rfl,q,rfl⟩;rw[HU.out];go_wp2
   go_ret2
   exact cN.no HQ.out.symm (ax HB.out q)
  |false=>
   rw[hu] at HQ;have HU:=aa hu;clear hu
   go_in
   go_wp2_with fail;refine(iW xs ps _ _ _ _ _ _ _ HX.out HP.out).mono ?_;rintro e w1 ⟨rfl,q,rfl⟩;rw[HU.out];go_wp2
   go_ret2
   exact cN.yes HQ.out.symm (HX.out.drewN q) (ax HB.out q) (.inl rfl)
 have n4:(k == 4)=false:=(by simp[h4]);have n5:(k == 5)=false:=(by simp[h5]);have HQ:Hid (some xs=r):=by show _=_;rw[<-HR.out];unfold jz;rw[if_neg h2,if_neg h3,if_neg h4,if_neg h5]
 go_in
 go_wp2
 go_ret2
 exact cN.yes HQ.out.symm HX.out HB.out (.inl rfl)
theorem dL.open_{zs:List Int}{w w':World}{e:Ending}(h:dL zs w e w'):∃A m c,e= .returned (.slice A m c)/\aA w' zs A m c/\Below w.heap.size w w':=by obtain⟨A,c,rfl,ho,hb⟩:=h;exact⟨A,_,c,rfl,jA ho,hb⟩
theorem dL.openT{zs:List Int}{w w':World}{e:Ending}(h:dL zs w e w'):∃A m c,e= .returned (.slice A m c)/\aA w' zs A m c/\bT w' zs A/\Below w.heap.size w w':=by obtain⟨A,c,rfl,ho,hb⟩:=h;exact⟨A,_,c,rfl,jA ho,bT.own ho rfl,hb⟩
theorem me{X W V:World}(h:Below X.heap.size X W)(k:Below W.heap.size W V):Below X.heap.size X V:=h.trans (k.mono h.size)
theorem kl{X W:World}(h:Below X.heap.size X W)(n:Nat):Below X.heap.size X (W.drewN n):=ax h n
theorem cN.if_{A0:Option Addr}{u:Bool}{zs:List Int}{r:Option (List Int)}{w w':World}{A:Option Addr}{n c:Nat}(h:(if u then none else some zs)=r)(hI:aA w' zs A n c)(hb:Below w.heap.size w w')(hS:A=A0∨bT w' zs A):cN A0 r w (.returned (.tuple #[.slice A n c,.bool !u])) w':=by
 cases u with
 |true=>exact cN.no h.symm hb
 |false=>exact cN.yes h.symm hI hb hS
theorem zt(ps xs:List Int)(pA A:Option Addr)(pn pc n c:Nat)(i j:Int)(x4 x5 x6 x7:Value)(w:World)(hp:aA w ps pA pn pc)(hx:aA w xs A n c)(hpn:pn<=17592186043000)(hn:n<=17592186043000)(hf:dE xs)(r:Option (List Int))(hr:kf 5 ps i j xs=r):Calls Tryz.prog 36 #[.agg #[.int .u8 5,.slice pA pn pc,.int .i64 i,.int .i64 j,x4,x5,x6,x7],.slice A n c] w (cN A r w):=by
 have hb:Below w.heap.size w (w.alloc (.cells #[.int .u8 5,.slice pA pn pc,.int .i64 i,.int .i64 j,x4,x5,x6,x7] 26)):=(ai _ _).alloc (ah _) _;have HB:=aa hb;have HP:=aa (hp.below hb);have HX:=aa (hx.below hb);have HF:=aa hf;have hc:=fun o=>cell_of_row _ w.heap.size o _ 26 (0,0) (heap_alloc_new w (.cells #[.int .u8 5,.slice pA pn pc,.int .i64 i,.int .i64 j,x4,x5,x6,x7] 26));have c1:(w.alloc (.cells #[.int .u8 5,.slice pA pn pc,.int .i64 i,.int .i64 j,x4,x5,x6,x7] 26)).cell? ⟨w.heap.size,1,none⟩=some (.slice pA pn pc):=(hc 1).trans rfl;have c2:(w.alloc (.cells #[.int .u8 5,.slice pA pn pc,.int .i64 i,.int .i64 j,x4,x5,x6,x7] 26)).cell? ⟨w.heap.size,2,none⟩=some (.int .i64 i):=(hc 2).trans rfl;have c3:(w.alloc (.cells #[.int .u8 5,.slice pA pn pc,.int .i64 i,.int .i64 j,x4,x5,x6,x7] 26)).cell? ⟨w.heap.size,3,none⟩=some (.int .i64 j):=(hc 3).trans rfl;obtain⟨u,hu⟩:∃u,bu xs (ps++[j])=u:=⟨_,rfl⟩;have HU:=aa hu;have HQ:Hid ((if u then none else some (eT xs ps j i))=r):=(by show _=_;rw[<-hr,<-hu];rfl);clear hb hp hx hf hr hc hu
 go_in
 go_upto_region 9 with fail;refine wp_region_noPanic ?_;refine wp_region_held_drew (S:=(fun w'=>w'.cell? ⟨w.heap.size,1,none⟩=some (.slice pA pn pc)/\w'.cell? ⟨w.heap.size,2,none⟩=some (.int .i64 i)/\w'.cell? ⟨w.heap.size,3,none⟩=some (.int .i64 j))) (by kernel_rfl) ?_ fun hH0=>?_
 .exact⟨ac bz c1,ac bz c2,ac bz c3⟩
 refine ae 0 ?_;refine ae 1 ?_;refine ae 2 ?_;refine ae 3 ?_;refine ae 4 ?_;refine ae 5 ?_;refine ae 6 ?_;refine ae 8 ?_;refine ae 9 ?_;refine ae 10 ?_;refine ae 11 ?_;refine ae 12 ?_;refine aL 7 fun K hK=>?_;go_simp;refine(rM xs ps j i _ _ _ _ _ _ _ (HX.out.below bz) (HP.out.below bz) (by omega) (by omega) HF.out).mono ?_;intro e w2 hp2;obtain⟨A1,m1,d1,rfl,ho,hT,hb2⟩:=hp2.openT;have HO:=aa ho;have HTP:=aa hT;clear hT;clear hp2;have HD2:=aa (me (X:=(w.alloc (.cells #[.int .u8 5,.slice pA pn pc,.int .i64 i,.int .i64 j,x4,x5,x6,x7] 26))) bz hb2);clear hb2 ho;go_wp2_with fail;refine hK.out _ _ ?_ (fun hH1=>?_)
 .exact⟨ac HD2.out c1,ac HD2.out c2,ac HD2.out c3⟩
 clear hK K;refine aM ?_;refine aL 13 fun K hK=>?_;go_simp;refine(rE ps _ _ _ j _ (HP.out.below HD2.out) (by omega)).mono ?_;intro e w3 hp3;obtain⟨A2,m2,d2,rfl,ho2,hb3⟩:=hp3.open_;have HI2:=aa ho2;have HO3:=aa (HO.out.below hb3);have HTP3:=aa (HTP.out.below hb3);clear hp3;have HD3:=aa (me HD2.out hb3);clear hb3 ho2 HO;go_wp2_with fail;refine hK.out _ _ ?_ (fun hH2=>?_)
 .exact⟨ac HD3.out c1,ac HD3.out c2,ac HD3.out c3⟩
 clear hK K;refine aM ?_;refine aL 14 fun K hK=>?_;go_simp;refine(iW xs (ps++[j]) _ _ _ _ _ _ _ (HX.out.below HD3.out) HI2.out).mono ?_;rintro e w4 ⟨rfl,q,rfl⟩;rw[HU.out];go_wp2_with fail;refine hK.out _ _ ?_ (fun hH3=>?_)
 .exact⟨ac (kl HD3.out _) c1,ac (kl HD3.out _) c2,ac (kl HD3.out _) c3⟩
 clear hK K;refine aM ?_;refine ae 15 ?_;refine ae 16 ?_;refine ae 17 ?_;refine wpAnyH_done (by kernel_rfl) ?_ _;refine NoPanic.normal ?_;clear c1 c2 c3 hH0 hH1 hH2 hH3;go_wp2
 go_ret2
 exact cN.if_ HQ.out (HO3.out.drewN q) (ax (HB.out.trans (HD3.out.mono HB.out.size)) q) (.inr (HTP3.out.below (ax (ai _ _) q)))
theorem zq(k:Int)(ps xs:List Int)(pA A:Option Addr)(pn pc n c:Nat)(i j:Int)(x4 x5 x6 x7:Value)(w:World)(hp:aA w ps pA pn pc)(hx:aA w xs A n c)(hpn:pn<=17592186043000)(hn:n<=17592186043000)(hf:dE xs):Calls Tryz.prog 36 #[.agg #[.int .u8 k,.slice pA pn pc,.int .i64 i,.int .i64 j,x4,x5,x6,x7],.slice A n c] w (cN A (kf k ps i j xs) w):=by
 by_cases h:k=5
 .subst h;exact zt ps xs pA A pn pc n c i j x4 x5 x6 x7 w hp hx hpn hn hf _ rfl
 .exact zr k h ps xs pA A pn pc n c i j x4 x5 x6 x7 w hp hx hpn hn hf _ rfl
theorem zH(ps xs:List Int)(pA A:Option Addr)(pn pc n c:Nat)(i j:Int)(x4 x5 x6 x7:Value)(w:World)(hp:aA w ps pA pn pc)(hx:aA w xs A n c)(hpn:pn<=17592186043000)(hn:n<=17592186043000)(hf:dE xs)(r:Option (List Int))(hr:jz 5 ps i j xs=r):Calls Tryz.prog 37 #[.agg #[.int .u8 5,.slice pA pn pc,.int .i64 i,.int .i64 j,x4,x5,x6,x7],.slice A n c] w (cN A r w):=by
 have hb:Below w.heap.size w (w.alloc (.cells #[.int .u8 5,.slice pA pn pc,.int .i64 i,.int .i64 j,x4,x5,x6,x7] 26)):=(ai _ _).alloc (ah _) _;have HB:=aa hb;have HP:=aa (hp.below hb);have HX:=aa (hx.below hb);have HF:=aa hf;have hc:=fun o=>cell_of_row _ w.heap.size o _ 26 (0,0) (heap_alloc_new w (.cells #[.int .u8 5,.slice pA pn pc,.int .i64 i,.int .i64 j,x4,x5,x6,x7] 26));have c1:(w.alloc (.cells #[.int .u8 5,.slice pA pn pc,.int .i64 i,.int .i64 j,x4,x5,x6,x7] 26)).cell? ⟨w.heap.size,1,none⟩=some (.slice pA pn pc):=(hc 1).trans rfl;have c2:(w.alloc (.cells #[.int .u8 5,.slice pA pn pc,.int .i64 i,.int .i64 j,x4,x5,x6,x7] 26)).cell? ⟨w.heap.size,2,none⟩=some (.int .i64 i):=(hc 2).trans rfl;have c3:(w.alloc (.cells #[.int .u8 5,.slice pA pn pc,.int .i64 i,.int .i64 j,x4,x5,x6,x7] 26)).cell? ⟨w.heap.size,3,none⟩=some (.int .i64 j):=(hc 3).trans rfl;obtain⟨u,hu⟩:∃u,bu xs (ps++[i])=u:=⟨_,rfl⟩;have HU:=aa hu;have HQ:Hid ((if u then none else some (eT xs ps i j))=r):=(by show _=_;rw[<-hr,<-hu];rfl);clear hb hp hx hf hr hc hu
 go_in
 go_upto_region 9 with fail;refine wp_region_noPanic ?_;refine wp_region_held_drew (S:=(fun w'=>w'.cell? ⟨w.heap.size,1,none⟩=some (.slice pA pn pc)/\w'.cell? ⟨w.heap.size,2,none⟩=some (.int .i64 i)/\w'.cell? ⟨w.heap.size,3,none⟩=some (.int .i64 j))) (by kernel_rfl) ?_ fun hH0=>?_
 .exact⟨ac bz c1,ac bz c2,ac bz c3⟩
 refine ae 0 ?_;refine ae 1 ?_;refine ae 2 ?_;refine ae 3 ?_;refine ae 4 ?_;refine ae 5 ?_;refine ae 6 ?_;refine ae 8 ?_;refine ae 9 ?_;refine ae 10 ?_;refine ae 11 ?_;refine ae 12 ?_;refine aL 7 fun K hK=>?_;go_simp;refine(rM xs ps i j _ _ _ _ _ _ _ (HX.out.below bz) (HP.out.below bz) (by omega) (by omega) HF.out).mono ?_;intro e w2 hp2;obtain⟨A1,m1,d1,rfl,ho,hT,hb2⟩:=hp2.openT;have HO:=aa ho;have HTP:=aa hT;clear hT;clear hp2;have HD2:=aa (me (X:=(w.alloc (.cells #[.int .u8 5,.slice pA pn pc,.int .i64 i,.int .i64 j,x4,x5,x6,x7] 26))) bz hb2);clear hb2 ho;go_wp2_with fail;refine hK.out _ _ ?_ (fun hH1=>?_)
 .exact⟨ac HD2.out c1,ac HD2.out c2,ac HD2.out c3⟩
 clear hK K;refine aM ?_;refine aL 13 fun K hK=>?_;go_simp;refine(rE ps _ _ _ i _ (HP.out.below HD2.out) (by omega)).mono ?_;intro e w3 hp3;obtain⟨A2,m2,d2,rfl,ho2,hb3⟩:=hp3.open_;have HI2:=aa ho2;have HO3:=aa (HO.out.below hb3);have HTP3:=aa (HTP.out.below hb3);clear hp3;have HD3:=aa (me HD2.out hb3);clear hb3 ho2 HO;go_wp2_with fail;refine hK.out _ _ ?_ (fun hH2=>?_)
 .exact⟨ac HD3.out c1,ac HD3.out c2,ac HD3.out c3⟩
 clear hK K;refine aM ?_;refine aL 14 fun K hK=>?_;go_simp;refine(iW xs (ps++[i]) _ _ _ _ _ _ _ (HX.out.below HD3.out) HI2.out).mono ?_;rintro e w4 ⟨rfl,q,rfl⟩;rw[HU.out];go_wp2_with fail;refine hK.out _ _ ?_ (fun hH3=>?_)
 .exact⟨ac (kl HD3.out _) c1,ac (kl HD3.out _) c2,ac (kl HD3.out _) c3⟩
 clear hK K;refine aM ?_;refine ae 15 ?_;refine ae 16 ?_;refine ae 17 ?_;refine wpAnyH_done (by kernel_rfl) ?_ _;refine NoPanic.normal ?_;clear c1 c2 c3 hH0 hH1 hH2 hH3;go_wp2
 go_ret2
 exact cN.if_ HQ.out (HO3.out.drewN q) (ax (HB.out.trans (HD3.out.mono HB.out.size)) q) (.inr (HTP3.out.below (ax (ai _ _) q)))
theorem zF(k:Int)(ps xs:List Int)(pA A:Option Addr)(pn pc n c:Nat)(i j:Int)(x4 x5 x6 x7:Value)(w:World)(hp:aA w ps pA pn pc)(hx:aA w xs A n c)(hpn:pn<=17592186043000)(hn:n<=17592186043000)(hf:dE xs):Calls Tryz.prog 37 #[.agg #[.int .u8 k,.slice pA pn pc,.int .i64 i,.int .i64 j,x4,x5,x6,x7],.slice A n c] w (cN A (jz k ps i j xs) w):=by
 by_cases h:k=5
 .subst h;exact zH ps xs pA A pn pc n c i j x4 x5 x6 x7 w hp hx hpn hn hf _ rfl
 .exact zG k h ps xs pA A pn pc n c i j x4 x5 x6 x7 w hp hx hpn hn hf _ rfl
def sR(ps:List Int)(os ns:List ag)(k:Nat)(i j:Int)(f t:ByteArray)(w:World)(e:Ending)(w':World):Prop:=∃pA pc oA oc nA nc,e= .returned (.agg #[.int .u8 k,.slice pA ps.length pc,.int .i64 i,.int .i64 j,.string f,.string t,.slice oA os.length oc,.slice nA ns.length nc])/\
 aA w' ps pA ps.length pc/\KidsAt w' os oA os.length oc/\KidsAt w' ns nA ns.length nc/\Below w.heap.size w w'/\bT w' ps pA
theorem vz(ps:List Int)(os ns:List ag)(k:Nat)(pA:Option Addr)(pn pc:Nat)(i j:Int)(f t:ByteArray)(oA:Option Addr)(on oc:Nat)(nA:Option Addr)(nn nc:Nat)(w:World)(hp:aA w ps pA pn pc)(ho:KidsAt w os oA on oc)(hn:KidsAt w ns nA nn nc)(hpn:pn<=17592186044000)(hos:ao os<1000000)(hns:ao ns<1000000):Calls Tryz.prog 33 #[.agg #[.int .u8 k,.slice pA pn pc,.int .i64 i,.int .i64 j,.string f,.string t,.slice oA on oc,.slice nA nn nc]] w (sR ps os ns k i j f t w):=by
 have e1:on=os.length:=ho.1;have e2:nn=ns.length:=hn.1;subst e1 e2;have hb0:Below w.heap.size w ((w.alloc (.cells #[.int .u8 k,.slice pA pn pc,.int .i64 i,.int .i64 j,.string f,.string t,.slice oA os.length oc,.slice nA ns.length nc] 26)).alloc (.cells E8 26)):=bt (bt (ai _ _) _) _;have HB0:=aa hb0;have HP:=aa (hp.below hb0);have HO:=aa ho;have HN:=aa hn;clear hb0 hp ho hn
 go_in
 go_wp2_with fail;refine(vA ps _ _ _ _ HP.out hpn).mono ?_;rintro e w1 ⟨pA1,pc1,rfl,hown1,hb1⟩;have HO1:=aa hown1;have HB1:=aa hb1;have hbox:w1.heap[w.heap.size]? =some (.cells #[.int .u8 k,.slice pA pn pc,.int .i64 i,.int .i64 j,.string f,.string t,.slice oA os.length oc,.slice nA ns.length nc] 26 (0,0)):=(hb1.block _ (by simp;omega)).trans ((heap_alloc_old _ _ (by simp)).trans (heap_alloc_new _ _));have hres:w1.heap[w.heap.size+1]? =some (.cells E8 26 (0,0)):=(hb1.block _ (by simp)).trans (aQ (by simp));have HS1:Hid (w.heap.size+2<=w1.heap.size):=(by have:=hb1.size;simp at this;exact(by omega:w.heap.size+2<=w1.heap.size));obtain⟨⟨c0,c1,c2,c3,c4,c5,c6,c7⟩,⟨f0,f1,f2,f3,f4,f5,f6,f7⟩⟩:=aw hbox;have HBX1:Hid ((w1.setCell ⟨w.heap.size,1,none⟩ (.slice pA1 ps.length pc1)).heap[w.heap.size]? =some (.cells #[.int .u8 k,.slice pA1 ps.length pc1,.int .i64 i,.int .i64 j,.string f,.string t,.slice oA os.length oc,.slice nA ns.length nc] 26 (0,0))):=by show _=_;simp[World.setCell,Array.getElem?_modify,hbox]
 have HRS1:Hid ((w1.setCell ⟨w.heap.size,1,none⟩ (.slice pA1 ps.length pc1)).heap[w.heap.size+1]? =some (.cells E8 26 (0,0))):=by show _=_;rw[aY _ _ _ _ (show w.heap.size+1≠w.heap.size by omega)];exact hres
 have HBA:Hid (Below w.heap.size w (w1.setCell ⟨w.heap.size,1,none⟩ (.slice pA1 ps.length pc1))):=(af HB0.out hb1).setCell (ah _) _;clear hown1 hb1 hbox hres;go_wp2_with fail;clear c0 c1 c2 c3 c4 c5 c6 c7 f0 f1 f2 f3 f4 f5 f6 f7;refine(qv os _ _ _ _ (by omega) (HO.out.below HBA.out)).mono ?_;rintro e w2 ⟨oA1,oc1,rfl,hf2,hb2⟩;have HF2:=aa hf2;have HB2:=aa hb2;have hbox:w2.heap[w.heap.size]? =some (.cells #[.int .u8 k,.slice pA1 ps.length pc1,.int .i64 i,.int .i64 j,.string f,.string t,.slice oA os.length oc,.slice nA ns.length nc] 26 (0,0)):=(hb2.block _ (by simp;have:=HS1.out;omega)).trans HBX1.out;have hres:w2.heap[w.heap.size+1]? =some (.cells E8 26 (0,0)):=(hb2.block _ (by simp;have:=HS1.out;omega)).trans HRS1.out;have HS2:Hid (w1.heap.size<=w2.heap.size):=(by have:=hb2.size;simp at this;exact(by omega:w1.heap.size<=w2.heap.size));obtain⟨⟨c0,c1,c2,c3,c4,c5,c6,c7⟩,⟨f0,f1,f2,f3,f4,f5,f6,f7⟩⟩:=aw hbox;have HBX2:Hid ((w2.setCell ⟨w.heap.size,6,none⟩ (.slice oA1 os.length oc1)).heap[w.heap.size]? =some (.cells #[.int .u8 k,.slice pA1 ps.length pc1,.int .i64 i,.int .i64 j,.string f,.string t,.slice oA1 os.length oc1,.slice nA ns.length nc] 26 (0,0))):=by show _=_;simp[World.setCell,Array.getElem?_modify,hbox]
 have HRS2:Hid ((w2.setCell ⟨w.heap.size,6,none⟩ (.slice oA1 os.length oc1)).heap[w.heap.size+1]? =some (.cells E8 26 (0,0))):=by show _=_;rw[aY _ _ _ _ (show w.heap.size+1≠w.heap.size by omega)];exact hres
 have HBC:Hid (Below w.heap.size w (w2.setCell ⟨w.heap.size,6,none⟩ (.slice oA1 os.length oc1))):=(af HBA.out hb2).setCell (ah _) _;clear hf2 hb2 hbox hres;go_wp2_with fail;clear c0 c1 c2 c3 c4 c5 c6 c7 f0 f1 f2 f3 f4 f5 f6 f7;refine(qv ns _ _ _ _ (by omega) (HN.out.below HBC.out)).mono ?_;rintro e w3 ⟨nA1,nc1,rfl,hf3,hb3⟩;have HF3:=aa hf3;have HB3:=aa hb3;have hbox:w3.heap[w.heap.size]? =some (.cells #[.int .u8 k,.slice pA1 ps.length pc1,.int .i64 i,.int .i64 j,.string f,.string t,.slice oA1 os.length oc1,.slice nA ns.length nc] 26 (0,0)):=(hb3.block _ (by simp;have:=HS1.out;have:=HS2.out;omega)).trans HBX2.out;have hres:w3.heap[w.heap.size+1]? =some (.cells E8 26 (0,0)):=(hb3.block _ (by simp;have:=HS1.out;have:=HS2.out;omega)).trans HRS2.out;have HS3:Hid (w2.heap.size<=w3.heap.size):=(by have:=hb3.size;simp at this;exact(by omega:w2.heap.size<=w3.heap.size));obtain⟨⟨c0,c1,c2,c3,c4,c5,c6,c7⟩,⟨f0,f1,f2,f3,f4,f5,f6,f7⟩⟩:=aw hbox;have HBX3:Hid ((w3.setCell ⟨w.heap.size,7,none⟩ (.slice nA1 ns.length nc1)).heap[w.heap.size]? =some (.cells #[.int .u8 k,.slice pA1 ps.length pc1,.int .i64 i,.int .i64 j,.string f,.string t,.slice oA1 os.length oc1,.slice nA1 ns.length nc1] 26 (0,0))):=by show _=_;simp[World.setCell,Array.getElem?_modify,hbox]
 have HRS3:Hid ((w3.setCell ⟨w.heap.size,7,none⟩ (.slice nA1 ns.length nc1)).heap[w.heap.size+1]? =some (.cells E8 26 (0,0))):=by show _=_;rw[aY _ _ _ _ (show w.heap.size+1≠w.heap.size by omega)];exact hres
 have HBD:Hid (Below w.heap.size w (w3.setCell ⟨w.heap.size,7,none⟩ (.slice nA1 ns.length nc1))):=(af HBC.out hb3).setCell (ah _) _;obtain⟨r0,r1,r2,r3,r4,r5,r6,r7⟩:=(aw hres).cs;clear hf3 hb3 hbox hres;go_upto_region 4 with fail;clear c0 c1 c2 c3 c4 c5 c6 c7 f0 f1 f2 f3 f4 f5 f6 f7 r0 r1 r2 r3 r4 r5 r6 r7;obtain⟨⟨c0,c1,c2,c3,c4,c5,c6,c7⟩,⟨f0,f1,f2,f3,f4,f5,f6,f7⟩⟩:=aw HBX3.out;obtain⟨⟨r0,r1,r2,r3,r4,r5,r6,r7⟩,⟨g0,g1,g2,g3,g4,g5,g6,g7⟩⟩:=aw HRS3.out;go_wp2_with fail;have hblk:∀q,w.heap.size+2<=q->(an (w3.setCell ⟨w.heap.size,7,none⟩ (.slice nA1 ns.length nc1)) (w.heap.size+1) (.int .u8 k) (.slice pA1 ps.length pc1) (.int .i64 i) (.int .i64 j) (.string f) (.string t) (.slice oA1 os.length oc1) (.slice nA1 ns.length nc1)).heap[q]? =w3.heap[q]? :=fun q hq=>by rw[rz (show q≠w.heap.size+1 by omega),aY _ _ _ _ (show q≠w.heap.size by omega)]
 have HOW:=aa (eB (w':=(an (w3.setCell ⟨w.heap.size,7,none⟩ (.slice nA1 ns.length nc1)) (w.heap.size+1) (.int .u8 k) (.slice pA1 ps.length pc1) (.int .i64 i) (.int .i64 j) (.string f) (.string t) (.slice oA1 os.length oc1) (.slice nA1 ns.length nc1))) HO1.out (fun q e=>by have h1:=HS1.out;have h2:=HS2.out;obtain⟨q1,q2⟩:=HO1.out.lt q e;rw[hblk q (by simp at q1;omega),HB3.out.block q (by simp;omega),aY _ _ _ _ (show q≠w.heap.size by simp at q1;omega),HB2.out.block q (by simpa using q2),aY _ _ _ _ (show q≠w.heap.size by simp at q1;omega)]))
 have HLE:Hid (aA (an (w3.setCell ⟨w.heap.size,7,none⟩ (.slice nA1 ns.length nc1)) (w.heap.size+1) (.int .u8 k) (.slice pA1 ps.length pc1) (.int .i64 i) (.int .i64 j) (.string f) (.string t) (.slice oA1 os.length oc1) (.slice nA1 ns.length nc1)) ps pA1 ps.length pc1/\KidsAt (an (w3.setCell ⟨w.heap.size,7,none⟩ (.slice nA1 ns.length nc1)) (w.heap.size+1) (.int .u8 k) (.slice pA1 ps.length pc1) (.int .i64 i) (.int .i64 j) (.string f) (.string t) (.slice oA1 os.length oc1) (.slice nA1 ns.length nc1)) os oA1 os.length oc1/\KidsAt (an (w3.setCell ⟨w.heap.size,7,none⟩ (.slice nA1 ns.length nc1)) (w.heap.size+1) (.int .u8 k) (.slice pA1 ps.length pc1) (.int .i64 i) (.int .i64 j) (.string f) (.string t) (.slice oA1 os.length oc1) (.slice nA1 ns.length nc1)) ns nA1 ns.length nc1):=by have h1:=HS1.out;have h2:=HS2.out;refine⟨jA HOW.out,(bJ.keep HF2.out (ah _) fun q q1 q2=>?_).kids,(bJ.keep HF3.out (ah _) fun q q1 q2=>hblk q (by simp at q1;omega)).kids⟩;rw[hblk q (by simp at q1;omega),HB3.out.block q (by simpa using q2),aY _ _ _ _ (show q≠w.heap.size by simp at q1;omega)]
 have HBE:Hid (Below w.heap.size w (an (w3.setCell ⟨w.heap.size,7,none⟩ (.slice nA1 ns.length nc1)) (w.heap.size+1) (.int .u8 k) (.slice pA1 ps.length pc1) (.int .i64 i) (.int .i64 j) (.string f) (.string t) (.slice oA1 os.length oc1) (.slice nA1 ns.length nc1))):=cH HBD.out (by omega);clear hblk;obtain⟨a0,a1,a2,a3,a4,a5,a6,a7⟩:=jH (v0:=.int .u8 k) (v1:=(.slice pA1 ps.length pc1)) (v2:=.int .i64 i) (v3:=.int .i64 j) (v4:=.string f) (v5:=.string t) (v6:=(.slice oA1 os.length oc1)) (v7:=(.slice nA1 ns.length nc1)) (aw HRS3.out).cs;simp only[an] at a0 a1 a2 a3 a4 a5 a6 a7;exact bodyPost_ret (v:=.agg #[.int .u8 k,.slice pA1 ps.length pc1,.int .i64 i,.int .i64 j,.string f,.string t,.slice oA1 os.length oc1,.slice nA1 ns.length nc1]) (by simp[results,Tryz.results33,go_sem,a0,a1,a2,a3,a4,a5,a6,a7]) rfl ⟨pA1,pc1,oA1,oc1,nA1,nc1,rfl,HLE.out.1,HLE.out.2.1,HLE.out.2.2,HBE.out,bT.own HOW.out rfl⟩
theorem zC(ps:List Int)(k:Nat)(pA:Option Addr)(pn pc:Nat)(i j:Int)(x4 x5 x6 x7:Value)(w:World)(hp:aA w ps pA pn pc)(hb:ps.all aH=false):Calls Tryz.prog 30 #[.agg #[.int .u8 k,.slice pA pn pc,.int .i64 i,.int .i64 j,x4,x5,x6,x7]] w (ak false w):=by
 have hb0:Below w.heap.size w (w.alloc (.cells #[.int .u8 k,.slice pA pn pc,.int .i64 i,.int .i64 j,x4,x5,x6,x7] 26)):=bt (ai _ _) _;have HB0:=aa hb0;have HP:=aa (hp.below hb0);have HBD:=aa hb;have HL:Hid (pn=ps.length):=hp.1;have hn7:pn<=9223372036854775807:=(by have h1:=hp.2.1;have h2:=hp.2.2.1;unfold maxLen at h2;omega);have hc:=fun o=>cell_of_row _ w.heap.size o _ 26 (0,0) (heap_alloc_new w (.cells #[.int .u8 k,.slice pA pn pc,.int .i64 i,.int .i64 j,x4,x5,x6,x7] 26));have c1:(w.alloc (.cells #[.int .u8 k,.slice pA pn pc,.int .i64 i,.int .i64 j,x4,x5,x6,x7] 26)).cell? ⟨w.heap.size,1,none⟩=some (.slice pA pn pc):=(hc 1).trans rfl;clear hb0 hp hb hc
 go_in
 go_wp2_with fail;go_loopw [3] (fun v wr=>∃q:Nat,q<=pn/\v= .int .i64 q/\wr=(w.alloc (.cells #[.int .u8 k,.slice pA pn pc,.int .i64 i,.int .i64 j,x4,x5,x6,x7] 26))/\Hid ((ps.take q).all aH=true)) (fun v _=>pn - (intOf v).toNat);case atStart=>exact⟨0,aE _,rfl,rfl,by show _=_;simp⟩
 case round=>
  obtain⟨q,hq,rfl,rfl,HA⟩:=hrel;by_cases hlt:q<pn
  .obtain⟨b,o,z,rfl,hz,cz⟩:=HP.out.get hlt;have HZ:=aa hz;clear hz;cases hnz:aH z with
   |false=>have HNZ:=aa hnz;clear hnz;go_wp2_with fail;refine(gv z _).mono ?_;rintro e w1 ⟨rfl,rfl⟩;rw[HNZ.out];go_wp2;go_ret;exact ak.intro rfl HB0.out
   |true=>
    have HA2:Hid ((ps.take (q+1)).all aH=true):=by show _=_;obtain⟨h1,h2⟩:=bs.1 HZ.out;rw[List.take_succ_eq_append_getElem h1,h2,List.all_append,HA.out];simp[hnz]
    have HNZ:=aa hnz;clear hnz;go_wp2_with fail;refine(gv z _).mono ?_;rintro e w1 ⟨rfl,rfl⟩;rw[HNZ.out];go_wp2;go_roundw;case rel=>exact⟨q+1,by omega,by go_num,(by first|trivial|rfl),HA2⟩
    case measure=>simp[intOf];omega
  .exfalso;have h1:=HA.out;rw[List.take_of_length_le (by have:=HL.out;omega),HBD.out] at h1;cases h1
end Go.Proofs.YtlkmefhogabgdaaGreatDoor
