/- Part 10 of the proof. -/
import Derived.Test.YtlkmefhogabgdaaGreatDoorMnF
namespace Go.Proofs.YtlkmefhogabgdaaGreatDoor
open Go.RowKit
set_option linter.all false
set_option maxHeartbeats 40000000
set_option maxRecDepth 100000
mutual
def ag.cost:ag->Nat
 | .node _ s _ ks=>1+s.length / 8+cj ks
def cj:List ag->Nat
 |[]=>0
 |t::ts=>t.cost+cj ts
end
theorem mh{ks:List ag}{i:Nat}{t:ag}(h:ks[i]? =some t):cj (ks.take (i+1))=cj (ks.take i)+t.cost:=by
 induction ks generalizing i with
 |nil=>simp at h
 |cons u us ih=>
  cases i with
  |zero=>simp at h;subst h;simp[cj]
  |succ i=>have:=ih (i:=i) (by simpa using h);simp[cj,this];omega
theorem mi(ks:List ag)(i:Nat):cj (ks.take i)<=cj ks:=by
 induction ks generalizing i with
 |nil=>simp[cj]
 |cons u us ih=>
  cases i with
  |zero=>simp[cj]
  |succ i=>have:=ih i;simp[cj];omega
abbrev LL:Nat:=140737488355328
def cL(v c most:Nat):Prop:=(v<=most->v=c)/\(most<v->most<c)
def jS(c most:Nat)(w:World)(e:Ending)(w':World):Prop:=∃v:Nat,e= .returned (.int .i64 v)/\Below w.heap.size w w'/\1<=v/\v<=most+17592186044418/\cL v c most
theorem jS.intro{c most v:Nat}{w w':World}(hb:Below w.heap.size w w')(h1:1<=v)(h2:v<=most+17592186044418)(h3:cL v c most):jS c most w (.returned (.int .i64 v)) w':=⟨v,rfl,hb,h1,h2,h3⟩
def nD(m:Nat):Prop:=∀(t:ag) (k:Nat) (s:ByteArray) (x:Int) (A:Option Addr) (n c most:Nat) (w:World),t.sz<=m->cf w t k s x A n c->t.short LL->most<=1000000->
 Calls Tryz.prog 42 #[.agg #[.int .u8 k,.string s,.int .i64 x,.slice A n c],.int .i64 most] w (jS t.cost most w)
theorem xn(m:Nat)(ih:Hid (nD m)):nD (m+1):=by
 intro t k s x A n c most w hsz hN hsh hm;obtain⟨ks,rfl,_,_,_,hK⟩:=hN;have hb0:Below w.heap.size w (w.alloc (.cells #[.int .u8 k,.string s,.int .i64 x,.slice A n c] 44)):=(ai _ _).alloc (ah _) _;have HB0:=aa hb0;have HK:=aa (hK.below hb0);have HBX:=aa (ct (w:=w) (x:=.int .u8 k) (y:=.string s) (z:=.int .i64 x) (u:=.slice A n c) (T:=44));have HSZ:Hid (ao ks<=m):=(by show _<=_;simp only[ag.sz] at hsz;omega);have hs:s.size<=140737488355328:=(by simp only[ag.short,dt] at hsh;exact hsh.1);have HSH:Hid (bi LL ks):=(by simp only[ag.short] at hsh;exact hsh.2);have HC:Hid (ag.cost (.node k (bl s) x ks)=1+s.size / 8+cj ks):=(by show _=_;simp[ag.cost,dt]);have hnn:n<=9223372036854775807:=(by have h1:=hK.2.1;have h2:=hK.2.2.1;unfold maxLen at h2;omega);have HL:Hid (n=ks.length):=hK.1;clear hsz hb0 hK hsh
 go_in
 go_wp2_with fail;go_loopw [5,6] (fun cv i wr=>∃j v:Nat,j<=n/\i= .int .i64 j/\cv= .int .i64 v/\v<=most+17592186044418/\1<=v/\Hid (Below (w.alloc (.cells #[.int .u8 k,.string s,.int .i64 x,.slice A n c] 44)).heap.size (w.alloc (.cells #[.int .u8 k,.string s,.int .i64 x,.slice A n c] 44)) wr)/\Hid (cL v (1+s.size / 8+cj (ks.take j)) most)) (fun _ i _=>n - (intOf i).toNat);case atStart=>
  refine⟨0,1+s.size / 8,aE _,rfl,?_,by omega,by omega,ai _ _,?_⟩
  .go_num
  .show cL _ _ _;simp[cL,cj]
 case round=>
  obtain⟨j,v,hj,rfl,rfl,hv,hv1,HB,HI⟩:=hrel;obtain⟨b0,b1,b2,b3⟩:=HBX.out;have c0:=ac HB.out b0;have c1:=ac HB.out b1;have c2:=ac HB.out b2;have c3:=ac HB.out b3;clear b0 b1 b2 b3;by_cases hlt:j<n
  .by_cases hc:v<=most
   .obtain⟨b,o,t,rfl,ht,hat⟩:=(HK.out.below HB.out).get hlt;obtain⟨B1,d1,q0,q1,q2,q3,hnode⟩:=hat.cells;have HND:=aa hnode;have HSZT:Hid (t.sz<=m):=aJ (jL ht) HSZ.out;have HST:=aa (HSH.out.get ht);have HCS:=aa (mh ht);have hv':v=1+s.size / 8+cj (ks.take j):=HI.out.1 hc;have HV:=aa hv';clear ht hat hnode hv';go_wp2_with fail;rw[show((most:Int) - (v:Int))=((most - v:Nat):Int) by omega];refine(ih.out t _ _ _ _ _ _ (most - v) _ HSZT.out HND.out HST.out (by omega)).mono ?_;rintro e w3 ⟨z,rfl,hb3,hz1,hz2,hz3⟩;have HB3:=aa (HB.out.trans (hb3.mono HB.out.size));have HZ:=aa hz3;clear hb3 hz3;obtain⟨b0,b1,b2,b3⟩:=HBX.out;clear c0 c1 c2 c3;have c0:=ac HB3.out b0;have c1:=ac HB3.out b1;have c2:=ac HB3.out b2;have c3:=ac HB3.out b3;clear b0 b1 b2 b3;go_wp2;go_roundw;case rel=>refine⟨j+1,v+z,by omega,by go_num,by go_num,by omega,by omega,HB3,?_⟩;show cL _ _ _;have h1:=HZ.out;have h2:=HV.out;have h3:=HCS.out;unfold cL at h1 ⊢;rw[h3];omega
    case measure=>simp[intOf];omega
   .have HT:=aa (mi ks j);go_wp2_with fail;go_ret;refine jS.intro (HB0.out.trans (HB.out.mono HB0.out.size)) hv1 hv ?_;have h1:=HI.out;have h2:=HT.out;rw[HC.out];unfold cL at h1 ⊢;omega
  .go_wp2_with fail;go_ret;refine jS.intro (HB0.out.trans (HB.out.mono HB0.out.size)) hv1 hv ?_;have h1:=HI.out;rw[List.take_of_length_le (by have:=HL.out;omega)] at h1;rw[HC.out];exact h1
theorem qX:∀m,nD m
 |0=>by intro t k s x A n c most w hsz;obtain⟨k0,s0,x0,ks0⟩:=t;simp[ag.sz] at hsz
 |m+1=>xn m (aa (qX m))
theorem oj(t:ag)(k:Nat)(s:ByteArray)(x:Int)(A:Option Addr)(n c most:Nat)(w:World)(hN:cf w t k s x A n c)(hsh:t.short LL)(hm:most<=1000000):Calls Tryz.prog 42 #[.agg #[.int .u8 k,.string s,.int .i64 x,.slice A n c],.int .i64 most] w (jS t.cost most w):=qX t.sz _ _ _ _ _ _ _ _ _ (ah _) hN hsh hm
def aj.cost(e:aj):Nat:=1+e.path.length+(e.frm.length+e.to_.length) / 8+cj e.olds+cj e.news
def jo(c most:Nat)(w:World)(e:Ending)(w':World):Prop:=∃v:Nat,e= .returned (.int .i64 v)/\Below w.heap.size w w'/\cL v c most
theorem jo.intro{c most v:Nat}{w w':World}(hb:Below w.heap.size w w')(h3:cL v c most):jo c most w (.returned (.int .i64 v)) w':=⟨v,rfl,hb,h3⟩
theorem vB(e:aj)(k:Nat)(pA:Option Addr)(pn pc:Nat)(i j:Int)(f t:ByteArray)(oA:Option Addr)(on oc:Nat)(nA:Option Addr)(nn nc:Nat)(most:Nat)(w:World)(h:ay w e k pA pn pc i j f t oA on oc nA nn nc)(hpn:pn<=17592186044416)(hf:f.size<=140737488355328)(ht:t.size<=140737488355328)(hso:bi LL e.olds)(hsn:bi LL e.news)(hm:most<=1000000):Calls Tryz.prog 19 #[.agg #[.int .u8 k,.slice pA pn pc,.int .i64 i,.int .i64 j,.string f,.string t,.slice oA on oc,.slice nA nn nc],.int .i64 most] w (jo e.cost most w):=by
 obtain⟨ps,os,ns,rfl,hp,ho,hn⟩:=h;have hb0:Below w.heap.size w (w.alloc (.cells #[.int .u8 k,.slice pA pn pc,.int .i64 i,.int .i64 j,.string f,.string t,.slice oA on oc,.slice nA nn nc] 26)):=(ai _ _).alloc (ah _) _;have HB0:=aa hb0;have HO:=aa (ho.below hb0);have HN:=aa (hn.below hb0);have HBX:=aa (bw.new (w:=w) (x0:=.int .u8 k) (x1:=.slice pA pn pc) (x2:=.int .i64 i) (x3:=.int .i64 j) (x4:=.string f) (x5:=.string t) (x6:=.slice oA on oc) (x7:=.slice nA nn nc) (T:=26));have HSO:=aa hso;have HSN:=aa hsn;have HLO:Hid (on=os.length):=ho.1;have HLN:Hid (nn=ns.length):=hn.1;have HC:Hid (aj.cost ⟨k,ps,i,j,bl f,bl t,os,ns⟩=1+pn+(f.size+t.size) / 8+cj os+cj ns):=(by show _=_;simp[aj.cost,dt,<-hp.1]);have hon:on<=9223372036854775807:=(by have h1:=ho.2.1;have h2:=ho.2.2.1;unfold maxLen at h2;omega);have hnn:nn<=9223372036854775807:=(by have h1:=hn.2.1;have h2:=hn.2.2.1;unfold maxLen at h2;omega);clear hb0 hp ho hn hso hsn
 go_in
 go_wp2_with fail;go_loopw [5,6] (fun cv iv wr=>∃q v:Nat,q<=on/\iv= .int .i64 q/\cv= .int .i64 v/\v<=most+70368744177670/\Hid (Below (w.alloc (.cells #[.int .u8 k,.slice pA pn pc,.int .i64 i,.int .i64 j,.string f,.string t,.slice oA on oc,.slice nA nn nc] 26)).heap.size (w.alloc (.cells #[.int .u8 k,.slice pA pn pc,.int .i64 i,.int .i64 j,.string f,.string t,.slice oA on oc,.slice nA nn nc] 26)) wr)/\Hid (cL v (1+pn+(f.size+t.size) / 8+cj (os.take q)) most)) (fun _ iv _=>on - (intOf iv).toNat);case atStart=>
  refine⟨0,1+pn+(f.size+t.size) / 8,aE _,rfl,?_,by omega,ai _ _,?_⟩
  .go_num
  .show cL _ _ _;simp[cL,cj]
 case round=>
  obtain⟨q,v,hq,rfl,rfl,hv,HB,HI⟩:=hrel;obtain⟨c0,c1,c2,c3,c4,c5,c6,c7⟩:=HBX.out.below HB.out;by_cases hlt:q<on/\v<=most
  .obtain⟨hlt,hc⟩:=hlt;obtain⟨b,o,t,rfl,ht,hat⟩:=(HO.out.below HB.out).get hlt;obtain⟨B1,d1,q0,q1,q2,q3,hnode⟩:=hat.cells;have HND:=aa hnode;have HST:=aa (HSO.out.get ht);have HCS:=aa (mh ht);have hv':=HI.out.1 hc;have HV:=aa hv';clear ht hat hnode hv';go_wp2_with fail;rw[show((most:Int) - (v:Int))=((most - v:Nat):Int) by omega];refine(oj t _ _ _ _ _ _ (most - v) _ HND.out HST.out (by omega)).mono ?_;rintro e w3 ⟨z,rfl,hb3,hz1,hz2,hz3⟩;have HB3:=aa (af HB.out hb3);have HZ:=aa hz3;clear hb3 hz3 c0 c1 c2 c3 c4 c5 c6 c7;obtain⟨c0,c1,c2,c3,c4,c5,c6,c7⟩:=HBX.out.below HB3.out;go_wp2;go_roundw;case rel=>refine⟨q+1,v+z,by omega,by go_num,by go_num,by omega,HB3,?_⟩;show cL _ _ _;have h1:=HZ.out;have h2:=HV.out;have h3:=HCS.out;unfold cL at h1 ⊢;rw[h3];omega
   case measure=>simp[intOf];omega
  .have HI2:Hid (cL v (1+pn+(f.size+t.size) / 8+cj os) most):=by
    have h1:=HI.out;have h2:=HLO.out;show cL _ _ _;by_cases hq2:q<on
    .have h3:=mi os q;unfold cL at h1 ⊢;omega
    .rw[List.take_of_length_le (by omega)] at h1;exact h1
   by_cases hq2:q<on
   .have hc:¬v<=most:=fun h=>hlt ⟨hq2,h⟩;clear hlt;go_wp2_with fail;go_loopw [5,7] (fun cv iv wx=>∃q v:Nat,q<=nn/\iv= .int .i64 q/\cv= .int .i64 v/\v<=most+70368744177670/\Hid (Below (w.alloc (.cells #[.int .u8 k,.slice pA pn pc,.int .i64 i,.int .i64 j,.string f,.string t,.slice oA on oc,.slice nA nn nc] 26)).heap.size (w.alloc (.cells #[.int .u8 k,.slice pA pn pc,.int .i64 i,.int .i64 j,.string f,.string t,.slice oA on oc,.slice nA nn nc] 26)) wx)/\Hid (cL v (1+pn+(f.size+t.size) / 8+cj os+cj (ns.take q)) most)) (fun _ iv _=>nn - (intOf iv).toNat);case atStart=>exact⟨0,v,aE _,rfl,rfl,hv,HB,by have h1:=HI2.out;simpa[Hid,cj] using h1⟩
    case round=>
     obtain⟨q',v',hq',rfl,rfl,hv',HB',HI'⟩:=hrel;clear c0 c1 c2 c3 c4 c5 c6 c7;obtain⟨c0,c1,c2,c3,c4,c5,c6,c7⟩:=HBX.out.below HB'.out;by_cases hlt:q'<nn
     .by_cases hc':v'<=most
      .obtain⟨b,o,t',rfl,ht,hat⟩:=(HN.out.below HB'.out).get hlt;obtain⟨B1,d1,q0,q1,q2,q3,hnode⟩:=hat.cells;have HND:=aa hnode;have HST:=aa (HSN.out.get ht);have HCS:=aa (mh ht);have hvv:=HI'.out.1 hc';have HV:=aa hvv;clear ht hat hnode hvv;go_wp2_with fail;rw[show((most:Int) - (v':Int))=((most - v':Nat):Int) by omega];refine(oj t' _ _ _ _ _ _ (most - v') _ HND.out HST.out (by omega)).mono ?_;rintro e w3 ⟨z,rfl,hb3,hz1,hz2,hz3⟩;have HB3:=aa (af HB'.out hb3);have HZ:=aa hz3;clear hb3 hz3 c0 c1 c2 c3 c4 c5 c6 c7;obtain⟨c0,c1,c2,c3,c4,c5,c6,c7⟩:=HBX.out.below HB3.out;go_wp2;go_roundw;case rel=>refine⟨q'+1,v'+z,by omega,by go_num,by go_num,by omega,HB3,?_⟩;show cL _ _ _;have h1:=HZ.out;have h2:=HV.out;have h3:=HCS.out;unfold cL at h1 ⊢;rw[h3];omega
       case measure=>simp[intOf];omega
      .have HT:=aa (mi ns q');go_wp2_with fail;go_ret;refine jo.intro (af HB0.out HB'.out) ?_;have h1:=HI'.out;have h2:=HT.out;rw[HC.out];unfold cL at h1 ⊢;omega
     .go_wp2_with fail;go_ret;refine jo.intro (af HB0.out HB'.out) ?_;have h1:=HI'.out;rw[List.take_of_length_le (by have:=HLN.out;omega)] at h1;rw[HC.out];exact h1
   .clear hlt;go_wp2_with fail;go_loopw [5,7] (fun cv iv wx=>∃q v:Nat,q<=nn/\iv= .int .i64 q/\cv= .int .i64 v/\v<=most+70368744177670/\Hid (Below (w.alloc (.cells #[.int .u8 k,.slice pA pn pc,.int .i64 i,.int .i64 j,.string f,.string t,.slice oA on oc,.slice nA nn nc] 26)).heap.size (w.alloc (.cells #[.int .u8 k,.slice pA pn pc,.int .i64 i,.int .i64 j,.string f,.string t,.slice oA on oc,.slice nA nn nc] 26)) wx)/\Hid (cL v (1+pn+(f.size+t.size) / 8+cj os+cj (ns.take q)) most)) (fun _ iv _=>nn - (intOf iv).toNat);case atStart=>exact⟨0,v,aE _,rfl,rfl,hv,HB,by have h1:=HI2.out;simpa[Hid,cj] using h1⟩
    case round=>
     obtain⟨q',v',hq',rfl,rfl,hv',HB',HI'⟩:=hrel;clear c0 c1 c2 c3 c4 c5 c6 c7;obtain⟨c0,c1,c2,c3,c4,c5,c6,c7⟩:=HBX.out.below HB'.out;by_cases hlt:q'<nn
     .by_cases hc':v'<=most
      .obtain⟨b,o,t',rfl,ht,hat⟩:=(HN.out.below HB'.out).get hlt;obtain⟨B1,d1,q0,q1,q2,q3,hnode⟩:=hat.cells;have HND:=aa hnode;have HST:=aa (HSN.out.get ht);have HCS:=aa (mh ht);have hvv:=HI'.out.1 hc';have HV:=aa hvv;clear ht hat hnode hvv;go_wp2_with fail;rw[show((most:Int) - (v':Int))=((most - v':Nat):Int) by omega];refine(oj t' _ _ _ _ _ _ (most - v') _ HND.out HST.out (by omega)).mono ?_;rintro e w3 ⟨z,rfl,hb3,hz1,hz2,hz3⟩;have HB3:=aa (af HB'.out hb3);have HZ:=aa hz3;clear hb3 hz3 c0 c1 c2 c3 c4 c5 c6 c7;obtain⟨c0,c1,c2,c3,c4,c5,c6,c7⟩:=HBX.out.below HB3.out;go_wp2;go_roundw;case rel=>refine⟨q'+1,v'+z,by omega,by go_num,by go_num,by omega,HB3,?_⟩;show cL _ _ _;have h1:=HZ.out;have h2:=HV.out;have h3:=HCS.out;unfold cL at h1 ⊢;rw[h3];omega
       case measure=>simp[intOf];omega
      .have HT:=aa (mi ns q');go_wp2_with fail;go_ret;refine jo.intro (af HB0.out HB'.out) ?_;have h1:=HI'.out;have h2:=HT.out;rw[HC.out];unfold cL at h1 ⊢;omega
     .go_wp2_with fail;go_ret;refine jo.intro (af HB0.out HB'.out) ?_;have h1:=HI'.out;rw[List.take_of_length_le (by have:=HLN.out;omega)] at h1;rw[HC.out];exact h1
theorem yi(ps:List Int)(os ns:List ag)(k:Nat)(pA:Option Addr)(pn pc:Nat)(i j:Int)(f t:ByteArray)(oA:Option Addr)(on oc:Nat)(nA:Option Addr)(nn nc:Nat)(w:World)(hk:k≠1/\k≠2/\k≠3/\k≠4/\k≠5)(hp:aA w ps pA pn pc)(ho:KidsAt w os oA on oc)(hn:KidsAt w ns nA nn nc)(hE:bI w)(hsz:f.size+t.size<=9223372036854775806)(hso:bi 9223372036854775806 os)(hsn:bi 9223372036854775806 ns):Calls Tryz.prog 22 #[.agg #[.int .u8 k,.slice pA pn pc,.int .i64 i,.int .i64 j,.string f,.string t,.slice oA on oc,.slice nA nn nc]] w (ak (ap ⟨k,ps,i,j,bl f,bl t,os,ns⟩) w):=by
 have hb0:Below w.heap.size w (w.alloc (.cells #[.int .u8 k,.slice pA pn pc,.int .i64 i,.int .i64 j,.string f,.string t,.slice oA on oc,.slice nA nn nc] 26)):=(ai _ _).alloc (ah _) _;have HB0:=aa hb0;have HE:=aa (hE.below hb0 (ah _));have HP:=aa (hp.below hb0);have HO:=aa (ho.below hb0);have HN:=aa (hn.below hb0);have HR:=aa (kw ⟨k,ps,i,j,bl f,bl t,os,ns⟩);have HBX:=aa (bw.new (w:=w) (x0:=.int .u8 k) (x1:=.slice pA pn pc) (x2:=.int .i64 i) (x3:=.int .i64 j) (x4:=.string f) (x5:=.string t) (x6:=.slice oA on oc) (x7:=.slice nA nn nc) (T:=26));have HSO:=aa hso;have HSN:=aa hsn;have HLP:Hid (pn=ps.length):=hp.1;have HLO:Hid (on=os.length):=ho.1;have HLN:Hid (nn=ns.length):=hn.1;have hfs:f.size<=9223372036854775806:=(by omega);have hts:t.size<=9223372036854775806:=(by omega);have hpn:pn<=9223372036854775807:=(by have h1:=hp.2.1;have h2:=hp.2.2.1;unfold maxLen at h2;omega);have hon:on<=9223372036854775807:=(by have h1:=ho.2.1;have h2:=ho.2.2.1;unfold maxLen at h2;omega);have hnn:nn<=9223372036854775807:=(by have h1:=hn.2.1;have h2:=hn.2.2.1;unfold maxLen at h2;omega);have hcf:=jy;clear hb0 hE hp ho hn hso hsn;obtain⟨hk1,hk2,hk3,hk4,hk5⟩:=hk;have e1:¬(k:Int)=1:=(by omega);have e2:¬(k:Int)=2:=(by omega);have e3:¬(k:Int)=3:=(by omega);have e4:¬(k:Int)=4:=(by omega);have e5:¬(k:Int)=5:=(by omega);have b1:((k:Int) == 1)=false:=(by simp;omega);have b2:((k:Int) == 2)=false:=(by simp;omega);have b3:((k:Int) == 3)=false:=(by simp;omega);have b4:((k:Int) == 4)=false:=(by simp;omega);have b5:((k:Int) == 5)=false:=(by simp;omega);have f2:((k:Int) != 2)=true:=(by simp;omega);have f3:((k:Int) != 3)=true:=(by simp;omega);have f5:((k:Int) != 5)=true:=(by simp;omega);have g2:(!((k:Int) == 2))=true:=(by simp;omega);have g3:(!((k:Int) == 3))=true:=(by simp;omega);have g5:(!((k:Int) == 5))=true:=by simp;omega
 go_in
 go_wp2_with fail
 go_quiet (fail)
 go_wp2_with fail;refine(kG ps _ _ _ _ (HP.out.below (ax (ai _ _) _))).mono ?_;rintro e wq ⟨rfl,q1,rfl⟩;cases ha:ps.all aH with
 |false=>have HV:Hid (ap _=false):=HR.out.trans (by simp[aI,aq,aG,aF,ha,hk1,hk2,hk3,hk4,hk5]);go_wp2_with fail;go_ret;exact ak.intro HV.out.symm (ax HB0.out _)
 |true=>
  go_wp2_with fail;refine(fT i _).mono ?_;rintro e wq ⟨rfl,q2,rfl⟩;cases hi:aH i with
  |false=>have HV:Hid (ap _=false):=HR.out.trans (by simp[aI,aq,aG,aF,ha,hi,hk1,hk2,hk3,hk4,hk5]);go_wp2_with fail;go_ret;exact ak.intro HV.out.symm (ax HB0.out _)
  |true=>
   go_wp2_with fail;refine(fT j _).mono ?_;rintro e wq ⟨rfl,q3,rfl⟩;cases hj:aH j with
   |false=>have HV:Hid (ap _=false):=HR.out.trans (by simp[aI,aq,aG,aF,ha,hi,hj,hk1,hk2,hk3,hk4,hk5]);go_wp2_with fail;go_ret;exact ak.intro HV.out.symm (ax HB0.out _)
   |true=>
    cases hi0:(i == 0) with
    |false=>have n_hi0:(i != 0)=true:=(by simpa using hi0);have HV:Hid (ap _=false):=HR.out.trans (by simp[aI,aq,aG,aF,ha,hi,hj,hi0,hk1,hk2,hk3,hk4,hk5]);go_wp2_with fail;go_ret;exact ak.intro HV.out.symm (ax HB0.out _)
    |true=>
     have q_hi0:(i != 0)=false:=(by simpa using hi0);cases hpe:ps.isEmpty with
     |true=>have pe:((pn:Int) == 0)=true:=(by have e1:=HLP.out;have e2:=List.isEmpty_iff.1 hpe;subst e2;simp at e1;simp[e1]);have HV:Hid (ap _=false):=HR.out.trans (by simp[aI,aq,aG,aF,ha,hi,hj,hi0,hpe,hk1,hk2,hk3,hk4,hk5]);go_wp2_with fail;go_ret;exact ak.intro HV.out.symm (ax HB0.out _)
     |false=>
      have pe:((pn:Int) == 0)=false:=by
       have e1:=HLP.out;cases ps with
       |nil=>cases hpe
       |cons a l=>simp at e1;simp;omega
      cases hij:(i == j) with
      |false=>have n_hij:(i != j)=true:=(by simpa using hij);have HV:Hid (ap _=false):=HR.out.trans (by simp[aI,aq,aG,aF,ha,hi,hj,hi0,hpe,hij,hk1,hk2,hk3,hk4,hk5]);go_wp2_with fail;go_ret;exact ak.intro HV.out.symm (ax HB0.out _)
      |true=>
       have q_hij:(i != j)=false:=(by simpa using hij);cases hj0:(j == 0) with
       |false=>have n_hj0:(j != 0)=true:=(by simpa using hj0);have HV:Hid (ap _=false):=HR.out.trans (by simp[aI,aq,aG,aF,ha,hi,hj,hi0,hpe,hij,hj0,hk1,hk2,hk3,hk4,hk5]);go_wp2_with fail;go_ret;exact ak.intro HV.out.symm (ax HB0.out _)
       |true=>
        have q_hj0:(j != 0)=false:=(by simpa using hj0);go_wp2_with fail;cases hem:(bl f++bl t).isEmpty with
        |false=>
         have hne:(!(f++t).toList.isEmpty)=true:=(by rw[bG,eS,hem];rfl);refine(cW f _ (HE.out.below (ax (ai _ _) _) (ah _)) hfs).mono ?_;rintro e w1 ⟨rfl,hb1⟩;have HA1:=aa (af (ax (ai _ _) _) hb1);clear hb1;obtain⟨c0,c1,c2,c3,c4,c5,c6,c7⟩:=HBX.out.below HA1.out;cases hf:be (bl f) with
         |false=>have HV:Hid (ap _=false):=HR.out.trans (by simp[aI,aq,aG,aF,ha,hi,hj,hi0,hpe,hij,hj0,hem,hf,hk1,hk2,hk3,hk4,hk5]);go_wp2_with fail;go_ret;exact ak.intro HV.out.symm (af HB0.out HA1.out)
         |true=>
          go_wp2_with fail;refine(cW t _ (HE.out.below HA1.out (ah _)) hts).mono ?_;rintro e w2 ⟨rfl,hb2⟩;have HA2:=aa (af HA1.out hb2);clear hb2;clear c0 c1 c2 c3 c4 c5 c6 c7;obtain⟨c0,c1,c2,c3,c4,c5,c6,c7⟩:=HBX.out.below HA2.out;cases ht:be (bl t) with
          |false=>have HV:Hid (ap _=false):=HR.out.trans (by simp[aI,aq,aG,aF,ha,hi,hj,hi0,hpe,hij,hj0,hem,hf,ht,hk1,hk2,hk3,hk4,hk5]);go_wp2_with fail;go_ret;exact ak.intro HV.out.symm (af HB0.out HA2.out)
          |true=>
           cases hft:(bl f == bl t) with
           |true=>obtain rfl:=fk (by simpa using hft);have HV:Hid (ap _=false):=HR.out.trans (by simp[aI,aq,aG,aF,ha,hi,hj,hi0,hpe,hij,hj0,hem,hf,ht,hft,hk1,hk2,hk3,hk4,hk5]);go_wp2_with fail;go_ret;exact ak.intro HV.out.symm (af HB0.out HA2.out)
           |false=>have e0:(f.toList == t.toList)=false:=fW (by simpa using hft);have HV:Hid (ap _=false):=HR.out.trans (by simp[aI,aq,aG,aF,ha,hi,hj,hi0,hpe,hij,hj0,hem,hf,ht,hft,hk1,hk2,hk3,hk4,hk5]);go_wp2_with fail;go_ret;exact ak.intro HV.out.symm (af HB0.out HA2.out)
        |true=>
         have hee:(!(f++t).toList.isEmpty)=false:=(by rw[bG,eS,hem];rfl);have hf0:be (bl f)=false:=(by rw[(List.append_eq_nil_iff.1 (List.isEmpty_iff.1 hem)).1];rfl);refine(cW f _ (HE.out.below (ax (ai _ _) _) (ah _)) hfs).mono ?_;rintro e w1 ⟨rfl,hb1⟩;have HA1:=aa (af (ax (ai _ _) _) hb1);clear hb1;obtain⟨c0,c1,c2,c3,c4,c5,c6,c7⟩:=HBX.out.below HA1.out;rw[hf0];go_wp2_with fail;refine(eC os _ _ _ _ (HO.out.below HA1.out) HSO.out (HE.out.below HA1.out (ah _))).mono ?_;rintro e w2 ⟨rfl,hb2⟩;have HA2:=aa (af HA1.out hb2);clear hb2;clear c0 c1 c2 c3 c4 c5 c6 c7;obtain⟨c0,c1,c2,c3,c4,c5,c6,c7⟩:=HBX.out.below HA2.out;cases hpo:bR os with
         |true=>have HV:Hid (ap _=false):=HR.out.trans (by simp[aI,aq,aG,aF,ha,hi,hj,hi0,hpe,hij,hj0,hem,hf0,hpo,hk1,hk2,hk3,hk4,hk5]);go_wp2_with fail;go_ret;exact ak.intro HV.out.symm (af HB0.out HA2.out)
         |false=>
          go_wp2_with fail;refine(eC ns _ _ _ _ (HN.out.below HA2.out) HSN.out (HE.out.below HA2.out (ah _))).mono ?_;rintro e w3 ⟨rfl,hb3⟩;have HA3:=aa (af HA2.out hb3);clear hb3;clear c0 c1 c2 c3 c4 c5 c6 c7;obtain⟨c0,c1,c2,c3,c4,c5,c6,c7⟩:=HBX.out.below HA3.out;cases hpn:bR ns with
          |true=>have HV:Hid (ap _=false):=HR.out.trans (by simp[aI,aq,aG,aF,ha,hi,hj,hi0,hpe,hij,hj0,hem,hf0,hpo,hpn,hk1,hk2,hk3,hk4,hk5]);go_wp2_with fail;go_ret;exact ak.intro HV.out.symm (af HB0.out HA3.out)
          |false=>
           cases heo:os.isEmpty with
           |false=>
            have gheo:(0:Int)<on:=by
             have e1:=HLO.out;cases os with
             |nil=>cases heo
             |cons a l=>simp at e1;omega
            have HV:Hid (ap _=false):=HR.out.trans (by simp[aI,aq,aG,aF,ha,hi,hj,hi0,hpe,hij,hj0,hem,hf0,hpo,hpn,heo,hk1,hk2,hk3,hk4,hk5]);go_wp2_with fail;go_ret;exact ak.intro HV.out.symm (af HB0.out HA3.out)
           |true=>
            have gheo:¬(0:Int)<on:=(by have e1:=HLO.out;have e2:=List.isEmpty_iff.1 heo;subst e2;simp at e1;omega);cases hen:ns.isEmpty with
            |false=>
             have ghen:(0:Int)<nn:=by
              have e1:=HLN.out;cases ns with
              |nil=>cases hen
              |cons a l=>simp at e1;omega
             have HV:Hid (ap _=false):=HR.out.trans (by simp[aI,aq,aG,aF,ha,hi,hj,hi0,hpe,hij,hj0,hem,hf0,hpo,hpn,heo,hen,hk1,hk2,hk3,hk4,hk5]);go_wp2_with fail;go_ret;exact ak.intro HV.out.symm (af HB0.out HA3.out)
            |true=>
             have ghen:¬(0:Int)<nn:=(by have e1:=HLN.out;have e2:=List.isEmpty_iff.1 hen;subst e2;simp at e1;omega);have HV:Hid (ap _=false):=HR.out.trans (by simp[aI,aq,aG,aF,ha,hi,hj,hi0,hpe,hij,hj0,hem,hf0,hpo,hpn,heo,hen,hk1,hk2,hk3,hk4,hk5]);go_wp2_with fail
             go_quiet (fail)
             go_wp2;go_ret;exact ak.intro HV.out.symm (ax (af HB0.out HA3.out) _)
def aj.fine(e:aj):Prop:=e.path.length<=17592186044416/\e.frm.length<=140737488355328/\e.to_.length<=140737488355328/\bi LL e.olds/\bi LL e.news
def lP(w:World)(e:aj)(b o:Nat):Prop:=∃(k:Nat) (pA:Option Addr) (pn pc:Nat) (i j:Int) (f t:ByteArray) (oA:Option Addr) (on oc:Nat) (nA:Option Addr) (nn nc:Nat),
 w.cell? ⟨b,o,none⟩=some (.int .u8 k)/\w.cell? ⟨b,o+1,none⟩=some (.slice pA pn pc)/\w.cell? ⟨b,o+2,none⟩=some (.int .i64 i)/\w.cell? ⟨b,o+3,none⟩=some (.int .i64 j)/\w.cell? ⟨b,o+4,none⟩=some (.string f)/\w.cell? ⟨b,o+5,none⟩=some (.string t)/\w.cell? ⟨b,o+6,none⟩=some (.slice oA on oc)/\w.cell? ⟨b,o+7,none⟩=some (.slice nA nn nc)/\
 ay w e k pA pn pc i j f t oA on oc nA nn nc
theorem lP.below{w w':World}(hb:Below w.heap.size w w'){e:aj}{b o:Nat}(h:lP w e b o):lP w' e b o:=by obtain⟨k,pA,pn,pc,i,j,f,t,oA,on,oc,nA,nn,nc,h0,h1,h2,h3,h4,h5,h6,h7,h8⟩:=h;exact⟨k,pA,pn,pc,i,j,f,t,oA,on,oc,nA,nn,nc,ac hb h0,ac hb h1,ac hb h2,ac hb h3,ac hb h4,ac hb h5,ac hb h6,ac hb h7,h8.below hb⟩
def pu(w:World)(es:List aj)(b:Nat):Prop:=∀j e,es[j]? =some e->lP w e b (j*8)
theorem pu.below{w w':World}(hb:Below w.heap.size w w'){es:List aj}{b:Nat}(h:pu w es b):pu w' es b:=fun j e he=>(h j e he).below hb
def fG(es:List aj):Bool:=es.all fun e=>decide (e.cost<=60)
theorem AH{es:List aj}{j:Nat}{e:aj}(h:fG es=fG (es.drop j))(he:es[j]? =some e):fG es=(decide (e.cost<=60) && fG (es.drop (j+1))):=by have h1:j<es.length:=(bs.1 he).1;rw[h,List.drop_eq_getElem_cons h1];rw[br h1] at he;injection he with he;rw[he];rfl
theorem wA(es:List aj)(b n c:Nat)(w:World)(hn:n=es.length)(hnn:n<=1000)(hc:n<=c)(hA:pu w es b)(hf:∀e∈es,e.fine):Calls Tryz.prog 6 #[.slice (some ⟨b,0,none⟩) n c] w (ak (fG es) w):=by
 have HA:=aa hA;have HF:=aa hf;have HL:=aa hn;clear hA hf hn
 go_in
 go_wp2_with fail;go_loopw [3] (fun i wr=>∃j:Nat,j<=n/\i= .int .i64 j/\Hid (Below w.heap.size w wr)/\Hid (fG es=fG (es.drop j))) (fun i _=>n - (intOf i).toNat);case atStart=>exact⟨0,aE _,rfl,ai _ _,rfl⟩
 case round=>
  obtain⟨j,hj,rfl,HB,HI⟩:=hrel;by_cases hlt:j<n
  .have HE:Hid (es[j]? =some (es[j]'(by have:=HL.out;omega))):=br _;generalize (es[j]'(by have:=HL.out;omega))=e at HE;obtain⟨h1,h2,h3,h4,h5⟩:=HF.out e (List.mem_of_getElem? HE.out);obtain⟨k,pA,pn,pc,i0,j0,f,t,oA,on,oc,nA,nn,nc,c0,c1,c2,c3,c4,c5,c6,c7,hE⟩:=(HA.out j e HE.out).below HB.out;have HEI:=aa hE;have HST:=aa (AH HI.out HE.out);have HS4:=aa h4;have HS5:=aa h5;have hb1:pn<=17592186044416/\f.size<=140737488355328/\t.size<=140737488355328:=by obtain⟨ps,os,ns,rfl,hp,_,_⟩:=hE;rw[hp.1];exact⟨h1,h2,h3⟩
   obtain⟨d1,d2,d3⟩:=hb1;clear hE h1 h2 h3 h4 h5;go_wp2_with fail;refine(vB e _ _ _ _ _ _ _ _ _ _ _ _ _ _ 60 _ HEI.out d1 d2 d3 HS4.out HS5.out (by omega)).mono ?_;rintro e3 w3 ⟨v,rfl,hb3,hv⟩;have HB3:=aa (af HB.out hb3);have HV:=aa hv;clear hb3 hv c0 c1 c2 c3 c4 c5 c6 c7;by_cases h60:v<=60
   .have HN:Hid (fG es=fG (es.drop (j+1))):=by show _=_;rw[HST.out];have h1:=HV.out;unfold cL at h1;have:e.cost<=60:=(by omega);simp[this]
    go_wp2;go_roundw;case rel=>exact⟨j+1,by omega,by go_num,HB3,HN⟩
    case measure=>simp[intOf];omega
   .have HN:Hid (fG es=false):=by show _=_;rw[HST.out];have h1:=HV.out;unfold cL at h1;have:¬e.cost<=60:=(by omega);simp[this]
    go_wp2;go_ret;exact ak.intro HN.out.symm HB3.out
  .have HN:Hid (fG es=true):=(by show _=_;rw[HI.out,List.drop_eq_nil_of_le (by have:=HL.out;omega)];rfl);go_wp2_with fail;go_ret;exact ak.intro HN.out.symm HB.out
mutual
theorem ag.sz_cost:∀t:ag,t.sz<=t.cost
 | .node _ _ _ ks=>by have:=m9 ks;simp only[ag.sz,ag.cost];omega
theorem m9:∀ts:List ag,ao ts<=cj ts
 |[]=>ah _
 |t::ts=>by have:=t.sz_cost;have:=m9 ts;simp only[ao,cj];omega
end
mutual
theorem ag.short_cost:∀(t:ag) (m L:Nat),t.cost<=m->8*m<=L->t.short L
 | .node _ s _ ks,m,L,h,hL=>by simp only[ag.cost] at h;refine⟨by omega,mX ks m L (by omega) hL⟩
theorem mX:∀(ts:List ag) (m L:Nat),cj ts<=m->8*m<=L->bi L ts
 |[],_,_,_,_=>trivial
 |t::ts,m,L,h,hL=>by simp only[cj] at h;exact⟨t.short_cost m L (by omega) hL,mX ts m L (by omega) hL⟩
end
structure aj.tiny (e:aj):Prop where
 path:e.path.length<=60
 texts:e.frm.length+e.to_.length<=1000
 olds:cj e.olds<=60
 news:cj e.news<=60
theorem aj.tiny_of{e:aj}(h:e.cost<=60):e.tiny:=by unfold aj.cost at h;exact⟨by omega,by omega,by omega,by omega⟩
theorem fZ{e:aj}(h:e.tiny):ao e.olds<=60:=aJ (m9 _) h.olds
theorem fY{e:aj}(h:e.tiny):ao e.news<=60:=aJ (m9 _) h.news
theorem dC{e:aj}(h:e.tiny){L:Nat}(hL:480<=L):bi L e.olds:=mX _ 60 L h.olds hL
theorem dB{e:aj}(h:e.tiny){L:Nat}(hL:480<=L):bi L e.news:=mX _ 60 L h.news hL
theorem gz{e:aj}(h:e.tiny)(p:List Int)(i:Int)(hp:p.length=e.path.length):aj.tiny { e with path:=p,at_:=i }:=
 ⟨by show p.length<=60;rw[hp];exact h.path,h.texts,h.olds,h.news⟩
theorem ji{e:aj}(h:e.tiny):(bD e).tiny:=by
 unfold bD;obtain⟨h1,h2,h3,h4⟩:=h;split
 .exact⟨by decide,by decide,by decide,by decide⟩
 .split
  .exact⟨h1,by show e.to_.length+e.frm.length<=1000;omega,h3,h4⟩
  .exact⟨h1,by show e.to_.length+e.frm.length<=1000;omega,h4,h3⟩
theorem ph{p q a b:aj}(hp:p.tiny)(hq:q.tiny)(h:el p q=some (a,b)):a.tiny/\b.tiny:=by
 unfold el at h;split at h
 .split at h
  .injection h with h;injection h with h1 h2;subst h1 h2;exact⟨gz hq _ _ rfl,gz hp _ _ rfl⟩
  .cases h
 .split at h
  .cases h
  .rename_i x hx;split at h
   .cases h
   .rename_i y hy;injection h with h;injection h with h1 h2;subst h1 h2;exact⟨gz hq _ _ (gH hx),gz hp _ _ (gH hy)⟩
theorem Bd{p q a b:aj}(hp:p.tiny)(hq:q.tiny)(h:aO p q= .ok (a,b)):a.tiny/\b.tiny:=by
 unfold aO at h;split at h
 .cases h
 split at h
 .cases h
 split at h
 .cases h
 .rename_i a' b' hs;split at h
  .injection h with h;injection h with h1 h2;subst h1 h2;exact ph hp hq hs
  .cases h
theorem AI{p q:aj}(h:fG [p,q]=true):p.tiny/\q.tiny:=by simp[fG] at h;exact⟨aj.tiny_of h.1,aj.tiny_of h.2⟩
mutual
theorem ag.names_len:∀t:ag,t.names.length<=t.sz
 | .node k s _ ks=>by have:=mv ks;simp only[ag.names,ag.sz,cb];split<;>simp<;>omega
theorem mv:∀ts:List ag,(bE ts).length<=ao ts
 |[]=>ah _
 |t::ts=>by have:=t.names_len;have:=mv ts;simp only[bE,ao,cb];omega
end
mutual
theorem ag.binds_len:∀t:ag,t.binds.length<=t.sz
 | .node k s _ ks=>by have:=nT ks;simp only[ag.binds,ag.sz,cb];split<;>simp<;>omega
theorem nT:∀ts:List ag,(cO ts).length<=ao ts
 |[]=>ah _
 |t::ts=>by have:=t.binds_len;have:=nT ts;simp only[cO,ao,cb];omega
end
theorem o9(a b:List ag):ao (a++b)=ao a+ao b:=by
 induction a with
 |nil=>simp[ao]
 |cons t ts ih=>simp[ao,ih];omega
theorem xi(a b:List ag):bE (a++b)=bE a++bE b:=by
 induction a with
 |nil=>simp[bE]
 |cons t ts ih=>simp[bE,ih]
theorem tT(a b:List ag):cO (a++b)=cO a++cO b:=by
 induction a with
 |nil=>simp[cO]
 |cons t ts ih=>simp[cO,ih]
theorem uf(a b:List ag):bP (a++b)=(bP a || bP b):=by
 induction a with
 |nil=>simp[bP]
 |cons t ts ih=>simp[bP,ih,Bool.or_assoc]
theorem Av{L:Nat}{a b:List ag}(ha:bi L a)(hb:bi L b):bi L (a++b):=by
 induction a with
 |nil=>exact hb
 |cons t ts ih=>exact⟨ha.1,ih ha.2⟩
end Go.Proofs.YtlkmefhogabgdaaGreatDoor
