/- Part 25 of the proof. -/
import Derived.SizedLaws
import Derived.DataShut
import Derived.Test.YtfipahjodfminaaGreatDoorCards
import Derived.Test.YtfipahjodfminaaGreatDoorTie
import Derived.ProofKit
import Derived.LaidMore
import Derived.OpenShut
import Derived.Carry
import Derived.Stop.Joined
import Derived.Stop.LaidErr
import Derived.Lib.LaidTab
import Derived.Deep.DeepHandedRow
import Derived.Test.YtfipahjodfminaaGreatDoorMfX
namespace Go.Proofs.YtfipahjodfminaaGreatDoor
open Go.RowKit
set_option linter.all false
set_option maxHeartbeats 40000000
set_option maxRecDepth 100000
def fd(k:Nat):ar:=
 if k=2 then[102,117,110,99,116,105,111,110]
 else if k=3 then[112,97,114,97,109,101,116,101,114,115]
 else if k=4 then[112,97,114,97,109,101,116,101,114]
 else if k=5 then[98,108,111,99,107]
 else if k<20 then[115,116,97,116,101,109,101,110,116]
 else[101,120,112,114,101,115,115,105,111,110]
def ka(a b:ar):ar:=a++32::b
def pq(n:ag)(e:aj):ar:=
 if e.kind=1 then(match n.sub e.path with
  |some u=>if u.kind=6 then ka [114,101,110,97,109,101] [118,97,114,105,97,98,108,101] else ka [114,101,110,97,109,101] (fd u.kind)
  |none=>ka [114,101,110,97,109,101] (fd 0))
 else if e.kind=2 then ka [105,110,115,101,114,116] (fd (e.news.headD default).kind)
 else if e.kind=3 then ka [100,101,108,101,116,101] (fd (e.olds.headD default).kind)
 else if e.kind=4 then ka [114,101,112,108,97,99,101] (fd (e.olds.headD default).kind)
 else ka [109,111,118,101] (fd (e.olds.headD default).kind)
def BY(n:ag)(e:aj):ar×Nat:=match Cw ek n [e] with
 | .error f=>([],f)
 | .ok _=>(pq n e,0)
def MJ(b:ar)(w:World)(e:Ending)(w':World):Prop:=e= .returned (.string (sb b))/\Below w.heap.size w w'
theorem KM(k:Nat):(fd k).length<=10:=by
 unfold fd;split
 .decide
 split
 .decide
 split
 .decide
 split
 .decide
 split<;>decide
theorem JW(a b:ar)(g c:Nat)(w:World)(h0:w.cell? ⟨g,0,none⟩=some (.string (sb a)))(h1:w.cell? ⟨g,1,none⟩=some (.string (sb b)))(ha:a.length<=1000)(hb:b.length<=1000)(hc:2<=c):Calls Tryz.prog 30 #[.slice (some ⟨g,0,none⟩) 2 c] w (MJ (ka a b) w):=by
 have hj:Lib.join ([sb a,sb b].map (·.data.toList)) (⟨#[32]⟩:ByteArray).data.toList=ka a b:=(by simp[Lib.join,ka,sb]);have HJ:=ab (Tryz.strings_Join g 0 c [sb a,sb b] ⟨#[32]⟩ w (fun j x hx=>by
  match j with
  |0=>simp at hx;subst hx;exact h0
  |1=>simp at hx;subst hx;exact h1
  |j+2=>simp at hx) (bK h0) (by simp) (by simpa using hc) (by rw[hj];simp[ka];omega))
 rw[hj] at HJ
 go_in
 go_wp2_with fail;refine HJ.out.mono ?_;rintro e w1 ⟨rfl,hb1⟩;have HB:=ab hb1;clear hb1 h0 h1;go_wp2;go_ret;exact⟨rfl,HB.out⟩
theorem P7{W0:World}{M:Nat}(hM:W0.heap.size=M)(f1 f2 f3 f4:Value):∃W1 W2 W3 W4,(Instr.mapUpdate 95 (.map (some M)) (.int .u8 2) f1).run Tryz.prog (W0.alloc (.map #[] 0))= .ok () W1/\(Instr.mapUpdate 95 (.map (some M)) (.int .u8 3) f2).run Tryz.prog W1= .ok () W2/\(Instr.mapUpdate 95 (.map (some M)) (.int .u8 4) f3).run Tryz.prog W2= .ok () W3/\(Instr.mapUpdate 95 (.map (some M)) (.int .u8 5) f4).run Tryz.prog W3= .ok () W4/\eL W4 M [(2,f1),(3,f2),(4,f3),(5,f4)]/\Below W0.heap.size W0 W4:=by have h0:=eL.made W0;rw[hM] at h0;obtain⟨W1,r1,h1,g1⟩:=h0.insert Tryz.underlying95 Tryz.underlying22 (k:=2) f1 rfl;obtain⟨W2,r2,h2,g2⟩:=h1.insert Tryz.underlying95 Tryz.underlying22 (k:=3) f2 rfl;obtain⟨W3,r3,h3,g3⟩:=h2.insert Tryz.underlying95 Tryz.underlying22 (k:=4) f3 rfl;obtain⟨W4,r4,h4,g4⟩:=h3.insert Tryz.underlying95 Tryz.underlying22 (k:=5) f4 rfl;have b0:Below W0.heap.size W0 (W0.alloc (.map #[] 0)):=(ai _ _).alloc (ah _) _;have b1:=b0.grown g1 b0.size (fun k hk=>by injection hk with hk;omega);have b2:=b1.grown g2 b1.size (fun k hk=>by injection hk with hk;omega);have b3:=b2.grown g3 b2.size (fun k hk=>by injection hk with hk;omega);have b4:=b3.grown g4 b3.size (fun k hk=>by injection hk with hk;omega);exact⟨W1,W2,W3,W4,r1,r2,r3,r4,h4,b4⟩
theorem R9(w:World):(zeroValue 9).run Tryz.prog w= .ok (.string ⟨#[]⟩) w:=by kernel_rfl
theorem Kj(k:Nat)(s:ByteArray)(x:Int)(A:Option Addr)(n c:Nat)(w:World):Calls Tryz.prog 31 #[.agg #[.int .u8 k,.string s,.int .i64 x,.slice A n c]] w (MJ (fd k) w):=by
 have hbA:Below w.heap.size w (w.alloc (.cells #[.int .u8 k,.string s,.int .i64 x,.slice A n c] 25)):=(ai _ _).alloc (ah _) _;obtain⟨M1,M2,M3,M4,m1,m2,m3,m4,hmap,hbM⟩:=P7 (W0:=w.alloc (.cells #[.int .u8 k,.string s,.int .i64 x,.slice A n c] 25)) (M:=w.heap.size+1) (by simp) (.string ⟨#[102,117,110,99,116,105,111,110]⟩) (.string ⟨#[112,97,114,97,109,101,116,101,114,115]⟩) (.string ⟨#[112,97,114,97,109,101,116,101,114]⟩) (.string ⟨#[98,108,111,99,107]⟩);have hlook:=hmap.look Tryz.underlying95 Tryz.underlying22 k (R9 M4) true;have HB:=ab (af hbA hbM);have hbox:=(hbM.block w.heap.size (by simp)).trans (heap_alloc_new _ _);obtain⟨c0,_,_,_,_⟩:=di hbox;have hmm:= @run_makeMap Tryz.prog;have HK:Hid ((k=2∨k=3∨k=4∨k=5)∨(k≠2/\k≠3/\k≠4/\k≠5)):=(by show _∨_;omega);clear hbA hbM hmap hbox;rcases HK.out with h|⟨k2,k3,k4,k5⟩
 .have HL:∃v,(Instr.lookup 95 (.map (some (w.heap.size+1))) (.int .u8 k) true).run Tryz.prog M4= .ok (.tuple #[.string (sb v),.bool true]) M4/\fd k=v:=by
   rcases h with rfl|rfl|rfl|rfl
   .exact⟨[102,117,110,99,116,105,111,110],hlook,rfl⟩
   .exact⟨[112,97,114,97,109,101,116,101,114,115],hlook,rfl⟩
   .exact⟨[112,97,114,97,109,101,116,101,114],hlook,rfl⟩
   .exact⟨[98,108,111,99,107],hlook,rfl⟩
  obtain⟨v,hl,hv⟩:=HL;have HV:=ab hv;clear h hlook hv
  go_in
  go_wp2;go_ret;exact⟨by rw[HV.out];rfl,HB.out⟩
 .have hl:(Instr.lookup 95 (.map (some (w.heap.size+1))) (.int .u8 k) true).run Tryz.prog M4= .ok (.tuple #[.string ⟨#[]⟩,.bool false]) M4:=by
   rw[hlook];have e:List.lookup k [(2,Value.string ⟨#[102,117,110,99,116,105,111,110]⟩),(3,.string ⟨#[112,97,114,97,109,101,116,101,114,115]⟩),(4,.string ⟨#[112,97,114,97,109,101,116,101,114]⟩),(5,.string ⟨#[98,108,111,99,107]⟩)]=none:=by simp[List.lookup,k2,k3,k4,k5,beq_eq_false_iff_ne.2 k2,beq_eq_false_iff_ne.2 k3,beq_eq_false_iff_ne.2 k4,beq_eq_false_iff_ne.2 k5]
   rw[e];rfl
  by_cases hk:k<20
  .have HV:Hid (fd k=[115,116,97,116,101,109,101,110,116]):=(by show _=_;unfold fd;rw[if_neg k2,if_neg k3,if_neg k4,if_neg k5,if_pos hk]);have hk':(k:Int)<20:=(by omega);clear hlook k2 k3 k4 k5 hk
   go_in
   go_wp2;go_ret;exact⟨by rw[HV.out];rfl,HB.out⟩
  .have HV:Hid (fd k=[101,120,112,114,101,115,115,105,111,110]):=(by show _=_;unfold fd;rw[if_neg k2,if_neg k3,if_neg k4,if_neg k5,if_neg hk]);have hk':¬(k:Int)<20:=(by omega);clear hlook k2 k3 k4 k5 hk
   go_in
   go_wp2;go_ret;exact⟨by rw[HV.out];rfl,HB.out⟩
def OK(r:ar×Nat)(w:World)(e:Ending)(w':World):Prop:=e= .returned (.tuple #[.string (sb r.1),.int .i64 r.2])/\Below w.heap.size w w'
theorem Lh{w:World}{v:ag}{A:Option Addr}{n c:Nat}(h:ce w [v] A n c):∃g o B d,A=some ⟨g,o,none⟩/\n=1/\w.cell? ⟨g,o,none⟩=some (.int .u8 v.kind)/\w.cell? ⟨g,o+1,none⟩=some (.string (sb v.text))/\w.cell? ⟨g,o+2,none⟩=some (.int .i64 v.num)/\w.cell? ⟨g,o+3,none⟩=some (.slice B v.kids.length d):=by have hn:n=1:=h.1;obtain⟨g,o,t,rfl,ht,hat⟩:=h.get (i:=0) (by omega);simp at ht;subst ht;obtain⟨B,d,q0,q1,q2,q3,_⟩:=hat.cells;rw[Nat.zero_mul,Nat.add_zero] at q0 q1 q2 q3;exact⟨g,o,B,d,rfl,hn,q0,q1,q2,q3⟩
theorem OS{T:ag}{e:aj}{fe:Nat}(hap:Cw ek T [e]= .error fe):fe≠0:=by
 intro h0;subst h0;unfold Cw at hap;split at hap
 .injection hap with hap;omega
 .unfold CM at hap;split at hap
  .cases ho:ek T e with
   |error m=>rw[ho] at hap;simp only at hap;injection hap with hap;subst hap;exact Lg T e ho
   |ok u=>rw[ho] at hap;unfold CM at hap;cases hap
  .injection hap with hap;omega
theorem Lk(T:ag)(k:Nat)(s:ByteArray)(x:Int)(A:Option Addr)(n c:Nat)(e:aj)(ke:Nat)(pA:Option Addr)(pn pc:Nat)(i j:Int)(f t:ByteArray)(oA:Option Addr)(on oc:Nat)(nA:Option Addr)(nn nc:Nat)(w:World)(hN:cf w T k s x A n c)(hE:bI w)(hT:JM T)(hed:ay w e ke pA pn pc i j f t oA on oc nA nn nc)(hm:e.mid)(hf:e.frm.length<=281474976710656):Calls Tryz.prog 11 #[.agg #[.int .u8 k,.string s,.int .i64 x,.slice A n c],.agg #[.int .u8 ke,.slice pA pn pc,.int .i64 i,.int .i64 j,.string f,.string t,.slice oA on oc,.slice nA nn nc]] w (OK (BY T e) w):=by
 have hB3:Below w.heap.size w (((w.alloc (.cells #[.int .u8 k,.string s,.int .i64 x,.slice A n c] 25)).alloc (.cells #[.int .u8 ke,.slice pA pn pc,.int .i64 i,.int .i64 j,.string f,.string t,.slice oA on oc,.slice nA nn nc] 29)).alloc (.cells #[.int .u8 ke,.slice pA pn pc,.int .i64 i,.int .i64 j,.string f,.string t,.slice oA on oc,.slice nA nn nc] 29)):=(((ai _ _).alloc (ah _) _).alloc (by simp) _).alloc (by simp;omega) _;have hbx:(((w.alloc (.cells #[.int .u8 k,.string s,.int .i64 x,.slice A n c] 25)).alloc (.cells #[.int .u8 ke,.slice pA pn pc,.int .i64 i,.int .i64 j,.string f,.string t,.slice oA on oc,.slice nA nn nc] 29)).alloc (.cells #[.int .u8 ke,.slice pA pn pc,.int .i64 i,.int .i64 j,.string f,.string t,.slice oA on oc,.slice nA nn nc] 29)).heap[w.heap.size+1+1]? =some (.cells #[.int .u8 ke,.slice pA pn pc,.int .i64 i,.int .i64 j,.string f,.string t,.slice oA on oc,.slice nA nn nc] 29 (0,0)):=heap_alloc_at (by simp);have hbxE:(((w.alloc (.cells #[.int .u8 k,.string s,.int .i64 x,.slice A n c] 25)).alloc (.cells #[.int .u8 ke,.slice pA pn pc,.int .i64 i,.int .i64 j,.string f,.string t,.slice oA on oc,.slice nA nn nc] 29)).alloc (.cells #[.int .u8 ke,.slice pA pn pc,.int .i64 i,.int .i64 j,.string f,.string t,.slice oA on oc,.slice nA nn nc] 29)).heap[w.heap.size+1]? =some (.cells #[.int .u8 ke,.slice pA pn pc,.int .i64 i,.int .i64 j,.string f,.string t,.slice oA on oc,.slice nA nn nc] 29 (0,0)):=(Below.heap_alloc _ _ _ (by simp)).trans (heap_alloc_at (by simp));have hbxN:(((w.alloc (.cells #[.int .u8 k,.string s,.int .i64 x,.slice A n c] 25)).alloc (.cells #[.int .u8 ke,.slice pA pn pc,.int .i64 i,.int .i64 j,.string f,.string t,.slice oA on oc,.slice nA nn nc] 29)).alloc (.cells #[.int .u8 ke,.slice pA pn pc,.int .i64 i,.int .i64 j,.string f,.string t,.slice oA on oc,.slice nA nn nc] 29)).heap[w.heap.size]? =some (.cells #[.int .u8 k,.string s,.int .i64 x,.slice A n c] 25 (0,0)):=(Below.heap_alloc _ _ _ (by simp;omega)).trans ((Below.heap_alloc _ _ _ (by simp)).trans (heap_alloc_at rfl));have HED4:Hid (Gr (((w.alloc (.cells #[.int .u8 k,.string s,.int .i64 x,.slice A n c] 25)).alloc (.cells #[.int .u8 ke,.slice pA pn pc,.int .i64 i,.int .i64 j,.string f,.string t,.slice oA on oc,.slice nA nn nc] 29)).alloc (.cells #[.int .u8 ke,.slice pA pn pc,.int .i64 i,.int .i64 j,.string f,.string t,.slice oA on oc,.slice nA nn nc] 29)) e (w.heap.size+1+1) 0):=by obtain⟨a0,a1,a2,a3,a4,a5,a6,a7⟩:=(aw hbx).cs;exact⟨ke,pA,pn,pc,i,j,f,t,oA,on,oc,nA,nn,nc,a0,a1,a2,a3,a4,a5,a6,a7,hed.below hB3⟩
 have HAP:=ab (Mi e T k s x A n c (w.heap.size+1+1) 0 1 (((w.alloc (.cells #[.int .u8 k,.string s,.int .i64 x,.slice A n c] 25)).alloc (.cells #[.int .u8 ke,.slice pA pn pc,.int .i64 i,.int .i64 j,.string f,.string t,.slice oA on oc,.slice nA nn nc] 29)).alloc (.cells #[.int .u8 ke,.slice pA pn pc,.int .i64 i,.int .i64 j,.string f,.string t,.slice oA on oc,.slice nA nn nc] 29)) (hN.below hB3) (hE.below hB3 (ah _)) hT HED4.out (by omega) (by unfold maxLen;omega) hm hf);have HN:=ab hN;have HED:=ab hed;have HB3:=ab hB3;have HBE:=ab hbxE;have HBN:=ab hbxN;have HS3:Hid ((((w.alloc (.cells #[.int .u8 k,.string s,.int .i64 x,.slice A n c] 25)).alloc (.cells #[.int .u8 ke,.slice pA pn pc,.int .i64 i,.int .i64 j,.string f,.string t,.slice oA on oc,.slice nA nn nc] 29)).alloc (.cells #[.int .u8 ke,.slice pA pn pc,.int .i64 i,.int .i64 j,.string f,.string t,.slice oA on oc,.slice nA nn nc] 29)).heap.size=w.heap.size+3):=(by show _=_;simp);have hTs:=hT.1;clear hN hE hed hB3 hbx hbxE hbxN HED4 hT
 go_in
 go_wp2_with fail;refine HAP.out.mono ?_;generalize (((w.alloc (.cells #[.int .u8 k,.string s,.int .i64 x,.slice A n c] 25)).alloc (.cells #[.int .u8 ke,.slice pA pn pc,.int .i64 i,.int .i64 j,.string f,.string t,.slice oA on oc,.slice nA nn nc] 29)).alloc (.cells #[.int .u8 ke,.slice pA pn pc,.int .i64 i,.int .i64 j,.string f,.string t,.slice oA on oc,.slice nA nn nc] 29))=W3 at HS3 HAP HB3 HBE HBN ⊢;intro en w1 hpost;obtain⟨hb1,hpost⟩:=hpost;have HB1:=ab (HB3.out.trans (hb1.mono HB3.out.size));have HBE1:=ab ((hb1.block _ (aK.1 HBE.out).1).trans HBE.out);have HBN1:=ab ((hb1.block _ (aK.1 HBN.out).1).trans HBN.out);cases hap:Cw ek T [e] with
 |error fe=>
  rw[hap] at hpost;have HKE:Hid (BY T e=([],fe)):=(by show _=_;unfold BY;rw[hap]);have hfe:=OS hap;have hfn:((fe:Int) != 0)=true:=(by simpa using hfe);have hpost:en= .returned (.tuple #[.agg #[.int .u8 0,.string ⟨#[]⟩,.int .i64 0,.slice none 0 0],.int .i64 fe]):=hpost;subst hpost;clear hb1 hap;go_wp2
  go_ret2
  exact⟨by rw[HKE.out];rfl,HB1.out.alloc HB1.out.size _⟩
 |ok m=>
  rw[hap] at hpost;have HKE:Hid (BY T e=(pq T e,0)):=(by show _=_;unfold BY;rw[hap]);obtain⟨hprog,hright,hone⟩:=JO.1 hap;have HRP:=ab (KK hright).2.2.2;have hk5:=Iz hright;have hpost:∃(k:Nat) (s:ByteArray) (x:Int) (A:Option Addr) (n c:Nat),en= .returned (.tuple #[.agg #[.int .u8 k,.string s,.int .i64 x,.slice A n c],.int .i64 0])/\cf (cX w1 W3.heap.size) m k s x A n c:=hpost;obtain⟨k',s',x',A',n',c',rfl,hnm⟩:=hpost;obtain⟨ps,os,ns,he9,h1,h2,h3⟩:=HED.out;have hek:e.kind=ke/\e.path=ps/\e.olds=os/\e.news=ns:=(by rw[he9];exact⟨rfl,rfl,rfl,rfl⟩);obtain⟨he1,he2,he3,he4⟩:=hek;have hbN:Below w1.heap.size w1 (w1.alloc (.cells #[.int .u8 k',.string s',.int .i64 x',.slice A' n' c'] 25)):=(ai _ _).alloc (ah _) _;have HBW:=ab (HB1.out.trans (hbN.mono HB1.out.size));have HBEA:=ab ((hbN.block _ (aK.1 HBE1.out).1).trans HBE1.out);have HBNA:=ab ((hbN.block _ (aK.1 HBN1.out).1).trans HBN1.out);have HPA:=ab (h1.below HBW.out);have HOA:=ab (h2.below HBW.out);have HNA:=ab (h3.below HBW.out);have HSA:Hid (w.heap.size+3<=w1.heap.size):=(by show _<=_;have:=HS3.out;have:=hb1.size;omega);rw[he1] at hk5;have HE1:=ab he1;have HE2:=ab he2;have HE3:=ab he3;have HE4:=ab he4;have hw1:=HSA.out;clear hb1 hap hnm he9 h1 h2 h3 he1 he2 he3 he4 hbN hone hprog hright;obtain⟨a0,a1,a2,a3,a4,a5,a6,a7⟩:=(aw HBEA.out).cs;obtain⟨b0,b1,b2,b3,_⟩:=di HBNA.out;rcases hk5 with hk|hk|hk|hk|hk
  .subst hk;have HKW:Hid (pq T e=(match T.sub e.path with
    |some u=>if u.kind=6 then ka [114,101,110,97,109,101] [118,97,114,105,97,98,108,101] else ka [114,101,110,97,109,101] (fd u.kind)
    |none=>ka [114,101,110,97,109,101] (fd 0))):=by show _=_;unfold pq;rw[if_pos HE1.out]
   rw[HE2.out] at HKW;have HGT:=ab (Mk T k s x A n c ps pA pn pc (w1.alloc (.cells #[.int .u8 k',.string s',.int .i64 x',.slice A' n' c'] 25)) (by omega) (HN.out.below HBW.out) HPA.out);go_wp2_with fail;refine HGT.out.mono ?_;generalize (w1.alloc (.cells #[.int .u8 k',.string s',.int .i64 x',.slice A' n' c'] 25))=WA at HBW HBEA HBNA HPA HOA HNA HGT a0 a1 a2 a3 a4 a5 a6 a7 b0 b1 b2 b3 ⊢;intro en2 w2 hg;obtain⟨hb2,hg⟩:=hg;have HB2:=ab (HBW.out.trans (hb2.mono HBW.out.size));clear a0 a1 a2 a3 a4 a5 a6 a7 b0 b1 b2 b3;cases hs:T.sub ps with
   |none=>
    rw[hs] at hg HKW;have hg:en2= .returned (.tuple #[.agg #[.int .u8 0,.string ⟨#[]⟩,.int .i64 0,.slice none 0 0],.bool false]):=hg;subst hg;have HOF:=ab (Kj 0 ⟨#[]⟩ 0 none 0 0 (w2.alloc (.cells #[.int .u8 0,.string ⟨#[]⟩,.int .i64 0,.slice none 0 0] 25)));go_wp2_with fail;refine HOF.out.mono ?_;rintro en3 w3 ⟨rfl,hb3⟩;have HB3':=ab ((HB2.out.alloc HB2.out.size (.cells #[.int .u8 0,.string ⟨#[]⟩,.int .i64 0,.slice none 0 0] 25)).trans (hb3.mono (HB2.out.alloc HB2.out.size (.cells #[.int .u8 0,.string ⟨#[]⟩,.int .i64 0,.slice none 0 0] 25)).size));have HWD:=ab (JW [114,101,110,97,109,101] (fd 0) w3.heap.size 2 (w3.alloc (.cells #[.string (sb [114,101,110,97,109,101]),.string (sb (fd 0))] 9)) (by simp) (by simp) (by decide) (by decide) (ah _));clear hb3 hb2;go_wp2_with fail;refine HWD.out.mono ?_;rintro en4 w4 ⟨rfl,hb4⟩;have HB4:=ab ((HB3'.out.alloc HB3'.out.size (.cells #[.string (sb [114,101,110,97,109,101]),.string (sb (fd 0))] 9)).trans (hb4.mono (HB3'.out.alloc HB3'.out.size _).size));clear hb4;go_wp2
    go_ret2
    exact⟨by rw[HKE.out,HKW.out];rfl,HB4.out⟩
   |some u=>
    rw[hs] at hg HKW;have hg:∃(k:Nat) (s:ByteArray) (x:Int) (A:Option Addr) (n c:Nat),en2= .returned (.tuple #[.agg #[.int .u8 k,.string s,.int .i64 x,.slice A n c],.bool true])/\cf (cX w2 WA.heap.size) u k s x A n c:=hg;obtain⟨k2,s2,x2,A2,n2,c2,rfl,hnu⟩:=hg;have hku:u.kind=k2:=(by obtain⟨ks,rfl,_⟩:=hnu;rfl);have HKW:Hid (pq T e=if u.kind=6 then ka [114,101,110,97,109,101] [118,97,114,105,97,98,108,101] else ka [114,101,110,97,109,101] (fd u.kind)):=HKW;rw[hku] at HKW;clear hnu hku hb2 hs;by_cases h6:k2=6
    .subst h6;have HWD:=ab (JW [114,101,110,97,109,101] [118,97,114,105,97,98,108,101] (w2.heap.size+1) 2 ((w2.alloc (.cells #[.int .u8 6,.string s2,.int .i64 x2,.slice A2 n2 c2] 25)).alloc (.cells #[.string (sb [114,101,110,97,109,101]),.string (sb [118,97,114,105,97,98,108,101])] 9)) (by simp) (by simp) (by decide) (by decide) (ah _));have HB5:=ab ((HB2.out.alloc HB2.out.size (.cells #[.int .u8 6,.string s2,.int .i64 x2,.slice A2 n2 c2] 25)).alloc (HB2.out.alloc HB2.out.size _).size (.cells #[.string (sb [114,101,110,97,109,101]),.string (sb [118,97,114,105,97,98,108,101])] 9));go_wp2_with fail;refine HWD.out.mono ?_;rintro en4 w4 ⟨rfl,hb4⟩;have HB4:=ab (HB5.out.trans (hb4.mono HB5.out.size));clear hb4;go_wp2
     go_ret2
     exact⟨by rw[HKE.out,HKW.out];rfl,HB4.out⟩
    .have e6:((k2:Int) == 6)=false:=(by simp;omega);rw[if_neg h6] at HKW;clear h6;have HB5:=ab (HB2.out.alloc HB2.out.size (.cells #[.int .u8 k2,.string s2,.int .i64 x2,.slice A2 n2 c2] 25));have HOF:=ab (Kj k2 s2 x2 A2 n2 c2 (w2.alloc (.cells #[.int .u8 k2,.string s2,.int .i64 x2,.slice A2 n2 c2] 25)));go_wp2_with fail;refine HOF.out.mono ?_;rintro en3 w3 ⟨rfl,hb3⟩;have HB3':=ab (HB5.out.trans (hb3.mono HB5.out.size));have HWD:=ab (JW [114,101,110,97,109,101] (fd k2) w3.heap.size 2 (w3.alloc (.cells #[.string (sb [114,101,110,97,109,101]),.string (sb (fd k2))] 9)) (by simp) (by simp) (by decide) (aJ (KM _) (by omega)) (ah _));clear hb3;go_wp2_with fail;refine HWD.out.mono ?_;rintro en4 w4 ⟨rfl,hb4⟩;have HB4:=ab ((HB3'.out.alloc HB3'.out.size (.cells #[.string (sb [114,101,110,97,109,101]),.string (sb (fd k2))] 9)).trans (hb4.mono (HB3'.out.alloc HB3'.out.size _).size));clear hb4;go_wp2
     go_ret2
     exact⟨by rw[HKE.out,HKW.out];rfl,HB4.out⟩
  .subst hk;have hx:∃v,e.news=[v]:=by
    first
     |(obtain⟨v,hv,_⟩:=HRP.out.1 (by rw[HE1.out];rfl);exact⟨v,hv⟩)
     |(obtain⟨v,hv,_⟩:=HRP.out.2 (by rw[HE1.out];rfl);exact⟨v,hv⟩)
   obtain⟨v,hv⟩:=hx;have HKW:Hid (pq T e=ka [105,110,115,101,114,116] (fd v.kind)):=(by show _=_;unfold pq;rw[if_neg (by rw[HE1.out];omega),if_pos HE1.out,hv];rfl);rw[HE4.out] at hv;subst hv;obtain⟨g,o,B,d,rfl,rfl,q0,q1,q2,q3⟩:=Lh HNA.out;have HOF:=ab (Kj v.kind (sb v.text) v.num B v.kids.length d (w1.alloc (.cells #[.int .u8 k',.string s',.int .i64 x',.slice A' n' c'] 25)));go_wp2_with fail;refine HOF.out.mono ?_;rintro en3 w3 ⟨rfl,hb3⟩;have HB3':=ab (HBW.out.trans (hb3.mono HBW.out.size));have HWD:=ab (JW [105,110,115,101,114,116] (fd v.kind) w3.heap.size 2 (w3.alloc (.cells #[.string (sb [105,110,115,101,114,116]),.string (sb (fd v.kind))] 9)) (by simp) (by simp) (by decide) (aJ (KM _) (by omega)) (ah _));clear hb3;go_wp2_with fail;refine HWD.out.mono ?_;rintro en4 w4 ⟨rfl,hb4⟩;have HB4:=ab ((HB3'.out.alloc HB3'.out.size (.cells #[.string (sb [105,110,115,101,114,116]),.string (sb (fd v.kind))] 9)).trans (hb4.mono (HB3'.out.alloc HB3'.out.size _).size));clear hb4;go_wp2
   go_ret2
   exact⟨by rw[HKE.out,HKW.out];rfl,HB4.out⟩
  .subst hk;have hx:∃v,e.olds=[v]:=by
    first
     |(obtain⟨v,hv,_⟩:=HRP.out.1 (by rw[HE1.out];rfl);exact⟨v,hv⟩)
     |(obtain⟨v,hv,_⟩:=HRP.out.2 (by rw[HE1.out];rfl);exact⟨v,hv⟩)
   obtain⟨v,hv⟩:=hx;have HKW:Hid (pq T e=ka [100,101,108,101,116,101] (fd v.kind)):=(by show _=_;unfold pq;rw[if_neg (by rw[HE1.out];omega),if_neg (by rw[HE1.out];omega),if_pos HE1.out,hv];rfl);rw[HE3.out] at hv;subst hv;obtain⟨g,o,B,d,rfl,rfl,q0,q1,q2,q3⟩:=Lh HOA.out;have HOF:=ab (Kj v.kind (sb v.text) v.num B v.kids.length d (w1.alloc (.cells #[.int .u8 k',.string s',.int .i64 x',.slice A' n' c'] 25)));go_wp2_with fail;refine HOF.out.mono ?_;rintro en3 w3 ⟨rfl,hb3⟩;have HB3':=ab (HBW.out.trans (hb3.mono HBW.out.size));have HWD:=ab (JW [100,101,108,101,116,101] (fd v.kind) w3.heap.size 2 (w3.alloc (.cells #[.string (sb [100,101,108,101,116,101]),.string (sb (fd v.kind))] 9)) (by simp) (by simp) (by decide) (aJ (KM _) (by omega)) (ah _));clear hb3;go_wp2_with fail;refine HWD.out.mono ?_;rintro en4 w4 ⟨rfl,hb4⟩;have HB4:=ab ((HB3'.out.alloc HB3'.out.size (.cells #[.string (sb [100,101,108,101,116,101]),.string (sb (fd v.kind))] 9)).trans (hb4.mono (HB3'.out.alloc HB3'.out.size _).size));clear hb4;go_wp2
   go_ret2
   exact⟨by rw[HKE.out,HKW.out];rfl,HB4.out⟩
  .subst hk;have hx:∃v,e.olds=[v]:=by
    first
     |(obtain⟨v,hv,_⟩:=HRP.out.1 (by rw[HE1.out];rfl);exact⟨v,hv⟩)
     |(obtain⟨v,hv,_⟩:=HRP.out.2 (by rw[HE1.out];rfl);exact⟨v,hv⟩)
   obtain⟨v,hv⟩:=hx;have HKW:Hid (pq T e=ka [114,101,112,108,97,99,101] (fd v.kind)):=(by show _=_;unfold pq;rw[if_neg (by rw[HE1.out];omega),if_neg (by rw[HE1.out];omega),if_neg (by rw[HE1.out];omega),if_pos HE1.out,hv];rfl);rw[HE3.out] at hv;subst hv;obtain⟨g,o,B,d,rfl,rfl,q0,q1,q2,q3⟩:=Lh HOA.out;have HOF:=ab (Kj v.kind (sb v.text) v.num B v.kids.length d (w1.alloc (.cells #[.int .u8 k',.string s',.int .i64 x',.slice A' n' c'] 25)));go_wp2_with fail;refine HOF.out.mono ?_;rintro en3 w3 ⟨rfl,hb3⟩;have HB3':=ab (HBW.out.trans (hb3.mono HBW.out.size));have HWD:=ab (JW [114,101,112,108,97,99,101] (fd v.kind) w3.heap.size 2 (w3.alloc (.cells #[.string (sb [114,101,112,108,97,99,101]),.string (sb (fd v.kind))] 9)) (by simp) (by simp) (by decide) (aJ (KM _) (by omega)) (ah _));clear hb3;go_wp2_with fail;refine HWD.out.mono ?_;rintro en4 w4 ⟨rfl,hb4⟩;have HB4:=ab ((HB3'.out.alloc HB3'.out.size (.cells #[.string (sb [114,101,112,108,97,99,101]),.string (sb (fd v.kind))] 9)).trans (hb4.mono (HB3'.out.alloc HB3'.out.size _).size));clear hb4;go_wp2
   go_ret2
   exact⟨by rw[HKE.out,HKW.out];rfl,HB4.out⟩
  .subst hk;have hx:∃v,e.olds=[v]:=by
    first
     |(obtain⟨v,hv,_⟩:=HRP.out.1 (by rw[HE1.out];rfl);exact⟨v,hv⟩)
     |(obtain⟨v,hv,_⟩:=HRP.out.2 (by rw[HE1.out];rfl);exact⟨v,hv⟩)
   obtain⟨v,hv⟩:=hx;have HKW:Hid (pq T e=ka [109,111,118,101] (fd v.kind)):=(by show _=_;unfold pq;rw[if_neg (by rw[HE1.out];omega),if_neg (by rw[HE1.out];omega),if_neg (by rw[HE1.out];omega),if_neg (by rw[HE1.out];omega),hv];rfl);rw[HE3.out] at hv;subst hv;obtain⟨g,o,B,d,rfl,rfl,q0,q1,q2,q3⟩:=Lh HOA.out;have HOF:=ab (Kj v.kind (sb v.text) v.num B v.kids.length d (w1.alloc (.cells #[.int .u8 k',.string s',.int .i64 x',.slice A' n' c'] 25)));go_wp2_with fail;refine HOF.out.mono ?_;rintro en3 w3 ⟨rfl,hb3⟩;have HB3':=ab (HBW.out.trans (hb3.mono HBW.out.size));have HWD:=ab (JW [109,111,118,101] (fd v.kind) w3.heap.size 2 (w3.alloc (.cells #[.string (sb [109,111,118,101]),.string (sb (fd v.kind))] 9)) (by simp) (by simp) (by decide) (aJ (KM _) (by omega)) (ah _));clear hb3;go_wp2_with fail;refine HWD.out.mono ?_;rintro en4 w4 ⟨rfl,hb4⟩;have HB4:=ab ((HB3'.out.alloc HB3'.out.size (.cells #[.string (sb [109,111,118,101]),.string (sb (fd v.kind))] 9)).trans (hb4.mono (HB3'.out.alloc HB3'.out.size _).size));clear hb4;go_wp2
   go_ret2
   exact⟨by rw[HKE.out,HKW.out];rfl,HB4.out⟩
def Aa:ag:=.node 1 [] 0 [.node 2 [102] 0 [.node 3 [] 0 [.node 4 [97] 0 []],.node 5 [] 0 [JI]]]
def J5:aj:=⟨2,[0,1],0,0,[],[],[],[Jf]⟩
def KY:aj:=⟨2,[0,1],1,0,[],[],[],[Jf]⟩
def J6:aj:=⟨3,[0,1],0,0,[],[],[JI],[]⟩
theorem Pb:BY Aa J5=([105,110,115,101,114,116,32,115,116,97,116,101,109,101,110,116],0):=by kernel_rfl
theorem Pc:BY Aa J6=([100,101,108,101,116,101,32,115,116,97,116,101,109,101,110,116],0):=by kernel_rfl
theorem Pd:j4 Aa J5=false:=by kernel_rfl
theorem Pe:j4 Aa KY=true:=by kernel_rfl
theorem Pf:j4 Aa J6=true:=by kernel_rfl
structure aj.e8 (e:aj):Prop where
 path:e.path.length<=10000
 texts:e.frm.length+e.to_.length<=10000
 olds:ao e.olds<=1000/\ex 10000 e.olds
 news:ao e.news<=1000/\ex 10000 e.news
structure ag.t8 (t:ag):Prop where
 sz:t.sz<=1000
 short:t.short 10000
theorem aj.e8_of{e:aj}(h:e.cost<=800):e.e8:=by unfold aj.cost at h;have h1:=m9 e.olds;have h2:=m9 e.news;exact⟨by omega,by omega,⟨by omega,mX e.olds 800 10000 (by omega) (by omega)⟩,⟨by omega,mX e.news 800 10000 (by omega) (by omega)⟩⟩
theorem ag.t8_of{t:ag}(h:t.cost<=800):t.t8:=⟨aJ t.sz_cost (by omega),t.short_cost 800 10000 h (by omega)⟩
theorem aj.e8.mid{e:aj}(h:e.e8):e.mid:=⟨by have:=h.texts;omega,⟨aJ h.olds.1 (by omega),EI (by omega) h.olds.2⟩,⟨aJ h.news.1 (by omega),EI (by omega) h.news.2⟩⟩
theorem ag.t8.mid{t:ag}(h:t.t8):JM t:=⟨aJ h.sz (by omega),IK (by omega) h.short⟩
theorem PY{T U:ag}{e:aj}(hT:T.t8)(he:e.e8)(h:Cw ek T [e]= .ok U):JM U:=by obtain⟨_,h2,h3⟩:=JO.1 h;obtain⟨h4,h5⟩:=Me h2 he.mid (S:=1000) ⟨hT.sz,IK (by omega) hT.short⟩ h3;have h6:=he.olds.1;have h7:=he.news.1;exact⟨by omega,h5⟩
theorem QA(e:aj)(k:Nat)(pA:Option Addr)(pn pc:Nat)(i j:Int)(f t:ByteArray)(oA:Option Addr)(on oc:Nat)(nA:Option Addr)(nn nc:Nat)(w:World)(h:ay w e k pA pn pc i j f t oA on oc nA nn nc)(hE:bI w)(ht:e.e8):Calls Tryz.prog 24 #[.agg #[.int .u8 k,.slice pA pn pc,.int .i64 i,.int .i64 j,.string f,.string t,.slice oA on oc,.slice nA nn nc]] w (jQ (bD e) (nA,nn,nc) w):=by
 have hso:ex 9223372036854775806 e.olds:=EI (by omega) ht.olds.2;have hsn:ex 9223372036854775806 e.news:=EI (by omega) ht.news.2;have hos:=aJ ht.olds.1 (show 1000<=1000000 by omega);have hns:=aJ ht.news.1 (show 1000<=1000000 by omega);have h':=h;obtain⟨ps,os,ns,rfl,hp,ho,hn⟩:=h;have htx:=ht.texts;have hsz:f.size+t.size<=9223372036854775806:=by have h1:(bl f).length+(bl t).length<=10000:=htx;rw[dt,dt] at h1;omega
 have hpn:pn<=17592186044416:=(by rw[hp.1];exact aJ ht.path (by omega));cases hr:ap ⟨k,ps,i,j,bl f,bl t,os,ns⟩ with
 |false=>exact yA _ _ _ _ _ _ _ _ _ _ _ _ _ _ _ _ h' hE hsz hso hsn hr
 |true=>
  by_cases h5:k=5
  .subst h5;exact yx ps os ns pA pn pc i j f t oA on oc nA nn nc w hp ho hn hE hsz hso hsn hr hpn hos
  by_cases h2:k=2
  .subst h2;exact yv ps os ns pA pn pc i j f t oA on oc nA nn nc w hp ho hn hE hsz hso hsn hr hpn hos hns
  by_cases h3:k=3
  .subst h3;exact yw ps os ns pA pn pc i j f t oA on oc nA nn nc w hp ho hn hE hsz hso hsn hr hpn hos hns
  exact yz k ps os ns pA pn pc i j f t oA on oc nA nn nc w hp ho hn hE hsz hso hsn hr hpn hos hns ⟨h2,h3,h5⟩
theorem MW{w:World}{b g:Nat}(hp:cc w [0,1] (some ⟨b,0,none⟩) 2 2)(hn:ce w [Jf] (some ⟨g,0,none⟩) 1 1):ay w J5 2 (some ⟨b,0,none⟩) 2 2 0 0 ⟨#[]⟩ ⟨#[]⟩ none 0 0 (some ⟨g,0,none⟩) 1 1:=⟨[0,1],[],[Jf],rfl,hp,ce.nil _ _ (by decide),hn⟩
theorem O5{w:World}{b g:Nat}(hp:cc w [0,1] (some ⟨b,0,none⟩) 2 2)(hn:ce w [Jf] (some ⟨g,0,none⟩) 1 1):ay w KY 2 (some ⟨b,0,none⟩) 2 2 1 0 ⟨#[]⟩ ⟨#[]⟩ none 0 0 (some ⟨g,0,none⟩) 1 1:=⟨[0,1],[],[Jf],rfl,hp,ce.nil _ _ (by decide),hn⟩
theorem MX{w:World}{b g:Nat}(hp:cc w [0,1] (some ⟨b,0,none⟩) 2 2)(hn:ce w [JI] (some ⟨g,0,none⟩) 1 1):ay w J6 3 (some ⟨b,0,none⟩) 2 2 0 0 ⟨#[]⟩ ⟨#[]⟩ (some ⟨g,0,none⟩) 1 1 none 0 0:=⟨[0,1],[JI],[],rfl,hp,hn,ce.nil _ _ (by decide)⟩
theorem MU:J5.e8:=aj.e8_of (by decide)
theorem O3:KY.e8:=aj.e8_of (by decide)
theorem MV:J6.e8:=aj.e8_of (by decide)
theorem KN:Aa.t8:=ag.t8_of (by decide)
theorem PL(w:World)(hE:bI w):Calls Tryz.prog 8 #[] w (LF true w):=by
 have HE:=ab hE;clear hE
 go_in
 go_wp2_with fail;refine(Ns ⟨#[102,117,110,99,32,102,40,97,41,32,123,32,112,114,105,110,116,32,97,59,32,125]⟩ _ _ NT (by decide)).mono ?_;rintro en w1 ⟨hb1,A,c,he,hn⟩;obtain rfl:en= .returned (.agg #[.int .u8 1,.string (sb []),.int .i64 0,.slice A 1 c]):=he;have HB1:=ab hb1;have hba:Below w1.heap.size w1 ((w1.alloc (.cells #[.int .u8 1,.string (sb []),.int .i64 0,.slice A 1 c] 25)).alloc (.cells #[.int .i64 0,.int .i64 1] 3)):=bz_alloc (bz_alloc (ai _ _) _) _;have HNA:=ab ((hn.since (t:=Aa)).below hba);have HIA:Hid (cc ((w1.alloc (.cells #[.int .u8 1,.string (sb []),.int .i64 0,.slice A 1 c] 25)).alloc (.cells #[.int .i64 0,.int .i64 1] 3)) [0,1] (some ⟨w1.heap.size+1,0,none⟩) 2 2):=LW _ _ _ (by simp);have HXA:Hid (((w1.alloc (.cells #[.int .u8 1,.string (sb []),.int .i64 0,.slice A 1 c] 25)).alloc (.cells #[.int .i64 0,.int .i64 1] 3)).heap[w1.heap.size]? =some (.cells #[.int .u8 1,.string (sb []),.int .i64 0,.slice A 1 c] 25 (0,0))):=(hpo _ _ (by simp)).trans (heap_alloc_new _ _);have HBA:=ab (HB1.out.trans (hba.mono HB1.out.size));clear hb1 hn hba;go_wp2_with fail;refine(RJ _).mono ?_;rintro en w2 ⟨hb2,Av,cv,he,hn⟩;obtain rfl:en= .returned (.agg #[.int .u8 6,.string (sb [97]),.int .i64 0,.slice Av 1 cv]):=he;have hbb:Below w2.heap.size w2 ((w2.alloc (.cells #[.int .u8 6,.string (sb [97]),.int .i64 0,.slice Av 1 cv] 25)).alloc (.cells #[.int .u8 2,.slice (some ⟨w1.heap.size+1,0,none⟩) 2 2,.int .i64 0,.int .i64 0,.string ⟨#[]⟩,.string ⟨#[]⟩,.slice none 0 0,.slice (some ⟨w2.heap.size,0,none⟩) 1 1] 29)):=bz_alloc (bz_alloc (ai _ _) _) _;have hbs:=hb2.trans (hbb.mono hb2.size);have HNB:=ab (HNA.out.below hbs);have hib:=HIA.out.below hbs;have HXB:=ab ((hbs.block _ (aK.1 HXA.out).1).trans HXA.out);have hkb:ce ((w2.alloc (.cells #[.int .u8 6,.string (sb [97]),.int .i64 0,.slice Av 1 cv] 25)).alloc (.cells #[.int .u8 2,.slice (some ⟨w1.heap.size+1,0,none⟩) 2 2,.int .i64 0,.int .i64 0,.string ⟨#[]⟩,.string ⟨#[]⟩,.slice none 0 0,.slice (some ⟨w2.heap.size,0,none⟩) 1 1] 29)) [Jf] (some ⟨w2.heap.size,0,none⟩) 1 1:=G7 (hn.since.below hbb) ((hpo _ _ (by simp)).trans (heap_alloc_new _ _));have HIB:=ab hib;have HKB:=ab hkb;have HYB:Hid (((w2.alloc (.cells #[.int .u8 6,.string (sb [97]),.int .i64 0,.slice Av 1 cv] 25)).alloc (.cells #[.int .u8 2,.slice (some ⟨w1.heap.size+1,0,none⟩) 2 2,.int .i64 0,.int .i64 0,.string ⟨#[]⟩,.string ⟨#[]⟩,.slice none 0 0,.slice (some ⟨w2.heap.size,0,none⟩) 1 1] 29)).heap[w2.heap.size+1]? =some (.cells #[.int .u8 2,.slice (some ⟨w1.heap.size+1,0,none⟩) 2 2,.int .i64 0,.int .i64 0,.string ⟨#[]⟩,.string ⟨#[]⟩,.slice none 0 0,.slice (some ⟨w2.heap.size,0,none⟩) 1 1] 29 (0,0))):=heap_alloc_at (by simp);have HBB:=ab (HBA.out.trans (hbs.mono HBA.out.size));clear hb2 hn hbb hbs hib hkb;have hx1:=(aK.1 HXB.out).1;obtain⟨x0,x1,x2,x3,_⟩:=di HXB.out;go_wp2_with fail;refine(Lk Aa 1 (sb []) 0 A 1 c J5 2 _ 2 2 0 0 ⟨#[]⟩ ⟨#[]⟩ none 0 0 _ 1 1 _ HNB.out (HE.out.below HBB.out (ah _)) KN.mid (MW HIB.out HKB.out) MU.mid (by decide)).mono ?_;rintro en w3 ⟨rfl,hb3⟩;rw[Pb];have HNC:=ab (HNB.out.below hb3);have HIC:=ab (HIB.out.below hb3);have HKC:=ab (HKB.out.below hb3);have HXC:=ab ((hb3.block _ (aK.1 HXB.out).1).trans HXB.out);have HYC:=ab ((hb3.block _ (aK.1 HYB.out).1).trans HYB.out);have HBC:=ab (HBB.out.trans (hb3.mono HBB.out.size));clear hb3 x0 x1 x2 x3 hx1;obtain⟨⟨p0,p1,p2,p3,p4,p5,p6,p7⟩,_⟩:=aw HYC.out;have hbd:Below w3.heap.size w3 ((w3.alloc (.cells #[.int .u8 2,.slice (some ⟨w1.heap.size+1,0,none⟩) 2 2,.int .i64 1,.int .i64 0,.string ⟨#[]⟩,.string ⟨#[]⟩,.slice none 0 0,.slice (some ⟨w2.heap.size,0,none⟩) 1 1] 29)).alloc (.cells #[.int .i64 0,.int .i64 1] 3)):=bz_alloc (bz_alloc (ai _ _) _) _;have HND:=ab (HNC.out.below hbd);have HID:=ab (HIC.out.below hbd);have HKD:=ab (HKC.out.below hbd);have HXD:=ab ((hbd.block _ (aK.1 HXC.out).1).trans HXC.out);have HYD:=ab ((hbd.block _ (aK.1 HYC.out).1).trans HYC.out);have HZD:Hid (((w3.alloc (.cells #[.int .u8 2,.slice (some ⟨w1.heap.size+1,0,none⟩) 2 2,.int .i64 1,.int .i64 0,.string ⟨#[]⟩,.string ⟨#[]⟩,.slice none 0 0,.slice (some ⟨w2.heap.size,0,none⟩) 1 1] 29)).alloc (.cells #[.int .i64 0,.int .i64 1] 3)).heap[w3.heap.size]? =some (.cells #[.int .u8 2,.slice (some ⟨w1.heap.size+1,0,none⟩) 2 2,.int .i64 1,.int .i64 0,.string ⟨#[]⟩,.string ⟨#[]⟩,.slice none 0 0,.slice (some ⟨w2.heap.size,0,none⟩) 1 1] 29 (0,0))):=(hpo _ _ (by simp)).trans (heap_alloc_new _ _);have HJD:Hid (cc ((w3.alloc (.cells #[.int .u8 2,.slice (some ⟨w1.heap.size+1,0,none⟩) 2 2,.int .i64 1,.int .i64 0,.string ⟨#[]⟩,.string ⟨#[]⟩,.slice none 0 0,.slice (some ⟨w2.heap.size,0,none⟩) 1 1] 29)).alloc (.cells #[.int .i64 0,.int .i64 1] 3)) [0,1] (some ⟨w3.heap.size+1,0,none⟩) 2 2):=LW _ _ _ (by simp);have HBD:=ab (HBC.out.trans (hbd.mono HBC.out.size));clear hbd;go_wp2_with fail;refine(RI _).mono ?_;rintro en w4 ⟨hb4,Ap,cp,he,hn⟩;obtain rfl:en= .returned (.agg #[.int .u8 11,.string (sb []),.int .i64 0,.slice Ap 1 cp]):=he;have hbb:Below w4.heap.size w4 ((w4.alloc (.cells #[.int .u8 11,.string (sb []),.int .i64 0,.slice Ap 1 cp] 25)).alloc (.cells #[.int .u8 3,.slice (some ⟨w3.heap.size+1,0,none⟩) 2 2,.int .i64 0,.int .i64 0,.string ⟨#[]⟩,.string ⟨#[]⟩,.slice (some ⟨w4.heap.size,0,none⟩) 1 1,.slice none 0 0] 29)):=bz_alloc (bz_alloc (ai _ _) _) _;have hbs:=hb4.trans (hbb.mono hb4.size);have HNE:=ab (HND.out.below hbs);have HIE:=ab (HID.out.below hbs);have HJE:=ab (HJD.out.below hbs);have HKE:=ab (HKD.out.below hbs);have HXE:=ab ((hbs.block _ (aK.1 HXD.out).1).trans HXD.out);have HYE:=ab ((hbs.block _ (aK.1 HYD.out).1).trans HYD.out);have HZE:=ab ((hbs.block _ (aK.1 HZD.out).1).trans HZD.out);have hle:ce ((w4.alloc (.cells #[.int .u8 11,.string (sb []),.int .i64 0,.slice Ap 1 cp] 25)).alloc (.cells #[.int .u8 3,.slice (some ⟨w3.heap.size+1,0,none⟩) 2 2,.int .i64 0,.int .i64 0,.string ⟨#[]⟩,.string ⟨#[]⟩,.slice (some ⟨w4.heap.size,0,none⟩) 1 1,.slice none 0 0] 29)) [JI] (some ⟨w4.heap.size,0,none⟩) 1 1:=G7 (hn.since.below hbb) ((hpo _ _ (by simp)).trans (heap_alloc_new _ _));have HLE:=ab hle;have HVE:Hid (((w4.alloc (.cells #[.int .u8 11,.string (sb []),.int .i64 0,.slice Ap 1 cp] 25)).alloc (.cells #[.int .u8 3,.slice (some ⟨w3.heap.size+1,0,none⟩) 2 2,.int .i64 0,.int .i64 0,.string ⟨#[]⟩,.string ⟨#[]⟩,.slice (some ⟨w4.heap.size,0,none⟩) 1 1,.slice none 0 0] 29)).heap[w4.heap.size+1]? =some (.cells #[.int .u8 3,.slice (some ⟨w3.heap.size+1,0,none⟩) 2 2,.int .i64 0,.int .i64 0,.string ⟨#[]⟩,.string ⟨#[]⟩,.slice (some ⟨w4.heap.size,0,none⟩) 1 1,.slice none 0 0] 29 (0,0))):=heap_alloc_at (by simp);have HBE:=ab (HBD.out.trans (hbs.mono HBD.out.size));clear hb4 hn hbb hbs hle p0 p1 p2 p3 p4 p5 p6 p7;have hx1:=(aK.1 HXE.out).1;obtain⟨x0,x1,x2,x3,_⟩:=di HXE.out;go_wp2_with fail;refine(Lk Aa 1 (sb []) 0 A 1 c J6 3 _ 2 2 0 0 ⟨#[]⟩ ⟨#[]⟩ _ 1 1 none 0 0 _ HNE.out (HE.out.below HBE.out (ah _)) KN.mid (MX HJE.out HLE.out) MV.mid (by decide)).mono ?_;rintro en w5 ⟨rfl,hb⟩;rw[Pc];have HNF:=ab (HNE.out.below hb);have HIF:=ab (HIE.out.below hb);have HJF:=ab (HJE.out.below hb);have HKF:=ab (HKE.out.below hb);have HLF:=ab (HLE.out.below hb);have HXF:=ab ((hb.block _ (aK.1 HXE.out).1).trans HXE.out);have HYF:=ab ((hb.block _ (aK.1 HYE.out).1).trans HYE.out);have HZF:=ab ((hb.block _ (aK.1 HZE.out).1).trans HZE.out);have HVF:=ab ((hb.block _ (aK.1 HVE.out).1).trans HVE.out);have HBF:=ab (HBE.out.trans (hb.mono HBE.out.size));clear hb x0 x1 x2 x3 hx1;obtain⟨x0,x1,x2,x3,_⟩:=di HXF.out;obtain⟨⟨p0,p1,p2,p3,p4,p5,p6,p7⟩,_⟩:=aw HYF.out;have heq1:((sb [105,110,115,101,114,116,32,115,116,97,116,101,109,101,110,116]).toList == [105,110,115,101,114,116,32,115,116,97,116,101,109,101,110,116])=true:=(by rw[bG,tq];rfl);have heq2:((sb [100,101,108,101,116,101,32,115,116,97,116,101,109,101,110,116]).toList == [100,101,108,101,116,101,32,115,116,97,116,101,109,101,110,116])=true:=(by rw[bG,tq];rfl);go_wp2_with fail;refine(Kk Aa 1 (sb []) 0 A 1 c J5 2 _ 2 2 0 0 ⟨#[]⟩ ⟨#[]⟩ none 0 0 _ 1 1 _ HNF.out (HE.out.below HBF.out (ah _)) KN.mid (MW HIF.out HKF.out) MU.mid (by decide) (by omega)).mono ?_;rintro en w6 ⟨rfl,hb⟩;rw[Pd];have HNG:=ab (HNF.out.below hb);have HIG:=ab (HIF.out.below hb);have HJG:=ab (HJF.out.below hb);have HKG:=ab (HKF.out.below hb);have HLG:=ab (HLF.out.below hb);have HXG:=ab ((hb.block _ (aK.1 HXF.out).1).trans HXF.out);have HYG:=ab ((hb.block _ (aK.1 HYF.out).1).trans HYF.out);have HZG:=ab ((hb.block _ (aK.1 HZF.out).1).trans HZF.out);have HVG:=ab ((hb.block _ (aK.1 HVF.out).1).trans HVF.out);have HBG:=ab (HBF.out.trans (hb.mono HBF.out.size));clear hb x0 x1 x2 x3 p0 p1 p2 p3 p4 p5 p6 p7;obtain⟨x0,x1,x2,x3,_⟩:=di HXG.out;obtain⟨⟨p0,p1,p2,p3,p4,p5,p6,p7⟩,_⟩:=aw HZG.out;go_wp2_with fail;refine(Kk Aa 1 (sb []) 0 A 1 c KY 2 _ 2 2 1 0 ⟨#[]⟩ ⟨#[]⟩ none 0 0 _ 1 1 _ HNG.out (HE.out.below HBG.out (ah _)) KN.mid (O5 HIG.out HKG.out) O3.mid (by decide) (by omega)).mono ?_;rintro en w7 ⟨rfl,hb⟩;rw[Pe];have HNH:=ab (HNG.out.below hb);have HIH:=ab (HIG.out.below hb);have HJH:=ab (HJG.out.below hb);have HKH:=ab (HKG.out.below hb);have HLH:=ab (HLG.out.below hb);have HXH:=ab ((hb.block _ (aK.1 HXG.out).1).trans HXG.out);have HYH:=ab ((hb.block _ (aK.1 HYG.out).1).trans HYG.out);have HZH:=ab ((hb.block _ (aK.1 HZG.out).1).trans HZG.out);have HVH:=ab ((hb.block _ (aK.1 HVG.out).1).trans HVG.out);have HBH:=ab (HBG.out.trans (hb.mono HBG.out.size));clear hb x0 x1 x2 x3 p0 p1 p2 p3 p4 p5 p6 p7;obtain⟨x0,x1,x2,x3,_⟩:=di HXH.out;obtain⟨⟨p0,p1,p2,p3,p4,p5,p6,p7⟩,_⟩:=aw HVH.out;go_wp2_with fail;refine(Kk Aa 1 (sb []) 0 A 1 c J6 3 _ 2 2 0 0 ⟨#[]⟩ ⟨#[]⟩ _ 1 1 none 0 0 _ HNH.out (HE.out.below HBH.out (ah _)) KN.mid (MX HJH.out HLH.out) MV.mid (by decide) (by omega)).mono ?_;rintro en w8 ⟨rfl,hb⟩;rw[Pf];have HNM:=ab (HNH.out.below hb);have HIM:=ab (HIH.out.below hb);have HJM:=ab (HJH.out.below hb);have HKM:=ab (HKH.out.below hb);have HLM:=ab (HLH.out.below hb);have HXM:=ab ((hb.block _ (aK.1 HXH.out).1).trans HXH.out);have HYM:=ab ((hb.block _ (aK.1 HYH.out).1).trans HYH.out);have HZM:=ab ((hb.block _ (aK.1 HZH.out).1).trans HZH.out);have HVM:=ab ((hb.block _ (aK.1 HVH.out).1).trans HVH.out);have HBM:=ab (HBH.out.trans (hb.mono HBH.out.size));clear hb x0 x1 x2 x3 p0 p1 p2 p3 p4 p5 p6 p7;go_wp2_with fail;go_ret;exact⟨rfl,HBM.out⟩

theorem OT{n:ag}{e:aj}:Cw ek n [e]≠ .error 0:=by
 unfold Cw;split
 .next h=>intro e;injection e with e;exact h e
 .unfold CM;split
  .cases ho:ek n e with
   |ok u=>simp[CM]
   |error m=>intro h;injection h with h;exact Lg n e (by rw[ho,h])
  .intro h;injection h with h;omega
theorem O4{e:aj}(h:e.e8)(hr:ap e=true):(bD e).e8:=by
 have ht:=h.texts;unfold bD;rw[hr];simp only[Bool.not_true,Bool.false_eq_true,if_false];split
 .exact⟨h.path,by show e.to_.length+e.frm.length<=_;omega,h.olds,h.news⟩
 .exact⟨h.path,by show e.to_.length+e.frm.length<=_;omega,h.news,h.olds⟩
theorem aj.e8.frm{e:aj}(h:e.e8):e.frm.length<=281474976710656:=by have:=h.texts;omega
theorem O6{w:World}{e:aj}{k:Nat}{pA:Option Addr}{pn pc:Nat}{i j:Int}{f t:ByteArray}{oA:Option Addr}{on oc:Nat}{nA:Option Addr}{nn nc:Nat}(h:ay w e k pA pn pc i j f t oA on oc nA nn nc)(he:e.e8):pn<=17592186044416:=by obtain⟨ps,os,ns,rfl,hp,_⟩:=h;have:=he.path;have h2:=hp.1;have h3:ps.length<=10000:=this;omega
theorem Ri{n:ag}{e:aj}{g:Nat}(h:Cw ek n [e]= .error g):j4 n e=false:=by unfold j4;rw[h]
section
open Go.RowKit Go.Deep
theorem pT{α:Type}[Inhabited α]{n:Nat}{p:Nat->α->Prop}(h:∀i,i<n->∃v,p i v):∃l:List α,l.length=n/\∀i v,l[i]? =some v->p i v:=by
 induction n with
 |zero=>exact⟨[],rfl,fun i v hv=>by simp at hv⟩
 |succ n ih=>
  obtain⟨l,h1,h2⟩:=ih (fun i hi=>h i (by omega));obtain⟨v,hv⟩:=h n (by omega);refine⟨l++[v],by simp[h1],fun i u hu=>?_⟩;by_cases hi:i<l.length
  .rw[cM hi] at hu;exact h2 i u hu
  .rw[eK (by omega)] at hu;have:i=n:=by have:=(gl.1 hu).1;simp at this;omega
   subst this;simp[h1] at hu;subst hu;exact hv
theorem qK{α:Type}{cs:List α}(h:cs.length=4):∃a b c d,cs=[a,b,c,d]:=by
 match cs,h with
 |[a,b,c,d],_=>exact⟨a,b,c,d,rfl⟩
variable {H:Type} {enc:TypeId×Value->H} {W:World} {spare:Nat->Bool} {held:Bool}
def pB(W:World)(cs:List Value)(t:ag):Prop:=∃A c,cs=[.int .u8 t.kind,.string (sb t.text),.int .i64 t.num,.slice A t.kids.length c]/\ce W t.kids A t.kids.length c/\t.kind<=255/\t.text.length<=maxLen/\tw t.num
theorem ui{a:Addr}{cs:List Value}{t:ag}(hc:W.cells? 0 a 4=some cs)(h:pB W cs t):∃b o,a=⟨b,o,none⟩/\cJ W t b o:=by
 obtain⟨_,hl,hcell⟩:=World.cells?_some hc;obtain⟨A,c,rfl,hk,b1,b2,b3⟩:=h;have h0:=hcell 0 (by omega);obtain⟨b,o,sp⟩:=a;cases sp with
 |some s=>exfalso;simp[World.cell?,Addr.add] at h0;split at h0<;>simp at h0
 |none=>
  refine⟨b,o,rfl,cJ.of ?_ ?_ ?_ ?_ hk b1 b2 b3⟩
  .have:=hcell 0 (by omega);rw[CE] at this;simpa using this
  .have:=hcell 1 (by omega);rw[CE] at this;simpa using this
  .have:=hcell 2 (by omega);rw[CE] at this;simpa using this
  .have:=hcell 3 (by omega);rw[CE] at this;simpa using this
theorem so{L:Nat}:∀{ts:List ag},(∀(i:Nat) (t:ag),ts[i]? =some t->t.short L)->ex L ts
 |[],_=>by simp[ex]
 |t::ts,h=>by simp only[ex];exact⟨h 0 t rfl,so fun i u hu=>h (i+1) u (by simpa using hu)⟩
theorem sM{P:Program}{e:TypeId}{z:Nat}:∀{l:List (DataW H)} {i:Nat} {d:DataW H},l[i]? =some d->z∈d.weights P e->z∈DataW.weightsAll P e l
 |d0::l,0,d,hd,hz=>by simp only[List.getElem?_cons_zero,Option.some.injEq] at hd;subst hd;simp only[DataW.weightsAll,List.mem_append];exact .inl hz
 |d0::l,i+1,d,hd,hz=>by simp only[List.getElem?_cons_succ] at hd;simp only[DataW.weightsAll,List.mem_append];exact .inr (sM hd hz)
 |[],_,_,hd,_=>by simp at hd
def py(enc:TypeId×Value->H)(W:World)(spare:Nat->Bool)(held:Bool)(n:Nat):Prop:=∀(cs:List Value) (x:DataW H×List MemPlace),DataW.trod enc Tryz.prog W 0 spare held n 25 cs=some x->∃t,pB W cs t/\((∀z∈x.1.weights Tryz.prog 25,z<=reachBytes)->t.short LL)
theorem q9{n:Nat}(ih:∀q,q<n->py enc W spare held q){cs:List Value}{x:DataW H×List MemPlace}(h:DataW.trod enc Tryz.prog W 0 spare held n 23 cs=some x):∃A ts c,cs=[.slice A ts.length c]/\ce W ts A ts.length c/\((∀z∈x.1.weights Tryz.prog 23,z<=reachBytes)->ex LL ts):=by
 have k4:Tryz.prog.cellsOf 25=4:=(by kernel_rfl);rcases DataW.trod_slice Tryz.underlying23 h with ⟨g3,_⟩|⟨a,len,cap,elems,rest,q,rfl,g3,hx0,_,hle,hcm,hel,hx,_⟩
 .subst g3;exact⟨none,[],0,rfl,ce.nil _ _ (aE _),fun _=>by simp[ex]⟩
 .subst g3;obtain⟨ts,h1,h2⟩:=pT (α:=ag) (n:=len) (p:=fun i t=>(∃b o,a.add (i*4)=⟨b,o,none⟩/\cJ W t b o)/\((∀z∈x.1.weights Tryz.prog 23,z<=reachBytes)->t.short LL)) (fun i hi=>by have h3:=hx i hi;rw[br (by omega),k4] at h3;obtain⟨cs',h4,h5⟩:=Option.bind_eq_some_iff.1 h3;obtain⟨t,ht,hsh⟩:=ih q (by omega) cs' _ h5;obtain⟨b,o,h6,h7⟩:=ui h4 ht;refine⟨t,⟨b,o,h6,h7⟩,fun hz=>hsh fun z hm=>hz z ?_⟩;rw[hx0];simp only[DataW.weights,Tryz.underlying23,List.mem_cons,List.mem_append];exact .inr (.inl (sM (i:=i) (by rw[List.getElem?_map,br (by omega)];rfl) hm)))
  refine⟨some a,ts,cap,by rw[h1],⟨rfl,by rw[h1];exact hle,hcm,?_⟩,fun hz=>so fun i t ht=>(h2 i t ht).2 hz⟩;by_cases h0:ts=[]
  .exact .inl h0
  .right;obtain⟨t0,ht0⟩:∃t,ts[0]? =some t:=⟨ts[0]'(List.length_pos_iff.2 h0),br _⟩;obtain⟨⟨b,o,h3,_⟩,_⟩:=h2 0 t0 ht0;have ha:a=⟨b,o,none⟩:=(by simpa[Addr.add] using h3);refine⟨b,o,by rw[ha],bk.mk fun i t ht=>?_⟩;obtain⟨⟨b',o',h4,h5⟩,_⟩:=h2 i t ht;rw[ha,CE] at h4;injection h4 with h6 h7;subst h6 h7;exact h5
theorem jN{P:Program}{t:TypeId}{fs:Array Field}(hu:P.underlying t=some (.struct fs)){ds:List (DataW H)}{i:Nat}{f:Field}{d:DataW H}(hf:fs[i]? =some f)(hd:ds[i]? =some d){z:Nat}(hz:z∈d.weights P f.type):z∈(DataW.agg ds:DataW H).weights P t:=by simp only[DataW.weights,hu];exact DataW.weights_mem_each (j:=i) (t:=f.type) (by simp[hf]) hd z hz
theorem xw:∀(n:Nat),py enc W spare held n:=by
 intro n;induction n using Nat.strongRecOn with
 |_ n ih=>
  intro cs x h;obtain⟨xs,m,rfl,rfl,hl,hlen,hf⟩:=DataW.trod_struct Tryz.underlying25 h;obtain⟨c0,c1,c2,c3,rfl⟩:=qK (hl.trans (by kernel_rfl));obtain⟨y0,y1,y2,y3,rfl⟩:=qK (hlen.trans rfl);have e0:=hf 0 _ rfl;have e1:=hf 1 _ rfl;have e2:=hf 2 _ rfl;have e3:=hf 3 _ rfl;have k0:Tryz.prog.cellsOf 22=1:=(by kernel_rfl);have k1:Tryz.prog.cellsOf 9=1:=(by kernel_rfl);have k2:Tryz.prog.cellsOf 2=1:=(by kernel_rfl);have k3:Tryz.prog.cellsOf 23=1:=(by kernel_rfl);simp[k0] at e0;simp[k1] at e1;simp[k2] at e2;simp[k3] at e3;obtain⟨a0,g0,-,w0⟩:=DataW.trod_int Tryz.underlying22 e0;obtain⟨a1,g1,hy1,w1⟩:=DataW.trod_string Tryz.underlying9 e1;obtain⟨a2,g2,-,w2⟩:=DataW.trod_int Tryz.underlying2 e2;obtain⟨A,ts,c,g3,hk,hsh⟩:=q9 (fun q hq=>ih q (Nat.lt_succ_of_lt hq)) e3;injection g0 with g0;injection g1 with g1;injection g2 with g2;injection g3 with g3;subst g0 g1 g2 g3;have b0:∃k:Nat,a0=k/\k<=255:=by have h8:=(Go.Lit.wf_int_iff _ _).1 w0;rw[show IntKind.min .u8=0 by decide,show IntKind.max .u8=255 by decide] at h8;exact⟨a0.toNat,by omega,by omega⟩
  have b2:tw a2:=by have h8:=(Go.Lit.wf_int_iff _ _).1 w2;rw[show IntKind.min .i64= -9223372036854775808 by decide,show IntKind.max .i64=9223372036854775807 by decide] at h8;exact h8
  obtain⟨k,rfl,hk0⟩:=b0;refine⟨.node k (bl a1) a2 ts,⟨A,c,rfl,hk,hk0,w1,b2⟩,fun hz=>?_⟩;simp only[ag.short];refine⟨?_,hsh fun z hm=>hz z (jN (i:=3) Tryz.underlying25 rfl rfl hm)⟩;have:=hz a1.data.toList.length (jN (i:=1) Tryz.underlying25 rfl rfl (by simp[hy1,DataW.weights]));unfold reachBytes at this;exact aJ this (by decide)
theorem xv{n:Nat}{cs:List Value}{x:DataW H×List MemPlace}(h:DataW.trod enc Tryz.prog W 0 spare held n 27 cs=some x):∃A ps c,cs=[.slice A ps.length c]/\cc W ps A ps.length c/\((∀z∈x.1.weights Tryz.prog 27,z<=reachBytes)->ps.length<=17592186044416):=by
 have k8:Tryz.prog.bytesOf 3=8:=(by kernel_rfl);rcases open_slice1 Tryz.underlying27 (by kernel_rfl) h with ⟨rfl,_⟩|⟨a,len,cap,m,q,V,D,Pl,rfl,_,hle,hcm,hm,rfl,hx⟩
 .exact⟨none,[],0,rfl,⟨rfl,ah _,aE _,.inl rfl⟩,fun _=>by simp⟩
 .have hlm:len<=m:=by rw[hm];split<;>omega
  obtain⟨ps,h1,h2⟩:=pT (α:=Int) (n:=len) (p:=fun i z=>W.cell? (a.add i)=some (.int .i64 z)) (fun i hi=>by obtain⟨h3,h4⟩:=hx i (by omega);obtain⟨z,h5,_⟩:=DataW.trod_int Tryz.underlying3 h4;injection h5 with h5;exact⟨z,by rw[h3,h5]⟩)
  refine⟨some a,ps,cap,by rw[h1],⟨rfl,by rw[h1];exact hle,hcm,?_⟩,fun hz=>?_⟩
  .by_cases h0:ps=[]
   .exact .inl h0
   .right;obtain⟨t0,ht0⟩:∃t,ps[0]? =some t:=⟨ps[0]'(List.length_pos_iff.2 h0),br _⟩;have h3:=h2 0 t0 ht0;obtain⟨b,o,sp⟩:=a;cases sp with
    |some s=>exfalso;simp[World.cell?,Addr.add] at h3;split at h3<;>simp at h3
    |none=>exact⟨b,o,rfl,fun i z hi=>by have:=h2 i z hi;rw[CE] at this;exact this⟩
  .have:=hz (len*8+(m - len) *8) (by simp[DataW.weights,Tryz.underlying27,k8,Nat.add_mul]);unfold reachBytes at this;omega
end
section
open Go.ChangeShapes Go.WideShapes Go.ChangeAt Go.RowKit
theorem own:ownKnob Tryz.prog.godebug=none:=by kernel_rfl
theorem vk:Tryz.prog.globalNamed "strings.asciiSpace"=some 0:=by kernel_rfl
theorem AW:(Tryz.prog.globals[0]?).map (·.type)=some 221:=by kernel_rfl
theorem GG:Tryz.prog.cellsOf 221=256:=by kernel_rfl
theorem ud:Tryz.prog.cellsOf 5=1:=by kernel_rfl
theorem wC:laidOutB Tryz.prog=true:=by kernel_rfl
theorem AJ{W:World}(h:laidMet Tryz.prog [("strings.asciiSpace",Rows.laid_strings_asciiSpace)] W):Lib.TabIs Tryz.prog W "strings.asciiSpace" .u8 Lib.asciiSpaceTab:=
 Lib.tabIs_of_head (rest:=[]) vk AW Tryz.underlying221 Tryz.underlying5 ud GG (by rw[show Lib.tabData (H:=Unit) .u8 Lib.asciiSpaceTab=Rows.laid_strings_asciiSpace from by kernel_rfl];exact h)
theorem wD{P:Program}{l:List (String×DataW Unit)}{w:World}(h:(l.all fun x=>x.2.handleName?.isNone)=true)(hm:laidMetH P l w):laidMet P l w:=by rw[MakeChecks.laidMetH_plain P l w h] at hm;exact hm
section
variable {H:Type} {enc:TypeId×Value->H}
end
theorem Is:Tryz.prog.readableRec 25=true:=by kernel_rfl
theorem IA:25<Tryz.prog.types.size:=of_decide_eq_true (by kernel_rfl)
section
variable {H:Type} {enc:TypeId×Value->H}
theorem GC{W:World}{r:Reach}{base:Nat}{v:Value}{d:DataW H}{ps:List MemPlace}(hv:Value.okWide Tryz.prog W r base 25 v)(h:DataW.Trod enc Tryz.prog W 0 (fun _=>true) true 25 v d ps):∃(t:ag) (A:Option Addr) (c:Nat),v= .agg #[.int .u8 t.kind,.string (sb t.text),.int .i64 t.num,.slice A t.kids.length c]/\cf W t t.kind (sb t.text) t.num A t.kids.length c/\((∀z∈d.weights Tryz.prog 25,z<=reachBytes)->t.short LL):=by
 obtain⟨cs,rfl,_⟩:=okWide_struct Tryz.underlying25 hv;obtain⟨n,hn⟩:=h;obtain⟨t,⟨A,c,hcs,hK,b1,b2,b3⟩,hf⟩:=xw n _ _ hn;have h2:cs.toList=[.int .u8 t.kind,.string (sb t.text),.int .i64 t.num,.slice A t.kids.length c]:=hcs;refine⟨t,A,c,?_,?_,hf⟩
 .rw[<-Array.toArray_toList (xs:=cs),h2]
 .obtain⟨k,s,x,ks⟩:=t;exact⟨ks,rfl,b1,by have b2':s.length<=maxLen:=b2;show s.toArray.size<=_;simpa using b2',b3,hK⟩
end
end
mutual
def Sb (s:ar):ag->Bool
 | .node _ t _ ks=>t == s || Sc s ks
def Sc (s:ar):List ag->Bool
 |[]=>false
 |t::ts=>Sb s t || Sc s ts
end
mutual
theorem SK {s:ar}:∀{t:ag},Sb s t=false->s∉t.names
 | .node k t x ks,h=>by
  simp only[Sb,Bool.or_eq_false_iff] at h;simp only[ag.names];intro hm;rcases List.mem_append.1 hm with hm|hm
  .split at hm
   .simp at hm;rw[hm] at h;simp at h
   .simp at hm
  .exact SI h.2 hm
theorem SI {s:ar}:∀{ts:List ag},Sc s ts=false->s∉bE ts
 |[],_=>by simp[bE]
 |t::ts,h=>by
  simp only[Sc,Bool.or_eq_false_iff] at h;simp only[bE];intro hm;rcases List.mem_append.1 hm with hm|hm
  .exact SK h.1 hm
  .exact SI h.2 hm
end
theorem SH{s:ar}:∀{ts:List ag} {j:Nat} {t:ag},ts[j]? =some t->Sb s t=true->Sc s ts=true
 |t::ts,0,u,h,hu=>by simp at h;subst h;simp[Sc,hu]
 |t::ts,j+1,u,h,hu=>by simp only[Sc,Bool.or_eq_true];exact .inr (SH (by simpa using h) hu)
theorem SJ{s:ar}:∀{ts:List ag},(∀(j:Nat) (t:ag),ts[j]? =some t->Sb s t=false)->Sc s ts=false
 |[],_=>rfl
 |t::ts,h=>by simp only[Sc,Bool.or_eq_false_iff];exact⟨h 0 t rfl,SJ fun j u hu=>h (j+1) u (by simpa using hu)⟩
def Sw(q:ByteArray)(m:Nat):Prop:=∀(t:ag) (k:Nat) (s:ByteArray) (x:Int) (A:Option Addr) (n c:Nat) (w:World),t.sz<=m->cf w t k s x A n c->
 Calls Tryz.prog 23 #[.agg #[.int .u8 k,.string s,.int .i64 x,.slice A n c],.string q] w (th (Sb (bl q) t) w)
theorem S5(q:ByteArray)(m:Nat)(hm:m<=1000000)(ih:Hid (Sw q m)):Sw q (m+1):=by
 intro t k s x A n c w hsz hN;obtain⟨ks,rfl,_,_,_,hK⟩:=hN;have hnb:n<=1000000:=(by have h1:=eA ks;have h3:=hK.1;simp only[ag.sz] at hsz;omega);have HSZ:Hid (ao ks<=m):=(by show _<=_;simp only[ag.sz] at hsz;omega);have hb0:Below w.heap.size w (w.alloc (.cells #[.int .u8 k,.string s,.int .i64 x,.slice A n c] 25)):=bz_alloc (ai _ _) _;have HB0:=ab hb0;have HK:=ab (hK.below hb0);have HLN:Hid (n=ks.length):=hK.1;have HX0:Hid ((w.alloc (.cells #[.int .u8 k,.string s,.int .i64 x,.slice A n c] 25)).heap[w.heap.size]? =some (.cells #[.int .u8 k,.string s,.int .i64 x,.slice A n c] 25 (0,0))):=heap_alloc_new _ _;clear hK hb0 hsz;obtain⟨b,hb⟩:∃b,(s.toList == q.toList)=b:=⟨_,rfl⟩;have HBB:Hid ((bl s == bl q)=b):=(by show _=_;rw[<-bG,<-bG];exact hb);cases b with
 |true=>
  have HV:Hid (Sb (bl q) (.node k (bl s) x ks)=true):=by show _=_;unfold Sb;rw[HBB.out];rfl
  go_in
  go_wp2_with fail;go_ret;exact⟨by rw[HV.out];rfl,HB0.out⟩
 |false=>
  have HV:Hid (Sb (bl q) (.node k (bl s) x ks)=Sc (bl q) ks):=by show _=_;unfold Sb;rw[HBB.out];rfl
  go_in
  go_wp2_with fail;go_loopw [5] (fun v wr=>∃j:Nat,j<=n/\v= .int .i64 j/\Hid (Below w.heap.size w wr)/\Hid (∀i u,i<j->ks[i]? =some u->Sb (bl q) u=false)/\Hid (wr.heap[w.heap.size]? =some (.cells #[.int .u8 k,.string s,.int .i64 x,.slice A n c] 25 (0,0)))/\Hid (ce wr ks A n c)) (fun v _=>n - (intOf v).toNat);case atStart=>exact⟨0,by omega,rfl,HB0,fun i u h=>absurd h (Nat.not_lt_zero _),HX0,HK⟩
  case round=>
   obtain⟨j,hj,rfl,HB,HA,HX,HKR⟩:=hrel;obtain⟨c0,c1,c2,c3,_⟩:=di HX.out;by_cases hlt:j<n
   .obtain⟨b,o,t,rfl,ht,hat⟩:=HKR.out.get hlt;obtain⟨B1,d1,q0,q1,q2,q3,hnode⟩:=hat.cells;have HND:=ab hnode;have HT:=ab ht;have HST:Hid (t.sz<=m):=aJ (jL ht) HSZ.out;clear ht hat hnode;go_wp2_with fail;refine(ih.out t _ _ _ _ _ _ _ HST.out HND.out).mono ?_;rintro en w2 ⟨rfl,hb2⟩;have HB2:=ab (HB.out.trans (hb2.mono HB.out.size));have HX2:=ab ((hb2.block _ (aK.1 HX.out).1).trans HX.out);have HK2:=ab (HKR.out.below hb2);clear hb2 c0 c1 c2 c3 q0 q1 q2 q3;cases hh:Sb (bl q) t with
    |true=>have HVT:=ab (SH HT.out hh);clear hh;go_wp2_with fail;go_ret;exact⟨by rw[HV.out,HVT.out];rfl,HB2.out⟩
    |false=>
     have HH:=ab hh;clear hh;go_wp2;go_roundw;case rel=>exact⟨j+1,by omega,by go_num,HB2,fun i u hi hu=>by
      rcases Nat.lt_or_ge i j with h|h
      .exact HA.out i u h hu
      .obtain rfl:i=j:=(by omega);rw[HT.out] at hu;injection hu with hu;rw[<-hu];exact HH.out,HX2,HK2⟩
     case measure=>simp[intOf];omega
   .have hjn:j=n:=(by omega);subst hjn;have HVF:Hid (Sc (bl q) ks=false):=SJ fun i u hu=>HA.out i u (by rw[HLN.out];exact(gl.1 hu).1) hu;go_wp2_with fail;go_ret;exact⟨by rw[HV.out,HVF.out];rfl,HB.out⟩
theorem S8(q:ByteArray)(t:ag)(k:Nat)(s:ByteArray)(x:Int)(A:Option Addr)(n c:Nat)(w:World)(hsz:t.sz<=1000000)(hN:cf w t k s x A n c):Calls Tryz.prog 23 #[.agg #[.int .u8 k,.string s,.int .i64 x,.slice A n c],.string q] w (th (Sb (bl q) t) w):=by
 have h:∀m,m<=1000000->Sw q m:=by
  intro m;induction m with
  |zero=>intro _ t k s x A n c w h;exact absurd h (by have:=AV t;omega)
  |succ m ih=>intro hm;exact S5 q m (by omega) (ih (by omega))
 exact h _ hsz t k s x A n c w (ah _) hN
end Go.Proofs.YtfipahjodfminaaGreatDoor
