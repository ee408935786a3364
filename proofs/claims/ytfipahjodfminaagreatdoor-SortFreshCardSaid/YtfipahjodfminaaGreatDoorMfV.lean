/- Part 22 of the proof. -/
import Derived.Test.YtfipahjodfminaaGreatDoorMfU
namespace Go.Proofs.YtfipahjodfminaaGreatDoor
open Go.RowKit
set_option linter.all false
set_option maxHeartbeats 40000000
set_option maxRecDepth 100000
def jc(t:ag)(p zs:List Int)(at_:Nat)(o:ag):Nat:=match ie t p zs with
 | .error n=>n
 | .ok l=>match l.kids[at_]? with
  |some u=>if u.same o then 0 else 121
  |none=>121
def OO(r:Nat)(w:World)(e:Ending)(w':World):Prop:=e= .returned (.int .i64 r)/\Below w.heap.size w w'
theorem KC{t:ag}{p zs:List Int}{n:Nat}(h:ie t p zs= .error n):n=6:=by
 unfold ie at h;split at h
 .injection h with h;exact h.symm
 .split at h
  .cases h
  .injection h with h;exact h.symm
theorem PU{t l:ag}{p zs:List Int}{at_:Nat}(h:ie t p zs= .ok l)(hz:((at_:Int)+1)∈zs):at_<l.kids.length:=by
 unfold ie at h;split at h
 .cases h
 .split at h
  .rename_i hc;injection h with h;subst h;simp only[Bool.and_eq_true,Bool.not_eq_true',kx,List.any_eq_false,decide_eq_true_eq] at hc;have:=hc.2 _ hz;omega
  .cases h
theorem NP(T o:ag)(x0 x3 x4 x5 x7:Value)(p:List Int)(pA:Option Addr)(pn pc at_:Nat)(oA:Option Addr)(oc:Nat)(k:Nat)(s:ByteArray)(x:Int)(A:Option Addr)(n c:Nat)(zs:List Int)(zA:Option Addr)(zn zc:Nat)(w:World)(hN:cf w T k s x A n c)(hsz:T.sz<=1000000)(hp:cc w p pA pn pc)(hz:cc w zs zA zn zc)(ho:ce w [o] oA 1 oc)(hat:((at_:Int)+1)∈zs):Calls Tryz.prog 103 #[.agg #[x0,.slice pA pn pc,.int .i64 at_,x3,x4,x5,.slice oA 1 oc,x7,.int .u8 k,.string s,.int .i64 x,.slice A n c],.slice zA zn zc] w (OO (jc T p zs at_ o) w):=by
 have hb0:Below w.heap.size w (w.alloc (.cells #[x0,.slice pA pn pc,.int .i64 at_,x3,x4,x5,.slice oA 1 oc,x7,.int .u8 k,.string s,.int .i64 x,.slice A n c] 83)):=bz_alloc (ai _ _) _;have HB0:=ab hb0;have HW0:Hid ((w.alloc (.cells #[x0,.slice pA pn pc,.int .i64 at_,x3,x4,x5,.slice oA 1 oc,x7,.int .u8 k,.string s,.int .i64 x,.slice A n c] 83)).heap[w.heap.size]? =some (.cells #[x0,.slice pA pn pc,.int .i64 at_,x3,x4,x5,.slice oA 1 oc,x7,.int .u8 k,.string s,.int .i64 x,.slice A n c] 83 (0,0))):=heap_alloc_new _ _;have HL:=ab (NN T x0 (.int .i64 at_) x3 x4 x5 (.slice oA 1 oc) x7 p pA pn pc k s x A n c zs zA zn zc _ (hN.below hb0) hsz (hp.below hb0) (hz.below hb0));have HO:=ab ho;have HAT:=ab hat;clear hb0 hN hp hz ho hat hsz;obtain⟨⟨e0,e1,e2,e3,e4,e5,e6,e7,e8,e9,e10,e11⟩,_⟩:=cr HW0.out
 go_in
 go_wp2_with fail;refine HL.out.mono ?_;rintro en w1 ⟨hb1,hpost⟩;have HB1:=af HB0.out hb1;have HW1:=(hb1.block _ (aK.1 HW0.out).1).trans HW0.out;clear e0 e1 e2 e3 e4 e5 e6 e7 e8 e9 e10 e11 HL;cases hl:ie T p zs with
 |error m=>have hm:=KC hl;subst hm;rw[hl] at hpost;obtain⟨k1,s1,y1,A1,n1,c1,rfl⟩:=hpost;have HRES:Hid (jc T p zs at_ o=6):=(by show _=_;unfold jc;rw[hl]);have hq:Below w1.heap.size w1 (w1.alloc (.cells #[.int .u8 k1,.string s1,.int .i64 y1,.slice A1 n1 c1] 25)):=bz_alloc (ai _ _) _;have HB2:=ab (af HB1 hq);clear hl HB1 HW1 hb1 hq;go_upto_region 2 with fail;generalize w1.alloc (.cells #[.int .u8 k1,.string s1,.int .i64 y1,.slice A1 n1 c1] 25)=W at HB2 ⊢;refine wp_region_noPanic ?_;refine wp_region_held_drew (S:=fun _=>True) (by kernel_rfl) trivial fun hH0=>?_;refine ae 0 ?_;refine ae 1 ?_;refine ae 2 ?_;refine az 3 ?_;refine az 4 ?_;refine az 5 ?_;refine az 6 ?_;refine az 7 ?_;refine az 8 ?_;refine az 9 ?_;refine az 10 ?_;refine az 11 ?_;refine az 12 ?_;refine az 13 ?_;refine az 14 ?_;refine az 15 ?_;refine az 16 ?_;refine ae 17 ?_;refine wpAnyH_done (by kernel_rfl) ?_ _;refine NoPanic.normal ?_;clear hH0;go_wp2_with fail;go_ret;exact⟨by rw[HRES.out];rfl,ua HB2.out⟩
 |ok l=>
  rw[hl] at hpost;obtain⟨k1,s1,y1,A1,n1,c1,rfl,hn1⟩:=hpost;have hlt:=PU hl HAT.out;have hq:Below w1.heap.size w1 (w1.alloc (.cells #[.int .u8 k1,.string s1,.int .i64 y1,.slice A1 n1 c1] 25)):=bz_alloc (ai _ _) _;have hgf:=heap_alloc_new w1 (.cells #[.int .u8 k1,.string s1,.int .i64 y1,.slice A1 n1 c1] 25);have HB2:=af HB1 hq;have HW2:=(hq.block _ (aK.1 HW1).1).trans HW1;obtain⟨ks1,el,_,_,_,hk1⟩:=(hn1.since).below hq;have hle:l.kids=ks1:=(by rw[el];rfl);rw[hle] at hlt;have hlt2:at_<n1:=(by rw[hk1.1];exact hlt);obtain⟨b,of,u,rfl,hu,hau⟩:=hk1.get (i:=at_) hlt2;have HRES:Hid (jc T p zs at_ o=if u.same o then 0 else 121):=(by show _=_;unfold jc;rw[hl];simp only;rw[hle,hu]);clear hq hl HB1 HW1 hb1 hn1 el hle hlt;go_upto_region 2 with fail;generalize w1.alloc (.cells #[.int .u8 k1,.string s1,.int .i64 y1,.slice (some ⟨b,of,none⟩) n1 c1] 25)=W at hgf HB2 HW2 hk1 hau ⊢;have HGF:=ab hgf;have HBW:=ab HB2;have HWW:=ab HW2;obtain⟨b',of',u',rfl,hu',hao⟩:=(HO.out.below HBW.out).get (i:=0) (by omega);obtain rfl:o=u':=(by simpa using hu');obtain⟨Au,cu,k0,k1',k2,k3,hnu⟩:=hau.cells;obtain⟨Ao,co,o0,o1,o2,o3,hno⟩:=hao.cells;have HSM:=ab (fun(W':World) (h:Below W.heap.size W W')=>yV u o _ _ _ _ _ _ _ _ _ _ _ _ W' (hnu.below h) (hno.below h));obtain⟨r0,r1,r2,r3,_⟩:=di HGF.out;obtain⟨⟨e0,e1,e2,e3,e4,e5,e6,e7,e8,e9,e10,e11⟩,_⟩:=cr HWW.out;have hn1m:n1<=9223372036854775807:=(by have h1:=hk1.2.1;have h2:=hk1.2.2.1;unfold maxLen at h2;omega);rw[Nat.zero_mul,Nat.add_zero] at o0 o1 o2 o3;clear hgf HB2 HW2 hk1 hau hao hnu hno hu hu' r0 r1 r2 e0 e1 e3 e4 e5 e7 e8 e9 e10 e11;refine wp_region_noPanic ?_;refine wp_region_held_drew (S:=fun w'=>(w'.cell? ⟨w.heap.size,2,none⟩=some (.int .i64 at_)/\w'.cell? ⟨w.heap.size,6,none⟩=some (.slice (some ⟨b',of',none⟩) 1 oc)/\w'.cell? ⟨w1.heap.size,3,none⟩=some (.slice (some ⟨b,of,none⟩) n1 c1))/\
   (w'.cell? ⟨b,of+at_*4,none⟩=some (.int .u8 u.kind)/\w'.cell? ⟨b,of+at_*4+1,none⟩=some (.string (sb u.text))/\w'.cell? ⟨b,of+at_*4+2,none⟩=some (.int .i64 u.num)/\w'.cell? ⟨b,of+at_*4+3,none⟩=some (.slice Au u.kids.length cu))/\
   (w'.cell? ⟨b',of',none⟩=some (.int .u8 o.kind)/\w'.cell? ⟨b',of'+1,none⟩=some (.string (sb o.text))/\w'.cell? ⟨b',of'+2,none⟩=some (.int .i64 o.num)/\w'.cell? ⟨b',of'+3,none⟩=some (.slice Ao o.kids.length co))) (by kernel_rfl) ⟨⟨e2,e6,r3⟩,⟨k0,k1',k2,k3⟩,⟨o0,o1,o2,o3⟩⟩ fun hH0=>?_
  refine ae 0 ?_;refine ae 1 ?_;refine ae 2 ?_;refine ae 3 ?_;refine ae 4 ?_;refine ae 5 ?_;refine ae 6 ?_;refine ae 7 ?_;refine ae 8 ?_;refine ae 9 ?_;refine ae 10 ?_;refine ae 11 ?_;refine ae 12 ?_;refine ae 13 ?_;refine ae 14 ?_;refine aL 15 fun K hK=>?_;go_simp;refine(HSM.out _ (ua (ai _ _))).mono ?_;rintro en w5 ⟨rfl,hb5⟩;have hb6:Below W.heap.size W w5:=af (ua (ai _ _)) hb5;have HB6:=ab (af HBW.out hb6);go_wp2_with fail;refine hK.out _ _ ?_ (fun hH1=>?_)
  .exact⟨⟨ac hb6 e2,ac hb6 e6,ac hb6 r3⟩,⟨ac hb6 k0,ac hb6 k1',ac hb6 k2,ac hb6 k3⟩,⟨ac hb6 o0,ac hb6 o1,ac hb6 o2,ac hb6 o3⟩⟩
  clear hK K;refine aM ?_;refine ae 16 ?_;refine ae 17 ?_;refine wpAnyH_done (by kernel_rfl) ?_ _;refine NoPanic.normal ?_;clear hH0 hH1 hb5 hb6 e2 e6 r3 k0 k1' k2 k3 o0 o1 o2 o3 HSM;cases hsm:u.same o with
  |true=>have HR2:Hid (jc T p zs at_ o=0):=(by rw[HRES.out,if_pos hsm];exact ab rfl);clear hsm;go_wp2_with fail;go_ret;exact⟨by rw[HR2.out];rfl,HB6.out⟩
  |false=>have HR2:Hid (jc T p zs at_ o=121):=(by rw[HRES.out,if_neg (by rw[hsm];simp)];exact ab rfl);clear hsm;go_wp2_with fail;go_ret;exact⟨by rw[HR2.out];rfl,HB6.out⟩
mutual
def ag.deep:ag->Nat
 | .node _ _ _ ks=>kr ks+1
def kr:List ag->Nat
 |[]=>0
 |t::ts=>max t.deep (kr ts)
end
theorem OY(a b:List ag):kr (a++b)=max (kr a) (kr b):=by
 induction a with
 |nil=>simp[kr]
 |cons t ts ih=>simp only[List.cons_append,kr,ih];omega
theorem OZ{ks:List ag}{j:Nat}{t:ag}(h:ks[j]? =some t):kr (ks.take (j+1))=max (kr (ks.take j)) t.deep:=by obtain⟨h1,h2⟩:=gl.1 h;rw[List.take_succ_eq_append_getElem h1,OY,h2];simp[kr]
mutual
theorem MR:∀t:ag,t.deep<=t.sz
 | .node _ _ _ ks=>by have:=LK ks;simp only[ag.deep,ag.sz];omega
theorem LK:∀ts:List ag,kr ts<=ao ts
 |[]=>ah _
 |t::ts=>by have:=MR t;have:=LK ts;simp only[kr,ao];omega
end
def MA(d:Nat)(w:World)(e:Ending)(w':World):Prop:=e= .returned (.int .i64 d)/\Below w.heap.size w w'
def Ly(m:Nat):Prop:=∀(t:ag) (k:Nat) (s:ByteArray) (x:Int) (A:Option Addr) (n c:Nat) (w:World),t.sz<=m->cf w t k s x A n c->
 Calls Tryz.prog 167 #[.agg #[.int .u8 k,.string s,.int .i64 x,.slice A n c]] w (MA t.deep w)
theorem O0(m:Nat)(hm:m<=1000000)(ih:Hid (Ly m)):Ly (m+1):=by
 intro t k s x A n c w hsz hN;obtain⟨ks,rfl,g1,g2,g3,hK⟩:=hN;have hb0:Below w.heap.size w (w.alloc (.cells #[.int .u8 k,.string s,.int .i64 x,.slice A n c] 25)):=(ai _ _).alloc (ah _) _;have HB0:=ab hb0;have HK:=ab hK;have HLN:Hid (n=ks.length):=hK.1;have hnn:n<=9223372036854775807:=(by have h1:=hK.2.1;have h2:=hK.2.2.1;unfold maxLen at h2;omega);have HSZ:Hid (ao ks<=m):=(by show _<=_;simp only[ag.sz] at hsz;omega);clear hsz hK hb0 g1 g2 g3
 go_in
 go_wp2_with fail;go_loopw [9,3,5] (fun i d q wr=>∃j:Nat,j<=n/\i= .int .i64 j/\d= .int .i64 (kr (ks.take j))/\Hid (Below w.heap.size w wr)) (fun i _ _ _=>n - (intOf i).toNat);case atStart=>exact⟨0,aE _,rfl,rfl,HB0⟩
 case round=>
  obtain⟨j,hj,rfl,rfl,HB⟩:=hrel;have hdl:kr (ks.take j)<=1000000:=by
   have h1:=LK (ks.take j);have h2:ao (ks.take j)<=ao ks:=by
    have:∀(a b:List ag),ao (a++b)=ao a+ao b:=fun a b=>by
     induction a with
     |nil=>simp[ao]
     |cons t ts ih=>simp only[List.cons_append,ao,ih];omega
    have h3:=this (ks.take j) (ks.drop j);rw[List.take_append_drop] at h3;omega
   have h3:=HSZ.out;omega
  by_cases hlt:j<n
  .obtain⟨b,o,t,rfl,ht,hat⟩:=(HK.out.below HB.out).get hlt;obtain⟨A1,c1,q0,q1,q2,q3,hnode⟩:=hat.cells;have HND:=ab hnode;have HNX:=ab (OZ ht);have hst:t.sz<=m:=aJ (jL ht) HSZ.out;have htd:t.deep<=1000000:=aJ (MR t) (aJ hst hm);have HST:=ab hst;clear hnode ht hat hst;go_wp2_with fail;refine(ih.out t _ _ _ _ _ _ _ HST.out (HND.out.below bz)).mono ?_;rintro e w3 ⟨rfl,hb3⟩;have HB3:Hid (Below w.heap.size w w3):=af (af HB.out (bz_alloc (ai _ _) _)) hb3;clear hb3 q0 q1 q2 q3;go_wp2;go_roundw;case rel=>exact⟨j+1,by omega,by go_num,by rw[HNX.out];go_num,HB3⟩
   case measure=>simp[intOf];omega
  .have hjn:j=n:=(by omega);have HRE:Hid (ag.deep (.node k (bl s) x ks)=kr (ks.take j)+1):=by show Hid (kr ks+1=_);rw[List.take_of_length_le (by have:=HLN.out;omega)];exact ab rfl
   generalize kr (ks.take j)=dd at HRE hdl ⊢;go_wp2;go_ret;exact⟨by rw[HRE.out];rfl,HB.out⟩
theorem MQ:∀m,m<=1000000->Ly m
 |0,_=>by intro t k s x A n c w hsz;obtain⟨k0,s0,x0,ks0⟩:=t;simp[ag.sz] at hsz
 |m+1,h=>O0 m (by omega) (ab (MQ m (by omega)))
theorem Qk(t:ag)(k:Nat)(s:ByteArray)(x:Int)(A:Option Addr)(n c:Nat)(w:World)(hsz:t.sz<=1000000)(hN:cf w t k s x A n c):Calls Tryz.prog 167 #[.agg #[.int .u8 k,.string s,.int .i64 x,.slice A n c]] w (MA t.deep w):=MQ 1000000 (by omega) t k s x A n c w hsz hN
def jj(t:ag):Except Nat ag:=if 40<t.deep then .error 103 else if (gx t).1≠0 then .error (gx t).1 else .ok t
theorem Mr{W:World}{t:Array Value}{Q:Ending->World->Prop}{b:Nat}{n:Int}{v0 v1 v2 v3:Value}(h2:t[2]? =some (.pointer (some ⟨b,0,none⟩)))(h3:t[3]? =some (.int .i64 n))(c0:W.cell? ⟨b,0,none⟩=some v0)(c1:W.cell? ⟨b,1,none⟩=some v1)(c2:W.cell? ⟨b,2,none⟩=some v2)(c3:W.cell? ⟨b,3,none⟩=some v3)(h:Q (.returned (.tuple #[.agg #[v0,v1,v2,v3],.int .i64 n])) W):bodyPost Tryz.prog Tryz.f100 Q Exit.ret { tmps:=t,defers:=[] } W:=by
 have hres:(results Tryz.f100 t).run Tryz.prog W= .ok (.tuple #[.agg #[v0,v1,v2,v3],.int .i64 n]) W:=by simp[results,Tryz.results100,go_sem,h2,h3,c0,c1,c2,c3]
 exact bodyPost_ret hres rfl h
def JA(N:Nat)(r:Except Nat ag)(w:World)(e:Ending)(w':World):Prop:=Below w.heap.size w w'/\match r with
 | .error n=>e= .returned (.tuple #[.agg #[.int .u8 0,.string ⟨#[]⟩,.int .i64 0,.slice none 0 0],.int .i64 n])
 | .ok t=>∃(k:Nat) (s:ByteArray) (x:Int) (A:Option Addr) (n c:Nat),e= .returned (.tuple #[.agg #[.int .u8 k,.string s,.int .i64 x,.slice A n c],.int .i64 0])/\cf (cX w' N) t k s x A n c
theorem JA.err{N:Nat}{r:Except Nat ag}{w w':World}{n:Nat}(h:r= .error n)(hb:Below w.heap.size w w'):JA N r w (.returned (.tuple #[.agg #[.int .u8 0,.string ⟨#[]⟩,.int .i64 0,.slice none 0 0],.int .i64 n])) w':=by subst h;exact⟨hb,rfl⟩
theorem JA.ok{N:Nat}{r:Except Nat ag}{w w':World}{t:ag}{k:Nat}{s:ByteArray}{x:Int}{A:Option Addr}{n c:Nat}(h:r= .ok t)(hb:Below w.heap.size w w')(hN:cf (cX w' N) t k s x A n c):JA N r w (.returned (.tuple #[.agg #[.int .u8 k,.string s,.int .i64 x,.slice A n c],.int .i64 0])) w':=by subst h;exact⟨hb,k,s,x,A,n,c,rfl,hN⟩
theorem cf.lentPut4{w W:World}{N:Nat}{t:ag}{k:Nat}{s:ByteArray}{x:Int}{A:Option Addr}{n c:Nat}{v0 v1 v2 v3:Value}(h:cf (cX w N) t k s x A n c)(hb:Below w.heap.size w W):cf (cX ((((W.setCell ⟨w.heap.size+1,0,none⟩ v0).setCell ⟨w.heap.size+1,1,none⟩ v1).setCell ⟨w.heap.size+1,2,none⟩ v2).setCell ⟨w.heap.size+1,3,none⟩ v3) N) t k s x A n c:=h.keep fun a v hc=>by
 obtain⟨h1,h2⟩:=i8.1 hc;have hlt:=bK h2;have hne:∀q,a≠(⟨w.heap.size+1,q,none⟩:Addr):=fun q e=>by have g3:w.heap.size+1<w.heap.size:=(by rw[e] at hlt;exact hlt);omega
 exact i8.2 ⟨h1,am (hne _) (am (hne _) (am (hne _) (am (hne _) (ac hb h2))))⟩
theorem Ll(t:ag)(k:Nat)(s:ByteArray)(x:Int)(A:Option Addr)(n c N:Nat)(w:World)(hN:cf (cX w N) t k s x A n c)(hsh:t.short 281474976710656)(hsz:t.sz<=100000)(hE:bI w):Calls Tryz.prog 100 #[.agg #[.int .u8 k,.string s,.int .i64 x,.slice A n c]] w (JA N (jj t) w):=by
 have hb0:Below w.heap.size w ((w.alloc (.cells #[.int .u8 k,.string s,.int .i64 x,.slice A n c] 25)).alloc (.cells #[.int .u8 0,.string ⟨#[]⟩,.int .i64 0,.slice none 0 0] 25)):=((ai _ _).alloc (ah _) _).alloc (by simp) _;have HB0:=ab hb0;have HW0:Hid (((w.alloc (.cells #[.int .u8 k,.string s,.int .i64 x,.slice A n c] 25)).alloc (.cells #[.int .u8 0,.string ⟨#[]⟩,.int .i64 0,.slice none 0 0] 25)).heap[w.heap.size]? =some (.cells #[.int .u8 k,.string s,.int .i64 x,.slice A n c] 25 (0,0))):=(hpo _ _ (by simp)).trans (heap_alloc_new _ _);have HR0:Hid (((w.alloc (.cells #[.int .u8 k,.string s,.int .i64 x,.slice A n c] 25)).alloc (.cells #[.int .u8 0,.string ⟨#[]⟩,.int .i64 0,.slice none 0 0] 25)).heap[w.heap.size+1]? =some (.cells #[.int .u8 0,.string ⟨#[]⟩,.int .i64 0,.slice none 0 0] 25 (0,0))):=heap_alloc_at (by simp);have HN:=ab hN;have HSZ:=ab hsz;have hck:=ab (DX t k s x A n c _ (hN.since.below hb0) hsh hsz (hE.below hb0 (ah _)));clear hb0 hN hsh hE hsz
 go_in
 go_wp2_with fail;refine hck.out.mono ?_;rintro en w1 ⟨rfl,hb1⟩;have hq:Below w1.heap.size w1 (w1.alloc (.cells #[.int .i64 (gx t).1,.int .i64 (gx t).2] 76)):=(ai _ _).alloc (ah _) _;have hgf:=heap_alloc_new w1 (.cells #[.int .i64 (gx t).1,.int .i64 (gx t).2] 76);have hb2:=hb1.trans (hq.mono hb1.size);have HB2:=af HB0.out hb2;have HW2:=(hb2.block _ (by simp;omega)).trans HW0.out;have HR2:=(hb2.block _ (by simp)).trans HR0.out;have HFB:Hid (w.heap.size+1<w1.heap.size):=(by have:=(aK.1 HR0.out).1;have:=hb1.size;show _<_;omega);clear hq hb2 hb1 hck;go_upto_region 2 with fail;generalize w1.alloc (.cells #[.int .i64 (gx t).1,.int .i64 (gx t).2] 76)=W at hgf HB2 HW2 HR2 ⊢;have HGF:=ab hgf;have HBW:=ab HB2;have HWW:=ab HW2;have HRW:=ab HR2;clear hgf HB2 HW2 HR2 HB0 HW0 HR0;obtain⟨r0,r1,r2,r3,_⟩:=di HWW.out;go_wp2_with fail;refine(Qk t k s x A n c _ (aJ HSZ.out (by omega)) (HN.out.since.below HBW.out)).mono ?_;rintro en w3 ⟨rfl,hb3⟩;have HB3:=ab (af HBW.out hb3);have HW3:=ab ((hb3.block _ (aK.1 HWW.out).1).trans HWW.out);have HR3:=ab ((hb3.block _ (aK.1 HRW.out).1).trans HRW.out);have HG3:=ab ((hb3.block _ (aK.1 HGF.out).1).trans HGF.out);clear hb3 HBW HWW HRW HGF r0 r1 r2 r3;obtain⟨q0,q1,q2,q3,f0,f1,f2,f3⟩:=di HR3.out;obtain⟨r0,r1,r2,r3,_⟩:=di HW3.out;have e0:w3.cell? ⟨w1.heap.size,0,none⟩=some (.int .i64 (gx t).1):=(cell_of_row w3 w1.heap.size 0 _ _ (0,0) HG3.out).trans rfl;by_cases hd:40<t.deep
 .have hd':(40:Int)<t.deep:=(by omega);have HRES:Hid (jj t= .error 103):=(by show _=_;unfold jj;rw[if_pos hd]);clear hd;go_wp2_with fail;obtain⟨a0,a1,a2,a3,hb9⟩:=CY (v0:=.int .u8 0) (v1:=.string ⟨#[]⟩) (v2:=.int .i64 0) (v3:=.slice none 0 0) HR3.out HB3.out (by omega);exact Mr (b:=w.heap.size+1) rfl rfl a0 a1 a2 a3 (JA.err HRES.out hb9)
 .have hd':¬(40:Int)<t.deep:=(by omega);by_cases hc:(gx t).1=0
  .have hci:(((gx t).1:Nat):Int)=0:=(by rw[hc];rfl);rw[hci] at e0;have HRES:Hid (jj t= .ok t):=(by show _=_;unfold jj;rw[if_neg hd,if_neg (by simpa using hc)]);clear hc hci hd;go_wp2_with fail;obtain⟨a0,a1,a2,a3,hb9⟩:=CY (v0:=.int .u8 k) (v1:=.string s) (v2:=.int .i64 x) (v3:=.slice A n c) HR3.out HB3.out (by omega);exact Mr (b:=w.heap.size+1) rfl rfl a0 a1 a2 a3 (JA.ok HRES.out hb9 (HN.out.lentPut4 HB3.out))
  .have hc2:(((gx t).1:Int) != 0)=true:=(by simpa using hc);have hc3:(((gx t).1:Int) == 0)=false:=(by simpa using hc);have HRES:Hid (jj t= .error (gx t).1):=(by show _=_;unfold jj;rw[if_neg hd,if_pos hc]);clear hc hd;have hne1:w1.heap.size≠w.heap.size+1:=(by have:=HFB.out;omega);have hne2:w.heap.size+1≠w1.heap.size:=(by have:=HFB.out;omega);go_wp2_with fail
   go_region
   all_goals
    obtain⟨a0,a1,a2,a3,hb9⟩:=CY (v0:=.int .u8 0) (v1:=.string ⟨#[]⟩) (v2:=.int .i64 0) (v3:=.slice none 0 0) HR3.out HB3.out (by omega);go_wp2_with fail;refine Mr (b:=w.heap.size+1) rfl rfl a0 a1 a2 a3 (JA.err HRES.out ?_);first|with_reducible exact hb9|with_reducible exact ua hb9
def y8(v:ag)(i:Nat):ag->ag| .node k s x ks=>.node k s x (ks.take i++v::ks.drop i)
def tv(i:Nat):ag->ag| .node k s x ks=>.node k s x (ks.take i++ks.drop (i+1))
def Ha(v:ag)(i j:Nat):ag->ag| .node k s x ks=>.node k s x ((ks.take i++ks.drop (i+1)).take j++v:: (ks.take i++ks.drop (i+1)).drop j)
mutual
theorem Ju (u:ag):∀(t:ag) (p:List Int),(ag.putAt u p t).sz<=t.sz+u.sz
 | .node k s x ks,[]=>by show u.sz<=_;omega
 | .node k s x ks,z::p=>by have:=NX u ks z.toNat p;show 1+ao (CT u z.toNat p ks)<=1+ao ks+u.sz;omega
theorem NX (u:ag):∀(ts:List ag) (n:Nat) (p:List Int),ao (CT u n p ts)<=ao ts+u.sz
 |[],n,p=>by cases n<;>exact aE _
 |t::ts,0,p=>by have:=Ju u t p;show(ag.putAt u p t).sz+ao ts<=t.sz+ao ts+u.sz;omega
 |t::ts,n+1,p=>by have:=NX u ts n p;show t.sz+ao (CT u n p ts)<=t.sz+ao ts+u.sz;omega
end
mutual
theorem Jt {u:ag} {L:Nat} (hu:u.short L):∀(t:ag) (p:List Int),t.short L->(ag.putAt u p t).short L
 | .node k s x ks,[],_=>hu
 | .node k s x ks,z::p,h=>⟨h.1,NW hu ks _ p h.2⟩
theorem NW {u:ag} {L:Nat} (hu:u.short L):∀(ts:List ag) (n:Nat) (p:List Int),ex L ts->ex L (CT u n p ts)
 |[],n,p,h=>by cases n<;>exact h
 |t::ts,0,p,h=>⟨Jt hu t p h.1,h.2⟩
 |t::ts,n+1,p,h=>⟨h.1,NW hu ts n p h.2⟩
end
mutual
theorem J0 {L:Nat}:∀(t u:ag) (p:List Int),t.short L->t.sub p=some u->u.short L
 | .node k s x ks,u,[],ht,h=>by have h:some (ag.node k s x ks)=some u:=h;injection h with h;exact h ▸ ht
 | .node k s x ks,u,z::p,ht,h=>by
  have h:(if z<0 then none else C0 z.toNat p ks)=some u:=h;split at h
  .cases h
  .exact Ok ks u _ p ht.2 h
theorem Ok {L:Nat}:∀(ts:List ag) (u:ag) (n:Nat) (p:List Int),ex L ts->C0 n p ts=some u->u.short L
 |[],u,n,p,_,h=>by cases n<;>cases h
 |t::ts,u,0,p,ht,h=>J0 t u p ht.1 h
 |t::ts,u,n+1,p,ht,h=>Ok ts u n p ht.2 h
end
theorem Mw(a b:List ag):ao (a++b)=ao a+ao b:=by
 induction a with
 |nil=>simp[ao]
 |cons t ts ih=>simp only[List.cons_append,ao,ih];omega
theorem Lv{L:Nat}{a:List ag}:ex L a↔∀t∈a,t.short L:=by
 induction a with
 |nil=>exact⟨fun _ t h=>(by cases h),fun _=>trivial⟩
 |cons t ts ih=>exact⟨fun h u hu=>by rcases List.mem_cons.1 hu with rfl|hu;exact h.1;exact ih.1 h.2 u hu,fun h=>⟨h t (List.mem_cons_self ..),ih.2 fun u hu=>h u (List.mem_cons_of_mem _ hu)⟩⟩
theorem Mx(ks:List ag)(i:Nat):ao (ks.take i)+ao (ks.drop i)=ao ks:=by rw[<-Mw,List.take_append_drop]
theorem RL(ks:List ag)(i:Nat):ao (ks.drop i)<=ao ks:=by have:=Mx ks i;omega
theorem LT(v:ag)(i:Nat)(l:ag):(y8 v i l).sz=l.sz+v.sz:=by obtain⟨k,s,x,ks⟩:=l;show 1+ao (ks.take i++v::ks.drop i)=1+ao ks+v.sz;rw[Mw];have:=Mx ks i;simp only[ao];omega
theorem LN(i:Nat)(l:ag):(tv i l).sz<=l.sz:=by obtain⟨k,s,x,ks⟩:=l;show 1+ao (ks.take i++ks.drop (i+1))<=1+ao ks;rw[Mw];have h1:=Mx ks i;have h2:=RL (ks.drop i) 1;rw[List.drop_drop] at h2;have h3:ao (ks.drop (i+1))<=ao (ks.drop i):=(by simpa[Nat.add_comm] using h2);omega
theorem NE(v:ag)(i j:Nat)(l:ag):(Ha v i j l).sz<=l.sz+v.sz:=by have h1:=LN i l;obtain⟨k,s,x,ks⟩:=l;have h2:(y8 v j (tv i (.node k s x ks))).sz=_:=LT v j _;have e:Ha v i j (.node k s x ks)=y8 v j (tv i (.node k s x ks)):=rfl;rw[e];omega
theorem LS{L:Nat}{v l:ag}{i:Nat}(hv:v.short L)(hl:l.short L):(y8 v i l).short L:=by
 obtain⟨k,s,x,ks⟩:=l;have h:=Lv.1 hl.2;exact⟨hl.1,Lv.2 fun t ht=>by
  rcases List.mem_append.1 ht with ht|ht
  .exact h t (List.mem_of_mem_take ht)
  .rcases List.mem_cons.1 ht with rfl|ht
   .exact hv
   .exact h t (List.mem_of_mem_drop ht)⟩
theorem LM{L:Nat}{l:ag}{i:Nat}(hl:l.short L):(tv i l).short L:=by
 obtain⟨k,s,x,ks⟩:=l;have h:=Lv.1 hl.2;exact⟨hl.1,Lv.2 fun t ht=>by
  rcases List.mem_append.1 ht with ht|ht
  .exact h t (List.mem_of_mem_take ht)
  .exact h t (List.mem_of_mem_drop ht)⟩
theorem ND{L:Nat}{v l:ag}{i j:Nat}(hv:v.short L)(hl:l.short L):(Ha v i j l).short L:=by obtain⟨k,s,x,ks⟩:=l;exact LS (l:=tv i (.node k s x ks)) hv (LM hl)
theorem K7{T l:ag}{p zs:List Int}(h:ie T p zs= .ok l):T.sub p=some l/\∀z∈zs,z<=l.kids.length:=by
 unfold ie at h;split at h
 .cases h
 .rename_i l' hl;split at h
  .rename_i hc;injection h with h;subst h;simp only[Bool.and_eq_true,Bool.not_eq_true',kx,List.any_eq_false,decide_eq_true_eq] at hc;exact⟨hl,fun z hz=>by have:=hc.2 z hz;omega⟩
  .cases h
theorem NJ{T o:ag}{p zs:List Int}{i:Nat}(h:jc T p zs i o=0):∃l,ie T p zs= .ok l:=by
 unfold jc at h;cases hl:ie T p zs with
 |ok l=>exact⟨l,rfl⟩
 |error n=>rw[hl] at h;have:=KC hl;simp only at h;omega
def BX(T v:ag)(p:List Int)(i:Nat):Except Nat ag:=match ie T p [(i:Int)] with
 | .error n=>.error n
 | .ok l=>jj (ag.putAt (y8 v i l) p T)
def JJ(T:ag)(p:List Int)(F:ag->ag):Except Nat ag:=match T.sub p with
 |none=>.error 6
 |some l=>jj (ag.putAt (F l) p T)
def Hb(T o:ag)(p:List Int)(i:Nat):Except Nat ag:=if jc T p [(i:Int)+1] i o=0 then JJ T p (tv i) else .error (jc T p [(i:Int)+1] i o)
def EL(T o:ag)(p:List Int)(i j:Nat):Except Nat ag:=if jc T p [(i:Int)+1,(j:Int)+1] i o=0 then JJ T p (Ha o i j) else .error (jc T p [(i:Int)+1,(j:Int)+1] i o)
def u7(T o v:ag)(p:List Int):Except Nat ag:=match T.sub p with
 |none=>.error 6
 |some u=>if u.same o then jj (ag.putAt v p T) else .error 121
theorem Np(w:World)(z:Int){m:Nat}(hm:w.heap.size=m):cc (w.alloc (.cells #[.int .i64 z] 3)) [z] (some ⟨m,0,none⟩) 1 1:=by
 subst hm;refine⟨rfl,ah _,by unfold maxLen;omega,.inr ⟨_,_,rfl,fun j y hy=>?_⟩⟩;have hc:=cell_of_row (w.alloc (.cells #[.int .i64 z] 3)) w.heap.size j _ 3 (0,0) (heap_alloc_new _ _);rw[Nat.zero_add,hc];match j,hy with
 |0,hy=>simp at hy;subst hy;rfl
 |j+1,hy=>simp at hy
theorem LW(w:World)(z y:Int){m:Nat}(hm:w.heap.size=m):cc (w.alloc (.cells #[.int .i64 z,.int .i64 y] 3)) [z,y] (some ⟨m,0,none⟩) 2 2:=by
 subst hm;refine⟨rfl,ah _,by unfold maxLen;omega,.inr ⟨_,_,rfl,fun j x hx=>?_⟩⟩;have hc:=cell_of_row (w.alloc (.cells #[.int .i64 z,.int .i64 y] 3)) w.heap.size j _ 3 (0,0) (heap_alloc_new _ _);rw[Nat.zero_add,hc];match j,hx with
 |0,hx=>simp at hx;subst hx;rfl
 |1,hx=>simp at hx;subst hx;rfl
 |j+2,hx=>simp at hx
theorem LV{W:World}{t:Array Value}{Q:Ending->World->Prop}{b:Nat}{n:Int}{v0 v1 v2 v3:Value}(h2:t[2]? =some (.pointer (some ⟨b,0,none⟩)))(h3:t[3]? =some (.int .i64 n))(c0:W.cell? ⟨b,0,none⟩=some v0)(c1:W.cell? ⟨b,1,none⟩=some v1)(c2:W.cell? ⟨b,2,none⟩=some v2)(c3:W.cell? ⟨b,3,none⟩=some v3)(h:Q (.returned (.tuple #[.agg #[v0,v1,v2,v3],.int .i64 n])) W):bodyPost Tryz.prog Tryz.f48 Q Exit.ret { tmps:=t,defers:=[] } W:=by
 have hres:(results Tryz.f48 t).run Tryz.prog W= .ok (.tuple #[.agg #[v0,v1,v2,v3],.int .i64 n]) W:=by simp[results,Tryz.results48,go_sem,h2,h3,c0,c1,c2,c3]
 exact bodyPost_ret hres rfl h
theorem mF(T:ag)(x0 x3 x4 x5 x6:Value)(at_:Nat)(v:ag)(nA:Option Addr)(nc:Nat)(p:List Int)(pA:Option Addr)(pn pc:Nat)(k:Nat)(s:ByteArray)(x:Int)(A:Option Addr)(n c:Nat)(w:World)(hN:cf w T k s x A n c)(hsh:T.short 281474976710656)(hsz:T.sz<=20000)(hE:bI w)(hp:cc w p pA pn pc)(hK:ce w [v] nA 1 nc)(hv:v.sz<=20000)(hvs:v.short 281474976710656):Calls Tryz.prog 48 #[.agg #[x0,.slice pA pn pc,.int .i64 at_,x3,x4,x5,x6,.slice nA 1 nc,.int .u8 k,.string s,.int .i64 x,.slice A n c]] w (Ce (BX T v p at_) w):=by
 have hb0:Below w.heap.size w ((w.alloc (.cells #[x0,.slice pA pn pc,.int .i64 at_,x3,x4,x5,x6,.slice nA 1 nc,.int .u8 k,.string s,.int .i64 x,.slice A n c] 83)).alloc (.cells #[.int .u8 0,.string ⟨#[]⟩,.int .i64 0,.slice none 0 0] 25)):=bz_alloc (bz_alloc (ai _ _) _) _;have hw0:((w.alloc (.cells #[x0,.slice pA pn pc,.int .i64 at_,x3,x4,x5,x6,.slice nA 1 nc,.int .u8 k,.string s,.int .i64 x,.slice A n c] 83)).alloc (.cells #[.int .u8 0,.string ⟨#[]⟩,.int .i64 0,.slice none 0 0] 25)).heap[w.heap.size]? =some (.cells #[x0,.slice pA pn pc,.int .i64 at_,x3,x4,x5,x6,.slice nA 1 nc,.int .u8 k,.string s,.int .i64 x,.slice A n c] 83 (0,0)):=(hpo _ _ (by simp)).trans (heap_alloc_new _ _);have hr0:((w.alloc (.cells #[x0,.slice pA pn pc,.int .i64 at_,x3,x4,x5,x6,.slice nA 1 nc,.int .u8 k,.string s,.int .i64 x,.slice A n c] 83)).alloc (.cells #[.int .u8 0,.string ⟨#[]⟩,.int .i64 0,.slice none 0 0] 25)).heap[w.heap.size+1]? =some (.cells #[.int .u8 0,.string ⟨#[]⟩,.int .i64 0,.slice none 0 0] 25 (0,0)):=heap_alloc_at (by simp);have HN:=ab hN;have HE:=ab hE;have HP:=ab hp;have HSH:=ab hsh;have HSZ:=ab hsz;have HK:=ab hK;have HV:Hid (v.sz<=20000/\v.short 281474976710656):=⟨hv,hvs⟩;have hbq:=bz_alloc hb0 (.cells #[.int .i64 (at_:Int)] 3);have HL:=ab (NN T x0 (.int .i64 at_) x3 x4 x5 x6 (.slice nA 1 nc) p pA pn pc k s x A n c [(at_:Int)] _ 1 1 _ (hN.below hbq) (aJ hsz (by omega)) (hp.below hbq) (Np (m:=w.heap.size+1+1) _ _ (by simp)));have HB1:=ab hbq;have HW1:=ab (((bz_alloc (ai _ _) (.cells #[.int .i64 (at_:Int)] 3)).block _ (by simp;omega)).trans hw0);have HR1:=ab (((bz_alloc (ai _ _) (.cells #[.int .i64 (at_:Int)] 3)).block _ (by simp)).trans hr0);obtain⟨⟨e0,e1,e2,e3,e4,e5,e6,e7,e8,e9,e10,e11⟩,_⟩:=cr hw0;clear hb0 hr0 hbq hN hE hp hsh hsz hK hv hvs
 go_in
 go_wp2_with fail;refine HL.out.mono ?_;rintro en w2 ⟨hb2,hpost⟩;have HB2:=af HB1.out hb2;have HW2:=(hb2.block _ (aK.1 HW1.out).1).trans HW1.out;have HR2:=(hb2.block _ (aK.1 HR1.out).1).trans HR1.out;clear e0 e1 e2 e3 e4 e5 e6 e7 e8 e9 e10 e11 hw0 HL HB1 HW1 HR1;cases hl:ie T p [(at_:Int)] with
 |error m=>have hm:=KC hl;subst hm;rw[hl] at hpost;obtain⟨k1,s1,y1,A1,n1,c1,rfl⟩:=hpost;have HRES:Hid (BX T v p at_= .error 6):=(by show _=_;unfold BX;rw[hl]);have hq:Below w2.heap.size w2 (w2.alloc (.cells #[.int .u8 k1,.string s1,.int .i64 y1,.slice A1 n1 c1] 25)):=bz_alloc (ai _ _) _;have hB3:=af HB2 hq;have hR3:=(hq.block _ (aK.1 HR2).1).trans HR2;clear hl hb2 hq;go_upto_region 2 with fail;generalize w2.alloc (.cells #[.int .u8 k1,.string s1,.int .i64 y1,.slice A1 n1 c1] 25)=W at hB3 hR3 ⊢;have HB3:=ab hB3;have HR3:=ab hR3;clear hB3 hR3;obtain⟨r0,r1,r2,r3,f0,f1,f2,f3⟩:=di HR3.out;go_wp2_with fail;obtain⟨a0,a1,a2,a3,hb9⟩:=CY (v0:=.int .u8 0) (v1:=.string ⟨#[]⟩) (v2:=.int .i64 0) (v3:=.slice none 0 0) HR3.out HB3.out (by omega);exact LV (b:=w.heap.size+1) rfl rfl a0 a1 a2 a3 (Ce.err HRES.out hb9)
 |ok l=>
  rw[hl] at hpost;obtain⟨k1,s1,y1,A1,n1,c1,rfl,_⟩:=hpost;obtain⟨hsub,hat⟩:=K7 hl;have hat':at_<=l.kids.length:=(by have:=hat at_ (List.mem_cons_self ..);omega);have HWAY:Hid (BX T v p at_=jj (ag.putAt (y8 v at_ l) p T)):=(by show _=_;unfold BX;rw[hl]);have hq:Below w2.heap.size w2 (w2.alloc (.cells #[.int .u8 k1,.string s1,.int .i64 y1,.slice A1 n1 c1] 25)):=bz_alloc (ai _ _) _;have hB3:=af HB2 hq;have hW3:=(hq.block _ (aK.1 HW2).1).trans HW2;have hR3:=(hq.block _ (aK.1 HR2).1).trans HR2;have HSUB:=ab hsub;have HLS:Hid (l.sz<=20000/\l.short 281474976710656):=⟨aJ (JH T l p hsub) HSZ.out,J0 T l p HSH.out hsub⟩;have HAT:=ab hat';clear hl hb2 hq HB2 HW2 HR2 hsub hat hat';go_upto_region 2 with fail;generalize w2.alloc (.cells #[.int .u8 k1,.string s1,.int .i64 y1,.slice A1 n1 c1] 25)=W at hB3 hW3 hR3 ⊢;have HBW:=ab hB3;have HWW:=ab hW3;have HRW:=ab hR3;clear hB3 hW3 hR3;obtain⟨lk,ls,lx,lks⟩:=l;have HTN:Hid (EP 101 w.heap.size W _ _):=Qz w.heap.size at_ v nA nc W lk ls lx lks (cr HWW.out).1.c2 (cr HWW.out).1.c7 (HK.out.below HBW.out) (aJ HV.out.1 (by omega)) HAT.out (by have h1:=eA lks;have h2:=HLS.out.1;simp only[ag.sz] at h2;omega);have HSZ2:Hid ((ag.putAt (y8 v at_ (.node lk ls lx lks)) p T).sz<=100000):=(by have h1:=Ju (y8 v at_ (.node lk ls lx lks)) T p;have h2:=LT v at_ (.node lk ls lx lks);have h3:=HSZ.out;have h4:=HV.out.1;have h5:=HLS.out.1;show _<=_;omega);have HSH2:Hid ((ag.putAt (y8 v at_ (.node lk ls lx lks)) p T).short 281474976710656):=Jt (LS HV.out.2 HLS.out.2) T p HSH.out;obtain⟨⟨e0,e1,e2,e3,e4,e5,e6,e7,e8,e9,e10,e11⟩,_⟩:=cr HWW.out;have HWI:=ab (Io 101 w.heap.size MY T _ _ x0 (.slice pA pn pc) (.int .i64 at_) x3 x4 x5 x6 (.slice nA 1 nc) k s x A n c p pA pn pc W (aJ HSZ.out (by omega)) (HN.out.below HBW.out) (HP.out.below HBW.out) HSUB.out HTN.out);have hcf:=MY;go_wp2_with fail;refine HWI.out.mono ?_;rintro en w4 ⟨hb4,k4,s4,y4,A4,n4,c4,rfl,hn4⟩;have HB4:=ab (af HBW.out hb4);have HR4:=ab ((hb4.block _ (aK.1 HRW.out).1).trans HRW.out);have HLO:Hid (w.heap.size+2<=W.heap.size):=(by have:=(aK.1 HRW.out).1;show _<=_;omega);have HN4:=ab hn4;clear e0 e1 e2 e3 e4 e5 e6 e7 e8 e9 e10 e11 hb4 hn4 hcf HWI HTN HWW HRW;go_wp2_with fail;refine(Ll (ag.putAt (y8 v at_ (.node lk ls lx lks)) p T) k4 s4 y4 A4 n4 c4 W.heap.size w4 HN4.out HSH2.out HSZ2.out (HE.out.below HB4.out (ah _))).mono ?_;rintro en w5 ⟨hb5,hpost⟩;have HB5:=ab (af HB4.out hb5);have HR5:=ab ((hb5.block _ (aK.1 HR4.out).1).trans HR4.out);clear hb5 HB4 HR4 HN4;obtain⟨r0,r1,r2,r3,f0,f1,f2,f3⟩:=di HR5.out;cases hres:jj (ag.putAt (y8 v at_ (.node lk ls lx lks)) p T) with
  |error m=>rw[hres] at hpost;simp only at hpost;subst hpost;have HRES:=ab (HWAY.out.trans hres);clear hres;go_wp2_with fail;obtain⟨a0,a1,a2,a3,hb9⟩:=CY (v0:=.int .u8 0) (v1:=.string ⟨#[]⟩) (v2:=.int .i64 0) (v3:=.slice none 0 0) HR5.out HB5.out (by omega);exact LV (b:=w.heap.size+1) rfl rfl a0 a1 a2 a3 (Ce.err HRES.out hb9)
  |ok t'=>rw[hres] at hpost;obtain⟨k6,s6,y6,A6,n6,c6,rfl,hn6⟩:=hpost;have HRES:=ab (HWAY.out.trans hres);have HN6:=ab (hn6.lowS HLO.out);clear hres hn6;go_wp2_with fail;obtain⟨a0,a1,a2,a3,hb9⟩:=CY (v0:=.int .u8 k6) (v1:=.string s6) (v2:=.int .i64 y6) (v3:=.slice A6 n6 c6) HR5.out HB5.out (by omega);exact LV (b:=w.heap.size+1) rfl rfl a0 a1 a2 a3 (Ce.ok HRES.out hb9 HN6.out.sincePut4)
theorem Mq{W:World}{t:Array Value}{Q:Ending->World->Prop}{b:Nat}{n:Int}{v0 v1 v2 v3:Value}(h2:t[2]? =some (.pointer (some ⟨b,0,none⟩)))(h3:t[3]? =some (.int .i64 n))(c0:W.cell? ⟨b,0,none⟩=some v0)(c1:W.cell? ⟨b,1,none⟩=some v1)(c2:W.cell? ⟨b,2,none⟩=some v2)(c3:W.cell? ⟨b,3,none⟩=some v3)(h:Q (.returned (.tuple #[.agg #[v0,v1,v2,v3],.int .i64 n])) W):bodyPost Tryz.prog Tryz.f49 Q Exit.ret { tmps:=t,defers:=[] } W:=by
 have hres:(results Tryz.f49 t).run Tryz.prog W= .ok (.tuple #[.agg #[v0,v1,v2,v3],.int .i64 n]) W:=by simp[results,Tryz.results49,go_sem,h2,h3,c0,c1,c2,c3]
 exact bodyPost_ret hres rfl h
theorem yT(T:ag)(x0 x3 x4 x5 x7:Value)(at_:Nat)(hatm:at_<=1073741824)(o:ag)(oA:Option Addr)(oc:Nat)(p:List Int)(pA:Option Addr)(pn pc:Nat)(k:Nat)(s:ByteArray)(x:Int)(A:Option Addr)(n c:Nat)(w:World)(hN:cf w T k s x A n c)(hsh:T.short 281474976710656)(hsz:T.sz<=20000)(hE:bI w)(hp:cc w p pA pn pc)(ho:ce w [o] oA 1 oc)(hos:o.sz<=20000)(hosh:o.short 281474976710656):Calls Tryz.prog 49 #[.agg #[x0,.slice pA pn pc,.int .i64 at_,x3,x4,x5,.slice oA 1 oc,x7,.int .u8 k,.string s,.int .i64 x,.slice A n c]] w (Ce (Hb T o p at_) w):=by
 have hb0:Below w.heap.size w ((w.alloc (.cells #[x0,.slice pA pn pc,.int .i64 at_,x3,x4,x5,.slice oA 1 oc,x7,.int .u8 k,.string s,.int .i64 x,.slice A n c] 83)).alloc (.cells #[.int .u8 0,.string ⟨#[]⟩,.int .i64 0,.slice none 0 0] 25)):=bz_alloc (bz_alloc (ai _ _) _) _;have hw0:((w.alloc (.cells #[x0,.slice pA pn pc,.int .i64 at_,x3,x4,x5,.slice oA 1 oc,x7,.int .u8 k,.string s,.int .i64 x,.slice A n c] 83)).alloc (.cells #[.int .u8 0,.string ⟨#[]⟩,.int .i64 0,.slice none 0 0] 25)).heap[w.heap.size]? =some (.cells #[x0,.slice pA pn pc,.int .i64 at_,x3,x4,x5,.slice oA 1 oc,x7,.int .u8 k,.string s,.int .i64 x,.slice A n c] 83 (0,0)):=(hpo _ _ (by simp)).trans (heap_alloc_new _ _);have hr0:((w.alloc (.cells #[x0,.slice pA pn pc,.int .i64 at_,x3,x4,x5,.slice oA 1 oc,x7,.int .u8 k,.string s,.int .i64 x,.slice A n c] 83)).alloc (.cells #[.int .u8 0,.string ⟨#[]⟩,.int .i64 0,.slice none 0 0] 25)).heap[w.heap.size+1]? =some (.cells #[.int .u8 0,.string ⟨#[]⟩,.int .i64 0,.slice none 0 0] 25 (0,0)):=heap_alloc_at (by simp);have HN:=ab hN;have HE:=ab hE;have HP:=ab hp;have HSH:=ab hsh;have HSZ:=ab hsz;have HK:=ab ho;have HV:Hid (o.sz<=20000/\o.short 281474976710656):=⟨hos,hosh⟩;have hbq:=bz_alloc hb0 (.cells #[.int .i64 ((at_:Int)+1)] 3);have HL:=ab (NP T o x0 x3 x4 x5 x7 p pA pn pc at_ oA oc k s x A n c [(at_:Int)+1] _ 1 1 _ (hN.below hbq) (aJ hsz (by omega)) (hp.below hbq) (Np (m:=w.heap.size+1+1) _ _ (by simp)) (ho.below hbq) (by simp));have HB1:=ab hbq;have HW1:=ab (((bz_alloc (ai _ _) (.cells #[.int .i64 ((at_:Int)+1)] 3)).block _ (by simp;omega)).trans hw0);have HR1:=ab (((bz_alloc (ai _ _) (.cells #[.int .i64 ((at_:Int)+1)] 3)).block _ (by simp)).trans hr0);obtain⟨⟨e0,e1,e2,e3,e4,e5,e6,e7,e8,e9,e10,e11⟩,_⟩:=cr hw0;clear hb0 hr0 hbq hN hE hp hsh hsz ho hos hosh
 go_in
 go_wp2_with fail;refine HL.out.mono ?_;rintro en W ⟨rfl,hb2⟩;have HBW:=ab (af HB1.out hb2);have HWW:=ab ((hb2.block _ (aK.1 HW1.out).1).trans HW1.out);have HRW:=ab ((hb2.block _ (aK.1 HR1.out).1).trans HR1.out);clear e0 e1 e2 e3 e4 e5 e6 e7 e8 e9 e10 e11 hw0 HL HB1 HW1 HR1 hb2;by_cases hz:jc T p [(at_:Int)+1] at_ o=0
 .have hzi:((jc T p [(at_:Int)+1] at_ o:Nat):Int)=0:=(by rw[hz];rfl);rw[hzi];obtain⟨l,hl⟩:=NJ hz;obtain⟨hsub,hat⟩:=K7 hl;have hat':at_<l.kids.length:=(by have:=hat ((at_:Int)+1) (by simp);omega);have HWAY:Hid (Hb T o p at_=jj (ag.putAt (tv at_ l) p T)):=(by show _=_;unfold Hb JJ;rw[if_pos hz,hsub]);have HSUB:=ab hsub;have HLS:Hid (l.sz<=20000/\l.short 281474976710656):=⟨aJ (JH T l p hsub) HSZ.out,J0 T l p HSH.out hsub⟩;have HAT:=ab hat';clear hl hsub hat hat' hz hzi;obtain⟨lk,ls,lx,lks⟩:=l;have HTN:Hid (EP 104 w.heap.size W _ _):=QD w.heap.size at_ W lk ls lx lks (cr HWW.out).1.c2 HAT.out (by have h1:=eA lks;have h2:=HLS.out.1;simp only[ag.sz] at h2;omega);have HSZ2:Hid ((ag.putAt (tv at_ (.node lk ls lx lks)) p T).sz<=100000):=(by have h1:=Ju (tv at_ (.node lk ls lx lks)) T p;have h2:=LN at_ (.node lk ls lx lks);have h3:=HSZ.out;have h5:=HLS.out.1;show _<=_;omega);have HSH2:Hid ((ag.putAt (tv at_ (.node lk ls lx lks)) p T).short 281474976710656):=Jt (LM HLS.out.2) T p HSH.out;obtain⟨⟨e0,e1,e2,e3,e4,e5,e6,e7,e8,e9,e10,e11⟩,_⟩:=cr HWW.out;have HWI:=ab (Io 104 w.heap.size M6 T _ _ x0 (.slice pA pn pc) (.int .i64 at_) x3 x4 x5 (.slice oA 1 oc) x7 k s x A n c p pA pn pc W (aJ HSZ.out (by omega)) (HN.out.below HBW.out) (HP.out.below HBW.out) HSUB.out HTN.out);have hcf:=M6;go_wp2_with fail;refine HWI.out.mono ?_;rintro en w4 ⟨hb4,k4,s4,y4,A4,n4,c4,rfl,hn4⟩;have HB4:=ab (af HBW.out hb4);have HR4:=ab ((hb4.block _ (aK.1 HRW.out).1).trans HRW.out);have HLO:Hid (w.heap.size+2<=W.heap.size):=(by have:=(aK.1 HRW.out).1;show _<=_;omega);have HN4:=ab hn4;clear e0 e1 e2 e3 e4 e5 e6 e7 e8 e9 e10 e11 hb4 hn4 hcf HWI HTN HWW HRW;go_wp2_with fail;refine(Ll (ag.putAt (tv at_ (.node lk ls lx lks)) p T) k4 s4 y4 A4 n4 c4 W.heap.size w4 HN4.out HSH2.out HSZ2.out (HE.out.below HB4.out (ah _))).mono ?_;rintro en w5 ⟨hb5,hpost⟩;have HB5:=ab (af HB4.out hb5);have HR5:=ab ((hb5.block _ (aK.1 HR4.out).1).trans HR4.out);clear hb5 HB4 HR4 HN4;obtain⟨r0,r1,r2,r3,f0,f1,f2,f3⟩:=di HR5.out;cases hres:jj (ag.putAt (tv at_ (.node lk ls lx lks)) p T) with
  |error m=>rw[hres] at hpost;simp only at hpost;subst hpost;have HRES:=ab (HWAY.out.trans hres);clear hres;go_wp2_with fail;obtain⟨a0,a1,a2,a3,hb9⟩:=CY (v0:=.int .u8 0) (v1:=.string ⟨#[]⟩) (v2:=.int .i64 0) (v3:=.slice none 0 0) HR5.out HB5.out (by omega);exact Mq (b:=w.heap.size+1) rfl rfl a0 a1 a2 a3 (Ce.err HRES.out hb9)
  |ok t'=>rw[hres] at hpost;obtain⟨k6,s6,y6,A6,n6,c6,rfl,hn6⟩:=hpost;have HRES:=ab (HWAY.out.trans hres);have HN6:=ab (hn6.lowS HLO.out);clear hres hn6;go_wp2_with fail;obtain⟨a0,a1,a2,a3,hb9⟩:=CY (v0:=.int .u8 k6) (v1:=.string s6) (v2:=.int .i64 y6) (v3:=.slice A6 n6 c6) HR5.out HB5.out (by omega);exact Mq (b:=w.heap.size+1) rfl rfl a0 a1 a2 a3 (Ce.ok HRES.out hb9 HN6.out.sincePut4)
 .have hz2:(((jc T p [(at_:Int)+1] at_ o:Nat):Int) != 0)=true:=(by simpa using hz);have hz3:(((jc T p [(at_:Int)+1] at_ o:Nat):Int) == 0)=false:=(by simpa using hz);have HRES:Hid (Hb T o p at_= .error (jc T p [(at_:Int)+1] at_ o)):=(by show _=_;unfold Hb;rw[if_neg hz]);clear hz;obtain⟨r0,r1,r2,r3,f0,f1,f2,f3⟩:=di HRW.out;go_wp2_with fail;obtain⟨a0,a1,a2,a3,hb9⟩:=CY (v0:=.int .u8 0) (v1:=.string ⟨#[]⟩) (v2:=.int .i64 0) (v3:=.slice none 0 0) HRW.out HBW.out (by omega);exact Mq (b:=w.heap.size+1) rfl rfl a0 a1 a2 a3 (Ce.err HRES.out hb9)
theorem L6{W:World}{t:Array Value}{Q:Ending->World->Prop}{b:Nat}{n:Int}{v0 v1 v2 v3:Value}(h2:t[2]? =some (.pointer (some ⟨b,0,none⟩)))(h3:t[3]? =some (.int .i64 n))(c0:W.cell? ⟨b,0,none⟩=some v0)(c1:W.cell? ⟨b,1,none⟩=some v1)(c2:W.cell? ⟨b,2,none⟩=some v2)(c3:W.cell? ⟨b,3,none⟩=some v3)(h:Q (.returned (.tuple #[.agg #[v0,v1,v2,v3],.int .i64 n])) W):bodyPost Tryz.prog Tryz.f51 Q Exit.ret { tmps:=t,defers:=[] } W:=by
 have hres:(results Tryz.f51 t).run Tryz.prog W= .ok (.tuple #[.agg #[v0,v1,v2,v3],.int .i64 n]) W:=by simp[results,Tryz.results51,go_sem,h2,h3,c0,c1,c2,c3]
 exact bodyPost_ret hres rfl h
theorem BL(T:ag)(x0 x4 x5 x7:Value)(at_ far:Nat)(hatm:at_<=1073741824)(hfarm:far<=1073741824)(o:ag)(oA:Option Addr)(oc:Nat)(p:List Int)(pA:Option Addr)(pn pc:Nat)(k:Nat)(s:ByteArray)(x:Int)(A:Option Addr)(n c:Nat)(w:World)(hN:cf w T k s x A n c)(hsh:T.short 281474976710656)(hsz:T.sz<=20000)(hE:bI w)(hp:cc w p pA pn pc)(ho:ce w [o] oA 1 oc)(hos:o.sz<=20000)(hosh:o.short 281474976710656):Calls Tryz.prog 51 #[.agg #[x0,.slice pA pn pc,.int .i64 at_,.int .i64 far,x4,x5,.slice oA 1 oc,x7,.int .u8 k,.string s,.int .i64 x,.slice A n c]] w (Ce (EL T o p at_ far) w):=by
 have hb0:Below w.heap.size w ((w.alloc (.cells #[x0,.slice pA pn pc,.int .i64 at_,.int .i64 far,x4,x5,.slice oA 1 oc,x7,.int .u8 k,.string s,.int .i64 x,.slice A n c] 83)).alloc (.cells #[.int .u8 0,.string ⟨#[]⟩,.int .i64 0,.slice none 0 0] 25)):=bz_alloc (bz_alloc (ai _ _) _) _;have hw0:((w.alloc (.cells #[x0,.slice pA pn pc,.int .i64 at_,.int .i64 far,x4,x5,.slice oA 1 oc,x7,.int .u8 k,.string s,.int .i64 x,.slice A n c] 83)).alloc (.cells #[.int .u8 0,.string ⟨#[]⟩,.int .i64 0,.slice none 0 0] 25)).heap[w.heap.size]? =some (.cells #[x0,.slice pA pn pc,.int .i64 at_,.int .i64 far,x4,x5,.slice oA 1 oc,x7,.int .u8 k,.string s,.int .i64 x,.slice A n c] 83 (0,0)):=(hpo _ _ (by simp)).trans (heap_alloc_new _ _);have hr0:((w.alloc (.cells #[x0,.slice pA pn pc,.int .i64 at_,.int .i64 far,x4,x5,.slice oA 1 oc,x7,.int .u8 k,.string s,.int .i64 x,.slice A n c] 83)).alloc (.cells #[.int .u8 0,.string ⟨#[]⟩,.int .i64 0,.slice none 0 0] 25)).heap[w.heap.size+1]? =some (.cells #[.int .u8 0,.string ⟨#[]⟩,.int .i64 0,.slice none 0 0] 25 (0,0)):=heap_alloc_at (by simp);have HN:=ab hN;have HE:=ab hE;have HP:=ab hp;have HSH:=ab hsh;have HSZ:=ab hsz;have HK:=ab ho;have HV:Hid (o.sz<=20000/\o.short 281474976710656):=⟨hos,hosh⟩;have hbq:=bz_alloc hb0 (.cells #[.int .i64 ((at_:Int)+1),.int .i64 ((far:Int)+1)] 3);have HL:=ab (NP T o x0 (.int .i64 far) x4 x5 x7 p pA pn pc at_ oA oc k s x A n c [(at_:Int)+1,(far:Int)+1] _ 2 2 _ (hN.below hbq) (aJ hsz (by omega)) (hp.below hbq) (LW (m:=w.heap.size+1+1) _ _ _ (by simp)) (ho.below hbq) (by simp));have HB1:=ab hbq;have HW1:=ab (((bz_alloc (ai _ _) (.cells #[.int .i64 ((at_:Int)+1),.int .i64 ((far:Int)+1)] 3)).block _ (by simp;omega)).trans hw0);have HR1:=ab (((bz_alloc (ai _ _) (.cells #[.int .i64 ((at_:Int)+1),.int .i64 ((far:Int)+1)] 3)).block _ (by simp)).trans hr0);obtain⟨⟨e0,e1,e2,e3,e4,e5,e6,e7,e8,e9,e10,e11⟩,_⟩:=cr hw0;clear hb0 hr0 hbq hN hE hp hsh hsz ho hos hosh
 go_in
 go_wp2_with fail;refine HL.out.mono ?_;rintro en W ⟨rfl,hb2⟩;have HBW:=ab (af HB1.out hb2);have HWW:=ab ((hb2.block _ (aK.1 HW1.out).1).trans HW1.out);have HRW:=ab ((hb2.block _ (aK.1 HR1.out).1).trans HR1.out);clear e0 e1 e2 e3 e4 e5 e6 e7 e8 e9 e10 e11 hw0 HL HB1 HW1 HR1 hb2;by_cases hz:jc T p [(at_:Int)+1,(far:Int)+1] at_ o=0
 .have hzi:((jc T p [(at_:Int)+1,(far:Int)+1] at_ o:Nat):Int)=0:=(by rw[hz];rfl);rw[hzi];obtain⟨l,hl⟩:=NJ hz;obtain⟨hsub,hat⟩:=K7 hl;have hat':at_<l.kids.length:=(by have:=hat ((at_:Int)+1) (by simp);omega);have hfar':far<l.kids.length:=(by have:=hat ((far:Int)+1) (by simp);omega);have HFAR:=ab hfar';clear hfar';have HWAY:Hid (EL T o p at_ far=jj (ag.putAt (Ha o at_ far l) p T)):=(by show _=_;unfold EL JJ;rw[if_pos hz,hsub]);have HSUB:=ab hsub;have HLS:Hid (l.sz<=20000/\l.short 281474976710656):=⟨aJ (JH T l p hsub) HSZ.out,J0 T l p HSH.out hsub⟩;have HAT:=ab hat';clear hl hsub hat hat' hz hzi;obtain⟨lk,ls,lx,lks⟩:=l;have HTN:Hid (EP 108 w.heap.size W _ _):=QC w.heap.size at_ far o oA oc W lk ls lx lks (cr HWW.out).1.c2 (cr HWW.out).1.c3 (cr HWW.out).1.c6 (HK.out.below HBW.out) (aJ HV.out.1 (by omega)) HAT.out HFAR.out (by have h1:=eA lks;have h2:=HLS.out.1;simp only[ag.sz] at h2;omega);have HSZ2:Hid ((ag.putAt (Ha o at_ far (.node lk ls lx lks)) p T).sz<=100000):=(by have h1:=Ju (Ha o at_ far (.node lk ls lx lks)) T p;have h2:=NE o at_ far (.node lk ls lx lks);have h3:=HSZ.out;have h4:=HV.out.1;have h5:=HLS.out.1;show _<=_;omega);have HSH2:Hid ((ag.putAt (Ha o at_ far (.node lk ls lx lks)) p T).short 281474976710656):=Jt (ND HV.out.2 HLS.out.2) T p HSH.out;obtain⟨⟨e0,e1,e2,e3,e4,e5,e6,e7,e8,e9,e10,e11⟩,_⟩:=cr HWW.out;have HWI:=ab (Io 108 w.heap.size MZ T _ _ x0 (.slice pA pn pc) (.int .i64 at_) (.int .i64 far) x4 x5 (.slice oA 1 oc) x7 k s x A n c p pA pn pc W (aJ HSZ.out (by omega)) (HN.out.below HBW.out) (HP.out.below HBW.out) HSUB.out HTN.out);have hcf:=MZ;go_wp2_with fail;refine HWI.out.mono ?_;rintro en w4 ⟨hb4,k4,s4,y4,A4,n4,c4,rfl,hn4⟩;have HB4:=ab (af HBW.out hb4);have HR4:=ab ((hb4.block _ (aK.1 HRW.out).1).trans HRW.out);have HLO:Hid (w.heap.size+2<=W.heap.size):=(by have:=(aK.1 HRW.out).1;show _<=_;omega);have HN4:=ab hn4;clear e0 e1 e2 e3 e4 e5 e6 e7 e8 e9 e10 e11 hb4 hn4 hcf HWI HTN HWW HRW;go_wp2_with fail;refine(Ll (ag.putAt (Ha o at_ far (.node lk ls lx lks)) p T) k4 s4 y4 A4 n4 c4 W.heap.size w4 HN4.out HSH2.out HSZ2.out (HE.out.below HB4.out (ah _))).mono ?_;rintro en w5 ⟨hb5,hpost⟩;have HB5:=ab (af HB4.out hb5);have HR5:=ab ((hb5.block _ (aK.1 HR4.out).1).trans HR4.out);clear hb5 HB4 HR4 HN4;obtain⟨r0,r1,r2,r3,f0,f1,f2,f3⟩:=di HR5.out;cases hres:jj (ag.putAt (Ha o at_ far (.node lk ls lx lks)) p T) with
  |error m=>rw[hres] at hpost;simp only at hpost;subst hpost;have HRES:=ab (HWAY.out.trans hres);clear hres;go_wp2_with fail;obtain⟨a0,a1,a2,a3,hb9⟩:=CY (v0:=.int .u8 0) (v1:=.string ⟨#[]⟩) (v2:=.int .i64 0) (v3:=.slice none 0 0) HR5.out HB5.out (by omega);exact L6 (b:=w.heap.size+1) rfl rfl a0 a1 a2 a3 (Ce.err HRES.out hb9)
  |ok t'=>rw[hres] at hpost;obtain⟨k6,s6,y6,A6,n6,c6,rfl,hn6⟩:=hpost;have HRES:=ab (HWAY.out.trans hres);have HN6:=ab (hn6.lowS HLO.out);clear hres hn6;go_wp2_with fail;obtain⟨a0,a1,a2,a3,hb9⟩:=CY (v0:=.int .u8 k6) (v1:=.string s6) (v2:=.int .i64 y6) (v3:=.slice A6 n6 c6) HR5.out HB5.out (by omega);exact L6 (b:=w.heap.size+1) rfl rfl a0 a1 a2 a3 (Ce.ok HRES.out hb9 HN6.out.sincePut4)
 .have hz2:(((jc T p [(at_:Int)+1,(far:Int)+1] at_ o:Nat):Int) != 0)=true:=(by simpa using hz);have hz3:(((jc T p [(at_:Int)+1,(far:Int)+1] at_ o:Nat):Int) == 0)=false:=(by simpa using hz);have HRES:Hid (EL T o p at_ far= .error (jc T p [(at_:Int)+1,(far:Int)+1] at_ o)):=(by show _=_;unfold EL;rw[if_neg hz]);clear hz;obtain⟨r0,r1,r2,r3,f0,f1,f2,f3⟩:=di HRW.out;go_wp2_with fail;obtain⟨a0,a1,a2,a3,hb9⟩:=CY (v0:=.int .u8 0) (v1:=.string ⟨#[]⟩) (v2:=.int .i64 0) (v3:=.slice none 0 0) HRW.out HBW.out (by omega);exact L6 (b:=w.heap.size+1) rfl rfl a0 a1 a2 a3 (Ce.err HRES.out hb9)
theorem Lq{W:World}{t:Array Value}{Q:Ending->World->Prop}{b:Nat}{n:Int}{v0 v1 v2 v3:Value}(h2:t[2]? =some (.pointer (some ⟨b,0,none⟩)))(h3:t[3]? =some (.int .i64 n))(c0:W.cell? ⟨b,0,none⟩=some v0)(c1:W.cell? ⟨b,1,none⟩=some v1)(c2:W.cell? ⟨b,2,none⟩=some v2)(c3:W.cell? ⟨b,3,none⟩=some v3)(h:Q (.returned (.tuple #[.agg #[v0,v1,v2,v3],.int .i64 n])) W):bodyPost Tryz.prog Tryz.f50 Q Exit.ret { tmps:=t,defers:=[] } W:=by
 have hres:(results Tryz.f50 t).run Tryz.prog W= .ok (.tuple #[.agg #[v0,v1,v2,v3],.int .i64 n]) W:=by simp[results,Tryz.results50,go_sem,h2,h3,c0,c1,c2,c3]
 exact bodyPost_ret hres rfl h
theorem QE(T:ag)(x0 x2 x3 x4 x5:Value)(o:ag)(oA:Option Addr)(oc:Nat)(v:ag)(nA:Option Addr)(nc:Nat)(p:List Int)(pA:Option Addr)(pn pc:Nat)(k:Nat)(s:ByteArray)(x:Int)(A:Option Addr)(n c:Nat)(w:World)(hN:cf w T k s x A n c)(hsh:T.short 281474976710656)(hsz:T.sz<=20000)(hE:bI w)(hp:cc w p pA pn pc)(ho:ce w [o] oA 1 oc)(hK:ce w [v] nA 1 nc)(hv:v.sz<=20000)(hvs:v.short 281474976710656):Calls Tryz.prog 50 #[.agg #[x0,.slice pA pn pc,x2,x3,x4,x5,.slice oA 1 oc,.slice nA 1 nc,.int .u8 k,.string s,.int .i64 x,.slice A n c]] w (Ce (u7 T o v p) w):=by
 have hb0:Below w.heap.size w ((w.alloc (.cells #[x0,.slice pA pn pc,x2,x3,x4,x5,.slice oA 1 oc,.slice nA 1 nc,.int .u8 k,.string s,.int .i64 x,.slice A n c] 83)).alloc (.cells #[.int .u8 0,.string ⟨#[]⟩,.int .i64 0,.slice none 0 0] 25)):=bz_alloc (bz_alloc (ai _ _) _) _;have hw0:((w.alloc (.cells #[x0,.slice pA pn pc,x2,x3,x4,x5,.slice oA 1 oc,.slice nA 1 nc,.int .u8 k,.string s,.int .i64 x,.slice A n c] 83)).alloc (.cells #[.int .u8 0,.string ⟨#[]⟩,.int .i64 0,.slice none 0 0] 25)).heap[w.heap.size]? =some (.cells #[x0,.slice pA pn pc,x2,x3,x4,x5,.slice oA 1 oc,.slice nA 1 nc,.int .u8 k,.string s,.int .i64 x,.slice A n c] 83 (0,0)):=(hpo _ _ (by simp)).trans (heap_alloc_new _ _);have hr0:((w.alloc (.cells #[x0,.slice pA pn pc,x2,x3,x4,x5,.slice oA 1 oc,.slice nA 1 nc,.int .u8 k,.string s,.int .i64 x,.slice A n c] 83)).alloc (.cells #[.int .u8 0,.string ⟨#[]⟩,.int .i64 0,.slice none 0 0] 25)).heap[w.heap.size+1]? =some (.cells #[.int .u8 0,.string ⟨#[]⟩,.int .i64 0,.slice none 0 0] 25 (0,0)):=heap_alloc_at (by simp);have HN:=ab hN;have HE:=ab hE;have HP:=ab hp;have HSH:=ab hsh;have HSZ:=ab hsz;have HK:=ab hK;have HO:=ab ho;have HV:Hid (v.sz<=20000/\v.short 281474976710656):=⟨hv,hvs⟩;have HG:=ab (Mk T k s x A n c p pA pn pc _ (aJ hsz (by omega)) (hN.below hb0) (hp.below hb0));have HB1:=ab hb0;have HW1:=ab hw0;have HR1:=ab hr0;obtain⟨⟨e0,e1,e2,e3,e4,e5,e6,e7,e8,e9,e10,e11⟩,_⟩:=cr hw0;clear hb0 hr0 hN hE hp hsh hsz hK ho hv hvs
 go_in
 go_wp2_with fail;refine HG.out.mono ?_;rintro en w2 ⟨hb2,hpost⟩;have HB2:=af HB1.out hb2;have HW2:=(hb2.block _ (aK.1 HW1.out).1).trans HW1.out;have HR2:=(hb2.block _ (aK.1 HR1.out).1).trans HR1.out;clear e0 e1 e2 e3 e4 e5 e6 e7 e8 e9 e10 e11 hw0 HG HB1 HW1 HR1 hb2;cases hs:T.sub p with
 |none=>rw[hs] at hpost;simp only at hpost;subst hpost;have HRES:Hid (u7 T o v p= .error 6):=(by show _=_;unfold u7;rw[hs]);have hq:Below w2.heap.size w2 (w2.alloc (.cells #[.int .u8 0,.string ⟨#[]⟩,.int .i64 0,.slice none 0 0] 25)):=bz_alloc (ai _ _) _;have hB3:=af HB2 hq;have hR3:=(hq.block _ (aK.1 HR2).1).trans HR2;clear hs hq HB2 HW2 HR2;go_upto_region 2 with fail;generalize w2.alloc (.cells #[.int .u8 0,.string ⟨#[]⟩,.int .i64 0,.slice none 0 0] 25)=W at hB3 hR3 ⊢;have HB3:=ab hB3;have HR3:=ab hR3;clear hB3 hR3;obtain⟨r0,r1,r2,r3,f0,f1,f2,f3⟩:=di HR3.out;go_wp2_with fail;obtain⟨a0,a1,a2,a3,hb9⟩:=CY (v0:=.int .u8 0) (v1:=.string ⟨#[]⟩) (v2:=.int .i64 0) (v3:=.slice none 0 0) HR3.out HB3.out (by omega);exact Lq (b:=w.heap.size+1) rfl rfl a0 a1 a2 a3 (Ce.err HRES.out hb9)
 |some u=>
  rw[hs] at hpost;obtain⟨k1,s1,y1,A1,n1,c1,rfl,hn1⟩:=hpost;have hq:Below w2.heap.size w2 (w2.alloc (.cells #[.int .u8 k1,.string s1,.int .i64 y1,.slice A1 n1 c1] 25)):=bz_alloc (ai _ _) _;have hgf:=heap_alloc_new w2 (.cells #[.int .u8 k1,.string s1,.int .i64 y1,.slice A1 n1 c1] 25);have hB3:=af HB2 hq;have hW3:=(hq.block _ (aK.1 HW2).1).trans HW2;have hR3:=(hq.block _ (aK.1 HR2).1).trans HR2;have hN3:=hn1.since.below hq;have HSUB:=ab hs;clear hs hq HB2 HW2 HR2 hn1;go_upto_region 2 with fail;generalize w2.alloc (.cells #[.int .u8 k1,.string s1,.int .i64 y1,.slice A1 n1 c1] 25)=W0 at hB3 hW3 hR3 hN3 hgf ⊢;have HB3:=ab hB3;have HW3:=ab hW3;have HR3:=ab hR3;obtain⟨b',of',o',rfl,ho',hao⟩:=(HO.out.below hB3).get (i:=0) (by omega);obtain rfl:o=o':=(by simpa using ho');obtain⟨Ao,co,o0,o1,o2,o3,hno⟩:=hao.cells;rw[Nat.zero_mul,Nat.add_zero] at o0 o1 o2 o3;have HSM:=ab (fun(W':World) (h:Below W0.heap.size W0 W')=>yV u o _ _ _ _ _ _ _ _ _ _ _ _ W' (hN3.below h) (hno.below h));obtain⟨r0,r1,r2,r3,_⟩:=di hgf;obtain⟨⟨e0,e1,e2,e3,e4,e5,e6,e7,e8,e9,e10,e11⟩,_⟩:=cr hW3;clear hB3 hW3 hR3 hN3 hgf ho' hao hno e0 e1 e2 e3 e4 e5 e7 e8 e9 e10 e11;go_upto_region 4 with fail;refine wp_region_noPanic ?_;refine wp_region_held_drew (S:=fun w'=>(w'.cell? ⟨w.heap.size,6,none⟩=some (.slice (some ⟨b',of',none⟩) 1 oc))/\
   (w'.cell? ⟨w2.heap.size,0,none⟩=some (.int .u8 k1)/\w'.cell? ⟨w2.heap.size,1,none⟩=some (.string s1)/\w'.cell? ⟨w2.heap.size,2,none⟩=some (.int .i64 y1)/\w'.cell? ⟨w2.heap.size,3,none⟩=some (.slice A1 n1 c1))/\
   (w'.cell? ⟨b',of',none⟩=some (.int .u8 o.kind)/\w'.cell? ⟨b',of'+1,none⟩=some (.string (sb o.text))/\w'.cell? ⟨b',of'+2,none⟩=some (.int .i64 o.num)/\w'.cell? ⟨b',of'+3,none⟩=some (.slice Ao o.kids.length co))) (by kernel_rfl) ⟨e6,⟨r0,r1,r2,r3⟩,⟨o0,o1,o2,o3⟩⟩ fun hH0=>?_
  refine ae 0 ?_;refine ae 1 ?_;refine ae 2 ?_;refine ae 3 ?_;refine ae 4 ?_;refine ae 5 ?_;refine aL 6 fun K hK=>?_;go_simp;refine(HSM.out _ (ua (ai _ _))).mono ?_;rintro en W ⟨rfl,hb5⟩;have hb6:Below W0.heap.size W0 W:=af (ua (ai _ _)) hb5;have HBW:=ab (af HB3.out hb6);have HWW:=ab ((hb6.block _ (aK.1 HW3.out).1).trans HW3.out);have HRW:=ab ((hb6.block _ (aK.1 HR3.out).1).trans HR3.out);go_wp2_with fail;refine hK.out _ _ ?_ (fun hH1=>?_)
  .exact⟨ac hb6 e6,⟨ac hb6 r0,ac hb6 r1,ac hb6 r2,ac hb6 r3⟩,⟨ac hb6 o0,ac hb6 o1,ac hb6 o2,ac hb6 o3⟩⟩
  clear hK K;refine aM ?_;refine ae 7 ?_;refine ae 8 ?_;refine wpAnyH_done (by kernel_rfl) ?_ _;refine NoPanic.normal ?_;clear hH0 hH1 hb5 hb6 e6 r0 r1 r2 r3 o0 o1 o2 o3 HSM HB3 HW3 HR3;cases hsm:u.same o with
  |true=>
   have HWAY:Hid (u7 T o v p=jj (ag.putAt v p T)):=(by show _=_;unfold u7;rw[HSUB.out];simp only;rw[if_pos hsm]);clear hsm;have HTN:Hid (EP 107 w.heap.size W _ _):=QF w.heap.size v nA nc W u (cr HWW.out).1.c7 (HK.out.below HBW.out) (aJ HV.out.1 (by omega));have HSZ2:Hid ((ag.putAt v p T).sz<=100000):=(by have h1:=Ju v T p;have h3:=HSZ.out;have h4:=HV.out.1;show _<=_;omega);have HSH2:Hid ((ag.putAt v p T).short 281474976710656):=Jt HV.out.2 T p HSH.out;obtain⟨⟨e0,e1,e2,e3,e4,e5,e6,e7,e8,e9,e10,e11⟩,_⟩:=cr HWW.out;have HWI:=ab (Io 107 w.heap.size M7 T _ _ x0 (.slice pA pn pc) x2 x3 x4 x5 (.slice (some ⟨b',of',none⟩) 1 oc) (.slice nA 1 nc) k s x A n c p pA pn pc W (aJ HSZ.out (by omega)) (HN.out.below HBW.out) (HP.out.below HBW.out) HSUB.out HTN.out);have hcf:=M7;go_wp2_with fail;refine HWI.out.mono ?_;rintro en w4 ⟨hb4,k4,s4,y4,A4,n4,c4,rfl,hn4⟩;have HB4:=ab (af HBW.out hb4);have HR4:=ab ((hb4.block _ (aK.1 HRW.out).1).trans HRW.out);have HLO:Hid (w.heap.size+2<=W.heap.size):=(by have:=(aK.1 HRW.out).1;show _<=_;omega);have HN4:=ab hn4;clear e0 e1 e2 e3 e4 e5 e6 e7 e8 e9 e10 e11 hb4 hn4 hcf HWI HTN HWW HRW;go_wp2_with fail;refine(Ll (ag.putAt v p T) k4 s4 y4 A4 n4 c4 W.heap.size w4 HN4.out HSH2.out HSZ2.out (HE.out.below HB4.out (ah _))).mono ?_;rintro en w5 ⟨hb5,hpost⟩;have HB5:=ab (af HB4.out hb5);have HR5:=ab ((hb5.block _ (aK.1 HR4.out).1).trans HR4.out);clear hb5 HB4 HR4 HN4;obtain⟨r0,r1,r2,r3,f0,f1,f2,f3⟩:=di HR5.out;cases hres:jj (ag.putAt v p T) with
   |error m=>rw[hres] at hpost;simp only at hpost;subst hpost;have HRES:=ab (HWAY.out.trans hres);clear hres;go_wp2_with fail;obtain⟨a0,a1,a2,a3,hb9⟩:=CY (v0:=.int .u8 0) (v1:=.string ⟨#[]⟩) (v2:=.int .i64 0) (v3:=.slice none 0 0) HR5.out HB5.out (by omega);exact Lq (b:=w.heap.size+1) rfl rfl a0 a1 a2 a3 (Ce.err HRES.out hb9)
   |ok t'=>rw[hres] at hpost;obtain⟨k6,s6,y6,A6,n6,c6,rfl,hn6⟩:=hpost;have HRES:=ab (HWAY.out.trans hres);have HN6:=ab (hn6.lowS HLO.out);clear hres hn6;go_wp2_with fail;obtain⟨a0,a1,a2,a3,hb9⟩:=CY (v0:=.int .u8 k6) (v1:=.string s6) (v2:=.int .i64 y6) (v3:=.slice A6 n6 c6) HR5.out HB5.out (by omega);exact Lq (b:=w.heap.size+1) rfl rfl a0 a1 a2 a3 (Ce.ok HRES.out hb9 HN6.out.sincePut4)
  |false=>have HRES:Hid (u7 T o v p= .error 121):=(by show _=_;unfold u7;rw[HSUB.out];simp only;rw[if_neg (by rw[hsm];simp)]);clear hsm;obtain⟨r0,r1,r2,r3,f0,f1,f2,f3⟩:=di HRW.out;go_wp2_with fail;obtain⟨a0,a1,a2,a3,hb9⟩:=CY (v0:=.int .u8 0) (v1:=.string ⟨#[]⟩) (v2:=.int .i64 0) (v3:=.slice none 0 0) HRW.out HBW.out (by omega);exact Lq (b:=w.heap.size+1) rfl rfl a0 a1 a2 a3 (Ce.err HRES.out hb9)
def ek(t:ag)(e:aj):Except Nat ag:=
 if e.kind=1 then Ca t e.path e.frm e.to_
 else if e.kind=2 then BX t (e.news.headD default) e.path e.at_.toNat
 else if e.kind=3 then Hb t (e.olds.headD default) e.path e.at_.toNat
 else if e.kind=4 then u7 t (e.olds.headD default) (e.news.headD default) e.path
 else EL t (e.olds.headD default) e.path e.at_.toNat e.far.toNat
theorem rv{l:List ag}(h:bR l=true):∃t,l=[t]/\pi t=true:=by
 unfold bR at h;split at h
 .exact⟨_,rfl,h⟩
 .cases h
theorem KK{e:aj}(h:ap e=true):aH e.at_=true/\aH e.far=true/\(∀z∈e.path,aH z=true)/\(aG e.kind=true->∃o,e.olds=[o]/\pi o=true)/\(aF e.kind=true->∃v,e.news=[v]/\pi v=true):=by
 unfold ap at h;split at h
 .cases h
 rename_i h1;split at h
 .cases h
 split at h
 .cases h
 split at h
 .cases h
 rename_i h4;simp only[Bool.or_eq_true,Bool.not_eq_true',not_or,Bool.not_eq_false] at h1;simp only[Bool.or_eq_true,bne_iff_ne,ne_eq,not_or,Decidable.not_not] at h4;refine⟨h1.1.2,h1.2,fun z hz=>List.all_eq_true.1 h1.1.1 z hz,fun ho=>rv (by rw[<-h4.1.1.1];exact ho),fun hn=>rv (by rw[<-h4.1.1.2];exact hn)⟩
theorem Kg{z:Int}(h:aH z=true):∃m:Nat,z=m/\m<=1073741824:=by simp only[aH,Bool.and_eq_true,decide_eq_true_eq] at h;exact⟨z.toNat,(Int.toNat_of_nonneg h.1).symm,by omega⟩
structure aj.mid (e:aj):Prop where
 to_:e.to_.length<=281474976710656
 olds:ao e.olds<=20000/\ex 281474976710656 e.olds
 news:ao e.news<=20000/\ex 281474976710656 e.news
def JM(t:ag):Prop:=t.sz<=20000/\t.short 281474976710656
theorem Lr{t:ag}:jj t≠ .error 0:=by
 unfold jj;split
 .intro h;cases h
 .split
  .rename_i h;intro e;injection e with e;exact h e
  .intro h;cases h
theorem RX{e:aj}(hm:e.mid):EQ ek JM e:=by
 intro T W k pA pn pc i j f t oA on oc nA nn nc k' s x A n c hP hr hE hed hN;obtain⟨ps,os,ns,rfl,hp,ho,hn⟩:=hed;obtain⟨r1,r2,_,r3,r4⟩:=KK hr;obtain⟨at_,hat,hatm⟩:=Kg r1;obtain⟨far,hfar,hfarm⟩:=Kg r2;have hat:i=at_:=hat;have hfar:j=far:=hfar;subst hat hfar;have hk5:=Iz hr;have hk5:k=1∨k=2∨k=3∨k=4∨k=5:=hk5;have hol:=hm.olds;have hnw:=hm.news;have hpn:=hp.1;subst hpn;have hsz:T.sz<=100000:=aJ hP.1 (by omega);rcases hk5 with rfl|rfl|rfl|rfl|rfl
 .exact Ii T _ _ _ _ _ f t ps pA pc k' s x A n c W hN hP.2 hsz hE hp hm.to_
 .obtain⟨v,e1,_⟩:=r4 rfl;have e1:ns=[v]:=e1;subst e1;have hn1:nn=1:=hn.1;subst hn1;exact mF T _ _ _ _ _ at_ v nA nc ps pA _ pc k' s x A n c W hN hP.2 hP.1 hE hp hn (by simpa[ao] using hnw.1) hnw.2.1
 .obtain⟨o,e1,_⟩:=r3 rfl;have e1:os=[o]:=e1;subst e1;have hn1:on=1:=ho.1;subst hn1;exact yT T _ _ _ _ _ at_ hatm o oA oc ps pA _ pc k' s x A n c W hN hP.2 hP.1 hE hp ho (by simpa[ao] using hol.1) hol.2.1
 .obtain⟨o,e1,_⟩:=r3 rfl;obtain⟨v,e2,_⟩:=r4 rfl;have e1:os=[o]:=e1;have e2:ns=[v]:=e2;subst e1 e2;have hn1:on=1:=ho.1;have hn2:nn=1:=hn.1;subst hn1 hn2;exact QE T _ _ _ _ _ o oA oc v nA nc ps pA _ pc k' s x A n c W hN hP.2 hP.1 hE hp ho hn (by simpa[ao] using hnw.1) hnw.2.1
 .obtain⟨o,e1,_⟩:=r3 rfl;have e1:os=[o]:=e1;subst e1;have hn1:on=1:=ho.1;subst hn1;exact BL T _ _ _ _ at_ far hatm hfarm o oA oc ps pA _ pc k' s x A n c W hN hP.2 hP.1 hE hp ho (by simpa[ao] using hol.1) hol.2.1
end Go.Proofs.YtfipahjodfminaaGreatDoor
