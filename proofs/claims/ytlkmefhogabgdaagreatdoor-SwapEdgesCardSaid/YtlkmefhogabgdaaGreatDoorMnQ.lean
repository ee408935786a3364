/- Part 17 of the proof. -/
import Derived.Test.YtlkmefhogabgdaaGreatDoorMnO
namespace Go.Proofs.YtlkmefhogabgdaaGreatDoor
open Go.RowKit
set_option linter.all false
set_option maxHeartbeats 40000000
set_option maxRecDepth 100000
theorem cS.get{w:World}{ss:List ar}{A:Option Addr}{n c:Nat}(h:cS w ss A n c){i:Nat}(hi:i<n):∃b o s,A=some ⟨b,o,none⟩/\ss[i]? =some s/\w.cell? ⟨b,o+i,none⟩=some (.string (sb s)):=by
 obtain⟨h1,h2,h3,h4⟩:=h;have hi':i<ss.length:=(by omega);rcases h4 with e|⟨b,o,e,h5⟩
 .subst e;simp at hi'
 .exact⟨b,o,ss[i],e,br hi',h5 i _ (br hi')⟩
theorem cS.drewN{w:World}{ss:List ar}{A:Option Addr}{n c:Nat}(h:cS w ss A n c)(d:Nat):cS (w.drewN d) ss A n c:=h.keep fun _ _ h=>by rw[World.cell?_drewN];exact h
theorem ul(ss:List ar)(x:ByteArray):Lib.containsS (ss.map sb) x=ss.contains (bl x):=by
 rw[Bool.eq_iff_iff,Lib.containsS_iff];simp only[List.contains_eq_mem,decide_eq_true_eq,List.mem_map];constructor
 .rintro⟨s,hs,rfl⟩;exact hs
 .intro h;exact⟨bl x,h,ow x⟩
theorem xZ(ss:List ar)(A:Option Addr)(n c:Nat)(x:ByteArray)(w:World)(h:cS w ss A n c):Calls Tryz.prog 116 #[.slice A n c,.string x] w fun e w'=>e= .returned (.bool (ss.contains (bl x)))/\w'=w:=by
 obtain⟨h1,h2,h3,h4⟩:=h;by_cases h0:ss=[]
 .subst h0;have:n=0:=h1;subst this;refine(Tryz.slices_Contains_string_empty A c x w).mono ?_;rintro e w1 ⟨rfl,rfl⟩;exact⟨rfl,rfl⟩
 .rcases h4 with e|⟨b,o,rfl,h5⟩
  .exact absurd e h0
  .refine(Tryz.slices_Contains_string b o n c (ss.map sb) x w (by simp;omega) (by unfold maxLen at h3;omega) (fun j hj=>?_)).mono ?_
   .rw[ny] at hj;rw[h5 j _ (br hj)];simp[List.getD,hj]
   .rintro e w1 ⟨rfl,rfl⟩;refine⟨?_,rfl⟩;rw[List.take_of_length_le (by simp;omega),ul]
theorem rj(ss:List ar)(A:Option Addr)(n c b:Nat)(x:ByteArray)(w:World)(hc:w.cell? ⟨b,0,none⟩=some (.slice A n c))(h:cS w ss A n c):Calls Tryz.prog 130 #[.string x,.pointer (some ⟨b,0,none⟩)] w fun e w'=>e= .returned (.bool (ss.contains (bl x)))/\w'=w:=by
 have H:=aa h;clear h
 go_in
 go_wp2_with fail;refine(xZ ss _ _ _ _ _ H.out).mono ?_;rintro e w1 ⟨rfl,rfl⟩;go_wp2;go_ret;exact⟨dg (by simp),rfl⟩
theorem uB(args:Array Value)(w:World):(callFunc 130 args).run Tryz.prog w= .ok (.enter 130 args) w:=eH Tryz.func130 (by kernel_rfl) (by kernel_rfl) args w
theorem tz{ns os:List ar}{j:Nat}{s:ar}(h:bX ns os=bX ns (os.drop j))(hx:os[j]? =some s):bX ns os=(ns.contains s || bX ns (os.drop (j+1))):=by have h1:j<os.length:=(bs.1 hx).1;rw[h,List.drop_eq_getElem_cons h1];rw[br h1] at hx;injection hx with hx;rw[hx];rfl
def lf(b:Bool)(w:World)(e:Ending)(w':World):Prop:=w'=w/\∃i:Int,e= .returned (.int .i64 i)/\(0<=i↔b=true)
theorem lf.intro{b:Bool}{w:World}{i:Int}(h:0<=i↔b=true):lf b w (.returned (.int .i64 i)) w:=⟨rfl,i,rfl,h⟩
theorem yp(ns os:List ar)(nA:Option Addr)(nn nc:Nat)(b:Nat)(A:Option Addr)(n c:Nat)(w:World)(hc:w.cell? ⟨b,0,none⟩=some (.slice nA nn nc))(hN:cS w ns nA nn nc)(hO:cS w os A n c):Calls Tryz.prog 182 #[.slice A n c,.func (.func 130) #[] #[.pointer (some ⟨b,0,none⟩)]] w (lf (bX ns os) w):=by
 have HN:=aa hN;have HO:=aa hO;have HC:=aa hc;have hnn:n<=9223372036854775807:=(by have h1:=hO.2.1;have h2:=hO.2.2.1;unfold maxLen at h2;omega);have HL:Hid (n=os.length):=hO.1;have hcf:=uB;clear hN hO hc
 go_in
 go_wp2_with fail;go_loopw [8] (fun i wr=>∃j:Nat,j<=n/\i= .int .i64 j/\w=wr/\Hid (bX ns os=bX ns (os.drop j))) (fun i _=>n - (intOf i).toNat);case atStart=>exact⟨0,aE _,rfl,rfl,rfl⟩
 case round=>
  obtain⟨j,hj,rfl,rfl,HI⟩:=hrel;by_cases hlt:j<n
  .obtain⟨b',o,s,rfl,hs,q0⟩:=HO.out.get hlt;have HST:=aa (tz HI.out hs);clear hs;cases hn:ns.contains s with
   |false=>
    have HNN:=aa hn;have HN2:Hid (bX ns os=bX ns (os.drop (j+1))):=(by show _=_;rw[HST.out,hn];rfl);clear hn;go_wp2_with fail;refine(rj ns _ _ _ b (sb s) _ HC.out HN.out).mono ?_;rintro e w3 ⟨rfl,rfl⟩;rw[l9,HNN.out];go_wp2;go_roundw;case rel=>exact⟨j+1,by omega,by go_num,trivial,HN2⟩
    case measure=>simp[intOf];omega
   |true=>have HNN:=aa hn;have HV:Hid (bX ns os=true):=(by show _=_;rw[HST.out,hn];rfl);clear hn;go_wp2_with fail;refine(rj ns _ _ _ b (sb s) _ HC.out HN.out).mono ?_;rintro e w3 ⟨rfl,rfl⟩;rw[l9,HNN.out];go_wp2;go_ret;exact lf.intro (by rw[HV.out];simp)
  .have HV:Hid (bX ns os=false):=by show _=_;have e1:=HL.out;rw[HI.out,List.drop_eq_nil_of_le (by omega)];rfl
   go_wp2_with fail;go_ret;exact lf.intro (by rw[HV.out];simp)
theorem xD(ns os:List ar)(nA:Option Addr)(nn nc:Nat)(b:Nat)(A:Option Addr)(n c:Nat)(w:World)(hc:w.cell? ⟨b,0,none⟩=some (.slice nA nn nc))(hN:cS w ns nA nn nc)(hO:cS w os A n c):Calls Tryz.prog 129 #[.slice A n c,.func (.func 130) #[] #[.pointer (some ⟨b,0,none⟩)]] w fun e w'=>e= .returned (.bool (bX ns os))/\w'=w:=by
 have HN:=aa hN;have HO:=aa hO;have HC:=aa hc;clear hN hO hc
 go_in
 go_wp2_with fail;refine(yp ns os _ _ _ b _ _ _ _ HC.out HN.out HO.out).mono ?_;rintro e w1 ⟨rfl,i,rfl,hi⟩;have HI:=aa hi;clear hi;go_wp2;go_ret;exact⟨dg (by rw[Bool.eq_iff_iff,<-HI.out];simp),rfl⟩
theorem oH(ns os:List ar)(nA:Option Addr)(nn nc:Nat)(A:Option Addr)(n c:Nat)(w:World)(hN:cS w ns nA nn nc)(hO:cS w os A n c):Calls Tryz.prog 58 #[.slice nA nn nc,.slice A n c] w (ak (bX ns os) w):=by
 have hb0:Below w.heap.size w (w.alloc (.cells #[.slice nA nn nc] 52)):=(ai _ _).alloc (ah _) _;have HB0:=aa hb0;have HN:=aa (hN.below hb0);have HO:=aa (hO.below hb0);have HC:Hid ((w.alloc (.cells #[.slice nA nn nc] 52)).cell? ⟨w.heap.size,0,none⟩=some (.slice nA nn nc)):=(cell_of_row _ _ 0 _ _ (0,0) (heap_alloc_new _ _)).trans rfl;clear hb0 hN hO
 go_in
 go_wp2_with fail;refine(xD ns os _ _ _ w.heap.size _ _ _ _ HC.out HN.out HO.out).mono ?_;rintro e w1 ⟨rfl,rfl⟩;go_wp2;go_ret;exact ak.intro rfl HB0.out
theorem pH{ns ns' os:List ar}(h:∀s,s∈ns'↔s∈ns):bX ns' os=bX ns os:=by
 unfold bX
 congr 1
 funext s;rw[Bool.eq_iff_iff];simp[h s]
def SideArg(w:World)(e:aj)(k:Nat)(pA:Option Addr)(pn pc:Nat)(i j:Int)(f t:ByteArray)(oA:Option Addr)(on oc:Nat)(nA:Option Addr)(nn nc:Nat)(mA:Option Addr)(mn mc:Nat)(bA:Option Addr)(bn bc:Nat):Prop:=
 ay w e k pA pn pc i j f t oA on oc nA nn nc/\cS w e.binds bA bn bc/\∃ns:List ar,(∀s,s∈ns↔s∈e.names)/\cS w ns mA mn mc
theorem SideArg.below{w w':World}(hb:Below w.heap.size w w'){e:aj}{k:Nat}{pA:Option Addr}{pn pc:Nat}{i j:Int}{f t:ByteArray}{oA:Option Addr}{on oc:Nat}{nA:Option Addr}{nn nc:Nat}{mA:Option Addr}{mn mc:Nat}{bA:Option Addr}{bn bc:Nat}(h:SideArg w e k pA pn pc i j f t oA on oc nA nn nc mA mn mc bA bn bc):SideArg w' e k pA pn pc i j f t oA on oc nA nn nc mA mn mc bA bn bc:=by obtain⟨h1,h2,ns,h3,h4⟩:=h;exact⟨h1.below hb,h2.below hb,ns,h3,h4.below hb⟩
theorem xq{w:World}{g:Nat}{t:ByteArray}{T:TypeId}(h:w.heap[g]? =some (.cells #[.string t] T (0,0))):cS w [bl t] (some ⟨g,0,none⟩) 1 1:=
 ⟨rfl,ah _,by unfold maxLen;omega,.inr ⟨g,0,rfl,fun j s hs=>by
  have hc:=cell_of_row w g j _ T (0,0) h;rw[Nat.zero_add,hc];match j,hs with
  |0,hs=>simp at hs;subst hs;rfl
  |j+1,hs=>simp at hs⟩⟩
theorem nV{w w':World}{x0 x1 x2 x3 x4 x5 x6 x7 x8 x9 x10 x11 y0 y1 y2 y3 y4 y5 y6 y7 y8 y9 y10 y11:Value}{T U:TypeId}{w1:World}(e:w1=(w.alloc (.cells #[x0,x1,x2,x3,x4,x5,x6,x7,x8,x9,x10,x11] T)).alloc (.cells #[y0,y1,y2,y3,y4,y5,y6,y7,y8,y9,y10,y11] U))(hb:Below w1.heap.size w1 w'):jn w' w.heap.size x0 x1 x2 x3 x4 x5 x6 x7 x8 x9 x10 x11/\jn w' (w.heap.size+1) y0 y1 y2 y3 y4 y5 y6 y7 y8 y9 y10 y11/\Below w.heap.size w w':=by subst e;refine⟨(cr ((hb.block _ (by simp;omega)).trans ((heap_alloc_old _ _ (by simp)).trans (heap_alloc_new _ _)))).1,(cr ((hb.block _ (by simp)).trans (aQ (by simp)))).1,?_⟩;exact(((ai _ w).alloc (ah _) _).alloc (by simp) _).trans (hb.mono (by simp;omega))
theorem yD(ps:List Int)(os ns:List ag)(pA:Option Addr)(pn pc:Nat)(i j:Int)(f t:ByteArray)(oA:Option Addr)(on oc:Nat)(nA:Option Addr)(nn nc:Nat)(mA:Option Addr)(mn mc:Nat)(bA:Option Addr)(bn bc:Nat)(p1 p2:Bool)(ps':List Int)(os' ns':List ag)(pA':Option Addr)(pn' pc':Nat)(i' j':Int)(f' t':ByteArray)(oA':Option Addr)(on' oc':Nat)(nA':Option Addr)(nn' nc':Nat)(mA':Option Addr)(mn' mc':Nat)(bA':Option Addr)(bn' bc':Nat)(p1' p2':Bool)(w:World)(h1:aA w ps pA pn pc)(h2:aA w ps' pA' pn' pc'):Calls Tryz.prog 24 #[.agg #[.int .u8 1,.slice pA pn pc,.int .i64 i,.int .i64 j,.string f,.string t,.slice oA on oc,.slice nA nn nc,.slice mA mn mc,.slice bA bn bc,.bool p1,.bool p2],.agg #[.int .u8 1,.slice pA' pn' pc',.int .i64 i',.int .i64 j',.string f',.string t',.slice oA' on' oc',.slice nA' nn' nc',.slice mA' mn' mc',.slice bA' bn' bc',.bool p1',.bool p2']] w (ak (cK ⟨1,ps,i,j,bl f,bl t,os,ns⟩ ⟨1,ps',i',j',bl f',bl t',os',ns'⟩) w):=by
 have H1:=aa h1;have H2:=aa h2;clear h1 h2;have hb2:Below w.heap.size w ((w.alloc (.cells #[.int .u8 1,.slice pA pn pc,.int .i64 i,.int .i64 j,.string f,.string t,.slice oA on oc,.slice nA nn nc,.slice mA mn mc,.slice bA bn bc,.bool p1,.bool p2] 54)).alloc (.cells #[.int .u8 1,.slice pA' pn' pc',.int .i64 i',.int .i64 j',.string f',.string t',.slice oA' on' oc',.slice nA' nn' nc',.slice mA' mn' mc',.slice bA' bn' bc',.bool p1',.bool p2'] 54)):=((ai _ w).alloc (ah _) _).alloc (by simp) _;have HB2:=aa hb2;clear hb2;cases hE:(ps == ps') with
 |true=>
  have HE:=aa hE;have HV:Hid (cK ⟨1,ps,i,j,bl f,bl t,os,ns⟩ ⟨1,ps',i',j',bl f',bl t',os',ns'⟩=true):=(by show _=_;unfold cK;rw[if_pos ⟨rfl,rfl⟩];simp only[hE,Bool.true_or]);clear hE
  go_in
  go_wp2_with fail
  go_quiet (fail)
  go_wp2_with fail;refine(lz ps ps' _ _ _ _ _ _ _ ((H1.out.below HB2.out).drewN _) ((H2.out.below HB2.out).drewN _)).mono ?_;rintro en w1 ⟨rfl,q1,hw1⟩;rw[HE.out];have hb1:Below ((w.alloc (.cells #[.int .u8 1,.slice pA pn pc,.int .i64 i,.int .i64 j,.string f,.string t,.slice oA on oc,.slice nA nn nc,.slice mA mn mc,.slice bA bn bc,.bool p1,.bool p2] 54)).alloc (.cells #[.int .u8 1,.slice pA' pn' pc',.int .i64 i',.int .i64 j',.string f',.string t',.slice oA' on' oc',.slice nA' nn' nc',.slice mA' mn' mc',.slice bA' bn' bc',.bool p1',.bool p2'] 54)).heap.size ((w.alloc (.cells #[.int .u8 1,.slice pA pn pc,.int .i64 i,.int .i64 j,.string f,.string t,.slice oA on oc,.slice nA nn nc,.slice mA mn mc,.slice bA bn bc,.bool p1,.bool p2] 54)).alloc (.cells #[.int .u8 1,.slice pA' pn' pc',.int .i64 i',.int .i64 j',.string f',.string t',.slice oA' on' oc',.slice nA' nn' nc',.slice mA' mn' mc',.slice bA' bn' bc',.bool p1',.bool p2'] 54)) w1:=(by rw[hw1];exact ax (ax (ai _ _) _) _);have HB1:=aa (HB2.out.trans (hb1.mono (by simp;omega)));obtain⟨BX,BY,_⟩:=nV rfl hb1;obtain⟨c0,c1,c2,c3,c4,c5,c6,c7,c8,c9,c10,c11⟩:=BX;obtain⟨d0,d1,d2,d3,d4,d5,d6,d7,d8,d9,d10,d11⟩:=BY;have hl1:w.heap.size+1<w1.heap.size:=(by have:=hb1.size;simp at this;omega);have hz5:=fun o=>(World.cell?_alloc_lt w1 o ⟨w.heap.size,5,none⟩ (by show w.heap.size<_;omega)).trans c5;clear hb1 hw1;go_wp2_with fail;go_ret;exact ak.intro HV.out.symm HB1.out
 |false=>
  have HE:=aa hE;have HV:Hid (cK ⟨1,ps,i,j,bl f,bl t,os,ns⟩ ⟨1,ps',i',j',bl f',bl t',os',ns'⟩=(bX [bl f',bl t'] [bl t] || bl t' == bl f)):=(by show _=_;unfold cK;rw[if_pos ⟨rfl,rfl⟩];simp only[hE,Bool.false_or]);clear hE
  go_in
  go_wp2_with fail
  go_quiet (fail)
  go_wp2_with fail;refine(lz ps ps' _ _ _ _ _ _ _ ((H1.out.below HB2.out).drewN _) ((H2.out.below HB2.out).drewN _)).mono ?_;rintro en w1 ⟨rfl,q1,hw1⟩;rw[HE.out];have hb1:Below ((w.alloc (.cells #[.int .u8 1,.slice pA pn pc,.int .i64 i,.int .i64 j,.string f,.string t,.slice oA on oc,.slice nA nn nc,.slice mA mn mc,.slice bA bn bc,.bool p1,.bool p2] 54)).alloc (.cells #[.int .u8 1,.slice pA' pn' pc',.int .i64 i',.int .i64 j',.string f',.string t',.slice oA' on' oc',.slice nA' nn' nc',.slice mA' mn' mc',.slice bA' bn' bc',.bool p1',.bool p2'] 54)).heap.size ((w.alloc (.cells #[.int .u8 1,.slice pA pn pc,.int .i64 i,.int .i64 j,.string f,.string t,.slice oA on oc,.slice nA nn nc,.slice mA mn mc,.slice bA bn bc,.bool p1,.bool p2] 54)).alloc (.cells #[.int .u8 1,.slice pA' pn' pc',.int .i64 i',.int .i64 j',.string f',.string t',.slice oA' on' oc',.slice nA' nn' nc',.slice mA' mn' mc',.slice bA' bn' bc',.bool p1',.bool p2'] 54)) w1:=(by rw[hw1];exact ax (ax (ai _ _) _) _);have HB1:=aa (HB2.out.trans (hb1.mono (by simp;omega)));obtain⟨BX,BY,_⟩:=nV rfl hb1;obtain⟨c0,c1,c2,c3,c4,c5,c6,c7,c8,c9,c10,c11⟩:=BX;obtain⟨d0,d1,d2,d3,d4,d5,d6,d7,d8,d9,d10,d11⟩:=BY;have hl1:w.heap.size+1<w1.heap.size:=(by have:=hb1.size;simp at this;omega);have hz5:=fun o=>(World.cell?_alloc_lt w1 o ⟨w.heap.size,5,none⟩ (by show w.heap.size<_;omega)).trans c5;clear hb1 hw1;go_wp2_with fail;have hba:Below w1.heap.size w1 ((w1.alloc (.cells #[.string f',.string t'] 9)).alloc (.cells #[.string t] 9)):=((ai _ _).alloc (ah _) _).alloc (by simp) _;refine(oH [bl f',bl t'] [bl t] _ _ _ _ _ _ _ (sJ ((heap_alloc_old _ _ (by simp)).trans (heap_alloc_new _ _))) (xq (aQ (by simp)))).mono ?_;rintro en w3 ⟨rfl,hb3⟩;have HBA:=aa (af hba hb3);have HB3:=aa (af HB1.out HBA.out);cases ha:bX [bl f',bl t'] [bl t] with
  |true=>have HV2:Hid (cK ⟨1,ps,i,j,bl f,bl t,os,ns⟩ ⟨1,ps',i',j',bl f',bl t',os',ns'⟩=true):=(by show _=_;rw[HV.out,ha,Bool.true_or]);clear hba hb3 ha;go_wp2_with fail;go_ret;exact ak.intro HV2.out.symm HB3.out
  |false=>have HV2:Hid (cK ⟨1,ps,i,j,bl f,bl t,os,ns⟩ ⟨1,ps',i',j',bl f',bl t',os',ns'⟩=(bl t' == bl f)):=(by show _=_;rw[HV.out,ha,Bool.false_or]);have e4:=ac HBA.out c4;have e5:=ac HBA.out d5;clear hba hb3 ha;go_wp2_with fail;go_ret;exact⟨dg (by rw[HV2.out];simp[bG]),HB3.out⟩
theorem yE(e:aj)(k:Nat)(pA:Option Addr)(pn pc:Nat)(i j:Int)(f t:ByteArray)(oA:Option Addr)(on oc:Nat)(nA:Option Addr)(nn nc:Nat)(mA:Option Addr)(mn mc:Nat)(bA:Option Addr)(bn bc:Nat)(e':aj)(k':Nat)(pA':Option Addr)(pn' pc':Nat)(i' j':Int)(f' t':ByteArray)(oA':Option Addr)(on' oc':Nat)(nA':Option Addr)(nn' nc':Nat)(mA':Option Addr)(mn' mc':Nat)(bA':Option Addr)(bn' bc':Nat)(w:World)(h1:SideArg w e k pA pn pc i j f t oA on oc nA nn nc mA mn mc bA bn bc)(h2:SideArg w e' k' pA' pn' pc' i' j' f' t' oA' on' oc' nA' nn' nc' mA' mn' mc' bA' bn' bc')(hk:¬(k=1/\k'=1)):Calls Tryz.prog 24 #[.agg #[.int .u8 k,.slice pA pn pc,.int .i64 i,.int .i64 j,.string f,.string t,.slice oA on oc,.slice nA nn nc,.slice mA mn mc,.slice bA bn bc,.bool e.params,.bool e.calls],.agg #[.int .u8 k',.slice pA' pn' pc',.int .i64 i',.int .i64 j',.string f',.string t',.slice oA' on' oc',.slice nA' nn' nc',.slice mA' mn' mc',.slice bA' bn' bc',.bool e'.params,.bool e'.calls]] w (ak (cK e e') w):=by
 have hb2:Below w.heap.size w ((w.alloc (.cells #[.int .u8 k,.slice pA pn pc,.int .i64 i,.int .i64 j,.string f,.string t,.slice oA on oc,.slice nA nn nc,.slice mA mn mc,.slice bA bn bc,.bool e.params,.bool e.calls] 54)).alloc (.cells #[.int .u8 k',.slice pA' pn' pc',.int .i64 i',.int .i64 j',.string f',.string t',.slice oA' on' oc',.slice nA' nn' nc',.slice mA' mn' mc',.slice bA' bn' bc',.bool e'.params,.bool e'.calls] 54)):=((ai _ w).alloc (ah _) _).alloc (by simp) _;have HB2:=aa hb2;obtain⟨g1,g2,ns,g3,g4⟩:=h1.below hb2;obtain⟨g1',g2',ns',g3',g4'⟩:=h2.below hb2;have ek:e.kind=k:=(by obtain⟨ps,os,ns,rfl,_⟩:=g1;rfl);have ek':e'.kind=k':=(by obtain⟨ps,os,ns,rfl,_⟩:=g1';rfl);have HV:Hid (cK e e'=(bX ns' e.binds || bX ns e'.binds || (!(k == 1) && !(k' == 1) && (e.params && e'.calls || e'.params && e.calls)))):=by show _=_;unfold cK;rw[if_neg (by rw[ek,ek'];exact hk),pH g3,pH g3',ek,ek'];cases bX e'.names e.binds<;>cases bX e.names e'.binds<;>simp[bne]
 have HN:=aa g4;have HN':=aa g4';have HBD:=aa g2;have HBD':=aa g2';clear hb2 g1 g2 g3 g4 g1' g2' g3' g4' ek ek' h1 h2;generalize e.params=pp at HV HB2 HN HN' HBD HBD' ⊢;generalize e.calls=pq at HV HB2 HN HN' HBD HBD' ⊢;generalize e'.params=qp at HV HB2 HN HN' HBD HBD' ⊢;generalize e'.calls=qq at HV HB2 HN HN' HBD HBD' ⊢;obtain⟨b1,b2,q1,q2,q3,q4⟩:∃b1 b2:Bool,((k:Int) == 1)=b1/\((k':Int) == 1)=b2/\(k == 1)=b1/\(k' == 1)=b2:=
  ⟨_,_,rfl,rfl,by rw[Bool.eq_iff_iff];simp;omega,by rw[Bool.eq_iff_iff];simp;omega⟩
 have hbb:(b1 && b2)=false:=by rw[<-q3,<-q4,<-Bool.not_eq_true,Bool.and_eq_true,beq_iff_eq,beq_iff_eq];exact hk
 rw[q3,q4] at HV;clear q3 q4 hk;obtain⟨rfl,rfl⟩|⟨rfl,rfl⟩|⟨rfl,rfl⟩:(b1=true/\b2=false)∨(b1=false/\b2=true)∨(b1=false/\b2=false):=by cases b1<;>cases b2<;>simp at hbb ⊢
 all_goals
  clear hbb
  go_in
  go_wp2_with fail
  go_quiet (fail)
  go_wp2_with fail;refine(oH ns' e.binds _ _ _ _ _ _ _ (HN'.out.drewN _) (HBD.out.drewN _)).mono ?_;rintro en w1 ⟨rfl,hb1'⟩;have hb1:Below ((w.alloc (.cells #[.int .u8 k,.slice pA pn pc,.int .i64 i,.int .i64 j,.string f,.string t,.slice oA on oc,.slice nA nn nc,.slice mA mn mc,.slice bA bn bc,.bool pp,.bool pq] 54)).alloc (.cells #[.int .u8 k',.slice pA' pn' pc',.int .i64 i',.int .i64 j',.string f',.string t',.slice oA' on' oc',.slice nA' nn' nc',.slice mA' mn' mc',.slice bA' bn' bc',.bool qp,.bool qq] 54)).heap.size ((w.alloc (.cells #[.int .u8 k,.slice pA pn pc,.int .i64 i,.int .i64 j,.string f,.string t,.slice oA on oc,.slice nA nn nc,.slice mA mn mc,.slice bA bn bc,.bool pp,.bool pq] 54)).alloc (.cells #[.int .u8 k',.slice pA' pn' pc',.int .i64 i',.int .i64 j',.string f',.string t',.slice oA' on' oc',.slice nA' nn' nc',.slice mA' mn' mc',.slice bA' bn' bc',.bool qp,.bool qq] 54)) w1:=af (ax (ai _ _) _) hb1';have HB1:=aa (HB2.out.trans (hb1.mono (by simp;omega)));have HNN:=aa (HN.out.below hb1);have HBB:=aa (HBD'.out.below hb1);obtain⟨BX,BY,_⟩:=nV rfl hb1;obtain⟨c0,c1,c2,c3,c4,c5,c6,c7,c8,c9,c10,c11⟩:=BX;obtain⟨d0,d1,d2,d3,d4,d5,d6,d7,d8,d9,d10,d11⟩:=BY;clear hb1 hb1';cases ha:bX ns' e.binds with
  |true=>have HV2:Hid (cK e e'=true):=(by show _=_;rw[HV.out,ha,Bool.true_or,Bool.true_or]);clear ha;go_wp2_with fail;go_ret;exact ak.intro HV2.out.symm HB1.out
  |false=>
   have HV2:=HV;rw[ha,Bool.false_or] at HV2;clear ha;go_wp2_with fail;refine(oH ns e'.binds _ _ _ _ _ _ _ HNN.out HBB.out).mono ?_;rintro en w2 ⟨rfl,hb2⟩;have HB3:=aa (af HB1.out hb2);replace c10:=ac hb2 c10;replace c11:=ac hb2 c11;replace d10:=ac hb2 d10;replace d11:=ac hb2 d11;clear hb2;cases ha:bX ns e'.binds with
   |true=>have HV3:Hid (cK e e'=true):=(by show _=_;rw[HV2.out,ha,Bool.true_or]);clear ha;go_wp2_with fail;go_ret;exact ak.intro HV3.out.symm HB3.out
   |false=>
    have HV3:=HV2;rw[ha,Bool.false_or] at HV3;clear ha;cases pp<;>cases pq<;>cases qp<;>cases qq
    all_goals
     go_wp2_with fail;go_ret;exact⟨dg (by rw[HV3.out];rfl),HB3.out⟩
theorem lB(e:aj)(k:Nat)(pA:Option Addr)(pn pc:Nat)(i j:Int)(f t:ByteArray)(oA:Option Addr)(on oc:Nat)(nA:Option Addr)(nn nc:Nat)(mA:Option Addr)(mn mc:Nat)(bA:Option Addr)(bn bc:Nat)(e':aj)(k':Nat)(pA':Option Addr)(pn' pc':Nat)(i' j':Int)(f' t':ByteArray)(oA':Option Addr)(on' oc':Nat)(nA':Option Addr)(nn' nc':Nat)(mA':Option Addr)(mn' mc':Nat)(bA':Option Addr)(bn' bc':Nat)(w:World)(h1:SideArg w e k pA pn pc i j f t oA on oc nA nn nc mA mn mc bA bn bc)(h2:SideArg w e' k' pA' pn' pc' i' j' f' t' oA' on' oc' nA' nn' nc' mA' mn' mc' bA' bn' bc'):Calls Tryz.prog 24 #[.agg #[.int .u8 k,.slice pA pn pc,.int .i64 i,.int .i64 j,.string f,.string t,.slice oA on oc,.slice nA nn nc,.slice mA mn mc,.slice bA bn bc,.bool e.params,.bool e.calls],.agg #[.int .u8 k',.slice pA' pn' pc',.int .i64 i',.int .i64 j',.string f',.string t',.slice oA' on' oc',.slice nA' nn' nc',.slice mA' mn' mc',.slice bA' bn' bc',.bool e'.params,.bool e'.calls]] w (ak (cK e e') w):=by
 by_cases hk:k=1/\k'=1
 .obtain⟨rfl,rfl⟩:=hk;obtain⟨⟨ps,os,ns,rfl,hp,_,_⟩,_⟩:=h1;obtain⟨⟨ps',os',ns',rfl,hp',_,_⟩,_⟩:=h2;exact yD ps os ns pA pn pc i j f t oA on oc nA nn nc mA mn mc bA bn bc _ _ ps' os' ns' pA' pn' pc' i' j' f' t' oA' on' oc' nA' nn' nc' mA' mn' mc' bA' bn' bc' _ _ w hp hp'
 .exact yE e k pA pn pc i j f t oA on oc nA nn nc mA mn mc bA bn bc e' k' pA' pn' pc' i' j' f' t' oA' on' oc' nA' nn' nc' mA' mn' mc' bA' bn' bc' w h1 h2 hk
theorem jF(k:Nat)(x1 x2 x3 x4 x5 x6 x7 x8 x9 x10 x11:Value)(w:World):Calls Tryz.prog 26 #[.agg #[.int .u8 k,x1,x2,x3,x4,x5,x6,x7,x8,x9,x10,x11]] w (ak (aq k) w):=by
 have hb0:Below w.heap.size w (w.alloc (.cells #[.int .u8 k,x1,x2,x3,x4,x5,x6,x7,x8,x9,x10,x11] 54)):=(ai _ _).alloc (ah _) _;have HB0:=aa hb0;have c0:=(cr (heap_alloc_new w (.cells #[.int .u8 k,x1,x2,x3,x4,x5,x6,x7,x8,x9,x10,x11] 54))).1.c0;clear hb0;by_cases h2:k=2
 .subst h2
  go_in
  go_wp2_with fail;go_ret;exact ak.intro rfl HB0.out
 have q2:((k:Int) == 2)=false:=(by simp;omega);by_cases h3:k=3
 .subst h3
  go_in
  go_wp2_with fail;go_ret;exact ak.intro rfl HB0.out
 have q3:((k:Int) == 3)=false:=(by simp;omega);by_cases h5:k=5
 .subst h5
  go_in
  go_wp2_with fail;go_ret;exact ak.intro rfl HB0.out
 have q5:((k:Int) == 5)=false:=(by simp;omega);have HV:Hid (aq k=false):=(by show _=_;simp[aq,h2,h3,h5]);clear h2 h3 h5
 go_in
 go_wp2_with fail;go_ret;exact ak.intro HV.out.symm HB0.out
def dy(k:Nat):Int:=if k=2 then 1 else -1
theorem iS(k:Nat)(x1 x2 x3 x4 x5 x6 x7:Value)(w:World):Calls Tryz.prog 61 #[.agg #[.int .u8 k,x1,x2,x3,x4,x5,x6,x7]] w fun e w'=>e= .returned (.int .i64 (dy k))/\Below w.heap.size w w':=by
 have hb0:Below w.heap.size w (w.alloc (.cells #[.int .u8 k,x1,x2,x3,x4,x5,x6,x7] 26)):=(ai _ _).alloc (ah _) _;have HB0:=aa hb0;have c0:=(aw (heap_alloc_new w (.cells #[.int .u8 k,x1,x2,x3,x4,x5,x6,x7] 26))).cs.1;clear hb0;by_cases h2:k=2
 .subst h2
  go_in
  go_wp2_with fail;go_ret;exact⟨rfl,HB0.out⟩
 .have q2:((k:Int) == 2)=false:=(by simp;omega);have HV:Hid (dy k= -1):=(by show _=_;simp[dy,h2]);clear h2
  go_in
  go_wp2_with fail;go_ret;exact⟨by rw[HV.out];rfl,HB0.out⟩
theorem mo(args:Array Value)(w:World):(callFunc 61 args).run Tryz.prog w= .ok (.enter 61 args) w:=eH Tryz.func61 (by kernel_rfl) (by kernel_rfl) args w
def nR(r:Option (Int×Int)):Value:=match r with|some (j,i)=>.tuple #[.int .i64 j,.int .i64 i,.bool true]|none=>.tuple #[.int .i64 0,.int .i64 0,.bool false]
def jO(r:Option (Int×Int))(w:World)(e:Ending)(w':World):Prop:=e= .returned (nR r)/\Below w.heap.size w w'
theorem xH(e e':aj)(k k':Nat)(x1 x2 x3 x4 x5 x6 x7 y1 y2 y3 y4 y5 y6 y7:Value)(w:World)(hk:e.kind=k)(hk':e'.kind=k')(h5:k=5∨k'=5):Calls Tryz.prog 28 #[.agg #[.int .u8 k,x1,x2,x3,x4,x5,x6,x7],.agg #[.int .u8 k',y1,y2,y3,y4,y5,y6,y7]] w (jO (bY e e') w):=by
 have HV:Hid (bY e e'=none):=(by show _=_;unfold bY;rw[if_pos (by rw[hk,hk'];exact h5)]);have hb2:Below w.heap.size w ((w.alloc (.cells #[.int .u8 k,x1,x2,x3,x4,x5,x6,x7] 26)).alloc (.cells #[.int .u8 k',y1,y2,y3,y4,y5,y6,y7] 26)):=((ai _ w).alloc (ah _) _).alloc (by simp) _;have HB2:=aa hb2;clear hb2 hk hk';by_cases h:k=5
 .subst h;clear h5
  go_in
  go_wp2_with fail
  go_ret3
  exact⟨by rw[HV.out];rfl,HB2.out⟩
 .have q5:((k:Int) == 5)=false:=(by simp;omega);have h':k'=5:=(by omega);subst h';clear h5 h
  go_in
  go_wp2_with fail
  go_ret3
  exact⟨by rw[HV.out];rfl,HB2.out⟩
theorem l8{e e':aj}(h5:¬(e.kind=5∨e'.kind=5))(h1:(if e'.kind=3 then e.at_ - 1 else e.at_)<=e'.at_)(h2:e'.at_<=(if e.kind=2 then e.at_+1 else e.at_)):bY e e'=none:=by unfold bY;rw[if_neg h5];simp only;rw[if_pos ⟨h1,h2⟩]
theorem l7{e e':aj}(h5:¬(e.kind=5∨e'.kind=5))(h1:¬(if e'.kind=3 then e.at_ - 1 else e.at_)<=e'.at_):bY e e'=some (e'.at_,e.at_+dy e'.kind):=by unfold bY;rw[if_neg h5];simp only;rw[if_neg (fun h=>h1 h.1),if_pos (by split at h1<;>omega)];rfl
theorem l6{e e':aj}(h5:¬(e.kind=5∨e'.kind=5))(h1:(if e'.kind=3 then e.at_ - 1 else e.at_)<=e'.at_)(h2:¬e'.at_<=(if e.kind=2 then e.at_+1 else e.at_)):bY e e'=some (e'.at_ - dy e.kind,e.at_):=by unfold bY;rw[if_neg h5];simp only;rw[if_neg (fun h=>h2 h.2),if_neg (by split at h2<;>omega)];rfl
theorem jl(k:Nat): -1<=dy k/\dy k<=1:=by unfold dy;split<;>omega
theorem xL(e e':aj)(k k':Nat)(i i':Int)(x1 x3 x4 x5 x6 x7 y1 y3 y4 y5 y6 y7:Value)(w:World)(hk:e.kind=k)(hk':e'.kind=k')(hi:e.at_=i)(hi':e'.at_=i')(h5:¬(k=5∨k'=5))(n1:aH i=true)(n2:aH i'=true)(g3:k'=3)(g2:k=2):Calls Tryz.prog 28 #[.agg #[.int .u8 k,x1,.int .i64 i,x3,x4,x5,x6,x7],.agg #[.int .u8 k',y1,.int .i64 i',y3,y4,y5,y6,y7]] w (jO (bY e e') w):=by
 have hb2:Below w.heap.size w ((w.alloc (.cells #[.int .u8 k,x1,.int .i64 i,x3,x4,x5,x6,x7] 26)).alloc (.cells #[.int .u8 k',y1,.int .i64 i',y3,y4,y5,y6,y7] 26)):=((ai _ w).alloc (ah _) _).alloc (by simp) _;have HB2:=aa hb2;obtain⟨m1,m2⟩:0<=i/\i<=1073741824:=(by simpa[aH] using n1);obtain⟨m3,m4⟩:0<=i'/\i'<=1073741824:=(by simpa[aH] using n2);have q5:((k:Int) == 5)=false:=(by simp;omega);have q5':((k':Int) == 5)=false:=(by simp;omega);have q3:((k':Int) == 3)=true:=(by simp;omega);have q2:((k:Int) == 2)=true:=(by simp;omega);have hcf:=mo;have HK:Hid (e.kind=k/\e'.kind=k'/\e.at_=i/\e'.at_=i'/\¬(e.kind=5∨e'.kind=5)):=⟨hk,hk',hi,hi',by rw[hk,hk'];exact h5⟩;have EL:Hid ((if e'.kind=3 then e.at_ - 1 else e.at_)=i - 1):=(by show _=_;rw[hk',hi];exact if_pos g3);have EH:Hid ((if e.kind=2 then e.at_+1 else e.at_)=i+1):=(by show _=_;rw[hk,hi];exact if_pos g2);obtain⟨u1,u2⟩:=jl k;obtain⟨u3,u4⟩:=jl k';clear n1 n2 hb2 hk hk' hi hi' h5 g2 g3;by_cases hA:i - 1<=i'
 .by_cases hB:i'<=i+1
  .have HV:Hid (bY e e'=none):=l8 HK.out.2.2.2.2 (by rw[EL.out,HK.out.2.2.2.1];exact hA) (by rw[EH.out,HK.out.2.2.2.1];exact hB);clear u1 u2 u3 u4
   go_in
   go_wp2_with fail
   go_quiet (fail)
   go_wp2_with fail
   go_ret3
   exact⟨by rw[HV.out];rfl,ax HB2.out _⟩
  .have HV:Hid (bY e e'=some (i' - dy k,i)):=by have h:=l6 HK.out.2.2.2.2 (by rw[EL.out,HK.out.2.2.2.1];exact hA) (by rw[EH.out,HK.out.2.2.2.1];exact hB);rw[HK.out.1,HK.out.2.2.1,HK.out.2.2.2.1] at h;exact h
   have hC:¬i'<i:=(by omega);clear u3 u4
   go_in
   go_wp2_with fail
   go_quiet (fail)
   go_wp2_with fail;refine(iS k _ _ _ _ _ _ _ _).mono ?_;rintro en w1 ⟨rfl,hb1⟩;have HB1:=aa (af (ax HB2.out _) hb1);clear hb1;generalize dy k=u at u1 u2 HV ⊢;go_wp2_with fail
   go_ret3
   exact⟨by rw[HV.out];rfl,HB1.out⟩
 .have HV:Hid (bY e e'=some (i',i+dy k')):=by have h:=l7 HK.out.2.2.2.2 (by rw[EL.out,HK.out.2.2.2.1];exact hA);rw[HK.out.2.1,HK.out.2.2.1,HK.out.2.2.2.1] at h;exact h
  have hC:i'<i:=(by omega);clear u1 u2
  go_in
  go_wp2_with fail
  go_quiet (fail)
  go_wp2_with fail;refine(iS k' _ _ _ _ _ _ _ _).mono ?_;rintro en w1 ⟨rfl,hb1⟩;have HB1:=aa (af (ax HB2.out _) hb1);clear hb1;generalize dy k'=u at u3 u4 HV ⊢;go_wp2_with fail
  go_ret3
  exact⟨by rw[HV.out];rfl,HB1.out⟩
theorem xK(e e':aj)(k k':Nat)(i i':Int)(x1 x3 x4 x5 x6 x7 y1 y3 y4 y5 y6 y7:Value)(w:World)(hk:e.kind=k)(hk':e'.kind=k')(hi:e.at_=i)(hi':e'.at_=i')(h5:¬(k=5∨k'=5))(n1:aH i=true)(n2:aH i'=true)(g3:k'=3)(g2:k≠2):Calls Tryz.prog 28 #[.agg #[.int .u8 k,x1,.int .i64 i,x3,x4,x5,x6,x7],.agg #[.int .u8 k',y1,.int .i64 i',y3,y4,y5,y6,y7]] w (jO (bY e e') w):=by
 have hb2:Below w.heap.size w ((w.alloc (.cells #[.int .u8 k,x1,.int .i64 i,x3,x4,x5,x6,x7] 26)).alloc (.cells #[.int .u8 k',y1,.int .i64 i',y3,y4,y5,y6,y7] 26)):=((ai _ w).alloc (ah _) _).alloc (by simp) _;have HB2:=aa hb2;obtain⟨m1,m2⟩:0<=i/\i<=1073741824:=(by simpa[aH] using n1);obtain⟨m3,m4⟩:0<=i'/\i'<=1073741824:=(by simpa[aH] using n2);have q5:((k:Int) == 5)=false:=(by simp;omega);have q5':((k':Int) == 5)=false:=(by simp;omega);have q3:((k':Int) == 3)=true:=(by simp;omega);have q2:((k:Int) == 2)=false:=(by simp;omega);have hcf:=mo;have HK:Hid (e.kind=k/\e'.kind=k'/\e.at_=i/\e'.at_=i'/\¬(e.kind=5∨e'.kind=5)):=⟨hk,hk',hi,hi',by rw[hk,hk'];exact h5⟩;have EL:Hid ((if e'.kind=3 then e.at_ - 1 else e.at_)=i - 1):=(by show _=_;rw[hk',hi];exact if_pos g3);have EH:Hid ((if e.kind=2 then e.at_+1 else e.at_)=i):=(by show _=_;rw[hk,hi];exact if_neg g2);obtain⟨u1,u2⟩:=jl k;obtain⟨u3,u4⟩:=jl k';clear n1 n2 hb2 hk hk' hi hi' h5 g2 g3;by_cases hA:i - 1<=i'
 .by_cases hB:i'<=i
  .have HV:Hid (bY e e'=none):=l8 HK.out.2.2.2.2 (by rw[EL.out,HK.out.2.2.2.1];exact hA) (by rw[EH.out,HK.out.2.2.2.1];exact hB);clear u1 u2 u3 u4
   go_in
   go_wp2_with fail
   go_quiet (fail)
   go_wp2_with fail
   go_ret3
   exact⟨by rw[HV.out];rfl,ax HB2.out _⟩
  .have HV:Hid (bY e e'=some (i' - dy k,i)):=by have h:=l6 HK.out.2.2.2.2 (by rw[EL.out,HK.out.2.2.2.1];exact hA) (by rw[EH.out,HK.out.2.2.2.1];exact hB);rw[HK.out.1,HK.out.2.2.1,HK.out.2.2.2.1] at h;exact h
   have hC:¬i'<i:=(by omega);clear u3 u4
   go_in
   go_wp2_with fail
   go_quiet (fail)
   go_wp2_with fail;refine(iS k _ _ _ _ _ _ _ _).mono ?_;rintro en w1 ⟨rfl,hb1⟩;have HB1:=aa (af (ax HB2.out _) hb1);clear hb1;generalize dy k=u at u1 u2 HV ⊢;go_wp2_with fail
   go_ret3
   exact⟨by rw[HV.out];rfl,HB1.out⟩
 .have HV:Hid (bY e e'=some (i',i+dy k')):=by have h:=l7 HK.out.2.2.2.2 (by rw[EL.out,HK.out.2.2.2.1];exact hA);rw[HK.out.2.1,HK.out.2.2.1,HK.out.2.2.2.1] at h;exact h
  have hC:i'<i:=(by omega);clear u1 u2
  go_in
  go_wp2_with fail
  go_quiet (fail)
  go_wp2_with fail;refine(iS k' _ _ _ _ _ _ _ _).mono ?_;rintro en w1 ⟨rfl,hb1⟩;have HB1:=aa (af (ax HB2.out _) hb1);clear hb1;generalize dy k'=u at u3 u4 HV ⊢;go_wp2_with fail
  go_ret3
  exact⟨by rw[HV.out];rfl,HB1.out⟩
theorem xJ(e e':aj)(k k':Nat)(i i':Int)(x1 x3 x4 x5 x6 x7 y1 y3 y4 y5 y6 y7:Value)(w:World)(hk:e.kind=k)(hk':e'.kind=k')(hi:e.at_=i)(hi':e'.at_=i')(h5:¬(k=5∨k'=5))(n1:aH i=true)(n2:aH i'=true)(g3:k'≠3)(g2:k=2):Calls Tryz.prog 28 #[.agg #[.int .u8 k,x1,.int .i64 i,x3,x4,x5,x6,x7],.agg #[.int .u8 k',y1,.int .i64 i',y3,y4,y5,y6,y7]] w (jO (bY e e') w):=by
 have hb2:Below w.heap.size w ((w.alloc (.cells #[.int .u8 k,x1,.int .i64 i,x3,x4,x5,x6,x7] 26)).alloc (.cells #[.int .u8 k',y1,.int .i64 i',y3,y4,y5,y6,y7] 26)):=((ai _ w).alloc (ah _) _).alloc (by simp) _;have HB2:=aa hb2;obtain⟨m1,m2⟩:0<=i/\i<=1073741824:=(by simpa[aH] using n1);obtain⟨m3,m4⟩:0<=i'/\i'<=1073741824:=(by simpa[aH] using n2);have q5:((k:Int) == 5)=false:=(by simp;omega);have q5':((k':Int) == 5)=false:=(by simp;omega);have q3:((k':Int) == 3)=false:=(by simp;omega);have q2:((k:Int) == 2)=true:=(by simp;omega);have hcf:=mo;have HK:Hid (e.kind=k/\e'.kind=k'/\e.at_=i/\e'.at_=i'/\¬(e.kind=5∨e'.kind=5)):=⟨hk,hk',hi,hi',by rw[hk,hk'];exact h5⟩;have EL:Hid ((if e'.kind=3 then e.at_ - 1 else e.at_)=i):=(by show _=_;rw[hk',hi];exact if_neg g3);have EH:Hid ((if e.kind=2 then e.at_+1 else e.at_)=i+1):=(by show _=_;rw[hk,hi];exact if_pos g2);obtain⟨u1,u2⟩:=jl k;obtain⟨u3,u4⟩:=jl k';clear n1 n2 hb2 hk hk' hi hi' h5 g2 g3;by_cases hA:i<=i'
 .by_cases hB:i'<=i+1
  .have HV:Hid (bY e e'=none):=l8 HK.out.2.2.2.2 (by rw[EL.out,HK.out.2.2.2.1];exact hA) (by rw[EH.out,HK.out.2.2.2.1];exact hB);clear u1 u2 u3 u4
   go_in
   go_wp2_with fail
   go_quiet (fail)
   go_wp2_with fail
   go_ret3
   exact⟨by rw[HV.out];rfl,ax HB2.out _⟩
  .have HV:Hid (bY e e'=some (i' - dy k,i)):=by have h:=l6 HK.out.2.2.2.2 (by rw[EL.out,HK.out.2.2.2.1];exact hA) (by rw[EH.out,HK.out.2.2.2.1];exact hB);rw[HK.out.1,HK.out.2.2.1,HK.out.2.2.2.1] at h;exact h
   have hC:¬i'<i:=(by omega);clear u3 u4
   go_in
   go_wp2_with fail
   go_quiet (fail)
   go_wp2_with fail;refine(iS k _ _ _ _ _ _ _ _).mono ?_;rintro en w1 ⟨rfl,hb1⟩;have HB1:=aa (af (ax HB2.out _) hb1);clear hb1;generalize dy k=u at u1 u2 HV ⊢;go_wp2_with fail
   go_ret3
   exact⟨by rw[HV.out];rfl,HB1.out⟩
 .have HV:Hid (bY e e'=some (i',i+dy k')):=by have h:=l7 HK.out.2.2.2.2 (by rw[EL.out,HK.out.2.2.2.1];exact hA);rw[HK.out.2.1,HK.out.2.2.1,HK.out.2.2.2.1] at h;exact h
  have hC:i'<i:=(by omega);clear u1 u2
  go_in
  go_wp2_with fail
  go_quiet (fail)
  go_wp2_with fail;refine(iS k' _ _ _ _ _ _ _ _).mono ?_;rintro en w1 ⟨rfl,hb1⟩;have HB1:=aa (af (ax HB2.out _) hb1);clear hb1;generalize dy k'=u at u3 u4 HV ⊢;go_wp2_with fail
  go_ret3
  exact⟨by rw[HV.out];rfl,HB1.out⟩
theorem xI(e e':aj)(k k':Nat)(i i':Int)(x1 x3 x4 x5 x6 x7 y1 y3 y4 y5 y6 y7:Value)(w:World)(hk:e.kind=k)(hk':e'.kind=k')(hi:e.at_=i)(hi':e'.at_=i')(h5:¬(k=5∨k'=5))(n1:aH i=true)(n2:aH i'=true)(g3:k'≠3)(g2:k≠2):Calls Tryz.prog 28 #[.agg #[.int .u8 k,x1,.int .i64 i,x3,x4,x5,x6,x7],.agg #[.int .u8 k',y1,.int .i64 i',y3,y4,y5,y6,y7]] w (jO (bY e e') w):=by
 have hb2:Below w.heap.size w ((w.alloc (.cells #[.int .u8 k,x1,.int .i64 i,x3,x4,x5,x6,x7] 26)).alloc (.cells #[.int .u8 k',y1,.int .i64 i',y3,y4,y5,y6,y7] 26)):=((ai _ w).alloc (ah _) _).alloc (by simp) _;have HB2:=aa hb2;obtain⟨m1,m2⟩:0<=i/\i<=1073741824:=(by simpa[aH] using n1);obtain⟨m3,m4⟩:0<=i'/\i'<=1073741824:=(by simpa[aH] using n2);have q5:((k:Int) == 5)=false:=(by simp;omega);have q5':((k':Int) == 5)=false:=(by simp;omega);have q3:((k':Int) == 3)=false:=(by simp;omega);have q2:((k:Int) == 2)=false:=(by simp;omega);have hcf:=mo;have HK:Hid (e.kind=k/\e'.kind=k'/\e.at_=i/\e'.at_=i'/\¬(e.kind=5∨e'.kind=5)):=⟨hk,hk',hi,hi',by rw[hk,hk'];exact h5⟩;have EL:Hid ((if e'.kind=3 then e.at_ - 1 else e.at_)=i):=(by show _=_;rw[hk',hi];exact if_neg g3);have EH:Hid ((if e.kind=2 then e.at_+1 else e.at_)=i):=(by show _=_;rw[hk,hi];exact if_neg g2);obtain⟨u1,u2⟩:=jl k;obtain⟨u3,u4⟩:=jl k';clear n1 n2 hb2 hk hk' hi hi' h5 g2 g3;by_cases hA:i<=i'
 .by_cases hB:i'<=i
  .have HV:Hid (bY e e'=none):=l8 HK.out.2.2.2.2 (by rw[EL.out,HK.out.2.2.2.1];exact hA) (by rw[EH.out,HK.out.2.2.2.1];exact hB);clear u1 u2 u3 u4
   go_in
   go_wp2_with fail
   go_quiet (fail)
   go_wp2_with fail
   go_ret3
   exact⟨by rw[HV.out];rfl,ax HB2.out _⟩
  .have HV:Hid (bY e e'=some (i' - dy k,i)):=by have h:=l6 HK.out.2.2.2.2 (by rw[EL.out,HK.out.2.2.2.1];exact hA) (by rw[EH.out,HK.out.2.2.2.1];exact hB);rw[HK.out.1,HK.out.2.2.1,HK.out.2.2.2.1] at h;exact h
   have hC:¬i'<i:=(by omega);clear u3 u4
   go_in
   go_wp2_with fail
   go_quiet (fail)
   go_wp2_with fail;refine(iS k _ _ _ _ _ _ _ _).mono ?_;rintro en w1 ⟨rfl,hb1⟩;have HB1:=aa (af (ax HB2.out _) hb1);clear hb1;generalize dy k=u at u1 u2 HV ⊢;go_wp2_with fail
   go_ret3
   exact⟨by rw[HV.out];rfl,HB1.out⟩
 .have HV:Hid (bY e e'=some (i',i+dy k')):=by have h:=l7 HK.out.2.2.2.2 (by rw[EL.out,HK.out.2.2.2.1];exact hA);rw[HK.out.2.1,HK.out.2.2.1,HK.out.2.2.2.1] at h;exact h
  have hC:i'<i:=(by omega);clear u1 u2
  go_in
  go_wp2_with fail
  go_quiet (fail)
  go_wp2_with fail;refine(iS k' _ _ _ _ _ _ _ _).mono ?_;rintro en w1 ⟨rfl,hb1⟩;have HB1:=aa (af (ax HB2.out _) hb1);clear hb1;generalize dy k'=u at u3 u4 HV ⊢;go_wp2_with fail
  go_ret3
  exact⟨by rw[HV.out];rfl,HB1.out⟩
theorem xG(e e':aj)(k k':Nat)(i i':Int)(x1 x3 x4 x5 x6 x7 y1 y3 y4 y5 y6 y7:Value)(w:World)(hk:e.kind=k)(hk':e'.kind=k')(hi:e.at_=i)(hi':e'.at_=i')(n1:aH i=true)(n2:aH i'=true):Calls Tryz.prog 28 #[.agg #[.int .u8 k,x1,.int .i64 i,x3,x4,x5,x6,x7],.agg #[.int .u8 k',y1,.int .i64 i',y3,y4,y5,y6,y7]] w (jO (bY e e') w):=by
 by_cases h5:k=5∨k'=5
 .exact xH e e' k k' _ _ _ _ _ _ _ _ _ _ _ _ _ _ w hk hk' h5
 .by_cases g3:k'=3<;>by_cases g2:k=2
  .exact xL e e' k k' i i' _ _ _ _ _ _ _ _ _ _ _ _ w hk hk' hi hi' h5 n1 n2 g3 g2
  .exact xK e e' k k' i i' _ _ _ _ _ _ _ _ _ _ _ _ w hk hk' hi hi' h5 n1 n2 g3 g2
  .exact xJ e e' k k' i i' _ _ _ _ _ _ _ _ _ _ _ _ w hk hk' hi hi' h5 n1 n2 g3 g2
  .exact xI e e' k k' i i' _ _ _ _ _ _ _ _ _ _ _ _ w hk hk' hi hi' h5 n1 n2 g3 g2
structure e9 (w:World) (xs ps:List Int) (b b':Nat) (A:Option Addr) (n c:Nat) (k:Nat) (pA:Option Addr) (pn pc:Nat) (i j:Int) (x4 x5 x6 x7:Value):Prop where
 box:bw w b (.int .u8 k) (.slice pA pn pc) (.int .i64 i) (.int .i64 j) x4 x5 x6 x7
 way:w.cell? ⟨b',0,none⟩=some (.slice A n c)
 hx:aA w xs A n c
 hp:aA w ps pA pn pc
 few:dE xs
 hn:n<=17592186044416
 hm:pn<=17592186044000
theorem e9.below{w w':World}{xs ps:List Int}{b b':Nat}{A:Option Addr}{n c:Nat}{k:Nat}{pA:Option Addr}{pn pc:Nat}{i j:Int}{x4 x5 x6 x7:Value}(h:e9 w xs ps b b' A n c k pA pn pc i j x4 x5 x6 x7)(hb:Below w.heap.size w w'):e9 w' xs ps b b' A n c k pA pn pc i j x4 x5 x6 x7:=
 ⟨h.box.below hb,ac hb h.way,h.hx.below hb,h.hp.below hb,h.few,h.hn,h.hm⟩
theorem yJ{w:World}{xs:List Int}{b':Nat}{A:Option Addr}{n c:Nat}(hw:w.cell? ⟨b',0,none⟩=some (.slice A n c))(hx:aA w xs A n c)(hn:n<=17592186044416):Calls Tryz.prog 62 #[.pointer (some ⟨b',0,none⟩)] w (bL (some xs) w):=by
 have HX:=aa hx;clear hx
 go_in
 go_wp2_with fail;refine(gV xs _ _ _ _ HX.out hn).mono ?_;rintro en w1 ⟨A1,c1,rfl,ho,hb⟩;have HO:=aa ho;have HB:=aa hb;clear ho hb;go_wp2_with fail
 go_ret2
 exact bL.yes rfl rfl HO.out HB.out
theorem yK{w:World}{xs ps:List Int}{b b':Nat}{A:Option Addr}{n c:Nat}{k:Nat}{pA:Option Addr}{pn pc:Nat}{i j:Int}{x4 x5 x6 x7:Value}(h:e9 w xs ps b b' A n c k pA pn pc i j x4 x5 x6 x7):Calls Tryz.prog 63 #[.pointer (some ⟨b',0,none⟩),.pointer (some ⟨b,0,none⟩)] w (bL (some (fO xs ps i)) w):=by
 have H:=aa h;have hw:=h.way;obtain⟨c0,c1,c2,c3,c4,c5,c6,c7⟩:=h.box;clear h
 go_in
 go_wp2_with fail;refine(yu xs ps i _ _ _ _ _ _ _ H.out.hx H.out.hp H.out.hn (by have:=H.out.hm;omega) H.out.few).mono ?_;rintro en w1 ⟨A1,c1,rfl,ho,hb⟩;have HO:=aa ho;have HB:=aa hb;clear ho hb;go_wp2_with fail
 go_ret2
 exact bL.yes rfl rfl HO.out HB.out
theorem yL{w:World}{xs ps:List Int}{b b':Nat}{A:Option Addr}{n c:Nat}{k:Nat}{pA:Option Addr}{pn pc:Nat}{i j:Int}{x4 x5 x6 x7:Value}(h:e9 w xs ps b b' A n c k pA pn pc i j x4 x5 x6 x7):Calls Tryz.prog 65 #[.pointer (some ⟨b',0,none⟩),.pointer (some ⟨b,0,none⟩)] w (bL (dR xs ps i) w):=by
 have H:=aa h;have hw:=h.way;obtain⟨c0,c1,c2,c3,c4,c5,c6,c7⟩:=h.box;clear h;cases hd:dR xs ps i with
 |none=>
  have HD:=aa hd;clear hd
  go_in
  go_wp2_with fail;refine(rh xs ps i _ _ _ _ _ _ _ H.out.hx H.out.hp H.out.hn (by have:=H.out.hm;omega) H.out.few).mono ?_;intro en w1 hm;rw[HD.out] at hm;obtain⟨A1,n1,c1,rfl,hb⟩:=hm;have HB:=aa hb;clear hb;go_wp2_with fail
  go_ret2
  exact bL.no rfl HB.out
 |some zs=>
  have HD:=aa hd;clear hd
  go_in
  go_wp2_with fail;refine(rh xs ps i _ _ _ _ _ _ _ H.out.hx H.out.hp H.out.hn (by have:=H.out.hm;omega) H.out.few).mono ?_;intro en w1 hm;rw[HD.out] at hm;obtain⟨A1,c1,rfl,ho,hb⟩:=hm;have HO:=aa ho;have HB:=aa hb;clear ho hb;go_wp2_with fail
  go_ret2
  exact bL.yes rfl rfl HO.out HB.out
end Go.Proofs.YtlkmefhogabgdaaGreatDoor
