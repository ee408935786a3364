/- Part 13 of the proof. -/
import Derived.Test.YtfipahjodfminaaGreatDoorMfL
namespace Go.Proofs.YtfipahjodfminaaGreatDoor
open Go.RowKit
set_option linter.all false
set_option maxHeartbeats 40000000
set_option maxRecDepth 100000
structure CH (w:World) (b:j9) (Ap:Option Addr) (pl pc:Nat) (Au:Option Addr) (un uc:Nat):Prop where
 path:cc w b.path Ap pl pc
 pathT:bT w b.path Ap
 uses:Cv w b.uses Au un uc
theorem CH.below{w w':World}{b:j9}{Ap:Option Addr}{pl pc:Nat}{Au:Option Addr}{un uc:Nat}(h:CH w b Ap pl pc Au un uc)(hb:Below w.heap.size w w'):CH w' b Ap pl pc Au un uc:=⟨h.path.below hb,h.pathT.below hb,h.uses.below hb⟩
def Co(w:World)(l:List j9)(A:Option Addr)(n c:Nat):Prop:=n=l.length/\n<=c/\c<=maxLen/\(l=[]∨∃g o,A=some ⟨g,o,none⟩/\∀j b,l[j]? =some b->∃Ap pl pc Au un uc,w.cell? ⟨g,o+j*3,none⟩=some (.slice Ap pl pc)/\w.cell? ⟨g,o+j*3+1,none⟩=some (.string (sb b.name))/\w.cell? ⟨g,o+j*3+2,none⟩=some (.slice Au un uc)/\CH w b Ap pl pc Au un uc)
theorem Co.below{w w':World}{l:List j9}{A:Option Addr}{n c:Nat}(h:Co w l A n c)(hb:Below w.heap.size w w'):Co w' l A n c:=by obtain⟨h1,h2,h3,h4⟩:=h;refine⟨h1,h2,h3,h4.imp id ?_⟩;rintro⟨g,o,e,h⟩;exact⟨g,o,e,fun j b hj=>by obtain⟨Ap,pl,pc,Au,un,uc,k0,k1,k2,k3⟩:=h j b hj;exact⟨Ap,pl,pc,Au,un,uc,ac hb k0,ac hb k1,ac hb k2,k3.below hb⟩⟩
theorem Co.get{w:World}{l:List j9}{A:Option Addr}{n c:Nat}(h:Co w l A n c){j:Nat}(hj:j<n):∃g o b Ap pl pc Au un uc,A=some ⟨g,o,none⟩/\l[j]? =some b/\w.cell? ⟨g,o+j*3,none⟩=some (.slice Ap pl pc)/\w.cell? ⟨g,o+j*3+1,none⟩=some (.string (sb b.name))/\w.cell? ⟨g,o+j*3+2,none⟩=some (.slice Au un uc)/\CH w b Ap pl pc Au un uc:=by
 obtain⟨h1,_,_,h4⟩:=h;rcases h4 with rfl|⟨g,o,rfl,h⟩
 .simp at h1;omega
 .have hp:l[j]? =some (l[j]'(by omega)):=br (by omega);obtain⟨Ap,pl,pc,Au,un,uc,k⟩:=h j _ hp;exact⟨g,o,_,Ap,pl,pc,Au,un,uc,rfl,hp,k⟩
theorem ET(a:ar):bl (sb a)=a:=by simp[bl,sb]
theorem Qd(x y:j9)(Ap:Option Addr)(pl pc:Nat)(Au:Option Addr)(un uc:Nat)(Bp:Option Addr)(ql qc:Nat)(Bu:Option Addr)(vn vc:Nat)(w:World)(hx:CH w x Ap pl pc Au un uc)(hy:CH w y Bp ql qc Bu vn vc):Calls Tryz.prog 164 #[.agg #[.slice Ap pl pc,.string (sb x.name),.slice Au un uc],.agg #[.slice Bp ql qc,.string (sb y.name),.slice Bu vn vc]] w (ak (decide (x=y)) w):=by
 have hb0:Below w.heap.size w ((w.alloc (.cells #[.slice Ap pl pc,.string (sb x.name),.slice Au un uc] 71)).alloc (.cells #[.slice Bp ql qc,.string (sb y.name),.slice Bu vn vc] 71)):=((ai _ _).alloc (ah _) _).alloc (by simp) _;have HB0:=ab hb0;have HX:=ab (hx.below hb0);have HY:=ab (hy.below hb0);obtain⟨xp,xn,xu⟩:=x;obtain⟨yp,yn,yu⟩:=y;clear hx hy hb0;by_cases hn:xn=yn
 .subst hn;have HP:=ab (lz xp yp Ap Bp pl pc ql qc _ HX.out.path HY.out.path)
  go_in
  go_wp2_with fail;refine HP.out.mono ?_;rintro e w3 ⟨rfl,nd,rfl⟩;by_cases hs:xp=yp
  .have hb:(xp == yp)=true:=(by simpa using hs);rw[hb];subst hs;have HB3:=ab (CN HB0.out nd);have HU:=ab (Ic xu yu Au Bu un uc vn vc _ (HX.out.uses.below (CN (ai _ _) nd)) (HY.out.uses.below (CN (ai _ _) nd)));clear hb;go_wp2_with fail;refine HU.out.mono ?_;rintro e w4 ⟨rfl,hb4⟩;have HB4:Hid (Below w.heap.size w w4):=HB3.out.trans (hb4.mono HB3.out.size);clear hb4;go_wp2;go_ret;exact ak.intro (by simp) HB4.out
  .have hb:(xp == yp)=false:=(by simpa using hs);rw[hb];have HB3:=ab (CN HB0.out nd);have HV:Hid (decide ((⟨xp,xn,xu⟩:j9)=⟨yp,xn,yu⟩)=false):=(by show _=_;rw[decide_eq_false_iff_not];intro e;injection e with e _ _;exact hs e);clear hb hs;go_wp2;go_ret;exact ak.intro HV.out.symm HB3.out
 .have HV:Hid (decide ((⟨xp,xn,xu⟩:j9)=⟨yp,yn,yu⟩)=false):=(by show _=_;rw[decide_eq_false_iff_not];intro e;injection e with _ e _;exact hn e);have hb2:¬sb xn=sb yn:=fun e=>hn (F4 e);have hb3:((sb xn).toList == (sb yn).toList)=false:=fW (by rw[ET,ET];exact hn)
  go_in
  go_wp2;go_ret;exact ak.intro (by first|rfl|exact HV.out.symm) HB0.out
theorem GL(args:Array Value)(w:World):(callFunc 164 args).run Tryz.prog w= .ok (.enter 164 args) w:=eH Tryz.func164 (by kernel_rfl) (by kernel_rfl) args w
theorem Ib(ts us:List j9)(A A':Option Addr)(n c n' c':Nat)(w:World)(hK:Co w ts A n c)(hK':Co w us A' n' c'):Calls Tryz.prog 117 #[.slice A n c,.slice A' n' c',.func (.func 164) #[] #[]] w (ak (decide (ts=us)) w):=by
 have HK:=ab hK;have HK':=ab hK';have hnn:n<=9223372036854775807:=(by have h1:=hK.2.1;have h2:=hK.2.2.1;unfold maxLen at h2;omega);have HL:Hid (n=ts.length/\n'=us.length):=⟨hK.1,hK'.1⟩;clear hK hK';by_cases hl:n=n'
 .subst hl
  go_in
  go_wp2_with fail;go_loopw [17] (fun i wr=>∃j:Nat,j<=n/\i= .int .i64 j/\Hid (Below w.heap.size w wr)/\Hid (ts.take j=us.take j)) (fun i _=>n - (intOf i).toNat);case atStart=>exact⟨0,aE _,rfl,ai _ _,rfl⟩
  case round=>
   obtain⟨j,hj,rfl,HB,HI⟩:=hrel;by_cases hlt:j<n
   .obtain⟨g,o,x,Ap,pl,pc,Au,un,uc,rfl,hp,q0,q1,q2,hx⟩:=(HK.out.below HB.out).get hlt;obtain⟨g',o',y,Bp,ql,qc,Bu,vn,vc,rfl,hp',r0,r1,r2,hy⟩:=(HK'.out.below HB.out).get hlt;have hqlt:=bK q0;have hplt:=bK r0;simp only at hqlt hplt;have HX:=ab hx;have HY:=ab hy;have HT:=ab hp;have HT':=ab hp';have hcf:=GL;clear hp hp' hx hy;go_wp2_with fail;have hb2:Below wr.heap.size wr ((wr.alloc (.cells #[.slice Ap pl pc,.string (sb x.name),.slice Au un uc] 71)).alloc (.cells #[.slice Bp ql qc,.string (sb y.name),.slice Bu vn vc] 71)):=((ai _ _).alloc (ah _) _).alloc (by simp) _;refine(Qd x y Ap pl pc Au un uc Bp ql qc Bu vn vc _ (HX.out.below hb2) (HY.out.below hb2)).mono ?_;rintro e w3 ⟨rfl,hb3⟩;have HB3:Hid (Below w.heap.size w w3):=HB.out.trans ((hb2.trans (hb3.mono hb2.size)).mono HB.out.size);clear hb2 hb3;by_cases hs:x=y
    .have HN:Hid (ts.take (j+1)=us.take (j+1)):=Gh HI.out HT.out (hs ▸ HT'.out);have hb:decide (x=y)=true:=(by simpa using hs);rw[hb];clear hs hb;go_wp2_with fail;go_roundw;case rel=>exact⟨j+1,by omega,by go_num,HB3.out,HN.out⟩
     case measure=>simp[intOf];omega
    .have HV:Hid (decide (ts=us)=false):=by show _=_;rw[decide_eq_false_iff_not];rintro rfl;have h1:=HT.out;rw[HT'.out] at h1;exact hs (Option.some.inj h1).symm
     have hb:decide (x=y)=false:=(by simpa using hs);rw[hb];clear hs hb;go_wp2_with fail;go_ret;exact ak.intro HV.out.symm HB3.out
   .have HV:Hid (decide (ts=us)=true):=by show _=_;obtain⟨e1,e2⟩:=HL.out;have h:=HI.out;rw[List.take_of_length_le (by omega),List.take_of_length_le (by omega)] at h;simpa using h
    go_wp2_with fail;go_ret;exact ak.intro HV.out.symm HB.out
 .have HV:Hid (decide (ts=us)=false):=by show _=_;rw[decide_eq_false_iff_not];rintro rfl;obtain⟨e1,e2⟩:=HL.out;omega
  have hl':((n:Int) != n')=true:=by simp;omega
  go_in
  go_wp2_with fail;go_ret;exact ak.intro HV.out.symm (ai _ _)
theorem H5(ts us:List j9)(A A':Option Addr)(n c n' c':Nat)(w:World)(hK:Co w ts A n c)(hK':Co w us A' n' c'):Calls Tryz.prog 98 #[.slice A n c,.slice A' n' c'] w (ak (decide (ts=us)) w):=by
 have HP:=ab (Ib ts us A A' n c n' c' w hK hK');clear hK hK'
 go_in
 go_wp2_with fail;refine HP.out.mono ?_;rintro en w1 ⟨rfl,hb⟩;have HB:=ab hb;clear hb;go_wp2;go_ret;exact ak.intro rfl HB.out
def CQ(l:List j9)(p:List Int):Option Nat:=l.findIdx? fun b=>decide (b.path=p)
def Gt(r:Option Nat)(w:World)(e:Ending)(w':World):Prop:=e= .returned (.int .i64 (match r with|some i=>(i:Int)|none=> -1))/\Below w.heap.size w w'
theorem GQ(args:Array Value)(w:World):(callFunc 94 args).run Tryz.prog w= .ok (.enter 94 args) w:=eH Tryz.func94 (by kernel_rfl) (by kernel_rfl) args w
theorem Ij(x:j9)(Ap:Option Addr)(pl pc:Nat)(Au:Option Addr)(un uc:Nat)(p:List Int)(A:Option Addr)(n c wk:Nat)(w:World)(hx:CH w x Ap pl pc Au un uc)(hp:cc w p A n c)(hw:w.cell? ⟨wk,1,none⟩=some (.slice A n c)):Calls Tryz.prog 94 #[.agg #[.slice Ap pl pc,.string (sb x.name),.slice Au un uc],.pointer (some ⟨wk,0,none⟩)] w (ak (decide (x.path=p)) w):=by
 have hb0:Below w.heap.size w (w.alloc (.cells #[.slice Ap pl pc,.string (sb x.name),.slice Au un uc] 71)):=(ai _ _).alloc (ah _) _;have HB0:=ab hb0;have HP:=ab (lz x.path p Ap A pl pc n c _ (hx.path.below hb0) (hp.below hb0));have hwl:=bK hw;have hw2:=ac hb0 hw;clear hx hp hb0
 go_in
 go_wp2_with fail;refine HP.out.mono ?_;rintro e w3 ⟨rfl,nd,rfl⟩;have HB3:=ab (CN HB0.out nd);go_wp2;go_ret;exact ak.intro (by rw[Bool.eq_iff_iff];simp) HB3.out
theorem Ie(l:List j9)(A:Option Addr)(n c:Nat)(p:List Int)(pA:Option Addr)(pn pc0 wk:Nat)(w:World)(hK:Co w l A n c)(hp:cc w p pA pn pc0)(hw:w.cell? ⟨wk,1,none⟩=some (.slice pA pn pc0)):Calls Tryz.prog 93 #[.slice A n c,.func (.func 94) #[] #[.pointer (some ⟨wk,0,none⟩)]] w (Gt (CQ l p) w):=by
 have HK:=ab hK;have HP:=ab hp;have HW:=ab hw;have hnn:n<=9223372036854775807:=(by have h1:=hK.2.1;have h2:=hK.2.2.1;unfold maxLen at h2;omega);have HL:Hid (n=l.length):=hK.1;clear hK hp hw
 go_in
 go_wp2_with fail;go_loopw [8] (fun i wr=>∃j:Nat,j<=n/\i= .int .i64 j/\Hid (Below w.heap.size w wr)/\Hid (∀b∈l.take j,b.path≠p)) (fun i _=>n - (intOf i).toNat);case atStart=>exact⟨0,aE _,rfl,ai _ _,fun b hb=>by simp at hb⟩
 case round=>
  obtain⟨j,hj,rfl,HB,HI⟩:=hrel;by_cases hlt:j<n
  .obtain⟨g,o,x,Ap,pl,pc,Au,un,uc,rfl,ht,q0,q1,q2,hx⟩:=(HK.out.below HB.out).get hlt;have HX:=ab hx;have HT:=ab ht;have hcf:=GQ;clear ht hx;go_wp2_with fail;refine(Ij x Ap pl pc Au un uc p pA pn pc0 wk _ HX.out (HP.out.below HB.out) (ac HB.out HW.out)).mono ?_;rintro e w3 ⟨rfl,hb3⟩;have HB3:Hid (Below w.heap.size w w3):=HB.out.trans (hb3.mono HB.out.size);clear hb3;by_cases hs:x.path=p
   .have HV:Hid (CQ l p=some j):=by show _=_;obtain⟨h1,h2⟩:=gl.1 HT.out;unfold CQ;rw[List.findIdx?_eq_some_iff_getElem];refine⟨h1,by simp[h2,hs],fun i hi=>?_⟩;have h3:=HI.out (l[i]'(by omega)) (List.mem_iff_getElem.2 ⟨i,by simp;omega,by simp⟩);simpa using h3
    have hb:decide (x.path=p)=true:=(by simpa using hs);rw[hb];clear hs hb;go_wp2;go_ret;refine⟨?_,HB3.out⟩;rw[HV.out];first|done|rfl
   .have HN:Hid (∀b∈l.take (j+1),b.path≠p):=by
     show ∀b∈l.take (j+1),b.path≠p;obtain⟨h1,h2⟩:=gl.1 HT.out;rw[List.take_succ_eq_append_getElem h1,h2];intro b hb;rcases List.mem_append.1 hb with hb|hb
     .exact HI.out b hb
     .obtain rfl:=List.mem_singleton.1 hb;exact hs
    have hb:decide (x.path=p)=false:=(by simpa using hs);rw[hb];clear hs hb;go_wp2_with fail;go_roundw;case rel=>exact⟨j+1,by omega,by go_num,HB3.out,HN.out⟩
    case measure=>simp[intOf];omega
  .have HV:Hid (CQ l p=none):=by show _=_;have h:=HI.out;rw[List.take_of_length_le (by have:=HL.out;omega)] at h;unfold CQ;rw[List.findIdx?_eq_none_iff];intro b hb;simpa using h b hb
   go_wp2;go_ret;refine⟨?_,HB.out⟩;rw[HV.out];first|done|rfl
theorem EU{recs:List cz}{st:bo}:∀{l:List Nat},(∀i∈l,i<recs.length)->∀{j i:Nat} {r:cz},l[j]? =some i->recs[i]? =some r->(kh recs st l)[j*3]? =some r.pv/\(kh recs st l)[j*3+1]? =some (.string (sb (fc st i)))/\(kh recs st l)[j*3+2]? =some r.uv
 |[],_,j,i,r,hj,_=>by simp at hj
 |a::l,h,0,i,r,hj,hr=>by
  obtain rfl:a=i:=(by simpa using hj);have e:kh recs st (a::l)=r.pv:: .string (sb (fc st a)) ::r.uv::kh recs st l:=by show C6 recs st a++kh recs st l=_;simp[C6,hr]
  rw[e];exact⟨rfl,rfl,rfl⟩
 |a::l,h,j+1,i,r,hj,hr=>by
  obtain⟨ra,hra⟩:∃r,recs[a]? =some r:=⟨_,br (h a (List.mem_cons_self ..))⟩;have e:kh recs st (a::l)=ra.pv:: .string (sb (fc st a)) ::ra.uv::kh recs st l:=by show C6 recs st a++kh recs st l=_;simp[C6,hra]
  obtain⟨h1,h2,h3⟩:=EU (recs:=recs) (st:=st) (fun i hi=>h i (List.mem_cons_of_mem _ hi)) (j:=j) (by simpa using hj) hr;rw[e];have e1:(j+1) *3=j*3+1+1+1:=(by omega);rw[e1];exact⟨h1,h2,h3⟩
theorem Cv.own{w:World}{B:Nat}{uv:Value}{us:List Value}{ps:List (List Int)}(hr:w.ownsRow B 27 1 uv us.length us)(hu:C5 w us ps):∃A n c,uv= .slice A n c/\Cv w ps A n c:=by
 obtain⟨A,c,rfl,h1,h2⟩:=t9 hr;refine⟨A,_,c,rfl,hu.1,h1,h2,?_⟩;by_cases he:ps=[]
 .exact .inl he
 .have hn:0<us.length:=(by rw[hu.1];exact List.length_pos_iff.2 he);obtain⟨g,rfl⟩:∃g,A=some ⟨g,0,none⟩:=by
   rcases hr.2 with ⟨e,_⟩|⟨g,cap,cur,e,_⟩
   .injection e with _ e _;omega
   .injection e with e _ _;exact⟨g,e⟩
  refine .inr ⟨g,0,rfl,fun j p hp=>?_⟩;have hj:j<us.length:=(by rw[hu.1];exact(gl.1 hp).1);have hv:us[j]? =some us[j]:=br hj;exact⟨_,by rw[Nat.zero_add];exact bH hr j _ hv,hu.2 j _ p hv hp⟩
theorem D5.read{w w':World}{st:bo}{v:Value}(h:D5 w w' st v):∃A n c,v= .slice A n c/\Co w' (st.all.map (cy st)) A n c:=by
 obtain⟨B,wb,fm,recs,av,hB,hm,hr⟩:=h;obtain⟨A,c,rfl,h1,h2⟩:=t9 hr;refine⟨A,_,c,rfl,by simp,h1,h2,?_⟩;by_cases he:st.all=[]
 .exact .inl (by rw[he];rfl)
 .have hn:0<st.all.length:=List.length_pos_iff.2 he;obtain⟨g,rfl⟩:∃g,A=some ⟨g,0,none⟩:=by
   rcases hr.2 with ⟨e,_⟩|⟨g,cap,cur,e,_⟩
   .injection e with _ e _;omega
   .injection e with e _ _;exact⟨g,e⟩
  refine .inr ⟨g,0,rfl,fun j b hb=>?_⟩;rw[List.getElem?_map] at hb;cases hi:st.all[j]? with
  |none=>rw[hi] at hb;cases hb
  |some i=>
   rw[hi] at hb;obtain rfl:cy st i=b:=(by simpa using hb);have hil:=hm.ids i (List.mem_iff_getElem?.2 ⟨j,hi⟩);obtain⟨r,hrr⟩:∃r,recs[i]? =some r:=⟨_,br hil⟩;obtain⟨p,us,ep,hR⟩:=hm.recA i r hrr;obtain⟨k0,k1,k2⟩:=EU (st:=st) hm.ids hi hrr;obtain⟨Ap,pc,hpv,hp1,hp2⟩:=hR.path;obtain⟨Au,un,uc,huv,hu⟩:=Cv.own hR.row hR.uses;have e1:cy st i=⟨p,fc st i,us⟩:=(by unfold cy;rw[ep];rfl);rw[e1];refine⟨Ap,_,pc,Au,un,uc,?_,?_,?_,hp1,hp2,hu⟩
   .rw[Nat.zero_add,<-hpv];exact bH hr _ _ k0
   .rw[Nat.zero_add];exact bH hr _ _ k1
   .rw[Nat.zero_add,<-huv];exact bH hr _ _ k2
theorem D4.read{w w':World}{t:ag}{e:Ending}(h:D4 w t e w'):Below w.heap.size w w'/\∃A n c,e= .returned (.slice A n c)/\Co w' (i5 t) A n c:=by
 obtain⟨hb,v,rfl,h⟩:=h;refine⟨hb,?_⟩;rcases h with ⟨h0,rfl⟩|⟨h0,o,st,hl,hA⟩
 .refine⟨none,0,0,rfl,?_⟩;have e:i5 t=[]:=(by unfold i5;rw[if_pos h0]);rw[e];exact⟨rfl,ah _,by unfold maxLen;omega,.inl rfl⟩
 .obtain⟨A,n,c,rfl,hv⟩:=hA.read;refine⟨A,n,c,rfl,?_⟩;have e:i5 t=st.all.map (cy st):=(by unfold i5;rw[if_neg (by omega),hl]);rw[e];exact hv
def Db(recs:List cz)(st:bo)(p:List Int)(i:Nat):List Value:=match recs[i]? with
 |some r=>[r.pv,.string (sb (if (cy st i).path=p then[] else fc st i)),r.uv]
 |none=>[]
def j3(recs:List cz)(st:bo)(p:List Int)(l:List Nat):List Value:=l.flatMap (Db recs st p)
theorem FB{recs:List cz}{st:bo}{p:List Int}:∀{l:List Nat},(∀i∈l,i<recs.length)->(j3 recs st p l).length=l.length*3
 |[],_=>rfl
 |a::l,h=>by obtain⟨r,hr⟩:∃r,recs[a]? =some r:=⟨_,br (h a (List.mem_cons_self ..))⟩;have e:j3 recs st p (a::l)=Db recs st p a++j3 recs st p l:=rfl;rw[e,CD,FB fun i hi=>h i (List.mem_cons_of_mem _ hi)];simp[Db,hr];omega
def CZ(recs:List cz)(st:bo)(p:List Int)(j:Nat):List Value:=j3 recs st p (st.all.take j)++kh recs st (st.all.drop j)
theorem II{recs:List cz}{st:bo}{p:List Int}{j i:Nat}{r:cz}(h:∀i∈st.all,i<recs.length)(hi:st.all[j]? =some i)(hr:recs[i]? =some r):(CZ recs st p j)[j*3]? =some r.pv/\((cy st i).path≠p->CZ recs st p (j+1)=CZ recs st p j)/\((cy st i).path=p->CZ recs st p (j+1)=(CZ recs st p j).set (j*3+1) (.string (sb []))):=by
 obtain⟨h1,h2⟩:=gl.1 hi;have hl:(j3 recs st p (st.all.take j)).length=j*3:=by rw[FB fun i hi=>h i (List.mem_of_mem_take hi),List.length_take];omega
 have e0:st.all.drop j=i::st.all.drop (j+1):=(by rw[List.drop_eq_getElem_cons h1,h2]);have e1:kh recs st (st.all.drop j)=[r.pv,.string (sb (fc st i)),r.uv]++kh recs st (st.all.drop (j+1)):=by rw[e0];show C6 recs st i++kh recs st (st.all.drop (j+1))=_;simp[C6,hr]
 have e2:j3 recs st p (st.all.take (j+1))=j3 recs st p (st.all.take j)++[r.pv,.string (sb (if (cy st i).path=p then[] else fc st i)),r.uv]:=by unfold j3;rw[List.take_succ_eq_append_getElem h1,List.flatMap_append,h2];simp[Db,hr]
 unfold CZ;rw[e1,e2];refine⟨?_,fun hn=>?_,fun hy=>?_⟩
 .rw[eK (by omega),hl];simp
 .rw[if_neg hn];simp
 .rw[if_pos hy,List.set_append_right _ _ (by omega),hl];have:j*3+1 - j*3=1:=(by omega);rw[this];simp
theorem eP.far_set{w:World}{B wb fm:Nat}{recs:List cz}{av:Value}{st:bo}(h:eP w B wb fm recs av st){B2 n g c:Nat}{xs:List Value}(hr:w.ownsRow B2 71 3 (.slice (some ⟨g,0,none⟩) n c) n xs)(j:Nat)(u:Value):eP (w.setCell ⟨g,j,none⟩ u) B wb fm recs av st:=by
 refine h.only (S:=fun k=>k=g) ((cg.refl (fun k=>k=g) w).set (a:=⟨g,j,none⟩) (.inr rfl) u) ?_ ?_
 .rintro k rfl cs fr e;obtain⟨_,cs',fr',hh⟩:=hX hr (k:=k) rfl;rw[hh] at e;simp at e
 .rintro k hk rfl;obtain⟨_,cs',fr',hh⟩:=hX hr (k:=k) rfl;obtain⟨cs,T,fr,h2,ht⟩:=h.types k hk;rw[hh] at h2;injection h2 with h2;injection h2 with _ h2 _;subst h2;rcases ht with h|h|h|h<;>exact absurd h (by decide)
theorem FA{recs:List cz}{st:bo}{p:List Int}:∀{l:List Nat},(∀i∈l,i<recs.length)->∀{j i:Nat} {r:cz},l[j]? =some i->recs[i]? =some r->(j3 recs st p l)[j*3]? =some r.pv/\(j3 recs st p l)[j*3+1]? =some (.string (sb (if (cy st i).path=p then[] else fc st i)))/\(j3 recs st p l)[j*3+2]? =some r.uv
 |[],_,j,i,r,hj,_=>by simp at hj
 |a::l,h,0,i,r,hj,hr=>by
  obtain rfl:a=i:=(by simpa using hj);have e:j3 recs st p (a::l)=r.pv:: .string (sb (if (cy st a).path=p then[] else fc st a)) ::r.uv::j3 recs st p l:=by show Db recs st p a++j3 recs st p l=_;simp[Db,hr]
  rw[e];exact⟨rfl,rfl,rfl⟩
 |a::l,h,j+1,i,r,hj,hr=>by
  obtain⟨ra,hra⟩:∃r,recs[a]? =some r:=⟨_,br (h a (List.mem_cons_self ..))⟩;have e:j3 recs st p (a::l)=ra.pv:: .string (sb (if (cy st a).path=p then[] else fc st a)) ::ra.uv::j3 recs st p l:=by show Db recs st p a++j3 recs st p l=_;simp[Db,hra]
  obtain⟨h1,h2,h3⟩:=FA (recs:=recs) (st:=st) (p:=p) (fun i hi=>h i (List.mem_cons_of_mem _ hi)) (j:=j) (by simpa using hj) hr;rw[e];have e1:(j+1) *3=j*3+1+1+1:=(by omega);rw[e1];exact⟨h1,h2,h3⟩
theorem IJ{w':World}{st:bo}{B wb fm B2:Nat}{recs:List cz}{av v:Value}{p:List Int}(hm:eP w' B wb fm recs av st)(hr:w'.ownsRow B2 71 3 v st.all.length (j3 recs st p st.all)):∃A n c,v= .slice A n c/\Co w' (vi p (st.all.map (cy st))) A n c:=by
 obtain⟨A,c,rfl,h1,h2⟩:=t9 hr;refine⟨A,_,c,rfl,by simp[vi],h1,h2,?_⟩;by_cases he:st.all=[]
 .exact .inl (by rw[he];rfl)
 .have hn:0<st.all.length:=List.length_pos_iff.2 he;obtain⟨g,rfl⟩:∃g,A=some ⟨g,0,none⟩:=by
   rcases hr.2 with ⟨e,_⟩|⟨g,cap,cur,e,_⟩
   .injection e with _ e _;omega
   .injection e with e _ _;exact⟨g,e⟩
  refine .inr ⟨g,0,rfl,fun j b hb=>?_⟩;unfold vi at hb;rw[List.getElem?_map,List.getElem?_map] at hb;cases hi:st.all[j]? with
  |none=>rw[hi] at hb;cases hb
  |some i=>
   rw[hi] at hb;have hil:=hm.ids i (List.mem_iff_getElem?.2 ⟨j,hi⟩);obtain⟨r,hrr⟩:∃r,recs[i]? =some r:=⟨_,br hil⟩;obtain⟨pp,us,ep,hR⟩:=hm.recA i r hrr;obtain⟨k0,k1,k2⟩:=FA (st:=st) (p:=p) hm.ids hi hrr;obtain⟨Ap,pc,hpv,hp1,hp2⟩:=hR.path;obtain⟨Au,un,uc,huv,hu⟩:=Cv.own hR.row hR.uses;have e1:cy st i=⟨pp,fc st i,us⟩:=(by unfold cy;rw[ep];rfl);simp only[Option.map_some] at hb;rw[e1] at hb k1;have e2:b=⟨pp,if pp=p then[] else fc st i,us⟩:=by simp only[Option.some.injEq] at hb;rw[<-hb];split<;>simp_all
   rw[e2];refine⟨Ap,_,pc,Au,un,uc,?_,?_,?_,hp1,hp2,hu⟩
   .rw[Nat.zero_add,<-hpv];exact bH hr _ _ k0
   .rw[Nat.zero_add];exact bH hr _ _ k1
   .rw[Nat.zero_add,<-huv];exact bH hr _ _ k2
def CI(w:World)(N:Nat)(l:List j9)(A:Option Addr)(n c:Nat):Prop:=(l=[]/\A=none/\n=0/\c=0)∨∃(st:bo) (B wb fm:Nat) (recs:List cz) (av:Value) (p:List Int) (B2:Nat),N<=B/\N<=B2/\eP w B wb fm recs av st/\w.ownsRow B2 71 3 (.slice A n c) st.all.length (j3 recs st p st.all)/\l=vi p (st.all.map (cy st))
theorem CI.read{w:World}{N:Nat}{l:List j9}{A:Option Addr}{n c:Nat}(h:CI w N l A n c):Co w l A n c:=by
 rcases h with ⟨rfl,rfl,rfl,rfl⟩|⟨st,B,wb,fm,recs,av,p,B2,h1,h2,h3,h4,rfl⟩
 .exact⟨rfl,ah _,by unfold maxLen;omega,.inl rfl⟩
 .obtain⟨A',n',c',e,h5⟩:=IJ h3 h4;injection e with e1 e2 e3;subst e1 e2 e3;exact h5
theorem CI.only{S:Nat->Prop}{w w':World}{N:Nat}{l:List j9}{A:Option Addr}{n c:Nat}(h:CI w N l A n c)(ho:cg S w w')(hS:Cc S w)(hN:∀k,S k->k<N):CI w' N l A n c:=by
 rcases h with h|⟨st,B,wb,fm,recs,av,p,B2,h1,h2,h3,h4,h5⟩
 .exact .inl h
 .exact .inr ⟨st,B,wb,fm,recs,av,p,B2,h1,h2,h3.only ho hS (fun k hk hs=>by have:=(h3.lows k hk).1;have:=hN k hs;omega),Dd h4 ho (fun k hk hs=>by have:=(h4.lt k hk).1;have:=hN k hs;omega),h5⟩
theorem CI.below{w w':World}{N:Nat}{l:List j9}{A:Option Addr}{n c:Nat}(h:CI w N l A n c)(hb:Below w.heap.size w w'):CI w' N l A n c:=h.only (S:=fun _=>False) (cg.of_below hb) (fun _ h=>h.elim) fun _ h=>h.elim
def Gv(l:List j9)(w:World)(e:Ending)(w':World):Prop:=Below w.heap.size w w'/\∃A n c,e= .returned (.slice A n c)/\CI w' w.heap.size l A n c
def DN(w:World)(B2 B wb fm:Nat)(recs:List cz)(av:Value)(st:bo)(p:List Int)(v:Value)(j:Nat)(W:World):Prop:=
 Below w.heap.size w W/\eP W B wb fm recs av st/\w.heap.size<=B2/\W.ownsRow B2 71 3 v st.all.length (CZ recs st p j)
theorem FI(t:ag)(k:Nat)(s:ByteArray)(x:Int)(A:Option Addr)(n c:Nat)(p:List Int)(pA:Option Addr)(pn pc:Nat)(w:World)(hN:cf w t k s x A n c)(hsh:t.short 281474976710656)(hsz:t.sz<=100000)(hE:bI w)(hp:cc w p pA pn pc):Calls Tryz.prog 95 #[.agg #[.int .u8 k,.string s,.int .i64 x,.slice A n c],.slice pA pn pc] w (Gv (vi p (i5 t)) w):=by
 have hb0:Below w.heap.size w (w.alloc (.cells #[.int .u8 k,.string s,.int .i64 x,.slice A n c] 25)):=(ai _ _).alloc (ah _) _;have hpb:=Ev t k s x A n c _ (hN.below hb0) hsh hsz (hE.below hb0 (ah _));have HB0:=ab hb0;have HP:=ab hp;clear hb0 hN hsh hE hp
 go_in
 go_wp2_with fail;refine hpb.mono ?_;rintro en w1 ⟨hb1,v,rfl,hv⟩;have HB1:Hid (Below w.heap.size w w1):=HB0.out.trans (hb1.mono HB0.out.size);rcases hv with ⟨h0,rfl⟩|⟨h0,o,st,hl,B,wb,fm,recs,av,hB,hm,hr⟩
 .have e:Hid (i5 t=[]):=(by show _=_;unfold i5;rw[if_pos h0]);clear hb1 h0 hpb;go_wp2_with fail;go_loopw [11] (fun i wr=>i= .int .i64 0/\Hid (w1=wr)) (fun i _=>0);case atStart=>exact⟨rfl,rfl⟩
  case round=>obtain⟨rfl,HW⟩:=hrel;go_wp2;go_ret;rw[e.out,<-HW.out];exact⟨HB1.out,none,0,0,rfl,.inl ⟨rfl,rfl,rfl,rfl⟩⟩
 .have e:Hid (i5 t=st.all.map (cy st)):=(by show _=_;unfold i5;rw[if_neg (by omega),hl]);obtain⟨vA,vc,hv,hv1,hv2⟩:=t9 hr;subst hv;have hnn:st.all.length<=9223372036854775807:=(by unfold maxLen at hv2;omega);have HL0:Hid (DN w (w.alloc (.cells #[.int .u8 k,.string s,.int .i64 x,.slice A n c] 25)).heap.size B wb fm recs av st p (.slice vA st.all.length vc) 0 w1):=⟨HB1.out,hm,by simp,by show World.ownsRow _ _ _ _ _ _ (j3 recs st p []++_);exact hr⟩;have HBB:=ab hB;clear hb1 h0 hl hB hm hr hv1 hv2 hpb;go_wp2_with fail;go_loopw [11] (fun i wr=>∃j:Nat,j<=st.all.length/\i= .int .i64 j/\Hid (DN w (w.alloc (.cells #[.int .u8 k,.string s,.int .i64 x,.slice A n c] 25)).heap.size B wb fm recs av st p (.slice vA st.all.length vc) j wr)) (fun i _=>st.all.length - (intOf i).toNat);case atStart=>exact⟨0,aE _,rfl,HL0.out⟩
  case round=>
   obtain⟨j,hj,rfl,HLR⟩:=hrel;obtain⟨hbe,hm,hB2,hrow⟩:=HLR.out;by_cases hlt:j<st.all.length
   .obtain⟨i,hi⟩:∃i,st.all[j]? =some i:=⟨_,br hlt⟩;have hil:i<recs.length:=hm.ids i (List.mem_iff_getElem?.2 ⟨j,hi⟩);obtain⟨r,hrr⟩:∃r,recs[i]? =some r:=⟨_,br hil⟩;obtain⟨g,rfl⟩:∃g,vA=some ⟨g,0,none⟩:=by
     rcases hrow.2 with ⟨e,_⟩|⟨g,cap,cur,e,_⟩
     .injection e with _ e _;omega
     .injection e with e _ _;exact⟨g,e⟩
    obtain⟨k0,k1,k2⟩:=II (p:=p) hm.ids hi hrr;obtain⟨pp,us,ep,hR⟩:=hm.recA i r hrr;obtain⟨Ap,pc',hpv,hp1,_⟩:=hR.path;have e1:(cy st i).path=pp:=(by unfold cy;rw[ep];rfl);rw[e1] at k1 k2;rw[hpv] at k0;have q0:=bH hrow _ _ k0;obtain⟨x1,q1⟩:∃x1,wr.cell? ⟨g,j*3+1,none⟩=some x1:=⟨_,(hrow.cellAt (j*3+1) (by omega)).trans (br (by rw[hrow.1];omega))⟩;have f1:=hrow.frozenAt (j*3+1);have HS:=ab (hrow.stored (j*3+1) (.string (sb [])));have HM2:=ab (hm.far_set hrow (j*3+1) (.string (sb [])));have HPC:=ab (H9 pp p Ap pp.length pc' pA pn pc wr hp1 (HP.out.below hbe));have hgl:=(hrow.lt g rfl).1;clear hR hm hrow ep hi hrr k0 hp1;go_wp2_with fail;refine HPC.out.mono ?_;rintro en w3 ⟨rfl,rfl⟩;by_cases hc:pp=p
    .have hz:=Ei.2 hc;rw[hz];have HL4:Hid (DN w (w.alloc (.cells #[.int .u8 k,.string s,.int .i64 x,.slice A n c] 25)).heap.size B wb fm recs av st p (.slice (some ⟨g,0,none⟩) st.all.length vc) (j+1) (w3.setCell ⟨g,j*3+1,none⟩ (.string (sb [])))):=by refine⟨hbe.trans (((cg.refl (fun q=>w.heap.size<=q) w3).set (a:=⟨g,j*3+1,none⟩) (.inr (by simp at hgl ⊢;omega)) _).below hbe.size fun _ h=>h),HM2.out,hB2,?_⟩;rw[k2 hc];exact HS.out.1
     clear hc hz k1 k2 hbe HLR;go_wp2;go_roundw;case rel=>exact⟨j+1,by omega,by go_num,HL4.out⟩
     case measure=>simp[intOf];omega
    .have hz:(B9 pp p == 0)=false:=by simpa using fun h=>hc (Ei.1 h)
     have HL4:Hid (DN w (w.alloc (.cells #[.int .u8 k,.string s,.int .i64 x,.slice A n c] 25)).heap.size B wb fm recs av st p (.slice (some ⟨g,0,none⟩) st.all.length vc) (j+1) w3):=by obtain⟨a1,a2,a3,a4⟩:=HLR.out;exact⟨a1,a2,a3,by rw[k1 hc];exact a4⟩
     clear hc k1 k2 hbe HLR;go_wp2;go_roundw;case rel=>exact⟨j+1,by omega,by go_num,HL4.out⟩
     case measure=>simp[intOf];omega
   .have hjn:j=st.all.length:=(by omega);have HEND:Hid (Below w.heap.size w wr/\∃A n c,(Value.slice vA st.all.length vc)= .slice A n c/\CI wr w.heap.size (vi p (st.all.map (cy st))) A n c):=by
     refine⟨hbe,_,_,_,rfl,.inr ⟨st,B,wb,fm,recs,av,p,(w.alloc (.cells #[.int .u8 k,.string s,.int .i64 x,.slice A n c] 25)).heap.size,by have:=HBB.out;simp at this;omega,by simp,hm,?_,rfl⟩⟩;have e2:CZ recs st p j=j3 recs st p st.all:=by unfold CZ;rw[hjn,List.take_length,List.drop_length];show _++[]=_;simp
     rw[<-e2];exact hrow
    clear hbe hm hrow HLR hB2;go_wp2;go_ret;obtain⟨h1,A',n',c',e',hv⟩:=HEND.out;rw[e.out];exact⟨h1,A',n',c',congrArg Ending.returned e',hv⟩
def Ce(r:Except Nat ag)(w:World)(e:Ending)(w':World):Prop:=Below w.heap.size w w'/\match r with
 | .error n=>e= .returned (.tuple #[.agg #[.int .u8 0,.string ⟨#[]⟩,.int .i64 0,.slice none 0 0],.int .i64 n])
 | .ok t=>∃(k:Nat) (s:ByteArray) (x:Int) (A:Option Addr) (n c:Nat),e= .returned (.tuple #[.agg #[.int .u8 k,.string s,.int .i64 x,.slice A n c],.int .i64 0])/\cf (cX w' w.heap.size) t k s x A n c
theorem Ce.err{r:Except Nat ag}{w w':World}{n:Nat}(h:r= .error n)(hb:Below w.heap.size w w'):Ce r w (.returned (.tuple #[.agg #[.int .u8 0,.string ⟨#[]⟩,.int .i64 0,.slice none 0 0],.int .i64 n])) w':=by subst h;exact⟨hb,rfl⟩
theorem Ce.ok{r:Except Nat ag}{w w':World}{t:ag}{k:Nat}{s:ByteArray}{x:Int}{A:Option Addr}{n c:Nat}(h:r= .ok t)(hb:Below w.heap.size w w')(hN:cf (cX w' w.heap.size) t k s x A n c):Ce r w (.returned (.tuple #[.agg #[.int .u8 k,.string s,.int .i64 x,.slice A n c],.int .i64 0])) w':=by subst h;exact⟨hb,k,s,x,A,n,c,rfl,hN⟩
theorem DI{W:World}{t:Array Value}{Q:Ending->World->Prop}{b:Nat}{n:Int}{v0 v1 v2 v3:Value}(h2:t[2]? =some (.pointer (some ⟨b,0,none⟩)))(h3:t[3]? =some (.int .i64 n))(c0:W.cell? ⟨b,0,none⟩=some v0)(c1:W.cell? ⟨b,1,none⟩=some v1)(c2:W.cell? ⟨b,2,none⟩=some v2)(c3:W.cell? ⟨b,3,none⟩=some v3)(h:Q (.returned (.tuple #[.agg #[v0,v1,v2,v3],.int .i64 n])) W):bodyPost Tryz.prog Tryz.f47 Q Exit.ret { tmps:=t,defers:=[] } W:=by
 have hres:(results Tryz.f47 t).run Tryz.prog W= .ok (.tuple #[.agg #[v0,v1,v2,v3],.int .i64 n]) W:=by simp[results,Tryz.results47,go_sem,h2,h3,c0,c1,c2,c3]
 exact bodyPost_ret hres rfl h
theorem CY{w W:World}{b:Nat}{T:TypeId}{v0 v1 v2 v3 z0 z1 z2 z3:Value}(h:W.heap[b]? =some (.cells #[z0,z1,z2,z3] T (0,0)))(hb:Below w.heap.size w W)(hB:w.heap.size<=b):((((W.setCell ⟨b,0,none⟩ v0).setCell ⟨b,1,none⟩ v1).setCell ⟨b,2,none⟩ v2).setCell ⟨b,3,none⟩ v3).cell? ⟨b,0,none⟩=some v0/\((((W.setCell ⟨b,0,none⟩ v0).setCell ⟨b,1,none⟩ v1).setCell ⟨b,2,none⟩ v2).setCell ⟨b,3,none⟩ v3).cell? ⟨b,1,none⟩=some v1/\((((W.setCell ⟨b,0,none⟩ v0).setCell ⟨b,1,none⟩ v1).setCell ⟨b,2,none⟩ v2).setCell ⟨b,3,none⟩ v3).cell? ⟨b,2,none⟩=some v2/\((((W.setCell ⟨b,0,none⟩ v0).setCell ⟨b,1,none⟩ v1).setCell ⟨b,2,none⟩ v2).setCell ⟨b,3,none⟩ v3).cell? ⟨b,3,none⟩=some v3/\Below w.heap.size w ((((W.setCell ⟨b,0,none⟩ v0).setCell ⟨b,1,none⟩ v1).setCell ⟨b,2,none⟩ v2).setCell ⟨b,3,none⟩ v3):=by obtain⟨r0,r1,r2,r3,_⟩:=di h;obtain⟨a0,a1,a2,a3⟩:=mL (v0:=v0) (v1:=v1) (v2:=v2) (v3:=v3) r0 r1 r2 r3;exact⟨a0,a1,a2,a3,(((hb.setCell hB _).setCell hB _).setCell hB _).setCell hB _⟩
theorem G1{l:List j9}{p:List Int}(h:CQ l p=none):l.find? (fun b=>decide (b.path=p))=none:=by unfold CQ at h;rw[List.findIdx?_eq_none_iff] at h;rw[List.find?_eq_none];intro x hx;simpa using h x hx
theorem G2{l:List j9}{p:List Int}{i:Nat}(h:CQ l p=some i):∃b,l[i]? =some b/\b.path=p/\l.find? (fun b=>decide (b.path=p))=some b:=by unfold CQ at h;obtain⟨h1,h2,h3⟩:=List.findIdx?_eq_some_iff_getElem.1 h;refine⟨l[i],br h1,of_decide_eq_true h2,?_⟩;rw[List.find?_eq_some_iff_getElem];exact⟨h2,i,h1,rfl,fun j hj=>by simpa using h3 j hj⟩
def DW(b q:Nat):Bool:=decide (q≠b/\q≠b+1)
theorem cf.off{w:World}{S:Nat->Bool}{t:ag}{k:Nat}{s:ByteArray}{x:Int}{A:Option Addr}{n c:Nat}(h:cf (fS w S) t k s x A n c):cf w t k s x A n c:=h.keep fun _ _ hc=>(fD.1 hc).2
theorem cf.offBelow{w w':World}{S:Nat->Bool}{t:ag}{k:Nat}{s:ByteArray}{x:Int}{A:Option Addr}{n c:Nat}(h:cf (fS w S) t k s x A n c)(hb:Below w.heap.size w w'):cf (fS w' S) t k s x A n c:=h.keep fun a v hc=>by obtain⟨h1,h2⟩:=fD.1 hc;exact fD.2 ⟨h1,ac hb h2⟩
theorem cf.lentOff{w W:World}{t:ag}{k:Nat}{s:ByteArray}{x:Int}{A:Option Addr}{n c:Nat}(h:cf w t k s x A n c)(hb:Below w.heap.size w W):cf (fS W (DW w.heap.size)) t k s x A n c:=h.keep fun a v hc=>fD.2 ⟨by have:=bK hc;simp[DW];omega,ac hb hc⟩
theorem cf.sinceBelow{w w':World}{B:Nat}{t:ag}{k:Nat}{s:ByteArray}{x:Int}{A:Option Addr}{n c:Nat}(h:cf (cX w B) t k s x A n c)(hb:Below w.heap.size w w'):cf (cX w' B) t k s x A n c:=h.keep fun a v hc=>by obtain⟨h1,h2⟩:=i8.1 hc;exact i8.2 ⟨h1,ac hb h2⟩
theorem cf.sincePut4{B:Nat}{W:World}{t:ag}{k:Nat}{s:ByteArray}{x:Int}{A:Option Addr}{n c:Nat}{v0 v1 v2 v3:Value}(h:cf (cX W (B+2)) t k s x A n c):cf (cX ((((W.setCell ⟨B+1,0,none⟩ v0).setCell ⟨B+1,1,none⟩ v1).setCell ⟨B+1,2,none⟩ v2).setCell ⟨B+1,3,none⟩ v3) B) t k s x A n c:=h.keep fun a v hc=>by
 obtain⟨h1,h2⟩:=i8.1 hc;have hne:∀q,a≠(⟨B+1,q,none⟩:Addr):=fun q e=>by have g3:B+2<=B+1:=(by rw[e] at h1;exact h1);omega
 exact i8.2 ⟨by omega,am (hne _) (am (hne _) (am (hne _) (am (hne _) h2)))⟩
structure DE (w W:World) (T:ag) (a:ar) (ps:List (List Int)) (l:List j9) (x0 x1 x2 x3 x4 x5 x6 x7:Value) (A4:Option Addr) (n4 c4:Nat) (As:Option Addr) (ns cs N:Nat) (j:Nat):Prop where
 bel:Below w.heap.size w W
 nod:∃(k:Nat) (s:ByteArray) (x:Int) (A:Option Addr) (n c:Nat),W.heap[w.heap.size]? =some (.cells #[x0,x1,x2,x3,x4,x5,x6,x7,.int .u8 k,.string s,.int .i64 x,.slice A n c] 83 (0,0))/\cf (fS W (DW w.heap.size)) (wc T a (ps.take j)) k s x A n c/\(0<j->cf (cX W (w.heap.size+2)) (wc T a (ps.take j)) k s x A n c)
 res:W.heap[w.heap.size+1]? =some (.cells #[.int .u8 0,.string ⟨#[]⟩,.int .i64 0,.slice none 0 0] 25 (0,0))
 lo:w.heap.size<N
 ps:Cr W N w.heap.size ps A4 n4 c4
 shp:CI W N l As ns cs
theorem DE.next{w W w5:World}{T:ag}{a:ar}{ps:List (List Int)}{l:List j9}{x0 x1 x2 x3 x4 x5 x6 x7:Value}{A4:Option Addr}{n4 c4:Nat}{As:Option Addr}{ns cs N:Nat}{j:Nat}{q:List Int}{k:Nat}{s:ByteArray}{x:Int}{A:Option Addr}{n c:Nat}(h:DE w W T a ps l x0 x1 x2 x3 x4 x5 x6 x7 A4 n4 c4 As ns cs N j)(hq:ps[j]? =some q)(hb:Below W.heap.size W w5)(hN:cf (cX w5 W.heap.size) ((wc T a (ps.take j)).setAt a q) k s x A n c):DE w ((((w5.setCell ⟨w.heap.size,8,none⟩ (.int .u8 k)).setCell ⟨w.heap.size,9,none⟩ (.string s)).setCell ⟨w.heap.size,10,none⟩ (.int .i64 x)).setCell ⟨w.heap.size,11,none⟩ (.slice A n c)) T a ps l x0 x1 x2 x3 x4 x5 x6 x7 A4 n4 c4 As ns cs N (j+1):=by
 obtain⟨h1,⟨k0,s0,y0,A0,n0,c0,h2,_⟩,h3,h4,h5,h6⟩:=h;have hlt:w.heap.size<W.heap.size:=(aK.1 h2).1;have hlt1:w.heap.size+1<W.heap.size:=(aK.1 h3).1;have hblk:w5.heap[w.heap.size]? =_:=(hb.block _ hlt).trans h2;have hst:∀(W1:World),cg (fun k=>k=w.heap.size) w5 W1->∀(q:Nat) (v:Value),cg (fun k=>k=w.heap.size) w5 (W1.setCell ⟨w.heap.size,q,none⟩ v):=fun W1 h q v=>cg.set h (a:=⟨w.heap.size,q,none⟩) (.inr rfl) v;have hon:=hst _ (hst _ (hst _ (hst _ (cg.refl _ _) 8 (.int .u8 k)) 9 (.string s)) 10 (.int .i64 x)) 11 (.slice A n c);have hno:Cc (fun k=>k=w.heap.size) w5:=fun k hk cs fr e=>by subst hk;rw[hblk] at e;injection e with e;injection e with _ ht;exact absurd ht (by decide)
 refine⟨(((((h1.trans (hb.mono h1.size)).setCell (ah _) _).setCell (ah _) _).setCell (ah _) _).setCell (ah _) _),⟨k,s,x,A,n,c,?_,?_⟩,?_,h4,(h5.below hb).turn (by omega) (fun k hk hne=>hon.keep k hk hne),(h6.below hb).only hon hno (fun k hk=>by omega)⟩
 .simp[World.setCell,Array.getElem?_modify,hblk]
 .rw[Iu hq];have key:∀(b:Addr) v,(cX w5 W.heap.size).cell? b=some v->W.heap.size<=b.block/\((((w5.setCell ⟨w.heap.size,8,none⟩ (.int .u8 k)).setCell ⟨w.heap.size,9,none⟩ (.string s)).setCell ⟨w.heap.size,10,none⟩ (.int .i64 x)).setCell ⟨w.heap.size,11,none⟩ (.slice A n c)).cell? b=some v:=fun b v hv=>by
   obtain⟨g1,g2⟩:=i8.1 hv;have hne:∀i,b≠(⟨w.heap.size,i,none⟩:Addr):=fun i e=>by have g3:W.heap.size<=w.heap.size:=(by rw[e] at g1;exact g1);omega
   exact⟨g1,am (hne _) (am (hne _) (am (hne _) (am (hne _) g2)))⟩
  exact⟨hN.keep fun b v hv=>fD.2 ⟨by have:=(key b v hv).1;simp[DW];omega,(key b v hv).2⟩,fun _=>hN.keep fun b v hv=>i8.2 ⟨by have:=(key b v hv).1;omega,(key b v hv).2⟩⟩
 .rw[hon.keep _ (by have:=hb.size;omega) (by simp)];exact(hb.block _ hlt1).trans h3
theorem Ii(T:ag)(x0 x2 x3 x6 x7:Value)(f t:ByteArray)(p:List Int)(pA:Option Addr)(pc:Nat)(k:Nat)(s:ByteArray)(x:Int)(A:Option Addr)(n c:Nat)(w:World)(hN:cf w T k s x A n c)(hsh:T.short 281474976710656)(hsz:T.sz<=100000)(hE:bI w)(hp:cc w p pA p.length pc)(ht:t.size<=281474976710656):Calls Tryz.prog 47 #[.agg #[x0,.slice pA p.length pc,x2,x3,.string f,.string t,x6,x7,.int .u8 k,.string s,.int .i64 x,.slice A n c]] w (Ce (Ca T p (bl f) (bl t)) w):=by
 have hb0:Below w.heap.size w ((w.alloc (.cells #[x0,.slice pA p.length pc,x2,x3,.string f,.string t,x6,x7,.int .u8 k,.string s,.int .i64 x,.slice A n c] 83)).alloc (.cells #[.int .u8 0,.string ⟨#[]⟩,.int .i64 0,.slice none 0 0] 25)):=((ai _ _).alloc (ah _) _).alloc (by simp) _;have HPZ:=ab (hp.notZ (ah w.heap.size));have HB0:=ab hb0;have HW0:Hid (((w.alloc (.cells #[x0,.slice pA p.length pc,x2,x3,.string f,.string t,x6,x7,.int .u8 k,.string s,.int .i64 x,.slice A n c] 83)).alloc (.cells #[.int .u8 0,.string ⟨#[]⟩,.int .i64 0,.slice none 0 0] 25)).heap[w.heap.size]? =some (.cells #[x0,.slice pA p.length pc,x2,x3,.string f,.string t,x6,x7,.int .u8 k,.string s,.int .i64 x,.slice A n c] 83 (0,0))):=(heap_alloc_old _ _ (by simp)).trans (heap_alloc_new _ _);have HR0:Hid (((w.alloc (.cells #[x0,.slice pA p.length pc,x2,x3,.string f,.string t,x6,x7,.int .u8 k,.string s,.int .i64 x,.slice A n c] 83)).alloc (.cells #[.int .u8 0,.string ⟨#[]⟩,.int .i64 0,.slice none 0 0] 25)).heap[w.heap.size+1]? =some (.cells #[.int .u8 0,.string ⟨#[]⟩,.int .i64 0,.slice none 0 0] 25 (0,0))):=heap_alloc_at (by simp);have HN:=ab hN;have HE:=ab hE;have HP:=ab hp;have HSH:=ab hsh;have hbp:=ab (Ev T k s x A n c _ (hN.below hb0) hsh hsz (hE.below hb0 (ah _)));clear hb0 hN hsh hE hp;have hfd:∀(a b:Int) (w:World),(Instr.field 76 (.agg #[.int .i64 a,.int .i64 b]) 0).run Tryz.prog w= .ok (.int .i64 a) w:=fun a b w=>by kernel_rfl
 go_in
 go_wp2_with fail;refine hbp.out.mono ?_;intro en w1 hpost;obtain⟨hb1,A',n',c',rfl,hv⟩:=hpost.read;have HB1:=ab (af HB0.out hb1);have HW1:=ab ((hb1.block _ (by simp;omega)).trans HW0.out);have HR1:=ab ((hb1.block _ (by simp)).trans HR0.out);have HV:=ab hv;clear hpost hb1 hv hbp HB0 HW0 HR0;have B12:=(cr HW1.out).1;have b1:=B12.c1;have b8:=B12.c8;have b9:=B12.c9;have b10:=B12.c10;have b11:=B12.c11;clear B12;go_wp2_with fail;refine(Ie _ A' n' c' p pA p.length pc w.heap.size w1 HV.out (HP.out.below HB1.out) b1).mono ?_;rintro en w2 ⟨rfl,hb2⟩;have HB2:=ab (af HB1.out hb2);have HW2:=ab ((hb2.block _ (aK.1 HW1.out).1).trans HW1.out);have HR2:=ab ((hb2.block _ (aK.1 HR1.out).1).trans HR1.out);have HV2:=ab (HV.out.below hb2);clear hb2 HB1 HW1 HR1 HV b1 b8 b9 b10 b11;cases hidx:CQ (i5 T) p with
 |none=>have HRES:Hid (Ca T p (bl f) (bl t)= .error 6):=(by show _=_;unfold Ca;rw[G1 hidx]);clear hidx;obtain⟨r0,r1,r2,r3,g0,g1,g2,g3⟩:=di HR2.out;go_wp2_with fail;obtain⟨a0,a1,a2,a3,hb9⟩:=CY (v0:=.int .u8 0) (v1:=.string ⟨#[]⟩) (v2:=.int .i64 0) (v3:=.slice none 0 0) HR2.out HB2.out (by omega);refine DI (b:=w.heap.size+1) rfl rfl a0 a1 a2 a3 (Ce.err HRES.out hb9)
 |some i=>
  obtain⟨b,hi,hbp,hfind⟩:=G2 hidx;have hin:i<n':=(by have h1:=HV2.out.1;have h2:=(gl.1 hi).1;omega);have hnn:n'<=9223372036854775807:=(by have h1:=HV2.out.2.1;have h2:=HV2.out.2.2.1;unfold maxLen at h2;omega);obtain⟨g,o,b',Ap,pl,pc',Au,un,uc,rfl,hi',q0,q1,q2,hbv⟩:=HV2.out.get hin;rw[hi] at hi';injection hi' with hi';subst hi';have HBV:=ab hbv;have HBK:Hid (∀q∈b.path::b.uses,∃k,T.kindAt q=some k):=GF (List.mem_iff_getElem?.2 ⟨i,hi⟩);have HFI:=ab hfind;have HUL:Hid (b.uses.length<=1000000):=GE (List.mem_iff_getElem?.2 ⟨i,hi⟩) (by omega);have HBP:=ab hbp;clear hidx hi hbp hfind hbv;have B12:=(cr HW2.out).1;have b4:=B12.c4;clear B12;by_cases hnm:b.name=bl f
  .obtain rfl:f=sb b.name:=(by rw[hnm]);have B12:=(cr HW2.out).1;have b1:=B12.c1;have b8:=B12.c8;have b9:=B12.c9;have b10:=B12.c10;have b11:=B12.c11;clear B12;go_wp2_with fail
   go_region
   all_goals
    go_wp2_with fail;refine(FI T k s x A n c p pA p.length pc _ (HN.out.below (ua HB2.out)) HSH.out hsz (HE.out.below (ua HB2.out) (ah _)) (HP.out.below (ua HB2.out))).mono ?_;rintro en w3 ⟨hb3,As,ns,cs,rfl,hs3⟩;have hb23:Below w2.heap.size w2 w3:=af (ua (ai _ _)) hb3;have HB3:=ab (af HB2.out hb23);have HW3:=ab ((hb23.block _ (aK.1 HW2.out).1).trans HW2.out);have HR3:=ab ((hb23.block _ (aK.1 HR2.out).1).trans HR2.out);have HBV3:=ab (HBV.out.below hb23);have HS3:=ab hs3;have HSZ3:Hid (w2.drew.heap.size<=w3.heap.size):=hb3.size;have HLT2:Hid (w.heap.size<w2.drew.heap.size):=(aK.1 HW2.out).1;have c2:=ac hb23 q2;have c1:=((cr HW3.out).1).c1;clear hb3 hs3 hb23 HB2 HW2 HR2 HBV q0 q1 q2 b1 b4 b8 b9 b10 b11 HV2;go_wp2_with fail;refine wp_region_noPanic ?_;refine wp_region_held_drew (S:=fun w'=>w'.cell? ⟨w.heap.size,1,none⟩=some (.slice pA p.length pc)/\w'.cell? ⟨g,o+i*3+2,none⟩=some (.slice Au un uc)) (by kernel_rfl) ⟨c1,c2⟩ fun hH0=>?_;refine ae 0 ?_;refine ae 1 ?_;refine ae 2 ?_;refine ae 4 ?_;refine ae 5 ?_;refine ae 6 ?_;refine ae 7 ?_;refine ae 8 ?_;refine ae 11 ?_;refine aL 3 fun K hK=>?_;go_simp;refine hK.out _ _ ?_ (fun hH1=>?_)
    .exact⟨ac bz c1,ac bz c2⟩
    clear hK K;refine aM ?_;refine aL 9 fun K hK=>?_;refine IN _ (by rfl) _ _ (by rfl) p pA pc b.uses Au un uc w3.heap.size (by rfl) (heap_alloc_new _ _) (HP.out.below (ua (bz_alloc HB3.out _))) HPZ.out (((bz:Below w3.heap.size w3 _).block _ (aK.1 HW3.out).1).trans HW3.out) (by decide) (by rfl) (HBV3.out.uses.below bz) HUL.out ?_;intro A4 n4 c4 w4 hps hb4;have hb34:Below w3.heap.size w3 w4:=(bz:Below w3.heap.size w3 _).trans hb4;refine hK.out _ _ ?_ (fun hH2=>?_)
    .exact⟨ac hb34 c1,ac hb34 c2⟩
    clear hK K;refine aM ?_;refine ae 10 ?_;refine wpAnyH_done (by kernel_rfl) ?_ _;refine NoPanic.normal ?_;have HW4:=(hb34.block _ (aK.1 HW3.out).1).trans HW3.out;have HR4:=(hb34.block _ (aK.1 HR3.out).1).trans HR3.out;have HB4:=af HB3.out hb34;have hwr:w.heap.size<w2.drew.heap.size:=HLT2.out;have HL0:Hid (DE w w4 T (bl t) (p::b.uses) (vi p (i5 T)) x0 (.slice pA p.length pc) x2 x3 (.string (sb b.name)) (.string t) x6 x7 A4 n4 c4 As ns cs w2.drew.heap.size 0):=
     ⟨HB4,⟨k,s,x,A,n,c,HW4,HN.out.lentOff HB4,fun h=>absurd h (by omega)⟩,HR4,hwr,hps.low (HSZ3.out),HS3.out.below hb34⟩
    have hn4:n4<=9223372036854775807:=(by have h1:=hps.2.1;have h2:=hps.2.2.1;unfold maxLen at h2;omega);have HN4:Hid (n4=(p::b.uses).length):=hps.1;clear hps hb34 hb4 hH0 hH1 hH2 c1 c2 HB3 HW3 HR3 HBV3 HS3 HW4 HR4 HB4 hwr HSZ3 HLT2;go_wp2_with fail;go_loopw [47,8] (fun i z wr=>∃j:Nat,j<=n4/\i= .int .i64 j/\Hid (DE w wr T (bl t) (p::b.uses) (vi p (i5 T)) x0 (.slice pA p.length pc) x2 x3 (.string (sb b.name)) (.string t) x6 x7 A4 n4 c4 As ns cs w2.drew.heap.size j)) (fun i _ _=>n4 - (intOf i).toNat);case atStart=>exact⟨0,aE _,rfl,HL0⟩
    case round=>
     clear HL0;obtain⟨j,hj,rfl,HL⟩:=hrel;obtain⟨k1,s1,y1,A1,n1,c1,hblk,hnod,hfr⟩:=HL.out.nod;have HND:=ab hnod;have HFR:=ab hfr;have HBL:=ab hblk;clear hnod hblk hfr;by_cases hlt:j<n4
     .obtain⟨g4,o4,q,qA,qc,rfl,hq,hqc,hqi⟩:=HL.out.ps.get hlt;have HQ:=ab hq;obtain⟨kk,hkk⟩:=HBK.out q (by rw[HBP.out];exact List.mem_iff_getElem?.2 ⟨j,hq⟩);obtain⟨f1,f2,f3⟩:=Ez (t:=T) (a:=bl t) ((p::b.uses).take j);rw[<-f1 q] at hkk;obtain⟨s9,x9,ks9,hsub⟩:=Fq _ _ _ hkk;have HWI:=ab (Io 97 w.heap.size GR (wc T (bl t) ((p::b.uses).take j)) _ (.node kk (bl t) x9 ks9) x0 (.slice pA p.length pc) x2 x3 (.string (sb b.name)) (.string t) x6 x7 k1 s1 y1 A1 n1 c1 q qA q.length qc _ (by rw[f2];omega) HND.out.off hqi hsub
       (Ik w.heap.size (bl t) (by show t.size<=_;unfold maxLen;omega) _ kk s9 x9 ks9 ((cr HBL.out).1).c5))
      have HPU:Hid (ag.putAt (.node kk (bl t) x9 ks9) q (wc T (bl t) ((p::b.uses).take j))=(wc T (bl t) ((p::b.uses).take j)).setAt (bl t) q):=(Ga (bl t) _ q kk s9 x9 ks9 hsub).symm;have B12:=(cr HBL.out).1;obtain⟨e0,e1,e2,e3,e4,e5,e6,e7,e8,e9,e10,e11⟩:=B12;clear f1 f2 f3 hkk hsub hq hqi;go_wp2_with fail;refine HWI.out.mono ?_;rintro en w5 ⟨hb5,k2,s2,y2,A2,n2,c2,rfl,hn5⟩;rw[HPU.out] at hn5;have HL2:=ab (HL.out.next HQ.out hb5 hn5);have B5:=ab ((hb5.block _ (aK.1 HBL.out).1).trans HBL.out);clear e0 e1 e2 e3 e4 e5 e6 e7 e8 e9 e10 e11 hqc hb5 hn5;obtain⟨⟨e0,e1,e2,e3,e4,e5,e6,e7,e8,e9,e10,e11⟩,⟨g0,g1,g2,g3,g4,g5,g6,g7,g8,g9,g10,g11⟩⟩:=cr B5.out;clear e0 e1 e2 e3 e4 e5 e6 e7 g0 g1 g2 g3 g4 g5 g6 g7;go_wp2;go_roundw;case rel=>exact⟨j+1,by omega,by go_num,HL2⟩
      case measure=>simp[intOf];omega
     .have hjn:j=n4:=(by omega);subst hjn;have htk:(p::b.uses).take j=p::b.uses:=List.take_of_length_le (by have:=HN4.out;omega);rw[htk] at HND HFR;have HFX:=ab (HFR.out (by have:=HN4.out;simp at this;omega));clear htk HFR;obtain⟨f1,f2,f3⟩:=Ez (t:=T) (a:=bl t) (p::b.uses);have HF3:=ab (f3 281474976710656 (by show t.size<=_;exact ht) HSH.out);have HF2:=ab f2;have HLX:=ab HL.out.bel;have HRX:=ab HL.out.res;have HSX:=ab HL.out.shp;obtain⟨⟨e0,e1,e2,e3,e4,e5,e6,e7,e8,e9,e10,e11⟩,_⟩:=cr HBL.out;clear e0 e2 e3 e4 e5 e6 e7 f1 f2 f3 HL;have HRE:Hid (Ca T p (bl (sb b.name)) (bl t)=if (gx (wc T (bl t) (p::b.uses))).1≠0∨vi p (i5 T)≠vi p (i5 (wc T (bl t) (p::b.uses))) then .error 120 else .ok (wc T (bl t) (p::b.uses))):=by show _=_;unfold Ca;rw[HFI.out];simp only;rw[if_neg (by simp)]
      generalize wc T (bl t) (p::b.uses)=U at HND HF3 HF2 HRE HFX;go_wp2_with fail;refine(DX U k1 s1 y1 A1 n1 c1 _ HND.out.off HF3.out (by rw[HF2.out];omega) (HE.out.below HLX.out (ah _))).mono ?_;rintro en w6 ⟨rfl,hb6⟩;have HB6:=ab (af HLX.out hb6);have HW6:=ab ((hb6.block _ (aK.1 HBL.out).1).trans HBL.out);have HR6:=ab ((hb6.block _ (aK.1 HRX.out).1).trans HRX.out);have HN6:=ab (HND.out.offBelow hb6);have HF6:=ab (HFX.out.sinceBelow hb6);have HS6:=ab (HSX.out.below hb6);clear hb6 HLX HBL HRX HND HFX HSX e1 e8 e9 e10 e11;obtain⟨⟨e0,e1,e2,e3,e4,e5,e6,e7,e8,e9,e10,e11⟩,_⟩:=cr HW6.out;obtain⟨r0,r1,r2,r3,g0,g1,g2,g3⟩:=di HR6.out;clear e0 e2 e3 e4 e5 e6 e7;by_cases hc:(gx U).1=0
      .rw[hc];go_wp2_with fail;refine(FI U k1 s1 y1 A1 n1 c1 p pA p.length pc _ HN6.out.off HF3.out (by rw[HF2.out];omega) (HE.out.below HB6.out (ah _)) (HP.out.below HB6.out)).mono ?_;rintro en w7 ⟨hb7,At,nt,ct,rfl,hs7⟩;have HB7:=ab (af HB6.out hb7);have HW7:=ab ((hb7.block _ (aK.1 HW6.out).1).trans HW6.out);have HR7:=ab ((hb7.block _ (aK.1 HR6.out).1).trans HR6.out);have HF7:=ab (HF6.out.sinceBelow hb7);have HAL:=ab (H5 _ _ As At ns cs nt ct w7 (HS6.out.below hb7).read hs7.read);have HC0:=ab hc;clear hb7 hs7 HW6 HR6 HN6 HF6 HS6 e1 e8 e9 e10 e11 r0 r1 r2 r3 g0 g1 g2 g3 hc;go_wp2_with fail;refine HAL.out.mono ?_;rintro en w8 ⟨rfl,hb8⟩;have HB8:=ab (af HB7.out hb8);have HW8:=ab ((hb8.block _ (aK.1 HW7.out).1).trans HW7.out);have HR8:=ab ((hb8.block _ (aK.1 HR7.out).1).trans HR7.out);have HF8:=ab (HF7.out.sinceBelow hb8);clear hb8 HW7 HR7 HF7 HAL;obtain⟨⟨e0,e1,e2,e3,e4,e5,e6,e7,e8,e9,e10,e11⟩,_⟩:=cr HW8.out;obtain⟨r0,r1,r2,r3,g0,g1,g2,g3⟩:=di HR8.out;clear e0 e1 e2 e3 e4 e5 e6 e7;by_cases hsame:vi p (i5 T)=vi p (i5 U)
       .have hd:decide (vi p (i5 T)=vi p (i5 U))=true:=decide_eq_true hsame;have HRES:Hid (Ca T p (bl (sb b.name)) (bl t)= .ok U):=by rw[HRE.out,if_neg (by rintro(h|h);exact h HC0.out;exact h hsame)];exact ab rfl
        rw[hd];clear hsame hd;go_wp2_with fail;obtain⟨a0,a1,a2,a3,hb9⟩:=CY (v0:=.int .u8 k1) (v1:=.string s1) (v2:=.int .i64 y1) (v3:=.slice A1 n1 c1) HR8.out HB8.out (by omega);refine DI (b:=w.heap.size+1) rfl rfl a0 a1 a2 a3 (Ce.ok HRES.out hb9 HF8.out.sincePut4)
       .have hd:decide (vi p (i5 T)=vi p (i5 U))=false:=decide_eq_false hsame;have HRES:Hid (Ca T p (bl (sb b.name)) (bl t)= .error 120):=(by rw[HRE.out,if_pos (.inr hsame)];exact ab rfl);rw[hd];clear hsame hd;go_wp2_with fail;obtain⟨a0,a1,a2,a3,hb9⟩:=CY (v0:=.int .u8 0) (v1:=.string ⟨#[]⟩) (v2:=.int .i64 0) (v3:=.slice none 0 0) HR8.out HB8.out (by omega);refine DI (b:=w.heap.size+1) rfl rfl a0 a1 a2 a3 (Ce.err HRES.out hb9)
      .have hc2:(((gx U).1:Int) != 0)=true:=(by simpa using hc);have hc3:(((gx U).1:Int) == 0)=false:=(by simpa using hc);have HRES:Hid (Ca T p (bl (sb b.name)) (bl t)= .error 120):=(by rw[HRE.out,if_pos (.inl hc)];exact ab rfl);clear hc;go_wp2_with fail;obtain⟨a0,a1,a2,a3,hb9⟩:=CY (v0:=.int .u8 0) (v1:=.string ⟨#[]⟩) (v2:=.int .i64 0) (v3:=.slice none 0 0) HR6.out HB6.out (by omega);refine DI (b:=w.heap.size+1) rfl rfl a0 a1 a2 a3 (Ce.err HRES.out hb9)
  .have hne:(b.name == f.toList)=false:=(by rw[bG];simpa using hnm);have HRES:Hid (Ca T p (bl f) (bl t)= .error 121):=(by show _=_;unfold Ca;rw[HFI.out];simp only;rw[if_pos hnm]);obtain⟨r0,r1,r2,r3,g0,g1,g2,g3⟩:=di HR2.out;go_wp2_with fail
   go_region
   all_goals
    go_wp2_with fail;obtain⟨a0,a1,a2,a3,hb9⟩:=CY (v0:=.int .u8 0) (v1:=.string ⟨#[]⟩) (v2:=.int .i64 0) (v3:=.slice none 0 0) HR2.out HB2.out (by omega);refine DI (b:=w.heap.size+1) rfl rfl a0 a1 a2 a3 (Ce.err HRES.out (ua hb9))

theorem ma{w:World}{B:Nat}{x0 x1 x2 x3 x4 x5 x6 x7 y1 y4 y5:Value}{T:TypeId}(h:w.heap[B]? =some (.cells #[x0,x1,x2,x3,x4,x5,x6,x7] T (0,0))):(((w.setCell ⟨B,1,none⟩ y1).setCell ⟨B,4,none⟩ y4).setCell ⟨B,5,none⟩ y5).heap[B]? =some (.cells #[x0,y1,x2,x3,y4,y5,x6,x7] T (0,0)):=by simp[World.setCell,Array.getElem?_modify,h]
theorem mp{w:World}{B:Nat}{o:Obj}{y1 y4 y5:Value}(h:w.heap[B+1]? =some o):(((w.setCell ⟨B,1,none⟩ y1).setCell ⟨B,4,none⟩ y4).setCell ⟨B,5,none⟩ y5).heap[B+1]? =some o:=by rw[aY _ _ _ _ (by simp),aY _ _ _ _ (by simp),aY _ _ _ _ (by simp)];exact h
theorem gU{w:World}{base:Nat}{A:Option Addr}{c:Nat}{zs:List Int}(h:w.ownsRow base 3 1 (.slice A zs.length c) zs.length (zs.map (Value.int .i64))):cc w zs A zs.length c:=by obtain⟨A',c',e,h3⟩:=cc.own h;injection e with e1 e2 e3;rw[e1,e3];exact h3
theorem tW{w:World}{B:Nat}{x0 x1 x2 x3 x4 x5 x6 x7 y2 y3 y6:Value}(h:bw w (B+1) x0 x1 x2 x3 x4 x5 x6 x7):bw (((w.setCell ⟨B,2,none⟩ y2).setCell ⟨B,3,none⟩ y3).setCell ⟨B,6,none⟩ y6) (B+1) x0 x1 x2 x3 x4 x5 x6 x7:=by
 obtain⟨h0,h1,h2,h3,h4,h5,h6,h7⟩:=h;have hn:∀p q,(⟨B+1,p,none⟩:Addr)≠⟨B,q,none⟩:=fun p q e=>by injection e;omega
 have hs:∀p v,w.cell? ⟨B+1,p,none⟩=some v->(((w.setCell ⟨B,2,none⟩ y2).setCell ⟨B,3,none⟩ y3).setCell ⟨B,6,none⟩ y6).cell? ⟨B+1,p,none⟩=some v:=fun p v h=>am (hn _ _) (am (hn _ _) (am (hn _ _) h));exact⟨hs _ _ h0,hs _ _ h1,hs _ _ h2,hs _ _ h3,hs _ _ h4,hs _ _ h5,hs _ _ h6,hs _ _ h7⟩
theorem lW{wr w3:World}{B:Nat}{x0 x1 x2 x3 x4 x5 x6 x7 y0 y1 y2 y3 y4 y5 y6 y7:Value}{T:TypeId}(hb3:Below wr.heap.size (wr.drewN 1) w3)(HX:wr.heap[B]? =some (.cells #[x0,x1,x2,x3,x4,x5,x6,x7] T (0,0)))(HR:wr.heap[B+1]? =some (.cells #[y0,y1,y2,y3,y4,y5,y6,y7] T (0,0)))(hl:B+1<wr.heap.size):Hid (Below wr.heap.size wr w3)/\Hid (w3.heap[B]? =some (.cells #[x0,x1,x2,x3,x4,x5,x6,x7] T (0,0)))/\Hid (w3.heap[B+1]? =some (.cells #[y0,y1,y2,y3,y4,y5,y6,y7] T (0,0)))/\bw w3 B x0 x1 x2 x3 x4 x5 x6 x7/\(w3.frozen? ⟨B,0,none⟩=false/\w3.frozen? ⟨B,1,none⟩=false/\w3.frozen? ⟨B,2,none⟩=false/\w3.frozen? ⟨B,3,none⟩=false/\w3.frozen? ⟨B,4,none⟩=false/\w3.frozen? ⟨B,5,none⟩=false/\w3.frozen? ⟨B,6,none⟩=false/\w3.frozen? ⟨B,7,none⟩=false):=by have hq3:Below wr.heap.size wr w3:=af (bS (ai _ _) 1) hb3;have h1:=(hq3.block _ (by omega)).trans HX;exact⟨hq3,h1,(hq3.block _ hl).trans HR,(aw h1).cs,(aw h1).fs⟩
theorem wZ{e:aj}(h:ap e=true)(hk:e.kind=5):e.news=[]:=by
 rcases((iY e).1 h).2 with h|h|h|h|h
 .omega
 .omega
 .omega
 .omega
 .exact h.2.2.2.2.1
theorem yx(ps:List Int)(os ns:List ag)(pA:Option Addr)(pn pc:Nat)(i j:Int)(f t:ByteArray)(oA:Option Addr)(on oc:Nat)(nA:Option Addr)(nn nc:Nat)(w:World)(hp:cc w ps pA pn pc)(ho:ce w os oA on oc)(hn:ce w ns nA nn nc)(hE:bI w)(hsz:f.size+t.size<=9223372036854775806)(hso:ex 9223372036854775806 os)(hsn:ex 9223372036854775806 ns)(hyes:ap ⟨5,ps,i,j,bl f,bl t,os,ns⟩=true)(hpn:pn<=17592186044416)(hos:ao os<=1000000):Calls Tryz.prog 24 #[.agg #[.int .u8 5,.slice pA pn pc,.int .i64 i,.int .i64 j,.string f,.string t,.slice oA on oc,.slice nA nn nc]] w (jQ (bD ⟨5,ps,i,j,bl f,bl t,os,ns⟩) (nA,nn,nc) w):=by
 have hb0:Below w.heap.size w ((w.alloc (.cells #[.int .u8 5,.slice pA pn pc,.int .i64 i,.int .i64 j,.string f,.string t,.slice oA on oc,.slice nA nn nc] 29)).alloc (.cells #[.int .u8 0,.slice none 0 0,.int .i64 0,.int .i64 0,.string ⟨#[]⟩,.string ⟨#[]⟩,.slice none 0 0,.slice none 0 0] 29)):=((ai _ _).alloc (ah _) _).alloc (by simp) _;have HB0:=ab hb0;have HE:=ab (hE.below hb0 (ah _));have HI:=ab (ay.below hb0 (show ay w ⟨5,ps,i,j,bl f,bl t,os,ns⟩ 5 pA pn pc i j f t oA on oc nA nn nc from⟨ps,os,ns,rfl,hp,ho,hn⟩));have HV:Hid (bD ⟨5,ps,i,j,bl f,bl t,os,ns⟩=⟨5,ps,j,i,bl t,bl f,os,ns⟩):=(by show _=_;unfold bD;rw[hyes];rfl);have HNE:Hid (ns=[]):=(by show _=_;exact wZ hyes rfl);have HP:=ab hp;have HO:=ab ho;have HN:=ab hn;have HYES:=ab hyes;clear hb0 hE hp ho hn hyes
 go_in
 go_wp2_with fail;refine(de _ _ _ _ _ _ _ _ _ _ _ _ _ _ _ _ HI.out HE.out hsz hso hsn).mono ?_;rintro en w1 ⟨rfl,hb1⟩;rw[HYES.out];have hbox:w1.heap[w.heap.size]? =some (.cells #[.int .u8 5,.slice pA pn pc,.int .i64 i,.int .i64 j,.string f,.string t,.slice oA on oc,.slice nA nn nc] 29 (0,0)):=(hb1.block _ (by simp;omega)).trans ((heap_alloc_old _ _ (by simp)).trans (heap_alloc_new _ _));have hres:w1.heap[w.heap.size+1]? =some (.cells #[.int .u8 0,.slice none 0 0,.int .i64 0,.int .i64 0,.string ⟨#[]⟩,.string ⟨#[]⟩,.slice none 0 0,.slice none 0 0] 29 (0,0)):=(hb1.block _ (by simp)).trans (heap_alloc_at (by simp));have HB1:=ab (af HB0.out hb1);have HS1:Hid (w.heap.size+2<=w1.heap.size):=(by show _<=_;have:=hb1.size;simp at this;omega);obtain⟨c0,c1,c2,c3,c4,c5,c6,c7⟩:=(aw hbox).cs;have HBX:=ab hbox;have HRS:=ab hres;clear hbox hres hb1;go_wp2_with fail;refine(gV ps _ _ _ _ (HP.out.below HB1.out) hpn).mono ?_;rintro en w2 ⟨A2,k2,rfl,ho2,hb2⟩;have HB2:=ab (af HB1.out hb2);have HBX2:=ab ((hb2.block w.heap.size (by have:=HS1.out;omega)).trans HBX.out);have HRS2:=ab ((hb2.block (w.heap.size+1) (by have:=HS1.out;omega)).trans HRS.out);have HS2:Hid (w.heap.size+2<=w2.heap.size):=(by have:=hb2.size;have:=HS1.out;show _<=_;omega);have HOW:=ab ho2;clear c0 c1 c2 c3 c4 c5 c6 c7 ho2 hb2;obtain⟨c0,c1,c2,c3,c4,c5,c6,c7⟩:=(aw HBX2.out).cs;obtain⟨f0,f1,f2,f3,f4,f5,f6,f7⟩:=(aw HBX2.out).fs;go_wp2_with fail;have HX5:=ab (ma (y1:=.slice A2 ps.length k2) (y4:=.string t) (y5:=.string f) HBX2.out);have HR5:=ab (mp (y1:=.slice A2 ps.length k2) (y4:=.string t) (y5:=.string f) HRS2.out);have HB5:Hid (Below w.heap.size w (((w2.setCell ⟨w.heap.size,1,none⟩ (.slice A2 ps.length k2)).setCell ⟨w.heap.size,4,none⟩ (.string t)).setCell ⟨w.heap.size,5,none⟩ (.string f))):=((HB2.out.setCell (ah _) _).setCell (ah _) _).setCell (ah _) _;have HO5:=ab (HO.out.below HB5.out);have hl5:Hid (w.heap.size+1< (((w2.setCell ⟨w.heap.size,1,none⟩ (.slice A2 ps.length k2)).setCell ⟨w.heap.size,4,none⟩ (.string t)).setCell ⟨w.heap.size,5,none⟩ (.string f)).heap.size):=by show _<_;have:=HS2.out;simp;omega
 go_region_with (go_at_call 54;refine(jE os _ _ _ _ hos (HO5.out.below (bS (ai _ _) 1))).mono ?_;rintro en w3 ⟨A3,k3,rfl,hf3,hb3⟩;obtain⟨HQ,HX3,HR3,⟨d0,d1,d2,d3,d4,d5,d6,d7⟩,⟨g0,g1,g2,g3,g4,g5,g6,g7⟩⟩:=lW hb3 HX5.out HR5.out hl5.out)
 all_goals
  have HF3:=ab hf3;have HB3:=ab (af HB5.out HQ.out);obtain⟨r0,r1,r2,r3,r4,r5,r6,r7⟩:=(aw HR3.out).cs;obtain⟨s0,s1,s2,s3,s4,s5,s6,s7⟩:=(aw HR3.out).fs;clear hf3 hb3;go_wp2_with fail
 all_goals
  have HFAR:Hid (bN (w.heap.size+2) w3 (an (((w3.setCell ⟨w.heap.size,2,none⟩ (.int .i64 j)).setCell ⟨w.heap.size,3,none⟩ (.int .i64 i)).setCell ⟨w.heap.size,6,none⟩ (.slice A3 on k3)) (w.heap.size+1) (.int .u8 5) (.slice A2 ps.length k2) (.int .i64 j) (.int .i64 i) (.string t) (.string f) (.slice A3 on k3) (.slice nA nn nc))):=mM ((((bN.refl _ _).set (by simp)).set (by simp)).set (by simp)) (by omega);have HBF:Hid (Below w.heap.size w (an (((w3.setCell ⟨w.heap.size,2,none⟩ (.int .i64 j)).setCell ⟨w.heap.size,3,none⟩ (.int .i64 i)).setCell ⟨w.heap.size,6,none⟩ (.slice A3 on k3)) (w.heap.size+1) (.int .u8 5) (.slice A2 ps.length k2) (.int .i64 j) (.int .i64 i) (.string t) (.string f) (.slice A3 on k3) (.slice nA nn nc))):=cH (((HB3.out.setCell (ah _) _).setCell (ah _) _).setCell (ah _) _) (by omega);have HOF:Hid (ce (an (((w3.setCell ⟨w.heap.size,2,none⟩ (.int .i64 j)).setCell ⟨w.heap.size,3,none⟩ (.int .i64 i)).setCell ⟨w.heap.size,6,none⟩ (.slice A3 on k3)) (w.heap.size+1) (.int .u8 5) (.slice A2 ps.length k2) (.int .i64 j) (.int .i64 i) (.string t) (.string f) (.slice A3 on k3) (.slice nA nn nc)) os A3 on k3):=bJ.kids (bN.fresh HF3.out HFAR.out (by have:=HS2.out;simp;omega));have HPF:Hid (cc (an (((w3.setCell ⟨w.heap.size,2,none⟩ (.int .i64 j)).setCell ⟨w.heap.size,3,none⟩ (.int .i64 i)).setCell ⟨w.heap.size,6,none⟩ (.slice A3 on k3)) (w.heap.size+1) (.int .u8 5) (.slice A2 ps.length k2) (.int .i64 j) (.int .i64 i) (.string t) (.string f) (.slice A3 on k3) (.slice nA nn nc)) ps A2 ps.length k2/\bT (an (((w3.setCell ⟨w.heap.size,2,none⟩ (.int .i64 j)).setCell ⟨w.heap.size,3,none⟩ (.int .i64 i)).setCell ⟨w.heap.size,6,none⟩ (.slice A3 on k3)) (w.heap.size+1) (.int .u8 5) (.slice A2 ps.length k2) (.int .i64 j) (.int .i64 i) (.string t) (.string f) (.slice A3 on k3) (.slice nA nn nc)) ps A2/\hH (an (((w3.setCell ⟨w.heap.size,2,none⟩ (.int .i64 j)).setCell ⟨w.heap.size,3,none⟩ (.int .i64 i)).setCell ⟨w.heap.size,6,none⟩ (.slice A3 on k3)) (w.heap.size+1) (.int .u8 5) (.slice A2 ps.length k2) (.int .i64 j) (.int .i64 i) (.string t) (.string f) (.slice A3 on k3) (.slice nA nn nc)) w.heap.size 3 1 (.slice A2 ps.length k2)):=by have h1:=bN.own HOW.out (((bN.refl (w.heap.size+2) _).set (p:=⟨w.heap.size,1,none⟩) (u:=.slice A2 ps.length k2) (by simp)).set (p:=⟨w.heap.size,4,none⟩) (u:=.string t) (by simp) |>.set (p:=⟨w.heap.size,5,none⟩) (u:=.string f) (by simp)) HS1.out;have h2:=bN.own (bM h1 HQ.out (ah _)) HFAR.out HS1.out;exact⟨gU h2,bT.own h2 rfl,_,_,dk h2 HB1.out.size⟩
  obtain⟨a0,a1,a2,a3,a4,a5,a6,a7⟩:=jH (v0:=.int .u8 5) (v1:=.slice A2 ps.length k2) (v2:=.int .i64 j) (v3:=.int .i64 i) (v4:=.string t) (v5:=.string f) (v6:=.slice A3 on k3) (v7:=.slice nA nn nc) (tW (y2:=.int .i64 j) (y3:=.int .i64 i) (y6:=.slice A3 on k3) ⟨r0,r1,r2,r3,r4,r5,r6,r7⟩);simp only[an] at a0 a1 a2 a3 a4 a5 a6 a7;refine bodyPost_ret (v:=.agg #[.int .u8 5,.slice A2 ps.length k2,.int .i64 j,.int .i64 i,.string t,.string f,.slice A3 on k3,.slice nA nn nc]) (by simp[results,Tryz.results24,go_sem,a0,a1,a2,a3,a4,a5,a6,a7]) rfl ?_;rw[HV.out];exact⟨5,A2,ps.length,k2,j,i,t,f,A3,on,k3,nA,nn,nc,rfl,⟨ps,os,ns,rfl,HPF.out.1,HOF.out,HN.out.below HBF.out⟩,⟨HPF.out.2.1,dX.move HPF.out.2.2 HF3.out (by have:=HS2.out;simp;omega) (by omega) HFAR.out rfl HNE.out⟩,HBF.out⟩
end Go.Proofs.YtfipahjodfminaaGreatDoor
