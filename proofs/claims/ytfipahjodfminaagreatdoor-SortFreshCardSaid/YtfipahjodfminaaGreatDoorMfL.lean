/- Part 12 of the proof. -/
import Derived.Test.YtfipahjodfminaaGreatDoorMfK
namespace Go.Proofs.YtfipahjodfminaaGreatDoor
open Go.RowKit
set_option linter.all false
set_option maxHeartbeats 40000000
set_option maxRecDepth 100000
theorem G3:(Tryz.prog.info? 71).map (fun i=>(i.zero,i.size,i.bytes))=some (some (.agg #[.slice none 0 0,.string ⟨#[]⟩,.slice none 0 0]),3,64):=by kernel_rfl
def C6(recs:List cz)(st:bo)(i:Nat):List Value:=match recs[i]? with
 |some r=>[r.pv,.string (sb (fc st i)),r.uv]
 |none=>[]
def kh(recs:List cz)(st:bo)(l:List Nat):List Value:=l.flatMap (C6 recs st)
def D5(w:World)(w':World)(st:bo)(v:Value):Prop:=∃B wb fm recs av,w.heap.size<=B/\eP w' B wb fm recs av st/\w'.ownsRow w.heap.size 71 3 v st.all.length (kh recs st st.all)
def D4(w:World)(t:ag)(e:Ending)(w':World):Prop:=Below w.heap.size w w'/\∃v,e= .returned v/\
 (((gx t).1≠0/\v= .slice none 0 0)∨((gx t).1=0/\∃o st,gn t.kids= .ok (o,st)/\D5 w w' st v))
theorem IX{w:World}{b:Nat}{T:TypeId}{x y z:Value}(h:w.heap[b]? =some (.cells #[x,y,z] T (0,0))):∀j u,[x,y,z][j]? =some u->w.cell? ((⟨b,0,none⟩:Addr).add j)=some u:=by
 intro j u hu;have hc:=cell_of_row w b j _ T (0,0) h;have e:((⟨b,0,none⟩:Addr).add j)=⟨b,j,none⟩:=by simp only[Addr.add];split<;>simp_all
 rw[e,hc];match j,hu with
 |0,hu=>exact hu
 |1,hu=>exact hu
 |2,hu=>exact hu
 |j+3,hu=>simp at hu
theorem eP.far_row{w w':World}{B wb fm:Nat}{recs:List cz}{av:Value}{st:bo}(h:eP w B wb fm recs av st){B2 n:Nat}{v:Value}{xs:List Value}(hr:w.ownsRow B2 71 3 v n xs)(hg:w.grownBy w' v.ownBlock):eP w' B wb fm recs av st:=by
 refine h.only (S:=fun k=>v.ownBlock=some k) ((cg.refl (fun k=>v.ownBlock=some k) w).grown hg fun k hk=>.inr hk) ?_ ?_
 .intro k hk cs fr e;obtain⟨_,cs',fr',hh⟩:=hX hr hk;rw[hh] at e;simp at e
 .intro k hk hv;obtain⟨_,cs',fr',hh⟩:=hX hr hv;obtain⟨cs,T,fr,h2,ht⟩:=h.types k hk;rw[hh] at h2;injection h2 with h2;injection h2 with _ h2 _;subst h2;rcases ht with h|h|h|h<;>exact absurd h (by decide)
def CU(w:World)(B wb fm:Nat)(recs:List cz)(av:Value)(st:bo)(j:Nat)(v:Value)(W:World):Prop:=
 Below w.heap.size w W/\eP W B wb fm recs av st/\W.ownsRow w.heap.size 71 3 v j (kh recs st (st.all.take j))
theorem CU.below{w W W':World}{B wb fm:Nat}{recs:List cz}{av:Value}{st:bo}{j:Nat}{v:Value}(h:CU w B wb fm recs av st j v W)(hb:Below W.heap.size W W'):CU w B wb fm recs av st j v W':=
 ⟨h.1.trans (hb.mono h.1.size),h.2.1.below hb,Dd h.2.2 (S:=fun _=>False) (cg.of_below hb) fun _ _ h=>h⟩
theorem Fv{ks:List ag}{o:bq}{st:bo}(h:gn ks= .ok (o,st)):st.all.length<=ao ks:=by unfold gn at h;obtain⟨fe,st1,_,h2⟩:=i9 h;have h3:=(CS fe ks _ _ _ _ _ _ _ h2).all;simpa[bo.anew,bo.next] using h3
theorem CU.push{w W W':World}{B wb fm:Nat}{recs:List cz}{av:Value}{st:bo}{j i:Nat}{v v':Value}{r:cz}{o:Obj}(h:CU w B wb fm recs av st j v W)(hi:st.all[j]? =some i)(hr:recs[i]? =some r)(hown:W'.ownsRow w.heap.size 71 3 v' (j+1) (kh recs st (st.all.take j)++[r.pv,.string (sb (fc st i)),r.uv]))(hg:(W.alloc o).grownBy W' v.ownBlock):CU w B wb fm recs av st (j+1) v' W':=by
 have h1:=h.below ((ai W.heap.size W).alloc (ah _) o);refine⟨h1.1.trans (((cg.refl (fun k=>w.heap.size<=k) (W.alloc o)).grown hg fun k hk=>.inr (h1.2.2.lt k hk).1).below h1.1.size fun k hk=>hk),h1.2.1.far_row h1.2.2 hg,?_⟩;have e:kh recs st (st.all.take (j+1))=kh recs st (st.all.take j)++[r.pv,.string (sb (fc st i)),r.uv]:=by obtain⟨h2,h3⟩:=gl.1 hi;unfold kh;rw[List.take_succ_eq_append_getElem h2,List.flatMap_append,h3];simp[C6,hr]
 rw[e];exact hown
theorem Ev(t:ag)(k:Nat)(s:ByteArray)(x:Int)(A:Option Addr)(n c:Nat)(w:World)(hN:cf w t k s x A n c)(hsh:t.short 281474976710656)(hsz:t.sz<=100000)(hE:bI w):Calls Tryz.prog 61 #[.agg #[.int .u8 k,.string s,.int .i64 x,.slice A n c]] w (D4 w t):=by
 have hb0:Below w.heap.size w (w.alloc (.cells #[.int .u8 k,.string s,.int .i64 x,.slice A n c] 25)):=(ai _ _).alloc (ah _) _;have hpc:=DX t k s x A n c _ (hN.below hb0) hsh hsz (hE.below hb0 (ah _));have HB0:=ab hb0;have HN:=ab hN;have HSH:=ab hsh;have HPC:=ab hpc;have hsb:=di (heap_alloc_new w (.cells #[.int .u8 k,.string s,.int .i64 x,.slice A n c] 25));clear hb0 hN hsh hpc hE;have hfd:∀(a b:Int) (w:World),(Instr.field 76 (.agg #[.int .i64 a,.int .i64 b]) 0).run Tryz.prog w= .ok (.int .i64 a) w:=fun a b w=>by kernel_rfl
 cases hr:(gx t).1 with
 |succ e=>
  have HR:Hid ((gx t).1=e+1):=hr;have hpc:=HPC.out;unfold DC at hpc;rw[hr] at hpc;clear hr;have h9:(((e:Nat):Int)+1 != 0)=true:=by simp;omega
  go_in
  go_wp2_with fail;refine hpc.mono ?_;rintro en w1 ⟨rfl,hb1⟩;have HB1:Hid (Below w.heap.size w w1):=HB0.out.trans (hb1.mono HB0.out.size);clear hb1;go_wp2;go_ret;exact⟨HB1.out,_,rfl,.inl ⟨by rw[HR.out];omega,rfl⟩⟩
 |zero=>
  obtain⟨hk,hrt,st,hl⟩:=Di.1 hr;have HR:Hid ((gx t).1=0):=hr;have HL:=ab hl;have HLK:=ab hl;have hpc:=HPC.out;unfold DC at hpc;rw[hr] at hpc;clear hr hl
  go_in
  go_wp2_with fail;refine hpc.mono ?_;rintro en w1 ⟨rfl,hb1⟩;have HB1:Hid (Below w.heap.size w w1):=HB0.out.trans (hb1.mono HB0.out.size);have hy:=(hb1.block w.heap.size (by simp)).trans (heap_alloc_new _ _);obtain⟨b0,b1,b2,b3,_⟩:=di hy;have hpl:Calls Tryz.prog 92 #[.agg #[.int .u8 k,.string s,.int .i64 x,.slice A n c]] w1 (D8 w1 (.ok ([],st))):=by have hn:=HN.out.below HB1.out;have hsh:=HSH.out;have hl:=HL.out;obtain⟨ks,rfl,g0,g1,g2,hK⟩:=hn;have e:(ag.node k (bl s) x ks).sz=1+ao ks:=rfl;have h:=ER k (bl s) x A n c ks w1 hK g0 hk hsh.1 hsh.2 (CP hk hrt) (by omega);rw[EE] at h;rw[show gn ks=_ from hl] at h;exact h
  have HPL:=ab hpl;clear hb1 hy hpl hk hrt;go_wp2_with fail;refine HPL.out.mono ?_;rintro en w2 ⟨hb2,B',wb',fm',recs,av,hB',rfl,hm2⟩;obtain⟨aA,aC,hav,_,_⟩:=t9 hm2.row;subst hav;have HBL:Hid (CU w B' wb' fm' recs (.slice aA st.all.length aC) st 0 (.slice none 0 0) w2):=⟨HB1.out.trans (hb2.mono HB1.out.size),hm2,World.ownsRow_nil _ _ _ _⟩;have hfew:st.all.length<=100000:=by have h1:=Fv HL.out;have h2:t.sz=1+ao t.kids:=(by cases t;rfl);omega
  have hlo:w.heap.size<=B':=aJ HB1.out.size hB';obtain⟨i0,hi0,hz0,hz1,hz2⟩:=info_parts G3;clear hm2 hb2 b0 b1 b2 b3;go_wp2_with fail;go_loopw [3,19] (fun v i wr=>∃(j:Nat) (vA:Option Addr) (vc:Nat),j<=st.all.length/\i= .int .i64 j/\v= .slice vA j vc/\Hid (CU w B' wb' fm' recs (.slice aA st.all.length aC) st j (.slice vA j vc) wr)) (fun _ i _=>st.all.length - (intOf i).toNat);case atStart=>exact⟨0,none,0,aE _,rfl,rfl,HBL.out.below ((ai _ _).alloc (ah _) _)⟩
  case round=>
   obtain⟨j,vA,vc,hj,rfl,rfl,HLR⟩:=hrel;obtain⟨hbe,hm,hrow⟩:=HLR.out;by_cases hlt:j<st.all.length
   .obtain⟨i,hi⟩:∃i,st.all[j]? =some i:=⟨_,br hlt⟩;have hil:i<recs.length:=hm.ids i (List.mem_iff_getElem?.2 ⟨j,hi⟩);obtain⟨r,hr⟩:∃r,recs[i]? =some r:=⟨_,br hil⟩;obtain⟨g,rfl⟩:∃g,aA=some ⟨g,0,none⟩:=by
     rcases hm.row.2 with ⟨e,_⟩|⟨g,cap,cur,e,_⟩
     .injection e with _ e _;omega
     .injection e with e _ _;exact⟨g,e⟩
    have hcell:=bH hm.row j (.pointer (some ⟨r.adr,0,none⟩)) (by rw[List.getElem?_map,hi];simp[i7,lc,cn,hr]);obtain⟨pp,us,ep,hR⟩:=hm.recA i r hr;obtain⟨A1,c1',hpv,_⟩:=hR.path;obtain⟨A2,c2',huv,_⟩:=t9 hR.row;obtain⟨b0,b1,b2,b3,_⟩:=di hR.box;rw[hpv] at b0;rw[huv] at b2;have HL:=ab HLR.out;have HROW:=ab (hrow.alloc (.cells #[.slice A1 pp.length c1',.string (sb (fc st i)),.slice A2 r.us.length c2'] 71));have HI:=ab hi;have HRR:=ab hr;have hws:w.heap.size<=wr.heap.size:=hbe.size;clear hbe hm hrow HLR hi hr hR b3;go_wp2_with (at_builtin;refine wpList_append_own _ rfl _ _ 67 rfl w.heap.size 71 i0 _ 3 64 Tryz.underlying67 hi0 hz0 hz1 hz2 rfl (by decide) (.slice vA j vc) j (kh recs st (st.all.take j)) rfl HROW.out ⟨wr.heap.size,0,none⟩ 1 1 [.slice A1 pp.length c1',.string (sb (fc st i)),.slice A2 r.us.length c2'] rfl rfl (IX (heap_alloc_new _ _)) (by simp[Value.oneCell']) (by unfold maxLen;omega) (by omega) (by simp;omega) ?_;intro v' w4 hown4 hgr4 _;obtain⟨vA4,vc4,hv4,_,_⟩:=t9 hown4;subst hv4;rw[<-hpv,<-huv] at hown4;have HL4:=ab (HL.out.push HI.out HRR.out hown4 hgr4);clear hown4 hgr4);go_roundw;case rel=>exact⟨j+1,_,_,by omega,by go_num,rfl,HL4.out⟩
    case measure=>simp[intOf];omega
   .have hjn:j=st.all.length:=(by omega);have HL1:Hid (CU w B' wb' fm' recs (.slice aA st.all.length aC) st st.all.length (.slice vA j vc) wr):=(by have:=HLR.out;rw[hjn] at this ⊢;exact this);clear hbe hm hrow HLR;go_wp2;go_ret;obtain⟨h1,h2,h3⟩:=HL1.out;rw[List.take_length] at h3;exact⟨h1,_,rfl,.inr ⟨HR.out,_,_,HLK.out,_,_,_,_,_,hlo,h2,h3⟩⟩
theorem G7{w:World}{t:ag}{k:Nat}{s:ByteArray}{x:Int}{A:Option Addr}{n c g:Nat}(hN:cf w t k s x A n c)(h:w.heap[g]? =some (.cells #[.int .u8 k,.string s,.int .i64 x,.slice A n c] 25 (0,0))):ce w [t] (some ⟨g,0,none⟩) 1 1:=by obtain⟨ks,rfl,g0,g1,g2,hK⟩:=hN;obtain⟨c0,c1,c2,c3,_⟩:=di h;obtain⟨e,h1,h2,h3⟩:=hK;subst e;refine⟨rfl,ah _,by unfold maxLen;omega,.inr ⟨g,0,rfl,?_,trivial⟩⟩;refine⟨c0,by rw[EE];exact c1,c2,g0,by simpa[bl] using g1,g2,A,c,c3,h1,h2,h3⟩
def Ci(a b:Int):Int:=if a<b then -1 else if b<a then 1 else 0
def B9:List Int->List Int->Int
 |[],[]=>0
 |[],_::_=> -1
 |_::_,[]=>1
 |a::xs,b::ys=>if Ci a b≠0 then Ci a b else B9 xs ys
theorem E0{a b:Int}:Ci a b=0↔a=b:=by
 unfold Ci;split
 .simp;omega
 .split
  .simp;omega
  .simp;omega
theorem Ei:∀{xs ys:List Int},B9 xs ys=0↔xs=ys
 |[],[]=>by simp[B9]
 |[],_::_=>by simp[B9]
 |_::_,[]=>by simp[B9]
 |a::xs,b::ys=>by
  unfold B9;by_cases h:Ci a b=0
  .rw[if_neg (by simpa using h),Ei,E0.1 h];simp
  .rw[if_pos h];have:a≠b:=fun e=>h (E0.2 e);simp[h,this]
theorem H8(a b:Int)(w:World):Calls Tryz.prog 225 #[.int .i64 a,.int .i64 b] w fun e w'=>e= .returned (.int .i64 (Ci a b))/\w'=w:=by
 by_cases h1:a<b
 .have HR:Hid (Ci a b= -1):=by show _=_;unfold Ci;rw[if_pos h1]
  go_in
  go_wp2;go_ret;exact⟨(by rw[HR.out];first|done|rfl),(by first|rfl|trivial)⟩
 .by_cases h2:b<a
  .have HR:Hid (Ci a b=1):=by show _=_;unfold Ci;rw[if_neg h1,if_pos h2]
   go_in
   go_wp2;go_ret;exact⟨(by rw[HR.out];first|done|rfl),(by first|rfl|trivial)⟩
  .have HR:Hid (Ci a b=0):=by show _=_;unfold Ci;rw[if_neg h1,if_neg h2]
   go_in
   go_wp2;go_ret;exact⟨(by rw[HR.out];first|done|rfl),(by first|rfl|trivial)⟩
theorem Ia(xs ys:List Int)(A:Option Addr)(n c:Nat)(B:Option Addr)(m d:Nat)(w:World)(ha:cc w xs A n c)(hb:cc w ys B m d):Calls Tryz.prog 209 #[.slice A n c,.slice B m d] w fun e w'=>e= .returned (.int .i64 (B9 xs ys))/\w'=w:=by
 have hn:n<=9223372036854775807:=(by have h1:=ha.2.1;have h2:=ha.2.2.1;unfold maxLen at h2;omega);have hm:m<=9223372036854775807:=(by have h1:=hb.2.1;have h2:=hb.2.2.1;unfold maxLen at h2;omega);have HA:=ab ha;have HB:=ab hb;have hna:Hid (n=xs.length):=ha.1;have hmb:Hid (m=ys.length):=hb.1;clear ha hb
 go_in
 go_wp2_with fail;go_loopw [11] (fun i wr=>∃j:Nat,j<=n/\j<=m/\i= .int .i64 j/\Hid (B9 xs ys=B9 (xs.drop j) (ys.drop j))/\w=wr) (fun i _=>n - (intOf i).toNat);case atStart=>exact⟨0,aE _,aE _,rfl,rfl,rfl⟩
 case round=>
  obtain⟨j,hj,hjm,rfl,HC,rfl⟩:=hrel;by_cases hlt:j<n
  .obtain⟨b1,o1,z1,rfl,hz1,c1⟩:=HA.out.get hlt;have hd1:xs.drop j=z1::xs.drop (j+1):=by obtain⟨h1,h2⟩:=gl.1 hz1;rw[List.drop_eq_getElem_cons h1,h2]
   by_cases hlm:j<m
   .obtain⟨b2,o2,z2,rfl,hz2,c2⟩:=HB.out.get hlm;have hd2:ys.drop j=z2::ys.drop (j+1):=by obtain⟨h1,h2⟩:=gl.1 hz2;rw[List.drop_eq_getElem_cons h1,h2]
    have HC2:Hid (B9 xs ys=if Ci z1 z2≠0 then Ci z1 z2 else B9 (xs.drop (j+1)) (ys.drop (j+1))):=(by show _=_;rw[HC.out,hd1,hd2];rfl);have hge:¬(m:Int)<=j:=(by omega);clear HC hz1 hz2 hd1 hd2;go_wp2_with fail;refine(H8 z1 z2 _).mono ?_;rintro en w1 ⟨rfl,rfl⟩;by_cases hc:Ci z1 z2=0
    .have HC3:Hid (B9 xs ys=B9 (xs.drop (j+1)) (ys.drop (j+1))):=(by show _=_;rw[HC2.out,if_neg (by simpa using hc)]);rw[hc];go_wp2;go_roundw;case rel=>exact⟨j+1,by omega,by omega,by go_num,HC3.out,(by first|rfl|trivial)⟩
     case measure=>simp[intOf];omega
    .have HC3:Hid (B9 xs ys=Ci z1 z2):=(by show _=_;rw[HC2.out,if_pos hc]);go_wp2;go_ret;exact⟨(by rw[HC3.out];first|done|rfl),(by first|rfl|trivial)⟩
   .have hjm2:j=m:=(by omega);have hd2:ys.drop j=[]:=List.drop_eq_nil_of_le (by have:=hmb.out;omega);have HC2:Hid (B9 xs ys=1):=(by show _=_;rw[HC.out,hd1,hd2];rfl);subst hjm2;clear HC hz1 hd1 hd2 hlm;go_wp2;go_ret;exact⟨(by rw[HC2.out];first|done|rfl),(by first|rfl|trivial)⟩
  .have hd1:xs.drop j=[]:=List.drop_eq_nil_of_le (by have:=hna.out;omega);by_cases hlm:n<m
   .have HC2:Hid (B9 xs ys= -1):=by show _=_;have h1:j<ys.length:=(by have:=hmb.out;omega);rw[HC.out,hd1,List.drop_eq_getElem_cons h1];rfl
    go_wp2;go_ret;exact⟨(by rw[HC2.out];first|done|rfl),(by first|rfl|trivial)⟩
   .have HC2:Hid (B9 xs ys=0):=by show _=_;rw[HC.out,hd1,List.drop_eq_nil_of_le (by have:=hmb.out;omega)];rfl
    go_wp2;go_ret;exact⟨(by rw[HC2.out];first|done|rfl),(by first|rfl|trivial)⟩
theorem H9(xs ys:List Int)(A:Option Addr)(n c:Nat)(B:Option Addr)(m d:Nat)(w:World)(ha:cc w xs A n c)(hb:cc w ys B m d):Calls Tryz.prog 163 #[.slice A n c,.slice B m d] w fun e w'=>e= .returned (.int .i64 (B9 xs ys))/\w'=w:=by
 have HP:=ab (Ia xs ys A n c B m d w ha hb);clear ha hb
 go_in
 go_wp2_with fail;refine HP.out.mono ?_;rintro en w1 ⟨rfl,rfl⟩;go_wp2;go_ret;exact⟨rfl,rfl⟩
def Cv(w:World)(us:List (List Int))(A:Option Addr)(n c:Nat):Prop:=n=us.length/\n<=c/\c<=maxLen/\(us=[]∨∃g o,A=some ⟨g,o,none⟩/\∀j p,us[j]? =some p->∃v,w.cell? ⟨g,o+j,none⟩=some v/\Cd w p v)
theorem Cv.below{w w':World}{us:List (List Int)}{A:Option Addr}{n c:Nat}(h:Cv w us A n c)(hb:Below w.heap.size w w'):Cv w' us A n c:=by obtain⟨h1,h2,h3,h4⟩:=h;refine⟨h1,h2,h3,h4.imp id ?_⟩;rintro⟨g,o,e,h⟩;exact⟨g,o,e,fun j p hp=>by obtain⟨v,hv,hq⟩:=h j p hp;exact⟨v,ac hb hv,hq.below hb⟩⟩
theorem Cv.get{w:World}{us:List (List Int)}{A:Option Addr}{n c:Nat}(h:Cv w us A n c){j:Nat}(hj:j<n):∃g o p A' c',A=some ⟨g,o,none⟩/\us[j]? =some p/\w.cell? ⟨g,o+j,none⟩=some (.slice A' p.length c')/\cc w p A' p.length c'/\bT w p A':=by
 obtain⟨h1,_,_,h4⟩:=h;rcases h4 with rfl|⟨g,o,rfl,h⟩
 .simp at h1;omega
 .have hp:us[j]? =some (us[j]'(by omega)):=br (by omega);obtain⟨v,hv,A',c',rfl,h5,h6⟩:=h j _ hp;exact⟨g,o,_,A',c',rfl,hp,hv,h5,h6⟩
theorem Gh{α:Type}{l l':List α}{j:Nat}{a:α}(h:l.take j=l'.take j)(h1:l[j]? =some a)(h2:l'[j]? =some a):l.take (j+1)=l'.take (j+1):=by obtain⟨k1,e1⟩:=gl.1 h1;obtain⟨k2,e2⟩:=gl.1 h2;rw[List.take_succ_eq_append_getElem k1,List.take_succ_eq_append_getElem k2,h,e1,e2]
theorem GN(args:Array Value)(w:World):(callFunc 56 args).run Tryz.prog w= .ok (.enter 56 args) w:=eH Tryz.func56 (by kernel_rfl) (by kernel_rfl) args w
theorem Ic(ts us:List (List Int))(A A':Option Addr)(n c n' c':Nat)(w:World)(hK:Cv w ts A n c)(hK':Cv w us A' n' c'):Calls Tryz.prog 114 #[.slice A n c,.slice A' n' c',.func (.func 56) #[] #[]] w (ak (decide (ts=us)) w):=by
 have HK:=ab hK;have HK':=ab hK';have hnn:n<=9223372036854775807:=(by have h1:=hK.2.1;have h2:=hK.2.2.1;unfold maxLen at h2;omega);have HL:Hid (n=ts.length/\n'=us.length):=⟨hK.1,hK'.1⟩;clear hK hK';by_cases hl:n=n'
 .subst hl
  go_in
  go_wp2_with fail;go_loopw [17] (fun i wr=>∃j:Nat,j<=n/\i= .int .i64 j/\Hid (Below w.heap.size w wr)/\Hid (ts.take j=us.take j)) (fun i _=>n - (intOf i).toNat);case atStart=>exact⟨0,aE _,rfl,ai _ _,rfl⟩
  case round=>
   obtain⟨j,hj,rfl,HB,HI⟩:=hrel;by_cases hlt:j<n
   .obtain⟨g,o,p,A1,c1,rfl,hp,q0,hp2,_⟩:=(HK.out.below HB.out).get hlt;obtain⟨g',o',p',A2,c2,rfl,hp',q0',hp2',_⟩:=(HK'.out.below HB.out).get hlt;have HP:=ab (lz p p' A1 A2 _ c1 _ c2 wr hp2 hp2');have HT:=ab hp;have HT':=ab hp';have hcf:=GN;clear hp hp' hp2 hp2';go_wp2_with fail;refine HP.out.mono ?_;rintro e w3 ⟨rfl,nd,rfl⟩;have HB3:Hid (Below w.heap.size w (wr.drewN nd)):=CN HB.out nd;by_cases hs:p=p'
    .have HN:Hid (ts.take (j+1)=us.take (j+1)):=Gh HI.out HT.out (hs ▸ HT'.out);have hb:(p == p')=true:=(by simpa using hs);rw[hb];clear hs hb;go_wp2_with fail;go_roundw;case rel=>exact⟨j+1,by omega,by go_num,HB3.out,HN.out⟩
     case measure=>simp[intOf];omega
    .have HV:Hid (decide (ts=us)=false):=by show _=_;rw[decide_eq_false_iff_not];rintro rfl;have h1:=HT.out;rw[HT'.out] at h1;exact hs (Option.some.inj h1).symm
     have hb:(p == p')=false:=(by simpa using hs);rw[hb];clear hs hb;go_wp2_with fail;go_ret;exact ak.intro HV.out.symm HB3.out
   .have HV:Hid (decide (ts=us)=true):=by show _=_;obtain⟨e1,e2⟩:=HL.out;have h:=HI.out;rw[List.take_of_length_le (by omega),List.take_of_length_le (by omega)] at h;simpa using h
    go_wp2_with fail;go_ret;exact ak.intro HV.out.symm HB.out
 .have HV:Hid (decide (ts=us)=false):=by show _=_;rw[decide_eq_false_iff_not];rintro rfl;obtain⟨e1,e2⟩:=HL.out;omega
  have hl':((n:Int) != n')=true:=by simp;omega
  go_in
  go_wp2_with fail;go_ret;exact ak.intro HV.out.symm (ai _ _)
def eM(Z:Nat)(p:List Int)(A:Option Addr):Prop:=p=[]∨∃b o,A=some ⟨b,o,none⟩/\b≠Z
theorem bT.notZ{w:World}{Z:Nat}{p:List Int}{A:Option Addr}{cs:Array Value}{T:TypeId}{fr:Nat×Nat}(h:bT w p A)(hZ:w.heap[Z]? =some (.cells cs T fr))(hT:T≠3):eM Z p A:=by
 rcases h with h|⟨b,o,cs',fr',e,hb⟩
 .exact .inl h
 .refine .inr ⟨b,o,e,fun hz=>?_⟩;subst hz;rw[hZ] at hb;injection hb with hb;injection hb with _ hb;exact hT hb
theorem cc.notZ{w:World}{Z:Nat}{p:List Int}{A:Option Addr}{n c:Nat}(h:cc w p A n c)(hZ:w.heap.size<=Z):eM Z p A:=by
 rcases h.2.2.2 with h|⟨b,o,e,hr⟩
 .exact .inl h
 .cases p with
  |nil=>exact .inl rfl
  |cons z p=>refine .inr ⟨b,o,e,fun hz=>?_⟩;have:=bK (hr 0 z rfl);simp only at this;omega
theorem cc.notKeep{w w':World}{Z:Nat}{p:List Int}{A:Option Addr}{n c:Nat}(h:cc w p A n c)(hn:eM Z p A)(hk:∀k,k<w.heap.size->k≠Z->w'.heap[k]? =w.heap[k]?):cc w' p A n c:=by
 obtain⟨h1,h2,h3,h4⟩:=h;refine⟨h1,h2,h3,?_⟩;rcases hn with hn|⟨b,o,e,hne⟩
 .exact .inl hn
 .rcases h4 with h4|⟨b',o',e',hr⟩
  .exact .inl h4
  .rw[e] at e';injection e' with e';injection e' with e1 e2;subst e1 e2;refine .inr ⟨b,o,e,fun j z hz=>?_⟩;have hc:=hr j z hz;rw[World.cell?_of_block (a:=⟨b,o+j,none⟩) (hk b (bK hc) hne)];exact hc
def Cr(w:World)(N Z:Nat)(ps:List (List Int))(A:Option Addr)(n c:Nat):Prop:=n=ps.length/\n<=c/\c<=maxLen/\∃g o,A=some ⟨g,o,none⟩/\N<=g/\∀j p,ps[j]? =some p->∃pA pc,w.cell? ⟨g,o+j,none⟩=some (.slice pA p.length pc)/\cc w p pA p.length pc/\eM Z p pA
theorem Cr.low{w:World}{N M Z:Nat}{ps:List (List Int)}{A:Option Addr}{n c:Nat}(h:Cr w N Z ps A n c)(hM:M<=N):Cr w M Z ps A n c:=by obtain⟨h1,h2,h3,g,o,e,h5,h4⟩:=h;exact⟨h1,h2,h3,g,o,e,aJ hM h5,h4⟩
theorem Cr.below{w w':World}{N Z:Nat}{ps:List (List Int)}{A:Option Addr}{n c:Nat}(h:Cr w N Z ps A n c)(hb:Below w.heap.size w w'):Cr w' N Z ps A n c:=by obtain⟨h1,h2,h3,g,o,e,h5,h4⟩:=h;exact⟨h1,h2,h3,g,o,e,h5,fun j p hp=>by obtain⟨pA,pc,q1,q2,q3⟩:=h4 j p hp;exact⟨pA,pc,ac hb q1,q2.below hb,q3⟩⟩
theorem Cr.turn{w w':World}{N Z:Nat}{ps:List (List Int)}{A:Option Addr}{n c:Nat}(h:Cr w N Z ps A n c)(hN:Z<N)(hk:∀k,k<w.heap.size->k≠Z->w'.heap[k]? =w.heap[k]?):Cr w' N Z ps A n c:=by obtain⟨h1,h2,h3,g,o,e,h5,h4⟩:=h;refine⟨h1,h2,h3,g,o,e,h5,fun j p hp=>?_⟩;obtain⟨pA,pc,q1,q2,q3⟩:=h4 j p hp;refine⟨pA,pc,?_,q2.notKeep q3 hk,q3⟩;rw[World.cell?_of_block (a:=⟨g,o+j,none⟩) (hk g (bK q1) (by omega))];exact q1
theorem Px{w w':World}{Bk:Nat}{v:Value}{T:TypeId}(hv:∀q z,v≠ .int q z)(hB:∀k,k<w.heap.size->k≠Bk->w'.heap[k]? =w.heap[k]?)(hblk:w.heap[Bk]? =some (.cells #[v] T (0,0))){p:List Int}{A:Option Addr}{n c:Nat}(h:cc w p A n c):cc w' p A n c:=by
 obtain⟨h1,h2,h3,h4⟩:=h;refine⟨h1,h2,h3,h4.imp id ?_⟩;rintro⟨b,o,e,hr⟩;refine⟨b,o,e,fun j z hz=>?_⟩;have hc:=hr j z hz;have hne:b≠Bk:=fun e=>by
  subst e;rw[cell_of_row w b (o+j) _ T (0,0) hblk] at hc;match ho:o+j with
  |0=>rw[ho] at hc;simp at hc;exact hv _ _ hc
  |m+1=>rw[ho] at hc;simp at hc
 rw[World.cell?_of_block (a:=⟨b,o+j,none⟩) (hB b (bK hc) hne)];exact hc
theorem Cr.get{w:World}{N Z:Nat}{ps:List (List Int)}{A:Option Addr}{n c j:Nat}(h:Cr w N Z ps A n c)(hj:j<n):∃g o p pA pc,A=some ⟨g,o,none⟩/\ps[j]? =some p/\w.cell? ⟨g,o+j,none⟩=some (.slice pA p.length pc)/\cc w p pA p.length pc:=by obtain⟨h1,h2,h3,g,o,e,_,h4⟩:=h;have hp:ps[j]? =some (ps[j]'(by omega)):=br _;obtain⟨pA,pc,q1,q2,_⟩:=h4 j _ hp;exact⟨g,o,_,pA,pc,e,hp,q1,q2⟩
theorem Gl{w:World}{us:List (List Int)}{g o:Nat}(h:∀j p,us[j]? =some p->∃v,w.cell? ⟨g,o+j,none⟩=some v/\Cd w p v){j:Nat}{u:Value}(hu:(cellsOf w g o us.length)[j]? =some u):∃p,us[j]? =some p/\w.cell? ⟨g,o+j,none⟩=some u/\Cd w p u:=by have hj:j<us.length:=(by have:=(gl.1 hu).1;simpa[cellsOf] using this);have hp:us[j]? =some us[j]:=br hj;obtain⟨v,h1,h2⟩:=h j _ hp;simp[cellsOf,hj,h1] at hu;subst hu;exact⟨_,hp,h1,h2⟩
theorem Ex{w w':World}{B base Bk Z:Nat}{zc:Array Value}{zT:TypeId}{zf:Nat×Nat}(hZ:w.heap[Z]? =some (.cells zc zT zf))(hzT:zT≠3){p:List Int}{pA:Option Addr}{pc:Nat}{us:List (List Int)}{vs:List Value}{v:Value}(hb:Below B w w')(hB:∀k,k<w.heap.size->k≠Bk->w'.heap[k]? =w.heap[k]?)(hblk:w.heap[Bk]? =some (.cells #[.slice pA p.length pc] 27 (0,0)))(hp:cc w p pA p.length pc)(hpZ:eM Z p pA)(hu:∀(j:Nat) (q:List Int),us[j]? =some q->∃u,vs[j]? =some u/\Cd w q u)(hl:vs.length=us.length)(ho:w'.ownsRow base 27 1 v (1+us.length) ([.slice pA p.length pc]++vs)):∃A c,v= .slice A (1+us.length) c/\Cr w' base Z (p::us) A (1+us.length) c:=by
 obtain⟨A,c,rfl,h1,h2⟩:=t9 ho;obtain⟨g,rfl⟩:∃g,A=some ⟨g,0,none⟩:=by
  rcases ho.2 with ⟨e,h0⟩|⟨g,cap,cur,e,_⟩
  .omega
  .injection e with e _ _;exact⟨g,e⟩
 have hki:∀{q:List Int} {A:Option Addr} {n c:Nat},cc w q A n c->cc w' q A n c:=fun h=>Px (fun _ _ e=>by cases e) hB hblk h;refine⟨_,c,rfl,by simp;omega,h1,h2,g,0,rfl,(ho.lt g rfl).1,fun j q hq=>?_⟩;cases j with
 |zero=>simp at hq;subst hq;exact⟨pA,pc,by simpa using bH ho 0 _ rfl,hki hp,hpZ⟩
 |succ j=>obtain⟨u,hu1,A',c',rfl,hI,hT⟩:=hu j q (by simpa using hq);refine⟨A',c',?_,hki hI,hT.notZ hZ hzT⟩;rw[Nat.zero_add];exact bH ho (j+1) _ (by simpa using hu1)
theorem F2{w:World}(base:Nat)(t ty e:TypeId)(i:TypeInfo)(size:Nat)(ht:Tryz.prog.underlying t=some (.slice e))(hi:Tryz.prog.info? e=some i)(v:Value)(n:Nat)(xs:List Value)(hown:w.ownsRow base e size v n xs)(A:Option Addr)(c:Nat):(Builtin.append_ #[t,t] ty #[v,.slice A 0 c]).run Tryz.prog w= .ok v w:=by
 rcases hown.2 with ⟨rfl,_⟩|⟨g,cap,cur,rfl,_,_,hnc,_⟩
 .cases A<;>simp[Builtin.append_,run_underlying ht,sizeOf,typeInfo,hi,Builtin.lenOf,Builtin.firstCells,loadCells,loadCellsFrom,storeCells,Result.andThen]
 .cases A<;>simp[Builtin.append_,run_underlying ht,sizeOf,typeInfo,hi,Builtin.lenOf,Builtin.firstCells,loadCells,loadCellsFrom,hnc,storeCells,Result.andThen]
theorem G4:(Tryz.prog.info? 27).map (fun i=>(i.zero,i.size,i.bytes))=some (some (.slice none 0 0),1,24):=by kernel_rfl
theorem IN{Z:Nat}{zc:Array Value}{zT:TypeId}{zf:Nat×Nat}{ops:Array Oper}{o:Oper}{a:Act}{K:Act->World->Prop}{Q:Exit->Act->World->Prop}{E:Prop}(w:World)(hgd:o.guard=none)(s x:Operand)(ho:o.op= .call { callee:=.builtin .append,args:=#[s,x],argTypes:=#[40,40] })(p:List Int)(pA:Option Addr)(pc:Nat)(us:List (List Int))(A:Option Addr)(n c Bk:Nat)(hs:a.eval s= .slice (some ⟨Bk,0,none⟩) 1 1)(hblk:w.heap[Bk]? =some (.cells #[.slice pA p.length pc] 27 (0,0)))(hp:cc w p pA p.length pc)(hpZ:eM Z p pA)(hZ:w.heap[Z]? =some (.cells zc zT zf))(hzT:zT≠3)(hx:a.eval x= .slice A n c)(hu:Cv w us A n c)(hlen:us.length<=1000000)(h:∀A' n' c' w',Cr w' Bk Z (p::us) A' n' c'->Below Bk w w'->K (a.put o.dst (.slice A' n' c')) w'):if Region.wanted o (yielded ops a.tmps)=true then Oper.wp Tryz.prog o a w K Q else E:=by
 obtain⟨i0,hi0,hz0,hz1,hz2⟩:=info_parts G4;have hown:w.ownsRow Bk 27 1 (.slice (some ⟨Bk,0,none⟩) 1 1) 1 [.slice pA p.length pc]:=⟨rfl,.inr ⟨Bk,1,#[.slice pA p.length pc],rfl,ah _,hblk,ah _,by unfold maxLen;omega,rfl,rfl⟩⟩;have hlt:Bk<w.heap.size:=(aK.1 hblk).1;have hw:Region.wanted o (yielded ops a.tmps)=true:=(by simp[Region.wanted,hgd]);rw[if_pos hw];obtain⟨rfl,h2,h3,h4⟩:=hu;rcases h4 with rfl|⟨g,of,rfl,hr⟩
 .have hrun:=F2 (w:=w) Bk 40 o.type 27 i0 1 Tryz.underlying40 hi0 _ _ _ hown A c;simp only[List.length_nil] at hx;obtain⟨A',c',e,hP⟩:=Ex (us:=[]) (vs:=[]) hZ hzT (ai Bk w) (fun _ _ _=>rfl) hblk hp hpZ (fun j q hq=>by simp at hq) rfl (by simpa using hown);refine Lib.wp_append_run w s x _ _ ho _ _ hs hx _ _ hrun ?_;rw[e];exact h A' _ c' w hP (ai _ _)
 .have hcl:(cellsOf w g of us.length).length=us.length:=nX ..;by_cases hm:0<us.length
  .have:=step_append_lies (P:=Tryz.prog) (w:=w) (ops:=ops) (Q:=Q) (K:=K) (E:=E) hgd s x _ ho Bk 27 i0 _ 1 24 Tryz.underlying40 hi0 hz0 hz1 hz2 rfl (by omega) _ 1 _ hs hown ⟨g,of,none⟩ us.length c (cellsOf w g of us.length) hx (by rw[hcl];omega)
    (fun j u hu=>by obtain⟨q,q1,q2,q3⟩:=Gl hr hu;rw[CE];exact q2)
    (fun u hu=>by obtain⟨j,hj,e⟩:=List.mem_iff_getElem.1 hu;obtain⟨q,q1,q2,A',c',rfl,q3⟩:=Gl (u:=u) hr (by rw[br hj,e]);rfl) hm (by unfold maxLen;omega) (by omega) (by omega) _ rfl
    (fun g' cap w' hown' hgr _ _=>by
     have hb:Below Bk w w':=(ai _ _).grown hgr (by omega) (fun k hk=>by simp[Value.ownBlock] at hk;omega);obtain⟨A',c',e,hP⟩:=Ex (us:=us) (vs:=cellsOf w g of us.length) hZ hzT hb (fun k hk hne=>hgr.block k hk (by simp[Value.ownBlock];exact hne)) hblk hp hpZ (fun j q hq=>by obtain⟨v,hv1,hv2⟩:=hr j q hq;have hj:j<us.length:=(gl.1 hq).1;exact⟨v,by simp[cellsOf,hj,hv1],hv2⟩) hcl hown'
     rw[e];exact h A' _ c' w' hP hb)
   rw[if_pos hw] at this;exact this
  .obtain rfl:us=[]:=List.eq_nil_of_length_eq_zero (by omega);have hrun:=F2 (w:=w) Bk 40 o.type 27 i0 1 Tryz.underlying40 hi0 _ _ _ hown (some ⟨g,of,none⟩) c;simp only[List.length_nil] at hx;obtain⟨A',c',e,hP⟩:=Ex (us:=[]) (vs:=[]) hZ hzT (ai Bk w) (fun _ _ _=>rfl) hblk hp hpZ (fun j q hq=>by simp at hq) rfl (by simpa using hown);refine Lib.wp_append_run w s x _ _ ho _ _ hs hx _ _ hrun ?_;rw[e];exact h A' _ c' w hP (ai _ _)
mutual
theorem F9 (a:ar):∀(t:ag) (p q:List Int),(t.setAt a p).kindAt q=t.kindAt q
 | .node k s x ks,[],q=>by cases q<;>rfl
 | .node k s x ks,z::p,[]=>rfl
 | .node k s x ks,z::p,y::q=>by
  show(if y<0 then none else ja y.toNat q (Cb a z.toNat p ks))=if y<0 then none else ja y.toNat q ks
  rw[F5 a ks z.toNat p y.toNat q]
theorem F5 (a:ar):∀(ts:List ag) (n:Nat) (p:List Int) (m:Nat) (q:List Int),ja m q (Cb a n p ts)=ja m q ts
 |[],n,p,m,q=>by cases n<;>rfl
 |t::ts,0,p,0,q=>F9 a t p q
 |t::ts,0,p,m+1,q=>rfl
 |t::ts,n+1,p,0,q=>rfl
 |t::ts,n+1,p,m+1,q=>F5 a ts n p m q
end
mutual
theorem Gc (a:ar):∀(t:ag) (p:List Int),(t.setAt a p).sz=t.sz
 | .node k s x ks,[]=>rfl
 | .node k s x ks,z::p=>by show 1+ao (Cb a z.toNat p ks)=1+ao ks;rw[F8 a ks _ p]
theorem F8 (a:ar):∀(ts:List ag) (n:Nat) (p:List Int),ao (Cb a n p ts)=ao ts
 |[],n,p=>by cases n<;>rfl
 |t::ts,0,p=>by show(t.setAt a p).sz+ao ts=t.sz+ao ts;rw[Gc a t p]
 |t::ts,n+1,p=>by show t.sz+ao (Cb a n p ts)=t.sz+ao ts;rw[F8 a ts n p]
end
mutual
theorem Gb {a:ar} {L:Nat} (ha:a.length<=L):∀(t:ag) (p:List Int),t.short L->(t.setAt a p).short L
 | .node k s x ks,[],h=>⟨ha,h.2⟩
 | .node k s x ks,z::p,h=>⟨h.1,F7 ha ks _ p h.2⟩
theorem F7 {a:ar} {L:Nat} (ha:a.length<=L):∀(ts:List ag) (n:Nat) (p:List Int),ex L ts->ex L (Cb a n p ts)
 |[],n,p,h=>by cases n<;>exact h
 |t::ts,0,p,h=>⟨Gb ha t p h.1,h.2⟩
 |t::ts,n+1,p,h=>⟨h.1,F7 ha ts n p h.2⟩
end
theorem Iu{t:ag}{a:ar}{ps:List (List Int)}{j:Nat}{p:List Int}(h:ps[j]? =some p):wc t a (ps.take (j+1))=(wc t a (ps.take j)).setAt a p:=by obtain⟨h1,h2⟩:=gl.1 h;unfold wc;rw[List.take_succ_eq_append_getElem h1,List.foldl_append,h2];rfl
theorem Ez{t:ag}{a:ar}:∀(ps:List (List Int)),(∀q,(wc t a ps).kindAt q=t.kindAt q)/\(wc t a ps).sz=t.sz/\∀L,a.length<=L->t.short L->(wc t a ps).short L:=by
 intro ps;induction ps generalizing t with
 |nil=>exact⟨fun q=>rfl,rfl,fun L _ h=>h⟩
 |cons p ps ih=>obtain⟨h1,h2,h3⟩:=ih (t:=t.setAt a p);exact⟨fun q=>(h1 q).trans (F9 a t p q),h2.trans (Gc a t p),fun L ha h=>h3 L ha (Gb ha t p h)⟩
theorem GF{t:ag}{b:j9}(h:b∈i5 t):∀q∈b.path::b.uses,∃k,t.kindAt q=some k:=by
 unfold i5 at h;split at h
 .cases h
 rename_i hc;obtain⟨hk,hr,st,hl⟩:=Di.1 (by omega:(gx t).1=0);rw[hl] at h;simp only at h;obtain⟨i,hi,rfl⟩:=List.mem_map.1 h;have hF:=CP hk hr;have hall:=Dv hl hF;have hp:=(DH (hall.2 i hi).2).2;intro q hq;rw[<-hp] at hq;unfold ln at hq;obtain⟨e,he,rfl⟩:=List.mem_map.1 hq;obtain⟨m,r,k,e1,e2,_⟩:=DU hl hF e (List.mem_filter.1 he).1;obtain⟨k0,s,x,ks⟩:=t;refine⟨k,?_⟩;rw[e1];show(if (m:Int)<0 then none else ja (m:Int).toNat r ks)=some k;rw[if_neg (by omega)];exact e2
theorem E9:∀(ts:List ag) (k a0:Nat) (fe:bq) (st:bo) (o:bq) (st':bo),i6 ts k a0 fe st= .ok (o,st')->st'.ev.length=st.ev.length+ts.length
 |[],k,a0,fe,st,o,st',h=>by
  unfold i6 at h;cases h
  simp
 |t::ts,k,a0,fe,st,o,st',h=>by unfold i6 at h;obtain⟨o1,st1,h1,h2⟩:=i9 h;obtain⟨_,_,rfl⟩:=ve h1;have:=E9 ts _ _ _ _ _ _ h2;simp[la] at this ⊢;omega
theorem GE{T:ag}{b:j9}(h:b∈i5 T)(hs:T.sz<=400000):b.uses.length<=1000000:=by
 unfold i5 at h;split at h
 .cases h
 rename_i hc;obtain⟨hk,hr,st,hl⟩:=Di.1 (by omega:(gx T).1=0);rw[hl] at h;simp only at h;obtain⟨i,hi,rfl⟩:=List.mem_map.1 h;show(ln st i).tail.length<=_;have h1:(ln st i).length<=st.ev.length:=by unfold ln;rw[ny];exact List.length_filter_le _ _
 unfold gn at hl;obtain⟨fe,st1,h2,h3⟩:=i9 hl;have h4:=(CS fe T.kids _ _ _ _ _ _ _ h3).ev;have h5:=E9 T.kids _ _ _ _ _ _ h2;have h6:T.kids.length<=ao T.kids:=by
  have:∀ts:List ag,ts.length<=ao ts:=fun ts=>by
   induction ts with
   |nil=>exact ah _
   |cons t ts ih=>obtain⟨k,s,x,ks⟩:=t;simp only[List.length_cons,ao,ag.sz];omega
  exact this _
 have h7:ao T.kids<=T.sz:=(by obtain⟨k,s,x,ks⟩:=T;simp only[ag.kids,ag.sz];omega);simp[bo.anew,bo.next,Cl] at h4 h5;rw[List.length_tail];omega
mutual
theorem cJ.keepR {w w':World}:∀{t:ag} {b o:Nat} {R:List Value},cJ w t b o->rc w t b o R->(∀i,i<4->w'.cell? ⟨b,o+i,none⟩=w.cell? ⟨b,o+i,none⟩)->(∀g∈aW R,∀p,w'.cell? ⟨g,p,none⟩=w.cell? ⟨g,p,none⟩)->cJ w' t b o
 | .node k s x ks,b,o,R,h,hR,hc,hk=>by
  simp only[cJ] at h ⊢;obtain⟨h0,h1,h2,g0,g1,g2,A,c,h3,g3,g4,g5⟩:=h;obtain⟨A',c',h3',R',rfl,hR'⟩:=hR;rw[h3] at h3';injection h3' with h3';injection h3' with e1 _ e3;subst e1 e3;refine⟨(hc 0 (by omega)).trans h0,(hc 1 (by omega)).trans h1,(hc 2 (by omega)).trans h2,g0,g1,g2,A,c,(hc 3 (by omega)).trans h3,g3,g4,?_⟩;rcases hR' with ⟨rfl,_⟩|⟨g,rfl,hR'⟩
  .exact .inl rfl
  .rcases g5 with g5|⟨b',o',e,g5⟩
   .exact .inl g5
   .injection e with e;injection e with e1 e2;subst e1 e2;exact .inr ⟨g,0,rfl,bk.keepR g5 hR' (fun p _=>hk g (by simp[aW,Value.ownBlock]) _) fun q hq p=>hk q (by simp only[aW,List.filterMap_cons,Value.ownBlock];exact List.mem_cons_of_mem _ hq) p⟩
theorem bk.keepR {w w':World}:∀{ts:List ag} {b o:Nat} {R:List Value},bk w ts b o->cR w ts b o R->(∀i,i<ts.length*4->w'.cell? ⟨b,o+i,none⟩=w.cell? ⟨b,o+i,none⟩)->(∀g∈aW R,∀p,w'.cell? ⟨g,p,none⟩=w.cell? ⟨g,p,none⟩)->bk w' ts b o
 |[],_,_,_,_,_,_,_=>by simp[bk]
 |t::ts,b,o,R,h,hR,hc,hk=>by simp only[bk] at h ⊢;obtain⟨R1,R2,rfl,h1,h2⟩:=hR;rw[gg] at hk;exact⟨cJ.keepR h.1 h1 (fun i hi=>hc _ (by simp;omega)) fun g hg=>hk g (List.mem_append_left _ hg),bk.keepR h.2 h2 (fun i hi=>by have:=hc (4+i) (by simp at hi ⊢;omega);rwa [show o+(4+i)=o+4+i from by omega] at this) fun g hg=>hk g (List.mem_append_right _ hg)⟩
end
mutual
def Fr (w:World):ag->Nat->Nat->List Int->Nat->Nat->Prop
 | .node _ _ _ _,b,o,[],ga,oa=>ga=b/\oa=o
 | .node _ _ _ ks,b,o,z::p,ga,oa=>∃g c,w.cell? ⟨b,o+3,none⟩=some (.slice (some ⟨g,0,none⟩) ks.length c)/\En w ks g 0 z.toNat p ga oa
def En (w:World):List ag->Nat->Nat->Nat->List Int->Nat->Nat->Prop
 |[],_,_,_,_,_,_=>False
 |t::_,b,o,0,p,ga,oa=>Fr w t b o p ga oa
 |_::ts,b,o,n+1,p,ga,oa=>En w ts b (o+4) n p ga oa
end
theorem EG(a:ar):∀(ts:List ag) (n:Nat) (p:List Int),(Cb a n p ts).length=ts.length
 |[],n,p=>by cases n<;>rfl
 |t::ts,0,p=>rfl
 |t::ts,n+1,p=>by show(Cb a n p ts).length+1=_;rw[EG a ts n p];rfl
mutual
theorem cJ.setText {w w':World} {a:ar} {ga oa:Nat} (ha:a.length<=maxLen) (hset:w'.cell? ⟨ga,oa+1,none⟩=some (.string (sb a))) (hoth:∀g q,¬(g=ga/\q=oa+1)->w'.cell? ⟨g,q,none⟩=w.cell? ⟨g,q,none⟩):
 ∀{t:ag} {b o:Nat} {R:List Value} {p:List Int},cJ w t b o->rc w t b o R->(aW R).Nodup->b∉aW R->Fr w t b o p ga oa->cJ w' (t.setAt a p) b o/\(ga=b/\oa=o∨ga∈aW R)
 | .node k s x ks,b,o,R,[],h,hR,hn,hb,hl=>by
  obtain⟨rfl,rfl⟩:=hl;have h9:=h;simp only[cJ] at h;obtain⟨h0,h1,h2,g0,g1,g2,A,c,h3,g3,g4,g5⟩:=h;obtain⟨A',c',h3',R',rfl,hR'⟩:=hR;rw[h3] at h3';injection h3' with h3';injection h3' with e1 _ e3;subst e1 e3;refine⟨?_,.inl ⟨rfl,rfl⟩⟩;show cJ w' (.node k a x ks) ga oa;simp only[cJ];refine⟨(hoth _ _ (by omega)).trans h0,hset,(hoth _ _ (by omega)).trans h2,g0,ha,g2,A,c,(hoth _ _ (by omega)).trans h3,g3,g4,?_⟩;rcases hR' with ⟨rfl,_⟩|⟨g,rfl,hR'⟩
  .exact .inl rfl
  .rcases g5 with g5|⟨b',o',e,g5⟩
   .exact .inl g5
   .injection e with e;injection e with e1 e2;subst e1 e2;simp only[aW,List.filterMap_cons,Value.ownBlock,List.mem_cons,not_or] at hb;exact .inr ⟨g,0,rfl,bk.keepR g5 hR' (fun i _=>hoth _ _ (fun e=>hb.1 e.1.symm)) fun q hq p=>hoth _ _ (fun e=>hb.2 (e.1 ▸ hq))⟩
 | .node k s x ks,b,o,R,z::p,h,hR,hn,hb,hl=>by
  obtain⟨g,cl,hl3,hl⟩:=hl;simp only[cJ] at h;obtain⟨h0,h1,h2,g0,g1,g2,A,c,h3,g3,g4,g5⟩:=h;obtain⟨A',c',h3',R',rfl,hR'⟩:=hR;rw[h3] at h3' hl3;injection h3' with h3';injection h3' with e1 _ e3;subst e1 e3;injection hl3 with hl3;injection hl3 with e1 _ e3;subst e1 e3;rcases hR' with ⟨rfl,_⟩|⟨g',e,hR'⟩
  .exact hl.elim
  .injection e with e;injection e with e _;subst e;rcases g5 with rfl|⟨b',o',e,g5⟩
   .exact hl.elim
   .injection e with e;injection e with e1 e2;subst e1 e2;simp only[aW,List.filterMap_cons,Value.ownBlock,List.mem_cons,not_or] at hb;simp only[aW,List.filterMap_cons,Value.ownBlock,List.nodup_cons] at hn;obtain⟨h5,h6⟩:=bk.setText ha hset hoth g5 hR' hn.2 hn.1 hl;have hgb:ga≠b:=by
     rcases h6 with ⟨e,_⟩|h6
     .exact fun e2=>hb.1 (e2.symm.trans e)
     .exact fun e2=>hb.2 (e2 ▸ h6)
    refine⟨?_,.inr ?_⟩
    .show cJ w' (.node k s x (Cb a z.toNat p ks)) b o;simp only[cJ];refine⟨(hoth _ _ fun e=>hgb e.1.symm).trans h0,(hoth _ _ fun e=>hgb e.1.symm).trans h1,(hoth _ _ fun e=>hgb e.1.symm).trans h2,g0,g1,g2,_,c,?_,?_,g4,.inr ⟨g,0,rfl,h5⟩⟩
     .rw[EG];exact(hoth _ _ fun e=>hgb e.1.symm).trans h3
     .rw[EG];exact g3
    .simp only[aW,List.filterMap_cons,Value.ownBlock,List.mem_cons];rcases h6 with ⟨e,_⟩|h6
     .exact .inl e
     .exact .inr h6
theorem bk.setText {w w':World} {a:ar} {ga oa:Nat} (ha:a.length<=maxLen) (hset:w'.cell? ⟨ga,oa+1,none⟩=some (.string (sb a))) (hoth:∀g q,¬(g=ga/\q=oa+1)->w'.cell? ⟨g,q,none⟩=w.cell? ⟨g,q,none⟩):
 ∀{ts:List ag} {b o n:Nat} {R:List Value} {p:List Int},bk w ts b o->cR w ts b o R->(aW R).Nodup->b∉aW R->En w ts b o n p ga oa->bk w' (Cb a n p ts) b o/\(ga=b/\o<=oa∨ga∈aW R)
 |[],_,_,_,_,_,_,_,_,_,hl=>hl.elim
 |t::ts,b,o,0,R,p,h,hR,hn,hb,hl=>by
  simp only[bk] at h;obtain⟨R1,R2,rfl,h1,h2⟩:=hR;rw[gg] at hn hb ⊢;rw[List.nodup_append] at hn;simp only[List.mem_append,not_or] at hb;obtain⟨h5,h6⟩:=cJ.setText ha hset hoth h.1 h1 hn.1 hb.1 hl;refine⟨?_,?_⟩
  .show bk w' (t.setAt a p::ts) b o;simp only[bk];refine⟨h5,bk.keepR h.2 h2 (fun i _=>hoth _ _ ?_) fun g hg q=>hoth _ _ ?_⟩
   .rcases h6 with ⟨e1,e2⟩|h6
    .omega
    .exact fun e=>hb.1 (e.1 ▸ h6)
   .rcases h6 with ⟨e1,e2⟩|h6
    .exact fun e=>hb.2 (by rw[<-e1,<-e.1];exact hg)
    .exact fun e=>hn.2.2 ga h6 g hg e.1.symm
  .rcases h6 with ⟨e1,e2⟩|h6
   .exact .inl ⟨e1,by omega⟩
   .exact .inr (List.mem_append_left _ h6)
 |t::ts,b,o,n+1,R,p,h,hR,hn,hb,hl=>by
  simp only[bk] at h;obtain⟨R1,R2,rfl,h1,h2⟩:=hR;rw[gg] at hn hb ⊢;rw[List.nodup_append] at hn;simp only[List.mem_append,not_or] at hb;obtain⟨h5,h6⟩:=bk.setText ha hset hoth h.2 h2 hn.2.1 hb.2 hl;refine⟨?_,?_⟩
  .show bk w' (t::Cb a n p ts) b o;simp only[bk];refine⟨cJ.keepR h.1 h1 (fun i hi=>hoth _ _ ?_) fun g hg q=>hoth _ _ ?_,h5⟩
   .rcases h6 with ⟨e1,e2⟩|h6
    .omega
    .exact fun e=>hb.2 (e.1 ▸ h6)
   .rcases h6 with ⟨e1,e2⟩|h6
    .exact fun e=>hb.1 (by rw[<-e1,<-e.1];exact hg)
    .exact fun e=>hn.2.2 g hg ga h6 e.1
  .rcases h6 with ⟨e1,e2⟩|h6
   .exact .inl ⟨e1,by omega⟩
   .exact .inr (List.mem_append_right _ h6)
end
mutual
def ag.putAt (u:ag):List Int->ag->ag
 |[],_=>u
 |z::p,.node k s x ks=>.node k s x (CT u z.toNat p ks)
def CT (u:ag):Nat->List Int->List ag->List ag
 |_,_,[]=>[]
 |0,p,t::ts=>ag.putAt u p t::ts
 |n+1,p,t::ts=>t::CT u n p ts
end
mutual
def ag.sub:List Int->ag->Option ag
 |[],t=>some t
 |z::p,.node _ _ _ ks=>if z<0 then none else C0 z.toNat p ks
def C0:Nat->List Int->List ag->Option ag
 |_,_,[]=>none
 |0,p,t::_=>t.sub p
 |n+1,p,_::ts=>C0 n p ts
end
theorem IP(t:ag):t.sub []=some t:=by cases t;rfl
theorem Gf:∀(ts:List ag) (n:Nat) (p:List Int),C0 n p ts=(ts[n]?).bind fun t=>t.sub p
 |[],n,p=>by cases n<;>rfl
 |t::ts,0,p=>rfl
 |t::ts,n+1,p=>by show C0 n p ts=_;rw[Gf ts n p];simp
mutual
theorem Ga (a:ar):∀(t:ag) (p:List Int) (k:Nat) (s:ar) (x:Int) (ks:List ag),t.sub p=some (.node k s x ks)->t.setAt a p=ag.putAt (.node k a x ks) p t
 | .node k s x ks,[],k',s',x',ks',h=>by have h:some (ag.node k s x ks)=some (.node k' s' x' ks'):=h;injection h with h;injection h with h1 h2 h3 h4;subst h1 h2 h3 h4;rfl
 | .node k s x ks,z::p,k',s',x',ks',h=>by
  have h:(if z<0 then none else C0 z.toNat p ks)=some (.node k' s' x' ks'):=h;split at h
  .cases h
  .show ag.node k s x (Cb a z.toNat p ks)= .node k s x (CT _ z.toNat p ks);rw[F6 a ks _ p k' s' x' ks' h]
theorem F6 (a:ar):∀(ts:List ag) (n:Nat) (p:List Int) (k:Nat) (s:ar) (x:Int) (ks:List ag),C0 n p ts=some (.node k s x ks)->Cb a n p ts=CT (.node k a x ks) n p ts
 |[],n,p,_,_,_,_,h=>by cases n<;>cases h
 |t::ts,0,p,k,s,x,ks,h=>by show t.setAt a p::ts=ag.putAt _ p t::ts;rw[Ga a t p k s x ks h]
 |t::ts,n+1,p,k,s,x,ks,h=>by show t::Cb a n p ts=t::CT _ n p ts;rw[F6 a ts n p k s x ks h]
end
mutual
theorem Fq:∀(t:ag) (p:List Int) (k:Nat),t.kindAt p=some k->∃s x ks,t.sub p=some (.node k s x ks)
 | .node k s x ks,[],k',h=>by have h:some k=some k':=h;injection h with h;subst h;exact⟨s,x,ks,rfl⟩
 | .node k s x ks,z::p,k',h=>by
  have h:(if z<0 then none else ja z.toNat p ks)=some k':=h;split at h
  .cases h
  .obtain⟨s',x',ks',h'⟩:=Fp ks _ p k' h;refine⟨s',x',ks',?_⟩;show(if z<0 then none else C0 z.toNat p ks)=_;rw[if_neg (by assumption)];exact h'
theorem Fp:∀(ts:List ag) (n:Nat) (p:List Int) (k:Nat),ja n p ts=some k->∃s x ks,C0 n p ts=some (.node k s x ks)
 |[],n,p,k,h=>by cases n<;>cases h
 |t::ts,0,p,k,h=>Fq t p k h
 |t::ts,n+1,p,k,h=>Fp ts n p k h
end
theorem Ey(u:ag):∀(ts:List ag) (n:Nat) (p:List Int),(CT u n p ts).length=ts.length
 |[],n,p=>by cases n<;>rfl
 |t::ts,0,p=>rfl
 |t::ts,n+1,p=>by show(CT u n p ts).length+1=_;rw[Ey u ts n p];rfl
mutual
def CA (w:World):ag->Nat->Nat->List Value->List Int->Nat->Nat->List Value->Prop
 | .node k s x ks,b,o,R,[],ga,oa,Ru=>ga=b/\oa=o/\Ru=R/\rc w (.node k s x ks) b o R
 | .node _ _ _ ks,b,o,R,z::p,ga,oa,Ru=>∃g c R',w.cell? ⟨b,o+3,none⟩=some (.slice (some ⟨g,0,none⟩) ks.length c)/\R= .slice (some ⟨g,0,none⟩) ks.length c::R'/\Cz w ks g 0 R' z.toNat p ga oa Ru
def Cz (w:World):List ag->Nat->Nat->List Value->Nat->List Int->Nat->Nat->List Value->Prop
 |[],_,_,_,_,_,_,_,_=>False
 |t::ts,b,o,R,0,p,ga,oa,Ru=>∃R1 R2,R=R1++R2/\cR w ts b (o+4) R2/\CA w t b o R1 p ga oa Ru
 |t::ts,b,o,R,n+1,p,ga,oa,Ru=>∃R1 R2,R=R1++R2/\rc w t b o R1/\Cz w ts b (o+4) R2 n p ga oa Ru
end
theorem CA.nil{w:World}{t:ag}{b o:Nat}{R:List Value}(h:rc w t b o R):CA w t b o R [] b o R:=by obtain⟨k,s,x,ks⟩:=t;exact⟨rfl,rfl,rfl,h⟩
mutual
theorem CA.sub {w:World} {ga oa:Nat} {Ru:List Value}:∀{t:ag} {b o:Nat} {R:List Value} {p:List Int},CA w t b o R p ga oa Ru->(∀q∈aW Ru,q∈aW R)/\(ga=b/\oa=o∨ga∈aW R)
 | .node k s x ks,b,o,R,[],h=>by obtain⟨rfl,rfl,rfl,_⟩:=h;exact⟨fun q hq=>hq,.inl ⟨rfl,rfl⟩⟩
 | .node k s x ks,b,o,R,z::p,h=>by
  obtain⟨g,c,R',_,rfl,h⟩:=h;obtain⟨h1,h2⟩:=Cz.sub h;refine⟨fun q hq=>?_,.inr ?_⟩
  .simp only[aW,List.filterMap_cons,Value.ownBlock];exact List.mem_cons_of_mem _ (h1 q hq)
  .simp only[aW,List.filterMap_cons,Value.ownBlock];rcases h2 with ⟨rfl,_⟩|h2
   .exact List.mem_cons_self ..
   .exact List.mem_cons_of_mem _ h2
theorem Cz.sub {w:World} {ga oa:Nat} {Ru:List Value}:∀{ts:List ag} {b o:Nat} {R:List Value} {n:Nat} {p:List Int},Cz w ts b o R n p ga oa Ru->(∀q∈aW Ru,q∈aW R)/\(ga=b/\o<=oa∨ga∈aW R)
 |[],_,_,_,n,_,h=>by cases n<;>exact h.elim
 |t::ts,b,o,R,0,p,h=>by obtain⟨R1,R2,rfl,_,h⟩:=h;obtain⟨h1,h2⟩:=CA.sub h;rw[gg];exact⟨fun q hq=>List.mem_append_left _ (h1 q hq),h2.imp (fun e=>⟨e.1,by omega⟩) (List.mem_append_left _)⟩
 |t::ts,b,o,R,n+1,p,h=>by obtain⟨R1,R2,rfl,_,h⟩:=h;obtain⟨h1,h2⟩:=Cz.sub h;rw[gg];exact⟨fun q hq=>List.mem_append_right _ (h1 q hq),h2.imp (fun e=>⟨e.1,by omega⟩) (List.mem_append_right _)⟩
end
theorem Cz.of{w:World}:∀{ts:List ag} {b o:Nat} {R:List Value} {n:Nat} {t:ag},cR w ts b o R->ts[n]? =some t->∃Rt,rc w t b (o+n*4) Rt/\((aW R).Nodup->(aW Rt).Nodup)/\(∀v∈Rt,v∈R)/\∀p ga oa Ru,CA w t b (o+n*4) Rt p ga oa Ru->Cz w ts b o R n p ga oa Ru
 |t::ts,b,o,R,0,u,h,hu=>by obtain⟨R1,R2,rfl,h1,h2⟩:=h;simp at hu;subst hu;refine⟨R1,by simpa using h1,fun hn=>?_,fun v hv=>List.mem_append_left _ hv,fun p ga oa Ru h=>⟨R1,R2,rfl,h2,by simpa using h⟩⟩;rw[gg,List.nodup_append] at hn;exact hn.1
 |t::ts,b,o,R,n+1,u,h,hu=>by obtain⟨R1,R2,rfl,h1,h2⟩:=h;obtain⟨Rt,g1,g2,g3,g4⟩:=Cz.of h2 (n:=n) (t:=u) (by simpa using hu);have e:o+4+n*4=o+(n+1) *4:=(by omega);rw[e] at g1 g4;refine⟨Rt,g1,fun hn=>?_,fun v hv=>List.mem_append_right _ (g3 v hv),fun p ga oa Ru h=>⟨R1,R2,rfl,h1,g4 _ _ _ _ h⟩⟩;rw[gg,List.nodup_append] at hn;exact g2 hn.2.1
mutual
theorem cJ.put {w w':World} {N:Nat} {u:ag} {ga oa:Nat} {Ru:List Value} (hset:cJ w' u ga oa) (hoth:∀g q,g<N->¬(g=ga/\oa<=q/\q<oa+4)->g∉aW Ru->w'.cell? ⟨g,q,none⟩=w.cell? ⟨g,q,none⟩):
 ∀{t:ag} {b o:Nat} {R:List Value} {p:List Int},cJ w t b o->(aW R).Nodup->b∉aW R->b<N->(∀g∈aW R,g<N)->CA w t b o R p ga oa Ru->cJ w' (ag.putAt u p t) b o
 | .node k s x ks,b,o,R,[],h,hn,hb,hbN,hRN,hl=>by obtain⟨rfl,rfl,rfl,_⟩:=hl;exact hset
 | .node k s x ks,b,o,R,z::p,h,hn,hb,hbN,hRN,hl=>by
  obtain⟨g,cl,R0,hl3,rfl,hl⟩:=hl;simp only[cJ] at h;obtain⟨h0,h1,h2,g0,g1,g2,A,c,h3,g3,g4,g5⟩:=h;rw[h3] at hl3;injection hl3 with hl3;injection hl3 with e1 _ e3;subst e1 e3;rcases g5 with rfl|⟨b',o',e,g5⟩
  .exact hl.elim
  .injection e with e;injection e with e1 e2;subst e1 e2;simp only[aW,List.filterMap_cons,Value.ownBlock,List.mem_cons,not_or] at hb;simp only[aW,List.filterMap_cons,Value.ownBlock,List.nodup_cons] at hn;have hRN':∀q∈aW R0,q<N:=fun q hq=>hRN q (by simp only[aW,List.filterMap_cons,Value.ownBlock];exact List.mem_cons_of_mem _ hq);have hgN:g<N:=hRN g (by simp only[aW,List.filterMap_cons,Value.ownBlock];exact List.mem_cons_self ..);have h5:=bk.put hset hoth g5 hn.2 hn.1 hgN hRN' hl;obtain⟨s1,s2⟩:=Cz.sub hl;have hgb:ga≠b:=by
    rcases s2 with ⟨e,_⟩|h6
    .exact fun e2=>hb.1 (e2.symm.trans e)
    .exact fun e2=>hb.2 (e2 ▸ h6)
   have hbu:b∉aW Ru:=fun hq=>hb.2 (s1 _ hq);show cJ w' (.node k s x (CT u z.toNat p ks)) b o;simp only[cJ];refine⟨(hoth _ _ hbN (fun e=>hgb e.1.symm) hbu).trans h0,(hoth _ _ hbN (fun e=>hgb e.1.symm) hbu).trans h1,(hoth _ _ hbN (fun e=>hgb e.1.symm) hbu).trans h2,g0,g1,g2,_,c,?_,?_,g4,.inr ⟨g,0,rfl,h5⟩⟩
   .rw[Ey];exact(hoth _ _ hbN (fun e=>hgb e.1.symm) hbu).trans h3
   .rw[Ey];exact g3
theorem bk.put {w w':World} {N:Nat} {u:ag} {ga oa:Nat} {Ru:List Value} (hset:cJ w' u ga oa) (hoth:∀g q,g<N->¬(g=ga/\oa<=q/\q<oa+4)->g∉aW Ru->w'.cell? ⟨g,q,none⟩=w.cell? ⟨g,q,none⟩):
 ∀{ts:List ag} {b o n:Nat} {R:List Value} {p:List Int},bk w ts b o->(aW R).Nodup->b∉aW R->b<N->(∀g∈aW R,g<N)->Cz w ts b o R n p ga oa Ru->bk w' (CT u n p ts) b o
 |[],_,_,n,_,_,_,_,_,_,_,hl=>by cases n<;>exact hl.elim
 |t::ts,b,o,0,R,p,h,hn,hb,hbN,hRN,hl=>by
  simp only[bk] at h;obtain⟨R1,R2,rfl,hr2,hl⟩:=hl;rw[gg] at hn hb hRN;rw[List.nodup_append] at hn;simp only[List.mem_append,not_or] at hb;obtain⟨s1,s2⟩:=CA.sub hl;show bk w' (ag.putAt u p t::ts) b o;simp only[bk];refine⟨cJ.put hset hoth h.1 hn.1 hb.1 hbN (fun g hg=>hRN g (List.mem_append_left _ hg)) hl,bk.keepR h.2 hr2 (fun i _=>hoth _ _ hbN ?_ fun hq=>hb.1 (s1 _ hq)) fun g hg q=>hoth _ _ (hRN g (List.mem_append_right _ hg)) ?_ fun hq=>hn.2.2 _ (s1 _ hq) g hg rfl⟩
  .rcases s2 with ⟨e1,e2⟩|h6
   .omega
   .exact fun e=>hb.1 (e.1 ▸ h6)
  .rcases s2 with ⟨e1,e2⟩|h6
   .exact fun e=>hb.2 (by rw[<-e1,<-e.1];exact hg)
   .exact fun e=>hn.2.2 ga h6 g hg e.1.symm
 |t::ts,b,o,n+1,R,p,h,hn,hb,hbN,hRN,hl=>by
  simp only[bk] at h;obtain⟨R1,R2,rfl,hr1,hl⟩:=hl;rw[gg] at hn hb hRN;rw[List.nodup_append] at hn;simp only[List.mem_append,not_or] at hb;obtain⟨s1,s2⟩:=Cz.sub hl;show bk w' (t::CT u n p ts) b o;simp only[bk];refine⟨cJ.keepR h.1 hr1 (fun i _=>hoth _ _ hbN ?_ fun hq=>hb.2 (s1 _ hq)) fun g hg q=>hoth _ _ (hRN g (List.mem_append_left _ hg)) ?_ fun hq=>hn.2.2 g hg _ (s1 _ hq) rfl,bk.put hset hoth h.2 hn.2.1 hb.2 hbN (fun g hg=>hRN g (List.mem_append_right _ hg)) hl⟩
  .rcases s2 with ⟨e1,e2⟩|h6
   .omega
   .exact fun e=>hb.2 (e.1 ▸ h6)
  .rcases s2 with ⟨e1,e2⟩|h6
   .exact fun e=>hb.1 (by rw[<-e1,<-e.1];exact hg)
   .exact fun e=>hn.2.2 g hg ga h6 e.1
end
mutual
theorem rc.since {w:World} {B:Nat}:∀{t:ag} {b o:Nat} {R:List Value},rc w t b o R->B<=b->(∀g∈aW R,B<=g)->rc (cX w B) t b o R
 | .node k s x ks,b,o,R,h,hb,hk=>by
  obtain⟨A,c,h3,R',rfl,h⟩:=h;refine⟨A,c,i8.2 ⟨hb,h3⟩,R',rfl,?_⟩;rcases h with h|⟨g,rfl,h⟩
  .exact .inl h
  .exact .inr ⟨g,rfl,cR.since h (hk g (by simp[aW,Value.ownBlock])) fun q hq=>hk q (by simp only[aW,List.filterMap_cons,Value.ownBlock];exact List.mem_cons_of_mem _ hq)⟩
theorem cR.since {w:World} {B:Nat}:∀{ts:List ag} {b o:Nat} {R:List Value},cR w ts b o R->B<=b->(∀g∈aW R,B<=g)->cR (cX w B) ts b o R
 |[],_,_,_,h,_,_=>h
 |t::ts,b,o,R,h,hb,hk=>by obtain⟨R1,R2,rfl,h1,h2⟩:=h;rw[gg] at hk;exact⟨R1,R2,rfl,rc.since h1 hb fun g hg=>hk g (List.mem_append_left _ hg),cR.since h2 hb fun g hg=>hk g (List.mem_append_right _ hg)⟩
end
structure Cu (W:World) (B:Nat) (u:ag) (g o:Nat) (Ru:List Value):Prop where
 at_:cJ (cX W B) u g o
 rows:rc (cX W B) u g o Ru
 nd:(aW Ru).Nodup
 out:g∉aW Ru
 own:∀v∈Ru,hH W B 25 4 v
 soft:∀i,i<4->W.frozen? ⟨g,o+i,none⟩=false
 lo:B<=g
theorem Cu.hi{W:World}{B:Nat}{u:ag}{g o:Nat}{Ru:List Value}(h:Cu W B u g o Ru):g<W.heap.size:=by obtain⟨A,c,h0,_⟩:=h.at_.parts;exact bK (i8.1 h0).2
theorem Cu.blk{W:World}{B:Nat}{u:ag}{g o:Nat}{Ru:List Value}(h:Cu W B u g o Ru){q:Nat}(hq:q∈aW Ru):B<=q/\q<W.heap.size:=by obtain⟨v,hv,e⟩:=eV hq;exact(h.own v hv).lt e
structure Ec (W W':World) (B:Nat) (u':ag) (g o:Nat) (Ru:List Value):Prop where
 at_:cJ (cX W' B) u' g o
 bel:Below B W W'
 oth:∀q i,q<W.heap.size->¬(q=g/\o<=i/\i<o+4)->q∉aW Ru->W'.cell? ⟨q,i,none⟩=W.cell? ⟨q,i,none⟩
def EP(rO wk:Nat)(w0:World)(u u':ag):Prop:=∀(W:World) (B g o:Nat) (Ru:List Value),w0.heap.size<=B->B<=W.heap.size->Below w0.heap.size w0 W->Cu W B u g o Ru->
 Calls Tryz.prog rO #[.pointer (some ⟨g,o,none⟩),.pointer (some ⟨wk,0,none⟩)] W fun e W'=>e= .returned (.tuple #[])/\Ec W W' B u' g o Ru
def CV(W:World)(B:Nat)(t:ag)(b:Nat)(R:List Value)(u:ag)(p:List Int)(j:Nat)(g o:Nat):Prop:=
 ∃v Rv,Cu W B v g o Rv/\v.sub (p.drop j)=some u/\∀r ga oa Ru,CA (cX W B) v g o Rv r ga oa Ru->CA (cX W B) t b 0 R (p.take j++r) ga oa Ru
theorem CV.start{W:World}{B:Nat}{t:ag}{b:Nat}{R:List Value}{u:ag}{p:List Int}(h:Cu W B t b 0 R)(hu:t.sub p=some u):CV W B t b R u p 0 b 0:=⟨t,R,h,by simpa using hu,fun r ga oa Ru h=>by simpa using h⟩
theorem CV.done{W:World}{B:Nat}{t:ag}{b:Nat}{R:List Value}{u:ag}{p:List Int}{g o:Nat}(h:CV W B t b R u p p.length g o):∃Ru,Cu W B u g o Ru/\CA (cX W B) t b 0 R p g o Ru:=by obtain⟨v,Rv,h1,h2,h3⟩:=h;rw[List.drop_length,IP] at h2;injection h2 with h2;subst h2;exact⟨Rv,h1,by simpa using h3 [] g o Rv (.nil h1.rows)⟩
theorem CV.step{W:World}{B:Nat}{t:ag}{b:Nat}{R:List Value}{u:ag}{p:List Int}{j g o:Nat}{z:Int}(h:CV W B t b R u p j g o)(hz:p[j]? =some z):∃(g' m c m':Nat),W.cell? ⟨g,o+3,none⟩=some (.slice (some ⟨g',0,none⟩) m c)/\z=(m':Int)/\m'<m/\m<=maxLen/\CV W B t b R u p (j+1) g' (m'*4):=by
 obtain⟨v,Rv,h1,h2,h3⟩:=h;have hj:j<p.length:=(gl.1 hz).1;have hd:p.drop j=z::p.drop (j+1):=by
  rw[List.drop_eq_getElem_cons hj]
  congr 1
  exact(gl.1 hz).2
 have ht:p.take (j+1)=p.take j++[z]:=by
  rw[List.take_succ_eq_append_getElem hj]
  congr 2
  exact(gl.1 hz).2
 rw[hd] at h2;obtain⟨k,s,x,ks⟩:=v;have h2:(if z<0 then none else C0 z.toNat (p.drop (j+1)) ks)=some u:=h2;split at h2
 .cases h2
 rename_i hz0;rw[Gf] at h2;cases hk:ks[z.toNat]? with
 |none=>rw[hk] at h2;cases h2
 |some t1=>
  rw[hk] at h2;have h2:t1.sub (p.drop (j+1))=some u:=h2;have hlt:z.toNat<ks.length:=(gl.1 hk).1;have hat:=h1.at_;simp only[cJ] at hat;obtain⟨_,_,_,_,_,_,A,c,h3c,g3,g4,g5⟩:=hat;obtain⟨A',c',h3',R',hRe,hR'⟩:=h1.rows;rw[h3c] at h3';injection h3' with h3';injection h3' with e1 _ e3;subst e1 e3;rcases hR' with ⟨rfl,_⟩|⟨g',rfl,hR'⟩
  .simp at hlt
  rcases g5 with rfl|⟨b',o',e,g5⟩
  .simp at hlt
  injection e with e;injection e with e1 e2;subst e1 e2;obtain⟨Rt,r1,r2,r3,r4⟩:=Cz.of hR' hk;have hb:g'∈aW Rv:=(by rw[hRe];simp[aW,Value.ownBlock]);have hbl:=h1.blk hb;have hnd:=h1.nd;rw[hRe] at hnd;simp only[aW,List.filterMap_cons,Value.ownBlock,List.nodup_cons] at hnd;have hmem:∀q∈aW Rt,q∈aW R':=fun q hq=>by obtain⟨v,hv,e⟩:=eV hq;exact iR (r3 v hv) e
  rw[Nat.zero_add] at r1 r4;refine⟨g',ks.length,c,z.toNat,(i8.1 h3c).2,(Int.toNat_of_nonneg (by omega)).symm,hlt,by omega,t1,Rt,⟨?_,r1,r2 hnd.2,fun hq=>hnd.1 (hmem _ hq),fun v hv=>h1.own v (by rw[hRe];exact List.mem_cons_of_mem _ (r3 v hv)),fun i hi=>?_,hbl.1⟩,h2,fun r ga oa Ru hl=>?_⟩
  .have:=g5.get hk;rwa [Nat.zero_add] at this
  .obtain⟨v,hv,e⟩:=eV hb;obtain⟨cur,hc⟩:=(h1.own v hv).block e;simp[World.frozen?,hc]
  .have:=h3 (z::r) ga oa Ru ⟨g',c,R',h3c,hRe,r4 _ _ _ _ hl⟩;rw[ht,List.append_assoc];exact this
theorem Gd{w w':World}{B:Nat}{a:Addr}(h:w'.cell? a=w.cell? a):(cX w' B).cell? a=(cX w B).cell? a:=
 Option.ext fun v=>by rw[i8,i8,h]
theorem GZ{w1:World}{B k:Nat}{s:ByteArray}{x:Int}{ks:List ag}{A:Option Addr}{n c:Nat}(hf:bJ w1 B ks A n c)(hB:B<=w1.heap.size)(h1:k<=255)(h2:s.size<=maxLen)(h3:tw x):∃R,Cu (w1.alloc (.cells #[.int .u8 k,.string s,.int .i64 x,.slice A n c] 25)) B (.node k (bl s) x ks) w1.heap.size 0 R:=by
 have hb:Below w1.heap.size w1 (w1.alloc (.cells #[.int .u8 k,.string s,.int .i64 x,.slice A n c] 25)):=bz_alloc (ai _ _) _;have hk:=(hf.keep (w':=w1.alloc (.cells #[.int .u8 k,.string s,.int .i64 x,.slice A n c] 25)) (ah _) (fun q _ hq=>hb.block q hq)).1;obtain⟨_,R,ho0⟩:=hf;have ho:=ho0.keep (w':=w1.alloc (.cells #[.int .u8 k,.string s,.int .i64 x,.slice A n c] 25)) (ah B) (fun q _ hq=>hb.block q hq);obtain⟨a0,a1,a2,a3,f0,f1,f2,f3⟩:=di (heap_alloc_new w1 (.cells #[.int .u8 k,.string s,.int .i64 x,.slice A n c] 25));have hn:n=ks.length:=hk.1;subst hn;have hlt:∀q∈aW R,B<=q/\q<w1.heap.size:=fun q hq=>ho0.lt hq;refine⟨R,?_,?_,ho.nd,fun hq=>absurd (hlt _ hq).2 (Nat.lt_irrefl _),ho.own,fun i hi=>?_,hB⟩
 .refine cJ.of (i8.2 ⟨hB,a0⟩) (i8.2 ⟨hB,a1⟩) (i8.2 ⟨hB,a2⟩) (i8.2 ⟨hB,a3⟩) hk h1 h2 h3
 .refine rc.since (rc.of (A:=A) (c:=c) a3 ho.rows) hB fun q hq=>(hlt q hq).1
 .match i,hi with
  |0,_=>exact f0
  |1,_=>exact f1
  |2,_=>exact f2
  |3,_=>exact f3
  |i+4,h=>omega
def Gw(t:ag)(w:World)(e:Ending)(w':World):Prop:=Below w.heap.size w w'/\∃(k:Nat) (s:ByteArray) (x:Int) (A:Option Addr) (n c:Nat),e= .returned (.agg #[.int .u8 k,.string s,.int .i64 x,.slice A n c])/\cf (cX w' w.heap.size) t k s x A n c
theorem I5{W w3:World}{B b g o:Nat}{t u u':ag}{R Ru:List Value}{p:List Int}(h:Cu W B t b 0 R)(hu:Cu W B u g o Ru)(hl:CA (cX W B) t b 0 R p g o Ru)(hT:Ec W w3 B u' g o Ru):cJ (cX w3 B) (ag.putAt u' p t) b 0:=
 cJ.put (w:=cX W B) (N:=W.heap.size) hT.at_ (fun q i hq h1 h2=>Gd (hT.oth q i hq h1 h2)) h.at_ h.nd h.out h.hi (fun q hq=>(h.blk hq).2) hl
theorem IZ{w3:World}{B:Nat}{T:ag}{A:Option Addr}{c:Nat}{v0 v1 v2 v3:Value}{p0 p1 p2 p3:Nat}(h:ce (cX w3 (B+1+1)) T.kids A T.kids.length c/\T.kind<=255/\T.text.length<=maxLen/\tw T.num):cf (cX ((((w3.setCell ⟨B+1,p0,none⟩ v0).setCell ⟨B+1,p1,none⟩ v1).setCell ⟨B+1,p2,none⟩ v2).setCell ⟨B+1,p3,none⟩ v3) B) T T.kind (sb T.text) T.num A T.kids.length c:=by
 obtain⟨h1,h2,h3,h4⟩:=h;refine⟨T.kids,by cases T;rfl,h2,h3,h4,ce.keep (fun a v hv=>?_) h1⟩;obtain⟨g1,g2⟩:=i8.1 hv;have hne:∀q,a≠(⟨B+1,q,none⟩:Addr):=fun q e=>by have g3:B+1+1<=B+1:=(by rw[e] at g1;exact g1);omega
 exact i8.2 ⟨by omega,am (hne _) (am (hne _) (am (hne _) (am (hne _) g2)))⟩
theorem cf.since{w:World}{B:Nat}{t:ag}{k:Nat}{s:ByteArray}{x:Int}{A:Option Addr}{n c:Nat}(h:cf (cX w B) t k s x A n c):cf w t k s x A n c:=h.keep fun _ _ hc=>(i8.1 hc).2
theorem Io(rO wk:Nat)(henter:∀args w,(callFunc rO args).run Tryz.prog w= .ok (.enter rO args) w)(t u u':ag)(x0 x1 x2 x3 x4 x5 x6 x7:Value)(k:Nat)(s:ByteArray)(x:Int)(A:Option Addr)(n c:Nat)(p:List Int)(pA:Option Addr)(pn pc:Nat)(w:World)(hsz:t.sz<=1000000)(hN:cf w t k s x A n c)(hp:cc w p pA pn pc)(hu:t.sub p=some u)(hT:EP rO wk w u u'):Calls Tryz.prog 96 #[.agg #[x0,x1,x2,x3,x4,x5,x6,x7,.int .u8 k,.string s,.int .i64 x,.slice A n c],.slice pA pn pc,.func (.func rO) #[] #[.pointer (some ⟨wk,0,none⟩)]] w (Gw (ag.putAt u' p t) w):=by
 have hb0:Below w.heap.size w ((w.alloc (.cells #[x0,x1,x2,x3,x4,x5,x6,x7,.int .u8 k,.string s,.int .i64 x,.slice A n c] 83)).alloc (.cells #[.int .u8 0,.string ⟨#[]⟩,.int .i64 0,.slice none 0 0] 25)):=((ai _ _).alloc (ah _) _).alloc (by simp) _;have HB0:=ab hb0;have HP:=ab hp;have HT:=ab hT;have HU:=ab hu;have hpg:=ab (Ew t k s x A n c _ hsz (hN.below hb0));have hK:Hid (∃ks,t= .node k (bl s) x ks/\k<=255/\s.size<=maxLen/\tw x):=(by obtain⟨ks,e,h1,h2,h3,_⟩:=hN;exact⟨ks,e,h1,h2,h3⟩);clear hb0 hN hp hT hu
 go_in
 go_wp2_with fail;refine hpg.out.mono ?_;rintro e w1 ⟨A1,c1,rfl,hf,hb1⟩;have HF:=ab hf;have HB1:=ab hb1;clear hf hb1 hpg;go_wp2_with fail;have HNR:Hid (∃R,Cu (w1.alloc (.cells #[.int .u8 k,.string s,.int .i64 x,.slice A1 n c1] 25)) (w.heap.size+1+1) t w1.heap.size 0 R):=by obtain⟨ks,rfl,g1,g2,g3⟩:=hK.out;have hF:=HF.out;have hs:=HB1.out.size;simp only[Array.size_push,World.alloc] at hF hs;exact GZ hF hs g1 g2 g3
 have HBW:Hid (Below w.heap.size w (w1.alloc (.cells #[.int .u8 k,.string s,.int .i64 x,.slice A1 n c1] 25))):=bz_alloc (af HB0.out HB1.out) _;have HSZ:Hid (w.heap.size+1+1<=(w1.alloc (.cells #[.int .u8 k,.string s,.int .i64 x,.slice A1 n c1] 25)).heap.size):=by have hs:=HB1.out.size;show _<=_;simp at hs ⊢;omega
 have HRES:Hid ((w1.alloc (.cells #[.int .u8 k,.string s,.int .i64 x,.slice A1 n c1] 25)).heap[w.heap.size+1]? =some (.cells #[.int .u8 0,.string ⟨#[]⟩,.int .i64 0,.slice none 0 0] 25 (0,0))):=by have hs:=HB1.out.size;simp at hs;exact(heap_alloc_old _ _ (by omega)).trans ((HB1.out.block _ (by simp)).trans (heap_alloc_at (by simp)))
 generalize hW:w1.alloc (.cells #[.int .u8 k,.string s,.int .i64 x,.slice A1 n c1] 25)=W at HNR HBW HSZ HRES ⊢;clear hW;obtain⟨R,hnr⟩:=HNR.out;have HNR:=ab hnr;have hL0:=ab (CV.start hnr HU.out);have hpn:pn=p.length:=HP.out.1;have hpm:pn<=9223372036854775807:=(by have h1:=HP.out.2.1;have h2:=HP.out.2.2.1;unfold maxLen at h2;omega);clear hnr HF HB1;go_loopw [20,9,11] (fun i q z wr=>∃(j g o:Nat),j<=pn/\i= .int .i64 j/\q= .pointer (some ⟨g,o,none⟩)/\Hid (W=wr)/\Hid (CV W (w.heap.size+1+1) t w1.heap.size R u p j g o)) (fun i _ _ _=>pn - (intOf i).toNat);case atStart=>exact⟨0,w1.heap.size,0,aE _,rfl,rfl,rfl,hL0⟩
 case round=>
  obtain⟨j,g,o,hj,rfl,rfl,HW,HL⟩:=hrel;have hw:=HW.out;subst hw;by_cases hlt:j<pn
  .obtain⟨pb,po,z,rfl,hz,hzc⟩:=(HP.out.below HBW.out).get hlt;obtain⟨g',m,c',m',hc3,rfl,hm1,hm2,hL⟩:=HL.out.step hz;have HL2:=ab hL;have hmm:m<=9223372036854775807:=(by unfold maxLen at hm2;omega);clear hL hz;go_wp2;go_roundw;case rel=>exact⟨j+1,g',m'*4,by omega,by go_num,by go_num,(by first|exact ab trivial|exact ab rfl),HL2⟩
   case measure=>simp[intOf];omega
  .have hjn:j=p.length:=(by omega);subst hjn;obtain⟨Ru,hnu,hlead⟩:=HL.out.done;have HNU:=ab hnu;have HLE:=ab hlead;have hcf:=henter;clear hnu hlead HL;go_wp2_with fail;refine(HT.out _ (w.heap.size+1+1) g o Ru (by omega) HSZ.out HBW.out HNU.out).mono ?_;rintro e w3 ⟨rfl,htu⟩;have HTU:=ab htu;clear htu;have HTA:=ab (I5 HNR.out HNU.out HLE.out HTU.out);have HB3:=ab (HBW.out.trans (HTU.out.bel.mono (by omega)));have hres:w3.heap[w.heap.size+1]? =some (.cells #[.int .u8 0,.string ⟨#[]⟩,.int .i64 0,.slice none 0 0] 25 (0,0)):=(HTU.out.bel.block _ (by omega)).trans HRES.out;obtain⟨r0,r1,r2,r3,f0,f1,f2,f3⟩:=di hres;obtain⟨A3,c3,t0,t1,t2,t3,hkk,hk1,hk2,hk3⟩:=HTA.out.parts;obtain⟨_,t0⟩:=i8.1 t0;obtain⟨_,t1⟩:=i8.1 t1;obtain⟨_,t2⟩:=i8.1 t2;obtain⟨_,t3⟩:=i8.1 t3;have HKK:Hid (ce (cX w3 (w.heap.size+1+1)) _ A3 _ c3/\_/\_/\_):=⟨hkk,hk1,hk2,hk3⟩;have HQ:=ab (mL (v0:=.int .u8 (ag.putAt u' p t).kind) (v1:=.string (sb (ag.putAt u' p t).text)) (v2:=.int .i64 (ag.putAt u' p t).num) (v3:=.slice A3 (ag.putAt u' p t).kids.length c3) r0 r1 r2 r3);clear hkk hk1 hk2 hk3 HTA HTU HLE HNU hres;go_wp2_with fail;obtain⟨a0,a1,a2,a3⟩:=HQ.out;refine bodyPost_ret (v:=.agg #[.int .u8 (ag.putAt u' p t).kind,.string (sb (ag.putAt u' p t).text),.int .i64 (ag.putAt u' p t).num,.slice A3 (ag.putAt u' p t).kids.length c3]) (by simp[results,Tryz.results96,go_sem,a0,a1,a2,a3]) rfl ⟨(((HB3.out.setCell (by simp) _).setCell (by simp) _).setCell (by simp) _).setCell (by simp) _,_,_,_,_,_,_,rfl,?_⟩;exact IZ HKK.out
theorem GR(args:Array Value)(w:World):(callFunc 97 args).run Tryz.prog w= .ok (.enter 97 args) w:=eH Tryz.func97 (by kernel_rfl) (by kernel_rfl) args w
theorem I0{W:World}{B g o k:Nat}{s a:ar}{x:Int}{ks:List ag}{Ru:List Value}(h:Cu W B (.node k s x ks) g o Ru)(ha:a.length<=maxLen):Ec W (W.setCell ⟨g,o+1,none⟩ (.string (sb a))) B (.node k a x ks) g o Ru:=by
 obtain⟨A,c,h0,h1,_⟩:=h.at_.parts;have hlo:=h.lo;refine⟨?_,(ai _ _).setCell hlo _,fun q i hq hn hr=>?_⟩
 .have:=cJ.setText (w:=cX W B) (w':=cX (W.setCell ⟨g,o+1,none⟩ (.string (sb a))) B) (a:=a) (ga:=g) (oa:=o) (p:=[]) ha (i8.2 ⟨hlo,set_self (i8.1 h1).2⟩) (fun q i hn=>Gd ?_) h.at_ h.rows h.nd h.out ⟨rfl,rfl⟩
  .exact this.1
  .exact World.cell?_setCell_other _ _ _ _ (fun e=>hn (by injection e with e1 e2;exact⟨e1.symm,e2.symm⟩))
 .exact World.cell?_setCell_other _ _ _ _ (fun e=>hn (by injection e with e1 e2;exact⟨e1.symm,by omega,by omega⟩))
theorem Ik(wk:Nat)(a:ar)(ha:a.length<=maxLen)(w0:World)(k:Nat)(s:ar)(x:Int)(ks:List ag)(hc:w0.cell? ⟨wk,5,none⟩=some (.string (sb a))):EP 97 wk w0 (.node k s x ks) (.node k a x ks):=by
 intro W B g o Ru h1 h2 hb hN;have HT:=ab (I0 hN ha);have hc5:=ac hb hc;obtain⟨A,c,t0,t1,_⟩:=hN.at_.parts;obtain⟨_,t1⟩:=i8.1 t1;have hf:=hN.soft 1 (by omega);clear hN t0 hc h1 h2 hb
 go_in
 go_wp2;exact bodyPost_end (v:=.tuple #[]) (by simp[results,Tryz.results97,go_sem]) rfl ⟨rfl,HT.out⟩
end Go.Proofs.YtfipahjodfminaaGreatDoor
