/- Part 7 of the proof. -/
import Derived.Recover
import Derived.Defers
import Derived.Deep.DrawnRows
import Derived.Deep.RegionLaw
import Derived.Lib.AppendZeros
import Derived.Lib.OwnBridge
import Derived.Sort.OwnSorted
import Derived.Lib.SlicesCompact
import Derived.Test.YtfipahjodfminaaGreatDoorMfF
namespace Go.Proofs.YtfipahjodfminaaGreatDoor
open Go.RowKit
set_option linter.all false
set_option maxHeartbeats 40000000
set_option maxRecDepth 100000
theorem FM(pa:Option Addr)(M:Nat)(w:World):Calls Tryz.prog 206 #[.agg #[.pointer pa,.map (some M)]] w fun e w'=>∃b M',e= .returned (.agg #[.pointer (some ⟨b,0,none⟩),.map (some M')])/\w'.heap[b]? =some (.cells #[.pointer pa,.map (some M)] 225 (0,0))/\ci w' M' []/\w.heap.size<=M'/\Below w.heap.size w w':=by
 have hmm:= @run_makeMap Tryz.prog
 go_in
 go_wp2;refine bodyPost_ret (v:=.agg #[.pointer (some ⟨w.heap.size+1+1,0,none⟩),.map (some (w.heap.size+1+1+1))]) (by simp[results,Tryz.results206,go_sem]) rfl ⟨_,_,rfl,?_,⟨#[],0,heap_alloc_at (by simp),rfl⟩,by omega,(((ai _ _).alloc (ah _) _).alloc (by simp) _).alloc (by simp;omega) _ |>.alloc (by simp;omega) _⟩;exact(heap_alloc_old _ _ (by simp)).trans (heap_alloc_at (by simp))
theorem Dp(w:World):(zeroValue 137).run Tryz.prog w= .ok (.pointer none) w:=by kernel_rfl
def Df(r:Value)(w:World)(e:Ending)(w':World):Prop:=e= .returned r/\Below w.heap.size w w'
theorem Df.intro{r r':Value}{w w':World}(h:r=r')(hb:Below w.heap.size w w'):Df r w (.returned r') w':=⟨by rw[h],hb⟩
def CK(ads:List Nat)(o:Option Nat):Value:=match o with|some i=>i7 ads i|none=>.pointer none
theorem Fc{ads:List Nat}{own:bq}{out:List bq}{s:ar}{i:Nat}(h:bn own s=some i):CK ads (mb (own::out) s)= .pointer (some ⟨lc ads i,0,none⟩):=by unfold mb;rw[h];rfl
theorem Fb{ads:List Nat}{own:bq}{out:List bq}{s:ar}(h:bn own s=none):CK ads (mb (own::out) s)=CK ads (mb out s):=by rw[mb.eq_2,h]
theorem Id(ads:List Nat)(s:ar):∀(out:List bq) (own:bq) (ms:List Nat) (v:Value) (M:Nat) (w:World),kc w ads out ms v->ci w M (fy ads own)->Calls Tryz.prog 224 #[.agg #[v,.map (some M)],.string (sb s)] w (Df (CK ads (mb (own::out) s)) w):=by
 intro out;induction out with
 |nil=>
  intro own ms v M w hA hM;obtain⟨_,rfl⟩:=hA;have hM':ci (w.alloc (.cells #[.pointer none,.map (some M)] 185)) M (fy ads own):=hM.below ((ai _ _).alloc (ah _) _);have hlook:=hM'.look Tryz.underlying182 Tryz.underlying9 s (Dp _) false;rw[De] at hlook;clear hM';cases hl:bn own s with
  |none=>
   have HR:Hid (CK ads (mb [own] s)= .pointer none):=Fb hl;rw[hl] at hlook;simp only[Bool.false_eq_true,if_false,Option.map_none,Option.getD_none] at hlook
   go_in
   go_wp2;go_ret;exact Df.intro HR.out ((ai _ _).alloc (ah _) _)
  |some i=>
   have HR:Hid (CK ads (mb [own] s)= .pointer (some ⟨lc ads i,0,none⟩)):=Fc hl;rw[hl] at hlook;simp only[Bool.false_eq_true,if_false,Option.map_some,Option.getD_some,i7] at hlook
   go_in
   go_wp2;go_ret;exact Df.intro HR.out ((ai _ _).alloc (ah _) _)
 |cons m out ih=>
  intro own ms v M w hA hM;obtain⟨b,v',M2,ms',rfl,rfl,hb,hm2,hA2⟩:=hA;have hM':ci (w.alloc (.cells #[.pointer (some ⟨b,0,none⟩),.map (some M)] 185)) M (fy ads own):=hM.below ((ai _ _).alloc (ah _) _);have hlook:=hM'.look Tryz.underlying182 Tryz.underlying9 s (Dp _) false;rw[De] at hlook;clear hM';cases hl:bn own s with
  |none=>
   have HR:Hid (CK ads (mb (own::m::out) s)=CK ads (mb (m::out) s)):=Fb hl;rw[hl] at hlook;simp only[Bool.false_eq_true,if_false,Option.map_none,Option.getD_none] at hlook;have hW:Below w.heap.size w (w.alloc (.cells #[.pointer (some ⟨b,0,none⟩),.map (some M)] 185)):=(ai _ _).alloc (ah _) _;have c0:(w.alloc (.cells #[.pointer (some ⟨b,0,none⟩),.map (some M)] 185)).cell? ⟨b,0,none⟩=some v':=by rw[hW.cell (aK.1 hb).1,cell_of_row w b 0 _ _ _ hb];rfl
   have c1:(w.alloc (.cells #[.pointer (some ⟨b,0,none⟩),.map (some M)] 185)).cell? ⟨b,1,none⟩=some (.map (some M2)):=by rw[hW.cell (aK.1 hb).1,cell_of_row w b 1 _ _ _ hb];rfl
   have HI:=ab (ih m ms' v' M2 _ (hA2.below hW) (hm2.below hW));have HW:=ab hW;clear hM ih hb hm2 hA2 hl
   go_in
   go_wp2_with fail;refine HI.out.mono ?_;rintro e w1 ⟨rfl,hb1⟩;go_wp2;go_ret;exact Df.intro HR.out (af HW.out hb1)
  |some i=>
   have HR:Hid (CK ads (mb (own::m::out) s)= .pointer (some ⟨lc ads i,0,none⟩)):=Fc hl;rw[hl] at hlook;simp only[Bool.false_eq_true,if_false,Option.map_some,Option.getD_some,i7] at hlook;clear hM ih hb hm2 hA2 hl
   go_in
   go_wp2;go_ret;exact Df.intro HR.out ((ai _ _).alloc (ah _) _)
def Do(e a:Int):Value:=.iface 180 (.agg #[.int .i64 e,.int .i64 a])
def EM(e a:Int)(w:World)(en:Ending)(w':World):Prop:=en= .panicked [{ v:=Do e a,recovered:=false }]/\Below w.heap.size w w'
theorem GS(args:Array Value)(w:World):(callFunc 159 args).run Tryz.prog w= .ok (.enter 159 args) w:=eH Tryz.func159 (by kernel_rfl) (by kernel_rfl) args w
theorem In(e a:Int)(w:World):Calls Tryz.prog 159 #[.agg #[.int .i64 e,.int .i64 a]] w (EM e a w):=by
 go_in
 go_wp2;exact⟨rfl,rfl,(ai _ _).alloc (ah _) _⟩
theorem DY(e a:Int)(wb:Nat)(w:World)(h:w.cell? ⟨wb,4,none⟩=some C1):Calls Tryz.prog 202 #[.pointer (some ⟨wb,0,none⟩),.int .i64 e,.int .i64 a] w (EM e a w):=by
 have hcf:=GS;unfold C1 at h
 go_in
 go_wp2_with fail;refine(In e a _).mono ?_;rintro en w1 ⟨rfl,hb⟩;go_wp2;exact⟨rfl,rfl,hb⟩
mutual
def ag.cost:ag->Nat
 | .node _ s _ ks=>1+s.length / 8+cj ks
def cj:List ag->Nat
 |[]=>0
 |t::ts=>t.cost+cj ts
end
theorem mh{ks:List ag}{i:Nat}{t:ag}(h:ks[i]? =some t):cj (ks.take (i+1))=cj (ks.take i)+t.cost:=by
 induction ks generalizing i with
 |nil=>simp at h
 |cons u us ih=>
  cases i with
  |zero=>simp at h;subst h;simp[cj]
  |succ i=>have:=ih (i:=i) (by simpa using h);simp[cj,this];omega
theorem mi(ks:List ag)(i:Nat):cj (ks.take i)<=cj ks:=by
 induction ks generalizing i with
 |nil=>simp[cj]
 |cons u us ih=>
  cases i with
  |zero=>simp[cj]
  |succ i=>have:=ih i;simp[cj];omega
abbrev LL:Nat:=140737488355328
def cL(v c most:Nat):Prop:=(v<=most->v=c)/\(most<v->most<c)
def jS(c most:Nat)(w:World)(e:Ending)(w':World):Prop:=∃v:Nat,e= .returned (.int .i64 v)/\Below w.heap.size w w'/\1<=v/\v<=most+17592186044418/\cL v c most
theorem jS.intro{c most v:Nat}{w w':World}(hb:Below w.heap.size w w')(h1:1<=v)(h2:v<=most+17592186044418)(h3:cL v c most):jS c most w (.returned (.int .i64 v)) w':=⟨v,rfl,hb,h1,h2,h3⟩
def nD(m:Nat):Prop:=∀(t:ag) (k:Nat) (s:ByteArray) (x:Int) (A:Option Addr) (n c most:Nat) (w:World),t.sz<=m->cf w t k s x A n c->t.short LL->most<=1000000->
 Calls Tryz.prog 21 #[.agg #[.int .u8 k,.string s,.int .i64 x,.slice A n c],.int .i64 most] w (jS t.cost most w)
theorem Hx(m:Nat)(ih:Hid (nD m)):nD (m+1):=by
 intro t k s x A n c most w hsz hN hsh hm;obtain⟨ks,rfl,_,_,_,hK⟩:=hN;have hb0:Below w.heap.size w (w.alloc (.cells #[.int .u8 k,.string s,.int .i64 x,.slice A n c] 25)):=(ai _ _).alloc (ah _) _;have HB0:=ab hb0;have HK:=ab (hK.below hb0);have HBX:=ab (j7 (w:=w) (x:=.int .u8 k) (y:=.string s) (z:=.int .i64 x) (u:=.slice A n c) (T:=25));have HSZ:Hid (ao ks<=m):=(by show _<=_;simp only[ag.sz] at hsz;omega);have hs:s.size<=140737488355328:=(by simp only[ag.short,dt] at hsh;exact hsh.1);have HSH:Hid (ex LL ks):=(by simp only[ag.short] at hsh;exact hsh.2);have HC:Hid (ag.cost (.node k (bl s) x ks)=1+s.size / 8+cj ks):=(by show _=_;simp[ag.cost,dt]);have hnn:n<=9223372036854775807:=(by have h1:=hK.2.1;have h2:=hK.2.2.1;unfold maxLen at h2;omega);have HL:Hid (n=ks.length):=hK.1;clear hsz hb0 hK hsh
 go_in
 go_wp2_with fail;go_loopw [5,6] (fun cv i wr=>∃j v:Nat,j<=n/\i= .int .i64 j/\cv= .int .i64 v/\v<=most+17592186044418/\1<=v/\Hid (Below (w.alloc (.cells #[.int .u8 k,.string s,.int .i64 x,.slice A n c] 25)).heap.size (w.alloc (.cells #[.int .u8 k,.string s,.int .i64 x,.slice A n c] 25)) wr)/\Hid (cL v (1+s.size / 8+cj (ks.take j)) most)) (fun _ i _=>n - (intOf i).toNat);case atStart=>
  refine⟨0,1+s.size / 8,aE _,rfl,?_,by omega,by omega,ai _ _,?_⟩
  .go_num
  .show cL _ _ _;simp[cL,cj]
 case round=>
  obtain⟨j,v,hj,rfl,rfl,hv,hv1,HB,HI⟩:=hrel;obtain⟨b0,b1,b2,b3⟩:=HBX.out;have c0:=ac HB.out b0;have c1:=ac HB.out b1;have c2:=ac HB.out b2;have c3:=ac HB.out b3;clear b0 b1 b2 b3;by_cases hlt:j<n
  .by_cases hc:v<=most
   .obtain⟨b,o,t,rfl,ht,hat⟩:=(HK.out.below HB.out).get hlt;obtain⟨B1,d1,q0,q1,q2,q3,hnode⟩:=hat.cells;have HND:=ab hnode;have HSZT:Hid (t.sz<=m):=aJ (jL ht) HSZ.out;have HST:=ab (HSH.out.get ht);have HCS:=ab (mh ht);have hv':v=1+s.size / 8+cj (ks.take j):=HI.out.1 hc;have HV:=ab hv';clear ht hat hnode hv';go_wp2_with fail;rw[show((most:Int) - (v:Int))=((most - v:Nat):Int) by omega];refine(ih.out t _ _ _ _ _ _ (most - v) _ HSZT.out HND.out HST.out (by omega)).mono ?_;rintro e w3 ⟨z,rfl,hb3,hz1,hz2,hz3⟩;have HB3:=ab (HB.out.trans (hb3.mono HB.out.size));have HZ:=ab hz3;clear hb3 hz3;obtain⟨b0,b1,b2,b3⟩:=HBX.out;clear c0 c1 c2 c3;have c0:=ac HB3.out b0;have c1:=ac HB3.out b1;have c2:=ac HB3.out b2;have c3:=ac HB3.out b3;clear b0 b1 b2 b3;go_wp2;go_roundw;case rel=>refine⟨j+1,v+z,by omega,by go_num,by go_num,by omega,by omega,HB3,?_⟩;show cL _ _ _;have h1:=HZ.out;have h2:=HV.out;have h3:=HCS.out;unfold cL at h1 ⊢;rw[h3];omega
    case measure=>simp[intOf];omega
   .have HT:=ab (mi ks j);go_wp2_with fail;go_ret;refine jS.intro (HB0.out.trans (HB.out.mono HB0.out.size)) hv1 hv ?_;have h1:=HI.out;have h2:=HT.out;rw[HC.out];unfold cL at h1 ⊢;omega
  .go_wp2_with fail;go_ret;refine jS.intro (HB0.out.trans (HB.out.mono HB0.out.size)) hv1 hv ?_;have h1:=HI.out;rw[List.take_of_length_le (by have:=HL.out;omega)] at h1;rw[HC.out];exact h1
theorem qX:∀m,nD m
 |0=>by intro t k s x A n c most w hsz;obtain⟨k0,s0,x0,ks0⟩:=t;simp[ag.sz] at hsz
 |m+1=>Hx m (ab (qX m))
theorem K4(t:ag)(k:Nat)(s:ByteArray)(x:Int)(A:Option Addr)(n c most:Nat)(w:World)(hN:cf w t k s x A n c)(hsh:t.short LL)(hm:most<=1000000):Calls Tryz.prog 21 #[.agg #[.int .u8 k,.string s,.int .i64 x,.slice A n c],.int .i64 most] w (jS t.cost most w):=qX t.sz _ _ _ _ _ _ _ _ _ (ah _) hN hsh hm
def aj.cost(e:aj):Nat:=1+e.path.length+(e.frm.length+e.to_.length) / 8+cj e.olds+cj e.news

mutual
theorem ag.sz_cost:∀t:ag,t.sz<=t.cost
 | .node _ _ _ ks=>by have:=m9 ks;simp only[ag.sz,ag.cost];omega
theorem m9:∀ts:List ag,ao ts<=cj ts
 |[]=>ah _
 |t::ts=>by have:=t.sz_cost;have:=m9 ts;simp only[ao,cj];omega
end
mutual
theorem ag.short_cost:∀(t:ag) (m L:Nat),t.cost<=m->8*m<=L->t.short L
 | .node _ s _ ks,m,L,h,hL=>by simp only[ag.cost] at h;refine⟨by omega,mX ks m L (by omega) hL⟩
theorem mX:∀(ts:List ag) (m L:Nat),cj ts<=m->8*m<=L->ex L ts
 |[],_,_,_,_=>trivial
 |t::ts,m,L,h,hL=>by simp only[cj] at h;exact⟨t.short_cost m L (by omega) hL,mX ts m L (by omega) hL⟩
end
theorem o9(a b:List ag):ao (a++b)=ao a+ao b:=by
 induction a with
 |nil=>simp[ao]
 |cons t ts ih=>simp[ao,ih];omega
theorem xN(s:ByteArray)(w:World)(hs:s.size<=281474976710656):Calls Tryz.prog 203 #[.string s] w fun e w'=>e= .returned (.string s)/\Below w.heap.size w w':=by
 go_in
 go_wp2_with (go_at_call 223;refine(Tryz.stringslite_Clone _ _ hs).mono ?_;rintro e w1 ⟨rfl,hb⟩);go_ret;exact⟨rfl,hb⟩
def Cs(w:World)(B wb fm M:Nat)(recs:List cz)(av:Value)(r:ix)(en:Ending)(w':World):Prop:=
 cg (fun k=>gp wb recs av k∨k=M) w w'/\match r with
  | .error (e,a)=>en= .panicked [{ v:=Do e a,recovered:=false }]
  | .ok (o,st')=>en= .returned (.tuple #[])/\∃recs' av',eP w' B wb fm recs' av' st'/\ci w' M (fy (cn recs') o)/\fv recs'.length o/\(∃l,cn recs'=cn recs++l)/\∀k,k<w.heap.size->gp wb recs' av' k->gp wb recs av k
theorem Fh:(Tryz.prog.info? 137).map (fun i=>(i.zero,i.size,i.bytes))=some (some (.pointer none),1,8):=by kernel_rfl
theorem G6{ads:List Nat}{s:ar}{own:bq}(h:bn own s=none):((fy ads own).all fun p=>p.1 != s)=true:=by
 rw[List.all_eq_true];intro p hp;obtain⟨e,he,rfl⟩:=List.mem_map.1 hp;have:∀(m:bq),bn m s=none->∀e∈m,e.1≠s:=by
  intro m;induction m with
  |nil=>intro _ e he;cases he
  |cons x m ih=>
   intro h e he;obtain⟨y,i⟩:=x;unfold bn at h;split at h
   .cases h
   .rename_i h1;rcases List.mem_cons.1 he with rfl|he
    .exact h1
    .exact ih h e he
 simpa using this own h e he
theorem GD{w wf W4 W5 W6:World}{B wb fm M:Nat}{recs:List cz}{av:Value}{st:bo}{own:bq}{q:List Int}{s:ar}{gA:Option Addr}{gc:Nat}{v':Value}(h:eP w B wb fm recs av st)(hM:ci w M (fy (cn recs) own))(hI:fv recs.length own)(hb:Below w.heap.size w wf)(hr:wf.ownsRow w.heap.size 3 1 (.slice gA q.length gc) q.length (q.map (Value.int .i64)))(hm4:ci W4 M (fy (cn recs) own++[(s,.pointer (some ⟨wf.heap.size,0,none⟩))]))(hg4:(wf.alloc (.cells #[.slice gA q.length gc,.string (sb s),.slice none 0 0,.int .i64 0] 139)).grownBy W4 (some M))(hown:W6.ownsRow B 137 1 v' (st.all.length+1) (st.all.map (i7 (cn recs))++[.pointer (some ⟨wf.heap.size,0,none⟩)]))(hway:jY av v' st.all.length 1 W5 W6)(h5:W5=W4.alloc (.cells #[.pointer (some ⟨wf.heap.size,0,none⟩)] 137)):cg (fun k=>gp wb recs av k∨k=M) w (W6.setCell ⟨wb,2,none⟩ v')/\∃recs' av',eP (W6.setCell ⟨wb,2,none⟩ v') B wb fm recs' av' ⟨st.bs++[(s,0)],st.ev++[(q,st.bs.length)],st.all++[st.bs.length],st.at_⟩/\ci (W6.setCell ⟨wb,2,none⟩ v') M (fy (cn recs') (own++[(s,st.bs.length)]))/\fv recs'.length (own++[(s,st.bs.length)])/\(∃l,cn recs'=cn recs++l)/\∀k,k<w.heap.size->gp wb recs' av' k->gp wb recs av k:=by
 have hwb:=(aK.1 h.box).1;have hMl:=hM.lt;obtain⟨es,clk,hMm,_⟩:=hM;have hMt:∀k,gp wb recs av k->k≠M:=fun k hk e=>by obtain⟨cs,T,fr,hh,_⟩:=h.types k hk;rw[e,hMm] at hh;simp at hh
 have hs:=hb.size;have hg:v'.ownBlock=av.ownBlock∨∃g,v'.ownBlock=some g/\w.heap.size<=g/\wf.heap.size<g:=by
  rcases hway with ⟨g,cap,e,_,e',_⟩|⟨cap,e,_⟩
  .subst e e';exact .inl rfl
  .subst e;refine .inr ⟨_,rfl,?_⟩;have:=hg4.size;simp at this;rw[h5];simp;omega
 have hgr:W5.grownBy W6 av.ownBlock∨W5.grownBy W6 none:=by
  rcases hway with ⟨g,cap,e,_,e',hh⟩|⟨cap,e,_,hh,_⟩
  .subst e;exact .inl hh
  .exact .inr hh
 have o1:cg (fun k=>k=M∨k=wb∨av.ownBlock=some k) w wf:=cg.of_below hb;have o2:=o1.alloc (.cells #[.slice gA q.length gc,.string (sb s),.slice none 0 0,.int .i64 0] 139);have o3:=o2.grown hg4 (fun k hk=>.inr (.inl (Option.some.inj hk).symm));have o4:=o3.alloc (.cells #[.pointer (some ⟨wf.heap.size,0,none⟩)] 137);rw[<-h5] at o4;have o5:cg (fun k=>k=M∨k=wb∨av.ownBlock=some k) w W6:=by
  rcases hgr with hh|hh
  .exact o4.grown hh (fun k hk=>.inr (.inr (.inr hk)))
  .exact o4.grown hh (fun k hk=>by cases hk)
 have o6:=o5.set (a:=⟨wb,2,none⟩) (.inr (.inr (.inl rfl))) v';have hwM:wb≠M:=hMt wb (.inl rfl);have hfM:wf.heap.size≠M:=(by omega);have hsz4:wf.heap.size+1<=W4.heap.size:=(by have:=hg4.size;simpa using this);have b1:wf.heap[wb]? =w.heap[wb]? :=hb.block wb hwb;have b2:W4.heap[wb]? =w.heap[wb]? :=(by rw[hg4.block wb (by simp;omega) (fun e=>hwM (Option.some.inj e)),heap_alloc_old _ _ (by omega),b1]);have b3:W5.heap[wb]? =w.heap[wb]? :=(by rw[h5,heap_alloc_old _ _ (by omega),b2]);have hs5:W5.heap.size=W4.heap.size+1:=(by rw[h5];simp);have hav:∀k,av.ownBlock=some k->k<w.heap.size/\k≠wb/\k≠M:=fun k hk=>by have h1:=(h.lows k (.inr (.inr hk))).2;refine⟨h1,fun e=>?_,hMt k (.inr (.inr hk))⟩;obtain⟨_,cs,fr,hh⟩:=hX h.row hk;rw[e,h.box] at hh;simp at hh
 have CL:∀k,k<W5.heap.size->av.ownBlock≠some k->W6.heap[k]? =W5.heap[k]? :=fun k hk hne=>by
  rcases hgr with hh|hh
  .exact hh.block k hk (fun e=>hne e.symm)
  .exact hh.block k hk (fun e=>by cases e)
 have b4:W6.heap[wb]? =w.heap[wb]? :=(by rw[CL wb (by omega) (fun e=>(hav wb e).2.1 rfl),b3]);have hbox':(W6.setCell ⟨wb,2,none⟩ v').heap[wb]? =some (.cells #[.pointer none,.map (some fm),v',.int .i64 st.at_,C1] 188 (0,0)):=by rw[Cf (b4.trans h.box)];rfl
 have g4:W4.heap[wf.heap.size]? =some (.cells #[.slice gA q.length gc,.string (sb s),.slice none 0 0,.int .i64 0] 139 (0,0)):=by rw[hg4.block _ (by simp) (fun e=>hfM (Option.some.inj e)),heap_alloc_new]
 have g6:W6.heap[wf.heap.size]? =some (.cells #[.slice gA q.length gc,.string (sb s),.slice none 0 0,.int .i64 0] 139 (0,0)):=by rw[CL _ (by omega) (fun e=>by have:=(hav _ e).1;omega),h5,heap_alloc_old _ _ (by omega),g4]
 have hg':(W6.setCell ⟨wb,2,none⟩ v').heap[wf.heap.size]? =some (.cells #[.slice gA q.length gc,.string (sb s),.slice none 0 0,.int .i64 0] 139 (0,0)):=by rw[aY _ _ _ _ (show wf.heap.size≠wb by omega),g6]
 have hMw:∀k,k<wf.heap.size->k≠M->k≠wb->av.ownBlock≠some k->(W6.setCell ⟨wb,2,none⟩ v').heap[k]? =wf.heap[k]? :=fun k h1 h2 h3 h4=>by rw[aY _ _ _ _ (show k≠wb from h3),CL _ (by omega) h4,h5,heap_alloc_old _ _ (by omega),hg4.block _ (by simp;omega) (fun e=>h2 (Option.some.inj e)),heap_alloc_old _ _ h1]
 have hp':Cd (W6.setCell ⟨wb,2,none⟩ v') q (.slice gA q.length gc):=by
  have hr':(W6.setCell ⟨wb,2,none⟩ v').ownsRow w.heap.size 3 1 (.slice gA q.length gc) q.length (q.map (Value.int .i64)):=by obtain⟨r1,r2⟩:=hr;refine⟨r1,r2.imp id ?_⟩;rintro⟨g,cap,cur,e1,e2,e3,e4⟩;refine⟨g,cap,cur,e1,e2,?_,e4⟩;rw[hMw g (aK.1 e3).1 (by omega) (by omega) (fun e=>by have:=(hav _ e).1;omega),e3]
  obtain⟨A,c,e,hi⟩:=cc.own hr';injection e with e1 e2 e3;subst e1 e3;exact⟨_,_,rfl,hi,bT.own hr' rfl⟩
 have hrow':(W6.setCell ⟨wb,2,none⟩ v').ownsRow B 137 1 v' (st.all.length+1) (st.all.map (i7 (cn recs))++[.pointer (some ⟨wf.heap.size,0,none⟩)]):=by
  refine re hown (fun e=>?_) _;rcases hg with h1|⟨g,h1,h2,_⟩
  .rw[h1] at e;exact(hav _ e).2.1 rfl
  .rw[h1] at e;have e':g=wb:=Option.some.inj e;omega
 have hN:=h.bind o6 ⟨es,clk,hMm⟩ hbox' hg' (by omega) hp' hrow';refine⟨o6.mono (fun k _ hk=>?_),_,_,hN,?_,?_,⟨[wf.heap.size],by simp[cn]⟩,?_⟩
 .rcases hk with hk|hk|hk
  .exact .inr hk
  .exact .inl (.inl hk)
  .exact .inl (.inr (.inr hk))
 .have e:fy (cn (recs++[⟨wf.heap.size,.slice gA q.length gc,.slice none 0 0,[]⟩])) (own++[(s,st.bs.length)])=fy (cn recs) own++[(s,.pointer (some ⟨wf.heap.size,0,none⟩))]:=by
   unfold fy cn;rw[List.map_append,List.map_append]
   congr 1
   .have:=EF (ads:=cn recs) (l:=[wf.heap.size]) (m:=own) (by unfold cn;rw[ny];exact hI);exact this
   .simp only[List.map_cons,List.map_nil];unfold i7 lc;rw[<-h.len,List.getD_eq_getElem?_getD,eK (by simp)];simp
  rw[e];obtain⟨es4,c4,k1,k2⟩:=hm4;refine⟨es4,c4,?_,k2⟩;have hM5:M<W5.heap.size:=(by omega);rw[aY _ _ _ _ (show M≠wb from fun e=>hwM e.symm),CL _ hM5 (fun e=>(hav _ e).2.2 rfl),h5,heap_alloc_old _ _ (by omega),k1]
 .intro p hp;rcases List.mem_append.1 hp with hp|hp
  .have:=hI p hp;simp;omega
  .obtain rfl:=List.mem_singleton.1 hp;rw[<-h.len];simp
 .intro k hk hS;rcases hS with hS|⟨r,hr,hS⟩|hS
  .exact .inl hS
  .rcases List.mem_append.1 hr with hr|hr
   .exact .inr (.inl ⟨r,hr,hS⟩)
   .obtain rfl:=List.mem_singleton.1 hr;rcases hS with hS|hS
    .simp at hS;omega
    .cases hS
  .rcases hg with h1|⟨g,h1,h2,_⟩
   .rw[h1] at hS;exact .inr (.inr hS)
   .rw[h1] at hS;have:=Option.some.inj hS;omega
theorem DA{w:World}{b:Nat}{T:TypeId}{x:Value}(h:w.heap[b]? =some (.cells #[x] T (0,0))):∀j u,[x][j]? =some u->w.cell? ((⟨b,0,none⟩:Addr).add j)=some u:=by
 intro j u hu;cases j with
 |zero=>simp at hu;subst hu;rw[CE,cell_of_row w b _ _ _ _ h];rfl
 |succ j=>simp at hu
theorem I2{w W4 W6:World}{wb B:Nat}{av v':Value}{n:Nat}{xs:List Value}{o:Obj}{x0 x1 x3 x4:Value}(ho:W4.ownsRow B 137 1 av n xs)(h4:W4.heap[wb]? =w.heap[wb]?)(hb:w.heap[wb]? =some (.cells #[x0,x1,av,x3,x4] 188 (0,0)))(h:jY av v' n 1 (W4.alloc o) W6):W6.cell? ⟨wb,2,none⟩=some av/\W6.frozen? ⟨wb,2,none⟩=false:=by
 have hbx:=h4.trans hb;have hl:wb<W4.heap.size:=(aK.1 hbx).1;have e:W6.heap[wb]? =W4.heap[wb]? :=by
  rcases h with ⟨g,cap,rfl,_,_,hh⟩|⟨cap,_,_,hh,_⟩
  .rw[hh.block wb (by simp;omega) (fun e=>?_),heap_alloc_old _ _ hl];have e':wb=g:=Option.some.inj e;obtain⟨_,cs,fr,h3⟩:=hX ho (k:=g) rfl;rw[<-e',hbx] at h3;simp at h3
  .rw[hh.block wb (by simp;omega) (fun e=>by cases e),heap_alloc_old _ _ hl]
 refine⟨?_,?_⟩
 .rw[cell_of_row W6 wb 2 _ _ _ (e.trans hbx)];rfl
 .simp[World.frozen?,e.trans hbx]
theorem Eu(B wb fm M:Nat)(recs:List cz)(av:Value)(st:bo)(own:bq)(v:Value)(k:Nat)(s:ar)(x:Int)(A:Option Addr)(n c:Nat)(q:List Int)(pA:Option Addr)(pc a:Nat)(w:World)(h:eP w B wb fm recs av st)(hM:ci w M (fy (cn recs) own))(hI:fv recs.length own)(hp:cc w q pA q.length pc)(hpt:bT w q pA)(hB:B<=w.heap.size)(hq:q.length<=1000000)(hs:s.length<=281474976710656)(hfew:st.all.length<=1000000):Calls Tryz.prog 160 #[.pointer (some ⟨wb,0,none⟩),.agg #[v,.map (some M)],.agg #[.int .u8 k,.string (sb s),.int .i64 x,.slice A n c],.slice pA q.length pc,.int .i64 a] w (Cs w B wb fm M recs av (j5 own s q a st)):=by
 obtain⟨aA,aC,rfl,_,_⟩:=t9 h.row;have hb0:Below w.heap.size w ((w.alloc (.cells #[v,.map (some M)] 185)).alloc (.cells #[.int .u8 k,.string (sb s),.int .i64 x,.slice A n c] 25)):=((ai _ _).alloc (ah _) _).alloc (by simp) _;have hM':=hM.below hb0;have hlook:=hM'.look Tryz.underlying182 Tryz.underlying9 s (Dp _) false;rw[De] at hlook;clear hM';have hbox0:=(hb0.block _ (aK.1 h.box).1).trans h.box;have H:=ab h;have HM:=ab hM;have HI:=ab hI;have HP:=ab hp;have HPT:=ab hpt;have HB0:=ab hb0;have HBX:=ab hbox0;cases hl:bn own s with
 |some i=>
  have HR:Hid (j5 own s q a st= .error (110,a)):=(by show _=_;unfold j5;rw[hl]);rw[hl] at hlook;simp only[Bool.false_eq_true,if_false,Option.map_some,Option.getD_some,i7] at hlook;clear h hM hI hp hpt hb0 hbox0 hl
  go_in
  go_wp2_with fail;refine(DY 110 a wb _ (by rw[cell_of_row _ wb 4 _ _ _ HBX.out];rfl)).mono ?_;rintro en w1 ⟨rfl,hb1⟩;go_wp2;refine⟨rfl,cg.of_below (af HB0.out hb1),?_⟩;rw[HR.out];rfl
 |none=>
  have HR:Hid (j5 own s q a st= .ok (own++[(s,st.bs.length)],⟨st.bs++[(s,0)],st.ev++[(q,st.bs.length)],st.all++[st.bs.length],st.at_⟩)):=(by show _=_;unfold j5;rw[hl]);have HL:=ab hl;rw[hl] at hlook;simp only[Bool.false_eq_true,if_false,Option.map_none,Option.getD_none] at hlook;have hsz:(sb s).size<=281474976710656:=(by show(ByteArray.mk s.toArray).data.size<=_;simpa using hs);have hql:q.length<=17592186044416:=(by omega);clear h hM hI hp hpt hb0 hbox0 hl
  go_in
  go_upto_region 3 with fail;generalize hW:(w.alloc (.cells #[v,.map (some M)] 185)).alloc (.cells #[.int .u8 k,.string (sb s),.int .i64 x,.slice A n c] 25)=W at*;have cw:W.cell? ⟨w.heap.size,1,none⟩=some (.map (some M)):=by rw[cell_of_row W w.heap.size 1 #[v,.map (some M)] 185 (0,0) (by rw[<-hW];exact(heap_alloc_old _ _ (by simp)).trans (heap_alloc_new _ _))];rfl
  have cb:=(di (show W.heap[w.heap.size+1]? =_ by rw[<-hW];exact heap_alloc_at (by simp))).c1;have hWs:W.heap.size=w.heap.size+2:=(by rw[<-hW];simp);go_region_held3 (fun w'=>w'.cell? ⟨w.heap.size+1,1,none⟩=some (.string (sb s)))
   (first|assumption|with_reducible exact ac hbb2 ‹_› |with_reducible exact ac hbb1 ‹_› |exact ac ((ai _ _).alloc (ah _) _) ‹_›)
   (first
    |(go_at_call 203;refine(xN (sb s) _ hsz).mono ?_;rintro en w2 ⟨rfl,hb2⟩;have hbb2:=hb2)
    |(go_at_call 53;refine(gV q pA _ pc _ (HP.out.below (af HB0.out bz)) hql).mono ?_;rintro en w1 ⟨gA,gc,rfl,ho1,hb1⟩;have hbb1:=hb1))
  .have hbf:Below W.heap.size W w2:=((ai _ _).drew).trans (hb1.mono (by simp)) |>.trans (hb2.mono (by have:=hb1.size;simpa using this));have hof:w2.ownsRow w.heap.size 3 1 (.slice gA q.length gc) q.length (q.map (Value.int .i64)):=dk (bM ho1 hb2 (ah _)) (by simp;omega);have HBF:=ab hbf;have HOF:=ab hof;have hbw:Below w.heap.size w w2:=af HB0.out hbf;have HBW:=ab hbw;have hsf:=hbf.size;have hwbl:wb<w.heap.size:=(aK.1 H.out.box).1;have hwfx:(w2.alloc (.cells #[.slice gA q.length gc,.string (sb s),.slice none 0 0,.int .i64 0] 139)).heap[wb]? =w.heap[wb]? :=(by rw[heap_alloc_old _ _ (by omega),hbw.block wb hwbl]);have cs0:(w2.alloc (.cells #[.slice gA q.length gc,.string (sb s),.slice none 0 0,.int .i64 0] 139)).cell? ⟨w.heap.size,1,none⟩=some (.map (some M)):=ac ((ai _ _).alloc (ah _) _) (ac hbf cw);have cs1:(w2.alloc (.cells #[.slice gA q.length gc,.string (sb s),.slice none 0 0,.int .i64 0] 139)).cell? ⟨w.heap.size+1,1,none⟩=some (.string (sb s)):=ac ((ai _ _).alloc (ah _) _) (ac hbf cb);obtain⟨W4,hins,hm4,hg4⟩:=(HM.out.below ((af HB0.out hbf).alloc (by omega) (.cells #[.slice gA q.length gc,.string (sb s),.slice none 0 0,.int .i64 0] 139))).insert Tryz.underlying182 Tryz.underlying9 (.pointer (some ⟨w2.heap.size,0,none⟩)) (G6 HL.out);have hMne:M≠wb:=by intro e;obtain⟨es,ck,hh,_⟩:=HM.out;rw[e,H.out.box] at hh;simp at hh
   have h4x:W4.heap[wb]? =w.heap[wb]? :=(by rw[hg4.block wb (by simp;omega) (fun e=>hMne (Option.some.inj e).symm)];exact hwfx);have h4s:w2.heap.size+1<=W4.heap.size:=(by have:=hg4.size;simpa using this);have ow4:W4.ownsRow B 137 1 (.slice aA st.all.length aC) st.all.length (st.all.map (i7 (cn recs))):=by refine Dd H.out.row (S:=fun k=>k=M) ((cg.of_below (hbw.alloc (by omega) _)).grown hg4 (fun k hk=>.inr (Option.some.inj hk).symm)) (fun k hk e=>?_);obtain⟨es,ck,hh,_⟩:=HM.out;obtain⟨_,cs,fr,hh'⟩:=hX H.out.row hk;rw[e,hh] at hh';simp at hh'
   have d2:W4.cell? ⟨wb,2,none⟩=some (.slice aA st.all.length aC):=(by rw[cell_of_row W4 wb 2 _ _ _ (h4x.trans H.out.box)];rfl);have HM4:=ab hm4;have HG4:=ab hg4;have HO4:=ab ow4;have H4X:=ab h4x;clear hbf hof hbw hwfx hm4 hg4 ow4 h4x;obtain⟨i0,hi,hz0,hz1,hz2⟩:=info_parts Fh;have hBW:B<=W4.heap.size:=(by omega);have hT:∀(v':Value) (W6:World),jY (.slice aA st.all.length aC) v' st.all.length 1 (W4.alloc (.cells #[.pointer (some ⟨w2.heap.size,0,none⟩)] 137)) W6->W6.cell? ⟨wb,2,none⟩=some (.slice aA st.all.length aC)/\W6.frozen? ⟨wb,2,none⟩=false:=fun v' W6 hway=>I2 HO4.out H4X.out H.out.box hway;go_wp2_with (at_builtin;refine kW _ rfl _ _ 117 rfl B 137 i0 _ 1 8 Tryz.underlying117 hi hz0 hz1 hz2 rfl (by decide) (.slice aA st.all.length aC) st.all.length (st.all.map (i7 (cn recs))) rfl (bM HO4.out ((ai _ _).alloc (ah _) _) (ah _)) ⟨W4.heap.size,0,none⟩ 1 1 [.pointer (some ⟨w2.heap.size,0,none⟩)] rfl rfl (DA (heap_alloc_new _ _)) (by simp[Value.oneCell']) (by omega) (by unfold maxLen;omega) (by omega) (by simp;omega) ?_;intro v' W6 hown hway;obtain⟨vg,vc,hv',hgx⟩:=hway.form;subst hv';obtain⟨e2,e3⟩:=hT _ _ hway)
   go_end0
   show Cs w B wb fm M recs (.slice aA st.all.length aC) (j5 own s q a st) _ _;rw[HR.out];obtain⟨d1,d2⟩:=GD H.out HM.out HI.out HBW.out HOF.out HM4.out HG4.out hown hway rfl;exact⟨d1,rfl,d2⟩
theorem D3{ops:Array Oper}{o:Oper}{a:Act}{K:Act->World->Prop}{Q:Exit->Act->World->Prop}{E:Prop}(w:World)(hgd:o.guard=none)(s x:Operand)(t:TypeId)(ho:o.op= .call { callee:=.builtin .append,args:=#[s,x],argTypes:=#[t,t] })(base:Nat)(e:TypeId)(i:TypeInfo)(z:Value)(size bytes:Nat)(ht:Tryz.prog.underlying t=some (.slice e))(hi:Tryz.prog.info? e=some i)(hz:i.zero=some z)(hsize:i.size=size)(hby:i.bytes=bytes)(hzs:z.cells.size=size)(hsz:0<size)(v:Value)(n:Nat)(xs:List Value)(hs:a.eval s=v)(hown:w.ownsRow base e size v n xs)(ad:Addr)(m c:Nat)(news:List Value)(hx:a.eval x= .slice (some ad) m c)(hl:news.length=m*size)(hnews:∀j u,news[j]? =some u->w.cell? (ad.add j)=some u)(h1:∀u∈news,u.oneCell'=true)(hm:0<m)(h63:n+m<=maxLen)(hbytes:(n+m) *bytes<=140737488355328)(hbase:base<=w.heap.size)(h:∀v' w',w'.ownsRow base e size v' (n+m) (xs++news)->jY v v' n m w w'->K (a.put o.dst v') w'):if Region.wanted o (yielded ops a.tmps)=true then Oper.wp Tryz.prog o a w K Q else E:=by obtain⟨v',w',hr,h2,h3⟩:=Od (P:=Tryz.prog) w base t o.type e i z size bytes ht hi hz hsize hby hzs hsz v n xs hown ad m c news hl hnews h1 hm h63 hbytes hbase;have hw:Region.wanted o (yielded ops a.tmps)=true:=(by simp[Region.wanted,hgd]);rw[if_pos hw];exact Lib.wp_append_run w s x t t ho _ _ hs hx _ _ hr (h v' w' h2 h3)
theorem Fi:(Tryz.prog.info? 27).map (fun i=>(i.zero,i.size,i.bytes))=some (some (.slice none 0 0),1,24):=by kernel_rfl
theorem Gn{w W4 W6:World}{b B:Nat}{uv v':Value}{n:Nat}{xs:List Value}{o:Obj}{x0 x1 x3:Value}(ho:W4.ownsRow B 27 1 uv n xs)(h4:W4.heap[b]? =w.heap[b]?)(hb:w.heap[b]? =some (.cells #[x0,x1,uv,x3] 139 (0,0)))(h:jY uv v' n 1 (W4.alloc o) W6):W6.heap[b]? =some (.cells #[x0,x1,uv,x3] 139 (0,0)):=by
 have hbx:=h4.trans hb;have hl:b<W4.heap.size:=(aK.1 hbx).1;have e:W6.heap[b]? =W4.heap[b]? :=by
  rcases h with ⟨g,cap,rfl,_,_,hh⟩|⟨cap,_,_,hh,_⟩
  .rw[hh.block b (by simp;omega) (fun e=>?_),heap_alloc_old _ _ hl];have e':b=g:=Option.some.inj e;obtain⟨_,cs,fr,h3⟩:=hX ho (k:=g) rfl;rw[<-e',hbx] at h3;simp at h3
  .rw[hh.block b (by simp;omega) (fun e=>by cases e),heap_alloc_old _ _ hl]
 rw[e];exact hbx
theorem Ek{n:Nat}{s:ar}{i:Nat}:∀{e:List bq},mb e s=some i->(∀m∈e,fv n m)->i<n
 |[],h,_=>by cases h
 |m::e,h,hI=>by
  rw[mb.eq_2] at h;cases hl:bn m s with
  |none=>rw[hl] at h;exact Ek h fun m hm=>hI m (List.mem_cons_of_mem _ hm)
  |some j=>
   rw[hl] at h;cases h
   have:∀(m:bq),bn m s=some i->∃e∈m,e.2=i:=by
    intro m;induction m with
    |nil=>intro h;cases h
    |cons x m ih=>
     intro h;obtain⟨y,k⟩:=x;unfold bn at h;split at h
     .cases h;exact⟨_,List.mem_cons_self ..,rfl⟩
     .obtain⟨e,he,h2⟩:=ih h;exact⟨e,List.mem_cons_of_mem _ he,h2⟩
   obtain⟨e,he,h2⟩:=this m hl;have:=hI m (List.mem_cons_self ..) e he;omega
theorem Gx{recs:List cz}{i:Nat}{r:cz}(h:recs[i]? =some r):lc (cn recs) i=r.adr:=by unfold lc cn;rw[List.getD_eq_getElem?_getD,List.getElem?_map,h];rfl
def Dg(w:World)(B wb fm:Nat)(recs:List cz)(av:Value)(r:Except (Nat×Nat) bo)(en:Ending)(w':World):Prop:=
 cg (gp wb recs av) w w'/\match r with
  | .error (e,a)=>en= .panicked [{ v:=Do e a,recovered:=false }]
  | .ok st'=>en= .returned (.tuple #[])/\∃recs',eP w' B wb fm recs' av st'/\cn recs'=cn recs/\∀k,k<w.heap.size->gp wb recs' av k->gp wb recs av k
theorem Gi{w wf W6:World}{B wb fm:Nat}{recs:List cz}{av:Value}{st:bo}{i:Nat}{r:cz}{q:List Int}{gA:Option Addr}{gc:Nat}{v':Value}(h:eP w B wb fm recs av st)(hr:recs[i]? =some r)(hb:Below w.heap.size w wf)(hq:wf.ownsRow w.heap.size 3 1 (.slice gA q.length gc) q.length (q.map (Value.int .i64)))(hown:W6.ownsRow B 27 1 v' (r.us.length+1) (r.us++[.slice gA q.length gc]))(hway:jY r.uv v' r.us.length 1 (wf.alloc (.cells #[.slice gA q.length gc] 27)) W6):cg (gp wb recs av) w (W6.setCell ⟨r.adr,2,none⟩ v')/\∃recs',eP (W6.setCell ⟨r.adr,2,none⟩ v') B wb fm recs' av ⟨st.bs,st.ev++[(q,i)],st.all,st.at_⟩/\cn recs'=cn recs/\∀k,k<w.heap.size->gp wb recs' av k->gp wb recs av k:=by
 have hil:i<recs.length:=(gl.1 hr).1;have hm:r∈recs:=List.mem_iff_getElem?.2 ⟨i,hr⟩;obtain⟨p0,us0,ep0,hR⟩:=h.recA i r hr;have hrl:=(aK.1 hR.box).1;have hs:=hb.size;have hgr:(wf.alloc (.cells #[.slice gA q.length gc] 27)).grownBy W6 r.uv.ownBlock∨(wf.alloc (.cells #[.slice gA q.length gc] 27)).grownBy W6 none:=by
  rcases hway with ⟨g,cap,e,_,e',hh⟩|⟨cap,e,_,hh,_⟩
  .rw[e];exact .inl hh
  .exact .inr hh
 have hub:∀k,v'.ownBlock=some k->r.uv.ownBlock=some k∨w.heap.size<=k:=by
  intro k hk;rcases hway with ⟨g,cap,e,_,e',_⟩|⟨cap,e,_⟩
  .rw[e];rw[e'] at hk;exact .inl hk
  .rw[e] at hk;have e2:wf.heap.size+1=k:=by have:=Option.some.inj hk;simpa using this
   right;omega
 have hav:∀k,r.uv.ownBlock=some k->k<w.heap.size/\k≠r.adr:=fun k hk=>by refine⟨(h.lows k (.inr (.inl ⟨r,hm,.inr hk⟩))).2,fun e=>?_⟩;obtain⟨_,cs,fr,hh⟩:=hX hR.row hk;rw[e,hR.box] at hh;simp at hh
 have o1:cg (fun k=>k=r.adr∨r.uv.ownBlock=some k) w (wf.alloc (.cells #[.slice gA q.length gc] 27)):=(cg.of_below hb).alloc _;have o2:cg (fun k=>k=r.adr∨r.uv.ownBlock=some k) w W6:=by
  rcases hgr with hh|hh
  .exact o1.grown hh (fun k hk=>.inr (.inr hk))
  .exact o1.grown hh (fun k hk=>by cases hk)
 have o3:=o2.set (a:=⟨r.adr,2,none⟩) (.inr (.inl rfl)) v';have CL:∀k,k<wf.heap.size->r.uv.ownBlock≠some k->W6.heap[k]? =wf.heap[k]? :=fun k hk hne=>by
  rcases hgr with hh|hh
  .rw[hh.block k (by simp;omega) (fun e=>hne e.symm),heap_alloc_old _ _ hk]
  .rw[hh.block k (by simp;omega) (fun e=>by cases e),heap_alloc_old _ _ hk]
 have b4:W6.heap[r.adr]? =w.heap[r.adr]? :=(by rw[CL _ (by omega) (fun e=>(hav _ e).2 rfl),hb.block _ hrl]);have hbox':(W6.setCell ⟨r.adr,2,none⟩ v').heap[r.adr]? =some (.cells #[r.pv,.string (sb (fc st i)),v',.int .i64 (j8 st i)] 139 (0,0)):=by rw[Cf (b4.trans hR.box)];rfl
 have hrow':(W6.setCell ⟨r.adr,2,none⟩ v').ownsRow B 27 1 v' (r.us.length+1) (r.us++[.slice gA q.length gc]):=by
  refine re hown (fun e=>?_) _;rcases hub _ e with h1|h1
  .exact(hav _ h1).2 rfl
  .have h2:w.heap.size<=r.adr:=h1;omega
 have hp':Cd (W6.setCell ⟨r.adr,2,none⟩ v') q (.slice gA q.length gc):=by
  have hr':(W6.setCell ⟨r.adr,2,none⟩ v').ownsRow w.heap.size 3 1 (.slice gA q.length gc) q.length (q.map (Value.int .i64)):=by obtain⟨r1,r2⟩:=hq;refine⟨r1,r2.imp id ?_⟩;rintro⟨g,cap,cur,e1,e2,e3,e4⟩;refine⟨g,cap,cur,e1,e2,?_,e4⟩;rw[aY _ _ _ _ (show g≠r.adr by omega),CL g (aK.1 e3).1 (fun e=>by have:=(hav _ e).1;omega),e3]
  obtain⟨A,c,e,hi⟩:=cc.own hr';injection e with e1 e2 e3;subst e1 e3;exact⟨_,_,rfl,hi,bT.own hr' rfl⟩
 have hN:=h.use hr o3 hbox' hrow' hp' hub;refine⟨o3.mono (fun k _ hk=>?_),_,hN,?_,?_⟩
 .rcases hk with hk|hk
  .exact .inr (.inl ⟨r,hm,.inl hk⟩)
  .exact .inr (.inl ⟨r,hm,.inr hk⟩)
 .unfold cn;refine List.ext_getElem? fun j=>?_;rw[List.getElem?_map,List.getElem?_map,List.getElem?_set];split
  .rename_i hij;subst hij;rw[hr];rfl
  .rfl
 .intro k hk hS;rcases hS with hS|⟨r',hr',hS⟩|hS
  .exact .inl hS
  .rcases List.mem_or_eq_of_mem_set hr' with h1|h1
   .exact .inr (.inl ⟨r',h1,hS⟩)
   .subst h1;rcases hS with hS|hS
    .exact .inr (.inl ⟨r,hm,.inl hS⟩)
    .rcases hub k hS with h2|h2
     .exact .inr (.inl ⟨r,hm,.inr h2⟩)
     .omega
  .exact .inr (.inr hS)
theorem FL(B wb fm M:Nat)(recs:List cz)(av:Value)(st:bo)(own:bq)(out:List bq)(ms:List Nat)(v:Value)(k:Nat)(s:ar)(x:Int)(A:Option Addr)(n c:Nat)(q:List Int)(pA:Option Addr)(pc a:Nat)(w:World)(h:eP w B wb fm recs av st)(hM:ci w M (fy (cn recs) own))(hA:kc w (cn recs) out ms v)(hI:∀m∈own::out,fv recs.length m)(hp:cc w q pA q.length pc)(hB:B<=w.heap.size)(hq:q.length<=1000000)(hfew:st.ev.length<=1000000)(hn:n<=1000000000)(hmany:∀i,j8 st i<=1000000000):Calls Tryz.prog 208 #[.pointer (some ⟨wb,0,none⟩),.agg #[v,.map (some M)],.agg #[.int .u8 k,.string (sb s),.int .i64 x,.slice A n c],.slice pA q.length pc,.int .i64 a] w (Dg w B wb fm recs av (ia (own::out) (decide (k=25)) n s q a st)):=by
 have hb0:Below w.heap.size w ((w.alloc (.cells #[v,.map (some M)] 185)).alloc (.cells #[.int .u8 k,.string (sb s),.int .i64 x,.slice A n c] 25)):=((ai _ _).alloc (ah _) _).alloc (by simp) _;have H:=ab h;have HM:=ab hM;have HA:=ab hA;have HI:=ab hI;have HP:=ab hp;have HB0:=ab hb0;have HMN:=ab hmany;clear h hM hA hI hp hb0 hmany;have hv:∃pa,v= .pointer pa:=by
  cases out with
  |nil=>exact⟨none,HA.out.2⟩
  |cons m out=>obtain⟨b,v',M',ms',_,e,_⟩:=HA.out;exact⟨_,e⟩
 obtain⟨pa,rfl⟩:=hv
 go_in
 go_wp2_with fail;refine(Id (cn recs) s out own ms _ M _ (HA.out.below HB0.out) (HM.out.below HB0.out)).mono ?_;rintro en w1 ⟨rfl,hb1⟩;have HB1:=ab (af HB0.out hb1);have bx:w1.heap[w.heap.size+1]? =some (.cells #[.int .u8 k,.string (sb s),.int .i64 x,.slice A n c] 25 (0,0)):=(hb1.block _ (by simp)).trans (heap_alloc_at (by simp));have c0:=(di bx).c0;have c3:=(di bx).c3;have HBX:=ab bx;clear bx hb1;cases hl:mb (own::out) s with
 |none=>have HR:Hid (ia (own::out) (decide (k=25)) n s q a st= .error (111,a)):=(by show _=_;unfold ia;rw[hl]);simp only[CK];go_wp2_with fail;refine(DY 111 a wb _ (by rw[cell_of_row _ wb 4 _ _ _ ((HB1.out.block _ (aK.1 H.out.box).1).trans H.out.box)];rfl)).mono ?_;rintro en w2 ⟨rfl,hb2⟩;go_wp2;refine⟨rfl,cg.of_below (af HB1.out hb2),?_⟩;rw[HR.out];rfl
 |some i=>
  simp only[CK,i7];have hil:=Ek hl HI.out;obtain⟨r,hr⟩:∃r,recs[i]? =some r:=⟨_,br hil⟩;obtain⟨p0,us0,ep0,hR⟩:=H.out.recA i r hr;obtain⟨uA,uC,hu,_,_⟩:=t9 hR.row;rw[Gx hr];have rbx:w1.heap[r.adr]? =some (.cells #[r.pv,.string (sb (fc st i)),.slice uA r.us.length uC,.int .i64 (j8 st i)] 139 (0,0)):=by rw[<-hu];exact(HB1.out.block _ (aK.1 hR.box).1).trans hR.box
  have cu:w1.cell? ⟨r.adr,2,none⟩=some (.slice uA r.us.length uC):=(by rw[cell_of_row w1 r.adr 2 _ _ _ rbx];rfl);have cm:w1.cell? ⟨r.adr,3,none⟩=some (.int .i64 (j8 st i)):=(by rw[cell_of_row w1 r.adr 3 _ _ _ rbx];rfl);have hmi:=HMN.out i;have hrw:w.ownsRow B 27 1 (.slice uA r.us.length uC) r.us.length r.us:=(by rw[<-hu];exact hR.row);have husl:r.us.length<=1000000:=by have h1:=hR.uses.1;have h2:(ln st i).length<=st.ev.length:=(by unfold ln;rw[ny];exact List.length_filter_le _ _);rw[ep0] at h2;simp at h2;omega
  have HRW:=ab hrw;have HRX:=ab rbx;have HRR:=ab hr;have HU:=ab hu;have hral:r.adr<w1.heap.size:=(aK.1 rbx).1;clear hr hR hu hrw rbx ep0;generalize hmo:j8 st i=mo at*;by_cases hk:k=25
  .subst hk;by_cases hm:mo=n
   .subst hm;have HR:Hid (ia (own::out) true mo s q a st= .ok ⟨st.bs,st.ev++[(q,i)],st.all,st.at_⟩):=(by show _=_;unfold ia;rw[hl];simp;exact hmo);clear hl;obtain⟨i0,hi,hz0,hz1,hz2⟩:=info_parts Fi;have hql:q.length<=17592186044416:=(by omega);go_upto_region 5 with fail
    go_quiet (fail)
    go_upto_region 2 with fail;go_region_law (first
     |(refine D3 _ (by rfl) _ _ 40 (by rfl) B 27 i0 _ 1 24 Tryz.underlying40 hi hz0 hz1 hz2 rfl (by decide) (.slice uA r.us.length uC) r.us.length r.us (by rfl) (bM HRW.out (af HB1.out (af bz (hb2.alloc hb2.size _))) (ah _)) ⟨w2.heap.size,0,none⟩ 1 1 [.slice gA q.length gc] (by rfl) rfl (DA (heap_alloc_new _ _)) (by simp[Value.oneCell']) (by omega) (by unfold maxLen;omega) (by omega) (by have h1:=hb2.size;have h2:=HB1.out.size;simp at h1 ⊢;omega) ?_;intro v' W6 hown hway;obtain⟨vg,vc,hv',_⟩:=hway.form;subst hv';have hx6:W6.heap[r.adr]? =some (.cells #[r.pv,.string (sb (fc st i)),.slice uA r.us.length uC,.int .i64 mo] 139 (0,0)):=Gn (bM HRW.out (af HB1.out (af bz hb2)) (ah _)) ((af bz hb2).block _ hral) HRX.out hway;have e2:W6.cell? ⟨r.adr,2,none⟩=some (.slice uA r.us.length uC):=(by rw[cell_of_row W6 r.adr 2 _ _ _ hx6];rfl);have e3:W6.frozen? ⟨r.adr,2,none⟩=false:=(by simp[World.frozen?,hx6]))
     |(go_simp;go_at_call 53;refine(gV q pA _ pc _ (HP.out.below (af HB1.out bz)) hql).mono ?_;rintro en w2 ⟨gA,gc,rfl,ho2,hb2⟩;have hc2:w2.cell? ⟨r.adr,2,none⟩=some (.slice uA r.us.length uC):=ac (af bz hb2) cu;have hc3:=fun o=>(World.cell?_alloc_lt w2 o ⟨r.adr,2,none⟩ (fJ hral (af bz hb2:Below w1.heap.size w1 w2).size)).trans hc2))
    all_goals
     go_wp2_with fail
     go_end0
     show Dg w B wb fm recs av (ia (own::out) true mo s q a st) _ _;rw[HR.out];obtain⟨d1,d2⟩:=Gi H.out HRR.out (af HB1.out (af bz hb2)) (dk ho2 (by have h2:=HB1.out.size;simp;omega)) hown (by rw[HU.out];exact hway);exact⟨d1,rfl,d2⟩
   .have HR:Hid (ia (own::out) true n s q a st= .error (112,a)):=(by show _=_;unfold ia;rw[hl];simp;omega);clear hl;have hne:((mo:Int) != (n:Int))=true:=(by simp;omega);go_upto_region 5 with fail
    go_quiet (fail)
    go_wp2_with fail;refine(DY 112 a wb _ (by rw[World.cell?_drewN,cell_of_row _ wb 4 _ _ _ ((HB1.out.block _ (aK.1 H.out.box).1).trans H.out.box)];rfl)).mono ?_;rintro en w2 ⟨rfl,hb2⟩;go_wp2;refine⟨rfl,cg.of_below (af HB1.out (af (CN (ai _ _) _) hb2)),?_⟩;rw[HR.out];rfl
  .have hk2:((k:Int) == 25)=false:=(by simp;omega);have HR:Hid (ia (own::out) (decide (k=25)) n s q a st= .ok ⟨st.bs,st.ev++[(q,i)],st.all,st.at_⟩):=(by show _=_;unfold ia;rw[hl];simp[hk]);clear hl;obtain⟨i0,hi,hz0,hz1,hz2⟩:=info_parts Fi;have hql:q.length<=17592186044416:=(by omega);go_upto_region 5 with fail
   go_quiet (fail)
   go_upto_region 2 with fail;go_region_law (first
    |(refine D3 _ (by rfl) _ _ 40 (by rfl) B 27 i0 _ 1 24 Tryz.underlying40 hi hz0 hz1 hz2 rfl (by decide) (.slice uA r.us.length uC) r.us.length r.us (by rfl) (bM HRW.out (af HB1.out (af bz (hb2.alloc hb2.size _))) (ah _)) ⟨w2.heap.size,0,none⟩ 1 1 [.slice gA q.length gc] (by rfl) rfl (DA (heap_alloc_new _ _)) (by simp[Value.oneCell']) (by omega) (by unfold maxLen;omega) (by omega) (by have h1:=hb2.size;have h2:=HB1.out.size;simp at h1 ⊢;omega) ?_;intro v' W6 hown hway;obtain⟨vg,vc,hv',_⟩:=hway.form;subst hv';have hx6:W6.heap[r.adr]? =some (.cells #[r.pv,.string (sb (fc st i)),.slice uA r.us.length uC,.int .i64 mo] 139 (0,0)):=Gn (bM HRW.out (af HB1.out (af bz hb2)) (ah _)) ((af bz hb2).block _ hral) HRX.out hway;have e2:W6.cell? ⟨r.adr,2,none⟩=some (.slice uA r.us.length uC):=(by rw[cell_of_row W6 r.adr 2 _ _ _ hx6];rfl);have e3:W6.frozen? ⟨r.adr,2,none⟩=false:=(by simp[World.frozen?,hx6]))
    |(go_simp;go_at_call 53;refine(gV q pA _ pc _ (HP.out.below (af HB1.out bz)) hql).mono ?_;rintro en w2 ⟨gA,gc,rfl,ho2,hb2⟩;have hc2:w2.cell? ⟨r.adr,2,none⟩=some (.slice uA r.us.length uC):=ac (af bz hb2) cu;have hc3:=fun o=>(World.cell?_alloc_lt w2 o ⟨r.adr,2,none⟩ (fJ hral (af bz hb2:Below w1.heap.size w1 w2).size)).trans hc2))
   all_goals
    go_wp2_with fail
    go_end0
    show Dg w B wb fm recs av (ia (own::out) (decide (k=25)) n s q a st) _ _;rw[HR.out];obtain⟨d1,d2⟩:=Gi H.out HRR.out (af HB1.out (af bz hb2)) (dk ho2 (by have h2:=HB1.out.size;simp;omega)) hown (by rw[HU.out];exact hway);exact⟨d1,rfl,d2⟩
structure wM (st st':bo) (m:Nat):Prop where
 ev:st'.ev.length<=st.ev.length+m
 all:st'.all.length<=st.all.length+m
 at_:st'.at_=st.at_+m
 bs:∃l,st'.bs=st.bs++l/\∀p∈l,p.2=0
theorem wM.refl(st:bo):wM st st 0:=⟨by omega,by omega,by omega,[],by simp,by simp⟩
theorem wM.trans{st st1 st':bo}{m m':Nat}(h:wM st st1 m)(h':wM st1 st' m'):wM st st' (m+m'):=by
 obtain⟨l,e,hl⟩:=h.bs;obtain⟨l',e',hl'⟩:=h'.bs;have h1:=h.ev;have h2:=h'.ev;have h3:=h.all;have h4:=h'.all;have h5:=h.at_;have h6:=h'.at_;refine⟨by omega,by omega,by omega,l++l',by rw[e',e,List.append_assoc],fun p hp=>?_⟩;rcases List.mem_append.1 hp with hp|hp
 .exact hl p hp
 .exact hl' p hp
theorem wM.many{st st':bo}{m:Nat}(h:wM st st' m){b:Nat}(hb:∀i,j8 st i<=b):∀i,j8 st' i<=b:=by
 intro i;obtain⟨l,e,hl⟩:=h.bs;have:=hb i;unfold j8 at this ⊢;rw[e];by_cases hi:i<st.bs.length
 .rw[cM hi];exact this
 .rw[eK (by omega)];cases hx:l[i - st.bs.length]? with
  |none=>simp
  |some p=>simp only[Option.map_some,Option.getD_some];rw[hl p (List.mem_iff_getElem?.2 ⟨_,hx⟩)];omega
theorem wM.one{st st':bo}(h1:st'.ev.length<=st.ev.length+1)(h2:st'.all.length<=st.all.length+1)(h3:st'.at_=st.at_+1)(h4:∃l,st'.bs=st.bs++l/\∀p∈l,p.2=0):wM st st' 1:=⟨h1,h2,h3,h4⟩
mutual
theorem Dc (fe:bq):∀(t:ag) (out:List bq) (own:bq) (q:List Int) (st:bo) (o:bq) (st':bo),da fe t out own q st= .ok (o,st')->wM st st' t.sz
 | .node k s x ks,out,own,q,st,o,st',h=>by
  have e0:(ag.node k s x ks).sz=1+ao ks:=rfl;unfold da at h;split at h
  .obtain⟨o1,h1,_⟩:=Cy h;exact(wM.one (st':=st.next.func ((bn fe s).getD 0)) (by simp[bo.next,bo.func]) (by simp[bo.next,bo.func]) rfl ⟨[],by simp[bo.next,bo.func],by simp⟩).trans (CS fe ks _ _ _ _ _ _ _ h1)
  split at h
  .obtain⟨o1,st1,h1,h2⟩:=i9 h;obtain⟨_,_,rfl⟩:=ve h1;exact(wM.one (by simp[bo.next]) (by simp[bo.next]) rfl ⟨[(s,0)],by simp[bo.next],by simp⟩).trans (CS fe ks _ _ _ _ _ _ _ h2)
  split at h
  .obtain⟨o1,h1,_⟩:=Cy h;exact(wM.one (st':=st.next) (by simp[bo.next]) (by simp[bo.next]) rfl ⟨[],by simp[bo.next],by simp⟩).trans (CS fe ks _ _ _ _ _ _ _ h1)
  split at h
  .split at h
   .cases h
   .obtain⟨o1,st1,h1,h2⟩:=i9 h;obtain⟨_,_,rfl⟩:=ve h2;have g:=CS fe ks _ _ _ _ _ _ _ h1;obtain⟨l,e,hl⟩:=g.bs;have g1:=g.ev;have g2:=g.all;have g3:=g.at_;refine⟨?_,?_,?_,l++[(s,0)],?_,?_⟩
    .simp[bo.next] at g1 ⊢;omega
    .simp[bo.next] at g2 ⊢;omega
    .simp[bo.next] at g3 ⊢;omega
    .simp only[e];simp[bo.next]
    .intro p hp;rcases List.mem_append.1 hp with hp|hp
     .exact hl p hp
     .obtain rfl:=List.mem_singleton.1 hp;rfl
  split at h
  .obtain⟨st1,h1,h2⟩:=CG h;obtain⟨i,_,_,rfl⟩:=CC h1;exact(wM.one (by simp[bo.next]) (by simp[bo.next]) rfl ⟨[],by simp[bo.next],by simp⟩).trans (CS fe ks _ _ _ _ _ _ _ h2)
  split at h
  .obtain⟨st1,h1,h2⟩:=CG h;obtain⟨i,_,_,rfl⟩:=CC h1;exact(wM.one (by simp[bo.next]) (by simp[bo.next]) rfl ⟨[],by simp[bo.next],by simp⟩).trans (CS fe ks _ _ _ _ _ _ _ h2)
  .exact(wM.one (st':=st.next) (by simp[bo.next]) (by simp[bo.next]) rfl ⟨[],by simp[bo.next],by simp⟩).trans (CS fe ks _ _ _ _ _ _ _ h)
theorem CS (fe:bq):∀(ts:List ag) (out:List bq) (own:bq) (q:List Int) (j:Nat) (st:bo) (o:bq) (st':bo),dq fe ts out own q j st= .ok (o,st')->wM st st' (ao ts)
 |[],out,own,q,j,st,o,st',h=>by
  unfold dq at h;cases h
  exact wM.refl _
 |t::ts,out,own,q,j,st,o,st',h=>by unfold dq at h;obtain⟨o1,st1,h1,h2⟩:=i9 h;exact(Dc fe t _ _ _ _ _ _ h1).trans (CS fe ts _ _ _ _ _ _ _ h2)
end
mutual
def ag.fnIn (fe:bq):ag->Prop
 | .node k s _ ks=>(k=2->∃i,bn fe s=some i)/\Cx fe ks
def Cx (fe:bq):List ag->Prop
 |[]=>True
 |t::ts=>t.fnIn fe/\Cx fe ts
end



theorem sF{ks:List ag}{j:Nat}{t:ag}(h:ks[j]? =some t):ks.take (j+1)=ks.take j++[t]:=by have hj:j<ks.length:=(gl.1 h).1;rw[List.take_succ_eq_append_getElem hj];rw[br hj] at h;injection h with h;rw[h]
structure jn (w:World) (b:Nat) (x0 x1 x2 x3 x4 x5 x6 x7 x8 x9 x10 x11:Value):Prop where
 c0:w.cell? ⟨b,0,none⟩=some x0
 c1:w.cell? ⟨b,1,none⟩=some x1
 c2:w.cell? ⟨b,2,none⟩=some x2
 c3:w.cell? ⟨b,3,none⟩=some x3
 c4:w.cell? ⟨b,4,none⟩=some x4
 c5:w.cell? ⟨b,5,none⟩=some x5
 c6:w.cell? ⟨b,6,none⟩=some x6
 c7:w.cell? ⟨b,7,none⟩=some x7
 c8:w.cell? ⟨b,8,none⟩=some x8
 c9:w.cell? ⟨b,9,none⟩=some x9
 c10:w.cell? ⟨b,10,none⟩=some x10
 c11:w.cell? ⟨b,11,none⟩=some x11
structure tm (w:World) (b:Nat):Prop where
 f0:w.frozen? ⟨b,0,none⟩=false
 f1:w.frozen? ⟨b,1,none⟩=false
 f2:w.frozen? ⟨b,2,none⟩=false
 f3:w.frozen? ⟨b,3,none⟩=false
 f4:w.frozen? ⟨b,4,none⟩=false
 f5:w.frozen? ⟨b,5,none⟩=false
 f6:w.frozen? ⟨b,6,none⟩=false
 f7:w.frozen? ⟨b,7,none⟩=false
 f8:w.frozen? ⟨b,8,none⟩=false
 f9:w.frozen? ⟨b,9,none⟩=false
 f10:w.frozen? ⟨b,10,none⟩=false
 f11:w.frozen? ⟨b,11,none⟩=false
theorem cr{w:World}{b:Nat}{x0 x1 x2 x3 x4 x5 x6 x7 x8 x9 x10 x11:Value}{T:TypeId}(h:w.heap[b]? =some (.cells #[x0,x1,x2,x3,x4,x5,x6,x7,x8,x9,x10,x11] T (0,0))):jn w b x0 x1 x2 x3 x4 x5 x6 x7 x8 x9 x10 x11/\tm w b:=by have hc:=fun j=>cell_of_row w b j _ T (0,0) h;refine⟨⟨by rw[hc];rfl,by rw[hc];rfl,by rw[hc];rfl,by rw[hc];rfl,by rw[hc];rfl,by rw[hc];rfl,by rw[hc];rfl,by rw[hc];rfl,by rw[hc];rfl,by rw[hc];rfl,by rw[hc];rfl,by rw[hc];rfl⟩,⟨?_,?_,?_,?_,?_,?_,?_,?_,?_,?_,?_,?_⟩⟩ <;>simp[World.frozen?,h]


section
open Go.RowKit Go.Sort
end









theorem Tryz.infoInt:(Tryz.prog.info? 3).map (fun i=>(i.zero,i.size,i.bytes))=some (some (.int .i64 0),1,8):=by kernel_rfl
end Go.Proofs.YtfipahjodfminaaGreatDoor
