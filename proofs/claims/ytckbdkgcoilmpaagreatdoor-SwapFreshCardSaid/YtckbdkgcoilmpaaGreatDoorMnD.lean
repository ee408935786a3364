/- Part 4 of the proof. -/
import Derived.OwnWalk
import Derived.Laws.AppendOwn
import Derived.Laws.EntriesVeiled
import Derived.Test.YtckbdkgcoilmpaaGreatDoorMnC
namespace Go.Proofs.YtckbdkgcoilmpaaGreatDoor
open Go.RowKit
set_option linter.all false
set_option maxHeartbeats 40000000
set_option maxRecDepth 100000
def ay(w:World)(e:aj)(k:Nat)(pA:Option Addr)(pn pc:Nat)(i j:Int)(f t:ByteArray)(oA:Option Addr)(on oc:Nat)(nA:Option Addr)(nn nc:Nat):Prop:=
 ∃ps os ns,e=⟨k,ps,i,j,bl f,bl t,os,ns⟩/\cc w ps pA pn pc/\ce w os oA on oc/\ce w ns nA nn nc
theorem ay.keep{w w':World}(hb:∀a v,w.cell? a=some v->w'.cell? a=some v){e:aj}{k:Nat}{pA:Option Addr}{pn pc:Nat}{i j:Int}{f t:ByteArray}{oA:Option Addr}{on oc:Nat}{nA:Option Addr}{nn nc:Nat}(h:ay w e k pA pn pc i j f t oA on oc nA nn nc):ay w' e k pA pn pc i j f t oA on oc nA nn nc:=by obtain⟨ps,os,ns,e,h1,h2,h3⟩:=h;exact⟨ps,os,ns,e,h1.keep hb,h2.keep hb,h3.keep hb⟩
theorem ay.below{w w':World}(hb:Below w.heap.size w w'){e:aj}{k:Nat}{pA:Option Addr}{pn pc:Nat}{i j:Int}{f t:ByteArray}{oA:Option Addr}{on oc:Nat}{nA:Option Addr}{nn nc:Nat}(h:ay w e k pA pn pc i j f t oA on oc nA nn nc):ay w' e k pA pn pc i j f t oA on oc nA nn nc:=h.keep fun _ _=>ac hb
theorem nU{w:World}{x0 x1 x2 x3 x4 x5 x6 x7:Value}{T:TypeId}(j:Nat)(v:Value)(h: #[x0,x1,x2,x3,x4,x5,x6,x7][j]? =some v):(w.alloc (.cells #[x0,x1,x2,x3,x4,x5,x6,x7] T)).cell? ⟨w.heap.size,j,none⟩=some v:=by rw[World.cell?_alloc_new];exact h
theorem pQ{w:World}{x0 x1 x2 x3 x4 x5 x6 x7:Value}{T:TypeId}{n:Nat}(hn:n=w.heap.size)(j:Nat)(v:Value)(h: #[x0,x1,x2,x3,x4,x5,x6,x7][j]? =some v):(w.alloc (.cells #[x0,x1,x2,x3,x4,x5,x6,x7] T)).cell? ⟨n,j,none⟩=some v:=by subst hn;exact nU j v h
theorem uy(k k':Nat)(ps ps':List Int)(i i' j j':Int)(f f' t t':ar)(os os' ns ns':List ag):aj.same ⟨k,ps,i,j,f,t,os,ns⟩ ⟨k',ps',i',j',f',t',os',ns'⟩=(k == k' && ps == ps' && i == i' && j == j' && f == f' && t == t' && bB os os' && bB ns ns'):=rfl
theorem ey(e1 e2:aj)(k:Nat)(pA:Option Addr)(pn pc:Nat)(i j:Int)(f t:ByteArray)(oA:Option Addr)(on oc:Nat)(nA:Option Addr)(nn nc:Nat)(k':Nat)(pA':Option Addr)(pn' pc':Nat)(i' j':Int)(f' t':ByteArray)(oA':Option Addr)(on' oc':Nat)(nA':Option Addr)(nn' nc':Nat)(w:World)(h:ay w e1 k pA pn pc i j f t oA on oc nA nn nc)(h':ay w e2 k' pA' pn' pc' i' j' f' t' oA' on' oc' nA' nn' nc'):Calls Tryz.prog 18 #[.agg #[.int .u8 k,.slice pA pn pc,.int .i64 i,.int .i64 j,.string f,.string t,.slice oA on oc,.slice nA nn nc],.agg #[.int .u8 k',.slice pA' pn' pc',.int .i64 i',.int .i64 j',.string f',.string t',.slice oA' on' oc',.slice nA' nn' nc']] w (ak (e1.same e2) w):=by
 obtain⟨ps,os,ns,rfl,hp,ho,hn⟩:=h;obtain⟨ps',os',ns',rfl,hp',ho',hn'⟩:=h';have hb0:Below w.heap.size w ((w.alloc (.cells #[.int .u8 k,.slice pA pn pc,.int .i64 i,.int .i64 j,.string f,.string t,.slice oA on oc,.slice nA nn nc] 29)).alloc (.cells #[.int .u8 k',.slice pA' pn' pc',.int .i64 i',.int .i64 j',.string f',.string t',.slice oA' on' oc',.slice nA' nn' nc'] 29)):=((ai _ _).alloc (ah _) _).alloc (by simp) _;have HB0:=aa hb0;have HP:=aa (hp.below hb0);have HP':=aa (hp'.below hb0);have HO:=aa (ho.below hb0);have HO':=aa (ho'.below hb0);have HN:=aa (hn.below hb0);have HN':=aa (hn'.below hb0);have HE:=aa (uy k k' ps ps' i i' j j' (bl f) (bl f') (bl t) (bl t') os os' ns ns');clear hb0 hp hp' ho ho' hn hn';by_cases h1:k=k'
 .subst h1;by_cases h2:ps=ps'
  .have HQ:Hid ((ps == ps')=true):=(by show _=_;simpa using h2);by_cases h3:i=i'
   .subst h3;by_cases h4:j=j'
    .subst h4;by_cases h5:bl f=bl f'
     .obtain rfl:=fk h5;by_cases h6:bl t=bl t'
      .obtain rfl:=fk h6;by_cases h7:bB os os'=true
       .have HO1:=aa h7;have HV:=aa (HE.out.trans (show _=bB ns ns' by simp[h2,h7]));clear h2 h5 h6 h7
        go_in
        go_wp2_with fail;refine(gQ ps ps' _ _ _ _ _ _ _ HP.out HP'.out).mono ?_;rintro e w1 ⟨rfl,q,rfl⟩;rw[HQ.out];go_wp2_with fail;have hbq:Below w.heap.size w _:=bS HB0.out q;have hlq:w.heap.size<=(((w.alloc (.cells #[.int .u8 k,.slice pA pn pc,.int .i64 i,.int .i64 j,.string f,.string t,.slice oA on oc,.slice nA nn nc] 29)).alloc (.cells #[.int .u8 k,.slice pA' pn' pc',.int .i64 i,.int .i64 j,.string f,.string t,.slice oA' on' oc',.slice nA' nn' nc'] 29)).drewN q).heap.size:=hbq.size;refine(ol os os' _ _ _ _ _ _ _ (HO.out.below (bS (ai _ _) q)) (HO'.out.below (bS (ai _ _) q))).mono ?_;rintro e w2 ⟨rfl,hb2⟩;rw[HO1.out];have hy:=(hb2.cell (p:=⟨w.heap.size,7,none⟩) (by simp<;>omega)).trans ((World.cell?_drewN _ _ _).trans ((World.cell?_alloc_lt _ _ _ (by simp)).trans (nU 7 _ rfl)));have hy':=(hb2.cell (p:=⟨w.heap.size+1,7,none⟩) (by simp<;>omega)).trans ((World.cell?_drewN _ _ _).trans (pQ (by simp) 7 _ rfl));have HB2:Hid (Below w.heap.size w w2):=hbq.trans (hb2.mono hlq);have HN2:=aa ((HN.out.below (bS (ai _ _) q)).below hb2);have HN2':=aa ((HN'.out.below (bS (ai _ _) q)).below hb2);clear hb2 hbq hlq;go_wp2_with fail;refine(ol ns ns' _ _ _ _ _ _ _ HN2.out HN2'.out).mono ?_;rintro e w3 ⟨rfl,hb3⟩;have HB3:Hid (Below w.heap.size w w3):=HB2.out.trans (hb3.mono HB2.out.size);clear hb3;go_wp2_with fail;go_ret;exact ak.intro HV.out.symm HB3.out
       .have HO1:Hid (bB os os'=false):=(by show _=_;simpa using h7);have HV:=aa (HE.out.trans (show _=false by simp[h7]));clear h2 h5 h6 h7
        go_in
        go_wp2_with fail;refine(gQ ps ps' _ _ _ _ _ _ _ HP.out HP'.out).mono ?_;rintro e w1 ⟨rfl,q,rfl⟩;rw[HQ.out];go_wp2_with fail;have hbq:Below w.heap.size w _:=bS HB0.out q;have hlq:w.heap.size<=(((w.alloc (.cells #[.int .u8 k,.slice pA pn pc,.int .i64 i,.int .i64 j,.string f,.string t,.slice oA on oc,.slice nA nn nc] 29)).alloc (.cells #[.int .u8 k,.slice pA' pn' pc',.int .i64 i,.int .i64 j,.string f,.string t,.slice oA' on' oc',.slice nA' nn' nc'] 29)).drewN q).heap.size:=hbq.size;refine(ol os os' _ _ _ _ _ _ _ (HO.out.below (bS (ai _ _) q)) (HO'.out.below (bS (ai _ _) q))).mono ?_;rintro e w2 ⟨rfl,hb2⟩;rw[HO1.out];have hy:=(hb2.cell (p:=⟨w.heap.size,7,none⟩) (by simp<;>omega)).trans ((World.cell?_drewN _ _ _).trans ((World.cell?_alloc_lt _ _ _ (by simp)).trans (nU 7 _ rfl)));have hy':=(hb2.cell (p:=⟨w.heap.size+1,7,none⟩) (by simp<;>omega)).trans ((World.cell?_drewN _ _ _).trans (pQ (by simp) 7 _ rfl));have HB2:Hid (Below w.heap.size w w2):=hbq.trans (hb2.mono hlq);have HN2:=aa ((HN.out.below (bS (ai _ _) q)).below hb2);have HN2':=aa ((HN'.out.below (bS (ai _ _) q)).below hb2);clear hb2 hbq hlq;go_wp2_with fail;go_ret;exact ak.intro HV.out.symm HB2.out
      .have hh:(bl t == bl t')=false:=beq_eq_false_iff_ne.2 h6;have HV:=aa (HE.out.trans (show _=false by simp only[hh,Bool.and_false,Bool.false_and]));clear hh;have e0:=fW h6;clear h2 h6
       go_in
       go_wp2_with fail;refine(gQ ps ps' _ _ _ _ _ _ _ HP.out HP'.out).mono ?_;rintro e w1 ⟨rfl,q,rfl⟩;rw[HQ.out];go_wp2_with fail;go_ret;exact ak.intro HV.out.symm (bS HB0.out q)
     .have hh:(bl f == bl f')=false:=beq_eq_false_iff_ne.2 h5;have HV:=aa (HE.out.trans (show _=false by simp only[hh,Bool.and_false,Bool.false_and]));clear hh;have e0:=fW h5;clear h2 h5
      go_in
      go_wp2_with fail;refine(gQ ps ps' _ _ _ _ _ _ _ HP.out HP'.out).mono ?_;rintro e w1 ⟨rfl,q,rfl⟩;rw[HQ.out];go_wp2_with fail;go_ret;exact ak.intro HV.out.symm (bS HB0.out q)
    .have HV:=aa (HE.out.trans (show _=false by simp[h4]));have e0:(j == j')=false:=(by simpa using h4);clear h2 h4
     go_in
     go_wp2_with fail;refine(gQ ps ps' _ _ _ _ _ _ _ HP.out HP'.out).mono ?_;rintro e w1 ⟨rfl,q,rfl⟩;rw[HQ.out];go_wp2_with fail;go_ret;exact ak.intro HV.out.symm (bS HB0.out q)
   .have HV:=aa (HE.out.trans (show _=false by simp[h3]));have e0:(i == i')=false:=(by simpa using h3);clear h2 h3
    go_in
    go_wp2_with fail;refine(gQ ps ps' _ _ _ _ _ _ _ HP.out HP'.out).mono ?_;rintro e w1 ⟨rfl,q,rfl⟩;rw[HQ.out];go_wp2_with fail;go_ret;exact ak.intro HV.out.symm (bS HB0.out q)
  .have HV:=aa (HE.out.trans (show _=false by simp[h2]));have HQ:Hid ((ps == ps')=false):=(by show _=_;simpa using h2);clear h2
   go_in
   go_wp2_with fail;refine(gQ ps ps' _ _ _ _ _ _ _ HP.out HP'.out).mono ?_;rintro e w1 ⟨rfl,q,rfl⟩;rw[HQ.out];go_wp2_with fail;go_ret;exact ak.intro HV.out.symm (bS HB0.out q)
 .have HV:=aa (HE.out.trans (show _=false by simp[h1]));have e0:((k:Int) == k')=false:=(by simp;omega);clear h1
  go_in
  go_wp2_with fail;go_ret;exact ak.intro HV.out.symm HB0.out
def aW(R:List Value):List Nat:=R.filterMap Value.ownBlock
theorem gg(R S:List Value):aW (R++S)=aW R++aW S:=List.filterMap_append
theorem iR{R:List Value}{v:Value}{g:Nat}(hv:v∈R)(hg:v.ownBlock=some g):g∈aW R:=List.mem_filterMap.2 ⟨v,hv,hg⟩
theorem eV{R:List Value}{g:Nat}(h:g∈aW R):∃v∈R,v.ownBlock=some g:=List.mem_filterMap.1 h
mutual
def rc (w:World):ag->Nat->Nat->List Value->Prop
 | .node _ _ _ ks,b,o,R=>∃A c,w.cell? ⟨b,o+3,none⟩=some (.slice A ks.length c)/\∃R',R= .slice A ks.length c::R'/\(ks=[]/\R'=[]∨∃g,A=some ⟨g,0,none⟩/\cR w ks g 0 R')
def cR (w:World):List ag->Nat->Nat->List Value->Prop
 |[],_,_,R=>R=[]
 |t::ts,b,o,R=>∃R1 R2,R=R1++R2/\rc w t b o R1/\cR w ts b (o+4) R2
end
def dr(w:World)(ks:List ag)(A:Option Addr)(n c:Nat)(R:List Value):Prop:=∃R',R= .slice A n c::R'/\(ks=[]/\R'=[]∨∃g,A=some ⟨g,0,none⟩/\cR w ks g 0 R')
theorem rc.of{w:World}{t:ag}{b o:Nat}{A:Option Addr}{c:Nat}{R:List Value}(h3:w.cell? ⟨b,o+3,none⟩=some (.slice A t.kids.length c))(h:dr w t.kids A t.kids.length c R):rc w t b o R:=by obtain⟨k,s,x,ks⟩:=t;exact⟨A,c,h3,h⟩
mutual
theorem rc.keep {w w':World}:∀{t:ag} {b o:Nat} {R:List Value},rc w t b o R->w'.cell? ⟨b,o+3,none⟩=w.cell? ⟨b,o+3,none⟩->(∀g∈aW R,w'.heap[g]? =w.heap[g]?)->rc w' t b o R
 | .node k s x ks,b,o,R,h,hc,hk=>by
  obtain⟨A,c,h3,R',rfl,h⟩:=h;refine⟨A,c,hc.trans h3,R',rfl,?_⟩;rcases h with h|⟨g,rfl,h⟩
  .exact .inl h
  .have hg:w'.heap[g]? =w.heap[g]? :=hk g (by simp[aW,Value.ownBlock]);refine .inr ⟨g,rfl,cR.keep h (fun p=>World.cell?_of_block (a:=⟨g,p,none⟩) hg) fun q hq=>hk q (by simp only[aW,List.filterMap_cons,Value.ownBlock];exact List.mem_cons_of_mem _ hq)⟩
theorem cR.keep {w w':World}:∀{ts:List ag} {b o:Nat} {R:List Value},cR w ts b o R->(∀p,w'.cell? ⟨b,p,none⟩=w.cell? ⟨b,p,none⟩)->(∀g∈aW R,w'.heap[g]? =w.heap[g]?)->cR w' ts b o R
 |[],_,_,_,h,_,_=>h
 |t::ts,b,o,R,h,hc,hk=>by obtain⟨R1,R2,rfl,h1,h2⟩:=h;rw[gg] at hk;exact⟨R1,R2,rfl,rc.keep h1 (hc _) fun g hg=>hk g (List.mem_append_left _ hg),cR.keep h2 hc fun g hg=>hk g (List.mem_append_right _ hg)⟩
end
theorem cR.keepC{w w':World}:∀{ts:List ag} {b o:Nat} {R:List Value},cR w ts b o R->(∀i,i<ts.length->w'.cell? ⟨b,o+i*4+3,none⟩=w.cell? ⟨b,o+i*4+3,none⟩)->(∀g∈aW R,w'.heap[g]? =w.heap[g]?)->cR w' ts b o R
 |[],_,_,_,h,_,_=>h
 |t::ts,b,o,R,h,hc,hk=>by obtain⟨R1,R2,rfl,h1,h2⟩:=h;rw[gg] at hk;refine⟨R1,R2,rfl,rc.keep h1 (by simpa using hc 0 (by simp)) fun g hg=>hk g (List.mem_append_left _ hg),cR.keepC h2 (fun i hi=>?_) fun g hg=>hk g (List.mem_append_right _ hg)⟩;have:=hc (i+1) (by simp;omega);rwa [show o+(i+1) *4+3=o+4+i*4+3 from by omega] at this
theorem cR.snoc{w:World}:∀{ts:List ag} {b o:Nat} {R R1:List Value} {t:ag},cR w ts b o R->rc w t b (o+ts.length*4) R1->cR w (ts++[t]) b o (R++R1)
 |[],b,o,R,R1,t,h,h1=>by
  cases h
  exact⟨R1,[],by simp,by simpa using h1,rfl⟩
 |u::ts,b,o,R,R1,t,h,h1=>by obtain⟨S1,S2,rfl,h2,h3⟩:=h;refine⟨S1,S2++R1,by simp,h2,cR.snoc h3 ?_⟩;rwa [show o+4+ts.length*4=o+(u::ts).length*4 from by simp;omega]
theorem dr.keep{w w':World}{ks:List ag}{A:Option Addr}{n c:Nat}{R:List Value}(h:dr w ks A n c R)(hk:∀g∈aW R,w'.heap[g]? =w.heap[g]?):dr w' ks A n c R:=by
 obtain⟨R',rfl,h⟩:=h;refine⟨R',rfl,?_⟩;rcases h with h|⟨g,rfl,h⟩
 .exact .inl h
 .have hg:w'.heap[g]? =w.heap[g]? :=hk g (by simp[aW,Value.ownBlock]);exact .inr ⟨g,rfl,cR.keep h (fun p=>World.cell?_of_block (a:=⟨g,p,none⟩) hg) fun q hq=>hk q (by simp only[aW,List.filterMap_cons,Value.ownBlock];exact List.mem_cons_of_mem _ hq)⟩
def eu(w:World):List ag->List Value->List Value->Prop
 |[],_,R=>R=[]
 |t::ts,xs,R=>∃A c R1 R2,xs[3]? =some (.slice A t.kids.length c)/\R=R1++R2/\dr w t.kids A t.kids.length c R1/\eu w ts (xs.drop 4) R2
theorem eu.keep{w w':World}:∀{ts:List ag} {xs R:List Value},eu w ts xs R->(∀g∈aW R,w'.heap[g]? =w.heap[g]?)->eu w' ts xs R
 |[],_,_,h,_=>h
 |t::ts,xs,R,h,hk=>by obtain⟨A,c,R1,R2,h3,rfl,h1,h2⟩:=h;rw[gg] at hk;exact⟨A,c,R1,R2,h3,rfl,h1.keep fun g hg=>hk g (List.mem_append_left _ hg),eu.keep h2 fun g hg=>hk g (List.mem_append_right _ hg)⟩
theorem eu.snoc{w:World}:∀{ts:List ag} {xs ys R R1:List Value} {t:ag} {A:Option Addr} {c:Nat},eu w ts xs R->xs.length=ts.length*4->ys[3]? =some (.slice A t.kids.length c)->dr w t.kids A t.kids.length c R1->eu w (ts++[t]) (xs++ys) (R++R1)
 |[],xs,ys,R,R1,t,A,c,h,hl,h3,h1=>by
  cases h
  have:xs=[]:=List.eq_nil_of_length_eq_zero (by simpa using hl);subst this;exact⟨A,c,R1,[],by simpa using h3,by simp,h1,rfl⟩
 |u::ts,xs,ys,R,R1,t,A,c,h,hl,h3,h1=>by obtain⟨A',c',S1,S2,e3,rfl,h2,h4⟩:=h;have hl':xs.length=ts.length*4+4:=(by rw[hl];simp;omega);refine⟨A',c',S1,S2++R1,by rw[cM (by omega)];exact e3,by simp,h2,?_⟩;have e:(xs++ys).drop 4=xs.drop 4++ys:=(by rw[List.drop_append_of_le_length (by omega)]);rw[e];exact eu.snoc h4 (by simp;omega) h3 h1
theorem eu.mem{w:World}{g:Nat}:∀{ts:List ag} {o:Nat} {xs R:List Value},eu w ts xs R->(∀p u,xs[p]? =some u->w.cell? ⟨g,o+p,none⟩=some u)->cR w ts g o R
 |[],_,_,_,h,_=>h
 |t::ts,o,xs,R,h,hx=>by obtain⟨A,c,R1,R2,h3,rfl,h1,h2⟩:=h;refine⟨R1,R2,rfl,rc.of (hx 3 _ h3) h1,eu.mem h2 fun p u hu=>?_⟩;rw[List.getElem?_drop] at hu;have:=hx _ u hu;rwa [show o+(4+p)=o+4+p from by omega] at this
def bd(w:World)(B:Nat)(T:TypeId)(size:Nat)(v:Value):Prop:=∃n xs,w.ownsRow B T size v n xs
theorem bd.keep{w w':World}{B B':Nat}{T:TypeId}{size:Nat}{v:Value}(h:bd w B T size v)(hB:B'<=B)(hk:∀g,v.ownBlock=some g->w'.heap[g]? =w.heap[g]?):bd w' B' T size v:=by obtain⟨n,xs,h1,h2⟩:=h;refine⟨n,xs,h1,h2.imp id ?_⟩;rintro⟨g,cap,cur,hv,hg,hh,r⟩;exact⟨g,cap,cur,hv,aJ hB hg,(hk g (by rw[hv];rfl)).trans hh,r⟩
theorem bd.lt{w:World}{B:Nat}{T:TypeId}{size:Nat}{v:Value}(h:bd w B T size v){g:Nat}(hg:v.ownBlock=some g):B<=g/\g<w.heap.size:=by obtain⟨n,xs,h⟩:=h;exact h.lt g hg
theorem bd.block{w:World}{B:Nat}{T:TypeId}{size:Nat}{v:Value}(h:bd w B T size v){g:Nat}(hg:v.ownBlock=some g):∃cur,w.heap[g]? =some (.cells cur T (0,0)):=by
 obtain⟨n,xs,h⟩:=h;rcases h.2 with ⟨rfl,_⟩|⟨g',cap,cur,rfl,_,hh,_⟩
 .simp[Value.ownBlock] at hg
 .simp[Value.ownBlock] at hg;subst hg;exact⟨cur,hh⟩
theorem oF{w:World}{base:Nat}{e:TypeId}{size g n cap:Nat}{xs:List Value}(h:w.ownsRow base e size (.slice (some ⟨g,0,none⟩) n cap) n xs)(j:Nat)(u:Value):(w.setCell ⟨g,j,none⟩ u).ownsRow base e size (.slice (some ⟨g,0,none⟩) n cap) n (xs.set j u):=by
 obtain⟨h1,h2⟩:=h;refine⟨by simpa using h1,h2.imp id ?_⟩;rintro⟨g',cap',cur,hv,hg,hh,hc,hm,hs,ht⟩;injection hv with e1 e2 e3;injection e1 with e1;injection e1 with e1;subst e1 e3;refine⟨g,cap,cur.setIfInBounds j u,rfl,hg,?_,hc,hm,by simpa using hs,?_⟩
 .simp[World.setCell,Array.getElem?_modify,hh]
 .rw[<-ht];simp[List.take_set]
theorem rd{w:World}{base:Nat}{e:TypeId}{size:Nat}{A:Option Addr}{n m cap:Nat}{xs:List Value}(h:w.ownsRow base e size (.slice A n cap) m xs):m=n:=by
 rcases h.2 with ⟨hv,h0⟩|⟨g',cap',cur,hv,_⟩
 .injection hv with e1 e2 e3;omega
 .injection hv with e1 e2 e3;exact e2.symm
theorem bd.put{w:World}{B:Nat}{T:TypeId}{size g n cap:Nat}(h:bd w B T size (.slice (some ⟨g,0,none⟩) n cap))(j:Nat)(u:Value):bd (w.setCell ⟨g,j,none⟩ u) B T size (.slice (some ⟨g,0,none⟩) n cap):=by obtain⟨m,xs,h⟩:=h;have:=rd h;subst this;exact⟨_,_,oF h j u⟩
structure cZ (w:World) (B:Nat) (ks:List ag) (A:Option Addr) (n c:Nat) (R:List Value):Prop where
 rows:dr w ks A n c R
 own:∀v∈R,bd w B 25 4 v
 nd:(aW R).Nodup
theorem cZ.lt{w:World}{B:Nat}{ks:List ag}{A:Option Addr}{n c:Nat}{R:List Value}(h:cZ w B ks A n c R){g:Nat}(hg:g∈aW R):B<=g/\g<w.heap.size:=by obtain⟨v,hv,e⟩:=eV hg;exact(h.own v hv).lt e
theorem cZ.keep{w w':World}{B B':Nat}{ks:List ag}{A:Option Addr}{n c:Nat}{R:List Value}(h:cZ w B ks A n c R)(hB:B'<=B)(hk:∀q,B<=q->q<w.heap.size->w'.heap[q]? =w.heap[q]?):cZ w' B' ks A n c R:=
 ⟨h.rows.keep fun g hg=>hk g (h.lt hg).1 (h.lt hg).2,fun v hv=>(h.own v hv).keep hB fun g hg=>hk g ((h.own v hv).lt hg).1 ((h.own v hv).lt hg).2,h.nd⟩
theorem cZ.mk'{w:World}{B:Nat}{ks:List ag}{g n c:Nat}{R:List Value}(hr:cR w ks g 0 R)(hg:bd w B 25 4 (.slice (some ⟨g,0,none⟩) n c))(ho:∀v∈R,bd w B 25 4 v)(hn:(aW R).Nodup)(hne:g∉aW R):cZ w B ks (some ⟨g,0,none⟩) n c (.slice (some ⟨g,0,none⟩) n c::R):=by
 refine⟨⟨R,rfl,.inr ⟨g,rfl,hr⟩⟩,?_,?_⟩
 .intro v hv;rcases List.mem_cons.1 hv with rfl|hv
  .exact hg
  .exact ho v hv
 .show(aW (_::R)).Nodup;simp only[aW,List.filterMap_cons,Value.ownBlock];exact List.nodup_cons.2 ⟨hne,hn⟩
theorem cZ.nil{w:World}{B:Nat}{A:Option Addr}{n c:Nat}(hg:bd w B 25 4 (.slice A n c)):cZ w B [] A n c [.slice A n c]:=by
 refine⟨⟨[],rfl,.inl ⟨rfl,rfl⟩⟩,?_,?_⟩
 .intro v hv;rcases List.mem_cons.1 hv with rfl|hv
  .exact hg
  .cases hv
 .cases A with
  |none=>exact List.nodup_nil
  |some ad=>exact List.nodup_cons.2 ⟨by simp,List.nodup_nil⟩
theorem iq{R S:List Value}(h1:(aW R).Nodup)(h2:(aW S).Nodup){m:Nat}(hR:∀g∈aW R,g<m)(hS:∀g∈aW S,m<=g):(aW (R++S)).Nodup:=by rw[gg];refine List.nodup_append.2 ⟨h1,h2,fun a ha b hb e=>?_⟩;have:=hR a ha;have:=hS b hb;omega
def cX(w:World)(B:Nat):World:={ w with heap:=w.heap.mapIdx fun i o=>if i<B then Obj.cells #[] 0 else o }
theorem i8{w:World}{B:Nat}{a:Addr}{v:Value}:(cX w B).cell? a=some v↔B<=a.block/\w.cell? a=some v:=by
 unfold World.cell? cX;simp only[Array.getElem?_mapIdx];cases h:w.heap[a.block]? with
 |none=>simp
 |some o=>
  by_cases hb:a.block<B
  .simp only[Option.map_some,hb,if_true];constructor
   .intro e;split at e<;>simp at e
   .rintro⟨h1,_⟩;omega
  .simp only[Option.map_some,hb,if_false];constructor
   .intro e;exact⟨by omega,e⟩
   .rintro⟨_,e⟩;exact e
def bJ(w:World)(B:Nat)(ks:List ag)(A:Option Addr)(n c:Nat):Prop:=ce (cX w B) ks A n c/\∃R,cZ w B ks A n c R
theorem bJ.kids{w:World}{B:Nat}{ks:List ag}{A:Option Addr}{n c:Nat}(h:bJ w B ks A n c):ce w ks A n c:=ce.keep (fun _ _ h=>(i8.1 h).2) h.1
theorem kR{w w':World}{B B':Nat}{ks:List ag}{A:Option Addr}{n c:Nat}(h:ce (cX w B) ks A n c)(hB:B'<=B)(hk:∀a v,B<=a.block->w.cell? a=some v->w'.cell? a=some v):ce (cX w' B') ks A n c:=
 ce.keep (fun _ _ h=>by obtain⟨h1,h2⟩:=i8.1 h;exact i8.2 ⟨by omega,hk _ _ h1 h2⟩) h
theorem bJ.keep{w w':World}{B B':Nat}{ks:List ag}{A:Option Addr}{n c:Nat}(h:bJ w B ks A n c)(hB:B'<=B)(hk:∀q,B<=q->q<w.heap.size->w'.heap[q]? =w.heap[q]?):bJ w' B' ks A n c:=by obtain⟨h1,R,h2⟩:=h;exact⟨kR h1 hB fun a v ha hc=>by rw[World.cell?_of_block (hk _ ha (bK hc))];exact hc,R,h2.keep hB hk⟩
theorem cJ.of{w:World}{t:ag}{b o:Nat}{A:Option Addr}{c:Nat}(h0:w.cell? ⟨b,o,none⟩=some (.int .u8 t.kind))(h1:w.cell? ⟨b,o+1,none⟩=some (.string (sb t.text)))(h2:w.cell? ⟨b,o+2,none⟩=some (.int .i64 t.num))(h3:w.cell? ⟨b,o+3,none⟩=some (.slice A t.kids.length c))(hk:ce w t.kids A t.kids.length c)(b1:t.kind<=255)(b2:t.text.length<=maxLen)(b3:tw t.num):cJ w t b o:=by obtain⟨k,s,x,ks⟩:=t;obtain⟨_,k2,k3,k4⟩:=hk;exact⟨h0,h1,h2,b1,b2,b3,A,c,h3,k2,k3,k4⟩
theorem cJ.parts{w:World}{t:ag}{b o:Nat}(h:cJ w t b o):∃A c,w.cell? ⟨b,o,none⟩=some (.int .u8 t.kind)/\w.cell? ⟨b,o+1,none⟩=some (.string (sb t.text))/\w.cell? ⟨b,o+2,none⟩=some (.int .i64 t.num)/\w.cell? ⟨b,o+3,none⟩=some (.slice A t.kids.length c)/\ce w t.kids A t.kids.length c/\t.kind<=255/\t.text.length<=maxLen/\tw t.num:=by obtain⟨k,s,x,ks⟩:=t;obtain⟨h0,h1,h2,b1,b2,b3,A,c,h3,k2,k3,k4⟩:=h;exact⟨A,c,h0,h1,h2,h3,⟨rfl,k2,k3,k4⟩,b1,b2,b3⟩
def cellsOf(w:World)(b o m:Nat):List Value:=(List.range m).map fun i=>(w.cell? ⟨b,o+i,none⟩).getD undef
theorem nX(w:World)(b o m:Nat):(cellsOf w b o m).length=m:=by simp[cellsOf]
theorem F1{w:World}{ks:List ag}{b o:Nat}(h:ch w ks b o){j:Nat}(hj:j<ks.length*4):∃v,w.cell? ⟨b,o+j,none⟩=some v/\v.oneCell'=true:=by
 have hi:j / 4<ks.length:=(by omega);obtain⟨A,c,h0,h1,h2,h3,_⟩:=(h.get (br hi)).parts;have hj4:j=j / 4*4+j % 4:=(by omega);have hr:j % 4=0∨j % 4=1∨j % 4=2∨j % 4=3:=(by omega);rcases hr with e|e|e|e<;>rw[e] at hj4<;>rw[hj4]
 .exact⟨_,h0,rfl⟩
 .exact⟨_,h1,rfl⟩
 .exact⟨_,h2,rfl⟩
 .exact⟨_,h3,rfl⟩
theorem nW{w:World}{ks:List ag}{b o:Nat}(h:ch w ks b o){j:Nat}{u:Value}(hu:(cellsOf w b o (ks.length*4))[j]? =some u):w.cell? ⟨b,o+j,none⟩=some u:=by have hj:j<ks.length*4:=(by have:=(gl.1 hu).1;simpa[cellsOf] using this);obtain⟨v,hv,_⟩:=F1 h hj;simp[cellsOf,hj,hv] at hu;rw[hv,hu]
theorem pS{w:World}{ks:List ag}{b o:Nat}(h:ch w ks b o):∀u∈cellsOf w b o (ks.length*4),u.oneCell'=true:=by intro u hu;obtain⟨j,hj,e⟩:=List.mem_iff_getElem.1 hu;have hj':j<ks.length*4:=(by simpa[cellsOf] using hj);obtain⟨v,hv,h1⟩:=F1 h hj';have:(cellsOf w b o (ks.length*4))[j]? =some u:=(by rw[br hj,e]);have h2:=nW h this;rw[hv] at h2;injection h2 with h2;rw[<-h2];exact h1
theorem Tryz.infoNode:(Tryz.prog.info? 25).map (fun i=>(i.zero,i.size,i.bytes))=some (some (.agg #[.int .u8 0,.string ⟨#[]⟩,.int .i64 0,.slice none 0 0]),4,56):=by kernel_rfl
def sP(ks:List ag)(n:Nat)(w0 w:World)(e:Ending)(w':World):Prop:=
 ∃A c,e= .returned (.slice A n c)/\Below w.heap.size w w'/\n<=c/\c<=maxLen/\bd w' w.heap.size 25 4 (.slice A n c)/\(ks=[]∨∃g,A=some ⟨g,0,none⟩/\w.heap.size<=g/\g<w'.heap.size/\(∀j,w'.frozen? ⟨g,j,none⟩=false)/\
  ∀i t,ks[i]? =some t->∃A c,w'.cell? ⟨g,i*4,none⟩=some (.int .u8 t.kind)/\w'.cell? ⟨g,i*4+1,none⟩=some (.string (sb t.text))/\w'.cell? ⟨g,i*4+2,none⟩=some (.int .i64 t.num)/\w'.cell? ⟨g,i*4+3,none⟩=some (.slice A t.kids.length c)/\ce w0 t.kids A t.kids.length c/\t.kind<=255/\t.text.length<=maxLen/\tw t.num)
theorem iJ{w:World}{b o m j:Nat}{v:Value}(hj:j<m)(h:w.cell? ⟨b,o+j,none⟩=some v):(cellsOf w b o m)[j]? =some v:=by simp[cellsOf,hj,h]
theorem oG{w:World}{base:Nat}{e:TypeId}{size g n cap:Nat}{xs:List Value}(h:w.ownsRow base e size (.slice (some ⟨g,0,none⟩) n cap) n xs)(j:Nat):w.frozen? ⟨g,j,none⟩=false:=by
 rcases h.2 with ⟨hv,_⟩|⟨g',cap',cur,hv,hg,hh,_⟩
 .cases hv
 .injection hv with e1 e2 e3;injection e1 with e1;injection e1 with e1;subst e1;simp[World.frozen?,hh]
theorem xO(ks:List ag)(A:Option Addr)(n c:Nat)(w0 w:World)(h0':ce w0 ks A n c)(hb0:Below w0.heap.size w0 w)(hbig:n<=1000000000):Calls Tryz.prog 107 #[.slice A n c] w (sP ks n w0 w):=by
 have HB0:=aa hb0;have HK0:=aa h0';obtain⟨hl,h2,h3,h4⟩:=h0'.below hb0;clear h0' hb0;obtain⟨i0,hi,hz0,hz1,hz2⟩:=info_parts Tryz.infoNode;have q22:∀(w:World) (a:Option Addr) (n c n' c':Nat),(binOp .eql 23 (.slice a n c) (.slice none n' c')).run Tryz.prog w= .ok (.bool a.isNone) w:=fun w a n c n' c'=>Lib.run_eql_slice_nil w _ _ a n c n' c' Tryz.underlying23;cases A with
 |none=>
  have hks:ks=[]:=by rcases h4 with e|⟨b,o,e,_⟩;exact e;cases e
  subst hks;have HN0:Hid (n=0):=hl;clear h2 h3 h4 hbig hl hi hz0 hz1 hz2
  go_in
  go_wp2;go_ret;exact⟨none,0,by rw[HN0.out];rfl,ai _ _,by rw[HN0.out];exact aE _,aE _,by rw[HN0.out];exact⟨0,[],World.ownsRow_nil _ _ _ _⟩,.inl rfl⟩
 |some ad=>
  have hrow:ks=[]∨∃b o,ad=⟨b,o,none⟩/\ch w ks b o:=by
   rcases h4 with e|⟨b,o,e,hr⟩
   .exact .inl e
   .injection e with e;exact .inr ⟨b,o,e,hr⟩
  have HR:=aa hrow;have HLN:Hid (n=ks.length):=hl;clear h4 hrow hl;have HX:Hid (∃news:List Value,news.length=n*4/\(∀j u,news[j]? =some u->w.cell? (ad.add j)=some u)/\(∀u∈news,u.oneCell'=true)/\(ks≠[]->∃b o,ad=⟨b,o,none⟩/\ch w ks b o/\news=cellsOf w b o (ks.length*4))):=by
   rcases HR.out with rfl|⟨b,o,rfl,hr⟩
   .have:=HLN.out;simp at this;subst this;exact⟨[],rfl,by simp,by simp,fun e=>absurd rfl e⟩
   .refine⟨cellsOf w b o (ks.length*4),by rw[nX,HLN.out],fun j u hu=>?_,pS hr,fun _=>⟨b,o,rfl,hr,rfl⟩⟩;rw[CE];exact nW hr hu
  obtain⟨news,x1,x2,x3,x4⟩:=HX.out;have X4:=aa x4;have X2:=aa x2;have X3:=aa x3;clear x2 x3 x4
  go_in
  go_wp2_with (at_builtin;refine wpList_append_own _ rfl _ _ 23 rfl w.heap.size 25 i0 _ 4 56 Tryz.underlying23 hi hz0 hz1 hz2 rfl (by decide) _ _ _ rfl (World.ownsRow_made w #[] 0 (ah _) (aE _) rfl) ad n c news rfl (by simpa using x1) ?qc2 X3.out ?qc4 ?qc5 ?qc6 ?_);case qc2=>intro j u hj;exact Lib.cell?_alloc_some _ (X2.out j u hj)
  case qc4=>unfold maxLen;omega
  case qc5=>omega
  case qc6=>simp
  intro v' w1 hown hgrow hnil;have HO:=aa hown;have HG:=aa hgrow;clear hown hgrow hnil;go_wp2;go_ret;have hb:Below w.heap.size w w1:=((ai _ w).alloc (ah _) _).grown HG.out (by simp) (by intro k hk;simp[Value.ownBlock] at hk;omega);obtain⟨A',c',rfl,k1,k2⟩:=t9 HO.out;by_cases h0:ks=[]
  .exact⟨A',c',by simp,hb,by omega,k2,⟨_,_,by simpa using HO.out⟩,.inl h0⟩
  .obtain⟨b,o,rfl,hr,hnews⟩:=X4.out h0;have hpos:0<n:=(by rw[HLN.out];exact List.length_pos_iff.2 h0);obtain⟨g,cap,e,hg⟩:=HO.out.form (by omega);injection e with e1 e2 e3;subst e1 e3;have hlt:=HO.out.lt g rfl;refine⟨_,_,by simp,hb,by omega,k2,⟨_,_,by simpa using HO.out⟩,.inr ⟨g,rfl,hlt.1,hlt.2,oG (by simpa using HO.out),fun i t ht=>?_⟩⟩;have hr0:ch w0 ks b o:=by
    rcases HK0.out.2.2.2 with e|⟨b',o',e,hr'⟩
    .exact absurd e h0
    .injection e with e;injection e with e1 e2;subst e1 e2;exact hr'
   obtain⟨A2,c2,t0,t1,t2,t3,t4,t5,t6,t7⟩:=(hr0.get ht).parts;replace t0:=ac HB0.out t0;replace t1:=ac HB0.out t1;replace t2:=ac HB0.out t2;replace t3:=ac HB0.out t3;have hi4:i<ks.length:=(gl.1 ht).1;have hcs:∀j u,(cellsOf w b o (ks.length*4))[j]? =some u->w1.cell? ⟨g,j,none⟩=some u:=by intro j u hu;refine bH (by simpa using HO.out) j u ?_;rw[hnews];simpa using hu
   exact⟨A2,c2,hcs _ _ (iJ (by omega) t0),hcs _ _ (iJ (by omega) (by rw[<-Nat.add_assoc];exact t1)),hcs _ _ (iJ (by omega) (by rw[<-Nat.add_assoc];exact t2)),hcs _ _ (iJ (by omega) (by rw[<-Nat.add_assoc];exact t3)),t4,t5,t6,t7⟩
theorem n8(args:Array Value)(w:World):(callFunc 87 args).run Tryz.prog w= .ok (.enter 87 args) w:=eH Tryz.func87 (by kernel_rfl) (by kernel_rfl) args w
def nF(m:Nat):Prop:=∀(t:ag) (k:Nat) (s:ByteArray) (x:Int) (A:Option Addr) (n c deep rb:Nat) (w:World),t.sz<=m->cf w t k s x A n c->t.short 9223372036854775806->deep<=41->bI w->
 w.cell? ⟨rb,0,none⟩=some (.func (.func 87) #[] #[.pointer (some ⟨rb,0,none⟩)])->
 Calls Tryz.prog 87 #[.agg #[.int .u8 k,.string s,.int .i64 x,.slice A n c],.int .i64 deep,.pointer (some ⟨rb,0,none⟩)] w (ak (cE deep t) w)
theorem rT(k i d:Nat)(t:ag)(ts:List ag):bV k i d (t::ts)=(ed k t.kind i && cE d t && bV k (i+1) d ts):=by simp only[bV]
theorem rU{k d i:Nat}{ks:List ag}{t:ag}(h:bV k 0 d ks=bV k i d (ks.drop i))(ht:ks[i]? =some t):bV k 0 d ks=(ed k t.kind i && cE d t && bV k (i+1) d (ks.drop (i+1))):=by have hi:i<ks.length:=(gl.1 ht).1;rw[h,List.drop_eq_getElem_cons hi];rw[br hi] at ht;injection ht with ht;rw[ht,rT]
theorem sD{ks:List ag}{i:Nat}{t:ag}(h:ks[i]? =some t):t.sz<=ao ks:=by
 induction ks generalizing i with
 |nil=>simp at h
 |cons u us ih=>
  cases i with
  |zero=>simp at h;subst h;simp[ao]
  |succ i=>have:=ih (i:=i) (by simpa using h);simp[ao];omega
def jK(ks:List ag):Bool:=match ks with| .node 22 _ _ _::_=>true| .node _ _ _ (.node 22 _ _ _::_) ::_=>true|_=>false
theorem km{w:World}{x y:Value}{T:TypeId}:(w.alloc (.cells #[x,y] T)).cell? ⟨w.heap.size,0,none⟩=some x/\(w.alloc (.cells #[x,y] T)).cell? ⟨w.heap.size,1,none⟩=some y:=by refine⟨?_,?_⟩ <;> (rw[World.cell?_alloc_new];rfl)
theorem zW{d k:Nat}{s:ar}{x:Int}{ks:List ag}(h:cp k=none):cE d (.node k s x ks)=false:=by simp[cE,h]
theorem rY{d k:Nat}{s:ar}{x:Int}{ks:List ag}{l:List Nat}{all:Bool}(h:cp k=some (l,all)):cE d (.node k s x ks)=(decide (d<=40) && dx k s x && (all || ks.length == l.length) && bV k 0 (d+1) ks && (k != 7 || jK ks)):=by simp only[cE,h];rfl
theorem zU{d:Nat}{ks:List ag}(h:bV 7 0 d ks=true)(hl:0<ks.length):∃t0 ts,ks=t0::ts/\((t0.kind=22/\jK ks=true)∨(t0.kind=26/\∃u us,t0.kids=u::us/\jK ks=(u.kind == 22))):=by
 match ks,hl with
 |t0::ts,_=>
  rw[rT] at h;simp only[Bool.and_eq_true] at h;obtain⟨⟨h1,h2⟩,_⟩:=h;refine⟨t0,ts,rfl,?_⟩;obtain⟨k0,s0,x0,ks0⟩:=t0;have hk:k0=22∨k0=26:=(by simpa[ed,cp,fP,ag.kind] using h1);rcases hk with rfl|rfl
  .exact .inl ⟨rfl,rfl⟩
  .right;refine⟨rfl,?_⟩;have hr:cp 26=some ([200,200],false):=rfl;rw[rY hr] at h2;have h3:ks0.length=2:=(by revert h2;simp;intros;assumption);match ks0,h3 with
   |u::us,_=>
    refine⟨u,us,rfl,?_⟩;obtain⟨ku,su,xu,ksu⟩:=u;by_cases hu:ku=22
    .subst hu;rfl
    .have:(ag.kind (.node ku su xu ksu) == 22)=false:=(by simp[ag.kind,hu]);rw[this];unfold jK;split
     .rename_i heq;injection heq with h1 _;injection h1 with h1;omega
     .rename_i heq;injection heq with h1 _;injection h1 with _ _ _ h1;injection h1 with h1 _;injection h1 with h1;omega
     .rfl
theorem zX(m:Nat)(ih:Hid (nF m)):nF (m+1):=by
 intro t k s x A n c deep rb w hsz hN hsh hd hE hrb;obtain⟨ks,rfl,hk255,hsm,hx,hK⟩:=hN;have hs:s.size<=9223372036854775806:=(by simp only[ag.short] at hsh;exact hsh.1);have HSZ:Hid (ao ks<=m):=(by show _<=_;simp only[ag.sz] at hsz;omega);have HSH:Hid (ex 9223372036854775806 ks):=(by simp only[ag.short] at hsh;exact hsh.2);have hb0:Below w.heap.size w (w.alloc (.cells #[.int .u8 k,.string s,.int .i64 x,.slice A n c] 25)):=(ai _ _).alloc (ah _) _;have HB0:=aa hb0;have HE:=aa (hE.below hb0 (ah _));have HK:=aa (hK.below hb0);have HRB:=aa (ac hb0 hrb);have hlrb:=bK hrb;simp only at hlrb;clear hsz hsh hb0 hE hrb hx hk255;cases hr:cp k with
 |none=>
  have HR:=aa hr;have HF:=aa (zW (d:=deep) (s:=bl s) (x:=x) (ks:=ks) hr);clear hr
  go_in
  go_wp2_with fail;refine(gX k _).mono ?_;rintro e w1 ⟨hb,hp⟩;rw[HR.out] at hp;simp only at hp;subst hp;have HB:Hid (Below w.heap.size w w1):=HB0.out.trans (hb.mono HB0.out.size);clear hb;go_wp2_with fail;go_ret;exact ak.intro HF.out.symm (HB.out.alloc HB.out.size _)
 |some r=>
  obtain⟨l,all⟩:=r;have HR:=aa hr;have HF:=aa (rY (d:=deep) (s:=bl s) (x:=x) (ks:=ks) hr);clear hr;by_cases hdp:40<deep
  .have HV:Hid (cE deep (.node k (bl s) x ks)=false):=by show _=_;rw[HF.out];simp[Nat.not_le.2 hdp]
   go_in
   go_wp2_with fail;refine(gX k _).mono ?_;rintro e w1 ⟨hb,hp⟩;rw[HR.out] at hp;simp only at hp;obtain⟨v,rfl,A1,n1,c1,rfl,hk1⟩:=hp;have HB:Hid (Below w.heap.size w w1):=HB0.out.trans (hb.mono HB0.out.size);clear hb hk1;go_wp2_with fail;go_ret;exact ak.intro HV.out.symm (HB.out.alloc HB.out.size _)
  .have hd40:deep<=40:=(by omega);clear hdp;cases hsy:dx k (bl s) x with
   |false=>
    have HSY:=aa hsy;have HV:Hid (cE deep (.node k (bl s) x ks)=false):=(by show _=_;rw[HF.out,hsy];simp);clear hsy
    go_in
    go_wp2_with fail;refine(gX k _).mono ?_;rintro e w1 ⟨hb,hp⟩;rw[HR.out] at hp;simp only at hp;obtain⟨v,rfl,A1,n1,c1,rfl,hk1⟩:=hp;have HB:Hid (Below w.heap.size w w1):=HB0.out.trans (hb.mono HB0.out.size);have HE1:=aa ((HE.out.below hb (ah _)).below ((ai _ _).alloc (ah _) (.cells #[.slice A1 n1 c1,.bool all] 126)) (ah _));have hc0:=(hb.cell (p:=⟨w.heap.size,0,none⟩) (by simp)).trans j7.1;have hc1:=(hb.cell (p:=⟨w.heap.size,1,none⟩) (by simp)).trans j7.2.1;have hc2:=(hb.cell (p:=⟨w.heap.size,2,none⟩) (by simp)).trans j7.2.2.1;have hc3:=(hb.cell (p:=⟨w.heap.size,3,none⟩) (by simp)).trans j7.2.2.2;have hlt:w.heap.size<w1.heap.size:=(by have:=hb.size;simp at this;omega);clear hb hk1;go_wp2_with fail;refine(mH k s x A _ c _ HE1.out hs).mono ?_;rintro e w2 ⟨rfl,hb⟩;rw[HSY.out];have HB2:Hid (Below w.heap.size w w2):=(HB.out.alloc HB.out.size _).trans (hb.mono (by simp;have:=HB.out.size;omega));clear hb;go_wp2_with fail;go_ret;exact ak.intro HV.out.symm HB2.out
   |true=>
    have HSY:=aa hsy;have hnk:n=ks.length:=HK.out.1;by_cases hcount:all=false/\n≠l.length
    .obtain⟨rfl,hne⟩:=hcount;have HV:Hid (cE deep (.node k (bl s) x ks)=false):=by show _=_;rw[HF.out];have:(ks.length == l.length)=false:=(by simp;omega);simp[this]
     have hne':((n:Int) != l.length)=true:=(by simp;omega);clear hsy hne hnk
     go_in
     go_wp2_with fail;refine(gX k _).mono ?_;rintro e w1 ⟨hb,hp⟩;rw[HR.out] at hp;simp only at hp;obtain⟨v,rfl,A1,n1,c1,rfl,hk1⟩:=hp;have HB:Hid (Below w.heap.size w w1):=HB0.out.trans (hb.mono HB0.out.size);have HE1:=aa ((HE.out.below hb (ah _)).below ((ai _ _).alloc (ah _) (.cells #[.slice A1 n1 c1,.bool false] 126)) (ah _));have hc0:=(hb.cell (p:=⟨w.heap.size,0,none⟩) (by simp)).trans j7.1;have hc1:=(hb.cell (p:=⟨w.heap.size,1,none⟩) (by simp)).trans j7.2.1;have hc2:=(hb.cell (p:=⟨w.heap.size,2,none⟩) (by simp)).trans j7.2.2.1;have hc3:=(hb.cell (p:=⟨w.heap.size,3,none⟩) (by simp)).trans j7.2.2.2;have hlt:w.heap.size<w1.heap.size:=(by have:=hb.size;simp at this;omega);have HN1:Hid (n1=l.length):=hk1.1;have HKr:=aa (HK.out.below hb);have HRr:=aa (ac hb HRB.out);clear hb hk1;go_wp2_with fail;refine(mH k s x A _ c _ HE1.out hs).mono ?_;rintro e w2 ⟨rfl,hb⟩;rw[HSY.out];have HB2:Hid (Below w.heap.size w w2):=(HB.out.alloc HB.out.size _).trans (hb.mono (by simp;have:=HB.out.size;omega));have hbw:Below w1.heap.size w1 w2:=((ai _ _).alloc (ah _) _).trans (hb.mono (by simp));have hd0:=(hbw.cell (p:=⟨w.heap.size,0,none⟩) hlt).trans hc0;have hd1:=(hbw.cell (p:=⟨w.heap.size,1,none⟩) hlt).trans hc1;have hd2:=(hbw.cell (p:=⟨w.heap.size,2,none⟩) hlt).trans hc2;have hd3:=(hbw.cell (p:=⟨w.heap.size,3,none⟩) hlt).trans hc3;have hr0:=(hb.cell (p:=⟨w1.heap.size,0,none⟩) (by simp)).trans (km (w:=w1)).1;have hr1:=(hb.cell (p:=⟨w1.heap.size,1,none⟩) (by simp)).trans (km (w:=w1)).2;have HE2:=aa (HE1.out.below hb (ah _));have HK2:=aa (HKr.out.below hbw);have HR2:=aa (ac hbw HRr.out);have hlt2:w.heap.size<w2.heap.size:=(by have:=hbw.size;omega);clear hb hbw hc0 hc1 hc2 hc3 HE1 HKr HRr;obtain rfl:=HN1.out;go_wp2_with fail;go_ret;exact ak.intro HV.out.symm HB2.out
    .have HC:Hid (cE deep (.node k (bl s) x ks)=(bV k 0 (deep+1) ks && (k != 7 || jK ks))):=by
      show _=_;rw[HF.out,hsy];have:(all || ks.length == l.length)=true:=by
       cases all with
       |true=>rfl
       |false=>simp at hcount ⊢;omega
      simp[hd40,this]
     have hall:all=true∨(all=false/\n=l.length):=by cases all<;>simp at hcount ⊢;exact hcount
     clear hsy hcount hnk;rcases hall with rfl|⟨rfl,rfl⟩
     .go_in
      go_wp2_with fail;refine(gX k _).mono ?_;rintro e w1 ⟨hb,hp⟩;rw[HR.out] at hp;simp only at hp;obtain⟨v,rfl,A1,n1,c1,rfl,hk1⟩:=hp;have HB:Hid (Below w.heap.size w w1):=HB0.out.trans (hb.mono HB0.out.size);have HE1:=aa ((HE.out.below hb (ah _)).below ((ai _ _).alloc (ah _) (.cells #[.slice A1 n1 c1,.bool true] 126)) (ah _));have hc0:=(hb.cell (p:=⟨w.heap.size,0,none⟩) (by simp)).trans j7.1;have hc1:=(hb.cell (p:=⟨w.heap.size,1,none⟩) (by simp)).trans j7.2.1;have hc2:=(hb.cell (p:=⟨w.heap.size,2,none⟩) (by simp)).trans j7.2.2.1;have hc3:=(hb.cell (p:=⟨w.heap.size,3,none⟩) (by simp)).trans j7.2.2.2;have hlt:w.heap.size<w1.heap.size:=(by have:=hb.size;simp at this;omega);have HN1:Hid (n1=l.length):=hk1.1;have HKr:=aa (HK.out.below hb);have HRr:=aa (ac hb HRB.out);clear hb hk1;go_wp2_with fail;refine(mH k s x A _ c _ HE1.out hs).mono ?_;rintro e w2 ⟨rfl,hb⟩;rw[HSY.out];have HB2:Hid (Below w.heap.size w w2):=(HB.out.alloc HB.out.size _).trans (hb.mono (by simp;have:=HB.out.size;omega));have hbw:Below w1.heap.size w1 w2:=((ai _ _).alloc (ah _) _).trans (hb.mono (by simp));have hd0:=(hbw.cell (p:=⟨w.heap.size,0,none⟩) hlt).trans hc0;have hd1:=(hbw.cell (p:=⟨w.heap.size,1,none⟩) hlt).trans hc1;have hd2:=(hbw.cell (p:=⟨w.heap.size,2,none⟩) hlt).trans hc2;have hd3:=(hbw.cell (p:=⟨w.heap.size,3,none⟩) hlt).trans hc3;have hr0:=(hb.cell (p:=⟨w1.heap.size,0,none⟩) (by simp)).trans (km (w:=w1)).1;have hr1:=(hb.cell (p:=⟨w1.heap.size,1,none⟩) (by simp)).trans (km (w:=w1)).2;have HE2:=aa (HE1.out.below hb (ah _));have HK2:=aa (HKr.out.below hbw);have HR2:=aa (ac hbw HRr.out);have hlt2:w.heap.size<w2.heap.size:=(by have:=hbw.size;omega);clear hb hbw hc0 hc1 hc2 hc3 HE1 HKr HRr;obtain rfl:=HN1.out;have hnn:n<=9223372036854775807:=(by have h1:=HK.out.2.1;have h2:=HK.out.2.2.1;unfold maxLen at h2;omega);have HNK:Hid (n=ks.length):=HK.out.1;go_wp2_with fail;go_loopw [44] (fun i wr=>∃j:Nat,j<=n/\i= .int .i64 j/\Hid (Below w2.heap.size w2 wr)/\Hid (bI wr)/\Hid (bV k 0 (deep+1) ks=bV k j (deep+1) (ks.drop j))) (fun i _=>n - (intOf i).toNat);case atStart=>exact⟨0,aE _,rfl,ai _ _,HE2.out,rfl⟩
      case round=>
       obtain⟨j,hj,rfl,HBr,HEr,HI⟩:=hrel;have hbr:=HBr.out;have he0:=(hbr.cell (p:=⟨w.heap.size,0,none⟩) hlt2).trans hd0;have he3:=(hbr.cell (p:=⟨w.heap.size,3,none⟩) hlt2).trans hd3;have HKw:=aa (HK2.out.below hbr);have HRw:=aa (ac hbr HR2.out);have hltr:w.heap.size<wr.heap.size:=(by have:=hbr.size;omega);have HBw:Hid (Below w.heap.size w wr):=HB2.out.trans (hbr.mono HB2.out.size);have HSr:Hid (w2.heap.size<=wr.heap.size):=hbr.size;clear hbr;by_cases hlt:j<n
       .obtain⟨b,o,t,rfl,ht,hat⟩:=HKw.out.get hlt;obtain⟨A',c',q0,q1,q2,q3,hnode⟩:=hat.cells;have hqlt:=bK q0;simp only at hqlt;have HND:=aa hnode;have HSZT:Hid (t.sz<=m):=aJ (sD ht) HSZ.out;have HSHT:Hid (t.short 9223372036854775806):=ex.get HSH.out ht;have HST:=aa (rU HI.out ht);clear ht hat hnode;cases hf:ed k t.kind j with
        |false=>have HFF:=aa hf;have HV:Hid (cE deep (.node k (bl s) x ks)=false):=(by show _=_;rw[HC.out,HST.out,hf];simp);clear hf;go_wp2_with fail;refine(mE k t.kind j _).mono ?_;rintro e w3 ⟨rfl,hb⟩;rw[HFF.out];have HB3:Hid (Below w.heap.size w w3):=(HBw.out.alloc HBw.out.size _).trans (hb.mono (by simp;omega));clear hb;go_wp2_with fail;go_ret;exact ak.intro HV.out.symm HB3.out
        |true=>
         have HFF:=aa hf;have HST2:Hid (bV k 0 (deep+1) ks=(cE (deep+1) t && bV k (j+1) (deep+1) (ks.drop (j+1)))):=(by show _=_;rw[HST.out,hf];simp);clear hf;go_wp2_with fail;refine(mE k t.kind j _).mono ?_;rintro e w3 ⟨rfl,hb⟩;rw[HFF.out];have hb3:Below wr.heap.size wr w3:=((ai _ _).alloc (ah _) _).trans (hb.mono (by simp));have HB3:=aa hb3;have s0:=(hb.cell (p:=⟨wr.heap.size,0,none⟩) (by simp)).trans j7.1;have s1:=(hb.cell (p:=⟨wr.heap.size,1,none⟩) (by simp)).trans j7.2.1;have s2:=(hb.cell (p:=⟨wr.heap.size,2,none⟩) (by simp)).trans j7.2.2.1;have s3:=(hb.cell (p:=⟨wr.heap.size,3,none⟩) (by simp)).trans j7.2.2.2;have srb:=ac hb3 HRw.out;have HSRB:=aa srb;have HND3:=aa (HND.out.below hb3);have HE3:=aa (HEr.out.below hb3 (ah _));have hcf:=n8;clear hb hb3;go_wp2_with fail;refine(ih.out t t.kind (sb t.text) t.num A' t.kids.length c' (deep+1) rb _ HSZT.out HND3.out HSHT.out (by omega) HE3.out HSRB.out).mono ?_;rintro e w4 ⟨rfl,hb4⟩;have HB4:Hid (Below wr.heap.size wr w4):=HB3.out.trans (hb4.mono HB3.out.size);have HE4:=aa (HE3.out.below hb4 (ah _));clear hb4;cases hrt:cE (deep+1) t with
         |false=>have HV:Hid (cE deep (.node k (bl s) x ks)=false):=(by show _=_;rw[HC.out,HST2.out,hrt];simp);clear hrt;go_wp2_with fail;go_ret;exact ak.intro HV.out.symm (HBw.out.trans (HB4.out.mono HBw.out.size))
         |true=>
          have HST3:Hid (bV k 0 (deep+1) ks=bV k (j+1) (deep+1) (ks.drop (j+1))):=(by show _=_;rw[HST2.out,hrt];simp);clear hrt;go_wp2_with fail;go_roundw;case rel=>exact⟨j+1,by omega,by go_num,HBr.out.trans (HB4.out.mono HSr.out),HE4.out,HST3.out⟩
          case measure=>simp[intOf];omega
       .have HV:Hid (cE deep (.node k (bl s) x ks)=(k != 7 || jK ks)):=by show _=_;rw[HC.out,HI.out];rw[List.drop_eq_nil_of_le (by have:=HNK.out;omega)];simp[bV]
        have HRL:Hid (bV k 0 (deep+1) ks=true):=by show _=_;rw[HI.out,List.drop_eq_nil_of_le (by have:=HNK.out;omega)];simp[bV]
        by_cases hk7:k=7
        .exfalso;have:=HR.out;rw[hk7] at this;simp[cp] at this
        .have e7:((k:Int) != 7)=true:=(by simp;omega);have HV2:Hid (cE deep (.node k (bl s) x ks)=true):=(by show _=_;rw[HV.out];simp[hk7]);clear hk7;go_wp2_with fail;go_ret;exact ak.intro HV2.out.symm HBw.out
     .go_in
      go_wp2_with fail;refine(gX k _).mono ?_;rintro e w1 ⟨hb,hp⟩;rw[HR.out] at hp;simp only at hp;obtain⟨v,rfl,A1,n1,c1,rfl,hk1⟩:=hp;have HB:Hid (Below w.heap.size w w1):=HB0.out.trans (hb.mono HB0.out.size);have HE1:=aa ((HE.out.below hb (ah _)).below ((ai _ _).alloc (ah _) (.cells #[.slice A1 n1 c1,.bool false] 126)) (ah _));have hc0:=(hb.cell (p:=⟨w.heap.size,0,none⟩) (by simp)).trans j7.1;have hc1:=(hb.cell (p:=⟨w.heap.size,1,none⟩) (by simp)).trans j7.2.1;have hc2:=(hb.cell (p:=⟨w.heap.size,2,none⟩) (by simp)).trans j7.2.2.1;have hc3:=(hb.cell (p:=⟨w.heap.size,3,none⟩) (by simp)).trans j7.2.2.2;have hlt:w.heap.size<w1.heap.size:=(by have:=hb.size;simp at this;omega);have HN1:Hid (n1=l.length):=hk1.1;have HKr:=aa (HK.out.below hb);have HRr:=aa (ac hb HRB.out);clear hb hk1;go_wp2_with fail;refine(mH k s x A _ c _ HE1.out hs).mono ?_;rintro e w2 ⟨rfl,hb⟩;rw[HSY.out];have HB2:Hid (Below w.heap.size w w2):=(HB.out.alloc HB.out.size _).trans (hb.mono (by simp;have:=HB.out.size;omega));have hbw:Below w1.heap.size w1 w2:=((ai _ _).alloc (ah _) _).trans (hb.mono (by simp));have hd0:=(hbw.cell (p:=⟨w.heap.size,0,none⟩) hlt).trans hc0;have hd1:=(hbw.cell (p:=⟨w.heap.size,1,none⟩) hlt).trans hc1;have hd2:=(hbw.cell (p:=⟨w.heap.size,2,none⟩) hlt).trans hc2;have hd3:=(hbw.cell (p:=⟨w.heap.size,3,none⟩) hlt).trans hc3;have hr0:=(hb.cell (p:=⟨w1.heap.size,0,none⟩) (by simp)).trans (km (w:=w1)).1;have hr1:=(hb.cell (p:=⟨w1.heap.size,1,none⟩) (by simp)).trans (km (w:=w1)).2;have HE2:=aa (HE1.out.below hb (ah _));have HK2:=aa (HKr.out.below hbw);have HR2:=aa (ac hbw HRr.out);have hlt2:w.heap.size<w2.heap.size:=(by have:=hbw.size;omega);clear hb hbw hc0 hc1 hc2 hc3 HE1 HKr HRr;obtain rfl:=HN1.out;have hnn:l.length<=9223372036854775807:=(by have h1:=HK.out.2.1;have h2:=HK.out.2.2.1;unfold maxLen at h2;omega);have HNK:Hid (l.length=ks.length):=HK.out.1;go_wp2_with fail;go_loopw [44] (fun i wr=>∃j:Nat,j<=l.length/\i= .int .i64 j/\Hid (Below w2.heap.size w2 wr)/\Hid (bI wr)/\Hid (bV k 0 (deep+1) ks=bV k j (deep+1) (ks.drop j))) (fun i _=>l.length - (intOf i).toNat);case atStart=>exact⟨0,aE _,rfl,ai _ _,HE2.out,rfl⟩
      case round=>
       obtain⟨j,hj,rfl,HBr,HEr,HI⟩:=hrel;have hbr:=HBr.out;have he0:=(hbr.cell (p:=⟨w.heap.size,0,none⟩) hlt2).trans hd0;have he3:=(hbr.cell (p:=⟨w.heap.size,3,none⟩) hlt2).trans hd3;have HKw:=aa (HK2.out.below hbr);have HRw:=aa (ac hbr HR2.out);have hltr:w.heap.size<wr.heap.size:=(by have:=hbr.size;omega);have HBw:Hid (Below w.heap.size w wr):=HB2.out.trans (hbr.mono HB2.out.size);have HSr:Hid (w2.heap.size<=wr.heap.size):=hbr.size;clear hbr;by_cases hlt:j<l.length
       .obtain⟨b,o,t,rfl,ht,hat⟩:=HKw.out.get hlt;obtain⟨A',c',q0,q1,q2,q3,hnode⟩:=hat.cells;have hqlt:=bK q0;simp only at hqlt;have HND:=aa hnode;have HSZT:Hid (t.sz<=m):=aJ (sD ht) HSZ.out;have HSHT:Hid (t.short 9223372036854775806):=ex.get HSH.out ht;have HST:=aa (rU HI.out ht);clear ht hat hnode;cases hf:ed k t.kind j with
        |false=>have HFF:=aa hf;have HV:Hid (cE deep (.node k (bl s) x ks)=false):=(by show _=_;rw[HC.out,HST.out,hf];simp);clear hf;go_wp2_with fail;refine(mE k t.kind j _).mono ?_;rintro e w3 ⟨rfl,hb⟩;rw[HFF.out];have HB3:Hid (Below w.heap.size w w3):=(HBw.out.alloc HBw.out.size _).trans (hb.mono (by simp;omega));clear hb;go_wp2_with fail;go_ret;exact ak.intro HV.out.symm HB3.out
        |true=>
         have HFF:=aa hf;have HST2:Hid (bV k 0 (deep+1) ks=(cE (deep+1) t && bV k (j+1) (deep+1) (ks.drop (j+1)))):=(by show _=_;rw[HST.out,hf];simp);clear hf;go_wp2_with fail;refine(mE k t.kind j _).mono ?_;rintro e w3 ⟨rfl,hb⟩;rw[HFF.out];have hb3:Below wr.heap.size wr w3:=((ai _ _).alloc (ah _) _).trans (hb.mono (by simp));have HB3:=aa hb3;have s0:=(hb.cell (p:=⟨wr.heap.size,0,none⟩) (by simp)).trans j7.1;have s1:=(hb.cell (p:=⟨wr.heap.size,1,none⟩) (by simp)).trans j7.2.1;have s2:=(hb.cell (p:=⟨wr.heap.size,2,none⟩) (by simp)).trans j7.2.2.1;have s3:=(hb.cell (p:=⟨wr.heap.size,3,none⟩) (by simp)).trans j7.2.2.2;have srb:=ac hb3 HRw.out;have HSRB:=aa srb;have HND3:=aa (HND.out.below hb3);have HE3:=aa (HEr.out.below hb3 (ah _));have hcf:=n8;clear hb hb3;go_wp2_with fail;refine(ih.out t t.kind (sb t.text) t.num A' t.kids.length c' (deep+1) rb _ HSZT.out HND3.out HSHT.out (by omega) HE3.out HSRB.out).mono ?_;rintro e w4 ⟨rfl,hb4⟩;have HB4:Hid (Below wr.heap.size wr w4):=HB3.out.trans (hb4.mono HB3.out.size);have HE4:=aa (HE3.out.below hb4 (ah _));clear hb4;cases hrt:cE (deep+1) t with
         |false=>have HV:Hid (cE deep (.node k (bl s) x ks)=false):=(by show _=_;rw[HC.out,HST2.out,hrt];simp);clear hrt;go_wp2_with fail;go_ret;exact ak.intro HV.out.symm (HBw.out.trans (HB4.out.mono HBw.out.size))
         |true=>
          have HST3:Hid (bV k 0 (deep+1) ks=bV k (j+1) (deep+1) (ks.drop (j+1))):=(by show _=_;rw[HST2.out,hrt];simp);clear hrt;go_wp2_with fail;go_roundw;case rel=>exact⟨j+1,by omega,by go_num,HBr.out.trans (HB4.out.mono HSr.out),HE4.out,HST3.out⟩
          case measure=>simp[intOf];omega
       .have HV:Hid (cE deep (.node k (bl s) x ks)=(k != 7 || jK ks)):=by show _=_;rw[HC.out,HI.out];rw[List.drop_eq_nil_of_le (by have:=HNK.out;omega)];simp[bV]
        have HRL:Hid (bV k 0 (deep+1) ks=true):=by show _=_;rw[HI.out,List.drop_eq_nil_of_le (by have:=HNK.out;omega)];simp[bV]
        by_cases hk7:k=7
        .subst hk7;have hlen:0<l.length:=(by have:=HR.out;simp[cp] at this;rw[<-this];simp);obtain⟨t0,ts,rfl,hcase⟩:=zU HRL.out (by have:=HNK.out;omega);obtain⟨b,o,t,rfl,ht,hat⟩:=HKw.out.get (i:=0) hlen;simp at ht;subst ht;obtain⟨A',c',q0,q1,q2,q3,ks0,hnode,_,_,_,hk0⟩:=hat.cells;have hkk:t0.kids=ks0:=(by rw[hnode];rfl);simp only[Nat.zero_mul,Nat.add_zero] at q0 q3;rcases hcase with ⟨hk22,hso⟩|⟨hk26,u,us,hku,hso⟩
         .have HV2:Hid (cE deep (.node 7 (bl s) x (t0::ts))=true):=(by show _=_;rw[HV.out,hso];rfl);rw[hk22] at q0;clear hat hnode hk0 hso q1 q2 q3 hkk hk22;go_wp2_with fail;go_ret;exact ak.intro HV2.out.symm HBw.out
         .have HV2:Hid (cE deep (.node 7 (bl s) x (t0::ts))=(u.kind == 22)):=(by show _=_;rw[HV.out,hso];rfl);rw[hk26] at q0;obtain⟨b2,o2,u',rfl,hu',hat2⟩:=hk0.get (i:=0) (by rw[hku];simp);rw[<-hkk,hku] at hu';simp at hu';subst hu';obtain⟨A2,c2,p0,_⟩:=hat2.cells;simp only[Nat.zero_mul,Nat.add_zero] at p0;have hlk:(t0.kids.length:Int)=us.length+1:=(by rw[hku];simp);rw[hku] at q3;clear hat hat2 hnode hk0 hso q1 q2 hkk hk26;go_wp2_with fail;go_ret;refine ak.intro ?_ HBw.out;rw[HV2.out,Bool.eq_iff_iff];simp;omega
        .have e7:((k:Int) != 7)=true:=(by simp;omega);have HV2:Hid (cE deep (.node k (bl s) x ks)=true):=(by show _=_;rw[HV.out];simp[hk7]);clear hk7;go_wp2_with fail;go_ret;exact ak.intro HV2.out.symm HBw.out
theorem rZ:∀m,nF m
 |0=>by intro t k s x A n c deep rb w hsz;obtain⟨k0,s0,x0,ks0⟩:=t;simp[ag.sz] at hsz
 |m+1=>zX m (aa (rZ m))
theorem yU(t:ag)(k:Nat)(s:ByteArray)(x:Int)(A:Option Addr)(n c:Nat)(w:World)(hN:cf w t k s x A n c)(hsh:t.short 9223372036854775806)(hE:bI w):Calls Tryz.prog 40 #[.agg #[.int .u8 k,.string s,.int .i64 x,.slice A n c]] w (ak (pi t) w):=by
 have HN:=aa hN;have HE:=aa hE;have HSH:=aa hsh;have hmf:=lH;have hcf:=n8;clear hN hE hsh
 go_in
 go_wp2_with fail;have hb0:Below w.heap.size w ((w.alloc (.cells #[.int .u8 k,.string s,.int .i64 x,.slice A n c] 25)).alloc (.cells #[.func (.func 87) #[] #[.pointer (some ⟨w.heap.size+1,0,none⟩)]] 123)):=((ai _ _).alloc (ah _) _).alloc (by simp) _;refine(rZ t.sz t k s x A n c 1 (w.heap.size+1) _ (ah _) (HN.out.below hb0) HSH.out (by omega) (HE.out.below hb0 (ah _)) (by go_simp)).mono ?_;rintro e w1 ⟨rfl,hb⟩;have HB:Hid (Below w.heap.size w w1):=hb0.trans (hb.mono hb0.size);clear hb hb0;go_wp2_with fail;go_ret;exact ak.intro rfl HB.out
theorem fT(x:Int)(w:World):Calls Tryz.prog 67 #[.int .i64 x] w (Dq (.bool (aH x)) w):=by
 by_cases h0:0<=x
 .by_cases h1:x<=1073741824
  .have HV:Hid (aH x=true):=by show _=_;simp[aH,h0,h1]
   go_in
   go_wp2;go_ret;exact⟨dg (by rw[HV.out]),0,rfl⟩
  .have HV:Hid (aH x=false):=by show _=_;simp[aH,h1]
   go_in
   go_wp2;go_ret;exact⟨dg (by rw[HV.out]),0,rfl⟩
 .have HV:Hid (aH x=false):=by show _=_;simp[aH,h0]
  go_in
  go_wp2;go_ret;exact⟨dg (by rw[HV.out]),0,rfl⟩
theorem FH(x:Int)(w:World):Calls Tryz.prog 66 #[.int .i64 x] w (Dq (.bool (!aH x)) w):=by
 go_in
 go_wp2_with fail;refine(fT x _).mono ?_;rintro e w1 ⟨rfl,q,rfl⟩;go_wp2;go_ret;exact⟨rfl,q,rfl⟩
theorem Dj(args:Array Value)(w:World):(callFunc 66 args).run Tryz.prog w= .ok (.enter 66 args) w:=eH Tryz.func66 (by kernel_rfl) (by kernel_rfl) args w
theorem tu{xs:List Int}{j:Nat}{x:Int}(h:xs.all aH=(xs.drop j).all aH)(hx:xs[j]? =some x):xs.all aH=(aH x && (xs.drop (j+1)).all aH):=by have h1:j<xs.length:=(gl.1 hx).1;rw[h,List.drop_eq_getElem_cons h1];rw[br h1] at hx;injection hx with hx;rw[hx];rfl
def kZ(b:Bool)(w:World)(e:Ending)(w':World):Prop:=(∃d,w'=w.drewN d)/\∃i:Int,e= .returned (.int .i64 i)/\(0<=i↔b=true)
theorem kZ.intro{b:Bool}{w:World}{d:Nat}{i:Int}(h:0<=i↔b=true):kZ b w (.returned (.int .i64 i)) (w.drewN d):=⟨⟨d,rfl⟩,i,rfl,h⟩
theorem yr(xs:List Int)(A:Option Addr)(n c:Nat)(w:World)(hx:cc w xs A n c):Calls Tryz.prog 117 #[.slice A n c,.func (.func 66) #[] #[]] w (kZ (!xs.all aH) w):=by
 have HX:=aa hx;have hnn:n<=9223372036854775807:=(by have h1:=hx.2.1;have h2:=hx.2.2.1;unfold maxLen at h2;omega);have HL:Hid (n=xs.length):=hx.1;have hcf:=Dj;clear hx
 go_in
 go_wp2_with fail;go_loopw [8] (fun i wr=>∃j d:Nat,j<=n/\i= .int .i64 j/\wr=w.drewN d/\Hid (xs.all aH=(xs.drop j).all aH)) (fun i _=>n - (intOf i).toNat);case atStart=>exact⟨0,0,aE _,rfl,rfl,rfl⟩
 case round=>
  obtain⟨j,d,hj,rfl,rfl,HI⟩:=hrel;by_cases hlt:j<n
  .obtain⟨b,o,x,rfl,hxx,q0⟩:=HX.out.get hlt;have HST:=aa (tu HI.out hxx);clear hxx;cases hn:aH x with
   |true=>
    have HNN:=aa hn;have HN:Hid (xs.all aH=(xs.drop (j+1)).all aH):=(by show _=_;rw[HST.out,hn];simp);clear hn;go_wp2_with fail;refine(FH x _).mono ?_;rintro e w3 ⟨rfl,q,rfl⟩;rw[HNN.out];go_wp2;go_roundw;case rel=>exact⟨j+1,d+q,by omega,by go_num,by simp[World.drewN,Nat.add_assoc],HN⟩
    case measure=>simp[intOf];omega
   |false=>have HNN:=aa hn;have HV:Hid (xs.all aH=false):=(by show _=_;rw[HST.out,hn];simp);clear hn;go_wp2_with fail;refine(FH x _).mono ?_;rintro e w3 ⟨rfl,q,rfl⟩;rw[HNN.out];go_wp2;go_ret;exact kZ.intro (by rw[HV.out];simp)
  .have HV:Hid (xs.all aH=true):=by show _=_;have e1:=HL.out;rw[HI.out,List.drop_eq_nil_of_le (by omega)];rfl
   go_wp2_with fail;go_ret;exact kZ.intro (by rw[HV.out];simp)
theorem kG(xs:List Int)(A:Option Addr)(n c:Nat)(w:World)(hx:cc w xs A n c):Calls Tryz.prog 65 #[.slice A n c,.func (.func 66) #[] #[]] w (Dq (.bool (!xs.all aH)) w):=by
 have HX:=aa hx;clear hx
 go_in
 go_wp2_with fail;refine(yr xs _ _ _ _ HX.out).mono ?_;rintro e w1 ⟨⟨q,rfl⟩,i,rfl,hi⟩;have HI:=aa hi;clear hi;go_wp2;go_ret;exact⟨dg (by rw[Bool.eq_iff_iff,<-HI.out];simp),q,rfl⟩
theorem eC(ks:List ag)(A:Option Addr)(n c:Nat)(w:World)(hK:ce w ks A n c)(hsh:ex 9223372036854775806 ks)(hE:bI w):Calls Tryz.prog 68 #[.slice A n c] w (ak (bR ks) w):=by
 have hL:=hK.1;have HE:=aa hE;have hnn:n<=9223372036854775807:=(by have h1:=hK.2.1;have h2:=hK.2.2.1;unfold maxLen at h2;omega);by_cases h1:n=1
 .subst h1;obtain⟨t,rfl⟩:∃t,ks=[t]:=List.length_eq_one_iff.1 hL.symm;obtain⟨b,o,t',rfl,ht,hat⟩:=hK.get (i:=0) (by omega);simp at ht;subst ht;simp only[Nat.zero_mul,Nat.add_zero] at hat;obtain⟨A1,c1,q0,q1,q2,q3,hnode⟩:=hat.cells;have HN:=aa hnode;have HS:Hid (t.short 9223372036854775806):=(by simp only[ex] at hsh;exact hsh.1);clear hK hat hnode hL hsh hE
  go_in
  go_wp2_with fail;refine(yU t _ _ _ _ _ _ _ HN.out HS.out HE.out).mono ?_;rintro e w3 ⟨rfl,hb3⟩;have HB3:=aa hb3;clear hb3;go_wp2;go_ret;exact ak.intro rfl HB3.out
 .have HV:Hid (bR ks=false):=by
   show _=_;match ks,hL with
   |[],_=>rfl
   |[t],h=>simp at h;omega
   |_::_::_,_=>rfl
  have e1:¬(n:Int)=1:=(by omega);clear hK hL hsh h1
  go_in
  go_wp2;go_ret;exact ak.intro HV.out.symm (ai _ _)
def aI(k:Nat)(al ni nj i0 pe ij j0 nf nt ft em po pn eo en sm:Bool):Bool:=
 if !al || !ni || !nj then false
 else if (!aq k && (!i0 || pe)) || ((!ij) != (k == 5) && k != 2 && k != 3) || (!j0 && k != 5) then false
 else if (k == 1) != (nf && nt && !ft) || (k != 1 && !em) then false
 else if aG k != po || aF k != pn || (!aG k && !eo) || (!aF k && !en) then false
 else k == 1 || aq k || (k == 4 && !sm)
theorem af{w w1 w2:World}(h1:Below w.heap.size w w1)(h2:Below w1.heap.size w1 w2):Below w.heap.size w w2:=h1.trans (h2.mono h1.size)
theorem eS(a b:ByteArray):bl (a++b)=bl a++bl b:=by simp[bl]
theorem kw(e:aj):ap e=aI e.kind (e.path.all aH) (aH e.at_) (aH e.far) (e.at_ == 0) e.path.isEmpty (e.at_ == e.far) (e.far == 0) (be e.frm) (be e.to_) (e.frm == e.to_) (e.frm++e.to_).isEmpty (bR e.olds) (bR e.news) e.olds.isEmpty e.news.isEmpty (bB e.olds e.news):=rfl
def bw(w:World)(b:Nat)(x0 x1 x2 x3 x4 x5 x6 x7:Value):Prop:=
 w.cell? ⟨b,0,none⟩=some x0/\w.cell? ⟨b,1,none⟩=some x1/\w.cell? ⟨b,2,none⟩=some x2/\w.cell? ⟨b,3,none⟩=some x3/\w.cell? ⟨b,4,none⟩=some x4/\w.cell? ⟨b,5,none⟩=some x5/\w.cell? ⟨b,6,none⟩=some x6/\w.cell? ⟨b,7,none⟩=some x7
theorem bw.below{w w':World}{b:Nat}{x0 x1 x2 x3 x4 x5 x6 x7:Value}(h:bw w b x0 x1 x2 x3 x4 x5 x6 x7)(hb:Below w.heap.size w w'):bw w' b x0 x1 x2 x3 x4 x5 x6 x7:=by obtain⟨h0,h1,h2,h3,h4,h5,h6,h7⟩:=h;exact⟨ac hb h0,ac hb h1,ac hb h2,ac hb h3,ac hb h4,ac hb h5,ac hb h6,ac hb h7⟩
theorem bw.new{w:World}{x0 x1 x2 x3 x4 x5 x6 x7:Value}{T:TypeId}:bw (w.alloc (.cells #[x0,x1,x2,x3,x4,x5,x6,x7] T)) w.heap.size x0 x1 x2 x3 x4 x5 x6 x7:=by refine⟨?_,?_,?_,?_,?_,?_,?_,?_⟩ <;> (rw[World.cell?_alloc_new];rfl)
end Go.Proofs.YtckbdkgcoilmpaaGreatDoor
