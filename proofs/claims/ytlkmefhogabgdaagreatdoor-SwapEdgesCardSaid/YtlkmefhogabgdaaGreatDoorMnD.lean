/- Part 4 of the proof. -/
import Derived.OwnWalk
import Derived.Laws.EntriesVeiled
import Derived.Test.YtlkmefhogabgdaaGreatDoorMnC
namespace Go.Proofs.YtlkmefhogabgdaaGreatDoor
open Go.RowKit
set_option linter.all false
set_option maxHeartbeats 40000000
set_option maxRecDepth 100000
def aW(R:List Value):List Nat:=R.filterMap Value.ownBlock
theorem gg(R S:List Value):aW (R++S)=aW R++aW S:=List.filterMap_append
theorem iR{R:List Value}{v:Value}{g:Nat}(hv:v∈R)(hg:v.ownBlock=some g):g∈aW R:=List.mem_filterMap.2 ⟨v,hv,hg⟩
theorem eV{R:List Value}{g:Nat}(h:g∈aW R):∃v∈R,v.ownBlock=some g:=List.mem_filterMap.1 h
mutual
def fy (w:World):ag->Nat->Nat->List Value->Prop
 | .node _ _ _ ks,b,o,R=>∃A c,w.cell? ⟨b,o+3,none⟩=some (.slice A ks.length c)/\∃R',R= .slice A ks.length c::R'/\(ks=[]/\R'=[]∨∃g,A=some ⟨g,0,none⟩/\cR w ks g 0 R')
def cR (w:World):List ag->Nat->Nat->List Value->Prop
 |[],_,_,R=>R=[]
 |t::ts,b,o,R=>∃R1 R2,R=R1++R2/\fy w t b o R1/\cR w ts b (o+4) R2
end
def dr(w:World)(ks:List ag)(A:Option Addr)(n c:Nat)(R:List Value):Prop:=∃R',R= .slice A n c::R'/\(ks=[]/\R'=[]∨∃g,A=some ⟨g,0,none⟩/\cR w ks g 0 R')
theorem fy.of{w:World}{t:ag}{b o:Nat}{A:Option Addr}{c:Nat}{R:List Value}(h3:w.cell? ⟨b,o+3,none⟩=some (.slice A t.kids.length c))(h:dr w t.kids A t.kids.length c R):fy w t b o R:=by obtain⟨k,s,x,ks⟩:=t;exact⟨A,c,h3,h⟩
theorem fy.kids{w:World}{t:ag}{b o:Nat}{R:List Value}(h:fy w t b o R):∃A c,w.cell? ⟨b,o+3,none⟩=some (.slice A t.kids.length c)/\dr w t.kids A t.kids.length c R:=by obtain⟨k,s,x,ks⟩:=t;obtain⟨A,c,h3,h⟩:=h;exact⟨A,c,h3,h⟩
mutual
theorem fy.keep {w w':World}:∀{t:ag} {b o:Nat} {R:List Value},fy w t b o R->w'.cell? ⟨b,o+3,none⟩=w.cell? ⟨b,o+3,none⟩->(∀g∈aW R,w'.heap[g]? =w.heap[g]?)->fy w' t b o R
 | .node k s x ks,b,o,R,h,hc,hk=>by
  obtain⟨A,c,h3,R',rfl,h⟩:=h;refine⟨A,c,hc.trans h3,R',rfl,?_⟩;rcases h with h|⟨g,rfl,h⟩
  .exact .inl h
  .have hg:w'.heap[g]? =w.heap[g]? :=hk g (by simp[aW,Value.ownBlock]);refine .inr ⟨g,rfl,cR.keep h (fun p=>World.cell?_of_block (a:=⟨g,p,none⟩) hg) fun q hq=>hk q (by simp only[aW,List.filterMap_cons,Value.ownBlock];exact List.mem_cons_of_mem _ hq)⟩
theorem cR.keep {w w':World}:∀{ts:List ag} {b o:Nat} {R:List Value},cR w ts b o R->(∀p,w'.cell? ⟨b,p,none⟩=w.cell? ⟨b,p,none⟩)->(∀g∈aW R,w'.heap[g]? =w.heap[g]?)->cR w' ts b o R
 |[],_,_,_,h,_,_=>h
 |t::ts,b,o,R,h,hc,hk=>by obtain⟨R1,R2,rfl,h1,h2⟩:=h;rw[gg] at hk;exact⟨R1,R2,rfl,fy.keep h1 (hc _) fun g hg=>hk g (List.mem_append_left _ hg),cR.keep h2 hc fun g hg=>hk g (List.mem_append_right _ hg)⟩
end
theorem cR.keepC{w w':World}:∀{ts:List ag} {b o:Nat} {R:List Value},cR w ts b o R->(∀i,i<ts.length->w'.cell? ⟨b,o+i*4+3,none⟩=w.cell? ⟨b,o+i*4+3,none⟩)->(∀g∈aW R,w'.heap[g]? =w.heap[g]?)->cR w' ts b o R
 |[],_,_,_,h,_,_=>h
 |t::ts,b,o,R,h,hc,hk=>by obtain⟨R1,R2,rfl,h1,h2⟩:=h;rw[gg] at hk;refine⟨R1,R2,rfl,fy.keep h1 (by simpa using hc 0 (by simp)) fun g hg=>hk g (List.mem_append_left _ hg),cR.keepC h2 (fun i hi=>?_) fun g hg=>hk g (List.mem_append_right _ hg)⟩;have:=hc (i+1) (by simp;omega);rwa [show o+(i+1) *4+3=o+4+i*4+3 from by omega] at this
theorem cR.snoc{w:World}:∀{ts:List ag} {b o:Nat} {R R1:List Value} {t:ag},cR w ts b o R->fy w t b (o+ts.length*4) R1->cR w (ts++[t]) b o (R++R1)
 |[],b,o,R,R1,t,h,h1=>by
  cases h
  exact⟨R1,[],by simp,by simpa using h1,rfl⟩
 |u::ts,b,o,R,R1,t,h,h1=>by obtain⟨S1,S2,rfl,h2,h3⟩:=h;refine⟨S1,S2++R1,by simp,h2,cR.snoc h3 ?_⟩;rwa [show o+4+ts.length*4=o+(u::ts).length*4 from by simp;omega]
theorem dr.keep{w w':World}{ks:List ag}{A:Option Addr}{n c:Nat}{R:List Value}(h:dr w ks A n c R)(hk:∀g∈aW R,w'.heap[g]? =w.heap[g]?):dr w' ks A n c R:=by
 obtain⟨R',rfl,h⟩:=h;refine⟨R',rfl,?_⟩;rcases h with h|⟨g,rfl,h⟩
 .exact .inl h
 .have hg:w'.heap[g]? =w.heap[g]? :=hk g (by simp[aW,Value.ownBlock]);exact .inr ⟨g,rfl,cR.keep h (fun p=>World.cell?_of_block (a:=⟨g,p,none⟩) hg) fun q hq=>hk q (by simp only[aW,List.filterMap_cons,Value.ownBlock];exact List.mem_cons_of_mem _ hq)⟩
def eu(w:World):List ag->List Value->List Value->Prop
 |[],_,R=>R=[]
 |t::ts,xs,R=>∃A c R1 R2,xs[3]? =some (.slice A t.kids.length c)/\R=R1++R2/\dr w t.kids A t.kids.length c R1/\eu w ts (xs.drop 4) R2
theorem eu.keep{w w':World}:∀{ts:List ag} {xs R:List Value},eu w ts xs R->(∀g∈aW R,w'.heap[g]? =w.heap[g]?)->eu w' ts xs R
 |[],_,_,h,_=>h
 |t::ts,xs,R,h,hk=>by obtain⟨A,c,R1,R2,h3,rfl,h1,h2⟩:=h;rw[gg] at hk;exact⟨A,c,R1,R2,h3,rfl,h1.keep fun g hg=>hk g (List.mem_append_left _ hg),eu.keep h2 fun g hg=>hk g (List.mem_append_right _ hg)⟩
theorem eu.snoc{w:World}:∀{ts:List ag} {xs ys R R1:List Value} {t:ag} {A:Option Addr} {c:Nat},eu w ts xs R->xs.length=ts.length*4->ys[3]? =some (.slice A t.kids.length c)->dr w t.kids A t.kids.length c R1->eu w (ts++[t]) (xs++ys) (R++R1)
 |[],xs,ys,R,R1,t,A,c,h,hl,h3,h1=>by
  cases h
  have:xs=[]:=List.eq_nil_of_length_eq_zero (by simpa using hl);subst this;exact⟨A,c,R1,[],by simpa using h3,by simp,h1,rfl⟩
 |u::ts,xs,ys,R,R1,t,A,c,h,hl,h3,h1=>by obtain⟨A',c',S1,S2,e3,rfl,h2,h4⟩:=h;have hl':xs.length=ts.length*4+4:=(by rw[hl];simp;omega);refine⟨A',c',S1,S2++R1,by rw[cM (by omega)];exact e3,by simp,h2,?_⟩;have e:(xs++ys).drop 4=xs.drop 4++ys:=(by rw[List.drop_append_of_le_length (by omega)]);rw[e];exact eu.snoc h4 (by simp;omega) h3 h1
theorem eu.mem{w:World}{g:Nat}:∀{ts:List ag} {o:Nat} {xs R:List Value},eu w ts xs R->(∀p u,xs[p]? =some u->w.cell? ⟨g,o+p,none⟩=some u)->cR w ts g o R
 |[],_,_,_,h,_=>h
 |t::ts,o,xs,R,h,hx=>by obtain⟨A,c,R1,R2,h3,rfl,h1,h2⟩:=h;refine⟨R1,R2,rfl,fy.of (hx 3 _ h3) h1,eu.mem h2 fun p u hu=>?_⟩;rw[List.getElem?_drop] at hu;have:=hx _ u hu;rwa [show o+(4+p)=o+4+p from by omega] at this
def bd(w:World)(B:Nat)(T:TypeId)(size:Nat)(v:Value):Prop:=∃n xs,w.ownsRow B T size v n xs
theorem bd.keep{w w':World}{B B':Nat}{T:TypeId}{size:Nat}{v:Value}(h:bd w B T size v)(hB:B'<=B)(hk:∀g,v.ownBlock=some g->w'.heap[g]? =w.heap[g]?):bd w' B' T size v:=by obtain⟨n,xs,h1,h2⟩:=h;refine⟨n,xs,h1,h2.imp id ?_⟩;rintro⟨g,cap,cur,hv,hg,hh,r⟩;exact⟨g,cap,cur,hv,aJ hB hg,(hk g (by rw[hv];rfl)).trans hh,r⟩
theorem bd.lt{w:World}{B:Nat}{T:TypeId}{size:Nat}{v:Value}(h:bd w B T size v){g:Nat}(hg:v.ownBlock=some g):B<=g/\g<w.heap.size:=by obtain⟨n,xs,h⟩:=h;exact h.lt g hg
theorem bd.block{w:World}{B:Nat}{T:TypeId}{size:Nat}{v:Value}(h:bd w B T size v){g:Nat}(hg:v.ownBlock=some g):∃cur,w.heap[g]? =some (.cells cur T (0,0)):=by
 obtain⟨n,xs,h⟩:=h;rcases h.2 with ⟨rfl,_⟩|⟨g',cap,cur,rfl,_,hh,_⟩
 .simp[Value.ownBlock] at hg
 .simp[Value.ownBlock] at hg;subst hg;exact⟨cur,hh⟩
theorem oF{w:World}{base:Nat}{e:TypeId}{size g n cap:Nat}{xs:List Value}(h:w.ownsRow base e size (.slice (some ⟨g,0,none⟩) n cap) n xs)(j:Nat)(u:Value):(w.setCell ⟨g,j,none⟩ u).ownsRow base e size (.slice (some ⟨g,0,none⟩) n cap) n (xs.set j u):=by
 obtain⟨h1,h2⟩:=h;refine⟨by simpa using h1,h2.imp id ?_⟩;rintro⟨g',cap',cur,hv,hg,hh,hc,hm,hs,ht⟩;injection hv with e1 e2 e3;injection e1 with e1;injection e1 with e1;subst e1 e3;refine⟨g,cap,cur.setIfInBounds j u,rfl,hg,?_,hc,hm,by simpa using hs,?_⟩
 .simp[World.setCell,Array.getElem?_modify,hh]
 .rw[<-ht];simp[List.take_set]
theorem rd{w:World}{base:Nat}{e:TypeId}{size:Nat}{A:Option Addr}{n m cap:Nat}{xs:List Value}(h:w.ownsRow base e size (.slice A n cap) m xs):m=n:=by
 rcases h.2 with ⟨hv,h0⟩|⟨g',cap',cur,hv,_⟩
 .injection hv with e1 e2 e3;omega
 .injection hv with e1 e2 e3;exact e2.symm
theorem bd.put{w:World}{B:Nat}{T:TypeId}{size g n cap:Nat}(h:bd w B T size (.slice (some ⟨g,0,none⟩) n cap))(j:Nat)(u:Value):bd (w.setCell ⟨g,j,none⟩ u) B T size (.slice (some ⟨g,0,none⟩) n cap):=by obtain⟨m,xs,h⟩:=h;have:=rd h;subst this;exact⟨_,_,oF h j u⟩
structure cZ (w:World) (B:Nat) (ks:List ag) (A:Option Addr) (n c:Nat) (R:List Value):Prop where
 rows:dr w ks A n c R
 own:∀v∈R,bd w B 44 4 v
 nd:(aW R).Nodup
theorem cZ.lt{w:World}{B:Nat}{ks:List ag}{A:Option Addr}{n c:Nat}{R:List Value}(h:cZ w B ks A n c R){g:Nat}(hg:g∈aW R):B<=g/\g<w.heap.size:=by obtain⟨v,hv,e⟩:=eV hg;exact(h.own v hv).lt e
theorem cZ.keep{w w':World}{B B':Nat}{ks:List ag}{A:Option Addr}{n c:Nat}{R:List Value}(h:cZ w B ks A n c R)(hB:B'<=B)(hk:∀q,B<=q->q<w.heap.size->w'.heap[q]? =w.heap[q]?):cZ w' B' ks A n c R:=
 ⟨h.rows.keep fun g hg=>hk g (h.lt hg).1 (h.lt hg).2,fun v hv=>(h.own v hv).keep hB fun g hg=>hk g ((h.own v hv).lt hg).1 ((h.own v hv).lt hg).2,h.nd⟩
theorem cZ.mk'{w:World}{B:Nat}{ks:List ag}{g n c:Nat}{R:List Value}(hr:cR w ks g 0 R)(hg:bd w B 44 4 (.slice (some ⟨g,0,none⟩) n c))(ho:∀v∈R,bd w B 44 4 v)(hn:(aW R).Nodup)(hne:g∉aW R):cZ w B ks (some ⟨g,0,none⟩) n c (.slice (some ⟨g,0,none⟩) n c::R):=by
 refine⟨⟨R,rfl,.inr ⟨g,rfl,hr⟩⟩,?_,?_⟩
 .intro v hv;rcases List.mem_cons.1 hv with rfl|hv
  .exact hg
  .exact ho v hv
 .show(aW (_::R)).Nodup;simp only[aW,List.filterMap_cons,Value.ownBlock];exact List.nodup_cons.2 ⟨hne,hn⟩
theorem cZ.nil{w:World}{B:Nat}{A:Option Addr}{n c:Nat}(hg:bd w B 44 4 (.slice A n c)):cZ w B [] A n c [.slice A n c]:=by
 refine⟨⟨[],rfl,.inl ⟨rfl,rfl⟩⟩,?_,?_⟩
 .intro v hv;rcases List.mem_cons.1 hv with rfl|hv
  .exact hg
  .cases hv
 .cases A with
  |none=>exact List.nodup_nil
  |some ad=>exact List.nodup_cons.2 ⟨by simp,List.nodup_nil⟩
theorem iq{R S:List Value}(h1:(aW R).Nodup)(h2:(aW S).Nodup){m:Nat}(hR:∀g∈aW R,g<m)(hS:∀g∈aW S,m<=g):(aW (R++S)).Nodup:=by rw[gg];refine List.nodup_append.2 ⟨h1,h2,fun a ha b hb e=>?_⟩;have:=hR a ha;have:=hS b hb;omega
def kA(i j z:Int):Int:=if z=i then j else dl j (cF i z)
theorem xc(p l:List Int)(i j:Int):eT p l i j=ei p l (kA i j):=rfl
theorem yG(z i j:Int)(b1 b2:Nat)(w:World)(hc1:w.cell? ⟨b1,0,none⟩=some (.int .i64 i))(hc2:w.cell? ⟨b2,0,none⟩=some (.int .i64 j))(h1:0<=z)(h2:z<=2147483647):Calls Tryz.prog 136 #[.int .i64 z,.pointer (some ⟨b1,0,none⟩),.pointer (some ⟨b2,0,none⟩)] w (lg (kA i j z) w):=by
 by_cases h:z=i
 .subst h;have HU:Hid (kA z j z=j):=if_pos rfl
  go_in
  go_wp2;go_ret;exact lg.intro HU.out (ai _ _)
 .have HU:Hid (kA i j z=dl j (cF i z)):=if_neg h;have hlt1:=bK hc1;have hlt2:=bK hc2;have hd1: -1<=cF i z:=by unfold cF;split<;>omega
  have hd2:cF i z<=2147483648:=by unfold cF;split<;>omega
  simp only at hlt1 hlt2
  go_in
  go_wp2
  go_region_with (first|(go_at_call 134;refine(rr _ _).mono ?_;rintro e w' ⟨rfl,rfl⟩)|(go_at_call 135;refine(mD _ _).mono ?_;rintro e w' ⟨rfl,rfl⟩)|(go_at_call 187;refine(ri z i _ _ (by go_simp) h1 (by omega)).mono ?_;rintro e w' ⟨rfl,rfl⟩)|(go_at_call 186;refine(rs (cF i z) j _ _ (by go_simp) hd1 hd2).mono ?_;rintro e w' ⟨rfl,rfl⟩))
  all_goals
   go_wp2;go_ret;exact lg.intro HU.out (((ai _ _).alloc (ah _) _).alloc (by simp) _).drew
def dE(zs:List Int):Prop:=∀z∈zs,0<=z/\z<=2147483647
theorem dE.at_{zs:List Int}(h:dE zs){i:Nat}{z:Int}(hz:zs[i]? =some z):0<=z/\z<=2147483647:=h z (List.mem_of_getElem? hz)
theorem pf(p l:List Int){n m:Nat}(h1:n=p.length)(h2:m=l.length)(h3:n<=17592186044416)(h4:m<=17592186044416):fX p l<=17592186044416:=by unfold fX;split<;>omega
theorem yu(xs ys:List Int)(i:Int)(A B:Option Addr)(n c m d:Nat)(w:World)(hx:aA w xs A n c)(hy:aA w ys B m d)(hn:n<=17592186044416)(hm:m<=17592186044416)(hf:dE xs):Calls Tryz.prog 64 #[.slice A n c,.slice B m d,.int .i64 i] w (dL (fO xs ys i) w):=by
 have HX:=aa hx;have HY:=aa hy;have HF:=aa hf;have HT:=aa (pf xs ys hx.1 hy.1 hn hm);clear hx hy hf
 go_in
 go_wp2_with fail;refine(lC xs ys _ _ _ _ _ _ _ HX.out HY.out).mono ?_;rintro e w1 ⟨rfl,hb⟩;have HB:=aa hb;clear hb;go_wp2_with fail;refine(rr _ _).mono ?_;rintro e w' ⟨rfl,rfl⟩;have HB1:Hid (Below w.heap.size w (w1.alloc (.cells #[.int .i64 i] 3))):=HB.out.alloc HB.out.size _;go_wp2_with fail;refine(oJ xs A n c (fX xs ys) 186 #[.pointer (some ⟨w1.heap.size,0,none⟩)] (dl i) _ (HX.out.below HB1.out) hn HT.out uL ?_).mono ?_
 .intro z hz w2 hb2;have hz':=HF.out.at_ hz;refine(rs z i w1.heap.size w2 ?_ (by omega) (by omega)).mono ?_
  .rw[hb2.cell (by simp)];simp[World.cell?_alloc_new]
  .rintro e w3 ⟨rfl,rfl⟩;exact⟨rfl,ai _ _⟩
 .rintro e w3 ⟨A3,c3,rfl,ho,hb3⟩;have HO:=aa ho;have HB3:=aa hb3;clear ho hb3;go_wp2;go_ret;exact dL.intro (oL xs ys (dl i)) rfl (dk HO.out HB1.out.size) (HB1.out.trans (HB3.out.mono HB1.out.size))
theorem n8(args:Array Value)(w:World):(callFunc 174 args).run Tryz.prog w= .ok (.enter 174 args) w:=eH Tryz.func174 (by kernel_rfl) (by kernel_rfl) args w
def nF(m:Nat):Prop:=∀(t:ag) (k:Nat) (s:ByteArray) (x:Int) (A:Option Addr) (n c deep rb:Nat) (w:World),t.sz<=m->cf w t k s x A n c->t.short 9223372036854775806->deep<=41->bI w->
 w.cell? ⟨rb,0,none⟩=some (.func (.func 174) #[] #[.pointer (some ⟨rb,0,none⟩)])->
 Calls Tryz.prog 174 #[.agg #[.int .u8 k,.string s,.int .i64 x,.slice A n c],.int .i64 deep,.pointer (some ⟨rb,0,none⟩)] w (ak (cE deep t) w)
theorem rT(k i d:Nat)(t:ag)(ts:List ag):bV k i d (t::ts)=(ed k t.kind i && cE d t && bV k (i+1) d ts):=by simp only[bV]
theorem rU{k d i:Nat}{ks:List ag}{t:ag}(h:bV k 0 d ks=bV k i d (ks.drop i))(ht:ks[i]? =some t):bV k 0 d ks=(ed k t.kind i && cE d t && bV k (i+1) d (ks.drop (i+1))):=by have hi:i<ks.length:=(bs.1 ht).1;rw[h,List.drop_eq_getElem_cons hi];rw[br hi] at ht;injection ht with ht;rw[ht,rT]
theorem sD{ks:List ag}{i:Nat}{t:ag}(h:ks[i]? =some t):t.sz<=ao ks:=by
 induction ks generalizing i with
 |nil=>simp at h
 |cons u us ih=>
  cases i with
  |zero=>simp at h;subst h;simp[ao]
  |succ i=>have:=ih (i:=i) (by simpa using h);simp[ao];omega
def jK(ks:List ag):Bool:=match ks with| .node 22 _ _ _::_=>true| .node _ _ _ (.node 22 _ _ _::_) ::_=>true|_=>false
theorem km{w:World}{x y:Value}{T:TypeId}:(w.alloc (.cells #[x,y] T)).cell? ⟨w.heap.size,0,none⟩=some x/\(w.alloc (.cells #[x,y] T)).cell? ⟨w.heap.size,1,none⟩=some y:=by refine⟨?_,?_⟩ <;> (rw[World.cell?_alloc_new];rfl)
theorem zW{d k:Nat}{s:ar}{x:Int}{ks:List ag}(h:cp k=none):cE d (.node k s x ks)=false:=by simp[cE,h]
theorem rY{d k:Nat}{s:ar}{x:Int}{ks:List ag}{l:List Nat}{all:Bool}(h:cp k=some (l,all)):cE d (.node k s x ks)=(decide (d<=40) && dx k s x && (all || ks.length == l.length) && bV k 0 (d+1) ks && (k != 7 || jK ks)):=by simp only[cE,h];rfl
theorem zU{d:Nat}{ks:List ag}(h:bV 7 0 d ks=true)(hl:0<ks.length):∃t0 ts,ks=t0::ts/\((t0.kind=22/\jK ks=true)∨(t0.kind=26/\∃u us,t0.kids=u::us/\jK ks=(u.kind == 22))):=by
 match ks,hl with
 |t0::ts,_=>
  rw[rT] at h;simp only[Bool.and_eq_true] at h;obtain⟨⟨h1,h2⟩,_⟩:=h;refine⟨t0,ts,rfl,?_⟩;obtain⟨k0,s0,x0,ks0⟩:=t0;have hk:k0=22∨k0=26:=(by simpa[ed,cp,fP,ag.kind] using h1);rcases hk with rfl|rfl
  .exact .inl ⟨rfl,rfl⟩
  .right;refine⟨rfl,?_⟩;have hr:cp 26=some ([200,200],false):=rfl;rw[rY hr] at h2;have h3:ks0.length=2:=(by revert h2;simp;intros;assumption);match ks0,h3 with
   |u::us,_=>
    refine⟨u,us,rfl,?_⟩;obtain⟨ku,su,xu,ksu⟩:=u;by_cases hu:ku=22
    .subst hu;rfl
    .have:(ag.kind (.node ku su xu ksu) == 22)=false:=(by simp[ag.kind,hu]);rw[this];unfold jK;split
     .rename_i heq;injection heq with h1 _;injection h1 with h1;omega
     .rename_i heq;injection heq with h1 _;injection h1 with _ _ _ h1;injection h1 with h1 _;injection h1 with h1;omega
     .rfl
theorem zX(m:Nat)(ih:Hid (nF m)):nF (m+1):=by
 intro t k s x A n c deep rb w hsz hN hsh hd hE hrb;obtain⟨ks,rfl,hk255,hsm,hx,hK⟩:=hN;have hs:s.size<=9223372036854775806:=(by simp only[ag.short] at hsh;exact hsh.1);have HSZ:Hid (ao ks<=m):=(by show _<=_;simp only[ag.sz] at hsz;omega);have HSH:Hid (bi 9223372036854775806 ks):=(by simp only[ag.short] at hsh;exact hsh.2);have hb0:Below w.heap.size w (w.alloc (.cells #[.int .u8 k,.string s,.int .i64 x,.slice A n c] 44)):=(ai _ _).alloc (ah _) _;have HB0:=aa hb0;have HE:=aa (hE.below hb0 (ah _));have HK:=aa (hK.below hb0);have HRB:=aa (ac hb0 hrb);have hlrb:=bK hrb;simp only at hlrb;clear hsz hsh hb0 hE hrb hx hk255;cases hr:cp k with
 |none=>
  have HR:=aa hr;have HF:=aa (zW (d:=deep) (s:=bl s) (x:=x) (ks:=ks) hr);clear hr
  go_in
  go_wp2_with fail;refine(gX k _).mono ?_;rintro e w1 ⟨hb,hp⟩;rw[HR.out] at hp;simp only at hp;subst hp;have HB:Hid (Below w.heap.size w w1):=HB0.out.trans (hb.mono HB0.out.size);clear hb;go_wp2_with fail;go_ret;exact ak.intro HF.out.symm (HB.out.alloc HB.out.size _)
 |some r=>
  obtain⟨l,all⟩:=r;have HR:=aa hr;have HF:=aa (rY (d:=deep) (s:=bl s) (x:=x) (ks:=ks) hr);clear hr;by_cases hdp:40<deep
  .have HV:Hid (cE deep (.node k (bl s) x ks)=false):=by show _=_;rw[HF.out];simp[Nat.not_le.2 hdp]
   go_in
   go_wp2_with fail;refine(gX k _).mono ?_;rintro e w1 ⟨hb,hp⟩;rw[HR.out] at hp;simp only at hp;obtain⟨v,rfl,A1,n1,c1,rfl,hk1⟩:=hp;have HB:Hid (Below w.heap.size w w1):=HB0.out.trans (hb.mono HB0.out.size);clear hb hk1;go_wp2_with fail;go_ret;exact ak.intro HV.out.symm (HB.out.alloc HB.out.size _)
  .have hd40:deep<=40:=(by omega);clear hdp;cases hsy:dx k (bl s) x with
   |false=>
    have HSY:=aa hsy;have HV:Hid (cE deep (.node k (bl s) x ks)=false):=(by show _=_;rw[HF.out,hsy];simp);clear hsy
    go_in
    go_wp2_with fail;refine(gX k _).mono ?_;rintro e w1 ⟨hb,hp⟩;rw[HR.out] at hp;simp only at hp;obtain⟨v,rfl,A1,n1,c1,rfl,hk1⟩:=hp;have HB:Hid (Below w.heap.size w w1):=HB0.out.trans (hb.mono HB0.out.size);have HE1:=aa ((HE.out.below hb (ah _)).below ((ai _ _).alloc (ah _) (.cells #[.slice A1 n1 c1,.bool all] 238)) (ah _));have hc0:=(hb.cell (p:=⟨w.heap.size,0,none⟩) (by simp)).trans ct.1;have hc1:=(hb.cell (p:=⟨w.heap.size,1,none⟩) (by simp)).trans ct.2.1;have hc2:=(hb.cell (p:=⟨w.heap.size,2,none⟩) (by simp)).trans ct.2.2.1;have hc3:=(hb.cell (p:=⟨w.heap.size,3,none⟩) (by simp)).trans ct.2.2.2;have hlt:w.heap.size<w1.heap.size:=(by have:=hb.size;simp at this;omega);clear hb hk1;go_wp2_with fail;refine(mH k s x A _ c _ HE1.out hs).mono ?_;rintro e w2 ⟨rfl,hb⟩;rw[HSY.out];have HB2:Hid (Below w.heap.size w w2):=(HB.out.alloc HB.out.size _).trans (hb.mono (by simp;have:=HB.out.size;omega));clear hb;go_wp2_with fail;go_ret;exact ak.intro HV.out.symm HB2.out
   |true=>
    have HSY:=aa hsy;have hnk:n=ks.length:=HK.out.1;by_cases hcount:all=false/\n≠l.length
    .obtain⟨rfl,hne⟩:=hcount;have HV:Hid (cE deep (.node k (bl s) x ks)=false):=by show _=_;rw[HF.out];have:(ks.length == l.length)=false:=(by simp;omega);simp[this]
     have hne':((n:Int) != l.length)=true:=(by simp;omega);clear hsy hne hnk
     go_in
     go_wp2_with fail;refine(gX k _).mono ?_;rintro e w1 ⟨hb,hp⟩;rw[HR.out] at hp;simp only at hp;obtain⟨v,rfl,A1,n1,c1,rfl,hk1⟩:=hp;have HB:Hid (Below w.heap.size w w1):=HB0.out.trans (hb.mono HB0.out.size);have HE1:=aa ((HE.out.below hb (ah _)).below ((ai _ _).alloc (ah _) (.cells #[.slice A1 n1 c1,.bool false] 238)) (ah _));have hc0:=(hb.cell (p:=⟨w.heap.size,0,none⟩) (by simp)).trans ct.1;have hc1:=(hb.cell (p:=⟨w.heap.size,1,none⟩) (by simp)).trans ct.2.1;have hc2:=(hb.cell (p:=⟨w.heap.size,2,none⟩) (by simp)).trans ct.2.2.1;have hc3:=(hb.cell (p:=⟨w.heap.size,3,none⟩) (by simp)).trans ct.2.2.2;have hlt:w.heap.size<w1.heap.size:=(by have:=hb.size;simp at this;omega);have HN1:Hid (n1=l.length):=hk1.1;have HKr:=aa (HK.out.below hb);have HRr:=aa (ac hb HRB.out);clear hb hk1;go_wp2_with fail;refine(mH k s x A _ c _ HE1.out hs).mono ?_;rintro e w2 ⟨rfl,hb⟩;rw[HSY.out];have HB2:Hid (Below w.heap.size w w2):=(HB.out.alloc HB.out.size _).trans (hb.mono (by simp;have:=HB.out.size;omega));have hbw:Below w1.heap.size w1 w2:=((ai _ _).alloc (ah _) _).trans (hb.mono (by simp));have hd0:=(hbw.cell (p:=⟨w.heap.size,0,none⟩) hlt).trans hc0;have hd1:=(hbw.cell (p:=⟨w.heap.size,1,none⟩) hlt).trans hc1;have hd2:=(hbw.cell (p:=⟨w.heap.size,2,none⟩) hlt).trans hc2;have hd3:=(hbw.cell (p:=⟨w.heap.size,3,none⟩) hlt).trans hc3;have hr0:=(hb.cell (p:=⟨w1.heap.size,0,none⟩) (by simp)).trans (km (w:=w1)).1;have hr1:=(hb.cell (p:=⟨w1.heap.size,1,none⟩) (by simp)).trans (km (w:=w1)).2;have HE2:=aa (HE1.out.below hb (ah _));have HK2:=aa (HKr.out.below hbw);have HR2:=aa (ac hbw HRr.out);have hlt2:w.heap.size<w2.heap.size:=(by have:=hbw.size;omega);clear hb hbw hc0 hc1 hc2 hc3 HE1 HKr HRr;obtain rfl:=HN1.out;go_wp2_with fail;go_ret;exact ak.intro HV.out.symm HB2.out
    .have HC:Hid (cE deep (.node k (bl s) x ks)=(bV k 0 (deep+1) ks && (k != 7 || jK ks))):=by
      show _=_;rw[HF.out,hsy];have:(all || ks.length == l.length)=true:=by
       cases all with
       |true=>rfl
       |false=>simp at hcount ⊢;omega
      simp[hd40,this]
     have hall:all=true∨(all=false/\n=l.length):=by cases all<;>simp at hcount ⊢;exact hcount
     clear hsy hcount hnk;rcases hall with rfl|⟨rfl,rfl⟩
     .go_in
      go_wp2_with fail;refine(gX k _).mono ?_;rintro e w1 ⟨hb,hp⟩;rw[HR.out] at hp;simp only at hp;obtain⟨v,rfl,A1,n1,c1,rfl,hk1⟩:=hp;have HB:Hid (Below w.heap.size w w1):=HB0.out.trans (hb.mono HB0.out.size);have HE1:=aa ((HE.out.below hb (ah _)).below ((ai _ _).alloc (ah _) (.cells #[.slice A1 n1 c1,.bool true] 238)) (ah _));have hc0:=(hb.cell (p:=⟨w.heap.size,0,none⟩) (by simp)).trans ct.1;have hc1:=(hb.cell (p:=⟨w.heap.size,1,none⟩) (by simp)).trans ct.2.1;have hc2:=(hb.cell (p:=⟨w.heap.size,2,none⟩) (by simp)).trans ct.2.2.1;have hc3:=(hb.cell (p:=⟨w.heap.size,3,none⟩) (by simp)).trans ct.2.2.2;have hlt:w.heap.size<w1.heap.size:=(by have:=hb.size;simp at this;omega);have HN1:Hid (n1=l.length):=hk1.1;have HKr:=aa (HK.out.below hb);have HRr:=aa (ac hb HRB.out);clear hb hk1;go_wp2_with fail;refine(mH k s x A _ c _ HE1.out hs).mono ?_;rintro e w2 ⟨rfl,hb⟩;rw[HSY.out];have HB2:Hid (Below w.heap.size w w2):=(HB.out.alloc HB.out.size _).trans (hb.mono (by simp;have:=HB.out.size;omega));have hbw:Below w1.heap.size w1 w2:=((ai _ _).alloc (ah _) _).trans (hb.mono (by simp));have hd0:=(hbw.cell (p:=⟨w.heap.size,0,none⟩) hlt).trans hc0;have hd1:=(hbw.cell (p:=⟨w.heap.size,1,none⟩) hlt).trans hc1;have hd2:=(hbw.cell (p:=⟨w.heap.size,2,none⟩) hlt).trans hc2;have hd3:=(hbw.cell (p:=⟨w.heap.size,3,none⟩) hlt).trans hc3;have hr0:=(hb.cell (p:=⟨w1.heap.size,0,none⟩) (by simp)).trans (km (w:=w1)).1;have hr1:=(hb.cell (p:=⟨w1.heap.size,1,none⟩) (by simp)).trans (km (w:=w1)).2;have HE2:=aa (HE1.out.below hb (ah _));have HK2:=aa (HKr.out.below hbw);have HR2:=aa (ac hbw HRr.out);have hlt2:w.heap.size<w2.heap.size:=(by have:=hbw.size;omega);clear hb hbw hc0 hc1 hc2 hc3 HE1 HKr HRr;obtain rfl:=HN1.out;have hnn:n<=9223372036854775807:=(by have h1:=HK.out.2.1;have h2:=HK.out.2.2.1;unfold maxLen at h2;omega);have HNK:Hid (n=ks.length):=HK.out.1;go_wp2_with fail;go_loopw [44] (fun i wr=>∃j:Nat,j<=n/\i= .int .i64 j/\Hid (Below w2.heap.size w2 wr)/\Hid (bI wr)/\Hid (bV k 0 (deep+1) ks=bV k j (deep+1) (ks.drop j))) (fun i _=>n - (intOf i).toNat);case atStart=>exact⟨0,aE _,rfl,ai _ _,HE2.out,rfl⟩
      case round=>
       obtain⟨j,hj,rfl,HBr,HEr,HI⟩:=hrel;have hbr:=HBr.out;have he0:=(hbr.cell (p:=⟨w.heap.size,0,none⟩) hlt2).trans hd0;have he3:=(hbr.cell (p:=⟨w.heap.size,3,none⟩) hlt2).trans hd3;have HKw:=aa (HK2.out.below hbr);have HRw:=aa (ac hbr HR2.out);have hltr:w.heap.size<wr.heap.size:=(by have:=hbr.size;omega);have HBw:Hid (Below w.heap.size w wr):=HB2.out.trans (hbr.mono HB2.out.size);have HSr:Hid (w2.heap.size<=wr.heap.size):=hbr.size;clear hbr;by_cases hlt:j<n
       .obtain⟨b,o,t,rfl,ht,hat⟩:=HKw.out.get hlt;obtain⟨A',c',q0,q1,q2,q3,hnode⟩:=hat.cells;have hqlt:=bK q0;simp only at hqlt;have HND:=aa hnode;have HSZT:Hid (t.sz<=m):=aJ (sD ht) HSZ.out;have HSHT:Hid (t.short 9223372036854775806):=bi.get HSH.out ht;have HST:=aa (rU HI.out ht);clear ht hat hnode;cases hf:ed k t.kind j with
        |false=>have HFF:=aa hf;have HV:Hid (cE deep (.node k (bl s) x ks)=false):=(by show _=_;rw[HC.out,HST.out,hf];simp);clear hf;go_wp2_with fail;refine(mE k t.kind j _).mono ?_;rintro e w3 ⟨rfl,hb⟩;rw[HFF.out];have HB3:Hid (Below w.heap.size w w3):=(HBw.out.alloc HBw.out.size _).trans (hb.mono (by simp;omega));clear hb;go_wp2_with fail;go_ret;exact ak.intro HV.out.symm HB3.out
        |true=>
         have HFF:=aa hf;have HST2:Hid (bV k 0 (deep+1) ks=(cE (deep+1) t && bV k (j+1) (deep+1) (ks.drop (j+1)))):=(by show _=_;rw[HST.out,hf];simp);clear hf;go_wp2_with fail;refine(mE k t.kind j _).mono ?_;rintro e w3 ⟨rfl,hb⟩;rw[HFF.out];have hb3:Below wr.heap.size wr w3:=((ai _ _).alloc (ah _) _).trans (hb.mono (by simp));have HB3:=aa hb3;have s0:=(hb.cell (p:=⟨wr.heap.size,0,none⟩) (by simp)).trans ct.1;have s1:=(hb.cell (p:=⟨wr.heap.size,1,none⟩) (by simp)).trans ct.2.1;have s2:=(hb.cell (p:=⟨wr.heap.size,2,none⟩) (by simp)).trans ct.2.2.1;have s3:=(hb.cell (p:=⟨wr.heap.size,3,none⟩) (by simp)).trans ct.2.2.2;have srb:=ac hb3 HRw.out;have HSRB:=aa srb;have HND3:=aa (HND.out.below hb3);have HE3:=aa (HEr.out.below hb3 (ah _));have hcf:=n8;clear hb hb3;go_wp2_with fail;refine(ih.out t t.kind (sb t.text) t.num A' t.kids.length c' (deep+1) rb _ HSZT.out HND3.out HSHT.out (by omega) HE3.out HSRB.out).mono ?_;rintro e w4 ⟨rfl,hb4⟩;have HB4:Hid (Below wr.heap.size wr w4):=HB3.out.trans (hb4.mono HB3.out.size);have HE4:=aa (HE3.out.below hb4 (ah _));clear hb4;cases hrt:cE (deep+1) t with
         |false=>have HV:Hid (cE deep (.node k (bl s) x ks)=false):=(by show _=_;rw[HC.out,HST2.out,hrt];simp);clear hrt;go_wp2_with fail;go_ret;exact ak.intro HV.out.symm (HBw.out.trans (HB4.out.mono HBw.out.size))
         |true=>
          have HST3:Hid (bV k 0 (deep+1) ks=bV k (j+1) (deep+1) (ks.drop (j+1))):=(by show _=_;rw[HST2.out,hrt];simp);clear hrt;go_wp2_with fail;go_roundw;case rel=>exact⟨j+1,by omega,by go_num,HBr.out.trans (HB4.out.mono HSr.out),HE4.out,HST3.out⟩
          case measure=>simp[intOf];omega
       .have HV:Hid (cE deep (.node k (bl s) x ks)=(k != 7 || jK ks)):=by show _=_;rw[HC.out,HI.out];rw[List.drop_eq_nil_of_le (by have:=HNK.out;omega)];simp[bV]
        have HRL:Hid (bV k 0 (deep+1) ks=true):=by show _=_;rw[HI.out,List.drop_eq_nil_of_le (by have:=HNK.out;omega)];simp[bV]
        by_cases hk7:k=7
        .exfalso;have:=HR.out;rw[hk7] at this;simp[cp] at this
        .have e7:((k:Int) != 7)=true:=(by simp;omega);have HV2:Hid (cE deep (.node k (bl s) x ks)=true):=(by show _=_;rw[HV.out];simp[hk7]);clear hk7;go_wp2_with fail;go_ret;exact ak.intro HV2.out.symm HBw.out
     .go_in
      go_wp2_with fail;refine(gX k _).mono ?_;rintro e w1 ⟨hb,hp⟩;rw[HR.out] at hp;simp only at hp;obtain⟨v,rfl,A1,n1,c1,rfl,hk1⟩:=hp;have HB:Hid (Below w.heap.size w w1):=HB0.out.trans (hb.mono HB0.out.size);have HE1:=aa ((HE.out.below hb (ah _)).below ((ai _ _).alloc (ah _) (.cells #[.slice A1 n1 c1,.bool false] 238)) (ah _));have hc0:=(hb.cell (p:=⟨w.heap.size,0,none⟩) (by simp)).trans ct.1;have hc1:=(hb.cell (p:=⟨w.heap.size,1,none⟩) (by simp)).trans ct.2.1;have hc2:=(hb.cell (p:=⟨w.heap.size,2,none⟩) (by simp)).trans ct.2.2.1;have hc3:=(hb.cell (p:=⟨w.heap.size,3,none⟩) (by simp)).trans ct.2.2.2;have hlt:w.heap.size<w1.heap.size:=(by have:=hb.size;simp at this;omega);have HN1:Hid (n1=l.length):=hk1.1;have HKr:=aa (HK.out.below hb);have HRr:=aa (ac hb HRB.out);clear hb hk1;go_wp2_with fail;refine(mH k s x A _ c _ HE1.out hs).mono ?_;rintro e w2 ⟨rfl,hb⟩;rw[HSY.out];have HB2:Hid (Below w.heap.size w w2):=(HB.out.alloc HB.out.size _).trans (hb.mono (by simp;have:=HB.out.size;omega));have hbw:Below w1.heap.size w1 w2:=((ai _ _).alloc (ah _) _).trans (hb.mono (by simp));have hd0:=(hbw.cell (p:=⟨w.heap.size,0,none⟩) hlt).trans hc0;have hd1:=(hbw.cell (p:=⟨w.heap.size,1,none⟩) hlt).trans hc1;have hd2:=(hbw.cell (p:=⟨w.heap.size,2,none⟩) hlt).trans hc2;have hd3:=(hbw.cell (p:=⟨w.heap.size,3,none⟩) hlt).trans hc3;have hr0:=(hb.cell (p:=⟨w1.heap.size,0,none⟩) (by simp)).trans (km (w:=w1)).1;have hr1:=(hb.cell (p:=⟨w1.heap.size,1,none⟩) (by simp)).trans (km (w:=w1)).2;have HE2:=aa (HE1.out.below hb (ah _));have HK2:=aa (HKr.out.below hbw);have HR2:=aa (ac hbw HRr.out);have hlt2:w.heap.size<w2.heap.size:=(by have:=hbw.size;omega);clear hb hbw hc0 hc1 hc2 hc3 HE1 HKr HRr;obtain rfl:=HN1.out;have hnn:l.length<=9223372036854775807:=(by have h1:=HK.out.2.1;have h2:=HK.out.2.2.1;unfold maxLen at h2;omega);have HNK:Hid (l.length=ks.length):=HK.out.1;go_wp2_with fail;go_loopw [44] (fun i wr=>∃j:Nat,j<=l.length/\i= .int .i64 j/\Hid (Below w2.heap.size w2 wr)/\Hid (bI wr)/\Hid (bV k 0 (deep+1) ks=bV k j (deep+1) (ks.drop j))) (fun i _=>l.length - (intOf i).toNat);case atStart=>exact⟨0,aE _,rfl,ai _ _,HE2.out,rfl⟩
      case round=>
       obtain⟨j,hj,rfl,HBr,HEr,HI⟩:=hrel;have hbr:=HBr.out;have he0:=(hbr.cell (p:=⟨w.heap.size,0,none⟩) hlt2).trans hd0;have he3:=(hbr.cell (p:=⟨w.heap.size,3,none⟩) hlt2).trans hd3;have HKw:=aa (HK2.out.below hbr);have HRw:=aa (ac hbr HR2.out);have hltr:w.heap.size<wr.heap.size:=(by have:=hbr.size;omega);have HBw:Hid (Below w.heap.size w wr):=HB2.out.trans (hbr.mono HB2.out.size);have HSr:Hid (w2.heap.size<=wr.heap.size):=hbr.size;clear hbr;by_cases hlt:j<l.length
       .obtain⟨b,o,t,rfl,ht,hat⟩:=HKw.out.get hlt;obtain⟨A',c',q0,q1,q2,q3,hnode⟩:=hat.cells;have hqlt:=bK q0;simp only at hqlt;have HND:=aa hnode;have HSZT:Hid (t.sz<=m):=aJ (sD ht) HSZ.out;have HSHT:Hid (t.short 9223372036854775806):=bi.get HSH.out ht;have HST:=aa (rU HI.out ht);clear ht hat hnode;cases hf:ed k t.kind j with
        |false=>have HFF:=aa hf;have HV:Hid (cE deep (.node k (bl s) x ks)=false):=(by show _=_;rw[HC.out,HST.out,hf];simp);clear hf;go_wp2_with fail;refine(mE k t.kind j _).mono ?_;rintro e w3 ⟨rfl,hb⟩;rw[HFF.out];have HB3:Hid (Below w.heap.size w w3):=(HBw.out.alloc HBw.out.size _).trans (hb.mono (by simp;omega));clear hb;go_wp2_with fail;go_ret;exact ak.intro HV.out.symm HB3.out
        |true=>
         have HFF:=aa hf;have HST2:Hid (bV k 0 (deep+1) ks=(cE (deep+1) t && bV k (j+1) (deep+1) (ks.drop (j+1)))):=(by show _=_;rw[HST.out,hf];simp);clear hf;go_wp2_with fail;refine(mE k t.kind j _).mono ?_;rintro e w3 ⟨rfl,hb⟩;rw[HFF.out];have hb3:Below wr.heap.size wr w3:=((ai _ _).alloc (ah _) _).trans (hb.mono (by simp));have HB3:=aa hb3;have s0:=(hb.cell (p:=⟨wr.heap.size,0,none⟩) (by simp)).trans ct.1;have s1:=(hb.cell (p:=⟨wr.heap.size,1,none⟩) (by simp)).trans ct.2.1;have s2:=(hb.cell (p:=⟨wr.heap.size,2,none⟩) (by simp)).trans ct.2.2.1;have s3:=(hb.cell (p:=⟨wr.heap.size,3,none⟩) (by simp)).trans ct.2.2.2;have srb:=ac hb3 HRw.out;have HSRB:=aa srb;have HND3:=aa (HND.out.below hb3);have HE3:=aa (HEr.out.below hb3 (ah _));have hcf:=n8;clear hb hb3;go_wp2_with fail;refine(ih.out t t.kind (sb t.text) t.num A' t.kids.length c' (deep+1) rb _ HSZT.out HND3.out HSHT.out (by omega) HE3.out HSRB.out).mono ?_;rintro e w4 ⟨rfl,hb4⟩;have HB4:Hid (Below wr.heap.size wr w4):=HB3.out.trans (hb4.mono HB3.out.size);have HE4:=aa (HE3.out.below hb4 (ah _));clear hb4;cases hrt:cE (deep+1) t with
         |false=>have HV:Hid (cE deep (.node k (bl s) x ks)=false):=(by show _=_;rw[HC.out,HST2.out,hrt];simp);clear hrt;go_wp2_with fail;go_ret;exact ak.intro HV.out.symm (HBw.out.trans (HB4.out.mono HBw.out.size))
         |true=>
          have HST3:Hid (bV k 0 (deep+1) ks=bV k (j+1) (deep+1) (ks.drop (j+1))):=(by show _=_;rw[HST2.out,hrt];simp);clear hrt;go_wp2_with fail;go_roundw;case rel=>exact⟨j+1,by omega,by go_num,HBr.out.trans (HB4.out.mono HSr.out),HE4.out,HST3.out⟩
          case measure=>simp[intOf];omega
       .have HV:Hid (cE deep (.node k (bl s) x ks)=(k != 7 || jK ks)):=by show _=_;rw[HC.out,HI.out];rw[List.drop_eq_nil_of_le (by have:=HNK.out;omega)];simp[bV]
        have HRL:Hid (bV k 0 (deep+1) ks=true):=by show _=_;rw[HI.out,List.drop_eq_nil_of_le (by have:=HNK.out;omega)];simp[bV]
        by_cases hk7:k=7
        .subst hk7;have hlen:0<l.length:=(by have:=HR.out;simp[cp] at this;rw[<-this];simp);obtain⟨t0,ts,rfl,hcase⟩:=zU HRL.out (by have:=HNK.out;omega);obtain⟨b,o,t,rfl,ht,hat⟩:=HKw.out.get (i:=0) hlen;simp at ht;subst ht;obtain⟨A',c',q0,q1,q2,q3,ks0,hnode,_,_,_,hk0⟩:=hat.cells;have hkk:t0.kids=ks0:=(by rw[hnode];rfl);simp only[Nat.zero_mul,Nat.add_zero] at q0 q3;rcases hcase with ⟨hk22,hso⟩|⟨hk26,u,us,hku,hso⟩
         .have HV2:Hid (cE deep (.node 7 (bl s) x (t0::ts))=true):=(by show _=_;rw[HV.out,hso];rfl);rw[hk22] at q0;clear hat hnode hk0 hso q1 q2 q3 hkk hk22;go_wp2_with fail;go_ret;exact ak.intro HV2.out.symm HBw.out
         .have HV2:Hid (cE deep (.node 7 (bl s) x (t0::ts))=(u.kind == 22)):=(by show _=_;rw[HV.out,hso];rfl);rw[hk26] at q0;obtain⟨b2,o2,u',rfl,hu',hat2⟩:=hk0.get (i:=0) (by rw[hku];simp);rw[<-hkk,hku] at hu';simp at hu';subst hu';obtain⟨A2,c2,p0,_⟩:=hat2.cells;simp only[Nat.zero_mul,Nat.add_zero] at p0;have hlk:(t0.kids.length:Int)=us.length+1:=(by rw[hku];simp);rw[hku] at q3;clear hat hat2 hnode hk0 hso q1 q2 hkk hk26;go_wp2_with fail;go_ret;refine ak.intro ?_ HBw.out;rw[HV2.out,Bool.eq_iff_iff];simp;omega
        .have e7:((k:Int) != 7)=true:=(by simp;omega);have HV2:Hid (cE deep (.node k (bl s) x ks)=true):=(by show _=_;rw[HV.out];simp[hk7]);clear hk7;go_wp2_with fail;go_ret;exact ak.intro HV2.out.symm HBw.out
theorem rZ:∀m,nF m
 |0=>by intro t k s x A n c deep rb w hsz;obtain⟨k0,s0,x0,ks0⟩:=t;simp[ag.sz] at hsz
 |m+1=>zX m (aa (rZ m))
theorem yU(t:ag)(k:Nat)(s:ByteArray)(x:Int)(A:Option Addr)(n c:Nat)(w:World)(hN:cf w t k s x A n c)(hsh:t.short 9223372036854775806)(hE:bI w):Calls Tryz.prog 119 #[.agg #[.int .u8 k,.string s,.int .i64 x,.slice A n c]] w (ak (pi t) w):=by
 have HN:=aa hN;have HE:=aa hE;have HSH:=aa hsh;have hmf:=lH;have hcf:=n8;clear hN hE hsh
 go_in
 go_wp2_with fail;have hb0:Below w.heap.size w ((w.alloc (.cells #[.int .u8 k,.string s,.int .i64 x,.slice A n c] 44)).alloc (.cells #[.func (.func 174) #[] #[.pointer (some ⟨w.heap.size+1,0,none⟩)]] 235)):=((ai _ _).alloc (ah _) _).alloc (by simp) _;refine(rZ t.sz t k s x A n c 1 (w.heap.size+1) _ (ah _) (HN.out.below hb0) HSH.out (by omega) (HE.out.below hb0 (ah _)) (by go_simp)).mono ?_;rintro e w1 ⟨rfl,hb⟩;have HB:Hid (Below w.heap.size w w1):=hb0.trans (hb.mono hb0.size);clear hb hb0;go_wp2_with fail;go_ret;exact ak.intro rfl HB.out
end Go.Proofs.YtlkmefhogabgdaaGreatDoor
