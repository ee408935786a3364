/- Part 18 of the proof. -/
import Derived.Test.YtckbdkgcoilmpaaGreatDoorMnP
import Derived.Test.YtckbdkgcoilmpaaGreatDoorMnQ
namespace Go.Proofs.YtckbdkgcoilmpaaGreatDoor
open Go.RowKit
set_option linter.all false
set_option maxHeartbeats 40000000
set_option maxRecDepth 100000
abbrev Z8:Array Value:=#[.int .u8 0,.slice none 0 0,.int .i64 0,.int .i64 0,.string ⟨#[]⟩,.string ⟨#[]⟩,.slice none 0 0,.slice none 0 0]
abbrev nI:Array Value:=#[.int .u8 0,.slice none 0 0,.int .i64 0,.int .i64 0,.string ⟨#[]⟩,.string ⟨#[]⟩,.slice none 0 0,.slice none 0 0,.slice none 0 0,.slice none 0 0,.bool false,.bool false]
structure aN (B:Nat) (x0 x1 x2 x3 x4 x5 x6 x7 y0 y1 y2 y3 y4 y5 y6 y7:Value) (w:World):Prop where
 bx:w.heap[B]? =some (.cells #[x0,x1,x2,x3,x4,x5,x6,x7] 29 (0,0))
 bz:w.heap[B+1]? =some (.cells #[y0,y1,y2,y3,y4,y5,y6,y7] 29 (0,0))
 ra:w.heap[B+1+1]? =some (.cells Z8 29 (0,0))
 rb:w.heap[B+1+1+1]? =some (.cells Z8 29 (0,0))
theorem aN.next{B:Nat}{x0 x1 x2 x3 x4 x5 x6 x7 y0 y1 y2 y3 y4 y5 y6 y7:Value}{w w':World}(h:aN B x0 x1 x2 x3 x4 x5 x6 x7 y0 y1 y2 y3 y4 y5 y6 y7 w)(hb:Below w.heap.size w w'):aN B x0 x1 x2 x3 x4 x5 x6 x7 y0 y1 y2 y3 y4 y5 y6 y7 w':=by obtain⟨h1,h2,h3,h4⟩:=h;have l:∀{g:Nat} {o:Obj},w.heap[g]? =some o->w'.heap[g]? =some o:=fun e=>(hb.block _ (aK.1 e).1).trans e;exact⟨l h1,l h2,l h3,l h4⟩
theorem aN.size{B:Nat}{x0 x1 x2 x3 x4 x5 x6 x7 y0 y1 y2 y3 y4 y5 y6 y7:Value}{w:World}(h:aN B x0 x1 x2 x3 x4 x5 x6 x7 y0 y1 y2 y3 y4 y5 y6 y7 w):B+4<=w.heap.size:=by have:=(aK.1 h.rb).1;omega
def au(w:World)(g:Nat):Prop:=w.heap[g]? =some (.cells Z8 29 (0,0))
def bF(w:World)(g:Nat):Prop:=w.heap[g]? =some (.cells nI 71 (0,0))
theorem au.next{w w':World}{g:Nat}(h:au w g)(hb:Below w.heap.size w w'):au w' g:=(hb.block _ (aK.1 h).1).trans h
theorem bF.next{w w':World}{g:Nat}(h:bF w g)(hb:Below w.heap.size w w'):bF w' g:=(hb.block _ (aK.1 h).1).trans h
theorem au.lt{w:World}{g:Nat}(h:au w g):g<w.heap.size:=(aK.1 h).1
theorem bF.lt{w:World}{g:Nat}(h:bF w g):g<w.heap.size:=(aK.1 h).1
theorem ba{X W:World}(h:Below X.heap.size X W)(o:Obj):Below X.heap.size X (W.alloc o):=h.alloc h.size o
theorem ki{X W:World}(h:Below X.heap.size X W)(n:Nat):Below X.heap.size X (W.drewN n):=bS h n
theorem kj{X W:World}(h:Below X.heap.size X W):Below X.heap.size X W.drew:=h.drew
theorem aN.alloc{B:Nat}{x0 x1 x2 x3 x4 x5 x6 x7 y0 y1 y2 y3 y4 y5 y6 y7:Value}{w:World}{o:Obj}(h:aN B x0 x1 x2 x3 x4 x5 x6 x7 y0 y1 y2 y3 y4 y5 y6 y7 w):aN B x0 x1 x2 x3 x4 x5 x6 x7 y0 y1 y2 y3 y4 y5 y6 y7 (w.alloc o):=h.next (ba (ai _ _) o)
theorem aN.drewN{B:Nat}{x0 x1 x2 x3 x4 x5 x6 x7 y0 y1 y2 y3 y4 y5 y6 y7:Value}{w:World}{n:Nat}(h:aN B x0 x1 x2 x3 x4 x5 x6 x7 y0 y1 y2 y3 y4 y5 y6 y7 w):aN B x0 x1 x2 x3 x4 x5 x6 x7 y0 y1 y2 y3 y4 y5 y6 y7 (w.drewN n):=h.next (ki (ai _ _) n)
theorem aN.drew{B:Nat}{x0 x1 x2 x3 x4 x5 x6 x7 y0 y1 y2 y3 y4 y5 y6 y7:Value}{w:World}(h:aN B x0 x1 x2 x3 x4 x5 x6 x7 y0 y1 y2 y3 y4 y5 y6 y7 w):aN B x0 x1 x2 x3 x4 x5 x6 x7 y0 y1 y2 y3 y4 y5 y6 y7 w.drew:=h.next (kj (ai _ _))
theorem aN.set{B:Nat}{x0 x1 x2 x3 x4 x5 x6 x7 y0 y1 y2 y3 y4 y5 y6 y7:Value}{w:World}{p:Addr}{u:Value}(h:aN B x0 x1 x2 x3 x4 x5 x6 x7 y0 y1 y2 y3 y4 y5 y6 y7 w)(hp:B+4<=p.block):aN B x0 x1 x2 x3 x4 x5 x6 x7 y0 y1 y2 y3 y4 y5 y6 y7 (w.setCell p u):=by obtain⟨h1,h2,h3,h4⟩:=h;refine⟨?_,?_,?_,?_⟩ <;>rw[aY _ _ _ _ (by omega)] <;>assumption
theorem bF.alloc{w:World}{g:Nat}{o:Obj}(h:bF w g):bF (w.alloc o) g:=h.next (ba (ai _ _) o)
theorem bF.drewN{w:World}{g n:Nat}(h:bF w g):bF (w.drewN n) g:=h.next (ki (ai _ _) n)
theorem bF.drew{w:World}{g:Nat}(h:bF w g):bF w.drew g:=h.next (kj (ai _ _))
theorem bF.made{w:World}:bF (w.alloc (.cells nI 71)) w.heap.size:=heap_alloc_new _ _
theorem bF.made2{w:World}{o:Obj}:bF ((w.alloc o).alloc (.cells nI 71)) (w.heap.size+1):=aQ (by simp)
theorem au.alloc{w:World}{g:Nat}{o:Obj}(h:au w g):au (w.alloc o) g:=h.next (ba (ai _ _) o)
theorem au.drewN{w:World}{g n:Nat}(h:au w g):au (w.drewN n) g:=h.next (ki (ai _ _) n)
theorem au.drew{w:World}{g:Nat}(h:au w g):au w.drew g:=h.next (kj (ai _ _))
theorem au.made{w:World}:au (w.alloc (.cells Z8 29)) w.heap.size:=heap_alloc_new _ _
theorem au.made2{w:World}{o:Obj}:au ((w.alloc o).alloc (.cells Z8 29)) (w.heap.size+1):=aQ (by simp)
theorem hZ{B:Nat}{x0 x1 x2 x3 x4 x5 x6 x7 y0 y1 y2 y3 y4 y5 y6 y7:Value}{w:World}(h:aN B x0 x1 x2 x3 x4 x5 x6 x7 y0 y1 y2 y3 y4 y5 y6 y7 w):w.cell? ⟨B,0,none⟩=some x0/\w.cell? ⟨B,1,none⟩=some x1/\w.cell? ⟨B,2,none⟩=some x2/\w.cell? ⟨B,3,none⟩=some x3/\w.cell? ⟨B,4,none⟩=some x4/\w.cell? ⟨B,5,none⟩=some x5/\w.cell? ⟨B,6,none⟩=some x6/\w.cell? ⟨B,7,none⟩=some x7/\w.cell? ⟨B+1,0,none⟩=some y0/\w.cell? ⟨B+1,1,none⟩=some y1/\w.cell? ⟨B+1,2,none⟩=some y2/\w.cell? ⟨B+1,3,none⟩=some y3/\w.cell? ⟨B+1,4,none⟩=some y4/\w.cell? ⟨B+1,5,none⟩=some y5/\w.cell? ⟨B+1,6,none⟩=some y6/\w.cell? ⟨B+1,7,none⟩=some y7:=by obtain⟨⟨c0,c1,c2,c3,c4,c5,c6,c7⟩,⟨d0,d1,d2,d3,d4,d5,d6,d7⟩⟩:bw w B x0 x1 x2 x3 x4 x5 x6 x7/\bw w (B+1) y0 y1 y2 y3 y4 y5 y6 y7:=⟨(aw h.bx).cs,(aw h.bz).cs⟩;exact⟨c0,c1,c2,c3,c4,c5,c6,c7,d0,d1,d2,d3,d4,d5,d6,d7⟩
def dM(w:World)(z:Nat):Prop:=∃(k:Int) (pA:Option Addr) (pn pc:Nat) (i j:Int) (f t:ByteArray) (oA:Option Addr) (on oc:Nat) (nA:Option Addr) (nn nc:Nat) (fr:Nat×Nat),
 w.heap[z]? =some (.cells #[.int .u8 k,.slice pA pn pc,.int .i64 i,.int .i64 j,.string f,.string t,.slice oA on oc,.slice nA nn nc] 29 fr)
theorem dM.no_tree{w:World}{z o:Nat}{k:Int}{s:ByteArray}(h:dM w z)(h0:w.cell? ⟨z,o,none⟩=some (.int .u8 k))(h1:w.cell? ⟨z,o+1,none⟩=some (.string s)):False:=by
 obtain⟨k',pA,pn,pc,i,j,f,t,oA,on,oc,nA,nn,nc,fr,hh⟩:=h;have hc:=fun q=>cell_of_row w z q _ _ fr hh;rw[hc] at h0 h1;match o,h0,h1 with
 |0,_,h1=>simp at h1
 |1,h0,_=>simp at h0
 |2,h0,_=>simp at h0
 |3,h0,_=>simp at h0
 |4,h0,_=>simp at h0
 |5,h0,_=>simp at h0
 |6,h0,_=>simp at h0
 |7,h0,_=>simp at h0
 |_+8,h0,_=>simp at h0
mutual
theorem dM.tree {w:World} {z:Nat} (hz:dM w z):∀{t:ag} {b o:Nat},cJ w t b o->cJ (fS w (bf z)) t b o
 | .node k s x ks,b,o,h=>by
  obtain⟨h0,h1,h2,b1,b2,b3,A,c,h3,k2,k3,k4⟩:=h;have hb:b≠z:=fun e=>by subst e;exact hz.no_tree h0 h1
  have hk:∀{p:Nat} {v:Value},w.cell? ⟨b,p,none⟩=some v->(fS w (bf z)).cell? ⟨b,p,none⟩=some v:=fun hc=>fD.2 ⟨fl hb,hc⟩;refine⟨hk h0,hk h1,hk h2,b1,b2,b3,A,c,hk h3,k2,k3,?_⟩;rcases k4 with e|⟨b',o',e,hr⟩
  .exact .inl e
  .exact .inr ⟨b',o',e,dM.row hz hr⟩
theorem dM.row {w:World} {z:Nat} (hz:dM w z):∀{ts:List ag} {b o:Nat},ch w ts b o->ch (fS w (bf z)) ts b o
 |[],_,_,_=>trivial
 |t::ts,b,o,h=>⟨dM.tree hz h.1,dM.row hz h.2⟩
end
theorem dM.kids{w:World}{z:Nat}(hz:dM w z){ks:List ag}{A:Option Addr}{n c:Nat}(h:ce w ks A n c):cq w (bf z) ks A n c:=by obtain⟨h1,h2,h3,h4⟩:=h;refine⟨h1,h2,h3,h4.imp id ?_⟩;rintro⟨b,o,e,hr⟩;exact⟨b,o,e,hz.row hr⟩
def mm(w:World)(e:aj)(k:Nat)(pA:Option Addr)(pn pc:Nat)(i j:Int)(f t:ByteArray)(oA:Option Addr)(on oc:Nat)(nA:Option Addr)(nn nc:Nat):Prop:=
 ay w e k pA pn pc i j f t oA on oc nA nn nc/\bT w e.path pA
theorem oM{w w':World}{z:Nat}(hz:dM w z)(hb:aU (bf z) w w'){ps:List Int}{A:Option Addr}{n c:Nat}(h:cc w ps A n c)(hT:bT w ps A):cc w' ps A n c/\bT w' ps A:=by
 rcases hT with rfl|⟨b,o,cs,fr,rfl,hh⟩
 .exact⟨⟨h.1,h.2.1,h.2.2.1,.inl rfl⟩,.inl rfl⟩
 .have hne:b≠z:=fun e=>by subst e;obtain⟨k',pA,pn,pc,i,j,f,t,oA,on,oc,nA,nn,nc,fr',hh'⟩:=hz;rw[hh'] at hh;injection hh with hh;injection hh with _ ht;exact absurd ht (by decide)
  have hblk:=hb.2 b (aK.1 hh).1 (fl hne);refine⟨?_,.inr ⟨b,o,cs,fr,rfl,hblk.trans hh⟩⟩;obtain⟨h1,h2,h3,h4⟩:=h;refine⟨h1,h2,h3,h4.imp id ?_⟩;rintro⟨b',o',e,hr⟩;injection e with e;injection e with e1 e2;subst e1 e2;exact⟨b,o,rfl,fun j z hz=>by rw[World.cell?_of_block hblk];exact hr j z hz⟩
theorem mm.but{w w':World}{z:Nat}(hz:dM w z)(hb:aU (bf z) w w'){e:aj}{k:Nat}{pA:Option Addr}{pn pc:Nat}{i j:Int}{f t:ByteArray}{oA:Option Addr}{on oc:Nat}{nA:Option Addr}{nn nc:Nat}(h:mm w e k pA pn pc i j f t oA on oc nA nn nc):mm w' e k pA pn pc i j f t oA on oc nA nn nc:=by obtain⟨⟨ps,os,ns,rfl,hp,ho,hn⟩,hT⟩:=h;obtain⟨p1,p2⟩:=oM hz hb hp hT;exact⟨⟨ps,os,ns,rfl,p1,(cq.but (hz.kids ho) hb).kids,(cq.but (hz.kids hn) hb).kids⟩,p2⟩
theorem mm.below{w w':World}(hb:Below w.heap.size w w'){e:aj}{k:Nat}{pA:Option Addr}{pn pc:Nat}{i j:Int}{f t:ByteArray}{oA:Option Addr}{on oc:Nat}{nA:Option Addr}{nn nc:Nat}(h:mm w e k pA pn pc i j f t oA on oc nA nn nc):mm w' e k pA pn pc i j f t oA on oc nA nn nc:=⟨h.1.below hb,h.2.below hb⟩
def kX(w:World)(e:aj)(g:Nat):Prop:=∃(k:Nat) (pA:Option Addr) (pn pc:Nat) (i j:Int) (f t:ByteArray) (oA:Option Addr) (on oc:Nat) (nA:Option Addr) (nn nc:Nat),
 w.heap[g]? =some (.cells #[.int .u8 k,.slice pA pn pc,.int .i64 i,.int .i64 j,.string f,.string t,.slice oA on oc,.slice nA nn nc] 29 (0,0))/\mm w e k pA pn pc i j f t oA on oc nA nn nc
theorem au.isBox{w:World}{z:Nat}(h:au w z):dM w z:=⟨0,none,0,0,0,0,⟨#[]⟩,⟨#[]⟩,none,0,0,none,0,0,(0,0),h⟩
theorem df{w:World}{z:Nat}{v0 v1 v2 v3 v4 v5 v6 v7 x0 x1 x2 x3 x4 x5 x6 x7:Value}{T:TypeId}(h:w.heap[z]? =some (.cells #[x0,x1,x2,x3,x4,x5,x6,x7] T (0,0))):(an w z v0 v1 v2 v3 v4 v5 v6 v7).heap[z]? =some (.cells #[v0,v1,v2,v3,v4,v5,v6,v7] T (0,0)):=by simp[an,World.setCell,Array.getElem?_modify,h]
theorem dI{w:World}{z q:Nat}{v0 v1 v2 v3 v4 v5 v6 v7:Value}(hq:q≠z):(an w z v0 v1 v2 v3 v4 v5 v6 v7).heap[q]? =w.heap[q]? :=by simp only[an];repeat rw[aY _ _ _ _ (by exact hq)]
theorem eD{w:World}{z:Nat}{v0 v1 v2 v3 v4 v5 v6 v7:Value}:(an w z v0 v1 v2 v3 v4 v5 v6 v7).heap.size=w.heap.size:=by simp[an]
theorem zn{S:Nat->Bool}{w w':World}{z:Nat}{v0 v1 v2 v3 v4 v5 v6 v7:Value}(h:aU S w w')(hg:S z=false):aU S w (an w' z v0 v1 v2 v3 v4 v5 v6 v7):=
 ((((((((h.set (p:=⟨z,0,none⟩) hg _).set (p:=⟨z,1,none⟩) hg _).set (p:=⟨z,2,none⟩) hg _).set (p:=⟨z,3,none⟩) hg _).set (p:=⟨z,4,none⟩) hg _).set (p:=⟨z,5,none⟩) hg _).set (p:=⟨z,6,none⟩) hg _).set (p:=⟨z,7,none⟩) hg _)
theorem dw{w:World}{z:Nat}{v0 v1 v2 v3 v4 v5 v6 v7:Value}:aU (bf z) w (an w z v0 v1 v2 v3 v4 v5 v6 v7):=zn (aU.refl _ _) (fQ _)
def CM(one:ag->aj->Except Nat ag):ag->List aj->Except Nat ag
 |t,[]=>.ok t
 |t,e::es=>if ap e then(match one t e with| .ok u=>CM one u es| .error n=>.error n) else .error 4
def Cw(one:ag->aj->Except Nat ag)(t:ag)(es:List aj):Except Nat ag:=if (gx t).1≠0 then .error (gx t).1 else CM one t es
def DL(k:Nat):FuncId:=if k=1 then 25 else if k=2 then 26 else if k=3 then 27 else if k=4 then 28 else 29
theorem Iz{e:aj}(h:ap e=true):e.kind=1∨e.kind=2∨e.kind=3∨e.kind=4∨e.kind=5:=by
 unfold ap at h;split at h
 .cases h
 split at h
 .cases h
 split at h
 .cases h
 split at h
 .cases h
 simp only[aq,Bool.or_eq_true,Bool.and_eq_true,beq_iff_eq] at h;omega
def Gr(w:World)(e:aj)(b o:Nat):Prop:=∃(k:Nat) (pA:Option Addr) (pn pc:Nat) (i j:Int) (f t:ByteArray) (oA:Option Addr) (on oc:Nat) (nA:Option Addr) (nn nc:Nat),
 w.cell? ⟨b,o,none⟩=some (.int .u8 k)/\w.cell? ⟨b,o+1,none⟩=some (.slice pA pn pc)/\w.cell? ⟨b,o+2,none⟩=some (.int .i64 i)/\w.cell? ⟨b,o+3,none⟩=some (.int .i64 j)/\w.cell? ⟨b,o+4,none⟩=some (.string f)/\w.cell? ⟨b,o+5,none⟩=some (.string t)/\w.cell? ⟨b,o+6,none⟩=some (.slice oA on oc)/\w.cell? ⟨b,o+7,none⟩=some (.slice nA nn nc)/\
 mm w e k pA pn pc i j f t oA on oc nA nn nc
def EK(w:World)(es:List aj)(b o:Nat):Prop:=∀j e,es[j]? =some e->Gr w e b (o+j*8)
def EQ(one:ag->aj->Except Nat ag)(P:ag->Prop)(e:aj):Prop:=∀(T:ag) (W:World) (k:Nat) (pA:Option Addr) (pn pc:Nat) (i j:Int) (f t:ByteArray) (oA:Option Addr) (on oc:Nat) (nA:Option Addr) (nn nc:Nat) (k':Nat) (s:ByteArray) (x:Int) (A:Option Addr) (n c:Nat),
 P T->ap e=true->bI W->mm W e k pA pn pc i j f t oA on oc nA nn nc->cf W T k' s x A n c->
 Calls Tryz.prog (DL e.kind) #[.agg #[.int .u8 k,.slice pA pn pc,.int .i64 i,.int .i64 j,.string f,.string t,.slice oA on oc,.slice nA nn nc,.int .u8 k',.string s,.int .i64 x,.slice A n c]] W (Ce (one T e) W)
theorem GB{W0:World}{M:Nat}(hM:W0.heap.size=M)(f1 f2 f3 f4 f5:Value):∃W1 W2 W3 W4 W5,(Instr.mapUpdate 67 (.map (some M)) (.int .u8 1) f1).run Tryz.prog (W0.alloc (.map #[] 0))= .ok () W1/\(Instr.mapUpdate 67 (.map (some M)) (.int .u8 2) f2).run Tryz.prog W1= .ok () W2/\(Instr.mapUpdate 67 (.map (some M)) (.int .u8 3) f3).run Tryz.prog W2= .ok () W3/\(Instr.mapUpdate 67 (.map (some M)) (.int .u8 4) f4).run Tryz.prog W3= .ok () W4/\(Instr.mapUpdate 67 (.map (some M)) (.int .u8 5) f5).run Tryz.prog W4= .ok () W5/\eL W5 M [(1,f1),(2,f2),(3,f3),(4,f4),(5,f5)]/\Below W0.heap.size W0 W5:=by have h0:=eL.made W0;rw[hM] at h0;obtain⟨W1,r1,h1,g1⟩:=h0.insert Tryz.underlying67 Tryz.underlying26 (k:=1) f1 rfl;obtain⟨W2,r2,h2,g2⟩:=h1.insert Tryz.underlying67 Tryz.underlying26 (k:=2) f2 rfl;obtain⟨W3,r3,h3,g3⟩:=h2.insert Tryz.underlying67 Tryz.underlying26 (k:=3) f3 rfl;obtain⟨W4,r4,h4,g4⟩:=h3.insert Tryz.underlying67 Tryz.underlying26 (k:=4) f4 rfl;obtain⟨W5,r5,h5,g5⟩:=h4.insert Tryz.underlying67 Tryz.underlying26 (k:=5) f5 rfl;have b0:Below W0.heap.size W0 (W0.alloc (.map #[] 0)):=(ai _ _).alloc (ah _) _;have b1:=b0.grown g1 b0.size (fun k hk=>by injection hk with hk;omega);have b2:=b1.grown g2 b1.size (fun k hk=>by injection hk with hk;omega);have b3:=b2.grown g3 b2.size (fun k hk=>by injection hk with hk;omega);have b4:=b3.grown g4 b3.size (fun k hk=>by injection hk with hk;omega);have b5:=b4.grown g5 b4.size (fun k hk=>by injection hk with hk;omega);exact⟨W1,W2,W3,W4,W5,r1,r2,r3,r4,r5,h5,b5⟩
theorem I6(w:World):(zeroValue 63).run Tryz.prog w= .ok .nilFunc w:=by kernel_rfl
def Gp:List (Nat×Value):=[(1,.func (.func 25) #[] #[]),(2,.func (.func 26) #[] #[]),(3,.func (.func 27) #[] #[]),(4,.func (.func 28) #[] #[]),(5,.func (.func 29) #[] #[])]
theorem I4{k:Nat}(h:k=1∨k=2∨k=3∨k=4∨k=5):(Gp.lookup k).getD .nilFunc= .func (.func (DL k)) #[] #[]:=by rcases h with rfl|rfl|rfl|rfl|rfl<;>rfl
theorem GT{k:Nat}(h:k=1∨k=2∨k=3∨k=4∨k=5)(args:Array Value)(w:World):(callFunc (DL k) args).run Tryz.prog w= .ok (.enter (DL k) args) w:=by
 rcases h with rfl|rfl|rfl|rfl|rfl
 .exact eH Tryz.func25 (by kernel_rfl) (by kernel_rfl) args w
 .exact eH Tryz.func26 (by kernel_rfl) (by kernel_rfl) args w
 .exact eH Tryz.func27 (by kernel_rfl) (by kernel_rfl) args w
 .exact eH Tryz.func28 (by kernel_rfl) (by kernel_rfl) args w
 .exact eH Tryz.func29 (by kernel_rfl) (by kernel_rfl) args w
theorem DQ{W:World}{t:Array Value}{Q:Ending->World->Prop}{b:Nat}{n:Int}{v0 v1 v2 v3:Value}(h2:t[4]? =some (.pointer (some ⟨b,0,none⟩)))(h3:t[5]? =some (.int .i64 n))(c0:W.cell? ⟨b,0,none⟩=some v0)(c1:W.cell? ⟨b,1,none⟩=some v1)(c2:W.cell? ⟨b,2,none⟩=some v2)(c3:W.cell? ⟨b,3,none⟩=some v3)(h:Q (.returned (.tuple #[.agg #[v0,v1,v2,v3],.int .i64 n])) W):bodyPost Tryz.prog Tryz.f9 Q Exit.ret { tmps:=t,defers:=[] } W:=by
 have hres:(results Tryz.f9 t).run Tryz.prog W= .ok (.tuple #[.agg #[v0,v1,v2,v3],.int .i64 n]) W:=by simp[results,Tryz.results9,go_sem,h2,h3,c0,c1,c2,c3]
 exact bodyPost_ret hres rfl h
theorem cf.sinceLow{w:World}{B B':Nat}{t:ag}{k:Nat}{s:ByteArray}{x:Int}{A:Option Addr}{n c:Nat}(h:cf (cX w B) t k s x A n c)(hB:B'<=B):cf (cX w B') t k s x A n c:=h.keep fun a v hc=>by obtain⟨h1,h2⟩:=i8.1 hc;exact i8.2 ⟨by omega,h2⟩
structure C3 (w W:World) (t:ag):Prop where
 bel:Below w.heap.size w W
 nod:∃(k:Nat) (s:ByteArray) (x:Int) (A:Option Addr) (n c:Nat),W.heap[w.heap.size]? =some (.cells #[.int .u8 k,.string s,.int .i64 x,.slice A n c] 25 (0,0))/\cf (cX W (w.heap.size+2)) t k s x A n c
 res:W.heap[w.heap.size+1]? =some (.cells #[.int .u8 0,.string ⟨#[]⟩,.int .i64 0,.slice none 0 0] 25 (0,0))
theorem C3.lift{w W W':World}{t:ag}(h:C3 w W t)(hb:Below W.heap.size W W'):C3 w W' t:=by obtain⟨h1,⟨k,s,x,A,n,c,h2,h3⟩,h4⟩:=h;exact⟨h1.trans (hb.mono h1.size),⟨k,s,x,A,n,c,(hb.block _ (aK.1 h2).1).trans h2,h3.sinceBelow hb⟩,(hb.block _ (aK.1 h4).1).trans h4⟩
theorem C3.store{w W:World}{u:ag}{k:Nat}{s:ByteArray}{x:Int}{A:Option Addr}{n c:Nat}{z0 z1 z2 z3:Value}(hb:Below w.heap.size w W)(h1:W.heap[w.heap.size]? =some (.cells #[z0,z1,z2,z3] 25 (0,0)))(h2:W.heap[w.heap.size+1]? =some (.cells #[.int .u8 0,.string ⟨#[]⟩,.int .i64 0,.slice none 0 0] 25 (0,0)))(hN:cf (cX W (w.heap.size+2)) u k s x A n c):C3 w ((((W.setCell ⟨w.heap.size,0,none⟩ (.int .u8 k)).setCell ⟨w.heap.size,1,none⟩ (.string s)).setCell ⟨w.heap.size,2,none⟩ (.int .i64 x)).setCell ⟨w.heap.size,3,none⟩ (.slice A n c)) u:=by
 refine⟨(((hb.setCell (ah _) _).setCell (ah _) _).setCell (ah _) _).setCell (ah _) _,⟨k,s,x,A,n,c,?_,hN.keep fun a v hc=>?_⟩,?_⟩
 .simp[World.setCell,Array.getElem?_modify,h1]
 .obtain⟨g1,g2⟩:=i8.1 hc;have hne:∀q,a≠(⟨w.heap.size,q,none⟩:Addr):=fun q e=>by have g3:w.heap.size+2<=w.heap.size:=(by rw[e] at g1;exact g1);omega
  exact i8.2 ⟨g1,am (hne _) (am (hne _) (am (hne _) (am (hne _) g2)))⟩
 .exact ry h2 (by omega) 0 1 2 3
mutual
theorem IK {L M:Nat} (h:L<=M):∀{t:ag},t.short L->t.short M
 | .node k s x ks,ht=>⟨aJ ht.1 h,EI h ht.2⟩
theorem EI {L M:Nat} (h:L<=M):∀{ts:List ag},ex L ts->ex M ts
 |[],_=>trivial
 |t::ts,ht=>⟨IK h ht.1,EI h ht.2⟩
end
theorem H7(one:ag->aj->Except Nat ag)(P:ag->Prop)(es:List aj)(T:ag)(k:Nat)(s:ByteArray)(x:Int)(A:Option Addr)(n c g o m c':Nat)(w:World)(hN:cf w T k s x A n c)(hE:bI w)(hP:P T)(hPb:∀t,P t->t.sz<=100000/\t.short 281474976710656)(hes:EK w es g o)(hlen:m=es.length)(hmc:m<=c')(hcm:c'<=maxLen)(hR:∀e∈es,e.frm.length+e.to_.length<=9223372036854775806/\ex 9223372036854775806 e.olds/\ex 9223372036854775806 e.news)(hone:∀e∈es,∀t u,P t->ap e=true->one t e= .ok u->P u)(hno:∀e∈es,∀t,one t e≠ .error 0)(hW:∀e∈es,EQ one P e):Calls Tryz.prog 9 #[.agg #[.int .u8 k,.string s,.int .i64 x,.slice A n c],.slice (some ⟨g,o,none⟩) m c'] w (Ce (Cw one T es) w):=by
 have hb0:Below w.heap.size w ((w.alloc (.cells #[.int .u8 k,.string s,.int .i64 x,.slice A n c] 25)).alloc (.cells #[.int .u8 0,.string ⟨#[]⟩,.int .i64 0,.slice none 0 0] 25)):=((ai _ _).alloc (ah _) _).alloc (by simp) _;have HB0:=aa hb0;have HW0:Hid (((w.alloc (.cells #[.int .u8 k,.string s,.int .i64 x,.slice A n c] 25)).alloc (.cells #[.int .u8 0,.string ⟨#[]⟩,.int .i64 0,.slice none 0 0] 25)).heap[w.heap.size]? =some (.cells #[.int .u8 k,.string s,.int .i64 x,.slice A n c] 25 (0,0))):=(heap_alloc_old _ _ (by simp)).trans (heap_alloc_new _ _);have HR0:Hid (((w.alloc (.cells #[.int .u8 k,.string s,.int .i64 x,.slice A n c] 25)).alloc (.cells #[.int .u8 0,.string ⟨#[]⟩,.int .i64 0,.slice none 0 0] 25)).heap[w.heap.size+1]? =some (.cells #[.int .u8 0,.string ⟨#[]⟩,.int .i64 0,.slice none 0 0] 25 (0,0))):=aQ (by simp);have HN:=aa hN;have HE:=aa hE;have HP:=aa hP;have HPB:=aa hPb;have HES:=aa hes;have HLN:=aa hlen;have HRR:=aa hR;have HON:=aa hone;have HWY:=aa hW;have HNO:=aa hno;have hmx:m<=9223372036854775807:=(by unfold maxLen at hcm;omega);have hck:=aa (DX T k s x A n c _ (hN.below hb0) (hPb T hP).2 (hPb T hP).1 (hE.below hb0 (ah _)));clear hb0 hN hE hP hPb hes hlen hR hone hW hno hmc hcm
 go_in
 go_wp2_with fail;refine hck.out.mono ?_;rintro en w1 ⟨rfl,hb1⟩;have HB1:=aa (af HB0.out hb1);have HW1:=aa ((hb1.block _ (by simp;omega)).trans HW0.out);have HR1:=aa ((hb1.block _ (by simp)).trans HR0.out);clear hb1 hck HB0 HW0 HR0;have hq:Below w1.heap.size w1 (w1.alloc (.cells #[.int .i64 (gx T).1,.int .i64 (gx T).2] 46)):=(ai _ _).alloc (ah _) _;have HB2:=aa (af HB1.out hq);have HW2:=aa ((hq.block _ (aK.1 HW1.out).1).trans HW1.out);have HR2:=aa ((hq.block _ (aK.1 HR1.out).1).trans HR1.out);clear hq;by_cases hc:(gx T).1=0
 .have hci:(((gx T).1:Nat):Int)=0:=(by rw[hc];rfl);rw[hci];rw[hci] at HB2 HW2 HR2;have HC0:=aa hc;clear hc hci;obtain⟨r0,r1,r2,r3,g0,g1,g2,g3⟩:=di HW2.out;go_wp2_with fail;have hgt:=Ew T k s x A n c _ (aJ (HPB.out T HP.out).1 (by omega)) (HN.out.below HB2.out);refine hgt.mono ?_;rintro en w3 ⟨A3,c3,rfl,hf3,hb3⟩;have HB3:=aa (af HB2.out hb3);have HW3:=aa ((hb3.block _ (aK.1 HW2.out).1).trans HW2.out);have HR3:=aa ((hb3.block _ (aK.1 HR2.out).1).trans HR2.out);have HN3:Hid (cf (cX w3 (w.heap.size+2)) T k s x A3 n c3):=by
   have hs2:w.heap.size+2<=(w1.alloc (.cells #[.int .i64 0,.int .i64 (gx T).2] 46)).heap.size:=by have:=(aK.1 HR2.out).1;omega
   obtain⟨ks,e,g0,g1,g2,_⟩:=HN.out;exact⟨ks,e,g0,g1,g2,by have h:=(hf3.keep hs2 (fun _ _ _=>rfl)).1;rw[e] at h;exact h⟩
  clear hf3 hb3 hgt r0 r1 r2 r3 g0 g1 g2 g3 HW1 HR1;obtain⟨r0,r1,r2,r3,g0,g1,g2,g3⟩:=di HW3.out;have HL0:=aa (C3.store HB3.out HW3.out HR3.out HN3.out);go_wp2_with fail;generalize hWW:((((w3.setCell ⟨w.heap.size,0,none⟩ (.int .u8 k)).setCell ⟨w.heap.size,1,none⟩ (.string s)).setCell ⟨w.heap.size,2,none⟩ (.int .i64 x)).setCell ⟨w.heap.size,3,none⟩ (.slice A3 n c3))=W0 at HL0 ⊢;have HRES:Hid (Cw one T es=CM one T es):=(by show _=_;unfold Cw;rw[if_neg (by simpa using HC0.out)]);clear hWW HW3 HR3 HN3 HB3 HB2 HW2 HR2 HB1 r0 r1 r2 r3 g0 g1 g2 g3;go_loopw [27,5,8,9,10,11] (fun i z5 z8 z9 z10 z11 wr=>∃(j:Nat) (t:ag),j<=m/\i= .int .i64 j/\z5= .int .i64 0/\Hid (C3 w wr t)/\Hid (P t)/\Hid (CM one T es=CM one t (es.drop j))) (fun i _ _ _ _ _ _=>m - (intOf i).toNat);case atStart=>exact⟨0,T,aE _,rfl,rfl,HL0,HP,by show _=_;simp⟩
  case round=>
   clear HL0;obtain⟨j,t,hj,rfl,rfl,HL,HPT,HA⟩:=hrel;obtain⟨k1,s1,y1,A1,n1,c1,hblk,hnod⟩:=HL.out.nod;have HND:=aa hnod;have HBL:=aa hblk;clear hnod hblk;by_cases hlt:j<m
   .have he:es[j]? =some (es[j]'(by have:=HLN.out;omega)):=br _;generalize (es[j]'(by have:=HLN.out;omega))=e at he;obtain⟨ke,pA,pn,pc,ei,ej,f,te,oA,on,oc,nA,nn,nc,q0,q1,q2,q3,q4,q5,q6,q7,hed⟩:=HES.out j e he;have hbl:=HL.out.bel;have p0:=ac hbl q0;have p1:=ac hbl q1;have p2:=ac hbl q2;have p3:=ac hbl q3;have p4:=ac hbl q4;have p5:=ac hbl q5;have p6:=ac hbl q6;have p7:=ac hbl q7;have HED:=aa (And.intro (hed.1.below hbl) (hed.2.below hbl));have hmem:e∈es:=List.mem_iff_getElem?.2 ⟨j,he⟩;have HWE:=aa (HWY.out e hmem);have HOE:=aa (HON.out e hmem);have HRE:=aa (HRR.out e hmem);have HNE:=aa (HNO.out e hmem);have HDR:Hid (es.drop j=e::es.drop (j+1)):=by show _=_;obtain⟨h1,h2⟩:=gl.1 he;rw[List.drop_eq_getElem_cons h1,h2]
    clear q0 q1 q2 q3 q4 q5 q6 q7 hed hmem he;have hbA:Below wr.heap.size wr (wr.alloc (.cells #[.int .u8 ke,.slice pA pn pc,.int .i64 ei,.int .i64 ej,.string f,.string te,.slice oA on oc,.slice nA nn nc] 29)):=(ai _ _).alloc (ah _) _;obtain⟨M1,M2,M3,M4,M5,m1,m2,m3,m4,m5,hmap,hbM⟩:=GB (W0:=wr.alloc (.cells #[.int .u8 ke,.slice pA pn pc,.int .i64 ei,.int .i64 ej,.string f,.string te,.slice oA on oc,.slice nA nn nc] 29)) (M:=wr.heap.size+1) (by simp) (.func (.func 25) #[] #[]) (.func (.func 26) #[] #[]) (.func (.func 27) #[] #[]) (.func (.func 28) #[] #[]) (.func (.func 29) #[] #[]);have hlook:=hmap.look Tryz.underlying67 Tryz.underlying26 ke (I6 M5) false;obtain⟨v9,hv9⟩:∃v9,(List.lookup ke Gp).getD .nilFunc=v9:=⟨_,rfl⟩;have hlook2:(Instr.lookup 67 (.map (some (wr.heap.size+1))) (.int .u8 ke) false).run Tryz.prog M5= .ok v9 M5:=(by rw[<-hv9];exact hlook);have hbR:=af hbA hbM;have HL5:=aa (HL.out.lift hbR);have HBX:=aa ((hbM.block wr.heap.size (by simp)).trans (heap_alloc_new _ _));have HED5:=aa (And.intro (HED.out.1.below hbR) (HED.out.2.below hbR));have HBL5:=aa ((hbR.block _ (aK.1 HBL.out).1).trans HBL.out);have HND5:=aa (HND.out.sinceBelow hbR);have HV9:=aa hv9;have hmm:= @run_makeMap Tryz.prog;obtain⟨c0,c1',c2,c3',c4,c5,c6,c7⟩:=(aw HBX.out).cs;clear hbA hbM hbR hmap hlook hv9 HL HED HBL HND;go_wp2_with fail;have hsz9:f.size+te.size<=9223372036854775806:=by obtain⟨ps,os,ns,e9,_⟩:=HED5.out.1;have h9:=HRE.out.1;rw[e9] at h9;exact h9
    have hke:e.kind=ke:=by obtain⟨ps,os,ns,e9,_⟩:=HED5.out.1;rw[e9]
    refine(de e ke pA pn pc ei ej f te oA on oc nA nn nc M5 HED5.out.1 (HE.out.below HL5.out.bel (ah _)) hsz9 (EI (by omega) HRE.out.2.1) HRE.out.2.2).mono ?_;rintro en w6 ⟨rfl,hb6⟩;have HL6:=aa (HL5.out.lift hb6);have HBX6:=aa ((hb6.block _ (aK.1 HBX.out).1).trans HBX.out);have HED6:=aa (And.intro (HED5.out.1.below hb6) (HED5.out.2.below hb6));have HBL6:=aa ((hb6.block _ (aK.1 HBL5.out).1).trans HBL5.out);have HND6:=aa (HND5.out.sinceBelow hb6);clear hb6 HL5 HBX HED5 HBL5 HND5 c0 c1' c2 c3' c4 c5 c6 c7 p0 p1 p2 p3 p4 p5 p6 p7 m1 m2 m3 m4 m5 hlook2;cases hr:ap e with
    |false=>
     have HRES2:Hid (Cw one T es= .error 4):=by rw[HRES.out,HA.out,HDR.out];show Hid ((if ap e=true then _ else _)=_);rw[if_neg (by rw[hr];simp)];exact aa rfl
     have HBE:=aa HL6.out.bel;have HRR2:=aa HL6.out.res;obtain⟨r0,r1,r2,r3,g0,g1,g2,g3⟩:=di HRR2.out;clear hr HL6;go_wp2_with fail;obtain⟨a0,a1,a2,a3,hb9⟩:=CY (v0:=.int .u8 0) (v1:=.string ⟨#[]⟩) (v2:=.int .i64 0) (v3:=.slice none 0 0) HRR2.out HBE.out (by omega);refine DQ (b:=w.heap.size+1) rfl rfl a0 a1 a2 a3 (Ce.err HRES2.out hb9)
    |true=>
     have hk5:=Iz hr;rw[hke] at hk5;have hv:v9= .func (.func (DL ke)) #[] #[]:=(by rw[<-HV9.out];exact I4 hk5);subst hv;have hcf:=GT hk5;have HRT:=aa hr;obtain⟨c0,c1',c2,c3',c4,c5,c6,c7⟩:=(aw HBX6.out).cs;obtain⟨r0,r1,r2,r3,g0,g1,g2,g3⟩:=di HBL6.out;have HWC:=aa (HWE.out t w6 ke pA pn pc ei ej f te oA on oc nA nn nc k1 s1 y1 A1 n1 c1 HPT.out hr (HE.out.below HL6.out.bel (ah _)) HED6.out HND6.out.since);rw[hke] at HWC;have HAE:Hid (CM one t (es.drop j)=match one t e with| .ok u=>CM one u (es.drop (j+1))| .error n=>.error n):=by rw[HDR.out];show Hid ((if ap e=true then _ else _)=_);rw[if_pos hr];exact aa rfl
     clear hk5 hr HV9 hke;go_wp2_with fail;refine HWC.out.mono ?_;rintro en w7 ⟨hb7,hpost⟩;cases ho:one t e with
     |error n9=>
      rw[ho] at hpost;simp only at hpost;subst hpost;have hn0:n9≠0:=fun h=>HNE.out t (by rw[ho,h]);have hc2:((n9:Int) != 0)=true:=(by simpa using hn0);have hc3:((n9:Int) == 0)=false:=(by simpa using hn0);have HRES2:Hid (Cw one T es= .error n9):=by rw[HRES.out,HA.out,HAE.out,ho];exact aa rfl
      have HL7:=aa (HL6.out.lift hb7);obtain⟨r0,r1,r2,r3,g0,g1,g2,g3⟩:=di HL7.out.res;have hlt7:w.heap.size+1<w7.heap.size:=(aK.1 HL7.out.res).1;have hne7:w7.heap.size≠w.heap.size+1:=(by omega);clear hn0 ho HL6 HAE hb7;go_wp2_with fail;obtain⟨a0,a1,a2,a3,hb9⟩:=CY (v0:=.int .u8 0) (v1:=.string ⟨#[]⟩) (v2:=.int .i64 0) (v3:=.slice none 0 0) HL7.out.res HL7.out.bel (by omega);refine DQ (b:=w.heap.size+1) rfl rfl (ac (tZ (ai _ _) _) a0) (ac (tZ (ai _ _) _) a1) (ac (tZ (ai _ _) _) a2) (ac (tZ (ai _ _) _) a3) (Ce.err HRES2.out (tZ hb9 _))
     |ok u=>
      rw[ho] at hpost;obtain⟨k2,s2,y2,A2,n2,c2',rfl,hn2⟩:=hpost;have HA2:Hid (CM one T es=CM one u (es.drop (j+1))):=by rw[HA.out,HAE.out,ho];exact aa rfl
      have HPU:=aa (HOE.out t u HPT.out HRT.out ho);have HL7:=HL6.out.lift hb7;have hbl7:=(hb7.block _ (aK.1 HBL6.out).1).trans HBL6.out;have hlo:w.heap.size+2<=w6.heap.size:=(by have:=(aK.1 HL6.out.res).1;omega);have HLN2:=aa (C3.store HL7.bel hbl7 HL7.res (hn2.sinceLow hlo));obtain⟨r0,r1,r2,r3,g0,g1,g2,g3⟩:=di hbl7;have hlt7:w.heap.size<w7.heap.size:=(aK.1 hbl7).1;have hne7:w7.heap.size≠w.heap.size:=(by omega);clear ho HL6 HAE hb7 HL7 hbl7 hlo hn2;go_wp2;go_roundw;case rel=>exact⟨j+1,u,by omega,by go_num,rfl,HLN2.out.lift (tZ (ai _ _) _),HPU,HA2⟩
      case measure=>simp[intOf];omega
   .have hjm:j=m:=(by omega);subst hjm;have HRES2:Hid (Cw one T es= .ok t):=by rw[HRES.out,HA.out,List.drop_eq_nil_of_le (by have:=HLN.out;omega)];exact aa rfl
    have HBE:=aa HL.out.bel;have HRR2:=aa HL.out.res;obtain⟨r0,r1,r2,r3,g0,g1,g2,g3⟩:=di HBL.out;obtain⟨q0,q1,q2,q3,p0,p1,p2,p3⟩:=di HRR2.out;clear HL HA;go_wp2_with fail;obtain⟨a0,a1,a2,a3,hb9⟩:=CY (v0:=.int .u8 k1) (v1:=.string s1) (v2:=.int .i64 y1) (v3:=.slice A1 n1 c1) HRR2.out HBE.out (by omega);refine DQ (b:=w.heap.size+1) rfl rfl a0 a1 a2 a3 (Ce.ok HRES2.out hb9 HND.out.sincePut4)
 .have hc2:(((gx T).1:Int) != 0)=true:=(by simpa using hc);have hc3:(((gx T).1:Int) == 0)=false:=(by simpa using hc);have HRES:Hid (Cw one T es= .error (gx T).1):=(by show _=_;unfold Cw;rw[if_pos hc]);clear hc;have hfa:(w1.alloc (.cells #[.int .i64 (gx T).1,.int .i64 (gx T).2] 46)).cell? ⟨w1.heap.size,0,none⟩=some (.int .i64 (gx T).1):=(by rw[World.cell?_alloc_new];rfl);have hlt1:w.heap.size+1<w1.heap.size:=(aK.1 HR1.out).1;have hne1:w1.heap.size≠w.heap.size+1:=(by omega);have hne2:w.heap.size+1≠w1.heap.size:=(by omega);go_wp2_with fail;generalize w1.alloc (.cells #[.int .i64 (gx T).1,.int .i64 (gx T).2] 46)=W1 at HB2 HW2 HR2 hfa ⊢;obtain⟨r0,r1,r2,r3,g0,g1,g2,g3⟩:=di HR2.out
  go_region
  all_goals
   obtain⟨a0,a1,a2,a3,hb9⟩:=CY (v0:=.int .u8 0) (v1:=.string ⟨#[]⟩) (v2:=.int .i64 0) (v3:=.slice none 0 0) HR2.out HB2.out (by omega);go_wp2_with fail;refine DQ (b:=w.heap.size+1) rfl rfl a0 a1 a2 a3 (Ce.err HRES.out ?_);first|with_reducible exact hb9|with_reducible exact ua hb9
def Ch(ns:List ar)(st:bo):Prop:=∀p∈st.bs,p.1∈ns
theorem Ch.snoc{ns:List ar}{st st':bo}{s:ar}{n:Nat}(h:Ch ns st)(hs:s∈ns)(e:st'.bs=st.bs++[(s,n)]):Ch ns st':=by
 intro p hp;rw[e] at hp;rcases List.mem_append.1 hp with hp|hp
 .exact h p hp
 .obtain rfl:=List.mem_singleton.1 hp;exact hs
theorem Ch.many{ns:List ar}{st:bo}{i n:Nat}(h:Ch ns st):Ch ns (la st i n):=by
 intro p hp;obtain⟨j,hj,e⟩:=List.mem_iff_getElem.1 hp;simp only[la,List.getElem_mapIdx] at e;have hm:st.bs[j]'(by simpa[la] using hj)∈st.bs:=List.getElem_mem _;split at e;all_goals
  rw[<-e];have:=h _ hm;exact this
mutual
theorem Hl (fe:bq) (ns:List ar):∀(t:ag) (out:List bq) (own:bq) (q:List Int) (st:bo) (o:bq) (st':bo),da fe t out own q st= .ok (o,st')->Ch ns st->(∀n∈t.names,n∈ns)->Ch ns st'
 | .node k s x ks,out,own,q,st,o,st',h,hb,hn=>by
  have hk:∀n∈bE ks,n∈ns:=fun n h=>hn n (by unfold ag.names;exact List.mem_append_right _ h);have hs:cG k=true->s∈ns:=fun hk=>hn s (by unfold ag.names;rw[if_pos hk];simp);unfold da at h;split at h
  .obtain⟨o1,h1,_⟩:=Cy h;exact CW fe ns ks _ _ _ _ _ _ _ h1 hb hk
  split at h
  .rename_i hk4;obtain⟨o1,st1,h1,h2⟩:=i9 h;obtain⟨_,_,rfl⟩:=ve h1;exact CW fe ns ks _ _ _ _ _ _ _ h2 (Ch.snoc (st:=st) hb (hs (by rw[hk4];rfl)) rfl) hk
  split at h
  .obtain⟨o1,h1,_⟩:=Cy h;exact CW fe ns ks _ _ _ _ _ _ _ h1 hb hk
  split at h
  .rename_i hk6;split at h
   .cases h
   .obtain⟨o1,st1,h1,h2⟩:=i9 h;obtain⟨_,_,rfl⟩:=ve h2;exact Ch.snoc (st:=st1) (CW fe ns ks _ _ _ _ _ _ _ h1 hb hk) (hs (by rw[hk6];rfl)) rfl
  split at h
  .obtain⟨st1,h1,h2⟩:=CG h;obtain⟨i,_,_,rfl⟩:=CC h1;exact CW fe ns ks _ _ _ _ _ _ _ h2 hb hk
  split at h
  .obtain⟨st1,h1,h2⟩:=CG h;obtain⟨i,_,_,rfl⟩:=CC h1;exact CW fe ns ks _ _ _ _ _ _ _ h2 hb hk
  .exact CW fe ns ks _ _ _ _ _ _ _ h hb hk
theorem CW (fe:bq) (ns:List ar):∀(ts:List ag) (out:List bq) (own:bq) (q:List Int) (j:Nat) (st:bo) (o:bq) (st':bo),dq fe ts out own q j st= .ok (o,st')->Ch ns st->(∀n∈bE ts,n∈ns)->Ch ns st'
 |[],out,own,q,j,st,o,st',h,hb,_=>by
  unfold dq at h;cases h
  exact hb
 |t::ts,out,own,q,j,st,o,st',h,hb,hn=>by unfold dq at h;obtain⟨o1,st1,h1,h2⟩:=i9 h;exact CW fe ns ts _ _ _ _ _ _ _ h2 (Hl fe ns t _ _ _ _ _ _ h1 hb (fun n h=>hn n (by unfold bE;exact List.mem_append_left _ h))) (fun n h=>hn n (by unfold bE;exact List.mem_append_right _ h))
end
theorem E7(ns:List ar):∀(ts:List ag) (k a0:Nat) (fe:bq) (st:bo) (o:bq) (st':bo),i6 ts k a0 fe st= .ok (o,st')->(∀t∈ts,A7 t)->(∀n∈bE ts,n∈ns)->Ch ns st->Ch ns st'
 |[],k,a0,fe,st,o,st',h,_,_,hb=>by
  unfold i6 at h;cases h
  exact hb
 |t::ts,k,a0,fe,st,o,st',h,hF,hn,hb=>by unfold i6 at h;obtain⟨o1,st1,h1,h2⟩:=i9 h;obtain⟨_,_,rfl⟩:=ve h1;obtain⟨s,x,p,b,rfl,_,_⟩:=hF t (List.mem_cons_self ..);have hs:s∈ns:=hn s (by unfold bE ag.names;simp[cG]);exact E7 ns ts _ _ _ _ _ _ h2 (fun t ht=>hF t (List.mem_cons_of_mem _ ht)) (fun n h=>hn n (by unfold bE;exact List.mem_append_right _ h)) (Ch.many (Ch.snoc (st:=st) hb hs rfl))
theorem G9{ks:List ag}{o:bq}{st:bo}(h:gn ks= .ok (o,st))(hF:∀t∈ks,A7 t):∀p∈st.bs,p.1∈bE ks:=by unfold gn at h;obtain⟨fe,st1,h1,h2⟩:=i9 h;have h3:=E7 (bE ks) ks _ _ _ _ _ _ h1 hF (fun _ h=>h) (fun p hp=>by simp[Cl] at hp);exact CW fe (bE ks) ks _ _ _ _ _ _ _ h2 h3 (fun _ h=>h)
theorem IF{k:Nat}{s:ar}{x:Int}(hk:cG k=true)(h:dx k s x=true):be s=true:=by
 unfold dx at h;split at h
 .rename_i e;rw[e] at hk;cases hk
 split at h
 .rename_i e;rw[e] at hk;cases hk
 split at h
 .cases h
 exact h
mutual
theorem FZ:∀(t:ag) (d:Nat),cE d t=true->∀n∈t.names,be n=true
 | .node k s x ks,d,h,n,hn=>by
  unfold cE at h;split at h
  .cases h
  simp only[Bool.and_eq_true] at h;obtain⟨⟨⟨⟨_,h2⟩,_⟩,h4⟩,_⟩:=h;unfold ag.names at hn;rcases List.mem_append.1 hn with hn|hn
  .split at hn
   .obtain rfl:=List.mem_singleton.1 hn;exact IF (by assumption) h2
   .cases hn
  .exact FX ks _ _ _ h4 n hn
theorem FX:∀(ts:List ag) (k i d:Nat),bV k i d ts=true->∀n∈bE ts,be n=true
 |[],_,_,_,_,n,hn=>by cases hn
 |t::ts,k,i,d,h,n,hn=>by
  unfold bV at h;simp only[Bool.and_eq_true] at h;unfold bE at hn;rcases List.mem_append.1 hn with hn|hn
  .exact FZ t d h.1.2 n hn
  .exact FX ts k (i+1) d h.2 n hn
end
mutual
theorem Fo:∀(t:ag) (d:Nat) (p:List Int) (k:Nat),cE d t=true->t.kindAt p=some k->p.length+d<=40/\∀z∈p,0<=z/\z<t.sz
 | .node k s x ks,d,[],k',h,_=>by
  unfold cE at h;split at h
  .cases h
  simp only[Bool.and_eq_true] at h;obtain⟨⟨⟨⟨h1,_⟩,_⟩,h4⟩,_⟩:=h;have:=of_decide_eq_true h1;exact⟨by simpa using this,by simp⟩
 | .node k s x ks,d,z::p,k',h,hk=>by
  unfold cE at h;split at h
  .cases h
  simp only[Bool.and_eq_true] at h;obtain⟨⟨⟨⟨_,_⟩,_⟩,h4⟩,_⟩:=h;have hk':(if z<0 then none else np z.toNat p ks)=some k':=hk;split at hk'
  .cases hk'
  .obtain⟨g1,g2,g3⟩:=Fm ks _ _ _ _ p _ h4 hk';have hz:z=(z.toNat:Int):=(Int.toNat_of_nonneg (by omega)).symm;refine⟨by simp;omega,fun y hy=>?_⟩;simp only[ag.sz];rcases List.mem_cons.1 hy with rfl|hy
   .exact⟨by omega,by omega⟩
   .have:=g3 y hy;exact⟨this.1,by omega⟩
theorem Fm:∀(ts:List ag) (k i d n:Nat) (p:List Int) (k':Nat),bV k i d ts=true->np n p ts=some k'->p.length+d<=40/\n<ao ts/\∀z∈p,0<=z/\z<ao ts
 |[],_,_,_,n,p,k',_,h=>by cases n<;>cases h
 |t::ts,k,i,d,0,p,k',h,hk=>by unfold bV at h;simp only[Bool.and_eq_true] at h;obtain⟨g1,g2⟩:=Fo t d p k' h.1.2 hk;have hp:1<=t.sz:=(by obtain⟨k,s,x,ks⟩:=t;simp only[ag.sz];omega);refine⟨g1,by simp only[ao];omega,fun z hz=>?_⟩;have:=g2 z hz;simp only[ao];exact⟨this.1,by omega⟩
 |t::ts,k,i,d,n+1,p,k',h,hk=>by unfold bV at h;simp only[Bool.and_eq_true] at h;obtain⟨g1,g2,g3⟩:=Fm ts k (i+1) d n p k' h.2 hk;have hp:1<=t.sz:=(by obtain⟨k,s,x,ks⟩:=t;simp only[ag.sz];omega);refine⟨g1,by simp only[ao];omega,fun z hz=>?_⟩;have:=g3 z hz;simp only[ao];exact⟨this.1,by omega⟩
end
def gy(b:j9)(a:ar):aj:=⟨1,b.path,0,0,b.name,a,[],[]⟩
theorem Eg{t:ag}{st:bo}(hk:t.kind=1)(hr:pi t=true)(hl:gn t.kids= .ok ([],st)){i:Nat}(hi:i∈st.all):(cy st i).path.length<=40/\(cy st i).path≠[]/\(∀z∈(cy st i).path,0<=z/\z<t.sz)/\be (cy st i).name=true/\(cy st i).name∈t.names:=by
 have hF:=CP hk hr;have hall:=Dv hl hF;obtain⟨hp,_⟩:=DH (hall.2 i hi).2;obtain⟨m,r,k,e,hkk,_⟩:=DU hl hF _ hp;have hpath:t.kindAt (cy st i).path=some k:=by obtain⟨k0,s,x,ks⟩:=t;have e':(cy st i).path=(m:Int) ::r:=e;rw[e'];show(if (m:Int)<0 then none else np (m:Int).toNat r ks)=some k;rw[if_neg (by omega)];exact hkk
 obtain⟨g1,g2⟩:=Fo t 1 _ k hr hpath;have hnm:(cy st i).name∈t.names:=by
  have hlt:=(hall.2 i hi).1;have h1:(cy st i).name=(st.bs[i]'hlt).1:=by show hG st i=_;unfold hG;rw[br hlt];rfl
  have h2:=G9 hl hF _ (List.getElem_mem hlt);rw[h1];obtain⟨k0,s,x,ks⟩:=t;unfold ag.names;exact List.mem_append_right _ h2
 refine⟨by omega,?_,g2,FZ t 1 hr _ hnm,hnm⟩;have e':(cy st i).path=(m:Int) ::r:=e;rw[e'];simp
theorem Fz{s:ar}(h:be s=true):s.length<=24:=by
 unfold be at h;split at h
 .cases h
 .simp only[Bool.and_eq_true] at h;exact of_decide_eq_true h.1.1.1
theorem D0{t:ag}{st:bo}(hk:t.kind=1)(hr:pi t=true)(hl:gn t.kids= .ok ([],st))(hs:t.sz<=1000){i:Nat}(hi:i∈st.all){a:ar}(ha:be a=true)(hn:a∉t.names):ap (gy (cy st i) a)=true/\(gy (cy st i) a).tiny:=by
 obtain⟨h1,h2,h3,h4,h5⟩:=Eg hk hr hl hi;have hne:(cy st i).name≠a:=fun e=>hn (e ▸ h5);have hall:(cy st i).path.all aH=true:=by rw[List.all_eq_true];intro z hz;obtain⟨g1,g2⟩:=h3 z hz;simp only[aH,Bool.and_eq_true];exact⟨decide_eq_true g1,decide_eq_true (by omega)⟩
 have he:(cy st i).path.isEmpty=false:=by
  cases hp:(cy st i).path with
  |nil=>exact absurd hp h2
  |cons _ _=>rfl
 refine⟨?_,by show _<=60;exact aJ h1 (by omega),?_,by show cj []<=60;decide,by show cj []<=60;decide⟩
 .have hne':((cy st i).name != a)=true:=(by simpa using hne);simp[ap,gy,hall,he,h4,ha,hne,aH,aq,aG,aF,bR]
 .show(cy st i).name.length+a.length<=1000;have:=Fz h4;have:=Fz ha;omega
theorem GY{t:ag}{st:bo}(hk:t.kind=1)(hr:pi t=true)(hl:gn t.kids= .ok ([],st))(hs:t.sz<=1000){i j:Nat}(hi:i∈st.all)(hj:j∈st.all)(hij:i≠j){a b:ar}(ha:be a=true)(hb:be b=true)(hab:a≠b)(hna:a∉t.names)(hnb:b∉t.names):aO (gy (cy st i) a) (gy (cy st j) b)= .ok (gy (cy st j) b,gy (cy st i) a):=by
 have hF:=CP hk hr;obtain⟨r1,_⟩:=D0 hk hr hl hs hi ha hna;obtain⟨r2,_⟩:=D0 hk hr hl hs hj hb hnb;have hni:=(Eg hk hr hl hi).2.2.2.2;have hnj:=(Eg hk hr hl hj).2.2.2.2;have e1:(cy st j).name≠a:=fun e=>hna (e ▸ hnj);have e2:b≠(cy st i).name:=fun e=>hnb (e ▸ hni);have e3:(cy st i).path≠(cy st j).path:=fun e=>hij (FN hl hF hi hj e);have hm:cK (gy (cy st i) a) (gy (cy st j) b)=false:=by unfold cK;rw[if_pos ⟨rfl,rfl⟩];simp[gy,bX,e2,e3,Ne.symm e1,hab]
 have hsw:el (gy (cy st i) a) (gy (cy st j) b)=some (gy (cy st j) b,gy (cy st i) a):=by
  have hinv:(bD (gy (cy st i) a)).kind=1:=(by unfold bD;rw[r1];rfl);have hp:∀(e:aj) (p:List Int),e.kind=1->co e p=some p:=fun e p h=>by unfold co;simp[h]
  have hl0:(aq (gy (cy st i) a).kind && aq (gy (cy st j) b).kind && (gy (cy st i) a).path == (gy (cy st j) b).path)=false:=rfl;unfold el;rw[hl0];simp only[Bool.false_eq_true,if_false];rw[hp _ _ hinv];simp only;rw[hp _ _ rfl]
 unfold aO;rw[r1,r2,hm,hsw];simp[r1,r2]
def BQ(m:Nat)(w:World)(en:Ending)(w':World):Prop:=w'=w/\∃i:Nat,i<m/\en= .returned (.int .i64 i)
theorem IY{x:Int}{m:Nat}(h:0<m): -(m:Int)<x.tmod m/\x.tmod m<m:=by have h1:=Int.tmod_lt_of_pos x (b:=(m:Int)) (by omega);have h2:=Int.lt_tmod_of_pos x (b:=(m:Int)) (by omega);omega
theorem Fl(x:Int)(m:Nat)(w:World)(h0:0<m)(hm:m<=1000000):Calls Tryz.prog 17 #[.int .i64 x,.int .i64 m] w (BQ m w):=by
 obtain⟨h1,h2⟩:=IY (x:=x) h0;obtain⟨y,hy⟩:∃y,x.tmod (m:Int)=y:=⟨_,rfl⟩;rw[hy] at h1 h2;have hm1:¬((m:Int)<1):=(by omega);have hm0:((m:Int) == 0)=false:=(by simp;omega);have hm2:¬((m:Int)=0):=by omega
 go_in
 by_cases h3:y<0
 .go_wp2;go_ret;exact⟨rfl,(y+m).toNat,by omega,by rw[show(((y+(m:Int)).toNat:Nat):Int)=y+m by omega];rfl⟩
 .go_wp2;go_ret;exact⟨rfl,y.toNat,by omega,by rw[show((y.toNat:Nat):Int)=y by omega];rfl⟩
theorem G5(t:ag)(k:Nat)(s:ByteArray)(x:Int)(A:Option Addr)(n c:Nat)(w:World)(hN:cf w t k s x A n c)(hsh:t.short LL):Calls Tryz.prog 7 #[.agg #[.int .u8 k,.string s,.int .i64 x,.slice A n c]] w (ak (decide (t.cost<=120)) w):=by
 have hb0:Below w.heap.size w (w.alloc (.cells #[.int .u8 k,.string s,.int .i64 x,.slice A n c] 25)):=(ai _ _).alloc (ah _) _;have HB0:=aa hb0;have HK:=aa (oj t k s x A n c 120 _ (hN.below hb0) hsh (by omega));clear hN hb0
 go_in
 go_wp2_with fail;refine HK.out.mono ?_;rintro en w1 ⟨v,rfl,hb1,h1,h2,h3,h4⟩;have HB1:=aa (af HB0.out hb1);clear hb1;by_cases hv:v<=120
 .have hv2:(v:Int)<=120:=(by omega);have e:=h3 hv;subst e;clear h3 h4;go_wp2;go_ret;exact ak.intro (by simpa using hv) HB1.out
 .have hv2:¬(v:Int)<=120:=(by omega);have e:=h4 (by omega);clear h3 h4;go_wp2;go_ret;exact ak.intro (by simp;omega) HB1.out
def oB(t:ag)(e:aj):Except Nat ag:=Ca t e.path e.frm e.to_
theorem Hz(t:ag)(e:aj):oB t e≠ .error 0:=by
 unfold oB Ca;split
 .intro h;cases h
 .split
  .intro h;cases h
  .split
   .intro h;cases h
   .intro h;cases h
def Ds(t:ag):Prop:=t.sz<=1000/\t.short 281474976710656
theorem HJ{t u:ag}{e:aj}(h:Ds t)(he:e.to_.length<=281474976710656)(ho:oB t e= .ok u):Ds u:=by
 unfold oB Ca at ho;split at ho
 .cases ho
 .split at ho
  .cases ho
  .split at ho
   .cases ho
   .injection ho with ho;subst ho;obtain⟨_,h2,h3⟩:=Ez (t:=t) (a:=e.to_) (e.path:: (_:j9).uses);exact⟨by rw[h2];exact h.1,h3 _ he h.2⟩
theorem I3{e:aj}(hk:e.kind=1)(ht:e.to_.length<=281474976710656):EQ oB Ds e:=by intro T W k pA pn pc i j f t oA on oc nA nn nc k' s x A n c hP hr hE hed hN;obtain⟨⟨ps,os,ns,rfl,hp,ho,hn⟩,hT⟩:=hed;have hk1:k=1:=hk;subst hk1;have hpn:=hp.1;subst hpn;exact Ii T _ _ _ _ _ f t ps pA pc k' s x A n c W hN hP.2 (aJ hP.1 (by omega)) hE hp hT ht
def fU(n:Nat):Code->Option Code
 | .region id ops d=>if id=n then some (.region id ops d) else none
 | .seq a b=>match fU n a with|some c=>some c|none=>fU n b
 | .cond _ a b=>match fU n a with|some c=>some c|none=>fU n b
 | .block _ a=>fU n a
 | .loop a=>fU n a
 | .scope a=>fU n a
 |_=>none
structure jp (w0:World) (B:Nat) (e e':aj) (k:Nat) (pA:Option Addr) (pn pc:Nat) (i j:Int) (f t:ByteArray) (oA:Option Addr) (on oc:Nat) (nA:Option Addr) (nn nc:Nat) (k':Nat) (pA':Option Addr) (pn' pc':Nat) (i' j':Int) (f' t':ByteArray) (oA':Option Addr) (on' oc':Nat) (nA':Option Addr) (nn' nc':Nat) (g g':Nat) (w:World):Prop where
 box:aN B (.int .u8 k) (.slice pA pn pc) (.int .i64 i) (.int .i64 j) (.string f) (.string t) (.slice oA on oc) (.slice nA nn nc) (.int .u8 k') (.slice pA' pn' pc') (.int .i64 i') (.int .i64 j') (.string f') (.string t') (.slice oA' on' oc') (.slice nA' nn' nc') w
 bel:Below w0.heap.size w0 w
 sides:∃(mA:Option Addr) (mn mc:Nat) (bA:Option Addr) (bn bc:Nat) (mA':Option Addr) (mn' mc':Nat) (bA':Option Addr) (bn' bc':Nat),
  w.heap[g]? =some (.cells #[.int .u8 k,.slice pA pn pc,.int .i64 i,.int .i64 j,.string f,.string t,.slice oA on oc,.slice nA nn nc,.slice mA mn mc,.slice bA bn bc,.bool e.params,.bool e.calls] 71 (0,0))/\
  w.heap[g']? =some (.cells #[.int .u8 k',.slice pA' pn' pc',.int .i64 i',.int .i64 j',.string f',.string t',.slice oA' on' oc',.slice nA' nn' nc',.slice mA' mn' mc',.slice bA' bn' bc',.bool e'.params,.bool e'.calls] 71 (0,0))/\
  SideArg w e k pA pn pc i j f t oA on oc nA nn nc mA mn mc bA bn bc/\SideArg w e' k' pA' pn' pc' i' j' f' t' oA' on' oc' nA' nn' nc' mA' mn' mc' bA' bn' bc'
theorem mK{w:World}{z:Nat}{v0 v1 v2 v3 v4 v5 v6 v7 v8 v9 v10 v11 x0 x1 x2 x3 x4 x5 x6 x7 x8 x9 x10 x11:Value}{T:TypeId}(h:w.heap[z]? =some (.cells #[x0,x1,x2,x3,x4,x5,x6,x7,x8,x9,x10,x11] T (0,0))):(cA w z v0 v1 v2 v3 v4 v5 v6 v7 v8 v9 v10 v11).heap[z]? =some (.cells #[v0,v1,v2,v3,v4,v5,v6,v7,v8,v9,v10,v11] T (0,0)):=by simp[cA,World.setCell,Array.getElem?_modify,h]
theorem kJ{w:World}{z q:Nat}{v0 v1 v2 v3 v4 v5 v6 v7 v8 v9 v10 v11:Value}(hq:q≠z):(cA w z v0 v1 v2 v3 v4 v5 v6 v7 v8 v9 v10 v11).heap[q]? =w.heap[q]? :=by simp only[cA];repeat rw[aY _ _ _ _ (by exact hq)]
theorem kK{w:World}{z:Nat}{v0 v1 v2 v3 v4 v5 v6 v7 v8 v9 v10 v11:Value}:(cA w z v0 v1 v2 v3 v4 v5 v6 v7 v8 v9 v10 v11).heap.size=w.heap.size:=by simp[cA]
theorem mI{w:World}{z:Nat}{v0 v1 v2 v3 v4 v5 v6 v7 v8 v9 v10 v11:Value}:aU (bf z) w (cA w z v0 v1 v2 v3 v4 v5 v6 v7 v8 v9 v10 v11):=rx (aU.refl _ _) (fQ _)
theorem mJ{B:Nat}{a0 a1 a2 a3 a4 a5 a6 a7 b0 b1 b2 b3 b4 b5 b6 b7:Value}{w:World}{z:Nat}{v0 v1 v2 v3 v4 v5 v6 v7 v8 v9 v10 v11:Value}(h:aN B a0 a1 a2 a3 a4 a5 a6 a7 b0 b1 b2 b3 b4 b5 b6 b7 w)(hz:B+4<=z):aN B a0 a1 a2 a3 a4 a5 a6 a7 b0 b1 b2 b3 b4 b5 b6 b7 (cA w z v0 v1 v2 v3 v4 v5 v6 v7 v8 v9 v10 v11):=by obtain⟨h1,h2,h3,h4⟩:=h;exact⟨(kJ (by omega)).trans h1,(kJ (by omega)).trans h2,(kJ (by omega)).trans h3,(kJ (by omega)).trans h4⟩
theorem lu{w0 W:World}{B g g':Nat}{e e':aj}{k:Nat}{pA:Option Addr}{pn pc:Nat}{i j:Int}{f t:ByteArray}{oA:Option Addr}{on oc:Nat}{nA:Option Addr}{nn nc:Nat}{k':Nat}{pA':Option Addr}{pn' pc':Nat}{i' j':Int}{f' t':ByteArray}{oA':Option Addr}{on' oc':Nat}{nA':Option Addr}{nn' nc':Nat}{mA:Option Addr}{mn mc:Nat}{bA:Option Addr}{bn bc:Nat}{mA':Option Addr}{mn' mc':Nat}{bA':Option Addr}{bn' bc':Nat}{ns ns':List ar}(hwB:w0.heap.size<=B)(h:ay w0 e k pA pn pc i j f t oA on oc nA nn nc)(h':ay w0 e' k' pA' pn' pc' i' j' f' t' oA' on' oc' nA' nn' nc')(hm:∀s,s∈ns↔s∈e.names)(hm':∀s,s∈ns'↔s∈e'.names)(hB:Below w0.heap.size w0 W)(hC:aN B (.int .u8 k) (.slice pA pn pc) (.int .i64 i) (.int .i64 j) (.string f) (.string t) (.slice oA on oc) (.slice nA nn nc) (.int .u8 k') (.slice pA' pn' pc') (.int .i64 i') (.int .i64 j') (.string f') (.string t') (.slice oA' on' oc') (.slice nA' nn' nc') W)(hg:W.heap[g]? =some (.cells #[.int .u8 k,.slice pA pn pc,.int .i64 i,.int .i64 j,.string f,.string t,.slice oA on oc,.slice nA nn nc,.slice mA mn mc,.slice bA bn bc,.bool e.params,.bool e.calls] 71 (0,0)))(hg':W.heap[g']? =some (.cells #[.int .u8 k',.slice pA' pn' pc',.int .i64 i',.int .i64 j',.string f',.string t',.slice oA' on' oc',.slice nA' nn' nc',.slice mA' mn' mc',.slice bA' bn' bc',.bool e'.params,.bool e'.calls] 71 (0,0)))(s1:bW W ns mA mn mc)(s2:bW W e.binds bA bn bc)(s1':bW W ns' mA' mn' mc')(s2':bW W e'.binds bA' bn' bc'):jp w0 B e e' k pA pn pc i j f t oA on oc nA nn nc k' pA' pn' pc' i' j' f' t' oA' on' oc' nA' nn' nc' g g' W:=
 ⟨hC,hB,mA,mn,mc,bA,bn,bc,mA',mn',mc',bA',bn',bc',hg,hg',⟨h.below hB,s2.1,ns,hm,s1.1⟩,⟨h'.below hB,s2'.1,ns',hm',s1'.1⟩⟩
theorem wT{w0 w4:World}{B:Nat}{e e':aj}{k:Nat}{pA:Option Addr}{pn pc:Nat}{i j:Int}{f t:ByteArray}{oA:Option Addr}{on oc:Nat}{nA:Option Addr}{nn nc:Nat}{k':Nat}{pA':Option Addr}{pn' pc':Nat}{i' j':Int}{f' t':ByteArray}{oA':Option Addr}{on' oc':Nat}{nA':Option Addr}{nn' nc':Nat}{mA:Option Addr}{mn mc:Nat}{bA:Option Addr}{bn bc:Nat}{mA':Option Addr}{mn' mc':Nat}{bA':Option Addr}{bn' bc':Nat}{ns ns':List ar}(hwB:w0.heap.size<=B)(h:ay w0 e k pA pn pc i j f t oA on oc nA nn nc)(h':ay w0 e' k' pA' pn' pc' i' j' f' t' oA' on' oc' nA' nn' nc')(hm:∀s,s∈ns↔s∈e.names)(hm':∀s,s∈ns'↔s∈e'.names)(hB:Below w0.heap.size w0 w4)(hC:aN B (.int .u8 k) (.slice pA pn pc) (.int .i64 i) (.int .i64 j) (.string f) (.string t) (.slice oA on oc) (.slice nA nn nc) (.int .u8 k') (.slice pA' pn' pc') (.int .i64 i') (.int .i64 j') (.string f') (.string t') (.slice oA' on' oc') (.slice nA' nn' nc') w4)(s1:bW w4 ns mA mn mc)(s2:bW w4 e.binds bA bn bc)(s1':bW w4 ns' mA' mn' mc')(s2':bW w4 e'.binds bA' bn' bc'):jp w0 B e e' k pA pn pc i j f t oA on oc nA nn nc k' pA' pn' pc' i' j' f' t' oA' on' oc' nA' nn' nc' w4.heap.size (w4.heap.size+1) ((w4.alloc (.cells #[.int .u8 k,.slice pA pn pc,.int .i64 i,.int .i64 j,.string f,.string t,.slice oA on oc,.slice nA nn nc,.slice mA mn mc,.slice bA bn bc,.bool e.params,.bool e.calls] 71)).alloc (.cells #[.int .u8 k',.slice pA' pn' pc',.int .i64 i',.int .i64 j',.string f',.string t',.slice oA' on' oc',.slice nA' nn' nc',.slice mA' mn' mc',.slice bA' bn' bc',.bool e'.params,.bool e'.calls] 71)):=by have hb:Below w4.heap.size w4 ((w4.alloc (.cells #[.int .u8 k,.slice pA pn pc,.int .i64 i,.int .i64 j,.string f,.string t,.slice oA on oc,.slice nA nn nc,.slice mA mn mc,.slice bA bn bc,.bool e.params,.bool e.calls] 71)).alloc (.cells #[.int .u8 k',.slice pA' pn' pc',.int .i64 i',.int .i64 j',.string f',.string t',.slice oA' on' oc',.slice nA' nn' nc',.slice mA' mn' mc',.slice bA' bn' bc',.bool e'.params,.bool e'.calls] 71)):=ba (ba (ai _ _) _) _;exact lu hwB h h' hm hm' (af hB hb) (hC.next hb) ((heap_alloc_old _ _ (by simp)).trans (heap_alloc_new _ _)) (aQ (by simp)) (s1.below hb) (s2.below hb) (s1'.below hb) (s2'.below hb)
theorem wU{w0 w4:World}{B:Nat}{e e':aj}{k:Nat}{pA:Option Addr}{pn pc:Nat}{i j:Int}{f t:ByteArray}{oA:Option Addr}{on oc:Nat}{nA:Option Addr}{nn nc:Nat}{k':Nat}{pA':Option Addr}{pn' pc':Nat}{i' j':Int}{f' t':ByteArray}{oA':Option Addr}{on' oc':Nat}{nA':Option Addr}{nn' nc':Nat}{mA:Option Addr}{mn mc:Nat}{bA:Option Addr}{bn bc:Nat}{mA':Option Addr}{mn' mc':Nat}{bA':Option Addr}{bn' bc':Nat}{ns ns':List ar}(hwB:w0.heap.size<=B)(h:ay w0 e k pA pn pc i j f t oA on oc nA nn nc)(h':ay w0 e' k' pA' pn' pc' i' j' f' t' oA' on' oc' nA' nn' nc')(hm:∀s,s∈ns↔s∈e.names)(hm':∀s,s∈ns'↔s∈e'.names)(hB:Below w0.heap.size w0 w4)(hC:aN B (.int .u8 k) (.slice pA pn pc) (.int .i64 i) (.int .i64 j) (.string f) (.string t) (.slice oA on oc) (.slice nA nn nc) (.int .u8 k') (.slice pA' pn' pc') (.int .i64 i') (.int .i64 j') (.string f') (.string t') (.slice oA' on' oc') (.slice nA' nn' nc') w4)(s1:bW w4 ns mA mn mc)(s2:bW w4 e.binds bA bn bc)(s1':bW w4 ns' mA' mn' mc')(s2':bW w4 e'.binds bA' bn' bc'):jp w0 B e e' k pA pn pc i j f t oA on oc nA nn nc k' pA' pn' pc' i' j' f' t' oA' on' oc' nA' nn' nc' (w4.heap.size+1) w4.heap.size ((w4.alloc (.cells #[.int .u8 k',.slice pA' pn' pc',.int .i64 i',.int .i64 j',.string f',.string t',.slice oA' on' oc',.slice nA' nn' nc',.slice mA' mn' mc',.slice bA' bn' bc',.bool e'.params,.bool e'.calls] 71)).alloc (.cells #[.int .u8 k,.slice pA pn pc,.int .i64 i,.int .i64 j,.string f,.string t,.slice oA on oc,.slice nA nn nc,.slice mA mn mc,.slice bA bn bc,.bool e.params,.bool e.calls] 71)):=by have hb:Below w4.heap.size w4 ((w4.alloc (.cells #[.int .u8 k',.slice pA' pn' pc',.int .i64 i',.int .i64 j',.string f',.string t',.slice oA' on' oc',.slice nA' nn' nc',.slice mA' mn' mc',.slice bA' bn' bc',.bool e'.params,.bool e'.calls] 71)).alloc (.cells #[.int .u8 k,.slice pA pn pc,.int .i64 i,.int .i64 j,.string f,.string t,.slice oA on oc,.slice nA nn nc,.slice mA mn mc,.slice bA bn bc,.bool e.params,.bool e.calls] 71)):=ba (ba (ai _ _) _) _;exact lu hwB h h' hm hm' (af hB hb) (hC.next hb) (aQ (by simp)) ((heap_alloc_old _ _ (by simp)).trans (heap_alloc_new _ _)) (s1.below hb) (s2.below hb) (s1'.below hb) (s2'.below hb)
theorem qS{w0 w4:World}{B z:Nat}{e e':aj}{k:Nat}{pA:Option Addr}{pn pc:Nat}{i j:Int}{f t:ByteArray}{oA:Option Addr}{on oc:Nat}{nA:Option Addr}{nn nc:Nat}{k':Nat}{pA':Option Addr}{pn' pc':Nat}{i' j':Int}{f' t':ByteArray}{oA':Option Addr}{on' oc':Nat}{nA':Option Addr}{nn' nc':Nat}{mA:Option Addr}{mn mc:Nat}{bA:Option Addr}{bn bc:Nat}{mA':Option Addr}{mn' mc':Nat}{bA':Option Addr}{bn' bc':Nat}{ns ns':List ar}(hwB:w0.heap.size<=B)(h:ay w0 e k pA pn pc i j f t oA on oc nA nn nc)(h':ay w0 e' k' pA' pn' pc' i' j' f' t' oA' on' oc' nA' nn' nc')(hm:∀s,s∈ns↔s∈e.names)(hm':∀s,s∈ns'↔s∈e'.names)(hB:Below w0.heap.size w0 w4)(hC:aN B (.int .u8 k) (.slice pA pn pc) (.int .i64 i) (.int .i64 j) (.string f) (.string t) (.slice oA on oc) (.slice nA nn nc) (.int .u8 k') (.slice pA' pn' pc') (.int .i64 i') (.int .i64 j') (.string f') (.string t') (.slice oA' on' oc') (.slice nA' nn' nc') w4)(hz:bF w4 z)(hzB:B+4<=z)(s1:bW w4 ns mA mn mc)(s2:bW w4 e.binds bA bn bc)(s1':bW w4 ns' mA' mn' mc')(s2':bW w4 e'.binds bA' bn' bc'):jp w0 B e e' k pA pn pc i j f t oA on oc nA nn nc k' pA' pn' pc' i' j' f' t' oA' on' oc' nA' nn' nc' z w4.heap.size ((cA w4 z (.int .u8 k) (.slice pA pn pc) (.int .i64 i) (.int .i64 j) (.string f) (.string t) (.slice oA on oc) (.slice nA nn nc) (.slice mA mn mc) (.slice bA bn bc) (.bool e.params) (.bool e.calls)).alloc (.cells #[.int .u8 k',.slice pA' pn' pc',.int .i64 i',.int .i64 j',.string f',.string t',.slice oA' on' oc',.slice nA' nn' nc',.slice mA' mn' mc',.slice bA' bn' bc',.bool e'.params,.bool e'.calls] 71)):=by have hl:=hz.lt;have hb1:aU (bf z) w4 (cA w4 z (.int .u8 k) (.slice pA pn pc) (.int .i64 i) (.int .i64 j) (.string f) (.string t) (.slice oA on oc) (.slice nA nn nc) (.slice mA mn mc) (.slice bA bn bc) (.bool e.params) (.bool e.calls)):=mI;have hb:Below (cA w4 z (.int .u8 k) (.slice pA pn pc) (.int .i64 i) (.int .i64 j) (.string f) (.string t) (.slice oA on oc) (.slice nA nn nc) (.slice mA mn mc) (.slice bA bn bc) (.bool e.params) (.bool e.calls)).heap.size (cA w4 z (.int .u8 k) (.slice pA pn pc) (.int .i64 i) (.int .i64 j) (.string f) (.string t) (.slice oA on oc) (.slice nA nn nc) (.slice mA mn mc) (.slice bA bn bc) (.bool e.params) (.bool e.calls)) ((cA w4 z (.int .u8 k) (.slice pA pn pc) (.int .i64 i) (.int .i64 j) (.string f) (.string t) (.slice oA on oc) (.slice nA nn nc) (.slice mA mn mc) (.slice bA bn bc) (.bool e.params) (.bool e.calls)).alloc (.cells #[.int .u8 k',.slice pA' pn' pc',.int .i64 i',.int .i64 j',.string f',.string t',.slice oA' on' oc',.slice nA' nn' nc',.slice mA' mn' mc',.slice bA' bn' bc',.bool e'.params,.bool e'.calls] 71)):=ba (ai _ _) _;have hty:71≠9:=(by decide);exact lu hwB h h' hm hm' ((lE hB (by omega)).trans (hb.mono (by rw[kK];exact hB.size))) ((mJ hC hzB).next hb) ((heap_alloc_old _ _ (by rw[kK];exact hl)).trans (mK hz)) (aQ kK) ((s1.but hz hty hb1).below hb) ((s2.but hz hty hb1).below hb) ((s1'.but hz hty hb1).below hb) ((s2'.but hz hty hb1).below hb)
theorem qT{w0 w4:World}{B z:Nat}{e e':aj}{k:Nat}{pA:Option Addr}{pn pc:Nat}{i j:Int}{f t:ByteArray}{oA:Option Addr}{on oc:Nat}{nA:Option Addr}{nn nc:Nat}{k':Nat}{pA':Option Addr}{pn' pc':Nat}{i' j':Int}{f' t':ByteArray}{oA':Option Addr}{on' oc':Nat}{nA':Option Addr}{nn' nc':Nat}{mA:Option Addr}{mn mc:Nat}{bA:Option Addr}{bn bc:Nat}{mA':Option Addr}{mn' mc':Nat}{bA':Option Addr}{bn' bc':Nat}{ns ns':List ar}(hwB:w0.heap.size<=B)(h:ay w0 e k pA pn pc i j f t oA on oc nA nn nc)(h':ay w0 e' k' pA' pn' pc' i' j' f' t' oA' on' oc' nA' nn' nc')(hm:∀s,s∈ns↔s∈e.names)(hm':∀s,s∈ns'↔s∈e'.names)(hB:Below w0.heap.size w0 w4)(hC:aN B (.int .u8 k) (.slice pA pn pc) (.int .i64 i) (.int .i64 j) (.string f) (.string t) (.slice oA on oc) (.slice nA nn nc) (.int .u8 k') (.slice pA' pn' pc') (.int .i64 i') (.int .i64 j') (.string f') (.string t') (.slice oA' on' oc') (.slice nA' nn' nc') w4)(hz:bF w4 z)(hzB:B+4<=z)(s1:bW w4 ns mA mn mc)(s2:bW w4 e.binds bA bn bc)(s1':bW w4 ns' mA' mn' mc')(s2':bW w4 e'.binds bA' bn' bc'):jp w0 B e e' k pA pn pc i j f t oA on oc nA nn nc k' pA' pn' pc' i' j' f' t' oA' on' oc' nA' nn' nc' w4.heap.size z ((cA w4 z (.int .u8 k') (.slice pA' pn' pc') (.int .i64 i') (.int .i64 j') (.string f') (.string t') (.slice oA' on' oc') (.slice nA' nn' nc') (.slice mA' mn' mc') (.slice bA' bn' bc') (.bool e'.params) (.bool e'.calls)).alloc (.cells #[.int .u8 k,.slice pA pn pc,.int .i64 i,.int .i64 j,.string f,.string t,.slice oA on oc,.slice nA nn nc,.slice mA mn mc,.slice bA bn bc,.bool e.params,.bool e.calls] 71)):=by have hl:=hz.lt;have hb1:aU (bf z) w4 (cA w4 z (.int .u8 k') (.slice pA' pn' pc') (.int .i64 i') (.int .i64 j') (.string f') (.string t') (.slice oA' on' oc') (.slice nA' nn' nc') (.slice mA' mn' mc') (.slice bA' bn' bc') (.bool e'.params) (.bool e'.calls)):=mI;have hb:Below (cA w4 z (.int .u8 k') (.slice pA' pn' pc') (.int .i64 i') (.int .i64 j') (.string f') (.string t') (.slice oA' on' oc') (.slice nA' nn' nc') (.slice mA' mn' mc') (.slice bA' bn' bc') (.bool e'.params) (.bool e'.calls)).heap.size (cA w4 z (.int .u8 k') (.slice pA' pn' pc') (.int .i64 i') (.int .i64 j') (.string f') (.string t') (.slice oA' on' oc') (.slice nA' nn' nc') (.slice mA' mn' mc') (.slice bA' bn' bc') (.bool e'.params) (.bool e'.calls)) ((cA w4 z (.int .u8 k') (.slice pA' pn' pc') (.int .i64 i') (.int .i64 j') (.string f') (.string t') (.slice oA' on' oc') (.slice nA' nn' nc') (.slice mA' mn' mc') (.slice bA' bn' bc') (.bool e'.params) (.bool e'.calls)).alloc (.cells #[.int .u8 k,.slice pA pn pc,.int .i64 i,.int .i64 j,.string f,.string t,.slice oA on oc,.slice nA nn nc,.slice mA mn mc,.slice bA bn bc,.bool e.params,.bool e.calls] 71)):=ba (ai _ _) _;have hty:71≠9:=(by decide);exact lu hwB h h' hm hm' ((lE hB (by omega)).trans (hb.mono (by rw[kK];exact hB.size))) ((mJ hC hzB).next hb) (aQ kK) ((heap_alloc_old _ _ (by rw[kK];exact hl)).trans (mK hz)) ((s1.but hz hty hb1).below hb) ((s2.but hz hty hb1).below hb) ((s1'.but hz hty hb1).below hb) ((s2'.but hz hty hb1).below hb)
theorem Dy{w0 w4:World}{B z z':Nat}{e e':aj}{k:Nat}{pA:Option Addr}{pn pc:Nat}{i j:Int}{f t:ByteArray}{oA:Option Addr}{on oc:Nat}{nA:Option Addr}{nn nc:Nat}{k':Nat}{pA':Option Addr}{pn' pc':Nat}{i' j':Int}{f' t':ByteArray}{oA':Option Addr}{on' oc':Nat}{nA':Option Addr}{nn' nc':Nat}{mA:Option Addr}{mn mc:Nat}{bA:Option Addr}{bn bc:Nat}{mA':Option Addr}{mn' mc':Nat}{bA':Option Addr}{bn' bc':Nat}{ns ns':List ar}(hwB:w0.heap.size<=B)(h:ay w0 e k pA pn pc i j f t oA on oc nA nn nc)(h':ay w0 e' k' pA' pn' pc' i' j' f' t' oA' on' oc' nA' nn' nc')(hm:∀s,s∈ns↔s∈e.names)(hm':∀s,s∈ns'↔s∈e'.names)(hB:Below w0.heap.size w0 w4)(hC:aN B (.int .u8 k) (.slice pA pn pc) (.int .i64 i) (.int .i64 j) (.string f) (.string t) (.slice oA on oc) (.slice nA nn nc) (.int .u8 k') (.slice pA' pn' pc') (.int .i64 i') (.int .i64 j') (.string f') (.string t') (.slice oA' on' oc') (.slice nA' nn' nc') w4)(hz:bF w4 z)(hzB:B+4<=z)(hz':bF w4 z')(hzB':B+4<=z')(hne:z≠z')(s1:bW w4 ns mA mn mc)(s2:bW w4 e.binds bA bn bc)(s1':bW w4 ns' mA' mn' mc')(s2':bW w4 e'.binds bA' bn' bc'):jp w0 B e e' k pA pn pc i j f t oA on oc nA nn nc k' pA' pn' pc' i' j' f' t' oA' on' oc' nA' nn' nc' z z' (cA (cA w4 z (.int .u8 k) (.slice pA pn pc) (.int .i64 i) (.int .i64 j) (.string f) (.string t) (.slice oA on oc) (.slice nA nn nc) (.slice mA mn mc) (.slice bA bn bc) (.bool e.params) (.bool e.calls)) z' (.int .u8 k') (.slice pA' pn' pc') (.int .i64 i') (.int .i64 j') (.string f') (.string t') (.slice oA' on' oc') (.slice nA' nn' nc') (.slice mA' mn' mc') (.slice bA' bn' bc') (.bool e'.params) (.bool e'.calls)):=by have hb1:aU (bf z) w4 (cA w4 z (.int .u8 k) (.slice pA pn pc) (.int .i64 i) (.int .i64 j) (.string f) (.string t) (.slice oA on oc) (.slice nA nn nc) (.slice mA mn mc) (.slice bA bn bc) (.bool e.params) (.bool e.calls)):=mI;have hb2:aU (bf z') (cA w4 z (.int .u8 k) (.slice pA pn pc) (.int .i64 i) (.int .i64 j) (.string f) (.string t) (.slice oA on oc) (.slice nA nn nc) (.slice mA mn mc) (.slice bA bn bc) (.bool e.params) (.bool e.calls)) (cA (cA w4 z (.int .u8 k) (.slice pA pn pc) (.int .i64 i) (.int .i64 j) (.string f) (.string t) (.slice oA on oc) (.slice nA nn nc) (.slice mA mn mc) (.slice bA bn bc) (.bool e.params) (.bool e.calls)) z' (.int .u8 k') (.slice pA' pn' pc') (.int .i64 i') (.int .i64 j') (.string f') (.string t') (.slice oA' on' oc') (.slice nA' nn' nc') (.slice mA' mn' mc') (.slice bA' bn' bc') (.bool e'.params) (.bool e'.calls)):=mI;have hty:71≠9:=(by decide);have hz2:bF (cA w4 z (.int .u8 k) (.slice pA pn pc) (.int .i64 i) (.int .i64 j) (.string f) (.string t) (.slice oA on oc) (.slice nA nn nc) (.slice mA mn mc) (.slice bA bn bc) (.bool e.params) (.bool e.calls)) z':=(kJ (Ne.symm hne)).trans hz';exact lu hwB h h' hm hm' (lE (lE hB (by omega)) (by omega)) (mJ (mJ hC hzB) hzB') ((kJ hne).trans (mK hz)) (mK hz2) ((s1.but hz hty hb1).but hz2 hty hb2) ((s2.but hz hty hb1).but hz2 hty hb2) ((s1'.but hz hty hb1).but hz2 hty hb2) ((s2'.but hz hty hb1).but hz2 hty hb2)
end Go.Proofs.YtckbdkgcoilmpaaGreatDoor
