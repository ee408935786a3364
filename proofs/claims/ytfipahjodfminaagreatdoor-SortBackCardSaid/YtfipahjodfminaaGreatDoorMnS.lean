/- Part 19 of the proof. -/
import Derived.RangeFuncNested
import Derived.RangeFuncLeaves
import Derived.RangeFuncCalls
import Derived.RangeFuncRecord
import Derived.BigFrameIn
import Derived.Test.YtfipahjodfminaaGreatDoorMnR
namespace Go.Proofs.YtfipahjodfminaaGreatDoor
open Go.RowKit
set_option linter.all false
set_option maxHeartbeats 40000000
set_option maxRecDepth 100000
def KU(s:ar)(kz:List ag):Prop:=∃toks,Kb s= .ok toks/\JE toks 80 [] 0=some kz/\(toks.all fun t=>decide (t.text.length<=100000))=true/\(match toks.getLast? with|some t=>t.kind == 5|none=>false)=true/\toks.length<=100000/\vr 40 (.node 1 [] 0 kz)=true
theorem Pi{toks:List bi}(h1:(toks.all fun t=>decide (t.text.length<=100000))=true)(h2:(match toks.getLast? with|some t=>t.kind == 5|none=>false)=true):ii toks:=by
 refine⟨fun t ht=>by have:=List.all_eq_true.1 h1 t ht;simpa using this,fun i t hi hk=>?_⟩;rcases Nat.lt_or_ge (i+1) toks.length with h|h
 .exact h
 .exfalso;have hl:=(gl.1 hi).1;have he:toks.getLast?=some t:=(by rw[List.getLast?_eq_getElem?,show toks.length - 1=i from by omega];exact hi);rw[he] at h2;simp at h2;exact hk h2
def J3(t:ag)(w:World)(e:Ending)(w':World):Prop:=Below w.heap.size w w'/\∃A c,e= .returned (.agg #[.int .u8 t.kind,.string (sb t.text),.int .i64 t.num,.slice A t.kids.length c])/\cf (cX w' w.heap.size) t t.kind (sb t.text) t.num A t.kids.length c
theorem P9{w W:World}{t:ag}{A:Option Addr}{c:Nat}(hb:Below w.heap.size w W)(hw:w.heap.size<W.heap.size)(hN:cf (cX W (w.heap.size+1)) t t.kind (sb t.text) t.num A t.kids.length c)(v0 v1 v2 v3:Value)(O:Obj):J3 t w (.returned (.agg #[.int .u8 t.kind,.string (sb t.text),.int .i64 t.num,.slice A t.kids.length c])) (((((W.setCell ⟨w.heap.size,0,none⟩ v0).setCell ⟨w.heap.size,1,none⟩ v1).setCell ⟨w.heap.size,2,none⟩ v2).setCell ⟨w.heap.size,3,none⟩ v3).alloc O):=by refine⟨((((hb.setCell (p:=⟨_,_,none⟩) (ah _) v0).setCell (p:=⟨_,_,none⟩) (ah _) v1).setCell (p:=⟨_,_,none⟩) (ah _) v2).setCell (p:=⟨_,_,none⟩) (ah _) v3).alloc (by simp;omega) O,A,c,rfl,?_⟩;refine cf.sinceOf (N:=w.heap.size+1) (by omega) (fun q h1 h2=>?_) hN;have hA:∀(V:World)(o:Obj)(r:Nat)(_:r<V.heap.size),(V.alloc o).heap[r]? =V.heap[r]?:=fun V o r h=>((Below.refl V.heap.size V).alloc (Nat.le_refl _) o).block r h;rw[hA _ _ _ (by simpa using h2),aY _ _ _ _ (show q≠w.heap.size by omega),aY _ _ _ _ (show q≠w.heap.size by omega),aY _ _ _ _ (show q≠w.heap.size by omega),aY _ _ _ _ (show q≠w.heap.size by omega)]
theorem Qa{w W:World}{t:ag}{A:Option Addr}{c:Nat}(hb:Below w.heap.size w W)(hw:w.heap.size<W.heap.size)(hN:cf (cX W (w.heap.size+1)) t t.kind (sb t.text) t.num A t.kids.length c)(v0 v1 v2 v3:Value)(O O2:Obj):J3 t w (.returned (.agg #[.int .u8 t.kind,.string (sb t.text),.int .i64 t.num,.slice A t.kids.length c])) ((((((W.setCell ⟨w.heap.size,0,none⟩ v0).setCell ⟨w.heap.size,1,none⟩ v1).setCell ⟨w.heap.size,2,none⟩ v2).setCell ⟨w.heap.size,3,none⟩ v3).alloc O).alloc O2):=by refine⟨(((((hb.setCell (p:=⟨_,_,none⟩) (ah _) v0).setCell (p:=⟨_,_,none⟩) (ah _) v1).setCell (p:=⟨_,_,none⟩) (ah _) v2).setCell (p:=⟨_,_,none⟩) (ah _) v3).alloc (by simp;omega) O).alloc (by simp;omega) O2,A,c,rfl,?_⟩;refine cf.sinceOf (N:=w.heap.size+1) (by omega) (fun q h1 h2=>?_) hN;have hA:∀(V:World)(o:Obj)(r:Nat)(_:r<V.heap.size),(V.alloc o).heap[r]? =V.heap[r]?:=fun V o r h=>((Below.refl V.heap.size V).alloc (Nat.le_refl _) o).block r h;rw[hA _ _ _ (by simp;omega),hA _ _ _ (by simpa using h2),aY _ _ _ _ (show q≠w.heap.size by omega),aY _ _ _ _ (show q≠w.heap.size by omega),aY _ _ _ _ (show q≠w.heap.size by omega),aY _ _ _ _ (show q≠w.heap.size by omega)]
theorem Ns(s:ByteArray)(kz:List ag)(w:World)(hp:KU (bl s) kz)(hsz:s.size<=1073741824):Calls Tryz.prog 17 #[.string s] w (J3 (.node 1 [] 0 kz) w):=by
 obtain⟨toks,h1,h2,h3,h4,h5,h6⟩:=hp;have HF:=ab (Pi h3 h4);have H1:=ab h1;have H2:=ab h2;have H6:=ab h6;clear h1 h2 h3 h4 h6;have HB0:Hid (Below w.heap.size w (w.alloc (.cells Z4 25))):=bz_alloc (ai _ _) _
 go_in
 go_wp2_with fail;refine(QT s toks 80 kz _ H1.out H2.out HF.out (by omega) h5 hsz H6.out).mono ?_;rintro en w1 ⟨hb,A,c,he,hn⟩;obtain rfl:en= .returned (.tuple #[.agg #[.int .u8 1,.string (sb []),.int .i64 0,.slice A kz.length c],.agg #[.int .i64 0,.int .i64 0]]):=he;have HB1:=ab (HB0.out.trans (hb.mono (by simp)));have HN1:Hid (cf (cX w1 (w.heap.size+1)) (.node 1 [] 0 kz) 1 (sb []) 0 A kz.length c):=hn.sinceLow (by simp);have hbox:w1.heap[w.heap.size]? =some (.cells Z4 25 (0,0)):=(hb.block _ (by simp)).trans (heap_alloc_new _ _);clear hb hn;have hsz1:=(aK.1 hbox).1;obtain⟨c0,c1,c2,c3,f0,f1,f2,f3⟩:=di hbox;clear hbox;go_wp2_with fail;obtain⟨a0,a1,a2,a3⟩:=mL (v0:=.int .u8 1) (v1:=.string (sb [])) (v2:=.int .i64 0) (v3:=.slice A kz.length c) c0 c1 c2 c3;have hbb:=fun(W:World) (O O2:Obj)=>show Below W.heap.size W ((W.alloc O).alloc O2) from bz_alloc (bz_alloc (ai _ _) _) _;have A0:=ab (ac (hbb _ (.cells #[.int .u8 1,.string (sb []),.int .i64 0,.slice A kz.length c] 25) (.cells #[.int .i64 0,.int .i64 0] 76)) a0);have A1:=ab (ac (hbb _ (.cells #[.int .u8 1,.string (sb []),.int .i64 0,.slice A kz.length c] 25) (.cells #[.int .i64 0,.int .i64 0] 76)) a1);have A2:=ab (ac (hbb _ (.cells #[.int .u8 1,.string (sb []),.int .i64 0,.slice A kz.length c] 25) (.cells #[.int .i64 0,.int .i64 0] 76)) a2);have A3:=ab (ac (hbb _ (.cells #[.int .u8 1,.string (sb []),.int .i64 0,.slice A kz.length c] 25) (.cells #[.int .i64 0,.int .i64 0] 76)) a3);exact bodyPost_ret (v:=.agg #[.int .u8 1,.string (sb []),.int .i64 0,.slice A kz.length c]) (by simp[results,Tryz.results17,go_sem,A0.out,A1.out,A2.out,A3.out]) rfl (Qa (t:=.node 1 [] 0 kz) HB1.out hsz1 HN1.out _ _ _ _ _ _)
theorem LY{W:World}{t u:ag}{k:Nat}{s:ByteArray}{x:Int}{A:Option Addr}{n c i:Nat}(h:cf W t k s x A n c)(hu:t.kids[i]? =some u):∃b o A' c',A=some ⟨b,o,none⟩/\W.cell? ⟨b,o+i*4,none⟩=some (.int .u8 u.kind)/\W.cell? ⟨b,o+i*4+1,none⟩=some (.string (sb u.text))/\W.cell? ⟨b,o+i*4+2,none⟩=some (.int .i64 u.num)/\W.cell? ⟨b,o+i*4+3,none⟩=some (.slice A' u.kids.length c')/\cf W u u.kind (sb u.text) u.num A' u.kids.length c':=by obtain⟨ks,rfl,_,_,_,hK⟩:=h;have hu:ks[i]? =some u:=hu;have hi:i<n:=(by rw[hK.1];exact(gl.1 hu).1);obtain⟨b,o,u',rfl,hu',hat⟩:=hK.get hi;rw[hu] at hu';injection hu' with hu';subst hu';obtain⟨A',c',h0,h1,h2,h3,hn⟩:=hat.cells;exact⟨b,o,A',c',rfl,h0,h1,h2,h3,hn⟩
theorem Nt(s s':ByteArray)(nf np:ar)(t:ag)(p:ag)(ts:List ag)(w:World)(hs':((⟨#[102,117,110,99,32,102,40,97,41,32,123,32]⟩:ByteArray)++s)++(⟨#[32,125]⟩:ByteArray)=s')(hp:KU (bl s') [.node 2 nf 0 [p,.node 5 np 0 (t::ts)]])(hsz:s'.size<=100000)(hss:s.size<=100000):Calls Tryz.prog 18 #[.string s] w (J3 t w):=by
 have HP:=ab hp;clear hp;have HB0:Hid (Below w.heap.size w (w.alloc (.cells Z4 25))):=bz_alloc (ai _ _) _
 go_in
 go_wp2_with fail;refine(Ns s' _ _ HP.out (by omega)).mono ?_;rintro en w1 ⟨hb,A,c,he,hn⟩;obtain rfl:en= .returned (.agg #[.int .u8 1,.string (sb []),.int .i64 0,.slice A 1 c]):=he;have HB1:=ab (HB0.out.trans (hb.mono (by simp)));have hn1:cf (cX w1 (w.heap.size+1)) (.node 1 [] 0 [.node 2 nf 0 [p,.node 5 np 0 (t::ts)]]) 1 (sb []) 0 A 1 c:=hn.sinceLow (by simp);have hbox:w1.heap[w.heap.size]? =some (.cells Z4 25 (0,0)):=(hb.block _ (by simp)).trans (heap_alloc_new _ _);have hsz1:=(aK.1 hbox).1;obtain⟨b1,o1,A1,d1,rfl,_,_,_,E1,hm1⟩:=LY (i:=0) hn1 rfl;obtain⟨b2,o2,A2,d2,rfl,_,_,_,E2,hm2⟩:=LY (i:=1) hm1 rfl;obtain⟨b3,o3,A3,d3,rfl,K0,K1,K2,K3,hm3⟩:=LY (i:=0) hm2 rfl;have e1:w1.cell? ⟨b1,o1+3,none⟩=some (.slice (some ⟨b2,o2,none⟩) 2 d1):=(by have h:=(i8.1 E1).2;rw[Nat.zero_mul,Nat.add_zero] at h;exact h);have e2:w1.cell? ⟨b2,o2+4+3,none⟩=some (.slice (some ⟨b3,o3,none⟩) (ts.length+1) d2):=(by have h:=(i8.1 E2).2;rw[Nat.one_mul] at h;exact h);have k0:=(i8.1 K0).2;have k1:=(i8.1 K1).2;have k2:=(i8.1 K2).2;have k3:=(i8.1 K3).2;rw[Nat.zero_mul,Nat.add_zero] at k0 k1 k2 k3;clear E1 E2 K0 K1 K2 K3;have HM:=ab hm3;have z1:=bK e1;have z2:=bK e2;have z3:=bK k0;clear hb hn hn1 hm1 hm2 hm3;obtain⟨c0,c1,c2,c3,f0,f1,f2,f3⟩:=di hbox;clear hbox;go_wp2_with fail;obtain⟨a0,a1,a2,a3⟩:=mL (v0:=.int .u8 t.kind) (v1:=.string (sb t.text)) (v2:=.int .i64 t.num) (v3:=.slice A3 t.kids.length d3) c0 c1 c2 c3;have hbb:=fun(W:World) (O:Obj)=>show Below W.heap.size W (W.alloc O) from bz_alloc (ai _ _) _;have A0:=ab (ac (hbb _ (.cells #[.int .u8 1,.string (sb []),.int .i64 0,.slice (some ⟨b1,o1,none⟩) 1 c] 25)) a0);have A1:=ab (ac (hbb _ (.cells #[.int .u8 1,.string (sb []),.int .i64 0,.slice (some ⟨b1,o1,none⟩) 1 c] 25)) a1);have A2:=ab (ac (hbb _ (.cells #[.int .u8 1,.string (sb []),.int .i64 0,.slice (some ⟨b1,o1,none⟩) 1 c] 25)) a2);have A9:=ab (ac (hbb _ (.cells #[.int .u8 1,.string (sb []),.int .i64 0,.slice (some ⟨b1,o1,none⟩) 1 c] 25)) a3);exact bodyPost_ret (v:=.agg #[.int .u8 t.kind,.string (sb t.text),.int .i64 t.num,.slice A3 t.kids.length d3]) (by simp[results,Tryz.results18,go_sem,A0.out,A1.out,A2.out,A9.out]) rfl (P9 (t:=t) HB1.out hsz1 HM.out _ _ _ _ _)
def Jf:ag:=.node 6 [97] 0 [.node 20 [] 1 []]
theorem QN:KU [102,117,110,99,32,102,40,97,41,32,123,32,118,97,114,32,97,32,61,32,49,59,32,125] [.node 2 [102] 0 [.node 3 [] 0 [.node 4 [97] 0 []],.node 5 [] 0 [Jf]]]:=⟨_,rfl,by kernel_rfl,by kernel_rfl,by kernel_rfl,by decide,by kernel_rfl⟩
theorem RJ(w:World):Calls Tryz.prog 18 #[.string ⟨#[118,97,114,32,97,32,61,32,49,59]⟩] w (J3 Jf w):=
 Nt ⟨#[118,97,114,32,97,32,61,32,49,59]⟩ ⟨#[102,117,110,99,32,102,40,97,41,32,123,32,118,97,114,32,97,32,61,32,49,59,32,125]⟩ [102] [] Jf (.node 3 [] 0 [.node 4 [97] 0 []]) [] w (by kernel_rfl) QN (by decide) (by decide)
def JI:ag:=.node 11 [] 0 [.node 22 [97] 0 []]
theorem NT:KU [102,117,110,99,32,102,40,97,41,32,123,32,112,114,105,110,116,32,97,59,32,125] [.node 2 [102] 0 [.node 3 [] 0 [.node 4 [97] 0 []],.node 5 [] 0 [JI]]]:=⟨_,rfl,by kernel_rfl,by kernel_rfl,by kernel_rfl,by decide,by kernel_rfl⟩
theorem RI(w:World):Calls Tryz.prog 18 #[.string ⟨#[112,114,105,110,116,32,97,59]⟩] w (J3 JI w):=
 Nt ⟨#[112,114,105,110,116,32,97,59]⟩ ⟨#[102,117,110,99,32,102,40,97,41,32,123,32,112,114,105,110,116,32,97,59,32,125]⟩ [102] [] JI (.node 3 [] 0 [.node 4 [97] 0 []]) [] w (by kernel_rfl) NT (by decide) (by decide)
def ic(N:Nat)(I:World->Prop):Prop:=(∀A B,I A->Below A.heap.size A B->I B)/\∀(A:World) (l:Nat) (o o':Obj),I A->N<=l->A.heap[l]? =some o->o.isCells=false->I (A.putObj l o')
def lQ(A B:World):Prop:=A.heap.size<=B.heap.size/\∀(k:Nat) (o:Obj),A.heap[k]? =some o->o.isCells=true->B.heap[k]? =some o
theorem lQ.refl(A:World):lQ A A:=⟨ah _,fun _ _ h _=>h⟩
theorem lQ.trans{A B C:World}(h:lQ A B)(h':lQ B C):lQ A C:=⟨aJ h.1 h'.1,fun k o hk ho=>h'.2 k o (h.2 k o hk ho) ho⟩
theorem lQ.below{A B:World}(h:Below A.heap.size A B):lQ A B:=⟨h.size,fun k o hk _=>(h.block k (aK.1 hk).1).trans hk⟩
theorem lQ.put{A:World}{l:Nat}{o:Obj}(o':Obj)(hl:A.heap[l]? =some o)(ho:o.isCells=false):lQ A (A.putObj l o'):=by
 refine⟨by simp,fun k o2 hk hc=>?_⟩;have hne:k≠l:=fun e=>by subst e;rw[hl] at hk;cases hk;rw[ho] at hc;cases hc
 exact(World.putObj_heap_other hne).trans hk
theorem lQ.cell{A B:World}(h:lQ A B){a:Addr}{v:Value}(hc:A.cell? a=some v):B.cell? a=some v:=by obtain⟨o,ho,h1⟩:=cells_of_cell hc;exact(World.cell?_of_block ((h.2 _ o ho h1).trans ho.symm)).trans hc
theorem lQ.frozen{A B:World}(h:lQ A B){a:Addr}{v:Value}(hc:A.cell? a=some v):B.frozen? a=A.frozen? a:=by obtain⟨o,ho,h1⟩:=cells_of_cell hc;exact World.frozen?_of_block ((h.2 _ o ho h1).trans ho.symm)
abbrev I9:=List (List Int×List Int)
structure PV where
 uA:Option Addr
 ul:Nat
 uc:Nat
 bA:Option Addr
 bl:Nat
 bc:Nat
def PV.enc(x:PV):Array Value:=#[.slice x.uA x.ul x.uc,.slice x.bA x.bl x.bc]
def PV.is(x:PV)(W:World)(p:List Int×List Int):Prop:=cc W p.1 x.uA x.ul x.uc/\cc W p.2 x.bA x.bl x.bc
theorem PV.is.kept{x:PV}{A B:World}{p:List Int×List Int}(h:x.is A p)(hk:lQ A B):x.is B p:=⟨h.1.keep fun _ _ hc=>hk.cell hc,h.2.keep fun _ _ hc=>hk.cell hc⟩
def MH(F:Fence)(n:Nat)(P:Program)(g:Nat)(lb:Array Value)(all:I9)(w:World):Prop:=
 ∀(l:Nat) (J:I9->World->Prop) (Jx:World->Prop) (W:World),Below w.heap.size w W->
  (∀pre A B,J pre A->Below A.heap.size A B->J pre B)->(∀A B,Jx A->Below A.heap.size A B->Jx B)->
  (∀pre p x W1,J pre W1->(pre++[p])<+:all->PV.is x W1 p->YieldAt F (n - 1) P l x.enc W1 fun e W'=>(e= .returned (.bool true)/\J (pre++[p]) W'/\lQ W1 W')∨(e= .returned (.bool false)/\Jx W'))->
  J [] W->
  CallsIn F n P g (#[.func (.yield l) #[] #[]]++lb) W fun e W'=>(∃v,e= .returned v)/\(J all W'∨Jx W')
def QM(I:I9->World->Prop)(Ix:World->Prop)(pre:I9)(W:World):Exit->Act->World->Prop
 | .normal,_,W'=>Below W.heap.size W W'/\I pre W'
 | .ret,_,W'=>KeepsOthers W W'/\Ix W'
 | .exit _,_,_=>False
 | .goto _,_,_=>False
 | .panic _,_,_=>False
 | .outgrown,_,_=>False
variable {F:Fence} {n:Nat} {P:Program}
theorem OC{g:Operand}{ps:Array Tmp}{assign body:Code}{Q:Exit->Act->World->Prop}{a:Act}{w:World}(hro:F.round=none)(h1:1<=n){gf:Nat}{lb:Array Value}(hg:a.eval g= .func (.func gf) #[] lb)(hFg:F.fn gf)(eg:∀args w,(callFunc gf args).run P w= .ok (.enter gf args) w){all:I9}{w0:World}(hseq:MH F (n - 1) P gf lb all w0)(hb0:Below w0.heap.size w0 w)(hps:ps.size=2)(I:I9->World->Prop)(Ix:World->Prop)(hI:∀pre,ic w.heap.size (I pre))(hIx:ic w.heap.size Ix)(h0:I [] w)(a₁:PV->Act)(hassign:∀(l:Nat) (x:PV) (W:World) (K:Act->World->Prop),K (a₁ x) W->assign.wpIn (F.inRound l) (n - 1 - 1) P (Exit.then K (fun _ _ _=>False)) { tmps:=(ps.zip x.enc).foldl (fun t (p,v)=>t.setIfInBounds p v) a.tmps,defers:=[] } W)(hbody:∀(l:Nat) (pre:I9) (p:List Int×List Int) (x:PV) (W:World),I pre W->(pre++[p])<+:all->x.is W p->body.wpIn (F.inRound l) (n - 1 - 1) P (QM I Ix (pre++[p]) W) (a₁ x) W)(hdone:∀(D:Nat) (W:World),w.heap.size<=D->I all W->W.heap[D]? =some (.deferred (some []))->Q .normal { a with defers:={ target:=.collected D,args:=#[] } ::a.defers } W)(hstop:∀(D:Nat) (W:World),w.heap.size<=D->Ix W->W.heap[D]? =some (.deferred (some []))->Code.ret.wpIn F n P Q { a with defers:={ target:=.collected D,args:=#[] } ::a.defers } W):(Code.rangeFunc g ps assign body).wpIn F n P Q a w:=by
 refine wpIn_rangeFunc ?_;intro fn hfn;rw[hro];obtain⟨rec,hrec⟩:∃rec:LoopState->Option Code->Loop,rec=fun st pe=>{ state:=st,pending:=pe,fn,tmps:=a.tmps,params:=ps,assign,body,defers:=w.heap.size }:=⟨_,rfl⟩;obtain⟨W1,hW1⟩:∃W1,(w.alloc (.deferred (some []))).alloc (.loop (rec .ready none))=W1:=⟨_,rfl⟩;have hL1:W1.heap[w.heap.size+1]? =some (.loop (rec .ready none)):=by rw[<-hW1];have:=World.alloc_heap_new (w.alloc (.deferred (some []))) (.loop (rec .ready none));rwa [World.size_alloc] at this
 have hK1:W1.heap[w.heap.size]? =some (.deferred (some [])):=by rw[<-hW1];exact(Below.heap_alloc _ _ _ (by simp)).trans (World.alloc_heap_new w _)
 have hbw:Below w.heap.size w W1:=by rw[<-hW1];exact((ai _ w).alloc (ah _) _).alloc (by simp) _
 refine⟨w.heap.size+1,[{ target:=.collected w.heap.size,args:=#[] }],W1,{ target:=.fn (.func gf) lb,args:=#[.func (.yield (w.heap.size+1)) #[] #[]] },W1,gf,
  #[.func (.yield (w.heap.size+1)) #[] #[]]++lb,W1,?_,?_,?_,?_,fun _=>h1,?_⟩
 .rw[<-hW1,hrec];exact run_enterLoop_outer _ _ _ _ _
 .simp only[resolve,hg];simp[go_sem]
 .intro f' hf';simp[Target.leads] at hf';subst hf';exact hFg
 .simp[invoke,go_sem,eg]
 .refine(hseq (w.heap.size+1)
   (fun pre W=>I pre W/\W.heap[w.heap.size+1]? =some (.loop (rec .ready none))/\W.heap[w.heap.size]? =some (.deferred (some [])))
   (fun W=>Ix W/\W.heap[w.heap.size+1]? =some (.loop (rec .done (some .ret)))/\W.heap[w.heap.size]? =some (.deferred (some [])))
   W1 (hb0.trans (hbw.mono hb0.size))
   (fun pre A B hs hb=>⟨(hI pre).1 A B hs.1 hb,(hb.block _ (aK.1 hs.2.1).1).trans hs.2.1,(hb.block _ (aK.1 hs.2.2).1).trans hs.2.2⟩)
   (fun A B hs hb=>⟨hIx.1 A B hs.1 hb,(hb.block _ (aK.1 hs.2.1).1).trans hs.2.1,(hb.block _ (aK.1 hs.2.2).1).trans hs.2.2⟩)
   ?_ ⟨(hI []).1 w W1 h0 hbw,hL1,hK1⟩).mono ?_
  ·
   rintro pre p x W ⟨hi,hl,hk⟩ hpre hx;have hlt:w.heap.size+1<W.heap.size:=(aK.1 hl).1;have hy:=run_yield (P:=P) (args:=x.enc) hl (by rw[hrec];exact hps.symm);rw[hrec] at hy;refine⟨fn,_,assign,body,hy,roundIn_of_wpIn hfn (hassign _ x W _ ⟨_,run_beginRound hl (by rw[hrec]),?_⟩)⟩;have hl2:(W.putObj (w.heap.size+1) (.loop { rec .ready none with state:=.busy })).heap[w.heap.size+1]? =some (.loop { rec .ready none with state:=.busy }):=World.putObj_heap_same hlt;have hk2:(W.putObj (w.heap.size+1) (.loop { rec .ready none with state:=.busy })).heap[w.heap.size]? =some (.deferred (some [])):=(World.putObj_heap_other (by omega)).trans hk;have hc2:lQ W (W.putObj (w.heap.size+1) (.loop { rec .ready none with state:=.busy })):=lQ.put _ hl rfl;refine wpIn_mono (hbody _ pre p x _ ((hI pre).2 W _ _ _ hi (by omega) hl rfl) hpre (hx.kept hc2)) ?_;have fin:∀(jump:Option Code) (W3:World),KeepsOthers (W.putObj (w.heap.size+1) (.loop { rec .ready none with state:=.busy })) W3->
    (Instr.endRound (w.heap.size+1) jump).run P W3= .ok (.bool jump.isNone) (W3.putObj (w.heap.size+1) (.loop (rec (if jump.isNone then .ready else .done) jump)))/\
    W3.heap[w.heap.size+1]? =some (.loop { rec .ready none with state:=.busy })/\
    (W3.putObj (w.heap.size+1) (.loop (rec (if jump.isNone then .ready else .done) jump))).heap[w.heap.size+1]? =some (.loop (rec (if jump.isNone then .ready else .done) jump))/\
    (W3.putObj (w.heap.size+1) (.loop (rec (if jump.isNone then .ready else .done) jump))).heap[w.heap.size]? =some (.deferred (some [])):=fun jump W3 hk3=>by
    have hl3:=hk3.same _ _ hl2 rfl;have:=run_endRound (P:=P) jump hl3;rw[hrec] at this ⊢;exact⟨this,by rw[hrec] at hl3;exact hl3,World.putObj_heap_same (aK.1 hl3).1,(World.putObj_heap_other (by omega)).trans (hk3.same _ _ hk2 rfl)⟩
   rintro e a3 W3 hp;cases e with
   |normal=>obtain⟨hb3,hi3⟩:=hp;have hk3:KeepsOthers (W.putObj (w.heap.size+1) (.loop { rec .ready none with state:=.busy })) W3:=⟨hb3.size,fun k o ho _=>(hb3.block k (aK.1 ho).1).trans ho⟩;obtain⟨hr,hl3,hl4,hk4⟩:=fin none W3 hk3;exact⟨_,_,hr,.inl ⟨rfl,⟨(hI _).2 _ _ _ _ hi3 (by omega) hl3 rfl,hl4,hk4⟩,(hc2.trans (lQ.below hb3)).trans (lQ.put _ hl3 rfl)⟩⟩
   |ret=>obtain⟨hk3,hi3⟩:=hp;obtain⟨hr,hl3,hl4,hk4⟩:=fin (some .ret) W3 hk3;exact⟨_,_,hr,.inr ⟨rfl,hIx.2 _ _ _ _ hi3 (by omega) hl3 rfl,hl4,hk4⟩⟩
   |exit id=>exact hp.elim
   |goto t=>exact hp.elim
   |panic ch=>exact hp.elim
   |outgrown=>exact hp.elim
  ·
   rintro e W2 ⟨⟨v,rfl⟩,(⟨hi,hl,hk⟩|⟨hi,hl,hk⟩)⟩
   .exact⟨none,_,by have:=run_endLoop (P:=P) hl (by rw[hrec];simp);rw[hrec] at this;exact this,hdone _ _ (ah _) ((hI _).2 _ _ _ _ hi (by omega) hl rfl) ((World.putObj_heap_other (by omega)).trans hk)⟩
   .exact⟨some .ret,_,by have:=run_endLoop (P:=P) hl (by rw[hrec];simp);rw[hrec] at this;exact this,hstop _ _ (ah _) (hIx.2 _ _ _ _ hi (by omega) hl rfl) ((World.putObj_heap_other (by omega)).trans hk)⟩
def b7:List Int->ag->Option ag
 |[],t=>some t
 |z::p,.node _ _ _ ks=>if z<0 then none else(ks[z.toNat]?).bind (b7 p)
def s8(f:ag->Option ag):List Int->ag->Option ag
 |[],t=>f t
 |z::p,.node k s x ks=>if z<0 then none else(ks[z.toNat]?).bind fun t=>(s8 f p t).map fun t'=>.node k s x (ks.set z.toNat t')
def JR(k:Nat):Bool:=k == 1 || k == 3 || k == 5
inductive Kd where
 |ins (i:Int) (n:ag)
 |del (i:Int) (o:ag)
 |mov (i j:Int) (o:ag)
 |rep (o n:ag)
def Kd.inv:Kd->Kd
 | .ins i n=>.del i n
 | .del i o=>.ins i o
 | .mov i j o=>.mov j i o
 | .rep o n=>.rep n o
def Kd.ok:Kd->Prop
 | .ins i _=>0<=i
 | .del i _=>0<=i
 | .mov i j _=>0<=i/\0<=j
 | .rep _ _=>True
def Kd.lone:Kd->Bool
 | .rep _ _=>false
 |_=>true
instance decTree:DecidableEq ag:=fun a b=>decidable_of_iff (a.same b=true) (Kq a b)
def Kd.kids:Kd->List ag->Option (List ag)
 | .ins i n,ks=>if i.toNat<=ks.length then some (ks.insertIdx i.toNat n) else none
 | .del i o,ks=>if ks[i.toNat]? =some o then some (ks.eraseIdx i.toNat) else none
 | .mov i j o,ks=>if ks[i.toNat]? =some o/\j.toNat<ks.length then some ((ks.eraseIdx i.toNat).insertIdx j.toNat o) else none
 | .rep _ _,_=>none
def Kd.run:Kd->ag->Option ag
 | .rep o n,t=>if t=o then some n else none
 |d,.node k s x ks=>if JR k then(d.kids ks).map fun ks'=>.node k s x ks' else none
def Kd.sig:Kd->Int->Option Int
 | .ins i _,k=>some (jd i k)
 | .del i _,k=>if k=i then none else some (cF i k)
 | .mov i j _,k=>if k=i then none else some (jd j (cF i k))
 | .rep _ _,_=>none
def Kd.act(d:Kd):List Int->List Int->Option (List Int)
 |[],[]=>if d.lone then some [] else none
 |[],k::r=>(d.sig k).map (· ::r)
 |_::_,[]=>some []
 |z::p,k::r=>if z=k then(d.act p r).map (z:: ·) else some (k::r)
theorem KO{z k:Int}{p r:List Int}:bu (k::r) (z::p)=(z == k && bu r p):=by unfold bu;rw[List.isPrefixOf_cons_cons]
theorem JF{z k:Int}{p r:List Int}{f:Int->Int}:CB (k::r) (z::p) f=if z=k then k::CB r p f else k::r:=by
 unfold CB;rw[KO];by_cases h:z=k
 .subst h;simp only[beq_self_eq_true,Bool.true_and,if_true];split
  .unfold fo;simp only[List.length_cons,List.getElem?_cons_succ];split<;>simp
  .rfl
 .simp[h]
theorem JX{k:Int}{r:List Int}{f:Int->Int}:CB (k::r) [] f=f k::r:=by simp[CB,bu,fo]
theorem tt{p:List Int}{f:Int->Int}:CB [] p f=[]:=by unfold CB fo;split<;>simp
theorem ML{i:Int}{n:ag}:∀(p u:List Int),(Kd.ins i n).act p u=some (fO u p i)
 |[],[]=>by simp[Kd.act,Kd.lone,fO,tt]
 |[],k::r=>by simp[Kd.act,Kd.sig,fO,JX]
 |z::p,[]=>by simp[Kd.act,fO,tt]
 |z::p,k::r=>by
  have ih:=ML (i:=i) (n:=n) p r;unfold fO at ih ⊢;rw[JF];by_cases h:z=k
  .subst h;simp[Kd.act,ih]
  .simp[Kd.act,h]
theorem Pq{z k:Int}{p r:List Int}{i:Int}:fN (k::r) (z::p) i=(z == k && fN r p i):=by unfold fN;rw[KO];simp only[List.length_cons,Nat.add_lt_add_iff_right,List.getElem?_cons_succ];cases z == k<;>simp
theorem MK{i:Int}{o:ag}:∀(p u:List Int),(Kd.del i o).act p u=dR u p i
 |[],[]=>by simp[Kd.act,Kd.lone,dR,fN,tt]
 |[],k::r=>by
  unfold dR;simp only[Kd.act,Kd.sig,fN,JX];by_cases h:k=i
  .subst h;simp[bu]
  .simp[bu,h]
 |z::p,[]=>by simp[Kd.act,dR,fN,tt]
 |z::p,k::r=>by
  have ih:=MK (i:=i) (o:=o) p r;unfold dR at ih ⊢;rw[JF,Pq];by_cases h:z=k
  .subst h;simp only[Kd.act,if_true,ih,beq_self_eq_true,Bool.true_and];split<;>rfl
  .simp[Kd.act,h]
theorem LI{i j:Int}{o:ag}:∀(p u:List Int),(Kd.mov i j o).act p u=if bu u (p++[i]) then none else some (eT u p i j)
 |[],[]=>by simp[Kd.act,Kd.lone,bu,eT,tt]
 |[],k::r=>by
  unfold eT;simp only[Kd.act,Kd.sig,List.nil_append,JX,KO];by_cases h:k=i
  .subst h;simp[bu]
  .have h':¬i=k:=fun e=>h e.symm;simp[h,h']
 |z::p,[]=>by simp[Kd.act,bu,eT,tt]
 |z::p,k::r=>by
  have ih:=LI (i:=i) (j:=j) (o:=o) p r;unfold eT at ih ⊢;rw[JF,List.cons_append,KO];by_cases h:z=k
  .subst h;simp only[Kd.act,if_true,ih,beq_self_eq_true,Bool.true_and];split<;>rfl
  .simp[Kd.act,h]
theorem MN{o n:ag}:∀(p u:List Int),(Kd.rep o n).act p u=if bu u p then none else some u
 |[],[]=>by simp[Kd.act,Kd.lone,bu]
 |[],k::r=>by simp[Kd.act,Kd.sig,bu]
 |z::p,[]=>by simp[Kd.act,bu]
 |z::p,k::r=>by
  have ih:=MN (o:=o) (n:=n) p r;rw[KO];by_cases h:z=k
  .subst h;simp only[Kd.act,if_true,ih,beq_self_eq_true,Bool.true_and];split<;>rfl
  .simp[Kd.act,h]
def aj.kd(e:aj):Kd:=
 if e.kind=2 then .ins e.at_ (e.news.headD default) else if e.kind=3 then .del e.at_ (e.olds.headD default)
 else if e.kind=5 then .mov e.at_ e.far (e.olds.headD default) else .rep (e.olds.headD default) (e.news.headD default)
theorem OQ{e:aj}(h:e.kind=2∨e.kind=3∨e.kind=4∨e.kind=5)(u:List Int):e.kd.act e.path u=Ml e u:=by
 unfold aj.kd Ml;rcases h with h|h|h|h<;>simp only[h]
 .exact ML _ _
 .exact MK _ _
 .exact MN _ _
 .exact LI _ _
theorem Oi{d:Kd}(h:d.ok){k k':Int}:d.sig k=some k'↔d.inv.sig k'=some k:=by
 cases d with
 |ins i n=>
  unfold Kd.sig Kd.inv jd cF;simp only[Option.some.injEq];constructor
  .intro h;split at h
   .rw[if_neg (by omega),if_pos (by omega)];congr 1;omega
   .rw[if_neg (by omega),if_neg (by omega)];congr 1;omega
  .intro h;split at h
   .cases h
   .split at h<;>injection h with h
    .rw[if_pos (by omega)];omega
    .rw[if_neg (by omega)];omega
 |del i n=>
  unfold Kd.sig Kd.inv jd cF;simp only[Option.some.injEq];constructor
  .intro h;split at h
   .cases h
   .split at h<;>injection h with h
    .rw[if_pos (by omega)];omega
    .rw[if_neg (by omega)];omega
  .intro h;split at h
   .rw[if_neg (by omega),if_pos (by omega)];congr 1;omega
   .rw[if_neg (by omega),if_neg (by omega)];congr 1;omega
 |mov i j o=>
  have g:∀(i j k k':Int),(if k=i then none else some (jd j (cF i k)))=some k'->(if k'=j then none else some (jd i (cF j k')))=some k:=by
   intro i j k k' h;unfold jd cF at h ⊢;by_cases h1:k=i
   .rw[if_pos h1] at h;cases h
   rw[if_neg h1,Option.some.injEq] at h;by_cases h2:i<k
   .rw[if_pos h2] at h;by_cases h3:j<=k - 1
    .rw[if_pos h3] at h;subst h;rw[if_neg (by omega),show(if j<k - 1+1 then k - 1+1 - 1 else k - 1+1)=k - 1 from by rw[if_pos (by omega)];omega,if_pos (by omega)];congr 1;omega
    .rw[if_neg h3] at h;subst h;rw[if_neg (by omega),show(if j<k - 1 then k - 1 - 1 else k - 1)=k - 1 from if_neg (by omega),if_pos (by omega)];congr 1;omega
   .rw[if_neg h2] at h;by_cases h3:j<=k
    .rw[if_pos h3] at h;subst h;rw[if_neg (by omega),show(if j<k+1 then k+1 - 1 else k+1)=k from by rw[if_pos (by omega)];omega,if_neg (by omega)]
    .rw[if_neg h3] at h;subst h;rw[if_neg (by omega),show(if j<k then k - 1 else k)=k from if_neg (by omega),if_neg (by omega)]
  exact⟨g i j k k',g j i k' k⟩
 |rep o n=>simp[Kd.sig,Kd.inv]
theorem MM{d:Kd}(h:d.ok):∀(p u u':List Int),d.act p u=some u'↔d.inv.act p u'=some u
 |[],[],u'=>by
  have hl:d.inv.lone=d.lone:=by cases d<;>rfl
  cases u' with
  |nil=>unfold Kd.act;rw[hl]
  |cons k r=>
   unfold Kd.act;constructor
   .intro h;split at h<;>simp at h
   .intro h;cases hs:d.inv.sig k<;>rw[hs] at h<;>simp at h
 |[],k::r,u'=>by
  cases u' with
  |nil=>
   unfold Kd.act;constructor
   .intro h;cases hs:d.sig k<;>rw[hs] at h<;>simp at h
   .intro h;split at h<;>simp at h
  |cons k' r'=>
   unfold Kd.act;have hs:=Oi h (k:=k) (k':=k');cases h1:d.sig k<;>cases h2:d.inv.sig k'<;>simp only[Option.map_none,Option.map_some,Option.some.injEq,List.cons.injEq,reduceCtorEq,false_iff,iff_false,not_and]
   .rintro rfl;exfalso;rw[h1] at hs;have:=hs.2 h2;cases this
   .rintro rfl;exfalso;rw[h2] at hs;have:=hs.1 h1;cases this
   .constructor
    .rintro⟨rfl,rfl⟩;have:=hs.1 h1;rw[h2] at this;exact⟨Option.some.inj this,rfl⟩
    .rintro⟨rfl,rfl⟩;have:=hs.2 h2;rw[h1] at this;exact⟨Option.some.inj this,rfl⟩
 |z::p,[],u'=>by
  cases u' with
  |nil=>simp[Kd.act]
  |cons k' r'=>
   simp only[Kd.act];constructor
   .intro h;cases h
   .intro h;split at h
    .cases h2:d.inv.act p r'<;>rw[h2] at h<;>simp at h
    .cases h
 |z::p,k::r,u'=>by
  cases u' with
  |nil=>
   simp only[Kd.act];constructor
   .intro h;split at h
    .cases h2:d.act p r<;>rw[h2] at h<;>simp at h
    .cases h
   .intro h;cases h
  |cons k' r'=>
   have ih:=MM h p r r';simp only[Kd.act];by_cases h1:z=k
   .subst h1;by_cases h2:z=k'
    .subst h2;simp only[if_true];cases h3:d.act p r<;>cases h4:d.inv.act p r'<;>simp only[Option.map_none,Option.map_some,Option.some.injEq,List.cons.injEq,true_and,reduceCtorEq,false_iff,iff_false] <;>rw[h3,h4] at ih<;>simpa using ih
    .rw[if_neg h2];simp only[if_true,Option.some.injEq,List.cons.injEq];constructor
     .intro h;cases h3:d.act p r<;>rw[h3] at h<;>simp at h
      exact absurd h.1 h2
     .rintro⟨h,_⟩;exact absurd h.symm h2
   .rw[if_neg h1];by_cases h2:z=k'
    .subst h2;simp only[if_true,Option.some.injEq,List.cons.injEq];constructor
     .rintro⟨h,_⟩;exact absurd h.symm h1
     .intro h;cases h3:d.inv.act p r'<;>rw[h3] at h<;>simp at h
      exact absurd h.1 h1
    .rw[if_neg h2];simp only[Option.some.injEq,List.cons.injEq];constructor
     .rintro⟨rfl,rfl⟩;exact⟨rfl,rfl⟩
     .rintro⟨rfl,rfl⟩;exact⟨rfl,rfl⟩
section
variable {α:Type} {z s:ar} {k:Nat} {x:Int} {ks:List ag} {lab:List Int->α} {out own:Option α}
end
theorem Ba{m:Nat}{r:List Int}{k:Nat}{s:ar}{x:Int}{ks:List ag}:b7 ((m:Int) ::r) (.node k s x ks)=(ks[m]?).bind (b7 r):=by show(if (m:Int)<0 then none else(ks[(m:Int).toNat]?).bind (b7 r))=_;rw[if_neg (by omega),Int.toNat_natCast]
theorem J7{l:List ag}{x:ag}{i j:Nat}:(l.insertIdx i x)[j]? =if j<i then l[j]? else if j=i then if j<=l.length then some x else none else l[j - 1]? :=List.getElem?_insertIdx
theorem PI{d:Kd}(hd:d.lone=true)(hok:d.ok){ks ks1:List ag}(h:d.kids ks=some ks1){w w0:Int}(hw:0<=w)(hs:d.inv.sig w=some w0):0<=w0/\ks1[w.toNat]? =ks[w0.toNat]? /\∀v,d.kids (ks.set w0.toNat v)=some (ks1.set w.toNat v):=by
 obtain⟨w,rfl⟩:=Int.eq_ofNat_of_zero_le hw;cases d with
 |rep=>cases hd
 |ins i n=>
  obtain⟨i,rfl⟩:=Int.eq_ofNat_of_zero_le hok;simp only[Kd.kids,Int.toNat_natCast] at h ⊢;split at h
  .rename_i hi;cases h
   simp only[Kd.inv,Kd.sig,cF] at hs;split at hs
   .cases hs
   .rename_i hne;have hne':w≠i:=fun e=>hne (by rw[e]);obtain⟨m,hm,hm2⟩:∃m:Nat,w0=m/\m=if i<w then w - 1 else w:=by
     injection hs with hs;split at hs
     .exact⟨w - 1,by omega,by rw[if_pos (by omega)]⟩
     .exact⟨w,hs.symm,by rw[if_neg (by omega)]⟩
    subst hm;simp only[Int.toNat_natCast];refine⟨by omega,?_,fun v=>?_⟩
    .rw[J7,hm2];by_cases h1:w<i
     .rw[if_pos h1,if_neg (by omega)]
     .rw[if_neg h1,if_neg hne',if_pos (by omega)]
    .rw[if_pos (by simpa using hi)]
     congr 1
     refine List.ext_getElem? fun a=>?_;rw[J7,List.getElem?_set,List.getElem?_set,List.getElem?_set,J7,List.length_set,List.length_insertIdx,if_pos hi];by_cases h1:a<i
     .rw[if_pos h1,if_pos h1];by_cases h2:w=a
      .have:m=a:=(by rw[hm2,if_neg (by omega)];exact h2);rw[if_pos this,if_pos h2];by_cases h3:m<ks.length
       .rw[if_pos h3,if_pos (by omega)]
       .rw[if_neg h3,if_neg (by omega)]
      .have:m≠a:=by rw[hm2];split<;>omega
       rw[if_neg this,if_neg h2]
     .rw[if_neg h1,if_neg h1];by_cases h2:a=i
      .rw[if_pos h2,if_pos h2,if_neg (by omega:¬w=a)]
      .rw[if_neg h2,if_neg h2];by_cases h3:w=a
       .have:m=a - 1:=(by rw[hm2,if_pos (by omega)];omega);rw[if_pos this,if_pos h3];by_cases h4:m<ks.length
        .rw[if_pos h4,if_pos (by omega)]
        .rw[if_neg h4,if_neg (by omega)]
       .have:m≠a - 1:=by rw[hm2];split<;>omega
        rw[if_neg this,if_neg h3]
  .cases h
 |del i o=>
  obtain⟨i,rfl⟩:=Int.eq_ofNat_of_zero_le hok;simp only[Kd.kids,Int.toNat_natCast] at h ⊢;split at h
  .rename_i hi;cases h
   have hil:i<ks.length:=(gl.1 hi).1;simp only[Kd.inv,Kd.sig,jd] at hs;obtain⟨m,hm,hm2⟩:∃m:Nat,w0=m/\m=if i<=w then w+1 else w:=by
    injection hs with hs;split at hs
    .exact⟨w+1,by omega,by rw[if_pos (by omega)]⟩
    .exact⟨w,hs.symm,by rw[if_neg (by omega)]⟩
   subst hm;simp only[Int.toNat_natCast];have hmi:m≠i:=by rw[hm2];split<;>omega
   refine⟨by omega,?_,fun v=>?_⟩
   .rw[List.getElem?_eraseIdx,hm2];split
    .rw[if_neg (by omega)]
    .rw[if_pos (by omega)]
   .rw[if_pos (by rw[List.getElem?_set,if_neg hmi];exact hi)]
    congr 1
    refine List.ext_getElem? fun a=>?_;rw[List.getElem?_eraseIdx,List.getElem?_set,List.getElem?_set,List.getElem?_set,List.getElem?_eraseIdx,List.length_eraseIdx,if_pos hil];by_cases h1:a<i
    .rw[if_pos h1,if_pos h1];by_cases h2:w=a
     .have:m=a:=(by rw[hm2,if_neg (by omega)];exact h2);rw[if_pos this,if_pos h2,if_pos (by omega),if_pos (by omega)]
     .have:m≠a:=by rw[hm2];split<;>omega
      rw[if_neg this,if_neg h2]
    .rw[if_neg h1,if_neg h1];by_cases h2:w=a
     .have:m=a+1:=(by rw[hm2,if_pos (by omega)];omega);rw[if_pos this,if_pos h2];by_cases h4:m<ks.length
      .rw[if_pos h4,if_pos (by omega)]
      .rw[if_neg h4,if_neg (by omega)]
     .have:m≠a+1:=by rw[hm2];split<;>omega
      rw[if_neg this,if_neg h2]
  .cases h
 |mov i j o=>
  obtain⟨hi0,hj0⟩:=hok;obtain⟨i,rfl⟩:=Int.eq_ofNat_of_zero_le hi0;obtain⟨j,rfl⟩:=Int.eq_ofNat_of_zero_le hj0;simp only[Kd.kids,Int.toNat_natCast] at h ⊢;split at h
  .rename_i hij;obtain⟨hi,hj⟩:=hij;cases h
   have hil:i<ks.length:=(gl.1 hi).1;simp only[Kd.inv,Kd.sig] at hs;split at hs
   .cases hs
   .rename_i hne;have hne':w≠j:=fun e=>hne (by rw[e]);obtain⟨l,hl2⟩:∃l:Nat,l=if j<w then w - 1 else w:=⟨_,rfl⟩
    have hl3:cF (j:Int) (w:Int)=(l:Int):=by
     unfold cF;rw[hl2];by_cases h1:j<w
     .rw[if_pos (by omega),if_pos h1];omega
     .rw[if_neg (by omega),if_neg h1]
    rw[hl3] at hs;unfold jd at hs;obtain⟨m,hm,hm2⟩:∃m:Nat,w0=m/\m=if i<=l then l+1 else l:=by
     injection hs with hs;split at hs
     .exact⟨l+1,by omega,by rw[if_pos (by omega)]⟩
     .exact⟨l,hs.symm,by rw[if_neg (by omega)]⟩
    subst hm;simp only[Int.toNat_natCast];have hmi:m≠i:=by rw[hm2];split<;>omega
    have hlen:(ks.eraseIdx i).length=ks.length - 1:=(by rw[List.length_eraseIdx,if_pos hil]);have e1:∀b:Nat,(b=l)->(ks.eraseIdx i)[b]? =ks[m]? :=fun b hb=>by
     rw[List.getElem?_eraseIdx,hm2,hb];split
     .rw[if_neg (by omega)]
     .rw[if_pos (by omega)]
    have e2:∀(b:Nat) v,((ks.set m v).eraseIdx i)[b]? =if l=b then(if m<ks.length then some v else none) else(ks.eraseIdx i)[b]? :=fun b v=>by
     rw[List.getElem?_eraseIdx,List.getElem?_set,List.getElem?_set,List.getElem?_eraseIdx];by_cases h1:b<i
     .rw[if_pos h1,if_pos h1];by_cases h2:l=b
      .rw[if_pos h2,if_pos (by rw[hm2,if_neg (by omega)];exact h2)]
      .rw[if_neg h2,if_neg (by rw[hm2];split<;>omega)]
     .rw[if_neg h1,if_neg h1];by_cases h2:l=b
      .rw[if_pos h2,if_pos (by rw[hm2,if_pos (by omega)];omega)]
      .rw[if_neg h2,if_neg (by rw[hm2];split<;>omega)]
    refine⟨by omega,?_,fun v=>?_⟩
    .rw[J7];by_cases h1:w<j
     .rw[if_pos h1];exact e1 _ (by rw[hl2,if_neg (by omega)])
     .rw[if_neg h1,if_neg hne'];exact e1 _ (by rw[hl2,if_pos (by omega)])
    .rw[if_pos ⟨by rw[List.getElem?_set,if_neg hmi];exact hi,by simpa using hj⟩]
     congr 1
     refine List.ext_getElem? fun a=>?_;have hlen2:((ks.set m v).eraseIdx i).length=ks.length - 1:=(by rw[List.length_eraseIdx,List.length_set,if_pos hil]);rw[J7,List.getElem?_set,J7,e2,e2,List.length_insertIdx,hlen,hlen2,if_pos (by omega:j<=ks.length - 1)];by_cases h1:a<j
     .rw[if_pos h1,if_pos h1];by_cases h2:w=a
      .have h3:l=a:=(by rw[hl2,if_neg (by omega)];exact h2);rw[if_pos h3,if_pos h2];by_cases h4:m<ks.length
       .rw[if_pos h4,if_pos (by omega)]
       .rw[if_neg h4,if_neg (fun h6=>h4 (by rw[hm2];split<;>omega))]
      .rw[if_neg (by rw[hl2];split<;>omega),if_neg h2]
     .rw[if_neg h1,if_neg h1];by_cases h2:a=j
      .rw[if_pos h2,if_pos h2,if_neg (by omega:¬w=a)]
      .rw[if_neg h2,if_neg h2];by_cases h3:w=a
       .have h5:l=a - 1:=(by rw[hl2,if_pos (by omega)];omega);rw[if_pos h5,if_pos h3];by_cases h4:m<ks.length
        .rw[if_pos h4,if_pos (by have h6:=hm2;split at h6<;>omega)]
        .rw[if_neg h4,if_neg (fun h6=>h4 (by rw[hm2];split<;>omega))]
       .rw[if_neg (by rw[hl2];split<;>omega),if_neg h3]
  .cases h
theorem Rm{e:Kd}(hok:e.ok){z z0:Int}(hz:0<=z)(h:e.sig z=some z0):0<=z0:=by
 cases e with
 |ins i n=>simp only[Kd.sig,jd,Option.some.injEq] at h;split at h<;>omega
 |del i n=>
  simp only[Kd.sig,cF] at h;split at h
  .cases h
  .injection h with h;have:0<=i:=hok;split at h<;>omega
 |mov i j o=>
  simp only[Kd.sig] at h;obtain⟨h1,h2⟩:=hok;split at h
  .cases h
  .injection h with h;have h3:0<=cF i z:=by unfold cF;split<;>omega
   generalize cF i z=y at h h3;unfold jd at h;split at h<;>omega
 |rep o n=>cases h
theorem Ko{d:Kd}(hd:d.lone=true){k:Nat}{s:ar}{x:Int}{ks:List ag}{t':ag}(h:d.run (.node k s x ks)=some t'):JR k=true/\∃ks',d.kids ks=some ks'/\t'= .node k s x ks':=by
 have h':(if JR k then(d.kids ks).map fun ks'=>ag.node k s x ks' else none)=some t':=by
  cases d with
  |rep=>cases hd
  |_=>exact h
 split at h'
 .rename_i hk;cases hks:d.kids ks with
  |none=>rw[hks] at h';cases h'
  |some ks'=>rw[hks] at h';exact⟨hk,ks',rfl,(Option.some.inj h').symm⟩
 .cases h'
theorem Lt{d:Kd}(hd:d.lone=true){k:Nat}{s:ar}{x:Int}{ks ks':List ag}(hk:JR k=true)(h:d.kids ks=some ks'):d.run (.node k s x ks)=some (.node k s x ks'):=by
 have:d.run (.node k s x ks)=(if JR k then(d.kids ks).map fun ks'=>ag.node k s x ks' else none):=by
  cases d with
  |rep=>cases hd
  |_=>rfl
 rw[this,if_pos hk,h];rfl
theorem L5{f:ag->Option ag}{z:Int}{p:List Int}{k:Nat}{s:ar}{x:Int}{ks:List ag}{t':ag}(h:s8 f (z::p) (.node k s x ks)=some t'):0<=z/\∃u u',ks[z.toNat]? =some u/\s8 f p u=some u'/\t'= .node k s x (ks.set z.toNat u'):=by
 unfold s8 at h;split at h
 .cases h
 .rename_i hz;refine⟨by omega,?_⟩;cases hu:ks[z.toNat]? with
  |none=>rw[hu] at h;cases h
  |some u=>
   rw[hu] at h;simp only[Option.bind_some] at h;cases hm:s8 f p u with
   |none=>rw[hm] at h;cases h
   |some u'=>rw[hm] at h;exact⟨u,u',rfl,hm,(Option.some.inj h).symm⟩
theorem NB{f:ag->Option ag}{z:Int}{p:List Int}{k:Nat}{s:ar}{x:Int}{ks:List ag}{u u':ag}(hz:0<=z)(hu:ks[z.toNat]? =some u)(h:s8 f p u=some u'):s8 f (z::p) (.node k s x ks)=some (.node k s x (ks.set z.toNat u')):=by unfold s8;rw[if_neg (by omega),hu];simp only[Option.bind_some,h,Option.map_some]

def ag.useN(r:List Int)(t:ag):Bool:=match b7 r t with
 |some (.node k _ _ _)=>k == 22 || k == 25
 |none=>false
theorem My{m:Nat}{r:List Int}{k:Nat}{s:ar}{x:Int}{ks:List ag}{t:ag}(h:ks[m]? =some t):(ag.node k s x ks).useN ((m:Int) ::r)=t.useN r:=by unfold ag.useN;rw[Ba,h];rfl
theorem Ow{k:Nat}{s:ar}{x:Int}{ks:List ag}:(ag.node k s x ks).useN []=(k == 22 || k == 25):=rfl
theorem Ov{k:Nat}{s:ar}{x:Int}{ks:List ag}{z:Int}{r:List Int}(h:(ag.node k s x ks).useN (z::r)=true):∃(m:Nat) (t:ag),z=m/\ks[m]? =some t/\t.useN r=true:=by
 unfold ag.useN b7 at h;split at h
 .rename_i h1;split at h1
  .cases h1
  .rename_i hz;cases hk:ks[z.toNat]? with
   |none=>rw[hk] at h1;cases h1
   |some t=>refine⟨z.toNat,t,by omega,hk,?_⟩;rw[hk] at h1;have h1:b7 r t=_:=h1;unfold ag.useN;rw[h1];exact h
 .cases h
inductive mc (K:List Int->Bool):List (List Int×Nat)->Nat->Prop
 |nil:mc K [] 0
 |bnd {ev:List (List Int×Nat)} {n:Nat} {p:List Int} (h:mc K ev n) (hp:K p=false):mc K (ev++[(p,n)]) (n+1)
 |use {ev:List (List Int×Nat)} {n:Nat} {p:List Int} {i:Nat} (h:mc K ev n) (hi:i<n) (hp:K p=true):mc K (ev++[(p,i)]) n
theorem mc.lt{K:List Int->Bool}{ev:List (List Int×Nat)}{n:Nat}(h:mc K ev n):∀e∈ev,e.2<n:=by
 induction h with
 |nil=>intro e he;cases he
 |bnd h hp ih=>
  intro e he;rcases List.mem_append.1 he with he|he
  .have:=ih e he;omega
  .obtain rfl:=List.mem_singleton.1 he;simp
 |use h hi hp ih=>
  intro e he;rcases List.mem_append.1 he with he|he
  .exact ih e he
  .obtain rfl:=List.mem_singleton.1 he;exact hi
def u6(ev:List (List Int×Nat))(i:Nat):List (List Int):=(ev.filter fun e=>e.2 == i).map Prod.fst
theorem NU{ev:List (List Int×Nat)}{p:List Int}{j i:Nat}:u6 (ev++[(p,j)]) i=u6 ev i++if j=i then[p] else[]:=by
 unfold u6;rw[List.filter_append,List.map_append];by_cases h:j=i
 .subst h;simp
 .simp[h]
theorem QQ{ev:List (List Int×Nat)}{n:Nat}(h:∀e∈ev,e.2<n):u6 ev n=[]:=by unfold u6;rw[List.filter_eq_nil_iff.2 fun e he=>by have:=h e he;simp;omega];rfl
theorem mc.paths{K:List Int->Bool}{ev:List (List Int×Nat)}{n:Nat}(h:mc K ev n):∀i,i<n->∃b us,u6 ev i=b::us/\K b=false/\∀u∈us,K u=true:=by
 induction h with
 |nil=>intro i hi;omega
 | @bnd ev n p h hp ih=>
  intro i hi;rw[NU];by_cases h1:n=i
  .subst h1;rw[QQ h.lt,if_pos rfl];exact⟨p,[],rfl,hp,by simp⟩
  .rw[if_neg h1,List.append_nil];exact ih i (by omega)
 | @use ev n p j h hj hp ih=>
  intro i hi;obtain⟨b,us,h1,h2,h3⟩:=ih i hi;rw[NU,h1];by_cases h4:j=i
  .subst h4;rw[if_pos rfl];exact⟨b,us++[p],rfl,h2,fun u hu=>by
    rcases List.mem_append.1 hu with hu|hu
    .exact h3 u hu
    .obtain rfl:=List.mem_singleton.1 hu;exact hp⟩
  .rw[if_neg h4,List.append_nil];exact⟨b,us,rfl,h2,h3⟩
structure MG (K:List Int->Bool) (fe:bq) (st:bo) (o:bq) (st':bo):Prop where
 good:mc K st'.ev st'.bs.length
 ids:fv st'.bs.length o
 le:st.bs.length<=st'.bs.length
 evs:∀e∈st.ev,e∈st'.ev
 alls:∀i∈st.all,i∈st'.all
 new:∀i,i<st'.bs.length->i<st.bs.length∨i∈st'.all
structure LD (K:List Int->Bool) (fe:bq) (t:ag) (q:List Int) (st:bo) (o:bq) (st':bo):Prop extends MG K fe st o st' where
 uses:∀r,t.useN r=true->∃i,(q++r,i)∈st'.ev
 calls:∀e∈st'.ev,e∈st.ev∨∃r,e.1=q++r/\∀s x ks,b7 r t=some (.node 25 s x ks)->bn fe s=some e.2
 funs:∀r s x ks,b7 r t=some (.node 2 s x ks)->(bn fe s).getD 0∈st'.all
structure LC (K:List Int->Bool) (fe:bq) (ts:List ag) (q:List Int) (j:Nat) (st:bo) (o:bq) (st':bo):Prop extends MG K fe st o st' where
 uses:∀(m:Nat) t r,ts[m]? =some t->t.useN r=true->∃i,(q++((j+m:Nat):Int) ::r,i)∈st'.ev
 calls:∀e∈st'.ev,e∈st.ev∨∃(m:Nat) (t:ag) (r:List Int),e.1=q++((j+m:Nat):Int) ::r/\ts[m]? =some t/\∀s x ks,b7 r t=some (.node 25 s x ks)->bn fe s=some e.2
 funs:∀(m:Nat) t r s x ks,ts[m]? =some t->b7 r t=some (.node 2 s x ks)->(bn fe s).getD 0∈st'.all
theorem LC.node{K:List Int->Bool}{fe:bq}{k:Nat}{s:ar}{x:Int}{ks:List ag}{q:List Int}{st st1 st':bo}{o own:bq}(h:LC K fe ks q 0 st1 o st')(he:∀e∈st1.ev,e∈st.ev∨e.1=q/\∀s' x' ks',ag.node k s x ks= .node 25 s' x' ks'->bn fe s'=some e.2)(he2:∀e∈st.ev,e∈st1.ev)(hb:st.bs.length<=st1.bs.length)(hbn:∀i,i<st1.bs.length->i<st.bs.length∨i∈st1.all)(ha:∀i∈st.all,i∈st1.all)(hu:k=22∨k=25->∃i,(q,i)∈st1.ev)(hf:k=2->(bn fe s).getD 0∈st1.all)(hi:fv st'.bs.length own):LD K fe (.node k s x ks) q st own st':=by
 refine⟨⟨h.good,hi,aJ hb h.le,fun e hm=>h.evs e (he2 e hm),fun i hm=>h.alls i (ha i hm),fun i hm=>?_⟩,fun r hr=>?_,fun e hm=>?_,fun r s' x' ks' hr=>?_⟩
 .rcases h.new i hm with h1|h1
  .rcases hbn i h1 with h2|h2
   .exact .inl h2
   .exact .inr (h.alls i h2)
  .exact .inr h1
 .cases r with
  |nil=>rw[Ow] at hr;simp only[Bool.or_eq_true,beq_iff_eq] at hr;obtain⟨i,h1⟩:=hu hr;exact⟨i,by rw[List.append_nil];exact h.evs _ h1⟩
  |cons z r=>obtain⟨m,t,rfl,h1,h2⟩:=Ov hr;obtain⟨i,h3⟩:=h.uses m t r h1 h2;exact⟨i,by rwa [Nat.zero_add] at h3⟩
 .rcases h.calls e hm with h1|⟨m,t,r,h1,h2,h3⟩
  .rcases he e h1 with h2|⟨h2,h3⟩
   .exact .inl h2
   .exact .inr ⟨[],by rw[h2,List.append_nil],fun s' x' ks' hg=>h3 s' x' ks' (Option.some.inj hg)⟩
  .exact .inr ⟨(m:Int) ::r,by rw[h1,Nat.zero_add],fun s' x' ks' hg=>h3 s' x' ks' (by rw[Ba,h2] at hg;exact hg)⟩
 .cases r with
  |nil=>have hr:some (ag.node k s x ks)=some (.node 2 s' x' ks'):=hr;injection hr with hr;injection hr with e1 e2;subst e1 e2;exact h.alls _ (hf rfl)
  |cons z r=>
   have hr0:=hr;unfold b7 at hr;split at hr
   .cases hr
   .rename_i hz;cases hk:ks[z.toNat]? with
    |none=>rw[hk] at hr;cases hr
    |some t=>rw[hk] at hr;exact h.funs _ t r s' x' ks' hk hr
mutual
theorem P3 (fe:bq) (K:List Int->Bool):∀(t:ag) (out:List bq) (own:bq) (q:List Int) (st:bo) (o:bq) (st':bo),da fe t out own q st= .ok (o,st')->mc K st.ev st.bs.length->(∀m∈out,fv st.bs.length m)->fv st.bs.length own->fv st.bs.length fe->(∀r,K (q++r)=t.useN r)->LD K fe t q st o st'
 | .node k s x ks,out,own,q,st,o,st',h,hg,ho,hw,hf,hK=>by
  have hK0:K q=(k == 22 || k == 25):=(by have:=hK [];rwa [List.append_nil] at this);have hKk:∀(m:Nat) t r,ks[m]? =some t->K (q++((0+m:Nat):Int) ::r)=t.useN r:=fun m t r ht=>by rw[Nat.zero_add,hK,My ht]
  have hcons:∀m∈own::out,fv st.bs.length m:=fun m hm=>by rcases List.mem_cons.1 hm with rfl|hm;exact hw;exact ho m hm
  unfold da at h;split at h
  .rename_i hk;subst hk;obtain⟨o1,h1,rfl⟩:=Cy h;have hL:=Jo fe K ks (o::out) [] q 0 (st.next.func ((bn fe s).getD 0)) o1 st' h1 hg hcons (fun p hp=>by cases hp) hf hKk;exact hL.node (fun e he=>.inl he) (fun e he=>he) (ah _) (fun i hi=>.inl hi) (fun i hi=>List.mem_append_left _ hi) (by omega) (fun _=>List.mem_append_right _ (List.mem_singleton.2 rfl)) (hw.le hL.le)
  rename_i k2;split at h
  .rename_i hk;subst hk;obtain⟨o1,st1,h1,h2⟩:=i9 h;obtain⟨_,rfl,rfl⟩:=ve h1;have hl1:(st.next.bs++[(s,0)]).length=st.bs.length+1:=(by simp[bo.next]);have hL:=Jo fe K ks out _ q 0 _ o st' h2 (by show mc K (st.ev++[(q,st.bs.length)]) (st.next.bs++[(s,0)]).length;rw[hl1];exact hg.bnd hK0) (fun m hm=>(ho m hm).le (by show _<=(st.next.bs++[(s,0)]).length;omega)) (fun p hp=>by
    show p.2< (st.next.bs++[(s,0)]).length;rw[hl1];rcases List.mem_append.1 hp with hp|hp
    .have:=hw p hp;omega
    .obtain rfl:=List.mem_singleton.1 hp;show st.bs.length<_;omega) (hf.le (by show _<=(st.next.bs++[(s,0)]).length;omega)) hKk
   exact hL.node (fun e he=>by
    rcases List.mem_append.1 he with he|he
    .exact .inl he
    .obtain rfl:=List.mem_singleton.1 he;exact .inr ⟨rfl,fun s' x' ks' e=>by injection e with e;omega⟩) (fun e he=>List.mem_append_left _ he) (by show _<=(st.next.bs++[(s,0)]).length;omega) (fun i hi=>by
    have hi:i< (st.next.bs++[(s,0)]).length:=hi;by_cases h5:i<st.bs.length
    .exact .inl h5
    .exact .inr (List.mem_append_right _ (List.mem_singleton.2 (by show i=st.bs.length;omega)))) (fun i hi=>List.mem_append_left _ hi) (by omega) (by omega) hL.ids
  rename_i k4;split at h
  .rename_i hk;subst hk;obtain⟨o1,h1,rfl⟩:=Cy h;have hL:=Jo fe K ks (o::out) [] q 0 st.next o1 st' h1 hg hcons (fun p hp=>by cases hp) hf hKk;exact hL.node (fun e he=>.inl he) (fun e he=>he) (ah _) (fun i hi=>.inl hi) (fun i hi=>hi) (by omega) (by omega) (hw.le hL.le)
  rename_i k5;split at h
  .rename_i hk;subst hk;split at h
   .cases h
   obtain⟨o1,st1,h1,h2⟩:=i9 h;obtain⟨_,rfl,rfl⟩:=ve h2;have hL:=Jo fe K ks out own q 0 st.next o1 st1 h1 hg ho hw hf hKk;have hT:LD K fe (.node 6 s x ks) q st o1 st1:=hL.node (fun e he=>.inl he) (fun e he=>he) (ah _) (fun i hi=>.inl hi) (fun i hi=>hi) (by omega) (by omega) hL.ids;have hl1:(st1.bs++[(s,0)]).length=st1.bs.length+1:=(by simp);refine⟨⟨by show mc K (st1.ev++[(q,st1.bs.length)]) (st1.bs++[(s,0)]).length;rw[hl1];exact hL.good.bnd hK0,fun p hp=>?_,by show _<=(st1.bs++[(s,0)]).length;have:=hT.le;omega,fun e he=>List.mem_append_left _ (hT.evs e he),fun i hi=>List.mem_append_left _ (hT.alls i hi),fun i hi=>?_⟩,fun r hr=>?_,fun e he=>?_,fun r s' x' ks' hr=>List.mem_append_left _ (hT.funs r s' x' ks' hr)⟩
   .show p.2< (st1.bs++[(s,0)]).length;rw[hl1];rcases List.mem_append.1 hp with hp|hp
    .have:=hL.ids p hp;omega
    .obtain rfl:=List.mem_singleton.1 hp;show st1.bs.length<_;omega
   .have hi:i< (st1.bs++[(s,0)]).length:=hi;by_cases h5:i<st1.bs.length
    .rcases hT.new i h5 with h6|h6
     .exact .inl h6
     .exact .inr (List.mem_append_left _ h6)
    .exact .inr (List.mem_append_right _ (List.mem_singleton.2 (by show i=st1.bs.length;omega)))
   .obtain⟨i,hi⟩:=hT.uses r hr;exact⟨i,List.mem_append_left _ hi⟩
   .rcases List.mem_append.1 he with he|he
    .exact hT.calls e he
    .obtain rfl:=List.mem_singleton.1 he;exact .inr ⟨[],by simp,fun s' x' ks' e=>by have e:=Option.some.inj e;injection e with e;omega⟩
  rename_i k6;split at h
  .rename_i hk;subst hk;obtain⟨st1,h1,h2⟩:=CG h;obtain⟨i,e1,_,rfl⟩:=CC h1;have hi:i<st.bs.length:=Nd hcons e1;have hL:=Jo fe K ks out own q 0 _ o st' h2 (hg.use hi hK0) ho hw hf hKk;exact hL.node (fun e he=>by
    rcases List.mem_append.1 he with he|he
    .exact .inl he
    .obtain rfl:=List.mem_singleton.1 he;exact .inr ⟨rfl,fun s' x' ks' e=>by injection e with e;omega⟩) (fun e he=>List.mem_append_left _ he) (ah _) (fun i hi=>.inl hi) (fun i hi=>hi) (fun _=>⟨i,List.mem_append_right _ (List.mem_singleton.2 rfl)⟩) (by omega) hL.ids
  rename_i k22;split at h
  .rename_i hk;subst hk;obtain⟨st1,h1,h2⟩:=CG h;obtain⟨i,e1,_,rfl⟩:=CC h1;have hi:i<st.bs.length:=Nd (fun m hm=>by obtain rfl:=List.mem_singleton.1 hm;exact hf) e1;have e2:bn fe s=some i:=by
    unfold mb at e1;cases hl:bn fe s with
    |none=>rw[hl] at e1;cases e1
    |some j=>rw[hl] at e1;exact e1
   have hL:=Jo fe K ks out own q 0 _ o st' h2 (hg.use hi hK0) ho hw hf hKk;exact hL.node (fun e he=>by
    rcases List.mem_append.1 he with he|he
    .exact .inl he
    .obtain rfl:=List.mem_singleton.1 he;exact .inr ⟨rfl,fun s' x' ks' e=>by injection e with _ e;subst e;exact e2⟩) (fun e he=>List.mem_append_left _ he) (ah _) (fun i hi=>.inl hi) (fun i hi=>hi) (fun _=>⟨i,List.mem_append_right _ (List.mem_singleton.2 rfl)⟩) (by omega) hL.ids
  .have hL:=Jo fe K ks out own q 0 st.next o st' h hg ho hw hf hKk;exact hL.node (fun e he=>.inl he) (fun e he=>he) (ah _) (fun i hi=>.inl hi) (fun i hi=>hi) (by omega) (by omega) hL.ids
theorem Jo (fe:bq) (K:List Int->Bool):∀(ts:List ag) (out:List bq) (own:bq) (q:List Int) (j:Nat) (st:bo) (o:bq) (st':bo),dq fe ts out own q j st= .ok (o,st')->mc K st.ev st.bs.length->(∀m∈out,fv st.bs.length m)->fv st.bs.length own->fv st.bs.length fe->(∀(m:Nat) t r,ts[m]? =some t->K (q++((j+m:Nat):Int) ::r)=t.useN r)->LC K fe ts q j st o st'
 |[],out,own,q,j,st,o,st',h,hg,ho,hw,hf,hK=>by
  unfold dq at h;cases h
  exact⟨⟨hg,hw,ah _,fun _ h=>h,fun _ h=>h,fun i hi=>.inl hi⟩,fun m t r ht=>by simp at ht,fun e he=>.inl he,fun m t r s x ks ht=>by simp at ht⟩
 |t::ts,out,own,q,j,st,o,st',h,hg,ho,hw,hf,hK=>by
  unfold dq at h;obtain⟨o1,st1,h1,h2⟩:=i9 h;have h3:=P3 fe K t out own (q++[(j:Int)]) st o1 st1 h1 hg ho hw hf (fun r=>by have:=hK 0 t r rfl;rw[List.append_assoc];exact this);have h4:=Jo fe K ts out o1 q (j+1) st1 o st' h2 h3.good (fun m hm=>(ho m hm).le h3.le) h3.ids (hf.le h3.le) (fun m u r hu=>by have:=hK (m+1) u r (by simpa using hu);rwa [show j+(m+1)=j+1+m from by omega] at this);refine⟨⟨h4.good,h4.ids,aJ h3.le h4.le,fun e he=>h4.evs e (h3.evs e he),fun i hi=>h4.alls i (h3.alls i hi),fun i hi=>?_⟩,fun m u r hu hr=>?_,fun e he=>?_,fun m u r s x ks hu hr=>?_⟩
  .rcases h4.new i hi with h5|h5
   .rcases h3.new i h5 with h6|h6
    .exact .inl h6
    .exact .inr (h4.alls i h6)
   .exact .inr h5
  .cases m with
   |zero=>simp at hu;subst hu;obtain⟨i,hi⟩:=h3.uses r hr;exact⟨i,by have:=h4.evs _ hi;simpa using this⟩
   |succ m=>obtain⟨i,hi⟩:=h4.uses m u r (by simpa using hu) hr;exact⟨i,by rwa [show j+(m+1)=j+1+m from by omega]⟩
  .rcases h4.calls e he with h5|⟨m,u,r,h5,h6,h7⟩
   .rcases h3.calls e h5 with h6|⟨r,h6,h7⟩
    .exact .inl h6
    .exact .inr ⟨0,t,r,by rw[h6];simp,rfl,h7⟩
   .exact .inr ⟨m+1,u,r,by rw[h5,show j+(m+1)=j+1+m from by omega],by simpa using h6,h7⟩
  .cases m with
   |zero=>simp at hu;subst hu;exact h4.alls _ (h3.funs r s x ks hr)
   |succ m=>exact h4.funs m u r s x ks (by simpa using hu) hr
theorem Nd {n:Nat} {env:List bq} {s:ar} {i:Nat} (h:∀m∈env,fv n m) (hf:mb env s=some i):i<n:=by
 induction env with
 |nil=>cases hf
 |cons m env ih=>
  unfold mb at hf;cases hl:bn m s with
  |none=>rw[hl] at hf;exact ih (fun m hm=>h m (List.mem_cons_of_mem _ hm)) hf
  |some j=>rw[hl] at hf;injection hf with hf;subst hf;exact PW (h m (List.mem_cons_self ..)) hl
theorem PW {n:Nat} {m:bq} {s:ar} {i:Nat} (h:fv n m) (hl:bn m s=some i):i<n:=by
 induction m with
 |nil=>cases hl
 |cons p m ih=>
  obtain⟨y,j⟩:=p;unfold bn at hl;split at hl
  .injection hl with hl;subst hl;exact h _ (List.mem_cons_self ..)
  .exact ih (fun p hp=>h p (List.mem_cons_of_mem _ hp)) hl
end
theorem Ng(K:List Int->Bool):∀(ts:List ag) (k a0:Nat) (fe:bq) (st:bo) (o:bq) (st':bo),i6 ts k a0 fe st= .ok (o,st')->mc K st.ev st.bs.length->fv st.bs.length fe->(∀(m:Nat) t,ts[m]? =some t->K [((k+m:Nat):Int)]=false)->mc K st'.ev st'.bs.length/\fv st'.bs.length o/\st.bs.length<=st'.bs.length/\(∀s i,bn fe s=some i->bn o s=some i)/\(∀e∈st.ev,e∈st'.ev)/\∀i,i<st'.bs.length->i<st.bs.length∨∃(m:Nat) (t:ag),ts[m]? =some t/\bn o t.text=some i/\([((k+m:Nat):Int)],i)∈st'.ev
 |[],k,a0,fe,st,o,st',h,hg,hf,hK=>by
  unfold i6 at h;cases h
  exact⟨hg,hf,ah _,fun _ _ h=>h,fun _ h=>h,fun i hi=>.inl hi⟩
 |t::ts,k,a0,fe,st,o,st',h,hg,hf,hK=>by
  unfold i6 at h;obtain⟨o1,st1,h1,h2⟩:=i9 h;obtain⟨e0,rfl,rfl⟩:=ve h1;have hl1:(st.bs++[(t.text,0)]).length=st.bs.length+1:=(by simp);obtain⟨g1,g2,g3,g4,g5,g6⟩:=Ng K ts (k+1) _ _ _ _ _ h2 (by
   show mc K (st.ev++[([(k:Int)],st.bs.length)]) (List.mapIdx _ (st.bs++[(t.text,0)])).length;rw[List.length_mapIdx,hl1];exact hg.bnd (hK 0 t rfl)) (fun p hp=>by
    show p.2< (List.mapIdx _ (st.bs++[(t.text,0)])).length;rw[List.length_mapIdx,hl1];rcases List.mem_append.1 hp with hp|hp
    .have:=hf p hp;omega
    .obtain rfl:=List.mem_singleton.1 hp;show st.bs.length<_;omega) (fun m u hu=>by have:=hK (m+1) u (by simpa using hu);rwa [show k+(m+1)=k+1+m from by omega] at this)
  have g3':st.bs.length+1<=st'.bs.length:=by have:(List.mapIdx _ (st.bs++[(t.text,0)])).length<=st'.bs.length:=g3;rwa [List.length_mapIdx,hl1] at this
  refine⟨g1,g2,by omega,fun s i hs=>g4 s i (by rw[DT,hs]),fun e he=>g5 e (List.mem_append_left _ he),fun i hi=>?_⟩;rcases g6 i hi with h3|⟨m,u,h3,h4,h5⟩
  .have h3:i< (List.mapIdx _ (st.bs++[(t.text,0)])).length:=h3;rw[List.length_mapIdx,hl1] at h3;by_cases h6:i<st.bs.length
   .exact .inl h6
   .have:i=st.bs.length:=(by omega);subst this;exact .inr ⟨0,t,rfl,g4 _ _ (by rw[DT,e0];simp),g5 _ (List.mem_append_right _ (List.mem_singleton.2 rfl))⟩
  .exact .inr ⟨m+1,u,by simpa using h3,h4,by rwa [show k+(m+1)=k+1+m from by omega]⟩
structure OL (t:ag) (st:bo):Prop where
 good:mc (fun r=>t.useN r) st.ev st.bs.length
 all:∀i,i<st.bs.length->i∈st.all
 uses:∀r,t.useN r=true->∃i,(r,i)∈st.ev
 fes:∃fe:bq,(∀r i s x ks,(r,i)∈st.ev->b7 r t=some (.node 25 s x ks)->bn fe s=some i)/\(∀(m:Nat) u,t.kids[m]? =some u->∃i,bn fe u.text=some i/\([(m:Int)],i)∈st.ev)
theorem K9{t:ag}{st:bo}(hk:t.kind=1)(hr:pi t=true)(hl:gn t.kids= .ok ([],st)):OL t st:=by
 obtain⟨k,s,x,ks⟩:=t;have hk:k=1:=hk;subst hk;have hF:∀u∈ks,sv u:=CP (t:=.node 1 s x ks) rfl hr;have hl:gn ks= .ok ([],st):=hl;unfold gn at hl;obtain⟨fe,st1,h1,h2⟩:=i9 hl;obtain⟨g1,g2,g3,g4,g5,g6⟩:=Ng (fun r=>(ag.node 1 s x ks).useN r) ks 0 1 [] Cl fe st1 h1 .nil (fun p hp=>by cases hp) (fun m u hu=>by have:(ag.node 1 s x ks).useN ((m:Int) :: [])=u.useN []:=My hu;rw[Nat.zero_add];show(ag.node 1 s x ks).useN ((m:Int) :: [])=false;rw[this];obtain⟨s',x',p,b,rfl,_⟩:=hF u (List.mem_iff_getElem?.2 ⟨m,hu⟩);rfl)
 have hL:=Jo fe (fun r=>(ag.node 1 s x ks).useN r) ks [] [] [] 0 st1.anew.next [] st h2 g1 (fun m hm=>by cases hm) (fun p hp=>by cases hp) g2 (fun m u r hu=>by show(ag.node 1 s x ks).useN (((0+m:Nat):Int) ::r)=_;rw[Nat.zero_add];exact My hu)
 have hfun:∀(m:Nat) u,ks[m]? =some u->(bn fe u.text).getD 0∈st.all:=fun m u hu=>by obtain⟨s',x',p,b,rfl,_⟩:=hF u (List.mem_iff_getElem?.2 ⟨m,hu⟩);exact hL.funs m _ [] s' x' [p,b] hu rfl
 obtain⟨f1,f2,f3⟩:=Du ks 0 1 [] Cl fe st1 h1;refine⟨hL.good,fun i hi=>?_,fun r hu=>?_,fe,fun r i s' x' ks' he hg=>?_,fun m u hu=>?_⟩
 .rcases hL.new i hi with h3|h3
  .rcases g6 i h3 with h4|⟨m,u,h4,h5,_⟩
   .exact absurd h4 (by simp[Cl])
   .have:=hfun m u h4;rw[h5] at this;exact this
  .exact h3
 .cases r with
  |nil=>rw[Ow] at hu;cases hu
  |cons z r=>obtain⟨m,u,rfl,h3,h4⟩:=Ov hu;obtain⟨i,hi⟩:=hL.uses m u r h3 h4;exact⟨i,by simpa using hi⟩
 .rcases hL.calls _ he with h3|⟨m,u,r',h3,h4,h5⟩
  .exfalso;obtain⟨new,e1,e2,_⟩:=f3;have h3:(r,i)∈st1.ev:=h3;rw[e1] at h3;rcases List.mem_append.1 h3 with h3|h3
   .cases h3
   .obtain⟨m,h4,_⟩:=e2 _ h3;have h4:r=[(m:Int)]:=h4;subst h4;rw[Ba] at hg;cases hm:ks[m]? with
    |none=>rw[hm] at hg;cases hg
    |some u=>rw[hm] at hg;have hg:some u=some (ag.node 25 s' x' ks'):=hg;injection hg with hg;obtain⟨s2,x2,p,b,rfl,_⟩:=hF u (List.mem_iff_getElem?.2 ⟨m,hm⟩);injection hg with e;omega
  .have h3:r=[]++((0+m:Nat):Int) ::r':=h3;rw[List.nil_append,Nat.zero_add] at h3;subst h3;exact h5 s' x' ks' (by rw[Ba,h4] at hg;exact hg)
 .obtain⟨i,h3,h4⟩:=f2 m u hu;refine⟨i,h3,hL.evs _ ?_⟩;rwa [Nat.zero_add] at h4
def kb(t:ag):List (List Int×List Int):=(i5 t).flatMap fun b=>b.uses.map fun u=>(u,b.path)
theorem KQ{t:ag}{st:bo}(hk:t.kind=1)(hr:pi t=true)(hl:gn t.kids= .ok ([],st)){u b:List Int}:(u,b)∈kb t↔t.useN u=true/\t.useN b=false/\∃i,(u,i)∈st.ev/\(b,i)∈st.ev:=by
 have hG:=K9 hk hr hl;have hall:=(Dv hl (CP hk hr)).2;have hm:∀{p i},p∈u6 st.ev i↔(p,i)∈st.ev:=fun {p i}=>by
  unfold u6;rw[List.mem_map];constructor
  .rintro⟨e,he,rfl⟩;obtain⟨h1,h2⟩:=List.mem_filter.1 he;have h2:e.2=i:=(by simpa using h2);subst h2;exact h1
  .intro h;exact⟨(p,i),List.mem_filter.2 ⟨h,by simp⟩,rfl⟩
 unfold kb;rw[DF hk hr hl,List.mem_flatMap];constructor
 .rintro⟨bd,h1,h2⟩;obtain⟨i,hi,rfl⟩:=List.mem_map.1 h1;obtain⟨u',hu,h3⟩:=List.mem_map.1 h2;injection h3 with h3 h4;subst h3 h4;obtain⟨b',us,e,k1,k2⟩:=hG.good.paths i (hall i hi).1;obtain⟨p1,p2⟩:=DH (hall i hi).2;have p2':u6 st.ev i=(cy st i).path:: (cy st i).uses:=p2;rw[e] at p2';injection p2' with e1 e2;rw[e2] at k2;refine⟨k2 _ hu,by rw[<-e1];exact k1,i,hm.1 (by rw[show u6 st.ev i=_ from p2];exact List.mem_cons_of_mem _ hu),p1⟩
 .rintro⟨h1,h2,i,h3,h4⟩;have hi:=hG.good.lt _ h3;have hia:=hG.all i hi;obtain⟨b',us,e,k1,k2⟩:=hG.good.paths i hi;have p2:u6 st.ev i=(cy st i).path:: (cy st i).uses:=(DH (hall i hia).2).2;rw[e] at p2;injection p2 with e1 e2;have h3:=hm.2 h3;have h4:=hm.2 h4;rw[e] at h3 h4;have hb:b=b':=by
   rcases List.mem_cons.1 h4 with h4|h4
   .exact h4
   .have:=k2 _ h4;rw[h2] at this;cases this
  have hu:u∈us:=by
   rcases List.mem_cons.1 h3 with h3|h3
   .subst h3;rw[h1] at k1;cases k1
   .exact h3
  exact⟨_,List.mem_map.2 ⟨i,hia,rfl⟩,List.mem_map.2 ⟨u,by rw[<-e2];exact hu,by rw[hb,e1]⟩⟩
def jv(t:ag):Prop:=t.kind=1/\pi t=true/\∃st,gn t.kids= .ok ([],st)
theorem JD{t:ag}:jv t↔(gx t).1=0:=Di.symm
theorem OA{t:ag}(h:jv t){u b c:List Int}(h1:(u,b)∈kb t)(h2:(u,c)∈kb t):b=c:=by
 obtain⟨hk,hr,st,hl⟩:=h;have hF:=CP hk hr;obtain⟨a1,a2,i,a3,a4⟩:=(KQ hk hr hl).1 h1;obtain⟨b1,b2,j,b3,b4⟩:=(KQ hk hr hl).1 h2;have hij:=Et (Eo hl hF) a3 b3;subst hij;have hG:=K9 hk hr hl;obtain⟨b',us,e,k1,k2⟩:=hG.good.paths i (hG.good.lt _ a3);have hm:∀{p},(p,i)∈st.ev->t.useN p=false->p=b':=fun {p} hp hn=>by
  have:p∈u6 st.ev i:=List.mem_map.2 ⟨(p,i),List.mem_filter.2 ⟨hp,by simp⟩,rfl⟩;rw[e] at this;rcases List.mem_cons.1 this with h|h
  .exact h
  .have:=k2 _ h;rw[hn] at this;cases this
 rw[hm a4 a2,hm b4 b2]
theorem RW{t:ag}(h:jv t){u b:List Int}(h1:(u,b)∈kb t):t.useN u=true:=by obtain⟨hk,hr,st,hl⟩:=h;exact((KQ hk hr hl).1 h1).1
theorem RT{t:ag}(h:jv t){u:List Int}(h1:t.useN u=true):∃b,(u,b)∈kb t:=by obtain⟨hk,hr,st,hl⟩:=h;have hG:=K9 hk hr hl;obtain⟨i,hi⟩:=hG.uses u h1;obtain⟨b',us,e,k1,k2⟩:=hG.good.paths i (hG.good.lt _ hi);refine⟨b',(KQ hk hr hl).2 ⟨h1,k1,i,hi,?_⟩⟩;have:b'∈u6 st.ev i:=(by rw[e];exact List.mem_cons_self ..);obtain⟨e',he,rfl⟩:=List.mem_map.1 this;obtain⟨h2,h3⟩:=List.mem_filter.1 he;have h3:e'.2=i:=(by simpa using h3);subst h3;exact h2
def tg(t:ag)(u b:List Int):Bool:=match (kb t).find? fun p=>decide (p.1=u) with
 |some p=>decide (p.2=b)
 |none=>false
theorem Mv{t:ag}(h:jv t){u b:List Int}:tg t u b=true↔(u,b)∈kb t:=by
 unfold tg;cases hf:(kb t).find? fun p=>decide (p.1=u) with
 |none=>simp only[Bool.false_eq_true,false_iff];intro hm;have:=List.find?_eq_none.1 hf _ hm;simp at this
 |some p=>
  have h1:=List.mem_of_find?_eq_some hf;have h2:=List.find?_some hf;have h2:p.1=u:=(by simpa using h2);obtain⟨p1,p2⟩:=p;subst h2;simp only[decide_eq_true_eq];constructor
  .rintro rfl;exact h1
  .intro h3;exact OA h h1 h3
theorem hpo(V:World)(o:Obj){r:Nat}(h:r<V.heap.size):(V.alloc o).heap[r]? =V.heap[r]?:=((Below.refl V.heap.size V).alloc (Nat.le_refl _) o).block r h
end Go.Proofs.YtfipahjodfminaaGreatDoor
