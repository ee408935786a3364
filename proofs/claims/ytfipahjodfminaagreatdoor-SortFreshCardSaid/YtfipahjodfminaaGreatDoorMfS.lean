/- Part 19 of the proof. -/
import Derived.RangeFuncNested
import Derived.RangeFuncLeaves
import Derived.RangeFuncCalls
import Derived.RangeFuncRecord
import Derived.BigFrameIn
import Derived.Test.YtfipahjodfminaaGreatDoorMfR
namespace Go.Proofs.YtfipahjodfminaaGreatDoor
open Go.RowKit
set_option linter.all false
set_option maxHeartbeats 40000000
set_option maxRecDepth 100000
def KU(s:ar)(kz:List ag):Prop:=∃toks,Kb s= .ok toks/\JE toks 80 [] 0=some kz/\(toks.all fun t=>decide (t.text.length<=100000))=true/\(match toks.getLast? with|some t=>t.kind == 5|none=>false)=true/\toks.length<=100000/\vr 40 (.node 1 [] 0 kz)=true
theorem Pi{toks:List bi}(h1:(toks.all fun t=>decide (t.text.length<=100000))=true)(h2:(match toks.getLast? with|some t=>t.kind == 5|none=>false)=true):ii toks:=by
 refine⟨fun t ht=>by have:=List.all_eq_true.1 h1 t ht;simpa using this,fun i t hi hk=>?_⟩;rcases Nat.lt_or_ge (i+1) toks.length with h|h
 .exact h
 .exfalso;have hl:=(gl.1 hi).1;have he:toks.getLast?=some t:=(by rw[List.getLast?_eq_getElem?,show toks.length - 1=i from by omega];exact hi);rw[he] at h2;simp at h2;exact hk h2
def J3(t:ag)(w:World)(e:Ending)(w':World):Prop:=Below w.heap.size w w'/\∃A c,e= .returned (.agg #[.int .u8 t.kind,.string (sb t.text),.int .i64 t.num,.slice A t.kids.length c])/\cf (cX w' w.heap.size) t t.kind (sb t.text) t.num A t.kids.length c
theorem P9{w W:World}{t:ag}{A:Option Addr}{c:Nat}(hb:Below w.heap.size w W)(hw:w.heap.size<W.heap.size)(hN:cf (cX W (w.heap.size+1)) t t.kind (sb t.text) t.num A t.kids.length c)(v0 v1 v2 v3:Value)(O:Obj):J3 t w (.returned (.agg #[.int .u8 t.kind,.string (sb t.text),.int .i64 t.num,.slice A t.kids.length c])) (((((W.setCell ⟨w.heap.size,0,none⟩ v0).setCell ⟨w.heap.size,1,none⟩ v1).setCell ⟨w.heap.size,2,none⟩ v2).setCell ⟨w.heap.size,3,none⟩ v3).alloc O):=by refine⟨((((hb.setCell (p:=⟨_,_,none⟩) (ah _) v0).setCell (p:=⟨_,_,none⟩) (ah _) v1).setCell (p:=⟨_,_,none⟩) (ah _) v2).setCell (p:=⟨_,_,none⟩) (ah _) v3).alloc (by simp;omega) O,A,c,rfl,?_⟩;refine cf.sinceOf (N:=w.heap.size+1) (by omega) (fun q h1 h2=>?_) hN;have hA:∀(V:World)(o:Obj)(r:Nat)(_:r<V.heap.size),(V.alloc o).heap[r]? =V.heap[r]?:=fun V o r h=>((Below.refl V.heap.size V).alloc (Nat.le_refl _) o).block r h;rw[hA _ _ _ (by simpa using h2),aY _ _ _ _ (show q≠w.heap.size by omega),aY _ _ _ _ (show q≠w.heap.size by omega),aY _ _ _ _ (show q≠w.heap.size by omega),aY _ _ _ _ (show q≠w.heap.size by omega)]
theorem Qa{w W:World}{t:ag}{A:Option Addr}{c:Nat}(hb:Below w.heap.size w W)(hw:w.heap.size<W.heap.size)(hN:cf (cX W (w.heap.size+1)) t t.kind (sb t.text) t.num A t.kids.length c)(v0 v1 v2 v3:Value)(O O2:Obj):J3 t w (.returned (.agg #[.int .u8 t.kind,.string (sb t.text),.int .i64 t.num,.slice A t.kids.length c])) ((((((W.setCell ⟨w.heap.size,0,none⟩ v0).setCell ⟨w.heap.size,1,none⟩ v1).setCell ⟨w.heap.size,2,none⟩ v2).setCell ⟨w.heap.size,3,none⟩ v3).alloc O).alloc O2):=by refine⟨(((((hb.setCell (p:=⟨_,_,none⟩) (ah _) v0).setCell (p:=⟨_,_,none⟩) (ah _) v1).setCell (p:=⟨_,_,none⟩) (ah _) v2).setCell (p:=⟨_,_,none⟩) (ah _) v3).alloc (by simp;omega) O).alloc (by simp;omega) O2,A,c,rfl,?_⟩;refine cf.sinceOf (N:=w.heap.size+1) (by omega) (fun q h1 h2=>?_) hN;have hA:∀(V:World)(o:Obj)(r:Nat)(_:r<V.heap.size),(V.alloc o).heap[r]? =V.heap[r]?:=fun V o r h=>((Below.refl V.heap.size V).alloc (Nat.le_refl _) o).block r h;rw[hA _ _ _ (by simp;omega),hA _ _ _ (by simpa using h2),aY _ _ _ _ (show q≠w.heap.size by omega),aY _ _ _ _ (show q≠w.heap.size by omega),aY _ _ _ _ (show q≠w.heap.size by omega),aY _ _ _ _ (show q≠w.heap.size by omega)]
theorem Ns(s:ByteArray)(kz:List ag)(w:World)(hp:KU (bl s) kz)(hsz:s.size<=1073741824):Calls Tryz.prog 17 #[.string s] w (J3 (.node 1 [] 0 kz) w):=by
 obtain⟨toks,h1,h2,h3,h4,h5,h6⟩:=hp;have HF:=ab (Pi h3 h4);have H1:=ab h1;have H2:=ab h2;have H6:=ab h6;clear h1 h2 h3 h4 h6;have HB0:Hid (Below w.heap.size w (w.alloc (.cells Z4 25))):=bz_alloc (ai _ _) _
 go_in
 go_wp2_with fail;refine(QT s toks 80 kz _ H1.out H2.out HF.out (by omega) h5 hsz H6.out).mono ?_;rintro en w1 ⟨hb,A,c,he,hn⟩;obtain rfl:en= .returned (.tuple #[.agg #[.int .u8 1,.string (sb []),.int .i64 0,.slice A kz.length c],.agg #[.int .i64 0,.int .i64 0]]):=he;have HB1:=ab (HB0.out.trans (hb.mono (by simp)));have HN1:Hid (cf (cX w1 (w.heap.size+1)) (.node 1 [] 0 kz) 1 (sb []) 0 A kz.length c):=hn.sinceLow (by simp);have hbox:w1.heap[w.heap.size]? =some (.cells Z4 25 (0,0)):=(hb.block _ (by simp)).trans (heap_alloc_new _ _);clear hb hn;have hsz1:=(aK.1 hbox).1;obtain⟨c0,c1,c2,c3,f0,f1,f2,f3⟩:=di hbox;clear hbox;go_wp2_with fail;obtain⟨a0,a1,a2,a3⟩:=mL (v0:=.int .u8 1) (v1:=.string (sb [])) (v2:=.int .i64 0) (v3:=.slice A kz.length c) c0 c1 c2 c3;have hbb:=fun(W:World) (O O2:Obj)=>show Below W.heap.size W ((W.alloc O).alloc O2) from bz_alloc (bz_alloc (ai _ _) _) _;have A0:=ab (ac (hbb _ (.cells #[.int .u8 1,.string (sb []),.int .i64 0,.slice A kz.length c] 25) (.cells #[.int .i64 0,.int .i64 0] 76)) a0);have A1:=ab (ac (hbb _ (.cells #[.int .u8 1,.string (sb []),.int .i64 0,.slice A kz.length c] 25) (.cells #[.int .i64 0,.int .i64 0] 76)) a1);have A2:=ab (ac (hbb _ (.cells #[.int .u8 1,.string (sb []),.int .i64 0,.slice A kz.length c] 25) (.cells #[.int .i64 0,.int .i64 0] 76)) a2);have A3:=ab (ac (hbb _ (.cells #[.int .u8 1,.string (sb []),.int .i64 0,.slice A kz.length c] 25) (.cells #[.int .i64 0,.int .i64 0] 76)) a3);exact bodyPost_ret (v:=.agg #[.int .u8 1,.string (sb []),.int .i64 0,.slice A kz.length c]) (by simp[results,Tryz.results17,go_sem,A0.out,A1.out,A2.out,A3.out]) rfl (Qa (t:=.node 1 [] 0 kz) HB1.out hsz1 HN1.out _ _ _ _ _ _)
theorem LY{W:World}{t u:ag}{k:Nat}{s:ByteArray}{x:Int}{A:Option Addr}{n c i:Nat}(h:cf W t k s x A n c)(hu:t.kids[i]? =some u):∃b o A' c',A=some ⟨b,o,none⟩/\W.cell? ⟨b,o+i*4,none⟩=some (.int .u8 u.kind)/\W.cell? ⟨b,o+i*4+1,none⟩=some (.string (sb u.text))/\W.cell? ⟨b,o+i*4+2,none⟩=some (.int .i64 u.num)/\W.cell? ⟨b,o+i*4+3,none⟩=some (.slice A' u.kids.length c')/\cf W u u.kind (sb u.text) u.num A' u.kids.length c':=by obtain⟨ks,rfl,_,_,_,hK⟩:=h;have hu:ks[i]? =some u:=hu;have hi:i<n:=(by rw[hK.1];exact(gl.1 hu).1);obtain⟨b,o,u',rfl,hu',hat⟩:=hK.get hi;rw[hu] at hu';injection hu' with hu';subst hu';obtain⟨A',c',h0,h1,h2,h3,hn⟩:=hat.cells;exact⟨b,o,A',c',rfl,h0,h1,h2,h3,hn⟩
theorem Nt(s s':ByteArray)(nf np:ar)(t:ag)(p:ag)(ts:List ag)(w:World)(hs':((⟨#[102,117,110,99,32,102,40,97,41,32,123,32]⟩:ByteArray)++s)++(⟨#[32,125]⟩:ByteArray)=s')(hp:KU (bl s') [.node 2 nf 0 [p,.node 5 np 0 (t::ts)]])(hsz:s'.size<=100000)(hss:s.size<=100000):Calls Tryz.prog 18 #[.string s] w (J3 t w):=by
 have HP:=ab hp;clear hp;have HB0:Hid (Below w.heap.size w (w.alloc (.cells Z4 25))):=bz_alloc (ai _ _) _
 go_in
 go_wp2_with fail;refine(Ns s' _ _ HP.out (by omega)).mono ?_;rintro en w1 ⟨hb,A,c,he,hn⟩;obtain rfl:en= .returned (.agg #[.int .u8 1,.string (sb []),.int .i64 0,.slice A 1 c]):=he;have HB1:=ab (HB0.out.trans (hb.mono (by simp)));have hn1:cf (cX w1 (w.heap.size+1)) (.node 1 [] 0 [.node 2 nf 0 [p,.node 5 np 0 (t::ts)]]) 1 (sb []) 0 A 1 c:=hn.sinceLow (by simp);have hbox:w1.heap[w.heap.size]? =some (.cells Z4 25 (0,0)):=(hb.block _ (by simp)).trans (heap_alloc_new _ _);have hsz1:=(aK.1 hbox).1;obtain⟨b1,o1,A1,d1,rfl,_,_,_,E1,hm1⟩:=LY (i:=0) hn1 rfl;obtain⟨b2,o2,A2,d2,rfl,_,_,_,E2,hm2⟩:=LY (i:=1) hm1 rfl;obtain⟨b3,o3,A3,d3,rfl,K0,K1,K2,K3,hm3⟩:=LY (i:=0) hm2 rfl;have e1:w1.cell? ⟨b1,o1+3,none⟩=some (.slice (some ⟨b2,o2,none⟩) 2 d1):=(by have h:=(i8.1 E1).2;rw[Nat.zero_mul,Nat.add_zero] at h;exact h);have e2:w1.cell? ⟨b2,o2+4+3,none⟩=some (.slice (some ⟨b3,o3,none⟩) (ts.length+1) d2):=(by have h:=(i8.1 E2).2;rw[Nat.one_mul] at h;exact h);have k0:=(i8.1 K0).2;have k1:=(i8.1 K1).2;have k2:=(i8.1 K2).2;have k3:=(i8.1 K3).2;rw[Nat.zero_mul,Nat.add_zero] at k0 k1 k2 k3;clear E1 E2 K0 K1 K2 K3;have HM:=ab hm3;have z1:=bK e1;have z2:=bK e2;have z3:=bK k0;clear hb hn hn1 hm1 hm2 hm3;obtain⟨c0,c1,c2,c3,f0,f1,f2,f3⟩:=di hbox;clear hbox;go_wp2_with fail;obtain⟨a0,a1,a2,a3⟩:=mL (v0:=.int .u8 t.kind) (v1:=.string (sb t.text)) (v2:=.int .i64 t.num) (v3:=.slice A3 t.kids.length d3) c0 c1 c2 c3;have hbb:=fun(W:World) (O:Obj)=>show Below W.heap.size W (W.alloc O) from bz_alloc (ai _ _) _;have A0:=ab (ac (hbb _ (.cells #[.int .u8 1,.string (sb []),.int .i64 0,.slice (some ⟨b1,o1,none⟩) 1 c] 25)) a0);have A1:=ab (ac (hbb _ (.cells #[.int .u8 1,.string (sb []),.int .i64 0,.slice (some ⟨b1,o1,none⟩) 1 c] 25)) a1);have A2:=ab (ac (hbb _ (.cells #[.int .u8 1,.string (sb []),.int .i64 0,.slice (some ⟨b1,o1,none⟩) 1 c] 25)) a2);have A9:=ab (ac (hbb _ (.cells #[.int .u8 1,.string (sb []),.int .i64 0,.slice (some ⟨b1,o1,none⟩) 1 c] 25)) a3);exact bodyPost_ret (v:=.agg #[.int .u8 t.kind,.string (sb t.text),.int .i64 t.num,.slice A3 t.kids.length d3]) (by simp[results,Tryz.results18,go_sem,A0.out,A1.out,A2.out,A9.out]) rfl (P9 (t:=t) HB1.out hsz1 HM.out _ _ _ _ _)
def Jf:ag:=.node 6 [97] 0 [.node 20 [] 1 []]
theorem QN:KU [102,117,110,99,32,102,40,97,41,32,123,32,118,97,114,32,97,32,61,32,49,59,32,125] [.node 2 [102] 0 [.node 3 [] 0 [.node 4 [97] 0 []],.node 5 [] 0 [Jf]]]:=⟨_,rfl,by kernel_rfl,by kernel_rfl,by kernel_rfl,by decide,by kernel_rfl⟩
theorem RJ(w:World):Calls Tryz.prog 18 #[.string ⟨#[118,97,114,32,97,32,61,32,49,59]⟩] w (J3 Jf w):=
 Nt ⟨#[118,97,114,32,97,32,61,32,49,59]⟩ ⟨#[102,117,110,99,32,102,40,97,41,32,123,32,118,97,114,32,97,32,61,32,49,59,32,125]⟩ [102] [] Jf (.node 3 [] 0 [.node 4 [97] 0 []]) [] w (by kernel_rfl) QN (by decide) (by decide)
def JI:ag:=.node 11 [] 0 [.node 22 [97] 0 []]
theorem NT:KU [102,117,110,99,32,102,40,97,41,32,123,32,112,114,105,110,116,32,97,59,32,125] [.node 2 [102] 0 [.node 3 [] 0 [.node 4 [97] 0 []],.node 5 [] 0 [JI]]]:=⟨_,rfl,by kernel_rfl,by kernel_rfl,by kernel_rfl,by decide,by kernel_rfl⟩
theorem RI(w:World):Calls Tryz.prog 18 #[.string ⟨#[112,114,105,110,116,32,97,59]⟩] w (J3 JI w):=
 Nt ⟨#[112,114,105,110,116,32,97,59]⟩ ⟨#[102,117,110,99,32,102,40,97,41,32,123,32,112,114,105,110,116,32,97,59,32,125]⟩ [102] [] JI (.node 3 [] 0 [.node 4 [97] 0 []]) [] w (by kernel_rfl) NT (by decide) (by decide)
def Ss:ag:=.node 11 [] 0 [.node 24 [43] 0 [.node 20 [] 1 [],.node 20 [] 2 []]]
theorem Tb:KU [102,117,110,99,32,102,40,97,41,32,123,32,112,114,105,110,116,32,49,32,43,32,50,59,32,125] [.node 2 [102] 0 [.node 3 [] 0 [.node 4 [97] 0 []],.node 5 [] 0 [Ss]]]:=⟨_,rfl,by kernel_rfl,by kernel_rfl,by kernel_rfl,by decide,by kernel_rfl⟩
theorem Tr(w:World):Calls Tryz.prog 18 #[.string ⟨#[112,114,105,110,116,32,49,32,43,32,50,59]⟩] w (J3 Ss w):=
 Nt ⟨#[112,114,105,110,116,32,49,32,43,32,50,59]⟩ ⟨#[102,117,110,99,32,102,40,97,41,32,123,32,112,114,105,110,116,32,49,32,43,32,50,59,32,125]⟩ [102] [] Ss (.node 3 [] 0 [.node 4 [97] 0 []]) [] w (by kernel_rfl) Tb (by decide) (by decide)
def St:ag:=.node 5 [] 0 []
theorem Tc:KU [102,117,110,99,32,102,40,97,41,32,123,32,123,32,125,32,125] [.node 2 [102] 0 [.node 3 [] 0 [.node 4 [97] 0 []],.node 5 [] 0 [St]]]:=⟨_,rfl,by kernel_rfl,by kernel_rfl,by kernel_rfl,by decide,by kernel_rfl⟩
theorem Ts(w:World):Calls Tryz.prog 18 #[.string ⟨#[123,32,125]⟩] w (J3 St w):=
 Nt ⟨#[123,32,125]⟩ ⟨#[102,117,110,99,32,102,40,97,41,32,123,32,123,32,125,32,125]⟩ [102] [] St (.node 3 [] 0 [.node 4 [97] 0 []]) [] w (by kernel_rfl) Tc (by decide) (by decide)
def Su:ag:=.node 6 [110,97,109,101,95,116,104,97,116,95,105,115,95,110,111,119,104,101,114,101] 0 [.node 20 [] 0 []]
theorem Td:KU [102,117,110,99,32,102,40,97,41,32,123,32,118,97,114,32,110,97,109,101,95,116,104,97,116,95,105,115,95,110,111,119,104,101,114,101,32,61,32,48,59,32,125] [.node 2 [102] 0 [.node 3 [] 0 [.node 4 [97] 0 []],.node 5 [] 0 [Su]]]:=⟨_,rfl,by kernel_rfl,by kernel_rfl,by kernel_rfl,by decide,by kernel_rfl⟩
theorem Tt(w:World):Calls Tryz.prog 18 #[.string ⟨#[118,97,114,32,110,97,109,101,95,116,104,97,116,95,105,115,95,110,111,119,104,101,114,101,32,61,32,48,59]⟩] w (J3 Su w):=
 Nt ⟨#[118,97,114,32,110,97,109,101,95,116,104,97,116,95,105,115,95,110,111,119,104,101,114,101,32,61,32,48,59]⟩ ⟨#[102,117,110,99,32,102,40,97,41,32,123,32,118,97,114,32,110,97,109,101,95,116,104,97,116,95,105,115,95,110,111,119,104,101,114,101,32,61,32,48,59,32,125]⟩ [102] [] Su (.node 3 [] 0 [.node 4 [97] 0 []]) [] w (by kernel_rfl) Td (by decide) (by decide)
def Sv:ag:=.node 5 [] 0 [.node 6 [110,97,109,101,95,116,104,97,116,95,105,115,95,110,111,119,104,101,114,101] 0 [.node 20 [] 0 []],.node 11 [] 0 [.node 22 [110,97,109,101,95,116,104,97,116,95,105,115,95,110,111,119,104,101,114,101] 0 []]]
theorem Te:KU [102,117,110,99,32,102,40,97,41,32,123,32,123,32,118,97,114,32,110,97,109,101,95,116,104,97,116,95,105,115,95,110,111,119,104,101,114,101,32,61,32,48,59,32,112,114,105,110,116,32,110,97,109,101,95,116,104,97,116,95,105,115,95,110,111,119,104,101,114,101,59,32,125,32,125] [.node 2 [102] 0 [.node 3 [] 0 [.node 4 [97] 0 []],.node 5 [] 0 [Sv]]]:=⟨_,rfl,by kernel_rfl,by kernel_rfl,by kernel_rfl,by decide,by kernel_rfl⟩
theorem Tu(w:World):Calls Tryz.prog 18 #[.string ⟨#[123,32,118,97,114,32,110,97,109,101,95,116,104,97,116,95,105,115,95,110,111,119,104,101,114,101,32,61,32,48,59,32,112,114,105,110,116,32,110,97,109,101,95,116,104,97,116,95,105,115,95,110,111,119,104,101,114,101,59,32,125]⟩] w (J3 Sv w):=
 Nt ⟨#[123,32,118,97,114,32,110,97,109,101,95,116,104,97,116,95,105,115,95,110,111,119,104,101,114,101,32,61,32,48,59,32,112,114,105,110,116,32,110,97,109,101,95,116,104,97,116,95,105,115,95,110,111,119,104,101,114,101,59,32,125]⟩ ⟨#[102,117,110,99,32,102,40,97,41,32,123,32,123,32,118,97,114,32,110,97,109,101,95,116,104,97,116,95,105,115,95,110,111,119,104,101,114,101,32,61,32,48,59,32,112,114,105,110,116,32,110,97,109,101,95,116,104,97,116,95,105,115,95,110,111,119,104,101,114,101,59,32,125,32,125]⟩ [102] [] Sv (.node 3 [] 0 [.node 4 [97] 0 []]) [] w (by kernel_rfl) Te (by decide) (by decide)
def ic(N:Nat)(I:World->Prop):Prop:=(∀A B,I A->Below A.heap.size A B->I B)/\∀(A:World) (l:Nat) (o o':Obj),I A->N<=l->A.heap[l]? =some o->o.isCells=false->I (A.putObj l o')
def lQ(A B:World):Prop:=A.heap.size<=B.heap.size/\∀(k:Nat) (o:Obj),A.heap[k]? =some o->o.isCells=true->B.heap[k]? =some o
theorem lQ.refl(A:World):lQ A A:=⟨ah _,fun _ _ h _=>h⟩
theorem lQ.trans{A B C:World}(h:lQ A B)(h':lQ B C):lQ A C:=⟨aJ h.1 h'.1,fun k o hk ho=>h'.2 k o (h.2 k o hk ho) ho⟩
theorem lQ.below{A B:World}(h:Below A.heap.size A B):lQ A B:=⟨h.size,fun k o hk _=>(h.block k (aK.1 hk).1).trans hk⟩
theorem lQ.put{A:World}{l:Nat}{o:Obj}(o':Obj)(hl:A.heap[l]? =some o)(ho:o.isCells=false):lQ A (A.putObj l o'):=by
 refine⟨by simp,fun k o2 hk hc=>?_⟩;have hne:k≠l:=fun e=>by subst e;rw[hl] at hk;cases hk;rw[ho] at hc;cases hc
 exact(World.putObj_heap_other hne).trans hk
theorem lQ.cell{A B:World}(h:lQ A B){a:Addr}{v:Value}(hc:A.cell? a=some v):B.cell? a=some v:=by obtain⟨o,ho,h1⟩:=cells_of_cell hc;exact(World.cell?_of_block ((h.2 _ o ho h1).trans ho.symm)).trans hc
theorem lQ.frozen{A B:World}(h:lQ A B){a:Addr}{v:Value}(hc:A.cell? a=some v):B.frozen? a=A.frozen? a:=by obtain⟨o,ho,h1⟩:=cells_of_cell hc;exact World.frozen?_of_block ((h.2 _ o ho h1).trans ho.symm)
abbrev I9:=List (List Int×List Int)
structure PV where
 uA:Option Addr
 ul:Nat
 uc:Nat
 bA:Option Addr
 bl:Nat
 bc:Nat
def PV.enc(x:PV):Array Value:=#[.slice x.uA x.ul x.uc,.slice x.bA x.bl x.bc]
def PV.is(x:PV)(W:World)(p:List Int×List Int):Prop:=cc W p.1 x.uA x.ul x.uc/\cc W p.2 x.bA x.bl x.bc
theorem PV.is.kept{x:PV}{A B:World}{p:List Int×List Int}(h:x.is A p)(hk:lQ A B):x.is B p:=⟨h.1.keep fun _ _ hc=>hk.cell hc,h.2.keep fun _ _ hc=>hk.cell hc⟩
def MH(F:Fence)(n:Nat)(P:Program)(g:Nat)(lb:Array Value)(all:I9)(w:World):Prop:=
 ∀(l:Nat) (J:I9->World->Prop) (Jx:World->Prop) (W:World),Below w.heap.size w W->
  (∀pre A B,J pre A->Below A.heap.size A B->J pre B)->(∀A B,Jx A->Below A.heap.size A B->Jx B)->
  (∀pre p x W1,J pre W1->(pre++[p])<+:all->PV.is x W1 p->YieldAt F (n - 1) P l x.enc W1 fun e W'=>(e= .returned (.bool true)/\J (pre++[p]) W'/\lQ W1 W')∨(e= .returned (.bool false)/\Jx W'))->
  J [] W->
  CallsIn F n P g (#[.func (.yield l) #[] #[]]++lb) W fun e W'=>(∃v,e= .returned v)/\(J all W'∨Jx W')
def QM(I:I9->World->Prop)(Ix:World->Prop)(pre:I9)(W:World):Exit->Act->World->Prop
 | .normal,_,W'=>Below W.heap.size W W'/\I pre W'
 | .ret,_,W'=>KeepsOthers W W'/\Ix W'
 | .exit _,_,_=>False
 | .goto _,_,_=>False
 | .panic _,_,_=>False
 | .outgrown,_,_=>False
variable {F:Fence} {n:Nat} {P:Program}
theorem OC{g:Operand}{ps:Array Tmp}{assign body:Code}{Q:Exit->Act->World->Prop}{a:Act}{w:World}(hro:F.round=none)(h1:1<=n){gf:Nat}{lb:Array Value}(hg:a.eval g= .func (.func gf) #[] lb)(hFg:F.fn gf)(eg:∀args w,(callFunc gf args).run P w= .ok (.enter gf args) w){all:I9}{w0:World}(hseq:MH F (n - 1) P gf lb all w0)(hb0:Below w0.heap.size w0 w)(hps:ps.size=2)(I:I9->World->Prop)(Ix:World->Prop)(hI:∀pre,ic w.heap.size (I pre))(hIx:ic w.heap.size Ix)(h0:I [] w)(a₁:PV->Act)(hassign:∀(l:Nat) (x:PV) (W:World) (K:Act->World->Prop),K (a₁ x) W->assign.wpIn (F.inRound l) (n - 1 - 1) P (Exit.then K (fun _ _ _=>False)) { tmps:=(ps.zip x.enc).foldl (fun t (p,v)=>t.setIfInBounds p v) a.tmps,defers:=[] } W)(hbody:∀(l:Nat) (pre:I9) (p:List Int×List Int) (x:PV) (W:World),I pre W->(pre++[p])<+:all->x.is W p->body.wpIn (F.inRound l) (n - 1 - 1) P (QM I Ix (pre++[p]) W) (a₁ x) W)(hdone:∀(D:Nat) (W:World),w.heap.size<=D->I all W->W.heap[D]? =some (.deferred (some []))->Q .normal { a with defers:={ target:=.collected D,args:=#[] } ::a.defers } W)(hstop:∀(D:Nat) (W:World),w.heap.size<=D->Ix W->W.heap[D]? =some (.deferred (some []))->Code.ret.wpIn F n P Q { a with defers:={ target:=.collected D,args:=#[] } ::a.defers } W):(Code.rangeFunc g ps assign body).wpIn F n P Q a w:=by
 refine wpIn_rangeFunc ?_;intro fn hfn;rw[hro];obtain⟨rec,hrec⟩:∃rec:LoopState->Option Code->Loop,rec=fun st pe=>{ state:=st,pending:=pe,fn,tmps:=a.tmps,params:=ps,assign,body,defers:=w.heap.size }:=⟨_,rfl⟩;obtain⟨W1,hW1⟩:∃W1,(w.alloc (.deferred (some []))).alloc (.loop (rec .ready none))=W1:=⟨_,rfl⟩;have hL1:W1.heap[w.heap.size+1]? =some (.loop (rec .ready none)):=by rw[<-hW1];have:=World.alloc_heap_new (w.alloc (.deferred (some []))) (.loop (rec .ready none));rwa [World.size_alloc] at this
 have hK1:W1.heap[w.heap.size]? =some (.deferred (some [])):=by rw[<-hW1];exact(Below.heap_alloc _ _ _ (by simp)).trans (World.alloc_heap_new w _)
 have hbw:Below w.heap.size w W1:=by rw[<-hW1];exact((ai _ w).alloc (ah _) _).alloc (by simp) _
 refine⟨w.heap.size+1,[{ target:=.collected w.heap.size,args:=#[] }],W1,{ target:=.fn (.func gf) lb,args:=#[.func (.yield (w.heap.size+1)) #[] #[]] },W1,gf,
  #[.func (.yield (w.heap.size+1)) #[] #[]]++lb,W1,?_,?_,?_,?_,fun _=>h1,?_⟩
 .rw[<-hW1,hrec];exact run_enterLoop_outer _ _ _ _ _
 .simp only[resolve,hg];simp[go_sem]
 .intro f' hf';simp[Target.leads] at hf';subst hf';exact hFg
 .simp[invoke,go_sem,eg]
 .refine(hseq (w.heap.size+1)
   (fun pre W=>I pre W/\W.heap[w.heap.size+1]? =some (.loop (rec .ready none))/\W.heap[w.heap.size]? =some (.deferred (some [])))
   (fun W=>Ix W/\W.heap[w.heap.size+1]? =some (.loop (rec .done (some .ret)))/\W.heap[w.heap.size]? =some (.deferred (some [])))
   W1 (hb0.trans (hbw.mono hb0.size))
   (fun pre A B hs hb=>⟨(hI pre).1 A B hs.1 hb,(hb.block _ (aK.1 hs.2.1).1).trans hs.2.1,(hb.block _ (aK.1 hs.2.2).1).trans hs.2.2⟩)
   (fun A B hs hb=>⟨hIx.1 A B hs.1 hb,(hb.block _ (aK.1 hs.2.1).1).trans hs.2.1,(hb.block _ (aK.1 hs.2.2).1).trans hs.2.2⟩)
   ?_ ⟨(hI []).1 w W1 h0 hbw,hL1,hK1⟩).mono ?_
  ·
   rintro pre p x W ⟨hi,hl,hk⟩ hpre hx;have hlt:w.heap.size+1<W.heap.size:=(aK.1 hl).1;have hy:=run_yield (P:=P) (args:=x.enc) hl (by rw[hrec];exact hps.symm);rw[hrec] at hy;refine⟨fn,_,assign,body,hy,roundIn_of_wpIn hfn (hassign _ x W _ ⟨_,run_beginRound hl (by rw[hrec]),?_⟩)⟩;have hl2:(W.putObj (w.heap.size+1) (.loop { rec .ready none with state:=.busy })).heap[w.heap.size+1]? =some (.loop { rec .ready none with state:=.busy }):=World.putObj_heap_same hlt;have hk2:(W.putObj (w.heap.size+1) (.loop { rec .ready none with state:=.busy })).heap[w.heap.size]? =some (.deferred (some [])):=(World.putObj_heap_other (by omega)).trans hk;have hc2:lQ W (W.putObj (w.heap.size+1) (.loop { rec .ready none with state:=.busy })):=lQ.put _ hl rfl;refine wpIn_mono (hbody _ pre p x _ ((hI pre).2 W _ _ _ hi (by omega) hl rfl) hpre (hx.kept hc2)) ?_;have fin:∀(jump:Option Code) (W3:World),KeepsOthers (W.putObj (w.heap.size+1) (.loop { rec .ready none with state:=.busy })) W3->
    (Instr.endRound (w.heap.size+1) jump).run P W3= .ok (.bool jump.isNone) (W3.putObj (w.heap.size+1) (.loop (rec (if jump.isNone then .ready else .done) jump)))/\
    W3.heap[w.heap.size+1]? =some (.loop { rec .ready none with state:=.busy })/\
    (W3.putObj (w.heap.size+1) (.loop (rec (if jump.isNone then .ready else .done) jump))).heap[w.heap.size+1]? =some (.loop (rec (if jump.isNone then .ready else .done) jump))/\
    (W3.putObj (w.heap.size+1) (.loop (rec (if jump.isNone then .ready else .done) jump))).heap[w.heap.size]? =some (.deferred (some [])):=fun jump W3 hk3=>by
    have hl3:=hk3.same _ _ hl2 rfl;have:=run_endRound (P:=P) jump hl3;rw[hrec] at this ⊢;exact⟨this,by rw[hrec] at hl3;exact hl3,World.putObj_heap_same (aK.1 hl3).1,(World.putObj_heap_other (by omega)).trans (hk3.same _ _ hk2 rfl)⟩
   rintro e a3 W3 hp;cases e with
   |normal=>obtain⟨hb3,hi3⟩:=hp;have hk3:KeepsOthers (W.putObj (w.heap.size+1) (.loop { rec .ready none with state:=.busy })) W3:=⟨hb3.size,fun k o ho _=>(hb3.block k (aK.1 ho).1).trans ho⟩;obtain⟨hr,hl3,hl4,hk4⟩:=fin none W3 hk3;exact⟨_,_,hr,.inl ⟨rfl,⟨(hI _).2 _ _ _ _ hi3 (by omega) hl3 rfl,hl4,hk4⟩,(hc2.trans (lQ.below hb3)).trans (lQ.put _ hl3 rfl)⟩⟩
   |ret=>obtain⟨hk3,hi3⟩:=hp;obtain⟨hr,hl3,hl4,hk4⟩:=fin (some .ret) W3 hk3;exact⟨_,_,hr,.inr ⟨rfl,hIx.2 _ _ _ _ hi3 (by omega) hl3 rfl,hl4,hk4⟩⟩
   |exit id=>exact hp.elim
   |goto t=>exact hp.elim
   |panic ch=>exact hp.elim
   |outgrown=>exact hp.elim
  ·
   rintro e W2 ⟨⟨v,rfl⟩,(⟨hi,hl,hk⟩|⟨hi,hl,hk⟩)⟩
   .exact⟨none,_,by have:=run_endLoop (P:=P) hl (by rw[hrec];simp);rw[hrec] at this;exact this,hdone _ _ (ah _) ((hI _).2 _ _ _ _ hi (by omega) hl rfl) ((World.putObj_heap_other (by omega)).trans hk)⟩
   .exact⟨some .ret,_,by have:=run_endLoop (P:=P) hl (by rw[hrec];simp);rw[hrec] at this;exact this,hstop _ _ (ah _) (hIx.2 _ _ _ _ hi (by omega) hl rfl) ((World.putObj_heap_other (by omega)).trans hk)⟩
def b7:List Int->ag->Option ag
 |[],t=>some t
 |z::p,.node _ _ _ ks=>if z<0 then none else(ks[z.toNat]?).bind (b7 p)
def s8(f:ag->Option ag):List Int->ag->Option ag
 |[],t=>f t
 |z::p,.node k s x ks=>if z<0 then none else(ks[z.toNat]?).bind fun t=>(s8 f p t).map fun t'=>.node k s x (ks.set z.toNat t')
def JR(k:Nat):Bool:=k == 1 || k == 3 || k == 5
inductive Kd where
 |ins (i:Int) (n:ag)
 |del (i:Int) (o:ag)
 |mov (i j:Int) (o:ag)
 |rep (o n:ag)
def Kd.inv:Kd->Kd
 | .ins i n=>.del i n
 | .del i o=>.ins i o
 | .mov i j o=>.mov j i o
 | .rep o n=>.rep n o
def Kd.ok:Kd->Prop
 | .ins i _=>0<=i
 | .del i _=>0<=i
 | .mov i j _=>0<=i/\0<=j
 | .rep _ _=>True
def Kd.lone:Kd->Bool
 | .rep _ _=>false
 |_=>true
instance decTree:DecidableEq ag:=fun a b=>decidable_of_iff (a.same b=true) (Kq a b)
def Kd.kids:Kd->List ag->Option (List ag)
 | .ins i n,ks=>if i.toNat<=ks.length then some (ks.insertIdx i.toNat n) else none
 | .del i o,ks=>if ks[i.toNat]? =some o then some (ks.eraseIdx i.toNat) else none
 | .mov i j o,ks=>if ks[i.toNat]? =some o/\j.toNat<ks.length then some ((ks.eraseIdx i.toNat).insertIdx j.toNat o) else none
 | .rep _ _,_=>none
def Kd.run:Kd->ag->Option ag
 | .rep o n,t=>if t=o then some n else none
 |d,.node k s x ks=>if JR k then(d.kids ks).map fun ks'=>.node k s x ks' else none
def Kd.sig:Kd->Int->Option Int
 | .ins i _,k=>some (jd i k)
 | .del i _,k=>if k=i then none else some (cF i k)
 | .mov i j _,k=>if k=i then none else some (jd j (cF i k))
 | .rep _ _,_=>none
def Kd.act(d:Kd):List Int->List Int->Option (List Int)
 |[],[]=>if d.lone then some [] else none
 |[],k::r=>(d.sig k).map (· ::r)
 |_::_,[]=>some []
 |z::p,k::r=>if z=k then(d.act p r).map (z:: ·) else some (k::r)
theorem KO{z k:Int}{p r:List Int}:bu (k::r) (z::p)=(z == k && bu r p):=by unfold bu;rw[List.isPrefixOf_cons_cons]
theorem JF{z k:Int}{p r:List Int}{f:Int->Int}:CB (k::r) (z::p) f=if z=k then k::CB r p f else k::r:=by
 unfold CB;rw[KO];by_cases h:z=k
 .subst h;simp only[beq_self_eq_true,Bool.true_and,if_true];split
  .unfold fo;simp only[List.length_cons,List.getElem?_cons_succ];split<;>simp
  .rfl
 .simp[h]
theorem JX{k:Int}{r:List Int}{f:Int->Int}:CB (k::r) [] f=f k::r:=by simp[CB,bu,fo]
theorem tt{p:List Int}{f:Int->Int}:CB [] p f=[]:=by unfold CB fo;split<;>simp
theorem ML{i:Int}{n:ag}:∀(p u:List Int),(Kd.ins i n).act p u=some (fO u p i)
 |[],[]=>by simp[Kd.act,Kd.lone,fO,tt]
 |[],k::r=>by simp[Kd.act,Kd.sig,fO,JX]
 |z::p,[]=>by simp[Kd.act,fO,tt]
 |z::p,k::r=>by
  have ih:=ML (i:=i) (n:=n) p r;unfold fO at ih ⊢;rw[JF];by_cases h:z=k
  .subst h;simp[Kd.act,ih]
  .simp[Kd.act,h]
theorem Pq{z k:Int}{p r:List Int}{i:Int}:fN (k::r) (z::p) i=(z == k && fN r p i):=by unfold fN;rw[KO];simp only[List.length_cons,Nat.add_lt_add_iff_right,List.getElem?_cons_succ];cases z == k<;>simp
theorem MK{i:Int}{o:ag}:∀(p u:List Int),(Kd.del i o).act p u=dR u p i
 |[],[]=>by simp[Kd.act,Kd.lone,dR,fN,tt]
 |[],k::r=>by
  unfold dR;simp only[Kd.act,Kd.sig,fN,JX];by_cases h:k=i
  .subst h;simp[bu]
  .simp[bu,h]
 |z::p,[]=>by simp[Kd.act,dR,fN,tt]
 |z::p,k::r=>by
  have ih:=MK (i:=i) (o:=o) p r;unfold dR at ih ⊢;rw[JF,Pq];by_cases h:z=k
  .subst h;simp only[Kd.act,if_true,ih,beq_self_eq_true,Bool.true_and];split<;>rfl
  .simp[Kd.act,h]
theorem LI{i j:Int}{o:ag}:∀(p u:List Int),(Kd.mov i j o).act p u=if bu u (p++[i]) then none else some (eT u p i j)
 |[],[]=>by simp[Kd.act,Kd.lone,bu,eT,tt]
 |[],k::r=>by
  unfold eT;simp only[Kd.act,Kd.sig,List.nil_append,JX,KO];by_cases h:k=i
  .subst h;simp[bu]
  .have h':¬i=k:=fun e=>h e.symm;simp[h,h']
 |z::p,[]=>by simp[Kd.act,bu,eT,tt]
 |z::p,k::r=>by
  have ih:=LI (i:=i) (j:=j) (o:=o) p r;unfold eT at ih ⊢;rw[JF,List.cons_append,KO];by_cases h:z=k
  .subst h;simp only[Kd.act,if_true,ih,beq_self_eq_true,Bool.true_and];split<;>rfl
  .simp[Kd.act,h]
theorem MN{o n:ag}:∀(p u:List Int),(Kd.rep o n).act p u=if bu u p then none else some u
 |[],[]=>by simp[Kd.act,Kd.lone,bu]
 |[],k::r=>by simp[Kd.act,Kd.sig,bu]
 |z::p,[]=>by simp[Kd.act,bu]
 |z::p,k::r=>by
  have ih:=MN (o:=o) (n:=n) p r;rw[KO];by_cases h:z=k
  .subst h;simp only[Kd.act,if_true,ih,beq_self_eq_true,Bool.true_and];split<;>rfl
  .simp[Kd.act,h]
def aj.kd(e:aj):Kd:=
 if e.kind=2 then .ins e.at_ (e.news.headD default) else if e.kind=3 then .del e.at_ (e.olds.headD default)
 else if e.kind=5 then .mov e.at_ e.far (e.olds.headD default) else .rep (e.olds.headD default) (e.news.headD default)
theorem OQ{e:aj}(h:e.kind=2∨e.kind=3∨e.kind=4∨e.kind=5)(u:List Int):e.kd.act e.path u=Ml e u:=by
 unfold aj.kd Ml;rcases h with h|h|h|h<;>simp only[h]
 .exact ML _ _
 .exact MK _ _
 .exact MN _ _
 .exact LI _ _
theorem Oi{d:Kd}(h:d.ok){k k':Int}:d.sig k=some k'↔d.inv.sig k'=some k:=by
 cases d with
 |ins i n=>
  unfold Kd.sig Kd.inv jd cF;simp only[Option.some.injEq];constructor
  .intro h;split at h
   .rw[if_neg (by omega),if_pos (by omega)];congr 1;omega
   .rw[if_neg (by omega),if_neg (by omega)];congr 1;omega
  .intro h;split at h
   .cases h
   .split at h<;>injection h with h
    .rw[if_pos (by omega)];omega
    .rw[if_neg (by omega)];omega
 |del i n=>
  unfold Kd.sig Kd.inv jd cF;simp only[Option.some.injEq];constructor
  .intro h;split at h
   .cases h
   .split at h<;>injection h with h
    .rw[if_pos (by omega)];omega
    .rw[if_neg (by omega)];omega
  .intro h;split at h
   .rw[if_neg (by omega),if_pos (by omega)];congr 1;omega
   .rw[if_neg (by omega),if_neg (by omega)];congr 1;omega
 |mov i j o=>
  have g:∀(i j k k':Int),(if k=i then none else some (jd j (cF i k)))=some k'->(if k'=j then none else some (jd i (cF j k')))=some k:=by
   intro i j k k' h;unfold jd cF at h ⊢;by_cases h1:k=i
   .rw[if_pos h1] at h;cases h
   rw[if_neg h1,Option.some.injEq] at h;by_cases h2:i<k
   .rw[if_pos h2] at h;by_cases h3:j<=k - 1
    .rw[if_pos h3] at h;subst h;rw[if_neg (by omega),show(if j<k - 1+1 then k - 1+1 - 1 else k - 1+1)=k - 1 from by rw[if_pos (by omega)];omega,if_pos (by omega)];congr 1;omega
    .rw[if_neg h3] at h;subst h;rw[if_neg (by omega),show(if j<k - 1 then k - 1 - 1 else k - 1)=k - 1 from if_neg (by omega),if_pos (by omega)];congr 1;omega
   .rw[if_neg h2] at h;by_cases h3:j<=k
    .rw[if_pos h3] at h;subst h;rw[if_neg (by omega),show(if j<k+1 then k+1 - 1 else k+1)=k from by rw[if_pos (by omega)];omega,if_neg (by omega)]
    .rw[if_neg h3] at h;subst h;rw[if_neg (by omega),show(if j<k then k - 1 else k)=k from if_neg (by omega),if_neg (by omega)]
  exact⟨g i j k k',g j i k' k⟩
 |rep o n=>simp[Kd.sig,Kd.inv]
theorem MM{d:Kd}(h:d.ok):∀(p u u':List Int),d.act p u=some u'↔d.inv.act p u'=some u
 |[],[],u'=>by
  have hl:d.inv.lone=d.lone:=by cases d<;>rfl
  cases u' with
  |nil=>unfold Kd.act;rw[hl]
  |cons k r=>
   unfold Kd.act;constructor
   .intro h;split at h<;>simp at h
   .intro h;cases hs:d.inv.sig k<;>rw[hs] at h<;>simp at h
 |[],k::r,u'=>by
  cases u' with
  |nil=>
   unfold Kd.act;constructor
   .intro h;cases hs:d.sig k<;>rw[hs] at h<;>simp at h
   .intro h;split at h<;>simp at h
  |cons k' r'=>
   unfold Kd.act;have hs:=Oi h (k:=k) (k':=k');cases h1:d.sig k<;>cases h2:d.inv.sig k'<;>simp only[Option.map_none,Option.map_some,Option.some.injEq,List.cons.injEq,reduceCtorEq,false_iff,iff_false,not_and]
   .rintro rfl;exfalso;rw[h1] at hs;have:=hs.2 h2;cases this
   .rintro rfl;exfalso;rw[h2] at hs;have:=hs.1 h1;cases this
   .constructor
    .rintro⟨rfl,rfl⟩;have:=hs.1 h1;rw[h2] at this;exact⟨Option.some.inj this,rfl⟩
    .rintro⟨rfl,rfl⟩;have:=hs.2 h2;rw[h1] at this;exact⟨Option.some.inj this,rfl⟩
 |z::p,[],u'=>by
  cases u' with
  |nil=>simp[Kd.act]
  |cons k' r'=>
   simp only[Kd.act];constructor
   .intro h;cases h
   .intro h;split at h
    .cases h2:d.inv.act p r'<;>rw[h2] at h<;>simp at h
    .cases h
 |z::p,k::r,u'=>by
  cases u' with
  |nil=>
   simp only[Kd.act];constructor
   .intro h;split at h
    .cases h2:d.act p r<;>rw[h2] at h<;>simp at h
    .cases h
   .intro h;cases h
  |cons k' r'=>
   have ih:=MM h p r r';simp only[Kd.act];by_cases h1:z=k
   .subst h1;by_cases h2:z=k'
    .subst h2;simp only[if_true];cases h3:d.act p r<;>cases h4:d.inv.act p r'<;>simp only[Option.map_none,Option.map_some,Option.some.injEq,List.cons.injEq,true_and,reduceCtorEq,false_iff,iff_false] <;>rw[h3,h4] at ih<;>simpa using ih
    .rw[if_neg h2];simp only[if_true,Option.some.injEq,List.cons.injEq];constructor
     .intro h;cases h3:d.act p r<;>rw[h3] at h<;>simp at h
      exact absurd h.1 h2
     .rintro⟨h,_⟩;exact absurd h.symm h2
   .rw[if_neg h1];by_cases h2:z=k'
    .subst h2;simp only[if_true,Option.some.injEq,List.cons.injEq];constructor
     .rintro⟨h,_⟩;exact absurd h.symm h1
     .intro h;cases h3:d.inv.act p r'<;>rw[h3] at h<;>simp at h
      exact absurd h.1 h1
    .rw[if_neg h2];simp only[Option.some.injEq,List.cons.injEq];constructor
     .rintro⟨rfl,rfl⟩;exact⟨rfl,rfl⟩
     .rintro⟨rfl,rfl⟩;exact⟨rfl,rfl⟩
mutual
def iv {α:Type} (z:ar):ag->(List Int->α)->Option α->Option α->Option (Option α×List (α×α))
 | .node k s _ ks,lab,out,own=>
  if k=2∨k=5 then(ed z ks 0 lab (own.or out) none).map fun r=>(own,r.2)
  else if k=4/\s=z then(if own.isSome then none else ed z ks 0 lab out (some (lab [])))
  else if k=6/\s=z then(if own.isSome then none else(ed z ks 0 lab out own).bind fun r=>if r.1.isSome then none else some (some (lab []),r.2))
  else if k=22/\s=z then((own.or out).bind fun d=>(ed z ks 0 lab out own).map fun r=>(r.1,(lab [],d) ::r.2))
  else ed z ks 0 lab out own
def ed {α:Type} (z:ar):List ag->Nat->(List Int->α)->Option α->Option α->Option (Option α×List (α×α))
 |[],_,_,_,own=>some (own,[])
 |t::ts,j,lab,out,own=>(iv z t (fun r=>lab ((j:Int) ::r)) out own).bind fun r=>(ed z ts (j+1) lab out r.1).map fun r'=>(r'.1,r.2++r'.2)
end
section
variable {α:Type} {z s:ar} {k:Nat} {x:Int} {ks:List ag} {lab:List Int->α} {out own:Option α}
theorem SB(hk:k=2∨k=5):iv z (.node k s x ks) lab out own=(ed z ks 0 lab (own.or out) none).map fun r=>(own,r.2):=by unfold iv;rw[if_pos hk]
theorem Th:iv z (.node 4 z x ks) lab out own=if own.isSome then none else ed z ks 0 lab out (some (lab [])):=by unfold iv;simp
theorem Ti:iv z (.node 6 z x ks) lab out own=if own.isSome then none else(ed z ks 0 lab out own).bind fun r=>if r.1.isSome then none else some (some (lab []),r.2):=by unfold iv;simp
theorem Tg:iv z (.node 22 z x ks) lab out own=(own.or out).bind fun d=>(ed z ks 0 lab out own).map fun r=>(r.1,(lab [],d) ::r.2):=by unfold iv;simp
theorem Si(h2:¬(k=2∨k=5))(h:¬(s=z/\(k=4∨k=6∨k=22))):iv z (.node k s x ks) lab out own=ed z ks 0 lab out own:=by unfold iv;rw[if_neg h2,if_neg (fun e=>h ⟨e.2,.inl e.1⟩),if_neg (fun e=>h ⟨e.2,.inr (.inl e.1)⟩),if_neg (fun e=>h ⟨e.2,.inr (.inr e.1)⟩)]
end
def ag.useAt(z:ar)(r:List Int)(t:ag):Bool:=match b7 r t with
 |some (.node k s _ _)=>k == 22 && s == z
 |none=>false
def ag.bndAt(r:List Int)(t:ag):Bool:=match b7 r t with
 |some (.node k _ _ _)=>k == 4 || k == 6
 |none=>false
theorem Ba{m:Nat}{r:List Int}{k:Nat}{s:ar}{x:Int}{ks:List ag}:b7 ((m:Int) ::r) (.node k s x ks)=(ks[m]?).bind (b7 r):=by show(if (m:Int)<0 then none else(ks[(m:Int).toNat]?).bind (b7 r))=_;rw[if_neg (by omega),Int.toNat_natCast]
theorem SW{z:ar}{m:Nat}{r:List Int}{k:Nat}{s:ar}{x:Int}{ks:List ag}{t:ag}(h:ks[m]? =some t):(ag.node k s x ks).useAt z ((m:Int) ::r)=t.useAt z r:=by unfold ag.useAt;rw[Ba,h];rfl
theorem SX{m:Nat}{r:List Int}{k:Nat}{s:ar}{x:Int}{ks:List ag}{t:ag}(h:ks[m]? =some t):(ag.node k s x ks).bndAt ((m:Int) ::r)=t.bndAt r:=by unfold ag.bndAt;rw[Ba,h];rfl
theorem Sx{α:Type}(B:Nat->α)(own:bq)(out:List bq)(z:ar):(mb (own::out) z).map B=((bn own z).map B).or ((mb out z).map B):=by show(match bn own z with|some i=>some i|none=>mb out z).map B=_;cases bn own z<;>rfl
theorem SM{α:Type}(B:Nat->α){m:bq}{x z:ar}{l:Nat}:(bn (m++[(x,l)]) z).map B=((bn m z).map B).or (if x=z then some (B l) else none):=by
 rw[DT];cases bn m z
 .simp only[Option.map_none,Option.none_or];split<;>rfl
 .rfl
structure So {α:Type} (z:ar) (B:Nat->α) (lab:List Int->α) (isN:List Int->Bool) (t:ag) (q:List Int) (st':bo):Prop where
 bnd:∀r i,(q++r,i)∈st'.ev->t.bndAt r=true->B i=lab (q++r)
 use:∀r,isN (q++r)=t.useAt z r
structure Sh {α:Type} (z:ar) (B:Nat->α) (lab:List Int->α) (isN:List Int->Bool) (ts:List ag) (q:List Int) (j:Nat) (st':bo):Prop where
 bnd:∀(m:Nat) t r i,ts[m]? =some t->(q++((j+m:Nat):Int) ::r,i)∈st'.ev->t.bndAt r=true->B i=lab (q++((j+m:Nat):Int) ::r)
 use:∀(m:Nat) t r,ts[m]? =some t->isN (q++((j+m:Nat):Int) ::r)=t.useAt z r
theorem So.kids{α:Type}{z:ar}{B:Nat->α}{lab:List Int->α}{isN:List Int->Bool}{k:Nat}{s:ar}{x:Int}{ks:List ag}{q:List Int}{st1 st':bo}(h:So z B lab isN (.node k s x ks) q st')(hs:∀e∈st1.ev,e∈st'.ev):Sh z B lab isN ks q 0 st1:=by
 refine⟨fun m t r i ht he hb=>?_,fun m t r ht=>?_⟩
 .rw[Nat.zero_add] at he ⊢;exact h.bnd _ i (hs _ he) (by rw[SX ht];exact hb)
 .rw[Nat.zero_add,h.use,SW ht]
theorem Sh.head{α:Type}{z:ar}{B:Nat->α}{lab:List Int->α}{isN:List Int->Bool}{t:ag}{ts:List ag}{q:List Int}{j:Nat}{st1 st':bo}(h:Sh z B lab isN (t::ts) q j st')(hs:∀e∈st1.ev,e∈st'.ev):So z B lab isN t (q++[(j:Int)]) st1:=by
 refine⟨fun r i he hb=>?_,fun r=>?_⟩
 .have e:q++[(j:Int)]++r=q++((j+0:Nat):Int) ::r:=(by simp);rw[e] at he ⊢;exact h.bnd 0 t r i rfl (hs _ he) hb
 .have e:q++[(j:Int)]++r=q++((j+0:Nat):Int) ::r:=(by simp);rw[e];exact h.use 0 t r rfl
theorem Sh.tail{α:Type}{z:ar}{B:Nat->α}{lab:List Int->α}{isN:List Int->Bool}{t:ag}{ts:List ag}{q:List Int}{j:Nat}{st':bo}(h:Sh z B lab isN (t::ts) q j st'):Sh z B lab isN ts q (j+1) st':=by
 refine⟨fun m t r i ht he hb=>?_,fun m t r ht=>?_⟩
 .have e:j+1+m=j+(m+1):=(by omega);rw[e] at he ⊢;exact h.bnd (m+1) t r i (by simpa using ht) he hb
 .have e:j+1+m=j+(m+1):=(by omega);rw[e];exact h.use (m+1) t r (by simpa using ht)
theorem S0{st st':bo}{new:List (List Int×Nat)}(h:st'.ev=st.ev++new):∀e∈st.ev,e∈st'.ev:=fun e he=>by rw[h];exact List.mem_append_left _ he
def Sa{α:Type}(B:Nat->α)(lab:List Int->α)(isN:List Int->Bool)(new:List (List Int×Nat)):List (α×α):=(new.filter fun e=>isN e.1).map fun e=>(lab e.1,B e.2)
theorem SD{α:Type}{B:Nat->α}{lab:List Int->α}{isN:List Int->Bool}{a b:List (List Int×Nat)}:Sa B lab isN (a++b)=Sa B lab isN a++Sa B lab isN b:=by simp[Sa]
theorem Sr{α:Type}{B:Nat->α}{lab:List Int->α}{isN:List Int->Bool}{q:List Int}{i:Nat}{b:List (List Int×Nat)}:Sa B lab isN ((q,i) ::b)=(if isN q then[(lab q,B i)] else[])++Sa B lab isN b:=by unfold Sa;cases h:isN q<;>simp[h]
mutual
theorem Tm {α:Type} (fe:bq) (z:ar) (B:Nat->α) (lab:List Int->α) (isN:List Int->Bool):∀(t:ag) (out:List bq) (own:bq) (q:List Int) (st:bo) (o:bq) (st':bo),da fe t out own q st= .ok (o,st')->So z B lab isN t q st'->
 ∃new,st'.ev=st.ev++new/\iv z t (fun r=>lab (q++r)) ((mb out z).map B) ((bn own z).map B)=some ((bn o z).map B,Sa B lab isN new)
 | .node k s x ks,out,own,q,st,o,st',h,hS=>by
  have hq:∀b,b=(k == 22 && s == z)->isN q=b:=fun b hb=>by have:=hS.use [];rw[List.append_nil] at this;rw[this,hb];rfl
  unfold da at h;split at h
  .rename_i hk;obtain⟨o1,h1,rfl⟩:=Cy h;obtain⟨new,h2,h3⟩:=Sg fe z B lab isN ks _ _ _ _ _ _ _ h1 (hS.kids fun e he=>he);refine⟨new,h2,?_⟩;rw[SB (.inl hk),<-Sx];have h3':ed z ks 0 (fun r=>lab (q++r)) ((mb (o::out) z).map B) none=some ((bn o1 z).map B,Sa B lab isN new):=h3;rw[h3'];rfl
  rename_i k2;split at h
  .rename_i hk;subst hk;obtain⟨o1,st1,h1,h2⟩:=i9 h;obtain⟨e1,rfl,rfl⟩:=ve h1;obtain⟨new,h3,h4⟩:=Sg fe z B lab isN ks _ _ _ _ _ _ _ h2 (hS.kids fun e he=>he);refine⟨(q,st.next.bs.length) ::new,by rw[h3];simp[bo.next],?_⟩;have hq0:isN q=false:=hq false (by simp);rw[Sr,hq0];have hB:B st.next.bs.length=lab (q++[]):=hS.bnd [] _ (by rw[List.append_nil,h3];simp) rfl;rw[SM] at h4;by_cases hz:s=z
   .subst hz;rw[if_pos rfl,e1] at h4;rw[Th,e1,<-hB];exact h4
   .rw[if_neg hz,Option.or_none] at h4;rw[Si (by omega) (fun h=>hz h.1)];exact h4
  rename_i k4;split at h
  .rename_i hk;obtain⟨o1,h1,rfl⟩:=Cy h;obtain⟨new,h2,h3⟩:=Sg fe z B lab isN ks _ _ _ _ _ _ _ h1 (hS.kids fun e he=>he);refine⟨new,h2,?_⟩;rw[SB (.inr hk),<-Sx];have h3':ed z ks 0 (fun r=>lab (q++r)) ((mb (o::out) z).map B) none=some ((bn o1 z).map B,Sa B lab isN new):=h3;rw[h3'];rfl
  rename_i k5;split at h
  .rename_i hk;subst hk;split at h
   .cases h
   rename_i e0;obtain⟨o1,st1,h1,h2⟩:=i9 h;obtain⟨e1,rfl,rfl⟩:=ve h2;obtain⟨new,h3,h4⟩:=Sg fe z B lab isN ks _ _ _ _ _ _ _ h1 (hS.kids fun e he=>List.mem_append_left _ he);refine⟨new++[(q,st1.bs.length)],by show st1.ev++_=_;rw[h3];simp[bo.next],?_⟩;have hB:B st1.bs.length=lab (q++[]):=hS.bnd [] _ (by rw[List.append_nil];simp) rfl;have hq0:isN q=false:=hq false (by simp);rw[SD,Sr,hq0,SM];by_cases hz:s=z
   .subst hz;rw[e0,e1] at h4;rw[Ti,e0,e1,<-hB,if_pos rfl];have h4':ed s ks 0 (fun r=>lab (q++r)) ((mb out s).map B) none=some (none,Sa B lab isN new):=h4;show(if (none:Option α).isSome then none else(ed s ks 0 (fun r=>lab (q++r)) ((mb out s).map B) none).bind _)=_;rw[h4'];simp[Sa]
   .rw[if_neg hz,Si (by omega) (fun h=>hz h.1),h4];simp[Sa]
  rename_i k6;split at h
  .rename_i hk;subst hk;obtain⟨st1,h1,h2⟩:=CG h;obtain⟨i,e1,_,rfl⟩:=CC h1;obtain⟨new,h3,h4⟩:=Sg fe z B lab isN ks _ _ _ _ _ _ _ h2 (hS.kids fun e he=>he);refine⟨(q,i) ::new,by rw[h3];simp[bo.next],?_⟩;have hq0:isN q=(s == z):=hq (s == z) (by simp);rw[Sr,hq0];by_cases hz:s=z
   .subst hz;rw[Tg,<-Sx,e1,h4];simp
   .rw[Si (by omega) (fun h=>hz h.1),h4];simp[hz]
  rename_i k22;have hn:isN q=false:=hq false (by simp[k22]);split at h
  .rename_i hk;subst hk;obtain⟨st1,h1,h2⟩:=CG h;obtain⟨i,e1,_,rfl⟩:=CC h1;obtain⟨new,h3,h4⟩:=Sg fe z B lab isN ks _ _ _ _ _ _ _ h2 (hS.kids fun e he=>he);refine⟨(q,i) ::new,by rw[h3];simp[bo.next],?_⟩;rw[Sr,hn,Si (by omega) (by omega),h4];simp
  .obtain⟨new,h3,h4⟩:=Sg fe z B lab isN ks _ _ _ _ _ _ _ h (hS.kids fun e he=>he);refine⟨new,h3,?_⟩;rw[Si (by omega) (by omega),h4]
theorem Sg {α:Type} (fe:bq) (z:ar) (B:Nat->α) (lab:List Int->α) (isN:List Int->Bool):∀(ts:List ag) (out:List bq) (own:bq) (q:List Int) (j:Nat) (st:bo) (o:bq) (st':bo),dq fe ts out own q j st= .ok (o,st')->Sh z B lab isN ts q j st'->
 ∃new,st'.ev=st.ev++new/\ed z ts j (fun r=>lab (q++r)) ((mb out z).map B) ((bn own z).map B)=some ((bn o z).map B,Sa B lab isN new)
 |[],out,own,q,j,st,o,st',h,hS=>by
  unfold dq at h;cases h
  exact⟨[],by simp,by unfold ed;rfl⟩
 |t::ts,out,own,q,j,st,o,st',h,hS=>by
  unfold dq at h;obtain⟨o1,st1,h1,h2⟩:=i9 h;obtain⟨n2,a3,a4⟩:=Sg fe z B lab isN ts _ _ _ _ _ _ _ h2 hS.tail;obtain⟨n1,a1,a2⟩:=Tm fe z B lab isN t _ _ _ _ _ _ h1 (hS.head (S0 a3));refine⟨n1++n2,by rw[a3,a1];simp,?_⟩;unfold ed;have e:(fun r=>lab (q++(j:Int) ::r))=fun r=>lab (q++[(j:Int)]++r):=by funext r;simp
  rw[e,a2];simp only[Option.bind_some];rw[a4,SD];rfl
end
theorem J7{l:List ag}{x:ag}{i j:Nat}:(l.insertIdx i x)[j]? =if j<i then l[j]? else if j=i then if j<=l.length then some x else none else l[j - 1]? :=List.getElem?_insertIdx
theorem PI{d:Kd}(hd:d.lone=true)(hok:d.ok){ks ks1:List ag}(h:d.kids ks=some ks1){w w0:Int}(hw:0<=w)(hs:d.inv.sig w=some w0):0<=w0/\ks1[w.toNat]? =ks[w0.toNat]? /\∀v,d.kids (ks.set w0.toNat v)=some (ks1.set w.toNat v):=by
 obtain⟨w,rfl⟩:=Int.eq_ofNat_of_zero_le hw;cases d with
 |rep=>cases hd
 |ins i n=>
  obtain⟨i,rfl⟩:=Int.eq_ofNat_of_zero_le hok;simp only[Kd.kids,Int.toNat_natCast] at h ⊢;split at h
  .rename_i hi;cases h
   simp only[Kd.inv,Kd.sig,cF] at hs;split at hs
   .cases hs
   .rename_i hne;have hne':w≠i:=fun e=>hne (by rw[e]);obtain⟨m,hm,hm2⟩:∃m:Nat,w0=m/\m=if i<w then w - 1 else w:=by
     injection hs with hs;split at hs
     .exact⟨w - 1,by omega,by rw[if_pos (by omega)]⟩
     .exact⟨w,hs.symm,by rw[if_neg (by omega)]⟩
    subst hm;simp only[Int.toNat_natCast];refine⟨by omega,?_,fun v=>?_⟩
    .rw[J7,hm2];by_cases h1:w<i
     .rw[if_pos h1,if_neg (by omega)]
     .rw[if_neg h1,if_neg hne',if_pos (by omega)]
    .rw[if_pos (by simpa using hi)]
     congr 1
     refine List.ext_getElem? fun a=>?_;rw[J7,List.getElem?_set,List.getElem?_set,List.getElem?_set,J7,List.length_set,List.length_insertIdx,if_pos hi];by_cases h1:a<i
     .rw[if_pos h1,if_pos h1];by_cases h2:w=a
      .have:m=a:=(by rw[hm2,if_neg (by omega)];exact h2);rw[if_pos this,if_pos h2];by_cases h3:m<ks.length
       .rw[if_pos h3,if_pos (by omega)]
       .rw[if_neg h3,if_neg (by omega)]
      .have:m≠a:=by rw[hm2];split<;>omega
       rw[if_neg this,if_neg h2]
     .rw[if_neg h1,if_neg h1];by_cases h2:a=i
      .rw[if_pos h2,if_pos h2,if_neg (by omega:¬w=a)]
      .rw[if_neg h2,if_neg h2];by_cases h3:w=a
       .have:m=a - 1:=(by rw[hm2,if_pos (by omega)];omega);rw[if_pos this,if_pos h3];by_cases h4:m<ks.length
        .rw[if_pos h4,if_pos (by omega)]
        .rw[if_neg h4,if_neg (by omega)]
       .have:m≠a - 1:=by rw[hm2];split<;>omega
        rw[if_neg this,if_neg h3]
  .cases h
 |del i o=>
  obtain⟨i,rfl⟩:=Int.eq_ofNat_of_zero_le hok;simp only[Kd.kids,Int.toNat_natCast] at h ⊢;split at h
  .rename_i hi;cases h
   have hil:i<ks.length:=(gl.1 hi).1;simp only[Kd.inv,Kd.sig,jd] at hs;obtain⟨m,hm,hm2⟩:∃m:Nat,w0=m/\m=if i<=w then w+1 else w:=by
    injection hs with hs;split at hs
    .exact⟨w+1,by omega,by rw[if_pos (by omega)]⟩
    .exact⟨w,hs.symm,by rw[if_neg (by omega)]⟩
   subst hm;simp only[Int.toNat_natCast];have hmi:m≠i:=by rw[hm2];split<;>omega
   refine⟨by omega,?_,fun v=>?_⟩
   .rw[List.getElem?_eraseIdx,hm2];split
    .rw[if_neg (by omega)]
    .rw[if_pos (by omega)]
   .rw[if_pos (by rw[List.getElem?_set,if_neg hmi];exact hi)]
    congr 1
    refine List.ext_getElem? fun a=>?_;rw[List.getElem?_eraseIdx,List.getElem?_set,List.getElem?_set,List.getElem?_set,List.getElem?_eraseIdx,List.length_eraseIdx,if_pos hil];by_cases h1:a<i
    .rw[if_pos h1,if_pos h1];by_cases h2:w=a
     .have:m=a:=(by rw[hm2,if_neg (by omega)];exact h2);rw[if_pos this,if_pos h2,if_pos (by omega),if_pos (by omega)]
     .have:m≠a:=by rw[hm2];split<;>omega
      rw[if_neg this,if_neg h2]
    .rw[if_neg h1,if_neg h1];by_cases h2:w=a
     .have:m=a+1:=(by rw[hm2,if_pos (by omega)];omega);rw[if_pos this,if_pos h2];by_cases h4:m<ks.length
      .rw[if_pos h4,if_pos (by omega)]
      .rw[if_neg h4,if_neg (by omega)]
     .have:m≠a+1:=by rw[hm2];split<;>omega
      rw[if_neg this,if_neg h2]
  .cases h
 |mov i j o=>
  obtain⟨hi0,hj0⟩:=hok;obtain⟨i,rfl⟩:=Int.eq_ofNat_of_zero_le hi0;obtain⟨j,rfl⟩:=Int.eq_ofNat_of_zero_le hj0;simp only[Kd.kids,Int.toNat_natCast] at h ⊢;split at h
  .rename_i hij;obtain⟨hi,hj⟩:=hij;cases h
   have hil:i<ks.length:=(gl.1 hi).1;simp only[Kd.inv,Kd.sig] at hs;split at hs
   .cases hs
   .rename_i hne;have hne':w≠j:=fun e=>hne (by rw[e]);obtain⟨l,hl2⟩:∃l:Nat,l=if j<w then w - 1 else w:=⟨_,rfl⟩
    have hl3:cF (j:Int) (w:Int)=(l:Int):=by
     unfold cF;rw[hl2];by_cases h1:j<w
     .rw[if_pos (by omega),if_pos h1];omega
     .rw[if_neg (by omega),if_neg h1]
    rw[hl3] at hs;unfold jd at hs;obtain⟨m,hm,hm2⟩:∃m:Nat,w0=m/\m=if i<=l then l+1 else l:=by
     injection hs with hs;split at hs
     .exact⟨l+1,by omega,by rw[if_pos (by omega)]⟩
     .exact⟨l,hs.symm,by rw[if_neg (by omega)]⟩
    subst hm;simp only[Int.toNat_natCast];have hmi:m≠i:=by rw[hm2];split<;>omega
    have hlen:(ks.eraseIdx i).length=ks.length - 1:=(by rw[List.length_eraseIdx,if_pos hil]);have e1:∀b:Nat,(b=l)->(ks.eraseIdx i)[b]? =ks[m]? :=fun b hb=>by
     rw[List.getElem?_eraseIdx,hm2,hb];split
     .rw[if_neg (by omega)]
     .rw[if_pos (by omega)]
    have e2:∀(b:Nat) v,((ks.set m v).eraseIdx i)[b]? =if l=b then(if m<ks.length then some v else none) else(ks.eraseIdx i)[b]? :=fun b v=>by
     rw[List.getElem?_eraseIdx,List.getElem?_set,List.getElem?_set,List.getElem?_eraseIdx];by_cases h1:b<i
     .rw[if_pos h1,if_pos h1];by_cases h2:l=b
      .rw[if_pos h2,if_pos (by rw[hm2,if_neg (by omega)];exact h2)]
      .rw[if_neg h2,if_neg (by rw[hm2];split<;>omega)]
     .rw[if_neg h1,if_neg h1];by_cases h2:l=b
      .rw[if_pos h2,if_pos (by rw[hm2,if_pos (by omega)];omega)]
      .rw[if_neg h2,if_neg (by rw[hm2];split<;>omega)]
    refine⟨by omega,?_,fun v=>?_⟩
    .rw[J7];by_cases h1:w<j
     .rw[if_pos h1];exact e1 _ (by rw[hl2,if_neg (by omega)])
     .rw[if_neg h1,if_neg hne'];exact e1 _ (by rw[hl2,if_pos (by omega)])
    .rw[if_pos ⟨by rw[List.getElem?_set,if_neg hmi];exact hi,by simpa using hj⟩]
     congr 1
     refine List.ext_getElem? fun a=>?_;have hlen2:((ks.set m v).eraseIdx i).length=ks.length - 1:=(by rw[List.length_eraseIdx,List.length_set,if_pos hil]);rw[J7,List.getElem?_set,J7,e2,e2,List.length_insertIdx,hlen,hlen2,if_pos (by omega:j<=ks.length - 1)];by_cases h1:a<j
     .rw[if_pos h1,if_pos h1];by_cases h2:w=a
      .have h3:l=a:=(by rw[hl2,if_neg (by omega)];exact h2);rw[if_pos h3,if_pos h2];by_cases h4:m<ks.length
       .rw[if_pos h4,if_pos (by omega)]
       .rw[if_neg h4,if_neg (fun h6=>h4 (by rw[hm2];split<;>omega))]
      .rw[if_neg (by rw[hl2];split<;>omega),if_neg h2]
     .rw[if_neg h1,if_neg h1];by_cases h2:a=j
      .rw[if_pos h2,if_pos h2,if_neg (by omega:¬w=a)]
      .rw[if_neg h2,if_neg h2];by_cases h3:w=a
       .have h5:l=a - 1:=(by rw[hl2,if_pos (by omega)];omega);rw[if_pos h5,if_pos h3];by_cases h4:m<ks.length
        .rw[if_pos h4,if_pos (by have h6:=hm2;split at h6<;>omega)]
        .rw[if_neg h4,if_neg (fun h6=>h4 (by rw[hm2];split<;>omega))]
       .rw[if_neg (by rw[hl2];split<;>omega),if_neg h3]
  .cases h
theorem Rm{e:Kd}(hok:e.ok){z z0:Int}(hz:0<=z)(h:e.sig z=some z0):0<=z0:=by
 cases e with
 |ins i n=>simp only[Kd.sig,jd,Option.some.injEq] at h;split at h<;>omega
 |del i n=>
  simp only[Kd.sig,cF] at h;split at h
  .cases h
  .injection h with h;have:0<=i:=hok;split at h<;>omega
 |mov i j o=>
  simp only[Kd.sig] at h;obtain⟨h1,h2⟩:=hok;split at h
  .cases h
  .injection h with h;have h3:0<=cF i z:=by unfold cF;split<;>omega
   generalize cF i z=y at h h3;unfold jd at h;split at h<;>omega
 |rep o n=>cases h
theorem Ko{d:Kd}(hd:d.lone=true){k:Nat}{s:ar}{x:Int}{ks:List ag}{t':ag}(h:d.run (.node k s x ks)=some t'):JR k=true/\∃ks',d.kids ks=some ks'/\t'= .node k s x ks':=by
 have h':(if JR k then(d.kids ks).map fun ks'=>ag.node k s x ks' else none)=some t':=by
  cases d with
  |rep=>cases hd
  |_=>exact h
 split at h'
 .rename_i hk;cases hks:d.kids ks with
  |none=>rw[hks] at h';cases h'
  |some ks'=>rw[hks] at h';exact⟨hk,ks',rfl,(Option.some.inj h').symm⟩
 .cases h'
theorem Lt{d:Kd}(hd:d.lone=true){k:Nat}{s:ar}{x:Int}{ks ks':List ag}(hk:JR k=true)(h:d.kids ks=some ks'):d.run (.node k s x ks)=some (.node k s x ks'):=by
 have:d.run (.node k s x ks)=(if JR k then(d.kids ks).map fun ks'=>ag.node k s x ks' else none):=by
  cases d with
  |rep=>cases hd
  |_=>rfl
 rw[this,if_pos hk,h];rfl
theorem L5{f:ag->Option ag}{z:Int}{p:List Int}{k:Nat}{s:ar}{x:Int}{ks:List ag}{t':ag}(h:s8 f (z::p) (.node k s x ks)=some t'):0<=z/\∃u u',ks[z.toNat]? =some u/\s8 f p u=some u'/\t'= .node k s x (ks.set z.toNat u'):=by
 unfold s8 at h;split at h
 .cases h
 .rename_i hz;refine⟨by omega,?_⟩;cases hu:ks[z.toNat]? with
  |none=>rw[hu] at h;cases h
  |some u=>
   rw[hu] at h;simp only[Option.bind_some] at h;cases hm:s8 f p u with
   |none=>rw[hm] at h;cases h
   |some u'=>rw[hm] at h;exact⟨u,u',rfl,hm,(Option.some.inj h).symm⟩
theorem NB{f:ag->Option ag}{z:Int}{p:List Int}{k:Nat}{s:ar}{x:Int}{ks:List ag}{u u':ag}(hz:0<=z)(hu:ks[z.toNat]? =some u)(h:s8 f p u=some u'):s8 f (z::p) (.node k s x ks)=some (.node k s x (ks.set z.toNat u')):=by unfold s8;rw[if_neg (by omega),hu];simp only[Option.bind_some,h,Option.map_some]
mutual
theorem Sj {α:Type} {z:ar}:∀(t:ag) (lab:List Int->α) (out own:Option α),z∉t.names->iv z t lab out own=some (own,[])
 | .node k s x ks,lab,out,own,h=>by
  have h1:z∉bE ks:=fun hm=>h (by unfold ag.names;exact List.mem_append_right _ hm);have h2:∀b,k=b->cG b=true->¬s=z:=fun b hk hb hs=>h (by subst hk hs;unfold ag.names;rw[if_pos hb];exact List.mem_append_left _ (List.mem_singleton.2 rfl))
  by_cases hk:k=2∨k=5
  .rw[SB hk,Sz ks 0 lab _ none h1];rfl
  .rw[Si hk (fun e=>by
    rcases e.2 with e2|e2|e2
    .exact h2 4 e2 rfl e.1
    .exact h2 6 e2 rfl e.1
    .exact h2 22 e2 rfl e.1)]
   exact Sz ks 0 lab _ _ h1
theorem Sz {α:Type} {z:ar}:∀(ts:List ag) (j:Nat) (lab:List Int->α) (out own:Option α),z∉bE ts->ed z ts j lab out own=some (own,[])
 |[],_,_,_,_,_=>by unfold ed;rfl
 |t::ts,j,lab,out,own,h=>by unfold bE at h;unfold ed;rw[Sj t _ _ _ (fun hm=>h (List.mem_append_left _ hm))];simp only[Option.bind_some];rw[Sz ts _ _ _ _ (fun hm=>h (List.mem_append_right _ hm))];rfl
end
def Sf{α:Type}(r:Option (Option α×List (α×α)))(f:Option α->Option (Option α×List (α×α))):Option (Option α×List (α×α)):=r.bind fun r=>(f r.1).map fun r'=>(r'.1,r.2++r'.2)
theorem Tl{α:Type}{r:Option (Option α×List (α×α))}{f g:Option α->Option (Option α×List (α×α))}:Sf (Sf r f) g=Sf r fun o=>Sf (f o) g:=by
 unfold Sf;cases r with
 |none=>rfl
 |some r=>
  simp only[Option.bind_some];cases f r.1 with
  |none=>rfl
  |some r1=>
   simp only[Option.map_some,Option.bind_some];cases g r1.1 with
   |none=>rfl
   |some r2=>simp[List.append_assoc]
theorem SC{α:Type}{o:Option α}{f:Option α->Option (Option α×List (α×α))}:Sf (some (o,[])) f=f o:=by
 unfold Sf;cases h:f o with
 |none=>simp[h]
 |some r=>simp[h]
theorem Sd{α:Type}{z:ar}{t:ag}{ts:List ag}{j:Nat}{lab:List Int->α}{out own:Option α}:ed z (t::ts) j lab out own=Sf (iv z t (fun r=>lab ((j:Int) ::r)) out own) fun o=>ed z ts (j+1) lab out o:=by
 conv=>lhs;unfold ed
 rfl
theorem SA{α:Type}{z:ar}{j:Nat}{lab:List Int->α}{out own:Option α}:ed z [] j lab out own=some (own,[]):=by unfold ed;rfl
theorem Sn{α:Type}{z:ar}:∀(xs9 bs:List ag) (j:Nat) (lab:List Int->α) (out own:Option α),ed z (xs9++bs) j lab out own=Sf (ed z xs9 j lab out own) fun o=>ed z bs (j+xs9.length) lab out o
 |[],bs,j,lab,out,own=>by rw[SA,SC];rfl
 |a::xs9,bs,j,lab,out,own=>by
  rw[List.cons_append,Sd,Sd,Tl]
  congr 1
  funext o;rw[Sn xs9 bs (j+1) lab out o,show j+1+xs9.length=j+(a::xs9).length from by simp;omega]
mutual
theorem Tj {α:Type} {z:ar}:∀(t:ag) (lab lab':List Int->α) (out own:Option α),(∀r,lab r=lab' r)->iv z t lab out own=iv z t lab' out own
 |t,lab,lab',out,own,h=>by have:lab=lab':=funext h;rw[this]
theorem Se {α:Type} {z:ar}:∀(ts:List ag) (j j':Nat) (lab lab':List Int->α) (out own:Option α),(∀(m:Nat) t r,ts[m]? =some t->z∈t.names->lab (((j+m:Nat):Int) ::r)=lab' (((j'+m:Nat):Int) ::r))->ed z ts j lab out own=ed z ts j' lab' out own
 |[],j,j',lab,lab',out,own,_=>by rw[SA,SA]
 |t::ts,j,j',lab,lab',out,own,h=>by
  have e:iv z t (fun r=>lab ((j:Int) ::r)) out own=iv z t (fun r=>lab' ((j':Int) ::r)) out own:=by
   by_cases hz:z∈t.names
   .exact Tj t _ _ _ _ fun r=>h 0 t r rfl hz
   .rw[Sj t _ _ _ hz,Sj t _ _ _ hz]
  rw[Sd,Sd,e]
  congr 1
  funext o;exact Se ts (j+1) (j'+1) lab lab' out o fun m t' r ht hz=>by have:=h (m+1) t' r (by simpa using ht) hz;rwa [show j+1+m=j+(m+1) from by omega,show j'+1+m=j'+(m+1) from by omega]
end
def Sq{α:Type}(f:Int->Int)(lab:List Int->α):List Int->α
 |[]=>lab []
 |k::r=>lab (f k::r)
theorem SL{x:ag}:∀(l:List ag) (i:Nat),i<=l.length->l.insertIdx i x=l.take i++x::l.drop i
 |l,0,_=>by simp
 |[],i+1,h=>by simp at h
 |a::l,i+1,h=>by rw[List.insertIdx_succ_cons,SL l i (by simpa using h)];simp
theorem SP{α:Type}{z:ar}{ks:List ag}{n:ag}{i:Nat}(hi:i<=ks.length)(hn:z∉n.names)(lab:List Int->α)(out own:Option α):ed z (ks.insertIdx i n) 0 lab out own=ed z ks 0 (Sq (jd i) lab) out own:=by
 have e:ks.insertIdx i n=ks.take i++n::ks.drop i:=SL ks i hi;conv=>rhs;rw[<-List.take_append_drop i ks]
 rw[e,Sn,Sn];have hl:(ks.take i).length=i:=(by rw[List.length_take];omega);rw[hl];have e1:ed z (ks.take i) 0 lab out own=ed z (ks.take i) 0 (Sq (jd i) lab) out own:=Se _ _ _ _ _ _ _ fun m t r ht _=>by have:m< (ks.take i).length:=(gl.1 ht).1;show lab _=lab (jd i _::r);unfold jd;rw[if_neg (by omega)]
 rw[e1]
 congr 1
 funext o;rw[Sd,Sj n _ _ _ hn,SC];exact Se _ _ _ _ _ _ _ fun m t r ht _=>by
  show lab _=lab (jd i _::r);unfold jd;rw[if_pos (by omega)]
  congr 2
  omega
theorem SO{α:Type}{z:ar}{ks:List ag}{o:ag}{i:Nat}(hi:ks[i]? =some o)(ho:z∉o.names)(lab:List Int->α)(out own:Option α):ed z (ks.eraseIdx i) 0 lab out own=ed z ks 0 (Sq (cF i) lab) out own:=by
 have hlt:i<ks.length:=(gl.1 hi).1;have e:ks.eraseIdx i=ks.take i++ks.drop (i+1):=List.eraseIdx_eq_take_drop_succ ..;have e2:ks=ks.take i++o::ks.drop (i+1):=by
  conv=>lhs;rw[<-List.take_append_drop i ks,List.drop_eq_getElem_cons hlt]
  rw[(gl.1 hi).2]
 conv=>rhs;rw[e2]
 rw[e,Sn,Sn];have hl:(ks.take i).length=i:=(by rw[List.length_take];omega);rw[hl];have e1:ed z (ks.take i) 0 lab out own=ed z (ks.take i) 0 (Sq (cF i) lab) out own:=Se _ _ _ _ _ _ _ fun m t r ht _=>by have:m< (ks.take i).length:=(gl.1 ht).1;show lab _=lab (cF i _::r);unfold cF;rw[if_neg (by omega)]
 rw[e1]
 congr 1
 funext o';rw[Sd,Sj o _ _ _ ho,SC];exact Se _ _ _ _ _ _ _ fun m t r ht _=>by
  show lab _=lab (cF i _::r);unfold cF;rw[if_pos (by omega)]
  congr 2
  omega
def Kd.parts:Kd->List ag
 | .ins _ n=>[n]
 | .del _ o=>[o]
 | .mov _ _ o=>[o]
 | .rep o n=>[o,n]
theorem Tf{α:Type}{z:ar}{d:Kd}{ks ks':List ag}(hok:d.ok)(h:d.kids ks=some ks')(hz:∀t∈d.parts,z∉t.names)(lab lab2:List Int->α)(hl:∀k r k',d.sig k=some k'->lab2 (k::r)=lab (k'::r))(out own:Option α):ed z ks' 0 lab out own=ed z ks 0 lab2 out own:=by
 cases d with
 |ins i n=>
  simp only[Kd.kids] at h;split at h
  .rename_i hi;injection h with h;subst h;rw[SP hi (hz n (by simp[Kd.parts])),Int.toNat_of_nonneg hok];exact Se _ _ _ _ _ _ _ fun m t r _ _=>(hl _ r _ rfl).symm
  .cases h
 |del i o=>
  simp only[Kd.kids] at h;split at h
  .rename_i hi;injection h with h;subst h;have hfree:=hz o (by simp[Kd.parts]);rw[SO hi hfree,Int.toNat_of_nonneg hok];exact Se _ _ _ _ _ _ _ fun m t r ht hm=>by
    have hne:((0+m:Nat):Int)≠i:=fun e=>by have hok:0<=i:=hok;have:i.toNat=m:=(by omega);rw[this,ht] at hi;injection hi with hi;exact hfree (hi ▸ hm)
    exact(hl _ r _ (if_neg hne)).symm
  .cases h
 |mov i j o=>
  simp only[Kd.kids] at h;split at h
  .rename_i hi;injection h with h;subst h;have hfree:=hz o (by simp[Kd.parts]);have hok:0<=i/\0<=j:=hok;have hlt:i.toNat<ks.length:=(gl.1 hi.1).1;rw[SP (by rw[List.length_eraseIdx,if_pos hlt];omega) hfree,SO hi.1 hfree,Int.toNat_of_nonneg hok.1,Int.toNat_of_nonneg hok.2];exact Se _ _ _ _ _ _ _ fun m t r ht hm=>by
    have hne:((0+m:Nat):Int)≠i:=fun e=>by have:i.toNat=m:=(by omega);rw[this,ht] at hi;have hi:=hi.1;injection hi with hi;exact hfree (hi ▸ hm)
    exact(hl _ r _ (if_neg hne)).symm
  .cases h
 |rep o n=>cases h
theorem SQ{α:Type}{z:ar}{u u':ag}{f:List Int->Option (List Int)}(hu:∀(lab lab2:List Int->α) out own,(∀r r',f r=some r'->lab2 r=lab r')->iv z u' lab out own=iv z u lab2 out own):∀(ks:List ag) (i j:Nat) (lab lab2:List Int->α) (out own:Option α),ks[i]? =some u->(∀r r',f r=some r'->lab2 (((j+i:Nat):Int) ::r)=lab (((j+i:Nat):Int) ::r'))->(∀k r,k≠((j+i:Nat):Int)->lab2 (k::r)=lab (k::r))->ed z (ks.set i u') j lab out own=ed z ks j lab2 out own
 |[],i,j,lab,lab2,out,own,h,_,_=>by simp at h
 |t::ts,0,j,lab,lab2,out,own,h,h1,h2=>by
  simp at h;subst h;rw[List.set_cons_zero,Sd,Sd,hu (fun r=>lab ((j:Int) ::r)) (fun r=>lab2 ((j:Int) ::r)) _ _ (fun r r' hr=>h1 r r' hr)]
  congr 1
  funext o;exact Se _ _ _ _ _ _ _ fun m t r _ _=>(h2 _ r (by omega)).symm
 |t::ts,i+1,j,lab,lab2,out,own,h,h1,h2=>by
  rw[List.set_cons_succ,Sd,Sd];have e:(fun r=>lab2 ((j:Int) ::r))=fun r=>lab ((j:Int) ::r):=by funext r;exact h2 _ r (by omega)
  rw[e]
  congr 1
  funext o;exact SQ hu ts i (j+1) lab lab2 out o (by simpa using h) (by rw[show j+1+i=j+(i+1) from by omega];exact h1) (by rw[show j+1+i=j+(i+1) from by omega];exact h2)
theorem SR{α:Type}{z:ar}{k:Nat}{s:ar}{x:Int}{ks ks':List ag}{lab lab':List Int->α}(h0:lab []=lab' [])(h:∀out own,ed z ks' 0 lab out own=ed z ks 0 lab' out own)(out own:Option α):iv z (.node k s x ks') lab out own=iv z (.node k s x ks) lab' out own:=by unfold iv;simp only[h,h0]
theorem SS{α:Type}{z:ar}{d:Kd}(hok:d.ok)(hz:∀t∈d.parts,z∉t.names):∀(p:List Int) (t t':ag) (lab lab2:List Int->α) (out own:Option α),s8 d.run p t=some t'->(∀r r',d.act p r=some r'->lab2 r=lab r')->iv z t' lab out own=iv z t lab2 out own
 |[],t,t',lab,lab2,out,own,h,hl2=>by
  have h:d.run t=some t':=h;cases hl:d.lone with
  |true=>
   obtain⟨k,s,x,ks⟩:=t;obtain⟨_,ks',h1,rfl⟩:=Ko hl h;refine SR ?_ (fun out own=>Tf hok h1 hz lab lab2 (fun k r k' hs=>?_) out own) out own
   .exact(hl2 [] [] (by show(if d.lone then some [] else none)=_;rw[hl];rfl)).symm
   .exact hl2 _ _ (by show(d.sig k).map (· ::r)=_;rw[hs];rfl)
  |false=>
   cases d with
   |rep o n=>
    simp only[Kd.run] at h;split at h
    .rename_i e;injection h with h;subst h;have e1:z∉t.names:=(by rw[e];exact hz _ (by simp[Kd.parts]));rw[Sj _ _ _ _ (hz _ (by simp[Kd.parts])),Sj _ _ _ _ e1]
    .cases h
   |ins=>cases hl
   |del=>cases hl
   |mov=>cases hl
 |q::p,.node k s x ks,t',lab,lab2,out,own,h,hl2=>by
  obtain⟨hq,u,u',h1,h2,rfl⟩:=L5 h;refine SR (hl2 [] [] rfl).symm (fun out own=>?_) out own;have hqq:((0+q.toNat:Nat):Int)=q:=(by omega);refine SQ (f:=fun r=>d.act p r) (fun lab lab2 out own hr=>SS hok hz p u u' lab lab2 out own h2 hr) ks q.toNat 0 lab lab2 out own h1 (fun r r' hr=>?_) (fun k r hk=>?_)
  .rw[hqq];exact hl2 _ _ (by show(if q=q then _ else _)=_;rw[if_pos rfl];have hr:d.act p r=some r':=hr;rw[hr];rfl)
  .rw[hqq] at hk;exact hl2 _ _ (by show(if q=k then _ else _)=_;rw[if_neg (fun e=>hk e.symm)])
theorem hpo(V:World)(o:Obj){r:Nat}(h:r<V.heap.size):(V.alloc o).heap[r]? =V.heap[r]?:=((Below.refl V.heap.size V).alloc (Nat.le_refl _) o).block r h
end Go.Proofs.YtfipahjodfminaaGreatDoor
