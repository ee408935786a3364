/- Part 24 of the proof. -/
import Derived.Test.YtfipahjodfminaaGreatDoorMnW
namespace Go.Proofs.YtfipahjodfminaaGreatDoor
open Go.RowKit
set_option linter.all false
set_option maxHeartbeats 40000000
set_option maxRecDepth 100000
section
open Go.RowKit Go.Shelf
attribute [local go_sem] Oper.semAt_some
theorem NS(k:Nat)(s:ByteArray)(x:Int)(A:Option Addr)(n c:Nat)(w:World):Calls Tryz.prog 36 #[.agg #[.int .u8 k,.string s,.int .i64 x,.slice A n c]] w fun e w'=>e= .returned (.func (.func 79) #[] #[.pointer (some ⟨w.heap.size,0,none⟩)])/\w'=w.alloc (.cells #[.int .u8 k,.string s,.int .i64 x,.slice A n c] 25):=by
 go_in
 go_wp2;go_ret;exact⟨rfl,rfl⟩
theorem ic.cell{N:Nat}{a:Addr}{v:Value}:ic N (fun W=>W.cell? a=some v/\W.frozen? a=false):=
 ⟨fun A B h hb=>⟨ac hb h.1,(World.frozen?_of_block (hb.block _ (bK h.1))).trans h.2⟩,fun A l o o' h hN hl ho=>⟨(lQ.put o' hl ho).cell h.1,((lQ.put o' hl ho).frozen h.1).trans h.2⟩⟩
theorem ic.below{N:Nat}{w0:World}(hN:w0.heap.size<=N):ic N (fun W=>Below w0.heap.size w0 W):=
 ⟨fun A B h hb=>h.trans (hb.mono h.size),fun A l o o' h hl hA ho=>h.trans ⟨rfl,rfl,rfl,by simp,fun k hk=>World.putObj_heap_other (by omega)⟩⟩
theorem ic.and{N:Nat}{I J:World->Prop}(h:ic N I)(h':ic N J):ic N (fun W=>I W/\J W):=⟨fun A B x hb=>⟨h.1 A B x.1 hb,h'.1 A B x.2 hb⟩,fun A l o o' x hN hl ho=>⟨h.2 A l o o' x.1 hN hl ho,h'.2 A l o o' x.2 hN hl ho⟩⟩
theorem ic.const{N:Nat}{p:Prop}:ic N (fun _=>p):=⟨fun _ _ h _=>h,fun _ _ _ _ h _ _ _=>h⟩
theorem RF{T:ag}{u b:List Int}{pre:I9}{p:List Int×List Int}(h:(pre++[p])<+:kb T)(hne:∀q∈pre,q.1≠u)(hp:p.1=u):tg T u b=(p.2 == b):=by
 obtain⟨r,hr⟩:=h;unfold tg;rw[<-hr,List.append_assoc,List.find?_append];have h1:pre.find? (fun p=>decide (p.1=u))=none:=List.find?_eq_none.2 fun q hq=>by have:=hne q hq;simpa using this
 rw[h1];simp only[Option.none_or,List.singleton_append,List.find?_cons];rw[decide_eq_true hp];simp only;rw[Bool.eq_iff_iff];simp
theorem RG{T:ag}{u b:List Int}(hne:∀q∈kb T,q.1≠u):tg T u b=false:=by unfold tg;rw[List.find?_eq_none.2 fun q hq=>by have:=hne q hq;simpa using this]
theorem KeepsOthers.below{A B:World}(h:Below A.heap.size A B):KeepsOthers A B:=⟨h.size,fun k o ho _=>(h.block k (aK.1 ho).1).trans ho⟩
def iy(W:World)(b:Nat)(v:Value):Prop:=W.cell? ⟨b,0,none⟩=some v/\W.frozen? ⟨b,0,none⟩=false
theorem Ky{w:World}{b:Nat}{v:Value}{T:TypeId}(hb:w.heap.size=b):iy (w.alloc (.cells #[v] T)) b v:=by subst hb;exact⟨by simp,by simp⟩
theorem iy.alloc{W:World}{b:Nat}{v:Value}(h:iy W b v)(o:Obj):iy (W.alloc o) b v:=by have hb:Below W.heap.size W (W.alloc o):=(ai _ _).alloc (ah _) _;exact⟨ac hb h.1,(World.frozen?_of_block (hb.block _ (bK h.1))).trans h.2⟩
theorem iy.below{W W':World}{b:Nat}{v:Value}(h:iy W b v)(hb:Below W.heap.size W W'):iy W' b v:=⟨ac hb h.1,(World.frozen?_of_block (hb.block _ (bK h.1))).trans h.2⟩
theorem iy.drewN{W:World}{b:Nat}{v:Value}(h:iy W b v)(q:Nat):iy (W.drewN q) b v:=⟨by rw[World.cell?_drewN];exact h.1,h.2⟩
theorem QJ(T:ag)(k:Nat)(s:ByteArray)(x:Int)(A:Option Addr)(n c:Nat)(u b:List Int)(uA:Option Addr)(ul uc:Nat)(bA:Option Addr)(bl bc:Nat)(w:World)(hN:cf w T k s x A n c)(hsh:T.short 281474976710656)(hsz:T.sz<=100000)(hE:bI w)(hu:cc w u uA ul uc)(hb:cc w b bA bl bc):Calls Tryz.prog 37 #[.agg #[.int .u8 k,.string s,.int .i64 x,.slice A n c],.slice uA ul uc,.slice bA bl bc] w (th (tg T u b) w):=by
 have HN:=ab hN;have HE:=ab hE;have HU:=ab hu;have HBB:=ab hb;clear hN hE hu hb;refine(callsIn_wide (n:=3)).1 ?_;refine callsIn_of_wp_marks Tryz.func37 rfl trivial ?_ rfl;simp only[Tryz.ntmps37,List.size_toArray,List.length_cons,List.length_nil,Nat.reduceAdd,Nat.reduceSub,Array.replicate_succ,Array.replicate_zero,List.push_toArray,List.append_toArray,List.nil_append,List.cons_append]
 gi_wp2_with (refine⟨trivial,?_⟩;gi_at_call 36;refine(callsIn_wide.2 (NS _ _ _ _ _ _ _)).mono ?_;rintro e w1 ⟨rfl,rfl⟩)
 have hB5:Below w.heap.size w (((((w.alloc (.cells #[.int .u8 k,.string s,.int .i64 x,.slice A n c] 25)).alloc (.cells #[.slice uA ul uc] 27)).alloc (.cells #[.slice bA bl bc] 27)).alloc (.cells #[.bool false] 4)).alloc (.cells #[.int .u8 k,.string s,.int .i64 x,.slice A n c] 25)):=
  (((((ai _ _).alloc (ah _) _).alloc (by simp) _).alloc (by simp;omega) _).alloc (by simp;omega) _).alloc (by simp;omega) _
 have HSZ:Hid ((((((w.alloc (.cells #[.int .u8 k,.string s,.int .i64 x,.slice A n c] 25)).alloc (.cells #[.slice uA ul uc] 27)).alloc (.cells #[.slice bA bl bc] 27)).alloc (.cells #[.bool false] 4)).alloc (.cells #[.int .u8 k,.string s,.int .i64 x,.slice A n c] 25)).heap.size=w.heap.size+5):=(by show _=_;simp);have HC1:Hid (iy (((((w.alloc (.cells #[.int .u8 k,.string s,.int .i64 x,.slice A n c] 25)).alloc (.cells #[.slice uA ul uc] 27)).alloc (.cells #[.slice bA bl bc] 27)).alloc (.cells #[.bool false] 4)).alloc (.cells #[.int .u8 k,.string s,.int .i64 x,.slice A n c] 25)) (w.heap.size+1) (.slice uA ul uc)):=(((Ky (by simp)).alloc _).alloc _).alloc _;have HC2:Hid (iy (((((w.alloc (.cells #[.int .u8 k,.string s,.int .i64 x,.slice A n c] 25)).alloc (.cells #[.slice uA ul uc] 27)).alloc (.cells #[.slice bA bl bc] 27)).alloc (.cells #[.bool false] 4)).alloc (.cells #[.int .u8 k,.string s,.int .i64 x,.slice A n c] 25)) (w.heap.size+1+1) (.slice bA bl bc)):=((Ky (by simp)).alloc _).alloc _;have HC3:Hid (iy (((((w.alloc (.cells #[.int .u8 k,.string s,.int .i64 x,.slice A n c] 25)).alloc (.cells #[.slice uA ul uc] 27)).alloc (.cells #[.slice bA bl bc] 27)).alloc (.cells #[.bool false] 4)).alloc (.cells #[.int .u8 k,.string s,.int .i64 x,.slice A n c] 25)) (w.heap.size+1+1+1) (.bool false)):=(Ky (by simp)).alloc _;have hbx:(((((w.alloc (.cells #[.int .u8 k,.string s,.int .i64 x,.slice A n c] 25)).alloc (.cells #[.slice uA ul uc] 27)).alloc (.cells #[.slice bA bl bc] 27)).alloc (.cells #[.bool false] 4)).alloc (.cells #[.int .u8 k,.string s,.int .i64 x,.slice A n c] 25)).heap[w.heap.size+1+1+1+1]? =some (.cells #[.int .u8 k,.string s,.int .i64 x,.slice A n c] 25 (0,0)):=aQ (by simp);obtain⟨n0,n1,n2,n3,_⟩:=di hbx;have HSQ:=ab (Oy T k s x A n c (w.heap.size+1+1+1+1) _ (3 - 1) (by omega) (HN.out.below hB5) hsh hsz (HE.out.below hB5 (ah _)) n0 n1 n2 n3);have HB5:=ab hB5;clear hB5 hbx n0 n1 n2 n3;generalize (((((w.alloc (.cells #[.int .u8 k,.string s,.int .i64 x,.slice A n c] 25)).alloc (.cells #[.slice uA ul uc] 27)).alloc (.cells #[.slice bA bl bc] 27)).alloc (.cells #[.bool false] 4)).alloc (.cells #[.int .u8 k,.string s,.int .i64 x,.slice A n c] 25))=W5 at HSZ HC1 HC2 HC3 HSQ HB5 ⊢;have hs5:=HSZ.out;refine OC rfl (by omega) (gf:=79) (lb:=#[.pointer (some ⟨w.heap.size+1+1+1+1,0,none⟩)]) rfl trivial (enters_of Tryz.func79 (by kernel_rfl) rfl) HSQ.out (ai _ _) rfl
  (fun pre W=>(∀q∈pre,q.1≠u)/\(iy W (w.heap.size+1) (.slice uA ul uc)/\iy W (w.heap.size+1+1) (.slice bA bl bc)/\iy W (w.heap.size+1+1+1) (.bool false))/\Below w.heap.size w W)
  (fun W=>iy W (w.heap.size+1+1+1) (.bool (tg T u b))/\Below w.heap.size w W)
  (fun pre=>ic.const.and ((ic.cell.and (ic.cell.and ic.cell)).and (ic.below (by omega))))
  (ic.cell.and (ic.below (by omega)))
  ⟨by simp,⟨HC1.out,HC2.out,HC3.out⟩,HB5.out⟩
  (fun y=>{ tmps:=#[.agg #[.int .u8 k,.string s,.int .i64 x,.slice A n c],.slice uA ul uc,.slice bA bl bc,.pointer (some ⟨w.heap.size,0,none⟩),.pointer (some ⟨w.heap.size+1,0,none⟩),.pointer (some ⟨w.heap.size+1+1,0,none⟩),.pointer (some ⟨w.heap.size+1+1+1,0,none⟩),.slice y.uA y.ul y.uc,.slice y.bA y.bl y.bc,.agg #[.int .u8 k,.string s,.int .i64 x,.slice A n c],.func (.func 79) #[] #[.pointer (some ⟨w.heap.size+1+1+1+1,0,none⟩)],.slice y.uA y.ul y.uc,.slice y.bA y.bl y.bc,undef,undef,undef,undef,undef,undef],defers:=[] }) ?assign ?body ?done ?stop
 case assign=>
  intro l y W K hK;simp only[PV.enc]
  gi_wp2
  exact hK
 case body=>
  rintro l pre p y W ⟨hne,⟨hc1,hc2,hc3⟩,hB⟩ hpre hy;have HP:=ab hpre;have HNE:=ab hne;have HB:=ab hB;have HF:=ab (And.intro hc1 (And.intro hc2 hc3));have HE1:=ab (lz p.1 u _ _ _ _ _ _ W hy.1 ((HU.out.below hB)));have HY:=ab hy;have d1:=hc1.1;have d2:=hc2.1;have d3:=hc3.1;have f3:=hc3.2;clear hpre hne hB hc1 hc2 hc3 hy;have HNP:Hid (p.1≠u->∀q∈pre++[p],q.1≠u):=fun h q hq=>by
   rcases List.mem_append.1 hq with hq|hq
   .exact HNE.out q hq
   .obtain rfl:=List.mem_singleton.1 hq;exact h
  gi_wp2_with fail
  refine⟨trivial,(CallsIn.inRound l (callsIn_wide.2 HE1.out)).mono ?_⟩;rintro e w1 ⟨rfl,q,rfl⟩;have HB1:=ab (bS (ai W.heap.size W) q);have HF1:=ab (And.intro (HF.out.1.drewN q) (And.intro (HF.out.2.1.drewN q) (HF.out.2.2.drewN q)));obtain⟨eq,heq⟩:∃eq,(p.1 == u)=eq:=⟨_,rfl⟩;rw[heq];cases eq
  .have hne2:=HNP.out (by simpa using heq);have HD:=ab hne2;clear heq hne2
   gi_wp2
   exact⟨HB1.out,HD.out,HF1.out,HB.out.trans (HB1.out.mono HB.out.size)⟩
  .have HS:Hid (tg T u b=(p.2 == b)):=RF HP.out HNE.out (by simpa using heq);have HE2:=ab (lz p.2 b _ _ _ _ _ _ (W.drewN q) (HY.out.2.drewN q) ((HBB.out.below HB.out).drewN q));clear heq
   gi_wp2_with fail
   refine⟨trivial,(CallsIn.inRound l (callsIn_wide.2 HE2.out)).mono ?_⟩;rintro e w2 ⟨rfl,q2,rfl⟩;have HB2:=ab (bS (ai W.heap.size W) (q+q2));have HF2:=ab (HF.out.2.2.drewN (q+q2));rw[<-HS.out]
   gi_wp2
   have g3:=HF2.out.1;have h3:=HF2.out.2;refine⟨(KeepsOthers.below HB2.out).trans (KeepsOthers.setCell _ _ _),⟨World.cell?_setCell_same' _ _ _ (by rw[g3];rfl),by rw[World.frozen?_setCell];exact h3⟩,(HB.out.trans (HB2.out.mono HB.out.size)).setCell (p:=⟨w.heap.size+1+1+1,0,none⟩) (by simp;omega) _⟩
 case done=>
  rintro D W hD ⟨hne,⟨_,_,hc⟩,hB⟩ hK;obtain⟨hcr,hfr⟩:=hc;have HS:Hid (tg T u b=false):=RG hne
  gi_wp2
  have hK':=(KeepsOthers.setCell W ⟨w.heap.size+1+1+1,0,none⟩ (.bool false)).same D _ hK rfl;refine⟨by simp,.inl ⟨_,_,rfl,run_takeDeferred hK',?_⟩⟩;have hc5:=cell_kept (World.cell?_setCell_same' W ⟨w.heap.size+1+1+1,0,none⟩ (.bool false) (by rw[hcr];rfl)) (grownBy_putObj' _ D (.deferred none)) (fun r e=>by cases e;exact⟨_,hK',rfl⟩);refine⟨.bool false,?_,by rw[HS.out],(hB.setCell (p:=⟨w.heap.size+1+1+1,0,none⟩) (by simp;omega) _).trans (belowK_b (w:=w) (ah _) _ D _ _ (by omega) hK' rfl rfl)⟩;simp[results,Tryz.f37,go_sem,hc5]
 case stop=>
  rintro D W hD ⟨⟨hcr,_⟩,hB⟩ hK
  gi_wp2
  refine⟨by simp,.inl ⟨_,_,rfl,run_takeDeferred hK,?_⟩⟩;have hc5:=cell_kept hcr (grownBy_putObj' _ D (.deferred none)) (fun r e=>by cases e;exact⟨_,hK,rfl⟩);refine⟨.bool (tg T u b),?_,rfl,hB.trans (belowK_b (w:=w) (ah _) W D _ _ (by omega) hK rfl rfl)⟩;simp[results,Tryz.f37,go_sem,hc5]
theorem M9{t:ag}{st:bo}(hk:t.kind=1)(hr:pi t=true)(hl:gn t.kids= .ok ([],st))(hs:t.sz<=100000){p:List Int}{i:Nat}(h:(p,i)∈st.ev):dE p/\p.length<=40:=by
 obtain⟨m,r,k,e,hkk,_⟩:=DU hl (CP hk hr) _ h;have hpath:t.kindAt p=some k:=by obtain⟨k0,s,x,ks⟩:=t;have e':p=(m:Int) ::r:=e;rw[e'];show(if (m:Int)<0 then none else ja (m:Int).toNat r ks)=some k;rw[if_neg (by omega)];exact hkk
 obtain⟨g1,g2⟩:=Fo t 1 _ k hr hpath;exact⟨fun z hz=>by have:=g2 z hz;exact⟨this.1,by omega⟩,by omega⟩
theorem RV{t:ag}{p:List Int×List Int}(h:p∈kb t):jv t:=by refine JD.2 (Classical.byContradiction fun hc=>?_);unfold kb i5 at h;rw[if_pos hc] at h;simp at h
theorem RU{t:ag}(hs:t.sz<=100000){u b:List Int}(h:(u,b)∈kb t):(dE u/\u.length<=40)/\dE b/\b.length<=40:=by obtain⟨hk,hr,st,hl⟩:=RV h;obtain⟨_,_,i,h1,h2⟩:=(KQ hk hr hl).1 h;exact⟨M9 hk hr hl hs h1,M9 hk hr hl hs h2⟩
def Jn(m:ag)(g:List Int->Option (List Int))(p:List Int×List Int):Bool:=match g p.1 with
 |none=>true
 |some u=>match g p.2 with
  |none=>false
  |some b=>tg m u b
theorem Oe{n m:ag}{g:List Int->Option (List Int)}:qq n m g=(kb n).all (Jn m g):=rfl
theorem ic.kept{N:Nat}{W0:World}:ic N (fun W=>lQ W0 W):=⟨fun A B h hb=>h.trans (lQ.below hb),fun A l o o' h hN hl ho=>h.trans (lQ.put o' hl ho)⟩
theorem cf.kept{A B:World}{t:ag}{k:Nat}{s:ByteArray}{x:Int}{a:Option Addr}{n c:Nat}(h:cf A t k s x a n c)(hk:lQ A B):cf B t k s x a n c:=h.keep fun _ _ hc=>hk.cell hc
theorem Rh{F:Fence}{n:Nat}{W:World}{t:Array Value}{b:Nat}{v:Value}{R:Ending->World->Prop}(h4:t[4]? =some (.pointer (some ⟨b,0,none⟩)))(hc:W.cell? ⟨b,0,none⟩=some v)(h:R (.returned v) W):bodyPostM F n Tryz.prog Tryz.f13 R Exit.ret { tmps:=t,defers:=[] } W:=by refine⟨v,?_,h⟩;simp[results,Tryz.f13,go_sem,h4,hc]
def LF(b:Bool)(w:World)(e:Ending)(w':World):Prop:=e= .returned (.bool b)/\Below w.heap.size w w'
theorem Kk(T:ag)(k:Nat)(s:ByteArray)(x:Int)(A:Option Addr)(n c:Nat)(e:aj)(ke:Nat)(pA:Option Addr)(pn pc:Nat)(i j:Int)(f t:ByteArray)(oA:Option Addr)(on oc:Nat)(nA:Option Addr)(nn nc:Nat)(w:World)(hN:cf w T k s x A n c)(hE:bI w)(hT:JM T)(hed:ay w e ke pA pn pc i j f t oA on oc nA nn nc)(hm:e.mid)(hf:e.frm.length<=281474976710656)(hp:pn<=17592186044416):Calls Tryz.prog 13 #[.agg #[.int .u8 k,.string s,.int .i64 x,.slice A n c],.agg #[.int .u8 ke,.slice pA pn pc,.int .i64 i,.int .i64 j,.string f,.string t,.slice oA on oc,.slice nA nn nc]] w (LF (j4 T e) w):=by
 have HN:=ab hN;have HE:=ab hE;have HED:=ab hed;clear hN hE hed;refine(callsIn_wide (n:=3)).1 ?_;refine callsIn_of_wp_marks Tryz.func13 rfl trivial ?_ rfl;simp only[Tryz.ntmps13,List.size_toArray,List.length_cons,List.length_nil,Nat.reduceAdd,Nat.reduceSub,Array.replicate_succ,Array.replicate_zero,List.push_toArray,List.append_toArray,List.nil_append,List.cons_append];have hB4:Below w.heap.size w ((((w.alloc (.cells #[.int .u8 k,.string s,.int .i64 x,.slice A n c] 25)).alloc (.cells #[.int .u8 ke,.slice pA pn pc,.int .i64 i,.int .i64 j,.string f,.string t,.slice oA on oc,.slice nA nn nc] 29)).alloc (.cells #[.bool false] 4)).alloc (.cells #[.int .u8 ke,.slice pA pn pc,.int .i64 i,.int .i64 j,.string f,.string t,.slice oA on oc,.slice nA nn nc] 29)):=((((ai _ _).alloc (ah _) _).alloc (by simp) _).alloc (by simp;omega) _).alloc (by simp;omega) _;have HS4:Hid (((((w.alloc (.cells #[.int .u8 k,.string s,.int .i64 x,.slice A n c] 25)).alloc (.cells #[.int .u8 ke,.slice pA pn pc,.int .i64 i,.int .i64 j,.string f,.string t,.slice oA on oc,.slice nA nn nc] 29)).alloc (.cells #[.bool false] 4)).alloc (.cells #[.int .u8 ke,.slice pA pn pc,.int .i64 i,.int .i64 j,.string f,.string t,.slice oA on oc,.slice nA nn nc] 29)).heap.size=w.heap.size+4):=(by show _=_;simp);have hbx4:((((w.alloc (.cells #[.int .u8 k,.string s,.int .i64 x,.slice A n c] 25)).alloc (.cells #[.int .u8 ke,.slice pA pn pc,.int .i64 i,.int .i64 j,.string f,.string t,.slice oA on oc,.slice nA nn nc] 29)).alloc (.cells #[.bool false] 4)).alloc (.cells #[.int .u8 ke,.slice pA pn pc,.int .i64 i,.int .i64 j,.string f,.string t,.slice oA on oc,.slice nA nn nc] 29)).heap[w.heap.size+1+1+1]? =some (.cells #[.int .u8 ke,.slice pA pn pc,.int .i64 i,.int .i64 j,.string f,.string t,.slice oA on oc,.slice nA nn nc] 29 (0,0)):=aQ (by simp);have hbxE:((((w.alloc (.cells #[.int .u8 k,.string s,.int .i64 x,.slice A n c] 25)).alloc (.cells #[.int .u8 ke,.slice pA pn pc,.int .i64 i,.int .i64 j,.string f,.string t,.slice oA on oc,.slice nA nn nc] 29)).alloc (.cells #[.bool false] 4)).alloc (.cells #[.int .u8 ke,.slice pA pn pc,.int .i64 i,.int .i64 j,.string f,.string t,.slice oA on oc,.slice nA nn nc] 29)).heap[w.heap.size+1]? =some (.cells #[.int .u8 ke,.slice pA pn pc,.int .i64 i,.int .i64 j,.string f,.string t,.slice oA on oc,.slice nA nn nc] 29 (0,0)):=(Below.heap_alloc _ _ _ (by simp)).trans ((Below.heap_alloc _ _ _ (by simp)).trans (aQ (by simp)));have hbxN:((((w.alloc (.cells #[.int .u8 k,.string s,.int .i64 x,.slice A n c] 25)).alloc (.cells #[.int .u8 ke,.slice pA pn pc,.int .i64 i,.int .i64 j,.string f,.string t,.slice oA on oc,.slice nA nn nc] 29)).alloc (.cells #[.bool false] 4)).alloc (.cells #[.int .u8 ke,.slice pA pn pc,.int .i64 i,.int .i64 j,.string f,.string t,.slice oA on oc,.slice nA nn nc] 29)).heap[w.heap.size]? =some (.cells #[.int .u8 k,.string s,.int .i64 x,.slice A n c] 25 (0,0)):=(Below.heap_alloc _ _ _ (by simp;omega)).trans ((Below.heap_alloc _ _ _ (by simp;omega)).trans ((Below.heap_alloc _ _ _ (by simp)).trans (aQ rfl)));have HCB:Hid (iy ((((w.alloc (.cells #[.int .u8 k,.string s,.int .i64 x,.slice A n c] 25)).alloc (.cells #[.int .u8 ke,.slice pA pn pc,.int .i64 i,.int .i64 j,.string f,.string t,.slice oA on oc,.slice nA nn nc] 29)).alloc (.cells #[.bool false] 4)).alloc (.cells #[.int .u8 ke,.slice pA pn pc,.int .i64 i,.int .i64 j,.string f,.string t,.slice oA on oc,.slice nA nn nc] 29)) (w.heap.size+1+1) (.bool false)):=(Ky (by simp)).alloc _;have HED4:Hid (Gr ((((w.alloc (.cells #[.int .u8 k,.string s,.int .i64 x,.slice A n c] 25)).alloc (.cells #[.int .u8 ke,.slice pA pn pc,.int .i64 i,.int .i64 j,.string f,.string t,.slice oA on oc,.slice nA nn nc] 29)).alloc (.cells #[.bool false] 4)).alloc (.cells #[.int .u8 ke,.slice pA pn pc,.int .i64 i,.int .i64 j,.string f,.string t,.slice oA on oc,.slice nA nn nc] 29)) e (w.heap.size+1+1+1) 0):=by obtain⟨a0,a1,a2,a3,a4,a5,a6,a7⟩:=(aw hbx4).cs;exact⟨ke,pA,pn,pc,i,j,f,t,oA,on,oc,nA,nn,nc,a0,a1,a2,a3,a4,a5,a6,a7,HED.out.below hB4⟩
 have HAP:=ab (Mi e T k s x A n c (w.heap.size+1+1+1) 0 1 ((((w.alloc (.cells #[.int .u8 k,.string s,.int .i64 x,.slice A n c] 25)).alloc (.cells #[.int .u8 ke,.slice pA pn pc,.int .i64 i,.int .i64 j,.string f,.string t,.slice oA on oc,.slice nA nn nc] 29)).alloc (.cells #[.bool false] 4)).alloc (.cells #[.int .u8 ke,.slice pA pn pc,.int .i64 i,.int .i64 j,.string f,.string t,.slice oA on oc,.slice nA nn nc] 29)) (HN.out.below hB4) (HE.out.below hB4 (ah _)) hT HED4.out (by omega) (by unfold maxLen;omega) hm hf);have HB4:=ab hB4;have HBE:=ab hbxE;have HBN:=ab hbxN;clear hB4 hbx4 hbxE hbxN HED4
 gi_wp2_with fail
 generalize ((((w.alloc (.cells #[.int .u8 k,.string s,.int .i64 x,.slice A n c] 25)).alloc (.cells #[.int .u8 ke,.slice pA pn pc,.int .i64 i,.int .i64 j,.string f,.string t,.slice oA on oc,.slice nA nn nc] 29)).alloc (.cells #[.bool false] 4)).alloc (.cells #[.int .u8 ke,.slice pA pn pc,.int .i64 i,.int .i64 j,.string f,.string t,.slice oA on oc,.slice nA nn nc] 29))=W4 at HS4 HCB HAP HB4 HBE HBN ⊢;refine⟨trivial,(callsIn_wide.2 HAP.out).mono ?_⟩;intro en w1 hpost;obtain⟨hb1,hpost⟩:=hpost;have HB1:=ab (HB4.out.trans (hb1.mono HB4.out.size));have HS1:Hid (w.heap.size+4<=w1.heap.size):=(by show _<=_;have:=HS4.out;have:=hb1.size;omega);have HCB1:Hid (iy w1 (w.heap.size+1+1) (.bool false)):=⟨ac hb1 HCB.out.1,(World.frozen?_of_block (hb1.block _ (bK HCB.out.1))).trans HCB.out.2⟩;have HBE1:=ab ((hb1.block _ (aK.1 HBE.out).1).trans HBE.out);have HBN1:=ab ((hb1.block _ (aK.1 HBN.out).1).trans HBN.out);have hnz:=Lg T e;cases hap:Cw ek T [e] with
 |error fe=>
  rw[hap] at hpost;have HSF:Hid (j4 T e=false):=(by show _=_;unfold j4;rw[hap]);have hfe:fe≠0:=by
   intro h0;subst h0;unfold Cw at hap;split at hap
   .injection hap with hap;omega
   .unfold CM at hap;split at hap
    .cases ho:ek T e with
     |error m=>rw[ho] at hap;simp only at hap;injection hap with hap;subst hap;exact hnz ho
     |ok u=>rw[ho] at hap;unfold CM at hap;cases hap
    .injection hap with hap;omega
  have hfz:((fe:Int) == 0)=false:=(by simpa using hfe);have hfn:((fe:Int) != 0)=true:=(by simpa using hfe);have hpost:en= .returned (.tuple #[.agg #[.int .u8 0,.string ⟨#[]⟩,.int .i64 0,.slice none 0 0],.int .i64 fe]):=hpost;subst hpost;have HCA:=ab (HCB1.out.alloc (.cells #[.int .u8 0,.string ⟨#[]⟩,.int .i64 0,.slice none 0 0] 25));have c2:=HCA.out.1;have f2:=HCA.out.2;have hlt:=HS1.out;clear hb1 hap
  gi_wp2
  exact Rh rfl (World.cell?_setCell_same' _ _ _ (by rw[c2];rfl)) ⟨by rw[HSF.out],((HB1.out.alloc HB1.out.size _).setCell (p:=⟨w.heap.size+1+1,0,none⟩) (by simp;omega) _)⟩
 |ok m=>
  rw[hap] at hpost;obtain⟨hprog,hright,hone⟩:=JO.1 hap;have HPM:Hid (jv m/\m.sz<=100000/\m.short 281474976710656):=by
   have h1:jv m:=by
    by_cases hk1:e.kind=1
    .rw[Md hk1] at hone;exact(KJ hprog hone).1
    .exact((KE hright hk1).1 hone).2
   obtain⟨h2,h3⟩:=Me hright hm (S:=20000) hT hone;have h4:=hm.olds.1;have h5:=hm.news.1;exact⟨h1,by omega,h3⟩
  have HSF:Hid (j4 T e=qq T m (d9 e)):=(by show _=_;unfold j4;rw[hap]);have hpost:∃(k:Nat) (s:ByteArray) (x:Int) (A:Option Addr) (n c:Nat),en= .returned (.tuple #[.agg #[.int .u8 k,.string s,.int .i64 x,.slice A n c],.int .i64 0])/\cf (cX w1 W4.heap.size) m k s x A n c:=hpost;obtain⟨k',s',x',A',n',c',rfl,hnm⟩:=hpost;have HNM:=ab hnm.since;have hek:e.kind=ke/\e.at_=i/\e.far=j/\cc w e.path pA pn pc:=by obtain⟨ps,os,ns,e9,h1,_⟩:=HED.out;rw[e9];exact⟨rfl,rfl,rfl,h1⟩
  obtain⟨he1,he2,he3,he4⟩:=hek;have hbN:Below w1.heap.size w1 (w1.alloc (.cells #[.int .u8 k',.string s',.int .i64 x',.slice A' n' c'] 25)):=(ai _ _).alloc (ah _) _;have HBW:=ab (HB1.out.trans (hbN.mono HB1.out.size));have HG:=ab (Qq e ke pA pn pc (.string f) (.string t) (.slice oA on oc) (.slice nA nn nc) (w1.alloc (.cells #[.int .u8 k',.string s',.int .i64 x',.slice A' n' c'] 25)) he1 hright (he4.below HBW.out) hp);rw[he2,he3] at HG;have HCA:=ab (HCB1.out.alloc (.cells #[.int .u8 k',.string s',.int .i64 x',.slice A' n' c'] 25));have HBEA:=ab ((hbN.block _ (aK.1 HBE1.out).1).trans HBE1.out);have HBNA:=ab ((hbN.block _ (aK.1 HBN1.out).1).trans HBN1.out);have HBMA:Hid ((w1.alloc (.cells #[.int .u8 k',.string s',.int .i64 x',.slice A' n' c'] 25)).heap[w1.heap.size]? =some (.cells #[.int .u8 k',.string s',.int .i64 x',.slice A' n' c'] 25 (0,0))):=aQ rfl;have HNMA:=ab (HNM.out.below hbN);have HSA:Hid (w.heap.size+5<=(w1.alloc (.cells #[.int .u8 k',.string s',.int .i64 x',.slice A' n' c'] 25)).heap.size):=(by show _<=_;have:=HS1.out;simp;omega);have hw1s:=HS1.out;clear hb1 hap hnm he1 he2 he3 he4 hbN hone hprog HCB1 HBE1 HBN1 HNM;obtain⟨a0,a1,a2,a3,a4,a5,a6,a7⟩:=(aw HBEA.out).cs
  gi_wp2_with fail
  generalize hWA:(w1.alloc (.cells #[.int .u8 k',.string s',.int .i64 x',.slice A' n' c'] 25))=WA at HBW HG HCA HBEA HBNA HBMA HNMA HSA ⊢;refine⟨trivial,(callsIn_wide.2 HG.out).mono ?_⟩;rintro en2 w2 ⟨hb2,F,rfl,hGF⟩;obtain⟨rO,lb,rfl,hcf,hgo⟩:=hGF;have HGO:=ab hgo;have hbF:Below WA.heap.size WA (w2.alloc (.cells #[.func (.func rO) #[] lb] 58)):=hb2.trans (((ai _ _).alloc (ah _) _).mono hb2.size);obtain⟨b0,b1,b2,b3,_⟩:=di ((hbF.block _ (aK.1 HBNA.out).1).trans HBNA.out);clear hgo a0 a1 a2 a3 a4 a5 a6 a7
  gi_wp2_with fail
  refine⟨trivial,(callsIn_wide.2 (NS _ _ _ _ _ _ _)).mono ?_⟩;rintro en3 w3 ⟨rfl,rfl⟩;have hbF2:Below WA.heap.size WA ((w2.alloc (.cells #[.func (.func rO) #[] lb] 58)).alloc (.cells #[.int .u8 k,.string s,.int .i64 x,.slice A n c] 25)):=hbF.trans (((ai _ _).alloc (ah _) _).mono hbF.size);have HB6:=ab (HBW.out.trans (hbF2.mono HBW.out.size));have HSF2:Hid (WA.heap.size<=w2.heap.size):=hb2.size;have HS6:Hid (w.heap.size+5<=((w2.alloc (.cells #[.func (.func rO) #[] lb] 58)).alloc (.cells #[.int .u8 k,.string s,.int .i64 x,.slice A n c] 25)).heap.size):=(by show _<=_;have h1:=HSA.out;have h2:=hbF2.size;omega);have HC6:Hid (iy ((w2.alloc (.cells #[.func (.func rO) #[] lb] 58)).alloc (.cells #[.int .u8 k,.string s,.int .i64 x,.slice A n c] 25)) (w.heap.size+1+1) (.bool false)):=⟨ac hbF2 HCA.out.1,(World.frozen?_of_block (hbF2.block _ (bK HCA.out.1))).trans HCA.out.2⟩;have HF6:Hid (iy ((w2.alloc (.cells #[.func (.func rO) #[] lb] 58)).alloc (.cells #[.int .u8 k,.string s,.int .i64 x,.slice A n c] 25)) w2.heap.size (.func (.func rO) #[] lb)):=(Ky rfl).alloc _;have HNM6:=ab (HNMA.out.below hbF2);have HBM6:=ab ((hbF2.block _ (aK.1 HBMA.out).1).trans HBMA.out);have HK6:Hid (lQ w2 ((w2.alloc (.cells #[.func (.func rO) #[] lb] 58)).alloc (.cells #[.int .u8 k,.string s,.int .i64 x,.slice A n c] 25))):=(lQ.below ((ai _ _).alloc (ah _) _)).trans (lQ.below ((ai _ _).alloc (ah _) _));obtain⟨n0,n1,n2,n3,_⟩:=di (aQ (w:=w2.alloc (.cells #[.func (.func rO) #[] lb] 58)) (o:=(.cells #[.int .u8 k,.string s,.int .i64 x,.slice A n c] 25)) (n:=w2.heap.size+1) (by simp));have HSQ:=ab (Oy T k s x A n c (w2.heap.size+1) ((w2.alloc (.cells #[.func (.func rO) #[] lb] 58)).alloc (.cells #[.int .u8 k,.string s,.int .i64 x,.slice A n c] 25)) (3 - 1) (by omega) (HN.out.below HB6.out) hT.2 (aJ hT.1 (by omega)) (HE.out.below HB6.out (ah _)) n0 n1 n2 n3);clear hbF hbF2 hb2 n0 n1 n2 n3 b0 b1 b2 b3;generalize ((w2.alloc (.cells #[.func (.func rO) #[] lb] 58)).alloc (.cells #[.int .u8 k,.string s,.int .i64 x,.slice A n c] 25))=W6 at HB6 HS6 HC6 HF6 HNM6 HBM6 HK6 HSQ ⊢;have hs6:=HS6.out
  gi_wp2_with fail
  refine OC rfl (by omega) (gf:=79) (lb:=#[.pointer (some ⟨w2.heap.size+1,0,none⟩)]) rfl trivial (enters_of Tryz.func79 (by kernel_rfl) rfl) HSQ.out (ai _ _) (by rfl)
   (fun pre W=>(∀q∈pre,Jn m (d9 e) q=true)/\(iy W (w.heap.size+1+1) (.bool false)/\iy W w2.heap.size (.func (.func rO) #[] lb))/\lQ W6 W/\Below w.heap.size w W)
   (fun W=>iy W (w.heap.size+1+1) (.bool (qq T m (d9 e)))/\Below w.heap.size w W)
   (fun pre=>ic.const.and ((ic.cell.and ic.cell).and (ic.kept.and (ic.below (by omega)))))
   (ic.cell.and (ic.below (by omega)))
   ⟨by simp,⟨HC6.out,HF6.out⟩,lQ.refl _,HB6.out⟩
   (fun y=>{ tmps:=#[.agg #[.int .u8 k,.string s,.int .i64 x,.slice A n c],.agg #[.int .u8 ke,.slice pA pn pc,.int .i64 i,.int .i64 j,.string f,.string t,.slice oA on oc,.slice nA nn nc],.pointer (some ⟨w.heap.size,0,none⟩),.pointer (some ⟨w.heap.size+1,0,none⟩),.pointer (some ⟨w.heap.size+1+1,0,none⟩),.pointer (some ⟨w1.heap.size,0,none⟩),.int .i64 0,.pointer (some ⟨w2.heap.size,0,none⟩),.slice y.uA y.ul y.uc,.slice y.bA y.bl y.bc,undef,undef,undef,undef,.tuple #[.agg #[.int .u8 k',.string s',.int .i64 x',.slice A' n' c'],.int .i64 0],.agg #[.int .u8 k,.string s,.int .i64 x,.slice A n c],.agg #[.int .u8 ke,.slice pA pn pc,.int .i64 i,.int .i64 j,.string f,.string t,.slice oA on oc,.slice nA nn nc],.slice (some ⟨w.heap.size+1+1+1,0,none⟩) 1 1,.tuple #[.agg #[.int .u8 k',.string s',.int .i64 x',.slice A' n' c'],.int .i64 0],.agg #[.int .u8 k',.string s',.int .i64 x',.slice A' n' c'],.int .i64 0,.int .i64 0,.bool false,.agg #[.int .u8 ke,.slice pA pn pc,.int .i64 i,.int .i64 j,.string f,.string t,.slice oA on oc,.slice nA nn nc],.agg #[.int .u8 ke,.slice pA pn pc,.int .i64 i,.int .i64 j,.string f,.string t,.slice oA on oc,.slice nA nn nc],.func (.func rO) #[] lb,.agg #[.int .u8 k,.string s,.int .i64 x,.slice A n c],.func (.func 79) #[] #[.pointer (some ⟨w2.heap.size+1,0,none⟩)],.slice y.uA y.ul y.uc,.slice y.bA y.bl y.bc,undef,undef,undef,undef,undef,undef,undef,undef,undef,undef,undef,undef,undef,undef,undef,undef,undef,undef,undef,undef,undef,undef,undef],defers:=[] }) ?assign ?body ?done ?stop
  case assign=>
   intro l y W K hK;simp only[PV.enc]
   gi_wp2
   exact hK
  case body=>
   rintro l pre p y W ⟨hne,⟨hc1,hc2⟩,hK,hB⟩ hpre hy;have hmem:p∈kb T:=(by obtain⟨r,hr⟩:=hpre;rw[<-hr];simp);obtain⟨⟨fu,lu⟩,fb,lb'⟩:=RU (aJ hT.1 (by omega)) hmem;have HNE:=ab hne;have HB:=ab hB;have HF:=ab (And.intro hc1 hc2);have HY:=ab hy;have HKK:=ab (HK6.out.trans hK);have HFB:=ab (And.intro fb lb');have HG1:=ab (HGO.out W p.1 y.uA y.ul y.uc HKK.out hy.1 fu (by have:=hy.1.1;omega));have d1:=hc1.1;have f1:=hc1.2;have d2:=hc2.1;obtain⟨m0,m1,m2,m3,_⟩:=di (hK.2 _ _ HBM6.out rfl);have HNMW:=ab (HNM6.out.kept hK);have HBM7:=ab (hK.2 _ _ HBM6.out rfl);have HBAD:Hid (Jn m (d9 e) p=false->qq T m (d9 e)=false):=fun h=>by rw[Oe,List.all_eq_false];exact⟨p,hmem,by simp[h]⟩
   have HNX:Hid (Jn m (d9 e) p=true->∀q∈pre++[p],Jn m (d9 e) q=true):=fun h q hq=>by
    rcases List.mem_append.1 hq with hq|hq
    .exact HNE.out q hq
    .obtain rfl:=List.mem_singleton.1 hq;exact h
   have HKW:=ab hK;clear hpre hne hB hc1 hc2 hy hK fu lu fb lb' hmem;have lift:∀V,Below W.heap.size W V->(iy V (w.heap.size+1+1) (.bool false)/\iy V w2.heap.size (.func (.func rO) #[] lb))/\lQ W6 V/\Below w.heap.size w V:=fun V hv=>⟨⟨HF.out.1.below hv,HF.out.2.below hv⟩,HKW.out.trans (lQ.below hv),HB.out.trans (hv.mono HB.out.size)⟩;have HLI:=ab lift;clear lift
   gi_wp2_with fail
   refine⟨trivial,(CallsIn.inRound l (callsIn_wide.2 HG1.out)).mono ?_⟩;intro en4 w4 hgp;obtain⟨hb4,hgp⟩:=hgp;have HB4:=ab hb4;have HI4:=ab (HLI.out w4 hb4);clear d1 f1 d2 m0 m1 m2 m3;cases hg1:d9 e p.1 with
   |none=>
    rw[hg1] at hgp;have hgp:∃A n c,en4= .returned (.tuple #[.slice A n c,.bool false]):=hgp;obtain⟨A4,n4,c4,rfl⟩:=hgp;have HGD:=ab (HNX.out (by unfold Jn;rw[hg1]));clear hb4 hg1
    gi_wp2
    exact⟨HB4.out,HGD.out,HI4.out⟩
   |some u4=>
    rw[hg1] at hgp;have hgp:∃A n c,en4= .returned (.tuple #[.slice A n c,.bool true])/\cc w4 u4 A n c:=hgp;obtain⟨A4,n4,c4,rfl,hi4⟩:=hgp;have HU4:=ab hi4;have HG2:=ab (HGO.out w4 p.2 y.bA y.bl y.bc (HKK.out.trans (lQ.below hb4)) (HY.out.2.below hb4) HFB.out.1 (by have:=HY.out.2.1;have:=HFB.out.2;omega));have d2:=HI4.out.1.2.1;clear hb4 hi4
    gi_wp2_with fail
    refine⟨trivial,(CallsIn.inRound l (callsIn_wide.2 HG2.out)).mono ?_⟩;intro en5 w5 hgp;obtain⟨hb5,hgp⟩:=hgp;have HB5:Hid (Below W.heap.size W w5):=HB4.out.trans (hb5.mono HB4.out.size);have HI5:=ab (HLI.out w5 HB5.out);have HU5:=ab (HU4.out.below hb5);clear d2;cases hg2:d9 e p.2 with
    |none=>
     rw[hg2] at hgp;have hgp:∃A n c,en5= .returned (.tuple #[.slice A n c,.bool false]):=hgp;obtain⟨A5,n5,c5,rfl⟩:=hgp;have HSF2:=ab (HBAD.out (by unfold Jn;rw[hg1,hg2]));have d1:=HI5.out.1.1.1;have f1:=HI5.out.1.1.2;clear hb5 hg1 hg2;obtain⟨m0,m1,m2,m3,_⟩:=di ((HB5.out.block _ (aK.1 HBM7.out).1).trans HBM7.out)
     gi_wp2
     refine⟨trivial,?_⟩
     gi_wp2
     exact⟨(KeepsOthers.below HB5.out).trans (KeepsOthers.setCell _ _ _),⟨by rw[HSF2.out];exact World.cell?_setCell_same' _ _ _ (by rw[d1];rfl),by rw[World.frozen?_setCell];exact f1⟩,HI5.out.2.2.setCell (p:=⟨w.heap.size+1+1,0,none⟩) (by simp;omega) _⟩
    |some b5=>
     rw[hg2] at hgp;have hgp:∃A n c,en5= .returned (.tuple #[.slice A n c,.bool true])/\cc w5 b5 A n c:=hgp;obtain⟨A5,n5,c5,rfl,hi5⟩:=hgp;have HST:=ab (QJ m k' s' x' A' n' c' u4 b5 A4 n4 c4 A5 n5 c5 w5 (HNMW.out.below HB5.out) HPM.out.2.2 HPM.out.2.1 (HE.out.below HI5.out.2.2 (ah _)) HU5.out hi5);have HGP:Hid (Jn m (d9 e) p=tg m u4 b5):=(by show _=_;unfold Jn;rw[hg1,hg2]);obtain⟨m0,m1,m2,m3,_⟩:=di ((HB5.out.block _ (aK.1 HBM7.out).1).trans HBM7.out);clear hb5 hg1 hg2 hi5
     gi_wp2_with fail
     refine⟨trivial,(CallsIn.inRound l (callsIn_wide.2 HST.out)).mono ?_⟩;rintro en6 w6 ⟨rfl,hb6⟩;have HB6':Hid (Below W.heap.size W w6):=HB5.out.trans (hb6.mono HB5.out.size);have HI6:=ab (HLI.out w6 HB6'.out);have d1:=HI6.out.1.1.1;have f1:=HI6.out.1.1.2;clear hb6 m0 m1 m2 m3;cases hst:tg m u4 b5 with
     |true=>
      have HGD:=ab (HNX.out (by rw[HGP.out,hst]));clear hst
      gi_wp2
      exact⟨HB6'.out,HGD.out,HI6.out⟩
     |false=>
      have HSF2:=ab (HBAD.out (by rw[HGP.out,hst]));clear hst
      gi_wp2
      exact⟨(KeepsOthers.below HB6'.out).trans (KeepsOthers.setCell _ _ _),⟨by rw[HSF2.out];exact World.cell?_setCell_same' _ _ _ (by rw[d1];rfl),by rw[World.frozen?_setCell];exact f1⟩,HI6.out.2.2.setCell (p:=⟨w.heap.size+1+1,0,none⟩) (by simp;omega) _⟩
  case done=>
   rintro D W hD ⟨hall,⟨hc,_⟩,_,hB⟩ hK;obtain⟨hcr,hfr⟩:=hc;have HS:Hid (qq T m (d9 e)=true):=by show _=_;rw[Oe,List.all_eq_true];exact hall
   gi_wp2
   have hK':=(KeepsOthers.setCell W ⟨w.heap.size+1+1,0,none⟩ (.bool true)).same D _ hK rfl;refine⟨by simp,.inl ⟨_,_,rfl,run_takeDeferred hK',?_⟩⟩;have hc5:=cell_kept (World.cell?_setCell_same' W ⟨w.heap.size+1+1,0,none⟩ (.bool true) (by rw[hcr];rfl)) (grownBy_putObj' _ D (.deferred none)) (fun r e=>by cases e;exact⟨_,hK',rfl⟩);refine⟨.bool true,?_,by rw[HSF.out,HS.out],(hB.setCell (p:=⟨w.heap.size+1+1,0,none⟩) (by simp;omega) _).trans (belowK_b (w:=w) (ah _) _ D _ _ (by omega) hK' rfl rfl)⟩;simp[results,Tryz.f13,go_sem,hc5]
  case stop=>
   rintro D W hD ⟨⟨hcr,_⟩,hB⟩ hK
   gi_wp2
   refine⟨by simp,.inl ⟨_,_,rfl,run_takeDeferred hK,?_⟩⟩;have hc5:=cell_kept hcr (grownBy_putObj' _ D (.deferred none)) (fun r e=>by cases e;exact⟨_,hK,rfl⟩);refine⟨.bool (qq T m (d9 e)),?_,by rw[HSF.out],hB.trans (belowK_b (w:=w) (ah _) W D _ _ (by omega) hK rfl rfl)⟩;simp[results,Tryz.f13,go_sem,hc5]
end
def fd(k:Nat):ar:=
 if k=2 then[102,117,110,99,116,105,111,110]
 else if k=3 then[112,97,114,97,109,101,116,101,114,115]
 else if k=4 then[112,97,114,97,109,101,116,101,114]
 else if k=5 then[98,108,111,99,107]
 else if k<20 then[115,116,97,116,101,109,101,110,116]
 else[101,120,112,114,101,115,115,105,111,110]
def ka(a b:ar):ar:=a++32::b
def pq(n:ag)(e:aj):ar:=
 if e.kind=1 then(match n.sub e.path with
  |some u=>if u.kind=6 then ka [114,101,110,97,109,101] [118,97,114,105,97,98,108,101] else ka [114,101,110,97,109,101] (fd u.kind)
  |none=>ka [114,101,110,97,109,101] (fd 0))
 else if e.kind=2 then ka [105,110,115,101,114,116] (fd (e.news.headD default).kind)
 else if e.kind=3 then ka [100,101,108,101,116,101] (fd (e.olds.headD default).kind)
 else if e.kind=4 then ka [114,101,112,108,97,99,101] (fd (e.olds.headD default).kind)
 else ka [109,111,118,101] (fd (e.olds.headD default).kind)
def BY(n:ag)(e:aj):ar×Nat:=match Cw ek n [e] with
 | .error f=>([],f)
 | .ok _=>(pq n e,0)
def MJ(b:ar)(w:World)(e:Ending)(w':World):Prop:=e= .returned (.string (sb b))/\Below w.heap.size w w'
theorem KM(k:Nat):(fd k).length<=10:=by
 unfold fd;split
 .decide
 split
 .decide
 split
 .decide
 split
 .decide
 split<;>decide
theorem JW(a b:ar)(g c:Nat)(w:World)(h0:w.cell? ⟨g,0,none⟩=some (.string (sb a)))(h1:w.cell? ⟨g,1,none⟩=some (.string (sb b)))(ha:a.length<=1000)(hb:b.length<=1000)(hc:2<=c):Calls Tryz.prog 30 #[.slice (some ⟨g,0,none⟩) 2 c] w (MJ (ka a b) w):=by
 have hj:Lib.join ([sb a,sb b].map (·.data.toList)) (⟨#[32]⟩:ByteArray).data.toList=ka a b:=(by simp[Lib.join,ka,sb]);have HJ:=ab (Tryz.strings_Join g 0 c [sb a,sb b] ⟨#[32]⟩ w (fun j x hx=>by
  match j with
  |0=>simp at hx;subst hx;exact h0
  |1=>simp at hx;subst hx;exact h1
  |j+2=>simp at hx) (bK h0) (by simp) (by simpa using hc) (by rw[hj];simp[ka];omega))
 rw[hj] at HJ
 go_in
 go_wp2_with fail;refine HJ.out.mono ?_;rintro e w1 ⟨rfl,hb1⟩;have HB:=ab hb1;clear hb1 h0 h1;go_wp2;go_ret;exact⟨rfl,HB.out⟩
theorem P7{W0:World}{M:Nat}(hM:W0.heap.size=M)(f1 f2 f3 f4:Value):∃W1 W2 W3 W4,(Instr.mapUpdate 95 (.map (some M)) (.int .u8 2) f1).run Tryz.prog (W0.alloc (.map #[] 0))= .ok () W1/\(Instr.mapUpdate 95 (.map (some M)) (.int .u8 3) f2).run Tryz.prog W1= .ok () W2/\(Instr.mapUpdate 95 (.map (some M)) (.int .u8 4) f3).run Tryz.prog W2= .ok () W3/\(Instr.mapUpdate 95 (.map (some M)) (.int .u8 5) f4).run Tryz.prog W3= .ok () W4/\eL W4 M [(2,f1),(3,f2),(4,f3),(5,f4)]/\Below W0.heap.size W0 W4:=by have h0:=eL.made W0;rw[hM] at h0;obtain⟨W1,r1,h1,g1⟩:=h0.insert Tryz.underlying95 Tryz.underlying22 (k:=2) f1 rfl;obtain⟨W2,r2,h2,g2⟩:=h1.insert Tryz.underlying95 Tryz.underlying22 (k:=3) f2 rfl;obtain⟨W3,r3,h3,g3⟩:=h2.insert Tryz.underlying95 Tryz.underlying22 (k:=4) f3 rfl;obtain⟨W4,r4,h4,g4⟩:=h3.insert Tryz.underlying95 Tryz.underlying22 (k:=5) f4 rfl;have b0:Below W0.heap.size W0 (W0.alloc (.map #[] 0)):=(ai _ _).alloc (ah _) _;have b1:=b0.grown g1 b0.size (fun k hk=>by injection hk with hk;omega);have b2:=b1.grown g2 b1.size (fun k hk=>by injection hk with hk;omega);have b3:=b2.grown g3 b2.size (fun k hk=>by injection hk with hk;omega);have b4:=b3.grown g4 b3.size (fun k hk=>by injection hk with hk;omega);exact⟨W1,W2,W3,W4,r1,r2,r3,r4,h4,b4⟩
theorem R9(w:World):(zeroValue 9).run Tryz.prog w= .ok (.string ⟨#[]⟩) w:=by kernel_rfl
theorem Kj(k:Nat)(s:ByteArray)(x:Int)(A:Option Addr)(n c:Nat)(w:World):Calls Tryz.prog 31 #[.agg #[.int .u8 k,.string s,.int .i64 x,.slice A n c]] w (MJ (fd k) w):=by
 have hbA:Below w.heap.size w (w.alloc (.cells #[.int .u8 k,.string s,.int .i64 x,.slice A n c] 25)):=(ai _ _).alloc (ah _) _;obtain⟨M1,M2,M3,M4,m1,m2,m3,m4,hmap,hbM⟩:=P7 (W0:=w.alloc (.cells #[.int .u8 k,.string s,.int .i64 x,.slice A n c] 25)) (M:=w.heap.size+1) (by simp) (.string ⟨#[102,117,110,99,116,105,111,110]⟩) (.string ⟨#[112,97,114,97,109,101,116,101,114,115]⟩) (.string ⟨#[112,97,114,97,109,101,116,101,114]⟩) (.string ⟨#[98,108,111,99,107]⟩);have hlook:=hmap.look Tryz.underlying95 Tryz.underlying22 k (R9 M4) true;have HB:=ab (af hbA hbM);have hbox:=(hbM.block w.heap.size (by simp)).trans (heap_alloc_new _ _);obtain⟨c0,_,_,_,_⟩:=di hbox;have hmm:= @run_makeMap Tryz.prog;have HK:Hid ((k=2∨k=3∨k=4∨k=5)∨(k≠2/\k≠3/\k≠4/\k≠5)):=(by show _∨_;omega);clear hbA hbM hmap hbox;rcases HK.out with h|⟨k2,k3,k4,k5⟩
 .have HL:∃v,(Instr.lookup 95 (.map (some (w.heap.size+1))) (.int .u8 k) true).run Tryz.prog M4= .ok (.tuple #[.string (sb v),.bool true]) M4/\fd k=v:=by
   rcases h with rfl|rfl|rfl|rfl
   .exact⟨[102,117,110,99,116,105,111,110],hlook,rfl⟩
   .exact⟨[112,97,114,97,109,101,116,101,114,115],hlook,rfl⟩
   .exact⟨[112,97,114,97,109,101,116,101,114],hlook,rfl⟩
   .exact⟨[98,108,111,99,107],hlook,rfl⟩
  obtain⟨v,hl,hv⟩:=HL;have HV:=ab hv;clear h hlook hv
  go_in
  go_wp2;go_ret;exact⟨by rw[HV.out];rfl,HB.out⟩
 .have hl:(Instr.lookup 95 (.map (some (w.heap.size+1))) (.int .u8 k) true).run Tryz.prog M4= .ok (.tuple #[.string ⟨#[]⟩,.bool false]) M4:=by
   rw[hlook];have e:List.lookup k [(2,Value.string ⟨#[102,117,110,99,116,105,111,110]⟩),(3,.string ⟨#[112,97,114,97,109,101,116,101,114,115]⟩),(4,.string ⟨#[112,97,114,97,109,101,116,101,114]⟩),(5,.string ⟨#[98,108,111,99,107]⟩)]=none:=by simp[List.lookup,k2,k3,k4,k5,beq_eq_false_iff_ne.2 k2,beq_eq_false_iff_ne.2 k3,beq_eq_false_iff_ne.2 k4,beq_eq_false_iff_ne.2 k5]
   rw[e];rfl
  by_cases hk:k<20
  .have HV:Hid (fd k=[115,116,97,116,101,109,101,110,116]):=(by show _=_;unfold fd;rw[if_neg k2,if_neg k3,if_neg k4,if_neg k5,if_pos hk]);have hk':(k:Int)<20:=(by omega);clear hlook k2 k3 k4 k5 hk
   go_in
   go_wp2;go_ret;exact⟨by rw[HV.out];rfl,HB.out⟩
  .have HV:Hid (fd k=[101,120,112,114,101,115,115,105,111,110]):=(by show _=_;unfold fd;rw[if_neg k2,if_neg k3,if_neg k4,if_neg k5,if_neg hk]);have hk':¬(k:Int)<20:=(by omega);clear hlook k2 k3 k4 k5 hk
   go_in
   go_wp2;go_ret;exact⟨by rw[HV.out];rfl,HB.out⟩
def OK(r:ar×Nat)(w:World)(e:Ending)(w':World):Prop:=e= .returned (.tuple #[.string (sb r.1),.int .i64 r.2])/\Below w.heap.size w w'
theorem Lh{w:World}{v:ag}{A:Option Addr}{n c:Nat}(h:ce w [v] A n c):∃g o B d,A=some ⟨g,o,none⟩/\n=1/\w.cell? ⟨g,o,none⟩=some (.int .u8 v.kind)/\w.cell? ⟨g,o+1,none⟩=some (.string (sb v.text))/\w.cell? ⟨g,o+2,none⟩=some (.int .i64 v.num)/\w.cell? ⟨g,o+3,none⟩=some (.slice B v.kids.length d):=by have hn:n=1:=h.1;obtain⟨g,o,t,rfl,ht,hat⟩:=h.get (i:=0) (by omega);simp at ht;subst ht;obtain⟨B,d,q0,q1,q2,q3,_⟩:=hat.cells;rw[Nat.zero_mul,Nat.add_zero] at q0 q1 q2 q3;exact⟨g,o,B,d,rfl,hn,q0,q1,q2,q3⟩
theorem OS{T:ag}{e:aj}{fe:Nat}(hap:Cw ek T [e]= .error fe):fe≠0:=by
 intro h0;subst h0;unfold Cw at hap;split at hap
 .injection hap with hap;omega
 .unfold CM at hap;split at hap
  .cases ho:ek T e with
   |error m=>rw[ho] at hap;simp only at hap;injection hap with hap;subst hap;exact Lg T e ho
   |ok u=>rw[ho] at hap;unfold CM at hap;cases hap
  .injection hap with hap;omega
theorem Lk(T:ag)(k:Nat)(s:ByteArray)(x:Int)(A:Option Addr)(n c:Nat)(e:aj)(ke:Nat)(pA:Option Addr)(pn pc:Nat)(i j:Int)(f t:ByteArray)(oA:Option Addr)(on oc:Nat)(nA:Option Addr)(nn nc:Nat)(w:World)(hN:cf w T k s x A n c)(hE:bI w)(hT:JM T)(hed:ay w e ke pA pn pc i j f t oA on oc nA nn nc)(hm:e.mid)(hf:e.frm.length<=281474976710656):Calls Tryz.prog 11 #[.agg #[.int .u8 k,.string s,.int .i64 x,.slice A n c],.agg #[.int .u8 ke,.slice pA pn pc,.int .i64 i,.int .i64 j,.string f,.string t,.slice oA on oc,.slice nA nn nc]] w (OK (BY T e) w):=by
 have hB3:Below w.heap.size w (((w.alloc (.cells #[.int .u8 k,.string s,.int .i64 x,.slice A n c] 25)).alloc (.cells #[.int .u8 ke,.slice pA pn pc,.int .i64 i,.int .i64 j,.string f,.string t,.slice oA on oc,.slice nA nn nc] 29)).alloc (.cells #[.int .u8 ke,.slice pA pn pc,.int .i64 i,.int .i64 j,.string f,.string t,.slice oA on oc,.slice nA nn nc] 29)):=(((ai _ _).alloc (ah _) _).alloc (by simp) _).alloc (by simp;omega) _;have hbx:(((w.alloc (.cells #[.int .u8 k,.string s,.int .i64 x,.slice A n c] 25)).alloc (.cells #[.int .u8 ke,.slice pA pn pc,.int .i64 i,.int .i64 j,.string f,.string t,.slice oA on oc,.slice nA nn nc] 29)).alloc (.cells #[.int .u8 ke,.slice pA pn pc,.int .i64 i,.int .i64 j,.string f,.string t,.slice oA on oc,.slice nA nn nc] 29)).heap[w.heap.size+1+1]? =some (.cells #[.int .u8 ke,.slice pA pn pc,.int .i64 i,.int .i64 j,.string f,.string t,.slice oA on oc,.slice nA nn nc] 29 (0,0)):=aQ (by simp);have hbxE:(((w.alloc (.cells #[.int .u8 k,.string s,.int .i64 x,.slice A n c] 25)).alloc (.cells #[.int .u8 ke,.slice pA pn pc,.int .i64 i,.int .i64 j,.string f,.string t,.slice oA on oc,.slice nA nn nc] 29)).alloc (.cells #[.int .u8 ke,.slice pA pn pc,.int .i64 i,.int .i64 j,.string f,.string t,.slice oA on oc,.slice nA nn nc] 29)).heap[w.heap.size+1]? =some (.cells #[.int .u8 ke,.slice pA pn pc,.int .i64 i,.int .i64 j,.string f,.string t,.slice oA on oc,.slice nA nn nc] 29 (0,0)):=(Below.heap_alloc _ _ _ (by simp)).trans (aQ (by simp));have hbxN:(((w.alloc (.cells #[.int .u8 k,.string s,.int .i64 x,.slice A n c] 25)).alloc (.cells #[.int .u8 ke,.slice pA pn pc,.int .i64 i,.int .i64 j,.string f,.string t,.slice oA on oc,.slice nA nn nc] 29)).alloc (.cells #[.int .u8 ke,.slice pA pn pc,.int .i64 i,.int .i64 j,.string f,.string t,.slice oA on oc,.slice nA nn nc] 29)).heap[w.heap.size]? =some (.cells #[.int .u8 k,.string s,.int .i64 x,.slice A n c] 25 (0,0)):=(Below.heap_alloc _ _ _ (by simp;omega)).trans ((Below.heap_alloc _ _ _ (by simp)).trans (aQ rfl));have HED4:Hid (Gr (((w.alloc (.cells #[.int .u8 k,.string s,.int .i64 x,.slice A n c] 25)).alloc (.cells #[.int .u8 ke,.slice pA pn pc,.int .i64 i,.int .i64 j,.string f,.string t,.slice oA on oc,.slice nA nn nc] 29)).alloc (.cells #[.int .u8 ke,.slice pA pn pc,.int .i64 i,.int .i64 j,.string f,.string t,.slice oA on oc,.slice nA nn nc] 29)) e (w.heap.size+1+1) 0):=by obtain⟨a0,a1,a2,a3,a4,a5,a6,a7⟩:=(aw hbx).cs;exact⟨ke,pA,pn,pc,i,j,f,t,oA,on,oc,nA,nn,nc,a0,a1,a2,a3,a4,a5,a6,a7,hed.below hB3⟩
 have HAP:=ab (Mi e T k s x A n c (w.heap.size+1+1) 0 1 (((w.alloc (.cells #[.int .u8 k,.string s,.int .i64 x,.slice A n c] 25)).alloc (.cells #[.int .u8 ke,.slice pA pn pc,.int .i64 i,.int .i64 j,.string f,.string t,.slice oA on oc,.slice nA nn nc] 29)).alloc (.cells #[.int .u8 ke,.slice pA pn pc,.int .i64 i,.int .i64 j,.string f,.string t,.slice oA on oc,.slice nA nn nc] 29)) (hN.below hB3) (hE.below hB3 (ah _)) hT HED4.out (by omega) (by unfold maxLen;omega) hm hf);have HN:=ab hN;have HED:=ab hed;have HB3:=ab hB3;have HBE:=ab hbxE;have HBN:=ab hbxN;have HS3:Hid ((((w.alloc (.cells #[.int .u8 k,.string s,.int .i64 x,.slice A n c] 25)).alloc (.cells #[.int .u8 ke,.slice pA pn pc,.int .i64 i,.int .i64 j,.string f,.string t,.slice oA on oc,.slice nA nn nc] 29)).alloc (.cells #[.int .u8 ke,.slice pA pn pc,.int .i64 i,.int .i64 j,.string f,.string t,.slice oA on oc,.slice nA nn nc] 29)).heap.size=w.heap.size+3):=(by show _=_;simp);have hTs:=hT.1;clear hN hE hed hB3 hbx hbxE hbxN HED4 hT
 go_in
 go_wp2_with fail;refine HAP.out.mono ?_;generalize (((w.alloc (.cells #[.int .u8 k,.string s,.int .i64 x,.slice A n c] 25)).alloc (.cells #[.int .u8 ke,.slice pA pn pc,.int .i64 i,.int .i64 j,.string f,.string t,.slice oA on oc,.slice nA nn nc] 29)).alloc (.cells #[.int .u8 ke,.slice pA pn pc,.int .i64 i,.int .i64 j,.string f,.string t,.slice oA on oc,.slice nA nn nc] 29))=W3 at HS3 HAP HB3 HBE HBN ⊢;intro en w1 hpost;obtain⟨hb1,hpost⟩:=hpost;have HB1:=ab (HB3.out.trans (hb1.mono HB3.out.size));have HBE1:=ab ((hb1.block _ (aK.1 HBE.out).1).trans HBE.out);have HBN1:=ab ((hb1.block _ (aK.1 HBN.out).1).trans HBN.out);cases hap:Cw ek T [e] with
 |error fe=>
  rw[hap] at hpost;have HKE:Hid (BY T e=([],fe)):=(by show _=_;unfold BY;rw[hap]);have hfe:=OS hap;have hfn:((fe:Int) != 0)=true:=(by simpa using hfe);have hpost:en= .returned (.tuple #[.agg #[.int .u8 0,.string ⟨#[]⟩,.int .i64 0,.slice none 0 0],.int .i64 fe]):=hpost;subst hpost;clear hb1 hap;go_wp2
  go_ret2
  exact⟨by rw[HKE.out];rfl,HB1.out.alloc HB1.out.size _⟩
 |ok m=>
  rw[hap] at hpost;have HKE:Hid (BY T e=(pq T e,0)):=(by show _=_;unfold BY;rw[hap]);obtain⟨hprog,hright,hone⟩:=JO.1 hap;have HRP:=ab (KK hright).2.2.2;have hk5:=Iz hright;have hpost:∃(k:Nat) (s:ByteArray) (x:Int) (A:Option Addr) (n c:Nat),en= .returned (.tuple #[.agg #[.int .u8 k,.string s,.int .i64 x,.slice A n c],.int .i64 0])/\cf (cX w1 W3.heap.size) m k s x A n c:=hpost;obtain⟨k',s',x',A',n',c',rfl,hnm⟩:=hpost;obtain⟨ps,os,ns,he9,h1,h2,h3⟩:=HED.out;have hek:e.kind=ke/\e.path=ps/\e.olds=os/\e.news=ns:=(by rw[he9];exact⟨rfl,rfl,rfl,rfl⟩);obtain⟨he1,he2,he3,he4⟩:=hek;have hbN:Below w1.heap.size w1 (w1.alloc (.cells #[.int .u8 k',.string s',.int .i64 x',.slice A' n' c'] 25)):=(ai _ _).alloc (ah _) _;have HBW:=ab (HB1.out.trans (hbN.mono HB1.out.size));have HBEA:=ab ((hbN.block _ (aK.1 HBE1.out).1).trans HBE1.out);have HBNA:=ab ((hbN.block _ (aK.1 HBN1.out).1).trans HBN1.out);have HPA:=ab (h1.below HBW.out);have HOA:=ab (h2.below HBW.out);have HNA:=ab (h3.below HBW.out);have HSA:Hid (w.heap.size+3<=w1.heap.size):=(by show _<=_;have:=HS3.out;have:=hb1.size;omega);rw[he1] at hk5;have HE1:=ab he1;have HE2:=ab he2;have HE3:=ab he3;have HE4:=ab he4;have hw1:=HSA.out;clear hb1 hap hnm he9 h1 h2 h3 he1 he2 he3 he4 hbN hone hprog hright;obtain⟨a0,a1,a2,a3,a4,a5,a6,a7⟩:=(aw HBEA.out).cs;obtain⟨b0,b1,b2,b3,_⟩:=di HBNA.out;rcases hk5 with hk|hk|hk|hk|hk
  .subst hk;have HKW:Hid (pq T e=(match T.sub e.path with
    |some u=>if u.kind=6 then ka [114,101,110,97,109,101] [118,97,114,105,97,98,108,101] else ka [114,101,110,97,109,101] (fd u.kind)
    |none=>ka [114,101,110,97,109,101] (fd 0))):=by show _=_;unfold pq;rw[if_pos HE1.out]
   rw[HE2.out] at HKW;have HGT:=ab (Mk T k s x A n c ps pA pn pc (w1.alloc (.cells #[.int .u8 k',.string s',.int .i64 x',.slice A' n' c'] 25)) (by omega) (HN.out.below HBW.out) HPA.out);go_wp2_with fail;refine HGT.out.mono ?_;generalize (w1.alloc (.cells #[.int .u8 k',.string s',.int .i64 x',.slice A' n' c'] 25))=WA at HBW HBEA HBNA HPA HOA HNA HGT a0 a1 a2 a3 a4 a5 a6 a7 b0 b1 b2 b3 ⊢;intro en2 w2 hg;obtain⟨hb2,hg⟩:=hg;have HB2:=ab (HBW.out.trans (hb2.mono HBW.out.size));clear a0 a1 a2 a3 a4 a5 a6 a7 b0 b1 b2 b3;cases hs:T.sub ps with
   |none=>
    rw[hs] at hg HKW;have hg:en2= .returned (.tuple #[.agg #[.int .u8 0,.string ⟨#[]⟩,.int .i64 0,.slice none 0 0],.bool false]):=hg;subst hg;have HOF:=ab (Kj 0 ⟨#[]⟩ 0 none 0 0 (w2.alloc (.cells #[.int .u8 0,.string ⟨#[]⟩,.int .i64 0,.slice none 0 0] 25)));go_wp2_with fail;refine HOF.out.mono ?_;rintro en3 w3 ⟨rfl,hb3⟩;have HB3':=ab ((HB2.out.alloc HB2.out.size (.cells #[.int .u8 0,.string ⟨#[]⟩,.int .i64 0,.slice none 0 0] 25)).trans (hb3.mono (HB2.out.alloc HB2.out.size (.cells #[.int .u8 0,.string ⟨#[]⟩,.int .i64 0,.slice none 0 0] 25)).size));have HWD:=ab (JW [114,101,110,97,109,101] (fd 0) w3.heap.size 2 (w3.alloc (.cells #[.string (sb [114,101,110,97,109,101]),.string (sb (fd 0))] 9)) (by simp) (by simp) (by decide) (by decide) (ah _));clear hb3 hb2;go_wp2_with fail;refine HWD.out.mono ?_;rintro en4 w4 ⟨rfl,hb4⟩;have HB4:=ab ((HB3'.out.alloc HB3'.out.size (.cells #[.string (sb [114,101,110,97,109,101]),.string (sb (fd 0))] 9)).trans (hb4.mono (HB3'.out.alloc HB3'.out.size _).size));clear hb4;go_wp2
    go_ret2
    exact⟨by rw[HKE.out,HKW.out];rfl,HB4.out⟩
   |some u=>
    rw[hs] at hg HKW;have hg:∃(k:Nat) (s:ByteArray) (x:Int) (A:Option Addr) (n c:Nat),en2= .returned (.tuple #[.agg #[.int .u8 k,.string s,.int .i64 x,.slice A n c],.bool true])/\cf (cX w2 WA.heap.size) u k s x A n c:=hg;obtain⟨k2,s2,x2,A2,n2,c2,rfl,hnu⟩:=hg;have hku:u.kind=k2:=(by obtain⟨ks,rfl,_⟩:=hnu;rfl);have HKW:Hid (pq T e=if u.kind=6 then ka [114,101,110,97,109,101] [118,97,114,105,97,98,108,101] else ka [114,101,110,97,109,101] (fd u.kind)):=HKW;rw[hku] at HKW;clear hnu hku hb2 hs;by_cases h6:k2=6
    .subst h6;have HWD:=ab (JW [114,101,110,97,109,101] [118,97,114,105,97,98,108,101] (w2.heap.size+1) 2 ((w2.alloc (.cells #[.int .u8 6,.string s2,.int .i64 x2,.slice A2 n2 c2] 25)).alloc (.cells #[.string (sb [114,101,110,97,109,101]),.string (sb [118,97,114,105,97,98,108,101])] 9)) (by simp) (by simp) (by decide) (by decide) (ah _));have HB5:=ab ((HB2.out.alloc HB2.out.size (.cells #[.int .u8 6,.string s2,.int .i64 x2,.slice A2 n2 c2] 25)).alloc (HB2.out.alloc HB2.out.size _).size (.cells #[.string (sb [114,101,110,97,109,101]),.string (sb [118,97,114,105,97,98,108,101])] 9));go_wp2_with fail;refine HWD.out.mono ?_;rintro en4 w4 ⟨rfl,hb4⟩;have HB4:=ab (HB5.out.trans (hb4.mono HB5.out.size));clear hb4;go_wp2
     go_ret2
     exact⟨by rw[HKE.out,HKW.out];rfl,HB4.out⟩
    .have e6:((k2:Int) == 6)=false:=(by simp;omega);rw[if_neg h6] at HKW;clear h6;have HB5:=ab (HB2.out.alloc HB2.out.size (.cells #[.int .u8 k2,.string s2,.int .i64 x2,.slice A2 n2 c2] 25));have HOF:=ab (Kj k2 s2 x2 A2 n2 c2 (w2.alloc (.cells #[.int .u8 k2,.string s2,.int .i64 x2,.slice A2 n2 c2] 25)));go_wp2_with fail;refine HOF.out.mono ?_;rintro en3 w3 ⟨rfl,hb3⟩;have HB3':=ab (HB5.out.trans (hb3.mono HB5.out.size));have HWD:=ab (JW [114,101,110,97,109,101] (fd k2) w3.heap.size 2 (w3.alloc (.cells #[.string (sb [114,101,110,97,109,101]),.string (sb (fd k2))] 9)) (by simp) (by simp) (by decide) (aJ (KM _) (by omega)) (ah _));clear hb3;go_wp2_with fail;refine HWD.out.mono ?_;rintro en4 w4 ⟨rfl,hb4⟩;have HB4:=ab ((HB3'.out.alloc HB3'.out.size (.cells #[.string (sb [114,101,110,97,109,101]),.string (sb (fd k2))] 9)).trans (hb4.mono (HB3'.out.alloc HB3'.out.size _).size));clear hb4;go_wp2
     go_ret2
     exact⟨by rw[HKE.out,HKW.out];rfl,HB4.out⟩
  .subst hk;have hx:∃v,e.news=[v]:=by
    first
     |(obtain⟨v,hv,_⟩:=HRP.out.1 (by rw[HE1.out];rfl);exact⟨v,hv⟩)
     |(obtain⟨v,hv,_⟩:=HRP.out.2 (by rw[HE1.out];rfl);exact⟨v,hv⟩)
   obtain⟨v,hv⟩:=hx;have HKW:Hid (pq T e=ka [105,110,115,101,114,116] (fd v.kind)):=(by show _=_;unfold pq;rw[if_neg (by rw[HE1.out];omega),if_pos HE1.out,hv];rfl);rw[HE4.out] at hv;subst hv;obtain⟨g,o,B,d,rfl,rfl,q0,q1,q2,q3⟩:=Lh HNA.out;have HOF:=ab (Kj v.kind (sb v.text) v.num B v.kids.length d (w1.alloc (.cells #[.int .u8 k',.string s',.int .i64 x',.slice A' n' c'] 25)));go_wp2_with fail;refine HOF.out.mono ?_;rintro en3 w3 ⟨rfl,hb3⟩;have HB3':=ab (HBW.out.trans (hb3.mono HBW.out.size));have HWD:=ab (JW [105,110,115,101,114,116] (fd v.kind) w3.heap.size 2 (w3.alloc (.cells #[.string (sb [105,110,115,101,114,116]),.string (sb (fd v.kind))] 9)) (by simp) (by simp) (by decide) (aJ (KM _) (by omega)) (ah _));clear hb3;go_wp2_with fail;refine HWD.out.mono ?_;rintro en4 w4 ⟨rfl,hb4⟩;have HB4:=ab ((HB3'.out.alloc HB3'.out.size (.cells #[.string (sb [105,110,115,101,114,116]),.string (sb (fd v.kind))] 9)).trans (hb4.mono (HB3'.out.alloc HB3'.out.size _).size));clear hb4;go_wp2
   go_ret2
   exact⟨by rw[HKE.out,HKW.out];rfl,HB4.out⟩
  .subst hk;have hx:∃v,e.olds=[v]:=by
    first
     |(obtain⟨v,hv,_⟩:=HRP.out.1 (by rw[HE1.out];rfl);exact⟨v,hv⟩)
     |(obtain⟨v,hv,_⟩:=HRP.out.2 (by rw[HE1.out];rfl);exact⟨v,hv⟩)
   obtain⟨v,hv⟩:=hx;have HKW:Hid (pq T e=ka [100,101,108,101,116,101] (fd v.kind)):=(by show _=_;unfold pq;rw[if_neg (by rw[HE1.out];omega),if_neg (by rw[HE1.out];omega),if_pos HE1.out,hv];rfl);rw[HE3.out] at hv;subst hv;obtain⟨g,o,B,d,rfl,rfl,q0,q1,q2,q3⟩:=Lh HOA.out;have HOF:=ab (Kj v.kind (sb v.text) v.num B v.kids.length d (w1.alloc (.cells #[.int .u8 k',.string s',.int .i64 x',.slice A' n' c'] 25)));go_wp2_with fail;refine HOF.out.mono ?_;rintro en3 w3 ⟨rfl,hb3⟩;have HB3':=ab (HBW.out.trans (hb3.mono HBW.out.size));have HWD:=ab (JW [100,101,108,101,116,101] (fd v.kind) w3.heap.size 2 (w3.alloc (.cells #[.string (sb [100,101,108,101,116,101]),.string (sb (fd v.kind))] 9)) (by simp) (by simp) (by decide) (aJ (KM _) (by omega)) (ah _));clear hb3;go_wp2_with fail;refine HWD.out.mono ?_;rintro en4 w4 ⟨rfl,hb4⟩;have HB4:=ab ((HB3'.out.alloc HB3'.out.size (.cells #[.string (sb [100,101,108,101,116,101]),.string (sb (fd v.kind))] 9)).trans (hb4.mono (HB3'.out.alloc HB3'.out.size _).size));clear hb4;go_wp2
   go_ret2
   exact⟨by rw[HKE.out,HKW.out];rfl,HB4.out⟩
  .subst hk;have hx:∃v,e.olds=[v]:=by
    first
     |(obtain⟨v,hv,_⟩:=HRP.out.1 (by rw[HE1.out];rfl);exact⟨v,hv⟩)
     |(obtain⟨v,hv,_⟩:=HRP.out.2 (by rw[HE1.out];rfl);exact⟨v,hv⟩)
   obtain⟨v,hv⟩:=hx;have HKW:Hid (pq T e=ka [114,101,112,108,97,99,101] (fd v.kind)):=(by show _=_;unfold pq;rw[if_neg (by rw[HE1.out];omega),if_neg (by rw[HE1.out];omega),if_neg (by rw[HE1.out];omega),if_pos HE1.out,hv];rfl);rw[HE3.out] at hv;subst hv;obtain⟨g,o,B,d,rfl,rfl,q0,q1,q2,q3⟩:=Lh HOA.out;have HOF:=ab (Kj v.kind (sb v.text) v.num B v.kids.length d (w1.alloc (.cells #[.int .u8 k',.string s',.int .i64 x',.slice A' n' c'] 25)));go_wp2_with fail;refine HOF.out.mono ?_;rintro en3 w3 ⟨rfl,hb3⟩;have HB3':=ab (HBW.out.trans (hb3.mono HBW.out.size));have HWD:=ab (JW [114,101,112,108,97,99,101] (fd v.kind) w3.heap.size 2 (w3.alloc (.cells #[.string (sb [114,101,112,108,97,99,101]),.string (sb (fd v.kind))] 9)) (by simp) (by simp) (by decide) (aJ (KM _) (by omega)) (ah _));clear hb3;go_wp2_with fail;refine HWD.out.mono ?_;rintro en4 w4 ⟨rfl,hb4⟩;have HB4:=ab ((HB3'.out.alloc HB3'.out.size (.cells #[.string (sb [114,101,112,108,97,99,101]),.string (sb (fd v.kind))] 9)).trans (hb4.mono (HB3'.out.alloc HB3'.out.size _).size));clear hb4;go_wp2
   go_ret2
   exact⟨by rw[HKE.out,HKW.out];rfl,HB4.out⟩
  .subst hk;have hx:∃v,e.olds=[v]:=by
    first
     |(obtain⟨v,hv,_⟩:=HRP.out.1 (by rw[HE1.out];rfl);exact⟨v,hv⟩)
     |(obtain⟨v,hv,_⟩:=HRP.out.2 (by rw[HE1.out];rfl);exact⟨v,hv⟩)
   obtain⟨v,hv⟩:=hx;have HKW:Hid (pq T e=ka [109,111,118,101] (fd v.kind)):=(by show _=_;unfold pq;rw[if_neg (by rw[HE1.out];omega),if_neg (by rw[HE1.out];omega),if_neg (by rw[HE1.out];omega),if_neg (by rw[HE1.out];omega),hv];rfl);rw[HE3.out] at hv;subst hv;obtain⟨g,o,B,d,rfl,rfl,q0,q1,q2,q3⟩:=Lh HOA.out;have HOF:=ab (Kj v.kind (sb v.text) v.num B v.kids.length d (w1.alloc (.cells #[.int .u8 k',.string s',.int .i64 x',.slice A' n' c'] 25)));go_wp2_with fail;refine HOF.out.mono ?_;rintro en3 w3 ⟨rfl,hb3⟩;have HB3':=ab (HBW.out.trans (hb3.mono HBW.out.size));have HWD:=ab (JW [109,111,118,101] (fd v.kind) w3.heap.size 2 (w3.alloc (.cells #[.string (sb [109,111,118,101]),.string (sb (fd v.kind))] 9)) (by simp) (by simp) (by decide) (aJ (KM _) (by omega)) (ah _));clear hb3;go_wp2_with fail;refine HWD.out.mono ?_;rintro en4 w4 ⟨rfl,hb4⟩;have HB4:=ab ((HB3'.out.alloc HB3'.out.size (.cells #[.string (sb [109,111,118,101]),.string (sb (fd v.kind))] 9)).trans (hb4.mono (HB3'.out.alloc HB3'.out.size _).size));clear hb4;go_wp2
   go_ret2
   exact⟨by rw[HKE.out,HKW.out];rfl,HB4.out⟩
def Aa:ag:=.node 1 [] 0 [.node 2 [102] 0 [.node 3 [] 0 [.node 4 [97] 0 []],.node 5 [] 0 [JI]]]
def J5:aj:=⟨2,[0,1],0,0,[],[],[],[Jf]⟩
def KY:aj:=⟨2,[0,1],1,0,[],[],[],[Jf]⟩
def J6:aj:=⟨3,[0,1],0,0,[],[],[JI],[]⟩
theorem Pb:BY Aa J5=([105,110,115,101,114,116,32,115,116,97,116,101,109,101,110,116],0):=by kernel_rfl
theorem Pc:BY Aa J6=([100,101,108,101,116,101,32,115,116,97,116,101,109,101,110,116],0):=by kernel_rfl
theorem Pd:j4 Aa J5=false:=by kernel_rfl
theorem Pe:j4 Aa KY=true:=by kernel_rfl
theorem Pf:j4 Aa J6=true:=by kernel_rfl
end Go.Proofs.YtfipahjodfminaaGreatDoor
