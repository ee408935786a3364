/- Part 8 of the proof. -/
import Derived.ArgAppend
import Derived.Test.YtfipahjodfminaaGreatDoorMfG
namespace Go.Proofs.YtfipahjodfminaaGreatDoor
open Go.RowKit
set_option linter.all false
set_option maxHeartbeats 40000000
set_option maxRecDepth 100000
theorem ID{w:World}(ty:TypeId)(q:List Int)(A:Option Addr)(c0:Nat)(hq:cc w q A q.length c0)(Bk c:Nat)(i:Int)(hblk:w.heap[Bk]? =some (.cells #[.int .i64 i] 3 (0,0)))(hlen:q.length<=1000000)(hA:A=none->q=[]):∃g cap w',(Builtin.append_ #[27,27] ty #[.slice A q.length q.length,.slice (some ⟨Bk,0,none⟩) 1 c]).run Tryz.prog w= .ok (.slice (some ⟨g,0,none⟩) (q.length+1) cap) w'/\cc w' (q++[i]) (some ⟨g,0,none⟩) (q.length+1) cap/\bT w' (q++[i]) (some ⟨g,0,none⟩)/\Below w.heap.size w w':=by
 obtain⟨i0,hi,hz0,hz1,hz2⟩:=info_parts Tryz.infoInt;have hn:∀j u,[Value.int .i64 i][j]? =some u->w.cell? ((⟨Bk,0,none⟩:Addr).add j)=some u:=DA hblk;have fin:∀v' w',(Builtin.append_ #[27,27] ty #[.slice A q.length q.length,.slice (some ⟨Bk,0,none⟩) 1 c]).run Tryz.prog w= .ok v' w'->w'.ownsRow w.heap.size 3 1 v' (q.length+1) (q.map (Value.int .i64)++[.int .i64 i])->w.grownBy w' none->
  ∃g cap w',(Builtin.append_ #[27,27] ty #[.slice A q.length q.length,.slice (some ⟨Bk,0,none⟩) 1 c]).run Tryz.prog w= .ok (.slice (some ⟨g,0,none⟩) (q.length+1) cap) w'/\cc w' (q++[i]) (some ⟨g,0,none⟩) (q.length+1) cap/\bT w' (q++[i]) (some ⟨g,0,none⟩)/\Below w.heap.size w w':=by
  intro v' w' hr ho hg;have ho':w'.ownsRow w.heap.size 3 1 v' (q++[i]).length ((q++[i]).map (Value.int .i64)):=(by simpa using ho);obtain⟨g,cap,e,_⟩:=ho'.form (by simp);subst e;obtain⟨A',c',e2,hI⟩:=cc.own ho';injection e2 with e2 e3 e4;subst e2 e4;have hI':cc w' (q++[i]) (some ⟨g,0,none⟩) (q.length+1) cap:=(by simpa using hI);refine⟨g,cap,w',by simpa using hr,hI',bT.own (n:=(q++[i]).length) (c:=cap) (by simpa using ho') (by simp),(ai _ _).grown hg (ah _) (fun k hk=>by cases hk)⟩
 obtain⟨_,h2,h3,h4⟩:=hq;cases A with
 |none=>have:=hA rfl;subst this;have hr:=run_append_own (P:=Tryz.prog) w w.heap.size 27 ty 3 i0 _ 1 8 Tryz.underlying27 hi hz0 hz1 hz2 rfl (by decide) (.slice none 0 0) 0 [] (World.ownsRow_nil w _ _ _) ⟨Bk,0,none⟩ 1 c [.int .i64 i] rfl hn (by simp[Value.oneCell']) (by unfold maxLen;omega) (by omega) (ah _);obtain⟨v',w',r1,r2,r3,_⟩:=hr;exact fin v' w' r1 (by simpa using r2) r3
 |some ad=>
  have hc:∀j u,(q.map (Value.int .i64))[j]? =some u->w.cell? (ad.add j)=some u:=by
   intro j u hu;rcases h4 with rfl|⟨b,o,e,hr⟩
   .simp at hu
   .rw[Option.some.inj e];rw[CE];rw[List.getElem?_map] at hu;cases hj:q[j]? with
    |none=>rw[hj] at hu;cases hu
    |some z=>rw[hj] at hu;cases hu;exact hr j z hj
  obtain⟨v',w',r1,r2,r3⟩:=run_append_arg_grows (P:=Tryz.prog) w 27 ty 3 i0 _ 1 8 Tryz.underlying27 hi hz0 hz1 hz2 rfl (by decide) ad q.length q.length (q.map (Value.int .i64)) (by simp) hc ⟨Bk,0,none⟩ 1 c [.int .i64 i] rfl hn (by omega) (by unfold maxLen;omega) (by omega);exact fin v' w' r1 r2 r3
theorem Ct{ops:Array Oper}{o:Oper}{a:Act}{K:Act->World->Prop}{Q:Exit->Act->World->Prop}{E:Prop}(w:World)(hgd:o.guard=none)(s x:Operand)(ho:o.op= .call { callee:=.builtin .append,args:=#[s,x],argTypes:=#[27,27] })(q:List Int)(A:Option Addr)(c0:Nat)(hs:a.eval s= .slice A q.length q.length)(hq:cc w q A q.length c0)(Bk c:Nat)(i:Int)(hx:a.eval x= .slice (some ⟨Bk,0,none⟩) 1 c)(hblk:w.heap[Bk]? =some (.cells #[.int .i64 i] 3 (0,0)))(hlen:q.length<=1000000)(hA:A=none->q=[])(h:∀g cap w',cc w' (q++[i]) (some ⟨g,0,none⟩) (q.length+1) cap->bT w' (q++[i]) (some ⟨g,0,none⟩)->Below w.heap.size w w'->K (a.put o.dst (.slice (some ⟨g,0,none⟩) (q.length+1) cap)) w'):if Region.wanted o (yielded ops a.tmps)=true then Oper.wp Tryz.prog o a w K Q else E:=by obtain⟨g,cap,w',hr,h1,h2,h3⟩:=ID o.type q A c0 hq Bk c i hblk hlen hA;have hw:Region.wanted o (yielded ops a.tmps)=true:=(by simp[Region.wanted,hgd]);rw[if_pos hw];exact Lib.wp_append_run w s x _ _ ho _ _ hs hx _ _ hr (h g cap w' h1 h2 h3)
structure Dr (W:World) (b wb:Nat) (pa:Option Addr) (M k:Nat) (s:ar) (x:Int) (A:Option Addr) (n c:Nat) (pA:Option Addr) (ql pc a:Nat):Prop where
 b0:W.heap[b]? =some (.cells #[.pointer (some ⟨wb,0,none⟩)] 181 (0,0))
 b1:W.heap[b+1]? =some (.cells #[.pointer pa,.map (some M)] 185 (0,0))
 b2:W.heap[b+1+1]? =some (.cells #[.int .u8 k,.string (sb s),.int .i64 x,.slice A n c] 25 (0,0))
 b3:W.heap[b+1+1+1]? =some (.cells #[.slice pA ql pc] 27 (0,0))
 b4:W.heap[b+1+1+1+1]? =some (.cells #[.int .i64 a] 3 (0,0))
theorem Dr.only{S:Nat->Prop}{W W':World}{b wb:Nat}{pa:Option Addr}{M k:Nat}{s:ar}{x:Int}{A:Option Addr}{n c:Nat}{pA:Option Addr}{ql pc a:Nat}(h:Dr W b wb pa M k s x A n c pA ql pc a)(ho:cg S W W')(hS:∀k,S k->k<b∨b+5<=k):Dr W' b wb pa M k s x A n c pA ql pc a:=by have key:∀j,b<=j->j<b+5->∀o,W.heap[j]? =some o->W'.heap[j]? =some o:=fun j hj hj2 o h1=>(ho.keep _ (aK.1 h1).1 (fun hk=>by rcases hS _ hk with h2|h2<;>omega)).trans h1;exact⟨key _ (by omega) (by omega) _ h.b0,key _ (by omega) (by omega) _ h.b1,key _ (by omega) (by omega) _ h.b2,key _ (by omega) (by omega) _ h.b3,key _ (by omega) (by omega) _ h.b4⟩
structure Gu (W:World) (b wb:Nat) (pa:Option Addr) (M k:Nat) (s:ar) (x:Int) (A:Option Addr) (n c:Nat) (pA:Option Addr) (ql pc a:Nat):Prop where
 c0:W.cell? ⟨b,0,none⟩=some (.pointer (some ⟨wb,0,none⟩))
 c10:W.cell? ⟨b+1,0,none⟩=some (.pointer pa)
 c11:W.cell? ⟨b+1,1,none⟩=some (.map (some M))
 c20:W.cell? ⟨b+1+1,0,none⟩=some (.int .u8 k)
 c21:W.cell? ⟨b+1+1,1,none⟩=some (.string (sb s))
 c22:W.cell? ⟨b+1+1,2,none⟩=some (.int .i64 x)
 c23:W.cell? ⟨b+1+1,3,none⟩=some (.slice A n c)
 c30:W.cell? ⟨b+1+1+1,0,none⟩=some (.slice pA ql pc)
 c40:W.cell? ⟨b+1+1+1+1,0,none⟩=some (.int .i64 a)
 g10:W.frozen? ⟨b+1,0,none⟩=false
 g11:W.frozen? ⟨b+1,1,none⟩=false
theorem Dr.cells{W:World}{b wb:Nat}{pa:Option Addr}{M k:Nat}{s:ar}{x:Int}{A:Option Addr}{n c:Nat}{pA:Option Addr}{ql pc a:Nat}(h:Dr W b wb pa M k s x A n c pA ql pc a):Gu W b wb pa M k s x A n c pA ql pc a:=by have k0:=fun j=>cell_of_row W _ j _ _ _ h.b0;have k1:=fun j=>cell_of_row W _ j _ _ _ h.b1;have k2:=fun j=>cell_of_row W _ j _ _ _ h.b2;have k3:=fun j=>cell_of_row W _ j _ _ _ h.b3;have k4:=fun j=>cell_of_row W _ j _ _ _ h.b4;refine⟨by rw[k0];rfl,by rw[k1];rfl,by rw[k1];rfl,by rw[k2];rfl,by rw[k2];rfl,by rw[k2];rfl,by rw[k2];rfl,by rw[k3];rfl,by rw[k4];rfl,?_,?_⟩ <;>simp[World.frozen?,h.b1]
structure rN (w:World) (B wb fm M:Nat) (recs:List cz) (av:Value) (fe:bq) (b:Nat) (k:Nat) (s:ar) (x:Int) (A:Option Addr) (n c:Nat) (q:List Int) (pA:Option Addr) (pc a:Nat) (pa1:Option Addr) (M1:Nat) (out1:List bq) (ms1:List Nat) (W:World) (st1:bo) (own1:bq) (recs1:List cz) (av1:Value):Prop where
 mem:eP W B wb fm recs1 av1 st1
 box:Dr W b wb pa1 M1 k s x A n c pA q.length pc a
 fmap:ci W fm (fy (cn recs1) fe)
 omap:ci W M1 (fy (cn recs1) own1)
 arnd:kc W (cn recs1) out1 ms1 (.pointer pa1)
 ids:∀m∈own1::out1,fv recs1.length m
 fids:fv recs1.length fe
 path:cc W q pA q.length pc
 pathT:bT W q pA
 only:cg (fun k=>gp wb recs av k∨k=M) w W
 sub:∀k,k<w.heap.size->gp wb recs1 av1 k->gp wb recs av k
 far:∀k,gp wb recs1 av1 k->k<b∨b+5<=k
 ext:∃l,cn recs1=cn recs++l
 eb:b=w.heap.size
 farM:M1=M∨b+5<=M1
 hM:M<w.heap.size
 ne:fm≠M1
 nms:M1∉ms1
 low:B<=M1
theorem Dx{w:World}{b:Nat}{l:List (ar×Value)}(h:ci w b l):∃es c,w.heap[b]? =some (.map es c):=by obtain⟨es,c,hb,_⟩:=h;exact⟨es,c,hb⟩
theorem Dn{w:World}{B wb fm M:Nat}{recs:List cz}{av:Value}{st:bo}{fe own:bq}{out:List bq}{ms:List Nat}{pa:Option Addr}{q:List Int}{pA:Option Addr}{pc:Nat}(k:Nat)(s:ar)(x:Int)(A:Option Addr)(n c:Nat)(hm:eP w B wb fm recs av st)(hfe:ci w fm (fy (cn recs) fe))(hown:ci w M (fy (cn recs) own))(har:kc w (cn recs) out ms (.pointer pa))(hids:∀m∈own::out,fv recs.length m)(hfids:fv recs.length fe)(hp:cc w q pA q.length pc)(hpt:bT w q pA)(hne:fm≠M)(hms:M∉ms)(hBM:B<=M):rN w B wb fm M recs av fe w.heap.size k s x A n c q pA pc st.at_ pa M out ms ((((((w.alloc (.cells #[.pointer (some ⟨wb,0,none⟩)] 181)).alloc (.cells #[.pointer pa,.map (some M)] 185)).alloc (.cells #[.int .u8 k,.string (sb s),.int .i64 x,.slice A n c] 25)).alloc (.cells #[.slice pA q.length pc] 27)).alloc (.cells #[.int .i64 st.at_] 3)).setCell ⟨wb,3,none⟩ (.int .i64 (st.at_+1))) st.next own recs av:=by
 have hb:Below w.heap.size w (((((w.alloc (.cells #[.pointer (some ⟨wb,0,none⟩)] 181)).alloc (.cells #[.pointer pa,.map (some M)] 185)).alloc (.cells #[.int .u8 k,.string (sb s),.int .i64 x,.slice A n c] 25)).alloc (.cells #[.slice pA q.length pc] 27)).alloc (.cells #[.int .i64 st.at_] 3)):=(((((ai _ _).alloc (ah _) _).alloc (by simp) _).alloc (by simp;omega) _).alloc (by simp;omega) _).alloc (by simp;omega) _;have k0:(((((w.alloc (.cells #[.pointer (some ⟨wb,0,none⟩)] 181)).alloc (.cells #[.pointer pa,.map (some M)] 185)).alloc (.cells #[.int .u8 k,.string (sb s),.int .i64 x,.slice A n c] 25)).alloc (.cells #[.slice pA q.length pc] 27)).alloc (.cells #[.int .i64 st.at_] 3)).heap[w.heap.size]? =some (.cells #[.pointer (some ⟨wb,0,none⟩)] 181 (0,0)):=by rw[heap_alloc_old _ _ (by simp<;>omega),heap_alloc_old _ _ (by simp<;>omega),heap_alloc_old _ _ (by simp<;>omega),heap_alloc_old _ _ (by simp),heap_alloc_new]
 have k1:(((((w.alloc (.cells #[.pointer (some ⟨wb,0,none⟩)] 181)).alloc (.cells #[.pointer pa,.map (some M)] 185)).alloc (.cells #[.int .u8 k,.string (sb s),.int .i64 x,.slice A n c] 25)).alloc (.cells #[.slice pA q.length pc] 27)).alloc (.cells #[.int .i64 st.at_] 3)).heap[w.heap.size+1]? =some (.cells #[.pointer pa,.map (some M)] 185 (0,0)):=by rw[heap_alloc_old _ _ (by simp<;>omega),heap_alloc_old _ _ (by simp<;>omega),heap_alloc_old _ _ (by simp),heap_alloc_at (by simp)]
 have k2:(((((w.alloc (.cells #[.pointer (some ⟨wb,0,none⟩)] 181)).alloc (.cells #[.pointer pa,.map (some M)] 185)).alloc (.cells #[.int .u8 k,.string (sb s),.int .i64 x,.slice A n c] 25)).alloc (.cells #[.slice pA q.length pc] 27)).alloc (.cells #[.int .i64 st.at_] 3)).heap[w.heap.size+1+1]? =some (.cells #[.int .u8 k,.string (sb s),.int .i64 x,.slice A n c] 25 (0,0)):=by rw[heap_alloc_old _ _ (by simp<;>omega),heap_alloc_old _ _ (by simp),heap_alloc_at (by simp)]
 have k3:(((((w.alloc (.cells #[.pointer (some ⟨wb,0,none⟩)] 181)).alloc (.cells #[.pointer pa,.map (some M)] 185)).alloc (.cells #[.int .u8 k,.string (sb s),.int .i64 x,.slice A n c] 25)).alloc (.cells #[.slice pA q.length pc] 27)).alloc (.cells #[.int .i64 st.at_] 3)).heap[w.heap.size+1+1+1]? =some (.cells #[.slice pA q.length pc] 27 (0,0)):=by rw[heap_alloc_old _ _ (by simp),heap_alloc_at (by simp)]
 have k4:(((((w.alloc (.cells #[.pointer (some ⟨wb,0,none⟩)] 181)).alloc (.cells #[.pointer pa,.map (some M)] 185)).alloc (.cells #[.int .u8 k,.string (sb s),.int .i64 x,.slice A n c] 25)).alloc (.cells #[.slice pA q.length pc] 27)).alloc (.cells #[.int .i64 st.at_] 3)).heap[w.heap.size+1+1+1+1]? =some (.cells #[.int .i64 st.at_] 3 (0,0)):=heap_alloc_at (by simp);generalize (((((w.alloc (.cells #[.pointer (some ⟨wb,0,none⟩)] 181)).alloc (.cells #[.pointer pa,.map (some M)] 185)).alloc (.cells #[.int .u8 k,.string (sb s),.int .i64 x,.slice A n c] 25)).alloc (.cells #[.slice pA q.length pc] 27)).alloc (.cells #[.int .i64 st.at_] 3))=V at*;have hmV:=hm.below hb;have hwl:=(aK.1 hm.box).1;have hsV:=hb.size;have o1:cg (fun k=>k=wb) V (V.setCell ⟨wb,3,none⟩ (.int .i64 (st.at_+1))):=(cg.refl (fun k=>k=wb) V).set (a:=⟨wb,3,none⟩) (.inr rfl) _;have hN:Cc (fun k=>k=wb) V:=(by rintro k rfl cs fr e;rw[hmV.box] at e;simp at e);have hM:ci V M (fy (cn recs) own):=hown.below hb;have hF:ci V fm (fy (cn recs) fe):=hfe.below hb;have nm:∀l M',ci V M' l->M'≠wb:=fun l M' h e=>by obtain⟨es,ck,hh⟩:=Dx h;rw[e,hmV.box] at hh;simp at hh
 obtain⟨p1,p2⟩:=C8 (hp.below hb) (hpt.below hb) o1 hN;have hms':∀(out:List bq) (ms:List Nat) (v:Value),kc V (cn recs) out ms v->∀M∈ms,¬M=wb:=by
  intro out;induction out with
  |nil=>intro ms v h M hM;rw[h.1] at hM;cases hM
  |cons m out ih=>
   intro ms v h M hM;obtain⟨b',v',M2,ms',rfl,_,_,hm2,h2⟩:=h;rcases List.mem_cons.1 hM with rfl|hM
   .exact nm _ _ hm2
   .exact ih ms' v' h2 M hM
 refine⟨?_,⟨?_,?_,?_,?_,?_⟩,CF hF o1 (nm _ _ hF),CF hM o1 (nm _ _ hM),(har.below hb).only o1 (by rintro k rfl cs fr e;rw[hmV.box] at e;simp at e) (hms' _ _ _ (har.below hb)),hids,hfids,p1,p2,?_,fun k _ h=>h,fun k h=>.inl (hm.lows k h).2,⟨[],by simp⟩,rfl,.inl rfl,hown.lt,hne,hms,hBM⟩
 .refine hmV.setBox o1 ?_ (re hmV.row (fun e=>?_) _) hmV.ids rfl rfl
  .rw[Cf hmV.box];rfl
  .obtain⟨_,cs,fr,hh⟩:=hX hmV.row e;rw[hmV.box] at hh;simp at hh
 .rw[aY _ _ _ _ (show w.heap.size≠wb by omega)];exact k0
 .rw[aY _ _ _ _ (show w.heap.size+1≠wb by omega)];exact k1
 .rw[aY _ _ _ _ (show w.heap.size+1+1≠wb by omega)];exact k2
 .rw[aY _ _ _ _ (show w.heap.size+1+1+1≠wb by omega)];exact k3
 .rw[aY _ _ _ _ (show w.heap.size+1+1+1+1≠wb by omega)];exact k4
 .exact(cg.of_below hb).set (a:=⟨wb,3,none⟩) (.inr (.inl (.inl rfl))) _
theorem rN.below{w W W':World}{B wb fm M:Nat}{recs:List cz}{av:Value}{fe:bq}{b k:Nat}{s:ar}{x:Int}{A:Option Addr}{n c:Nat}{q:List Int}{pA:Option Addr}{pc a:Nat}{pa1:Option Addr}{M1:Nat}{out1:List bq}{ms1:List Nat}{st1:bo}{own1:bq}{recs1:List cz}{av1:Value}(h:rN w B wb fm M recs av fe b k s x A n c q pA pc a pa1 M1 out1 ms1 W st1 own1 recs1 av1)(hb:Below W.heap.size W W'):rN w B wb fm M recs av fe b k s x A n c q pA pc a pa1 M1 out1 ms1 W' st1 own1 recs1 av1:=
 ⟨h.mem.below hb,h.box.only (S:=fun _=>False) (cg.of_below hb) (fun _ h=>h.elim),h.fmap.below hb,h.omap.below hb,h.arnd.below hb,h.ids,h.fids,h.path.below hb,h.pathT.below hb,h.only.then_below hb,h.sub,h.far,h.ext,h.eb,h.farM,h.hM,h.ne,h.nms,h.low⟩
theorem Dt{W:World}{B wb fm M:Nat}{recs:List cz}{av:Value}{st:bo}{l:List (ar×Value)}(h:eP W B wb fm recs av st)(hM:ci W M l):∀k,(gp wb recs av k∨k=M)->∀cs T fr,W.heap[k]? =some (.cells cs T fr)->T=188∨T=139∨T=27∨T=137:=by
 rintro k (hk|rfl) cs T fr hh
 .obtain⟨cs',T',fr',hh',ht⟩:=h.types k hk;rw[hh] at hh';injection hh' with hh';injection hh' with h1 h2 h3;subst h2;exact ht
 .obtain⟨es,ck,hh'⟩:=Dx hM;rw[hh] at hh';simp at hh'
theorem Dh{W:World}{B wb fm:Nat}{recs:List cz}{av:Value}{st:bo}(h:eP W B wb fm recs av st){M:Nat}{l:List (ar×Value)}(hM:ci W M l):¬gp wb recs av M:=by intro hk;obtain⟨cs,T,fr,hh,_⟩:=h.types M hk;obtain⟨es,ck,hh'⟩:=Dx hM;rw[hh] at hh';simp at hh'
theorem rN.call{w W W2 W3:World}{B wb fm M:Nat}{recs:List cz}{av:Value}{fe:bq}{b k:Nat}{s:ar}{x:Int}{A:Option Addr}{n c:Nat}{q:List Int}{pA:Option Addr}{pc a:Nat}{pa1:Option Addr}{M1:Nat}{out1:List bq}{ms1:List Nat}{st1:bo}{own1:bq}{recs1:List cz}{av1:Value}(h:rN w B wb fm M recs av fe b k s x A n c q pA pc a pa1 M1 out1 ms1 W st1 own1 recs1 av1)(hW:W2=W)(hbs:b+5<=W.heap.size){o:bq}{st2:bo}{recs2:List cz}{av2:Value}(ho:cg (fun k=>gp wb recs1 av1 k∨k=M1) W W3)(hm:eP W3 B wb fm recs2 av2 st2)(hom:ci W3 M1 (fy (cn recs2) o))(hid:fv recs2.length o)(hext:∃l,cn recs2=cn recs1++l)(hsub:∀k,k<W.heap.size->gp wb recs2 av2 k->gp wb recs1 av1 k):rN w B wb fm M recs av fe b k s x A n c q pA pc a pa1 M1 out1 ms1 W3 st2 o recs2 av2:=by
 have hT:=Dt h.mem h.omap;have hN:Cc (fun k=>gp wb recs1 av1 k∨k=M1) W:=fun k hk cs fr e=>by rcases hT k hk _ _ _ e with h|h|h|h<;>exact absurd h (by decide)
 have hA:∀k,(gp wb recs1 av1 k∨k=M1)->∀cs fr,W.heap[k]? ≠some (.cells cs 225 fr):=fun k hk cs fr e=>by rcases hT k hk _ _ _ e with h|h|h|h<;>exact absurd h (by decide)
 obtain⟨l,hl⟩:=hext;have hlen:∀i,i<recs1.length->i<recs2.length:=fun i hi=>by have h1:=congrArg List.length hl;simp[cn] at h1;omega
 have hlen1:(cn recs1).length=recs1.length:=(by simp[cn]);have hsz:=ho.size;have hwl:=h.only.size;have ids1:∀m∈out1,fv recs2.length m:=fun m hm p hp=>hlen _ (h.ids m (List.mem_cons_of_mem _ hm) p hp);have hfm:=(CF h.fmap ho (by
  rintro(e|e)
  .exact Dh h.mem h.fmap e
  .exact h.ne e))
 have har:=h.arnd.only ho hA (fun M' hM'=>by
  rintro(e|e)
  .have:∀(out:List bq) (ms:List Nat) (v:Value),kc W (cn recs1) out ms v->∀M∈ms,∃l,ci W M l:=by
    intro out;induction out with
    |nil=>intro ms v h M hM;rw[h.1] at hM;cases hM
    |cons m out ih=>
     intro ms v h M hM;obtain⟨b',v',M2,ms',rfl,_,_,hm2,h2⟩:=h;rcases List.mem_cons.1 hM with rfl|hM
     .exact⟨_,hm2⟩
     .exact ih ms' v' h2 M hM
   obtain⟨l',hl'⟩:=this _ _ _ h.arnd M' hM';exact Dh h.mem hl' e
  .rw[e] at hM';exact h.nms hM')
 obtain⟨hp1,hp2⟩:=C8 h.path h.pathT ho hN;obtain⟨l0,hl0⟩:=h.ext;refine⟨hm,h.box.only ho (fun k hk=>?_),?_,hom,?_,?_,fun p hp=>hlen _ (h.fids p hp),hp1,hp2,?_,?_,?_,⟨l0++l,by rw[hl,hl0,List.append_assoc]⟩,h.eb,h.farM,h.hM,h.ne,h.nms,h.low⟩
 .rcases hk with hk|hk
  .exact h.far k hk
  .rcases h.farM with e|e
   .have:=h.hM;have:=h.eb;omega
   .omega
 .rw[hl,EF (by rw[hlen1];exact h.fids)];exact hfm
 .rw[hl];exact har.more (fun m hm=>by rw[hlen1];exact h.ids m (List.mem_cons_of_mem _ hm))
 .intro m hm;rcases List.mem_cons.1 hm with rfl|hm
  .exact hid
  .exact ids1 m hm
 .refine h.only.trans ho (fun k hk hS=>?_);rcases hS with hS|hS
  .exact .inl (h.sub k hk hS)
  .rcases h.farM with e|e
   .exact .inr (hS.trans e)
   .have:=h.eb;omega
 .intro k hk hS;exact h.sub k hk (hsub k (by omega) hS)
 .intro k hS;by_cases hk:k<W.heap.size
  .exact h.far k (hsub k hk hS)
  .right;omega
variable {P:Program} {md:Region.Mode} {ops:Array Oper} {Q:Exit->Act->World->Prop} {S:World->Prop} {fuel:Nat} {listed:Array Bool} {a:Act} {w:World}
theorem AX(i:Nat){oi:Oper}{v:Value}(hi:ops[i]? =some oi)(hs:Region.noSelect ops=true)(hf:Region.free md ops listed i=true)(hr:(Region.ready md ops listed).contains i=true)(hS:S w)(hw:Region.wanted oi (yielded ops a.tmps)=true)(hy:∀w,S w->(execOp a.eval oi).run P w= .ok (.value v) w)(h:wpAnyH P md ops (NoPanic Q) S fuel (listed.setIfInBounds i true) (a.put oi.dst v) w):wpAnyH P md ops (NoPanic Q) S (fuel+1) listed a w:=
 wpAnyH_take hi hs hf hr (fun _ _ _ h=>h) (Or.inl ⟨hw,hy⟩) hS h
theorem AG(i:Nat){oi:Oper}(hi:ops[i]? =some oi)(hs:Region.noSelect ops=true)(hf:Region.free md ops listed i=true)(hr:(Region.ready md ops listed).contains i=true)(hS:S w)(hw:Region.wanted oi (yielded ops a.tmps)=false)(h:wpAnyH P md ops (NoPanic Q) S fuel (listed.setIfInBounds i true) (a.put oi.dst undef) w):wpAnyH P md ops (NoPanic Q) S (fuel+1) listed a w:=
 wpAnyH_take hi hs hf hr (fun _ _ _ h=>h) (Or.inr ⟨hw,rfl⟩) hS h
theorem ae(i:Nat){oi:Oper}{v:Value}{a':Act}{l':Array Bool}(h:wpAnyH P md ops (NoPanic Q) S fuel l' a' w)(hi:ops[i]? =some oi:=by simp only[List.getElem?_toArray,List.getElem?_cons_succ,List.getElem?_cons_zero];rfl)(hs:Region.noSelect ops=true:=by kernel_rfl)(hf:Region.free md ops listed i=true:=by kernel_rfl)(hr:(Region.ready md ops listed).contains i=true:=by kernel_rfl)(hS:S w:=by assumption)(hw:Region.wanted oi (yielded ops a.tmps)=true:=by rfl)(hy:∀w,S w->(execOp a.eval oi).run P w= .ok (.value v) w:=by intro w hSw;(try dsimp only at hSw);go_simp;first|done|with_reducible rfl)(hp:a.put oi.dst v=a':=by(try simp only[Act.put,List.setIfInBounds_toArray,List.set_cons_zero,List.set_cons_succ]) <;>rfl)(hl:listed.setIfInBounds i true=l':=by(try simp only[Act.put,List.setIfInBounds_toArray,List.set_cons_zero,List.set_cons_succ]) <;>rfl):wpAnyH P md ops (NoPanic Q) S (fuel+1) listed a w:=by subst hp hl;exact AX i hi hs hf hr hS hw hy h
theorem az(i:Nat){oi:Oper}{a':Act}{l':Array Bool}(h:wpAnyH P md ops (NoPanic Q) S fuel l' a' w)(hi:ops[i]? =some oi:=by simp only[List.getElem?_toArray,List.getElem?_cons_succ,List.getElem?_cons_zero];rfl)(hs:Region.noSelect ops=true:=by kernel_rfl)(hf:Region.free md ops listed i=true:=by kernel_rfl)(hr:(Region.ready md ops listed).contains i=true:=by kernel_rfl)(hS:S w:=by assumption)(hw:Region.wanted oi (yielded ops a.tmps)=false:=by rfl)(hp:a.put oi.dst undef=a':=by(try simp only[Act.put,List.setIfInBounds_toArray,List.set_cons_zero,List.set_cons_succ]) <;>rfl)(hl:listed.setIfInBounds i true=l':=by(try simp only[Act.put,List.setIfInBounds_toArray,List.set_cons_zero,List.set_cons_succ]) <;>rfl):wpAnyH P md ops (NoPanic Q) S (fuel+1) listed a w:=by subst hp hl;exact AG i hi hs hf hr hS hw h
theorem aL{Q':Exit->Act->World->Prop}(i:Nat){oi:Oper}{l':Array Bool}(h:∀K':Act->World->Prop,Shut (∀a w,S w->(S w->wpAnyH P md ops Q' S fuel l' a w)->K' a w)->if Region.wanted oi (yielded ops a.tmps)=true then Oper.wp P oi a w K' Q' else K' (a.put oi.dst undef) w)(hi:ops[i]? =some oi:=by simp only[List.getElem?_toArray,List.getElem?_cons_succ,List.getElem?_cons_zero];rfl)(hr:Region.ready md ops listed=[i]:=by kernel_rfl)(hl:listed.setIfInBounds i true=l':=by(try simp only[Act.put,List.setIfInBounds_toArray,List.set_cons_zero,List.set_cons_succ]) <;>rfl):wpAnyH P md ops Q' S (fuel+1) listed a w:=by subst hl;exact wpAnyH_ready hr (by simp) (AllReadyH.cons hi h AllReadyH.nil)
theorem aM{Q':Exit->Act->World->Prop}{a':Act}{l':Array Bool}(h:wpAnyH P md ops Q' S fuel l' a' w)(hp:a=a':=by(try simp only[Act.put,List.setIfInBounds_toArray,List.set_cons_zero,List.set_cons_succ]) <;>rfl)(hl:listed=l':=by(try simp only[Act.put,List.setIfInBounds_toArray,List.set_cons_zero,List.set_cons_succ]) <;>rfl):wpAnyH P md ops Q' S fuel listed a w:=by subst hp hl;exact h
def C4(Kp:Nat->Prop)(m:Nat):Prop:=∀(k:Nat) (s:ar) (x:Int) (ks:List ag) (A:Option Addr) (n c:Nat) (w0 w:World) (B wb fm M:Nat) (recs:List cz) (av:Value) (st:bo) (fe own:bq) (out:List bq) (ms:List Nat) (pa:Option Addr) (q:List Int) (ql:Nat) (pA:Option Addr) (pc:Nat),ql=q.length->Kp k->
 (ag.node k s x ks).sz<=m->ce w0 ks A n c->k<=255->s.length<=281474976710656->ex 281474976710656 ks->(ag.node k s x ks).fnIn fe->Below w0.heap.size w0 w->w0.heap.size<=B->B<=w.heap.size->
 eP w B wb fm recs av st->ci w fm (fy (cn recs) fe)->ci w M (fy (cn recs) own)->kc w (cn recs) out ms (.pointer pa)->(∀m∈own::out,fv recs.length m)->fv recs.length fe->cc w q pA ql pc->bT w q pA->fm≠M->M∉ms->B<=M->
 q.length+(ag.node k s x ks).sz<=1000000->st.ev.length+(ag.node k s x ks).sz<=1000000->st.all.length+(ag.node k s x ks).sz<=1000000->st.at_+(ag.node k s x ks).sz<=1000000->(∀i,j8 st i<=1000000)->
 Calls Tryz.prog 162 #[.pointer (some ⟨wb,0,none⟩),.agg #[.pointer pa,.map (some M)],.agg #[.int .u8 k,.string (sb s),.int .i64 x,.slice A n c],.slice pA ql pc] w (Cs w B wb fm M recs av (da fe (.node k s x ks) out own q st))
def CJ(m:Nat):Prop:=C4 (fun _=>True) m
theorem fg{w:World}{B wb fm:Nat}{recs:List cz}{av:Value}{st:bo}(h:eP w B wb fm recs av st):w.cell? ⟨wb,0,none⟩=some (.pointer none)/\w.cell? ⟨wb,1,none⟩=some (.map (some fm))/\w.cell? ⟨wb,2,none⟩=some av/\w.cell? ⟨wb,3,none⟩=some (.int .i64 st.at_)/\w.cell? ⟨wb,4,none⟩=some C1/\w.frozen? ⟨wb,2,none⟩=false/\w.frozen? ⟨wb,3,none⟩=false:=by have h1:=fun j=>cell_of_row w wb j _ _ _ h.box;refine⟨by rw[h1];rfl,by rw[h1];rfl,by rw[h1];rfl,by rw[h1];rfl,by rw[h1];rfl,?_,?_⟩ <;>simp[World.frozen?,h.box]
def eN(Q:Exit->Act->World->Prop):Prop:=∀c a d v w,Q (.panic c) (Act.put a d v) w->Q (.panic c) a w
theorem eN.body{P:Program}{fn:Func}{R:Ending->World->Prop}:eN (bodyPost P fn R):=by rintro c a d v w ⟨h1,h2⟩;exact⟨by rw[<-h1];cases d<;>rfl,h2⟩
theorem eN.next{Q:Exit->Act->World->Prop}{K:Act->World->Prop}(h:eN Q):eN (Exit.then K Q):=fun c a d v w hq=>h c a d v w hq
theorem eN.block{Q:Exit->Act->World->Prop}{n:Nat}(h:eN Q):eN (Exit.inBlock n Q):=fun c a d v w hq=>h c a d v w hq
theorem cx{P:Program}{md:Region.Mode}{ops:Array Oper}{Q:Exit->Act->World->Prop}{S:World->Prop}{fuel:Nat}{listed:Array Bool}{a:Act}{w:World}(i:Nat){oi:Oper}{v:Value}{a':Act}{l':Array Bool}(h:wpAnyH P md ops Q S fuel l' a' w)(hQ:eN Q:=by first|assumption|(repeat (first|with_reducible exact eN.body|with_reducible apply eN.next|with_reducible apply eN.block)))(hi:ops[i]? =some oi:=by simp only[List.getElem?_toArray,List.getElem?_cons_succ,List.getElem?_cons_zero];rfl)(hs:Region.noSelect ops=true:=by kernel_rfl)(hf:Region.free md ops listed i=true:=by kernel_rfl)(hr:(Region.ready md ops listed).contains i=true:=by kernel_rfl)(hS:S w:=by assumption)(hw:Region.wanted oi (yielded ops a.tmps)=true:=by rfl)(hy:∀w,S w->(execOp a.eval oi).run P w= .ok (.value v) w:=by intro w hSw;(try dsimp only at hSw);go_simp;first|done|with_reducible rfl)(hp:a.put oi.dst v=a':=by(try simp only[Act.put,List.setIfInBounds_toArray,List.set_cons_zero,List.set_cons_succ]) <;>rfl)(hl:listed.setIfInBounds i true=l':=by(try simp only[Act.put,List.setIfInBounds_toArray,List.set_cons_zero,List.set_cons_succ]) <;>rfl):wpAnyH P md ops Q S (fuel+1) listed a w:=by subst hp hl;exact wpAnyH_take hi hs hf hr (fun c a w h=>hQ c a oi.dst v w h) (Or.inl ⟨hw,hy⟩) hS h
structure Cp (st:bo) (m:Nat):Prop where
 ev:st.ev.length+m<=1000000
 all:st.all.length+m<=1000000
 at_:st.at_+m<=1000000
 many:∀i,j8 st i<=1000000
def Cq(w:World)(B wb fm M:Nat)(recs:List cz)(av:Value)(fe:bq)(b:Nat)(k:Nat)(s:ar)(x:Int)(A:Option Addr)(n c:Nat)(q:List Int)(pA:Option Addr)(pc a:Nat)(pa1:Option Addr)(M1:Nat)(out1:List bq)(ms1:List Nat)(ks:List ag)(r:ix)(j:Nat)(wr:World):Prop:=
 ∃st1 o1 recs1 av1,rN w B wb fm M recs av fe b k s x A n c q pA pc a pa1 M1 out1 ms1 wr st1 o1 recs1 av1/\r=dq fe (ks.drop j) out1 o1 q j st1/\Cp st1 (ao (ks.drop j))/\b+5<=wr.heap.size
theorem Cp.kid{st st2:bo}{t:ag}{ts:List ag}(h:Cp st (ao (t::ts)))(hg:wM st st2 t.sz):Cp st2 (ao ts):=by have e:ao (t::ts)=t.sz+ao ts:=rfl;have h1:=h.ev;have h2:=h.all;have h3:=h.at_;have g1:=hg.ev;have g2:=hg.all;have g3:=hg.at_;exact⟨by omega,by omega,by omega,hg.many h.many⟩
theorem C7{fe:bq}:∀{ts:List ag},Cx fe ts->∀{i:Nat} {t:ag},ts[i]? =some t->t.fnIn fe
 |[],h,i,t,ht=>by simp at ht
 |u::ts,h,0,t,ht=>by simp at ht;subst ht;exact h.1
 |u::ts,h,i+1,t,ht=>C7 h.2 (by simpa using ht)
theorem j6{w w':World}{b g wb:Nat}{pa:Option Addr}{M:Nat}{pA:Option Addr}{ql pc:Nat}{v0 v1 v2 v3:Value}(h:w.cell? ⟨b,0,none⟩=some (.pointer (some ⟨wb,0,none⟩))/\w.cell? ⟨b+1,0,none⟩=some (.pointer pa)/\w.cell? ⟨b+1,1,none⟩=some (.map (some M))/\w.cell? ⟨b+1+1+1,0,none⟩=some (.slice pA ql pc)/\w.cell? ⟨g,0,none⟩=some v0/\w.cell? ⟨g,1,none⟩=some v1/\w.cell? ⟨g,2,none⟩=some v2/\w.cell? ⟨g,3,none⟩=some v3)(hb:Below w.heap.size w w'):w'.cell? ⟨b,0,none⟩=some (.pointer (some ⟨wb,0,none⟩))/\w'.cell? ⟨b+1,0,none⟩=some (.pointer pa)/\w'.cell? ⟨b+1,1,none⟩=some (.map (some M))/\w'.cell? ⟨b+1+1+1,0,none⟩=some (.slice pA ql pc)/\w'.cell? ⟨g,0,none⟩=some v0/\w'.cell? ⟨g,1,none⟩=some v1/\w'.cell? ⟨g,2,none⟩=some v2/\w'.cell? ⟨g,3,none⟩=some v3:=by obtain⟨h0,h1,h2,h3,h4,h5,h6,h7⟩:=h;exact⟨ac hb h0,ac hb h1,ac hb h2,ac hb h3,ac hb h4,ac hb h5,ac hb h6,ac hb h7⟩
theorem rN.apart{w W:World}{B wb fm M:Nat}{recs:List cz}{av:Value}{fe:bq}{b k:Nat}{s:ar}{x:Int}{A:Option Addr}{n c:Nat}{q:List Int}{pA:Option Addr}{pc a:Nat}{pa1:Option Addr}{M1:Nat}{out1:List bq}{ms1:List Nat}{st1:bo}{own1:bq}{recs1:List cz}{av1:Value}(h:rN w B wb fm M recs av fe b k s x A n c q pA pc a pa1 M1 out1 ms1 W st1 own1 recs1 av1)(hb:b+5<=W.heap.size):∀q,(gp wb recs1 av1 q∨q=M1)->(q<b∨b+5<=q)/\q≠W.heap.size:=by
 intro q hq;rcases hq with hq|hq
 .have:=(h.mem.lows q hq).2;exact⟨h.far q hq,by omega⟩
 .have:=h.omap.lt;refine⟨?_,by omega⟩;rcases h.farM with e|e
  .have:=h.hM;have:=h.eb;omega
  .omega
theorem rN.only_call{w W W2 W3:World}{B wb fm M:Nat}{recs:List cz}{av:Value}{fe:bq}{b k:Nat}{s:ar}{x:Int}{A:Option Addr}{n c:Nat}{q:List Int}{pA:Option Addr}{pc a:Nat}{pa1:Option Addr}{M1:Nat}{out1:List bq}{ms1:List Nat}{st1:bo}{own1:bq}{recs1:List cz}{av1:Value}(h:rN w B wb fm M recs av fe b k s x A n c q pA pc a pa1 M1 out1 ms1 W st1 own1 recs1 av1)(hb:Below W.heap.size W W2)(ho:cg (fun k=>gp wb recs1 av1 k∨k=M1) W2 W3):cg (fun k=>gp wb recs av k∨k=M) w W3:=by
 refine(h.only.then_below hb).trans ho fun k hk hS=>?_;rcases hS with hS|hS
 .exact .inl (h.sub k hk hS)
 .rcases h.farM with e|e
  .exact .inr (hS.trans e)
  .have:=h.eb;omega
theorem Dm{S:Nat->Prop}{w w':World}{b g wb:Nat}{pa:Option Addr}{M:Nat}{pA:Option Addr}{ql pc:Nat}{v0 v1 v2 v3:Value}(h:w.cell? ⟨b,0,none⟩=some (.pointer (some ⟨wb,0,none⟩))/\w.cell? ⟨b+1,0,none⟩=some (.pointer pa)/\w.cell? ⟨b+1,1,none⟩=some (.map (some M))/\w.cell? ⟨b+1+1+1,0,none⟩=some (.slice pA ql pc)/\w.cell? ⟨g,0,none⟩=some v0/\w.cell? ⟨g,1,none⟩=some v1/\w.cell? ⟨g,2,none⟩=some v2/\w.cell? ⟨g,3,none⟩=some v3)(ho:cg S w w')(hS:∀k,S k->(k<b∨b+5<=k)/\k≠g):w'.cell? ⟨b,0,none⟩=some (.pointer (some ⟨wb,0,none⟩))/\w'.cell? ⟨b+1,0,none⟩=some (.pointer pa)/\w'.cell? ⟨b+1,1,none⟩=some (.map (some M))/\w'.cell? ⟨b+1+1+1,0,none⟩=some (.slice pA ql pc)/\w'.cell? ⟨g,0,none⟩=some v0/\w'.cell? ⟨g,1,none⟩=some v1/\w'.cell? ⟨g,2,none⟩=some v2/\w'.cell? ⟨g,3,none⟩=some v3:=by
 have key:∀(a:Addr) (v:Value),w.cell? a=some v->((b<=a.block/\a.block<b+5)∨a.block=g)->w'.cell? a=some v:=fun a v h1 h2=>by rw[World.cell?_of_block (ho.keep a.block (bK h1) (fun hs=>by obtain⟨h3,h4⟩:=hS _ hs;rcases h2 with h2|h2;omega;exact h4 h2))];exact h1
 obtain⟨h0,h1,h2,h3,h4,h5,h6,h7⟩:=h;exact⟨key _ _ h0 (.inl ⟨ah _,by simp⟩),key _ _ h1 (.inl ⟨by simp,by simp⟩),key _ _ h2 (.inl ⟨by simp,by simp⟩),key _ _ h3 (.inl ⟨by simp;omega,by simp⟩),key _ _ h4 (.inr rfl),key _ _ h5 (.inr rfl),key _ _ h6 (.inr rfl),key _ _ h7 (.inr rfl)⟩
theorem Cj{ks:List ag}{j:Nat}{t:ag}(h:ks[j]? =some t):ks.drop j=t::ks.drop (j+1):=by obtain⟨h1,h2⟩:=gl.1 h;rw[List.drop_eq_getElem_cons h1,h2]
theorem Hr(m:Nat)(ih:Hid (CJ m)):C4 (fun k=>¬(k=2∨k=4∨k=5∨k=6∨k=22∨k=25)) (m+1):=by
 intro k s x ks A n c w0 w B wb fm M recs av st fe own out ms pa q ql pA pc hql hKp0 hsz hK hk hs hsh hfn hb0 hwB hBw hm hfe hown har hids hfids hp hpt hne hms hBM hq1 hq2 hq3 hq4 hmany;subst hql;have HKP:Hid (¬(k=2∨k=4∨k=5∨k=6∨k=22∨k=25)):=hKp0;clear hKp0;obtain⟨d0,d1,d2,d3,d4,f2,f3⟩:=fg hm;have hwl:=(aK.1 hm.box).1;have hbW:Below w.heap.size w ((((w.alloc (.cells #[.pointer (some ⟨wb,0,none⟩)] 181)).alloc (.cells #[.pointer pa,.map (some M)] 185)).alloc (.cells #[.int .u8 k,.string (sb s),.int .i64 x,.slice A n c] 25)).alloc (.cells #[.slice pA q.length pc] 27)):=((((ai _ _).alloc (ah _) _).alloc (by simp) _).alloc (by simp;omega) _).alloc (by simp;omega) _;have hm1:=hm.below hbW;have e3:=(fg hm1).2.2.2.1;have hm2:=hm1.below ((ai _ _).alloc (ah _) (.cells #[.int .i64 st.at_] 3));have e4:=(fg hm2).2.2.2.1;have g4:=(fg hm2).2.2.2.2.2.2;have HN:=ab (Dn k s x A n c hm hfe hown har hids hfids hp hpt hne hms hBM);have hsk:(ag.node k s x ks).sz=1+ao ks:=rfl;have HNL:Hid (n=ks.length):=hK.1;have hnn:n<=9223372036854775807:=(by have h1:=hK.2.1;have h2:=hK.2.2.1;unfold maxLen at h2;omega);have HM:=ab hm;have HK:=ab hK;have HB0:=ab hb0;have HWB:Hid (w0.heap.size<=w.heap.size):=aJ hwB hBw;have HWB2:=ab hwB;have HBM:=ab hBM;have HSH:=ab hsh;have HFI:Hid (Cx fe ks):=hfn.2;have HFU:Hid (k=2->∃i,bn fe s=some i):=hfn.1;have hfew0:Cp st.next (ao ks):=⟨by simp[bo.next];omega,by simp[bo.next];omega,by simp[bo.next];omega,hmany⟩;have HFW:=ab hfew0;have hWs:((((((w.alloc (.cells #[.pointer (some ⟨wb,0,none⟩)] 181)).alloc (.cells #[.pointer pa,.map (some M)] 185)).alloc (.cells #[.int .u8 k,.string (sb s),.int .i64 x,.slice A n c] 25)).alloc (.cells #[.slice pA q.length pc] 27)).alloc (.cells #[.int .i64 st.at_] 3)).setCell ⟨wb,3,none⟩ (.int .i64 (st.at_+1))).heap.size=w.heap.size+5:=(by simp);rw[hsk] at hq1 hq2 hq3 hq4 hsz;clear hm hK hb0 hwB hBM hsh hfn hfew0 hfe hown har hids hfids hp hpt hmany hm1 hm2 hbW;have hnil:∀w:World,(binOp BinOp.neq 1 .nilFunc .nilFunc).run Tryz.prog w= .ok (.bool false) w:=fun _=>by kernel_rfl
 go_in
 go_upto_if 25 with fail;generalize hWd:((((((w.alloc (.cells #[.pointer (some ⟨wb,0,none⟩)] 181)).alloc (.cells #[.pointer pa,.map (some M)] 185)).alloc (.cells #[.int .u8 k,.string (sb s),.int .i64 x,.slice A n c] 25)).alloc (.cells #[.slice pA q.length pc] 27)).alloc (.cells #[.int .i64 st.at_] 3)).setCell ⟨wb,3,none⟩ (.int .i64 (st.at_+1)))=W at*;clear hWd;obtain⟨c0,c10,c11,c20,c21,c22,c23,c30,c40,g10,g11⟩:=HN.out.box.cells;have hKp:¬(k=2∨k=4∨k=5∨k=6∨k=22∨k=25):=HKP.out;have t2:((k:Int) == 2)=false:=(by simp;omega);have t4:((k:Int) == 4)=false:=(by simp;omega);have t5:((k:Int) == 5)=false:=(by simp;omega);have t6:((k:Int) == 6)=false:=(by simp;omega);have t22:((k:Int) == 22)=false:=(by simp;omega);have t25:((k:Int) == 25)=false:=(by simp;omega);have HR:Hid (da fe (.node k s x ks) out own q st=dq fe ks out own q 0 st.next):=by show _=_;unfold da;rw[if_neg (by omega),if_neg (by omega),if_neg (by omega),if_neg (by omega),if_neg (by omega),if_neg (by omega)]
 clear hKp;generalize hr:da fe (.node k s x ks) out own q st=r at*;have HL0:Hid (Cq w B wb fm M recs av fe w.heap.size k s x A n c q pA pc st.at_ pa M out ms ks r 0 W):=⟨_,_,_,_,HN.out,HR.out,HFW.out,by omega⟩;clear hr;go_wp2_with fail;simp only[t2,t4,t5,t6,t22,t25];go_loopw [92] (fun i wr=>∃j:Nat,j<=n/\i= .int .i64 j/\Hid (Cq w B wb fm M recs av fe w.heap.size k s x A n c q pA pc st.at_ pa M out ms ks r j wr)) (fun i _=>n - (intOf i).toNat);case atStart=>exact⟨0,aE _,rfl,HL0.out⟩
 case round=>
  obtain⟨j,hj,rfl,HLR⟩:=hrel;obtain⟨st1,o1,recs1,av1,hN1,hr1,hf1,hb1⟩:=HLR.out;have hbw0:Below w0.heap.size w0 wr:=HB0.out.trans (hN1.only.below HWB.out (fun k hk=>by rcases hk with hk|rfl;exact aJ HWB2.out (HM.out.lows k hk).1;exact aJ HWB2.out HBM.out));have HBW0:=ab hbw0;by_cases hlt:j<n
  .obtain⟨b1,o,t,rfl,ht,hat⟩:=(HK.out.below hbw0).get hlt;obtain⟨B1,d1,q0,q1,q2,q3,hnode⟩:=hat.cells;obtain⟨B0,d0,q3',hkk⟩:∃B0 d0,wr.cell? ⟨b1,o+j*4+3,none⟩=some (.slice B0 t.kids.length d0)/\ce w0 t.kids B0 t.kids.length d0:=by obtain⟨b',o',t',e1,e2,hat0⟩:=HK.out.get hlt;injection e1 with e1;injection e1 with e1 e1';rw[ht] at e2;injection e2 with e2;subst e1 e1' e2;obtain⟨A',c',_,_,_,h3,hk,_⟩:=hat0.parts;exact⟨A',c',ac HBW0.out h3,hk⟩
   rw[q3] at q3';injection q3' with q3';injection q3' with q3' _ q3'';subst q3' q3'';have hkind:t.kind<=255:=(by obtain⟨ks',_,g0,_⟩:=hnode;exact g0);have HKK:=ab hkk;have HFN:=ab (C7 HFI.out ht);have HST:=ab (HSH.out.get ht);rw[Cj ht] at hr1 hf1;have hr2:r=oo (da fe t out o1 (q++[(j:Int)]) st1) fun o2 st2=>dq fe (ks.drop (j+1)) out o2 q (j+1) st2:=hr1;have hszt:t.sz+ao (ks.drop (j+1))<=ao ks:=by have h1:ao (ks.drop j)=t.sz+ao (ks.drop (j+1)):=(by rw[Cj ht];rfl);have h2:ao ks=ao (ks.take j)+ao (ks.drop j):=(by rw[<-o9,List.take_append_drop]);omega
   have hf1':=hf1.ev;have hf2':=hf1.all;have hf3':=hf1.at_;have e9:ao (t::ks.drop (j+1))=t.sz+ao (ks.drop (j+1)):=rfl;obtain⟨c0,c10,c11,c20,c21,c22,c23,c30,c40,g10,g11⟩:=hN1.box.cells;have HN1:=ab hN1;have HF1:=ab hf1;have HR2:=ab hr2;have hpA:pA=none->q=[]:=fun e=>by
    rcases HN1.out.path.2.2.2 with h|⟨_,_,h,_⟩
    .exact h
    .rw[e] at h;cases h
   have hpc:q.length<=pc:=HN1.out.path.2.1;have HNB:=ab hb1;clear hN1 hr1 hr2 hf1 hkk ht hat hnode hbw0 hb1;have hba:Below wr.heap.size wr (wr.alloc (.cells #[.int .u8 t.kind,.string (sb t.text),.int .i64 t.num,.slice B1 t.kids.length d1] 25)):=(ai _ _).alloc (ah _) _;have hbx:=di (heap_alloc_new wr (.cells #[.int .u8 t.kind,.string (sb t.text),.int .i64 t.num,.slice B1 t.kids.length d1] 25));have hk8:(wr.alloc (.cells #[.int .u8 t.kind,.string (sb t.text),.int .i64 t.num,.slice B1 t.kids.length d1] 25)).cell? ⟨w.heap.size,0,none⟩=some (.pointer (some ⟨wb,0,none⟩))/\_/\_/\_/\_/\_/\_/\_:=⟨ac hba c0,ac hba c10,ac hba c11,ac hba c30,hbx.c0,hbx.c1,hbx.c2,hbx.c3⟩;have hcall:∀(g cap:Nat) (W2:World),Below wr.heap.size wr W2->cc W2 (q++[(j:Int)]) (some ⟨g,0,none⟩) (q.length+1) cap->bT W2 (q++[(j:Int)]) (some ⟨g,0,none⟩)->Calls Tryz.prog 162 #[.pointer (some ⟨wb,0,none⟩),.agg #[.pointer pa,.map (some M)],.agg #[.int .u8 t.kind,.string (sb t.text),.int .i64 t.num,.slice B1 t.kids.length d1],.slice (some ⟨g,0,none⟩) (q.length+1) cap] W2 (Cs W2 B wb fm M recs1 av1 (da fe t out o1 (q++[(j:Int)]) st1)):=by intro g cap W2 hb2 hI2 hT2;have h2:=HN1.out.below hb2;have hkk2:=HKK.out;have hst2:=HST.out;have hfn2:=HFN.out;have hm1:=HF1.out.many;have hss:B<=W2.heap.size:=(by have h3:=hb2.size;have h4:=HN1.out.only.size;omega);obtain⟨k',s',x',ks'⟩:=t;exact ih.out k' s' x' ks' B1 _ d1 w0 W2 B wb fm M recs1 av1 st1 fe o1 out ms pa (q++[(j:Int)]) (q.length+1) (some ⟨g,0,none⟩) cap (by simp) trivial (by omega) hkk2 hkind hst2.1 hst2.2 hfn2 (HBW0.out.trans (hb2.mono HBW0.out.size)) HWB2.out hss h2.mem h2.fmap h2.omap h2.arnd h2.ids h2.fids hI2 hT2 h2.ne h2.nms h2.low (by simp;omega) (by omega) (by omega) (by omega) hm1
   go_upto_region 23 with fail;cases hres:da fe t out o1 (q++[(j:Int)]) st1 with
   |ok r2=>
    obtain⟨o2,st2⟩:=r2;rw[hres] at hcall;have HC:=ab hcall;have HRS:=ab hres;clear hres hcall;go_region_held3 (fun w'=>w'.cell? ⟨w.heap.size,0,none⟩=some (.pointer (some ⟨wb,0,none⟩))/\w'.cell? ⟨w.heap.size+1,0,none⟩=some (.pointer pa)/\w'.cell? ⟨w.heap.size+1,1,none⟩=some (.map (some M))/\w'.cell? ⟨w.heap.size+1+1+1,0,none⟩=some (.slice pA q.length pc)/\w'.cell? ⟨wr.heap.size,0,none⟩=some (.int .u8 t.kind)/\w'.cell? ⟨wr.heap.size,1,none⟩=some (.string (sb t.text))/\w'.cell? ⟨wr.heap.size,2,none⟩=some (.int .i64 t.num)/\w'.cell? ⟨wr.heap.size,3,none⟩=some (.slice B1 t.kids.length d1))
     (first|assumption|exact j6 ‹_› hap|exact Dm ‹_› ho3 hS8|exact j6 ‹_› ((ai _ _).alloc (ah _) _))
     (first
      |(refine Ct _ (by rfl) _ _ (by rfl) q pA pc (by rfl) (HN1.out.path.below (af hba bz)) _ 1 (j:Int) (by rfl) (heap_alloc_at (by simp)) (by omega) hpA ?_;intro g cap W2 hI2 hT2 hap)
      |(go_at_call 162;refine(HC.out g cap W2 (af hba (af bz hap)) hI2 hT2).mono ?_;rintro en w3 ⟨ho3,rfl,recs2,av2,hm3,hom3,hid3,hext3,hsub3⟩;have hS8:=HN1.out.apart HNB.out))
    have HN3:=ab ((HN1.out.below (af hba (af bz hap))).call rfl (by have h3:=(af hba (af bz hap):Below wr.heap.size wr W2).size;have h4:=HNB.out;omega) ho3 hm3 hom3 hid3 hext3 hsub3);have hs3:w.heap.size+5<=w3.heap.size:=(by have h3:=(af hba (af bz hap):Below wr.heap.size wr W2).size;have h4:=HNB.out;have h5:=ho3.size;omega);have HF3:=ab (HF1.out.kid (Dc fe t _ _ _ _ _ _ HRS.out));clear ho3 hm3 hom3 hid3 hext3 hsub3 hI2 hT2 hap;go_wp2;go_roundw;case rel=>exact⟨j+1,by omega,by go_num,_,_,_,_,HN3.out,by rw[HR2.out,HRS.out];rfl,HF3.out,hs3⟩
    case measure=>simp[intOf];omega
   |error er=>
    obtain⟨ee,ea⟩:=er;rw[hres] at hcall;have HC:=ab hcall;have HRS:=ab hres;clear hres hcall;rename_i Qx Kx ax;have hPF:eN (Exit.inBlock 2 (Exit.then Kx Qx)):=eN.block (eN.next (eN.next (eN.block (eN.next eN.body))));refine wp_region_held_drew (S:=fun w'=>w'.cell? ⟨w.heap.size,0,none⟩=some (.pointer (some ⟨wb,0,none⟩))/\w'.cell? ⟨w.heap.size+1,0,none⟩=some (.pointer pa)/\w'.cell? ⟨w.heap.size+1,1,none⟩=some (.map (some M))/\w'.cell? ⟨w.heap.size+1+1+1,0,none⟩=some (.slice pA q.length pc)/\w'.cell? ⟨wr.heap.size,0,none⟩=some (.int .u8 t.kind)/\w'.cell? ⟨wr.heap.size,1,none⟩=some (.string (sb t.text))/\w'.cell? ⟨wr.heap.size,2,none⟩=some (.int .i64 t.num)/\w'.cell? ⟨wr.heap.size,3,none⟩=some (.slice B1 t.kids.length d1)) (by kernel_rfl) (j6 hk8 (ua (ai _ _))) fun hH0=>?_;refine cx 0 ?_;refine cx 1 ?_;refine cx 2 ?_;refine cx 3 ?_;refine cx 4 ?_;refine cx 5 ?_;refine cx 6 ?_;refine cx 7 ?_;refine cx 8 ?_;refine cx 9 ?_;refine aL 10 fun K hK=>?_;go_simp;refine hK.out _ _ ?_ (fun hH1=>?_)
    .exact j6 hH0 ((ai _ _).alloc (ah _) _)
    clear hK K;refine aM ?_;refine aL 11 fun K hK=>?_;refine Ct _ (by rfl) _ _ (by rfl) q pA pc (by rfl) (HN1.out.path.below (af hba bz)) _ 1 (j:Int) (by rfl) (heap_alloc_at (by simp)) (by omega) hpA ?_;intro g cap W2 hI2 hT2 hap;refine hK.out _ _ ?_ (fun hH2=>?_)
    .exact j6 hH1 hap
    clear hK K;refine aM ?_;refine aL 12 fun K hK=>?_;go_simp;refine(HC.out g cap W2 (af hba (af bz hap)) hI2 hT2).mono ?_;rintro en w3 ⟨ho3,rfl⟩;go_wp2;refine⟨rfl,HN1.out.only_call (af hba (af bz hap)) ho3,?_⟩;rw[HR2.out,HRS.out];rfl
  .have hjn:j=n:=(by omega);subst hjn;have hdr:ks.drop j=[]:=List.drop_eq_nil_of_le (by have:=HNL.out;omega);rw[hdr] at hr1;have HR1:Hid (r= .ok (o1,st1)):=hr1;have HN1:=ab hN1;have HW1:=ab hb1;have HF1:=ab hf1;clear hN1 hr1 hf1 hdr hb1 hbw0;go_wp2_with fail
   go_end0
   rw[HR1.out];exact⟨HN1.out.only,rfl,recs1,av1,HN1.out.mem,HN1.out.omap,HN1.out.ids _ (List.mem_cons_self ..),HN1.out.ext,HN1.out.sub⟩
end Go.Proofs.YtfipahjodfminaaGreatDoor
