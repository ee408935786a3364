/- Part 8 of the proof. -/
import Derived.Lib.AppendZeros
import Derived.Test.YtckbdkgcoilmpaaGreatDoorMnG
namespace Go.Proofs.YtckbdkgcoilmpaaGreatDoor
open Go.RowKit
set_option linter.all false
set_option maxHeartbeats 40000000
set_option maxRecDepth 100000
theorem D3{ops:Array Oper}{o:Oper}{a:Act}{K:Act->World->Prop}{Q:Exit->Act->World->Prop}{E:Prop}(w:World)(hgd:o.guard=none)(s x:Operand)(t:TypeId)(ho:o.op= .call { callee:=.builtin .append,args:=#[s,x],argTypes:=#[t,t] })(base:Nat)(e:TypeId)(i:TypeInfo)(z:Value)(size bytes:Nat)(ht:Tryz.prog.underlying t=some (.slice e))(hi:Tryz.prog.info? e=some i)(hz:i.zero=some z)(hsize:i.size=size)(hby:i.bytes=bytes)(hzs:z.cells.size=size)(hsz:0<size)(v:Value)(n:Nat)(xs:List Value)(hs:a.eval s=v)(hown:w.ownsRow base e size v n xs)(ad:Addr)(m c:Nat)(news:List Value)(hx:a.eval x= .slice (some ad) m c)(hl:news.length=m*size)(hnews:∀j u,news[j]? =some u->w.cell? (ad.add j)=some u)(h1:∀u∈news,u.oneCell'=true)(hm:0<m)(h63:n+m<=maxLen)(hbytes:(n+m) *bytes<=140737488355328)(hbase:base<=w.heap.size)(h:∀v' w',w'.ownsRow base e size v' (n+m) (xs++news)->jY v v' n m w w'->K (a.put o.dst v') w'):if Region.wanted o (yielded ops a.tmps)=true then Oper.wp Tryz.prog o a w K Q else E:=by obtain⟨v',w',hr,h2,h3⟩:=Ao (P:=Tryz.prog) w base t o.type e i z size bytes ht hi hz hsize hby hzs hsz v n xs hown ad m c news hl hnews h1 hm h63 hbytes hbase;have hw:Region.wanted o (yielded ops a.tmps)=true:=(by simp[Region.wanted,hgd]);rw[if_pos hw];exact Lib.wp_append_run w s x t t ho _ _ hs hx _ _ hr (h v' w' h2 h3)
theorem Fi:(Tryz.prog.info? 27).map (fun i=>(i.zero,i.size,i.bytes))=some (some (.slice none 0 0),1,24):=by kernel_rfl
theorem Gn{w W4 W6:World}{b B:Nat}{uv v':Value}{n:Nat}{xs:List Value}{o:Obj}{x0 x1 x3:Value}(ho:W4.ownsRow B 27 1 uv n xs)(h4:W4.heap[b]? =w.heap[b]?)(hb:w.heap[b]? =some (.cells #[x0,x1,uv,x3] 89 (0,0)))(h:jY uv v' n 1 (W4.alloc o) W6):W6.heap[b]? =some (.cells #[x0,x1,uv,x3] 89 (0,0)):=by
 have hbx:=h4.trans hb;have hl:b<W4.heap.size:=(aK.1 hbx).1;have e:W6.heap[b]? =W4.heap[b]? :=by
  rcases h with ⟨g,cap,rfl,_,_,hh⟩|⟨cap,_,_,hh,_⟩
  .rw[hh.block b (by simp;omega) (fun e=>?_),heap_alloc_old _ _ hl];have e':b=g:=Option.some.inj e;obtain⟨_,cs,fr,h3⟩:=k8 ho (k:=g) rfl;rw[<-e',hbx] at h3;simp at h3
  .rw[hh.block b (by simp;omega) (fun e=>by cases e),heap_alloc_old _ _ hl]
 rw[e];exact hbx
theorem Ek{n:Nat}{s:ar}{i:Nat}:∀{e:List bq},mb e s=some i->(∀m∈e,k7 n m)->i<n
 |[],h,_=>by cases h
 |m::e,h,hI=>by
  rw[mb.eq_2] at h;cases hl:eg m s with
  |none=>rw[hl] at h;exact Ek h fun m hm=>hI m (List.mem_cons_of_mem _ hm)
  |some j=>
   rw[hl] at h;cases h
   have:∀(m:bq),eg m s=some i->∃e∈m,e.2=i:=by
    intro m;induction m with
    |nil=>intro h;cases h
    |cons x m ih=>
     intro h;obtain⟨y,k⟩:=x;unfold eg at h;split at h
     .cases h;exact⟨_,List.mem_cons_self ..,rfl⟩
     .obtain⟨e,he,h2⟩:=ih h;exact⟨e,List.mem_cons_of_mem _ he,h2⟩
   obtain⟨e,he,h2⟩:=this m hl;have:=hI m (List.mem_cons_self ..) e he;omega
theorem Gx{recs:List cz}{i:Nat}{r:cz}(h:recs[i]? =some r):lc (cn recs) i=r.adr:=by unfold lc cn;rw[List.getD_eq_getElem?_getD,List.getElem?_map,h];rfl
def Dg(w:World)(B wb fm:Nat)(recs:List cz)(av:Value)(r:Except (Nat×Nat) bo)(en:Ending)(w':World):Prop:=
 cg (gp wb recs av) w w'/\match r with
  | .error (e,a)=>en= .panicked [{ v:=Do e a,recovered:=false }]
  | .ok st'=>en= .returned (.tuple #[])/\∃recs',eP w' B wb fm recs' av st'/\cn recs'=cn recs/\∀k,k<w.heap.size->gp wb recs' av k->gp wb recs av k
theorem Gi{w wf W6:World}{B wb fm:Nat}{recs:List cz}{av:Value}{st:bo}{i:Nat}{r:cz}{q:List Int}{gA:Option Addr}{gc:Nat}{v':Value}(h:eP w B wb fm recs av st)(hr:recs[i]? =some r)(hb:Below w.heap.size w wf)(hq:wf.ownsRow w.heap.size 3 1 (.slice gA q.length gc) q.length (q.map (Value.int .i64)))(hown:W6.ownsRow B 27 1 v' (r.us.length+1) (r.us++[.slice gA q.length gc]))(hway:jY r.uv v' r.us.length 1 (wf.alloc (.cells #[.slice gA q.length gc] 27)) W6):cg (gp wb recs av) w (W6.setCell ⟨r.adr,2,none⟩ v')/\∃recs',eP (W6.setCell ⟨r.adr,2,none⟩ v') B wb fm recs' av ⟨st.bs,st.ev++[(q,i)],st.all,st.at_⟩/\cn recs'=cn recs/\∀k,k<w.heap.size->gp wb recs' av k->gp wb recs av k:=by
 have hil:i<recs.length:=(gl.1 hr).1;have hm:r∈recs:=List.mem_iff_getElem?.2 ⟨i,hr⟩;obtain⟨p0,us0,ep0,hR⟩:=h.recA i r hr;have hrl:=(aK.1 hR.box).1;have hs:=hb.size;have hgr:(wf.alloc (.cells #[.slice gA q.length gc] 27)).grownBy W6 r.uv.ownBlock∨(wf.alloc (.cells #[.slice gA q.length gc] 27)).grownBy W6 none:=by
  rcases hway with ⟨g,cap,e,_,e',hh⟩|⟨cap,e,_,hh,_⟩
  .rw[e];exact .inl hh
  .exact .inr hh
 have hub:∀k,v'.ownBlock=some k->r.uv.ownBlock=some k∨w.heap.size<=k:=by
  intro k hk;rcases hway with ⟨g,cap,e,_,e',_⟩|⟨cap,e,_⟩
  .rw[e];rw[e'] at hk;exact .inl hk
  .rw[e] at hk;have e2:wf.heap.size+1=k:=by have:=Option.some.inj hk;simpa using this
   right;omega
 have hav:∀k,r.uv.ownBlock=some k->k<w.heap.size/\k≠r.adr:=fun k hk=>by refine⟨(h.lows k (.inr (.inl ⟨r,hm,.inr hk⟩))).2,fun e=>?_⟩;obtain⟨_,cs,fr,hh⟩:=k8 hR.row hk;rw[e,hR.box] at hh;simp at hh
 have o1:cg (fun k=>k=r.adr∨r.uv.ownBlock=some k) w (wf.alloc (.cells #[.slice gA q.length gc] 27)):=(cg.of_below hb).alloc _;have o2:cg (fun k=>k=r.adr∨r.uv.ownBlock=some k) w W6:=by
  rcases hgr with hh|hh
  .exact o1.grown hh (fun k hk=>.inr (.inr hk))
  .exact o1.grown hh (fun k hk=>by cases hk)
 have o3:=o2.set (a:=⟨r.adr,2,none⟩) (.inr (.inl rfl)) v';have CL:∀k,k<wf.heap.size->r.uv.ownBlock≠some k->W6.heap[k]? =wf.heap[k]? :=fun k hk hne=>by
  rcases hgr with hh|hh
  .rw[hh.block k (by simp;omega) (fun e=>hne e.symm),heap_alloc_old _ _ hk]
  .rw[hh.block k (by simp;omega) (fun e=>by cases e),heap_alloc_old _ _ hk]
 have b4:W6.heap[r.adr]? =w.heap[r.adr]? :=(by rw[CL _ (by omega) (fun e=>(hav _ e).2 rfl),hb.block _ hrl]);have hbox':(W6.setCell ⟨r.adr,2,none⟩ v').heap[r.adr]? =some (.cells #[r.pv,.string (sb (hG st i)),v',.int .i64 (j8 st i)] 89 (0,0)):=by rw[Cf (b4.trans hR.box)];rfl
 have hrow':(W6.setCell ⟨r.adr,2,none⟩ v').ownsRow B 27 1 v' (r.us.length+1) (r.us++[.slice gA q.length gc]):=by
  refine re hown (fun e=>?_) _;rcases hub _ e with h1|h1
  .exact(hav _ h1).2 rfl
  .have h2:w.heap.size<=r.adr:=h1;omega
 have hp':Cd (W6.setCell ⟨r.adr,2,none⟩ v') q (.slice gA q.length gc):=by
  have hr':(W6.setCell ⟨r.adr,2,none⟩ v').ownsRow w.heap.size 3 1 (.slice gA q.length gc) q.length (q.map (Value.int .i64)):=by obtain⟨r1,r2⟩:=hq;refine⟨r1,r2.imp id ?_⟩;rintro⟨g,cap,cur,e1,e2,e3,e4⟩;refine⟨g,cap,cur,e1,e2,?_,e4⟩;rw[aY _ _ _ _ (show g≠r.adr by omega),CL g (aK.1 e3).1 (fun e=>by have:=(hav _ e).1;omega),e3]
  obtain⟨A,c,e,hi⟩:=cc.own hr';injection e with e1 e2 e3;subst e1 e3;exact⟨_,_,rfl,hi,bT.own hr' rfl⟩
 have hN:=h.use hr o3 hbox' hrow' hp' hub;refine⟨o3.mono (fun k _ hk=>?_),_,hN,?_,?_⟩
 .rcases hk with hk|hk
  .exact .inr (.inl ⟨r,hm,.inl hk⟩)
  .exact .inr (.inl ⟨r,hm,.inr hk⟩)
 .unfold cn;refine List.ext_getElem? fun j=>?_;rw[List.getElem?_map,List.getElem?_map,List.getElem?_set];split
  .rename_i hij;subst hij;rw[hr];rfl
  .rfl
 .intro k hk hS;rcases hS with hS|⟨r',hr',hS⟩|hS
  .exact .inl hS
  .rcases List.mem_or_eq_of_mem_set hr' with h1|h1
   .exact .inr (.inl ⟨r',h1,hS⟩)
   .subst h1;rcases hS with hS|hS
    .exact .inr (.inl ⟨r,hm,.inl hS⟩)
    .rcases hub k hS with h2|h2
     .exact .inr (.inl ⟨r,hm,.inr h2⟩)
     .omega
  .exact .inr (.inr hS)
theorem FL(B wb fm M:Nat)(recs:List cz)(av:Value)(st:bo)(own:bq)(out:List bq)(ms:List Nat)(v:Value)(k:Nat)(s:ar)(x:Int)(A:Option Addr)(n c:Nat)(q:List Int)(pA:Option Addr)(pc a:Nat)(w:World)(h:eP w B wb fm recs av st)(hM:gm w M (k6 (cn recs) own))(hA:wo w (cn recs) out ms v)(hI:∀m∈own::out,k7 recs.length m)(hp:cc w q pA q.length pc)(hB:B<=w.heap.size)(hq:q.length<=1000000)(hfew:st.ev.length<=1000000)(hn:n<=1000000000)(hmany:∀i,j8 st i<=1000000000):Calls Tryz.prog 138 #[.pointer (some ⟨wb,0,none⟩),.agg #[v,.map (some M)],.agg #[.int .u8 k,.string (sb s),.int .i64 x,.slice A n c],.slice pA q.length pc,.int .i64 a] w (Dg w B wb fm recs av (hY (own::out) (decide (k=25)) n s q a st)):=by
 have hb0:Below w.heap.size w ((w.alloc (.cells #[v,.map (some M)] 136)).alloc (.cells #[.int .u8 k,.string (sb s),.int .i64 x,.slice A n c] 25)):=((ai _ _).alloc (ah _) _).alloc (by simp) _;have H:=aa h;have HM:=aa hM;have HA:=aa hA;have HI:=aa hI;have HP:=aa hp;have HB0:=aa hb0;have HMN:=aa hmany;clear h hM hA hI hp hb0 hmany;have hv:∃pa,v= .pointer pa:=by
  cases out with
  |nil=>exact⟨none,HA.out.2⟩
  |cons m out=>obtain⟨b,v',M',ms',_,e,_⟩:=HA.out;exact⟨_,e⟩
 obtain⟨pa,rfl⟩:=hv
 go_in
 go_wp2_with fail;refine(Id (cn recs) s out own ms _ M _ (HA.out.below HB0.out) (HM.out.below HB0.out)).mono ?_;rintro en w1 ⟨rfl,hb1⟩;have HB1:=aa (af HB0.out hb1);have bx:w1.heap[w.heap.size+1]? =some (.cells #[.int .u8 k,.string (sb s),.int .i64 x,.slice A n c] 25 (0,0)):=(hb1.block _ (by simp)).trans (aQ (by simp));have c0:=(di bx).c0;have c3:=(di bx).c3;have HBX:=aa bx;clear bx hb1;cases hl:mb (own::out) s with
 |none=>have HR:Hid (hY (own::out) (decide (k=25)) n s q a st= .error (111,a)):=(by show _=_;unfold hY;rw[hl]);simp only[CK];go_wp2_with fail;refine(DY 111 a wb _ (by rw[cell_of_row _ wb 4 _ _ _ ((HB1.out.block _ (aK.1 H.out.box).1).trans H.out.box)];rfl)).mono ?_;rintro en w2 ⟨rfl,hb2⟩;go_wp2;refine⟨rfl,cg.of_below (af HB1.out hb2),?_⟩;rw[HR.out];rfl
 |some i=>
  simp only[CK,i7];have hil:=Ek hl HI.out;obtain⟨r,hr⟩:∃r,recs[i]? =some r:=⟨_,br hil⟩;obtain⟨p0,us0,ep0,hR⟩:=H.out.recA i r hr;obtain⟨uA,uC,hu,_,_⟩:=t9 hR.row;rw[Gx hr];have rbx:w1.heap[r.adr]? =some (.cells #[r.pv,.string (sb (hG st i)),.slice uA r.us.length uC,.int .i64 (j8 st i)] 89 (0,0)):=by rw[<-hu];exact(HB1.out.block _ (aK.1 hR.box).1).trans hR.box
  have cu:w1.cell? ⟨r.adr,2,none⟩=some (.slice uA r.us.length uC):=(by rw[cell_of_row w1 r.adr 2 _ _ _ rbx];rfl);have cm:w1.cell? ⟨r.adr,3,none⟩=some (.int .i64 (j8 st i)):=(by rw[cell_of_row w1 r.adr 3 _ _ _ rbx];rfl);have hmi:=HMN.out i;have hrw:w.ownsRow B 27 1 (.slice uA r.us.length uC) r.us.length r.us:=(by rw[<-hu];exact hR.row);have husl:r.us.length<=1000000:=by have h1:=hR.uses.1;have h2:(ln st i).length<=st.ev.length:=(by unfold ln;rw[ny];exact List.length_filter_le _ _);rw[ep0] at h2;simp at h2;omega
  have HRW:=aa hrw;have HRX:=aa rbx;have HRR:=aa hr;have HU:=aa hu;have hral:r.adr<w1.heap.size:=(aK.1 rbx).1;clear hr hR hu hrw rbx ep0;generalize hmo:j8 st i=mo at*;by_cases hk:k=25
  .subst hk;by_cases hm:mo=n
   .subst hm;have HR:Hid (hY (own::out) true mo s q a st= .ok ⟨st.bs,st.ev++[(q,i)],st.all,st.at_⟩):=(by show _=_;unfold hY;rw[hl];simp;exact hmo);clear hl;obtain⟨i0,hi,hz0,hz1,hz2⟩:=info_parts Fi;have hql:q.length<=17592186044416:=(by omega);go_upto_region 5 with fail
    go_quiet (fail)
    go_upto_region 2 with fail;go_region_law (first
     |(refine D3 _ (by rfl) _ _ 52 (by rfl) B 27 i0 _ 1 24 Tryz.underlying52 hi hz0 hz1 hz2 rfl (by decide) (.slice uA r.us.length uC) r.us.length r.us (by rfl) (bM HRW.out (af HB1.out (af bz (hb2.alloc hb2.size _))) (ah _)) ⟨w2.heap.size,0,none⟩ 1 1 [.slice gA q.length gc] (by rfl) rfl (DA (heap_alloc_new _ _)) (by simp[Value.oneCell']) (by omega) (by unfold maxLen;omega) (by omega) (by have h1:=hb2.size;have h2:=HB1.out.size;simp at h1 ⊢;omega) ?_;intro v' W6 hown hway;obtain⟨vg,vc,hv',_⟩:=hway.form;subst hv';have hx6:W6.heap[r.adr]? =some (.cells #[r.pv,.string (sb (hG st i)),.slice uA r.us.length uC,.int .i64 mo] 89 (0,0)):=Gn (bM HRW.out (af HB1.out (af bz hb2)) (ah _)) ((af bz hb2).block _ hral) HRX.out hway;have e2:W6.cell? ⟨r.adr,2,none⟩=some (.slice uA r.us.length uC):=(by rw[cell_of_row W6 r.adr 2 _ _ _ hx6];rfl);have e3:W6.frozen? ⟨r.adr,2,none⟩=false:=(by simp[World.frozen?,hx6]))
     |(go_simp;go_at_call 75;refine(gV q pA _ pc _ (HP.out.below (af HB1.out bz)) hql).mono ?_;rintro en w2 ⟨gA,gc,rfl,ho2,hb2⟩;have hc2:w2.cell? ⟨r.adr,2,none⟩=some (.slice uA r.us.length uC):=ac (af bz hb2) cu;have hc3:=fun o=>(World.cell?_alloc_lt w2 o ⟨r.adr,2,none⟩ (fJ hral (af bz hb2:Below w1.heap.size w1 w2).size)).trans hc2))
    all_goals
     go_wp2_with fail
     go_end0
     show Dg w B wb fm recs av (hY (own::out) true mo s q a st) _ _;rw[HR.out];obtain⟨d1,d2⟩:=Gi H.out HRR.out (af HB1.out (af bz hb2)) (dk ho2 (by have h2:=HB1.out.size;simp;omega)) hown (by rw[HU.out];exact hway);exact⟨d1,rfl,d2⟩
   .have HR:Hid (hY (own::out) true n s q a st= .error (112,a)):=(by show _=_;unfold hY;rw[hl];simp;omega);clear hl;have hne:((mo:Int) != (n:Int))=true:=(by simp;omega);go_upto_region 5 with fail
    go_quiet (fail)
    go_wp2_with fail;refine(DY 112 a wb _ (by rw[World.cell?_drewN,cell_of_row _ wb 4 _ _ _ ((HB1.out.block _ (aK.1 H.out.box).1).trans H.out.box)];rfl)).mono ?_;rintro en w2 ⟨rfl,hb2⟩;go_wp2;refine⟨rfl,cg.of_below (af HB1.out (af (CN (ai _ _) _) hb2)),?_⟩;rw[HR.out];rfl
  .have hk2:((k:Int) == 25)=false:=(by simp;omega);have HR:Hid (hY (own::out) (decide (k=25)) n s q a st= .ok ⟨st.bs,st.ev++[(q,i)],st.all,st.at_⟩):=(by show _=_;unfold hY;rw[hl];simp[hk]);clear hl;obtain⟨i0,hi,hz0,hz1,hz2⟩:=info_parts Fi;have hql:q.length<=17592186044416:=(by omega);go_upto_region 5 with fail
   go_quiet (fail)
   go_upto_region 2 with fail;go_region_law (first
    |(refine D3 _ (by rfl) _ _ 52 (by rfl) B 27 i0 _ 1 24 Tryz.underlying52 hi hz0 hz1 hz2 rfl (by decide) (.slice uA r.us.length uC) r.us.length r.us (by rfl) (bM HRW.out (af HB1.out (af bz (hb2.alloc hb2.size _))) (ah _)) ⟨w2.heap.size,0,none⟩ 1 1 [.slice gA q.length gc] (by rfl) rfl (DA (heap_alloc_new _ _)) (by simp[Value.oneCell']) (by omega) (by unfold maxLen;omega) (by omega) (by have h1:=hb2.size;have h2:=HB1.out.size;simp at h1 ⊢;omega) ?_;intro v' W6 hown hway;obtain⟨vg,vc,hv',_⟩:=hway.form;subst hv';have hx6:W6.heap[r.adr]? =some (.cells #[r.pv,.string (sb (hG st i)),.slice uA r.us.length uC,.int .i64 mo] 89 (0,0)):=Gn (bM HRW.out (af HB1.out (af bz hb2)) (ah _)) ((af bz hb2).block _ hral) HRX.out hway;have e2:W6.cell? ⟨r.adr,2,none⟩=some (.slice uA r.us.length uC):=(by rw[cell_of_row W6 r.adr 2 _ _ _ hx6];rfl);have e3:W6.frozen? ⟨r.adr,2,none⟩=false:=(by simp[World.frozen?,hx6]))
    |(go_simp;go_at_call 75;refine(gV q pA _ pc _ (HP.out.below (af HB1.out bz)) hql).mono ?_;rintro en w2 ⟨gA,gc,rfl,ho2,hb2⟩;have hc2:w2.cell? ⟨r.adr,2,none⟩=some (.slice uA r.us.length uC):=ac (af bz hb2) cu;have hc3:=fun o=>(World.cell?_alloc_lt w2 o ⟨r.adr,2,none⟩ (fJ hral (af bz hb2:Below w1.heap.size w1 w2).size)).trans hc2))
   all_goals
    go_wp2_with fail
    go_end0
    show Dg w B wb fm recs av (hY (own::out) (decide (k=25)) n s q a st) _ _;rw[HR.out];obtain⟨d1,d2⟩:=Gi H.out HRR.out (af HB1.out (af bz hb2)) (dk ho2 (by have h2:=HB1.out.size;simp;omega)) hown (by rw[HU.out];exact hway);exact⟨d1,rfl,d2⟩
structure wM (st st':bo) (m:Nat):Prop where
 ev:st'.ev.length<=st.ev.length+m
 all:st'.all.length<=st.all.length+m
 at_:st'.at_=st.at_+m
 bs:∃l,st'.bs=st.bs++l/\∀p∈l,p.2=0
theorem wM.refl(st:bo):wM st st 0:=⟨by omega,by omega,by omega,[],by simp,by simp⟩
theorem wM.trans{st st1 st':bo}{m m':Nat}(h:wM st st1 m)(h':wM st1 st' m'):wM st st' (m+m'):=by
 obtain⟨l,e,hl⟩:=h.bs;obtain⟨l',e',hl'⟩:=h'.bs;have h1:=h.ev;have h2:=h'.ev;have h3:=h.all;have h4:=h'.all;have h5:=h.at_;have h6:=h'.at_;refine⟨by omega,by omega,by omega,l++l',by rw[e',e,List.append_assoc],fun p hp=>?_⟩;rcases List.mem_append.1 hp with hp|hp
 .exact hl p hp
 .exact hl' p hp
theorem wM.many{st st':bo}{m:Nat}(h:wM st st' m){b:Nat}(hb:∀i,j8 st i<=b):∀i,j8 st' i<=b:=by
 intro i;obtain⟨l,e,hl⟩:=h.bs;have:=hb i;unfold j8 at this ⊢;rw[e];by_cases hi:i<st.bs.length
 .rw[cM hi];exact this
 .rw[eK (by omega)];cases hx:l[i - st.bs.length]? with
  |none=>simp
  |some p=>simp only[Option.map_some,Option.getD_some];rw[hl p (List.mem_iff_getElem?.2 ⟨_,hx⟩)];omega
theorem wM.one{st st':bo}(h1:st'.ev.length<=st.ev.length+1)(h2:st'.all.length<=st.all.length+1)(h3:st'.at_=st.at_+1)(h4:∃l,st'.bs=st.bs++l/\∀p∈l,p.2=0):wM st st' 1:=⟨h1,h2,h3,h4⟩
mutual
theorem Dc (fe:bq):∀(t:ag) (out:List bq) (own:bq) (q:List Int) (st:bo) (o:bq) (st':bo),da fe t out own q st= .ok (o,st')->wM st st' t.sz
 | .node k s x ks,out,own,q,st,o,st',h=>by
  have e0:(ag.node k s x ks).sz=1+ao ks:=rfl;unfold da at h;split at h
  .obtain⟨o1,h1,_⟩:=Cy h;exact(wM.one (st':=st.next.func ((eg fe s).getD 0)) (by simp[bo.next,bo.func]) (by simp[bo.next,bo.func]) rfl ⟨[],by simp[bo.next,bo.func],by simp⟩).trans (CS fe ks _ _ _ _ _ _ _ h1)
  split at h
  .obtain⟨o1,st1,h1,h2⟩:=i9 h;obtain⟨_,_,rfl⟩:=ve h1;exact(wM.one (by simp[bo.next]) (by simp[bo.next]) rfl ⟨[(s,0)],by simp[bo.next],by simp⟩).trans (CS fe ks _ _ _ _ _ _ _ h2)
  split at h
  .obtain⟨o1,h1,_⟩:=Cy h;exact(wM.one (st':=st.next) (by simp[bo.next]) (by simp[bo.next]) rfl ⟨[],by simp[bo.next],by simp⟩).trans (CS fe ks _ _ _ _ _ _ _ h1)
  split at h
  .split at h
   .cases h
   .obtain⟨o1,st1,h1,h2⟩:=i9 h;obtain⟨_,_,rfl⟩:=ve h2;have g:=CS fe ks _ _ _ _ _ _ _ h1;obtain⟨l,e,hl⟩:=g.bs;have g1:=g.ev;have g2:=g.all;have g3:=g.at_;refine⟨?_,?_,?_,l++[(s,0)],?_,?_⟩
    .simp[bo.next] at g1 ⊢;omega
    .simp[bo.next] at g2 ⊢;omega
    .simp[bo.next] at g3 ⊢;omega
    .simp only[e];simp[bo.next]
    .intro p hp;rcases List.mem_append.1 hp with hp|hp
     .exact hl p hp
     .obtain rfl:=List.mem_singleton.1 hp;rfl
  split at h
  .obtain⟨st1,h1,h2⟩:=CG h;obtain⟨i,_,_,rfl⟩:=CC h1;exact(wM.one (by simp[bo.next]) (by simp[bo.next]) rfl ⟨[],by simp[bo.next],by simp⟩).trans (CS fe ks _ _ _ _ _ _ _ h2)
  split at h
  .obtain⟨st1,h1,h2⟩:=CG h;obtain⟨i,_,_,rfl⟩:=CC h1;exact(wM.one (by simp[bo.next]) (by simp[bo.next]) rfl ⟨[],by simp[bo.next],by simp⟩).trans (CS fe ks _ _ _ _ _ _ _ h2)
  .exact(wM.one (st':=st.next) (by simp[bo.next]) (by simp[bo.next]) rfl ⟨[],by simp[bo.next],by simp⟩).trans (CS fe ks _ _ _ _ _ _ _ h)
theorem CS (fe:bq):∀(ts:List ag) (out:List bq) (own:bq) (q:List Int) (j:Nat) (st:bo) (o:bq) (st':bo),dq fe ts out own q j st= .ok (o,st')->wM st st' (ao ts)
 |[],out,own,q,j,st,o,st',h=>by
  unfold dq at h;cases h
  exact wM.refl _
 |t::ts,out,own,q,j,st,o,st',h=>by unfold dq at h;obtain⟨o1,st1,h1,h2⟩:=i9 h;exact(Dc fe t _ _ _ _ _ _ h1).trans (CS fe ts _ _ _ _ _ _ _ h2)
end
mutual
def ag.fnIn (fe:bq):ag->Prop
 | .node k s _ ks=>(k=2->∃i,eg fe s=some i)/\Cx fe ks
def Cx (fe:bq):List ag->Prop
 |[]=>True
 |t::ts=>t.fnIn fe/\Cx fe ts
end
structure eQ (B b:Nat) (w:World) (v:Value) (ss:List ar) (c:Bool):Prop where
 str:eG B b 9 w v ss
 cell:w.cell? ⟨b,11,none⟩=some (.bool c)
 soft:w.frozen? ⟨b,11,none⟩=false
def iH(k:Nat):Bool:=k == 2 || k == 4 || k == 6
def gD(k:Nat)(s:ByteArray)(ss:List ar):List ar:=if iH k then ss++[bl s] else ss
def iI(k:Nat)(c:Bool):Bool:=c || k == 25
def gd(b:Nat)(w w':World):Prop:=∀j v,j≠9->j≠11->w.cell? ⟨b,j,none⟩=some v->w'.cell? ⟨b,j,none⟩=some v/\w'.frozen? ⟨b,j,none⟩=w.frozen? ⟨b,j,none⟩
def lV(B b:Nat)(v:Value)(ss:List ar)(c:Bool)(w:World)(e:Ending)(w':World):Prop:=e= .returned (.tuple #[])/\∃v',eQ B b w' v' ss c/\fI b v w w'/\Below b w w'/\gd b w w'
theorem mr(w:World)(a p:Addr)(v:Value):(w.setCell p v).frozen? a=w.frozen? a:=by
 simp only[World.frozen?,World.setCell,Array.getElem?_modify];by_cases h:p.block=a.block
 .simp only[h,if_true];cases w.heap[a.block]? with
  |none=>rfl
  |some o=>cases o<;>rfl
 .simp[h]
theorem Bt{ops:Array Oper}{rest:List Oper}{o:Oper}{a:Act}{Q:Exit->Act->World->Prop}(w:World)(hgd:o.guard=none)(s x:Operand)(ho:o.op= .call { callee:=.builtin .append,args:=#[s,x],argTypes:=#[69,69] })(base:Nat)(v:Value)(ss:List ar)(hs:a.eval s=v)(hown:w.ownsRow base 9 1 v ss.length (bj ss))(Bk c:Nat)(t:ar)(hx:a.eval x= .slice (some ⟨Bk,0,none⟩) 1 c)(hblk:w.heap[Bk]? =some (.cells #[.string (sb t)] 9 (0,0)))(hfew:ss.length<=2147483648)(hbase:base<=w.heap.size)(h:∀g cap w',w'.ownsRow base 9 1 (.slice (some ⟨g,0,none⟩) (ss.length+1) cap) (ss++[t]).length (bj (ss++[t]))->w.grownBy w' v.ownBlock->wpList Tryz.prog ops Q rest (a.put o.dst (.slice (some ⟨g,0,none⟩) (ss.length+1) cap)) w'):wpList Tryz.prog ops Q (o::rest) a w:=by
 obtain⟨i0,hi,hz0,hz1,hz2⟩:=info_parts Tryz.infoStr;refine wpList_append_lies w hgd s x _ ho base 9 i0 _ 1 16 Tryz.underlying69 hi hz0 hz1 hz2 rfl (by omega) v ss.length (bj ss) hs hown ⟨Bk,0,none⟩ 1 c [.string (sb t)] hx rfl
  (fun j u hu=>World.news_of_block hblk j u (by simpa using hu)) (by simp[Value.oneCell']) (by omega) (by unfold maxLen;omega) (by omega) hbase _ rfl ?_
 intro g cap w' hown' hgr hat hlt;refine h g cap w' ?_ hgr;rw[sy,CD];exact hown'
theorem eQ.below{B b:Nat}{w w':World}{v:Value}{ss:List ar}{c:Bool}(h:eQ B b w v ss c)(hb:Below w.heap.size w w'):eQ B b w' v ss c:=by have hlt:=bK h.cell;refine⟨h.str.below hb,ac hb h.cell,?_⟩;rw[<-h.soft];unfold World.frozen?;rw[hb.block b hlt]
theorem mx{b:Nat}{w w':World}(h:w'.heap[b]? =w.heap[b]?):gd b w w':=fun j v _ _ hc=>by obtain⟨e1,e2⟩:=jw (j:=j) h;exact⟨e1.trans hc,e2⟩
theorem gd.set{b:Nat}{w w':World}(h:gd b w w')(i:Nat)(hi:i=9∨i=11)(u:Value):gd b w (w'.setCell ⟨b,i,none⟩ u):=fun j v h9 h11 hc=>by obtain⟨e1,e2⟩:=h j v h9 h11 hc;refine⟨am (fun e=>?_) e1,(mr _ _ _ _).trans e2⟩;injection e with _ e;omega
theorem AA{B b:Nat}{w w1:World}{v:Value}{ss:List ar}{c:Bool}(h:eQ B b w v ss c)(hb:Below w.heap.size w w1):lV B b v ss c w (.returned (.tuple #[])) w1:=by have hlt:b<w.heap.size:=bK h.cell;exact⟨rfl,v,h.below hb,(fI.refl _ _ _).below hb,hb.mono (Nat.le_of_lt hlt),mx (hb.block b hlt)⟩
theorem Ax{B b:Nat}{w w1:World}{v:Value}{ss:List ar}{c:Bool}(h:eQ B b w v ss c)(hb:Below w.heap.size w w1):lV B b v ss true w (.returned (.tuple #[])) (w1.setCell ⟨b,11,none⟩ (.bool true)):=by
 have hlt:b<w.heap.size:=bK h.cell;obtain⟨⟨h1,h2,h3,h6⟩,h4,h5⟩:=h.below hb;refine⟨rfl,v,⟨⟨am (fun e=>by injection e with _ e;omega) h1,(mr _ _ _ _).trans h2,re h3 (fun e=>by have h0:B<=b:=(h3.lt _ e).1;omega) _,h6⟩,set_self h4,(mr _ _ _ _).trans h5⟩,⟨?_,?_⟩,?_,(mx (hb.block b hlt)).set 11 (.inr rfl) _⟩
 .have:=hb.size;simpa using this
 .intro q h1 h2 h3;rw[aY _ _ _ _ (fun e=>h2 e),hb.block q h1]
 .exact(hb.mono (Nat.le_of_lt hlt)).setCell (p:=⟨b,11,none⟩) (ah _) _
theorem Aw{B b:Nat}{w w1 w2:World}{v:Value}{ss:List ar}{c:Bool}{o:Obj}{t:ar}{V:Value}(h:eQ B b w v ss c)(hbel:Below w.heap.size w w1)(hown:w2.ownsRow B 9 1 V (ss++[t]).length (bj (ss++[t])))(hgr:(w1.alloc o).grownBy w2 v.ownBlock):lV B b v (ss++[t]) c w (.returned (.tuple #[])) (w2.setCell ⟨b,9,none⟩ V):=by obtain⟨d1,d2,d3⟩:=sA 9 h.str hbel hown hgr;have hm:=kS h.str hbel hgr;obtain⟨e1,e2⟩:=jw (j:=11) hm;refine⟨rfl,V,⟨d1,am (fun e=>by injection e with _ e;omega) (e1.trans h.cell),(mr _ _ _ _).trans (e2.trans h.soft)⟩,d2,d3,(mx hm).set 9 (.inl rfl) _⟩
theorem xM(B b k:Nat)(s:ByteArray)(x:Int)(A:Option Addr)(n d:Nat)(ss:List ar)(c:Bool)(v:Value)(w:World)(h:eQ B b w v ss c)(hfew:ss.length<=2147483648)(hB:B<=w.heap.size):Calls Tryz.prog 73 #[.agg #[.int .u8 k,.string s,.int .i64 x,.slice A n d],.pointer (some ⟨b,0,none⟩)] w (lV B b v (gD k s ss) (iI k c) w):=by
 have hb0:Below w.heap.size w (w.alloc (.cells #[.int .u8 k,.string s,.int .i64 x,.slice A n d] 25)):=(ai _ _).alloc (ah _) _;have HS:=aa h;have HB0:=aa hb0;have HBX:=aa (di (heap_alloc_new w (.cells #[.int .u8 k,.string s,.int .i64 x,.slice A n d] 25)));have hlt:b<w.heap.size:=bK h.cell;have HS1:=aa (h.below hb0);have z9:=HS1.out.str.cell;have z11:=HS1.out.cell;have f9:=HS1.out.str.soft;have f11:=HS1.out.soft;have y9:=HS.out.str.cell;have y11:=HS.out.cell;have g9:=HS.out.str.soft;have g11:=HS.out.soft;have c0:=HBX.out.c0;have c1:=HBX.out.c1;clear hb0 h;by_cases h25:k=25
 .subst h25;have e1:gD 25 s ss=ss:=rfl;have e2:iI 25 c=true:=(by simp[iI]);rw[e1,e2]
  go_in
  go_wp2_with fail
  go_end0
  rw[<-World.setCell_alloc_past _ _ _ _ hlt];exact Ax HS.out HB0.out
 .have q25:((k:Int) == 25)=false:=(by simp;omega);have e2:iI k c=c:=(by simp[iI,h25]);rw[e2];by_cases hb:iH k=true
  .have e1:gD k s ss=ss++[bl s]:=(by unfold gD;rw[hb];rfl);rw[e1];have hk:k=2∨k=4∨k=6:=(by simpa[iH,or_assoc] using hb);clear hb e1 e2 h25;rcases hk with rfl|rfl|rfl
   all_goals
    go_in
    go_wp2_with (at_builtin;go_must (refine Bt _ rfl _ _ rfl B v ss rfl (HS1.out.str.own.alloc _) (w.heap.size+1) 1 (bl s) rfl (aQ (by simp)) (by omega) (by simp;omega) ?_);intro g cap w2 hown2 hgr2;have hv9:=(jw (j:=9) (kS HS.out.str HB0.out hgr2)).1.trans HS.out.str.cell;have hf9:=(jw (j:=9) (kS HS.out.str HB0.out hgr2)).2.trans HS.out.str.soft)
    go_end0
    exact Aw HS.out HB0.out hown2 hgr2
  .have hb':iH k=false:=(by simpa using hb);have e1:gD k s ss=ss:=(by unfold gD;rw[hb'];rfl);rw[e1];have q2:((k:Int) == 2)=false:=(by simp[iH] at hb';simp;omega);have q4:((k:Int) == 4)=false:=(by simp[iH] at hb';simp;omega);have q6:((k:Int) == 6)=false:=(by simp[iH] at hb';simp;omega);clear hb hb' e1 e2 h25
   go_in
   go_wp2_with fail
   go_end0
   exact AA HS.out HB0.out
def sU(n:Nat)(w:World)(e:Ending)(w':World):Prop:=∃cap,e= .returned (.slice (some ⟨w.heap.size,0,none⟩) 0 cap)/\n<=cap/\w'.ownsRow w.heap.size 25 4 (.slice (some ⟨w.heap.size,0,none⟩) 0 cap) 0 []/\Below w.heap.size w w'
theorem IE(w:World)(ty:TypeId)(n:Nat)(h0:0<n)(hn:n<=1000000):∃(cap:Nat) (w':World),(Builtin.append_ #[23,3] ty #[.slice none 0 0,.int .i64 n]).run Tryz.prog w= .ok (.slice (some ⟨w.heap.size,0,none⟩) n cap) w'/\n<=cap/\cap<=maxLen/\w'.ownsRow w.heap.size 25 4 (.slice (some ⟨w.heap.size,0,none⟩) 0 cap) 0 []/\Below w.heap.size w w':=by
 obtain⟨i0,hi,hz0,hz1,hz2⟩:=info_parts Tryz.infoNode;have h1:=grownCap_ge w n 0 25;have h2:=grownCap_le_maxLen w n 0 25 (by unfold maxLen;omega);refine⟨_,_,Lib.run_append_nil_zeros w 23 3 ty 25 i0 _ .i64 .i64 Tryz.underlying23 Tryz.underlying3 hi hz0 n h0 (by omega) (by omega) (by rw[hz2];omega),h1,h2,?_,?_⟩
 .refine⟨rfl,.inr ⟨w.heap.size,_,_,rfl,ah _,heap_alloc_new _ _,aE _,h2,?_,?_⟩⟩
  .rw[Array.size_append,size_zeroCells,size_zeroCells];have:(Value.agg #[.int .u8 0,.string ⟨#[]⟩,.int .i64 0,.slice none 0 0]).cells.size=4:=rfl;rw[this];omega
  .simp
 .exact((ai _ _).drew).alloc (ah _) _
theorem yo(n:Nat)(w:World)(h0:0<n)(hn:n<=1000000):Calls Tryz.prog 118 #[.slice none 0 0,.int .i64 n] w (sU n w):=by
 obtain⟨cap,w1,hr,h1,h2,ho,hb⟩:=IE w 23 n h0 hn;have HR:=aa hr;have HO:=aa ho;have HB:=aa hb;clear hr ho hb
 go_in
 go_wp2_with (at_builtin;go_must (refine Lib.wpList_append_run _ rfl _ _ _ _ rfl _ _ rfl rfl _ _ HR.out ?_));go_ret;exact⟨cap,rfl,h1,HO.out,HB.out⟩
def cB(w:World)(cs:List Value)(us:List ag):Prop:=cs.length=us.length*4/\∀i t,us[i]? =some t->∃A c,cs[i*4]? =some (.int .u8 t.kind)/\cs[i*4+1]? =some (.string (sb t.text))/\cs[i*4+2]? =some (.int .i64 t.num)/\cs[i*4+3]? =some (.slice A t.kids.length c)/\ce w t.kids A t.kids.length c/\t.kind<=255/\t.text.length<=maxLen/\tw t.num
theorem cB.nil(w:World):cB w [] []:=⟨rfl,fun _ _ h=>by simp at h⟩
theorem cB.append{w:World}{cs cs':List Value}{us us':List ag}(h:cB w cs us)(h':cB w cs' us'):cB w (cs++cs') (us++us'):=by
 obtain⟨l,h⟩:=h;obtain⟨l',h'⟩:=h';refine⟨by simp[l,l'];omega,fun i t ht=>?_⟩;by_cases hi:i<us.length
 .rw[cM hi] at ht;obtain⟨A,c,t0,t1,t2,t3,r⟩:=h i t ht;exact⟨A,c,by rw[cM (by omega)];exact t0,by rw[cM (by omega)];exact t1,by rw[cM (by omega)];exact t2,by rw[cM (by omega)];exact t3,r⟩
 .rw[eK (by omega)] at ht;obtain⟨A,c,t0,t1,t2,t3,r⟩:=h' _ t ht;refine⟨A,c,?_,?_,?_,?_,r⟩ <;>rw[eK (by omega)]
  .rw[show i*4 - cs.length=(i - us.length) *4 by omega];exact t0
  .rw[show i*4+1 - cs.length=(i - us.length) *4+1 by omega];exact t1
  .rw[show i*4+2 - cs.length=(i - us.length) *4+2 by omega];exact t2
  .rw[show i*4+3 - cs.length=(i - us.length) *4+3 by omega];exact t3
theorem cB.of_row{w:World}{us:List ag}{b o:Nat}(h:ch w us b o):cB w (cellsOf w b o (us.length*4)) us:=by refine⟨nX _ _ _ _,fun i t ht=>?_⟩;have hi:=(gl.1 ht).1;obtain⟨A,c,t0,t1,t2,t3,r⟩:=(h.get ht).parts;exact⟨A,c,iJ (by omega) t0,iJ (by omega) (by rw[<-Nat.add_assoc];exact t1),iJ (by omega) (by rw[<-Nat.add_assoc];exact t2),iJ (by omega) (by rw[<-Nat.add_assoc];exact t3),r⟩
theorem cB.done{w w':World}{base:Nat}{us:List ag}{cs:List Value}{v:Value}{n:Nat}(h:cB w cs us)(hown:w'.ownsRow base 25 4 v n cs)(hn:n=us.length)(hb:Below w.heap.size w w'):∃A c,v= .slice A n c/\ce w' us A n c:=by
 obtain⟨A,c,rfl,k1,k2⟩:=t9 hown;refine⟨A,c,rfl,hn,k1,k2,?_⟩;by_cases h0:us=[]
 .exact .inl h0
 .right;obtain⟨g,cap,e,hg⟩:=hown.form (by rw[hn];exact List.length_pos_iff.2 h0);injection e with e1 e2 e3;subst e1 e3;refine⟨g,0,rfl,ch.mk fun i t ht=>?_⟩;obtain⟨A2,c2,t0,t1,t2,t3,t4,t5,t6,t7⟩:=h.2 i t ht;rw[Nat.zero_add];exact cJ.of (bH hown _ _ t0) (bH hown _ _ t1) (bH hown _ _ t2) (bH hown _ _ t3) (t4.below hb) t5 t6 t7
theorem mW{w0 w:World}(hb:Below w0.heap.size w0 w)(ty:TypeId)(base:Nat)(hbase:base<=w.heap.size)(v:Value)(j:Nat)(cs:List Value)(hown:w.ownsRow base 25 4 v j cs)(us:List ag)(A:Option Addr)(m c:Nat)(hK:ce w0 us A m c)(hj:j<=1000000)(hm:m<=1000000):∃v' w' cs',(Builtin.append_ #[23,23] ty #[v,.slice A m c]).run Tryz.prog w= .ok v' w'/\w'.ownsRow base 25 4 v' (j+m) (cs++cs')/\cB w0 cs' us/\w.grownBy w' v.ownBlock:=by
 obtain⟨i0,hi,hz0,hz1,hz2⟩:=info_parts Tryz.infoNode;have hl:=hK.1;cases A with
 |none=>
  have hks:us=[]:=by rcases hK.2.2.2 with e|⟨b,o,e,_⟩;exact e;cases e
  subst hks;have hm0:m=0:=hl;subst hm0;refine⟨v,w,[],?_,by simpa using hown,cB.nil _,⟨rfl,rfl,rfl,ah _,fun _ _ _=>rfl⟩⟩;rcases hown.2 with ⟨rfl,rfl⟩|⟨g,cap,cur,rfl,_,_,hnc,_⟩
  .simp[Builtin.append_,run_underlying Tryz.underlying23,sizeOf,typeInfo,hi,Builtin.lenOf,Builtin.firstCells]
  .simp[Builtin.append_,run_underlying Tryz.underlying23,sizeOf,typeInfo,hi,Builtin.lenOf,Builtin.firstCells,hnc,storeCells]
 |some ad=>
  have hX:∃news:List Value,news.length=m*4/\(∀j u,news[j]? =some u->w.cell? (ad.add j)=some u)/\(∀u∈news,u.oneCell'=true)/\cB w0 news us:=by
   rcases hK.2.2.2 with e|⟨b,o,e,hr⟩
   .subst e;have:m=0:=hl;subst this;exact⟨[],rfl,by simp,by simp,cB.nil _⟩
   .injection e with e;subst e;refine⟨cellsOf w0 b o (us.length*4),by rw[nX,hl],fun j u hu=>?_,pS hr,cB.of_row hr⟩;rw[CE];exact ac hb (nW hr hu)
  obtain⟨news,x1,x2,x3,x4⟩:=hX;obtain⟨v',w',r1,r2,r3,_⟩:=run_append_own (P:=Tryz.prog) w base 23 ty 25 i0 _ 4 56 Tryz.underlying23 hi hz0 hz1 hz2 rfl (by decide) v j cs hown ad m c news x1 x2 x3 (by unfold maxLen;omega) (by omega) hbase;exact⟨v',w',news,r1,r2,x4,r3⟩
def gI(j a b:Nat):Nat:=match j with|0=>0|1=>a|_=>a+b
def oT(j:Nat)(os ns:List ag):List ag:=match j with|0=>[]|1=>os|_=>os++ns
def sQ(us:List ag)(n:Nat)(w0 w:World)(e:Ending)(w':World):Prop:=∃v cs,e= .returned v/\w'.ownsRow w.heap.size 25 4 v n cs/\cB w0 cs us/\Below w.heap.size w w'
theorem xX(os ns:List ag)(bp:Nat)(oA:Option Addr)(on oc:Nat)(nA:Option Addr)(nn nc:Nat)(w0 w:World)(hb0:Below w0.heap.size w0 w)(h0:w.cell? ⟨bp,0,none⟩=some (.slice oA on oc))(h1:w.cell? ⟨bp,1,none⟩=some (.slice nA nn nc))(hO:ce w0 os oA on oc)(hN:ce w0 ns nA nn nc)(hpos:0<on+nn)(hfew:on+nn<=1000000):Calls Tryz.prog 69 #[.slice (some ⟨bp,0,none⟩) 2 2] w (sQ (os++ns) (on+nn) w0 w):=by
 have HO:=aa hO;have HN:=aa hN;have HLO:Hid (on=os.length):=hO.1;have HLN:Hid (nn=ns.length):=hN.1;have H0:=aa h0;have H1:=aa h1;have HW:=aa hb0;clear hO hN hb0
 go_in
 go_wp2_with fail;go_loopw [3,11] (fun sv iv wr=>∃j:Nat,j<=2/\iv= .int .i64 j/\sv= .int .i64 ((gI j on nn:Nat):Int)/\w=wr) (fun _ iv _=>2 - (intOf iv).toNat);case atStart=>exact⟨0,by omega,rfl,rfl,rfl⟩
 case round=>
  obtain⟨j,hj,rfl,rfl,rfl⟩:=hrel;have h0:=H0.out;have h1:=H1.out;obtain rfl|rfl|rfl:j=0∨j=1∨j=2:=by omega
  .have e0:gI 0 on nn=0:=rfl;rw[e0];go_wp2_with fail;go_roundw;case rel=>exact⟨1,by omega,by simp,by simp[gI],trivial⟩
   case measure=>simp[intOf]
  .have e0:gI 1 on nn=on:=rfl;rw[e0];go_wp2_with fail;go_roundw;case rel=>exact⟨2,by omega,by simp,by simp[gI],trivial⟩
   case measure=>simp[intOf]
  .have e0:gI 2 on nn=on+nn:=rfl;rw[e0];go_wp2_with fail;refine(yo (on+nn) _ hpos hfew).mono ?_;rintro en w1 ⟨cap,rfl,hcap,ho1,hb1⟩;have HOW:=aa ho1;have HB1:=aa hb1;clear ho1 hb1;go_wp2_with fail;go_loopw [6,27] (fun v iv wr=>∃j:Nat,j<=2/\iv= .int .i64 j/\Hid (Below w.heap.size w wr)/\Hid (∃cs,wr.ownsRow w.heap.size 25 4 v (gI j on nn) cs/\cB w0 cs (oT j os ns))) (fun _ iv _=>2 - (intOf iv).toNat);case atStart=>exact⟨0,by omega,rfl,HB1.out,[],HOW.out,cB.nil _⟩
   case round=>
    obtain⟨j,hj,rfl,HB,HI⟩:=hrel;obtain⟨cs,hown,hread⟩:=HI.out;have HC:=aa hown;have HRD:=aa hread;clear hown hread;have h0:=ac HB.out H0.out;have h1:=ac HB.out H1.out;obtain rfl|rfl|rfl:j=0∨j=1∨j=2:=by omega
    .obtain⟨v',w',cs',hr,ho,hrd,hgr⟩:=mW (af HW.out HB.out) 23 w.heap.size HB.out.size u6 _ cs HC.out os oA on oc HO.out (by simp[gI]) (by omega);have HR:=aa hr;have HO2:=aa ho;have HRD2:=aa (HRD.out.append hrd);have HBN:=aa (HB.out.trans (Ee HC.out hgr (ah _) HB.out.size));clear hr ho hrd hgr;go_wp2_with (at_builtin;go_must (refine Lib.wpList_append_run _ rfl _ _ _ _ rfl _ _ rfl rfl _ _ HR.out ?_));go_roundw;case rel=>exact⟨1,by omega,by simp,HBN,_,by simpa[gI] using HO2.out,by simpa[oT] using HRD2.out⟩
     case measure=>simp[intOf]
    .obtain⟨v',w',cs',hr,ho,hrd,hgr⟩:=mW (af HW.out HB.out) 23 w.heap.size HB.out.size u6 _ cs HC.out ns nA nn nc HN.out (by simp[gI];omega) (by omega);have HR:=aa hr;have HO2:=aa ho;have HRD2:=aa (HRD.out.append hrd);have HBN:=aa (HB.out.trans (Ee HC.out hgr (ah _) HB.out.size));clear hr ho hrd hgr;go_wp2_with (at_builtin;go_must (refine Lib.wpList_append_run _ rfl _ _ _ _ rfl _ _ rfl rfl _ _ HR.out ?_));go_roundw;case rel=>exact⟨2,by omega,by simp,HBN,_,by simpa[gI] using HO2.out,by simpa[oT] using HRD2.out⟩
     case measure=>simp[intOf]
    .go_wp2_with fail;go_ret;exact⟨u6,cs,rfl,HC.out,HRD.out,HB.out⟩
theorem uz(args:Array Value)(w:World):(callFunc 73 args).run Tryz.prog w= .ok (.enter 73 args) w:=eH Tryz.func73 (by kernel_rfl) (by kernel_rfl) args w
theorem sF{ks:List ag}{j:Nat}{t:ag}(h:ks[j]? =some t):ks.take (j+1)=ks.take j++[t]:=by have hj:j<ks.length:=(gl.1 h).1;rw[List.take_succ_eq_append_getElem hj];rw[br hj] at h;injection h with h;rw[h]
def eR(ss:List ar)(ks:List ag):List ar:=ss++cO ks
def fA(c:Bool)(ks:List ag):Bool:=c || bP ks
theorem tS{ss:List ar}{ks:List ag}{j:Nat}{t:ag}(h:ks[j]? =some t):eR ss (ks.take (j+1))=eR (gD t.kind (sb t.text) (eR ss (ks.take j))) t.kids:=by obtain⟨k,s,x,us⟩:=t;rw[sF h];unfold eR gD iH;simp only[tT,cO,ag.binds,ag.kind,ag.text,ag.kids,List.append_nil,l9];split<;>simp_all
theorem ue{c:Bool}{ks:List ag}{j:Nat}{t:ag}(h:ks[j]? =some t):fA c (ks.take (j+1))=fA (iI t.kind (fA c (ks.take j))) t.kids:=by obtain⟨k,s,x,us⟩:=t;rw[sF h];unfold fA iI;simp only[uf,bP,ag.calls,ag.kind,ag.kids,Bool.or_false,Bool.or_assoc]
theorem tR{ss:List ar}{ks:List ag}{j:Nat}{t:ag}(h:ks[j]? =some t):(eR ss (ks.take j)).length+t.sz<=ss.length+ao ks:=by
 have h1:=nT (ks.take j);have hj:j<ks.length:=(gl.1 h).1;have e:ao ks=ao (ks.take j)+ao (ks.drop j):=(by rw[<-o9,List.take_append_drop]);have e2:ao (ks.drop j)=t.sz+ao (ks.drop (j+1)):=by rw[List.drop_eq_getElem_cons hj];rw[br hj] at h;injection h with h;rw[h];rfl
 unfold eR;rw[CD];omega
theorem tP(k:Nat)(s:ByteArray)(ss:List ar):(gD k s ss).length<=ss.length+1:=by unfold gD;split<;>simp
structure dY (b:Nat) (w0 w:World):Prop where
 bel:Below b w0 w
 old:∀q,q<w0.heap.size->q≠b->w.heap[q]? =w0.heap[q]?
 only:gd b w0 w
theorem dY.refl(b:Nat)(w:World):dY b w w:=⟨ai _ _,fun _ _ _=>rfl,fun _ _ _ _ h=>⟨h,rfl⟩⟩
theorem gd.trans{b:Nat}{w w1 w2:World}(h:gd b w w1)(h':gd b w1 w2):gd b w w2:=fun j v h9 h11 hc=>by obtain⟨e1,e2⟩:=h j v h9 h11 hc;obtain⟨e3,e4⟩:=h' j v h9 h11 e1;exact⟨e3,e4.trans e2⟩
theorem dY.below{b:Nat}{w0 w w':World}(h:dY b w0 w)(hlt:b<w.heap.size)(hb:Below w.heap.size w w'):dY b w0 w':=
 ⟨h.bel.trans (hb.mono (Nat.le_of_lt hlt)),fun q hq hqb=>(hb.block q (fJ hq h.bel.size)).trans (h.old q hq hqb),h.only.trans (mx (hb.block b hlt))⟩
theorem dY.side{b:Nat}{w0 w w':World}{v:Value}{ss:List ar}{c:Bool}(h:dY b w0 w)(hS:eQ w0.heap.size b w v ss c)(hbut:fI b v w w')(hb:Below b w w')(ho:gd b w w'):dY b w0 w':=
 ⟨h.bel.trans hb,fun q hq hqb=>(hbut.2 q (fJ hq h.bel.size) hqb (fun e=>by have:=(hS.str.own.lt q e).1;omega)).trans (h.old q hq hqb),h.only.trans ho⟩
def bf(b q:Nat):Bool:= !(q == b)
theorem dY.kids{b:Nat}{w0 w:World}{ks:List ag}{A:Option Addr}{n c:Nat}(h:dY b w0 w)(hK:cq w0 (bf b) ks A n c):ce w ks A n c:=
 ce.keep (fun a v hc=>by obtain⟨h1,h2⟩:=fD.1 hc;rw[World.cell?_of_block (h.old _ (bK h2) (by simpa[bf] using h1))];exact h2) hK
def pD(b:Nat)(ss:List ar)(c:Bool)(w0:World)(e:Ending)(w':World):Prop:=e= .returned (.tuple #[])/\dY b w0 w'/\∃v',eQ w0.heap.size b w' v' ss c
def nH(m:Nat):Prop:=∀(ks:List ag) (A:Option Addr) (n d:Nat) (ss:List ar) (c:Bool) (b:Nat) (w0 w:World) (v:Value),ao ks<m->cq w0 (bf b) ks A n d->dY b w0 w->eQ w0.heap.size b w v ss c->ss.length+ao ks<=1000000->
 Calls Tryz.prog 72 #[.func (.func 73) #[] #[.pointer (some ⟨b,0,none⟩)],.slice A n d] w (pD b (eR ss ks) (fA c ks) w0)
theorem Az{w0 w w3:World}{b:Nat}{v:Value}{ss:List ar}{c:Bool}{x0 x1 x2 x3:Value}{T:TypeId}(hk:dY b w0 w)(hS:eQ w0.heap.size b w v ss c)(hbut:fI b v (w.alloc (.cells #[x0,x1,x2,x3] T)) w3)(hb3:Below b (w.alloc (.cells #[x0,x1,x2,x3] T)) w3)(ho:gd b (w.alloc (.cells #[x0,x1,x2,x3] T)) w3):Hid (dY b w0 w3)/\Hid (w3.cell? ⟨w.heap.size,3,none⟩=some x3):=by have hlt:b<w.heap.size:=bK hS.cell;have ha:Below w.heap.size w (w.alloc (.cells #[x0,x1,x2,x3] T)):=(ai _ _).alloc (ah _) _;refine⟨(hk.below hlt ha).side (hS.below ha) hbut hb3 ho,?_⟩;have h1:w3.heap[w.heap.size]? =(w.alloc (.cells #[x0,x1,x2,x3] T)).heap[w.heap.size]? :=hbut.2 _ (by simp) (by omega) (fun e=>by have:=(hS.str.own.lt _ e).2;omega);rw[heap_alloc_new] at h1;exact(di h1).c3
theorem AD(m:Nat)(ih:Hid (nH m)):nH (m+1):=by
 intro ks A n d ss c bb w0 w v hm hK hb hS hfew;have HK:=aa hK;have HM:=aa hm;have HLN:Hid (n=ks.length):=hK.1;have hnn:n<=9223372036854775807:=(by have h1:=hK.2.1;have h2:=hK.2.2.1;unfold maxLen at h2;omega);have HB:=aa hb;have HS:=aa hS;have hcf:=uz;clear hK hm hb hS
 go_in
 go_wp2_with fail;go_loopw [8] (fun i wr=>∃j:Nat,j<=n/\i= .int .i64 j/\Hid (dY bb w0 wr)/\Hid (∃v',eQ w0.heap.size bb wr v' (eR ss (ks.take j)) (fA c (ks.take j)))) (fun i _=>n - (intOf i).toNat);case atStart=>exact⟨0,aE _,rfl,HB.out,v,by simpa[eR,cO,fA,bP] using HS.out⟩
 case round=>
  obtain⟨j,hj,rfl,HBR,HSR⟩:=hrel;by_cases hlt:j<n
  .obtain⟨b,o,t,rfl,ht,hat⟩:=(HBR.out.kids HK.out).get hlt;obtain⟨B1,d1,q0,q1,q2,q3,hnode⟩:=hat.cells;obtain⟨B0,d0,q3',hkk⟩:∃B0 d0,wr.cell? ⟨b,o+j*4+3,none⟩=some (.slice B0 t.kids.length d0)/\cq w0 (bf bb) t.kids B0 t.kids.length d0:=by obtain⟨b',o',t',e1,e2,hat0⟩:=ce.get HK.out hlt;injection e1 with e1;injection e1 with e1 e1';rw[ht] at e2;injection e2 with e2;subst e1 e1' e2;obtain⟨A',c',_,_,_,h3,hk,_⟩:=hat0.parts;obtain⟨g1,g2⟩:=fD.1 h3;refine⟨A',c',?_,hk⟩;rw[World.cell?_of_block (HBR.out.old _ (bK g2) (by simpa[bf] using g1))];exact g2
   rw[q3] at q3';injection q3' with q3';injection q3' with q3' _ q3'';subst q3' q3'';have HKK:=aa hkk;clear hkk;obtain⟨vr,hvr⟩:=HSR.out;have HND:=aa hnode;have HT:=aa ht;have HSV:=aa hvr;have HL1:=aa (tR (ss:=ss) ht);have HSZ:Hid (ao t.kids+1<m+1):=Nat.lt_of_le_of_lt (by have:=jL ht;obtain⟨k,s,x,us⟩:=t;simp[ag.sz,ag.kids] at this ⊢;omega) HM.out;have HSE:Hid (eR ss (ks.take (j+1))=eR (gD t.kind (sb t.text) (eR ss (ks.take j))) t.kids):=tS ht;have HCE:Hid (fA c (ks.take (j+1))=fA (iI t.kind (fA c (ks.take j))) t.kids):=ue ht;clear ht hat hnode hvr;go_wp2_with fail;have hba:Below wr.heap.size wr (wr.alloc (.cells #[.int .u8 t.kind,.string (sb t.text),.int .i64 t.num,.slice B1 t.kids.length d1] 25)):=(ai _ _).alloc (ah _) _;refine(xM w0.heap.size bb t.kind (sb t.text) t.num B1 t.kids.length d1 (eR ss (ks.take j)) (fA c (ks.take j)) vr _ (HSV.out.below hba) (by have:=HL1.out;omega) (by have:=HBR.out.bel.size;simp;omega)).mono ?_;rintro en w3 ⟨rfl,v3,hS3,hbut,hb3,ho3⟩;obtain⟨HB3,HX3⟩:=Az HBR.out HSV.out hbut hb3 ho3;have HS3:=aa hS3;have c3:=HX3.out;clear hba hS3 hbut hb3 ho3;go_wp2_with fail;refine(ih.out t.kids B1 t.kids.length d1 _ _ bb w0 w3 v3 (by have:=HSZ.out;omega) (HKK.out) HB3.out HS3.out (by have:=HL1.out;have:=tP t.kind (sb t.text) (eR ss (ks.take j));obtain⟨k,s,x,us⟩:=t;simp[ag.sz,ag.kids] at*;omega)).mono ?_;rintro en w4 ⟨rfl,hb4,v4,hS4⟩;have HB4:=aa hb4;have HS4:=aa hS4;clear hb4 hS4;go_wp2;go_roundw;case rel=>exact⟨j+1,by omega,by go_num,HB4,v4,by rw[HSE.out,HCE.out];exact HS4.out⟩
   case measure=>simp[intOf];omega
  .have hjn:j=n:=(by omega);subst hjn;have HD:Hid (ks.take j=ks):=List.take_of_length_le (by have:=HLN.out;omega);obtain⟨vr,hvr⟩:=HSR.out;have HSV:=aa hvr;clear hvr;go_wp2_with fail
   go_end0
   have h:=HSV.out;rw[HD.out] at h;exact⟨rfl,HBR.out,vr,h⟩
theorem sr:∀m,nH m
 |0=>fun _ _ _ _ _ _ _ _ _ _ hm=>absurd hm (Nat.not_lt_zero _)
 |m+1=>AD m (aa (sr m))
theorem yY(ks:List ag)(A:Option Addr)(n d:Nat)(ss:List ar)(c:Bool)(b:Nat)(w0 w:World)(v:Value)(hK:cq w0 (bf b) ks A n d)(hb:dY b w0 w)(hS:eQ w0.heap.size b w v ss c)(hfew:ss.length+ao ks<=1000000):Calls Tryz.prog 72 #[.func (.func 73) #[] #[.pointer (some ⟨b,0,none⟩)],.slice A n d] w (pD b (eR ss ks) (fA c ks) w0):=
 sr (ao ks+1) ks A n d ss c b w0 w v (Nat.lt_succ_self _) hK hb hS hfew
def aU(S:Nat->Bool)(w w':World):Prop:=w.heap.size<=w'.heap.size/\∀q,q<w.heap.size->S q=true->w'.heap[q]? =w.heap[q]?
theorem aU.refl(S:Nat->Bool)(w:World):aU S w w:=⟨ah _,fun _ _ _=>rfl⟩
theorem aU.trans{S:Nat->Bool}{w w1 w2:World}(h:aU S w w1)(h':aU S w1 w2):aU S w w2:=
 ⟨aJ h.1 h'.1,fun q hq hS=>(h'.2 q (fJ hq h.1) hS).trans (h.2 q hq hS)⟩
theorem aU.below{S:Nat->Bool}{w w':World}(h:Below w.heap.size w w'):aU S w w':=⟨h.size,fun q hq _=>h.block q hq⟩
theorem aU.set{S:Nat->Bool}{w w':World}(h:aU S w w'){p:Addr}(hp:S p.block=false)(u:Value):aU S w (w'.setCell p u):=
 ⟨by simpa using h.1,fun q hq hS=>by rw[aY _ _ _ _ (fun e=>by rw[e,hp] at hS;cases hS)];exact h.2 q hq hS⟩
theorem aU.of_keep{S:Nat->Bool}{b:Nat}{w w':World}(h:dY b w w')(hb:S b=false):aU S w w':=⟨h.bel.size,fun q hq hS=>h.old q hq (fun e=>by rw[e,hb] at hS;cases hS)⟩
theorem fQ(b:Nat):bf b b=false:=by simp[bf]
theorem fl{b q:Nat}(h:q≠b):bf b q=true:=by simp[bf,h]
theorem cq.but{w w':World}{S:Nat->Bool}{ks:List ag}{A:Option Addr}{n c:Nat}(h:cq w S ks A n c)(hb:aU S w w'):cq w' S ks A n c:=
 cq.keep h fun a v hS hc=>⟨hS,by rw[World.cell?_of_block (hb.2 _ (bK hc) hS)];exact hc⟩
theorem cq.kids{w:World}{S:Nat->Bool}{ks:List ag}{A:Option Addr}{n c:Nat}(h:cq w S ks A n c):ce w ks A n c:=ce.keep (fun _ _ hc=>(fD.1 hc).2) h
theorem my{w w':World}{S:Nat->Bool}{base:Nat}{e:TypeId}{size:Nat}{v:Value}{n:Nat}{xs:List Value}(h:w.ownsRow base e size v n xs)(hS:∀g,base<=g->S g=true)(hb:aU S w w'):w'.ownsRow base e size v n xs:=by obtain⟨h1,h2⟩:=h;refine⟨h1,h2.imp id ?_⟩;rintro⟨g,cap,cur,hv,hg,hh,r⟩;exact⟨g,cap,cur,hv,hg,by rw[hb.2 g (aK.1 hh).1 (hS g hg)];exact hh,r⟩
theorem xr{w w':World}{base b:Nat}{us:List ag}{cs:List Value}{A:Option Addr}{n c:Nat}(h:cB w cs us)(hown:w'.ownsRow base 25 4 (.slice A n c) n cs)(hn:n=us.length)(hb:Below w.heap.size w w')(h1:w.heap.size<=b)(h2:b<base):cq w' (bf b) us A n c:=by
 obtain⟨A',c',e,k1,k2⟩:=t9 hown;injection e with e1 e2 e3;subst e1 e3;refine⟨hn,k1,k2,?_⟩;by_cases h0:us=[]
 .exact .inl h0
 .right;obtain⟨g,cap,e,hg⟩:=hown.form (by rw[hn];exact List.length_pos_iff.2 h0);injection e with e1 e2 e3;subst e1 e3;have hgb:=(hown.lt g rfl).1;have hoc:∀p u,cs[p]? =some u->(fS w' (bf b)).cell? ⟨g,p,none⟩=some u:=fun p u hu=>fD.2 ⟨fl (by show g≠b;omega),bH hown _ _ hu⟩;refine⟨g,0,rfl,ch.mk fun i t ht=>?_⟩;obtain⟨A2,c2,t0,t1,t2,t3,t4,t5,t6,t7⟩:=h.2 i t ht;rw[Nat.zero_add];refine cJ.of (hoc _ _ t0) (hoc _ _ t1) (hoc _ _ t2) (hoc _ _ t3) ?_ t5 t6 t7;exact ce.keep (fun a v hc=>fD.2 ⟨fl (by have:=bK hc;omega),ac hb hc⟩) t4
structure jn (w:World) (b:Nat) (x0 x1 x2 x3 x4 x5 x6 x7 x8 x9 x10 x11:Value):Prop where
 c0:w.cell? ⟨b,0,none⟩=some x0
 c1:w.cell? ⟨b,1,none⟩=some x1
 c2:w.cell? ⟨b,2,none⟩=some x2
 c3:w.cell? ⟨b,3,none⟩=some x3
 c4:w.cell? ⟨b,4,none⟩=some x4
 c5:w.cell? ⟨b,5,none⟩=some x5
 c6:w.cell? ⟨b,6,none⟩=some x6
 c7:w.cell? ⟨b,7,none⟩=some x7
 c8:w.cell? ⟨b,8,none⟩=some x8
 c9:w.cell? ⟨b,9,none⟩=some x9
 c10:w.cell? ⟨b,10,none⟩=some x10
 c11:w.cell? ⟨b,11,none⟩=some x11
structure tm (w:World) (b:Nat):Prop where
 f0:w.frozen? ⟨b,0,none⟩=false
 f1:w.frozen? ⟨b,1,none⟩=false
 f2:w.frozen? ⟨b,2,none⟩=false
 f3:w.frozen? ⟨b,3,none⟩=false
 f4:w.frozen? ⟨b,4,none⟩=false
 f5:w.frozen? ⟨b,5,none⟩=false
 f6:w.frozen? ⟨b,6,none⟩=false
 f7:w.frozen? ⟨b,7,none⟩=false
 f8:w.frozen? ⟨b,8,none⟩=false
 f9:w.frozen? ⟨b,9,none⟩=false
 f10:w.frozen? ⟨b,10,none⟩=false
 f11:w.frozen? ⟨b,11,none⟩=false
theorem cr{w:World}{b:Nat}{x0 x1 x2 x3 x4 x5 x6 x7 x8 x9 x10 x11:Value}{T:TypeId}(h:w.heap[b]? =some (.cells #[x0,x1,x2,x3,x4,x5,x6,x7,x8,x9,x10,x11] T (0,0))):jn w b x0 x1 x2 x3 x4 x5 x6 x7 x8 x9 x10 x11/\tm w b:=by have hc:=fun j=>cell_of_row w b j _ T (0,0) h;refine⟨⟨by rw[hc];rfl,by rw[hc];rfl,by rw[hc];rfl,by rw[hc];rfl,by rw[hc];rfl,by rw[hc];rfl,by rw[hc];rfl,by rw[hc];rfl,by rw[hc];rfl,by rw[hc];rfl,by rw[hc];rfl,by rw[hc];rfl⟩,⟨?_,?_,?_,?_,?_,?_,?_,?_,?_,?_,?_,?_⟩⟩ <;>simp[World.frozen?,h]
def cA(w:World)(g:Nat)(v0 v1 v2 v3 v4 v5 v6 v7 v8 v9 v10 v11:Value):World:=
 ((((((((((((w.setCell ⟨g,0,none⟩ v0).setCell ⟨g,1,none⟩ v1).setCell ⟨g,2,none⟩ v2).setCell ⟨g,3,none⟩ v3).setCell ⟨g,4,none⟩ v4).setCell ⟨g,5,none⟩ v5).setCell ⟨g,6,none⟩ v6).setCell ⟨g,7,none⟩ v7).setCell ⟨g,8,none⟩ v8).setCell ⟨g,9,none⟩ v9).setCell ⟨g,10,none⟩ v10).setCell ⟨g,11,none⟩ v11)
theorem zm{w:World}{g:Nat}{v0 v1 v2 v3 v4 v5 v6 v7 v8 v9 v10 v11 x0 x1 x2 x3 x4 x5 x6 x7 x8 x9 x10 x11:Value}(h:jn w g x0 x1 x2 x3 x4 x5 x6 x7 x8 x9 x10 x11):jn (cA w g v0 v1 v2 v3 v4 v5 v6 v7 v8 v9 v10 v11) g v0 v1 v2 v3 v4 v5 v6 v7 v8 v9 v10 v11:=by
 obtain⟨h0,h1,h2,h3,h4,h5,h6,h7,h8,h9,h10,h11⟩:=h;have hn:∀p q,p≠q->(⟨g,p,none⟩:Addr)≠⟨g,q,none⟩:=fun p q hq e=>hq (by injection e);unfold cA;refine⟨?_,?_,?_,?_,?_,?_,?_,?_,?_,?_,?_,?_⟩
 .exact(am (hn 0 11 (by decide)) (am (hn 0 10 (by decide)) (am (hn 0 9 (by decide)) (am (hn 0 8 (by decide)) (am (hn 0 7 (by decide)) (am (hn 0 6 (by decide)) (am (hn 0 5 (by decide)) (am (hn 0 4 (by decide)) (am (hn 0 3 (by decide)) (am (hn 0 2 (by decide)) (am (hn 0 1 (by decide)) (set_self h0))))))))))))
 .exact(am (hn 1 11 (by decide)) (am (hn 1 10 (by decide)) (am (hn 1 9 (by decide)) (am (hn 1 8 (by decide)) (am (hn 1 7 (by decide)) (am (hn 1 6 (by decide)) (am (hn 1 5 (by decide)) (am (hn 1 4 (by decide)) (am (hn 1 3 (by decide)) (am (hn 1 2 (by decide)) (set_self (am (hn 1 0 (by decide)) h1))))))))))))
 .exact(am (hn 2 11 (by decide)) (am (hn 2 10 (by decide)) (am (hn 2 9 (by decide)) (am (hn 2 8 (by decide)) (am (hn 2 7 (by decide)) (am (hn 2 6 (by decide)) (am (hn 2 5 (by decide)) (am (hn 2 4 (by decide)) (am (hn 2 3 (by decide)) (set_self (am (hn 2 1 (by decide)) (am (hn 2 0 (by decide)) h2))))))))))))
 .exact(am (hn 3 11 (by decide)) (am (hn 3 10 (by decide)) (am (hn 3 9 (by decide)) (am (hn 3 8 (by decide)) (am (hn 3 7 (by decide)) (am (hn 3 6 (by decide)) (am (hn 3 5 (by decide)) (am (hn 3 4 (by decide)) (set_self (am (hn 3 2 (by decide)) (am (hn 3 1 (by decide)) (am (hn 3 0 (by decide)) h3))))))))))))
 .exact(am (hn 4 11 (by decide)) (am (hn 4 10 (by decide)) (am (hn 4 9 (by decide)) (am (hn 4 8 (by decide)) (am (hn 4 7 (by decide)) (am (hn 4 6 (by decide)) (am (hn 4 5 (by decide)) (set_self (am (hn 4 3 (by decide)) (am (hn 4 2 (by decide)) (am (hn 4 1 (by decide)) (am (hn 4 0 (by decide)) h4))))))))))))
 .exact(am (hn 5 11 (by decide)) (am (hn 5 10 (by decide)) (am (hn 5 9 (by decide)) (am (hn 5 8 (by decide)) (am (hn 5 7 (by decide)) (am (hn 5 6 (by decide)) (set_self (am (hn 5 4 (by decide)) (am (hn 5 3 (by decide)) (am (hn 5 2 (by decide)) (am (hn 5 1 (by decide)) (am (hn 5 0 (by decide)) h5))))))))))))
 .exact(am (hn 6 11 (by decide)) (am (hn 6 10 (by decide)) (am (hn 6 9 (by decide)) (am (hn 6 8 (by decide)) (am (hn 6 7 (by decide)) (set_self (am (hn 6 5 (by decide)) (am (hn 6 4 (by decide)) (am (hn 6 3 (by decide)) (am (hn 6 2 (by decide)) (am (hn 6 1 (by decide)) (am (hn 6 0 (by decide)) h6))))))))))))
 .exact(am (hn 7 11 (by decide)) (am (hn 7 10 (by decide)) (am (hn 7 9 (by decide)) (am (hn 7 8 (by decide)) (set_self (am (hn 7 6 (by decide)) (am (hn 7 5 (by decide)) (am (hn 7 4 (by decide)) (am (hn 7 3 (by decide)) (am (hn 7 2 (by decide)) (am (hn 7 1 (by decide)) (am (hn 7 0 (by decide)) h7))))))))))))
 .exact(am (hn 8 11 (by decide)) (am (hn 8 10 (by decide)) (am (hn 8 9 (by decide)) (set_self (am (hn 8 7 (by decide)) (am (hn 8 6 (by decide)) (am (hn 8 5 (by decide)) (am (hn 8 4 (by decide)) (am (hn 8 3 (by decide)) (am (hn 8 2 (by decide)) (am (hn 8 1 (by decide)) (am (hn 8 0 (by decide)) h8))))))))))))
 .exact(am (hn 9 11 (by decide)) (am (hn 9 10 (by decide)) (set_self (am (hn 9 8 (by decide)) (am (hn 9 7 (by decide)) (am (hn 9 6 (by decide)) (am (hn 9 5 (by decide)) (am (hn 9 4 (by decide)) (am (hn 9 3 (by decide)) (am (hn 9 2 (by decide)) (am (hn 9 1 (by decide)) (am (hn 9 0 (by decide)) h9))))))))))))
 .exact(am (hn 10 11 (by decide)) (set_self (am (hn 10 9 (by decide)) (am (hn 10 8 (by decide)) (am (hn 10 7 (by decide)) (am (hn 10 6 (by decide)) (am (hn 10 5 (by decide)) (am (hn 10 4 (by decide)) (am (hn 10 3 (by decide)) (am (hn 10 2 (by decide)) (am (hn 10 1 (by decide)) (am (hn 10 0 (by decide)) h10))))))))))))
 .exact(set_self (am (hn 11 10 (by decide)) (am (hn 11 9 (by decide)) (am (hn 11 8 (by decide)) (am (hn 11 7 (by decide)) (am (hn 11 6 (by decide)) (am (hn 11 5 (by decide)) (am (hn 11 4 (by decide)) (am (hn 11 3 (by decide)) (am (hn 11 2 (by decide)) (am (hn 11 1 (by decide)) (am (hn 11 0 (by decide)) h11))))))))))))
theorem rx{S:Nat->Bool}{w w':World}{g:Nat}{v0 v1 v2 v3 v4 v5 v6 v7 v8 v9 v10 v11:Value}(h:aU S w w')(hg:S g=false):aU S w (cA w' g v0 v1 v2 v3 v4 v5 v6 v7 v8 v9 v10 v11):=
 ((((((((((((h.set (p:=⟨g,0,none⟩) hg _).set (p:=⟨g,1,none⟩) hg _).set (p:=⟨g,2,none⟩) hg _).set (p:=⟨g,3,none⟩) hg _).set (p:=⟨g,4,none⟩) hg _).set (p:=⟨g,5,none⟩) hg _).set (p:=⟨g,6,none⟩) hg _).set (p:=⟨g,7,none⟩) hg _).set (p:=⟨g,8,none⟩) hg _).set (p:=⟨g,9,none⟩) hg _).set (p:=⟨g,10,none⟩) hg _).set (p:=⟨g,11,none⟩) hg _)
theorem lE{B:Nat}{w w':World}{g:Nat}{v0 v1 v2 v3 v4 v5 v6 v7 v8 v9 v10 v11:Value}(h:Below B w w')(hg:B<=g):Below B w (cA w' g v0 v1 v2 v3 v4 v5 v6 v7 v8 v9 v10 v11):=
 ((((((((((((h.setCell (p:=⟨g,0,none⟩) hg _).setCell (p:=⟨g,1,none⟩) hg _).setCell (p:=⟨g,2,none⟩) hg _).setCell (p:=⟨g,3,none⟩) hg _).setCell (p:=⟨g,4,none⟩) hg _).setCell (p:=⟨g,5,none⟩) hg _).setCell (p:=⟨g,6,none⟩) hg _).setCell (p:=⟨g,7,none⟩) hg _).setCell (p:=⟨g,8,none⟩) hg _).setCell (p:=⟨g,9,none⟩) hg _).setCell (p:=⟨g,10,none⟩) hg _).setCell (p:=⟨g,11,none⟩) hg _)
def iT(k:Nat):Bool:=k == 4 || k == 3
theorem rl(k:Nat)(s:ByteArray)(x:Int)(A:Option Addr)(n c:Nat)(w:World):Calls Tryz.prog 71 #[.agg #[.int .u8 k,.string s,.int .i64 x,.slice A n c]] w (ak (iT k) w):=by
 have hb0:Below w.heap.size w (w.alloc (.cells #[.int .u8 k,.string s,.int .i64 x,.slice A n c] 25)):=(ai _ _).alloc (ah _) _;have HB0:=aa hb0;have HBX:=aa (di (heap_alloc_new w (.cells #[.int .u8 k,.string s,.int .i64 x,.slice A n c] 25)));have c0:=HBX.out.c0;clear hb0;by_cases h4:k=4
 .subst h4;have HV:Hid (iT 4=true):=rfl
  go_in
  go_wp2_with fail;all_goals
   go_ret;exact ak.intro HV.out.symm HB0.out
 .have e1:((k:Int) == 4)=false:=(by simp;omega);by_cases h3:k=3
  .subst h3;have HV:Hid (iT 3=true):=rfl
   go_in
   go_wp2_with fail;all_goals
    go_ret;exact ak.intro HV.out.symm HB0.out
  .have e2:((k:Int) == 3)=false:=(by simp;omega);have HV:Hid (iT k=false):=(by show _=_;simp[iT,h3,h4]);clear h3 h4
   go_in
   go_wp2_with fail;all_goals
    go_ret;exact ak.intro HV.out.symm HB0.out
theorem GO(args:Array Value)(w:World):(callFunc 71 args).run Tryz.prog w= .ok (.enter 71 args) w:=eH Tryz.func71 (by kernel_rfl) (by kernel_rfl) args w
def dH(ts:List ag):Bool:=ts.any fun t=>iT t.kind
theorem zf{ts:List ag}{j:Nat}{t:ag}(h:dH ts=dH (ts.drop j))(hx:ts[j]? =some t):dH ts=(iT t.kind || dH (ts.drop (j+1))):=by have h1:j<ts.length:=(gl.1 hx).1;rw[h,List.drop_eq_getElem_cons h1];rw[br h1] at hx;injection hx with hx;rw[hx];rfl
def kY(b:Bool)(w:World)(e:Ending)(w':World):Prop:=Below w.heap.size w w'/\∃i:Int,e= .returned (.int .i64 i)/\(0<=i↔b=true)
theorem kY.intro{b:Bool}{w w':World}{i:Int}(hb:Below w.heap.size w w')(h:0<=i↔b=true):kY b w (.returned (.int .i64 i)) w':=⟨hb,i,rfl,h⟩
theorem yt(ts:List ag)(A:Option Addr)(n c:Nat)(w:World)(hK:ce w ts A n c):Calls Tryz.prog 119 #[.slice A n c,.func (.func 71) #[] #[]] w (kY (dH ts) w):=by
 have HK:=aa hK;have hnn:n<=9223372036854775807:=(by have h1:=hK.2.1;have h2:=hK.2.2.1;unfold maxLen at h2;omega);have HL:Hid (n=ts.length):=hK.1;have hcf:=GO;clear hK
 go_in
 go_wp2_with fail;go_loopw [8] (fun i wr=>∃j:Nat,j<=n/\i= .int .i64 j/\Hid (Below w.heap.size w wr)/\Hid (dH ts=dH (ts.drop j))) (fun i _=>n - (intOf i).toNat);case atStart=>exact⟨0,aE _,rfl,ai _ _,rfl⟩
 case round=>
  obtain⟨j,hj,rfl,HB,HI⟩:=hrel;by_cases hlt:j<n
  .obtain⟨b,o,t,rfl,ht,hat⟩:=(HK.out.below HB.out).get hlt;obtain⟨B1,d1,q0,q1,q2,q3,hnode⟩:=hat.cells;have HST:=aa (zf HI.out ht);clear ht hat hnode;cases hn:iT t.kind with
   |false=>
    have HNN:=aa hn;have HN:Hid (dH ts=dH (ts.drop (j+1))):=(by show _=_;rw[HST.out,hn];rfl);clear hn;go_wp2_with fail;refine(rl _ _ _ _ _ _ _).mono ?_;rintro e w3 ⟨rfl,hb3⟩;rw[HNN.out];have HB3:=aa (af HB.out hb3);clear hb3;go_wp2;go_roundw;case rel=>exact⟨j+1,by omega,by go_num,HB3,HN⟩
    case measure=>simp[intOf];omega
   |true=>have HNN:=aa hn;have HV:Hid (dH ts=true):=(by show _=_;rw[HST.out,hn];rfl);clear hn;go_wp2_with fail;refine(rl _ _ _ _ _ _ _).mono ?_;rintro e w3 ⟨rfl,hb3⟩;rw[HNN.out];have HB3:=aa (af HB.out hb3);clear hb3;go_wp2;go_ret;exact kY.intro HB3.out (by rw[HV.out];simp)
  .have HV:Hid (dH ts=false):=by show _=_;have e1:=HL.out;rw[HI.out,List.drop_eq_nil_of_le (by omega)];rfl
   go_wp2_with fail;go_ret;exact kY.intro HB.out (by rw[HV.out];simp)
theorem xE(ts:List ag)(A:Option Addr)(n c:Nat)(w:World)(hK:ce w ts A n c):Calls Tryz.prog 70 #[.slice A n c,.func (.func 71) #[] #[]] w (ak (dH ts) w):=by
 have HK:=aa hK;clear hK
 go_in
 go_wp2_with fail;refine(yt ts _ _ _ _ HK.out).mono ?_;rintro e w1 ⟨hb,i,rfl,hi⟩;have HI:=aa hi;have HB:=aa hb;clear hi hb;go_wp2;go_ret;exact ak.intro (by rw[Bool.eq_iff_iff,<-HI.out];simp) HB.out
end Go.Proofs.YtckbdkgcoilmpaaGreatDoor
