/- Part 20 of the proof. -/
import Derived.RangeFuncBound
import Derived.Shelf.Abstract
import Derived.Shelf.RegionOpen
import Derived.OwnWalkIn
import Derived.TacticsInMore
import Derived.LoopNIn
import Derived.LoopIn
import Derived.Laws.CopyRow
import Derived.Lib.Overlaps
import Derived.Laws.Externs
import Derived.Deep.RegionHeld
import Derived.Test.YtfipahjodfminaaGreatDoorMnS
namespace Go.Proofs.YtfipahjodfminaaGreatDoor
open Go.RowKit
set_option linter.all false
set_option maxHeartbeats 40000000
set_option maxRecDepth 100000
section
open Go.RowKit Go.Shelf
attribute [local go_sem] Oper.semAt_some
def jr(b:j9):I9:=b.uses.map fun u=>(u,b.path)
def mA(bs:List j9)(i j:Nat):I9:=(bs.take i).flatMap jr++(match bs[i]? with|some b=>(jr b).take j|none=>[])
theorem RQ(bs:List j9){i:Nat}(h:bs.length<=i):mA bs i 0=bs.flatMap jr:=by unfold mA;rw[List.take_of_length_le h,List.getElem?_eq_none h];simp
theorem RR{bs:List j9}{i:Nat}{b:j9}(hb:bs[i]? =some b):mA bs (i+1) 0=mA bs i b.uses.length:=by
 unfold mA;obtain⟨h1,h2⟩:=gl.1 hb;rw[hb,List.take_succ_eq_append_getElem h1,h2];have:(match bs[i+1]? with|some b=>(jr b).take 0|none=>[])=[]:=by split<;>simp
 rw[this];have h3:(jr b).take b.uses.length=jr b:=List.take_of_length_le (by simp[jr]);simp only[List.append_nil];rw[h3];simp[List.flatMap_append]
theorem RS{bs:List j9}{i j:Nat}{b:j9}{u:List Int}(hb:bs[i]? =some b)(hu:b.uses[j]? =some u):mA bs i (j+1)=mA bs i j++[(u,b.path)]/\(mA bs i j++[(u,b.path)])<+:bs.flatMap jr:=by
 have h1:mA bs i (j+1)=mA bs i j++[(u,b.path)]:=by unfold mA;rw[hb];simp only;obtain⟨k1,k2⟩:=gl.1 hu;rw[List.take_succ_eq_append_getElem (by simpa[jr] using k1),<-List.append_assoc];simp[jr,k2]
 refine⟨h1,?_⟩;rw[<-h1];unfold mA;rw[hb];simp only;obtain⟨k1,k2⟩:=gl.1 hb;have h3:bs.flatMap jr=(bs.take i).flatMap jr++(jr b++(bs.drop (i+1)).flatMap jr):=by
  conv=>lhs;rw[<-List.take_append_drop i bs]
  rw[List.flatMap_append,List.drop_eq_getElem_cons k1,k2,List.flatMap_cons]
 rw[h3];obtain⟨r,hr⟩:=List.take_prefix (j+1) (jr b);refine⟨r++(bs.drop (i+1)).flatMap jr,?_⟩;have e:((bs.take i).flatMap jr++(jr b).take (j+1))++(r++(bs.drop (i+1)).flatMap jr)=(bs.take i).flatMap jr++(((jr b).take (j+1)++r)++(bs.drop (i+1)).flatMap jr):=(by simp only[List.append_assoc]);rw[e,hr]
theorem cc.kept{A B:World}{zs:List Int}{a:Option Addr}{n c:Nat}(h:cc A zs a n c)(hk:lQ A B):cc B zs a n c:=h.keep fun _ _ hc=>hk.cell hc
theorem bT.kept{A B:World}{zs:List Int}{a:Option Addr}(h:bT A zs a)(hk:lQ A B):bT B zs a:=h.imp id fun⟨b,o,cs,fr,e,hb⟩=>⟨b,o,cs,fr,e,hk.2 _ _ hb rfl⟩
theorem Cd.kept{A B:World}{p:List Int}{v:Value}(h:Cd A p v)(hk:lQ A B):Cd B p v:=by obtain⟨a,c,e,h1,h2⟩:=h;exact⟨a,c,e,h1.kept hk,h2.kept hk⟩
theorem Cv.kept{w w':World}{us:List (List Int)}{A:Option Addr}{n c:Nat}(h:Cv w us A n c)(hk:lQ w w'):Cv w' us A n c:=by obtain⟨h1,h2,h3,h4⟩:=h;refine⟨h1,h2,h3,h4.imp id ?_⟩;rintro⟨g,o,e,h⟩;exact⟨g,o,e,fun j p hp'=>by obtain⟨v,hv,hq⟩:=h j p hp';exact⟨v,hk.cell hv,hq.kept hk⟩⟩
theorem CH.kept{w w':World}{b:j9}{Ap:Option Addr}{pl pc:Nat}{Au:Option Addr}{un uc:Nat}(h:CH w b Ap pl pc Au un uc)(hk:lQ w w'):CH w' b Ap pl pc Au un uc:=⟨h.path.kept hk,h.pathT.kept hk,h.uses.kept hk⟩
theorem Co.kept{w w':World}{l:List j9}{A:Option Addr}{n c:Nat}(h:Co w l A n c)(hk:lQ w w'):Co w' l A n c:=by obtain⟨h1,h2,h3,h4⟩:=h;refine⟨h1,h2,h3,h4.imp id ?_⟩;rintro⟨g,o,e,h⟩;exact⟨g,o,e,fun j b hj=>by obtain⟨Ap,pl,pc,Au,un,uc,k0,k1,k2,k3⟩:=h j b hj;exact⟨Ap,pl,pc,Au,un,uc,hk.cell k0,hk.cell k1,hk.cell k2,k3.kept hk⟩⟩
theorem Oy(T:ag)(k:Nat)(s:ByteArray)(x:Int)(A:Option Addr)(n c bx:Nat)(w:World)(m:Nat)(hm:1<=m)(hN:cf w T k s x A n c)(hsh:T.short 281474976710656)(hsz:T.sz<=100000)(hE:bI w)(c0:w.cell? ⟨bx,0,none⟩=some (.int .u8 k))(c1:w.cell? ⟨bx,1,none⟩=some (.string s))(c2:w.cell? ⟨bx,2,none⟩=some (.int .i64 x))(c3:w.cell? ⟨bx,3,none⟩=some (.slice A n c)):MH Fence.wide m Tryz.prog 79 #[.pointer (some ⟨bx,0,none⟩)] (kb T) w:=by
 intro l J Jx W hW hJ hJx hY h0;have hEW:bI W:=hE.below hW (ah _);have HC:=ab (Ev T k s x A n c W (hN.below hW) hsh hsz hEW);have HJ:=ab hJ;have HX:=ab hJx;have HY:=ab hY;have H0:=ab h0;have d0:=ac hW c0;have d1:=ac hW c1;have d2:=ac hW c2;have d3:=ac hW c3;clear hJ hJx hY h0 c0 c1 c2 c3 hN hE hW hEW;refine callsIn_of_wp Tryz.func79 rfl trivial ?_ rfl;simp only[Tryz.ntmps79,List.size_toArray,List.length_cons,List.length_nil,Nat.reduceAdd,Nat.reduceSub,Array.replicate_succ,Array.replicate_zero,List.push_toArray,List.append_toArray,List.nil_append,List.cons_append]
 gi_wp2_with (refine⟨trivial,?_⟩;gi_at_call 61;refine(callsIn_wide.2 HC.out).mono ?_;intro e w1 hp;obtain⟨hb1,A1,n1,q1,rfl,hv⟩:=D4.read hp;have HB1:=ab hb1;have HV:=ab hv;have HJ1:=ab (HJ.out [] _ _ H0.out hb1);clear hp hb1 hv)
 have HN1:Hid (n1=(i5 T).length/\n1<=9223372036854775807):=⟨HV.out.1,by have h1:=HV.out.2.1;have h2:=HV.out.2.2.1;unfold maxLen at h2;omega⟩
 gi_loopw [10] (fun i wr=>∃j:Nat,j<=n1/\i= .int .i64 j/\Hid (lQ w1 wr)/\Hid (J (mA (i5 T) j 0) wr)) (fun i _=>n1 - (intOf i).toNat)
 case atStart=>exact⟨0,aE _,rfl,lQ.refl _,by rw[show mA (i5 T) 0 0=[] from by unfold mA;simp;split<;>simp];exact HJ1.out⟩
 case round=>
  obtain⟨j,hj,rfl,HK,HJJ⟩:=hrel;by_cases hlt:j<n1
  .obtain⟨g,o,b,Ap,pl,pc,Au,un,uc,rfl,ht,q0,q1,q2,hx⟩:=(HV.out.kept HK.out).get hlt;have HX:=ab hx;have HT:=ab ht;clear ht hx;have hB2:Below wr.heap.size wr (wr.alloc (.cells #[.slice Ap pl pc,.string (sb b.name),.slice Au un uc] 71)):=(ai _ _).alloc (ah _) _;have HX2:=ab (HX.out.below hB2);have HJ2:=ab (HJ.out _ _ _ HJJ.out hB2);have HK2:=ab (HK.out.trans (lQ.below hB2));have HUN:Hid (un=b.uses.length/\un<=9223372036854775807):=⟨HX.out.uses.1,by have h1:=HX.out.uses.2.1;have h2:=HX.out.uses.2.2.1;unfold maxLen at h2;omega⟩;have p0:(wr.alloc (.cells #[.slice Ap pl pc,.string (sb b.name),.slice Au un uc] 71)).cell? ⟨wr.heap.size,0,none⟩=some (.slice Ap pl pc):=(by simp);clear hB2;have hun:=HUN.out.2;have HLT:=ab hlt
   gi_wp2
   generalize hW2:wr.alloc (.cells #[.slice Ap pl pc,.string (sb b.name),.slice Au un uc] 71)=W2 at HX2 HJ2 HK2 p0 ⊢
   gi_loopw [17] (fun i wr2=>∃z:Nat,z<=un/\i= .int .i64 z/\Hid (lQ W2 wr2)/\Hid (J (mA (i5 T) j z) wr2)) (fun i _=>un - (intOf i).toNat)
   case atStart=>exact⟨0,aE _,rfl,lQ.refl _,HJ2.out⟩
   case round=>
    obtain⟨z,hz,rfl,HK3,HJ3⟩:=hrel;have p1:=HK3.out.cell p0;by_cases hlz:z<un
    .obtain⟨g',o',u,A',c',rfl,hu,r0,hui,hut⟩:=(HX2.out.uses.kept HK3.out).get hlz;have HU:=ab (RS HT.out hu);obtain⟨fn,tmps,assign,body,hy,hR⟩:=HY.out (mA (i5 T) j z) (u,b.path) ⟨A',u.length,c',Ap,pl,pc⟩ _ HJ3.out HU.out.2 ⟨hui,HX2.out.path.kept HK3.out⟩;dsimp only[PV.enc] at hy;clear hu hui hut
     gi_wp2
     refine hR.mono ?_;rintro e W3 (⟨rfl,hJ3,hk3⟩|⟨rfl,hx3⟩)
     .have HK4:=ab (HK3.out.trans hk3);have HJ4:Hid (J (mA (i5 T) j (z+1)) W3):=(by show J _ _;rw[HU.out.1];exact hJ3);clear hk3 hJ3
      gi_wp2
      go_roundw;case rel=>exact⟨z+1,by omega,by go_num,HK4,HJ4⟩
      case measure=>simp[intOf];omega
     .gi_wp2
      refine bodyPost_ret (results_none rfl _ _ _) rfl ?_;exact⟨⟨_,rfl⟩,.inr hx3⟩
    .have hzu:z=un:=(by omega);subst hzu;have h5:=HJ3.out;rw[HUN.out.1,<-RR HT.out] at h5;have HJ4:=ab h5;clear h5;have HK5:=ab (HK2.out.trans HK3.out);have hnb:=HN1.out.2;have hl2:=HLT.out
     gi_wp2
     go_roundw;case rel=>exact⟨j+1,by have:=HLT.out;omega,by go_num,HK5,HJ4⟩
     case measure=>have:=HLT.out;simp[intOf];omega
  .have hjn:j=n1:=(by omega);subst hjn;have HD:Hid (J (kb T) wr):=by have h:=HJJ.out;rw[RQ _ (by have:=HN1.out.1;omega)] at h;exact h
   gi_wp2
   go_end0
   exact⟨⟨_,rfl⟩,.inl HD.out⟩
end
theorem Ls{P:Program}(w:World)(dT sT ty elem:TypeId)(size:Nat)(g o dLen dCap:Nat)(a:Addr)(sLen sCap:Nat)(cur:Array Value)(t:TypeId)(cs:List Value)(hu:P.underlying dT=some (.slice elem))(hs:(P.info? elem).map (·.size)=some size)(hg:w.heap[g]? =some (.cells cur t (0,0)))(hn:cs.length=Nat.min sLen dLen*size)(hsrc:∀j v,cs[j]? =some v->w.cell? (a.add j)=some v)(hfit:o+cs.length<=cur.size)(h1:∀v∈cs,v.oneCell'=true):(Builtin.copy_ #[dT,sT] ty #[.slice (some ⟨g,o,none⟩) dLen dCap,.slice (some a) sLen sCap]).run P w= .ok (goInt (Nat.min sLen dLen)) (w.setRow g (cur.toList.take o++cs++cur.toList.drop (o+cs.length)).toArray):=by
 have hl:=run_loadCells_list (P:=P) w a cs hsrc;have hst:=run_storeCells_at P g o t cs 0 cur w hg (by simpa using hfit) h1;cases hq:P.info? elem with
 |none=>simp[hq] at hs
 |some i=>have hi:i.size=size:=(by simpa[hq] using hs);simp[Builtin.copy_,run_underlying hu,Builtin.lenOf,Builtin.firstCells,sizeOf,typeInfo,hq,hi,<-hn,hl,hst]
theorem Oj{P:Program}{ops:Array Oper}{o:Oper}{a:Act}{w:World}{K:Act->World->Prop}{Q:Exit->Act->World->Prop}{E:Prop}(hg:o.guard=none)(d x:Operand)(dT sT:TypeId)(hop:o.op=Op.call { callee:=Callee.builtin Builtin.copy,args:=#[d,x],argTypes:=#[dT,sT] })(v u:Value)(hd:a.eval d=v)(hx:a.eval x=u){v':Value}{w':World}(hr:(Builtin.copy_ #[dT,sT] o.type #[v,u]).run P w= .ok v' w')(hK:K (a.put o.dst v') w'):if Region.wanted o (yielded ops a.tmps)=true then Oper.wp P o a w K Q else E:=by have hw:Region.wanted o (yielded ops a.tmps)=true:=(by simp[Region.wanted,hg]);rw[if_pos hw];unfold Oper.wp;simp[execOp,hop,resolve,invoke,builtin,hd,hx,hr,Result.andThen];exact hK
theorem R7{P:Program}(w:World){o:Oper}{a:Act}{K:Act->World->Prop}{Q:Exit->Act->World->Prop}(d s:Operand)(t t':TypeId)(ho:o.op= .call { callee:=.builtin .copy,args:=#[d,s],argTypes:=#[t,t'] })(v u:Value)(hd:a.eval d=v)(hs:a.eval s=u){v':Value}{w':World}(hr:(Builtin.copy_ #[t,t'] o.type #[v,u]).run P w= .ok v' w')(h:K (a.put o.dst v') w'):o.wp P a w K Q:=by unfold Oper.wp execOp;simp only[ho,resolve,invoke,builtin,Sem.run_bind,Sem.run_pure,Result.andThen_ok,List.map_toArray,List.map_cons,List.map_nil,hd,hs,hr];exact h
theorem OD{P:Program}(w:World){ops:Array Oper}{rest:List Oper}{o:Oper}{a:Act}{Q:Exit->Act->World->Prop}(hgd:o.guard=none)(d s:Operand)(t t':TypeId)(ho:o.op= .call { callee:=.builtin .copy,args:=#[d,s],argTypes:=#[t,t'] })(v u:Value)(hd:a.eval d=v)(hs:a.eval s=u){v':Value}{w':World}(hr:(Builtin.copy_ #[t,t'] o.type #[v,u]).run P w= .ok v' w')(h:wpList P ops Q rest (a.put o.dst v') w'):wpList P ops Q (o::rest) a w:=
 wpList_plain hgd fun _ hK=>R7 w d s t t' ho v u hd hs hr (hK _ _ h)
theorem Rf(w:World)(ty:TypeId)(a:Addr)(i c n:Nat)(cs:List Value)(hl:cs.length=i*4)(hc:∀j v,cs[j]? =some v->w.cell? (a.add j)=some v)(hroom:c<i+n)(h0:0<n)(hn:i+n<=1000000):∃cap,(Builtin.append_ #[23,3] ty #[.slice (some a) i c,.int .i64 n]).run Tryz.prog w= .ok (.slice (some ⟨w.heap.size,0,none⟩) (i+n) cap) (w.drew.alloc (.cells (cs.toArray++Builtin.zeroCells (Value.agg #[.int .u8 0,.string ⟨#[]⟩,.int .i64 0,.slice none 0 0]).cells n++Builtin.zeroCells (Value.agg #[.int .u8 0,.string ⟨#[]⟩,.int .i64 0,.slice none 0 0]).cells (cap - (i+n))) 25))/\i+n<=cap/\cap<=maxLen:=by
 obtain⟨i0,hi,hz0,hz1,hz2⟩:=info_parts Tryz.infoNode;have hge:=grownCap_ge w (i+n) c 25;have hle:=grownCap_le_maxLen w (i+n) c 25 (by unfold maxLen;omega);refine⟨grownCap w (i+n) c 25,?_,hge,hle⟩;have hw:IntKind.i64.wrap (n:Int)=n:=(by rw[IntKind.wrap_i64];omega);have hne:n≠0:=(by omega);have hneg:¬((n:Int)<0):=(by omega);have hroom':¬(i+n<=c):=(by omega);have h63':¬(9223372036854775807< (i:Int)+(n:Int)):=(by omega);have hcap:Builtin.nextslicecap (i+n) c<=2000000:=by have:=nextslicecap_le (need:=i+n) (old:=c) (by omega);omega
 have h48':¬(281474976710656<Builtin.nextslicecap (i+n) c*56):=(by omega);have h48i:¬(281474976710656< (n:Int) *56):=(by omega);have hfc:=run_firstCells_some (P:=Tryz.prog) (w:=w.drew) 4 i a i c cs hl (fun j v hj=>hc j v hj);simp[Builtin.append_,run_underlying Tryz.underlying23,run_underlying Tryz.underlying3,sizeOf,typeInfo,zeroValue,hi,hz0,hz1,hz2,asInt,asIntOf,hw,hne,hneg,hroom',h63',h48',h48i,Question.forced,hfc,newRow,grownCap];intro h4;omega
def J1(base:Nat)(A:Option Addr)(n c:Nat)(cs:List Value)(w:World)(e:Ending)(w':World):Prop:=
 ∃(A':Option Addr) (c':Nat),e= .returned (.slice A' (n+1) c')/\w'.ownsRow base 25 4 (.slice A' (n+1) c') (n+1) cs/\w.grownBy w' (Value.slice A n c).ownBlock/\∀q,(Value.slice A' (n+1) c').ownBlock=some q->(Value.slice A n c).ownBlock=some q∨w.heap.size<=q
structure MD (w:World) (g n c:Nat) (cur:Array Value) (cs:List Value):Prop where
 blk:w.heap[g]? =some (.cells cur 25 (0,0))
 size:cur.size=c*4
 take:cur.toList.take (n*4)=cs
 le:n<=c
 cap:c<=maxLen
theorem Li{w:World}{base g n c:Nat}{cs:List Value}(h:w.ownsRow base 25 4 (.slice (some ⟨g,0,none⟩) n c) n cs):∃cur,MD w g n c cur cs/\base<=g/\cs.length=n*4:=by
 obtain⟨h1,h2⟩:=h;rcases h2 with ⟨e,_⟩|⟨g',c',cur,e,hb,hg,h3,h4,h5,h6⟩
 .cases e
 .injection e with e1 e2 e3;injection e1 with e1;injection e1 with e1;subst e1 e3;exact⟨cur,⟨hg,h5,h6,h3,h4⟩,hb,h1⟩
structure JN (w:World) (vb:Nat) (vs:List Value):Prop where
 blk:∃(cur:Array Value) (T:TypeId),w.heap[vb]? =some (.cells cur T (0,0))/\∀(j:Nat) (v:Value),vs[j]? =some v->cur[j]? =some v
 len:vs.length=4
 one:∀v∈vs,v.oneCell'=true
theorem JN.cell{w:World}{vb:Nat}{vs:List Value}(h:JN w vb vs){j:Nat}{v:Value}(hv:vs[j]? =some v):w.cell? ⟨vb,j,none⟩=some v:=by obtain⟨cur,T,h1,h2⟩:=h.blk;simp[World.cell?,h1,h2 j v hv]
theorem QG(cs vs:List Value)(base:Nat)(A:Option Addr)(n c vb vc:Nat)(w:World)(hown:w.ownsRow base 25 4 (.slice A n c) n cs)(hn:n<=100000)(hv:JN w vb vs)(hbase:base<=w.heap.size):Calls Tryz.prog 102 #[.slice A n c,.int .i64 n,.slice (some ⟨vb,0,none⟩) 1 vc] w (J1 base A n c (cs++vs) w):=by
 obtain⟨i0,hi,hz0,hz1,hz2⟩:=info_parts Tryz.infoNode;have HO:=ab hown;have HV:=ab hv;have hc:n<=c/\c<=maxLen:=(by obtain⟨A',c',e,h1,h2⟩:=t9 hown;injection e with _ _ e;subst e;exact⟨h1,h2⟩);have hcm:c<=9223372036854775807:=(by have:=hc.2;unfold maxLen at this;omega);have hnc:=hc.1;clear hown hv hc;cases A with
 |none=>
  have h0:n=0/\c=0:=by
   rcases HO.out.2 with ⟨e,h⟩|⟨g,cap,cur,e,_⟩
   .injection e with _ _ e;exact⟨h,e⟩
   .cases e
  obtain⟨rfl,rfl⟩:=h0
  go_in
  go_wp2_with (at_builtin;refine wpList_append_lies _ rfl _ _ 23 rfl base 25 i0 _ 4 56 Tryz.underlying23 hi hz0 hz1 hz2 rfl (by omega) _ _ cs rfl HO.out ⟨vb,0,none⟩ 1 vc vs rfl (by rw[HV.out.len]) (fun j u hu=>by rw[CE,Nat.zero_add];exact HV.out.cell hu) HV.out.one (by omega) (by unfold maxLen;omega) (by omega) hbase _ rfl ?_;intro g' cap' w' ho' hg' hlies' _);all_goals
   have HO2:=ab ho';have HG2:=ab hg';have HL2:=ab hlies';clear ho' hg' hlies';try go_wp2_with fail
   go_ret;exact⟨_,_,rfl,HO2.out,HG2.out,fun q hq=>by
    have e:g'=q:=(by simpa[Value.ownBlock] using hq);subst e;rcases HL2.out with h|h
    .exact .inl h
    .exact .inr (by omega)⟩
 |some a=>
  obtain⟨g,rfl⟩:∃g,a=⟨g,0,none⟩:=by
   rcases HO.out.2 with ⟨e,h⟩|⟨g,cap,cur,e,_⟩
   .cases e
   .injection e with e;injection e with e;exact⟨g,e⟩
  go_in
  go_wp2_with (at_builtin;refine wpList_append_lies _ rfl _ _ 23 rfl base 25 i0 _ 4 56 Tryz.underlying23 hi hz0 hz1 hz2 rfl (by omega) _ _ cs rfl HO.out ⟨vb,0,none⟩ 1 vc vs rfl (by rw[HV.out.len]) (fun j u hu=>by rw[CE,Nat.zero_add];exact HV.out.cell hu) HV.out.one (by omega) (by unfold maxLen;omega) (by omega) hbase _ rfl ?_;intro g' cap' w' ho' hg' hlies' _);all_goals
   have HO2:=ab ho';have HG2:=ab hg';have HL2:=ab hlies';clear ho' hg' hlies';try go_wp2_with fail
   go_ret;exact⟨_,_,rfl,HO2.out,HG2.out,fun q hq=>by
    have e:g'=q:=(by simpa[Value.ownBlock] using hq);subst e;rcases HL2.out with h|h
    .exact .inl h
    .exact .inr (by omega)⟩
theorem Q8{w:World}{g:Nat}{cur:Array Value}{T:TypeId}(h:w.heap[g]? =some (.cells cur T (0,0))){o:Nat}{cs:List Value}(hc:∀j v,cs[j]? =some v->cur.toList[o+j]? =some v):∀j v,cs[j]? =some v->w.cell? ((⟨g,o,none⟩:Addr).add j)=some v:=by intro j v hv;rw[CE];have:=hc j v hv;simpa[World.cell?,h] using this
theorem Oo{cs:List Value}{k j:Nat}{v:Value}(h:(cs.take k)[j]? =some v):cs[j]? =some v:=by
 rw[List.getElem?_take] at h;split at h
 .exact h
 .cases h
theorem KD{w:World}{g n c:Nat}{cur:Array Value}{cs:List Value}(h:MD w g n c cur cs){j:Nat}{v:Value}(hv:cs[j]? =some v):cur.toList[j]? =some v:=by rw[<-h.take] at hv;exact Oo hv
theorem Pr(w:World){i q cap n:Nat}{cs:List Value}(hl:cs.length=n*4)(hi:i<=n)(hq:i+q=n+1)(hc:n+1<=cap):(((cs.take (i*4)).toArray++Builtin.zeroCells (Value.agg #[.int .u8 0,.string ⟨#[]⟩,.int .i64 0,.slice none 0 0]).cells q++Builtin.zeroCells (Value.agg #[.int .u8 0,.string ⟨#[]⟩,.int .i64 0,.slice none 0 0]).cells (cap - (i+q)):Array Value)).size=cap*4/\(((cs.take (i*4)).toArray++Builtin.zeroCells (Value.agg #[.int .u8 0,.string ⟨#[]⟩,.int .i64 0,.slice none 0 0]).cells q++Builtin.zeroCells (Value.agg #[.int .u8 0,.string ⟨#[]⟩,.int .i64 0,.slice none 0 0]).cells (cap - (i+q)):Array Value)).toList.take (i*4)=cs.take (i*4):=by
 have h4:(Value.agg #[.int .u8 0,.string ⟨#[]⟩,.int .i64 0,.slice none 0 0]).cells.size=4:=rfl;constructor
 .simp only[Array.size_append,List.size_toArray,size_zeroCells,h4,List.length_take,hl];omega
 .rw[Array.toList_append,Array.toList_append,List.append_assoc,List.take_append_of_le_length (by simp;omega)];simp[List.take_take]
theorem Lw{X ds Y:List Value}{m:Nat}(h:m=X.length+ds.length):(X++ds++Y).take m=X++ds:=by subst h;rw[List.take_append_of_le_length (by simp),List.take_of_length_le (by simp)]
theorem Rb{L1 cs vs:List Value}{a n:Nat}(hv:vs.length=4)(hl:cs.length=n*4)(ha:a<=n*4)(h1:L1.take a=cs.take a)(h2:(n+1) *4<=L1.length):let L2:=L1.take a++vs++L1.drop (a+vs.length)
 (L2.take (a+4)++cs.drop a++L2.drop (a+4+(cs.drop a).length)).take ((n+1) *4)=cs.take a++vs++cs.drop a:=by
 intro L2;have e:L2.take (a+4)=cs.take a++vs:=by rw[<-h1];exact Lw (by simp;omega)
 rw[e];exact Lw (by simp;omega)
theorem Rc{L cs vs:List Value}{a n:Nat}(hv:vs.length=4)(hl:cs.length=n*4)(ha:a<=n*4)(h1:L.take (n*4)=cs)(h2:(n+1) *4<=L.length):let L2:=L.take (a+4)++cs.drop a++L.drop (a+4+(cs.drop a).length)
 (L2.take a++vs++L2.drop (a+vs.length)).take ((n+1) *4)=cs.take a++vs++cs.drop a:=by
 intro L2;have e1:L2.take a=cs.take a:=by
  show(L.take (a+4)++cs.drop a++_).take a=_;rw[List.append_assoc,List.take_append_of_le_length (by simp;omega),List.take_take,<-h1,List.take_take]
  congr 1
  omega
 have e2:L2.drop (a+vs.length)=cs.drop a++L.drop (a+4+(cs.drop a).length):=by show(L.take (a+4)++cs.drop a++_).drop _=_;rw[hv,List.append_assoc];have hx:(L.take (a+4)).length=a+4:=(by simp;omega);exact List.drop_left' hx
 rw[e1,e2,<-List.append_assoc];exact Lw (by simp;omega)
theorem QH(cs vs:List Value)(base g n c i vb vc:Nat)(w:World)(hown:w.ownsRow base 25 4 (.slice (some ⟨g,0,none⟩) n c) n cs)(hn:n<=100000)(hi:i<n)(hc:c<n+1)(hv:JN w vb vs)(hbase:base<=w.heap.size)(h1c:∀v∈cs,v.oneCell'=true):Calls Tryz.prog 102 #[.slice (some ⟨g,0,none⟩) n c,.int .i64 i,.slice (some ⟨vb,0,none⟩) 1 vc] w (J1 base (some ⟨g,0,none⟩) n c (cs.take (i*4)++vs++cs.drop (i*4)) w):=by
 obtain⟨cur,hR,hbg,hcl⟩:=Li hown;have hcm:c<=9223372036854775807:=(by omega);have hnc:n=c:=(by have:=hR.le;omega);obtain⟨q,hq⟩:∃q:Nat,i+q=n+1:=⟨n+1 - i,by omega⟩;have hqi:(n:Int)+1 - i=(q:Int):=(by omega);have hci:¬c=i:=(by omega);have hni:¬(i:Int)=n:=(by omega);have hroom:(c:Int)< (n:Int)+1:=(by omega);have hin:(i:Int)<=n:=(by omega);have hic:(i:Int)<=c:=(by omega);have hnib:((i:Int) == n)=false:=(by simpa using hni);have htl:(cs.take (i*4)).length=i*4:=(by rw[List.length_take,hcl];omega);have hsrc:∀j v,(cs.take (i*4))[j]? =some v->w.cell? ((⟨g,0,none⟩:Addr).add j)=some v:=Q8 hR.blk fun j v hv=>by rw[Nat.zero_add];exact KD hR (Oo hv)
 obtain⟨cap,hrun,hcp,hcx⟩:=Rf w 23 ⟨g,0,none⟩ i c q (cs.take (i*4)) htl hsrc (by omega) (by omega) (by omega);obtain⟨z1,z2⟩:=Pr w (i:=i) (q:=q) (cap:=cap) (n:=n) (cs:=cs) hcl (by omega) hq (by omega);obtain⟨cur1,hcur1⟩:∃cur1,cur1=((cs.take (i*4)).toArray++Builtin.zeroCells (Value.agg #[.int .u8 0,.string ⟨#[]⟩,.int .i64 0,.slice none 0 0]).cells q++Builtin.zeroCells (Value.agg #[.int .u8 0,.string ⟨#[]⟩,.int .i64 0,.slice none 0 0]).cells (cap - (i+q)):Array Value):=⟨_,rfl⟩;rw[<-hcur1] at z1 z2 hrun;obtain⟨W1,hW1⟩:∃W1,W1=w.drew.alloc (.cells cur1 25):=⟨_,rfl⟩;rw[<-hW1] at hrun;have hg1:W1.heap[w.heap.size]? =some (.cells cur1 25 (0,0)):=(by rw[hW1];exact heap_alloc_new _ _);have hold:∀k,k<w.heap.size->W1.heap[k]? =w.heap[k]? :=fun k hk=>by rw[hW1];exact hpo w.drew _ hk
 have hs1:W1.heap.size=w.heap.size+1:=(by rw[hW1];simp);have hgr1:W1.os=w.os/\W1.tape=w.tape/\W1.output=w.output:=(by rw[hW1];exact⟨rfl,rfl,rfl⟩);clear hW1 hcur1;have hglt:g<w.heap.size:=(aK.1 hR.blk).1;obtain⟨L2,hL2⟩:∃L2,L2=cur1.toList.take (i*4)++vs++cur1.toList.drop (i*4+vs.length):=⟨_,rfl⟩;obtain⟨L3,hL3⟩:∃L3,L3=L2.take (i*4+4)++cs.drop (i*4)++L2.drop (i*4+4+(cs.drop (i*4)).length):=⟨_,rfl⟩;have hz1':cur1.toList.length=cap*4:=(by simpa using z1);have hrows:L3.take ((n+1) *4)=cs.take (i*4)++vs++cs.drop (i*4):=by rw[hL3,hL2];exact Rb hv.len hcl (by omega) z2 (by omega)
 have hl2:L2.length=cap*4:=(by rw[hL2];simp[hv.len,hz1'];omega);have hl3:L3.length=cap*4:=(by rw[hL3];simp[hl2,hcl];omega);have hvsz:=hv.len;have HCP1:Hid (∀ty dl dc,0<dl->(Builtin.copy_ #[23,23] ty #[.slice (some ⟨w.heap.size,i*4,none⟩) dl dc,.slice (some ⟨vb,0,none⟩) 1 vc]).run Tryz.prog W1= .ok (goInt (Nat.min 1 dl)) (W1.setRow w.heap.size L2.toArray)):=fun ty dl dc hdl=>by obtain⟨i0,hi0,hz0,hz1,hz2⟩:=info_parts Tryz.infoNode;rw[hL2];refine Ls W1 _ _ ty 25 4 w.heap.size (i*4) dl dc ⟨vb,0,none⟩ 1 vc cur1 25 vs Tryz.underlying23 (by rw[hi0];simp[hz1]) hg1 (by rw[hv.len,show Nat.min 1 dl=1 from by simp[Nat.min_def];omega]) ?_ (by rw[hv.len,z1];omega) hv.one;intro j v hj;rw[CE,Nat.zero_add];have hlt:vb<w.heap.size:=(by obtain⟨_,_,h,_⟩:=hv.blk;exact(aK.1 h).1);rw[World.cell?_of_block (a:=⟨vb,j,none⟩) (hold vb hlt)];exact hv.cell hj
 obtain⟨W2,hW2⟩:∃W2,W2=W1.setRow w.heap.size L2.toArray:=⟨_,rfl⟩;rw[<-hW2] at HCP1;have hg2:W2.heap[w.heap.size]? =some (.cells L2.toArray 25 (0,0)):=(by rw[hW2];exact setRow_heap _ _ _ _ _ _ hg1);have hold2:∀k,k<w.heap.size->W2.heap[k]? =w.heap[k]? :=fun k hk=>by rw[hW2,setRow_other _ _ _ _ (by omega)];exact hold k hk
 have hs2:W2.heap.size=w.heap.size+1:=(by rw[hW2];simp[World.setRow,hs1]);have hgr2:W2.os=w.os/\W2.tape=w.tape/\W2.output=w.output:=(by rw[hW2];exact hgr1);clear hW2;have HCP2:Hid (∀ty dl dc sl sc,dl=n - i->sl=n - i->(Builtin.copy_ #[23,23] ty #[.slice (some ⟨w.heap.size,(i+1) *4,none⟩) dl dc,.slice (some ⟨g,i*4,none⟩) sl sc]).run Tryz.prog W2.drew= .ok (goInt (Nat.min sl dl)) (W2.drew.setRow w.heap.size L3.toArray)):=fun ty dl dc sl sc hdl hsl=>by
  obtain⟨i0,hi0,hz0,hz1,hz2⟩:=info_parts Tryz.infoNode;have hmin:Nat.min sl dl=n - i:=(by rw[hdl,hsl];simp[Nat.min_def]);rw[hL3,show i*4+4=(i+1) *4 from by omega];have:=Ls (P:=Tryz.prog) W2.drew 23 23 ty 25 4 w.heap.size ((i+1) *4) dl dc ⟨g,i*4,none⟩ sl sc L2.toArray 25 (cs.drop (i*4)) Tryz.underlying23 (by rw[hi0];simp[hz1]) hg2 (by rw[hmin,List.length_drop,hcl];omega) ?_ (by simp[hl2,hcl];omega) (fun v hv=>h1c v (List.mem_of_mem_drop hv))
  .simpa using this
  .intro j v hj;rw[CE];show W2.cell? _=_;rw[World.cell?_of_block (a:=⟨g,i*4+j,none⟩) (hold2 g hglt)];rw[List.getElem?_drop] at hj;have:=KD hR hj;simpa[World.cell?,hR.blk] using this
 have HRUN:=ab hrun;have HEND:Hid (J1 base (some ⟨g,0,none⟩) n c (cs.take (i*4)++vs++cs.drop (i*4)) w (.returned (.slice (some ⟨w.heap.size,0,none⟩) (n+1) cap)) (W2.drew.setRow w.heap.size L3.toArray)):=by
  refine⟨some ⟨w.heap.size,0,none⟩,cap,rfl,⟨by simp[hcl,hvsz];omega,.inr ⟨w.heap.size,cap,L3.toArray,rfl,hbase,setRow_heap _ _ _ _ _ _ hg2,by omega,hcx,by simpa using hl3,by simpa using hrows⟩⟩,⟨hgr2.1,hgr2.2.1,hgr2.2.2,?_,fun k hk hne=>?_⟩,fun q hq=>.inr (by simp[Value.ownBlock] at hq;omega)⟩
  .simp[World.setRow];omega
  .rw[setRow_other _ _ _ _ (by omega)];exact hold2 k hk
 have hcap1:¬cap=i:=(by omega);have hcap2:¬cap=i+1:=(by omega);have hcapm:cap<=9223372036854775807:=(by unfold maxLen at hcx;omega);have HNC:=ab hnc;have HQQ:=ab hq;have hq2:0<q:=(by omega);have hq3:q - 1=n - i:=(by omega);clear hnc hq hrun hcx z1 z2 hg1 hold hs1 hgr1 hL2 hL3 hz1' hrows hl2 hl3 hg2 hold2 hs2 hgr2 hsrc htl hv hR hown h1c
 go_in
 go_upto_region 10 with (at_builtin;refine Lib.wpList_append_run _ rfl _ _ _ _ rfl _ _ rfl rfl _ _ HRUN.out ?_);go_wp2_with (refine OD _ rfl (.tmp 43) (.tmp 44) 23 23 rfl _ _ rfl rfl (HCP1.out _ _ _ (by omega)) ?_);have hia:(i:Int)+1<=cap:=(by have:=HQQ.out;omega);have hib:(i:Int)+1<=(i:Int)+q:=(by omega);have hw1:IntKind.i64.wrap ((i:Int)+1)=(i:Int)+1:=(by rw[IntKind.wrap_i64];omega);have htn:((i:Int)+1).toNat=i+1:=(by omega);have h0i:(0:Int)<=(i:Int)+1:=(by omega);refine wp_region_noPanic ?_;refine wp_region_held_drew (S:=fun _=>True) (by kernel_rfl) trivial fun hH0=>?_;refine ae 0 ?_;refine ae 1 ?_;refine ae 2 ?_;refine ae 3 ?_;refine ae 4 ?_;refine ae 5 ?_;refine ae 6 ?_;refine ae 7 ?_;refine aL 8 fun K hK=>?_;refine Oj rfl (.tmp 50) (.tmp 53) 23 23 rfl _ _ rfl rfl (HCP2.out _ _ _ _ _ (by have:=HQQ.out;omega) (by omega)) ?_;refine hK.out _ _ trivial (fun hH1=>?_);clear hK K;refine aM ?_;refine wpAnyH_done (by kernel_rfl) ?_ _;refine NoPanic.normal ?_;rw[HQQ.out];go_wp2_with fail;go_ret;exact HEND.out
theorem Pa(w:World)(vb g o vc lb cb:Nat)(hne:vb≠g){vcur cur:Array Value}{T T':TypeId}(hv:w.heap[vb]? =some (.cells vcur T (0,0)))(hg:w.heap[g]? =some (.cells cur T' (0,0)))(h0:cur.size≠0):(callFunc 168 #[.slice (some ⟨vb,0,none⟩) 1 vc,.slice (some ⟨g,o,none⟩) lb cb]).run Tryz.prog w= .ok (.value (.bool false)) w:=by
 have hz:∀w,(Go.sizeOf 25).run Tryz.prog w= .ok 4 w:=fun w=>by obtain⟨i0,hi,hz0,hz1,hz2⟩:=info_parts Tryz.infoNode;simp[Go.sizeOf,typeInfo,hi,hz1]
 rw[run_callFunc_extern Tryz.func168 (by kernel_rfl) (by kernel_rfl) (by kernel_rfl) (e:=Extern.SlicesOverlaps.overlaps #[23,23] #[4]) (by kernel_rfl),
  Lib.run_overlaps_apart w 23 4 25 Tryz.underlying23 4 hz ⟨vb,0,none⟩ ⟨g,o,none⟩ 1 vc lb cb hne T T' vcur.size cur.size (by simp[World.shape?,hv]) (by simp[World.shape?,hg]) h0 (by simp[World.frozen?,hv]) (by simp[World.frozen?,hv])]
 rfl
theorem QI(cs vs:List Value)(base g n c i vb vc:Nat)(w:World)(hown:w.ownsRow base 25 4 (.slice (some ⟨g,0,none⟩) n c) n cs)(hn:n<=100000)(hi:i<n)(hc:n+1<=c)(hv:JN w vb vs)(hvg:vb≠g)(h1c:∀v∈cs,v.oneCell'=true):Calls Tryz.prog 102 #[.slice (some ⟨g,0,none⟩) n c,.int .i64 i,.slice (some ⟨vb,0,none⟩) 1 vc] w (J1 base (some ⟨g,0,none⟩) n c (cs.take (i*4)++vs++cs.drop (i*4)) w):=by
 obtain⟨cur,hR,hbg,hcl⟩:=Li hown;have hcx:=hR.cap;have hcm:c<=9223372036854775807:=(by unfold maxLen at hcx;omega);have hsz:cur.toList.length=c*4:=(by simpa using hR.size);have hni:¬(i:Int)=n:=(by omega);have hnib:((i:Int) == n)=false:=(by simpa using hni);have hroom:¬(c:Int)< (n:Int)+1:=(by omega);have hroom2:(n:Int)+1<=c:=(by omega);have hin:(i:Int)<=n:=(by omega);have hci:¬c=i:=(by omega);have hci1:¬c=i+1:=(by omega);have hvsz:=hv.len;obtain⟨L2,hL2⟩:∃L2,L2=cur.toList.take (i*4+4)++cs.drop (i*4)++cur.toList.drop (i*4+4+(cs.drop (i*4)).length):=⟨_,rfl⟩;obtain⟨L3,hL3⟩:∃L3,L3=L2.take (i*4)++vs++L2.drop (i*4+vs.length):=⟨_,rfl⟩;have hrows:L3.take ((n+1) *4)=cs.take (i*4)++vs++cs.drop (i*4):=by rw[hL3,hL2];exact Rc hv.len hcl (by omega) hR.take (by omega)
 have hl2:L2.length=c*4:=(by rw[hL2];simp only[CD,List.length_take,List.length_drop,hcl,hsz];omega);have hl3:L3.length=c*4:=(by rw[hL3];simp only[CD,List.length_take,List.length_drop,hl2,hvsz];omega);have hvlt:vb<w.heap.size:=(by obtain⟨_,_,h,_⟩:=hv.blk;exact(aK.1 h).1);have hglt:g<w.heap.size:=(aK.1 hR.blk).1;have HOV:Hid (∀lb cb,(callFunc 168 #[.slice (some ⟨vb,0,none⟩) 1 vc,.slice (some ⟨g,(i+1) *4,none⟩) lb cb]).run Tryz.prog w= .ok (.value (.bool false)) w):=fun lb cb=>by obtain⟨vcur,T,h,_⟩:=hv.blk;exact Pa w vb g ((i+1) *4) vc lb cb hvg h hR.blk (by rw[hR.size];omega)
 have HCP1:Hid (∀ty dl dc sl sc,dl=n - i->sl=n+1 - i->(Builtin.copy_ #[23,23] ty #[.slice (some ⟨g,(i+1) *4,none⟩) dl dc,.slice (some ⟨g,i*4,none⟩) sl sc]).run Tryz.prog w.drew= .ok (goInt (Nat.min sl dl)) (w.drew.setRow g L2.toArray)):=fun ty dl dc sl sc hdl hsl=>by obtain⟨i0,hi0,hz0,hz1,hz2⟩:=info_parts Tryz.infoNode;have hmin:Nat.min sl dl=n - i:=(by rw[hdl,hsl];simp[Nat.min_def];omega);rw[hL2,show i*4+4=(i+1) *4 from by omega];refine Ls (P:=Tryz.prog) w.drew 23 23 ty 25 4 g ((i+1) *4) dl dc ⟨g,i*4,none⟩ sl sc cur 25 (cs.drop (i*4)) Tryz.underlying23 (by rw[hi0];simp[hz1]) hR.blk (by rw[hmin,List.length_drop,hcl];omega) ?_ (by rw[hR.size];simp[hcl];omega) (fun v hv=>h1c v (List.mem_of_mem_drop hv));intro j v hj;rw[CE];rw[List.getElem?_drop] at hj;have:=KD hR hj;show w.cell? _=_;simpa[World.cell?,hR.blk] using this
 obtain⟨W1,hW1⟩:∃W1,W1=w.drew.setRow g L2.toArray:=⟨_,rfl⟩;rw[<-hW1] at HCP1;have hg1:W1.heap[g]? =some (.cells L2.toArray 25 (0,0)):=(by rw[hW1];exact setRow_heap _ _ _ _ _ _ hR.blk);have hold:∀k,k≠g->W1.heap[k]? =w.heap[k]? :=fun k hk=>by rw[hW1,setRow_other _ _ _ _ hk];rfl
 have hs1:W1.heap.size=w.heap.size:=(by rw[hW1];simp[World.setRow]);have hgr1:W1.os=w.os/\W1.tape=w.tape/\W1.output=w.output:=(by rw[hW1];exact⟨rfl,rfl,rfl⟩);clear hW1;have HCP2:Hid (∀ty dl dc,0<dl->(Builtin.copy_ #[23,23] ty #[.slice (some ⟨g,i*4,none⟩) dl dc,.slice (some ⟨vb,0,none⟩) 1 vc]).run Tryz.prog W1= .ok (goInt (Nat.min 1 dl)) (W1.setRow g L3.toArray)):=fun ty dl dc hdl=>by
  obtain⟨i0,hi0,hz0,hz1,hz2⟩:=info_parts Tryz.infoNode;rw[hL3];have:=Ls (P:=Tryz.prog) W1 23 23 ty 25 4 g (i*4) dl dc ⟨vb,0,none⟩ 1 vc L2.toArray 25 vs Tryz.underlying23 (by rw[hi0];simp[hz1]) hg1 (by rw[hv.len,show Nat.min 1 dl=1 from by simp[Nat.min_def];omega]) ?_ (by rw[hv.len];simp[hl2];omega) hv.one
  .simpa using this
  .intro j v hj;rw[CE,Nat.zero_add];rw[World.cell?_of_block (a:=⟨vb,j,none⟩) (hold vb hvg)];exact hv.cell hj
 have HEND:Hid (J1 base (some ⟨g,0,none⟩) n c (cs.take (i*4)++vs++cs.drop (i*4)) w (.returned (.slice (some ⟨g,0,none⟩) (n+1) c)) (W1.setRow g L3.toArray)):=by
  refine⟨some ⟨g,0,none⟩,c,rfl,⟨by simp[hcl,hvsz];omega,.inr ⟨g,c,L3.toArray,rfl,hbg,setRow_heap _ _ _ _ _ _ hg1,hc,hcx,by simpa using hl3,by simpa using hrows⟩⟩,⟨hgr1.1,hgr1.2.1,hgr1.2.2,?_,fun k hk hne=>?_⟩,fun q hq=>.inl (by simpa[Value.ownBlock] using hq)⟩
  .simp[World.setRow];omega
  .have hkg:k≠g:=fun e=>hne (by rw[e];rfl);rw[setRow_other _ _ _ _ hkg];exact hold k hkg
 have hw1:IntKind.i64.wrap ((i:Int)+1)=(i:Int)+1:=(by rw[IntKind.wrap_i64];omega);have htn:((i:Int)+1).toNat=i+1:=(by omega);have h0i:(0:Int)<=(i:Int)+1:=(by omega);have hib:(i:Int)+1<=(n:Int)+1:=(by omega);have hib2:(i:Int)<=(n:Int)+1:=(by omega);have hov:=HOV.out;clear hcx hsz hL2 hL3 hrows hl2 hl3 hg1 hold hs1 hgr1 hv hR hown h1c HOV
 go_in
 go_wp2_with (simp only[hov]);refine wp_region_noPanic ?_;refine wp_region_held_drew (S:=fun _=>True) (by kernel_rfl) trivial fun hH0=>?_;refine ae 0 ?_;refine ae 1 ?_;refine ae 2 ?_;refine ae 3 ?_;refine ae 4 ?_;refine ae 5 ?_;refine ae 6 ?_;refine ae 7 ?_;refine aL 8 fun K hK=>?_;refine Oj rfl (.tmp 73) (.tmp 76) 23 23 rfl _ _ rfl rfl (HCP1.out _ _ _ _ _ (by omega) (by omega)) ?_;refine hK.out _ _ trivial (fun hH1=>?_);clear hK K;refine aM ?_;refine wpAnyH_done (by kernel_rfl) ?_ _;refine NoPanic.normal ?_;go_wp2_with (refine OD _ rfl (.tmp 80) (.tmp 81) 23 23 rfl _ _ rfl rfl (HCP2.out _ _ _ (by omega)) ?_);go_ret;exact HEND.out
theorem NR(cs vs:List Value)(base:Nat)(A:Option Addr)(n c i vb vc:Nat)(w:World)(hown:w.ownsRow base 25 4 (.slice A n c) n cs)(hn:n<=100000)(hi:i<=n)(hv:JN w vb vs)(hvg:∀g,(Value.slice A n c).ownBlock=some g->vb≠g)(hbase:base<=w.heap.size)(h1c:∀v∈cs,v.oneCell'=true):Calls Tryz.prog 102 #[.slice A n c,.int .i64 i,.slice (some ⟨vb,0,none⟩) 1 vc] w (J1 base A n c (cs.take (i*4)++vs++cs.drop (i*4)) w):=by
 by_cases he:i=n
 .subst he;have hl:=hown.1;rw[List.take_of_length_le (by omega),List.drop_eq_nil_of_le (by omega),List.append_nil];exact QG cs vs base A i c vb vc w hown hn hv hbase
 .obtain⟨g,rfl⟩:∃g,A=some ⟨g,0,none⟩:=by
   rcases hown.2 with ⟨e,h⟩|⟨g,cap,cur,e,_⟩
   .omega
   .injection e with e;exact⟨g,e⟩
  by_cases hr:n+1<=c
  .exact QI cs vs base g n c i vb vc w hown hn (by omega) hr hv (hvg g rfl) h1c
  .exact QH cs vs base g n c i vb vc w hown hn (by omega) (by omega) hv hbase h1c
theorem Oc(w:World)(ty:TypeId)(g i c m sc:Nat)(a:Addr)(cur:Array Value)(ds:List Value)(hg:w.heap[g]? =some (.cells cur 25 (0,0)))(hl:ds.length=m*4)(hc:∀j v,ds[j]? =some v->w.cell? (a.add j)=some v)(hroom:i+m<=c)(hfit:i*4+ds.length<=cur.size)(h1:∀v∈ds,v.oneCell'=true):(Builtin.append_ #[23,23] ty #[.slice (some ⟨g,0,none⟩) i c,.slice (some a) m sc]).run Tryz.prog w= .ok (.slice (some ⟨g,0,none⟩) (i+m) c) (w.setRow g (cur.toList.take (i*4)++ds++cur.toList.drop (i*4+ds.length)).toArray):=by obtain⟨i0,hi,hz0,hz1,hz2⟩:=info_parts Tryz.infoNode;have hfc:=run_firstCells_some (P:=Tryz.prog) (w:=w) 4 m a m sc ds hl hc;have hst:=run_storeCells_at Tryz.prog g (i*4) 25 ds 0 cur w hg (by simpa using hfit) h1;have ha:(⟨g,0,none⟩:Addr).add (i*4)=⟨g,i*4,none⟩:=(by rw[CE,Nat.zero_add]);simp[Builtin.append_,run_underlying Tryz.underlying23,sizeOf,typeInfo,hi,hz1,Builtin.lenOf,hroom,hfc,ha,hst]
theorem RH{P:Program}{ops:Array Oper}{o:Oper}{a:Act}{w:World}{K:Act->World->Prop}{Q:Exit->Act->World->Prop}{E:Prop}(hg:o.guard=none)(s x:Operand)(t tn:TypeId)(ho:o.op= .call { callee:=.builtin .append,args:=#[s,x],argTypes:=#[t,tn] })(vs vx:Value)(hs:a.eval s=vs)(hx:a.eval x=vx){v':Value}{w':World}(hr:(Builtin.append_ #[t,tn] o.type #[vs,vx]).run P w= .ok v' w')(h:K (a.put o.dst v') w'):if Region.wanted o (yielded ops a.tmps)=true then Oper.wp P o a w K Q else E:=by have hw:Region.wanted o (yielded ops a.tmps)=true:=(by simp[Region.wanted,hg]);rw[if_pos hw];exact Lib.wp_append_run w s x t tn ho vs vx hs hx v' w' hr h
def Jw:List Value:=[.int .u8 0,.string ⟨#[]⟩,.int .i64 0,.slice none 0 0]
theorem Rd(w:World)(ty:TypeId)(g o c:Nat)(cur:Array Value)(hg:w.heap[g]? =some (.cells cur 25 (0,0)))(hfit:o+4<=cur.size):(Builtin.clear_ #[23] ty #[.slice (some ⟨g,o,none⟩) 1 c]).run Tryz.prog w= .ok (.tuple #[]) (w.setRow g (cur.toList.take o++Jw++cur.toList.drop (o+4)).toArray):=by obtain⟨i0,hi,hz0,hz1,hz2⟩:=info_parts Tryz.infoNode;have hst:=run_storeCells_at Tryz.prog g o 25 Jw 0 cur w hg (by simpa[Jw] using hfit) (by simp[Jw,Value.oneCell']);have hz:(Builtin.zeroCells (Value.agg #[.int .u8 0,.string ⟨#[]⟩,.int .i64 0,.slice none 0 0]).cells 1).toList=Jw:=(by kernel_rfl);simp[Builtin.clear_,run_underlying Tryz.underlying23,zeroValue,typeInfo,hi,hz0,hz,hst,Jw] at hst ⊢;simp[hst]
theorem Ra{L cs:List Value}{a m:Nat}(hl:cs.length=(m+1) *4)(ha:a<=m*4)(h1:L.take ((m+1) *4)=cs)(h2:(m+1) *4<=L.length):let L2:=L.take a++cs.drop (a+4)++L.drop (a+(cs.drop (a+4)).length)
 (L2.take (m*4)++Jw++L2.drop (m*4+4)).take (m*4)=cs.take a++cs.drop (a+4):=by
 intro L2;have e:L.take a=cs.take a:=(by rw[<-h1,List.take_take];congr 1;omega);have hd:(cs.drop (a+4)).length=m*4 - a:=(by rw[List.length_drop,hl];omega);have hlen:m*4<=L2.length:=by show _<=(L.take a++cs.drop (a+4)++L.drop (a+(cs.drop (a+4)).length)).length;simp only[CD,List.length_take,List.length_drop,hd];omega
 have e2:L2.take (m*4)=cs.take a++cs.drop (a+4):=by show(L.take a++cs.drop (a+4)++L.drop (a+(cs.drop (a+4)).length)).take (m*4)=_;rw[e];exact Lw (by rw[hd,List.length_take,hl];omega)
 rw[List.append_assoc,List.take_append_of_le_length (by rw[List.length_take];omega),List.take_take,Nat.min_self,e2]
def MB(base g m c:Nat)(cs:List Value)(w:World)(e:Ending)(w':World):Prop:=
 e= .returned (.slice (some ⟨g,0,none⟩) m c)/\w'.ownsRow base 25 4 (.slice (some ⟨g,0,none⟩) m c) m cs/\w.grownBy w' (some g)
theorem NQ(cs:List Value)(base g m c i:Nat)(w:World)(hown:w.ownsRow base 25 4 (.slice (some ⟨g,0,none⟩) (m+1) c) (m+1) cs)(hn:m<=100000)(hi:i<=m)(h1c:∀v∈cs,v.oneCell'=true):Calls Tryz.prog 105 #[.slice (some ⟨g,0,none⟩) (m+1) c,.int .i64 i,.int .i64 ((i:Int)+1)] w (MB base g m c (cs.take (i*4)++cs.drop (i*4+4)) w):=by
 obtain⟨cur,hR,hbg,hcl⟩:=Li hown;have hcx:=hR.cap;have hle:=hR.le;have hcm:c<=9223372036854775807:=(by unfold maxLen at hcx;omega);have hsz:cur.toList.length=c*4:=(by simpa using hR.size);have hdl:(cs.drop (i*4+4)).length=(m - i) *4:=(by rw[List.length_drop,hcl];omega);obtain⟨L2,hL2⟩:∃L2,L2=cur.toList.take (i*4)++cs.drop (i*4+4)++cur.toList.drop (i*4+(cs.drop (i*4+4)).length):=⟨_,rfl⟩;obtain⟨L3,hL3⟩:∃L3,L3=L2.take (m*4)++Jw++L2.drop (m*4+4):=⟨_,rfl⟩;have hrows:L3.take (m*4)=cs.take (i*4)++cs.drop (i*4+4):=by rw[hL3,hL2];exact Ra hcl (by omega) hR.take (by omega)
 have hl2:L2.length=c*4:=(by rw[hL2];simp only[CD,List.length_take,List.length_drop,hcl,hsz];omega);have hl3:L3.length=c*4:=(by rw[hL3];simp only[CD,List.length_take,List.length_drop,hl2,Jw,List.length_cons,List.length_nil];omega);have hglt:g<w.heap.size:=(aK.1 hR.blk).1;have HAP:Hid (∀ty a k sc,k=m - i->(∀j,a.add j=(⟨g,(i+1) *4+j,none⟩:Addr)∨k=0)->(Builtin.append_ #[23,23] ty #[.slice (some ⟨g,0,none⟩) i c,.slice (some a) k sc]).run Tryz.prog w.drew= .ok (.slice (some ⟨g,0,none⟩) (i+k) c) (w.drew.setRow g L2.toArray)):=fun ty a k sc hk ha=>by
  rw[hL2];refine Oc w.drew ty g i c k sc a cur (cs.drop (i*4+4)) hR.blk (by rw[hdl,hk]) ?_ (by omega) (by rw[hdl,hR.size];omega) (fun v hv=>h1c v (List.mem_of_mem_drop hv));intro j v hj;rcases ha j with e|e
  .rw[e,List.getElem?_drop] at*;have:=KD hR hj;show w.cell? _=_;rw[show(i+1) *4+j=i*4+4+j from by omega];simpa[World.cell?,hR.blk] using this
  .have:(cs.drop (i*4+4)).length=0:=(by rw[hdl];omega);rw[List.eq_nil_of_length_eq_zero this] at hj;simp at hj
 obtain⟨W1,hW1⟩:∃W1,W1=w.drew.setRow g L2.toArray:=⟨_,rfl⟩;rw[<-hW1] at HAP;have hg1:W1.heap[g]? =some (.cells L2.toArray 25 (0,0)):=(by rw[hW1];exact setRow_heap _ _ _ _ _ _ hR.blk);have hold:∀k,k≠g->W1.heap[k]? =w.heap[k]? :=fun k hk=>by rw[hW1,setRow_other _ _ _ _ hk];rfl
 have hs1:W1.heap.size=w.heap.size:=(by rw[hW1];simp[World.setRow]);have hgr1:W1.os=w.os/\W1.tape=w.tape/\W1.output=w.output:=(by rw[hW1];exact⟨rfl,rfl,rfl⟩);clear hW1;have HCL:Hid (∀ty k c',k=1->(Builtin.clear_ #[23] ty #[.slice (some ⟨g,m*4,none⟩) k c']).run Tryz.prog W1= .ok (.tuple #[]) (W1.setRow g L3.toArray)):=fun ty k c' hk=>by subst hk;rw[hL3];have:=Rd W1 ty g (m*4) c' L2.toArray hg1 (by simp[hl2];omega);simpa using this
 have HEND:Hid (MB base g m c (cs.take (i*4)++cs.drop (i*4+4)) w (.returned (.slice (some ⟨g,0,none⟩) m c)) (W1.setRow g L3.toArray)):=by
  refine⟨rfl,⟨by simp only[CD,List.length_take,hdl,hcl];omega,.inr ⟨g,c,L3.toArray,rfl,hbg,setRow_heap _ _ _ _ _ _ hg1,by omega,hcx,by simpa using hl3,by simpa using hrows⟩⟩,hgr1.1,hgr1.2.1,hgr1.2.2,?_,fun k hk hne=>?_⟩
  .simp[World.setRow];omega
  .have hkg:k≠g:=fun e=>hne (by rw[e]);rw[setRow_other _ _ _ _ hkg];exact hold k hkg
 have hii:((i:Int) == (i:Int)+1)=false:=(by simp;omega);have htn:((i:Int)+1).toNat=i+1:=(by omega);have h0i:(0:Int)<=(i:Int)+1:=(by omega);have him:(i:Int)<=m:=(by omega);have him1:(i:Int)+1<=(m:Int)+1:=(by omega);have hmc:(m:Int)+1<=c:=(by omega);have hic:(i:Int)<=c:=(by omega);have hsum:i+(m - i)=m:=(by omega);have hcne:¬c=m:=(by omega);obtain⟨aa,haa,hpp⟩:∃aa:Addr,(if c=i+1 then some (⟨g,0,none⟩:Addr) else some ⟨g,(i+1) *4,none⟩)=some aa/\∀j,aa.add j=(⟨g,(i+1) *4+j,none⟩:Addr)∨m - i=0:=by
  by_cases h:c=i+1
  .exact⟨_,if_pos h,fun j=>.inr (by omega)⟩
  .exact⟨_,if_neg h,fun j=>.inl (CE _ _ _)⟩
 have hw1:IntKind.i64.wrap ((i:Int)+1)=(i:Int)+1:=(by rw[IntKind.wrap_i64];omega);clear hcx hsz hL2 hL3 hrows hl2 hl3 hg1 hold hs1 hgr1 hR hown h1c hdl hle
 go_in
 go_wp2_with fail;refine wp_region_noPanic ?_;refine wp_region_held_drew (S:=fun _=>True) (by kernel_rfl) trivial fun hH0=>?_;refine ae 0 ?_;refine ae 1 ?_;refine ae 2 ?_;refine ae 3 ?_;refine ae 4 ?_;refine ae 5 ?_;refine aL 6 fun K hK=>?_;refine RH rfl (.tmp 22) (.tmp 25) 23 23 rfl _ _ rfl rfl (HAP.out _ _ _ _ rfl hpp) ?_;refine hK.out _ _ trivial (fun hH1=>?_);clear hK K;refine aM ?_;refine ae 7 ?_;refine wpAnyH_done (by kernel_rfl) ?_ _;refine NoPanic.normal ?_;rw[hsum];have hcl1:=fun ty c'=>HCL.out ty 1 c' rfl;go_wp2;go_ret;exact HEND.out
theorem Ou{W W2:World}{B g o k m:Nat}{s:ar}{x:Int}{ks ks':List ag}{Ru R':List Value}{A A':Option Addr}{n c c':Nat}{S:Nat->Bool}{xs':List Value}(hm:m=ks'.length)(h:Cu W B (.node k s x ks) g o Ru)(hA:Ru= .slice A n c::R')(hB:B<=W.heap.size)(hon:cg (fun q=>(Value.slice A n c).ownBlock=some q) W W2)(hrow:W2.ownsRow B 25 4 (.slice A' m c') m xs')(hg':∀q,(Value.slice A' m c').ownBlock=some q->q≠g)(hc:ez W2 S ks' xs')(hS:∀q,S q=true->B<=q/\q≠g):Ec W (W2.setCell ⟨g,o+3,none⟩ (.slice A' m c')) B (.node k s x ks') g o Ru:=by subst hm;exact RP h hA hB hon hrow hg' hc hS
theorem bJ.cellsN{w:World}{N:Nat}{ks:List ag}{A:Option Addr}{n c:Nat}(hf:bJ w N ks A n c)(hN:N<=w.heap.size):∃xs R',w.ownsRow N 25 4 (.slice A n c) n xs/\ez w (jh R') ks xs/\(∀q∈aW R',N<=q/\q<w.heap.size)/\∀q,(Value.slice A n c).ownBlock=some q->q∉aW R':=by
 obtain⟨R,hn⟩:=GZ (k:=0) (s:=⟨#[]⟩) (x:=0) hf hN (by omega) (aE _) (by unfold tw;omega);have hnl:n=ks.length:=hf.1.1;obtain⟨A',c',xs,R',rfl,h3,ho,hc⟩:=hn.cellsN;obtain⟨a0,a1,a2,a3,_⟩:=di (heap_alloc_new w (.cells #[.int .u8 (0:Nat),.string ⟨#[]⟩,.int .i64 0,.slice A n c] 25));have e3:(.slice A n c:Value)= .slice A' (ag.node 0 (bl ⟨#[]⟩) 0 ks).kids.length c':=by have h3':=h3;rw[Nat.zero_add] at h3';rw[a3] at h3';injection h3'
 injection e3 with e1 e2 e3;subst e1 e3;have hlt:∀q∈aW (.slice A (ag.node 0 (bl ⟨#[]⟩) 0 ks).kids.length c::R'),N<=q/\q<w.heap.size:=fun q hq=>by have h5:=hn.blk hq;have h6:q≠w.heap.size:=fun e=>hn.out (by rw[<-e];exact hq);simp at h5;omega
 have hb:∀q,q<w.heap.size->w.heap[q]? =(w.alloc (.cells #[.int .u8 (0:Nat),.string ⟨#[]⟩,.int .i64 0,.slice A n c] 25)).heap[q]? :=fun q hq=>(hpo _ _ hq).symm;have hnd:=hn.nd;refine⟨xs,R',?_,hc.keep fun q hq=>⟨hq,hb q (hlt q ?_).2⟩,fun q hq=>hlt q ?_,fun q hq hm=>?_⟩
 .rw[e2];obtain⟨h1,h2⟩:=ho;refine⟨h1,h2.imp id ?_⟩;rintro⟨g,cap,cur,hv,hg,hh,r⟩;refine⟨g,cap,cur,hv,hg,(hb g (hlt g ?_).2).trans hh,r⟩;rw[hv];simp[aW,Value.ownBlock]
 .simp only[jh,decide_eq_true_eq] at hq;simp only[aW,List.filterMap_cons];split
  .exact hq
  .exact List.mem_cons_of_mem _ hq
 .simp only[aW,List.filterMap_cons];split
  .exact hq
  .exact List.mem_cons_of_mem _ hq
 .rw[e2] at hq;simp only[aW,List.filterMap_cons,hq,List.nodup_cons] at hnd;exact hnd.1 hm
theorem NL{w:World}{base vc:Nat}{A:Option Addr}{vs:List Value}(h:w.ownsRow base 25 4 (.slice A 1 vc) 1 vs)(h1:∀v∈vs,v.oneCell'=true):∃vb,A=some ⟨vb,0,none⟩/\base<=vb/\JN w vb vs:=by
 obtain⟨g,rfl⟩:∃g,A=some ⟨g,0,none⟩:=by
  rcases h.2 with ⟨e,h0⟩|⟨g,cap,cur,e,_⟩
  .omega
  .injection e with e;exact⟨g,e⟩
 obtain⟨cur,hR,hb,hl⟩:=Li h;exact⟨g,rfl,hb,⟨cur,_,hR.blk,fun j v hv=>by have:=KD hR hv;simpa using this⟩,by simpa using hl,h1⟩
theorem Pw{ks:List ag}{v:ag}{i:Nat}(h:i<=ks.length):(ks.take i++v::ks.drop i).length=ks.length+1:=by simp;omega
theorem MS{ks:List ag}{i:Nat}(h:i<ks.length):(ks.take i++ks.drop (i+1)).length+1=ks.length:=by simp;omega
theorem ez.ins{w:World}{S S' S2:Nat->Bool}{ks:List ag}{v:ag}{xs vs:List Value}{i:Nat}{W:World}(h:ez w S ks xs)(hv:ez w S' [v] vs)(hk:∀q,S q=true∨S' q=true->S2 q=true/\W.heap[q]? =w.heap[q]?):ez W S2 (ks.take i++v::ks.drop i) (xs.take (i*4)++vs++xs.drop (i*4)):=by have h1:ez W S2 (ks.take i) (xs.take (i*4)):=(h.take i).keep fun q hq=>hk q (.inl hq);have h2:ez W S2 [v] vs:=hv.keep fun q hq=>hk q (.inr hq);have h3:ez W S2 (ks.drop i) (xs.drop (i*4)):=(h.drop i).keep fun q hq=>hk q (.inl hq);have:=(h1.append h2).append h3;rwa [List.append_assoc,List.singleton_append] at this
theorem ez.del{w:World}{S S2:Nat->Bool}{ks:List ag}{xs:List Value}{i:Nat}{W:World}(h:ez w S ks xs)(hk:∀q,S q=true->S2 q=true/\W.heap[q]? =w.heap[q]?):ez W S2 (ks.take i++ks.drop (i+1)) (xs.take (i*4)++xs.drop (i*4+4)):=by have h3:=(h.drop (i+1)).keep hk;rw[show(i+1) *4=i*4+4 from by omega] at h3;exact((h.take i).keep hk).append h3
def JB(r:Option ag)(w:World)(e:Ending)(w':World):Prop:=w=w'/\match r with
 |none=>e= .returned (.pointer none)
 |some u=>∃g o,e= .returned (.pointer (some ⟨g,o,none⟩))/\cJ w u g o
theorem JB.no{r:Option ag}{w:World}(h:r=none):JB r w (.returned (.pointer none)) w:=by subst h;exact⟨rfl,rfl⟩
theorem JB.yes{r:Option ag}{w:World}{u:ag}{g o:Nat}(h:r=some u)(ht:cJ w u g o):JB r w (.returned (.pointer (some ⟨g,o,none⟩))) w:=by subst h;exact⟨rfl,g,o,rfl,ht⟩
theorem RK{t u:ag}{p:List Int}{j:Nat}{z:Int}(h:t.sub p=u.sub (p.drop j))(hz:p[j]? =some z):t.sub p=if z<0 then none else(u.kids[z.toNat]?).bind fun v=>v.sub (p.drop (j+1)):=by obtain⟨h1,h2⟩:=gl.1 hz;rw[h,List.drop_eq_getElem_cons h1,h2];obtain⟨k,s,x,ks⟩:=u;show(if z<0 then none else C0 z.toNat _ ks)=_;rw[Gf];rfl
theorem QK(t:ag)(b o0:Nat)(p:List Int)(pA:Option Addr)(pn pc:Nat)(w:World)(hT:cJ w t b o0)(hp:cc w p pA pn pc):Calls Tryz.prog 64 #[.pointer (some ⟨b,o0,none⟩),.slice pA pn pc] w (JB (t.sub p) w):=by
 have HT:=ab hT;have HP:=ab hp;have HPL:Hid (pn=p.length):=hp.1;have hpm:pn<=9223372036854775807:=(by have h1:=hp.2.1;have h2:=hp.2.2.1;unfold maxLen at h2;omega);clear hT hp
 go_in
 go_wp2_with fail;go_loopw [9,0,4,6] (fun i q r z wr=>∃(j g o:Nat) (u:ag),j<=pn/\i= .int .i64 j/\q= .pointer (some ⟨g,o,none⟩)/\r= .pointer none/\w=wr/\Hid (cJ w u g o)/\Hid (t.sub p=u.sub (p.drop j))) (fun i _ _ _ _=>pn - (intOf i).toNat);case atStart=>exact⟨0,b,o0,t,aE _,rfl,rfl,rfl,rfl,HT,by show _=_;simp⟩
 case round=>
  obtain⟨j,g,o,u,hj,rfl,rfl,rfl,rfl,HU,HS⟩:=hrel;by_cases hlt:j<pn
  .obtain⟨pb,po,z,rfl,hz,hzc⟩:=HP.out.get hlt;have HST:=ab (RK HS.out hz);obtain⟨A,c,c0,c1,c2,c3,hkk,k1,k2,k3⟩:=HU.out.parts;have HKK:=ab hkk;have hkm:u.kids.length<=9223372036854775807:=(by have h1:=hkk.2.1;have h2:=hkk.2.2.1;unfold maxLen at h2;omega);clear hkk k1 k2 k3 hz c0 c1 c2;by_cases h0:z<0
   .have HRES:Hid (t.sub p=none):=(by rw[HST.out,if_pos h0];exact ab rfl);go_wp2_with fail;go_ret;exact JB.no HRES.out
   .obtain⟨m,rfl⟩:∃m:Nat,z=m:=⟨z.toNat,(Int.toNat_of_nonneg (by omega)).symm⟩;by_cases hm:m<u.kids.length
    .have hm':¬((u.kids.length:Int)<=m):=(by omega);obtain⟨b',o',v,rfl,hv,hat⟩:=HKK.out.get hm;have HV:=ab hat;have HSV:Hid (t.sub p=v.sub (p.drop (j+1))):=by rw[HST.out,if_neg h0,Int.toNat_natCast,hv];exact ab rfl
     clear hat hv h0;go_wp2;go_roundw;case rel=>exact⟨j+1,b',o'+m*4,v,by omega,by go_num,by go_num,(by first|exact rfl|exact trivial),(by first|exact trivial|exact rfl),HV,HSV⟩
     case measure=>simp[intOf];omega
    .have hm':(u.kids.length:Int)<=m:=(by omega);have HRES:Hid (t.sub p=none):=by rw[HST.out,if_neg h0,Int.toNat_natCast,List.getElem?_eq_none (by omega)];exact ab rfl
     clear h0;go_wp2_with fail;go_ret;exact JB.no HRES.out
  .have HRES:Hid (t.sub p=some u):=by rw[HS.out,List.drop_eq_nil_of_le (by have:=HPL.out;omega),IP];exact ab rfl
   go_wp2_with fail;go_ret;exact JB.yes HRES.out HU.out
def JL(r:Option ag)(w:World)(e:Ending)(w':World):Prop:=Below w.heap.size w w'/\match r with
 |none=>e= .returned (.tuple #[.agg #[.int .u8 0,.string ⟨#[]⟩,.int .i64 0,.slice none 0 0],.bool false])
 |some u=>∃(k:Nat) (s:ByteArray) (x:Int) (A:Option Addr) (n c:Nat),e= .returned (.tuple #[.agg #[.int .u8 k,.string s,.int .i64 x,.slice A n c],.bool true])/\cf (cX w' w.heap.size) u k s x A n c
theorem JL.no{r:Option ag}{w w':World}(h:r=none)(hb:Below w.heap.size w w'):JL r w (.returned (.tuple #[.agg #[.int .u8 0,.string ⟨#[]⟩,.int .i64 0,.slice none 0 0],.bool false])) w':=by subst h;exact⟨hb,rfl⟩
theorem JL.yes{r:Option ag}{w w':World}{u:ag}{k:Nat}{s:ByteArray}{x:Int}{A:Option Addr}{n c:Nat}(h:r=some u)(hb:Below w.heap.size w w')(hN:cf (cX w' w.heap.size) u k s x A n c):JL r w (.returned (.tuple #[.agg #[.int .u8 k,.string s,.int .i64 x,.slice A n c],.bool true])) w':=by subst h;exact⟨hb,k,s,x,A,n,c,rfl,hN⟩
theorem Nk{W:World}{t:Array Value}{Q:Ending->World->Prop}{b:Nat}{f:Bool}{v0 v1 v2 v3:Value}(h2:t[4]? =some (.pointer (some ⟨b,0,none⟩)))(h3:t[5]? =some (.bool f))(c0:W.cell? ⟨b,0,none⟩=some v0)(c1:W.cell? ⟨b,1,none⟩=some v1)(c2:W.cell? ⟨b,2,none⟩=some v2)(c3:W.cell? ⟨b,3,none⟩=some v3)(h:Q (.returned (.tuple #[.agg #[v0,v1,v2,v3],.bool f])) W):bodyPost Tryz.prog Tryz.f29 Q Exit.ret { tmps:=t,defers:=[] } W:=by
 have hres:(results Tryz.f29 t).run Tryz.prog W= .ok (.tuple #[.agg #[v0,v1,v2,v3],.bool f]) W:=by simp[results,Tryz.results29,go_sem,h2,h3,c0,c1,c2,c3]
 exact bodyPost_ret hres rfl h
mutual
theorem JH:∀(t u:ag) (p:List Int),t.sub p=some u->u.sz<=t.sz
 | .node k s x ks,u,[],h=>by have h:some (ag.node k s x ks)=some u:=h;injection h with h;rw[h];exact ah _
 | .node k s x ks,u,z::p,h=>by
  have h:(if z<0 then none else C0 z.toNat p ks)=some u:=h;split at h
  .cases h
  .have:=Ol ks u _ p h;simp only[ag.sz];omega
theorem Ol:∀(ts:List ag) (u:ag) (n:Nat) (p:List Int),C0 n p ts=some u->u.sz<=ao ts
 |[],u,n,p,h=>by cases n<;>cases h
 |t::ts,u,0,p,h=>by have:=JH t u p h;simp only[ao];omega
 |t::ts,u,n+1,p,h=>by have:=Ol ts u n p h;simp only[ao];omega
end
theorem Mk(t:ag)(k:Nat)(s:ByteArray)(x:Int)(A:Option Addr)(n c:Nat)(p:List Int)(pA:Option Addr)(pn pc:Nat)(w:World)(hsz:t.sz<=1000000)(hN:cf w t k s x A n c)(hp:cc w p pA pn pc):Calls Tryz.prog 29 #[.agg #[.int .u8 k,.string s,.int .i64 x,.slice A n c],.slice pA pn pc] w (JL (t.sub p) w):=by
 have hb0:Below w.heap.size w ((w.alloc (.cells #[.int .u8 k,.string s,.int .i64 x,.slice A n c] 25)).alloc (.cells #[.int .u8 0,.string ⟨#[]⟩,.int .i64 0,.slice none 0 0] 25)):=((ai _ _).alloc (ah _) _).alloc (by simp) _;have HB0:=ab hb0;have HR0:Hid (((w.alloc (.cells #[.int .u8 k,.string s,.int .i64 x,.slice A n c] 25)).alloc (.cells #[.int .u8 0,.string ⟨#[]⟩,.int .i64 0,.slice none 0 0] 25)).heap[w.heap.size+1]? =some (.cells #[.int .u8 0,.string ⟨#[]⟩,.int .i64 0,.slice none 0 0] 25 (0,0))):=aQ (by simp);have hat:cJ ((w.alloc (.cells #[.int .u8 k,.string s,.int .i64 x,.slice A n c] 25)).alloc (.cells #[.int .u8 0,.string ⟨#[]⟩,.int .i64 0,.slice none 0 0] 25)) t w.heap.size 0:=by obtain⟨ks,rfl,g1,g2,g3,hK⟩:=hN.below hb0;have hc:=fun j=>cell_of_row ((w.alloc (.cells #[.int .u8 k,.string s,.int .i64 x,.slice A n c] 25)).alloc (.cells #[.int .u8 0,.string ⟨#[]⟩,.int .i64 0,.slice none 0 0] 25)) w.heap.size j _ 25 (0,0) ((hpo _ _ (by simp)).trans (heap_alloc_new _ _));have hn:=hK.1;subst hn;exact cJ.of (hc 0) (hc 1) (hc 2) (hc 3) hK g1 g2 g3
 have HF:=ab (QK t w.heap.size 0 p pA pn pc _ hat (hp.below hb0));have HSZ:=ab hsz;clear hb0 hN hp hat hsz
 go_in
 go_wp2_with fail;refine HF.out.mono ?_;rintro e w1 ⟨rfl,hpost⟩;obtain⟨r0,r1,r2,r3,f0,f1,f2,f3⟩:=di HR0.out;cases hs:t.sub p with
 |none=>rw[hs] at hpost;simp only at hpost;subst hpost;have HSU:=ab hs;clear hs;generalize ((w.alloc (.cells #[.int .u8 k,.string s,.int .i64 x,.slice A n c] 25)).alloc (.cells #[.int .u8 0,.string ⟨#[]⟩,.int .i64 0,.slice none 0 0] 25))=W at HB0 HR0 r0 r1 r2 r3 f0 f1 f2 f3 ⊢;go_wp2_with fail;obtain⟨a0,a1,a2,a3,hb9⟩:=CY (v0:=.int .u8 0) (v1:=.string ⟨#[]⟩) (v2:=.int .i64 0) (v3:=.slice none 0 0) HR0.out HB0.out (by omega);exact Nk (b:=w.heap.size+1) rfl rfl a0 a1 a2 a3 (JL.no HSU.out hb9)
 |some u=>rw[hs] at hpost;obtain⟨g,o,rfl,hu⟩:=hpost;have HUS:Hid (u.sz<=1000000):=aJ (JH t u p hs) HSZ.out;have HSU:=ab hs;clear hs;generalize ((w.alloc (.cells #[.int .u8 k,.string s,.int .i64 x,.slice A n c] 25)).alloc (.cells #[.int .u8 0,.string ⟨#[]⟩,.int .i64 0,.slice none 0 0] 25))=W at HB0 HR0 hu r0 r1 r2 r3 f0 f1 f2 f3 ⊢;obtain⟨A1,c1,c0',c1',c2',c3',hnode⟩:=hu.cells;have HND:=ab hnode;have HPT:Hid (u.kind<=255/\u.text.length<=maxLen/\tw u.num):=(by obtain⟨_,_,_,_,_,_,_,h1,h2,h3⟩:=hu.parts;exact⟨h1,h2,h3⟩);clear hnode hu;go_wp2_with fail;refine(ya u _ _ _ _ _ _ _ HUS.out HND.out).mono ?_;rintro e w2 ⟨A2,c2,rfl,hf2,hb2⟩;have HB2:=ab (af HB0.out hb2);have HR2:=ab ((hb2.block _ (aK.1 HR0.out).1).trans HR0.out);have hlo:w.heap.size+2<=W.heap.size:=(by have:=(aK.1 HR0.out).1;omega);have HN2:Hid (cf (cX w2 (w.heap.size+2)) u u.kind (sb u.text) u.num A2 u.kids.length c2):=⟨u.kids,by cases u;rfl,HPT.out.1,HPT.out.2.1,HPT.out.2.2,(hf2.keep hlo (fun _ _ _=>rfl)).1⟩;clear hf2 hb2 hlo r0 r1 r2 r3 f0 f1 f2 f3 c0' c1' c2' c3';obtain⟨r0,r1,r2,r3,f0,f1,f2,f3⟩:=di HR2.out;go_wp2_with fail;obtain⟨a0,a1,a2,a3,hb9⟩:=CY (v0:=.int .u8 u.kind) (v1:=.string (sb u.text)) (v2:=.int .i64 u.num) (v3:=.slice A2 u.kids.length c2) HR2.out HB2.out (by omega);exact Nk (b:=w.heap.size+1) rfl rfl a0 a1 a2 a3 (JL.yes HSU.out hb9 HN2.out.sincePut4)
variable {P:Program} {md:Region.Mode} {ops:Array Oper} {Q:Exit->Act->World->Prop} {S:World->Prop} {z:Nat}
def Ab(P:Program)(md:Region.Mode)(ops:Array Oper)(Q:Exit->Act->World->Prop)(S:World->Prop)(z:Nat):Nat->Array Bool->Act->World->Prop
 |0,listed,a,w=>Region.ready md ops listed=[]/\Q .normal a w
 |fuel+1,listed,a,w=>
  (Region.ready md ops listed=[]->Q .normal a w)/\
  ∀i∈Region.ready md ops listed,wpOp P ops Q i (fun a' w'=>(i≠z->S w')/\Ab P md ops Q S z fuel (listed.setIfInBounds i true) a' w') a w
theorem OB:∀(fuel:Nat) (listed:Array Bool) (a:Act) (w:World),Ab P md ops Q S z fuel listed a w->wpAny P md ops Q fuel listed a w
 |0,_,_,_,h=>h
 |fuel+1,_,_,_,h=>⟨h.1,fun i hi=>wpOp_mono (fun a' w' h'=>OB fuel _ a' w' h'.2) (h.2 i hi)⟩
theorem R6{i:Nat}{oi oz:Oper}{v:Value}(hi:ops[i]? =some oi)(hz:ops[z]? =some oz)(hzi:∃e∈oz.after,Region.binds md e=true/\e.on=i)(hsel:∀(j:Nat) (o:Oper) cs b,ops[j]? =some o->o.op≠ .select cs b)(hQ:∀c a w,Q (.panic c) (a.put oi.dst v) w->Q (.panic c) a w):∀(fuel:Nat) (listed:Array Bool) (a:Act) (w:World),(∀j oj,ops[j]? =some oj->j≠i->listed.getD j true=false->(∀e∈oj.after,Region.binds md e=true->e.on≠i)->oi.apart ops oj=true)->i∈Region.ready md ops listed->YieldsIf P ops S oi v a->S w->Ab P md ops Q S z fuel (listed.setIfInBounds i true) (a.put oi.dst v) w->Ab P md ops Q S z (fuel+1) listed a w:=by
 intro fuel;induction fuel with
 |zero=>
  intro listed a w _ hr hy hS H;refine⟨fun h=>(by rw[h] at hr;cases hr),fun j hj=>?_⟩;by_cases hji:j=i
  .subst hji;exact hy.wpOp hi hS ⟨fun _=>hS,H⟩
  .have:=ready_mono hj hji;rw[H.1] at this;cases this
 |succ fuel ih=>
  intro listed a w hfree hr hy hS H;refine⟨fun h=>(by rw[h] at hr;cases hr),fun j hj=>?_⟩;by_cases hji:j=i
  .subst hji;exact hy.wpOp hi hS ⟨fun _=>hS,H⟩
  .have h1:=H.2 j (ready_mono hj hji);obtain⟨hjun,oj,hoj,hall⟩:=mem_ready.1 hj;have hnot:∀e∈oj.after,Region.binds md e=true->e.on≠i:=fun e he hb heq=>by
    have h1:=hall e he hb;have h0:=(mem_ready.1 hr).1;rw[heq] at h1;rcases Nat.lt_or_ge i listed.size with h'|h'
    .simp[h'] at h0 h1;rw[h0] at h1;cases h1
    .simp[Array.getElem?_eq_none h'] at h1
   have hjz:j≠z:=fun e=>by subst e;rw[hz] at hoj;injection hoj with hoj;subst hoj;obtain⟨e,he,hb,ho⟩:=hzi;exact hnot e he hb ho
   have h2:=wpOp_putIf hoj (hfree j oj hoj hji hjun hnot) (fun cs b=>hsel i oi cs b hi) (fun cs b=>hsel j oj cs b hoj) hQ hy h1;have hfree':∀k ok,ops[k]? =some ok->k≠i->(listed.setIfInBounds j true).getD k true=false->
    (∀e∈ok.after,Region.binds md e=true->e.on≠i)->oi.apart ops ok=true:=fun k ok hk hki hun hno=>by
    refine hfree k ok hk hki ?_ hno;by_cases hjk:j=k
    .subst hjk;exact hjun
    .rw[getD_set_ne true hjk] at hun;exact hun
   refine wpOp_mono (fun a' w' h3=>⟨h3.2.1,ih (listed.setIfInBounds j true) a' w' hfree' (ready_mono hr (Ne.symm hji)) h3.1 (h3.2.1 hjz) ?_⟩) h2;rw[Array.setIfInBounds_comm _ _ hji];exact h3.2.2
variable {fuel:Nat} {listed:Array Bool} {a:Act} {w:World}
theorem ec(i:Nat){oi oz:Oper}{v:Value}{a':Act}{l':Array Bool}(h:Ab P md ops (NoPanic Q) S z fuel l' a' w)(hi:ops[i]? =some oi:=by simp only[List.getElem?_toArray,List.getElem?_cons_succ,List.getElem?_cons_zero];rfl)(hz:ops[z]? =some oz:=by simp only[List.getElem?_toArray,List.getElem?_cons_succ,List.getElem?_cons_zero];rfl)(hzi:(oz.after.any fun e=>Region.binds md e && e.on == i)=true:=by kernel_rfl)(hs:Region.noSelect ops=true:=by kernel_rfl)(hf:Region.free md ops listed i=true:=by kernel_rfl)(hr:(Region.ready md ops listed).contains i=true:=by kernel_rfl)(hS:S w:=by assumption)(hw:Region.wanted oi (yielded ops a.tmps)=true:=by rfl)(hy:∀w,S w->(execOp a.eval oi).run P w= .ok (.value v) w:=by intro w hSw;(try dsimp only at hSw);go_simp;first|done|with_reducible rfl)(hp:a.put oi.dst v=a':=by(try simp only[Act.put,List.setIfInBounds_toArray,List.set_cons_zero,List.set_cons_succ]) <;>rfl)(hl:listed.setIfInBounds i true=l':=by(try simp only[Act.put,List.setIfInBounds_toArray,List.set_cons_zero,List.set_cons_succ]) <;>rfl):Ab P md ops (NoPanic Q) S z (fuel+1) listed a w:=by subst hp hl;refine R6 hi hz ?_ (Region.noSelect_spec hs) (fun _ _ _ h=>h) fuel listed a w (Region.free_spec hi hf) (by simpa using hr) (Or.inl ⟨hw,hy⟩) hS h;rw[Array.any_eq_true'] at hzi;obtain⟨e,he,hb⟩:=hzi;simp only[Bool.and_eq_true,beq_iff_eq] at hb;exact⟨e,he,hb.1,hb.2⟩
theorem yy{Q':Exit->Act->World->Prop}(i:Nat){oi:Oper}{l':Array Bool}(h:∀K':Act->World->Prop,Shut (∀a w,(i≠z->S w)->((i≠z->S w)->Ab P md ops Q' S z fuel l' a w)->K' a w)->if Region.wanted oi (yielded ops a.tmps)=true then Oper.wp P oi a w K' Q' else K' (a.put oi.dst undef) w)(hi:ops[i]? =some oi:=by simp only[List.getElem?_toArray,List.getElem?_cons_succ,List.getElem?_cons_zero];rfl)(hr:Region.ready md ops listed=[i]:=by kernel_rfl)(hl:listed.setIfInBounds i true=l':=by(try simp only[Act.put,List.setIfInBounds_toArray,List.set_cons_zero,List.set_cons_succ]) <;>rfl):Ab P md ops Q' S z (fuel+1) listed a w:=by subst hl;refine⟨fun h0=>absurd (hr ▸ h0) (by simp),fun j hj=>?_⟩;rw[hr] at hj;obtain rfl:j=i:=(by simpa using hj);exact wpOp_step hi fun K' hK=>h K' fun a w hS hW=>hK a w ⟨hS,hW hS⟩
theorem LO{listed:Array Bool}{a:Act}{w:World}(h:Q .normal a w)(hr:Region.ready md ops listed=[]:=by kernel_rfl):∀fuel,Ab P md ops Q S z fuel listed a w
 |0=>⟨hr,h⟩
 |_+1=>⟨fun _=>h,by rw[hr];simp⟩
theorem za{Q':Exit->Act->World->Prop}{a':Act}{l':Array Bool}(h:Ab P md ops Q' S z fuel l' a' w)(hp:a=a':=by(try simp only[Act.put,List.setIfInBounds_toArray,List.set_cons_zero,List.set_cons_succ]) <;>rfl)(hl:listed=l':=by(try simp only[Act.put,List.setIfInBounds_toArray,List.set_cons_zero,List.set_cons_succ]) <;>rfl):Ab P md ops Q' S z fuel listed a w:=by subst hp hl;exact h
theorem Mz(z:Nat){id:Nat}{a:Act}{w:World}(S:World->Prop)(hm:P.follows .mixedOrders=true)(hS:S w.drew)(h:S w.drew->Ab P .any ops Q S z ops.size (Array.replicate ops.size false) a w.drew):(Code.region id ops true).wp P Q a w:=
 wp_region_any hm (OB _ _ _ _ (h hS))
end Go.Proofs.YtfipahjodfminaaGreatDoor
