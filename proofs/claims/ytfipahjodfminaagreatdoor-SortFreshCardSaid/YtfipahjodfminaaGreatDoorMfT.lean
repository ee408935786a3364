/- Part 20 of the proof. -/
import Derived.RangeFuncBound
import Derived.Shelf.Abstract
import Derived.Shelf.RegionOpen
import Derived.OwnWalkIn
import Derived.TacticsInMore
import Derived.LoopNIn
import Derived.LoopIn
import Derived.Laws.CopyRow
import Derived.Lib.Overlaps
import Derived.Laws.Externs
import Derived.Test.YtfipahjodfminaaGreatDoorMfS
namespace Go.Proofs.YtfipahjodfminaaGreatDoor
open Go.RowKit
set_option linter.all false
set_option maxHeartbeats 40000000
set_option maxRecDepth 100000
def ag.useN(r:List Int)(t:ag):Bool:=match b7 r t with
 |some (.node k _ _ _)=>k == 22 || k == 25
 |none=>false
theorem My{m:Nat}{r:List Int}{k:Nat}{s:ar}{x:Int}{ks:List ag}{t:ag}(h:ks[m]? =some t):(ag.node k s x ks).useN ((m:Int) ::r)=t.useN r:=by unfold ag.useN;rw[Ba,h];rfl
theorem Ow{k:Nat}{s:ar}{x:Int}{ks:List ag}:(ag.node k s x ks).useN []=(k == 22 || k == 25):=rfl
theorem Ov{k:Nat}{s:ar}{x:Int}{ks:List ag}{z:Int}{r:List Int}(h:(ag.node k s x ks).useN (z::r)=true):∃(m:Nat) (t:ag),z=m/\ks[m]? =some t/\t.useN r=true:=by
 unfold ag.useN b7 at h;split at h
 .rename_i h1;split at h1
  .cases h1
  .rename_i hz;cases hk:ks[z.toNat]? with
   |none=>rw[hk] at h1;cases h1
   |some t=>refine⟨z.toNat,t,by omega,hk,?_⟩;rw[hk] at h1;have h1:b7 r t=_:=h1;unfold ag.useN;rw[h1];exact h
 .cases h
inductive mc (K:List Int->Bool):List (List Int×Nat)->Nat->Prop
 |nil:mc K [] 0
 |bnd {ev:List (List Int×Nat)} {n:Nat} {p:List Int} (h:mc K ev n) (hp:K p=false):mc K (ev++[(p,n)]) (n+1)
 |use {ev:List (List Int×Nat)} {n:Nat} {p:List Int} {i:Nat} (h:mc K ev n) (hi:i<n) (hp:K p=true):mc K (ev++[(p,i)]) n
theorem mc.lt{K:List Int->Bool}{ev:List (List Int×Nat)}{n:Nat}(h:mc K ev n):∀e∈ev,e.2<n:=by
 induction h with
 |nil=>intro e he;cases he
 |bnd h hp ih=>
  intro e he;rcases List.mem_append.1 he with he|he
  .have:=ih e he;omega
  .obtain rfl:=List.mem_singleton.1 he;simp
 |use h hi hp ih=>
  intro e he;rcases List.mem_append.1 he with he|he
  .exact ih e he
  .obtain rfl:=List.mem_singleton.1 he;exact hi
def u6(ev:List (List Int×Nat))(i:Nat):List (List Int):=(ev.filter fun e=>e.2 == i).map Prod.fst
theorem NU{ev:List (List Int×Nat)}{p:List Int}{j i:Nat}:u6 (ev++[(p,j)]) i=u6 ev i++if j=i then[p] else[]:=by
 unfold u6;rw[List.filter_append,List.map_append];by_cases h:j=i
 .subst h;simp
 .simp[h]
theorem QQ{ev:List (List Int×Nat)}{n:Nat}(h:∀e∈ev,e.2<n):u6 ev n=[]:=by unfold u6;rw[List.filter_eq_nil_iff.2 fun e he=>by have:=h e he;simp;omega];rfl
theorem mc.paths{K:List Int->Bool}{ev:List (List Int×Nat)}{n:Nat}(h:mc K ev n):∀i,i<n->∃b us,u6 ev i=b::us/\K b=false/\∀u∈us,K u=true:=by
 induction h with
 |nil=>intro i hi;omega
 | @bnd ev n p h hp ih=>
  intro i hi;rw[NU];by_cases h1:n=i
  .subst h1;rw[QQ h.lt,if_pos rfl];exact⟨p,[],rfl,hp,by simp⟩
  .rw[if_neg h1,List.append_nil];exact ih i (by omega)
 | @use ev n p j h hj hp ih=>
  intro i hi;obtain⟨b,us,h1,h2,h3⟩:=ih i hi;rw[NU,h1];by_cases h4:j=i
  .subst h4;rw[if_pos rfl];exact⟨b,us++[p],rfl,h2,fun u hu=>by
    rcases List.mem_append.1 hu with hu|hu
    .exact h3 u hu
    .obtain rfl:=List.mem_singleton.1 hu;exact hp⟩
  .rw[if_neg h4,List.append_nil];exact⟨b,us,rfl,h2,h3⟩
structure MG (K:List Int->Bool) (fe:bq) (st:bo) (o:bq) (st':bo):Prop where
 good:mc K st'.ev st'.bs.length
 ids:fv st'.bs.length o
 le:st.bs.length<=st'.bs.length
 evs:∀e∈st.ev,e∈st'.ev
 alls:∀i∈st.all,i∈st'.all
 new:∀i,i<st'.bs.length->i<st.bs.length∨i∈st'.all
structure LD (K:List Int->Bool) (fe:bq) (t:ag) (q:List Int) (st:bo) (o:bq) (st':bo):Prop extends MG K fe st o st' where
 uses:∀r,t.useN r=true->∃i,(q++r,i)∈st'.ev
 calls:∀e∈st'.ev,e∈st.ev∨∃r,e.1=q++r/\∀s x ks,b7 r t=some (.node 25 s x ks)->bn fe s=some e.2
 funs:∀r s x ks,b7 r t=some (.node 2 s x ks)->(bn fe s).getD 0∈st'.all
structure LC (K:List Int->Bool) (fe:bq) (ts:List ag) (q:List Int) (j:Nat) (st:bo) (o:bq) (st':bo):Prop extends MG K fe st o st' where
 uses:∀(m:Nat) t r,ts[m]? =some t->t.useN r=true->∃i,(q++((j+m:Nat):Int) ::r,i)∈st'.ev
 calls:∀e∈st'.ev,e∈st.ev∨∃(m:Nat) (t:ag) (r:List Int),e.1=q++((j+m:Nat):Int) ::r/\ts[m]? =some t/\∀s x ks,b7 r t=some (.node 25 s x ks)->bn fe s=some e.2
 funs:∀(m:Nat) t r s x ks,ts[m]? =some t->b7 r t=some (.node 2 s x ks)->(bn fe s).getD 0∈st'.all
theorem LC.node{K:List Int->Bool}{fe:bq}{k:Nat}{s:ar}{x:Int}{ks:List ag}{q:List Int}{st st1 st':bo}{o own:bq}(h:LC K fe ks q 0 st1 o st')(he:∀e∈st1.ev,e∈st.ev∨e.1=q/\∀s' x' ks',ag.node k s x ks= .node 25 s' x' ks'->bn fe s'=some e.2)(he2:∀e∈st.ev,e∈st1.ev)(hb:st.bs.length<=st1.bs.length)(hbn:∀i,i<st1.bs.length->i<st.bs.length∨i∈st1.all)(ha:∀i∈st.all,i∈st1.all)(hu:k=22∨k=25->∃i,(q,i)∈st1.ev)(hf:k=2->(bn fe s).getD 0∈st1.all)(hi:fv st'.bs.length own):LD K fe (.node k s x ks) q st own st':=by
 refine⟨⟨h.good,hi,aJ hb h.le,fun e hm=>h.evs e (he2 e hm),fun i hm=>h.alls i (ha i hm),fun i hm=>?_⟩,fun r hr=>?_,fun e hm=>?_,fun r s' x' ks' hr=>?_⟩
 .rcases h.new i hm with h1|h1
  .rcases hbn i h1 with h2|h2
   .exact .inl h2
   .exact .inr (h.alls i h2)
  .exact .inr h1
 .cases r with
  |nil=>rw[Ow] at hr;simp only[Bool.or_eq_true,beq_iff_eq] at hr;obtain⟨i,h1⟩:=hu hr;exact⟨i,by rw[List.append_nil];exact h.evs _ h1⟩
  |cons z r=>obtain⟨m,t,rfl,h1,h2⟩:=Ov hr;obtain⟨i,h3⟩:=h.uses m t r h1 h2;exact⟨i,by rwa [Nat.zero_add] at h3⟩
 .rcases h.calls e hm with h1|⟨m,t,r,h1,h2,h3⟩
  .rcases he e h1 with h2|⟨h2,h3⟩
   .exact .inl h2
   .exact .inr ⟨[],by rw[h2,List.append_nil],fun s' x' ks' hg=>h3 s' x' ks' (Option.some.inj hg)⟩
  .exact .inr ⟨(m:Int) ::r,by rw[h1,Nat.zero_add],fun s' x' ks' hg=>h3 s' x' ks' (by rw[Ba,h2] at hg;exact hg)⟩
 .cases r with
  |nil=>have hr:some (ag.node k s x ks)=some (.node 2 s' x' ks'):=hr;injection hr with hr;injection hr with e1 e2;subst e1 e2;exact h.alls _ (hf rfl)
  |cons z r=>
   have hr0:=hr;unfold b7 at hr;split at hr
   .cases hr
   .rename_i hz;cases hk:ks[z.toNat]? with
    |none=>rw[hk] at hr;cases hr
    |some t=>rw[hk] at hr;exact h.funs _ t r s' x' ks' hk hr
mutual
theorem P3 (fe:bq) (K:List Int->Bool):∀(t:ag) (out:List bq) (own:bq) (q:List Int) (st:bo) (o:bq) (st':bo),da fe t out own q st= .ok (o,st')->mc K st.ev st.bs.length->(∀m∈out,fv st.bs.length m)->fv st.bs.length own->fv st.bs.length fe->(∀r,K (q++r)=t.useN r)->LD K fe t q st o st'
 | .node k s x ks,out,own,q,st,o,st',h,hg,ho,hw,hf,hK=>by
  have hK0:K q=(k == 22 || k == 25):=(by have:=hK [];rwa [List.append_nil] at this);have hKk:∀(m:Nat) t r,ks[m]? =some t->K (q++((0+m:Nat):Int) ::r)=t.useN r:=fun m t r ht=>by rw[Nat.zero_add,hK,My ht]
  have hcons:∀m∈own::out,fv st.bs.length m:=fun m hm=>by rcases List.mem_cons.1 hm with rfl|hm;exact hw;exact ho m hm
  unfold da at h;split at h
  .rename_i hk;subst hk;obtain⟨o1,h1,rfl⟩:=Cy h;have hL:=Jo fe K ks (o::out) [] q 0 (st.next.func ((bn fe s).getD 0)) o1 st' h1 hg hcons (fun p hp=>by cases hp) hf hKk;exact hL.node (fun e he=>.inl he) (fun e he=>he) (ah _) (fun i hi=>.inl hi) (fun i hi=>List.mem_append_left _ hi) (by omega) (fun _=>List.mem_append_right _ (List.mem_singleton.2 rfl)) (hw.le hL.le)
  rename_i k2;split at h
  .rename_i hk;subst hk;obtain⟨o1,st1,h1,h2⟩:=i9 h;obtain⟨_,rfl,rfl⟩:=ve h1;have hl1:(st.next.bs++[(s,0)]).length=st.bs.length+1:=(by simp[bo.next]);have hL:=Jo fe K ks out _ q 0 _ o st' h2 (by show mc K (st.ev++[(q,st.bs.length)]) (st.next.bs++[(s,0)]).length;rw[hl1];exact hg.bnd hK0) (fun m hm=>(ho m hm).le (by show _<=(st.next.bs++[(s,0)]).length;omega)) (fun p hp=>by
    show p.2< (st.next.bs++[(s,0)]).length;rw[hl1];rcases List.mem_append.1 hp with hp|hp
    .have:=hw p hp;omega
    .obtain rfl:=List.mem_singleton.1 hp;show st.bs.length<_;omega) (hf.le (by show _<=(st.next.bs++[(s,0)]).length;omega)) hKk
   exact hL.node (fun e he=>by
    rcases List.mem_append.1 he with he|he
    .exact .inl he
    .obtain rfl:=List.mem_singleton.1 he;exact .inr ⟨rfl,fun s' x' ks' e=>by injection e with e;omega⟩) (fun e he=>List.mem_append_left _ he) (by show _<=(st.next.bs++[(s,0)]).length;omega) (fun i hi=>by
    have hi:i< (st.next.bs++[(s,0)]).length:=hi;by_cases h5:i<st.bs.length
    .exact .inl h5
    .exact .inr (List.mem_append_right _ (List.mem_singleton.2 (by show i=st.bs.length;omega)))) (fun i hi=>List.mem_append_left _ hi) (by omega) (by omega) hL.ids
  rename_i k4;split at h
  .rename_i hk;subst hk;obtain⟨o1,h1,rfl⟩:=Cy h;have hL:=Jo fe K ks (o::out) [] q 0 st.next o1 st' h1 hg hcons (fun p hp=>by cases hp) hf hKk;exact hL.node (fun e he=>.inl he) (fun e he=>he) (ah _) (fun i hi=>.inl hi) (fun i hi=>hi) (by omega) (by omega) (hw.le hL.le)
  rename_i k5;split at h
  .rename_i hk;subst hk;split at h
   .cases h
   obtain⟨o1,st1,h1,h2⟩:=i9 h;obtain⟨_,rfl,rfl⟩:=ve h2;have hL:=Jo fe K ks out own q 0 st.next o1 st1 h1 hg ho hw hf hKk;have hT:LD K fe (.node 6 s x ks) q st o1 st1:=hL.node (fun e he=>.inl he) (fun e he=>he) (ah _) (fun i hi=>.inl hi) (fun i hi=>hi) (by omega) (by omega) hL.ids;have hl1:(st1.bs++[(s,0)]).length=st1.bs.length+1:=(by simp);refine⟨⟨by show mc K (st1.ev++[(q,st1.bs.length)]) (st1.bs++[(s,0)]).length;rw[hl1];exact hL.good.bnd hK0,fun p hp=>?_,by show _<=(st1.bs++[(s,0)]).length;have:=hT.le;omega,fun e he=>List.mem_append_left _ (hT.evs e he),fun i hi=>List.mem_append_left _ (hT.alls i hi),fun i hi=>?_⟩,fun r hr=>?_,fun e he=>?_,fun r s' x' ks' hr=>List.mem_append_left _ (hT.funs r s' x' ks' hr)⟩
   .show p.2< (st1.bs++[(s,0)]).length;rw[hl1];rcases List.mem_append.1 hp with hp|hp
    .have:=hL.ids p hp;omega
    .obtain rfl:=List.mem_singleton.1 hp;show st1.bs.length<_;omega
   .have hi:i< (st1.bs++[(s,0)]).length:=hi;by_cases h5:i<st1.bs.length
    .rcases hT.new i h5 with h6|h6
     .exact .inl h6
     .exact .inr (List.mem_append_left _ h6)
    .exact .inr (List.mem_append_right _ (List.mem_singleton.2 (by show i=st1.bs.length;omega)))
   .obtain⟨i,hi⟩:=hT.uses r hr;exact⟨i,List.mem_append_left _ hi⟩
   .rcases List.mem_append.1 he with he|he
    .exact hT.calls e he
    .obtain rfl:=List.mem_singleton.1 he;exact .inr ⟨[],by simp,fun s' x' ks' e=>by have e:=Option.some.inj e;injection e with e;omega⟩
  rename_i k6;split at h
  .rename_i hk;subst hk;obtain⟨st1,h1,h2⟩:=CG h;obtain⟨i,e1,_,rfl⟩:=CC h1;have hi:i<st.bs.length:=Nd hcons e1;have hL:=Jo fe K ks out own q 0 _ o st' h2 (hg.use hi hK0) ho hw hf hKk;exact hL.node (fun e he=>by
    rcases List.mem_append.1 he with he|he
    .exact .inl he
    .obtain rfl:=List.mem_singleton.1 he;exact .inr ⟨rfl,fun s' x' ks' e=>by injection e with e;omega⟩) (fun e he=>List.mem_append_left _ he) (ah _) (fun i hi=>.inl hi) (fun i hi=>hi) (fun _=>⟨i,List.mem_append_right _ (List.mem_singleton.2 rfl)⟩) (by omega) hL.ids
  rename_i k22;split at h
  .rename_i hk;subst hk;obtain⟨st1,h1,h2⟩:=CG h;obtain⟨i,e1,_,rfl⟩:=CC h1;have hi:i<st.bs.length:=Nd (fun m hm=>by obtain rfl:=List.mem_singleton.1 hm;exact hf) e1;have e2:bn fe s=some i:=by
    unfold mb at e1;cases hl:bn fe s with
    |none=>rw[hl] at e1;cases e1
    |some j=>rw[hl] at e1;exact e1
   have hL:=Jo fe K ks out own q 0 _ o st' h2 (hg.use hi hK0) ho hw hf hKk;exact hL.node (fun e he=>by
    rcases List.mem_append.1 he with he|he
    .exact .inl he
    .obtain rfl:=List.mem_singleton.1 he;exact .inr ⟨rfl,fun s' x' ks' e=>by injection e with _ e;subst e;exact e2⟩) (fun e he=>List.mem_append_left _ he) (ah _) (fun i hi=>.inl hi) (fun i hi=>hi) (fun _=>⟨i,List.mem_append_right _ (List.mem_singleton.2 rfl)⟩) (by omega) hL.ids
  .have hL:=Jo fe K ks out own q 0 st.next o st' h hg ho hw hf hKk;exact hL.node (fun e he=>.inl he) (fun e he=>he) (ah _) (fun i hi=>.inl hi) (fun i hi=>hi) (by omega) (by omega) hL.ids
theorem Jo (fe:bq) (K:List Int->Bool):∀(ts:List ag) (out:List bq) (own:bq) (q:List Int) (j:Nat) (st:bo) (o:bq) (st':bo),dq fe ts out own q j st= .ok (o,st')->mc K st.ev st.bs.length->(∀m∈out,fv st.bs.length m)->fv st.bs.length own->fv st.bs.length fe->(∀(m:Nat) t r,ts[m]? =some t->K (q++((j+m:Nat):Int) ::r)=t.useN r)->LC K fe ts q j st o st'
 |[],out,own,q,j,st,o,st',h,hg,ho,hw,hf,hK=>by
  unfold dq at h;cases h
  exact⟨⟨hg,hw,ah _,fun _ h=>h,fun _ h=>h,fun i hi=>.inl hi⟩,fun m t r ht=>by simp at ht,fun e he=>.inl he,fun m t r s x ks ht=>by simp at ht⟩
 |t::ts,out,own,q,j,st,o,st',h,hg,ho,hw,hf,hK=>by
  unfold dq at h;obtain⟨o1,st1,h1,h2⟩:=i9 h;have h3:=P3 fe K t out own (q++[(j:Int)]) st o1 st1 h1 hg ho hw hf (fun r=>by have:=hK 0 t r rfl;rw[List.append_assoc];exact this);have h4:=Jo fe K ts out o1 q (j+1) st1 o st' h2 h3.good (fun m hm=>(ho m hm).le h3.le) h3.ids (hf.le h3.le) (fun m u r hu=>by have:=hK (m+1) u r (by simpa using hu);rwa [show j+(m+1)=j+1+m from by omega] at this);refine⟨⟨h4.good,h4.ids,aJ h3.le h4.le,fun e he=>h4.evs e (h3.evs e he),fun i hi=>h4.alls i (h3.alls i hi),fun i hi=>?_⟩,fun m u r hu hr=>?_,fun e he=>?_,fun m u r s x ks hu hr=>?_⟩
  .rcases h4.new i hi with h5|h5
   .rcases h3.new i h5 with h6|h6
    .exact .inl h6
    .exact .inr (h4.alls i h6)
   .exact .inr h5
  .cases m with
   |zero=>simp at hu;subst hu;obtain⟨i,hi⟩:=h3.uses r hr;exact⟨i,by have:=h4.evs _ hi;simpa using this⟩
   |succ m=>obtain⟨i,hi⟩:=h4.uses m u r (by simpa using hu) hr;exact⟨i,by rwa [show j+(m+1)=j+1+m from by omega]⟩
  .rcases h4.calls e he with h5|⟨m,u,r,h5,h6,h7⟩
   .rcases h3.calls e h5 with h6|⟨r,h6,h7⟩
    .exact .inl h6
    .exact .inr ⟨0,t,r,by rw[h6];simp,rfl,h7⟩
   .exact .inr ⟨m+1,u,r,by rw[h5,show j+(m+1)=j+1+m from by omega],by simpa using h6,h7⟩
  .cases m with
   |zero=>simp at hu;subst hu;exact h4.alls _ (h3.funs r s x ks hr)
   |succ m=>exact h4.funs m u r s x ks (by simpa using hu) hr
theorem Nd {n:Nat} {env:List bq} {s:ar} {i:Nat} (h:∀m∈env,fv n m) (hf:mb env s=some i):i<n:=by
 induction env with
 |nil=>cases hf
 |cons m env ih=>
  unfold mb at hf;cases hl:bn m s with
  |none=>rw[hl] at hf;exact ih (fun m hm=>h m (List.mem_cons_of_mem _ hm)) hf
  |some j=>rw[hl] at hf;injection hf with hf;subst hf;exact PW (h m (List.mem_cons_self ..)) hl
theorem PW {n:Nat} {m:bq} {s:ar} {i:Nat} (h:fv n m) (hl:bn m s=some i):i<n:=by
 induction m with
 |nil=>cases hl
 |cons p m ih=>
  obtain⟨y,j⟩:=p;unfold bn at hl;split at hl
  .injection hl with hl;subst hl;exact h _ (List.mem_cons_self ..)
  .exact ih (fun p hp=>h p (List.mem_cons_of_mem _ hp)) hl
end
theorem Ng(K:List Int->Bool):∀(ts:List ag) (k a0:Nat) (fe:bq) (st:bo) (o:bq) (st':bo),i6 ts k a0 fe st= .ok (o,st')->mc K st.ev st.bs.length->fv st.bs.length fe->(∀(m:Nat) t,ts[m]? =some t->K [((k+m:Nat):Int)]=false)->mc K st'.ev st'.bs.length/\fv st'.bs.length o/\st.bs.length<=st'.bs.length/\(∀s i,bn fe s=some i->bn o s=some i)/\(∀e∈st.ev,e∈st'.ev)/\∀i,i<st'.bs.length->i<st.bs.length∨∃(m:Nat) (t:ag),ts[m]? =some t/\bn o t.text=some i/\([((k+m:Nat):Int)],i)∈st'.ev
 |[],k,a0,fe,st,o,st',h,hg,hf,hK=>by
  unfold i6 at h;cases h
  exact⟨hg,hf,ah _,fun _ _ h=>h,fun _ h=>h,fun i hi=>.inl hi⟩
 |t::ts,k,a0,fe,st,o,st',h,hg,hf,hK=>by
  unfold i6 at h;obtain⟨o1,st1,h1,h2⟩:=i9 h;obtain⟨e0,rfl,rfl⟩:=ve h1;have hl1:(st.bs++[(t.text,0)]).length=st.bs.length+1:=(by simp);obtain⟨g1,g2,g3,g4,g5,g6⟩:=Ng K ts (k+1) _ _ _ _ _ h2 (by
   show mc K (st.ev++[([(k:Int)],st.bs.length)]) (List.mapIdx _ (st.bs++[(t.text,0)])).length;rw[List.length_mapIdx,hl1];exact hg.bnd (hK 0 t rfl)) (fun p hp=>by
    show p.2< (List.mapIdx _ (st.bs++[(t.text,0)])).length;rw[List.length_mapIdx,hl1];rcases List.mem_append.1 hp with hp|hp
    .have:=hf p hp;omega
    .obtain rfl:=List.mem_singleton.1 hp;show st.bs.length<_;omega) (fun m u hu=>by have:=hK (m+1) u (by simpa using hu);rwa [show k+(m+1)=k+1+m from by omega] at this)
  have g3':st.bs.length+1<=st'.bs.length:=by have:(List.mapIdx _ (st.bs++[(t.text,0)])).length<=st'.bs.length:=g3;rwa [List.length_mapIdx,hl1] at this
  refine⟨g1,g2,by omega,fun s i hs=>g4 s i (by rw[DT,hs]),fun e he=>g5 e (List.mem_append_left _ he),fun i hi=>?_⟩;rcases g6 i hi with h3|⟨m,u,h3,h4,h5⟩
  .have h3:i< (List.mapIdx _ (st.bs++[(t.text,0)])).length:=h3;rw[List.length_mapIdx,hl1] at h3;by_cases h6:i<st.bs.length
   .exact .inl h6
   .have:i=st.bs.length:=(by omega);subst this;exact .inr ⟨0,t,rfl,g4 _ _ (by rw[DT,e0];simp),g5 _ (List.mem_append_right _ (List.mem_singleton.2 rfl))⟩
  .exact .inr ⟨m+1,u,by simpa using h3,h4,by rwa [show k+(m+1)=k+1+m from by omega]⟩
structure OL (t:ag) (st:bo):Prop where
 good:mc (fun r=>t.useN r) st.ev st.bs.length
 all:∀i,i<st.bs.length->i∈st.all
 uses:∀r,t.useN r=true->∃i,(r,i)∈st.ev
 fes:∃fe:bq,(∀r i s x ks,(r,i)∈st.ev->b7 r t=some (.node 25 s x ks)->bn fe s=some i)/\(∀(m:Nat) u,t.kids[m]? =some u->∃i,bn fe u.text=some i/\([(m:Int)],i)∈st.ev)
theorem K9{t:ag}{st:bo}(hk:t.kind=1)(hr:pi t=true)(hl:gn t.kids= .ok ([],st)):OL t st:=by
 obtain⟨k,s,x,ks⟩:=t;have hk:k=1:=hk;subst hk;have hF:∀u∈ks,sv u:=CP (t:=.node 1 s x ks) rfl hr;have hl:gn ks= .ok ([],st):=hl;unfold gn at hl;obtain⟨fe,st1,h1,h2⟩:=i9 hl;obtain⟨g1,g2,g3,g4,g5,g6⟩:=Ng (fun r=>(ag.node 1 s x ks).useN r) ks 0 1 [] Cl fe st1 h1 .nil (fun p hp=>by cases hp) (fun m u hu=>by have:(ag.node 1 s x ks).useN ((m:Int) :: [])=u.useN []:=My hu;rw[Nat.zero_add];show(ag.node 1 s x ks).useN ((m:Int) :: [])=false;rw[this];obtain⟨s',x',p,b,rfl,_⟩:=hF u (List.mem_iff_getElem?.2 ⟨m,hu⟩);rfl)
 have hL:=Jo fe (fun r=>(ag.node 1 s x ks).useN r) ks [] [] [] 0 st1.anew.next [] st h2 g1 (fun m hm=>by cases hm) (fun p hp=>by cases hp) g2 (fun m u r hu=>by show(ag.node 1 s x ks).useN (((0+m:Nat):Int) ::r)=_;rw[Nat.zero_add];exact My hu)
 have hfun:∀(m:Nat) u,ks[m]? =some u->(bn fe u.text).getD 0∈st.all:=fun m u hu=>by obtain⟨s',x',p,b,rfl,_⟩:=hF u (List.mem_iff_getElem?.2 ⟨m,hu⟩);exact hL.funs m _ [] s' x' [p,b] hu rfl
 obtain⟨f1,f2,f3⟩:=Du ks 0 1 [] Cl fe st1 h1;refine⟨hL.good,fun i hi=>?_,fun r hu=>?_,fe,fun r i s' x' ks' he hg=>?_,fun m u hu=>?_⟩
 .rcases hL.new i hi with h3|h3
  .rcases g6 i h3 with h4|⟨m,u,h4,h5,_⟩
   .exact absurd h4 (by simp[Cl])
   .have:=hfun m u h4;rw[h5] at this;exact this
  .exact h3
 .cases r with
  |nil=>rw[Ow] at hu;cases hu
  |cons z r=>obtain⟨m,u,rfl,h3,h4⟩:=Ov hu;obtain⟨i,hi⟩:=hL.uses m u r h3 h4;exact⟨i,by simpa using hi⟩
 .rcases hL.calls _ he with h3|⟨m,u,r',h3,h4,h5⟩
  .exfalso;obtain⟨new,e1,e2,_⟩:=f3;have h3:(r,i)∈st1.ev:=h3;rw[e1] at h3;rcases List.mem_append.1 h3 with h3|h3
   .cases h3
   .obtain⟨m,h4,_⟩:=e2 _ h3;have h4:r=[(m:Int)]:=h4;subst h4;rw[Ba] at hg;cases hm:ks[m]? with
    |none=>rw[hm] at hg;cases hg
    |some u=>rw[hm] at hg;have hg:some u=some (ag.node 25 s' x' ks'):=hg;injection hg with hg;obtain⟨s2,x2,p,b,rfl,_⟩:=hF u (List.mem_iff_getElem?.2 ⟨m,hm⟩);injection hg with e;omega
  .have h3:r=[]++((0+m:Nat):Int) ::r':=h3;rw[List.nil_append,Nat.zero_add] at h3;subst h3;exact h5 s' x' ks' (by rw[Ba,h4] at hg;exact hg)
 .obtain⟨i,h3,h4⟩:=f2 m u hu;refine⟨i,h3,hL.evs _ ?_⟩;rwa [Nat.zero_add] at h4
def kb(t:ag):List (List Int×List Int):=(i5 t).flatMap fun b=>b.uses.map fun u=>(u,b.path)
theorem KQ{t:ag}{st:bo}(hk:t.kind=1)(hr:pi t=true)(hl:gn t.kids= .ok ([],st)){u b:List Int}:(u,b)∈kb t↔t.useN u=true/\t.useN b=false/\∃i,(u,i)∈st.ev/\(b,i)∈st.ev:=by
 have hG:=K9 hk hr hl;have hall:=(Dv hl (CP hk hr)).2;have hm:∀{p i},p∈u6 st.ev i↔(p,i)∈st.ev:=fun {p i}=>by
  unfold u6;rw[List.mem_map];constructor
  .rintro⟨e,he,rfl⟩;obtain⟨h1,h2⟩:=List.mem_filter.1 he;have h2:e.2=i:=(by simpa using h2);subst h2;exact h1
  .intro h;exact⟨(p,i),List.mem_filter.2 ⟨h,by simp⟩,rfl⟩
 unfold kb;rw[DF hk hr hl,List.mem_flatMap];constructor
 .rintro⟨bd,h1,h2⟩;obtain⟨i,hi,rfl⟩:=List.mem_map.1 h1;obtain⟨u',hu,h3⟩:=List.mem_map.1 h2;injection h3 with h3 h4;subst h3 h4;obtain⟨b',us,e,k1,k2⟩:=hG.good.paths i (hall i hi).1;obtain⟨p1,p2⟩:=DH (hall i hi).2;have p2':u6 st.ev i=(cy st i).path:: (cy st i).uses:=p2;rw[e] at p2';injection p2' with e1 e2;rw[e2] at k2;refine⟨k2 _ hu,by rw[<-e1];exact k1,i,hm.1 (by rw[show u6 st.ev i=_ from p2];exact List.mem_cons_of_mem _ hu),p1⟩
 .rintro⟨h1,h2,i,h3,h4⟩;have hi:=hG.good.lt _ h3;have hia:=hG.all i hi;obtain⟨b',us,e,k1,k2⟩:=hG.good.paths i hi;have p2:u6 st.ev i=(cy st i).path:: (cy st i).uses:=(DH (hall i hia).2).2;rw[e] at p2;injection p2 with e1 e2;have h3:=hm.2 h3;have h4:=hm.2 h4;rw[e] at h3 h4;have hb:b=b':=by
   rcases List.mem_cons.1 h4 with h4|h4
   .exact h4
   .have:=k2 _ h4;rw[h2] at this;cases this
  have hu:u∈us:=by
   rcases List.mem_cons.1 h3 with h3|h3
   .subst h3;rw[h1] at k1;cases k1
   .exact h3
  exact⟨_,List.mem_map.2 ⟨i,hia,rfl⟩,List.mem_map.2 ⟨u,by rw[<-e2];exact hu,by rw[hb,e1]⟩⟩
def jv(t:ag):Prop:=t.kind=1/\pi t=true/\∃st,gn t.kids= .ok ([],st)
theorem JD{t:ag}:jv t↔(gx t).1=0:=Di.symm
theorem OA{t:ag}(h:jv t){u b c:List Int}(h1:(u,b)∈kb t)(h2:(u,c)∈kb t):b=c:=by
 obtain⟨hk,hr,st,hl⟩:=h;have hF:=CP hk hr;obtain⟨a1,a2,i,a3,a4⟩:=(KQ hk hr hl).1 h1;obtain⟨b1,b2,j,b3,b4⟩:=(KQ hk hr hl).1 h2;have hij:=Et (Eo hl hF) a3 b3;subst hij;have hG:=K9 hk hr hl;obtain⟨b',us,e,k1,k2⟩:=hG.good.paths i (hG.good.lt _ a3);have hm:∀{p},(p,i)∈st.ev->t.useN p=false->p=b':=fun {p} hp hn=>by
  have:p∈u6 st.ev i:=List.mem_map.2 ⟨(p,i),List.mem_filter.2 ⟨hp,by simp⟩,rfl⟩;rw[e] at this;rcases List.mem_cons.1 this with h|h
  .exact h
  .have:=k2 _ h;rw[hn] at this;cases this
 rw[hm a4 a2,hm b4 b2]
theorem RW{t:ag}(h:jv t){u b:List Int}(h1:(u,b)∈kb t):t.useN u=true:=by obtain⟨hk,hr,st,hl⟩:=h;exact((KQ hk hr hl).1 h1).1
theorem RT{t:ag}(h:jv t){u:List Int}(h1:t.useN u=true):∃b,(u,b)∈kb t:=by obtain⟨hk,hr,st,hl⟩:=h;have hG:=K9 hk hr hl;obtain⟨i,hi⟩:=hG.uses u h1;obtain⟨b',us,e,k1,k2⟩:=hG.good.paths i (hG.good.lt _ hi);refine⟨b',(KQ hk hr hl).2 ⟨h1,k1,i,hi,?_⟩⟩;have:b'∈u6 st.ev i:=(by rw[e];exact List.mem_cons_self ..);obtain⟨e',he,rfl⟩:=List.mem_map.1 this;obtain⟨h2,h3⟩:=List.mem_filter.1 he;have h3:e'.2=i:=(by simpa using h3);subst h3;exact h2
def tg(t:ag)(u b:List Int):Bool:=match (kb t).find? fun p=>decide (p.1=u) with
 |some p=>decide (p.2=b)
 |none=>false
theorem Mv{t:ag}(h:jv t){u b:List Int}:tg t u b=true↔(u,b)∈kb t:=by
 unfold tg;cases hf:(kb t).find? fun p=>decide (p.1=u) with
 |none=>simp only[Bool.false_eq_true,false_iff];intro hm;have:=List.find?_eq_none.1 hf _ hm;simp at this
 |some p=>
  have h1:=List.mem_of_find?_eq_some hf;have h2:=List.find?_some hf;have h2:p.1=u:=(by simpa using h2);obtain⟨p1,p2⟩:=p;subst h2;simp only[decide_eq_true_eq];constructor
  .rintro rfl;exact h1
  .intro h3;exact OA h h1 h3
section
open Go.RowKit Go.Shelf
attribute [local go_sem] Oper.semAt_some
def jr(b:j9):I9:=b.uses.map fun u=>(u,b.path)
def mA(bs:List j9)(i j:Nat):I9:=(bs.take i).flatMap jr++(match bs[i]? with|some b=>(jr b).take j|none=>[])
theorem RQ(bs:List j9){i:Nat}(h:bs.length<=i):mA bs i 0=bs.flatMap jr:=by unfold mA;rw[List.take_of_length_le h,List.getElem?_eq_none h];simp
theorem RR{bs:List j9}{i:Nat}{b:j9}(hb:bs[i]? =some b):mA bs (i+1) 0=mA bs i b.uses.length:=by
 unfold mA;obtain⟨h1,h2⟩:=gl.1 hb;rw[hb,List.take_succ_eq_append_getElem h1,h2];have:(match bs[i+1]? with|some b=>(jr b).take 0|none=>[])=[]:=by split<;>simp
 rw[this];have h3:(jr b).take b.uses.length=jr b:=List.take_of_length_le (by simp[jr]);simp only[List.append_nil];rw[h3];simp[List.flatMap_append]
theorem RS{bs:List j9}{i j:Nat}{b:j9}{u:List Int}(hb:bs[i]? =some b)(hu:b.uses[j]? =some u):mA bs i (j+1)=mA bs i j++[(u,b.path)]/\(mA bs i j++[(u,b.path)])<+:bs.flatMap jr:=by
 have h1:mA bs i (j+1)=mA bs i j++[(u,b.path)]:=by unfold mA;rw[hb];simp only;obtain⟨k1,k2⟩:=gl.1 hu;rw[List.take_succ_eq_append_getElem (by simpa[jr] using k1),<-List.append_assoc];simp[jr,k2]
 refine⟨h1,?_⟩;rw[<-h1];unfold mA;rw[hb];simp only;obtain⟨k1,k2⟩:=gl.1 hb;have h3:bs.flatMap jr=(bs.take i).flatMap jr++(jr b++(bs.drop (i+1)).flatMap jr):=by
  conv=>lhs;rw[<-List.take_append_drop i bs]
  rw[List.flatMap_append,List.drop_eq_getElem_cons k1,k2,List.flatMap_cons]
 rw[h3];obtain⟨r,hr⟩:=List.take_prefix (j+1) (jr b);refine⟨r++(bs.drop (i+1)).flatMap jr,?_⟩;have e:((bs.take i).flatMap jr++(jr b).take (j+1))++(r++(bs.drop (i+1)).flatMap jr)=(bs.take i).flatMap jr++(((jr b).take (j+1)++r)++(bs.drop (i+1)).flatMap jr):=(by simp only[List.append_assoc]);rw[e,hr]
theorem cc.kept{A B:World}{zs:List Int}{a:Option Addr}{n c:Nat}(h:cc A zs a n c)(hk:lQ A B):cc B zs a n c:=h.keep fun _ _ hc=>hk.cell hc
theorem bT.kept{A B:World}{zs:List Int}{a:Option Addr}(h:bT A zs a)(hk:lQ A B):bT B zs a:=h.imp id fun⟨b,o,cs,fr,e,hb⟩=>⟨b,o,cs,fr,e,hk.2 _ _ hb rfl⟩
theorem Cd.kept{A B:World}{p:List Int}{v:Value}(h:Cd A p v)(hk:lQ A B):Cd B p v:=by obtain⟨a,c,e,h1,h2⟩:=h;exact⟨a,c,e,h1.kept hk,h2.kept hk⟩
theorem Cv.kept{w w':World}{us:List (List Int)}{A:Option Addr}{n c:Nat}(h:Cv w us A n c)(hk:lQ w w'):Cv w' us A n c:=by obtain⟨h1,h2,h3,h4⟩:=h;refine⟨h1,h2,h3,h4.imp id ?_⟩;rintro⟨g,o,e,h⟩;exact⟨g,o,e,fun j p hp'=>by obtain⟨v,hv,hq⟩:=h j p hp';exact⟨v,hk.cell hv,hq.kept hk⟩⟩
theorem CH.kept{w w':World}{b:j9}{Ap:Option Addr}{pl pc:Nat}{Au:Option Addr}{un uc:Nat}(h:CH w b Ap pl pc Au un uc)(hk:lQ w w'):CH w' b Ap pl pc Au un uc:=⟨h.path.kept hk,h.pathT.kept hk,h.uses.kept hk⟩
theorem Co.kept{w w':World}{l:List j9}{A:Option Addr}{n c:Nat}(h:Co w l A n c)(hk:lQ w w'):Co w' l A n c:=by obtain⟨h1,h2,h3,h4⟩:=h;refine⟨h1,h2,h3,h4.imp id ?_⟩;rintro⟨g,o,e,h⟩;exact⟨g,o,e,fun j b hj=>by obtain⟨Ap,pl,pc,Au,un,uc,k0,k1,k2,k3⟩:=h j b hj;exact⟨Ap,pl,pc,Au,un,uc,hk.cell k0,hk.cell k1,hk.cell k2,k3.kept hk⟩⟩
theorem Oy(T:ag)(k:Nat)(s:ByteArray)(x:Int)(A:Option Addr)(n c bx:Nat)(w:World)(m:Nat)(hm:1<=m)(hN:cf w T k s x A n c)(hsh:T.short 281474976710656)(hsz:T.sz<=100000)(hE:bI w)(c0:w.cell? ⟨bx,0,none⟩=some (.int .u8 k))(c1:w.cell? ⟨bx,1,none⟩=some (.string s))(c2:w.cell? ⟨bx,2,none⟩=some (.int .i64 x))(c3:w.cell? ⟨bx,3,none⟩=some (.slice A n c)):MH Fence.wide m Tryz.prog 79 #[.pointer (some ⟨bx,0,none⟩)] (kb T) w:=by
 intro l J Jx W hW hJ hJx hY h0;have hEW:bI W:=hE.below hW (ah _);have HC:=ab (Ev T k s x A n c W (hN.below hW) hsh hsz hEW);have HJ:=ab hJ;have HX:=ab hJx;have HY:=ab hY;have H0:=ab h0;have d0:=ac hW c0;have d1:=ac hW c1;have d2:=ac hW c2;have d3:=ac hW c3;clear hJ hJx hY h0 c0 c1 c2 c3 hN hE hW hEW;refine callsIn_of_wp Tryz.func79 rfl trivial ?_ rfl;simp only[Tryz.ntmps79,List.size_toArray,List.length_cons,List.length_nil,Nat.reduceAdd,Nat.reduceSub,Array.replicate_succ,Array.replicate_zero,List.push_toArray,List.append_toArray,List.nil_append,List.cons_append]
 gi_wp2_with (refine⟨trivial,?_⟩;gi_at_call 61;refine(callsIn_wide.2 HC.out).mono ?_;intro e w1 hp;obtain⟨hb1,A1,n1,q1,rfl,hv⟩:=D4.read hp;have HB1:=ab hb1;have HV:=ab hv;have HJ1:=ab (HJ.out [] _ _ H0.out hb1);clear hp hb1 hv)
 have HN1:Hid (n1=(i5 T).length/\n1<=9223372036854775807):=⟨HV.out.1,by have h1:=HV.out.2.1;have h2:=HV.out.2.2.1;unfold maxLen at h2;omega⟩
 gi_loopw [10] (fun i wr=>∃j:Nat,j<=n1/\i= .int .i64 j/\Hid (lQ w1 wr)/\Hid (J (mA (i5 T) j 0) wr)) (fun i _=>n1 - (intOf i).toNat)
 case atStart=>exact⟨0,aE _,rfl,lQ.refl _,by rw[show mA (i5 T) 0 0=[] from by unfold mA;simp;split<;>simp];exact HJ1.out⟩
 case round=>
  obtain⟨j,hj,rfl,HK,HJJ⟩:=hrel;by_cases hlt:j<n1
  .obtain⟨g,o,b,Ap,pl,pc,Au,un,uc,rfl,ht,q0,q1,q2,hx⟩:=(HV.out.kept HK.out).get hlt;have HX:=ab hx;have HT:=ab ht;clear ht hx;have hB2:Below wr.heap.size wr (wr.alloc (.cells #[.slice Ap pl pc,.string (sb b.name),.slice Au un uc] 71)):=(ai _ _).alloc (ah _) _;have HX2:=ab (HX.out.below hB2);have HJ2:=ab (HJ.out _ _ _ HJJ.out hB2);have HK2:=ab (HK.out.trans (lQ.below hB2));have HUN:Hid (un=b.uses.length/\un<=9223372036854775807):=⟨HX.out.uses.1,by have h1:=HX.out.uses.2.1;have h2:=HX.out.uses.2.2.1;unfold maxLen at h2;omega⟩;have p0:(wr.alloc (.cells #[.slice Ap pl pc,.string (sb b.name),.slice Au un uc] 71)).cell? ⟨wr.heap.size,0,none⟩=some (.slice Ap pl pc):=(by simp);clear hB2;have hun:=HUN.out.2;have HLT:=ab hlt
   gi_wp2
   generalize hW2:wr.alloc (.cells #[.slice Ap pl pc,.string (sb b.name),.slice Au un uc] 71)=W2 at HX2 HJ2 HK2 p0 ⊢
   gi_loopw [17] (fun i wr2=>∃z:Nat,z<=un/\i= .int .i64 z/\Hid (lQ W2 wr2)/\Hid (J (mA (i5 T) j z) wr2)) (fun i _=>un - (intOf i).toNat)
   case atStart=>exact⟨0,aE _,rfl,lQ.refl _,HJ2.out⟩
   case round=>
    obtain⟨z,hz,rfl,HK3,HJ3⟩:=hrel;have p1:=HK3.out.cell p0;by_cases hlz:z<un
    .obtain⟨g',o',u,A',c',rfl,hu,r0,hui,hut⟩:=(HX2.out.uses.kept HK3.out).get hlz;have HU:=ab (RS HT.out hu);obtain⟨fn,tmps,assign,body,hy,hR⟩:=HY.out (mA (i5 T) j z) (u,b.path) ⟨A',u.length,c',Ap,pl,pc⟩ _ HJ3.out HU.out.2 ⟨hui,HX2.out.path.kept HK3.out⟩;dsimp only[PV.enc] at hy;clear hu hui hut
     gi_wp2
     refine hR.mono ?_;rintro e W3 (⟨rfl,hJ3,hk3⟩|⟨rfl,hx3⟩)
     .have HK4:=ab (HK3.out.trans hk3);have HJ4:Hid (J (mA (i5 T) j (z+1)) W3):=(by show J _ _;rw[HU.out.1];exact hJ3);clear hk3 hJ3
      gi_wp2
      go_roundw;case rel=>exact⟨z+1,by omega,by go_num,HK4,HJ4⟩
      case measure=>simp[intOf];omega
     .gi_wp2
      refine bodyPost_ret (results_none rfl _ _ _) rfl ?_;exact⟨⟨_,rfl⟩,.inr hx3⟩
    .have hzu:z=un:=(by omega);subst hzu;have h5:=HJ3.out;rw[HUN.out.1,<-RR HT.out] at h5;have HJ4:=ab h5;clear h5;have HK5:=ab (HK2.out.trans HK3.out);have hnb:=HN1.out.2;have hl2:=HLT.out
     gi_wp2
     go_roundw;case rel=>exact⟨j+1,by have:=HLT.out;omega,by go_num,HK5,HJ4⟩
     case measure=>have:=HLT.out;simp[intOf];omega
  .have hjn:j=n1:=(by omega);subst hjn;have HD:Hid (J (kb T) wr):=by have h:=HJJ.out;rw[RQ _ (by have:=HN1.out.1;omega)] at h;exact h
   gi_wp2
   go_end0
   exact⟨⟨_,rfl⟩,.inl HD.out⟩
end
theorem Ls{P:Program}(w:World)(dT sT ty elem:TypeId)(size:Nat)(g o dLen dCap:Nat)(a:Addr)(sLen sCap:Nat)(cur:Array Value)(t:TypeId)(cs:List Value)(hu:P.underlying dT=some (.slice elem))(hs:(P.info? elem).map (·.size)=some size)(hg:w.heap[g]? =some (.cells cur t (0,0)))(hn:cs.length=Nat.min sLen dLen*size)(hsrc:∀j v,cs[j]? =some v->w.cell? (a.add j)=some v)(hfit:o+cs.length<=cur.size)(h1:∀v∈cs,v.oneCell'=true):(Builtin.copy_ #[dT,sT] ty #[.slice (some ⟨g,o,none⟩) dLen dCap,.slice (some a) sLen sCap]).run P w= .ok (goInt (Nat.min sLen dLen)) (w.setRow g (cur.toList.take o++cs++cur.toList.drop (o+cs.length)).toArray):=by
 have hl:=run_loadCells_list (P:=P) w a cs hsrc;have hst:=run_storeCells_at P g o t cs 0 cur w hg (by simpa using hfit) h1;cases hq:P.info? elem with
 |none=>simp[hq] at hs
 |some i=>have hi:i.size=size:=(by simpa[hq] using hs);simp[Builtin.copy_,run_underlying hu,Builtin.lenOf,Builtin.firstCells,sizeOf,typeInfo,hq,hi,<-hn,hl,hst]
theorem Oj{P:Program}{ops:Array Oper}{o:Oper}{a:Act}{w:World}{K:Act->World->Prop}{Q:Exit->Act->World->Prop}{E:Prop}(hg:o.guard=none)(d x:Operand)(dT sT:TypeId)(hop:o.op=Op.call { callee:=Callee.builtin Builtin.copy,args:=#[d,x],argTypes:=#[dT,sT] })(v u:Value)(hd:a.eval d=v)(hx:a.eval x=u){v':Value}{w':World}(hr:(Builtin.copy_ #[dT,sT] o.type #[v,u]).run P w= .ok v' w')(hK:K (a.put o.dst v') w'):if Region.wanted o (yielded ops a.tmps)=true then Oper.wp P o a w K Q else E:=by have hw:Region.wanted o (yielded ops a.tmps)=true:=(by simp[Region.wanted,hg]);rw[if_pos hw];unfold Oper.wp;simp[execOp,hop,resolve,invoke,builtin,hd,hx,hr,Result.andThen];exact hK
theorem R7{P:Program}(w:World){o:Oper}{a:Act}{K:Act->World->Prop}{Q:Exit->Act->World->Prop}(d s:Operand)(t t':TypeId)(ho:o.op= .call { callee:=.builtin .copy,args:=#[d,s],argTypes:=#[t,t'] })(v u:Value)(hd:a.eval d=v)(hs:a.eval s=u){v':Value}{w':World}(hr:(Builtin.copy_ #[t,t'] o.type #[v,u]).run P w= .ok v' w')(h:K (a.put o.dst v') w'):o.wp P a w K Q:=by unfold Oper.wp execOp;simp only[ho,resolve,invoke,builtin,Sem.run_bind,Sem.run_pure,Result.andThen_ok,List.map_toArray,List.map_cons,List.map_nil,hd,hs,hr];exact h
theorem OD{P:Program}(w:World){ops:Array Oper}{rest:List Oper}{o:Oper}{a:Act}{Q:Exit->Act->World->Prop}(hgd:o.guard=none)(d s:Operand)(t t':TypeId)(ho:o.op= .call { callee:=.builtin .copy,args:=#[d,s],argTypes:=#[t,t'] })(v u:Value)(hd:a.eval d=v)(hs:a.eval s=u){v':Value}{w':World}(hr:(Builtin.copy_ #[t,t'] o.type #[v,u]).run P w= .ok v' w')(h:wpList P ops Q rest (a.put o.dst v') w'):wpList P ops Q (o::rest) a w:=
 wpList_plain hgd fun _ hK=>R7 w d s t t' ho v u hd hs hr (hK _ _ h)
theorem Rf(w:World)(ty:TypeId)(a:Addr)(i c n:Nat)(cs:List Value)(hl:cs.length=i*4)(hc:∀j v,cs[j]? =some v->w.cell? (a.add j)=some v)(hroom:c<i+n)(h0:0<n)(hn:i+n<=1000000):∃cap,(Builtin.append_ #[23,3] ty #[.slice (some a) i c,.int .i64 n]).run Tryz.prog w= .ok (.slice (some ⟨w.heap.size,0,none⟩) (i+n) cap) (w.drew.alloc (.cells (cs.toArray++Builtin.zeroCells (Value.agg #[.int .u8 0,.string ⟨#[]⟩,.int .i64 0,.slice none 0 0]).cells n++Builtin.zeroCells (Value.agg #[.int .u8 0,.string ⟨#[]⟩,.int .i64 0,.slice none 0 0]).cells (cap - (i+n))) 25))/\i+n<=cap/\cap<=maxLen:=by
 obtain⟨i0,hi,hz0,hz1,hz2⟩:=info_parts Tryz.infoNode;have hge:=grownCap_ge w (i+n) c 25;have hle:=grownCap_le_maxLen w (i+n) c 25 (by unfold maxLen;omega);refine⟨grownCap w (i+n) c 25,?_,hge,hle⟩;have hw:IntKind.i64.wrap (n:Int)=n:=(by rw[IntKind.wrap_i64];omega);have hne:n≠0:=(by omega);have hneg:¬((n:Int)<0):=(by omega);have hroom':¬(i+n<=c):=(by omega);have h63':¬(9223372036854775807< (i:Int)+(n:Int)):=(by omega);have hcap:Builtin.nextslicecap (i+n) c<=2000000:=by have:=nextslicecap_le (need:=i+n) (old:=c) (by omega);omega
 have h48':¬(281474976710656<Builtin.nextslicecap (i+n) c*56):=(by omega);have h48i:¬(281474976710656< (n:Int) *56):=(by omega);have hfc:=run_firstCells_some (P:=Tryz.prog) (w:=w.drew) 4 i a i c cs hl (fun j v hj=>hc j v hj);simp[Builtin.append_,run_underlying Tryz.underlying23,run_underlying Tryz.underlying3,sizeOf,typeInfo,zeroValue,hi,hz0,hz1,hz2,asInt,asIntOf,hw,hne,hneg,hroom',h63',h48',h48i,Question.forced,hfc,newRow,grownCap];intro h4;omega
def J1(base:Nat)(A:Option Addr)(n c:Nat)(cs:List Value)(w:World)(e:Ending)(w':World):Prop:=
 ∃(A':Option Addr) (c':Nat),e= .returned (.slice A' (n+1) c')/\w'.ownsRow base 25 4 (.slice A' (n+1) c') (n+1) cs/\w.grownBy w' (Value.slice A n c).ownBlock/\∀q,(Value.slice A' (n+1) c').ownBlock=some q->(Value.slice A n c).ownBlock=some q∨w.heap.size<=q
structure MD (w:World) (g n c:Nat) (cur:Array Value) (cs:List Value):Prop where
 blk:w.heap[g]? =some (.cells cur 25 (0,0))
 size:cur.size=c*4
 take:cur.toList.take (n*4)=cs
 le:n<=c
 cap:c<=maxLen
theorem Li{w:World}{base g n c:Nat}{cs:List Value}(h:w.ownsRow base 25 4 (.slice (some ⟨g,0,none⟩) n c) n cs):∃cur,MD w g n c cur cs/\base<=g/\cs.length=n*4:=by
 obtain⟨h1,h2⟩:=h;rcases h2 with ⟨e,_⟩|⟨g',c',cur,e,hb,hg,h3,h4,h5,h6⟩
 .cases e
 .injection e with e1 e2 e3;injection e1 with e1;injection e1 with e1;subst e1 e3;exact⟨cur,⟨hg,h5,h6,h3,h4⟩,hb,h1⟩
structure JN (w:World) (vb:Nat) (vs:List Value):Prop where
 blk:∃(cur:Array Value) (T:TypeId),w.heap[vb]? =some (.cells cur T (0,0))/\∀(j:Nat) (v:Value),vs[j]? =some v->cur[j]? =some v
 len:vs.length=4
 one:∀v∈vs,v.oneCell'=true
theorem JN.cell{w:World}{vb:Nat}{vs:List Value}(h:JN w vb vs){j:Nat}{v:Value}(hv:vs[j]? =some v):w.cell? ⟨vb,j,none⟩=some v:=by obtain⟨cur,T,h1,h2⟩:=h.blk;simp[World.cell?,h1,h2 j v hv]
theorem QG(cs vs:List Value)(base:Nat)(A:Option Addr)(n c vb vc:Nat)(w:World)(hown:w.ownsRow base 25 4 (.slice A n c) n cs)(hn:n<=100000)(hv:JN w vb vs)(hbase:base<=w.heap.size):Calls Tryz.prog 102 #[.slice A n c,.int .i64 n,.slice (some ⟨vb,0,none⟩) 1 vc] w (J1 base A n c (cs++vs) w):=by
 obtain⟨i0,hi,hz0,hz1,hz2⟩:=info_parts Tryz.infoNode;have HO:=ab hown;have HV:=ab hv;have hc:n<=c/\c<=maxLen:=(by obtain⟨A',c',e,h1,h2⟩:=t9 hown;injection e with _ _ e;subst e;exact⟨h1,h2⟩);have hcm:c<=9223372036854775807:=(by have:=hc.2;unfold maxLen at this;omega);have hnc:=hc.1;clear hown hv hc;cases A with
 |none=>
  have h0:n=0/\c=0:=by
   rcases HO.out.2 with ⟨e,h⟩|⟨g,cap,cur,e,_⟩
   .injection e with _ _ e;exact⟨h,e⟩
   .cases e
  obtain⟨rfl,rfl⟩:=h0
  go_in
  go_wp2_with (at_builtin;refine wpList_append_lies _ rfl _ _ 23 rfl base 25 i0 _ 4 56 Tryz.underlying23 hi hz0 hz1 hz2 rfl (by omega) _ _ cs rfl HO.out ⟨vb,0,none⟩ 1 vc vs rfl (by rw[HV.out.len]) (fun j u hu=>by rw[CE,Nat.zero_add];exact HV.out.cell hu) HV.out.one (by omega) (by unfold maxLen;omega) (by omega) hbase _ rfl ?_;intro g' cap' w' ho' hg' hlies' _);all_goals
   have HO2:=ab ho';have HG2:=ab hg';have HL2:=ab hlies';clear ho' hg' hlies';try go_wp2_with fail
   go_ret;exact⟨_,_,rfl,HO2.out,HG2.out,fun q hq=>by
    have e:g'=q:=(by simpa[Value.ownBlock] using hq);subst e;rcases HL2.out with h|h
    .exact .inl h
    .exact .inr (by omega)⟩
 |some a=>
  obtain⟨g,rfl⟩:∃g,a=⟨g,0,none⟩:=by
   rcases HO.out.2 with ⟨e,h⟩|⟨g,cap,cur,e,_⟩
   .cases e
   .injection e with e;injection e with e;exact⟨g,e⟩
  go_in
  go_wp2_with (at_builtin;refine wpList_append_lies _ rfl _ _ 23 rfl base 25 i0 _ 4 56 Tryz.underlying23 hi hz0 hz1 hz2 rfl (by omega) _ _ cs rfl HO.out ⟨vb,0,none⟩ 1 vc vs rfl (by rw[HV.out.len]) (fun j u hu=>by rw[CE,Nat.zero_add];exact HV.out.cell hu) HV.out.one (by omega) (by unfold maxLen;omega) (by omega) hbase _ rfl ?_;intro g' cap' w' ho' hg' hlies' _);all_goals
   have HO2:=ab ho';have HG2:=ab hg';have HL2:=ab hlies';clear ho' hg' hlies';try go_wp2_with fail
   go_ret;exact⟨_,_,rfl,HO2.out,HG2.out,fun q hq=>by
    have e:g'=q:=(by simpa[Value.ownBlock] using hq);subst e;rcases HL2.out with h|h
    .exact .inl h
    .exact .inr (by omega)⟩
theorem Q8{w:World}{g:Nat}{cur:Array Value}{T:TypeId}(h:w.heap[g]? =some (.cells cur T (0,0))){o:Nat}{cs:List Value}(hc:∀j v,cs[j]? =some v->cur.toList[o+j]? =some v):∀j v,cs[j]? =some v->w.cell? ((⟨g,o,none⟩:Addr).add j)=some v:=by intro j v hv;rw[CE];have:=hc j v hv;simpa[World.cell?,h] using this
theorem Oo{cs:List Value}{k j:Nat}{v:Value}(h:(cs.take k)[j]? =some v):cs[j]? =some v:=by
 rw[List.getElem?_take] at h;split at h
 .exact h
 .cases h
theorem KD{w:World}{g n c:Nat}{cur:Array Value}{cs:List Value}(h:MD w g n c cur cs){j:Nat}{v:Value}(hv:cs[j]? =some v):cur.toList[j]? =some v:=by rw[<-h.take] at hv;exact Oo hv
theorem Pr(w:World){i q cap n:Nat}{cs:List Value}(hl:cs.length=n*4)(hi:i<=n)(hq:i+q=n+1)(hc:n+1<=cap):(((cs.take (i*4)).toArray++Builtin.zeroCells (Value.agg #[.int .u8 0,.string ⟨#[]⟩,.int .i64 0,.slice none 0 0]).cells q++Builtin.zeroCells (Value.agg #[.int .u8 0,.string ⟨#[]⟩,.int .i64 0,.slice none 0 0]).cells (cap - (i+q)):Array Value)).size=cap*4/\(((cs.take (i*4)).toArray++Builtin.zeroCells (Value.agg #[.int .u8 0,.string ⟨#[]⟩,.int .i64 0,.slice none 0 0]).cells q++Builtin.zeroCells (Value.agg #[.int .u8 0,.string ⟨#[]⟩,.int .i64 0,.slice none 0 0]).cells (cap - (i+q)):Array Value)).toList.take (i*4)=cs.take (i*4):=by
 have h4:(Value.agg #[.int .u8 0,.string ⟨#[]⟩,.int .i64 0,.slice none 0 0]).cells.size=4:=rfl;constructor
 .simp only[Array.size_append,List.size_toArray,size_zeroCells,h4,List.length_take,hl];omega
 .rw[Array.toList_append,Array.toList_append,List.append_assoc,List.take_append_of_le_length (by simp;omega)];simp[List.take_take]
theorem Lw{X ds Y:List Value}{m:Nat}(h:m=X.length+ds.length):(X++ds++Y).take m=X++ds:=by subst h;rw[List.take_append_of_le_length (by simp),List.take_of_length_le (by simp)]
theorem Rb{L1 cs vs:List Value}{a n:Nat}(hv:vs.length=4)(hl:cs.length=n*4)(ha:a<=n*4)(h1:L1.take a=cs.take a)(h2:(n+1) *4<=L1.length):let L2:=L1.take a++vs++L1.drop (a+vs.length)
 (L2.take (a+4)++cs.drop a++L2.drop (a+4+(cs.drop a).length)).take ((n+1) *4)=cs.take a++vs++cs.drop a:=by
 intro L2;have e:L2.take (a+4)=cs.take a++vs:=by rw[<-h1];exact Lw (by simp;omega)
 rw[e];exact Lw (by simp;omega)
theorem Rc{L cs vs:List Value}{a n:Nat}(hv:vs.length=4)(hl:cs.length=n*4)(ha:a<=n*4)(h1:L.take (n*4)=cs)(h2:(n+1) *4<=L.length):let L2:=L.take (a+4)++cs.drop a++L.drop (a+4+(cs.drop a).length)
 (L2.take a++vs++L2.drop (a+vs.length)).take ((n+1) *4)=cs.take a++vs++cs.drop a:=by
 intro L2;have e1:L2.take a=cs.take a:=by
  show(L.take (a+4)++cs.drop a++_).take a=_;rw[List.append_assoc,List.take_append_of_le_length (by simp;omega),List.take_take,<-h1,List.take_take]
  congr 1
  omega
 have e2:L2.drop (a+vs.length)=cs.drop a++L.drop (a+4+(cs.drop a).length):=by show(L.take (a+4)++cs.drop a++_).drop _=_;rw[hv,List.append_assoc];have hx:(L.take (a+4)).length=a+4:=(by simp;omega);exact List.drop_left' hx
 rw[e1,e2,<-List.append_assoc];exact Lw (by simp;omega)
theorem QH(cs vs:List Value)(base g n c i vb vc:Nat)(w:World)(hown:w.ownsRow base 25 4 (.slice (some ⟨g,0,none⟩) n c) n cs)(hn:n<=100000)(hi:i<n)(hc:c<n+1)(hv:JN w vb vs)(hbase:base<=w.heap.size)(h1c:∀v∈cs,v.oneCell'=true):Calls Tryz.prog 102 #[.slice (some ⟨g,0,none⟩) n c,.int .i64 i,.slice (some ⟨vb,0,none⟩) 1 vc] w (J1 base (some ⟨g,0,none⟩) n c (cs.take (i*4)++vs++cs.drop (i*4)) w):=by
 obtain⟨cur,hR,hbg,hcl⟩:=Li hown;have hcm:c<=9223372036854775807:=(by omega);have hnc:n=c:=(by have:=hR.le;omega);obtain⟨q,hq⟩:∃q:Nat,i+q=n+1:=⟨n+1 - i,by omega⟩;have hqi:(n:Int)+1 - i=(q:Int):=(by omega);have hci:¬c=i:=(by omega);have hni:¬(i:Int)=n:=(by omega);have hroom:(c:Int)< (n:Int)+1:=(by omega);have hin:(i:Int)<=n:=(by omega);have hic:(i:Int)<=c:=(by omega);have hnib:((i:Int) == n)=false:=(by simpa using hni);have htl:(cs.take (i*4)).length=i*4:=(by rw[List.length_take,hcl];omega);have hsrc:∀j v,(cs.take (i*4))[j]? =some v->w.cell? ((⟨g,0,none⟩:Addr).add j)=some v:=Q8 hR.blk fun j v hv=>by rw[Nat.zero_add];exact KD hR (Oo hv)
 obtain⟨cap,hrun,hcp,hcx⟩:=Rf w 23 ⟨g,0,none⟩ i c q (cs.take (i*4)) htl hsrc (by omega) (by omega) (by omega);obtain⟨z1,z2⟩:=Pr w (i:=i) (q:=q) (cap:=cap) (n:=n) (cs:=cs) hcl (by omega) hq (by omega);obtain⟨cur1,hcur1⟩:∃cur1,cur1=((cs.take (i*4)).toArray++Builtin.zeroCells (Value.agg #[.int .u8 0,.string ⟨#[]⟩,.int .i64 0,.slice none 0 0]).cells q++Builtin.zeroCells (Value.agg #[.int .u8 0,.string ⟨#[]⟩,.int .i64 0,.slice none 0 0]).cells (cap - (i+q)):Array Value):=⟨_,rfl⟩;rw[<-hcur1] at z1 z2 hrun;obtain⟨W1,hW1⟩:∃W1,W1=w.drew.alloc (.cells cur1 25):=⟨_,rfl⟩;rw[<-hW1] at hrun;have hg1:W1.heap[w.heap.size]? =some (.cells cur1 25 (0,0)):=(by rw[hW1];exact heap_alloc_new _ _);have hold:∀k,k<w.heap.size->W1.heap[k]? =w.heap[k]? :=fun k hk=>by rw[hW1];exact hpo w.drew _ hk
 have hs1:W1.heap.size=w.heap.size+1:=(by rw[hW1];simp);have hgr1:W1.os=w.os/\W1.tape=w.tape/\W1.output=w.output:=(by rw[hW1];exact⟨rfl,rfl,rfl⟩);clear hW1 hcur1;have hglt:g<w.heap.size:=(aK.1 hR.blk).1;obtain⟨L2,hL2⟩:∃L2,L2=cur1.toList.take (i*4)++vs++cur1.toList.drop (i*4+vs.length):=⟨_,rfl⟩;obtain⟨L3,hL3⟩:∃L3,L3=L2.take (i*4+4)++cs.drop (i*4)++L2.drop (i*4+4+(cs.drop (i*4)).length):=⟨_,rfl⟩;have hz1':cur1.toList.length=cap*4:=(by simpa using z1);have hrows:L3.take ((n+1) *4)=cs.take (i*4)++vs++cs.drop (i*4):=by rw[hL3,hL2];exact Rb hv.len hcl (by omega) z2 (by omega)
 have hl2:L2.length=cap*4:=(by rw[hL2];simp[hv.len,hz1'];omega);have hl3:L3.length=cap*4:=(by rw[hL3];simp[hl2,hcl];omega);have hvsz:=hv.len;have HCP1:Hid (∀ty dl dc,0<dl->(Builtin.copy_ #[23,23] ty #[.slice (some ⟨w.heap.size,i*4,none⟩) dl dc,.slice (some ⟨vb,0,none⟩) 1 vc]).run Tryz.prog W1= .ok (goInt (Nat.min 1 dl)) (W1.setRow w.heap.size L2.toArray)):=fun ty dl dc hdl=>by obtain⟨i0,hi0,hz0,hz1,hz2⟩:=info_parts Tryz.infoNode;rw[hL2];refine Ls W1 _ _ ty 25 4 w.heap.size (i*4) dl dc ⟨vb,0,none⟩ 1 vc cur1 25 vs Tryz.underlying23 (by rw[hi0];simp[hz1]) hg1 (by rw[hv.len,show Nat.min 1 dl=1 from by simp[Nat.min_def];omega]) ?_ (by rw[hv.len,z1];omega) hv.one;intro j v hj;rw[CE,Nat.zero_add];have hlt:vb<w.heap.size:=(by obtain⟨_,_,h,_⟩:=hv.blk;exact(aK.1 h).1);rw[World.cell?_of_block (a:=⟨vb,j,none⟩) (hold vb hlt)];exact hv.cell hj
 obtain⟨W2,hW2⟩:∃W2,W2=W1.setRow w.heap.size L2.toArray:=⟨_,rfl⟩;rw[<-hW2] at HCP1;have hg2:W2.heap[w.heap.size]? =some (.cells L2.toArray 25 (0,0)):=(by rw[hW2];exact setRow_heap _ _ _ _ _ _ hg1);have hold2:∀k,k<w.heap.size->W2.heap[k]? =w.heap[k]? :=fun k hk=>by rw[hW2,setRow_other _ _ _ _ (by omega)];exact hold k hk
 have hs2:W2.heap.size=w.heap.size+1:=(by rw[hW2];simp[World.setRow,hs1]);have hgr2:W2.os=w.os/\W2.tape=w.tape/\W2.output=w.output:=(by rw[hW2];exact hgr1);clear hW2;have HCP2:Hid (∀ty dl dc sl sc,dl=n - i->sl=n - i->(Builtin.copy_ #[23,23] ty #[.slice (some ⟨w.heap.size,(i+1) *4,none⟩) dl dc,.slice (some ⟨g,i*4,none⟩) sl sc]).run Tryz.prog W2.drew= .ok (goInt (Nat.min sl dl)) (W2.drew.setRow w.heap.size L3.toArray)):=fun ty dl dc sl sc hdl hsl=>by
  obtain⟨i0,hi0,hz0,hz1,hz2⟩:=info_parts Tryz.infoNode;have hmin:Nat.min sl dl=n - i:=(by rw[hdl,hsl];simp[Nat.min_def]);rw[hL3,show i*4+4=(i+1) *4 from by omega];have:=Ls (P:=Tryz.prog) W2.drew 23 23 ty 25 4 w.heap.size ((i+1) *4) dl dc ⟨g,i*4,none⟩ sl sc L2.toArray 25 (cs.drop (i*4)) Tryz.underlying23 (by rw[hi0];simp[hz1]) hg2 (by rw[hmin,List.length_drop,hcl];omega) ?_ (by simp[hl2,hcl];omega) (fun v hv=>h1c v (List.mem_of_mem_drop hv))
  .simpa using this
  .intro j v hj;rw[CE];show W2.cell? _=_;rw[World.cell?_of_block (a:=⟨g,i*4+j,none⟩) (hold2 g hglt)];rw[List.getElem?_drop] at hj;have:=KD hR hj;simpa[World.cell?,hR.blk] using this
 have HRUN:=ab hrun;have HEND:Hid (J1 base (some ⟨g,0,none⟩) n c (cs.take (i*4)++vs++cs.drop (i*4)) w (.returned (.slice (some ⟨w.heap.size,0,none⟩) (n+1) cap)) (W2.drew.setRow w.heap.size L3.toArray)):=by
  refine⟨some ⟨w.heap.size,0,none⟩,cap,rfl,⟨by simp[hcl,hvsz];omega,.inr ⟨w.heap.size,cap,L3.toArray,rfl,hbase,setRow_heap _ _ _ _ _ _ hg2,by omega,hcx,by simpa using hl3,by simpa using hrows⟩⟩,⟨hgr2.1,hgr2.2.1,hgr2.2.2,?_,fun k hk hne=>?_⟩,fun q hq=>.inr (by simp[Value.ownBlock] at hq;omega)⟩
  .simp[World.setRow];omega
  .rw[setRow_other _ _ _ _ (by omega)];exact hold2 k hk
 have hcap1:¬cap=i:=(by omega);have hcap2:¬cap=i+1:=(by omega);have hcapm:cap<=9223372036854775807:=(by unfold maxLen at hcx;omega);have HNC:=ab hnc;have HQQ:=ab hq;have hq2:0<q:=(by omega);have hq3:q - 1=n - i:=(by omega);clear hnc hq hrun hcx z1 z2 hg1 hold hs1 hgr1 hL2 hL3 hz1' hrows hl2 hl3 hg2 hold2 hs2 hgr2 hsrc htl hv hR hown h1c
 go_in
 go_upto_region 10 with (at_builtin;refine Lib.wpList_append_run _ rfl _ _ _ _ rfl _ _ rfl rfl _ _ HRUN.out ?_);go_wp2_with (refine OD _ rfl (.tmp 43) (.tmp 44) 23 23 rfl _ _ rfl rfl (HCP1.out _ _ _ (by omega)) ?_);have hia:(i:Int)+1<=cap:=(by have:=HQQ.out;omega);have hib:(i:Int)+1<=(i:Int)+q:=(by omega);have hw1:IntKind.i64.wrap ((i:Int)+1)=(i:Int)+1:=(by rw[IntKind.wrap_i64];omega);have htn:((i:Int)+1).toNat=i+1:=(by omega);have h0i:(0:Int)<=(i:Int)+1:=(by omega);refine wp_region_noPanic ?_;refine wp_region_held_drew (S:=fun _=>True) (by kernel_rfl) trivial fun hH0=>?_;refine ae 0 ?_;refine ae 1 ?_;refine ae 2 ?_;refine ae 3 ?_;refine ae 4 ?_;refine ae 5 ?_;refine ae 6 ?_;refine ae 7 ?_;refine aL 8 fun K hK=>?_;refine Oj rfl (.tmp 50) (.tmp 53) 23 23 rfl _ _ rfl rfl (HCP2.out _ _ _ _ _ (by have:=HQQ.out;omega) (by omega)) ?_;refine hK.out _ _ trivial (fun hH1=>?_);clear hK K;refine aM ?_;refine wpAnyH_done (by kernel_rfl) ?_ _;refine NoPanic.normal ?_;rw[HQQ.out];go_wp2_with fail;go_ret;exact HEND.out
theorem Pa(w:World)(vb g o vc lb cb:Nat)(hne:vb≠g){vcur cur:Array Value}{T T':TypeId}(hv:w.heap[vb]? =some (.cells vcur T (0,0)))(hg:w.heap[g]? =some (.cells cur T' (0,0)))(h0:cur.size≠0):(callFunc 168 #[.slice (some ⟨vb,0,none⟩) 1 vc,.slice (some ⟨g,o,none⟩) lb cb]).run Tryz.prog w= .ok (.value (.bool false)) w:=by
 have hz:∀w,(Go.sizeOf 25).run Tryz.prog w= .ok 4 w:=fun w=>by obtain⟨i0,hi,hz0,hz1,hz2⟩:=info_parts Tryz.infoNode;simp[Go.sizeOf,typeInfo,hi,hz1]
 rw[run_callFunc_extern Tryz.func168 (by kernel_rfl) (by kernel_rfl) (by kernel_rfl) (e:=Extern.SlicesOverlaps.overlaps #[23,23] #[4]) (by kernel_rfl),
  Lib.run_overlaps_apart w 23 4 25 Tryz.underlying23 4 hz ⟨vb,0,none⟩ ⟨g,o,none⟩ 1 vc lb cb hne T T' vcur.size cur.size (by simp[World.shape?,hv]) (by simp[World.shape?,hg]) h0 (by simp[World.frozen?,hv]) (by simp[World.frozen?,hv])]
 rfl
theorem QI(cs vs:List Value)(base g n c i vb vc:Nat)(w:World)(hown:w.ownsRow base 25 4 (.slice (some ⟨g,0,none⟩) n c) n cs)(hn:n<=100000)(hi:i<n)(hc:n+1<=c)(hv:JN w vb vs)(hvg:vb≠g)(h1c:∀v∈cs,v.oneCell'=true):Calls Tryz.prog 102 #[.slice (some ⟨g,0,none⟩) n c,.int .i64 i,.slice (some ⟨vb,0,none⟩) 1 vc] w (J1 base (some ⟨g,0,none⟩) n c (cs.take (i*4)++vs++cs.drop (i*4)) w):=by
 obtain⟨cur,hR,hbg,hcl⟩:=Li hown;have hcx:=hR.cap;have hcm:c<=9223372036854775807:=(by unfold maxLen at hcx;omega);have hsz:cur.toList.length=c*4:=(by simpa using hR.size);have hni:¬(i:Int)=n:=(by omega);have hnib:((i:Int) == n)=false:=(by simpa using hni);have hroom:¬(c:Int)< (n:Int)+1:=(by omega);have hroom2:(n:Int)+1<=c:=(by omega);have hin:(i:Int)<=n:=(by omega);have hci:¬c=i:=(by omega);have hci1:¬c=i+1:=(by omega);have hvsz:=hv.len;obtain⟨L2,hL2⟩:∃L2,L2=cur.toList.take (i*4+4)++cs.drop (i*4)++cur.toList.drop (i*4+4+(cs.drop (i*4)).length):=⟨_,rfl⟩;obtain⟨L3,hL3⟩:∃L3,L3=L2.take (i*4)++vs++L2.drop (i*4+vs.length):=⟨_,rfl⟩;have hrows:L3.take ((n+1) *4)=cs.take (i*4)++vs++cs.drop (i*4):=by rw[hL3,hL2];exact Rc hv.len hcl (by omega) hR.take (by omega)
 have hl2:L2.length=c*4:=(by rw[hL2];simp only[CD,List.length_take,List.length_drop,hcl,hsz];omega);have hl3:L3.length=c*4:=(by rw[hL3];simp only[CD,List.length_take,List.length_drop,hl2,hvsz];omega);have hvlt:vb<w.heap.size:=(by obtain⟨_,_,h,_⟩:=hv.blk;exact(aK.1 h).1);have hglt:g<w.heap.size:=(aK.1 hR.blk).1;have HOV:Hid (∀lb cb,(callFunc 168 #[.slice (some ⟨vb,0,none⟩) 1 vc,.slice (some ⟨g,(i+1) *4,none⟩) lb cb]).run Tryz.prog w= .ok (.value (.bool false)) w):=fun lb cb=>by obtain⟨vcur,T,h,_⟩:=hv.blk;exact Pa w vb g ((i+1) *4) vc lb cb hvg h hR.blk (by rw[hR.size];omega)
 have HCP1:Hid (∀ty dl dc sl sc,dl=n - i->sl=n+1 - i->(Builtin.copy_ #[23,23] ty #[.slice (some ⟨g,(i+1) *4,none⟩) dl dc,.slice (some ⟨g,i*4,none⟩) sl sc]).run Tryz.prog w.drew= .ok (goInt (Nat.min sl dl)) (w.drew.setRow g L2.toArray)):=fun ty dl dc sl sc hdl hsl=>by obtain⟨i0,hi0,hz0,hz1,hz2⟩:=info_parts Tryz.infoNode;have hmin:Nat.min sl dl=n - i:=(by rw[hdl,hsl];simp[Nat.min_def];omega);rw[hL2,show i*4+4=(i+1) *4 from by omega];refine Ls (P:=Tryz.prog) w.drew 23 23 ty 25 4 g ((i+1) *4) dl dc ⟨g,i*4,none⟩ sl sc cur 25 (cs.drop (i*4)) Tryz.underlying23 (by rw[hi0];simp[hz1]) hR.blk (by rw[hmin,List.length_drop,hcl];omega) ?_ (by rw[hR.size];simp[hcl];omega) (fun v hv=>h1c v (List.mem_of_mem_drop hv));intro j v hj;rw[CE];rw[List.getElem?_drop] at hj;have:=KD hR hj;show w.cell? _=_;simpa[World.cell?,hR.blk] using this
 obtain⟨W1,hW1⟩:∃W1,W1=w.drew.setRow g L2.toArray:=⟨_,rfl⟩;rw[<-hW1] at HCP1;have hg1:W1.heap[g]? =some (.cells L2.toArray 25 (0,0)):=(by rw[hW1];exact setRow_heap _ _ _ _ _ _ hR.blk);have hold:∀k,k≠g->W1.heap[k]? =w.heap[k]? :=fun k hk=>by rw[hW1,setRow_other _ _ _ _ hk];rfl
 have hs1:W1.heap.size=w.heap.size:=(by rw[hW1];simp[World.setRow]);have hgr1:W1.os=w.os/\W1.tape=w.tape/\W1.output=w.output:=(by rw[hW1];exact⟨rfl,rfl,rfl⟩);clear hW1;have HCP2:Hid (∀ty dl dc,0<dl->(Builtin.copy_ #[23,23] ty #[.slice (some ⟨g,i*4,none⟩) dl dc,.slice (some ⟨vb,0,none⟩) 1 vc]).run Tryz.prog W1= .ok (goInt (Nat.min 1 dl)) (W1.setRow g L3.toArray)):=fun ty dl dc hdl=>by
  obtain⟨i0,hi0,hz0,hz1,hz2⟩:=info_parts Tryz.infoNode;rw[hL3];have:=Ls (P:=Tryz.prog) W1 23 23 ty 25 4 g (i*4) dl dc ⟨vb,0,none⟩ 1 vc L2.toArray 25 vs Tryz.underlying23 (by rw[hi0];simp[hz1]) hg1 (by rw[hv.len,show Nat.min 1 dl=1 from by simp[Nat.min_def];omega]) ?_ (by rw[hv.len];simp[hl2];omega) hv.one
  .simpa using this
  .intro j v hj;rw[CE,Nat.zero_add];rw[World.cell?_of_block (a:=⟨vb,j,none⟩) (hold vb hvg)];exact hv.cell hj
 have HEND:Hid (J1 base (some ⟨g,0,none⟩) n c (cs.take (i*4)++vs++cs.drop (i*4)) w (.returned (.slice (some ⟨g,0,none⟩) (n+1) c)) (W1.setRow g L3.toArray)):=by
  refine⟨some ⟨g,0,none⟩,c,rfl,⟨by simp[hcl,hvsz];omega,.inr ⟨g,c,L3.toArray,rfl,hbg,setRow_heap _ _ _ _ _ _ hg1,hc,hcx,by simpa using hl3,by simpa using hrows⟩⟩,⟨hgr1.1,hgr1.2.1,hgr1.2.2,?_,fun k hk hne=>?_⟩,fun q hq=>.inl (by simpa[Value.ownBlock] using hq)⟩
  .simp[World.setRow];omega
  .have hkg:k≠g:=fun e=>hne (by rw[e];rfl);rw[setRow_other _ _ _ _ hkg];exact hold k hkg
 have hw1:IntKind.i64.wrap ((i:Int)+1)=(i:Int)+1:=(by rw[IntKind.wrap_i64];omega);have htn:((i:Int)+1).toNat=i+1:=(by omega);have h0i:(0:Int)<=(i:Int)+1:=(by omega);have hib:(i:Int)+1<=(n:Int)+1:=(by omega);have hib2:(i:Int)<=(n:Int)+1:=(by omega);have hov:=HOV.out;clear hcx hsz hL2 hL3 hrows hl2 hl3 hg1 hold hs1 hgr1 hv hR hown h1c HOV
 go_in
 go_wp2_with (simp only[hov]);refine wp_region_noPanic ?_;refine wp_region_held_drew (S:=fun _=>True) (by kernel_rfl) trivial fun hH0=>?_;refine ae 0 ?_;refine ae 1 ?_;refine ae 2 ?_;refine ae 3 ?_;refine ae 4 ?_;refine ae 5 ?_;refine ae 6 ?_;refine ae 7 ?_;refine aL 8 fun K hK=>?_;refine Oj rfl (.tmp 73) (.tmp 76) 23 23 rfl _ _ rfl rfl (HCP1.out _ _ _ _ _ (by omega) (by omega)) ?_;refine hK.out _ _ trivial (fun hH1=>?_);clear hK K;refine aM ?_;refine wpAnyH_done (by kernel_rfl) ?_ _;refine NoPanic.normal ?_;go_wp2_with (refine OD _ rfl (.tmp 80) (.tmp 81) 23 23 rfl _ _ rfl rfl (HCP2.out _ _ _ (by omega)) ?_);go_ret;exact HEND.out
theorem NR(cs vs:List Value)(base:Nat)(A:Option Addr)(n c i vb vc:Nat)(w:World)(hown:w.ownsRow base 25 4 (.slice A n c) n cs)(hn:n<=100000)(hi:i<=n)(hv:JN w vb vs)(hvg:∀g,(Value.slice A n c).ownBlock=some g->vb≠g)(hbase:base<=w.heap.size)(h1c:∀v∈cs,v.oneCell'=true):Calls Tryz.prog 102 #[.slice A n c,.int .i64 i,.slice (some ⟨vb,0,none⟩) 1 vc] w (J1 base A n c (cs.take (i*4)++vs++cs.drop (i*4)) w):=by
 by_cases he:i=n
 .subst he;have hl:=hown.1;rw[List.take_of_length_le (by omega),List.drop_eq_nil_of_le (by omega),List.append_nil];exact QG cs vs base A i c vb vc w hown hn hv hbase
 .obtain⟨g,rfl⟩:∃g,A=some ⟨g,0,none⟩:=by
   rcases hown.2 with ⟨e,h⟩|⟨g,cap,cur,e,_⟩
   .omega
   .injection e with e;exact⟨g,e⟩
  by_cases hr:n+1<=c
  .exact QI cs vs base g n c i vb vc w hown hn (by omega) hr hv (hvg g rfl) h1c
  .exact QH cs vs base g n c i vb vc w hown hn (by omega) (by omega) hv hbase h1c
end Go.Proofs.YtfipahjodfminaaGreatDoor
