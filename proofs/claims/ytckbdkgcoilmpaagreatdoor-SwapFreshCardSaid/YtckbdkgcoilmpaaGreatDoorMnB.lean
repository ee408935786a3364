/- Part 2 of the proof. -/
import Derived.WalkKit
import Derived.WalkSpells
import Derived.Deep.AppendLies
import Derived.Deep.Draws
import Derived.Maps.OwnSet
import Derived.Test.YtckbdkgcoilmpaaGreatDoorRows
import Derived.WalkLawsBesides
import Derived.Test.YtckbdkgcoilmpaaGreatDoorShelf
import Derived.Deep.RegionHeld3
import Derived.Deep.QuietTactic
import Derived.BigQuiet
import Derived.Test.YtckbdkgcoilmpaaGreatDoorMnA
namespace Go.Proofs.YtckbdkgcoilmpaaGreatDoor
open Go.RowKit
set_option linter.all false
set_option maxHeartbeats 40000000
set_option maxRecDepth 100000
def gx(t:ag):Nat×Nat:=
 if t.kind≠1∨pi t=false then(4,0) else match gn t.kids with
  | .ok _=>(0,0)
  | .error e=>e
structure j9 where
 path:List Int
 name:ar
 uses:List (List Int)
 deriving DecidableEq
def cy(st:bo)(i:Nat):j9:=⟨(ln st i).headD [],hG st i,(ln st i).tail⟩
def i5(t:ag):List j9:=
 if (gx t).1≠0 then[] else match gn t.kids with
  | .ok (_,st)=>st.all.map (cy st)
  | .error _=>[]
def vi(p:List Int)(l:List j9):List j9:=l.map fun b=>if b.path=p then⟨b.path,[],b.uses⟩ else b
def wc(t:ag)(a:ar)(l:List (List Int)):ag:=l.foldl (fun t p=>t.setAt a p) t
def Ca(t:ag)(p:List Int)(frm to_:ar):Except Nat ag:=
 match (i5 t).find? (fun b=>decide (b.path=p)) with
 |none=>.error 6
 |some b=>
  if b.name≠frm then .error 121
  else if (gx (wc t to_ (p::b.uses))).1≠0∨vi p (i5 t)≠vi p (i5 (wc t to_ (p::b.uses))) then .error 120
  else .ok (wc t to_ (p::b.uses))
def va(st st':bo):Prop:=∃new,st'.all=st.all++new/\new.Nodup/\(∀i∈new,st.bs.length<=i/\i<st'.bs.length/\∃q,(q,i)∈st'.ev)/\st.bs.length<=st'.bs.length/\∀e∈st.ev,e∈st'.ev
theorem va.refl{st st':bo}(h1:st'.all=st.all)(h2:st.bs.length<=st'.bs.length)(h3:∀e∈st.ev,e∈st'.ev):va st st':=⟨[],by simp[h1],by simp,by simp,h2,h3⟩
theorem va.trans{st st1 st':bo}(h:va st st1)(h':va st1 st'):va st st':=by
 obtain⟨n1,a1,a2,a3,a4,a5⟩:=h;obtain⟨n2,b1,b2,b3,b4,b5⟩:=h';refine⟨n1++n2,by rw[b1,a1,List.append_assoc],?_,?_,aJ a4 b4,fun e he=>b5 e (a5 e he)⟩
 .rw[List.nodup_append];refine⟨a2,b2,fun x hx y hy hxy=>?_⟩;have h1:=(a3 x hx).2.1;have h2:=(b3 y hy).1;omega
 .intro i hi;rcases List.mem_append.1 hi with hi|hi
  .obtain⟨h1,h2,q,h3⟩:=a3 i hi;exact⟨h1,by omega,q,b5 _ h3⟩
  .obtain⟨h1,h2,q,h3⟩:=b3 i hi;exact⟨by omega,h2,q,h3⟩
theorem va.bind{own o:bq}{s:ar}{q:List Int}{a:Nat}{st st':bo}(h:j5 own s q a st= .ok (o,st')):va st st':=by obtain⟨_,_,rfl⟩:=ve h;exact⟨[st.bs.length],rfl,by simp,fun i hi=>by obtain rfl:=List.mem_singleton.1 hi;exact⟨ah _,by simp,q,by simp⟩,by simp,fun e he=>List.mem_append_left _ he⟩
theorem va.use{env:List bq}{call:Bool}{n:Nat}{s:ar}{q:List Int}{a:Nat}{st st':bo}(h:hY env call n s q a st= .ok st'):va st st':=by obtain⟨i,_,_,rfl⟩:=CC h;exact va.refl rfl (ah _) (fun e he=>List.mem_append_left _ he)
theorem va.next{st st':bo}(h:va st.next st'):va st st':=h
mutual
theorem Hj (fe:bq):∀(t:ag) (out:List bq) (own:bq) (q:List Int) (st:bo) (o:bq) (st':bo),da fe t out own q st= .ok (o,st')->t.noFunc->va st st'
 | .node k s x ks,out,own,q,st,o,st',h,hn=>by
  obtain⟨hk2,hnk⟩:=hn;unfold da at h;rw[if_neg hk2] at h;split at h
  .obtain⟨o1,st1,h1,h2⟩:=i9 h;exact((va.bind h1).trans (C9 fe ks _ _ _ _ _ _ _ h2 hnk)).next
  split at h
  .obtain⟨o1,h1,_⟩:=Cy h;exact(C9 fe ks _ _ _ _ _ _ _ h1 hnk).next
  split at h
  .split at h
   .cases h
   .obtain⟨o1,st1,h1,h2⟩:=i9 h;exact((C9 fe ks _ _ _ _ _ _ _ h1 hnk).trans (va.bind h2)).next
  split at h
  .obtain⟨st1,h1,h2⟩:=CG h;exact((va.use h1).trans (C9 fe ks _ _ _ _ _ _ _ h2 hnk)).next
  split at h
  .obtain⟨st1,h1,h2⟩:=CG h;exact((va.use h1).trans (C9 fe ks _ _ _ _ _ _ _ h2 hnk)).next
  .exact(C9 fe ks _ _ _ _ _ _ _ h hnk).next
theorem C9 (fe:bq):∀(ts:List ag) (out:List bq) (own:bq) (q:List Int) (j:Nat) (st:bo) (o:bq) (st':bo),dq fe ts out own q j st= .ok (o,st')->Dz ts->va st st'
 |[],out,own,q,j,st,o,st',h,_=>by
  unfold dq at h;cases h
  exact va.refl rfl (ah _) (fun _ h=>h)
 |t::ts,out,own,q,j,st,o,st',h,hn=>by unfold dq at h;obtain⟨o1,st1,h1,h2⟩:=i9 h;exact(Hj fe t _ _ _ _ _ _ h1 hn.1).trans (C9 fe ts _ _ _ _ _ _ _ h2 hn.2)
end
def rO(fe:bq)(t:ag):Nat:=(eg fe t.text).getD 0
theorem Ff(fe:bq):∀(ts:List ag) (out:List bq) (own:bq) (k:Nat) (st:bo) (o:bq) (st':bo),dq fe ts out own [] k st= .ok (o,st')->(∀t∈ts,A7 t)->(ts.map (rO fe)).Nodup->(∀t∈ts,rO fe t<st.bs.length)->∃new,st'.all=st.all++new/\new.Nodup/\(∀i∈new,i∈ts.map (rO fe)∨(st.bs.length<=i/\i<st'.bs.length/\∃q,(q,i)∈st'.ev))/\st.bs.length<=st'.bs.length
 |[],out,own,k,st,o,st',h,_,_,_=>by
  unfold dq at h;cases h
  exact⟨[],by simp,by simp,by simp,ah _⟩
 |t::ts,out,own,k,st,o,st',h,hF,hN,hL=>by
  obtain⟨s,x,p,b,rfl,hp,hb⟩:=hF t (List.mem_cons_self ..);unfold dq at h;obtain⟨o1,st1,h1,h2⟩:=i9 h;unfold da at h1;rw[if_pos rfl] at h1;obtain⟨o2,h3,_⟩:=Cy h1;obtain⟨n1,a1,a2,a3,a4,a5⟩:=C9 fe [p,b] _ _ _ _ _ _ _ h3 ⟨hp,hb,trivial⟩;have a4':st.bs.length<=st1.bs.length:=a4;have a3':∀i∈n1,st.bs.length<=i/\i<st1.bs.length/\∃q,(q,i)∈st1.ev:=a3;simp only[List.map_cons,List.nodup_cons] at hN;obtain⟨n2,b1,b2,b3,b4⟩:=Ff fe ts out o1 (k+1) st1 o st' h2 (fun t ht=>hF t (List.mem_cons_of_mem _ ht)) hN.2 (fun t ht=>fJ (hL t (List.mem_cons_of_mem _ ht)) a4');have hev:∀e∈st1.ev,e∈st'.ev:=by obtain⟨_,_,new,e1,_⟩:=Dl fe ts out o1 (k+1) st1 o st' h2 (fun t ht=>hF t (List.mem_cons_of_mem _ ht));intro e he;rw[e1];exact List.mem_append_left _ he
  have hf:rO fe (.node 2 s x [p,b])<st.bs.length:=hL _ (List.mem_cons_self ..);have hf2:∀i∈ts.map (rO fe),i<st.bs.length:=fun i hi=>by obtain⟨u,hu,rfl⟩:=List.mem_map.1 hi;exact hL u (List.mem_cons_of_mem _ hu)
  have ha1:st1.all=(st.all++[rO fe (.node 2 s x [p,b])])++n1:=a1;refine⟨rO fe (.node 2 s x [p,b]) :: (n1++n2),by rw[b1,ha1];simp,?_,?_,aJ a4' b4⟩
  .rw[List.nodup_cons,List.nodup_append];refine⟨fun hm=>?_,a2,b2,fun u hu v hv huv=>?_⟩
   .rcases List.mem_append.1 hm with hm|hm
    .have:=(a3' _ hm).1;omega
    .rcases b3 _ hm with h4|h4
     .exact hN.1 h4
     .have:=h4.1;omega
   .subst huv;have h5:=a3' _ hu;rcases b3 _ hv with h4|h4
    .have:=hf2 _ h4;omega
    .have:=h4.1;omega
  .intro i hi;rcases List.mem_cons.1 hi with rfl|hi
   .exact .inl (by simp)
   rcases List.mem_append.1 hi with hi|hi
   .obtain⟨h5,h6,q,h7⟩:=a3' i hi;exact .inr ⟨h5,by omega,q,hev _ h7⟩
   .rcases b3 i hi with h4|⟨h4,h5,h6⟩
    .exact .inl (by rw[List.map_cons];exact List.mem_cons_of_mem _ h4)
    .exact .inr ⟨by omega,h5,h6⟩
theorem E8:∀(ts:List ag) (k a0:Nat) (fe:bq) (st:bo) (o:bq) (st':bo),i6 ts k a0 fe st= .ok (o,st')->st.bs.length<=st'.bs.length/\∃new,st'.ev=st.ev++new/\(new.map Prod.snd).Nodup/\∀e∈new,st.bs.length<=e.2/\e.2<st'.bs.length
 |[],k,a0,fe,st,o,st',h=>by
  unfold i6 at h;cases h
  exact⟨ah _,[],by simp,by simp,by simp⟩
 |t::ts,k,a0,fe,st,o,st',h=>by
  unfold i6 at h;obtain⟨o1,st1,h1,h2⟩:=i9 h;obtain⟨_,_,rfl⟩:=ve h1;obtain⟨g1,new,g2,g3,g4⟩:=E8 ts (k+1) _ _ _ _ _ h2;have hl:st.bs.length+1<=st'.bs.length:=(by simpa[la] using g1);have g4':∀e∈new,st.bs.length+1<=e.2/\e.2<st'.bs.length:=fun e he=>by simpa[la] using g4 e he
  refine⟨by omega,([(k:Int)],st.bs.length) ::new,by rw[g2];simp[la],?_,?_⟩
  .simp only[List.map_cons,List.nodup_cons];refine⟨fun hm=>?_,g3⟩;obtain⟨e,he,h3⟩:=List.mem_map.1 hm;have:=(g4' e he).1;omega
  .intro e he;rcases List.mem_cons.1 he with rfl|he
   .exact⟨ah _,by simp only;omega⟩
   .have:=g4' e he;exact⟨by omega,this.2⟩
theorem Hy{l:List (List Int×Nat)}(h:(l.map Prod.snd).Nodup){q r:List Int}{i:Nat}(hi:(q,i)∈l)(hj:(r,i)∈l):q=r:=by
 induction l with
 |nil=>cases hi
 |cons p l ih=>
  simp only[List.map_cons,List.nodup_cons] at h;rcases List.mem_cons.1 hi with h1|h1
  .rcases List.mem_cons.1 hj with h2|h2
   .have:=h1.trans h2.symm;exact congrArg Prod.fst this
   .exact absurd (List.mem_map.2 ⟨_,h2,rfl⟩) (by rw[<-h1] at h;exact h.1)
  .rcases List.mem_cons.1 hj with h2|h2
   .exact absurd (List.mem_map.2 ⟨_,h1,rfl⟩) (by rw[<-h2] at h;exact h.1)
   .exact ih h.2 h1 h2
theorem Dv{ks:List ag}{o:bq}{st:bo}(h:gn ks= .ok (o,st))(hF:∀t∈ks,A7 t):st.all.Nodup/\∀i∈st.all,i<st.bs.length/\ln st i≠[]:=by
 unfold gn at h;obtain⟨fe,st1,h1,h2⟩:=i9 h;obtain⟨l1,n1,e1,e2,e3⟩:=E8 ks 0 1 [] Cl fe st1 h1;obtain⟨_,g2,_⟩:=Du ks 0 1 [] Cl fe st1 h1;have e1':st1.ev=n1:=(by rw[e1];rfl);have hid:∀m t,ks[m]? =some t->([((m:Nat):Int)],rO fe t)∈st1.ev/\rO fe t<st1.bs.length:=by intro m t ht;obtain⟨j,h3,h4⟩:=g2 m t ht;have hj:rO fe t=j:=(by unfold rO;rw[h3];rfl);rw[hj];refine⟨by simpa using h4,?_⟩;have:=e3 _ (e1' ▸ h4);exact this.2
 have hN:(ks.map (rO fe)).Nodup:=by refine List.pairwise_iff_getElem.2 fun i j hi hj hij hc=>?_;have hj':j<ks.length:=(by simpa using hj);have hi':i<ks.length:=(by omega);have a1:=(hid i _ (br hi')).1;have a2:=(hid j _ (br hj')).1;have hc':rO fe ks[i]=rO fe ks[j]:=(by simpa using hc);rw[hc'] at a1;rw[e1'] at a1 a2;have:=Hy e2 a1 a2;simp at this;omega
 have hlt:∀t∈ks,rO fe t<st1.bs.length:=fun t ht=>by obtain⟨m,hm⟩:=List.mem_iff_getElem?.1 ht;exact(hid m t hm).2
 obtain⟨new,b1,b2,b3,b4⟩:=Ff fe ks [] [] 0 st1.anew.next o st h2 hF hN hlt;have hev:∀e∈st1.ev,e∈st.ev:=by obtain⟨_,_,new,e1,_⟩:=Dl fe ks [] [] 0 st1.anew.next o st h2 hF;intro e he;rw[e1];exact List.mem_append_left _ he
 have hall:st.all=new:=(by rw[b1];rfl);rw[hall];refine⟨b2,fun i hi=>?_⟩;have hp:∀q,(q,i)∈st.ev->ln st i≠[]:=fun q hq hc=>by have:q∈ln st i:=List.mem_map.2 ⟨(q,i),List.mem_filter.2 ⟨hq,by simp⟩,rfl⟩;rw[hc] at this;cases this
 rcases b3 i hi with h3|⟨h3,h4,q,h5⟩
 .obtain⟨t,ht,rfl⟩:=List.mem_map.1 h3;obtain⟨m,hm⟩:=List.mem_iff_getElem?.1 ht;obtain⟨a1,a2⟩:=hid m t hm;exact⟨fJ a2 b4,hp _ (hev _ a1)⟩
 .exact⟨h4,hp q h5⟩
theorem DH{st:bo}{i:Nat}(h:ln st i≠[]):((cy st i).path,i)∈st.ev/\ln st i=(cy st i).path:: (cy st i).uses:=by
 unfold cy;cases hp:ln st i with
 |nil=>exact absurd hp h
 |cons q l=>refine⟨?_,rfl⟩;have:q∈ln st i:=(by rw[hp];exact List.mem_cons_self ..);obtain⟨e,he,rfl⟩:=List.mem_map.1 this;obtain⟨h1,h2⟩:=List.mem_filter.1 he;have h3:e.2=i:=(by simpa using h2);rw[<-h3];exact h1
theorem FN{ks:List ag}{o:bq}{st:bo}(h:gn ks= .ok (o,st))(hF:∀t∈ks,A7 t){i j:Nat}(hi:i∈st.all)(hj:j∈st.all)(he:(cy st i).path=(cy st j).path):i=j:=by have ha:=(Dv h hF).2;have h1:=(DH (ha i hi).2).1;have h2:=(DH (ha j hj).2).1;rw[he] at h1;exact Et (Eo h hF) h1 h2
theorem Di{t:ag}:(gx t).1=0↔t.kind=1/\pi t=true/\∃st,gn t.kids= .ok ([],st):=by
 unfold gx;constructor
 .intro h;split at h
  .cases h
  .rename_i h1;have hk:t.kind=1:=Classical.byContradiction fun hc=>h1 (.inl hc);have hr:pi t=true:=by
    cases hr:pi t with
    |true=>rfl
    |false=>exact absurd (.inr hr) h1
   refine⟨hk,hr,?_⟩;cases hl:gn t.kids with
   |ok r=>obtain⟨o,st⟩:=r;have h2:=hl;unfold gn at h2;obtain⟨fe,st1,h3,h4⟩:=i9 h2;obtain⟨rfl,_⟩:=Dl fe t.kids [] [] 0 _ o st h4 (CP hk hr);exact⟨st,rfl⟩
   |error e=>rw[hl] at h;exact absurd h (look_err hl)
 .rintro⟨h1,h2,st,h3⟩;rw[if_neg (by rintro(h|h);exact h h1;rw[h2] at h;cases h),h3]
where
 look_err {ks:List ag} {e:Nat×Nat} (h:gn ks= .error e):e.1≠0:=by
  have hu:∀{env call n s q a st e},hY env call n s q a st= .error e->e.1≠0:=by
   intro env call n s q a st e h;unfold hY at h;split at h
   .cases h;simp
   .split at h
    .cases h;simp
    .cases h
  have hb:∀{own s q a st e},j5 own s q a st= .error e->e.1≠0:=by
   intro own s q a st e h;unfold j5 at h;split at h
   .cases h;simp
   .cases h
  have ht:∀{r:lb} {f:bq->bo->lb} {e},oo r f= .error e->r= .error e∨∃o st,f o st= .error e:=by
   intro r f e h;unfold oo at h;split at h
   .exact .inr ⟨_,_,h⟩
   .cases h;exact .inl rfl
  have hfn:∀(ts:List ag) (k a0:Nat) (fe:bq) (st:bo) {e},i6 ts k a0 fe st= .error e->e.1≠0:=by
   intro ts;induction ts with
   |nil=>intro k a0 fe st e h;unfold i6 at h;cases h
   |cons t ts ih=>
    intro k a0 fe st e h;unfold i6 at h;rcases ht h with h|⟨o,s1,h⟩
    .exact hb h
    .exact ih _ _ _ _ h
  unfold gn at h;rcases ht h with h|⟨o,s1,h⟩
  .exact hfn _ _ _ _ _ h
  .exact kids_err o ks _ _ _ _ _ h
 node_err (fe:bq):∀(t:ag) (out:List bq) (own:bq) (q:List Int) (st:bo) {e:Nat×Nat},da fe t out own q st= .error e->e.1≠0
  | .node k s x ks,out,own,q,st,e,h=>by
   have hko:∀{r:lb},CR own r= .error e->r= .error e:=by
    intro r h;unfold CR at h;split at h
    .cases h
    .exact h
   have htu:∀{r:Except (Nat×Nat) bo} {f:bo->lb},C2 r f= .error e->r= .error e∨∃st,f st= .error e:=by
    intro r f h;unfold C2 at h;split at h
    .exact .inr ⟨_,h⟩
    .cases h;exact .inl rfl
   have hu:∀{env call n s q a st},hY env call n s q a st= .error e->e.1≠0:=by
    intro env call n s q a st h;unfold hY at h;split at h
    .cases h;simp
    .split at h
     .cases h;simp
     .cases h
   have hb:∀{own s q a st},j5 own s q a st= .error e->e.1≠0:=by
    intro own s q a st h;unfold j5 at h;split at h
    .cases h;simp
    .cases h
   have ht:∀{r:lb} {f:bq->bo->lb},oo r f= .error e->r= .error e∨∃o st,f o st= .error e:=by
    intro r f h;unfold oo at h;split at h
    .exact .inr ⟨_,_,h⟩
    .cases h;exact .inl rfl
   unfold da at h;split at h
   .exact kids_err fe ks _ _ _ _ _ (hko h)
   split at h
   .rcases ht h with h|⟨o,s1,h⟩
    .exact hb h
    .exact kids_err fe ks _ _ _ _ _ h
   split at h
   .exact kids_err fe ks _ _ _ _ _ (hko h)
   split at h
   .split at h
    .cases h;simp
    .rcases ht h with h|⟨o,s1,h⟩
     .exact kids_err fe ks _ _ _ _ _ h
     .exact hb h
   split at h
   .rcases htu h with h|⟨s1,h⟩
    .exact hu h
    .exact kids_err fe ks _ _ _ _ _ h
   split at h
   .rcases htu h with h|⟨s1,h⟩
    .exact hu h
    .exact kids_err fe ks _ _ _ _ _ h
   .exact kids_err fe ks _ _ _ _ _ h
 kids_err (fe:bq):∀(ts:List ag) (out:List bq) (own:bq) (q:List Int) (j:Nat) (st:bo) {e:Nat×Nat},dq fe ts out own q j st= .error e->e.1≠0
  |[],out,own,q,j,st,e,h=>by unfold dq at h;cases h
  |t::ts,out,own,q,j,st,e,h=>by
   unfold dq at h;unfold oo at h;split at h
   .exact kids_err fe ts _ _ _ _ _ h
   .rename_i h1;cases h
    exact node_err fe t _ _ _ _ h1
theorem DF{t:ag}{st:bo}(hk:t.kind=1)(hr:pi t=true)(hl:gn t.kids= .ok ([],st)):i5 t=st.all.map (cy st):=by unfold i5;rw[if_neg (by rw[Di.2 ⟨hk,hr,st,hl⟩];simp),hl]
def Cg(st:bo)(i:Nat)(a:ar)(t:ag):ag:=.node 1 t.text t.num (db (l5 st i) a [] 0 t.kids)
theorem E2{α β:Type}{f:α->β}{p:β->Bool}:∀{l:List α} {x:α},x∈l->p (f x)=true->(∀y∈l,p (f y)=true->y=x)->(l.map f).find? p=some (f x)
 |[],x,h,_,_=>by cases h
 |y::l,x,h,hp,hu=>by
  rw[List.map_cons,List.find?_cons];cases hy:p (f y) with
  |true=>rw[hu y (List.mem_cons_self ..) hy]
  |false=>
   simp only;rcases List.mem_cons.1 h with rfl|h
   .rw[hp] at hy;cases hy
   .exact E2 h hp (fun z hz=>hu z (List.mem_cons_of_mem _ hz))
theorem EC{t:ag}{st:bo}(hk:t.kind=1)(hr:pi t=true)(hl:gn t.kids= .ok ([],st)){i:Nat}{a:ar}(ha:be a=true)(hn:a∉t.names):pi (Cg st i a t)=true/\gn (Cg st i a t).kids= .ok ([],gi i a st)/\∀b,b≠a->b∉t.names->b∉ (Cg st i a t).names:=by
 obtain⟨k,s,x,ks⟩:=t;obtain rfl:k=1:=hk;have hF:=CP (t:=.node 1 s x ks) rfl hr;have hN:=DU hl hF;have hnn:a∉bE ks:=(by simpa[ag.names,cG] using hn);refine⟨?_,He i a hl hF hnn,fun b hb h=>?_⟩
 .have h0:l5 st i []=false:=by
   cases h0:l5 st i [] with
   |false=>rfl
   |true=>obtain⟨m,r,k,h2,_⟩:=hN _ (of_decide_eq_true h0);cases h2
  have:=FV (P:=l5 st i) ha (.node 1 s x ks) [] 1 (fun r hP k hkk=>by
   obtain⟨m,r',k',h1,h2,h3⟩:=hN _ (of_decide_eq_true hP);simp only[List.nil_append] at h1;rw[h1] at hkk;have hkk':(if (m:Int)<0 then none else np (m:Int).toNat r' ks)=some k:=hkk;rw[if_neg (by omega)] at hkk';have h2':np (m:Int).toNat r' ks=some k':=h2;rw[h2'] at hkk';cases hkk'
   exact h3) hr
  have e:(ag.node 1 s x ks).rent (l5 st i) a []=Cg st i a (.node 1 s x ks):=by show ag.node 1 (if l5 st i []=true then a else s) x _=_;rw[h0];rfl
  rw[e] at this;exact this
 .have h':b∉bE ks:=(by simpa[ag.names,cG] using h);have:=EA (P:=l5 st i) hb ks [] 0 h';simpa[Cg,ag.names,cG,ag.kids] using this
theorem D1{t:ag}{st:bo}(hk:t.kind=1)(hr:pi t=true)(hl:gn t.kids= .ok ([],st)){i:Nat}(hi:i∈st.all){a:ar}(ha:be a=true)(hn:a∉t.names):Ca t (cy st i).path (cy st i).name a= .ok (Cg st i a t):=by
 have hF:=CP hk hr;have hall:=Dv hl hF;have hp:=DH (hall.2 i hi).2;obtain⟨r1,r2,_⟩:=EC (i:=i) hk hr hl ha hn;have hset:wc t a ((cy st i).path:: (cy st i).uses)=Cg st i a t:=by obtain⟨k,s,x,ks⟩:=t;obtain rfl:k=1:=hk;unfold wc;rw[<-hp.2];exact IH (s:=s) (x:=x) hl hF
 have hfind:(i5 t).find? (fun b=>decide (b.path=(cy st i).path))=some (cy st i):=by rw[DF hk hr hl];exact E2 hi (by simp) (fun j hj h=>FN hl hF hj hi (of_decide_eq_true h))
 have hbn:i5 (Cg st i a t)=st.all.map (cy (gi i a st)):=DF rfl r1 r2;have hbl:vi (cy st i).path (i5 t)=vi (cy st i).path (i5 (Cg st i a t)):=by
  rw[hbn,DF hk hr hl];unfold vi;rw[List.map_map,List.map_map];refine List.map_congr_left fun j hj=>?_;simp only[Function.comp];have e1:(cy (gi i a st) j).path=(cy st j).path:=rfl;have e2:(cy (gi i a st) j).uses=(cy st j).uses:=rfl;rw[e1,e2];split
  .rfl
  .rename_i h;have hne:j≠i:=fun hc=>h (by rw[hc]);unfold cy;rw[Es (hall.2 j hj).1,if_neg hne];rfl
 unfold Ca;rw[hfind];simp only;rw[if_neg (by simp),hset,if_neg];rintro(h|h)
 .exact h (Di.2 ⟨rfl,r1,_,r2⟩)
 .exact h hbl
theorem Iv{t:ag}{st:bo}(hk:t.kind=1)(hr:pi t=true)(hl:gn t.kids= .ok ([],st)){i j:Nat}(hi:i∈st.all)(hj:j∈st.all)(hij:i≠j){a b:ar}(ha:be a=true)(hb:be b=true)(hab:a≠b)(hna:a∉t.names)(hnb:b∉t.names):Ca t (cy st i).path (cy st i).name a= .ok (Cg st i a t)/\Ca (Cg st i a t) (cy st j).path (cy st j).name b= .ok (Cg st j b (Cg st i a t))/\Ca t (cy st j).path (cy st j).name b= .ok (Cg st j b t)/\Ca (Cg st j b t) (cy st i).path (cy st i).name a= .ok (Cg st j b (Cg st i a t)):=by
 have hF:=CP hk hr;have hall:=Dv hl hF;have hev:=Eo hl hF;obtain⟨r1,r2,r3⟩:=EC (i:=i) hk hr hl ha hna;obtain⟨s1,s2,s3⟩:=EC (i:=j) hk hr hl hb hnb;have e1:cy (gi i a st) j=cy st j:=by unfold cy;rw[Es (hall.2 j hj).1,if_neg (Ne.symm hij)];rfl
 have e2:cy (gi j b st) i=cy st i:=by unfold cy;rw[Es (hall.2 i hi).1,if_neg hij];rfl
 have q1:=D1 rfl r1 r2 (i:=j) hj hb (r3 b (Ne.symm hab) hnb);have q2:=D1 rfl s1 s2 (i:=i) hi ha (s3 a hab hna);rw[e1] at q1;rw[e2] at q2;refine⟨D1 hk hr hl hi ha hna,q1,D1 hk hr hl hj hb hnb,?_⟩;rw[q2]
 congr 1
 show ag.node 1 t.text t.num (db (l5 (gi j b st) i) a [] 0 (db (l5 st j) b [] 0 t.kids))= .node 1 t.text t.num (db (l5 st j) b [] 0 (db (l5 st i) a [] 0 t.kids));have e3:l5 (gi j b st) i=l5 st i:=rfl;rw[e3,EB t.kids [] 0 (fun m r _ h=>hij (Et hev (of_decide_eq_true h.2) (of_decide_eq_true h.1)))]
theorem CN{X W:World}(h:Below X.heap.size X W)(n:Nat):Below X.heap.size X (W.drewN n):=⟨h.os,h.tape,h.output,h.size,h.block⟩
theorem ua{X W:World}(h:Below X.heap.size X W):Below X.heap.size X W.drew:=h.drew
theorem tZ{X W:World}(h:Below X.heap.size X W)(o:Obj):Below X.heap.size X (W.alloc o):=h.alloc h.size o
theorem bz{p:Prop}(h:p:=by(repeat (first|with_reducible exact ai _ _|(refine Hid.out ?_;with_reducible assumption)|with_reducible apply CN|with_reducible apply ua|with_reducible apply tZ))):p:=h
theorem dk{w:World}{base base':Nat}{e:TypeId}{size:Nat}{v:Value}{n:Nat}{xs:List Value}(h:w.ownsRow base e size v n xs)(hb:base'<=base):w.ownsRow base' e size v n xs:=by obtain⟨h1,h2⟩:=h;refine⟨h1,h2.imp id ?_⟩;rintro⟨g,cap,cur,hv,hg,r⟩;exact⟨g,cap,cur,hv,aJ hb hg,r⟩
theorem bM{w w':World}{B base:Nat}{e:TypeId}{size:Nat}{v:Value}{n:Nat}{xs:List Value}(h:w.ownsRow base e size v n xs)(hb:Below B w w')(hB:w.heap.size<=B):w'.ownsRow base e size v n xs:=by
 obtain⟨h1,h2⟩:=h;refine⟨h1,h2.imp id ?_⟩;rintro⟨g,cap,cur,hv,hg,hh,r⟩;refine⟨g,cap,cur,hv,hg,?_,r⟩;have hlt:g<w.heap.size:=by
  rcases Nat.lt_or_ge g w.heap.size with hlt|hge
  .exact hlt
  .rw[Array.getElem?_eq_none hge] at hh;cases hh
 rw[hb.block g (by omega)];exact hh
theorem re{w:World}{base:Nat}{e:TypeId}{size:Nat}{v:Value}{n:Nat}{xs:List Value}(h:w.ownsRow base e size v n xs){a:Addr}(ha:v.ownBlock≠some a.block)(u:Value):(w.setCell a u).ownsRow base e size v n xs:=by obtain⟨h1,h2⟩:=h;refine⟨h1,h2.imp id ?_⟩;rintro⟨g,cap,cur,rfl,hg,hh,r⟩;refine⟨g,cap,cur,rfl,hg,?_,r⟩;rw[aY _ _ _ _ (fun e=>ha (by simp[Value.ownBlock,e]))];exact hh
theorem Ee{B:Nat}{w w':World}{v:Value}{base:Nat}{e:TypeId}{size:Nat}{n:Nat}{xs:List Value}(h:w.ownsRow base e size v n xs)(hg:w.grownBy w' v.ownBlock)(hB:B<=base)(hs:B<=w.heap.size):Below B w w':=
 (ai _ _).grown hg hs (fun k hk=>aJ hB (h.lt k hk).1)
theorem t9{w:World}{base:Nat}{e:TypeId}{size:Nat}{v:Value}{n:Nat}{xs:List Value}(h:w.ownsRow base e size v n xs):∃A c,v= .slice A n c/\n<=c/\c<=maxLen:=by
 rcases h.2 with ⟨h1,h2⟩|⟨g,cap,cur,hv,_,_,h3,h4,_⟩
 .exact⟨none,0,by rw[h1,h2],by omega,by unfold maxLen;omega⟩
 .exact⟨some ⟨g,0,none⟩,cap,hv,h3,h4⟩
theorem CE(b o j:Nat):(⟨b,o,none⟩:Addr).add j=⟨b,o+j,none⟩:=by unfold Addr.add;split<;>simp_all
theorem bH{w:World}{base:Nat}{e:TypeId}{size:Nat}{g n c:Nat}{xs:List Value}(h:w.ownsRow base e size (.slice (some ⟨g,0,none⟩) n c) n xs):∀j u,xs[j]? =some u->w.cell? ⟨g,j,none⟩=some u:=by intro j u hu;have:=h.cells (g:=g) rfl j u hu;rw[CE] at this;simpa using this
theorem aQ{w:World}{o:Obj}{n:Nat}(h:w.heap.size=n):(w.alloc o).heap[n]? =some o:=by subst h;exact heap_alloc_new w o
theorem eH{P:Program}{f:FuncId}{fn:Func}(hf:P.funcs[f]? =some fn)(hn:(fn.name == "runtime.NumGoroutine")=false)(hb:fn.body.isNone=false)(args:Array Value)(w:World):(callFunc f args).run P w= .ok (.enter f args) w:=by have hn':¬fn.name= "runtime.NumGoroutine":=(by simpa using hn);have hb':¬fn.body=none:=(by intro e;rw[e] at hb;simp at hb);simp[callFunc,hf,hn',hb']
section
open Go.RowKit Go.MapKept Go.ChangeMaps
def gm(w:World)(b:Nat)(l:List (ar×Value)):Prop:=
 ∃es clock,w.heap[b]? =some (.map es clock)/\es.toList.map (fun e=>(e.key,e.val))=l.map (fun p=>(Value.string (sb p.1),p.2))
theorem gm.lt{w:World}{b:Nat}{l:List (ar×Value)}(h:gm w b l):b<w.heap.size:=by obtain⟨es,clock,hb,_⟩:=h;exact(aK.1 hb).1
theorem gm.below{w w':World}{b:Nat}{l:List (ar×Value)}(h:gm w b l)(hb:Below w.heap.size w w'):gm w' b l:=by have hlt:=h.lt;obtain⟨es,clock,hh,e⟩:=h;exact⟨es,clock,(hb.block b hlt).trans hh,e⟩
theorem F4{a b:ar}(h:sb a=sb b):a=b:=by have:=congrArg bl h;simpa[bl,sb] using this
theorem F3(a b:ar):(sb a == sb b)=decide (a=b):=by
 show(a.toArray == b.toArray)=_;by_cases h:a=b
 .subst h;simp
 .simp[h]
theorem DG(s:ByteArray):IsKey .string (.string s):=by simp[IsKey]
theorem Hh{l:List (ar×Value)}{es:Array MapEntry}(h:es.toList.map (fun e=>(e.key,e.val))=l.map (fun p=>(Value.string (sb p.1),p.2))):∀x∈es.toList,IsKey .string x.key:=by intro x hx;have:(x.key,x.val)∈es.toList.map (fun e=>(e.key,e.val)):=List.mem_map.2 ⟨x,hx,rfl⟩;rw[h] at this;obtain⟨p,_,e⟩:=List.mem_map.1 this;injection e with e1 e2;rw[<-e1];exact DG _
theorem gm.insert{P:Program}{t kt e:TypeId}(ht:P.underlying t=some (.map kt e))(hk:P.underlying kt=some .string){w:World}{b:Nat}{l:List (ar×Value)}(h:gm w b l){k:ar}(v:Value)(hn:(l.all fun p=>p.1 != k)=true):∃w',(Instr.mapUpdate t (.map (some b)) (.string (sb k)) v).run P w= .ok () w'/\gm w' b (l++[(k,v)])/\w.grownBy w' (some b):=by
 obtain⟨es,clock,hb,he⟩:=h;have hks:=Hh he;rcases findNow_spec (DG (sb k)) es.toList 0 hks with ⟨h1,_⟩|⟨j,e0,_,h2,h3⟩
 .refine⟨setBlock w b (.map (es.push { key:=.string (sb k),val:=v,born:=clock }) (clock+1)),?_,⟨_,_,heap_setBlock_same hb _,?_⟩,⟨rfl,rfl,rfl,by simp[setBlock],fun i _ hi=>heap_setBlock_other hb _ (fun e=>hi (by rw[e]))⟩⟩
  .simp[Instr.mapUpdate,run_underlying ht,MapKept.run_getObj_map hb,run_checkKey hk (DG _),run_findKey hk h1,MapKept.run_setObj_map _ hb,Result.andThen,setBlock]
  .simp[he]
 .exfalso;have hm:(e0.key,e0.val)∈es.toList.map (fun e=>(e.key,e.val)):=List.mem_map.2 ⟨e0,List.mem_of_getElem? h2,rfl⟩;rw[he] at hm;obtain⟨p,hp,e⟩:=List.mem_map.1 hm;injection e with e1 _;rw[h3] at e1;injection e1 with e1;have:=List.all_eq_true.1 hn p hp;simp at this;exact this (F4 e1)
theorem E1:∀(es:List MapEntry) (l:List (ar×Value)) (k:ar) (i:Nat),es.map (fun e=>(e.key,e.val))=l.map (fun p=>(Value.string (sb p.1),p.2))->∃r,Instr.findNow .string (.string (sb k)) es i=some r/\r.map (·.2)=l.lookup k
 |[],[],_,_,_=>⟨none,rfl,rfl⟩
 |[],_::_,_,_,h=>by simp at h
 |_::_,[],_,_,h=>by simp at h
 |e::es,p::l,k,i,h=>by
  simp only[List.map_cons,List.cons.injEq,Prod.mk.injEq] at h;obtain⟨⟨h1,h2⟩,h3⟩:=h;obtain⟨q,v⟩:=p;simp only at h1 h2;by_cases hk:k=q
  .subst hk;refine⟨some (i,e.val),?_,?_⟩
   .simp[Instr.findNow,Instr.sameNow,h1,F3]
   .simp[List.lookup,h2]
  .obtain⟨r,hr,hr2⟩:=E1 es l k (i+1) h3;refine⟨r,?_,?_⟩
   .have:(sb k == sb q)=false:=(by rw[F3];simp[hk]);simp[Instr.findNow,Instr.sameNow,h1,this,hr]
   .have:(k == q)=false:=(by simp[hk]);simp[List.lookup,this,hr2]
theorem gm.look{P:Program}{t kt e:TypeId}(ht:P.underlying t=some (.map kt e))(hk:P.underlying kt=some .string){w:World}{b:Nat}{l:List (ar×Value)}(h:gm w b l)(k:ar){z:Value}(hz:(zeroValue e).run P w= .ok z w)(ok:Bool):(Instr.lookup t (.map (some b)) (.string (sb k)) ok).run P w= .ok (if ok then .tuple #[(l.lookup k).getD z,.bool (l.lookup k).isSome] else(l.lookup k).getD z) w:=by
 obtain⟨es,clock,hb,he⟩:=h;obtain⟨r,h1,h2⟩:=E1 es.toList l k 0 he;cases r with
 |none=>rw[<-h2];simp[Instr.lookup,run_underlying ht,MapKept.run_getObj_map hb,run_checkKey hk (DG _),run_findKey hk h1,hz,Result.andThen]
 |some y=>rw[<-h2];simp[Instr.lookup,run_underlying ht,MapKept.run_getObj_map hb,run_checkKey hk (DG _),run_findKey hk h1,Result.andThen]
end
def tw(x:Int):Prop:= -9223372036854775808<=x/\x<=9223372036854775807
mutual
def cJ (w:World):ag->Nat->Nat->Prop
 | .node k s x ks,b,o=>w.cell? ⟨b,o,none⟩=some (.int .u8 k)/\w.cell? ⟨b,o+1,none⟩=some (.string (sb s))/\w.cell? ⟨b,o+2,none⟩=some (.int .i64 x)/\k<=255/\s.length<=maxLen/\tw x/\
  ∃A c,w.cell? ⟨b,o+3,none⟩=some (.slice A ks.length c)/\ks.length<=c/\c<=maxLen/\(ks=[]∨∃b' o',A=some ⟨b',o',none⟩/\ch w ks b' o')
def ch (w:World):List ag->Nat->Nat->Prop
 |[],_,_=>True
 |t::ts,b,o=>cJ w t b o/\ch w ts b (o+4)
end
def ce(w:World)(ks:List ag)(A:Option Addr)(n c:Nat):Prop:=n=ks.length/\n<=c/\c<=maxLen/\(ks=[]∨∃b o,A=some ⟨b,o,none⟩/\ch w ks b o)
def cf(w:World)(t:ag)(k:Nat)(s:ByteArray)(x:Int)(A:Option Addr)(n c:Nat):Prop:=
 ∃ks,t= .node k (bl s) x ks/\k<=255/\s.size<=maxLen/\tw x/\ce w ks A n c
theorem ch.get{w:World}:∀{ts:List ag} {b o:Nat},ch w ts b o->∀{i:Nat} {t:ag},ts[i]? =some t->cJ w t b (o+i*4)
 |t::ts,b,o,h,0,u,hu=>by simp only[List.getElem?_cons_zero,Option.some.injEq] at hu;subst hu;simp only[ch] at h;simpa using h.1
 |t::ts,b,o,h,i+1,u,hu=>by simp only[List.getElem?_cons_succ] at hu;simp only[ch] at h;have:=ch.get h.2 hu;rwa [show o+(i+1) *4=o+4+i*4 from by omega]
theorem ch.mk{w:World}:∀{ts:List ag} {b o:Nat},(∀i t,ts[i]? =some t->cJ w t b (o+i*4))->ch w ts b o
 |[],_,_,_=>by simp[ch]
 |t::ts,b,o,h=>by simp only[ch];refine⟨by simpa using h 0 t rfl,ch.mk fun i u hu=>?_⟩;have:=h (i+1) u (by simpa using hu);rwa [show o+4+i*4=o+(i+1) *4 from by omega]
theorem cJ.cells{w:World}{t:ag}{b o:Nat}(h:cJ w t b o):∃A c,w.cell? ⟨b,o,none⟩=some (.int .u8 t.kind)/\w.cell? ⟨b,o+1,none⟩=some (.string (sb t.text))/\w.cell? ⟨b,o+2,none⟩=some (.int .i64 t.num)/\w.cell? ⟨b,o+3,none⟩=some (.slice A t.kids.length c)/\cf w t t.kind (sb t.text) t.num A t.kids.length c:=by obtain⟨k,s,x,ks⟩:=t;simp only[cJ] at h;obtain⟨h0,h1,h2,g0,g1,g2,A,c,h3,g3,g4,g5⟩:=h;exact⟨A,c,h0,h1,h2,h3,ks,rfl,g0,g1,g2,rfl,g3,g4,g5⟩
theorem ce.get{w:World}{ks:List ag}{A:Option Addr}{n c:Nat}(h:ce w ks A n c){i:Nat}(hi:i<n):∃b o t,A=some ⟨b,o,none⟩/\ks[i]? =some t/\cJ w t b (o+i*4):=by
 obtain⟨hn,_,_,h⟩:=h;rcases h with rfl|⟨b,o,e,hr⟩
 .simp at hn;omega
 .have:ks[i]? =some (ks[i]'(by omega)):=br (by omega);exact⟨b,o,_,e,this,hr.get this⟩
theorem bK{w:World}{a:Addr}{v:Value}(h:w.cell? a=some v):a.block<w.heap.size:=by
 rcases Nat.lt_or_ge a.block w.heap.size with hl|hg
 .exact hl
 .simp[World.cell?,Array.getElem?_eq_none hg] at h
theorem ac{w w':World}(hb:Below w.heap.size w w'){a:Addr}{v:Value}(h:w.cell? a=some v):w'.cell? a=some v:=by rw[hb.cell (bK h)];exact h
mutual
theorem cJ.keep {w w':World} (hb:∀a v,w.cell? a=some v->w'.cell? a=some v):∀{t:ag} {b o:Nat},cJ w t b o->cJ w' t b o
 | .node k s x ks,b,o,h=>by
  simp only[cJ] at h ⊢;obtain⟨h0,h1,h2,g0,g1,g2,A,c,h3,g3,g4,g5⟩:=h;refine⟨hb _ _ h0,hb _ _ h1,hb _ _ h2,g0,g1,g2,A,c,hb _ _ h3,g3,g4,?_⟩;rcases g5 with e|⟨b',o',e,hr⟩
  .exact .inl e
  .exact .inr ⟨b',o',e,ch.keep hb hr⟩
theorem ch.keep {w w':World} (hb:∀a v,w.cell? a=some v->w'.cell? a=some v):∀{ts:List ag} {b o:Nat},ch w ts b o->ch w' ts b o
 |[],_,_,_=>by simp[ch]
 |t::ts,b,o,h=>by simp only[ch] at h ⊢;exact⟨cJ.keep hb h.1,ch.keep hb h.2⟩
end
theorem ce.keep{w w':World}(hb:∀a v,w.cell? a=some v->w'.cell? a=some v){ks:List ag}{A:Option Addr}{n c:Nat}(h:ce w ks A n c):ce w' ks A n c:=by
 obtain⟨h1,h2,h3,h4⟩:=h;refine⟨h1,h2,h3,?_⟩;rcases h4 with e|⟨b,o,e,hr⟩
 .exact .inl e
 .exact .inr ⟨b,o,e,hr.keep hb⟩
theorem ce.below{w w':World}(hb:Below w.heap.size w w'){ks:List ag}{A:Option Addr}{n c:Nat}(h:ce w ks A n c):ce w' ks A n c:=h.keep fun _ _=>ac hb
theorem cJ.below{w w':World}(hb:Below w.heap.size w w'){t:ag}{b o:Nat}(h:cJ w t b o):cJ w' t b o:=h.keep fun _ _=>ac hb
theorem cf.keep{w w':World}(hb:∀a v,w.cell? a=some v->w'.cell? a=some v){t:ag}{k:Nat}{s:ByteArray}{x:Int}{A:Option Addr}{n c:Nat}(h:cf w t k s x A n c):cf w' t k s x A n c:=by obtain⟨ks,e,h1,h2,h3,h4⟩:=h;exact⟨ks,e,h1,h2,h3,h4.keep hb⟩
theorem cf.below{w w':World}(hb:Below w.heap.size w w'){t:ag}{k:Nat}{s:ByteArray}{x:Int}{A:Option Addr}{n c:Nat}(h:cf w t k s x A n c):cf w' t k s x A n c:=h.keep fun _ _=>ac hb
theorem ce.nil(w:World)(A:Option Addr){c:Nat}(h:c<=maxLen):ce w [] A 0 c:=⟨rfl,aE _,h,.inl rfl⟩
mutual
def ag.short (L:Nat):ag->Prop
 | .node _ s _ ks=>s.length<=L/\ex L ks
def ex (L:Nat):List ag->Prop
 |[]=>True
 |t::ts=>t.short L/\ex L ts
end
theorem ex.get{L:Nat}:∀{ts:List ag},ex L ts->∀{i:Nat} {t:ag},ts[i]? =some t->t.short L
 |t::ts,h,0,u,hu=>by simp only[List.getElem?_cons_zero,Option.some.injEq] at hu;subst hu;simp only[ex] at h;exact h.1
 |t::ts,h,i+1,u,hu=>by simp only[List.getElem?_cons_succ] at hu;simp only[ex] at h;exact ex.get h.2 hu
section
open Go.RowKit Go.MapKept Go.ChangeMaps
def eL(w:World)(b:Nat)(l:List (Nat×Value)):Prop:=
 ∃es clock,w.heap[b]? =some (.map es clock)/\es.toList.map (fun e=>(e.key,e.val))=l.map (fun p=>(Value.int .u8 p.1,p.2))
theorem eL.lt{w:World}{b:Nat}{l:List (Nat×Value)}(h:eL w b l):b<w.heap.size:=by obtain⟨es,clock,hb,_⟩:=h;exact(aK.1 hb).1
theorem eL.made(w:World):eL (w.alloc (.map #[] 0)) w.heap.size []:=⟨#[],0,heap_alloc_new w _,rfl⟩
theorem eL.below{w w':World}{b:Nat}{l:List (Nat×Value)}(h:eL w b l)(hb:Below w.heap.size w w'):eL w' b l:=by have hlt:=h.lt;obtain⟨es,clock,hh,e⟩:=h;exact⟨es,clock,(hb.block b hlt).trans hh,e⟩
theorem lr(n:Int):IsKey (.int .u8) (.int .u8 n):=by simp[IsKey]
theorem wL{l:List (Nat×Value)}{es:Array MapEntry}(h:es.toList.map (fun e=>(e.key,e.val))=l.map (fun p=>(Value.int .u8 p.1,p.2))):∀x∈es.toList,IsKey (.int .u8) x.key:=by intro x hx;have:(x.key,x.val)∈es.toList.map (fun e=>(e.key,e.val)):=List.mem_map.2 ⟨x,hx,rfl⟩;rw[h] at this;obtain⟨p,_,e⟩:=List.mem_map.1 this;injection e with e1 e2;rw[<-e1];exact lr _
theorem eL.insert{P:Program}{t kt e:TypeId}(ht:P.underlying t=some (.map kt e))(hk:P.underlying kt=some (.int .u8)){w:World}{b:Nat}{l:List (Nat×Value)}(h:eL w b l){k:Nat}(v:Value)(hn:(l.all fun p=>p.1 != k)=true):∃w',(Instr.mapUpdate t (.map (some b)) (.int .u8 k) v).run P w= .ok () w'/\eL w' b (l++[(k,v)])/\w.grownBy w' (some b):=by
 obtain⟨es,clock,hb,he⟩:=h;have hks:=wL he;rcases findNow_spec (lr (k:Int)) es.toList 0 hks with ⟨h1,_⟩|⟨j,e0,_,h2,h3⟩
 .refine⟨setBlock w b (.map (es.push { key:=.int .u8 k,val:=v,born:=clock }) (clock+1)),?_,⟨_,_,heap_setBlock_same hb _,?_⟩,⟨rfl,rfl,rfl,by simp[setBlock],fun i _ hi=>heap_setBlock_other hb _ (fun e=>hi (by rw[e]))⟩⟩
  .simp[Instr.mapUpdate,run_underlying ht,MapKept.run_getObj_map hb,run_checkKey hk (lr _),run_findKey hk h1,MapKept.run_setObj_map _ hb,Result.andThen,setBlock]
  .simp[he]
 .exfalso;have hm:(e0.key,e0.val)∈es.toList.map (fun e=>(e.key,e.val)):=List.mem_map.2 ⟨e0,List.mem_of_getElem? h2,rfl⟩;rw[he] at hm;obtain⟨p,hp,e⟩:=List.mem_map.1 hm;injection e with e1 _;rw[h3] at e1;injection e1 with _ e1;have:=List.all_eq_true.1 hn p hp;simp at this;omega
theorem qh:∀(es:List MapEntry) (l:List (Nat×Value)) (k i:Nat),es.map (fun e=>(e.key,e.val))=l.map (fun p=>(Value.int .u8 p.1,p.2))->∃r,Instr.findNow (.int .u8) (.int .u8 (k:Int)) es i=some r/\r.map (·.2)=l.lookup k
 |[],[],_,_,_=>⟨none,rfl,rfl⟩
 |[],_::_,_,_,h=>by simp at h
 |_::_,[],_,_,h=>by simp at h
 |e::es,p::l,k,i,h=>by
  simp only[List.map_cons,List.cons.injEq,Prod.mk.injEq] at h;obtain⟨⟨h1,h2⟩,h3⟩:=h;obtain⟨q,v⟩:=p;simp only at h1 h2;by_cases hk:k=q
  .subst hk;refine⟨some (i,e.val),?_,?_⟩
   .simp[Instr.findNow,Instr.sameNow,h1]
   .simp[List.lookup,h2]
  .obtain⟨r,hr,hr2⟩:=qh es l k (i+1) h3;refine⟨r,?_,?_⟩
   .have:((k:Int) == q)=false:=(by simp;omega);simp[Instr.findNow,Instr.sameNow,h1,this,hr]
   .have:(k == q)=false:=(by simp[hk]);simp[List.lookup,this,hr2]
theorem eL.look{P:Program}{t kt e:TypeId}(ht:P.underlying t=some (.map kt e))(hk:P.underlying kt=some (.int .u8)){w:World}{b:Nat}{l:List (Nat×Value)}(h:eL w b l)(k:Nat){z:Value}(hz:(zeroValue e).run P w= .ok z w)(ok:Bool):(Instr.lookup t (.map (some b)) (.int .u8 k) ok).run P w= .ok (if ok then .tuple #[(l.lookup k).getD z,.bool (l.lookup k).isSome] else(l.lookup k).getD z) w:=by
 obtain⟨es,clock,hb,he⟩:=h;obtain⟨r,h1,h2⟩:=qh es.toList l k 0 he;cases r with
 |none=>rw[<-h2];simp[Instr.lookup,run_underlying ht,MapKept.run_getObj_map hb,run_checkKey hk (lr _),run_findKey hk h1,hz,Result.andThen]
 |some y=>rw[<-h2];simp[Instr.lookup,run_underlying ht,MapKept.run_getObj_map hb,run_checkKey hk (lr _),run_findKey hk h1,Result.andThen]
end
def gL(w:World)(A:Option Addr)(n:Nat)(ss:List ar):Prop:=
 ss.length=n/\(0<n->∃ad,A=some ad/\ad.block<w.heap.size/\∀j u,ss[j]? =some u->w.cell? (ad.add j)=some (.string (sb u)))
def dj(l:List ar)(x:ar):Bool:=l.contains x
theorem gL.new{w:World}{T:TypeId}{n:Nat}(ss:List ar)(hn:ss.length=n):gL (w.alloc (.cells (ss.map fun u=>Value.string (sb u)).toArray T)) (some ⟨w.heap.size,0,none⟩) n ss:=by
 refine⟨hn,fun _=>⟨_,rfl,by simp,fun j u hu=>?_⟩⟩;have hj:(Addr.add ⟨w.heap.size,0,none⟩ j)=⟨w.heap.size,j,none⟩:=by unfold Addr.add;split<;>simp_all
 rw[hj,World.cell?_alloc_new];simp[hu]
def jq(n:Nat)(ss:List ar)(w:World)(e:Ending)(w':World):Prop:=∃A,e= .returned (.slice A n n)/\gL w' A n ss/\Below w.heap.size w w'/\(∀ad,A=some ad->w.heap.size<=ad.block)/\∃g,A=some ⟨g,0,none⟩
def ak(b:Bool)(w:World)(e:Ending)(w':World):Prop:=e= .returned (.bool b)/\Below w.heap.size w w'
theorem ak.intro{b b':Bool}{w w':World}(h:b'=b)(hb:Below w.heap.size w w'):ak b w (.returned (.bool b')) w':=⟨by rw[h],hb⟩
theorem oz{s:ByteArray}(h:0<s.size):∃r,bl s=s[0] ::r:=⟨(bl s).drop 1,by have:=uu s 0 h;simpa using this⟩
theorem qt{s:ByteArray}(h:24<s.size):be (bl s)=false:=by obtain⟨r,hr⟩:=oz (s:=s) (by omega);have hl:=dt s;rw[hr] at hl ⊢;simp only[be];rw[hl];simp[Nat.not_le.2 h]
theorem qs{s:ByteArray}(h:0<s.size)(hc:gh s[0]=false):be (bl s)=false:=by obtain⟨r,hr⟩:=oz (s:=s) (by omega);rw[hr];simp[be,hc]
theorem qu{s:ByteArray}(hw:dj iu (bl s)=true):be (bl s)=false:=by
 unfold dj at hw;cases hr:bl s with
 |nil=>rfl
 |cons a l=>rw[hr] at hw;simp only[be,hw];simp
theorem qo{s:ByteArray}{k:Nat}(h:k<s.size)(hc:eI s[k]=false):be (bl s)=false:=by
 have hm:=List.mem_of_getElem? (pP s k h);cases hr:bl s with
 |nil=>rfl
 |cons a l=>
  rw[hr] at hm;have:(a::l).all eI=false:=by rw[List.all_eq_false];exact⟨_,hm,by simp[hc]⟩
  simp only[be,this];simp
theorem qr{s:ByteArray}(h0:0<s.size)(h1:s.size<=24)(h2:gh s[0]=true)(h3:dj iu (bl s)=false)(h4:∀j (h:j<s.size),eI s[j]=true):be (bl s)=true:=by
 unfold dj at h3;have ha:(bl s).all eI=true:=by rw[List.all_eq_true];intro c hc;obtain⟨j,hj⟩:=List.getElem?_of_mem hc;have hl:j<s.size:=(gl.1 hj).1;rw[pP s j hl] at hj;injection hj with hj;rw[<-hj];exact h4 j hl
 obtain⟨r,hr⟩:=oz h0;have hl:=dt s;rw[hr] at hl ha h3 ⊢;simp only[be,hl,h2,ha,h3];simp[h1]
def lT(e:aj):Prop:=
 (e.kind=1/\e.at_=0/\e.far=0/\e.path≠[]/\be e.frm=true/\be e.to_=true/\e.frm≠e.to_/\e.olds=[]/\e.news=[])∨
 (e.kind=2/\e.far=0/\e.frm=[]/\e.to_=[]/\e.olds=[]/\bR e.news=true)∨
 (e.kind=3/\e.far=0/\e.frm=[]/\e.to_=[]/\e.news=[]/\bR e.olds=true)∨
 (e.kind=4/\e.at_=0/\e.far=0/\e.path≠[]/\e.frm=[]/\e.to_=[]/\bR e.olds=true/\bR e.news=true/\e.olds≠e.news)∨
 (e.kind=5/\e.at_≠e.far/\e.frm=[]/\e.to_=[]/\e.news=[]/\bR e.olds=true)
theorem qY{a b:List ag}:bB a b=false↔a≠b:=by rw[<-Bool.not_eq_true,kP]
theorem iY(e:aj):ap e=true↔(e.path.all aH=true/\aH e.at_=true/\aH e.far=true)/\lT e:=by
 obtain⟨k,p,i,f,a,b,o,n⟩:=e;have ho:bR o=true->o≠[]:=(by rintro h rfl;simp[bR] at h);have hn:bR n=true->n≠[]:=(by rintro h rfl;simp[bR] at h);have ha:be a=true->a≠[]:=(by rintro h rfl;simp[be] at h);have hs:= @qY o n;have hs':=kP o n;unfold ap lT;simp only;by_cases k1:k=1
 .subst k1;simp[aq,aG,aF];grind
 by_cases k2:k=2
 .subst k2;simp[aq,aG,aF];grind
 by_cases k3:k=3
 .subst k3;simp[aq,aG,aF];grind
 by_cases k4:k=4
 .subst k4;simp[aq,aG,aF];grind
 by_cases k5:k=5
 .subst k5;simp[aq,aG,aF];grind
 simp[aq,aG,aF,k1,k2,k3,k4,k5]
theorem vv{e:aj}(h:ap e=true):ap (bD e)=true:=by have h':=(iY e).1 h;obtain⟨k,p,i,f,a,b,o,n⟩:=e;rw[iY];unfold bD;simp only[h];unfold lT at h' ⊢;simp only at h';obtain⟨hp,h'⟩:=h';rcases h' with ⟨rfl,h'⟩|⟨rfl,h'⟩|⟨rfl,h'⟩|⟨rfl,h'⟩|⟨rfl,h'⟩ <;>simp<;>grind
theorem qm{e:aj}(h:ap e=true):bD e=if e.kind=5 then⟨5,e.path,e.far,e.at_,e.to_,e.frm,e.olds,e.news⟩ else⟨if e.kind=2 then 3 else if e.kind=3 then 2 else e.kind,e.path,e.at_,e.far,e.to_,e.frm,e.news,e.olds⟩:=by unfold bD;simp[h]
theorem iL{e:aj}(h:ap e=true):bD (bD e)=e:=by
 have hr:=vv h;rw[qm hr,qm h];obtain⟨k,p,i,f,a,b,o,n⟩:=e;simp only;by_cases h5:k=5
 .subst h5;simp
 .by_cases h2:k=2
  .subst h2;simp
  .by_cases h3:k=3
   .subst h3;simp
   .simp[h5,h2,h3]
theorem kV{a b:List Int}:bu a b=true↔∃r,a=b++r:=by unfold bu;rw[List.isPrefixOf_iff_prefix];exact⟨fun⟨r,h⟩=>⟨r,h.symm⟩,fun⟨r,h⟩=>⟨r,h.symm⟩⟩
theorem Bn(l r:List Int):bu (l++r) l=true:=kV.2 ⟨r,rfl⟩
theorem zj{p l:List Int}(f:Int->Int)(h:bu p l=false):CB p l f=p:=by simp[CB,h]
theorem zk(l:List Int)(f:Int->Int):CB l l f=l:=by have:bu l l=true:=kV.2 ⟨[],by simp⟩;simp[CB,fo,this]
theorem zi(l:List Int)(k:Int)(r:List Int)(f:Int->Int):CB (l++k::r) l f=l++f k::r:=by simp[CB,fo,Bn]
theorem zl(p l:List Int):bu p l=false∨p=l∨∃k r,p=l++k::r:=by
 cases h:bu p l with
 |false=>exact .inl rfl
 |true=>
  obtain⟨r,rfl⟩:=kV.1 h;cases r with
  |nil=>right;left;simp
  |cons k r=>exact .inr (.inr ⟨k,r,rfl⟩)
theorem oK(p l:List Int)(f:Int->Int):(CB p l f).length=p.length:=by
 rcases zl p l with h|rfl|⟨k,r,rfl⟩
 .rw[zj f h]
 .rw[zk]
 .rw[zi];simp
theorem gH{e:aj}{z y:List Int}(h:co e z=some y):y.length=z.length:=by
 unfold co fO dR eT at h;split at h
 .injection h with h;rw[<-h,oK]
 split at h
 .split at h
  .cases h
  .injection h with h;rw[<-h,oK]
 split at h
 .split at h
  .cases h
  .injection h with h;rw[<-h]
 split at h
 .split at h
  .cases h
  .injection h with h;rw[<-h,oK]
 injection h with h;rw[<-h]
def cc(w:World)(zs:List Int)(A:Option Addr)(n c:Nat):Prop:=
 n=zs.length/\n<=c/\c<=maxLen/\(zs=[]∨∃b o,A=some ⟨b,o,none⟩/\∀j z,zs[j]? =some z->w.cell? ⟨b,o+j,none⟩=some (.int .i64 z))
theorem cc.keep{w w':World}(hb:∀a v,w.cell? a=some v->w'.cell? a=some v){zs:List Int}{A:Option Addr}{n c:Nat}(h:cc w zs A n c):cc w' zs A n c:=by
 obtain⟨h1,h2,h3,h4⟩:=h;refine⟨h1,h2,h3,?_⟩;rcases h4 with e|⟨b,o,e,hr⟩
 .exact .inl e
 .exact .inr ⟨b,o,e,fun j z hz=>hb _ _ (hr j z hz)⟩
theorem cc.below{w w':World}(hb:Below w.heap.size w w'){zs:List Int}{A:Option Addr}{n c:Nat}(h:cc w zs A n c):cc w' zs A n c:=h.keep fun _ _=>ac hb
theorem cc.drewN{w:World}{zs:List Int}{A:Option Addr}{n c:Nat}(h:cc w zs A n c)(d:Nat):cc (w.drewN d) zs A n c:=h.keep fun _ _ h=>by rw[World.cell?_drewN];exact h
theorem cc.getD{w:World}{zs:List Int}{b o:Nat}(h:∀j z,zs[j]? =some z->w.cell? ⟨b,o+j,none⟩=some (.int .i64 z)):∀j,j<zs.length->w.cell? ⟨b,o+j,none⟩=some (.int .i64 (zs.getD j 0)):=by intro j hj;have:zs[j]? =some (zs[j]):=br hj;rw[h j _ this];simp[List.getD,this]
theorem cc.take{w:World}{zs:List Int}{A:Option Addr}{n c:Nat}(h:cc w zs A n c)(m:Nat)(hm:m<=n):cc w (zs.take m) A m c:=by
 obtain⟨h1,h2,h3,h4⟩:=h;refine⟨by simp;omega,by omega,h3,?_⟩;rcases h4 with e|⟨b,o,e,hr⟩
 .exact .inl (by simp[e])
 .refine .inr ⟨b,o,e,fun j z hz=>hr j z ?_⟩;rw[List.getElem?_take] at hz;split at hz
  .exact hz
  .cases hz
theorem cc.get{w:World}{zs:List Int}{A:Option Addr}{n c:Nat}(h:cc w zs A n c){i:Nat}(hi:i<n):∃b o z,A=some ⟨b,o,none⟩/\zs[i]? =some z/\w.cell? ⟨b,o+i,none⟩=some (.int .i64 z):=by
 obtain⟨hn,_,_,h⟩:=h;rcases h with rfl|⟨b,o,e,hr⟩
 .simp at hn;omega
 .have:zs[i]? =some (zs[i]'(by omega)):=br (by omega);exact⟨b,o,_,e,this,hr i _ this⟩
theorem cc.own{w:World}{base:Nat}{v:Value}{zs:List Int}(h:w.ownsRow base 3 1 v zs.length (zs.map (Value.int .i64))):∃A c,v= .slice A zs.length c/\cc w zs A zs.length c:=by
 obtain⟨A,c,rfl,h1,h2⟩:=t9 h;refine⟨A,c,rfl,rfl,h1,h2,?_⟩;by_cases h0:zs=[]
 .exact .inl h0
 .right;have hpos:0<zs.length:=List.length_pos_iff.2 h0;obtain⟨g,cap,e,_⟩:=h.form hpos;injection e with e1 e2 e3;subst e1;refine⟨g,0,rfl,fun j z hz=>?_⟩;have:=bH h j (.int .i64 z) (by simp[hz]);simpa using this
def Dq(v:Value)(w:World)(e:Ending)(w':World):Prop:=e= .returned v/\∃n,w'=w.drewN n
def dL(zs:List Int)(w:World)(e:Ending)(w':World):Prop:=∃A c,e= .returned (.slice A zs.length c)/\w'.ownsRow w.heap.size 3 1 (.slice A zs.length c) zs.length (zs.map (Value.int .i64))/\Below w.heap.size w w'
theorem lz(xs ys:List Int)(A B:Option Addr)(n c m d:Nat)(w:World)(hx:cc w xs A n c)(hy:cc w ys B m d):Calls Tryz.prog 35 #[.slice A n c,.slice B m d] w (Dq (.bool (xs == ys)) w):=by
 obtain⟨rfl,x2,x3,x4⟩:=hx;obtain⟨rfl,y2,y3,y4⟩:=hy;unfold maxLen at x3 y3;by_cases hl:xs.length=ys.length
 .rcases x4 with rfl|⟨b,o,rfl,hr⟩
  .have:ys=[]:=List.eq_nil_of_length_eq_zero hl.symm;subst this;refine(Tryz.slices_Equal_int_empty A B c 0 d w (by omega)).mono ?_;rintro e w' ⟨rfl,rfl⟩;exact⟨rfl,0,rfl⟩
  .rcases y4 with rfl|⟨b',o',rfl,hr'⟩
   .have:xs=[]:=List.eq_nil_of_length_eq_zero hl;subst this;refine(Tryz.slices_Equal_int_empty _ B c 0 d w (by omega)).mono ?_;rintro e w' ⟨rfl,rfl⟩;exact⟨rfl,0,rfl⟩
   .refine(Tryz.slices_Equal_int b o xs.length c b' o' ys.length d xs ys w (ah _) (ah _) (by omega) (by omega) (cc.getD hr) (cc.getD hr')).mono ?_;rintro e w' ⟨rfl,q,rfl⟩;exact⟨by simp,q,rfl⟩
 .refine(Tryz.slices_Equal_int_lens A B xs.length c ys.length d w hl).mono ?_;rintro e w' ⟨rfl,rfl⟩;have:(xs == ys)=false:=(by simp;intro e;exact hl (by rw[e]));exact⟨by rw[this],0,rfl⟩
theorem gV(zs:List Int)(A:Option Addr)(n c:Nat)(w:World)(h:cc w zs A n c)(hn:n<=17592186044416):Calls Tryz.prog 75 #[.slice A n c] w (dL zs w):=by
 obtain⟨rfl,h2,h3,h4⟩:=h;rcases h4 with rfl|⟨b,o,rfl,hr⟩
 .cases A with
  |none=>refine(Tryz.slices_Clone_int_nil 0 c w).mono ?_;rintro e w' ⟨rfl,rfl⟩;exact⟨none,0,rfl,World.ownsRow_nil _ _ _ _,ai _ _⟩
  |some a=>refine(Tryz.slices_Clone_int_zero a c w).mono ?_;rintro e w' ⟨v',rfl,hown,_,hb⟩;obtain⟨A',c',rfl,_⟩:=t9 hown;exact⟨A',c',rfl,hown,hb⟩
 .refine(Tryz.slices_Clone_int b o zs.length c zs w (ah _) (by omega) (cc.getD hr)).mono ?_;rintro e w' ⟨v',rfl,hown,_,hb⟩;rw[List.take_length] at hown;obtain⟨A',c',rfl,_⟩:=t9 hown;exact⟨A',c',rfl,hown,hb⟩
theorem sL{a b:List Int}(h:a.length<b.length):bu a b=false:=by rw[<-Bool.not_eq_true,kV];rintro⟨r,rfl⟩;simp at h;omega
theorem I1{a b:List Int}(_h:b.length<=a.length):(a.take b.length == b)=bu a b:=by unfold bu;rw[Bool.eq_iff_iff,List.isPrefixOf_iff_prefix,List.prefix_iff_eq_take,beq_iff_eq];exact⟨Eq.symm,Eq.symm⟩
theorem jG(xs ys:List Int)(A B:Option Addr)(n c m d:Nat)(w:World)(hx:cc w xs A n c)(hy:cc w ys B m d):Calls Tryz.prog 83 #[.slice A n c,.slice B m d] w (Dq (.bool (bu xs ys)) w):=by
 have HX:=aa hx;have HY:=aa hy;have hxl:=hx.1;have hyl:=hy.1;have hxc:=hx.2.1;have hxm:=hx.2.2.1;unfold maxLen at hxm;by_cases hl:m<=n
 .have HR:Hid ((xs.take m == ys)=bu xs ys):=(by show _=_;rw[hyl];exact I1 (by omega));clear hx hy hxl hyl
  go_in
  go_wp2_with fail;refine(lz (xs.take m) ys _ _ _ _ _ _ _ (HX.out.take m hl) HY.out).mono ?_;rintro e w1 ⟨rfl,q,rfl⟩;go_wp2;go_ret;exact⟨dg (by rw[<-HR.out]),q,rfl⟩
 .have HR:Hid (bu xs ys=false):=sL (by omega);clear hx hy hxl hyl
  go_in
  go_wp2;go_ret;exact⟨dg (by rw[HR.out]),0,rfl⟩
theorem lH(fn:Fn)(first cap:Array Value)(w:World):(Instr.makeFunc fn first cap).run Tryz.prog w= .ok (.func fn first cap) w:=rfl
def jT(w:World)(f:FuncId)(caps:Array Value)(z:Int)(y:Int):Prop:=
 ∀w1,Below w.heap.size w w1->Calls Tryz.prog f (#[.int .i64 z]++caps) w1 fun e w2=>e= .returned (.int .i64 y)/\Below w1.heap.size w1 w2
theorem xC{w:World}{base g n c:Nat}{zs:List Int}(h:w.ownsRow base 3 1 (.slice (some ⟨g,0,none⟩) n c) n (zs.map (Value.int .i64)))(i:Nat)(y:Int):(w.setCell ⟨g,i,none⟩ (.int .i64 y)).ownsRow base 3 1 (.slice (some ⟨g,0,none⟩) n c) n ((zs.set i y).map (Value.int .i64)):=by have:=(h.stored i (.int .i64 y)).1;rwa [List.map_set]
theorem dL.intro{zs ys:List Int}{w w':World}{A:Option Addr}{n c:Nat}(h:zs=ys)(hn:n=ys.length)(ho:w'.ownsRow w.heap.size 3 1 (.slice A n c) n (ys.map (Value.int .i64)))(hb:Below w.heap.size w w'):dL zs w (.returned (.slice A n c)) w':=by subst h hn;exact⟨A,c,rfl,ho,hb⟩
theorem yX(zs:List Int)(A:Option Addr)(n c at_:Nat)(f:FuncId)(caps:Array Value)(F:Int->Int)(w:World)(h:cc w zs A n c)(hn:n<=17592186044416)(ha:at_<=17592186044416)(hcf:∀(args:Array Value) (w:World),(callFunc f args).run Tryz.prog w= .ok (.enter f args) w)(hF:∀z,zs[at_]? =some z->jT w f caps z (F z)):Calls Tryz.prog 146 #[.slice A n c,.int .i64 at_,.func (.func f) #[] caps] w (dL (fo zs at_ F) w):=by
 have H:=aa h;have HF:=aa hF;obtain⟨rfl,_⟩:=h;clear hF;by_cases hl:at_<zs.length
 .have HZ:Hid (zs[at_]? =some zs[at_]):=br hl;have HS:Hid (fo zs at_ F=zs.set at_ (F zs[at_])):=by show _=_;unfold fo;rw[HZ.out]
  go_in
  go_wp2_with fail;refine(gV zs A _ c _ H.out hn).mono ?_;rintro e w1 ⟨A1,c1,rfl,ho,hb⟩;have HO:=aa ho;obtain⟨g,cap,e1,hg,_⟩:=ho.form (by omega);injection e1 with e1 e2 e3;subst e1 e3;have hc:=bH ho at_ (.int .i64 zs[at_]) (by simp[hl]);have HB:=aa hb;clear ho hb;go_wp2_with fail;refine(HF.out _ HZ.out _ HB.out).mono ?_;rintro e w2 ⟨rfl,hb2⟩;have ho2:=bM HO.out hb2 (ah _);have hc2:=bH ho2 at_ (.int .i64 zs[at_]) (by simp[hl]);have hf2:=ho2.frozenAt at_;have HO2:=aa (xC ho2 at_ (F zs[at_]));have HB2:Hid (Below w.heap.size w (w2.setCell ⟨g,at_,none⟩ (.int .i64 (F zs[at_])))):=(HB.out.trans (hb2.mono HB.out.size)).setCell hg _;clear ho2 hb2;go_wp2;go_ret;exact dL.intro HS.out (by rw[List.length_set]) HO2.out HB2.out
 .have HS:Hid (fo zs at_ F=zs):=by show _=_;unfold fo;rw[List.getElem?_eq_none (by omega)]
  go_in
  go_wp2_with fail;refine(gV zs A _ c _ H.out hn).mono ?_;rintro e w1 ⟨A1,c1,rfl,ho,hb⟩;have HO:=aa ho;have HB:=aa hb;clear ho hb;go_wp2;go_ret;exact dL.intro HS.out rfl HO.out HB.out
def fX(p l:List Int):Nat:=if bu p l then l.length else p.length
theorem oL(p l:List Int)(F:Int->Int):CB p l F=fo p (fX p l) F:=by
 unfold CB fX;split
 .rfl
 .simp[fo]
def lh(A:Option Addr)(n c i:Nat)(w:World)(e:Ending)(w':World):Prop:=e= .returned (.agg #[.slice A n c,.int .i64 i])/\Below w.heap.size w w'
theorem lh.intro{A:Option Addr}{n c i j:Nat}{w w':World}(h:i=j)(hb:Below w.heap.size w w'):lh A n c i w (.returned (.agg #[.slice A n c,.int .i64 j])) w':=⟨by rw[h],hb⟩
theorem bS{B:Nat}{a w:World}(h:Below B a w)(q:Nat):Below B a (w.drewN q):=⟨h.os,h.tape,h.output,h.size,h.block⟩
theorem jT.later{w w':World}{f:FuncId}{caps:Array Value}{z y:Int}(h:jT w f caps z y)(hb:Below w.heap.size w w'):jT w' f caps z y:=fun w1 hb1=>h w1 (hb.trans (hb1.mono hb.size))
theorem lC(xs ys:List Int)(A B:Option Addr)(n c m d:Nat)(w:World)(hx:cc w xs A n c)(hy:cc w ys B m d):Calls Tryz.prog 122 #[.slice A n c,.slice B m d] w (lh A n c (fX xs ys) w):=by
 have HX:=aa hx;have HY:=aa hy;have HL:Hid (fX xs ys=if bu xs ys then m else n):=(by show _=_;unfold fX;rw[<-hx.1,<-hy.1]);clear hx hy;cases hu:bu xs ys with
 |true=>
  have HU:=aa hu;clear hu
  go_in
  go_wp2_with fail;refine(jG xs ys _ _ _ _ _ _ _ (HX.out.below ((ai _ _).alloc (ah _) _)) (HY.out.below ((ai _ _).alloc (ah _) _))).mono ?_;rintro e w1 ⟨rfl,q,rfl⟩;rw[HU.out];go_wp2;refine bodyPost_ret (v:=.agg #[.slice A n c,.int .i64 m]) (by simp[results,Tryz.results122,go_sem]) rfl (lh.intro (by rw[HL.out,HU.out];rfl) ?_);exact((bS ((ai _ _).alloc (ah _) _) q).setCell (ah _) _).setCell (ah _) _
 |false=>
  have HU:=aa hu;clear hu
  go_in
  go_wp2_with fail;refine(jG xs ys _ _ _ _ _ _ _ (HX.out.below ((ai _ _).alloc (ah _) _)) (HY.out.below ((ai _ _).alloc (ah _) _))).mono ?_;rintro e w1 ⟨rfl,q,rfl⟩;rw[HU.out];go_wp2;refine bodyPost_ret (v:=.agg #[.slice A n c,.int .i64 n]) (by simp[results,Tryz.results122,go_sem]) rfl (lh.intro (by rw[HL.out,HU.out];rfl) ?_);exact((bS ((ai _ _).alloc (ah _) _) q).setCell (ah _) _).setCell (ah _) _
theorem oJ(zs:List Int)(A:Option Addr)(n c at_:Nat)(f:FuncId)(caps:Array Value)(F:Int->Int)(w:World)(h:cc w zs A n c)(hn:n<=17592186044416)(ha:at_<=17592186044416)(hcf:∀(args:Array Value) (w:World),(callFunc f args).run Tryz.prog w= .ok (.enter f args) w)(hF:∀z,zs[at_]? =some z->jT w f caps z (F z)):Calls Tryz.prog 123 #[.agg #[.slice A n c,.int .i64 at_],.func (.func f) #[] caps] w (dL (fo zs at_ F) w):=by
 have hb0:Below w.heap.size w (w.alloc (.cells #[.slice A n c,.int .i64 at_] 162)):=(ai _ _).alloc (ah _) _;have H:=aa (h.below hb0);have HF:Hid (∀z,zs[at_]? =some z->jT (w.alloc (.cells #[.slice A n c,.int .i64 at_] 162)) f caps z (F z)):=fun z hz=>(hF z hz).later hb0;have HB0:=aa hb0;clear h hF hb0
 go_in
 go_wp2_with fail;refine(yX zs A n c at_ f caps F _ H.out hn ha hcf HF.out).mono ?_;rintro e w1 hp;obtain⟨A1,c1,rfl,ho,hb⟩:=hp;have HO:=aa ho;have HB:=aa hb;clear ho hb;go_wp2;go_ret;exact dL.intro rfl rfl (dk HO.out (by simp)) (HB0.out.trans (HB.out.mono (by simp)))
theorem uL(args:Array Value)(w:World):(callFunc 147 args).run Tryz.prog w= .ok (.enter 147 args) w:=eH Tryz.func147 (by kernel_rfl) (by kernel_rfl) args w
theorem GM(args:Array Value)(w:World):(callFunc 148 args).run Tryz.prog w= .ok (.enter 148 args) w:=eH Tryz.func148 (by kernel_rfl) (by kernel_rfl) args w
theorem uD(args:Array Value)(w:World):(callFunc 126 args).run Tryz.prog w= .ok (.enter 126 args) w:=eH Tryz.func126 (by kernel_rfl) (by kernel_rfl) args w
def lg(x:Int)(w:World)(e:Ending)(w':World):Prop:=e= .returned (.int .i64 x)/\Below w.heap.size w w'
theorem lg.intro{x y:Int}{w w':World}(h:x=y)(hb:Below w.heap.size w w'):lg x w (.returned (.int .i64 y)) w':=⟨by rw[h],hb⟩
theorem FK(z i:Int)(b:Nat)(w:World)(hc:w.cell? ⟨b,0,none⟩=some (.int .i64 i))(h1: -1<=z)(h2:z<=2147483648):Calls Tryz.prog 147 #[.int .i64 z,.pointer (some ⟨b,0,none⟩)] w fun e w'=>e= .returned (.int .i64 (dl i z))/\w=w':=by
 by_cases h:i<=z
 .have HU:Hid (dl i z=z+1):=if_pos h
  go_in
  go_wp2;go_ret;exact⟨mS HU.out.symm,rfl⟩
 .have HU:Hid (dl i z=z):=if_neg h
  go_in
  go_wp2;go_ret;exact⟨mS HU.out.symm,rfl⟩
theorem FE(z i:Int)(b:Nat)(w:World)(hc:w.cell? ⟨b,0,none⟩=some (.int .i64 i))(h1:0<=z)(h2:z<=2147483648):Calls Tryz.prog 148 #[.int .i64 z,.pointer (some ⟨b,0,none⟩)] w fun e w'=>e= .returned (.int .i64 (cF i z))/\w=w':=by
 by_cases h:i<z
 .have HU:Hid (cF i z=z - 1):=if_pos h
  go_in
  go_wp2;go_ret;exact⟨mS HU.out.symm,rfl⟩
 .have HU:Hid (cF i z=z):=if_neg h
  go_in
  go_wp2;go_ret;exact⟨mS HU.out.symm,rfl⟩
def EN(f:FuncId)(i:Int)(w:World)(e:Ending)(w':World):Prop:=e= .returned (.func (.func f) #[] #[.pointer (some ⟨w.heap.size,0,none⟩)])/\w'=w.alloc (.cells #[.int .i64 i] 3)
theorem rr(i:Int)(w:World):Calls Tryz.prog 124 #[.int .i64 i] w (EN 147 i w):=by
 have hmf:=lH
 go_in
 go_wp2;go_ret;exact⟨rfl,rfl⟩
theorem mD(i:Int)(w:World):Calls Tryz.prog 125 #[.int .i64 i] w (EN 148 i w):=by
 have hmf:=lH
 go_in
 go_wp2;go_ret;exact⟨rfl,rfl⟩
end Go.Proofs.YtckbdkgcoilmpaaGreatDoor
