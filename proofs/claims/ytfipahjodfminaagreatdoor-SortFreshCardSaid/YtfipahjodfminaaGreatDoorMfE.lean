/- Part 5 of the proof. -/
import Derived.Test.YtfipahjodfminaaGreatDoorMfD
namespace Go.Proofs.YtfipahjodfminaaGreatDoor
open Go.RowKit
set_option linter.all false
set_option maxHeartbeats 40000000
set_option maxRecDepth 100000
theorem Fk{k of:Nat}(ho:of=3∨of=4∨of=5∨of=25∨of=200∨of=201∨of=202)(h:fP k of=true):k≠1/\k≠2:=by unfold fP at h;rcases ho with rfl|rfl|rfl|rfl|rfl|rfl|rfl<;>simp at h<;>omega
theorem El{k kid i:Nat}(hk:k≠1)(h:mn k kid i=true):kid≠1/\kid≠2:=by
 unfold mn at h;cases hr:ig k with
 |none=>rw[hr] at h;cases h
 |some p=>
  obtain⟨l,all⟩:=p;have hl:(all=true->l.headD 0=3∨l.headD 0=4∨l.headD 0=5∨l.headD 0=25∨l.headD 0=200∨l.headD 0=201∨l.headD 0=202)/\∀o∈l,o=3∨o=4∨o=5∨o=25∨o=200∨o=201∨o=202:=by unfold ig at hr;split at hr<;>first|contradiction|(cases hr;simp)|exact absurd rfl hk
  rw[hr] at h;cases all with
  |true=>exact Fk (hl.1 rfl) h
  |false=>
   cases hg:l[i]? with
   |none=>simp[hg] at h
   |some o=>simp only[hg] at h;exact Fk (hl.2 o (List.mem_of_getElem? hg)) h
mutual
theorem ED:∀(t:ag) (d:Nat),t.kind≠1->t.kind≠2->cE d t=true->t.noFunc
 | .node k s x ks,d,h1,h2,h=>by
  refine⟨h2,?_⟩;unfold cE at h;cases hr:ig k with
  |none=>rw[hr] at h;cases h
  |some p=>obtain⟨l,all⟩:=p;rw[hr] at h;simp only[Bool.and_eq_true] at h;exact FY ks k 0 (d+1) h1 h.1.2
theorem FY:∀(ts:List ag) (k i d:Nat),k≠1->bV k i d ts=true->Dz ts
 |[],_,_,_,_,_=>trivial
 |t::ts,k,i,d,hk,h=>by unfold bV at h;simp only[Bool.and_eq_true] at h;obtain⟨h1,h2⟩:=El hk h.1.1;exact⟨ED t d h1 h2 h.1.2,FY ts k (i+1) d hk h.2⟩
end
theorem G0{t:ag}{d:Nat}(hk:t.kind=2)(h:cE d t=true):sv t:=by
 obtain⟨k,s,x,ks⟩:=t;obtain rfl:k=2:=hk;unfold cE at h;simp only[ig,Bool.and_eq_true,Bool.false_or] at h;obtain⟨⟨⟨_,h3⟩,h4⟩,_⟩:=h;match ks,h3,h4 with
 |[],h3,_=>simp at h3
 |[_],h3,_=>simp at h3
 |[p,b],_,h4=>unfold bV bV at h4;simp only[Bool.and_eq_true] at h4;obtain⟨⟨h5,h6⟩,⟨h7,h8⟩,_⟩:=h4;obtain⟨a1,a2⟩:=El (by decide) h5;obtain⟨b1,b2⟩:=El (by decide) h7;exact⟨s,x,p,b,rfl,ED p _ a1 a2 h6,ED b _ b1 b2 h8⟩
 |_::_::_::_,h3,_=>simp at h3
theorem Fe:∀{ts:List ag} {i d:Nat},bV 1 i d ts=true->∀t∈ts,sv t
 |[],_,_,_,t,ht=>by cases ht
 |u::ts,i,d,h,t,ht=>by
  unfold bV at h;simp only[Bool.and_eq_true] at h;rcases List.mem_cons.1 ht with rfl|ht
  .exact G0 (by have:=h.1.1;simpa[mn,ig,fP] using this) h.1.2
  .exact Fe h.2 t ht
theorem CP{t:ag}(hk:t.kind=1)(h:pi t=true):∀u∈t.kids,sv u:=by obtain⟨k,s,x,ks⟩:=t;obtain rfl:k=1:=hk;unfold pi cE at h;simp only[ig,Bool.and_eq_true] at h;exact Fe h.1.2
def ln(st:bo)(i:Nat):List (List Int):=(st.ev.filter fun e=>e.2 == i).map Prod.fst
def fc(st:bo)(i:Nat):ar:=((st.bs[i]?).map Prod.fst).getD []
theorem Ip{st:bo}{i:Nat}{q:List Int}:(ln st i).contains q=jy st i q:=by
 unfold jy;rw[Bool.eq_iff_iff,List.contains_iff_mem,decide_eq_true_iff];unfold ln;rw[List.mem_map];constructor
 .rintro⟨e,he,rfl⟩;obtain⟨h1,h2⟩:=List.mem_filter.1 he;have h3:e.2=i:=(by simpa using h2);rw[<-h3];exact h1
 .intro h;exact⟨(q,i),List.mem_filter.2 ⟨h,by simp⟩,rfl⟩
theorem IH{ks:List ag}{o:bq}{st:bo}{s:ar}{x:Int}{i:Nat}{a:ar}(h:gn ks= .ok (o,st))(hF:∀t∈ks,sv t):(ln st i).foldl (fun t p=>t.setAt a p) (.node 1 s x ks)=(.node 1 s x (db (jy st i) a [] 0 ks):ag):=by
 have hN:=DU h hF;have kz:∀(r:List Int) (t:ag) (k:Nat),t.kindAt r=some k->∀z∈r,0<=z:=by
  intro r;induction r with
  |nil=>intro t k _ z hz;cases hz
  |cons y r ih=>
   intro t k hk z hz;obtain⟨k',s',x',ks'⟩:=t;have h1:(if y<0 then none else ja y.toNat r ks')=some k:=hk;split at h1
   .cases h1
   .rcases List.mem_cons.1 hz with rfl|hz
    .omega
    .have go:∀(l:List ag) (n:Nat),ja n r l=some k->∃t,ag.kindAt r t=some k:=by
      intro l;induction l with
      |nil=>intro n h;cases n<;>simp[ja] at h
      |cons t l ih2=>
       intro n h;cases n with
       |zero=>exact⟨t,h⟩
       |succ n=>exact ih2 n h
     obtain⟨t,ht⟩:=go ks' _ h1;exact ih t k ht z hz
 have hz:∀p∈ln st i,∀z∈p,0<=z:=by
  intro p hp;obtain⟨e,he,rfl⟩:=List.mem_map.1 hp;obtain⟨m,r,k,h1,h2,_⟩:=hN e (List.mem_filter.1 he).1;have h3:(ag.node 1 [] 0 ks).kindAt e.1=some k:=by rw[h1];show(if (m:Int)<0 then none else ja (m:Int).toNat r ks)=some k;rw[if_neg (by omega)];exact h2
  exact kz _ _ _ h3
 have h1:=FT (a:=a) (ln st i) (fun _=>false) (.node 1 s x ks) hz;rw[FU] at h1;rw[h1,DK (Q:=jy st i) _ [] (fun r=>by simp only[Bool.false_or];exact Ip)];have h0:jy st i []=false:=by
  cases h0:jy st i [] with
  |false=>rfl
  |true=>obtain⟨m,r,k,h2,_⟩:=hN _ (of_decide_eq_true h0);cases h2
 show ag.node 1 (if jy st i []=true then a else s) x (db (jy st i) a [] 0 ks)=_;rw[h0];rfl
def gx(t:ag):Nat×Nat:=
 if t.kind≠1∨pi t=false then(4,0) else match gn t.kids with
  | .ok _=>(0,0)
  | .error e=>e
structure j9 where
 path:List Int
 name:ar
 uses:List (List Int)
 deriving DecidableEq
def cy(st:bo)(i:Nat):j9:=⟨(ln st i).headD [],fc st i,(ln st i).tail⟩
def i5(t:ag):List j9:=
 if (gx t).1≠0 then[] else match gn t.kids with
  | .ok (_,st)=>st.all.map (cy st)
  | .error _=>[]
def vi(p:List Int)(l:List j9):List j9:=l.map fun b=>if b.path=p then⟨b.path,[],b.uses⟩ else b
def wc(t:ag)(a:ar)(l:List (List Int)):ag:=l.foldl (fun t p=>t.setAt a p) t
def Ca(t:ag)(p:List Int)(frm to_:ar):Except Nat ag:=
 match (i5 t).find? (fun b=>decide (b.path=p)) with
 |none=>.error 6
 |some b=>
  if b.name≠frm then .error 121
  else if (gx (wc t to_ (p::b.uses))).1≠0∨vi p (i5 t)≠vi p (i5 (wc t to_ (p::b.uses))) then .error 120
  else .ok (wc t to_ (p::b.uses))
def va(st st':bo):Prop:=∃new,st'.all=st.all++new/\new.Nodup/\(∀i∈new,st.bs.length<=i/\i<st'.bs.length/\∃q,(q,i)∈st'.ev)/\st.bs.length<=st'.bs.length/\∀e∈st.ev,e∈st'.ev
theorem va.refl{st st':bo}(h1:st'.all=st.all)(h2:st.bs.length<=st'.bs.length)(h3:∀e∈st.ev,e∈st'.ev):va st st':=⟨[],by simp[h1],by simp,by simp,h2,h3⟩
theorem va.trans{st st1 st':bo}(h:va st st1)(h':va st1 st'):va st st':=by
 obtain⟨n1,a1,a2,a3,a4,a5⟩:=h;obtain⟨n2,b1,b2,b3,b4,b5⟩:=h';refine⟨n1++n2,by rw[b1,a1,List.append_assoc],?_,?_,aJ a4 b4,fun e he=>b5 e (a5 e he)⟩
 .rw[List.nodup_append];refine⟨a2,b2,fun x hx y hy hxy=>?_⟩;have h1:=(a3 x hx).2.1;have h2:=(b3 y hy).1;omega
 .intro i hi;rcases List.mem_append.1 hi with hi|hi
  .obtain⟨h1,h2,q,h3⟩:=a3 i hi;exact⟨h1,by omega,q,b5 _ h3⟩
  .obtain⟨h1,h2,q,h3⟩:=b3 i hi;exact⟨by omega,h2,q,h3⟩
theorem va.bind{own o:bq}{s:ar}{q:List Int}{a:Nat}{st st':bo}(h:j5 own s q a st= .ok (o,st')):va st st':=by obtain⟨_,_,rfl⟩:=ve h;exact⟨[st.bs.length],rfl,by simp,fun i hi=>by obtain rfl:=List.mem_singleton.1 hi;exact⟨ah _,by simp,q,by simp⟩,by simp,fun e he=>List.mem_append_left _ he⟩
theorem va.use{env:List bq}{call:Bool}{n:Nat}{s:ar}{q:List Int}{a:Nat}{st st':bo}(h:ia env call n s q a st= .ok st'):va st st':=by obtain⟨i,_,_,rfl⟩:=CC h;exact va.refl rfl (ah _) (fun e he=>List.mem_append_left _ he)
theorem va.next{st st':bo}(h:va st.next st'):va st st':=h
mutual
theorem Hj (fe:bq):∀(t:ag) (out:List bq) (own:bq) (q:List Int) (st:bo) (o:bq) (st':bo),da fe t out own q st= .ok (o,st')->t.noFunc->va st st'
 | .node k s x ks,out,own,q,st,o,st',h,hn=>by
  obtain⟨hk2,hnk⟩:=hn;unfold da at h;rw[if_neg hk2] at h;split at h
  .obtain⟨o1,st1,h1,h2⟩:=i9 h;exact((va.bind h1).trans (C9 fe ks _ _ _ _ _ _ _ h2 hnk)).next
  split at h
  .obtain⟨o1,h1,_⟩:=Cy h;exact(C9 fe ks _ _ _ _ _ _ _ h1 hnk).next
  split at h
  .split at h
   .cases h
   .obtain⟨o1,st1,h1,h2⟩:=i9 h;exact((C9 fe ks _ _ _ _ _ _ _ h1 hnk).trans (va.bind h2)).next
  split at h
  .obtain⟨st1,h1,h2⟩:=CG h;exact((va.use h1).trans (C9 fe ks _ _ _ _ _ _ _ h2 hnk)).next
  split at h
  .obtain⟨st1,h1,h2⟩:=CG h;exact((va.use h1).trans (C9 fe ks _ _ _ _ _ _ _ h2 hnk)).next
  .exact(C9 fe ks _ _ _ _ _ _ _ h hnk).next
theorem C9 (fe:bq):∀(ts:List ag) (out:List bq) (own:bq) (q:List Int) (j:Nat) (st:bo) (o:bq) (st':bo),dq fe ts out own q j st= .ok (o,st')->Dz ts->va st st'
 |[],out,own,q,j,st,o,st',h,_=>by
  unfold dq at h;cases h
  exact va.refl rfl (ah _) (fun _ h=>h)
 |t::ts,out,own,q,j,st,o,st',h,hn=>by unfold dq at h;obtain⟨o1,st1,h1,h2⟩:=i9 h;exact(Hj fe t _ _ _ _ _ _ h1 hn.1).trans (C9 fe ts _ _ _ _ _ _ _ h2 hn.2)
end
def rO(fe:bq)(t:ag):Nat:=(bn fe t.text).getD 0
theorem Ff(fe:bq):∀(ts:List ag) (out:List bq) (own:bq) (k:Nat) (st:bo) (o:bq) (st':bo),dq fe ts out own [] k st= .ok (o,st')->(∀t∈ts,sv t)->(ts.map (rO fe)).Nodup->(∀t∈ts,rO fe t<st.bs.length)->∃new,st'.all=st.all++new/\new.Nodup/\(∀i∈new,i∈ts.map (rO fe)∨(st.bs.length<=i/\i<st'.bs.length/\∃q,(q,i)∈st'.ev))/\st.bs.length<=st'.bs.length
 |[],out,own,k,st,o,st',h,_,_,_=>by
  unfold dq at h;cases h
  exact⟨[],by simp,by simp,by simp,ah _⟩
 |t::ts,out,own,k,st,o,st',h,hF,hN,hL=>by
  obtain⟨s,x,p,b,rfl,hp,hb⟩:=hF t (List.mem_cons_self ..);unfold dq at h;obtain⟨o1,st1,h1,h2⟩:=i9 h;unfold da at h1;rw[if_pos rfl] at h1;obtain⟨o2,h3,_⟩:=Cy h1;obtain⟨n1,a1,a2,a3,a4,a5⟩:=C9 fe [p,b] _ _ _ _ _ _ _ h3 ⟨hp,hb,trivial⟩;have a4':st.bs.length<=st1.bs.length:=a4;have a3':∀i∈n1,st.bs.length<=i/\i<st1.bs.length/\∃q,(q,i)∈st1.ev:=a3;simp only[List.map_cons,List.nodup_cons] at hN;obtain⟨n2,b1,b2,b3,b4⟩:=Ff fe ts out o1 (k+1) st1 o st' h2 (fun t ht=>hF t (List.mem_cons_of_mem _ ht)) hN.2 (fun t ht=>fJ (hL t (List.mem_cons_of_mem _ ht)) a4');have hev:∀e∈st1.ev,e∈st'.ev:=by obtain⟨_,_,new,e1,_⟩:=Dl fe ts out o1 (k+1) st1 o st' h2 (fun t ht=>hF t (List.mem_cons_of_mem _ ht));intro e he;rw[e1];exact List.mem_append_left _ he
  have hf:rO fe (.node 2 s x [p,b])<st.bs.length:=hL _ (List.mem_cons_self ..);have hf2:∀i∈ts.map (rO fe),i<st.bs.length:=fun i hi=>by obtain⟨u,hu,rfl⟩:=List.mem_map.1 hi;exact hL u (List.mem_cons_of_mem _ hu)
  have ha1:st1.all=(st.all++[rO fe (.node 2 s x [p,b])])++n1:=a1;refine⟨rO fe (.node 2 s x [p,b]) :: (n1++n2),by rw[b1,ha1];simp,?_,?_,aJ a4' b4⟩
  .rw[List.nodup_cons,List.nodup_append];refine⟨fun hm=>?_,a2,b2,fun u hu v hv huv=>?_⟩
   .rcases List.mem_append.1 hm with hm|hm
    .have:=(a3' _ hm).1;omega
    .rcases b3 _ hm with h4|h4
     .exact hN.1 h4
     .have:=h4.1;omega
   .subst huv;have h5:=a3' _ hu;rcases b3 _ hv with h4|h4
    .have:=hf2 _ h4;omega
    .have:=h4.1;omega
  .intro i hi;rcases List.mem_cons.1 hi with rfl|hi
   .exact .inl (by simp)
   rcases List.mem_append.1 hi with hi|hi
   .obtain⟨h5,h6,q,h7⟩:=a3' i hi;exact .inr ⟨h5,by omega,q,hev _ h7⟩
   .rcases b3 i hi with h4|⟨h4,h5,h6⟩
    .exact .inl (by rw[List.map_cons];exact List.mem_cons_of_mem _ h4)
    .exact .inr ⟨by omega,h5,h6⟩
theorem E8:∀(ts:List ag) (k a0:Nat) (fe:bq) (st:bo) (o:bq) (st':bo),i6 ts k a0 fe st= .ok (o,st')->st.bs.length<=st'.bs.length/\∃new,st'.ev=st.ev++new/\(new.map Prod.snd).Nodup/\∀e∈new,st.bs.length<=e.2/\e.2<st'.bs.length
 |[],k,a0,fe,st,o,st',h=>by
  unfold i6 at h;cases h
  exact⟨ah _,[],by simp,by simp,by simp⟩
 |t::ts,k,a0,fe,st,o,st',h=>by
  unfold i6 at h;obtain⟨o1,st1,h1,h2⟩:=i9 h;obtain⟨_,_,rfl⟩:=ve h1;obtain⟨g1,new,g2,g3,g4⟩:=E8 ts (k+1) _ _ _ _ _ h2;have hl:st.bs.length+1<=st'.bs.length:=(by simpa[la] using g1);have g4':∀e∈new,st.bs.length+1<=e.2/\e.2<st'.bs.length:=fun e he=>by simpa[la] using g4 e he
  refine⟨by omega,([(k:Int)],st.bs.length) ::new,by rw[g2];simp[la],?_,?_⟩
  .simp only[List.map_cons,List.nodup_cons];refine⟨fun hm=>?_,g3⟩;obtain⟨e,he,h3⟩:=List.mem_map.1 hm;have:=(g4' e he).1;omega
  .intro e he;rcases List.mem_cons.1 he with rfl|he
   .exact⟨ah _,by simp only;omega⟩
   .have:=g4' e he;exact⟨by omega,this.2⟩
theorem Hy{l:List (List Int×Nat)}(h:(l.map Prod.snd).Nodup){q r:List Int}{i:Nat}(hi:(q,i)∈l)(hj:(r,i)∈l):q=r:=by
 induction l with
 |nil=>cases hi
 |cons p l ih=>
  simp only[List.map_cons,List.nodup_cons] at h;rcases List.mem_cons.1 hi with h1|h1
  .rcases List.mem_cons.1 hj with h2|h2
   .have:=h1.trans h2.symm;exact congrArg Prod.fst this
   .exact absurd (List.mem_map.2 ⟨_,h2,rfl⟩) (by rw[<-h1] at h;exact h.1)
  .rcases List.mem_cons.1 hj with h2|h2
   .exact absurd (List.mem_map.2 ⟨_,h1,rfl⟩) (by rw[<-h2] at h;exact h.1)
   .exact ih h.2 h1 h2
theorem Dv{ks:List ag}{o:bq}{st:bo}(h:gn ks= .ok (o,st))(hF:∀t∈ks,sv t):st.all.Nodup/\∀i∈st.all,i<st.bs.length/\ln st i≠[]:=by
 unfold gn at h;obtain⟨fe,st1,h1,h2⟩:=i9 h;obtain⟨l1,n1,e1,e2,e3⟩:=E8 ks 0 1 [] Cl fe st1 h1;obtain⟨_,g2,_⟩:=Du ks 0 1 [] Cl fe st1 h1;have e1':st1.ev=n1:=(by rw[e1];rfl);have hid:∀m t,ks[m]? =some t->([((m:Nat):Int)],rO fe t)∈st1.ev/\rO fe t<st1.bs.length:=by intro m t ht;obtain⟨j,h3,h4⟩:=g2 m t ht;have hj:rO fe t=j:=(by unfold rO;rw[h3];rfl);rw[hj];refine⟨by simpa using h4,?_⟩;have:=e3 _ (e1' ▸ h4);exact this.2
 have hN:(ks.map (rO fe)).Nodup:=by refine List.pairwise_iff_getElem.2 fun i j hi hj hij hc=>?_;have hj':j<ks.length:=(by simpa using hj);have hi':i<ks.length:=(by omega);have a1:=(hid i _ (br hi')).1;have a2:=(hid j _ (br hj')).1;have hc':rO fe ks[i]=rO fe ks[j]:=(by simpa using hc);rw[hc'] at a1;rw[e1'] at a1 a2;have:=Hy e2 a1 a2;simp at this;omega
 have hlt:∀t∈ks,rO fe t<st1.bs.length:=fun t ht=>by obtain⟨m,hm⟩:=List.mem_iff_getElem?.1 ht;exact(hid m t hm).2
 obtain⟨new,b1,b2,b3,b4⟩:=Ff fe ks [] [] 0 st1.anew.next o st h2 hF hN hlt;have hev:∀e∈st1.ev,e∈st.ev:=by obtain⟨_,_,new,e1,_⟩:=Dl fe ks [] [] 0 st1.anew.next o st h2 hF;intro e he;rw[e1];exact List.mem_append_left _ he
 have hall:st.all=new:=(by rw[b1];rfl);rw[hall];refine⟨b2,fun i hi=>?_⟩;have hp:∀q,(q,i)∈st.ev->ln st i≠[]:=fun q hq hc=>by have:q∈ln st i:=List.mem_map.2 ⟨(q,i),List.mem_filter.2 ⟨hq,by simp⟩,rfl⟩;rw[hc] at this;cases this
 rcases b3 i hi with h3|⟨h3,h4,q,h5⟩
 .obtain⟨t,ht,rfl⟩:=List.mem_map.1 h3;obtain⟨m,hm⟩:=List.mem_iff_getElem?.1 ht;obtain⟨a1,a2⟩:=hid m t hm;exact⟨fJ a2 b4,hp _ (hev _ a1)⟩
 .exact⟨h4,hp q h5⟩
theorem DH{st:bo}{i:Nat}(h:ln st i≠[]):((cy st i).path,i)∈st.ev/\ln st i=(cy st i).path:: (cy st i).uses:=by
 unfold cy;cases hp:ln st i with
 |nil=>exact absurd hp h
 |cons q l=>refine⟨?_,rfl⟩;have:q∈ln st i:=(by rw[hp];exact List.mem_cons_self ..);obtain⟨e,he,rfl⟩:=List.mem_map.1 this;obtain⟨h1,h2⟩:=List.mem_filter.1 he;have h3:e.2=i:=(by simpa using h2);rw[<-h3];exact h1
theorem FN{ks:List ag}{o:bq}{st:bo}(h:gn ks= .ok (o,st))(hF:∀t∈ks,sv t){i j:Nat}(hi:i∈st.all)(hj:j∈st.all)(he:(cy st i).path=(cy st j).path):i=j:=by have ha:=(Dv h hF).2;have h1:=(DH (ha i hi).2).1;have h2:=(DH (ha j hj).2).1;rw[he] at h1;exact Et (Eo h hF) h1 h2
theorem Di{t:ag}:(gx t).1=0↔t.kind=1/\pi t=true/\∃st,gn t.kids= .ok ([],st):=by
 unfold gx;constructor
 .intro h;split at h
  .cases h
  .rename_i h1;have hk:t.kind=1:=Classical.byContradiction fun hc=>h1 (.inl hc);have hr:pi t=true:=by
    cases hr:pi t with
    |true=>rfl
    |false=>exact absurd (.inr hr) h1
   refine⟨hk,hr,?_⟩;cases hl:gn t.kids with
   |ok r=>obtain⟨o,st⟩:=r;have h2:=hl;unfold gn at h2;obtain⟨fe,st1,h3,h4⟩:=i9 h2;obtain⟨rfl,_⟩:=Dl fe t.kids [] [] 0 _ o st h4 (CP hk hr);exact⟨st,rfl⟩
   |error e=>rw[hl] at h;exact absurd h (look_err hl)
 .rintro⟨h1,h2,st,h3⟩;rw[if_neg (by rintro(h|h);exact h h1;rw[h2] at h;cases h),h3]
where
 look_err {ks:List ag} {e:Nat×Nat} (h:gn ks= .error e):e.1≠0:=by
  have hu:∀{env call n s q a st e},ia env call n s q a st= .error e->e.1≠0:=by
   intro env call n s q a st e h;unfold ia at h;split at h
   .cases h;simp
   .split at h
    .cases h;simp
    .cases h
  have hb:∀{own s q a st e},j5 own s q a st= .error e->e.1≠0:=by
   intro own s q a st e h;unfold j5 at h;split at h
   .cases h;simp
   .cases h
  have ht:∀{r:ix} {f:bq->bo->ix} {e},oo r f= .error e->r= .error e∨∃o st,f o st= .error e:=by
   intro r f e h;unfold oo at h;split at h
   .exact .inr ⟨_,_,h⟩
   .cases h;exact .inl rfl
  have hfn:∀(ts:List ag) (k a0:Nat) (fe:bq) (st:bo) {e},i6 ts k a0 fe st= .error e->e.1≠0:=by
   intro ts;induction ts with
   |nil=>intro k a0 fe st e h;unfold i6 at h;cases h
   |cons t ts ih=>
    intro k a0 fe st e h;unfold i6 at h;rcases ht h with h|⟨o,s1,h⟩
    .exact hb h
    .exact ih _ _ _ _ h
  unfold gn at h;rcases ht h with h|⟨o,s1,h⟩
  .exact hfn _ _ _ _ _ h
  .exact kids_err o ks _ _ _ _ _ h
 node_err (fe:bq):∀(t:ag) (out:List bq) (own:bq) (q:List Int) (st:bo) {e:Nat×Nat},da fe t out own q st= .error e->e.1≠0
  | .node k s x ks,out,own,q,st,e,h=>by
   have hko:∀{r:ix},CR own r= .error e->r= .error e:=by
    intro r h;unfold CR at h;split at h
    .cases h
    .exact h
   have htu:∀{r:Except (Nat×Nat) bo} {f:bo->ix},C2 r f= .error e->r= .error e∨∃st,f st= .error e:=by
    intro r f h;unfold C2 at h;split at h
    .exact .inr ⟨_,h⟩
    .cases h;exact .inl rfl
   have hu:∀{env call n s q a st},ia env call n s q a st= .error e->e.1≠0:=by
    intro env call n s q a st h;unfold ia at h;split at h
    .cases h;simp
    .split at h
     .cases h;simp
     .cases h
   have hb:∀{own s q a st},j5 own s q a st= .error e->e.1≠0:=by
    intro own s q a st h;unfold j5 at h;split at h
    .cases h;simp
    .cases h
   have ht:∀{r:ix} {f:bq->bo->ix},oo r f= .error e->r= .error e∨∃o st,f o st= .error e:=by
    intro r f h;unfold oo at h;split at h
    .exact .inr ⟨_,_,h⟩
    .cases h;exact .inl rfl
   unfold da at h;split at h
   .exact kids_err fe ks _ _ _ _ _ (hko h)
   split at h
   .rcases ht h with h|⟨o,s1,h⟩
    .exact hb h
    .exact kids_err fe ks _ _ _ _ _ h
   split at h
   .exact kids_err fe ks _ _ _ _ _ (hko h)
   split at h
   .split at h
    .cases h;simp
    .rcases ht h with h|⟨o,s1,h⟩
     .exact kids_err fe ks _ _ _ _ _ h
     .exact hb h
   split at h
   .rcases htu h with h|⟨s1,h⟩
    .exact hu h
    .exact kids_err fe ks _ _ _ _ _ h
   split at h
   .rcases htu h with h|⟨s1,h⟩
    .exact hu h
    .exact kids_err fe ks _ _ _ _ _ h
   .exact kids_err fe ks _ _ _ _ _ h
 kids_err (fe:bq):∀(ts:List ag) (out:List bq) (own:bq) (q:List Int) (j:Nat) (st:bo) {e:Nat×Nat},dq fe ts out own q j st= .error e->e.1≠0
  |[],out,own,q,j,st,e,h=>by unfold dq at h;cases h
  |t::ts,out,own,q,j,st,e,h=>by
   unfold dq at h;unfold oo at h;split at h
   .exact kids_err fe ts _ _ _ _ _ h
   .rename_i h1;cases h
    exact node_err fe t _ _ _ _ h1
theorem DF{t:ag}{st:bo}(hk:t.kind=1)(hr:pi t=true)(hl:gn t.kids= .ok ([],st)):i5 t=st.all.map (cy st):=by unfold i5;rw[if_neg (by rw[Di.2 ⟨hk,hr,st,hl⟩];simp),hl]
theorem Nf{α β:Type}{f:α->β}{p:β->Bool}:∀{l:List α} {x:α},x∈l->p (f x)=true->(∀y∈l,p (f y)=true->y=x)->(l.map f).find? p=some (f x)
 |[],x,h,_,_=>by cases h
 |y::l,x,h,hp,hu=>by
  rw[List.map_cons,List.find?_cons];cases hy:p (f y) with
  |true=>rw[hu y (List.mem_cons_self ..) hy]
  |false=>
   simp only;rcases List.mem_cons.1 h with rfl|h
   .rw[hp] at hy;cases hy
   .exact Nf h hp (fun z hz=>hu z (List.mem_cons_of_mem _ hz))
section
open Go.RowKit Go.MapKept Go.ChangeMaps
def ci(w:World)(b:Nat)(l:List (ar×Value)):Prop:=
 ∃es clock,w.heap[b]? =some (.map es clock)/\es.toList.map (fun e=>(e.key,e.val))=l.map (fun p=>(Value.string (sb p.1),p.2))
theorem ci.lt{w:World}{b:Nat}{l:List (ar×Value)}(h:ci w b l):b<w.heap.size:=by obtain⟨es,clock,hb,_⟩:=h;exact(aK.1 hb).1
theorem ci.below{w w':World}{b:Nat}{l:List (ar×Value)}(h:ci w b l)(hb:Below w.heap.size w w'):ci w' b l:=by have hlt:=h.lt;obtain⟨es,clock,hh,e⟩:=h;exact⟨es,clock,(hb.block b hlt).trans hh,e⟩
theorem F4{a b:ar}(h:sb a=sb b):a=b:=by have:=congrArg bl h;simpa[bl,sb] using this
theorem F3(a b:ar):(sb a == sb b)=decide (a=b):=by
 show(a.toArray == b.toArray)=_;by_cases h:a=b
 .subst h;simp
 .simp[h]
theorem DG(s:ByteArray):IsKey .string (.string s):=by simp[IsKey]
theorem Hh{l:List (ar×Value)}{es:Array MapEntry}(h:es.toList.map (fun e=>(e.key,e.val))=l.map (fun p=>(Value.string (sb p.1),p.2))):∀x∈es.toList,IsKey .string x.key:=by intro x hx;have:(x.key,x.val)∈es.toList.map (fun e=>(e.key,e.val)):=List.mem_map.2 ⟨x,hx,rfl⟩;rw[h] at this;obtain⟨p,_,e⟩:=List.mem_map.1 this;injection e with e1 e2;rw[<-e1];exact DG _
theorem ci.insert{P:Program}{t kt e:TypeId}(ht:P.underlying t=some (.map kt e))(hk:P.underlying kt=some .string){w:World}{b:Nat}{l:List (ar×Value)}(h:ci w b l){k:ar}(v:Value)(hn:(l.all fun p=>p.1 != k)=true):∃w',(Instr.mapUpdate t (.map (some b)) (.string (sb k)) v).run P w= .ok () w'/\ci w' b (l++[(k,v)])/\w.grownBy w' (some b):=by
 obtain⟨es,clock,hb,he⟩:=h;have hks:=Hh he;rcases findNow_spec (DG (sb k)) es.toList 0 hks with ⟨h1,_⟩|⟨j,e0,_,h2,h3⟩
 .refine⟨setBlock w b (.map (es.push { key:=.string (sb k),val:=v,born:=clock }) (clock+1)),?_,⟨_,_,heap_setBlock_same hb _,?_⟩,⟨rfl,rfl,rfl,by simp[setBlock],fun i _ hi=>heap_setBlock_other hb _ (fun e=>hi (by rw[e]))⟩⟩
  .simp[Instr.mapUpdate,run_underlying ht,MapKept.run_getObj_map hb,run_checkKey hk (DG _),run_findKey hk h1,MapKept.run_setObj_map _ hb,Result.andThen,setBlock]
  .simp[he]
 .exfalso;have hm:(e0.key,e0.val)∈es.toList.map (fun e=>(e.key,e.val)):=List.mem_map.2 ⟨e0,List.mem_of_getElem? h2,rfl⟩;rw[he] at hm;obtain⟨p,hp,e⟩:=List.mem_map.1 hm;injection e with e1 _;rw[h3] at e1;injection e1 with e1;have:=List.all_eq_true.1 hn p hp;simp at this;exact this (F4 e1)
theorem Nb:∀(es:List MapEntry) (l:List (ar×Value)) (k:ar) (i:Nat),es.map (fun e=>(e.key,e.val))=l.map (fun p=>(Value.string (sb p.1),p.2))->∃r,Instr.findNow .string (.string (sb k)) es i=some r/\r.map (·.2)=l.lookup k
 |[],[],_,_,_=>⟨none,rfl,rfl⟩
 |[],_::_,_,_,h=>by simp at h
 |_::_,[],_,_,h=>by simp at h
 |e::es,p::l,k,i,h=>by
  simp only[List.map_cons,List.cons.injEq,Prod.mk.injEq] at h;obtain⟨⟨h1,h2⟩,h3⟩:=h;obtain⟨q,v⟩:=p;simp only at h1 h2;by_cases hk:k=q
  .subst hk;refine⟨some (i,e.val),?_,?_⟩
   .simp[Instr.findNow,Instr.sameNow,h1,F3]
   .simp[List.lookup,h2]
  .obtain⟨r,hr,hr2⟩:=Nb es l k (i+1) h3;refine⟨r,?_,?_⟩
   .have:(sb k == sb q)=false:=(by rw[F3];simp[hk]);simp[Instr.findNow,Instr.sameNow,h1,this,hr]
   .have:(k == q)=false:=(by simp[hk]);simp[List.lookup,this,hr2]
theorem ci.look{P:Program}{t kt e:TypeId}(ht:P.underlying t=some (.map kt e))(hk:P.underlying kt=some .string){w:World}{b:Nat}{l:List (ar×Value)}(h:ci w b l)(k:ar){z:Value}(hz:(zeroValue e).run P w= .ok z w)(ok:Bool):(Instr.lookup t (.map (some b)) (.string (sb k)) ok).run P w= .ok (if ok then .tuple #[(l.lookup k).getD z,.bool (l.lookup k).isSome] else(l.lookup k).getD z) w:=by
 obtain⟨es,clock,hb,he⟩:=h;obtain⟨r,h1,h2⟩:=Nb es.toList l k 0 he;cases r with
 |none=>rw[<-h2];simp[Instr.lookup,run_underlying ht,MapKept.run_getObj_map hb,run_checkKey hk (DG _),run_findKey hk h1,hz,Result.andThen]
 |some y=>rw[<-h2];simp[Instr.lookup,run_underlying ht,MapKept.run_getObj_map hb,run_checkKey hk (DG _),run_findKey hk h1,Result.andThen]
end
theorem yd(ps:List Int)(os ns:List ag)(pA:Option Addr)(pn pc:Nat)(i j:Int)(f t:ByteArray)(oA:Option Addr)(on oc:Nat)(nA:Option Addr)(nn nc:Nat)(w:World)(hp:cc w ps pA pn pc)(ho:ce w os oA on oc)(hn:ce w ns nA nn nc)(hE:bI w)(hsz:f.size+t.size<=9223372036854775806)(hso:ex 9223372036854775806 os)(hsn:ex 9223372036854775806 ns):Calls Tryz.prog 52 #[.agg #[.int .u8 1,.slice pA pn pc,.int .i64 i,.int .i64 j,.string f,.string t,.slice oA on oc,.slice nA nn nc]] w (ak (ap ⟨1,ps,i,j,bl f,bl t,os,ns⟩) w):=by
 have hb0:Below w.heap.size w (w.alloc (.cells #[.int .u8 1,.slice pA pn pc,.int .i64 i,.int .i64 j,.string f,.string t,.slice oA on oc,.slice nA nn nc] 29)):=(ai _ _).alloc (ah _) _;have HB0:=ab hb0;have HE:=ab (hE.below hb0 (ah _));have HP:=ab (hp.below hb0);have HO:=ab (ho.below hb0);have HN:=ab (hn.below hb0);have HR:=ab (kw ⟨1,ps,i,j,bl f,bl t,os,ns⟩);have HBX:=ab (bw.new (w:=w) (x0:=.int .u8 1) (x1:=.slice pA pn pc) (x2:=.int .i64 i) (x3:=.int .i64 j) (x4:=.string f) (x5:=.string t) (x6:=.slice oA on oc) (x7:=.slice nA nn nc) (T:=29));have HSO:=ab hso;have HSN:=ab hsn;have HLP:Hid (pn=ps.length):=hp.1;have HLO:Hid (on=os.length):=ho.1;have HLN:Hid (nn=ns.length):=hn.1;have hfs:f.size<=9223372036854775806:=(by omega);have hts:t.size<=9223372036854775806:=(by omega);have hpn:pn<=9223372036854775807:=(by have h1:=hp.2.1;have h2:=hp.2.2.1;unfold maxLen at h2;omega);have hon:on<=9223372036854775807:=(by have h1:=ho.2.1;have h2:=ho.2.2.1;unfold maxLen at h2;omega);have hnn:nn<=9223372036854775807:=(by have h1:=hn.2.1;have h2:=hn.2.2.1;unfold maxLen at h2;omega);have hcf:=Dj;clear hb0 hE hp ho hn hso hsn
 go_in
 go_wp2_with fail
 go_quiet (fail)
 go_wp2_with fail;refine(kG ps _ _ _ _ (HP.out.below (bS (ai _ _) _))).mono ?_;rintro e wq ⟨rfl,q1,rfl⟩;cases ha:ps.all aH with
 |false=>have HV:Hid (ap _=false):=HR.out.trans (by simp[aI,aq,aG,aF,ha]);go_wp2_with fail;go_ret;exact ak.intro HV.out.symm (bS HB0.out _)
 |true=>
  go_wp2_with fail;refine(fT i _).mono ?_;rintro e wq ⟨rfl,q2,rfl⟩;cases hi:aH i with
  |false=>have HV:Hid (ap _=false):=HR.out.trans (by simp[aI,aq,aG,aF,ha,hi]);go_wp2_with fail;go_ret;exact ak.intro HV.out.symm (bS HB0.out _)
  |true=>
   go_wp2_with fail;refine(fT j _).mono ?_;rintro e wq ⟨rfl,q3,rfl⟩;cases hj:aH j with
   |false=>have HV:Hid (ap _=false):=HR.out.trans (by simp[aI,aq,aG,aF,ha,hi,hj]);go_wp2_with fail;go_ret;exact ak.intro HV.out.symm (bS HB0.out _)
   |true=>
    cases hi0:(i == 0) with
    |false=>have n_hi0:(i != 0)=true:=(by simpa using hi0);have HV:Hid (ap _=false):=HR.out.trans (by simp[aI,aq,aG,aF,ha,hi,hj,hi0]);go_wp2_with fail;go_ret;exact ak.intro HV.out.symm (bS HB0.out _)
    |true=>
     have q_hi0:(i != 0)=false:=(by simpa using hi0);cases hpe:ps.isEmpty with
     |true=>have pe:((pn:Int) == 0)=true:=(by have e1:=HLP.out;have e2:=List.isEmpty_iff.1 hpe;subst e2;simp at e1;simp[e1]);have HV:Hid (ap _=false):=HR.out.trans (by simp[aI,aq,aG,aF,ha,hi,hj,hi0,hpe]);go_wp2_with fail;go_ret;exact ak.intro HV.out.symm (bS HB0.out _)
     |false=>
      have pe:((pn:Int) == 0)=false:=by
       have e1:=HLP.out;cases ps with
       |nil=>cases hpe
       |cons a l=>simp at e1;simp;omega
      cases hij:(i == j) with
      |false=>have n_hij:(i != j)=true:=(by simpa using hij);have HV:Hid (ap _=false):=HR.out.trans (by simp[aI,aq,aG,aF,ha,hi,hj,hi0,hpe,hij]);go_wp2_with fail;go_ret;exact ak.intro HV.out.symm (bS HB0.out _)
      |true=>
       have q_hij:(i != j)=false:=(by simpa using hij);cases hj0:(j == 0) with
       |false=>have n_hj0:(j != 0)=true:=(by simpa using hj0);have HV:Hid (ap _=false):=HR.out.trans (by simp[aI,aq,aG,aF,ha,hi,hj,hi0,hpe,hij,hj0]);go_wp2_with fail;go_ret;exact ak.intro HV.out.symm (bS HB0.out _)
       |true=>
        have q_hj0:(j != 0)=false:=(by simpa using hj0);go_wp2_with fail;refine(cW f _ (HE.out.below (bS (ai _ _) _) (ah _)) hfs).mono ?_;rintro e w1 ⟨rfl,hb1⟩;have HA1:=ab (af (bS (ai _ _) _) hb1);clear hb1;obtain⟨c0,c1,c2,c3,c4,c5,c6,c7⟩:=HBX.out.below HA1.out;cases hf:be (bl f) with
        |false=>have HV:Hid (ap _=false):=HR.out.trans (by simp[aI,aq,aG,aF,ha,hi,hj,hi0,hpe,hij,hj0,hf]);go_wp2_with fail;go_ret;exact ak.intro HV.out.symm (af HB0.out HA1.out)
        |true=>
         go_wp2_with fail;refine(cW t _ (HE.out.below HA1.out (ah _)) hts).mono ?_;rintro e w2 ⟨rfl,hb2⟩;have HA2:=ab (af HA1.out hb2);clear hb2;clear c0 c1 c2 c3 c4 c5 c6 c7;obtain⟨c0,c1,c2,c3,c4,c5,c6,c7⟩:=HBX.out.below HA2.out;cases ht:be (bl t) with
         |false=>have HV:Hid (ap _=false):=HR.out.trans (by simp[aI,aq,aG,aF,ha,hi,hj,hi0,hpe,hij,hj0,hf,ht]);go_wp2_with fail;go_ret;exact ak.intro HV.out.symm (af HB0.out HA2.out)
         |true=>
          cases hft:(bl f == bl t) with
          |true=>obtain rfl:=fk (by simpa using hft);have HV:Hid (ap _=false):=HR.out.trans (by simp[aI,aq,aG,aF,ha,hi,hj,hi0,hpe,hij,hj0,hf,ht,hft]);go_wp2_with fail;go_ret;exact ak.intro HV.out.symm (af HB0.out HA2.out)
          |false=>
           have e0:(f.toList == t.toList)=false:=fW (by simpa using hft);go_wp2_with fail;refine(eC os _ _ _ _ (HO.out.below HA2.out) HSO.out (HE.out.below HA2.out (ah _))).mono ?_;rintro e w3 ⟨rfl,hb3⟩;have HA3:=ab (af HA2.out hb3);clear hb3;clear c0 c1 c2 c3 c4 c5 c6 c7;obtain⟨c0,c1,c2,c3,c4,c5,c6,c7⟩:=HBX.out.below HA3.out;cases hpo:bR os with
           |true=>have HV:Hid (ap _=false):=HR.out.trans (by simp[aI,aq,aG,aF,ha,hi,hj,hi0,hpe,hij,hj0,hf,ht,hft,hpo]);go_wp2_with fail;go_ret;exact ak.intro HV.out.symm (af HB0.out HA3.out)
           |false=>
            go_wp2_with fail;refine(eC ns _ _ _ _ (HN.out.below HA3.out) HSN.out (HE.out.below HA3.out (ah _))).mono ?_;rintro e w4 ⟨rfl,hb4⟩;have HA4:=ab (af HA3.out hb4);clear hb4;clear c0 c1 c2 c3 c4 c5 c6 c7;obtain⟨c0,c1,c2,c3,c4,c5,c6,c7⟩:=HBX.out.below HA4.out;cases hpn:bR ns with
            |true=>have HV:Hid (ap _=false):=HR.out.trans (by simp[aI,aq,aG,aF,ha,hi,hj,hi0,hpe,hij,hj0,hf,ht,hft,hpo,hpn]);go_wp2_with fail;go_ret;exact ak.intro HV.out.symm (af HB0.out HA4.out)
            |false=>
             cases heo:os.isEmpty with
             |false=>
              have gheo:(0:Int)<on:=by
               have e1:=HLO.out;cases os with
               |nil=>cases heo
               |cons a l=>simp at e1;omega
              have HV:Hid (ap _=false):=HR.out.trans (by simp[aI,aq,aG,aF,ha,hi,hj,hi0,hpe,hij,hj0,hf,ht,hft,hpo,hpn,heo]);go_wp2_with fail;go_ret;exact ak.intro HV.out.symm (af HB0.out HA4.out)
             |true=>
              have gheo:¬(0:Int)<on:=(by have e1:=HLO.out;have e2:=List.isEmpty_iff.1 heo;subst e2;simp at e1;omega);cases hen:ns.isEmpty with
              |false=>
               have ghen:(0:Int)<nn:=by
                have e1:=HLN.out;cases ns with
                |nil=>cases hen
                |cons a l=>simp at e1;omega
               have HV:Hid (ap _=false):=HR.out.trans (by simp[aI,aq,aG,aF,ha,hi,hj,hi0,hpe,hij,hj0,hf,ht,hft,hpo,hpn,heo,hen]);go_wp2_with fail;go_ret;exact ak.intro HV.out.symm (af HB0.out HA4.out)
              |true=>
               have ghen:¬(0:Int)<nn:=(by have e1:=HLN.out;have e2:=List.isEmpty_iff.1 hen;subst e2;simp at e1;omega);have HV:Hid (ap _=true):=HR.out.trans (by simp[aI,aq,aG,aF,ha,hi,hj,hi0,hpe,hij,hj0,hf,ht,hft,hpo,hpn,heo,hen]);go_wp2_with fail
               go_quiet (fail)
               go_wp2;go_ret;exact ak.intro HV.out.symm (bS (af HB0.out HA4.out) _)
theorem ye(ps:List Int)(os ns:List ag)(pA:Option Addr)(pn pc:Nat)(i j:Int)(f t:ByteArray)(oA:Option Addr)(on oc:Nat)(nA:Option Addr)(nn nc:Nat)(w:World)(hp:cc w ps pA pn pc)(ho:ce w os oA on oc)(hn:ce w ns nA nn nc)(hE:bI w)(hsz:f.size+t.size<=9223372036854775806)(hso:ex 9223372036854775806 os)(hsn:ex 9223372036854775806 ns):Calls Tryz.prog 52 #[.agg #[.int .u8 2,.slice pA pn pc,.int .i64 i,.int .i64 j,.string f,.string t,.slice oA on oc,.slice nA nn nc]] w (ak (ap ⟨2,ps,i,j,bl f,bl t,os,ns⟩) w):=by
 have hb0:Below w.heap.size w (w.alloc (.cells #[.int .u8 2,.slice pA pn pc,.int .i64 i,.int .i64 j,.string f,.string t,.slice oA on oc,.slice nA nn nc] 29)):=(ai _ _).alloc (ah _) _;have HB0:=ab hb0;have HE:=ab (hE.below hb0 (ah _));have HP:=ab (hp.below hb0);have HO:=ab (ho.below hb0);have HN:=ab (hn.below hb0);have HR:=ab (kw ⟨2,ps,i,j,bl f,bl t,os,ns⟩);have HBX:=ab (bw.new (w:=w) (x0:=.int .u8 2) (x1:=.slice pA pn pc) (x2:=.int .i64 i) (x3:=.int .i64 j) (x4:=.string f) (x5:=.string t) (x6:=.slice oA on oc) (x7:=.slice nA nn nc) (T:=29));have HSO:=ab hso;have HSN:=ab hsn;have HLP:Hid (pn=ps.length):=hp.1;have HLO:Hid (on=os.length):=ho.1;have HLN:Hid (nn=ns.length):=hn.1;have hfs:f.size<=9223372036854775806:=(by omega);have hts:t.size<=9223372036854775806:=(by omega);have hpn:pn<=9223372036854775807:=(by have h1:=hp.2.1;have h2:=hp.2.2.1;unfold maxLen at h2;omega);have hon:on<=9223372036854775807:=(by have h1:=ho.2.1;have h2:=ho.2.2.1;unfold maxLen at h2;omega);have hnn:nn<=9223372036854775807:=(by have h1:=hn.2.1;have h2:=hn.2.2.1;unfold maxLen at h2;omega);have hcf:=Dj;clear hb0 hE hp ho hn hso hsn
 go_in
 go_wp2_with fail
 go_quiet (fail)
 go_wp2_with fail;refine(kG ps _ _ _ _ (HP.out.below (bS (ai _ _) _))).mono ?_;rintro e wq ⟨rfl,q1,rfl⟩;cases ha:ps.all aH with
 |false=>have HV:Hid (ap _=false):=HR.out.trans (by simp[aI,aq,aG,aF,ha]);go_wp2_with fail;go_ret;exact ak.intro HV.out.symm (bS HB0.out _)
 |true=>
  go_wp2_with fail;refine(fT i _).mono ?_;rintro e wq ⟨rfl,q2,rfl⟩;cases hi:aH i with
  |false=>have HV:Hid (ap _=false):=HR.out.trans (by simp[aI,aq,aG,aF,ha,hi]);go_wp2_with fail;go_ret;exact ak.intro HV.out.symm (bS HB0.out _)
  |true=>
   go_wp2_with fail;refine(fT j _).mono ?_;rintro e wq ⟨rfl,q3,rfl⟩;cases hj:aH j with
   |false=>have HV:Hid (ap _=false):=HR.out.trans (by simp[aI,aq,aG,aF,ha,hi,hj]);go_wp2_with fail;go_ret;exact ak.intro HV.out.symm (bS HB0.out _)
   |true=>
    cases hij:(i == j) with
    |false=>
     have n_hij:(i != j)=true:=(by simpa using hij);cases hj0:(j == 0) with
     |false=>have n_hj0:(j != 0)=true:=(by simpa using hj0);have HV:Hid (ap _=false):=HR.out.trans (by simp[aI,aq,aG,aF,ha,hi,hj,hij,hj0]);go_wp2_with fail;go_ret;exact ak.intro HV.out.symm (bS HB0.out _)
     |true=>
      have q_hj0:(j != 0)=false:=(by simpa using hj0);go_wp2_with fail;cases hem:(bl f++bl t).isEmpty with
      |false=>
       have hne:(!(f++t).toList.isEmpty)=true:=(by rw[bG,eS,hem];rfl);refine(cW f _ (HE.out.below (bS (ai _ _) _) (ah _)) hfs).mono ?_;rintro e w1 ⟨rfl,hb1⟩;have HA1:=ab (af (bS (ai _ _) _) hb1);clear hb1;obtain⟨c0,c1,c2,c3,c4,c5,c6,c7⟩:=HBX.out.below HA1.out;cases hf:be (bl f) with
       |false=>have HV:Hid (ap _=false):=HR.out.trans (by simp[aI,aq,aG,aF,ha,hi,hj,hij,hj0,hem,hf]);go_wp2_with fail;go_ret;exact ak.intro HV.out.symm (af HB0.out HA1.out)
       |true=>
        go_wp2_with fail;refine(cW t _ (HE.out.below HA1.out (ah _)) hts).mono ?_;rintro e w2 ⟨rfl,hb2⟩;have HA2:=ab (af HA1.out hb2);clear hb2;clear c0 c1 c2 c3 c4 c5 c6 c7;obtain⟨c0,c1,c2,c3,c4,c5,c6,c7⟩:=HBX.out.below HA2.out;cases ht:be (bl t) with
        |false=>have HV:Hid (ap _=false):=HR.out.trans (by simp[aI,aq,aG,aF,ha,hi,hj,hij,hj0,hem,hf,ht]);go_wp2_with fail;go_ret;exact ak.intro HV.out.symm (af HB0.out HA2.out)
        |true=>
         cases hft:(bl f == bl t) with
         |true=>obtain rfl:=fk (by simpa using hft);have HV:Hid (ap _=false):=HR.out.trans (by simp[aI,aq,aG,aF,ha,hi,hj,hij,hj0,hem,hf,ht,hft]);go_wp2_with fail;go_ret;exact ak.intro HV.out.symm (af HB0.out HA2.out)
         |false=>have e0:(f.toList == t.toList)=false:=fW (by simpa using hft);have HV:Hid (ap _=false):=HR.out.trans (by simp[aI,aq,aG,aF,ha,hi,hj,hij,hj0,hem,hf,ht,hft]);go_wp2_with fail;go_ret;exact ak.intro HV.out.symm (af HB0.out HA2.out)
      |true=>
       have hee:(!(f++t).toList.isEmpty)=false:=(by rw[bG,eS,hem];rfl);have hf0:be (bl f)=false:=(by rw[(List.append_eq_nil_iff.1 (List.isEmpty_iff.1 hem)).1];rfl);refine(cW f _ (HE.out.below (bS (ai _ _) _) (ah _)) hfs).mono ?_;rintro e w1 ⟨rfl,hb1⟩;have HA1:=ab (af (bS (ai _ _) _) hb1);clear hb1;obtain⟨c0,c1,c2,c3,c4,c5,c6,c7⟩:=HBX.out.below HA1.out;rw[hf0];go_wp2_with fail;refine(eC os _ _ _ _ (HO.out.below HA1.out) HSO.out (HE.out.below HA1.out (ah _))).mono ?_;rintro e w2 ⟨rfl,hb2⟩;have HA2:=ab (af HA1.out hb2);clear hb2;clear c0 c1 c2 c3 c4 c5 c6 c7;obtain⟨c0,c1,c2,c3,c4,c5,c6,c7⟩:=HBX.out.below HA2.out;cases hpo:bR os with
       |true=>have HV:Hid (ap _=false):=HR.out.trans (by simp[aI,aq,aG,aF,ha,hi,hj,hij,hj0,hem,hf0,hpo]);go_wp2_with fail;go_ret;exact ak.intro HV.out.symm (af HB0.out HA2.out)
       |false=>
        go_wp2_with fail;refine(eC ns _ _ _ _ (HN.out.below HA2.out) HSN.out (HE.out.below HA2.out (ah _))).mono ?_;rintro e w3 ⟨rfl,hb3⟩;have HA3:=ab (af HA2.out hb3);clear hb3;clear c0 c1 c2 c3 c4 c5 c6 c7;obtain⟨c0,c1,c2,c3,c4,c5,c6,c7⟩:=HBX.out.below HA3.out;cases hpn:bR ns with
        |false=>have HV:Hid (ap _=false):=HR.out.trans (by simp[aI,aq,aG,aF,ha,hi,hj,hij,hj0,hem,hf0,hpo,hpn]);go_wp2_with fail;go_ret;exact ak.intro HV.out.symm (af HB0.out HA3.out)
        |true=>
         cases heo:os.isEmpty with
         |false=>
          have gheo:(0:Int)<on:=by
           have e1:=HLO.out;cases os with
           |nil=>cases heo
           |cons a l=>simp at e1;omega
          have HV:Hid (ap _=false):=HR.out.trans (by simp[aI,aq,aG,aF,ha,hi,hj,hij,hj0,hem,hf0,hpo,hpn,heo]);go_wp2_with fail;go_ret;exact ak.intro HV.out.symm (af HB0.out HA3.out)
         |true=>
          have gheo:¬(0:Int)<on:=(by have e1:=HLO.out;have e2:=List.isEmpty_iff.1 heo;subst e2;simp at e1;omega);have HV:Hid (ap _=true):=HR.out.trans (by simp[aI,aq,aG,aF,ha,hi,hj,hij,hj0,hem,hf0,hpo,hpn,heo]);go_wp2_with fail
          go_quiet (fail)
          go_wp2;go_ret;exact ak.intro HV.out.symm (bS (af HB0.out HA3.out) _)
    |true=>
     have q_hij:(i != j)=false:=(by simpa using hij);cases hj0:(j == 0) with
     |false=>have n_hj0:(j != 0)=true:=(by simpa using hj0);have HV:Hid (ap _=false):=HR.out.trans (by simp[aI,aq,aG,aF,ha,hi,hj,hij,hj0]);go_wp2_with fail;go_ret;exact ak.intro HV.out.symm (bS HB0.out _)
     |true=>
      have q_hj0:(j != 0)=false:=(by simpa using hj0);go_wp2_with fail;cases hem:(bl f++bl t).isEmpty with
      |false=>
       have hne:(!(f++t).toList.isEmpty)=true:=(by rw[bG,eS,hem];rfl);refine(cW f _ (HE.out.below (bS (ai _ _) _) (ah _)) hfs).mono ?_;rintro e w1 ⟨rfl,hb1⟩;have HA1:=ab (af (bS (ai _ _) _) hb1);clear hb1;obtain⟨c0,c1,c2,c3,c4,c5,c6,c7⟩:=HBX.out.below HA1.out;cases hf:be (bl f) with
       |false=>have HV:Hid (ap _=false):=HR.out.trans (by simp[aI,aq,aG,aF,ha,hi,hj,hij,hj0,hem,hf]);go_wp2_with fail;go_ret;exact ak.intro HV.out.symm (af HB0.out HA1.out)
       |true=>
        go_wp2_with fail;refine(cW t _ (HE.out.below HA1.out (ah _)) hts).mono ?_;rintro e w2 ⟨rfl,hb2⟩;have HA2:=ab (af HA1.out hb2);clear hb2;clear c0 c1 c2 c3 c4 c5 c6 c7;obtain⟨c0,c1,c2,c3,c4,c5,c6,c7⟩:=HBX.out.below HA2.out;cases ht:be (bl t) with
        |false=>have HV:Hid (ap _=false):=HR.out.trans (by simp[aI,aq,aG,aF,ha,hi,hj,hij,hj0,hem,hf,ht]);go_wp2_with fail;go_ret;exact ak.intro HV.out.symm (af HB0.out HA2.out)
        |true=>
         cases hft:(bl f == bl t) with
         |true=>obtain rfl:=fk (by simpa using hft);have HV:Hid (ap _=false):=HR.out.trans (by simp[aI,aq,aG,aF,ha,hi,hj,hij,hj0,hem,hf,ht,hft]);go_wp2_with fail;go_ret;exact ak.intro HV.out.symm (af HB0.out HA2.out)
         |false=>have e0:(f.toList == t.toList)=false:=fW (by simpa using hft);have HV:Hid (ap _=false):=HR.out.trans (by simp[aI,aq,aG,aF,ha,hi,hj,hij,hj0,hem,hf,ht,hft]);go_wp2_with fail;go_ret;exact ak.intro HV.out.symm (af HB0.out HA2.out)
      |true=>
       have hee:(!(f++t).toList.isEmpty)=false:=(by rw[bG,eS,hem];rfl);have hf0:be (bl f)=false:=(by rw[(List.append_eq_nil_iff.1 (List.isEmpty_iff.1 hem)).1];rfl);refine(cW f _ (HE.out.below (bS (ai _ _) _) (ah _)) hfs).mono ?_;rintro e w1 ⟨rfl,hb1⟩;have HA1:=ab (af (bS (ai _ _) _) hb1);clear hb1;obtain⟨c0,c1,c2,c3,c4,c5,c6,c7⟩:=HBX.out.below HA1.out;rw[hf0];go_wp2_with fail;refine(eC os _ _ _ _ (HO.out.below HA1.out) HSO.out (HE.out.below HA1.out (ah _))).mono ?_;rintro e w2 ⟨rfl,hb2⟩;have HA2:=ab (af HA1.out hb2);clear hb2;clear c0 c1 c2 c3 c4 c5 c6 c7;obtain⟨c0,c1,c2,c3,c4,c5,c6,c7⟩:=HBX.out.below HA2.out;cases hpo:bR os with
       |true=>have HV:Hid (ap _=false):=HR.out.trans (by simp[aI,aq,aG,aF,ha,hi,hj,hij,hj0,hem,hf0,hpo]);go_wp2_with fail;go_ret;exact ak.intro HV.out.symm (af HB0.out HA2.out)
       |false=>
        go_wp2_with fail;refine(eC ns _ _ _ _ (HN.out.below HA2.out) HSN.out (HE.out.below HA2.out (ah _))).mono ?_;rintro e w3 ⟨rfl,hb3⟩;have HA3:=ab (af HA2.out hb3);clear hb3;clear c0 c1 c2 c3 c4 c5 c6 c7;obtain⟨c0,c1,c2,c3,c4,c5,c6,c7⟩:=HBX.out.below HA3.out;cases hpn:bR ns with
        |false=>have HV:Hid (ap _=false):=HR.out.trans (by simp[aI,aq,aG,aF,ha,hi,hj,hij,hj0,hem,hf0,hpo,hpn]);go_wp2_with fail;go_ret;exact ak.intro HV.out.symm (af HB0.out HA3.out)
        |true=>
         cases heo:os.isEmpty with
         |false=>
          have gheo:(0:Int)<on:=by
           have e1:=HLO.out;cases os with
           |nil=>cases heo
           |cons a l=>simp at e1;omega
          have HV:Hid (ap _=false):=HR.out.trans (by simp[aI,aq,aG,aF,ha,hi,hj,hij,hj0,hem,hf0,hpo,hpn,heo]);go_wp2_with fail;go_ret;exact ak.intro HV.out.symm (af HB0.out HA3.out)
         |true=>
          have gheo:¬(0:Int)<on:=(by have e1:=HLO.out;have e2:=List.isEmpty_iff.1 heo;subst e2;simp at e1;omega);have HV:Hid (ap _=true):=HR.out.trans (by simp[aI,aq,aG,aF,ha,hi,hj,hij,hj0,hem,hf0,hpo,hpn,heo]);go_wp2_with fail
          go_quiet (fail)
          go_wp2;go_ret;exact ak.intro HV.out.symm (bS (af HB0.out HA3.out) _)
theorem yf(ps:List Int)(os ns:List ag)(pA:Option Addr)(pn pc:Nat)(i j:Int)(f t:ByteArray)(oA:Option Addr)(on oc:Nat)(nA:Option Addr)(nn nc:Nat)(w:World)(hp:cc w ps pA pn pc)(ho:ce w os oA on oc)(hn:ce w ns nA nn nc)(hE:bI w)(hsz:f.size+t.size<=9223372036854775806)(hso:ex 9223372036854775806 os)(hsn:ex 9223372036854775806 ns):Calls Tryz.prog 52 #[.agg #[.int .u8 3,.slice pA pn pc,.int .i64 i,.int .i64 j,.string f,.string t,.slice oA on oc,.slice nA nn nc]] w (ak (ap ⟨3,ps,i,j,bl f,bl t,os,ns⟩) w):=by
 have hb0:Below w.heap.size w (w.alloc (.cells #[.int .u8 3,.slice pA pn pc,.int .i64 i,.int .i64 j,.string f,.string t,.slice oA on oc,.slice nA nn nc] 29)):=(ai _ _).alloc (ah _) _;have HB0:=ab hb0;have HE:=ab (hE.below hb0 (ah _));have HP:=ab (hp.below hb0);have HO:=ab (ho.below hb0);have HN:=ab (hn.below hb0);have HR:=ab (kw ⟨3,ps,i,j,bl f,bl t,os,ns⟩);have HBX:=ab (bw.new (w:=w) (x0:=.int .u8 3) (x1:=.slice pA pn pc) (x2:=.int .i64 i) (x3:=.int .i64 j) (x4:=.string f) (x5:=.string t) (x6:=.slice oA on oc) (x7:=.slice nA nn nc) (T:=29));have HSO:=ab hso;have HSN:=ab hsn;have HLP:Hid (pn=ps.length):=hp.1;have HLO:Hid (on=os.length):=ho.1;have HLN:Hid (nn=ns.length):=hn.1;have hfs:f.size<=9223372036854775806:=(by omega);have hts:t.size<=9223372036854775806:=(by omega);have hpn:pn<=9223372036854775807:=(by have h1:=hp.2.1;have h2:=hp.2.2.1;unfold maxLen at h2;omega);have hon:on<=9223372036854775807:=(by have h1:=ho.2.1;have h2:=ho.2.2.1;unfold maxLen at h2;omega);have hnn:nn<=9223372036854775807:=(by have h1:=hn.2.1;have h2:=hn.2.2.1;unfold maxLen at h2;omega);have hcf:=Dj;clear hb0 hE hp ho hn hso hsn
 go_in
 go_wp2_with fail
 go_quiet (fail)
 go_wp2_with fail;refine(kG ps _ _ _ _ (HP.out.below (bS (ai _ _) _))).mono ?_;rintro e wq ⟨rfl,q1,rfl⟩;cases ha:ps.all aH with
 |false=>have HV:Hid (ap _=false):=HR.out.trans (by simp[aI,aq,aG,aF,ha]);go_wp2_with fail;go_ret;exact ak.intro HV.out.symm (bS HB0.out _)
 |true=>
  go_wp2_with fail;refine(fT i _).mono ?_;rintro e wq ⟨rfl,q2,rfl⟩;cases hi:aH i with
  |false=>have HV:Hid (ap _=false):=HR.out.trans (by simp[aI,aq,aG,aF,ha,hi]);go_wp2_with fail;go_ret;exact ak.intro HV.out.symm (bS HB0.out _)
  |true=>
   go_wp2_with fail;refine(fT j _).mono ?_;rintro e wq ⟨rfl,q3,rfl⟩;cases hj:aH j with
   |false=>have HV:Hid (ap _=false):=HR.out.trans (by simp[aI,aq,aG,aF,ha,hi,hj]);go_wp2_with fail;go_ret;exact ak.intro HV.out.symm (bS HB0.out _)
   |true=>
    cases hij:(i == j) with
    |false=>
     have n_hij:(i != j)=true:=(by simpa using hij);cases hj0:(j == 0) with
     |false=>have n_hj0:(j != 0)=true:=(by simpa using hj0);have HV:Hid (ap _=false):=HR.out.trans (by simp[aI,aq,aG,aF,ha,hi,hj,hij,hj0]);go_wp2_with fail;go_ret;exact ak.intro HV.out.symm (bS HB0.out _)
     |true=>
      have q_hj0:(j != 0)=false:=(by simpa using hj0);go_wp2_with fail;cases hem:(bl f++bl t).isEmpty with
      |false=>
       have hne:(!(f++t).toList.isEmpty)=true:=(by rw[bG,eS,hem];rfl);refine(cW f _ (HE.out.below (bS (ai _ _) _) (ah _)) hfs).mono ?_;rintro e w1 ⟨rfl,hb1⟩;have HA1:=ab (af (bS (ai _ _) _) hb1);clear hb1;obtain⟨c0,c1,c2,c3,c4,c5,c6,c7⟩:=HBX.out.below HA1.out;cases hf:be (bl f) with
       |false=>have HV:Hid (ap _=false):=HR.out.trans (by simp[aI,aq,aG,aF,ha,hi,hj,hij,hj0,hem,hf]);go_wp2_with fail;go_ret;exact ak.intro HV.out.symm (af HB0.out HA1.out)
       |true=>
        go_wp2_with fail;refine(cW t _ (HE.out.below HA1.out (ah _)) hts).mono ?_;rintro e w2 ⟨rfl,hb2⟩;have HA2:=ab (af HA1.out hb2);clear hb2;clear c0 c1 c2 c3 c4 c5 c6 c7;obtain⟨c0,c1,c2,c3,c4,c5,c6,c7⟩:=HBX.out.below HA2.out;cases ht:be (bl t) with
        |false=>have HV:Hid (ap _=false):=HR.out.trans (by simp[aI,aq,aG,aF,ha,hi,hj,hij,hj0,hem,hf,ht]);go_wp2_with fail;go_ret;exact ak.intro HV.out.symm (af HB0.out HA2.out)
        |true=>
         cases hft:(bl f == bl t) with
         |true=>obtain rfl:=fk (by simpa using hft);have HV:Hid (ap _=false):=HR.out.trans (by simp[aI,aq,aG,aF,ha,hi,hj,hij,hj0,hem,hf,ht,hft]);go_wp2_with fail;go_ret;exact ak.intro HV.out.symm (af HB0.out HA2.out)
         |false=>have e0:(f.toList == t.toList)=false:=fW (by simpa using hft);have HV:Hid (ap _=false):=HR.out.trans (by simp[aI,aq,aG,aF,ha,hi,hj,hij,hj0,hem,hf,ht,hft]);go_wp2_with fail;go_ret;exact ak.intro HV.out.symm (af HB0.out HA2.out)
      |true=>
       have hee:(!(f++t).toList.isEmpty)=false:=(by rw[bG,eS,hem];rfl);have hf0:be (bl f)=false:=(by rw[(List.append_eq_nil_iff.1 (List.isEmpty_iff.1 hem)).1];rfl);refine(cW f _ (HE.out.below (bS (ai _ _) _) (ah _)) hfs).mono ?_;rintro e w1 ⟨rfl,hb1⟩;have HA1:=ab (af (bS (ai _ _) _) hb1);clear hb1;obtain⟨c0,c1,c2,c3,c4,c5,c6,c7⟩:=HBX.out.below HA1.out;rw[hf0];go_wp2_with fail;refine(eC os _ _ _ _ (HO.out.below HA1.out) HSO.out (HE.out.below HA1.out (ah _))).mono ?_;rintro e w2 ⟨rfl,hb2⟩;have HA2:=ab (af HA1.out hb2);clear hb2;clear c0 c1 c2 c3 c4 c5 c6 c7;obtain⟨c0,c1,c2,c3,c4,c5,c6,c7⟩:=HBX.out.below HA2.out;cases hpo:bR os with
       |false=>have HV:Hid (ap _=false):=HR.out.trans (by simp[aI,aq,aG,aF,ha,hi,hj,hij,hj0,hem,hf0,hpo]);go_wp2_with fail;go_ret;exact ak.intro HV.out.symm (af HB0.out HA2.out)
       |true=>
        go_wp2_with fail;refine(eC ns _ _ _ _ (HN.out.below HA2.out) HSN.out (HE.out.below HA2.out (ah _))).mono ?_;rintro e w3 ⟨rfl,hb3⟩;have HA3:=ab (af HA2.out hb3);clear hb3;clear c0 c1 c2 c3 c4 c5 c6 c7;obtain⟨c0,c1,c2,c3,c4,c5,c6,c7⟩:=HBX.out.below HA3.out;cases hpn:bR ns with
        |true=>have HV:Hid (ap _=false):=HR.out.trans (by simp[aI,aq,aG,aF,ha,hi,hj,hij,hj0,hem,hf0,hpo,hpn]);go_wp2_with fail;go_ret;exact ak.intro HV.out.symm (af HB0.out HA3.out)
        |false=>
         cases hen:ns.isEmpty with
         |false=>
          have ghen:(0:Int)<nn:=by
           have e1:=HLN.out;cases ns with
           |nil=>cases hen
           |cons a l=>simp at e1;omega
          have HV:Hid (ap _=false):=HR.out.trans (by simp[aI,aq,aG,aF,ha,hi,hj,hij,hj0,hem,hf0,hpo,hpn,hen]);go_wp2_with fail;go_ret;exact ak.intro HV.out.symm (af HB0.out HA3.out)
         |true=>
          have ghen:¬(0:Int)<nn:=(by have e1:=HLN.out;have e2:=List.isEmpty_iff.1 hen;subst e2;simp at e1;omega);have HV:Hid (ap _=true):=HR.out.trans (by simp[aI,aq,aG,aF,ha,hi,hj,hij,hj0,hem,hf0,hpo,hpn,hen]);go_wp2_with fail
          go_quiet (fail)
          go_wp2;go_ret;exact ak.intro HV.out.symm (bS (af HB0.out HA3.out) _)
    |true=>
     have q_hij:(i != j)=false:=(by simpa using hij);cases hj0:(j == 0) with
     |false=>have n_hj0:(j != 0)=true:=(by simpa using hj0);have HV:Hid (ap _=false):=HR.out.trans (by simp[aI,aq,aG,aF,ha,hi,hj,hij,hj0]);go_wp2_with fail;go_ret;exact ak.intro HV.out.symm (bS HB0.out _)
     |true=>
      have q_hj0:(j != 0)=false:=(by simpa using hj0);go_wp2_with fail;cases hem:(bl f++bl t).isEmpty with
      |false=>
       have hne:(!(f++t).toList.isEmpty)=true:=(by rw[bG,eS,hem];rfl);refine(cW f _ (HE.out.below (bS (ai _ _) _) (ah _)) hfs).mono ?_;rintro e w1 ⟨rfl,hb1⟩;have HA1:=ab (af (bS (ai _ _) _) hb1);clear hb1;obtain⟨c0,c1,c2,c3,c4,c5,c6,c7⟩:=HBX.out.below HA1.out;cases hf:be (bl f) with
       |false=>have HV:Hid (ap _=false):=HR.out.trans (by simp[aI,aq,aG,aF,ha,hi,hj,hij,hj0,hem,hf]);go_wp2_with fail;go_ret;exact ak.intro HV.out.symm (af HB0.out HA1.out)
       |true=>
        go_wp2_with fail;refine(cW t _ (HE.out.below HA1.out (ah _)) hts).mono ?_;rintro e w2 ⟨rfl,hb2⟩;have HA2:=ab (af HA1.out hb2);clear hb2;clear c0 c1 c2 c3 c4 c5 c6 c7;obtain⟨c0,c1,c2,c3,c4,c5,c6,c7⟩:=HBX.out.below HA2.out;cases ht:be (bl t) with
        |false=>have HV:Hid (ap _=false):=HR.out.trans (by simp[aI,aq,aG,aF,ha,hi,hj,hij,hj0,hem,hf,ht]);go_wp2_with fail;go_ret;exact ak.intro HV.out.symm (af HB0.out HA2.out)
        |true=>
         cases hft:(bl f == bl t) with
         |true=>obtain rfl:=fk (by simpa using hft);have HV:Hid (ap _=false):=HR.out.trans (by simp[aI,aq,aG,aF,ha,hi,hj,hij,hj0,hem,hf,ht,hft]);go_wp2_with fail;go_ret;exact ak.intro HV.out.symm (af HB0.out HA2.out)
         |false=>have e0:(f.toList == t.toList)=false:=fW (by simpa using hft);have HV:Hid (ap _=false):=HR.out.trans (by simp[aI,aq,aG,aF,ha,hi,hj,hij,hj0,hem,hf,ht,hft]);go_wp2_with fail;go_ret;exact ak.intro HV.out.symm (af HB0.out HA2.out)
      |true=>
       have hee:(!(f++t).toList.isEmpty)=false:=(by rw[bG,eS,hem];rfl);have hf0:be (bl f)=false:=(by rw[(List.append_eq_nil_iff.1 (List.isEmpty_iff.1 hem)).1];rfl);refine(cW f _ (HE.out.below (bS (ai _ _) _) (ah _)) hfs).mono ?_;rintro e w1 ⟨rfl,hb1⟩;have HA1:=ab (af (bS (ai _ _) _) hb1);clear hb1;obtain⟨c0,c1,c2,c3,c4,c5,c6,c7⟩:=HBX.out.below HA1.out;rw[hf0];go_wp2_with fail;refine(eC os _ _ _ _ (HO.out.below HA1.out) HSO.out (HE.out.below HA1.out (ah _))).mono ?_;rintro e w2 ⟨rfl,hb2⟩;have HA2:=ab (af HA1.out hb2);clear hb2;clear c0 c1 c2 c3 c4 c5 c6 c7;obtain⟨c0,c1,c2,c3,c4,c5,c6,c7⟩:=HBX.out.below HA2.out;cases hpo:bR os with
       |false=>have HV:Hid (ap _=false):=HR.out.trans (by simp[aI,aq,aG,aF,ha,hi,hj,hij,hj0,hem,hf0,hpo]);go_wp2_with fail;go_ret;exact ak.intro HV.out.symm (af HB0.out HA2.out)
       |true=>
        go_wp2_with fail;refine(eC ns _ _ _ _ (HN.out.below HA2.out) HSN.out (HE.out.below HA2.out (ah _))).mono ?_;rintro e w3 ⟨rfl,hb3⟩;have HA3:=ab (af HA2.out hb3);clear hb3;clear c0 c1 c2 c3 c4 c5 c6 c7;obtain⟨c0,c1,c2,c3,c4,c5,c6,c7⟩:=HBX.out.below HA3.out;cases hpn:bR ns with
        |true=>have HV:Hid (ap _=false):=HR.out.trans (by simp[aI,aq,aG,aF,ha,hi,hj,hij,hj0,hem,hf0,hpo,hpn]);go_wp2_with fail;go_ret;exact ak.intro HV.out.symm (af HB0.out HA3.out)
        |false=>
         cases hen:ns.isEmpty with
         |false=>
          have ghen:(0:Int)<nn:=by
           have e1:=HLN.out;cases ns with
           |nil=>cases hen
           |cons a l=>simp at e1;omega
          have HV:Hid (ap _=false):=HR.out.trans (by simp[aI,aq,aG,aF,ha,hi,hj,hij,hj0,hem,hf0,hpo,hpn,hen]);go_wp2_with fail;go_ret;exact ak.intro HV.out.symm (af HB0.out HA3.out)
         |true=>
          have ghen:¬(0:Int)<nn:=(by have e1:=HLN.out;have e2:=List.isEmpty_iff.1 hen;subst e2;simp at e1;omega);have HV:Hid (ap _=true):=HR.out.trans (by simp[aI,aq,aG,aF,ha,hi,hj,hij,hj0,hem,hf0,hpo,hpn,hen]);go_wp2_with fail
          go_quiet (fail)
          go_wp2;go_ret;exact ak.intro HV.out.symm (bS (af HB0.out HA3.out) _)
theorem yg(ps:List Int)(os ns:List ag)(pA:Option Addr)(pn pc:Nat)(i j:Int)(f t:ByteArray)(oA:Option Addr)(on oc:Nat)(nA:Option Addr)(nn nc:Nat)(w:World)(hp:cc w ps pA pn pc)(ho:ce w os oA on oc)(hn:ce w ns nA nn nc)(hE:bI w)(hsz:f.size+t.size<=9223372036854775806)(hso:ex 9223372036854775806 os)(hsn:ex 9223372036854775806 ns):Calls Tryz.prog 52 #[.agg #[.int .u8 4,.slice pA pn pc,.int .i64 i,.int .i64 j,.string f,.string t,.slice oA on oc,.slice nA nn nc]] w (ak (ap ⟨4,ps,i,j,bl f,bl t,os,ns⟩) w):=by
 have hb0:Below w.heap.size w (w.alloc (.cells #[.int .u8 4,.slice pA pn pc,.int .i64 i,.int .i64 j,.string f,.string t,.slice oA on oc,.slice nA nn nc] 29)):=(ai _ _).alloc (ah _) _;have HB0:=ab hb0;have HE:=ab (hE.below hb0 (ah _));have HP:=ab (hp.below hb0);have HO:=ab (ho.below hb0);have HN:=ab (hn.below hb0);have HR:=ab (kw ⟨4,ps,i,j,bl f,bl t,os,ns⟩);have HBX:=ab (bw.new (w:=w) (x0:=.int .u8 4) (x1:=.slice pA pn pc) (x2:=.int .i64 i) (x3:=.int .i64 j) (x4:=.string f) (x5:=.string t) (x6:=.slice oA on oc) (x7:=.slice nA nn nc) (T:=29));have HSO:=ab hso;have HSN:=ab hsn;have HLP:Hid (pn=ps.length):=hp.1;have HLO:Hid (on=os.length):=ho.1;have HLN:Hid (nn=ns.length):=hn.1;have hfs:f.size<=9223372036854775806:=(by omega);have hts:t.size<=9223372036854775806:=(by omega);have hpn:pn<=9223372036854775807:=(by have h1:=hp.2.1;have h2:=hp.2.2.1;unfold maxLen at h2;omega);have hon:on<=9223372036854775807:=(by have h1:=ho.2.1;have h2:=ho.2.2.1;unfold maxLen at h2;omega);have hnn:nn<=9223372036854775807:=(by have h1:=hn.2.1;have h2:=hn.2.2.1;unfold maxLen at h2;omega);have hcf:=Dj;clear hb0 hE hp ho hn hso hsn
 go_in
 go_wp2_with fail
 go_quiet (fail)
 go_wp2_with fail;refine(kG ps _ _ _ _ (HP.out.below (bS (ai _ _) _))).mono ?_;rintro e wq ⟨rfl,q1,rfl⟩;cases ha:ps.all aH with
 |false=>have HV:Hid (ap _=false):=HR.out.trans (by simp[aI,aq,aG,aF,ha]);go_wp2_with fail;go_ret;exact ak.intro HV.out.symm (bS HB0.out _)
 |true=>
  go_wp2_with fail;refine(fT i _).mono ?_;rintro e wq ⟨rfl,q2,rfl⟩;cases hi:aH i with
  |false=>have HV:Hid (ap _=false):=HR.out.trans (by simp[aI,aq,aG,aF,ha,hi]);go_wp2_with fail;go_ret;exact ak.intro HV.out.symm (bS HB0.out _)
  |true=>
   go_wp2_with fail;refine(fT j _).mono ?_;rintro e wq ⟨rfl,q3,rfl⟩;cases hj:aH j with
   |false=>have HV:Hid (ap _=false):=HR.out.trans (by simp[aI,aq,aG,aF,ha,hi,hj]);go_wp2_with fail;go_ret;exact ak.intro HV.out.symm (bS HB0.out _)
   |true=>
    cases hi0:(i == 0) with
    |false=>have n_hi0:(i != 0)=true:=(by simpa using hi0);have HV:Hid (ap _=false):=HR.out.trans (by simp[aI,aq,aG,aF,ha,hi,hj,hi0]);go_wp2_with fail;go_ret;exact ak.intro HV.out.symm (bS HB0.out _)
    |true=>
     have q_hi0:(i != 0)=false:=(by simpa using hi0);cases hpe:ps.isEmpty with
     |true=>have pe:((pn:Int) == 0)=true:=(by have e1:=HLP.out;have e2:=List.isEmpty_iff.1 hpe;subst e2;simp at e1;simp[e1]);have HV:Hid (ap _=false):=HR.out.trans (by simp[aI,aq,aG,aF,ha,hi,hj,hi0,hpe]);go_wp2_with fail;go_ret;exact ak.intro HV.out.symm (bS HB0.out _)
     |false=>
      have pe:((pn:Int) == 0)=false:=by
       have e1:=HLP.out;cases ps with
       |nil=>cases hpe
       |cons a l=>simp at e1;simp;omega
      cases hij:(i == j) with
      |false=>have n_hij:(i != j)=true:=(by simpa using hij);have HV:Hid (ap _=false):=HR.out.trans (by simp[aI,aq,aG,aF,ha,hi,hj,hi0,hpe,hij]);go_wp2_with fail;go_ret;exact ak.intro HV.out.symm (bS HB0.out _)
      |true=>
       have q_hij:(i != j)=false:=(by simpa using hij);cases hj0:(j == 0) with
       |false=>have n_hj0:(j != 0)=true:=(by simpa using hj0);have HV:Hid (ap _=false):=HR.out.trans (by simp[aI,aq,aG,aF,ha,hi,hj,hi0,hpe,hij,hj0]);go_wp2_with fail;go_ret;exact ak.intro HV.out.symm (bS HB0.out _)
       |true=>
        have q_hj0:(j != 0)=false:=(by simpa using hj0);go_wp2_with fail;cases hem:(bl f++bl t).isEmpty with
        |false=>
         have hne:(!(f++t).toList.isEmpty)=true:=(by rw[bG,eS,hem];rfl);refine(cW f _ (HE.out.below (bS (ai _ _) _) (ah _)) hfs).mono ?_;rintro e w1 ⟨rfl,hb1⟩;have HA1:=ab (af (bS (ai _ _) _) hb1);clear hb1;obtain⟨c0,c1,c2,c3,c4,c5,c6,c7⟩:=HBX.out.below HA1.out;cases hf:be (bl f) with
         |false=>have HV:Hid (ap _=false):=HR.out.trans (by simp[aI,aq,aG,aF,ha,hi,hj,hi0,hpe,hij,hj0,hem,hf]);go_wp2_with fail;go_ret;exact ak.intro HV.out.symm (af HB0.out HA1.out)
         |true=>
          go_wp2_with fail;refine(cW t _ (HE.out.below HA1.out (ah _)) hts).mono ?_;rintro e w2 ⟨rfl,hb2⟩;have HA2:=ab (af HA1.out hb2);clear hb2;clear c0 c1 c2 c3 c4 c5 c6 c7;obtain⟨c0,c1,c2,c3,c4,c5,c6,c7⟩:=HBX.out.below HA2.out;cases ht:be (bl t) with
          |false=>have HV:Hid (ap _=false):=HR.out.trans (by simp[aI,aq,aG,aF,ha,hi,hj,hi0,hpe,hij,hj0,hem,hf,ht]);go_wp2_with fail;go_ret;exact ak.intro HV.out.symm (af HB0.out HA2.out)
          |true=>
           cases hft:(bl f == bl t) with
           |true=>obtain rfl:=fk (by simpa using hft);have HV:Hid (ap _=false):=HR.out.trans (by simp[aI,aq,aG,aF,ha,hi,hj,hi0,hpe,hij,hj0,hem,hf,ht,hft]);go_wp2_with fail;go_ret;exact ak.intro HV.out.symm (af HB0.out HA2.out)
           |false=>have e0:(f.toList == t.toList)=false:=fW (by simpa using hft);have HV:Hid (ap _=false):=HR.out.trans (by simp[aI,aq,aG,aF,ha,hi,hj,hi0,hpe,hij,hj0,hem,hf,ht,hft]);go_wp2_with fail;go_ret;exact ak.intro HV.out.symm (af HB0.out HA2.out)
        |true=>
         have hee:(!(f++t).toList.isEmpty)=false:=(by rw[bG,eS,hem];rfl);have hf0:be (bl f)=false:=(by rw[(List.append_eq_nil_iff.1 (List.isEmpty_iff.1 hem)).1];rfl);refine(cW f _ (HE.out.below (bS (ai _ _) _) (ah _)) hfs).mono ?_;rintro e w1 ⟨rfl,hb1⟩;have HA1:=ab (af (bS (ai _ _) _) hb1);clear hb1;obtain⟨c0,c1,c2,c3,c4,c5,c6,c7⟩:=HBX.out.below HA1.out;rw[hf0];go_wp2_with fail;refine(eC os _ _ _ _ (HO.out.below HA1.out) HSO.out (HE.out.below HA1.out (ah _))).mono ?_;rintro e w2 ⟨rfl,hb2⟩;have HA2:=ab (af HA1.out hb2);clear hb2;clear c0 c1 c2 c3 c4 c5 c6 c7;obtain⟨c0,c1,c2,c3,c4,c5,c6,c7⟩:=HBX.out.below HA2.out;cases hpo:bR os with
         |false=>have HV:Hid (ap _=false):=HR.out.trans (by simp[aI,aq,aG,aF,ha,hi,hj,hi0,hpe,hij,hj0,hem,hf0,hpo]);go_wp2_with fail;go_ret;exact ak.intro HV.out.symm (af HB0.out HA2.out)
         |true=>
          go_wp2_with fail;refine(eC ns _ _ _ _ (HN.out.below HA2.out) HSN.out (HE.out.below HA2.out (ah _))).mono ?_;rintro e w3 ⟨rfl,hb3⟩;have HA3:=ab (af HA2.out hb3);clear hb3;clear c0 c1 c2 c3 c4 c5 c6 c7;obtain⟨c0,c1,c2,c3,c4,c5,c6,c7⟩:=HBX.out.below HA3.out;cases hpn:bR ns with
          |false=>have HV:Hid (ap _=false):=HR.out.trans (by simp[aI,aq,aG,aF,ha,hi,hj,hi0,hpe,hij,hj0,hem,hf0,hpo,hpn]);go_wp2_with fail;go_ret;exact ak.intro HV.out.symm (af HB0.out HA3.out)
          |true=>
           obtain⟨ta,rfl⟩:∃ta,os=[ta]:=by
            match os,hpo with
            |[ta],_=>exact⟨ta,rfl⟩
           obtain⟨tb,rfl⟩:∃tb,ns=[tb]:=by
            match ns,hpn with
            |[tb],_=>exact⟨tb,rfl⟩
           have hon1:on=1:=HLO.out;have hnn1:nn=1:=HLN.out;obtain⟨b1,o1,t',rfl,ht1,hat1⟩:=HO.out.get (i:=0) (by omega);obtain⟨b2,o2,t'',rfl,ht2,hat2⟩:=HN.out.get (i:=0) (by omega);simp at ht1 ht2;subst ht1 ht2;simp only[Nat.zero_mul,Nat.add_zero] at hat1 hat2;obtain⟨A1,d1,p0,p1,p2,p3,hnode1⟩:=(hat1.below HA3.out).cells;obtain⟨A2,d2,r0,r1,r2,r3,hnode2⟩:=(hat2.below HA3.out).cells;have HN1:=ab hnode1;have HN2:=ab hnode2;clear hat1 hat2 hnode1 hnode2;have HSS:Hid (bB [ta] [tb]=ta.same tb):=(by show _=_;simp[bB]);have HV:Hid (ap _= !(ta.same tb)):=HR.out.trans (by rw[HSS.out];simp[aI,aq,aG,aF,ha,hi,hj,hi0,hpe,hij,hj0,hem,hf0,hpo,hpn]);go_wp2_with fail
           go_region_with (go_at_call 106;refine(yV ta tb _ _ _ _ _ _ _ _ _ _ _ _ _ (HN1.out.below (bS (ai _ _) 1)) (HN2.out.below (bS (ai _ _) 1))).mono ?_;rintro e w9 ⟨rfl,hb9⟩)
           all_goals
            have HB9:=ab (af (bS (af HB0.out HA3.out) _) hb9);clear hb9;go_wp2;go_ret;exact ak.intro HV.out.symm HB9.out
end Go.Proofs.YtfipahjodfminaaGreatDoor
