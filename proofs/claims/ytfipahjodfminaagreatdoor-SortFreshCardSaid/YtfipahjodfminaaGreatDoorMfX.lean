/- Part 24 of the proof. -/
import Derived.Test.YtfipahjodfminaaGreatDoorMfW
namespace Go.Proofs.YtfipahjodfminaaGreatDoor
open Go.RowKit
set_option linter.all false
set_option maxHeartbeats 40000000
set_option maxRecDepth 100000
theorem Sk{t:ag}{st:bo}(hk:t.kind=1)(hr:pi t=true)(hl:gn t.kids= .ok ([],st)){p:List Int}{i:Nat}(h:(p,i)∈st.ev)(hp:t.useN p=false):(cy st i).path=p:=by
 have hG:=K9 hk hr hl;have hi:=hG.good.lt _ h;obtain⟨b',us,e,k1,k2⟩:=hG.good.paths i hi;have p2:u6 st.ev i=(cy st i).path:: (cy st i).uses:=(DH ((Dv hl (CP hk hr)).2 i (hG.all i hi)).2).2;have hm:p∈u6 st.ev i:=List.mem_map.2 ⟨(p,i),List.mem_filter.2 ⟨h,by simp⟩,rfl⟩;rw[e] at p2 hm;injection p2 with e1 e2;rcases List.mem_cons.1 hm with h1|h1
 .rw[<-e1,h1]
 .have:=k2 _ h1;rw[hp] at this;cases this
theorem SY{t:ag}{st:bo}(hk:t.kind=1)(hr:pi t=true)(hl:gn t.kids= .ok ([],st)){p:List Int}{i:Nat}(h:(p,i)∈st.ev):((cy st i).path,i)∈st.ev/\t.useN (cy st i).path=false:=by have hG:=K9 hk hr hl;have hi:=hG.good.lt _ h;obtain⟨b',us,e,k1,k2⟩:=hG.good.paths i hi;have hpm:=DH ((Dv hl (CP hk hr)).2 i (hG.all i hi)).2;have p2:u6 st.ev i=(cy st i).path:: (cy st i).uses:=hpm.2;rw[e] at p2;injection p2 with e1 e2;exact⟨hpm.1,by rw[<-e1];exact k1⟩
theorem SV{α:Type}{t:ag}{st:bo}(hk:t.kind=1)(hr:pi t=true)(hl:gn t.kids= .ok ([],st))(z:ar)(lab:List Int->α):iv z t lab none none=some (none,Sa (fun i=>lab (cy st i).path) lab (fun r=>t.useAt z r) st.ev):=by
 have hl0:=hl;have hF:=CP hk hr;obtain⟨k,s,x,ks⟩:=t;have hk0:k=1:=hk;subst hk0;have hF:∀u∈ks,sv u:=hF;have hl:gn ks= .ok ([],st):=hl;unfold gn at hl;obtain⟨fe,st1,h1,h2⟩:=i9 hl;obtain⟨_,f2,n1,e1,e2,_⟩:=Du ks 0 1 [] Cl fe st1 h1;obtain⟨new,h3,h4⟩:=Sg fe z (fun i=>lab (cy st i).path) lab (fun r=>(ag.node 1 s x ks).useAt z r) ks [] [] [] 0 st1.anew.next [] st h2 ⟨fun m t r i ht he hb=>by
  have he':((m:Int) ::r,i)∈st.ev:=(by simpa using he);have hu:(ag.node 1 s x ks).useN ((m:Int) ::r)=false:=by
   rw[My ht];unfold ag.bndAt at hb;unfold ag.useN;cases hg:b7 r t with
   |none=>rfl
   |some w=>rw[hg] at hb;obtain⟨k',s',x',ks'⟩:=w;simp only[Bool.or_eq_true,beq_iff_eq] at hb;simp only[Bool.or_eq_false_iff,beq_eq_false_iff_ne];omega
  have:=Sk (t:=.node 1 s x ks) hk hr hl0 he' hu;show lab (cy st i).path=lab ([]++((0+m:Nat):Int) ::r);rw[this];simp,fun m t r ht=>by
  show(ag.node 1 s x ks).useAt z (((0+m:Nat):Int) ::r)=_;rw[Nat.zero_add,SW ht]⟩
 have h0:∀e∈st1.ev,(ag.node 1 s x ks).useAt z e.1=false:=fun e he=>by
  have e1':st1.ev=n1:=(by rw[e1];rfl);rw[e1'] at he;obtain⟨m,h5,_⟩:=e2 e he;rw[h5];unfold ag.useAt;rw[Ba];cases hm:ks[m]? with
  |none=>rfl
  |some u=>obtain⟨s',x',p,b,rfl,_⟩:=hF u (List.mem_iff_getElem?.2 ⟨m,hm⟩);rfl
 have h3':st.ev=st1.ev++new:=h3;rw[Si (by omega) (by omega)];have h4':ed z ks 0 lab none none=some (none,Sa (fun i=>lab (cy st i).path) lab (fun r=>(ag.node 1 s x ks).useAt z r) new):=by have:=h4;simp only[List.nil_append] at this;exact this
 rw[h4',h3',SD];have h5:Sa (fun i=>lab (cy st i).path) lab (fun r=>(ag.node 1 s x ks).useAt z r) st1.ev=[]:=by unfold Sa;rw[List.filter_eq_nil_iff.2 fun e he=>by have:=h0 e he;show ¬(ag.node 1 s x ks).useAt z e.1=true;rw[this];simp];rfl
 rw[h5];rfl
theorem SU{α:Type}{t:ag}{st:bo}(hk:t.kind=1)(hr:pi t=true)(hl:gn t.kids= .ok ([],st))(z:ar)(lab:List Int->α){x y:α}:(x,y)∈Sa (fun i=>lab (cy st i).path) lab (fun r=>t.useAt z r) st.ev↔∃u b,(u,b)∈kb t/\t.useAt z u=true/\x=lab u/\y=lab b:=by
 have hun:∀{u},t.useAt z u=true->t.useN u=true:=fun {u} h=>by
  unfold ag.useAt at h;unfold ag.useN;cases hg:b7 u t with
  |none=>rw[hg] at h;cases h
  |some w=>rw[hg] at h;obtain⟨k',s',x',ks'⟩:=w;simp only[Bool.and_eq_true,beq_iff_eq] at h;simp[h.1]
 unfold Sa;rw[List.mem_map];constructor
 .rintro⟨e,he,h⟩;obtain⟨h1,h2⟩:=List.mem_filter.1 he;injection h with h3 h4;have hb:=SY hk hr hl (p:=e.1) (i:=e.2) h1;exact⟨e.1,(cy st e.2).path,(KQ hk hr hl).2 ⟨hun h2,hb.2,e.2,h1,hb.1⟩,h2,h3.symm,h4.symm⟩
 .rintro⟨u,b,h1,h2,rfl,rfl⟩;obtain⟨_,h4,i,h5,h6⟩:=(KQ hk hr hl).1 h1;exact⟨(u,i),List.mem_filter.2 ⟨h5,h2⟩,by show(lab u,lab (cy st i).path)=_;rw[Sk hk hr hl h6 h4]⟩
theorem SE{d:Kd}:∀(p u u':List Int),d.act p u=some u'->u'.length=u.length
 |[],[],u',h=>by
  unfold Kd.act at h;split at h
  .injection h with h;subst h;rfl
  .cases h
 |[],k::r,u',h=>by simp only[Kd.act,Option.map_eq_some_iff] at h;obtain⟨w,_,rfl⟩:=h;rfl
 |z::p,[],u',h=>by have h:some []=some u':=h;injection h with h;subst h;rfl
 |z::p,k::r,u',h=>by
  simp only[Kd.act] at h;split at h
  .simp only[Option.map_eq_some_iff] at h;obtain⟨w,hw,rfl⟩:=h;simp[SE p r w hw]
  .injection h with h;subst h;rfl
mutual
theorem Sy:∀(t:ag) (r:List Int) (u:ag),b7 r t=some u->∀s∈u.names,s∈t.names
 |t,[],u,h,s,hs=>by have h:some t=some u:=h;injection h with h;subst h;exact hs
 | .node k s x ks,z::r,u,h,s',hs=>by
  unfold b7 at h;split at h
  .cases h
  .cases hk:ks[z.toNat]? with
   |none=>rw[hk] at h;cases h
   |some v=>rw[hk] at h;unfold ag.names;exact List.mem_append_right _ (SN ks _ v hk s' (Sy v r u h s' hs))
theorem SN:∀(ts:List ag) (n:Nat) (v:ag),ts[n]? =some v->∀s∈v.names,s∈bE ts
 |[],n,v,h,s,hs=>by simp at h
 |t::ts,0,v,h,s,hs=>by simp at h;subst h;unfold bE;exact List.mem_append_left _ hs
 |t::ts,n+1,v,h,s,hs=>by unfold bE;exact List.mem_append_right _ (SN ts n v (by simpa using h) s hs)
end
theorem SG{d:Kd}(hok:d.ok):∀(p:List Int) (t t':ag) (u:List Int) (w:ag),s8 d.run p t=some t'->d.act p u=none->b7 u t=some w->∃o∈d.parts,∃r,b7 r o=some w
 |[],t,t',u,w,h,ha,hw=>by
  have h:d.run t=some t':=h;cases d with
  |ins i n=>rw[ML] at ha;cases ha
  |del i o=>
   obtain⟨k,s,x,ks⟩:=t;obtain⟨_,ks',h2,rfl⟩:=Ko (d:=.del i o) rfl h;simp only[Kd.kids] at h2;split at h2
   .rename_i hi;cases u with
    |nil=>cases ha
    |cons z r=>
     simp only[Kd.act,Kd.sig] at ha;split at ha
     .rename_i hz;subst hz;unfold b7 at hw;split at hw
      .cases hw
      .rw[hi] at hw;exact⟨o,by simp[Kd.parts],r,hw⟩
     .cases ha
   .cases h2
  |mov i j o=>
   obtain⟨k,s,x,ks⟩:=t;obtain⟨_,ks',h2,rfl⟩:=Ko (d:=.mov i j o) rfl h;simp only[Kd.kids] at h2;split at h2
   .rename_i hi;cases u with
    |nil=>cases ha
    |cons z r=>
     simp only[Kd.act,Kd.sig] at ha;split at ha
     .rename_i hz;subst hz;unfold b7 at hw;split at hw
      .cases hw
      .rw[hi.1] at hw;exact⟨o,by simp[Kd.parts],r,hw⟩
     .cases ha
   .cases h2
  |rep o n=>
   have h:(if t=o then some n else none)=some t':=h;split at h
   .rename_i e;subst e;exact⟨t,by simp[Kd.parts],u,hw⟩
   .cases h
 |z::p,.node k s x ks,t',u,w,h,ha,hw=>by
  obtain⟨hz,v,v',h1,h2,rfl⟩:=L5 h;cases u with
  |nil=>cases ha
  |cons y r=>
   simp only[Kd.act] at ha;split at ha
   .rename_i hy;subst hy;simp only[Option.map_eq_none_iff] at ha;unfold b7 at hw;rw[if_neg (by omega),h1] at hw;exact SG hok p v v' r w h2 ha hw
   .cases ha
theorem Sm{t:ag}{r:List Int}{k:Nat}{s:ar}(h:t.kt r=some (k,s)):∃x ks,b7 r t=some (.node k s x ks):=by
 unfold ag.kt at h;cases hg:b7 r t with
 |none=>rw[hg] at h;cases h
 |some w=>rw[hg] at h;obtain⟨k',s',x,ks⟩:=w;have h:some (k',s')=some (k,s):=h;injection h with h;injection h with h1 h2;subst h1 h2;exact⟨x,ks,rfl⟩
theorem SF{t:ag}(h:jv t){u b:List Int}{s:ar}(hu:(u,b)∈kb t)(hk:t.kt u=some (25,s)):∃m:Nat,b=[(m:Int)]/\t.kt b=some (2,s):=by
 obtain⟨hk1,hr,st,hl⟩:=h;have hF:=CP hk1 hr;obtain⟨x,ks,hg⟩:=Sm hk;obtain⟨h1,h2,i,h3,h4⟩:=(KQ hk1 hr hl).1 hu;have hG:=K9 hk1 hr hl;have hl':=hl;unfold gn at hl';obtain⟨fe,st1,e1,e2⟩:=i9 hl';obtain⟨g1,g2,g3,g4,g5,g6⟩:=Ng (fun r=>t.useN r) t.kids 0 1 [] Cl fe st1 e1 .nil (fun p hp=>by cases hp) (fun m v hv=>by obtain⟨k0,s0,x0,ks0⟩:=t;rw[Nat.zero_add];have:(ag.node k0 s0 x0 ks0).useN ((m:Int) :: [])=v.useN []:=My hv;show(ag.node k0 s0 x0 ks0).useN ((m:Int) :: [])=false;rw[this];obtain⟨s',x',p,b,rfl,_⟩:=hF v (List.mem_iff_getElem?.2 ⟨m,hv⟩);rfl)
 have hL:=Jo fe (fun r=>t.useN r) t.kids [] [] [] 0 st1.anew.next [] st e2 g1 (fun m hm=>by cases hm) (fun p hp=>by cases hp) g2 (fun m v r hv=>by obtain⟨k0,s0,x0,ks0⟩:=t;show(ag.node k0 s0 x0 ks0).useN (((0+m:Nat):Int) ::r)=_;rw[Nat.zero_add];exact My hv)
 have hlook:bn fe s=some i:=by
  rcases hL.calls _ h3 with h5|⟨m,v,r,h5,h6,h7⟩
  .exfalso;obtain⟨_,_,new,f1,f2,_⟩:=Du t.kids 0 1 [] Cl fe st1 e1;have h5:(u,i)∈st1.ev:=h5;rw[f1] at h5;rcases List.mem_append.1 h5 with h5|h5
   .cases h5
   .obtain⟨m,h6,_⟩:=f2 _ h5;have h6:u=[(m:Int)]:=h6;subst h6;obtain⟨k0,s0,x0,ks0⟩:=t;rw[Ba] at hg;have hF:∀u∈ks0,sv u:=hF;cases hm:ks0[m]? with
    |none=>rw[hm] at hg;cases hg
    |some v=>rw[hm] at hg;have hg:some v=some (ag.node 25 s x ks):=hg;injection hg with hg;obtain⟨s2,x2,p,b,rfl,_⟩:=hF v (List.mem_iff_getElem?.2 ⟨m,hm⟩);injection hg with e;omega
  .have h5:u=[]++((0+m:Nat):Int) ::r:=h5;rw[List.nil_append,Nat.zero_add] at h5;subst h5;obtain⟨k0,s0,x0,ks0⟩:=t;have h6:ks0[m]? =some v:=h6;exact h7 s x ks (by rw[Ba,h6] at hg;exact hg)
 have hi:i<st1.bs.length:=PW g2 hlook;rcases g6 i hi with h5|⟨m,v,h5,h6,h7⟩
 .exact absurd h5 (by simp[Cl])
 .have h7:([((0+m:Nat):Int)],i)∈st1.ev:=h7;rw[Nat.zero_add] at h7;have h8:([(m:Int)],i)∈st.ev:=hL.evs _ h7;have hkt:t.kt [(m:Int)]=some (2,v.text):=by obtain⟨k0,s0,x0,ks0⟩:=t;have h5:ks0[m]? =some v:=h5;have:(ag.node k0 s0 x0 ks0).kt ((m:Int) :: [])=v.kt []:=(by rw[J9,h5];rfl);rw[this];obtain⟨s',x',p,b,rfl,_⟩:=hF v (List.mem_iff_getElem?.2 ⟨m,h5⟩);rfl
  have h9:t.useN [(m:Int)]=false:=(by rw[Ox,hkt];rfl);have hb:b=[(m:Int)]:=(by rw[<-Sk hk1 hr hl h4 h2,Sk hk1 hr hl h8 h9]);refine⟨m,hb,?_⟩;rw[hb,hkt];have t1:=L7 hk1 hr hl h3;have t2:=L7 hk1 hr hl h8;rw[hg] at t1;have t1:s=fc st i:=(by simpa[ag.text] using t1);obtain⟨x2,ks2,hg2⟩:=Sm hkt;rw[hg2] at t2;have t2:v.text=fc st i:=(by simpa[ag.text] using t2);rw[t2,t1]
theorem S4{t:ag}(h:jv t){a b:Nat}{s:ar}(ha:t.kt [(a:Int)]=some (2,s))(hb:t.kt [(b:Int)]=some (2,s)):a=b:=by
 obtain⟨hk1,hr,st,hl⟩:=h;have hG:=K9 hk1 hr hl;obtain⟨fe,_,hf⟩:=hG.fes;have hg:∀{a:Nat},t.kt [(a:Int)]=some (2,s)->∃i,bn fe s=some i/\([(a:Int)],i)∈st.ev:=fun {a} ha=>by
  obtain⟨k0,s0,x0,ks0⟩:=t;have h1:(ag.node k0 s0 x0 ks0).kt ((a:Int) :: [])=some (2,s):=ha;rw[J9] at h1;cases hv:ks0[a]? with
  |none=>rw[hv] at h1;cases h1
  |some v=>rw[hv] at h1;obtain⟨i,h2,h3⟩:=hf a v hv;obtain⟨k1,s1,x1,ks1⟩:=v;have h1:some (k1,s1)=some (2,s):=h1;injection h1 with h1;injection h1 with _ h1;subst h1;exact⟨i,h2,h3⟩
 obtain⟨i,h1,h2⟩:=hg ha;obtain⟨j,h3,h4⟩:=hg hb;rw[h1] at h3;injection h3 with h3;subst h3;have n1:t.useN [(a:Int)]=false:=(by rw[Ox,ha];rfl);have n2:t.useN [(b:Int)]=false:=(by rw[Ox,hb];rfl);have:=(Sk hk1 hr hl h2 n1).symm.trans (Sk hk1 hr hl h4 n2);simp at this;omega
theorem Tv{d:Kd}{p:List Int}{n m:ag}(hn:jv n)(hm:jv m)(hok:d.ok)(h:s8 d.run p n=some m){u b:List Int}(hu:(u,b)∈kb n){k:Nat}{s:ar}(ht:n.kt u=some (k,s))(hs:∀t∈d.parts,s∉t.names):∃u' b',d.act p u=some u'/\d.act p b=some b'/\(u',b')∈kb m:=by
 have hun:=RW hn hu;rw[Ox,ht] at hun;simp only[Bool.or_eq_true,beq_iff_eq] at hun;obtain⟨x,ks,hg⟩:=Sm ht;rcases hun with rfl|rfl
 .obtain⟨hk1,hr1,st1,hl1⟩:=hn;obtain⟨hk2,hr2,st2,hl2⟩:=hm;have e1:=SV hk1 hr1 hl1 s (fun r=>d.act p r);have e2:=SV hk2 hr2 hl2 s (fun r=>some r);rw[SS hok hs p n m (fun r=>some r) (fun r=>d.act p r) none none h (fun r r' hr=>hr),e1] at e2;injection e2 with e2;injection e2 with _ e2;have hmem:(d.act p u,d.act p b)∈Sa (fun i=>d.act p (cy st1 i).path) (fun r=>d.act p r) (fun r=>n.useAt s r) st1.ev:=
   (SU hk1 hr1 hl1 s (fun r=>d.act p r)).2 ⟨u,b,hu,by unfold ag.useAt;rw[hg];simp,rfl,rfl⟩
  rw[e2] at hmem;obtain⟨u',b',h1,h2,h3,h4⟩:=(SU hk2 hr2 hl2 s (fun r=>some r)).1 hmem;exact⟨u',b',h3,h4,h1⟩
 .obtain⟨a,rfl,hb⟩:=SF hn hu ht;have stay:∀{r:List Int} {k:Nat},n.kt r=some (k,s)->cG k=true->∃r',d.act p r=some r':=fun {r k} hr hkn=>by
   cases ha:d.act p r with
   |some r'=>exact⟨r',rfl⟩
   |none=>obtain⟨x',ks',hg'⟩:=Sm hr;obtain⟨o,ho,r2,h5⟩:=SG hok p n m r _ h ha hg';exact absurd (Sy o r2 _ h5 s (by unfold ag.names;rw[if_pos hkn];simp)) (hs o ho)
  obtain⟨u',hu'⟩:=stay ht rfl;obtain⟨b',hb'⟩:=stay hb rfl;have k1:=L0 hok p n m u u' h hu';have k2:=L0 hok p n m _ b' h hb';rw[ht] at k1;rw[hb] at k2;obtain⟨b2,hb2⟩:=RT hm (u:=u') (by rw[Ox,k1];rfl);obtain⟨c,rfl,hc⟩:=SF hm hb2 k1;have hlen:=SE p _ b' hb';obtain⟨z,rfl⟩:∃z,b'=[z]:=List.length_eq_one_iff.1 hlen;have hz:0<=z:=by
   by_cases hz:0<=z
   .exact hz
   .rw[K5 (by omega)] at k2;cases k2
  obtain⟨a2,rfl⟩:=Int.eq_ofNat_of_zero_le hz;have:=S4 hm k2 hc;subst this;exact⟨u',_,hu',hb',hb2⟩
theorem S6{n m:ag}{e:aj}(hk:e.kind=2)(h:Cw ek n [e]= .ok m)(hs:∀v∈e.news,∀s∈v.names,s∉n.names):j4 n e=true/\j4 m (bD e)=true:=by
 obtain⟨hn,he,ho⟩:=JO.1 h;obtain⟨h1,hm⟩:=(KE he (by omega)).1 ho;obtain⟨v,hv,_⟩:=(KK he).2.2.2.2 (by rw[hk];rfl);have hd:e.kd= .ins e.at_ v:=(by unfold aj.kd;rw[if_pos hk,hv];rfl);have hsafe:j4 n e=true:=by
  unfold j4;rw[h];show qq n m (d9 e)=true;unfold qq;rw[List.all_eq_true];rintro⟨u,b⟩ hub;have hun:=RW hn hub;obtain⟨k,s,hks⟩:∃k s,n.kt u=some (k,s):=by
   rw[Ox] at hun;cases hq:n.kt u with
   |none=>rw[hq] at hun;cases hun
   |some q=>exact⟨q.1,q.2,rfl⟩
  have hsn:s∈n.names:=by rw[Ox,hks] at hun;simp only[Bool.or_eq_true,beq_iff_eq] at hun;obtain⟨x,ks,hg⟩:=Sm hks;refine Sy n u _ hg s ?_;unfold ag.names;rw[if_pos (by rcases hun with rfl|rfl<;>rfl)];simp
  obtain⟨u',b',a1,a2,a3⟩:=Tv hn hm (KB he) h1 hub hks (fun t ht hmem=>by rw[hd] at ht;have ht:t=v:=(by simpa[Kd.parts] using ht);subst ht;exact hs t (by rw[hv];simp) s hmem hsn)
  simp only;rw[LR he (by omega) (by omega),a1];simp only;rw[LR he (by omega) (by omega),a2];exact(Mv hm).2 a3
 exact⟨hsafe,by rw[<- (Ry h).1];exact hsafe⟩
section
open Go.RowKit Go.Shelf
attribute [local go_sem] Oper.semAt_some
theorem NS(k:Nat)(s:ByteArray)(x:Int)(A:Option Addr)(n c:Nat)(w:World):Calls Tryz.prog 36 #[.agg #[.int .u8 k,.string s,.int .i64 x,.slice A n c]] w fun e w'=>e= .returned (.func (.func 79) #[] #[.pointer (some ⟨w.heap.size,0,none⟩)])/\w'=w.alloc (.cells #[.int .u8 k,.string s,.int .i64 x,.slice A n c] 25):=by
 go_in
 go_wp2;go_ret;exact⟨rfl,rfl⟩
theorem ic.cell{N:Nat}{a:Addr}{v:Value}:ic N (fun W=>W.cell? a=some v/\W.frozen? a=false):=
 ⟨fun A B h hb=>⟨ac hb h.1,(World.frozen?_of_block (hb.block _ (bK h.1))).trans h.2⟩,fun A l o o' h hN hl ho=>⟨(lQ.put o' hl ho).cell h.1,((lQ.put o' hl ho).frozen h.1).trans h.2⟩⟩
theorem ic.below{N:Nat}{w0:World}(hN:w0.heap.size<=N):ic N (fun W=>Below w0.heap.size w0 W):=
 ⟨fun A B h hb=>h.trans (hb.mono h.size),fun A l o o' h hl hA ho=>h.trans ⟨rfl,rfl,rfl,by simp,fun k hk=>World.putObj_heap_other (by omega)⟩⟩
theorem ic.and{N:Nat}{I J:World->Prop}(h:ic N I)(h':ic N J):ic N (fun W=>I W/\J W):=⟨fun A B x hb=>⟨h.1 A B x.1 hb,h'.1 A B x.2 hb⟩,fun A l o o' x hN hl ho=>⟨h.2 A l o o' x.1 hN hl ho,h'.2 A l o o' x.2 hN hl ho⟩⟩
theorem ic.const{N:Nat}{p:Prop}:ic N (fun _=>p):=⟨fun _ _ h _=>h,fun _ _ _ _ h _ _ _=>h⟩
theorem RF{T:ag}{u b:List Int}{pre:I9}{p:List Int×List Int}(h:(pre++[p])<+:kb T)(hne:∀q∈pre,q.1≠u)(hp:p.1=u):tg T u b=(p.2 == b):=by
 obtain⟨r,hr⟩:=h;unfold tg;rw[<-hr,List.append_assoc,List.find?_append];have h1:pre.find? (fun p=>decide (p.1=u))=none:=List.find?_eq_none.2 fun q hq=>by have:=hne q hq;simpa using this
 rw[h1];simp only[Option.none_or,List.singleton_append,List.find?_cons];rw[decide_eq_true hp];simp only;rw[Bool.eq_iff_iff];simp
theorem RG{T:ag}{u b:List Int}(hne:∀q∈kb T,q.1≠u):tg T u b=false:=by unfold tg;rw[List.find?_eq_none.2 fun q hq=>by have:=hne q hq;simpa using this]
theorem KeepsOthers.below{A B:World}(h:Below A.heap.size A B):KeepsOthers A B:=⟨h.size,fun k o ho _=>(h.block k (aK.1 ho).1).trans ho⟩
def iy(W:World)(b:Nat)(v:Value):Prop:=W.cell? ⟨b,0,none⟩=some v/\W.frozen? ⟨b,0,none⟩=false
theorem Ky{w:World}{b:Nat}{v:Value}{T:TypeId}(hb:w.heap.size=b):iy (w.alloc (.cells #[v] T)) b v:=by subst hb;exact⟨by simp,by simp⟩
theorem iy.alloc{W:World}{b:Nat}{v:Value}(h:iy W b v)(o:Obj):iy (W.alloc o) b v:=by have hb:Below W.heap.size W (W.alloc o):=(ai _ _).alloc (ah _) _;exact⟨ac hb h.1,(World.frozen?_of_block (hb.block _ (bK h.1))).trans h.2⟩
theorem iy.below{W W':World}{b:Nat}{v:Value}(h:iy W b v)(hb:Below W.heap.size W W'):iy W' b v:=⟨ac hb h.1,(World.frozen?_of_block (hb.block _ (bK h.1))).trans h.2⟩
theorem iy.drewN{W:World}{b:Nat}{v:Value}(h:iy W b v)(q:Nat):iy (W.drewN q) b v:=⟨by rw[World.cell?_drewN];exact h.1,h.2⟩
theorem QJ(T:ag)(k:Nat)(s:ByteArray)(x:Int)(A:Option Addr)(n c:Nat)(u b:List Int)(uA:Option Addr)(ul uc:Nat)(bA:Option Addr)(bl bc:Nat)(w:World)(hN:cf w T k s x A n c)(hsh:T.short 281474976710656)(hsz:T.sz<=100000)(hE:bI w)(hu:cc w u uA ul uc)(hb:cc w b bA bl bc):Calls Tryz.prog 37 #[.agg #[.int .u8 k,.string s,.int .i64 x,.slice A n c],.slice uA ul uc,.slice bA bl bc] w (th (tg T u b) w):=by
 have HN:=ab hN;have HE:=ab hE;have HU:=ab hu;have HBB:=ab hb;clear hN hE hu hb;refine(callsIn_wide (n:=3)).1 ?_;refine callsIn_of_wp_marks Tryz.func37 rfl trivial ?_ rfl;simp only[Tryz.ntmps37,List.size_toArray,List.length_cons,List.length_nil,Nat.reduceAdd,Nat.reduceSub,Array.replicate_succ,Array.replicate_zero,List.push_toArray,List.append_toArray,List.nil_append,List.cons_append]
 gi_wp2_with (refine⟨trivial,?_⟩;gi_at_call 36;refine(callsIn_wide.2 (NS _ _ _ _ _ _ _)).mono ?_;rintro e w1 ⟨rfl,rfl⟩)
 have hB5:Below w.heap.size w (((((w.alloc (.cells #[.int .u8 k,.string s,.int .i64 x,.slice A n c] 25)).alloc (.cells #[.slice uA ul uc] 27)).alloc (.cells #[.slice bA bl bc] 27)).alloc (.cells #[.bool false] 4)).alloc (.cells #[.int .u8 k,.string s,.int .i64 x,.slice A n c] 25)):=
  (((((ai _ _).alloc (ah _) _).alloc (by simp) _).alloc (by simp;omega) _).alloc (by simp;omega) _).alloc (by simp;omega) _
 have HSZ:Hid ((((((w.alloc (.cells #[.int .u8 k,.string s,.int .i64 x,.slice A n c] 25)).alloc (.cells #[.slice uA ul uc] 27)).alloc (.cells #[.slice bA bl bc] 27)).alloc (.cells #[.bool false] 4)).alloc (.cells #[.int .u8 k,.string s,.int .i64 x,.slice A n c] 25)).heap.size=w.heap.size+5):=(by show _=_;simp);have HC1:Hid (iy (((((w.alloc (.cells #[.int .u8 k,.string s,.int .i64 x,.slice A n c] 25)).alloc (.cells #[.slice uA ul uc] 27)).alloc (.cells #[.slice bA bl bc] 27)).alloc (.cells #[.bool false] 4)).alloc (.cells #[.int .u8 k,.string s,.int .i64 x,.slice A n c] 25)) (w.heap.size+1) (.slice uA ul uc)):=(((Ky (by simp)).alloc _).alloc _).alloc _;have HC2:Hid (iy (((((w.alloc (.cells #[.int .u8 k,.string s,.int .i64 x,.slice A n c] 25)).alloc (.cells #[.slice uA ul uc] 27)).alloc (.cells #[.slice bA bl bc] 27)).alloc (.cells #[.bool false] 4)).alloc (.cells #[.int .u8 k,.string s,.int .i64 x,.slice A n c] 25)) (w.heap.size+1+1) (.slice bA bl bc)):=((Ky (by simp)).alloc _).alloc _;have HC3:Hid (iy (((((w.alloc (.cells #[.int .u8 k,.string s,.int .i64 x,.slice A n c] 25)).alloc (.cells #[.slice uA ul uc] 27)).alloc (.cells #[.slice bA bl bc] 27)).alloc (.cells #[.bool false] 4)).alloc (.cells #[.int .u8 k,.string s,.int .i64 x,.slice A n c] 25)) (w.heap.size+1+1+1) (.bool false)):=(Ky (by simp)).alloc _;have hbx:(((((w.alloc (.cells #[.int .u8 k,.string s,.int .i64 x,.slice A n c] 25)).alloc (.cells #[.slice uA ul uc] 27)).alloc (.cells #[.slice bA bl bc] 27)).alloc (.cells #[.bool false] 4)).alloc (.cells #[.int .u8 k,.string s,.int .i64 x,.slice A n c] 25)).heap[w.heap.size+1+1+1+1]? =some (.cells #[.int .u8 k,.string s,.int .i64 x,.slice A n c] 25 (0,0)):=heap_alloc_at (by simp);obtain⟨n0,n1,n2,n3,_⟩:=di hbx;have HSQ:=ab (Oy T k s x A n c (w.heap.size+1+1+1+1) _ (3 - 1) (by omega) (HN.out.below hB5) hsh hsz (HE.out.below hB5 (ah _)) n0 n1 n2 n3);have HB5:=ab hB5;clear hB5 hbx n0 n1 n2 n3;generalize (((((w.alloc (.cells #[.int .u8 k,.string s,.int .i64 x,.slice A n c] 25)).alloc (.cells #[.slice uA ul uc] 27)).alloc (.cells #[.slice bA bl bc] 27)).alloc (.cells #[.bool false] 4)).alloc (.cells #[.int .u8 k,.string s,.int .i64 x,.slice A n c] 25))=W5 at HSZ HC1 HC2 HC3 HSQ HB5 ⊢;have hs5:=HSZ.out;refine OC rfl (by omega) (gf:=79) (lb:=#[.pointer (some ⟨w.heap.size+1+1+1+1,0,none⟩)]) rfl trivial (enters_of Tryz.func79 (by kernel_rfl) rfl) HSQ.out (ai _ _) rfl
  (fun pre W=>(∀q∈pre,q.1≠u)/\(iy W (w.heap.size+1) (.slice uA ul uc)/\iy W (w.heap.size+1+1) (.slice bA bl bc)/\iy W (w.heap.size+1+1+1) (.bool false))/\Below w.heap.size w W)
  (fun W=>iy W (w.heap.size+1+1+1) (.bool (tg T u b))/\Below w.heap.size w W)
  (fun pre=>ic.const.and ((ic.cell.and (ic.cell.and ic.cell)).and (ic.below (by omega))))
  (ic.cell.and (ic.below (by omega)))
  ⟨by simp,⟨HC1.out,HC2.out,HC3.out⟩,HB5.out⟩
  (fun y=>{ tmps:=#[.agg #[.int .u8 k,.string s,.int .i64 x,.slice A n c],.slice uA ul uc,.slice bA bl bc,.pointer (some ⟨w.heap.size,0,none⟩),.pointer (some ⟨w.heap.size+1,0,none⟩),.pointer (some ⟨w.heap.size+1+1,0,none⟩),.pointer (some ⟨w.heap.size+1+1+1,0,none⟩),.slice y.uA y.ul y.uc,.slice y.bA y.bl y.bc,.agg #[.int .u8 k,.string s,.int .i64 x,.slice A n c],.func (.func 79) #[] #[.pointer (some ⟨w.heap.size+1+1+1+1,0,none⟩)],.slice y.uA y.ul y.uc,.slice y.bA y.bl y.bc,undef,undef,undef,undef,undef,undef],defers:=[] }) ?assign ?body ?done ?stop
 case assign=>
  intro l y W K hK;simp only[PV.enc]
  gi_wp2
  exact hK
 case body=>
  rintro l pre p y W ⟨hne,⟨hc1,hc2,hc3⟩,hB⟩ hpre hy;have HP:=ab hpre;have HNE:=ab hne;have HB:=ab hB;have HF:=ab (And.intro hc1 (And.intro hc2 hc3));have HE1:=ab (lz p.1 u _ _ _ _ _ _ W hy.1 ((HU.out.below hB)));have HY:=ab hy;have d1:=hc1.1;have d2:=hc2.1;have d3:=hc3.1;have f3:=hc3.2;clear hpre hne hB hc1 hc2 hc3 hy;have HNP:Hid (p.1≠u->∀q∈pre++[p],q.1≠u):=fun h q hq=>by
   rcases List.mem_append.1 hq with hq|hq
   .exact HNE.out q hq
   .obtain rfl:=List.mem_singleton.1 hq;exact h
  gi_wp2_with fail
  refine⟨trivial,(CallsIn.inRound l (callsIn_wide.2 HE1.out)).mono ?_⟩;rintro e w1 ⟨rfl,q,rfl⟩;have HB1:=ab (bS (ai W.heap.size W) q);have HF1:=ab (And.intro (HF.out.1.drewN q) (And.intro (HF.out.2.1.drewN q) (HF.out.2.2.drewN q)));obtain⟨eq,heq⟩:∃eq,(p.1 == u)=eq:=⟨_,rfl⟩;rw[heq];cases eq
  .have hne2:=HNP.out (by simpa using heq);have HD:=ab hne2;clear heq hne2
   gi_wp2
   exact⟨HB1.out,HD.out,HF1.out,HB.out.trans (HB1.out.mono HB.out.size)⟩
  .have HS:Hid (tg T u b=(p.2 == b)):=RF HP.out HNE.out (by simpa using heq);have HE2:=ab (lz p.2 b _ _ _ _ _ _ (W.drewN q) (HY.out.2.drewN q) ((HBB.out.below HB.out).drewN q));clear heq
   gi_wp2_with fail
   refine⟨trivial,(CallsIn.inRound l (callsIn_wide.2 HE2.out)).mono ?_⟩;rintro e w2 ⟨rfl,q2,rfl⟩;have HB2:=ab (bS (ai W.heap.size W) (q+q2));have HF2:=ab (HF.out.2.2.drewN (q+q2));rw[<-HS.out]
   gi_wp2
   have g3:=HF2.out.1;have h3:=HF2.out.2;refine⟨(KeepsOthers.below HB2.out).trans (KeepsOthers.setCell _ _ _),⟨World.cell?_setCell_same' _ _ _ (by rw[g3];rfl),by rw[World.frozen?_setCell];exact h3⟩,(HB.out.trans (HB2.out.mono HB.out.size)).setCell (p:=⟨w.heap.size+1+1+1,0,none⟩) (by simp;omega) _⟩
 case done=>
  rintro D W hD ⟨hne,⟨_,_,hc⟩,hB⟩ hK;obtain⟨hcr,hfr⟩:=hc;have HS:Hid (tg T u b=false):=RG hne
  gi_wp2
  have hK':=(KeepsOthers.setCell W ⟨w.heap.size+1+1+1,0,none⟩ (.bool false)).same D _ hK rfl;refine⟨by simp,.inl ⟨_,_,rfl,run_takeDeferred hK',?_⟩⟩;have hc5:=cell_kept (World.cell?_setCell_same' W ⟨w.heap.size+1+1+1,0,none⟩ (.bool false) (by rw[hcr];rfl)) (grownBy_putObj' _ D (.deferred none)) (fun r e=>by cases e;exact⟨_,hK',rfl⟩);refine⟨.bool false,?_,by rw[HS.out],(hB.setCell (p:=⟨w.heap.size+1+1+1,0,none⟩) (by simp;omega) _).trans (belowK_b (w:=w) (ah _) _ D _ _ (by omega) hK' rfl rfl)⟩;simp[results,Tryz.f37,go_sem,hc5]
 case stop=>
  rintro D W hD ⟨⟨hcr,_⟩,hB⟩ hK
  gi_wp2
  refine⟨by simp,.inl ⟨_,_,rfl,run_takeDeferred hK,?_⟩⟩;have hc5:=cell_kept hcr (grownBy_putObj' _ D (.deferred none)) (fun r e=>by cases e;exact⟨_,hK,rfl⟩);refine⟨.bool (tg T u b),?_,rfl,hB.trans (belowK_b (w:=w) (ah _) W D _ _ (by omega) hK rfl rfl)⟩;simp[results,Tryz.f37,go_sem,hc5]
theorem M9{t:ag}{st:bo}(hk:t.kind=1)(hr:pi t=true)(hl:gn t.kids= .ok ([],st))(hs:t.sz<=100000){p:List Int}{i:Nat}(h:(p,i)∈st.ev):dE p/\p.length<=40:=by
 obtain⟨m,r,k,e,hkk,_⟩:=DU hl (CP hk hr) _ h;have hpath:t.kindAt p=some k:=by obtain⟨k0,s,x,ks⟩:=t;have e':p=(m:Int) ::r:=e;rw[e'];show(if (m:Int)<0 then none else ja (m:Int).toNat r ks)=some k;rw[if_neg (by omega)];exact hkk
 obtain⟨g1,g2⟩:=Fo t 1 _ k hr hpath;exact⟨fun z hz=>by have:=g2 z hz;exact⟨this.1,by omega⟩,by omega⟩
theorem RV{t:ag}{p:List Int×List Int}(h:p∈kb t):jv t:=by refine JD.2 (Classical.byContradiction fun hc=>?_);unfold kb i5 at h;rw[if_pos hc] at h;simp at h
theorem RU{t:ag}(hs:t.sz<=100000){u b:List Int}(h:(u,b)∈kb t):(dE u/\u.length<=40)/\dE b/\b.length<=40:=by obtain⟨hk,hr,st,hl⟩:=RV h;obtain⟨_,_,i,h1,h2⟩:=(KQ hk hr hl).1 h;exact⟨M9 hk hr hl hs h1,M9 hk hr hl hs h2⟩
def Jn(m:ag)(g:List Int->Option (List Int))(p:List Int×List Int):Bool:=match g p.1 with
 |none=>true
 |some u=>match g p.2 with
  |none=>false
  |some b=>tg m u b
theorem Oe{n m:ag}{g:List Int->Option (List Int)}:qq n m g=(kb n).all (Jn m g):=rfl
theorem ic.kept{N:Nat}{W0:World}:ic N (fun W=>lQ W0 W):=⟨fun A B h hb=>h.trans (lQ.below hb),fun A l o o' h hN hl ho=>h.trans (lQ.put o' hl ho)⟩
theorem cf.kept{A B:World}{t:ag}{k:Nat}{s:ByteArray}{x:Int}{a:Option Addr}{n c:Nat}(h:cf A t k s x a n c)(hk:lQ A B):cf B t k s x a n c:=h.keep fun _ _ hc=>hk.cell hc
theorem Rh{F:Fence}{n:Nat}{W:World}{t:Array Value}{b:Nat}{v:Value}{R:Ending->World->Prop}(h4:t[4]? =some (.pointer (some ⟨b,0,none⟩)))(hc:W.cell? ⟨b,0,none⟩=some v)(h:R (.returned v) W):bodyPostM F n Tryz.prog Tryz.f13 R Exit.ret { tmps:=t,defers:=[] } W:=by refine⟨v,?_,h⟩;simp[results,Tryz.f13,go_sem,h4,hc]
def LF(b:Bool)(w:World)(e:Ending)(w':World):Prop:=e= .returned (.bool b)/\Below w.heap.size w w'
theorem Kk(T:ag)(k:Nat)(s:ByteArray)(x:Int)(A:Option Addr)(n c:Nat)(e:aj)(ke:Nat)(pA:Option Addr)(pn pc:Nat)(i j:Int)(f t:ByteArray)(oA:Option Addr)(on oc:Nat)(nA:Option Addr)(nn nc:Nat)(w:World)(hN:cf w T k s x A n c)(hE:bI w)(hT:JM T)(hed:ay w e ke pA pn pc i j f t oA on oc nA nn nc)(hm:e.mid)(hf:e.frm.length<=281474976710656)(hp:pn<=17592186044416):Calls Tryz.prog 13 #[.agg #[.int .u8 k,.string s,.int .i64 x,.slice A n c],.agg #[.int .u8 ke,.slice pA pn pc,.int .i64 i,.int .i64 j,.string f,.string t,.slice oA on oc,.slice nA nn nc]] w (LF (j4 T e) w):=by
 have HN:=ab hN;have HE:=ab hE;have HED:=ab hed;clear hN hE hed;refine(callsIn_wide (n:=3)).1 ?_;refine callsIn_of_wp_marks Tryz.func13 rfl trivial ?_ rfl;simp only[Tryz.ntmps13,List.size_toArray,List.length_cons,List.length_nil,Nat.reduceAdd,Nat.reduceSub,Array.replicate_succ,Array.replicate_zero,List.push_toArray,List.append_toArray,List.nil_append,List.cons_append];have hB4:Below w.heap.size w ((((w.alloc (.cells #[.int .u8 k,.string s,.int .i64 x,.slice A n c] 25)).alloc (.cells #[.int .u8 ke,.slice pA pn pc,.int .i64 i,.int .i64 j,.string f,.string t,.slice oA on oc,.slice nA nn nc] 29)).alloc (.cells #[.bool false] 4)).alloc (.cells #[.int .u8 ke,.slice pA pn pc,.int .i64 i,.int .i64 j,.string f,.string t,.slice oA on oc,.slice nA nn nc] 29)):=((((ai _ _).alloc (ah _) _).alloc (by simp) _).alloc (by simp;omega) _).alloc (by simp;omega) _;have HS4:Hid (((((w.alloc (.cells #[.int .u8 k,.string s,.int .i64 x,.slice A n c] 25)).alloc (.cells #[.int .u8 ke,.slice pA pn pc,.int .i64 i,.int .i64 j,.string f,.string t,.slice oA on oc,.slice nA nn nc] 29)).alloc (.cells #[.bool false] 4)).alloc (.cells #[.int .u8 ke,.slice pA pn pc,.int .i64 i,.int .i64 j,.string f,.string t,.slice oA on oc,.slice nA nn nc] 29)).heap.size=w.heap.size+4):=(by show _=_;simp);have hbx4:((((w.alloc (.cells #[.int .u8 k,.string s,.int .i64 x,.slice A n c] 25)).alloc (.cells #[.int .u8 ke,.slice pA pn pc,.int .i64 i,.int .i64 j,.string f,.string t,.slice oA on oc,.slice nA nn nc] 29)).alloc (.cells #[.bool false] 4)).alloc (.cells #[.int .u8 ke,.slice pA pn pc,.int .i64 i,.int .i64 j,.string f,.string t,.slice oA on oc,.slice nA nn nc] 29)).heap[w.heap.size+1+1+1]? =some (.cells #[.int .u8 ke,.slice pA pn pc,.int .i64 i,.int .i64 j,.string f,.string t,.slice oA on oc,.slice nA nn nc] 29 (0,0)):=heap_alloc_at (by simp);have hbxE:((((w.alloc (.cells #[.int .u8 k,.string s,.int .i64 x,.slice A n c] 25)).alloc (.cells #[.int .u8 ke,.slice pA pn pc,.int .i64 i,.int .i64 j,.string f,.string t,.slice oA on oc,.slice nA nn nc] 29)).alloc (.cells #[.bool false] 4)).alloc (.cells #[.int .u8 ke,.slice pA pn pc,.int .i64 i,.int .i64 j,.string f,.string t,.slice oA on oc,.slice nA nn nc] 29)).heap[w.heap.size+1]? =some (.cells #[.int .u8 ke,.slice pA pn pc,.int .i64 i,.int .i64 j,.string f,.string t,.slice oA on oc,.slice nA nn nc] 29 (0,0)):=(Below.heap_alloc _ _ _ (by simp)).trans ((Below.heap_alloc _ _ _ (by simp)).trans (heap_alloc_at (by simp)));have hbxN:((((w.alloc (.cells #[.int .u8 k,.string s,.int .i64 x,.slice A n c] 25)).alloc (.cells #[.int .u8 ke,.slice pA pn pc,.int .i64 i,.int .i64 j,.string f,.string t,.slice oA on oc,.slice nA nn nc] 29)).alloc (.cells #[.bool false] 4)).alloc (.cells #[.int .u8 ke,.slice pA pn pc,.int .i64 i,.int .i64 j,.string f,.string t,.slice oA on oc,.slice nA nn nc] 29)).heap[w.heap.size]? =some (.cells #[.int .u8 k,.string s,.int .i64 x,.slice A n c] 25 (0,0)):=(Below.heap_alloc _ _ _ (by simp;omega)).trans ((Below.heap_alloc _ _ _ (by simp;omega)).trans ((Below.heap_alloc _ _ _ (by simp)).trans (heap_alloc_at rfl)));have HCB:Hid (iy ((((w.alloc (.cells #[.int .u8 k,.string s,.int .i64 x,.slice A n c] 25)).alloc (.cells #[.int .u8 ke,.slice pA pn pc,.int .i64 i,.int .i64 j,.string f,.string t,.slice oA on oc,.slice nA nn nc] 29)).alloc (.cells #[.bool false] 4)).alloc (.cells #[.int .u8 ke,.slice pA pn pc,.int .i64 i,.int .i64 j,.string f,.string t,.slice oA on oc,.slice nA nn nc] 29)) (w.heap.size+1+1) (.bool false)):=(Ky (by simp)).alloc _;have HED4:Hid (Gr ((((w.alloc (.cells #[.int .u8 k,.string s,.int .i64 x,.slice A n c] 25)).alloc (.cells #[.int .u8 ke,.slice pA pn pc,.int .i64 i,.int .i64 j,.string f,.string t,.slice oA on oc,.slice nA nn nc] 29)).alloc (.cells #[.bool false] 4)).alloc (.cells #[.int .u8 ke,.slice pA pn pc,.int .i64 i,.int .i64 j,.string f,.string t,.slice oA on oc,.slice nA nn nc] 29)) e (w.heap.size+1+1+1) 0):=by obtain⟨a0,a1,a2,a3,a4,a5,a6,a7⟩:=(aw hbx4).cs;exact⟨ke,pA,pn,pc,i,j,f,t,oA,on,oc,nA,nn,nc,a0,a1,a2,a3,a4,a5,a6,a7,HED.out.below hB4⟩
 have HAP:=ab (Mi e T k s x A n c (w.heap.size+1+1+1) 0 1 ((((w.alloc (.cells #[.int .u8 k,.string s,.int .i64 x,.slice A n c] 25)).alloc (.cells #[.int .u8 ke,.slice pA pn pc,.int .i64 i,.int .i64 j,.string f,.string t,.slice oA on oc,.slice nA nn nc] 29)).alloc (.cells #[.bool false] 4)).alloc (.cells #[.int .u8 ke,.slice pA pn pc,.int .i64 i,.int .i64 j,.string f,.string t,.slice oA on oc,.slice nA nn nc] 29)) (HN.out.below hB4) (HE.out.below hB4 (ah _)) hT HED4.out (by omega) (by unfold maxLen;omega) hm hf);have HB4:=ab hB4;have HBE:=ab hbxE;have HBN:=ab hbxN;clear hB4 hbx4 hbxE hbxN HED4
 gi_wp2_with fail
 generalize ((((w.alloc (.cells #[.int .u8 k,.string s,.int .i64 x,.slice A n c] 25)).alloc (.cells #[.int .u8 ke,.slice pA pn pc,.int .i64 i,.int .i64 j,.string f,.string t,.slice oA on oc,.slice nA nn nc] 29)).alloc (.cells #[.bool false] 4)).alloc (.cells #[.int .u8 ke,.slice pA pn pc,.int .i64 i,.int .i64 j,.string f,.string t,.slice oA on oc,.slice nA nn nc] 29))=W4 at HS4 HCB HAP HB4 HBE HBN ⊢;refine⟨trivial,(callsIn_wide.2 HAP.out).mono ?_⟩;intro en w1 hpost;obtain⟨hb1,hpost⟩:=hpost;have HB1:=ab (HB4.out.trans (hb1.mono HB4.out.size));have HS1:Hid (w.heap.size+4<=w1.heap.size):=(by show _<=_;have:=HS4.out;have:=hb1.size;omega);have HCB1:Hid (iy w1 (w.heap.size+1+1) (.bool false)):=⟨ac hb1 HCB.out.1,(World.frozen?_of_block (hb1.block _ (bK HCB.out.1))).trans HCB.out.2⟩;have HBE1:=ab ((hb1.block _ (aK.1 HBE.out).1).trans HBE.out);have HBN1:=ab ((hb1.block _ (aK.1 HBN.out).1).trans HBN.out);have hnz:=Lg T e;cases hap:Cw ek T [e] with
 |error fe=>
  rw[hap] at hpost;have HSF:Hid (j4 T e=false):=(by show _=_;unfold j4;rw[hap]);have hfe:fe≠0:=by
   intro h0;subst h0;unfold Cw at hap;split at hap
   .injection hap with hap;omega
   .unfold CM at hap;split at hap
    .cases ho:ek T e with
     |error m=>rw[ho] at hap;simp only at hap;injection hap with hap;subst hap;exact hnz ho
     |ok u=>rw[ho] at hap;unfold CM at hap;cases hap
    .injection hap with hap;omega
  have hfz:((fe:Int) == 0)=false:=(by simpa using hfe);have hfn:((fe:Int) != 0)=true:=(by simpa using hfe);have hpost:en= .returned (.tuple #[.agg #[.int .u8 0,.string ⟨#[]⟩,.int .i64 0,.slice none 0 0],.int .i64 fe]):=hpost;subst hpost;have HCA:=ab (HCB1.out.alloc (.cells #[.int .u8 0,.string ⟨#[]⟩,.int .i64 0,.slice none 0 0] 25));have c2:=HCA.out.1;have f2:=HCA.out.2;have hlt:=HS1.out;clear hb1 hap
  gi_wp2
  exact Rh rfl (World.cell?_setCell_same' _ _ _ (by rw[c2];rfl)) ⟨by rw[HSF.out],((HB1.out.alloc HB1.out.size _).setCell (p:=⟨w.heap.size+1+1,0,none⟩) (by simp;omega) _)⟩
 |ok m=>
  rw[hap] at hpost;obtain⟨hprog,hright,hone⟩:=JO.1 hap;have HPM:Hid (jv m/\m.sz<=100000/\m.short 281474976710656):=by
   have h1:jv m:=by
    by_cases hk1:e.kind=1
    .rw[Md hk1] at hone;exact(KJ hprog hone).1
    .exact((KE hright hk1).1 hone).2
   obtain⟨h2,h3⟩:=Me hright hm (S:=20000) hT hone;have h4:=hm.olds.1;have h5:=hm.news.1;exact⟨h1,by omega,h3⟩
  have HSF:Hid (j4 T e=qq T m (d9 e)):=(by show _=_;unfold j4;rw[hap]);have hpost:∃(k:Nat) (s:ByteArray) (x:Int) (A:Option Addr) (n c:Nat),en= .returned (.tuple #[.agg #[.int .u8 k,.string s,.int .i64 x,.slice A n c],.int .i64 0])/\cf (cX w1 W4.heap.size) m k s x A n c:=hpost;obtain⟨k',s',x',A',n',c',rfl,hnm⟩:=hpost;have HNM:=ab hnm.since;have hek:e.kind=ke/\e.at_=i/\e.far=j/\cc w e.path pA pn pc:=by obtain⟨ps,os,ns,e9,h1,_⟩:=HED.out;rw[e9];exact⟨rfl,rfl,rfl,h1⟩
  obtain⟨he1,he2,he3,he4⟩:=hek;have hbN:Below w1.heap.size w1 (w1.alloc (.cells #[.int .u8 k',.string s',.int .i64 x',.slice A' n' c'] 25)):=(ai _ _).alloc (ah _) _;have HBW:=ab (HB1.out.trans (hbN.mono HB1.out.size));have HG:=ab (Qq e ke pA pn pc (.string f) (.string t) (.slice oA on oc) (.slice nA nn nc) (w1.alloc (.cells #[.int .u8 k',.string s',.int .i64 x',.slice A' n' c'] 25)) he1 hright (he4.below HBW.out) hp);rw[he2,he3] at HG;have HCA:=ab (HCB1.out.alloc (.cells #[.int .u8 k',.string s',.int .i64 x',.slice A' n' c'] 25));have HBEA:=ab ((hbN.block _ (aK.1 HBE1.out).1).trans HBE1.out);have HBNA:=ab ((hbN.block _ (aK.1 HBN1.out).1).trans HBN1.out);have HBMA:Hid ((w1.alloc (.cells #[.int .u8 k',.string s',.int .i64 x',.slice A' n' c'] 25)).heap[w1.heap.size]? =some (.cells #[.int .u8 k',.string s',.int .i64 x',.slice A' n' c'] 25 (0,0))):=heap_alloc_at rfl;have HNMA:=ab (HNM.out.below hbN);have HSA:Hid (w.heap.size+5<=(w1.alloc (.cells #[.int .u8 k',.string s',.int .i64 x',.slice A' n' c'] 25)).heap.size):=(by show _<=_;have:=HS1.out;simp;omega);have hw1s:=HS1.out;clear hb1 hap hnm he1 he2 he3 he4 hbN hone hprog HCB1 HBE1 HBN1 HNM;obtain⟨a0,a1,a2,a3,a4,a5,a6,a7⟩:=(aw HBEA.out).cs
  gi_wp2_with fail
  generalize hWA:(w1.alloc (.cells #[.int .u8 k',.string s',.int .i64 x',.slice A' n' c'] 25))=WA at HBW HG HCA HBEA HBNA HBMA HNMA HSA ⊢;refine⟨trivial,(callsIn_wide.2 HG.out).mono ?_⟩;rintro en2 w2 ⟨hb2,F,rfl,hGF⟩;obtain⟨rO,lb,rfl,hcf,hgo⟩:=hGF;have HGO:=ab hgo;have hbF:Below WA.heap.size WA (w2.alloc (.cells #[.func (.func rO) #[] lb] 58)):=hb2.trans (((ai _ _).alloc (ah _) _).mono hb2.size);obtain⟨b0,b1,b2,b3,_⟩:=di ((hbF.block _ (aK.1 HBNA.out).1).trans HBNA.out);clear hgo a0 a1 a2 a3 a4 a5 a6 a7
  gi_wp2_with fail
  refine⟨trivial,(callsIn_wide.2 (NS _ _ _ _ _ _ _)).mono ?_⟩;rintro en3 w3 ⟨rfl,rfl⟩;have hbF2:Below WA.heap.size WA ((w2.alloc (.cells #[.func (.func rO) #[] lb] 58)).alloc (.cells #[.int .u8 k,.string s,.int .i64 x,.slice A n c] 25)):=hbF.trans (((ai _ _).alloc (ah _) _).mono hbF.size);have HB6:=ab (HBW.out.trans (hbF2.mono HBW.out.size));have HSF2:Hid (WA.heap.size<=w2.heap.size):=hb2.size;have HS6:Hid (w.heap.size+5<=((w2.alloc (.cells #[.func (.func rO) #[] lb] 58)).alloc (.cells #[.int .u8 k,.string s,.int .i64 x,.slice A n c] 25)).heap.size):=(by show _<=_;have h1:=HSA.out;have h2:=hbF2.size;omega);have HC6:Hid (iy ((w2.alloc (.cells #[.func (.func rO) #[] lb] 58)).alloc (.cells #[.int .u8 k,.string s,.int .i64 x,.slice A n c] 25)) (w.heap.size+1+1) (.bool false)):=⟨ac hbF2 HCA.out.1,(World.frozen?_of_block (hbF2.block _ (bK HCA.out.1))).trans HCA.out.2⟩;have HF6:Hid (iy ((w2.alloc (.cells #[.func (.func rO) #[] lb] 58)).alloc (.cells #[.int .u8 k,.string s,.int .i64 x,.slice A n c] 25)) w2.heap.size (.func (.func rO) #[] lb)):=(Ky rfl).alloc _;have HNM6:=ab (HNMA.out.below hbF2);have HBM6:=ab ((hbF2.block _ (aK.1 HBMA.out).1).trans HBMA.out);have HK6:Hid (lQ w2 ((w2.alloc (.cells #[.func (.func rO) #[] lb] 58)).alloc (.cells #[.int .u8 k,.string s,.int .i64 x,.slice A n c] 25))):=(lQ.below ((ai _ _).alloc (ah _) _)).trans (lQ.below ((ai _ _).alloc (ah _) _));obtain⟨n0,n1,n2,n3,_⟩:=di (heap_alloc_at (w:=w2.alloc (.cells #[.func (.func rO) #[] lb] 58)) (o:=(.cells #[.int .u8 k,.string s,.int .i64 x,.slice A n c] 25)) (n:=w2.heap.size+1) (by simp));have HSQ:=ab (Oy T k s x A n c (w2.heap.size+1) ((w2.alloc (.cells #[.func (.func rO) #[] lb] 58)).alloc (.cells #[.int .u8 k,.string s,.int .i64 x,.slice A n c] 25)) (3 - 1) (by omega) (HN.out.below HB6.out) hT.2 (aJ hT.1 (by omega)) (HE.out.below HB6.out (ah _)) n0 n1 n2 n3);clear hbF hbF2 hb2 n0 n1 n2 n3 b0 b1 b2 b3;generalize ((w2.alloc (.cells #[.func (.func rO) #[] lb] 58)).alloc (.cells #[.int .u8 k,.string s,.int .i64 x,.slice A n c] 25))=W6 at HB6 HS6 HC6 HF6 HNM6 HBM6 HK6 HSQ ⊢;have hs6:=HS6.out
  gi_wp2_with fail
  refine OC rfl (by omega) (gf:=79) (lb:=#[.pointer (some ⟨w2.heap.size+1,0,none⟩)]) rfl trivial (enters_of Tryz.func79 (by kernel_rfl) rfl) HSQ.out (ai _ _) (by rfl)
   (fun pre W=>(∀q∈pre,Jn m (d9 e) q=true)/\(iy W (w.heap.size+1+1) (.bool false)/\iy W w2.heap.size (.func (.func rO) #[] lb))/\lQ W6 W/\Below w.heap.size w W)
   (fun W=>iy W (w.heap.size+1+1) (.bool (qq T m (d9 e)))/\Below w.heap.size w W)
   (fun pre=>ic.const.and ((ic.cell.and ic.cell).and (ic.kept.and (ic.below (by omega)))))
   (ic.cell.and (ic.below (by omega)))
   ⟨by simp,⟨HC6.out,HF6.out⟩,lQ.refl _,HB6.out⟩
   (fun y=>{ tmps:=#[.agg #[.int .u8 k,.string s,.int .i64 x,.slice A n c],.agg #[.int .u8 ke,.slice pA pn pc,.int .i64 i,.int .i64 j,.string f,.string t,.slice oA on oc,.slice nA nn nc],.pointer (some ⟨w.heap.size,0,none⟩),.pointer (some ⟨w.heap.size+1,0,none⟩),.pointer (some ⟨w.heap.size+1+1,0,none⟩),.pointer (some ⟨w1.heap.size,0,none⟩),.int .i64 0,.pointer (some ⟨w2.heap.size,0,none⟩),.slice y.uA y.ul y.uc,.slice y.bA y.bl y.bc,undef,undef,undef,undef,.tuple #[.agg #[.int .u8 k',.string s',.int .i64 x',.slice A' n' c'],.int .i64 0],.agg #[.int .u8 k,.string s,.int .i64 x,.slice A n c],.agg #[.int .u8 ke,.slice pA pn pc,.int .i64 i,.int .i64 j,.string f,.string t,.slice oA on oc,.slice nA nn nc],.slice (some ⟨w.heap.size+1+1+1,0,none⟩) 1 1,.tuple #[.agg #[.int .u8 k',.string s',.int .i64 x',.slice A' n' c'],.int .i64 0],.agg #[.int .u8 k',.string s',.int .i64 x',.slice A' n' c'],.int .i64 0,.int .i64 0,.bool false,.agg #[.int .u8 ke,.slice pA pn pc,.int .i64 i,.int .i64 j,.string f,.string t,.slice oA on oc,.slice nA nn nc],.agg #[.int .u8 ke,.slice pA pn pc,.int .i64 i,.int .i64 j,.string f,.string t,.slice oA on oc,.slice nA nn nc],.func (.func rO) #[] lb,.agg #[.int .u8 k,.string s,.int .i64 x,.slice A n c],.func (.func 79) #[] #[.pointer (some ⟨w2.heap.size+1,0,none⟩)],.slice y.uA y.ul y.uc,.slice y.bA y.bl y.bc,undef,undef,undef,undef,undef,undef,undef,undef,undef,undef,undef,undef,undef,undef,undef,undef,undef,undef,undef,undef,undef,undef,undef],defers:=[] }) ?assign ?body ?done ?stop
  case assign=>
   intro l y W K hK;simp only[PV.enc]
   gi_wp2
   exact hK
  case body=>
   rintro l pre p y W ⟨hne,⟨hc1,hc2⟩,hK,hB⟩ hpre hy;have hmem:p∈kb T:=(by obtain⟨r,hr⟩:=hpre;rw[<-hr];simp);obtain⟨⟨fu,lu⟩,fb,lb'⟩:=RU (aJ hT.1 (by omega)) hmem;have HNE:=ab hne;have HB:=ab hB;have HF:=ab (And.intro hc1 hc2);have HY:=ab hy;have HKK:=ab (HK6.out.trans hK);have HFB:=ab (And.intro fb lb');have HG1:=ab (HGO.out W p.1 y.uA y.ul y.uc HKK.out hy.1 fu (by have:=hy.1.1;omega));have d1:=hc1.1;have f1:=hc1.2;have d2:=hc2.1;obtain⟨m0,m1,m2,m3,_⟩:=di (hK.2 _ _ HBM6.out rfl);have HNMW:=ab (HNM6.out.kept hK);have HBM7:=ab (hK.2 _ _ HBM6.out rfl);have HBAD:Hid (Jn m (d9 e) p=false->qq T m (d9 e)=false):=fun h=>by rw[Oe,List.all_eq_false];exact⟨p,hmem,by simp[h]⟩
   have HNX:Hid (Jn m (d9 e) p=true->∀q∈pre++[p],Jn m (d9 e) q=true):=fun h q hq=>by
    rcases List.mem_append.1 hq with hq|hq
    .exact HNE.out q hq
    .obtain rfl:=List.mem_singleton.1 hq;exact h
   have HKW:=ab hK;clear hpre hne hB hc1 hc2 hy hK fu lu fb lb' hmem;have lift:∀V,Below W.heap.size W V->(iy V (w.heap.size+1+1) (.bool false)/\iy V w2.heap.size (.func (.func rO) #[] lb))/\lQ W6 V/\Below w.heap.size w V:=fun V hv=>⟨⟨HF.out.1.below hv,HF.out.2.below hv⟩,HKW.out.trans (lQ.below hv),HB.out.trans (hv.mono HB.out.size)⟩;have HLI:=ab lift;clear lift
   gi_wp2_with fail
   refine⟨trivial,(CallsIn.inRound l (callsIn_wide.2 HG1.out)).mono ?_⟩;intro en4 w4 hgp;obtain⟨hb4,hgp⟩:=hgp;have HB4:=ab hb4;have HI4:=ab (HLI.out w4 hb4);clear d1 f1 d2 m0 m1 m2 m3;cases hg1:d9 e p.1 with
   |none=>
    rw[hg1] at hgp;have hgp:∃A n c,en4= .returned (.tuple #[.slice A n c,.bool false]):=hgp;obtain⟨A4,n4,c4,rfl⟩:=hgp;have HGD:=ab (HNX.out (by unfold Jn;rw[hg1]));clear hb4 hg1
    gi_wp2
    exact⟨HB4.out,HGD.out,HI4.out⟩
   |some u4=>
    rw[hg1] at hgp;have hgp:∃A n c,en4= .returned (.tuple #[.slice A n c,.bool true])/\cc w4 u4 A n c:=hgp;obtain⟨A4,n4,c4,rfl,hi4⟩:=hgp;have HU4:=ab hi4;have HG2:=ab (HGO.out w4 p.2 y.bA y.bl y.bc (HKK.out.trans (lQ.below hb4)) (HY.out.2.below hb4) HFB.out.1 (by have:=HY.out.2.1;have:=HFB.out.2;omega));have d2:=HI4.out.1.2.1;clear hb4 hi4
    gi_wp2_with fail
    refine⟨trivial,(CallsIn.inRound l (callsIn_wide.2 HG2.out)).mono ?_⟩;intro en5 w5 hgp;obtain⟨hb5,hgp⟩:=hgp;have HB5:Hid (Below W.heap.size W w5):=HB4.out.trans (hb5.mono HB4.out.size);have HI5:=ab (HLI.out w5 HB5.out);have HU5:=ab (HU4.out.below hb5);clear d2;cases hg2:d9 e p.2 with
    |none=>
     rw[hg2] at hgp;have hgp:∃A n c,en5= .returned (.tuple #[.slice A n c,.bool false]):=hgp;obtain⟨A5,n5,c5,rfl⟩:=hgp;have HSF2:=ab (HBAD.out (by unfold Jn;rw[hg1,hg2]));have d1:=HI5.out.1.1.1;have f1:=HI5.out.1.1.2;clear hb5 hg1 hg2;obtain⟨m0,m1,m2,m3,_⟩:=di ((HB5.out.block _ (aK.1 HBM7.out).1).trans HBM7.out)
     gi_wp2
     refine⟨trivial,?_⟩
     gi_wp2
     exact⟨(KeepsOthers.below HB5.out).trans (KeepsOthers.setCell _ _ _),⟨by rw[HSF2.out];exact World.cell?_setCell_same' _ _ _ (by rw[d1];rfl),by rw[World.frozen?_setCell];exact f1⟩,HI5.out.2.2.setCell (p:=⟨w.heap.size+1+1,0,none⟩) (by simp;omega) _⟩
    |some b5=>
     rw[hg2] at hgp;have hgp:∃A n c,en5= .returned (.tuple #[.slice A n c,.bool true])/\cc w5 b5 A n c:=hgp;obtain⟨A5,n5,c5,rfl,hi5⟩:=hgp;have HST:=ab (QJ m k' s' x' A' n' c' u4 b5 A4 n4 c4 A5 n5 c5 w5 (HNMW.out.below HB5.out) HPM.out.2.2 HPM.out.2.1 (HE.out.below HI5.out.2.2 (ah _)) HU5.out hi5);have HGP:Hid (Jn m (d9 e) p=tg m u4 b5):=(by show _=_;unfold Jn;rw[hg1,hg2]);obtain⟨m0,m1,m2,m3,_⟩:=di ((HB5.out.block _ (aK.1 HBM7.out).1).trans HBM7.out);clear hb5 hg1 hg2 hi5
     gi_wp2_with fail
     refine⟨trivial,(CallsIn.inRound l (callsIn_wide.2 HST.out)).mono ?_⟩;rintro en6 w6 ⟨rfl,hb6⟩;have HB6':Hid (Below W.heap.size W w6):=HB5.out.trans (hb6.mono HB5.out.size);have HI6:=ab (HLI.out w6 HB6'.out);have d1:=HI6.out.1.1.1;have f1:=HI6.out.1.1.2;clear hb6 m0 m1 m2 m3;cases hst:tg m u4 b5 with
     |true=>
      have HGD:=ab (HNX.out (by rw[HGP.out,hst]));clear hst
      gi_wp2
      exact⟨HB6'.out,HGD.out,HI6.out⟩
     |false=>
      have HSF2:=ab (HBAD.out (by rw[HGP.out,hst]));clear hst
      gi_wp2
      exact⟨(KeepsOthers.below HB6'.out).trans (KeepsOthers.setCell _ _ _),⟨by rw[HSF2.out];exact World.cell?_setCell_same' _ _ _ (by rw[d1];rfl),by rw[World.frozen?_setCell];exact f1⟩,HI6.out.2.2.setCell (p:=⟨w.heap.size+1+1,0,none⟩) (by simp;omega) _⟩
  case done=>
   rintro D W hD ⟨hall,⟨hc,_⟩,_,hB⟩ hK;obtain⟨hcr,hfr⟩:=hc;have HS:Hid (qq T m (d9 e)=true):=by show _=_;rw[Oe,List.all_eq_true];exact hall
   gi_wp2
   have hK':=(KeepsOthers.setCell W ⟨w.heap.size+1+1,0,none⟩ (.bool true)).same D _ hK rfl;refine⟨by simp,.inl ⟨_,_,rfl,run_takeDeferred hK',?_⟩⟩;have hc5:=cell_kept (World.cell?_setCell_same' W ⟨w.heap.size+1+1,0,none⟩ (.bool true) (by rw[hcr];rfl)) (grownBy_putObj' _ D (.deferred none)) (fun r e=>by cases e;exact⟨_,hK',rfl⟩);refine⟨.bool true,?_,by rw[HSF.out,HS.out],(hB.setCell (p:=⟨w.heap.size+1+1,0,none⟩) (by simp;omega) _).trans (belowK_b (w:=w) (ah _) _ D _ _ (by omega) hK' rfl rfl)⟩;simp[results,Tryz.f13,go_sem,hc5]
  case stop=>
   rintro D W hD ⟨⟨hcr,_⟩,hB⟩ hK
   gi_wp2
   refine⟨by simp,.inl ⟨_,_,rfl,run_takeDeferred hK,?_⟩⟩;have hc5:=cell_kept hcr (grownBy_putObj' _ D (.deferred none)) (fun r e=>by cases e;exact⟨_,hK,rfl⟩);refine⟨.bool (qq T m (d9 e)),?_,by rw[HSF.out],hB.trans (belowK_b (w:=w) (ah _) W D _ _ (by omega) hK rfl rfl)⟩;simp[results,Tryz.f13,go_sem,hc5]
end
end Go.Proofs.YtfipahjodfminaaGreatDoor
