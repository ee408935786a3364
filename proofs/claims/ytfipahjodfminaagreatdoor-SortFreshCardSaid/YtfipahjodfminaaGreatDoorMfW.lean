/- Part 23 of the proof. -/
import Derived.Test.YtfipahjodfminaaGreatDoorMfV
namespace Go.Proofs.YtfipahjodfminaaGreatDoor
open Go.RowKit
set_option linter.all false
set_option maxHeartbeats 40000000
set_option maxRecDepth 100000
theorem Kr:∀(p:List Int) (t:ag),t.sub p=b7 p t
 |[],t=>by rw[IP];rfl
 |z::p,.node k s x ks=>by
  show(if z<0 then none else C0 z.toNat p ks)=if z<0 then none else(ks[z.toNat]?).bind (b7 p)
  rw[Gf]
  congr 2
  funext t;exact Kr p t
theorem Lm{u:ag}{p:List Int}:∀(ts:List ag) (n:Nat) (t:ag),ts[n]? =some t->CT u n p ts=ts.set n (ag.putAt u p t)
 |[],n,t,h=>by simp at h
 |t::ts,0,t',h=>by simp at h;subst h;rfl
 |t::ts,n+1,t',h=>by show t::CT u n p ts=t::ts.set n _;rw[Lm ts n t' (by simpa using h)]
theorem JS{F:ag->Option ag}:∀(p:List Int) (t m:ag),s8 F p t=some m↔∃l l',b7 p t=some l/\F l=some l'/\m=ag.putAt l' p t
 |[],t,m=>by
  constructor
  .intro h;exact⟨t,m,rfl,h,by cases t;rfl⟩
  .rintro⟨l,l',h1,h2,rfl⟩;have h1:some t=some l:=h1;injection h1 with h1;subst h1;have:ag.putAt l' [] t=l':=(by cases t;rfl);rw[this];exact h2
 |z::p,.node k s x ks,m=>by
  constructor
  .intro h;obtain⟨hz,u,u',h1,h2,rfl⟩:=L5 h;obtain⟨l,l',h3,h4,rfl⟩:=(JS p u u').1 h2;refine⟨l,l',?_,h4,?_⟩
   .unfold b7;rw[if_neg (by omega),h1];exact h3
   .show _=ag.node k s x (CT l' z.toNat p ks);rw[Lm ks _ u h1]
  .rintro⟨l,l',h1,h2,rfl⟩;unfold b7 at h1;split at h1
   .cases h1
   .rename_i hz;cases hu:ks[z.toNat]? with
    |none=>rw[hu] at h1;cases h1
    |some u=>rw[hu] at h1;show s8 F (z::p) _=some (ag.node k s x (CT l' z.toNat p ks));rw[Lm ks _ u hu];exact NB (by omega) hu ((JS p u _).2 ⟨l,l',h1,h2,rfl⟩)
theorem Nj{l':ag}:∀(p:List Int) (t l:ag),b7 p t=some l->b7 p (ag.putAt l' p t)=some l'
 |[],t,l,h=>by cases t;rfl
 |z::p,.node k s x ks,l,h=>by
  unfold b7 at h;split at h
  .cases h
  .rename_i hz;cases hu:ks[z.toNat]? with
   |none=>rw[hu] at h;cases h
   |some u=>rw[hu] at h;show b7 (z::p) (ag.node k s x (CT l' z.toNat p ks))=some l';rw[Lm ks _ u hu];have hl:=(gl.1 hu).1;unfold b7;rw[if_neg hz,List.getElem?_set_self hl];exact Nj p u l h
theorem LQ:∀(p q:List Int) (t:ag),b7 (p++q) t=(b7 p t).bind (b7 q)
 |[],q,t=>rfl
 |z::p,q,.node k s x ks=>by
  show(if z<0 then none else(ks[z.toNat]?).bind (b7 (p++q)))=(if z<0 then none else(ks[z.toNat]?).bind (b7 p)).bind (b7 q);split
  .rfl
  .cases ks[z.toNat]? with
   |none=>rfl
   |some u=>exact LQ p q u
theorem KA{v:ag}:∀(ks:List ag) (i:Nat),i<=ks.length->ks.insertIdx i v=ks.take i++v::ks.drop i
 |ks,0,_=>by simp
 |[],i+1,h=>by simp at h
 |k::ks,i+1,h=>by rw[List.insertIdx_succ_cons,KA ks i (by simpa using h)];simp
theorem Kc{T l:ag}{p zs:List Int}:ie T p zs= .ok l↔b7 p T=some l/\JR l.kind=true/\∀z∈zs,z<=l.kids.length:=by
 have hk:∀k,JQ k=JR k:=fun _=>rfl;unfold ie;rw[Kr];cases b7 p T with
 |none=>simp
 |some l'=>
  simp only[hk,Option.some.injEq];constructor
  .intro h;split at h
   .rename_i hc;injection h with h;subst h;simp only[Bool.and_eq_true,Bool.not_eq_true',kx,List.any_eq_false,decide_eq_true_eq] at hc;exact⟨rfl,hc.1,fun z hz=>by have:=hc.2 z hz;omega⟩
   .cases h
  .rintro⟨rfl,h1,h2⟩;rw[if_pos];simp only[Bool.and_eq_true,Bool.not_eq_true',kx,List.any_eq_false,decide_eq_true_eq];exact⟨h1,fun z hz=>by have:=h2 z hz;omega⟩
mutual
theorem Ob:∀(t:ag) (d:Nat),cE d t=true->t.deep+d<=41
 | .node k s x ks,d,h=>by
  unfold cE at h;split at h
  .cases h
  simp only[Bool.and_eq_true,decide_eq_true_eq] at h;obtain⟨⟨⟨⟨h1,_⟩,_⟩,h4⟩,_⟩:=h;have:=Oa ks k 0 (d+1) h4;simp only[ag.deep];omega
theorem Oa:∀(ts:List ag) (k i d:Nat),bV k i d ts=true->kr ts=0∨kr ts+d<=41
 |[],k,i,d,h=>.inl rfl
 |t::ts,k,i,d,h=>by unfold bV at h;simp only[Bool.and_eq_true] at h;have h1:=Ob t d h.1.2;have h2:=Oa ts k (i+1) d h.2;simp only[kr];omega
end
theorem JY{x m:ag}:jj x= .ok m↔x=m/\jv m:=by
 unfold jj;constructor
 .intro h;split at h
  .cases h
  .split at h
   .cases h
   .rename_i h1;injection h with h;subst h;exact⟨rfl,JD.2 (by simpa using h1)⟩
 .rintro⟨rfl,h⟩;have h1:=JD.1 h;have h2:=Ob x 1 h.2.1;rw[if_neg (by omega),if_neg (by simpa using h1)]
theorem Lf{T o:ag}{p zs:List Int}{i:Nat}(hz:((i:Int)+1)∈zs):jc T p zs i o=0↔∃l,ie T p zs= .ok l/\l.kids[i]? =some o:=by
 unfold jc;cases hl:ie T p zs with
 |error n=>have:=KC hl;simp only[reduceCtorEq,false_and,exists_false,iff_false];omega
 |ok l=>
  simp only[Except.ok.injEq];constructor
  .intro h;cases hu:l.kids[i]? with
   |none=>rw[hu] at h;cases h
   |some u=>
    rw[hu] at h;simp only at h;split at h
    .rename_i hs;exact⟨l,rfl,by rw[hu,(Kq u o).1 hs]⟩
    .cases h
  .rintro⟨l',rfl,h⟩;rw[h];simp only;rw[if_pos ((Kq o o).2 rfl)]
theorem Kt{T m:ag}{p:List Int}{F:ag->ag}:JJ T p F= .ok m↔∃l,b7 p T=some l/\m=ag.putAt (F l) p T/\jv m:=by
 unfold JJ;rw[Kr];cases b7 p T with
 |none=>simp
 |some l=>
  simp only[JY,Option.some.injEq];constructor
  .rintro⟨rfl,h⟩;exact⟨l,rfl,rfl,h⟩
  .rintro⟨l',rfl,rfl,h⟩;exact⟨rfl,h⟩
theorem KE{T m:ag}{e:aj}(he:ap e=true)(hk:e.kind≠1):ek T e= .ok m↔s8 e.kd.run e.path T=some m/\jv m:=by
 obtain⟨r1,r2,_,r3,r4⟩:=KK he;obtain⟨i,hi,_⟩:=Kg r1;obtain⟨j,hj,_⟩:=Kg r2;rcases Iz he with h|h|h|h|h
 .exact absurd h hk
 .obtain⟨v,e1,_⟩:=r4 (by rw[h];rfl);have hd:e.kd= .ins i v:=(by unfold aj.kd;rw[if_pos h,hi,e1];rfl);have ho:ek T e=BX T v e.path i:=(by unfold ek;rw[if_neg hk,if_pos h,hi,e1];rfl);rw[hd,ho,JS];unfold BX;constructor
  .intro h;cases hl:ie T e.path [(i:Int)] with
   |error n=>rw[hl] at h;cases h
   |ok l=>rw[hl] at h;obtain⟨rfl,h2⟩:=JY.1 h;obtain⟨l1,l2,l3⟩:=Kc.1 hl;have l4:i<=l.kids.length:=(by have:=l3 i (List.mem_singleton.2 rfl);omega);obtain⟨k,s,x,ks⟩:=l;refine⟨⟨_,_,l1,?_,rfl⟩,h2⟩;refine Lt (d:=.ins i v) rfl l2 ?_;have l4:i<=ks.length:=l4;show(if (i:Int).toNat<=ks.length then _ else _)=_;rw[Int.toNat_natCast,if_pos l4,KA ks i l4]
  .rintro⟨⟨l,l',h1,h2,rfl⟩,h3⟩;obtain⟨k,s,x,ks⟩:=l;obtain⟨g1,ks',g2,rfl⟩:=Ko (d:=.ins i v) rfl h2;have g2:(if (i:Int).toNat<=ks.length then some (ks.insertIdx (i:Int).toNat v) else none)=some ks':=g2;rw[Int.toNat_natCast] at g2;split at g2
   .rename_i g3;injection g2 with g2;have hl:ie T e.path [(i:Int)]= .ok (.node k s x ks):=Kc.2 ⟨h1,g1,fun z hz=>by obtain rfl:=List.mem_singleton.1 hz;show(i:Int)<=ks.length;omega⟩;rw[hl];refine JY.2 ⟨?_,h3⟩;rw[<-g2,KA ks i g3];rfl
   .cases g2
 .obtain⟨o,e1,_⟩:=r3 (by rw[h];rfl);have hd:e.kd= .del i o:=(by unfold aj.kd;rw[if_neg (by omega),if_pos h,hi,e1];rfl);have ho:ek T e=Hb T o e.path i:=(by unfold ek;rw[if_neg hk,if_neg (by omega),if_pos h,hi,e1];rfl);rw[hd,ho,JS];unfold Hb;constructor
  .intro h;split at h
   .rename_i h0;obtain⟨l,hl,hu⟩:=(Lf (List.mem_singleton.2 rfl)).1 h0;obtain⟨l',g1,rfl,h2⟩:=Kt.1 h;obtain⟨l1,l2,l3⟩:=Kc.1 hl;rw[l1] at g1;injection g1 with g1;subst g1;obtain⟨k,s,x,ks⟩:=l;refine⟨⟨_,_,l1,?_,rfl⟩,h2⟩;refine Lt (d:=.del i o) rfl l2 ?_;have hu:ks[i]? =some o:=hu;show(if ks[(i:Int).toNat]? =some o then _ else _)=_;rw[Int.toNat_natCast,if_pos hu,List.eraseIdx_eq_take_drop_succ]
   .cases h
  .rintro⟨⟨l,l',h1,h2,rfl⟩,h3⟩;obtain⟨k,s,x,ks⟩:=l;obtain⟨g1,ks',g2,rfl⟩:=Ko (d:=.del i o) rfl h2;have g2:(if ks[(i:Int).toNat]? =some o then some (ks.eraseIdx (i:Int).toNat) else none)=some ks':=g2;rw[Int.toNat_natCast] at g2;split at g2
   .rename_i g3;injection g2 with g2;have hlt:=(gl.1 g3).1;have hl:ie T e.path [(i:Int)+1]= .ok (.node k s x ks):=Kc.2 ⟨h1,g1,fun z hz=>by obtain rfl:=List.mem_singleton.1 hz;show(i:Int)+1<=ks.length;omega⟩;rw[if_pos ((Lf (List.mem_singleton.2 rfl)).2 ⟨_,hl,g3⟩)];refine Kt.2 ⟨_,h1,?_,h3⟩;rw[<-g2,List.eraseIdx_eq_take_drop_succ];rfl
   .cases g2
 .obtain⟨o,e1,_⟩:=r3 (by rw[h];rfl);obtain⟨v,e2,_⟩:=r4 (by rw[h];rfl);have hd:e.kd= .rep o v:=(by unfold aj.kd;rw[if_neg (by omega),if_neg (by omega),if_neg (by omega),e1,e2];rfl);have ho:ek T e=u7 T o v e.path:=(by unfold ek;rw[if_neg hk,if_neg (by omega),if_neg (by omega),if_pos h,e1,e2];rfl);rw[hd,ho,JS];unfold u7;rw[Kr];cases hg:b7 e.path T with
  |none=>simp
  |some u=>
   simp only[Option.some.injEq];constructor
   .intro h;split at h
    .rename_i hs;obtain⟨rfl,h2⟩:=JY.1 h;refine⟨⟨u,v,rfl,?_,rfl⟩,h2⟩;show(if u=o then some v else none)=_;rw[if_pos ((Kq u o).1 hs)]
    .cases h
   .rintro⟨⟨l,l',rfl,h2,rfl⟩,h3⟩;have h2:(if u=o then some v else none)=some l':=h2;split at h2
    .rename_i hs;injection h2 with h2;subst h2;rw[if_pos ((Kq u o).2 hs)];exact JY.2 ⟨rfl,h3⟩
    .cases h2
 .obtain⟨o,e1,_⟩:=r3 (by rw[h];rfl);have hd:e.kd= .mov i j o:=(by unfold aj.kd;rw[if_neg (by omega),if_neg (by omega),if_pos h,hi,hj,e1];rfl);have ho:ek T e=EL T o e.path i j:=(by unfold ek;rw[if_neg hk,if_neg (by omega),if_neg (by omega),if_neg (by omega),hi,hj,e1];rfl);rw[hd,ho,JS];unfold EL;have hmem:((i:Int)+1)∈[(i:Int)+1,(j:Int)+1]:=List.mem_cons_self ..;constructor
  .intro h;split at h
   .rename_i h0;obtain⟨l,hl,hu⟩:=(Lf hmem).1 h0;obtain⟨l',g1,rfl,h2⟩:=Kt.1 h;obtain⟨l1,l2,l3⟩:=Kc.1 hl;rw[l1] at g1;injection g1 with g1;subst g1;obtain⟨k,s,x,ks⟩:=l;refine⟨⟨_,_,l1,?_,rfl⟩,h2⟩;refine Lt (d:=.mov i j o) rfl l2 ?_;have hu:ks[i]? =some o:=hu;have hlt:=(gl.1 hu).1;have hj2:j<ks.length:=(by have:=l3 ((j:Int)+1) (by simp);have:(j:Int)+1<=ks.length:=this;omega);show(if ks[(i:Int).toNat]? =some o/\(j:Int).toNat<ks.length then _ else _)=_;rw[Int.toNat_natCast,Int.toNat_natCast,if_pos ⟨hu,hj2⟩,KA _ j (by rw[List.length_eraseIdx,if_pos hlt];omega),List.eraseIdx_eq_take_drop_succ]
   .cases h
  .rintro⟨⟨l,l',h1,h2,rfl⟩,h3⟩;obtain⟨k,s,x,ks⟩:=l;obtain⟨g1,ks',g2,rfl⟩:=Ko (d:=.mov i j o) rfl h2;have g2:(if ks[(i:Int).toNat]? =some o/\(j:Int).toNat<ks.length then some ((ks.eraseIdx (i:Int).toNat).insertIdx (j:Int).toNat o) else none)=some ks':=g2;rw[Int.toNat_natCast,Int.toNat_natCast] at g2;split at g2
   .rename_i g3;injection g2 with g2;have hlt:=(gl.1 g3.1).1;have hl:ie T e.path [(i:Int)+1,(j:Int)+1]= .ok (.node k s x ks):=Kc.2 ⟨h1,g1,fun z hz=>by
     have g4:=g3.2;rcases List.mem_cons.1 hz with rfl|hz
     .show(i:Int)+1<=ks.length;omega
     .obtain rfl:=List.mem_singleton.1 hz;show(j:Int)+1<=ks.length;omega⟩
    rw[if_pos ((Lf hmem).2 ⟨_,hl,g3.1⟩)];refine Kt.2 ⟨_,h1,?_,h3⟩;rw[<-g2,KA _ j (by rw[List.length_eraseIdx,if_pos hlt];have:=g3.2;omega),List.eraseIdx_eq_take_drop_succ];rfl
   .cases g2
theorem KZ{v:ag}:∀(ks:List ag) (i:Nat),i<=ks.length->(ks.insertIdx i v).eraseIdx i=ks/\(ks.insertIdx i v)[i]? =some v
 |ks,0,_=>by simp
 |[],i+1,h=>by simp at h
 |k::ks,i+1,h=>by have:=KZ (v:=v) ks i (by simpa using h);rw[List.insertIdx_succ_cons];exact⟨by rw[List.eraseIdx_cons_succ,this.1],by simpa using this.2⟩
theorem LU{v:ag}:∀(ks:List ag) (i:Nat),ks[i]? =some v->(ks.eraseIdx i).insertIdx i v=ks
 |[],i,h=>by simp at h
 |k::ks,0,h=>by simp at h;subst h;simp
 |k::ks,i+1,h=>by rw[List.eraseIdx_cons_succ,List.insertIdx_succ_cons,LU ks i (by simpa using h)]
theorem PJ{d:Kd}(hok:d.ok){ks ks':List ag}(h:d.kids ks=some ks'):d.inv.kids ks'=some ks:=by
 cases d with
 |rep=>cases h
 |ins i n=>
  simp only[Kd.kids] at h;split at h
  .rename_i hi;injection h with h;subst h;obtain⟨h1,h2⟩:=KZ (v:=n) ks _ hi;show(if (ks.insertIdx i.toNat n)[i.toNat]? =some n then some ((ks.insertIdx i.toNat n).eraseIdx i.toNat) else none)=some ks;rw[if_pos h2,h1]
  .cases h
 |del i o=>
  simp only[Kd.kids] at h;split at h
  .rename_i hi;injection h with h;subst h;have hlt:=(gl.1 hi).1;show(if i.toNat<=(ks.eraseIdx i.toNat).length then some ((ks.eraseIdx i.toNat).insertIdx i.toNat o) else none)=some ks;rw[if_pos (by rw[List.length_eraseIdx,if_pos hlt];omega),LU ks _ hi]
  .cases h
 |mov i j o=>
  simp only[Kd.kids] at h;split at h
  .rename_i hi;injection h with h;subst h;have hlt:=(gl.1 hi.1).1;have hlen:(ks.eraseIdx i.toNat).length=ks.length - 1:=(by rw[List.length_eraseIdx,if_pos hlt]);obtain⟨h1,h2⟩:=KZ (v:=o) (ks.eraseIdx i.toNat) j.toNat (by omega);show(if ((ks.eraseIdx i.toNat).insertIdx j.toNat o)[j.toNat]? =some o/\i.toNat< ((ks.eraseIdx i.toNat).insertIdx j.toNat o).length then some ((((ks.eraseIdx i.toNat).insertIdx j.toNat o).eraseIdx j.toNat).insertIdx i.toNat o) else none)=some ks;rw[if_pos ⟨h2,by rw[List.length_insertIdx,if_pos (by omega)];omega⟩,h1,LU ks _ hi.1]
  .cases h
theorem Re{d:Kd}(hok:d.ok){t t':ag}(h:d.run t=some t'):d.inv.run t'=some t:=by
 cases hl:d.lone with
 |true=>obtain⟨k,s,x,ks⟩:=t;obtain⟨h1,ks',h2,rfl⟩:=Ko hl h;exact Lt (by cases d<;>first|rfl|cases hl) h1 (PJ hok h2)
 |false=>
  cases d with
  |rep o n=>
   have h:(if t=o then some n else none)=some t':=h;split at h
   .rename_i e;injection h with h;subst h e;show(if n=n then some t else none)=_;rw[if_pos rfl]
   .cases h
  |_=>cases hl
theorem NC{d:Kd}(hok:d.ok):∀(p:List Int) (t t':ag),s8 d.run p t=some t'->s8 d.inv.run p t'=some t
 |[],t,t',h=>Re hok h
 |z::p,.node k s x ks,t',h=>by
  obtain⟨hz,u,u',h1,h2,rfl⟩:=L5 h;have hlt:=(gl.1 h1).1;have:=NB (k:=k) (s:=s) (x:=x) (ks:=ks.set z.toNat u') hz (List.getElem?_set_self hlt) (NC hok p u u' h2);rw[this,List.set_set]
  congr 2
  refine List.ext_getElem? fun a=>?_;rw[List.getElem?_set];split
  .rename_i e;subst e;first|rw[h1]|rw[if_pos hlt,h1]
  .rfl
theorem KB{e:aj}(he:ap e=true):e.kd.ok:=by
 obtain⟨r1,r2,_⟩:=KK he;obtain⟨i,hi,_⟩:=Kg r1;obtain⟨j,hj,_⟩:=Kg r2;unfold aj.kd;split
 .show 0<=e.at_;omega
 split
 .show 0<=e.at_;omega
 split
 .exact⟨by omega,by omega⟩
 .trivial
theorem LX{e:aj}(he:ap e=true)(hk:e.kind≠1):(bD e).kd=e.kd.inv/\(bD e).path=e.path/\(bD e).kind≠1:=by
 rw[qm he];rcases Iz he with h|h|h|h|h
 .exact absurd h hk
 all_goals simp[aj.kd,Kd.inv,h]
theorem P8{n m:ag}{e:aj}(hn:jv n)(he:ap e=true)(hk:e.kind≠1)(h:ek n e= .ok m):ek m (bD e)= .ok n:=by obtain⟨h1,h2⟩:=(KE he hk).1 h;obtain⟨i1,i2,i3⟩:=LX he hk;refine(KE (vv he) i3).2 ⟨?_,hn⟩;rw[i1,i2];exact NC (KB he) _ _ _ h1
def ag.kt(r:List Int)(t:ag):Option (Nat×ar):=(b7 r t).map fun n=>(n.kind,n.text)
theorem J9{m:Nat}{r:List Int}{k:Nat}{s:ar}{x:Int}{ks:List ag}:(ag.node k s x ks).kt ((m:Int) ::r)=(ks[m]?).bind fun t=>t.kt r:=by unfold ag.kt;rw[Ba];cases ks[m]? <;>rfl
theorem K5{z:Int}{r:List Int}{t:ag}(h:z<0):t.kt (z::r)=none:=by unfold ag.kt;obtain⟨k,s,x,ks⟩:=t;unfold b7;rw[if_pos h];rfl
theorem L0{d:Kd}(hok:d.ok):∀(p:List Int) (t t':ag) (u u':List Int),s8 d.run p t=some t'->d.act p u=some u'->t'.kt u'=t.kt u
 |[],t,t',u,u',h,ha=>by
  have h:d.run t=some t':=h;cases hl:d.lone with
  |false=>
   cases d with
   |rep o n=>cases u<;>cases ha
   |_=>cases hl
  |true=>
   obtain⟨k,s,x,ks⟩:=t;obtain⟨h1,ks',h2,rfl⟩:=Ko hl h;cases u with
   |nil=>simp only[Kd.act,hl,if_true,Option.some.injEq] at ha;subst ha;rfl
   |cons z r=>
    simp only[Kd.act,Option.map_eq_some_iff] at ha;obtain⟨w,hw,rfl⟩:=ha;have hw':=(Oi hok).1 hw;by_cases hw0:0<=w
    .obtain⟨g1,g2,_⟩:=PI hl hok h2 hw0 hw';obtain⟨a,rfl⟩:=Int.eq_ofNat_of_zero_le hw0;obtain⟨b,rfl⟩:=Int.eq_ofNat_of_zero_le g1;rw[Int.toNat_natCast,Int.toNat_natCast] at g2;rw[J9,J9,g2]
    .have hz:z<0:=by
      by_cases hz:0<=z
      .exact absurd (Rm hok hz hw) hw0
      .omega
     rw[K5 (by omega),K5 hz]
 |z::p,.node k s x ks,t',u,u',h,ha=>by
  obtain⟨hz,v,v',h1,h2,rfl⟩:=L5 h;cases u with
  |nil=>have ha:some []=some u':=ha;injection ha with ha;subst ha;rfl
  |cons y r=>
   simp only[Kd.act] at ha;have hlt:=(gl.1 h1).1;split at ha
   .rename_i hy;subst hy;simp only[Option.map_eq_some_iff] at ha;obtain⟨w,hw,rfl⟩:=ha;obtain⟨a,rfl⟩:=Int.eq_ofNat_of_zero_le hz;rw[Int.toNat_natCast] at h1 hlt ⊢;rw[J9,J9,List.getElem?_set_self hlt,h1];exact L0 hok p v v' r w h2 hw
   .rename_i hy;injection ha with ha;subst ha;by_cases hy0:y<0
    .rw[K5 hy0,K5 hy0]
    .obtain⟨a,rfl⟩:=Int.eq_ofNat_of_zero_le (by omega:0<=y);rw[J9,J9,List.getElem?_set_ne (by omega)]
def d9(e:aj)(u:List Int):Option (List Int):=
 if e.kind=2 then some (fO u e.path e.at_)
 else if e.kind=3 then dR u e.path e.at_
 else if e.kind=4 then(if bu u e.path then none else some u)
 else if e.kind=5 then some (eT u e.path e.at_ e.far)
 else some u
theorem LR{e:aj}(he:ap e=true)(hk:e.kind≠1)(hk5:e.kind≠5)(u:List Int):d9 e u=e.kd.act e.path u:=by have h:=Iz he;rw[OQ (by omega)];unfold d9 Ml;simp only[hk5,if_false]
theorem QP{p:List Int}{f g:Int->Int}:∀(u:List Int),CB (CB u p f) p g=CB u p (fun k=>g (f k)):=by
 induction p with
 |nil=>
  intro u;cases u with
  |nil=>rw[tt,tt,tt]
  |cons k r=>rw[JX,JX,JX]
 |cons z p ih=>
  intro u;cases u with
  |nil=>rw[tt,tt,tt]
  |cons k r=>
   rw[JF,JF];by_cases h:z=k
   .rw[if_pos h,if_pos h,JF,if_pos h,ih]
   .rw[if_neg h,if_neg h,JF,if_neg h]
theorem QO{p:List Int}:∀(u:List Int),CB u p (fun k=>k)=u:=by
 induction p with
 |nil=>
  intro u;cases u with
  |nil=>rw[tt]
  |cons k r=>rw[JX]
 |cons z p ih=>
  intro u;cases u with
  |nil=>rw[tt]
  |cons k r=>
   rw[JF];by_cases h:z=k
   .rw[if_pos h,ih]
   .rw[if_neg h]
theorem PZ(i j k:Int):(fun k=>if k=j then i else jd i (cF j k)) ((fun k=>if k=i then j else jd j (cF i k)) k)=k:=by
 simp only;by_cases h1:k=i
 .rw[if_pos h1,if_pos rfl,h1]
 rw[if_neg h1];unfold jd cF;by_cases h2:i<k
 .rw[if_pos h2];by_cases h3:j<=k - 1
  .rw[if_pos h3,if_neg (by omega),show(if j<k - 1+1 then k - 1+1 - 1 else k - 1+1)=k - 1 from by rw[if_pos (by omega)];omega,if_pos (by omega)];omega
  .rw[if_neg h3,if_neg (by omega),show(if j<k - 1 then k - 1 - 1 else k - 1)=k - 1 from if_neg (by omega),if_pos (by omega)];omega
 .rw[if_neg h2];by_cases h3:j<=k
  .rw[if_pos h3,if_neg (by omega),show(if j<k+1 then k+1 - 1 else k+1)=k from by rw[if_pos (by omega)];omega,if_neg (by omega)]
  .rw[if_neg h3,if_neg (by omega),show(if j<k then k - 1 else k)=k from if_neg (by omega),if_neg (by omega)]
theorem NF(u p:List Int)(i j:Int):eT (eT u p i j) p j i=u:=by unfold eT;rw[QP,show(fun k=>(fun k=>if k=j then i else jd i (cF j k)) ((fun k=>if k=i then j else jd j (cF i k)) k))=fun k=>k from funext (PZ i j),QO]
theorem Pn{e:aj}(he:ap e=true)(hk:e.kind≠1){u u':List Int}:d9 e u=some u'↔d9 (bD e) u'=some u:=by
 obtain⟨i1,i2,i3⟩:=LX he hk;by_cases h5:e.kind=5
 .have hi:bD e=⟨5,e.path,e.far,e.at_,e.to_,e.frm,e.olds,e.news⟩:=(by rw[qm he,if_pos h5]);rw[hi];have g1:d9 e u=some (eT u e.path e.at_ e.far):=(by unfold d9;simp[h5]);have g2:d9 ⟨5,e.path,e.far,e.at_,e.to_,e.frm,e.olds,e.news⟩ u'=some (eT u' e.path e.far e.at_):=rfl;rw[g1,g2,Option.some.injEq,Option.some.injEq];constructor
  .rintro rfl;exact NF ..
  .rintro rfl;exact NF ..
 .have h5':(bD e).kind≠5:=by
   rw[qm he,if_neg h5];show(if e.kind=2 then 3 else if e.kind=3 then 2 else e.kind)≠5;split
   .omega
   split<;>omega
  rw[LR he hk h5,LR (vv he) i3 h5',i1,i2];exact MM (KB he) _ _ _
theorem P0(p:List Int)(i j:Int)(r:List Int):eT (p++i::r) p i j=p++j::r:=by unfold eT;rw[zi,if_pos rfl]
theorem Po{n m:ag}{e:aj}(he:ap e=true)(hk:e.kind≠1)(hm:s8 e.kd.run e.path n=some m){u u':List Int}(h:d9 e u=some u'):m.kt u'=n.kt u:=by
 by_cases h5:e.kind=5
 .have g1:d9 e u=some (eT u e.path e.at_ e.far):=(by unfold d9;simp[h5]);rw[g1,Option.some.injEq] at h;subst h;have hd:e.kd= .mov e.at_ e.far (e.olds.headD default):=(by unfold aj.kd;simp[h5]);by_cases hu:bu u (e.path++[e.at_])=true
  .obtain⟨r,rfl⟩:=kV.1 hu;rw[List.append_assoc,List.singleton_append,P0];obtain⟨l,l',h1,h2,rfl⟩:=(JS _ _ _).1 hm;have hok:=KB he;rw[hd] at h2 hok;obtain⟨k,s,x,ks⟩:=l;obtain⟨_,ks',h3,rfl⟩:=Ko rfl h2;unfold ag.kt;rw[LQ,LQ,h1,Nj _ _ _ h1];obtain⟨hi,hj⟩:=hok;obtain⟨a,ha⟩:=Int.eq_ofNat_of_zero_le hi;obtain⟨b,hb⟩:=Int.eq_ofNat_of_zero_le hj;rw[ha,hb] at h3 ⊢;have h3:(if ks[(a:Int).toNat]? =some (e.olds.headD default)/\(b:Int).toNat<ks.length then some ((ks.eraseIdx (a:Int).toNat).insertIdx (b:Int).toNat (e.olds.headD default)) else none)=some ks':=h3;rw[Int.toNat_natCast,Int.toNat_natCast] at h3;split at h3
   .rename_i h4;injection h3 with h3;have hlt:=(gl.1 h4.1).1;have h6:=(KZ (v:=e.olds.headD default) (ks.eraseIdx a) b (by rw[List.length_eraseIdx,if_pos hlt];have:=h4.2;omega)).2;rw[h3] at h6;show((b7 ((b:Int) ::r) (ag.node k s x ks')).map _)=((b7 ((a:Int) ::r) (ag.node k s x ks)).map _);rw[Ba,Ba,h6,h4.1]
   .cases h3
  .have ha:e.kd.act e.path u=some (eT u e.path e.at_ e.far):=by rw[hd,LI,if_neg hu]
   exact L0 (KB he) _ _ _ _ _ hm ha
 .rw[LR he hk h5] at h;exact L0 (KB he) _ _ _ _ _ hm h
theorem Ox{t:ag}{r:List Int}:t.useN r=match t.kt r with
 |some (k,_)=>k == 22 || k == 25
 |none=>false:=by
 unfold ag.useN ag.kt;cases b7 r t with
 |none=>rfl
 |some n=>cases n;rfl
def qq(n m:ag)(g:List Int->Option (List Int)):Bool:=(kb n).all fun p=>match g p.1 with
 |none=>true
 |some u=>match g p.2 with
  |none=>false
  |some b=>tg m u b
def j4(n:ag)(e:aj):Bool:=match Cw ek n [e] with
 | .error _=>false
 | .ok m=>qq n m (d9 e)
theorem Of{n m:ag}{g g':List Int->Option (List Int)}(hn:jv n)(hm:jv m)(hg:∀u u',g u=some u'↔g' u'=some u)(hu:∀u u',g u=some u'->m.useN u'=n.useN u)(h:qq n m g=true):qq m n g'=true:=by
 unfold qq at h ⊢;rw[List.all_eq_true] at h ⊢;rintro⟨u',b'⟩ hp;simp only;cases hgu:g' u' with
 |none=>rfl
 |some u=>
  simp only;have hu1:=(hg u u').2 hgu;have hu2:=RW hm hp;rw[hu u u' hu1] at hu2;obtain⟨b,hb⟩:=RT hn hu2;have h1:=h (u,b) hb;simp only[hu1] at h1;cases hgb:g b with
  |none=>rw[hgb] at h1;cases h1
  |some b2=>rw[hgb] at h1;have h2:=(Mv hm).1 h1;have h3:=OA hm hp h2;subst h3;rw[(hg b b').1 hgb];exact(Mv hn).2 hb
theorem Rg{n m:ag}{e:aj}(hn:jv n)(he:ap e=true)(hk:e.kind≠1)(h:ek n e= .ok m):qq n m (d9 e)=qq m n (d9 (bD e)):=by
 obtain⟨h1,hm⟩:=(KE he hk).1 h;obtain⟨i1,i2,i3⟩:=LX he hk;have hg:∀u u',d9 e u=some u'↔d9 (bD e) u'=some u:=fun u u'=>Pn he hk;have hu:∀u u',d9 e u=some u'->m.useN u'=n.useN u:=fun u u' hgo=>by rw[Ox,Ox,Po he hk h1 hgo]
 rw[Bool.eq_iff_iff];exact⟨Of hn hm hg hu,Of hm hn (fun u u'=>(hg u' u).symm) (fun u u' hgo=>(hu u' u ((hg u' u).2 hgo)).symm)⟩
def o7(o:Option (List Int))(w:World)(e:Ending)(w':World):Prop:=Below w.heap.size w w'/\match o with
 |none=>∃A n c,e= .returned (.tuple #[.slice A n c,.bool false])
 |some zs=>∃A n c,e= .returned (.tuple #[.slice A n c,.bool true])/\cc w' zs A n c
theorem o7.yes{o:Option (List Int)}{w w':World}{zs:List Int}{A:Option Addr}{n c:Nat}(h:o=some zs)(hb:Below w.heap.size w w')(hi:cc w' zs A n c):o7 o w (.returned (.tuple #[.slice A n c,.bool true])) w':=by subst h;exact⟨hb,A,n,c,rfl,hi⟩
theorem o7.no{o:Option (List Int)}{w w':World}{A:Option Addr}{n c:Nat}(h:o=none)(hb:Below w.heap.size w w'):o7 o w (.returned (.tuple #[.slice A n c,.bool false])) w':=by subst h;exact⟨hb,A,n,c,rfl⟩
structure Ji (w:World) (e:aj) (lk:Nat) (pA:Option Addr) (pn pc:Nat):Prop where
 c1:w.cell? ⟨lk,1,none⟩=some (.slice pA pn pc)
 c2:w.cell? ⟨lk,2,none⟩=some (.int .i64 e.at_)
 c3:w.cell? ⟨lk,3,none⟩=some (.int .i64 e.far)
 path:cc w e.path pA pn pc
 len:pn<=17592186044416
theorem Ji.kept{w w':World}{e:aj}{lk:Nat}{pA:Option Addr}{pn pc:Nat}(h:Ji w e lk pA pn pc)(hk:lQ w w'):Ji w' e lk pA pn pc:=⟨hk.cell h.c1,hk.cell h.c2,hk.cell h.c3,h.path.kept hk,h.len⟩
section
variable {e:aj} {lk:Nat} {pA:Option Addr} {pn pc:Nat} {u:List Int} {A:Option Addr} {n c:Nat} {w:World}
theorem Qr(hu:cc w u A n c):Calls Tryz.prog 70 #[.slice A n c] w (o7 (some u) w):=by
 go_in
 go_wp2
 go_ret2
 exact o7.yes rfl (ai _ _) hu
theorem Qs(hl:Ji w e lk pA pn pc)(hu:cc w u A n c)(hf:dE u)(hn:n<=1000):Calls Tryz.prog 71 #[.slice A n c,.pointer (some ⟨lk,0,none⟩)] w (o7 (some (fO u e.path e.at_)) w):=by
 have HC:=ab (Ig u e.path e.at_ A pA n c pn pc w hu hl.path (by omega) hl.len hf);have c1:=hl.c1;have c2:=hl.c2;clear hl hu
 go_in
 go_wp2_with fail;refine HC.out.mono ?_;rintro en w1 ⟨A1,k1,rfl,ho,hb⟩;have HI:=ab (gU ho);have HB:=ab hb;clear ho hb;go_wp2_with fail
 go_ret2
 exact o7.yes rfl HB.out HI.out
theorem Qt(hl:Ji w e lk pA pn pc)(hu:cc w u A n c)(hf:dE u)(hn:n<=1000):Calls Tryz.prog 73 #[.slice A n c,.pointer (some ⟨lk,0,none⟩)] w (o7 (dR u e.path e.at_) w):=by
 have HC:=ab (rh u e.path e.at_ A pA n c pn pc w hu hl.path (by omega) hl.len hf);have c1:=hl.c1;have c2:=hl.c2;clear hl hu;obtain⟨o,ho⟩:∃o,dR u e.path e.at_=o:=⟨_,rfl⟩;rw[ho] at HC ⊢;clear ho
 go_in
 go_wp2_with fail;refine HC.out.mono ?_;intro en w1 hp;cases o with
 |none=>
  obtain⟨A1,n1,k1,rfl,hb⟩:=hp;have HB:=ab hb;clear hb;go_wp2_with fail
  go_ret2
  exact o7.no rfl HB.out
 |some zs=>
  obtain⟨A1,k1,rfl,ho,hb⟩:=hp;have HI:=ab (gU ho);have HB:=ab hb;clear ho hb;go_wp2_with fail
  go_ret2
  exact o7.yes rfl HB.out HI.out
theorem Qu(hl:Ji w e lk pA pn pc)(hu:cc w u A n c):Calls Tryz.prog 75 #[.slice A n c,.pointer (some ⟨lk,0,none⟩)] w (o7 (if bu u e.path then none else some u) w):=by
 have HC:=ab (jG u e.path A pA n c pn pc w hu hl.path);have c1:=hl.c1;have HU:=ab hu;clear hl hu;obtain⟨o,ho⟩:∃o,bu u e.path=o:=⟨_,rfl⟩;rw[ho] at HC ⊢;clear ho;cases o
 all_goals
  first|rw[if_pos rfl]|rw[if_neg (by simp)]
  go_in
  go_wp2_with fail;refine HC.out.mono ?_;rintro en w1 ⟨rfl,q,rfl⟩;have HI:=ab (HU.out.drewN q);have HB:=ab (bS (ai w.heap.size w) q);go_wp2_with fail
  go_ret2
  first|exact o7.yes rfl HB.out HI.out|exact o7.no rfl HB.out
theorem Qv(hl:Ji w e lk pA pn pc)(hu:cc w u A n c)(hf:dE u)(hn:n<=1000):Calls Tryz.prog 77 #[.slice A n c,.pointer (some ⟨lk,0,none⟩)] w (o7 (some (eT u e.path e.at_ e.far)) w):=by
 have HC:=ab (yF u e.path e.at_ e.far A pA n c pn pc w hu hl.path (by omega) hl.len hf);have c1:=hl.c1;have c2:=hl.c2;have c3:=hl.c3;clear hl hu
 go_in
 go_wp2_with fail;refine HC.out.mono ?_;rintro en w1 ⟨A1,k1,rfl,ho,hb⟩;have HI:=ab (gU ho);have HB:=ab hb;clear ho hb;go_wp2_with fail
 go_ret2
 exact o7.yes rfl HB.out HI.out
end
def MC(W:World)(e:aj)(F:Value):Prop:=∃rO lb,F= .func (.func rO) #[] lb/\(∀args w,(callFunc rO args).run Tryz.prog w= .ok (.enter rO args) w)/\∀(W':World) (u:List Int) (A:Option Addr) (n c:Nat),lQ W W'->cc W' u A n c->dE u->n<=1000->Calls Tryz.prog rO (#[.slice A n c]++lb) W' (o7 (d9 e u) W')
theorem Kz(k:Nat)(hk:k=1∨k=2∨k=3∨k=4∨k=5)(rO:FuncId)(hf:rO=if k=1 then 70 else if k=2 then 71 else if k=3 then 73 else if k=4 then 75 else 77)(args:Array Value)(w:World):(callFunc rO args).run Tryz.prog w= .ok (.enter rO args) w:=by
 rcases hk with rfl|rfl|rfl|rfl|rfl<;>subst hf
 .exact eH Tryz.func70 (by kernel_rfl) (by kernel_rfl) args w
 .exact eH Tryz.func71 (by kernel_rfl) (by kernel_rfl) args w
 .exact eH Tryz.func73 (by kernel_rfl) (by kernel_rfl) args w
 .exact eH Tryz.func75 (by kernel_rfl) (by kernel_rfl) args w
 .exact eH Tryz.func77 (by kernel_rfl) (by kernel_rfl) args w
def tr(k lk:Nat):Value:=if k=1 then .func (.func 70) #[] #[] else if k=2 then .func (.func 71) #[] #[.pointer (some ⟨lk,0,none⟩)] else if k=3 then .func (.func 73) #[] #[.pointer (some ⟨lk,0,none⟩)] else if k=4 then .func (.func 75) #[] #[.pointer (some ⟨lk,0,none⟩)] else .func (.func 77) #[] #[.pointer (some ⟨lk,0,none⟩)]
theorem Pk{W:World}{e:aj}{lk:Nat}{pA:Option Addr}{pn pc:Nat}(hk:e.kind=1∨e.kind=2∨e.kind=3∨e.kind=4∨e.kind=5)(hl:Ji W e lk pA pn pc):MC W e (tr e.kind lk):=by
 rcases hk with h|h|h|h|h<;>rw[h]
 .exact⟨70,#[],rfl,Kz 1 (by omega) _ rfl,fun W' u A n c hK hu hf hn=>by rw[show d9 e u=some u from by unfold d9;simp[h]];exact Qr hu⟩
 .exact⟨71,_,rfl,Kz 2 (by omega) _ rfl,fun W' u A n c hK hu hf hn=>by rw[show d9 e u=some (fO u e.path e.at_) from by unfold d9;simp[h]];exact Qs (hl.kept hK) hu hf hn⟩
 .exact⟨73,_,rfl,Kz 3 (by omega) _ rfl,fun W' u A n c hK hu hf hn=>by rw[show d9 e u=dR u e.path e.at_ from by unfold d9;simp[h]];exact Qt (hl.kept hK) hu hf hn⟩
 .exact⟨75,_,rfl,Kz 4 (by omega) _ rfl,fun W' u A n c hK hu hf hn=>by rw[show d9 e u=(if bu u e.path then none else some u) from by unfold d9;simp[h]];exact Qu (hl.kept hK) hu⟩
 .exact⟨77,_,rfl,Kz 5 (by omega) _ rfl,fun W' u A n c hK hu hf hn=>by rw[show d9 e u=some (eT u e.path e.at_ e.far) from by unfold d9;simp[h]];exact Qv (hl.kept hK) hu hf hn⟩
theorem Pp{W0:World}{M:Nat}(hM:W0.heap.size=M)(f1 f2 f3 f4 f5:Value):∃W1 W2 W3 W4 W5,(Instr.mapUpdate 101 (.map (some M)) (.int .u8 1) f1).run Tryz.prog (W0.alloc (.map #[] 0))= .ok () W1/\(Instr.mapUpdate 101 (.map (some M)) (.int .u8 2) f2).run Tryz.prog W1= .ok () W2/\(Instr.mapUpdate 101 (.map (some M)) (.int .u8 3) f3).run Tryz.prog W2= .ok () W3/\(Instr.mapUpdate 101 (.map (some M)) (.int .u8 4) f4).run Tryz.prog W3= .ok () W4/\(Instr.mapUpdate 101 (.map (some M)) (.int .u8 5) f5).run Tryz.prog W4= .ok () W5/\eL W5 M [(1,f1),(2,f2),(3,f3),(4,f4),(5,f5)]/\Below W0.heap.size W0 W5:=by have h0:=eL.made W0;rw[hM] at h0;obtain⟨W1,r1,h1,g1⟩:=h0.insert Tryz.underlying101 Tryz.underlying26 (k:=1) f1 rfl;obtain⟨W2,r2,h2,g2⟩:=h1.insert Tryz.underlying101 Tryz.underlying26 (k:=2) f2 rfl;obtain⟨W3,r3,h3,g3⟩:=h2.insert Tryz.underlying101 Tryz.underlying26 (k:=3) f3 rfl;obtain⟨W4,r4,h4,g4⟩:=h3.insert Tryz.underlying101 Tryz.underlying26 (k:=4) f4 rfl;obtain⟨W5,r5,h5,g5⟩:=h4.insert Tryz.underlying101 Tryz.underlying26 (k:=5) f5 rfl;have b0:Below W0.heap.size W0 (W0.alloc (.map #[] 0)):=(ai _ _).alloc (ah _) _;have b1:=b0.grown g1 b0.size (fun k hk=>by injection hk with hk;omega);have b2:=b1.grown g2 b1.size (fun k hk=>by injection hk with hk;omega);have b3:=b2.grown g3 b2.size (fun k hk=>by injection hk with hk;omega);have b4:=b3.grown g4 b3.size (fun k hk=>by injection hk with hk;omega);have b5:=b4.grown g5 b4.size (fun k hk=>by injection hk with hk;omega);exact⟨W1,W2,W3,W4,W5,r1,r2,r3,r4,r5,h5,b5⟩
theorem R8(w:World):(zeroValue 58).run Tryz.prog w= .ok .nilFunc w:=by kernel_rfl
theorem Pm{k lk:Nat}(h:k=1∨k=2∨k=3∨k=4∨k=5):(List.lookup k [(1,tr 1 lk),(2,tr 2 lk),(3,tr 3 lk),(4,tr 4 lk),(5,tr 5 lk)]).getD .nilFunc=tr k lk:=by rcases h with rfl|rfl|rfl|rfl|rfl<;>rfl
def OI(e:aj)(w:World)(en:Ending)(w':World):Prop:=Below w.heap.size w w'/\∃F,en= .returned F/\MC w' e F
theorem Qq(e:aj)(k:Nat)(pA:Option Addr)(pn pc:Nat)(x4 x5 x6 x7:Value)(w:World)(hk:e.kind=k)(hr:ap e=true)(hp:cc w e.path pA pn pc)(hpn:pn<=17592186044416):Calls Tryz.prog 35 #[.agg #[.int .u8 k,.slice pA pn pc,.int .i64 e.at_,.int .i64 e.far,x4,x5,x6,x7]] w (OI e w):=by
 have hk5:=Iz hr;have hbA:Below w.heap.size w (w.alloc (.cells #[.int .u8 k,.slice pA pn pc,.int .i64 e.at_,.int .i64 e.far,x4,x5,x6,x7] 60)):=(ai _ _).alloc (ah _) _;obtain⟨M1,M2,M3,M4,M5,m1,m2,m3,m4,m5,hmap,hbM⟩:=Pp (W0:=w.alloc (.cells #[.int .u8 k,.slice pA pn pc,.int .i64 e.at_,.int .i64 e.far,x4,x5,x6,x7] 60)) (M:=w.heap.size+1) (by simp) (tr 1 w.heap.size) (tr 2 w.heap.size) (tr 3 w.heap.size) (tr 4 w.heap.size) (tr 5 w.heap.size);have hlook:=hmap.look Tryz.underlying101 Tryz.underlying26 k (R8 M5) false;rw[Pm (by omega)] at hlook;have hbR:=af hbA hbM;have HB:=ab hbR;have hbox:=(hbM.block w.heap.size (by simp)).trans (heap_alloc_new _ _);obtain⟨c0,c1,c2,c3,_⟩:=(aw hbox).cs;have HL:Hid (Ji M5 e w.heap.size pA pn pc):=⟨c1,c2,c3,hp.below hbR,hpn⟩;have hmm:= @run_makeMap Tryz.prog;unfold tr at m1 m2 m3 m4 m5;simp only[if_true,Nat.reduceEqDiff,if_false] at m1 m2 m3 m4 m5;have HG:=ab (Pk (W:=M5) (lk:=w.heap.size) (by omega) HL.out);rw[hk] at HG;generalize tr k w.heap.size=V at hlook HG;clear hbA hbM hbR hmap hbox c1 c2 c3 hp HL
 go_in
 go_wp2;go_ret;exact⟨HB.out,_,rfl,HG.out⟩
mutual
theorem Fo:∀(t:ag) (d:Nat) (p:List Int) (k:Nat),cE d t=true->t.kindAt p=some k->p.length+d<=40/\∀z∈p,0<=z/\z<t.sz
 | .node k s x ks,d,[],k',h,_=>by
  unfold cE at h;split at h
  .cases h
  simp only[Bool.and_eq_true] at h;obtain⟨⟨⟨⟨h1,_⟩,_⟩,h4⟩,_⟩:=h;have:=of_decide_eq_true h1;exact⟨by simpa using this,by simp⟩
 | .node k s x ks,d,z::p,k',h,hk=>by
  unfold cE at h;split at h
  .cases h
  simp only[Bool.and_eq_true] at h;obtain⟨⟨⟨⟨_,_⟩,_⟩,h4⟩,_⟩:=h;have hk':(if z<0 then none else ja z.toNat p ks)=some k':=hk;split at hk'
  .cases hk'
  .obtain⟨g1,g2,g3⟩:=Fm ks _ _ _ _ p _ h4 hk';have hz:z=(z.toNat:Int):=(Int.toNat_of_nonneg (by omega)).symm;refine⟨by simp;omega,fun y hy=>?_⟩;simp only[ag.sz];rcases List.mem_cons.1 hy with rfl|hy
   .exact⟨by omega,by omega⟩
   .have:=g3 y hy;exact⟨this.1,by omega⟩
theorem Fm:∀(ts:List ag) (k i d n:Nat) (p:List Int) (k':Nat),bV k i d ts=true->ja n p ts=some k'->p.length+d<=40/\n<ao ts/\∀z∈p,0<=z/\z<ao ts
 |[],_,_,_,n,p,k',_,h=>by cases n<;>cases h
 |t::ts,k,i,d,0,p,k',h,hk=>by unfold bV at h;simp only[Bool.and_eq_true] at h;obtain⟨g1,g2⟩:=Fo t d p k' h.1.2 hk;have hp:1<=t.sz:=(by obtain⟨k,s,x,ks⟩:=t;simp only[ag.sz];omega);refine⟨g1,by simp only[ao];omega,fun z hz=>?_⟩;have:=g2 z hz;simp only[ao];exact⟨this.1,by omega⟩
 |t::ts,k,i,d,n+1,p,k',h,hk=>by unfold bV at h;simp only[Bool.and_eq_true] at h;obtain⟨g1,g2,g3⟩:=Fm ts k (i+1) d n p k' h.2 hk;have hp:1<=t.sz:=(by obtain⟨k,s,x,ks⟩:=t;simp only[ag.sz];omega);refine⟨g1,by simp only[ao];omega,fun z hz=>?_⟩;have:=g3 z hz;simp only[ao];exact⟨this.1,by omega⟩
end
def NK(t:ag)(e:aj):Except Nat ag:=Ca t e.path e.frm e.to_
theorem Hz(t:ag)(e:aj):NK t e≠ .error 0:=by
 unfold NK Ca;split
 .intro h;cases h
 .split
  .intro h;cases h
  .split
   .intro h;cases h
   .intro h;cases h
theorem Me{T u:ag}{e:aj}{S:Nat}(hr:ap e=true)(hm:e.mid)(hT:T.sz<=S/\T.short 281474976710656)(ho:ek T e= .ok u):u.sz<=2*S+ao e.olds+ao e.news/\u.short 281474976710656:=by
 obtain⟨_,_,_,r3,r4⟩:=KK hr;have hS:=hT.1;rcases Iz hr with h|h|h|h|h
 .have ho:Ca T e.path e.frm e.to_= .ok u:=(by rw[<-ho];unfold ek;rw[if_pos h]);unfold Ca at ho;split at ho
  .cases ho
  .split at ho
   .cases ho
   .split at ho
    .cases ho
    .injection ho with ho;subst ho;obtain⟨_,h2,h3⟩:=Ez (t:=T) (a:=e.to_) (e.path:: (_:j9).uses);exact⟨by rw[h2];omega,h3 _ hm.to_ hT.2⟩
 .obtain⟨v,e1,_⟩:=r4 (by rw[h];rfl);have ho:BX T v e.path e.at_.toNat= .ok u:=(by rw[<-ho];unfold ek;rw[if_neg (by omega),if_pos h,e1];rfl);have hv:v.sz<=ao e.news:=(by rw[e1];simp[ao]);have hvs:v.short 281474976710656:=(by have:=hm.news.2;rw[e1] at this;exact this.1);unfold BX at ho;split at ho
  .cases ho
  .rename_i l hl;obtain⟨rfl,_⟩:=JY.1 ho;have h1:=(K7 hl).1;have h2:=JH T l e.path h1;have h3:=J0 T l e.path hT.2 h1;have h4:=Ju (y8 v e.at_.toNat l) T e.path;have h5:=LT v e.at_.toNat l;exact⟨by omega,Jt (LS hvs h3) T e.path hT.2⟩
 .obtain⟨o,e1,_⟩:=r3 (by rw[h];rfl);have ho:Hb T o e.path e.at_.toNat= .ok u:=(by rw[<-ho];unfold ek;rw[if_neg (by omega),if_neg (by omega),if_pos h,e1];rfl);unfold Hb at ho;split at ho
  .obtain⟨l,h1,rfl,_⟩:=Kt.1 ho;rw[<-Kr] at h1;have h2:=JH T l e.path h1;have h3:=J0 T l e.path hT.2 h1;have h4:=Ju (tv e.at_.toNat l) T e.path;have h5:=LN e.at_.toNat l;exact⟨by omega,Jt (LM h3) T e.path hT.2⟩
  .cases ho
 .obtain⟨o,e1,_⟩:=r3 (by rw[h];rfl);obtain⟨v,e2,_⟩:=r4 (by rw[h];rfl);have ho:u7 T o v e.path= .ok u:=(by rw[<-ho];unfold ek;rw[if_neg (by omega),if_neg (by omega),if_neg (by omega),if_pos h,e1,e2];rfl);have hv:v.sz<=ao e.news:=(by rw[e2];simp[ao]);have hvs:v.short 281474976710656:=(by have:=hm.news.2;rw[e2] at this;exact this.1);unfold u7 at ho;split at ho
  .cases ho
  .split at ho
   .obtain⟨rfl,_⟩:=JY.1 ho;have h4:=Ju v T e.path;exact⟨by omega,Jt hvs T e.path hT.2⟩
   .cases ho
 .obtain⟨o,e1,_⟩:=r3 (by rw[h];rfl);have ho:EL T o e.path e.at_.toNat e.far.toNat= .ok u:=(by rw[<-ho];unfold ek;rw[if_neg (by omega),if_neg (by omega),if_neg (by omega),if_neg (by omega),e1];rfl);have hv:o.sz<=ao e.olds:=(by rw[e1];simp[ao]);have hvs:o.short 281474976710656:=(by have:=hm.olds.2;rw[e1] at this;exact this.1);unfold EL at ho;split at ho
  .obtain⟨l,h1,rfl,_⟩:=Kt.1 ho;rw[<-Kr] at h1;have h2:=JH T l e.path h1;have h3:=J0 T l e.path hT.2 h1;have h4:=Ju (Ha o e.at_.toNat e.far.toNat l) T e.path;have h5:=NE o e.at_.toNat e.far.toNat l;exact⟨by omega,Jt (ND hvs h3) T e.path hT.2⟩
  .cases ho
theorem Lg(t:ag)(e:aj):ek t e≠ .error 0:=by
 unfold ek;split
 .exact Hz t e
 split
 .unfold BX;split
  .rename_i n hn;have:=KC hn;intro h;injection h with h;omega
  .exact Lr
 split
 .unfold Hb;split
  .unfold JJ;split
   .intro h;cases h
   .exact Lr
  .rename_i h0;intro h;injection h with h;exact h0 h
 split
 .unfold u7;split
  .intro h;cases h
  .split
   .exact Lr
   .intro h;cases h
 .unfold EL;split
  .unfold JJ;split
   .intro h;cases h
   .exact Lr
  .rename_i h0;intro h;injection h with h;exact h0 h
def ME(j:Nat)(t:ag):Prop:=if j=0 then JM t else t.sz<=100000/\t.short 281474976710656
theorem Mi(e:aj)(T:ag)(k:Nat)(s:ByteArray)(x:Int)(A:Option Addr)(n c g o c':Nat)(w:World)(hN:cf w T k s x A n c)(hE:bI w)(hT:JM T)(hes:Gr w e g o)(hmc:1<=c')(hcm:c'<=maxLen)(hm:e.mid)(hf:e.frm.length<=281474976710656):Calls Tryz.prog 22 #[.agg #[.int .u8 k,.string s,.int .i64 x,.slice A n c],.slice (some ⟨g,o,none⟩) 1 c'] w (Ce (Cw ek T [e]) w):=by
 refine Qh ek ME [e] T k s x A n c g o 1 c' w hN hE hT (fun j t h=>?_) (fun j e' he=>?_) rfl hmc hcm (fun e' he=>?_) (fun j e' he t u hP hr ho=>?_) (fun e' he t=>Lg t e') (fun j e' he=>?_)
 .unfold ME at h;split at h
  .exact⟨aJ h.1 (by omega),h.2⟩
  .exact h
 .cases j with
  |zero=>simp at he;subst he;rw[Nat.zero_mul,Nat.add_zero];exact hes
  |succ j=>simp at he
 .obtain rfl:=List.mem_singleton.1 he;have:=hm.to_;exact⟨by omega,EI (by omega) hm.olds.2,EI (by omega) hm.news.2⟩
 .cases j with
  |zero=>simp at he;subst he;obtain⟨h1,h2⟩:=Me hr hm (S:=20000) hP ho;have h3:=hm.olds.1;have h4:=hm.news.1;show(if 0+1=0 then _ else _);rw[if_neg (by omega)];exact⟨by omega,h2⟩
  |succ j=>simp at he
 .cases j with
  |zero=>simp at he;subst he;have:=RX hm;exact this
  |succ j=>simp at he
def ir(bs:List (ar×Nat))(i:Nat):Option ar:=(bs[i]?).map Prod.fst
def je(bs:List (ar×Nat))(m:bq):Prop:=∀p∈m,ir bs p.2=some p.1
def tp(T:List Int->Option ar)(bs:List (ar×Nat))(ev:List (List Int×Nat)):Prop:=∀e∈ev,ir bs e.2=T e.1
theorem Ma{bs:List (ar×Nat)}{i:Nat}{s:ar}(h:ir bs i=some s):i<bs.length:=by
 unfold ir at h;cases hb:bs[i]? with
 |none=>rw[hb] at h;cases h
 |some p=>exact(gl.1 hb).1
theorem Lb{bs:List (ar×Nat)}{p:ar×Nat}{i:Nat}{s:ar}(h:ir bs i=some s):ir (bs++[p]) i=some s:=by have:=Ma h;unfold ir at h ⊢;rw[cM this];exact h
theorem NG{bs:List (ar×Nat)}{s:ar}{n:Nat}:ir (bs++[(s,n)]) bs.length=some s:=by unfold ir;simp
theorem Mb{bs:List (ar×Nat)}{i j n:Nat}:ir (bs.mapIdx (fun j p=>if j=i then(p.1,n) else p)) j=ir bs j:=by
 unfold ir;rw[List.getElem?_mapIdx];cases bs[j]? with
 |none=>rfl
 |some p=>simp only[Option.map_some];split<;>rfl
def xb(bs bs':List (ar×Nat)):Prop:=∀i s,ir bs i=some s->ir bs' i=some s
theorem je.more{bs bs':List (ar×Nat)}{m:bq}(h:je bs m)(hm:xb bs bs'):je bs' m:=fun p hp=>hm _ _ (h p hp)
theorem je.look{bs:List (ar×Nat)}{m:bq}{s:ar}{i:Nat}(h:je bs m)(hl:bn m s=some i):ir bs i=some s:=by
 induction m with
 |nil=>cases hl
 |cons p m ih=>
  obtain⟨y,j⟩:=p;unfold bn at hl;split at hl
  .rename_i hy;injection hl with hl;subst hl;rw[<-hy];exact h _ (List.mem_cons_self ..)
  .exact ih (fun p hp=>h p (List.mem_cons_of_mem _ hp)) hl
theorem je.find{bs:List (ar×Nat)}{env:List bq}{s:ar}{i:Nat}(h:∀m∈env,je bs m)(hf:mb env s=some i):ir bs i=some s:=by
 induction env with
 |nil=>cases hf
 |cons m env ih=>
  unfold mb at hf;cases hl:bn m s with
  |none=>rw[hl] at hf;exact ih (fun m hm=>h m (List.mem_cons_of_mem _ hm)) hf
  |some j=>rw[hl] at hf;injection hf with hf;subst hf;exact(h m (List.mem_cons_self ..)).look hl
theorem je.snoc{bs:List (ar×Nat)}{m:bq}{s:ar}{n:Nat}(h:je bs m):je (bs++[(s,n)]) (m++[(s,bs.length)]):=fun p hp=>by
 rcases List.mem_append.1 hp with hp|hp
 .exact Lb (h p hp)
 .obtain rfl:=List.mem_singleton.1 hp;exact NG
theorem tp.snoc{T:List Int->Option ar}{bs:List (ar×Nat)}{ev:List (List Int×Nat)}{q:List Int}{s:ar}{n:Nat}(h:tp T bs ev)(hq:T q=some s)(hs:∀e∈ev,e.2<bs.length):tp T (bs++[(s,n)]) (ev++[(q,bs.length)]):=fun e he=>by
 rcases List.mem_append.1 he with he|he
 .rw[<-h e he];unfold ir;rw[cM (hs e he)]
 .obtain rfl:=List.mem_singleton.1 he;show ir _ bs.length=T q;rw[NG,hq]
theorem tp.use{T:List Int->Option ar}{bs:List (ar×Nat)}{ev:List (List Int×Nat)}{q:List Int}{s:ar}{i:Nat}(h:tp T bs ev)(hq:T q=some s)(hi:ir bs i=some s):tp T bs (ev++[(q,i)]):=fun e he=>by
 rcases List.mem_append.1 he with he|he
 .exact h e he
 .obtain rfl:=List.mem_singleton.1 he;show ir _ i=T q;rw[hi,hq]
structure LE (T:List Int->Option ar) (st:bo) (o:bq) (st':bo):Prop where
 txt:tp T st'.bs st'.ev
 key:je st'.bs o
 more:xb st.bs st'.bs
 lt:∀e∈st'.ev,e.2<st'.bs.length
theorem xb.trans{a b c:List (ar×Nat)}(h:xb a b)(h':xb b c):xb a c:=fun i s hi=>h' i s (h i s hi)
mutual
theorem P4 (fe:bq) (T:List Int->Option ar):∀(t:ag) (out:List bq) (own:bq) (q:List Int) (st:bo) (o:bq) (st':bo),da fe t out own q st= .ok (o,st')->tp T st.bs st.ev->(∀e∈st.ev,e.2<st.bs.length)->(∀m∈out,je st.bs m)->je st.bs own->je st.bs fe->(∀r,T (q++r)=(b7 r t).map ag.text)->LE T st o st'
 | .node k s x ks,out,own,q,st,o,st',h,hg,hlt,ho,hw,hf,hT=>by
  have hT0:T q=some s:=(by have:=hT [];rwa [List.append_nil] at this);have hTk:∀(m:Nat) t r,ks[m]? =some t->T (q++((0+m:Nat):Int) ::r)=(b7 r t).map ag.text:=fun m t r ht=>by rw[Nat.zero_add,hT,Ba,ht];rfl
  have hcons:∀m∈own::out,je st.bs m:=fun m hm=>by rcases List.mem_cons.1 hm with rfl|hm;exact hw;exact ho m hm
  unfold da at h;split at h
  .obtain⟨o1,h1,rfl⟩:=Cy h;have hL:=Jp fe T ks (o::out) [] q 0 (st.next.func ((bn fe s).getD 0)) o1 st' h1 hg hlt hcons (fun p hp=>by cases hp) hf hTk;exact⟨hL.txt,hw.more hL.more,hL.more,hL.lt⟩
  split at h
  .obtain⟨o1,st1,h1,h2⟩:=i9 h;obtain⟨_,rfl,rfl⟩:=ve h1;have hm:xb st.bs (st.next.bs++[(s,0)]):=fun i s hi=>Lb hi;have hL:=Jp fe T ks out _ q 0 _ o st' h2 (tp.snoc (bs:=st.bs) hg hT0 hlt) (fun e he=>by
    show e.2< (st.bs++[(s,0)]).length;rw[CD];rcases List.mem_append.1 he with he|he
    .have:=hlt e he;simp;omega
    .obtain rfl:=List.mem_singleton.1 he;simp[bo.next]) (fun m hm'=>(ho m hm').more hm) (je.snoc (bs:=st.bs) hw) (hf.more hm) hTk
   exact⟨hL.txt,hL.key,xb.trans hm hL.more,hL.lt⟩
  split at h
  .obtain⟨o1,h1,rfl⟩:=Cy h;have hL:=Jp fe T ks (o::out) [] q 0 st.next o1 st' h1 hg hlt hcons (fun p hp=>by cases hp) hf hTk;exact⟨hL.txt,hw.more hL.more,hL.more,hL.lt⟩
  split at h
  .split at h
   .cases h
   obtain⟨o1,st1,h1,h2⟩:=i9 h;obtain⟨_,rfl,rfl⟩:=ve h2;have hL:=Jp fe T ks out own q 0 st.next o1 st1 h1 hg hlt ho hw hf hTk;have hm:xb st1.bs (st1.bs++[(s,0)]):=fun i s hi=>Lb hi;refine⟨hL.txt.snoc hT0 hL.lt,hL.key.snoc,xb.trans hL.more hm,fun e he=>?_⟩;show e.2< (st1.bs++[(s,0)]).length;rw[CD];rcases List.mem_append.1 he with he|he
   .have:=hL.lt e he;simp;omega
   .obtain rfl:=List.mem_singleton.1 he;simp
  split at h
  .obtain⟨st1,h1,h2⟩:=CG h;obtain⟨i,e1,_,rfl⟩:=CC h1;have hi:ir st.bs i=some s:=je.find hcons e1;have hL:=Jp fe T ks out own q 0 _ o st' h2 (tp.use (bs:=st.bs) hg hT0 hi) (fun e he=>by
    rcases List.mem_append.1 he with he|he
    .exact hlt e he
    .obtain rfl:=List.mem_singleton.1 he;exact Ma hi) ho hw hf hTk
   exact⟨hL.txt,hL.key,hL.more,hL.lt⟩
  split at h
  .obtain⟨st1,h1,h2⟩:=CG h;obtain⟨i,e1,_,rfl⟩:=CC h1;have hi:ir st.bs i=some s:=je.find (fun m hm=>by obtain rfl:=List.mem_singleton.1 hm;exact hf) e1;have hL:=Jp fe T ks out own q 0 _ o st' h2 (tp.use (bs:=st.bs) hg hT0 hi) (fun e he=>by
    rcases List.mem_append.1 he with he|he
    .exact hlt e he
    .obtain rfl:=List.mem_singleton.1 he;exact Ma hi) ho hw hf hTk
   exact⟨hL.txt,hL.key,hL.more,hL.lt⟩
  .have hL:=Jp fe T ks out own q 0 st.next o st' h hg hlt ho hw hf hTk;exact⟨hL.txt,hL.key,hL.more,hL.lt⟩
theorem Jp (fe:bq) (T:List Int->Option ar):∀(ts:List ag) (out:List bq) (own:bq) (q:List Int) (j:Nat) (st:bo) (o:bq) (st':bo),dq fe ts out own q j st= .ok (o,st')->tp T st.bs st.ev->(∀e∈st.ev,e.2<st.bs.length)->(∀m∈out,je st.bs m)->je st.bs own->je st.bs fe->(∀(m:Nat) t r,ts[m]? =some t->T (q++((j+m:Nat):Int) ::r)=(b7 r t).map ag.text)->LE T st o st'
 |[],out,own,q,j,st,o,st',h,hg,hlt,ho,hw,hf,hT=>by
  unfold dq at h;cases h
  exact⟨hg,hw,fun _ _ h=>h,hlt⟩
 |t::ts,out,own,q,j,st,o,st',h,hg,hlt,ho,hw,hf,hT=>by unfold dq at h;obtain⟨o1,st1,h1,h2⟩:=i9 h;have h3:=P4 fe T t out own (q++[(j:Int)]) st o1 st1 h1 hg hlt ho hw hf (fun r=>by have:=hT 0 t r rfl;rw[List.append_assoc];exact this);have h4:=Jp fe T ts out o1 q (j+1) st1 o st' h2 h3.txt h3.lt (fun m hm=>(ho m hm).more h3.more) h3.key (hf.more h3.more) (fun m u r hu=>by have:=hT (m+1) u r (by simpa using hu);rwa [show j+(m+1)=j+1+m from by omega] at this);exact⟨h4.txt,h4.key,xb.trans h3.more h4.more,h4.lt⟩
end
theorem Nh(T:List Int->Option ar):∀(ts:List ag) (k a0:Nat) (fe:bq) (st:bo) (o:bq) (st':bo),i6 ts k a0 fe st= .ok (o,st')->tp T st.bs st.ev->(∀e∈st.ev,e.2<st.bs.length)->je st.bs fe->(∀(m:Nat) t,ts[m]? =some t->T [((k+m:Nat):Int)]=some t.text)->LE T st o st'
 |[],k,a0,fe,st,o,st',h,hg,hlt,hf,hT=>by
  unfold i6 at h;cases h
  exact⟨hg,hf,fun _ _ h=>h,hlt⟩
 |t::ts,k,a0,fe,st,o,st',h,hg,hlt,hf,hT=>by
  unfold i6 at h;obtain⟨o1,st1,h1,h2⟩:=i9 h;obtain⟨e0,rfl,rfl⟩:=ve h1;have hm:xb st.bs (st.bs++[(t.text,0)]):=fun i s hi=>Lb hi;have hL:=Nh T ts (k+1) _ _ _ _ _ h2 (fun e he=>by
   show ir (List.mapIdx _ _) e.2=_;rw[Mb];exact tp.snoc (bs:=st.bs) hg (hT 0 t rfl) hlt e he) (fun e he=>by
   show e.2< (List.mapIdx _ (st.bs++[(t.text,0)])).length;rw[List.length_mapIdx,CD];rcases List.mem_append.1 he with he|he
   .have:=hlt e he;simp;omega
   .obtain rfl:=List.mem_singleton.1 he;simp) (fun p hp=>by
   show ir (List.mapIdx _ _) p.2=_;rw[Mb];exact je.snoc (bs:=st.bs) hf p hp) (fun m u hu=>by have:=hT (m+1) u (by simpa using hu);rwa [show k+(m+1)=k+1+m from by omega] at this)
  refine⟨hL.txt,hL.key,fun i s hi=>hL.more i s ?_,hL.lt⟩;show ir (List.mapIdx _ _) i=_;rw[Mb];exact hm i s hi
theorem PX{t:ag}{st:bo}(hk:t.kind=1)(hr:pi t=true)(hl:gn t.kids= .ok ([],st)):∀e∈st.ev,ir st.bs e.2=(b7 e.1 t).map ag.text:=by
 obtain⟨k,s,x,ks⟩:=t;have hl:gn ks= .ok ([],st):=hl;unfold gn at hl;obtain⟨fe,st1,h1,h2⟩:=i9 hl;have g:=Nh (fun r=>(b7 r (ag.node k s x ks)).map ag.text) ks 0 1 [] Cl fe st1 h1 (fun e he=>by cases he) (fun e he=>by cases he) (fun p hp=>by cases hp) (fun m u hu=>by rw[Nat.zero_add];show(b7 ((m:Int) :: []) (ag.node k s x ks)).map ag.text=_;rw[Ba,hu];cases u;rfl)
 have hL:=Jp fe (fun r=>(b7 r (ag.node k s x ks)).map ag.text) ks [] [] [] 0 st1.anew.next [] st h2 g.txt g.lt (fun m hm=>by cases hm) (fun p hp=>by cases hp) g.key (fun m u r hu=>by show(b7 (((0+m:Nat):Int) ::r) (ag.node k s x ks)).map ag.text=_;rw[Nat.zero_add,Ba,hu];rfl)
 exact hL.txt
theorem L7{t:ag}{st:bo}(hk:t.kind=1)(hr:pi t=true)(hl:gn t.kids= .ok ([],st)){q:List Int}{i:Nat}(h:(q,i)∈st.ev):(b7 q t).map ag.text=some (fc st i):=by have h1:=PX hk hr hl _ h;have h2:=(K9 hk hr hl).good.lt _ h;rw[<-h1];unfold ir fc;have h2:i<st.bs.length:=h2;simp only[br h2,Option.map_some,Option.getD_some]
theorem JO{n m:ag}{e:aj}:Cw ek n [e]= .ok m↔jv n/\ap e=true/\ek n e= .ok m:=by
 unfold Cw CM CM;rw[JD];constructor
 .intro h;split at h
  .cases h
  .rename_i h1;split at h
   .rename_i h2;cases ho:ek n e with
    |error f=>rw[ho] at h;cases h
    |ok u=>rw[ho] at h;exact⟨by simpa using h1,h2,h⟩
   .cases h
 .rintro⟨h1,h2,h3⟩;rw[if_neg (by simpa using h1),if_pos h2,h3]
def KP(l:List j9):List (List Int×List Int):=l.flatMap fun b=>b.uses.map fun u=>(u,b.path)
theorem Oz{p:List Int}{l:List j9}:KP (vi p l)=KP l:=by
 unfold KP vi;rw[List.flatMap_map]
 congr 1
 funext b;split<;>rfl
def kv(l:List j9):List (List Int×List (List Int)):=l.map fun b=>(b.path,b.uses)
theorem Lu{p:List Int}{l:List j9}:kv (vi p l)=kv l:=by
 unfold kv vi;rw[List.map_map]
 congr 1
 funext b;simp only[Function.comp];split<;>rfl
mutual
theorem N7 {P:List Int->Bool} {a f:ar}:∀(t:ag) (q:List Int),(t.rent P a q).rent P f q=t.rent P f q
 | .node k s x ks,q=>by show ag.node k (if P q then f else(if P q then a else s)) x (db P f q 0 (db P a q 0 ks))= .node k (if P q then f else s) x (db P f q 0 ks);rw[N4 ks q 0];by_cases hp:P q=true<;>simp[hp]
theorem N4 {P:List Int->Bool} {a f:ar}:∀(ts:List ag) (q:List Int) (j:Nat),db P f q j (db P a q j ts)=db P f q j ts
 |[],q,j=>rfl
 |t::ts,q,j=>by show(t.rent P a (q++[(j:Int)])).rent P f (q++[(j:Int)]) ::db P f q (j+1) (db P a q (j+1) ts)=t.rent P f (q++[(j:Int)]) ::db P f q (j+1) ts;rw[N7 t,N4 ts]
end
theorem N5{P:List Int->Bool}{a:ar}{q:List Int}:∀(ts:List ag) (j m:Nat),(db P a q j ts)[m]? =(ts[m]?).map fun t=>t.rent P a (q++[((j+m:Nat):Int)])
 |[],j,m=>by simp[db]
 |t::ts,j,0=>by simp[db]
 |t::ts,j,m+1=>by unfold db;rw[List.getElem?_cons_succ,List.getElem?_cons_succ,N5 ts (j+1) m,show j+1+m=j+(m+1) from by omega]
theorem N8{P:List Int->Bool}{a:ar}:∀(r:List Int) (t:ag) (q:List Int),b7 r (t.rent P a q)=(b7 r t).map fun u=>u.rent P a (q++r)
 |[],t,q=>by simp[b7]
 |z::r,.node k s x ks,q=>by
  show(if z<0 then none else((db P a q 0 ks)[z.toNat]?).bind (b7 r))=(if z<0 then none else(ks[z.toNat]?).bind (b7 r)).map fun u=>u.rent P a (q++z::r);by_cases hz:z<0
  .rw[if_pos hz,if_pos hz];rfl
  .rw[if_neg hz,if_neg hz,N5];cases hu:ks[z.toNat]? with
   |none=>rfl
   |some u=>simp only[Option.map_some,Option.bind_some];rw[N8 r u,show((0+z.toNat:Nat):Int)=z from by omega];simp
mutual
theorem N9 {P:List Int->Bool} {f:ar}:∀(t:ag) (q:List Int),(∀r u,P (q++r)=true->b7 r t=some u->u.text=f)->t.rent P f q=t
 | .node k s x ks,q,h=>by
  unfold ag.rent;rw[N6 ks q 0 (fun m t r u hp ht hu=>h ((m:Int) ::r) u (by rwa [Nat.zero_add] at hp) (by rw[Ba,ht];exact hu))];split
  .rename_i hp;have:=h [] (.node k s x ks) (by rw[List.append_nil];exact hp) rfl;rw[<-this];rfl
  .rfl
theorem N6 {P:List Int->Bool} {f:ar}:∀(ts:List ag) (q:List Int) (j:Nat),(∀(m:Nat) t r u,P (q++((j+m:Nat):Int) ::r)=true->ts[m]? =some t->b7 r t=some u->u.text=f)->db P f q j ts=ts
 |[],q,j,h=>rfl
 |t::ts,q,j,h=>by unfold db;rw[N9 t (q++[(j:Int)]) (fun r u hp hu=>h 0 t r u (by rw[List.append_assoc] at hp;exact hp) rfl hu),N6 ts q (j+1) (fun m t r u hp ht hu=>h (m+1) t r u (by rwa [show j+(m+1)=j+1+m from by omega]) (by simpa using ht) hu)]
end
mutual
def Jq:ag->ag->Bool
 | .node k s x ks,.node k' s' x' ks'=>k == k' && x == x' && (cG k || s == s') && EH ks ks'
def EH:List ag->List ag->Bool
 |[],[]=>true
 |t::ts,u::us=>Jq t u && EH ts us
 |_,_=>false
end
mutual
theorem NA {P:List Int->Bool} {a:ar}:∀(t:ag) (q:List Int),(∀r k,P (q++r)=true->t.kindAt r=some k->cG k=true)->Jq t (t.rent P a q)=true
 | .node k s x ks,q,h=>by
  unfold ag.rent Jq;rw[Ny ks q 0 (fun m r k hp hk=>h ((m:Int) ::r) k (by rwa [Nat.zero_add] at hp) (by show(if (m:Int)<0 then none else ja (m:Int).toNat r ks)=some k;rw[if_neg (by omega)];exact hk))]
  simp only[beq_self_eq_true,Bool.true_and,Bool.and_true,Bool.or_eq_true,beq_iff_eq];split
  .rename_i hp;exact .inl (h [] k (by rw[List.append_nil];exact hp) rfl)
  .exact .inr rfl
theorem Ny {P:List Int->Bool} {a:ar}:∀(ts:List ag) (q:List Int) (j:Nat),(∀(m:Nat) r k,P (q++((j+m:Nat):Int) ::r)=true->ja m r ts=some k->cG k=true)->EH ts (db P a q j ts)=true
 |[],q,j,h=>rfl
 |t::ts,q,j,h=>by unfold db EH;rw[NA t (q++[(j:Int)]) (fun r k hp hk=>h 0 r k (by rw[List.append_assoc] at hp;exact hp) hk),Ny ts q (j+1) (fun m r k hp hk=>h (m+1) r k (by rwa [show j+(m+1)=j+1+m from by omega]) hk)];rfl
end
def J4(n m:ag):Bool:=decide ((gx n).1=0) && decide ((gx m).1=0) && Jq n m && decide (kv (i5 n)=kv (i5 m))
theorem M8{n:ag}{st:bo}(hk:n.kind=1)(hr:pi n=true)(hl:gn n.kids= .ok ([],st)){i:Nat}(hi:i∈st.all)(r:List Int):jy st i r=true↔r∈(cy st i).path:: (cy st i).uses:=by have h1:=(Dv hl (CP hk hr)).2 i hi;rw[<- (DH h1.2).2,<-Ip,List.contains_iff_mem]
theorem N2{n:ag}{st:bo}(hk:n.kind=1)(hr:pi n=true)(hl:gn n.kids= .ok ([],st)){i:Nat}(hi:i∈st.all)(a:ar):wc n a ((cy st i).path:: (cy st i).uses)=n.rent (jy st i) a []:=by
 have hF:=CP hk hr;have h1:=(Dv hl hF).2 i hi;rw[<- (DH h1.2).2];obtain⟨k,s,x,ks⟩:=n;have hk:k=1:=hk;subst hk;have hl:gn ks= .ok ([],st):=hl;unfold wc;rw[IH hl hF];have h0:jy st i []=false:=by
  cases h0:jy st i [] with
  |false=>rfl
  |true=>obtain⟨m,r,k,h2,_⟩:=DU hl hF _ (of_decide_eq_true h0);cases h2
 unfold ag.rent;rw[h0];rfl
theorem PK{n:ag}{st:bo}(hk:n.kind=1)(hr:pi n=true)(hl:gn n.kids= .ok ([],st)){i:Nat}{r:List Int}{k:Nat}(hp:jy st i r=true)(hkk:n.kindAt r=some k):cG k=true:=by obtain⟨m,r',k',h1,h2,h3⟩:=DU hl (CP hk hr) _ (of_decide_eq_true hp);obtain⟨k0,s,x,ks⟩:=n;have h1:r=(m:Int) ::r':=h1;subst h1;have hkk:(if (m:Int)<0 then none else ja (m:Int).toNat r' ks)=some k:=hkk;rw[if_neg (by omega)] at hkk;have hkk:ja m r' ks=some k:=hkk;have h2:ja m r' ks=some k':=h2;rw[hkk] at h2;injection h2 with h2;rw[h2];exact h3
theorem KJ{n m:ag}{p:List Int}{f a:ar}(hn:jv n)(h:Ca n p f a= .ok m):jv m/\∃st i,gn n.kids= .ok ([],st)/\i∈st.all/\(cy st i).path=p/\(cy st i).name=f/\m=n.rent (jy st i) a []/\vi p (i5 n)=vi p (i5 m):=by
 obtain⟨hk,hr,st,hl⟩:=hn;unfold Ca at h;cases hf:(i5 n).find? (fun b=>decide (b.path=p)) with
 |none=>rw[hf] at h;cases h
 |some b=>
  rw[hf] at h;simp only at h;split at h
  .cases h
  .rename_i h1;split at h
   .cases h
   .rename_i h2;injection h with h;simp only[not_or,ne_eq,Decidable.not_not] at h1 h2;have hb:=List.mem_of_find?_eq_some hf;have hp:b.path=p:=(by simpa using List.find?_some hf);rw[DF hk hr hl] at hb;obtain⟨i,hi,rfl⟩:=List.mem_map.1 hb;rw[<-hp,N2 hk hr hl hi a] at h h2;rw[h] at h2;exact⟨JD.2 h2.1,st,i,hl,hi,hp,h1,h.symm,by rw[<-hp];exact h2.2⟩
theorem N1{n m:ag}{p:List Int}{f a:ar}(hn:jv n)(h:Ca n p f a= .ok m):Ca m p a f= .ok n:=by
 obtain⟨hm,st,i,hl,hi,hp,hf,hmr,hs⟩:=KJ hn h;have hn':=hn;obtain⟨hk,hr,st0,hl0⟩:=hn;obtain⟨hk',hr',st',hl'⟩:=hm;have hall:=(Dv hl (CP hk hr)).2;have hall':=(Dv hl' (CP hk' hr')).2;have hseen:kv (i5 n)=kv (i5 m):=(by rw[<-Lu (p:=p),hs,Lu]);have hmem:(p,(cy st i).uses)∈kv (i5 m):=by rw[<-hseen,DF hk hr hl];exact List.mem_map.2 ⟨_,List.mem_map.2 ⟨i,hi,rfl⟩,by rw[hp]⟩
 rw[DF hk' hr' hl'] at hmem;obtain⟨b',hb',he⟩:=List.mem_map.1 hmem;obtain⟨i',hi',rfl⟩:=List.mem_map.1 hb';injection he with e1 e2;have hfind:(i5 m).find? (fun b=>decide (b.path=p))=some (cy st' i'):=by rw[DF hk' hr' hl'];refine Nf hi' (by simpa using e1) (fun j hj hjp=>?_);have hjp:(cy st' j).path=p:=(by simpa using hjp);exact FN hl' (CP hk' hr') hj hi' (by rw[hjp,e1])
 have hPP:∀r,jy st' i' r=jy st i r:=fun r=>by rw[Bool.eq_iff_iff,M8 hk' hr' hl' hi',M8 hk hr hl hi,e1,e2,hp]
 have htext:∀r u,jy st i r=true->b7 r n=some u->u.text=f:=fun r u hP hu=>by have:=L7 hk hr hl (of_decide_eq_true hP);rw[hu] at this;have h2:u.text=fc st i:=(by simpa using this);rw[h2];exact hf
 have hback:m.rent (jy st' i') f []=n:=by rw[hmr,DK (Q:=jy st i) _ [] (fun r=>hPP _),N7,N9 n [] (fun r u hP hu=>htext r u hP hu)]
 have hname:(cy st' i').name=a:=by
  have h1:=(DH (hall' i' hi').2).1;have h2:=L7 hk' hr' hl' h1;have h3:=(DH (hall i hi).2).1;have h4:=L7 hk hr hl h3;rw[e1,hmr,N8] at h2;rw[hp] at h4 h3;cases hg:b7 p n with
  |none=>rw[hg] at h4;cases h4
  |some u=>rw[hg] at h2;have h5:(u.rent (jy st i) a ([]++p)).text=fc st' i':=(by simpa using h2);show fc st' i'=a;rw[<-h5];obtain⟨k,s,x,ks⟩:=u;unfold ag.rent;show(if jy st i ([]++p)=true then a else s)=a;rw[if_pos (by show decide _=true;simpa using h3)]
 unfold Ca;rw[hfind];simp only;rw[if_neg (by rw[hname];simp)];have hren:wc m f (p:: (cy st' i').uses)=n:=by have:=N2 hk' hr' hl' hi' f;rw[e1] at this;rw[this,hback]
 rw[hren,if_neg (by simp only[not_or,ne_eq,Decidable.not_not];exact⟨JD.1 hn',hs.symm⟩)]
theorem N3{n m:ag}{p:List Int}{f a:ar}(hn:jv n)(h:Ca n p f a= .ok m):qq n m some=true:=by
 obtain⟨hm,st,i,hl,hi,hp,hf,hmr,hs⟩:=KJ hn h;have he:kb n=kb m:=by show KP (i5 n)=KP (i5 m);rw[<-Oz (p:=p),hs,Oz]
 unfold qq;rw[List.all_eq_true];intro q hq;simp only;rw[he] at hq;exact(Mv hm).2 hq
theorem Q6{n m:ag}{p:List Int}{f a:ar}(hn:jv n)(h:Ca n p f a= .ok m):J4 n m=true:=by
 obtain⟨hm,st,i,hl,hi,hp,hf,hmr,hs⟩:=KJ hn h;have hseen:kv (i5 n)=kv (i5 m):=(by rw[<-Lu (p:=p),hs,Lu]);unfold J4;rw[JD.1 hn,JD.1 hm,hseen];obtain⟨hk,hr,_⟩:=hn;have:Jq n m=true:=by rw[hmr];exact NA n [] (fun r k hP hkk=>PK hk hr hl hP hkk)
 rw[this];simp
theorem Nl{e:aj}(h:e.kind=1):d9 e=some:=by funext u;unfold d9;simp[h]
theorem Md{n:ag}{e:aj}(h:e.kind=1):ek n e=Ca n e.path e.frm e.to_:=by unfold ek;rw[if_pos h]
theorem Ry{n m:ag}{e:aj}(h:Cw ek n [e]= .ok m):j4 n e=j4 m (bD e)/\(e.kind=1->j4 n e=true/\J4 n m=true):=by
 obtain⟨hn,he,ho⟩:=JO.1 h;have h1:j4 n e=qq n m (d9 e):=(by unfold j4;rw[h]);by_cases hk:e.kind=1
 .rw[Md hk] at ho;obtain⟨hm,_⟩:=KJ hn ho;have hi:bD e=⟨1,e.path,e.at_,e.far,e.to_,e.frm,e.news,e.olds⟩:=(by rw[qm he,hk];rfl);have hb:Cw ek m [bD e]= .ok n:=JO.2 ⟨hm,vv he,by rw[hi,Md rfl];exact N1 hn ho⟩;have h2:j4 m (bD e)=qq m n (d9 (bD e)):=(by unfold j4;rw[hb]);have h3:=N3 hn ho;have h4:=N3 hm (N1 hn ho);rw[h1,h2,Nl hk,Nl (by rw[hi]),h3,h4];exact⟨rfl,fun _=>⟨rfl,Q6 hn ho⟩⟩
 .have hb:Cw ek m [bD e]= .ok n:=JO.2 ⟨((KE he hk).1 ho).2,vv he,P8 hn he hk ho⟩;have h2:j4 m (bD e)=qq m n (d9 (bD e)):=(by unfold j4;rw[hb]);rw[h1,h2];exact⟨Rg hn he hk ho,fun h=>absurd h hk⟩
end Go.Proofs.YtfipahjodfminaaGreatDoor
