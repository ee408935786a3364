/- Part 3 of the proof. -/
import Derived.Laws.AppendOwn
import Derived.Laws.EntriesVeiled
import Derived.Test.YtfipahjodfminaaGreatDoorMfB
namespace Go.Proofs.YtfipahjodfminaaGreatDoor
open Go.RowKit
set_option linter.all false
set_option maxHeartbeats 40000000
set_option maxRecDepth 100000
theorem Tryz.infoNode:(Tryz.prog.info? 25).map (fun i=>(i.zero,i.size,i.bytes))=some (some (.agg #[.int .u8 0,.string ⟨#[]⟩,.int .i64 0,.slice none 0 0]),4,56):=by kernel_rfl
def sP(ks:List ag)(n:Nat)(w0 w:World)(e:Ending)(w':World):Prop:=
 ∃A c,e= .returned (.slice A n c)/\Below w.heap.size w w'/\n<=c/\c<=maxLen/\hH w' w.heap.size 25 4 (.slice A n c)/\(ks=[]∨∃g,A=some ⟨g,0,none⟩/\w.heap.size<=g/\g<w'.heap.size/\(∀j,w'.frozen? ⟨g,j,none⟩=false)/\
  ∀i t,ks[i]? =some t->∃A c,w'.cell? ⟨g,i*4,none⟩=some (.int .u8 t.kind)/\w'.cell? ⟨g,i*4+1,none⟩=some (.string (sb t.text))/\w'.cell? ⟨g,i*4+2,none⟩=some (.int .i64 t.num)/\w'.cell? ⟨g,i*4+3,none⟩=some (.slice A t.kids.length c)/\ce w0 t.kids A t.kids.length c/\t.kind<=255/\t.text.length<=maxLen/\tw t.num)
theorem iJ{w:World}{b o m j:Nat}{v:Value}(hj:j<m)(h:w.cell? ⟨b,o+j,none⟩=some v):(cellsOf w b o m)[j]? =some v:=by simp[cellsOf,hj,h]
theorem oG{w:World}{base:Nat}{e:TypeId}{size g n cap:Nat}{xs:List Value}(h:w.ownsRow base e size (.slice (some ⟨g,0,none⟩) n cap) n xs)(j:Nat):w.frozen? ⟨g,j,none⟩=false:=by
 rcases h.2 with ⟨hv,_⟩|⟨g',cap',cur,hv,hg,hh,_⟩
 .cases hv
 .injection hv with e1 e2 e3;injection e1 with e1;injection e1 with e1;subst e1;simp[World.frozen?,hh]
theorem xO(ks:List ag)(A:Option Addr)(n c:Nat)(w0 w:World)(h0':ce w0 ks A n c)(hb0:Below w0.heap.size w0 w)(hbig:n<=1000000000):Calls Tryz.prog 118 #[.slice A n c] w (sP ks n w0 w):=by
 have HB0:=ab hb0;have HK0:=ab h0';obtain⟨hl,h2,h3,h4⟩:=h0'.below hb0;clear h0' hb0;obtain⟨i0,hi,hz0,hz1,hz2⟩:=info_parts Tryz.infoNode;have q22:∀(w:World) (a:Option Addr) (n c n' c':Nat),(binOp .eql 23 (.slice a n c) (.slice none n' c')).run Tryz.prog w= .ok (.bool a.isNone) w:=fun w a n c n' c'=>Lib.run_eql_slice_nil w _ _ a n c n' c' Tryz.underlying23;cases A with
 |none=>
  have hks:ks=[]:=by rcases h4 with e|⟨b,o,e,_⟩;exact e;cases e
  subst hks;have HN0:Hid (n=0):=hl;clear h2 h3 h4 hbig hl hi hz0 hz1 hz2
  go_in
  go_wp2;go_ret;exact⟨none,0,by rw[HN0.out];rfl,ai _ _,by rw[HN0.out];exact aE _,aE _,by rw[HN0.out];exact⟨0,[],World.ownsRow_nil _ _ _ _⟩,.inl rfl⟩
 |some ad=>
  have hrow:ks=[]∨∃b o,ad=⟨b,o,none⟩/\bk w ks b o:=by
   rcases h4 with e|⟨b,o,e,hr⟩
   .exact .inl e
   .injection e with e;exact .inr ⟨b,o,e,hr⟩
  have HR:=ab hrow;have HLN:Hid (n=ks.length):=hl;clear h4 hrow hl;have HX:Hid (∃news:List Value,news.length=n*4/\(∀j u,news[j]? =some u->w.cell? (ad.add j)=some u)/\(∀u∈news,u.oneCell'=true)/\(ks≠[]->∃b o,ad=⟨b,o,none⟩/\bk w ks b o/\news=cellsOf w b o (ks.length*4))):=by
   rcases HR.out with rfl|⟨b,o,rfl,hr⟩
   .have:=HLN.out;simp at this;subst this;exact⟨[],rfl,by simp,by simp,fun e=>absurd rfl e⟩
   .refine⟨cellsOf w b o (ks.length*4),by rw[nX,HLN.out],fun j u hu=>?_,pS hr,fun _=>⟨b,o,rfl,hr,rfl⟩⟩;rw[CE];exact nW hr hu
  obtain⟨news,x1,x2,x3,x4⟩:=HX.out;have X4:=ab x4;have X2:=ab x2;have X3:=ab x3;clear x2 x3 x4
  go_in
  go_wp2_with (at_builtin;refine wpList_append_own _ rfl _ _ 23 rfl w.heap.size 25 i0 _ 4 56 Tryz.underlying23 hi hz0 hz1 hz2 rfl (by decide) _ _ _ rfl (World.ownsRow_made w #[] 0 (ah _) (aE _) rfl) ad n c news rfl (by simpa using x1) ?qc2 X3.out ?qc4 ?qc5 ?qc6 ?_);case qc2=>intro j u hj;exact Lib.cell?_alloc_some _ (X2.out j u hj)
  case qc4=>unfold maxLen;omega
  case qc5=>omega
  case qc6=>simp
  intro v' w1 hown hgrow hnil;have HO:=ab hown;have HG:=ab hgrow;clear hown hgrow hnil;go_wp2;go_ret;have hb:Below w.heap.size w w1:=((ai _ w).alloc (ah _) _).grown HG.out (by simp) (by intro k hk;simp[Value.ownBlock] at hk;omega);obtain⟨A',c',rfl,k1,k2⟩:=t9 HO.out;by_cases h0:ks=[]
  .exact⟨A',c',by simp,hb,by omega,k2,⟨_,_,by simpa using HO.out⟩,.inl h0⟩
  .obtain⟨b,o,rfl,hr,hnews⟩:=X4.out h0;have hpos:0<n:=(by rw[HLN.out];exact List.length_pos_iff.2 h0);obtain⟨g,cap,e,hg⟩:=HO.out.form (by omega);injection e with e1 e2 e3;subst e1 e3;have hlt:=HO.out.lt g rfl;refine⟨_,_,by simp,hb,by omega,k2,⟨_,_,by simpa using HO.out⟩,.inr ⟨g,rfl,hlt.1,hlt.2,oG (by simpa using HO.out),fun i t ht=>?_⟩⟩;have hr0:bk w0 ks b o:=by
    rcases HK0.out.2.2.2 with e|⟨b',o',e,hr'⟩
    .exact absurd e h0
    .injection e with e;injection e with e1 e2;subst e1 e2;exact hr'
   obtain⟨A2,c2,t0,t1,t2,t3,t4,t5,t6,t7⟩:=(hr0.get ht).parts;replace t0:=ac HB0.out t0;replace t1:=ac HB0.out t1;replace t2:=ac HB0.out t2;replace t3:=ac HB0.out t3;have hi4:i<ks.length:=(gl.1 ht).1;have hcs:∀j u,(cellsOf w b o (ks.length*4))[j]? =some u->w1.cell? ⟨g,j,none⟩=some u:=by intro j u hu;refine bH (by simpa using HO.out) j u ?_;rw[hnews];simpa using hu
   exact⟨A2,c2,hcs _ _ (iJ (by omega) t0),hcs _ _ (iJ (by omega) (by rw[<-Nat.add_assoc];exact t1)),hcs _ _ (iJ (by omega) (by rw[<-Nat.add_assoc];exact t2)),hcs _ _ (iJ (by omega) (by rw[<-Nat.add_assoc];exact t3)),t4,t5,t6,t7⟩
theorem n8(args:Array Value)(w:World):(callFunc 154 args).run Tryz.prog w= .ok (.enter 154 args) w:=eH Tryz.func154 (by kernel_rfl) (by kernel_rfl) args w
def nF(m:Nat):Prop:=∀(t:ag) (k:Nat) (s:ByteArray) (x:Int) (A:Option Addr) (n c deep rb:Nat) (w:World),t.sz<=m->cf w t k s x A n c->t.short 9223372036854775806->deep<=41->bI w->
 w.cell? ⟨rb,0,none⟩=some (.func (.func 154) #[] #[.pointer (some ⟨rb,0,none⟩)])->
 Calls Tryz.prog 154 #[.agg #[.int .u8 k,.string s,.int .i64 x,.slice A n c],.int .i64 deep,.pointer (some ⟨rb,0,none⟩)] w (ak (cE deep t) w)
theorem rT(k i d:Nat)(t:ag)(ts:List ag):bV k i d (t::ts)=(mn k t.kind i && cE d t && bV k (i+1) d ts):=by simp only[bV]
theorem rU{k d i:Nat}{ks:List ag}{t:ag}(h:bV k 0 d ks=bV k i d (ks.drop i))(ht:ks[i]? =some t):bV k 0 d ks=(mn k t.kind i && cE d t && bV k (i+1) d (ks.drop (i+1))):=by have hi:i<ks.length:=(gl.1 ht).1;rw[h,List.drop_eq_getElem_cons hi];rw[br hi] at ht;injection ht with ht;rw[ht,rT]
theorem sD{ks:List ag}{i:Nat}{t:ag}(h:ks[i]? =some t):t.sz<=ao ks:=by
 induction ks generalizing i with
 |nil=>simp at h
 |cons u us ih=>
  cases i with
  |zero=>simp at h;subst h;simp[ao]
  |succ i=>have:=ih (i:=i) (by simpa using h);simp[ao];omega
def jK(ks:List ag):Bool:=match ks with| .node 22 _ _ _::_=>true| .node _ _ _ (.node 22 _ _ _::_) ::_=>true|_=>false
theorem km{w:World}{x y:Value}{T:TypeId}:(w.alloc (.cells #[x,y] T)).cell? ⟨w.heap.size,0,none⟩=some x/\(w.alloc (.cells #[x,y] T)).cell? ⟨w.heap.size,1,none⟩=some y:=by refine⟨?_,?_⟩ <;> (rw[World.cell?_alloc_new];rfl)
theorem zW{d k:Nat}{s:ar}{x:Int}{ks:List ag}(h:ig k=none):cE d (.node k s x ks)=false:=by simp[cE,h]
theorem rY{d k:Nat}{s:ar}{x:Int}{ks:List ag}{l:List Nat}{all:Bool}(h:ig k=some (l,all)):cE d (.node k s x ks)=(decide (d<=40) && dx k s x && (all || ks.length == l.length) && bV k 0 (d+1) ks && (k != 7 || jK ks)):=by simp only[cE,h];rfl
theorem zU{d:Nat}{ks:List ag}(h:bV 7 0 d ks=true)(hl:0<ks.length):∃t0 ts,ks=t0::ts/\((t0.kind=22/\jK ks=true)∨(t0.kind=26/\∃u us,t0.kids=u::us/\jK ks=(u.kind == 22))):=by
 match ks,hl with
 |t0::ts,_=>
  rw[rT] at h;simp only[Bool.and_eq_true] at h;obtain⟨⟨h1,h2⟩,_⟩:=h;refine⟨t0,ts,rfl,?_⟩;obtain⟨k0,s0,x0,ks0⟩:=t0;have hk:k0=22∨k0=26:=(by simpa[mn,ig,fP,ag.kind] using h1);rcases hk with rfl|rfl
  .exact .inl ⟨rfl,rfl⟩
  .right;refine⟨rfl,?_⟩;have hr:ig 26=some ([200,200],false):=rfl;rw[rY hr] at h2;have h3:ks0.length=2:=(by revert h2;simp;intros;assumption);match ks0,h3 with
   |u::us,_=>
    refine⟨u,us,rfl,?_⟩;obtain⟨ku,su,xu,ksu⟩:=u;by_cases hu:ku=22
    .subst hu;rfl
    .have:(ag.kind (.node ku su xu ksu) == 22)=false:=(by simp[ag.kind,hu]);rw[this];unfold jK;split
     .rename_i heq;injection heq with h1 _;injection h1 with h1;omega
     .rename_i heq;injection heq with h1 _;injection h1 with _ _ _ h1;injection h1 with h1 _;injection h1 with h1;omega
     .rfl
theorem zX(m:Nat)(ih:Hid (nF m)):nF (m+1):=by
 intro t k s x A n c deep rb w hsz hN hsh hd hE hrb;obtain⟨ks,rfl,hk255,hsm,hx,hK⟩:=hN;have hs:s.size<=9223372036854775806:=(by simp only[ag.short] at hsh;exact hsh.1);have HSZ:Hid (ao ks<=m):=(by show _<=_;simp only[ag.sz] at hsz;omega);have HSH:Hid (ex 9223372036854775806 ks):=(by simp only[ag.short] at hsh;exact hsh.2);have hb0:Below w.heap.size w (w.alloc (.cells #[.int .u8 k,.string s,.int .i64 x,.slice A n c] 25)):=(ai _ _).alloc (ah _) _;have HB0:=ab hb0;have HE:=ab (hE.below hb0 (ah _));have HK:=ab (hK.below hb0);have HRB:=ab (ac hb0 hrb);have hlrb:=bK hrb;simp only at hlrb;clear hsz hsh hb0 hE hrb hx hk255;cases hr:ig k with
 |none=>
  have HR:=ab hr;have HF:=ab (zW (d:=deep) (s:=bl s) (x:=x) (ks:=ks) hr);clear hr
  go_in
  go_wp2_with fail;refine(gX k _).mono ?_;rintro e w1 ⟨hb,hp⟩;rw[HR.out] at hp;simp only at hp;subst hp;have HB:Hid (Below w.heap.size w w1):=HB0.out.trans (hb.mono HB0.out.size);clear hb;go_wp2_with fail;go_ret;exact ak.intro HF.out.symm (HB.out.alloc HB.out.size _)
 |some r=>
  obtain⟨l,all⟩:=r;have HR:=ab hr;have HF:=ab (rY (d:=deep) (s:=bl s) (x:=x) (ks:=ks) hr);clear hr;by_cases hdp:40<deep
  .have HV:Hid (cE deep (.node k (bl s) x ks)=false):=by show _=_;rw[HF.out];simp[Nat.not_le.2 hdp]
   go_in
   go_wp2_with fail;refine(gX k _).mono ?_;rintro e w1 ⟨hb,hp⟩;rw[HR.out] at hp;simp only at hp;obtain⟨v,rfl,A1,n1,c1,rfl,hk1⟩:=hp;have HB:Hid (Below w.heap.size w w1):=HB0.out.trans (hb.mono HB0.out.size);clear hb hk1;go_wp2_with fail;go_ret;exact ak.intro HV.out.symm (HB.out.alloc HB.out.size _)
  .have hd40:deep<=40:=(by omega);clear hdp;cases hsy:dx k (bl s) x with
   |false=>
    have HSY:=ab hsy;have HV:Hid (cE deep (.node k (bl s) x ks)=false):=(by show _=_;rw[HF.out,hsy];simp);clear hsy
    go_in
    go_wp2_with fail;refine(gX k _).mono ?_;rintro e w1 ⟨hb,hp⟩;rw[HR.out] at hp;simp only at hp;obtain⟨v,rfl,A1,n1,c1,rfl,hk1⟩:=hp;have HB:Hid (Below w.heap.size w w1):=HB0.out.trans (hb.mono HB0.out.size);have HE1:=ab ((HE.out.below hb (ah _)).below ((ai _ _).alloc (ah _) (.cells #[.slice A1 n1 c1,.bool all] 175)) (ah _));have hc0:=(hb.cell (p:=⟨w.heap.size,0,none⟩) (by simp)).trans j7.1;have hc1:=(hb.cell (p:=⟨w.heap.size,1,none⟩) (by simp)).trans j7.2.1;have hc2:=(hb.cell (p:=⟨w.heap.size,2,none⟩) (by simp)).trans j7.2.2.1;have hc3:=(hb.cell (p:=⟨w.heap.size,3,none⟩) (by simp)).trans j7.2.2.2;have hlt:w.heap.size<w1.heap.size:=(by have:=hb.size;simp at this;omega);clear hb hk1;go_wp2_with fail;refine(mH k s x A _ c _ HE1.out hs).mono ?_;rintro e w2 ⟨rfl,hb⟩;rw[HSY.out];have HB2:Hid (Below w.heap.size w w2):=(HB.out.alloc HB.out.size _).trans (hb.mono (by simp;have:=HB.out.size;omega));clear hb;go_wp2_with fail;go_ret;exact ak.intro HV.out.symm HB2.out
   |true=>
    have HSY:=ab hsy;have hnk:n=ks.length:=HK.out.1;by_cases hcount:all=false/\n≠l.length
    .obtain⟨rfl,hne⟩:=hcount;have HV:Hid (cE deep (.node k (bl s) x ks)=false):=by show _=_;rw[HF.out];have:(ks.length == l.length)=false:=(by simp;omega);simp[this]
     have hne':((n:Int) != l.length)=true:=(by simp;omega);clear hsy hne hnk
     go_in
     go_wp2_with fail;refine(gX k _).mono ?_;rintro e w1 ⟨hb,hp⟩;rw[HR.out] at hp;simp only at hp;obtain⟨v,rfl,A1,n1,c1,rfl,hk1⟩:=hp;have HB:Hid (Below w.heap.size w w1):=HB0.out.trans (hb.mono HB0.out.size);have HE1:=ab ((HE.out.below hb (ah _)).below ((ai _ _).alloc (ah _) (.cells #[.slice A1 n1 c1,.bool false] 175)) (ah _));have hc0:=(hb.cell (p:=⟨w.heap.size,0,none⟩) (by simp)).trans j7.1;have hc1:=(hb.cell (p:=⟨w.heap.size,1,none⟩) (by simp)).trans j7.2.1;have hc2:=(hb.cell (p:=⟨w.heap.size,2,none⟩) (by simp)).trans j7.2.2.1;have hc3:=(hb.cell (p:=⟨w.heap.size,3,none⟩) (by simp)).trans j7.2.2.2;have hlt:w.heap.size<w1.heap.size:=(by have:=hb.size;simp at this;omega);have HN1:Hid (n1=l.length):=hk1.1;have HKr:=ab (HK.out.below hb);have HRr:=ab (ac hb HRB.out);clear hb hk1;go_wp2_with fail;refine(mH k s x A _ c _ HE1.out hs).mono ?_;rintro e w2 ⟨rfl,hb⟩;rw[HSY.out];have HB2:Hid (Below w.heap.size w w2):=(HB.out.alloc HB.out.size _).trans (hb.mono (by simp;have:=HB.out.size;omega));have hbw:Below w1.heap.size w1 w2:=((ai _ _).alloc (ah _) _).trans (hb.mono (by simp));have hd0:=(hbw.cell (p:=⟨w.heap.size,0,none⟩) hlt).trans hc0;have hd1:=(hbw.cell (p:=⟨w.heap.size,1,none⟩) hlt).trans hc1;have hd2:=(hbw.cell (p:=⟨w.heap.size,2,none⟩) hlt).trans hc2;have hd3:=(hbw.cell (p:=⟨w.heap.size,3,none⟩) hlt).trans hc3;have hr0:=(hb.cell (p:=⟨w1.heap.size,0,none⟩) (by simp)).trans (km (w:=w1)).1;have hr1:=(hb.cell (p:=⟨w1.heap.size,1,none⟩) (by simp)).trans (km (w:=w1)).2;have HE2:=ab (HE1.out.below hb (ah _));have HK2:=ab (HKr.out.below hbw);have HR2:=ab (ac hbw HRr.out);have hlt2:w.heap.size<w2.heap.size:=(by have:=hbw.size;omega);clear hb hbw hc0 hc1 hc2 hc3 HE1 HKr HRr;obtain rfl:=HN1.out;go_wp2_with fail;go_ret;exact ak.intro HV.out.symm HB2.out
    .have HC:Hid (cE deep (.node k (bl s) x ks)=(bV k 0 (deep+1) ks && (k != 7 || jK ks))):=by
      show _=_;rw[HF.out,hsy];have:(all || ks.length == l.length)=true:=by
       cases all with
       |true=>rfl
       |false=>simp at hcount ⊢;omega
      simp[hd40,this]
     have hall:all=true∨(all=false/\n=l.length):=by cases all<;>simp at hcount ⊢;exact hcount
     clear hsy hcount hnk;rcases hall with rfl|⟨rfl,rfl⟩
     .go_in
      go_wp2_with fail;refine(gX k _).mono ?_;rintro e w1 ⟨hb,hp⟩;rw[HR.out] at hp;simp only at hp;obtain⟨v,rfl,A1,n1,c1,rfl,hk1⟩:=hp;have HB:Hid (Below w.heap.size w w1):=HB0.out.trans (hb.mono HB0.out.size);have HE1:=ab ((HE.out.below hb (ah _)).below ((ai _ _).alloc (ah _) (.cells #[.slice A1 n1 c1,.bool true] 175)) (ah _));have hc0:=(hb.cell (p:=⟨w.heap.size,0,none⟩) (by simp)).trans j7.1;have hc1:=(hb.cell (p:=⟨w.heap.size,1,none⟩) (by simp)).trans j7.2.1;have hc2:=(hb.cell (p:=⟨w.heap.size,2,none⟩) (by simp)).trans j7.2.2.1;have hc3:=(hb.cell (p:=⟨w.heap.size,3,none⟩) (by simp)).trans j7.2.2.2;have hlt:w.heap.size<w1.heap.size:=(by have:=hb.size;simp at this;omega);have HN1:Hid (n1=l.length):=hk1.1;have HKr:=ab (HK.out.below hb);have HRr:=ab (ac hb HRB.out);clear hb hk1;go_wp2_with fail;refine(mH k s x A _ c _ HE1.out hs).mono ?_;rintro e w2 ⟨rfl,hb⟩;rw[HSY.out];have HB2:Hid (Below w.heap.size w w2):=(HB.out.alloc HB.out.size _).trans (hb.mono (by simp;have:=HB.out.size;omega));have hbw:Below w1.heap.size w1 w2:=((ai _ _).alloc (ah _) _).trans (hb.mono (by simp));have hd0:=(hbw.cell (p:=⟨w.heap.size,0,none⟩) hlt).trans hc0;have hd1:=(hbw.cell (p:=⟨w.heap.size,1,none⟩) hlt).trans hc1;have hd2:=(hbw.cell (p:=⟨w.heap.size,2,none⟩) hlt).trans hc2;have hd3:=(hbw.cell (p:=⟨w.heap.size,3,none⟩) hlt).trans hc3;have hr0:=(hb.cell (p:=⟨w1.heap.size,0,none⟩) (by simp)).trans (km (w:=w1)).1;have hr1:=(hb.cell (p:=⟨w1.heap.size,1,none⟩) (by simp)).trans (km (w:=w1)).2;have HE2:=ab (HE1.out.below hb (ah _));have HK2:=ab (HKr.out.below hbw);have HR2:=ab (ac hbw HRr.out);have hlt2:w.heap.size<w2.heap.size:=(by have:=hbw.size;omega);clear hb hbw hc0 hc1 hc2 hc3 HE1 HKr HRr;obtain rfl:=HN1.out;have hnn:n<=9223372036854775807:=(by have h1:=HK.out.2.1;have h2:=HK.out.2.2.1;unfold maxLen at h2;omega);have HNK:Hid (n=ks.length):=HK.out.1;go_wp2_with fail;go_loopw [44] (fun i wr=>∃j:Nat,j<=n/\i= .int .i64 j/\Hid (Below w2.heap.size w2 wr)/\Hid (bI wr)/\Hid (bV k 0 (deep+1) ks=bV k j (deep+1) (ks.drop j))) (fun i _=>n - (intOf i).toNat);case atStart=>exact⟨0,aE _,rfl,ai _ _,HE2.out,rfl⟩
      case round=>
       obtain⟨j,hj,rfl,HBr,HEr,HI⟩:=hrel;have hbr:=HBr.out;have he0:=(hbr.cell (p:=⟨w.heap.size,0,none⟩) hlt2).trans hd0;have he3:=(hbr.cell (p:=⟨w.heap.size,3,none⟩) hlt2).trans hd3;have HKw:=ab (HK2.out.below hbr);have HRw:=ab (ac hbr HR2.out);have hltr:w.heap.size<wr.heap.size:=(by have:=hbr.size;omega);have HBw:Hid (Below w.heap.size w wr):=HB2.out.trans (hbr.mono HB2.out.size);have HSr:Hid (w2.heap.size<=wr.heap.size):=hbr.size;clear hbr;by_cases hlt:j<n
       .obtain⟨b,o,t,rfl,ht,hat⟩:=HKw.out.get hlt;obtain⟨A',c',q0,q1,q2,q3,hnode⟩:=hat.cells;have hqlt:=bK q0;simp only at hqlt;have HND:=ab hnode;have HSZT:Hid (t.sz<=m):=aJ (sD ht) HSZ.out;have HSHT:Hid (t.short 9223372036854775806):=ex.get HSH.out ht;have HST:=ab (rU HI.out ht);clear ht hat hnode;cases hf:mn k t.kind j with
        |false=>have HFF:=ab hf;have HV:Hid (cE deep (.node k (bl s) x ks)=false):=(by show _=_;rw[HC.out,HST.out,hf];simp);clear hf;go_wp2_with fail;refine(mE k t.kind j _).mono ?_;rintro e w3 ⟨rfl,hb⟩;rw[HFF.out];have HB3:Hid (Below w.heap.size w w3):=(HBw.out.alloc HBw.out.size _).trans (hb.mono (by simp;omega));clear hb;go_wp2_with fail;go_ret;exact ak.intro HV.out.symm HB3.out
        |true=>
         have HFF:=ab hf;have HST2:Hid (bV k 0 (deep+1) ks=(cE (deep+1) t && bV k (j+1) (deep+1) (ks.drop (j+1)))):=(by show _=_;rw[HST.out,hf];simp);clear hf;go_wp2_with fail;refine(mE k t.kind j _).mono ?_;rintro e w3 ⟨rfl,hb⟩;rw[HFF.out];have hb3:Below wr.heap.size wr w3:=((ai _ _).alloc (ah _) _).trans (hb.mono (by simp));have HB3:=ab hb3;have s0:=(hb.cell (p:=⟨wr.heap.size,0,none⟩) (by simp)).trans j7.1;have s1:=(hb.cell (p:=⟨wr.heap.size,1,none⟩) (by simp)).trans j7.2.1;have s2:=(hb.cell (p:=⟨wr.heap.size,2,none⟩) (by simp)).trans j7.2.2.1;have s3:=(hb.cell (p:=⟨wr.heap.size,3,none⟩) (by simp)).trans j7.2.2.2;have srb:=ac hb3 HRw.out;have HSRB:=ab srb;have HND3:=ab (HND.out.below hb3);have HE3:=ab (HEr.out.below hb3 (ah _));have hcf:=n8;clear hb hb3;go_wp2_with fail;refine(ih.out t t.kind (sb t.text) t.num A' t.kids.length c' (deep+1) rb _ HSZT.out HND3.out HSHT.out (by omega) HE3.out HSRB.out).mono ?_;rintro e w4 ⟨rfl,hb4⟩;have HB4:Hid (Below wr.heap.size wr w4):=HB3.out.trans (hb4.mono HB3.out.size);have HE4:=ab (HE3.out.below hb4 (ah _));clear hb4;cases hrt:cE (deep+1) t with
         |false=>have HV:Hid (cE deep (.node k (bl s) x ks)=false):=(by show _=_;rw[HC.out,HST2.out,hrt];simp);clear hrt;go_wp2_with fail;go_ret;exact ak.intro HV.out.symm (HBw.out.trans (HB4.out.mono HBw.out.size))
         |true=>
          have HST3:Hid (bV k 0 (deep+1) ks=bV k (j+1) (deep+1) (ks.drop (j+1))):=(by show _=_;rw[HST2.out,hrt];simp);clear hrt;go_wp2_with fail;go_roundw;case rel=>exact⟨j+1,by omega,by go_num,HBr.out.trans (HB4.out.mono HSr.out),HE4.out,HST3.out⟩
          case measure=>simp[intOf];omega
       .have HV:Hid (cE deep (.node k (bl s) x ks)=(k != 7 || jK ks)):=by show _=_;rw[HC.out,HI.out];rw[List.drop_eq_nil_of_le (by have:=HNK.out;omega)];simp[bV]
        have HRL:Hid (bV k 0 (deep+1) ks=true):=by show _=_;rw[HI.out,List.drop_eq_nil_of_le (by have:=HNK.out;omega)];simp[bV]
        by_cases hk7:k=7
        .exfalso;have:=HR.out;rw[hk7] at this;simp[ig] at this
        .have e7:((k:Int) != 7)=true:=(by simp;omega);have HV2:Hid (cE deep (.node k (bl s) x ks)=true):=(by show _=_;rw[HV.out];simp[hk7]);clear hk7;go_wp2_with fail;go_ret;exact ak.intro HV2.out.symm HBw.out
     .go_in
      go_wp2_with fail;refine(gX k _).mono ?_;rintro e w1 ⟨hb,hp⟩;rw[HR.out] at hp;simp only at hp;obtain⟨v,rfl,A1,n1,c1,rfl,hk1⟩:=hp;have HB:Hid (Below w.heap.size w w1):=HB0.out.trans (hb.mono HB0.out.size);have HE1:=ab ((HE.out.below hb (ah _)).below ((ai _ _).alloc (ah _) (.cells #[.slice A1 n1 c1,.bool false] 175)) (ah _));have hc0:=(hb.cell (p:=⟨w.heap.size,0,none⟩) (by simp)).trans j7.1;have hc1:=(hb.cell (p:=⟨w.heap.size,1,none⟩) (by simp)).trans j7.2.1;have hc2:=(hb.cell (p:=⟨w.heap.size,2,none⟩) (by simp)).trans j7.2.2.1;have hc3:=(hb.cell (p:=⟨w.heap.size,3,none⟩) (by simp)).trans j7.2.2.2;have hlt:w.heap.size<w1.heap.size:=(by have:=hb.size;simp at this;omega);have HN1:Hid (n1=l.length):=hk1.1;have HKr:=ab (HK.out.below hb);have HRr:=ab (ac hb HRB.out);clear hb hk1;go_wp2_with fail;refine(mH k s x A _ c _ HE1.out hs).mono ?_;rintro e w2 ⟨rfl,hb⟩;rw[HSY.out];have HB2:Hid (Below w.heap.size w w2):=(HB.out.alloc HB.out.size _).trans (hb.mono (by simp;have:=HB.out.size;omega));have hbw:Below w1.heap.size w1 w2:=((ai _ _).alloc (ah _) _).trans (hb.mono (by simp));have hd0:=(hbw.cell (p:=⟨w.heap.size,0,none⟩) hlt).trans hc0;have hd1:=(hbw.cell (p:=⟨w.heap.size,1,none⟩) hlt).trans hc1;have hd2:=(hbw.cell (p:=⟨w.heap.size,2,none⟩) hlt).trans hc2;have hd3:=(hbw.cell (p:=⟨w.heap.size,3,none⟩) hlt).trans hc3;have hr0:=(hb.cell (p:=⟨w1.heap.size,0,none⟩) (by simp)).trans (km (w:=w1)).1;have hr1:=(hb.cell (p:=⟨w1.heap.size,1,none⟩) (by simp)).trans (km (w:=w1)).2;have HE2:=ab (HE1.out.below hb (ah _));have HK2:=ab (HKr.out.below hbw);have HR2:=ab (ac hbw HRr.out);have hlt2:w.heap.size<w2.heap.size:=(by have:=hbw.size;omega);clear hb hbw hc0 hc1 hc2 hc3 HE1 HKr HRr;obtain rfl:=HN1.out;have hnn:l.length<=9223372036854775807:=(by have h1:=HK.out.2.1;have h2:=HK.out.2.2.1;unfold maxLen at h2;omega);have HNK:Hid (l.length=ks.length):=HK.out.1;go_wp2_with fail;go_loopw [44] (fun i wr=>∃j:Nat,j<=l.length/\i= .int .i64 j/\Hid (Below w2.heap.size w2 wr)/\Hid (bI wr)/\Hid (bV k 0 (deep+1) ks=bV k j (deep+1) (ks.drop j))) (fun i _=>l.length - (intOf i).toNat);case atStart=>exact⟨0,aE _,rfl,ai _ _,HE2.out,rfl⟩
      case round=>
       obtain⟨j,hj,rfl,HBr,HEr,HI⟩:=hrel;have hbr:=HBr.out;have he0:=(hbr.cell (p:=⟨w.heap.size,0,none⟩) hlt2).trans hd0;have he3:=(hbr.cell (p:=⟨w.heap.size,3,none⟩) hlt2).trans hd3;have HKw:=ab (HK2.out.below hbr);have HRw:=ab (ac hbr HR2.out);have hltr:w.heap.size<wr.heap.size:=(by have:=hbr.size;omega);have HBw:Hid (Below w.heap.size w wr):=HB2.out.trans (hbr.mono HB2.out.size);have HSr:Hid (w2.heap.size<=wr.heap.size):=hbr.size;clear hbr;by_cases hlt:j<l.length
       .obtain⟨b,o,t,rfl,ht,hat⟩:=HKw.out.get hlt;obtain⟨A',c',q0,q1,q2,q3,hnode⟩:=hat.cells;have hqlt:=bK q0;simp only at hqlt;have HND:=ab hnode;have HSZT:Hid (t.sz<=m):=aJ (sD ht) HSZ.out;have HSHT:Hid (t.short 9223372036854775806):=ex.get HSH.out ht;have HST:=ab (rU HI.out ht);clear ht hat hnode;cases hf:mn k t.kind j with
        |false=>have HFF:=ab hf;have HV:Hid (cE deep (.node k (bl s) x ks)=false):=(by show _=_;rw[HC.out,HST.out,hf];simp);clear hf;go_wp2_with fail;refine(mE k t.kind j _).mono ?_;rintro e w3 ⟨rfl,hb⟩;rw[HFF.out];have HB3:Hid (Below w.heap.size w w3):=(HBw.out.alloc HBw.out.size _).trans (hb.mono (by simp;omega));clear hb;go_wp2_with fail;go_ret;exact ak.intro HV.out.symm HB3.out
        |true=>
         have HFF:=ab hf;have HST2:Hid (bV k 0 (deep+1) ks=(cE (deep+1) t && bV k (j+1) (deep+1) (ks.drop (j+1)))):=(by show _=_;rw[HST.out,hf];simp);clear hf;go_wp2_with fail;refine(mE k t.kind j _).mono ?_;rintro e w3 ⟨rfl,hb⟩;rw[HFF.out];have hb3:Below wr.heap.size wr w3:=((ai _ _).alloc (ah _) _).trans (hb.mono (by simp));have HB3:=ab hb3;have s0:=(hb.cell (p:=⟨wr.heap.size,0,none⟩) (by simp)).trans j7.1;have s1:=(hb.cell (p:=⟨wr.heap.size,1,none⟩) (by simp)).trans j7.2.1;have s2:=(hb.cell (p:=⟨wr.heap.size,2,none⟩) (by simp)).trans j7.2.2.1;have s3:=(hb.cell (p:=⟨wr.heap.size,3,none⟩) (by simp)).trans j7.2.2.2;have srb:=ac hb3 HRw.out;have HSRB:=ab srb;have HND3:=ab (HND.out.below hb3);have HE3:=ab (HEr.out.below hb3 (ah _));have hcf:=n8;clear hb hb3;go_wp2_with fail;refine(ih.out t t.kind (sb t.text) t.num A' t.kids.length c' (deep+1) rb _ HSZT.out HND3.out HSHT.out (by omega) HE3.out HSRB.out).mono ?_;rintro e w4 ⟨rfl,hb4⟩;have HB4:Hid (Below wr.heap.size wr w4):=HB3.out.trans (hb4.mono HB3.out.size);have HE4:=ab (HE3.out.below hb4 (ah _));clear hb4;cases hrt:cE (deep+1) t with
         |false=>have HV:Hid (cE deep (.node k (bl s) x ks)=false):=(by show _=_;rw[HC.out,HST2.out,hrt];simp);clear hrt;go_wp2_with fail;go_ret;exact ak.intro HV.out.symm (HBw.out.trans (HB4.out.mono HBw.out.size))
         |true=>
          have HST3:Hid (bV k 0 (deep+1) ks=bV k (j+1) (deep+1) (ks.drop (j+1))):=(by show _=_;rw[HST2.out,hrt];simp);clear hrt;go_wp2_with fail;go_roundw;case rel=>exact⟨j+1,by omega,by go_num,HBr.out.trans (HB4.out.mono HSr.out),HE4.out,HST3.out⟩
          case measure=>simp[intOf];omega
       .have HV:Hid (cE deep (.node k (bl s) x ks)=(k != 7 || jK ks)):=by show _=_;rw[HC.out,HI.out];rw[List.drop_eq_nil_of_le (by have:=HNK.out;omega)];simp[bV]
        have HRL:Hid (bV k 0 (deep+1) ks=true):=by show _=_;rw[HI.out,List.drop_eq_nil_of_le (by have:=HNK.out;omega)];simp[bV]
        by_cases hk7:k=7
        .subst hk7;have hlen:0<l.length:=(by have:=HR.out;simp[ig] at this;rw[<-this];simp);obtain⟨t0,ts,rfl,hcase⟩:=zU HRL.out (by have:=HNK.out;omega);obtain⟨b,o,t,rfl,ht,hat⟩:=HKw.out.get (i:=0) hlen;simp at ht;subst ht;obtain⟨A',c',q0,q1,q2,q3,ks0,hnode,_,_,_,hk0⟩:=hat.cells;have hkk:t0.kids=ks0:=(by rw[hnode];rfl);simp only[Nat.zero_mul,Nat.add_zero] at q0 q3;rcases hcase with ⟨hk22,hso⟩|⟨hk26,u,us,hku,hso⟩
         .have HV2:Hid (cE deep (.node 7 (bl s) x (t0::ts))=true):=(by show _=_;rw[HV.out,hso];rfl);rw[hk22] at q0;clear hat hnode hk0 hso q1 q2 q3 hkk hk22;go_wp2_with fail;go_ret;exact ak.intro HV2.out.symm HBw.out
         .have HV2:Hid (cE deep (.node 7 (bl s) x (t0::ts))=(u.kind == 22)):=(by show _=_;rw[HV.out,hso];rfl);rw[hk26] at q0;obtain⟨b2,o2,u',rfl,hu',hat2⟩:=hk0.get (i:=0) (by rw[hku];simp);rw[<-hkk,hku] at hu';simp at hu';subst hu';obtain⟨A2,c2,p0,_⟩:=hat2.cells;simp only[Nat.zero_mul,Nat.add_zero] at p0;have hlk:(t0.kids.length:Int)=us.length+1:=(by rw[hku];simp);rw[hku] at q3;clear hat hat2 hnode hk0 hso q1 q2 hkk hk26;go_wp2_with fail;go_ret;refine ak.intro ?_ HBw.out;rw[HV2.out,Bool.eq_iff_iff];simp;omega
        .have e7:((k:Int) != 7)=true:=(by simp;omega);have HV2:Hid (cE deep (.node k (bl s) x ks)=true):=(by show _=_;rw[HV.out];simp[hk7]);clear hk7;go_wp2_with fail;go_ret;exact ak.intro HV2.out.symm HBw.out
theorem rZ:∀m,nF m
 |0=>by intro t k s x A n c deep rb w hsz;obtain⟨k0,s0,x0,ks0⟩:=t;simp[ag.sz] at hsz
 |m+1=>zX m (ab (rZ m))
theorem yU(t:ag)(k:Nat)(s:ByteArray)(x:Int)(A:Option Addr)(n c:Nat)(w:World)(hN:cf w t k s x A n c)(hsh:t.short 9223372036854775806)(hE:bI w):Calls Tryz.prog 91 #[.agg #[.int .u8 k,.string s,.int .i64 x,.slice A n c]] w (ak (pi t) w):=by
 have HN:=ab hN;have HE:=ab hE;have HSH:=ab hsh;have hmf:=lH;have hcf:=n8;clear hN hE hsh
 go_in
 go_wp2_with fail;have hb0:Below w.heap.size w ((w.alloc (.cells #[.int .u8 k,.string s,.int .i64 x,.slice A n c] 25)).alloc (.cells #[.func (.func 154) #[] #[.pointer (some ⟨w.heap.size+1,0,none⟩)]] 172)):=((ai _ _).alloc (ah _) _).alloc (by simp) _;refine(rZ t.sz t k s x A n c 1 (w.heap.size+1) _ (ah _) (HN.out.below hb0) HSH.out (by omega) (HE.out.below hb0 (ah _)) (by go_simp)).mono ?_;rintro e w1 ⟨rfl,hb⟩;have HB:Hid (Below w.heap.size w w1):=hb0.trans (hb.mono hb0.size);clear hb hb0;go_wp2_with fail;go_ret;exact ak.intro rfl HB.out
theorem fT(x:Int)(w:World):Calls Tryz.prog 111 #[.int .i64 x] w (Dq (.bool (aH x)) w):=by
 by_cases h0:0<=x
 .by_cases h1:x<=1073741824
  .have HV:Hid (aH x=true):=by show _=_;simp[aH,h0,h1]
   go_in
   go_wp2;go_ret;exact⟨dg (by rw[HV.out]),0,rfl⟩
  .have HV:Hid (aH x=false):=by show _=_;simp[aH,h1]
   go_in
   go_wp2;go_ret;exact⟨dg (by rw[HV.out]),0,rfl⟩
 .have HV:Hid (aH x=false):=by show _=_;simp[aH,h0]
  go_in
  go_wp2;go_ret;exact⟨dg (by rw[HV.out]),0,rfl⟩
theorem FH(x:Int)(w:World):Calls Tryz.prog 110 #[.int .i64 x] w (Dq (.bool (!aH x)) w):=by
 go_in
 go_wp2_with fail;refine(fT x _).mono ?_;rintro e w1 ⟨rfl,q,rfl⟩;go_wp2;go_ret;exact⟨rfl,q,rfl⟩
theorem Dj(args:Array Value)(w:World):(callFunc 110 args).run Tryz.prog w= .ok (.enter 110 args) w:=eH Tryz.func110 (by kernel_rfl) (by kernel_rfl) args w
theorem tu{xs:List Int}{j:Nat}{x:Int}(h:xs.all aH=(xs.drop j).all aH)(hx:xs[j]? =some x):xs.all aH=(aH x && (xs.drop (j+1)).all aH):=by have h1:j<xs.length:=(gl.1 hx).1;rw[h,List.drop_eq_getElem_cons h1];rw[br h1] at hx;injection hx with hx;rw[hx];rfl
def kZ(b:Bool)(w:World)(e:Ending)(w':World):Prop:=(∃d,w'=w.drewN d)/\∃i:Int,e= .returned (.int .i64 i)/\(0<=i↔b=true)
theorem kZ.intro{b:Bool}{w:World}{d:Nat}{i:Int}(h:0<=i↔b=true):kZ b w (.returned (.int .i64 i)) (w.drewN d):=⟨⟨d,rfl⟩,i,rfl,h⟩
theorem yr(xs:List Int)(A:Option Addr)(n c:Nat)(w:World)(hx:cc w xs A n c):Calls Tryz.prog 171 #[.slice A n c,.func (.func 110) #[] #[]] w (kZ (!xs.all aH) w):=by
 have HX:=ab hx;have hnn:n<=9223372036854775807:=(by have h1:=hx.2.1;have h2:=hx.2.2.1;unfold maxLen at h2;omega);have HL:Hid (n=xs.length):=hx.1;have hcf:=Dj;clear hx
 go_in
 go_wp2_with fail;go_loopw [8] (fun i wr=>∃j d:Nat,j<=n/\i= .int .i64 j/\wr=w.drewN d/\Hid (xs.all aH=(xs.drop j).all aH)) (fun i _=>n - (intOf i).toNat);case atStart=>exact⟨0,0,aE _,rfl,rfl,rfl⟩
 case round=>
  obtain⟨j,d,hj,rfl,rfl,HI⟩:=hrel;by_cases hlt:j<n
  .obtain⟨b,o,x,rfl,hxx,q0⟩:=HX.out.get hlt;have HST:=ab (tu HI.out hxx);clear hxx;cases hn:aH x with
   |true=>
    have HNN:=ab hn;have HN:Hid (xs.all aH=(xs.drop (j+1)).all aH):=(by show _=_;rw[HST.out,hn];simp);clear hn;go_wp2_with fail;refine(FH x _).mono ?_;rintro e w3 ⟨rfl,q,rfl⟩;rw[HNN.out];go_wp2;go_roundw;case rel=>exact⟨j+1,d+q,by omega,by go_num,by simp[World.drewN,Nat.add_assoc],HN⟩
    case measure=>simp[intOf];omega
   |false=>have HNN:=ab hn;have HV:Hid (xs.all aH=false):=(by show _=_;rw[HST.out,hn];simp);clear hn;go_wp2_with fail;refine(FH x _).mono ?_;rintro e w3 ⟨rfl,q,rfl⟩;rw[HNN.out];go_wp2;go_ret;exact kZ.intro (by rw[HV.out];simp)
  .have HV:Hid (xs.all aH=true):=by show _=_;have e1:=HL.out;rw[HI.out,List.drop_eq_nil_of_le (by omega)];rfl
   go_wp2_with fail;go_ret;exact kZ.intro (by rw[HV.out];simp)
theorem kG(xs:List Int)(A:Option Addr)(n c:Nat)(w:World)(hx:cc w xs A n c):Calls Tryz.prog 109 #[.slice A n c,.func (.func 110) #[] #[]] w (Dq (.bool (!xs.all aH)) w):=by
 have HX:=ab hx;clear hx
 go_in
 go_wp2_with fail;refine(yr xs _ _ _ _ HX.out).mono ?_;rintro e w1 ⟨⟨q,rfl⟩,i,rfl,hi⟩;have HI:=ab hi;clear hi;go_wp2;go_ret;exact⟨dg (by rw[Bool.eq_iff_iff,<-HI.out];simp),q,rfl⟩
theorem eC(ks:List ag)(A:Option Addr)(n c:Nat)(w:World)(hK:ce w ks A n c)(hsh:ex 9223372036854775806 ks)(hE:bI w):Calls Tryz.prog 113 #[.slice A n c] w (ak (bR ks) w):=by
 have hL:=hK.1;have HE:=ab hE;have hnn:n<=9223372036854775807:=(by have h1:=hK.2.1;have h2:=hK.2.2.1;unfold maxLen at h2;omega);by_cases h1:n=1
 .subst h1;obtain⟨t,rfl⟩:∃t,ks=[t]:=List.length_eq_one_iff.1 hL.symm;obtain⟨b,o,t',rfl,ht,hat⟩:=hK.get (i:=0) (by omega);simp at ht;subst ht;simp only[Nat.zero_mul,Nat.add_zero] at hat;obtain⟨A1,c1,q0,q1,q2,q3,hnode⟩:=hat.cells;have HN:=ab hnode;have HS:Hid (t.short 9223372036854775806):=(by simp only[ex] at hsh;exact hsh.1);clear hK hat hnode hL hsh hE
  go_in
  go_wp2_with fail;refine(yU t _ _ _ _ _ _ _ HN.out HS.out HE.out).mono ?_;rintro e w3 ⟨rfl,hb3⟩;have HB3:=ab hb3;clear hb3;go_wp2;go_ret;exact ak.intro rfl HB3.out
 .have HV:Hid (bR ks=false):=by
   show _=_;match ks,hL with
   |[],_=>rfl
   |[t],h=>simp at h;omega
   |_::_::_,_=>rfl
  have e1:¬(n:Int)=1:=(by omega);clear hK hL hsh h1
  go_in
  go_wp2;go_ret;exact ak.intro HV.out.symm (ai _ _)
def aI(k:Nat)(al ni nj i0 pe ij j0 nf nt ft em po pn eo en sm:Bool):Bool:=
 if !al || !ni || !nj then false
 else if (!aq k && (!i0 || pe)) || ((!ij) != (k == 5) && k != 2 && k != 3) || (!j0 && k != 5) then false
 else if (k == 1) != (nf && nt && !ft) || (k != 1 && !em) then false
 else if aG k != po || aF k != pn || (!aG k && !eo) || (!aF k && !en) then false
 else k == 1 || aq k || (k == 4 && !sm)
theorem af{w w1 w2:World}(h1:Below w.heap.size w w1)(h2:Below w1.heap.size w1 w2):Below w.heap.size w w2:=h1.trans (h2.mono h1.size)
theorem eS(a b:ByteArray):bl (a++b)=bl a++bl b:=by simp[bl]
theorem kw(e:aj):ap e=aI e.kind (e.path.all aH) (aH e.at_) (aH e.far) (e.at_ == 0) e.path.isEmpty (e.at_ == e.far) (e.far == 0) (be e.frm) (be e.to_) (e.frm == e.to_) (e.frm++e.to_).isEmpty (bR e.olds) (bR e.news) e.olds.isEmpty e.news.isEmpty (bB e.olds e.news):=rfl
def bw(w:World)(b:Nat)(x0 x1 x2 x3 x4 x5 x6 x7:Value):Prop:=
 w.cell? ⟨b,0,none⟩=some x0/\w.cell? ⟨b,1,none⟩=some x1/\w.cell? ⟨b,2,none⟩=some x2/\w.cell? ⟨b,3,none⟩=some x3/\w.cell? ⟨b,4,none⟩=some x4/\w.cell? ⟨b,5,none⟩=some x5/\w.cell? ⟨b,6,none⟩=some x6/\w.cell? ⟨b,7,none⟩=some x7
theorem bw.below{w w':World}{b:Nat}{x0 x1 x2 x3 x4 x5 x6 x7:Value}(h:bw w b x0 x1 x2 x3 x4 x5 x6 x7)(hb:Below w.heap.size w w'):bw w' b x0 x1 x2 x3 x4 x5 x6 x7:=by obtain⟨h0,h1,h2,h3,h4,h5,h6,h7⟩:=h;exact⟨ac hb h0,ac hb h1,ac hb h2,ac hb h3,ac hb h4,ac hb h5,ac hb h6,ac hb h7⟩
theorem bw.new{w:World}{x0 x1 x2 x3 x4 x5 x6 x7:Value}{T:TypeId}:bw (w.alloc (.cells #[x0,x1,x2,x3,x4,x5,x6,x7] T)) w.heap.size x0 x1 x2 x3 x4 x5 x6 x7:=by refine⟨?_,?_,?_,?_,?_,?_,?_,?_⟩ <;> (rw[World.cell?_alloc_new];rfl)
def pm(ks:List ag)(k:Nat)(s:ByteArray)(x:Int)(n:Nat)(w:World)(e:Ending)(w':World):Prop:=
 ∃A c,e= .returned (.agg #[.int .u8 k,.string s,.int .i64 x,.slice A n c])/\bJ w' w.heap.size ks A n c/\Below w.heap.size w w'
def D7(m:Nat):Prop:=∀(t:ag) (k:Nat) (s:ByteArray) (x:Int) (A:Option Addr) (n c:Nat) (w:World),t.sz<=m->cf w t k s x A n c->
 Calls Tryz.prog 65 #[.agg #[.int .u8 k,.string s,.int .i64 x,.slice A n c]] w (pm t.kids k s x n w)
theorem AV(t:ag):1<=t.sz:=by cases t;simp[ag.sz]
theorem eA:∀ks:List ag,ks.length<=ao ks
 |[]=>by simp
 |t::ts=>by have:=eA ts;have h:=AV t;simp[ao];omega
theorem Ni{B:Nat}{w w':World}(hb:Below B w w'){a:Addr}(h:a.block<B):w'.frozen? a=w.frozen? a:=by unfold World.frozen?;rw[hb.block _ h]
structure iA (w wr:World) (g j:Nat) (ks:List ag) (n c:Nat):Prop where
 lo:w.heap.size+2<=g
 hi:g<wr.heap.size
 soft:∀j,wr.frozen? ⟨g,j,none⟩=false
 row:hH wr g 25 4 (.slice (some ⟨g,0,none⟩) n c)
 foot:∃R,cR wr (ks.take j) g 0 R/\(∀v∈R,hH wr (g+1) 25 4 v)/\(aW R).Nodup
 at_:∀i t,ks[i]? =some t->∃A c,wr.cell? ⟨g,i*4,none⟩=some (.int .u8 t.kind)/\wr.cell? ⟨g,i*4+1,none⟩=some (.string (sb t.text))/\wr.cell? ⟨g,i*4+2,none⟩=some (.int .i64 t.num)/\wr.cell? ⟨g,i*4+3,none⟩=some (.slice A t.kids.length c)/\
  (i<j->bJ wr (g+1) t.kids A t.kids.length c)/\(j<=i->ce w t.kids A t.kids.length c)/\t.kind<=255/\t.text.length<=maxLen/\tw t.num
theorem iA.done{w wr:World}{g:Nat}{ks:List ag}{n c:Nat}(h:iA w wr g ks.length ks n c)(hn:n=ks.length)(h1:n<=c)(h2:c<=maxLen):bJ wr g ks (some ⟨g,0,none⟩) n c:=by
 refine⟨⟨hn,h1,h2,.inr ⟨g,0,rfl,bk.mk fun i t ht=>?_⟩⟩,?_⟩;rotate_left
 .obtain⟨R,r1,r2,r3⟩:=h.foot;rw[List.take_length] at r1;refine⟨_,cZ.mk' r1 h.row (fun v hv=>(r2 v hv).keep (by omega) fun _ _=>rfl) r3 fun hg=>?_⟩;obtain⟨v,hv,e⟩:=eV hg;have:=((r2 v hv).lt e).1;omega
 obtain⟨A,c,t0,t1,t2,t3,t4,_,t5,t6,t7⟩:=h.at_ i t ht;have hg:=h.lo;have hs:∀{a:Addr} {v:Value},a.block=g->wr.cell? a=some v->(cX wr g).cell? a=some v:=fun e h=>i8.2 ⟨by omega,h⟩;rw[Nat.zero_add];exact cJ.of (hs rfl t0) (hs rfl t1) (hs rfl t2) (hs rfl t3) (kR (t4 (gl.1 ht).1).1 (by omega) fun _ _ _ h=>h) t5 t6 t7
structure nh (w:World) (b:Nat) (x y z u:Value):Prop where
 c0:w.cell? ⟨b,0,none⟩=some x
 c1:w.cell? ⟨b,1,none⟩=some y
 c2:w.cell? ⟨b,2,none⟩=some z
 c3:w.cell? ⟨b,3,none⟩=some u
 f0:w.frozen? ⟨b,0,none⟩=false
 f1:w.frozen? ⟨b,1,none⟩=false
 f2:w.frozen? ⟨b,2,none⟩=false
 f3:w.frozen? ⟨b,3,none⟩=false
theorem di{w:World}{b:Nat}{x y z u:Value}{T:TypeId}(h:w.heap[b]? =some (.cells #[x,y,z,u] T (0,0))):nh w b x y z u:=by have hc:=fun j=>cell_of_row w b j _ T (0,0) h;refine⟨by rw[hc];rfl,by rw[hc];rfl,by rw[hc];rfl,by rw[hc];rfl,?_,?_,?_,?_⟩ <;>simp[World.frozen?,h]
theorem am{w:World}{g p:Nat}{u:Value}{a:Addr}{v:Value}(hne:a≠⟨g,p,none⟩)(h:w.cell? a=some v):(w.setCell ⟨g,p,none⟩ u).cell? a=some v:=by rw[World.cell?_setCell_other _ _ _ _ (fun e=>hne e.symm)];exact h
theorem set_self{w:World}{g p:Nat}{u v:Value}(h:w.cell? ⟨g,p,none⟩=some v):(w.setCell ⟨g,p,none⟩ u).cell? ⟨g,p,none⟩=some u:=by exact World.cell?_setCell_same _ _ _ h
theorem iA.next{w wr w3:World}{g j:Nat}{ks:List ag}{t:ag}{A3:Option Addr}{k3 n c:Nat}(h:iA w wr g j ks n c)(ht:ks[j]? =some t)(hq:Below wr.heap.size wr w3)(hf:bJ w3 wr.heap.size t.kids A3 t.kids.length k3):iA w ((((w3.setCell ⟨g,j*4,none⟩ (.int .u8 t.kind)).setCell ⟨g,j*4+1,none⟩ (.string (sb t.text))).setCell ⟨g,j*4+2,none⟩ (.int .i64 t.num)).setCell ⟨g,j*4+3,none⟩ (.slice A3 t.kids.length k3)) g (j+1) ks n c:=by
 have hg:=h.hi;have hblk:∀q,q≠g->((((w3.setCell ⟨g,j*4,none⟩ (.int .u8 t.kind)).setCell ⟨g,j*4+1,none⟩ (.string (sb t.text))).setCell ⟨g,j*4+2,none⟩ (.int .i64 t.num)).setCell ⟨g,j*4+3,none⟩ (.slice A3 t.kids.length k3)).heap[q]? =w3.heap[q]? :=fun q hne=>by rw[aY _ _ _ _ hne,aY _ _ _ _ hne,aY _ _ _ _ hne,aY _ _ _ _ hne]
 have hfar:∀a v,a.block≠g->w3.cell? a=some v->((((w3.setCell ⟨g,j*4,none⟩ (.int .u8 t.kind)).setCell ⟨g,j*4+1,none⟩ (.string (sb t.text))).setCell ⟨g,j*4+2,none⟩ (.int .i64 t.num)).setCell ⟨g,j*4+3,none⟩ (.slice A3 t.kids.length k3)).cell? a=some v:=by intro a v hne hc;have hn:∀p,a≠⟨g,p,none⟩:=fun p e=>hne (by rw[e]);exact am (hn _) (am (hn _) (am (hn _) (am (hn _) hc)))
 have hoff:∀p v,p≠j*4->p≠j*4+1->p≠j*4+2->p≠j*4+3->w3.cell? ⟨g,p,none⟩=some v->((((w3.setCell ⟨g,j*4,none⟩ (.int .u8 t.kind)).setCell ⟨g,j*4+1,none⟩ (.string (sb t.text))).setCell ⟨g,j*4+2,none⟩ (.int .i64 t.num)).setCell ⟨g,j*4+3,none⟩ (.slice A3 t.kids.length k3)).cell? ⟨g,p,none⟩=some v:=by intro p v h0 h1 h2 h3 hc;have hn:∀q,p≠q->(⟨g,p,none⟩:Addr)≠⟨g,q,none⟩:=fun q hq e=>hq (by injection e);exact am (hn _ h3) (am (hn _ h2) (am (hn _ h1) (am (hn _ h0) hc)))
 refine⟨h.lo,?_,fun i=>?_,?_,?_,fun i t' ht'=>?_⟩
 .have:=hq.size;simp;omega
 .simp only[World.frozen?_setCell];exact(Ni (a:=⟨g,i,none⟩) hq hg).trans (h.soft i)
 .exact(((((h.row.keep (ah _) fun q e=>by simp only[Value.ownBlock,Option.some.injEq] at e;subst e;exact hq.block _ hg).put _ _).put _ _).put _ _).put _ _)
 .obtain⟨R,r1,r2,r3⟩:=h.foot;obtain⟨_,R3,f1⟩:=hf;have hlt:∀q∈aW R,g<q/\q<wr.heap.size:=fun q hq=>by obtain⟨v,hv,e⟩:=eV hq;have:=(r2 v hv).lt e;omega
  have hlt3:∀q∈aW R3,wr.heap.size<=q:=fun q hq=>(f1.lt hq).1;have hbR:∀q,g<q->q<wr.heap.size->((((w3.setCell ⟨g,j*4,none⟩ (.int .u8 t.kind)).setCell ⟨g,j*4+1,none⟩ (.string (sb t.text))).setCell ⟨g,j*4+2,none⟩ (.int .i64 t.num)).setCell ⟨g,j*4+3,none⟩ (.slice A3 t.kids.length k3)).heap[q]? =wr.heap[q]? :=fun q h1 h2=>(hblk q (by omega)).trans (hq.block q h2);have ht2:ks.take (j+1)=ks.take j++[t]:=by have hj:=(gl.1 ht);obtain⟨hj,e⟩:=hj;rw[List.take_succ_eq_append_getElem hj,e]
  have hjl:(ks.take j).length=j:=by have hj:=(gl.1 ht).1;simp;omega
  refine⟨R++R3,?_,?_,?_⟩
  .rw[ht2];refine cR.snoc (cR.keepC r1 (fun i hi=>?_) fun q hq=>hbR q (hlt q hq).1 (hlt q hq).2) (rc.of (A:=A3) (c:=k3) ?_ (f1.rows.keep fun q hq=>hblk q (by have:=hlt3 q hq;omega)))
   .have hi':i<ks.length:=(by have:=List.length_take_le' j ks;omega);obtain⟨A,c,t0,t1,t2,t3,_⟩:=h.at_ i _ (br hi');rw[Nat.zero_add,t3];exact hoff _ _ (by omega) (by omega) (by omega) (by omega) (ac hq t3)
   .obtain⟨A,c,t0,t1,t2,t3,_⟩:=h.at_ j t ht;rw[hjl,Nat.zero_add];exact set_self (am (fun e=>by injection e;omega) (am (fun e=>by injection e;omega) (am (fun e=>by injection e;omega) (ac hq t3))))
  .intro v hv;rcases List.mem_append.1 hv with hv|hv
   .exact(r2 v hv).keep (ah _) fun q e=>hbR q (by have:=((r2 v hv).lt e).1;omega) ((r2 v hv).lt e).2
   .exact(f1.own v hv).keep (by omega) fun q e=>hblk q (by have:=((f1.own v hv).lt e).1;omega)
  .exact iq r3 f1.nd (fun q hq=>(hlt q hq).2) hlt3
 .obtain⟨A,c,t0,t1,t2,t3,t4,t5,t6,t7,t8⟩:=h.at_ i t' ht';by_cases hij:i=j
  .subst hij;rw[ht] at ht';injection ht' with ht';subst ht';have hn:∀p q,p≠q->(⟨g,p,none⟩:Addr)≠⟨g,q,none⟩:=fun p q hq e=>hq (by injection e);refine⟨A3,k3,?_,?_,?_,?_,fun _=>?_,fun hh=>absurd hh (by omega),t6,t7,t8⟩
   .exact am (hn _ _ (by omega)) (am (hn _ _ (by omega)) (am (hn _ _ (by omega)) (set_self (ac hq t0))))
   .exact am (hn _ _ (by omega)) (am (hn _ _ (by omega)) (set_self (am (hn _ _ (by omega)) (ac hq t1))))
   .exact am (hn _ _ (by omega)) (set_self (am (hn _ _ (by omega)) (am (hn _ _ (by omega)) (ac hq t2))))
   .exact set_self (am (hn _ _ (by omega)) (am (hn _ _ (by omega)) (am (hn _ _ (by omega)) (ac hq t3))))
   .exact hf.keep (by omega) fun q h1 h2=>hblk q (by omega)
  .refine⟨A,c,hoff _ _ (by omega) (by omega) (by omega) (by omega) (ac hq t0),hoff _ _ (by omega) (by omega) (by omega) (by omega) (ac hq t1),hoff _ _ (by omega) (by omega) (by omega) (by omega) (ac hq t2),hoff _ _ (by omega) (by omega) (by omega) (by omega) (ac hq t3),fun hh=>?_,fun hh=>t5 (by omega),t6,t7,t8⟩;exact(t4 (by omega)).keep (ah _) fun q h1 h2=>(hblk q (by omega)).trans (hq.block q h2)
theorem ry{w:World}{b g:Nat}{o:Obj}{v0 v1 v2 v3:Value}(h:w.heap[b]? =some o)(hne:b≠g)(p0 p1 p2 p3:Nat):((((w.setCell ⟨g,p0,none⟩ v0).setCell ⟨g,p1,none⟩ v1).setCell ⟨g,p2,none⟩ v2).setCell ⟨g,p3,none⟩ v3).heap[b]? =some o:=by rw[aY _ _ _ _ hne,aY _ _ _ _ hne,aY _ _ _ _ hne,aY _ _ _ _ hne];exact h
theorem mL{w:World}{g:Nat}{v0 v1 v2 v3 x y z u:Value}(h0:w.cell? ⟨g,0,none⟩=some x)(h1:w.cell? ⟨g,1,none⟩=some y)(h2:w.cell? ⟨g,2,none⟩=some z)(h3:w.cell? ⟨g,3,none⟩=some u):((((w.setCell ⟨g,0,none⟩ v0).setCell ⟨g,1,none⟩ v1).setCell ⟨g,2,none⟩ v2).setCell ⟨g,3,none⟩ v3).cell? ⟨g,0,none⟩=some v0/\((((w.setCell ⟨g,0,none⟩ v0).setCell ⟨g,1,none⟩ v1).setCell ⟨g,2,none⟩ v2).setCell ⟨g,3,none⟩ v3).cell? ⟨g,1,none⟩=some v1/\((((w.setCell ⟨g,0,none⟩ v0).setCell ⟨g,1,none⟩ v1).setCell ⟨g,2,none⟩ v2).setCell ⟨g,3,none⟩ v3).cell? ⟨g,2,none⟩=some v2/\((((w.setCell ⟨g,0,none⟩ v0).setCell ⟨g,1,none⟩ v1).setCell ⟨g,2,none⟩ v2).setCell ⟨g,3,none⟩ v3).cell? ⟨g,3,none⟩=some v3:=by
 have hn:∀p q,p≠q->(⟨g,p,none⟩:Addr)≠⟨g,q,none⟩:=fun p q hq e=>hq (by injection e);refine⟨?_,?_,?_,?_⟩
 .exact am (hn _ _ (by omega)) (am (hn _ _ (by omega)) (am (hn _ _ (by omega)) (set_self h0)))
 .exact am (hn _ _ (by omega)) (am (hn _ _ (by omega)) (set_self (am (hn _ _ (by omega)) h1)))
 .exact am (hn _ _ (by omega)) (set_self (am (hn _ _ (by omega)) (am (hn _ _ (by omega)) h2)))
 .exact set_self (am (hn _ _ (by omega)) (am (hn _ _ (by omega)) (am (hn _ _ (by omega)) h3)))
theorem Gz{w wr w3:World}{g j B n c:Nat}{ks:List ag}{x y z u v0 v1 v2 v3:Value}{T:TypeId}(hb3:Below wr.heap.size (wr.drewN 1) w3)(HX:wr.heap[B]? =some (.cells #[x,y,z,u] T (0,0)))(hm:iA w wr g j ks n c)(t0:wr.cell? ⟨g,j*4,none⟩=some v0)(t1:wr.cell? ⟨g,j*4+1,none⟩=some v1)(t2:wr.cell? ⟨g,j*4+2,none⟩=some v2)(t3:wr.cell? ⟨g,j*4+3,none⟩=some v3)(hlB:B<wr.heap.size):Hid (Below wr.heap.size wr w3)/\w3.cell? ⟨B,0,none⟩=some x/\w3.cell? ⟨B,1,none⟩=some y/\w3.cell? ⟨B,2,none⟩=some z/\w3.cell? ⟨B,3,none⟩=some u/\w3.cell? ⟨g,j*4,none⟩=some v0/\w3.cell? ⟨g,j*4+1,none⟩=some v1/\w3.cell? ⟨g,j*4+2,none⟩=some v2/\w3.cell? ⟨g,j*4+3,none⟩=some v3/\w3.frozen? ⟨g,j*4,none⟩=false/\w3.frozen? ⟨g,j*4+1,none⟩=false/\w3.frozen? ⟨g,j*4+2,none⟩=false/\w3.frozen? ⟨g,j*4+3,none⟩=false:=by have hq3:Below wr.heap.size wr w3:=af (bS (ai _ _) 1) hb3;have hX3:=di ((hq3.block _ hlB).trans HX);have hz:∀i,w3.frozen? ⟨g,i,none⟩=false:=fun i=>(Ni (a:=⟨g,i,none⟩) hq3 hm.hi).trans (hm.soft i);exact⟨hq3,hX3.c0,hX3.c1,hX3.c2,hX3.c3,ac hq3 t0,ac hq3 t1,ac hq3 t2,ac hq3 t3,hz _,hz _,hz _,hz _⟩
theorem um(m:Nat)(hm:m<=1000000000)(ih:Hid (D7 m)):D7 (m+1):=by
 intro t k s x A n c w hsz hN;obtain⟨ks,rfl,hk255,hsm,hx,hK⟩:=hN;have hb0:Below w.heap.size w ((w.alloc (.cells #[.int .u8 k,.string s,.int .i64 x,.slice A n c] 25)).alloc (.cells #[.int .u8 0,.string ⟨#[]⟩,.int .i64 0,.slice none 0 0] 25)):=((ai _ _).alloc (ah _) _).alloc (by simp) _;have HB0:=ab hb0;have HK:=ab (hK.below hb0);have HKW:=ab hK;have HSZ:Hid (ao ks<=m):=(by show _<=_;simp only[ag.sz] at hsz;omega);have HLN:Hid (n=ks.length):=hK.1;have hnb:n<=1000000000:=(by have h1:=eA ks;have h2:=HSZ.out;have h3:=HLN.out;omega);clear hsz hb0 hK
 go_in
 go_wp2_with fail;refine(xO ks _ _ _ w _ HKW.out HB0.out hnb).mono ?_;rintro e w1 ⟨A1,c1,rfl,hb1,hn1,hc1,hro1,hcl⟩;have HRO:=ab hro1;clear hro1;have HB1:=ab hb1;have HCL:=ab hcl;clear hb1 hcl;have hbox:w1.heap[w.heap.size]? =some (.cells #[.int .u8 k,.string s,.int .i64 x,.slice A n c] 25 (0,0)):=(HB1.out.block _ (by simp;omega)).trans ((heap_alloc_old _ _ (by simp)).trans (heap_alloc_new _ _));have hres:w1.heap[w.heap.size+1]? =some (.cells #[.int .u8 0,.string ⟨#[]⟩,.int .i64 0,.slice none 0 0] 25 (0,0)):=(HB1.out.block _ (by simp)).trans (heap_alloc_at (by simp));have HBX:=ab hbox;have HRS:=ab hres;obtain⟨c0,c1',c2,c3,f0,f1,f2,f3⟩:=di hbox;clear hbox hres;have HW1:Hid (Below w.heap.size w w1):=HB0.out.trans (HB1.out.mono HB0.out.size);have HRO3:Hid (hH (w1.setCell ⟨w.heap.size,3,none⟩ (.slice A1 n c1)) (w.heap.size+2) 25 4 (.slice A1 n c1)):=HRO.out.keep (by simp) fun q e=>aY _ _ _ _ (by have:=(HRO.out.lt e).1;simp at this;show q≠w.heap.size;omega);have HM:Hid ((ks=[]/\hH (w1.setCell ⟨w.heap.size,3,none⟩ (.slice A1 n c1)) (w.heap.size+2) 25 4 (.slice A1 n c1))∨∃g,A1=some ⟨g,0,none⟩/\iA w (w1.setCell ⟨w.heap.size,3,none⟩ (.slice A1 n c1)) g 0 ks n c1):=by
  rcases HCL.out with e|⟨g,e,h1,h2,h3,h4⟩
  .exact .inl ⟨e,HRO3.out⟩
  .simp at h1;refine .inr ⟨g,e,by omega,by simpa using h2,fun j=>?_,?_,⟨[],rfl,fun v hv=>absurd hv (by simp),by simp[aW]⟩,fun i t ht=>?_⟩
   .rw[World.frozen?_setCell];exact h3 j
   .obtain⟨m,xs,q1,q2⟩:=HRO3.out;subst e;rcases q2 with ⟨hv,_⟩|⟨g',cap,cur,hv,hg,r⟩
    .cases hv
    .injection hv with v1 v2 v3;injection v1 with v1;injection v1 with v1;subst v1 v2 v3;exact⟨n,xs,q1,.inr ⟨g,c1,cur,rfl,ah _,r⟩⟩
   .obtain⟨A2,c2,t0,t1,t2,t3,t4,t5,t6,t7⟩:=h4 i t ht;have hs:∀{a:Addr} {v:Value},a.block=g->w1.cell? a=some v->(w1.setCell ⟨w.heap.size,3,none⟩ (.slice A1 n c1)).cell? a=some v:=fun e h=>by rw[World.cell?_setCell_other _ _ _ _ (fun e'=>by have e2:w.heap.size=g:=(congrArg Addr.block e').trans e;omega)];exact h
    exact⟨A2,c2,hs rfl t0,hs rfl t1,hs rfl t2,hs rfl t3,fun h=>absurd h (by omega),fun _=>t4,t5,t6,t7⟩
 clear HCL;have HX0:Hid ((w1.setCell ⟨w.heap.size,3,none⟩ (.slice A1 n c1)).heap[w.heap.size]? =some (.cells #[.int .u8 k,.string s,.int .i64 x,.slice A1 n c1] 25 (0,0))):=by show _=_;have h:=HBX.out;simp[World.setCell,Array.getElem?_modify,h]
 have HR0:Hid ((w1.setCell ⟨w.heap.size,3,none⟩ (.slice A1 n c1)).heap[w.heap.size+1]? =some (.cells #[.int .u8 0,.string ⟨#[]⟩,.int .i64 0,.slice none 0 0] 25 (0,0))):=by show _=_;rw[aY _ _ _ _ (by simp)];exact HRS.out
 go_wp2_with fail;go_loopw [11] (fun i wr=>∃j:Nat,j<=n/\i= .int .i64 j/\Hid (Below w.heap.size w wr)/\Hid (wr.heap[w.heap.size]? =some (.cells #[.int .u8 k,.string s,.int .i64 x,.slice A1 n c1] 25 (0,0)))/\Hid (wr.heap[w.heap.size+1]? =some (.cells #[.int .u8 0,.string ⟨#[]⟩,.int .i64 0,.slice none 0 0] 25 (0,0)))/\Hid ((ks=[]/\hH wr (w.heap.size+2) 25 4 (.slice A1 n c1))∨∃g,A1=some ⟨g,0,none⟩/\iA w wr g j ks n c1)) (fun i _=>n - (intOf i).toNat);case atStart=>exact⟨0,aE _,rfl,HW1.out.setCell (ah _) _,HX0,HR0,HM⟩
 case round=>
  clear c0 c1' c2 c3 f0 f1 f2 f3 HM HX0 HR0;obtain⟨j,hj,rfl,HB,HX,HRR,HM⟩:=hrel;by_cases hlt:j<n
  .obtain⟨g,rfl,hmid⟩:=HM.out.resolve_left (fun e=>by have:=HLN.out;rw[e.1] at this;simp at this;omega);have HMD:=ab hmid;have HT:Hid (ks[j]? =some (ks[j]'(by have:=HLN.out;omega))):=br _;generalize (ks[j]'(by have:=HLN.out;omega))=t at HT;obtain⟨A2,k2,t0,t1,t2,t3,_,hk,b1,b2,b3⟩:=hmid.at_ j t HT.out;have HND:=ab (show cf _ t t.kind (sb t.text) t.num A2 t.kids.length k2 from⟨t.kids,by cases t;rfl,b1,b2,b3,(hk (ah _)).below HB.out⟩);have HST:Hid (t.sz<=m):=aJ (jL HT.out) HSZ.out;obtain⟨c0,c1',c2,c3,f0,f1,f2,f3⟩:=di HX.out;clear hk b1 b2 b3 hmid;have hlB:w.heap.size<_:=bK c0;have hlR:=ab (bK (di HRR.out).c0);go_wp2_with fail
   go_region_with (go_at_call 65;refine(ih.out t _ _ _ _ _ _ _ HST.out (HND.out.below (bS (ai _ _) 1))).mono ?_;rintro e w3 ⟨A3,k3,rfl,hf3,hb3⟩;obtain⟨hq3,d0,d1,d2,d3,s0,s1,s2,s3,z0,z1,z2,z3⟩:=Gz hb3 HX.out HMD.out t0 t1 t2 t3 hlB)
   all_goals
    have HM3:=ab (HMD.out.next HT.out hq3.out hf3);have HX3:=ab (ry (v0:=.int .u8 t.kind) (v1:=.string (sb t.text)) (v2:=.int .i64 t.num) (v3:=.slice A3 t.kids.length k3) ((hq3.out.block _ hlB).trans HX.out) (show w.heap.size≠g by have:=HMD.out.lo;omega) (j*4) (j*4+1) (j*4+2) (j*4+3));have HR3:=ab (ry (v0:=.int .u8 t.kind) (v1:=.string (sb t.text)) (v2:=.int .i64 t.num) (v3:=.slice A3 t.kids.length k3) ((hq3.out.block _ hlR.out).trans HRR.out) (show w.heap.size+1≠g by have:=HMD.out.lo;omega) (j*4) (j*4+1) (j*4+2) (j*4+3));have HB4:=ab (af HB.out hq3.out);have hgB:w.heap.size<=g:=(by have:=HMD.out.lo;omega);clear hf3 hb3 d0 d1 d2 d3 s0 s1 s2 s3 z0 z1 z2 z3;go_wp2;go_roundw;case rel=>exact⟨j+1,by omega,by go_num,(((HB4.out.setCell hgB _).setCell hgB _).setCell hgB _).setCell hgB _,HX3,HR3,.inr ⟨g,rfl,HM3.out⟩⟩
    case measure=>simp[intOf];omega
  .obtain⟨c0,c1',c2,c3,f0,f1,f2,f3⟩:=di HX.out;obtain⟨r0,r1,r2,r3,g0,g1,g2,g3⟩:=di HRR.out;go_wp2_with fail;have HFK:Hid (bJ ((((wr.setCell ⟨w.heap.size+1,0,none⟩ (.int .u8 k)).setCell ⟨w.heap.size+1,1,none⟩ (.string s)).setCell ⟨w.heap.size+1,2,none⟩ (.int .i64 x)).setCell ⟨w.heap.size+1,3,none⟩ (.slice A1 n c1)) w.heap.size ks A1 n c1):=by
    rcases HM.out with ⟨e,hro⟩|⟨g,rfl,hmid⟩
    .have h:=HLN.out;subst e;refine⟨⟨h,hn1,hc1,.inl rfl⟩,_,cZ.nil (hro.keep (by omega) fun q e=>?_)⟩;have hq:=(hro.lt e).1;rw[aY _ _ _ _ (show q≠w.heap.size+1 by omega),aY _ _ _ _ (show q≠w.heap.size+1 by omega),aY _ _ _ _ (show q≠w.heap.size+1 by omega),aY _ _ _ _ (show q≠w.heap.size+1 by omega)]
    .have hjn:j=ks.length:=(by have:=HLN.out;omega);subst hjn;have hlo:=hmid.lo;refine bJ.keep (hmid.done HLN.out hn1 hc1) (by omega) fun q ha _=>?_;rw[aY _ _ _ _ (show q≠w.heap.size+1 by omega),aY _ _ _ _ (show q≠w.heap.size+1 by omega),aY _ _ _ _ (show q≠w.heap.size+1 by omega),aY _ _ _ _ (show q≠w.heap.size+1 by omega)]
   obtain⟨a0,a1,a2,a3⟩:=mL (v0:=.int .u8 k) (v1:=.string s) (v2:=.int .i64 x) (v3:=.slice A1 n c1) r0 r1 r2 r3;refine bodyPost_ret (v:=.agg #[.int .u8 k,.string s,.int .i64 x,.slice A1 n c1]) (by simp[results,Tryz.results65,go_sem,a0,a1,a2,a3]) rfl ⟨A1,c1,rfl,HFK.out,(((HB.out.setCell (by simp) _).setCell (by simp) _).setCell (by simp) _).setCell (by simp) _⟩
theorem pW:∀m,m<=1000000000->D7 m
 |0,_=>by intro t k s x A n c w hsz;obtain⟨k0,s0,x0,ks0⟩:=t;simp[ag.sz] at hsz
 |m+1,h=>um m (by omega) (ab (pW m (by omega)))
theorem ya(t:ag)(k:Nat)(s:ByteArray)(x:Int)(A:Option Addr)(n c:Nat)(w:World)(hsz:t.sz<=1000000)(hN:cf w t k s x A n c):Calls Tryz.prog 65 #[.agg #[.int .u8 k,.string s,.int .i64 x,.slice A n c]] w (pm t.kids k s x n w):=pW 1000000 (by omega) t k s x A n c w hsz hN
theorem ym(b:Nat)(w:World):Calls Tryz.prog 64 #[.pointer (some ⟨b,0,none⟩),.slice none 0 0] w fun e w'=>e= .returned (.pointer (some ⟨b,0,none⟩))/\w=w':=by
 go_in
 go_wp2_with fail;go_loopw [0,9] (fun p i wr=>p= .pointer (some ⟨b,0,none⟩)/\i= .int .i64 0/\w=wr) (fun _ _ _=>0);case atStart=>exact⟨rfl,rfl,rfl⟩
 case round=>obtain⟨rfl,rfl,rfl⟩:=hrel;go_wp2;go_ret;exact⟨rfl,rfl⟩
def OH(ks:List ag)(k:Nat)(s:ByteArray)(x:Int)(n:Nat)(w:World)(e:Ending)(w':World):Prop:=
 ∃A c,e= .returned (.tuple #[.agg #[.int .u8 k,.string s,.int .i64 x,.slice A n c],.bool true])/\bJ w' w.heap.size ks A n c/\Below w.heap.size w w'
theorem Ew(t:ag)(k:Nat)(s:ByteArray)(x:Int)(A:Option Addr)(n c:Nat)(w:World)(hsz:t.sz<=1000000)(hN:cf w t k s x A n c):Calls Tryz.prog 29 #[.agg #[.int .u8 k,.string s,.int .i64 x,.slice A n c],.slice none 0 0] w (OH t.kids k s x n w):=by
 have hb0:Below w.heap.size w ((w.alloc (.cells #[.int .u8 k,.string s,.int .i64 x,.slice A n c] 25)).alloc (.cells #[.int .u8 0,.string ⟨#[]⟩,.int .i64 0,.slice none 0 0] 25)):=((ai _ _).alloc (ah _) _).alloc (by simp) _;have HB0:=ab hb0;have HN:=ab (hN.below hb0);clear hb0 hN
 go_in
 go_wp2_with fail;refine(ym _ _).mono ?_;rintro e w1 ⟨rfl,rfl⟩;go_wp2_with fail;refine(ya t _ _ _ _ _ _ _ hsz HN.out).mono ?_;rintro e w1 ⟨A1,c1,rfl,hf,hb1⟩;have HF:=ab hf;have HB1:=ab hb1;clear hf hb1;have hres:w1.heap[w.heap.size+1]? =some (.cells #[.int .u8 0,.string ⟨#[]⟩,.int .i64 0,.slice none 0 0] 25 (0,0)):=(HB1.out.block _ (by simp)).trans (heap_alloc_at (by simp));obtain⟨r0,r1,r2,r3,g0,g1,g2,g3⟩:=di hres;clear hres;go_wp2_with fail;have HFK:Hid (bJ ((((w1.setCell ⟨w.heap.size+1,0,none⟩ (.int .u8 k)).setCell ⟨w.heap.size+1,1,none⟩ (.string s)).setCell ⟨w.heap.size+1,2,none⟩ (.int .i64 x)).setCell ⟨w.heap.size+1,3,none⟩ (.slice A1 n c1)) w.heap.size t.kids A1 n c1):=by refine bJ.keep HF.out (by simp;omega) fun q ha _=>?_;simp at ha;rw[aY _ _ _ _ (show q≠w.heap.size+1 by omega),aY _ _ _ _ (show q≠w.heap.size+1 by omega),aY _ _ _ _ (show q≠w.heap.size+1 by omega),aY _ _ _ _ (show q≠w.heap.size+1 by omega)]
 obtain⟨a0,a1,a2,a3⟩:=mL (v0:=.int .u8 k) (v1:=.string s) (v2:=.int .i64 x) (v3:=.slice A1 n c1) r0 r1 r2 r3;exact bodyPost_ret (v:=.tuple #[.agg #[.int .u8 k,.string s,.int .i64 x,.slice A1 n c1],.bool true]) (by simp[results,Tryz.results29,go_sem,a0,a1,a2,a3]) rfl ⟨A1,c1,rfl,HFK.out,((((af HB0.out HB1.out).setCell (by simp) _).setCell (by simp) _).setCell (by simp) _).setCell (by simp) _⟩
end Go.Proofs.YtfipahjodfminaaGreatDoor
