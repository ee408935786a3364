/- Part 12 of the proof. -/
import Derived.Test.YtlkmefhogabgdaaGreatDoorMnF
namespace Go.Proofs.YtlkmefhogabgdaaGreatDoor
open Go.RowKit
set_option linter.all false
set_option maxHeartbeats 40000000
set_option maxRecDepth 100000
variable {P:Program} {md:Region.Mode} {ops:Array Oper} {Q:Exit->Act->World->Prop} {S:World->Prop} {fuel:Nat} {listed:Array Bool} {a:Act} {w:World}
theorem AX(i:Nat){oi:Oper}{v:Value}(hi:ops[i]? =some oi)(hs:Region.noSelect ops=true)(hf:Region.free md ops listed i=true)(hr:(Region.ready md ops listed).contains i=true)(hS:S w)(hw:Region.wanted oi (yielded ops a.tmps)=true)(hy:∀w,S w->(execOp a.eval oi).run P w= .ok (.value v) w)(h:wpAnyH P md ops (NoPanic Q) S fuel (listed.setIfInBounds i true) (a.put oi.dst v) w):wpAnyH P md ops (NoPanic Q) S (fuel+1) listed a w:=
 wpAnyH_take hi hs hf hr (fun _ _ _ h=>h) (Or.inl ⟨hw,hy⟩) hS h
theorem AG(i:Nat){oi:Oper}(hi:ops[i]? =some oi)(hs:Region.noSelect ops=true)(hf:Region.free md ops listed i=true)(hr:(Region.ready md ops listed).contains i=true)(hS:S w)(hw:Region.wanted oi (yielded ops a.tmps)=false)(h:wpAnyH P md ops (NoPanic Q) S fuel (listed.setIfInBounds i true) (a.put oi.dst undef) w):wpAnyH P md ops (NoPanic Q) S (fuel+1) listed a w:=
 wpAnyH_take hi hs hf hr (fun _ _ _ h=>h) (Or.inr ⟨hw,rfl⟩) hS h
theorem ae(i:Nat){oi:Oper}{v:Value}{a':Act}{l':Array Bool}(h:wpAnyH P md ops (NoPanic Q) S fuel l' a' w)(hi:ops[i]? =some oi:=by simp only[List.getElem?_toArray,List.getElem?_cons_succ,List.getElem?_cons_zero];rfl)(hs:Region.noSelect ops=true:=by kernel_rfl)(hf:Region.free md ops listed i=true:=by kernel_rfl)(hr:(Region.ready md ops listed).contains i=true:=by kernel_rfl)(hS:S w:=by assumption)(hw:Region.wanted oi (yielded ops a.tmps)=true:=by rfl)(hy:∀w,S w->(execOp a.eval oi).run P w= .ok (.value v) w:=by intro w hSw;(try dsimp only at hSw);go_simp;first|done|with_reducible rfl)(hp:a.put oi.dst v=a':=by(try simp only[Act.put,List.setIfInBounds_toArray,List.set_cons_zero,List.set_cons_succ]) <;>rfl)(hl:listed.setIfInBounds i true=l':=by(try simp only[Act.put,List.setIfInBounds_toArray,List.set_cons_zero,List.set_cons_succ]) <;>rfl):wpAnyH P md ops (NoPanic Q) S (fuel+1) listed a w:=by subst hp hl;exact AX i hi hs hf hr hS hw hy h
theorem az(i:Nat){oi:Oper}{a':Act}{l':Array Bool}(h:wpAnyH P md ops (NoPanic Q) S fuel l' a' w)(hi:ops[i]? =some oi:=by simp only[List.getElem?_toArray,List.getElem?_cons_succ,List.getElem?_cons_zero];rfl)(hs:Region.noSelect ops=true:=by kernel_rfl)(hf:Region.free md ops listed i=true:=by kernel_rfl)(hr:(Region.ready md ops listed).contains i=true:=by kernel_rfl)(hS:S w:=by assumption)(hw:Region.wanted oi (yielded ops a.tmps)=false:=by rfl)(hp:a.put oi.dst undef=a':=by(try simp only[Act.put,List.setIfInBounds_toArray,List.set_cons_zero,List.set_cons_succ]) <;>rfl)(hl:listed.setIfInBounds i true=l':=by(try simp only[Act.put,List.setIfInBounds_toArray,List.set_cons_zero,List.set_cons_succ]) <;>rfl):wpAnyH P md ops (NoPanic Q) S (fuel+1) listed a w:=by subst hp hl;exact AG i hi hs hf hr hS hw h
theorem aL{Q':Exit->Act->World->Prop}(i:Nat){oi:Oper}{l':Array Bool}(h:∀K':Act->World->Prop,Shut (∀a w,S w->(S w->wpAnyH P md ops Q' S fuel l' a w)->K' a w)->if Region.wanted oi (yielded ops a.tmps)=true then Oper.wp P oi a w K' Q' else K' (a.put oi.dst undef) w)(hi:ops[i]? =some oi:=by simp only[List.getElem?_toArray,List.getElem?_cons_succ,List.getElem?_cons_zero];rfl)(hr:Region.ready md ops listed=[i]:=by kernel_rfl)(hl:listed.setIfInBounds i true=l':=by(try simp only[Act.put,List.setIfInBounds_toArray,List.set_cons_zero,List.set_cons_succ]) <;>rfl):wpAnyH P md ops Q' S (fuel+1) listed a w:=by subst hl;exact wpAnyH_ready hr (by simp) (AllReadyH.cons hi h AllReadyH.nil)
theorem aM{Q':Exit->Act->World->Prop}{a':Act}{l':Array Bool}(h:wpAnyH P md ops Q' S fuel l' a' w)(hp:a=a':=by(try simp only[Act.put,List.setIfInBounds_toArray,List.set_cons_zero,List.set_cons_succ]) <;>rfl)(hl:listed=l':=by(try simp only[Act.put,List.setIfInBounds_toArray,List.set_cons_zero,List.set_cons_succ]) <;>rfl):wpAnyH P md ops Q' S fuel listed a w:=by subst hp hl;exact h
def fp(xs ys:List Int):Option Int:=if ys.length<xs.length/\bu xs ys=true then xs[ys.length]? else none
def gM(r:Option Int)(w:World)(e:Ending)(w':World):Prop:=(∃q,w'=w.drewN q)/\match r with
 |some k=>e= .returned (.tuple #[.int .i64 k,.bool true])
 |none=>e= .returned (.tuple #[.int .i64 0,.bool false])
theorem gM.yes{r:Option Int}{k:Int}{w w':World}{q:Nat}(h:r=some k)(hw:w'=w.drewN q):gM r w (.returned (.tuple #[.int .i64 k,.bool true])) w':=by subst h;exact⟨⟨q,hw⟩,rfl⟩
theorem gM.no{r:Option Int}{w w':World}{q:Nat}(h:r=none)(hw:w'=w.drewN q):gM r w (.returned (.tuple #[.int .i64 0,.bool false])) w':=by subst h;exact⟨⟨q,hw⟩,rfl⟩
theorem oR(xs ys:List Int)(A B:Option Addr)(n c m d:Nat)(w:World)(hx:aA w xs A n c)(hy:aA w ys B m d):Calls Tryz.prog 145 #[.slice A n c,.slice B m d] w (gM (fp xs ys) w):=by
 have HX:=aa hx;have HY:=aa hy;have HN:Hid (n=xs.length):=hx.1;have HM:Hid (m=ys.length):=hy.1;have hn:n<=9223372036854775807:=(by have h1:=hx.2.1;have h2:=hx.2.2.1;unfold maxLen at h2;omega);clear hx hy;by_cases hl:n<=m
 .have HR:Hid (fp xs ys=none):=by show _=_;unfold fp;rw[if_neg (fun h=>by have:=h.1;have:=HN.out;have:=HM.out;omega)]
  go_in
  go_wp2
  go_ret2
  exact gM.no (q:=0) HR.out rfl
 .cases hu:bu xs ys with
  |false=>
   have HR:Hid (fp xs ys=none):=(by show _=_;unfold fp;rw[if_neg (fun h=>by have:=h.2;rw[hu] at this;cases this)]);have HU:=aa hu;clear hu
   go_in
   go_wp2_with fail;refine(iW xs ys _ _ _ _ _ _ _ HX.out HY.out).mono ?_;rintro e w1 ⟨rfl,q,rfl⟩;rw[HU.out];go_wp2
   go_ret2
   exact gM.no (q:=q) HR.out rfl
  |true=>
   have HU:=aa hu;obtain⟨b1,o1,x,rfl,gx,cx⟩:=HX.out.get (i:=m) (by omega);have HR:Hid (fp xs ys=some x):=(by show _=_;unfold fp;rw[if_pos ⟨by have:=HN.out;have:=HM.out;omega,hu⟩,<-HM.out];exact gx);have hlt:m<n:=(by omega);clear hu gx
   go_in
   go_wp2_with fail;refine(iW xs ys _ _ _ _ _ _ _ HX.out HY.out).mono ?_;rintro e w1 ⟨rfl,q,rfl⟩;rw[HU.out];go_wp2
   go_ret2
   exact gM.yes (q:=q) HR.out rfl
theorem xB{w:World}{base:Nat}{g c:Nat}{zs:List Int}(h:w.ownsRow base 3 1 (.slice (some ⟨g,0,none⟩) zs.length c) zs.length (zs.map (Value.int .i64)))(k:Nat)(v:Int):(w.setCell ⟨g,k,none⟩ (.int .i64 v)).ownsRow base 3 1 (.slice (some ⟨g,0,none⟩) (zs.set k v).length c) (zs.set k v).length ((zs.set k v).map (Value.int .i64)):=by have h1:=(h.stored k (.int .i64 v)).1;rw[<-List.map_set] at h1;rw[List.length_set];exact h1
theorem jI(xs:List Int)(A:Option Addr)(n c k:Nat)(v:Int)(w:World)(hx:aA w xs A n c)(hk:k<n)(hn:n<=17592186044000):Calls Tryz.prog 146 #[.slice A n c,.int .i64 k,.int .i64 v] w (dL (xs.set k v) w):=by
 have hb:Below w.heap.size w (w.alloc (.cells #[] 3)):=(ai _ _).alloc (ah _) _;have HX:=aa (hx.below hb);have HN:Hid (n=xs.length):=hx.1;have hmade:(w.alloc (.cells #[] 3)).ownsRow w.heap.size 3 1 (.slice (some ⟨w.heap.size,0,none⟩) 0 0) ([]:List Int).length (([]:List Int).map (Value.int .i64)):=jt w #[] 0 (ah _) (by unfold maxLen;omega) (by simp);have HB:=aa hb;clear hb hx
 go_in
 go_wp2_with (at_builtin;refine iw rfl _ _ rfl w.heap.size _ [] xs rfl hmade _ _ _ rfl HX.out (by have:=HN.out;simp;omega) (by simp) ?_);intro v' w2 hown hgr;try simp only[List.nil_append] at hown
 obtain⟨g,c',rfl,hg,_⟩:=hown.form (by have:=HN.out;omega);have HB2:Hid (Below w.heap.size w w2):=HB.out.grown hgr HB.out.size (fun k hk=>by simp only[Value.ownBlock,Option.some.injEq] at hk;subst hk;exact ah _);have HO:=aa hown;have hlen:=HN.out;obtain⟨x,hxk⟩:∃x,xs[k]? =some x:=⟨xs[k]'(by omega),br _⟩;have hc:=bH hown k (.int .i64 x) (by simp[hxk]);have hf:=hown.frozenAt k;have HO2:=aa (xB hown k v);have HB3:=aa (HB2.out.setCell (p:=⟨g,k,none⟩) hg (.int .i64 v));have hkl:k<xs.length:=(by omega);have hnl:xs.length<=9223372036854775807:=(by omega);clear hown hgr hxk hmade hlen;go_wp2;go_ret;exact⟨_,c',(by rw[List.length_set];rfl),HO2.out,HB3.out⟩
theorem pg{p l:List Int}(h:fp p l=none)(f:Int->Int):ei p l f=p:=by
 unfold ei;split
 .rename_i hu;unfold fo;unfold fp at h;by_cases hl:l.length<p.length
  .rw[if_pos ⟨hl,hu⟩] at h;rw[h]
  .rw[List.getElem?_eq_none (by omega)]
 .rfl
theorem lJ{p l:List Int}{k:Int}(h:fp p l=some k)(f:Int->Int):ei p l f=p.set l.length (f k)/\l.length<p.length/\p[l.length]? =some k/\bu p l=true:=by
 unfold fp at h;split at h
 .rename_i hc;refine⟨?_,hc.1,h,hc.2⟩;unfold ei;rw[if_pos hc.2];unfold fo;rw[h]
 .cases h
theorem sn{p:List Int}{i:Nat}{k:Int}(h:p[i]? =some k):p.set i k=p:=by have hi:i<p.length:=(bs.1 h).1;rw[br hi] at h;injection h with h;rw[<-h,List.set_getElem_self]
theorem gM.cases{r:Option Int}{w w':World}{e:Ending}(h:gM r w e w'):∃q,w'=w.drewN q/\((r=none/\e= .returned (.tuple #[.int .i64 0,.bool false]))∨∃k,r=some k/\e= .returned (.tuple #[.int .i64 k,.bool true])):=by
 obtain⟨⟨q,hq⟩,h⟩:=h;cases r with
 |none=>exact⟨q,hq,.inl ⟨rfl,h⟩⟩
 |some k=>exact⟨q,hq,.inr ⟨k,rfl,h⟩⟩
theorem lm{w W w2:World}{q:Nat}{xs:List Int}{v':Value}(hW:W=(w.drewN q).alloc (.cells #[] 3))(ho:w2.ownsRow W.heap.size 3 1 v' xs.length (xs.map (Value.int .i64))∨w2.ownsRow w.heap.size 3 1 v' xs.length (xs.map (Value.int .i64)))(hg:W.grownBy w2 (some w.heap.size)):∃A c,v'= .slice A xs.length c/\Hid (w2.ownsRow w.heap.size 3 1 (.slice A xs.length c) xs.length (xs.map (Value.int .i64)))/\Hid (Below w.heap.size w w2):=by
 subst hW;have hb:Below w.heap.size w ((w.drewN q).alloc (.cells #[] 3)):=(ax (ai _ _) q).alloc (ah _) _;have hb2:Below w.heap.size w w2:=hb.grown hg hb.size (fun k hk=>by injection hk with hk;omega);have ho':w2.ownsRow w.heap.size 3 1 v' xs.length (xs.map (Value.int .i64)):=by
  rcases ho with h|h
  .exact dk h hb.size
  .exact h
 obtain⟨A,c,rfl,_⟩:=cw ho';exact⟨A,c,rfl,ho',hb2⟩
theorem rJ(xs ys:List Int)(i:Int)(A B:Option Addr)(n c m d:Nat)(w:World)(hx:aA w xs A n c)(hy:aA w ys B m d)(hn:n<=17592186044000)(hm:m<=17592186044000)(hf:dE xs):Calls Tryz.prog 83 #[.slice A n c,.slice B m d,.int .i64 i] w (dL (fO xs ys i) w):=by
 have HX:=aa hx;have HY:=aa hy;have HN:Hid (n=xs.length):=hx.1;have HM:Hid (m=ys.length):=hy.1;have HF:=aa hf;generalize hr:(fO xs ys i)=R;have HRR:=aa hr;clear hx hy hf hr
 go_in
 go_wp2_with fail;refine(oR xs ys _ _ _ _ _ _ _ HX.out HY.out).mono ?_;intro e w1 hp;obtain⟨q,rfl,⟨hr,rfl⟩|⟨k,hr,rfl⟩⟩:=hp.cases
 .have HR:=aa (pg hr);clear hp hr;have hmade:((w.drewN q).alloc (.cells #[] 3)).ownsRow w.heap.size 3 1 (.slice (some ⟨w.heap.size,0,none⟩) 0 0) ([]:List Int).length (([]:List Int).map (Value.int .i64)):=jt (w.drewN q) #[] 0 (ah _) (by unfold maxLen;omega) (by simp);have HXc:=aa ((HX.out.drewN q).below ((ai _ _).alloc (ah _) (.cells #[] 3)));go_wp2_with (at_builtin;refine iw rfl _ _ rfl w.heap.size _ [] xs rfl hmade _ _ _ rfl HXc.out (by have:=HN.out;simp;omega) (by simp) ?_);intro v' w2 hown hgr;try simp only[List.nil_append] at hown
  obtain⟨A2,c2,rfl,HO,HB⟩:=lm rfl (.inr hown) hgr;clear hown hgr hmade;go_wp2;go_ret;have e:R=xs:=(by rw[<-HRR.out];exact HR.out _);rw[e];exact⟨A2,c2,rfl,HO.out,HB.out⟩
 .obtain⟨hs,hlt,hget,_⟩:=lJ hr (dl i);have HS:=aa (And.intro hs hget);have hk:=HF.out.at_ hget;have HLT:=aa hlt;clear hp hr hs hget hlt;by_cases hki:k<i
  .have hup:Hid (R=xs):=by show _=_;rw[<-HRR.out];show ei xs ys (dl i)=xs;rw[HS.out.1];have:dl i k=k:=(by unfold dl;rw[if_neg (by omega)]);rw[this];exact sn HS.out.2
   have hmade:((w.drewN q).alloc (.cells #[] 3)).ownsRow w.heap.size 3 1 (.slice (some ⟨w.heap.size,0,none⟩) 0 0) ([]:List Int).length (([]:List Int).map (Value.int .i64)):=jt (w.drewN q) #[] 0 (ah _) (by unfold maxLen;omega) (by simp);have HXc:=aa ((HX.out.drewN q).below ((ai _ _).alloc (ah _) (.cells #[] 3)));go_wp2_with (at_builtin;refine iw rfl _ _ rfl w.heap.size _ [] xs rfl hmade _ _ _ rfl HXc.out (by have:=HN.out;simp;omega) (by simp) ?_);intro v' w2 hown hgr;try simp only[List.nil_append] at hown
   obtain⟨A2,c2,rfl,HO,HB⟩:=lm rfl (.inr hown) hgr;clear hown hgr hmade;go_wp2;go_ret;rw[hup.out];exact⟨A2,c2,rfl,HO.out,HB.out⟩
  .have hup:Hid (R=xs.set m (k+1)):=by show _=_;rw[<-HRR.out];show ei xs ys (dl i)=_;rw[HS.out.1];have:dl i k=k+1:=(by unfold dl;rw[if_pos (by omega)]);rw[this,HM.out]
   go_wp2_with fail;have T:=jI xs A n c m (k+1) (w.drewN q) (HX.out.drewN q) (by have:=HN.out;have:=HM.out;have:=HLT.out;omega) hn;refine T.mono ?_;clear T;rintro e w2 ⟨A2,c2,rfl,ho,hb⟩;have HO:=aa ho;have HB:Hid (Below w.heap.size w w2):=(ax (ai _ _) q).trans hb;clear ho hb;go_wp2;go_ret;rw[hup.out];exact⟨A2,c2,(by simp),HO.out,HB.out⟩
theorem p8(xs ys:List Int)(i:Int):dR xs ys i=match fp xs ys with|none=>some xs|some k=>if k<i then some xs else if k=i then none else some (xs.set ys.length (k - 1)):=by
 cases h:fp xs ys with
 |none=>
  have hg:fN xs ys i=false:=by
   unfold fN;unfold fp at h;by_cases hc:ys.length<xs.length/\bu xs ys=true
   .rw[if_pos hc] at h;rw[br hc.1] at h;cases h
   .cases hd:decide (ys.length<xs.length) with
    |false=>simp
    |true=>
     cases hu:bu xs ys with
     |false=>simp
     |true=>exact absurd ⟨by simpa using hd,hu⟩ hc
  simp only[dR,hg,Bool.false_eq_true,if_false];rw[pg h]
 |some k=>
  obtain⟨hs,hlt,hget,hu⟩:=lJ h (cF i);have hg:fN xs ys i=decide (k=i):=by unfold fN;rw[hu,hget];simp[hlt,Bool.beq_eq_decide_eq]
  simp only[dR,hg];by_cases hki:k=i
  .subst hki;simp
  .simp only[hki,decide_false,Bool.false_eq_true,if_false];rw[hs];by_cases hlt2:k<i
   .rw[if_pos hlt2];have:cF i k=k:=(by unfold cF;rw[if_neg (by omega)]);rw[this,sn hget]
   .rw[if_neg hlt2];have:cF i k=k - 1:=(by unfold cF;rw[if_pos (by omega)]);rw[this]
theorem rG(xs ys:List Int)(i:Int)(A B:Option Addr)(n c m d:Nat)(w:World)(hx:aA w xs A n c)(hy:aA w ys B m d)(hn:n<=17592186044000)(hm:m<=17592186044000)(hf:dE xs):Calls Tryz.prog 82 #[.slice A n c,.slice B m d,.int .i64 i] w (bL (dR xs ys i) w):=by
 have HX:=aa hx;have HY:=aa hy;have HN:Hid (n=xs.length):=hx.1;have HM:Hid (m=ys.length):=hy.1;have HF:=aa hf;generalize hr:(dR xs ys i)=R;have HRR:=aa hr;clear hx hy hf hr
 go_in
 go_wp2_with fail;refine(oR xs ys _ _ _ _ _ _ _ HX.out HY.out).mono ?_;intro e w1 hp;obtain⟨q,rfl,⟨hr,rfl⟩|⟨k,hr,rfl⟩⟩:=hp.cases
 .have HR:Hid (R=some xs):=(by show _=_;rw[<-HRR.out,p8,hr]);clear hp hr;have hmade:((w.drewN q).alloc (.cells #[] 3)).ownsRow w.heap.size 3 1 (.slice (some ⟨w.heap.size,0,none⟩) 0 0) ([]:List Int).length (([]:List Int).map (Value.int .i64)):=jt (w.drewN q) #[] 0 (ah _) (by unfold maxLen;omega) (by simp);have HXc:=aa ((HX.out.drewN q).below ((ai _ _).alloc (ah _) (.cells #[] 3)));go_wp2_with (at_builtin;refine iw rfl _ _ rfl w.heap.size _ [] xs rfl hmade _ _ _ rfl HXc.out (by have:=HN.out;simp;omega) (by simp) ?_);intro v' w2 hown hgr;try simp only[List.nil_append] at hown
  obtain⟨A2,c2,rfl,HO,HB⟩:=lm rfl (.inr hown) hgr;clear hown hgr hmade;go_wp2
  go_ret2
  exact bL.yes HR.out rfl HO.out HB.out
 .obtain⟨hs,hlt,hget,_⟩:=lJ hr (cF i);have HS:Hid (R=if k<i then some xs else if k=i then none else some (xs.set ys.length (k - 1))):=(by show _=_;rw[<-HRR.out,p8,hr]);have hk:=HF.out.at_ hget;have HLT:=aa hlt;clear hp hr hs hget hlt;by_cases hki:k<i
  .have hup:Hid (R=some xs):=(by show _=_;rw[HS.out,if_pos hki]);have hmade:((w.drewN q).alloc (.cells #[] 3)).ownsRow w.heap.size 3 1 (.slice (some ⟨w.heap.size,0,none⟩) 0 0) ([]:List Int).length (([]:List Int).map (Value.int .i64)):=jt (w.drewN q) #[] 0 (ah _) (by unfold maxLen;omega) (by simp);have HXc:=aa ((HX.out.drewN q).below ((ai _ _).alloc (ah _) (.cells #[] 3)));go_wp2_with (at_builtin;refine iw rfl _ _ rfl w.heap.size _ [] xs rfl hmade _ _ _ rfl HXc.out (by have:=HN.out;simp;omega) (by simp) ?_);intro v' w2 hown hgr;try simp only[List.nil_append] at hown
   obtain⟨A2,c2,rfl,HO,HB⟩:=lm rfl (.inr hown) hgr;clear hown hgr hmade;go_wp2
   go_ret2
   exact bL.yes hup.out rfl HO.out HB.out
  .by_cases hke:k=i
   .have hup:Hid (R=none):=(by show _=_;rw[HS.out,if_neg hki,if_pos hke]);have hkb:(k == i)=true:=(by simp[hke]);subst hke;go_wp2_with fail
    go_ret2
    exact bL.no hup.out (ax (ai _ _) q)
   .have hup:Hid (R=some (xs.set m (k - 1))):=(by show _=_;rw[HS.out,if_neg hki,if_neg hke,HM.out]);have hkb:(k == i)=false:=(by simp[hke]);go_wp2_with fail;have T:=jI xs A n c m (k - 1) (w.drewN q) (HX.out.drewN q) (by have:=HN.out;have:=HM.out;have:=HLT.out;omega) hn;refine T.mono ?_;clear T;rintro e w2 ⟨A2,c2,rfl,ho,hb⟩;have HO:=aa ho;have HB:Hid (Below w.heap.size w w2):=(ax (ai _ _) q).trans hb;clear ho hb;go_wp2
    go_ret2
    exact bL.yes hup.out (by simp) (by have h:=HO.out;rw[List.length_set] at h;exact h) HB.out
theorem wY{xs ys:List Int}{k:Int}(h:fp xs ys=some k)(i j:Int):eT xs ys i j=xs.set ys.length (if k=i then j else dl j (cF i k)):=(lJ h _).1
theorem rM(xs ys:List Int)(i j:Int)(A B:Option Addr)(n c m d:Nat)(w:World)(hx:aA w xs A n c)(hy:aA w ys B m d)(hn:n<=17592186044000)(hm:m<=17592186044000)(hf:dE xs):Calls Tryz.prog 85 #[.slice A n c,.slice B m d,.int .i64 i,.int .i64 j] w (dL (eT xs ys i j) w):=by
 have HX:=aa hx;have HY:=aa hy;have HN:Hid (n=xs.length):=hx.1;have HM:Hid (m=ys.length):=hy.1;have HF:=aa hf;generalize hr:(eT xs ys i j)=R;have HRR:=aa hr;clear hx hy hf hr
 go_in
 go_wp2_with fail;refine(oR xs ys _ _ _ _ _ _ _ HX.out HY.out).mono ?_;intro e w1 hp;obtain⟨q,rfl,⟨hr,rfl⟩|⟨k,hr,rfl⟩⟩:=hp.cases
 .have HR:=aa (pg hr);clear hp hr;have hmade:((w.drewN q).alloc (.cells #[] 3)).ownsRow w.heap.size 3 1 (.slice (some ⟨w.heap.size,0,none⟩) 0 0) ([]:List Int).length (([]:List Int).map (Value.int .i64)):=jt (w.drewN q) #[] 0 (ah _) (by unfold maxLen;omega) (by simp);have HXc:=aa ((HX.out.drewN q).below ((ai _ _).alloc (ah _) (.cells #[] 3)));go_wp2_with (at_builtin;refine iw rfl _ _ rfl w.heap.size _ [] xs rfl hmade _ _ _ rfl HXc.out (by have:=HN.out;simp;omega) (by simp) ?_);intro v' w2 hown hgr;try simp only[List.nil_append] at hown
  obtain⟨A2,c2,rfl,HO,HB⟩:=lm rfl (.inr hown) hgr;clear hown hgr hmade;go_wp2;go_ret;have e:R=xs:=(by rw[<-HRR.out];exact HR.out _);rw[e];exact⟨A2,c2,rfl,HO.out,HB.out⟩
 .obtain⟨_,hlt,hget,_⟩:=lJ hr (cF i);have HS:=aa (wY hr i j);have hk:=HF.out.at_ hget;have HLT:=aa hlt;clear hp hr hget hlt;by_cases hki:k=i
  .have hup:Hid (R=xs.set m j):=(by show _=_;rw[<-HRR.out,HS.out,if_pos hki,HM.out]);have hkb:(k == i)=true:=(by simp[hki]);subst hki;go_wp2_with fail;have T:=jI xs A n c m j (w.drewN q) (HX.out.drewN q) (by have:=HN.out;have:=HM.out;have:=HLT.out;omega) hn;refine T.mono ?_;clear T;rintro e w2 ⟨A2,c2,rfl,ho,hb⟩;have HO:=aa ho;have HB:Hid (Below w.heap.size w w2):=(ax (ai _ _) q).trans hb;clear ho hb;go_wp2;go_ret;rw[hup.out];exact⟨A2,c2,(by simp),HO.out,HB.out⟩
  .have hkb:(k == i)=false:=(by simp[hki]);by_cases hgt:i<k
   .by_cases hge:j<=k - 1
    .have hup:Hid (R=xs.set m (k - 1+1)):=by show _=_;rw[<-HRR.out,HS.out,if_neg hki,HM.out];have e1:cF i k=k - 1:=(by unfold cF;rw[if_pos hgt]);have e2:dl j (k - 1)=k - 1+1:=(by unfold dl;rw[if_pos hge]);rw[e1,e2]
     have hkk:k - 1+1=k:=(by omega);rw[hkk] at hup;go_wp2_with fail;have T:=jI xs A n c m k (w.drewN q) (HX.out.drewN q) (by have:=HN.out;have:=HM.out;have:=HLT.out;omega) hn;refine T.mono ?_;clear T;rintro e w2 ⟨A2,c2,rfl,ho,hb⟩;have HO:=aa ho;have HB:Hid (Below w.heap.size w w2):=(ax (ai _ _) q).trans hb;clear ho hb;go_wp2;go_ret;rw[hup.out];exact⟨A2,c2,(by simp),HO.out,HB.out⟩
    .have hup:Hid (R=xs.set m (k - 1)):=by show _=_;rw[<-HRR.out,HS.out,if_neg hki,HM.out];have e1:cF i k=k - 1:=(by unfold cF;rw[if_pos hgt]);have e2:dl j (k - 1)=k - 1:=(by unfold dl;rw[if_neg (by omega)]);rw[e1,e2]
     go_wp2_with fail;have T:=jI xs A n c m (k - 1) (w.drewN q) (HX.out.drewN q) (by have:=HN.out;have:=HM.out;have:=HLT.out;omega) hn;refine T.mono ?_;clear T;rintro e w2 ⟨A2,c2,rfl,ho,hb⟩;have HO:=aa ho;have HB:Hid (Below w.heap.size w w2):=(ax (ai _ _) q).trans hb;clear ho hb;go_wp2;go_ret;rw[hup.out];exact⟨A2,c2,(by simp),HO.out,HB.out⟩
   .by_cases hge:j<=k
    .have hup:Hid (R=xs.set m (k+1)):=by show _=_;rw[<-HRR.out,HS.out,if_neg hki,HM.out];have e1:cF i k=k:=(by unfold cF;rw[if_neg hgt]);have e2:dl j k=k+1:=(by unfold dl;rw[if_pos hge]);rw[e1,e2]
     go_wp2_with fail;have T:=jI xs A n c m (k+1) (w.drewN q) (HX.out.drewN q) (by have:=HN.out;have:=HM.out;have:=HLT.out;omega) hn;refine T.mono ?_;clear T;rintro e w2 ⟨A2,c2,rfl,ho,hb⟩;have HO:=aa ho;have HB:Hid (Below w.heap.size w w2):=(ax (ai _ _) q).trans hb;clear ho hb;go_wp2;go_ret;rw[hup.out];exact⟨A2,c2,(by simp),HO.out,HB.out⟩
    .have hup:Hid (R=xs.set m k):=by show _=_;rw[<-HRR.out,HS.out,if_neg hki,HM.out];have e1:cF i k=k:=(by unfold cF;rw[if_neg hgt]);have e2:dl j k=k:=(by unfold dl;rw[if_neg hge]);rw[e1,e2]
     go_wp2_with fail;have T:=jI xs A n c m k (w.drewN q) (HX.out.drewN q) (by have:=HN.out;have:=HM.out;have:=HLT.out;omega) hn;refine T.mono ?_;clear T;rintro e w2 ⟨A2,c2,rfl,ho,hb⟩;have HO:=aa ho;have HB:Hid (Below w.heap.size w w2):=(ax (ai _ _) q).trans hb;clear ho hb;go_wp2;go_ret;rw[hup.out];exact⟨A2,c2,(by simp),HO.out,HB.out⟩
end Go.Proofs.YtlkmefhogabgdaaGreatDoor
