/- Part 16 of the proof. -/
import Derived.Test.YtlkmefhogabgdaaGreatDoorMnN
namespace Go.Proofs.YtlkmefhogabgdaaGreatDoor
open Go.RowKit
set_option linter.all false
set_option maxHeartbeats 40000000
set_option maxRecDepth 100000
theorem vA(xs:List Int)(A:Option Addr)(n c:Nat)(w:World)(hx:aA w xs A n c)(hn:n<=17592186044000):Calls Tryz.prog 80 #[.slice A n c] w (dL xs w):=by
 have HX:=aa hx;have HN:Hid (n=xs.length):=hx.1;have hmade:w.ownsRow w.heap.size 3 1 (.slice none 0 0) ([]:List Int).length (([]:List Int).map (Value.int .i64)):=World.ownsRow_nil _ _ _ _;clear hx
 go_in
 go_wp2_with (at_builtin;refine iw rfl _ _ rfl w.heap.size _ [] xs rfl hmade _ _ _ rfl HX.out (by have:=HN.out;simp;omega) (ah _) ?_);intro v' w2 hown hgr;try simp only[List.nil_append] at hown
 have HB:Hid (Below w.heap.size w w2):=(ai w.heap.size w).grown hgr (ah _) (fun k hk=>by cases hk);obtain⟨A2,c2,rfl,_⟩:=cw hown;have HO:=aa hown;clear hown hgr hmade;go_wp2;go_ret;exact⟨A2,c2,rfl,HO.out,HB.out⟩
theorem rK(k:Nat)(x1 x2 x3 x4 x5 x6 x7:Value)(w:World):Calls Tryz.prog 34 #[.agg #[.int .u8 k,x1,x2,x3,x4,x5,x6,x7]] w (fun e w'=>e= .returned (.bool (aq k))/\Below w.heap.size w w'):=by
 have hb:∀u:Value,Below w.heap.size w (w.alloc (.cells #[u,x1,x2,x3,x4,x5,x6,x7] 26)):=fun u=>(ai _ _).alloc (ah _) _;have HB:=aa hb;clear hb;obtain⟨kk,hkk⟩:∃kk:Int,kk=(k:Int):=⟨_,rfl⟩;rw[<-hkk];by_cases h2:kk=2
 .have hk:k=2:=(by omega);have HK:Hid (aq k=true):=(by show _=_;rw[hk];rfl);subst h2;generalize aq k=B at HK ⊢;clear hkk hk
  go_in
  go_wp2;go_ret;exact⟨by rw[HK.out];rfl,HB.out _⟩
 by_cases h3:kk=3
 .have hk:k=3:=(by omega);have HK:Hid (aq k=true):=(by show _=_;rw[hk];rfl);subst h3;generalize aq k=B at HK ⊢;clear hkk hk h2
  go_in
  go_wp2;go_ret;exact⟨by rw[HK.out];rfl,HB.out _⟩
 by_cases h5:kk=5
 .have hk:k=5:=(by omega);have HK:Hid (aq k=true):=(by show _=_;rw[hk];rfl);subst h5;generalize aq k=B at HK ⊢;clear hkk hk h2 h3
  go_in
  go_wp2;go_ret;exact⟨by rw[HK.out];rfl,HB.out _⟩
 have HK:Hid (aq k=false):=by show _=_;unfold aq;have e2:(k == 2)=false:=(by simp;omega);have e3:(k == 3)=false:=(by simp;omega);have e5:(k == 5)=false:=(by simp;omega);rw[e2,e3,e5];rfl
 have b2:(kk == 2)=false:=(by simp[h2]);have b3:(kk == 3)=false:=(by simp[h3]);have b5:(kk == 5)=false:=(by simp[h5]);generalize aq k=B at HK ⊢;clear hkk
 go_in
 go_wp2;go_ret;exact⟨by rw[HK.out];rfl,HB.out _⟩
def cT(w:World)(ss:List ar)(A:Option Addr)(n c:Nat):Prop:=n=ss.length/\n<=c/\c<=maxLen/\(ss=[]∨∃b o,A=some ⟨b,o,none⟩/\∀j s,ss[j]? =some s->w.cell? ⟨b,o+j,none⟩=some (.string (sb s)))
theorem cT.get{w:World}{ss:List ar}{A:Option Addr}{n c:Nat}(h:cT w ss A n c){i:Nat}(hi:i<n):∃b o s,A=some ⟨b,o,none⟩/\ss[i]? =some s/\w.cell? ⟨b,o+i,none⟩=some (.string (sb s)):=by
 obtain⟨h1,h2,h3,h4⟩:=h;rcases h4 with rfl|⟨b,o,rfl,h⟩
 .simp at h1;omega
 .obtain⟨s,hs⟩:∃s,ss[i]? =some s:=⟨ss[i]'(by omega),br (by omega)⟩;exact⟨b,o,s,rfl,hs,h i s hs⟩
private theorem As(a b:ar):(sb a == sb b)=decide (a=b):=by
 show(a.toArray == b.toArray)=_;by_cases h:a=b
 .subst h;simp
 .simp[h]
theorem At(a b:ar):(sb a == sb b)=(a == b):=by rw[As];by_cases h:a=b<;>simp[h]
theorem cT.below{w w':World}(hb:Below w.heap.size w w'){ss:List ar}{A:Option Addr}{n c:Nat}(h:cT w ss A n c):cT w' ss A n c:=by obtain⟨h1,h2,h3,h4⟩:=h;refine⟨h1,h2,h3,h4.imp id ?_⟩;rintro⟨b,o,hA,h⟩;exact⟨b,o,hA,fun j s hs=>ac hb (h j s hs)⟩
theorem wQ{xs ys:List ar}{j l:Nat}{s t:ar}(hx:xs[j]? =some s)(hy:ys[l]? =some t)(h:cD xs ys=((ys.drop l).any (fun t=>s == t) || cD (xs.drop (j+1)) ys)):cD xs ys=((s == t) || ((ys.drop (l+1)).any (fun t=>s == t) || cD (xs.drop (j+1)) ys)):=by have h1:l<ys.length:=(bs.1 hy).1;rw[h,List.drop_eq_getElem_cons h1];rw[br h1] at hy;injection hy with hy;rw[hy];simp[Bool.or_assoc]
theorem wR{xs ys:List ar}{j:Nat}{s:ar}(hx:xs[j]? =some s)(h:cD xs ys=cD (xs.drop j) ys):cD xs ys=((ys.drop 0).any (fun t=>s == t) || cD (xs.drop (j+1)) ys):=by have h1:j<xs.length:=(bs.1 hx).1;rw[h,List.drop_eq_getElem_cons h1];rw[br h1] at hx;injection hx with hx;rw[hx];rfl
theorem mQ(xs ys:List ar)(A:Option Addr)(n c:Nat)(B:Option Addr)(m d:Nat)(w:World)(hX:cT w xs A n c)(hY:cT w ys B m d):Calls Tryz.prog 75 #[.slice A n c,.slice B m d] w (fun e w'=>e= .returned (.bool (cD xs ys))/\Below w.heap.size w w'):=by
 have HX:=aa hX;have HY:=aa hY;have hnn:n<=9223372036854775807:=(by have h1:=hX.2.1;have h2:=hX.2.2.1;unfold maxLen at h2;omega);have hmm:m<=9223372036854775807:=(by have h1:=hY.2.1;have h2:=hY.2.2.1;unfold maxLen at h2;omega);have HL:Hid (n=xs.length):=hX.1;have HM:Hid (m=ys.length):=hY.1;clear hX hY
 go_in
 go_wp2_with fail;go_loopw [5] (fun i wr=>∃j:Nat,j<=n/\i= .int .i64 j/\Hid (Below w.heap.size w wr)/\Hid (cD xs ys=cD (xs.drop j) ys)) (fun i _=>n - (intOf i).toNat);case atStart=>exact⟨0,aE _,rfl,ai _ _,rfl⟩
 case round=>
  obtain⟨j,hj,rfl,HB,HI⟩:=hrel;by_cases hlt:j<n
  .obtain⟨b,o,s,rfl,hs,q0'⟩:=HX.out.get hlt;have Q0:=aa q0';clear q0';have HS:=aa hs;have HO:=aa (wR hs HI.out);clear hs;go_wp2_with fail;go_loopw [6] (fun i wr=>∃l:Nat,l<=m/\i= .int .i64 l/\Hid (Below w.heap.size w wr)/\Hid (cD xs ys=((ys.drop l).any (fun t=>s == t) || cD (xs.drop (j+1)) ys))) (fun i _=>m - (intOf i).toNat);case atStart=>exact⟨0,aE _,rfl,HB,HO⟩
   case round=>
    obtain⟨l,hl,rfl,HB2,HI2⟩:=hrel;by_cases hlm:l<m
    .obtain⟨b2,o2,t,rfl,ht,q1⟩:=(HY.out.below HB2.out).get hlm;have q0:=ac HB2.out Q0.out;have HBD:=aa HB2.out.drew;have HN:=aa (wQ HS.out ht HI2.out);have hq:=At s t;clear ht;cases hb:s == t with
     |true=>
      rw[hb] at hq;have HV:Hid (cD xs ys=true):=(by show _=_;rw[HN.out,hb];rfl);go_wp2_with fail
      go_region
      all_goals
       go_wp2;go_ret;exact⟨by rw[HV.out];rfl,HBD.out⟩
     |false=>
      rw[hb] at hq;have HV:Hid (cD xs ys=((ys.drop (l+1)).any (fun t=>s == t) || cD (xs.drop (j+1)) ys)):=(by show _=_;rw[HN.out,hb];rfl);go_wp2_with fail
      go_region
      all_goals
       go_wp2;go_roundw;case rel=>exact⟨l+1,by omega,by go_num,HBD,HV⟩
       case measure=>simp[intOf];omega
    .have HV:Hid (cD xs ys=cD (xs.drop (j+1)) ys):=by show _=_;have e1:=HM.out;rw[HI2.out,List.drop_eq_nil_of_le (by omega)];rfl
     go_wp2;go_roundw;case rel=>exact⟨j+1,by omega,by go_num,HB2,HV⟩
     case measure=>simp[intOf];omega
  .have HV:Hid (cD xs ys=false):=by show _=_;have e1:=HL.out;rw[HI.out,List.drop_eq_nil_of_le (by omega)];rfl
   go_wp2_with fail;go_ret;exact⟨by rw[HV.out];rfl,HB.out⟩
def lN(m:Nat):Prop:=∀(ks:List ag) (A:Option Addr) (n c:Nat) (w:World),ao ks<m->KidsAt w ks A n c->Calls Tryz.prog 81 #[.slice A n c] w (nl ks n w)
def sS(ks:List ag)(k:Nat)(s:ByteArray)(x:Int)(w:World)(e:Ending)(w':World):Prop:=∃A c,e= .returned (.agg #[.int .u8 k,.string s,.int .i64 x,.slice A ks.length c])/\bJ w' w.heap.size ks A ks.length c/\Below w.heap.size w w'
theorem un{m:Nat}(ih:Hid (lN m))(t:ag)(k:Nat)(s:ByteArray)(x:Int)(A:Option Addr)(n c:Nat)(w:World)(hsz:t.sz<=m)(hN:cf w t k s x A n c):Calls Tryz.prog 144 #[.agg #[.int .u8 k,.string s,.int .i64 x,.slice A n c]] w (sS t.kids k s x w):=by
 obtain⟨ks,rfl,hk255,hsm,hx,hK⟩:=hN;have hnl:n=ks.length:=hK.1;subst hnl;have hb0:Below w.heap.size w ((w.alloc (.cells #[.int .u8 k,.string s,.int .i64 x,.slice A ks.length c] 44)).alloc (.cells Z4 44)):=bt (bt (ai _ _) _) _;have HB0:=aa hb0;have HK:=aa (hK.below hb0);have HSZ:Hid (ao ks<m):=(by show _<_;simp only[ag.sz] at hsz;omega);clear hsz hb0 hK
 go_in
 go_wp2_with fail;refine(ih.out ks _ _ _ _ HSZ.out HK.out).mono ?_;rintro e w1 ⟨A1,cc,rfl,hf,hb1⟩;have HF:=aa hf;have HB1:=aa hb1;clear hf hb1;have hbox:w1.heap[w.heap.size]? =some (.cells #[.int .u8 k,.string s,.int .i64 x,.slice A ks.length c] 44 (0,0)):=(HB1.out.block _ (by simp;omega)).trans ((heap_alloc_old _ _ (by simp)).trans (heap_alloc_new _ _));have hres:w1.heap[w.heap.size+1]? =some (.cells Z4 44 (0,0)):=(HB1.out.block _ (by simp)).trans (aQ (by simp));obtain⟨c0,c1,c2,c3,f0,f1,f2,f3⟩:=di hbox;obtain⟨r0,r1,r2,r3,g0,g1,g2,g3⟩:=di hres;have HR3:Hid (nh (w1.setCell ⟨w.heap.size,3,none⟩ (.slice A1 ks.length cc)) (w.heap.size+1) (.int .u8 0) (.string ⟨#[]⟩) (.int .i64 0) (.slice none 0 0)):=di (by rw[aY _ _ _ _ (show w.heap.size+1≠w.heap.size by omega)];exact hres);clear hbox hres;go_wp2_with fail;have hblk:∀q,w.heap.size+2<=q->(((((w1.setCell ⟨w.heap.size,3,none⟩ (.slice A1 ks.length cc)).setCell ⟨w.heap.size+1,0,none⟩ (.int .u8 k)).setCell ⟨w.heap.size+1,1,none⟩ (.string s)).setCell ⟨w.heap.size+1,2,none⟩ (.int .i64 x)).setCell ⟨w.heap.size+1,3,none⟩ (.slice A1 ks.length cc)).heap[q]? =w1.heap[q]? :=fun q hq=>by rw[aY _ _ _ _ (show q≠w.heap.size+1 by omega),aY _ _ _ _ (show q≠w.heap.size+1 by omega),aY _ _ _ _ (show q≠w.heap.size+1 by omega),aY _ _ _ _ (show q≠w.heap.size+1 by omega),aY _ _ _ _ (show q≠w.heap.size by omega)]
 have HFK:=aa (bJ.keep HF.out (B':=w.heap.size) (by simp;omega) fun q h1 _=>hblk q (by simp at h1;omega));clear hblk;obtain⟨a0,a1,a2,a3⟩:=mL (v0:=.int .u8 k) (v1:=.string s) (v2:=.int .i64 x) (v3:=.slice A1 ks.length cc) HR3.out.c0 HR3.out.c1 HR3.out.c2 HR3.out.c3;exact bodyPost_ret (v:=.agg #[.int .u8 k,.string s,.int .i64 x,.slice A1 ks.length cc]) (by simp[results,Tryz.results144,go_sem,a0,a1,a2,a3]) rfl ⟨A1,cc,rfl,HFK.out,(((((af HB0.out HB1.out).setCell (ah _) _).setCell (by simp) _).setCell (by simp) _).setCell (by simp) _).setCell (by simp) _⟩
theorem uo(m:Nat)(hm:m<=1000000)(ih:Hid (lN m)):lN (m+1):=by
 intro ks A n c w hsz hK;have HK:=aa hK;have HSZ:=aa hsz;have HLN:Hid (n=ks.length):=hK.1;have hnb:n<=1000000:=(by have h1:=eA ks;have h3:=HLN.out;omega);clear hK hsz
 go_in
 go_wp2_with fail;go_loopw [3,4] (fun v i wr=>∃j:Nat,j<=n/\i= .int .i64 j/\Hid (Below w.heap.size w wr)/\Hid (eZ w.heap.size wr.heap.size wr ks j v)) (fun _ i _=>n - (intOf i).toNat);case atStart=>exact⟨0,aE _,rfl,ai _ _,eZ.start _ _ _ _⟩
 case round=>
  obtain⟨j,hj,rfl,HB,HI⟩:=hrel;by_cases hlt:j<n
  .obtain⟨b,o,t,rfl,ht,hat⟩:=(HK.out.below HB.out).get hlt;obtain⟨B1,d1,q0,q1,q2,q3,hnode⟩:=hat.cells;have HND:=aa hnode;have HT:=aa ht;have HST:Hid (t.sz<=m):=aJ (kT ht) (Nat.le_of_lt_succ HSZ.out);clear ht hat hnode;go_wp2_with fail;refine(un ih t _ _ _ _ _ _ _ HST.out HND.out).mono ?_;rintro e w3 ⟨A3,k3,rfl,hf3,hb3⟩;have HB3:=aa hb3;have HF3:=aa hf3;clear hf3 hb3;have HBND:Hid (t.kind<=255/\t.text.length<=maxLen/\cm t.num):=by obtain⟨ks',e,h1,h2,h3,_⟩:=HND.out;exact⟨h1,h2,h3⟩
   have HK3:Hid (cq w3 (rest w.heap.size u3) t.kids A3 t.kids.length k3):=HF3.out.only fun i h1 h2=>by obtain⟨xs,ho,_,_⟩:=HI.out;have h3:=HB.out.size;refine lG.2 ⟨by omega,fun e=>?_⟩;have:=(ho.lt i e).2;omega
   have hb4:Below w3.heap.size w3 ((w3.alloc (.cells #[.int .u8 t.kind,.string (sb t.text),.int .i64 t.num,.slice A3 t.kids.length k3] 44)).alloc (.cells #[.int .u8 t.kind,.string (sb t.text),.int .i64 t.num,.slice A3 t.kids.length k3] 44)):=((ai _ _).alloc (ah _) _).alloc (by simp) _;have HO4:=aa ((HI.out.below HB3.out).below hb4);have HK4:Hid (cq ((w3.alloc (.cells #[.int .u8 t.kind,.string (sb t.text),.int .i64 t.num,.slice A3 t.kids.length k3] 44)).alloc (.cells #[.int .u8 t.kind,.string (sb t.text),.int .i64 t.num,.slice A3 t.kids.length k3] 44)) (rest w.heap.size u3) t.kids A3 t.kids.length k3):=HK3.out.keep fun a v hS hc=>⟨hS,ac hb4 hc⟩;have HF4:=aa (HF3.out.keep (ah _) fun q _ h=>hb4.block q h);have HB4:=aa (af HB.out (af HB3.out hb4));clear hb4;obtain⟨xs,hown,hxl,hat⟩:=HO4.out;have HOW:=aa hown;have HAT:=aa hat;clear hown hat;go_wp2_with (at_builtin;go_must (refine pj _ rfl _ _ rfl w.heap.size u3 j xs rfl HOW.out (w3.heap.size+1) 1 t A3 k3 rfl (aQ (by simp)) (by omega) HB4.out.size ?_);intro g cap w5 ho5 hg5 hd5);have HN5:=aa (eZ.push HAT.out HF4.out (by simp) (by have:=HB.out.size;simp;omega) hxl HT.out HK4.out HBND.out.1 HBND.out.2.1 HBND.out.2.2 ho5 hg5 hd5);have HB5:=aa (l0 HOW.out hg5 (ah _) HB4.out.size);have HB6:=aa (HB4.out.trans HB5.out);clear ho5 hg5 hd5;go_wp2;go_roundw;case rel=>exact⟨j+1,by omega,by go_num,HB6,HN5⟩
   case measure=>simp[intOf];omega
  .have hjn:j=n:=(by omega);subst hjn;have HD:Hid (∃A c,u3= .slice A j c/\bJ wr w.heap.size ks A j c):=by have h:=HI.out;rw[HLN.out] at h ⊢;exact h.done
   obtain⟨A2,c2,rfl,hf⟩:=HD.out;have HF:=aa hf;clear hf HD;go_wp2_with fail;go_ret;exact⟨A2,c2,rfl,HF.out,HB.out⟩
theorem pX:∀m,m<=1000001->lN m
 |0,_=>fun ks A n c w h=>absurd h (Nat.not_lt_zero _)
 |m+1,h=>uo m (by omega) (aa (pX m (by omega)))
theorem qv(ks:List ag)(A:Option Addr)(n c:Nat)(w:World)(hsz:ao ks<=1000000)(hK:KidsAt w ks A n c):Calls Tryz.prog 81 #[.slice A n c] w (nl ks n w):=pX 1000001 (ah _) ks A n c w (by omega) hK
theorem st{ops:Array Oper}{o:Oper}{a:Act}{w w':World}{K:Act->World->Prop}{Q:Exit->Act->World->Prop}{E:Prop}(hgd:o.guard=none)(s x:Operand)(t:TypeId)(ho:o.op= .call { callee:=.builtin .append,args:=#[s,x],argTypes:=#[t,t] })(vs vx:Value)(hs:a.eval s=vs)(hx:a.eval x=vx)(v':Value)(hr:(Builtin.append_ #[t,t] o.type #[vs,vx]).run Tryz.prog w= .ok v' w')(h:K (a.put o.dst v') w'):if Region.wanted o (yielded ops a.tmps)=true then Oper.wp Tryz.prog o a w K Q else E:=by have hw:Region.wanted o (yielded ops a.tmps)=true:=(by simp[Region.wanted,hgd]);rw[if_pos hw];exact Lib.wp_append_run w s x t t ho vs vx hs hx v' w' hr h
def bO(v v':Value)(w w':World):Prop:=w.heap.size<=w'.heap.size/\(∀q,q<w.heap.size->v.ownBlock≠some q->w'.heap[q]? =w.heap[q]?)/\(∀q,v'.ownBlock=some q->v.ownBlock=some q∨w.heap.size<=q)
theorem bO.refl(v:Value)(w:World):bO v v w w:=⟨ah _,fun _ _ _=>rfl,fun _ h=>.inl h⟩
theorem bO.trans{v v1 v2:Value}{w w1 w2:World}(h:bO v v1 w w1)(h':bO v1 v2 w1 w2):bO v v2 w w2:=by
 obtain⟨a1,a2,a3⟩:=h;obtain⟨b1,b2,b3⟩:=h';refine⟨aJ a1 b1,fun q hq hv=>?_,fun q hq=>?_⟩
 .rw[b2 q (by omega) fun e=>?_,a2 q hq hv];rcases a3 q e with h|h
  .exact hv h
  .omega
 .rcases b3 q hq with h|h
  .exact a3 q h
  .exact .inr (aJ a1 h)
theorem bO.below{v v1:Value}{w w1 w2:World}(h:bO v v1 w w1)(hb:Below w1.heap.size w1 w2):bO v v1 w w2:=
 h.trans ⟨hb.size,fun q hq _=>hb.block q hq,fun _ h=>.inl h⟩
theorem bO.of_below{v:Value}{w w1:World}(hb:Below w.heap.size w w1):bO v v w w1:=(bO.refl v w).below hb
theorem bO.same{v u v':Value}{w w':World}(h:bO u v' w w')(e:u.ownBlock=v.ownBlock):bO v v' w w':=by unfold bO at h ⊢;rw[<-e];exact h
theorem sh{w:World}(ty:TypeId)(base:Nat)(hbase:base<=w.heap.size)(v:Value)(ss:List ar)(hown:w.ownsRow base 9 1 v ss.length (bj ss))(xs:List ar)(A:Option Addr)(m c:Nat)(hX:cT w xs A m c)(h1:ss.length<=1000000)(h2:m<=1000000):∃v' w',(Builtin.append_ #[52,52] ty #[v,.slice A m c]).run Tryz.prog w= .ok v' w'/\w'.ownsRow base 9 1 v' (ss++xs).length (bj (ss++xs))/\w.grownBy w' v.ownBlock/\bO v v' w w':=by
 obtain⟨i0,hi,hz0,hz1,hz2⟩:=info_parts Tryz.infoStr;obtain⟨rfl,h3,h4,h5⟩:=hX;rcases h5 with rfl|⟨b,o,rfl,hr⟩
 .exact⟨v,w,oW (w:=w) base _ ty _ i0 1 Tryz.underlying52 hi v _ _ hown A c,by simpa using hown,⟨rfl,rfl,rfl,ah _,fun _ _ _=>rfl⟩,bO.refl _ _⟩
 .obtain⟨v',w',r1,r2,r3,_,r5⟩:=run_append_own_at (P:=Tryz.prog) w base 52 ty 9 i0 _ 1 16 Tryz.underlying52 hi hz0 hz1 hz2 rfl (by decide) v _ _ hown ⟨b,o,none⟩ xs.length c (bj xs) (by simp[bj]) (fun j u hu=>by
   rw[fi];simp only[bj,List.getElem?_map] at hu;cases hj:xs[j]? with
   |none=>rw[hj] at hu;cases hu
   |some z=>rw[hj] at hu;simp at hu;subst hu;exact hr j z hj) (fun u hu=>by
   simp only[bj,List.mem_map] at hu;obtain⟨z,_,rfl⟩:=hu;rfl) (by unfold maxLen;omega) (by omega) hbase
  refine⟨v',w',r1,?_,r3,r3.size,fun q hq hv=>r3.block q hq (fun e=>hv e.symm),fun q hq=>?_⟩
  .rw[cb];have e:bj (ss++xs)=bj ss++bj xs:=(by simp[bj]);rw[e];exact r2
  .rcases r5 with r5|r5
   .rw[r5] at hq;exact .inl hq
   .rw[r5] at hq;injection hq with hq;exact .inr (by omega)
theorem sE{w:World}{base:Nat}{v:Value}{ss:List ar}{n:Nat}(h:w.ownsRow base 9 1 v n (bj ss))(hn:n=ss.length):∃A c,v= .slice A n c/\cT w ss A n c:=by
 obtain⟨A,c,rfl,k1,k2⟩:=cw h;refine⟨A,c,rfl,hn,k1,k2,?_⟩;by_cases h0:ss=[]
 .exact .inl h0
 .right;obtain⟨g,cap,e,hg⟩:=h.form (by rw[hn];exact List.length_pos_iff.2 h0);injection e with e1 e2 e3;subst e1 e3;refine⟨g,0,rfl,fun j s hs=>?_⟩;rw[Nat.zero_add];exact bH h j _ (by simp[bj,hs])
theorem jf{w:World}{base:Nat}{A:Option Addr}{c:Nat}{ss:List ar}(h:w.ownsRow base 9 1 (.slice A ss.length c) ss.length (bj ss)):cT w ss A ss.length c:=by obtain⟨A2,c2,e,ht⟩:=sE h rfl;injection e with e1 e2 e3;subst e1 e3;exact ht
theorem Bc{w:World}{g:Nat}{f t:ByteArray}{T:TypeId}(h:w.heap[g]? =some (.cells #[.string f,.string t] T (0,0))):cT w [bl f,bl t] (some ⟨g,0,none⟩) 2 2:=
 ⟨rfl,ah _,by unfold maxLen;omega,.inr ⟨g,0,rfl,fun j s hs=>by
  have hc:=cell_of_row w g j _ T (0,0) h;rw[Nat.zero_add,hc];match j,hs with
  |0,hs=>simp at hs;subst hs;rfl
  |1,hs=>simp at hs;subst hs;rfl
  |j+2,hs=>simp at hs⟩⟩
theorem Bb{w:World}{g:Nat}{s:ar}{T:TypeId}(h:w.heap[g]? =some (.cells #[.string (sb s)] T (0,0))):cT w [s] (some ⟨g,0,none⟩) 1 1:=
 ⟨rfl,ah _,by unfold maxLen;omega,.inr ⟨g,0,rfl,fun j t ht=>by
  have hc:=cell_of_row w g j _ T (0,0) h;rw[Nat.zero_add,hc];match j,ht with
  |0,ht=>simp at ht;subst ht;rfl
  |j+1,ht=>simp at ht⟩⟩
theorem na{w:World}{g:Nat}{s:ByteArray}{T:TypeId}(h:w.heap[g]? =some (.cells #[.string s] T (0,0))):cT w [bl s] (some ⟨g,0,none⟩) 1 1:=by refine Bb (T:=T) ?_;rw[show sb (bl s)=s by simp[sb,bl]];exact h
theorem A9{w:World}{base g n c:Nat}{ss:List ar}(h:w.ownsRow base 9 1 (.slice (some ⟨g,0,none⟩) n c) n (bj ss))(hn:n=ss.length){i:Nat}(hi:i<=n)(c':Nat)(h1:n - i<=c')(h2:c'<=maxLen):cT w (ss.drop i) (some ⟨g,i,none⟩) (n - i) c':=
 ⟨by simp[hn],h1,h2,.inr ⟨g,i,rfl,fun j s hs=>bH h (i+j) _ (by rw[List.getElem?_drop] at hs;simp[bj,hs])⟩⟩
theorem pb(w:World)(A:Option Addr){c:Nat}(h:c<=maxLen):cT w [] A 0 c:=⟨rfl,aE _,h,.inl rfl⟩
theorem AL(ss:List ar)(i:Nat):(bj ss).take (i*1)=bj (ss.take i):=by simp[bj,List.map_take]
theorem pd{w:World}{base g n c:Nat}{ss:List ar}(h:w.ownsRow base 9 1 (.slice (some ⟨g,0,none⟩) n c) n (bj ss))(hn:n=ss.length){i:Nat}(hi:i<=n):w.ownsRow base 9 1 (.slice (some ⟨g,0,none⟩) i c) (ss.take i).length (bj (ss.take i)):=by have h1:=kF h hi;rw[AL] at h1;have e:(ss.take i).length=i:=(by rw[List.length_take];omega);rw[e];exact h1
theorem oe{ss:List ar}{i:Nat}{s x:ar}:x∈ss.take i++[s]++ss.drop i↔x∈ss++[s]:=by
 have h:x∈ss↔x∈ss.take i∨x∈ss.drop i:=by
  conv=>lhs;rw[<-List.take_append_drop i ss]
  rw[List.mem_append]
 simp only[List.mem_append,List.mem_singleton,h];constructor
 .rintro((h|h)|h)
  .exact .inl (.inl h)
  .exact .inr h
  .exact .inl (.inr h)
 .rintro((h|h)|h)
  .exact .inl (.inl h)
  .exact .inr h
  .exact .inl (.inr h)
theorem od{ss:List ar}{i:Nat}{s:ar}:(ss.take i++[s]++ss.drop i).length=ss.length+1:=by have h:=congrArg List.length (List.take_append_drop i ss);simp only[cb] at h ⊢;simp;simp at h;omega
theorem sx{ops:Array Oper}{o:Oper}{a:Act}{K:Act->World->Prop}{Q:Exit->Act->World->Prop}{E:Prop}(w:World)(hgd:o.guard=none)(s x:Operand)(ho:o.op= .call { callee:=.builtin .append,args:=#[s,x],argTypes:=#[24,24] })(base:Nat)(v:Value)(j:Nat)(cs:List Value)(hs:a.eval s=v)(hown:w.ownsRow base 44 4 v j cs)(hbase:base<=w.heap.size)(w0:World)(hb:Below w0.heap.size w0 w)(us:List ag)(A:Option Addr)(m c:Nat)(hK:KidsAt w0 us A m c)(hx:a.eval x= .slice A m c)(hj:j<=1000000)(hm:m<=1000000)(h:∀A' c' w' cs',w'.ownsRow base 44 4 (.slice A' (j+m) c') (j+m) (cs++cs')->cB w0 cs' us->w.grownBy w' v.ownBlock->K (a.put o.dst (.slice A' (j+m) c')) w'):if Region.wanted o (yielded ops a.tmps)=true then Oper.wp Tryz.prog o a w K Q else E:=by obtain⟨v',w',cs',hr,h1,h2,h3⟩:=mW hb o.type base hbase v j cs hown us A m c hK hj hm;obtain⟨A',c',rfl,_,_⟩:=cw h1;exact st hgd s x _ ho _ _ hs hx _ hr (h _ _ _ _ h1 h2 h3)
theorem iZ{ops:Array Oper}{o:Oper}{a:Act}{K:Act->World->Prop}{Q:Exit->Act->World->Prop}{E:Prop}(w:World)(hgd:o.guard=none)(s x:Operand)(ho:o.op= .call { callee:=.builtin .append,args:=#[s,x],argTypes:=#[52,52] })(base:Nat)(v:Value)(ss:List ar)(hs:a.eval s=v)(hown:w.ownsRow base 9 1 v ss.length (bj ss))(hbase:base<=w.heap.size)(xs:List ar)(A:Option Addr)(m c:Nat)(hX:cT w xs A m c)(hx:a.eval x= .slice A m c)(h1:ss.length<=1000000)(h2:m<=1000000)(h:∀v' w',w'.ownsRow base 9 1 v' (ss++xs).length (bj (ss++xs))->w.grownBy w' v.ownBlock->bO v v' w w'->K (a.put o.dst v') w'):if Region.wanted o (yielded ops a.tmps)=true then Oper.wp Tryz.prog o a w K Q else E:=by obtain⟨v',w',hr,h3,h4,h5⟩:=sh (w:=w) o.type base hbase v ss hown xs A m c hX h1 h2;exact st hgd s x _ ho _ _ hs hx _ hr (h _ _ h3 h4 h5)
theorem Bu{ops:Array Oper}{rest:List Oper}{o:Oper}{a:Act}{Q:Exit->Act->World->Prop}(w:World)(hgd:o.guard=none)(s x:Operand)(ho:o.op= .call { callee:=.builtin .append,args:=#[s,x],argTypes:=#[52,52] })(base:Nat)(v:Value)(ss:List ar)(hs:a.eval s=v)(hown:w.ownsRow base 9 1 v ss.length (bj ss))(hbase:base<=w.heap.size)(xs:List ar)(A:Option Addr)(m c:Nat)(hX:cT w xs A m c)(hx:a.eval x= .slice A m c)(h1:ss.length<=1000000)(h2:m<=1000000)(h:∀v' w',w'.ownsRow base 9 1 v' (ss++xs).length (bj (ss++xs))->w.grownBy w' v.ownBlock->bO v v' w w'->wpList Tryz.prog ops Q rest (a.put o.dst v') w'):wpList Tryz.prog ops Q (o::rest) a w:=by obtain⟨v',w',hr,h3,h4,h5⟩:=sh (w:=w) o.type base hbase v ss hown xs A m c hX h1 h2;exact Lib.wpList_append_run w hgd s x _ _ ho _ _ hs hx _ _ hr (h _ _ h3 h4 h5)
theorem nb{ops:Array Oper}{rest:List Oper}{o:Oper}{a:Act}{Q:Exit->Act->World->Prop}(W w:World)(hb:Below W.heap.size W w)(hgd:o.guard=none)(s x:Operand)(ho:o.op= .call { callee:=.builtin .append,args:=#[s,x],argTypes:=#[52,52] })(bk:Nat)(hs:a.eval s= .slice (some ⟨bk,0,none⟩) 0 0)(hown:w.ownsRow W.heap.size 9 1 (.slice (some ⟨bk,0,none⟩) 0 0) 0 [])(xs:List ar)(A:Option Addr)(m c:Nat)(hX:cT w xs A m c)(hx:a.eval x= .slice A m c)(h2:m<=1000000)(h:∀A' c' w',Hid (w'.ownsRow W.heap.size 9 1 (.slice A' xs.length c') xs.length (bj xs))->Hid (Below W.heap.size W w')->wpList Tryz.prog ops Q rest (a.put o.dst (.slice A' xs.length c')) w'):wpList Tryz.prog ops Q (o::rest) a w:=by refine Bu w hgd s x ho W.heap.size _ [] hs hown hb.size xs A m c hX hx (by simp) h2 ?_;intro v' w' h3 h4 h5;have h6:w'.ownsRow W.heap.size 9 1 v' xs.length (bj xs):=(by simpa using h3);obtain⟨A',c',rfl,_,_⟩:=cw h6;exact h A' c' w' h6 (hb.grown h4 hb.size fun k hk=>(hown.lt k hk).1)
theorem cB.below{w w':World}{cs:List Value}{us:List ag}(h:cB w cs us)(hb:Below w.heap.size w w'):cB w' cs us:=by refine⟨h.1,fun i t ht=>?_⟩;obtain⟨A,c,t0,t1,t2,t3,t4,t5⟩:=h.2 i t ht;exact⟨A,c,t0,t1,t2,t3,t4.below hb,t5⟩
theorem ly{w:World}{T:TypeId}{s b B:Nat}(hb:w.heap.size=b)(hB:B<=b):(w.alloc (.cells #[] T)).ownsRow B T s (.slice (some ⟨b,0,none⟩) 0 0) 0 []:=by subst hb;exact jt w #[] 0 hB (by unfold maxLen;omega) (by simp)
mutual
def fK:ag->List ag
 | .node k s _ ks=>(if k=2∨k=4∨k=6 then[.node k s 0 []] else[])++dc ks
def dc:List ag->List ag
 |[]=>[]
 |t::ts=>fK t++dc ts
end
theorem pM:∀us vs:List ag,dc (us++vs)=dc us++dc vs
 |[],_=>rfl
 |u::us,vs=>by simp[dc,pM us vs]
theorem pa{α:Type}{L:List α}{j:Nat}{x:α}(h:L[j]? =some x):L.take (j+1)=L.take j++[x]:=by obtain⟨h1,h2⟩:=bs.1 h;rw[List.take_succ_eq_append_getElem h1,h2]
theorem pN{ks:List ag}{i:Nat}{t:ag}(h:ks[i]? =some t):dc (ks.take (i+1))=dc (ks.take i)++fK t:=by rw[pa h,pM];simp[dc]
mutual
theorem nS:∀t:ag,(fK t).length<=t.sz
 | .node k s x ks=>by have:=lk ks;simp only[fK,cb,ag.sz];split<;>simp<;>omega
theorem lk:∀ts:List ag,(dc ts).length<=ao ts
 |[]=>ah _
 |t::ts=>by have:=nS t;have:=lk ts;simp only[dc,cb,ao];omega
end
theorem mw:∀us vs:List ag,bE (us++vs)=bE us++bE vs
 |[],_=>rfl
 |u::us,vs=>by simp[bE,mw us vs]
mutual
theorem xj:∀t:ag,bE (fK t)=t.binds
 | .node k s x ks=>by
  have h:=oy ks;simp only[fK,mw,ag.binds,h]
  congr 1
  by_cases hk:k=2∨k=4∨k=6
  .rw[if_pos hk];rcases hk with rfl|rfl|rfl<;>simp[bE,ag.names,cG]
  .rw[if_neg hk];have h1:k≠2:=fun e=>hk (.inl e);have h2:k≠4:=fun e=>hk (.inr (.inl e));have h3:k≠6:=fun e=>hk (.inr (.inr e));simp[bE,h1,h2,h3]
theorem oy:∀ts:List ag,bE (dc ts)=cO ts
 |[]=>rfl
 |t::ts=>by simp only[dc,cO,mw,xj t,oy ts]
end
theorem o8{ks:List ag}{j:Nat}{t:ag}(h:ks[j]? =some t):ao (ks.take j)+t.sz<=ao ks:=by
 induction ks generalizing j with
 |nil=>simp at h
 |cons u us ih=>
  cases j with
  |zero=>simp at h;subst h;simp[ao]
  |succ j=>have:=ih (j:=j) (by simpa using h);simp[ao];omega
theorem AS{ks:List ag}{j:Nat}{t:ag}(h:ks[j]? =some t):ao (ks.take (j+1))=ao (ks.take j)+t.sz:=by
 induction ks generalizing j with
 |nil=>simp at h
 |cons u us ih=>
  cases j with
  |zero=>simp at h;subst h;simp[ao]
  |succ j=>have:=ih (j:=j) (by simpa using h);simp[ao];omega
def lM(us:List ag)(w:World)(e:Ending)(w':World):Prop:=∃v cs,e= .returned v/\w'.ownsRow w.heap.size 44 4 v us.length cs/\cB w' cs us/\Below w.heap.size w w'
theorem lM.open_{us:List ag}{w:World}{e:Ending}{w':World}(h:lM us w e w'):∃A c,e= .returned (.slice A us.length c)/\KidsAt w' us A us.length c/\Below w.heap.size w w':=by obtain⟨v,cs,rfl,ho,hr,hb⟩:=h;obtain⟨A,c,rfl,hk⟩:=hr.done ho rfl (ai _ _);exact⟨A,c,rfl,hk,hb⟩
def fH(B:Nat)(w:World)(us:List ag)(v:Value):Prop:=∃cs,w.ownsRow B 44 4 v us.length cs/\cB w cs us
theorem fH.below{B:Nat}{w w':World}{us:List ag}{v:Value}(h:fH B w us v)(hb:Below w.heap.size w w'):fH B w' us v:=by obtain⟨cs,h1,h2⟩:=h;exact⟨cs,bM h1 hb (ah _),h2.below hb⟩
theorem mB(w:World)(B:Nat)(T:TypeId)(s:Nat):w.ownsRow B T s (.slice none 0 0) 0 []:=⟨by simp,.inl ⟨rfl,rfl⟩⟩
mutual
theorem nQ:∀(t u:ag),u∈fK t->u.kids=[]
 | .node k s x ks,u,h=>by
  simp only[fK,List.mem_append] at h;rcases h with h|h
  .split at h
   .simp at h;subst h;rfl
   .simp at h
  .exact li ks u h
theorem li:∀(ts:List ag) (u:ag),u∈dc ts->u.kids=[]
 |[],_,h=>by simp[dc] at h
 |t::ts,u,h=>by
  simp only[dc,List.mem_append] at h;rcases h with h|h
  .exact nQ t u h
  .exact li ts u h
end
theorem cB.bare{w w':World}{cs:List Value}{us:List ag}(h:cB w cs us)(hb:∀u∈us,u.kids=[]):cB w' cs us:=by refine⟨h.1,fun i t ht=>?_⟩;obtain⟨A,c,t0,t1,t2,t3,t4,t5⟩:=h.2 i t ht;have e:=hb t (List.mem_of_getElem? ht);rw[e] at t4 ⊢;exact⟨A,c,t0,t1,t2,by rw[e] at t3;exact t3,⟨rfl,t4.2.1,t4.2.2.1,.inl rfl⟩,t5⟩
theorem fH.more{B:Nat}{w0 w:World}{us us':List ag}{v:Value}{A:Option Addr}{c:Nat}(h:fH B w us v)(hu:∀u∈us,u.kids=[])(hu':∀u∈us',u.kids=[])(h0:Below B w0 w)(hB:B<=w.heap.size)(ty:TypeId)(hK:KidsAt w us' A us'.length c)(h1:us.length<=1000000)(h2:us'.length<=1000000):∃v' w',(Builtin.append_ #[24,24] ty #[v,.slice A us'.length c]).run Tryz.prog w= .ok v' w'/\fH B w' (us++us') v'/\Below B w0 w':=by obtain⟨cs,ho,hr⟩:=h;obtain⟨v',w',cs',e1,e2,e3,e4⟩:=mW (w0:=w) (ai _ _) ty B hB v us.length cs ho us' A us'.length c hK h1 h2;exact⟨v',w',e1,⟨cs++cs',by rw[cb];exact e2,(hr.bare hu).append (e3.bare hu')⟩,h0.grown e4 hB fun k hk=>(ho.lt k hk).1⟩
theorem uh(w:World)(k:Nat)(s:ByteArray)(hk:k<=255)(hs:s.size<=maxLen):cB w (eU (.node k (bl s) 0 []) none 0) [.node k (bl s) 0 []]:=by
 refine⟨rfl,fun i t ht=>?_⟩;match i,ht with
 |0,ht=>simp at ht;subst ht;exact⟨none,0,rfl,rfl,rfl,rfl,KidsAt.nil _ _ (by unfold maxLen;omega),hk,by show(bl s).length<=_;rw[dt];exact hs,by show cm 0;unfold cm;decide⟩
 |i+1,ht=>simp at ht
def ng(m:Nat):Prop:=∀(t:ag) (k:Nat) (s:ByteArray) (x:Int) (A:Option Addr) (n c:Nat) (w:World),t.sz<=m->t.sz<=1000000->cf w t k s x A n c->
 Calls Tryz.prog 142 #[.agg #[.int .u8 k,.string s,.int .i64 x,.slice A n c]] w (lM (fK t) w)
theorem tQ(m:Nat)(ih:Hid (ng m)):ng (m+1):=by
 intro t k s x A n c w hsz hfew hN;obtain⟨ks,rfl,hk255,hsm,hx,hK⟩:=hN;have hb0:Below w.heap.size w (w.alloc (.cells #[.int .u8 k,.string s,.int .i64 x,.slice A n c] 44)):=bt (ai _ _) _;have HB0:=aa hb0;have HK:=aa hK;have HSZ:Hid (ao ks<=m/\1+ao ks<=1000000):=(by simp only[ag.sz] at hsz hfew;exact⟨by omega,by omega⟩);have HBD:Hid (k<=255/\s.size<=maxLen):=⟨hk255,hsm⟩;have hnn:n<=9223372036854775807:=(by have h1:=hK.2.1;have h2:=hK.2.2.1;unfold maxLen at h2;omega);have HL:Hid (n=ks.length):=hK.1;have HBX:=aa (ko (w:=w) (x:=.int .u8 k) (y:=.string s) (z:=.int .i64 x) (u:=.slice A n c) (T:=44));obtain⟨b0,b1,b2,b3⟩:=HBX.out;obtain⟨head,hhead⟩:∃l,(if k=2∨k=4∨k=6 then[ag.node k (bl s) 0 []] else[])=l:=⟨_,rfl⟩;have HH:=aa hhead;have HBA:Hid (∀u∈head,u.kids=[]):=by
  intro u hu;rw[<-HH.out] at hu;split at hu
  .simp at hu;subst hu;rfl
  .simp at hu
 have HHL:Hid (head.length<=1):=by show _<=_;rw[<-HH.out];split<;>simp
 clear hsz hfew hk255 hsm hx hK hb0 hhead
 go_in
 go_upto_region 2 with fail;go_cut [17] from 5 to 16 (fun v wx=>v= .bool (decide (k=2∨k=4∨k=6))/\wx=(w.alloc (.cells #[.int .u8 k,.string s,.int .i64 x,.slice A n c] 44)));case first=>
  by_cases h2:k=2
  .have e2:((k:Int) == 2)=true:=(by simp;omega);have HV:Hid (decide (k=2∨k=4∨k=6)=true):=(by show _=_;simp[h2]);clear h2;go_wp2_with fail;go_meet;case rel=>exact⟨by rw[HV.out],rfl⟩
  .have e2:((k:Int) == 2)=false:=(by simp;omega);by_cases h4:k=4
   .have e4:((k:Int) == 4)=true:=(by simp;omega);have HV:Hid (decide (k=2∨k=4∨k=6)=true):=(by show _=_;simp[h4]);clear h2 h4;go_wp2_with fail;go_meet;case rel=>exact⟨by rw[HV.out],rfl⟩
   .have e4:((k:Int) == 4)=false:=(by simp;omega);obtain⟨b6,hb6⟩:∃b,((k:Int) == 6)=b:=⟨_,rfl⟩;have HV:Hid (decide (k=2∨k=4∨k=6)=b6):=by
     show _=_;rw[<-hb6];by_cases h6:k=6
     .subst h6;rfl
     .have e6:((k:Int) == 6)=false:=(by simp;omega);rw[e6];simp[h2,h4,h6]
    clear h2 h4;go_wp2_with fail;go_meet;case rel=>exact⟨by rw[HV.out],rfl⟩
 case rest=>
 obtain⟨rfl,rfl⟩:=hcut;go_upto_if 17 with fail;go_cut [3,17] from 18 to 25 (fun v _ wx=>Hid (fH (w.alloc (.cells #[.int .u8 k,.string s,.int .i64 x,.slice A n c] 44)).heap.size wx head v)/\Hid (Below (w.alloc (.cells #[.int .u8 k,.string s,.int .i64 x,.slice A n c] 44)).heap.size (w.alloc (.cells #[.int .u8 k,.string s,.int .i64 x,.slice A n c] 44)) wx));case first=>
  cases hd:decide (k=2∨k=4∨k=6) with
  |false=>have HV:Hid (head=[]):=(by show _=_;rw[<-HH.out,if_neg (of_decide_eq_false hd)]);go_wp2_with fail;go_meet;case rel=>exact⟨by rw[HV.out];exact⟨[],mB _ _ _ _,cB.nil _⟩,ai _ _⟩
  |true=>
   have HV:Hid (head=[.node k (bl s) 0 []]):=(by show _=_;rw[<-HH.out,if_pos (of_decide_eq_true hd)]);clear hd;go_wp2_with (at_builtin;go_must (refine pj _ rfl _ _ rfl (w.alloc (.cells #[.int .u8 k,.string s,.int .i64 x,.slice A n c] 44)).heap.size (.slice none 0 0) 0 [] rfl (mB _ _ _ _) (w.heap.size+1) 1 (.node k (bl s) 0 []) none 0 rfl (aQ (by simp)) (by omega) (by simp) ?_);intro g cap w5 ho5 hg5 hd5);have HM5:Hid (fH (w.alloc (.cells #[.int .u8 k,.string s,.int .i64 x,.slice A n c] 44)).heap.size w5 head (.slice (some ⟨g,0,none⟩) 1 cap)):=by rw[HV.out];exact⟨_,by simpa using ho5,uh _ k s HBD.out.1 HBD.out.2⟩
   have HB5:Hid (Below (w.alloc (.cells #[.int .u8 k,.string s,.int .i64 x,.slice A n c] 44)).heap.size (w.alloc (.cells #[.int .u8 k,.string s,.int .i64 x,.slice A n c] 44)) w5):=Below.grown (bt (ai _ _) _) hg5 (by simp) (fun q hq=>by simp[Value.ownBlock] at hq);clear ho5 hg5 hd5;go_wp2_with fail;go_meet;case rel=>exact⟨HM5,HB5⟩
 case rest=>
  obtain⟨HM0,HBm⟩:=hcut;obtain⟨wr0,rfl⟩:∃x,x=wc:=⟨_,rfl⟩;clear b0 b1 b2 b3;go_wp2_with fail;go_loopw [3,4] (fun v i wr=>∃j:Nat,j<=n/\i= .int .i64 j/\Hid (fH (w.alloc (.cells #[.int .u8 k,.string s,.int .i64 x,.slice A n c] 44)).heap.size wr (head++dc (ks.take j)) v)/\Hid (Below (w.alloc (.cells #[.int .u8 k,.string s,.int .i64 x,.slice A n c] 44)).heap.size (w.alloc (.cells #[.int .u8 k,.string s,.int .i64 x,.slice A n c] 44)) wr)) (fun _ i _=>n - (intOf i).toNat);case atStart=>exact⟨0,aE _,rfl,by have h:=HM0.out;show fH _ _ _ _;simpa[dc] using h,HBm⟩
  case round=>
   clear HM0 HBm;obtain⟨j,hj,rfl,HI,HB⟩:=hrel;obtain⟨b0,b1,b2,b3⟩:=HBX.out;have c3:=ac HB.out b3;clear b0 b1 b2 b3;by_cases hlt:j<n
   .have HBB:=aa (af HB0.out HB.out);obtain⟨b,o,t,rfl,ht,hat⟩:=(HK.out.below HBB.out).get hlt;obtain⟨B1,d1,q0,q1,q2,q3,hnode⟩:=hat.cells;have HND:=aa hnode;have HST:=aa (pN ht);have HSM:Hid (t.sz<=m/\t.sz<=1000000/\(fK t).length<=1000000/\(head++dc (ks.take j)).length<=1000000):=by have h1:=o8 ht;have h2:=HSZ.out.1;have h3:=HSZ.out.2;have h4:=nS t;have h5:=lk (ks.take j);have h6:=HHL.out;exact⟨by omega,by omega,by omega,by rw[cb];omega⟩
    clear ht hat hnode;go_wp2_with fail;refine(ih.out t _ _ _ _ _ _ _ HSM.out.1 HSM.out.2.1 HND.out).mono ?_;intro e w3 hp3;obtain⟨A3,d3,rfl,hk3,hb3⟩:=hp3.open_;obtain⟨v4,w4,hr4,hm4,hb4⟩:=(HI.out.below hb3).more (fun u hu=>by rcases List.mem_append.1 hu with hu|hu;exact HBA.out u hu;exact li _ u hu) (nQ t) (HB.out.trans (hb3.mono HB.out.size)) (aJ HB.out.size hb3.size) 24 hk3 HSM.out.2.2.2 HSM.out.2.2.1;rw[List.append_assoc,<-HST.out] at hm4;have HR4:=aa hr4;have HM4:=aa hm4;have HB4:=aa hb4;obtain⟨b0,b1,b2,b3⟩:=HBX.out;have d3:=ac HB4.out b3;clear hp3 hk3 hb3 hr4 hm4 hb4 q0 q1 q2 q3 c3 b0 b1 b2 b3;go_wp2_with (at_builtin;go_must (refine Lib.wpList_append_run _ rfl _ _ _ _ rfl _ _ rfl rfl _ _ HR4.out ?_));go_roundw;case rel=>exact⟨j+1,by omega,by go_num,HM4,HB4⟩
    case measure=>simp[intOf];omega
   .have HF:Hid (fH (w.heap.size) wr (head++dc ks) u3):=by obtain⟨cs,h1,h2⟩:=HI.out;rw[List.take_of_length_le (by have:=HL.out;omega)] at h1 h2;exact⟨cs,dk h1 (by simp),h2⟩
    have HTB:Hid (fK (.node k (bl s) x ks)=head++dc ks):=(by show _=_;rw[<-HH.out];rfl);go_wp2_with fail;go_ret;obtain⟨cs,h1,h2⟩:=HF.out;exact⟨u3,cs,rfl,by rw[HTB.out];exact h1,by rw[HTB.out];exact h2,af HB0.out HB.out⟩
theorem pO:∀m,ng m
 |0=>by intro t k s x A n c w hsz;obtain⟨k0,s0,x0,ks0⟩:=t;simp[ag.sz] at hsz
 |m+1=>tQ m (aa (pO m))
theorem zu(t:ag)(k:Nat)(s:ByteArray)(x:Int)(A:Option Addr)(n c:Nat)(w:World)(hs:t.sz<=1000000)(hN:cf w t k s x A n c):Calls Tryz.prog 142 #[.agg #[.int .u8 k,.string s,.int .i64 x,.slice A n c]] w (lM (fK t) w):=pO t.sz t k s x A n c w (ah _) hs hN
end Go.Proofs.YtlkmefhogabgdaaGreatDoor
