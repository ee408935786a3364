/- Part 13 of the proof. -/
import Derived.Deep.Cut
import Derived.Test.YtlkmefhogabgdaaGreatDoorMnH
import Derived.Test.YtlkmefhogabgdaaGreatDoorMnL
namespace Go.Proofs.YtlkmefhogabgdaaGreatDoor
open Go.RowKit
set_option linter.all false
set_option maxHeartbeats 40000000
set_option maxRecDepth 100000
theorem kT{ks:List ag}{i:Nat}{t:ag}(h:ks[i]? =some t):t.sz<=ao ks:=by
 induction ks generalizing i with
 |nil=>simp at h
 |cons u us ih=>
  cases i with
  |zero=>simp at h;subst h;simp[ao]
  |succ i=>have:=ih (i:=i) (by simpa using h);simp[ao];omega
theorem ko{w:World}{x y z u:Value}{T:TypeId}:(w.alloc (.cells #[x,y,z,u] T)).cell? ⟨w.heap.size,0,none⟩=some x/\(w.alloc (.cells #[x,y,z,u] T)).cell? ⟨w.heap.size,1,none⟩=some y/\(w.alloc (.cells #[x,y,z,u] T)).cell? ⟨w.heap.size,2,none⟩=some z/\(w.alloc (.cells #[x,y,z,u] T)).cell? ⟨w.heap.size,3,none⟩=some u:=by have hc:=fun j=>cell_of_row _ w.heap.size j _ T (0,0) (heap_alloc_new w (.cells #[x,y,z,u] T));exact⟨by rw[hc];rfl,by rw[hc];rfl,by rw[hc];rfl,by rw[hc];rfl⟩
theorem pR{ks:List ag}{i:Nat}{t:ag}(h:ks[i]? =some t):bP (ks.take (i+1))=(bP (ks.take i) || t.calls):=by
 induction ks generalizing i with
 |nil=>simp at h
 |cons u us ih=>
  cases i with
  |zero=>simp at h;subst h;simp[bP]
  |succ i=>have:=ih (i:=i) (by simpa using h);simp[bP,this,Bool.or_assoc]
theorem ug{ks:List ag}{i:Nat}(h:bP (ks.take i)=true):bP ks=true:=by
 induction ks generalizing i with
 |nil=>simp[bP] at h
 |cons u us ih=>
  cases i with
  |zero=>simp[bP] at h
  |succ i=>
   simp only[List.take_succ_cons,bP,Bool.or_eq_true] at h ⊢;rcases h with h|h
   .exact .inl h
   .exact .inr (ih h)
def nv(m:Nat):Prop:=∀(t:ag) (k:Nat) (s:ByteArray) (x:Int) (A:Option Addr) (n c:Nat) (w:World),t.sz<=m->cf w t k s x A n c->
 Calls Tryz.prog 79 #[.agg #[.int .u8 k,.string s,.int .i64 x,.slice A n c]] w (ak t.calls w)
theorem vo(m:Nat)(ih:Hid (nv m)):nv (m+1):=by
 intro t k s x A n c w hsz hN;obtain⟨ks,rfl,_,_,_,hK⟩:=hN;have hb0:Below w.heap.size w (w.alloc (.cells #[.int .u8 k,.string s,.int .i64 x,.slice A n c] 44)):=(ai _ _).alloc (ah _) _;have HB0:=aa hb0;have HK:=aa (hK.below hb0);have HBX:=aa (ko (w:=w) (x:=.int .u8 k) (y:=.string s) (z:=.int .i64 x) (u:=.slice A n c) (T:=44));have HSZ:Hid (ao ks<=m):=(by show _<=_;simp only[ag.sz] at hsz;omega);have hnn:n<=9223372036854775807:=(by have h1:=hK.2.1;have h2:=hK.2.2.1;unfold maxLen at h2;omega);have HL:Hid (n=ks.length):=hK.1;have HR:Hid (ag.calls (.node k (bl s) x ks)=(k == 25 || bP ks)):=(by show _=_;simp[ag.calls]);generalize ag.calls (.node k (bl s) x ks)=R at HR ⊢;clear hsz hb0 hK;by_cases hk:k=25
 .have HT:Hid (R=true):=(by show _=_;rw[HR.out,hk];rfl);have hkb:((k:Int) == 25)=true:=(by simp;omega);clear hk
  go_in
  go_wp2;go_ret;exact⟨by rw[HT.out];rfl,(ai _ _).alloc (ah _) _⟩
 .have hkb:((k:Int) == 25)=false:=(by simp;omega);have HRL:Hid (R=bP ks):=by show _=_;have:(k == 25)=false:=(by simp[hk]);rw[HR.out,this];rfl
  clear hk
  go_in
  go_wp2_with fail;go_loopw [3] (fun i wr=>∃j:Nat,j<=n/\i= .int .i64 j/\Hid (Below (w.alloc (.cells #[.int .u8 k,.string s,.int .i64 x,.slice A n c] 44)).heap.size (w.alloc (.cells #[.int .u8 k,.string s,.int .i64 x,.slice A n c] 44)) wr)/\Hid (bP (ks.take j)=false)) (fun i _=>n - (intOf i).toNat);case atStart=>exact⟨0,aE _,rfl,ai _ _,(by show _=_;simp[bP])⟩
  case round=>
   obtain⟨j,hj,rfl,HB,HI⟩:=hrel;obtain⟨b0,b1,b2,b3⟩:=HBX.out;have c0:=ac HB.out b0;have c1:=ac HB.out b1;have c2:=ac HB.out b2;have c3:=ac HB.out b3;clear b0 b1 b2 b3;by_cases hlt:j<n
   .obtain⟨b,o,t,rfl,ht,hat⟩:=(HK.out.below HB.out).get hlt;obtain⟨B1,d1,q0,q1,q2,q3,hnode⟩:=hat.cells;have HND:=aa hnode;have HSZT:Hid (t.sz<=m):=aJ (kT ht) HSZ.out;have HCS:=aa (pR ht);clear ht hat hnode;generalize hb:t.calls=b' at HCS;have HTB:=aa hb;clear hb;go_wp2_with fail;have T:=ih.out t _ _ _ _ _ _ _ HSZT.out HND.out;refine T.mono ?_;clear T;rintro e w3 ⟨rfl,hb3⟩;rw[HTB.out];have HB3:=aa (HB.out.trans (hb3.mono HB.out.size));clear hb3 c0 c1 c2 c3 q0 q1 q2 q3;cases b' with
    |true=>
     have HT:Hid (R=true):=by show _=_;rw[HRL.out];exact ug (i:=j+1) (by rw[HCS.out];simp)
     go_wp2;go_ret;exact⟨by rw[HT.out];rfl,HB0.out.trans (HB3.out.mono HB0.out.size)⟩
    |false=>
     obtain⟨b0,b1,b2,b3⟩:=HBX.out;have c0:=ac HB3.out b0;have c3:=ac HB3.out b3;clear b0 b1 b2 b3;go_wp2;go_roundw;case rel=>exact⟨j+1,by omega,by go_num,HB3,(by show _=_;rw[HCS.out,HI.out];rfl)⟩
     case measure=>simp[intOf];omega
   .have HT:Hid (R=false):=by show _=_;have h1:=HI.out;rw[List.take_of_length_le (by have:=HL.out;omega)] at h1;rw[HRL.out,h1]
    go_wp2_with fail;go_ret;exact⟨by rw[HT.out];rfl,HB0.out.trans (HB.out.mono HB0.out.size)⟩
theorem ql:∀m,nv m
 |0=>by intro t k s x A n c w hsz;obtain⟨k0,s0,x0,ks0⟩:=t;simp[ag.sz] at hsz
 |m+1=>vo m (aa (ql m))
theorem zI(t:ag)(k:Nat)(s:ByteArray)(x:Int)(A:Option Addr)(n c:Nat)(w:World)(hN:cf w t k s x A n c):Calls Tryz.prog 79 #[.agg #[.int .u8 k,.string s,.int .i64 x,.slice A n c]] w (ak t.calls w):=ql t.sz _ _ _ _ _ _ _ _ (ah _) hN
theorem tO(w:World)(b:Nat)(hb:w.heap.size=b){k:Nat}(hk:k<13):∃u,Bz[k]? =some u/\(w.alloc (.cells #[.string ⟨#[124,124]⟩,.string ⟨#[38,38]⟩,.string ⟨#[61,61]⟩,.string ⟨#[33,61]⟩,.string ⟨#[60]⟩,.string ⟨#[60,61]⟩,.string ⟨#[62]⟩,.string ⟨#[62,61]⟩,.string ⟨#[43]⟩,.string ⟨#[45]⟩,.string ⟨#[42]⟩,.string ⟨#[47]⟩,.string ⟨#[37]⟩] 9)).cell? ⟨b,k,none⟩=some (.string (sb u)):=by subst hb;obtain⟨ad,u,e,_,hu,hc⟩:=(gL.new (w:=w) (T:=9) (n:=13) Bz rfl).at_ hk;injection e with e;subst e;refine⟨u,hu,?_⟩;have h:=hc;rw[fi,Nat.zero_add] at h;exact h
theorem zO(k:Nat)(s:ByteArray)(x:Int)(u3:Value)(w:World)(hs:s.size<=maxLen):Calls Tryz.prog 216 #[.agg #[.int .u8 k,.string s,.int .i64 x,u3]] w (ak (eE k (bl s)) w):=by
 have hb0:Below w.heap.size w (w.alloc (.cells #[.int .u8 k,.string s,.int .i64 x,u3] 44)):=(ai _ _).alloc (ah _) _;have HB0:=aa hb0;obtain⟨b0,b1,b2,b3⟩:=ko (w:=w) (x:=.int .u8 k) (y:=.string s) (z:=.int .i64 x) (u:=u3) (T:=44);have HS:=aa hs;clear hb0 hs;cases hn:cG k with
 |true=>
  have HN:=aa hn;have HT:Hid (eE k (bl s)=be (bl s)):=(by show _=_;simp[eE,hn]);clear hn
  go_in
  go_wp2_with fail;refine(kM k _).mono ?_;rintro e w1 ⟨rfl,rfl⟩;rw[HN.out];go_wp2_with fail;refine(oQ s _).mono ?_;rintro e w2 ⟨rfl,hb2⟩;have HB2:=aa (HB0.out.trans (hb2.mono HB0.out.size));clear hb2;go_wp2;go_ret;exact ak.intro HT.out.symm HB2.out
 |false=>
  have HN:=aa hn;by_cases h23:k=23
  .subst h23;have HT:Hid (eE 23 (bl s)=(bl s == [45] || bl s == [33])):=(by show _=_;simp[eE,hn]);clear hn;cases h45:(s.toList == [45]) with
   |true=>
    go_in
    go_wp2_with fail;refine(kM 23 _).mono ?_;rintro e w1 ⟨rfl,rfl⟩;rw[HN.out];go_wp2;go_ret;exact ak.intro (by rw[HT.out,<-bG,h45];rfl) HB0.out
   |false=>
    go_in
    go_wp2_with fail;refine(kM 23 _).mono ?_;rintro e w1 ⟨rfl,rfl⟩;rw[HN.out];go_wp2;go_ret;exact ak.intro (by rw[HT.out,<-bG,h45];rfl) HB0.out
  .have n23:((k:Int) == 23)=false:=(by simp;omega);by_cases h24:k=24
   .subst h24;have HT:Hid (eE 24 (bl s)=dj Bz (bl s)):=(by show _=_;rw[dj,<-pI];simp[eE,hn]);clear hn h23 n23
    go_in
    go_wp2_with fail;refine(kM 24 _).mono ?_;rintro e w1 ⟨rfl,rfl⟩;rw[HN.out];have hlen:s.size<=9223372036854775807:=(by have:=HS.out;unfold maxLen at this;omega);go_wp2_with fail;go_loopw [4] (fun i wr=>∃j q:Nat,j<=13/\i= .int .i64 j/\wr=((w.alloc (.cells #[.int .u8 24,.string s,.int .i64 x,u3] 44)).alloc (.cells #[.string ⟨#[124,124]⟩,.string ⟨#[38,38]⟩,.string ⟨#[61,61]⟩,.string ⟨#[33,61]⟩,.string ⟨#[60]⟩,.string ⟨#[60,61]⟩,.string ⟨#[62]⟩,.string ⟨#[62,61]⟩,.string ⟨#[43]⟩,.string ⟨#[45]⟩,.string ⟨#[42]⟩,.string ⟨#[47]⟩,.string ⟨#[37]⟩] 9)).drewN q/\Hid (dj (Bz.take j) (bl s)=false)) (fun i _=>13 - (intOf i).toNat);case atStart=>exact⟨0,0,aE _,rfl,rfl,by show _=_;simp[dj]⟩
    case round=>
     obtain⟨j,q,hj,rfl,rfl,HI⟩:=hrel;have HB2:Hid (Below w.heap.size w (((w.alloc (.cells #[.int .u8 24,.string s,.int .i64 x,u3] 44)).alloc (.cells #[.string ⟨#[124,124]⟩,.string ⟨#[38,38]⟩,.string ⟨#[61,61]⟩,.string ⟨#[33,61]⟩,.string ⟨#[60]⟩,.string ⟨#[60,61]⟩,.string ⟨#[62]⟩,.string ⟨#[62,61]⟩,.string ⟨#[43]⟩,.string ⟨#[45]⟩,.string ⟨#[42]⟩,.string ⟨#[47]⟩,.string ⟨#[37]⟩] 9)).drewN q)):=ax (HB0.out.alloc HB0.out.size _) q;have c1:((w.alloc (.cells #[.int .u8 24,.string s,.int .i64 x,u3] 44)).alloc (.cells #[.string ⟨#[124,124]⟩,.string ⟨#[38,38]⟩,.string ⟨#[61,61]⟩,.string ⟨#[33,61]⟩,.string ⟨#[60]⟩,.string ⟨#[60,61]⟩,.string ⟨#[62]⟩,.string ⟨#[62,61]⟩,.string ⟨#[43]⟩,.string ⟨#[45]⟩,.string ⟨#[42]⟩,.string ⟨#[47]⟩,.string ⟨#[37]⟩] 9)).cell? ⟨w.heap.size,1,none⟩=some (.string s):=(by rw[World.cell?_of_block (heap_alloc_old _ _ (by simp))];exact b1);by_cases hlt:j<13
     .obtain⟨u,hu,hc⟩:=tO (w.alloc (.cells #[.int .u8 24,.string s,.int .i64 x,u3] 44)) (w.heap.size+1) (by simp) hlt;have HU:=aa hu;have HSN:=aa (pV (x:=bl s) hu);have hlti:(j:Int)<13:=(by omega);clear hu;by_cases heq:u=bl s
      .have HQ:=aa heq;have ht:(s.toList == u)=true:=(by simp[bG,heq]);clear heq;go_wp2_with fail
       go_quiet (fail)
       all_goals
        go_wp2;go_ret;refine ak.intro ?_ (by first|exact HB2.out|exact ax HB2.out _|exact HB2.out.drew);rw[HT.out];have h2:=HU.out;rw[HQ.out] at h2;rw[qk h2]
      .have HQ:=aa heq;have ht:(s.toList == u)=false:=(by rw[bG,Bool.eq_false_iff];intro h;exact heq (by simpa using(beq_iff_eq.1 h).symm));clear heq;go_wp2_with fail
       go_quiet (fail)
       all_goals
        go_wp2;go_roundw;case rel=>exact⟨j+1,_,by omega,by go_num,rfl,by show _=_;rw[HSN.out,HI.out];simp[HQ.out]⟩
        case measure=>simp[intOf];omega
     .have hj13:j=13:=(by omega);subst hj13;go_wp2_with fail;go_ret;refine ak.intro ?_ HB2.out;rw[HT.out];have h1:=HI.out;exact h1.symm
   .have n24:((k:Int) == 24)=false:=(by simp;omega);have HT:Hid (eE k (bl s)=(bl s == [])):=(by show _=_;simp[eE,hn,h23,h24]);clear hn
    go_in
    go_wp2_with fail;refine(kM k _).mono ?_;rintro e w1 ⟨rfl,rfl⟩;rw[HN.out];go_wp2;go_ret;exact ak.intro (by rw[HT.out,<-bG];cases s.toList<;>rfl) HB0.out
def pw:Prop:=∀(t:ag) (k:Nat) (s:ByteArray) (x:Int) (A:Option Addr) (n c:Nat) (w:World),cf w t k s x A n c->
 Calls Tryz.prog 141 #[.agg #[.int .u8 k,.string s,.int .i64 x,.slice A n c]] w (ak (fm 40 t) w)
theorem iU(hr:pw)(ks':List ag)(A:Option Addr)(n c:Nat)(w:World)(hK:KidsAt w ks' A n c):Calls Tryz.prog 73 #[.slice A n c] w (ak (dS ks') w):=by
 have HK:=aa hK;have HRI:=aa hr;have HL:Hid (n=ks'.length):=hK.1;have hnn:n<=9223372036854775807:=(by have h1:=hK.2.1;have h2:=hK.2.2.1;unfold maxLen at h2;omega);clear hK hr;by_cases h1:n=1
 .subst h1;obtain⟨b,o,t,rfl,ht,hat⟩:=HK.out.get (i:=0) (by omega);obtain⟨B1,d1,q0,q1,q2,q3,hnode⟩:=hat.cells;have HND:=aa hnode;have HV:Hid (dS ks'=fm 40 t):=by
   show _=_;have hl:=HL.out;match ks',hl,ht with
   |[u],_,ht=>simp at ht;subst ht;rfl
  clear hat hnode ht;simp only[Nat.zero_mul,Nat.add_zero] at q0 q1 q2 q3
  go_in
  go_wp2_with fail;have T:=HRI.out t _ _ _ _ _ _ _ HND.out;refine T.mono ?_;clear T;rintro e w3 ⟨rfl,hb3⟩;go_wp2;go_ret;exact⟨by rw[HV.out];rfl,hb3⟩
 .have h2:¬((n:Int)=1):=(by omega);have hb:((n:Int) == 1)=false:=(by simp[h2]);have HV:Hid (dS ks'=false):=by
   show _=_;have hl:=HL.out;match ks',hl with
   |[],_=>rfl
   |[_],hl=>exact absurd hl h1
   |_::_::_,_=>rfl
  go_in
  go_wp2;go_ret;exact⟨by rw[HV.out];rfl,ai _ _⟩
def jY(v v':Value)(n m:Nat)(w w':World):Prop:=
 (∃g cap,v= .slice (some ⟨g,0,none⟩) n cap/\n+m<=cap/\v'= .slice (some ⟨g,0,none⟩) (n+m) cap/\w.grownBy w' (some g))∨
 (∃cap,v'= .slice (some ⟨w.heap.size,0,none⟩) (n+m) cap/\w.heap.size<w'.heap.size/\w.grownBy w' none/\∀A c,v= .slice A n c->c<n+m)
section
variable {P:Program} (w:World)
theorem Ao(base:Nat)(t ty e:TypeId)(i:TypeInfo)(z:Value)(size bytes:Nat)(ht:P.underlying t=some (.slice e))(hi:P.info? e=some i)(hz:i.zero=some z)(hsize:i.size=size)(hby:i.bytes=bytes)(hzs:z.cells.size=size)(hsz:0<size)(v:Value)(n:Nat)(xs:List Value)(hown:w.ownsRow base e size v n xs)(a:Addr)(m c:Nat)(news:List Value)(hl:news.length=m*size)(hnews:∀j u,news[j]? =some u->w.cell? (a.add j)=some u)(h1:∀u∈news,u.oneCell'=true)(hm:0<m)(h63:n+m<=maxLen)(hbytes:(n+m) *bytes<=140737488355328)(hbase:base<=w.heap.size):∃v' w',(Builtin.append_ #[t,t] ty #[v,.slice (some a) m c]).run P w= .ok v' w'/\w'.ownsRow base e size v' (n+m) (xs++news)/\jY v v' n m w w':=by
 obtain⟨v',w',hr,h2,h3,_⟩:=run_append_own (P:=P) w base t ty e i z size bytes ht hi hz hsize hby hzs hsz v n xs hown a m c news hl hnews h1 h63 hbytes hbase;refine⟨v',w',hr,h2,?_⟩;have hsmall:n+m<=9223372036854775807:=(by simp only[maxLen] at h63;omega);subst hsize;subst hby;rcases hown.2 with ⟨rfl,rfl⟩|⟨g,cap,cur,rfl,hbg,hg,hnc,hcm,hcs,htake⟩
 .right;have hq:=run_append_nil (P:=P) w t ty e i z ht hi hz a m c news hl hnews hm (by omega) (by have hb:=hbytes;simp only[Nat.zero_add] at hb;omega);rw[hq] at hr;injection hr with e1 e2;subst e1 e2;exact⟨_,by rw[Nat.zero_add],by simp,⟨rfl,rfl,rfl,by simp,fun k hk _=>heap_alloc_old w.drew _ (by simpa using hk)⟩,fun A c e=>by injection e;omega⟩
 .by_cases hroom:n+m<=cap
  .left;have hfit:n*i.size+news.length<=cur.size:=(by rw[hl,hcs,<-Nat.add_mul];exact Nat.mul_le_mul_right _ hroom);have hq:=run_append_room (P:=P) w t ty e i ht hi g n cap cur hg a m c news hl hnews h1 hroom hfit;rw[hq] at hr;injection hr with e1 e2;subst e1 e2;exact⟨g,cap,rfl,hroom,rfl,h3⟩
  .right;have holds:∀j u,xs[j]? =some u->w.cell? ((⟨g,0,none⟩:Addr).add j)=some u:=hown.cells (g:=g) rfl;have hq:=run_append_grow (P:=P) w t ty e i z ht hi hz ⟨g,0,none⟩ n cap xs hown.1 holds a m c news hl hnews (by omega) (by omega) (growslice_fits (by omega) hbytes);rw[hq] at hr;injection hr with e1 e2;subst e1 e2;exact⟨_,rfl,by simp,⟨rfl,rfl,rfl,by simp,fun k hk _=>heap_alloc_old w.drew _ (by simpa using hk)⟩,fun A c e=>by injection e;omega⟩
theorem kW{ops:Array Oper}{rest:List Oper}{o:Oper}{a:Act}{Q:Exit->Act->World->Prop}(hgd:o.guard=none)(s x:Operand)(t:TypeId)(ho:o.op= .call { callee:=.builtin .append,args:=#[s,x],argTypes:=#[t,t] })(base:Nat)(e:TypeId)(i:TypeInfo)(z:Value)(size bytes:Nat)(ht:P.underlying t=some (.slice e))(hi:P.info? e=some i)(hz:i.zero=some z)(hsize:i.size=size)(hby:i.bytes=bytes)(hzs:z.cells.size=size)(hsz:0<size)(v:Value)(n:Nat)(xs:List Value)(hs:a.eval s=v)(hown:w.ownsRow base e size v n xs)(ad:Addr)(m c:Nat)(news:List Value)(hx:a.eval x= .slice (some ad) m c)(hl:news.length=m*size)(hnews:∀j u,news[j]? =some u->w.cell? (ad.add j)=some u)(h1:∀u∈news,u.oneCell'=true)(hm:0<m)(h63:n+m<=maxLen)(hbytes:(n+m) *bytes<=140737488355328)(hbase:base<=w.heap.size)(h:∀v' w',w'.ownsRow base e size v' (n+m) (xs++news)->jY v v' n m w w'->wpList P ops Q rest (a.put o.dst v') w'):wpList P ops Q (o::rest) a w:=
 wpList_plain hgd fun K hK=>by obtain⟨v',w',hr,h2,h3⟩:=Ao (P:=P) w base t o.type e i z size bytes ht hi hz hsize hby hzs hsz v n xs hown ad m c news hl hnews h1 hm h63 hbytes hbase;unfold Oper.wp execOp;simp only[ho,resolve,invoke,builtin,Sem.run_bind,Sem.run_pure,Result.andThen_ok,List.map_toArray,List.map_cons,List.map_nil,hs,hx,hr];exact hK _ _ (h v' w' h2 h3)
end
theorem jY.form{v v':Value}{n m:Nat}{w w':World}(h:jY v v' n m w w'):∃g c,v'= .slice (some ⟨g,0,none⟩) (n+m) c/\(v.ownBlock=some g∨g=w.heap.size):=by
 rcases h with ⟨g,cap,rfl,_,rfl,_⟩|⟨cap,rfl,_,_⟩
 .exact⟨g,cap,rfl,.inl rfl⟩
 .exact⟨_,_,rfl,.inr rfl⟩
def lU(m:Nat):Prop:=∀(t:ag) (k:Nat) (s:ByteArray) (x:Int) (A:Option Addr) (n c:Nat) (w:World) (most:Nat),most<=40->t.sz<=m->cf w t k s x A n c->True->
 Calls Tryz.prog 188 #[.agg #[.int .u8 k,.string s,.int .i64 x,.slice A n c],.int .i64 most] w (ak (fm most t) w)
theorem sg{m:Nat}(h:Hid (lU m))(t:ag)(k:Nat)(s:ByteArray)(x:Int)(A:Option Addr)(n c:Nat)(w:World)(mm:Nat){y:Int}(hy:y=(mm:Int))(hm:mm<=40)(hsz:t.sz<=m)(hN:cf w t k s x A n c):Calls Tryz.prog 188 #[.agg #[.int .u8 k,.string s,.int .i64 x,.slice A n c],.int .i64 y] w (ak (fm mm t) w):=by subst hy;exact h.out t k s x A n c w mm hm hsz hN trivial
theorem Ai{ks:List ag}{t:ag}{k j most:Nat}(h:ks[j]? =some t):eX k j most (ks.drop j)=(aD k t.kind j && fm most t && eX k (j+1) most (ks.drop (j+1))):=by obtain⟨h1,h2⟩:=bs.1 h;rw[List.drop_eq_getElem_cons h1,h2];rfl
theorem Ah{X W V:World}(h:Below X.heap.size X W)(k:Below W.heap.size W V):Below X.heap.size X V:=h.trans (k.mono h.size)
theorem Ak{ks:List ag}{t u:ag}(h:ks[0]? =some t)(hu:t.kids[0]? =some u):it ks=(t.kind != 26 || u.kind == 22):=by
 cases ks with
 |nil=>simp at h
 |cons a l=>
  simp only[List.getElem?_cons_zero,Option.some.injEq] at h;subst h;obtain⟨k0,s0,x0,ks0⟩:=a;simp only[ag.kids] at hu;cases ks0 with
  |nil=>simp at hu
  |cons v l'=>simp only[List.getElem?_cons_zero,Option.some.injEq] at hu;subst hu;rfl
theorem Al{ks:List ag}{t:ag}(h:ks[0]? =some t)(hk:t.kind≠26):it ks=true:=by
 cases ks with
 |nil=>simp at h
 |cons a l=>simp only[List.getElem?_cons_zero,Option.some.injEq] at h;subst h;simp[it,hk]
theorem Aj{ks:List ag}{t:ag}{k most:Nat}(h:ks[0]? =some t)(hr:eX k 0 most ks=true):fm most t=true:=by
 cases ks with
 |nil=>simp at h
 |cons a l=>simp only[List.getElem?_cons_zero,Option.some.injEq] at h;subst h;simp only[eX,Bool.and_eq_true] at hr;exact hr.1.2
theorem An{t:ag}{most:Nat}(h:fm most t=true)(hk:t.kind=26):t.kids.length=2:=by obtain⟨k0,s0,x0,ks0⟩:=t;simp only[ag.kind] at hk;subst hk;simp only[fm,Bool.and_eq_true,Bool.or_eq_true,decide_eq_true_eq] at h;have hm:aX 26=2:=rfl;rw[hm] at h;simp only[ag.kids];omega
theorem Am(m:Nat)(ih:Hid (lU m)):lU (m+1):=by
 intro t k s x A n c w most hmost hsz hN _;obtain⟨ks,rfl,_,hss,_,hK⟩:=hN;have hb0:Below w.heap.size w (w.alloc (.cells #[.int .u8 k,.string s,.int .i64 x,.slice A n c] 44)):=(ai _ _).alloc (ah _) _;have HB0:=aa hb0;have HK:=aa (hK.below hb0);have HBX:=aa (ko (w:=w) (x:=.int .u8 k) (y:=.string s) (z:=.int .i64 x) (u:=.slice A n c) (T:=44));have HSZ:Hid (ao ks<=m):=(by show _<=_;simp only[ag.sz] at hsz;omega);have hnn:n<=9223372036854775807:=(by have h1:=hK.2.1;have h2:=hK.2.2.1;unfold maxLen at h2;omega);have HL:Hid (n=ks.length):=hK.1;have HSS:=aa hss;have HR:Hid (fm most (.node k (bl s) x ks)=(decide (1<=most) && fC k && dA k x && eE k (bl s) && (decide (aX k<0) || decide ((n:Int)=aX k)) && eX k 0 (most - 1) ks && (k != 7 || it ks))):=(by show _=_;rw[HL.out];rfl);generalize fm most (.node k (bl s) x ks)=R at HR ⊢;clear hsz hb0 hK hss;obtain⟨b0,b1,b2,b3⟩:=HBX.out
 go_in
 go_upto_region 1 with fail;go_cut [5] from 9 to 21 (fun v wx=>v= .bool (fC k)/\wx=(w.alloc (.cells #[.int .u8 k,.string s,.int .i64 x,.slice A n c] 44)));case first=>
  by_cases h1:1<=k
  .have g1:(1:Int)<=(k:Int):=(by omega);by_cases h12:k<=12
   .have g12:(k:Int)<=12:=(by omega);have HV:Hid (fC k=true):=(by show _=_;simp[fC,h1,h12]);go_wp2_with fail;go_meet;case rel=>exact⟨by rw[HV.out],rfl⟩
   .have g12:¬((k:Int)<=12):=(by omega);have HV:Hid (fC k=dz k):=(by show _=_;simp[fC,h1,h12]);go_wp2_with (refine(gY k _).mono ?_;rintro e w1 ⟨rfl,rfl⟩);go_meet;case rel=>exact⟨by rw[HV.out],rfl⟩
  .have g1:¬((1:Int)<=(k:Int)):=(by omega);have HV:Hid (fC k=dz k):=(by show _=_;simp[fC,h1]);go_wp2_with (refine(gY k _).mono ?_;rintro e w1 ⟨rfl,rfl⟩);go_meet;case rel=>exact⟨by rw[HV.out],rfl⟩
 case rest=>
 obtain⟨rfl,rfl⟩:=hcut;go_upto_region 2 with fail;go_cut [6] from 22 to 44 (fun v wx=>v= .bool (dA k x)/\wx=(w.alloc (.cells #[.int .u8 k,.string s,.int .i64 x,.slice A n c] 44)));case first=>
  by_cases h1:x=0
  .subst h1;have HV:Hid (dA k 0=true):=(by show _=_;simp[dA]);go_wp2_with fail;go_meet;case rel=>exact⟨by rw[HV.out],rfl⟩
  .have e1:(x == 0)=false:=(by simp[h1]);by_cases h20:k=20
   .subst h20;by_cases h0:0<x
    .have HV:Hid (dA 20 x=true):=(by show _=_;simp[dA,h0]);go_wp2_with fail;go_meet;case rel=>exact⟨by rw[HV.out],rfl⟩
    .have HV:Hid (dA 20 x=false):=(by show _=_;simp[dA,h0,h1]);go_wp2_with fail;go_meet;case rel=>exact⟨by rw[HV.out],rfl⟩
   .have e20:((k:Int) == 20)=false:=(by simp;omega);by_cases h21:k=21
    .subst h21;by_cases h0:x=1
     .subst h0;have HV:Hid (dA 21 1=true):=(by show _=_;simp[dA]);go_wp2_with fail;go_meet;case rel=>exact⟨by rw[HV.out],rfl⟩
     .have e0:(x == 1)=false:=(by simp[h0]);have HV:Hid (dA 21 x=false):=(by show _=_;simp[dA,h0,h1]);go_wp2_with fail;go_meet;case rel=>exact⟨by rw[HV.out],rfl⟩
    .have e21:((k:Int) == 21)=false:=(by simp;omega);have HV:Hid (dA k x=false):=(by show _=_;simp[dA,h20,h21,h1]);go_wp2_with fail;go_meet;case rel=>exact⟨by rw[HV.out],rfl⟩
 case rest=>
 obtain⟨rfl,rfl⟩:=hcut;go_wp2_with fail;refine(rL k _).mono ?_;rintro e w1 ⟨rfl,rfl⟩;go_upto_region 4 with fail;go_cut [5,6,7,73] from 48 to 72 (fun _ _ _ v wx=>v= .bool (!(decide (1<=most) && fC k && dA k x && eE k (bl s) && (decide (aX k<0) || decide ((n:Int)=aX k))))/\Hid (Below (w.alloc (.cells #[.int .u8 k,.string s,.int .i64 x,.slice A n c] 44)).heap.size (w.alloc (.cells #[.int .u8 k,.string s,.int .i64 x,.slice A n c] 44)) wx));case first=>
  have HB1:Hid (Below (w.alloc (.cells #[.int .u8 k,.string s,.int .i64 x,.slice A n c] 44)).heap.size (w.alloc (.cells #[.int .u8 k,.string s,.int .i64 x,.slice A n c] 44)) (w.alloc (.cells #[.int .u8 k,.string s,.int .i64 x,.slice A n c] 44))):=ai _ _;by_cases hm0:most=0
  .have gm:(most:Int)<1:=(by omega);have gm1:Hid (decide (1<=most)=false):=(by show _=_;simp;omega);clear hm0;go_wp2_with fail;go_meet;case rel=>exact⟨by rw[gm1.out];rfl,HB1⟩
  .have gm:¬((most:Int)<1):=(by omega);have gm1:Hid (decide (1<=most)=true):=(by show _=_;simp;omega);clear hm0;cases hkn:fC k with
   |false=>go_wp2_with fail;go_meet;case rel=>exact⟨by simp[hkn],HB1⟩
   |true=>
    cases hnu:dA k x with
    |false=>go_wp2_with fail;go_meet;case rel=>exact⟨by simp[hnu],HB1⟩
    |true=>
     go_wp2_with fail;refine(zO k s x _ _ HSS.out).mono ?_;rintro e w2 ⟨rfl,hb2⟩;have HB2:=aa hb2;have c3:=ac hb2 b3;clear hb2;cases htx:eE k (bl s) with
     |false=>go_wp2_with fail;go_meet;case rel=>exact⟨by simp[htx],HB2⟩
     |true=>
      by_cases hma:aX k<0
      .have ga:¬(0<=aX k):=(by omega);have ga1:Hid (decide (aX k<0)=true):=(by show _=_;simp;omega);go_wp2_with fail;go_meet;case rel=>exact⟨by rw[gm1.out,hkn,hnu,htx,ga1.out];rfl,HB2⟩
      .have ga:0<=aX k:=(by omega);have ga1:Hid (decide (aX k<0)=false):=(by show _=_;simp;omega);by_cases hle:(n:Int)=aX k
       .have gl1:Hid (decide ((n:Int)=aX k)=true):=(by show _=_;simp[hle]);have gl2:((n:Int) == aX k)=true:=(by simp[hle]);have gl3:((n:Int) != aX k)=false:=(by simp[hle]);clear hle hma;go_wp2_with fail;go_meet;case rel=>exact⟨by rw[gm1.out,hkn,hnu,htx,gl1.out,ga1.out];rfl,HB2⟩
       .have gl1:Hid (decide ((n:Int)=aX k)=false):=(by show _=_;simp[hle]);have gl2:((n:Int) == aX k)=false:=(by simp[hle]);have gl3:((n:Int) != aX k)=true:=(by simp[hle]);clear hle hma;go_wp2_with fail;go_meet;case rel=>exact⟨by rw[gm1.out,hkn,hnu,htx,gl1.out,ga1.out];rfl,HB2⟩
 case rest=>
 obtain⟨rfl,HBC⟩:=hcut;generalize hG:(decide (1<=most) && fC k && dA k x && eE k (bl s) && (decide (aX k<0) || decide ((n:Int)=aX k)))=G at HR ⊢;have HG:=aa hG;clear hG;cases G with
 |false=>have HT:Hid (R=false):=(by show _=_;rw[HR.out];rfl);go_wp2;go_ret;exact ak.intro HT.out.symm (HB0.out.trans (HBC.out.mono HB0.out.size))
 |true=>
  have HT:Hid (R=(eX k 0 (most - 1) ks && (k != 7 || it ks))):=(by show _=_;rw[HR.out];rfl);have hm1:1<=most:=by
   have h:=HG.out;by_cases hh:1<=most
   .exact hh
   .simp[hh] at h
  have HWR:Hid (IntKind.i64.wrap ((most:Int) - 1)=((most - 1:Nat):Int)):=(by show _=_;rw[IntWalk.i64_in _ (by omega)];omega);have H7:Hid (k=7->n=2):=by intro h7;subst h7;have h:=HG.out;have hm:aX 7=2:=rfl;rw[hm] at h;simp at h;omega
  clear HR HG;go_wp2_with fail;go_loopw [8] (fun i wr=>∃j:Nat,j<=n/\i= .int .i64 j/\Hid (Below (w.alloc (.cells #[.int .u8 k,.string s,.int .i64 x,.slice A n c] 44)).heap.size (w.alloc (.cells #[.int .u8 k,.string s,.int .i64 x,.slice A n c] 44)) wr)/\Hid (eX k 0 (most - 1) ks=eX k j (most - 1) (ks.drop j))) (fun i _=>n - (intOf i).toNat);case atStart=>exact⟨0,aE _,rfl,HBC,by show _=_;rw[List.drop_zero]⟩
  case round=>
   obtain⟨j,hj,rfl,HB,HI⟩:=hrel;have c0:=ac HB.out b0;have c3:=ac HB.out b3;by_cases hlt:j<n
   .obtain⟨b,o,t,rfl,ht,hat⟩:=(HK.out.below HB.out).get hlt;obtain⟨B1,d1,q0,q1,q2,q3,hnode⟩:=hat.cells;have HND:=aa hnode;have HSZT:Hid (t.sz<=m):=aJ (kT ht) HSZ.out;have HST:=aa (Ai (k:=k) (j:=j) (most:=most - 1) ht);obtain⟨bb,hbb⟩:∃bb,fm (most - 1) t=bb:=⟨_,rfl⟩;have HTB:=aa hbb;clear ht hat hnode hbb b0 b1 b2 b3;cases hf:aD k t.kind j with
    |false=>
     have HF:=aa hf;have HRF:Hid (R=false):=(by show _=_;rw[HT.out,HI.out,HST.out,HF.out];rfl);clear hf;go_upto_region 9 with fail;refine wp_region_noPanic ?_;refine wp_region_held_drew (S:=(fun w'=>w'.cell? ⟨w.heap.size,0,none⟩=some (.int .u8 k)/\w'.cell? ⟨w.heap.size,3,none⟩=some (.slice (some ⟨b,o,none⟩) n c)/\w'.cell? ⟨b,o+j*4,none⟩=some (.int .u8 t.kind)/\w'.cell? ⟨b,o+j*4+1,none⟩=some (.string (sb t.text))/\w'.cell? ⟨b,o+j*4+2,none⟩=some (.int .i64 t.num)/\w'.cell? ⟨b,o+j*4+3,none⟩=some (.slice B1 t.kids.length d1))) (by kernel_rfl) ?_ fun hH0=>?_
     .exact⟨ac bz c0,ac bz c3,ac bz q0,ac bz q1,ac bz q2,ac bz q3⟩
     refine ae 0 ?_;refine ae 1 ?_;refine ae 2 ?_;refine ae 3 ?_;refine ae 4 ?_;refine ae 5 ?_;refine ae 6 ?_;refine ae 7 ?_;refine ae 8 ?_;refine aL 9 fun K hK=>?_;go_simp;refine(rI k t.kind j _).mono ?_;rintro e w2 ⟨rfl,rfl⟩;rw[HF.out];go_wp2_with fail;refine hK.out _ _ ?_ (fun hH1=>?_)
     .exact⟨ac bz c0,ac bz c3,ac bz q0,ac bz q1,ac bz q2,ac bz q3⟩
     clear hK K;refine aM ?_;refine ae 10 ?_;refine ae 11 ?_;refine az 12 ?_;refine az 13 ?_;refine az 14 ?_;refine az 15 ?_;refine az 16 ?_;refine az 17 ?_;refine az 18 ?_;refine az 19 ?_;refine az 20 ?_;refine ae 21 ?_;refine wpAnyH_done (by kernel_rfl) ?_ _;refine NoPanic.normal ?_;clear c0 c3 q0 q1 q2 q3 hH0 hH1;go_wp2;go_ret;exact ak.intro HRF.out.symm (HB0.out.trans ((HB.out.trans (Below.drew (ai _ _) |>.mono HB.out.size)).mono HB0.out.size))
    |true=>
     have HF:=aa hf;clear hf;go_upto_region 9 with fail;refine wp_region_noPanic ?_;refine wp_region_held_drew (S:=(fun w'=>w'.cell? ⟨w.heap.size,0,none⟩=some (.int .u8 k)/\w'.cell? ⟨w.heap.size,3,none⟩=some (.slice (some ⟨b,o,none⟩) n c)/\w'.cell? ⟨b,o+j*4,none⟩=some (.int .u8 t.kind)/\w'.cell? ⟨b,o+j*4+1,none⟩=some (.string (sb t.text))/\w'.cell? ⟨b,o+j*4+2,none⟩=some (.int .i64 t.num)/\w'.cell? ⟨b,o+j*4+3,none⟩=some (.slice B1 t.kids.length d1))) (by kernel_rfl) ?_ fun hH0=>?_
     .exact⟨ac bz c0,ac bz c3,ac bz q0,ac bz q1,ac bz q2,ac bz q3⟩
     refine ae 0 ?_;refine ae 1 ?_;refine ae 2 ?_;refine ae 3 ?_;refine ae 4 ?_;refine ae 5 ?_;refine ae 6 ?_;refine ae 7 ?_;refine ae 8 ?_;refine aL 9 fun K hK=>?_;go_simp;refine(rI k t.kind j _).mono ?_;rintro e w2 ⟨rfl,rfl⟩;rw[HF.out];go_wp2_with fail;refine hK.out _ _ ?_ (fun hH1=>?_)
     .exact⟨ac bz c0,ac bz c3,ac bz q0,ac bz q1,ac bz q2,ac bz q3⟩
     clear hK K;refine aM ?_;refine ae 10 ?_;refine ae 11 ?_;refine ae 12 ?_;refine ae 13 ?_;refine ae 14 ?_;refine ae 15 ?_;refine ae 16 ?_;refine ae 17 ?_;refine ae 18 ?_;refine aL 19 fun K hK=>?_;go_simp;refine(sg ih t _ _ _ _ _ _ _ (most - 1) HWR.out (by omega) HSZT.out (HND.out.below bz)).mono ?_;rintro e w3 ⟨rfl,hb3⟩;rw[HTB.out];have HD3:Hid (Below wr.heap.size wr w3):=Ah bz hb3;clear hb3;go_wp2_with fail;refine hK.out _ _ ?_ (fun hH2=>?_)
     .exact⟨ac HD3.out c0,ac HD3.out c3,ac HD3.out q0,ac HD3.out q1,ac HD3.out q2,ac HD3.out q3⟩
     clear hK K;refine aM ?_;refine ae 20 ?_;refine ae 21 ?_;refine wpAnyH_done (by kernel_rfl) ?_ _;refine NoPanic.normal ?_;have HB3:=aa (HB.out.trans (HD3.out.mono HB.out.size));clear c0 c3 q0 q1 q2 q3 hH0 hH1 hH2;cases bb with
     |false=>have HRF:Hid (R=false):=(by show _=_;rw[HT.out,HI.out,HST.out,HTB.out];simp);go_wp2;go_ret;exact ak.intro HRF.out.symm (HB0.out.trans (HB3.out.mono HB0.out.size))
     |true=>
      have HI2:Hid (eX k 0 (most - 1) ks=eX k (j+1) (most - 1) (ks.drop (j+1))):=(by show _=_;rw[HI.out,HST.out,HF.out,HTB.out];rfl);obtain⟨b0,b1,b2,b3⟩:=HBX.out;have c3:=ac HB3.out b3;clear b0 b1 b2 b3;go_wp2;go_roundw;case rel=>
       repeat apply Exists.intro
       refine⟨?_,rfl⟩;exact⟨j+1,by omega,by go_num,HB3,HI2⟩
      case measure=>simp[intOf];omega
   .have hjn:j=n:=(by omega);have HA:Hid (eX k 0 (most - 1) ks=true):=by show _=_;rw[HI.out,List.drop_of_length_le (by have:=HL.out;omega)];rfl
    have HBF:=aa (HB0.out.trans (HB.out.mono HB0.out.size));clear b0 b1 b2 b3;by_cases h7:k=7
    .have hn2:n=2:=H7.out h7;subst h7;subst hn2;obtain⟨b,o,t0,rfl,ht,hat⟩:=(HK.out.below HB.out).get (i:=0) (by omega);obtain⟨B1,d1,q0,q1,q2,q3,hnode⟩:=hat.cells;simp only[Nat.zero_mul,Nat.add_zero] at q0 q1 q2 q3;have HSET:Hid (R=it ks):=(by show _=_;rw[HT.out,HA.out];rfl);by_cases h26:t0.kind=26
     .have hl2:=An (Aj ht HA.out) h26;obtain⟨ks0,e0,_,_,_,hK0⟩:=hnode;have hks:t0.kids=ks0:=(by rw[e0];rfl);obtain⟨b',o',u0,rfl,hu,hat0⟩:=hK0.get (i:=0) (by omega);obtain⟨B2,d2,p0,_,_,_,_⟩:=hat0.cells;simp only[Nat.zero_mul,Nat.add_zero] at p0;have HSV:Hid (R=(u0.kind == 22)):=by show _=_;rw[HSET.out,Ak ht (by rw[hks];exact hu),h26];rfl
      rw[h26] at q0;rw[hl2] at q3;clear hat ht hat0 hu e0 hks hK0 h26 hl2;by_cases h22:u0.kind=22
      .rw[h22] at p0;have HV2:Hid (R=true):=(by show _=_;rw[HSV.out,h22];rfl);go_wp2;go_ret;exact ak.intro HV2.out.symm HBF.out
      .have e22:((u0.kind:Int) == 22)=false:=(by simp;omega);have HV2:Hid (R=false):=(by show _=_;rw[HSV.out];simp[h22]);go_wp2;go_ret;exact ak.intro HV2.out.symm HBF.out
     .have e26:((t0.kind:Int) == 26)=false:=(by simp;omega);have f26:((t0.kind:Int) != 26)=true:=(by simp;omega);have HV2:Hid (R=true):=(by show _=_;rw[HSET.out,Al ht h26]);clear hat ht hnode h26;go_wp2;go_ret;exact ak.intro HV2.out.symm HBF.out
    .have hb7:((k:Int) == 7)=false:=(by simp;omega);have hc7:((k:Int) != 7)=true:=(by simp;omega);have HRT:Hid (R=true):=by show _=_;have:(k != 7)=true:=(by simp[h7]);rw[HT.out,HA.out,this];rfl
     go_wp2;go_ret;exact ak.intro HRT.out.symm HBF.out
theorem sf:∀m,lU m
 |0=>by intro t k s x A n c w most _ hsz hN _;obtain⟨ks,rfl,_⟩:=hN;simp only[ag.sz] at hsz;omega
 |m+1=>Am m (sf m)
theorem iV:pw:=by
 intro t k s x A n c w hN;have hb0:Below w.heap.size w (w.alloc (.cells #[.int .u8 k,.string s,.int .i64 x,.slice A n c] 44)):=(ai _ _).alloc (ah _) _;have HB0:=aa hb0;have HN:=aa (hN.below hb0);obtain⟨b0,b1,b2,b3⟩:=ko (w:=w) (x:=.int .u8 k) (y:=.string s) (z:=.int .i64 x) (u:=.slice A n c) (T:=44);clear hb0 hN
 go_in
 go_wp2_with fail;refine(sg (aa (sf t.sz)) t k s x A n c _ 40 rfl (ah _) (ah _) HN.out).mono ?_;rintro e w2 ⟨rfl,hb2⟩;have HB2:=aa (HB0.out.trans (hb2.mono HB0.out.size));clear hb2 b0 b1 b2 b3;go_wp2;go_ret;exact ak.intro rfl HB2.out
end Go.Proofs.YtlkmefhogabgdaaGreatDoor
