/- Part 15 of the proof. -/
import Derived.Deep.LoopGhost
import Derived.Test.YtfipahjodfminaaGreatDoorMfN
namespace Go.Proofs.YtfipahjodfminaaGreatDoor
open Go.RowKit
set_option linter.all false
set_option maxHeartbeats 40000000
set_option maxRecDepth 100000
theorem Q5(B r:Nat)(toks:List bi)(f:Nat)(hC:∀m,m<f->LB B r toks m):LH B r toks f:=by
 intro i o j t w hp h hf;obtain⟨m,rfl⟩:∃m,f=m+1:=by cases f with|zero=>simp[KI] at hp|succ m=>exact⟨m,rfl⟩
 have HC:=ab (hC m (by omega));have HS:=ab h;rw[KI] at hp;by_cases h1:(a8 toks i [45] || a8 toks i [33])=true
 .rw[if_pos h1] at hp;simp at hp
 rw[if_neg h1] at hp;have HT:Hid (a8 toks i [45]=false/\a8 toks i [33]=false):=ab (by simpa using h1);clear h1;cases hq:KG toks m i with
 |none=>rw[hq] at hp;simp at hp
 |some x=>
 obtain⟨t',j'⟩:=x;rw[hq] at hp;by_cases h2:a8 toks j' [91]=true
 .simp[h2] at hp
 simp only[h2,Bool.false_eq_true,if_false,Option.some.injEq,Prod.mk.injEq] at hp;obtain⟨e1,e2⟩:=hp;have e1':=e1.symm;have e2':=e2.symm;clear e1 e2;subst e1' e2';have HQ:=ab hq;have HE:Hid (a8 toks j [91]=false):=ab (by simpa using h2);clear hq h2 h hC
 go_in
 go_wp2_with fail;go_loopw [3,4] (fun v s wr=>∃k:Nat,k<=2/\v= .int .i64 k/\Hid (Below w.heap.size w wr)/\Hid (wr.heap[w.heap.size]? =some (.cells Z4 25 (0,0)))) (fun v _ _=>2 - (intOf v).toNat);case atStart=>exact⟨0,by omega,rfl,bz_alloc (ai _ _) _,heap_alloc_new _ _⟩
 case round=>
  obtain⟨k,hk,rfl,HB,HX⟩:=hrel;by_cases hk2:k<2
  .have hb3:Below w.heap.size w (wr.alloc (.cells #[.string ⟨#[45]⟩,.string ⟨#[33]⟩] 9)):=OU HB.out _;have HS3:=ab (HS.out.own (hb3.mono HS.out.wB));have HB3:=ab hb3;have HX3:Hid ((wr.alloc (.cells #[.string ⟨#[45]⟩,.string ⟨#[33]⟩] 9)).heap[w.heap.size]? =some (.cells Z4 25 (0,0))):=(heap_alloc_old _ _ (aK.1 HX.out).1).trans HX.out;have HT1:Hid (a8 toks i (bl ⟨#[45]⟩)=false):=HT.out.1;have HT2:Hid (a8 toks i (bl ⟨#[33]⟩)=false):=HT.out.2;clear hb3;obtain rfl|rfl:k=0∨k=1:=by omega
   .go_wp2_with fail;refine(fh B toks r i o _ _ HS3.out).mono ?_;rintro e w2 ⟨rfl,hb2⟩;rw[HT1.out];have HX4:Hid (w2.heap[w.heap.size]? =some (.cells Z4 25 (0,0))):=(hb2.block _ (aK.1 HX3.out).1).trans HX3.out;have HB4:=ab (HB3.out.trans (hb2.mono HB3.out.size));clear hb2;go_wp2;go_roundw;case rel=>exact⟨1,by omega,rfl,HB4,HX4⟩
    case measure=>simp[intOf]
   .go_wp2_with fail;refine(fh B toks r i o _ _ HS3.out).mono ?_;rintro e w2 ⟨rfl,hb2⟩;rw[HT2.out];have HX4:Hid (w2.heap[w.heap.size]? =some (.cells Z4 25 (0,0))):=(hb2.block _ (aK.1 HX3.out).1).trans HX3.out;have HB4:=ab (HB3.out.trans (hb2.mono HB3.out.size));clear hb2;go_wp2;go_roundw;case rel=>exact⟨2,by omega,rfl,HB4,HX4⟩
    case measure=>simp[intOf]
  .obtain rfl:k=2:=(by omega);have HS2:=ab (HS.out.own (HB.out.mono HS.out.wB));go_wp2_with fail;refine(HC.out i o j t _ HQ.out HS2.out (by omega)).mono ?_;rintro e w1 ⟨hr1,hs1,A,c,rfl,hn1⟩;have hsz:=HB.out.size;have hbox:w1.heap[w.heap.size]? =some (.cells Z4 25 (0,0)):=hr1.box HX.out HS.out.ne;have hsz1:w.heap.size<w1.heap.size:=(aK.1 hbox).1;have HS1:=ab hs1;have HR1:=ab ((a9.below HB.out).trans hr1);have HN1:Hid (cf (cX w1 (w.heap.size+1)) t t.kind (sb t.text) t.num A t.kids.length c):=hn1.sinceLow (aK.1 HX.out).1;clear hr1 hs1 hn1;have HX5:Hid ((w1.alloc (.cells #[.int .u8 t.kind,.string (sb t.text),.int .i64 t.num,.slice A t.kids.length c] 25)).heap[w.heap.size]? =some (.cells Z4 25 (0,0))):=(heap_alloc_old _ _ hsz1).trans hbox;have HY5:Hid ((w1.alloc (.cells #[.int .u8 t.kind,.string (sb t.text),.int .i64 t.num,.slice A t.kids.length c] 25)).heap[w1.heap.size]? =some (.cells #[.int .u8 t.kind,.string (sb t.text),.int .i64 t.num,.slice A t.kids.length c] 25 (0,0))):=heap_alloc_new _ _;have HB5:Hid (Below w1.heap.size w1 (w1.alloc (.cells #[.int .u8 t.kind,.string (sb t.text),.int .i64 t.num,.slice A t.kids.length c] 25))):=bz_alloc (ai _ _) _;have HS5:=ab (HS1.out.own (HB5.out.mono HS1.out.wB));have HR5:=ab (HR1.out.trans (a9.below HB5.out));have HN5:=ab (HN1.out.sinceBelow HB5.out);clear hbox;go_wp2_with fail;go_loopw [7] (fun _ wr=>Hid (ca B wr r toks j o)/\Hid (a9 r w wr)/\Hid (wr.heap[w.heap.size]? =some (.cells Z4 25 (0,0)))/\Hid (wr.heap[w1.heap.size]? =some (.cells #[.int .u8 t.kind,.string (sb t.text),.int .i64 t.num,.slice A t.kids.length c] 25 (0,0)))/\Hid (cf (cX wr (w.heap.size+1)) t t.kind (sb t.text) t.num A t.kids.length c)) (fun _ _=>0);case atStart=>exact⟨HS5,HR5,HX5,HY5,HN5⟩
   case round=>obtain⟨HS6,HR6,HX6,HY6,HN6⟩:=hrel;have HE2:Hid (a8 toks j (bl ⟨#[91]⟩)=false):=HE.out;go_wp2_with fail;refine(fh B toks r j o _ _ HS6.out).mono ?_;rintro e w2 ⟨rfl,hb2⟩;rw[HE2.out];have hx:=(hb2.block _ (aK.1 HX6.out).1).trans HX6.out;have hy:=(hb2.block _ (aK.1 HY6.out).1).trans HY6.out;have HS7:=ab (HS6.out.own (hb2.mono HS6.out.wB));have HR7:=ab (HR6.out.trans (a9.below hb2));have HN7:=ab (HN6.out.sinceBelow hb2);clear hb2;obtain⟨c0,c1,c2,c3,f0,f1,f2,f3⟩:=di hx;obtain⟨d0,d1,d2,d3,g0,g1,g2,g3⟩:=di hy;clear hx hy;go_wp2_with fail;obtain⟨a0,a1,a2,a3⟩:=mL (v0:=.int .u8 t.kind) (v1:=.string (sb t.text)) (v2:=.int .i64 t.num) (v3:=.slice A t.kids.length c) c0 c1 c2 c3;exact bodyPost_ret (v:=.agg #[.int .u8 t.kind,.string (sb t.text),.int .i64 t.num,.slice A t.kids.length c]) (by simp[results,Tryz.results233,go_sem,a0,a1,a2,a3]) rfl (d8.put HR7.out HS7.out HS.out.wB HN7.out _ _ _ _)
theorem Mn(c:UInt8)(w:World):Calls Tryz.prog 138 #[.int .u8 c.toNat] w fun e w'=>e= .returned (.bool (Jb c))/\w=w':=by
 go_in
 go_wp2;all_goals
  go_ret;exact⟨dg (by simp[Jb];try omega),rfl⟩
theorem Jv(c:UInt8)(w:World):Calls Tryz.prog 140 #[.int .u8 c.toNat] w fun e w'=>e= .returned (.bool (gh c))/\w=w':=by
 go_in
 go_wp2;all_goals
  go_ret;exact⟨dg (by simp[gh];try omega),rfl⟩
theorem zb(c:UInt8)(w:World):Calls Tryz.prog 141 #[.int .u8 c.toNat] w fun e w'=>e= .returned (.bool (lp c))/\w=w':=by
 go_in
 go_wp2;all_goals
  go_ret;exact⟨dg (by simp[lp];try omega),rfl⟩
theorem Ln(s p:ByteArray)(k:Nat)(w:World)(hk:k<=s.size)(hs:s.size<=9223372036854775807)(hp:p.size<=9223372036854775807):Calls Tryz.prog 139 #[.string s,.int .i64 k,.string p] w fun e w'=>e= .returned (.bool ((bl p).isPrefixOf ((bl s).drop k)))/\w=w':=by
 by_cases h:p.size<=s.size - k
 .have h':k+p.size<=s.size:=(by omega);clear h
  go_in
  go_wp2;go_ret;refine⟨dg ?_,rfl⟩;show((s.extract k (k+p.size)).toList == p.toList)=true↔_;rw[NV,Lib.extract_toList,bG,Nat.add_sub_cancel_left,dt]
 .go_in
  go_wp2;go_ret;refine⟨dg ?_,rfl⟩;simp[NV];intro e;have:=congrArg List.length e;simp at this;omega
def xx(w:World)(A:Option Addr)(n:Nat)(ss:List ar):Prop:=
 ss.length=n/\(0<n->∃ad,A=some ad/\ad.block<w.heap.size/\∀j u,ss[j]? =some u->w.cell? (ad.add j)=some (.string (sb u)))
theorem xx.at_{w:World}{A:Option Addr}{n:Nat}{ss:List ar}(h:xx w A n ss){k:Nat}(hk:k<n):∃ad u,A=some ad/\ad.block<w.heap.size/\ss[k]? =some u/\w.cell? (ad.add k)=some (.string (sb u)):=by obtain⟨hl,h⟩:=h;obtain⟨ad,e,hb,hc⟩:=h (by omega);exact⟨ad,ss[k]'(by omega),e,hb,br (by omega),hc k _ (br (by omega))⟩
def sa(l:List ar)(x:ar):Bool:=l.contains x
theorem Ps{l:List ar}{x:ar}{k:Nat}(h:l[k]? =some x):sa l x=true:=by unfold sa;simp;exact List.mem_of_getElem? h
theorem OV(a:Addr)(n:Nat):(a.add n).block=a.block:=by unfold Addr.add;split<;>rfl
theorem xx.set_{w:World}{A:Option Addr}{n:Nat}{ss:List ar}(h:xx w A n ss){p:Addr}(hp:∀ad,A=some ad->ad.block≠p.block)(u:Value):xx (w.setCell p u) A n ss:=by refine⟨h.1,fun hn=>?_⟩;obtain⟨ad,e,hb,hc⟩:=h.2 hn;refine⟨ad,e,by simpa using hb,fun j v hv=>?_⟩;rw[World.cell?_setCell_other w p _ u (fun e'=>hp ad e (by rw[<-OV ad j,e']))];exact hc j v hv
theorem OX{ss:List ar}{x u:ar}{k:Nat}(hu:ss[k]? =some u):sa (ss.take (k+1)) x=(sa (ss.take k) x || u == x):=by
 have hk:k<ss.length:=(gl.1 hu).1;have:ss.take (k+1)=ss.take k++[u]:=by rw[List.take_succ_eq_append_getElem hk];rw[br hk] at hu;injection hu with hu;rw[hu]
 rw[this];unfold sa;rw[Bool.eq_iff_iff];simp only[List.contains_iff_mem,List.mem_append,List.mem_singleton,Bool.or_eq_true,beq_iff_eq];exact⟨fun h=>h.imp id Eq.symm,fun h=>h.imp id Eq.symm⟩
theorem Kl(s:ByteArray)(A:Option Addr)(n c:Nat)(ss:List ar)(w:World)(h:xx w A n ss)(hn:n<=9223372036854775806):Calls Tryz.prog 143 #[.string s,.slice A n c] w fun e w'=>e= .returned (.bool (sa ss (bl s)))/\w=w':=by
 have hlen:=ab h.1
 go_in
 go_wp2
 go_loop [5] (fun i=>∃k:Nat,k<=n/\i= .int .i64 k/\Hid (sa (ss.take k) (bl s)=false)) (fun i=>n - (intOf i).toNat)
 case atStart=>exact⟨0,aE _,rfl,by show _=_;simp[sa]⟩
 case round=>
  obtain⟨k,hk,rfl,HB⟩:=hrel;by_cases hlt:k<n
  .obtain⟨ad,u,rfl,hbl,hu,hc⟩:=h.at_ hlt;have HU:=ab hu;have HS:=ab (OX (x:=bl s) hu);clear hu;by_cases heq:u=bl s
   .have HQ:=ab heq;have ht:(u == s.toList)=true:=(by simp[bG,heq]);clear heq;go_wp2;go_ret;refine⟨dg ?_,rfl⟩;have h2:=HU.out;rw[HQ.out] at h2;rw[Ps h2]
   .have HQ:=ab heq;have ht:(u == s.toList)=false:=(by simp[bG,heq]);clear heq;go_wp2
    go_round
    case rel=>exact⟨k+1,by omega,by go_num,by show _=_;rw[HS.out,HB.out];simp[HQ.out]⟩
    case measure=>simp[intOf];omega
  .go_wp2;go_ret;refine⟨dg ?_,rfl⟩;have h1:=HB.out;rw[List.take_of_length_le (by have:=hlen.out;omega)] at h1;rw[h1]
theorem xx.new{w:World}{T:TypeId}{n:Nat}(ss:List ar)(hn:ss.length=n):xx (w.alloc (.cells (ss.map fun u=>Value.string (sb u)).toArray T)) (some ⟨w.heap.size,0,none⟩) n ss:=by
 refine⟨hn,fun _=>⟨_,rfl,by simp,fun j u hu=>?_⟩⟩;have hj:(Addr.add ⟨w.heap.size,0,none⟩ j)=⟨w.heap.size,j,none⟩:=by unfold Addr.add;split<;>simp_all
 rw[hj,World.cell?_alloc_new];simp[hu]
def MF(n:Nat)(ss:List ar)(w:World)(e:Ending)(w':World):Prop:=∃A,e= .returned (.slice A n n)/\xx w' A n ss/\Below w.heap.size w w'/\(∀ad,A=some ad->w.heap.size<=ad.block)/\∃g,A=some ⟨g,0,none⟩
theorem Kn(w:World):Calls Tryz.prog 144 #[] w (MF 11 iu w):=by
 go_in
 go_wp2;go_ret;exact⟨_,rfl,xx.new (w:=w) (T:=9) iu rfl,(ai _ _).alloc (ah _) _,fun ad h=>by injection h with h;rw[<-h];exact ah _,_,rfl⟩
theorem Q3(w:World):Calls Tryz.prog 146 #[] w (MF 23 zd w):=by
 go_in
 go_wp2;go_ret;exact⟨_,rfl,xx.new (w:=w) (T:=9) zd rfl,(ai _ _).alloc (ah _) _,fun ad h=>by injection h with h;rw[<-h];exact ah _,_,rfl⟩
def Jk(b:Bool)(w:World)(e:Ending)(w':World):Prop:=w=w'/\∃x:Int,e= .returned (.tuple #[.int .i64 x,.bool b])
def J2(s:ByteArray)(k:Nat)(n:Nat):Prop:=n=qd ((bl s).take k)/\n<=9223372036854775807/\∀j c,j<k->(bl s)[j]? =some c->lp c=true
theorem NI{s:ByteArray}{k n:Nat}(h:J2 s k n)(hk:k<s.size)(hd:lp s[k]=true)(hb:10*n+(s[k].toNat - 48)<=9223372036854775807):J2 s (k+1) (10*n+(s[k].toNat - 48)):=by
 obtain⟨h1,h2,h3⟩:=h;refine⟨by rw[Oq s k hk,Mc,<-h1],hb,fun j c hj hc=>?_⟩;by_cases e:j=k
 .subst e;rw[pP s j hk] at hc;injection hc with hc;rw[<-hc];exact hd
 .exact h3 j c (by omega) hc
theorem Lc{s:ByteArray}{k n:Nat}(h:J2 s k n)(hk:k<s.size)(hb:9223372036854775807<10*n+(s[k].toNat - 48)):fx (bl s)=false:=by apply Py;have:=P6 (bl s) (k+1);rw[Oq s k hk,Mc,<-h.1] at this;omega
theorem NH{s:ByteArray}{n:Nat}(h:J2 s s.size n)(h0:0<s.size)(h1:s.size=1∨(bl s)[0]? ≠some 48):fx (bl s)=true:=by
 obtain⟨h1',h2,h3⟩:=h;apply Pz
 .intro e;have:=dt s;rw[e] at this;simp at this;omega
 .rcases h1 with h|h
  .left;rw[dt];exact h
  .right;exact h
 .rw[List.all_eq_true];intro c hc;obtain⟨j,hj⟩:=List.getElem?_of_mem hc;have:j< (bl s).length:=(gl.1 hj).1;exact h3 j c (by rw[<-dt s];exact this) hj
 .rw[List.take_of_length_le (by rw[dt];exact ah _)] at h1';omega
theorem Jk.intro{b b':Bool}{w:World}(x:Int)(h:b'=b):Jk b w (.returned (.tuple #[.int .i64 x,.bool b'])) w:=⟨rfl,x,by rw[h]⟩
theorem Lo(s:ByteArray)(w:World)(hs:s.size<=9223372036854775806):Calls Tryz.prog 142 #[.string s] w (Jk (fx (bl s)) w):=by
 by_cases h0:s.size=0
 .have he:s.toList=[]:=(by rw[bG];exact List.eq_nil_of_length_eq_zero h0);have hi:Hid (fx (bl s)=false):=(by show _=_;rw[<-bG,he];rfl);clear h0
  go_in
  go_wp2
  go_ret2
  exact Jk.intro _ hi.out.symm
 .have he:(s.toList.isEmpty)=false:=by rw[bG];cases hh:bl s with|nil=>exact absurd (by rw[<-dt,hh];rfl) h0|cons a l=>rfl
  have hpos:0<s.size:=(by omega);clear h0;by_cases hz:1<s.size/\s[0].toNat=48
  .obtain⟨hz1,hz2⟩:=hz;have hi:Hid (fx (bl s)=false):=Nr (by rw[dt];exact hz1) (by rw[pP s 0 hpos];exact congrArg some (UInt8.toNat_inj.1 (by rw[hz2];rfl)));have hz3:((s[0].toNat:Int) == 48)=true:=(by simp[hz2]);clear hz2
   go_in
   go_wp2
   go_ret2
   exact Jk.intro _ hi.out.symm
  .have HZ:Hid (s.size=1∨(bl s)[0]? ≠some 48):=by
    show _∨_;by_cases h1:s.size=1
    .exact .inl h1
    .right;rw[pP s 0 hpos];intro e;injection e with e;exact hz ⟨by omega,by rw[e];rfl⟩
   by_cases h1:1<s.size;all_goals
    have hz3:(((s[0].toNat:Nat):Int) == 48)=false∨¬1<s.size:=by
     by_cases h1:1<s.size
     .left;simp;intro e;exact hz ⟨h1,by omega⟩
     .exact .inr h1
    clear hz;first
     |(have hz4:(((s[0].toNat:Nat):Int) == 48)=false:=hz3.resolve_right (fun h=>h h1);clear hz3)
     |(clear hz3)
    go_in
    go_wp2
    go_loop [4,5] (fun m i=>∃k n:Nat,k<=s.size/\i= .int .i64 k/\m= .int .u64 n/\Hid (J2 s k n)) (fun _ i=>s.size - (intOf i).toNat)
    case atStart=>exact⟨0,0,aE _,rfl,rfl,rfl,by omega,fun j c h=>by omega⟩
    case round=>
     obtain⟨k,n,hk,rfl,rfl,HI⟩:=hrel;have hn1:n<=9223372036854775807:=HI.out.2.1;by_cases hlt:k<s.size
     .cases hd:lp s[k] with
      |false=>
       have hi:Hid (fx (bl s)=false):=Nq (pP s k hlt) hd;go_wp2_with (go_at_call 141;refine(zb _ _).mono ?_;rintro e w' ⟨rfl,rfl⟩)
       go_ret2
       exact Jk.intro _ hi.out.symm
      |true=>
       have HD:=ab hd;have hd1:=(KX.1 hd).1;have hd2:=(KX.1 hd).2;clear hd;by_cases hb:n<=922337203685477580
       .by_cases hb2:10*n+(s[k].toNat - 48)<=9223372036854775807
        .have HN:=ab (NI HI.out hlt HD.out hb2);go_wp2_with (go_at_call 141;refine(zb _ _).mono ?_;rintro e w' ⟨rfl,rfl⟩;rw[HD.out])
         go_round
         case rel=>exact⟨k+1,10*n+(s[k].toNat - 48),by omega,by go_num,by congr 1;omega,HN⟩
         case measure=>simp[intOf];omega
        .have hi:Hid (fx (bl s)=false):=Lc HI.out hlt (by omega);go_wp2_with (go_at_call 141;refine(zb _ _).mono ?_;rintro e w' ⟨rfl,rfl⟩;rw[HD.out])
         go_ret2
         exact Jk.intro _ hi.out.symm
       .have hi:Hid (fx (bl s)=false):=Lc HI.out hlt (by omega);go_wp2_with (go_at_call 141;refine(zb _ _).mono ?_;rintro e w' ⟨rfl,rfl⟩;rw[HD.out])
        go_ret2
        exact Jk.intro _ hi.out.symm
     .obtain rfl:k=s.size:=(by omega);have hi:Hid (fx (bl s)=true):=NH HI.out hpos HZ.out;go_wp2
      go_ret2
      exact Jk.intro _ hi.out.symm
def Jj(b:Bool)(w:World)(e:Ending)(w':World):Prop:=e= .returned (.bool b)/\Below w.heap.size w w'
theorem Jj.intro{b b':Bool}{w w':World}(h:b'=b)(hb:Below w.heap.size w w'):Jj b w (.returned (.bool b')) w':=⟨by rw[h],hb⟩
theorem L9{s:ByteArray}(h:0<s.size):∃r,bl s=s[0] ::r:=⟨(bl s).drop 1,by have:=uu s 0 h;simpa using this⟩
theorem PD{s:ByteArray}(h:24<s.size):be (bl s)=false:=by obtain⟨r,hr⟩:=L9 (s:=s) (by omega);have hl:=dt s;rw[hr] at hl ⊢;simp only[be];rw[hl];simp[Nat.not_le.2 h]
theorem PC{s:ByteArray}(h:0<s.size)(hc:gh s[0]=false):be (bl s)=false:=by obtain⟨r,hr⟩:=L9 (s:=s) (by omega);rw[hr];simp[be,hc]
theorem PE{s:ByteArray}(hw:sa iu (bl s)=true):be (bl s)=false:=by
 unfold sa at hw;cases hr:bl s with
 |nil=>rfl
 |cons a l=>rw[hr] at hw;simp only[be,hw];simp
theorem PA{s:ByteArray}{k:Nat}(h:k<s.size)(hc:eI s[k]=false):be (bl s)=false:=by
 have hm:=List.mem_of_getElem? (pP s k h);cases hr:bl s with
 |nil=>rfl
 |cons a l=>
  rw[hr] at hm;have:(a::l).all eI=false:=by rw[List.all_eq_false];exact⟨_,hm,by simp[hc]⟩
  simp only[be,this];simp
theorem PB{s:ByteArray}(h0:0<s.size)(h1:s.size<=24)(h2:gh s[0]=true)(h3:sa iu (bl s)=false)(h4:∀j (h:j<s.size),eI s[j]=true):be (bl s)=true:=by
 unfold sa at h3;have ha:(bl s).all eI=true:=by rw[List.all_eq_true];intro c hc;obtain⟨j,hj⟩:=List.getElem?_of_mem hc;have hl:j<s.size:=(gl.1 hj).1;rw[pP s j hl] at hj;injection hj with hj;rw[<-hj];exact h4 j hl
 obtain⟨r,hr⟩:=L9 h0;have hl:=dt s;rw[hr] at hl ha h3 ⊢;simp only[be,hl,h2,ha,h3];simp[h1]
theorem Mp(s:ByteArray)(w:World)(hs:s.size<=9223372036854775806):Calls Tryz.prog 145 #[.string s] w (Jj (be (bl s)) w):=by
 by_cases h0:s.size=0
 .have he:s.toList=[]:=(by rw[bG];exact List.eq_nil_of_length_eq_zero h0);have hi:Hid (be (bl s)=false):=(by show _=_;rw[<-bG,he];rfl);clear h0
  go_in
  go_wp2;go_ret;exact Jj.intro hi.out.symm (ai _ _)
 .have he:(s.toList.isEmpty)=false:=by rw[bG];cases hh:bl s with|nil=>exact absurd (by rw[<-dt,hh];rfl) h0|cons a l=>rfl
  have hpos:0<s.size:=(by omega);clear h0;by_cases h24:24<s.size
  .have hi:=ab (PD h24)
   go_in
   go_wp2;go_ret;exact Jj.intro hi.out.symm (ai _ _)
  .have h24':s.size<=24:=(by omega);clear h24;cases hc:gh s[0] with
   |false=>
    have hi:=ab (PC hpos hc);have HC:=ab hc;clear hc
    go_in
    go_wp2_with (go_at_call 140;refine(Jv _ _).mono ?_;rintro e w' ⟨rfl,rfl⟩;rw[HC.out]);go_ret;exact Jj.intro hi.out.symm (ai _ _)
   |true=>
    have HC:=ab hc;clear hc;cases hw:sa iu (bl s) with
    |true=>
     have hi:=ab (PE hw);have HW:=ab hw;clear hw
     go_in
     go_wp2_with (first|(go_at_call 140;refine(Jv _ _).mono ?_;rintro e w' ⟨rfl,rfl⟩;rw[HC.out])|(go_at_call 144;refine(Kn _).mono ?_;rintro e w1 ⟨A1,rfl,hrow,hbel,hnew⟩)|(go_at_call 143;refine(Kl _ _ _ _ _ _ hrow (by omega)).mono ?_;rintro e w' ⟨rfl,rfl⟩;rw[HW.out]));go_ret;exact Jj.intro hi.out.symm hbel
    |false=>
     have HW:=ab hw;clear hw
     go_in
     go_wp2_with (first|(go_at_call 140;refine(Jv _ _).mono ?_;rintro e w' ⟨rfl,rfl⟩;rw[HC.out])|(go_at_call 144;refine(Kn _).mono ?_;rintro e w1 ⟨A1,rfl,hrow,hbel,hnew⟩)|(go_at_call 143;refine(Kl _ _ _ _ _ _ hrow (by omega)).mono ?_;rintro e w' ⟨rfl,rfl⟩;rw[HW.out]))
     go_loop [3] (fun i=>∃k:Nat,k<=s.size/\i= .int .i64 k/\Hid (∀j (h:j<s.size),j<k->eI s[j]=true)) (fun i=>s.size - (intOf i).toNat)
     case atStart=>exact⟨0,aE _,rfl,fun j _ h=>by omega⟩
     case round=>
      obtain⟨k,hk,rfl,HI⟩:=hrel;by_cases hlt:k<s.size
      .cases hl:gh s[k] with
       |true=>
        have HL:=ab hl;have HN:Hid (∀j (h:j<s.size),j<k+1->eI s[j]=true):=by
         intro j h hj;by_cases e:j=k
         .subst e;simp[eI,hl]
         .exact HI.out j h (by omega)
        clear hl;go_wp2_with (go_at_call 140;refine(Jv _ _).mono ?_;rintro e w' ⟨rfl,rfl⟩;rw[HL.out])
        go_round
        case rel=>exact⟨k+1,by omega,by go_num,HN⟩
        case measure=>simp[intOf];omega
       |false=>
        have HL:=ab hl;cases hd:lp s[k] with
        |true=>
         have HD:=ab hd;have HN:Hid (∀j (h:j<s.size),j<k+1->eI s[j]=true):=by
          intro j h hj;by_cases e:j=k
          .subst e;simp[eI,hd]
          .exact HI.out j h (by omega)
         clear hl hd;go_wp2_with (first|(go_at_call 140;refine(Jv _ _).mono ?_;rintro e w' ⟨rfl,rfl⟩;rw[HL.out])|(go_at_call 141;refine(zb _ _).mono ?_;rintro e w' ⟨rfl,rfl⟩;rw[HD.out]))
         go_round
         case rel=>exact⟨k+1,by omega,by go_num,HN⟩
         case measure=>simp[intOf];omega
        |false=>have HD:=ab hd;have hi:=ab (PA hlt (by simp[eI,hl,hd]));clear hl hd;go_wp2_with (first|(go_at_call 140;refine(Jv _ _).mono ?_;rintro e w' ⟨rfl,rfl⟩;rw[HL.out])|(go_at_call 141;refine(zb _ _).mono ?_;rintro e w' ⟨rfl,rfl⟩;rw[HD.out]));go_ret;exact Jj.intro hi.out.symm hbel
      .have hi:=ab (PB hpos h24' HC.out HW.out (fun j h=>HI.out j h (by omega)));go_wp2;go_ret;exact Jj.intro hi.out.symm hbel
def OM(n:Nat)(w:World)(e:Ending)(w':World):Prop:=w=w'/\e= .returned (.tuple #[.int .i64 n,.bool true])
theorem QW(s:ByteArray)(w:World)(hs:s.size<=9223372036854775806)(hI:fx (bl s)=true):Calls Tryz.prog 142 #[.string s] w (OM (qd (bl s)) w):=by
 have HII:=ab hI;clear hI;by_cases h0:s.size=0
 .have he:s.toList=[]:=(by rw[bG];exact List.eq_nil_of_length_eq_zero h0);have hi:Hid (fx (bl s)=false):=(by show _=_;rw[<-bG,he];rfl);clear h0
  go_in
  go_wp2
  go_ret2
  exact absurd (hi.out.symm.trans HII.out) (by simp)
 .have he:(s.toList.isEmpty)=false:=by rw[bG];cases hh:bl s with|nil=>exact absurd (by rw[<-dt,hh];rfl) h0|cons a l=>rfl
  have hpos:0<s.size:=(by omega);clear h0;by_cases hz:1<s.size/\s[0].toNat=48
  .obtain⟨hz1,hz2⟩:=hz;have hi:Hid (fx (bl s)=false):=Nr (by rw[dt];exact hz1) (by rw[pP s 0 hpos];exact congrArg some (UInt8.toNat_inj.1 (by rw[hz2];rfl)));have hz3:((s[0].toNat:Int) == 48)=true:=(by simp[hz2]);clear hz2
   go_in
   go_wp2
   go_ret2
   exact absurd (hi.out.symm.trans HII.out) (by simp)
  .have HZ:Hid (s.size=1∨(bl s)[0]? ≠some 48):=by
    show _∨_;by_cases h1:s.size=1
    .exact .inl h1
    .right;rw[pP s 0 hpos];intro e;injection e with e;exact hz ⟨by omega,by rw[e];rfl⟩
   by_cases h1:1<s.size;all_goals
    have hz3:(((s[0].toNat:Nat):Int) == 48)=false∨¬1<s.size:=by
     by_cases h1:1<s.size
     .left;simp;intro e;exact hz ⟨h1,by omega⟩
     .exact .inr h1
    clear hz;first
     |(have hz4:(((s[0].toNat:Nat):Int) == 48)=false:=hz3.resolve_right (fun h=>h h1);clear hz3)
     |(clear hz3)
    go_in
    go_wp2
    go_loop [4,5] (fun m i=>∃k n:Nat,k<=s.size/\i= .int .i64 k/\m= .int .u64 n/\Hid (J2 s k n)) (fun _ i=>s.size - (intOf i).toNat)
    case atStart=>exact⟨0,0,aE _,rfl,rfl,rfl,by omega,fun j c h=>by omega⟩
    case round=>
     obtain⟨k,n,hk,rfl,rfl,HI⟩:=hrel;have hn1:n<=9223372036854775807:=HI.out.2.1;by_cases hlt:k<s.size
     .cases hd:lp s[k] with
      |false=>
       have hi:Hid (fx (bl s)=false):=Nq (pP s k hlt) hd;go_wp2_with (go_at_call 141;refine(zb _ _).mono ?_;rintro e w' ⟨rfl,rfl⟩)
       go_ret2
       exact absurd (hi.out.symm.trans HII.out) (by simp)
      |true=>
       have HD:=ab hd;have hd1:=(KX.1 hd).1;have hd2:=(KX.1 hd).2;clear hd;by_cases hb:n<=922337203685477580
       .by_cases hb2:10*n+(s[k].toNat - 48)<=9223372036854775807
        .have HN:=ab (NI HI.out hlt HD.out hb2);go_wp2_with (go_at_call 141;refine(zb _ _).mono ?_;rintro e w' ⟨rfl,rfl⟩;rw[HD.out])
         go_round
         case rel=>exact⟨k+1,10*n+(s[k].toNat - 48),by omega,by go_num,by congr 1;omega,HN⟩
         case measure=>simp[intOf];omega
        .have hi:Hid (fx (bl s)=false):=Lc HI.out hlt (by omega);go_wp2_with (go_at_call 141;refine(zb _ _).mono ?_;rintro e w' ⟨rfl,rfl⟩;rw[HD.out])
         go_ret2
         exact absurd (hi.out.symm.trans HII.out) (by simp)
       .have hi:Hid (fx (bl s)=false):=Lc HI.out hlt (by omega);go_wp2_with (go_at_call 141;refine(zb _ _).mono ?_;rintro e w' ⟨rfl,rfl⟩;rw[HD.out])
        go_ret2
        exact absurd (hi.out.symm.trans HII.out) (by simp)
     .obtain rfl:k=s.size:=(by omega);have hi:Hid (fx (bl s)=true):=NH HI.out hpos HZ.out;go_wp2
      go_ret2
      exact⟨rfl,by rw[HI.out.1,List.take_of_length_le (by rw[dt];exact ah _)];rfl⟩
theorem d8.leaf{B r:Nat}{toks:List bi}{i o:Nat}{w:World}(HS:ca B w r toks i o)(hn:i+1<toks.length)(k:Nat)(s:ar)(x:Int)(hk:k<=255)(hs:s.length<=100000)(hx:tw x)(O1 O2:Obj):d8 B r toks (.node k s x []) (i+1) o w (.returned (.agg #[.int .u8 k,.string (sb s),.int .i64 x,.slice none 0 0])) ((((w.setCell ⟨r,1,none⟩ (.int .i64 (i+1))).alloc O1).alloc O2).drew):=by have h0:=HS.setAt hn;have hb:Below (w.setCell ⟨r,1,none⟩ (.int .i64 ((i+1:Nat):Int))).heap.size (w.setCell ⟨r,1,none⟩ (.int .i64 ((i+1:Nat):Int))) ((((w.setCell ⟨r,1,none⟩ (.int .i64 ((i+1:Nat):Int))).alloc O1).alloc O2).drew):=(bz_alloc (bz_alloc (ai _ _) _) _).drew;exact⟨(a9.set _).trans (a9.below hb),h0.own (hb.mono h0.wB),none,0,rfl,L4 k s x hk hs hx⟩
theorem PP{r i:Nat}{w:World}{k:Nat}{s:ByteArray}{x:Int}{v:Value}{O2:Obj}:nh ((((w.setCell ⟨r,1,none⟩ v).alloc (.cells #[.int .u8 k,.string s,.int .i64 x,.slice none 0 0] 25)).alloc O2).drew) w.heap.size (.int .u8 k) (.string s) (.int .i64 x) (.slice none 0 0):=
 di (show((((w.setCell ⟨r,1,none⟩ v).alloc (.cells #[.int .u8 k,.string s,.int .i64 x,.slice none 0 0] 25)).alloc O2)).heap[w.heap.size]? =_ from(heap_alloc_old _ _ (by simp)).trans (heap_alloc_at (by simp)))
theorem Pj{s:ar}(h:fx s=true):tw (qd s):=by
 unfold tw;cases s with
 |nil=>simp[fx] at h
 |cons c l=>simp only[fx,Bool.and_eq_true,decide_eq_true_eq] at h;omega
theorem Q0(B r:Nat)(toks:List bi)(i o:Nat)(t:bi)(w:World)(h:ca B w r toks i o)(hF:ii toks)(ht:toks[i]? =some t)(hk:t.kind=3)(hI:fx t.text=true):Calls Tryz.prog 234 #[.pointer (some ⟨r,0,none⟩)] w (d8 B r toks (.node 20 [] (qd t.text) []) (i+1) o w):=by
 obtain⟨g,c,t',h0,hg,ht',t0,t1,t2⟩:=h.tok;rw[ht] at ht';injection ht' with ht';subst ht';rw[hk] at t0;have h1:=h.c1;have h3:=h.c3;have hi:=h.hi;have hlen:=h.len;have hrl:r<w.heap.size:=fJ h.rB h.wB;have hgs:=bK t0;have hf:=h.fz 1;have HN:Hid (i+1<toks.length):=hF.nx i t ht (by omega);have HX:Hid (fx (bl (sb t.text))=true):=(by rw[tq];exact hI);have HL:Hid (t.text.length<=100000):=hF.tx t (List.mem_of_getElem? ht);have HS:=ab h;have HFI:=ab (Pj hI);clear h hF hI ht
 go_in
 go_upto_region 1 with fail
 go_region
 all_goals
  go_wp2_with fail;refine(QW (sb t.text) _ (by have:=HL.out;show t.text.toArray.size<=_;simp;omega) HX.out).mono ?_;rintro e w' ⟨rfl,rfl⟩;rw[tq];go_wp2_with fail;obtain⟨a0,a1,a2,a3,_⟩:=PP (r:=r) (i:=i) (w:=w) (k:=20) (s:=⟨#[]⟩) (x:=qd t.text) (v:=.int .i64 (i+1)) (O2:=.cells #[.int .u8 3,.string (sb t.text),.int .i64 t.pos] 115);exact bodyPost_ret (v:=.agg #[.int .u8 20,.string ⟨#[]⟩,.int .i64 (qd t.text),.slice none 0 0]) (by simp[results,Tryz.results234,go_sem,a0,a1,a2,a3]) rfl (d8.leaf HS.out HN.out 20 [] _ (by omega) (by simp) HFI.out _ _)
theorem Q1(B r:Nat)(toks:List bi)(i o:Nat)(t:bi)(w:World)(h:ca B w r toks i o)(hF:ii toks)(ht:toks[i]? =some t)(hk:t.kind=1)(hI:a8 toks (i+1) [40]=false):Calls Tryz.prog 234 #[.pointer (some ⟨r,0,none⟩)] w (d8 B r toks (.node 22 t.text 0 []) (i+1) o w):=by
 obtain⟨g,c,t',h0,hg,ht',t0,t1,t2⟩:=h.tok;rw[ht] at ht';injection ht' with ht';subst ht';rw[hk] at t0;have h1:=h.c1;have h3:=h.c3;have hi:=h.hi;have hlen:=h.len;have hrl:r<w.heap.size:=fJ h.rB h.wB;have hgs:=bK t0;have hf:=h.fz 1;have HN:Hid (i+1<toks.length):=hF.nx i t ht (by omega);have HL:Hid (t.text.length<=100000):=hF.tx t (List.mem_of_getElem? ht);have HS:=ab h;have HX:Hid (a8 toks (i+1) (bl ⟨#[40]⟩)=false):=hI;clear h hF hI ht;have HSW:Hid (ca B ((((w.setCell ⟨r,1,none⟩ (.int .i64 (i+1))).alloc (.cells Z4 25)).alloc (.cells #[.int .u8 1,.string (sb t.text),.int .i64 t.pos] 115)).drew) r toks (i+1) o):=by have h0:=HS.out.setAt HN.out;have hb:Below (w.setCell ⟨r,1,none⟩ (.int .i64 ((i+1:Nat):Int))).heap.size (w.setCell ⟨r,1,none⟩ (.int .i64 ((i+1:Nat):Int))) (((((w.setCell ⟨r,1,none⟩ (.int .i64 ((i+1:Nat):Int))).alloc (.cells Z4 25)).alloc (.cells #[.int .u8 1,.string (sb t.text),.int .i64 t.pos] 115)).drew)):=(bz_alloc (bz_alloc (ai _ _) _) _).drew;exact h0.own (hb.mono h0.wB)
 have HRW:Hid (a9 r w ((((w.setCell ⟨r,1,none⟩ (.int .i64 (i+1))).alloc (.cells Z4 25)).alloc (.cells #[.int .u8 1,.string (sb t.text),.int .i64 t.pos] 115)).drew)):=(a9.set _).trans (a9.below (bz_alloc (bz_alloc (ai _ _) _) _).drew);have HBX:Hid (((((w.setCell ⟨r,1,none⟩ (.int .i64 (i+1))).alloc (.cells Z4 25)).alloc (.cells #[.int .u8 1,.string (sb t.text),.int .i64 t.pos] 115)).drew).heap[w.heap.size]? =some (.cells Z4 25 (0,0))):=(heap_alloc_old _ _ (by simp)).trans (heap_alloc_at (by simp));have HTX:Hid (((((w.setCell ⟨r,1,none⟩ (.int .i64 (i+1))).alloc (.cells Z4 25)).alloc (.cells #[.int .u8 1,.string (sb t.text),.int .i64 t.pos] 115)).drew).heap[w.heap.size+1]? =some (.cells #[.int .u8 1,.string (sb t.text),.int .i64 t.pos] 115 (0,0))):=heap_alloc_at (by simp)
 go_in
 go_upto_region 1 with fail
 go_region
 all_goals
  go_wp2_with fail;refine(fh B toks r (i+1) o _ _ HSW.out).mono ?_;rintro e w1 ⟨rfl,hb⟩;rw[HX.out];have hbox:=(hb.block _ (aK.1 HBX.out).1).trans HBX.out;have htk:=(hb.block _ (aK.1 HTX.out).1).trans HTX.out;have HS1:=ab (HSW.out.own (hb.mono HSW.out.wB));have HR1:=ab (HRW.out.trans (a9.below hb));clear hb;obtain⟨c0,c1,c2,c3,f0,f1,f2,f3⟩:=di hbox;obtain⟨d0,d1,d2,_⟩:=Jc htk;clear hbox htk;go_wp2_with fail;obtain⟨a0,a1,a2,a3⟩:=mL (v0:=.int .u8 22) (v1:=.string (sb t.text)) (v2:=.int .i64 0) (v3:=.slice none 0 0) c0 c1 c2 c3;exact bodyPost_ret (v:=.agg #[.int .u8 22,.string (sb t.text),.int .i64 0,.slice none 0 0]) (by simp[results,Tryz.results234,go_sem,a0,a1,a2,a3]) rfl (d8.put (t:=.node 22 t.text 0 []) HR1.out HS1.out HS.out.wB (L4 22 t.text 0 (by omega) HL.out (by unfold tw;omega)) _ _ _ _)
theorem QZ(B r:Nat)(toks:List bi)(i o:Nat)(t:bi)(w:World)(h:ca B w r toks i o)(hF:ii toks)(ht:toks[i]? =some t)(hk:t.kind=1)(hI:a8 toks (i+1) [40]=true)(f j:Nat)(u:ag)(hC:Ku B r toks f)(hp:JU toks f t.text (i+1)=some (u,j))(hf:o+f<=118):Calls Tryz.prog 234 #[.pointer (some ⟨r,0,none⟩)] w (d8 B r toks u j o w):=by
 obtain⟨g,c,t',h0,hg,ht',t0,t1,t2⟩:=h.tok;rw[ht] at ht';injection ht' with ht';subst ht';rw[hk] at t0;have h1:=h.c1;have h3:=h.c3;have hi:=h.hi;have hlen:=h.len;have hrl:r<w.heap.size:=fJ h.rB h.wB;have hgs:=bK t0;have hf:=h.fz 1;have HN:Hid (i+1<toks.length):=hF.nx i t ht (by omega);have HL:Hid (t.text.length<=100000):=hF.tx t (List.mem_of_getElem? ht);have HS:=ab h;have HX:Hid (a8 toks (i+1) (bl ⟨#[40]⟩)=true):=hI;have HC:=ab hC;have HP:=ab hp;clear h hF hI ht hC hp;have HSW:Hid (ca B ((((w.setCell ⟨r,1,none⟩ (.int .i64 (i+1))).alloc (.cells Z4 25)).alloc (.cells #[.int .u8 1,.string (sb t.text),.int .i64 t.pos] 115)).drew) r toks (i+1) o):=by have h0:=HS.out.setAt HN.out;have hb:Below (w.setCell ⟨r,1,none⟩ (.int .i64 ((i+1:Nat):Int))).heap.size (w.setCell ⟨r,1,none⟩ (.int .i64 ((i+1:Nat):Int))) (((((w.setCell ⟨r,1,none⟩ (.int .i64 ((i+1:Nat):Int))).alloc (.cells Z4 25)).alloc (.cells #[.int .u8 1,.string (sb t.text),.int .i64 t.pos] 115)).drew)):=(bz_alloc (bz_alloc (ai _ _) _) _).drew;exact h0.own (hb.mono h0.wB)
 have HRW:Hid (a9 r w ((((w.setCell ⟨r,1,none⟩ (.int .i64 (i+1))).alloc (.cells Z4 25)).alloc (.cells #[.int .u8 1,.string (sb t.text),.int .i64 t.pos] 115)).drew)):=(a9.set _).trans (a9.below (bz_alloc (bz_alloc (ai _ _) _) _).drew);have HBX:Hid (((((w.setCell ⟨r,1,none⟩ (.int .i64 (i+1))).alloc (.cells Z4 25)).alloc (.cells #[.int .u8 1,.string (sb t.text),.int .i64 t.pos] 115)).drew).heap[w.heap.size]? =some (.cells Z4 25 (0,0))):=(heap_alloc_old _ _ (by simp)).trans (heap_alloc_at (by simp));have HTX:Hid (((((w.setCell ⟨r,1,none⟩ (.int .i64 (i+1))).alloc (.cells Z4 25)).alloc (.cells #[.int .u8 1,.string (sb t.text),.int .i64 t.pos] 115)).drew).heap[w.heap.size+1]? =some (.cells #[.int .u8 1,.string (sb t.text),.int .i64 t.pos] 115 (0,0))):=heap_alloc_at (by simp)
 go_in
 go_upto_region 1 with fail
 go_region
 all_goals
  go_wp2_with fail;refine(fh B toks r (i+1) o _ _ HSW.out).mono ?_;rintro e w1 ⟨rfl,hb⟩;rw[HX.out];have HBX1:=ab ((hb.block _ (aK.1 HBX.out).1).trans HBX.out);have htk:=(hb.block _ (aK.1 HTX.out).1).trans HTX.out;have HS1:=ab (HSW.out.own (hb.mono HSW.out.wB));have HR1:=ab (HRW.out.trans (a9.below hb));clear hb;obtain⟨d0,d1,d2,_⟩:=Jc htk;clear htk;go_wp2_with fail;refine(HC.out (i+1) o j t.text u _ HP.out HL.out HS1.out (by omega)).mono ?_;rintro e w2 ⟨hr2,hs2,A,c,rfl,hn2⟩;have hbox:=hr2.box HBX1.out HS.out.ne;have HS2:=ab hs2;have HR2:=ab (HR1.out.trans hr2);have HN2:Hid (cf (cX w2 (w.heap.size+1)) u u.kind (sb u.text) u.num A u.kids.length c):=hn2.sinceLow (aK.1 HBX1.out).1;clear hr2 hs2 hn2;obtain⟨c0,c1,c2,c3,f0,f1,f2,f3⟩:=di hbox;clear hbox;go_wp2_with fail;obtain⟨a0,a1,a2,a3⟩:=mL (v0:=.int .u8 u.kind) (v1:=.string (sb u.text)) (v2:=.int .i64 u.num) (v3:=.slice A u.kids.length c) c0 c1 c2 c3;exact bodyPost_ret (v:=.agg #[.int .u8 u.kind,.string (sb u.text),.int .i64 u.num,.slice A u.kids.length c]) (by simp[results,Tryz.results234,go_sem,a0,a1,a2,a3]) rfl (d8.put HR2.out HS2.out HS.out.wB HN2.out _ _ _ _)
theorem QY(B r:Nat)(toks:List bi)(f:Nat)(hF:ii toks)(hC:∀m,m<f->Ku B r toks m):LB B r toks f:=by
 intro i o j t w hp h hf;obtain⟨m,rfl⟩:∃m,f=m+1:=by cases f with|zero=>simp[KG] at hp|succ m=>exact⟨m,rfl⟩
 rw[KG] at hp;cases ht:toks[i]? with
 |none=>rw[ht] at hp;simp at hp
 |some x=>
 rw[ht] at hp;simp only[] at hp;split at hp
 .next hk=>
  split at hp
  .next hI=>
   simp only[Option.some.injEq,Prod.mk.injEq] at hp;obtain⟨e1,e2⟩:=hp;rw[<-e1,<-e2];exact Q0 B r toks i o x w h hF ht hk hI
  .simp at hp
 .split at hp
  .next hk=>
   split at hp
   .next hI=>exact QZ B r toks i o x w h hF ht hk hI m j t (hC m (by omega)) hp (by omega)
   .next hI=>
    simp only[Option.some.injEq,Prod.mk.injEq] at hp;obtain⟨e1,e2⟩:=hp;rw[<-e1,<-e2];exact Q1 B r toks i o x w h hF ht hk (by simpa using hI)
  .simp at hp
def jh(R:List Value)(q:Nat):Bool:=decide (q∈aW R)
mutual
theorem cJ.onlyR {w:World}:∀{t:ag} {b o:Nat} {R S:List Value},cJ w t b o->rc w t b o R->(∀q∈aW R,q∈aW S)->∃A c,w.cell? ⟨b,o+3,none⟩=some (.slice A t.kids.length c)/\ce (fS w (jh S)) t.kids A t.kids.length c
 | .node k s x ks,b,o,R,S,h,hR,hS=>by
  simp only[cJ] at h;obtain⟨h0,h1,h2,g0,g1,g2,A,c,h3,g3,g4,g5⟩:=h;obtain⟨A',c',h3',R',rfl,hR'⟩:=hR;rw[h3] at h3';injection h3' with h3';injection h3' with e1 _ e3;subst e1 e3;refine⟨A,c,h3,rfl,g3,g4,?_⟩;rcases hR' with ⟨rfl,_⟩|⟨g,rfl,hR'⟩
  .exact .inl rfl
  .rcases g5 with g5|⟨b',o',e,g5⟩
   .exact .inl g5
   .injection e with e;injection e with e1 e2;subst e1 e2;refine .inr ⟨g,0,rfl,bk.onlyR g5 hR' (fun q hq=>hS q (by simp only[aW,List.filterMap_cons,Value.ownBlock];exact List.mem_cons_of_mem _ hq)) (hS g (by simp[aW,Value.ownBlock]))⟩
theorem bk.onlyR {w:World}:∀{ts:List ag} {b o:Nat} {R S:List Value},bk w ts b o->cR w ts b o R->(∀q∈aW R,q∈aW S)->b∈aW S->bk (fS w (jh S)) ts b o
 |[],_,_,_,_,_,_,_,_=>by simp[bk]
 |t::ts,b,o,R,S,h,hR,hS,hb=>by simp only[bk] at h ⊢;obtain⟨R1,R2,rfl,h1,h2⟩:=hR;rw[gg] at hS;obtain⟨A,c,h3,hk⟩:=cJ.onlyR h.1 h1 (S:=S) (fun q hq=>hS q (List.mem_append_left _ hq));obtain⟨A',c',t0,t1,t2,t3,_,b1,b2,b3⟩:=h.1.parts;have hb':jh S b=true:=(by simp[jh,hb]);exact⟨cJ.of (fD.2 ⟨hb',t0⟩) (fD.2 ⟨hb',t1⟩) (fD.2 ⟨hb',t2⟩) (fD.2 ⟨hb',h3⟩) hk b1 b2 b3,bk.onlyR h.2 h2 (fun q hq=>hS q (List.mem_append_right _ hq)) hb⟩
end
def JK(w:World)(S:Nat->Bool)(t:ag)(xs:List Value)(j:Nat):Prop:=∃A c,xs[j]? =some (.int .u8 t.kind)/\xs[j+1]? =some (.string (sb t.text))/\xs[j+2]? =some (.int .i64 t.num)/\xs[j+3]? =some (.slice A t.kids.length c)/\ce (fS w S) t.kids A t.kids.length c/\t.kind<=255/\t.text.length<=maxLen/\tw t.num
def ez(w:World)(S:Nat->Bool)(ks:List ag)(xs:List Value):Prop:=xs.length=ks.length*4/\∀i t,ks[i]? =some t->JK w S t xs (i*4)
theorem JK.keep{w w':World}{S S':Nat->Bool}{t:ag}{xs:List Value}{j:Nat}(h:JK w S t xs j)(hk:∀q,S q=true->S' q=true/\w'.heap[q]? =w.heap[q]?):JK w' S' t xs j:=by obtain⟨A,c,h0,h1,h2,h3,h4,h5⟩:=h;exact⟨A,c,h0,h1,h2,h3,ce.keep (fun a v hv=>by obtain⟨g1,g2⟩:=fD.1 hv;obtain⟨k1,k2⟩:=hk _ g1;exact fD.2 ⟨k1,by rw[World.cell?_of_block k2];exact g2⟩) h4,h5⟩
theorem ez.keep{w w':World}{S S':Nat->Bool}{ks:List ag}{xs:List Value}(h:ez w S ks xs)(hk:∀q,S q=true->S' q=true/\w'.heap[q]? =w.heap[q]?):ez w' S' ks xs:=⟨h.1,fun i t ht=>(h.2 i t ht).keep hk⟩
theorem JK.at{w:World}{S:Nat->Bool}{t:ag}{xs ys:List Value}{j j':Nat}(h:JK w S t xs j)(hy:∀i,i<4->ys[j'+i]? =xs[j+i]?):JK w S t ys j':=by obtain⟨A,c,h0,h1,h2,h3,h4⟩:=h;exact⟨A,c,(hy 0 (by omega)).trans h0,(hy 1 (by omega)).trans h1,(hy 2 (by omega)).trans h2,(hy 3 (by omega)).trans h3,h4⟩
theorem ez.append{w:World}{S:Nat->Bool}{ks us:List ag}{xs ys:List Value}(h:ez w S ks xs)(h':ez w S us ys):ez w S (ks++us) (xs++ys):=by
 obtain⟨h1,h2⟩:=h;obtain⟨h3,h4⟩:=h';refine⟨by simp[h1,h3];omega,fun i t ht=>?_⟩;by_cases hi:i<ks.length
 .rw[cM hi] at ht;exact(h2 i t ht).at fun j hj=>cM (by omega)
 .rw[eK (by omega)] at ht;have hl:i - ks.length<us.length:=(gl.1 ht).1;exact(h4 _ t ht).at fun j hj=>by rw[eK (by omega),h1];congr 1;omega
theorem ez.take{w:World}{S:Nat->Bool}{ks:List ag}{xs:List Value}(h:ez w S ks xs)(i:Nat):ez w S (ks.take i) (xs.take (i*4)):=by
 obtain⟨h1,h2⟩:=h;refine⟨by simp only[List.length_take,h1];omega,fun j t ht=>?_⟩;rw[List.getElem?_take] at ht;split at ht
 .exact(h2 j t ht).at fun m hm=>by rw[List.getElem?_take,if_pos (by omega)]
 .cases ht
theorem ez.drop{w:World}{S:Nat->Bool}{ks:List ag}{xs:List Value}(h:ez w S ks xs)(i:Nat):ez w S (ks.drop i) (xs.drop (i*4)):=by obtain⟨h1,h2⟩:=h;refine⟨by simp only[List.length_drop,h1];omega,fun j t ht=>?_⟩;rw[List.getElem?_drop] at ht;exact(h2 _ t ht).at fun m hm=>by rw[List.getElem?_drop];congr 1;omega
theorem ez.one{w:World}{S:Nat->Bool}{ks:List ag}{xs:List Value}(h:ez w S ks xs):∀v∈xs,v.oneCell'=true:=by
 intro v hv;obtain⟨j,hj,e⟩:=List.mem_iff_getElem.1 hv;have hl:=h.1;have hi:j / 4<ks.length:=(by omega);obtain⟨A,c,h0,h1,h2,h3,_⟩:=h.2 (j / 4) _ (br hi);have hj4:j=j / 4*4+j % 4:=(by omega);have hr:j % 4=0∨j % 4=1∨j % 4=2∨j % 4=3:=(by omega);have hx:xs[j]? =some v:=(by rw[br hj,e]);rcases hr with e|e|e|e<;>rw[e] at hj4<;>rw[hj4] at hx
 .rw[Nat.add_zero,h0] at hx;injection hx with hx;rw[<-hx];rfl
 .rw[h1] at hx;injection hx with hx;rw[<-hx];rfl
 .rw[h2] at hx;injection hx with hx;rw[<-hx];rfl
 .rw[h3] at hx;injection hx with hx;rw[<-hx];rfl
theorem ez.kids{w W:World}{S:Nat->Bool}{ks:List ag}{xs:List Value}{base N:Nat}{A:Option Addr}{c:Nat}(h:ez w S ks xs)(ho:W.ownsRow base 25 4 (.slice A ks.length c) ks.length xs)(hN:N<=base)(hk:∀q,S q=true->N<=q/\W.heap[q]? =w.heap[q]?):ce (cX W N) ks A ks.length c:=by
 obtain⟨A',c',e,h1,h2⟩:=t9 ho;injection e with e1 _ e3;subst e1 e3;refine⟨rfl,h1,h2,?_⟩;by_cases he:ks=[]
 .exact .inl he
 .obtain⟨g,rfl⟩:∃g,A=some ⟨g,0,none⟩:=by
   rcases ho.2 with ⟨e,h0⟩|⟨g,cap,cur,e,_⟩
   .exact absurd (List.eq_nil_of_length_eq_zero h0) he
   .injection e with e;exact⟨g,e⟩
  have hg:N<=g:=aJ hN (ho.lt g rfl).1;refine .inr ⟨g,0,rfl,bk.mk fun i t ht=>?_⟩;obtain⟨A2,c2,t0,t1,t2,t3,t4,t5,t6,t7⟩:=h.2 i t ht;rw[Nat.zero_add];refine cJ.of (i8.2 ⟨hg,bH ho _ _ t0⟩) (i8.2 ⟨hg,bH ho _ _ t1⟩) (i8.2 ⟨hg,bH ho _ _ t2⟩) (i8.2 ⟨hg,bH ho _ _ t3⟩) (ce.keep (fun a v hv=>?_) t4) t5 t6 t7;obtain⟨g1,g2⟩:=fD.1 hv;obtain⟨k1,k2⟩:=hk _ g1;exact i8.2 ⟨k1,by rw[World.cell?_of_block k2];exact g2⟩
theorem Cu.cellsN{W:World}{B:Nat}{u:ag}{g o:Nat}{Ru:List Value}(h:Cu W B u g o Ru):∃A c xs R',Ru= .slice A u.kids.length c::R'/\W.cell? ⟨g,o+3,none⟩=some (.slice A u.kids.length c)/\W.ownsRow B 25 4 (.slice A u.kids.length c) u.kids.length xs/\ez W (jh R') u.kids xs:=by
 obtain⟨k,s,x,ks⟩:=u;obtain⟨A,c,h3,R',rfl,hR⟩:=h.rows;obtain⟨n',xs,ho⟩:=h.own _ (List.mem_cons_self ..);obtain⟨A',c',e,_,_⟩:=t9 ho;injection e with _ e2 _;subst e2;refine⟨A,c,xs,R',rfl,(i8.1 h3).2,ho,ho.1,fun i t ht=>?_⟩;have ht:ks[i]? =some t:=ht;rcases hR with ⟨rfl,_⟩|⟨g',rfl,hR⟩
 .simp at ht
 .have hat:=h.at_;simp only[cJ] at hat;obtain⟨_,_,_,_,_,_,A2,c2,h3',_,_,g5⟩:=hat;rw[h3] at h3';injection h3' with h3';injection h3' with e1 _ e3;subst e1 e3;rcases g5 with rfl|⟨b',o',e,g5⟩
  .simp at ht
  .injection e with e;injection e with e1 e2;subst e1 e2;obtain⟨Rt,r1,_,r3,_⟩:=Cz.of hR ht;have hti:=g5.get ht;obtain⟨A3,c3,k3,hk⟩:=cJ.onlyR hti r1 (S:=R') (fun q hq=>by obtain⟨v,hv,e⟩:=eV hq;exact iR (r3 v hv) e)
   obtain⟨A4,c4,t0,t1,t2,t3,_,b1,b2,b3⟩:=hti.parts;rw[k3] at t3;injection t3 with t3;injection t3 with e1 _ e3;subst e1 e3;have hcell:∀j v,(cX W B).cell? ⟨g',0+i*4+j,none⟩=some v->j<4->xs[i*4+j]? =some v:=fun j v hv hj=>by have hl:i<ks.length:=(gl.1 ht).1;have:=ho.cellAt (i*4+j) (by show i*4+j<ks.length*4;omega);rw[<-this];have h2:=(i8.1 hv).2;rwa [Nat.zero_add] at h2
   refine⟨A3,c3,hcell 0 _ t0 (by omega),hcell 1 _ t1 (by omega),hcell 2 _ t2 (by omega),hcell 3 _ k3 (by omega),ce.keep (fun a v hv=>?_) hk,b1,b2,b3⟩;obtain⟨g1,g2⟩:=fD.1 hv;exact fD.2 ⟨g1,(i8.1 g2).2⟩
theorem RP{W W2:World}{B g o k:Nat}{s:ar}{x:Int}{ks ks':List ag}{Ru R':List Value}{A A':Option Addr}{n c c':Nat}{S:Nat->Bool}{xs':List Value}(h:Cu W B (.node k s x ks) g o Ru)(hA:Ru= .slice A n c::R')(hB:B<=W.heap.size)(hon:cg (fun q=>(Value.slice A n c).ownBlock=some q) W W2)(hrow:W2.ownsRow B 25 4 (.slice A' ks'.length c') ks'.length xs')(hg':∀q,(Value.slice A' ks'.length c').ownBlock=some q->q≠g)(hc:ez W2 S ks' xs')(hS:∀q,S q=true->B<=q/\q≠g):Ec W (W2.setCell ⟨g,o+3,none⟩ (.slice A' ks'.length c')) B (.node k s x ks') g o Ru:=by
 have hlo:=h.lo;have hga:∀q,(Value.slice A n c).ownBlock=some q->q≠g:=fun q hq e=>h.out (by rw[<-e,hA];exact iR (List.mem_cons_self ..) hq);have hgW:W2.heap[g]? =W.heap[g]? :=hon.keep g h.hi fun e=>hga g e rfl;have hcell:∀i v,(cX W B).cell? ⟨g,i,none⟩=some v->W2.cell? ⟨g,i,none⟩=some v:=fun i v hv=>by rw[World.cell?_of_block (a:=⟨g,i,none⟩) hgW];exact(i8.1 hv).2
 obtain⟨A0,c0,t0,t1,t2,t3,_,b1,b2,b3⟩:=h.at_.parts;have hkids:ce (cX (W2.setCell ⟨g,o+3,none⟩ (.slice A' ks'.length c')) B) ks' A' ks'.length c':=by refine hc.kids (re hrow (fun e=>hg' g e rfl) _) (ah _) fun q hq=>⟨(hS q hq).1,aY _ _ _ _ (hS q hq).2⟩
 have hne:∀p q,p≠q->(⟨g,p,none⟩:Addr)≠⟨g,q,none⟩:=fun p q hq e=>hq (by injection e);refine⟨?_,?_,fun q i hq hn hr=>?_⟩
 .refine cJ.of (i8.2 ⟨hlo,am (hne _ _ (by omega)) (hcell _ _ t0)⟩) (i8.2 ⟨hlo,am (hne _ _ (by omega)) (hcell _ _ t1)⟩) (i8.2 ⟨hlo,am (hne _ _ (by omega)) (hcell _ _ t2)⟩) (i8.2 ⟨hlo,set_self (hcell _ _ t3)⟩) hkids b1 b2 b3
 .refine(hon.below hB fun q hq=>?_).setCell hlo _;obtain⟨v,hv,e⟩:∃v∈Ru,v.ownBlock=some q:=⟨_,by rw[hA];exact List.mem_cons_self ..,hq⟩;exact((h.own v hv).lt e).1
 .rw[World.cell?_setCell_other _ _ _ _ (fun e=>hn (by injection e with e1 e2;exact⟨e1.symm,by omega,by omega⟩))];exact World.cell?_of_block (a:=⟨q,i,none⟩) (hon.keep q hq fun e=>hr (by rw[hA];exact iR (List.mem_cons_self ..) e))
def Ld(N b q:Nat):Bool:=decide (N<=q) && !(q == b)
theorem Le{N b q:Nat}:Ld N b q=true↔N<=q/\q≠b:=by simp[Ld]
def I8(W:World)(N b:Nat)(t:ag)(A:Option Addr)(c:Nat):Prop:=ce (fS W (Ld N b)) t.kids A t.kids.length c/\t.kind<=255/\t.text.length<=maxLen/\tw t.num
theorem cf.kdO{W:World}{N N' b:Nat}{t:ag}{k:Nat}{s:ByteArray}{x:Int}{A:Option Addr}{c:Nat}(h:cf (cX W N') t k s x A t.kids.length c)(hN:N<=N')(hb:∀q,N'<=q->q<W.heap.size->q≠b):I8 W N b t A c:=by
 obtain⟨ks,rfl,h1,h2,h3,h4⟩:=h;refine⟨h4.keep fun a v hc=>?_,h1,?_,h3⟩
 .obtain⟨g1,g2⟩:=i8.1 hc;exact fD.2 ⟨Le.2 ⟨by omega,hb _ g1 (bK g2)⟩,g2⟩
 .show(bl s).length<=_;rw[dt];exact h2
theorem I8.keep{W W':World}{N b:Nat}{t:ag}{A:Option Addr}{c:Nat}(h:I8 W N b t A c)(hk:∀q,N<=q->q≠b->q<W.heap.size->W'.heap[q]? =W.heap[q]?):I8 W' N b t A c:=by refine⟨h.1.keep fun a v hc=>?_,h.2⟩;obtain⟨g1,g2⟩:=fD.1 hc;obtain⟨g3,g4⟩:=Le.1 g1;exact fD.2 ⟨g1,by rw[World.cell?_of_block (hk _ g3 g4 (bK g2))];exact g2⟩
theorem I8.node{W:World}{N b:Nat}{t:ag}{A:Option Addr}{c:Nat}(h:I8 W N b t A c):cf (cX W N) t t.kind (sb t.text) t.num A t.kids.length c:=by obtain⟨h1,h2,h3,h4⟩:=h;obtain⟨k,s,x,ks⟩:=t;refine⟨ks,by simp[ag.kind,ag.text,ag.num,tq],h2,by show s.toArray.size<=_;rw[List.size_toArray];exact h3,h4,?_⟩;exact h1.keep fun a v hc=>by obtain⟨g1,g2⟩:=fD.1 hc;exact i8.2 ⟨(Le.1 g1).1,g2⟩
theorem Q7{W:World}{b k:Nat}{s:ar}{z0 z1 z2 z3:Value}{T:TypeId}{O1 O2:Obj}(hb:W.heap[b]? =some (.cells #[z0,z1,z2,z3] T (0,0))):((((((W.setCell ⟨b,0,none⟩ (.int .u8 k)).setCell ⟨b,1,none⟩ (.string (sb s))).setCell ⟨b,2,none⟩ (.int .i64 0)).setCell ⟨b,3,none⟩ (.slice (some ⟨W.heap.size+1,0,none⟩) 2 2)).alloc O1).alloc O2).heap[b]? =some (.cells #[.int .u8 k,.string (sb s),.int .i64 0,.slice (some ⟨W.heap.size+1,0,none⟩) 2 2] T (0,0)):=by have hl:b<W.heap.size:=(aK.1 hb).1;refine(heap_alloc_old _ _ (by simp;omega)).trans ((heap_alloc_old _ _ (by simpa using hl)).trans ?_);simp[World.setCell,Array.getElem?_modify,hb]
theorem Ms{W:World}{b k:Nat}{s:ar}{O1 O2:Obj}{q:Nat}(hq:q<W.heap.size)(hne:q≠b):((((((W.setCell ⟨b,0,none⟩ (.int .u8 k)).setCell ⟨b,1,none⟩ (.string (sb s))).setCell ⟨b,2,none⟩ (.int .i64 0)).setCell ⟨b,3,none⟩ (.slice (some ⟨W.heap.size+1,0,none⟩) 2 2)).alloc O1).alloc O2).heap[q]? =W.heap[q]? :=by refine(heap_alloc_old _ _ (by simp;omega)).trans ((heap_alloc_old _ _ (by simpa using hq)).trans ?_);rw[aY _ _ _ _ hne,aY _ _ _ _ hne,aY _ _ _ _ hne,aY _ _ _ _ hne]
theorem Q9{W:World}{N N' b k:Nat}{s:ar}{n n2:ag}{A A2:Option Addr}{c c2:Nat}{T2:TypeId}{O1:Obj}(hl:b<W.heap.size)(hbN:N<=b)(hN':b<N')(hD:I8 W N b n A c)(hN:cf (cX W N') n2 n2.kind (sb n2.text) n2.num A2 n2.kids.length c2)(hk:k<=255)(hs:s.length<=maxLen):I8 ((((((W.setCell ⟨b,0,none⟩ (.int .u8 k)).setCell ⟨b,1,none⟩ (.string (sb s))).setCell ⟨b,2,none⟩ (.int .i64 0)).setCell ⟨b,3,none⟩ (.slice (some ⟨W.heap.size+1,0,none⟩) 2 2)).alloc O1).alloc (.cells #[.int .u8 n.kind,.string (sb n.text),.int .i64 n.num,.slice A n.kids.length c,.int .u8 n2.kind,.string (sb n2.text),.int .i64 n2.num,.slice A2 n2.kids.length c2] T2)) N b (.node k s 0 [n,n2]) (some ⟨W.heap.size+1,0,none⟩) 2:=by
 have hD2:=(hN.kdO (N:=N) (b:=b) (by omega) (fun q h1 _=>by omega)).keep (W':=((((((W.setCell ⟨b,0,none⟩ (.int .u8 k)).setCell ⟨b,1,none⟩ (.string (sb s))).setCell ⟨b,2,none⟩ (.int .i64 0)).setCell ⟨b,3,none⟩ (.slice (some ⟨W.heap.size+1,0,none⟩) 2 2)).alloc O1).alloc (.cells #[.int .u8 n.kind,.string (sb n.text),.int .i64 n.num,.slice A n.kids.length c,.int .u8 n2.kind,.string (sb n2.text),.int .i64 n2.num,.slice A2 n2.kids.length c2] T2))) fun q _ h1 h2=>Ms h2 h1;have hD1:=hD.keep (W':=((((((W.setCell ⟨b,0,none⟩ (.int .u8 k)).setCell ⟨b,1,none⟩ (.string (sb s))).setCell ⟨b,2,none⟩ (.int .i64 0)).setCell ⟨b,3,none⟩ (.slice (some ⟨W.heap.size+1,0,none⟩) 2 2)).alloc O1).alloc (.cells #[.int .u8 n.kind,.string (sb n.text),.int .i64 n.num,.slice A n.kids.length c,.int .u8 n2.kind,.string (sb n2.text),.int .i64 n2.num,.slice A2 n2.kids.length c2] T2))) fun q _ h1 h2=>Ms h2 h1;have hc:∀p u,[Value.int .u8 n.kind,.string (sb n.text),.int .i64 n.num,.slice A n.kids.length c,.int .u8 n2.kind,.string (sb n2.text),.int .i64 n2.num,.slice A2 n2.kids.length c2][p]? =some u->(fS ((((((W.setCell ⟨b,0,none⟩ (.int .u8 k)).setCell ⟨b,1,none⟩ (.string (sb s))).setCell ⟨b,2,none⟩ (.int .i64 0)).setCell ⟨b,3,none⟩ (.slice (some ⟨W.heap.size+1,0,none⟩) 2 2)).alloc O1).alloc (.cells #[.int .u8 n.kind,.string (sb n.text),.int .i64 n.num,.slice A n.kids.length c,.int .u8 n2.kind,.string (sb n2.text),.int .i64 n2.num,.slice A2 n2.kids.length c2] T2)) (Ld N b)).cell? ⟨W.heap.size+1,p,none⟩=some u:=fun p u hu=>by have h:=World.news_of_block (w:=((((((W.setCell ⟨b,0,none⟩ (.int .u8 k)).setCell ⟨b,1,none⟩ (.string (sb s))).setCell ⟨b,2,none⟩ (.int .i64 0)).setCell ⟨b,3,none⟩ (.slice (some ⟨W.heap.size+1,0,none⟩) 2 2)).alloc O1).alloc (.cells #[.int .u8 n.kind,.string (sb n.text),.int .i64 n.num,.slice A n.kids.length c,.int .u8 n2.kind,.string (sb n2.text),.int .i64 n2.num,.slice A2 n2.kids.length c2] T2))) (B:=W.heap.size+1) (heap_alloc_at (by simp)) p u hu;rw[CE,Nat.zero_add] at h;exact fD.2 ⟨Le.2 ⟨by show N<=W.heap.size+1;omega,by show W.heap.size+1≠b;omega⟩,h⟩
 refine⟨⟨rfl,ah _,by decide,.inr ⟨W.heap.size+1,0,rfl,?_⟩⟩,hk,hs,by show tw 0;unfold tw;omega⟩;simp only[bk,ag.kids];exact⟨cJ.of (hc 0 _ rfl) (hc 1 _ rfl) (hc 2 _ rfl) (hc 3 _ rfl) hD1.1 hD1.2.1 hD1.2.2.1 hD1.2.2.2,cJ.of (hc 4 _ rfl) (hc 5 _ rfl) (hc 6 _ rfl) (hc 7 _ rfl) hD2.1 hD2.2.1 hD2.2.2.1 hD2.2.2.2,trivial⟩
theorem Oh{toks:List bi}{i:Nat}:∀{l:List ar} {k:Nat} {s a:ar},l[k]? =some s->td toks i (l.take (k+1)) a=if a8 toks i s then s else td toks i (l.take k) a
 |[],k,s,a,h=>by simp at h
 |x::l,0,s,a,h=>by simp at h;subst h;simp[td]
 |x::l,k+1,s,a,h=>by simp only[List.take_succ_cons,td];exact Oh (by simpa using h)
theorem Mt(toks:List bi)(i:Nat):∀(l:List ar) (a:ar),td toks i l a=a∨td toks i l a∈l
 |[],a=>.inl rfl
 |x::l,a=>by
  rw[td];by_cases h:a8 toks i x=true
  .rw[if_pos h];rcases Mt toks i l x with e|e
   .exact .inr (by rw[e];exact List.mem_cons_self ..)
   .exact .inr (List.mem_cons_of_mem _ e)
  .rw[if_neg h];rcases Mt toks i l a with e|e
   .exact .inl e
   .exact .inr (List.mem_cons_of_mem _ e)
theorem Og(toks:List bi)(i:Nat):∀(l:List ar) (a:ar),td toks i l a=a∨∃s,a8 toks i s=true
 |[],a=>.inl rfl
 |x::l,a=>by
  by_cases h:a8 toks i x=true
  .exact .inr ⟨x,h⟩
  .rw[td,if_neg h];exact Og toks i l a
theorem Q2(B r:Nat)(toks:List bi)(f:Nat)(hF:ii toks)(hC:∀m,m<f->LA B r toks m):KV B r toks f:=by
 intro lv i o j g t w hp hlv h hf hg hgr hgl;obtain⟨m,rfl⟩:∃m,f=m+1:=by cases f with|zero=>simp[tc] at hp|succ m=>exact⟨m,rfl⟩
 rw[tc] at hp;cases hq:JV toks m lv i with
 |none=>rw[hq] at hp;simp at hp
 |some x=>
 obtain⟨n0,j0⟩:=x;rw[hq] at hp;simp only[] at hp;have HQ:=ab hq;have HP:=ab hp;have HC:=ab hC;have HS:=ab h;have HFN:=ab hF;have HG:=ab hg;obtain⟨ls,hls⟩:∃ls,ls=I7 lv:=⟨_,rfl⟩;have HLS:=ab hls;have hL:ls.length<=6:=by
  rw[hls];obtain rfl|rfl|rfl|rfl|rfl:lv=0∨lv=1∨lv=2∨lv=3∨lv=4:=by omega
  all_goals decide
 have HSL:Hid (∀s∈ls,s.length<=2):=by
  rw[hls];obtain rfl|rfl|rfl|rfl|rfl:lv=0∨lv=1∨lv=2∨lv=3∨lv=4:=by omega
  all_goals (show ∀s∈_,_;decide)
 have HGL:Hid (KW w g ls):=(by rw[hls];exact hg);rw[<-hls];clear hq hp hC h hF hg hls HG;have HB1:Hid (Below w.heap.size w (w.alloc (.cells Z4 25))):=bz_alloc (ai _ _) _;have HS0:=ab (HS.out.own (HB1.out.mono HS.out.wB))
 go_in
 go_wp2_with fail;refine(HC.out m (by omega) lv i o j0 n0 _ HQ.out hlv HS0.out (by omega)).mono ?_;rintro e w1 ⟨hr1,hs1,A1,c1',rfl,hn1⟩;have hbox:w1.heap[w.heap.size]? =some (.cells Z4 25 (0,0)):=hr1.box (heap_alloc_new _ _) HS.out.ne;have hszw:w.heap.size<w1.heap.size:=(aK.1 hbox).1;have HS1:=ab hs1;have HR1:=ab ((a9.below HB1.out).trans hr1);have HN1:Hid (cf (cX w1 (w.heap.size+1)) n0 n0.kind (sb n0.text) n0.num A1 n0.kids.length c1'):=hn1.sinceLow (by simp);have HBX:=ab hbox;clear hr1 hs1 hn1 hbox;have HB2:Hid (Below w1.heap.size w1 (w1.alloc (.cells #[.int .u8 n0.kind,.string (sb n0.text),.int .i64 n0.num,.slice A1 n0.kids.length c1'] 25))):=bz_alloc (ai _ _) _;go_wp2_with fail
 go_loopg [8] m (fun k _ wr=>∃(i':Nat) (n:ag) (A:Option Addr) (c:Nat),Hid (KF toks k lv n i'=some (t,j))/\Hid (k<=m)/\Hid (ca B wr r toks i' o)/\Hid (a9 r w wr)/\Hid (wr.heap[w.heap.size]? =some (.cells Z4 25 (0,0)))/\Hid (wr.heap[w1.heap.size]? =some (.cells #[.int .u8 n.kind,.string (sb n.text),.int .i64 n.num,.slice A n.kids.length c] 25 (0,0)))/\Hid (I8 wr (w.heap.size+1) w1.heap.size n A c))
 case atStart=>exact⟨j0,n0,A1,c1',HP,ah m,HS1.out.own (HB2.out.mono HS1.out.wB),HR1.out.trans (a9.below HB2.out),(heap_alloc_old _ _ hszw).trans HBX.out,heap_alloc_new _ _,(HN1.out.kdO (ah _) (fun q _ hq=>Nat.ne_of_lt hq)).keep fun q _ _ hq=>HB2.out.block q hq⟩
 case round=>
  obtain⟨i',n,A,c,HPL,HK,HS2,HR2,HX2,HY2,HD2⟩:=hrel;obtain⟨k,rfl⟩:∃k,gk=k+1:=by have h:=HPL.out;cases gk with|zero=>simp[KF] at h|succ k=>exact⟨k,rfl⟩
  have h3:=HS2.out.c3;have HGW:Hid (KW wr g ls):=fun a b hab=>HR2.out.cell hgr (HGL.out a b hab);go_wp2_with fail;go_loopw [8,9] (fun s v wq=>∃q:Nat,q<=ls.length/\v= .int .i64 q/\s= .string (sb (td toks i' (ls.take q) []))/\Hid (Below wr.heap.size wr wq)) (fun _ v _=>ls.length - (intOf v).toNat);case atStart=>exact⟨0,by omega,rfl,by simp[td],ai _ _⟩
  case round=>
   obtain⟨q,hq,rfl,rfl,HB3⟩:=hrel;have HS3:=ab (HS2.out.own (HB3.out.mono HS2.out.wB));by_cases hlt:q<ls.length
   .obtain⟨s,hs⟩:∃s,ls[q]? =some s:=⟨_,br hlt⟩;have hc:=ac HB3.out (HGW.out q s hs);have HTK:=ab (Oh (toks:=toks) (i:=i') (a:=[]) hs);clear hs;go_wp2_with fail;refine(fh B toks r i' o (sb s) _ HS3.out).mono ?_;rintro e w2 ⟨rfl,hb2⟩;rw[tq];have hc2:=ac hb2 hc;have HB4:=ab (HB3.out.trans (hb2.mono HB3.out.size));clear hb2 hc;cases hT:a8 toks i' s with
    |true=>
     have HTT:=ab hT;clear hT;go_wp2;go_roundw;case rel=>exact⟨q+1,by omega,by go_num,by rw[HTK.out,HTT.out];rfl,HB4⟩
     case measure=>simp[intOf];omega
    |false=>
     have HTT:=ab hT;clear hT;go_wp2;go_roundw;case rel=>exact⟨q+1,by omega,by go_num,by rw[HTK.out,HTT.out];rfl,HB4⟩
     case measure=>simp[intOf];omega
   .obtain rfl:q=ls.length:=(by omega);have HX3:=ab ((HB3.out.block _ (aK.1 HX2.out).1).trans HX2.out);have HY3:=ab ((HB3.out.block _ (aK.1 HY2.out).1).trans HY2.out);have HR3:=ab (HR2.out.trans (a9.below HB3.out));have HD3:=ab (HD2.out.keep fun q _ _ hq=>HB3.out.block q hq);rw[List.take_length];have HPL2:=HPL.out;rw[KF,<-HLS.out] at HPL2;cases hsg:td toks i' ls [] with
    |nil=>rw[hsg,if_pos rfl] at HPL2;simp only[Option.some.injEq,Prod.mk.injEq] at HPL2;obtain⟨e1,e2⟩:=HPL2;subst e1 e2;obtain⟨c0,c1,c2,c3,f0,f1,f2,f3⟩:=di HX3.out;obtain⟨d0,d1,d2,d3,g0,g1,g2,g3⟩:=di HY3.out;have he:((sb []).toList.isEmpty)=true:=(by rw[bG,tq];rfl);clear hsg;go_wp2_with fail;obtain⟨a0,a1,a2,a3⟩:=mL (v0:=.int .u8 n.kind) (v1:=.string (sb n.text)) (v2:=.int .i64 n.num) (v3:=.slice A n.kids.length c) c0 c1 c2 c3;exact bodyPost_ret (v:=.agg #[.int .u8 n.kind,.string (sb n.text),.int .i64 n.num,.slice A n.kids.length c]) (by simp[results,Tryz.results227,go_sem,a0,a1,a2,a3]) rfl (d8.put HR3.out HS3.out HS.out.wB HD3.out.node _ _ _ _)
    |cons a l=>
     rw[hsg,if_neg (by simp)] at HPL2;cases hpo:JV toks k lv (i'+1) with
     |none=>rw[hpo] at HPL2;simp at HPL2
     |some y=>
     obtain⟨n2,j2⟩:=y;rw[hpo] at HPL2;simp only[] at HPL2;have HPO:=ab hpo;have HPM:=ab HPL2;have HSG:=ab hsg;have he:((sb (a::l)).toList.isEmpty)=false:=(by rw[bG,tq];rfl);clear HPL2 hpo hsg;have hnx:Hid (i'+1<toks.length):=by
      rcases Og toks i' ls [] with e|⟨s,e⟩
      .rw[HSG.out] at e;simp at e
      .exact HFN.out.next e
     have h1:=HS3.out.c1;have hf1:=HS3.out.fz 1;have hlen:=HS3.out.len;have hi3:=HS3.out.hi;have HS4:=ab (HS3.out.setAt hnx.out);go_wp2_with fail;refine(HC.out k (by have:=HK.out;omega) lv (i'+1) o j2 n2 _ HPO.out hlv HS4.out (by have:=HK.out;omega)).mono ?_;rintro e w5 ⟨hr5,hs5,A5,c5,rfl,hn5⟩;have hx5:=hr5.box (O:=.cells Z4 25 (0,0)) (b:=w.heap.size) (by rw[aY _ _ _ _ HS.out.ne];exact HX3.out) HS.out.ne;have hy5:=hr5.box (O:=.cells #[.int .u8 n.kind,.string (sb n.text),.int .i64 n.num,.slice A n.kids.length c] 25 (0,0)) (b:=w1.heap.size) (by rw[aY _ _ _ _ HS1.out.ne];exact HY3.out) HS1.out.ne;have hszr:w1.heap.size<w5.heap.size:=(aK.1 hy5).1;have HS5:=ab hs5;have HR5:=ab ((HR3.out.setOwn (.int .i64 ((i'+1:Nat):Int)) (j:=1)).trans hr5);have HD5:Hid (I8 w5 (w.heap.size+1) w1.heap.size n A c):=HD3.out.keep fun q h1 h2 h3=>by have hqr:q≠r:=(by have:=HS.out.rB;have:=HS.out.wB;omega);rw[hr5.block q (by simpa using h3) hqr,aY _ _ _ _ hqr]
     have hzq:=(aK.1 HY3.out).1;have HL:Hid ((a::l).length<=maxLen):=by
      rcases Mt toks i' ls [] with e|e
      .rw[HSG.out] at e;simp at e
      .rw[HSG.out] at e;exact aJ (HSL.out _ e) (by decide)
     have HN5:=ab hn5;have HX5:=ab hx5;clear hr5 hs5 hn5 hx5;obtain⟨d0,d1,d2,d3,g0,g1,g2,g3⟩:=di hy5;go_wp2_with fail
     go_roundg k
     case measure=>exact Nat.lt_succ_self k
     case rel=>
      have hbel:=fun(o:Nat) (ho:o<=w1.heap.size) (ho':o<=w5.heap.size) (v0 v1 v2 v3:Value) (O1 O2:Obj)=>show Below o w5 (((((((w5.setCell ⟨w1.heap.size,0,none⟩ v0).setCell ⟨w1.heap.size,1,none⟩ v1).setCell ⟨w1.heap.size,2,none⟩ v2).setCell ⟨w1.heap.size,3,none⟩ v3)).alloc O1).alloc O2) from(((((((ai o w5).setCell (p:=⟨_,_,none⟩) ho v0).setCell (p:=⟨_,_,none⟩) ho v1).setCell (p:=⟨_,_,none⟩) ho v2).setCell (p:=⟨_,_,none⟩) ho v3).alloc (by simpa using ho') O1).alloc (by simp;omega) O2);refine⟨j2,.node 24 (a::l) 0 [n,n2],some ⟨w5.heap.size+1,0,none⟩,2,HPM,Nat.le_of_lt HK.out,HS5.out.own (hbel B (by have:=HS1.out.wB;omega) HS5.out.wB _ _ _ _ _ _),?_,?_,Q7 (k:=24) hy5,Q9 (k:=24) hszr hszw (show w1.heap.size<_ by simpa using hzq) HD5.out HN5.out (show 24<=255 by decide) HL.out⟩
      .have hb:=hbel (w.heap.size+1) hszw (by omega) (.int .u8 24) (.string (sb (a::l))) (.int .i64 0) (.slice (some ⟨w5.heap.size+1,0,none⟩) 2 2) (.cells #[.int .u8 n2.kind,.string (sb n2.text),.int .i64 n2.num,.slice A5 n2.kids.length c5] 25) (.cells #[.int .u8 n.kind,.string (sb n.text),.int .i64 n.num,.slice A n.kids.length c,.int .u8 n2.kind,.string (sb n2.text),.int .i64 n2.num,.slice A5 n2.kids.length c5] 25);exact⟨hb.os.trans HR5.out.os,hb.tape.trans HR5.out.tape,hb.output.trans HR5.out.output,aJ HR5.out.size hb.size,fun q h1 h2=>(hb.block q (by omega)).trans (HR5.out.block q h1 h2)⟩
      .exact(Ms (by omega) (Nat.ne_of_lt hszw)).trans HX5.out
end Go.Proofs.YtfipahjodfminaaGreatDoor
