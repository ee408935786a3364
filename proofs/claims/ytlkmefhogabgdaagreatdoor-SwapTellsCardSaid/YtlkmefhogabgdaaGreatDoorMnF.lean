/- Part 6 of the proof. -/
import Derived.Laws.AppendOwn
import Derived.Test.YtlkmefhogabgdaaGreatDoorMnE
namespace Go.Proofs.YtlkmefhogabgdaaGreatDoor
open Go.RowKit
set_option linter.all false
set_option maxHeartbeats 40000000
set_option maxRecDepth 100000
theorem kL(c:UInt8)(w:World):Calls Tryz.prog 137 #[.int .u8 c.toNat] w fun e w'=>e= .returned (.bool (gh c))/\w=w':=by
 go_in
 go_wp2;all_goals
  go_ret;exact⟨dg (by simp[gh];try omega),rfl⟩
theorem rH(c:UInt8)(w:World):Calls Tryz.prog 140 #[.int .u8 c.toNat] w fun e w'=>e= .returned (.bool (lp c))/\w=w':=by
 go_in
 go_wp2;all_goals
  go_ret;exact⟨dg (by simp[lp];try omega),rfl⟩
theorem rQ(s:ByteArray)(A:Option Addr)(n c:Nat)(ss:List ar)(w:World)(h:gL w A n ss)(hn:n<=9223372036854775806):Calls Tryz.prog 138 #[.string s,.slice A n c] w fun e w'=>e= .returned (.bool (dj ss (bl s)))/\w=w':=by
 have hlen:=aa h.1
 go_in
 go_wp2
 go_loop [5] (fun i=>∃k:Nat,k<=n/\i= .int .i64 k/\Hid (dj (ss.take k) (bl s)=false)) (fun i=>n - (intOf i).toNat)
 case atStart=>exact⟨0,aE _,rfl,by show _=_;simp[dj]⟩
 case round=>
  obtain⟨k,hk,rfl,HB⟩:=hrel;by_cases hlt:k<n
  .obtain⟨ad,u,rfl,hbl,hu,hc⟩:=h.at_ hlt;have HU:=aa hu;have HS:=aa (pV (x:=bl s) hu);clear hu;by_cases heq:u=bl s
   .have HQ:=aa heq;have ht:(u == s.toList)=true:=(by simp[bG,heq]);clear heq;go_wp2;go_ret;refine⟨dg ?_,rfl⟩;have h2:=HU.out;rw[HQ.out] at h2;rw[qk h2]
   .have HQ:=aa heq;have ht:(u == s.toList)=false:=(by simp[bG,heq]);clear heq;go_wp2
    go_round
    case rel=>exact⟨k+1,by omega,by go_num,by show _=_;rw[HS.out,HB.out];simp[HQ.out]⟩
    case measure=>simp[intOf];omega
  .go_wp2;go_ret;refine⟨dg ?_,rfl⟩;have h1:=HB.out;rw[List.take_of_length_le (by have:=hlen.out;omega)] at h1;rw[h1]
theorem rS(w:World):Calls Tryz.prog 139 #[] w (jq 11 iu w):=by
 go_in
 go_wp2;go_ret;exact⟨_,rfl,gL.new (w:=w) (T:=9) iu rfl,(ai _ _).alloc (ah _) _,fun ad h=>by injection h with h;rw[<-h];exact ah _,_,rfl⟩
theorem oQ(s:ByteArray)(w:World):Calls Tryz.prog 72 #[.string s] w (ak (be (bl s)) w):=by
 by_cases h0:s.size=0
 .have he:s.toList=[]:=(by rw[bG];exact List.eq_nil_of_length_eq_zero h0);have hi:Hid (be (bl s)=false):=(by show _=_;rw[<-bG,he];rfl);clear h0
  go_in
  go_wp2;go_ret;exact ak.intro hi.out.symm (ai _ _)
 .have he:(s.toList.isEmpty)=false:=by rw[bG];cases hh:bl s with|nil=>exact absurd (by rw[<-dt,hh];rfl) h0|cons a l=>rfl
  have hpos:0<s.size:=(by omega);clear h0;by_cases h24:24<s.size
  .have hi:=aa (qt h24)
   go_in
   go_wp2;go_ret;exact ak.intro hi.out.symm (ai _ _)
  .have h24':s.size<=24:=(by omega);clear h24;cases hc:gh s[0] with
   |false=>
    have hi:=aa (qs hpos hc);have HC:=aa hc;clear hc
    go_in
    go_wp2_with (go_at_call 137;refine(kL _ _).mono ?_;rintro e w' ⟨rfl,rfl⟩;rw[HC.out]);go_ret;exact ak.intro hi.out.symm (ai _ _)
   |true=>
    have HC:=aa hc;clear hc;cases hw:dj iu (bl s) with
    |true=>
     have hi:=aa (qu hw);have HW:=aa hw;clear hw
     go_in
     go_wp2_with (first|(go_at_call 137;refine(kL _ _).mono ?_;rintro e w' ⟨rfl,rfl⟩;rw[HC.out])|(go_at_call 139;refine(rS _).mono ?_;rintro e w1 ⟨A1,rfl,hrow,hbel,hnew⟩)|(go_at_call 138;refine(rQ _ _ _ _ _ _ hrow (by omega)).mono ?_;rintro e w' ⟨rfl,rfl⟩;rw[HW.out]));go_ret;exact ak.intro hi.out.symm hbel
    |false=>
     have HW:=aa hw;clear hw
     go_in
     go_wp2_with (first|(go_at_call 137;refine(kL _ _).mono ?_;rintro e w' ⟨rfl,rfl⟩;rw[HC.out])|(go_at_call 139;refine(rS _).mono ?_;rintro e w1 ⟨A1,rfl,hrow,hbel,hnew⟩)|(go_at_call 138;refine(rQ _ _ _ _ _ _ hrow (by omega)).mono ?_;rintro e w' ⟨rfl,rfl⟩;rw[HW.out]))
     go_loop [3] (fun i=>∃k:Nat,k<=s.size/\i= .int .i64 k/\Hid (∀j (h:j<s.size),j<k->eI s[j]=true)) (fun i=>s.size - (intOf i).toNat)
     case atStart=>exact⟨0,aE _,rfl,fun j _ h=>by omega⟩
     case round=>
      obtain⟨k,hk,rfl,HI⟩:=hrel;by_cases hlt:k<s.size
      .cases hl:gh s[k] with
       |true=>
        have HL:=aa hl;have HN:Hid (∀j (h:j<s.size),j<k+1->eI s[j]=true):=by
         intro j h hj;by_cases e:j=k
         .subst e;simp[eI,hl]
         .exact HI.out j h (by omega)
        clear hl;go_wp2_with (go_at_call 137;refine(kL _ _).mono ?_;rintro e w' ⟨rfl,rfl⟩;rw[HL.out])
        go_round
        case rel=>exact⟨k+1,by omega,by go_num,HN⟩
        case measure=>simp[intOf];omega
       |false=>
        have HL:=aa hl;cases hd:lp s[k] with
        |true=>
         have HD:=aa hd;have HN:Hid (∀j (h:j<s.size),j<k+1->eI s[j]=true):=by
          intro j h hj;by_cases e:j=k
          .subst e;simp[eI,hd]
          .exact HI.out j h (by omega)
         clear hl hd;go_wp2_with (first|(go_at_call 137;refine(kL _ _).mono ?_;rintro e w' ⟨rfl,rfl⟩;rw[HL.out])|(go_at_call 140;refine(rH _ _).mono ?_;rintro e w' ⟨rfl,rfl⟩;rw[HD.out]))
         go_round
         case rel=>exact⟨k+1,by omega,by go_num,HN⟩
         case measure=>simp[intOf];omega
        |false=>have HD:=aa hd;have hi:=aa (qo hlt (by simp[eI,hl,hd]));clear hl hd;go_wp2_with (first|(go_at_call 137;refine(kL _ _).mono ?_;rintro e w' ⟨rfl,rfl⟩;rw[HL.out])|(go_at_call 140;refine(rH _ _).mono ?_;rintro e w' ⟨rfl,rfl⟩;rw[HD.out]));go_ret;exact ak.intro hi.out.symm hbel
      .have hi:=aa (qr hpos h24' HC.out HW.out (fun j h=>HI.out j h (by omega)));go_wp2;go_ret;exact ak.intro hi.out.symm hbel
def bL(o:Option (List Int))(w:World)(e:Ending)(w':World):Prop:=
 match o with
 |none=>∃A n c,e= .returned (.tuple #[.slice A n c,.bool false])/\Below w.heap.size w w'
 |some zs=>∃A c,e= .returned (.tuple #[.slice A zs.length c,.bool true])/\w'.ownsRow w.heap.size 3 1 (.slice A zs.length c) zs.length (zs.map (Value.int .i64))/\Below w.heap.size w w'
theorem bL.no{o:Option (List Int)}{w w':World}{A:Option Addr}{n c:Nat}(h:o=none)(hb:Below w.heap.size w w'):bL o w (.returned (.tuple #[.slice A n c,.bool false])) w':=by subst h;exact⟨A,n,c,rfl,hb⟩
theorem bL.yes{o:Option (List Int)}{zs:List Int}{w w':World}{A:Option Addr}{n c:Nat}(h:o=some zs)(hn:n=zs.length)(ho:w'.ownsRow w.heap.size 3 1 (.slice A n c) n (zs.map (Value.int .i64)))(hb:Below w.heap.size w w'):bL o w (.returned (.tuple #[.slice A n c,.bool true])) w':=by subst h hn;exact⟨A,c,rfl,ho,hb⟩
theorem vm{p l:List Int}{i z:Int}(hl:l.length<p.length)(hz:p[l.length]? =some z):fN p l i=(bu p l && z == i):=by have hz':p[l.length]=z:=(by rw[br hl] at hz;injection hz);simp[fN,hl,hz']
theorem rh(xs ys:List Int)(i:Int)(A B:Option Addr)(n c m d:Nat)(w:World)(hx:aA w xs A n c)(hy:aA w ys B m d)(hn:n<=17592186044416)(hm:m<=17592186044416)(hf:dE xs):Calls Tryz.prog 66 #[.slice A n c,.slice B m d,.int .i64 i] w (bL (dR xs ys i) w):=by
 have HX:=aa hx;have HY:=aa hy;have HF:=aa hf;have HT:=aa (pf xs ys hx.1 hy.1 hn hm);have HN:Hid (n=xs.length/\m=ys.length):=⟨hx.1,hy.1⟩;clear hx hy hf;have tail:∀(w0:World) (q:Nat),w0=w.drewN q->fN xs ys i=false->∀w1,Below w0.heap.size w0 w1->∀w2,w2=w1.alloc (.cells #[.int .i64 i] 3)->
  Calls Tryz.prog 133 #[.agg #[.slice A n c,.int .i64 (fX xs ys:Nat)],.func (.func 187) #[] #[.pointer (some ⟨w1.heap.size,0,none⟩)]] w2
   fun e w3=>∃A3 c3,e= .returned (.slice A3 (fo xs (fX xs ys) (cF i)).length c3)/\bL (dR xs ys i) w (.returned (.tuple #[.slice A3 (fo xs (fX xs ys) (cF i)).length c3,.bool true])) w3:=by
  rintro w0 q rfl hg w1 hb w2 rfl;have hb0:Below w.heap.size w w1:=(ax (ai _ _) q).trans hb;have hb1:Below w.heap.size w (w1.alloc (.cells #[.int .i64 i] 3)):=hb0.alloc hb0.size _;refine(oJ xs A n c (fX xs ys) 187 #[.pointer (some ⟨w1.heap.size,0,none⟩)] (cF i) _ (HX.out.below hb1) hn HT.out uA ?_).mono ?_
  .intro z hz w2 hb2;have hz':=HF.out.at_ hz;refine(ri z i w1.heap.size w2 ?_ (by omega) (by omega)).mono ?_
   .rw[hb2.cell (by simp)];simp[World.cell?_alloc_new]
   .rintro e w3 ⟨rfl,rfl⟩;exact⟨rfl,ai _ _⟩
  .rintro e w3 ⟨A3,c3,rfl,ho,hb3⟩;refine⟨A3,c3,rfl,bL.yes ?_ rfl (dk ho hb1.size) (hb1.trans (hb3.mono hb1.size))⟩;unfold dR;rw[hg,oL];rfl
 have HTL:=aa tail;clear tail;by_cases hl:m<n
 .obtain⟨b,o,z,rfl,hz,hc⟩:=HX.out.get hl;have HZ:=aa hz;have HG:Hid (fN xs ys i=(bu xs ys && z == i)):=by obtain⟨e1,e2⟩:=HN.out;exact vm (by omega) (by rw[<-e2];exact hz)
  clear hz;cases hu:bu xs ys with
  |true=>
   have HU:=aa hu;clear hu;by_cases hi:z=i
   .subst hi;have HD:Hid (dR xs ys z=none):=by show _=_;unfold dR;rw[HG.out,HU.out];simp
    go_in
    go_wp2_with fail;refine(jG xs ys _ _ _ _ _ _ _ HX.out HY.out).mono ?_;rintro e w1 ⟨rfl,q,rfl⟩;rw[HU.out];go_wp2_with fail
    go_ret2
    exact bL.no HD.out (ax (ai _ _) q)
   .have HGf:Hid (fN xs ys i=false):=by show _=_;rw[HG.out];simp[hi]
    go_in
    go_wp2_with fail;refine(jG xs ys _ _ _ _ _ _ _ HX.out HY.out).mono ?_;rintro e w1 ⟨rfl,q,rfl⟩;rw[HU.out];go_wp2_with fail;refine(lC xs ys _ _ _ _ _ _ _ (HX.out.drewN q) (HY.out.drewN q)).mono ?_;rintro e w1 ⟨rfl,hb⟩;have HB:=aa hb;clear hb;go_wp2_with fail;refine(mD _ _).mono ?_;rintro e w' ⟨rfl,rfl⟩;go_wp2_with fail;refine(HTL.out _ q rfl HGf.out w1 HB.out _ rfl).mono ?_;rintro e w3 ⟨A3,c3,rfl,hp⟩;have HP:=aa hp;clear hp;go_wp2_with fail
    go_ret2
    exact HP.out
  |false=>
   have HU:=aa hu;have HGf:Hid (fN xs ys i=false):=(by show _=_;rw[HG.out,hu];rfl);clear hu
   go_in
   go_wp2_with fail;refine(jG xs ys _ _ _ _ _ _ _ HX.out HY.out).mono ?_;rintro e w1 ⟨rfl,q,rfl⟩;rw[HU.out];go_wp2_with fail;refine(lC xs ys _ _ _ _ _ _ _ (HX.out.drewN q) (HY.out.drewN q)).mono ?_;rintro e w1 ⟨rfl,hb⟩;have HB:=aa hb;clear hb;go_wp2_with fail;refine(mD _ _).mono ?_;rintro e w' ⟨rfl,rfl⟩;go_wp2_with fail;refine(HTL.out _ q rfl HGf.out w1 HB.out _ rfl).mono ?_;rintro e w3 ⟨A3,c3,rfl,hp⟩;have HP:=aa hp;clear hp;go_wp2_with fail
   go_ret2
   exact HP.out
 .have HGf:Hid (fN xs ys i=false):=by show _=_;obtain⟨e1,e2⟩:=HN.out;simp[fN];omega
  go_in
  go_wp2_with fail;refine(lC xs ys _ _ _ _ _ _ _ HX.out HY.out).mono ?_;rintro e w1 ⟨rfl,hb⟩;have HB:=aa hb;clear hb;go_wp2_with fail;refine(mD _ _).mono ?_;rintro e w' ⟨rfl,rfl⟩;go_wp2_with fail;refine(HTL.out _ 0 rfl HGf.out w1 HB.out _ rfl).mono ?_;rintro e w3 ⟨A3,c3,rfl,hp⟩;have HP:=aa hp;clear hp;go_wp2_with fail
  go_ret2
  exact HP.out
theorem yF(xs ys:List Int)(i j:Int)(A B:Option Addr)(n c m d:Nat)(w:World)(hx:aA w xs A n c)(hy:aA w ys B m d)(hn:n<=17592186044416)(hm:m<=17592186044416)(hf:dE xs):Calls Tryz.prog 70 #[.slice A n c,.slice B m d,.int .i64 i,.int .i64 j] w (dL (eT xs ys i j) w):=by
 have hb0:Below w.heap.size w ((w.alloc (.cells #[.int .i64 i] 3)).alloc (.cells #[.int .i64 j] 3)):=((ai _ _).alloc (ah _) _).alloc (by simp) _;have HX0:=aa hx;have HX:=aa (hx.below hb0);have HY:=aa (hy.below hb0);have HF:=aa hf;have HT:=aa (pf xs ys hx.1 hy.1 hn hm);have HB0:=aa hb0;have hmf:=lH;clear hx hy hf hb0
 go_in
 go_wp2_with fail;refine(lC xs ys _ _ _ _ _ _ _ HX.out HY.out).mono ?_;rintro e w1 ⟨rfl,hb⟩;have HB1:Hid (Below w.heap.size w w1):=HB0.out.trans (hb.mono HB0.out.size);have HS1:Hid (w.heap.size+2<=w1.heap.size):=(by show _<=_;have:=hb.size;simp at this;omega);have HC1:Hid (w1.cell? ⟨w.heap.size,0,none⟩=some (.int .i64 i)):=by show _=_;rw[hb.cell (by simp<;>omega)];go_simp
 have HC2:Hid (w1.cell? ⟨w.heap.size+1,0,none⟩=some (.int .i64 j)):=by show _=_;rw[hb.cell (by simp<;>omega)];go_simp
 clear hb;go_wp2_with fail;refine(oJ xs A n c (fX xs ys) 136 #[.pointer (some ⟨w.heap.size,0,none⟩),.pointer (some ⟨w.heap.size+1,0,none⟩)] (kA i j) _ (aA.below HB1.out HX0.out) hn HT.out uD ?_).mono ?_
 .intro z hz w2 hb2;have hz':=HF.out.at_ hz;refine(yG z i j w.heap.size (w.heap.size+1) w2 ?_ ?_ (by omega) (by omega))
  .rw[hb2.cell (by have:=HS1.out;simp;omega)];exact HC1.out
  .rw[hb2.cell (by have:=HS1.out;simp;omega)];exact HC2.out
 .rintro e w3 ⟨A3,c3,rfl,ho,hb3⟩;have HO:=aa ho;have HB3:=aa hb3;clear ho hb3;go_wp2;go_ret;exact dL.intro (by rw[xc];exact oL xs ys (kA i j)) rfl (dk HO.out HB1.out.size) (HB1.out.trans (HB3.out.mono HB1.out.size))
theorem Tryz.infoIntR:(Tryz.prog.info? 3).map (fun i=>(i.zero,i.size,i.bytes))=some (some (.int .i64 0),1,8):=by kernel_rfl
theorem Bo{a b:List Int}{j:Nat}(hl:b.length<=a.length)(h:a.take j=b.take j){x y:Int}(hx:a[j]? =some x)(hy:b[j]? =some y)(hne:x≠y):bu a b=false:=by rw[<-Bool.not_eq_true,kV];rintro⟨r,rfl⟩;have hj:j<b.length:=(bs.1 hy).1;rw[cM hj,hy] at hx;injection hx with hx;exact hne hx.symm
theorem Bm{a b:List Int}{j:Nat}(hl:b.length<=a.length)(hj:b.length<=j)(h:a.take j=b.take j):bu a b=true:=by
 rw[kV];rw[List.take_of_length_le hj] at h;have h2:a.take b.length=b:=by have h3:=congrArg (List.take b.length) h;rw[List.take_take,Nat.min_eq_left hj,List.take_length] at h3;exact h3
 have h3:=List.take_append_drop b.length a;rw[h2] at h3;exact⟨a.drop b.length,h3.symm⟩
theorem AZ{a b:List Int}{j:Nat}(h:a.take j=b.take j){x:Int}(hx:a[j]? =some x)(hy:b[j]? =some x):a.take (j+1)=b.take (j+1):=by have h1:j<a.length:=(bs.1 hx).1;have h2:j<b.length:=(bs.1 hy).1;rw[List.take_succ_eq_append_getElem h1,List.take_succ_eq_append_getElem h2,h];rw[br h1] at hx;rw[br h2] at hy;injection hx with hx;injection hy with hy;rw[hx,hy]
theorem iW(xs ys:List Int)(A B:Option Addr)(n c m d:Nat)(w:World)(hx:aA w xs A n c)(hy:aA w ys B m d):Calls Tryz.prog 84 #[.slice A n c,.slice B m d] w (iy (.bool (bu xs ys)) w):=by
 have HX:=aa hx;have HY:=aa hy;have HN:Hid (n=xs.length):=hx.1;have HM:Hid (m=ys.length):=hy.1;have hn:n<=9223372036854775807:=(by have h1:=hx.2.1;have h2:=hx.2.2.1;unfold maxLen at h2;omega);have hm:m<=9223372036854775807:=(by have h1:=hy.2.1;have h2:=hy.2.2.1;unfold maxLen at h2;omega);clear hx hy;by_cases hl:n<m
 .have HR:Hid (bu xs ys=false):=sL (by rw[<-HN.out,<-HM.out];exact hl)
  go_in
  go_wp2;go_ret;exact⟨by rw[HR.out];rfl,0,rfl⟩
 .go_in
  go_wp2_with fail;go_loopw [5] (fun i wr=>∃j q:Nat,j<=m/\i= .int .i64 j/\wr=w.drewN q/\Hid (xs.take j=ys.take j)) (fun i _=>m - (intOf i).toNat);case atStart=>exact⟨0,0,aE _,rfl,rfl,(by show _=_;simp)⟩
  case round=>
   obtain⟨j,q,hj,rfl,rfl,HJ⟩:=hrel;by_cases hlt:j<m
   .obtain⟨b1,o1,x,rfl,gx,cx⟩:=HX.out.get (i:=j) (by omega);obtain⟨b2,o2,y,rfl,gy,cy⟩:=HY.out.get (i:=j) hlt;have HG:=aa (And.intro gx gy);have hlm:j<n:=(by omega);clear gx gy;by_cases he:x=y
    .have hne:(x != y)=false:=(by simp[he]);subst he;go_wp2_with fail
     go_region
     all_goals
      go_wp2;go_roundw;case rel=>exact⟨j+1,q+1,by omega,by go_num,rfl,AZ HJ.out HG.out.1 HG.out.2⟩
      case measure=>simp[intOf];omega
    .have hne:(x != y)=true:=(by simp[he]);have HR:Hid (bu xs ys=false):=Bo (by rw[<-HN.out,<-HM.out];omega) HJ.out HG.out.1 HG.out.2 he;go_wp2_with fail
     go_region
     all_goals
      go_wp2;go_ret;exact⟨by rw[HR.out];rfl,q+1,rfl⟩
   .have HR:Hid (bu xs ys=true):=Bm (j:=j) (by rw[<-HN.out,<-HM.out];omega) (by rw[<-HM.out];omega) HJ.out;go_wp2;go_ret;exact⟨by rw[HR.out];rfl,q,rfl⟩
theorem oW{w:World}(base:Nat)(t ty e:TypeId)(i:TypeInfo)(size:Nat)(ht:Tryz.prog.underlying t=some (.slice e))(hi:Tryz.prog.info? e=some i)(v:Value)(n:Nat)(xs:List Value)(hown:w.ownsRow base e size v n xs)(A:Option Addr)(c:Nat):(Builtin.append_ #[t,t] ty #[v,.slice A 0 c]).run Tryz.prog w= .ok v w:=by
 rcases hown.2 with ⟨rfl,_⟩|⟨g,cap,cur,rfl,_,_,hnc,_⟩
 .cases A<;>simp[Builtin.append_,run_underlying ht,sizeOf,typeInfo,hi,Builtin.lenOf,Builtin.firstCells,loadCells,loadCellsFrom,storeCells,Result.andThen]
 .cases A<;>simp[Builtin.append_,run_underlying ht,sizeOf,typeInfo,hi,Builtin.lenOf,Builtin.firstCells,loadCells,loadCellsFrom,hnc,storeCells,Result.andThen]
theorem iw{w:World}{ops:Array Oper}{rest:List Oper}{o:Oper}{a:Act}{Q:Exit->Act->World->Prop}(hgd:o.guard=none)(s x:Operand)(ho:o.op= .call { callee:=.builtin .append,args:=#[s,x],argTypes:=#[23,23] })(base:Nat)(v:Value)(ys xs:List Int)(hs:a.eval s=v)(hown:w.ownsRow base 3 1 v ys.length (ys.map (Value.int .i64)))(A:Option Addr)(n c:Nat)(hx:a.eval x= .slice A n c)(hX:aA w xs A n c)(hfew:ys.length+xs.length<=17592186044000)(hbase:base<=w.heap.size)(h:∀v' w',w'.ownsRow base 3 1 v' (ys++xs).length ((ys++xs).map (Value.int .i64))->w.grownBy w' v.ownBlock->wpList Tryz.prog ops Q rest (a.put o.dst v') w'):wpList Tryz.prog ops Q (o::rest) a w:=by
 obtain⟨i0,hi0,hz0,hz1,hz2⟩:=info_parts Tryz.infoIntR;obtain⟨rfl,h2,h3,h4⟩:=hX;rcases h4 with rfl|⟨b,of,rfl,hr⟩
 .refine wpList_plain hgd fun K hK=>?_;have hrun:=oW (w:=w) base 23 o.type 3 i0 1 Tryz.underlying23 hi0 v _ _ hown A c;unfold Oper.wp;simp only[List.length_nil] at hx;simp[execOp,ho,resolve,invoke,builtin,hs,hx,hrun,Result.andThen];exact hK _ _ (h v w (by simpa using hown) ⟨rfl,rfl,rfl,ah _,fun _ _ _=>rfl⟩)
 .refine wpList_append_own w hgd s x 23 ho base 3 i0 (.int .i64 0) 1 8 Tryz.underlying23 hi0 hz0 hz1 hz2 rfl (by decide) v _ _ hs hown ⟨b,of,none⟩ xs.length c (xs.map (Value.int .i64)) hx (by simp) ?_ ?_ (by unfold maxLen;omega) (by omega) hbase ?_
  .intro j u hu;rw[fi];rw[List.getElem?_map] at hu;cases hj:xs[j]? with
   |none=>rw[hj] at hu;cases hu
   |some z=>rw[hj] at hu;simp at hu;subst hu;exact hr j z hj
  .intro u hu;simp at hu;obtain⟨z,_,rfl⟩:=hu;rfl
  .intro v' w' h5 h6 _;exact h v' w' (by simpa using h5) h6
def jm(b:Bool)(w:World)(e:Ending)(w':World):Prop:=e= .returned (.bool b)/\w'=w
theorem gv(n:Int)(w:World):Calls Tryz.prog 71 #[.int .i64 n] w (jm (aH n) w):=by
 by_cases h0:0<=n
 .by_cases h1:n<=1073741824
  .have HR:Hid (aH n=true):=by show _=_;simp[aH,h0,h1]
   go_in
   go_wp2;go_ret;exact⟨by rw[HR.out];rfl,rfl⟩
  .have HR:Hid (aH n=false):=by show _=_;simp[aH,h0,h1]
   go_in
   go_wp2;go_ret;exact⟨by rw[HR.out];rfl,rfl⟩
 .have HR:Hid (aH n=false):=by show _=_;simp[aH,h0]
  go_in
  go_wp2;go_ret;exact⟨by rw[HR.out];rfl,rfl⟩
theorem gY(k:Nat)(w:World):Calls Tryz.prog 214 #[.int .u8 k] w (jm (dz k) w):=by
 by_cases h0:20<=k
 .have g0:(20:Int)<=(k:Int):=(by omega);by_cases h1:k<=29
  .have g1:(k:Int)<=29:=(by omega);have HR:Hid (dz k=true):=by show _=_;simp[dz,h0,h1]
   go_in
   go_wp2;go_ret;exact⟨by rw[HR.out];rfl,rfl⟩
  .have g1:¬((k:Int)<=29):=(by omega);have HR:Hid (dz k=false):=by show _=_;simp[dz,h0,h1]
   go_in
   go_wp2;go_ret;exact⟨by rw[HR.out];rfl,rfl⟩
 .have g0:¬((20:Int)<=(k:Int)):=(by omega);have HR:Hid (dz k=false):=by show _=_;simp[dz,h0]
  go_in
  go_wp2;go_ret;exact⟨by rw[HR.out];rfl,rfl⟩
def nw(n:Int)(w:World)(e:Ending)(w':World):Prop:=e= .returned (.int .i64 n)/\w'=w
theorem rL(k:Nat)(w:World):Calls Tryz.prog 215 #[.int .u8 k] w (nw (aX k) w):=by
 by_cases h0:k=1
 .subst h0;have HR:Hid (aX 1= -1):=by show _=_;simp[aX]
  go_in
  go_wp2;go_ret;exact⟨by rw[HR.out];rfl,rfl⟩
 have g0:¬((k:Int)=1):=(by omega);by_cases h1:k=3
 .subst h1;have HR:Hid (aX 3= -1):=by show _=_;simp[aX]
  go_in
  go_wp2;go_ret;exact⟨by rw[HR.out];rfl,rfl⟩
 have g1:¬((k:Int)=3):=(by omega);by_cases h2:k=5
 .subst h2;have HR:Hid (aX 5= -1):=by show _=_;simp[aX]
  go_in
  go_wp2;go_ret;exact⟨by rw[HR.out];rfl,rfl⟩
 have g2:¬((k:Int)=5):=(by omega);by_cases h3:k=25
 .subst h3;have HR:Hid (aX 25= -1):=by show _=_;simp[aX]
  go_in
  go_wp2;go_ret;exact⟨by rw[HR.out];rfl,rfl⟩
 have g3:¬((k:Int)=25):=(by omega);by_cases h4:k=2
 .subst h4;have HR:Hid (aX 2=2):=by show _=_;simp[aX]
  go_in
  go_wp2;go_ret;exact⟨by rw[HR.out];rfl,rfl⟩
 have g4:¬((k:Int)=2):=(by omega);by_cases h5:k=7
 .subst h5;have HR:Hid (aX 7=2):=by show _=_;simp[aX]
  go_in
  go_wp2;go_ret;exact⟨by rw[HR.out];rfl,rfl⟩
 have g5:¬((k:Int)=7):=(by omega);by_cases h6:k=9
 .subst h6;have HR:Hid (aX 9=2):=by show _=_;simp[aX]
  go_in
  go_wp2;go_ret;exact⟨by rw[HR.out];rfl,rfl⟩
 have g6:¬((k:Int)=9):=(by omega);by_cases h7:k=24
 .subst h7;have HR:Hid (aX 24=2):=by show _=_;simp[aX]
  go_in
  go_wp2;go_ret;exact⟨by rw[HR.out];rfl,rfl⟩
 have g7:¬((k:Int)=24):=(by omega);by_cases h8:k=26
 .subst h8;have HR:Hid (aX 26=2):=by show _=_;simp[aX]
  go_in
  go_wp2;go_ret;exact⟨by rw[HR.out];rfl,rfl⟩
 have g8:¬((k:Int)=26):=(by omega);by_cases h9:k=27
 .subst h9;have HR:Hid (aX 27=2):=by show _=_;simp[aX]
  go_in
  go_wp2;go_ret;exact⟨by rw[HR.out];rfl,rfl⟩
 have g9:¬((k:Int)=27):=(by omega);by_cases h10:k=8
 .subst h10;have HR:Hid (aX 8=3):=by show _=_;simp[aX]
  go_in
  go_wp2;go_ret;exact⟨by rw[HR.out];rfl,rfl⟩
 have g10:¬((k:Int)=8):=(by omega);by_cases h11:k=6
 .subst h11;have HR:Hid (aX 6=1):=by show _=_;simp[aX]
  go_in
  go_wp2;go_ret;exact⟨by rw[HR.out];rfl,rfl⟩
 have g11:¬((k:Int)=6):=(by omega);by_cases h12:k=10
 .subst h12;have HR:Hid (aX 10=1):=by show _=_;simp[aX]
  go_in
  go_wp2;go_ret;exact⟨by rw[HR.out];rfl,rfl⟩
 have g12:¬((k:Int)=10):=(by omega);by_cases h13:k=11
 .subst h13;have HR:Hid (aX 11=1):=by show _=_;simp[aX]
  go_in
  go_wp2;go_ret;exact⟨by rw[HR.out];rfl,rfl⟩
 have g13:¬((k:Int)=11):=(by omega);by_cases h14:k=23
 .subst h14;have HR:Hid (aX 23=1):=by show _=_;simp[aX]
  go_in
  go_wp2;go_ret;exact⟨by rw[HR.out];rfl,rfl⟩
 have g14:¬((k:Int)=23):=(by omega);by_cases h15:k=28
 .subst h15;have HR:Hid (aX 28=1):=by show _=_;simp[aX]
  go_in
  go_wp2;go_ret;exact⟨by rw[HR.out];rfl,rfl⟩
 have g15:¬((k:Int)=28):=(by omega);by_cases h16:k=12
 .subst h16;have HR:Hid (aX 12=1):=by show _=_;simp[aX]
  go_in
  go_wp2;go_ret;exact⟨by rw[HR.out];rfl,rfl⟩
 have g16:¬((k:Int)=12):=(by omega);have HR:Hid (aX k=0):=(by show _=_;simp[aX,h0,h1,h2,h3,h4,h5,h6,h7,h8,h9,h10,h11,h12,h13,h14,h15,h16]);clear h0 h1 h2 h3 h4 h5 h6 h7 h8 h9 h10 h11 h12 h13 h14 h15 h16
 go_in
 go_wp2;go_ret;exact⟨by rw[HR.out];rfl,rfl⟩
def aI(k:Nat)(al ni nj i0 pe ij j0 nf nt ft em po pn eo en sm:Bool):Bool:=
 if !al || !ni || !nj then false
 else if (!aq k && (!i0 || pe)) || ((!ij) != (k == 5) && k != 2 && k != 3) || (!j0 && k != 5) then false
 else if (k == 1) != (nf && nt && !ft) || (k != 1 && !em) then false
 else if aG k != po || aF k != pn || (!aG k && !eo) || (!aF k && !en) then false
 else k == 1 || aq k || (k == 4 && !sm)
theorem af{w w1 w2:World}(h1:Below w.heap.size w w1)(h2:Below w1.heap.size w1 w2):Below w.heap.size w w2:=h1.trans (h2.mono h1.size)
theorem eS(a b:ByteArray):bl (a++b)=bl a++bl b:=by simp[bl]
theorem kw(e:aj):ap e=aI e.kind (e.path.all aH) (aH e.at_) (aH e.far) (e.at_ == 0) e.path.isEmpty (e.at_ == e.far) (e.far == 0) (be e.frm) (be e.to_) (e.frm == e.to_) (e.frm++e.to_).isEmpty (bR e.olds) (bR e.news) e.olds.isEmpty e.news.isEmpty (bB e.olds e.news):=rfl
def bw(w:World)(b:Nat)(x0 x1 x2 x3 x4 x5 x6 x7:Value):Prop:=
 w.cell? ⟨b,0,none⟩=some x0/\w.cell? ⟨b,1,none⟩=some x1/\w.cell? ⟨b,2,none⟩=some x2/\w.cell? ⟨b,3,none⟩=some x3/\w.cell? ⟨b,4,none⟩=some x4/\w.cell? ⟨b,5,none⟩=some x5/\w.cell? ⟨b,6,none⟩=some x6/\w.cell? ⟨b,7,none⟩=some x7
theorem bw.below{w w':World}{b:Nat}{x0 x1 x2 x3 x4 x5 x6 x7:Value}(h:bw w b x0 x1 x2 x3 x4 x5 x6 x7)(hb:Below w.heap.size w w'):bw w' b x0 x1 x2 x3 x4 x5 x6 x7:=by obtain⟨h0,h1,h2,h3,h4,h5,h6,h7⟩:=h;exact⟨ac hb h0,ac hb h1,ac hb h2,ac hb h3,ac hb h4,ac hb h5,ac hb h6,ac hb h7⟩
theorem bw.new{w:World}{x0 x1 x2 x3 x4 x5 x6 x7:Value}{T:TypeId}:bw (w.alloc (.cells #[x0,x1,x2,x3,x4,x5,x6,x7] T)) w.heap.size x0 x1 x2 x3 x4 x5 x6 x7:=by refine⟨?_,?_,?_,?_,?_,?_,?_,?_⟩ <;> (rw[World.cell?_alloc_new];rfl)
end Go.Proofs.YtlkmefhogabgdaaGreatDoor
