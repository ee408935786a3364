/- Part 6 of the proof. -/
import Derived.Test.YtfipahjodfminaaGreatDoorMfE
namespace Go.Proofs.YtfipahjodfminaaGreatDoor
open Go.RowKit
set_option linter.all false
set_option maxHeartbeats 40000000
set_option maxRecDepth 100000
theorem yh(ps:List Int)(os ns:List ag)(pA:Option Addr)(pn pc:Nat)(i j:Int)(f t:ByteArray)(oA:Option Addr)(on oc:Nat)(nA:Option Addr)(nn nc:Nat)(w:World)(hp:cc w ps pA pn pc)(ho:ce w os oA on oc)(hn:ce w ns nA nn nc)(hE:bI w)(hsz:f.size+t.size<=9223372036854775806)(hso:ex 9223372036854775806 os)(hsn:ex 9223372036854775806 ns):Calls Tryz.prog 52 #[.agg #[.int .u8 5,.slice pA pn pc,.int .i64 i,.int .i64 j,.string f,.string t,.slice oA on oc,.slice nA nn nc]] w (ak (ap ⟨5,ps,i,j,bl f,bl t,os,ns⟩) w):=by
 have hb0:Below w.heap.size w (w.alloc (.cells #[.int .u8 5,.slice pA pn pc,.int .i64 i,.int .i64 j,.string f,.string t,.slice oA on oc,.slice nA nn nc] 29)):=(ai _ _).alloc (ah _) _;have HB0:=ab hb0;have HE:=ab (hE.below hb0 (ah _));have HP:=ab (hp.below hb0);have HO:=ab (ho.below hb0);have HN:=ab (hn.below hb0);have HR:=ab (kw ⟨5,ps,i,j,bl f,bl t,os,ns⟩);have HBX:=ab (bw.new (w:=w) (x0:=.int .u8 5) (x1:=.slice pA pn pc) (x2:=.int .i64 i) (x3:=.int .i64 j) (x4:=.string f) (x5:=.string t) (x6:=.slice oA on oc) (x7:=.slice nA nn nc) (T:=29));have HSO:=ab hso;have HSN:=ab hsn;have HLP:Hid (pn=ps.length):=hp.1;have HLO:Hid (on=os.length):=ho.1;have HLN:Hid (nn=ns.length):=hn.1;have hfs:f.size<=9223372036854775806:=(by omega);have hts:t.size<=9223372036854775806:=(by omega);have hpn:pn<=9223372036854775807:=(by have h1:=hp.2.1;have h2:=hp.2.2.1;unfold maxLen at h2;omega);have hon:on<=9223372036854775807:=(by have h1:=ho.2.1;have h2:=ho.2.2.1;unfold maxLen at h2;omega);have hnn:nn<=9223372036854775807:=(by have h1:=hn.2.1;have h2:=hn.2.2.1;unfold maxLen at h2;omega);have hcf:=Dj;clear hb0 hE hp ho hn hso hsn
 go_in
 go_wp2_with fail
 go_quiet (fail)
 go_wp2_with fail;refine(kG ps _ _ _ _ (HP.out.below (bS (ai _ _) _))).mono ?_;rintro e wq ⟨rfl,q1,rfl⟩;cases ha:ps.all aH with
 |false=>have HV:Hid (ap _=false):=HR.out.trans (by simp[aI,aq,aG,aF,ha]);go_wp2_with fail;go_ret;exact ak.intro HV.out.symm (bS HB0.out _)
 |true=>
  go_wp2_with fail;refine(fT i _).mono ?_;rintro e wq ⟨rfl,q2,rfl⟩;cases hi:aH i with
  |false=>have HV:Hid (ap _=false):=HR.out.trans (by simp[aI,aq,aG,aF,ha,hi]);go_wp2_with fail;go_ret;exact ak.intro HV.out.symm (bS HB0.out _)
  |true=>
   go_wp2_with fail;refine(fT j _).mono ?_;rintro e wq ⟨rfl,q3,rfl⟩;cases hj:aH j with
   |false=>have HV:Hid (ap _=false):=HR.out.trans (by simp[aI,aq,aG,aF,ha,hi,hj]);go_wp2_with fail;go_ret;exact ak.intro HV.out.symm (bS HB0.out _)
   |true=>
    cases hij:(i == j) with
    |true=>have q_hij:(i != j)=false:=(by simpa using hij);have HV:Hid (ap _=false):=HR.out.trans (by simp[aI,aq,aG,aF,ha,hi,hj,hij]);go_wp2_with fail;go_ret;exact ak.intro HV.out.symm (bS HB0.out _)
    |false=>
     have n_hij:(i != j)=true:=(by simpa using hij);cases hj0:(j == 0) with
     |false=>
      have n_hj0:(j != 0)=true:=(by simpa using hj0);go_wp2_with fail;cases hem:(bl f++bl t).isEmpty with
      |false=>
       have hne:(!(f++t).toList.isEmpty)=true:=(by rw[bG,eS,hem];rfl);refine(cW f _ (HE.out.below (bS (ai _ _) _) (ah _)) hfs).mono ?_;rintro e w1 ⟨rfl,hb1⟩;have HA1:=ab (af (bS (ai _ _) _) hb1);clear hb1;obtain⟨c0,c1,c2,c3,c4,c5,c6,c7⟩:=HBX.out.below HA1.out;cases hf:be (bl f) with
       |false=>have HV:Hid (ap _=false):=HR.out.trans (by simp[aI,aq,aG,aF,ha,hi,hj,hij,hj0,hem,hf]);go_wp2_with fail;go_ret;exact ak.intro HV.out.symm (af HB0.out HA1.out)
       |true=>
        go_wp2_with fail;refine(cW t _ (HE.out.below HA1.out (ah _)) hts).mono ?_;rintro e w2 ⟨rfl,hb2⟩;have HA2:=ab (af HA1.out hb2);clear hb2;clear c0 c1 c2 c3 c4 c5 c6 c7;obtain⟨c0,c1,c2,c3,c4,c5,c6,c7⟩:=HBX.out.below HA2.out;cases ht:be (bl t) with
        |false=>have HV:Hid (ap _=false):=HR.out.trans (by simp[aI,aq,aG,aF,ha,hi,hj,hij,hj0,hem,hf,ht]);go_wp2_with fail;go_ret;exact ak.intro HV.out.symm (af HB0.out HA2.out)
        |true=>
         cases hft:(bl f == bl t) with
         |true=>obtain rfl:=fk (by simpa using hft);have HV:Hid (ap _=false):=HR.out.trans (by simp[aI,aq,aG,aF,ha,hi,hj,hij,hj0,hem,hf,ht,hft]);go_wp2_with fail;go_ret;exact ak.intro HV.out.symm (af HB0.out HA2.out)
         |false=>have e0:(f.toList == t.toList)=false:=fW (by simpa using hft);have HV:Hid (ap _=false):=HR.out.trans (by simp[aI,aq,aG,aF,ha,hi,hj,hij,hj0,hem,hf,ht,hft]);go_wp2_with fail;go_ret;exact ak.intro HV.out.symm (af HB0.out HA2.out)
      |true=>
       have hee:(!(f++t).toList.isEmpty)=false:=(by rw[bG,eS,hem];rfl);have hf0:be (bl f)=false:=(by rw[(List.append_eq_nil_iff.1 (List.isEmpty_iff.1 hem)).1];rfl);refine(cW f _ (HE.out.below (bS (ai _ _) _) (ah _)) hfs).mono ?_;rintro e w1 ⟨rfl,hb1⟩;have HA1:=ab (af (bS (ai _ _) _) hb1);clear hb1;obtain⟨c0,c1,c2,c3,c4,c5,c6,c7⟩:=HBX.out.below HA1.out;rw[hf0];go_wp2_with fail;refine(eC os _ _ _ _ (HO.out.below HA1.out) HSO.out (HE.out.below HA1.out (ah _))).mono ?_;rintro e w2 ⟨rfl,hb2⟩;have HA2:=ab (af HA1.out hb2);clear hb2;clear c0 c1 c2 c3 c4 c5 c6 c7;obtain⟨c0,c1,c2,c3,c4,c5,c6,c7⟩:=HBX.out.below HA2.out;cases hpo:bR os with
       |false=>have HV:Hid (ap _=false):=HR.out.trans (by simp[aI,aq,aG,aF,ha,hi,hj,hij,hj0,hem,hf0,hpo]);go_wp2_with fail;go_ret;exact ak.intro HV.out.symm (af HB0.out HA2.out)
       |true=>
        go_wp2_with fail;refine(eC ns _ _ _ _ (HN.out.below HA2.out) HSN.out (HE.out.below HA2.out (ah _))).mono ?_;rintro e w3 ⟨rfl,hb3⟩;have HA3:=ab (af HA2.out hb3);clear hb3;clear c0 c1 c2 c3 c4 c5 c6 c7;obtain⟨c0,c1,c2,c3,c4,c5,c6,c7⟩:=HBX.out.below HA3.out;cases hpn:bR ns with
        |true=>have HV:Hid (ap _=false):=HR.out.trans (by simp[aI,aq,aG,aF,ha,hi,hj,hij,hj0,hem,hf0,hpo,hpn]);go_wp2_with fail;go_ret;exact ak.intro HV.out.symm (af HB0.out HA3.out)
        |false=>
         cases hen:ns.isEmpty with
         |false=>
          have ghen:(0:Int)<nn:=by
           have e1:=HLN.out;cases ns with
           |nil=>cases hen
           |cons a l=>simp at e1;omega
          have HV:Hid (ap _=false):=HR.out.trans (by simp[aI,aq,aG,aF,ha,hi,hj,hij,hj0,hem,hf0,hpo,hpn,hen]);go_wp2_with fail;go_ret;exact ak.intro HV.out.symm (af HB0.out HA3.out)
         |true=>
          have ghen:¬(0:Int)<nn:=(by have e1:=HLN.out;have e2:=List.isEmpty_iff.1 hen;subst e2;simp at e1;omega);have HV:Hid (ap _=true):=HR.out.trans (by simp[aI,aq,aG,aF,ha,hi,hj,hij,hj0,hem,hf0,hpo,hpn,hen]);go_wp2_with fail
          go_quiet (fail)
          go_wp2;go_ret;exact ak.intro HV.out.symm (bS (af HB0.out HA3.out) _)
     |true=>
      have q_hj0:(j != 0)=false:=(by simpa using hj0);go_wp2_with fail;cases hem:(bl f++bl t).isEmpty with
      |false=>
       have hne:(!(f++t).toList.isEmpty)=true:=(by rw[bG,eS,hem];rfl);refine(cW f _ (HE.out.below (bS (ai _ _) _) (ah _)) hfs).mono ?_;rintro e w1 ⟨rfl,hb1⟩;have HA1:=ab (af (bS (ai _ _) _) hb1);clear hb1;obtain⟨c0,c1,c2,c3,c4,c5,c6,c7⟩:=HBX.out.below HA1.out;cases hf:be (bl f) with
       |false=>have HV:Hid (ap _=false):=HR.out.trans (by simp[aI,aq,aG,aF,ha,hi,hj,hij,hj0,hem,hf]);go_wp2_with fail;go_ret;exact ak.intro HV.out.symm (af HB0.out HA1.out)
       |true=>
        go_wp2_with fail;refine(cW t _ (HE.out.below HA1.out (ah _)) hts).mono ?_;rintro e w2 ⟨rfl,hb2⟩;have HA2:=ab (af HA1.out hb2);clear hb2;clear c0 c1 c2 c3 c4 c5 c6 c7;obtain⟨c0,c1,c2,c3,c4,c5,c6,c7⟩:=HBX.out.below HA2.out;cases ht:be (bl t) with
        |false=>have HV:Hid (ap _=false):=HR.out.trans (by simp[aI,aq,aG,aF,ha,hi,hj,hij,hj0,hem,hf,ht]);go_wp2_with fail;go_ret;exact ak.intro HV.out.symm (af HB0.out HA2.out)
        |true=>
         cases hft:(bl f == bl t) with
         |true=>obtain rfl:=fk (by simpa using hft);have HV:Hid (ap _=false):=HR.out.trans (by simp[aI,aq,aG,aF,ha,hi,hj,hij,hj0,hem,hf,ht,hft]);go_wp2_with fail;go_ret;exact ak.intro HV.out.symm (af HB0.out HA2.out)
         |false=>have e0:(f.toList == t.toList)=false:=fW (by simpa using hft);have HV:Hid (ap _=false):=HR.out.trans (by simp[aI,aq,aG,aF,ha,hi,hj,hij,hj0,hem,hf,ht,hft]);go_wp2_with fail;go_ret;exact ak.intro HV.out.symm (af HB0.out HA2.out)
      |true=>
       have hee:(!(f++t).toList.isEmpty)=false:=(by rw[bG,eS,hem];rfl);have hf0:be (bl f)=false:=(by rw[(List.append_eq_nil_iff.1 (List.isEmpty_iff.1 hem)).1];rfl);refine(cW f _ (HE.out.below (bS (ai _ _) _) (ah _)) hfs).mono ?_;rintro e w1 ⟨rfl,hb1⟩;have HA1:=ab (af (bS (ai _ _) _) hb1);clear hb1;obtain⟨c0,c1,c2,c3,c4,c5,c6,c7⟩:=HBX.out.below HA1.out;rw[hf0];go_wp2_with fail;refine(eC os _ _ _ _ (HO.out.below HA1.out) HSO.out (HE.out.below HA1.out (ah _))).mono ?_;rintro e w2 ⟨rfl,hb2⟩;have HA2:=ab (af HA1.out hb2);clear hb2;clear c0 c1 c2 c3 c4 c5 c6 c7;obtain⟨c0,c1,c2,c3,c4,c5,c6,c7⟩:=HBX.out.below HA2.out;cases hpo:bR os with
       |false=>have HV:Hid (ap _=false):=HR.out.trans (by simp[aI,aq,aG,aF,ha,hi,hj,hij,hj0,hem,hf0,hpo]);go_wp2_with fail;go_ret;exact ak.intro HV.out.symm (af HB0.out HA2.out)
       |true=>
        go_wp2_with fail;refine(eC ns _ _ _ _ (HN.out.below HA2.out) HSN.out (HE.out.below HA2.out (ah _))).mono ?_;rintro e w3 ⟨rfl,hb3⟩;have HA3:=ab (af HA2.out hb3);clear hb3;clear c0 c1 c2 c3 c4 c5 c6 c7;obtain⟨c0,c1,c2,c3,c4,c5,c6,c7⟩:=HBX.out.below HA3.out;cases hpn:bR ns with
        |true=>have HV:Hid (ap _=false):=HR.out.trans (by simp[aI,aq,aG,aF,ha,hi,hj,hij,hj0,hem,hf0,hpo,hpn]);go_wp2_with fail;go_ret;exact ak.intro HV.out.symm (af HB0.out HA3.out)
        |false=>
         cases hen:ns.isEmpty with
         |false=>
          have ghen:(0:Int)<nn:=by
           have e1:=HLN.out;cases ns with
           |nil=>cases hen
           |cons a l=>simp at e1;omega
          have HV:Hid (ap _=false):=HR.out.trans (by simp[aI,aq,aG,aF,ha,hi,hj,hij,hj0,hem,hf0,hpo,hpn,hen]);go_wp2_with fail;go_ret;exact ak.intro HV.out.symm (af HB0.out HA3.out)
         |true=>
          have ghen:¬(0:Int)<nn:=(by have e1:=HLN.out;have e2:=List.isEmpty_iff.1 hen;subst e2;simp at e1;omega);have HV:Hid (ap _=true):=HR.out.trans (by simp[aI,aq,aG,aF,ha,hi,hj,hij,hj0,hem,hf0,hpo,hpn,hen]);go_wp2_with fail
          go_quiet (fail)
          go_wp2;go_ret;exact ak.intro HV.out.symm (bS (af HB0.out HA3.out) _)
theorem yi(ps:List Int)(os ns:List ag)(k:Nat)(pA:Option Addr)(pn pc:Nat)(i j:Int)(f t:ByteArray)(oA:Option Addr)(on oc:Nat)(nA:Option Addr)(nn nc:Nat)(w:World)(hk:k≠1/\k≠2/\k≠3/\k≠4/\k≠5)(hp:cc w ps pA pn pc)(ho:ce w os oA on oc)(hn:ce w ns nA nn nc)(hE:bI w)(hsz:f.size+t.size<=9223372036854775806)(hso:ex 9223372036854775806 os)(hsn:ex 9223372036854775806 ns):Calls Tryz.prog 52 #[.agg #[.int .u8 k,.slice pA pn pc,.int .i64 i,.int .i64 j,.string f,.string t,.slice oA on oc,.slice nA nn nc]] w (ak (ap ⟨k,ps,i,j,bl f,bl t,os,ns⟩) w):=by
 have hb0:Below w.heap.size w (w.alloc (.cells #[.int .u8 k,.slice pA pn pc,.int .i64 i,.int .i64 j,.string f,.string t,.slice oA on oc,.slice nA nn nc] 29)):=(ai _ _).alloc (ah _) _;have HB0:=ab hb0;have HE:=ab (hE.below hb0 (ah _));have HP:=ab (hp.below hb0);have HO:=ab (ho.below hb0);have HN:=ab (hn.below hb0);have HR:=ab (kw ⟨k,ps,i,j,bl f,bl t,os,ns⟩);have HBX:=ab (bw.new (w:=w) (x0:=.int .u8 k) (x1:=.slice pA pn pc) (x2:=.int .i64 i) (x3:=.int .i64 j) (x4:=.string f) (x5:=.string t) (x6:=.slice oA on oc) (x7:=.slice nA nn nc) (T:=29));have HSO:=ab hso;have HSN:=ab hsn;have HLP:Hid (pn=ps.length):=hp.1;have HLO:Hid (on=os.length):=ho.1;have HLN:Hid (nn=ns.length):=hn.1;have hfs:f.size<=9223372036854775806:=(by omega);have hts:t.size<=9223372036854775806:=(by omega);have hpn:pn<=9223372036854775807:=(by have h1:=hp.2.1;have h2:=hp.2.2.1;unfold maxLen at h2;omega);have hon:on<=9223372036854775807:=(by have h1:=ho.2.1;have h2:=ho.2.2.1;unfold maxLen at h2;omega);have hnn:nn<=9223372036854775807:=(by have h1:=hn.2.1;have h2:=hn.2.2.1;unfold maxLen at h2;omega);have hcf:=Dj;clear hb0 hE hp ho hn hso hsn;obtain⟨hk1,hk2,hk3,hk4,hk5⟩:=hk;have e1:¬(k:Int)=1:=(by omega);have e2:¬(k:Int)=2:=(by omega);have e3:¬(k:Int)=3:=(by omega);have e4:¬(k:Int)=4:=(by omega);have e5:¬(k:Int)=5:=(by omega);have b1:((k:Int) == 1)=false:=(by simp;omega);have b2:((k:Int) == 2)=false:=(by simp;omega);have b3:((k:Int) == 3)=false:=(by simp;omega);have b4:((k:Int) == 4)=false:=(by simp;omega);have b5:((k:Int) == 5)=false:=(by simp;omega);have f2:((k:Int) != 2)=true:=(by simp;omega);have f3:((k:Int) != 3)=true:=(by simp;omega);have f5:((k:Int) != 5)=true:=(by simp;omega);have g2:(!((k:Int) == 2))=true:=(by simp;omega);have g3:(!((k:Int) == 3))=true:=(by simp;omega);have g5:(!((k:Int) == 5))=true:=by simp;omega
 go_in
 go_wp2_with fail
 go_quiet (fail)
 go_wp2_with fail;refine(kG ps _ _ _ _ (HP.out.below (bS (ai _ _) _))).mono ?_;rintro e wq ⟨rfl,q1,rfl⟩;cases ha:ps.all aH with
 |false=>have HV:Hid (ap _=false):=HR.out.trans (by simp[aI,aq,aG,aF,ha,hk1,hk2,hk3,hk4,hk5]);go_wp2_with fail;go_ret;exact ak.intro HV.out.symm (bS HB0.out _)
 |true=>
  go_wp2_with fail;refine(fT i _).mono ?_;rintro e wq ⟨rfl,q2,rfl⟩;cases hi:aH i with
  |false=>have HV:Hid (ap _=false):=HR.out.trans (by simp[aI,aq,aG,aF,ha,hi,hk1,hk2,hk3,hk4,hk5]);go_wp2_with fail;go_ret;exact ak.intro HV.out.symm (bS HB0.out _)
  |true=>
   go_wp2_with fail;refine(fT j _).mono ?_;rintro e wq ⟨rfl,q3,rfl⟩;cases hj:aH j with
   |false=>have HV:Hid (ap _=false):=HR.out.trans (by simp[aI,aq,aG,aF,ha,hi,hj,hk1,hk2,hk3,hk4,hk5]);go_wp2_with fail;go_ret;exact ak.intro HV.out.symm (bS HB0.out _)
   |true=>
    cases hi0:(i == 0) with
    |false=>have n_hi0:(i != 0)=true:=(by simpa using hi0);have HV:Hid (ap _=false):=HR.out.trans (by simp[aI,aq,aG,aF,ha,hi,hj,hi0,hk1,hk2,hk3,hk4,hk5]);go_wp2_with fail;go_ret;exact ak.intro HV.out.symm (bS HB0.out _)
    |true=>
     have q_hi0:(i != 0)=false:=(by simpa using hi0);cases hpe:ps.isEmpty with
     |true=>have pe:((pn:Int) == 0)=true:=(by have e1:=HLP.out;have e2:=List.isEmpty_iff.1 hpe;subst e2;simp at e1;simp[e1]);have HV:Hid (ap _=false):=HR.out.trans (by simp[aI,aq,aG,aF,ha,hi,hj,hi0,hpe,hk1,hk2,hk3,hk4,hk5]);go_wp2_with fail;go_ret;exact ak.intro HV.out.symm (bS HB0.out _)
     |false=>
      have pe:((pn:Int) == 0)=false:=by
       have e1:=HLP.out;cases ps with
       |nil=>cases hpe
       |cons a l=>simp at e1;simp;omega
      cases hij:(i == j) with
      |false=>have n_hij:(i != j)=true:=(by simpa using hij);have HV:Hid (ap _=false):=HR.out.trans (by simp[aI,aq,aG,aF,ha,hi,hj,hi0,hpe,hij,hk1,hk2,hk3,hk4,hk5]);go_wp2_with fail;go_ret;exact ak.intro HV.out.symm (bS HB0.out _)
      |true=>
       have q_hij:(i != j)=false:=(by simpa using hij);cases hj0:(j == 0) with
       |false=>have n_hj0:(j != 0)=true:=(by simpa using hj0);have HV:Hid (ap _=false):=HR.out.trans (by simp[aI,aq,aG,aF,ha,hi,hj,hi0,hpe,hij,hj0,hk1,hk2,hk3,hk4,hk5]);go_wp2_with fail;go_ret;exact ak.intro HV.out.symm (bS HB0.out _)
       |true=>
        have q_hj0:(j != 0)=false:=(by simpa using hj0);go_wp2_with fail;cases hem:(bl f++bl t).isEmpty with
        |false=>
         have hne:(!(f++t).toList.isEmpty)=true:=(by rw[bG,eS,hem];rfl);refine(cW f _ (HE.out.below (bS (ai _ _) _) (ah _)) hfs).mono ?_;rintro e w1 ⟨rfl,hb1⟩;have HA1:=ab (af (bS (ai _ _) _) hb1);clear hb1;obtain⟨c0,c1,c2,c3,c4,c5,c6,c7⟩:=HBX.out.below HA1.out;cases hf:be (bl f) with
         |false=>have HV:Hid (ap _=false):=HR.out.trans (by simp[aI,aq,aG,aF,ha,hi,hj,hi0,hpe,hij,hj0,hem,hf,hk1,hk2,hk3,hk4,hk5]);go_wp2_with fail;go_ret;exact ak.intro HV.out.symm (af HB0.out HA1.out)
         |true=>
          go_wp2_with fail;refine(cW t _ (HE.out.below HA1.out (ah _)) hts).mono ?_;rintro e w2 ⟨rfl,hb2⟩;have HA2:=ab (af HA1.out hb2);clear hb2;clear c0 c1 c2 c3 c4 c5 c6 c7;obtain⟨c0,c1,c2,c3,c4,c5,c6,c7⟩:=HBX.out.below HA2.out;cases ht:be (bl t) with
          |false=>have HV:Hid (ap _=false):=HR.out.trans (by simp[aI,aq,aG,aF,ha,hi,hj,hi0,hpe,hij,hj0,hem,hf,ht,hk1,hk2,hk3,hk4,hk5]);go_wp2_with fail;go_ret;exact ak.intro HV.out.symm (af HB0.out HA2.out)
          |true=>
           cases hft:(bl f == bl t) with
           |true=>obtain rfl:=fk (by simpa using hft);have HV:Hid (ap _=false):=HR.out.trans (by simp[aI,aq,aG,aF,ha,hi,hj,hi0,hpe,hij,hj0,hem,hf,ht,hft,hk1,hk2,hk3,hk4,hk5]);go_wp2_with fail;go_ret;exact ak.intro HV.out.symm (af HB0.out HA2.out)
           |false=>have e0:(f.toList == t.toList)=false:=fW (by simpa using hft);have HV:Hid (ap _=false):=HR.out.trans (by simp[aI,aq,aG,aF,ha,hi,hj,hi0,hpe,hij,hj0,hem,hf,ht,hft,hk1,hk2,hk3,hk4,hk5]);go_wp2_with fail;go_ret;exact ak.intro HV.out.symm (af HB0.out HA2.out)
        |true=>
         have hee:(!(f++t).toList.isEmpty)=false:=(by rw[bG,eS,hem];rfl);have hf0:be (bl f)=false:=(by rw[(List.append_eq_nil_iff.1 (List.isEmpty_iff.1 hem)).1];rfl);refine(cW f _ (HE.out.below (bS (ai _ _) _) (ah _)) hfs).mono ?_;rintro e w1 ⟨rfl,hb1⟩;have HA1:=ab (af (bS (ai _ _) _) hb1);clear hb1;obtain⟨c0,c1,c2,c3,c4,c5,c6,c7⟩:=HBX.out.below HA1.out;rw[hf0];go_wp2_with fail;refine(eC os _ _ _ _ (HO.out.below HA1.out) HSO.out (HE.out.below HA1.out (ah _))).mono ?_;rintro e w2 ⟨rfl,hb2⟩;have HA2:=ab (af HA1.out hb2);clear hb2;clear c0 c1 c2 c3 c4 c5 c6 c7;obtain⟨c0,c1,c2,c3,c4,c5,c6,c7⟩:=HBX.out.below HA2.out;cases hpo:bR os with
         |true=>have HV:Hid (ap _=false):=HR.out.trans (by simp[aI,aq,aG,aF,ha,hi,hj,hi0,hpe,hij,hj0,hem,hf0,hpo,hk1,hk2,hk3,hk4,hk5]);go_wp2_with fail;go_ret;exact ak.intro HV.out.symm (af HB0.out HA2.out)
         |false=>
          go_wp2_with fail;refine(eC ns _ _ _ _ (HN.out.below HA2.out) HSN.out (HE.out.below HA2.out (ah _))).mono ?_;rintro e w3 ⟨rfl,hb3⟩;have HA3:=ab (af HA2.out hb3);clear hb3;clear c0 c1 c2 c3 c4 c5 c6 c7;obtain⟨c0,c1,c2,c3,c4,c5,c6,c7⟩:=HBX.out.below HA3.out;cases hpn:bR ns with
          |true=>have HV:Hid (ap _=false):=HR.out.trans (by simp[aI,aq,aG,aF,ha,hi,hj,hi0,hpe,hij,hj0,hem,hf0,hpo,hpn,hk1,hk2,hk3,hk4,hk5]);go_wp2_with fail;go_ret;exact ak.intro HV.out.symm (af HB0.out HA3.out)
          |false=>
           cases heo:os.isEmpty with
           |false=>
            have gheo:(0:Int)<on:=by
             have e1:=HLO.out;cases os with
             |nil=>cases heo
             |cons a l=>simp at e1;omega
            have HV:Hid (ap _=false):=HR.out.trans (by simp[aI,aq,aG,aF,ha,hi,hj,hi0,hpe,hij,hj0,hem,hf0,hpo,hpn,heo,hk1,hk2,hk3,hk4,hk5]);go_wp2_with fail;go_ret;exact ak.intro HV.out.symm (af HB0.out HA3.out)
           |true=>
            have gheo:¬(0:Int)<on:=(by have e1:=HLO.out;have e2:=List.isEmpty_iff.1 heo;subst e2;simp at e1;omega);cases hen:ns.isEmpty with
            |false=>
             have ghen:(0:Int)<nn:=by
              have e1:=HLN.out;cases ns with
              |nil=>cases hen
              |cons a l=>simp at e1;omega
             have HV:Hid (ap _=false):=HR.out.trans (by simp[aI,aq,aG,aF,ha,hi,hj,hi0,hpe,hij,hj0,hem,hf0,hpo,hpn,heo,hen,hk1,hk2,hk3,hk4,hk5]);go_wp2_with fail;go_ret;exact ak.intro HV.out.symm (af HB0.out HA3.out)
            |true=>
             have ghen:¬(0:Int)<nn:=(by have e1:=HLN.out;have e2:=List.isEmpty_iff.1 hen;subst e2;simp at e1;omega);have HV:Hid (ap _=false):=HR.out.trans (by simp[aI,aq,aG,aF,ha,hi,hj,hi0,hpe,hij,hj0,hem,hf0,hpo,hpn,heo,hen,hk1,hk2,hk3,hk4,hk5]);go_wp2_with fail
             go_quiet (fail)
             go_wp2;go_ret;exact ak.intro HV.out.symm (bS (af HB0.out HA3.out) _)
theorem de(e:aj)(k:Nat)(pA:Option Addr)(pn pc:Nat)(i j:Int)(f t:ByteArray)(oA:Option Addr)(on oc:Nat)(nA:Option Addr)(nn nc:Nat)(w:World)(h:ay w e k pA pn pc i j f t oA on oc nA nn nc)(hE:bI w)(hsz:f.size+t.size<=9223372036854775806)(hso:ex 9223372036854775806 e.olds)(hsn:ex 9223372036854775806 e.news):Calls Tryz.prog 52 #[.agg #[.int .u8 k,.slice pA pn pc,.int .i64 i,.int .i64 j,.string f,.string t,.slice oA on oc,.slice nA nn nc]] w (ak (ap e) w):=by
 obtain⟨ps,os,ns,rfl,hp,ho,hn⟩:=h;by_cases k1:k=1
 .subst k1;exact yd ps os ns pA pn pc i j f t oA on oc nA nn nc w hp ho hn hE hsz hso hsn
 by_cases k2:k=2
 .subst k2;exact ye ps os ns pA pn pc i j f t oA on oc nA nn nc w hp ho hn hE hsz hso hsn
 by_cases k3:k=3
 .subst k3;exact yf ps os ns pA pn pc i j f t oA on oc nA nn nc w hp ho hn hE hsz hso hsn
 by_cases k4:k=4
 .subst k4;exact yg ps os ns pA pn pc i j f t oA on oc nA nn nc w hp ho hn hE hsz hso hsn
 by_cases k5:k=5
 .subst k5;exact yh ps os ns pA pn pc i j f t oA on oc nA nn nc w hp ho hn hE hsz hso hsn
 exact yi ps os ns k pA pn pc i j f t oA on oc nA nn nc w ⟨k1,k2,k3,k4,k5⟩ hp ho hn hE hsz hso hsn
def bN(b:Nat)(w w':World):Prop:=∀q,b<=q->w'.heap[q]? =w.heap[q]?
theorem bN.refl(b:Nat)(w:World):bN b w w:=fun _ _=>rfl
theorem bN.set{b:Nat}{w w':World}{p:Addr}{u:Value}(h:bN b w w')(hp:p.block<b):bN b w (w'.setCell p u):=fun q hq=>by rw[aY _ _ _ _ (by omega)];exact h q hq
theorem bN.fresh{b B:Nat}{w w':World}{ks:List ag}{A:Option Addr}{n c:Nat}(h:bJ w B ks A n c)(hf:bN b w w')(hB:b<=B):bJ w' b ks A n c:=
 h.keep hB fun q ha _=>hf q (by omega)
theorem bN.own{b base:Nat}{w w':World}{e:TypeId}{size:Nat}{v:Value}{n:Nat}{xs:List Value}(h:w.ownsRow base e size v n xs)(hf:bN b w w')(hB:b<=base):w'.ownsRow base e size v n xs:=by obtain⟨h1,h2⟩:=h;refine⟨h1,h2.imp id ?_⟩;rintro⟨g,cap,cur,hv,hg,hh,r⟩;exact⟨g,cap,cur,hv,hg,by rw[hf g (by omega)];exact hh,r⟩
def bT(w:World)(ps:List Int)(A:Option Addr):Prop:=ps=[]∨∃b o cs fr,A=some ⟨b,o,none⟩/\w.heap[b]? =some (.cells cs 3 fr)
theorem bT.below{w w':World}(hb:Below w.heap.size w w'){ps:List Int}{A:Option Addr}(h:bT w ps A):bT w' ps A:=by refine h.imp id ?_;rintro⟨b,o,cs,fr,e,hh⟩;exact⟨b,o,cs,fr,e,(hb.block _ (aK.1 hh).1).trans hh⟩
theorem bT.own{w:World}{base n c:Nat}{A:Option Addr}{zs:List Int}(h:w.ownsRow base 3 1 (.slice A n c) n (zs.map (Value.int .i64)))(hn:n=zs.length):bT w zs A:=by
 rcases h.2 with ⟨e,h0⟩|⟨g,cap,cur,hv,hg,hh,_⟩
 .left;exact List.length_eq_zero_iff.1 (by omega)
 .injection hv with hv1;exact .inr ⟨g,0,cur,_,hv1,hh⟩
structure dX (w:World) (B:Nat) (e:aj) (pA:Option Addr) (pn pc:Nat) (oA:Option Addr) (on oc:Nat) (nA:Option Addr) (nn nc:Nat) (H:Option Addr×Nat×Nat) (R:List Value):Prop where
 path:hH w B 3 1 (.slice pA pn pc)
 parts:∃Ro Rn,R=Ro++Rn/\dr w e.olds oA on oc Ro/\(e.kind=5->e.news=[]/\(nA,nn,nc)=H/\Rn=[])/\(e.kind≠5->dr w e.news nA nn nc Rn)
 own:∀v∈R,hH w B 25 4 v
 nd:(aW R).Nodup
theorem dX.two{w3 w4 W:World}{B B3 B4 b:Nat}{e:aj}{pA:Option Addr}{pn pc:Nat}{oA:Option Addr}{on oc:Nat}{nA:Option Addr}{nn nc:Nat}{H:Option Addr×Nat×Nat}(hp:hH W B 3 1 (.slice pA pn pc))(h3:bJ w3 B3 e.olds oA on oc)(h34:Below w3.heap.size w3 w4)(h4:bJ w4 B4 e.news nA nn nc)(hB4:w3.heap.size<=B4)(hB3:b<=B3)(hb:b<=B4)(hB:B<=b)(hF:bN b w4 W)(h5:e.kind≠5):∃R,dX W B e pA pn pc oA on oc nA nn nc H R:=by
 obtain⟨_,R3,f3⟩:=h3;obtain⟨_,R4,f4⟩:=h4;have g3:cZ W B e.olds oA on oc R3:=f3.keep (by omega) fun q q1 q2=>(hF q (by omega)).trans (h34.block q q2);have g4:cZ W B e.news nA nn nc R4:=f4.keep (by omega) fun q q1 q2=>hF q (by omega);refine⟨R3++R4,hp,⟨R3,R4,rfl,g3.rows,fun h=>absurd h h5,fun _=>g4.rows⟩,fun v hv=>?_,iq f3.nd f4.nd (m:=w3.heap.size) (fun q hq=>(f3.lt hq).2) fun q hq=>aJ hB4 (f4.lt hq).1⟩;rcases List.mem_append.1 hv with hv|hv
 .exact g3.own v hv
 .exact g4.own v hv
theorem dX.move{w3 W:World}{B B3 b:Nat}{e:aj}{pA:Option Addr}{pn pc:Nat}{oA:Option Addr}{on oc:Nat}{nA:Option Addr}{nn nc:Nat}(hp:hH W B 3 1 (.slice pA pn pc))(h3:bJ w3 B3 e.olds oA on oc)(hB3:b<=B3)(hB:B<=b)(hF:bN b w3 W)(hk:e.kind=5)(hn:e.news=[]):∃R,dX W B e pA pn pc oA on oc nA nn nc (nA,nn,nc) R:=by obtain⟨_,R3,f3⟩:=h3;have g3:cZ W B e.olds oA on oc R3:=f3.keep (by omega) fun q q1 q2=>hF q (by omega);exact⟨R3,hp,⟨R3,[],by simp,g3.rows,fun _=>⟨hn,rfl,rfl⟩,fun h=>absurd hk h⟩,g3.own,g3.nd⟩
theorem dX.zero(w:World)(B:Nat)(H:Option Addr×Nat×Nat):dX w B ⟨0,[],0,0,[],[],[],[]⟩ none 0 0 none 0 0 none 0 0 H [.slice none 0 0,.slice none 0 0]:=by have hn:∀T s,hH w B T s (.slice none 0 0):=fun T s=>⟨0,[],World.ownsRow_nil _ _ _ _⟩;refine⟨hn _ _,⟨[.slice none 0 0],[.slice none 0 0],rfl,⟨[],rfl,.inl ⟨rfl,rfl⟩⟩,fun h=>absurd h (by decide),fun _=>⟨[],rfl,.inl ⟨rfl,rfl⟩⟩⟩,?_,List.nodup_nil⟩;intro v hv;simp at hv;subst hv;exact hn _ _
def jQ(e:aj)(H:Option Addr×Nat×Nat)(w:World)(en:Ending)(w':World):Prop:=∃(k:Nat) (pA:Option Addr) (pn pc:Nat) (i j:Int) (f t:ByteArray) (oA:Option Addr) (on oc:Nat) (nA:Option Addr) (nn nc:Nat),
 en= .returned (.agg #[.int .u8 k,.slice pA pn pc,.int .i64 i,.int .i64 j,.string f,.string t,.slice oA on oc,.slice nA nn nc])/\ay w' e k pA pn pc i j f t oA on oc nA nn nc/\(bT w' e.path pA/\∃R,dX w' w.heap.size e pA pn pc oA on oc nA nn nc H R)/\Below w.heap.size w w'
structure nk (w:World) (b:Nat) (x0 x1 x2 x3 x4 x5 x6 x7:Value):Prop where
 cs:bw w b x0 x1 x2 x3 x4 x5 x6 x7
 fs:w.frozen? ⟨b,0,none⟩=false/\w.frozen? ⟨b,1,none⟩=false/\w.frozen? ⟨b,2,none⟩=false/\w.frozen? ⟨b,3,none⟩=false/\w.frozen? ⟨b,4,none⟩=false/\w.frozen? ⟨b,5,none⟩=false/\w.frozen? ⟨b,6,none⟩=false/\w.frozen? ⟨b,7,none⟩=false
theorem aw{w:World}{b:Nat}{x0 x1 x2 x3 x4 x5 x6 x7:Value}{T:TypeId}(h:w.heap[b]? =some (.cells #[x0,x1,x2,x3,x4,x5,x6,x7] T (0,0))):nk w b x0 x1 x2 x3 x4 x5 x6 x7:=by have hc:=fun j=>cell_of_row w b j _ T (0,0) h;refine⟨⟨by rw[hc];rfl,by rw[hc];rfl,by rw[hc];rfl,by rw[hc];rfl,by rw[hc];rfl,by rw[hc];rfl,by rw[hc];rfl,by rw[hc];rfl⟩,?_⟩;refine⟨?_,?_,?_,?_,?_,?_,?_,?_⟩ <;>simp[World.frozen?,h]
def an(w:World)(g:Nat)(v0 v1 v2 v3 v4 v5 v6 v7:Value):World:=
 (((((((w.setCell ⟨g,0,none⟩ v0).setCell ⟨g,1,none⟩ v1).setCell ⟨g,2,none⟩ v2).setCell ⟨g,3,none⟩ v3).setCell ⟨g,4,none⟩ v4).setCell ⟨g,5,none⟩ v5).setCell ⟨g,6,none⟩ v6).setCell ⟨g,7,none⟩ v7
theorem jH{w:World}{g:Nat}{v0 v1 v2 v3 v4 v5 v6 v7 x0 x1 x2 x3 x4 x5 x6 x7:Value}(h:bw w g x0 x1 x2 x3 x4 x5 x6 x7):bw (an w g v0 v1 v2 v3 v4 v5 v6 v7) g v0 v1 v2 v3 v4 v5 v6 v7:=by
 obtain⟨h0,h1,h2,h3,h4,h5,h6,h7⟩:=h;have hn:∀p q,p≠q->(⟨g,p,none⟩:Addr)≠⟨g,q,none⟩:=fun p q hq e=>hq (by injection e);unfold an;refine⟨?_,?_,?_,?_,?_,?_,?_,?_⟩
 .exact(am (hn 0 7 (by decide)) (am (hn 0 6 (by decide)) (am (hn 0 5 (by decide)) (am (hn 0 4 (by decide)) (am (hn 0 3 (by decide)) (am (hn 0 2 (by decide)) (am (hn 0 1 (by decide)) (set_self h0))))))))
 .exact(am (hn 1 7 (by decide)) (am (hn 1 6 (by decide)) (am (hn 1 5 (by decide)) (am (hn 1 4 (by decide)) (am (hn 1 3 (by decide)) (am (hn 1 2 (by decide)) (set_self (am (hn 1 0 (by decide)) h1))))))))
 .exact(am (hn 2 7 (by decide)) (am (hn 2 6 (by decide)) (am (hn 2 5 (by decide)) (am (hn 2 4 (by decide)) (am (hn 2 3 (by decide)) (set_self (am (hn 2 1 (by decide)) (am (hn 2 0 (by decide)) h2))))))))
 .exact(am (hn 3 7 (by decide)) (am (hn 3 6 (by decide)) (am (hn 3 5 (by decide)) (am (hn 3 4 (by decide)) (set_self (am (hn 3 2 (by decide)) (am (hn 3 1 (by decide)) (am (hn 3 0 (by decide)) h3))))))))
 .exact(am (hn 4 7 (by decide)) (am (hn 4 6 (by decide)) (am (hn 4 5 (by decide)) (set_self (am (hn 4 3 (by decide)) (am (hn 4 2 (by decide)) (am (hn 4 1 (by decide)) (am (hn 4 0 (by decide)) h4))))))))
 .exact(am (hn 5 7 (by decide)) (am (hn 5 6 (by decide)) (set_self (am (hn 5 4 (by decide)) (am (hn 5 3 (by decide)) (am (hn 5 2 (by decide)) (am (hn 5 1 (by decide)) (am (hn 5 0 (by decide)) h5))))))))
 .exact(am (hn 6 7 (by decide)) (set_self (am (hn 6 5 (by decide)) (am (hn 6 4 (by decide)) (am (hn 6 3 (by decide)) (am (hn 6 2 (by decide)) (am (hn 6 1 (by decide)) (am (hn 6 0 (by decide)) h6))))))))
 .exact(set_self (am (hn 7 6 (by decide)) (am (hn 7 5 (by decide)) (am (hn 7 4 (by decide)) (am (hn 7 3 (by decide)) (am (hn 7 2 (by decide)) (am (hn 7 1 (by decide)) (am (hn 7 0 (by decide)) h7))))))))
theorem mM{w w':World}{b g:Nat}{v0 v1 v2 v3 v4 v5 v6 v7:Value}(h:bN b w w')(hg:g<b):bN b w (an w' g v0 v1 v2 v3 v4 v5 v6 v7):=
 (((((((h.set hg).set hg).set hg).set hg).set hg).set hg).set hg).set hg
theorem cH{B:Nat}{w w':World}{g:Nat}{v0 v1 v2 v3 v4 v5 v6 v7:Value}(h:Below B w w')(hg:B<=g):Below B w (an w' g v0 v1 v2 v3 v4 v5 v6 v7):=
 (((((((h.setCell hg _).setCell hg _).setCell hg _).setCell hg _).setCell hg _).setCell hg _).setCell hg _).setCell hg _
theorem yA(e:aj)(k:Nat)(pA:Option Addr)(pn pc:Nat)(i j:Int)(f t:ByteArray)(oA:Option Addr)(on oc:Nat)(nA:Option Addr)(nn nc:Nat)(w:World)(h:ay w e k pA pn pc i j f t oA on oc nA nn nc)(hE:bI w)(hsz:f.size+t.size<=9223372036854775806)(hso:ex 9223372036854775806 e.olds)(hsn:ex 9223372036854775806 e.news)(hno:ap e=false):Calls Tryz.prog 24 #[.agg #[.int .u8 k,.slice pA pn pc,.int .i64 i,.int .i64 j,.string f,.string t,.slice oA on oc,.slice nA nn nc]] w (jQ (bD e) (nA,nn,nc) w):=by
 have hb0:Below w.heap.size w ((w.alloc (.cells #[.int .u8 k,.slice pA pn pc,.int .i64 i,.int .i64 j,.string f,.string t,.slice oA on oc,.slice nA nn nc] 29)).alloc (.cells #[.int .u8 0,.slice none 0 0,.int .i64 0,.int .i64 0,.string ⟨#[]⟩,.string ⟨#[]⟩,.slice none 0 0,.slice none 0 0] 29)):=((ai _ _).alloc (ah _) _).alloc (by simp) _;have HB0:=ab hb0;have HE:=ab (hE.below hb0 (ah _));have HI:=ab (h.below hb0);have HV:Hid (bD e=aj.zero):=(by show _=_;unfold bD;rw[hno];rfl);have HNO:=ab hno;clear hb0 hE h hno
 go_in
 go_wp2_with fail;refine(de e _ _ _ _ _ _ _ _ _ _ _ _ _ _ _ HI.out HE.out hsz hso hsn).mono ?_;rintro en w1 ⟨rfl,hb1⟩;rw[HNO.out];have HB1:=ab hb1;have hres:w1.heap[w.heap.size+1]? =some (.cells #[.int .u8 0,.slice none 0 0,.int .i64 0,.int .i64 0,.string ⟨#[]⟩,.string ⟨#[]⟩,.slice none 0 0,.slice none 0 0] 29 (0,0)):=(hb1.block _ (by simp)).trans (heap_alloc_at (by simp));have HRS:=ab (aw hres);obtain⟨c0,c1,c2,c3,c4,c5,c6,c7⟩:=HRS.out.cs;obtain⟨f0,f1,f2,f3,f4,f5,f6,f7⟩:=HRS.out.fs;clear hres hb1;go_wp2_with fail;obtain⟨a0,a1,a2,a3,a4,a5,a6,a7⟩:=jH (v0:=.int .u8 0) (v1:=.slice none 0 0) (v2:=.int .i64 0) (v3:=.int .i64 0) (v4:=.string ⟨#[]⟩) (v5:=.string ⟨#[]⟩) (v6:=.slice none 0 0) (v7:=.slice none 0 0) HRS.out.cs;simp only[an] at a0 a1 a2 a3 a4 a5 a6 a7;refine bodyPost_ret (v:=.agg #[.int .u8 0,.slice none 0 0,.int .i64 0,.int .i64 0,.string ⟨#[]⟩,.string ⟨#[]⟩,.slice none 0 0,.slice none 0 0]) (by simp[results,Tryz.results24,go_sem,a0,a1,a2,a3,a4,a5,a6,a7]) rfl ?_;rw[HV.out];refine⟨0,none,0,0,0,0,⟨#[]⟩,⟨#[]⟩,none,0,0,none,0,0,rfl,⟨[],[],[],rfl,⟨rfl,ah _,aE _,.inl rfl⟩,ce.nil _ _ (aE _),ce.nil _ _ (aE _)⟩,⟨.inl rfl,_,dX.zero _ _ _⟩,?_⟩;exact cH (af HB0.out HB1.out) (by omega)
def jY(v v':Value)(n m:Nat)(w w':World):Prop:=
 (∃g cap,v= .slice (some ⟨g,0,none⟩) n cap/\n+m<=cap/\v'= .slice (some ⟨g,0,none⟩) (n+m) cap/\w.grownBy w' (some g))∨
 (∃cap,v'= .slice (some ⟨w.heap.size,0,none⟩) (n+m) cap/\w.heap.size<w'.heap.size/\w.grownBy w' none/\∀A c,v= .slice A n c->c<n+m)
section
variable {P:Program} (w:World)
theorem Od(base:Nat)(t ty e:TypeId)(i:TypeInfo)(z:Value)(size bytes:Nat)(ht:P.underlying t=some (.slice e))(hi:P.info? e=some i)(hz:i.zero=some z)(hsize:i.size=size)(hby:i.bytes=bytes)(hzs:z.cells.size=size)(hsz:0<size)(v:Value)(n:Nat)(xs:List Value)(hown:w.ownsRow base e size v n xs)(a:Addr)(m c:Nat)(news:List Value)(hl:news.length=m*size)(hnews:∀j u,news[j]? =some u->w.cell? (a.add j)=some u)(h1:∀u∈news,u.oneCell'=true)(hm:0<m)(h63:n+m<=maxLen)(hbytes:(n+m) *bytes<=140737488355328)(hbase:base<=w.heap.size):∃v' w',(Builtin.append_ #[t,t] ty #[v,.slice (some a) m c]).run P w= .ok v' w'/\w'.ownsRow base e size v' (n+m) (xs++news)/\jY v v' n m w w':=by
 obtain⟨v',w',hr,h2,h3,_⟩:=run_append_own (P:=P) w base t ty e i z size bytes ht hi hz hsize hby hzs hsz v n xs hown a m c news hl hnews h1 h63 hbytes hbase;refine⟨v',w',hr,h2,?_⟩;have hsmall:n+m<=9223372036854775807:=(by simp only[maxLen] at h63;omega);subst hsize;subst hby;rcases hown.2 with ⟨rfl,rfl⟩|⟨g,cap,cur,rfl,hbg,hg,hnc,hcm,hcs,htake⟩
 .right;have hq:=run_append_nil (P:=P) w t ty e i z ht hi hz a m c news hl hnews hm (by omega) (by have hb:=hbytes;simp only[Nat.zero_add] at hb;omega);rw[hq] at hr;injection hr with e1 e2;subst e1 e2;exact⟨_,by rw[Nat.zero_add],by simp,⟨rfl,rfl,rfl,by simp,fun k hk _=>heap_alloc_old w.drew _ (by simpa using hk)⟩,fun A c e=>by injection e;omega⟩
 .by_cases hroom:n+m<=cap
  .left;have hfit:n*i.size+news.length<=cur.size:=(by rw[hl,hcs,<-Nat.add_mul];exact Nat.mul_le_mul_right _ hroom);have hq:=run_append_room (P:=P) w t ty e i ht hi g n cap cur hg a m c news hl hnews h1 hroom hfit;rw[hq] at hr;injection hr with e1 e2;subst e1 e2;exact⟨g,cap,rfl,hroom,rfl,h3⟩
  .right;have holds:∀j u,xs[j]? =some u->w.cell? ((⟨g,0,none⟩:Addr).add j)=some u:=hown.cells (g:=g) rfl;have hq:=run_append_grow (P:=P) w t ty e i z ht hi hz ⟨g,0,none⟩ n cap xs hown.1 holds a m c news hl hnews (by omega) (by omega) (growslice_fits (by omega) hbytes);rw[hq] at hr;injection hr with e1 e2;subst e1 e2;exact⟨_,rfl,by simp,⟨rfl,rfl,rfl,by simp,fun k hk _=>heap_alloc_old w.drew _ (by simpa using hk)⟩,fun A c e=>by injection e;omega⟩
theorem kW{ops:Array Oper}{rest:List Oper}{o:Oper}{a:Act}{Q:Exit->Act->World->Prop}(hgd:o.guard=none)(s x:Operand)(t:TypeId)(ho:o.op= .call { callee:=.builtin .append,args:=#[s,x],argTypes:=#[t,t] })(base:Nat)(e:TypeId)(i:TypeInfo)(z:Value)(size bytes:Nat)(ht:P.underlying t=some (.slice e))(hi:P.info? e=some i)(hz:i.zero=some z)(hsize:i.size=size)(hby:i.bytes=bytes)(hzs:z.cells.size=size)(hsz:0<size)(v:Value)(n:Nat)(xs:List Value)(hs:a.eval s=v)(hown:w.ownsRow base e size v n xs)(ad:Addr)(m c:Nat)(news:List Value)(hx:a.eval x= .slice (some ad) m c)(hl:news.length=m*size)(hnews:∀j u,news[j]? =some u->w.cell? (ad.add j)=some u)(h1:∀u∈news,u.oneCell'=true)(hm:0<m)(h63:n+m<=maxLen)(hbytes:(n+m) *bytes<=140737488355328)(hbase:base<=w.heap.size)(h:∀v' w',w'.ownsRow base e size v' (n+m) (xs++news)->jY v v' n m w w'->wpList P ops Q rest (a.put o.dst v') w'):wpList P ops Q (o::rest) a w:=
 wpList_plain hgd fun K hK=>by obtain⟨v',w',hr,h2,h3⟩:=Od (P:=P) w base t o.type e i z size bytes ht hi hz hsize hby hzs hsz v n xs hown ad m c news hl hnews h1 hm h63 hbytes hbase;unfold Oper.wp execOp;simp only[ho,resolve,invoke,builtin,Sem.run_bind,Sem.run_pure,Result.andThen_ok,List.map_toArray,List.map_cons,List.map_nil,hs,hx,hr];exact hK _ _ (h v' w' h2 h3)
end
theorem jY.form{v v':Value}{n m:Nat}{w w':World}(h:jY v v' n m w w'):∃g c,v'= .slice (some ⟨g,0,none⟩) (n+m) c/\(v.ownBlock=some g∨g=w.heap.size):=by
 rcases h with ⟨g,cap,rfl,_,rfl,_⟩|⟨cap,rfl,_,_⟩
 .exact⟨g,cap,rfl,.inl rfl⟩
 .exact⟨_,_,rfl,.inr rfl⟩
structure cg (S:Nat->Prop) (w w':World):Prop where
 os:w'.os=w.os
 tape:w'.tape=w.tape
 output:w'.output=w.output
 size:w.heap.size<=w'.heap.size
 keep:∀k,k<w.heap.size->¬S k->w'.heap[k]? =w.heap[k]?
theorem cg.refl(S:Nat->Prop)(w:World):cg S w w:=⟨rfl,rfl,rfl,ah _,fun _ _ _=>rfl⟩
theorem cg.trans{S S':Nat->Prop}{w w1 w2:World}(h:cg S w w1)(h':cg S' w1 w2)(hs:∀k,k<w.heap.size->S' k->S k):cg S w w2:=
 ⟨h'.os.trans h.os,h'.tape.trans h.tape,h'.output.trans h.output,aJ h.size h'.size,fun k hk hS=>(h'.keep k (fJ hk h.size) (fun h1=>hS (hs k hk h1))).trans (h.keep k hk hS)⟩
theorem cg.mono{S S':Nat->Prop}{w w1:World}(h:cg S w w1)(hs:∀k,k<w.heap.size->S k->S' k):cg S' w w1:=
 ⟨h.os,h.tape,h.output,h.size,fun k hk hS=>h.keep k hk (fun h1=>hS (hs k hk h1))⟩
theorem cg.below{S:Nat->Prop}{w w':World}{B:Nat}(h:cg S w w')(hB:B<=w.heap.size)(hs:∀k,S k->B<=k):Below B w w':=
 ⟨h.os,h.tape,h.output,h.size,fun k hk=>h.keep k (fJ hk hB) (fun h1=>by have:=hs k h1;omega)⟩
theorem cg.of_below{S:Nat->Prop}{w w':World}(h:Below w.heap.size w w'):cg S w w':=⟨h.os,h.tape,h.output,h.size,fun k hk _=>h.block k hk⟩
theorem cg.then_below{S:Nat->Prop}{w w1 w':World}(h:cg S w w1)(hb:Below w1.heap.size w1 w'):cg S w w':=h.trans (S':=S) (cg.of_below hb) (fun _ _ h=>h)
theorem cg.set{S:Nat->Prop}{w w1:World}(h:cg S w w1){a:Addr}(ha:w.heap.size<=a.block∨S a.block)(u:Value):cg S w (w1.setCell a u):=
 ⟨h.os,h.tape,h.output,by have:=h.size;simpa using this,fun k hk hS=>by rw[aY _ _ _ _ (fun e=>by subst e;rcases ha with ha|ha;omega;exact hS ha)];exact h.keep k hk hS⟩
theorem cg.grown{S:Nat->Prop}{w w1 w2:World}{r:Option Nat}(h:cg S w w1)(hg:w1.grownBy w2 r)(hr:∀k,r=some k->w.heap.size<=k∨S k):cg S w w2:=
 ⟨hg.os.trans h.os,hg.tape.trans h.tape,hg.output.trans h.output,aJ h.size hg.size,fun k hk hS=>(hg.block k (fJ hk h.size) (fun e=>by rcases hr k e.symm with h1|h1;omega;exact hS h1)).trans (h.keep k hk hS)⟩
theorem cg.alloc{S:Nat->Prop}{w w1:World}(h:cg S w w1)(o:Obj):cg S w (w1.alloc o):=h.then_below ((ai _ _).alloc (ah _) o)
theorem cg.drew{S:Nat->Prop}{w w1:World}(h:cg S w w1):cg S w w1.drew:=h.then_below (ua (ai _ _))
def Cd(w:World)(p:List Int)(v:Value):Prop:=∃A c,v= .slice A p.length c/\cc w p A p.length c/\bT w p A
def Cc(S:Nat->Prop)(w:World):Prop:=∀k,S k->∀cs fr,w.heap[k]? ≠some (.cells cs 3 fr)
theorem C8{S:Nat->Prop}{w w':World}{p:List Int}{A:Option Addr}{n c:Nat}(h:cc w p A n c)(ht:bT w p A)(ho:cg S w w')(hS:Cc S w):cc w' p A n c/\bT w' p A:=by
 obtain⟨h1,h2,h3,h4⟩:=h;by_cases hp:p=[]
 .exact⟨⟨h1,h2,h3,.inl hp⟩,.inl hp⟩
 .rcases ht with e|⟨b,o,cs,fr,e,hh⟩
  .exact absurd e hp
  rcases h4 with e'|⟨b',o',e',hr⟩
  .exact absurd e' hp
  rw[e] at e';injection e' with e';injection e' with e1 e2 e3;subst e1 e2;have hb:=ho.keep b (aK.1 hh).1 (fun hs=>hS b hs cs fr hh);refine⟨⟨h1,h2,h3,.inr ⟨b,o,e,fun j z hz=>?_⟩⟩,.inr ⟨b,o,cs,fr,e,hb.trans hh⟩⟩;rw[World.cell?_of_block hb];exact hr j z hz
theorem Cd.only{S:Nat->Prop}{w w':World}{p:List Int}{v:Value}(h:Cd w p v)(ho:cg S w w')(hS:Cc S w):Cd w' p v:=by obtain⟨A,c,e,h1,h2⟩:=h;obtain⟨h3,h4⟩:=C8 h1 h2 ho hS;exact⟨A,c,e,h3,h4⟩
theorem Cd.below{w w':World}{p:List Int}{v:Value}(h:Cd w p v)(hb:Below w.heap.size w w'):Cd w' p v:=by obtain⟨A,c,e,h1,h2⟩:=h;exact⟨A,c,e,h1.below hb,h2.below hb⟩
theorem Dd{S:Nat->Prop}{w w':World}{base:Nat}{e:TypeId}{size:Nat}{v:Value}{n:Nat}{xs:List Value}(h:w.ownsRow base e size v n xs)(ho:cg S w w')(hS:∀k,v.ownBlock=some k->¬S k):w'.ownsRow base e size v n xs:=by obtain⟨h1,h2⟩:=h;refine⟨h1,h2.imp id ?_⟩;rintro⟨g,cap,cur,rfl,hg,hh,r⟩;exact⟨g,cap,cur,rfl,hg,(ho.keep g (aK.1 hh).1 (hS g rfl)).trans hh,r⟩
theorem CF{S:Nat->Prop}{w w':World}{b:Nat}{l:List (ar×Value)}(h:ci w b l)(ho:cg S w w')(hS:¬S b):ci w' b l:=by have hlt:=h.lt;obtain⟨es,clock,hb,e⟩:=h;exact⟨es,clock,(ho.keep b hlt hS).trans hb,e⟩
theorem hX{w:World}{base:Nat}{e:TypeId}{size:Nat}{v:Value}{n:Nat}{xs:List Value}(h:w.ownsRow base e size v n xs){k:Nat}(hk:v.ownBlock=some k):base<=k/\∃cs fr,w.heap[k]? =some (.cells cs e fr):=by
 rcases h.2 with ⟨rfl,_⟩|⟨g,cap,cur,rfl,hg,hh,_⟩
 .cases hk
 .simp only[Value.ownBlock,Option.some.injEq] at hk;subst hk;exact⟨hg,_,_,hh⟩
structure cz where
 adr:Nat
 pv:Value
 uv:Value
 us:List Value
def C5(w:World)(us:List Value)(ps:List (List Int)):Prop:=us.length=ps.length/\∀(j:Nat) (u:Value) (p:List Int),us[j]? =some u->ps[j]? =some p->Cd w p u
structure DM (w:World) (B:Nat) (r:cz) (s:ar) (m:Nat) (p:List Int) (us:List (List Int)):Prop where
 box:w.heap[r.adr]? =some (.cells #[r.pv,.string (sb s),r.uv,.int .i64 m] 139 (0,0))
 lo:B<=r.adr
 path:Cd w p r.pv
 row:w.ownsRow B 27 1 r.uv r.us.length r.us
 uses:C5 w r.us us
theorem C5.only{S:Nat->Prop}{w w':World}{us:List Value}{ps:List (List Int)}(h:C5 w us ps)(ho:cg S w w')(hS:Cc S w):C5 w' us ps:=⟨h.1,fun j u p hu hp=>(h.2 j u p hu hp).only ho hS⟩
theorem C5.push{w:World}{us:List Value}{ps:List (List Int)}(h:C5 w us ps){u:Value}{p:List Int}(hp:Cd w p u):C5 w (us++[u]) (ps++[p]):=by
 refine⟨by simp[h.1],fun j v q hv hq=>?_⟩;by_cases hj:j<us.length
 .rw[cM hj] at hv;rw[cM (by have:=h.1;omega)] at hq;exact h.2 j v q hv hq
 .rw[eK (by omega)] at hv;rw[eK (by have:=h.1;omega)] at hq;rw[<-h.1] at hq;cases hn:j - us.length with
  |zero=>rw[hn] at hv hq;simp at hv hq;subst hv hq;exact hp
  |succ n=>rw[hn] at hv;simp at hv
theorem DM.only{S:Nat->Prop}{w w':World}{B:Nat}{r:cz}{s:ar}{m:Nat}{p:List Int}{us:List (List Int)}(h:DM w B r s m p us)(ho:cg S w w')(hS:Cc S w)(h1:¬S r.adr)(h2:∀k,r.uv.ownBlock=some k->¬S k):DM w' B r s m p us:=
 ⟨(ho.keep _ (aK.1 h.box).1 h1).trans h.box,h.lo,h.path.only ho hS,Dd h.row ho h2,h.uses.only ho hS⟩
def cn(recs:List cz):List Nat:=recs.map cz.adr
def lc(ads:List Nat)(i:Nat):Nat:=ads.getD i 0
def i7(ads:List Nat)(i:Nat):Value:=.pointer (some ⟨lc ads i,0,none⟩)
theorem FO{ads l:List Nat}{i:Nat}(h:i<ads.length):i7 (ads++l) i=i7 ads i:=by unfold i7 lc;rw[List.getD_eq_getElem?_getD,List.getD_eq_getElem?_getD,cM h]
def C1:Value:=.func (.func 159) #[] #[]
structure eP (w:World) (B wb fm:Nat) (recs:List cz) (av:Value) (st:bo):Prop where
 box:w.heap[wb]? =some (.cells #[.pointer none,.map (some fm),av,.int .i64 st.at_,C1] 188 (0,0))
 lo:B<=wb
 len:recs.length=st.bs.length
 recA:∀(i:Nat) (r:cz),recs[i]? =some r->∃p us,ln st i=p::us/\DM w B r (fc st i) (j8 st i) p us
 row:w.ownsRow B 137 1 av st.all.length (st.all.map (i7 (cn recs)))
 ids:∀i∈st.all,i<recs.length
 evs:∀e∈st.ev,e.2<recs.length
 nd:(cn recs).Nodup
 ub:∀(i j:Nat) (ri rj:cz) (k:Nat),recs[i]? =some ri->recs[j]? =some rj->ri.uv.ownBlock=some k->rj.uv.ownBlock=some k->i=j
def gp(wb:Nat)(recs:List cz)(av:Value)(k:Nat):Prop:=k=wb∨(∃r∈recs,k=r.adr∨r.uv.ownBlock=some k)∨av.ownBlock=some k
theorem eP.lows{w:World}{B wb fm:Nat}{recs:List cz}{av:Value}{st:bo}(h:eP w B wb fm recs av st):∀k,gp wb recs av k->B<=k/\k<w.heap.size:=by
 rintro k (rfl|⟨r,hr,rfl|hk⟩|hk)
 .exact⟨h.lo,(aK.1 h.box).1⟩
 .obtain⟨i,hi⟩:=List.mem_iff_getElem?.1 hr;obtain⟨p,us,_,hR⟩:=h.recA i r hi;exact⟨hR.lo,(aK.1 hR.box).1⟩
 .obtain⟨i,hi⟩:=List.mem_iff_getElem?.1 hr;obtain⟨p,us,_,hR⟩:=h.recA i r hi;exact hR.row.lt k hk
 .exact h.row.lt k hk
theorem eP.types{w:World}{B wb fm:Nat}{recs:List cz}{av:Value}{st:bo}(h:eP w B wb fm recs av st):∀k,gp wb recs av k->∃cs T fr,w.heap[k]? =some (.cells cs T fr)/\(T=188∨T=139∨T=27∨T=137):=by
 rintro k (rfl|⟨r,hr,rfl|hk⟩|hk)
 .exact⟨_,_,_,h.box,.inl rfl⟩
 .obtain⟨i,hi⟩:=List.mem_iff_getElem?.1 hr;obtain⟨p,us,_,hR⟩:=h.recA i r hi;exact⟨_,_,_,hR.box,.inr (.inl rfl)⟩
 .obtain⟨i,hi⟩:=List.mem_iff_getElem?.1 hr;obtain⟨p,us,_,hR⟩:=h.recA i r hi;obtain⟨_,cs,fr,hh⟩:=hX hR.row hk;exact⟨_,_,_,hh,.inr (.inr (.inl rfl))⟩
 .obtain⟨_,cs,fr,hh⟩:=hX h.row hk;exact⟨_,_,_,hh,.inr (.inr (.inr rfl))⟩
theorem eP.only{S:Nat->Prop}{w w':World}{B wb fm:Nat}{recs:List cz}{av:Value}{st:bo}(h:eP w B wb fm recs av st)(ho:cg S w w')(hS:Cc S w)(hd:∀k,gp wb recs av k->¬S k):eP w' B wb fm recs av st:=by refine⟨(ho.keep _ (aK.1 h.box).1 (hd wb (.inl rfl))).trans h.box,h.lo,h.len,fun i r hr=>?_,Dd h.row ho (fun k hk=>hd k (.inr (.inr hk))),h.ids,h.evs,h.nd,h.ub⟩;obtain⟨p,us,e,hR⟩:=h.recA i r hr;have hm:r∈recs:=List.mem_iff_getElem?.2 ⟨i,hr⟩;exact⟨p,us,e,hR.only ho hS (hd _ (.inr (.inl ⟨r,hm,.inl rfl⟩))) (fun k hk=>hd k (.inr (.inl ⟨r,hm,.inr hk⟩)))⟩
theorem eP.below{w w':World}{B wb fm:Nat}{recs:List cz}{av:Value}{st:bo}(h:eP w B wb fm recs av st)(hb:Below w.heap.size w w'):eP w' B wb fm recs av st:=
 h.only (S:=fun _=>False) (cg.of_below hb) (fun _ h=>h.elim) (fun _ _ h=>h)
theorem Cf{w:World}{b j:Nat}{cs:Array Value}{T:TypeId}{u:Value}(h:w.heap[b]? =some (.cells cs T (0,0))):(w.setCell ⟨b,j,none⟩ u).heap[b]? =some (.cells (cs.setIfInBounds j u) T (0,0)):=by have hl:b<w.heap.size:=(aK.1 h).1;unfold World.setCell;simp only[Array.getElem?_modify,if_true];rw[h];rfl
theorem eP.wb_ne{w:World}{B wb fm:Nat}{recs:List cz}{av:Value}{st:bo}(h:eP w B wb fm recs av st){r:cz}(hr:r∈recs):r.adr≠wb/\∀k,r.uv.ownBlock=some k->k≠wb:=by
 obtain⟨i,hi⟩:=List.mem_iff_getElem?.1 hr;obtain⟨p,us,_,hR⟩:=h.recA i r hi;refine⟨fun e=>?_,fun k hk e=>?_⟩
 .have h1:=hR.box;rw[e,h.box] at h1;simp at h1
 .obtain⟨_,cs,fr,hh⟩:=hX hR.row hk;rw[e,h.box] at hh;simp at hh
theorem eP.setBox{w:World}{B wb fm:Nat}{recs:List cz}{av:Value}{st:bo}(h:eP w B wb fm recs av st){w':World}{av':Value}{st':bo}(hw:cg (fun k=>k=wb) w w')(hbox:w'.heap[wb]? =some (.cells #[.pointer none,.map (some fm),av',.int .i64 st'.at_,C1] 188 (0,0)))(hrow:w'.ownsRow B 137 1 av' st'.all.length (st'.all.map (i7 (cn recs))))(hids:∀i∈st'.all,i<recs.length)(e1:st'.bs=st.bs)(e2:st'.ev=st.ev):eP w' B wb fm recs av' st':=by have hN:Cc (fun k=>k=wb) w:=(by rintro k rfl cs fr e;rw[h.box] at e;simp at e);refine⟨hbox,h.lo,by rw[h.len,e1],fun i r hr=>?_,hrow,hids,by rw[e2];exact h.evs,h.nd,h.ub⟩;obtain⟨p,us,e,hR⟩:=h.recA i r hr;have hne:=h.wb_ne (List.mem_iff_getElem?.2 ⟨i,hr⟩);refine⟨p,us,by unfold ln at e ⊢;rw[e2];exact e,?_⟩;have:=hR.only hw hN hne.1 (fun k hk=>hne.2 k hk);unfold fc j8 at this ⊢;rw[e1];exact this
theorem FC{l:List Nat}(h:l.Nodup):∀{i j:Nat} {a:Nat},l[i]? =some a->l[j]? =some a->i=j:=by
 induction l with
 |nil=>intro i j a h1;simp at h1
 |cons b l ih=>
  intro i j a h1 h2;simp only[List.nodup_cons] at h;cases i with
  |zero=>
   cases j with
   |zero=>rfl
   |succ j=>simp at h1 h2;subst h1;exact absurd (List.mem_iff_getElem?.2 ⟨j,h2⟩) h.1
  |succ i=>
   cases j with
   |zero=>simp at h1 h2;subst h2;exact absurd (List.mem_iff_getElem?.2 ⟨i,h1⟩) h.1
   |succ j=>simp at h1 h2;rw[ih h.2 h1 h2]
theorem DZ{st:bo}{q:List Int}{i j:Nat}{bs:List (ar×Nat)}{all:List Nat}{a:Nat}:ln ⟨bs,st.ev++[(q,i)],all,a⟩ j=if j=i then ln st j++[q] else ln st j:=by
 unfold ln;rw[List.filter_append,List.map_append];by_cases h:j=i
 .rw[if_pos h];subst h;simp
 .rw[if_neg h];have:(i == j)=false:=by simp;exact fun e=>h e.symm
  simp[this]
theorem Iq{st:bo}{i:Nat}(h:∀e∈st.ev,e.2≠i):ln st i=[]:=by unfold ln;rw[List.map_eq_nil_iff,List.filter_eq_nil_iff];intro e he;simpa using h e he
theorem Hi{st st':bo}{i:Nat}{p:ar×Nat}(h:i<st.bs.length)(e:st'.bs=st.bs++[p]):fc st' i=fc st i/\j8 st' i=j8 st i:=by unfold fc j8;rw[e,cM h];exact⟨rfl,rfl⟩
theorem eP.bind{w:World}{B wb fm:Nat}{recs:List cz}{av:Value}{st:bo}(h:eP w B wb fm recs av st){w':World}{M g:Nat}{av' pv:Value}{s:ar}{q:List Int}(hw:cg (fun k=>k=M∨k=wb∨av.ownBlock=some k) w w')(hM:∃es c,w.heap[M]? =some (.map es c))(hbox:w'.heap[wb]? =some (.cells #[.pointer none,.map (some fm),av',.int .i64 st.at_,C1] 188 (0,0)))(hg:w'.heap[g]? =some (.cells #[pv,.string (sb s),.slice none 0 0,.int .i64 0] 139 (0,0)))(hlo:w.heap.size<=g)(hp:Cd w' q pv)(hrow:w'.ownsRow B 137 1 av' (st.all.length+1) (st.all.map (i7 (cn recs))++[.pointer (some ⟨g,0,none⟩)])):eP w' B wb fm (recs++[⟨g,pv,.slice none 0 0,[]⟩]) av' ⟨st.bs++[(s,0)],st.ev++[(q,st.bs.length)],st.all++[st.bs.length],st.at_⟩:=by
 have hN:Cc (fun k=>k=M∨k=wb∨av.ownBlock=some k) w:=by
  rintro k (rfl|rfl|hk) cs fr e
  .obtain⟨es,c,hh⟩:=hM;rw[hh] at e;simp at e
  .rw[h.box] at e;simp at e
  .obtain⟨_,cs',fr',hh⟩:=hX h.row hk;rw[hh] at e;simp at e
 have hlast:i7 (cn (recs++[⟨g,pv,.slice none 0 0,[]⟩])) st.bs.length= .pointer (some ⟨g,0,none⟩):=by unfold i7 lc cn;rw[<-h.len,List.getD_eq_getElem?_getD,List.map_append,eK (by simp)];simp
 have hBg:B<=g:=aJ (aJ h.lo (Nat.le_of_lt (aK.1 h.box).1)) hlo;refine⟨hbox,h.lo,by simp[h.len],fun i r hr=>?_,?_,fun i hi=>?_,fun e he=>?_,?_,?_⟩
 .by_cases hi:i<recs.length
  .rw[cM hi] at hr;obtain⟨p,us,e,hR⟩:=h.recA i r hr;have hm:r∈recs:=List.mem_iff_getElem?.2 ⟨i,hr⟩;have hil:i<st.bs.length:=(by rw[<-h.len];exact hi);obtain⟨n1,n2⟩:=Hi (st:=st) (st':=⟨st.bs++[(s,0)],st.ev++[(q,st.bs.length)],st.all++[st.bs.length],st.at_⟩) hil rfl;refine⟨p,us,by rw[DZ,if_neg (by omega)];exact e,?_⟩;rw[n1,n2];refine hR.only hw hN ?_ (fun k hk=>?_)
   .rintro(e|e|e)
    .obtain⟨es,c,hh⟩:=hM;rw[<-e,hR.box] at hh;simp at hh
    .exact(h.wb_ne hm).1 e
    .obtain⟨_,cs',fr',hh⟩:=hX h.row e;rw[hR.box] at hh;simp at hh
   .obtain⟨_,cs',fr',hh⟩:=hX hR.row hk;rintro(e|e|e)
    .obtain⟨es,c,hh'⟩:=hM;rw[<-e,hh] at hh';simp at hh'
    .exact(h.wb_ne hm).2 k hk e
    .obtain⟨_,cs'',fr'',hh'⟩:=hX h.row e;rw[hh] at hh';simp at hh'
  .have hi':i=recs.length:=by have:=(gl.1 hr).1;simp at this;omega
   subst hi';rw[eK (ah _)] at hr;simp at hr;subst hr;have hnew:fc ⟨st.bs++[(s,0)],st.ev++[(q,st.bs.length)],st.all++[st.bs.length],st.at_⟩ recs.length=s/\j8 ⟨st.bs++[(s,0)],st.ev++[(q,st.bs.length)],st.all++[st.bs.length],st.at_⟩ recs.length=0:=by unfold fc j8;simp only;rw[h.len,eK (ah _)];simp
   rw[hnew.1,hnew.2];refine⟨q,[],?_,hg,hBg,hp,World.ownsRow_nil _ _ _ _,rfl,fun j u p hu=>by simp at hu⟩;rw[DZ,if_pos h.len,Iq (fun e he=>by have:=h.evs e he;omega)];rfl
 .have e:(st.all++[st.bs.length]).map (i7 (cn (recs++[⟨g,pv,.slice none 0 0,[]⟩])))=st.all.map (i7 (cn recs))++[.pointer (some ⟨g,0,none⟩)]:=by
   rw[List.map_append]
   congr 1
   .refine List.map_congr_left fun i hi=>?_;unfold cn;rw[List.map_append];exact FO (by rw[ny];exact h.ids i hi)
   .simp only[List.map_cons,List.map_nil];rw[hlast]
  rw[e,CD];exact hrow
 .rcases List.mem_append.1 hi with hi|hi
  .have:=h.ids i hi;simp;omega
  .obtain rfl:=List.mem_singleton.1 hi;rw[<-h.len];simp
 .rcases List.mem_append.1 he with he|he
  .have:=h.evs e he;simp;omega
  .obtain rfl:=List.mem_singleton.1 he;rw[<-h.len];simp
 .unfold cn;rw[List.map_append,List.nodup_append];refine⟨h.nd,by simp,fun a ha b hb=>?_⟩;obtain rfl:b=g:=(by simpa using hb);obtain⟨r,hr,rfl⟩:=List.mem_map.1 ha;have:=(h.lows r.adr (.inr (.inl ⟨r,hr,.inl rfl⟩))).2;omega
 .intro i j ri rj k hi hj hki hkj;have hlt:∀(i:Nat) (ri:cz),(recs++[⟨g,pv,.slice none 0 0,[]⟩])[i]? =some ri->ri.uv.ownBlock=some k->recs[i]? =some ri:=by
   intro i ri hi hk;by_cases hil:i<recs.length
   .rw[cM hil] at hi;exact hi
   .rw[eK (by omega)] at hi;cases hn:i - recs.length with
    |zero=>rw[hn] at hi;simp at hi;subst hi;cases hk
    |succ n=>rw[hn] at hi;simp at hi
  exact h.ub i j ri rj k (hlt i ri hi hki) (hlt j rj hj hkj) hki hkj
theorem eP.use{w:World}{B wb fm:Nat}{recs:List cz}{av:Value}{st:bo}(h:eP w B wb fm recs av st){w':World}{i:Nat}{r:cz}(hr:recs[i]? =some r){uv' u:Value}{q:List Int}(hw:cg (fun k=>k=r.adr∨r.uv.ownBlock=some k) w w')(hbox:w'.heap[r.adr]? =some (.cells #[r.pv,.string (sb (fc st i)),uv',.int .i64 (j8 st i)] 139 (0,0)))(hrow:w'.ownsRow B 27 1 uv' (r.us.length+1) (r.us++[u]))(hu:Cd w' q u)(hub:∀k,uv'.ownBlock=some k->r.uv.ownBlock=some k∨w.heap.size<=k):eP w' B wb fm (recs.set i ⟨r.adr,r.pv,uv',r.us++[u]⟩) av ⟨st.bs,st.ev++[(q,i)],st.all,st.at_⟩:=by
 have hil:i<recs.length:=(gl.1 hr).1;have hm:r∈recs:=List.mem_iff_getElem?.2 ⟨i,hr⟩;obtain⟨p0,us0,ep0,hR0⟩:=h.recA i r hr;have hN:Cc (fun k=>k=r.adr∨r.uv.ownBlock=some k) w:=by
  rintro k (rfl|hk) cs fr e
  .rw[hR0.box] at e;simp at e
  .obtain⟨_,cs',fr',hh⟩:=hX hR0.row hk;rw[hh] at e;simp at e
 have ha:cn (recs.set i ⟨r.adr,r.pv,uv',r.us++[u]⟩)=cn recs:=by
  unfold cn;refine List.ext_getElem? fun j=>?_;rw[List.getElem?_map,List.getElem?_map,List.getElem?_set];split
  .rename_i hij;subst hij;rw[hr];rfl
  .rfl
 have hwb:=h.wb_ne hm;refine⟨(hw.keep _ (aK.1 h.box).1 ?_).trans h.box,h.lo,by simp[h.len],fun j rj hj=>?_,?_,by simpa using h.ids,fun e he=>?_,by rw[ha];exact h.nd,?_⟩
 .rintro(e|e)
  .exact hwb.1 e.symm
  .exact hwb.2 _ e rfl
 .rw[List.getElem?_set] at hj;split at hj
  .rename_i hij;subst hij;cases hj
   refine⟨p0,us0++[q],by rw[DZ,if_pos rfl,ep0];rfl,hbox,hR0.lo,hR0.path.only hw hN,by simpa using hrow,(hR0.uses.only hw hN).push hu⟩
  .rename_i hij;obtain⟨p,us,e,hR⟩:=h.recA j rj hj;refine⟨p,us,by rw[DZ,if_neg (fun e=>hij e.symm)];exact e,hR.only hw hN ?_ fun k hk=>?_⟩
   .rintro(e|e)
    .have h1:(cn recs)[i]? =some r.adr:=(by unfold cn;rw[List.getElem?_map,hr];rfl);have h2:(cn recs)[j]? =some r.adr:=(by unfold cn;rw[List.getElem?_map,hj];exact congrArg some e);exact hij (FC h.nd h1 h2)
    .obtain⟨_,cs',fr',hh⟩:=hX hR0.row e;rw[hR.box] at hh;simp at hh
   .rintro(e|e)
    .subst e;obtain⟨_,cs',fr',hh⟩:=hX hR.row hk;rw[hR0.box] at hh;simp at hh
    .exact hij (h.ub i j r rj k hr hj e hk)
 .rw[ha];refine Dd h.row hw fun k hk=>?_;obtain⟨_,cs',fr',hh⟩:=hX h.row hk;rintro(e|e)
  .subst e;rw[hR0.box] at hh;simp at hh
  .obtain⟨_,cs'',fr'',hh'⟩:=hX hR0.row e;rw[hh] at hh';simp at hh'
 .rw[List.length_set];rcases List.mem_append.1 he with he|he
  .exact h.evs e he
  .obtain rfl:=List.mem_singleton.1 he;exact hil
 .intro a b ra rb k h1 h2 hka hkb;have key:∀(a:Nat) (ra:cz),(recs.set i ⟨r.adr,r.pv,uv',r.us++[u]⟩)[a]? =some ra->ra.uv.ownBlock=some k->(∃ro,recs[a]? =some ro/\ro.uv.ownBlock=some k)∨(a=i/\w.heap.size<=k):=by
   intro a ra h1 hk;rw[List.getElem?_set] at h1;split at h1
   .rename_i hia;subst hia;cases h1
    rcases hub k hk with h3|h3
    .exact .inl ⟨r,hr,h3⟩
    .exact .inr ⟨rfl,h3⟩
   .exact .inl ⟨ra,h1,hk⟩
  have hsm:∀(a:Nat) (ro:cz),recs[a]? =some ro->ro.uv.ownBlock=some k->k<w.heap.size:=fun a ro h1 h2=>(h.lows k (.inr (.inl ⟨ro,List.mem_iff_getElem?.2 ⟨a,h1⟩,.inr h2⟩))).2;rcases key a ra h1 hka with ⟨ro,h3,h4⟩|⟨h3,h4⟩
  .rcases key b rb h2 hkb with ⟨ro',h5,h6⟩|⟨h5,h6⟩
   .exact h.ub a b ro ro' k h3 h5 h4 h6
   .have:=hsm a ro h3 h4;omega
  .rcases key b rb h2 hkb with ⟨ro',h5,h6⟩|⟨h5,h6⟩
   .have:=hsm b ro' h5 h6;omega
   .omega
theorem eP.many{w:World}{B wb fm:Nat}{recs:List cz}{av:Value}{st:bo}(h:eP w B wb fm recs av st){w':World}{i n:Nat}{r:cz}(hr:recs[i]? =some r)(hw:cg (fun k=>k=r.adr) w w')(hbox:w'.heap[r.adr]? =some (.cells #[r.pv,.string (sb (fc st i)),r.uv,.int .i64 n] 139 (0,0))):eP w' B wb fm recs av (la st i n):=by
 have hil:i<recs.length:=(gl.1 hr).1;have hm:r∈recs:=List.mem_iff_getElem?.2 ⟨i,hr⟩;obtain⟨p0,us0,ep0,hR0⟩:=h.recA i r hr;have hN:Cc (fun k=>k=r.adr) w:=by rintro k rfl cs fr e;rw[hR0.box] at e;simp at e
 have hwb:=h.wb_ne hm;have hnm:∀j,j<st.bs.length->fc (la st i n) j=fc st j/\j8 (la st i n) j=if j=i then n else j8 st j:=by intro j hj;unfold fc j8 la;simp only[List.getElem?_mapIdx,br hj,Option.map_some,Option.getD_some];split<;>exact⟨rfl,rfl⟩
 refine⟨(hw.keep _ (aK.1 h.box).1 (fun e=>hwb.1 e.symm)).trans h.box,h.lo,by simp[la,h.len],fun j rj hj=>?_,Dd h.row hw fun k hk=>?_,h.ids,h.evs,h.nd,h.ub⟩
 .obtain⟨p,us,e,hR⟩:=h.recA j rj hj;have hjl:j<st.bs.length:=(by rw[<-h.len];exact(gl.1 hj).1);obtain⟨n1,n2⟩:=hnm j hjl;refine⟨p,us,e,?_⟩;rw[n1,n2];by_cases hij:j=i
  .subst hij;rw[hr] at hj;cases hj
   rw[if_pos rfl];exact⟨hbox,hR.lo,hR.path.only hw hN,Dd hR.row hw fun k hk e=>by subst e;obtain⟨_,cs',fr',hh⟩:=hX hR.row hk;rw[hR.box] at hh;simp at hh,hR.uses.only hw hN⟩
  .rw[if_neg hij];refine hR.only hw hN (fun e=>?_) fun k hk e=>?_
   .have h1:(cn recs)[i]? =some r.adr:=(by unfold cn;rw[List.getElem?_map,hr];rfl);have h2:(cn recs)[j]? =some r.adr:=(by unfold cn;rw[List.getElem?_map,hj];exact congrArg some e);exact hij (FC h.nd h2 h1)
   .subst e;obtain⟨_,cs',fr',hh⟩:=hX hR.row hk;rw[hR0.box] at hh;simp at hh
 .intro e;subst e;obtain⟨_,cs',fr',hh⟩:=hX h.row hk;rw[hR0.box] at hh;simp at hh
def fy(ads:List Nat)(m:bq):List (ar×Value):=m.map fun p=>(p.1,i7 ads p.2)
theorem De{ads:List Nat}{s:ar}:∀(m:bq),(fy ads m).lookup s=(bn m s).map (i7 ads)
 |[]=>rfl
 |(x,i) ::m=>by
  show((x,i7 ads i) ::fy ads m).lookup s=_;unfold bn;rw[List.lookup_cons];by_cases h:x=s
  .subst h;simp
  .rw[if_neg h,De m];have:(s == x)=false:=by simp;exact fun e=>h e.symm
   rw[this]
theorem EF{ads l:List Nat}{m:bq}(h:fv ads.length m):fy (ads++l) m=fy ads m:=by unfold fy;refine List.map_congr_left fun p hp=>?_;rw[FO (h p hp)]
def kc(w:World)(ads:List Nat):List bq->List Nat->Value->Prop
 |[],ms,v=>ms=[]/\v= .pointer none
 |m::out,ms,v=>∃b v' M ms',ms=M::ms'/\v= .pointer (some ⟨b,0,none⟩)/\w.heap[b]? =some (.cells #[v',.map (some M)] 225 (0,0))/\ci w M (fy ads m)/\kc w ads out ms' v'
theorem kc.only{S:Nat->Prop}{w w':World}{ads:List Nat}(ho:cg S w w')(hT:∀k,S k->∀cs fr,w.heap[k]? ≠some (.cells cs 225 fr)):∀{out:List bq} {ms:List Nat} {v:Value},kc w ads out ms v->(∀M∈ms,¬S M)->kc w' ads out ms v
 |[],ms,v,h,_=>h
 |m::out,ms,v,h,hM=>by obtain⟨b,v',M,ms',rfl,rfl,hb,hm,hr⟩:=h;exact⟨b,v',M,ms',rfl,rfl,(ho.keep b (aK.1 hb).1 (fun hS=>hT b hS _ _ hb)).trans hb,CF hm ho (hM M (List.mem_cons_self ..)),hr.only ho hT fun M h=>hM M (List.mem_cons_of_mem _ h)⟩
theorem kc.below{w w':World}{ads:List Nat}(hb:Below w.heap.size w w'){out:List bq}{ms:List Nat}{v:Value}(h:kc w ads out ms v):kc w' ads out ms v:=
 h.only (S:=fun _=>False) (cg.of_below hb) (fun _ h=>h.elim) (fun _ _ h=>h)
theorem kc.more{w:World}{ads l:List Nat}:∀{out:List bq} {ms:List Nat} {v:Value},kc w ads out ms v->(∀m∈out,fv ads.length m)->kc w (ads++l) out ms v
 |[],ms,v,h,_=>h
 |m::out,ms,v,h,hI=>by obtain⟨b,v',M,ms',rfl,rfl,hb,hm,hr⟩:=h;exact⟨b,v',M,ms',rfl,rfl,hb,by rw[EF (hI m (List.mem_cons_self ..))];exact hm,hr.more fun m h=>hI m (List.mem_cons_of_mem _ h)⟩
theorem kc.lt{w:World}{ads:List Nat}:∀{out:List bq} {ms:List Nat} {v:Value},kc w ads out ms v->∀M∈ms,M<w.heap.size
 |[],ms,v,h,M,hM=>by rw[h.1] at hM;cases hM
 |m::out,ms,v,h,M,hM=>by
  obtain⟨b,v',M',ms',rfl,rfl,hb,hm,hr⟩:=h;rcases List.mem_cons.1 hM with rfl|hM
  .exact hm.lt
  .exact hr.lt M hM
end Go.Proofs.YtfipahjodfminaaGreatDoor
