/- Part 15 of the proof. -/
import Derived.Test.YtlkmefhogabgdaaGreatDoorMnG
import Derived.Test.YtlkmefhogabgdaaGreatDoorMnN
namespace Go.Proofs.YtlkmefhogabgdaaGreatDoor
open Go.RowKit
set_option linter.all false
set_option maxHeartbeats 40000000
set_option maxRecDepth 100000
theorem yh(ps:List Int)(os ns:List ag)(pA:Option Addr)(pn pc:Nat)(i j:Int)(f t:ByteArray)(oA:Option Addr)(on oc:Nat)(nA:Option Addr)(nn nc:Nat)(w:World)(hp:aA w ps pA pn pc)(ho:KidsAt w os oA on oc)(hn:KidsAt w ns nA nn nc)(hE:bI w)(hsz:f.size+t.size<=9223372036854775806)(hso:bi 9223372036854775806 os)(hsn:bi 9223372036854775806 ns):Calls Tryz.prog 22 #[.agg #[.int .u8 5,.slice pA pn pc,.int .i64 i,.int .i64 j,.string f,.string t,.slice oA on oc,.slice nA nn nc]] w (ak (ap ⟨5,ps,i,j,bl f,bl t,os,ns⟩) w):=by
 have hb0:Below w.heap.size w (w.alloc (.cells #[.int .u8 5,.slice pA pn pc,.int .i64 i,.int .i64 j,.string f,.string t,.slice oA on oc,.slice nA nn nc] 26)):=(ai _ _).alloc (ah _) _;have HB0:=aa hb0;have HE:=aa (hE.below hb0 (ah _));have HP:=aa (hp.below hb0);have HO:=aa (ho.below hb0);have HN:=aa (hn.below hb0);have HR:=aa (kw ⟨5,ps,i,j,bl f,bl t,os,ns⟩);have HBX:=aa (bw.new (w:=w) (x0:=.int .u8 5) (x1:=.slice pA pn pc) (x2:=.int .i64 i) (x3:=.int .i64 j) (x4:=.string f) (x5:=.string t) (x6:=.slice oA on oc) (x7:=.slice nA nn nc) (T:=26));have HSO:=aa hso;have HSN:=aa hsn;have HLP:Hid (pn=ps.length):=hp.1;have HLO:Hid (on=os.length):=ho.1;have HLN:Hid (nn=ns.length):=hn.1;have hfs:f.size<=9223372036854775806:=(by omega);have hts:t.size<=9223372036854775806:=(by omega);have hpn:pn<=9223372036854775807:=(by have h1:=hp.2.1;have h2:=hp.2.2.1;unfold maxLen at h2;omega);have hon:on<=9223372036854775807:=(by have h1:=ho.2.1;have h2:=ho.2.2.1;unfold maxLen at h2;omega);have hnn:nn<=9223372036854775807:=(by have h1:=hn.2.1;have h2:=hn.2.2.1;unfold maxLen at h2;omega);have hcf:=jy;clear hb0 hE hp ho hn hso hsn
 go_in
 go_wp2_with fail
 go_quiet (fail)
 go_wp2_with fail;refine(kG ps _ _ _ _ (HP.out.below (ax (ai _ _) _))).mono ?_;rintro e wq ⟨rfl,q1,rfl⟩;cases ha:ps.all aH with
 |false=>have HV:Hid (ap _=false):=HR.out.trans (by simp[aI,aq,aG,aF,ha]);go_wp2_with fail;go_ret;exact ak.intro HV.out.symm (ax HB0.out _)
 |true=>
  go_wp2_with fail;refine(fT i _).mono ?_;rintro e wq ⟨rfl,q2,rfl⟩;cases hi:aH i with
  |false=>have HV:Hid (ap _=false):=HR.out.trans (by simp[aI,aq,aG,aF,ha,hi]);go_wp2_with fail;go_ret;exact ak.intro HV.out.symm (ax HB0.out _)
  |true=>
   go_wp2_with fail;refine(fT j _).mono ?_;rintro e wq ⟨rfl,q3,rfl⟩;cases hj:aH j with
   |false=>have HV:Hid (ap _=false):=HR.out.trans (by simp[aI,aq,aG,aF,ha,hi,hj]);go_wp2_with fail;go_ret;exact ak.intro HV.out.symm (ax HB0.out _)
   |true=>
    cases hij:(i == j) with
    |true=>have q_hij:(i != j)=false:=(by simpa using hij);have HV:Hid (ap _=false):=HR.out.trans (by simp[aI,aq,aG,aF,ha,hi,hj,hij]);go_wp2_with fail;go_ret;exact ak.intro HV.out.symm (ax HB0.out _)
    |false=>
     have n_hij:(i != j)=true:=(by simpa using hij);cases hj0:(j == 0) with
     |false=>
      have n_hj0:(j != 0)=true:=(by simpa using hj0);go_wp2_with fail;cases hem:(bl f++bl t).isEmpty with
      |false=>
       have hne:(!(f++t).toList.isEmpty)=true:=(by rw[bG,eS,hem];rfl);refine(cW f _ (HE.out.below (ax (ai _ _) _) (ah _)) hfs).mono ?_;rintro e w1 ⟨rfl,hb1⟩;have HA1:=aa (af (ax (ai _ _) _) hb1);clear hb1;obtain⟨c0,c1,c2,c3,c4,c5,c6,c7⟩:=HBX.out.below HA1.out;cases hf:be (bl f) with
       |false=>have HV:Hid (ap _=false):=HR.out.trans (by simp[aI,aq,aG,aF,ha,hi,hj,hij,hj0,hem,hf]);go_wp2_with fail;go_ret;exact ak.intro HV.out.symm (af HB0.out HA1.out)
       |true=>
        go_wp2_with fail;refine(cW t _ (HE.out.below HA1.out (ah _)) hts).mono ?_;rintro e w2 ⟨rfl,hb2⟩;have HA2:=aa (af HA1.out hb2);clear hb2;clear c0 c1 c2 c3 c4 c5 c6 c7;obtain⟨c0,c1,c2,c3,c4,c5,c6,c7⟩:=HBX.out.below HA2.out;cases ht:be (bl t) with
        |false=>have HV:Hid (ap _=false):=HR.out.trans (by simp[aI,aq,aG,aF,ha,hi,hj,hij,hj0,hem,hf,ht]);go_wp2_with fail;go_ret;exact ak.intro HV.out.symm (af HB0.out HA2.out)
        |true=>
         cases hft:(bl f == bl t) with
         |true=>obtain rfl:=fk (by simpa using hft);have HV:Hid (ap _=false):=HR.out.trans (by simp[aI,aq,aG,aF,ha,hi,hj,hij,hj0,hem,hf,ht,hft]);go_wp2_with fail;go_ret;exact ak.intro HV.out.symm (af HB0.out HA2.out)
         |false=>have e0:(f.toList == t.toList)=false:=fW (by simpa using hft);have HV:Hid (ap _=false):=HR.out.trans (by simp[aI,aq,aG,aF,ha,hi,hj,hij,hj0,hem,hf,ht,hft]);go_wp2_with fail;go_ret;exact ak.intro HV.out.symm (af HB0.out HA2.out)
      |true=>
       have hee:(!(f++t).toList.isEmpty)=false:=(by rw[bG,eS,hem];rfl);have hf0:be (bl f)=false:=(by rw[(List.append_eq_nil_iff.1 (List.isEmpty_iff.1 hem)).1];rfl);refine(cW f _ (HE.out.below (ax (ai _ _) _) (ah _)) hfs).mono ?_;rintro e w1 ⟨rfl,hb1⟩;have HA1:=aa (af (ax (ai _ _) _) hb1);clear hb1;obtain⟨c0,c1,c2,c3,c4,c5,c6,c7⟩:=HBX.out.below HA1.out;rw[hf0];go_wp2_with fail;refine(eC os _ _ _ _ (HO.out.below HA1.out) HSO.out (HE.out.below HA1.out (ah _))).mono ?_;rintro e w2 ⟨rfl,hb2⟩;have HA2:=aa (af HA1.out hb2);clear hb2;clear c0 c1 c2 c3 c4 c5 c6 c7;obtain⟨c0,c1,c2,c3,c4,c5,c6,c7⟩:=HBX.out.below HA2.out;cases hpo:bR os with
       |false=>have HV:Hid (ap _=false):=HR.out.trans (by simp[aI,aq,aG,aF,ha,hi,hj,hij,hj0,hem,hf0,hpo]);go_wp2_with fail;go_ret;exact ak.intro HV.out.symm (af HB0.out HA2.out)
       |true=>
        go_wp2_with fail;refine(eC ns _ _ _ _ (HN.out.below HA2.out) HSN.out (HE.out.below HA2.out (ah _))).mono ?_;rintro e w3 ⟨rfl,hb3⟩;have HA3:=aa (af HA2.out hb3);clear hb3;clear c0 c1 c2 c3 c4 c5 c6 c7;obtain⟨c0,c1,c2,c3,c4,c5,c6,c7⟩:=HBX.out.below HA3.out;cases hpn:bR ns with
        |true=>have HV:Hid (ap _=false):=HR.out.trans (by simp[aI,aq,aG,aF,ha,hi,hj,hij,hj0,hem,hf0,hpo,hpn]);go_wp2_with fail;go_ret;exact ak.intro HV.out.symm (af HB0.out HA3.out)
        |false=>
         cases hen:ns.isEmpty with
         |false=>
          have ghen:(0:Int)<nn:=by
           have e1:=HLN.out;cases ns with
           |nil=>cases hen
           |cons a l=>simp at e1;omega
          have HV:Hid (ap _=false):=HR.out.trans (by simp[aI,aq,aG,aF,ha,hi,hj,hij,hj0,hem,hf0,hpo,hpn,hen]);go_wp2_with fail;go_ret;exact ak.intro HV.out.symm (af HB0.out HA3.out)
         |true=>
          have ghen:¬(0:Int)<nn:=(by have e1:=HLN.out;have e2:=List.isEmpty_iff.1 hen;subst e2;simp at e1;omega);have HV:Hid (ap _=true):=HR.out.trans (by simp[aI,aq,aG,aF,ha,hi,hj,hij,hj0,hem,hf0,hpo,hpn,hen]);go_wp2_with fail
          go_quiet (fail)
          go_wp2;go_ret;exact ak.intro HV.out.symm (ax (af HB0.out HA3.out) _)
     |true=>
      have q_hj0:(j != 0)=false:=(by simpa using hj0);go_wp2_with fail;cases hem:(bl f++bl t).isEmpty with
      |false=>
       have hne:(!(f++t).toList.isEmpty)=true:=(by rw[bG,eS,hem];rfl);refine(cW f _ (HE.out.below (ax (ai _ _) _) (ah _)) hfs).mono ?_;rintro e w1 ⟨rfl,hb1⟩;have HA1:=aa (af (ax (ai _ _) _) hb1);clear hb1;obtain⟨c0,c1,c2,c3,c4,c5,c6,c7⟩:=HBX.out.below HA1.out;cases hf:be (bl f) with
       |false=>have HV:Hid (ap _=false):=HR.out.trans (by simp[aI,aq,aG,aF,ha,hi,hj,hij,hj0,hem,hf]);go_wp2_with fail;go_ret;exact ak.intro HV.out.symm (af HB0.out HA1.out)
       |true=>
        go_wp2_with fail;refine(cW t _ (HE.out.below HA1.out (ah _)) hts).mono ?_;rintro e w2 ⟨rfl,hb2⟩;have HA2:=aa (af HA1.out hb2);clear hb2;clear c0 c1 c2 c3 c4 c5 c6 c7;obtain⟨c0,c1,c2,c3,c4,c5,c6,c7⟩:=HBX.out.below HA2.out;cases ht:be (bl t) with
        |false=>have HV:Hid (ap _=false):=HR.out.trans (by simp[aI,aq,aG,aF,ha,hi,hj,hij,hj0,hem,hf,ht]);go_wp2_with fail;go_ret;exact ak.intro HV.out.symm (af HB0.out HA2.out)
        |true=>
         cases hft:(bl f == bl t) with
         |true=>obtain rfl:=fk (by simpa using hft);have HV:Hid (ap _=false):=HR.out.trans (by simp[aI,aq,aG,aF,ha,hi,hj,hij,hj0,hem,hf,ht,hft]);go_wp2_with fail;go_ret;exact ak.intro HV.out.symm (af HB0.out HA2.out)
         |false=>have e0:(f.toList == t.toList)=false:=fW (by simpa using hft);have HV:Hid (ap _=false):=HR.out.trans (by simp[aI,aq,aG,aF,ha,hi,hj,hij,hj0,hem,hf,ht,hft]);go_wp2_with fail;go_ret;exact ak.intro HV.out.symm (af HB0.out HA2.out)
      |true=>
       have hee:(!(f++t).toList.isEmpty)=false:=(by rw[bG,eS,hem];rfl);have hf0:be (bl f)=false:=(by rw[(List.append_eq_nil_iff.1 (List.isEmpty_iff.1 hem)).1];rfl);refine(cW f _ (HE.out.below (ax (ai _ _) _) (ah _)) hfs).mono ?_;rintro e w1 ⟨rfl,hb1⟩;have HA1:=aa (af (ax (ai _ _) _) hb1);clear hb1;obtain⟨c0,c1,c2,c3,c4,c5,c6,c7⟩:=HBX.out.below HA1.out;rw[hf0];go_wp2_with fail;refine(eC os _ _ _ _ (HO.out.below HA1.out) HSO.out (HE.out.below HA1.out (ah _))).mono ?_;rintro e w2 ⟨rfl,hb2⟩;have HA2:=aa (af HA1.out hb2);clear hb2;clear c0 c1 c2 c3 c4 c5 c6 c7;obtain⟨c0,c1,c2,c3,c4,c5,c6,c7⟩:=HBX.out.below HA2.out;cases hpo:bR os with
       |false=>have HV:Hid (ap _=false):=HR.out.trans (by simp[aI,aq,aG,aF,ha,hi,hj,hij,hj0,hem,hf0,hpo]);go_wp2_with fail;go_ret;exact ak.intro HV.out.symm (af HB0.out HA2.out)
       |true=>
        go_wp2_with fail;refine(eC ns _ _ _ _ (HN.out.below HA2.out) HSN.out (HE.out.below HA2.out (ah _))).mono ?_;rintro e w3 ⟨rfl,hb3⟩;have HA3:=aa (af HA2.out hb3);clear hb3;clear c0 c1 c2 c3 c4 c5 c6 c7;obtain⟨c0,c1,c2,c3,c4,c5,c6,c7⟩:=HBX.out.below HA3.out;cases hpn:bR ns with
        |true=>have HV:Hid (ap _=false):=HR.out.trans (by simp[aI,aq,aG,aF,ha,hi,hj,hij,hj0,hem,hf0,hpo,hpn]);go_wp2_with fail;go_ret;exact ak.intro HV.out.symm (af HB0.out HA3.out)
        |false=>
         cases hen:ns.isEmpty with
         |false=>
          have ghen:(0:Int)<nn:=by
           have e1:=HLN.out;cases ns with
           |nil=>cases hen
           |cons a l=>simp at e1;omega
          have HV:Hid (ap _=false):=HR.out.trans (by simp[aI,aq,aG,aF,ha,hi,hj,hij,hj0,hem,hf0,hpo,hpn,hen]);go_wp2_with fail;go_ret;exact ak.intro HV.out.symm (af HB0.out HA3.out)
         |true=>
          have ghen:¬(0:Int)<nn:=(by have e1:=HLN.out;have e2:=List.isEmpty_iff.1 hen;subst e2;simp at e1;omega);have HV:Hid (ap _=true):=HR.out.trans (by simp[aI,aq,aG,aF,ha,hi,hj,hij,hj0,hem,hf0,hpo,hpn,hen]);go_wp2_with fail
          go_quiet (fail)
          go_wp2;go_ret;exact ak.intro HV.out.symm (ax (af HB0.out HA3.out) _)
theorem yd(ps:List Int)(os ns:List ag)(pA:Option Addr)(pn pc:Nat)(i j:Int)(f t:ByteArray)(oA:Option Addr)(on oc:Nat)(nA:Option Addr)(nn nc:Nat)(w:World)(hp:aA w ps pA pn pc)(ho:KidsAt w os oA on oc)(hn:KidsAt w ns nA nn nc)(hE:bI w)(hsz:f.size+t.size<=9223372036854775806)(hso:bi 9223372036854775806 os)(hsn:bi 9223372036854775806 ns):Calls Tryz.prog 22 #[.agg #[.int .u8 1,.slice pA pn pc,.int .i64 i,.int .i64 j,.string f,.string t,.slice oA on oc,.slice nA nn nc]] w (ak (ap ⟨1,ps,i,j,bl f,bl t,os,ns⟩) w):=by
 have hb0:Below w.heap.size w (w.alloc (.cells #[.int .u8 1,.slice pA pn pc,.int .i64 i,.int .i64 j,.string f,.string t,.slice oA on oc,.slice nA nn nc] 26)):=(ai _ _).alloc (ah _) _;have HB0:=aa hb0;have HE:=aa (hE.below hb0 (ah _));have HP:=aa (hp.below hb0);have HO:=aa (ho.below hb0);have HN:=aa (hn.below hb0);have HR:=aa (kw ⟨1,ps,i,j,bl f,bl t,os,ns⟩);have HBX:=aa (bw.new (w:=w) (x0:=.int .u8 1) (x1:=.slice pA pn pc) (x2:=.int .i64 i) (x3:=.int .i64 j) (x4:=.string f) (x5:=.string t) (x6:=.slice oA on oc) (x7:=.slice nA nn nc) (T:=26));have HSO:=aa hso;have HSN:=aa hsn;have HLP:Hid (pn=ps.length):=hp.1;have HLO:Hid (on=os.length):=ho.1;have HLN:Hid (nn=ns.length):=hn.1;have hfs:f.size<=9223372036854775806:=(by omega);have hts:t.size<=9223372036854775806:=(by omega);have hpn:pn<=9223372036854775807:=(by have h1:=hp.2.1;have h2:=hp.2.2.1;unfold maxLen at h2;omega);have hon:on<=9223372036854775807:=(by have h1:=ho.2.1;have h2:=ho.2.2.1;unfold maxLen at h2;omega);have hnn:nn<=9223372036854775807:=(by have h1:=hn.2.1;have h2:=hn.2.2.1;unfold maxLen at h2;omega);have hcf:=jy;clear hb0 hE hp ho hn hso hsn
 go_in
 go_wp2_with fail
 go_quiet (fail)
 go_wp2_with fail;refine(kG ps _ _ _ _ (HP.out.below (ax (ai _ _) _))).mono ?_;rintro e wq ⟨rfl,q1,rfl⟩;cases ha:ps.all aH with
 |false=>have HV:Hid (ap _=false):=HR.out.trans (by simp[aI,aq,aG,aF,ha]);go_wp2_with fail;go_ret;exact ak.intro HV.out.symm (ax HB0.out _)
 |true=>
  go_wp2_with fail;refine(fT i _).mono ?_;rintro e wq ⟨rfl,q2,rfl⟩;cases hi:aH i with
  |false=>have HV:Hid (ap _=false):=HR.out.trans (by simp[aI,aq,aG,aF,ha,hi]);go_wp2_with fail;go_ret;exact ak.intro HV.out.symm (ax HB0.out _)
  |true=>
   go_wp2_with fail;refine(fT j _).mono ?_;rintro e wq ⟨rfl,q3,rfl⟩;cases hj:aH j with
   |false=>have HV:Hid (ap _=false):=HR.out.trans (by simp[aI,aq,aG,aF,ha,hi,hj]);go_wp2_with fail;go_ret;exact ak.intro HV.out.symm (ax HB0.out _)
   |true=>
    cases hi0:(i == 0) with
    |false=>have n_hi0:(i != 0)=true:=(by simpa using hi0);have HV:Hid (ap _=false):=HR.out.trans (by simp[aI,aq,aG,aF,ha,hi,hj,hi0]);go_wp2_with fail;go_ret;exact ak.intro HV.out.symm (ax HB0.out _)
    |true=>
     have q_hi0:(i != 0)=false:=(by simpa using hi0);cases hpe:ps.isEmpty with
     |true=>have pe:((pn:Int) == 0)=true:=(by have e1:=HLP.out;have e2:=List.isEmpty_iff.1 hpe;subst e2;simp at e1;simp[e1]);have HV:Hid (ap _=false):=HR.out.trans (by simp[aI,aq,aG,aF,ha,hi,hj,hi0,hpe]);go_wp2_with fail;go_ret;exact ak.intro HV.out.symm (ax HB0.out _)
     |false=>
      have pe:((pn:Int) == 0)=false:=by
       have e1:=HLP.out;cases ps with
       |nil=>cases hpe
       |cons a l=>simp at e1;simp;omega
      cases hij:(i == j) with
      |false=>have n_hij:(i != j)=true:=(by simpa using hij);have HV:Hid (ap _=false):=HR.out.trans (by simp[aI,aq,aG,aF,ha,hi,hj,hi0,hpe,hij]);go_wp2_with fail;go_ret;exact ak.intro HV.out.symm (ax HB0.out _)
      |true=>
       have q_hij:(i != j)=false:=(by simpa using hij);cases hj0:(j == 0) with
       |false=>have n_hj0:(j != 0)=true:=(by simpa using hj0);have HV:Hid (ap _=false):=HR.out.trans (by simp[aI,aq,aG,aF,ha,hi,hj,hi0,hpe,hij,hj0]);go_wp2_with fail;go_ret;exact ak.intro HV.out.symm (ax HB0.out _)
       |true=>
        have q_hj0:(j != 0)=false:=(by simpa using hj0);go_wp2_with fail;refine(cW f _ (HE.out.below (ax (ai _ _) _) (ah _)) hfs).mono ?_;rintro e w1 ⟨rfl,hb1⟩;have HA1:=aa (af (ax (ai _ _) _) hb1);clear hb1;obtain⟨c0,c1,c2,c3,c4,c5,c6,c7⟩:=HBX.out.below HA1.out;cases hf:be (bl f) with
        |false=>have HV:Hid (ap _=false):=HR.out.trans (by simp[aI,aq,aG,aF,ha,hi,hj,hi0,hpe,hij,hj0,hf]);go_wp2_with fail;go_ret;exact ak.intro HV.out.symm (af HB0.out HA1.out)
        |true=>
         go_wp2_with fail;refine(cW t _ (HE.out.below HA1.out (ah _)) hts).mono ?_;rintro e w2 ⟨rfl,hb2⟩;have HA2:=aa (af HA1.out hb2);clear hb2;clear c0 c1 c2 c3 c4 c5 c6 c7;obtain⟨c0,c1,c2,c3,c4,c5,c6,c7⟩:=HBX.out.below HA2.out;cases ht:be (bl t) with
         |false=>have HV:Hid (ap _=false):=HR.out.trans (by simp[aI,aq,aG,aF,ha,hi,hj,hi0,hpe,hij,hj0,hf,ht]);go_wp2_with fail;go_ret;exact ak.intro HV.out.symm (af HB0.out HA2.out)
         |true=>
          cases hft:(bl f == bl t) with
          |true=>obtain rfl:=fk (by simpa using hft);have HV:Hid (ap _=false):=HR.out.trans (by simp[aI,aq,aG,aF,ha,hi,hj,hi0,hpe,hij,hj0,hf,ht,hft]);go_wp2_with fail;go_ret;exact ak.intro HV.out.symm (af HB0.out HA2.out)
          |false=>
           have e0:(f.toList == t.toList)=false:=fW (by simpa using hft);go_wp2_with fail;refine(eC os _ _ _ _ (HO.out.below HA2.out) HSO.out (HE.out.below HA2.out (ah _))).mono ?_;rintro e w3 ⟨rfl,hb3⟩;have HA3:=aa (af HA2.out hb3);clear hb3;clear c0 c1 c2 c3 c4 c5 c6 c7;obtain⟨c0,c1,c2,c3,c4,c5,c6,c7⟩:=HBX.out.below HA3.out;cases hpo:bR os with
           |true=>have HV:Hid (ap _=false):=HR.out.trans (by simp[aI,aq,aG,aF,ha,hi,hj,hi0,hpe,hij,hj0,hf,ht,hft,hpo]);go_wp2_with fail;go_ret;exact ak.intro HV.out.symm (af HB0.out HA3.out)
           |false=>
            go_wp2_with fail;refine(eC ns _ _ _ _ (HN.out.below HA3.out) HSN.out (HE.out.below HA3.out (ah _))).mono ?_;rintro e w4 ⟨rfl,hb4⟩;have HA4:=aa (af HA3.out hb4);clear hb4;clear c0 c1 c2 c3 c4 c5 c6 c7;obtain⟨c0,c1,c2,c3,c4,c5,c6,c7⟩:=HBX.out.below HA4.out;cases hpn:bR ns with
            |true=>have HV:Hid (ap _=false):=HR.out.trans (by simp[aI,aq,aG,aF,ha,hi,hj,hi0,hpe,hij,hj0,hf,ht,hft,hpo,hpn]);go_wp2_with fail;go_ret;exact ak.intro HV.out.symm (af HB0.out HA4.out)
            |false=>
             cases heo:os.isEmpty with
             |false=>
              have gheo:(0:Int)<on:=by
               have e1:=HLO.out;cases os with
               |nil=>cases heo
               |cons a l=>simp at e1;omega
              have HV:Hid (ap _=false):=HR.out.trans (by simp[aI,aq,aG,aF,ha,hi,hj,hi0,hpe,hij,hj0,hf,ht,hft,hpo,hpn,heo]);go_wp2_with fail;go_ret;exact ak.intro HV.out.symm (af HB0.out HA4.out)
             |true=>
              have gheo:¬(0:Int)<on:=(by have e1:=HLO.out;have e2:=List.isEmpty_iff.1 heo;subst e2;simp at e1;omega);cases hen:ns.isEmpty with
              |false=>
               have ghen:(0:Int)<nn:=by
                have e1:=HLN.out;cases ns with
                |nil=>cases hen
                |cons a l=>simp at e1;omega
               have HV:Hid (ap _=false):=HR.out.trans (by simp[aI,aq,aG,aF,ha,hi,hj,hi0,hpe,hij,hj0,hf,ht,hft,hpo,hpn,heo,hen]);go_wp2_with fail;go_ret;exact ak.intro HV.out.symm (af HB0.out HA4.out)
              |true=>
               have ghen:¬(0:Int)<nn:=(by have e1:=HLN.out;have e2:=List.isEmpty_iff.1 hen;subst e2;simp at e1;omega);have HV:Hid (ap _=true):=HR.out.trans (by simp[aI,aq,aG,aF,ha,hi,hj,hi0,hpe,hij,hj0,hf,ht,hft,hpo,hpn,heo,hen]);go_wp2_with fail
               go_quiet (fail)
               go_wp2;go_ret;exact ak.intro HV.out.symm (ax (af HB0.out HA4.out) _)
theorem uz(args:Array Value)(w:World):(callFunc 57 args).run Tryz.prog w= .ok (.enter 57 args) w:=eH Tryz.func57 (by kernel_rfl) (by kernel_rfl) args w
theorem sF{ks:List ag}{j:Nat}{t:ag}(h:ks[j]? =some t):ks.take (j+1)=ks.take j++[t]:=by have hj:j<ks.length:=(bs.1 h).1;rw[List.take_succ_eq_append_getElem hj];rw[br hj] at h;injection h with h;rw[h]
def eR(ss:List ar)(ks:List ag):List ar:=ss++cO ks
def fA(c:Bool)(ks:List ag):Bool:=c || bP ks
theorem tS{ss:List ar}{ks:List ag}{j:Nat}{t:ag}(h:ks[j]? =some t):eR ss (ks.take (j+1))=eR (gD t.kind (sb t.text) (eR ss (ks.take j))) t.kids:=by obtain⟨k,s,x,us⟩:=t;rw[sF h];unfold eR gD iH;simp only[tT,cO,ag.binds,ag.kind,ag.text,ag.kids,List.append_nil,l9];split<;>simp_all
theorem ue{c:Bool}{ks:List ag}{j:Nat}{t:ag}(h:ks[j]? =some t):fA c (ks.take (j+1))=fA (iI t.kind (fA c (ks.take j))) t.kids:=by obtain⟨k,s,x,us⟩:=t;rw[sF h];unfold fA iI;simp only[uf,bP,ag.calls,ag.kind,ag.kids,Bool.or_false,Bool.or_assoc]
theorem tR{ss:List ar}{ks:List ag}{j:Nat}{t:ag}(h:ks[j]? =some t):(eR ss (ks.take j)).length+t.sz<=ss.length+ao ks:=by
 have h1:=nT (ks.take j);have hj:j<ks.length:=(bs.1 h).1;have e:ao ks=ao (ks.take j)+ao (ks.drop j):=(by rw[<-o9,List.take_append_drop]);have e2:ao (ks.drop j)=t.sz+ao (ks.drop (j+1)):=by rw[List.drop_eq_getElem_cons hj];rw[br hj] at h;injection h with h;rw[h];rfl
 unfold eR;rw[cb];omega
theorem tP(k:Nat)(s:ByteArray)(ss:List ar):(gD k s ss).length<=ss.length+1:=by unfold gD;split<;>simp
structure dY (b:Nat) (w0 w:World):Prop where
 bel:Below b w0 w
 old:∀q,q<w0.heap.size->q≠b->w.heap[q]? =w0.heap[q]?
 only:gd b w0 w
theorem dY.refl(b:Nat)(w:World):dY b w w:=⟨ai _ _,fun _ _ _=>rfl,fun _ _ _ _ h=>⟨h,rfl⟩⟩
theorem gd.trans{b:Nat}{w w1 w2:World}(h:gd b w w1)(h':gd b w1 w2):gd b w w2:=fun j v h9 h11 hc=>by obtain⟨e1,e2⟩:=h j v h9 h11 hc;obtain⟨e3,e4⟩:=h' j v h9 h11 e1;exact⟨e3,e4.trans e2⟩
theorem dY.below{b:Nat}{w0 w w':World}(h:dY b w0 w)(hlt:b<w.heap.size)(hb:Below w.heap.size w w'):dY b w0 w':=
 ⟨h.bel.trans (hb.mono (iB hlt)),fun q hq hqb=>(hb.block q (fJ hq h.bel.size)).trans (h.old q hq hqb),h.only.trans (mx (hb.block b hlt))⟩
theorem dY.side{b:Nat}{w0 w w':World}{v:Value}{ss:List ar}{c:Bool}(h:dY b w0 w)(hS:eQ w0.heap.size b w v ss c)(hbut:fI b v w w')(hb:Below b w w')(ho:gd b w w'):dY b w0 w':=
 ⟨h.bel.trans hb,fun q hq hqb=>(hbut.2 q (fJ hq h.bel.size) hqb (fun e=>by have:=(hS.str.own.lt q e).1;omega)).trans (h.old q hq hqb),h.only.trans ho⟩
def bf(b q:Nat):Bool:= !(q == b)
theorem dY.kids{b:Nat}{w0 w:World}{ks:List ag}{A:Option Addr}{n c:Nat}(h:dY b w0 w)(hK:cq w0 (bf b) ks A n c):KidsAt w ks A n c:=
 KidsAt.keep (fun a v hc=>by obtain⟨h1,h2⟩:=fD.1 hc;rw[World.cell?_of_block (h.old _ (bK h2) (by simpa[bf] using h1))];exact h2) hK
def pD(b:Nat)(ss:List ar)(c:Bool)(w0:World)(e:Ending)(w':World):Prop:=e= .returned (.tuple #[])/\dY b w0 w'/\∃v',eQ w0.heap.size b w' v' ss c
def nH(m:Nat):Prop:=∀(ks:List ag) (A:Option Addr) (n d:Nat) (ss:List ar) (c:Bool) (b:Nat) (w0 w:World) (v:Value),ao ks<m->cq w0 (bf b) ks A n d->dY b w0 w->eQ w0.heap.size b w v ss c->ss.length+ao ks<=1000000->
 Calls Tryz.prog 56 #[.func (.func 57) #[] #[.pointer (some ⟨b,0,none⟩)],.slice A n d] w (pD b (eR ss ks) (fA c ks) w0)
theorem Az{w0 w w3:World}{b:Nat}{v:Value}{ss:List ar}{c:Bool}{x0 x1 x2 x3:Value}{T:TypeId}(hk:dY b w0 w)(hS:eQ w0.heap.size b w v ss c)(hbut:fI b v (w.alloc (.cells #[x0,x1,x2,x3] T)) w3)(hb3:Below b (w.alloc (.cells #[x0,x1,x2,x3] T)) w3)(ho:gd b (w.alloc (.cells #[x0,x1,x2,x3] T)) w3):Hid (dY b w0 w3)/\Hid (w3.cell? ⟨w.heap.size,3,none⟩=some x3):=by have hlt:b<w.heap.size:=bK hS.cell;have ha:Below w.heap.size w (w.alloc (.cells #[x0,x1,x2,x3] T)):=(ai _ _).alloc (ah _) _;refine⟨(hk.below hlt ha).side (hS.below ha) hbut hb3 ho,?_⟩;have h1:w3.heap[w.heap.size]? =(w.alloc (.cells #[x0,x1,x2,x3] T)).heap[w.heap.size]? :=hbut.2 _ (by simp) (by omega) (fun e=>by have:=(hS.str.own.lt _ e).2;omega);rw[heap_alloc_new] at h1;exact(di h1).c3
theorem AD(m:Nat)(ih:Hid (nH m)):nH (m+1):=by
 intro ks A n d ss c bb w0 w v hm hK hb hS hfew;have HK:=aa hK;have HM:=aa hm;have HLN:Hid (n=ks.length):=hK.1;have hnn:n<=9223372036854775807:=(by have h1:=hK.2.1;have h2:=hK.2.2.1;unfold maxLen at h2;omega);have HB:=aa hb;have HS:=aa hS;have hcf:=uz;clear hK hm hb hS
 go_in
 go_wp2_with fail;go_loopw [8] (fun i wr=>∃j:Nat,j<=n/\i= .int .i64 j/\Hid (dY bb w0 wr)/\Hid (∃v',eQ w0.heap.size bb wr v' (eR ss (ks.take j)) (fA c (ks.take j)))) (fun i _=>n - (intOf i).toNat);case atStart=>exact⟨0,aE _,rfl,HB.out,v,by simpa[eR,cO,fA,bP] using HS.out⟩
 case round=>
  obtain⟨j,hj,rfl,HBR,HSR⟩:=hrel;by_cases hlt:j<n
  .obtain⟨b,o,t,rfl,ht,hat⟩:=(HBR.out.kids HK.out).get hlt;obtain⟨B1,d1,q0,q1,q2,q3,hnode⟩:=hat.cells;obtain⟨B0,d0,q3',hkk⟩:∃B0 d0,wr.cell? ⟨b,o+j*4+3,none⟩=some (.slice B0 t.kids.length d0)/\cq w0 (bf bb) t.kids B0 t.kids.length d0:=by obtain⟨b',o',t',e1,e2,hat0⟩:=KidsAt.get HK.out hlt;injection e1 with e1;injection e1 with e1 e1';rw[ht] at e2;injection e2 with e2;subst e1 e1' e2;obtain⟨A',c',_,_,_,h3,hk,_⟩:=hat0.parts;obtain⟨g1,g2⟩:=fD.1 h3;refine⟨A',c',?_,hk⟩;rw[World.cell?_of_block (HBR.out.old _ (bK g2) (by simpa[bf] using g1))];exact g2
   rw[q3] at q3';injection q3' with q3';injection q3' with q3' _ q3'';subst q3' q3'';have HKK:=aa hkk;clear hkk;obtain⟨vr,hvr⟩:=HSR.out;have HND:=aa hnode;have HT:=aa ht;have HSV:=aa hvr;have HL1:=aa (tR (ss:=ss) ht);have HSZ:Hid (ao t.kids+1<m+1):=Nat.lt_of_le_of_lt (by have:=jL ht;obtain⟨k,s,x,us⟩:=t;simp[ag.sz,ag.kids] at this ⊢;omega) HM.out;have HSE:Hid (eR ss (ks.take (j+1))=eR (gD t.kind (sb t.text) (eR ss (ks.take j))) t.kids):=tS ht;have HCE:Hid (fA c (ks.take (j+1))=fA (iI t.kind (fA c (ks.take j))) t.kids):=ue ht;clear ht hat hnode hvr;go_wp2_with fail;have hba:Below wr.heap.size wr (wr.alloc (.cells #[.int .u8 t.kind,.string (sb t.text),.int .i64 t.num,.slice B1 t.kids.length d1] 44)):=(ai _ _).alloc (ah _) _;refine(xM w0.heap.size bb t.kind (sb t.text) t.num B1 t.kids.length d1 (eR ss (ks.take j)) (fA c (ks.take j)) vr _ (HSV.out.below hba) (by have:=HL1.out;omega) (by have:=HBR.out.bel.size;simp;omega)).mono ?_;rintro en w3 ⟨rfl,v3,hS3,hbut,hb3,ho3⟩;obtain⟨HB3,HX3⟩:=Az HBR.out HSV.out hbut hb3 ho3;have HS3:=aa hS3;have c3:=HX3.out;clear hba hS3 hbut hb3 ho3;go_wp2_with fail;refine(ih.out t.kids B1 t.kids.length d1 _ _ bb w0 w3 v3 (by have:=HSZ.out;omega) (HKK.out) HB3.out HS3.out (by have:=HL1.out;have:=tP t.kind (sb t.text) (eR ss (ks.take j));obtain⟨k,s,x,us⟩:=t;simp[ag.sz,ag.kids] at*;omega)).mono ?_;rintro en w4 ⟨rfl,hb4,v4,hS4⟩;have HB4:=aa hb4;have HS4:=aa hS4;clear hb4 hS4;go_wp2;go_roundw;case rel=>exact⟨j+1,by omega,by go_num,HB4,v4,by rw[HSE.out,HCE.out];exact HS4.out⟩
   case measure=>simp[intOf];omega
  .have hjn:j=n:=(by omega);subst hjn;have HD:Hid (ks.take j=ks):=List.take_of_length_le (by have:=HLN.out;omega);obtain⟨vr,hvr⟩:=HSR.out;have HSV:=aa hvr;clear hvr;go_wp2_with fail
   go_end0
   have h:=HSV.out;rw[HD.out] at h;exact⟨rfl,HBR.out,vr,h⟩
theorem sr:∀m,nH m
 |0=>fun _ _ _ _ _ _ _ _ _ _ hm=>absurd hm (Nat.not_lt_zero _)
 |m+1=>AD m (aa (sr m))
theorem yY(ks:List ag)(A:Option Addr)(n d:Nat)(ss:List ar)(c:Bool)(b:Nat)(w0 w:World)(v:Value)(hK:cq w0 (bf b) ks A n d)(hb:dY b w0 w)(hS:eQ w0.heap.size b w v ss c)(hfew:ss.length+ao ks<=1000000):Calls Tryz.prog 56 #[.func (.func 57) #[] #[.pointer (some ⟨b,0,none⟩)],.slice A n d] w (pD b (eR ss ks) (fA c ks) w0):=
 sr (ao ks+1) ks A n d ss c b w0 w v (Nat.lt_succ_self _) hK hb hS hfew
theorem vt(w:World)(z:Int):aA (w.alloc (.cells #[.int .i64 z] 3)) [z] (some ⟨w.heap.size,0,none⟩) 1 1:=by
 refine⟨rfl,ah _,by unfold maxLen;omega,.inr ⟨_,_,rfl,fun j y hj=>?_⟩⟩;match j,hj with
 |0,hj=>simp only[List.getElem?_cons_zero,Option.some.injEq] at hj;subst hj;rw[World.cell?_alloc_new];rfl
theorem rE(xs:List Int)(A:Option Addr)(n c:Nat)(v:Int)(w:World)(hx:aA w xs A n c)(hn:n<=17592186043000):Calls Tryz.prog 86 #[.slice A n c,.int .i64 v] w (dL (xs++[v]) w):=by
 have hb:Below w.heap.size w (w.alloc (.cells #[] 3)):=(ai _ _).alloc (ah _) _;have HX:=aa (hx.below hb);have HN:Hid (n=xs.length):=hx.1;have hmade:(w.alloc (.cells #[] 3)).ownsRow w.heap.size 3 1 (.slice (some ⟨w.heap.size,0,none⟩) 0 0) ([]:List Int).length (([]:List Int).map (Value.int .i64)):=jt w #[] 0 (ah _) (by unfold maxLen;omega) (by simp);have HB:=aa hb;clear hb hx
 go_in
 go_wp2_with (at_builtin;refine iw rfl _ _ rfl w.heap.size _ [] xs rfl hmade _ _ _ rfl HX.out (by have:=HN.out;simp;omega) (by simp) ?_);intro v' w2 hown hgr;try simp only[List.nil_append] at hown
 have hb2:Below w.heap.size w w2:=HB.out.grown hgr HB.out.size (fun k hk=>by simp only[Value.ownBlock,Option.some.injEq] at hk;subst hk;exact ah _);obtain⟨A2,c2,rfl,_⟩:=cw hown;have hown2:=hown.alloc (.cells #[.int .i64 v] 3);have HI:=aa (vt w2 v);have HB2:=aa (hb2.alloc hb2.size (.cells #[.int .i64 v] 3));have hsz:=hb2.size;have hfe:∀k,(Value.slice A2 xs.length c2).ownBlock=some k->w.heap.size<=k:=fun k hk=>(hown.lt k hk).1;have HFE:=aa hfe;clear hown hgr hb2 hfe;go_wp2_with (at_builtin;refine iw rfl _ _ rfl w.heap.size _ xs [v] rfl hown2 _ _ _ rfl HI.out (by have:=HN.out;simp;omega) (by simp;omega) ?_);intro v3 w3 hown3 hgr3;obtain⟨A3,c3,rfl,_⟩:=cw hown3;have HB3:Hid (Below w.heap.size w w3):=HB2.out.grown hgr3 HB2.out.size HFE.out;have HO3:=aa hown3;clear hown3 hgr3 hown2;go_wp2;go_ret;exact⟨A3,c3,(by simp),(by have h:=HO3.out;rw[cb,List.length_singleton,List.map_append];exact h),HB3.out⟩
theorem de(e:aj)(k:Nat)(pA:Option Addr)(pn pc:Nat)(i j:Int)(f t:ByteArray)(oA:Option Addr)(on oc:Nat)(nA:Option Addr)(nn nc:Nat)(w:World)(h:ay w e k pA pn pc i j f t oA on oc nA nn nc)(hE:bI w)(hsz:f.size+t.size<=9223372036854775806)(hso:bi 9223372036854775806 e.olds)(hsn:bi 9223372036854775806 e.news):Calls Tryz.prog 22 #[.agg #[.int .u8 k,.slice pA pn pc,.int .i64 i,.int .i64 j,.string f,.string t,.slice oA on oc,.slice nA nn nc]] w (ak (ap e) w):=by
 obtain⟨ps,os,ns,rfl,hp,ho,hn⟩:=h;by_cases k1:k=1
 .subst k1;exact yd ps os ns pA pn pc i j f t oA on oc nA nn nc w hp ho hn hE hsz hso hsn
 by_cases k2:k=2
 .subst k2;exact ye ps os ns pA pn pc i j f t oA on oc nA nn nc w hp ho hn hE hsz hso hsn
 by_cases k3:k=3
 .subst k3;exact yf ps os ns pA pn pc i j f t oA on oc nA nn nc w hp ho hn hE hsz hso hsn
 by_cases k4:k=4
 .subst k4;exact yg ps os ns pA pn pc i j f t oA on oc nA nn nc w hp ho hn hE hsz hso hsn
 by_cases k5:k=5
 .subst k5;exact yh ps os ns pA pn pc i j f t oA on oc nA nn nc w hp ho hn hE hsz hso hsn
 exact yi ps os ns k pA pn pc i j f t oA on oc nA nn nc w ⟨k1,k2,k3,k4,k5⟩ hp ho hn hE hsz hso hsn
def bN(b:Nat)(w w':World):Prop:=∀q,b<=q->w'.heap[q]? =w.heap[q]?
theorem bN.refl(b:Nat)(w:World):bN b w w:=fun _ _=>rfl
theorem bN.set{b:Nat}{w w':World}{p:Addr}{u:Value}(h:bN b w w')(hp:p.block<b):bN b w (w'.setCell p u):=fun q hq=>by rw[aY _ _ _ _ (by omega)];exact h q hq
theorem bN.fresh{b B:Nat}{w w':World}{ks:List ag}{A:Option Addr}{n c:Nat}(h:bJ w B ks A n c)(hf:bN b w w')(hB:b<=B):bJ w' b ks A n c:=
 h.keep hB fun q ha _=>hf q (by omega)
theorem bN.own{b base:Nat}{w w':World}{e:TypeId}{size:Nat}{v:Value}{n:Nat}{xs:List Value}(h:w.ownsRow base e size v n xs)(hf:bN b w w')(hB:b<=base):w'.ownsRow base e size v n xs:=by obtain⟨h1,h2⟩:=h;refine⟨h1,h2.imp id ?_⟩;rintro⟨g,cap,cur,hv,hg,hh,r⟩;exact⟨g,cap,cur,hv,hg,by rw[hf g (by omega)];exact hh,r⟩
def bT(w:World)(ps:List Int)(A:Option Addr):Prop:=ps=[]∨∃b o cs fr,A=some ⟨b,o,none⟩/\w.heap[b]? =some (.cells cs 3 fr)
theorem bT.below{w w':World}(hb:Below w.heap.size w w'){ps:List Int}{A:Option Addr}(h:bT w ps A):bT w' ps A:=by refine h.imp id ?_;rintro⟨b,o,cs,fr,e,hh⟩;exact⟨b,o,cs,fr,e,(hb.block _ (aK.1 hh).1).trans hh⟩
theorem bT.own{w:World}{base n c:Nat}{A:Option Addr}{zs:List Int}(h:w.ownsRow base 3 1 (.slice A n c) n (zs.map (Value.int .i64)))(hn:n=zs.length):bT w zs A:=by
 rcases h.2 with ⟨e,h0⟩|⟨g,cap,cur,hv,hg,hh,_⟩
 .left;exact List.length_eq_zero_iff.1 (by omega)
 .injection hv with hv1;exact .inr ⟨g,0,cur,_,hv1,hh⟩
structure dX (w:World) (B:Nat) (e:aj) (pA:Option Addr) (pn pc:Nat) (oA:Option Addr) (on oc:Nat) (nA:Option Addr) (nn nc:Nat) (H:Option Addr×Nat×Nat) (R:List Value):Prop where
 path:bd w B 3 1 (.slice pA pn pc)
 parts:∃Ro Rn,R=Ro++Rn/\dr w e.olds oA on oc Ro/\(e.kind=5->e.news=[]/\(nA,nn,nc)=H/\Rn=[])/\(e.kind≠5->dr w e.news nA nn nc Rn)
 own:∀v∈R,bd w B 44 4 v
 nd:(aW R).Nodup
theorem dX.keep{w w':World}{B B':Nat}{e:aj}{pA:Option Addr}{pn pc:Nat}{oA:Option Addr}{on oc:Nat}{nA:Option Addr}{nn nc:Nat}{H:Option Addr×Nat×Nat}{R:List Value}(h:dX w B e pA pn pc oA on oc nA nn nc H R)(hB:B'<=B)(hp:∀q,(Value.slice pA pn pc).ownBlock=some q->w'.heap[q]? =w.heap[q]?)(hk:∀q∈aW R,w'.heap[q]? =w.heap[q]?):dX w' B' e pA pn pc oA on oc nA nn nc H R:=by obtain⟨h1,⟨Ro,Rn,rfl,h2,h3,h4⟩,h5,h6⟩:=h;rw[gg] at hk;exact⟨h1.keep hB hp,⟨Ro,Rn,rfl,h2.keep fun q hq=>hk q (List.mem_append_left _ hq),h3,fun h=>(h4 h).keep fun q hq=>hk q (List.mem_append_right _ hq)⟩,fun v hv=>(h5 v hv).keep hB fun q e=>hk q (by rw[<-gg];exact iR hv e),h6⟩
theorem dX.lt{w:World}{B:Nat}{e:aj}{pA:Option Addr}{pn pc:Nat}{oA:Option Addr}{on oc:Nat}{nA:Option Addr}{nn nc:Nat}{H:Option Addr×Nat×Nat}{R:List Value}(h:dX w B e pA pn pc oA on oc nA nn nc H R){q:Nat}(hq:q∈aW R):B<=q/\q<w.heap.size:=by obtain⟨v,hv,e⟩:=eV hq;exact(h.own v hv).lt e
theorem dX.two{w3 w4 W:World}{B B3 B4 b:Nat}{e:aj}{pA:Option Addr}{pn pc:Nat}{oA:Option Addr}{on oc:Nat}{nA:Option Addr}{nn nc:Nat}{H:Option Addr×Nat×Nat}(hp:bd W B 3 1 (.slice pA pn pc))(h3:bJ w3 B3 e.olds oA on oc)(h34:Below w3.heap.size w3 w4)(h4:bJ w4 B4 e.news nA nn nc)(hB4:w3.heap.size<=B4)(hB3:b<=B3)(hb:b<=B4)(hB:B<=b)(hF:bN b w4 W)(h5:e.kind≠5):∃R,dX W B e pA pn pc oA on oc nA nn nc H R:=by
 obtain⟨_,R3,f3⟩:=h3;obtain⟨_,R4,f4⟩:=h4;have g3:cZ W B e.olds oA on oc R3:=f3.keep (by omega) fun q q1 q2=>(hF q (by omega)).trans (h34.block q q2);have g4:cZ W B e.news nA nn nc R4:=f4.keep (by omega) fun q q1 q2=>hF q (by omega);refine⟨R3++R4,hp,⟨R3,R4,rfl,g3.rows,fun h=>absurd h h5,fun _=>g4.rows⟩,fun v hv=>?_,iq f3.nd f4.nd (m:=w3.heap.size) (fun q hq=>(f3.lt hq).2) fun q hq=>aJ hB4 (f4.lt hq).1⟩;rcases List.mem_append.1 hv with hv|hv
 .exact g3.own v hv
 .exact g4.own v hv
theorem dX.move{w3 W:World}{B B3 b:Nat}{e:aj}{pA:Option Addr}{pn pc:Nat}{oA:Option Addr}{on oc:Nat}{nA:Option Addr}{nn nc:Nat}(hp:bd W B 3 1 (.slice pA pn pc))(h3:bJ w3 B3 e.olds oA on oc)(hB3:b<=B3)(hB:B<=b)(hF:bN b w3 W)(hk:e.kind=5)(hn:e.news=[]):∃R,dX W B e pA pn pc oA on oc nA nn nc (nA,nn,nc) R:=by obtain⟨_,R3,f3⟩:=h3;have g3:cZ W B e.olds oA on oc R3:=f3.keep (by omega) fun q q1 q2=>hF q (by omega);exact⟨R3,hp,⟨R3,[],by simp,g3.rows,fun _=>⟨hn,rfl,rfl⟩,fun h=>absurd hk h⟩,g3.own,g3.nd⟩
theorem dX.zero(w:World)(B:Nat)(H:Option Addr×Nat×Nat):dX w B ⟨0,[],0,0,[],[],[],[]⟩ none 0 0 none 0 0 none 0 0 H [.slice none 0 0,.slice none 0 0]:=by have hn:∀T s,bd w B T s (.slice none 0 0):=fun T s=>⟨0,[],World.ownsRow_nil _ _ _ _⟩;refine⟨hn _ _,⟨[.slice none 0 0],[.slice none 0 0],rfl,⟨[],rfl,.inl ⟨rfl,rfl⟩⟩,fun h=>absurd h (by decide),fun _=>⟨[],rfl,.inl ⟨rfl,rfl⟩⟩⟩,?_,List.nodup_nil⟩;intro v hv;simp at hv;subst hv;exact hn _ _
def jQ(e:aj)(H:Option Addr×Nat×Nat)(w:World)(en:Ending)(w':World):Prop:=∃(k:Nat) (pA:Option Addr) (pn pc:Nat) (i j:Int) (f t:ByteArray) (oA:Option Addr) (on oc:Nat) (nA:Option Addr) (nn nc:Nat),
 en= .returned (.agg #[.int .u8 k,.slice pA pn pc,.int .i64 i,.int .i64 j,.string f,.string t,.slice oA on oc,.slice nA nn nc])/\ay w' e k pA pn pc i j f t oA on oc nA nn nc/\(bT w' e.path pA/\∃R,dX w' w.heap.size e pA pn pc oA on oc nA nn nc H R)/\Below w.heap.size w w'
structure nk (w:World) (b:Nat) (x0 x1 x2 x3 x4 x5 x6 x7:Value):Prop where
 cs:bw w b x0 x1 x2 x3 x4 x5 x6 x7
 fs:w.frozen? ⟨b,0,none⟩=false/\w.frozen? ⟨b,1,none⟩=false/\w.frozen? ⟨b,2,none⟩=false/\w.frozen? ⟨b,3,none⟩=false/\w.frozen? ⟨b,4,none⟩=false/\w.frozen? ⟨b,5,none⟩=false/\w.frozen? ⟨b,6,none⟩=false/\w.frozen? ⟨b,7,none⟩=false
theorem aw{w:World}{b:Nat}{x0 x1 x2 x3 x4 x5 x6 x7:Value}{T:TypeId}(h:w.heap[b]? =some (.cells #[x0,x1,x2,x3,x4,x5,x6,x7] T (0,0))):nk w b x0 x1 x2 x3 x4 x5 x6 x7:=by have hc:=fun j=>cell_of_row w b j _ T (0,0) h;refine⟨⟨by rw[hc];rfl,by rw[hc];rfl,by rw[hc];rfl,by rw[hc];rfl,by rw[hc];rfl,by rw[hc];rfl,by rw[hc];rfl,by rw[hc];rfl⟩,?_⟩;refine⟨?_,?_,?_,?_,?_,?_,?_,?_⟩ <;>simp[World.frozen?,h]
def an(w:World)(g:Nat)(v0 v1 v2 v3 v4 v5 v6 v7:Value):World:=
 (((((((w.setCell ⟨g,0,none⟩ v0).setCell ⟨g,1,none⟩ v1).setCell ⟨g,2,none⟩ v2).setCell ⟨g,3,none⟩ v3).setCell ⟨g,4,none⟩ v4).setCell ⟨g,5,none⟩ v5).setCell ⟨g,6,none⟩ v6).setCell ⟨g,7,none⟩ v7
theorem jH{w:World}{g:Nat}{v0 v1 v2 v3 v4 v5 v6 v7 x0 x1 x2 x3 x4 x5 x6 x7:Value}(h:bw w g x0 x1 x2 x3 x4 x5 x6 x7):bw (an w g v0 v1 v2 v3 v4 v5 v6 v7) g v0 v1 v2 v3 v4 v5 v6 v7:=by
 obtain⟨h0,h1,h2,h3,h4,h5,h6,h7⟩:=h;have hn:∀p q,p≠q->(⟨g,p,none⟩:Addr)≠⟨g,q,none⟩:=fun p q hq e=>hq (by injection e);unfold an;refine⟨?_,?_,?_,?_,?_,?_,?_,?_⟩
 .exact(am (hn 0 7 (by decide)) (am (hn 0 6 (by decide)) (am (hn 0 5 (by decide)) (am (hn 0 4 (by decide)) (am (hn 0 3 (by decide)) (am (hn 0 2 (by decide)) (am (hn 0 1 (by decide)) (cI h0))))))))
 .exact(am (hn 1 7 (by decide)) (am (hn 1 6 (by decide)) (am (hn 1 5 (by decide)) (am (hn 1 4 (by decide)) (am (hn 1 3 (by decide)) (am (hn 1 2 (by decide)) (cI (am (hn 1 0 (by decide)) h1))))))))
 .exact(am (hn 2 7 (by decide)) (am (hn 2 6 (by decide)) (am (hn 2 5 (by decide)) (am (hn 2 4 (by decide)) (am (hn 2 3 (by decide)) (cI (am (hn 2 1 (by decide)) (am (hn 2 0 (by decide)) h2))))))))
 .exact(am (hn 3 7 (by decide)) (am (hn 3 6 (by decide)) (am (hn 3 5 (by decide)) (am (hn 3 4 (by decide)) (cI (am (hn 3 2 (by decide)) (am (hn 3 1 (by decide)) (am (hn 3 0 (by decide)) h3))))))))
 .exact(am (hn 4 7 (by decide)) (am (hn 4 6 (by decide)) (am (hn 4 5 (by decide)) (cI (am (hn 4 3 (by decide)) (am (hn 4 2 (by decide)) (am (hn 4 1 (by decide)) (am (hn 4 0 (by decide)) h4))))))))
 .exact(am (hn 5 7 (by decide)) (am (hn 5 6 (by decide)) (cI (am (hn 5 4 (by decide)) (am (hn 5 3 (by decide)) (am (hn 5 2 (by decide)) (am (hn 5 1 (by decide)) (am (hn 5 0 (by decide)) h5))))))))
 .exact(am (hn 6 7 (by decide)) (cI (am (hn 6 5 (by decide)) (am (hn 6 4 (by decide)) (am (hn 6 3 (by decide)) (am (hn 6 2 (by decide)) (am (hn 6 1 (by decide)) (am (hn 6 0 (by decide)) h6))))))))
 .exact(cI (am (hn 7 6 (by decide)) (am (hn 7 5 (by decide)) (am (hn 7 4 (by decide)) (am (hn 7 3 (by decide)) (am (hn 7 2 (by decide)) (am (hn 7 1 (by decide)) (am (hn 7 0 (by decide)) h7))))))))
theorem mM{w w':World}{b g:Nat}{v0 v1 v2 v3 v4 v5 v6 v7:Value}(h:bN b w w')(hg:g<b):bN b w (an w' g v0 v1 v2 v3 v4 v5 v6 v7):=
 (((((((h.set hg).set hg).set hg).set hg).set hg).set hg).set hg).set hg
theorem cH{B:Nat}{w w':World}{g:Nat}{v0 v1 v2 v3 v4 v5 v6 v7:Value}(h:Below B w w')(hg:B<=g):Below B w (an w' g v0 v1 v2 v3 v4 v5 v6 v7):=
 (((((((h.setCell hg _).setCell hg _).setCell hg _).setCell hg _).setCell hg _).setCell hg _).setCell hg _).setCell hg _
theorem yA(e:aj)(k:Nat)(pA:Option Addr)(pn pc:Nat)(i j:Int)(f t:ByteArray)(oA:Option Addr)(on oc:Nat)(nA:Option Addr)(nn nc:Nat)(w:World)(h:ay w e k pA pn pc i j f t oA on oc nA nn nc)(hE:bI w)(hsz:f.size+t.size<=9223372036854775806)(hso:bi 9223372036854775806 e.olds)(hsn:bi 9223372036854775806 e.news)(hno:ap e=false):Calls Tryz.prog 25 #[.agg #[.int .u8 k,.slice pA pn pc,.int .i64 i,.int .i64 j,.string f,.string t,.slice oA on oc,.slice nA nn nc]] w (jQ (bD e) (nA,nn,nc) w):=by
 have hb0:Below w.heap.size w ((w.alloc (.cells #[.int .u8 k,.slice pA pn pc,.int .i64 i,.int .i64 j,.string f,.string t,.slice oA on oc,.slice nA nn nc] 26)).alloc (.cells #[.int .u8 0,.slice none 0 0,.int .i64 0,.int .i64 0,.string ⟨#[]⟩,.string ⟨#[]⟩,.slice none 0 0,.slice none 0 0] 26)):=((ai _ _).alloc (ah _) _).alloc (by simp) _;have HB0:=aa hb0;have HE:=aa (hE.below hb0 (ah _));have HI:=aa (h.below hb0);have HV:Hid (bD e=aj.zero):=(by show _=_;unfold bD;rw[hno];rfl);have HNO:=aa hno;clear hb0 hE h hno
 go_in
 go_wp2_with fail;refine(de e _ _ _ _ _ _ _ _ _ _ _ _ _ _ _ HI.out HE.out hsz hso hsn).mono ?_;rintro en w1 ⟨rfl,hb1⟩;rw[HNO.out];have HB1:=aa hb1;have hres:w1.heap[w.heap.size+1]? =some (.cells #[.int .u8 0,.slice none 0 0,.int .i64 0,.int .i64 0,.string ⟨#[]⟩,.string ⟨#[]⟩,.slice none 0 0,.slice none 0 0] 26 (0,0)):=(hb1.block _ (by simp)).trans (aQ (by simp));have HRS:=aa (aw hres);obtain⟨c0,c1,c2,c3,c4,c5,c6,c7⟩:=HRS.out.cs;obtain⟨f0,f1,f2,f3,f4,f5,f6,f7⟩:=HRS.out.fs;clear hres hb1;go_wp2_with fail;obtain⟨a0,a1,a2,a3,a4,a5,a6,a7⟩:=jH (v0:=.int .u8 0) (v1:=.slice none 0 0) (v2:=.int .i64 0) (v3:=.int .i64 0) (v4:=.string ⟨#[]⟩) (v5:=.string ⟨#[]⟩) (v6:=.slice none 0 0) (v7:=.slice none 0 0) HRS.out.cs;simp only[an] at a0 a1 a2 a3 a4 a5 a6 a7;refine bodyPost_ret (v:=.agg #[.int .u8 0,.slice none 0 0,.int .i64 0,.int .i64 0,.string ⟨#[]⟩,.string ⟨#[]⟩,.slice none 0 0,.slice none 0 0]) (by simp[results,Tryz.results25,go_sem,a0,a1,a2,a3,a4,a5,a6,a7]) rfl ?_;rw[HV.out];refine⟨0,none,0,0,0,0,⟨#[]⟩,⟨#[]⟩,none,0,0,none,0,0,rfl,⟨[],[],[],rfl,⟨rfl,ah _,aE _,.inl rfl⟩,KidsAt.nil _ _ (aE _),KidsAt.nil _ _ (aE _)⟩,⟨.inl rfl,_,dX.zero _ _ _⟩,?_⟩;exact cH (af HB0.out HB1.out) (by omega)
def aU(S:Nat->Bool)(w w':World):Prop:=w.heap.size<=w'.heap.size/\∀q,q<w.heap.size->S q=true->w'.heap[q]? =w.heap[q]?
theorem aU.refl(S:Nat->Bool)(w:World):aU S w w:=⟨ah _,fun _ _ _=>rfl⟩
theorem aU.trans{S:Nat->Bool}{w w1 w2:World}(h:aU S w w1)(h':aU S w1 w2):aU S w w2:=
 ⟨aJ h.1 h'.1,fun q hq hS=>(h'.2 q (fJ hq h.1) hS).trans (h.2 q hq hS)⟩
theorem aU.below{S:Nat->Bool}{w w':World}(h:Below w.heap.size w w'):aU S w w':=⟨h.size,fun q hq _=>h.block q hq⟩
theorem aU.set{S:Nat->Bool}{w w':World}(h:aU S w w'){p:Addr}(hp:S p.block=false)(u:Value):aU S w (w'.setCell p u):=
 ⟨by simpa using h.1,fun q hq hS=>by rw[aY _ _ _ _ (fun e=>by rw[e,hp] at hS;cases hS)];exact h.2 q hq hS⟩
theorem aU.of_keep{S:Nat->Bool}{b:Nat}{w w':World}(h:dY b w w')(hb:S b=false):aU S w w':=⟨h.bel.size,fun q hq hS=>h.old q hq (fun e=>by rw[e,hb] at hS;cases hS)⟩
theorem fQ(b:Nat):bf b b=false:=by simp[bf]
theorem fl{b q:Nat}(h:q≠b):bf b q=true:=by simp[bf,h]
theorem cq.but{w w':World}{S:Nat->Bool}{ks:List ag}{A:Option Addr}{n c:Nat}(h:cq w S ks A n c)(hb:aU S w w'):cq w' S ks A n c:=
 cq.keep h fun a v hS hc=>⟨hS,by rw[World.cell?_of_block (hb.2 _ (bK hc) hS)];exact hc⟩
theorem cq.kids{w:World}{S:Nat->Bool}{ks:List ag}{A:Option Addr}{n c:Nat}(h:cq w S ks A n c):KidsAt w ks A n c:=KidsAt.keep (fun _ _ hc=>(fD.1 hc).2) h
theorem my{w w':World}{S:Nat->Bool}{base:Nat}{e:TypeId}{size:Nat}{v:Value}{n:Nat}{xs:List Value}(h:w.ownsRow base e size v n xs)(hS:∀g,base<=g->S g=true)(hb:aU S w w'):w'.ownsRow base e size v n xs:=by obtain⟨h1,h2⟩:=h;refine⟨h1,h2.imp id ?_⟩;rintro⟨g,cap,cur,hv,hg,hh,r⟩;exact⟨g,cap,cur,hv,hg,by rw[hb.2 g (aK.1 hh).1 (hS g hg)];exact hh,r⟩
theorem xr{w w':World}{base b:Nat}{us:List ag}{cs:List Value}{A:Option Addr}{n c:Nat}(h:cB w cs us)(hown:w'.ownsRow base 44 4 (.slice A n c) n cs)(hn:n=us.length)(hb:Below w.heap.size w w')(h1:w.heap.size<=b)(h2:b<base):cq w' (bf b) us A n c:=by
 obtain⟨A',c',e,k1,k2⟩:=cw hown;injection e with e1 e2 e3;subst e1 e3;refine⟨hn,k1,k2,?_⟩;by_cases h0:us=[]
 .exact .inl h0
 .right;obtain⟨g,cap,e,hg⟩:=hown.form (by rw[hn];exact List.length_pos_iff.2 h0);injection e with e1 e2 e3;subst e1 e3;have hgb:=(hown.lt g rfl).1;have hoc:∀p u,cs[p]? =some u->(fS w' (bf b)).cell? ⟨g,p,none⟩=some u:=fun p u hu=>fD.2 ⟨fl (by show g≠b;omega),bH hown _ _ hu⟩;refine⟨g,0,rfl,ch.mk fun i t ht=>?_⟩;obtain⟨A2,c2,t0,t1,t2,t3,t4,t5,t6,t7⟩:=h.2 i t ht;rw[Nat.zero_add];refine cJ.of (hoc _ _ t0) (hoc _ _ t1) (hoc _ _ t2) (hoc _ _ t3) ?_ t5 t6 t7;exact KidsAt.keep (fun a v hc=>fD.2 ⟨fl (by have:=bK hc;omega),ac hb hc⟩) t4
structure jn (w:World) (b:Nat) (x0 x1 x2 x3 x4 x5 x6 x7 x8 x9 x10 x11:Value):Prop where
 c0:w.cell? ⟨b,0,none⟩=some x0
 c1:w.cell? ⟨b,1,none⟩=some x1
 c2:w.cell? ⟨b,2,none⟩=some x2
 c3:w.cell? ⟨b,3,none⟩=some x3
 c4:w.cell? ⟨b,4,none⟩=some x4
 c5:w.cell? ⟨b,5,none⟩=some x5
 c6:w.cell? ⟨b,6,none⟩=some x6
 c7:w.cell? ⟨b,7,none⟩=some x7
 c8:w.cell? ⟨b,8,none⟩=some x8
 c9:w.cell? ⟨b,9,none⟩=some x9
 c10:w.cell? ⟨b,10,none⟩=some x10
 c11:w.cell? ⟨b,11,none⟩=some x11
structure tm (w:World) (b:Nat):Prop where
 f0:w.frozen? ⟨b,0,none⟩=false
 f1:w.frozen? ⟨b,1,none⟩=false
 f2:w.frozen? ⟨b,2,none⟩=false
 f3:w.frozen? ⟨b,3,none⟩=false
 f4:w.frozen? ⟨b,4,none⟩=false
 f5:w.frozen? ⟨b,5,none⟩=false
 f6:w.frozen? ⟨b,6,none⟩=false
 f7:w.frozen? ⟨b,7,none⟩=false
 f8:w.frozen? ⟨b,8,none⟩=false
 f9:w.frozen? ⟨b,9,none⟩=false
 f10:w.frozen? ⟨b,10,none⟩=false
 f11:w.frozen? ⟨b,11,none⟩=false
theorem cr{w:World}{b:Nat}{x0 x1 x2 x3 x4 x5 x6 x7 x8 x9 x10 x11:Value}{T:TypeId}(h:w.heap[b]? =some (.cells #[x0,x1,x2,x3,x4,x5,x6,x7,x8,x9,x10,x11] T (0,0))):jn w b x0 x1 x2 x3 x4 x5 x6 x7 x8 x9 x10 x11/\tm w b:=by have hc:=fun j=>cell_of_row w b j _ T (0,0) h;refine⟨⟨by rw[hc];rfl,by rw[hc];rfl,by rw[hc];rfl,by rw[hc];rfl,by rw[hc];rfl,by rw[hc];rfl,by rw[hc];rfl,by rw[hc];rfl,by rw[hc];rfl,by rw[hc];rfl,by rw[hc];rfl,by rw[hc];rfl⟩,⟨?_,?_,?_,?_,?_,?_,?_,?_,?_,?_,?_,?_⟩⟩ <;>simp[World.frozen?,h]
def cA(w:World)(g:Nat)(v0 v1 v2 v3 v4 v5 v6 v7 v8 v9 v10 v11:Value):World:=
 ((((((((((((w.setCell ⟨g,0,none⟩ v0).setCell ⟨g,1,none⟩ v1).setCell ⟨g,2,none⟩ v2).setCell ⟨g,3,none⟩ v3).setCell ⟨g,4,none⟩ v4).setCell ⟨g,5,none⟩ v5).setCell ⟨g,6,none⟩ v6).setCell ⟨g,7,none⟩ v7).setCell ⟨g,8,none⟩ v8).setCell ⟨g,9,none⟩ v9).setCell ⟨g,10,none⟩ v10).setCell ⟨g,11,none⟩ v11)
theorem zm{w:World}{g:Nat}{v0 v1 v2 v3 v4 v5 v6 v7 v8 v9 v10 v11 x0 x1 x2 x3 x4 x5 x6 x7 x8 x9 x10 x11:Value}(h:jn w g x0 x1 x2 x3 x4 x5 x6 x7 x8 x9 x10 x11):jn (cA w g v0 v1 v2 v3 v4 v5 v6 v7 v8 v9 v10 v11) g v0 v1 v2 v3 v4 v5 v6 v7 v8 v9 v10 v11:=by
 obtain⟨h0,h1,h2,h3,h4,h5,h6,h7,h8,h9,h10,h11⟩:=h;have hn:∀p q,p≠q->(⟨g,p,none⟩:Addr)≠⟨g,q,none⟩:=fun p q hq e=>hq (by injection e);unfold cA;refine⟨?_,?_,?_,?_,?_,?_,?_,?_,?_,?_,?_,?_⟩
 .exact(am (hn 0 11 (by decide)) (am (hn 0 10 (by decide)) (am (hn 0 9 (by decide)) (am (hn 0 8 (by decide)) (am (hn 0 7 (by decide)) (am (hn 0 6 (by decide)) (am (hn 0 5 (by decide)) (am (hn 0 4 (by decide)) (am (hn 0 3 (by decide)) (am (hn 0 2 (by decide)) (am (hn 0 1 (by decide)) (cI h0))))))))))))
 .exact(am (hn 1 11 (by decide)) (am (hn 1 10 (by decide)) (am (hn 1 9 (by decide)) (am (hn 1 8 (by decide)) (am (hn 1 7 (by decide)) (am (hn 1 6 (by decide)) (am (hn 1 5 (by decide)) (am (hn 1 4 (by decide)) (am (hn 1 3 (by decide)) (am (hn 1 2 (by decide)) (cI (am (hn 1 0 (by decide)) h1))))))))))))
 .exact(am (hn 2 11 (by decide)) (am (hn 2 10 (by decide)) (am (hn 2 9 (by decide)) (am (hn 2 8 (by decide)) (am (hn 2 7 (by decide)) (am (hn 2 6 (by decide)) (am (hn 2 5 (by decide)) (am (hn 2 4 (by decide)) (am (hn 2 3 (by decide)) (cI (am (hn 2 1 (by decide)) (am (hn 2 0 (by decide)) h2))))))))))))
 .exact(am (hn 3 11 (by decide)) (am (hn 3 10 (by decide)) (am (hn 3 9 (by decide)) (am (hn 3 8 (by decide)) (am (hn 3 7 (by decide)) (am (hn 3 6 (by decide)) (am (hn 3 5 (by decide)) (am (hn 3 4 (by decide)) (cI (am (hn 3 2 (by decide)) (am (hn 3 1 (by decide)) (am (hn 3 0 (by decide)) h3))))))))))))
 .exact(am (hn 4 11 (by decide)) (am (hn 4 10 (by decide)) (am (hn 4 9 (by decide)) (am (hn 4 8 (by decide)) (am (hn 4 7 (by decide)) (am (hn 4 6 (by decide)) (am (hn 4 5 (by decide)) (cI (am (hn 4 3 (by decide)) (am (hn 4 2 (by decide)) (am (hn 4 1 (by decide)) (am (hn 4 0 (by decide)) h4))))))))))))
 .exact(am (hn 5 11 (by decide)) (am (hn 5 10 (by decide)) (am (hn 5 9 (by decide)) (am (hn 5 8 (by decide)) (am (hn 5 7 (by decide)) (am (hn 5 6 (by decide)) (cI (am (hn 5 4 (by decide)) (am (hn 5 3 (by decide)) (am (hn 5 2 (by decide)) (am (hn 5 1 (by decide)) (am (hn 5 0 (by decide)) h5))))))))))))
 .exact(am (hn 6 11 (by decide)) (am (hn 6 10 (by decide)) (am (hn 6 9 (by decide)) (am (hn 6 8 (by decide)) (am (hn 6 7 (by decide)) (cI (am (hn 6 5 (by decide)) (am (hn 6 4 (by decide)) (am (hn 6 3 (by decide)) (am (hn 6 2 (by decide)) (am (hn 6 1 (by decide)) (am (hn 6 0 (by decide)) h6))))))))))))
 .exact(am (hn 7 11 (by decide)) (am (hn 7 10 (by decide)) (am (hn 7 9 (by decide)) (am (hn 7 8 (by decide)) (cI (am (hn 7 6 (by decide)) (am (hn 7 5 (by decide)) (am (hn 7 4 (by decide)) (am (hn 7 3 (by decide)) (am (hn 7 2 (by decide)) (am (hn 7 1 (by decide)) (am (hn 7 0 (by decide)) h7))))))))))))
 .exact(am (hn 8 11 (by decide)) (am (hn 8 10 (by decide)) (am (hn 8 9 (by decide)) (cI (am (hn 8 7 (by decide)) (am (hn 8 6 (by decide)) (am (hn 8 5 (by decide)) (am (hn 8 4 (by decide)) (am (hn 8 3 (by decide)) (am (hn 8 2 (by decide)) (am (hn 8 1 (by decide)) (am (hn 8 0 (by decide)) h8))))))))))))
 .exact(am (hn 9 11 (by decide)) (am (hn 9 10 (by decide)) (cI (am (hn 9 8 (by decide)) (am (hn 9 7 (by decide)) (am (hn 9 6 (by decide)) (am (hn 9 5 (by decide)) (am (hn 9 4 (by decide)) (am (hn 9 3 (by decide)) (am (hn 9 2 (by decide)) (am (hn 9 1 (by decide)) (am (hn 9 0 (by decide)) h9))))))))))))
 .exact(am (hn 10 11 (by decide)) (cI (am (hn 10 9 (by decide)) (am (hn 10 8 (by decide)) (am (hn 10 7 (by decide)) (am (hn 10 6 (by decide)) (am (hn 10 5 (by decide)) (am (hn 10 4 (by decide)) (am (hn 10 3 (by decide)) (am (hn 10 2 (by decide)) (am (hn 10 1 (by decide)) (am (hn 10 0 (by decide)) h10))))))))))))
 .exact(cI (am (hn 11 10 (by decide)) (am (hn 11 9 (by decide)) (am (hn 11 8 (by decide)) (am (hn 11 7 (by decide)) (am (hn 11 6 (by decide)) (am (hn 11 5 (by decide)) (am (hn 11 4 (by decide)) (am (hn 11 3 (by decide)) (am (hn 11 2 (by decide)) (am (hn 11 1 (by decide)) (am (hn 11 0 (by decide)) h11))))))))))))
theorem rx{S:Nat->Bool}{w w':World}{g:Nat}{v0 v1 v2 v3 v4 v5 v6 v7 v8 v9 v10 v11:Value}(h:aU S w w')(hg:S g=false):aU S w (cA w' g v0 v1 v2 v3 v4 v5 v6 v7 v8 v9 v10 v11):=
 ((((((((((((h.set (p:=⟨g,0,none⟩) hg _).set (p:=⟨g,1,none⟩) hg _).set (p:=⟨g,2,none⟩) hg _).set (p:=⟨g,3,none⟩) hg _).set (p:=⟨g,4,none⟩) hg _).set (p:=⟨g,5,none⟩) hg _).set (p:=⟨g,6,none⟩) hg _).set (p:=⟨g,7,none⟩) hg _).set (p:=⟨g,8,none⟩) hg _).set (p:=⟨g,9,none⟩) hg _).set (p:=⟨g,10,none⟩) hg _).set (p:=⟨g,11,none⟩) hg _)
theorem lE{B:Nat}{w w':World}{g:Nat}{v0 v1 v2 v3 v4 v5 v6 v7 v8 v9 v10 v11:Value}(h:Below B w w')(hg:B<=g):Below B w (cA w' g v0 v1 v2 v3 v4 v5 v6 v7 v8 v9 v10 v11):=
 ((((((((((((h.setCell (p:=⟨g,0,none⟩) hg _).setCell (p:=⟨g,1,none⟩) hg _).setCell (p:=⟨g,2,none⟩) hg _).setCell (p:=⟨g,3,none⟩) hg _).setCell (p:=⟨g,4,none⟩) hg _).setCell (p:=⟨g,5,none⟩) hg _).setCell (p:=⟨g,6,none⟩) hg _).setCell (p:=⟨g,7,none⟩) hg _).setCell (p:=⟨g,8,none⟩) hg _).setCell (p:=⟨g,9,none⟩) hg _).setCell (p:=⟨g,10,none⟩) hg _).setCell (p:=⟨g,11,none⟩) hg _)
def cS(w:World)(ss:List ar)(A:Option Addr)(n c:Nat):Prop:=n=ss.length/\n<=c/\c<=maxLen/\(ss=[]∨∃b o,A=some ⟨b,o,none⟩/\∀j s,ss[j]? =some s->w.cell? ⟨b,o+j,none⟩=some (.string (sb s)))
theorem cS.keep{w w':World}(hb:∀a v,w.cell? a=some v->w'.cell? a=some v){ss:List ar}{A:Option Addr}{n c:Nat}(h:cS w ss A n c):cS w' ss A n c:=by obtain⟨h1,h2,h3,h4⟩:=h;refine⟨h1,h2,h3,h4.imp id ?_⟩;rintro⟨b,o,e,h5⟩;exact⟨b,o,e,fun j s hs=>hb _ _ (h5 j s hs)⟩
theorem cS.below{w w':World}(hb:Below w.heap.size w w'){ss:List ar}{A:Option Addr}{n c:Nat}(h:cS w ss A n c):cS w' ss A n c:=h.keep fun _ _=>ac hb
theorem cS.own{w:World}{base:Nat}{v:Value}{ss:List ar}{n:Nat}(h:w.ownsRow base 9 1 v n (bj ss))(hn:n=ss.length):∃A c,v= .slice A n c/\cS w ss A n c:=by
 obtain⟨A,c,rfl,k1,k2⟩:=cw h;refine⟨A,c,rfl,hn,k1,k2,?_⟩;by_cases h0:ss=[]
 .exact .inl h0
 .right;obtain⟨g,cap,e,hg⟩:=h.form (by rw[hn];exact List.length_pos_iff.2 h0);injection e with e1 e2 e3;subst e1 e3;refine⟨g,0,rfl,fun j s hs=>?_⟩;rw[Nat.zero_add];exact bH h j _ (by simp[bj,hs])
theorem sJ{w:World}{g:Nat}{f t:ByteArray}{T:TypeId}(h:w.heap[g]? =some (.cells #[.string f,.string t] T (0,0))):cS w [bl f,bl t] (some ⟨g,0,none⟩) 2 2:=
 ⟨rfl,ah _,by unfold maxLen;omega,.inr ⟨g,0,rfl,fun j s hs=>by
  have hc:=cell_of_row w g j _ T (0,0) h;rw[Nat.zero_add,hc];match j,hs with
  |0,hs=>simp at hs;subst hs;rfl
  |1,hs=>simp at hs;subst hs;rfl
  |j+2,hs=>simp at hs⟩⟩
def bW(w:World)(ss:List ar)(A:Option Addr)(n c:Nat):Prop:=cS w ss A n c/\(ss=[]∨∃b o cs fr,A=some ⟨b,o,none⟩/\w.heap[b]? =some (.cells cs 9 fr))
theorem bW.below{w w':World}(hb:Below w.heap.size w w'){ss:List ar}{A:Option Addr}{n c:Nat}(h:bW w ss A n c):bW w' ss A n c:=by refine⟨h.1.below hb,h.2.imp id ?_⟩;rintro⟨b,o,cs,fr,e,hh⟩;exact⟨b,o,cs,fr,e,(hb.block _ (aK.1 hh).1).trans hh⟩
theorem bW.but{w w':World}{z:Nat}{ss:List ar}{A:Option Addr}{n c:Nat}{cs:Array Value}{T:TypeId}{fr:Nat×Nat}(h:bW w ss A n c)(hz:w.heap[z]? =some (.cells cs T fr))(hT:T≠9)(hb:aU (bf z) w w'):bW w' ss A n c:=by
 obtain⟨⟨h1,h2,h3,h4⟩,h5⟩:=h;have hne:∀b o,A=some ⟨b,o,none⟩->ss≠[]->b≠z/\b<w.heap.size:=by
  intro b o e h0;rcases h5 with e0|⟨b',o',cs',fr',e',hh⟩
  .exact absurd e0 h0
  .rw[e] at e';injection e' with e';injection e' with e1 e2;subst e1;refine⟨fun e=>?_,(aK.1 hh).1⟩;rw[e,hz] at hh;injection hh with hh;injection hh with _ ht;exact hT ht
 refine⟨⟨h1,h2,h3,?_⟩,?_⟩
 .by_cases h0:ss=[]
  .exact .inl h0
  .rcases h4 with e|⟨b,o,e,hc⟩
   .exact absurd e h0
   .obtain⟨n1,n2⟩:=hne b o e h0;exact .inr ⟨b,o,e,fun j s hs=>by rw[World.cell?_of_block (hb.2 b n2 (fl n1))];exact hc j s hs⟩
 .by_cases h0:ss=[]
  .exact .inl h0
  .rcases h5 with e|⟨b,o,cs',fr',e,hh⟩
   .exact absurd e h0
   .obtain⟨n1,n2⟩:=hne b o e h0;exact .inr ⟨b,o,cs',fr',e,(hb.2 b n2 (fl n1)).trans hh⟩
theorem sK{w:World}{g:Nat}{f t:ByteArray}(h:w.heap[g]? =some (.cells #[.string f,.string t] 9 (0,0))):bW w [bl f,bl t] (some ⟨g,0,none⟩) 2 2:=⟨sJ h,.inr ⟨g,0,_,_,rfl,h⟩⟩
def nz(e:aj)(x0 x1 x2 x3 x4 x5 x6 x7:Value)(w:World)(en:Ending)(w':World):Prop:=∃(ns:List ar) (nA:Option Addr) (nn nc:Nat) (bA:Option Addr) (bn bc:Nat),
 en= .returned (.agg #[x0,x1,x2,x3,x4,x5,x6,x7,.slice nA nn nc,.slice bA bn bc,.bool e.params,.bool e.calls])/\(∀s,s∈ns↔s∈e.names)/\bW w' ns nA nn nc/\bW w' e.binds bA bn bc/\Below w.heap.size w w'
theorem yB(ps:List Int)(os ns:List ag)(pA:Option Addr)(pn pc:Nat)(i j:Int)(f t:ByteArray)(oA:Option Addr)(on oc:Nat)(nA:Option Addr)(nn nc:Nat)(w:World):Calls Tryz.prog 23 #[.agg #[.int .u8 1,.slice pA pn pc,.int .i64 i,.int .i64 j,.string f,.string t,.slice oA on oc,.slice nA nn nc]] w (nz ⟨1,ps,i,j,bl f,bl t,os,ns⟩ (.int .u8 1) (.slice pA pn pc) (.int .i64 i) (.int .i64 j) (.string f) (.string t) (.slice oA on oc) (.slice nA nn nc) w):=by
 go_in
 go_wp2_with fail;refine bodyPost_ret (v:=.agg #[.int .u8 1,.slice pA pn pc,.int .i64 i,.int .i64 j,.string f,.string t,.slice oA on oc,.slice nA nn nc,.slice (some ⟨w.heap.size+1+1+1,0,none⟩) 2 2,.slice (some ⟨w.heap.size+1+1+1,0,none⟩) 2 2,.bool false,.bool false]) (by simp[results,Tryz.results23,go_sem]) rfl ?_;exact⟨[bl f,bl t],_,2,2,_,2,2,rfl,fun s=>Iff.rfl,sK (aQ (by simp)),sK (aQ (by simp)),(((((ai _ w).alloc (ah _) _).alloc (by simp) _).alloc (by simp;omega) _).alloc (by simp;omega) _)⟩
def jC(w:World)(x0 x1 x2 x3 x4 x5 x6 x7:Value):World:=
 (((w.alloc (.cells #[x0,x1,x2,x3,x4,x5,x6,x7] 26)).alloc (.cells #[.int .u8 0,.slice none 0 0,.int .i64 0,.int .i64 0,.string ⟨#[]⟩,.string ⟨#[]⟩,.slice none 0 0,.slice none 0 0,.slice none 0 0,.slice none 0 0,.bool false,.bool false] 54)).alloc (.cells #[x0,x1,x2,x3,x4,x5,x6,x7,.slice none 0 0,.slice none 0 0,.bool false,.bool false] 54)).alloc (.cells #[x6,x7] 24)
theorem wJ(w:World)(x0 x1 x2 x3 x4 x5 x6 x7:Value):Below w.heap.size w (jC w x0 x1 x2 x3 x4 x5 x6 x7)/\(jC w x0 x1 x2 x3 x4 x5 x6 x7).heap.size=w.heap.size+4/\(jC w x0 x1 x2 x3 x4 x5 x6 x7).heap[w.heap.size+1]? =some (.cells #[.int .u8 0,.slice none 0 0,.int .i64 0,.int .i64 0,.string ⟨#[]⟩,.string ⟨#[]⟩,.slice none 0 0,.slice none 0 0,.slice none 0 0,.slice none 0 0,.bool false,.bool false] 54 (0,0))/\(jC w x0 x1 x2 x3 x4 x5 x6 x7).heap[w.heap.size+1+1]? =some (.cells #[x0,x1,x2,x3,x4,x5,x6,x7,.slice none 0 0,.slice none 0 0,.bool false,.bool false] 54 (0,0))/\(jC w x0 x1 x2 x3 x4 x5 x6 x7).heap[w.heap.size+1+1+1]? =some (.cells #[x6,x7] 24 (0,0)):=by
 unfold jC;refine⟨((((ai _ w).alloc (ah _) _).alloc (by simp) _).alloc (by simp;omega) _).alloc (by simp;omega) _,by simp,?_,?_,aQ (by simp)⟩
 .exact(heap_alloc_old _ _ (by simp)).trans ((heap_alloc_old _ _ (by simp)).trans (aQ (by simp)))
 .exact(heap_alloc_old _ _ (by simp)).trans (aQ (by simp))
theorem tY{w:World}{b:Nat}{x0 x1 x2 x3 x4 x5 x6 x7 x8 x9 x10 x11 u:Value}{T:TypeId}(h:w.heap[b]? =some (.cells #[x0,x1,x2,x3,x4,x5,x6,x7,x8,x9,x10,x11] T (0,0))):(w.setCell ⟨b,8,none⟩ u).heap[b]? =some (.cells #[x0,x1,x2,x3,x4,x5,x6,x7,u,x9,x10,x11] T (0,0)):=by simp[World.setCell,Array.getElem?_modify,h]
theorem tX{w:World}{b:Nat}{x0 x1 x2 x3 x4 x5 x6 x7 x8 x9 x10 x11 u:Value}{T:TypeId}(h:w.heap[b]? =some (.cells #[x0,x1,x2,x3,x4,x5,x6,x7,x8,x9,x10,x11] T (0,0))):(w.setCell ⟨b,10,none⟩ u).heap[b]? =some (.cells #[x0,x1,x2,x3,x4,x5,x6,x7,x8,x9,u,x11] T (0,0)):=by simp[World.setCell,Array.getElem?_modify,h]
theorem AC{w:World}{b:Nat}{x0 x1 x2 x3 x4 x5 x6 x7 x8 x10:Value}{T:TypeId}(h:w.heap[b]? =some (.cells #[x0,x1,x2,x3,x4,x5,x6,x7,x8,.slice none 0 0,x10,.bool false] T (0,0))):eQ w.heap.size b w (.slice none 0 0) [] false:=by obtain⟨h1,h2⟩:=cr h;exact⟨⟨h1.c9,h2.f9,World.ownsRow_nil _ _ _ _,(aK.1 h).1⟩,h1.c11,h2.f11⟩
theorem Ay{w w':World}{b:Nat}{x0 x1 x2 x3 x4 x5 x6 x7 x8 x9 x10 x11 v:Value}{T:TypeId}{B:Nat}{ss:List ar}{c:Bool}(h:w.heap[b]? =some (.cells #[x0,x1,x2,x3,x4,x5,x6,x7,x8,x9,x10,x11] T (0,0)))(hk:dY b w w')(hS:eQ B b w' v ss c):jn w' b x0 x1 x2 x3 x4 x5 x6 x7 x8 v x10 (.bool c):=by obtain⟨h1,h2⟩:=cr h;exact⟨(hk.only 0 _ (by decide) (by decide) h1.c0).1,(hk.only 1 _ (by decide) (by decide) h1.c1).1,(hk.only 2 _ (by decide) (by decide) h1.c2).1,(hk.only 3 _ (by decide) (by decide) h1.c3).1,(hk.only 4 _ (by decide) (by decide) h1.c4).1,(hk.only 5 _ (by decide) (by decide) h1.c5).1,(hk.only 6 _ (by decide) (by decide) h1.c6).1,(hk.only 7 _ (by decide) (by decide) h1.c7).1,(hk.only 8 _ (by decide) (by decide) h1.c8).1,hS.str.cell,(hk.only 10 _ (by decide) (by decide) h1.c10).1,hS.cell⟩
theorem sB{w:World}{base n c:Nat}{A:Option Addr}{ss:List ar}(h:w.ownsRow base 9 1 (.slice A n c) n (bj ss))(hn:n=ss.length):bW w ss A n c:=by
 obtain⟨A',c',e,h4⟩:=cS.own h hn;injection e with e1 e2 e3;rw[e1,e3];refine⟨h4,?_⟩;rcases h.2 with ⟨e,h0⟩|⟨g,cap,cur,hv,hg,hh,_⟩
 .left;exact List.length_eq_zero_iff.1 (by omega)
 .injection hv with hv1;right;exact⟨g,0,cur,_,by rw[<-e1,hv1],hh⟩
theorem AB(tmps:Array Value)(W:World)(g:Nat){x0 x1 x2 x3 x4 x5 x6 x7 x8 x9 x10 x11:Value}(ht:tmps[2]?.getD undef= .pointer (some ⟨g,0,none⟩))(hb:jn W g x0 x1 x2 x3 x4 x5 x6 x7 x8 x9 x10 x11):(results Tryz.f23 tmps).run Tryz.prog W= .ok (.agg #[x0,x1,x2,x3,x4,x5,x6,x7,x8,x9,x10,x11]) W:=by obtain⟨a0,a1,a2,a3,a4,a5,a6,a7,a8,a9,a10,a11⟩:=hb;simp[results,Tryz.results23,go_sem,ht,a0,a1,a2,a3,a4,a5,a6,a7,a8,a9,a10,a11]
theorem yC(k:Nat)(ps:List Int)(os ns:List ag)(pA:Option Addr)(pn pc:Nat)(i j:Int)(f t:ByteArray)(oA:Option Addr)(on oc:Nat)(nA:Option Addr)(nn nc:Nat)(w:World)(ho:KidsAt w os oA on oc)(hn:KidsAt w ns nA nn nc)(hk:k≠1)(hpos:0<on+nn)(hos:ao os<=1000)(hns:ao ns<=1000)(sho:bi 281474976710656 os)(shn:bi 281474976710656 ns):Calls Tryz.prog 23 #[.agg #[.int .u8 k,.slice pA pn pc,.int .i64 i,.int .i64 j,.string f,.string t,.slice oA on oc,.slice nA nn nc]] w (nz ⟨k,ps,i,j,bl f,bl t,os,ns⟩ (.int .u8 k) (.slice pA pn pc) (.int .i64 i) (.int .i64 j) (.string f) (.string t) (.slice oA on oc) (.slice nA nn nc) w):=by
 have q1:((k:Int) == 1)=false:=(by simp;omega);have HF:=aa (wJ w (.int .u8 k) (.slice pA pn pc) (.int .i64 i) (.int .i64 j) (.string f) (.string t) (.slice oA on oc) (.slice nA nn nc));have hlo:=eA os;have hln:=eA ns;have HLO:Hid (on=os.length):=ho.1;have HLN:Hid (nn=ns.length):=hn.1;have hon:on<=1000:=(by rw[HLO.out];omega);have hnn:nn<=1000:=(by rw[HLN.out];omega);have HO:=aa ho;have HN:=aa hn;have HSH:=aa (Av sho shn);have HSZ:Hid (ao (os++ns)<=1000000):=(by show _<=_;rw[o9];omega);clear ho hn sho shn
 go_in
 go_wp2_with fail;refine(xX os ns (w.heap.size+1+1+1) oA on oc nA nn nc w (jC w (.int .u8 k) (.slice pA pn pc) (.int .i64 i) (.int .i64 j) (.string f) (.string t) (.slice oA on oc) (.slice nA nn nc)) HF.out.1 ((cell_of_row _ _ 0 _ _ (0,0) HF.out.2.2.2.2).trans rfl) ((cell_of_row _ _ 1 _ _ (0,0) HF.out.2.2.2.2).trans rfl) HO.out HN.out hpos (by omega)).mono ?_;rintro en w1 ⟨v1,cs,rfl,hown,hread,hb1⟩;have HB1:=aa (af HF.out.1 hb1);have HR1:Hid (w1.heap[w.heap.size+1]? =some (.cells #[.int .u8 0,.slice none 0 0,.int .i64 0,.int .i64 0,.string ⟨#[]⟩,.string ⟨#[]⟩,.slice none 0 0,.slice none 0 0,.slice none 0 0,.slice none 0 0,.bool false,.bool false] 54 (0,0))):=(hb1.block _ (by rw[HF.out.2.1];omega)).trans HF.out.2.2.1;have HX1:Hid (w1.heap[w.heap.size+1+1]? =some (.cells #[.int .u8 k,.slice pA pn pc,.int .i64 i,.int .i64 j,.string f,.string t,.slice oA on oc,.slice nA nn nc,.slice none 0 0,.slice none 0 0,.bool false,.bool false] 54 (0,0))):=(hb1.block _ (by rw[HF.out.2.1];omega)).trans HF.out.2.2.2.1;have HS1:Hid (w.heap.size+4<=w1.heap.size):=(by show _<=_;have:=hb1.size;rw[HF.out.2.1] at this;exact this);obtain⟨A,c,rfl,hk1⟩:=hread.done hown (by rw[cb,<-HLO.out,<-HLN.out]) HB1.out;have HK1:=aa hk1;have HON:=aa (xr (b:=w.heap.size+1+1) hread hown (by rw[cb,<-HLO.out,<-HLN.out]) HB1.out (by omega) (by rw[HF.out.2.1];omega));clear hown hread hb1 hk1;go_wp2_with fail;refine(yH (os++ns) A (on+nn) c _ HK1.out HSH.out HSZ.out).mono ?_;rintro en w2 ⟨v2,rfl,hb2,ns2,hm2,hl2,ho2⟩;obtain⟨A2,c2,rfl,ka,kb⟩:=cw ho2;clear ka kb;have HB2:=aa hb2;have HO2:=aa ho2;have HM2:=aa hm2;have HX2:=aa ((hb2.block _ (by have:=HS1.out;omega)).trans HX1.out);have HR2:=aa ((hb2.block _ (by have:=HS1.out;omega)).trans HR1.out);have c8:=(cr HX2.out).1.c8;have f8:=(cr HX2.out).2.f8;clear hb2 ho2 hm2;go_wp2_with fail;have HBT2:Hid (aU (bf (w.heap.size+1+1)) w1 (w2.setCell ⟨w.heap.size+1+1,8,none⟩ (.slice A2 ns2.length c2))):=(aU.below HB2.out).set (fQ _) _;have HON2:=aa (cq.but HON.out HBT2.out);refine(xE (os++ns) A (on+nn) c _ (cq.kids HON2.out)).mono ?_;rintro en w3 ⟨rfl,hb3⟩;have HB3:=aa hb3;have hs2:w.heap.size+4<=w2.heap.size:=aJ HS1.out HB2.out.size;have HX3:=aa ((hb3.block _ (by simp;omega)).trans (tY (u:=.slice A2 ns2.length c2) HX2.out));have HR3:=aa ((hb3.block _ (by simp;omega)).trans ((aY w2 ⟨w.heap.size+1+1,8,none⟩ (.slice A2 ns2.length c2) (w.heap.size+1) (by simp)).trans HR2.out));clear c8 f8;have c10:=(cr HX3.out).1.c10;have f10:=(cr HX3.out).2.f10;have hs3:w.heap.size+4<=w3.heap.size:=(by have:=hb3.size;simp at this;omega);clear hb3;go_wp2_with fail;have HX4:=aa (tX (u:=.bool (dH (os++ns))) HX3.out);have HSB:=aa (AC HX4.out);have HBT3:Hid (aU (bf (w.heap.size+1+1)) (w2.setCell ⟨w.heap.size+1+1,8,none⟩ (.slice A2 ns2.length c2)) (w3.setCell ⟨w.heap.size+1+1,10,none⟩ (.bool (dH (os++ns))))):=(aU.below HB3.out).set (fQ _) _;have HON3:=aa (cq.but HON2.out HBT3.out);refine(yY (os++ns) A (on+nn) c [] false (w.heap.size+1+1) _ _ _ HON3.out (dY.refl _ _) HSB.out (by have:=HSZ.out;simp;omega)).mono ?_;rintro en w4 ⟨rfl,hk4,v4,hS4⟩;have HK4:=aa hk4;have e4:(eR [] (os++ns))=cO (os++ns):=rfl;have e5:(fA false (os++ns))=bP (os++ns):=(by simp[fA]);rw[e4,e5] at hS4;clear e4 e5;obtain⟨A4,c4,rfl,ka,kb⟩:=cw hS4.str.own;clear ka kb;have HS4:=aa hS4;have HR4:=aa ((hk4.old (w.heap.size+1) (by simp;omega) (by omega)).trans ((aY w3 ⟨w.heap.size+1+1,10,none⟩ (.bool (dH (os++ns))) (w.heap.size+1) (by simp)).trans HR3.out));clear c10 f10;obtain⟨d0,d1,d2,d3,d4,d5,d6,d7,d8,d9,d10,d11⟩:=Ay HX4.out hk4 hS4;obtain⟨r0,r1,r2,r3,r4,r5,r6,r7,r8,r9,r10,r11⟩:=(cr HR4.out).1;obtain⟨s0,s1,s2,s3,s4,s5,s6,s7,s8,s9,s10,s11⟩:=(cr HR4.out).2;clear hk4 hS4;go_wp2_with fail;have HBW:Hid (aU (bf (w.heap.size+1)) w4 (cA w4 (w.heap.size+1) (.int .u8 k) (.slice pA pn pc) (.int .i64 i) (.int .i64 j) (.string f) (.string t) (.slice oA on oc) (.slice nA nn nc) (.slice A2 ns2.length c2) (.slice A4 (cO (os++ns)).length c4) (.bool (dH (os++ns))) (.bool (bP (os++ns))))):=rx (aU.refl _ _) (fQ _);have HBLW:Hid (Below w.heap.size w (cA w4 (w.heap.size+1) (.int .u8 k) (.slice pA pn pc) (.int .i64 i) (.int .i64 j) (.string f) (.string t) (.slice oA on oc) (.slice nA nn nc) (.slice A2 ns2.length c2) (.slice A4 (cO (os++ns)).length c4) (.bool (dH (os++ns))) (.bool (bP (os++ns))))):=by have h1:Below w.heap.size w (w2.setCell ⟨w.heap.size+1+1,8,none⟩ (.slice A2 ns2.length c2)):=(af HB1.out HB2.out).setCell (p:=⟨w.heap.size+1+1,8,none⟩) (by simp;omega) _;have h2:Below w.heap.size w (w3.setCell ⟨w.heap.size+1+1,10,none⟩ (.bool (dH (os++ns)))):=(af h1 HB3.out).setCell (p:=⟨w.heap.size+1+1,10,none⟩) (by simp;omega) _;have h3:Below w.heap.size w w4:=h2.trans (HK4.out.bel.mono (by omega));exact lE h3 (by omega)
 have HNW:Hid (bW (cA w4 (w.heap.size+1) (.int .u8 k) (.slice pA pn pc) (.int .i64 i) (.int .i64 j) (.string f) (.string t) (.slice oA on oc) (.slice nA nn nc) (.slice A2 ns2.length c2) (.slice A4 (cO (os++ns)).length c4) (.bool (dH (os++ns))) (.bool (bP (os++ns)))) ns2 A2 ns2.length c2):=by have h1:=my HO2.out (fun g hg=>fl (b:=w.heap.size+1+1) (by have:=HS1.out;omega)) ((aU.below (ai _ _)).set (p:=⟨w.heap.size+1+1,8,none⟩) (u:=.slice A2 ns2.length c2) (fQ _));have h2:=my h1 (fun g hg=>fl (b:=w.heap.size+1+1) (by have:=HS1.out;omega)) (HBT3.out.trans (aU.of_keep HK4.out (fQ _)));have h3:=my h2 (fun g hg=>fl (b:=w.heap.size+1) (by have:=HS1.out;omega)) HBW.out;exact sB h3 rfl
 have HBI:Hid (bW (cA w4 (w.heap.size+1) (.int .u8 k) (.slice pA pn pc) (.int .i64 i) (.int .i64 j) (.string f) (.string t) (.slice oA on oc) (.slice nA nn nc) (.slice A2 ns2.length c2) (.slice A4 (cO (os++ns)).length c4) (.bool (dH (os++ns))) (.bool (bP (os++ns)))) (cO (os++ns)) A4 (cO (os++ns)).length c4):=by have h3:=my HS4.out.str.own (fun g hg=>fl (b:=w.heap.size+1) (by simp at hg;omega)) HBW.out;exact sB h3 rfl
 refine bodyPost_ret (AB _ _ (w.heap.size+1) rfl (zm (v0:=.int .u8 k) (v1:=.slice pA pn pc) (v2:=.int .i64 i) (v3:=.int .i64 j) (v4:=.string f) (v5:=.string t) (v6:=.slice oA on oc) (v7:=.slice nA nn nc) (v8:=.slice A2 ns2.length c2) (v9:=.slice A4 (cO (os++ns)).length c4) (v10:=.bool (dH (os++ns))) (v11:=.bool (bP (os++ns))) (cr HR4.out).1)) rfl ?_;have ep:aj.params ⟨k,ps,i,j,bl f,bl t,os,ns⟩=dH (os++ns):=(by unfold aj.params;rw[if_neg hk];rfl);have ec:aj.calls ⟨k,ps,i,j,bl f,bl t,os,ns⟩=bP (os++ns):=(by unfold aj.calls;rw[if_neg hk];rfl);have en:aj.names ⟨k,ps,i,j,bl f,bl t,os,ns⟩=bE (os++ns):=(by unfold aj.names;rw[if_neg hk];rfl);have eb:aj.binds ⟨k,ps,i,j,bl f,bl t,os,ns⟩=cO (os++ns):=(by unfold aj.binds;rw[if_neg hk];rfl);refine⟨ns2,A2,ns2.length,c2,A4,(cO (os++ns)).length,c4,by rw[ep,ec],by rw[en];exact HM2.out,HNW.out,by rw[eb];exact HBI.out,HBLW.out⟩
theorem zh{ts:List ag}(h:bR ts=true):0<ts.length:=by
 cases ts with
 |nil=>simp[bR] at h
 |cons t ts=>simp
theorem rm(e:aj)(k:Nat)(pA:Option Addr)(pn pc:Nat)(i j:Int)(f t:ByteArray)(oA:Option Addr)(on oc:Nat)(nA:Option Addr)(nn nc:Nat)(w:World)(h:ay w e k pA pn pc i j f t oA on oc nA nn nc)(ht:e.tiny)(hr:ap e=true):Calls Tryz.prog 23 #[.agg #[.int .u8 k,.slice pA pn pc,.int .i64 i,.int .i64 j,.string f,.string t,.slice oA on oc,.slice nA nn nc]] w (nz e (.int .u8 k) (.slice pA pn pc) (.int .i64 i) (.int .i64 j) (.string f) (.string t) (.slice oA on oc) (.slice nA nn nc) w):=by
 obtain⟨ps,os,ns,rfl,hp,ho,hn⟩:=h;by_cases hk:k=1
 .subst hk;exact yB ps os ns pA pn pc i j f t oA on oc nA nn nc w
 .have hR:=((iY _).1 hr).2;have hpos:0<on+nn:=by
   have e1:=ho.1;have e2:=hn.1;unfold lT at hR;simp only at hR;rcases hR with ⟨h,_⟩|⟨_,_,_,_,_,h⟩|⟨_,_,_,_,_,h⟩|⟨_,_,_,_,_,_,h,_⟩|⟨_,_,_,_,_,h⟩
   .exact absurd h hk
   all_goals (have:=zh h;omega)
  exact yC k ps os ns pA pn pc i j f t oA on oc nA nn nc w ho hn hk hpos (aJ (fZ ht) (by omega)) (aJ (fY ht) (by omega)) (dC ht (by omega)) (dB ht (by omega))
end Go.Proofs.YtlkmefhogabgdaaGreatDoor
