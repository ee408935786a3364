/- Part 6 of the proof. -/
import Derived.Test.YtckbdkgcoilmpaaGreatDoorMnE
namespace Go.Proofs.YtckbdkgcoilmpaaGreatDoor
open Go.RowKit
set_option linter.all false
set_option maxHeartbeats 40000000
set_option maxRecDepth 100000
theorem yf(ps:List Int)(os ns:List ag)(pA:Option Addr)(pn pc:Nat)(i j:Int)(f t:ByteArray)(oA:Option Addr)(on oc:Nat)(nA:Option Addr)(nn nc:Nat)(w:World)(hp:cc w ps pA pn pc)(ho:ce w os oA on oc)(hn:ce w ns nA nn nc)(hE:bI w)(hsz:f.size+t.size<=9223372036854775806)(hso:ex 9223372036854775806 os)(hsn:ex 9223372036854775806 ns):Calls Tryz.prog 30 #[.agg #[.int .u8 3,.slice pA pn pc,.int .i64 i,.int .i64 j,.string f,.string t,.slice oA on oc,.slice nA nn nc]] w (ak (ap ⟨3,ps,i,j,bl f,bl t,os,ns⟩) w):=by
 have hb0:Below w.heap.size w (w.alloc (.cells #[.int .u8 3,.slice pA pn pc,.int .i64 i,.int .i64 j,.string f,.string t,.slice oA on oc,.slice nA nn nc] 29)):=(ai _ _).alloc (ah _) _;have HB0:=aa hb0;have HE:=aa (hE.below hb0 (ah _));have HP:=aa (hp.below hb0);have HO:=aa (ho.below hb0);have HN:=aa (hn.below hb0);have HR:=aa (kw ⟨3,ps,i,j,bl f,bl t,os,ns⟩);have HBX:=aa (bw.new (w:=w) (x0:=.int .u8 3) (x1:=.slice pA pn pc) (x2:=.int .i64 i) (x3:=.int .i64 j) (x4:=.string f) (x5:=.string t) (x6:=.slice oA on oc) (x7:=.slice nA nn nc) (T:=29));have HSO:=aa hso;have HSN:=aa hsn;have HLP:Hid (pn=ps.length):=hp.1;have HLO:Hid (on=os.length):=ho.1;have HLN:Hid (nn=ns.length):=hn.1;have hfs:f.size<=9223372036854775806:=(by omega);have hts:t.size<=9223372036854775806:=(by omega);have hpn:pn<=9223372036854775807:=(by have h1:=hp.2.1;have h2:=hp.2.2.1;unfold maxLen at h2;omega);have hon:on<=9223372036854775807:=(by have h1:=ho.2.1;have h2:=ho.2.2.1;unfold maxLen at h2;omega);have hnn:nn<=9223372036854775807:=(by have h1:=hn.2.1;have h2:=hn.2.2.1;unfold maxLen at h2;omega);have hcf:=Dj;clear hb0 hE hp ho hn hso hsn
 go_in
 go_wp2_with fail
 go_quiet (fail)
 go_wp2_with fail;refine(kG ps _ _ _ _ (HP.out.below (bS (ai _ _) _))).mono ?_;rintro e wq ⟨rfl,q1,rfl⟩;cases ha:ps.all aH with
 |false=>have HV:Hid (ap _=false):=HR.out.trans (by simp[aI,aq,aG,aF,ha]);go_wp2_with fail;go_ret;exact ak.intro HV.out.symm (bS HB0.out _)
 |true=>
  go_wp2_with fail;refine(fT i _).mono ?_;rintro e wq ⟨rfl,q2,rfl⟩;cases hi:aH i with
  |false=>have HV:Hid (ap _=false):=HR.out.trans (by simp[aI,aq,aG,aF,ha,hi]);go_wp2_with fail;go_ret;exact ak.intro HV.out.symm (bS HB0.out _)
  |true=>
   go_wp2_with fail;refine(fT j _).mono ?_;rintro e wq ⟨rfl,q3,rfl⟩;cases hj:aH j with
   |false=>have HV:Hid (ap _=false):=HR.out.trans (by simp[aI,aq,aG,aF,ha,hi,hj]);go_wp2_with fail;go_ret;exact ak.intro HV.out.symm (bS HB0.out _)
   |true=>
    cases hij:(i == j) with
    |false=>
     have n_hij:(i != j)=true:=(by simpa using hij);cases hj0:(j == 0) with
     |false=>have n_hj0:(j != 0)=true:=(by simpa using hj0);have HV:Hid (ap _=false):=HR.out.trans (by simp[aI,aq,aG,aF,ha,hi,hj,hij,hj0]);go_wp2_with fail;go_ret;exact ak.intro HV.out.symm (bS HB0.out _)
     |true=>
      have q_hj0:(j != 0)=false:=(by simpa using hj0);go_wp2_with fail;cases hem:(bl f++bl t).isEmpty with
      |false=>
       have hne:(!(f++t).toList.isEmpty)=true:=(by rw[bG,eS,hem];rfl);refine(cW f _ (HE.out.below (bS (ai _ _) _) (ah _)) hfs).mono ?_;rintro e w1 ⟨rfl,hb1⟩;have HA1:=aa (af (bS (ai _ _) _) hb1);clear hb1;obtain⟨c0,c1,c2,c3,c4,c5,c6,c7⟩:=HBX.out.below HA1.out;cases hf:be (bl f) with
       |false=>have HV:Hid (ap _=false):=HR.out.trans (by simp[aI,aq,aG,aF,ha,hi,hj,hij,hj0,hem,hf]);go_wp2_with fail;go_ret;exact ak.intro HV.out.symm (af HB0.out HA1.out)
       |true=>
        go_wp2_with fail;refine(cW t _ (HE.out.below HA1.out (ah _)) hts).mono ?_;rintro e w2 ⟨rfl,hb2⟩;have HA2:=aa (af HA1.out hb2);clear hb2;clear c0 c1 c2 c3 c4 c5 c6 c7;obtain⟨c0,c1,c2,c3,c4,c5,c6,c7⟩:=HBX.out.below HA2.out;cases ht:be (bl t) with
        |false=>have HV:Hid (ap _=false):=HR.out.trans (by simp[aI,aq,aG,aF,ha,hi,hj,hij,hj0,hem,hf,ht]);go_wp2_with fail;go_ret;exact ak.intro HV.out.symm (af HB0.out HA2.out)
        |true=>
         cases hft:(bl f == bl t) with
         |true=>obtain rfl:=fk (by simpa using hft);have HV:Hid (ap _=false):=HR.out.trans (by simp[aI,aq,aG,aF,ha,hi,hj,hij,hj0,hem,hf,ht,hft]);go_wp2_with fail;go_ret;exact ak.intro HV.out.symm (af HB0.out HA2.out)
         |false=>have e0:(f.toList == t.toList)=false:=fW (by simpa using hft);have HV:Hid (ap _=false):=HR.out.trans (by simp[aI,aq,aG,aF,ha,hi,hj,hij,hj0,hem,hf,ht,hft]);go_wp2_with fail;go_ret;exact ak.intro HV.out.symm (af HB0.out HA2.out)
      |true=>
       have hee:(!(f++t).toList.isEmpty)=false:=(by rw[bG,eS,hem];rfl);have hf0:be (bl f)=false:=(by rw[(List.append_eq_nil_iff.1 (List.isEmpty_iff.1 hem)).1];rfl);refine(cW f _ (HE.out.below (bS (ai _ _) _) (ah _)) hfs).mono ?_;rintro e w1 ⟨rfl,hb1⟩;have HA1:=aa (af (bS (ai _ _) _) hb1);clear hb1;obtain⟨c0,c1,c2,c3,c4,c5,c6,c7⟩:=HBX.out.below HA1.out;rw[hf0];go_wp2_with fail;refine(eC os _ _ _ _ (HO.out.below HA1.out) HSO.out (HE.out.below HA1.out (ah _))).mono ?_;rintro e w2 ⟨rfl,hb2⟩;have HA2:=aa (af HA1.out hb2);clear hb2;clear c0 c1 c2 c3 c4 c5 c6 c7;obtain⟨c0,c1,c2,c3,c4,c5,c6,c7⟩:=HBX.out.below HA2.out;cases hpo:bR os with
       |false=>have HV:Hid (ap _=false):=HR.out.trans (by simp[aI,aq,aG,aF,ha,hi,hj,hij,hj0,hem,hf0,hpo]);go_wp2_with fail;go_ret;exact ak.intro HV.out.symm (af HB0.out HA2.out)
       |true=>
        go_wp2_with fail;refine(eC ns _ _ _ _ (HN.out.below HA2.out) HSN.out (HE.out.below HA2.out (ah _))).mono ?_;rintro e w3 ⟨rfl,hb3⟩;have HA3:=aa (af HA2.out hb3);clear hb3;clear c0 c1 c2 c3 c4 c5 c6 c7;obtain⟨c0,c1,c2,c3,c4,c5,c6,c7⟩:=HBX.out.below HA3.out;cases hpn:bR ns with
        |true=>have HV:Hid (ap _=false):=HR.out.trans (by simp[aI,aq,aG,aF,ha,hi,hj,hij,hj0,hem,hf0,hpo,hpn]);go_wp2_with fail;go_ret;exact ak.intro HV.out.symm (af HB0.out HA3.out)
        |false=>
         cases hen:ns.isEmpty with
         |false=>
          have ghen:(0:Int)<nn:=by
           have e1:=HLN.out;cases ns with
           |nil=>cases hen
           |cons a l=>simp at e1;omega
          have HV:Hid (ap _=false):=HR.out.trans (by simp[aI,aq,aG,aF,ha,hi,hj,hij,hj0,hem,hf0,hpo,hpn,hen]);go_wp2_with fail;go_ret;exact ak.intro HV.out.symm (af HB0.out HA3.out)
         |true=>
          have ghen:¬(0:Int)<nn:=(by have e1:=HLN.out;have e2:=List.isEmpty_iff.1 hen;subst e2;simp at e1;omega);have HV:Hid (ap _=true):=HR.out.trans (by simp[aI,aq,aG,aF,ha,hi,hj,hij,hj0,hem,hf0,hpo,hpn,hen]);go_wp2_with fail
          go_quiet (fail)
          go_wp2;go_ret;exact ak.intro HV.out.symm (bS (af HB0.out HA3.out) _)
    |true=>
     have q_hij:(i != j)=false:=(by simpa using hij);cases hj0:(j == 0) with
     |false=>have n_hj0:(j != 0)=true:=(by simpa using hj0);have HV:Hid (ap _=false):=HR.out.trans (by simp[aI,aq,aG,aF,ha,hi,hj,hij,hj0]);go_wp2_with fail;go_ret;exact ak.intro HV.out.symm (bS HB0.out _)
     |true=>
      have q_hj0:(j != 0)=false:=(by simpa using hj0);go_wp2_with fail;cases hem:(bl f++bl t).isEmpty with
      |false=>
       have hne:(!(f++t).toList.isEmpty)=true:=(by rw[bG,eS,hem];rfl);refine(cW f _ (HE.out.below (bS (ai _ _) _) (ah _)) hfs).mono ?_;rintro e w1 ⟨rfl,hb1⟩;have HA1:=aa (af (bS (ai _ _) _) hb1);clear hb1;obtain⟨c0,c1,c2,c3,c4,c5,c6,c7⟩:=HBX.out.below HA1.out;cases hf:be (bl f) with
       |false=>have HV:Hid (ap _=false):=HR.out.trans (by simp[aI,aq,aG,aF,ha,hi,hj,hij,hj0,hem,hf]);go_wp2_with fail;go_ret;exact ak.intro HV.out.symm (af HB0.out HA1.out)
       |true=>
        go_wp2_with fail;refine(cW t _ (HE.out.below HA1.out (ah _)) hts).mono ?_;rintro e w2 ⟨rfl,hb2⟩;have HA2:=aa (af HA1.out hb2);clear hb2;clear c0 c1 c2 c3 c4 c5 c6 c7;obtain⟨c0,c1,c2,c3,c4,c5,c6,c7⟩:=HBX.out.below HA2.out;cases ht:be (bl t) with
        |false=>have HV:Hid (ap _=false):=HR.out.trans (by simp[aI,aq,aG,aF,ha,hi,hj,hij,hj0,hem,hf,ht]);go_wp2_with fail;go_ret;exact ak.intro HV.out.symm (af HB0.out HA2.out)
        |true=>
         cases hft:(bl f == bl t) with
         |true=>obtain rfl:=fk (by simpa using hft);have HV:Hid (ap _=false):=HR.out.trans (by simp[aI,aq,aG,aF,ha,hi,hj,hij,hj0,hem,hf,ht,hft]);go_wp2_with fail;go_ret;exact ak.intro HV.out.symm (af HB0.out HA2.out)
         |false=>have e0:(f.toList == t.toList)=false:=fW (by simpa using hft);have HV:Hid (ap _=false):=HR.out.trans (by simp[aI,aq,aG,aF,ha,hi,hj,hij,hj0,hem,hf,ht,hft]);go_wp2_with fail;go_ret;exact ak.intro HV.out.symm (af HB0.out HA2.out)
      |true=>
       have hee:(!(f++t).toList.isEmpty)=false:=(by rw[bG,eS,hem];rfl);have hf0:be (bl f)=false:=(by rw[(List.append_eq_nil_iff.1 (List.isEmpty_iff.1 hem)).1];rfl);refine(cW f _ (HE.out.below (bS (ai _ _) _) (ah _)) hfs).mono ?_;rintro e w1 ⟨rfl,hb1⟩;have HA1:=aa (af (bS (ai _ _) _) hb1);clear hb1;obtain⟨c0,c1,c2,c3,c4,c5,c6,c7⟩:=HBX.out.below HA1.out;rw[hf0];go_wp2_with fail;refine(eC os _ _ _ _ (HO.out.below HA1.out) HSO.out (HE.out.below HA1.out (ah _))).mono ?_;rintro e w2 ⟨rfl,hb2⟩;have HA2:=aa (af HA1.out hb2);clear hb2;clear c0 c1 c2 c3 c4 c5 c6 c7;obtain⟨c0,c1,c2,c3,c4,c5,c6,c7⟩:=HBX.out.below HA2.out;cases hpo:bR os with
       |false=>have HV:Hid (ap _=false):=HR.out.trans (by simp[aI,aq,aG,aF,ha,hi,hj,hij,hj0,hem,hf0,hpo]);go_wp2_with fail;go_ret;exact ak.intro HV.out.symm (af HB0.out HA2.out)
       |true=>
        go_wp2_with fail;refine(eC ns _ _ _ _ (HN.out.below HA2.out) HSN.out (HE.out.below HA2.out (ah _))).mono ?_;rintro e w3 ⟨rfl,hb3⟩;have HA3:=aa (af HA2.out hb3);clear hb3;clear c0 c1 c2 c3 c4 c5 c6 c7;obtain⟨c0,c1,c2,c3,c4,c5,c6,c7⟩:=HBX.out.below HA3.out;cases hpn:bR ns with
        |true=>have HV:Hid (ap _=false):=HR.out.trans (by simp[aI,aq,aG,aF,ha,hi,hj,hij,hj0,hem,hf0,hpo,hpn]);go_wp2_with fail;go_ret;exact ak.intro HV.out.symm (af HB0.out HA3.out)
        |false=>
         cases hen:ns.isEmpty with
         |false=>
          have ghen:(0:Int)<nn:=by
           have e1:=HLN.out;cases ns with
           |nil=>cases hen
           |cons a l=>simp at e1;omega
          have HV:Hid (ap _=false):=HR.out.trans (by simp[aI,aq,aG,aF,ha,hi,hj,hij,hj0,hem,hf0,hpo,hpn,hen]);go_wp2_with fail;go_ret;exact ak.intro HV.out.symm (af HB0.out HA3.out)
         |true=>
          have ghen:¬(0:Int)<nn:=(by have e1:=HLN.out;have e2:=List.isEmpty_iff.1 hen;subst e2;simp at e1;omega);have HV:Hid (ap _=true):=HR.out.trans (by simp[aI,aq,aG,aF,ha,hi,hj,hij,hj0,hem,hf0,hpo,hpn,hen]);go_wp2_with fail
          go_quiet (fail)
          go_wp2;go_ret;exact ak.intro HV.out.symm (bS (af HB0.out HA3.out) _)
theorem yg(ps:List Int)(os ns:List ag)(pA:Option Addr)(pn pc:Nat)(i j:Int)(f t:ByteArray)(oA:Option Addr)(on oc:Nat)(nA:Option Addr)(nn nc:Nat)(w:World)(hp:cc w ps pA pn pc)(ho:ce w os oA on oc)(hn:ce w ns nA nn nc)(hE:bI w)(hsz:f.size+t.size<=9223372036854775806)(hso:ex 9223372036854775806 os)(hsn:ex 9223372036854775806 ns):Calls Tryz.prog 30 #[.agg #[.int .u8 4,.slice pA pn pc,.int .i64 i,.int .i64 j,.string f,.string t,.slice oA on oc,.slice nA nn nc]] w (ak (ap ⟨4,ps,i,j,bl f,bl t,os,ns⟩) w):=by
 have hb0:Below w.heap.size w (w.alloc (.cells #[.int .u8 4,.slice pA pn pc,.int .i64 i,.int .i64 j,.string f,.string t,.slice oA on oc,.slice nA nn nc] 29)):=(ai _ _).alloc (ah _) _;have HB0:=aa hb0;have HE:=aa (hE.below hb0 (ah _));have HP:=aa (hp.below hb0);have HO:=aa (ho.below hb0);have HN:=aa (hn.below hb0);have HR:=aa (kw ⟨4,ps,i,j,bl f,bl t,os,ns⟩);have HBX:=aa (bw.new (w:=w) (x0:=.int .u8 4) (x1:=.slice pA pn pc) (x2:=.int .i64 i) (x3:=.int .i64 j) (x4:=.string f) (x5:=.string t) (x6:=.slice oA on oc) (x7:=.slice nA nn nc) (T:=29));have HSO:=aa hso;have HSN:=aa hsn;have HLP:Hid (pn=ps.length):=hp.1;have HLO:Hid (on=os.length):=ho.1;have HLN:Hid (nn=ns.length):=hn.1;have hfs:f.size<=9223372036854775806:=(by omega);have hts:t.size<=9223372036854775806:=(by omega);have hpn:pn<=9223372036854775807:=(by have h1:=hp.2.1;have h2:=hp.2.2.1;unfold maxLen at h2;omega);have hon:on<=9223372036854775807:=(by have h1:=ho.2.1;have h2:=ho.2.2.1;unfold maxLen at h2;omega);have hnn:nn<=9223372036854775807:=(by have h1:=hn.2.1;have h2:=hn.2.2.1;unfold maxLen at h2;omega);have hcf:=Dj;clear hb0 hE hp ho hn hso hsn
 go_in
 go_wp2_with fail
 go_quiet (fail)
 go_wp2_with fail;refine(kG ps _ _ _ _ (HP.out.below (bS (ai _ _) _))).mono ?_;rintro e wq ⟨rfl,q1,rfl⟩;cases ha:ps.all aH with
 |false=>have HV:Hid (ap _=false):=HR.out.trans (by simp[aI,aq,aG,aF,ha]);go_wp2_with fail;go_ret;exact ak.intro HV.out.symm (bS HB0.out _)
 |true=>
  go_wp2_with fail;refine(fT i _).mono ?_;rintro e wq ⟨rfl,q2,rfl⟩;cases hi:aH i with
  |false=>have HV:Hid (ap _=false):=HR.out.trans (by simp[aI,aq,aG,aF,ha,hi]);go_wp2_with fail;go_ret;exact ak.intro HV.out.symm (bS HB0.out _)
  |true=>
   go_wp2_with fail;refine(fT j _).mono ?_;rintro e wq ⟨rfl,q3,rfl⟩;cases hj:aH j with
   |false=>have HV:Hid (ap _=false):=HR.out.trans (by simp[aI,aq,aG,aF,ha,hi,hj]);go_wp2_with fail;go_ret;exact ak.intro HV.out.symm (bS HB0.out _)
   |true=>
    cases hi0:(i == 0) with
    |false=>have n_hi0:(i != 0)=true:=(by simpa using hi0);have HV:Hid (ap _=false):=HR.out.trans (by simp[aI,aq,aG,aF,ha,hi,hj,hi0]);go_wp2_with fail;go_ret;exact ak.intro HV.out.symm (bS HB0.out _)
    |true=>
     have q_hi0:(i != 0)=false:=(by simpa using hi0);cases hpe:ps.isEmpty with
     |true=>have pe:((pn:Int) == 0)=true:=(by have e1:=HLP.out;have e2:=List.isEmpty_iff.1 hpe;subst e2;simp at e1;simp[e1]);have HV:Hid (ap _=false):=HR.out.trans (by simp[aI,aq,aG,aF,ha,hi,hj,hi0,hpe]);go_wp2_with fail;go_ret;exact ak.intro HV.out.symm (bS HB0.out _)
     |false=>
      have pe:((pn:Int) == 0)=false:=by
       have e1:=HLP.out;cases ps with
       |nil=>cases hpe
       |cons a l=>simp at e1;simp;omega
      cases hij:(i == j) with
      |false=>have n_hij:(i != j)=true:=(by simpa using hij);have HV:Hid (ap _=false):=HR.out.trans (by simp[aI,aq,aG,aF,ha,hi,hj,hi0,hpe,hij]);go_wp2_with fail;go_ret;exact ak.intro HV.out.symm (bS HB0.out _)
      |true=>
       have q_hij:(i != j)=false:=(by simpa using hij);cases hj0:(j == 0) with
       |false=>have n_hj0:(j != 0)=true:=(by simpa using hj0);have HV:Hid (ap _=false):=HR.out.trans (by simp[aI,aq,aG,aF,ha,hi,hj,hi0,hpe,hij,hj0]);go_wp2_with fail;go_ret;exact ak.intro HV.out.symm (bS HB0.out _)
       |true=>
        have q_hj0:(j != 0)=false:=(by simpa using hj0);go_wp2_with fail;cases hem:(bl f++bl t).isEmpty with
        |false=>
         have hne:(!(f++t).toList.isEmpty)=true:=(by rw[bG,eS,hem];rfl);refine(cW f _ (HE.out.below (bS (ai _ _) _) (ah _)) hfs).mono ?_;rintro e w1 ⟨rfl,hb1⟩;have HA1:=aa (af (bS (ai _ _) _) hb1);clear hb1;obtain⟨c0,c1,c2,c3,c4,c5,c6,c7⟩:=HBX.out.below HA1.out;cases hf:be (bl f) with
         |false=>have HV:Hid (ap _=false):=HR.out.trans (by simp[aI,aq,aG,aF,ha,hi,hj,hi0,hpe,hij,hj0,hem,hf]);go_wp2_with fail;go_ret;exact ak.intro HV.out.symm (af HB0.out HA1.out)
         |true=>
          go_wp2_with fail;refine(cW t _ (HE.out.below HA1.out (ah _)) hts).mono ?_;rintro e w2 ⟨rfl,hb2⟩;have HA2:=aa (af HA1.out hb2);clear hb2;clear c0 c1 c2 c3 c4 c5 c6 c7;obtain⟨c0,c1,c2,c3,c4,c5,c6,c7⟩:=HBX.out.below HA2.out;cases ht:be (bl t) with
          |false=>have HV:Hid (ap _=false):=HR.out.trans (by simp[aI,aq,aG,aF,ha,hi,hj,hi0,hpe,hij,hj0,hem,hf,ht]);go_wp2_with fail;go_ret;exact ak.intro HV.out.symm (af HB0.out HA2.out)
          |true=>
           cases hft:(bl f == bl t) with
           |true=>obtain rfl:=fk (by simpa using hft);have HV:Hid (ap _=false):=HR.out.trans (by simp[aI,aq,aG,aF,ha,hi,hj,hi0,hpe,hij,hj0,hem,hf,ht,hft]);go_wp2_with fail;go_ret;exact ak.intro HV.out.symm (af HB0.out HA2.out)
           |false=>have e0:(f.toList == t.toList)=false:=fW (by simpa using hft);have HV:Hid (ap _=false):=HR.out.trans (by simp[aI,aq,aG,aF,ha,hi,hj,hi0,hpe,hij,hj0,hem,hf,ht,hft]);go_wp2_with fail;go_ret;exact ak.intro HV.out.symm (af HB0.out HA2.out)
        |true=>
         have hee:(!(f++t).toList.isEmpty)=false:=(by rw[bG,eS,hem];rfl);have hf0:be (bl f)=false:=(by rw[(List.append_eq_nil_iff.1 (List.isEmpty_iff.1 hem)).1];rfl);refine(cW f _ (HE.out.below (bS (ai _ _) _) (ah _)) hfs).mono ?_;rintro e w1 ⟨rfl,hb1⟩;have HA1:=aa (af (bS (ai _ _) _) hb1);clear hb1;obtain⟨c0,c1,c2,c3,c4,c5,c6,c7⟩:=HBX.out.below HA1.out;rw[hf0];go_wp2_with fail;refine(eC os _ _ _ _ (HO.out.below HA1.out) HSO.out (HE.out.below HA1.out (ah _))).mono ?_;rintro e w2 ⟨rfl,hb2⟩;have HA2:=aa (af HA1.out hb2);clear hb2;clear c0 c1 c2 c3 c4 c5 c6 c7;obtain⟨c0,c1,c2,c3,c4,c5,c6,c7⟩:=HBX.out.below HA2.out;cases hpo:bR os with
         |false=>have HV:Hid (ap _=false):=HR.out.trans (by simp[aI,aq,aG,aF,ha,hi,hj,hi0,hpe,hij,hj0,hem,hf0,hpo]);go_wp2_with fail;go_ret;exact ak.intro HV.out.symm (af HB0.out HA2.out)
         |true=>
          go_wp2_with fail;refine(eC ns _ _ _ _ (HN.out.below HA2.out) HSN.out (HE.out.below HA2.out (ah _))).mono ?_;rintro e w3 ⟨rfl,hb3⟩;have HA3:=aa (af HA2.out hb3);clear hb3;clear c0 c1 c2 c3 c4 c5 c6 c7;obtain⟨c0,c1,c2,c3,c4,c5,c6,c7⟩:=HBX.out.below HA3.out;cases hpn:bR ns with
          |false=>have HV:Hid (ap _=false):=HR.out.trans (by simp[aI,aq,aG,aF,ha,hi,hj,hi0,hpe,hij,hj0,hem,hf0,hpo,hpn]);go_wp2_with fail;go_ret;exact ak.intro HV.out.symm (af HB0.out HA3.out)
          |true=>
           obtain⟨ta,rfl⟩:∃ta,os=[ta]:=by
            match os,hpo with
            |[ta],_=>exact⟨ta,rfl⟩
           obtain⟨tb,rfl⟩:∃tb,ns=[tb]:=by
            match ns,hpn with
            |[tb],_=>exact⟨tb,rfl⟩
           have hon1:on=1:=HLO.out;have hnn1:nn=1:=HLN.out;obtain⟨b1,o1,t',rfl,ht1,hat1⟩:=HO.out.get (i:=0) (by omega);obtain⟨b2,o2,t'',rfl,ht2,hat2⟩:=HN.out.get (i:=0) (by omega);simp at ht1 ht2;subst ht1 ht2;simp only[Nat.zero_mul,Nat.add_zero] at hat1 hat2;obtain⟨A1,d1,p0,p1,p2,p3,hnode1⟩:=(hat1.below HA3.out).cells;obtain⟨A2,d2,r0,r1,r2,r3,hnode2⟩:=(hat2.below HA3.out).cells;have HN1:=aa hnode1;have HN2:=aa hnode2;clear hat1 hat2 hnode1 hnode2;have HSS:Hid (bB [ta] [tb]=ta.same tb):=(by show _=_;simp[bB]);have HV:Hid (ap _= !(ta.same tb)):=HR.out.trans (by rw[HSS.out];simp[aI,aq,aG,aF,ha,hi,hj,hi0,hpe,hij,hj0,hem,hf0,hpo,hpn]);go_wp2_with fail
           go_region_with (go_at_call 11;refine(yV ta tb _ _ _ _ _ _ _ _ _ _ _ _ _ (HN1.out.below (bS (ai _ _) 1)) (HN2.out.below (bS (ai _ _) 1))).mono ?_;rintro e w9 ⟨rfl,hb9⟩)
           all_goals
            have HB9:=aa (af (bS (af HB0.out HA3.out) _) hb9);clear hb9;go_wp2;go_ret;exact ak.intro HV.out.symm HB9.out
theorem yh(ps:List Int)(os ns:List ag)(pA:Option Addr)(pn pc:Nat)(i j:Int)(f t:ByteArray)(oA:Option Addr)(on oc:Nat)(nA:Option Addr)(nn nc:Nat)(w:World)(hp:cc w ps pA pn pc)(ho:ce w os oA on oc)(hn:ce w ns nA nn nc)(hE:bI w)(hsz:f.size+t.size<=9223372036854775806)(hso:ex 9223372036854775806 os)(hsn:ex 9223372036854775806 ns):Calls Tryz.prog 30 #[.agg #[.int .u8 5,.slice pA pn pc,.int .i64 i,.int .i64 j,.string f,.string t,.slice oA on oc,.slice nA nn nc]] w (ak (ap ⟨5,ps,i,j,bl f,bl t,os,ns⟩) w):=by
 have hb0:Below w.heap.size w (w.alloc (.cells #[.int .u8 5,.slice pA pn pc,.int .i64 i,.int .i64 j,.string f,.string t,.slice oA on oc,.slice nA nn nc] 29)):=(ai _ _).alloc (ah _) _;have HB0:=aa hb0;have HE:=aa (hE.below hb0 (ah _));have HP:=aa (hp.below hb0);have HO:=aa (ho.below hb0);have HN:=aa (hn.below hb0);have HR:=aa (kw ⟨5,ps,i,j,bl f,bl t,os,ns⟩);have HBX:=aa (bw.new (w:=w) (x0:=.int .u8 5) (x1:=.slice pA pn pc) (x2:=.int .i64 i) (x3:=.int .i64 j) (x4:=.string f) (x5:=.string t) (x6:=.slice oA on oc) (x7:=.slice nA nn nc) (T:=29));have HSO:=aa hso;have HSN:=aa hsn;have HLP:Hid (pn=ps.length):=hp.1;have HLO:Hid (on=os.length):=ho.1;have HLN:Hid (nn=ns.length):=hn.1;have hfs:f.size<=9223372036854775806:=(by omega);have hts:t.size<=9223372036854775806:=(by omega);have hpn:pn<=9223372036854775807:=(by have h1:=hp.2.1;have h2:=hp.2.2.1;unfold maxLen at h2;omega);have hon:on<=9223372036854775807:=(by have h1:=ho.2.1;have h2:=ho.2.2.1;unfold maxLen at h2;omega);have hnn:nn<=9223372036854775807:=(by have h1:=hn.2.1;have h2:=hn.2.2.1;unfold maxLen at h2;omega);have hcf:=Dj;clear hb0 hE hp ho hn hso hsn
 go_in
 go_wp2_with fail
 go_quiet (fail)
 go_wp2_with fail;refine(kG ps _ _ _ _ (HP.out.below (bS (ai _ _) _))).mono ?_;rintro e wq ⟨rfl,q1,rfl⟩;cases ha:ps.all aH with
 |false=>have HV:Hid (ap _=false):=HR.out.trans (by simp[aI,aq,aG,aF,ha]);go_wp2_with fail;go_ret;exact ak.intro HV.out.symm (bS HB0.out _)
 |true=>
  go_wp2_with fail;refine(fT i _).mono ?_;rintro e wq ⟨rfl,q2,rfl⟩;cases hi:aH i with
  |false=>have HV:Hid (ap _=false):=HR.out.trans (by simp[aI,aq,aG,aF,ha,hi]);go_wp2_with fail;go_ret;exact ak.intro HV.out.symm (bS HB0.out _)
  |true=>
   go_wp2_with fail;refine(fT j _).mono ?_;rintro e wq ⟨rfl,q3,rfl⟩;cases hj:aH j with
   |false=>have HV:Hid (ap _=false):=HR.out.trans (by simp[aI,aq,aG,aF,ha,hi,hj]);go_wp2_with fail;go_ret;exact ak.intro HV.out.symm (bS HB0.out _)
   |true=>
    cases hij:(i == j) with
    |true=>have q_hij:(i != j)=false:=(by simpa using hij);have HV:Hid (ap _=false):=HR.out.trans (by simp[aI,aq,aG,aF,ha,hi,hj,hij]);go_wp2_with fail;go_ret;exact ak.intro HV.out.symm (bS HB0.out _)
    |false=>
     have n_hij:(i != j)=true:=(by simpa using hij);cases hj0:(j == 0) with
     |false=>
      have n_hj0:(j != 0)=true:=(by simpa using hj0);go_wp2_with fail;cases hem:(bl f++bl t).isEmpty with
      |false=>
       have hne:(!(f++t).toList.isEmpty)=true:=(by rw[bG,eS,hem];rfl);refine(cW f _ (HE.out.below (bS (ai _ _) _) (ah _)) hfs).mono ?_;rintro e w1 ⟨rfl,hb1⟩;have HA1:=aa (af (bS (ai _ _) _) hb1);clear hb1;obtain⟨c0,c1,c2,c3,c4,c5,c6,c7⟩:=HBX.out.below HA1.out;cases hf:be (bl f) with
       |false=>have HV:Hid (ap _=false):=HR.out.trans (by simp[aI,aq,aG,aF,ha,hi,hj,hij,hj0,hem,hf]);go_wp2_with fail;go_ret;exact ak.intro HV.out.symm (af HB0.out HA1.out)
       |true=>
        go_wp2_with fail;refine(cW t _ (HE.out.below HA1.out (ah _)) hts).mono ?_;rintro e w2 ⟨rfl,hb2⟩;have HA2:=aa (af HA1.out hb2);clear hb2;clear c0 c1 c2 c3 c4 c5 c6 c7;obtain⟨c0,c1,c2,c3,c4,c5,c6,c7⟩:=HBX.out.below HA2.out;cases ht:be (bl t) with
        |false=>have HV:Hid (ap _=false):=HR.out.trans (by simp[aI,aq,aG,aF,ha,hi,hj,hij,hj0,hem,hf,ht]);go_wp2_with fail;go_ret;exact ak.intro HV.out.symm (af HB0.out HA2.out)
        |true=>
         cases hft:(bl f == bl t) with
         |true=>obtain rfl:=fk (by simpa using hft);have HV:Hid (ap _=false):=HR.out.trans (by simp[aI,aq,aG,aF,ha,hi,hj,hij,hj0,hem,hf,ht,hft]);go_wp2_with fail;go_ret;exact ak.intro HV.out.symm (af HB0.out HA2.out)
         |false=>have e0:(f.toList == t.toList)=false:=fW (by simpa using hft);have HV:Hid (ap _=false):=HR.out.trans (by simp[aI,aq,aG,aF,ha,hi,hj,hij,hj0,hem,hf,ht,hft]);go_wp2_with fail;go_ret;exact ak.intro HV.out.symm (af HB0.out HA2.out)
      |true=>
       have hee:(!(f++t).toList.isEmpty)=false:=(by rw[bG,eS,hem];rfl);have hf0:be (bl f)=false:=(by rw[(List.append_eq_nil_iff.1 (List.isEmpty_iff.1 hem)).1];rfl);refine(cW f _ (HE.out.below (bS (ai _ _) _) (ah _)) hfs).mono ?_;rintro e w1 ⟨rfl,hb1⟩;have HA1:=aa (af (bS (ai _ _) _) hb1);clear hb1;obtain⟨c0,c1,c2,c3,c4,c5,c6,c7⟩:=HBX.out.below HA1.out;rw[hf0];go_wp2_with fail;refine(eC os _ _ _ _ (HO.out.below HA1.out) HSO.out (HE.out.below HA1.out (ah _))).mono ?_;rintro e w2 ⟨rfl,hb2⟩;have HA2:=aa (af HA1.out hb2);clear hb2;clear c0 c1 c2 c3 c4 c5 c6 c7;obtain⟨c0,c1,c2,c3,c4,c5,c6,c7⟩:=HBX.out.below HA2.out;cases hpo:bR os with
       |false=>have HV:Hid (ap _=false):=HR.out.trans (by simp[aI,aq,aG,aF,ha,hi,hj,hij,hj0,hem,hf0,hpo]);go_wp2_with fail;go_ret;exact ak.intro HV.out.symm (af HB0.out HA2.out)
       |true=>
        go_wp2_with fail;refine(eC ns _ _ _ _ (HN.out.below HA2.out) HSN.out (HE.out.below HA2.out (ah _))).mono ?_;rintro e w3 ⟨rfl,hb3⟩;have HA3:=aa (af HA2.out hb3);clear hb3;clear c0 c1 c2 c3 c4 c5 c6 c7;obtain⟨c0,c1,c2,c3,c4,c5,c6,c7⟩:=HBX.out.below HA3.out;cases hpn:bR ns with
        |true=>have HV:Hid (ap _=false):=HR.out.trans (by simp[aI,aq,aG,aF,ha,hi,hj,hij,hj0,hem,hf0,hpo,hpn]);go_wp2_with fail;go_ret;exact ak.intro HV.out.symm (af HB0.out HA3.out)
        |false=>
         cases hen:ns.isEmpty with
         |false=>
          have ghen:(0:Int)<nn:=by
           have e1:=HLN.out;cases ns with
           |nil=>cases hen
           |cons a l=>simp at e1;omega
          have HV:Hid (ap _=false):=HR.out.trans (by simp[aI,aq,aG,aF,ha,hi,hj,hij,hj0,hem,hf0,hpo,hpn,hen]);go_wp2_with fail;go_ret;exact ak.intro HV.out.symm (af HB0.out HA3.out)
         |true=>
          have ghen:¬(0:Int)<nn:=(by have e1:=HLN.out;have e2:=List.isEmpty_iff.1 hen;subst e2;simp at e1;omega);have HV:Hid (ap _=true):=HR.out.trans (by simp[aI,aq,aG,aF,ha,hi,hj,hij,hj0,hem,hf0,hpo,hpn,hen]);go_wp2_with fail
          go_quiet (fail)
          go_wp2;go_ret;exact ak.intro HV.out.symm (bS (af HB0.out HA3.out) _)
     |true=>
      have q_hj0:(j != 0)=false:=(by simpa using hj0);go_wp2_with fail;cases hem:(bl f++bl t).isEmpty with
      |false=>
       have hne:(!(f++t).toList.isEmpty)=true:=(by rw[bG,eS,hem];rfl);refine(cW f _ (HE.out.below (bS (ai _ _) _) (ah _)) hfs).mono ?_;rintro e w1 ⟨rfl,hb1⟩;have HA1:=aa (af (bS (ai _ _) _) hb1);clear hb1;obtain⟨c0,c1,c2,c3,c4,c5,c6,c7⟩:=HBX.out.below HA1.out;cases hf:be (bl f) with
       |false=>have HV:Hid (ap _=false):=HR.out.trans (by simp[aI,aq,aG,aF,ha,hi,hj,hij,hj0,hem,hf]);go_wp2_with fail;go_ret;exact ak.intro HV.out.symm (af HB0.out HA1.out)
       |true=>
        go_wp2_with fail;refine(cW t _ (HE.out.below HA1.out (ah _)) hts).mono ?_;rintro e w2 ⟨rfl,hb2⟩;have HA2:=aa (af HA1.out hb2);clear hb2;clear c0 c1 c2 c3 c4 c5 c6 c7;obtain⟨c0,c1,c2,c3,c4,c5,c6,c7⟩:=HBX.out.below HA2.out;cases ht:be (bl t) with
        |false=>have HV:Hid (ap _=false):=HR.out.trans (by simp[aI,aq,aG,aF,ha,hi,hj,hij,hj0,hem,hf,ht]);go_wp2_with fail;go_ret;exact ak.intro HV.out.symm (af HB0.out HA2.out)
        |true=>
         cases hft:(bl f == bl t) with
         |true=>obtain rfl:=fk (by simpa using hft);have HV:Hid (ap _=false):=HR.out.trans (by simp[aI,aq,aG,aF,ha,hi,hj,hij,hj0,hem,hf,ht,hft]);go_wp2_with fail;go_ret;exact ak.intro HV.out.symm (af HB0.out HA2.out)
         |false=>have e0:(f.toList == t.toList)=false:=fW (by simpa using hft);have HV:Hid (ap _=false):=HR.out.trans (by simp[aI,aq,aG,aF,ha,hi,hj,hij,hj0,hem,hf,ht,hft]);go_wp2_with fail;go_ret;exact ak.intro HV.out.symm (af HB0.out HA2.out)
      |true=>
       have hee:(!(f++t).toList.isEmpty)=false:=(by rw[bG,eS,hem];rfl);have hf0:be (bl f)=false:=(by rw[(List.append_eq_nil_iff.1 (List.isEmpty_iff.1 hem)).1];rfl);refine(cW f _ (HE.out.below (bS (ai _ _) _) (ah _)) hfs).mono ?_;rintro e w1 ⟨rfl,hb1⟩;have HA1:=aa (af (bS (ai _ _) _) hb1);clear hb1;obtain⟨c0,c1,c2,c3,c4,c5,c6,c7⟩:=HBX.out.below HA1.out;rw[hf0];go_wp2_with fail;refine(eC os _ _ _ _ (HO.out.below HA1.out) HSO.out (HE.out.below HA1.out (ah _))).mono ?_;rintro e w2 ⟨rfl,hb2⟩;have HA2:=aa (af HA1.out hb2);clear hb2;clear c0 c1 c2 c3 c4 c5 c6 c7;obtain⟨c0,c1,c2,c3,c4,c5,c6,c7⟩:=HBX.out.below HA2.out;cases hpo:bR os with
       |false=>have HV:Hid (ap _=false):=HR.out.trans (by simp[aI,aq,aG,aF,ha,hi,hj,hij,hj0,hem,hf0,hpo]);go_wp2_with fail;go_ret;exact ak.intro HV.out.symm (af HB0.out HA2.out)
       |true=>
        go_wp2_with fail;refine(eC ns _ _ _ _ (HN.out.below HA2.out) HSN.out (HE.out.below HA2.out (ah _))).mono ?_;rintro e w3 ⟨rfl,hb3⟩;have HA3:=aa (af HA2.out hb3);clear hb3;clear c0 c1 c2 c3 c4 c5 c6 c7;obtain⟨c0,c1,c2,c3,c4,c5,c6,c7⟩:=HBX.out.below HA3.out;cases hpn:bR ns with
        |true=>have HV:Hid (ap _=false):=HR.out.trans (by simp[aI,aq,aG,aF,ha,hi,hj,hij,hj0,hem,hf0,hpo,hpn]);go_wp2_with fail;go_ret;exact ak.intro HV.out.symm (af HB0.out HA3.out)
        |false=>
         cases hen:ns.isEmpty with
         |false=>
          have ghen:(0:Int)<nn:=by
           have e1:=HLN.out;cases ns with
           |nil=>cases hen
           |cons a l=>simp at e1;omega
          have HV:Hid (ap _=false):=HR.out.trans (by simp[aI,aq,aG,aF,ha,hi,hj,hij,hj0,hem,hf0,hpo,hpn,hen]);go_wp2_with fail;go_ret;exact ak.intro HV.out.symm (af HB0.out HA3.out)
         |true=>
          have ghen:¬(0:Int)<nn:=(by have e1:=HLN.out;have e2:=List.isEmpty_iff.1 hen;subst e2;simp at e1;omega);have HV:Hid (ap _=true):=HR.out.trans (by simp[aI,aq,aG,aF,ha,hi,hj,hij,hj0,hem,hf0,hpo,hpn,hen]);go_wp2_with fail
          go_quiet (fail)
          go_wp2;go_ret;exact ak.intro HV.out.symm (bS (af HB0.out HA3.out) _)
theorem yi(ps:List Int)(os ns:List ag)(k:Nat)(pA:Option Addr)(pn pc:Nat)(i j:Int)(f t:ByteArray)(oA:Option Addr)(on oc:Nat)(nA:Option Addr)(nn nc:Nat)(w:World)(hk:k≠1/\k≠2/\k≠3/\k≠4/\k≠5)(hp:cc w ps pA pn pc)(ho:ce w os oA on oc)(hn:ce w ns nA nn nc)(hE:bI w)(hsz:f.size+t.size<=9223372036854775806)(hso:ex 9223372036854775806 os)(hsn:ex 9223372036854775806 ns):Calls Tryz.prog 30 #[.agg #[.int .u8 k,.slice pA pn pc,.int .i64 i,.int .i64 j,.string f,.string t,.slice oA on oc,.slice nA nn nc]] w (ak (ap ⟨k,ps,i,j,bl f,bl t,os,ns⟩) w):=by
 have hb0:Below w.heap.size w (w.alloc (.cells #[.int .u8 k,.slice pA pn pc,.int .i64 i,.int .i64 j,.string f,.string t,.slice oA on oc,.slice nA nn nc] 29)):=(ai _ _).alloc (ah _) _;have HB0:=aa hb0;have HE:=aa (hE.below hb0 (ah _));have HP:=aa (hp.below hb0);have HO:=aa (ho.below hb0);have HN:=aa (hn.below hb0);have HR:=aa (kw ⟨k,ps,i,j,bl f,bl t,os,ns⟩);have HBX:=aa (bw.new (w:=w) (x0:=.int .u8 k) (x1:=.slice pA pn pc) (x2:=.int .i64 i) (x3:=.int .i64 j) (x4:=.string f) (x5:=.string t) (x6:=.slice oA on oc) (x7:=.slice nA nn nc) (T:=29));have HSO:=aa hso;have HSN:=aa hsn;have HLP:Hid (pn=ps.length):=hp.1;have HLO:Hid (on=os.length):=ho.1;have HLN:Hid (nn=ns.length):=hn.1;have hfs:f.size<=9223372036854775806:=(by omega);have hts:t.size<=9223372036854775806:=(by omega);have hpn:pn<=9223372036854775807:=(by have h1:=hp.2.1;have h2:=hp.2.2.1;unfold maxLen at h2;omega);have hon:on<=9223372036854775807:=(by have h1:=ho.2.1;have h2:=ho.2.2.1;unfold maxLen at h2;omega);have hnn:nn<=9223372036854775807:=(by have h1:=hn.2.1;have h2:=hn.2.2.1;unfold maxLen at h2;omega);have hcf:=Dj;clear hb0 hE hp ho hn hso hsn;obtain⟨hk1,hk2,hk3,hk4,hk5⟩:=hk;have e1:¬(k:Int)=1:=(by omega);have e2:¬(k:Int)=2:=(by omega);have e3:¬(k:Int)=3:=(by omega);have e4:¬(k:Int)=4:=(by omega);have e5:¬(k:Int)=5:=(by omega);have b1:((k:Int) == 1)=false:=(by simp;omega);have b2:((k:Int) == 2)=false:=(by simp;omega);have b3:((k:Int) == 3)=false:=(by simp;omega);have b4:((k:Int) == 4)=false:=(by simp;omega);have b5:((k:Int) == 5)=false:=(by simp;omega);have f2:((k:Int) != 2)=true:=(by simp;omega);have f3:((k:Int) != 3)=true:=(by simp;omega);have f5:((k:Int) != 5)=true:=(by simp;omega);have g2:(!((k:Int) == 2))=true:=(by simp;omega);have g3:(!((k:Int) == 3))=true:=(by simp;omega);have g5:(!((k:Int) == 5))=true:=by simp;omega
 go_in
 go_wp2_with fail
 go_quiet (fail)
 go_wp2_with fail;refine(kG ps _ _ _ _ (HP.out.below (bS (ai _ _) _))).mono ?_;rintro e wq ⟨rfl,q1,rfl⟩;cases ha:ps.all aH with
 |false=>have HV:Hid (ap _=false):=HR.out.trans (by simp[aI,aq,aG,aF,ha,hk1,hk2,hk3,hk4,hk5]);go_wp2_with fail;go_ret;exact ak.intro HV.out.symm (bS HB0.out _)
 |true=>
  go_wp2_with fail;refine(fT i _).mono ?_;rintro e wq ⟨rfl,q2,rfl⟩;cases hi:aH i with
  |false=>have HV:Hid (ap _=false):=HR.out.trans (by simp[aI,aq,aG,aF,ha,hi,hk1,hk2,hk3,hk4,hk5]);go_wp2_with fail;go_ret;exact ak.intro HV.out.symm (bS HB0.out _)
  |true=>
   go_wp2_with fail;refine(fT j _).mono ?_;rintro e wq ⟨rfl,q3,rfl⟩;cases hj:aH j with
   |false=>have HV:Hid (ap _=false):=HR.out.trans (by simp[aI,aq,aG,aF,ha,hi,hj,hk1,hk2,hk3,hk4,hk5]);go_wp2_with fail;go_ret;exact ak.intro HV.out.symm (bS HB0.out _)
   |true=>
    cases hi0:(i == 0) with
    |false=>have n_hi0:(i != 0)=true:=(by simpa using hi0);have HV:Hid (ap _=false):=HR.out.trans (by simp[aI,aq,aG,aF,ha,hi,hj,hi0,hk1,hk2,hk3,hk4,hk5]);go_wp2_with fail;go_ret;exact ak.intro HV.out.symm (bS HB0.out _)
    |true=>
     have q_hi0:(i != 0)=false:=(by simpa using hi0);cases hpe:ps.isEmpty with
     |true=>have pe:((pn:Int) == 0)=true:=(by have e1:=HLP.out;have e2:=List.isEmpty_iff.1 hpe;subst e2;simp at e1;simp[e1]);have HV:Hid (ap _=false):=HR.out.trans (by simp[aI,aq,aG,aF,ha,hi,hj,hi0,hpe,hk1,hk2,hk3,hk4,hk5]);go_wp2_with fail;go_ret;exact ak.intro HV.out.symm (bS HB0.out _)
     |false=>
      have pe:((pn:Int) == 0)=false:=by
       have e1:=HLP.out;cases ps with
       |nil=>cases hpe
       |cons a l=>simp at e1;simp;omega
      cases hij:(i == j) with
      |false=>have n_hij:(i != j)=true:=(by simpa using hij);have HV:Hid (ap _=false):=HR.out.trans (by simp[aI,aq,aG,aF,ha,hi,hj,hi0,hpe,hij,hk1,hk2,hk3,hk4,hk5]);go_wp2_with fail;go_ret;exact ak.intro HV.out.symm (bS HB0.out _)
      |true=>
       have q_hij:(i != j)=false:=(by simpa using hij);cases hj0:(j == 0) with
       |false=>have n_hj0:(j != 0)=true:=(by simpa using hj0);have HV:Hid (ap _=false):=HR.out.trans (by simp[aI,aq,aG,aF,ha,hi,hj,hi0,hpe,hij,hj0,hk1,hk2,hk3,hk4,hk5]);go_wp2_with fail;go_ret;exact ak.intro HV.out.symm (bS HB0.out _)
       |true=>
        have q_hj0:(j != 0)=false:=(by simpa using hj0);go_wp2_with fail;cases hem:(bl f++bl t).isEmpty with
        |false=>
         have hne:(!(f++t).toList.isEmpty)=true:=(by rw[bG,eS,hem];rfl);refine(cW f _ (HE.out.below (bS (ai _ _) _) (ah _)) hfs).mono ?_;rintro e w1 ⟨rfl,hb1⟩;have HA1:=aa (af (bS (ai _ _) _) hb1);clear hb1;obtain⟨c0,c1,c2,c3,c4,c5,c6,c7⟩:=HBX.out.below HA1.out;cases hf:be (bl f) with
         |false=>have HV:Hid (ap _=false):=HR.out.trans (by simp[aI,aq,aG,aF,ha,hi,hj,hi0,hpe,hij,hj0,hem,hf,hk1,hk2,hk3,hk4,hk5]);go_wp2_with fail;go_ret;exact ak.intro HV.out.symm (af HB0.out HA1.out)
         |true=>
          go_wp2_with fail;refine(cW t _ (HE.out.below HA1.out (ah _)) hts).mono ?_;rintro e w2 ⟨rfl,hb2⟩;have HA2:=aa (af HA1.out hb2);clear hb2;clear c0 c1 c2 c3 c4 c5 c6 c7;obtain⟨c0,c1,c2,c3,c4,c5,c6,c7⟩:=HBX.out.below HA2.out;cases ht:be (bl t) with
          |false=>have HV:Hid (ap _=false):=HR.out.trans (by simp[aI,aq,aG,aF,ha,hi,hj,hi0,hpe,hij,hj0,hem,hf,ht,hk1,hk2,hk3,hk4,hk5]);go_wp2_with fail;go_ret;exact ak.intro HV.out.symm (af HB0.out HA2.out)
          |true=>
           cases hft:(bl f == bl t) with
           |true=>obtain rfl:=fk (by simpa using hft);have HV:Hid (ap _=false):=HR.out.trans (by simp[aI,aq,aG,aF,ha,hi,hj,hi0,hpe,hij,hj0,hem,hf,ht,hft,hk1,hk2,hk3,hk4,hk5]);go_wp2_with fail;go_ret;exact ak.intro HV.out.symm (af HB0.out HA2.out)
           |false=>have e0:(f.toList == t.toList)=false:=fW (by simpa using hft);have HV:Hid (ap _=false):=HR.out.trans (by simp[aI,aq,aG,aF,ha,hi,hj,hi0,hpe,hij,hj0,hem,hf,ht,hft,hk1,hk2,hk3,hk4,hk5]);go_wp2_with fail;go_ret;exact ak.intro HV.out.symm (af HB0.out HA2.out)
        |true=>
         have hee:(!(f++t).toList.isEmpty)=false:=(by rw[bG,eS,hem];rfl);have hf0:be (bl f)=false:=(by rw[(List.append_eq_nil_iff.1 (List.isEmpty_iff.1 hem)).1];rfl);refine(cW f _ (HE.out.below (bS (ai _ _) _) (ah _)) hfs).mono ?_;rintro e w1 ⟨rfl,hb1⟩;have HA1:=aa (af (bS (ai _ _) _) hb1);clear hb1;obtain⟨c0,c1,c2,c3,c4,c5,c6,c7⟩:=HBX.out.below HA1.out;rw[hf0];go_wp2_with fail;refine(eC os _ _ _ _ (HO.out.below HA1.out) HSO.out (HE.out.below HA1.out (ah _))).mono ?_;rintro e w2 ⟨rfl,hb2⟩;have HA2:=aa (af HA1.out hb2);clear hb2;clear c0 c1 c2 c3 c4 c5 c6 c7;obtain⟨c0,c1,c2,c3,c4,c5,c6,c7⟩:=HBX.out.below HA2.out;cases hpo:bR os with
         |true=>have HV:Hid (ap _=false):=HR.out.trans (by simp[aI,aq,aG,aF,ha,hi,hj,hi0,hpe,hij,hj0,hem,hf0,hpo,hk1,hk2,hk3,hk4,hk5]);go_wp2_with fail;go_ret;exact ak.intro HV.out.symm (af HB0.out HA2.out)
         |false=>
          go_wp2_with fail;refine(eC ns _ _ _ _ (HN.out.below HA2.out) HSN.out (HE.out.below HA2.out (ah _))).mono ?_;rintro e w3 ⟨rfl,hb3⟩;have HA3:=aa (af HA2.out hb3);clear hb3;clear c0 c1 c2 c3 c4 c5 c6 c7;obtain⟨c0,c1,c2,c3,c4,c5,c6,c7⟩:=HBX.out.below HA3.out;cases hpn:bR ns with
          |true=>have HV:Hid (ap _=false):=HR.out.trans (by simp[aI,aq,aG,aF,ha,hi,hj,hi0,hpe,hij,hj0,hem,hf0,hpo,hpn,hk1,hk2,hk3,hk4,hk5]);go_wp2_with fail;go_ret;exact ak.intro HV.out.symm (af HB0.out HA3.out)
          |false=>
           cases heo:os.isEmpty with
           |false=>
            have gheo:(0:Int)<on:=by
             have e1:=HLO.out;cases os with
             |nil=>cases heo
             |cons a l=>simp at e1;omega
            have HV:Hid (ap _=false):=HR.out.trans (by simp[aI,aq,aG,aF,ha,hi,hj,hi0,hpe,hij,hj0,hem,hf0,hpo,hpn,heo,hk1,hk2,hk3,hk4,hk5]);go_wp2_with fail;go_ret;exact ak.intro HV.out.symm (af HB0.out HA3.out)
           |true=>
            have gheo:¬(0:Int)<on:=(by have e1:=HLO.out;have e2:=List.isEmpty_iff.1 heo;subst e2;simp at e1;omega);cases hen:ns.isEmpty with
            |false=>
             have ghen:(0:Int)<nn:=by
              have e1:=HLN.out;cases ns with
              |nil=>cases hen
              |cons a l=>simp at e1;omega
             have HV:Hid (ap _=false):=HR.out.trans (by simp[aI,aq,aG,aF,ha,hi,hj,hi0,hpe,hij,hj0,hem,hf0,hpo,hpn,heo,hen,hk1,hk2,hk3,hk4,hk5]);go_wp2_with fail;go_ret;exact ak.intro HV.out.symm (af HB0.out HA3.out)
            |true=>
             have ghen:¬(0:Int)<nn:=(by have e1:=HLN.out;have e2:=List.isEmpty_iff.1 hen;subst e2;simp at e1;omega);have HV:Hid (ap _=false):=HR.out.trans (by simp[aI,aq,aG,aF,ha,hi,hj,hi0,hpe,hij,hj0,hem,hf0,hpo,hpn,heo,hen,hk1,hk2,hk3,hk4,hk5]);go_wp2_with fail
             go_quiet (fail)
             go_wp2;go_ret;exact ak.intro HV.out.symm (bS (af HB0.out HA3.out) _)
theorem de(e:aj)(k:Nat)(pA:Option Addr)(pn pc:Nat)(i j:Int)(f t:ByteArray)(oA:Option Addr)(on oc:Nat)(nA:Option Addr)(nn nc:Nat)(w:World)(h:ay w e k pA pn pc i j f t oA on oc nA nn nc)(hE:bI w)(hsz:f.size+t.size<=9223372036854775806)(hso:ex 9223372036854775806 e.olds)(hsn:ex 9223372036854775806 e.news):Calls Tryz.prog 30 #[.agg #[.int .u8 k,.slice pA pn pc,.int .i64 i,.int .i64 j,.string f,.string t,.slice oA on oc,.slice nA nn nc]] w (ak (ap e) w):=by
 obtain⟨ps,os,ns,rfl,hp,ho,hn⟩:=h;by_cases k1:k=1
 .subst k1;exact yd ps os ns pA pn pc i j f t oA on oc nA nn nc w hp ho hn hE hsz hso hsn
 by_cases k2:k=2
 .subst k2;exact ye ps os ns pA pn pc i j f t oA on oc nA nn nc w hp ho hn hE hsz hso hsn
 by_cases k3:k=3
 .subst k3;exact yf ps os ns pA pn pc i j f t oA on oc nA nn nc w hp ho hn hE hsz hso hsn
 by_cases k4:k=4
 .subst k4;exact yg ps os ns pA pn pc i j f t oA on oc nA nn nc w hp ho hn hE hsz hso hsn
 by_cases k5:k=5
 .subst k5;exact yh ps os ns pA pn pc i j f t oA on oc nA nn nc w hp ho hn hE hsz hso hsn
 exact yi ps os ns k pA pn pc i j f t oA on oc nA nn nc w ⟨k1,k2,k3,k4,k5⟩ hp ho hn hE hsz hso hsn
def bN(b:Nat)(w w':World):Prop:=∀q,b<=q->w'.heap[q]? =w.heap[q]?
theorem bN.refl(b:Nat)(w:World):bN b w w:=fun _ _=>rfl
theorem bN.set{b:Nat}{w w':World}{p:Addr}{u:Value}(h:bN b w w')(hp:p.block<b):bN b w (w'.setCell p u):=fun q hq=>by rw[aY _ _ _ _ (by omega)];exact h q hq
theorem bN.fresh{b B:Nat}{w w':World}{ks:List ag}{A:Option Addr}{n c:Nat}(h:bJ w B ks A n c)(hf:bN b w w')(hB:b<=B):bJ w' b ks A n c:=
 h.keep hB fun q ha _=>hf q (by omega)
theorem bN.own{b base:Nat}{w w':World}{e:TypeId}{size:Nat}{v:Value}{n:Nat}{xs:List Value}(h:w.ownsRow base e size v n xs)(hf:bN b w w')(hB:b<=base):w'.ownsRow base e size v n xs:=by obtain⟨h1,h2⟩:=h;refine⟨h1,h2.imp id ?_⟩;rintro⟨g,cap,cur,hv,hg,hh,r⟩;exact⟨g,cap,cur,hv,hg,by rw[hf g (by omega)];exact hh,r⟩
def bT(w:World)(ps:List Int)(A:Option Addr):Prop:=ps=[]∨∃b o cs fr,A=some ⟨b,o,none⟩/\w.heap[b]? =some (.cells cs 3 fr)
theorem bT.below{w w':World}(hb:Below w.heap.size w w'){ps:List Int}{A:Option Addr}(h:bT w ps A):bT w' ps A:=by refine h.imp id ?_;rintro⟨b,o,cs,fr,e,hh⟩;exact⟨b,o,cs,fr,e,(hb.block _ (aK.1 hh).1).trans hh⟩
theorem bT.own{w:World}{base n c:Nat}{A:Option Addr}{zs:List Int}(h:w.ownsRow base 3 1 (.slice A n c) n (zs.map (Value.int .i64)))(hn:n=zs.length):bT w zs A:=by
 rcases h.2 with ⟨e,h0⟩|⟨g,cap,cur,hv,hg,hh,_⟩
 .left;exact List.length_eq_zero_iff.1 (by omega)
 .injection hv with hv1;exact .inr ⟨g,0,cur,_,hv1,hh⟩
structure dX (w:World) (B:Nat) (e:aj) (pA:Option Addr) (pn pc:Nat) (oA:Option Addr) (on oc:Nat) (nA:Option Addr) (nn nc:Nat) (H:Option Addr×Nat×Nat) (R:List Value):Prop where
 path:bd w B 3 1 (.slice pA pn pc)
 parts:∃Ro Rn,R=Ro++Rn/\dr w e.olds oA on oc Ro/\(e.kind=5->e.news=[]/\(nA,nn,nc)=H/\Rn=[])/\(e.kind≠5->dr w e.news nA nn nc Rn)
 own:∀v∈R,bd w B 25 4 v
 nd:(aW R).Nodup
theorem dX.keep{w w':World}{B B':Nat}{e:aj}{pA:Option Addr}{pn pc:Nat}{oA:Option Addr}{on oc:Nat}{nA:Option Addr}{nn nc:Nat}{H:Option Addr×Nat×Nat}{R:List Value}(h:dX w B e pA pn pc oA on oc nA nn nc H R)(hB:B'<=B)(hp:∀q,(Value.slice pA pn pc).ownBlock=some q->w'.heap[q]? =w.heap[q]?)(hk:∀q∈aW R,w'.heap[q]? =w.heap[q]?):dX w' B' e pA pn pc oA on oc nA nn nc H R:=by obtain⟨h1,⟨Ro,Rn,rfl,h2,h3,h4⟩,h5,h6⟩:=h;rw[gg] at hk;exact⟨h1.keep hB hp,⟨Ro,Rn,rfl,h2.keep fun q hq=>hk q (List.mem_append_left _ hq),h3,fun h=>(h4 h).keep fun q hq=>hk q (List.mem_append_right _ hq)⟩,fun v hv=>(h5 v hv).keep hB fun q e=>hk q (by rw[<-gg];exact iR hv e),h6⟩
theorem dX.lt{w:World}{B:Nat}{e:aj}{pA:Option Addr}{pn pc:Nat}{oA:Option Addr}{on oc:Nat}{nA:Option Addr}{nn nc:Nat}{H:Option Addr×Nat×Nat}{R:List Value}(h:dX w B e pA pn pc oA on oc nA nn nc H R){q:Nat}(hq:q∈aW R):B<=q/\q<w.heap.size:=by obtain⟨v,hv,e⟩:=eV hq;exact(h.own v hv).lt e
theorem dX.two{w3 w4 W:World}{B B3 B4 b:Nat}{e:aj}{pA:Option Addr}{pn pc:Nat}{oA:Option Addr}{on oc:Nat}{nA:Option Addr}{nn nc:Nat}{H:Option Addr×Nat×Nat}(hp:bd W B 3 1 (.slice pA pn pc))(h3:bJ w3 B3 e.olds oA on oc)(h34:Below w3.heap.size w3 w4)(h4:bJ w4 B4 e.news nA nn nc)(hB4:w3.heap.size<=B4)(hB3:b<=B3)(hb:b<=B4)(hB:B<=b)(hF:bN b w4 W)(h5:e.kind≠5):∃R,dX W B e pA pn pc oA on oc nA nn nc H R:=by
 obtain⟨_,R3,f3⟩:=h3;obtain⟨_,R4,f4⟩:=h4;have g3:cZ W B e.olds oA on oc R3:=f3.keep (by omega) fun q q1 q2=>(hF q (by omega)).trans (h34.block q q2);have g4:cZ W B e.news nA nn nc R4:=f4.keep (by omega) fun q q1 q2=>hF q (by omega);refine⟨R3++R4,hp,⟨R3,R4,rfl,g3.rows,fun h=>absurd h h5,fun _=>g4.rows⟩,fun v hv=>?_,iq f3.nd f4.nd (m:=w3.heap.size) (fun q hq=>(f3.lt hq).2) fun q hq=>aJ hB4 (f4.lt hq).1⟩;rcases List.mem_append.1 hv with hv|hv
 .exact g3.own v hv
 .exact g4.own v hv
theorem dX.move{w3 W:World}{B B3 b:Nat}{e:aj}{pA:Option Addr}{pn pc:Nat}{oA:Option Addr}{on oc:Nat}{nA:Option Addr}{nn nc:Nat}(hp:bd W B 3 1 (.slice pA pn pc))(h3:bJ w3 B3 e.olds oA on oc)(hB3:b<=B3)(hB:B<=b)(hF:bN b w3 W)(hk:e.kind=5)(hn:e.news=[]):∃R,dX W B e pA pn pc oA on oc nA nn nc (nA,nn,nc) R:=by obtain⟨_,R3,f3⟩:=h3;have g3:cZ W B e.olds oA on oc R3:=f3.keep (by omega) fun q q1 q2=>hF q (by omega);exact⟨R3,hp,⟨R3,[],by simp,g3.rows,fun _=>⟨hn,rfl,rfl⟩,fun h=>absurd hk h⟩,g3.own,g3.nd⟩
theorem dX.zero(w:World)(B:Nat)(H:Option Addr×Nat×Nat):dX w B ⟨0,[],0,0,[],[],[],[]⟩ none 0 0 none 0 0 none 0 0 H [.slice none 0 0,.slice none 0 0]:=by have hn:∀T s,bd w B T s (.slice none 0 0):=fun T s=>⟨0,[],World.ownsRow_nil _ _ _ _⟩;refine⟨hn _ _,⟨[.slice none 0 0],[.slice none 0 0],rfl,⟨[],rfl,.inl ⟨rfl,rfl⟩⟩,fun h=>absurd h (by decide),fun _=>⟨[],rfl,.inl ⟨rfl,rfl⟩⟩⟩,?_,List.nodup_nil⟩;intro v hv;simp at hv;subst hv;exact hn _ _
def jQ(e:aj)(H:Option Addr×Nat×Nat)(w:World)(en:Ending)(w':World):Prop:=∃(k:Nat) (pA:Option Addr) (pn pc:Nat) (i j:Int) (f t:ByteArray) (oA:Option Addr) (on oc:Nat) (nA:Option Addr) (nn nc:Nat),
 en= .returned (.agg #[.int .u8 k,.slice pA pn pc,.int .i64 i,.int .i64 j,.string f,.string t,.slice oA on oc,.slice nA nn nc])/\ay w' e k pA pn pc i j f t oA on oc nA nn nc/\(bT w' e.path pA/\∃R,dX w' w.heap.size e pA pn pc oA on oc nA nn nc H R)/\Below w.heap.size w w'
structure nk (w:World) (b:Nat) (x0 x1 x2 x3 x4 x5 x6 x7:Value):Prop where
 cs:bw w b x0 x1 x2 x3 x4 x5 x6 x7
 fs:w.frozen? ⟨b,0,none⟩=false/\w.frozen? ⟨b,1,none⟩=false/\w.frozen? ⟨b,2,none⟩=false/\w.frozen? ⟨b,3,none⟩=false/\w.frozen? ⟨b,4,none⟩=false/\w.frozen? ⟨b,5,none⟩=false/\w.frozen? ⟨b,6,none⟩=false/\w.frozen? ⟨b,7,none⟩=false
theorem aw{w:World}{b:Nat}{x0 x1 x2 x3 x4 x5 x6 x7:Value}{T:TypeId}(h:w.heap[b]? =some (.cells #[x0,x1,x2,x3,x4,x5,x6,x7] T (0,0))):nk w b x0 x1 x2 x3 x4 x5 x6 x7:=by have hc:=fun j=>cell_of_row w b j _ T (0,0) h;refine⟨⟨by rw[hc];rfl,by rw[hc];rfl,by rw[hc];rfl,by rw[hc];rfl,by rw[hc];rfl,by rw[hc];rfl,by rw[hc];rfl,by rw[hc];rfl⟩,?_⟩;refine⟨?_,?_,?_,?_,?_,?_,?_,?_⟩ <;>simp[World.frozen?,h]
def an(w:World)(g:Nat)(v0 v1 v2 v3 v4 v5 v6 v7:Value):World:=
 (((((((w.setCell ⟨g,0,none⟩ v0).setCell ⟨g,1,none⟩ v1).setCell ⟨g,2,none⟩ v2).setCell ⟨g,3,none⟩ v3).setCell ⟨g,4,none⟩ v4).setCell ⟨g,5,none⟩ v5).setCell ⟨g,6,none⟩ v6).setCell ⟨g,7,none⟩ v7
theorem jH{w:World}{g:Nat}{v0 v1 v2 v3 v4 v5 v6 v7 x0 x1 x2 x3 x4 x5 x6 x7:Value}(h:bw w g x0 x1 x2 x3 x4 x5 x6 x7):bw (an w g v0 v1 v2 v3 v4 v5 v6 v7) g v0 v1 v2 v3 v4 v5 v6 v7:=by
 obtain⟨h0,h1,h2,h3,h4,h5,h6,h7⟩:=h;have hn:∀p q,p≠q->(⟨g,p,none⟩:Addr)≠⟨g,q,none⟩:=fun p q hq e=>hq (by injection e);unfold an;refine⟨?_,?_,?_,?_,?_,?_,?_,?_⟩
 .exact(am (hn 0 7 (by decide)) (am (hn 0 6 (by decide)) (am (hn 0 5 (by decide)) (am (hn 0 4 (by decide)) (am (hn 0 3 (by decide)) (am (hn 0 2 (by decide)) (am (hn 0 1 (by decide)) (set_self h0))))))))
 .exact(am (hn 1 7 (by decide)) (am (hn 1 6 (by decide)) (am (hn 1 5 (by decide)) (am (hn 1 4 (by decide)) (am (hn 1 3 (by decide)) (am (hn 1 2 (by decide)) (set_self (am (hn 1 0 (by decide)) h1))))))))
 .exact(am (hn 2 7 (by decide)) (am (hn 2 6 (by decide)) (am (hn 2 5 (by decide)) (am (hn 2 4 (by decide)) (am (hn 2 3 (by decide)) (set_self (am (hn 2 1 (by decide)) (am (hn 2 0 (by decide)) h2))))))))
 .exact(am (hn 3 7 (by decide)) (am (hn 3 6 (by decide)) (am (hn 3 5 (by decide)) (am (hn 3 4 (by decide)) (set_self (am (hn 3 2 (by decide)) (am (hn 3 1 (by decide)) (am (hn 3 0 (by decide)) h3))))))))
 .exact(am (hn 4 7 (by decide)) (am (hn 4 6 (by decide)) (am (hn 4 5 (by decide)) (set_self (am (hn 4 3 (by decide)) (am (hn 4 2 (by decide)) (am (hn 4 1 (by decide)) (am (hn 4 0 (by decide)) h4))))))))
 .exact(am (hn 5 7 (by decide)) (am (hn 5 6 (by decide)) (set_self (am (hn 5 4 (by decide)) (am (hn 5 3 (by decide)) (am (hn 5 2 (by decide)) (am (hn 5 1 (by decide)) (am (hn 5 0 (by decide)) h5))))))))
 .exact(am (hn 6 7 (by decide)) (set_self (am (hn 6 5 (by decide)) (am (hn 6 4 (by decide)) (am (hn 6 3 (by decide)) (am (hn 6 2 (by decide)) (am (hn 6 1 (by decide)) (am (hn 6 0 (by decide)) h6))))))))
 .exact(set_self (am (hn 7 6 (by decide)) (am (hn 7 5 (by decide)) (am (hn 7 4 (by decide)) (am (hn 7 3 (by decide)) (am (hn 7 2 (by decide)) (am (hn 7 1 (by decide)) (am (hn 7 0 (by decide)) h7))))))))
theorem mM{w w':World}{b g:Nat}{v0 v1 v2 v3 v4 v5 v6 v7:Value}(h:bN b w w')(hg:g<b):bN b w (an w' g v0 v1 v2 v3 v4 v5 v6 v7):=
 (((((((h.set hg).set hg).set hg).set hg).set hg).set hg).set hg).set hg
theorem cH{B:Nat}{w w':World}{g:Nat}{v0 v1 v2 v3 v4 v5 v6 v7:Value}(h:Below B w w')(hg:B<=g):Below B w (an w' g v0 v1 v2 v3 v4 v5 v6 v7):=
 (((((((h.setCell hg _).setCell hg _).setCell hg _).setCell hg _).setCell hg _).setCell hg _).setCell hg _).setCell hg _
theorem yA(e:aj)(k:Nat)(pA:Option Addr)(pn pc:Nat)(i j:Int)(f t:ByteArray)(oA:Option Addr)(on oc:Nat)(nA:Option Addr)(nn nc:Nat)(w:World)(h:ay w e k pA pn pc i j f t oA on oc nA nn nc)(hE:bI w)(hsz:f.size+t.size<=9223372036854775806)(hso:ex 9223372036854775806 e.olds)(hsn:ex 9223372036854775806 e.news)(hno:ap e=false):Calls Tryz.prog 33 #[.agg #[.int .u8 k,.slice pA pn pc,.int .i64 i,.int .i64 j,.string f,.string t,.slice oA on oc,.slice nA nn nc]] w (jQ (bD e) (nA,nn,nc) w):=by
 have hb0:Below w.heap.size w ((w.alloc (.cells #[.int .u8 k,.slice pA pn pc,.int .i64 i,.int .i64 j,.string f,.string t,.slice oA on oc,.slice nA nn nc] 29)).alloc (.cells #[.int .u8 0,.slice none 0 0,.int .i64 0,.int .i64 0,.string ⟨#[]⟩,.string ⟨#[]⟩,.slice none 0 0,.slice none 0 0] 29)):=((ai _ _).alloc (ah _) _).alloc (by simp) _;have HB0:=aa hb0;have HE:=aa (hE.below hb0 (ah _));have HI:=aa (h.below hb0);have HV:Hid (bD e=aj.zero):=(by show _=_;unfold bD;rw[hno];rfl);have HNO:=aa hno;clear hb0 hE h hno
 go_in
 go_wp2_with fail;refine(de e _ _ _ _ _ _ _ _ _ _ _ _ _ _ _ HI.out HE.out hsz hso hsn).mono ?_;rintro en w1 ⟨rfl,hb1⟩;rw[HNO.out];have HB1:=aa hb1;have hres:w1.heap[w.heap.size+1]? =some (.cells #[.int .u8 0,.slice none 0 0,.int .i64 0,.int .i64 0,.string ⟨#[]⟩,.string ⟨#[]⟩,.slice none 0 0,.slice none 0 0] 29 (0,0)):=(hb1.block _ (by simp)).trans (aQ (by simp));have HRS:=aa (aw hres);obtain⟨c0,c1,c2,c3,c4,c5,c6,c7⟩:=HRS.out.cs;obtain⟨f0,f1,f2,f3,f4,f5,f6,f7⟩:=HRS.out.fs;clear hres hb1;go_wp2_with fail;obtain⟨a0,a1,a2,a3,a4,a5,a6,a7⟩:=jH (v0:=.int .u8 0) (v1:=.slice none 0 0) (v2:=.int .i64 0) (v3:=.int .i64 0) (v4:=.string ⟨#[]⟩) (v5:=.string ⟨#[]⟩) (v6:=.slice none 0 0) (v7:=.slice none 0 0) HRS.out.cs;simp only[an] at a0 a1 a2 a3 a4 a5 a6 a7;refine bodyPost_ret (v:=.agg #[.int .u8 0,.slice none 0 0,.int .i64 0,.int .i64 0,.string ⟨#[]⟩,.string ⟨#[]⟩,.slice none 0 0,.slice none 0 0]) (by simp[results,Tryz.results33,go_sem,a0,a1,a2,a3,a4,a5,a6,a7]) rfl ?_;rw[HV.out];refine⟨0,none,0,0,0,0,⟨#[]⟩,⟨#[]⟩,none,0,0,none,0,0,rfl,⟨[],[],[],rfl,⟨rfl,ah _,aE _,.inl rfl⟩,ce.nil _ _ (aE _),ce.nil _ _ (aE _)⟩,⟨.inl rfl,_,dX.zero _ _ _⟩,?_⟩;exact cH (af HB0.out HB1.out) (by omega)
def jY(v v':Value)(n m:Nat)(w w':World):Prop:=
 (∃g cap,v= .slice (some ⟨g,0,none⟩) n cap/\n+m<=cap/\v'= .slice (some ⟨g,0,none⟩) (n+m) cap/\w.grownBy w' (some g))∨
 (∃cap,v'= .slice (some ⟨w.heap.size,0,none⟩) (n+m) cap/\w.heap.size<w'.heap.size/\w.grownBy w' none/\∀A c,v= .slice A n c->c<n+m)
section
variable {P:Program} (w:World)
theorem Ao(base:Nat)(t ty e:TypeId)(i:TypeInfo)(z:Value)(size bytes:Nat)(ht:P.underlying t=some (.slice e))(hi:P.info? e=some i)(hz:i.zero=some z)(hsize:i.size=size)(hby:i.bytes=bytes)(hzs:z.cells.size=size)(hsz:0<size)(v:Value)(n:Nat)(xs:List Value)(hown:w.ownsRow base e size v n xs)(a:Addr)(m c:Nat)(news:List Value)(hl:news.length=m*size)(hnews:∀j u,news[j]? =some u->w.cell? (a.add j)=some u)(h1:∀u∈news,u.oneCell'=true)(hm:0<m)(h63:n+m<=maxLen)(hbytes:(n+m) *bytes<=140737488355328)(hbase:base<=w.heap.size):∃v' w',(Builtin.append_ #[t,t] ty #[v,.slice (some a) m c]).run P w= .ok v' w'/\w'.ownsRow base e size v' (n+m) (xs++news)/\jY v v' n m w w':=by
 obtain⟨v',w',hr,h2,h3,_⟩:=run_append_own (P:=P) w base t ty e i z size bytes ht hi hz hsize hby hzs hsz v n xs hown a m c news hl hnews h1 h63 hbytes hbase;refine⟨v',w',hr,h2,?_⟩;have hsmall:n+m<=9223372036854775807:=(by simp only[maxLen] at h63;omega);subst hsize;subst hby;rcases hown.2 with ⟨rfl,rfl⟩|⟨g,cap,cur,rfl,hbg,hg,hnc,hcm,hcs,htake⟩
 .right;have hq:=run_append_nil (P:=P) w t ty e i z ht hi hz a m c news hl hnews hm (by omega) (by have hb:=hbytes;simp only[Nat.zero_add] at hb;omega);rw[hq] at hr;injection hr with e1 e2;subst e1 e2;exact⟨_,by rw[Nat.zero_add],by simp,⟨rfl,rfl,rfl,by simp,fun k hk _=>heap_alloc_old w.drew _ (by simpa using hk)⟩,fun A c e=>by injection e;omega⟩
 .by_cases hroom:n+m<=cap
  .left;have hfit:n*i.size+news.length<=cur.size:=(by rw[hl,hcs,<-Nat.add_mul];exact Nat.mul_le_mul_right _ hroom);have hq:=run_append_room (P:=P) w t ty e i ht hi g n cap cur hg a m c news hl hnews h1 hroom hfit;rw[hq] at hr;injection hr with e1 e2;subst e1 e2;exact⟨g,cap,rfl,hroom,rfl,h3⟩
  .right;have holds:∀j u,xs[j]? =some u->w.cell? ((⟨g,0,none⟩:Addr).add j)=some u:=hown.cells (g:=g) rfl;have hq:=run_append_grow (P:=P) w t ty e i z ht hi hz ⟨g,0,none⟩ n cap xs hown.1 holds a m c news hl hnews (by omega) (by omega) (growslice_fits (by omega) hbytes);rw[hq] at hr;injection hr with e1 e2;subst e1 e2;exact⟨_,rfl,by simp,⟨rfl,rfl,rfl,by simp,fun k hk _=>heap_alloc_old w.drew _ (by simpa using hk)⟩,fun A c e=>by injection e;omega⟩
theorem kW{ops:Array Oper}{rest:List Oper}{o:Oper}{a:Act}{Q:Exit->Act->World->Prop}(hgd:o.guard=none)(s x:Operand)(t:TypeId)(ho:o.op= .call { callee:=.builtin .append,args:=#[s,x],argTypes:=#[t,t] })(base:Nat)(e:TypeId)(i:TypeInfo)(z:Value)(size bytes:Nat)(ht:P.underlying t=some (.slice e))(hi:P.info? e=some i)(hz:i.zero=some z)(hsize:i.size=size)(hby:i.bytes=bytes)(hzs:z.cells.size=size)(hsz:0<size)(v:Value)(n:Nat)(xs:List Value)(hs:a.eval s=v)(hown:w.ownsRow base e size v n xs)(ad:Addr)(m c:Nat)(news:List Value)(hx:a.eval x= .slice (some ad) m c)(hl:news.length=m*size)(hnews:∀j u,news[j]? =some u->w.cell? (ad.add j)=some u)(h1:∀u∈news,u.oneCell'=true)(hm:0<m)(h63:n+m<=maxLen)(hbytes:(n+m) *bytes<=140737488355328)(hbase:base<=w.heap.size)(h:∀v' w',w'.ownsRow base e size v' (n+m) (xs++news)->jY v v' n m w w'->wpList P ops Q rest (a.put o.dst v') w'):wpList P ops Q (o::rest) a w:=
 wpList_plain hgd fun K hK=>by obtain⟨v',w',hr,h2,h3⟩:=Ao (P:=P) w base t o.type e i z size bytes ht hi hz hsize hby hzs hsz v n xs hown ad m c news hl hnews h1 hm h63 hbytes hbase;unfold Oper.wp execOp;simp only[ho,resolve,invoke,builtin,Sem.run_bind,Sem.run_pure,Result.andThen_ok,List.map_toArray,List.map_cons,List.map_nil,hs,hx,hr];exact hK _ _ (h v' w' h2 h3)
end
theorem jY.form{v v':Value}{n m:Nat}{w w':World}(h:jY v v' n m w w'):∃g c,v'= .slice (some ⟨g,0,none⟩) (n+m) c/\(v.ownBlock=some g∨g=w.heap.size):=by
 rcases h with ⟨g,cap,rfl,_,rfl,_⟩|⟨cap,rfl,_,_⟩
 .exact⟨g,cap,rfl,.inl rfl⟩
 .exact⟨_,_,rfl,.inr rfl⟩
end Go.Proofs.YtckbdkgcoilmpaaGreatDoor
