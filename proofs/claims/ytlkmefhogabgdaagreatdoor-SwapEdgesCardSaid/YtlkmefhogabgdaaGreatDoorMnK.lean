/- Part 11 of the proof. -/
import Derived.Lib.AppendZeros
import Derived.Deep.DrawnRows
import Derived.Deep.RegionLaw
import Derived.Test.YtlkmefhogabgdaaGreatDoorMnI
import Derived.Test.YtlkmefhogabgdaaGreatDoorMnJ
namespace Go.Proofs.YtlkmefhogabgdaaGreatDoor
open Go.RowKit
set_option linter.all false
set_option maxHeartbeats 40000000
set_option maxRecDepth 100000
theorem yf(ps:List Int)(os ns:List ag)(pA:Option Addr)(pn pc:Nat)(i j:Int)(f t:ByteArray)(oA:Option Addr)(on oc:Nat)(nA:Option Addr)(nn nc:Nat)(w:World)(hp:aA w ps pA pn pc)(ho:KidsAt w os oA on oc)(hn:KidsAt w ns nA nn nc)(hE:bI w)(hsz:f.size+t.size<=9223372036854775806)(hso:bi 9223372036854775806 os)(hsn:bi 9223372036854775806 ns):Calls Tryz.prog 22 #[.agg #[.int .u8 3,.slice pA pn pc,.int .i64 i,.int .i64 j,.string f,.string t,.slice oA on oc,.slice nA nn nc]] w (ak (ap ⟨3,ps,i,j,bl f,bl t,os,ns⟩) w):=by
 have hb0:Below w.heap.size w (w.alloc (.cells #[.int .u8 3,.slice pA pn pc,.int .i64 i,.int .i64 j,.string f,.string t,.slice oA on oc,.slice nA nn nc] 26)):=(ai _ _).alloc (ah _) _;have HB0:=aa hb0;have HE:=aa (hE.below hb0 (ah _));have HP:=aa (hp.below hb0);have HO:=aa (ho.below hb0);have HN:=aa (hn.below hb0);have HR:=aa (kw ⟨3,ps,i,j,bl f,bl t,os,ns⟩);have HBX:=aa (bw.new (w:=w) (x0:=.int .u8 3) (x1:=.slice pA pn pc) (x2:=.int .i64 i) (x3:=.int .i64 j) (x4:=.string f) (x5:=.string t) (x6:=.slice oA on oc) (x7:=.slice nA nn nc) (T:=26));have HSO:=aa hso;have HSN:=aa hsn;have HLP:Hid (pn=ps.length):=hp.1;have HLO:Hid (on=os.length):=ho.1;have HLN:Hid (nn=ns.length):=hn.1;have hfs:f.size<=9223372036854775806:=(by omega);have hts:t.size<=9223372036854775806:=(by omega);have hpn:pn<=9223372036854775807:=(by have h1:=hp.2.1;have h2:=hp.2.2.1;unfold maxLen at h2;omega);have hon:on<=9223372036854775807:=(by have h1:=ho.2.1;have h2:=ho.2.2.1;unfold maxLen at h2;omega);have hnn:nn<=9223372036854775807:=(by have h1:=hn.2.1;have h2:=hn.2.2.1;unfold maxLen at h2;omega);have hcf:=jy;clear hb0 hE hp ho hn hso hsn
 go_in
 go_wp2_with fail
 go_quiet (fail)
 go_wp2_with fail;refine(kG ps _ _ _ _ (HP.out.below (ax (ai _ _) _))).mono ?_;rintro e wq ⟨rfl,q1,rfl⟩;cases ha:ps.all aH with
 |false=>have HV:Hid (ap _=false):=HR.out.trans (by simp[aI,aq,aG,aF,ha]);go_wp2_with fail;go_ret;exact ak.intro HV.out.symm (ax HB0.out _)
 |true=>
  go_wp2_with fail;refine(fT i _).mono ?_;rintro e wq ⟨rfl,q2,rfl⟩;cases hi:aH i with
  |false=>have HV:Hid (ap _=false):=HR.out.trans (by simp[aI,aq,aG,aF,ha,hi]);go_wp2_with fail;go_ret;exact ak.intro HV.out.symm (ax HB0.out _)
  |true=>
   go_wp2_with fail;refine(fT j _).mono ?_;rintro e wq ⟨rfl,q3,rfl⟩;cases hj:aH j with
   |false=>have HV:Hid (ap _=false):=HR.out.trans (by simp[aI,aq,aG,aF,ha,hi,hj]);go_wp2_with fail;go_ret;exact ak.intro HV.out.symm (ax HB0.out _)
   |true=>
    cases hij:(i == j) with
    |false=>
     have n_hij:(i != j)=true:=(by simpa using hij);cases hj0:(j == 0) with
     |false=>have n_hj0:(j != 0)=true:=(by simpa using hj0);have HV:Hid (ap _=false):=HR.out.trans (by simp[aI,aq,aG,aF,ha,hi,hj,hij,hj0]);go_wp2_with fail;go_ret;exact ak.intro HV.out.symm (ax HB0.out _)
     |true=>
      have q_hj0:(j != 0)=false:=(by simpa using hj0);go_wp2_with fail;cases hem:(bl f++bl t).isEmpty with
      |false=>
       have hne:(!(f++t).toList.isEmpty)=true:=(by rw[bG,eS,hem];rfl);refine(cW f _ (HE.out.below (ax (ai _ _) _) (ah _)) hfs).mono ?_;rintro e w1 ⟨rfl,hb1⟩;have HA1:=aa (af (ax (ai _ _) _) hb1);clear hb1;obtain⟨c0,c1,c2,c3,c4,c5,c6,c7⟩:=HBX.out.below HA1.out;cases hf:be (bl f) with
       |false=>have HV:Hid (ap _=false):=HR.out.trans (by simp[aI,aq,aG,aF,ha,hi,hj,hij,hj0,hem,hf]);go_wp2_with fail;go_ret;exact ak.intro HV.out.symm (af HB0.out HA1.out)
       |true=>
        go_wp2_with fail;refine(cW t _ (HE.out.below HA1.out (ah _)) hts).mono ?_;rintro e w2 ⟨rfl,hb2⟩;have HA2:=aa (af HA1.out hb2);clear hb2;clear c0 c1 c2 c3 c4 c5 c6 c7;obtain⟨c0,c1,c2,c3,c4,c5,c6,c7⟩:=HBX.out.below HA2.out;cases ht:be (bl t) with
        |false=>have HV:Hid (ap _=false):=HR.out.trans (by simp[aI,aq,aG,aF,ha,hi,hj,hij,hj0,hem,hf,ht]);go_wp2_with fail;go_ret;exact ak.intro HV.out.symm (af HB0.out HA2.out)
        |true=>
         cases hft:(bl f == bl t) with
         |true=>obtain rfl:=fk (by simpa using hft);have HV:Hid (ap _=false):=HR.out.trans (by simp[aI,aq,aG,aF,ha,hi,hj,hij,hj0,hem,hf,ht,hft]);go_wp2_with fail;go_ret;exact ak.intro HV.out.symm (af HB0.out HA2.out)
         |false=>have e0:(f.toList == t.toList)=false:=fW (by simpa using hft);have HV:Hid (ap _=false):=HR.out.trans (by simp[aI,aq,aG,aF,ha,hi,hj,hij,hj0,hem,hf,ht,hft]);go_wp2_with fail;go_ret;exact ak.intro HV.out.symm (af HB0.out HA2.out)
      |true=>
       have hee:(!(f++t).toList.isEmpty)=false:=(by rw[bG,eS,hem];rfl);have hf0:be (bl f)=false:=(by rw[(List.append_eq_nil_iff.1 (List.isEmpty_iff.1 hem)).1];rfl);refine(cW f _ (HE.out.below (ax (ai _ _) _) (ah _)) hfs).mono ?_;rintro e w1 ⟨rfl,hb1⟩;have HA1:=aa (af (ax (ai _ _) _) hb1);clear hb1;obtain⟨c0,c1,c2,c3,c4,c5,c6,c7⟩:=HBX.out.below HA1.out;rw[hf0];go_wp2_with fail;refine(eC os _ _ _ _ (HO.out.below HA1.out) HSO.out (HE.out.below HA1.out (ah _))).mono ?_;rintro e w2 ⟨rfl,hb2⟩;have HA2:=aa (af HA1.out hb2);clear hb2;clear c0 c1 c2 c3 c4 c5 c6 c7;obtain⟨c0,c1,c2,c3,c4,c5,c6,c7⟩:=HBX.out.below HA2.out;cases hpo:bR os with
       |false=>have HV:Hid (ap _=false):=HR.out.trans (by simp[aI,aq,aG,aF,ha,hi,hj,hij,hj0,hem,hf0,hpo]);go_wp2_with fail;go_ret;exact ak.intro HV.out.symm (af HB0.out HA2.out)
       |true=>
        go_wp2_with fail;refine(eC ns _ _ _ _ (HN.out.below HA2.out) HSN.out (HE.out.below HA2.out (ah _))).mono ?_;rintro e w3 ⟨rfl,hb3⟩;have HA3:=aa (af HA2.out hb3);clear hb3;clear c0 c1 c2 c3 c4 c5 c6 c7;obtain⟨c0,c1,c2,c3,c4,c5,c6,c7⟩:=HBX.out.below HA3.out;cases hpn:bR ns with
        |true=>have HV:Hid (ap _=false):=HR.out.trans (by simp[aI,aq,aG,aF,ha,hi,hj,hij,hj0,hem,hf0,hpo,hpn]);go_wp2_with fail;go_ret;exact ak.intro HV.out.symm (af HB0.out HA3.out)
        |false=>
         cases hen:ns.isEmpty with
         |false=>
          have ghen:(0:Int)<nn:=by
           have e1:=HLN.out;cases ns with
           |nil=>cases hen
           |cons a l=>simp at e1;omega
          have HV:Hid (ap _=false):=HR.out.trans (by simp[aI,aq,aG,aF,ha,hi,hj,hij,hj0,hem,hf0,hpo,hpn,hen]);go_wp2_with fail;go_ret;exact ak.intro HV.out.symm (af HB0.out HA3.out)
         |true=>
          have ghen:¬(0:Int)<nn:=(by have e1:=HLN.out;have e2:=List.isEmpty_iff.1 hen;subst e2;simp at e1;omega);have HV:Hid (ap _=true):=HR.out.trans (by simp[aI,aq,aG,aF,ha,hi,hj,hij,hj0,hem,hf0,hpo,hpn,hen]);go_wp2_with fail
          go_quiet (fail)
          go_wp2;go_ret;exact ak.intro HV.out.symm (ax (af HB0.out HA3.out) _)
    |true=>
     have q_hij:(i != j)=false:=(by simpa using hij);cases hj0:(j == 0) with
     |false=>have n_hj0:(j != 0)=true:=(by simpa using hj0);have HV:Hid (ap _=false):=HR.out.trans (by simp[aI,aq,aG,aF,ha,hi,hj,hij,hj0]);go_wp2_with fail;go_ret;exact ak.intro HV.out.symm (ax HB0.out _)
     |true=>
      have q_hj0:(j != 0)=false:=(by simpa using hj0);go_wp2_with fail;cases hem:(bl f++bl t).isEmpty with
      |false=>
       have hne:(!(f++t).toList.isEmpty)=true:=(by rw[bG,eS,hem];rfl);refine(cW f _ (HE.out.below (ax (ai _ _) _) (ah _)) hfs).mono ?_;rintro e w1 ⟨rfl,hb1⟩;have HA1:=aa (af (ax (ai _ _) _) hb1);clear hb1;obtain⟨c0,c1,c2,c3,c4,c5,c6,c7⟩:=HBX.out.below HA1.out;cases hf:be (bl f) with
       |false=>have HV:Hid (ap _=false):=HR.out.trans (by simp[aI,aq,aG,aF,ha,hi,hj,hij,hj0,hem,hf]);go_wp2_with fail;go_ret;exact ak.intro HV.out.symm (af HB0.out HA1.out)
       |true=>
        go_wp2_with fail;refine(cW t _ (HE.out.below HA1.out (ah _)) hts).mono ?_;rintro e w2 ⟨rfl,hb2⟩;have HA2:=aa (af HA1.out hb2);clear hb2;clear c0 c1 c2 c3 c4 c5 c6 c7;obtain⟨c0,c1,c2,c3,c4,c5,c6,c7⟩:=HBX.out.below HA2.out;cases ht:be (bl t) with
        |false=>have HV:Hid (ap _=false):=HR.out.trans (by simp[aI,aq,aG,aF,ha,hi,hj,hij,hj0,hem,hf,ht]);go_wp2_with fail;go_ret;exact ak.intro HV.out.symm (af HB0.out HA2.out)
        |true=>
         cases hft:(bl f == bl t) with
         |true=>obtain rfl:=fk (by simpa using hft);have HV:Hid (ap _=false):=HR.out.trans (by simp[aI,aq,aG,aF,ha,hi,hj,hij,hj0,hem,hf,ht,hft]);go_wp2_with fail;go_ret;exact ak.intro HV.out.symm (af HB0.out HA2.out)
         |false=>have e0:(f.toList == t.toList)=false:=fW (by simpa using hft);have HV:Hid (ap _=false):=HR.out.trans (by simp[aI,aq,aG,aF,ha,hi,hj,hij,hj0,hem,hf,ht,hft]);go_wp2_with fail;go_ret;exact ak.intro HV.out.symm (af HB0.out HA2.out)
      |true=>
       have hee:(!(f++t).toList.isEmpty)=false:=(by rw[bG,eS,hem];rfl);have hf0:be (bl f)=false:=(by rw[(List.append_eq_nil_iff.1 (List.isEmpty_iff.1 hem)).1];rfl);refine(cW f _ (HE.out.below (ax (ai _ _) _) (ah _)) hfs).mono ?_;rintro e w1 ⟨rfl,hb1⟩;have HA1:=aa (af (ax (ai _ _) _) hb1);clear hb1;obtain⟨c0,c1,c2,c3,c4,c5,c6,c7⟩:=HBX.out.below HA1.out;rw[hf0];go_wp2_with fail;refine(eC os _ _ _ _ (HO.out.below HA1.out) HSO.out (HE.out.below HA1.out (ah _))).mono ?_;rintro e w2 ⟨rfl,hb2⟩;have HA2:=aa (af HA1.out hb2);clear hb2;clear c0 c1 c2 c3 c4 c5 c6 c7;obtain⟨c0,c1,c2,c3,c4,c5,c6,c7⟩:=HBX.out.below HA2.out;cases hpo:bR os with
       |false=>have HV:Hid (ap _=false):=HR.out.trans (by simp[aI,aq,aG,aF,ha,hi,hj,hij,hj0,hem,hf0,hpo]);go_wp2_with fail;go_ret;exact ak.intro HV.out.symm (af HB0.out HA2.out)
       |true=>
        go_wp2_with fail;refine(eC ns _ _ _ _ (HN.out.below HA2.out) HSN.out (HE.out.below HA2.out (ah _))).mono ?_;rintro e w3 ⟨rfl,hb3⟩;have HA3:=aa (af HA2.out hb3);clear hb3;clear c0 c1 c2 c3 c4 c5 c6 c7;obtain⟨c0,c1,c2,c3,c4,c5,c6,c7⟩:=HBX.out.below HA3.out;cases hpn:bR ns with
        |true=>have HV:Hid (ap _=false):=HR.out.trans (by simp[aI,aq,aG,aF,ha,hi,hj,hij,hj0,hem,hf0,hpo,hpn]);go_wp2_with fail;go_ret;exact ak.intro HV.out.symm (af HB0.out HA3.out)
        |false=>
         cases hen:ns.isEmpty with
         |false=>
          have ghen:(0:Int)<nn:=by
           have e1:=HLN.out;cases ns with
           |nil=>cases hen
           |cons a l=>simp at e1;omega
          have HV:Hid (ap _=false):=HR.out.trans (by simp[aI,aq,aG,aF,ha,hi,hj,hij,hj0,hem,hf0,hpo,hpn,hen]);go_wp2_with fail;go_ret;exact ak.intro HV.out.symm (af HB0.out HA3.out)
         |true=>
          have ghen:¬(0:Int)<nn:=(by have e1:=HLN.out;have e2:=List.isEmpty_iff.1 hen;subst e2;simp at e1;omega);have HV:Hid (ap _=true):=HR.out.trans (by simp[aI,aq,aG,aF,ha,hi,hj,hij,hj0,hem,hf0,hpo,hpn,hen]);go_wp2_with fail
          go_quiet (fail)
          go_wp2;go_ret;exact ak.intro HV.out.symm (ax (af HB0.out HA3.out) _)
theorem ym(b:Nat)(w:World):Calls Tryz.prog 183 #[.pointer (some ⟨b,0,none⟩),.slice none 0 0] w fun e w'=>e= .returned (.pointer (some ⟨b,0,none⟩))/\w=w':=by
 go_in
 go_wp2_with fail;go_loopw [0,9] (fun p i wr=>p= .pointer (some ⟨b,0,none⟩)/\i= .int .i64 0/\w=wr) (fun _ _ _=>0);case atStart=>exact⟨rfl,rfl,rfl⟩
 case round=>obtain⟨rfl,rfl,rfl⟩:=hrel;go_wp2;go_ret;exact⟨rfl,rfl⟩
def sT(ks:List ag)(k:Nat)(s:ByteArray)(x:Int)(n:Nat)(w:World)(e:Ending)(w':World):Prop:=
 ∃A c,e= .returned (.tuple #[.agg #[.int .u8 k,.string s,.int .i64 x,.slice A n c],.bool true])/\bJ w' w.heap.size ks A n c/\Below w.heap.size w w'
theorem yn(t:ag)(k:Nat)(s:ByteArray)(x:Int)(A:Option Addr)(n c:Nat)(w:World)(hsz:t.sz<=1000000)(hN:cf w t k s x A n c):Calls Tryz.prog 131 #[.agg #[.int .u8 k,.string s,.int .i64 x,.slice A n c],.slice none 0 0] w (sT t.kids k s x n w):=by
 have hb0:Below w.heap.size w ((w.alloc (.cells #[.int .u8 k,.string s,.int .i64 x,.slice A n c] 44)).alloc (.cells #[.int .u8 0,.string ⟨#[]⟩,.int .i64 0,.slice none 0 0] 44)):=((ai _ _).alloc (ah _) _).alloc (by simp) _;have HB0:=aa hb0;have HN:=aa (hN.below hb0);clear hb0 hN
 go_in
 go_wp2_with fail;refine(ym _ _).mono ?_;rintro e w1 ⟨rfl,rfl⟩;go_wp2_with fail;refine(ya t _ _ _ _ _ _ _ hsz HN.out).mono ?_;rintro e w1 ⟨A1,c1,rfl,hf,hb1⟩;have HF:=aa hf;have HB1:=aa hb1;clear hf hb1;have hres:w1.heap[w.heap.size+1]? =some (.cells #[.int .u8 0,.string ⟨#[]⟩,.int .i64 0,.slice none 0 0] 44 (0,0)):=(HB1.out.block _ (by simp)).trans (aQ (by simp));obtain⟨r0,r1,r2,r3,g0,g1,g2,g3⟩:=di hres;clear hres;go_wp2_with fail;have HFK:Hid (bJ ((((w1.setCell ⟨w.heap.size+1,0,none⟩ (.int .u8 k)).setCell ⟨w.heap.size+1,1,none⟩ (.string s)).setCell ⟨w.heap.size+1,2,none⟩ (.int .i64 x)).setCell ⟨w.heap.size+1,3,none⟩ (.slice A1 n c1)) w.heap.size t.kids A1 n c1):=by refine bJ.keep HF.out (by simp;omega) fun q ha _=>?_;simp at ha;rw[aY _ _ _ _ (show q≠w.heap.size+1 by omega),aY _ _ _ _ (show q≠w.heap.size+1 by omega),aY _ _ _ _ (show q≠w.heap.size+1 by omega),aY _ _ _ _ (show q≠w.heap.size+1 by omega)]
 obtain⟨a0,a1,a2,a3⟩:=mL (v0:=.int .u8 k) (v1:=.string s) (v2:=.int .i64 x) (v3:=.slice A1 n c1) r0 r1 r2 r3;exact bodyPost_ret (v:=.tuple #[.agg #[.int .u8 k,.string s,.int .i64 x,.slice A1 n c1],.bool true]) (by simp[results,Tryz.results131,go_sem,a0,a1,a2,a3]) rfl ⟨A1,c1,rfl,HFK.out,((((af HB0.out HB1.out).setCell (by simp) _).setCell (by simp) _).setCell (by simp) _).setCell (by simp) _⟩
def fS(w:World)(S:Nat->Bool):World:={ w with heap:=w.heap.mapIdx fun i o=>if S i then o else Obj.cells #[] 0 }
theorem fD{w:World}{S:Nat->Bool}{a:Addr}{v:Value}:(fS w S).cell? a=some v↔S a.block=true/\w.cell? a=some v:=by
 unfold World.cell? fS;simp only[Array.getElem?_mapIdx];cases h:w.heap[a.block]? with
 |none=>simp
 |some o=>
  by_cases hb:S a.block=true
  .simp only[Option.map_some,hb,if_true];constructor
   .intro e;exact⟨trivial,e⟩
   .rintro⟨_,e⟩;exact e
  .have hb':S a.block=false:=(by simpa using hb);simp only[Option.map_some,hb',Bool.false_eq_true,if_false,false_and,iff_false];intro e;split at e<;>simp at e
def cq(w:World)(S:Nat->Bool)(ks:List ag)(A:Option Addr)(n c:Nat):Prop:=KidsAt (fS w S) ks A n c
theorem cq.keep{w w':World}{S S':Nat->Bool}{ks:List ag}{A:Option Addr}{n c:Nat}(h:cq w S ks A n c)(hk:∀a v,S a.block=true->w.cell? a=some v->S' a.block=true/\w'.cell? a=some v):cq w' S' ks A n c:=
 KidsAt.keep (fun _ _ h=>by obtain⟨h1,h2⟩:=fD.1 h;exact fD.2 (hk _ _ h1 h2)) h
theorem bJ.only{w:World}{B:Nat}{S:Nat->Bool}{ks:List ag}{A:Option Addr}{n c:Nat}(h:bJ w B ks A n c)(hS:∀i,B<=i->i<w.heap.size->S i=true):cq w S ks A n c:=
 KidsAt.keep (fun _ _ h=>by obtain⟨h1,h2⟩:=ej.1 h;exact fD.2 ⟨hS _ h1 (bK h2),h2⟩) h.1
def rest(B:Nat)(v:Value)(q:Nat):Bool:=decide (B<=q) && !(v.ownBlock == some q)
theorem lG{B:Nat}{v:Value}{q:Nat}:rest B v q=true↔B<=q/\v.ownBlock≠some q:=by simp[rest]
def iC(B M:Nat)(w:World)(ks:List ag)(j:Nat)(v:Value)(xs:List Value):Prop:=(∀q,v.ownBlock=some q->q<M)/\∃R,eu w (ks.take j) xs R/\(∀u∈R,bd w B 44 4 u)/\(aW R).Nodup/\(∀q∈aW R,q<M)/\(∀q,v.ownBlock=some q->q∉aW R)
def eZ(B M:Nat)(w:World)(ks:List ag)(j:Nat)(v:Value):Prop:=
 ∃xs,w.ownsRow B 44 4 v j xs/\xs.length=j*4/\(∀i t,i<j->ks[i]? =some t->∃A c,xs[i*4]? =some (.int .u8 t.kind)/\xs[i*4+1]? =some (.string (sb t.text))/\xs[i*4+2]? =some (.int .i64 t.num)/\xs[i*4+3]? =some (.slice A t.kids.length c)/\
  cq w (rest B v) t.kids A t.kids.length c/\t.kind<=255/\t.text.length<=maxLen/\cm t.num)/\iC B M w ks j v xs
theorem iC.below{B M:Nat}{w w':World}{ks:List ag}{j:Nat}{v:Value}{xs:List Value}(h:iC B M w ks j v xs)(hb:Below w.heap.size w w'):iC B M w' ks j v xs:=by
 obtain⟨h0,R,h1,h2,h3,h4,h5⟩:=h;have hk:∀q∈aW R,w'.heap[q]? =w.heap[q]? :=fun q hq=>by obtain⟨u,hu,e⟩:=eV hq;exact hb.block q ((h2 u hu).lt e).2
 exact⟨h0,R,h1.keep hk,fun u hu=>(h2 u hu).keep (ah _) fun q e=>hk q (iR hu e),h3,h4,h5⟩
theorem eZ.below{B M:Nat}{w w':World}{ks:List ag}{j:Nat}{v:Value}(h:eZ B M w ks j v)(hb:Below w.heap.size w w'):eZ B M w' ks j v:=by obtain⟨xs,h1,h2,h3,h4⟩:=h;refine⟨xs,bM h1 hb (ah _),h2,fun i t hi ht=>?_,h4.below hb⟩;obtain⟨A,c,t0,t1,t2,t3,t4,t5⟩:=h3 i t hi ht;exact⟨A,c,t0,t1,t2,t3,t4.keep fun a v hS hc=>⟨hS,ac hb hc⟩,t5⟩
theorem iC.start(B M:Nat)(w:World)(ks:List ag):iC B M w ks 0 (.slice none 0 0) []:=
 ⟨fun q e=>(by cases e),[],rfl,fun u h=>absurd h (by simp),List.nodup_nil,fun q h=>absurd h (by simp[aW]),fun q e=>(by cases e)⟩
theorem eZ.start(B M:Nat)(w:World)(ks:List ag):eZ B M w ks 0 (.slice none 0 0):=⟨[],World.ownsRow_nil w _ _ _,rfl,fun _ _ h=>absurd h (Nat.not_lt_zero _),iC.start B M w ks⟩
def eU(t:ag)(A:Option Addr)(c:Nat):List Value:=[.int .u8 t.kind,.string (sb t.text),.int .i64 t.num,.slice A t.kids.length c]
theorem eZ.push{B M M':Nat}{w w':World}{ks:List ag}{j:Nat}{v:Value}{xs:List Value}{t:ag}{A:Option Addr}{c g cap:Nat}(h:(∀i t,i<j->ks[i]? =some t->∃A c,xs[i*4]? =some (.int .u8 t.kind)/\xs[i*4+1]? =some (.string (sb t.text))/\xs[i*4+2]? =some (.int .i64 t.num)/\xs[i*4+3]? =some (.slice A t.kids.length c)/\cq w (rest B v) t.kids A t.kids.length c/\t.kind<=255/\t.text.length<=maxLen/\cm t.num)/\iC B M w ks j v xs)(hF:bJ w M' t.kids A t.kids.length c)(hM:M<=M')(hBM:B<=M')(hx:xs.length=j*4)(ht:ks[j]? =some t)(hk:cq w (rest B v) t.kids A t.kids.length c)(b1:t.kind<=255)(b2:t.text.length<=maxLen)(b3:cm t.num)(hown:w'.ownsRow B 44 4 (.slice (some ⟨g,0,none⟩) (j+1) cap) (j+1) (xs++eU t A c))(hgr:w.grownBy w' v.ownBlock)(hg:v.ownBlock=some g∨g=w.heap.size):eZ B w'.heap.size w' ks (j+1) (.slice (some ⟨g,0,none⟩) (j+1) cap):=by
 obtain⟨h,hR⟩:=h;have hkeep:∀{ks':List ag} {A:Option Addr} {n c:Nat},cq w (rest B v) ks' A n c->cq w' (rest B (.slice (some ⟨g,0,none⟩) (j+1) cap)) ks' A n c:=by
  intro ks' A n c h;refine h.keep fun a u hS hc=>?_;obtain⟨s1,s2⟩:=lG.1 hS;have hlt:=bK hc;refine⟨lG.2 ⟨s1,?_⟩,?_⟩
  .intro e;simp[Value.ownBlock] at e;rcases hg with e'|e'
   .exact s2 (by rw[e',e])
   .omega
  .exact hgr.cell hc (fun e=>s2 e.symm)
 refine⟨_,hown,by simp[eU,hx];omega,fun i t' hi ht'=>?_,?_⟩;rotate_left
 .obtain⟨h0,R,h1,h2,h3,h4,h5⟩:=hR;obtain⟨_,R3,f1⟩:=hF;have hgl:=(hown.lt g rfl).2;have hltR:∀q∈aW R,q<w.heap.size:=fun q hq=>by obtain⟨u,hu,e⟩:=eV hq;exact((h2 u hu).lt e).2
  have hkR:∀q∈aW R,w'.heap[q]? =w.heap[q]? :=fun q hq=>hgr.block q (hltR q hq) fun e=>h5 q e.symm hq;have hk3:∀q∈aW R3,w'.heap[q]? =w.heap[q]? :=fun q hq=>hgr.block q (f1.lt hq).2 fun e=>by have:=h0 q e.symm;have:=(f1.lt hq).1;omega
  have hjl:j<ks.length:=(bs.1 ht).1;have htk:ks.take (j+1)=ks.take j++[t]:=by obtain⟨hj,e⟩:=bs.1 ht;rw[List.take_succ_eq_append_getElem hj,e]
  refine⟨fun q e=>?_,R++R3,?_,?_,?_,?_,?_⟩
  .simp only[Value.ownBlock,Option.some.injEq] at e;omega
  .rw[htk];exact eu.snoc (h1.keep hkR) (by rw[hx,List.length_take];omega) (by simp[eU]) (f1.rows.keep hk3)
  .intro u hu;rcases List.mem_append.1 hu with hu|hu
   .exact(h2 u hu).keep (ah _) fun q e=>hkR q (iR hu e)
   .exact(f1.own u hu).keep hBM fun q e=>hk3 q (iR hu e)
  .exact iq h3 f1.nd (m:=M') (fun q hq=>fJ (h4 q hq) hM) fun q hq=>(f1.lt hq).1
  .intro q hq;rw[gg] at hq;have:=hgr.size;rcases List.mem_append.1 hq with hq|hq
   .have:=hltR q hq;omega
   .have:=(f1.lt hq).2;omega
  .intro q e hq;simp only[Value.ownBlock,Option.some.injEq] at e;subst e;rw[gg] at hq;rcases hg with hg|hg
   .rcases List.mem_append.1 hq with hq|hq
    .exact h5 _ hg hq
    .have:=h0 _ hg;have:=(f1.lt hq).1;omega
   .rcases List.mem_append.1 hq with hq|hq
    .have:=hltR _ hq;omega
    .have:=(f1.lt hq).2;omega
 by_cases hij:i=j
 .subst hij;rw[ht] at ht';injection ht' with ht';subst ht';refine⟨A,c,?_,?_,?_,?_,hkeep hk,b1,b2,b3⟩ <;>rw[eK (by omega)] <;>simp[hx,eU]
 .obtain⟨A',c',t0,t1,t2,t3,t4,t5⟩:=h i t' (by omega) ht';exact⟨A',c',by rw[cM (by omega)];exact t0,by rw[cM (by omega)];exact t1,by rw[cM (by omega)];exact t2,by rw[cM (by omega)];exact t3,hkeep t4,t5⟩
theorem eZ.done{B M:Nat}{w:World}{ks:List ag}{v:Value}(h:eZ B M w ks ks.length v):∃A c,v= .slice A ks.length c/\bJ w B ks A ks.length c:=by
 obtain⟨xs,h1,h2,h3,hR⟩:=h;obtain⟨A,c,rfl,k1,k2⟩:=cw h1;refine⟨A,c,rfl,⟨rfl,k1,k2,?_⟩,?_⟩;rotate_left
 .obtain⟨r0,R,r1,r2,r3,r4,r5⟩:=hR;rw[List.take_length] at r1;by_cases h0:ks=[]
  .subst h0;exact⟨_,cZ.nil ⟨_,_,h1⟩⟩
  .obtain⟨g,cap,e,hg⟩:=h1.form (List.length_pos_iff.2 h0);injection e with e1 e2 e3;subst e1 e3;exact⟨_,cZ.mk' (eu.mem r1 fun p u hu=>by rw[Nat.zero_add];exact bH h1 p u hu) ⟨_,_,h1⟩ r2 r3 (r5 g rfl)⟩
 by_cases h0:ks=[]
 .exact .inl h0
 .right;obtain⟨g,cap,e,hg⟩:=h1.form (List.length_pos_iff.2 h0);injection e with e1 e2 e3;subst e1 e3;have hlt:=h1.lt g rfl;refine⟨g,0,rfl,ch.mk fun i t ht=>?_⟩;obtain⟨A2,c2,t0,t1,t2,t3,t4,t5,t6,t7⟩:=h3 i t (bs.1 ht).1 ht;have hc:∀p u,xs[p]? =some u->(cX w B).cell? ⟨g,p,none⟩=some u:=fun p u hu=>ej.2 ⟨hlt.1,bH h1 p u hu⟩;rw[Nat.zero_add];refine cJ.of (hc _ _ t0) (hc _ _ t1) (hc _ _ t2) (hc _ _ t3) ?_ t5 t6 t7;exact KidsAt.keep (fun a u h=>by obtain⟨s1,s2⟩:=fD.1 h;exact ej.2 ⟨(lG.1 s1).1,s2⟩) t4
theorem qW(t:ag)(A:Option Addr)(c:Nat):∀u∈eU t A c,u.oneCell'=true:=by intro u hu;simp[eU] at hu;rcases hu with rfl|rfl|rfl|rfl<;>rfl
theorem pj{ops:Array Oper}{rest:List Oper}{o:Oper}{a:Act}{Q:Exit->Act->World->Prop}(w:World)(hgd:o.guard=none)(s x:Operand)(ho:o.op= .call { callee:=.builtin .append,args:=#[s,x],argTypes:=#[24,24] })(base:Nat)(v:Value)(j:Nat)(xs:List Value)(hs:a.eval s=v)(hown:w.ownsRow base 44 4 v j xs)(Bk c:Nat)(t:ag)(A:Option Addr)(k:Nat)(hx:a.eval x= .slice (some ⟨Bk,0,none⟩) 1 c)(hblk:w.heap[Bk]? =some (.cells (eU t A k).toArray 44 (0,0)))(hfew:j<=1000000)(hbase:base<=w.heap.size)(h:∀g cap w',w'.ownsRow base 44 4 (.slice (some ⟨g,0,none⟩) (j+1) cap) (j+1) (xs++eU t A k)->w.grownBy w' v.ownBlock->(v.ownBlock=some g∨g=w.heap.size)->wpList Tryz.prog ops Q rest (a.put o.dst (.slice (some ⟨g,0,none⟩) (j+1) cap)) w'):wpList Tryz.prog ops Q (o::rest) a w:=by
 obtain⟨i0,hi,hz0,hz1,hz2⟩:=info_parts Tryz.infoNode;exact wpList_append_lies w hgd s x _ ho base 44 i0 _ 4 56 Tryz.underlying24 hi hz0 hz1 hz2 rfl (by omega) v j xs hs hown ⟨Bk,0,none⟩ 1 c (eU t A k) hx rfl
  (fun j u hu=>World.news_of_block hblk j u (by simpa using hu)) (qW t A k) (by omega) (by unfold maxLen;omega) (by omega) hbase _ rfl fun g cap w' h1 h2 h3 _=>h g cap w' h1 h2 h3
def nl(ks:List ag)(n:Nat)(w:World)(e:Ending)(w':World):Prop:=∃A c,e= .returned (.slice A n c)/\bJ w' w.heap.size ks A n c/\Below w.heap.size w w'
theorem jE(ks:List ag)(A:Option Addr)(n c:Nat)(w:World)(hsz:ao ks<=1000000)(hK:KidsAt w ks A n c):Calls Tryz.prog 60 #[.slice A n c] w (nl ks n w):=by
 have HK:=aa hK;have HSZ:=aa hsz;have HLN:Hid (n=ks.length):=hK.1;have hnb:n<=1000000:=(by have h1:=eA ks;have h3:=HLN.out;omega);clear hK hsz
 go_in
 go_wp2_with fail;go_loopw [3,10] (fun v i wr=>∃j:Nat,j<=n/\i= .int .i64 j/\Hid (Below w.heap.size w wr)/\Hid (eZ w.heap.size wr.heap.size wr ks j v)) (fun _ i _=>n - (intOf i).toNat);case atStart=>exact⟨0,aE _,rfl,ai _ _,eZ.start _ _ _ _⟩
 case round=>
  obtain⟨j,hj,rfl,HB,HI⟩:=hrel;by_cases hlt:j<n
  .obtain⟨b,o,t,rfl,ht,hat⟩:=(HK.out.below HB.out).get hlt;obtain⟨B1,d1,q0,q1,q2,q3,hnode⟩:=hat.cells;have HND:=aa hnode;have HT:=aa ht;have HST:Hid (t.sz<=1000000):=aJ (jL ht) HSZ.out;clear ht hat hnode;go_wp2_with fail;have hb1:Below wr.heap.size wr (wr.alloc (.cells #[.int .u8 t.kind,.string (sb t.text),.int .i64 t.num,.slice B1 t.kids.length d1] 44)):=(ai _ _).alloc (ah _) _;refine(yn t _ _ _ _ _ _ _ HST.out (HND.out.below hb1)).mono ?_;rintro e w3 ⟨A3,k3,rfl,hf3,hb3⟩;have HB3:=aa (af hb1 hb3);have HF3:=aa hf3;clear hf3 hb3 hb1;have HBND:Hid (t.kind<=255/\t.text.length<=maxLen/\cm t.num):=by obtain⟨ks',e,h1,h2,h3,_⟩:=HND.out;exact⟨h1,h2,h3⟩
   have HK3:Hid (cq w3 (rest w.heap.size u3) t.kids A3 t.kids.length k3):=HF3.out.only fun i h1 h2=>by obtain⟨xs,ho,_,_⟩:=HI.out;simp at h1;have h3:=HB.out.size;refine lG.2 ⟨by omega,fun e=>?_⟩;have:=(ho.lt i e).2;omega
   have hb4:Below w3.heap.size w3 ((w3.alloc (.cells #[.int .u8 t.kind,.string (sb t.text),.int .i64 t.num,.slice A3 t.kids.length k3] 44)).alloc (.cells #[.int .u8 t.kind,.string (sb t.text),.int .i64 t.num,.slice A3 t.kids.length k3] 44)):=((ai _ _).alloc (ah _) _).alloc (by simp) _;have HO4:=aa ((HI.out.below HB3.out).below hb4);have HK4:Hid (cq ((w3.alloc (.cells #[.int .u8 t.kind,.string (sb t.text),.int .i64 t.num,.slice A3 t.kids.length k3] 44)).alloc (.cells #[.int .u8 t.kind,.string (sb t.text),.int .i64 t.num,.slice A3 t.kids.length k3] 44)) (rest w.heap.size u3) t.kids A3 t.kids.length k3):=HK3.out.keep fun a v hS hc=>⟨hS,ac hb4 hc⟩;have HF4:=aa (HF3.out.keep (ah _) fun q _ h=>hb4.block q h);have HB4:=aa (af HB.out (af HB3.out hb4));clear hb4;obtain⟨xs,hown,hxl,hat⟩:=HO4.out;have HOW:=aa hown;have HAT:=aa hat;clear hown hat;go_wp2_with (at_builtin;go_must (refine pj _ rfl _ _ rfl w.heap.size u3 j xs rfl HOW.out (w3.heap.size+1) 1 t A3 k3 rfl (aQ (by simp)) (by omega) HB4.out.size ?_);intro g cap w5 ho5 hg5 hd5);have HN5:=aa (eZ.push HAT.out HF4.out (by simp) (by have:=HB.out.size;simp;omega) hxl HT.out HK4.out HBND.out.1 HBND.out.2.1 HBND.out.2.2 ho5 hg5 hd5);have HB5:=aa (l0 HOW.out hg5 (ah _) HB4.out.size);have HB6:=aa (HB4.out.trans HB5.out);clear ho5 hg5 hd5;go_wp2;go_roundw;case rel=>exact⟨j+1,by omega,by go_num,HB6,HN5⟩
   case measure=>simp[intOf];omega
  .have hjn:j=n:=(by omega);subst hjn;have HD:Hid (∃A c,u3= .slice A j c/\bJ wr w.heap.size ks A j c):=by have h:=HI.out;rw[HLN.out] at h ⊢;exact h.done
   obtain⟨A2,c2,rfl,hf⟩:=HD.out;have HF:=aa hf;clear hf HD;go_wp2_with fail;go_ret;exact⟨A2,c2,rfl,HF.out,HB.out⟩
def sU(n:Nat)(w:World)(e:Ending)(w':World):Prop:=∃cap,e= .returned (.slice (some ⟨w.heap.size,0,none⟩) 0 cap)/\n<=cap/\w'.ownsRow w.heap.size 44 4 (.slice (some ⟨w.heap.size,0,none⟩) 0 cap) 0 []/\Below w.heap.size w w'
theorem Ap(w:World)(ty:TypeId)(n:Nat)(h0:0<n)(hn:n<=1000000):∃(cap:Nat) (w':World),(Builtin.append_ #[24,3] ty #[.slice none 0 0,.int .i64 n]).run Tryz.prog w= .ok (.slice (some ⟨w.heap.size,0,none⟩) n cap) w'/\n<=cap/\cap<=maxLen/\w'.ownsRow w.heap.size 44 4 (.slice (some ⟨w.heap.size,0,none⟩) 0 cap) 0 []/\Below w.heap.size w w':=by
 obtain⟨i0,hi,hz0,hz1,hz2⟩:=info_parts Tryz.infoNode;have h1:=grownCap_ge w n 0 44;have h2:=grownCap_le_maxLen w n 0 44 (by unfold maxLen;omega);refine⟨_,_,Lib.run_append_nil_zeros w 24 3 ty 44 i0 _ .i64 .i64 Tryz.underlying24 Tryz.underlying3 hi hz0 n h0 (by omega) (by omega) (by rw[hz2];omega),h1,h2,?_,?_⟩
 .refine⟨rfl,.inr ⟨w.heap.size,_,_,rfl,ah _,heap_alloc_new _ _,aE _,h2,?_,?_⟩⟩
  .rw[Array.size_append,size_zeroCells,size_zeroCells];have:(Value.agg #[.int .u8 0,.string ⟨#[]⟩,.int .i64 0,.slice none 0 0]).cells.size=4:=rfl;rw[this];omega
  .simp
 .exact((ai _ _).drew).alloc (ah _) _
theorem yo(n:Nat)(w:World)(h0:0<n)(hn:n<=1000000):Calls Tryz.prog 121 #[.slice none 0 0,.int .i64 n] w (sU n w):=by
 obtain⟨cap,w1,hr,h1,h2,ho,hb⟩:=Ap w 24 n h0 hn;have HR:=aa hr;have HO:=aa ho;have HB:=aa hb;clear hr ho hb
 go_in
 go_wp2_with (at_builtin;go_must (refine Lib.wpList_append_run _ rfl _ _ _ _ rfl _ _ rfl rfl _ _ HR.out ?_));go_ret;exact⟨cap,rfl,h1,HO.out,HB.out⟩
theorem Tryz.infoStr:(Tryz.prog.info? 9).map (fun i=>(i.zero,i.size,i.bytes))=some (some (.string ByteArray.empty),1,16):=by kernel_rfl
def bj(ss:List ar):List Value:=ss.map fun s=>.string (sb s)
theorem sy(ss:List ar)(s:ar):bj (ss++[s])=bj ss++[.string (sb s)]:=by simp[bj]
theorem AK{ops:Array Oper}{o:Oper}{a:Act}{K:Act->World->Prop}{Q:Exit->Act->World->Prop}{E:Prop}(w:World)(hgd:o.guard=none)(s x:Operand)(ho:o.op= .call { callee:=.builtin .append,args:=#[s,x],argTypes:=#[52,52] })(base:Nat)(v:Value)(ss:List ar)(hs:a.eval s=v)(hown:w.ownsRow base 9 1 v ss.length (bj ss))(Bk c:Nat)(t:ar)(hx:a.eval x= .slice (some ⟨Bk,0,none⟩) 1 c)(hblk:w.heap[Bk]? =some (.cells #[.string (sb t)] 9 (0,0)))(hfew:ss.length<=2147483648)(hbase:base<=w.heap.size)(h:∀g cap w',w'.ownsRow base 9 1 (.slice (some ⟨g,0,none⟩) (ss.length+1) cap) (ss++[t]).length (bj (ss++[t]))->w.grownBy w' v.ownBlock->K (a.put o.dst (.slice (some ⟨g,0,none⟩) (ss.length+1) cap)) w'):if Region.wanted o (yielded ops a.tmps)=true then Oper.wp Tryz.prog o a w K Q else E:=by
 obtain⟨i0,hi,hz0,hz1,hz2⟩:=info_parts Tryz.infoStr;refine step_append_lies w hgd s x _ ho base 9 i0 _ 1 16 Tryz.underlying52 hi hz0 hz1 hz2 rfl (by omega) v ss.length (bj ss) hs hown ⟨Bk,0,none⟩ 1 c [.string (sb t)] hx rfl
  (fun j u hu=>World.news_of_block hblk j u (by simpa using hu)) (by simp[Value.oneCell']) (by omega) (by unfold maxLen;omega) (by omega) hbase _ rfl ?_
 intro g cap w' hown' hgr hat hlt;refine h g cap w' ?_ hgr;rw[sy,cb];exact hown'
structure eG (B b j:Nat) (w:World) (v:Value) (ss:List ar):Prop where
 cell:w.cell? ⟨b,j,none⟩=some v
 soft:w.frozen? ⟨b,j,none⟩=false
 own:w.ownsRow B 9 1 v ss.length (bj ss)
 lt:b<B
def fI(b:Nat)(v:Value)(w w':World):Prop:=w.heap.size<=w'.heap.size/\∀q,q<w.heap.size->q≠b->v.ownBlock≠some q->w'.heap[q]? =w.heap[q]?
theorem fI.refl(b:Nat)(v:Value)(w:World):fI b v w w:=⟨ah _,fun _ _ _ _=>rfl⟩
theorem fI.below{b:Nat}{v:Value}{w w1 w':World}(h:fI b v w1 w')(hb:Below w.heap.size w w1):fI b v w w':=
 ⟨aJ hb.size h.1,fun q h1 h2 h3=>(h.2 q (fJ h1 hb.size) h2 h3).trans (hb.block q h1)⟩
theorem xN(s:ByteArray)(w:World)(hs:s.size<=281474976710656):Calls Tryz.prog 125 #[.string s] w fun e w'=>e= .returned (.string s)/\Below w.heap.size w w':=by
 go_in
 go_wp2_with (go_at_call 179;refine(Tryz.stringslite_Clone _ _ hs).mono ?_;rintro e w1 ⟨rfl,hb⟩);go_ret;exact⟨rfl,hb⟩
theorem eG.ne{B b j:Nat}{w:World}{v:Value}{ss:List ar}(h:eG B b j w v ss):v.ownBlock≠some b:=by intro e;have h1:=(h.own.lt b e).1;have h2:=h.lt;omega
theorem eG.below{B b j:Nat}{w w':World}{v:Value}{ss:List ar}(h:eG B b j w v ss)(hb:Below w.heap.size w w'):eG B b j w' v ss:=by have hlt:=bK h.cell;exact⟨ac hb h.cell,by rw[<-h.soft];unfold World.frozen?;rw[hb.block b hlt],bM h.own hb (ah _),h.lt⟩
theorem kS{B b j:Nat}{w w1 w2:World}{v:Value}{ss:List ar}{o:Obj}(h:eG B b j w v ss)(hbel:Below w.heap.size w w1)(hgr:(w1.alloc o).grownBy w2 v.ownBlock):w2.heap[b]? =w.heap[b]? :=by have hlt:b<w.heap.size:=bK h.cell;have hsz:=hbel.size;rw[hgr.block b (by simp;omega) (Ne.symm h.ne),Below.heap_alloc _ _ _ (by omega),hbel.block b hlt]
theorem jw{w w':World}{b j:Nat}(h:w'.heap[b]? =w.heap[b]?):w'.cell? ⟨b,j,none⟩=w.cell? ⟨b,j,none⟩/\w'.frozen? ⟨b,j,none⟩=w.frozen? ⟨b,j,none⟩:=by unfold World.cell? World.frozen?;simp only[h];exact⟨trivial,trivial⟩
def tf(B b:Nat)(v:Value)(ss:List ar)(w:World)(e:Ending)(w':World):Prop:=e= .returned (.tuple #[])/\∃v',eG B b 0 w' v' ss/\fI b v w w'/\Below b w w'
theorem sA{B b:Nat}{w w1 w2:World}{v:Value}{ss:List ar}{o:Obj}{t:ar}{V:Value}(j:Nat)(h:eG B b j w v ss)(hbel:Below w.heap.size w w1)(hown:w2.ownsRow B 9 1 V (ss++[t]).length (bj (ss++[t])))(hgr:(w1.alloc o).grownBy w2 v.ownBlock):eG B b j (w2.setCell ⟨b,j,none⟩ V) V (ss++[t])/\fI b v w (w2.setCell ⟨b,j,none⟩ V)/\Below b w (w2.setCell ⟨b,j,none⟩ V):=by
 have hm:=kS h hbel hgr;obtain⟨e1,e2⟩:=jw (j:=j) hm;have hlt:b<w.heap.size:=bK h.cell;have hsz:=hbel.size;have hne:V.ownBlock≠some b:=by intro e;have h1:=(hown.lt b e).1;have h2:=h.lt;omega
 refine⟨⟨cI (e1.trans h.cell),?_,re hown hne _,h.lt⟩,⟨?_,?_⟩,?_⟩
 .have hf:w2.frozen? ⟨b,j,none⟩=false:=e2.trans h.soft;rw[<-hf];simp[World.frozen?,World.setCell,Array.getElem?_modify];cases w2.heap[b]? with
  |none=>rfl
  |some o=>cases o<;>rfl
 .have h1:=hgr.size;simp at h1 ⊢;omega
 .intro q hq hqb hqv;rw[aY _ _ _ _ (fun e=>hqb e),hgr.block q (by simp;omega) (Ne.symm hqv),Below.heap_alloc _ _ _ (by omega),hbel.block q hq]
 .have hB1:Below b w w1:=hbel.mono (by omega);have hB2:Below b w (w1.alloc o):=hB1.alloc (by omega) o;have hB3:Below b w w2:=hB2.grown hgr (by simp;omega) (fun k hk=>by have h1:=(h.own.lt k hk).1;have h2:=h.lt;omega);exact hB3.setCell (p:=⟨b,j,none⟩) (ah _) V
def gT(k:Nat)(s:ByteArray)(ss:List ar):List ar:=if cG k then ss++[bl s] else ss
theorem yI(B b k:Nat)(s:ByteArray)(x:Int)(A:Option Addr)(n c:Nat)(ss:List ar)(v:Value)(w:World)(h:eG B b 0 w v ss)(hs:s.size<=281474976710656)(hfew:ss.length<=2147483648)(hB:B<=w.heap.size):Calls Tryz.prog 123 #[.agg #[.int .u8 k,.string s,.int .i64 x,.slice A n c],.pointer (some ⟨b,0,none⟩)] w (tf B b v (gT k s ss) w):=by
 have hb0:Below w.heap.size w (w.alloc (.cells #[.int .u8 k,.string s,.int .i64 x,.slice A n c] 44)):=(ai _ _).alloc (ah _) _;have HS:=aa h;have HB0:=aa hb0;have hlt:b<w.heap.size:=bK h.cell;clear hb0 h
 go_in
 go_wp2_with fail;refine(kH k _).mono ?_;rintro en w1 ⟨rfl,hb1⟩;have HB1:=aa (af HB0.out hb1);have hbox:w1.heap[w.heap.size]? =some (.cells #[.int .u8 k,.string s,.int .i64 x,.slice A n c] 44 (0,0)):=(hb1.block _ (by simp)).trans (heap_alloc_new _ _);have HBX:=aa hbox;have hw1:w.heap.size<w1.heap.size:=(by have:=hb1.size;simp at this;omega);clear hb1 hbox;cases hk:cG k with
 |false=>
  have HN:=aa hk;go_wp2_with fail
  go_end0
  have e:gT k s ss=ss:=(by unfold gT;rw[HN.out];rfl);rw[e];exact⟨rfl,v,HS.out.below HB1.out,(fI.refl _ _ _).below HB1.out,HB1.out.mono (by omega)⟩
 |true=>
  have HN:=aa hk;have c0:=(di HBX.out).c0;have c1:=(di HBX.out).c1;have c2:=(di HBX.out).c2;have c3:=(di HBX.out).c3;have hz0:w1.cell? ⟨b,0,none⟩=some v:=ac HB1.out HS.out.cell;go_wp2;go_region_law (first|(refine AK _ (by rfl) _ _ (by rfl) B v ss (by rfl) ((bM HS.out.own hbel (ah _)).alloc _) w3.heap.size 1 (bl s) (by rfl) (aQ (by simp)) (by omega) (by simp;omega) ?_;intro g cap w2 hown2 hgr2;have hv1:=(jw (j:=0) (kS HS.out hbel hgr2)).1.trans HS.out.cell;have hfz1:=(jw (j:=0) (kS HS.out hbel hgr2)).2.trans HS.out.soft)|(go_simp;go_at_call 125;refine(xN _ _ (by omega)).mono ?_;rintro e w3 ⟨rfl,hbel'⟩;have hbel:Below w.heap.size w w3:=af HB1.out (af (ax (ai _ _) 1) hbel');clear hbel';have hsz1:w.heap.size<=w3.heap.size:=hbel.size;have hz1:=(hbel.cell (p:=⟨b,0,none⟩) hlt).trans HS.out.cell;have hz2a:=fun o=>(World.cell?_alloc_lt w3 o ⟨b,0,none⟩ (by show b<_;omega)).trans hz1));all_goals
   go_wp2
   go_end0
   have e:gT k s ss=ss++[bl s]:=(by unfold gT;rw[HN.out];rfl);rw[e];exact⟨rfl,_,sA 0 HS.out hbel hown2 hgr2⟩
def cB(w:World)(cs:List Value)(us:List ag):Prop:=cs.length=us.length*4/\∀i t,us[i]? =some t->∃A c,cs[i*4]? =some (.int .u8 t.kind)/\cs[i*4+1]? =some (.string (sb t.text))/\cs[i*4+2]? =some (.int .i64 t.num)/\cs[i*4+3]? =some (.slice A t.kids.length c)/\KidsAt w t.kids A t.kids.length c/\t.kind<=255/\t.text.length<=maxLen/\cm t.num
theorem cB.nil(w:World):cB w [] []:=⟨rfl,fun _ _ h=>by simp at h⟩
theorem cB.append{w:World}{cs cs':List Value}{us us':List ag}(h:cB w cs us)(h':cB w cs' us'):cB w (cs++cs') (us++us'):=by
 obtain⟨l,h⟩:=h;obtain⟨l',h'⟩:=h';refine⟨by simp[l,l'];omega,fun i t ht=>?_⟩;by_cases hi:i<us.length
 .rw[cM hi] at ht;obtain⟨A,c,t0,t1,t2,t3,r⟩:=h i t ht;exact⟨A,c,by rw[cM (by omega)];exact t0,by rw[cM (by omega)];exact t1,by rw[cM (by omega)];exact t2,by rw[cM (by omega)];exact t3,r⟩
 .rw[eK (by omega)] at ht;obtain⟨A,c,t0,t1,t2,t3,r⟩:=h' _ t ht;refine⟨A,c,?_,?_,?_,?_,r⟩ <;>rw[eK (by omega)]
  .rw[show i*4 - cs.length=(i - us.length) *4 by omega];exact t0
  .rw[show i*4+1 - cs.length=(i - us.length) *4+1 by omega];exact t1
  .rw[show i*4+2 - cs.length=(i - us.length) *4+2 by omega];exact t2
  .rw[show i*4+3 - cs.length=(i - us.length) *4+3 by omega];exact t3
theorem cB.of_row{w:World}{us:List ag}{b o:Nat}(h:ch w us b o):cB w (cellsOf w b o (us.length*4)) us:=by refine⟨nX _ _ _ _,fun i t ht=>?_⟩;have hi:=(bs.1 ht).1;obtain⟨A,c,t0,t1,t2,t3,r⟩:=(h.get ht).parts;exact⟨A,c,iJ (by omega) t0,iJ (by omega) (by rw[<-Nat.add_assoc];exact t1),iJ (by omega) (by rw[<-Nat.add_assoc];exact t2),iJ (by omega) (by rw[<-Nat.add_assoc];exact t3),r⟩
theorem cB.done{w w':World}{base:Nat}{us:List ag}{cs:List Value}{v:Value}{n:Nat}(h:cB w cs us)(hown:w'.ownsRow base 44 4 v n cs)(hn:n=us.length)(hb:Below w.heap.size w w'):∃A c,v= .slice A n c/\KidsAt w' us A n c:=by
 obtain⟨A,c,rfl,k1,k2⟩:=cw hown;refine⟨A,c,rfl,hn,k1,k2,?_⟩;by_cases h0:us=[]
 .exact .inl h0
 .right;obtain⟨g,cap,e,hg⟩:=hown.form (by rw[hn];exact List.length_pos_iff.2 h0);injection e with e1 e2 e3;subst e1 e3;refine⟨g,0,rfl,ch.mk fun i t ht=>?_⟩;obtain⟨A2,c2,t0,t1,t2,t3,t4,t5,t6,t7⟩:=h.2 i t ht;rw[Nat.zero_add];exact cJ.of (bH hown _ _ t0) (bH hown _ _ t1) (bH hown _ _ t2) (bH hown _ _ t3) (t4.below hb) t5 t6 t7
theorem mW{w0 w:World}(hb:Below w0.heap.size w0 w)(ty:TypeId)(base:Nat)(hbase:base<=w.heap.size)(v:Value)(j:Nat)(cs:List Value)(hown:w.ownsRow base 44 4 v j cs)(us:List ag)(A:Option Addr)(m c:Nat)(hK:KidsAt w0 us A m c)(hj:j<=1000000)(hm:m<=1000000):∃v' w' cs',(Builtin.append_ #[24,24] ty #[v,.slice A m c]).run Tryz.prog w= .ok v' w'/\w'.ownsRow base 44 4 v' (j+m) (cs++cs')/\cB w0 cs' us/\w.grownBy w' v.ownBlock:=by
 obtain⟨i0,hi,hz0,hz1,hz2⟩:=info_parts Tryz.infoNode;have hl:=hK.1;cases A with
 |none=>
  have hks:us=[]:=by rcases hK.2.2.2 with e|⟨b,o,e,_⟩;exact e;cases e
  subst hks;have hm0:m=0:=hl;subst hm0;refine⟨v,w,[],?_,by simpa using hown,cB.nil _,⟨rfl,rfl,rfl,ah _,fun _ _ _=>rfl⟩⟩;rcases hown.2 with ⟨rfl,rfl⟩|⟨g,cap,cur,rfl,_,_,hnc,_⟩
  .simp[Builtin.append_,run_underlying Tryz.underlying24,sizeOf,typeInfo,hi,Builtin.lenOf,Builtin.firstCells]
  .simp[Builtin.append_,run_underlying Tryz.underlying24,sizeOf,typeInfo,hi,Builtin.lenOf,Builtin.firstCells,hnc,storeCells]
 |some ad=>
  have hX:∃news:List Value,news.length=m*4/\(∀j u,news[j]? =some u->w.cell? (ad.add j)=some u)/\(∀u∈news,u.oneCell'=true)/\cB w0 news us:=by
   rcases hK.2.2.2 with e|⟨b,o,e,hr⟩
   .subst e;have:m=0:=hl;subst this;exact⟨[],rfl,by simp,by simp,cB.nil _⟩
   .injection e with e;subst e;refine⟨cellsOf w0 b o (us.length*4),by rw[nX,hl],fun j u hu=>?_,pS hr,cB.of_row hr⟩;rw[fi];exact ac hb (nW hr hu)
  obtain⟨news,x1,x2,x3,x4⟩:=hX;obtain⟨v',w',r1,r2,r3,_⟩:=run_append_own (P:=Tryz.prog) w base 24 ty 44 i0 _ 4 56 Tryz.underlying24 hi hz0 hz1 hz2 rfl (by decide) v j cs hown ad m c news x1 x2 x3 (by unfold maxLen;omega) (by omega) hbase;exact⟨v',w',news,r1,r2,x4,r3⟩
def gI(j a b:Nat):Nat:=match j with|0=>0|1=>a|_=>a+b
def oT(j:Nat)(os ns:List ag):List ag:=match j with|0=>[]|1=>os|_=>os++ns
def sQ(us:List ag)(n:Nat)(w0 w:World)(e:Ending)(w':World):Prop:=∃v cs,e= .returned v/\w'.ownsRow w.heap.size 44 4 v n cs/\cB w0 cs us/\Below w.heap.size w w'
theorem xX(os ns:List ag)(bp:Nat)(oA:Option Addr)(on oc:Nat)(nA:Option Addr)(nn nc:Nat)(w0 w:World)(hb0:Below w0.heap.size w0 w)(h0:w.cell? ⟨bp,0,none⟩=some (.slice oA on oc))(h1:w.cell? ⟨bp,1,none⟩=some (.slice nA nn nc))(hO:KidsAt w0 os oA on oc)(hN:KidsAt w0 ns nA nn nc)(hpos:0<on+nn)(hfew:on+nn<=1000000):Calls Tryz.prog 52 #[.slice (some ⟨bp,0,none⟩) 2 2] w (sQ (os++ns) (on+nn) w0 w):=by
 have HO:=aa hO;have HN:=aa hN;have HLO:Hid (on=os.length):=hO.1;have HLN:Hid (nn=ns.length):=hN.1;have H0:=aa h0;have H1:=aa h1;have HW:=aa hb0;clear hO hN hb0
 go_in
 go_wp2_with fail;go_loopw [3,11] (fun sv iv wr=>∃j:Nat,j<=2/\iv= .int .i64 j/\sv= .int .i64 ((gI j on nn:Nat):Int)/\w=wr) (fun _ iv _=>2 - (intOf iv).toNat);case atStart=>exact⟨0,by omega,rfl,rfl,rfl⟩
 case round=>
  obtain⟨j,hj,rfl,rfl,rfl⟩:=hrel;have h0:=H0.out;have h1:=H1.out;obtain rfl|rfl|rfl:j=0∨j=1∨j=2:=by omega
  .have e0:gI 0 on nn=0:=rfl;rw[e0];go_wp2_with fail;go_roundw;case rel=>exact⟨1,by omega,by simp,by simp[gI],trivial⟩
   case measure=>simp[intOf]
  .have e0:gI 1 on nn=on:=rfl;rw[e0];go_wp2_with fail;go_roundw;case rel=>exact⟨2,by omega,by simp,by simp[gI],trivial⟩
   case measure=>simp[intOf]
  .have e0:gI 2 on nn=on+nn:=rfl;rw[e0];go_wp2_with fail;refine(yo (on+nn) _ hpos hfew).mono ?_;rintro en w1 ⟨cap,rfl,hcap,ho1,hb1⟩;have HOW:=aa ho1;have HB1:=aa hb1;clear ho1 hb1;go_wp2_with fail;go_loopw [6,27] (fun v iv wr=>∃j:Nat,j<=2/\iv= .int .i64 j/\Hid (Below w.heap.size w wr)/\Hid (∃cs,wr.ownsRow w.heap.size 44 4 v (gI j on nn) cs/\cB w0 cs (oT j os ns))) (fun _ iv _=>2 - (intOf iv).toNat);case atStart=>exact⟨0,by omega,rfl,HB1.out,[],HOW.out,cB.nil _⟩
   case round=>
    obtain⟨j,hj,rfl,HB,HI⟩:=hrel;obtain⟨cs,hown,hread⟩:=HI.out;have HC:=aa hown;have HRD:=aa hread;clear hown hread;have h0:=ac HB.out H0.out;have h1:=ac HB.out H1.out;obtain rfl|rfl|rfl:j=0∨j=1∨j=2:=by omega
    .obtain⟨v',w',cs',hr,ho,hrd,hgr⟩:=mW (af HW.out HB.out) 24 w.heap.size HB.out.size u6 _ cs HC.out os oA on oc HO.out (by simp[gI]) (by omega);have HR:=aa hr;have HO2:=aa ho;have HRD2:=aa (HRD.out.append hrd);have HBN:=aa (HB.out.trans (l0 HC.out hgr (ah _) HB.out.size));clear hr ho hrd hgr;go_wp2_with (at_builtin;go_must (refine Lib.wpList_append_run _ rfl _ _ _ _ rfl _ _ rfl rfl _ _ HR.out ?_));go_roundw;case rel=>exact⟨1,by omega,by simp,HBN,_,by simpa[gI] using HO2.out,by simpa[oT] using HRD2.out⟩
     case measure=>simp[intOf]
    .obtain⟨v',w',cs',hr,ho,hrd,hgr⟩:=mW (af HW.out HB.out) 24 w.heap.size HB.out.size u6 _ cs HC.out ns nA nn nc HN.out (by simp[gI];omega) (by omega);have HR:=aa hr;have HO2:=aa ho;have HRD2:=aa (HRD.out.append hrd);have HBN:=aa (HB.out.trans (l0 HC.out hgr (ah _) HB.out.size));clear hr ho hrd hgr;go_wp2_with (at_builtin;go_must (refine Lib.wpList_append_run _ rfl _ _ _ _ rfl _ _ rfl rfl _ _ HR.out ?_));go_roundw;case rel=>exact⟨2,by omega,by simp,HBN,_,by simpa[gI] using HO2.out,by simpa[oT] using HRD2.out⟩
     case measure=>simp[intOf]
    .go_wp2_with fail;go_ret;exact⟨u6,cs,rfl,HC.out,HRD.out,HB.out⟩
structure eQ (B b:Nat) (w:World) (v:Value) (ss:List ar) (c:Bool):Prop where
 str:eG B b 9 w v ss
 cell:w.cell? ⟨b,11,none⟩=some (.bool c)
 soft:w.frozen? ⟨b,11,none⟩=false
def iH(k:Nat):Bool:=k == 2 || k == 4 || k == 6
def gD(k:Nat)(s:ByteArray)(ss:List ar):List ar:=if iH k then ss++[bl s] else ss
def iI(k:Nat)(c:Bool):Bool:=c || k == 25
def gd(b:Nat)(w w':World):Prop:=∀j v,j≠9->j≠11->w.cell? ⟨b,j,none⟩=some v->w'.cell? ⟨b,j,none⟩=some v/\w'.frozen? ⟨b,j,none⟩=w.frozen? ⟨b,j,none⟩
def lV(B b:Nat)(v:Value)(ss:List ar)(c:Bool)(w:World)(e:Ending)(w':World):Prop:=e= .returned (.tuple #[])/\∃v',eQ B b w' v' ss c/\fI b v w w'/\Below b w w'/\gd b w w'
theorem mr(w:World)(a p:Addr)(v:Value):(w.setCell p v).frozen? a=w.frozen? a:=by
 simp only[World.frozen?,World.setCell,Array.getElem?_modify];by_cases h:p.block=a.block
 .simp only[h,if_true];cases w.heap[a.block]? with
  |none=>rfl
  |some o=>cases o<;>rfl
 .simp[h]
theorem Bt{ops:Array Oper}{rest:List Oper}{o:Oper}{a:Act}{Q:Exit->Act->World->Prop}(w:World)(hgd:o.guard=none)(s x:Operand)(ho:o.op= .call { callee:=.builtin .append,args:=#[s,x],argTypes:=#[52,52] })(base:Nat)(v:Value)(ss:List ar)(hs:a.eval s=v)(hown:w.ownsRow base 9 1 v ss.length (bj ss))(Bk c:Nat)(t:ar)(hx:a.eval x= .slice (some ⟨Bk,0,none⟩) 1 c)(hblk:w.heap[Bk]? =some (.cells #[.string (sb t)] 9 (0,0)))(hfew:ss.length<=2147483648)(hbase:base<=w.heap.size)(h:∀g cap w',w'.ownsRow base 9 1 (.slice (some ⟨g,0,none⟩) (ss.length+1) cap) (ss++[t]).length (bj (ss++[t]))->w.grownBy w' v.ownBlock->wpList Tryz.prog ops Q rest (a.put o.dst (.slice (some ⟨g,0,none⟩) (ss.length+1) cap)) w'):wpList Tryz.prog ops Q (o::rest) a w:=by
 obtain⟨i0,hi,hz0,hz1,hz2⟩:=info_parts Tryz.infoStr;refine wpList_append_lies w hgd s x _ ho base 9 i0 _ 1 16 Tryz.underlying52 hi hz0 hz1 hz2 rfl (by omega) v ss.length (bj ss) hs hown ⟨Bk,0,none⟩ 1 c [.string (sb t)] hx rfl
  (fun j u hu=>World.news_of_block hblk j u (by simpa using hu)) (by simp[Value.oneCell']) (by omega) (by unfold maxLen;omega) (by omega) hbase _ rfl ?_
 intro g cap w' hown' hgr hat hlt;refine h g cap w' ?_ hgr;rw[sy,cb];exact hown'
theorem eQ.below{B b:Nat}{w w':World}{v:Value}{ss:List ar}{c:Bool}(h:eQ B b w v ss c)(hb:Below w.heap.size w w'):eQ B b w' v ss c:=by have hlt:=bK h.cell;refine⟨h.str.below hb,ac hb h.cell,?_⟩;rw[<-h.soft];unfold World.frozen?;rw[hb.block b hlt]
theorem mx{b:Nat}{w w':World}(h:w'.heap[b]? =w.heap[b]?):gd b w w':=fun j v _ _ hc=>by obtain⟨e1,e2⟩:=jw (j:=j) h;exact⟨e1.trans hc,e2⟩
theorem gd.set{b:Nat}{w w':World}(h:gd b w w')(i:Nat)(hi:i=9∨i=11)(u:Value):gd b w (w'.setCell ⟨b,i,none⟩ u):=fun j v h9 h11 hc=>by obtain⟨e1,e2⟩:=h j v h9 h11 hc;refine⟨am (fun e=>?_) e1,(mr _ _ _ _).trans e2⟩;injection e with _ e;omega
theorem AA{B b:Nat}{w w1:World}{v:Value}{ss:List ar}{c:Bool}(h:eQ B b w v ss c)(hb:Below w.heap.size w w1):lV B b v ss c w (.returned (.tuple #[])) w1:=by have hlt:b<w.heap.size:=bK h.cell;exact⟨rfl,v,h.below hb,(fI.refl _ _ _).below hb,hb.mono (iB hlt),mx (hb.block b hlt)⟩
theorem Ax{B b:Nat}{w w1:World}{v:Value}{ss:List ar}{c:Bool}(h:eQ B b w v ss c)(hb:Below w.heap.size w w1):lV B b v ss true w (.returned (.tuple #[])) (w1.setCell ⟨b,11,none⟩ (.bool true)):=by
 have hlt:b<w.heap.size:=bK h.cell;obtain⟨⟨h1,h2,h3,h6⟩,h4,h5⟩:=h.below hb;refine⟨rfl,v,⟨⟨am (fun e=>by injection e with _ e;omega) h1,(mr _ _ _ _).trans h2,re h3 (fun e=>by have h0:B<=b:=(h3.lt _ e).1;omega) _,h6⟩,cI h4,(mr _ _ _ _).trans h5⟩,⟨?_,?_⟩,?_,(mx (hb.block b hlt)).set 11 (.inr rfl) _⟩
 .have:=hb.size;simpa using this
 .intro q h1 h2 h3;rw[aY _ _ _ _ (fun e=>h2 e),hb.block q h1]
 .exact(hb.mono (iB hlt)).setCell (p:=⟨b,11,none⟩) (ah _) _
theorem Aw{B b:Nat}{w w1 w2:World}{v:Value}{ss:List ar}{c:Bool}{o:Obj}{t:ar}{V:Value}(h:eQ B b w v ss c)(hbel:Below w.heap.size w w1)(hown:w2.ownsRow B 9 1 V (ss++[t]).length (bj (ss++[t])))(hgr:(w1.alloc o).grownBy w2 v.ownBlock):lV B b v (ss++[t]) c w (.returned (.tuple #[])) (w2.setCell ⟨b,9,none⟩ V):=by obtain⟨d1,d2,d3⟩:=sA 9 h.str hbel hown hgr;have hm:=kS h.str hbel hgr;obtain⟨e1,e2⟩:=jw (j:=11) hm;refine⟨rfl,V,⟨d1,am (fun e=>by injection e with _ e;omega) (e1.trans h.cell),(mr _ _ _ _).trans (e2.trans h.soft)⟩,d2,d3,(mx hm).set 9 (.inl rfl) _⟩
theorem xM(B b k:Nat)(s:ByteArray)(x:Int)(A:Option Addr)(n d:Nat)(ss:List ar)(c:Bool)(v:Value)(w:World)(h:eQ B b w v ss c)(hfew:ss.length<=2147483648)(hB:B<=w.heap.size):Calls Tryz.prog 57 #[.agg #[.int .u8 k,.string s,.int .i64 x,.slice A n d],.pointer (some ⟨b,0,none⟩)] w (lV B b v (gD k s ss) (iI k c) w):=by
 have hb0:Below w.heap.size w (w.alloc (.cells #[.int .u8 k,.string s,.int .i64 x,.slice A n d] 44)):=(ai _ _).alloc (ah _) _;have HS:=aa h;have HB0:=aa hb0;have HBX:=aa (di (heap_alloc_new w (.cells #[.int .u8 k,.string s,.int .i64 x,.slice A n d] 44)));have hlt:b<w.heap.size:=bK h.cell;have HS1:=aa (h.below hb0);have z9:=HS1.out.str.cell;have z11:=HS1.out.cell;have f9:=HS1.out.str.soft;have f11:=HS1.out.soft;have y9:=HS.out.str.cell;have y11:=HS.out.cell;have g9:=HS.out.str.soft;have g11:=HS.out.soft;have c0:=HBX.out.c0;have c1:=HBX.out.c1;clear hb0 h;by_cases h25:k=25
 .subst h25;have e1:gD 25 s ss=ss:=rfl;have e2:iI 25 c=true:=(by simp[iI]);rw[e1,e2]
  go_in
  go_wp2_with fail
  go_end0
  rw[<-World.setCell_alloc_past _ _ _ _ hlt];exact Ax HS.out HB0.out
 .have q25:((k:Int) == 25)=false:=(by simp;omega);have e2:iI k c=c:=(by simp[iI,h25]);rw[e2];by_cases hb:iH k=true
  .have e1:gD k s ss=ss++[bl s]:=(by unfold gD;rw[hb];rfl);rw[e1];have hk:k=2∨k=4∨k=6:=(by simpa[iH,or_assoc] using hb);clear hb e1 e2 h25;rcases hk with rfl|rfl|rfl
   all_goals
    go_in
    go_wp2_with (at_builtin;go_must (refine Bt _ rfl _ _ rfl B v ss rfl (HS1.out.str.own.alloc _) (w.heap.size+1) 1 (bl s) rfl (aQ (by simp)) (by omega) (by simp;omega) ?_);intro g cap w2 hown2 hgr2;have hv9:=(jw (j:=9) (kS HS.out.str HB0.out hgr2)).1.trans HS.out.str.cell;have hf9:=(jw (j:=9) (kS HS.out.str HB0.out hgr2)).2.trans HS.out.str.soft)
    go_end0
    exact Aw HS.out HB0.out hown2 hgr2
  .have hb':iH k=false:=(by simpa using hb);have e1:gD k s ss=ss:=(by unfold gD;rw[hb'];rfl);rw[e1];have q2:((k:Int) == 2)=false:=(by simp[iH] at hb';simp;omega);have q4:((k:Int) == 4)=false:=(by simp[iH] at hb';simp;omega);have q6:((k:Int) == 6)=false:=(by simp[iH] at hb';simp;omega);clear hb hb' e1 e2 h25
   go_in
   go_wp2_with fail
   go_end0
   exact AA HS.out HB0.out
end Go.Proofs.YtlkmefhogabgdaaGreatDoor
