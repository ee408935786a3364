/- Part 17 of the proof. -/
import Derived.Deep.DeepMust
import Derived.Deep.DeepCutAuto
import Derived.Deep.CutBlock
import Derived.Test.YtfipahjodfminaaGreatDoorMfP
namespace Go.Proofs.YtfipahjodfminaaGreatDoor
open Go.RowKit
set_option linter.all false
set_option maxHeartbeats 40000000
set_option maxRecDepth 100000
structure v8 (B r:Nat) (toks:List bi) (w:World) (b3 b4:Nat) (s:ar) (A3:Option Addr) (c3:Nat) (i' o:Nat) (ks:List ag) (v:Value) (W:World):Prop where
 rs:ca B W r toks i' o
 rd:a9 r w W
 x:W.heap[w.heap.size]? =some (.cells Z4 25 (0,0))
 f:W.heap[b3]? =some (.cells #[.int .u8 2,.string (sb s),.int .i64 0,.slice A3 0 c3] 25 (0,0))
 y:W.heap[b4]? =some (.cells #[.int .u8 3,.string ⟨#[]⟩,.int .i64 0,v] 25 (0,0))
 l:jg W b4 b4 v ks
theorem v8.below{B r:Nat}{toks:List bi}{w:World}{b3 b4:Nat}{s:ar}{A3:Option Addr}{c3:Nat}{i' o:Nat}{ks:List ag}{v:Value}{W W':World}(h:v8 B r toks w b3 b4 s A3 c3 i' o ks v W)(hb:Below W.heap.size W W'):v8 B r toks w b3 b4 s A3 c3 i' o ks v W':=
 ⟨h.rs.own (hb.mono h.rs.wB),h.rd.trans (a9.below hb),(hb.block _ (aK.1 h.x).1).trans h.x,(hb.block _ (aK.1 h.f).1).trans h.f,(hb.block _ (aK.1 h.y).1).trans h.y,h.l.keep fun q _ _ hq=>hb.block q hq⟩
theorem v8.rds{B r:Nat}{toks:List bi}{w:World}{b3 b4:Nat}{s:ar}{A3:Option Addr}{c3:Nat}{i' o i2 o2:Nat}{ks:List ag}{v:Value}{W W':World}(h:v8 B r toks w b3 b4 s A3 c3 i' o ks v W)(hr:a9 r W W')(hs:ca B W' r toks i2 o2)(h0:w.heap.size≠r)(h3:b3≠r)(h4:r<b4):v8 B r toks w b3 b4 s A3 c3 i2 o2 ks v W':=
 ⟨hs,h.rd.trans hr,hr.box h.x h0,hr.box h.f h3,hr.box h.y (by omega),h.l.keep fun q h1 _ hq=>hr.block q hq (by omega)⟩
theorem v8.at{B r:Nat}{toks:List bi}{w:World}{b3 b4:Nat}{s:ar}{A3:Option Addr}{c3:Nat}{i' o i2:Nat}{ks:List ag}{v:Value}{W:World}(h:v8 B r toks w b3 b4 s A3 c3 i' o ks v W)(hi:i2<toks.length)(h0:w.heap.size≠r)(h3:b3≠r)(h4:r<b4):v8 B r toks w b3 b4 s A3 c3 i2 o ks v (W.setCell ⟨r,1,none⟩ (.int .i64 i2)):=by
 refine⟨h.rs.setAt hi,h.rd.setOwn _,?_,?_,?_,h.l.keep fun q h1 _ _=>aY _ _ _ _ (show q≠r by omega)⟩
 .rw[aY _ _ _ _ h0];exact h.x
 .rw[aY _ _ _ _ h3];exact h.f
 .rw[aY _ _ _ _ (show b4≠r by omega)];exact h.y
theorem d8.putA2{B r:Nat}{toks:List bi}{i o:Nat}{w W:World}{t:ag}{A:Option Addr}{c:Nat}{O O2:Obj}(hR:a9 r w W)(hS:ca B W r toks i o)(hB:B<=w.heap.size)(hwW:w.heap.size<W.heap.size)(hN:cf (cX ((W.alloc O).alloc O2) (w.heap.size+1)) t t.kind (sb t.text) t.num A t.kids.length c)(v0 v1 v2 v3:Value):d8 B r toks t i o w (.returned (.agg #[.int .u8 t.kind,.string (sb t.text),.int .i64 t.num,.slice A t.kids.length c])) ((((((W.setCell ⟨w.heap.size,0,none⟩ v0).setCell ⟨w.heap.size,1,none⟩ v1).setCell ⟨w.heap.size,2,none⟩ v2).setCell ⟨w.heap.size,3,none⟩ v3).alloc O).alloc O2):=by
 have hb:Below w.heap.size W ((((((W.setCell ⟨w.heap.size,0,none⟩ v0).setCell ⟨w.heap.size,1,none⟩ v1).setCell ⟨w.heap.size,2,none⟩ v2).setCell ⟨w.heap.size,3,none⟩ v3).alloc O).alloc O2):=((((((ai w.heap.size W).setCell (p:=⟨_,_,none⟩) (ah _) v0).setCell (p:=⟨_,_,none⟩) (ah _) v1).setCell (p:=⟨_,_,none⟩) (ah _) v2).setCell (p:=⟨_,_,none⟩) (ah _) v3).alloc (by simp;omega) O).alloc (by simp;omega) O2;refine⟨⟨hb.os.trans hR.os,hb.tape.trans hR.tape,hb.output.trans hR.output,aJ hR.size hb.size,fun k hk hr=>(hb.block k hk).trans (hR.block k hk hr)⟩,hS.own (hb.mono hB),A,c,rfl,?_⟩;refine cf.sinceOf (N:=w.heap.size+1) (by omega) (fun q h1 h2=>?_) hN;simp only[World.size_alloc] at h2;rcases Nat.lt_or_ge q W.heap.size with hq|hq
 .rw[heap_alloc_old _ _ (by simp;omega),heap_alloc_old _ _ (by simpa using hq),heap_alloc_old (W.alloc O) O2 (by simp;omega),heap_alloc_old _ _ hq,aY _ _ _ _ (show q≠w.heap.size by omega),aY _ _ _ _ (show q≠w.heap.size by omega),aY _ _ _ _ (show q≠w.heap.size by omega),aY _ _ _ _ (show q≠w.heap.size by omega)]
 .obtain rfl|rfl:q=W.heap.size∨q=W.heap.size+1:=by omega
  .rw[heap_alloc_old _ _ (by simp),heap_alloc_at (by simp),heap_alloc_old (W.alloc O) O2 (by simp),heap_alloc_new]
  .rw[heap_alloc_at (by simp),heap_alloc_at (by simp)]
def OG(B r:Nat)(toks:List bi)(f:Nat):Prop:=∀(i o j:Nat) (t:ag) (w:World),Lj toks f i=some (t,j)->ca B w r toks i o->o+f<=118->
 Calls Tryz.prog 89 #[.pointer (some ⟨r,0,none⟩)] w (d8 B r toks t j o w)
theorem QU(B r:Nat)(toks:List bi)(f:Nat)(hF:ii toks):OG B r toks f:=by
 intro i o j t w hp h hf;unfold Lj at hp;by_cases hfn:a8 toks i [102,117,110,99]=true;rotate_left
 .rw[if_neg hfn] at hp;simp at hp
 rw[if_pos hfn] at hp;cases hk:y9 toks (i+1) 1 with
 |none=>rw[hk] at hp;simp at hp
 |some s=>
 rw[hk] at hp;simp only[] at hp;by_cases h40:a8 toks (i+2) [40]=true;rotate_left
 .rw[if_neg h40] at hp;simp at hp
 rw[if_pos h40] at hp;cases hq:Js toks f (!a8 toks (i+3) [41]) [] (i+3) with
 |none=>rw[hq] at hp;simp at hp
 |some x=>
 obtain⟨kz,jz⟩:=x;rw[hq] at hp;simp only[] at hp;by_cases h41:a8 toks jz [41]=true;rotate_left
 .rw[if_neg h41] at hp;simp at hp
 rw[if_pos h41] at hp;cases hbk:JT toks f (jz+1) with
 |none=>rw[hbk] at hp;simp at hp
 |some x=>
 obtain⟨eb,jb⟩:=x;rw[hbk] at hp;simp only[Option.some.injEq,Prod.mk.injEq] at hp;obtain⟨e1,e2⟩:=hp;subst e1 e2;have HQ:=ab hq;have HK:=ab hk;have HBK:=ab hbk;have HS:=ab h;have HFN:=ab hF;have HFU:Hid (a8 toks i (bl ⟨#[102,117,110,99]⟩)=true):=hfn;have H40:Hid (a8 toks (i+2) (bl ⟨#[40]⟩)=true):=h40;have H41:Hid (a8 toks jz (bl ⟨#[41]⟩)=true):=h41;have HL:Hid (s.length<=100000):=by obtain⟨t,h1,h2,h3⟩:=J8 hk;rw[<-h3];exact hF.tx t (List.mem_of_getElem? h1)
 have hrl:r<w.heap.size:=fJ h.rB h.wB;have hrne:w.heap.size≠r:=h.ne;clear hq h41 h40 h hF hk hbk hfn;have HB1:Hid (Below w.heap.size w (w.alloc (.cells Z4 25))):=bz_alloc (ai _ _) _;have HS0:=ab (HS.out.own (HB1.out.mono HS.out.wB));have HX0:Hid ((w.alloc (.cells Z4 25)).heap[w.heap.size]? =some (.cells Z4 25 (0,0))):=heap_alloc_new _ _
 go_in
 go_wp2_with fail;refine(Km B toks r i o _ _ HS0.out HFN.out HFU.out).mono ?_;rintro en w1 ⟨rfl,hr,hs⟩;have HX1:=ab (hr.box HX0.out hrne);have HS1:=ab hs;have HR1:=ab ((a9.below HB1.out).trans hr);clear hr hs;go_wp2_with fail;refine(Lp B toks r (i+1) o 2 s _ HS1.out HFN.out HK.out (by omega)).mono ?_;rintro en w2 ⟨hr,hs,A3,c3,he,hn3⟩;obtain rfl:en= .returned (.agg #[.int .u8 2,.string (sb s),.int .i64 0,.slice A3 0 c3]):=he;have HX2:=ab (hr.box HX1.out hrne);have HS2:=ab hs;have HR2:=ab (HR1.out.trans hr);have hsz2:=(aK.1 HX2.out).1;have hne2:=HS2.out.ne;have hrl2:=HS2.out.rB;have hrw2:=HS2.out.wB;clear hr hs hn3;have hb3:Below w2.heap.size w2 ((w2.alloc (.cells #[.int .u8 2,.string (sb s),.int .i64 0,.slice A3 0 c3] 25)).alloc (.cells #[.int .u8 3,.string ⟨#[]⟩,.int .i64 0,.slice none 0 0] 25)):=bz_alloc (bz_alloc (ai _ _) _) _;have HG3:Hid (v8 B r toks w w2.heap.size (w2.heap.size+1) s A3 c3 (i+2) o [] (.slice none 0 0) ((w2.alloc (.cells #[.int .u8 2,.string (sb s),.int .i64 0,.slice A3 0 c3] 25)).alloc (.cells #[.int .u8 3,.string ⟨#[]⟩,.int .i64 0,.slice none 0 0] 25))):=
  ⟨HS2.out.own (hb3.mono HS2.out.wB),HR2.out.trans (a9.below hb3),(hb3.block _ hsz2).trans HX2.out,(heap_alloc_old _ _ (by simp)).trans (heap_alloc_new _ _),heap_alloc_at (by simp),jg.start _ _ _⟩
 clear hb3;go_wp2_with fail;refine(Mm B toks r (i+2) o _ _ HG3.out.rs HFN.out H40.out (by omega)).mono ?_;rintro en w3 ⟨rfl,hr,hs⟩;have HG4:=ab (HG3.out.rds hr hs hrne hne2 (by omega));clear hr hs;go_wp2_with fail;refine(fh B toks r (i+3) (o+1) ⟨#[41]⟩ _ HG4.out.rs).mono ?_;rintro en w3b ⟨rfl,hb⟩;have HG5:=ab (HG4.out.below hb);clear hb;have HQ2:Hid (Js toks f (!a8 toks (i+3) (bl ⟨#[41]⟩)) [] (i+3)=some (kz,jz)):=HQ.out;obtain⟨b,hb⟩:∃b,a8 toks (i+3) (bl ⟨#[41]⟩)=b:=⟨_,rfl⟩;rw[hb];rw[show(a8 toks (i+3) (bl ⟨#[41]⟩))=b from hb] at HQ2;clear hb;go_wp2_with fail
 go_loopg [5] f (fun k b' wr=>∃(i':Nat) (bb:Bool) (ks:List ag) (v:Value),b'= .bool bb/\Hid (Js toks k bb ks i'=some (kz,jz))/\Hid (ks.length+k<=f)/\Hid (v8 B r toks w w2.heap.size (w2.heap.size+1) s A3 c3 i' (o+1) ks v wr))
 case atStart=>exact⟨i+3,!b,[],.slice none 0 0,rfl,HQ2,by show _<=_;simp,HG5⟩
 case round=>
  obtain⟨i',bb,ks,v,rfl,HPA,HKL,HG⟩:=hrel;obtain⟨k,rfl⟩:∃k,gk=k+1:=by have h:=HPA.out;cases gk with|zero=>simp[Js] at h|succ k=>exact⟨k,rfl⟩
  have h3:=HG.out.rs.c3;cases bb with
  |false=>
   have hpa:=HPA.out;rw[Js] at hpa;simp only[Option.some.injEq,Prod.mk.injEq] at hpa;obtain⟨e1,e2⟩:=hpa;subst e1 e2;go_wp2_with fail;refine(Mo B toks r i' o _ _ HG.out.rs HFN.out H41.out).mono ?_;rintro en w4 ⟨rfl,hr,hs⟩;have HG6:=ab (HG.out.rds hr hs hrne hne2 (by omega));clear hr hs;go_wp2_with fail;refine((Rz B r toks HFN.out f).2 (i'+1) o jb eb _ HBK.out HG6.out.rs (by omega)).mono ?_;rintro en w6 ⟨hr,hs,A6,c6,rfl,hn6⟩;have hszy:=(aK.1 HG6.out.y).1;have HG7:=ab (HG6.out.rds hr hs hrne hne2 (by omega));have HN7:Hid (cf (cX w6 (w2.heap.size+1)) eb eb.kind (sb eb.text) eb.num A6 eb.kids.length c6):=hn6.sinceLow (by omega);clear hr hs hn6;have hb8:Below w6.heap.size w6 (w6.alloc (.cells #[.int .u8 eb.kind,.string (sb eb.text),.int .i64 eb.num,.slice A6 eb.kids.length c6] 25)):=bz_alloc (ai _ _) _;have HG8:=ab (HG7.out.below hb8);have HN8:=ab (HN7.out.sinceBelow hb8);clear hb8;obtain⟨A,c,rfl,hnd⟩:=HG8.out.l.node (k:=3) (s:=[]) (x:=0) (by omega) (by simp) (by unfold tw;omega);have HP8:=ab hnd;clear hnd;obtain⟨c0,c1,c2,c3',f0,f1,f2,f3⟩:=di HG7.out.x;obtain⟨d0,d1,d2,d3,g0,g1,g2,g3⟩:=di HG7.out.f;obtain⟨p0,p1,p2,p3,q0,q1,q2,q3⟩:=di HG7.out.y;have hszy7:=(aK.1 HG7.out.y).1;have hszf7:=(aK.1 HG7.out.f).1;have hszx7:=(aK.1 HG7.out.x).1;have hB:=HS.out.wB;have hb9:Below (w.heap.size+1) w6 (w6.setCell ⟨w2.heap.size,3,none⟩ (.slice (some ⟨w6.heap.size+1,0,none⟩) 2 2)):=(ai _ _).setCell (p:=⟨_,_,none⟩) (by dsimp only;omega) _;have HS9:=ab (HG7.out.rs.own (hb9.mono (by omega)));have HR9:=ab (HG7.out.rd.below' hb9 (by omega));have HC0:=ab (JC hb9 c0);have HC1:=ab (JC hb9 c1);have HC2:=ab (JC hb9 c2);have HC3:=ab (JC hb9 c3');clear hb9;have hold:∀q,(w2.heap.size+1)<=q->q< (w6.alloc (.cells #[.int .u8 eb.kind,.string (sb eb.text),.int .i64 eb.num,.slice A6 eb.kids.length c6] 25)).heap.size->(((w6.setCell ⟨w2.heap.size,3,none⟩ (.slice (some ⟨w6.heap.size+1,0,none⟩) 2 2)).alloc (.cells #[.int .u8 eb.kind,.string (sb eb.text),.int .i64 eb.num,.slice A6 eb.kids.length c6] 25)).alloc (.cells #[.int .u8 3,.string ⟨#[]⟩,.int .i64 0,.slice A ks.length c,.int .u8 eb.kind,.string (sb eb.text),.int .i64 eb.num,.slice A6 eb.kids.length c6] 25)).heap[q]? =(w6.alloc (.cells #[.int .u8 eb.kind,.string (sb eb.text),.int .i64 eb.num,.slice A6 eb.kids.length c6] 25)).heap[q]? :=fun q h1 h2=>by
    simp only[World.size_alloc] at h2;rcases Nat.lt_or_ge q w6.heap.size with hq|hq
    .rw[heap_alloc_old _ _ (by simp;omega),heap_alloc_old _ _ (by simpa using hq),heap_alloc_old _ _ hq,aY _ _ _ _ (show q≠w2.heap.size by omega)]
    .obtain rfl:q=w6.heap.size:=(by omega);rw[heap_alloc_old _ _ (by simp),heap_alloc_at (by simp),heap_alloc_new]
   have HNE:=ab (HN8.out.sinceOf (N':=w.heap.size+1) (by omega) hold);have HNP:=ab (HP8.out.sinceOf (N':=w.heap.size+1) (by omega) hold);have HV:Hid ((((w6.setCell ⟨w2.heap.size,3,none⟩ (.slice (some ⟨w6.heap.size+1,0,none⟩) 2 2)).alloc (.cells #[.int .u8 eb.kind,.string (sb eb.text),.int .i64 eb.num,.slice A6 eb.kids.length c6] 25)).alloc (.cells #[.int .u8 3,.string ⟨#[]⟩,.int .i64 0,.slice A ks.length c,.int .u8 eb.kind,.string (sb eb.text),.int .i64 eb.num,.slice A6 eb.kids.length c6] 25)).heap[w6.heap.size+1]? =some (.cells #[.int .u8 3,.string ⟨#[]⟩,.int .i64 0,.slice A ks.length c,.int .u8 eb.kind,.string (sb eb.text),.int .i64 eb.num,.slice A6 eb.kids.length c6] 25 (0,0))):=heap_alloc_at (by simp);have HK9:=ab (PH (t:=.node 3 [] 0 ks) (show w.heap.size+1<=w6.heap.size+1 by omega) HV.out HNP.out HNE.out);clear hold;go_wp2_with fail;obtain⟨a0,a1,a2,a3⟩:=mL (v0:=.int .u8 2) (v1:=.string (sb s)) (v2:=.int .i64 0) (v3:=.slice (some ⟨w6.heap.size+1,0,none⟩) 2 2) HC0.out HC1.out HC2.out HC3.out;have hbb:=fun(W:World) (O O2:Obj)=>show Below W.heap.size W ((W.alloc O).alloc O2) from bz_alloc (bz_alloc (ai _ _) _) _;have A0:=ab (ac (hbb _ (.cells #[.int .u8 eb.kind,.string (sb eb.text),.int .i64 eb.num,.slice A6 eb.kids.length c6] 25) (.cells #[.int .u8 3,.string ⟨#[]⟩,.int .i64 0,.slice A ks.length c,.int .u8 eb.kind,.string (sb eb.text),.int .i64 eb.num,.slice A6 eb.kids.length c6] 25)) a0);have A1:=ab (ac (hbb _ (.cells #[.int .u8 eb.kind,.string (sb eb.text),.int .i64 eb.num,.slice A6 eb.kids.length c6] 25) (.cells #[.int .u8 3,.string ⟨#[]⟩,.int .i64 0,.slice A ks.length c,.int .u8 eb.kind,.string (sb eb.text),.int .i64 eb.num,.slice A6 eb.kids.length c6] 25)) a1);have A2:=ab (ac (hbb _ (.cells #[.int .u8 eb.kind,.string (sb eb.text),.int .i64 eb.num,.slice A6 eb.kids.length c6] 25) (.cells #[.int .u8 3,.string ⟨#[]⟩,.int .i64 0,.slice A ks.length c,.int .u8 eb.kind,.string (sb eb.text),.int .i64 eb.num,.slice A6 eb.kids.length c6] 25)) a2);have A9:=ab (ac (hbb _ (.cells #[.int .u8 eb.kind,.string (sb eb.text),.int .i64 eb.num,.slice A6 eb.kids.length c6] 25) (.cells #[.int .u8 3,.string ⟨#[]⟩,.int .i64 0,.slice A ks.length c,.int .u8 eb.kind,.string (sb eb.text),.int .i64 eb.num,.slice A6 eb.kids.length c6] 25)) a3);exact bodyPost_ret (v:=.agg #[.int .u8 2,.string (sb s),.int .i64 0,.slice (some ⟨w6.heap.size+1,0,none⟩) 2 2]) (by simp[results,Tryz.results89,go_sem,A0.out,A1.out,A2.out,A9.out]) rfl (d8.putA2 (t:=.node 2 s 0 [.node 3 [] 0 ks,eb]) HR9.out HS9.out HS.out.wB (by simp;omega) (La (by omega) HL.out HK9.out) _ _ _ _)
  |true=>
   have hpa:=HPA.out;rw[Js] at hpa;cases hpr:y9 toks i' 1 with
   |none=>rw[hpr] at hpa;simp at hpa
   |some s1=>
   rw[hpr] at hpa;simp only[] at hpa;have HPR:=ab hpr;have HPN:=ab hpa;have HL1:Hid (s1.length<=100000):=by obtain⟨t,h1,h2,h3⟩:=J8 hpr;rw[<-h3];exact HFN.out.tx t (List.mem_of_getElem? h1)
   clear hpr hpa;go_wp2_with fail;refine(Lp B toks r i' (o+1) 4 s1 _ HG.out.rs HFN.out HPR.out (by omega)).mono ?_;rintro en w4 ⟨hr,hs,A4,c4,he,hn4⟩;obtain rfl:en= .returned (.agg #[.int .u8 4,.string (sb s1),.int .i64 0,.slice A4 0 c4]):=he;have HN4:Hid (cf (cX w4 wr.heap.size) (.node 4 s1 0 []) 4 (sb s1) 0 A4 0 c4):=hn4;have hszy:=(aK.1 HG.out.y).1;have hszr:=hr.size;have HLT:=ab HG.out.l.lt;have HG4:=ab (HG.out.rds hr hs hrne hne2 (by omega));clear hr hs hn4;have hbA:Below w4.heap.size w4 ((w4.alloc (.cells #[.int .u8 4,.string (sb s1),.int .i64 0,.slice A4 0 c4] 25)).alloc (.cells #[.int .u8 4,.string (sb s1),.int .i64 0,.slice A4 0 c4] 25)):=bz_alloc (bz_alloc (ai _ _) _) _;have HGA:=ab (HG4.out.below hbA);have HNA:Hid (cf (cX ((w4.alloc (.cells #[.int .u8 4,.string (sb s1),.int .i64 0,.slice A4 0 c4] 25)).alloc (.cells #[.int .u8 4,.string (sb s1),.int .i64 0,.slice A4 0 c4] 25)) wr.heap.size) (.node 4 s1 0 []) 4 (sb s1) 0 A4 0 c4):=HN4.out.sinceBelow hbA;clear hbA;obtain⟨xs,ho,hcs,hne⟩:=HGA.out.l;have HOW:=ab ho;have HCS:=ab hcs;have HNE:=ab hne;clear ho hcs hne;obtain⟨d0,d1,d2,d3,g0,g1,g2,g3⟩:=di HG4.out.y;have hlen:ks.length<=1000:=(by have:=HKL.out;omega);have hsz4:=(aK.1 HG4.out.y).1;have hszf:=(aK.1 HG4.out.f).1;have hszx:=(aK.1 HG4.out.x).1;go_wp2_with (at_builtin;go_must (refine pj _ rfl _ _ rfl (w2.heap.size+1) v ks.length xs rfl HOW.out (w4.heap.size+1) 1 (.node 4 s1 0 []) A4 c4 rfl (heap_alloc_at (by simp)) (by omega) (by simp;omega) ?_);intro g cap w5 ho5 hg5 hd5;obtain⟨p0,p1,p2,p3,q0,q1,q2,q3⟩:=di ((hg5.block (w2.heap.size+1) (by simp;omega) (fun e=>HNE.out e.symm)).trans HGA.out.y));have HL5:=ab (jg.push HOW.out HCS.out HNE.out HNA.out (by omega) hszy (by simp;omega) HLT.out ho5 hg5 hd5);have HB5:=ab (Ee HOW.out hg5 (ah _) (by simp;omega));have hy5:w5.heap[(w2.heap.size+1)]? =some (.cells #[.int .u8 3,.string ⟨#[]⟩,.int .i64 0,v] 25 (0,0)):=(hg5.block (w2.heap.size+1) (by simp;omega) (fun e=>HNE.out e.symm)).trans HGA.out.y;have hB:B<=w.heap.size:=HS.out.wB;have HB6:Hid (Below (w2.heap.size+1) w5 (w5.setCell ⟨w2.heap.size+1,3,none⟩ (.slice (some ⟨g,0,none⟩) (ks.length+1) cap))):=(ai _ _).setCell (p:=⟨_,_,none⟩) (ah _) _;have HG6:Hid (v8 B r toks w w2.heap.size (w2.heap.size+1) s A3 c3 (i'+1) (o+1) (ks++[.node 4 s1 0 []]) (.slice (some ⟨g,0,none⟩) (ks.length+1) cap) (w5.setCell ⟨w2.heap.size+1,3,none⟩ (.slice (some ⟨g,0,none⟩) (ks.length+1) cap))):=by have hb:=HB5.out.trans HB6.out;refine⟨HGA.out.rs.own (hb.mono (by omega)),HGA.out.rd.below' hb (by omega),(hb.block _ (by omega)).trans HGA.out.x,(hb.block _ (by omega)).trans HGA.out.f,?_,HL5.out.keep fun q _ h2 _=>aY _ _ _ _ h2⟩;simp[World.setCell,Array.getElem?_modify,hy5]
   clear ho5 hg5 hd5 hy5 p0 p1 p2 p3 q0 q1 q2 q3;refine(fh B toks r (i'+1) (o+1) ⟨#[44]⟩ _ HG6.out.rs).mono ?_;rintro en w7 ⟨rfl,hb7⟩;have HG7:=ab (HG6.out.below hb7);clear hb7;have HPN2:Hid (Js toks k (a8 toks (i'+1) (bl ⟨#[44]⟩)) (ks++[.node 4 s1 0 []]) (if a8 toks (i'+1) (bl ⟨#[44]⟩) then i'+2 else i'+1)=some (kz,jz)):=HPN.out;have HNX:Hid (a8 toks (i'+1) (bl ⟨#[44]⟩)=true->i'+2<toks.length):=fun h=>HFN.out.next h;obtain⟨b1,hb1⟩:∃b,a8 toks (i'+1) (bl ⟨#[44]⟩)=b:=⟨_,rfl⟩;rw[show(a8 toks (i'+1) (bl ⟨#[44]⟩))=b1 from hb1] at HPN2 HNX;rw[hb1];clear hb1;cases b1 with
   |false=>
    go_wp2
    go_roundg k
    case measure=>exact Nat.lt_succ_self k
    case rel=>exact⟨i'+1,false,ks++[.node 4 s1 0 []],_,rfl,HPN2,by have:=HKL.out;show _<=_;rw[CD];simp;omega,HG7⟩
   |true=>
    have h1:=HG7.out.rs.c1;have hf1:=HG7.out.rs.fz 1;have hlen7:=HG7.out.rs.len;have hi7:=HG7.out.rs.hi;have hG9:=HG7.out.at (i2:=i'+1+1) (HNX.out rfl) hrne hne2 (by omega);rw[show((((i'+1+1:Nat)):Int))=(i':Int)+1+1 from by omega] at hG9;have HG9:=ab hG9;clear hG9;go_wp2
    go_roundg k
    case measure=>exact Nat.lt_succ_self k
    case rel=>exact⟨i'+1+1,true,ks++[.node 4 s1 0 []],_,rfl,HPN2,by have:=HKL.out;show _<=_;rw[CD];simp;omega,HG9⟩
def Jy(w:World)(r:ib)(e:Ending)(w':World):Prop:=
 Below w.heap.size w w'/\match r with
  | .ok ts=>∃v,e= .returned (.tuple #[v,.agg #[.int .i64 0,.int .i64 0]])/\w'.ownsRow w.heap.size 115 3 v ts.length (r8 ts)
  | .error (er,p)=>e= .returned (.tuple #[.slice none 0 0,.agg #[.int .i64 er,.int .i64 p]])
abbrev Ka(w:World):World:=w.alloc (.cells #[.int .i64 0,.int .i64 0] 76)
structure kg (s:ByteArray) (w wr:World) (k:Nat) (ts:List bi) (v:Value):Prop where
 le:k<=s.size
 run:Kb (bl s)=ib.push ts (fa k ((bl s).drop k))
 own:wr.ownsRow (w.heap.size+1) 115 3 v ts.length (r8 ts)
 few:ts.length<=k
 below:Below (w.heap.size+1) (Ka w) wr
theorem Tryz.infoTok:(Tryz.prog.info? 115).map (fun i=>(i.zero,i.size,i.bytes))=some (some (.agg #[.int .u8 0,.string ByteArray.empty,.int .i64 0]),3,32):=by kernel_rfl
theorem kg.start(s:ByteArray)(w:World):kg s w (Ka w) 0 [] (.slice none 0 0):=
 ⟨aE _,by rw[ib.push_nil];rfl,World.ownsRow_nil _ _ _ _,ah _,ai _ _⟩
theorem kg.skip{s:ByteArray}{w wr wr':World}{k m:Nat}{ts:List bi}{v:Value}(h:kg s w wr k ts v)(hm:k<=m)(hs:m<=s.size)(hl:fa k ((bl s).drop k)=fa m ((bl s).drop m))(ho:wr'.ownsRow (w.heap.size+1) 115 3 v ts.length (r8 ts))(hb:Below (w.heap.size+1) (Ka w) wr'):kg s w wr' m ts v:=
 ⟨hs,by rw[<-hl];exact h.run,ho,aJ h.few hm,hb⟩
theorem RN(t:bi):∀u∈Ks t,u.oneCell'=true:=by intro u hu;simp[Ks] at hu;rcases hu with rfl|rfl|rfl<;>rfl
theorem KR{ops:Array Oper}{rest:List Oper}{o:Oper}{a:Act}{Q:Exit->Act->World->Prop}(w:World)(hgd:o.guard=none)(s x:Operand)(ho:o.op= .call { callee:=.builtin .append,args:=#[s,x],argTypes:=#[107,107] })(base:Nat)(v:Value)(ts:List bi)(hs:a.eval s=v)(hown:w.ownsRow base 115 3 v ts.length (r8 ts))(Bk c:Nat)(t:bi)(hx:a.eval x= .slice (some ⟨Bk,0,none⟩) 1 c)(hblk:w.heap[Bk]? =some (.cells (Ks t).toArray 115 (0,0)))(hfew:ts.length<=2147483648)(hbase:base<=w.heap.size)(h:∀v' w',w'.ownsRow base 115 3 v' (ts++[t]).length (r8 (ts++[t]))->w.grownBy w' v.ownBlock->wpList Tryz.prog ops Q rest (a.put o.dst v') w'):wpList Tryz.prog ops Q (o::rest) a w:=by
 obtain⟨i0,hi,hz0,hz1,hz2⟩:=info_parts Tryz.infoTok;refine wpList_append_lies w hgd s x _ ho base 115 i0 _ 3 32 Tryz.underlying107 hi hz0 hz1 hz2 rfl (by omega) v ts.length (r8 ts) hs hown ⟨Bk,0,none⟩ 1 c (Ks t) hx rfl
  (fun j u hu=>World.news_of_block hblk j u (by simpa using hu)) (RN t) (by omega) (by unfold maxLen;omega) (by omega) hbase _ rfl ?_
 intro g cap w' hown' hgr hat hlt;refine h _ w' ?_ hgr;rw[RM,CD];exact hown'
structure Lz (F:Nat) (w':World):Prop where
 c0:w'.cell? ⟨F,0,none⟩=some (.int .i64 0)
 c1:w'.cell? ⟨F,1,none⟩=some (.int .i64 0)
 f0:w'.frozen? ⟨F,0,none⟩=false
 f1:w'.frozen? ⟨F,1,none⟩=false
theorem faultIn{w w':World}(hb:Below (w.heap.size+1) (Ka w) w'):Lz w.heap.size w':=by
 refine⟨?_,?_,?_,?_⟩
 .rw[hb.cell (p:=⟨w.heap.size,0,none⟩) (by simp)];simp
 .rw[hb.cell (p:=⟨w.heap.size,1,none⟩) (by simp)];simp
 .rw[hb.frozen (p:=⟨w.heap.size,0,none⟩) (by simp)];simp
 .rw[hb.frozen (p:=⟨w.heap.size,1,none⟩) (by simp)];simp
theorem MP{s:ByteArray}{k m:Nat}(hk:k<s.size)(hkm:k<=m)(hm:m<=s.size)(hc:(bl ⟨#[47,47]⟩).isPrefixOf ((bl s).drop k)=true)(he:∀h:m<s.size,s[m].toNat=10):k<m:=by
 rcases Nat.lt_or_ge k m with h|h
 .exact h
 .obtain rfl:k=m:=(by omega);have h1:=he hk;rw[uu s k hk] at hc;have h2:(47:UInt8)=s[k]:=by have:([47,47]:ar).isPrefixOf (s[k] :: (bl s).drop (k+1))=true:=hc;simp[List.isPrefixOf] at this;exact this.1
  rw[<-h2] at h1;exact absurd h1 (by decide)
theorem PO(w:World):Below w.heap.size w (Ka w):=(ai _ _).alloc (ah _) _
theorem kg.old{s:ByteArray}{w wr:World}{k:Nat}{ts:List bi}{v:Value}(h:kg s w wr k ts v):Below w.heap.size w wr:=
 (PO w).trans (h.below.mono (by omega))
theorem kg.room{s:ByteArray}{w wr:World}{k:Nat}{ts:List bi}{v:Value}(h:kg s w wr k ts v):w.heap.size+1<=wr.heap.size:=by have:=h.below.size;simpa[Ka] using this
theorem kg.next{s:ByteArray}{w wr w1 w2:World}{k m:Nat}{ts:List bi}{v v':Value}{t:bi}(h:kg s w wr k ts v)(hb:Below wr.heap.size wr w1)(hg:w1.grownBy w2 v.ownBlock)(ho:w2.ownsRow (w.heap.size+1) 115 3 v' (ts++[t]).length (r8 (ts++[t])))(hl:fa k ((bl s).drop k)=ib.push [t] (fa m ((bl s).drop m)))(hkm:k<m)(hm:m<=s.size):kg s w w2 m (ts++[t]) v':=by
 have hr:=h.room;have h1:=bM h.own hb (ah _);have h2:=Ee h1 hg (ah _) (aJ hr hb.size);refine⟨hm,?_,ho,?_,(h.below.trans (hb.mono hr)).trans h2⟩
 .rw[h.run,hl,ib.push_push]
 .have:=h.few;simp;omega
theorem kg.faultIn{s:ByteArray}{w wr w1:World}{k:Nat}{ts:List bi}{v:Value}(h:kg s w wr k ts v)(hb:Below wr.heap.size wr w1):Lz w.heap.size w1:=
 Go.Proofs.YtfipahjodfminaaGreatDoor.faultIn (h.below.trans (hb.mono h.room))
theorem kg.fault2{s:ByteArray}{w wr w1 w2:World}{k:Nat}{ts:List bi}{v:Value}(h:kg s w wr k ts v)(hb:Below wr.heap.size wr w1)(hg:w1.grownBy w2 v.ownBlock):Lz w.heap.size w2:=
 Go.Proofs.YtfipahjodfminaaGreatDoor.faultIn ((h.below.trans (hb.mono h.room)).trans (Ee (bM h.own hb (ah _)) hg (ah _) (aJ h.room hb.size)))
theorem MO{w w2:World}(h:Below w.heap.size w w2)(x0 x1:Value):Below w.heap.size w ((w2.setCell ⟨w.heap.size,0,none⟩ x0).setCell ⟨w.heap.size,1,none⟩ x1):=
 (h.setCell (p:=⟨w.heap.size,0,none⟩) (ah _) _).setCell (p:=⟨w.heap.size,1,none⟩) (ah _) _
theorem Jy.done{s:ByteArray}{w wr w1 w2:World}{ts:List bi}{v v':Value}(h:kg s w wr s.size ts v)(hown:w2.ownsRow (w.heap.size+1) 115 3 v' (ts++[(⟨5,[],s.size⟩:bi)]).length (r8 (ts++[⟨5,[],s.size⟩])))(hb:Below wr.heap.size wr w1)(hgr:w1.grownBy w2 v.ownBlock)(x0 x1:Value):Jy w (Kb (bl s)) (.returned (.tuple #[v',.agg #[.int .i64 0,.int .i64 0]])) ((w2.setCell ⟨w.heap.size,0,none⟩ x0).setCell ⟨w.heap.size,1,none⟩ x1):=by
 have h2:=Ee (bM h.own hb (ah _)) hgr (B:=w.heap.size) (by omega) (aJ (by have:=h.room;omega) hb.size);have hbw:Below w.heap.size w w2:=(h.old.trans (hb.mono (by have:=h.room;omega))).trans h2;refine⟨MO hbw _ _,?_⟩;have e:(bl s).drop s.size=[]:=List.drop_eq_nil_of_le (by rw[dt];exact ah _);rw[h.run,e,PR];refine⟨v',rfl,?_⟩;refine dk (re (re hown ?_ _) ?_ _) (by omega)
 .intro e;have:=(hown.lt _ e).1;simp at this;omega
 .intro e;have:=(hown.lt _ e).1;simp at this;omega
theorem Jy.bad{s:ByteArray}{w wr w1:World}{k er:Nat}{ts:List bi}{v:Value}(h:kg s w wr k ts v)(hb:Below wr.heap.size wr w1)(hl:fa k ((bl s).drop k)= .error (er,k))(x0 x1:Value):Jy w (Kb (bl s)) (.returned (.tuple #[.slice none 0 0,.agg #[.int .i64 er,.int .i64 k]])) ((w1.setCell ⟨w.heap.size,0,none⟩ x0).setCell ⟨w.heap.size,1,none⟩ x1):=by have hbw:Below w.heap.size w w1:=h.old.trans (hb.mono (by have:=h.room;omega));refine⟨MO hbw _ _,?_⟩;rw[h.run,hl];rfl
structure Ja (s:ByteArray) (wr wx:World) (k:Nat) (A:Option Addr) (j kd:Nat) (tx:ar):Prop where
 below:Below wr.heap.size wr wx
 row:xx wx A 23 zd
 box:wx.heap[wr.heap.size]? =some (.cells #[.int .u8 kd,.string (sb tx),.int .i64 k] 115 (0,0))
 far:∀ad,A=some ad->ad.block≠wr.heap.size
theorem Ja.size{s:ByteArray}{wr wx:World}{k:Nat}{A:Option Addr}{j kd:Nat}{tx:ar}(h:Ja s wr wx k A j kd tx):wr.heap.size+1<=wx.heap.size:=by
 have:=h.box;rcases Nat.lt_or_ge wr.heap.size wx.heap.size with h|h
 .exact h
 .rw[Array.getElem?_eq_none h] at this;cases this
theorem Ja.move{s:ByteArray}{wr wx:World}{k:Nat}{A:Option Addr}{j kd j':Nat}{tx:ar}(h:Ja s wr wx k A j kd tx):Ja s wr wx k A j' kd tx:=⟨h.below,h.row,h.box,h.far⟩
theorem Ja.found{s:ByteArray}{wr wx:World}{k:Nat}{A:Option Addr}{j:Nat}{tx u:ar}(h:Ja s wr wx k A j 0 tx):Ja s wr ((wx.setCell ⟨wr.heap.size,1,none⟩ (.string (sb u))).setCell ⟨wr.heap.size,0,none⟩ (.int .u8 4)) k A (j+1) 4 u:=by
 refine⟨(h.below.setCell (p:=⟨wr.heap.size,1,none⟩) (ah _) _).setCell (p:=⟨wr.heap.size,0,none⟩) (ah _) _,?_,?_,h.far⟩
 .exact(h.row.set_ (fun ad e=>h.far ad e) _).set_ (fun ad e=>h.far ad e) _
 .simp[World.setCell,Array.getElem?_modify,h.box]
theorem Q4(s:ByteArray)(w:World)(hs:s.size<=1073741824):Calls Tryz.prog 88 #[.string s] w (Jy w (Kb (bl s))):=by
 go_in
 go_wp2;go_loopw [4,5] (fun v i wr=>∃k ts,i= .int .i64 (k:Nat)/\Hid (kg s w wr k ts v)) (fun _ i _=>s.size - (intOf i).toNat);case atStart=>exact⟨0,[],rfl,kg.start _ _⟩
 case round=>
  obtain⟨k,ts,rfl,HI⟩:=hrel;have hk:=HI.out.le;by_cases hlt:k<s.size
  .cases hb:Jb s[k] with
   |true=>
    have HB:=ab hb;have HL:=ab (Pt hlt hb k);clear hb;go_wp2_with (go_at_call 138;refine(Mn _ _).mono ?_;rintro e w' ⟨rfl,rfl⟩;rw[HB.out]);go_roundw;case rel=>exact⟨k+1,ts,by go_num,HI.out.skip (by omega) (by omega) HL.out HI.out.own HI.out.below⟩
    case measure=>simp[intOf];omega
   |false=>
    have HB:=ab hb;cases hc:(bl ⟨#[47,47]⟩).isPrefixOf ((bl s).drop k) with
    |true=>
     have HC:=ab hc;clear hb hc;go_wp2_with (first|(go_at_call 138;refine(Mn _ _).mono ?_;rintro e w' ⟨rfl,rfl⟩;rw[HB.out])|(go_at_call 139;refine(Ln _ _ _ _ (by omega) (by omega) (by decide)).mono ?_;rintro e w' ⟨rfl,rfl⟩;rw[HC.out]))
     go_loop [5] (fun i=>∃m:Nat,k<=m/\m<=s.size/\i= .int .i64 m/\Hid (r9 (fun c=>c.toNat != 10) s k m)) (fun i=>s.size - (intOf i).toNat)
     case atStart=>exact⟨k,ah _,hk,rfl,r9.start hk⟩
     case round=>
      obtain⟨m,hkm,hm,rfl,HS⟩:=hrel;by_cases hml:m<s.size
      .by_cases hn:s[m].toNat=10
       .have HE:Hid (fa k ((bl s).drop k)=fa m ((bl s).drop m)):=by have:=Nn hlt HC.out HS.out (fun _=>by simp[hn]) k;rw[show k+(m - k)=m from by omega] at this;exact this
        have hn1:((s[m].toNat:Int) != 10)=false:=(by simp[hn]);have hkm':=MP hlt hkm hm HC.out (fun _=>hn);clear hn;go_wp2;go_roundw;case rel=>exact⟨m,ts,rfl,HI.out.skip (by omega) (by omega) HE.out HI.out.own HI.out.below⟩
        case measure=>simp[intOf];omega
       .have HN:=ab (HS.out.step hml (by simp[hn]));have hn1:((s[m].toNat:Int) != 10)=true:=(by simp;omega);clear hn;go_wp2
        go_round
        case rel=>exact⟨m+1,by omega,by omega,by go_num,HN⟩
        case measure=>simp[intOf];omega
      .have HE:Hid (fa k ((bl s).drop k)=fa m ((bl s).drop m)):=by have:=Nn hlt HC.out HS.out (fun h=>absurd h hml) k;rw[show k+(m - k)=m from by omega] at this;exact this
       have hkm':=MP hlt hkm hm HC.out (fun h=>absurd h hml);go_wp2;go_roundw;case rel=>exact⟨m,ts,rfl,HI.out.skip (by omega) (by omega) HE.out HI.out.own HI.out.below⟩
       case measure=>simp[intOf];omega
    |false=>
     have HC:=ab hc;clear hb hc
     go_upto_block 4 with (first|(go_at_call 138;refine(Mn _ _).mono ?_;rintro e w' ⟨rfl,rfl⟩;rw[HB.out])|(go_at_call 139;refine(Ln _ _ _ _ (by omega) (by omega) (by decide)).mono ?_;rintro e w' ⟨rfl,rfl⟩;rw[HC.out]))
     go_cut [6] (fun i wx=>∃m:Nat,k<=m/\m<=s.size/\i= .int .i64 m/\wr=wx/\Hid (r9 eI s k m)/\Hid (∀h:m<s.size,eI s[m]=false));case first=>
      go_wp2
      go_loop [6] (fun i=>∃m:Nat,k<=m/\m<=s.size/\i= .int .i64 m/\Hid (r9 eI s k m)) (fun i=>s.size - (intOf i).toNat)
      case atStart=>exact⟨k,ah _,hk,rfl,r9.start hk⟩
      case round=>
       obtain⟨m,hkm,hm,rfl,HS⟩:=hrel;by_cases hml:m<s.size
       .cases hl:gh s[m] with
        |true=>
         have HL:=ab hl;have HN:=ab (HS.out.step hml (by simp[eI,hl]));clear hl;go_wp2_with (go_at_call 140;refine(Jv _ _).mono ?_;rintro e w' ⟨rfl,rfl⟩;rw[HL.out])
         go_round
         case rel=>exact⟨m+1,by omega,by omega,by go_num,HN⟩
         case measure=>simp[intOf];omega
        |false=>
         have HL:=ab hl;cases hd:lp s[m] with
         |true=>
          have HD:=ab hd;have HN:=ab (HS.out.step hml (by simp[eI,hd]));clear hl hd;go_wp2_with (first|(go_at_call 140;refine(Jv _ _).mono ?_;rintro e w' ⟨rfl,rfl⟩;rw[HL.out])|(go_at_call 141;refine(zb _ _).mono ?_;rintro e w' ⟨rfl,rfl⟩;rw[HD.out]))
          go_round
          case rel=>exact⟨m+1,by omega,by omega,by go_num,HN⟩
          case measure=>simp[intOf];omega
         |false=>
          have HD:=ab hd;have HE:Hid (∀h:m<s.size,eI s[m]=false):=fun _=>by simp[eI,hl,hd]
          clear hl hd;go_wp2_with (first|(go_at_call 140;refine(Jv _ _).mono ?_;rintro e w' ⟨rfl,rfl⟩;rw[HL.out])|(go_at_call 141;refine(zb _ _).mono ?_;rintro e w' ⟨rfl,rfl⟩;rw[HD.out]));go_meet;case rel=>exact⟨m,hkm,hm,rfl,rfl,HS,HE⟩
       .have HE:Hid (∀h:m<s.size,eI s[m]=false):=fun h=>absurd h hml;go_wp2;go_meet;case rel=>exact⟨m,hkm,hm,rfl,rfl,HS,HE⟩
     case rest=>
      obtain⟨m,hkm,hm,rfl,rfl,HS,HE⟩:=hcut;by_cases hkm':k<m
      .have hsub:bl (s.extract k m)=((bl s).drop k).take (m - k):=Lib.extract_data s k m;have hxs:(s.extract k m).size<=s.size:=(by rw[<-dt,hsub];simp;omega);have hwk:eI s[k]=true:=HS.out.2.2 k hlt (ah _) hkm';have hhd:=Pv hlt hwk HS.out HE.out k;rw[<-hsub,show k+(m - k)=m from by omega] at hhd;have HHD:=ab hhd;have HSUB:=ab hsub;clear hhd hsub;cases hwd:sa iu (bl (s.extract k m)) with
       |true=>
        have HW:=ab hwd;have HL:Hid (fa k ((bl s).drop k)=ib.push [⟨2,bl (s.extract k m),k⟩] (fa m ((bl s).drop m))):=by have h1:Jd (bl (s.extract k m))=some 2:=(by unfold Jd;unfold sa at hwd;rw[if_pos hwd]);have:=HHD.out;rw[h1] at this;exact this
        clear hwd;go_wp2_with (go_at_call 142;refine(Lo _ _ (by omega)).mono ?_;rintro e w' ⟨rfl,x,rfl⟩);go_region_held3 (fun w'=>w'.cell? ⟨wr.heap.size,1,none⟩=some (.string (s.extract k m))) (first|go_keep|(rw[hbel.cell (p:=⟨wr.heap.size,1,none⟩) (by simp)];simp)) (first|(go_at_call 144;refine(Kn _).mono ?_;rintro e w1 ⟨A1,rfl,hrow,hbel,hnew⟩)|(go_at_call 143;refine(Kl _ _ _ _ _ _ hrow (by omega)).mono ?_;rintro e w' ⟨rfl,rfl⟩;rw[HW.out]));have hB1:Below wr.heap.size wr w1:=(((ai _ _).alloc (ah _) _).drew).trans (hbel.mono (by simp));have hbk:=ab ((hbel.block wr.heap.size (by simp)).trans (heap_alloc_new wr _));have hbx:=Jc hbk.out;have hx0:=hbx.c0;have hx1:=hbx.c1;have hx2:=hbx.c2;have hy0:=hbx.f0;have hfew:=HI.out.few;have hroom:=HI.out.room;have hsz1:wr.heap.size+1<=w1.heap.size:=(by have:=hbel.size;simpa using this);have HNE:Hid (u4.ownBlock≠some wr.heap.size):=(by intro e;have:=(HI.out.own.lt _ e).2;omega);clear hbx hrow hbel hnew;go_wp2_with (at_builtin;go_must (refine KR _ rfl _ _ rfl (w.heap.size+1) u4 ts rfl ((re (bM HI.out.own hB1 (ah _)) HNE.out _).alloc _) w1.heap.size 1 ⟨2,bl (s.extract k m),k⟩ rfl (heap_alloc_at (by simp)) (by omega) (by simp;omega) ?_);intro v' w2 hown2 hgr2);go_roundw;case rel=>exact⟨m,ts++[_],rfl,HI.out.next ((hB1.setCell (ah _) _).alloc (by simp;omega) _) hgr2 hown2 HL.out (by omega) hm⟩
        case measure=>simp[intOf];omega
       |false=>
        have HW:=ab hwd;have HK:Hid (Jd (bl (s.extract k m))=if be (bl (s.extract k m)) then some 1 else if fx (bl (s.extract k m)) then some 3 else none):=by show _=_;unfold Jd;unfold sa at hwd;rw[hwd];simp
        clear hwd;cases hnm:be (bl (s.extract k m)) with
        |true=>
         have HNM:=ab hnm;have HL:Hid (fa k ((bl s).drop k)=ib.push [⟨1,bl (s.extract k m),k⟩] (fa m ((bl s).drop m))):=by have h1:Jd (bl (s.extract k m))=some 1:=(by rw[HK.out,hnm];rfl);have:=HHD.out;rw[h1] at this;exact this
         clear hnm;go_wp2_with (go_at_call 142;refine(Lo _ _ (by omega)).mono ?_;rintro e w' ⟨rfl,x,rfl⟩);go_region_held3 (fun w'=>w'.cell? ⟨wr.heap.size,1,none⟩=some (.string (s.extract k m))) (first|go_keep|(rw[hbel.cell (p:=⟨wr.heap.size,1,none⟩) (by simp)];simp)) (first|(go_at_call 144;refine(Kn _).mono ?_;rintro e w1 ⟨A1,rfl,hrow,hbel,hnew⟩)|(go_at_call 143;refine(Kl _ _ _ _ _ _ hrow (by omega)).mono ?_;rintro e w' ⟨rfl,rfl⟩;rw[HW.out]));have hB1:Below wr.heap.size wr w1:=(((ai _ _).alloc (ah _) _).drew).trans (hbel.mono (by simp));have hbk:=ab ((hbel.block wr.heap.size (by simp)).trans (heap_alloc_new wr _));have hbx:=Jc hbk.out;have hx0:=hbx.c0;have hx1:=hbx.c1;have hx2:=hbx.c2;have hy0:=hbx.f0;have hfew:=HI.out.few;have hroom:=HI.out.room;have hsz1:wr.heap.size+1<=w1.heap.size:=(by have:=hbel.size;simpa using this);have HNE:Hid (u4.ownBlock≠some wr.heap.size):=(by intro e;have:=(HI.out.own.lt _ e).2;omega);clear hbx hrow hbel hnew;go_wp2_with (first|(go_at_call 145;refine(Mp _ _ (by omega)).mono ?_;rintro e w3 ⟨rfl,hbel2⟩;rw[HNM.out];have hB2:=hB1.trans (hbel2.mono (by omega));have hbx:=Jc ((hbel2.block wr.heap.size (by omega)).trans hbk.out);have hz0:=hbx.c0;have hz1:=hbx.c1;have hz2:=hbx.c2;have hv0:=hbx.f0;have hsz2:=hB2.size;clear hbx hbel2)|(at_builtin;go_must (refine KR _ rfl _ _ rfl (w.heap.size+1) u4 ts rfl ((re (bM HI.out.own hB2 (ah _)) HNE.out _).alloc _) w3.heap.size 1 ⟨1,bl (s.extract k m),k⟩ rfl (heap_alloc_at (by simp)) (by omega) (by simp;omega) ?_);intro v' w2 hown2 hgr2));go_roundw;case rel=>exact⟨m,ts++[_],rfl,HI.out.next ((hB2.setCell (ah _) _).alloc (by simp;omega) _) hgr2 hown2 HL.out (by omega) hm⟩
         case measure=>simp[intOf];omega
        |false=>
         have HNM:=ab hnm;cases hin:fx (bl (s.extract k m)) with
         |true=>
          have HIN:=ab hin;have HL:Hid (fa k ((bl s).drop k)=ib.push [⟨3,bl (s.extract k m),k⟩] (fa m ((bl s).drop m))):=by have h1:Jd (bl (s.extract k m))=some 3:=(by rw[HK.out,hnm,hin];rfl);have:=HHD.out;rw[h1] at this;exact this
          clear hnm hin;go_wp2_with (go_at_call 142;refine(Lo _ _ (by omega)).mono ?_;rintro e w' ⟨rfl,x,rfl⟩;rw[HIN.out]);go_region_held3 (fun w'=>w'.cell? ⟨wr.heap.size,1,none⟩=some (.string (s.extract k m))) (first|go_keep|(rw[hbel.cell (p:=⟨wr.heap.size,1,none⟩) (by simp)];simp)) (first|(go_at_call 144;refine(Kn _).mono ?_;rintro e w1 ⟨A1,rfl,hrow,hbel,hnew⟩)|(go_at_call 143;refine(Kl _ _ _ _ _ _ hrow (by omega)).mono ?_;rintro e w' ⟨rfl,rfl⟩;rw[HW.out]));have hB1:Below wr.heap.size wr w1:=(((ai _ _).alloc (ah _) _).drew).trans (hbel.mono (by simp));have hbk:=ab ((hbel.block wr.heap.size (by simp)).trans (heap_alloc_new wr _));have hbx:=Jc hbk.out;have hx0:=hbx.c0;have hx1:=hbx.c1;have hx2:=hbx.c2;have hy0:=hbx.f0;have hfew:=HI.out.few;have hroom:=HI.out.room;have hsz1:wr.heap.size+1<=w1.heap.size:=(by have:=hbel.size;simpa using this);have HNE:Hid (u4.ownBlock≠some wr.heap.size):=(by intro e;have:=(HI.out.own.lt _ e).2;omega);clear hbx hrow hbel hnew;go_wp2_with (first|(go_at_call 145;refine(Mp _ _ (by omega)).mono ?_;rintro e w3 ⟨rfl,hbel2⟩;rw[HNM.out];have hB2:=hB1.trans (hbel2.mono (by omega));have hbx:=Jc ((hbel2.block wr.heap.size (by omega)).trans hbk.out);have hz0:=hbx.c0;have hz1:=hbx.c1;have hz2:=hbx.c2;have hv0:=hbx.f0;have hsz2:=hB2.size;clear hbx hbel2)|(at_builtin;go_must (refine KR _ rfl _ _ rfl (w.heap.size+1) u4 ts rfl ((re (bM HI.out.own hB2 (ah _)) HNE.out _).alloc _) w3.heap.size 1 ⟨3,bl (s.extract k m),k⟩ rfl (heap_alloc_at (by simp)) (by omega) (by simp;omega) ?_);intro v' w2 hown2 hgr2));go_roundw;case rel=>exact⟨m,ts++[_],rfl,HI.out.next ((hB2.setCell (ah _) _).alloc (by simp;omega) _) hgr2 hown2 HL.out (by omega) hm⟩
          case measure=>simp[intOf];omega
         |false=>
          have HIN:=ab hin;have HL:Hid (fa k ((bl s).drop k)= .error (101,k)):=by have h1:Jd (bl (s.extract k m))=none:=(by rw[HK.out,hnm,hin];rfl);have:=HHD.out;rw[h1] at this;exact this
          clear hnm hin;go_wp2_with (go_at_call 142;refine(Lo _ _ (by omega)).mono ?_;rintro e w' ⟨rfl,x,rfl⟩;rw[HIN.out]);go_region_held3 (fun w'=>w'.cell? ⟨wr.heap.size,1,none⟩=some (.string (s.extract k m))) (first|go_keep|(rw[hbel.cell (p:=⟨wr.heap.size,1,none⟩) (by simp)];simp)) (first|(go_at_call 144;refine(Kn _).mono ?_;rintro e w1 ⟨A1,rfl,hrow,hbel,hnew⟩)|(go_at_call 143;refine(Kl _ _ _ _ _ _ hrow (by omega)).mono ?_;rintro e w' ⟨rfl,rfl⟩;rw[HW.out]));have hB1:Below wr.heap.size wr w1:=(((ai _ _).alloc (ah _) _).drew).trans (hbel.mono (by simp));have hbk:=ab ((hbel.block wr.heap.size (by simp)).trans (heap_alloc_new wr _));have hbx:=Jc hbk.out;have hx0:=hbx.c0;have hx1:=hbx.c1;have hx2:=hbx.c2;have hy0:=hbx.f0;have hfew:=HI.out.few;have hroom:=HI.out.room;have hsz1:wr.heap.size+1<=w1.heap.size:=(by have:=hbel.size;simpa using this);have HNE:Hid (u4.ownBlock≠some wr.heap.size):=(by intro e;have:=(HI.out.own.lt _ e).2;omega);clear hbx hrow hbel hnew;go_wp2_with (go_at_call 145;refine(Mp _ _ (by omega)).mono ?_;rintro e w3 ⟨rfl,hbel2⟩;rw[HNM.out];have hB2:=hB1.trans (hbel2.mono (by omega));have hbx:=Jc ((hbel2.block wr.heap.size (by omega)).trans hbk.out);have hz0:=hbx.c0;have hz1:=hbx.c1;have hz2:=hbx.c2;have hv0:=hbx.f0;have hsz2:=hB2.size;clear hbx hbel2;have hfl:=HI.out.faultIn hB2;have hc0:=hfl.c0;have hc1:=hfl.c1;have hf0:=hfl.f0;have hf1:=hfl.f1;clear hfl);refine bodyPost_ret (v:=.tuple #[.slice none 0 0,.agg #[.int .i64 101,.int .i64 k]]) (by simp[results,Tryz.results88,go_sem,hc0,hc1]) rfl ?_;exact Jy.bad HI.out hB2 HL.out _ _
      .obtain rfl:k=m:=(by omega);have hsg:=Pu hlt HB.out HC.out (HE.out hlt) k;have HSG:=ab hsg;clear hsg;go_wp2_with (go_at_call 146;refine(Q3 _).mono ?_;rintro e w1 ⟨A1,rfl,hrow,hbel,hnew⟩);obtain⟨wo,rfl⟩:∃wo:World,wo=wr:=⟨_,rfl⟩;have HS0:Hid (Ja s wo w1 k A1 0 0 []):=by
        refine⟨((ai _ _).alloc (ah _) _).trans (hbel.mono (by simp)),hrow,?_,fun ad e h=>?_⟩
        .rw[hbel.block wo.heap.size (by simp),heap_alloc_new];rfl
        .have:=hnew.1 ad e;simp at this;omega
       clear hrow hbel hnew;have hfew:=HI.out.few;have hroom:=HI.out.room;have HNE:Hid (u4.ownBlock≠some wo.heap.size):=(by intro e;have:=(HI.out.own.lt _ e).2;omega);go_loopw [11] (fun i wx=>∃(j kd:Nat) (tx:ar),j<=23/\i= .int .i64 j/\Hid (Ja s wo wx k A1 j kd tx)/\((kd=0/\Hid (Jz ((bl s).drop k) j))∨(kd=4/\Hid (JG ((bl s).drop k)=some tx)))) (fun i _=>23 - (intOf i).toNat);case atStart=>exact⟨0,0,[],by omega,rfl,HS0,.inl ⟨rfl,fun i v h=>by omega⟩⟩
       case round=>
        clear HS0;obtain⟨j,kd,tx,hj,rfl,HS1,hst⟩:=hrel;have hbx:=Jc HS1.out.box;have hx0:=hbx.c0;have hx1:=hbx.c1;have hx2:=hbx.c2;have hy0:=hbx.f0;have hy1:=hbx.f1;have hsz:=HS1.out.size;clear hbx;rcases hst with ⟨rfl,HN⟩|⟨rfl,HF⟩
        .by_cases hj23:j<23
         .obtain⟨ad,u,rfl,hbl,hu,hcu⟩:=HS1.out.row.at_ hj23;have hul:u.length<=2:=Rp u (List.mem_of_getElem? hu);cases hp:u.isPrefixOf ((bl s).drop k) with
          |true=>
           have HF:Hid (JG ((bl s).drop k)=some u):=HN.out.found hu hp;have HP:Hid ((bl (sb u)).isPrefixOf ((bl s).drop k)=true):=hp;have HS2:=ab (HS1.out.found (u:=u));clear hp hu;go_wp2_with (go_at_call 139;refine(Ln _ _ _ _ (by omega) (by omega) (by show u.length<=_;omega)).mono ?_;rintro e w' ⟨rfl,rfl⟩;rw[HP.out]);go_roundw;case rel=>exact⟨j+1,4,u,by omega,by go_num,HS2,.inr ⟨rfl,HF⟩⟩
           case measure=>simp[intOf];omega
          |false=>
           have HN2:=ab (HN.out.step hu hp);have HP:Hid ((bl (sb u)).isPrefixOf ((bl s).drop k)=false):=hp;clear hp hu;go_wp2_with (go_at_call 139;refine(Ln _ _ _ _ (by omega) (by omega) (by show u.length<=_;omega)).mono ?_;rintro e w' ⟨rfl,rfl⟩;rw[HP.out]);go_roundw;case rel=>exact⟨j+1,0,tx,by omega,by go_num,HS1.out.move,.inl ⟨rfl,HN2⟩⟩
           case measure=>simp[intOf];omega
         .have HL:Hid (fa k ((bl s).drop k)= .error (100,k)):=by have:=HSG.out;rw[HN.out.all (by omega)] at this;exact this
          have hfl:=HI.out.faultIn HS1.out.below;have hc0:=hfl.c0;have hc1:=hfl.c1;have hf0:=hfl.f0;have hf1:=hfl.f1;clear hfl;go_wp2;refine bodyPost_ret (v:=.tuple #[.slice none 0 0,.agg #[.int .i64 100,.int .i64 k]]) (by simp[results,Tryz.results88,go_sem,hc0,hc1]) rfl ?_;exact Jy.bad HI.out HS1.out.below HL.out _ _
        .have hpos:=Mu HF.out;have hp1:=hpos.2.1;have hp2:k+tx.length<=s.size:=by have:=hpos.2.2.2.length_le;rw[List.length_drop,dt] at this;omega
         have hts:(sb tx).size=tx.length:=rfl;have HTS:=ab hts;have HL:Hid (fa k ((bl s).drop k)=ib.push [⟨4,tx,k⟩] (fa (k+tx.length) ((bl s).drop (k+tx.length)))):=by have:=HSG.out;rw[HF.out] at this;exact this
         clear hpos hts;by_cases hj23:j<23;all_goals
          go_wp2_with (at_builtin;go_must (refine KR _ rfl _ _ rfl (w.heap.size+1) u4 ts rfl ((bM HI.out.own HS1.out.below (ah _)).alloc _) wr.heap.size 1 ⟨4,tx,k⟩ rfl (heap_alloc_new _ _) (by omega) (by simp;omega) ?_);go_must (intro v' w2 hown2 hgr2;have hz1:=hgr2.cell (a:=⟨wo.heap.size,1,none⟩) ((World.cell?_alloc_lt wr _ _ (by show wo.heap.size<_;omega)).trans hx1) (Ne.symm HNE.out)));go_roundw;case rel=>exact⟨k+tx.length,ts++[_],by go_num,HI.out.next (HS1.out.below.alloc (by omega) _) hgr2 hown2 HL.out (by omega) hp2⟩
          case measure=>simp[intOf];omega
  .obtain rfl:k=s.size:=(by omega);have hown:=HI.out.own;have hfew:=HI.out.few;have hsz:=HI.out.room;go_wp2_with (at_builtin;go_must (refine KR _ rfl _ _ rfl (w.heap.size+1) u4 ts rfl (hown.alloc _) wr.heap.size 1 ⟨5,[],s.size⟩ rfl (heap_alloc_new _ _) (by omega) (by simp;omega) ?_);intro v' w2 hown2 hgr2;have hfl:=HI.out.fault2 ((ai _ _).alloc (ah _) _) hgr2;have hc0:=hfl.c0;have hc1:=hfl.c1;have hf0:=hfl.f0;have hf1:=hfl.f1;clear hfl);refine bodyPost_ret (v:=.tuple #[v',.agg #[.int .i64 0,.int .i64 0]]) (by simp[results,Tryz.results88,go_sem,hc0,hc1]) rfl ?_;exact Jy.done HI.out hown2 ((ai _ _).alloc (ah _) _) hgr2 _ _
theorem kL(c:UInt8)(w:World):Calls Tryz.prog 140 #[.int .u8 c.toNat] w fun e w'=>e= .returned (.bool (gh c))/\w=w':=by
 go_in
 go_wp2;all_goals
  go_ret;exact⟨dg (by simp[gh];try omega),rfl⟩
theorem rH(c:UInt8)(w:World):Calls Tryz.prog 141 #[.int .u8 c.toNat] w fun e w'=>e= .returned (.bool (lp c))/\w=w':=by
 go_in
 go_wp2;all_goals
  go_ret;exact⟨dg (by simp[lp];try omega),rfl⟩
theorem rQ(s:ByteArray)(A:Option Addr)(n c:Nat)(ss:List ar)(w:World)(h:gL w A n ss)(hn:n<=9223372036854775806):Calls Tryz.prog 143 #[.string s,.slice A n c] w fun e w'=>e= .returned (.bool (dj ss (bl s)))/\w=w':=by
 have hlen:=ab h.1
 go_in
 go_wp2
 go_loop [5] (fun i=>∃k:Nat,k<=n/\i= .int .i64 k/\Hid (dj (ss.take k) (bl s)=false)) (fun i=>n - (intOf i).toNat)
 case atStart=>exact⟨0,aE _,rfl,by show _=_;simp[dj]⟩
 case round=>
  obtain⟨k,hk,rfl,HB⟩:=hrel;by_cases hlt:k<n
  .obtain⟨ad,u,rfl,hbl,hu,hc⟩:=h.at_ hlt;have HU:=ab hu;have HS:=ab (pV (x:=bl s) hu);clear hu;by_cases heq:u=bl s
   .have HQ:=ab heq;have ht:(u == s.toList)=true:=(by simp[bG,heq]);clear heq;go_wp2;go_ret;refine⟨dg ?_,rfl⟩;have h2:=HU.out;rw[HQ.out] at h2;rw[qk h2]
   .have HQ:=ab heq;have ht:(u == s.toList)=false:=(by simp[bG,heq]);clear heq;go_wp2
    go_round
    case rel=>exact⟨k+1,by omega,by go_num,by show _=_;rw[HS.out,HB.out];simp[HQ.out]⟩
    case measure=>simp[intOf];omega
  .go_wp2;go_ret;refine⟨dg ?_,rfl⟩;have h1:=HB.out;rw[List.take_of_length_le (by have:=hlen.out;omega)] at h1;rw[h1]
theorem rS(w:World):Calls Tryz.prog 144 #[] w (jq 11 iu w):=by
 go_in
 go_wp2;go_ret;exact⟨_,rfl,gL.new (w:=w) (T:=9) iu rfl,(ai _ _).alloc (ah _) _,fun ad h=>by injection h with h;rw[<-h];exact ah _,_,rfl⟩
theorem oQ(s:ByteArray)(w:World):Calls Tryz.prog 145 #[.string s] w (ak (be (bl s)) w):=by
 by_cases h0:s.size=0
 .have he:s.toList=[]:=(by rw[bG];exact List.eq_nil_of_length_eq_zero h0);have hi:Hid (be (bl s)=false):=(by show _=_;rw[<-bG,he];rfl);clear h0
  go_in
  go_wp2;go_ret;exact ak.intro hi.out.symm (ai _ _)
 .have he:(s.toList.isEmpty)=false:=by rw[bG];cases hh:bl s with|nil=>exact absurd (by rw[<-dt,hh];rfl) h0|cons a l=>rfl
  have hpos:0<s.size:=(by omega);clear h0;by_cases h24:24<s.size
  .have hi:=ab (qt h24)
   go_in
   go_wp2;go_ret;exact ak.intro hi.out.symm (ai _ _)
  .have h24':s.size<=24:=(by omega);clear h24;cases hc:gh s[0] with
   |false=>
    have hi:=ab (qs hpos hc);have HC:=ab hc;clear hc
    go_in
    go_wp2_with (go_at_call 140;refine(kL _ _).mono ?_;rintro e w' ⟨rfl,rfl⟩;rw[HC.out]);go_ret;exact ak.intro hi.out.symm (ai _ _)
   |true=>
    have HC:=ab hc;clear hc;cases hw:dj iu (bl s) with
    |true=>
     have hi:=ab (qu hw);have HW:=ab hw;clear hw
     go_in
     go_wp2_with (first|(go_at_call 140;refine(kL _ _).mono ?_;rintro e w' ⟨rfl,rfl⟩;rw[HC.out])|(go_at_call 144;refine(rS _).mono ?_;rintro e w1 ⟨A1,rfl,hrow,hbel,hnew⟩)|(go_at_call 143;refine(rQ _ _ _ _ _ _ hrow (by omega)).mono ?_;rintro e w' ⟨rfl,rfl⟩;rw[HW.out]));go_ret;exact ak.intro hi.out.symm hbel
    |false=>
     have HW:=ab hw;clear hw
     go_in
     go_wp2_with (first|(go_at_call 140;refine(kL _ _).mono ?_;rintro e w' ⟨rfl,rfl⟩;rw[HC.out])|(go_at_call 144;refine(rS _).mono ?_;rintro e w1 ⟨A1,rfl,hrow,hbel,hnew⟩)|(go_at_call 143;refine(rQ _ _ _ _ _ _ hrow (by omega)).mono ?_;rintro e w' ⟨rfl,rfl⟩;rw[HW.out]))
     go_loop [3] (fun i=>∃k:Nat,k<=s.size/\i= .int .i64 k/\Hid (∀j (h:j<s.size),j<k->eI s[j]=true)) (fun i=>s.size - (intOf i).toNat)
     case atStart=>exact⟨0,aE _,rfl,fun j _ h=>by omega⟩
     case round=>
      obtain⟨k,hk,rfl,HI⟩:=hrel;by_cases hlt:k<s.size
      .cases hl:gh s[k] with
       |true=>
        have HL:=ab hl;have HN:Hid (∀j (h:j<s.size),j<k+1->eI s[j]=true):=by
         intro j h hj;by_cases e:j=k
         .subst e;simp[eI,hl]
         .exact HI.out j h (by omega)
        clear hl;go_wp2_with (go_at_call 140;refine(kL _ _).mono ?_;rintro e w' ⟨rfl,rfl⟩;rw[HL.out])
        go_round
        case rel=>exact⟨k+1,by omega,by go_num,HN⟩
        case measure=>simp[intOf];omega
       |false=>
        have HL:=ab hl;cases hd:lp s[k] with
        |true=>
         have HD:=ab hd;have HN:Hid (∀j (h:j<s.size),j<k+1->eI s[j]=true):=by
          intro j h hj;by_cases e:j=k
          .subst e;simp[eI,hd]
          .exact HI.out j h (by omega)
         clear hl hd;go_wp2_with (first|(go_at_call 140;refine(kL _ _).mono ?_;rintro e w' ⟨rfl,rfl⟩;rw[HL.out])|(go_at_call 141;refine(rH _ _).mono ?_;rintro e w' ⟨rfl,rfl⟩;rw[HD.out]))
         go_round
         case rel=>exact⟨k+1,by omega,by go_num,HN⟩
         case measure=>simp[intOf];omega
        |false=>have HD:=ab hd;have hi:=ab (qo hlt (by simp[eI,hl,hd]));clear hl hd;go_wp2_with (first|(go_at_call 140;refine(kL _ _).mono ?_;rintro e w' ⟨rfl,rfl⟩;rw[HL.out])|(go_at_call 141;refine(rH _ _).mono ?_;rintro e w' ⟨rfl,rfl⟩;rw[HD.out]));go_ret;exact ak.intro hi.out.symm hbel
      .have hi:=ab (qr hpos h24' HC.out HW.out (fun j h=>HI.out j h (by omega)));go_wp2;go_ret;exact ak.intro hi.out.symm hbel
def aX(k:Nat):Int:=
 if k=1∨k=3∨k=5∨k=25 then -1
 else if k=2∨k=7∨k=9∨k=24∨k=26∨k=27 then 2
 else if k=8 then 3
 else if k=6∨k=10∨k=11∨k=23∨k=28∨k=12 then 1
 else 0
def dz(k:Nat):Bool:=decide (20<=k) && decide (k<=29)
def fV(k:Nat):Bool:=(decide (6<=k) && decide (k<=12)) || k == 5
def aD(parent kid at_:Nat):Bool:=
 if 0<=aX parent/\aX parent<=at_ then false
 else if parent=1 then kid == 2
 else if parent=2 then(at_ == 0 && kid == 3) || (at_ == 1 && kid == 5)
 else if parent=3 then kid == 4
 else if parent=5 then fV kid
 else if parent=7 then(at_ == 0 && (kid == 22 || kid == 26)) || (at_ == 1 && dz kid)
 else if parent=8∨parent=9 then(at_ == 0 && dz kid) || (decide (0<at_) && kid == 5)
 else if parent=12 then kid == 25
 else dz kid
def eE(k:Nat)(s:ar):Bool:=if cG k=true then be s else if k=23 then(s == [45] || s == [33]) else if k≠24 then s == [] else Bz.any (fun b=>s == b)
def fC(k:Nat):Bool:=(decide (1<=k) && decide (k<=12)) || dz k
def dA(k:Nat)(x:Int):Bool:=x == 0 || (k == 20 && decide (0<x)) || (k == 21 && x == 1)
theorem OR(l:List ar)(s:ar):l.any (fun b=>s == b)=l.contains s:=by
 rw[Bool.eq_iff_iff,List.any_eq_true,List.contains_iff_mem];constructor
 .rintro⟨b,hb,e⟩;have:s=b:=by simpa using e
  rw[this];exact hb
 .intro h;exact⟨s,h,by simp⟩
def it(ks:List ag):Bool:=match ks with
 |t::_=>t.kind != 26 || (match t.kids with|u::_=>u.kind == 22|[]=>false)
 |[]=>false
mutual
def vr:Nat->ag->Bool
 |most,.node k s x ks=>decide (1<=most) && fC k && dA k x && eE k s && (decide (aX k<0) || decide ((ks.length:Int)=aX k)) && eX k 0 (most - 1) ks && (k != 7 || it ks)
def eX:Nat->Nat->Nat->List ag->Bool
 |_,_,_,[]=>true
 |k,i,most,t::ts=>aD k t.kind i && vr most t && eX k (i+1) most ts
end

def jm(b:Bool)(w:World)(e:Ending)(w':World):Prop:=e= .returned (.bool b)/\w'=w
theorem gY(k:Nat)(w:World):Calls Tryz.prog 192 #[.int .u8 k] w (jm (dz k) w):=by
 by_cases h0:20<=k
 .have g0:(20:Int)<=(k:Int):=(by omega);by_cases h1:k<=29
  .have g1:(k:Int)<=29:=(by omega);have HR:Hid (dz k=true):=by show _=_;simp[dz,h0,h1]
   go_in
   go_wp2;go_ret;exact⟨by rw[HR.out];rfl,rfl⟩
  .have g1:¬((k:Int)<=29):=(by omega);have HR:Hid (dz k=false):=by show _=_;simp[dz,h0,h1]
   go_in
   go_wp2;go_ret;exact⟨by rw[HR.out];rfl,rfl⟩
 .have g0:¬((20:Int)<=(k:Int)):=(by omega);have HR:Hid (dz k=false):=by show _=_;simp[dz,h0]
  go_in
  go_wp2;go_ret;exact⟨by rw[HR.out];rfl,rfl⟩
theorem rR(k:Nat)(w:World):Calls Tryz.prog 220 #[.int .u8 k] w (jm (fV k) w):=by
 by_cases h0:6<=k
 .have g0:(6:Int)<=(k:Int):=(by omega);by_cases h1:k<=12
  .have g1:(k:Int)<=12:=(by omega);have HR:Hid (fV k=true):=by show _=_;simp[fV,h0,h1]
   go_in
   go_wp2;go_ret;exact⟨by rw[HR.out];rfl,rfl⟩
  .have g1:¬((k:Int)<=12):=(by omega);have g2:¬((k:Int)=5):=(by omega);have h2:¬(k=5):=(by omega);have HR:Hid (fV k=false):=by show _=_;simp[fV,h0,h1,h2]
   go_in
   go_wp2;go_ret;exact⟨by rw[HR.out];show Ending.returned (.bool ((k:Int) == 5))=_;simp[g2],rfl⟩
 .have g0:¬((6:Int)<=(k:Int)):=(by omega);by_cases h1:k=5
  .subst h1;have HR:Hid (fV 5=true):=by show _=_;simp[fV]
   go_in
   go_wp2;go_ret;exact⟨by rw[HR.out];rfl,rfl⟩
  .have g1:¬((k:Int)=5):=(by omega);have HR:Hid (fV k=false):=by show _=_;simp[fV,h0,h1]
   go_in
   go_wp2;go_ret;exact⟨by rw[HR.out];show Ending.returned (.bool ((k:Int) == 5))=_;simp[g1],rfl⟩
theorem kM(k:Nat)(w:World):Calls Tryz.prog 219 #[.int .u8 k] w (jm (cG k) w):=by
 by_cases h0:k=2
 .subst h0;have HR:Hid (cG 2=true):=by show _=_;simp[cG]
  go_in
  go_wp2;go_ret;exact⟨by rw[HR.out];rfl,rfl⟩
 .have g0:¬((k:Int)=2):=(by omega);by_cases h1:k=4
  .subst h1;have HR:Hid (cG 4=true):=by show _=_;simp[cG]
   go_in
   go_wp2;go_ret;exact⟨by rw[HR.out];rfl,rfl⟩
  .have g1:¬((k:Int)=4):=(by omega);by_cases h2:k=6
   .subst h2;have HR:Hid (cG 6=true):=by show _=_;simp[cG]
    go_in
    go_wp2;go_ret;exact⟨by rw[HR.out];rfl,rfl⟩
   .have g2:¬((k:Int)=6):=(by omega);by_cases h3:k=22
    .subst h3;have HR:Hid (cG 22=true):=by show _=_;simp[cG]
     go_in
     go_wp2;go_ret;exact⟨by rw[HR.out];rfl,rfl⟩
    .have g3:¬((k:Int)=22):=(by omega);by_cases h4:k=25
     .subst h4;have HR:Hid (cG 25=true):=by show _=_;simp[cG]
      go_in
      go_wp2;go_ret;exact⟨by rw[HR.out];rfl,rfl⟩
     .have g4:¬((k:Int)=25):=(by omega);have HR:Hid (cG k=false):=by show _=_;simp[cG,h0,h1,h2,h3,h4]
      go_in
      go_wp2;go_ret;exact⟨by rw[HR.out];show Ending.returned (.bool ((k:Int) == 2 || (k:Int) == 4 || (k:Int) == 6 || (k:Int) == 22 || (k:Int) == 25))=_;simp[g0,g1,g2,g3,g4],rfl⟩
def nw(n:Int)(w:World)(e:Ending)(w':World):Prop:=e= .returned (.int .i64 n)/\w'=w
theorem rL(k:Nat)(w:World):Calls Tryz.prog 193 #[.int .u8 k] w (nw (aX k) w):=by
 by_cases h0:k=1
 .subst h0;have HR:Hid (aX 1= -1):=by show _=_;simp[aX]
  go_in
  go_wp2;go_ret;exact⟨by rw[HR.out];rfl,rfl⟩
 have g0:¬((k:Int)=1):=(by omega);by_cases h1:k=3
 .subst h1;have HR:Hid (aX 3= -1):=by show _=_;simp[aX]
  go_in
  go_wp2;go_ret;exact⟨by rw[HR.out];rfl,rfl⟩
 have g1:¬((k:Int)=3):=(by omega);by_cases h2:k=5
 .subst h2;have HR:Hid (aX 5= -1):=by show _=_;simp[aX]
  go_in
  go_wp2;go_ret;exact⟨by rw[HR.out];rfl,rfl⟩
 have g2:¬((k:Int)=5):=(by omega);by_cases h3:k=25
 .subst h3;have HR:Hid (aX 25= -1):=by show _=_;simp[aX]
  go_in
  go_wp2;go_ret;exact⟨by rw[HR.out];rfl,rfl⟩
 have g3:¬((k:Int)=25):=(by omega);by_cases h4:k=2
 .subst h4;have HR:Hid (aX 2=2):=by show _=_;simp[aX]
  go_in
  go_wp2;go_ret;exact⟨by rw[HR.out];rfl,rfl⟩
 have g4:¬((k:Int)=2):=(by omega);by_cases h5:k=7
 .subst h5;have HR:Hid (aX 7=2):=by show _=_;simp[aX]
  go_in
  go_wp2;go_ret;exact⟨by rw[HR.out];rfl,rfl⟩
 have g5:¬((k:Int)=7):=(by omega);by_cases h6:k=9
 .subst h6;have HR:Hid (aX 9=2):=by show _=_;simp[aX]
  go_in
  go_wp2;go_ret;exact⟨by rw[HR.out];rfl,rfl⟩
 have g6:¬((k:Int)=9):=(by omega);by_cases h7:k=24
 .subst h7;have HR:Hid (aX 24=2):=by show _=_;simp[aX]
  go_in
  go_wp2;go_ret;exact⟨by rw[HR.out];rfl,rfl⟩
 have g7:¬((k:Int)=24):=(by omega);by_cases h8:k=26
 .subst h8;have HR:Hid (aX 26=2):=by show _=_;simp[aX]
  go_in
  go_wp2;go_ret;exact⟨by rw[HR.out];rfl,rfl⟩
 have g8:¬((k:Int)=26):=(by omega);by_cases h9:k=27
 .subst h9;have HR:Hid (aX 27=2):=by show _=_;simp[aX]
  go_in
  go_wp2;go_ret;exact⟨by rw[HR.out];rfl,rfl⟩
 have g9:¬((k:Int)=27):=(by omega);by_cases h10:k=8
 .subst h10;have HR:Hid (aX 8=3):=by show _=_;simp[aX]
  go_in
  go_wp2;go_ret;exact⟨by rw[HR.out];rfl,rfl⟩
 have g10:¬((k:Int)=8):=(by omega);by_cases h11:k=6
 .subst h11;have HR:Hid (aX 6=1):=by show _=_;simp[aX]
  go_in
  go_wp2;go_ret;exact⟨by rw[HR.out];rfl,rfl⟩
 have g11:¬((k:Int)=6):=(by omega);by_cases h12:k=10
 .subst h12;have HR:Hid (aX 10=1):=by show _=_;simp[aX]
  go_in
  go_wp2;go_ret;exact⟨by rw[HR.out];rfl,rfl⟩
 have g12:¬((k:Int)=10):=(by omega);by_cases h13:k=11
 .subst h13;have HR:Hid (aX 11=1):=by show _=_;simp[aX]
  go_in
  go_wp2;go_ret;exact⟨by rw[HR.out];rfl,rfl⟩
 have g13:¬((k:Int)=11):=(by omega);by_cases h14:k=23
 .subst h14;have HR:Hid (aX 23=1):=by show _=_;simp[aX]
  go_in
  go_wp2;go_ret;exact⟨by rw[HR.out];rfl,rfl⟩
 have g14:¬((k:Int)=23):=(by omega);by_cases h15:k=28
 .subst h15;have HR:Hid (aX 28=1):=by show _=_;simp[aX]
  go_in
  go_wp2;go_ret;exact⟨by rw[HR.out];rfl,rfl⟩
 have g15:¬((k:Int)=28):=(by omega);by_cases h16:k=12
 .subst h16;have HR:Hid (aX 12=1):=by show _=_;simp[aX]
  go_in
  go_wp2;go_ret;exact⟨by rw[HR.out];rfl,rfl⟩
 have g16:¬((k:Int)=12):=(by omega);have HR:Hid (aX k=0):=(by show _=_;simp[aX,h0,h1,h2,h3,h4,h5,h6,h7,h8,h9,h10,h11,h12,h13,h14,h15,h16]);clear h0 h1 h2 h3 h4 h5 h6 h7 h8 h9 h10 h11 h12 h13 h14 h15 h16
 go_in
 go_wp2;go_ret;exact⟨by rw[HR.out];rfl,rfl⟩
end Go.Proofs.YtfipahjodfminaaGreatDoor
