/- Part 26 of the proof. -/
import Derived.SizedLaws
import Derived.DataShut
import Derived.Test.YtfipahjodfminaaGreatDoorMnG
namespace Go.Proofs.YtfipahjodfminaaGreatDoor
open Go.RowKit
set_option linter.all false
set_option maxHeartbeats 40000000
set_option maxRecDepth 100000
section
open Go.RowKit Go.Deep
theorem pT{α:Type}[Inhabited α]{n:Nat}{p:Nat->α->Prop}(h:∀i,i<n->∃v,p i v):∃l:List α,l.length=n/\∀i v,l[i]? =some v->p i v:=by
 induction n with
 |zero=>exact⟨[],rfl,fun i v hv=>by simp at hv⟩
 |succ n ih=>
  obtain⟨l,h1,h2⟩:=ih (fun i hi=>h i (by omega));obtain⟨v,hv⟩:=h n (by omega);refine⟨l++[v],by simp[h1],fun i u hu=>?_⟩;by_cases hi:i<l.length
  .rw[cM hi] at hu;exact h2 i u hu
  .rw[eK (by omega)] at hu;have:i=n:=by have:=(gl.1 hu).1;simp at this;omega
   subst this;simp[h1] at hu;subst hu;exact hv
theorem qK{α:Type}{cs:List α}(h:cs.length=4):∃a b c d,cs=[a,b,c,d]:=by
 match cs,h with
 |[a,b,c,d],_=>exact⟨a,b,c,d,rfl⟩
variable {H:Type} {enc:TypeId×Value->H} {W:World} {spare:Nat->Bool} {held:Bool}
def pB(W:World)(cs:List Value)(t:ag):Prop:=∃A c,cs=[.int .u8 t.kind,.string (sb t.text),.int .i64 t.num,.slice A t.kids.length c]/\ce W t.kids A t.kids.length c/\t.kind<=255/\t.text.length<=maxLen/\tw t.num
theorem ui{a:Addr}{cs:List Value}{t:ag}(hc:W.cells? 0 a 4=some cs)(h:pB W cs t):∃b o,a=⟨b,o,none⟩/\cJ W t b o:=by
 obtain⟨_,hl,hcell⟩:=World.cells?_some hc;obtain⟨A,c,rfl,hk,b1,b2,b3⟩:=h;have h0:=hcell 0 (by omega);obtain⟨b,o,sp⟩:=a;cases sp with
 |some s=>exfalso;simp[World.cell?,Addr.add] at h0;split at h0<;>simp at h0
 |none=>
  refine⟨b,o,rfl,cJ.of ?_ ?_ ?_ ?_ hk b1 b2 b3⟩
  .have:=hcell 0 (by omega);rw[CE] at this;simpa using this
  .have:=hcell 1 (by omega);rw[CE] at this;simpa using this
  .have:=hcell 2 (by omega);rw[CE] at this;simpa using this
  .have:=hcell 3 (by omega);rw[CE] at this;simpa using this
theorem so{L:Nat}:∀{ts:List ag},(∀(i:Nat) (t:ag),ts[i]? =some t->t.short L)->ex L ts
 |[],_=>by simp[ex]
 |t::ts,h=>by simp only[ex];exact⟨h 0 t rfl,so fun i u hu=>h (i+1) u (by simpa using hu)⟩
theorem sM{P:Program}{e:TypeId}{z:Nat}:∀{l:List (DataW H)} {i:Nat} {d:DataW H},l[i]? =some d->z∈d.weights P e->z∈DataW.weightsAll P e l
 |d0::l,0,d,hd,hz=>by simp only[List.getElem?_cons_zero,Option.some.injEq] at hd;subst hd;simp only[DataW.weightsAll,List.mem_append];exact .inl hz
 |d0::l,i+1,d,hd,hz=>by simp only[List.getElem?_cons_succ] at hd;simp only[DataW.weightsAll,List.mem_append];exact .inr (sM hd hz)
 |[],_,_,hd,_=>by simp at hd
def py(enc:TypeId×Value->H)(W:World)(spare:Nat->Bool)(held:Bool)(n:Nat):Prop:=∀(cs:List Value) (x:DataW H×List MemPlace),DataW.trod enc Tryz.prog W 0 spare held n 25 cs=some x->∃t,pB W cs t/\((∀z∈x.1.weights Tryz.prog 25,z<=reachBytes)->t.short LL)
theorem q9{n:Nat}(ih:∀q,q<n->py enc W spare held q){cs:List Value}{x:DataW H×List MemPlace}(h:DataW.trod enc Tryz.prog W 0 spare held n 23 cs=some x):∃A ts c,cs=[.slice A ts.length c]/\ce W ts A ts.length c/\((∀z∈x.1.weights Tryz.prog 23,z<=reachBytes)->ex LL ts):=by
 have k4:Tryz.prog.cellsOf 25=4:=(by kernel_rfl);rcases DataW.trod_slice Tryz.underlying23 h with ⟨g3,_⟩|⟨a,len,cap,elems,rest,q,rfl,g3,hx0,_,hle,hcm,hel,hx,_⟩
 .subst g3;exact⟨none,[],0,rfl,ce.nil _ _ (aE _),fun _=>by simp[ex]⟩
 .subst g3;obtain⟨ts,h1,h2⟩:=pT (α:=ag) (n:=len) (p:=fun i t=>(∃b o,a.add (i*4)=⟨b,o,none⟩/\cJ W t b o)/\((∀z∈x.1.weights Tryz.prog 23,z<=reachBytes)->t.short LL)) (fun i hi=>by have h3:=hx i hi;rw[br (by omega),k4] at h3;obtain⟨cs',h4,h5⟩:=Option.bind_eq_some_iff.1 h3;obtain⟨t,ht,hsh⟩:=ih q (by omega) cs' _ h5;obtain⟨b,o,h6,h7⟩:=ui h4 ht;refine⟨t,⟨b,o,h6,h7⟩,fun hz=>hsh fun z hm=>hz z ?_⟩;rw[hx0];simp only[DataW.weights,Tryz.underlying23,List.mem_cons,List.mem_append];exact .inr (.inl (sM (i:=i) (by rw[List.getElem?_map,br (by omega)];rfl) hm)))
  refine⟨some a,ts,cap,by rw[h1],⟨rfl,by rw[h1];exact hle,hcm,?_⟩,fun hz=>so fun i t ht=>(h2 i t ht).2 hz⟩;by_cases h0:ts=[]
  .exact .inl h0
  .right;obtain⟨t0,ht0⟩:∃t,ts[0]? =some t:=⟨ts[0]'(List.length_pos_iff.2 h0),br _⟩;obtain⟨⟨b,o,h3,_⟩,_⟩:=h2 0 t0 ht0;have ha:a=⟨b,o,none⟩:=(by simpa[Addr.add] using h3);refine⟨b,o,by rw[ha],bk.mk fun i t ht=>?_⟩;obtain⟨⟨b',o',h4,h5⟩,_⟩:=h2 i t ht;rw[ha,CE] at h4;injection h4 with h6 h7;subst h6 h7;exact h5
theorem jN{P:Program}{t:TypeId}{fs:Array Field}(hu:P.underlying t=some (.struct fs)){ds:List (DataW H)}{i:Nat}{f:Field}{d:DataW H}(hf:fs[i]? =some f)(hd:ds[i]? =some d){z:Nat}(hz:z∈d.weights P f.type):z∈(DataW.agg ds:DataW H).weights P t:=by simp only[DataW.weights,hu];exact DataW.weights_mem_each (j:=i) (t:=f.type) (by simp[hf]) hd z hz
theorem xw:∀(n:Nat),py enc W spare held n:=by
 intro n;induction n using Nat.strongRecOn with
 |_ n ih=>
  intro cs x h;obtain⟨xs,m,rfl,rfl,hl,hlen,hf⟩:=DataW.trod_struct Tryz.underlying25 h;obtain⟨c0,c1,c2,c3,rfl⟩:=qK (hl.trans (by kernel_rfl));obtain⟨y0,y1,y2,y3,rfl⟩:=qK (hlen.trans rfl);have e0:=hf 0 _ rfl;have e1:=hf 1 _ rfl;have e2:=hf 2 _ rfl;have e3:=hf 3 _ rfl;have k0:Tryz.prog.cellsOf 22=1:=(by kernel_rfl);have k1:Tryz.prog.cellsOf 9=1:=(by kernel_rfl);have k2:Tryz.prog.cellsOf 2=1:=(by kernel_rfl);have k3:Tryz.prog.cellsOf 23=1:=(by kernel_rfl);simp[k0] at e0;simp[k1] at e1;simp[k2] at e2;simp[k3] at e3;obtain⟨a0,g0,-,w0⟩:=DataW.trod_int Tryz.underlying22 e0;obtain⟨a1,g1,hy1,w1⟩:=DataW.trod_string Tryz.underlying9 e1;obtain⟨a2,g2,-,w2⟩:=DataW.trod_int Tryz.underlying2 e2;obtain⟨A,ts,c,g3,hk,hsh⟩:=q9 (fun q hq=>ih q (Nat.lt_succ_of_lt hq)) e3;injection g0 with g0;injection g1 with g1;injection g2 with g2;injection g3 with g3;subst g0 g1 g2 g3;have b0:∃k:Nat,a0=k/\k<=255:=by have h8:=(Go.Lit.wf_int_iff _ _).1 w0;rw[show IntKind.min .u8=0 by decide,show IntKind.max .u8=255 by decide] at h8;exact⟨a0.toNat,by omega,by omega⟩
  have b2:tw a2:=by have h8:=(Go.Lit.wf_int_iff _ _).1 w2;rw[show IntKind.min .i64= -9223372036854775808 by decide,show IntKind.max .i64=9223372036854775807 by decide] at h8;exact h8
  obtain⟨k,rfl,hk0⟩:=b0;refine⟨.node k (bl a1) a2 ts,⟨A,c,rfl,hk,hk0,w1,b2⟩,fun hz=>?_⟩;simp only[ag.short];refine⟨?_,hsh fun z hm=>hz z (jN (i:=3) Tryz.underlying25 rfl rfl hm)⟩;have:=hz a1.data.toList.length (jN (i:=1) Tryz.underlying25 rfl rfl (by simp[hy1,DataW.weights]));unfold reachBytes at this;exact aJ this (by decide)
theorem q8{n:Nat}{cs:List Value}{x:DataW H×List MemPlace}(h:DataW.trod enc Tryz.prog W 0 spare held n 23 cs=some x):∃A ts c,cs=[.slice A ts.length c]/\ce W ts A ts.length c/\((∀z∈x.1.weights Tryz.prog 23,z<=reachBytes)->ex LL ts):=q9 (fun q _=>xw q) h
theorem xv{n:Nat}{cs:List Value}{x:DataW H×List MemPlace}(h:DataW.trod enc Tryz.prog W 0 spare held n 27 cs=some x):∃A ps c,cs=[.slice A ps.length c]/\cc W ps A ps.length c/\((∀z∈x.1.weights Tryz.prog 27,z<=reachBytes)->ps.length<=17592186044416):=by
 have k8:Tryz.prog.bytesOf 3=8:=(by kernel_rfl);rcases open_slice1 Tryz.underlying27 (by kernel_rfl) h with ⟨rfl,_⟩|⟨a,len,cap,m,q,V,D,Pl,rfl,_,hle,hcm,hm,rfl,hx⟩
 .exact⟨none,[],0,rfl,⟨rfl,ah _,aE _,.inl rfl⟩,fun _=>by simp⟩
 .have hlm:len<=m:=by rw[hm];split<;>omega
  obtain⟨ps,h1,h2⟩:=pT (α:=Int) (n:=len) (p:=fun i z=>W.cell? (a.add i)=some (.int .i64 z)) (fun i hi=>by obtain⟨h3,h4⟩:=hx i (by omega);obtain⟨z,h5,_⟩:=DataW.trod_int Tryz.underlying3 h4;injection h5 with h5;exact⟨z,by rw[h3,h5]⟩)
  refine⟨some a,ps,cap,by rw[h1],⟨rfl,by rw[h1];exact hle,hcm,?_⟩,fun hz=>?_⟩
  .by_cases h0:ps=[]
   .exact .inl h0
   .right;obtain⟨t0,ht0⟩:∃t,ps[0]? =some t:=⟨ps[0]'(List.length_pos_iff.2 h0),br _⟩;have h3:=h2 0 t0 ht0;obtain⟨b,o,sp⟩:=a;cases sp with
    |some s=>exfalso;simp[World.cell?,Addr.add] at h3;split at h3<;>simp at h3
    |none=>exact⟨b,o,rfl,fun i z hi=>by have:=h2 i z hi;rw[CE] at this;exact this⟩
  .have:=hz (len*8+(m - len) *8) (by simp[DataW.weights,Tryz.underlying27,k8,Nat.add_mul]);unfold reachBytes at this;omega
theorem qL{α:Type}{cs:List α}(h:cs.length=8):∃a b c d e f g i,cs=[a,b,c,d,e,f,g,i]:=by
 match cs,h with
 |[a,b,c,d,e,f,g,i],_=>exact⟨a,b,c,d,e,f,g,i,rfl⟩
theorem xt{n:Nat}{cs:List Value}{x:DataW H×List MemPlace}(h:DataW.trod enc Tryz.prog W 0 spare held n 29 cs=some x):∃(e:aj) (k:Nat) (pA:Option Addr) (pn pc:Nat) (i j:Int) (f t:ByteArray) (oA:Option Addr) (on oc:Nat) (nA:Option Addr) (nn nc:Nat),cs=[.int .u8 k,.slice pA pn pc,.int .i64 i,.int .i64 j,.string f,.string t,.slice oA on oc,.slice nA nn nc]/\ay W e k pA pn pc i j f t oA on oc nA nn nc/\((∀z∈x.1.weights Tryz.prog 29,z<=reachBytes)->e.fine)/\k<=255/\tw i/\tw j:=by
 obtain⟨xs,m,rfl,rfl,hl,hlen,hf⟩:=DataW.trod_struct Tryz.underlying29 h;obtain⟨c0,c1,c2,c3,c4,c5,c6,c7,rfl⟩:=qL (hl.trans (by kernel_rfl));obtain⟨y0,y1,y2,y3,y4,y5,y6,y7,rfl⟩:=qL (hlen.trans rfl);have e0:=hf 0 _ rfl;have e1:=hf 1 _ rfl;have e2:=hf 2 _ rfl;have e3:=hf 3 _ rfl;have e4:=hf 4 _ rfl;have e5:=hf 5 _ rfl;have e6:=hf 6 _ rfl;have e7:=hf 7 _ rfl;have k0:Tryz.prog.cellsOf 26=1:=(by kernel_rfl);have k1:Tryz.prog.cellsOf 27=1:=(by kernel_rfl);have k2:Tryz.prog.cellsOf 3=1:=(by kernel_rfl);have k4:Tryz.prog.cellsOf 9=1:=(by kernel_rfl);have k6:Tryz.prog.cellsOf 23=1:=(by kernel_rfl);simp[k0] at e0;simp[k1] at e1;simp[k2] at e2;simp[k2] at e3;simp[k4] at e4;simp[k4] at e5;simp[k6] at e6;simp[k6] at e7;obtain⟨a0,g0,-,w0⟩:=DataW.trod_int Tryz.underlying26 e0;obtain⟨pA,ps,pc,g1,hp,hpz⟩:=xv e1;obtain⟨a2,g2,-,w2⟩:=DataW.trod_int Tryz.underlying3 e2;obtain⟨a3,g3,-,w3⟩:=DataW.trod_int Tryz.underlying3 e3;obtain⟨a4,g4,hy4,w4⟩:=DataW.trod_string Tryz.underlying9 e4;obtain⟨a5,g5,hy5,w5⟩:=DataW.trod_string Tryz.underlying9 e5;obtain⟨oA,os,oc,g6,ho,hoz⟩:=q8 e6;obtain⟨nA,ns,nc,g7,hn,hnz⟩:=q8 e7;injection g0 with g0;injection g1 with g1;injection g2 with g2;injection g3 with g3;injection g4 with g4;injection g5 with g5;injection g6 with g6;injection g7 with g7;subst g0 g1 g2 g3 g4 g5 g6 g7;have b0:∃k:Nat,a0=k/\k<=255:=by have h8:=(Go.Lit.wf_int_iff _ _).1 w0;rw[show IntKind.min .u8=0 by decide,show IntKind.max .u8=255 by decide] at h8;exact⟨a0.toNat,by omega,by omega⟩
 have fits:∀z,(Lit.int .i64 z).wf=true->tw z:=fun z hz=>by have h8:=(Go.Lit.wf_int_iff _ _).1 hz;rw[show IntKind.min .i64= -9223372036854775808 by decide,show IntKind.max .i64=9223372036854775807 by decide] at h8;exact h8
 obtain⟨k,rfl,hk0⟩:=b0;refine⟨⟨k,ps,a2,a3,bl a4,bl a5,os,ns⟩,k,pA,ps.length,pc,a2,a3,a4,a5,oA,os.length,oc,nA,ns.length,nc,rfl,⟨ps,os,ns,rfl,hp,ho,hn⟩,fun hz=>?_,hk0,fits _ w2,fits _ w3⟩;have z4:=hz a4.data.toList.length (jN (i:=4) Tryz.underlying29 rfl rfl (by simp[hy4,DataW.weights]));have z5:=hz a5.data.toList.length (jN (i:=5) Tryz.underlying29 rfl rfl (by simp[hy5,DataW.weights]));have q4:(bl a4).length=a4.data.toList.length:=rfl;have q5:(bl a5).length=a5.data.toList.length:=rfl;unfold reachBytes at z4 z5;refine⟨hpz fun z hm=>hz z (jN (i:=1) Tryz.underlying29 rfl rfl hm),?_,?_,hoz fun z hm=>hz z (jN (i:=6) Tryz.underlying29 rfl rfl hm),hnz fun z hm=>hz z (jN (i:=7) Tryz.underlying29 rfl rfl hm)⟩
 .show(bl a4).length<=_;omega
 .show(bl a5).length<=_;omega
end
end Go.Proofs.YtfipahjodfminaaGreatDoor
