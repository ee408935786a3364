/- Part 23 of the proof. -/
import Derived.SizedLaws
import Derived.DataShut
import Derived.Test.YtckbdkgcoilmpaaGreatDoorMnG
namespace Go.Proofs.YtckbdkgcoilmpaaGreatDoor
open Go.RowKit
set_option linter.all false
set_option maxHeartbeats 40000000
set_option maxRecDepth 100000
section
open Go.RowKit Go.Deep
theorem pT{α:Type}[Inhabited α]{n:Nat}{p:Nat->α->Prop}(h:∀i,i<n->∃v,p i v):∃l:List α,l.length=n/\∀i v,l[i]? =some v->p i v:=by
 induction n with
 |zero=>exact⟨[],rfl,fun i v hv=>by simp at hv⟩
 |succ n ih=>
  obtain⟨l,h1,h2⟩:=ih (fun i hi=>h i (by omega));obtain⟨v,hv⟩:=h n (by omega);refine⟨l++[v],by simp[h1],fun i u hu=>?_⟩;by_cases hi:i<l.length
  .rw[cM hi] at hu;exact h2 i u hu
  .rw[eK (by omega)] at hu;have:i=n:=by have:=(gl.1 hu).1;simp at this;omega
   subst this;simp[h1] at hu;subst hu;exact hv
theorem qK{α:Type}{cs:List α}(h:cs.length=4):∃a b c d,cs=[a,b,c,d]:=by
 match cs,h with
 |[a,b,c,d],_=>exact⟨a,b,c,d,rfl⟩
variable {H:Type} {enc:TypeId×Value->H} {W:World} {spare:Nat->Bool} {held:Bool}
def pB(W:World)(cs:List Value)(t:ag):Prop:=∃A c,cs=[.int .u8 t.kind,.string (sb t.text),.int .i64 t.num,.slice A t.kids.length c]/\ce W t.kids A t.kids.length c/\t.kind<=255/\t.text.length<=maxLen/\tw t.num
theorem ui{a:Addr}{cs:List Value}{t:ag}(hc:W.cells? 0 a 4=some cs)(h:pB W cs t):∃b o,a=⟨b,o,none⟩/\cJ W t b o:=by
 obtain⟨_,hl,hcell⟩:=World.cells?_some hc;obtain⟨A,c,rfl,hk,b1,b2,b3⟩:=h;have h0:=hcell 0 (by omega);obtain⟨b,o,sp⟩:=a;cases sp with
 |some s=>exfalso;simp[World.cell?,Addr.add] at h0;split at h0<;>simp at h0
 |none=>
  refine⟨b,o,rfl,cJ.of ?_ ?_ ?_ ?_ hk b1 b2 b3⟩
  .have:=hcell 0 (by omega);rw[CE] at this;simpa using this
  .have:=hcell 1 (by omega);rw[CE] at this;simpa using this
  .have:=hcell 2 (by omega);rw[CE] at this;simpa using this
  .have:=hcell 3 (by omega);rw[CE] at this;simpa using this
theorem so{L:Nat}:∀{ts:List ag},(∀(i:Nat) (t:ag),ts[i]? =some t->t.short L)->ex L ts
 |[],_=>by simp[ex]
 |t::ts,h=>by simp only[ex];exact⟨h 0 t rfl,so fun i u hu=>h (i+1) u (by simpa using hu)⟩
theorem sM{P:Program}{e:TypeId}{z:Nat}:∀{l:List (DataW H)} {i:Nat} {d:DataW H},l[i]? =some d->z∈d.weights P e->z∈DataW.weightsAll P e l
 |d0::l,0,d,hd,hz=>by simp only[List.getElem?_cons_zero,Option.some.injEq] at hd;subst hd;simp only[DataW.weightsAll,List.mem_append];exact .inl hz
 |d0::l,i+1,d,hd,hz=>by simp only[List.getElem?_cons_succ] at hd;simp only[DataW.weightsAll,List.mem_append];exact .inr (sM hd hz)
 |[],_,_,hd,_=>by simp at hd
def py(enc:TypeId×Value->H)(W:World)(spare:Nat->Bool)(held:Bool)(n:Nat):Prop:=∀(cs:List Value) (x:DataW H×List MemPlace),DataW.trod enc Tryz.prog W 0 spare held n 25 cs=some x->∃t,pB W cs t/\((∀z∈x.1.weights Tryz.prog 25,z<=reachBytes)->t.short LL)
theorem q9{n:Nat}(ih:∀q,q<n->py enc W spare held q){cs:List Value}{x:DataW H×List MemPlace}(h:DataW.trod enc Tryz.prog W 0 spare held n 23 cs=some x):∃A ts c,cs=[.slice A ts.length c]/\ce W ts A ts.length c/\((∀z∈x.1.weights Tryz.prog 23,z<=reachBytes)->ex LL ts):=by
 have k4:Tryz.prog.cellsOf 25=4:=(by kernel_rfl);rcases DataW.trod_slice Tryz.underlying23 h with ⟨g3,_⟩|⟨a,len,cap,elems,rest,q,rfl,g3,hx0,_,hle,hcm,hel,hx,_⟩
 .subst g3;exact⟨none,[],0,rfl,ce.nil _ _ (aE _),fun _=>by simp[ex]⟩
 .subst g3;obtain⟨ts,h1,h2⟩:=pT (α:=ag) (n:=len) (p:=fun i t=>(∃b o,a.add (i*4)=⟨b,o,none⟩/\cJ W t b o)/\((∀z∈x.1.weights Tryz.prog 23,z<=reachBytes)->t.short LL)) (fun i hi=>by have h3:=hx i hi;rw[br (by omega),k4] at h3;obtain⟨cs',h4,h5⟩:=Option.bind_eq_some_iff.1 h3;obtain⟨t,ht,hsh⟩:=ih q (by omega) cs' _ h5;obtain⟨b,o,h6,h7⟩:=ui h4 ht;refine⟨t,⟨b,o,h6,h7⟩,fun hz=>hsh fun z hm=>hz z ?_⟩;rw[hx0];simp only[DataW.weights,Tryz.underlying23,List.mem_cons,List.mem_append];exact .inr (.inl (sM (i:=i) (by rw[List.getElem?_map,br (by omega)];rfl) hm)))
  refine⟨some a,ts,cap,by rw[h1],⟨rfl,by rw[h1];exact hle,hcm,?_⟩,fun hz=>so fun i t ht=>(h2 i t ht).2 hz⟩;by_cases h0:ts=[]
  .exact .inl h0
  .right;obtain⟨t0,ht0⟩:∃t,ts[0]? =some t:=⟨ts[0]'(List.length_pos_iff.2 h0),br _⟩;obtain⟨⟨b,o,h3,_⟩,_⟩:=h2 0 t0 ht0;have ha:a=⟨b,o,none⟩:=(by simpa[Addr.add] using h3);refine⟨b,o,by rw[ha],ch.mk fun i t ht=>?_⟩;obtain⟨⟨b',o',h4,h5⟩,_⟩:=h2 i t ht;rw[ha,CE] at h4;injection h4 with h6 h7;subst h6 h7;exact h5
theorem jN{P:Program}{t:TypeId}{fs:Array Field}(hu:P.underlying t=some (.struct fs)){ds:List (DataW H)}{i:Nat}{f:Field}{d:DataW H}(hf:fs[i]? =some f)(hd:ds[i]? =some d){z:Nat}(hz:z∈d.weights P f.type):z∈(DataW.agg ds:DataW H).weights P t:=by simp only[DataW.weights,hu];exact DataW.weights_mem_each (j:=i) (t:=f.type) (by simp[hf]) hd z hz
theorem xw:∀(n:Nat),py enc W spare held n:=by
 intro n;induction n using Nat.strongRecOn with
 |_ n ih=>
  intro cs x h;obtain⟨xs,m,rfl,rfl,hl,hlen,hf⟩:=DataW.trod_struct Tryz.underlying25 h;obtain⟨c0,c1,c2,c3,rfl⟩:=qK (hl.trans (by kernel_rfl));obtain⟨y0,y1,y2,y3,rfl⟩:=qK (hlen.trans rfl);have e0:=hf 0 _ rfl;have e1:=hf 1 _ rfl;have e2:=hf 2 _ rfl;have e3:=hf 3 _ rfl;have k0:Tryz.prog.cellsOf 22=1:=(by kernel_rfl);have k1:Tryz.prog.cellsOf 9=1:=(by kernel_rfl);have k2:Tryz.prog.cellsOf 2=1:=(by kernel_rfl);have k3:Tryz.prog.cellsOf 23=1:=(by kernel_rfl);simp[k0] at e0;simp[k1] at e1;simp[k2] at e2;simp[k3] at e3;obtain⟨a0,g0,-,w0⟩:=DataW.trod_int Tryz.underlying22 e0;obtain⟨a1,g1,hy1,w1⟩:=DataW.trod_string Tryz.underlying9 e1;obtain⟨a2,g2,-,w2⟩:=DataW.trod_int Tryz.underlying2 e2;obtain⟨A,ts,c,g3,hk,hsh⟩:=q9 (fun q hq=>ih q (Nat.lt_succ_of_lt hq)) e3;injection g0 with g0;injection g1 with g1;injection g2 with g2;injection g3 with g3;subst g0 g1 g2 g3;have b0:∃k:Nat,a0=k/\k<=255:=by have h8:=(Go.Lit.wf_int_iff _ _).1 w0;rw[show IntKind.min .u8=0 by decide,show IntKind.max .u8=255 by decide] at h8;exact⟨a0.toNat,by omega,by omega⟩
  have b2:tw a2:=by have h8:=(Go.Lit.wf_int_iff _ _).1 w2;rw[show IntKind.min .i64= -9223372036854775808 by decide,show IntKind.max .i64=9223372036854775807 by decide] at h8;exact h8
  obtain⟨k,rfl,hk0⟩:=b0;refine⟨.node k (bl a1) a2 ts,⟨A,c,rfl,hk,hk0,w1,b2⟩,fun hz=>?_⟩;simp only[ag.short];refine⟨?_,hsh fun z hm=>hz z (jN (i:=3) Tryz.underlying25 rfl rfl hm)⟩;have:=hz a1.data.toList.length (jN (i:=1) Tryz.underlying25 rfl rfl (by simp[hy1,DataW.weights]));unfold reachBytes at this;exact aJ this (by decide)
end
end Go.Proofs.YtckbdkgcoilmpaaGreatDoor
