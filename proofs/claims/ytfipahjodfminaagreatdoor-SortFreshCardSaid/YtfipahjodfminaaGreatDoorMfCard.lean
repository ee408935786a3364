/- Part 27 of the proof. -/
import Derived.Test.YtfipahjodfminaaGreatDoorMfZ
namespace Go.Proofs.YtfipahjodfminaaGreatDoor
open Go.RowKit
set_option linter.all false
set_option maxHeartbeats 40000000
set_option maxRecDepth 100000
section
open Go.ChangeShapes Go.WideShapes Go.ChangeAt Go.RowKit
set_option linter.unusedVariables false
set_option maxRecDepth 100000 in
theorem SZ{W:World}(h:laidMetH Tryz.prog Rows.sortFreshRow.laid W):bI W:=by exact⟨AJ (wD (by kernel_rfl) h).tail⟩
theorem BE:Tryz.prog.readableRec 3=true:=by kernel_rfl
theorem BF:3<Tryz.prog.types.size:=of_decide_eq_true (by kernel_rfl)
theorem BM:Tryz.prog.readableRec 27=true:=by kernel_rfl
theorem BN:27<Tryz.prog.types.size:=of_decide_eq_true (by kernel_rfl)
theorem BH{H:Type}{enc:TypeId×Value->H}{W:World}{r:Reach}{base:Nat}{v:Value}{d:DataW H}{ps:List MemPlace}(hv:Value.okWide Tryz.prog W r base 27 v)(h:DataW.Trod enc Tryz.prog W 0 (fun _=>true) true 27 v d ps):∃(A:Option Addr) (zs:List Int) (c:Nat),v= .slice A zs.length c/\cc W zs A zs.length c:=by obtain⟨a,len,cap,rfl⟩:=okWide_slice Tryz.underlying27 hv;obtain⟨n,hn⟩:=h;obtain⟨A,zs,c,hc,hI,_⟩:=xv hn;have h2:[Value.slice a len cap]=[.slice A zs.length c]:=hc;injection h2 with h2;exact⟨A,zs,c,h2,hI⟩
theorem To(os:Os)(args:Array Value):laidMetH Tryz.prog Rows.sortFreshRow.laid ((World.doorLaid Tryz.prog 33 os).forCall (fun _ _=>0) ⟨#[],args,[]⟩).memory:=
 laidMetH_of_parts3 (fuel:=8) (laidMet_of_run' 8 (by kernel_rfl) (by kernel_rfl)) (by kernel_rfl) (by kernel_rfl)
theorem Tn(os:Os)(started:os.Started)(H:Type)(enc:TypeId×Value->H):ReturnsInHanded {} Tryz.checked os 5 .any (fun w args=>(Rows.sortFreshSpec.pre enc Tryz.prog Tryz.f5 [] false w args/\laidMetH Tryz.prog Rows.sortFreshRow.laid w)/\sizedMet enc Tryz.prog Tryz.f5 (OpenSpec.ofChange Rows.sortFreshSpec) false w args) (Rows.sortFreshSpec.post enc Tryz.prog Tryz.f5 false true false false):=by
 refine returnsInHanded_of_change_and (C:=Tryz.checked) (X:=fun w _=>laidMetH Tryz.prog Rows.sortFreshRow.laid w) (fun _ _ _ hh h=>h.of_heap hh) own started (by kernel_rfl) Tryz.func5
  (ChangeSpec.witness_shaped (enc:=enc) (C:=Tryz.checked) (os:=os) (X:=fun w _=>laidMetH Tryz.prog Rows.sortFreshRow.laid w) false (World.doorLaid Tryz.prog 33 os) #[.agg #[.int .u8 0,.string ⟨#[]⟩,.int .i64 0,.slice none 0 0],.slice none 0 0,.int .i64 0] 8 rfl (World.shaped_of_RefB (by kernel_rfl) (by kernel_rfl)) (by kernel_rfl) (by kernel_rfl) (by kernel_rfl) (To os _)) ?_
 intro W base args ds gs before hval0 hW _ hsz0 hL _;have hval:∀(j:Nat) t v,Tryz.f5.params[j]? =some t->args[j]? =some v->Value.okWide Tryz.prog W .any base t v:=hval0;have hW':=hW;have hlt:=hW'.lt;obtain⟨p,q,hA0,hV,rfl,hfz,hnd⟩:=hW;have hA:DataW.TrodAll enc Tryz.prog W 0 (fun _=>true) true Tryz.f5.params.toList args.toList ds p:=hA0;rw[Tryz.params5] at hA hval;obtain⟨rfl,rfl⟩:=trodVars_none hV;clear hA0 hV;simp only[List.append_nil] at hW' hlt;have hE:=SZ hL;obtain⟨v0,vs0,d0,ds0,p0,q0,ha,rfl,rfl,h0,hA⟩:=trodAll_cons hA;obtain⟨v1,vs1,d1,ds1,p1,q1,rfl,rfl,rfl,h1,hA⟩:=trodAll_cons hA;obtain⟨v2,vs2,d2,ds2,p2,q2,rfl,rfl,rfl,h2,hA⟩:=trodAll_cons hA;obtain⟨rfl,rfl,rfl⟩:=trodAll_nil hA;obtain rfl:args= #[v0,v1,v2]:=(by rw[<-Array.toArray_toList (xs:=args),ha]);obtain⟨n0,A,c,rfl,hI0,hf0⟩:=GC (hval 0 25 v0 rfl rfl) h0;have hF0:=hf0 (fun z hz=>by have:=List.all_eq_true.1 hsz0 z (DataW.weights_mem_each (j:=0) (t:=25) (d:=d0) (by rfl) (by rfl) z hz);simpa using this)
 obtain⟨A1,z1,c1,rfl,hI1⟩:=BH (hval 1 27 v1 rfl rfl) h1;obtain⟨x2,rfl⟩:=okWide_int Tryz.underlying3 (hval 2 3 v2 rfl rfl);clear hval hval0 hf0;refine(S9 n0 n0.kind (sb n0.text) n0.num A n0.kids.length c z1 A1 z1.length c1 x2 W hI0 hE hF0 hI1).mono fun en W' ⟨he,hb⟩=>?_;subst he;exact⟨_,rfl,_,_,_,[],_,[],hW',trodAll_mk1 (shut_bool Tryz.underlying4 _),trodAll_cons_mk (Below.trod wC Is IA h0 hb fun x hx=>hlt x (by simp[hx])) (trodAll_cons_mk (Below.trod wC BM BN h1 hb fun x hx=>hlt x (by simp[hx])) (trodAll_cons_mk (Below.trod wC BE BF h2 hb fun x hx=>hlt x (by simp[hx])) trodAll_mk0)),rfl,hb.frame _,fun h=>by cases h⟩
theorem Tq:Rows.SortFreshSaid:=
 OpenClaim.holds_of_wide 5 Tryz.f5 rfl rfl rfl rfl rfl rfl rfl ⟨rfl,rfl,rfl,rfl,rfl⟩ rfl rfl rfl rfl rfl (by kernel_rfl) Tryz.func5 (by kernel_rfl)
  (of_decide_eq_true (by kernel_rfl)) (by unfold Func.isWrapper;first|(rw[if_pos (by decide+kernel)];kernel_rfl)|(rw[if_neg (by decide+kernel)];exact⟨rfl,rfl⟩))
  (fun os started H enc _=>Tn os started H enc)
theorem Tp(f:FuncId)(fn:Func)(hf:Tryz.pinned.checked.prog.funcNamed "clerestory/clerestorylaw15.SortFresh"=some f)(hfn:Tryz.pinned.checked.prog.funcs[f]? =some fn):true=Tryz.pinned.checked.prog.looks []/\∀(j:Nat) t,fn.params[j]? =some t->Tryz.pinned.checked.prog.wantsStandIn t=false:=by obtain rfl:f=5:=Option.some.inj ((show Tryz.prog.funcNamed "clerestory/clerestorylaw15.SortFresh"=some 5 by kernel_rfl).symm.trans hf) |>.symm;obtain rfl:fn=Tryz.f5:=(Option.some.inj (Tryz.func5.symm.trans hfn)).symm;refine⟨by kernel_rfl,fun j t ht=>?_⟩;rw[Tryz.params5] at ht;have hm:t∈[25,27,3]:=(by simpa using Array.mem_of_getElem? ht);have hall:([25,27,3].all fun u=> !Tryz.prog.wantsStandIn u)=true:=(by kernel_rfl);exact(show Tryz.prog.wantsStandIn t=false by simpa using List.all_eq_true.1 hall t hm)
theorem sortFresh_card:Rows.SortFreshCardSaid:=
 Claim7.holds_tied_plain_at .later [] _ _ _ _ Tq (fun _ h=>by cases h) (by kernel_rfl) (fun _ h=>by cases h) sortFresh_row_tie rfl ⟨rfl,rfl⟩ (by kernel_rfl) rfl Tp (by kernel_rfl)
#print axioms sortFresh_card
end
end Go.Proofs.YtfipahjodfminaaGreatDoor
