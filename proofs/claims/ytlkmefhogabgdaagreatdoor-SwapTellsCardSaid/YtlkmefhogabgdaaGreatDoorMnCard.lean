/- Part 39 of the proof. -/
import Derived.Test.YtlkmefhogabgdaaGreatDoorMnzL
namespace Go.Proofs.YtlkmefhogabgdaaGreatDoor
open Go.RowKit
set_option linter.all false
set_option maxHeartbeats 40000000
set_option maxRecDepth 100000
section
open Go.ChangeShapes Go.WideShapes Go.ChangeAt Go.RowKit
theorem AN(os:Os)(args:Array Value):laidMetH Tryz.prog Rows.swapTellsRow.laid ((World.doorLaid Tryz.prog 33 os).forCall (fun _ _=>0) ⟨#[],args,[]⟩).memory:=
 laidMetH_of_parts3 (fuel:=8) (laidMet_of_run' 8 (by kernel_rfl) (by kernel_rfl)) (by kernel_rfl) (by kernel_rfl)
theorem AM(os:Os)(started:os.Started)(H:Type)(enc:TypeId×Value->H):ReturnsInHanded {} Tryz.checked os 3 .any (fun w args=>(Rows.swapTellsSpec.pre enc Tryz.prog Tryz.f3 [] false w args/\laidMetH Tryz.prog Rows.swapTellsRow.laid w)/\sizedMet enc Tryz.prog Tryz.f3 (OpenSpec.ofChange Rows.swapTellsSpec) false w args) (Rows.swapTellsSpec.post enc Tryz.prog Tryz.f3 false true false false):=by
 refine returnsInHanded_of_change_and (C:=Tryz.checked) (X:=fun w _=>laidMetH Tryz.prog Rows.swapTellsRow.laid w) (fun _ _ _ hh h=>h.of_heap hh) own started (by kernel_rfl) Tryz.func3
  (ChangeSpec.witness_shaped (enc:=enc) (C:=Tryz.checked) (os:=os) (X:=fun w _=>laidMetH Tryz.prog Rows.swapTellsRow.laid w) false (World.doorLaid Tryz.prog 33 os) #[.agg #[.int .u8 0,.slice none 0 0,.int .i64 0,.int .i64 0,.string ⟨#[]⟩,.string ⟨#[]⟩,.slice none 0 0,.slice none 0 0],.agg #[.int .u8 0,.slice none 0 0,.int .i64 0,.int .i64 0,.string ⟨#[]⟩,.string ⟨#[]⟩,.slice none 0 0,.slice none 0 0]] 8 rfl (World.shaped_of_RefB (by kernel_rfl) (by kernel_rfl)) (by kernel_rfl) (by kernel_rfl) (by kernel_rfl) (AN os _)) ?_
 intro W base args ds gs before hval0 hW _ hsz0 hL _;have hval:∀(j:Nat) t v,Tryz.f3.params[j]? =some t->args[j]? =some v->Value.okWide Tryz.prog W .any base t v:=hval0;have hW':=hW;have hlt:=hW'.lt;obtain⟨p,q,hA0,hV,rfl,hfz,hnd⟩:=hW;have hA:DataW.TrodAll enc Tryz.prog W 0 (fun _=>true) true Tryz.f3.params.toList args.toList ds p:=hA0;rw[Tryz.params3] at hA hval;obtain⟨v0,v1,d0,d1,p0,p1,rfl,rfl,rfl,h0,h1⟩:=trodAll_two hA;obtain⟨rfl,rfl⟩:=trodVars_none hV;clear hA0 hV;simp only[List.append_nil] at hW' hlt;have hE:=uM hL;have z0:∀z∈d0.weights Tryz.prog 26,z<=reachBytes:=fun z hz=>by have:=List.all_eq_true.1 hsz0 z (DataW.weights_mem_each (j:=0) (t:=26) (d:=d0) (by rfl) (by rfl) z hz);simpa using this
 have z1:∀z∈d1.weights Tryz.prog 26,z<=reachBytes:=fun z hz=>by have:=List.all_eq_true.1 hsz0 z (DataW.weights_mem_each (j:=1) (t:=26) (d:=d1) (by rfl) (by rfl) z hz);simpa using this
 obtain⟨e0,k,pA,pn,pc,i,j,f,t,oA,on,oc,nA,nn,nc,hv0,hI0,hf0⟩:=pJ (hval 0 26 v0 rfl rfl) h0;obtain⟨e1,k',pA',pn',pc',i',j',f',t',oA',on',oc',nA',nn',nc',hv1,hI1,hf1⟩:=pJ (hval 1 26 v1 rfl rfl) h1;have hF0:=hf0 z0;have hF1:=hf1 z1;subst hv0 hv1;clear hf0 hf1 z0 z1 hval hval0;refine(wB e0 e1 k pA pn pc i j f t oA on oc nA nn nc k' pA' pn' pc' i' j' f' t' oA' on' oc' nA' nn' nc' W hI0 hI1 hE hF0 hF1).mono fun e W' ⟨he,hb⟩=>?_;subst he;exact⟨_,rfl,_,_,_,[],_,[],hW',trodAll_mk1 (shut_bool Tryz.underlying4 _),trodAll_mk2 (qf h0 hb fun x hx=>hlt x (by simp[hx])) (qf h1 hb fun x hx=>hlt x (by simp[hx])),rfl,hb.frame _,fun h=>by cases h⟩
theorem AP:Rows.SwapTellsSaid:=
 OpenClaim.holds_of_wide 3 Tryz.f3 rfl rfl rfl rfl rfl rfl rfl ⟨rfl,rfl,rfl,rfl,rfl⟩ rfl rfl rfl rfl rfl (by kernel_rfl) Tryz.func3 (by kernel_rfl)
  (of_decide_eq_true (by kernel_rfl)) (by unfold Func.isWrapper;first|(rw[if_pos (by decide+kernel)];kernel_rfl)|(rw[if_neg (by decide+kernel)];exact⟨rfl,rfl⟩))
  (fun os started H enc _=>AM os started H enc)
theorem AO(f:FuncId)(fn:Func)(hf:Tryz.pinned.checked.prog.funcNamed "clerestory/clerestorylaw16.SwapTells"=some f)(hfn:Tryz.pinned.checked.prog.funcs[f]? =some fn):false=Tryz.pinned.checked.prog.looks []/\∀(j:Nat) t,fn.params[j]? =some t->Tryz.pinned.checked.prog.wantsStandIn t=false:=by obtain rfl:f=3:=Option.some.inj ((show Tryz.prog.funcNamed "clerestory/clerestorylaw16.SwapTells"=some 3 by kernel_rfl).symm.trans hf) |>.symm;obtain rfl:fn=Tryz.f3:=(Option.some.inj (Tryz.func3.symm.trans hfn)).symm;refine⟨by kernel_rfl,fun j t ht=>?_⟩;rw[Tryz.params3] at ht;have hm:t∈[26,26]:=(by simpa using Array.mem_of_getElem? ht);have hall:([26,26].all fun u=> !Tryz.prog.wantsStandIn u)=true:=(by kernel_rfl);exact(show Tryz.prog.wantsStandIn t=false by simpa using List.all_eq_true.1 hall t hm)
theorem swapTells_card:Rows.SwapTellsCardSaid:=
 Claim7.holds_tied_plain_at .later [] _ _ _ _ AP (fun _ h=>by cases h) (by kernel_rfl) (fun _ h=>by cases h) swapTells_row_tie rfl ⟨rfl,rfl⟩ (by kernel_rfl) rfl AO (by kernel_rfl)
#print axioms swapTells_card
end
end Go.Proofs.YtlkmefhogabgdaaGreatDoor
