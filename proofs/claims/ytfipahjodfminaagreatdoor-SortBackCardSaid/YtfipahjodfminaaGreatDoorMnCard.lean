/- Part 27 of the proof. -/
import Derived.Test.YtfipahjodfminaaGreatDoorCards
import Derived.Test.YtfipahjodfminaaGreatDoorTie
import Derived.ProofKit
import Derived.LaidMore
import Derived.OpenShut
import Derived.Carry
import Derived.Stop.Joined
import Derived.Stop.LaidErr
import Derived.Lib.LaidTab
import Derived.Deep.DeepHandedRow
import Derived.Test.YtfipahjodfminaaGreatDoorMnY
import Derived.Test.YtfipahjodfminaaGreatDoorMnZ
namespace Go.Proofs.YtfipahjodfminaaGreatDoor
open Go.RowKit
set_option linter.all false
set_option maxHeartbeats 40000000
set_option maxRecDepth 100000
section
open Go.ChangeShapes Go.WideShapes Go.ChangeAt Go.RowKit
theorem own:ownKnob Tryz.prog.godebug=none:=by kernel_rfl
theorem vk:Tryz.prog.globalNamed "strings.asciiSpace"=some 0:=by kernel_rfl
theorem AW:(Tryz.prog.globals[0]?).map (·.type)=some 221:=by kernel_rfl
theorem GG:Tryz.prog.cellsOf 221=256:=by kernel_rfl
theorem ud:Tryz.prog.cellsOf 5=1:=by kernel_rfl
theorem wC:laidOutB Tryz.prog=true:=by kernel_rfl
theorem zQ:Tryz.prog.readableRec 29=true:=by kernel_rfl
theorem zY:29<Tryz.prog.types.size:=of_decide_eq_true (by kernel_rfl)
theorem AJ{W:World}(h:laidMet Tryz.prog [("strings.asciiSpace",Rows.laid_strings_asciiSpace)] W):Lib.TabIs Tryz.prog W "strings.asciiSpace" .u8 Lib.asciiSpaceTab:=
 Lib.tabIs_of_head (rest:=[]) vk AW Tryz.underlying221 Tryz.underlying5 ud GG (by rw[show Lib.tabData (H:=Unit) .u8 Lib.asciiSpaceTab=Rows.laid_strings_asciiSpace from by kernel_rfl];exact h)
theorem wD{P:Program}{l:List (String×DataW Unit)}{w:World}(h:(l.all fun x=>x.2.handleName?.isNone)=true)(hm:laidMetH P l w):laidMet P l w:=by rw[MakeChecks.laidMetH_plain P l w h] at hm;exact hm
theorem GU{W:World}(h:laidMetH Tryz.prog Rows.sortBackRow.laid W):bI W:=by exact⟨AJ (wD (by kernel_rfl) h).tail⟩
section
variable {H:Type} {enc:TypeId×Value->H}
theorem pJ{W:World}{r:Reach}{base:Nat}{v:Value}{d:DataW H}{ps:List MemPlace}(hv:Value.okWide Tryz.prog W r base 29 v)(h:DataW.Trod enc Tryz.prog W 0 (fun _=>true) true 29 v d ps):∃(e:aj) (k:Nat) (pA:Option Addr) (pn pc:Nat) (i j:Int) (f t:ByteArray) (oA:Option Addr) (on oc:Nat) (nA:Option Addr) (nn nc:Nat),v= .agg #[.int .u8 k,.slice pA pn pc,.int .i64 i,.int .i64 j,.string f,.string t,.slice oA on oc,.slice nA nn nc]/\ay W e k pA pn pc i j f t oA on oc nA nn nc/\((∀z∈d.weights Tryz.prog 29,z<=reachBytes)->e.fine):=by obtain⟨cs,rfl,_⟩:=okWide_struct Tryz.underlying29 hv;obtain⟨n,hn⟩:=h;obtain⟨e,k,pA,pn,pc,i,j,f,t,oA,on,oc,nA,nn,nc,hcs,hI,hf,_⟩:=xt hn;have h2:cs.toList=[.int .u8 k,.slice pA pn pc,.int .i64 i,.int .i64 j,.string f,.string t,.slice oA on oc,.slice nA nn nc]:=hcs;refine⟨e,k,pA,pn,pc,i,j,f,t,oA,on,oc,nA,nn,nc,?_,hI,hf⟩;rw[<-Array.toArray_toList (xs:=cs),h2]
end
theorem Is:Tryz.prog.readableRec 25=true:=by kernel_rfl
theorem IA:25<Tryz.prog.types.size:=of_decide_eq_true (by kernel_rfl)
section
variable {H:Type} {enc:TypeId×Value->H}
theorem GC{W:World}{r:Reach}{base:Nat}{v:Value}{d:DataW H}{ps:List MemPlace}(hv:Value.okWide Tryz.prog W r base 25 v)(h:DataW.Trod enc Tryz.prog W 0 (fun _=>true) true 25 v d ps):∃(t:ag) (A:Option Addr) (c:Nat),v= .agg #[.int .u8 t.kind,.string (sb t.text),.int .i64 t.num,.slice A t.kids.length c]/\cf W t t.kind (sb t.text) t.num A t.kids.length c/\((∀z∈d.weights Tryz.prog 25,z<=reachBytes)->t.short LL):=by
 obtain⟨cs,rfl,_⟩:=okWide_struct Tryz.underlying25 hv;obtain⟨n,hn⟩:=h;obtain⟨t,⟨A,c,hcs,hK,b1,b2,b3⟩,hf⟩:=xw n _ _ hn;have h2:cs.toList=[.int .u8 t.kind,.string (sb t.text),.int .i64 t.num,.slice A t.kids.length c]:=hcs;refine⟨t,A,c,?_,?_,hf⟩
 .rw[<-Array.toArray_toList (xs:=cs),h2]
 .obtain⟨k,s,x,ks⟩:=t;exact⟨ks,rfl,b1,by have b2':s.length<=maxLen:=b2;show s.toArray.size<=_;simpa using b2',b3,hK⟩
end
theorem Rs(os:Os)(args:Array Value):laidMetH Tryz.prog Rows.sortBackRow.laid ((World.doorLaid Tryz.prog 33 os).forCall (fun _ _=>0) ⟨#[],args,[]⟩).memory:=
 laidMetH_of_parts3 (fuel:=8) (laidMet_of_run' 8 (by kernel_rfl) (by kernel_rfl)) (by kernel_rfl) (by kernel_rfl)
theorem Rr(os:Os)(started:os.Started)(H:Type)(enc:TypeId×Value->H):ReturnsInHanded {} Tryz.checked os 6 .any (fun w args=>(Rows.sortBackSpec.pre enc Tryz.prog Tryz.f6 [] false w args/\laidMetH Tryz.prog Rows.sortBackRow.laid w)/\sizedMet enc Tryz.prog Tryz.f6 (OpenSpec.ofChange Rows.sortBackSpec) false w args) (Rows.sortBackSpec.post enc Tryz.prog Tryz.f6 false true false false):=by
 refine returnsInHanded_of_change_and (C:=Tryz.checked) (X:=fun w _=>laidMetH Tryz.prog Rows.sortBackRow.laid w) (fun _ _ _ hh h=>h.of_heap hh) own started (by kernel_rfl) Tryz.func6
  (ChangeSpec.witness_shaped (enc:=enc) (C:=Tryz.checked) (os:=os) (X:=fun w _=>laidMetH Tryz.prog Rows.sortBackRow.laid w) false (World.doorLaid Tryz.prog 33 os) #[.agg #[.int .u8 0,.string ⟨#[]⟩,.int .i64 0,.slice none 0 0],.agg #[.int .u8 0,.slice none 0 0,.int .i64 0,.int .i64 0,.string ⟨#[]⟩,.string ⟨#[]⟩,.slice none 0 0,.slice none 0 0]] 8 rfl (World.shaped_of_RefB (by kernel_rfl) (by kernel_rfl)) (by kernel_rfl) (by kernel_rfl) (by kernel_rfl) (Rs os _)) ?_
 intro W base args ds gs before hval0 hW _ hsz0 hL _;have hval:∀(j:Nat) t v,Tryz.f6.params[j]? =some t->args[j]? =some v->Value.okWide Tryz.prog W .any base t v:=hval0;have hW':=hW;have hlt:=hW'.lt;obtain⟨p,q,hA0,hV,rfl,hfz,hnd⟩:=hW;have hA:DataW.TrodAll enc Tryz.prog W 0 (fun _=>true) true Tryz.f6.params.toList args.toList ds p:=hA0;rw[Tryz.params6] at hA hval;obtain⟨rfl,rfl⟩:=trodVars_none hV;clear hA0 hV;simp only[List.append_nil] at hW' hlt;have hE:=GU hL;obtain⟨v0,vs0,d0,ds0,p0,q0,ha,rfl,rfl,h0,hA⟩:=trodAll_cons hA;obtain⟨v1,vs1,d1,ds1,p1,q1,rfl,rfl,rfl,h1,hA⟩:=trodAll_cons hA;obtain⟨rfl,rfl,rfl⟩:=trodAll_nil hA;obtain rfl:args= #[v0,v1]:=(by rw[<-Array.toArray_toList (xs:=args),ha]);obtain⟨n0,A,c,rfl,hI0,hf0⟩:=GC (hval 0 25 v0 rfl rfl) h0;have hF0:=hf0 (fun z hz=>by have:=List.all_eq_true.1 hsz0 z (DataW.weights_mem_each (j:=0) (t:=25) (d:=d0) (by rfl) (by rfl) z hz);simpa using this)
 obtain⟨e,ke,pA,pn,pc,i,j,f,t,oA,on,oc,nA,nn,nc,rfl,hI1,hf1⟩:=pJ (hval 1 29 v1 rfl rfl) h1;have hF1:=hf1 (fun z hz=>by have:=List.all_eq_true.1 hsz0 z (DataW.weights_mem_each (j:=1) (t:=29) (d:=d1) (by rfl) (by rfl) z hz);simpa using this)
 clear hval hval0 hf0 hf1;obtain⟨z1,z2,z3,z4,z5⟩:=hF1;have y1:pn<=17592186044416:=(by obtain⟨ps,os',ns,rfl,hp,_⟩:=hI1;rw[hp.1];exact z1);have y2:f.size<=140737488355328:=(by obtain⟨ps,os',ns,rfl,_⟩:=hI1;have h:(bl f).length<=140737488355328:=z2;rwa [dt] at h);have y3:t.size<=140737488355328:=(by obtain⟨ps,os',ns,rfl,_⟩:=hI1;have h:(bl t).length<=140737488355328:=z3;rwa [dt] at h);refine(PM n0 n0.kind (sb n0.text) n0.num A n0.kids.length c e ke pA pn pc i j f t oA on oc nA nn nc W hI0 hE hF0 hI1 y1 y2 y3 z4 z5).mono fun en W' ⟨he,hb⟩=>?_;subst he;exact⟨_,rfl,_,_,_,[],_,[],hW',trodAll_mk1 (shut_bool Tryz.underlying4 _),trodAll_cons_mk (Below.trod wC Is IA h0 hb fun x hx=>hlt x (by simp[hx])) (trodAll_cons_mk (Below.trod wC zQ zY h1 hb fun x hx=>hlt x (by simp[hx])) trodAll_mk0),rfl,hb.frame _,fun h=>by cases h⟩
theorem Rx:Rows.SortBackSaid:=
 OpenClaim.holds_of_wide 6 Tryz.f6 rfl rfl rfl rfl rfl rfl rfl ⟨rfl,rfl,rfl,rfl,rfl⟩ rfl rfl rfl rfl rfl (by kernel_rfl) Tryz.func6 (by kernel_rfl)
  (of_decide_eq_true (by kernel_rfl)) (by unfold Func.isWrapper;first|(rw[if_pos (by decide+kernel)];kernel_rfl)|(rw[if_neg (by decide+kernel)];exact⟨rfl,rfl⟩))
  (fun os started H enc _=>Rr os started H enc)
theorem Rw(f:FuncId)(fn:Func)(hf:Tryz.pinned.checked.prog.funcNamed "clerestory/clerestorylaw15.SortBack"=some f)(hfn:Tryz.pinned.checked.prog.funcs[f]? =some fn):true=Tryz.pinned.checked.prog.looks []/\∀(j:Nat) t,fn.params[j]? =some t->Tryz.pinned.checked.prog.wantsStandIn t=false:=by obtain rfl:f=6:=Option.some.inj ((show Tryz.prog.funcNamed "clerestory/clerestorylaw15.SortBack"=some 6 by kernel_rfl).symm.trans hf) |>.symm;obtain rfl:fn=Tryz.f6:=(Option.some.inj (Tryz.func6.symm.trans hfn)).symm;refine⟨by kernel_rfl,fun j t ht=>?_⟩;rw[Tryz.params6] at ht;have hm:t∈[25,29]:=(by simpa using Array.mem_of_getElem? ht);have hall:([25,29].all fun u=> !Tryz.prog.wantsStandIn u)=true:=(by kernel_rfl);exact(show Tryz.prog.wantsStandIn t=false by simpa using List.all_eq_true.1 hall t hm)
theorem sortBack_card:Rows.SortBackCardSaid:=
 Claim7.holds_tied_plain_at .later [] _ _ _ _ Rx (fun _ h=>by cases h) (by kernel_rfl) (fun _ h=>by cases h) sortBack_row_tie rfl ⟨rfl,rfl⟩ (by kernel_rfl) rfl Rw (by kernel_rfl)
#print axioms sortBack_card
end
end Go.Proofs.YtfipahjodfminaaGreatDoor
