/- Part 25 of the proof. -/
import Derived.Test.YtlkmefhogabgdaaGreatDoorMnQ
namespace Go.Proofs.YtlkmefhogabgdaaGreatDoor
open Go.RowKit
set_option linter.all false
set_option maxHeartbeats 40000000
set_option maxRecDepth 100000
theorem tp{w w1:World}{d:Nat}{xs ps:List Int}{b b':Nat}{A:Option Addr}{n c:Nat}{k:Nat}{pA:Option Addr}{pn pc:Nat}{i j:Int}{x4 x5 x6 x7:Value}(h:e9 w xs ps b b' A n c k pA pn pc i j x4 x5 x6 x7)(hb:Below (w.drewN d).heap.size (w.drewN d) w1):w1.cell? ⟨b',0,none⟩=some (.slice A n c)/\w1.cell? ⟨b,1,none⟩=some (.slice pA pn pc)/\aA w1 xs A n c/\aA w1 ps pA pn pc/\Hid (Below w.heap.size w w1):=by have hb':Below w.heap.size w w1:=(ax (ai _ _) d).trans hb;have h':=h.below hb';exact⟨h'.way,h'.box.2.1,h'.hx,h'.hp,hb'⟩
theorem yM{w:World}{xs ps:List Int}{b b':Nat}{A:Option Addr}{n c:Nat}{k:Nat}{pA:Option Addr}{pn pc:Nat}{i j:Int}{x4 x5 x6 x7:Value}(h:e9 w xs ps b b' A n c k pA pn pc i j x4 x5 x6 x7):Calls Tryz.prog 67 #[.pointer (some ⟨b',0,none⟩),.pointer (some ⟨b,0,none⟩)] w (bL (if bu xs ps then none else some xs) w):=by
 have H:=aa h;have hw:=h.way;obtain⟨c0,c1,c2,c3,c4,c5,c6,c7⟩:=h.box;clear h;generalize hu:bu xs ps=u;have HU:=aa hu;clear hu;generalize hr:(if u=true then none else some xs)=r;have HR:=aa hr;clear hr
 go_in
 go_wp2_with fail
 go_region_with (first
  |(go_at_call 59;refine(gV xs _ _ _ _ (by first|exact H.out.hx.drewN 1|exact(H.out.hx.drewN _).drewN _) H.out.hn).mono ?_;rintro e w1 ⟨A1,k1,rfl,ho,hb⟩;obtain⟨hw1,hd1,hxx1,hpp1,hbb1⟩:=tp H.out hb)
  |(go_at_call 68;refine(jG xs ps _ _ _ _ _ _ _ (by first|exact hxx1|exact H.out.hx.drewN 1) (by first|exact hpp1|exact H.out.hp.drewN 1)).mono ?_;rintro e w2 ⟨rfl,q,rfl⟩))
 all_goals
  rw[HU.out];cases u
  .go_wp2_with fail
   go_ret2
   rw[<-HR.out];exact bL.yes rfl rfl (bM ho (ax (ai _ _) q) (ah _)) (ax hbb1.out q)
  .go_wp2_with fail
   go_ret2
   rw[<-HR.out];exact bL.no rfl (ax hbb1.out q)
theorem Tryz.infoInt:(Tryz.prog.info? 3).map (fun i=>(i.zero,i.size,i.bytes))=some (some (.int .i64 0),1,8):=by kernel_rfl
theorem sw{ops:Array Oper}{o:Oper}{a:Act}{K:Act->World->Prop}{Q:Exit->Act->World->Prop}{E:Prop}(w:World)(hgd:o.guard=none)(s x:Operand)(ho:o.op= .call { callee:=.builtin .append,args:=#[s,x],argTypes:=#[23,23] })(base:Nat)(v:Value)(zs:List Int)(hs:a.eval s=v)(hown:w.ownsRow base 3 1 v zs.length (zs.map (Value.int .i64)))(Bk c:Nat)(i:Int)(hx:a.eval x= .slice (some ⟨Bk,0,none⟩) 1 c)(hblk:w.heap[Bk]? =some (.cells #[.int .i64 i] 3 (0,0)))(hfew:zs.length<=17592186044000)(hbase:base<=w.heap.size)(h:∀g cap w',w'.ownsRow base 3 1 (.slice (some ⟨g,0,none⟩) (zs.length+1) cap) (zs++[i]).length ((zs++[i]).map (Value.int .i64))->w.grownBy w' v.ownBlock->K (a.put o.dst (.slice (some ⟨g,0,none⟩) (zs.length+1) cap)) w'):if Region.wanted o (yielded ops a.tmps)=true then Oper.wp Tryz.prog o a w K Q else E:=by
 obtain⟨i0,hi,hz0,hz1,hz2⟩:=info_parts Tryz.infoInt;refine step_append_lies w hgd s x _ ho base 3 i0 _ 1 8 Tryz.underlying23 hi hz0 hz1 hz2 rfl (by omega) v zs.length (zs.map (Value.int .i64)) hs hown ⟨Bk,0,none⟩ 1 c [.int .i64 i] hx rfl
  (fun j u hu=>World.news_of_block hblk j u (by simpa using hu)) (by simp[Value.oneCell']) (by omega) (by unfold maxLen;omega) (by omega) hbase _ rfl ?_
 intro g cap w' hown' hgr hat hlt;refine h g cap w' ?_ hgr;rw[List.map_append,cb];exact hown'
theorem pG{w W w1:World}{xs ps zs:List Int}{b b':Nat}{A:Option Addr}{n c:Nat}{k:Nat}{pA:Option Addr}{pn pc:Nat}{i j:Int}{x4 x5 x6 x7:Value}{v:Value}{m:Nat}(h:e9 w xs ps b b' A n c k pA pn pc i j x4 x5 x6 x7)(hW:Below w.heap.size w W)(hb:Below W.heap.size W w1)(ho:w1.ownsRow W.heap.size 3 1 v m (zs.map (Value.int .i64))):w1.cell? ⟨b,2,none⟩=some (.int .i64 i)/\Hid (Below w.heap.size w w1)/\w1.ownsRow w.heap.size 3 1 v m (zs.map (Value.int .i64)):=by have hb':Below w.heap.size w w1:=af hW hb;have h':=h.below hb';exact⟨h'.box.2.2.1,hb',dk ho hW.size⟩
theorem pF{w W w2:World}{zs:List Int}{A:Option Addr}{c g cap:Nat}{i:Int}(hW:Below w.heap.size w W)(ho:W.ownsRow w.heap.size 3 1 (.slice A zs.length c) zs.length (zs.map (Value.int .i64)))(hown:w2.ownsRow w.heap.size 3 1 (.slice (some ⟨g,0,none⟩) (zs.length+1) cap) (zs++[i]).length ((zs++[i]).map (Value.int .i64)))(hgr:W.grownBy w2 (Value.slice A zs.length c).ownBlock):Hid (Below w.heap.size w w2)/\Hid (aA w2 (zs++[i]) (some ⟨g,0,none⟩) (zs.length+1) cap):=by refine⟨hW.grown hgr hW.size (fun k hk=>(ho.lt k hk).1),?_⟩;have e:(zs++[i]).length=zs.length+1:=(by simp);obtain⟨A',c',e',h3⟩:=aA.own (v:=.slice (some ⟨g,0,none⟩) (zs.length+1) cap) hown;rw[e] at e' h3;injection e' with e1 e2 e3;rw[e1,e3];exact h3
theorem tt{w w1:World}{d:Nat}{xs ps:List Int}{b b':Nat}{A:Option Addr}{n c:Nat}{k:Nat}{pA:Option Addr}{pn pc:Nat}{i j:Int}{x4 x5 x6 x7:Value}(h:e9 w xs ps b b' A n c k pA pn pc i j x4 x5 x6 x7)(hb:Below (w.drewN d).heap.size (w.drewN d) w1):w1.cell? ⟨b',0,none⟩=some (.slice A n c)/\w1.cell? ⟨b,1,none⟩=some (.slice pA pn pc)/\w1.cell? ⟨b,2,none⟩=some (.int .i64 i)/\w1.cell? ⟨b,3,none⟩=some (.int .i64 j)/\Hid (Below w.heap.size w w1):=by have hb':Below w.heap.size w w1:=(ax (ai _ _) d).trans hb;have h':=h.below hb';exact⟨h'.way,h'.box.2.1,h'.box.2.2.1,h'.box.2.2.2.1,hb'⟩
theorem yN{w:World}{xs ps:List Int}{b b':Nat}{A:Option Addr}{n c:Nat}{k:Nat}{pA:Option Addr}{pn pc:Nat}{i j:Int}{x4 x5 x6 x7:Value}(h:e9 w xs ps b b' A n c k pA pn pc i j x4 x5 x6 x7):Calls Tryz.prog 69 #[.pointer (some ⟨b,0,none⟩),.pointer (some ⟨b',0,none⟩)] w (bL (if bu xs (ps++[i]) then none else some (eT xs ps i j)) w):=by
 have H:=aa h;have hw:=h.way;obtain⟨c0,c1,c2,c3,c4,c5,c6,c7⟩:=h.box;have hps:ps.length<=17592186044000:=(by rw[<-h.hp.1];exact h.hm);have hq1:=fun o=>(World.cell?_alloc_lt w o ⟨b,1,none⟩ (bK c1)).trans c1;have hblt:b<w.heap.size:=bK c1;clear h;generalize hu:bu xs (ps++[i])=u;have HU:=aa hu;clear hu;generalize hr:(if u=true then none else some (eT xs ps i j))=r;have HR:=aa hr;clear hr
 go_in
 go_wp2_with fail;go_region_law (first
  |(refine sw _ (by rfl) _ _ (by rfl) w.heap.size _ ps (by rfl) (ho.alloc _) w1.heap.size 1 i (by rfl) (aQ (by simp)) hps (by have:=HB1.out.size;simp;omega) ?_;intro g cap w2 hown2 hgr2;obtain⟨HB2,HI2⟩:=pF (HB1.out.alloc HB1.out.size _) (ho.alloc _) hown2 hgr2)
  |(refine sw _ (by rfl) _ _ (by rfl) w.heap.size _ ps (by rfl) ho w.heap.size 1 i (by rfl) hbk hps HB1.out.size ?_;intro g cap w2 hown2 hgr2;obtain⟨HB2,HI2⟩:=pF HB1.out ho hown2 hgr2)
  |(go_simp;go_at_call 59;refine(gV ps _ _ _ (w.drewN 1) (H.out.hp.drewN 1) (by have:=H.out.hm;omega)).mono ?_;rintro e w1 ⟨A1,k1,rfl,ho',hb⟩;obtain⟨hd2,HB1,ho⟩:=pG H.out (ax (ai _ _) 1) hb ho';have hz2:=fun o=>(World.cell?_alloc_lt w1 o ⟨b,2,none⟩ (bK hd2)).trans hd2;clear ho' hb)
  |(go_simp;go_at_call 59;refine(gV ps _ _ _ ((w.alloc (.cells #[.int .i64 i] 3)).drewN 1) ((H.out.hp.below ((ai _ _).alloc (ah _) _)).drewN 1) (by have:=H.out.hm;omega)).mono ?_;rintro e w1 ⟨A1,k1,rfl,ho',hb⟩;have hbk:w1.heap[w.heap.size]? =some (.cells #[.int .i64 i] 3 (0,0)):=(hb.block _ (by simp)).trans (heap_alloc_new _ _);obtain⟨hd2,HB1,ho⟩:=pG H.out (ax ((ai _ _).alloc (ah _) _) 1) hb ho';clear ho' hb))
 all_goals
  have H2:=aa (H.out.below HB2.out);have HB2':=HB2;have y0:=H2.out.way;have y1:=H2.out.box.2.1;have y2:=H2.out.box.2.2.1;have y3:=H2.out.box.2.2.2.1;clear ho hown2 hgr2 hd2 hq1;go_wp2_with fail;go_region_held3 (fun w'=>w'.cell? ⟨b',0,none⟩=some (.slice A n c)/\w'.cell? ⟨b,1,none⟩=some (.slice pA pn pc)/\w'.cell? ⟨b,2,none⟩=some (.int .i64 i)/\w'.cell? ⟨b,3,none⟩=some (.int .i64 j)) (first|exact⟨y0,y1,y2,y3⟩|exact⟨z0,z1,z2,z3⟩|go_keep)
   (first
    |(go_at_call 70;refine(yF xs ps i j _ _ _ _ _ _ _ (H2.out.hx.drewN 1) (H2.out.hp.drewN 1) H2.out.hn (by have:=H2.out.hm;omega) H2.out.few).mono ?_;rintro e w3 ⟨A3,k3,rfl,ho3,hb3⟩;obtain⟨z0,z1,z2,z3,HB3⟩:=tt H2.out hb3)
    |(go_at_call 68;refine(jG xs (ps++[i]) _ _ _ _ _ _ _ (H2.out.hx.below HB3.out) (HI2.out.below HB3.out)).mono ?_;rintro e w4 ⟨rfl,q,rfl⟩))
  have HB4:=aa (af HB2.out HB3.out);have HO4:=aa (dk (bM ho3 (ax (ai _ _) q) (ah _)) HB2.out.size);clear ho3 hb3;rw[HU.out];cases u
  .go_wp2_with fail
   go_ret2
   rw[<-HR.out];exact bL.yes rfl rfl HO4.out (ax HB4.out q)
  .go_wp2_with fail
   go_ret2
   rw[<-HR.out];exact bL.no rfl (ax HB4.out q)
end Go.Proofs.YtlkmefhogabgdaaGreatDoor
