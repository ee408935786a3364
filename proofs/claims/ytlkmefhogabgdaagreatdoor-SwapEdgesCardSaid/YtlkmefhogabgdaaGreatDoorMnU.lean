/- Part 21 of the proof. -/
import Derived.Test.YtlkmefhogabgdaaGreatDoorMnS
namespace Go.Proofs.YtlkmefhogabgdaaGreatDoor
open Go.RowKit
set_option linter.all false
set_option maxHeartbeats 40000000
set_option maxRecDepth 100000
def et(w:World)(e:Ending)(w':World):Prop:=e= .returned (.bool true)/\Below w.heap.size w w'
theorem By{n ts te:Nat}(hI:(Tryz.prog.info? te).map (fun i=>(i.zero,i.size,i.bytes))=some (some (.slice none 0 0),1,24))(hU:Tryz.prog.underlying ts=some (.slice te))(w:World)(h:∀i1,Tryz.prog.underlying ts=some (.slice te)->Tryz.prog.info? te=some i1->i1.zero=some (.slice none 0 0)->i1.size=1->i1.bytes=24->∀w:World,Calls Tryz.prog n #[.slice none 0 0] w (et w):=by intro i1 hU hi hz0 hz1 hz2 w;have HB0:Hid (Below w.heap.size w w):=ai _ _;go_in;go_wp2_with fail;go_loopw [3] (fun v wr=>v= .int .i64 0/\Hid (Below w.heap.size w wr)) (fun _ _=>0);(case atStart=>exact⟨rfl,HB0⟩);case round=>(try clear HB);(try clear HB0);obtain⟨rfl,HB⟩:=hrel;go_wp2_with (at_make;refine wpList_make_full _ rfl _ _ _ rfl w.heap.size _ i1 _ _ hU hi hz0 hz1 .i64 .i64 0 0 0 rfl rfl rfl rfl (by rw[hz2];omega) (by decide) HB.out.size ?_;intro w2 hown2 hgrow2;have HB0:=aa (HB.out.grown hgrow2 HB.out.size (fun k hk=>by cases hk));clear hown2 hgrow2 HB);go_loopw [6] (fun v wr=>v= .int .i64 0/\Hid (Below w.heap.size w wr)) (fun _ _=>0);(case atStart=>exact⟨rfl,HB0⟩);case round=>(try clear HB);(try clear HB0);obtain⟨rfl,HB⟩:=hrel;go_wp2_with fail;go_loopw [9] (fun v wr=>v= .int .i64 0/\Hid (Below w.heap.size w wr)) (fun _ _=>0);(case atStart=>exact⟨rfl,HB⟩);case round=>(try clear HB);(try clear HB0);obtain⟨rfl,HB⟩:=hrel;go_wp2_with fail;go_loopw [11] (fun v wr=>v= .int .i64 0/\Hid (Below w.heap.size w wr)) (fun _ _=>0);(case atStart=>exact⟨rfl,HB⟩);case round=>(try clear HB);(try clear HB0);obtain⟨rfl,HB⟩:=hrel;go_wp2_with fail;go_loopw [14] (fun v wr=>v= .int .i64 0/\Hid (Below w.heap.size w wr)) (fun _ _=>0);(case atStart=>exact⟨rfl,HB⟩);case round=>(try clear HB);(try clear HB0);obtain⟨rfl,HB⟩:=hrel;go_wp2_with fail;go_ret;exact⟨rfl,HB.out⟩):Calls Tryz.prog n #[.slice none 0 0] w (et w):=by obtain⟨i1,hi,hz0,hz1,hz2⟩:=info_parts hI;exact h i1 hU hi hz0 hz1 hz2 w
theorem vI(w:World):Calls Tryz.prog 91 #[.slice none 0 0] w (et w):=By (by kernel_rfl) Tryz.underlying62 w
theorem vT(w:World):Calls Tryz.prog 92 #[.slice none 0 0] w (et w):=By (by kernel_rfl) Tryz.underlying63 w
theorem vJ(w:World):Calls Tryz.prog 94 #[.slice none 0 0] w (et w):=By (by kernel_rfl) Tryz.underlying65 w
theorem vP(w:World):Calls Tryz.prog 95 #[.slice none 0 0] w (et w):=By (by kernel_rfl) Tryz.underlying66 w
theorem vD(w:World):Calls Tryz.prog 96 #[.slice none 0 0] w (et w):=By (by kernel_rfl) Tryz.underlying67 w
theorem vR(w:World):Calls Tryz.prog 97 #[.slice none 0 0] w (et w):=By (by kernel_rfl) Tryz.underlying68 w
theorem vQ(w:World):Calls Tryz.prog 98 #[.slice none 0 0] w (et w):=By (by kernel_rfl) Tryz.underlying69 w
theorem vO(w:World):Calls Tryz.prog 99 #[.slice none 0 0] w (et w):=By (by kernel_rfl) Tryz.underlying70 w
theorem vG(w:World):Calls Tryz.prog 101 #[.slice none 0 0] w (et w):=By (by kernel_rfl) Tryz.underlying72 w
theorem vK(w:World):Calls Tryz.prog 102 #[.slice none 0 0] w (et w):=By (by kernel_rfl) Tryz.underlying73 w
theorem vH(w:World):Calls Tryz.prog 103 #[.slice none 0 0] w (et w):=By (by kernel_rfl) Tryz.underlying74 w
theorem vN(w:World):Calls Tryz.prog 105 #[.slice none 0 0] w (et w):=By (by kernel_rfl) Tryz.underlying75 w
theorem vF(w:World):Calls Tryz.prog 106 #[.slice none 0 0] w (et w):=By (by kernel_rfl) Tryz.underlying76 w
theorem vL(w:World):Calls Tryz.prog 107 #[.slice none 0 0] w (et w):=By (by kernel_rfl) Tryz.underlying77 w
theorem vS(w:World):Calls Tryz.prog 108 #[.slice none 0 0] w (et w):=By (by kernel_rfl) Tryz.underlying78 w
theorem vM(w:World):Calls Tryz.prog 109 #[.slice none 0 0] w (et w):=By (by kernel_rfl) Tryz.underlying79 w
theorem vE(w:World):Calls Tryz.prog 110 #[.slice none 0 0] w (et w):=By (by kernel_rfl) Tryz.underlying80 w
theorem vC(w:World):Calls Tryz.prog 111 #[.slice none 0 0] w (et w):=By (by kernel_rfl) Tryz.underlying81 w
end Go.Proofs.YtlkmefhogabgdaaGreatDoor
