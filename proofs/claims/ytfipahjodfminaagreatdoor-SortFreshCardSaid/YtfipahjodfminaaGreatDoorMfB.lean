/- Part 2 of the proof. -/
import Derived.Lib.SmallJoins
import Derived.Deep.RegionWith
import Derived.OwnWalk
import Derived.Test.YtfipahjodfminaaGreatDoorMfA
namespace Go.Proofs.YtfipahjodfminaaGreatDoor
open Go.RowKit
set_option linter.all false
set_option maxHeartbeats 40000000
set_option maxRecDepth 100000
def qn(w:World)(zs:List Nat)(A:Option Addr)(n c:Nat):Prop:=
 n=zs.length/\n<=c/\c<=maxLen/\(zs=[]∨∃b o:Nat,A=some ⟨b,o,none⟩/\∀(j z:Nat),zs[j]? =some z->w.cell? ⟨b,o+j,none⟩=some (.int .u8 (z:Int)))
theorem qn.keep{w w':World}(hb:∀a v,w.cell? a=some v->w'.cell? a=some v){zs:List Nat}{A:Option Addr}{n c:Nat}(h:qn w zs A n c):qn w' zs A n c:=by
 obtain⟨h1,h2,h3,h4⟩:=h;refine⟨h1,h2,h3,?_⟩;rcases h4 with e|⟨b,o,e,hr⟩
 .exact .inl e
 .exact .inr ⟨b,o,e,fun j z hz=>hb _ _ (hr j z hz)⟩
theorem qn.below{w w':World}(hb:Below w.heap.size w w'){zs:List Nat}{A:Option Addr}{n c:Nat}(h:qn w zs A n c):qn w' zs A n c:=h.keep fun _ _=>ac hb
theorem qn.get{w:World}{zs:List Nat}{A:Option Addr}{n c:Nat}(h:qn w zs A n c){i:Nat}(hi:i<n):∃(b o z:Nat),A=some ⟨b,o,none⟩/\zs[i]? =some z/\w.cell? ⟨b,o+i,none⟩=some (.int .u8 z):=by
 obtain⟨hn,_,_,h⟩:=h;rcases h with rfl|⟨b,o,e,hr⟩
 .simp at hn;omega
 .have:zs[i]? =some (zs[i]'(by omega)):=br (by omega);exact⟨b,o,_,e,this,hr i _ this⟩
theorem qn.nil(w:World)(A:Option Addr){c:Nat}(h:c<=maxLen):qn w [] A 0 c:=⟨rfl,aE _,h,.inl rfl⟩
def jk(cs:Array Value):List Nat:=cs.toList.map fun v=>match v with| .int _ n=>n.toNat|_=>0
theorem qn.new(w:World)(cs:Array Value)(T:TypeId)(hu:cs=((jk cs).map fun(k:Nat)=>Value.int .u8 k).toArray)(hm:cs.size<=maxLen):qn (w.alloc (.cells cs T)) (jk cs) (some ⟨w.heap.size,0,none⟩) cs.size cs.size:=by refine⟨by simp[jk],ah _,hm,.inr ⟨_,_,rfl,fun j z hz=>?_⟩⟩;rw[show 0+j=j from Nat.zero_add j,World.cell?_alloc_new];have e:cs[j]? =(((jk cs).map fun(k:Nat)=>Value.int .u8 k).toArray)[j]? :=(by rw[<-hu]);rw[e];simp[hz]
def fw(w:World)(v:Value)(r:List Nat×Bool):Prop:=∃A n c,v= .agg #[.slice A n c,.bool r.2]/\qn w r.1 A n c
theorem fw.below{w w':World}(hb:Below w.heap.size w w'){v:Value}{r:List Nat×Bool}(h:fw w v r):fw w' v r:=by obtain⟨A,n,c,e,hk⟩:=h;exact⟨A,n,c,e,hk.below hb⟩
def pC(r:List Nat×Bool)(w:World)(e:Ending)(w':World):Prop:=∃v,e= .returned v/\fw w' v r/\Below w.heap.size w w'
theorem rp(ks:List Nat)(A:Option Addr)(n c:Nat)(w:World)(h:qn w ks A n c):Calls Tryz.prog 196 #[.slice A n c] w (pC (ks,false) w):=by
 have H:=ab h;clear h
 go_in
 go_wp2;have hb:Below w.heap.size w (w.alloc (.cells #[.slice A n c,.bool false] 175)):=(ai _ _).alloc (ah _) _;exact bodyPost_ret (v:=.agg #[.slice A n c,.bool false]) (by simp[results,Tryz.results196,go_sem]) rfl ⟨_,rfl,⟨A,n,c,rfl,H.out.below hb⟩,hb⟩
theorem mG(z:Int)(w:World)(hz:0<=z):Calls Tryz.prog 197 #[.int .u8 z] w (pC ([z.toNat],true) w):=by
 go_in
 go_wp2;have hb:Below w.heap.size w ((w.alloc (.cells #[.slice (some ⟨w.heap.size+1,0,none⟩) 1 1,.bool true] 175)).alloc (.cells #[.int .u8 z] 22)):=((ai _ _).alloc (ah _) _).alloc (by simp) _;have hk:=qn.new (w.alloc (.cells #[.slice (some ⟨w.heap.size+1,0,none⟩) 1 1,.bool true] 175)) #[.int .u8 z] 22 (by simp[jk];omega) (by unfold maxLen;simp);have hs:(w.alloc (.cells #[.slice (some ⟨w.heap.size+1,0,none⟩) 1 1,.bool true] 175)).heap.size=w.heap.size+1:=(by simp);rw[hs] at hk;have hk':qn ((w.alloc (.cells #[.slice (some ⟨w.heap.size+1,0,none⟩) 1 1,.bool true] 175)).alloc (.cells #[.int .u8 z] 22)) [z.toNat] (some ⟨w.heap.size+1,0,none⟩) 1 1:=hk;exact bodyPost_ret (v:=.agg #[.slice (some ⟨w.heap.size+1,0,none⟩) 1 1,.bool true]) (by simp[results,Tryz.results197,go_sem]) rfl ⟨_,rfl,⟨some ⟨w.heap.size+1,0,none⟩,1,1,rfl,hk'⟩,hb⟩
def nG(w:World)(vs:List (Nat×Value))(tbl:List (Nat×List Nat×Bool)):Prop:=
 vs.map (·.1)=tbl.map (·.1)/\∀(i:Nat) (p:Nat×Value) (q:Nat×List Nat×Bool),vs[i]? =some p->tbl[i]? =some q->fw w p.2 q.2
structure Jl (w0 w:World) (B:Nat) (tbl:List (Nat×List Nat×Bool)):Prop where
 map:∃vs,eL w B vs/\nG w vs tbl
 bel:Below w0.heap.size w0 w
theorem Jl.below{w0 w w':World}{B:Nat}{tbl:List (Nat×List Nat×Bool)}(h:Jl w0 w B tbl)(hb:Below w.heap.size w w'):Jl w0 w' B tbl:=by obtain⟨⟨vs,h1,h2,h3⟩,h4⟩:=h;exact⟨⟨vs,h1.below hb,h2,fun i p q hp hq=>(h3 i p q hp hq).below hb⟩,h4.trans (hb.mono h4.size)⟩
theorem Jl.made{w0 w:World}(hb:Below w0.heap.size w0 w):Jl w0 (w.alloc (.map #[] 0)) w.heap.size []:=
 ⟨⟨[],eL.made w,rfl,fun i p q hp=>by simp at hp⟩,hb.alloc hb.size _⟩
theorem Ac{w:World}{vs:List (Nat×Value)}{tbl:List (Nat×List Nat×Bool)}(h:nG w vs tbl)(k:Nat):(vs.all fun p=>p.1 != k)=tbl.all fun p=>p.1 != k:=by have e:∀{β:Type} (l:List (Nat×β)),(l.all fun p=>p.1 != k)=(l.map (·.1)).all (· != k):=(by intro β l;rw[List.all_map];rfl);rw[e,e,h.1]
theorem fw.grown{w w':World}{B:Nat}{v:Value}{r:List Nat×Bool}(h:fw w v r)(hg:w.grownBy w' (some B))(hm:∃es c,w.heap[B]? =some (.map es c)):fw w' v r:=by obtain⟨A,n,c,e,hk⟩:=h;obtain⟨es,cl,hB⟩:=hm;refine⟨A,n,c,e,hk.keep fun a u ha=>?_⟩;refine hg.cell ha ?_;intro e;injection e with e;simp[World.cell?,e,hB] at ha
theorem dG{w0 w:World}{B:Nat}{tbl:List (Nat×List Nat×Bool)}{val:Value}{r:List Nat×Bool}(hT:Hid (Jl w0 w B tbl))(hV:fw w val r)(hB:w0.heap.size<=B)(z:Int)(hz:0<=z)(hn:(tbl.all fun p=>p.1 != z.toNat)=true):∃w',(Instr.mapUpdate 206 (.map (some B)) (.int .u8 z) val).run Tryz.prog w= .ok () w'/\Hid (Jl w0 w' B (tbl++[(z.toNat,r)])):=by
 obtain⟨⟨vs,h1,h2⟩,h4⟩:=hT.out;have hz':((z.toNat:Nat):Int)=z:=Int.toNat_of_nonneg hz;have h1m:∃es c,w.heap[B]? =some (.map es c):=(by obtain⟨es,c,e,_⟩:=h1;exact⟨es,c,e⟩);obtain⟨w',hrun,hm',hg'⟩:=h1.insert Tryz.underlying206 Tryz.underlying22 (k:=z.toNat) val (by rw[Ac h2];exact hn);rw[hz'] at hrun;refine⟨w',hrun,⟨⟨_,hm',?_,?_⟩,h4.grown hg' h4.size (fun k hk=>by injection hk with hk;omega)⟩⟩
 .rw[List.map_append,List.map_append,h2.1];rfl
 .intro i p q hp hq;have hl:vs.length=tbl.length:=(by have:=congrArg List.length h2.1;simpa using this);by_cases hi:i<vs.length
  .rw[cM hi] at hp;rw[cM (by omega)] at hq;exact(h2.2 i p q hp hq).grown hg' h1m
  .have hi0:i=vs.length:=by have:=(gl.1 hp).1;simp at this;omega
   subst hi0;rw[eK (ah _)] at hp;rw[hl,eK (ah _)] at hq;simp at hp hq;subst hp hq;exact hV.grown hg' h1m
theorem qM{w:World}:∀{vs:List (Nat×Value)} {tbl:List (Nat×List Nat×Bool)},nG w vs tbl->∀k,(vs.lookup k=none/\tbl.lookup k=none)∨∃v r,vs.lookup k=some v/\tbl.lookup k=some r/\fw w v r
 |[],[],_,k=>.inl ⟨rfl,rfl⟩
 |[],_::_,h,_=>by have:=h.1;simp at this
 |_::_,[],h,_=>by have:=h.1;simp at this
 |p::vs,q::tbl,h,k=>by
  obtain⟨h1,h2⟩:=h;simp only[List.map_cons,List.cons.injEq] at h1;by_cases hk:k=p.1
  .have hq:k=q.1:=(by rw[hk,h1.1]);right;refine⟨p.2,q.2,?_,?_,h2 0 p q rfl rfl⟩
   .simp[List.lookup,hk]
   .simp[List.lookup,hq]
  .have hq:¬k=q.1:=(by rw[<-h1.1];exact hk);have Dw:∀{β:Type} (a:Nat×β) (l:List (Nat×β)),¬k=a.1->(a::l).lookup k=l.lookup k:=by intro β a l hne;obtain⟨a,b⟩:=a;have:(k == a)=false:=(by simpa using hne);simp[List.lookup,this]
   have e1:=Dw p vs hk;have e2:=Dw q tbl hq;rw[e1,e2];exact qM ⟨h1.2,fun i p' q' hp hq=>h2 (i+1) p' q' (by simpa using hp) (by simpa using hq)⟩ k
def mU:List (Nat×List Nat×Bool):=[(1,[2],true),(2,[3,5],false),(3,[4],true),(4,[],false),(5,[201],true),(6,[200],false),(7,[202,200],false),(8,[200,5,5],false),(9,[200,5],false),(10,[200],false),(11,[200],false),(12,[25],false),
 (20,[],false),(21,[],false),(22,[],false),(23,[200],false),(24,[200,200],false),(25,[200],true),(26,[200,200],false),(27,[200,200],false),(28,[200],false),(29,[],false)]
theorem IC:∀k:Fin 30,mU.lookup k.val=ig k.val:=by decide
theorem IB(k:Nat):mU.lookup k=ig k:=by
 by_cases h:k<30
 .exact IC ⟨k,h⟩
 .obtain⟨n,rfl⟩:∃n,k=n+30:=⟨k - 30,by omega⟩;have e:∀m,m<30->(n+30 == m)=false:=(by intro m hm;simp;omega);have h1:ig (n+30)=none:=rfl;rw[h1];simp[mU,List.lookup,e]
def js(k:Nat)(w:World)(e:Ending)(w':World):Prop:=
 Below w.heap.size w w'/\match ig k with
  |some r=>∃v,e= .returned (.tuple #[v,.bool true])/\fw w' v r
  |none=>e= .returned (.tuple #[.agg #[.slice none 0 0,.bool false],.bool false])
theorem js.no{k:Nat}{w w':World}(h:ig k=none)(hb:Below w.heap.size w w'):js k w (.returned (.tuple #[.agg #[.slice none 0 0,.bool false],.bool false])) w':=by refine⟨hb,?_⟩;rw[h]
theorem js.yes{k:Nat}{w w':World}{v:Value}{r:List Nat×Bool}(h:ig k=some r)(hr:fw w' v r)(hb:Below w.heap.size w w'):js k w (.returned (.tuple #[v,.bool true])) w':=by refine⟨hb,?_⟩;rw[h];exact⟨v,rfl,hr⟩
theorem pE{w:World}{b:Nat}{x y u v:Value}{T:TypeId}{o:Obj}(h:w.heap[b]? =some (.cells #[x,y] T (0,0))):(((w.setCell ⟨b,0,none⟩ u).setCell ⟨b,1,none⟩ v).alloc o).cell? ⟨b,0,none⟩=some u/\(((w.setCell ⟨b,0,none⟩ u).setCell ⟨b,1,none⟩ v).alloc o).cell? ⟨b,1,none⟩=some v:=by
 have hlt:b<w.heap.size:=(aK.1 h).1;have h2:(((w.setCell ⟨b,0,none⟩ u).setCell ⟨b,1,none⟩ v).alloc o).heap[b]? =some (.cells #[u,v] T (0,0)):=by rw[Below.heap_alloc _ _ _ (by simpa using hlt)];simp[World.setCell,Array.getElem?_modify,h]
 exact⟨(cell_of_row _ b 0 _ _ (0,0) h2).trans rfl,(cell_of_row _ b 1 _ _ (0,0) h2).trans rfl⟩
theorem qn.keepBlock{w w':World}{zs:List Nat}{A:Option Addr}{n c b:Nat}{x y:Value}{T:TypeId}(h:qn w zs A n c)(hb:w.heap[b]? =some (.cells #[x,y] T (0,0)))(hk:∀i,i<w.heap.size->i≠b->w'.heap[i]? =w.heap[i]?)(hx:∀z:Nat,x≠ .int .u8 z:=by intros;simp)(hy:∀z:Nat,y≠ .int .u8 z:=by intros;simp):qn w' zs A n c:=by
 obtain⟨h1,h2,h3,h4⟩:=h;refine⟨h1,h2,h3,?_⟩;rcases h4 with e|⟨g,o,e,hr⟩
 .exact .inl e
 .refine .inr ⟨g,o,e,fun j z hz=>?_⟩;have hc:=hr j z hz;have hlt:=bK hc;by_cases hg:g=b
  .exfalso;subst hg;have:=(cell_of_row w g (o+j) _ _ (0,0) hb).symm.trans hc;match o+j,this with
   |0,this=>simp at this;exact hx z this
   |1,this=>simp at this;exact hy z this
   |_+2,this=>simp at this
  .rw[World.cell?_of_block (w:=w) (hk g hlt hg)];exact hc
theorem fR(w:World)(cs:Array Value)(n c:Nat)(hu:cs=((jk cs).map fun(k:Nat)=>Value.int .u8 k).toArray)(hm:cs.size<=maxLen)(hn:n=cs.size)(hc:c=cs.size):Calls Tryz.prog 196 #[.slice (some ⟨w.heap.size,0,none⟩) n c] (w.alloc (.cells cs 22)) fun e w'=>∃v,e= .returned v/\fw w' v (jk cs,false)/\Below w.heap.size w w':=by subst hn hc;refine(rp (jk cs) _ _ _ _ (qn.new w cs _ hu hm)).mono ?_;rintro e w' ⟨v,rfl,hr,hb⟩;exact⟨v,rfl,hr,((ai _ _).alloc (ah _) _).trans (hb.mono (by simp))⟩
theorem lw(w:World):Calls Tryz.prog 196 #[.slice none 0 0] w fun e w'=>∃v,e= .returned v/\fw w' v ([],false)/\Below w.heap.size w w':=by refine(rp [] _ _ _ _ (qn.nil w none (by omega))).mono ?_;rintro e w' ⟨v,rfl,hr,hb⟩;exact⟨v,rfl,hr,hb⟩
theorem gX(k:Nat)(w:World):Calls Tryz.prog 155 #[.int .u8 k] w (js k w):=by
 have HT:=ab (Jl.made (ai (w.alloc (.cells #[.slice none 0 0,.bool false] 175)).heap.size (w.alloc (.cells #[.slice none 0 0,.bool false] 175))));have hsz:(w.alloc (.cells #[.slice none 0 0,.bool false] 175)).heap.size=w.heap.size+1:=(by simp);rw[hsz] at HT;clear hsz;have hmm:= @run_makeMap Tryz.prog
 go_in
 go_wp2_with fail;refine(mG _ _ (by decide)).mono ?_;rintro e w1 ⟨v1,rfl,hr,hb⟩;obtain⟨w2,hrun,HT2⟩:=dG (ab (HT.out.below hb)) hr (by simp) 1 (by decide) (by decide);clear HT hr hb
 rename Hid _=>HT
 go_wp2_with fail;refine(fR _ _ _ _ (by rfl) (by decide) (by decide) (by decide)).mono ?_;rintro e w1 ⟨v1,rfl,hr,hb⟩;obtain⟨w2,hrun,HT2⟩:=dG (ab (HT.out.below hb)) hr (by simp) 2 (by decide) (by decide);clear HT hr hb
 rename Hid _=>HT
 go_wp2_with fail;refine(mG _ _ (by decide)).mono ?_;rintro e w1 ⟨v1,rfl,hr,hb⟩;obtain⟨w2,hrun,HT2⟩:=dG (ab (HT.out.below hb)) hr (by simp) 3 (by decide) (by decide);clear HT hr hb
 rename Hid _=>HT
 go_wp2_with fail;refine(lw _).mono ?_;rintro e w1 ⟨v1,rfl,hr,hb⟩;obtain⟨w2,hrun,HT2⟩:=dG (ab (HT.out.below hb)) hr (by simp) 4 (by decide) (by decide);clear HT hr hb
 rename Hid _=>HT
 go_wp2_with fail;refine(mG _ _ (by decide)).mono ?_;rintro e w1 ⟨v1,rfl,hr,hb⟩;obtain⟨w2,hrun,HT2⟩:=dG (ab (HT.out.below hb)) hr (by simp) 5 (by decide) (by decide);clear HT hr hb
 rename Hid _=>HT
 go_wp2_with fail;refine(fR _ _ _ _ (by rfl) (by decide) (by decide) (by decide)).mono ?_;rintro e w1 ⟨v1,rfl,hr,hb⟩;obtain⟨w2,hrun,HT2⟩:=dG (ab (HT.out.below hb)) hr (by simp) 6 (by decide) (by decide);clear HT hr hb
 rename Hid _=>HT
 go_wp2_with fail;refine(fR _ _ _ _ (by rfl) (by decide) (by decide) (by decide)).mono ?_;rintro e w1 ⟨v1,rfl,hr,hb⟩;obtain⟨w2,hrun,HT2⟩:=dG (ab (HT.out.below hb)) hr (by simp) 7 (by decide) (by decide);clear HT hr hb
 rename Hid _=>HT
 go_wp2_with fail;refine(fR _ _ _ _ (by rfl) (by decide) (by decide) (by decide)).mono ?_;rintro e w1 ⟨v1,rfl,hr,hb⟩;obtain⟨w2,hrun,HT2⟩:=dG (ab (HT.out.below hb)) hr (by simp) 8 (by decide) (by decide);clear HT hr hb
 rename Hid _=>HT
 go_wp2_with fail;refine(fR _ _ _ _ (by rfl) (by decide) (by decide) (by decide)).mono ?_;rintro e w1 ⟨v1,rfl,hr,hb⟩;obtain⟨w2,hrun,HT2⟩:=dG (ab (HT.out.below hb)) hr (by simp) 9 (by decide) (by decide);clear HT hr hb
 rename Hid _=>HT
 go_wp2_with fail;refine(fR _ _ _ _ (by rfl) (by decide) (by decide) (by decide)).mono ?_;rintro e w1 ⟨v1,rfl,hr,hb⟩;obtain⟨w2,hrun,HT2⟩:=dG (ab (HT.out.below hb)) hr (by simp) 10 (by decide) (by decide);clear HT hr hb
 rename Hid _=>HT
 go_wp2_with fail;refine(fR _ _ _ _ (by rfl) (by decide) (by decide) (by decide)).mono ?_;rintro e w1 ⟨v1,rfl,hr,hb⟩;obtain⟨w2,hrun,HT2⟩:=dG (ab (HT.out.below hb)) hr (by simp) 11 (by decide) (by decide);clear HT hr hb
 rename Hid _=>HT
 go_wp2_with fail;refine(fR _ _ _ _ (by rfl) (by decide) (by decide) (by decide)).mono ?_;rintro e w1 ⟨v1,rfl,hr,hb⟩;obtain⟨w2,hrun,HT2⟩:=dG (ab (HT.out.below hb)) hr (by simp) 12 (by decide) (by decide);clear HT hr hb
 rename Hid _=>HT
 go_wp2_with fail;refine(lw _).mono ?_;rintro e w1 ⟨v1,rfl,hr,hb⟩;obtain⟨w2,hrun,HT2⟩:=dG (ab (HT.out.below hb)) hr (by simp) 20 (by decide) (by decide);clear HT hr hb
 rename Hid _=>HT
 go_wp2_with fail;refine(lw _).mono ?_;rintro e w1 ⟨v1,rfl,hr,hb⟩;obtain⟨w2,hrun,HT2⟩:=dG (ab (HT.out.below hb)) hr (by simp) 21 (by decide) (by decide);clear HT hr hb
 rename Hid _=>HT
 go_wp2_with fail;refine(lw _).mono ?_;rintro e w1 ⟨v1,rfl,hr,hb⟩;obtain⟨w2,hrun,HT2⟩:=dG (ab (HT.out.below hb)) hr (by simp) 22 (by decide) (by decide);clear HT hr hb
 rename Hid _=>HT
 go_wp2_with fail;refine(fR _ _ _ _ (by rfl) (by decide) (by decide) (by decide)).mono ?_;rintro e w1 ⟨v1,rfl,hr,hb⟩;obtain⟨w2,hrun,HT2⟩:=dG (ab (HT.out.below hb)) hr (by simp) 23 (by decide) (by decide);clear HT hr hb
 rename Hid _=>HT
 go_wp2_with fail;refine(fR _ _ _ _ (by rfl) (by decide) (by decide) (by decide)).mono ?_;rintro e w1 ⟨v1,rfl,hr,hb⟩;obtain⟨w2,hrun,HT2⟩:=dG (ab (HT.out.below hb)) hr (by simp) 24 (by decide) (by decide);clear HT hr hb
 rename Hid _=>HT
 go_wp2_with fail;refine(mG _ _ (by decide)).mono ?_;rintro e w1 ⟨v1,rfl,hr,hb⟩;obtain⟨w2,hrun,HT2⟩:=dG (ab (HT.out.below hb)) hr (by simp) 25 (by decide) (by decide);clear HT hr hb
 rename Hid _=>HT
 go_wp2_with fail;refine(fR _ _ _ _ (by rfl) (by decide) (by decide) (by decide)).mono ?_;rintro e w1 ⟨v1,rfl,hr,hb⟩;obtain⟨w2,hrun,HT2⟩:=dG (ab (HT.out.below hb)) hr (by simp) 26 (by decide) (by decide);clear HT hr hb
 rename Hid _=>HT
 go_wp2_with fail;refine(fR _ _ _ _ (by rfl) (by decide) (by decide) (by decide)).mono ?_;rintro e w1 ⟨v1,rfl,hr,hb⟩;obtain⟨w2,hrun,HT2⟩:=dG (ab (HT.out.below hb)) hr (by simp) 27 (by decide) (by decide);clear HT hr hb
 rename Hid _=>HT
 go_wp2_with fail;refine(fR _ _ _ _ (by rfl) (by decide) (by decide) (by decide)).mono ?_;rintro e w1 ⟨v1,rfl,hr,hb⟩;obtain⟨w2,hrun,HT2⟩:=dG (ab (HT.out.below hb)) hr (by simp) 28 (by decide) (by decide);clear HT hr hb
 rename Hid _=>HT
 go_wp2_with fail;refine(lw _).mono ?_;rintro e w1 ⟨v1,rfl,hr,hb⟩;obtain⟨w2,hrun,HT2⟩:=dG (ab (HT.out.below hb)) hr (by simp) 29 (by decide) (by decide);clear HT hr hb
 rename Hid _=>HT
 have HT':Hid (Jl (w.alloc (.cells #[.slice none 0 0,.bool false] 175)) w2 (w.heap.size+1) mU):=HT;clear HT;obtain⟨⟨vs,hm,hr⟩,hbel⟩:=HT'.out;have hz:∀w,(zeroValue 175).run Tryz.prog w= .ok (.agg #[.slice none 0 0,.bool false]) w:=fun _=>by kernel_rfl
 have hlook:=hm.look Tryz.underlying206 Tryz.underlying22 k (hz w2) true;have hsz:(w.alloc (.cells #[.slice none 0 0,.bool false] 175)).heap.size=w.heap.size+1:=(by simp);have HB:Hid (Below w.heap.size w w2):=((ai _ _).alloc (ah _) _).trans (hbel.mono (by omega));have hlt:w.heap.size<w2.heap.size:=(by have:=hbel.size;omega);have hblk:w2.heap[w.heap.size]? =some (.cells #[.slice none 0 0,.bool false] 175 (0,0)):=(hbel.block w.heap.size (by omega)).trans (heap_alloc_new w _);have hc0:=(cell_of_row w2 w.heap.size 0 _ _ (0,0) hblk).trans (show _=some (Value.slice none 0 0) from rfl);have hc1:=(cell_of_row w2 w.heap.size 1 _ _ (0,0) hblk).trans (show _=some (Value.bool false) from rfl);have hf0:w2.frozen? ⟨w.heap.size,0,none⟩=false:=(by simp[World.frozen?,hblk]);have hf1:w2.frozen? ⟨w.heap.size,1,none⟩=false:=(by simp[World.frozen?,hblk]);have HBK:=ab hblk;clear hsz hblk;have HR:=ab (IB k);rcases qM hr k with ⟨h1,h2⟩|⟨v,r,h1,h2,A,n,c,rfl,hk⟩
 .rw[h1] at hlook;have HN:Hid (ig k=none):=(by show _=_;rw[<-HR.out];exact h2);simp only[if_true,Option.getD_none,Option.isSome_none] at hlook;clear HT' hm hr hbel hz h1 h2 HR;go_wp2_with fail;refine bodyPost_ret (v:=.tuple #[.agg #[.slice none 0 0,.bool false],.bool false]) ?_ rfl ?_
  .obtain⟨a0,a1⟩:=pE (u:=.slice none 0 0) (v:=.bool false) (o:=.cells #[.slice none 0 0,.bool false] 175) HBK.out;simp[results,Tryz.results155,go_sem,a0,a1]
  .exact js.no HN.out (((HB.out.setCell (ah _) _).setCell (ah _) _).alloc (by simp;omega) _)
 .rw[h1] at hlook;have HN:Hid (ig k=some r):=(by show _=_;rw[<-HR.out];exact h2);simp only[if_true,Option.getD_some,Option.isSome_some] at hlook;have HK:=ab hk;clear HT' hm hr hbel hz h1 h2 HR hk;go_wp2_with fail;refine bodyPost_ret (v:=.tuple #[.agg #[.slice A n c,.bool r.2],.bool true]) ?_ rfl ?_
  .obtain⟨a0,a1⟩:=pE (u:=.slice A n c) (v:=.bool r.2) (o:=.cells #[.slice A n c,.bool r.2] 175) HBK.out;simp[results,Tryz.results155,go_sem,a0,a1]
  .refine js.yes HN.out ⟨A,n,c,rfl,HK.out.keepBlock (b:=w.heap.size) HBK.out ?_⟩ (((HB.out.setCell (ah _) _).setCell (ah _) _).alloc (by simp;omega) _);intro i hi hne;rw[Below.heap_alloc _ _ _ (by simpa using hi),aY _ _ _ _ hne,aY _ _ _ _ hne]
structure bI (w:World):Prop where
 tabS:Lib.TabIs Tryz.prog w "strings.asciiSpace" .u8 Lib.asciiSpaceTab
theorem Br{P:Program}{w:World}{g:Nat}{n:String}{cs:Array Value}(hg:P.globalNamed n=some g)(h:w.var? P n=some cs):g<w.heap.size:=by
 unfold World.var? at h;simp only[hg,Option.bind_some] at h;rcases Nat.lt_or_ge g w.heap.size with hl|hl
 .exact hl
 .rw[Array.getElem?_eq_none hl] at h;simp at h
theorem Bq{P:Program}{w w':World}{B g:Nat}{n:String}{cs:Array Value}(hg:P.globalNamed n=some g)(h:w.var? P n=some cs)(hb:Below B w w')(hB:w.heap.size<=B):w'.var? P n=some cs:=
 var?_below hb hg (fJ (Br hg h) hB) h
theorem bI.below{w w':World}{B:Nat}(h:bI w)(hb:Below B w w')(hB:w.heap.size<=B):bI w':=
 ⟨Bq (g:=0) (by kernel_rfl) h.tabS hb hB⟩
theorem nL{l:ar}(h:l.all (fun b=>b.toNat<128)=true):∀(j:Nat) (b:UInt8),l[j]? =some b->b.toNat<128:=by intro j b hj;have:=List.all_eq_true.1 h b (List.mem_of_getElem? hj);simpa using this
theorem oU{l:ar}{n:Nat}{ss:List ar}(hl:Lib.fields l=ss)(hn:ss.length=n)(w:World):jq n ss w (.returned (.slice (some ⟨w.heap.size,0,none⟩) (Lib.fields l).length (Lib.fields l).length)) (w.alloc (.cells ((Lib.fields l).map fun l=>Value.string ⟨l.toArray⟩).toArray 9)):=by rw[hl];refine⟨some ⟨w.heap.size,0,none⟩,by rw[hn],gL.new ss hn,(ai _ _).alloc (ah _) _,fun ad h=>?_,_,rfl⟩;injection h with h;rw[<-h];exact ah _
theorem yl(w:World)(hE:bI w):Calls Tryz.prog 199 #[.string ⟨#[102,117,110,99,32,118,97,114,32,105,102,32,101,108,115,101,32,119,104,105,108,101,32,114,101,116,117,114,110,32,112,114,105,110,116,32,116,114,117,101,32,102,97,108,115,101,32,108,101,110,32,114,101,97,100]⟩] w (jq 11 iu w):=by refine(Tryz.strings_Fields _ w (by decide) (nL (by decide)) hE.tabS).mono ?_;rintro e w1 ⟨rfl,rfl⟩;exact oU (by decide+kernel) (by decide) w
theorem rt(w:World)(hE:bI w):Calls Tryz.prog 174 #[] w (jq 11 iu w):=by
 have hT:=ab hE;clear hE
 go_in
 go_wp2_with (go_at_call 199;refine(yl _ hT.out).mono ?_;rintro e w1 ⟨A1,rfl,hrow,hbel,hnew⟩);go_ret;exact⟨A1,rfl,hrow,hbel,hnew⟩
theorem wI:∀n:Fin 256,((decide (97<=bits BinOp.or IntKind.u8 (n.val:Int) 32) && decide (bits BinOp.or IntKind.u8 (n.val:Int) 32<=122)) || (n.val == 95))=((decide (97<=n.val) && decide (n.val<=122)) || (decide (65<=n.val) && decide (n.val<=90)) || n.val == 95):=by decide+kernel
theorem wH(c:UInt8):((decide (97<=bits BinOp.or IntKind.u8 (c.toNat:Int) 32) && decide (bits BinOp.or IntKind.u8 (c.toNat:Int) 32<=122)) || (c.toNat == 95))=gh c:=
 wI ⟨c.toNat,c.toNat_lt⟩
theorem lA(c:UInt8)(w:World):Calls Tryz.prog 172 #[.int .u8 c.toNat] w fun e w'=>e= .returned (.bool (gh c))/\w=w':=by
 have hl:=ab (wH c);generalize hg:bits BinOp.or IntKind.u8 (c.toNat:Int) 32=g at hl;have HG:=ab hg
 go_in
 go_wp2;all_goals
  go_ret;refine⟨dg ?_,rfl⟩;rw[<-hl.out];simp;omega
theorem ru(c:UInt8)(w:World):Calls Tryz.prog 175 #[.int .u8 c.toNat] w fun e w'=>e= .returned (.bool (eI c))/\w=w':=by
 cases hl:gh c with
 |true=>
  have HL:=ab hl;clear hl
  go_in
  go_wp2_with (go_at_call 172;refine(lA _ _).mono ?_;rintro e w1 ⟨rfl,rfl⟩;rw[HL.out]);go_ret;exact⟨dg (by simp[eI,HL.out]),rfl⟩
 |false=>
  have HL:=ab hl;clear hl
  go_in
  go_wp2_with (go_at_call 172;refine(lA _ _).mono ?_;rintro e w1 ⟨rfl,rfl⟩;rw[HL.out]);all_goals
   go_ret;exact⟨dg (by simp[eI,HL.out,lp];try omega),rfl⟩
theorem Mj(g n c:Nat)(ss:List ar)(x:ByteArray)(w:World)(h:gL w (some ⟨g,0,none⟩) n ss)(hn:n<=9223372036854775807):Calls Tryz.prog 173 #[.slice (some ⟨g,0,none⟩) n c,.string x] w fun e w'=>e= .returned (.bool (dj ss (bl x)))/\w=w':=by
 have hl:=h.1;by_cases h0:n=0
 .subst h0;have:ss=[]:=List.eq_nil_of_length_eq_zero hl;subst this;refine(Tryz.slices_Contains_string_empty _ c x w).mono ?_;rintro e w1 ⟨rfl,rfl⟩;exact⟨rfl,rfl⟩
 .obtain⟨ad,e,_,hc⟩:=h.2 (by omega);injection e with e;subst e;refine(Tryz.slices_Contains_string g 0 n c (ss.map sb) x w (by simp[hl]) hn ?_).mono ?_
  .intro j hj;have hj':j<ss.length:=(by simpa using hj);have h1:=hc j ss[j] (br hj');rw[CE] at h1;rw[h1]
   congr 1
   simp[List.getD,List.getElem?_map,br hj']
  .rintro e w1 ⟨rfl,rfl⟩;refine⟨dg ?_,rfl⟩;rw[Lib.containsS_iff,List.take_of_length_le (by simp[hl])];unfold dj;simp only[List.contains_iff_mem,List.mem_map];constructor
   .rintro⟨l,hl,rfl⟩;exact hl
   .intro h;exact⟨_,h,rfl⟩
theorem cW(s:ByteArray)(w:World)(hE:bI w)(hs:s.size<=9223372036854775806):Calls Tryz.prog 112 #[.string s] w (ak (be (bl s)) w):=by
 have HE:=ab hE;clear hE;by_cases h0:s.size=0
 .have he:s.toList=[]:=(by rw[bG];exact List.eq_nil_of_length_eq_zero h0);have hi:Hid (be (bl s)=false):=(by show _=_;rw[<-bG,he];rfl);clear h0
  go_in
  go_wp2;go_ret;exact ak.intro hi.out.symm (ai _ _)
 .have he:(s.toList.isEmpty)=false:=by rw[bG];cases hh:bl s with|nil=>exact absurd (by rw[<-dt,hh];rfl) h0|cons a l=>rfl
  have hpos:0<s.size:=(by omega);clear h0;by_cases h24:24<s.size
  .have hi:=ab (qt h24)
   go_in
   go_wp2;go_ret;exact ak.intro hi.out.symm (ai _ _)
  .have h24':s.size<=24:=(by omega);clear h24;cases hc:gh s[0] with
   |false=>
    have hi:=ab (qs hpos hc);have HC:=ab hc;clear hc
    go_in
    go_wp2_with (go_at_call 172;refine(lA _ _).mono ?_;rintro e w' ⟨rfl,rfl⟩;rw[HC.out]);go_ret;exact ak.intro hi.out.symm (ai _ _)
   |true=>
    have HC:=ab hc;clear hc;cases hw:dj iu (bl s) with
    |true=>
     have hi:=ab (qu hw);have HW:=ab hw;clear hw
     go_in
     go_wp2_with (first|(go_at_call 172;refine(lA _ _).mono ?_;rintro e w' ⟨rfl,rfl⟩;rw[HC.out])|(go_at_call 174;refine(rt _ HE.out).mono ?_;rintro e w1 ⟨A1,rfl,hrow,hbel,_,g1,rfl⟩)|(go_at_call 173;refine(Mj _ _ _ _ _ _ hrow (by omega)).mono ?_;rintro e w' ⟨rfl,rfl⟩;rw[HW.out]));go_ret;exact ak.intro hi.out.symm hbel
    |false=>
     have HW:=ab hw;clear hw
     go_in
     go_wp2_with (first|(go_at_call 172;refine(lA _ _).mono ?_;rintro e w' ⟨rfl,rfl⟩;rw[HC.out])|(go_at_call 174;refine(rt _ HE.out).mono ?_;rintro e w1 ⟨A1,rfl,hrow,hbel,_,g1,rfl⟩)|(go_at_call 173;refine(Mj _ _ _ _ _ _ hrow (by omega)).mono ?_;rintro e w' ⟨rfl,rfl⟩;rw[HW.out]))
     go_loop [24] (fun i=>∃k:Nat,k<=s.size/\i= .int .i64 k/\Hid (∀j (h:j<s.size),j<k->eI s[j]=true)) (fun i=>s.size - (intOf i).toNat)
     case atStart=>exact⟨0,aE _,rfl,fun j _ h=>by omega⟩
     case round=>
      obtain⟨k,hk,rfl,HI⟩:=hrel;by_cases hlt:k<s.size
      .cases hl:eI s[k] with
       |true=>
        have HL:=ab hl;have HN:Hid (∀j (h:j<s.size),j<k+1->eI s[j]=true):=by
         intro j h hj;by_cases e:j=k
         .subst e;exact hl
         .exact HI.out j h (by omega)
        clear hl;go_wp2_with (go_at_call 175;refine(ru _ _).mono ?_;rintro e w' ⟨rfl,rfl⟩;rw[HL.out])
        go_round
        case rel=>exact⟨k+1,by omega,by go_num,HN⟩
        case measure=>simp[intOf];omega
       |false=>have HL:=ab hl;have hi:=ab (qo hlt hl);clear hl;go_wp2_with (go_at_call 175;refine(ru _ _).mono ?_;rintro e w' ⟨rfl,rfl⟩;rw[HL.out]);go_ret;exact ak.intro hi.out.symm hbel
      .have hi:=ab (qr hpos h24' HC.out HW.out (fun j h=>HI.out j h (by omega)));go_wp2;go_ret;exact ak.intro hi.out.symm hbel
theorem rk(k o:Nat)(w:World):Calls Tryz.prog 201 #[.int .u8 k,.int .u8 o] w fun e w'=>e= .returned (.bool (fP k o))/\w=w':=by
 by_cases h0:o=200
 .subst h0
  go_in
  go_wp2;all_goals
   go_ret;exact⟨dg (by simp[fP];try omega),rfl⟩
 .by_cases h1:o=201
  .subst h1
   go_in
   go_wp2;all_goals
    go_ret;exact⟨dg (by simp[fP];try omega),rfl⟩
  .by_cases h2:o=202
   .subst h2
    go_in
    go_wp2;all_goals
     go_ret;exact⟨dg (by simp[fP];try omega),rfl⟩
   .have e0:¬(o:Int)=200:=(by omega);have e1:¬(o:Int)=201:=(by omega);have e2:¬(o:Int)=202:=(by omega);have HR:Hid (fP k o=(k == o)):=(by show _=_;simp[fP,h0,h1,h2]);clear h0 h1 h2
    go_in
    go_wp2;go_ret;exact⟨dg (by rw[HR.out];simp;try omega),rfl⟩
def gG(zs:List Nat)(x:Nat):Bool:=zs.contains x
theorem wy{zs:List Nat}{x z:Nat}{k:Nat}(hz:zs[k]? =some z):gG (zs.take (k+1)) x=(gG (zs.take k) x || x == z):=by
 have hk:k<zs.length:=(gl.1 hz).1;have:zs.take (k+1)=zs.take k++[z]:=by rw[List.take_succ_eq_append_getElem hk];rw[br hk] at hz;injection hz with hz;rw[hz]
 unfold gG;rw[this,Bool.eq_iff_iff];simp
def ld(b:Bool)(w:World)(e:Ending)(w':World):Prop:=w=w'/\∃i:Int,e= .returned (.int .i64 i)/\(0<=i↔b=true)
theorem ld.intro{b:Bool}{w:World}{i:Int}(h:0<=i↔b=true):ld b w (.returned (.int .i64 i)) w:=⟨rfl,i,rfl,h⟩
theorem yq(zs:List Nat)(A:Option Addr)(n c x:Nat)(w:World)(h:qn w zs A n c):Calls Tryz.prog 212 #[.slice A n c,.int .u8 x] w (ld (gG zs x) w):=by
 have H:=ab h;have HL:Hid (n=zs.length):=h.1;have hn:n<=9223372036854775807:=(by have:=h.2.1;have:=h.2.2.1;unfold maxLen at this;omega);clear h
 go_in
 go_wp2
 go_loop [8] (fun i=>∃k:Nat,k<=n/\i= .int .i64 k/\Hid (gG (zs.take k) x=false)) (fun i=>n - (intOf i).toNat)
 case atStart=>exact⟨0,aE _,rfl,by show _=_;simp[gG]⟩
 case round=>
  obtain⟨k,hk,rfl,HB⟩:=hrel;by_cases hlt:k<n
  .obtain⟨b,o,z,rfl,hz,hc⟩:=H.out.get hlt;have HZ:=ab hz;have HS:=ab (wy (x:=x) hz);by_cases heq:x=z
   .subst heq;have HQ:Hid (gG zs x=true):=(by show _=_;simp[gG];exact List.mem_of_getElem? hz);clear hz;go_wp2;go_ret;exact ld.intro (by rw[HQ.out];simp)
   .have HQ:=ab heq;have e1:¬(x:Int)=z:=(by omega);clear heq hz;go_wp2
    go_round
    case rel=>exact⟨k+1,by omega,by go_num,by show _=_;rw[HS.out,HB.out];simp[HQ.out]⟩
    case measure=>simp[intOf];omega
  .go_wp2;go_ret;have h1:=HB.out;rw[List.take_of_length_le (by have:=HL.out;omega)] at h1;exact ld.intro (by rw[h1];simp)
theorem xY(zs:List Nat)(A:Option Addr)(n c x:Nat)(w:World)(h:qn w zs A n c):Calls Tryz.prog 176 #[.slice A n c,.int .u8 x] w fun e w'=>e= .returned (.bool (gG zs x))/\w=w':=by
 have H:=ab h;clear h
 go_in
 go_wp2_with fail;refine(yq zs A n c x _ H.out).mono ?_;rintro e w' ⟨rfl,i,rfl,hi⟩;have HI:=ab hi;clear hi;go_wp2;go_ret;exact⟨dg (by simp[HI.out]),rfl⟩
theorem kH(k:Nat)(w:World):Calls Tryz.prog 200 #[.int .u8 k] w (ak (cG k) w):=by
 have HK:=ab (qn.new w #[.int .u8 2,.int .u8 4,.int .u8 6,.int .u8 22,.int .u8 25] 22 (by rfl) (by decide));have HR:Hid (gG [2,4,6,22,25] k=cG k):=by show _=_;unfold gG cG;rw[Bool.eq_iff_iff];simp[or_assoc]
 go_in
 go_wp2_with fail;refine(xY [2,4,6,22,25] _ _ _ _ _ HK.out).mono ?_;rintro e w' ⟨rfl,rfl⟩;rw[HR.out];go_wp2;go_ret;exact ak.intro rfl ((ai _ _).alloc (ah _) _)
theorem zZ:∀k:Fin 30,∀l,ig k.val=some (l,true)->l=[l.headD 0]:=by intro k l h;revert h;revert l;have:∀k:Fin 30,(match ig k.val with|some (l,true)=>l == [l.headD 0]|_=>true)=true:=(by decide);intro l h;have h2:=this k;rw[h] at h2;simpa using h2
theorem Ae{k:Nat}(h:30<=k):ig k=none:=by obtain⟨n,rfl⟩:∃n,k=n+30:=⟨k - 30,by omega⟩;rfl
theorem Ad{k:Nat}{l:List Nat}(h:ig k=some (l,true)):∃a,l=[a]:=by
 by_cases hk:k<30
 .exact⟨_,zZ ⟨k,hk⟩ l h⟩
 .rw[Ae (by omega)] at h;cases h
theorem mE(p k i:Nat)(w:World):Calls Tryz.prog 157 #[.int .u8 p,.int .u8 k,.int .i64 i] w (ak (mn p k i) w):=by
 cases hr:ig p with
 |none=>
  have HR:=ab hr;have HF:Hid (mn p k i=false):=(by show _=_;unfold mn;rw[hr]);clear hr
  go_in
  go_wp2_with fail;refine(gX p _).mono ?_;rintro e w1 ⟨hb,hp⟩;rw[HR.out] at hp;simp only at hp;subst hp;have HB:=ab hb;clear hb;go_wp2;go_ret;exact ak.intro HF.out.symm (HB.out.alloc HB.out.size _)
 |some r=>
  obtain⟨l,all⟩:=r;have HR:=ab hr;cases all with
  |true=>
   obtain⟨a,rfl⟩:=Ad hr;have HF:Hid (fP k a=mn p k i):=(by show _=_;unfold mn;rw[hr];rfl);clear hr
   go_in
   go_wp2_with fail;refine(gX p _).mono ?_;rintro e w1 ⟨hb,hp⟩;rw[HR.out] at hp;simp only at hp;obtain⟨v,rfl,A,n,c,rfl,hk⟩:=hp;have HB:=ab hb;obtain⟨rfl,_⟩:=id hk;obtain⟨b,o,z,rfl,hz,hc⟩:=hk.get (i:=0) (by simp);simp at hz;subst hz;have hlt:=bK hc;simp only[Nat.add_zero] at hc hlt;clear hk hb;go_wp2_with fail;refine(rk k a _).mono ?_;rintro e w2 ⟨rfl,rfl⟩;go_wp2;go_ret;exact ak.intro HF.out (HB.out.alloc HB.out.size _)
  |false=>
   by_cases hi:i<l.length
   .have HF:Hid (∀z,l[i]? =some z->fP k z=mn p k i):=(by intro z hz;unfold mn;rw[hr];simp[hz]);clear hr
    go_in
    go_wp2_with fail;refine(gX p _).mono ?_;rintro e w1 ⟨hb,hp⟩;rw[HR.out] at hp;simp only at hp;obtain⟨v,rfl,A,n,c,rfl,hk⟩:=hp;have HB:=ab hb;obtain⟨rfl,_⟩:=id hk;obtain⟨b,o,z,rfl,hz,hc⟩:=hk.get (i:=i) hi;have HZ:=ab (HF.out z hz);have hlt:=bK hc;simp only at hlt;have hll:l.length<=9223372036854775807:=(by have h1:=hk.2.1;have h2:=hk.2.2.1;simp only at h1;unfold maxLen at h2;omega);clear hk hb hz;go_wp2_with fail;refine(rk k z _).mono ?_;rintro e w2 ⟨rfl,rfl⟩;go_wp2;go_ret;exact ak.intro HZ.out (HB.out.alloc HB.out.size _)
   .have HF:Hid (mn p k i=false):=(by show _=_;unfold mn;rw[hr];simp[List.getElem?_eq_none (by omega:l.length<=i)]);clear hr
    go_in
    go_wp2_with fail;refine(gX p _).mono ?_;rintro e w1 ⟨hb,hp⟩;rw[HR.out] at hp;simp only at hp;obtain⟨v,rfl,A,n,c,rfl,hk⟩:=hp;have HB:=ab hb;obtain⟨rfl,_⟩:=id hk;have hll:l.length<=9223372036854775807:=(by have h1:=hk.2.1;have h2:=hk.2.2.1;simp only at h1;unfold maxLen at h2;omega);clear hk hb;go_wp2_with fail;go_ret;exact ak.intro HF.out.symm (HB.out.alloc HB.out.size _)
theorem yk(w:World)(hE:bI w):Calls Tryz.prog 199 #[.string ⟨#[45,32,33]⟩] w (jq 2 lK w):=by refine(Tryz.strings_Fields _ w (by decide) (nL (by decide)) hE.tabS).mono ?_;rintro e w1 ⟨rfl,rfl⟩;exact oU (by decide+kernel) (by decide) w
theorem yj(w:World)(hE:bI w):Calls Tryz.prog 199 #[.string ⟨#[124,124,32,38,38,32,61,61,32,33,61,32,60,32,60,61,32,62,32,62,61,32,43,32,45,32,42,32,47,32,37]⟩] w (jq 13 Bz w):=by refine(Tryz.strings_Fields _ w (by decide) (nL (by decide)) hE.tabS).mono ?_;rintro e w1 ⟨rfl,rfl⟩;exact oU (by decide+kernel) (by decide) w
theorem rf(s t:ByteArray)(n:Nat)(ss:List ar)(b:Nat)(w:World)(hE:bI w)(hx:w.cell? ⟨b,1,none⟩=some (.string t))(hF:Hid (∀w,bI w->Calls Tryz.prog 199 #[.string s] w (jq n ss w)))(hn:n<=9223372036854775807)(h0:dj ss []=false):Calls Tryz.prog 198 #[.string s,.pointer (some ⟨b,0,none⟩)] w (ak (dj ss (bl t)) w):=by
 have HE:=ab hE;have hlt:=bK hx;simp only at hlt;have H0:=ab h0;clear hE h0;by_cases ht:bl t=[]
 .obtain rfl:t=⟨#[]⟩:=(by apply fk;rw[ht]);have HR:Hid (dj ss (bl ⟨#[]⟩)=false):=H0.out;clear ht
  go_in
  go_wp2
  go_quiet (fail)
  go_wp2;go_ret;exact ak.intro HR.out.symm (bS (ai _ _) _)
 .have h1:t.toList.isEmpty=false:=by rw[bG];cases hh:bl t with|nil=>exact absurd hh ht|cons a l=>rfl
  clear ht
  go_in
  go_wp2
  go_region_with (first|(go_at_call 199;refine(hF.out _ (HE.out.below (B:=w.heap.size) (by first|exact ai _ _|exact(ai _ _).drew) (ah _))).mono ?_;rintro e w1 ⟨A1,rfl,hrow,hbel',_,g1,rfl⟩;have hbel:Below w.heap.size w w1:=Below.trans (by first|exact ai _ _|exact(ai _ _).drew) hbel';have hx1:=(hbel.cell (p:=⟨b,1,none⟩) (by simpa using hlt)).trans hx;clear hbel')|(go_at_call 173;refine(Mj _ _ _ _ _ _ hrow hn).mono ?_;rintro e w' ⟨rfl,rfl⟩))
  all_goals
   go_wp2;go_ret;exact ak.intro rfl (by first|exact hbel|exact hbel.drew)
theorem qg(args:Array Value)(w:World):(callFunc 198 args).run Tryz.prog w= .ok (.enter 198 args) w:=eH Tryz.func198 (by kernel_rfl) (by kernel_rfl) args w
theorem j7{w:World}{x y z u:Value}{T:TypeId}:(w.alloc (.cells #[x,y,z,u] T)).cell? ⟨w.heap.size,0,none⟩=some x/\(w.alloc (.cells #[x,y,z,u] T)).cell? ⟨w.heap.size,1,none⟩=some y/\(w.alloc (.cells #[x,y,z,u] T)).cell? ⟨w.heap.size,2,none⟩=some z/\(w.alloc (.cells #[x,y,z,u] T)).cell? ⟨w.heap.size,3,none⟩=some u:=by refine⟨?_,?_,?_,?_⟩ <;> (rw[World.cell?_alloc_new];rfl)
theorem mH(k:Nat)(s:ByteArray)(x:Int)(A:Option Addr)(n c:Nat)(w:World)(hE:bI w)(hs:s.size<=9223372036854775806):Calls Tryz.prog 156 #[.agg #[.int .u8 k,.string s,.int .i64 x,.slice A n c]] w (ak (dx k (bl s) x) w):=by
 have hb0:Below w.heap.size w (w.alloc (.cells #[.int .u8 k,.string s,.int .i64 x,.slice A n c] 25)):=(ai _ _).alloc (ah _) _;have HB0:=ab hb0;have HE:=ab (hE.below hb0 (ah _));have hmf:=lH;clear hE hb0;have HS1:Hid (bl s=[]->s=⟨#[]⟩):=fun h=>by apply fk;rw[h]
 have HS2:Hid (bl s≠[]->s.toList.isEmpty=false):=fun h=>by rw[bG];cases hh:bl s with|nil=>exact absurd hh h|cons a l=>rfl
 by_cases h20:k=20
 .subst h20;by_cases he:bl s=[]
  .obtain rfl:=HS1.out he;clear he
   go_in
   go_wp2_with fail;go_ret;exact ak.intro (by simp[dx]) HB0.out
  .have h1:=HS2.out he;have HR:Hid (dx 20 (bl s) x=false):=(by show _=_;revert he;generalize bl s=t;intro he;simp[dx,he]);clear he
   go_in
   go_wp2_with fail;go_ret;exact ak.intro HR.out.symm HB0.out
 .by_cases h21:k=21
  .subst h21;by_cases he:bl s=[]
   .obtain rfl:=HS1.out he;clear he
    go_in
    go_wp2_with fail;go_ret;refine ak.intro ?_ HB0.out;rw[Bool.eq_iff_iff];simp[dx];omega
   .have h1:=HS2.out he;have HR:Hid (dx 21 (bl s) x=false):=(by show _=_;revert he;generalize bl s=t;intro he;simp[dx,he]);clear he
    go_in
    go_wp2_with fail;go_ret;exact ak.intro HR.out.symm HB0.out
  .have e20:¬(k:Int)=20:=(by omega);have e21:¬(k:Int)=21:=(by omega);by_cases hx:x=0
   .subst hx;cases hn:cG k with
    |true=>
     have HN:=ab hn;have HR:Hid (be (bl s)=dx k (bl s) 0):=(by show _=_;simp[dx,h20,h21,hn]);clear hn h20 h21
     go_in
     go_wp2_with fail;refine(kH k _).mono ?_;rintro e w1 ⟨rfl,hb⟩;rw[HN.out];have HB1:Hid (Below w.heap.size w w1):=HB0.out.trans (hb.mono HB0.out.size);have HE1:=ab (HE.out.below hb (ah _));have hc:=(hb.cell (p:=⟨w.heap.size,1,none⟩) (by simp)).trans j7.2.1;clear hb;go_wp2_with fail;refine(cW s _ HE1.out hs).mono ?_;rintro e w2 ⟨rfl,hb⟩;have HB2:Hid (Below w.heap.size w w2):=HB1.out.trans (hb.mono HB1.out.size);clear hb;go_wp2;go_ret;exact ak.intro HR.out HB2.out
    |false=>
     have HN:=ab hn;by_cases h23:k=23
     .subst h23;have HR:Hid (dj lK (bl s)=dx 23 (bl s) 0):=rfl;clear hn
      go_in
      go_wp2_with fail;refine(kH 23 _).mono ?_;rintro e w1 ⟨rfl,hb⟩;rw[HN.out];have HB1:Hid (Below w.heap.size w w1):=HB0.out.trans (hb.mono HB0.out.size);have HE1:=ab (HE.out.below hb (ah _));have hc:=(hb.cell (p:=⟨w.heap.size,1,none⟩) (by simp)).trans j7.2.1;have hc0:=(hb.cell (p:=⟨w.heap.size,0,none⟩) (by simp)).trans j7.1;have HC:=ab hc;have hcf:=qg;clear hb hc;go_wp2_with fail;refine(rf _ s 2 lK w.heap.size _ HE1.out HC.out (ab yk) (by decide) (by decide)).mono ?_;rintro e w2 ⟨rfl,hb⟩;have HB2:Hid (Below w.heap.size w w2):=HB1.out.trans (hb.mono HB1.out.size);clear hb;go_wp2;go_ret;exact ak.intro HR.out HB2.out
     .have e23:¬(k:Int)=23:=(by omega);by_cases h24:k=24
      .subst h24;have HR:Hid (dj Bz (bl s)=dx 24 (bl s) 0):=rfl;clear hn
       go_in
       go_wp2_with fail;refine(kH 24 _).mono ?_;rintro e w1 ⟨rfl,hb⟩;rw[HN.out];have HB1:Hid (Below w.heap.size w w1):=HB0.out.trans (hb.mono HB0.out.size);have HE1:=ab (HE.out.below hb (ah _));have hc:=(hb.cell (p:=⟨w.heap.size,1,none⟩) (by simp)).trans j7.2.1;have hc0:=(hb.cell (p:=⟨w.heap.size,0,none⟩) (by simp)).trans j7.1;have HC:=ab hc;have hcf:=qg;clear hb hc;go_wp2_with fail;refine(rf _ s 13 Bz w.heap.size _ HE1.out HC.out (ab yj) (by decide) (by decide)).mono ?_;rintro e w2 ⟨rfl,hb⟩;have HB2:Hid (Below w.heap.size w w2):=HB1.out.trans (hb.mono HB1.out.size);clear hb;go_wp2;go_ret;exact ak.intro HR.out HB2.out
      .have e24:¬(k:Int)=24:=(by omega);have HR:Hid (dx k (bl s) 0=(bl s == [])):=(by show _=_;simp[dx,h20,h21,hn,h23,h24]);clear hn h20 h21 h23 h24;by_cases he:bl s=[]
       .obtain rfl:=HS1.out he;clear he
        go_in
        go_wp2_with fail;refine(kH k _).mono ?_;rintro e w1 ⟨rfl,hb⟩;rw[HN.out];have HB1:Hid (Below w.heap.size w w1):=HB0.out.trans (hb.mono HB0.out.size);have hc:=(hb.cell (p:=⟨w.heap.size,1,none⟩) (by simp)).trans j7.2.1;have hc0:=(hb.cell (p:=⟨w.heap.size,0,none⟩) (by simp)).trans j7.1;clear hb;go_wp2;go_ret;exact ak.intro (by rw[HR.out];rfl) HB1.out
       .have h1:=HS2.out he;have HF:Hid (dx k (bl s) 0=false):=(by show _=_;rw[HR.out];simpa using he);clear he
        go_in
        go_wp2_with fail;refine(kH k _).mono ?_;rintro e w1 ⟨rfl,hb⟩;rw[HN.out];have HB1:Hid (Below w.heap.size w w1):=HB0.out.trans (hb.mono HB0.out.size);have hc:=(hb.cell (p:=⟨w.heap.size,1,none⟩) (by simp)).trans j7.2.1;have hc0:=(hb.cell (p:=⟨w.heap.size,0,none⟩) (by simp)).trans j7.1;clear hb;go_wp2;go_ret;exact ak.intro HF.out.symm HB1.out
   .have HR:Hid (dx k (bl s) x=false):=(by show _=_;simp[dx,h20,h21,hx]);clear h20 h21
    go_in
    go_wp2_with fail;go_ret;exact ak.intro HR.out.symm HB0.out
theorem jL{ks:List ag}{i:Nat}{t:ag}(h:ks[i]? =some t):t.sz<=ao ks:=by
 induction ks generalizing i with
 |nil=>simp at h
 |cons u us ih=>
  cases i with
  |zero=>simp at h;subst h;simp[ao]
  |succ i=>have:=ih (i:=i) (by simpa using h);simp[ao];omega
theorem si:∀{ts us:List ag},ts.length≠us.length->bB ts us=false:=by intro ts us h;rw[qY];intro e;exact h (by rw[e])
theorem sj{ts us:List ag}{j:Nat}{t u:ag}(h:bB ts us=bB (ts.drop j) (us.drop j))(ht:ts[j]? =some t)(hu:us[j]? =some u):bB ts us=(t.same u && bB (ts.drop (j+1)) (us.drop (j+1))):=by have h1:j<ts.length:=(gl.1 ht).1;have h2:j<us.length:=(gl.1 hu).1;rw[h,List.drop_eq_getElem_cons h1,List.drop_eq_getElem_cons h2];rw[br h1] at ht;rw[br h2] at hu;injection ht with ht;injection hu with hu;rw[ht,hu];simp only[bB]
theorem Rj{k k':Nat}{s s':ar}{x x':Int}{ks ks':List ag}(h1:k=k')(h2:s=s')(h3:x=x'):ag.same (.node k s x ks) (.node k' s' x' ks')=bB ks ks':=by subst h1 h2 h3;simp[ag.same]
theorem kQ{k k':Nat}{s s':ar}{x x':Int}{ks ks':List ag}(h:¬(k=k'/\s=s'/\x=x')):ag.same (.node k s x ks) (.node k' s' x' ks')=false:=by rw[<-Bool.not_eq_true,Kq];intro e;injection e with e1 e2 e3 _;exact h ⟨e1,e2,e3⟩
def iE(f:FuncId)(m:Nat):Prop:=∀(t u:ag) (k:Nat) (s:ByteArray) (x:Int) (A:Option Addr) (n c k':Nat) (s':ByteArray) (x':Int) (A':Option Addr) (n' c':Nat) (w:World),t.sz<=m->cf w t k s x A n c->cf w u k' s' x' A' n' c'->
 Calls Tryz.prog f #[.agg #[.int .u8 k,.string s,.int .i64 x,.slice A n c],.agg #[.int .u8 k',.string s',.int .i64 x',.slice A' n' c']] w (ak (t.same u) w)
theorem uK(args:Array Value)(w:World):(callFunc 106 args).run Tryz.prog w= .ok (.enter 106 args) w:=eH Tryz.func106 (by kernel_rfl) (by kernel_rfl) args w
theorem yc(m:Nat)(ih:Hid (iE 106 m))(ts us:List ag)(A A':Option Addr)(n c n' c':Nat)(w:World)(hsz:ao ts<=m)(hK:ce w ts A n c)(hK':ce w us A' n' c'):Calls Tryz.prog 170 #[.slice A n c,.slice A' n' c',.func (.func 106) #[] #[]] w (ak (bB ts us) w):=by
 have HK:=ab hK;have HK':=ab hK';have HSZ:=ab hsz;have hnn:n<=9223372036854775807:=(by have h1:=hK.2.1;have h2:=hK.2.2.1;unfold maxLen at h2;omega);have HL:Hid (n=ts.length/\n'=us.length):=⟨hK.1,hK'.1⟩;clear hK hK' hsz;by_cases hl:n=n'
 .subst hl
  go_in
  go_wp2_with fail;go_loopw [17] (fun i wr=>∃j:Nat,j<=n/\i= .int .i64 j/\Hid (Below w.heap.size w wr)/\Hid (bB ts us=bB (ts.drop j) (us.drop j))) (fun i _=>n - (intOf i).toNat);case atStart=>exact⟨0,aE _,rfl,ai _ _,rfl⟩
  case round=>
   obtain⟨j,hj,rfl,HB,HI⟩:=hrel;by_cases hlt:j<n
   .obtain⟨b,o,t,rfl,ht,hat⟩:=(HK.out.below HB.out).get hlt;obtain⟨B1,d1,q0,q1,q2,q3,hnode⟩:=hat.cells;obtain⟨b',o',u,rfl,hu,hat'⟩:=(HK'.out.below HB.out).get hlt;obtain⟨B2,d2,p0,p1,p2,p3,hnode'⟩:=hat'.cells;have hqlt:=bK q0;have hplt:=bK p0;simp only at hqlt hplt;have HND:=ab hnode;have HND':=ab hnode';have HSZT:Hid (t.sz<=m):=aJ (jL ht) HSZ.out;have HST:=ab (sj HI.out ht hu);have hcf:=uK;clear ht hat hnode hu hat' hnode';go_wp2_with fail;have hb2:Below wr.heap.size wr ((wr.alloc (.cells #[.int .u8 t.kind,.string (sb t.text),.int .i64 t.num,.slice B1 t.kids.length d1] 25)).alloc (.cells #[.int .u8 u.kind,.string (sb u.text),.int .i64 u.num,.slice B2 u.kids.length d2] 25)):=((ai _ _).alloc (ah _) _).alloc (by simp) _;refine(ih.out t u _ _ _ _ _ _ _ _ _ _ _ _ _ HSZT.out (HND.out.below hb2) (HND'.out.below hb2)).mono ?_;rintro e w3 ⟨rfl,hb3⟩;have HB3:Hid (Below w.heap.size w w3):=HB.out.trans ((hb2.trans (hb3.mono hb2.size)).mono HB.out.size);clear hb2 hb3;cases hs:t.same u with
    |true=>
     have HN:Hid (bB ts us=bB (ts.drop (j+1)) (us.drop (j+1))):=(by show _=_;rw[HST.out,hs];simp);clear hs;go_wp2_with fail;go_roundw;case rel=>exact⟨j+1,by omega,by go_num,HB3.out,HN.out⟩
     case measure=>simp[intOf];omega
    |false=>have HV:Hid (bB ts us=false):=(by show _=_;rw[HST.out,hs];simp);clear hs;go_wp2_with fail;go_ret;exact ak.intro HV.out.symm HB3.out
   .have HV:Hid (bB ts us=true):=by show _=_;obtain⟨e1,e2⟩:=HL.out;rw[HI.out,List.drop_eq_nil_of_le (by omega),List.drop_eq_nil_of_le (by omega)];rfl
    go_wp2_with fail;go_ret;exact ak.intro HV.out.symm HB.out
 .have HV:Hid (bB ts us=false):=si (by obtain⟨e1,e2⟩:=HL.out;omega);have hl':((n:Int) != n')=true:=by simp;omega
  go_in
  go_wp2_with fail;go_ret;exact ak.intro HV.out.symm (ai _ _)
theorem fW{s s':ByteArray}(h:bl s≠bl s'):(s.toList == s'.toList)=false:=by rw[bG,bG];simpa using h
theorem Aq(m:Nat)(ih:Hid (iE 106 m)):iE 106 (m+1):=by
 intro t u k s x A n c k' s' x' A' n' c' w hsz hN hN';obtain⟨ks,rfl,_,_,_,hK⟩:=hN;obtain⟨ks',rfl,_,_,_,hK'⟩:=hN';have hb0:Below w.heap.size w ((w.alloc (.cells #[.int .u8 k,.string s,.int .i64 x,.slice A n c] 25)).alloc (.cells #[.int .u8 k',.string s',.int .i64 x',.slice A' n' c'] 25)):=((ai _ _).alloc (ah _) _).alloc (by simp) _;have HB0:=ab hb0;have HK:=ab (hK.below hb0);have HK':=ab (hK'.below hb0);have HSZ:Hid (ao ks<=m):=(by show _<=_;simp only[ag.sz] at hsz;omega);clear hsz hb0 hK hK';by_cases h1:k=k'
 .subst h1;by_cases h2:bl s=bl s'
  .obtain rfl:=fk h2;by_cases h3:x=x'
   .subst h3;have HV:Hid (ag.same (.node k (bl s) x ks) (.node k (bl s) x ks')=bB ks ks'):=Rj rfl rfl rfl;clear h2
    go_in
    go_wp2_with fail;refine(yc m ih ks ks' _ _ _ _ _ _ _ HSZ.out HK.out HK'.out).mono ?_;rintro e w1 ⟨rfl,hb⟩;have HB:Hid (Below w.heap.size w w1):=HB0.out.trans (hb.mono HB0.out.size);clear hb;go_wp2;go_ret;exact ak.intro HV.out.symm HB.out
   .have HV:Hid (ag.same (.node k (bl s) x ks) (.node k (bl s) x' ks')=false):=kQ (fun h=>h3 h.2.2);have e3:(x == x')=false:=(by simpa using h3);clear h2
    go_in
    go_wp2_with fail;go_ret;exact ak.intro HV.out.symm HB0.out
  .have HV:Hid (ag.same (.node k (bl s) x ks) (.node k (bl s') x' ks')=false):=kQ (fun h=>h2 h.2.1);have e2:=fW h2;clear h2
   go_in
   go_wp2_with fail;go_ret;exact ak.intro HV.out.symm HB0.out
 .have HV:Hid (ag.same (.node k (bl s) x ks) (.node k' (bl s') x' ks')=false):=kQ (fun h=>h1 h.1);have e1:((k:Int) == k')=false:=(by simp;omega);clear h1
  go_in
  go_wp2_with fail;go_ret;exact ak.intro HV.out.symm HB0.out
theorem sk:∀m,iE 106 m
 |0=>by intro t u k s x A n c k' s' x' A' n' c' w hsz;obtain⟨k0,s0,x0,ks0⟩:=t;simp[ag.sz] at hsz
 |m+1=>Aq m (ab (sk m))
theorem yV(t u:ag)(k:Nat)(s:ByteArray)(x:Int)(A:Option Addr)(n c k':Nat)(s':ByteArray)(x':Int)(A':Option Addr)(n' c':Nat)(w:World)(hN:cf w t k s x A n c)(hN':cf w u k' s' x' A' n' c'):Calls Tryz.prog 106 #[.agg #[.int .u8 k,.string s,.int .i64 x,.slice A n c],.agg #[.int .u8 k',.string s',.int .i64 x',.slice A' n' c']] w (ak (t.same u) w):=sk t.sz _ _ _ _ _ _ _ _ _ _ _ _ _ _ _ (ah _) hN hN'

def ay(w:World)(e:aj)(k:Nat)(pA:Option Addr)(pn pc:Nat)(i j:Int)(f t:ByteArray)(oA:Option Addr)(on oc:Nat)(nA:Option Addr)(nn nc:Nat):Prop:=
 ∃ps os ns,e=⟨k,ps,i,j,bl f,bl t,os,ns⟩/\cc w ps pA pn pc/\ce w os oA on oc/\ce w ns nA nn nc
theorem ay.keep{w w':World}(hb:∀a v,w.cell? a=some v->w'.cell? a=some v){e:aj}{k:Nat}{pA:Option Addr}{pn pc:Nat}{i j:Int}{f t:ByteArray}{oA:Option Addr}{on oc:Nat}{nA:Option Addr}{nn nc:Nat}(h:ay w e k pA pn pc i j f t oA on oc nA nn nc):ay w' e k pA pn pc i j f t oA on oc nA nn nc:=by obtain⟨ps,os,ns,e,h1,h2,h3⟩:=h;exact⟨ps,os,ns,e,h1.keep hb,h2.keep hb,h3.keep hb⟩
theorem ay.below{w w':World}(hb:Below w.heap.size w w'){e:aj}{k:Nat}{pA:Option Addr}{pn pc:Nat}{i j:Int}{f t:ByteArray}{oA:Option Addr}{on oc:Nat}{nA:Option Addr}{nn nc:Nat}(h:ay w e k pA pn pc i j f t oA on oc nA nn nc):ay w' e k pA pn pc i j f t oA on oc nA nn nc:=h.keep fun _ _=>ac hb
def aW(R:List Value):List Nat:=R.filterMap Value.ownBlock
theorem gg(R S:List Value):aW (R++S)=aW R++aW S:=List.filterMap_append
theorem iR{R:List Value}{v:Value}{g:Nat}(hv:v∈R)(hg:v.ownBlock=some g):g∈aW R:=List.mem_filterMap.2 ⟨v,hv,hg⟩
theorem eV{R:List Value}{g:Nat}(h:g∈aW R):∃v∈R,v.ownBlock=some g:=List.mem_filterMap.1 h
mutual
def rc (w:World):ag->Nat->Nat->List Value->Prop
 | .node _ _ _ ks,b,o,R=>∃A c,w.cell? ⟨b,o+3,none⟩=some (.slice A ks.length c)/\∃R',R= .slice A ks.length c::R'/\(ks=[]/\R'=[]∨∃g,A=some ⟨g,0,none⟩/\cR w ks g 0 R')
def cR (w:World):List ag->Nat->Nat->List Value->Prop
 |[],_,_,R=>R=[]
 |t::ts,b,o,R=>∃R1 R2,R=R1++R2/\rc w t b o R1/\cR w ts b (o+4) R2
end
def dr(w:World)(ks:List ag)(A:Option Addr)(n c:Nat)(R:List Value):Prop:=∃R',R= .slice A n c::R'/\(ks=[]/\R'=[]∨∃g,A=some ⟨g,0,none⟩/\cR w ks g 0 R')
theorem rc.of{w:World}{t:ag}{b o:Nat}{A:Option Addr}{c:Nat}{R:List Value}(h3:w.cell? ⟨b,o+3,none⟩=some (.slice A t.kids.length c))(h:dr w t.kids A t.kids.length c R):rc w t b o R:=by obtain⟨k,s,x,ks⟩:=t;exact⟨A,c,h3,h⟩
mutual
theorem rc.keep {w w':World}:∀{t:ag} {b o:Nat} {R:List Value},rc w t b o R->w'.cell? ⟨b,o+3,none⟩=w.cell? ⟨b,o+3,none⟩->(∀g∈aW R,w'.heap[g]? =w.heap[g]?)->rc w' t b o R
 | .node k s x ks,b,o,R,h,hc,hk=>by
  obtain⟨A,c,h3,R',rfl,h⟩:=h;refine⟨A,c,hc.trans h3,R',rfl,?_⟩;rcases h with h|⟨g,rfl,h⟩
  .exact .inl h
  .have hg:w'.heap[g]? =w.heap[g]? :=hk g (by simp[aW,Value.ownBlock]);refine .inr ⟨g,rfl,cR.keep h (fun p=>World.cell?_of_block (a:=⟨g,p,none⟩) hg) fun q hq=>hk q (by simp only[aW,List.filterMap_cons,Value.ownBlock];exact List.mem_cons_of_mem _ hq)⟩
theorem cR.keep {w w':World}:∀{ts:List ag} {b o:Nat} {R:List Value},cR w ts b o R->(∀p,w'.cell? ⟨b,p,none⟩=w.cell? ⟨b,p,none⟩)->(∀g∈aW R,w'.heap[g]? =w.heap[g]?)->cR w' ts b o R
 |[],_,_,_,h,_,_=>h
 |t::ts,b,o,R,h,hc,hk=>by obtain⟨R1,R2,rfl,h1,h2⟩:=h;rw[gg] at hk;exact⟨R1,R2,rfl,rc.keep h1 (hc _) fun g hg=>hk g (List.mem_append_left _ hg),cR.keep h2 hc fun g hg=>hk g (List.mem_append_right _ hg)⟩
end
theorem cR.keepC{w w':World}:∀{ts:List ag} {b o:Nat} {R:List Value},cR w ts b o R->(∀i,i<ts.length->w'.cell? ⟨b,o+i*4+3,none⟩=w.cell? ⟨b,o+i*4+3,none⟩)->(∀g∈aW R,w'.heap[g]? =w.heap[g]?)->cR w' ts b o R
 |[],_,_,_,h,_,_=>h
 |t::ts,b,o,R,h,hc,hk=>by obtain⟨R1,R2,rfl,h1,h2⟩:=h;rw[gg] at hk;refine⟨R1,R2,rfl,rc.keep h1 (by simpa using hc 0 (by simp)) fun g hg=>hk g (List.mem_append_left _ hg),cR.keepC h2 (fun i hi=>?_) fun g hg=>hk g (List.mem_append_right _ hg)⟩;have:=hc (i+1) (by simp;omega);rwa [show o+(i+1) *4+3=o+4+i*4+3 from by omega] at this
theorem cR.snoc{w:World}:∀{ts:List ag} {b o:Nat} {R R1:List Value} {t:ag},cR w ts b o R->rc w t b (o+ts.length*4) R1->cR w (ts++[t]) b o (R++R1)
 |[],b,o,R,R1,t,h,h1=>by
  cases h
  exact⟨R1,[],by simp,by simpa using h1,rfl⟩
 |u::ts,b,o,R,R1,t,h,h1=>by obtain⟨S1,S2,rfl,h2,h3⟩:=h;refine⟨S1,S2++R1,by simp,h2,cR.snoc h3 ?_⟩;rwa [show o+4+ts.length*4=o+(u::ts).length*4 from by simp;omega]
theorem dr.keep{w w':World}{ks:List ag}{A:Option Addr}{n c:Nat}{R:List Value}(h:dr w ks A n c R)(hk:∀g∈aW R,w'.heap[g]? =w.heap[g]?):dr w' ks A n c R:=by
 obtain⟨R',rfl,h⟩:=h;refine⟨R',rfl,?_⟩;rcases h with h|⟨g,rfl,h⟩
 .exact .inl h
 .have hg:w'.heap[g]? =w.heap[g]? :=hk g (by simp[aW,Value.ownBlock]);exact .inr ⟨g,rfl,cR.keep h (fun p=>World.cell?_of_block (a:=⟨g,p,none⟩) hg) fun q hq=>hk q (by simp only[aW,List.filterMap_cons,Value.ownBlock];exact List.mem_cons_of_mem _ hq)⟩
def eu(w:World):List ag->List Value->List Value->Prop
 |[],_,R=>R=[]
 |t::ts,xs,R=>∃A c R1 R2,xs[3]? =some (.slice A t.kids.length c)/\R=R1++R2/\dr w t.kids A t.kids.length c R1/\eu w ts (xs.drop 4) R2
theorem eu.keep{w w':World}:∀{ts:List ag} {xs R:List Value},eu w ts xs R->(∀g∈aW R,w'.heap[g]? =w.heap[g]?)->eu w' ts xs R
 |[],_,_,h,_=>h
 |t::ts,xs,R,h,hk=>by obtain⟨A,c,R1,R2,h3,rfl,h1,h2⟩:=h;rw[gg] at hk;exact⟨A,c,R1,R2,h3,rfl,h1.keep fun g hg=>hk g (List.mem_append_left _ hg),eu.keep h2 fun g hg=>hk g (List.mem_append_right _ hg)⟩
theorem eu.snoc{w:World}:∀{ts:List ag} {xs ys R R1:List Value} {t:ag} {A:Option Addr} {c:Nat},eu w ts xs R->xs.length=ts.length*4->ys[3]? =some (.slice A t.kids.length c)->dr w t.kids A t.kids.length c R1->eu w (ts++[t]) (xs++ys) (R++R1)
 |[],xs,ys,R,R1,t,A,c,h,hl,h3,h1=>by
  cases h
  have:xs=[]:=List.eq_nil_of_length_eq_zero (by simpa using hl);subst this;exact⟨A,c,R1,[],by simpa using h3,by simp,h1,rfl⟩
 |u::ts,xs,ys,R,R1,t,A,c,h,hl,h3,h1=>by obtain⟨A',c',S1,S2,e3,rfl,h2,h4⟩:=h;have hl':xs.length=ts.length*4+4:=(by rw[hl];simp;omega);refine⟨A',c',S1,S2++R1,by rw[cM (by omega)];exact e3,by simp,h2,?_⟩;have e:(xs++ys).drop 4=xs.drop 4++ys:=(by rw[List.drop_append_of_le_length (by omega)]);rw[e];exact eu.snoc h4 (by simp;omega) h3 h1
theorem eu.mem{w:World}{g:Nat}:∀{ts:List ag} {o:Nat} {xs R:List Value},eu w ts xs R->(∀p u,xs[p]? =some u->w.cell? ⟨g,o+p,none⟩=some u)->cR w ts g o R
 |[],_,_,_,h,_=>h
 |t::ts,o,xs,R,h,hx=>by obtain⟨A,c,R1,R2,h3,rfl,h1,h2⟩:=h;refine⟨R1,R2,rfl,rc.of (hx 3 _ h3) h1,eu.mem h2 fun p u hu=>?_⟩;rw[List.getElem?_drop] at hu;have:=hx _ u hu;rwa [show o+(4+p)=o+4+p from by omega] at this
def hH(w:World)(B:Nat)(T:TypeId)(size:Nat)(v:Value):Prop:=∃n xs,w.ownsRow B T size v n xs
theorem hH.keep{w w':World}{B B':Nat}{T:TypeId}{size:Nat}{v:Value}(h:hH w B T size v)(hB:B'<=B)(hk:∀g,v.ownBlock=some g->w'.heap[g]? =w.heap[g]?):hH w' B' T size v:=by obtain⟨n,xs,h1,h2⟩:=h;refine⟨n,xs,h1,h2.imp id ?_⟩;rintro⟨g,cap,cur,hv,hg,hh,r⟩;exact⟨g,cap,cur,hv,aJ hB hg,(hk g (by rw[hv];rfl)).trans hh,r⟩
theorem hH.lt{w:World}{B:Nat}{T:TypeId}{size:Nat}{v:Value}(h:hH w B T size v){g:Nat}(hg:v.ownBlock=some g):B<=g/\g<w.heap.size:=by obtain⟨n,xs,h⟩:=h;exact h.lt g hg
theorem hH.block{w:World}{B:Nat}{T:TypeId}{size:Nat}{v:Value}(h:hH w B T size v){g:Nat}(hg:v.ownBlock=some g):∃cur,w.heap[g]? =some (.cells cur T (0,0)):=by
 obtain⟨n,xs,h⟩:=h;rcases h.2 with ⟨rfl,_⟩|⟨g',cap,cur,rfl,_,hh,_⟩
 .simp[Value.ownBlock] at hg
 .simp[Value.ownBlock] at hg;subst hg;exact⟨cur,hh⟩
theorem oF{w:World}{base:Nat}{e:TypeId}{size g n cap:Nat}{xs:List Value}(h:w.ownsRow base e size (.slice (some ⟨g,0,none⟩) n cap) n xs)(j:Nat)(u:Value):(w.setCell ⟨g,j,none⟩ u).ownsRow base e size (.slice (some ⟨g,0,none⟩) n cap) n (xs.set j u):=by
 obtain⟨h1,h2⟩:=h;refine⟨by simpa using h1,h2.imp id ?_⟩;rintro⟨g',cap',cur,hv,hg,hh,hc,hm,hs,ht⟩;injection hv with e1 e2 e3;injection e1 with e1;injection e1 with e1;subst e1 e3;refine⟨g,cap,cur.setIfInBounds j u,rfl,hg,?_,hc,hm,by simpa using hs,?_⟩
 .simp[World.setCell,Array.getElem?_modify,hh]
 .rw[<-ht];simp[List.take_set]
theorem Qb{w:World}{base:Nat}{e:TypeId}{size:Nat}{A:Option Addr}{n m cap:Nat}{xs:List Value}(h:w.ownsRow base e size (.slice A n cap) m xs):m=n:=by
 rcases h.2 with ⟨hv,h0⟩|⟨g',cap',cur,hv,_⟩
 .injection hv with e1 e2 e3;omega
 .injection hv with e1 e2 e3;exact e2.symm
theorem hH.put{w:World}{B:Nat}{T:TypeId}{size g n cap:Nat}(h:hH w B T size (.slice (some ⟨g,0,none⟩) n cap))(j:Nat)(u:Value):hH (w.setCell ⟨g,j,none⟩ u) B T size (.slice (some ⟨g,0,none⟩) n cap):=by obtain⟨m,xs,h⟩:=h;have:=Qb h;subst this;exact⟨_,_,oF h j u⟩
structure cZ (w:World) (B:Nat) (ks:List ag) (A:Option Addr) (n c:Nat) (R:List Value):Prop where
 rows:dr w ks A n c R
 own:∀v∈R,hH w B 25 4 v
 nd:(aW R).Nodup
theorem cZ.lt{w:World}{B:Nat}{ks:List ag}{A:Option Addr}{n c:Nat}{R:List Value}(h:cZ w B ks A n c R){g:Nat}(hg:g∈aW R):B<=g/\g<w.heap.size:=by obtain⟨v,hv,e⟩:=eV hg;exact(h.own v hv).lt e
theorem cZ.keep{w w':World}{B B':Nat}{ks:List ag}{A:Option Addr}{n c:Nat}{R:List Value}(h:cZ w B ks A n c R)(hB:B'<=B)(hk:∀q,B<=q->q<w.heap.size->w'.heap[q]? =w.heap[q]?):cZ w' B' ks A n c R:=
 ⟨h.rows.keep fun g hg=>hk g (h.lt hg).1 (h.lt hg).2,fun v hv=>(h.own v hv).keep hB fun g hg=>hk g ((h.own v hv).lt hg).1 ((h.own v hv).lt hg).2,h.nd⟩
theorem cZ.mk'{w:World}{B:Nat}{ks:List ag}{g n c:Nat}{R:List Value}(hr:cR w ks g 0 R)(hg:hH w B 25 4 (.slice (some ⟨g,0,none⟩) n c))(ho:∀v∈R,hH w B 25 4 v)(hn:(aW R).Nodup)(hne:g∉aW R):cZ w B ks (some ⟨g,0,none⟩) n c (.slice (some ⟨g,0,none⟩) n c::R):=by
 refine⟨⟨R,rfl,.inr ⟨g,rfl,hr⟩⟩,?_,?_⟩
 .intro v hv;rcases List.mem_cons.1 hv with rfl|hv
  .exact hg
  .exact ho v hv
 .show(aW (_::R)).Nodup;simp only[aW,List.filterMap_cons,Value.ownBlock];exact List.nodup_cons.2 ⟨hne,hn⟩
theorem cZ.nil{w:World}{B:Nat}{A:Option Addr}{n c:Nat}(hg:hH w B 25 4 (.slice A n c)):cZ w B [] A n c [.slice A n c]:=by
 refine⟨⟨[],rfl,.inl ⟨rfl,rfl⟩⟩,?_,?_⟩
 .intro v hv;rcases List.mem_cons.1 hv with rfl|hv
  .exact hg
  .cases hv
 .cases A with
  |none=>exact List.nodup_nil
  |some ad=>exact List.nodup_cons.2 ⟨by simp,List.nodup_nil⟩
theorem iq{R S:List Value}(h1:(aW R).Nodup)(h2:(aW S).Nodup){m:Nat}(hR:∀g∈aW R,g<m)(hS:∀g∈aW S,m<=g):(aW (R++S)).Nodup:=by rw[gg];refine List.nodup_append.2 ⟨h1,h2,fun a ha b hb e=>?_⟩;have:=hR a ha;have:=hS b hb;omega
def cX(w:World)(B:Nat):World:={ w with heap:=w.heap.mapIdx fun i o=>if i<B then Obj.cells #[] 0 else o }
theorem i8{w:World}{B:Nat}{a:Addr}{v:Value}:(cX w B).cell? a=some v↔B<=a.block/\w.cell? a=some v:=by
 unfold World.cell? cX;simp only[Array.getElem?_mapIdx];cases h:w.heap[a.block]? with
 |none=>simp
 |some o=>
  by_cases hb:a.block<B
  .simp only[Option.map_some,hb,if_true];constructor
   .intro e;split at e<;>simp at e
   .rintro⟨h1,_⟩;omega
  .simp only[Option.map_some,hb,if_false];constructor
   .intro e;exact⟨by omega,e⟩
   .rintro⟨_,e⟩;exact e
def bJ(w:World)(B:Nat)(ks:List ag)(A:Option Addr)(n c:Nat):Prop:=ce (cX w B) ks A n c/\∃R,cZ w B ks A n c R
theorem bJ.kids{w:World}{B:Nat}{ks:List ag}{A:Option Addr}{n c:Nat}(h:bJ w B ks A n c):ce w ks A n c:=ce.keep (fun _ _ h=>(i8.1 h).2) h.1
theorem kR{w w':World}{B B':Nat}{ks:List ag}{A:Option Addr}{n c:Nat}(h:ce (cX w B) ks A n c)(hB:B'<=B)(hk:∀a v,B<=a.block->w.cell? a=some v->w'.cell? a=some v):ce (cX w' B') ks A n c:=
 ce.keep (fun _ _ h=>by obtain⟨h1,h2⟩:=i8.1 h;exact i8.2 ⟨by omega,hk _ _ h1 h2⟩) h
theorem bJ.keep{w w':World}{B B':Nat}{ks:List ag}{A:Option Addr}{n c:Nat}(h:bJ w B ks A n c)(hB:B'<=B)(hk:∀q,B<=q->q<w.heap.size->w'.heap[q]? =w.heap[q]?):bJ w' B' ks A n c:=by obtain⟨h1,R,h2⟩:=h;exact⟨kR h1 hB fun a v ha hc=>by rw[World.cell?_of_block (hk _ ha (bK hc))];exact hc,R,h2.keep hB hk⟩
theorem cJ.of{w:World}{t:ag}{b o:Nat}{A:Option Addr}{c:Nat}(h0:w.cell? ⟨b,o,none⟩=some (.int .u8 t.kind))(h1:w.cell? ⟨b,o+1,none⟩=some (.string (sb t.text)))(h2:w.cell? ⟨b,o+2,none⟩=some (.int .i64 t.num))(h3:w.cell? ⟨b,o+3,none⟩=some (.slice A t.kids.length c))(hk:ce w t.kids A t.kids.length c)(b1:t.kind<=255)(b2:t.text.length<=maxLen)(b3:tw t.num):cJ w t b o:=by obtain⟨k,s,x,ks⟩:=t;obtain⟨_,k2,k3,k4⟩:=hk;exact⟨h0,h1,h2,b1,b2,b3,A,c,h3,k2,k3,k4⟩
theorem cJ.parts{w:World}{t:ag}{b o:Nat}(h:cJ w t b o):∃A c,w.cell? ⟨b,o,none⟩=some (.int .u8 t.kind)/\w.cell? ⟨b,o+1,none⟩=some (.string (sb t.text))/\w.cell? ⟨b,o+2,none⟩=some (.int .i64 t.num)/\w.cell? ⟨b,o+3,none⟩=some (.slice A t.kids.length c)/\ce w t.kids A t.kids.length c/\t.kind<=255/\t.text.length<=maxLen/\tw t.num:=by obtain⟨k,s,x,ks⟩:=t;obtain⟨h0,h1,h2,b1,b2,b3,A,c,h3,k2,k3,k4⟩:=h;exact⟨A,c,h0,h1,h2,h3,⟨rfl,k2,k3,k4⟩,b1,b2,b3⟩
def cellsOf(w:World)(b o m:Nat):List Value:=(List.range m).map fun i=>(w.cell? ⟨b,o+i,none⟩).getD undef
theorem nX(w:World)(b o m:Nat):(cellsOf w b o m).length=m:=by simp[cellsOf]
theorem F1{w:World}{ks:List ag}{b o:Nat}(h:bk w ks b o){j:Nat}(hj:j<ks.length*4):∃v,w.cell? ⟨b,o+j,none⟩=some v/\v.oneCell'=true:=by
 have hi:j / 4<ks.length:=(by omega);obtain⟨A,c,h0,h1,h2,h3,_⟩:=(h.get (br hi)).parts;have hj4:j=j / 4*4+j % 4:=(by omega);have hr:j % 4=0∨j % 4=1∨j % 4=2∨j % 4=3:=(by omega);rcases hr with e|e|e|e<;>rw[e] at hj4<;>rw[hj4]
 .exact⟨_,h0,rfl⟩
 .exact⟨_,h1,rfl⟩
 .exact⟨_,h2,rfl⟩
 .exact⟨_,h3,rfl⟩
theorem nW{w:World}{ks:List ag}{b o:Nat}(h:bk w ks b o){j:Nat}{u:Value}(hu:(cellsOf w b o (ks.length*4))[j]? =some u):w.cell? ⟨b,o+j,none⟩=some u:=by have hj:j<ks.length*4:=(by have:=(gl.1 hu).1;simpa[cellsOf] using this);obtain⟨v,hv,_⟩:=F1 h hj;simp[cellsOf,hj,hv] at hu;rw[hv,hu]
theorem pS{w:World}{ks:List ag}{b o:Nat}(h:bk w ks b o):∀u∈cellsOf w b o (ks.length*4),u.oneCell'=true:=by intro u hu;obtain⟨j,hj,e⟩:=List.mem_iff_getElem.1 hu;have hj':j<ks.length*4:=(by simpa[cellsOf] using hj);obtain⟨v,hv,h1⟩:=F1 h hj';have:(cellsOf w b o (ks.length*4))[j]? =some u:=(by rw[br hj,e]);have h2:=nW h this;rw[hv] at h2;injection h2 with h2;rw[<-h2];exact h1
end Go.Proofs.YtfipahjodfminaaGreatDoor
