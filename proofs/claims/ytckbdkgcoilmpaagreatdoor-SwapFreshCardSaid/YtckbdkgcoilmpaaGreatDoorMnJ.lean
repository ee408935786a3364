/- Part 10 of the proof. -/
import Derived.ArgAppend
import Derived.Test.YtckbdkgcoilmpaaGreatDoorMnI
namespace Go.Proofs.YtckbdkgcoilmpaaGreatDoor
open Go.RowKit
set_option linter.all false
set_option maxHeartbeats 40000000
set_option maxRecDepth 100000
def dy(k:Nat):Int:=if k=2 then 1 else -1
theorem iS(k:Nat)(x1 x2 x3 x4 x5 x6 x7:Value)(w:World):Calls Tryz.prog 76 #[.agg #[.int .u8 k,x1,x2,x3,x4,x5,x6,x7]] w fun e w'=>e= .returned (.int .i64 (dy k))/\Below w.heap.size w w':=by
 have hb0:Below w.heap.size w (w.alloc (.cells #[.int .u8 k,x1,x2,x3,x4,x5,x6,x7] 29)):=(ai _ _).alloc (ah _) _;have HB0:=aa hb0;have c0:=(aw (heap_alloc_new w (.cells #[.int .u8 k,x1,x2,x3,x4,x5,x6,x7] 29))).cs.1;clear hb0;by_cases h2:k=2
 .subst h2
  go_in
  go_wp2_with fail;go_ret;exact⟨rfl,HB0.out⟩
 .have q2:((k:Int) == 2)=false:=(by simp;omega);have HV:Hid (dy k= -1):=(by show _=_;simp[dy,h2]);clear h2
  go_in
  go_wp2_with fail;go_ret;exact⟨by rw[HV.out];rfl,HB0.out⟩
theorem DR(args:Array Value)(w:World):(callFunc 76 args).run Tryz.prog w= .ok (.enter 76 args) w:=eH Tryz.func76 (by kernel_rfl) (by kernel_rfl) args w
def nR(r:Option (Int×Int)):Value:=match r with|some (j,i)=>.tuple #[.int .i64 j,.int .i64 i,.bool true]|none=>.tuple #[.int .i64 0,.int .i64 0,.bool false]
def jO(r:Option (Int×Int))(w:World)(e:Ending)(w':World):Prop:=e= .returned (nR r)/\Below w.heap.size w w'
theorem xH(e e':aj)(k k':Nat)(x1 x2 x3 x4 x5 x6 x7 y1 y2 y3 y4 y5 y6 y7:Value)(w:World)(hk:e.kind=k)(hk':e'.kind=k')(h5:k=5∨k'=5):Calls Tryz.prog 36 #[.agg #[.int .u8 k,x1,x2,x3,x4,x5,x6,x7],.agg #[.int .u8 k',y1,y2,y3,y4,y5,y6,y7]] w (jO (bY e e') w):=by
 have HV:Hid (bY e e'=none):=(by show _=_;unfold bY;rw[if_pos (by rw[hk,hk'];exact h5)]);have hb2:Below w.heap.size w ((w.alloc (.cells #[.int .u8 k,x1,x2,x3,x4,x5,x6,x7] 29)).alloc (.cells #[.int .u8 k',y1,y2,y3,y4,y5,y6,y7] 29)):=((ai _ w).alloc (ah _) _).alloc (by simp) _;have HB2:=aa hb2;clear hb2 hk hk';by_cases h:k=5
 .subst h;clear h5
  go_in
  go_wp2_with fail
  go_ret3
  exact⟨by rw[HV.out];rfl,HB2.out⟩
 .have q5:((k:Int) == 5)=false:=(by simp;omega);have h':k'=5:=(by omega);subst h';clear h5 h
  go_in
  go_wp2_with fail
  go_ret3
  exact⟨by rw[HV.out];rfl,HB2.out⟩
theorem l8{e e':aj}(h5:¬(e.kind=5∨e'.kind=5))(h1:(if e'.kind=3 then e.at_ - 1 else e.at_)<=e'.at_)(h2:e'.at_<=(if e.kind=2 then e.at_+1 else e.at_)):bY e e'=none:=by unfold bY;rw[if_neg h5];simp only;rw[if_pos ⟨h1,h2⟩]
theorem l7{e e':aj}(h5:¬(e.kind=5∨e'.kind=5))(h1:¬(if e'.kind=3 then e.at_ - 1 else e.at_)<=e'.at_):bY e e'=some (e'.at_,e.at_+dy e'.kind):=by unfold bY;rw[if_neg h5];simp only;rw[if_neg (fun h=>h1 h.1),if_pos (by split at h1<;>omega)];rfl
theorem l6{e e':aj}(h5:¬(e.kind=5∨e'.kind=5))(h1:(if e'.kind=3 then e.at_ - 1 else e.at_)<=e'.at_)(h2:¬e'.at_<=(if e.kind=2 then e.at_+1 else e.at_)):bY e e'=some (e'.at_ - dy e.kind,e.at_):=by unfold bY;rw[if_neg h5];simp only;rw[if_neg (fun h=>h2 h.2),if_neg (by split at h2<;>omega)];rfl
theorem jl(k:Nat): -1<=dy k/\dy k<=1:=by unfold dy;split<;>omega
theorem xL(e e':aj)(k k':Nat)(i i':Int)(x1 x3 x4 x5 x6 x7 y1 y3 y4 y5 y6 y7:Value)(w:World)(hk:e.kind=k)(hk':e'.kind=k')(hi:e.at_=i)(hi':e'.at_=i')(h5:¬(k=5∨k'=5))(n1:aH i=true)(n2:aH i'=true)(g3:k'=3)(g2:k=2):Calls Tryz.prog 36 #[.agg #[.int .u8 k,x1,.int .i64 i,x3,x4,x5,x6,x7],.agg #[.int .u8 k',y1,.int .i64 i',y3,y4,y5,y6,y7]] w (jO (bY e e') w):=by
 have hb2:Below w.heap.size w ((w.alloc (.cells #[.int .u8 k,x1,.int .i64 i,x3,x4,x5,x6,x7] 29)).alloc (.cells #[.int .u8 k',y1,.int .i64 i',y3,y4,y5,y6,y7] 29)):=((ai _ w).alloc (ah _) _).alloc (by simp) _;have HB2:=aa hb2;obtain⟨m1,m2⟩:0<=i/\i<=1073741824:=(by simpa[aH] using n1);obtain⟨m3,m4⟩:0<=i'/\i'<=1073741824:=(by simpa[aH] using n2);have q5:((k:Int) == 5)=false:=(by simp;omega);have q5':((k':Int) == 5)=false:=(by simp;omega);have q3:((k':Int) == 3)=true:=(by simp;omega);have q2:((k:Int) == 2)=true:=(by simp;omega);have hcf:=DR;have HK:Hid (e.kind=k/\e'.kind=k'/\e.at_=i/\e'.at_=i'/\¬(e.kind=5∨e'.kind=5)):=⟨hk,hk',hi,hi',by rw[hk,hk'];exact h5⟩;have EL:Hid ((if e'.kind=3 then e.at_ - 1 else e.at_)=i - 1):=(by show _=_;rw[hk',hi];exact if_pos g3);have EH:Hid ((if e.kind=2 then e.at_+1 else e.at_)=i+1):=(by show _=_;rw[hk,hi];exact if_pos g2);obtain⟨u1,u2⟩:=jl k;obtain⟨u3,u4⟩:=jl k';clear n1 n2 hb2 hk hk' hi hi' h5 g2 g3;by_cases hA:i - 1<=i'
 .by_cases hB:i'<=i+1
  .have HV:Hid (bY e e'=none):=l8 HK.out.2.2.2.2 (by rw[EL.out,HK.out.2.2.2.1];exact hA) (by rw[EH.out,HK.out.2.2.2.1];exact hB);clear u1 u2 u3 u4
   go_in
   go_wp2_with fail
   go_quiet (fail)
   go_wp2_with fail
   go_ret3
   exact⟨by rw[HV.out];rfl,bS HB2.out _⟩
  .have HV:Hid (bY e e'=some (i' - dy k,i)):=by have h:=l6 HK.out.2.2.2.2 (by rw[EL.out,HK.out.2.2.2.1];exact hA) (by rw[EH.out,HK.out.2.2.2.1];exact hB);rw[HK.out.1,HK.out.2.2.1,HK.out.2.2.2.1] at h;exact h
   have hC:¬i'<i:=(by omega);clear u3 u4
   go_in
   go_wp2_with fail
   go_quiet (fail)
   go_wp2_with fail;refine(iS k _ _ _ _ _ _ _ _).mono ?_;rintro en w1 ⟨rfl,hb1⟩;have HB1:=aa (af (bS HB2.out _) hb1);clear hb1;generalize dy k=u at u1 u2 HV ⊢;go_wp2_with fail
   go_ret3
   exact⟨by rw[HV.out];rfl,HB1.out⟩
 .have HV:Hid (bY e e'=some (i',i+dy k')):=by have h:=l7 HK.out.2.2.2.2 (by rw[EL.out,HK.out.2.2.2.1];exact hA);rw[HK.out.2.1,HK.out.2.2.1,HK.out.2.2.2.1] at h;exact h
  have hC:i'<i:=(by omega);clear u1 u2
  go_in
  go_wp2_with fail
  go_quiet (fail)
  go_wp2_with fail;refine(iS k' _ _ _ _ _ _ _ _).mono ?_;rintro en w1 ⟨rfl,hb1⟩;have HB1:=aa (af (bS HB2.out _) hb1);clear hb1;generalize dy k'=u at u3 u4 HV ⊢;go_wp2_with fail
  go_ret3
  exact⟨by rw[HV.out];rfl,HB1.out⟩
theorem xK(e e':aj)(k k':Nat)(i i':Int)(x1 x3 x4 x5 x6 x7 y1 y3 y4 y5 y6 y7:Value)(w:World)(hk:e.kind=k)(hk':e'.kind=k')(hi:e.at_=i)(hi':e'.at_=i')(h5:¬(k=5∨k'=5))(n1:aH i=true)(n2:aH i'=true)(g3:k'=3)(g2:k≠2):Calls Tryz.prog 36 #[.agg #[.int .u8 k,x1,.int .i64 i,x3,x4,x5,x6,x7],.agg #[.int .u8 k',y1,.int .i64 i',y3,y4,y5,y6,y7]] w (jO (bY e e') w):=by
 have hb2:Below w.heap.size w ((w.alloc (.cells #[.int .u8 k,x1,.int .i64 i,x3,x4,x5,x6,x7] 29)).alloc (.cells #[.int .u8 k',y1,.int .i64 i',y3,y4,y5,y6,y7] 29)):=((ai _ w).alloc (ah _) _).alloc (by simp) _;have HB2:=aa hb2;obtain⟨m1,m2⟩:0<=i/\i<=1073741824:=(by simpa[aH] using n1);obtain⟨m3,m4⟩:0<=i'/\i'<=1073741824:=(by simpa[aH] using n2);have q5:((k:Int) == 5)=false:=(by simp;omega);have q5':((k':Int) == 5)=false:=(by simp;omega);have q3:((k':Int) == 3)=true:=(by simp;omega);have q2:((k:Int) == 2)=false:=(by simp;omega);have hcf:=DR;have HK:Hid (e.kind=k/\e'.kind=k'/\e.at_=i/\e'.at_=i'/\¬(e.kind=5∨e'.kind=5)):=⟨hk,hk',hi,hi',by rw[hk,hk'];exact h5⟩;have EL:Hid ((if e'.kind=3 then e.at_ - 1 else e.at_)=i - 1):=(by show _=_;rw[hk',hi];exact if_pos g3);have EH:Hid ((if e.kind=2 then e.at_+1 else e.at_)=i):=(by show _=_;rw[hk,hi];exact if_neg g2);obtain⟨u1,u2⟩:=jl k;obtain⟨u3,u4⟩:=jl k';clear n1 n2 hb2 hk hk' hi hi' h5 g2 g3;by_cases hA:i - 1<=i'
 .by_cases hB:i'<=i
  .have HV:Hid (bY e e'=none):=l8 HK.out.2.2.2.2 (by rw[EL.out,HK.out.2.2.2.1];exact hA) (by rw[EH.out,HK.out.2.2.2.1];exact hB);clear u1 u2 u3 u4
   go_in
   go_wp2_with fail
   go_quiet (fail)
   go_wp2_with fail
   go_ret3
   exact⟨by rw[HV.out];rfl,bS HB2.out _⟩
  .have HV:Hid (bY e e'=some (i' - dy k,i)):=by have h:=l6 HK.out.2.2.2.2 (by rw[EL.out,HK.out.2.2.2.1];exact hA) (by rw[EH.out,HK.out.2.2.2.1];exact hB);rw[HK.out.1,HK.out.2.2.1,HK.out.2.2.2.1] at h;exact h
   have hC:¬i'<i:=(by omega);clear u3 u4
   go_in
   go_wp2_with fail
   go_quiet (fail)
   go_wp2_with fail;refine(iS k _ _ _ _ _ _ _ _).mono ?_;rintro en w1 ⟨rfl,hb1⟩;have HB1:=aa (af (bS HB2.out _) hb1);clear hb1;generalize dy k=u at u1 u2 HV ⊢;go_wp2_with fail
   go_ret3
   exact⟨by rw[HV.out];rfl,HB1.out⟩
 .have HV:Hid (bY e e'=some (i',i+dy k')):=by have h:=l7 HK.out.2.2.2.2 (by rw[EL.out,HK.out.2.2.2.1];exact hA);rw[HK.out.2.1,HK.out.2.2.1,HK.out.2.2.2.1] at h;exact h
  have hC:i'<i:=(by omega);clear u1 u2
  go_in
  go_wp2_with fail
  go_quiet (fail)
  go_wp2_with fail;refine(iS k' _ _ _ _ _ _ _ _).mono ?_;rintro en w1 ⟨rfl,hb1⟩;have HB1:=aa (af (bS HB2.out _) hb1);clear hb1;generalize dy k'=u at u3 u4 HV ⊢;go_wp2_with fail
  go_ret3
  exact⟨by rw[HV.out];rfl,HB1.out⟩
theorem xJ(e e':aj)(k k':Nat)(i i':Int)(x1 x3 x4 x5 x6 x7 y1 y3 y4 y5 y6 y7:Value)(w:World)(hk:e.kind=k)(hk':e'.kind=k')(hi:e.at_=i)(hi':e'.at_=i')(h5:¬(k=5∨k'=5))(n1:aH i=true)(n2:aH i'=true)(g3:k'≠3)(g2:k=2):Calls Tryz.prog 36 #[.agg #[.int .u8 k,x1,.int .i64 i,x3,x4,x5,x6,x7],.agg #[.int .u8 k',y1,.int .i64 i',y3,y4,y5,y6,y7]] w (jO (bY e e') w):=by
 have hb2:Below w.heap.size w ((w.alloc (.cells #[.int .u8 k,x1,.int .i64 i,x3,x4,x5,x6,x7] 29)).alloc (.cells #[.int .u8 k',y1,.int .i64 i',y3,y4,y5,y6,y7] 29)):=((ai _ w).alloc (ah _) _).alloc (by simp) _;have HB2:=aa hb2;obtain⟨m1,m2⟩:0<=i/\i<=1073741824:=(by simpa[aH] using n1);obtain⟨m3,m4⟩:0<=i'/\i'<=1073741824:=(by simpa[aH] using n2);have q5:((k:Int) == 5)=false:=(by simp;omega);have q5':((k':Int) == 5)=false:=(by simp;omega);have q3:((k':Int) == 3)=false:=(by simp;omega);have q2:((k:Int) == 2)=true:=(by simp;omega);have hcf:=DR;have HK:Hid (e.kind=k/\e'.kind=k'/\e.at_=i/\e'.at_=i'/\¬(e.kind=5∨e'.kind=5)):=⟨hk,hk',hi,hi',by rw[hk,hk'];exact h5⟩;have EL:Hid ((if e'.kind=3 then e.at_ - 1 else e.at_)=i):=(by show _=_;rw[hk',hi];exact if_neg g3);have EH:Hid ((if e.kind=2 then e.at_+1 else e.at_)=i+1):=(by show _=_;rw[hk,hi];exact if_pos g2);obtain⟨u1,u2⟩:=jl k;obtain⟨u3,u4⟩:=jl k';clear n1 n2 hb2 hk hk' hi hi' h5 g2 g3;by_cases hA:i<=i'
 .by_cases hB:i'<=i+1
  .have HV:Hid (bY e e'=none):=l8 HK.out.2.2.2.2 (by rw[EL.out,HK.out.2.2.2.1];exact hA) (by rw[EH.out,HK.out.2.2.2.1];exact hB);clear u1 u2 u3 u4
   go_in
   go_wp2_with fail
   go_quiet (fail)
   go_wp2_with fail
   go_ret3
   exact⟨by rw[HV.out];rfl,bS HB2.out _⟩
  .have HV:Hid (bY e e'=some (i' - dy k,i)):=by have h:=l6 HK.out.2.2.2.2 (by rw[EL.out,HK.out.2.2.2.1];exact hA) (by rw[EH.out,HK.out.2.2.2.1];exact hB);rw[HK.out.1,HK.out.2.2.1,HK.out.2.2.2.1] at h;exact h
   have hC:¬i'<i:=(by omega);clear u3 u4
   go_in
   go_wp2_with fail
   go_quiet (fail)
   go_wp2_with fail;refine(iS k _ _ _ _ _ _ _ _).mono ?_;rintro en w1 ⟨rfl,hb1⟩;have HB1:=aa (af (bS HB2.out _) hb1);clear hb1;generalize dy k=u at u1 u2 HV ⊢;go_wp2_with fail
   go_ret3
   exact⟨by rw[HV.out];rfl,HB1.out⟩
 .have HV:Hid (bY e e'=some (i',i+dy k')):=by have h:=l7 HK.out.2.2.2.2 (by rw[EL.out,HK.out.2.2.2.1];exact hA);rw[HK.out.2.1,HK.out.2.2.1,HK.out.2.2.2.1] at h;exact h
  have hC:i'<i:=(by omega);clear u1 u2
  go_in
  go_wp2_with fail
  go_quiet (fail)
  go_wp2_with fail;refine(iS k' _ _ _ _ _ _ _ _).mono ?_;rintro en w1 ⟨rfl,hb1⟩;have HB1:=aa (af (bS HB2.out _) hb1);clear hb1;generalize dy k'=u at u3 u4 HV ⊢;go_wp2_with fail
  go_ret3
  exact⟨by rw[HV.out];rfl,HB1.out⟩
theorem xI(e e':aj)(k k':Nat)(i i':Int)(x1 x3 x4 x5 x6 x7 y1 y3 y4 y5 y6 y7:Value)(w:World)(hk:e.kind=k)(hk':e'.kind=k')(hi:e.at_=i)(hi':e'.at_=i')(h5:¬(k=5∨k'=5))(n1:aH i=true)(n2:aH i'=true)(g3:k'≠3)(g2:k≠2):Calls Tryz.prog 36 #[.agg #[.int .u8 k,x1,.int .i64 i,x3,x4,x5,x6,x7],.agg #[.int .u8 k',y1,.int .i64 i',y3,y4,y5,y6,y7]] w (jO (bY e e') w):=by
 have hb2:Below w.heap.size w ((w.alloc (.cells #[.int .u8 k,x1,.int .i64 i,x3,x4,x5,x6,x7] 29)).alloc (.cells #[.int .u8 k',y1,.int .i64 i',y3,y4,y5,y6,y7] 29)):=((ai _ w).alloc (ah _) _).alloc (by simp) _;have HB2:=aa hb2;obtain⟨m1,m2⟩:0<=i/\i<=1073741824:=(by simpa[aH] using n1);obtain⟨m3,m4⟩:0<=i'/\i'<=1073741824:=(by simpa[aH] using n2);have q5:((k:Int) == 5)=false:=(by simp;omega);have q5':((k':Int) == 5)=false:=(by simp;omega);have q3:((k':Int) == 3)=false:=(by simp;omega);have q2:((k:Int) == 2)=false:=(by simp;omega);have hcf:=DR;have HK:Hid (e.kind=k/\e'.kind=k'/\e.at_=i/\e'.at_=i'/\¬(e.kind=5∨e'.kind=5)):=⟨hk,hk',hi,hi',by rw[hk,hk'];exact h5⟩;have EL:Hid ((if e'.kind=3 then e.at_ - 1 else e.at_)=i):=(by show _=_;rw[hk',hi];exact if_neg g3);have EH:Hid ((if e.kind=2 then e.at_+1 else e.at_)=i):=(by show _=_;rw[hk,hi];exact if_neg g2);obtain⟨u1,u2⟩:=jl k;obtain⟨u3,u4⟩:=jl k';clear n1 n2 hb2 hk hk' hi hi' h5 g2 g3;by_cases hA:i<=i'
 .by_cases hB:i'<=i
  .have HV:Hid (bY e e'=none):=l8 HK.out.2.2.2.2 (by rw[EL.out,HK.out.2.2.2.1];exact hA) (by rw[EH.out,HK.out.2.2.2.1];exact hB);clear u1 u2 u3 u4
   go_in
   go_wp2_with fail
   go_quiet (fail)
   go_wp2_with fail
   go_ret3
   exact⟨by rw[HV.out];rfl,bS HB2.out _⟩
  .have HV:Hid (bY e e'=some (i' - dy k,i)):=by have h:=l6 HK.out.2.2.2.2 (by rw[EL.out,HK.out.2.2.2.1];exact hA) (by rw[EH.out,HK.out.2.2.2.1];exact hB);rw[HK.out.1,HK.out.2.2.1,HK.out.2.2.2.1] at h;exact h
   have hC:¬i'<i:=(by omega);clear u3 u4
   go_in
   go_wp2_with fail
   go_quiet (fail)
   go_wp2_with fail;refine(iS k _ _ _ _ _ _ _ _).mono ?_;rintro en w1 ⟨rfl,hb1⟩;have HB1:=aa (af (bS HB2.out _) hb1);clear hb1;generalize dy k=u at u1 u2 HV ⊢;go_wp2_with fail
   go_ret3
   exact⟨by rw[HV.out];rfl,HB1.out⟩
 .have HV:Hid (bY e e'=some (i',i+dy k')):=by have h:=l7 HK.out.2.2.2.2 (by rw[EL.out,HK.out.2.2.2.1];exact hA);rw[HK.out.2.1,HK.out.2.2.1,HK.out.2.2.2.1] at h;exact h
  have hC:i'<i:=(by omega);clear u1 u2
  go_in
  go_wp2_with fail
  go_quiet (fail)
  go_wp2_with fail;refine(iS k' _ _ _ _ _ _ _ _).mono ?_;rintro en w1 ⟨rfl,hb1⟩;have HB1:=aa (af (bS HB2.out _) hb1);clear hb1;generalize dy k'=u at u3 u4 HV ⊢;go_wp2_with fail
  go_ret3
  exact⟨by rw[HV.out];rfl,HB1.out⟩
theorem xG(e e':aj)(k k':Nat)(i i':Int)(x1 x3 x4 x5 x6 x7 y1 y3 y4 y5 y6 y7:Value)(w:World)(hk:e.kind=k)(hk':e'.kind=k')(hi:e.at_=i)(hi':e'.at_=i')(n1:aH i=true)(n2:aH i'=true):Calls Tryz.prog 36 #[.agg #[.int .u8 k,x1,.int .i64 i,x3,x4,x5,x6,x7],.agg #[.int .u8 k',y1,.int .i64 i',y3,y4,y5,y6,y7]] w (jO (bY e e') w):=by
 by_cases h5:k=5∨k'=5
 .exact xH e e' k k' _ _ _ _ _ _ _ _ _ _ _ _ _ _ w hk hk' h5
 .by_cases g3:k'=3<;>by_cases g2:k=2
  .exact xL e e' k k' i i' _ _ _ _ _ _ _ _ _ _ _ _ w hk hk' hi hi' h5 n1 n2 g3 g2
  .exact xK e e' k k' i i' _ _ _ _ _ _ _ _ _ _ _ _ w hk hk' hi hi' h5 n1 n2 g3 g2
  .exact xJ e e' k k' i i' _ _ _ _ _ _ _ _ _ _ _ _ w hk hk' hi hi' h5 n1 n2 g3 g2
  .exact xI e e' k k' i i' _ _ _ _ _ _ _ _ _ _ _ _ w hk hk' hi hi' h5 n1 n2 g3 g2
def kA(i j z:Int):Int:=if z=i then j else dl j (cF i z)
theorem xc(p l:List Int)(i j:Int):eT p l i j=CB p l (kA i j):=rfl
theorem yG(z i j:Int)(b1 b2:Nat)(w:World)(hc1:w.cell? ⟨b1,0,none⟩=some (.int .i64 i))(hc2:w.cell? ⟨b2,0,none⟩=some (.int .i64 j))(h1:0<=z)(h2:z<=2147483647):Calls Tryz.prog 126 #[.int .i64 z,.pointer (some ⟨b1,0,none⟩),.pointer (some ⟨b2,0,none⟩)] w (lg (kA i j z) w):=by
 by_cases h:z=i
 .subst h;have HU:Hid (kA z j z=j):=if_pos rfl
  go_in
  go_wp2;go_ret;exact lg.intro HU.out (ai _ _)
 .have HU:Hid (kA i j z=dl j (cF i z)):=if_neg h;have hlt1:=bK hc1;have hlt2:=bK hc2;have hd1: -1<=cF i z:=by unfold cF;split<;>omega
  have hd2:cF i z<=2147483648:=by unfold cF;split<;>omega
  simp only at hlt1 hlt2
  go_in
  go_wp2
  go_region_with (first|(go_at_call 124;refine(rr _ _).mono ?_;rintro e w' ⟨rfl,rfl⟩)|(go_at_call 125;refine(mD _ _).mono ?_;rintro e w' ⟨rfl,rfl⟩)|(go_at_call 148;refine(FE z i _ _ (by go_simp) h1 (by omega)).mono ?_;rintro e w' ⟨rfl,rfl⟩)|(go_at_call 147;refine(FK (cF i z) j _ _ (by go_simp) hd1 hd2).mono ?_;rintro e w' ⟨rfl,rfl⟩))
  all_goals
   go_wp2;go_ret;exact lg.intro HU.out (((ai _ _).alloc (ah _) _).alloc (by simp) _).drew
def dE(zs:List Int):Prop:=∀z∈zs,0<=z/\z<=2147483647
theorem dE.at_{zs:List Int}(h:dE zs){i:Nat}{z:Int}(hz:zs[i]? =some z):0<=z/\z<=2147483647:=h z (List.mem_of_getElem? hz)
theorem pf(p l:List Int){n m:Nat}(h1:n=p.length)(h2:m=l.length)(h3:n<=17592186044416)(h4:m<=17592186044416):fX p l<=17592186044416:=by unfold fX;split<;>omega
theorem Ig(xs ys:List Int)(i:Int)(A B:Option Addr)(n c m d:Nat)(w:World)(hx:cc w xs A n c)(hy:cc w ys B m d)(hn:n<=17592186044416)(hm:m<=17592186044416)(hf:dE xs):Calls Tryz.prog 79 #[.slice A n c,.slice B m d,.int .i64 i] w (dL (fO xs ys i) w):=by
 have HX:=aa hx;have HY:=aa hy;have HF:=aa hf;have HT:=aa (pf xs ys hx.1 hy.1 hn hm);clear hx hy hf
 go_in
 go_wp2_with fail;refine(lC xs ys _ _ _ _ _ _ _ HX.out HY.out).mono ?_;rintro e w1 ⟨rfl,hb⟩;have HB:=aa hb;clear hb;go_wp2_with fail;refine(rr _ _).mono ?_;rintro e w' ⟨rfl,rfl⟩;have HB1:Hid (Below w.heap.size w (w1.alloc (.cells #[.int .i64 i] 3))):=HB.out.alloc HB.out.size _;go_wp2_with fail;refine(oJ xs A n c (fX xs ys) 147 #[.pointer (some ⟨w1.heap.size,0,none⟩)] (dl i) _ (HX.out.below HB1.out) hn HT.out uL ?_).mono ?_
 .intro z hz w2 hb2;have hz':=HF.out.at_ hz;refine(FK z i w1.heap.size w2 ?_ (by omega) (by omega)).mono ?_
  .rw[hb2.cell (by simp)];simp[World.cell?_alloc_new]
  .rintro e w3 ⟨rfl,rfl⟩;exact⟨rfl,ai _ _⟩
 .rintro e w3 ⟨A3,c3,rfl,ho,hb3⟩;have HO:=aa ho;have HB3:=aa hb3;clear ho hb3;go_wp2;go_ret;exact dL.intro (oL xs ys (dl i)) rfl (dk HO.out HB1.out.size) (HB1.out.trans (HB3.out.mono HB1.out.size))
def bL(o:Option (List Int))(w:World)(e:Ending)(w':World):Prop:=
 match o with
 |none=>∃A n c,e= .returned (.tuple #[.slice A n c,.bool false])/\Below w.heap.size w w'
 |some zs=>∃A c,e= .returned (.tuple #[.slice A zs.length c,.bool true])/\w'.ownsRow w.heap.size 3 1 (.slice A zs.length c) zs.length (zs.map (Value.int .i64))/\Below w.heap.size w w'
theorem bL.no{o:Option (List Int)}{w w':World}{A:Option Addr}{n c:Nat}(h:o=none)(hb:Below w.heap.size w w'):bL o w (.returned (.tuple #[.slice A n c,.bool false])) w':=by subst h;exact⟨A,n,c,rfl,hb⟩
theorem bL.yes{o:Option (List Int)}{zs:List Int}{w w':World}{A:Option Addr}{n c:Nat}(h:o=some zs)(hn:n=zs.length)(ho:w'.ownsRow w.heap.size 3 1 (.slice A n c) n (zs.map (Value.int .i64)))(hb:Below w.heap.size w w'):bL o w (.returned (.tuple #[.slice A n c,.bool true])) w':=by subst h hn;exact⟨A,c,rfl,ho,hb⟩
theorem vm{p l:List Int}{i z:Int}(hl:l.length<p.length)(hz:p[l.length]? =some z):fN p l i=(bu p l && z == i):=by have hz':p[l.length]=z:=(by rw[br hl] at hz;injection hz);simp[fN,hl,hz']
theorem rh(xs ys:List Int)(i:Int)(A B:Option Addr)(n c m d:Nat)(w:World)(hx:cc w xs A n c)(hy:cc w ys B m d)(hn:n<=17592186044416)(hm:m<=17592186044416)(hf:dE xs):Calls Tryz.prog 81 #[.slice A n c,.slice B m d,.int .i64 i] w (bL (dR xs ys i) w):=by
 have HX:=aa hx;have HY:=aa hy;have HF:=aa hf;have HT:=aa (pf xs ys hx.1 hy.1 hn hm);have HN:Hid (n=xs.length/\m=ys.length):=⟨hx.1,hy.1⟩;clear hx hy hf;have tail:∀(w0:World) (q:Nat),w0=w.drewN q->fN xs ys i=false->∀w1,Below w0.heap.size w0 w1->∀w2,w2=w1.alloc (.cells #[.int .i64 i] 3)->
  Calls Tryz.prog 123 #[.agg #[.slice A n c,.int .i64 (fX xs ys:Nat)],.func (.func 148) #[] #[.pointer (some ⟨w1.heap.size,0,none⟩)]] w2
   fun e w3=>∃A3 c3,e= .returned (.slice A3 (fo xs (fX xs ys) (cF i)).length c3)/\bL (dR xs ys i) w (.returned (.tuple #[.slice A3 (fo xs (fX xs ys) (cF i)).length c3,.bool true])) w3:=by
  rintro w0 q rfl hg w1 hb w2 rfl;have hb0:Below w.heap.size w w1:=(bS (ai _ _) q).trans hb;have hb1:Below w.heap.size w (w1.alloc (.cells #[.int .i64 i] 3)):=hb0.alloc hb0.size _;refine(oJ xs A n c (fX xs ys) 148 #[.pointer (some ⟨w1.heap.size,0,none⟩)] (cF i) _ (HX.out.below hb1) hn HT.out GM ?_).mono ?_
  .intro z hz w2 hb2;have hz':=HF.out.at_ hz;refine(FE z i w1.heap.size w2 ?_ (by omega) (by omega)).mono ?_
   .rw[hb2.cell (by simp)];simp[World.cell?_alloc_new]
   .rintro e w3 ⟨rfl,rfl⟩;exact⟨rfl,ai _ _⟩
  .rintro e w3 ⟨A3,c3,rfl,ho,hb3⟩;refine⟨A3,c3,rfl,bL.yes ?_ rfl (dk ho hb1.size) (hb1.trans (hb3.mono hb1.size))⟩;unfold dR;rw[hg,oL];rfl
 have HTL:=aa tail;clear tail;by_cases hl:m<n
 .obtain⟨b,o,z,rfl,hz,hc⟩:=HX.out.get hl;have HZ:=aa hz;have HG:Hid (fN xs ys i=(bu xs ys && z == i)):=by obtain⟨e1,e2⟩:=HN.out;exact vm (by omega) (by rw[<-e2];exact hz)
  clear hz;cases hu:bu xs ys with
  |true=>
   have HU:=aa hu;clear hu;by_cases hi:z=i
   .subst hi;have HD:Hid (dR xs ys z=none):=by show _=_;unfold dR;rw[HG.out,HU.out];simp
    go_in
    go_wp2_with fail;refine(jG xs ys _ _ _ _ _ _ _ HX.out HY.out).mono ?_;rintro e w1 ⟨rfl,q,rfl⟩;rw[HU.out];go_wp2_with fail
    go_ret2
    exact bL.no HD.out (bS (ai _ _) q)
   .have HGf:Hid (fN xs ys i=false):=by show _=_;rw[HG.out];simp[hi]
    go_in
    go_wp2_with fail;refine(jG xs ys _ _ _ _ _ _ _ HX.out HY.out).mono ?_;rintro e w1 ⟨rfl,q,rfl⟩;rw[HU.out];go_wp2_with fail;refine(lC xs ys _ _ _ _ _ _ _ (HX.out.drewN q) (HY.out.drewN q)).mono ?_;rintro e w1 ⟨rfl,hb⟩;have HB:=aa hb;clear hb;go_wp2_with fail;refine(mD _ _).mono ?_;rintro e w' ⟨rfl,rfl⟩;go_wp2_with fail;refine(HTL.out _ q rfl HGf.out w1 HB.out _ rfl).mono ?_;rintro e w3 ⟨A3,c3,rfl,hp⟩;have HP:=aa hp;clear hp;go_wp2_with fail
    go_ret2
    exact HP.out
  |false=>
   have HU:=aa hu;have HGf:Hid (fN xs ys i=false):=(by show _=_;rw[HG.out,hu];rfl);clear hu
   go_in
   go_wp2_with fail;refine(jG xs ys _ _ _ _ _ _ _ HX.out HY.out).mono ?_;rintro e w1 ⟨rfl,q,rfl⟩;rw[HU.out];go_wp2_with fail;refine(lC xs ys _ _ _ _ _ _ _ (HX.out.drewN q) (HY.out.drewN q)).mono ?_;rintro e w1 ⟨rfl,hb⟩;have HB:=aa hb;clear hb;go_wp2_with fail;refine(mD _ _).mono ?_;rintro e w' ⟨rfl,rfl⟩;go_wp2_with fail;refine(HTL.out _ q rfl HGf.out w1 HB.out _ rfl).mono ?_;rintro e w3 ⟨A3,c3,rfl,hp⟩;have HP:=aa hp;clear hp;go_wp2_with fail
   go_ret2
   exact HP.out
 .have HGf:Hid (fN xs ys i=false):=by show _=_;obtain⟨e1,e2⟩:=HN.out;simp[fN];omega
  go_in
  go_wp2_with fail;refine(lC xs ys _ _ _ _ _ _ _ HX.out HY.out).mono ?_;rintro e w1 ⟨rfl,hb⟩;have HB:=aa hb;clear hb;go_wp2_with fail;refine(mD _ _).mono ?_;rintro e w' ⟨rfl,rfl⟩;go_wp2_with fail;refine(HTL.out _ 0 rfl HGf.out w1 HB.out _ rfl).mono ?_;rintro e w3 ⟨A3,c3,rfl,hp⟩;have HP:=aa hp;clear hp;go_wp2_with fail
  go_ret2
  exact HP.out
theorem yF(xs ys:List Int)(i j:Int)(A B:Option Addr)(n c m d:Nat)(w:World)(hx:cc w xs A n c)(hy:cc w ys B m d)(hn:n<=17592186044416)(hm:m<=17592186044416)(hf:dE xs):Calls Tryz.prog 85 #[.slice A n c,.slice B m d,.int .i64 i,.int .i64 j] w (dL (eT xs ys i j) w):=by
 have hb0:Below w.heap.size w ((w.alloc (.cells #[.int .i64 i] 3)).alloc (.cells #[.int .i64 j] 3)):=((ai _ _).alloc (ah _) _).alloc (by simp) _;have HX0:=aa hx;have HX:=aa (hx.below hb0);have HY:=aa (hy.below hb0);have HF:=aa hf;have HT:=aa (pf xs ys hx.1 hy.1 hn hm);have HB0:=aa hb0;have hmf:=lH;clear hx hy hf hb0
 go_in
 go_wp2_with fail;refine(lC xs ys _ _ _ _ _ _ _ HX.out HY.out).mono ?_;rintro e w1 ⟨rfl,hb⟩;have HB1:Hid (Below w.heap.size w w1):=HB0.out.trans (hb.mono HB0.out.size);have HS1:Hid (w.heap.size+2<=w1.heap.size):=(by show _<=_;have:=hb.size;simp at this;omega);have HC1:Hid (w1.cell? ⟨w.heap.size,0,none⟩=some (.int .i64 i)):=by show _=_;rw[hb.cell (by simp<;>omega)];go_simp
 have HC2:Hid (w1.cell? ⟨w.heap.size+1,0,none⟩=some (.int .i64 j)):=by show _=_;rw[hb.cell (by simp<;>omega)];go_simp
 clear hb;go_wp2_with fail;refine(oJ xs A n c (fX xs ys) 126 #[.pointer (some ⟨w.heap.size,0,none⟩),.pointer (some ⟨w.heap.size+1,0,none⟩)] (kA i j) _ (cc.below HB1.out HX0.out) hn HT.out uD ?_).mono ?_
 .intro z hz w2 hb2;have hz':=HF.out.at_ hz;refine(yG z i j w.heap.size (w.heap.size+1) w2 ?_ ?_ (by omega) (by omega))
  .rw[hb2.cell (by have:=HS1.out;simp;omega)];exact HC1.out
  .rw[hb2.cell (by have:=HS1.out;simp;omega)];exact HC2.out
 .rintro e w3 ⟨A3,c3,rfl,ho,hb3⟩;have HO:=aa ho;have HB3:=aa hb3;clear ho hb3;go_wp2;go_ret;exact dL.intro (by rw[xc];exact oL xs ys (kA i j)) rfl (dk HO.out HB1.out.size) (HB1.out.trans (HB3.out.mono HB1.out.size))
structure Cm (w:World) (xs ps:List Int) (b b':Nat) (A:Option Addr) (n c:Nat) (k:Nat) (pA:Option Addr) (pn pc:Nat) (i j:Int) (x4 x5 x6 x7:Value):Prop where
 box:bw w b (.int .u8 k) (.slice pA pn pc) (.int .i64 i) (.int .i64 j) x4 x5 x6 x7
 way:w.cell? ⟨b',0,none⟩=some (.slice A n c)
 hx:cc w xs A n c
 hp:cc w ps pA pn pc
 few:dE xs
 hn:n<=17592186044416
 hm:pn<=17592186044000
theorem Cm.below{w w':World}{xs ps:List Int}{b b':Nat}{A:Option Addr}{n c:Nat}{k:Nat}{pA:Option Addr}{pn pc:Nat}{i j:Int}{x4 x5 x6 x7:Value}(h:Cm w xs ps b b' A n c k pA pn pc i j x4 x5 x6 x7)(hb:Below w.heap.size w w'):Cm w' xs ps b b' A n c k pA pn pc i j x4 x5 x6 x7:=
 ⟨h.box.below hb,ac hb h.way,h.hx.below hb,h.hp.below hb,h.few,h.hn,h.hm⟩
theorem yJ{w:World}{xs:List Int}{b':Nat}{A:Option Addr}{n c:Nat}(hw:w.cell? ⟨b',0,none⟩=some (.slice A n c))(hx:cc w xs A n c)(hn:n<=17592186044416):Calls Tryz.prog 77 #[.pointer (some ⟨b',0,none⟩)] w (bL (some xs) w):=by
 have HX:=aa hx;clear hx
 go_in
 go_wp2_with fail;refine(gV xs _ _ _ _ HX.out hn).mono ?_;rintro en w1 ⟨A1,c1,rfl,ho,hb⟩;have HO:=aa ho;have HB:=aa hb;clear ho hb;go_wp2_with fail
 go_ret2
 exact bL.yes rfl rfl HO.out HB.out
theorem yK{w:World}{xs ps:List Int}{b b':Nat}{A:Option Addr}{n c:Nat}{k:Nat}{pA:Option Addr}{pn pc:Nat}{i j:Int}{x4 x5 x6 x7:Value}(h:Cm w xs ps b b' A n c k pA pn pc i j x4 x5 x6 x7):Calls Tryz.prog 78 #[.pointer (some ⟨b',0,none⟩),.pointer (some ⟨b,0,none⟩)] w (bL (some (fO xs ps i)) w):=by
 have H:=aa h;have hw:=h.way;obtain⟨c0,c1,c2,c3,c4,c5,c6,c7⟩:=h.box;clear h
 go_in
 go_wp2_with fail;refine(Ig xs ps i _ _ _ _ _ _ _ H.out.hx H.out.hp H.out.hn (by have:=H.out.hm;omega) H.out.few).mono ?_;rintro en w1 ⟨A1,c1,rfl,ho,hb⟩;have HO:=aa ho;have HB:=aa hb;clear ho hb;go_wp2_with fail
 go_ret2
 exact bL.yes rfl rfl HO.out HB.out
theorem yL{w:World}{xs ps:List Int}{b b':Nat}{A:Option Addr}{n c:Nat}{k:Nat}{pA:Option Addr}{pn pc:Nat}{i j:Int}{x4 x5 x6 x7:Value}(h:Cm w xs ps b b' A n c k pA pn pc i j x4 x5 x6 x7):Calls Tryz.prog 80 #[.pointer (some ⟨b',0,none⟩),.pointer (some ⟨b,0,none⟩)] w (bL (dR xs ps i) w):=by
 have H:=aa h;have hw:=h.way;obtain⟨c0,c1,c2,c3,c4,c5,c6,c7⟩:=h.box;clear h;cases hd:dR xs ps i with
 |none=>
  have HD:=aa hd;clear hd
  go_in
  go_wp2_with fail;refine(rh xs ps i _ _ _ _ _ _ _ H.out.hx H.out.hp H.out.hn (by have:=H.out.hm;omega) H.out.few).mono ?_;intro en w1 hm;rw[HD.out] at hm;obtain⟨A1,n1,c1,rfl,hb⟩:=hm;have HB:=aa hb;clear hb;go_wp2_with fail
  go_ret2
  exact bL.no rfl HB.out
 |some zs=>
  have HD:=aa hd;clear hd
  go_in
  go_wp2_with fail;refine(rh xs ps i _ _ _ _ _ _ _ H.out.hx H.out.hp H.out.hn (by have:=H.out.hm;omega) H.out.few).mono ?_;intro en w1 hm;rw[HD.out] at hm;obtain⟨A1,c1,rfl,ho,hb⟩:=hm;have HO:=aa ho;have HB:=aa hb;clear ho hb;go_wp2_with fail
  go_ret2
  exact bL.yes rfl rfl HO.out HB.out
theorem Gy{w w1:World}{d:Nat}{xs ps:List Int}{b b':Nat}{A:Option Addr}{n c:Nat}{k:Nat}{pA:Option Addr}{pn pc:Nat}{i j:Int}{x4 x5 x6 x7:Value}(h:Cm w xs ps b b' A n c k pA pn pc i j x4 x5 x6 x7)(hb:Below (w.drewN d).heap.size (w.drewN d) w1):w1.cell? ⟨b',0,none⟩=some (.slice A n c)/\w1.cell? ⟨b,1,none⟩=some (.slice pA pn pc)/\cc w1 xs A n c/\cc w1 ps pA pn pc/\Hid (Below w.heap.size w w1):=by have hb':Below w.heap.size w w1:=(bS (ai _ _) d).trans hb;have h':=h.below hb';exact⟨h'.way,h'.box.2.1,h'.hx,h'.hp,hb'⟩
theorem yM{w:World}{xs ps:List Int}{b b':Nat}{A:Option Addr}{n c:Nat}{k:Nat}{pA:Option Addr}{pn pc:Nat}{i j:Int}{x4 x5 x6 x7:Value}(h:Cm w xs ps b b' A n c k pA pn pc i j x4 x5 x6 x7):Calls Tryz.prog 82 #[.pointer (some ⟨b',0,none⟩),.pointer (some ⟨b,0,none⟩)] w (bL (if bu xs ps then none else some xs) w):=by
 have H:=aa h;have hw:=h.way;obtain⟨c0,c1,c2,c3,c4,c5,c6,c7⟩:=h.box;clear h;generalize hu:bu xs ps=u;have HU:=aa hu;clear hu;generalize hr:(if u=true then none else some xs)=r;have HR:=aa hr;clear hr
 go_in
 go_wp2_with fail
 go_region_with (first
  |(go_at_call 75;refine(gV xs _ _ _ _ (by first|exact H.out.hx.drewN 1|exact(H.out.hx.drewN _).drewN _) H.out.hn).mono ?_;rintro e w1 ⟨A1,k1,rfl,ho,hb⟩;obtain⟨hw1,hd1,hxx1,hpp1,hbb1⟩:=Gy H.out hb)
  |(go_at_call 83;refine(jG xs ps _ _ _ _ _ _ _ (by first|exact hxx1|exact H.out.hx.drewN 1) (by first|exact hpp1|exact H.out.hp.drewN 1)).mono ?_;rintro e w2 ⟨rfl,q,rfl⟩))
 all_goals
  rw[HU.out];cases u
  .go_wp2_with fail
   go_ret2
   rw[<-HR.out];exact bL.yes rfl rfl (bM ho (bS (ai _ _) q) (ah _)) (bS hbb1.out q)
  .go_wp2_with fail
   go_ret2
   rw[<-HR.out];exact bL.no rfl (bS hbb1.out q)
theorem Tryz.infoInt:(Tryz.prog.info? 3).map (fun i=>(i.zero,i.size,i.bytes))=some (some (.int .i64 0),1,8):=by kernel_rfl
theorem sw{ops:Array Oper}{o:Oper}{a:Act}{K:Act->World->Prop}{Q:Exit->Act->World->Prop}{E:Prop}(w:World)(hgd:o.guard=none)(s x:Operand)(ho:o.op= .call { callee:=.builtin .append,args:=#[s,x],argTypes:=#[27,27] })(base:Nat)(v:Value)(zs:List Int)(hs:a.eval s=v)(hown:w.ownsRow base 3 1 v zs.length (zs.map (Value.int .i64)))(Bk c:Nat)(i:Int)(hx:a.eval x= .slice (some ⟨Bk,0,none⟩) 1 c)(hblk:w.heap[Bk]? =some (.cells #[.int .i64 i] 3 (0,0)))(hfew:zs.length<=17592186044000)(hbase:base<=w.heap.size)(h:∀g cap w',w'.ownsRow base 3 1 (.slice (some ⟨g,0,none⟩) (zs.length+1) cap) (zs++[i]).length ((zs++[i]).map (Value.int .i64))->w.grownBy w' v.ownBlock->K (a.put o.dst (.slice (some ⟨g,0,none⟩) (zs.length+1) cap)) w'):if Region.wanted o (yielded ops a.tmps)=true then Oper.wp Tryz.prog o a w K Q else E:=by
 obtain⟨i0,hi,hz0,hz1,hz2⟩:=info_parts Tryz.infoInt;refine step_append_lies w hgd s x _ ho base 3 i0 _ 1 8 Tryz.underlying27 hi hz0 hz1 hz2 rfl (by omega) v zs.length (zs.map (Value.int .i64)) hs hown ⟨Bk,0,none⟩ 1 c [.int .i64 i] hx rfl
  (fun j u hu=>World.news_of_block hblk j u (by simpa using hu)) (by simp[Value.oneCell']) (by omega) (by unfold maxLen;omega) (by omega) hbase _ rfl ?_
 intro g cap w' hown' hgr hat hlt;refine h g cap w' ?_ hgr;rw[List.map_append,CD];exact hown'
theorem pG{w W w1:World}{xs ps zs:List Int}{b b':Nat}{A:Option Addr}{n c:Nat}{k:Nat}{pA:Option Addr}{pn pc:Nat}{i j:Int}{x4 x5 x6 x7:Value}{v:Value}{m:Nat}(h:Cm w xs ps b b' A n c k pA pn pc i j x4 x5 x6 x7)(hW:Below w.heap.size w W)(hb:Below W.heap.size W w1)(ho:w1.ownsRow W.heap.size 3 1 v m (zs.map (Value.int .i64))):w1.cell? ⟨b,2,none⟩=some (.int .i64 i)/\Hid (Below w.heap.size w w1)/\w1.ownsRow w.heap.size 3 1 v m (zs.map (Value.int .i64)):=by have hb':Below w.heap.size w w1:=af hW hb;have h':=h.below hb';exact⟨h'.box.2.2.1,hb',dk ho hW.size⟩
theorem pF{w W w2:World}{zs:List Int}{A:Option Addr}{c g cap:Nat}{i:Int}(hW:Below w.heap.size w W)(ho:W.ownsRow w.heap.size 3 1 (.slice A zs.length c) zs.length (zs.map (Value.int .i64)))(hown:w2.ownsRow w.heap.size 3 1 (.slice (some ⟨g,0,none⟩) (zs.length+1) cap) (zs++[i]).length ((zs++[i]).map (Value.int .i64)))(hgr:W.grownBy w2 (Value.slice A zs.length c).ownBlock):Hid (Below w.heap.size w w2)/\Hid (cc w2 (zs++[i]) (some ⟨g,0,none⟩) (zs.length+1) cap):=by refine⟨hW.grown hgr hW.size (fun k hk=>(ho.lt k hk).1),?_⟩;have e:(zs++[i]).length=zs.length+1:=(by simp);obtain⟨A',c',e',h3⟩:=cc.own (v:=.slice (some ⟨g,0,none⟩) (zs.length+1) cap) hown;rw[e] at e' h3;injection e' with e1 e2 e3;rw[e1,e3];exact h3
theorem GA{w w1:World}{d:Nat}{xs ps:List Int}{b b':Nat}{A:Option Addr}{n c:Nat}{k:Nat}{pA:Option Addr}{pn pc:Nat}{i j:Int}{x4 x5 x6 x7:Value}(h:Cm w xs ps b b' A n c k pA pn pc i j x4 x5 x6 x7)(hb:Below (w.drewN d).heap.size (w.drewN d) w1):w1.cell? ⟨b',0,none⟩=some (.slice A n c)/\w1.cell? ⟨b,1,none⟩=some (.slice pA pn pc)/\w1.cell? ⟨b,2,none⟩=some (.int .i64 i)/\w1.cell? ⟨b,3,none⟩=some (.int .i64 j)/\Hid (Below w.heap.size w w1):=by have hb':Below w.heap.size w w1:=(bS (ai _ _) d).trans hb;have h':=h.below hb';exact⟨h'.way,h'.box.2.1,h'.box.2.2.1,h'.box.2.2.2.1,hb'⟩
theorem yN{w:World}{xs ps:List Int}{b b':Nat}{A:Option Addr}{n c:Nat}{k:Nat}{pA:Option Addr}{pn pc:Nat}{i j:Int}{x4 x5 x6 x7:Value}(h:Cm w xs ps b b' A n c k pA pn pc i j x4 x5 x6 x7):Calls Tryz.prog 84 #[.pointer (some ⟨b,0,none⟩),.pointer (some ⟨b',0,none⟩)] w (bL (if bu xs (ps++[i]) then none else some (eT xs ps i j)) w):=by
 have H:=aa h;have hw:=h.way;obtain⟨c0,c1,c2,c3,c4,c5,c6,c7⟩:=h.box;have hps:ps.length<=17592186044000:=(by rw[<-h.hp.1];exact h.hm);have hq1:=fun o=>(World.cell?_alloc_lt w o ⟨b,1,none⟩ (bK c1)).trans c1;have hblt:b<w.heap.size:=bK c1;clear h;generalize hu:bu xs (ps++[i])=u;have HU:=aa hu;clear hu;generalize hr:(if u=true then none else some (eT xs ps i j))=r;have HR:=aa hr;clear hr
 go_in
 go_wp2_with fail;go_region_law (first
  |(refine sw _ (by rfl) _ _ (by rfl) w.heap.size _ ps (by rfl) (ho.alloc _) w1.heap.size 1 i (by rfl) (aQ (by simp)) hps (by have:=HB1.out.size;simp;omega) ?_;intro g cap w2 hown2 hgr2;obtain⟨HB2,HI2⟩:=pF (HB1.out.alloc HB1.out.size _) (ho.alloc _) hown2 hgr2)
  |(refine sw _ (by rfl) _ _ (by rfl) w.heap.size _ ps (by rfl) ho w.heap.size 1 i (by rfl) hbk hps HB1.out.size ?_;intro g cap w2 hown2 hgr2;obtain⟨HB2,HI2⟩:=pF HB1.out ho hown2 hgr2)
  |(go_simp;go_at_call 75;refine(gV ps _ _ _ (w.drewN 1) (H.out.hp.drewN 1) (by have:=H.out.hm;omega)).mono ?_;rintro e w1 ⟨A1,k1,rfl,ho',hb⟩;obtain⟨hd2,HB1,ho⟩:=pG H.out (bS (ai _ _) 1) hb ho';have hz2:=fun o=>(World.cell?_alloc_lt w1 o ⟨b,2,none⟩ (bK hd2)).trans hd2;clear ho' hb)
  |(go_simp;go_at_call 75;refine(gV ps _ _ _ ((w.alloc (.cells #[.int .i64 i] 3)).drewN 1) ((H.out.hp.below ((ai _ _).alloc (ah _) _)).drewN 1) (by have:=H.out.hm;omega)).mono ?_;rintro e w1 ⟨A1,k1,rfl,ho',hb⟩;have hbk:w1.heap[w.heap.size]? =some (.cells #[.int .i64 i] 3 (0,0)):=(hb.block _ (by simp)).trans (heap_alloc_new _ _);obtain⟨hd2,HB1,ho⟩:=pG H.out (bS ((ai _ _).alloc (ah _) _) 1) hb ho';clear ho' hb))
 all_goals
  have H2:=aa (H.out.below HB2.out);have HB2':=HB2;have y0:=H2.out.way;have y1:=H2.out.box.2.1;have y2:=H2.out.box.2.2.1;have y3:=H2.out.box.2.2.2.1;clear ho hown2 hgr2 hd2 hq1;go_wp2_with fail;go_region_held3 (fun w'=>w'.cell? ⟨b',0,none⟩=some (.slice A n c)/\w'.cell? ⟨b,1,none⟩=some (.slice pA pn pc)/\w'.cell? ⟨b,2,none⟩=some (.int .i64 i)/\w'.cell? ⟨b,3,none⟩=some (.int .i64 j)) (first|exact⟨y0,y1,y2,y3⟩|exact⟨z0,z1,z2,z3⟩|go_keep)
   (first
    |(go_at_call 85;refine(yF xs ps i j _ _ _ _ _ _ _ (H2.out.hx.drewN 1) (H2.out.hp.drewN 1) H2.out.hn (by have:=H2.out.hm;omega) H2.out.few).mono ?_;rintro e w3 ⟨A3,k3,rfl,ho3,hb3⟩;obtain⟨z0,z1,z2,z3,HB3⟩:=GA H2.out hb3)
    |(go_at_call 83;refine(jG xs (ps++[i]) _ _ _ _ _ _ _ (H2.out.hx.below HB3.out) (HI2.out.below HB3.out)).mono ?_;rintro e w4 ⟨rfl,q,rfl⟩))
  have HB4:=aa (af HB2.out HB3.out);have HO4:=aa (dk (bM ho3 (bS (ai _ _) q) (ah _)) HB2.out.size);clear ho3 hb3;rw[HU.out];cases u
  .go_wp2_with fail
   go_ret2
   rw[<-HR.out];exact bL.yes rfl rfl HO4.out (bS HB4.out q)
  .go_wp2_with fail
   go_ret2
   rw[<-HR.out];exact bL.no rfl (bS HB4.out q)
theorem ID{w:World}(ty:TypeId)(q:List Int)(A:Option Addr)(c0:Nat)(hq:cc w q A q.length c0)(Bk c:Nat)(i:Int)(hblk:w.heap[Bk]? =some (.cells #[.int .i64 i] 3 (0,0)))(hlen:q.length<=1000000)(hA:A=none->q=[]):∃g cap w',(Builtin.append_ #[27,27] ty #[.slice A q.length q.length,.slice (some ⟨Bk,0,none⟩) 1 c]).run Tryz.prog w= .ok (.slice (some ⟨g,0,none⟩) (q.length+1) cap) w'/\cc w' (q++[i]) (some ⟨g,0,none⟩) (q.length+1) cap/\bT w' (q++[i]) (some ⟨g,0,none⟩)/\Below w.heap.size w w':=by
 obtain⟨i0,hi,hz0,hz1,hz2⟩:=info_parts Tryz.infoInt;have hn:∀j u,[Value.int .i64 i][j]? =some u->w.cell? ((⟨Bk,0,none⟩:Addr).add j)=some u:=DA hblk;have fin:∀v' w',(Builtin.append_ #[27,27] ty #[.slice A q.length q.length,.slice (some ⟨Bk,0,none⟩) 1 c]).run Tryz.prog w= .ok v' w'->w'.ownsRow w.heap.size 3 1 v' (q.length+1) (q.map (Value.int .i64)++[.int .i64 i])->w.grownBy w' none->
  ∃g cap w',(Builtin.append_ #[27,27] ty #[.slice A q.length q.length,.slice (some ⟨Bk,0,none⟩) 1 c]).run Tryz.prog w= .ok (.slice (some ⟨g,0,none⟩) (q.length+1) cap) w'/\cc w' (q++[i]) (some ⟨g,0,none⟩) (q.length+1) cap/\bT w' (q++[i]) (some ⟨g,0,none⟩)/\Below w.heap.size w w':=by
  intro v' w' hr ho hg;have ho':w'.ownsRow w.heap.size 3 1 v' (q++[i]).length ((q++[i]).map (Value.int .i64)):=(by simpa using ho);obtain⟨g,cap,e,_⟩:=ho'.form (by simp);subst e;obtain⟨A',c',e2,hI⟩:=cc.own ho';injection e2 with e2 e3 e4;subst e2 e4;have hI':cc w' (q++[i]) (some ⟨g,0,none⟩) (q.length+1) cap:=(by simpa using hI);refine⟨g,cap,w',by simpa using hr,hI',bT.own (n:=(q++[i]).length) (c:=cap) (by simpa using ho') (by simp),(ai _ _).grown hg (ah _) (fun k hk=>by cases hk)⟩
 obtain⟨_,h2,h3,h4⟩:=hq;cases A with
 |none=>have:=hA rfl;subst this;have hr:=run_append_own (P:=Tryz.prog) w w.heap.size 27 ty 3 i0 _ 1 8 Tryz.underlying27 hi hz0 hz1 hz2 rfl (by decide) (.slice none 0 0) 0 [] (World.ownsRow_nil w _ _ _) ⟨Bk,0,none⟩ 1 c [.int .i64 i] rfl hn (by simp[Value.oneCell']) (by unfold maxLen;omega) (by omega) (ah _);obtain⟨v',w',r1,r2,r3,_⟩:=hr;exact fin v' w' r1 (by simpa using r2) r3
 |some ad=>
  have hc:∀j u,(q.map (Value.int .i64))[j]? =some u->w.cell? (ad.add j)=some u:=by
   intro j u hu;rcases h4 with rfl|⟨b,o,e,hr⟩
   .simp at hu
   .rw[Option.some.inj e];rw[CE];rw[List.getElem?_map] at hu;cases hj:q[j]? with
    |none=>rw[hj] at hu;cases hu
    |some z=>rw[hj] at hu;cases hu;exact hr j z hj
  obtain⟨v',w',r1,r2,r3⟩:=run_append_arg_grows (P:=Tryz.prog) w 27 ty 3 i0 _ 1 8 Tryz.underlying27 hi hz0 hz1 hz2 rfl (by decide) ad q.length q.length (q.map (Value.int .i64)) (by simp) hc ⟨Bk,0,none⟩ 1 c [.int .i64 i] rfl hn (by omega) (by unfold maxLen;omega) (by omega);exact fin v' w' r1 r2 r3
theorem Ct{ops:Array Oper}{o:Oper}{a:Act}{K:Act->World->Prop}{Q:Exit->Act->World->Prop}{E:Prop}(w:World)(hgd:o.guard=none)(s x:Operand)(ho:o.op= .call { callee:=.builtin .append,args:=#[s,x],argTypes:=#[27,27] })(q:List Int)(A:Option Addr)(c0:Nat)(hs:a.eval s= .slice A q.length q.length)(hq:cc w q A q.length c0)(Bk c:Nat)(i:Int)(hx:a.eval x= .slice (some ⟨Bk,0,none⟩) 1 c)(hblk:w.heap[Bk]? =some (.cells #[.int .i64 i] 3 (0,0)))(hlen:q.length<=1000000)(hA:A=none->q=[])(h:∀g cap w',cc w' (q++[i]) (some ⟨g,0,none⟩) (q.length+1) cap->bT w' (q++[i]) (some ⟨g,0,none⟩)->Below w.heap.size w w'->K (a.put o.dst (.slice (some ⟨g,0,none⟩) (q.length+1) cap)) w'):if Region.wanted o (yielded ops a.tmps)=true then Oper.wp Tryz.prog o a w K Q else E:=by obtain⟨g,cap,w',hr,h1,h2,h3⟩:=ID o.type q A c0 hq Bk c i hblk hlen hA;have hw:Region.wanted o (yielded ops a.tmps)=true:=(by simp[Region.wanted,hgd]);rw[if_pos hw];exact Lib.wp_append_run w s x _ _ ho _ _ hs hx _ _ hr (h g cap w' h1 h2 h3)
structure Dr (W:World) (b wb:Nat) (pa:Option Addr) (M k:Nat) (s:ar) (x:Int) (A:Option Addr) (n c:Nat) (pA:Option Addr) (ql pc a:Nat):Prop where
 b0:W.heap[b]? =some (.cells #[.pointer (some ⟨wb,0,none⟩)] 132 (0,0))
 b1:W.heap[b+1]? =some (.cells #[.pointer pa,.map (some M)] 136 (0,0))
 b2:W.heap[b+1+1]? =some (.cells #[.int .u8 k,.string (sb s),.int .i64 x,.slice A n c] 25 (0,0))
 b3:W.heap[b+1+1+1]? =some (.cells #[.slice pA ql pc] 27 (0,0))
 b4:W.heap[b+1+1+1+1]? =some (.cells #[.int .i64 a] 3 (0,0))
theorem Dr.only{S:Nat->Prop}{W W':World}{b wb:Nat}{pa:Option Addr}{M k:Nat}{s:ar}{x:Int}{A:Option Addr}{n c:Nat}{pA:Option Addr}{ql pc a:Nat}(h:Dr W b wb pa M k s x A n c pA ql pc a)(ho:cg S W W')(hS:∀k,S k->k<b∨b+5<=k):Dr W' b wb pa M k s x A n c pA ql pc a:=by have key:∀j,b<=j->j<b+5->∀o,W.heap[j]? =some o->W'.heap[j]? =some o:=fun j hj hj2 o h1=>(ho.keep _ (aK.1 h1).1 (fun hk=>by rcases hS _ hk with h2|h2<;>omega)).trans h1;exact⟨key _ (by omega) (by omega) _ h.b0,key _ (by omega) (by omega) _ h.b1,key _ (by omega) (by omega) _ h.b2,key _ (by omega) (by omega) _ h.b3,key _ (by omega) (by omega) _ h.b4⟩
structure Gu (W:World) (b wb:Nat) (pa:Option Addr) (M k:Nat) (s:ar) (x:Int) (A:Option Addr) (n c:Nat) (pA:Option Addr) (ql pc a:Nat):Prop where
 c0:W.cell? ⟨b,0,none⟩=some (.pointer (some ⟨wb,0,none⟩))
 c10:W.cell? ⟨b+1,0,none⟩=some (.pointer pa)
 c11:W.cell? ⟨b+1,1,none⟩=some (.map (some M))
 c20:W.cell? ⟨b+1+1,0,none⟩=some (.int .u8 k)
 c21:W.cell? ⟨b+1+1,1,none⟩=some (.string (sb s))
 c22:W.cell? ⟨b+1+1,2,none⟩=some (.int .i64 x)
 c23:W.cell? ⟨b+1+1,3,none⟩=some (.slice A n c)
 c30:W.cell? ⟨b+1+1+1,0,none⟩=some (.slice pA ql pc)
 c40:W.cell? ⟨b+1+1+1+1,0,none⟩=some (.int .i64 a)
 g10:W.frozen? ⟨b+1,0,none⟩=false
 g11:W.frozen? ⟨b+1,1,none⟩=false
theorem Dr.cells{W:World}{b wb:Nat}{pa:Option Addr}{M k:Nat}{s:ar}{x:Int}{A:Option Addr}{n c:Nat}{pA:Option Addr}{ql pc a:Nat}(h:Dr W b wb pa M k s x A n c pA ql pc a):Gu W b wb pa M k s x A n c pA ql pc a:=by have k0:=fun j=>cell_of_row W _ j _ _ _ h.b0;have k1:=fun j=>cell_of_row W _ j _ _ _ h.b1;have k2:=fun j=>cell_of_row W _ j _ _ _ h.b2;have k3:=fun j=>cell_of_row W _ j _ _ _ h.b3;have k4:=fun j=>cell_of_row W _ j _ _ _ h.b4;refine⟨by rw[k0];rfl,by rw[k1];rfl,by rw[k1];rfl,by rw[k2];rfl,by rw[k2];rfl,by rw[k2];rfl,by rw[k2];rfl,by rw[k3];rfl,by rw[k4];rfl,?_,?_⟩ <;>simp[World.frozen?,h.b1]
structure rN (w:World) (B wb fm M:Nat) (recs:List cz) (av:Value) (fe:bq) (b:Nat) (k:Nat) (s:ar) (x:Int) (A:Option Addr) (n c:Nat) (q:List Int) (pA:Option Addr) (pc a:Nat) (pa1:Option Addr) (M1:Nat) (out1:List bq) (ms1:List Nat) (W:World) (st1:bo) (own1:bq) (recs1:List cz) (av1:Value):Prop where
 mem:eP W B wb fm recs1 av1 st1
 box:Dr W b wb pa1 M1 k s x A n c pA q.length pc a
 fmap:gm W fm (k6 (cn recs1) fe)
 omap:gm W M1 (k6 (cn recs1) own1)
 arnd:wo W (cn recs1) out1 ms1 (.pointer pa1)
 ids:∀m∈own1::out1,k7 recs1.length m
 fids:k7 recs1.length fe
 path:cc W q pA q.length pc
 pathT:bT W q pA
 only:cg (fun k=>gp wb recs av k∨k=M) w W
 sub:∀k,k<w.heap.size->gp wb recs1 av1 k->gp wb recs av k
 far:∀k,gp wb recs1 av1 k->k<b∨b+5<=k
 ext:∃l,cn recs1=cn recs++l
 eb:b=w.heap.size
 farM:M1=M∨b+5<=M1
 hM:M<w.heap.size
 ne:fm≠M1
 nms:M1∉ms1
 low:B<=M1
theorem Dx{w:World}{b:Nat}{l:List (ar×Value)}(h:gm w b l):∃es c,w.heap[b]? =some (.map es c):=by obtain⟨es,c,hb,_⟩:=h;exact⟨es,c,hb⟩
theorem Dn{w:World}{B wb fm M:Nat}{recs:List cz}{av:Value}{st:bo}{fe own:bq}{out:List bq}{ms:List Nat}{pa:Option Addr}{q:List Int}{pA:Option Addr}{pc:Nat}(k:Nat)(s:ar)(x:Int)(A:Option Addr)(n c:Nat)(hm:eP w B wb fm recs av st)(hfe:gm w fm (k6 (cn recs) fe))(hown:gm w M (k6 (cn recs) own))(har:wo w (cn recs) out ms (.pointer pa))(hids:∀m∈own::out,k7 recs.length m)(hfids:k7 recs.length fe)(hp:cc w q pA q.length pc)(hpt:bT w q pA)(hne:fm≠M)(hms:M∉ms)(hBM:B<=M):rN w B wb fm M recs av fe w.heap.size k s x A n c q pA pc st.at_ pa M out ms ((((((w.alloc (.cells #[.pointer (some ⟨wb,0,none⟩)] 132)).alloc (.cells #[.pointer pa,.map (some M)] 136)).alloc (.cells #[.int .u8 k,.string (sb s),.int .i64 x,.slice A n c] 25)).alloc (.cells #[.slice pA q.length pc] 27)).alloc (.cells #[.int .i64 st.at_] 3)).setCell ⟨wb,3,none⟩ (.int .i64 (st.at_+1))) st.next own recs av:=by
 have hb:Below w.heap.size w (((((w.alloc (.cells #[.pointer (some ⟨wb,0,none⟩)] 132)).alloc (.cells #[.pointer pa,.map (some M)] 136)).alloc (.cells #[.int .u8 k,.string (sb s),.int .i64 x,.slice A n c] 25)).alloc (.cells #[.slice pA q.length pc] 27)).alloc (.cells #[.int .i64 st.at_] 3)):=(((((ai _ _).alloc (ah _) _).alloc (by simp) _).alloc (by simp;omega) _).alloc (by simp;omega) _).alloc (by simp;omega) _;have k0:(((((w.alloc (.cells #[.pointer (some ⟨wb,0,none⟩)] 132)).alloc (.cells #[.pointer pa,.map (some M)] 136)).alloc (.cells #[.int .u8 k,.string (sb s),.int .i64 x,.slice A n c] 25)).alloc (.cells #[.slice pA q.length pc] 27)).alloc (.cells #[.int .i64 st.at_] 3)).heap[w.heap.size]? =some (.cells #[.pointer (some ⟨wb,0,none⟩)] 132 (0,0)):=by rw[heap_alloc_old _ _ (by simp<;>omega),heap_alloc_old _ _ (by simp<;>omega),heap_alloc_old _ _ (by simp<;>omega),heap_alloc_old _ _ (by simp),heap_alloc_new]
 have k1:(((((w.alloc (.cells #[.pointer (some ⟨wb,0,none⟩)] 132)).alloc (.cells #[.pointer pa,.map (some M)] 136)).alloc (.cells #[.int .u8 k,.string (sb s),.int .i64 x,.slice A n c] 25)).alloc (.cells #[.slice pA q.length pc] 27)).alloc (.cells #[.int .i64 st.at_] 3)).heap[w.heap.size+1]? =some (.cells #[.pointer pa,.map (some M)] 136 (0,0)):=by rw[heap_alloc_old _ _ (by simp<;>omega),heap_alloc_old _ _ (by simp<;>omega),heap_alloc_old _ _ (by simp),aQ (by simp)]
 have k2:(((((w.alloc (.cells #[.pointer (some ⟨wb,0,none⟩)] 132)).alloc (.cells #[.pointer pa,.map (some M)] 136)).alloc (.cells #[.int .u8 k,.string (sb s),.int .i64 x,.slice A n c] 25)).alloc (.cells #[.slice pA q.length pc] 27)).alloc (.cells #[.int .i64 st.at_] 3)).heap[w.heap.size+1+1]? =some (.cells #[.int .u8 k,.string (sb s),.int .i64 x,.slice A n c] 25 (0,0)):=by rw[heap_alloc_old _ _ (by simp<;>omega),heap_alloc_old _ _ (by simp),aQ (by simp)]
 have k3:(((((w.alloc (.cells #[.pointer (some ⟨wb,0,none⟩)] 132)).alloc (.cells #[.pointer pa,.map (some M)] 136)).alloc (.cells #[.int .u8 k,.string (sb s),.int .i64 x,.slice A n c] 25)).alloc (.cells #[.slice pA q.length pc] 27)).alloc (.cells #[.int .i64 st.at_] 3)).heap[w.heap.size+1+1+1]? =some (.cells #[.slice pA q.length pc] 27 (0,0)):=by rw[heap_alloc_old _ _ (by simp),aQ (by simp)]
 have k4:(((((w.alloc (.cells #[.pointer (some ⟨wb,0,none⟩)] 132)).alloc (.cells #[.pointer pa,.map (some M)] 136)).alloc (.cells #[.int .u8 k,.string (sb s),.int .i64 x,.slice A n c] 25)).alloc (.cells #[.slice pA q.length pc] 27)).alloc (.cells #[.int .i64 st.at_] 3)).heap[w.heap.size+1+1+1+1]? =some (.cells #[.int .i64 st.at_] 3 (0,0)):=aQ (by simp);generalize (((((w.alloc (.cells #[.pointer (some ⟨wb,0,none⟩)] 132)).alloc (.cells #[.pointer pa,.map (some M)] 136)).alloc (.cells #[.int .u8 k,.string (sb s),.int .i64 x,.slice A n c] 25)).alloc (.cells #[.slice pA q.length pc] 27)).alloc (.cells #[.int .i64 st.at_] 3))=V at*;have hmV:=hm.below hb;have hwl:=(aK.1 hm.box).1;have hsV:=hb.size;have o1:cg (fun k=>k=wb) V (V.setCell ⟨wb,3,none⟩ (.int .i64 (st.at_+1))):=(cg.refl (fun k=>k=wb) V).set (a:=⟨wb,3,none⟩) (.inr rfl) _;have hN:Cc (fun k=>k=wb) V:=(by rintro k rfl cs fr e;rw[hmV.box] at e;simp at e);have hM:gm V M (k6 (cn recs) own):=hown.below hb;have hF:gm V fm (k6 (cn recs) fe):=hfe.below hb;have nm:∀l M',gm V M' l->M'≠wb:=fun l M' h e=>by obtain⟨es,ck,hh⟩:=Dx h;rw[e,hmV.box] at hh;simp at hh
 obtain⟨p1,p2⟩:=C8 (hp.below hb) (hpt.below hb) o1 hN;have hms':∀(out:List bq) (ms:List Nat) (v:Value),wo V (cn recs) out ms v->∀M∈ms,¬M=wb:=by
  intro out;induction out with
  |nil=>intro ms v h M hM;rw[h.1] at hM;cases hM
  |cons m out ih=>
   intro ms v h M hM;obtain⟨b',v',M2,ms',rfl,_,_,hm2,h2⟩:=h;rcases List.mem_cons.1 hM with rfl|hM
   .exact nm _ _ hm2
   .exact ih ms' v' h2 M hM
 refine⟨?_,⟨?_,?_,?_,?_,?_⟩,CF hF o1 (nm _ _ hF),CF hM o1 (nm _ _ hM),(har.below hb).only o1 (by rintro k rfl cs fr e;rw[hmV.box] at e;simp at e) (hms' _ _ _ (har.below hb)),hids,hfids,p1,p2,?_,fun k _ h=>h,fun k h=>.inl (hm.lows k h).2,⟨[],by simp⟩,rfl,.inl rfl,hown.lt,hne,hms,hBM⟩
 .refine hmV.setBox o1 ?_ (re hmV.row (fun e=>?_) _) hmV.ids rfl rfl
  .rw[Cf hmV.box];rfl
  .obtain⟨_,cs,fr,hh⟩:=k8 hmV.row e;rw[hmV.box] at hh;simp at hh
 .rw[aY _ _ _ _ (show w.heap.size≠wb by omega)];exact k0
 .rw[aY _ _ _ _ (show w.heap.size+1≠wb by omega)];exact k1
 .rw[aY _ _ _ _ (show w.heap.size+1+1≠wb by omega)];exact k2
 .rw[aY _ _ _ _ (show w.heap.size+1+1+1≠wb by omega)];exact k3
 .rw[aY _ _ _ _ (show w.heap.size+1+1+1+1≠wb by omega)];exact k4
 .exact(cg.of_below hb).set (a:=⟨wb,3,none⟩) (.inr (.inl (.inl rfl))) _
theorem rN.below{w W W':World}{B wb fm M:Nat}{recs:List cz}{av:Value}{fe:bq}{b k:Nat}{s:ar}{x:Int}{A:Option Addr}{n c:Nat}{q:List Int}{pA:Option Addr}{pc a:Nat}{pa1:Option Addr}{M1:Nat}{out1:List bq}{ms1:List Nat}{st1:bo}{own1:bq}{recs1:List cz}{av1:Value}(h:rN w B wb fm M recs av fe b k s x A n c q pA pc a pa1 M1 out1 ms1 W st1 own1 recs1 av1)(hb:Below W.heap.size W W'):rN w B wb fm M recs av fe b k s x A n c q pA pc a pa1 M1 out1 ms1 W' st1 own1 recs1 av1:=
 ⟨h.mem.below hb,h.box.only (S:=fun _=>False) (cg.of_below hb) (fun _ h=>h.elim),h.fmap.below hb,h.omap.below hb,h.arnd.below hb,h.ids,h.fids,h.path.below hb,h.pathT.below hb,h.only.then_below hb,h.sub,h.far,h.ext,h.eb,h.farM,h.hM,h.ne,h.nms,h.low⟩
theorem Dt{W:World}{B wb fm M:Nat}{recs:List cz}{av:Value}{st:bo}{l:List (ar×Value)}(h:eP W B wb fm recs av st)(hM:gm W M l):∀k,(gp wb recs av k∨k=M)->∀cs T fr,W.heap[k]? =some (.cells cs T fr)->T=139∨T=89∨T=27∨T=87:=by
 rintro k (hk|rfl) cs T fr hh
 .obtain⟨cs',T',fr',hh',ht⟩:=h.types k hk;rw[hh] at hh';injection hh' with hh';injection hh' with h1 h2 h3;subst h2;exact ht
 .obtain⟨es,ck,hh'⟩:=Dx hM;rw[hh] at hh';simp at hh'
theorem Dh{W:World}{B wb fm:Nat}{recs:List cz}{av:Value}{st:bo}(h:eP W B wb fm recs av st){M:Nat}{l:List (ar×Value)}(hM:gm W M l):¬gp wb recs av M:=by intro hk;obtain⟨cs,T,fr,hh,_⟩:=h.types M hk;obtain⟨es,ck,hh'⟩:=Dx hM;rw[hh] at hh';simp at hh'
theorem rN.call{w W W2 W3:World}{B wb fm M:Nat}{recs:List cz}{av:Value}{fe:bq}{b k:Nat}{s:ar}{x:Int}{A:Option Addr}{n c:Nat}{q:List Int}{pA:Option Addr}{pc a:Nat}{pa1:Option Addr}{M1:Nat}{out1:List bq}{ms1:List Nat}{st1:bo}{own1:bq}{recs1:List cz}{av1:Value}(h:rN w B wb fm M recs av fe b k s x A n c q pA pc a pa1 M1 out1 ms1 W st1 own1 recs1 av1)(hW:W2=W)(hbs:b+5<=W.heap.size){o:bq}{st2:bo}{recs2:List cz}{av2:Value}(ho:cg (fun k=>gp wb recs1 av1 k∨k=M1) W W3)(hm:eP W3 B wb fm recs2 av2 st2)(hom:gm W3 M1 (k6 (cn recs2) o))(hid:k7 recs2.length o)(hext:∃l,cn recs2=cn recs1++l)(hsub:∀k,k<W.heap.size->gp wb recs2 av2 k->gp wb recs1 av1 k):rN w B wb fm M recs av fe b k s x A n c q pA pc a pa1 M1 out1 ms1 W3 st2 o recs2 av2:=by
 have hT:=Dt h.mem h.omap;have hN:Cc (fun k=>gp wb recs1 av1 k∨k=M1) W:=fun k hk cs fr e=>by rcases hT k hk _ _ _ e with h|h|h|h<;>exact absurd h (by decide)
 have hA:∀k,(gp wb recs1 av1 k∨k=M1)->∀cs fr,W.heap[k]? ≠some (.cells cs 184 fr):=fun k hk cs fr e=>by rcases hT k hk _ _ _ e with h|h|h|h<;>exact absurd h (by decide)
 obtain⟨l,hl⟩:=hext;have hlen:∀i,i<recs1.length->i<recs2.length:=fun i hi=>by have h1:=congrArg List.length hl;simp[cn] at h1;omega
 have hlen1:(cn recs1).length=recs1.length:=(by simp[cn]);have hsz:=ho.size;have hwl:=h.only.size;have ids1:∀m∈out1,k7 recs2.length m:=fun m hm p hp=>hlen _ (h.ids m (List.mem_cons_of_mem _ hm) p hp);have hfm:=(CF h.fmap ho (by
  rintro(e|e)
  .exact Dh h.mem h.fmap e
  .exact h.ne e))
 have har:=h.arnd.only ho hA (fun M' hM'=>by
  rintro(e|e)
  .have:∀(out:List bq) (ms:List Nat) (v:Value),wo W (cn recs1) out ms v->∀M∈ms,∃l,gm W M l:=by
    intro out;induction out with
    |nil=>intro ms v h M hM;rw[h.1] at hM;cases hM
    |cons m out ih=>
     intro ms v h M hM;obtain⟨b',v',M2,ms',rfl,_,_,hm2,h2⟩:=h;rcases List.mem_cons.1 hM with rfl|hM
     .exact⟨_,hm2⟩
     .exact ih ms' v' h2 M hM
   obtain⟨l',hl'⟩:=this _ _ _ h.arnd M' hM';exact Dh h.mem hl' e
  .rw[e] at hM';exact h.nms hM')
 obtain⟨hp1,hp2⟩:=C8 h.path h.pathT ho hN;obtain⟨l0,hl0⟩:=h.ext;refine⟨hm,h.box.only ho (fun k hk=>?_),?_,hom,?_,?_,fun p hp=>hlen _ (h.fids p hp),hp1,hp2,?_,?_,?_,⟨l0++l,by rw[hl,hl0,List.append_assoc]⟩,h.eb,h.farM,h.hM,h.ne,h.nms,h.low⟩
 .rcases hk with hk|hk
  .exact h.far k hk
  .rcases h.farM with e|e
   .have:=h.hM;have:=h.eb;omega
   .omega
 .rw[hl,EF (by rw[hlen1];exact h.fids)];exact hfm
 .rw[hl];exact har.more (fun m hm=>by rw[hlen1];exact h.ids m (List.mem_cons_of_mem _ hm))
 .intro m hm;rcases List.mem_cons.1 hm with rfl|hm
  .exact hid
  .exact ids1 m hm
 .refine h.only.trans ho (fun k hk hS=>?_);rcases hS with hS|hS
  .exact .inl (h.sub k hk hS)
  .rcases h.farM with e|e
   .exact .inr (hS.trans e)
   .have:=h.eb;omega
 .intro k hk hS;exact h.sub k hk (hsub k (by omega) hS)
 .intro k hS;by_cases hk:k<W.heap.size
  .exact h.far k (hsub k hk hS)
  .right;omega
variable {P:Program} {md:Region.Mode} {ops:Array Oper} {Q:Exit->Act->World->Prop} {S:World->Prop} {fuel:Nat} {listed:Array Bool} {a:Act} {w:World}
theorem AX(i:Nat){oi:Oper}{v:Value}(hi:ops[i]? =some oi)(hs:Region.noSelect ops=true)(hf:Region.free md ops listed i=true)(hr:(Region.ready md ops listed).contains i=true)(hS:S w)(hw:Region.wanted oi (yielded ops a.tmps)=true)(hy:∀w,S w->(execOp a.eval oi).run P w= .ok (.value v) w)(h:wpAnyH P md ops (NoPanic Q) S fuel (listed.setIfInBounds i true) (a.put oi.dst v) w):wpAnyH P md ops (NoPanic Q) S (fuel+1) listed a w:=
 wpAnyH_take hi hs hf hr (fun _ _ _ h=>h) (Or.inl ⟨hw,hy⟩) hS h
theorem ae(i:Nat){oi:Oper}{v:Value}{a':Act}{l':Array Bool}(h:wpAnyH P md ops (NoPanic Q) S fuel l' a' w)(hi:ops[i]? =some oi:=by simp only[List.getElem?_toArray,List.getElem?_cons_succ,List.getElem?_cons_zero];rfl)(hs:Region.noSelect ops=true:=by kernel_rfl)(hf:Region.free md ops listed i=true:=by kernel_rfl)(hr:(Region.ready md ops listed).contains i=true:=by kernel_rfl)(hS:S w:=by assumption)(hw:Region.wanted oi (yielded ops a.tmps)=true:=by rfl)(hy:∀w,S w->(execOp a.eval oi).run P w= .ok (.value v) w:=by intro w hSw;(try dsimp only at hSw);go_simp;first|done|with_reducible rfl)(hp:a.put oi.dst v=a':=by(try simp only[Act.put,List.setIfInBounds_toArray,List.set_cons_zero,List.set_cons_succ]) <;>rfl)(hl:listed.setIfInBounds i true=l':=by(try simp only[Act.put,List.setIfInBounds_toArray,List.set_cons_zero,List.set_cons_succ]) <;>rfl):wpAnyH P md ops (NoPanic Q) S (fuel+1) listed a w:=by subst hp hl;exact AX i hi hs hf hr hS hw hy h
theorem aL{Q':Exit->Act->World->Prop}(i:Nat){oi:Oper}{l':Array Bool}(h:∀K':Act->World->Prop,Shut (∀a w,S w->(S w->wpAnyH P md ops Q' S fuel l' a w)->K' a w)->if Region.wanted oi (yielded ops a.tmps)=true then Oper.wp P oi a w K' Q' else K' (a.put oi.dst undef) w)(hi:ops[i]? =some oi:=by simp only[List.getElem?_toArray,List.getElem?_cons_succ,List.getElem?_cons_zero];rfl)(hr:Region.ready md ops listed=[i]:=by kernel_rfl)(hl:listed.setIfInBounds i true=l':=by(try simp only[Act.put,List.setIfInBounds_toArray,List.set_cons_zero,List.set_cons_succ]) <;>rfl):wpAnyH P md ops Q' S (fuel+1) listed a w:=by subst hl;exact wpAnyH_ready hr (by simp) (AllReadyH.cons hi h AllReadyH.nil)
theorem aM{Q':Exit->Act->World->Prop}{a':Act}{l':Array Bool}(h:wpAnyH P md ops Q' S fuel l' a' w)(hp:a=a':=by(try simp only[Act.put,List.setIfInBounds_toArray,List.set_cons_zero,List.set_cons_succ]) <;>rfl)(hl:listed=l':=by(try simp only[Act.put,List.setIfInBounds_toArray,List.set_cons_zero,List.set_cons_succ]) <;>rfl):wpAnyH P md ops Q' S fuel listed a w:=by subst hp hl;exact h
end Go.Proofs.YtckbdkgcoilmpaaGreatDoor
