/- Part 8 of the proof. -/
import Derived.Test.YtlkmefhogabgdaaGreatDoorMnF
namespace Go.Proofs.YtlkmefhogabgdaaGreatDoor
open Go.RowKit
set_option linter.all false
set_option maxHeartbeats 40000000
set_option maxRecDepth 100000
theorem rR(k:Nat)(w:World):Calls Tryz.prog 226 #[.int .u8 k] w (jm (fV k) w):=by
 by_cases h0:6<=k
 .have g0:(6:Int)<=(k:Int):=(by omega);by_cases h1:k<=12
  .have g1:(k:Int)<=12:=(by omega);have HR:Hid (fV k=true):=by show _=_;simp[fV,h0,h1]
   go_in
   go_wp2;go_ret;exact⟨by rw[HR.out];rfl,rfl⟩
  .have g1:¬((k:Int)<=12):=(by omega);have g2:¬((k:Int)=5):=(by omega);have h2:¬(k=5):=(by omega);have HR:Hid (fV k=false):=by show _=_;simp[fV,h0,h1,h2]
   go_in
   go_wp2;go_ret;exact⟨by rw[HR.out];show Ending.returned (.bool ((k:Int) == 5))=_;simp[g2],rfl⟩
 .have g0:¬((6:Int)<=(k:Int)):=(by omega);by_cases h1:k=5
  .subst h1;have HR:Hid (fV 5=true):=by show _=_;simp[fV]
   go_in
   go_wp2;go_ret;exact⟨by rw[HR.out];rfl,rfl⟩
  .have g1:¬((k:Int)=5):=(by omega);have HR:Hid (fV k=false):=by show _=_;simp[fV,h0,h1]
   go_in
   go_wp2;go_ret;exact⟨by rw[HR.out];show Ending.returned (.bool ((k:Int) == 5))=_;simp[g1],rfl⟩
theorem kM(k:Nat)(w:World):Calls Tryz.prog 218 #[.int .u8 k] w (jm (cG k) w):=by
 by_cases h0:k=2
 .subst h0;have HR:Hid (cG 2=true):=by show _=_;simp[cG]
  go_in
  go_wp2;go_ret;exact⟨by rw[HR.out];rfl,rfl⟩
 .have g0:¬((k:Int)=2):=(by omega);by_cases h1:k=4
  .subst h1;have HR:Hid (cG 4=true):=by show _=_;simp[cG]
   go_in
   go_wp2;go_ret;exact⟨by rw[HR.out];rfl,rfl⟩
  .have g1:¬((k:Int)=4):=(by omega);by_cases h2:k=6
   .subst h2;have HR:Hid (cG 6=true):=by show _=_;simp[cG]
    go_in
    go_wp2;go_ret;exact⟨by rw[HR.out];rfl,rfl⟩
   .have g2:¬((k:Int)=6):=(by omega);by_cases h3:k=22
    .subst h3;have HR:Hid (cG 22=true):=by show _=_;simp[cG]
     go_in
     go_wp2;go_ret;exact⟨by rw[HR.out];rfl,rfl⟩
    .have g3:¬((k:Int)=22):=(by omega);by_cases h4:k=25
     .subst h4;have HR:Hid (cG 25=true):=by show _=_;simp[cG]
      go_in
      go_wp2;go_ret;exact⟨by rw[HR.out];rfl,rfl⟩
     .have g4:¬((k:Int)=25):=(by omega);have HR:Hid (cG k=false):=by show _=_;simp[cG,h0,h1,h2,h3,h4]
      go_in
      go_wp2;go_ret;exact⟨by rw[HR.out];show Ending.returned (.bool ((k:Int) == 2 || (k:Int) == 4 || (k:Int) == 6 || (k:Int) == 22 || (k:Int) == 25))=_;simp[g0,g1,g2,g3,g4],rfl⟩
theorem zE(k l p:Nat)(w:World)(m:Int)(hm:aX k=m)(h0:m<0)(TM:Calls Tryz.prog 215 #[.int .u8 k] w (nw m w)):Calls Tryz.prog 217 #[.int .u8 k,.int .u8 l,.int .i64 p] w (jm (aD k l p) w):=by
 have h0':¬(0<=m):=(by omega);have hnb:¬(0<=m/\m<=(p:Int)):=(by omega);have p0:¬((p:Int)<0):=(by omega);have p0':(0:Int)<=(p:Int):=(by omega);by_cases k1:k=1
 .subst k1;by_cases l2:l=2
  .subst l2;have HR:Hid (aD 1 2 p=true):=(by show _=_;unfold aD;rw[hm,if_neg hnb];simp[]);clear hm hnb
   go_in
   go_wp2_with fail;refine TM.mono ?_;clear TM;rintro e w3 ⟨rfl,rfl⟩;go_wp2;go_ret;exact⟨by rw[HR.out];first|rfl|(show Ending.returned (.bool _)=_;simp[]),rfl⟩
  have n2:¬((l:Int)=2):=(by omega);have HR:Hid (aD 1 l p=false):=(by show _=_;unfold aD;rw[hm,if_neg hnb];simp[l2]);clear hm hnb
  go_in
  go_wp2_with fail;refine TM.mono ?_;clear TM;rintro e w3 ⟨rfl,rfl⟩;go_wp2;go_ret;exact⟨by rw[HR.out];first|rfl|(show Ending.returned (.bool _)=_;simp[n2]),rfl⟩
 have g1:¬((k:Int)=1):=(by omega);by_cases k2:k=2
 .subst k2;by_cases q0:p=0
  .subst q0;by_cases l3:l=3
   .subst l3;have HR:Hid (aD 2 3 0=true):=(by show _=_;unfold aD;rw[hm,if_neg hnb];simp[]);clear hm hnb
    go_in
    go_wp2_with fail;refine TM.mono ?_;clear TM;rintro e w3 ⟨rfl,rfl⟩;go_wp2;go_ret;exact⟨by rw[HR.out];first|rfl|(show Ending.returned (.bool _)=_;simp[]),rfl⟩
   have n3:¬((l:Int)=3):=(by omega);have HR:Hid (aD 2 l 0=false):=(by show _=_;unfold aD;rw[hm,if_neg hnb];simp[l3]);clear hm hnb
   go_in
   go_wp2_with fail;refine TM.mono ?_;clear TM;rintro e w3 ⟨rfl,rfl⟩;go_wp2;go_ret;exact⟨by rw[HR.out];first|rfl|(show Ending.returned (.bool _)=_;simp[n3]),rfl⟩
  .have r0:¬((p:Int)=0):=(by omega);by_cases q1:p=1
   .subst q1;by_cases l5:l=5
    .subst l5;have HR:Hid (aD 2 5 1=true):=(by show _=_;unfold aD;rw[hm,if_neg hnb];simp[]);clear hm hnb
     go_in
     go_wp2_with fail;refine TM.mono ?_;clear TM;rintro e w3 ⟨rfl,rfl⟩;go_wp2;go_ret;exact⟨by rw[HR.out];first|rfl|(show Ending.returned (.bool _)=_;simp[]),rfl⟩
    have n5:¬((l:Int)=5):=(by omega);have HR:Hid (aD 2 l 1=false):=(by show _=_;unfold aD;rw[hm,if_neg hnb];simp[l5]);clear hm hnb
    go_in
    go_wp2_with fail;refine TM.mono ?_;clear TM;rintro e w3 ⟨rfl,rfl⟩;go_wp2;go_ret;exact⟨by rw[HR.out];first|rfl|(show Ending.returned (.bool _)=_;simp[n5]),rfl⟩
   .have r1:¬((p:Int)=1):=(by omega);have HR:Hid (aD 2 l p=false):=(by show _=_;unfold aD;rw[hm,if_neg hnb];simp[q0,q1]);clear hm hnb
    go_in
    go_wp2_with fail;refine TM.mono ?_;clear TM;rintro e w3 ⟨rfl,rfl⟩;go_wp2;go_ret;exact⟨by rw[HR.out];first|rfl|(show Ending.returned (.bool _)=_;simp[r0,r1]),rfl⟩
 have g2:¬((k:Int)=2):=(by omega);by_cases k3:k=3
 .subst k3;by_cases l4:l=4
  .subst l4;have HR:Hid (aD 3 4 p=true):=(by show _=_;unfold aD;rw[hm,if_neg hnb];simp[]);clear hm hnb
   go_in
   go_wp2_with fail;refine TM.mono ?_;clear TM;rintro e w3 ⟨rfl,rfl⟩;go_wp2;go_ret;exact⟨by rw[HR.out];first|rfl|(show Ending.returned (.bool _)=_;simp[]),rfl⟩
  have n4:¬((l:Int)=4):=(by omega);have HR:Hid (aD 3 l p=false):=(by show _=_;unfold aD;rw[hm,if_neg hnb];simp[l4]);clear hm hnb
  go_in
  go_wp2_with fail;refine TM.mono ?_;clear TM;rintro e w3 ⟨rfl,rfl⟩;go_wp2;go_ret;exact⟨by rw[HR.out];first|rfl|(show Ending.returned (.bool _)=_;simp[n4]),rfl⟩
 have g3:¬((k:Int)=3):=(by omega);by_cases k5:k=5
 .subst k5;have TE:=rR l w;cases hb:fV l with
  |false=>
   rw[hb] at TE;have HR:Hid (aD 5 l p=false):=(by show _=_;unfold aD;rw[hm,if_neg hnb];simp[hb]);clear hm hnb
   go_in
   go_wp2_with fail;refine TM.mono ?_;clear TM;rintro e w3 ⟨rfl,rfl⟩;go_wp2_with fail;refine TE.mono ?_;clear TE;rintro e w4 ⟨rfl,rfl⟩;go_wp2;go_ret;exact⟨by rw[HR.out];first|rfl|(show Ending.returned (.bool _)=_;simp[]),rfl⟩
  |true=>
   rw[hb] at TE;have HR:Hid (aD 5 l p=true):=(by show _=_;unfold aD;rw[hm,if_neg hnb];simp[hb]);clear hm hnb
   go_in
   go_wp2_with fail;refine TM.mono ?_;clear TM;rintro e w3 ⟨rfl,rfl⟩;go_wp2_with fail;refine TE.mono ?_;clear TE;rintro e w4 ⟨rfl,rfl⟩;go_wp2;go_ret;exact⟨by rw[HR.out];first|rfl|(show Ending.returned (.bool _)=_;simp[]),rfl⟩
 have g5:¬((k:Int)=5):=(by omega);by_cases k7:k=7
 .subst k7;by_cases q0:p=0
  .subst q0;by_cases l22:l=22
   .subst l22;have HR:Hid (aD 7 22 0=true):=(by show _=_;unfold aD;rw[hm,if_neg hnb];simp[]);clear hm hnb
    go_in
    go_wp2_with fail;refine TM.mono ?_;clear TM;rintro e w3 ⟨rfl,rfl⟩;go_wp2;go_ret;exact⟨by rw[HR.out];first|rfl|(show Ending.returned (.bool _)=_;simp[]),rfl⟩
   have n22:¬((l:Int)=22):=(by omega);by_cases l26:l=26
   .subst l26;have HR:Hid (aD 7 26 0=true):=(by show _=_;unfold aD;rw[hm,if_neg hnb];simp[l22]);clear hm hnb
    go_in
    go_wp2_with fail;refine TM.mono ?_;clear TM;rintro e w3 ⟨rfl,rfl⟩;go_wp2;go_ret;exact⟨by rw[HR.out];first|rfl|(show Ending.returned (.bool _)=_;simp[n22]),rfl⟩
   have n26:¬((l:Int)=26):=(by omega);have HR:Hid (aD 7 l 0=false):=(by show _=_;unfold aD;rw[hm,if_neg hnb];simp[l22,l26]);clear hm hnb
   go_in
   go_wp2_with fail;refine TM.mono ?_;clear TM;rintro e w3 ⟨rfl,rfl⟩;go_wp2;go_ret;exact⟨by rw[HR.out];first|rfl|(show Ending.returned (.bool _)=_;simp[n22,n26]),rfl⟩
  .have r0:¬((p:Int)=0):=(by omega);by_cases q1:p=1
   .subst q1;have TE:=gY l w;cases hb:dz l with
    |false=>
     rw[hb] at TE;have HR:Hid (aD 7 l 1=false):=(by show _=_;unfold aD;rw[hm,if_neg hnb];simp[hb]);clear hm hnb
     go_in
     go_wp2_with fail;refine TM.mono ?_;clear TM;rintro e w3 ⟨rfl,rfl⟩;go_wp2_with fail;refine TE.mono ?_;clear TE;rintro e w4 ⟨rfl,rfl⟩;go_wp2;go_ret;exact⟨by rw[HR.out];first|rfl|(show Ending.returned (.bool _)=_;simp[]),rfl⟩
    |true=>
     rw[hb] at TE;have HR:Hid (aD 7 l 1=true):=(by show _=_;unfold aD;rw[hm,if_neg hnb];simp[hb]);clear hm hnb
     go_in
     go_wp2_with fail;refine TM.mono ?_;clear TM;rintro e w3 ⟨rfl,rfl⟩;go_wp2_with fail;refine TE.mono ?_;clear TE;rintro e w4 ⟨rfl,rfl⟩;go_wp2;go_ret;exact⟨by rw[HR.out];first|rfl|(show Ending.returned (.bool _)=_;simp[]),rfl⟩
   .have r1:¬((p:Int)=1):=(by omega);have HR:Hid (aD 7 l p=false):=(by show _=_;unfold aD;rw[hm,if_neg hnb];simp[q0,q1]);clear hm hnb
    go_in
    go_wp2_with fail;refine TM.mono ?_;clear TM;rintro e w3 ⟨rfl,rfl⟩;go_wp2;go_ret;exact⟨by rw[HR.out];first|rfl|(show Ending.returned (.bool _)=_;simp[r0,r1]),rfl⟩
 have g7:¬((k:Int)=7):=(by omega);by_cases k8:k=8
 .subst k8;by_cases q0:p=0
  .subst q0;have TE:=gY l w;cases hb:dz l with
   |false=>
    rw[hb] at TE;have HR:Hid (aD 8 l 0=false):=(by show _=_;unfold aD;rw[hm,if_neg hnb];simp[hb]);clear hm hnb
    go_in
    go_wp2_with fail;refine TM.mono ?_;clear TM;rintro e w3 ⟨rfl,rfl⟩;go_wp2_with fail;refine TE.mono ?_;clear TE;rintro e w4 ⟨rfl,rfl⟩;go_wp2;go_ret;exact⟨by rw[HR.out];first|rfl|(show Ending.returned (.bool _)=_;simp[]),rfl⟩
   |true=>
    rw[hb] at TE;have HR:Hid (aD 8 l 0=true):=(by show _=_;unfold aD;rw[hm,if_neg hnb];simp[hb]);clear hm hnb
    go_in
    go_wp2_with fail;refine TM.mono ?_;clear TM;rintro e w3 ⟨rfl,rfl⟩;go_wp2_with fail;refine TE.mono ?_;clear TE;rintro e w4 ⟨rfl,rfl⟩;go_wp2;go_ret;exact⟨by rw[HR.out];first|rfl|(show Ending.returned (.bool _)=_;simp[]),rfl⟩
  .have r0:¬((p:Int)=0):=(by omega);have r2:(0:Int)< (p:Int):=(by omega);have q2:0<p:=(by omega);by_cases l5:l=5
   .subst l5;have HR:Hid (aD 8 5 p=true):=(by show _=_;unfold aD;rw[hm,if_neg hnb];simp[q0,q2]);clear hm hnb
    go_in
    go_wp2_with fail;refine TM.mono ?_;clear TM;rintro e w3 ⟨rfl,rfl⟩;go_wp2;go_ret;exact⟨by rw[HR.out];first|rfl|(show Ending.returned (.bool _)=_;simp[r0,r2]),rfl⟩
   have n5:¬((l:Int)=5):=(by omega);have HR:Hid (aD 8 l p=false):=(by show _=_;unfold aD;rw[hm,if_neg hnb];simp[q0,q2,l5]);clear hm hnb
   go_in
   go_wp2_with fail;refine TM.mono ?_;clear TM;rintro e w3 ⟨rfl,rfl⟩;go_wp2;go_ret;exact⟨by rw[HR.out];first|rfl|(show Ending.returned (.bool _)=_;simp[r0,r2,n5]),rfl⟩
 have g8:¬((k:Int)=8):=(by omega);by_cases k9:k=9
 .subst k9;by_cases q0:p=0
  .subst q0;have TE:=gY l w;cases hb:dz l with
   |false=>
    rw[hb] at TE;have HR:Hid (aD 9 l 0=false):=(by show _=_;unfold aD;rw[hm,if_neg hnb];simp[hb]);clear hm hnb
    go_in
    go_wp2_with fail;refine TM.mono ?_;clear TM;rintro e w3 ⟨rfl,rfl⟩;go_wp2_with fail;refine TE.mono ?_;clear TE;rintro e w4 ⟨rfl,rfl⟩;go_wp2;go_ret;exact⟨by rw[HR.out];first|rfl|(show Ending.returned (.bool _)=_;simp[]),rfl⟩
   |true=>
    rw[hb] at TE;have HR:Hid (aD 9 l 0=true):=(by show _=_;unfold aD;rw[hm,if_neg hnb];simp[hb]);clear hm hnb
    go_in
    go_wp2_with fail;refine TM.mono ?_;clear TM;rintro e w3 ⟨rfl,rfl⟩;go_wp2_with fail;refine TE.mono ?_;clear TE;rintro e w4 ⟨rfl,rfl⟩;go_wp2;go_ret;exact⟨by rw[HR.out];first|rfl|(show Ending.returned (.bool _)=_;simp[]),rfl⟩
  .have r0:¬((p:Int)=0):=(by omega);have r2:(0:Int)< (p:Int):=(by omega);have q2:0<p:=(by omega);by_cases l5:l=5
   .subst l5;have HR:Hid (aD 9 5 p=true):=(by show _=_;unfold aD;rw[hm,if_neg hnb];simp[q0,q2]);clear hm hnb
    go_in
    go_wp2_with fail;refine TM.mono ?_;clear TM;rintro e w3 ⟨rfl,rfl⟩;go_wp2;go_ret;exact⟨by rw[HR.out];first|rfl|(show Ending.returned (.bool _)=_;simp[r0,r2]),rfl⟩
   have n5:¬((l:Int)=5):=(by omega);have HR:Hid (aD 9 l p=false):=(by show _=_;unfold aD;rw[hm,if_neg hnb];simp[q0,q2,l5]);clear hm hnb
   go_in
   go_wp2_with fail;refine TM.mono ?_;clear TM;rintro e w3 ⟨rfl,rfl⟩;go_wp2;go_ret;exact⟨by rw[HR.out];first|rfl|(show Ending.returned (.bool _)=_;simp[r0,r2,n5]),rfl⟩
 have g9:¬((k:Int)=9):=(by omega);by_cases k12:k=12
 .subst k12;by_cases l25:l=25
  .subst l25;have HR:Hid (aD 12 25 p=true):=(by show _=_;unfold aD;rw[hm,if_neg hnb];simp[]);clear hm hnb
   go_in
   go_wp2_with fail;refine TM.mono ?_;clear TM;rintro e w3 ⟨rfl,rfl⟩;go_wp2;go_ret;exact⟨by rw[HR.out];first|rfl|(show Ending.returned (.bool _)=_;simp[]),rfl⟩
  have n25:¬((l:Int)=25):=(by omega);have HR:Hid (aD 12 l p=false):=(by show _=_;unfold aD;rw[hm,if_neg hnb];simp[l25]);clear hm hnb
  go_in
  go_wp2_with fail;refine TM.mono ?_;clear TM;rintro e w3 ⟨rfl,rfl⟩;go_wp2;go_ret;exact⟨by rw[HR.out];first|rfl|(show Ending.returned (.bool _)=_;simp[n25]),rfl⟩
 have g12:¬((k:Int)=12):=(by omega);have TE:=gY l w;cases hb:dz l with
 |false=>
  rw[hb] at TE;have HR:Hid (aD k l p=false):=(by show _=_;unfold aD;rw[hm,if_neg hnb];simp[k1,k2,k3,k5,k7,k8,k9,k12,hb]);clear hm hnb
  go_in
  go_wp2_with fail;refine TM.mono ?_;clear TM;rintro e w3 ⟨rfl,rfl⟩;go_wp2_with fail;refine TE.mono ?_;clear TE;rintro e w4 ⟨rfl,rfl⟩;go_wp2;go_ret;exact⟨by rw[HR.out];first|rfl|(show Ending.returned (.bool _)=_;simp[g1,g2,g3,g5,g7,g8,g9,g12]),rfl⟩
 |true=>
  rw[hb] at TE;have HR:Hid (aD k l p=true):=(by show _=_;unfold aD;rw[hm,if_neg hnb];simp[k1,k2,k3,k5,k7,k8,k9,k12,hb]);clear hm hnb
  go_in
  go_wp2_with fail;refine TM.mono ?_;clear TM;rintro e w3 ⟨rfl,rfl⟩;go_wp2_with fail;refine TE.mono ?_;clear TE;rintro e w4 ⟨rfl,rfl⟩;go_wp2;go_ret;exact⟨by rw[HR.out];first|rfl|(show Ending.returned (.bool _)=_;simp[g1,g2,g3,g5,g7,g8,g9,g12]),rfl⟩
theorem zD(k l p:Nat)(w:World)(m:Int)(hm:aX k=m)(h0:0<=m)(h1:(p:Int)<m)(TM:Calls Tryz.prog 215 #[.int .u8 k] w (nw m w)):Calls Tryz.prog 217 #[.int .u8 k,.int .u8 l,.int .i64 p] w (jm (aD k l p) w):=by
 have h1':¬(m<=(p:Int)):=(by omega);have hnb:¬(0<=m/\m<=(p:Int)):=(by omega);have p0:¬((p:Int)<0):=(by omega);have p0':(0:Int)<=(p:Int):=(by omega);by_cases k1:k=1
 .subst k1;by_cases l2:l=2
  .subst l2;have HR:Hid (aD 1 2 p=true):=(by show _=_;unfold aD;rw[hm,if_neg hnb];simp[]);clear hm hnb
   go_in
   go_wp2_with fail;refine TM.mono ?_;clear TM;rintro e w3 ⟨rfl,rfl⟩;go_wp2;go_ret;exact⟨by rw[HR.out];first|rfl|(show Ending.returned (.bool _)=_;simp[]),rfl⟩
  have n2:¬((l:Int)=2):=(by omega);have HR:Hid (aD 1 l p=false):=(by show _=_;unfold aD;rw[hm,if_neg hnb];simp[l2]);clear hm hnb
  go_in
  go_wp2_with fail;refine TM.mono ?_;clear TM;rintro e w3 ⟨rfl,rfl⟩;go_wp2;go_ret;exact⟨by rw[HR.out];first|rfl|(show Ending.returned (.bool _)=_;simp[n2]),rfl⟩
 have g1:¬((k:Int)=1):=(by omega);by_cases k2:k=2
 .subst k2;by_cases q0:p=0
  .subst q0;by_cases l3:l=3
   .subst l3;have HR:Hid (aD 2 3 0=true):=(by show _=_;unfold aD;rw[hm,if_neg hnb];simp[]);clear hm hnb
    go_in
    go_wp2_with fail;refine TM.mono ?_;clear TM;rintro e w3 ⟨rfl,rfl⟩;go_wp2;go_ret;exact⟨by rw[HR.out];first|rfl|(show Ending.returned (.bool _)=_;simp[]),rfl⟩
   have n3:¬((l:Int)=3):=(by omega);have HR:Hid (aD 2 l 0=false):=(by show _=_;unfold aD;rw[hm,if_neg hnb];simp[l3]);clear hm hnb
   go_in
   go_wp2_with fail;refine TM.mono ?_;clear TM;rintro e w3 ⟨rfl,rfl⟩;go_wp2;go_ret;exact⟨by rw[HR.out];first|rfl|(show Ending.returned (.bool _)=_;simp[n3]),rfl⟩
  .have r0:¬((p:Int)=0):=(by omega);by_cases q1:p=1
   .subst q1;by_cases l5:l=5
    .subst l5;have HR:Hid (aD 2 5 1=true):=(by show _=_;unfold aD;rw[hm,if_neg hnb];simp[]);clear hm hnb
     go_in
     go_wp2_with fail;refine TM.mono ?_;clear TM;rintro e w3 ⟨rfl,rfl⟩;go_wp2;go_ret;exact⟨by rw[HR.out];first|rfl|(show Ending.returned (.bool _)=_;simp[]),rfl⟩
    have n5:¬((l:Int)=5):=(by omega);have HR:Hid (aD 2 l 1=false):=(by show _=_;unfold aD;rw[hm,if_neg hnb];simp[l5]);clear hm hnb
    go_in
    go_wp2_with fail;refine TM.mono ?_;clear TM;rintro e w3 ⟨rfl,rfl⟩;go_wp2;go_ret;exact⟨by rw[HR.out];first|rfl|(show Ending.returned (.bool _)=_;simp[n5]),rfl⟩
   .have r1:¬((p:Int)=1):=(by omega);have HR:Hid (aD 2 l p=false):=(by show _=_;unfold aD;rw[hm,if_neg hnb];simp[q0,q1]);clear hm hnb
    go_in
    go_wp2_with fail;refine TM.mono ?_;clear TM;rintro e w3 ⟨rfl,rfl⟩;go_wp2;go_ret;exact⟨by rw[HR.out];first|rfl|(show Ending.returned (.bool _)=_;simp[r0,r1]),rfl⟩
 have g2:¬((k:Int)=2):=(by omega);by_cases k3:k=3
 .subst k3;by_cases l4:l=4
  .subst l4;have HR:Hid (aD 3 4 p=true):=(by show _=_;unfold aD;rw[hm,if_neg hnb];simp[]);clear hm hnb
   go_in
   go_wp2_with fail;refine TM.mono ?_;clear TM;rintro e w3 ⟨rfl,rfl⟩;go_wp2;go_ret;exact⟨by rw[HR.out];first|rfl|(show Ending.returned (.bool _)=_;simp[]),rfl⟩
  have n4:¬((l:Int)=4):=(by omega);have HR:Hid (aD 3 l p=false):=(by show _=_;unfold aD;rw[hm,if_neg hnb];simp[l4]);clear hm hnb
  go_in
  go_wp2_with fail;refine TM.mono ?_;clear TM;rintro e w3 ⟨rfl,rfl⟩;go_wp2;go_ret;exact⟨by rw[HR.out];first|rfl|(show Ending.returned (.bool _)=_;simp[n4]),rfl⟩
 have g3:¬((k:Int)=3):=(by omega);by_cases k5:k=5
 .subst k5;have TE:=rR l w;cases hb:fV l with
  |false=>
   rw[hb] at TE;have HR:Hid (aD 5 l p=false):=(by show _=_;unfold aD;rw[hm,if_neg hnb];simp[hb]);clear hm hnb
   go_in
   go_wp2_with fail;refine TM.mono ?_;clear TM;rintro e w3 ⟨rfl,rfl⟩;go_wp2_with fail;refine TE.mono ?_;clear TE;rintro e w4 ⟨rfl,rfl⟩;go_wp2;go_ret;exact⟨by rw[HR.out];first|rfl|(show Ending.returned (.bool _)=_;simp[]),rfl⟩
  |true=>
   rw[hb] at TE;have HR:Hid (aD 5 l p=true):=(by show _=_;unfold aD;rw[hm,if_neg hnb];simp[hb]);clear hm hnb
   go_in
   go_wp2_with fail;refine TM.mono ?_;clear TM;rintro e w3 ⟨rfl,rfl⟩;go_wp2_with fail;refine TE.mono ?_;clear TE;rintro e w4 ⟨rfl,rfl⟩;go_wp2;go_ret;exact⟨by rw[HR.out];first|rfl|(show Ending.returned (.bool _)=_;simp[]),rfl⟩
 have g5:¬((k:Int)=5):=(by omega);by_cases k7:k=7
 .subst k7;by_cases q0:p=0
  .subst q0;by_cases l22:l=22
   .subst l22;have HR:Hid (aD 7 22 0=true):=(by show _=_;unfold aD;rw[hm,if_neg hnb];simp[]);clear hm hnb
    go_in
    go_wp2_with fail;refine TM.mono ?_;clear TM;rintro e w3 ⟨rfl,rfl⟩;go_wp2;go_ret;exact⟨by rw[HR.out];first|rfl|(show Ending.returned (.bool _)=_;simp[]),rfl⟩
   have n22:¬((l:Int)=22):=(by omega);by_cases l26:l=26
   .subst l26;have HR:Hid (aD 7 26 0=true):=(by show _=_;unfold aD;rw[hm,if_neg hnb];simp[l22]);clear hm hnb
    go_in
    go_wp2_with fail;refine TM.mono ?_;clear TM;rintro e w3 ⟨rfl,rfl⟩;go_wp2;go_ret;exact⟨by rw[HR.out];first|rfl|(show Ending.returned (.bool _)=_;simp[n22]),rfl⟩
   have n26:¬((l:Int)=26):=(by omega);have HR:Hid (aD 7 l 0=false):=(by show _=_;unfold aD;rw[hm,if_neg hnb];simp[l22,l26]);clear hm hnb
   go_in
   go_wp2_with fail;refine TM.mono ?_;clear TM;rintro e w3 ⟨rfl,rfl⟩;go_wp2;go_ret;exact⟨by rw[HR.out];first|rfl|(show Ending.returned (.bool _)=_;simp[n22,n26]),rfl⟩
  .have r0:¬((p:Int)=0):=(by omega);by_cases q1:p=1
   .subst q1;have TE:=gY l w;cases hb:dz l with
    |false=>
     rw[hb] at TE;have HR:Hid (aD 7 l 1=false):=(by show _=_;unfold aD;rw[hm,if_neg hnb];simp[hb]);clear hm hnb
     go_in
     go_wp2_with fail;refine TM.mono ?_;clear TM;rintro e w3 ⟨rfl,rfl⟩;go_wp2_with fail;refine TE.mono ?_;clear TE;rintro e w4 ⟨rfl,rfl⟩;go_wp2;go_ret;exact⟨by rw[HR.out];first|rfl|(show Ending.returned (.bool _)=_;simp[]),rfl⟩
    |true=>
     rw[hb] at TE;have HR:Hid (aD 7 l 1=true):=(by show _=_;unfold aD;rw[hm,if_neg hnb];simp[hb]);clear hm hnb
     go_in
     go_wp2_with fail;refine TM.mono ?_;clear TM;rintro e w3 ⟨rfl,rfl⟩;go_wp2_with fail;refine TE.mono ?_;clear TE;rintro e w4 ⟨rfl,rfl⟩;go_wp2;go_ret;exact⟨by rw[HR.out];first|rfl|(show Ending.returned (.bool _)=_;simp[]),rfl⟩
   .have r1:¬((p:Int)=1):=(by omega);have HR:Hid (aD 7 l p=false):=(by show _=_;unfold aD;rw[hm,if_neg hnb];simp[q0,q1]);clear hm hnb
    go_in
    go_wp2_with fail;refine TM.mono ?_;clear TM;rintro e w3 ⟨rfl,rfl⟩;go_wp2;go_ret;exact⟨by rw[HR.out];first|rfl|(show Ending.returned (.bool _)=_;simp[r0,r1]),rfl⟩
 have g7:¬((k:Int)=7):=(by omega);by_cases k8:k=8
 .subst k8;by_cases q0:p=0
  .subst q0;have TE:=gY l w;cases hb:dz l with
   |false=>
    rw[hb] at TE;have HR:Hid (aD 8 l 0=false):=(by show _=_;unfold aD;rw[hm,if_neg hnb];simp[hb]);clear hm hnb
    go_in
    go_wp2_with fail;refine TM.mono ?_;clear TM;rintro e w3 ⟨rfl,rfl⟩;go_wp2_with fail;refine TE.mono ?_;clear TE;rintro e w4 ⟨rfl,rfl⟩;go_wp2;go_ret;exact⟨by rw[HR.out];first|rfl|(show Ending.returned (.bool _)=_;simp[]),rfl⟩
   |true=>
    rw[hb] at TE;have HR:Hid (aD 8 l 0=true):=(by show _=_;unfold aD;rw[hm,if_neg hnb];simp[hb]);clear hm hnb
    go_in
    go_wp2_with fail;refine TM.mono ?_;clear TM;rintro e w3 ⟨rfl,rfl⟩;go_wp2_with fail;refine TE.mono ?_;clear TE;rintro e w4 ⟨rfl,rfl⟩;go_wp2;go_ret;exact⟨by rw[HR.out];first|rfl|(show Ending.returned (.bool _)=_;simp[]),rfl⟩
  .have r0:¬((p:Int)=0):=(by omega);have r2:(0:Int)< (p:Int):=(by omega);have q2:0<p:=(by omega);by_cases l5:l=5
   .subst l5;have HR:Hid (aD 8 5 p=true):=(by show _=_;unfold aD;rw[hm,if_neg hnb];simp[q0,q2]);clear hm hnb
    go_in
    go_wp2_with fail;refine TM.mono ?_;clear TM;rintro e w3 ⟨rfl,rfl⟩;go_wp2;go_ret;exact⟨by rw[HR.out];first|rfl|(show Ending.returned (.bool _)=_;simp[r0,r2]),rfl⟩
   have n5:¬((l:Int)=5):=(by omega);have HR:Hid (aD 8 l p=false):=(by show _=_;unfold aD;rw[hm,if_neg hnb];simp[q0,q2,l5]);clear hm hnb
   go_in
   go_wp2_with fail;refine TM.mono ?_;clear TM;rintro e w3 ⟨rfl,rfl⟩;go_wp2;go_ret;exact⟨by rw[HR.out];first|rfl|(show Ending.returned (.bool _)=_;simp[r0,r2,n5]),rfl⟩
 have g8:¬((k:Int)=8):=(by omega);by_cases k9:k=9
 .subst k9;by_cases q0:p=0
  .subst q0;have TE:=gY l w;cases hb:dz l with
   |false=>
    rw[hb] at TE;have HR:Hid (aD 9 l 0=false):=(by show _=_;unfold aD;rw[hm,if_neg hnb];simp[hb]);clear hm hnb
    go_in
    go_wp2_with fail;refine TM.mono ?_;clear TM;rintro e w3 ⟨rfl,rfl⟩;go_wp2_with fail;refine TE.mono ?_;clear TE;rintro e w4 ⟨rfl,rfl⟩;go_wp2;go_ret;exact⟨by rw[HR.out];first|rfl|(show Ending.returned (.bool _)=_;simp[]),rfl⟩
   |true=>
    rw[hb] at TE;have HR:Hid (aD 9 l 0=true):=(by show _=_;unfold aD;rw[hm,if_neg hnb];simp[hb]);clear hm hnb
    go_in
    go_wp2_with fail;refine TM.mono ?_;clear TM;rintro e w3 ⟨rfl,rfl⟩;go_wp2_with fail;refine TE.mono ?_;clear TE;rintro e w4 ⟨rfl,rfl⟩;go_wp2;go_ret;exact⟨by rw[HR.out];first|rfl|(show Ending.returned (.bool _)=_;simp[]),rfl⟩
  .have r0:¬((p:Int)=0):=(by omega);have r2:(0:Int)< (p:Int):=(by omega);have q2:0<p:=(by omega);by_cases l5:l=5
   .subst l5;have HR:Hid (aD 9 5 p=true):=(by show _=_;unfold aD;rw[hm,if_neg hnb];simp[q0,q2]);clear hm hnb
    go_in
    go_wp2_with fail;refine TM.mono ?_;clear TM;rintro e w3 ⟨rfl,rfl⟩;go_wp2;go_ret;exact⟨by rw[HR.out];first|rfl|(show Ending.returned (.bool _)=_;simp[r0,r2]),rfl⟩
   have n5:¬((l:Int)=5):=(by omega);have HR:Hid (aD 9 l p=false):=(by show _=_;unfold aD;rw[hm,if_neg hnb];simp[q0,q2,l5]);clear hm hnb
   go_in
   go_wp2_with fail;refine TM.mono ?_;clear TM;rintro e w3 ⟨rfl,rfl⟩;go_wp2;go_ret;exact⟨by rw[HR.out];first|rfl|(show Ending.returned (.bool _)=_;simp[r0,r2,n5]),rfl⟩
 have g9:¬((k:Int)=9):=(by omega);by_cases k12:k=12
 .subst k12;by_cases l25:l=25
  .subst l25;have HR:Hid (aD 12 25 p=true):=(by show _=_;unfold aD;rw[hm,if_neg hnb];simp[]);clear hm hnb
   go_in
   go_wp2_with fail;refine TM.mono ?_;clear TM;rintro e w3 ⟨rfl,rfl⟩;go_wp2;go_ret;exact⟨by rw[HR.out];first|rfl|(show Ending.returned (.bool _)=_;simp[]),rfl⟩
  have n25:¬((l:Int)=25):=(by omega);have HR:Hid (aD 12 l p=false):=(by show _=_;unfold aD;rw[hm,if_neg hnb];simp[l25]);clear hm hnb
  go_in
  go_wp2_with fail;refine TM.mono ?_;clear TM;rintro e w3 ⟨rfl,rfl⟩;go_wp2;go_ret;exact⟨by rw[HR.out];first|rfl|(show Ending.returned (.bool _)=_;simp[n25]),rfl⟩
 have g12:¬((k:Int)=12):=(by omega);have TE:=gY l w;cases hb:dz l with
 |false=>
  rw[hb] at TE;have HR:Hid (aD k l p=false):=(by show _=_;unfold aD;rw[hm,if_neg hnb];simp[k1,k2,k3,k5,k7,k8,k9,k12,hb]);clear hm hnb
  go_in
  go_wp2_with fail;refine TM.mono ?_;clear TM;rintro e w3 ⟨rfl,rfl⟩;go_wp2_with fail;refine TE.mono ?_;clear TE;rintro e w4 ⟨rfl,rfl⟩;go_wp2;go_ret;exact⟨by rw[HR.out];first|rfl|(show Ending.returned (.bool _)=_;simp[g1,g2,g3,g5,g7,g8,g9,g12]),rfl⟩
 |true=>
  rw[hb] at TE;have HR:Hid (aD k l p=true):=(by show _=_;unfold aD;rw[hm,if_neg hnb];simp[k1,k2,k3,k5,k7,k8,k9,k12,hb]);clear hm hnb
  go_in
  go_wp2_with fail;refine TM.mono ?_;clear TM;rintro e w3 ⟨rfl,rfl⟩;go_wp2_with fail;refine TE.mono ?_;clear TE;rintro e w4 ⟨rfl,rfl⟩;go_wp2;go_ret;exact⟨by rw[HR.out];first|rfl|(show Ending.returned (.bool _)=_;simp[g1,g2,g3,g5,g7,g8,g9,g12]),rfl⟩
theorem rI(k l p:Nat)(w:World):Calls Tryz.prog 217 #[.int .u8 k,.int .u8 l,.int .i64 p] w (jm (aD k l p) w):=by
 have TM:=rL k w;by_cases h0:aX k<0
 .exact zE k l p w _ rfl h0 TM
 .by_cases h1:(p:Int)<aX k
  .exact zD k l p w _ rfl (by omega) h1 TM
  .have HR:Hid (aD k l p=false):=(by show _=_;unfold aD;rw[if_pos ⟨by omega,by omega⟩]);generalize hm:aX k=m at*;clear hm;have h2:0<=m:=(by omega);have h3:m<=(p:Int):=(by omega);have p0:¬((p:Int)<0):=by omega
   go_in
   go_wp2_with fail;refine TM.mono ?_;clear TM;rintro e w3 ⟨rfl,rfl⟩;go_wp2;go_ret;exact⟨by rw[HR.out];rfl,rfl⟩
end Go.Proofs.YtlkmefhogabgdaaGreatDoor
