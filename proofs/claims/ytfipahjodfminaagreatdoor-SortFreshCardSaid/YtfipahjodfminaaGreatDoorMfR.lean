/- Part 18 of the proof. -/
import Derived.Deep.Cut
import Derived.Test.YtfipahjodfminaaGreatDoorMfQ
namespace Go.Proofs.YtfipahjodfminaaGreatDoor
open Go.RowKit
set_option linter.all false
set_option maxHeartbeats 40000000
set_option maxRecDepth 100000
theorem zE(k l p:Nat)(w:World)(m:Int)(hm:aX k=m)(h0:m<0)(TM:Calls Tryz.prog 193 #[.int .u8 k] w (nw m w)):Calls Tryz.prog 195 #[.int .u8 k,.int .u8 l,.int .i64 p] w (jm (aD k l p) w):=by
 have h0':¬(0<=m):=(by omega);have hnb:¬(0<=m/\m<=(p:Int)):=(by omega);have p0:¬((p:Int)<0):=(by omega);have p0':(0:Int)<=(p:Int):=(by omega);by_cases k1:k=1
 .subst k1;by_cases l2:l=2
  .subst l2;have HR:Hid (aD 1 2 p=true):=(by show _=_;unfold aD;rw[hm,if_neg hnb];simp[]);clear hm hnb
   go_in
   go_wp2_with fail;refine TM.mono ?_;clear TM;rintro e w3 ⟨rfl,rfl⟩;go_wp2;go_ret;exact⟨by rw[HR.out];first|rfl|(show Ending.returned (.bool _)=_;simp[]),rfl⟩
  have n2:¬((l:Int)=2):=(by omega);have HR:Hid (aD 1 l p=false):=(by show _=_;unfold aD;rw[hm,if_neg hnb];simp[l2]);clear hm hnb
  go_in
  go_wp2_with fail;refine TM.mono ?_;clear TM;rintro e w3 ⟨rfl,rfl⟩;go_wp2;go_ret;exact⟨by rw[HR.out];first|rfl|(show Ending.returned (.bool _)=_;simp[n2]),rfl⟩
 have g1:¬((k:Int)=1):=(by omega);by_cases k2:k=2
 .subst k2;by_cases q0:p=0
  .subst q0;by_cases l3:l=3
   .subst l3;have HR:Hid (aD 2 3 0=true):=(by show _=_;unfold aD;rw[hm,if_neg hnb];simp[]);clear hm hnb
    go_in
    go_wp2_with fail;refine TM.mono ?_;clear TM;rintro e w3 ⟨rfl,rfl⟩;go_wp2;go_ret;exact⟨by rw[HR.out];first|rfl|(show Ending.returned (.bool _)=_;simp[]),rfl⟩
   have n3:¬((l:Int)=3):=(by omega);have HR:Hid (aD 2 l 0=false):=(by show _=_;unfold aD;rw[hm,if_neg hnb];simp[l3]);clear hm hnb
   go_in
   go_wp2_with fail;refine TM.mono ?_;clear TM;rintro e w3 ⟨rfl,rfl⟩;go_wp2;go_ret;exact⟨by rw[HR.out];first|rfl|(show Ending.returned (.bool _)=_;simp[n3]),rfl⟩
  .have r0:¬((p:Int)=0):=(by omega);by_cases q1:p=1
   .subst q1;by_cases l5:l=5
    .subst l5;have HR:Hid (aD 2 5 1=true):=(by show _=_;unfold aD;rw[hm,if_neg hnb];simp[]);clear hm hnb
     go_in
     go_wp2_with fail;refine TM.mono ?_;clear TM;rintro e w3 ⟨rfl,rfl⟩;go_wp2;go_ret;exact⟨by rw[HR.out];first|rfl|(show Ending.returned (.bool _)=_;simp[]),rfl⟩
    have n5:¬((l:Int)=5):=(by omega);have HR:Hid (aD 2 l 1=false):=(by show _=_;unfold aD;rw[hm,if_neg hnb];simp[l5]);clear hm hnb
    go_in
    go_wp2_with fail;refine TM.mono ?_;clear TM;rintro e w3 ⟨rfl,rfl⟩;go_wp2;go_ret;exact⟨by rw[HR.out];first|rfl|(show Ending.returned (.bool _)=_;simp[n5]),rfl⟩
   .have r1:¬((p:Int)=1):=(by omega);have HR:Hid (aD 2 l p=false):=(by show _=_;unfold aD;rw[hm,if_neg hnb];simp[q0,q1]);clear hm hnb
    go_in
    go_wp2_with fail;refine TM.mono ?_;clear TM;rintro e w3 ⟨rfl,rfl⟩;go_wp2;go_ret;exact⟨by rw[HR.out];first|rfl|(show Ending.returned (.bool _)=_;simp[r0,r1]),rfl⟩
 have g2:¬((k:Int)=2):=(by omega);by_cases k3:k=3
 .subst k3;by_cases l4:l=4
  .subst l4;have HR:Hid (aD 3 4 p=true):=(by show _=_;unfold aD;rw[hm,if_neg hnb];simp[]);clear hm hnb
   go_in
   go_wp2_with fail;refine TM.mono ?_;clear TM;rintro e w3 ⟨rfl,rfl⟩;go_wp2;go_ret;exact⟨by rw[HR.out];first|rfl|(show Ending.returned (.bool _)=_;simp[]),rfl⟩
  have n4:¬((l:Int)=4):=(by omega);have HR:Hid (aD 3 l p=false):=(by show _=_;unfold aD;rw[hm,if_neg hnb];simp[l4]);clear hm hnb
  go_in
  go_wp2_with fail;refine TM.mono ?_;clear TM;rintro e w3 ⟨rfl,rfl⟩;go_wp2;go_ret;exact⟨by rw[HR.out];first|rfl|(show Ending.returned (.bool _)=_;simp[n4]),rfl⟩
 have g3:¬((k:Int)=3):=(by omega);by_cases k5:k=5
 .subst k5;have TE:=rR l w;cases hb:fV l with
  |false=>
   rw[hb] at TE;have HR:Hid (aD 5 l p=false):=(by show _=_;unfold aD;rw[hm,if_neg hnb];simp[hb]);clear hm hnb
   go_in
   go_wp2_with fail;refine TM.mono ?_;clear TM;rintro e w3 ⟨rfl,rfl⟩;go_wp2_with fail;refine TE.mono ?_;clear TE;rintro e w4 ⟨rfl,rfl⟩;go_wp2;go_ret;exact⟨by rw[HR.out];first|rfl|(show Ending.returned (.bool _)=_;simp[]),rfl⟩
  |true=>
   rw[hb] at TE;have HR:Hid (aD 5 l p=true):=(by show _=_;unfold aD;rw[hm,if_neg hnb];simp[hb]);clear hm hnb
   go_in
   go_wp2_with fail;refine TM.mono ?_;clear TM;rintro e w3 ⟨rfl,rfl⟩;go_wp2_with fail;refine TE.mono ?_;clear TE;rintro e w4 ⟨rfl,rfl⟩;go_wp2;go_ret;exact⟨by rw[HR.out];first|rfl|(show Ending.returned (.bool _)=_;simp[]),rfl⟩
 have g5:¬((k:Int)=5):=(by omega);by_cases k7:k=7
 .subst k7;by_cases q0:p=0
  .subst q0;by_cases l22:l=22
   .subst l22;have HR:Hid (aD 7 22 0=true):=(by show _=_;unfold aD;rw[hm,if_neg hnb];simp[]);clear hm hnb
    go_in
    go_wp2_with fail;refine TM.mono ?_;clear TM;rintro e w3 ⟨rfl,rfl⟩;go_wp2;go_ret;exact⟨by rw[HR.out];first|rfl|(show Ending.returned (.bool _)=_;simp[]),rfl⟩
   have n22:¬((l:Int)=22):=(by omega);by_cases l26:l=26
   .subst l26;have HR:Hid (aD 7 26 0=true):=(by show _=_;unfold aD;rw[hm,if_neg hnb];simp[l22]);clear hm hnb
    go_in
    go_wp2_with fail;refine TM.mono ?_;clear TM;rintro e w3 ⟨rfl,rfl⟩;go_wp2;go_ret;exact⟨by rw[HR.out];first|rfl|(show Ending.returned (.bool _)=_;simp[n22]),rfl⟩
   have n26:¬((l:Int)=26):=(by omega);have HR:Hid (aD 7 l 0=false):=(by show _=_;unfold aD;rw[hm,if_neg hnb];simp[l22,l26]);clear hm hnb
   go_in
   go_wp2_with fail;refine TM.mono ?_;clear TM;rintro e w3 ⟨rfl,rfl⟩;go_wp2;go_ret;exact⟨by rw[HR.out];first|rfl|(show Ending.returned (.bool _)=_;simp[n22,n26]),rfl⟩
  .have r0:¬((p:Int)=0):=(by omega);by_cases q1:p=1
   .subst q1;have TE:=gY l w;cases hb:dz l with
    |false=>
     rw[hb] at TE;have HR:Hid (aD 7 l 1=false):=(by show _=_;unfold aD;rw[hm,if_neg hnb];simp[hb]);clear hm hnb
     go_in
     go_wp2_with fail;refine TM.mono ?_;clear TM;rintro e w3 ⟨rfl,rfl⟩;go_wp2_with fail;refine TE.mono ?_;clear TE;rintro e w4 ⟨rfl,rfl⟩;go_wp2;go_ret;exact⟨by rw[HR.out];first|rfl|(show Ending.returned (.bool _)=_;simp[]),rfl⟩
    |true=>
     rw[hb] at TE;have HR:Hid (aD 7 l 1=true):=(by show _=_;unfold aD;rw[hm,if_neg hnb];simp[hb]);clear hm hnb
     go_in
     go_wp2_with fail;refine TM.mono ?_;clear TM;rintro e w3 ⟨rfl,rfl⟩;go_wp2_with fail;refine TE.mono ?_;clear TE;rintro e w4 ⟨rfl,rfl⟩;go_wp2;go_ret;exact⟨by rw[HR.out];first|rfl|(show Ending.returned (.bool _)=_;simp[]),rfl⟩
   .have r1:¬((p:Int)=1):=(by omega);have HR:Hid (aD 7 l p=false):=(by show _=_;unfold aD;rw[hm,if_neg hnb];simp[q0,q1]);clear hm hnb
    go_in
    go_wp2_with fail;refine TM.mono ?_;clear TM;rintro e w3 ⟨rfl,rfl⟩;go_wp2;go_ret;exact⟨by rw[HR.out];first|rfl|(show Ending.returned (.bool _)=_;simp[r0,r1]),rfl⟩
 have g7:¬((k:Int)=7):=(by omega);by_cases k8:k=8
 .subst k8;by_cases q0:p=0
  .subst q0;have TE:=gY l w;cases hb:dz l with
   |false=>
    rw[hb] at TE;have HR:Hid (aD 8 l 0=false):=(by show _=_;unfold aD;rw[hm,if_neg hnb];simp[hb]);clear hm hnb
    go_in
    go_wp2_with fail;refine TM.mono ?_;clear TM;rintro e w3 ⟨rfl,rfl⟩;go_wp2_with fail;refine TE.mono ?_;clear TE;rintro e w4 ⟨rfl,rfl⟩;go_wp2;go_ret;exact⟨by rw[HR.out];first|rfl|(show Ending.returned (.bool _)=_;simp[]),rfl⟩
   |true=>
    rw[hb] at TE;have HR:Hid (aD 8 l 0=true):=(by show _=_;unfold aD;rw[hm,if_neg hnb];simp[hb]);clear hm hnb
    go_in
    go_wp2_with fail;refine TM.mono ?_;clear TM;rintro e w3 ⟨rfl,rfl⟩;go_wp2_with fail;refine TE.mono ?_;clear TE;rintro e w4 ⟨rfl,rfl⟩;go_wp2;go_ret;exact⟨by rw[HR.out];first|rfl|(show Ending.returned (.bool _)=_;simp[]),rfl⟩
  .have r0:¬((p:Int)=0):=(by omega);have r2:(0:Int)< (p:Int):=(by omega);have q2:0<p:=(by omega);by_cases l5:l=5
   .subst l5;have HR:Hid (aD 8 5 p=true):=(by show _=_;unfold aD;rw[hm,if_neg hnb];simp[q0,q2]);clear hm hnb
    go_in
    go_wp2_with fail;refine TM.mono ?_;clear TM;rintro e w3 ⟨rfl,rfl⟩;go_wp2;go_ret;exact⟨by rw[HR.out];first|rfl|(show Ending.returned (.bool _)=_;simp[r0,r2]),rfl⟩
   have n5:¬((l:Int)=5):=(by omega);have HR:Hid (aD 8 l p=false):=(by show _=_;unfold aD;rw[hm,if_neg hnb];simp[q0,q2,l5]);clear hm hnb
   go_in
   go_wp2_with fail;refine TM.mono ?_;clear TM;rintro e w3 ⟨rfl,rfl⟩;go_wp2;go_ret;exact⟨by rw[HR.out];first|rfl|(show Ending.returned (.bool _)=_;simp[r0,r2,n5]),rfl⟩
 have g8:¬((k:Int)=8):=(by omega);by_cases k9:k=9
 .subst k9;by_cases q0:p=0
  .subst q0;have TE:=gY l w;cases hb:dz l with
   |false=>
    rw[hb] at TE;have HR:Hid (aD 9 l 0=false):=(by show _=_;unfold aD;rw[hm,if_neg hnb];simp[hb]);clear hm hnb
    go_in
    go_wp2_with fail;refine TM.mono ?_;clear TM;rintro e w3 ⟨rfl,rfl⟩;go_wp2_with fail;refine TE.mono ?_;clear TE;rintro e w4 ⟨rfl,rfl⟩;go_wp2;go_ret;exact⟨by rw[HR.out];first|rfl|(show Ending.returned (.bool _)=_;simp[]),rfl⟩
   |true=>
    rw[hb] at TE;have HR:Hid (aD 9 l 0=true):=(by show _=_;unfold aD;rw[hm,if_neg hnb];simp[hb]);clear hm hnb
    go_in
    go_wp2_with fail;refine TM.mono ?_;clear TM;rintro e w3 ⟨rfl,rfl⟩;go_wp2_with fail;refine TE.mono ?_;clear TE;rintro e w4 ⟨rfl,rfl⟩;go_wp2;go_ret;exact⟨by rw[HR.out];first|rfl|(show Ending.returned (.bool _)=_;simp[]),rfl⟩
  .have r0:¬((p:Int)=0):=(by omega);have r2:(0:Int)< (p:Int):=(by omega);have q2:0<p:=(by omega);by_cases l5:l=5
   .subst l5;have HR:Hid (aD 9 5 p=true):=(by show _=_;unfold aD;rw[hm,if_neg hnb];simp[q0,q2]);clear hm hnb
    go_in
    go_wp2_with fail;refine TM.mono ?_;clear TM;rintro e w3 ⟨rfl,rfl⟩;go_wp2;go_ret;exact⟨by rw[HR.out];first|rfl|(show Ending.returned (.bool _)=_;simp[r0,r2]),rfl⟩
   have n5:¬((l:Int)=5):=(by omega);have HR:Hid (aD 9 l p=false):=(by show _=_;unfold aD;rw[hm,if_neg hnb];simp[q0,q2,l5]);clear hm hnb
   go_in
   go_wp2_with fail;refine TM.mono ?_;clear TM;rintro e w3 ⟨rfl,rfl⟩;go_wp2;go_ret;exact⟨by rw[HR.out];first|rfl|(show Ending.returned (.bool _)=_;simp[r0,r2,n5]),rfl⟩
 have g9:¬((k:Int)=9):=(by omega);by_cases k12:k=12
 .subst k12;by_cases l25:l=25
  .subst l25;have HR:Hid (aD 12 25 p=true):=(by show _=_;unfold aD;rw[hm,if_neg hnb];simp[]);clear hm hnb
   go_in
   go_wp2_with fail;refine TM.mono ?_;clear TM;rintro e w3 ⟨rfl,rfl⟩;go_wp2;go_ret;exact⟨by rw[HR.out];first|rfl|(show Ending.returned (.bool _)=_;simp[]),rfl⟩
  have n25:¬((l:Int)=25):=(by omega);have HR:Hid (aD 12 l p=false):=(by show _=_;unfold aD;rw[hm,if_neg hnb];simp[l25]);clear hm hnb
  go_in
  go_wp2_with fail;refine TM.mono ?_;clear TM;rintro e w3 ⟨rfl,rfl⟩;go_wp2;go_ret;exact⟨by rw[HR.out];first|rfl|(show Ending.returned (.bool _)=_;simp[n25]),rfl⟩
 have g12:¬((k:Int)=12):=(by omega);have TE:=gY l w;cases hb:dz l with
 |false=>
  rw[hb] at TE;have HR:Hid (aD k l p=false):=(by show _=_;unfold aD;rw[hm,if_neg hnb];simp[k1,k2,k3,k5,k7,k8,k9,k12,hb]);clear hm hnb
  go_in
  go_wp2_with fail;refine TM.mono ?_;clear TM;rintro e w3 ⟨rfl,rfl⟩;go_wp2_with fail;refine TE.mono ?_;clear TE;rintro e w4 ⟨rfl,rfl⟩;go_wp2;go_ret;exact⟨by rw[HR.out];first|rfl|(show Ending.returned (.bool _)=_;simp[g1,g2,g3,g5,g7,g8,g9,g12]),rfl⟩
 |true=>
  rw[hb] at TE;have HR:Hid (aD k l p=true):=(by show _=_;unfold aD;rw[hm,if_neg hnb];simp[k1,k2,k3,k5,k7,k8,k9,k12,hb]);clear hm hnb
  go_in
  go_wp2_with fail;refine TM.mono ?_;clear TM;rintro e w3 ⟨rfl,rfl⟩;go_wp2_with fail;refine TE.mono ?_;clear TE;rintro e w4 ⟨rfl,rfl⟩;go_wp2;go_ret;exact⟨by rw[HR.out];first|rfl|(show Ending.returned (.bool _)=_;simp[g1,g2,g3,g5,g7,g8,g9,g12]),rfl⟩
theorem zD(k l p:Nat)(w:World)(m:Int)(hm:aX k=m)(h0:0<=m)(h1:(p:Int)<m)(TM:Calls Tryz.prog 193 #[.int .u8 k] w (nw m w)):Calls Tryz.prog 195 #[.int .u8 k,.int .u8 l,.int .i64 p] w (jm (aD k l p) w):=by
 have h1':¬(m<=(p:Int)):=(by omega);have hnb:¬(0<=m/\m<=(p:Int)):=(by omega);have p0:¬((p:Int)<0):=(by omega);have p0':(0:Int)<=(p:Int):=(by omega);by_cases k1:k=1
 .subst k1;by_cases l2:l=2
  .subst l2;have HR:Hid (aD 1 2 p=true):=(by show _=_;unfold aD;rw[hm,if_neg hnb];simp[]);clear hm hnb
   go_in
   go_wp2_with fail;refine TM.mono ?_;clear TM;rintro e w3 ⟨rfl,rfl⟩;go_wp2;go_ret;exact⟨by rw[HR.out];first|rfl|(show Ending.returned (.bool _)=_;simp[]),rfl⟩
  have n2:¬((l:Int)=2):=(by omega);have HR:Hid (aD 1 l p=false):=(by show _=_;unfold aD;rw[hm,if_neg hnb];simp[l2]);clear hm hnb
  go_in
  go_wp2_with fail;refine TM.mono ?_;clear TM;rintro e w3 ⟨rfl,rfl⟩;go_wp2;go_ret;exact⟨by rw[HR.out];first|rfl|(show Ending.returned (.bool _)=_;simp[n2]),rfl⟩
 have g1:¬((k:Int)=1):=(by omega);by_cases k2:k=2
 .subst k2;by_cases q0:p=0
  .subst q0;by_cases l3:l=3
   .subst l3;have HR:Hid (aD 2 3 0=true):=(by show _=_;unfold aD;rw[hm,if_neg hnb];simp[]);clear hm hnb
    go_in
    go_wp2_with fail;refine TM.mono ?_;clear TM;rintro e w3 ⟨rfl,rfl⟩;go_wp2;go_ret;exact⟨by rw[HR.out];first|rfl|(show Ending.returned (.bool _)=_;simp[]),rfl⟩
   have n3:¬((l:Int)=3):=(by omega);have HR:Hid (aD 2 l 0=false):=(by show _=_;unfold aD;rw[hm,if_neg hnb];simp[l3]);clear hm hnb
   go_in
   go_wp2_with fail;refine TM.mono ?_;clear TM;rintro e w3 ⟨rfl,rfl⟩;go_wp2;go_ret;exact⟨by rw[HR.out];first|rfl|(show Ending.returned (.bool _)=_;simp[n3]),rfl⟩
  .have r0:¬((p:Int)=0):=(by omega);by_cases q1:p=1
   .subst q1;by_cases l5:l=5
    .subst l5;have HR:Hid (aD 2 5 1=true):=(by show _=_;unfold aD;rw[hm,if_neg hnb];simp[]);clear hm hnb
     go_in
     go_wp2_with fail;refine TM.mono ?_;clear TM;rintro e w3 ⟨rfl,rfl⟩;go_wp2;go_ret;exact⟨by rw[HR.out];first|rfl|(show Ending.returned (.bool _)=_;simp[]),rfl⟩
    have n5:¬((l:Int)=5):=(by omega);have HR:Hid (aD 2 l 1=false):=(by show _=_;unfold aD;rw[hm,if_neg hnb];simp[l5]);clear hm hnb
    go_in
    go_wp2_with fail;refine TM.mono ?_;clear TM;rintro e w3 ⟨rfl,rfl⟩;go_wp2;go_ret;exact⟨by rw[HR.out];first|rfl|(show Ending.returned (.bool _)=_;simp[n5]),rfl⟩
   .have r1:¬((p:Int)=1):=(by omega);have HR:Hid (aD 2 l p=false):=(by show _=_;unfold aD;rw[hm,if_neg hnb];simp[q0,q1]);clear hm hnb
    go_in
    go_wp2_with fail;refine TM.mono ?_;clear TM;rintro e w3 ⟨rfl,rfl⟩;go_wp2;go_ret;exact⟨by rw[HR.out];first|rfl|(show Ending.returned (.bool _)=_;simp[r0,r1]),rfl⟩
 have g2:¬((k:Int)=2):=(by omega);by_cases k3:k=3
 .subst k3;by_cases l4:l=4
  .subst l4;have HR:Hid (aD 3 4 p=true):=(by show _=_;unfold aD;rw[hm,if_neg hnb];simp[]);clear hm hnb
   go_in
   go_wp2_with fail;refine TM.mono ?_;clear TM;rintro e w3 ⟨rfl,rfl⟩;go_wp2;go_ret;exact⟨by rw[HR.out];first|rfl|(show Ending.returned (.bool _)=_;simp[]),rfl⟩
  have n4:¬((l:Int)=4):=(by omega);have HR:Hid (aD 3 l p=false):=(by show _=_;unfold aD;rw[hm,if_neg hnb];simp[l4]);clear hm hnb
  go_in
  go_wp2_with fail;refine TM.mono ?_;clear TM;rintro e w3 ⟨rfl,rfl⟩;go_wp2;go_ret;exact⟨by rw[HR.out];first|rfl|(show Ending.returned (.bool _)=_;simp[n4]),rfl⟩
 have g3:¬((k:Int)=3):=(by omega);by_cases k5:k=5
 .subst k5;have TE:=rR l w;cases hb:fV l with
  |false=>
   rw[hb] at TE;have HR:Hid (aD 5 l p=false):=(by show _=_;unfold aD;rw[hm,if_neg hnb];simp[hb]);clear hm hnb
   go_in
   go_wp2_with fail;refine TM.mono ?_;clear TM;rintro e w3 ⟨rfl,rfl⟩;go_wp2_with fail;refine TE.mono ?_;clear TE;rintro e w4 ⟨rfl,rfl⟩;go_wp2;go_ret;exact⟨by rw[HR.out];first|rfl|(show Ending.returned (.bool _)=_;simp[]),rfl⟩
  |true=>
   rw[hb] at TE;have HR:Hid (aD 5 l p=true):=(by show _=_;unfold aD;rw[hm,if_neg hnb];simp[hb]);clear hm hnb
   go_in
   go_wp2_with fail;refine TM.mono ?_;clear TM;rintro e w3 ⟨rfl,rfl⟩;go_wp2_with fail;refine TE.mono ?_;clear TE;rintro e w4 ⟨rfl,rfl⟩;go_wp2;go_ret;exact⟨by rw[HR.out];first|rfl|(show Ending.returned (.bool _)=_;simp[]),rfl⟩
 have g5:¬((k:Int)=5):=(by omega);by_cases k7:k=7
 .subst k7;by_cases q0:p=0
  .subst q0;by_cases l22:l=22
   .subst l22;have HR:Hid (aD 7 22 0=true):=(by show _=_;unfold aD;rw[hm,if_neg hnb];simp[]);clear hm hnb
    go_in
    go_wp2_with fail;refine TM.mono ?_;clear TM;rintro e w3 ⟨rfl,rfl⟩;go_wp2;go_ret;exact⟨by rw[HR.out];first|rfl|(show Ending.returned (.bool _)=_;simp[]),rfl⟩
   have n22:¬((l:Int)=22):=(by omega);by_cases l26:l=26
   .subst l26;have HR:Hid (aD 7 26 0=true):=(by show _=_;unfold aD;rw[hm,if_neg hnb];simp[l22]);clear hm hnb
    go_in
    go_wp2_with fail;refine TM.mono ?_;clear TM;rintro e w3 ⟨rfl,rfl⟩;go_wp2;go_ret;exact⟨by rw[HR.out];first|rfl|(show Ending.returned (.bool _)=_;simp[n22]),rfl⟩
   have n26:¬((l:Int)=26):=(by omega);have HR:Hid (aD 7 l 0=false):=(by show _=_;unfold aD;rw[hm,if_neg hnb];simp[l22,l26]);clear hm hnb
   go_in
   go_wp2_with fail;refine TM.mono ?_;clear TM;rintro e w3 ⟨rfl,rfl⟩;go_wp2;go_ret;exact⟨by rw[HR.out];first|rfl|(show Ending.returned (.bool _)=_;simp[n22,n26]),rfl⟩
  .have r0:¬((p:Int)=0):=(by omega);by_cases q1:p=1
   .subst q1;have TE:=gY l w;cases hb:dz l with
    |false=>
     rw[hb] at TE;have HR:Hid (aD 7 l 1=false):=(by show _=_;unfold aD;rw[hm,if_neg hnb];simp[hb]);clear hm hnb
     go_in
     go_wp2_with fail;refine TM.mono ?_;clear TM;rintro e w3 ⟨rfl,rfl⟩;go_wp2_with fail;refine TE.mono ?_;clear TE;rintro e w4 ⟨rfl,rfl⟩;go_wp2;go_ret;exact⟨by rw[HR.out];first|rfl|(show Ending.returned (.bool _)=_;simp[]),rfl⟩
    |true=>
     rw[hb] at TE;have HR:Hid (aD 7 l 1=true):=(by show _=_;unfold aD;rw[hm,if_neg hnb];simp[hb]);clear hm hnb
     go_in
     go_wp2_with fail;refine TM.mono ?_;clear TM;rintro e w3 ⟨rfl,rfl⟩;go_wp2_with fail;refine TE.mono ?_;clear TE;rintro e w4 ⟨rfl,rfl⟩;go_wp2;go_ret;exact⟨by rw[HR.out];first|rfl|(show Ending.returned (.bool _)=_;simp[]),rfl⟩
   .have r1:¬((p:Int)=1):=(by omega);have HR:Hid (aD 7 l p=false):=(by show _=_;unfold aD;rw[hm,if_neg hnb];simp[q0,q1]);clear hm hnb
    go_in
    go_wp2_with fail;refine TM.mono ?_;clear TM;rintro e w3 ⟨rfl,rfl⟩;go_wp2;go_ret;exact⟨by rw[HR.out];first|rfl|(show Ending.returned (.bool _)=_;simp[r0,r1]),rfl⟩
 have g7:¬((k:Int)=7):=(by omega);by_cases k8:k=8
 .subst k8;by_cases q0:p=0
  .subst q0;have TE:=gY l w;cases hb:dz l with
   |false=>
    rw[hb] at TE;have HR:Hid (aD 8 l 0=false):=(by show _=_;unfold aD;rw[hm,if_neg hnb];simp[hb]);clear hm hnb
    go_in
    go_wp2_with fail;refine TM.mono ?_;clear TM;rintro e w3 ⟨rfl,rfl⟩;go_wp2_with fail;refine TE.mono ?_;clear TE;rintro e w4 ⟨rfl,rfl⟩;go_wp2;go_ret;exact⟨by rw[HR.out];first|rfl|(show Ending.returned (.bool _)=_;simp[]),rfl⟩
   |true=>
    rw[hb] at TE;have HR:Hid (aD 8 l 0=true):=(by show _=_;unfold aD;rw[hm,if_neg hnb];simp[hb]);clear hm hnb
    go_in
    go_wp2_with fail;refine TM.mono ?_;clear TM;rintro e w3 ⟨rfl,rfl⟩;go_wp2_with fail;refine TE.mono ?_;clear TE;rintro e w4 ⟨rfl,rfl⟩;go_wp2;go_ret;exact⟨by rw[HR.out];first|rfl|(show Ending.returned (.bool _)=_;simp[]),rfl⟩
  .have r0:¬((p:Int)=0):=(by omega);have r2:(0:Int)< (p:Int):=(by omega);have q2:0<p:=(by omega);by_cases l5:l=5
   .subst l5;have HR:Hid (aD 8 5 p=true):=(by show _=_;unfold aD;rw[hm,if_neg hnb];simp[q0,q2]);clear hm hnb
    go_in
    go_wp2_with fail;refine TM.mono ?_;clear TM;rintro e w3 ⟨rfl,rfl⟩;go_wp2;go_ret;exact⟨by rw[HR.out];first|rfl|(show Ending.returned (.bool _)=_;simp[r0,r2]),rfl⟩
   have n5:¬((l:Int)=5):=(by omega);have HR:Hid (aD 8 l p=false):=(by show _=_;unfold aD;rw[hm,if_neg hnb];simp[q0,q2,l5]);clear hm hnb
   go_in
   go_wp2_with fail;refine TM.mono ?_;clear TM;rintro e w3 ⟨rfl,rfl⟩;go_wp2;go_ret;exact⟨by rw[HR.out];first|rfl|(show Ending.returned (.bool _)=_;simp[r0,r2,n5]),rfl⟩
 have g8:¬((k:Int)=8):=(by omega);by_cases k9:k=9
 .subst k9;by_cases q0:p=0
  .subst q0;have TE:=gY l w;cases hb:dz l with
   |false=>
    rw[hb] at TE;have HR:Hid (aD 9 l 0=false):=(by show _=_;unfold aD;rw[hm,if_neg hnb];simp[hb]);clear hm hnb
    go_in
    go_wp2_with fail;refine TM.mono ?_;clear TM;rintro e w3 ⟨rfl,rfl⟩;go_wp2_with fail;refine TE.mono ?_;clear TE;rintro e w4 ⟨rfl,rfl⟩;go_wp2;go_ret;exact⟨by rw[HR.out];first|rfl|(show Ending.returned (.bool _)=_;simp[]),rfl⟩
   |true=>
    rw[hb] at TE;have HR:Hid (aD 9 l 0=true):=(by show _=_;unfold aD;rw[hm,if_neg hnb];simp[hb]);clear hm hnb
    go_in
    go_wp2_with fail;refine TM.mono ?_;clear TM;rintro e w3 ⟨rfl,rfl⟩;go_wp2_with fail;refine TE.mono ?_;clear TE;rintro e w4 ⟨rfl,rfl⟩;go_wp2;go_ret;exact⟨by rw[HR.out];first|rfl|(show Ending.returned (.bool _)=_;simp[]),rfl⟩
  .have r0:¬((p:Int)=0):=(by omega);have r2:(0:Int)< (p:Int):=(by omega);have q2:0<p:=(by omega);by_cases l5:l=5
   .subst l5;have HR:Hid (aD 9 5 p=true):=(by show _=_;unfold aD;rw[hm,if_neg hnb];simp[q0,q2]);clear hm hnb
    go_in
    go_wp2_with fail;refine TM.mono ?_;clear TM;rintro e w3 ⟨rfl,rfl⟩;go_wp2;go_ret;exact⟨by rw[HR.out];first|rfl|(show Ending.returned (.bool _)=_;simp[r0,r2]),rfl⟩
   have n5:¬((l:Int)=5):=(by omega);have HR:Hid (aD 9 l p=false):=(by show _=_;unfold aD;rw[hm,if_neg hnb];simp[q0,q2,l5]);clear hm hnb
   go_in
   go_wp2_with fail;refine TM.mono ?_;clear TM;rintro e w3 ⟨rfl,rfl⟩;go_wp2;go_ret;exact⟨by rw[HR.out];first|rfl|(show Ending.returned (.bool _)=_;simp[r0,r2,n5]),rfl⟩
 have g9:¬((k:Int)=9):=(by omega);by_cases k12:k=12
 .subst k12;by_cases l25:l=25
  .subst l25;have HR:Hid (aD 12 25 p=true):=(by show _=_;unfold aD;rw[hm,if_neg hnb];simp[]);clear hm hnb
   go_in
   go_wp2_with fail;refine TM.mono ?_;clear TM;rintro e w3 ⟨rfl,rfl⟩;go_wp2;go_ret;exact⟨by rw[HR.out];first|rfl|(show Ending.returned (.bool _)=_;simp[]),rfl⟩
  have n25:¬((l:Int)=25):=(by omega);have HR:Hid (aD 12 l p=false):=(by show _=_;unfold aD;rw[hm,if_neg hnb];simp[l25]);clear hm hnb
  go_in
  go_wp2_with fail;refine TM.mono ?_;clear TM;rintro e w3 ⟨rfl,rfl⟩;go_wp2;go_ret;exact⟨by rw[HR.out];first|rfl|(show Ending.returned (.bool _)=_;simp[n25]),rfl⟩
 have g12:¬((k:Int)=12):=(by omega);have TE:=gY l w;cases hb:dz l with
 |false=>
  rw[hb] at TE;have HR:Hid (aD k l p=false):=(by show _=_;unfold aD;rw[hm,if_neg hnb];simp[k1,k2,k3,k5,k7,k8,k9,k12,hb]);clear hm hnb
  go_in
  go_wp2_with fail;refine TM.mono ?_;clear TM;rintro e w3 ⟨rfl,rfl⟩;go_wp2_with fail;refine TE.mono ?_;clear TE;rintro e w4 ⟨rfl,rfl⟩;go_wp2;go_ret;exact⟨by rw[HR.out];first|rfl|(show Ending.returned (.bool _)=_;simp[g1,g2,g3,g5,g7,g8,g9,g12]),rfl⟩
 |true=>
  rw[hb] at TE;have HR:Hid (aD k l p=true):=(by show _=_;unfold aD;rw[hm,if_neg hnb];simp[k1,k2,k3,k5,k7,k8,k9,k12,hb]);clear hm hnb
  go_in
  go_wp2_with fail;refine TM.mono ?_;clear TM;rintro e w3 ⟨rfl,rfl⟩;go_wp2_with fail;refine TE.mono ?_;clear TE;rintro e w4 ⟨rfl,rfl⟩;go_wp2;go_ret;exact⟨by rw[HR.out];first|rfl|(show Ending.returned (.bool _)=_;simp[g1,g2,g3,g5,g7,g8,g9,g12]),rfl⟩
theorem rI(k l p:Nat)(w:World):Calls Tryz.prog 195 #[.int .u8 k,.int .u8 l,.int .i64 p] w (jm (aD k l p) w):=by
 have TM:=rL k w;by_cases h0:aX k<0
 .exact zE k l p w _ rfl h0 TM
 .by_cases h1:(p:Int)<aX k
  .exact zD k l p w _ rfl (by omega) h1 TM
  .have HR:Hid (aD k l p=false):=(by show _=_;unfold aD;rw[if_pos ⟨by omega,by omega⟩]);generalize hm:aX k=m at*;clear hm;have h2:0<=m:=(by omega);have h3:m<=(p:Int):=(by omega);have p0:¬((p:Int)<0):=by omega
   go_in
   go_wp2_with fail;refine TM.mono ?_;clear TM;rintro e w3 ⟨rfl,rfl⟩;go_wp2;go_ret;exact⟨by rw[HR.out];rfl,rfl⟩
theorem tO(w:World)(b:Nat)(hb:w.heap.size=b){k:Nat}(hk:k<13):∃u,Bz[k]? =some u/\(w.alloc (.cells #[.string ⟨#[124,124]⟩,.string ⟨#[38,38]⟩,.string ⟨#[61,61]⟩,.string ⟨#[33,61]⟩,.string ⟨#[60]⟩,.string ⟨#[60,61]⟩,.string ⟨#[62]⟩,.string ⟨#[62,61]⟩,.string ⟨#[43]⟩,.string ⟨#[45]⟩,.string ⟨#[42]⟩,.string ⟨#[47]⟩,.string ⟨#[37]⟩] 9)).cell? ⟨b,k,none⟩=some (.string (sb u)):=by subst hb;obtain⟨ad,u,e,_,hu,hc⟩:=(gL.new (w:=w) (T:=9) (n:=13) Bz rfl).at_ hk;injection e with e;subst e;refine⟨u,hu,?_⟩;have h:=hc;rw[CE,Nat.zero_add] at h;exact h
theorem zO(k:Nat)(s:ByteArray)(x:Int)(u3:Value)(w:World)(hs:s.size<=maxLen):Calls Tryz.prog 194 #[.agg #[.int .u8 k,.string s,.int .i64 x,u3]] w (ak (eE k (bl s)) w):=by
 have hb0:Below w.heap.size w (w.alloc (.cells #[.int .u8 k,.string s,.int .i64 x,u3] 25)):=(ai _ _).alloc (ah _) _;have HB0:=ab hb0;obtain⟨b0,b1,b2,b3⟩:=ko (w:=w) (x:=.int .u8 k) (y:=.string s) (z:=.int .i64 x) (u:=u3) (T:=25);have HS:=ab hs;clear hb0 hs;cases hn:cG k with
 |true=>
  have HN:=ab hn;have HT:Hid (eE k (bl s)=be (bl s)):=(by show _=_;simp[eE,hn]);clear hn
  go_in
  go_wp2_with fail;refine(kM k _).mono ?_;rintro e w1 ⟨rfl,rfl⟩;rw[HN.out];go_wp2_with fail;refine(oQ s _).mono ?_;rintro e w2 ⟨rfl,hb2⟩;have HB2:=ab (HB0.out.trans (hb2.mono HB0.out.size));clear hb2;go_wp2;go_ret;exact ak.intro HT.out.symm HB2.out
 |false=>
  have HN:=ab hn;by_cases h23:k=23
  .subst h23;have HT:Hid (eE 23 (bl s)=(bl s == [45] || bl s == [33])):=(by show _=_;simp[eE,hn]);clear hn;cases h45:(s.toList == [45]) with
   |true=>
    go_in
    go_wp2_with fail;refine(kM 23 _).mono ?_;rintro e w1 ⟨rfl,rfl⟩;rw[HN.out];go_wp2;go_ret;exact ak.intro (by rw[HT.out,<-bG,h45];rfl) HB0.out
   |false=>
    go_in
    go_wp2_with fail;refine(kM 23 _).mono ?_;rintro e w1 ⟨rfl,rfl⟩;rw[HN.out];go_wp2;go_ret;exact ak.intro (by rw[HT.out,<-bG,h45];rfl) HB0.out
  .have n23:((k:Int) == 23)=false:=(by simp;omega);by_cases h24:k=24
   .subst h24;have HT:Hid (eE 24 (bl s)=dj Bz (bl s)):=(by show _=_;rw[dj,<-OR];simp[eE,hn]);clear hn h23 n23
    go_in
    go_wp2_with fail;refine(kM 24 _).mono ?_;rintro e w1 ⟨rfl,rfl⟩;rw[HN.out];have hlen:s.size<=9223372036854775807:=(by have:=HS.out;unfold maxLen at this;omega);go_wp2_with fail;go_loopw [4] (fun i wr=>∃j q:Nat,j<=13/\i= .int .i64 j/\wr=((w.alloc (.cells #[.int .u8 24,.string s,.int .i64 x,u3] 25)).alloc (.cells #[.string ⟨#[124,124]⟩,.string ⟨#[38,38]⟩,.string ⟨#[61,61]⟩,.string ⟨#[33,61]⟩,.string ⟨#[60]⟩,.string ⟨#[60,61]⟩,.string ⟨#[62]⟩,.string ⟨#[62,61]⟩,.string ⟨#[43]⟩,.string ⟨#[45]⟩,.string ⟨#[42]⟩,.string ⟨#[47]⟩,.string ⟨#[37]⟩] 9)).drewN q/\Hid (dj (Bz.take j) (bl s)=false)) (fun i _=>13 - (intOf i).toNat);case atStart=>exact⟨0,0,aE _,rfl,rfl,by show _=_;simp[dj]⟩
    case round=>
     obtain⟨j,q,hj,rfl,rfl,HI⟩:=hrel;have HB2:Hid (Below w.heap.size w (((w.alloc (.cells #[.int .u8 24,.string s,.int .i64 x,u3] 25)).alloc (.cells #[.string ⟨#[124,124]⟩,.string ⟨#[38,38]⟩,.string ⟨#[61,61]⟩,.string ⟨#[33,61]⟩,.string ⟨#[60]⟩,.string ⟨#[60,61]⟩,.string ⟨#[62]⟩,.string ⟨#[62,61]⟩,.string ⟨#[43]⟩,.string ⟨#[45]⟩,.string ⟨#[42]⟩,.string ⟨#[47]⟩,.string ⟨#[37]⟩] 9)).drewN q)):=bS (HB0.out.alloc HB0.out.size _) q;have c1:((w.alloc (.cells #[.int .u8 24,.string s,.int .i64 x,u3] 25)).alloc (.cells #[.string ⟨#[124,124]⟩,.string ⟨#[38,38]⟩,.string ⟨#[61,61]⟩,.string ⟨#[33,61]⟩,.string ⟨#[60]⟩,.string ⟨#[60,61]⟩,.string ⟨#[62]⟩,.string ⟨#[62,61]⟩,.string ⟨#[43]⟩,.string ⟨#[45]⟩,.string ⟨#[42]⟩,.string ⟨#[47]⟩,.string ⟨#[37]⟩] 9)).cell? ⟨w.heap.size,1,none⟩=some (.string s):=(by rw[World.cell?_of_block (heap_alloc_old _ _ (by simp))];exact b1);by_cases hlt:j<13
     .obtain⟨u,hu,hc⟩:=tO (w.alloc (.cells #[.int .u8 24,.string s,.int .i64 x,u3] 25)) (w.heap.size+1) (by simp) hlt;have HU:=ab hu;have HSN:=ab (pV (x:=bl s) hu);have hlti:(j:Int)<13:=(by omega);clear hu;by_cases heq:u=bl s
      .have HQ:=ab heq;have ht:(s.toList == u)=true:=(by simp[bG,heq]);clear heq;go_wp2_with fail
       go_quiet (fail)
       all_goals
        go_wp2;go_ret;refine ak.intro ?_ (by first|exact HB2.out|exact bS HB2.out _|exact HB2.out.drew);rw[HT.out];have h2:=HU.out;rw[HQ.out] at h2;rw[qk h2]
      .have HQ:=ab heq;have ht:(s.toList == u)=false:=(by rw[bG,Bool.eq_false_iff];intro h;exact heq (by simpa using(beq_iff_eq.1 h).symm));clear heq;go_wp2_with fail
       go_quiet (fail)
       all_goals
        go_wp2;go_roundw;case rel=>exact⟨j+1,_,by omega,by go_num,rfl,by show _=_;rw[HSN.out,HI.out];simp[HQ.out]⟩
        case measure=>simp[intOf];omega
     .have hj13:j=13:=(by omega);subst hj13;go_wp2_with fail;go_ret;refine ak.intro ?_ HB2.out;rw[HT.out];have h1:=HI.out;exact h1.symm
   .have n24:((k:Int) == 24)=false:=(by simp;omega);have HT:Hid (eE k (bl s)=(bl s == [])):=(by show _=_;simp[eE,hn,h23,h24]);clear hn
    go_in
    go_wp2_with fail;refine(kM k _).mono ?_;rintro e w1 ⟨rfl,rfl⟩;rw[HN.out];go_wp2;go_ret;exact ak.intro (by rw[HT.out,<-bG];cases s.toList<;>rfl) HB0.out
def pw:Prop:=∀(t:ag) (k:Nat) (s:ByteArray) (x:Int) (A:Option Addr) (n c:Nat) (w:World),cf w t k s x A n c->
 Calls Tryz.prog 90 #[.agg #[.int .u8 k,.string s,.int .i64 x,.slice A n c]] w (ak (vr 40 t) w)
def lU(m:Nat):Prop:=∀(t:ag) (k:Nat) (s:ByteArray) (x:Int) (A:Option Addr) (n c:Nat) (w:World) (most:Nat),most<=40->t.sz<=m->cf w t k s x A n c->True->
 Calls Tryz.prog 153 #[.agg #[.int .u8 k,.string s,.int .i64 x,.slice A n c],.int .i64 most] w (ak (vr most t) w)
theorem sg{m:Nat}(h:Hid (lU m))(t:ag)(k:Nat)(s:ByteArray)(x:Int)(A:Option Addr)(n c:Nat)(w:World)(mm:Nat){y:Int}(hy:y=(mm:Int))(hm:mm<=40)(hsz:t.sz<=m)(hN:cf w t k s x A n c):Calls Tryz.prog 153 #[.agg #[.int .u8 k,.string s,.int .i64 x,.slice A n c],.int .i64 y] w (ak (vr mm t) w):=by subst hy;exact h.out t k s x A n c w mm hm hsz hN trivial
theorem Ai{ks:List ag}{t:ag}{k j most:Nat}(h:ks[j]? =some t):eX k j most (ks.drop j)=(aD k t.kind j && vr most t && eX k (j+1) most (ks.drop (j+1))):=by obtain⟨h1,h2⟩:=gl.1 h;rw[List.drop_eq_getElem_cons h1,h2];rfl
theorem Ah{X W V:World}(h:Below X.heap.size X W)(k:Below W.heap.size W V):Below X.heap.size X V:=h.trans (k.mono h.size)
theorem Ak{ks:List ag}{t u:ag}(h:ks[0]? =some t)(hu:t.kids[0]? =some u):it ks=(t.kind != 26 || u.kind == 22):=by
 cases ks with
 |nil=>simp at h
 |cons a l=>
  simp only[List.getElem?_cons_zero,Option.some.injEq] at h;subst h;obtain⟨k0,s0,x0,ks0⟩:=a;simp only[ag.kids] at hu;cases ks0 with
  |nil=>simp at hu
  |cons v l'=>simp only[List.getElem?_cons_zero,Option.some.injEq] at hu;subst hu;rfl
theorem Al{ks:List ag}{t:ag}(h:ks[0]? =some t)(hk:t.kind≠26):it ks=true:=by
 cases ks with
 |nil=>simp at h
 |cons a l=>simp only[List.getElem?_cons_zero,Option.some.injEq] at h;subst h;simp[it,hk]
theorem Aj{ks:List ag}{t:ag}{k most:Nat}(h:ks[0]? =some t)(hr:eX k 0 most ks=true):vr most t=true:=by
 cases ks with
 |nil=>simp at h
 |cons a l=>simp only[List.getElem?_cons_zero,Option.some.injEq] at h;subst h;simp only[eX,Bool.and_eq_true] at hr;exact hr.1.2
theorem An{t:ag}{most:Nat}(h:vr most t=true)(hk:t.kind=26):t.kids.length=2:=by obtain⟨k0,s0,x0,ks0⟩:=t;simp only[ag.kind] at hk;subst hk;simp only[vr,Bool.and_eq_true,Bool.or_eq_true,decide_eq_true_eq] at h;have hm:aX 26=2:=rfl;rw[hm] at h;simp only[ag.kids];omega
theorem Am(m:Nat)(ih:Hid (lU m)):lU (m+1):=by
 intro t k s x A n c w most hmost hsz hN _;obtain⟨ks,rfl,_,hss,_,hK⟩:=hN;have hb0:Below w.heap.size w (w.alloc (.cells #[.int .u8 k,.string s,.int .i64 x,.slice A n c] 25)):=(ai _ _).alloc (ah _) _;have HB0:=ab hb0;have HK:=ab (hK.below hb0);have HBX:=ab (ko (w:=w) (x:=.int .u8 k) (y:=.string s) (z:=.int .i64 x) (u:=.slice A n c) (T:=25));have HSZ:Hid (ao ks<=m):=(by show _<=_;simp only[ag.sz] at hsz;omega);have hnn:n<=9223372036854775807:=(by have h1:=hK.2.1;have h2:=hK.2.2.1;unfold maxLen at h2;omega);have HL:Hid (n=ks.length):=hK.1;have HSS:=ab hss;have HR:Hid (vr most (.node k (bl s) x ks)=(decide (1<=most) && fC k && dA k x && eE k (bl s) && (decide (aX k<0) || decide ((n:Int)=aX k)) && eX k 0 (most - 1) ks && (k != 7 || it ks))):=(by show _=_;rw[HL.out];rfl);generalize vr most (.node k (bl s) x ks)=R at HR ⊢;clear hsz hb0 hK hss;obtain⟨b0,b1,b2,b3⟩:=HBX.out
 go_in
 go_upto_region 1 with fail;go_cut [5] from 9 to 21 (fun v wx=>v= .bool (fC k)/\wx=(w.alloc (.cells #[.int .u8 k,.string s,.int .i64 x,.slice A n c] 25)));case first=>
  by_cases h1:1<=k
  .have g1:(1:Int)<=(k:Int):=(by omega);by_cases h12:k<=12
   .have g12:(k:Int)<=12:=(by omega);have HV:Hid (fC k=true):=(by show _=_;simp[fC,h1,h12]);go_wp2_with fail;go_meet;case rel=>exact⟨by rw[HV.out],rfl⟩
   .have g12:¬((k:Int)<=12):=(by omega);have HV:Hid (fC k=dz k):=(by show _=_;simp[fC,h1,h12]);go_wp2_with (refine(gY k _).mono ?_;rintro e w1 ⟨rfl,rfl⟩);go_meet;case rel=>exact⟨by rw[HV.out],rfl⟩
  .have g1:¬((1:Int)<=(k:Int)):=(by omega);have HV:Hid (fC k=dz k):=(by show _=_;simp[fC,h1]);go_wp2_with (refine(gY k _).mono ?_;rintro e w1 ⟨rfl,rfl⟩);go_meet;case rel=>exact⟨by rw[HV.out],rfl⟩
 case rest=>
 obtain⟨rfl,rfl⟩:=hcut;go_upto_region 2 with fail;go_cut [6] from 22 to 44 (fun v wx=>v= .bool (dA k x)/\wx=(w.alloc (.cells #[.int .u8 k,.string s,.int .i64 x,.slice A n c] 25)));case first=>
  by_cases h1:x=0
  .subst h1;have HV:Hid (dA k 0=true):=(by show _=_;simp[dA]);go_wp2_with fail;go_meet;case rel=>exact⟨by rw[HV.out],rfl⟩
  .have e1:(x == 0)=false:=(by simp[h1]);by_cases h20:k=20
   .subst h20;by_cases h0:0<x
    .have HV:Hid (dA 20 x=true):=(by show _=_;simp[dA,h0]);go_wp2_with fail;go_meet;case rel=>exact⟨by rw[HV.out],rfl⟩
    .have HV:Hid (dA 20 x=false):=(by show _=_;simp[dA,h0,h1]);go_wp2_with fail;go_meet;case rel=>exact⟨by rw[HV.out],rfl⟩
   .have e20:((k:Int) == 20)=false:=(by simp;omega);by_cases h21:k=21
    .subst h21;by_cases h0:x=1
     .subst h0;have HV:Hid (dA 21 1=true):=(by show _=_;simp[dA]);go_wp2_with fail;go_meet;case rel=>exact⟨by rw[HV.out],rfl⟩
     .have e0:(x == 1)=false:=(by simp[h0]);have HV:Hid (dA 21 x=false):=(by show _=_;simp[dA,h0,h1]);go_wp2_with fail;go_meet;case rel=>exact⟨by rw[HV.out],rfl⟩
    .have e21:((k:Int) == 21)=false:=(by simp;omega);have HV:Hid (dA k x=false):=(by show _=_;simp[dA,h20,h21,h1]);go_wp2_with fail;go_meet;case rel=>exact⟨by rw[HV.out],rfl⟩
 case rest=>
 obtain⟨rfl,rfl⟩:=hcut;go_wp2_with fail;refine(rL k _).mono ?_;rintro e w1 ⟨rfl,rfl⟩;go_upto_region 4 with fail;go_cut [5,6,7,73] from 48 to 72 (fun _ _ _ v wx=>v= .bool (!(decide (1<=most) && fC k && dA k x && eE k (bl s) && (decide (aX k<0) || decide ((n:Int)=aX k))))/\Hid (Below (w.alloc (.cells #[.int .u8 k,.string s,.int .i64 x,.slice A n c] 25)).heap.size (w.alloc (.cells #[.int .u8 k,.string s,.int .i64 x,.slice A n c] 25)) wx));case first=>
  have HB1:Hid (Below (w.alloc (.cells #[.int .u8 k,.string s,.int .i64 x,.slice A n c] 25)).heap.size (w.alloc (.cells #[.int .u8 k,.string s,.int .i64 x,.slice A n c] 25)) (w.alloc (.cells #[.int .u8 k,.string s,.int .i64 x,.slice A n c] 25))):=ai _ _;by_cases hm0:most=0
  .have gm:(most:Int)<1:=(by omega);have gm1:Hid (decide (1<=most)=false):=(by show _=_;simp;omega);clear hm0;go_wp2_with fail;go_meet;case rel=>exact⟨by rw[gm1.out];rfl,HB1⟩
  .have gm:¬((most:Int)<1):=(by omega);have gm1:Hid (decide (1<=most)=true):=(by show _=_;simp;omega);clear hm0;cases hkn:fC k with
   |false=>go_wp2_with fail;go_meet;case rel=>exact⟨by simp[hkn],HB1⟩
   |true=>
    cases hnu:dA k x with
    |false=>go_wp2_with fail;go_meet;case rel=>exact⟨by simp[hnu],HB1⟩
    |true=>
     go_wp2_with fail;refine(zO k s x _ _ HSS.out).mono ?_;rintro e w2 ⟨rfl,hb2⟩;have HB2:=ab hb2;have c3:=ac hb2 b3;clear hb2;cases htx:eE k (bl s) with
     |false=>go_wp2_with fail;go_meet;case rel=>exact⟨by simp[htx],HB2⟩
     |true=>
      by_cases hma:aX k<0
      .have ga:¬(0<=aX k):=(by omega);have ga1:Hid (decide (aX k<0)=true):=(by show _=_;simp;omega);go_wp2_with fail;go_meet;case rel=>exact⟨by rw[gm1.out,hkn,hnu,htx,ga1.out];rfl,HB2⟩
      .have ga:0<=aX k:=(by omega);have ga1:Hid (decide (aX k<0)=false):=(by show _=_;simp;omega);by_cases hle:(n:Int)=aX k
       .have gl1:Hid (decide ((n:Int)=aX k)=true):=(by show _=_;simp[hle]);have gl2:((n:Int) == aX k)=true:=(by simp[hle]);have gl3:((n:Int) != aX k)=false:=(by simp[hle]);clear hle hma;go_wp2_with fail;go_meet;case rel=>exact⟨by rw[gm1.out,hkn,hnu,htx,gl1.out,ga1.out];rfl,HB2⟩
       .have gl1:Hid (decide ((n:Int)=aX k)=false):=(by show _=_;simp[hle]);have gl2:((n:Int) == aX k)=false:=(by simp[hle]);have gl3:((n:Int) != aX k)=true:=(by simp[hle]);clear hle hma;go_wp2_with fail;go_meet;case rel=>exact⟨by rw[gm1.out,hkn,hnu,htx,gl1.out,ga1.out];rfl,HB2⟩
 case rest=>
 obtain⟨rfl,HBC⟩:=hcut;generalize hG:(decide (1<=most) && fC k && dA k x && eE k (bl s) && (decide (aX k<0) || decide ((n:Int)=aX k)))=G at HR ⊢;have HG:=ab hG;clear hG;cases G with
 |false=>have HT:Hid (R=false):=(by show _=_;rw[HR.out];rfl);go_wp2;go_ret;exact ak.intro HT.out.symm (HB0.out.trans (HBC.out.mono HB0.out.size))
 |true=>
  have HT:Hid (R=(eX k 0 (most - 1) ks && (k != 7 || it ks))):=(by show _=_;rw[HR.out];rfl);have hm1:1<=most:=by
   have h:=HG.out;by_cases hh:1<=most
   .exact hh
   .simp[hh] at h
  have HWR:Hid (IntKind.i64.wrap ((most:Int) - 1)=((most - 1:Nat):Int)):=(by show _=_;rw[IntWalk.i64_in _ (by omega)];omega);have H7:Hid (k=7->n=2):=by intro h7;subst h7;have h:=HG.out;have hm:aX 7=2:=rfl;rw[hm] at h;simp at h;omega
  clear HR HG;go_wp2_with fail;go_loopw [8] (fun i wr=>∃j:Nat,j<=n/\i= .int .i64 j/\Hid (Below (w.alloc (.cells #[.int .u8 k,.string s,.int .i64 x,.slice A n c] 25)).heap.size (w.alloc (.cells #[.int .u8 k,.string s,.int .i64 x,.slice A n c] 25)) wr)/\Hid (eX k 0 (most - 1) ks=eX k j (most - 1) (ks.drop j))) (fun i _=>n - (intOf i).toNat);case atStart=>exact⟨0,aE _,rfl,HBC,by show _=_;rw[List.drop_zero]⟩
  case round=>
   obtain⟨j,hj,rfl,HB,HI⟩:=hrel;have c0:=ac HB.out b0;have c3:=ac HB.out b3;by_cases hlt:j<n
   .obtain⟨b,o,t,rfl,ht,hat⟩:=(HK.out.below HB.out).get hlt;obtain⟨B1,d1,q0,q1,q2,q3,hnode⟩:=hat.cells;have HND:=ab hnode;have HSZT:Hid (t.sz<=m):=aJ (kT ht) HSZ.out;have HST:=ab (Ai (k:=k) (j:=j) (most:=most - 1) ht);obtain⟨bb,hbb⟩:∃bb,vr (most - 1) t=bb:=⟨_,rfl⟩;have HTB:=ab hbb;clear ht hat hnode hbb b0 b1 b2 b3;cases hf:aD k t.kind j with
    |false=>
     have HF:=ab hf;have HRF:Hid (R=false):=(by show _=_;rw[HT.out,HI.out,HST.out,HF.out];rfl);clear hf;go_upto_region 9 with fail;refine wp_region_noPanic ?_;refine wp_region_held_drew (S:=(fun w'=>w'.cell? ⟨w.heap.size,0,none⟩=some (.int .u8 k)/\w'.cell? ⟨w.heap.size,3,none⟩=some (.slice (some ⟨b,o,none⟩) n c)/\w'.cell? ⟨b,o+j*4,none⟩=some (.int .u8 t.kind)/\w'.cell? ⟨b,o+j*4+1,none⟩=some (.string (sb t.text))/\w'.cell? ⟨b,o+j*4+2,none⟩=some (.int .i64 t.num)/\w'.cell? ⟨b,o+j*4+3,none⟩=some (.slice B1 t.kids.length d1))) (by kernel_rfl) ?_ fun hH0=>?_
     .exact⟨ac bz c0,ac bz c3,ac bz q0,ac bz q1,ac bz q2,ac bz q3⟩
     refine ae 0 ?_;refine ae 1 ?_;refine ae 2 ?_;refine ae 3 ?_;refine ae 4 ?_;refine ae 5 ?_;refine ae 6 ?_;refine ae 7 ?_;refine ae 8 ?_;refine aL 9 fun K hK=>?_;go_simp;refine(rI k t.kind j _).mono ?_;rintro e w2 ⟨rfl,rfl⟩;rw[HF.out];go_wp2_with fail;refine hK.out _ _ ?_ (fun hH1=>?_)
     .exact⟨ac bz c0,ac bz c3,ac bz q0,ac bz q1,ac bz q2,ac bz q3⟩
     clear hK K;refine aM ?_;refine ae 10 ?_;refine ae 11 ?_;refine az 12 ?_;refine az 13 ?_;refine az 14 ?_;refine az 15 ?_;refine az 16 ?_;refine az 17 ?_;refine az 18 ?_;refine az 19 ?_;refine az 20 ?_;refine ae 21 ?_;refine wpAnyH_done (by kernel_rfl) ?_ _;refine NoPanic.normal ?_;clear c0 c3 q0 q1 q2 q3 hH0 hH1;go_wp2;go_ret;exact ak.intro HRF.out.symm (HB0.out.trans ((HB.out.trans (Below.drew (ai _ _) |>.mono HB.out.size)).mono HB0.out.size))
    |true=>
     have HF:=ab hf;clear hf;go_upto_region 9 with fail;refine wp_region_noPanic ?_;refine wp_region_held_drew (S:=(fun w'=>w'.cell? ⟨w.heap.size,0,none⟩=some (.int .u8 k)/\w'.cell? ⟨w.heap.size,3,none⟩=some (.slice (some ⟨b,o,none⟩) n c)/\w'.cell? ⟨b,o+j*4,none⟩=some (.int .u8 t.kind)/\w'.cell? ⟨b,o+j*4+1,none⟩=some (.string (sb t.text))/\w'.cell? ⟨b,o+j*4+2,none⟩=some (.int .i64 t.num)/\w'.cell? ⟨b,o+j*4+3,none⟩=some (.slice B1 t.kids.length d1))) (by kernel_rfl) ?_ fun hH0=>?_
     .exact⟨ac bz c0,ac bz c3,ac bz q0,ac bz q1,ac bz q2,ac bz q3⟩
     refine ae 0 ?_;refine ae 1 ?_;refine ae 2 ?_;refine ae 3 ?_;refine ae 4 ?_;refine ae 5 ?_;refine ae 6 ?_;refine ae 7 ?_;refine ae 8 ?_;refine aL 9 fun K hK=>?_;go_simp;refine(rI k t.kind j _).mono ?_;rintro e w2 ⟨rfl,rfl⟩;rw[HF.out];go_wp2_with fail;refine hK.out _ _ ?_ (fun hH1=>?_)
     .exact⟨ac bz c0,ac bz c3,ac bz q0,ac bz q1,ac bz q2,ac bz q3⟩
     clear hK K;refine aM ?_;refine ae 10 ?_;refine ae 11 ?_;refine ae 12 ?_;refine ae 13 ?_;refine ae 14 ?_;refine ae 15 ?_;refine ae 16 ?_;refine ae 17 ?_;refine ae 18 ?_;refine aL 19 fun K hK=>?_;go_simp;refine(sg ih t _ _ _ _ _ _ _ (most - 1) HWR.out (by omega) HSZT.out (HND.out.below bz)).mono ?_;rintro e w3 ⟨rfl,hb3⟩;rw[HTB.out];have HD3:Hid (Below wr.heap.size wr w3):=Ah bz hb3;clear hb3;go_wp2_with fail;refine hK.out _ _ ?_ (fun hH2=>?_)
     .exact⟨ac HD3.out c0,ac HD3.out c3,ac HD3.out q0,ac HD3.out q1,ac HD3.out q2,ac HD3.out q3⟩
     clear hK K;refine aM ?_;refine ae 20 ?_;refine ae 21 ?_;refine wpAnyH_done (by kernel_rfl) ?_ _;refine NoPanic.normal ?_;have HB3:=ab (HB.out.trans (HD3.out.mono HB.out.size));clear c0 c3 q0 q1 q2 q3 hH0 hH1 hH2;cases bb with
     |false=>have HRF:Hid (R=false):=(by show _=_;rw[HT.out,HI.out,HST.out,HTB.out];simp);go_wp2;go_ret;exact ak.intro HRF.out.symm (HB0.out.trans (HB3.out.mono HB0.out.size))
     |true=>
      have HI2:Hid (eX k 0 (most - 1) ks=eX k (j+1) (most - 1) (ks.drop (j+1))):=(by show _=_;rw[HI.out,HST.out,HF.out,HTB.out];rfl);obtain⟨b0,b1,b2,b3⟩:=HBX.out;have c3:=ac HB3.out b3;clear b0 b1 b2 b3;go_wp2;go_roundw;case rel=>
       repeat apply Exists.intro
       refine⟨?_,rfl⟩;exact⟨j+1,by omega,by go_num,HB3,HI2⟩
      case measure=>simp[intOf];omega
   .have hjn:j=n:=(by omega);have HA:Hid (eX k 0 (most - 1) ks=true):=by show _=_;rw[HI.out,List.drop_of_length_le (by have:=HL.out;omega)];rfl
    have HBF:=ab (HB0.out.trans (HB.out.mono HB0.out.size));clear b0 b1 b2 b3;by_cases h7:k=7
    .have hn2:n=2:=H7.out h7;subst h7;subst hn2;obtain⟨b,o,t0,rfl,ht,hat⟩:=(HK.out.below HB.out).get (i:=0) (by omega);obtain⟨B1,d1,q0,q1,q2,q3,hnode⟩:=hat.cells;simp only[Nat.zero_mul,Nat.add_zero] at q0 q1 q2 q3;have HSET:Hid (R=it ks):=(by show _=_;rw[HT.out,HA.out];rfl);by_cases h26:t0.kind=26
     .have hl2:=An (Aj ht HA.out) h26;obtain⟨ks0,e0,_,_,_,hK0⟩:=hnode;have hks:t0.kids=ks0:=(by rw[e0];rfl);obtain⟨b',o',u0,rfl,hu,hat0⟩:=hK0.get (i:=0) (by omega);obtain⟨B2,d2,p0,_,_,_,_⟩:=hat0.cells;simp only[Nat.zero_mul,Nat.add_zero] at p0;have HSV:Hid (R=(u0.kind == 22)):=by show _=_;rw[HSET.out,Ak ht (by rw[hks];exact hu),h26];rfl
      rw[h26] at q0;rw[hl2] at q3;clear hat ht hat0 hu e0 hks hK0 h26 hl2;by_cases h22:u0.kind=22
      .rw[h22] at p0;have HV2:Hid (R=true):=(by show _=_;rw[HSV.out,h22];rfl);go_wp2;go_ret;exact ak.intro HV2.out.symm HBF.out
      .have e22:((u0.kind:Int) == 22)=false:=(by simp;omega);have HV2:Hid (R=false):=(by show _=_;rw[HSV.out];simp[h22]);go_wp2;go_ret;exact ak.intro HV2.out.symm HBF.out
     .have e26:((t0.kind:Int) == 26)=false:=(by simp;omega);have f26:((t0.kind:Int) != 26)=true:=(by simp;omega);have HV2:Hid (R=true):=(by show _=_;rw[HSET.out,Al ht h26]);clear hat ht hnode h26;go_wp2;go_ret;exact ak.intro HV2.out.symm HBF.out
    .have hb7:((k:Int) == 7)=false:=(by simp;omega);have hc7:((k:Int) != 7)=true:=(by simp;omega);have HRT:Hid (R=true):=by show _=_;have:(k != 7)=true:=(by simp[h7]);rw[HT.out,HA.out,this];rfl
     go_wp2;go_ret;exact ak.intro HRT.out.symm HBF.out
theorem sf:∀m,lU m
 |0=>by intro t k s x A n c w most _ hsz hN _;obtain⟨ks,rfl,_⟩:=hN;simp only[ag.sz] at hsz;omega
 |m+1=>Am m (sf m)
theorem iV:pw:=by
 intro t k s x A n c w hN;have hb0:Below w.heap.size w (w.alloc (.cells #[.int .u8 k,.string s,.int .i64 x,.slice A n c] 25)):=(ai _ _).alloc (ah _) _;have HB0:=ab hb0;have HN:=ab (hN.below hb0);obtain⟨b0,b1,b2,b3⟩:=ko (w:=w) (x:=.int .u8 k) (y:=.string s) (z:=.int .i64 x) (u:=.slice A n c) (T:=25);clear hb0 hN
 go_in
 go_wp2_with fail;refine(sg (ab (sf t.sz)) t k s x A n c _ 40 rfl (ah _) (ah _) HN.out).mono ?_;rintro e w2 ⟨rfl,hb2⟩;have HB2:=ab (HB0.out.trans (hb2.mono HB0.out.size));clear hb2 b0 b1 b2 b3;go_wp2;go_ret;exact ak.intro rfl HB2.out
def OF(t:ag)(w:World)(e:Ending)(w':World):Prop:=Below w.heap.size w w'/\∃A c,e= .returned (.tuple #[.agg #[.int .u8 t.kind,.string (sb t.text),.int .i64 t.num,.slice A t.kids.length c],.agg #[.int .i64 0,.int .i64 0]])/\cf (cX w' w.heap.size) t t.kind (sb t.text) t.num A t.kids.length c
structure Jg (r:Nat) (toks:List bi) (w:World) (i':Nat) (ks:List ag) (v:Value) (W:World):Prop where
 rs:ca (r+1) W r toks i' 0
 bl:Below w.heap.size w W
 x:W.heap[w.heap.size]? =some (.cells Z4 25 (0,0))
 f:W.heap[w.heap.size+1]? =some (.cells #[.int .i64 0,.int .i64 0] 76 (0,0))
 y:W.heap[r+1]? =some (.cells #[.int .u8 1,.string ⟨#[]⟩,.int .i64 0,v] 25 (0,0))
 l:jg W (r+1) (r+1) v ks
theorem Jg.below{r:Nat}{toks:List bi}{w:World}{i':Nat}{ks:List ag}{v:Value}{W W':World}(h:Jg r toks w i' ks v W)(hb:Below W.heap.size W W'):Jg r toks w i' ks v W':=
 ⟨h.rs.own (hb.mono h.rs.wB),h.bl.trans (hb.mono h.bl.size),(hb.block _ (aK.1 h.x).1).trans h.x,(hb.block _ (aK.1 h.f).1).trans h.f,(hb.block _ (aK.1 h.y).1).trans h.y,h.l.keep fun q _ _ hq=>hb.block q hq⟩
theorem Jg.rds{r:Nat}{toks:List bi}{w:World}{i' i2:Nat}{ks:List ag}{v:Value}{W W':World}(h:Jg r toks w i' ks v W)(hr:a9 r W W')(hs:ca (r+1) W' r toks i2 0)(h0:w.heap.size+1<r):Jg r toks w i2 ks v W':=
 ⟨hs,hr.out h.bl (by omega),hr.box h.x (by omega),hr.box h.f (by omega),hr.box h.y (by omega),h.l.keep fun q h1 _ hq=>hr.block q hq (by omega)⟩
theorem Jm{W:World}{g:Nat}{cs:Array Value}{T:TypeId}(h:W.heap[g]? =some (.cells cs T (0,0)))(j:Nat){u:Value}(hu:cs[j]? =some u):W.cell? ⟨g,j,none⟩=some u:=by have:=World.news_of_block (B:=g) h j u (by simpa using hu);rwa [CE,Nat.zero_add] at this
theorem LP{W:World}{g:Nat}{cs:Array Value}{T:TypeId}(h:W.heap[g]? =some (.cells cs T (0,0)))(j:Nat):W.frozen? ⟨g,j,none⟩=false:=by simp[World.frozen?,h]
theorem QT(s:ByteArray)(toks:List bi)(f:Nat)(kz:List ag)(w:World)(hlx:Kb (bl s)= .ok toks)(hpf:JE toks f [] 0=some kz)(hF:ii toks)(hf:f<=118)(hlen:toks.length<=100000)(hsz:s.size<=1073741824)(hrt:vr 40 (.node 1 [] 0 kz)=true):Calls Tryz.prog 45 #[.string s] w (OF (.node 1 [] 0 kz) w):=by
 have h0:0<toks.length:=by
  cases f with
  |zero=>simp[JE] at hpf
  |succ f=>
   cases toks with
   |nil=>simp[JE] at hpf
   |cons a l=>simp
 have HLX:=ab hlx;have HPF:=ab hpf;have HFN:=ab hF;have HRT:=ab hrt;clear hlx hpf hF hrt
 go_in
 go_wp2_with fail;refine(Q4 s _ hsz).mono ?_;rintro en w1 ⟨hb1,hr1⟩;rw[HLX.out] at hr1;obtain⟨v1,rfl,hown⟩:=hr1;obtain⟨At,ct,rfl,hct1,hct2⟩:=t9 hown;obtain⟨g,rfl⟩:∃g,At=some ⟨g,0,none⟩:=by
  rcases hown.2 with ⟨e,e0⟩|⟨g,cap,cur,e,_⟩
  .omega
  .injection e with e;exact⟨g,e⟩
 have HOW:=ab hown;have HB1:=ab hb1;clear hown hb1;have hgl:=(HOW.out.lt g rfl).2;have hgl0:=(HOW.out.lt g rfl).1;have HX1:Hid (w1.heap[w.heap.size]? =some (.cells Z4 25 (0,0))):=(HB1.out.block _ (by simp;omega)).trans ((heap_alloc_old _ _ (by simp)).trans (heap_alloc_new _ _));have HF1:Hid (w1.heap[w.heap.size+1]? =some (.cells #[.int .i64 0,.int .i64 0] 76 (0,0))):=(HB1.out.block _ (by simp)).trans (heap_alloc_at (by simp));have hszf:=(aK.1 HF1.out).1;have hbW:Below w1.heap.size w1 (((w1.alloc (.cells #[.int .i64 0,.int .i64 0] 76)).alloc (.cells #[.slice (some ⟨g,0,none⟩) toks.length ct,.int .i64 0,.int .i64 0,.int .i64 0,.int .i64 0] 112)).alloc (.cells #[.int .u8 1,.string ⟨#[]⟩,.int .i64 0,.slice none 0 0] 25)):=bz_alloc (bz_alloc (bz_alloc (ai _ _) _) _) _;have HRR:Hid ((((w1.alloc (.cells #[.int .i64 0,.int .i64 0] 76)).alloc (.cells #[.slice (some ⟨g,0,none⟩) toks.length ct,.int .i64 0,.int .i64 0,.int .i64 0,.int .i64 0] 112)).alloc (.cells #[.int .u8 1,.string ⟨#[]⟩,.int .i64 0,.slice none 0 0] 25)).heap[w1.heap.size+1]? =some (.cells #[.slice (some ⟨g,0,none⟩) toks.length ct,.int .i64 0,.int .i64 0,.int .i64 0,.int .i64 0] 112 (0,0))):=(heap_alloc_old _ _ (by simp)).trans (heap_alloc_at (by simp));have HFS:Hid (Jg (w1.heap.size+1) toks w 0 [] (.slice none 0 0) (((w1.alloc (.cells #[.int .i64 0,.int .i64 0] 76)).alloc (.cells #[.slice (some ⟨g,0,none⟩) toks.length ct,.int .i64 0,.int .i64 0,.int .i64 0,.int .i64 0] 112)).alloc (.cells #[.int .u8 1,.string ⟨#[]⟩,.int .i64 0,.slice none 0 0] 25))):=by refine⟨⟨⟨g,ct,Jm HRR.out 0 rfl,by omega,by omega,hct1,hct2,fun j u hu=>ac hbW (bH HOW.out j u hu)⟩,Jm HRR.out 1 rfl,Jm HRR.out 2 rfl,Jm HRR.out 3 rfl,Jm HRR.out 4 rfl,fun j=>LP HRR.out j,hlen,h0,by omega,by omega,by simp⟩,?_,(hbW.block _ (by omega)).trans HX1.out,(hbW.block _ hszf).trans HF1.out,heap_alloc_at (by simp),jg.start _ _ _⟩;have hb0:Below w.heap.size w w1:=(bz_alloc (bz_alloc (ai _ _) _) _).trans (HB1.out.mono (by simp;omega));exact hb0.trans (hbW.mono (by omega))
 clear hbW;go_wp2_with fail
 go_loopg [8] f (fun k _ wr=>∃(i':Nat) (ks:List ag) (v:Value),Hid (JE toks k ks i'=some kz)/\Hid (ks.length+k<=f)/\Hid (Jg (w1.heap.size+1) toks w i' ks v wr))
 case atStart=>exact⟨0,[],.slice none 0 0,HPF,by show _<=_;simp,HFS⟩
 case round=>
  obtain⟨i',ks,v,HPA,HK,HG⟩:=hrel;obtain⟨k,rfl⟩:∃k,gk=k+1:=by have h:=HPA.out;cases gk with|zero=>simp[JE] at h|succ k=>exact⟨k,rfl⟩
  obtain⟨g',c',t,q0,hg',ht,t0,t1,t2⟩:=HG.out.rs.tok;have q1:=HG.out.rs.c1;have q3:=HG.out.rs.c3;have hi':=HG.out.rs.hi;have hpa:=HPA.out;rw[JE,ht] at hpa;simp only[] at hpa;by_cases hk5:t.kind=5
  .rw[if_pos hk5] at hpa;simp only[Option.some.injEq] at hpa;subst hpa;rw[hk5] at t0;have hd5:((5:Nat):Int)=5:=rfl;rw[hd5] at t0;obtain⟨A,c,rfl,hnd⟩:=HG.out.l.node (k:=1) (s:=[]) (x:=0) (by omega) (by simp) (by unfold tw;omega);have HND:=ab hnd.since;clear hnd;obtain⟨p0,p1,p2,p3,_⟩:=di HG.out.y;go_upto_region 6 with fail
   go_quiet (fail)
   go_wp2_with fail;have HND2:cf (wr.drewN nq) (.node 1 [] 0 ks) 1 ⟨#[]⟩ 0 A ks.length c:=cf.keep (w:=wr) (w':=wr.drewN nq) (fun a v h=>h) HND.out;refine(iV (.node 1 [] 0 ks) 1 ⟨#[]⟩ 0 A ks.length c (wr.drewN nq) HND2).mono ?_;rintro en w5 ⟨rfl,hb5⟩;rw[HRT.out];have HG5:=ab (HG.out.below ((CN (ai _ _) _).trans (hb5.mono (by simp))));clear hb5 p0 p1 p2 p3 t0 t1 t2 q0 q1 q3;obtain⟨A',c',e',hnd⟩:=HG5.out.l.node (k:=1) (s:=[]) (x:=0) (by omega) (by simp) (by unfold tw;omega);injection e' with e1 e2 e3;subst e1 e3;have HND5:=ab hnd;clear hnd;obtain⟨p0,p1,p2,p3,_⟩:=di HG5.out.y;obtain⟨c0,c1,c2,c3,f0,f1,f2,f3⟩:=di HG5.out.x;have d0:=Jm HG5.out.f 0 rfl;have d1:=Jm HG5.out.f 1 rfl;have g0:=LP HG5.out.f 0;have g1:=LP HG5.out.f 1;obtain⟨a0,a1,a2,a3⟩:=mL (v0:=.int .u8 1) (v1:=.string ⟨#[]⟩) (v2:=.int .i64 0) (v3:=.slice A ks.length c) c0 c1 c2 c3;have hz:=ry (v0:=.int .u8 1) (v1:=.string ⟨#[]⟩) (v2:=.int .i64 0) (v3:=.slice A ks.length c) HG5.out.f (show w.heap.size+1≠w.heap.size by omega) 0 1 2 3;have A0:=ab (am (g:=w.heap.size+1) (p:=1) (u:=.int .i64 0) (by simp) (am (g:=w.heap.size+1) (p:=0) (u:=.int .i64 0) (by simp) a0));have A1:=ab (am (g:=w.heap.size+1) (p:=1) (u:=.int .i64 0) (by simp) (am (g:=w.heap.size+1) (p:=0) (u:=.int .i64 0) (by simp) a1));have A2:=ab (am (g:=w.heap.size+1) (p:=1) (u:=.int .i64 0) (by simp) (am (g:=w.heap.size+1) (p:=0) (u:=.int .i64 0) (by simp) a2));have A9:=ab (am (g:=w.heap.size+1) (p:=1) (u:=.int .i64 0) (by simp) (am (g:=w.heap.size+1) (p:=0) (u:=.int .i64 0) (by simp) a3));have D0:=ab (am (g:=w.heap.size+1) (p:=1) (u:=.int .i64 0) (by simp) (set_self (u:=.int .i64 0) (Jm hz 0 rfl)));have D1:=ab (set_self (u:=.int .i64 0) (am (g:=w.heap.size+1) (p:=0) (u:=.int .i64 0) (by simp) (Jm hz 1 rfl)));clear a0 a1 a2 a3 hz;have HBF:Hid (Below w.heap.size w ((((((w5.setCell ⟨w.heap.size,0,none⟩ (.int .u8 1)).setCell ⟨w.heap.size,1,none⟩ (.string ⟨#[]⟩)).setCell ⟨w.heap.size,2,none⟩ (.int .i64 0)).setCell ⟨w.heap.size,3,none⟩ (.slice A ks.length c)).setCell ⟨w.heap.size+1,0,none⟩ (.int .i64 0)).setCell ⟨w.heap.size+1,1,none⟩ (.int .i64 0))):=((((((HG5.out.bl.setCell (p:=⟨_,_,none⟩) (ah _) _).setCell (p:=⟨_,_,none⟩) (ah _) _).setCell (p:=⟨_,_,none⟩) (ah _) _).setCell (p:=⟨_,_,none⟩) (ah _) _).setCell (p:=⟨_,_,none⟩) (by dsimp only;omega) _).setCell (p:=⟨_,_,none⟩) (by dsimp only;omega) _);have HNF:Hid (cf (cX ((((((w5.setCell ⟨w.heap.size,0,none⟩ (.int .u8 1)).setCell ⟨w.heap.size,1,none⟩ (.string ⟨#[]⟩)).setCell ⟨w.heap.size,2,none⟩ (.int .i64 0)).setCell ⟨w.heap.size,3,none⟩ (.slice A ks.length c)).setCell ⟨w.heap.size+1,0,none⟩ (.int .i64 0)).setCell ⟨w.heap.size+1,1,none⟩ (.int .i64 0)) w.heap.size) (.node 1 [] 0 ks) 1 (sb []) 0 A ks.length c):=cf.sinceOf (by omega) (fun q h1 _=>by rw[aY _ _ _ _ (show q≠w.heap.size+1 by omega),aY _ _ _ _ (show q≠w.heap.size+1 by omega),aY _ _ _ _ (show q≠w.heap.size by omega),aY _ _ _ _ (show q≠w.heap.size by omega),aY _ _ _ _ (show q≠w.heap.size by omega),aY _ _ _ _ (show q≠w.heap.size by omega)]) HND5.out
   go_wp2_with fail;exact bodyPost_ret (v:=.tuple #[.agg #[.int .u8 1,.string ⟨#[]⟩,.int .i64 0,.slice A ks.length c],.agg #[.int .i64 0,.int .i64 0]]) (by simp[results,Tryz.results45,go_sem,A0.out,A1.out,A2.out,A9.out,D0.out,D1.out]) rfl ⟨HBF.out,A,c,rfl,HNF.out⟩
  .rw[if_neg hk5] at hpa;have hk5':((t.kind:Int) == 5)=false:=(by simp;omega);cases hpr:Lj toks k i' with
   |none=>rw[hpr] at hpa;simp at hpa
   |some y=>
   obtain⟨e1,j1⟩:=y;rw[hpr] at hpa;simp only[] at hpa;have HPR:=ab hpr;have HPN:=ab hpa;clear hpr hpa;go_upto_region 6 with fail
   go_quiet (fail)
   go_wp2_with fail;have hbq:Below wr.heap.size wr (wr.drewN nq):=CN (ai _ _) _;have HGQ:=ab (HG.out.below hbq);clear hbq;refine(QU (w1.heap.size+1+1) (w1.heap.size+1) toks k HFN.out i' 0 j1 e1 _ HPR.out HGQ.out.rs (by have:=HK.out;omega)).mono ?_;rintro en w4 ⟨hr,hs,A4,c4,rfl,hn4⟩;have HN4:=ab hn4;have hszy:=(aK.1 HGQ.out.y).1;have hszr:=hr.size;have HLT:=ab HGQ.out.l.lt;have HG4:=ab (HGQ.out.rds hr hs (by omega));clear hr hs hn4 t0 t1 t2 q0 q1 q3;have hbA:Below w4.heap.size w4 ((w4.alloc (.cells #[.int .u8 e1.kind,.string (sb e1.text),.int .i64 e1.num,.slice A4 e1.kids.length c4] 25)).alloc (.cells #[.int .u8 e1.kind,.string (sb e1.text),.int .i64 e1.num,.slice A4 e1.kids.length c4] 25)):=bz_alloc (bz_alloc (ai _ _) _) _;have HGA:=ab (HG4.out.below hbA);have HNA:=ab (HN4.out.sinceBelow hbA);clear hbA;obtain⟨xs,ho,hcs,hne⟩:=HGA.out.l;have HOWA:=ab ho;have HCS:=ab hcs;have HNE:=ab hne;clear ho hcs hne;obtain⟨d0,d1,d2,d3,g0,g1,g2,g3⟩:=di HG4.out.y;have hlenk:ks.length<=1000:=(by have:=HK.out;omega);have hsz4:=(aK.1 HG4.out.y).1;have hszf4:=(aK.1 HG4.out.f).1;have hszx4:=(aK.1 HG4.out.x).1;go_wp2_with (at_builtin;go_must (refine pj _ rfl _ _ rfl (w1.heap.size+1+1) v ks.length xs rfl HOWA.out (w4.heap.size+1) 1 e1 A4 c4 rfl (heap_alloc_at (by simp)) (by omega) (by simp;omega) ?_);intro g2 cap w5 ho5 hg5 hd5;obtain⟨p0,p1,p2,p3,q0,q1,q2,q3⟩:=di ((hg5.block (w1.heap.size+1+1) (by simp;omega) (fun e=>HNE.out e.symm)).trans HGA.out.y);have HL5:=ab (jg.push HOWA.out HCS.out HNE.out HNA.out (by omega) hszy (by simp;omega) HLT.out ho5 hg5 hd5);have HB5:=ab (Ee HOWA.out hg5 (ah _) (by simp;omega));have hy5:w5.heap[w1.heap.size+1+1]? =some (.cells #[.int .u8 1,.string ⟨#[]⟩,.int .i64 0,v] 25 (0,0)):=(hg5.block (w1.heap.size+1+1) (by simp;omega) (fun e=>HNE.out e.symm)).trans HGA.out.y);have HB6:Hid (Below (w1.heap.size+1+1) w5 (w5.setCell ⟨w1.heap.size+1+1,3,none⟩ (.slice (some ⟨g2,0,none⟩) (ks.length+1) cap))):=(ai _ _).setCell (p:=⟨_,_,none⟩) (ah _) _;have HG6:Hid (Jg (w1.heap.size+1) toks w j1 (ks++[e1]) (.slice (some ⟨g2,0,none⟩) (ks.length+1) cap) (w5.setCell ⟨w1.heap.size+1+1,3,none⟩ (.slice (some ⟨g2,0,none⟩) (ks.length+1) cap))):=by have hb:=HB5.out.trans HB6.out;refine⟨HGA.out.rs.own hb,HGA.out.bl.trans (hb.mono (by omega)),(hb.block _ (by omega)).trans HGA.out.x,(hb.block _ (by omega)).trans HGA.out.f,?_,HL5.out.keep fun q _ h2 _=>aY _ _ _ _ h2⟩;simp[World.setCell,Array.getElem?_modify,hy5]
   clear ho5 hg5 hd5 hy5 p0 p1 p2 p3 q0 q1 q2 q3
   go_roundg k
   case measure=>exact Nat.lt_succ_self k
   case rel=>exact⟨j1,ks++[e1],_,HPN,by have:=HK.out;show _<=_;rw[CD];simp;omega,HG6⟩
end Go.Proofs.YtfipahjodfminaaGreatDoor
