/- SpecOne. -/
import Derived.Test.YtphemenngjkfbaaM27
open Classical renaming not_not → agE
open Go.Proofs.Try renaming prog → agQ
open Int renaming toNat → ag
open List renaming append_assoc → ahf, getElem?_append_left → agC, getElem?_append_right → agD, range → ag5
namespace Go.RX.So
open Go.RX Go.Proofs
set_option maxRecDepth 100000
def GM(P:Program)(aq:Value→List HP→Prop)(x0 x1 x2 x3 x4 x5 x6 x7 x8 x9 aO aQ aM aR aY bV cN cY cQ cP aX bz bx:Int)(A0 A1 A2 A3 A4 A5 A6 A7 A8 A9 bU cz dT dU eS eD dX dY dQ:Nat→Int)(_ q1 q2 q3:Bool)(v0 v1:V1)(b0 b1 b2 b3 b4 b5:Nat):Prop:=
 ∀_:Nat,aK (¬(x3<x8)) (
 ∀_:Nat,aK (((((x0=3)∨(x0=4))∨((x5=0)∧(x6=0)))∧((x0=4)∨(∀j,j<32→A1 j=(fun _=>0) j)))∧((x0=5)∨(x7=0))) (
 ∀_:Nat,aK (x0=1) (
 aK (¬((¬(x9=0))∨(true=true))) (
 aE ((-9223372036854775808)≤x4) (
 aE (x4≤9223372036854775807) (
 aE ((¬(x4<8))∨(0≤x4)) (
 aE ((¬(x4<8))∨(x4<8)) (
 aE ((¬(x4<8))∨(0≤x4)) (
 aE ((¬(x4<8))∨(x4<8)) (
 aE ((¬((x4<8)∧(0<(A2 (ag x4)))))∨(0≤x4)) (
 aE ((¬((x4<8)∧(0<(A2 (ag x4)))))∨(x4<8)) (
 aE ((¬((x4<8)∧(0<(A2 (ag x4)))))∨(0≤x4)) (
 aE ((¬((x4<8)∧(0<(A2 (ag x4)))))∨(x4<8)) (
 aK ((¬(((x4<8)∧(0<(A2 (ag x4))))∧((A2 (ag x4))≤4)))∨(x4=x1)) (
 aq (.int .i64 6) [Yw b0 A2 b1 b2 x8,Kw b1 (aj eD (kI A0) 1) (aj dX (kI A0) ((b5:Nat)+1:Int)),Gw b2 (aj dY (kD x1 x2) 1) (aj dQ (kD x1 x2) ((b3:Nat)+1:Int)),Vw b3 x9 A3 (!(bx==0)) aO aQ aM aR aY b4 v0.v,Jw b4 A4,Rw v0 bV A5 A6 A7 A8 A9 bU cz,Cw b5 cN cY cQ v1.v q1 q2 aX bz q3 eS,Iw v1 cP dT dU]) (
 ∀b9:Nat,∀_:Nat,aq (.int .i64 0) [Yw b0 A2 b1 b2 x3,Kw b1 (aj (aj eD (kI A0) 1) (kI A0) 1) (aj (aj dX (kI A0) ((b5:Nat)+1:Int)) (kI A0) ((b9:Nat)+1:Int)),Gw b2 (aj dY (kD x1 x2) 1) (aj dQ (kD x1 x2) ((b3:Nat)+1:Int)),Vw b3 1 A0 true x4 0 0 x3 0 b4 v0.v,Jw b4 (aj A4 (kI A0) 1),Rw v0 bV A5 A6 A7 A8 A9 bU cz,Cw b5 cN cY cQ v1.v q1 q2 aX bz q3 eS,Iw v1 cP dT dU])))))))))))) (
 aq (.int .i64 6) [Yw b0 A2 b1 b2 x8,Kw b1 (aj eD (kI A0) 1) (aj dX (kI A0) ((b5:Nat)+1:Int)),Gw b2 (aj dY (kD x1 x2) 1) (aj dQ (kD x1 x2) ((b3:Nat)+1:Int)),Vw b3 x9 A3 (!(bx==0)) aO aQ aM aR aY b4 v0.v,Jw b4 A4,Rw v0 bV A5 A6 A7 A8 A9 bU cz,Cw b5 cN cY cQ v1.v q1 q2 aX bz q3 eS,Iw v1 cP dT dU])) (
 aK (x0=2) (
 ∀_:Nat,aK ((((¬(x9=0))∨((A4 (kI A0))≠0))∨(¬(cQ=x1)))∨(¬(cN=x4))) (
 aq (.int .i64 6) [Yw b0 A2 b1 b2 x8,Kw b1 (aj eD (kI A0) 1) (aj dX (kI A0) ((b5:Nat)+1:Int)),Gw b2 (aj dY (kD x1 x2) 1) (aj dQ (kD x1 x2) ((b3:Nat)+1:Int)),Vw b3 x9 A3 (!(bx==0)) aO aQ aM aR aY b4 v0.v,Jw b4 A4,Rw v0 bV A5 A6 A7 A8 A9 bU cz,Cw b5 cN cY cQ v1.v q1 q2 aX bz q3 eS,Iw v1 cP dT dU]) (
 ∀_:Nat,aq (.int .i64 0) [Yw b0 A2 b1 b2 x3,Kw b1 (aj eD (kI A0) 1) (aj dX (kI A0) ((b5:Nat)+1:Int)),Gw b2 (aj dY (kD x1 x2) 1) (aj dQ (kD x1 x2) ((b3:Nat)+1:Int)),Vw b3 2 A0 false x4 0 0 x3 0 b4 v0.v,Jw b4 (aj A4 (kI A0) 1),Rw v0 bV A5 A6 A7 A8 A9 bU cz,Cw b5 cN cY cQ v1.v q1 q2 aX bz q3 eS,Iw v1 cP dT dU])) (
 aK (((x9=0)∨(¬(∀j,j<16→A3 j=A0 j)))∨(¬(aO=x4))) (
 aq (.int .i64 6) [Yw b0 A2 b1 b2 x8,Kw b1 (aj eD (kI A0) 1) (aj dX (kI A0) ((b5:Nat)+1:Int)),Gw b2 (aj dY (kD x1 x2) 1) (aj dQ (kD x1 x2) ((b3:Nat)+1:Int)),Vw b3 x9 A3 (!(bx==0)) aO aQ aM aR aY b4 v0.v,Jw b4 A4,Rw v0 bV A5 A6 A7 A8 A9 bU cz,Cw b5 cN cY cQ v1.v q1 q2 aX bz q3 eS,Iw v1 cP dT dU]) (
 aK (x0=3) (
 ∀_:Nat,aK ((x9=1)∧(¬(q2=true))) (
 ∃post,au P 122 [v1.v,.agg #[.int .u8 x5,.int .u8 x6]] [Iw v1 cP dT dU] post∧
 ∀x hs,post x hs→∃q4:Bool,x= .bool q4∧hs=[Iw v1 cP dT dU]∧
 aK (q4=true) (
 aq (.int .i64 0) [Yw b0 A2 b1 b2 x3,Kw b1 (aj eD (kI A0) 1) (aj dX (kI A0) ((b5:Nat)+1:Int)),Gw b2 (aj dY (kD x1 x2) 1) (aj dQ (kD x1 x2) ((b3:Nat)+1:Int)),Vw b3 3 A3 (!(bx==0)) aO x5 x6 aR aY b4 v0.v,Jw b4 A4,Rw v0 bV A5 A6 A7 A8 A9 bU cz,Cw b5 cN cY cQ v1.v q1 true x5 x6 q3 eS,Iw v1 cP dT dU]) (
 aK ((x9=2)∧((x5=cN)∧(x6=cY))) (
 ∀_:Nat,aE (0≤cP) (
 aE (((cP+1)*2)≤140737488355328) (
 ∀v2:V1,aq (.int .i64 0) [Yw b0 A2 b1 b2 x3,Kw b1 (aj eD (kI A0) 1) (aj dX (kI A0) ((b5:Nat)+1:Int)),Gw b2 (aj dY (kD x1 x2) 1) (aj dQ (kD x1 x2) ((b3:Nat)+1:Int)),Vw b3 3 A3 (!(bx==0)) aO x5 x6 aR aY b4 v0.v,Jw b4 A4,Rw v0 bV A5 A6 A7 A8 A9 bU cz,Cw b5 cN cY cQ v2.v q1 q2 aX bz q3 eS,Iw v2 (cP+1) (aj dT (ag cP) x1) (aj dU (ag cP) x2)]))) (
 aq (.int .i64 6) [Yw b0 A2 b1 b2 x8,Kw b1 (aj eD (kI A0) 1) (aj dX (kI A0) ((b5:Nat)+1:Int)),Gw b2 (aj dY (kD x1 x2) 1) (aj dQ (kD x1 x2) ((b3:Nat)+1:Int)),Vw b3 x9 A3 (!(bx==0)) aO aQ aM aR aY b4 v0.v,Jw b4 A4,Rw v0 bV A5 A6 A7 A8 A9 bU cz,Cw b5 cN cY cQ v1.v q1 q2 aX bz q3 eS,Iw v1 cP dT dU]))) (
 aK ((x9=2)∧((x5=cN)∧(x6=cY))) (
 ∀_:Nat,aE (0≤cP) (
 aE (((cP+1)*2)≤140737488355328) (
 ∀v2:V1,aq (.int .i64 0) [Yw b0 A2 b1 b2 x3,Kw b1 (aj eD (kI A0) 1) (aj dX (kI A0) ((b5:Nat)+1:Int)),Gw b2 (aj dY (kD x1 x2) 1) (aj dQ (kD x1 x2) ((b3:Nat)+1:Int)),Vw b3 3 A3 (!(bx==0)) aO x5 x6 aR aY b4 v0.v,Jw b4 A4,Rw v0 bV A5 A6 A7 A8 A9 bU cz,Cw b5 cN cY cQ v2.v q1 q2 aX bz q3 eS,Iw v2 (cP+1) (aj dT (ag cP) x1) (aj dU (ag cP) x2)]))) (
 aq (.int .i64 6) [Yw b0 A2 b1 b2 x8,Kw b1 (aj eD (kI A0) 1) (aj dX (kI A0) ((b5:Nat)+1:Int)),Gw b2 (aj dY (kD x1 x2) 1) (aj dQ (kD x1 x2) ((b3:Nat)+1:Int)),Vw b3 x9 A3 (!(bx==0)) aO aQ aM aR aY b4 v0.v,Jw b4 A4,Rw v0 bV A5 A6 A7 A8 A9 bU cz,Cw b5 cN cY cQ v1.v q1 q2 aX bz q3 eS,Iw v1 cP dT dU]))) (
 aK (x0=4) (
 ∀_:Nat,∀_:Nat,aK (bx≠0) (
 aK (((((¬(x9=3))∨(¬((aQ=x5)∧(aM=x6))))∨(¬(q2=true)))∨(¬((aX=x5)∧(bz=x6))))∨((q3=true)∧(¬(∀j,j<32→eS j=A1 j)))) (
 aq (.int .i64 6) [Yw b0 A2 b1 b2 x8,Kw b1 (aj eD (kI A0) 1) (aj dX (kI A0) ((b5:Nat)+1:Int)),Gw b2 (aj dY (kD x1 x2) 1) (aj dQ (kD x1 x2) ((b3:Nat)+1:Int)),Vw b3 x9 A3 (!(bx==0)) aO aQ aM aR aY b4 v0.v,Jw b4 A4,Rw v0 bV A5 A6 A7 A8 A9 bU cz,Cw b5 cN cY cQ v1.v q1 q2 aX bz q3 eS,Iw v1 cP dT dU]) (
 aq (.int .i64 0) [Yw b0 A2 b1 b2 x3,Kw b1 (aj eD (kI A0) 1) (aj dX (kI A0) ((b5:Nat)+1:Int)),Gw b2 (aj dY (kD x1 x2) 1) (aj dQ (kD x1 x2) ((b3:Nat)+1:Int)),Vw b3 4 A3 (!(bx==0)) aO aQ aM aR x3 b4 v0.v,Jw b4 A4,Rw v0 bV A5 A6 A7 A8 A9 bU cz,Cw b5 cN cY cQ v1.v q1 q2 aX bz true A1,Iw v1 cP dT dU])) (
 aK (((((¬(x9=3))∨(¬((aQ=x5)∧(aM=x6))))∨(¬(q2=true)))∨(¬((aX=x1)∧(bz=x2))))∨((q3=true)∧(¬(∀j,j<32→eS j=A1 j)))) (
 aq (.int .i64 6) [Yw b0 A2 b1 b2 x8,Kw b1 (aj eD (kI A0) 1) (aj dX (kI A0) ((b5:Nat)+1:Int)),Gw b2 (aj dY (kD x1 x2) 1) (aj dQ (kD x1 x2) ((b3:Nat)+1:Int)),Vw b3 x9 A3 (!(bx==0)) aO aQ aM aR aY b4 v0.v,Jw b4 A4,Rw v0 bV A5 A6 A7 A8 A9 bU cz,Cw b5 cN cY cQ v1.v q1 q2 aX bz q3 eS,Iw v1 cP dT dU]) (
 aq (.int .i64 0) [Yw b0 A2 b1 b2 x3,Kw b1 (aj eD (kI A0) 1) (aj dX (kI A0) ((b5:Nat)+1:Int)),Gw b2 (aj dY (kD x1 x2) 1) (aj dQ (kD x1 x2) ((b3:Nat)+1:Int)),Vw b3 4 A3 (!(bx==0)) aO aQ aM aR x3 b4 v0.v,Jw b4 A4,Rw v0 bV A5 A6 A7 A8 A9 bU cz,Cw b5 cN cY cQ v1.v q1 q2 aX bz true A1,Iw v1 cP dT dU]))) (
 aK (x0=5) (
 ∀_:Nat,aK (x9=1) (
 aK (¬((((x7=3)∨(x7=5))∨(x7=7))∨((x7=4)∧(q1=true)))) (
 aq (.int .i64 6) [Yw b0 A2 b1 b2 x8,Kw b1 (aj eD (kI A0) 1) (aj dX (kI A0) ((b5:Nat)+1:Int)),Gw b2 (aj dY (kD x1 x2) 1) (aj dQ (kD x1 x2) ((b3:Nat)+1:Int)),Vw b3 x9 A3 (!(bx==0)) aO aQ aM aR aY b4 v0.v,Jw b4 A4,Rw v0 bV A5 A6 A7 A8 A9 bU cz,Cw b5 cN cY cQ v1.v q1 q2 aX bz q3 eS,Iw v1 cP dT dU]) (
 (aE (0≤bV) (
 ∀_:Nat,aE (((bV+1)*48)≤140737488355328) (
 ∀v2:V1,aq (.int .i64 0) [Yw b0 A2 b1 b2 x3,Kw b1 (aj eD (kI A0) 1) (aj dX (kI A0) ((b5:Nat)+1:Int)),Gw b2 (aj dY (kD x1 x2) 1) (aj dQ (kD x1 x2) ((b3:Nat)+1:Int)),Vw b3 0 A3 (!(bx==0)) aO aQ aM aR aY b4 v2.v,Jw b4 A4,Rw v2 (bV+1) (aG A5 (ag (bV*16)) 16 (aG (fun _=>0) 0 16 A3)) (aG A6 (ag bV) 1 (aj (fun _=>0) 0 aO)) (aG A7 (ag bV) 1 (aj (fun _=>0) 0 bx)) (aG A8 (ag bV) 1 (aj (fun _=>0) 0 x7)) (aG A9 (ag bV) 1 (aj (fun _=>0) 0 aR)) (aG bU (ag bV) 1 (aj (fun _=>0) 0 aY)) (aG cz (ag bV) 1 (aj (fun _=>0) 0 x3)),Cw b5 cN cY cQ v1.v (q1||((x7==4)&&(!(!(bx==0))))) q2 aX bz q3 eS,Iw v1 cP dT dU])))∧
 (∀_:Nat,aE (0≤bV) (
 aE (((bV+1)*48)≤140737488355328) (
 ∀v2:V1,aq (.int .i64 0) [Yw b0 A2 b1 b2 x3,Kw b1 (aj eD (kI A0) 1) (aj dX (kI A0) ((b5:Nat)+1:Int)),Gw b2 (aj dY (kD x1 x2) 1) (aj dQ (kD x1 x2) ((b3:Nat)+1:Int)),Vw b3 0 A3 (!(bx==0)) aO aQ aM aR aY b4 v2.v,Jw b4 A4,Rw v2 (bV+1) (aG A5 (ag (bV*16)) 16 (aG (fun _=>0) 0 16 A3)) (aG A6 (ag bV) 1 (aj (fun _=>0) 0 aO)) (aG A7 (ag bV) 1 (aj (fun _=>0) 0 bx)) (aG A8 (ag bV) 1 (aj (fun _=>0) 0 x7)) (aG A9 (ag bV) 1 (aj (fun _=>0) 0 aR)) (aG bU (ag bV) 1 (aj (fun _=>0) 0 aY)) (aG cz (ag bV) 1 (aj (fun _=>0) 0 x3)),Cw b5 cN cY cQ v1.v (q1||((x7==4)&&(!(!(bx==0))))) q2 aX bz q3 eS,Iw v1 cP dT dU]))))) (
 aK (x9=2) (
 aK (¬(((x7=3)∨(x7=4))∨((x7=2)∧((q2=true)∧(¬((aX=x1)∧(bz=x2))))))) (
 aq (.int .i64 6) [Yw b0 A2 b1 b2 x8,Kw b1 (aj eD (kI A0) 1) (aj dX (kI A0) ((b5:Nat)+1:Int)),Gw b2 (aj dY (kD x1 x2) 1) (aj dQ (kD x1 x2) ((b3:Nat)+1:Int)),Vw b3 x9 A3 (!(bx==0)) aO aQ aM aR aY b4 v0.v,Jw b4 A4,Rw v0 bV A5 A6 A7 A8 A9 bU cz,Cw b5 cN cY cQ v1.v q1 q2 aX bz q3 eS,Iw v1 cP dT dU]) (
 (aE (0≤bV) (
 ∀_:Nat,aE (((bV+1)*48)≤140737488355328) (
 ∀v2:V1,aq (.int .i64 0) [Yw b0 A2 b1 b2 x3,Kw b1 (aj eD (kI A0) 1) (aj dX (kI A0) ((b5:Nat)+1:Int)),Gw b2 (aj dY (kD x1 x2) 1) (aj dQ (kD x1 x2) ((b3:Nat)+1:Int)),Vw b3 0 A3 (!(bx==0)) aO aQ aM aR aY b4 v2.v,Jw b4 A4,Rw v2 (bV+1) (aG A5 (ag (bV*16)) 16 (aG (fun _=>0) 0 16 A3)) (aG A6 (ag bV) 1 (aj (fun _=>0) 0 aO)) (aG A7 (ag bV) 1 (aj (fun _=>0) 0 bx)) (aG A8 (ag bV) 1 (aj (fun _=>0) 0 x7)) (aG A9 (ag bV) 1 (aj (fun _=>0) 0 aR)) (aG bU (ag bV) 1 (aj (fun _=>0) 0 aY)) (aG cz (ag bV) 1 (aj (fun _=>0) 0 x3)),Cw b5 cN cY cQ v1.v (q1||((x7==4)&&(!(!(bx==0))))) q2 aX bz q3 eS,Iw v1 cP dT dU])))∧
 (∀_:Nat,aE (0≤bV) (
 aE (((bV+1)*48)≤140737488355328) (
 ∀v2:V1,aq (.int .i64 0) [Yw b0 A2 b1 b2 x3,Kw b1 (aj eD (kI A0) 1) (aj dX (kI A0) ((b5:Nat)+1:Int)),Gw b2 (aj dY (kD x1 x2) 1) (aj dQ (kD x1 x2) ((b3:Nat)+1:Int)),Vw b3 0 A3 (!(bx==0)) aO aQ aM aR aY b4 v2.v,Jw b4 A4,Rw v2 (bV+1) (aG A5 (ag (bV*16)) 16 (aG (fun _=>0) 0 16 A3)) (aG A6 (ag bV) 1 (aj (fun _=>0) 0 aO)) (aG A7 (ag bV) 1 (aj (fun _=>0) 0 bx)) (aG A8 (ag bV) 1 (aj (fun _=>0) 0 x7)) (aG A9 (ag bV) 1 (aj (fun _=>0) 0 aR)) (aG bU (ag bV) 1 (aj (fun _=>0) 0 aY)) (aG cz (ag bV) 1 (aj (fun _=>0) 0 x3)),Cw b5 cN cY cQ v1.v (q1||((x7==4)&&(!(!(bx==0))))) q2 aX bz q3 eS,Iw v1 cP dT dU]))))) (
 aK (x9=3) (
 aK (¬(((x7=6)∨(x7=7))∨(((x7=2)∧((q2=true)∧(¬((aX=x1)∧(bz=x2)))))∧(¬(bx≠0))))) (
 aq (.int .i64 6) [Yw b0 A2 b1 b2 x8,Kw b1 (aj eD (kI A0) 1) (aj dX (kI A0) ((b5:Nat)+1:Int)),Gw b2 (aj dY (kD x1 x2) 1) (aj dQ (kD x1 x2) ((b3:Nat)+1:Int)),Vw b3 x9 A3 (!(bx==0)) aO aQ aM aR aY b4 v0.v,Jw b4 A4,Rw v0 bV A5 A6 A7 A8 A9 bU cz,Cw b5 cN cY cQ v1.v q1 q2 aX bz q3 eS,Iw v1 cP dT dU]) (
 (aE (0≤bV) (
 ∀_:Nat,aE (((bV+1)*48)≤140737488355328) (
 ∀v2:V1,aq (.int .i64 0) [Yw b0 A2 b1 b2 x3,Kw b1 (aj eD (kI A0) 1) (aj dX (kI A0) ((b5:Nat)+1:Int)),Gw b2 (aj dY (kD x1 x2) 1) (aj dQ (kD x1 x2) ((b3:Nat)+1:Int)),Vw b3 0 A3 (!(bx==0)) aO aQ aM aR aY b4 v2.v,Jw b4 A4,Rw v2 (bV+1) (aG A5 (ag (bV*16)) 16 (aG (fun _=>0) 0 16 A3)) (aG A6 (ag bV) 1 (aj (fun _=>0) 0 aO)) (aG A7 (ag bV) 1 (aj (fun _=>0) 0 bx)) (aG A8 (ag bV) 1 (aj (fun _=>0) 0 x7)) (aG A9 (ag bV) 1 (aj (fun _=>0) 0 aR)) (aG bU (ag bV) 1 (aj (fun _=>0) 0 aY)) (aG cz (ag bV) 1 (aj (fun _=>0) 0 x3)),Cw b5 cN cY cQ v1.v (q1||((x7==4)&&(!(!(bx==0))))) q2 aX bz q3 eS,Iw v1 cP dT dU])))∧
 (∀_:Nat,aE (0≤bV) (
 aE (((bV+1)*48)≤140737488355328) (
 ∀v2:V1,aq (.int .i64 0) [Yw b0 A2 b1 b2 x3,Kw b1 (aj eD (kI A0) 1) (aj dX (kI A0) ((b5:Nat)+1:Int)),Gw b2 (aj dY (kD x1 x2) 1) (aj dQ (kD x1 x2) ((b3:Nat)+1:Int)),Vw b3 0 A3 (!(bx==0)) aO aQ aM aR aY b4 v2.v,Jw b4 A4,Rw v2 (bV+1) (aG A5 (ag (bV*16)) 16 (aG (fun _=>0) 0 16 A3)) (aG A6 (ag bV) 1 (aj (fun _=>0) 0 aO)) (aG A7 (ag bV) 1 (aj (fun _=>0) 0 bx)) (aG A8 (ag bV) 1 (aj (fun _=>0) 0 x7)) (aG A9 (ag bV) 1 (aj (fun _=>0) 0 aR)) (aG bU (ag bV) 1 (aj (fun _=>0) 0 aY)) (aG cz (ag bV) 1 (aj (fun _=>0) 0 x3)),Cw b5 cN cY cQ v1.v (q1||((x7==4)&&(!(!(bx==0))))) q2 aX bz q3 eS,Iw v1 cP dT dU]))))) (
 aK (x9=4) (
 aK (¬(x7=1)) (
 aq (.int .i64 6) [Yw b0 A2 b1 b2 x8,Kw b1 (aj eD (kI A0) 1) (aj dX (kI A0) ((b5:Nat)+1:Int)),Gw b2 (aj dY (kD x1 x2) 1) (aj dQ (kD x1 x2) ((b3:Nat)+1:Int)),Vw b3 x9 A3 (!(bx==0)) aO aQ aM aR aY b4 v0.v,Jw b4 A4,Rw v0 bV A5 A6 A7 A8 A9 bU cz,Cw b5 cN cY cQ v1.v q1 q2 aX bz q3 eS,Iw v1 cP dT dU]) (
 (aE (0≤bV) (
 ∀_:Nat,aE (((bV+1)*48)≤140737488355328) (
 ∀v2:V1,aq (.int .i64 0) [Yw b0 A2 b1 b2 x3,Kw b1 (aj eD (kI A0) 1) (aj dX (kI A0) ((b5:Nat)+1:Int)),Gw b2 (aj dY (kD x1 x2) 1) (aj dQ (kD x1 x2) ((b3:Nat)+1:Int)),Vw b3 0 A3 (!(bx==0)) aO aQ aM aR aY b4 v2.v,Jw b4 A4,Rw v2 (bV+1) (aG A5 (ag (bV*16)) 16 (aG (fun _=>0) 0 16 A3)) (aG A6 (ag bV) 1 (aj (fun _=>0) 0 aO)) (aG A7 (ag bV) 1 (aj (fun _=>0) 0 bx)) (aG A8 (ag bV) 1 (aj (fun _=>0) 0 x7)) (aG A9 (ag bV) 1 (aj (fun _=>0) 0 aR)) (aG bU (ag bV) 1 (aj (fun _=>0) 0 aY)) (aG cz (ag bV) 1 (aj (fun _=>0) 0 x3)),Cw b5 cN cY cQ v1.v (q1||((x7==4)&&(!(!(bx==0))))) q2 aX bz q3 eS,Iw v1 cP dT dU])))∧
 (∀_:Nat,aE (0≤bV) (
 aE (((bV+1)*48)≤140737488355328) (
 ∀v2:V1,aq (.int .i64 0) [Yw b0 A2 b1 b2 x3,Kw b1 (aj eD (kI A0) 1) (aj dX (kI A0) ((b5:Nat)+1:Int)),Gw b2 (aj dY (kD x1 x2) 1) (aj dQ (kD x1 x2) ((b3:Nat)+1:Int)),Vw b3 0 A3 (!(bx==0)) aO aQ aM aR aY b4 v2.v,Jw b4 A4,Rw v2 (bV+1) (aG A5 (ag (bV*16)) 16 (aG (fun _=>0) 0 16 A3)) (aG A6 (ag bV) 1 (aj (fun _=>0) 0 aO)) (aG A7 (ag bV) 1 (aj (fun _=>0) 0 bx)) (aG A8 (ag bV) 1 (aj (fun _=>0) 0 x7)) (aG A9 (ag bV) 1 (aj (fun _=>0) 0 aR)) (aG bU (ag bV) 1 (aj (fun _=>0) 0 aY)) (aG cz (ag bV) 1 (aj (fun _=>0) 0 x3)),Cw b5 cN cY cQ v1.v (q1||((x7==4)&&(!(!(bx==0))))) q2 aX bz q3 eS,Iw v1 cP dT dU]))))) (
 aq (.int .i64 6) [Yw b0 A2 b1 b2 x8,Kw b1 (aj eD (kI A0) 1) (aj dX (kI A0) ((b5:Nat)+1:Int)),Gw b2 (aj dY (kD x1 x2) 1) (aj dQ (kD x1 x2) ((b3:Nat)+1:Int)),Vw b3 x9 A3 (!(bx==0)) aO aQ aM aR aY b4 v0.v,Jw b4 A4,Rw v0 bV A5 A6 A7 A8 A9 bU cz,Cw b5 cN cY cQ v1.v q1 q2 aX bz q3 eS,Iw v1 cP dT dU]))))) (
 aq (.int .i64 6) [Yw b0 A2 b1 b2 x8,Kw b1 (aj eD (kI A0) 1) (aj dX (kI A0) ((b5:Nat)+1:Int)),Gw b2 (aj dY (kD x1 x2) 1) (aj dQ (kD x1 x2) ((b3:Nat)+1:Int)),Vw b3 x9 A3 (!(bx==0)) aO aQ aM aR aY b4 v0.v,Jw b4 A4,Rw v0 bV A5 A6 A7 A8 A9 bU cz,Cw b5 cN cY cQ v1.v q1 q2 aX bz q3 eS,Iw v1 cP dT dU]))))))) (
 aq (.int .i64 6) [Yw b0 A2 b1 b2 x8,Kw b1 (aj eD (kI A0) 1) (aj dX (kI A0) ((b5:Nat)+1:Int)),Gw b2 (aj dY (kD x1 x2) 1) (aj dQ (kD x1 x2) ((b3:Nat)+1:Int)),Vw b3 x9 A3 (!(bx==0)) aO aQ aM aR aY b4 v0.v,Jw b4 A4,Rw v0 bV A5 A6 A7 A8 A9 bU cz,Cw b5 cN cY cQ v1.v q1 q2 aX bz q3 eS,Iw v1 cP dT dU])) (
 aq (.int .i64 6) [Yw b0 A2 b1 b2 x8,Kw b1 (aj eD (kI A0) 1) (aj dX (kI A0) ((b5:Nat)+1:Int)),Gw b2 (aj dY (kD x1 x2) 1) (aj dQ (kD x1 x2) ((b3:Nat)+1:Int)),Vw b3 x9 A3 (!(bx==0)) aO aQ aM aR aY b4 v0.v,Jw b4 A4,Rw v0 bV A5 A6 A7 A8 A9 bU cz,Cw b5 cN cY cQ v1.v q1 q2 aX bz q3 eS,Iw v1 cP dT dU])
theorem Pk(P:Program)(aq:Value→List HP→Prop)(x0 x1 x2 x3 x4 x5 x6 x7 x8 x9 aO aQ aM aR aY bV cN cY cQ cP aX bz bx:Int)(A0 A1 A2 A3 A4 A5 A6 A7 A8 A9 bU cz dT dU eS eD dX dY dQ:Nat→Int)(q0 q1 q2 q3:Bool)(v0 v1:V1)(b0 b1 b2 b3 b4 b5:Nat)(L:Nat→LC):VC P (fun v hs=>aq v (hs.take 8)) (eE cx 36 [.ptr 0 0,Vv] hp1 MH Try.f36) {iv:=[x0,x1,x2,x3,x4,x5,x6,x7,x8,x9,aO,aQ,aM,aR,aY,bV,cN,cY,cQ,cP,aX,bz,bx],av:=[A0,A1,A2,A3,A4,A5,A6,A7,A8,A9,bU,cz,dT,dU,eS,eD,dX,dY,dQ],bo:=[q0,q1,q2,q3],bv:=[b0,b1,b2,b3,b4,b5],vv:=[v0,v1]} L=GM P aq x0 x1 x2 x3 x4 x5 x6 x7 x8 x9 aO aQ aM aR aY bV cN cY cQ cP aX bz bx A0 A1 A2 A3 A4 A5 A6 A7 A8 A9 bU cz dT dU eS eD dX dY dQ q0 q1 q2 q3 v0 v1 b0 b1 b2 b3 b4 b5:=by kernel_rfl
structure Ev where
 kind:Int
 da:Int
 dd:Int
 at_:Int
 id:Nat→Int
 acc:Int
 pa:Int
 pd:Int
 key:Nat→Int
 oc:Int
structure Dv where
 st:Int
 id:Nat→Int
 out:Int
 acc:Int
 pa:Int
 pd:Int
 aP:Int
 fo:Int
 had:Nat→Int
 n:Int
 r0:Nat→Int
 r1:Nat→Int
 r2:Nat→Int
 r3:Nat→Int
 r4:Nat→Int
 r5:Nat→Int
 r6:Nat→Int
structure Cl where
 ca:Int
 cd:Int
 acc:Int
 n:Int
 j0:Nat→Int
 j1:Nat→Int
 lQ:Bool
 bb:Bool
 aa:Int
 ad:Int
 known:Bool
 print:Nat→Int
structure Sy where
 dv:Nat→Int
 last:Int
 xe:Nat→Int
 xg:Nat→Int
 vH:Nat→Int
 vI:Nat→Int
abbrev qE(id:Nat→Int):Nat:=bG ((ag5 16).map id)
abbrev oQ(a d:Int):Nat:=bG ((ag5 2).map (aj (aj (fun _=>0) 0 a) 1 d))
def Ev.bare(e:Ev):Prop:=(((e.kind=3∨e.kind=4)∨(e.pa=0∧e.pd=0))∧(e.kind=4∨∀j,j<32→e.key j=0))∧(e.kind=5∨e.oc=0)
def Cl.has(c:Cl)(a d:Int):Prop:= ∃j:Nat,j<c.n.toNat∧c.j0 j=a∧c.j1 j=d
def Dv.js(d:Dv)(e:Ev)(st:Int):Dv:=
 {d with st:=st,id:=e.id,out:=if st=1 then 1 else 0,acc:=e.acc,aP:=e.at_,fo:=0,pa:=0,pd:=0,had:=aj d.had (qE e.id) 1}
def Dv.ft(d:Dv)(e:Ev):Dv:={d with st:=3,pa:=e.pa,pd:=e.pd}
def Cl.elsewhere(c:Cl)(e:Ev):Prop:=c.bb=true∧¬(c.aa=e.da∧c.ad=e.dd)
def nk(e:Ev)(d:Dv)(c:Cl):Prop:=
 if d.st=1 then((e.oc=3∨e.oc=5)∨e.oc=7)∨(e.oc=4∧c.lQ=true)else
 if d.st=2 then(e.oc=3∨e.oc=4)∨(e.oc=2∧c.elsewhere e)else
 if d.st=3 then(e.oc=6∨e.oc=7)∨((e.oc=2∧c.elsewhere e)∧¬d.out≠0)else
 if d.st=4 then e.oc=1 else False
def Cl.ends(c:Cl)(e:Ev)(d:Dv):Cl:={c with lQ:=c.lQ||((e.oc==4)&&(!(!(d.out==0))))}
def wV(f:Nat→Int)(n x:Int):Nat→Int:=aG f (ag n) 1 (aj (fun _=>0) 0 x)
def Dv.ends(d:Dv)(e:Ev):Dv:=
 {d with st:=0,n:=d.n+1,r0:=aG d.r0 (ag (d.n*16)) 16 (aG (fun _=>0) 0 16 d.id),r1:=wV d.r1 d.n d.acc,r2:=wV d.r2 d.n d.out,r3:=wV d.r3 d.n e.oc,r4:=wV d.r4 d.n d.aP,r5:=wV d.r5 d.n d.fo,r6:=wV d.r6 d.n e.at_}
def pj(e:Ev)(d:Dv)(c:Cl):Prop:=
 if d.out≠0 then¬(((((¬d.st=3)∨(¬(d.pa=e.pa∧d.pd=e.pd)))∨(¬c.bb=true))∨(¬(c.aa=e.pa∧c.ad=e.pd)))∨(c.known=true∧¬∀j,j<32→c.print j=e.key j))
 else¬(((((¬d.st=3)∨(¬(d.pa=e.pa∧d.pd=e.pd)))∨(¬c.bb=true))∨(¬(c.aa=e.da∧c.ad=e.dd)))∨(c.known=true∧¬∀j,j<32→c.print j=e.key j))
def Dv.active(d:Dv)(e:Ev):Dv:={d with st:=4,fo:=e.at_}
def Cl.active(c:Cl)(e:Ev):Cl:={c with known:=true,print:=e.key}
def Cl.takes(c:Cl)(e:Ev):Cl:={c with bb:=true,aa:=e.pa,ad:=e.pd}
def Cl.iI(c:Cl)(e:Ev):Cl:={c with n:=c.n+1,j0:=aj c.j0 c.n.toNat e.da,j1:=aj c.j1 c.n.toNat e.dd}
def Cl.new(e:Ev):Cl:={ca:=e.da,cd:=e.dd,acc:=e.acc,n:=0,j0:=fun _=>0,j1:=fun _=>0,lQ:=false,bb:=false,aa:=0,ad:=0,known:=false,print:=fun _=>0}
open Classical in
noncomputable def dt(e:Ev)(last:Int)(d:Dv)(c:Cl):Option (Dv×Cl):=
 if e.at_<last then none else
 if¬e.bare then none else
 if e.kind=1 then none else
 if e.kind=2 then(if((¬d.st=0∨d.had (qE e.id)≠0)∨¬c.acc=e.da)∨¬c.ca=e.acc then none else some (d.js e 2,c))else
 if(d.st=0∨¬∀j,j<16→d.id j=e.id j)∨¬d.acc=e.acc then none else
 if e.kind=3 then
  (if(d.st=1∧¬c.bb=true)∧c.has e.pa e.pd then some (d.ft e,c.takes e)else
   if d.st=2∧e.pa=c.ca∧e.pd=c.cd then some (d.ft e,c.iI e)else none)else
 if e.kind=4 then(if pj e d c then some (d.active e,c.active e)else none)else
 if e.kind=5 then(if nk e d c then some (d.ends e,c.ends e d)else none)else none
open Classical in
noncomputable def np(e:Ev)(dv:Nat→Int)(last:Int)(d:Dv):Option Dv:=
 if e.at_<last then none else
 if¬e.bare then none else
 if e.kind=1∧d.st=0∧(e.acc<8∧0<dv e.acc.toNat∧dv e.acc.toNat≤4)∧¬e.acc=e.da then some (d.js e 1)else none
def Ev.val(e:Ev):Value:= .agg (.int .u8 e.kind::(.int .u8 e.da::(.int .u8 e.dd::(.int .u64 e.at_::(ak .u8 16 e.id++(.int .u8 e.acc::(.int .u8 e.pa::(.int .u8 e.pd::(ak .u8 32 e.key++([.int .u8 e.oc])))))))))).toArray
abbrev YI:List IntKind:=[.u8,.u8,.u8,.u8,.u8,.u8,.u8,.u8,.u8,.u8,.u8,.u8,.u8,.u8,.u8,.u8]
def iO(b h:Nat)(v:V1)(d:Dv):List HP:=
 [ao b true (.int .u8 d.st::(ak .u8 16 d.id++([.bool (!(d.out==0)),.int .u8 d.acc,.int .u8 d.pa,.int .u8 d.pd,.int .u64 d.aP,.int .u64 d.fo,.map (some h),v.v]))),
  bK h YI true true ([]) (fun i=> !(d.had i==0)) (cc []),
  aC true 85 22 v.v (ag d.n) (aT (ag d.n) [ax .u8 16 d.r0,ax .u8 1 d.r1,oh 1 d.r2,ax .u8 1 d.r3,ax .u64 1 d.r4,ax .u64 1 d.r5,ax .u64 1 d.r6])]
def lz(b:Nat)(v:V1)(c:Cl):List HP:=
 [ao b true (.int .u8 c.ca::(.int .u8 c.cd::(.int .u8 c.acc::(v.v::(.bool c.lQ::(.bool c.bb::(.int .u8 c.aa::(.int .u8 c.ad::(.bool c.known::(ak .u8 32 c.print++([]))))))))))),
  aC true 30 2 v.v (ag c.n) (aT (ag c.n) [ax .u8 1 c.j0,ax .u8 1 c.j1])]
def dE(b mc ma:Nat)(s:Sy):List HP:=
 [ao b true (ak .u8 8 s.dv++([.map (some mc),.map (some ma),.int .u64 s.last])),
  bK mc YI true false ([.pointer none]) (fun i=> !(s.xe i==0)) (cc [pJ 1 s.xg]),
  bK ma [.u8,.u8] true false ([.pointer none]) (fun i=> !(s.vH i==0)) (cc [pJ 1 s.vI])]
theorem mS{f:Nat→Int}{i:Nat}{x:Int}(h:f i=x):aj f i x=f:=by
 funext j;unfold aj;split
 ·rename_i e;rw [e,h]
 ·rfl
open Go.RX Go.Proofs
theorem aK.mk{c t e:Prop}(h1:c→t)(h2: ¬c→e):aK c t e:=⟨h1,h2⟩
theorem aE.mk{b r:Prop}(h1:b)(h2:b→r):aE b r:=⟨h1,h2⟩
theorem aB.Pl(a:List HP)(t s:Nat):aB a (a++[aC true t s (.slice none 0 0) 0 []]):=by
 intro w Fs ⟨S,hS⟩;have hn:(aC true t s (.slice none 0 0) 0 []).p w fun _=>False:=⟨by simpa using kO w t s,fun k=>by simp [Value.ownBlock]⟩
 refine⟨fun i=>if i<a.length then S i else if i=a.length then fun _=>False else S (i - 1),⟨?_,?_⟩⟩
 ·intro i h hi;by_cases h1:i<a.length
  ·rw [ahf,agC h1]at hi;simp only [h1,if_true];exact hS.at_ i h (by rw [agC h1];exact hi)
  ·rw [ahf,agD (by omega)]at hi;by_cases h2:i=a.length
   ·subst h2;simp at hi;subst hi;simp only [Nat.lt_irrefl,if_false,if_true];exact⟨hn,fun _ h=>h.elim⟩
   ·have e:i - a.length=(i - a.length - 1)+1:=by omega
    rw [e]at hi;simp only [h1,h2,if_false];have oq:Fs[i - a.length - 1]? =some h:=by simpa using hi
    have:=hS.at_ (i - 1) h (by rw [agD (by omega),show i - 1 - a.length=i - a.length - 1 by omega];exact oq);exact this
 ·intro i j x y eJ hi hj hw k;have key: ∀(i:Nat) (x:HP),(a++[aC true t s (.slice none 0 0) 0 []]++Fs)[i]? =some x→i≠a.length→(a++Fs)[if i<a.length then i else i - 1]? =some x:=by
   intro i x hi h2;by_cases h1:i<a.length
   ·rw [ahf,agC h1]at hi;simp only [h1,if_true];rw [agC h1];exact hi
   ·rw [ahf,agD (by omega)]at hi;have e:i - a.length=(i - a.length - 1)+1:=by omega
    rw [e]at hi;simp only [h1,if_false];rw [agD (by omega),show i - 1 - a.length=i - a.length - 1 by omega];simpa using hi
  by_cases hia:i=a.length
  ·subst hia;intro hk;simp at hk
  ·by_cases Pm:j=a.length
   ·subst Pm;intro _ hk;simp at hk
   ·have q1:=key i x hi hia;have q2:=key j y hj Pm;have e1:(if i<a.length then S i else if i=a.length then fun _=>False else S (i - 1))=S (if i<a.length then i else i - 1):=by split<;>simp
    have e2:(if j<a.length then S j else if j=a.length then fun _=>False else S (j - 1))=S (if j<a.length then j else j - 1):=by split<;>simp
    rw [e1,e2];refine hS.apart _ _ x y ?_ q1 q2 hw k;split<;>split<;>omega
def rA:V1:=⟨.slice none 0 0,rfl⟩
def Sy.yY(s:Sy)(e:Ev)(has ptr:Int):Sy:={s with vH:=aj s.vH (oQ e.da e.dd) has,vI:=aj s.vI (oQ e.da e.dd) ptr}
def Sy.xh(s:Sy)(e:Ev)(has ptr:Int):Sy:={s with xe:=aj s.xe (qE e.id) has,xg:=aj s.xg (qE e.id) ptr}
theorem Sy.xi{s:Sy}{e:Ev}{x y:Int}(h1:s.vH (oQ e.da e.dd)=x)(h2:s.vI (oQ e.da e.dd)=y):s.yY e x y=s:=by
 unfold Sy.yY;rw [mS h1,mS h2]
theorem Sy.DH{s:Sy}{e:Ev}{x y:Int}(h1:s.xe (qE e.id)=x)(h2:s.xg (qE e.id)=y):s.xh e x y=s:=by
 unfold Sy.xh;rw [mS h1,mS h2]
def MI(b mc ma bd bh bc:Nat)(v v1:V1)(s:Sy)(e:Ev)(d:Dv)(c:Cl):Env:=
 {iv:=[e.kind,e.da,e.dd,e.at_,e.acc,e.pa,e.pd,e.oc,s.last,d.st,d.acc,d.pa,d.pd,d.aP,d.fo,d.n,c.ca,c.cd,c.acc,c.n,c.aa,c.ad,d.out],av:=[e.id,e.key,s.dv,d.id,d.had,d.r0,d.r1,d.r2,d.r3,d.r4,d.r5,d.r6,c.j0,c.j1,c.print,s.xe,s.xg,s.vH,s.vI],bo:=[false,c.lQ,c.bb,c.known],bv:=[b,mc,ma,bd,bh,bc],vv:=[v,v1]}
def wv:Dv:=⟨0,fun _=>0,0,0,0,0,0,0,fun _=>0,0,fun _=>0,fun _=>0,fun _=>0,fun _=>0,fun _=>0,fun _=>0,fun _=>0⟩
def ZV:Cl:=⟨0,0,0,0,fun _=>0,fun _=>0,false,false,0,0,false,fun _=>0⟩
theorem GN(b mc ma:Nat)(s:Sy)(e:Ev)(h1:s.vH (oQ e.da e.dd)=0)(h2:s.vI (oQ e.da e.dd)=0):
  au agQ 36 [.pointer (some ⟨b,0,none⟩),e.val] (dE b mc ma s) (fun r hs=>r= .int .i64 6∧hs=dE b mc ma s):=by
 have es:=Sy.xi h1 h2;refine au.post (p:=fun r hs=> ∃ey,aB hs ey∧r= .int .i64 6∧ey=dE b mc ma s) ?_ fun v hs ⟨ey,q1,q2,q3⟩=>⟨ey,q1,q2,q3⟩
 have key:=au.d_ (C:=cx) (args:=[.ptr 0 0,Vv]) (hp:=T9) (aS:=MH) (ρ:=MI b mc ma 0 0 0 V1.nil V1.nil s e wv ZV) sU iS sV Try.func36 (by constructor<;>rfl) rfl
  (Ph agQ (fun r hs=> ∃ey,aB hs ey∧r= .int .i64 6∧ey=dE b mc ma (s.yY e 0 0)) _ _ _ _ _ _ _ _ _ _ _ _ _ _ _ _ _ _ _ _ _ _ _ _ _ _ _ _ _ _ _ _ _ _ _ _ _ _ _ _ _ _ _ _ _ _ _ _ _ _ _ _ _ _ _) (by
   unfold GJ
   intros
   exact⟨_,aB.sub (List.sublist_append_left (dE b mc ma (s.yY e 0 0)) _),rfl,rfl⟩)
 rw [show T9.map (Ck.den (MI b mc ma 0 0 0 V1.nil V1.nil s e wv ZV))=dE b mc ma (s.yY e 0 0)from rfl,es]at key;exact key
def Pn(b mc ma bd bh:Nat)(v:V1)(s:Sy)(e:Ev)(d:Dv)(r:Value)(hs:List HP):Prop:=
 (r= .int .i64 6∧np e s.dv s.last d=none∧hs=dE b mc ma s++iO bd bh v d)∨
 (r= .int .i64 0∧∃d' bc v1,np e s.dv s.last d=some d'∧hs=dE b mc ma {s.xh e 1 ((bc:Nat)+1)with last:=e.at_}++iO bd bh v d'++lz bc v1 (Cl.new e))
theorem GO(b mc ma bd bh:Nat)(v:V1)(s:Sy)(e:Ev)(d:Dv)(h1:s.vH (oQ e.da e.dd)=1)(h2:s.vI (oQ e.da e.dd)=(bd:Nat)+1)(h3:s.xe (qE e.id)=0)(h4:s.xg (qE e.id)=0)(ha:0≤e.acc)(hb:e.acc<256):
  au agQ 36 [.pointer (some ⟨b,0,none⟩),e.val] (dE b mc ma s++iO bd bh v d) (Pn b mc ma bd bh v s e d):=by
 have es:(s.yY e 1 ((bd:Nat)+1)).xh e 0 0=s:=by rw [Sy.xi h1 h2];exact Sy.DH h3 h4
 generalize iX:(s.yY e 1 ((bd:Nat)+1)).xh e 0 0=s1 at es;have key:=au.d_ (C:=cx) (args:=[.ptr 0 0,Vv]) (hp:=T7) (aS:=MH) (ρ:=MI b mc ma bd bh 0 v V1.nil s e d ZV) sU iS sV Try.func36 (by constructor<;>rfl) rfl
  (Pj agQ (fun r hs=> ∃ey,aB hs ey∧Pn b mc ma bd bh v s e d r ey) _ _ _ _ _ _ _ _ _ _ _ _ _ _ _ _ _ _ _ _ _ _ _ _ _ _ _ _ _ _ _ _ _ _ _ _ _ _ _ _ _ _ _ _ _ _ _ _ _ _ _ _ _ _ _) (by
   unfold GK;have n6: ∀{x:List HP},np e s.dv s.last d=none→(x=dE b mc ma s1++iO bd bh v d)→∀y,∃ey,aB (x++y) ey∧Pn b mc ma bd bh v s e d (.int .i64 6) ey:=by
    intro x h hx y;subst hx;exact⟨_,aB.sub (List.sublist_append_left _ _),.inl ⟨rfl,h,by rw [es]⟩⟩
   subst iX;refine fun _=>aK.mk (fun q1=>?_) fun q1=>?_
   ·refine fun _=>aK.mk (fun q2=>?_) fun q2=>?_
    ·refine fun _=>aK.mk (fun q3=>?_) fun q3=>?_
     ·refine aK.mk (fun q4=>?_) fun q4=>?_
      ·repeat refine aE.mk (by omega) fun _=>?_
       refine aK.mk (fun q5=>?_) fun q5=>?_
       ·refine n6 ?_ rfl _;rw [np,if_neg q1,if_neg (agE.2 (show e.bare from q2)),if_neg (fun h=>q5.elim (fun k=>k ⟨⟨h.2.2.1.1,h.2.2.1.2.1⟩,h.2.2.1.2.2⟩) h.2.2.2)]
       ·intro b9 jI;have q6:=not_or.1 q5;have q7:=agE.1 q6.1;refine⟨dE b mc ma {((s.yY e 1 ((bd:Nat)+1)).xh e 0 0).xh e 1 ((b9:Nat)+1)with last:=e.at_}++iO bd bh v (d.js e 1)++lz b9 rA (Cl.new e),aB.trans (aB.Pl _ 30 2) (aB.sub ?_),.inr ⟨rfl,d.js e 1,b9,rA,?_,by rw [es]⟩⟩
        ·repeat first | exact List.Sublist.slnil | refine List.Sublist.cons_cons _ ?_ | refine List.Sublist.cons _ ?_
        ·rw [np,if_neg q1,if_neg (agE.2 (show e.bare from q2)),if_pos ⟨q3,q4,⟨q7.1.1,q7.1.2,q7.2⟩,q6.2⟩]
      ·refine n6 ?_ rfl _;rw [np,if_neg q1,if_neg (agE.2 (show e.bare from q2)),if_neg (fun h=>q4 h.2.1)]
     ·refine n6 ?_ rfl _;rw [np,if_neg q1,if_neg (agE.2 (show e.bare from q2)),if_neg (fun h=>q3 h.1)]
    ·refine n6 ?_ rfl _;rw [np,if_neg q1,if_pos (show¬e.bare from q2)]
   ·refine n6 ?_ rfl _;rw [np,if_pos (agE.1 q1)])
 have pre:T7.map (Ck.den (MI b mc ma bd bh 0 v V1.nil s e d ZV))=dE b mc ma ((s.yY e 1 ((bd:Nat)+1)).xh e 0 0)++iO bd bh v d:=rfl;rw [pre,iX,es]at key;exact key.post fun _ _ h=>h
end Go.RX.So
