/- The group's functions: what is left to be shown; printed by a program of ours (wip/tools/g5.lean). · The group's functions: what is left to be shown; printed by a program of ours (wip/tools/g5.lean). -/
import Derived.Test.YtfnaoeleljhmhaaGreatM26

namespace Go.RX.Gu
open Go.RX Go.Proofs Go.RX.Gb
set_option maxRecDepth 100000
def st_rtake(Post:PT)(x0 x1 x2 x3 x4 x5 x6 x7 x8 x9 x10 x11 x12:Int)(A0 A1 A2 A3 A4 A5 A6 A7 A8 A9 A10 A11 A12 A13 A14 A15 A16 A17:Nat→Int)(v0 v1 v2:V1):Prop:=
 ∀b0 b1 b2 b3:Nat,Fork ((((x9<8)∧(x10<4))∧(0<x8))∧(x8≤1099511627776)) (
 ∀b4 b5:Nat,I64 x9 ((
 I64 (4*x9) ((
 I64 x10 ((
 I64 ((4*x9)+x10) ((
 Fork (((¬(x11=(IntKind.wrap .u64 ((IntKind.wrap .u64 (32*x8))+(IntKind.wrap .u64 ((4*x9)+x10))))))∨((x9=x0)∧(x10=x1)))∨((x2≠0)∧(¬(∀j,j<16→A17 j=A0 j)))) (
 Post (.tuple #[.agg (rC x0 x1 (!(x2==0)) A0 x3 v0.v v1.v v2.v x4).toArray,.int .i64 2]) [dK true v0 x5 A1 A2,rK true v1 x6 A3 A4 A5 A6 A7 A8 A9 A10,qK true v2 x7 A11 A12 A13 A14 A15 A16,rowHP b0 true (rC x0 x1 (!(x2==0)) A0 x3 v0.v v1.v v2.v x4),rowHP b1 true (List.append (segCells .u8 16 A17) ([.int .u64 x8,.int .u8 x9,.int .u8 x10,.int .u64 x11,.int .u64 x12])),rowHP b2 true (rC x0 x1 (!(x2==0)) A0 x3 v0.v v1.v v2.v x4),rowHP b3 true (List.append (segCells .u8 16 A17) ([.int .u64 x8,.int .u8 x9,.int .u8 x10,.int .u64 x11,.int .u64 x12])),rowHP b4 true ([.int .u8 x9,.int .u8 x10]),rowHP b5 true ([.int .u8 x9,.int .u8 x10])]) (
 Fork ((¬(x2≠0))∨(x3<x8)) (
 ∃(I0x6:Ext→Prop) (m0x6:Ext→Nat),(∃x13:Int,x13=0∧I0x6 ⟨[],[],[x13],[],[],[],[]⟩)∧
 ∀x13:Int,I0x6 ⟨[],[],[x13],[],[],[],[]⟩→
 Need (0≤x7) (
 Fork (x13<x7) (
 Need (0≤x13) (
 Fork ((∀j,j<16→(shiftF A11 (Int.toNat (x13*16))) j=A17 j)∧(((A12 (Int.toNat x13))=x8)∧(((A13 (Int.toNat x13))=x9)∧(((A14 (Int.toNat x13))=x10)∧(((A15 (Int.toNat x13))=x11)∧((A16 (Int.toNat x13))=x12)))))) (
 Post (.tuple #[.agg (rC x0 x1 (!(x2==0)) A0 x3 v0.v v1.v v2.v x4).toArray,.int .i64 0]) [dK true v0 x5 A1 A2,rK true v1 x6 A3 A4 A5 A6 A7 A8 A9 A10,qK true v2 x7 A11 A12 A13 A14 A15 A16,rowHP b0 true (rC x0 x1 (!(x2==0)) A0 x3 v0.v v1.v v2.v x4),rowHP b1 true (List.append (segCells .u8 16 A17) ([.int .u64 x8,.int .u8 x9,.int .u8 x10,.int .u64 x11,.int .u64 x12])),rowHP b2 true (rC x0 x1 (!(x2==0)) A0 x3 v0.v v1.v v2.v x4),rowHP b3 true (List.append (segCells .u8 16 A17) ([.int .u64 x8,.int .u8 x9,.int .u8 x10,.int .u64 x11,.int .u64 x12])),rowHP b4 true ([.int .u8 x9,.int .u8 x10]),rowHP b5 true ([.int .u8 x9,.int .u8 x10])]) (
 Fork ((A15 (Int.toNat x13))=x11) (
 Post (.tuple #[.agg (rC x0 x1 (!(x2==0)) A0 x3 v0.v v1.v v2.v x4).toArray,.int .i64 6]) [dK true v0 x5 A1 A2,rK true v1 x6 A3 A4 A5 A6 A7 A8 A9 A10,qK true v2 x7 A11 A12 A13 A14 A15 A16,rowHP b0 true (rC x0 x1 (!(x2==0)) A0 x3 v0.v v1.v v2.v x4),rowHP b1 true (List.append (segCells .u8 16 A17) ([.int .u64 x8,.int .u8 x9,.int .u8 x10,.int .u64 x11,.int .u64 x12])),rowHP b2 true (rC x0 x1 (!(x2==0)) A0 x3 v0.v v1.v v2.v x4),rowHP b3 true (List.append (segCells .u8 16 A17) ([.int .u64 x8,.int .u8 x9,.int .u8 x10,.int .u64 x11,.int .u64 x12])),rowHP b4 true ([.int .u8 x9,.int .u8 x10]),rowHP b5 true ([.int .u8 x9,.int .u8 x10])]) (
 I64 (x13+1) ((
 ∃x13':Int,x13'=(x13+1)∧I0x6 ⟨[],[],[x13'],[],[],[],[]⟩∧m0x6 ⟨[],[],[x13'],[],[],[],[]⟩<m0x6 ⟨[],[],[x13],[],[],[],[]⟩)))))) (
 Fork (64≤x7) (
 Post (.tuple #[.agg (rC x0 x1 (!(x2==0)) A0 x3 v0.v v1.v v2.v x4).toArray,.int .i64 7]) [dK true v0 x5 A1 A2,rK true v1 x6 A3 A4 A5 A6 A7 A8 A9 A10,qK true v2 x7 A11 A12 A13 A14 A15 A16,rowHP b0 true (rC x0 x1 (!(x2==0)) A0 x3 v0.v v1.v v2.v x4),rowHP b1 true (List.append (segCells .u8 16 A17) ([.int .u64 x8,.int .u8 x9,.int .u8 x10,.int .u64 x11,.int .u64 x12])),rowHP b2 true (rC x0 x1 (!(x2==0)) A0 x3 v0.v v1.v v2.v x4),rowHP b3 true (List.append (segCells .u8 16 A17) ([.int .u64 x8,.int .u8 x9,.int .u8 x10,.int .u64 x11,.int .u64 x12])),rowHP b4 true ([.int .u8 x9,.int .u8 x10]),rowHP b5 true ([.int .u8 x9,.int .u8 x10])]) (
 (∀_:V1,(U47 (x7*48) (
 ∀(_:V1) (b6:Nat),U47 ((x7+1)*48) (
 ∀v5:V1,Post (.tuple #[.agg (rC x0 x1 (!(x2==0)) A0 x3 v0.v v1.v v5.v x4).toArray,.int .i64 0]) [dK true v0 x5 A1 A2,rK true v1 x6 A3 A4 A5 A6 A7 A8 A9 A10,qK true v2 x7 A11 A12 A13 A14 A15 A16,rowHP b0 true (rC x0 x1 (!(x2==0)) A0 x3 v0.v v1.v v5.v x4),rowHP b1 true (List.append (segCells .u8 16 A17) ([.int .u64 x8,.int .u8 x9,.int .u8 x10,.int .u64 x11,.int .u64 x12])),rowHP b2 true (rC x0 x1 (!(x2==0)) A0 x3 v0.v v1.v v5.v x4),rowHP b3 true (List.append (segCells .u8 16 A17) ([.int .u64 x8,.int .u8 x9,.int .u8 x10,.int .u64 x11,.int .u64 x12])),rowHP b4 true ([.int .u8 x9,.int .u8 x10]),rowHP b5 true ([.int .u8 x9,.int .u8 x10]),qK true v5 (x7+1) (splF A11 (Int.toNat (x7*16)) 16 A17) (updF A12 (Int.toNat x7) x8) (updF A13 (Int.toNat x7) x9) (updF A14 (Int.toNat x7) x10) (updF A15 (Int.toNat x7) x11) (updF A16 (Int.toNat x7) x12),rowHP b6 true (List.append (segCells .u8 16 A17) ([.int .u64 x8,.int .u8 x9,.int .u8 x10,.int .u64 x11,.int .u64 x12]))])))∧
 (∀b6:Nat,U47 (x7*48) (
 ∀_:V1,U47 ((x7+1)*48) (
 ∀v5:V1,Post (.tuple #[.agg (rC x0 x1 (!(x2==0)) A0 x3 v0.v v1.v v5.v x4).toArray,.int .i64 0]) [dK true v0 x5 A1 A2,rK true v1 x6 A3 A4 A5 A6 A7 A8 A9 A10,qK true v2 x7 A11 A12 A13 A14 A15 A16,rowHP b0 true (rC x0 x1 (!(x2==0)) A0 x3 v0.v v1.v v5.v x4),rowHP b1 true (List.append (segCells .u8 16 A17) ([.int .u64 x8,.int .u8 x9,.int .u8 x10,.int .u64 x11,.int .u64 x12])),rowHP b2 true (rC x0 x1 (!(x2==0)) A0 x3 v0.v v1.v v5.v x4),rowHP b3 true (List.append (segCells .u8 16 A17) ([.int .u64 x8,.int .u8 x9,.int .u8 x10,.int .u64 x11,.int .u64 x12])),rowHP b4 true ([.int .u8 x9,.int .u8 x10]),rowHP b5 true ([.int .u8 x9,.int .u8 x10]),qK true v5 (x7+1) (splF A11 (Int.toNat (x7*16)) 16 A17) (updF A12 (Int.toNat x7) x8) (updF A13 (Int.toNat x7) x9) (updF A14 (Int.toNat x7) x10) (updF A15 (Int.toNat x7) x11) (updF A16 (Int.toNat x7) x12),rowHP b6 true (List.append (segCells .u8 16 A17) ([.int .u64 x8,.int .u8 x9,.int .u8 x10,.int .u64 x11,.int .u64 x12]))]))))∧
 (∀(b6:Nat) (_:V1),U47 (x7*48) (
 ∀_:V1,U47 ((x7+1)*48) (
 ∀v5:V1,Post (.tuple #[.agg (rC x0 x1 (!(x2==0)) A0 x3 v0.v v1.v v5.v x4).toArray,.int .i64 0]) [dK true v0 x5 A1 A2,rK true v1 x6 A3 A4 A5 A6 A7 A8 A9 A10,qK true v2 x7 A11 A12 A13 A14 A15 A16,rowHP b0 true (rC x0 x1 (!(x2==0)) A0 x3 v0.v v1.v v5.v x4),rowHP b1 true (List.append (segCells .u8 16 A17) ([.int .u64 x8,.int .u8 x9,.int .u8 x10,.int .u64 x11,.int .u64 x12])),rowHP b2 true (rC x0 x1 (!(x2==0)) A0 x3 v0.v v1.v v5.v x4),rowHP b3 true (List.append (segCells .u8 16 A17) ([.int .u64 x8,.int .u8 x9,.int .u8 x10,.int .u64 x11,.int .u64 x12])),rowHP b4 true ([.int .u8 x9,.int .u8 x10]),rowHP b5 true ([.int .u8 x9,.int .u8 x10]),rowHP b6 true (List.append (segCells .u8 16 A17) ([.int .u64 x8,.int .u8 x9,.int .u8 x10,.int .u64 x11,.int .u64 x12])),qK true v5 (x7+1) (splF A11 (Int.toNat (x7*16)) 16 A17) (updF A12 (Int.toNat x7) x8) (updF A13 (Int.toNat x7) x9) (updF A14 (Int.toNat x7) x10) (updF A15 (Int.toNat x7) x11) (updF A16 (Int.toNat x7) x12)]))))))) (
 Fork (x8<x3) (
 Post (.tuple #[.agg (rC x0 x1 (!(x2==0)) A0 x3 v0.v v1.v v2.v x4).toArray,.int .i64 241]) [dK true v0 x5 A1 A2,rK true v1 x6 A3 A4 A5 A6 A7 A8 A9 A10,qK true v2 x7 A11 A12 A13 A14 A15 A16,rowHP b0 true (rC x0 x1 (!(x2==0)) A0 x3 v0.v v1.v v2.v x4),rowHP b1 true (List.append (segCells .u8 16 A17) ([.int .u64 x8,.int .u8 x9,.int .u8 x10,.int .u64 x11,.int .u64 x12])),rowHP b2 true (rC x0 x1 (!(x2==0)) A0 x3 v0.v v1.v v2.v x4),rowHP b3 true (List.append (segCells .u8 16 A17) ([.int .u64 x8,.int .u8 x9,.int .u8 x10,.int .u64 x11,.int .u64 x12])),rowHP b4 true ([.int .u8 x9,.int .u8 x10]),rowHP b5 true ([.int .u8 x9,.int .u8 x10])]) (
 Cl 65 [.agg (List.append (segCells .u8 16 A0) ([.int .u64 x3,v0.v])).toArray,.agg #[.int .u8 x0,.int .u8 x1]] [dK true v0 x5 A1 A2] fun x hs l=> ∃q0:Bool,x= .bool q0∧hs=l∧
 Fork (q0=true) (
 Cl 65 [.agg (List.append (segCells .u8 16 A0) ([.int .u64 x3,v0.v])).toArray,.agg #[.int .u8 x9,.int .u8 x10]] [dK true v0 x5 A1 A2] fun x hs l=> ∃q1:Bool,x= .bool q1∧hs=l∧
 Fork (¬(q1=true)) (
 Post (.tuple #[.agg (rC x0 x1 (!(x2==0)) A0 x3 v0.v v1.v v2.v x4).toArray,.int .i64 240]) [dK true v0 x5 A1 A2,rK true v1 x6 A3 A4 A5 A6 A7 A8 A9 A10,qK true v2 x7 A11 A12 A13 A14 A15 A16,rowHP b0 true (rC x0 x1 (!(x2==0)) A0 x3 v0.v v1.v v2.v x4),rowHP b1 true (List.append (segCells .u8 16 A17) ([.int .u64 x8,.int .u8 x9,.int .u8 x10,.int .u64 x11,.int .u64 x12])),rowHP b2 true (rC x0 x1 (!(x2==0)) A0 x3 v0.v v1.v v2.v x4),rowHP b3 true (List.append (segCells .u8 16 A17) ([.int .u64 x8,.int .u8 x9,.int .u8 x10,.int .u64 x11,.int .u64 x12])),rowHP b4 true ([.int .u8 x9,.int .u8 x10]),rowHP b5 true ([.int .u8 x9,.int .u8 x10])]) (
 Cl 24 [.agg (rC x0 x1 (!(x2==0)) A0 x3 v0.v v1.v v2.v x4).toArray,.agg #[.int .u8 x9,.int .u8 x10],.int .u64 x8] [rK true v1 x6 A3 A4 A5 A6 A7 A8 A9 A10] fun x hs l=> ∃x13:Int,x= .int .i64 x13∧hs=l∧
 Fork (x13<0) (
 ∀b6 b7 b8:Nat,∃(I0x14:Ext→Prop) (m0x14:Ext→Nat),(∃x14:Int,x14=0∧I0x14 ⟨[],[],[x14],[],[],[],[]⟩)∧
 ∀x14:Int,I0x14 ⟨[],[],[x14],[],[],[],[]⟩→
 Need (0≤x6) (
 Need ((¬(x14<x6))∨(0≤x14)) (
 Need ((¬(x14<x6))∨(x14<x6)) (
 Need ((¬(x14<x6))∨(0≤x14)) (
 Need ((¬(x14<x6))∨(x14<x6)) (
 Need ((¬(x14<x6))∨(0≤x14)) (
 Need ((¬(x14<x6))∨(x14<x6)) (
 Need ((¬(x14<x6))∨(0≤x14)) (
 Need ((¬(x14<x6))∨(x14<x6)) (
 Fork ((x14<x6)∧((A7 (Int.toNat x14))<x11)) (
 I64 (x14+1) ((
 ∃x14':Int,x14'=(x14+1)∧I0x14 ⟨[],[],[x14'],[],[],[],[]⟩∧m0x14 ⟨[],[],[x14'],[],[],[],[]⟩<m0x14 ⟨[],[],[x14],[],[],[],[]⟩))) (
 Need (0≤x14) (
 Need (x14≤x6) (
 (∀_:V1,(U47 (x14*64) (
 ∀(_:V1) (b9:Nat),U47 ((x14+1)*64) (
 ∀v5:V1,Need (0≤(x6 - x14)) (
 Need (0≤(x14+1)) (
 Need (0≤(x6 - x14)) (
 Need ((((x14+1)+(x6 - x14))*64)≤140737488355328) (
 ∀v6:V1,Post (.tuple #[.agg (rC x0 x1 (!(x2==0)) A0 x3 v0.v v6.v v2.v x4).toArray,.int .i64 0]) [dK true v0 x5 A1 A2,rK true v1 x6 A3 A4 A5 A6 A7 A8 A9 A10,qK true v2 x7 A11 A12 A13 A14 A15 A16,rowHP b0 true (rC x0 x1 (!(x2==0)) A0 x3 v0.v v1.v v2.v x4),rowHP b1 true (List.append (segCells .u8 16 A17) ([.int .u64 x8,.int .u8 x9,.int .u8 x10,.int .u64 x11,.int .u64 x12])),rowHP b2 true (rC x0 x1 (!(x2==0)) A0 x3 v0.v v6.v v2.v x4),rowHP b3 true (List.append (segCells .u8 16 A17) ([.int .u64 x8,.int .u8 x9,.int .u8 x10,.int .u64 x11,.int .u64 x12])),rowHP b4 true ([.int .u8 x9,.int .u8 x10]),rowHP b5 true ([.int .u8 x9,.int .u8 x10]),rowHP b6 true (rC x0 x1 (!(x2==0)) A0 x3 v0.v v6.v v2.v x4),rowHP b7 true (List.append (segCells .u8 16 A17) ([.int .u64 x8,.int .u8 x9,.int .u8 x10,.int .u64 x11,.int .u64 x12])),rowHP b8 true (rC x0 x1 (!(x2==0)) A0 x3 v0.v v6.v v2.v x4),rK true v6 ((x14+1)+(x6 - x14)) (splF (splF A3 (Int.toNat (x14*16)) 16 A17) (Int.toNat ((x14+1)*16)) (Int.toNat ((x6 - x14)*16)) (shiftF A3 (Int.toNat (x14*16)))) (splF (updF A4 (Int.toNat x14) x8) (Int.toNat (x14+1)) (Int.toNat (x6 - x14)) (shiftF A4 (Int.toNat x14))) (splF (updF A5 (Int.toNat x14) x9) (Int.toNat (x14+1)) (Int.toNat (x6 - x14)) (shiftF A5 (Int.toNat x14))) (splF (updF A6 (Int.toNat x14) x10) (Int.toNat (x14+1)) (Int.toNat (x6 - x14)) (shiftF A6 (Int.toNat x14))) (splF (updF A7 (Int.toNat x14) x11) (Int.toNat (x14+1)) (Int.toNat (x6 - x14)) (shiftF A7 (Int.toNat x14))) (splF (updF A8 (Int.toNat x14) x12) (Int.toNat (x14+1)) (Int.toNat (x6 - x14)) (shiftF A8 (Int.toNat x14))) (splF (updF A9 (Int.toNat x14) 0) (Int.toNat (x14+1)) (Int.toNat (x6 - x14)) (shiftF A9 (Int.toNat x14))) (splF (updF A10 (Int.toNat x14) 0) (Int.toNat (x14+1)) (Int.toNat (x6 - x14)) (shiftF A10 (Int.toNat x14))),rowHP b9 true (List.append (segCells .u8 16 A17) ([.int .u64 x8,.int .u8 x9,.int .u8 x10,.int .u64 x11,.int .u64 x12,.bool false,.int .u64 0]))])))))))∧
 (∀b9:Nat,U47 (x14*64) (
 ∀_:V1,U47 ((x14+1)*64) (
 ∀v5:V1,Need (0≤(x6 - x14)) (
 Need (0≤(x14+1)) (
 Need (0≤(x6 - x14)) (
 Need ((((x14+1)+(x6 - x14))*64)≤140737488355328) (
 ∀v6:V1,Post (.tuple #[.agg (rC x0 x1 (!(x2==0)) A0 x3 v0.v v6.v v2.v x4).toArray,.int .i64 0]) [dK true v0 x5 A1 A2,rK true v1 x6 A3 A4 A5 A6 A7 A8 A9 A10,qK true v2 x7 A11 A12 A13 A14 A15 A16,rowHP b0 true (rC x0 x1 (!(x2==0)) A0 x3 v0.v v1.v v2.v x4),rowHP b1 true (List.append (segCells .u8 16 A17) ([.int .u64 x8,.int .u8 x9,.int .u8 x10,.int .u64 x11,.int .u64 x12])),rowHP b2 true (rC x0 x1 (!(x2==0)) A0 x3 v0.v v6.v v2.v x4),rowHP b3 true (List.append (segCells .u8 16 A17) ([.int .u64 x8,.int .u8 x9,.int .u8 x10,.int .u64 x11,.int .u64 x12])),rowHP b4 true ([.int .u8 x9,.int .u8 x10]),rowHP b5 true ([.int .u8 x9,.int .u8 x10]),rowHP b6 true (rC x0 x1 (!(x2==0)) A0 x3 v0.v v6.v v2.v x4),rowHP b7 true (List.append (segCells .u8 16 A17) ([.int .u64 x8,.int .u8 x9,.int .u8 x10,.int .u64 x11,.int .u64 x12])),rowHP b8 true (rC x0 x1 (!(x2==0)) A0 x3 v0.v v6.v v2.v x4),rK true v6 ((x14+1)+(x6 - x14)) (splF (splF A3 (Int.toNat (x14*16)) 16 A17) (Int.toNat ((x14+1)*16)) (Int.toNat ((x6 - x14)*16)) (shiftF A3 (Int.toNat (x14*16)))) (splF (updF A4 (Int.toNat x14) x8) (Int.toNat (x14+1)) (Int.toNat (x6 - x14)) (shiftF A4 (Int.toNat x14))) (splF (updF A5 (Int.toNat x14) x9) (Int.toNat (x14+1)) (Int.toNat (x6 - x14)) (shiftF A5 (Int.toNat x14))) (splF (updF A6 (Int.toNat x14) x10) (Int.toNat (x14+1)) (Int.toNat (x6 - x14)) (shiftF A6 (Int.toNat x14))) (splF (updF A7 (Int.toNat x14) x11) (Int.toNat (x14+1)) (Int.toNat (x6 - x14)) (shiftF A7 (Int.toNat x14))) (splF (updF A8 (Int.toNat x14) x12) (Int.toNat (x14+1)) (Int.toNat (x6 - x14)) (shiftF A8 (Int.toNat x14))) (splF (updF A9 (Int.toNat x14) 0) (Int.toNat (x14+1)) (Int.toNat (x6 - x14)) (shiftF A9 (Int.toNat x14))) (splF (updF A10 (Int.toNat x14) 0) (Int.toNat (x14+1)) (Int.toNat (x6 - x14)) (shiftF A10 (Int.toNat x14))),rowHP b9 true (List.append (segCells .u8 16 A17) ([.int .u64 x8,.int .u8 x9,.int .u8 x10,.int .u64 x11,.int .u64 x12,.bool false,.int .u64 0]))]))))))))∧
 (∀(b9:Nat) (_:V1),U47 (x14*64) (
 ∀_:V1,U47 ((x14+1)*64) (
 ∀v5:V1,Need (0≤(x6 - x14)) (
 Need (0≤(x14+1)) (
 Need (0≤(x6 - x14)) (
 Need ((((x14+1)+(x6 - x14))*64)≤140737488355328) (
 ∀v6:V1,Post (.tuple #[.agg (rC x0 x1 (!(x2==0)) A0 x3 v0.v v6.v v2.v x4).toArray,.int .i64 0]) [dK true v0 x5 A1 A2,rK true v1 x6 A3 A4 A5 A6 A7 A8 A9 A10,qK true v2 x7 A11 A12 A13 A14 A15 A16,rowHP b0 true (rC x0 x1 (!(x2==0)) A0 x3 v0.v v1.v v2.v x4),rowHP b1 true (List.append (segCells .u8 16 A17) ([.int .u64 x8,.int .u8 x9,.int .u8 x10,.int .u64 x11,.int .u64 x12])),rowHP b2 true (rC x0 x1 (!(x2==0)) A0 x3 v0.v v6.v v2.v x4),rowHP b3 true (List.append (segCells .u8 16 A17) ([.int .u64 x8,.int .u8 x9,.int .u8 x10,.int .u64 x11,.int .u64 x12])),rowHP b4 true ([.int .u8 x9,.int .u8 x10]),rowHP b5 true ([.int .u8 x9,.int .u8 x10]),rowHP b6 true (rC x0 x1 (!(x2==0)) A0 x3 v0.v v6.v v2.v x4),rowHP b7 true (List.append (segCells .u8 16 A17) ([.int .u64 x8,.int .u8 x9,.int .u8 x10,.int .u64 x11,.int .u64 x12])),rowHP b8 true (rC x0 x1 (!(x2==0)) A0 x3 v0.v v6.v v2.v x4),rowHP b9 true (List.append (segCells .u8 16 A17) ([.int .u64 x8,.int .u8 x9,.int .u8 x10,.int .u64 x11,.int .u64 x12,.bool false,.int .u64 0])),rK true v6 ((x14+1)+(x6 - x14)) (splF (splF A3 (Int.toNat (x14*16)) 16 A17) (Int.toNat ((x14+1)*16)) (Int.toNat ((x6 - x14)*16)) (shiftF A3 (Int.toNat (x14*16)))) (splF (updF A4 (Int.toNat x14) x8) (Int.toNat (x14+1)) (Int.toNat (x6 - x14)) (shiftF A4 (Int.toNat x14))) (splF (updF A5 (Int.toNat x14) x9) (Int.toNat (x14+1)) (Int.toNat (x6 - x14)) (shiftF A5 (Int.toNat x14))) (splF (updF A6 (Int.toNat x14) x10) (Int.toNat (x14+1)) (Int.toNat (x6 - x14)) (shiftF A6 (Int.toNat x14))) (splF (updF A7 (Int.toNat x14) x11) (Int.toNat (x14+1)) (Int.toNat (x6 - x14)) (shiftF A7 (Int.toNat x14))) (splF (updF A8 (Int.toNat x14) x12) (Int.toNat (x14+1)) (Int.toNat (x6 - x14)) (shiftF A8 (Int.toNat x14))) (splF (updF A9 (Int.toNat x14) 0) (Int.toNat (x14+1)) (Int.toNat (x6 - x14)) (shiftF A9 (Int.toNat x14))) (splF (updF A10 (Int.toNat x14) 0) (Int.toNat (x14+1)) (Int.toNat (x6 - x14)) (shiftF A10 (Int.toNat x14)))])))))))))))))))))))) (
 Need (0≤x13) (
 Need (x13<x6) (
 Fork (¬((A8 (Int.toNat x13))=x12)) (
 Post (.tuple #[.agg (rC x0 x1 (!(x2==0)) A0 x3 v0.v v1.v v2.v x4).toArray,.int .i64 6]) [dK true v0 x5 A1 A2,rK true v1 x6 A3 A4 A5 A6 A7 A8 A9 A10,qK true v2 x7 A11 A12 A13 A14 A15 A16,rowHP b0 true (rC x0 x1 (!(x2==0)) A0 x3 v0.v v1.v v2.v x4),rowHP b1 true (List.append (segCells .u8 16 A17) ([.int .u64 x8,.int .u8 x9,.int .u8 x10,.int .u64 x11,.int .u64 x12])),rowHP b2 true (rC x0 x1 (!(x2==0)) A0 x3 v0.v v1.v v2.v x4),rowHP b3 true (List.append (segCells .u8 16 A17) ([.int .u64 x8,.int .u8 x9,.int .u8 x10,.int .u64 x11,.int .u64 x12])),rowHP b4 true ([.int .u8 x9,.int .u8 x10]),rowHP b5 true ([.int .u8 x9,.int .u8 x10])]) (
 Post (.tuple #[.agg (rC x0 x1 (!(x2==0)) A0 x3 v0.v v1.v v2.v x4).toArray,.int .i64 0]) [dK true v0 x5 A1 A2,rK true v1 x6 A3 A4 A5 A6 A7 A8 A9 A10,qK true v2 x7 A11 A12 A13 A14 A15 A16,rowHP b0 true (rC x0 x1 (!(x2==0)) A0 x3 v0.v v1.v v2.v x4),rowHP b1 true (List.append (segCells .u8 16 A17) ([.int .u64 x8,.int .u8 x9,.int .u8 x10,.int .u64 x11,.int .u64 x12])),rowHP b2 true (rC x0 x1 (!(x2==0)) A0 x3 v0.v v1.v v2.v x4),rowHP b3 true (List.append (segCells .u8 16 A17) ([.int .u64 x8,.int .u8 x9,.int .u8 x10,.int .u64 x11,.int .u64 x12])),rowHP b4 true ([.int .u8 x9,.int .u8 x10]),rowHP b5 true ([.int .u8 x9,.int .u8 x10])])))))) (
 Post (.tuple #[.agg (rC x0 x1 (!(x2==0)) A0 x3 v0.v v1.v v2.v x4).toArray,.int .i64 240]) [dK true v0 x5 A1 A2,rK true v1 x6 A3 A4 A5 A6 A7 A8 A9 A10,qK true v2 x7 A11 A12 A13 A14 A15 A16,rowHP b0 true (rC x0 x1 (!(x2==0)) A0 x3 v0.v v1.v v2.v x4),rowHP b1 true (List.append (segCells .u8 16 A17) ([.int .u64 x8,.int .u8 x9,.int .u8 x10,.int .u64 x11,.int .u64 x12])),rowHP b2 true (rC x0 x1 (!(x2==0)) A0 x3 v0.v v1.v v2.v x4),rowHP b3 true (List.append (segCells .u8 16 A17) ([.int .u64 x8,.int .u8 x9,.int .u8 x10,.int .u64 x11,.int .u64 x12])),rowHP b4 true ([.int .u8 x9,.int .u8 x10]),rowHP b5 true ([.int .u8 x9,.int .u8 x10])]))))))))))))) (
 Post (.tuple #[.agg (rC x0 x1 (!(x2==0)) A0 x3 v0.v v1.v v2.v x4).toArray,.int .i64 2]) [dK true v0 x5 A1 A2,rK true v1 x6 A3 A4 A5 A6 A7 A8 A9 A10,qK true v2 x7 A11 A12 A13 A14 A15 A16,rowHP b0 true (rC x0 x1 (!(x2==0)) A0 x3 v0.v v1.v v2.v x4),rowHP b1 true (List.append (segCells .u8 16 A17) ([.int .u64 x8,.int .u8 x9,.int .u8 x10,.int .u64 x11,.int .u64 x12])),rowHP b2 true (rC x0 x1 (!(x2==0)) A0 x3 v0.v v1.v v2.v x4),rowHP b3 true (List.append (segCells .u8 16 A17) ([.int .u64 x8,.int .u8 x9,.int .u8 x10,.int .u64 x11,.int .u64 x12]))])
theorem mt_rtake(Post:PT)(x0 x1 x2 x3 x4 x5 x6 x7 x8 x9 x10 x11 x12:Int)(A0 A1 A2 A3 A4 A5 A6 A7 A8 A9 A10 A11 A12 A13 A14 A15 A16 A17:Nat→Int)(v0 v1 v2:V1)(h:st_rtake Post x0 x1 x2 x3 x4 x5 x6 x7 x8 x9 x10 x11 x12 A0 A1 A2 A3 A4 A5 A6 A7 A8 A9 A10 A11 A12 A13 A14 A15 A16 A17 v0 v1 v2):Meets Tryz.prog 25 [.agg (rC x0 x1 (!(x2==0)) A0 x3 v0.v v1.v v2.v x4).toArray,.agg (List.append (segCells .u8 16 A17) ([.int .u64 x8,.int .u8 x9,.int .u8 x10,.int .u64 x11,.int .u64 x12])).toArray] [dK true v0 x5 A1 A2,rK true v1 x6 A3 A4 A5 A6 A7 A8 A9 A10,qK true v2 x7 A11 A12 A13 A14 A15 A16] Post:=
 mtI (C:=cxU) [.agg [.int .u8 (.var 0),.int .u8 (.var 1),.bool (BE.nz (.var 2)),.seg .u8 16 (.avar 0),.int .u64 (.var 3),.vv 0,.vv 1,.vv 2,.int .u64 (.var 4)],.agg [.seg .u8 16 (.avar 17),.int .u64 (.var 8),.int .u8 (.var 9),.int .u8 (.var 10),.int .u64 (.var 11),.int .u64 (.var 12)]] [.sli true 0 23 2 (.var 5) [⟨.int .u8,1,.avar 1⟩,⟨.int .u8,1,.avar 2⟩],.sli true 1 76 23 (.var 6) [⟨.int .u8,16,.avar 3⟩,⟨.int .u64,1,.avar 4⟩,⟨.int .u8,1,.avar 5⟩,⟨.int .u8,1,.avar 6⟩,⟨.int .u64,1,.avar 7⟩,⟨.int .u64,1,.avar 8⟩,⟨CK.bool,1,.avar 9⟩,⟨.int .u64,1,.avar 10⟩],.sli true 2 38 21 (.var 7) [⟨.int .u8,16,.avar 11⟩,⟨.int .u64,1,.avar 12⟩,⟨.int .u8,1,.avar 13⟩,⟨.int .u8,1,.avar 14⟩,⟨.int .u64,1,.avar 15⟩,⟨.int .u64,1,.avar 16⟩]] ⟨0,3,13,18,0,0,0⟩ ⟨[x0,x1,x2,x3,x4,x5,x6,x7,x8,x9,x10,x11,x12],[A0,A1,A2,A3,A4,A5,A6,A7,A8,A9,A10,A11,A12,A13,A14,A15,A16,A17],[],[],[v0,v1,v2],[],[],[]⟩ Tryz.func25 (by kernel_rfl) h
end Go.RX.Gu

namespace Go.RX.Gu
open Go.RX Go.Proofs Go.RX.Gb
set_option maxRecDepth 100000
def st_rfind(Post:PT)(_ _ _ _ _ _ x6 x7 x8 x9:Int)(_ _ _ A3 A4 A5 A6 A7 A8 A9 A10:Nat→Int)(_ v1 _:V1):Prop:=
 ∀_ _:Nat,∃(I0x0:Ext→Prop) (m0x0:Ext→Nat),(∃x10:Int,x10=0∧I0x0 ⟨[],[],[x10],[],[],[],[]⟩)∧
 ∀x10:Int,I0x0 ⟨[],[],[x10],[],[],[],[]⟩→
 Need (0≤x6) (
 Fork (x10<x6) (
 Need (0≤x10) (
 Need ((¬(((A5 (Int.toNat x10))=x7)∧((A6 (Int.toNat x10))=x8)))∨(0≤x10)) (
 Need ((¬(((A5 (Int.toNat x10))=x7)∧((A6 (Int.toNat x10))=x8)))∨(x10<x6)) (
 Need ((¬(((A5 (Int.toNat x10))=x7)∧((A6 (Int.toNat x10))=x8)))∨(0≤x10)) (
 Need ((¬(((A5 (Int.toNat x10))=x7)∧((A6 (Int.toNat x10))=x8)))∨(x10<x6)) (
 Need ((¬(((A5 (Int.toNat x10))=x7)∧((A6 (Int.toNat x10))=x8)))∨(0≤x10)) (
 Need ((¬(((A5 (Int.toNat x10))=x7)∧((A6 (Int.toNat x10))=x8)))∨(x10<x6)) (
 Need ((¬(((A5 (Int.toNat x10))=x7)∧((A6 (Int.toNat x10))=x8)))∨(0≤x10)) (
 Need ((¬(((A5 (Int.toNat x10))=x7)∧((A6 (Int.toNat x10))=x8)))∨(x10<x6)) (
 Fork ((((A5 (Int.toNat x10))=x7)∧((A6 (Int.toNat x10))=x8))∧((A4 (Int.toNat x10))=x9)) (
 Post (.int .i64 x10) [rK true v1 x6 A3 A4 A5 A6 A7 A8 A9 A10]) (
 I64 (x10+1) ((
 ∃x10':Int,x10'=(x10+1)∧I0x0 ⟨[],[],[x10'],[],[],[],[]⟩∧m0x0 ⟨[],[],[x10'],[],[],[],[]⟩<m0x0 ⟨[],[],[x10],[],[],[],[]⟩))))))))))))) (
 Post (.int .i64 (-1)) [rK true v1 x6 A3 A4 A5 A6 A7 A8 A9 A10]))
theorem mt_rfind(Post:PT)(x0 x1 x2 x3 x4 x5 x6 x7 x8 x9:Int)(A0 A1 A2 A3 A4 A5 A6 A7 A8 A9 A10:Nat→Int)(v0 v1 v2:V1)(h:st_rfind Post x0 x1 x2 x3 x4 x5 x6 x7 x8 x9 A0 A1 A2 A3 A4 A5 A6 A7 A8 A9 A10 v0 v1 v2):Meets Tryz.prog 24 [.agg (rC x0 x1 (!(x2==0)) A0 x3 v0.v v1.v v2.v x4).toArray,.agg #[.int .u8 x7,.int .u8 x8],.int .u64 x9] [rK true v1 x6 A3 A4 A5 A6 A7 A8 A9 A10] Post:=
 mtK (C:=cxT) [.agg [.int .u8 (.var 0),.int .u8 (.var 1),.bool (BE.nz (.var 2)),.seg .u8 16 (.avar 0),.int .u64 (.var 3),.vv 0,.vv 1,.vv 2,.int .u64 (.var 4)],.agg [.int .u8 (.var 7),.int .u8 (.var 8)],.int .u64 (.var 9)] [.sli true 1 76 23 (.var 6) [⟨.int .u8,16,.avar 3⟩,⟨.int .u64,1,.avar 4⟩,⟨.int .u8,1,.avar 5⟩,⟨.int .u8,1,.avar 6⟩,⟨.int .u64,1,.avar 7⟩,⟨.int .u64,1,.avar 8⟩,⟨CK.bool,1,.avar 9⟩,⟨.int .u64,1,.avar 10⟩]] ⟨0,3,10,11,0,0,0⟩ ⟨[x0,x1,x2,x3,x4,x5,x6,x7,x8,x9],[A0,A1,A2,A3,A4,A5,A6,A7,A8,A9,A10],[],[],[v0,v1,v2],[],[],[]⟩ 1 Tryz.func24 (by kernel_rfl) h
def st_rtick(Post:PT)(x0 x1 x2 x3 x4 _ x6 x7:Int)(A0 _ _ A3 A4 A5 A6 A7 A8 A9 A10:Nat→Int)(v0 v1 v2:V1):Prop:=
 ∀b0 b1:Nat,∃(I0x0:Ext→Prop) (m0x0:Ext→Nat),(∃(v4:V1) (x8 x9:Int) (A11 A12 A13 A14 A15 A16 A17 A18:Nat→Int),x8=0∧v4=(⟨.slice none 0 0,rfl⟩:V1)∧v4=(⟨.slice none 0 0,rfl⟩:V1)∧x9=0∧(∀j,j<(Int.toNat (x9*16))→A11 j=(fun _=>0) j)∧(∀j,j<(Int.toNat x9)→A12 j=(fun _=>0) j)∧(∀j,j<(Int.toNat x9)→A13 j=(fun _=>0) j)∧(∀j,j<(Int.toNat x9)→A14 j=(fun _=>0) j)∧(∀j,j<(Int.toNat x9)→A15 j=(fun _=>0) j)∧(∀j,j<(Int.toNat x9)→A16 j=(fun _=>0) j)∧(∀j,j<(Int.toNat x9)→A17 j=(fun _=>0) j)∧(∀j,j<(Int.toNat x9)→A18 j=(fun _=>0) j)∧I0x0 ⟨[],[v4],[x8,x9],[A11,A12,A13,A14,A15,A16,A17,A18],[],[],[]⟩)∧
 ∀(v4:V1) (x8 x9:Int) (A11 A12 A13 A14 A15 A16 A17 A18:Nat→Int),I0x0 ⟨[],[v4],[x8,x9],[A11,A12,A13,A14,A15,A16,A17,A18],[],[],[]⟩→
 Need (0≤x6) (
 Fork (x8<x6) (
 Need (0≤x8) (
 Need ((¬((A9 (Int.toNat x8))≠0))∨(0≤x8)) (
 Need ((¬((A9 (Int.toNat x8))≠0))∨(x8<x6)) (
 Need ((¬((A9 (Int.toNat x8))≠0))∨(0≤x8)) (
 Need ((¬((A9 (Int.toNat x8))≠0))∨(x8<x6)) (
 Need ((¬((A9 (Int.toNat x8))≠0))∨(0≤x8)) (
 Need ((¬((A9 (Int.toNat x8))≠0))∨(x8<x6)) (
 Fork ((¬((A9 (Int.toNat x8))≠0))∨(x7<(A10 (Int.toNat x8)))) (
 ∀_:Nat,Need (0≤x9) (
 U47 ((x9+1)*64) (
 ∀v5:V1,I64 (x8+1) ((
 ∃(v4':V1) (x8' x9':Int) (A11' A12' A13' A14' A15' A16' A17' A18':Nat→Int),x8'=(x8+1)∧v4'=v5∧v4'=v5∧x9'=(x9+1)∧(∀j,j<(Int.toNat (x9'*16))→A11' j=(splF A11 (Int.toNat (x9*16)) 16 (shiftF A3 (Int.toNat (x8*16)))) j)∧(∀j,j<(Int.toNat x9')→A12' j=(updF A12 (Int.toNat x9) (A4 (Int.toNat x8))) j)∧(∀j,j<(Int.toNat x9')→A13' j=(updF A13 (Int.toNat x9) (A5 (Int.toNat x8))) j)∧(∀j,j<(Int.toNat x9')→A14' j=(updF A14 (Int.toNat x9) (A6 (Int.toNat x8))) j)∧(∀j,j<(Int.toNat x9')→A15' j=(updF A15 (Int.toNat x9) (A7 (Int.toNat x8))) j)∧(∀j,j<(Int.toNat x9')→A16' j=(updF A16 (Int.toNat x9) (A8 (Int.toNat x8))) j)∧(∀j,j<(Int.toNat x9')→A17' j=(updF A17 (Int.toNat x9) (A9 (Int.toNat x8))) j)∧(∀j,j<(Int.toNat x9')→A18' j=(updF A18 (Int.toNat x9) (A10 (Int.toNat x8))) j)∧I0x0 ⟨[],[v4'],[x8',x9'],[A11',A12',A13',A14',A15',A16',A17',A18'],[],[],[]⟩∧m0x0 ⟨[],[v4'],[x8',x9'],[A11',A12',A13',A14',A15',A16',A17',A18'],[],[],[]⟩<m0x0 ⟨[],[v4],[x8,x9],[A11,A12,A13,A14,A15,A16,A17,A18],[],[],[]⟩))))) (
 I64 (x8+1) ((
 ∃(v4':V1) (x8' x9':Int) (A11' A12' A13' A14' A15' A16' A17' A18':Nat→Int),x8'=(x8+1)∧v4'=v4∧v4'=v4∧x9'=x9∧(∀j,j<(Int.toNat (x9'*16))→A11' j=A11 j)∧(∀j,j<(Int.toNat x9')→A12' j=A12 j)∧(∀j,j<(Int.toNat x9')→A13' j=A13 j)∧(∀j,j<(Int.toNat x9')→A14' j=A14 j)∧(∀j,j<(Int.toNat x9')→A15' j=A15 j)∧(∀j,j<(Int.toNat x9')→A16' j=A16 j)∧(∀j,j<(Int.toNat x9')→A17' j=A17 j)∧(∀j,j<(Int.toNat x9')→A18' j=A18 j)∧I0x0 ⟨[],[v4'],[x8',x9'],[A11',A12',A13',A14',A15',A16',A17',A18'],[],[],[]⟩∧m0x0 ⟨[],[v4'],[x8',x9'],[A11',A12',A13',A14',A15',A16',A17',A18'],[],[],[]⟩<m0x0 ⟨[],[v4],[x8,x9],[A11,A12,A13,A14,A15,A16,A17,A18],[],[],[]⟩))))))))))) (
 Post (.agg (rC x0 x1 (!(x2==0)) A0 x3 v0.v v4.v v2.v x4).toArray) [rK true v1 x6 A3 A4 A5 A6 A7 A8 A9 A10,rowHP b0 true (rC x0 x1 (!(x2==0)) A0 x3 v0.v v4.v v2.v x4),rowHP b1 true (rC x0 x1 (!(x2==0)) A0 x3 v0.v v4.v v2.v x4),rK true v4 x9 A11 A12 A13 A14 A15 A16 A17 A18]))
theorem mt_rtick(Post:PT)(x0 x1 x2 x3 x4 x5 x6 x7:Int)(A0 A1 A2 A3 A4 A5 A6 A7 A8 A9 A10:Nat→Int)(v0 v1 v2:V1)(h:st_rtick Post x0 x1 x2 x3 x4 x5 x6 x7 A0 A1 A2 A3 A4 A5 A6 A7 A8 A9 A10 v0 v1 v2):Meets Tryz.prog 26 [.agg (rC x0 x1 (!(x2==0)) A0 x3 v0.v v1.v v2.v x4).toArray,.int .u64 x7] [rK true v1 x6 A3 A4 A5 A6 A7 A8 A9 A10] Post:=
 mtI (C:=cxT) [.agg [.int .u8 (.var 0),.int .u8 (.var 1),.bool (BE.nz (.var 2)),.seg .u8 16 (.avar 0),.int .u64 (.var 3),.vv 0,.vv 1,.vv 2,.int .u64 (.var 4)],.int .u64 (.var 7)] [.sli true 1 76 23 (.var 6) [⟨.int .u8,16,.avar 3⟩,⟨.int .u64,1,.avar 4⟩,⟨.int .u8,1,.avar 5⟩,⟨.int .u8,1,.avar 6⟩,⟨.int .u64,1,.avar 7⟩,⟨.int .u64,1,.avar 8⟩,⟨CK.bool,1,.avar 9⟩,⟨.int .u64,1,.avar 10⟩]] ⟨0,3,8,11,0,0,0⟩ ⟨[x0,x1,x2,x3,x4,x5,x6,x7],[A0,A1,A2,A3,A4,A5,A6,A7,A8,A9,A10],[],[],[v0,v1,v2],[],[],[]⟩ Tryz.func26 (by kernel_rfl) h
def st_rkey(Post:PT)(x0 x1 x2 x3 x4 _ x6 x7 x8 x9:Int)(A0 _ _ A3 A4 A5 A6 A7 A8 A9 A10:Nat→Int)(v0 v1 v2:V1):Prop:=
 ∀_ _:Nat,Cl 24 [.agg (rC x0 x1 (!(x2==0)) A0 x3 v0.v v1.v v2.v x4).toArray,.agg #[.int .u8 x7,.int .u8 x8],.int .u64 x9] [rK true v1 x6 A3 A4 A5 A6 A7 A8 A9 A10] fun x hs l=> ∃x10:Int,x= .int .i64 x10∧hs=l∧
 Fork (0≤x10) (
 Need (x10<x6) (
 Post (.tuple #[.int .u64 (A8 (Int.toNat x10)),.int .i64 0]) [rK true v1 x6 A3 A4 A5 A6 A7 A8 A9 A10])) (
 Fork ((x2≠0)∧(x9<x3)) (
 Post (.tuple #[.int .u64 0,.int .i64 241]) [rK true v1 x6 A3 A4 A5 A6 A7 A8 A9 A10]) (
 Post (.tuple #[.int .u64 0,.int .i64 240]) [rK true v1 x6 A3 A4 A5 A6 A7 A8 A9 A10]))
theorem mt_rkey(Post:PT)(x0 x1 x2 x3 x4 x5 x6 x7 x8 x9:Int)(A0 A1 A2 A3 A4 A5 A6 A7 A8 A9 A10:Nat→Int)(v0 v1 v2:V1)(h:st_rkey Post x0 x1 x2 x3 x4 x5 x6 x7 x8 x9 A0 A1 A2 A3 A4 A5 A6 A7 A8 A9 A10 v0 v1 v2):Meets Tryz.prog 28 [.agg (rC x0 x1 (!(x2==0)) A0 x3 v0.v v1.v v2.v x4).toArray,.agg #[.int .u8 x7,.int .u8 x8],.int .u64 x9] [rK true v1 x6 A3 A4 A5 A6 A7 A8 A9 A10] Post:=
 mtK (C:=cxK) [.agg [.int .u8 (.var 0),.int .u8 (.var 1),.bool (BE.nz (.var 2)),.seg .u8 16 (.avar 0),.int .u64 (.var 3),.vv 0,.vv 1,.vv 2,.int .u64 (.var 4)],.agg [.int .u8 (.var 7),.int .u8 (.var 8)],.int .u64 (.var 9)] [.sli true 1 76 23 (.var 6) [⟨.int .u8,16,.avar 3⟩,⟨.int .u64,1,.avar 4⟩,⟨.int .u8,1,.avar 5⟩,⟨.int .u8,1,.avar 6⟩,⟨.int .u64,1,.avar 7⟩,⟨.int .u64,1,.avar 8⟩,⟨CK.bool,1,.avar 9⟩,⟨.int .u64,1,.avar 10⟩]] ⟨0,3,10,11,0,0,0⟩ ⟨[x0,x1,x2,x3,x4,x5,x6,x7,x8,x9],[A0,A1,A2,A3,A4,A5,A6,A7,A8,A9,A10],[],[],[v0,v1,v2],[],[],[]⟩ 1 Tryz.func28 (by kernel_rfl) h
def st_rhas(Post:PT)(_ x1 x2 x3:Int)(_ A1 A2:Nat→Int)(v0:V1):Prop:=
 ∀_ _:Nat,∃(I0x0:Ext→Prop) (m0x0:Ext→Nat),(∃x4:Int,x4=0∧I0x0 ⟨[],[],[x4],[],[],[],[]⟩)∧
 ∀x4:Int,I0x0 ⟨[],[],[x4],[],[],[],[]⟩→
 Need (0≤x3) (
 Fork (x4<x3) (
 Need (0≤x4) (
 Fork (((A1 (Int.toNat x4))=x1)∧((A2 (Int.toNat x4))=x2)) (
 Post (.bool true) [dK true v0 x3 A1 A2]) (
 I64 (x4+1) ((
 ∃x4':Int,x4'=(x4+1)∧I0x0 ⟨[],[],[x4'],[],[],[],[]⟩∧m0x0 ⟨[],[],[x4'],[],[],[],[]⟩<m0x0 ⟨[],[],[x4],[],[],[],[]⟩))))) (
 Post (.bool false) [dK true v0 x3 A1 A2]))
theorem mt_rhas(Post:PT)(x0 x1 x2 x3:Int)(A0 A1 A2:Nat→Int)(v0:V1)(h:st_rhas Post x0 x1 x2 x3 A0 A1 A2 v0):Meets Tryz.prog 65 [.agg (List.append (segCells .u8 16 A0) ([.int .u64 x0,v0.v])).toArray,.agg #[.int .u8 x1,.int .u8 x2]] [dK true v0 x3 A1 A2] Post:=
 mtK (C:=cxH) Gf.hasA Gf.hasHp Gf.hasCnt ⟨[x0,x1,x2,x3],[A0,A1,A2],[],[],[v0],[],[],[]⟩ 1 Tryz.func65 (by kernel_rfl) h
def st_rrmay(Post:PT)(x0 _ _ x3:Int)(_ A1 A2:Nat→Int)(v0:V1):Prop:=
 ∀_:Nat,Fork ((x0<1)∨(1099511627776<x0)) (
 Post (.bool false) [dK true v0 x3 A1 A2]) (
 ∃(I0x2:Ext→Prop) (m0x2:Ext→Nat),(∃x4 x5:Int,x4=0∧x5=(-1)∧I0x2 ⟨[],[],[x4,x5],[],[],[],[]⟩)∧
 ∀x4 x5:Int,I0x2 ⟨[],[],[x4,x5],[],[],[],[]⟩→
 Need (0≤x3) (
 Fork (x4<x3) (
 Need (0≤x4) (
 ∀_:Nat,Need ((¬(((A1 (Int.toNat x4))<8)∧((A2 (Int.toNat x4))<4)))∨(0≤x4)) (
 Need ((¬(((A1 (Int.toNat x4))<8)∧((A2 (Int.toNat x4))<4)))∨(x4<x3)) (
 Need ((¬(((A1 (Int.toNat x4))<8)∧((A2 (Int.toNat x4))<4)))∨(0≤x4)) (
 Need ((¬(((A1 (Int.toNat x4))<8)∧((A2 (Int.toNat x4))<4)))∨(x4<x3)) (
 Fork (((A1 (Int.toNat x4))<8)∧((A2 (Int.toNat x4))<4)) (
 ∀_:Nat,I64 (A1 (Int.toNat x4)) ((
 I64 (4*(A1 (Int.toNat x4))) ((
 I64 (A2 (Int.toNat x4)) ((
 I64 ((4*(A1 (Int.toNat x4)))+(A2 (Int.toNat x4))) ((
 Fork (((4*(A1 (Int.toNat x4)))+(A2 (Int.toNat x4)))≤x5) (
 Post (.bool false) [dK true v0 x3 A1 A2]) (
 ∀_:Nat,I64 (x4+1) ((
 ∃x4' x5':Int,x4'=(x4+1)∧x5'=((4*(A1 (Int.toNat x4)))+(A2 (Int.toNat x4)))∧I0x2 ⟨[],[],[x4',x5'],[],[],[],[]⟩∧m0x2 ⟨[],[],[x4',x5'],[],[],[],[]⟩<m0x2 ⟨[],[],[x4,x5],[],[],[],[]⟩)))))))))))) (
 Post (.bool false) [dK true v0 x3 A1 A2]))))))) (
 Post (.bool true) [dK true v0 x3 A1 A2])))
theorem mt_rrmay(Post:PT)(x0 x1 x2 x3:Int)(A0 A1 A2:Nat→Int)(v0:V1)(h:st_rrmay Post x0 x1 x2 x3 A0 A1 A2 v0):Meets Tryz.prog 64 [.agg (List.append (segCells .u8 16 A0) ([.int .u64 x0,v0.v])).toArray] [dK true v0 x3 A1 A2] Post:=
 mtK (C:=cxM) Gf.rmayA Gf.hasHp Gf.hasCnt ⟨[x0,x1,x2,x3],[A0,A1,A2],[],[],[v0],[],[],[]⟩ 1 Tryz.func64 (by kernel_rfl) h
end Go.RX.Gu
