/- The group's functions: what is left to be shown; printed by a program of ours (wip/tools/g6.lean). -/
import Derived.Test.YtfnaoeleljhmhaaGreatM38

namespace Go.RX.Ha
open Go.RX Go.Proofs Go.RX.Gb
set_option maxRecDepth 100000
def st_rtail(K:Value→HP→HP→HP→HP→HP→Prop)(x0 x1 x4 x7 x8 x9 x13 x14:Int)(A11 A12 A13 A14 A15 A16 A17 A18 A19 A22 A23 A24 A25 A26 A27 A28 A29:Nat→Int)(v3 v11:V1)(b0 b2:Nat):Prop:=
 ∃(I1l:Ext→Prop) (m1l:Ext→Nat),(∃(v13 v14:V1) (x15 x16 x17 x18 x19 x20 x21 x22:Int) (A30 A31 A32 A33 A34 A35 A36 A37 A38 A39 A40 A41 A42 A43 A44:Nat→Int),x15=0∧x16=x0∧x17=x1∧(!(x18==0))=true∧(∀j,j<16→A30 j=A17 j)∧x19=x8∧v13=v11∧v14=(⟨.slice none 0 0,rfl⟩:V1)∧x20=(IntKind.wrap .u64 (x4+1))∧v13=v11∧x21=((x14+1)+(x13 - x14))∧(∀j,j<(Int.toNat (x21*16))→A31 j=(splF (splF A22 (Int.toNat (x14*16)) 16 A17) (Int.toNat ((x14+1)*16)) (Int.toNat ((x13 - x14)*16)) (shiftF A22 (Int.toNat (x14*16)))) j)∧(∀j,j<(Int.toNat x21)→A32 j=(splF (updF A23 (Int.toNat x14) x8) (Int.toNat (x14+1)) (Int.toNat (x13 - x14)) (shiftF A23 (Int.toNat x14))) j)∧(∀j,j<(Int.toNat x21)→A33 j=(splF (updF A24 (Int.toNat x14) x0) (Int.toNat (x14+1)) (Int.toNat (x13 - x14)) (shiftF A24 (Int.toNat x14))) j)∧(∀j,j<(Int.toNat x21)→A34 j=(splF (updF A25 (Int.toNat x14) x1) (Int.toNat (x14+1)) (Int.toNat (x13 - x14)) (shiftF A25 (Int.toNat x14))) j)∧(∀j,j<(Int.toNat x21)→A35 j=(splF (updF A26 (Int.toNat x14) (IntKind.wrap .u64 ((IntKind.wrap .u64 (32*x8))+(IntKind.wrap .u64 ((4*x0)+x1))))) (Int.toNat (x14+1)) (Int.toNat (x13 - x14)) (shiftF A26 (Int.toNat x14))) j)∧(∀j,j<(Int.toNat x21)→A36 j=(splF (updF A27 (Int.toNat x14) x4) (Int.toNat (x14+1)) (Int.toNat (x13 - x14)) (shiftF A27 (Int.toNat x14))) j)∧(∀j,j<(Int.toNat x21)→A37 j=(splF (updF A28 (Int.toNat x14) 0) (Int.toNat (x14+1)) (Int.toNat (x13 - x14)) (shiftF A28 (Int.toNat x14))) j)∧(∀j,j<(Int.toNat x21)→A38 j=(splF (updF A29 (Int.toNat x14) 0) (Int.toNat (x14+1)) (Int.toNat (x13 - x14)) (shiftF A29 (Int.toNat x14))) j)∧v14=(⟨.slice none 0 0,rfl⟩:V1)∧x22=0∧(∀j,j<(Int.toNat (x22*16))→A39 j=(fun _=>0) j)∧(∀j,j<(Int.toNat x22)→A40 j=(fun _=>0) j)∧(∀j,j<(Int.toNat x22)→A41 j=(fun _=>0) j)∧(∀j,j<(Int.toNat x22)→A42 j=(fun _=>0) j)∧(∀j,j<(Int.toNat x22)→A43 j=(fun _=>0) j)∧(∀j,j<(Int.toNat x22)→A44 j=(fun _=>0) j)∧I1l ⟨[],[v13,v14],[x15,x16,x17,x18,x19,x20,x21,x22],[A30,A31,A32,A33,A34,A35,A36,A37,A38,A39,A40,A41,A42,A43,A44],[],[],[]⟩)∧
 ∀(v13 v14:V1) (x15 x16 x17 x18 x19 x20 x21 x22:Int) (A30 A31 A32 A33 A34 A35 A36 A37 A38 A39 A40 A41 A42 A43 A44:Nat→Int),I1l ⟨[],[v13,v14],[x15,x16,x17,x18,x19,x20,x21,x22],[A30,A31,A32,A33,A34,A35,A36,A37,A38,A39,A40,A41,A42,A43,A44],[],[],[]⟩→
 Need (0≤x7) (
 Fork (x15<x7) (
 Need (0≤x15) (
 Need ((¬(∀j,j<16→(shiftF A11 (Int.toNat (x15*16))) j=A17 j))∨(0≤x15)) (
 Need ((¬(∀j,j<16→(shiftF A11 (Int.toNat (x15*16))) j=A17 j))∨(x15<x7)) (
 Need ((¬(∀j,j<16→(shiftF A11 (Int.toNat (x15*16))) j=A17 j))∨(0≤x15)) (
 Need ((¬(∀j,j<16→(shiftF A11 (Int.toNat (x15*16))) j=A17 j))∨(x15<x7)) (
 Need ((¬(∀j,j<16→(shiftF A11 (Int.toNat (x15*16))) j=A17 j))∨(0≤x15)) (
 Need ((¬(∀j,j<16→(shiftF A11 (Int.toNat (x15*16))) j=A17 j))∨(x15<x7)) (
 Fork ((∀j,j<16→(shiftF A11 (Int.toNat (x15*16))) j=A17 j)∧(x8≤(A12 (Int.toNat x15)))) (
 Cl 25 [.agg (rC x16 x17 (!(x18==0)) A30 x19 v3.v v13.v v14.v x20).toArray,.agg (List.append (segCells .u8 16 (shiftF A11 (Int.toNat (x15*16)))) ([.int .u64 (A12 (Int.toNat x15)),.int .u8 (A13 (Int.toNat x15)),.int .u8 (A14 (Int.toNat x15)),.int .u64 (A15 (Int.toNat x15)),.int .u64 (A16 (Int.toNat x15))])).toArray] [dK true v3 x9 A18 A19,rK true v13 x21 A31 A32 A33 A34 A35 A36 A37 A38,qK true v14 x22 A39 A40 A41 A42 A43 A44] fun x hs l=> ∃(v15 v16:V1) (x23 x24 x25 x26 x27 x28 x29 x30:Int) (A45 A46 A47 A48 A49 A50 A51 A52 A53 A54 A55 A56 A57 A58 A59:Nat→Int),x= .tuple #[.agg (rC x23 x24 (!(x25==0)) A45 x26 v3.v v15.v v16.v x27).toArray,.int .i64 x28]∧hs=[dK true v3 x9 A18 A19,rK true v15 x29 A46 A47 A48 A49 A50 A51 A52 A53,qK true v16 x30 A54 A55 A56 A57 A58 A59]∧
 I64 (x15+1) ((
 ∃(v13' v14':V1) (x15' x16' x17' x18' x19' x20' x21' x22':Int) (A30' A31' A32' A33' A34' A35' A36' A37' A38' A39' A40' A41' A42' A43' A44':Nat→Int),x15'=(x15+1)∧x16'=x23∧x17'=x24∧(!(x18'==0))=(!(x25==0))∧(∀j,j<16→A30' j=A45 j)∧x19'=x26∧v13'=v15∧v14'=v16∧x20'=x27∧v13'=v15∧x21'=x29∧(∀j,j<(Int.toNat (x21'*16))→A31' j=A46 j)∧(∀j,j<(Int.toNat x21')→A32' j=A47 j)∧(∀j,j<(Int.toNat x21')→A33' j=A48 j)∧(∀j,j<(Int.toNat x21')→A34' j=A49 j)∧(∀j,j<(Int.toNat x21')→A35' j=A50 j)∧(∀j,j<(Int.toNat x21')→A36' j=A51 j)∧(∀j,j<(Int.toNat x21')→A37' j=A52 j)∧(∀j,j<(Int.toNat x21')→A38' j=A53 j)∧v14'=v16∧x22'=x30∧(∀j,j<(Int.toNat (x22'*16))→A39' j=A54 j)∧(∀j,j<(Int.toNat x22')→A40' j=A55 j)∧(∀j,j<(Int.toNat x22')→A41' j=A56 j)∧(∀j,j<(Int.toNat x22')→A42' j=A57 j)∧(∀j,j<(Int.toNat x22')→A43' j=A58 j)∧(∀j,j<(Int.toNat x22')→A44' j=A59 j)∧I1l ⟨[],[v13',v14'],[x15',x16',x17',x18',x19',x20',x21',x22'],[A30',A31',A32',A33',A34',A35',A36',A37',A38',A39',A40',A41',A42',A43',A44'],[],[],[]⟩∧m1l ⟨[],[v13',v14'],[x15',x16',x17',x18',x19',x20',x21',x22'],[A30',A31',A32',A33',A34',A35',A36',A37',A38',A39',A40',A41',A42',A43',A44'],[],[],[]⟩<m1l ⟨[],[v13,v14],[x15,x16,x17,x18,x19,x20,x21,x22],[A30,A31,A32,A33,A34,A35,A36,A37,A38,A39,A40,A41,A42,A43,A44],[],[],[]⟩))) (
 I64 (x15+1) ((
 ∃(v13' v14':V1) (x15' x16' x17' x18' x19' x20' x21' x22':Int) (A30' A31' A32' A33' A34' A35' A36' A37' A38' A39' A40' A41' A42' A43' A44':Nat→Int),x15'=(x15+1)∧x16'=x16∧x17'=x17∧(!(x18'==0))=(!(x18==0))∧(∀j,j<16→A30' j=A30 j)∧x19'=x19∧v13'=v13∧v14'=v14∧x20'=x20∧v13'=v13∧x21'=x21∧(∀j,j<(Int.toNat (x21'*16))→A31' j=A31 j)∧(∀j,j<(Int.toNat x21')→A32' j=A32 j)∧(∀j,j<(Int.toNat x21')→A33' j=A33 j)∧(∀j,j<(Int.toNat x21')→A34' j=A34 j)∧(∀j,j<(Int.toNat x21')→A35' j=A35 j)∧(∀j,j<(Int.toNat x21')→A36' j=A36 j)∧(∀j,j<(Int.toNat x21')→A37' j=A37 j)∧(∀j,j<(Int.toNat x21')→A38' j=A38 j)∧v14'=v14∧x22'=x22∧(∀j,j<(Int.toNat (x22'*16))→A39' j=A39 j)∧(∀j,j<(Int.toNat x22')→A40' j=A40 j)∧(∀j,j<(Int.toNat x22')→A41' j=A41 j)∧(∀j,j<(Int.toNat x22')→A42' j=A42 j)∧(∀j,j<(Int.toNat x22')→A43' j=A43 j)∧(∀j,j<(Int.toNat x22')→A44' j=A44 j)∧I1l ⟨[],[v13',v14'],[x15',x16',x17',x18',x19',x20',x21',x22'],[A30',A31',A32',A33',A34',A35',A36',A37',A38',A39',A40',A41',A42',A43',A44'],[],[],[]⟩∧m1l ⟨[],[v13',v14'],[x15',x16',x17',x18',x19',x20',x21',x22'],[A30',A31',A32',A33',A34',A35',A36',A37',A38',A39',A40',A41',A42',A43',A44'],[],[],[]⟩<m1l ⟨[],[v13,v14],[x15,x16,x17,x18,x19,x20,x21,x22],[A30,A31,A32,A33,A34,A35,A36,A37,A38,A39,A40,A41,A42,A43,A44],[],[],[]⟩))))))))))) (
 ∃(I2l:Ext→Prop) (m2l:Ext→Nat),(∃(v16:V1) (x23 x24:Int) (A45 A46:Nat→Int),x23=0∧v16=(⟨.slice none 0 0,rfl⟩:V1)∧v16=(⟨.slice none 0 0,rfl⟩:V1)∧x24=0∧(∀j,j<(Int.toNat x24)→A45 j=(fun _=>0) j)∧(∀j,j<(Int.toNat x24)→A46 j=(fun _=>0) j)∧I2l ⟨[],[v16],[x23,x24],[A45,A46],[],[],[]⟩)∧
 ∀(v16:V1) (x23 x24:Int) (A45 A46:Nat→Int),I2l ⟨[],[v16],[x23,x24],[A45,A46],[],[],[]⟩→
 Need (0≤x9) (
 Fork (x23<x9) (
 Need (0≤x23) (
 Fork (¬(((A18 (Int.toNat x23))=x16)∧((A19 (Int.toNat x23))=x17))) (
 ∀_:Nat,Need (0≤x24) (
 U47 ((x24+1)*2) (
 ∀v17:V1,I64 (x23+1) ((
 ∃(v16':V1) (x23' x24':Int) (A45' A46':Nat→Int),x23'=(x23+1)∧v16'=v17∧v16'=v17∧x24'=(x24+1)∧(∀j,j<(Int.toNat x24')→A45' j=(updF A45 (Int.toNat x24) (A18 (Int.toNat x23))) j)∧(∀j,j<(Int.toNat x24')→A46' j=(updF A46 (Int.toNat x24) (A19 (Int.toNat x23))) j)∧I2l ⟨[],[v16'],[x23',x24'],[A45',A46'],[],[],[]⟩∧m2l ⟨[],[v16'],[x23',x24'],[A45',A46'],[],[],[]⟩<m2l ⟨[],[v16],[x23,x24],[A45,A46],[],[],[]⟩))))) (
 I64 (x23+1) ((
 ∃(v16':V1) (x23' x24':Int) (A45' A46':Nat→Int),x23'=(x23+1)∧v16'=v16∧v16'=v16∧x24'=x24∧(∀j,j<(Int.toNat x24')→A45' j=A45 j)∧(∀j,j<(Int.toNat x24')→A46' j=A46 j)∧I2l ⟨[],[v16'],[x23',x24'],[A45',A46'],[],[],[]⟩∧m2l ⟨[],[v16'],[x23',x24'],[A45',A46'],[],[],[]⟩<m2l ⟨[],[v16],[x23,x24],[A45,A46],[],[],[]⟩))))) (
 K (.tuple #[.agg (rC x16 x17 (!(x18==0)) A30 x19 v3.v v13.v v14.v x20).toArray,v16.v,.int .i64 0]) (dK true v16 x24 A45 A46) (qK true v14 x22 A39 A40 A41 A42 A43 A44) (rK true v13 x21 A31 A32 A33 A34 A35 A36 A37 A38) (rowHP b0 true (rC x16 x17 (!(x18==0)) A30 x19 v3.v v13.v v14.v x20)) (rowHP b2 true (rC x16 x17 (!(x18==0)) A30 x19 v3.v v13.v v14.v x20))))))
def st_renter(Post:PT)(x0 x1 x2 x3 x4 x5 x6 x7 x8 x9 x10:Int)(A0 A1 A2 A3 A4 A5 A6 A7 A8 A9 A10 A11 A12 A13 A14 A15 A16 A17 A18 A19:Nat→Int)(v0 v1 v2 v3:V1):Prop:=
 ∀b0 b1 b2:Nat,Cl 64 [.agg (List.append (segCells .u8 16 A17) ([.int .u64 x8,v3.v])).toArray] [dK true v3 x9 A18 A19] fun x hs l=> ∃q0:Bool,x= .bool q0∧hs=l∧
 Fork ((¬(q0=true))∨((x2≠0)∧(¬(∀j,j<16→A17 j=A0 j)))) (
 Post (.tuple #[.agg (rC x0 x1 (!(x2==0)) A0 x3 v0.v v1.v v2.v x4).toArray,.slice none 0 0,.int .i64 2]) [dK true v0 x5 A1 A2,rK true v1 x6 A3 A4 A5 A6 A7 A8 A9 A10,qK true v2 x7 A11 A12 A13 A14 A15 A16,dK true v3 x9 A18 A19,rowHP b0 true (rC x0 x1 (!(x2==0)) A0 x3 v0.v v1.v v2.v x4),rowHP b1 true (List.append (segCells .u8 16 A17) ([.int .u64 x8,v3.v])),rowHP b2 true (rC x0 x1 (!(x2==0)) A0 x3 v0.v v1.v v2.v x4)]) (
 Fork ((x2≠0)∧(x8≤x3)) (
 Post (.tuple #[.agg (rC x0 x1 (!(x2==0)) A0 x3 v0.v v1.v v2.v x4).toArray,.slice none 0 0,.int .i64 5]) [dK true v0 x5 A1 A2,rK true v1 x6 A3 A4 A5 A6 A7 A8 A9 A10,qK true v2 x7 A11 A12 A13 A14 A15 A16,dK true v3 x9 A18 A19,rowHP b0 true (rC x0 x1 (!(x2==0)) A0 x3 v0.v v1.v v2.v x4),rowHP b1 true (List.append (segCells .u8 16 A17) ([.int .u64 x8,v3.v])),rowHP b2 true (rC x0 x1 (!(x2==0)) A0 x3 v0.v v1.v v2.v x4)]) (
 ∀_:V1,Need (0≤x6) (
 Need (0≤x6) (
 U47 (x6*64) (
 ∀v5:V1,∃(I0x4:Ext→Prop) (m0x4:Ext→Nat),(∃(x11:Int) (A20 A21:Nat→Int),x11=0∧(∀j,j<(Int.toNat x6)→A20 j=A9 j)∧(∀j,j<(Int.toNat x6)→A21 j=A10 j)∧I0x4 ⟨[],[],[x11],[A20,A21],[],[],[]⟩)∧
 ∀(x11:Int) (A20 A21:Nat→Int),I0x4 ⟨[],[],[x11],[A20,A21],[],[],[]⟩→
 Need (0≤x6) (
 Fork (x11<x6) (
 Need (0≤x11) (
 Fork (¬((A20 (Int.toNat x11))≠0)) (
 Fork (x10<18446744073709551515) (
 I64 (x11+1) ((
 ∃(x11':Int) (A20' A21':Nat→Int),x11'=(x11+1)∧(∀j,j<(Int.toNat x6)→A20' j=(updF A20 (Int.toNat x11) 1) j)∧(∀j,j<(Int.toNat x6)→A21' j=(updF (updF A21 (Int.toNat x11) 18446744073709551615) (Int.toNat x11) (IntKind.wrap .u64 (x10+100))) j)∧I0x4 ⟨[],[],[x11'],[A20',A21'],[],[],[]⟩∧m0x4 ⟨[],[],[x11'],[A20',A21'],[],[],[]⟩<m0x4 ⟨[],[],[x11],[A20,A21],[],[],[]⟩))) (
 I64 (x11+1) ((
 ∃(x11':Int) (A20' A21':Nat→Int),x11'=(x11+1)∧(∀j,j<(Int.toNat x6)→A20' j=(updF A20 (Int.toNat x11) 1) j)∧(∀j,j<(Int.toNat x6)→A21' j=(updF A21 (Int.toNat x11) 18446744073709551615) j)∧I0x4 ⟨[],[],[x11'],[A20',A21'],[],[],[]⟩∧m0x4 ⟨[],[],[x11'],[A20',A21'],[],[],[]⟩<m0x4 ⟨[],[],[x11],[A20,A21],[],[],[]⟩)))) (
 I64 (x11+1) ((
 ∃(x11':Int) (A20' A21':Nat→Int),x11'=(x11+1)∧(∀j,j<(Int.toNat x6)→A20' j=A20 j)∧(∀j,j<(Int.toNat x6)→A21' j=A21 j)∧I0x4 ⟨[],[],[x11'],[A20',A21'],[],[],[]⟩∧m0x4 ⟨[],[],[x11'],[A20',A21'],[],[],[]⟩<m0x4 ⟨[],[],[x11],[A20,A21],[],[],[]⟩))))) (
 ∀b3 b4:Nat,∃(I0x8:Ext→Prop) (m0x8:Ext→Nat),(∃(v7:V1) (x12 x13:Int) (A22 A23 A24 A25 A26 A27 A28 A29:Nat→Int),x12=0∧v7=(⟨.slice none 0 0,rfl⟩:V1)∧v7=(⟨.slice none 0 0,rfl⟩:V1)∧x13=0∧(∀j,j<(Int.toNat (x13*16))→A22 j=(fun _=>0) j)∧(∀j,j<(Int.toNat x13)→A23 j=(fun _=>0) j)∧(∀j,j<(Int.toNat x13)→A24 j=(fun _=>0) j)∧(∀j,j<(Int.toNat x13)→A25 j=(fun _=>0) j)∧(∀j,j<(Int.toNat x13)→A26 j=(fun _=>0) j)∧(∀j,j<(Int.toNat x13)→A27 j=(fun _=>0) j)∧(∀j,j<(Int.toNat x13)→A28 j=(fun _=>0) j)∧(∀j,j<(Int.toNat x13)→A29 j=(fun _=>0) j)∧I0x8 ⟨[],[v7],[x12,x13],[A22,A23,A24,A25,A26,A27,A28,A29],[],[],[]⟩)∧
 ∀(v7:V1) (x12 x13:Int) (A22 A23 A24 A25 A26 A27 A28 A29:Nat→Int),I0x8 ⟨[],[v7],[x12,x13],[A22,A23,A24,A25,A26,A27,A28,A29],[],[],[]⟩→
 Need (0≤x6) (
 Fork (x12<x6) (
 Need (0≤x12) (
 Need ((¬((A20 (Int.toNat x12))≠0))∨(0≤x12)) (
 Need ((¬((A20 (Int.toNat x12))≠0))∨(x12<x6)) (
 Need ((¬((A20 (Int.toNat x12))≠0))∨(0≤x12)) (
 Need ((¬((A20 (Int.toNat x12))≠0))∨(x12<x6)) (
 Need ((¬((A20 (Int.toNat x12))≠0))∨(0≤x12)) (
 Need ((¬((A20 (Int.toNat x12))≠0))∨(x12<x6)) (
 Fork ((¬((A20 (Int.toNat x12))≠0))∨(x10<(A21 (Int.toNat x12)))) (
 ∀b5:Nat,Need (0≤x13) (
 U47 ((x13+1)*64) (
 ∀v8:V1,I64 (x12+1) ((
 ∃(v7':V1) (x12' x13':Int) (A22' A23' A24' A25' A26' A27' A28' A29':Nat→Int),x12'=(x12+1)∧v7'=v8∧v7'=v8∧x13'=(x13+1)∧(∀j,j<(Int.toNat (x13'*16))→A22' j=(splF A22 (Int.toNat (x13*16)) 16 (shiftF A3 (Int.toNat (x12*16)))) j)∧(∀j,j<(Int.toNat x13')→A23' j=(updF A23 (Int.toNat x13) (A4 (Int.toNat x12))) j)∧(∀j,j<(Int.toNat x13')→A24' j=(updF A24 (Int.toNat x13) (A5 (Int.toNat x12))) j)∧(∀j,j<(Int.toNat x13')→A25' j=(updF A25 (Int.toNat x13) (A6 (Int.toNat x12))) j)∧(∀j,j<(Int.toNat x13')→A26' j=(updF A26 (Int.toNat x13) (A7 (Int.toNat x12))) j)∧(∀j,j<(Int.toNat x13')→A27' j=(updF A27 (Int.toNat x13) (A8 (Int.toNat x12))) j)∧(∀j,j<(Int.toNat x13')→A28' j=(updF A28 (Int.toNat x13) (A20 (Int.toNat x12))) j)∧(∀j,j<(Int.toNat x13')→A29' j=(updF A29 (Int.toNat x13) (A21 (Int.toNat x12))) j)∧I0x8 ⟨[],[v7'],[x12',x13'],[A22',A23',A24',A25',A26',A27',A28',A29'],[],[],[]⟩∧m0x8 ⟨[],[v7'],[x12',x13'],[A22',A23',A24',A25',A26',A27',A28',A29'],[],[],[]⟩<m0x8 ⟨[],[v7],[x12,x13],[A22,A23,A24,A25,A26,A27,A28,A29],[],[],[]⟩))))) (
 I64 (x12+1) ((
 ∃(v7':V1) (x12' x13':Int) (A22' A23' A24' A25' A26' A27' A28' A29':Nat→Int),x12'=(x12+1)∧v7'=v7∧v7'=v7∧x13'=x13∧(∀j,j<(Int.toNat (x13'*16))→A22' j=A22 j)∧(∀j,j<(Int.toNat x13')→A23' j=A23 j)∧(∀j,j<(Int.toNat x13')→A24' j=A24 j)∧(∀j,j<(Int.toNat x13')→A25' j=A25 j)∧(∀j,j<(Int.toNat x13')→A26' j=A26 j)∧(∀j,j<(Int.toNat x13')→A27' j=A27 j)∧(∀j,j<(Int.toNat x13')→A28' j=A28 j)∧(∀j,j<(Int.toNat x13')→A29' j=A29 j)∧I0x8 ⟨[],[v7'],[x12',x13'],[A22',A23',A24',A25',A26',A27',A28',A29'],[],[],[]⟩∧m0x8 ⟨[],[v7'],[x12',x13'],[A22',A23',A24',A25',A26',A27',A28',A29'],[],[],[]⟩<m0x8 ⟨[],[v7],[x12,x13],[A22,A23,A24,A25,A26,A27,A28,A29],[],[],[]⟩))))))))))) (
 Cl 65 [.agg (List.append (segCells .u8 16 A17) ([.int .u64 x8,v3.v])).toArray,.agg #[.int .u8 x0,.int .u8 x1]] [dK true v3 x9 A18 A19] fun x hs l=> ∃q1:Bool,x= .bool q1∧hs=l∧
 Fork (¬(q1=true)) (
 Post (.tuple #[.agg (rC x0 x1 true A17 x8 v3.v (.slice none 0 0) (.slice none 0 0) x4).toArray,.slice none 0 0,.int .i64 0]) [dK true v0 x5 A1 A2,rK true v1 x6 A3 A4 A5 A6 A7 A8 A9 A10,qK true v2 x7 A11 A12 A13 A14 A15 A16,dK true v3 x9 A18 A19,rowHP b0 true (rC x0 x1 true A17 x8 v3.v (.slice none 0 0) (.slice none 0 0) x4),rowHP b1 true (List.append (segCells .u8 16 A17) ([.int .u64 x8,v3.v])),rowHP b2 true (rC x0 x1 true A17 x8 v3.v (.slice none 0 0) (.slice none 0 0) x4),rK true v5 x6 A3 A4 A5 A6 A7 A8 A20 A21,rowHP b3 true (rC x0 x1 (!(x2==0)) A0 x3 v0.v v7.v v2.v x4),rowHP b4 true (rC x0 x1 (!(x2==0)) A0 x3 v0.v v7.v v2.v x4),rK true v7 x13 A22 A23 A24 A25 A26 A27 A28 A29]) (
 ∀b5 b6:Nat,I64 x0 ((
 I64 (4*x0) ((
 I64 x1 ((
 I64 ((4*x0)+x1) ((
 ∀b7 b8 b9:Nat,∃(I0x14:Ext→Prop) (m0x14:Ext→Nat),(∃x14:Int,x14=0∧I0x14 ⟨[],[],[x14],[],[],[],[]⟩)∧
 ∀x14:Int,I0x14 ⟨[],[],[x14],[],[],[],[]⟩→
 Need (0≤x13) (
 Need ((¬(x14<x13))∨(0≤x14)) (
 Need ((¬(x14<x13))∨(x14<x13)) (
 Need ((¬(x14<x13))∨(0≤x14)) (
 Need ((¬(x14<x13))∨(x14<x13)) (
 Need ((¬(x14<x13))∨(0≤x14)) (
 Need ((¬(x14<x13))∨(x14<x13)) (
 Need ((¬(x14<x13))∨(0≤x14)) (
 Need ((¬(x14<x13))∨(x14<x13)) (
 Fork ((x14<x13)∧((A26 (Int.toNat x14))<(IntKind.wrap .u64 ((IntKind.wrap .u64 (32*x8))+(IntKind.wrap .u64 ((4*x0)+x1)))))) (
 I64 (x14+1) ((
 ∃x14':Int,x14'=(x14+1)∧I0x14 ⟨[],[],[x14'],[],[],[],[]⟩∧m0x14 ⟨[],[],[x14'],[],[],[],[]⟩<m0x14 ⟨[],[],[x14],[],[],[],[]⟩))) (
 Need (0≤x14) (
 Need (x14≤x13) (
 (∀v8:V1,(U47 (x14*64) (
 ∀(_:V1) (b10:Nat),U47 ((x14+1)*64) (
 ∀_:V1,Need (0≤(x13 - x14)) (
 Need (0≤(x14+1)) (
 Need (0≤(x13 - x14)) (
 Need ((((x14+1)+(x13 - x14))*64)≤140737488355328) (
 ∀v11:V1,st_rtail (fun r k0 k1 k2 k3 k4=>Post r [dK true v0 x5 A1 A2,rK true v1 x6 A3 A4 A5 A6 A7 A8 A9 A10,qK true v2 x7 A11 A12 A13 A14 A15 A16,dK true v3 x9 A18 A19,k3,rowHP b1 true (List.append (segCells .u8 16 A17) ([.int .u64 x8,v3.v])),k4,rK true v5 x6 A3 A4 A5 A6 A7 A8 A20 A21,rowHP b3 true (rC x0 x1 (!(x2==0)) A0 x3 v0.v v7.v v2.v x4),rowHP b4 true (rC x0 x1 (!(x2==0)) A0 x3 v0.v v7.v v2.v x4),rK true v7 x13 A22 A23 A24 A25 A26 A27 A28 A29,rowHP b5 true ([.int .u8 x0,.int .u8 x1]),rowHP b6 true ([.int .u8 x0,.int .u8 x1]),rowHP b7 true (rC x0 x1 true A17 x8 v3.v v11.v (.slice none 0 0) x4),rowHP b8 true (List.append (segCells .u8 16 A17) ([.int .u64 x8,.int .u8 x0,.int .u8 x1,.int .u64 (IntKind.wrap .u64 ((IntKind.wrap .u64 (32*x8))+(IntKind.wrap .u64 ((4*x0)+x1)))),.int .u64 x4])),rowHP b9 true (rC x0 x1 true A17 x8 v3.v v11.v (.slice none 0 0) x4),k2,rowHP b10 true (List.append (segCells .u8 16 A17) ([.int .u64 x8,.int .u8 x0,.int .u8 x1,.int .u64 (IntKind.wrap .u64 ((IntKind.wrap .u64 (32*x8))+(IntKind.wrap .u64 ((4*x0)+x1)))),.int .u64 x4,.bool false,.int .u64 0])),k1,k0]) x0 x1 x4 x7 x8 x9 x13 x14 A11 A12 A13 A14 A15 A16 A17 A18 A19 A22 A23 A24 A25 A26 A27 A28 A29 v3 v11 b0 b2)))))))∧
 (∀b10:Nat,U47 (x14*64) (
 ∀_:V1,U47 ((x14+1)*64) (
 ∀_:V1,Need (0≤(x13 - x14)) (
 Need (0≤(x14+1)) (
 Need (0≤(x13 - x14)) (
 Need ((((x14+1)+(x13 - x14))*64)≤140737488355328) (
 ∀v11:V1,st_rtail (fun r k0 k1 k2 k3 k4=>Post r [dK true v0 x5 A1 A2,rK true v1 x6 A3 A4 A5 A6 A7 A8 A9 A10,qK true v2 x7 A11 A12 A13 A14 A15 A16,dK true v3 x9 A18 A19,k3,rowHP b1 true (List.append (segCells .u8 16 A17) ([.int .u64 x8,v3.v])),k4,rK true v5 x6 A3 A4 A5 A6 A7 A8 A20 A21,rowHP b3 true (rC x0 x1 (!(x2==0)) A0 x3 v0.v v7.v v2.v x4),rowHP b4 true (rC x0 x1 (!(x2==0)) A0 x3 v0.v v7.v v2.v x4),rK true v7 x13 A22 A23 A24 A25 A26 A27 A28 A29,rowHP b5 true ([.int .u8 x0,.int .u8 x1]),rowHP b6 true ([.int .u8 x0,.int .u8 x1]),rowHP b7 true (rC x0 x1 true A17 x8 v3.v v11.v (.slice none 0 0) x4),rowHP b8 true (List.append (segCells .u8 16 A17) ([.int .u64 x8,.int .u8 x0,.int .u8 x1,.int .u64 (IntKind.wrap .u64 ((IntKind.wrap .u64 (32*x8))+(IntKind.wrap .u64 ((4*x0)+x1)))),.int .u64 x4])),rowHP b9 true (rC x0 x1 true A17 x8 v3.v v11.v (.slice none 0 0) x4),k2,rowHP b10 true (List.append (segCells .u8 16 A17) ([.int .u64 x8,.int .u8 x0,.int .u8 x1,.int .u64 (IntKind.wrap .u64 ((IntKind.wrap .u64 (32*x8))+(IntKind.wrap .u64 ((4*x0)+x1)))),.int .u64 x4,.bool false,.int .u64 0])),k1,k0]) x0 x1 x4 x7 x8 x9 x13 x14 A11 A12 A13 A14 A15 A16 A17 A18 A19 A22 A23 A24 A25 A26 A27 A28 A29 v3 v11 b0 b2))))))))∧
 (∀(b10:Nat) (v8:V1),U47 (x14*64) (
 ∀_:V1,U47 ((x14+1)*64) (
 ∀_:V1,Need (0≤(x13 - x14)) (
 Need (0≤(x14+1)) (
 Need (0≤(x13 - x14)) (
 Need ((((x14+1)+(x13 - x14))*64)≤140737488355328) (
 ∀v11:V1,st_rtail (fun r k0 k1 k2 k3 k4=>Post r [dK true v0 x5 A1 A2,rK true v1 x6 A3 A4 A5 A6 A7 A8 A9 A10,qK true v2 x7 A11 A12 A13 A14 A15 A16,dK true v3 x9 A18 A19,k3,rowHP b1 true (List.append (segCells .u8 16 A17) ([.int .u64 x8,v3.v])),k4,rK true v5 x6 A3 A4 A5 A6 A7 A8 A20 A21,rowHP b3 true (rC x0 x1 (!(x2==0)) A0 x3 v0.v v7.v v2.v x4),rowHP b4 true (rC x0 x1 (!(x2==0)) A0 x3 v0.v v7.v v2.v x4),rK true v7 x13 A22 A23 A24 A25 A26 A27 A28 A29,rowHP b5 true ([.int .u8 x0,.int .u8 x1]),rowHP b6 true ([.int .u8 x0,.int .u8 x1]),rowHP b7 true (rC x0 x1 true A17 x8 v3.v v11.v (.slice none 0 0) x4),rowHP b8 true (List.append (segCells .u8 16 A17) ([.int .u64 x8,.int .u8 x0,.int .u8 x1,.int .u64 (IntKind.wrap .u64 ((IntKind.wrap .u64 (32*x8))+(IntKind.wrap .u64 ((4*x0)+x1)))),.int .u64 x4])),rowHP b9 true (rC x0 x1 true A17 x8 v3.v v11.v (.slice none 0 0) x4),rowHP b10 true (List.append (segCells .u8 16 A17) ([.int .u64 x8,.int .u8 x0,.int .u8 x1,.int .u64 (IntKind.wrap .u64 ((IntKind.wrap .u64 (32*x8))+(IntKind.wrap .u64 ((4*x0)+x1)))),.int .u64 x4,.bool false,.int .u64 0])),k2,k1,k0]) x0 x1 x4 x7 x8 x9 x13 x14 A11 A12 A13 A14 A15 A16 A17 A18 A19 A22 A23 A24 A25 A26 A27 A28 A29 v3 v11 b0 b2)))))))))))))))))))))))))))))))))))))
theorem mt_renter(Post:PT)(x0 x1 x2 x3 x4 x5 x6 x7 x8 x9 x10:Int)(A0 A1 A2 A3 A4 A5 A6 A7 A8 A9 A10 A11 A12 A13 A14 A15 A16 A17 A18 A19:Nat→Int)(v0 v1 v2 v3:V1)(h:st_renter Post x0 x1 x2 x3 x4 x5 x6 x7 x8 x9 x10 A0 A1 A2 A3 A4 A5 A6 A7 A8 A9 A10 A11 A12 A13 A14 A15 A16 A17 A18 A19 v0 v1 v2 v3):Meets Tryz.prog 23 [.agg (rC x0 x1 (!(x2==0)) A0 x3 v0.v v1.v v2.v x4).toArray,.agg (List.append (segCells .u8 16 A17) ([.int .u64 x8,v3.v])).toArray,.int .u64 x10] [dK true v0 x5 A1 A2,rK true v1 x6 A3 A4 A5 A6 A7 A8 A9 A10,qK true v2 x7 A11 A12 A13 A14 A15 A16,dK true v3 x9 A18 A19] Post:=
 mtI (C:=cxE) Ha.entA Ha.entHp Ha.entCnt ⟨[x0,x1,x2,x3,x4,x5,x6,x7,x8,x9,x10],[A0,A1,A2,A3,A4,A5,A6,A7,A8,A9,A10,A11,A12,A13,A14,A15,A16,A17,A18,A19],[],[],[v0,v1,v2,v3],[],[],[]⟩ Tryz.func23 (by kernel_rfl) h
end Go.RX.Ha
