/- The group's functions: what is left to be shown; printed by a program of ours (wip/tools/g3.lean). · A group's member, plainly: what is so of it behind whatever it does. -/
import Derived.Test.YtfnaoeleljhmhaaGreatM32
import Derived.Test.YtfnaoeleljhmhaaGreatM29
import Derived.Test.YtfnaoeleljhmhaaGreatM35

namespace Go.RX.Gl
open Go.RX Go.Proofs Go.RX.Gb
set_option maxRecDepth 100000
noncomputable def cxN:Ctx:={T:=TT,FT:=FT,loops:=Gl.loops,callees:=Gl.callees}
def st_tail(Post:PT)(x0 x1 x4 x6 x8 x9 x13 x14 x15 x16 x17:Int)(A1 A2 A11 A12 A13 A14 A15 A16 A17 A18 A19 A30 A31 A32 A33 A34 A35 A36 A37 A38 A39:Nat→Int)(v0 v2 v3 v5 v6:V1)(b0 b1 b2 b3:Nat):Prop:=
 Need (0≤x6) (
 ∃(I1l:Ext→Prop) (m1l:Ext→Nat),(∃(v8 v9:V1) (x18 x19 x20:Int) (A40 A41 A42 A43 A44 A45 A46 A47 A48 A49 A50 A51 A52 A53:Nat→Int),x18=0∧v8=v6∧v9=(⟨.slice none 0 0,rfl⟩:V1)∧v8=v6∧x19=x17∧(∀j,j<(Int.toNat (x19*16))→A40 j=A32 j)∧(∀j,j<(Int.toNat x19)→A41 j=A33 j)∧(∀j,j<(Int.toNat x19)→A42 j=A34 j)∧(∀j,j<(Int.toNat x19)→A43 j=A35 j)∧(∀j,j<(Int.toNat x19)→A44 j=A36 j)∧(∀j,j<(Int.toNat x19)→A45 j=A37 j)∧(∀j,j<(Int.toNat x19)→A46 j=A38 j)∧(∀j,j<(Int.toNat x19)→A47 j=A39 j)∧v9=(⟨.slice none 0 0,rfl⟩:V1)∧x20=0∧(∀j,j<(Int.toNat (x20*16))→A48 j=(fun _=>0) j)∧(∀j,j<(Int.toNat x20)→A49 j=(fun _=>0) j)∧(∀j,j<(Int.toNat x20)→A50 j=(fun _=>0) j)∧(∀j,j<(Int.toNat x20)→A51 j=(fun _=>0) j)∧(∀j,j<(Int.toNat x20)→A52 j=(fun _=>0) j)∧(∀j,j<(Int.toNat x20)→A53 j=(fun _=>0) j)∧I1l ⟨[],[v8,v9],[x18,x19,x20],[A40,A41,A42,A43,A44,A45,A46,A47,A48,A49,A50,A51,A52,A53],[],[],[]⟩)∧
 ∀(v8 v9:V1) (x18 x19 x20:Int) (A40 A41 A42 A43 A44 A45 A46 A47 A48 A49 A50 A51 A52 A53:Nat→Int),I1l ⟨[],[v8,v9],[x18,x19,x20],[A40,A41,A42,A43,A44,A45,A46,A47,A48,A49,A50,A51,A52,A53],[],[],[]⟩→
 Fork (x18<x6) (
 Need (0≤x18) (
 ∀_:Nat,Fork ((∀j,j<16→(shiftF A11 (Int.toNat (x18*16))) j=A17 j)∧(x8≤(A12 (Int.toNat x18)))) (
 Cl 11 [.pointer (some ⟨b0,0,none⟩),dV (shiftF A11 (Int.toNat (x18*16))) (A12 (Int.toNat x18)) (A13 (Int.toNat x18)) (A14 (Int.toNat x18)) (A15 (Int.toNat x18)) (A16 (Int.toNat x18))] [mS b0 b1 x0 x1 true A17 x8 v5.v v8.v v9.v,dK true v5 x13 A30 A31,hK true v8 x19 A40 A41 A42 A43 A44 A45 A46 A47,wK true v9 x20 A48 A49 A50 A51 A52 A53] fun x hs l=> ∃(v10 v11:V1) (x21 x22 x23:Int) (A54 A55 A56 A57 A58 A59 A60 A61 A62 A63 A64 A65 A66 A67:Nat→Int),x= .int .i64 x23∧hs=[mS b0 b1 x0 x1 true A17 x8 v5.v v10.v v11.v,dK true v5 x13 A30 A31,hK true v10 x21 A54 A55 A56 A57 A58 A59 A60 A61,wK true v11 x22 A62 A63 A64 A65 A66 A67]∧
 I64 (x18+1) ((
 ∃(v8' v9':V1) (x18' x19' x20':Int) (A40' A41' A42' A43' A44' A45' A46' A47' A48' A49' A50' A51' A52' A53':Nat→Int),x18'=(x18+1)∧v8'=v10∧v9'=v11∧v8'=v10∧x19'=x21∧(∀j,j<(Int.toNat (x19'*16))→A40' j=A54 j)∧(∀j,j<(Int.toNat x19')→A41' j=A55 j)∧(∀j,j<(Int.toNat x19')→A42' j=A56 j)∧(∀j,j<(Int.toNat x19')→A43' j=A57 j)∧(∀j,j<(Int.toNat x19')→A44' j=A58 j)∧(∀j,j<(Int.toNat x19')→A45' j=A59 j)∧(∀j,j<(Int.toNat x19')→A46' j=A60 j)∧(∀j,j<(Int.toNat x19')→A47' j=A61 j)∧v9'=v11∧x20'=x22∧(∀j,j<(Int.toNat (x20'*16))→A48' j=A62 j)∧(∀j,j<(Int.toNat x20')→A49' j=A63 j)∧(∀j,j<(Int.toNat x20')→A50' j=A64 j)∧(∀j,j<(Int.toNat x20')→A51' j=A65 j)∧(∀j,j<(Int.toNat x20')→A52' j=A66 j)∧(∀j,j<(Int.toNat x20')→A53' j=A67 j)∧I1l ⟨[],[v8',v9'],[x18',x19',x20'],[A40',A41',A42',A43',A44',A45',A46',A47',A48',A49',A50',A51',A52',A53'],[],[],[]⟩∧m1l ⟨[],[v8',v9'],[x18',x19',x20'],[A40',A41',A42',A43',A44',A45',A46',A47',A48',A49',A50',A51',A52',A53'],[],[],[]⟩<m1l ⟨[],[v8,v9],[x18,x19,x20],[A40,A41,A42,A43,A44,A45,A46,A47,A48,A49,A50,A51,A52,A53],[],[],[]⟩))) (
 I64 (x18+1) ((
 ∃(v8' v9':V1) (x18' x19' x20':Int) (A40' A41' A42' A43' A44' A45' A46' A47' A48' A49' A50' A51' A52' A53':Nat→Int),x18'=(x18+1)∧v8'=v8∧v9'=v9∧v8'=v8∧x19'=x19∧(∀j,j<(Int.toNat (x19'*16))→A40' j=A40 j)∧(∀j,j<(Int.toNat x19')→A41' j=A41 j)∧(∀j,j<(Int.toNat x19')→A42' j=A42 j)∧(∀j,j<(Int.toNat x19')→A43' j=A43 j)∧(∀j,j<(Int.toNat x19')→A44' j=A44 j)∧(∀j,j<(Int.toNat x19')→A45' j=A45 j)∧(∀j,j<(Int.toNat x19')→A46' j=A46 j)∧(∀j,j<(Int.toNat x19')→A47' j=A47 j)∧v9'=v9∧x20'=x20∧(∀j,j<(Int.toNat (x20'*16))→A48' j=A48 j)∧(∀j,j<(Int.toNat x20')→A49' j=A49 j)∧(∀j,j<(Int.toNat x20')→A50' j=A50 j)∧(∀j,j<(Int.toNat x20')→A51' j=A51 j)∧(∀j,j<(Int.toNat x20')→A52' j=A52 j)∧(∀j,j<(Int.toNat x20')→A53' j=A53 j)∧I1l ⟨[],[v8',v9'],[x18',x19',x20'],[A40',A41',A42',A43',A44',A45',A46',A47',A48',A49',A50',A51',A52',A53'],[],[],[]⟩∧m1l ⟨[],[v8',v9'],[x18',x19',x20'],[A40',A41',A42',A43',A44',A45',A46',A47',A48',A49',A50',A51',A52',A53'],[],[],[]⟩<m1l ⟨[],[v8,v9],[x18,x19,x20],[A40,A41,A42,A43,A44,A45,A46,A47,A48,A49,A50,A51,A52,A53],[],[],[]⟩))))) (
 Need (0≤x13) (
 ∃(I2l:Ext→Prop) (m2l:Ext→Nat),(∃(v11:V1) (x21 x22:Int) (A54 A55 A56 A57 A58 A59 A60 A61:Nat→Int),x21=0∧v11=(⟨.slice none 0 0,rfl⟩:V1)∧v11=(⟨.slice none 0 0,rfl⟩:V1)∧x22=0∧(∀j,j<(Int.toNat x22)→A54 j=(fun _=>0) j)∧(∀j,j<(Int.toNat x22)→A55 j=(fun _=>0) j)∧(∀j,j<(Int.toNat (x22*16))→A56 j=(fun _=>0) j)∧(∀j,j<(Int.toNat x22)→A57 j=(fun _=>0) j)∧(∀j,j<(Int.toNat x22)→A58 j=(fun _=>0) j)∧(∀j,j<(Int.toNat x22)→A59 j=(fun _=>0) j)∧(∀j,j<(Int.toNat x22)→A60 j=(fun _=>0) j)∧(∀j,j<(Int.toNat x22)→A61 j=(fun _=>0) j)∧I2l ⟨[],[v11],[x21,x22],[A54,A55,A56,A57,A58,A59,A60,A61],[],[],[]⟩)∧
 ∀(v11:V1) (x21 x22:Int) (A54 A55 A56 A57 A58 A59 A60 A61:Nat→Int),I2l ⟨[],[v11],[x21,x22],[A54,A55,A56,A57,A58,A59,A60,A61],[],[],[]⟩→
 Fork (x21<x13) (
 Need (0≤x21) (
 ∀_:Nat,Fork (¬(((A30 (Int.toNat x21))=x0)∧((A31 (Int.toNat x21))=x1))) (
 ∀_:Nat,Need (0≤x22) (
 U47 ((x22+1)*64) (
 ∀v12:V1,I64 (x21+1) ((
 ∃(v11':V1) (x21' x22':Int) (A54' A55' A56' A57' A58' A59' A60' A61':Nat→Int),x21'=(x21+1)∧v11'=v12∧v11'=v12∧x22'=(x22+1)∧(∀j,j<(Int.toNat x22')→A54' j=(updF A54 (Int.toNat x22) (A30 (Int.toNat x21))) j)∧(∀j,j<(Int.toNat x22')→A55' j=(updF A55 (Int.toNat x22) (A31 (Int.toNat x21))) j)∧(∀j,j<(Int.toNat (x22'*16))→A56' j=(splF A56 (Int.toNat (x22*16)) 16 A17) j)∧(∀j,j<(Int.toNat x22')→A57' j=(updF A57 (Int.toNat x22) x8) j)∧(∀j,j<(Int.toNat x22')→A58' j=(updF A58 (Int.toNat x22) x0) j)∧(∀j,j<(Int.toNat x22')→A59' j=(updF A59 (Int.toNat x22) x1) j)∧(∀j,j<(Int.toNat x22')→A60' j=(updF A60 (Int.toNat x22) x14) j)∧(∀j,j<(Int.toNat x22')→A61' j=(updF A61 (Int.toNat x22) x15) j)∧I2l ⟨[],[v11'],[x21',x22'],[A54',A55',A56',A57',A58',A59',A60',A61'],[],[],[]⟩∧m2l ⟨[],[v11'],[x21',x22'],[A54',A55',A56',A57',A58',A59',A60',A61'],[],[],[]⟩<m2l ⟨[],[v11],[x21,x22],[A54,A55,A56,A57,A58,A59,A60,A61],[],[],[]⟩))))) (
 I64 (x21+1) ((
 ∃(v11':V1) (x21' x22':Int) (A54' A55' A56' A57' A58' A59' A60' A61':Nat→Int),x21'=(x21+1)∧v11'=v11∧v11'=v11∧x22'=x22∧(∀j,j<(Int.toNat x22')→A54' j=A54 j)∧(∀j,j<(Int.toNat x22')→A55' j=A55 j)∧(∀j,j<(Int.toNat (x22'*16))→A56' j=A56 j)∧(∀j,j<(Int.toNat x22')→A57' j=A57 j)∧(∀j,j<(Int.toNat x22')→A58' j=A58 j)∧(∀j,j<(Int.toNat x22')→A59' j=A59 j)∧(∀j,j<(Int.toNat x22')→A60' j=A60 j)∧(∀j,j<(Int.toNat x22')→A61' j=A61 j)∧I2l ⟨[],[v11'],[x21',x22'],[A54',A55',A56',A57',A58',A59',A60',A61'],[],[],[]⟩∧m2l ⟨[],[v11'],[x21',x22'],[A54',A55',A56',A57',A58',A59',A60',A61'],[],[],[]⟩<m2l ⟨[],[v11],[x21,x22],[A54,A55,A56,A57,A58,A59,A60,A61],[],[],[]⟩))))) (
 Post (.tuple #[v11.v,.int .i64 0]) [mS b0 b1 x0 x1 true A17 x8 v5.v v8.v v9.v,dK true v0 x4 A1 A2,hK true v8 x19 A40 A41 A42 A43 A44 A45 A46 A47,wK true v2 x6 A11 A12 A13 A14 A15 A16,rowHP b1 true ([.int .u64 x16]),dK true v3 x9 A18 A19,rowHP b2 true (List.append (segCells .u8 16 A17) ([.int .u64 x8,v5.v])),dK true v5 x13 A30 A31,rowHP b3 true (List.append (segCells .u8 16 A17) ([.int .u64 x8,.int .u8 x0,.int .u8 x1,.int .u64 x14,.string ⟨(strD (srowF x15)).toArray⟩])),wK true v9 x20 A48 A49 A50 A51 A52 A53,oK true v11 x22 A54 A55 A56 A57 A58 A59 A60 A61]))))
def st_54(Post:PT)(x0 x1 x4 x6 x8 x9 x12 x13 x14 x15 x16:Int)(A1 A2 A11 A12 A13 A14 A15 A16 A17 A18 A19 A22 A23 A24 A25 A26 A27 A28 A29 A30 A31:Nat→Int)(v0 v2 v3 v4 v5:V1)(b0 b1 b2 b3:Nat):Prop:=
 Cl 54 [.pointer (some ⟨b0,0,none⟩),dV A17 x8 x0 x1 x14 x15] [mS b0 b1 x0 x1 true A17 x8 v5.v v4.v (.slice none 0 0),hK true v4 x12 A22 A23 A24 A25 A26 A27 A28 A29] fun x hs l=> ∃(v6:V1) (x17:Int) (A32 A33 A34 A35 A36 A37 A38 A39:Nat→Int),x= .tuple #[]∧hs=[mS b0 b1 x0 x1 true A17 x8 v5.v v6.v (.slice none 0 0),hK true v6 x17 A32 A33 A34 A35 A36 A37 A38 A39]∧
 st_tail Post x0 x1 x4 x6 x8 x9 x13 x14 x15 x16 x17 A1 A2 A11 A12 A13 A14 A15 A16 A17 A18 A19 A30 A31 A32 A33 A34 A35 A36 A37 A38 A39 v0 v2 v3 v5 v6 b0 b1 b2 b3
def st_enter(Post:PT)(x0 x1 x2 x3 x4 x5 x6 x7 x8 x9 x10:Int)(A0 A1 A2 A3 A4 A5 A6 A7 A8 A9 A10 A11 A12 A13 A14 A15 A16 A17 A18 A19:Nat→Int)(v0 v1 v2 v3:V1)(b0 b1:Nat):Prop:=
 ∀b2:Nat,Cl 51 [.agg (List.append (segCells .u8 16 A17) ([.int .u64 x8,v3.v])).toArray] [dK true v3 x9 A18 A19] fun x hs l=> ∃q0:Bool,x= .bool q0∧hs=l∧
 Fork ((¬(q0=true))∨((x2≠0)∧(¬(∀j,j<16→A17 j=A0 j)))) (
 Post (.tuple #[.slice none 0 0,.int .i64 2]) [mR b0 b1 x0 x1 x2 A0 x3 v0 v1 v2,dK true v0 x4 A1 A2,hK true v1 x5 A3 A4 A5 A6 A7 A8 A9 A10,wK true v2 x6 A11 A12 A13 A14 A15 A16,rowHP b1 true ([.int .u64 x7]),dK true v3 x9 A18 A19,rowHP b2 true (List.append (segCells .u8 16 A17) ([.int .u64 x8,v3.v]))]) (
 Fork ((x2≠0)∧(x8≤x3)) (
 Post (.tuple #[.slice none 0 0,.int .i64 5]) [mR b0 b1 x0 x1 x2 A0 x3 v0 v1 v2,dK true v0 x4 A1 A2,hK true v1 x5 A3 A4 A5 A6 A7 A8 A9 A10,wK true v2 x6 A11 A12 A13 A14 A15 A16,rowHP b1 true ([.int .u64 x7]),dK true v3 x9 A18 A19,rowHP b2 true (List.append (segCells .u8 16 A17) ([.int .u64 x8,v3.v]))]) (
 Need (0≤x5) (
 ∃(I0x4:Ext→Prop) (m0x4:Ext→Nat),(∃(x11:Int) (A20 A21:Nat→Int),x11=0∧(∀j,j<(Int.toNat x5)→A20 j=A9 j)∧(∀j,j<(Int.toNat x5)→A21 j=A10 j)∧I0x4 ⟨[],[],[x11],[A20,A21],[],[],[]⟩)∧
 ∀(x11:Int) (A20 A21:Nat→Int),I0x4 ⟨[],[],[x11],[A20,A21],[],[],[]⟩→
 Fork (x11<x5) (
 Need (0≤x11) (
 Fork (¬((A21 (Int.toNat x11))≠0)) (
 I64 (x11+1) ((
 ∃(x11':Int) (A20' A21':Nat→Int),x11'=(x11+1)∧(∀j,j<(Int.toNat x5)→A20' j=(updF A20 (Int.toNat x11) (IntKind.wrap .u64 (x10+(iop .imin .u64 100 (IntKind.wrap .u64 (18446744073709551615 - x10)))))) j)∧(∀j,j<(Int.toNat x5)→A21' j=(updF A21 (Int.toNat x11) 1) j)∧I0x4 ⟨[],[],[x11'],[A20',A21'],[],[],[]⟩∧m0x4 ⟨[],[],[x11'],[A20',A21'],[],[],[]⟩<m0x4 ⟨[],[],[x11],[A20,A21],[],[],[]⟩))) (
 I64 (x11+1) ((
 ∃(x11':Int) (A20' A21':Nat→Int),x11'=(x11+1)∧(∀j,j<(Int.toNat x5)→A20' j=A20 j)∧(∀j,j<(Int.toNat x5)→A21' j=A21 j)∧I0x4 ⟨[],[],[x11'],[A20',A21'],[],[],[]⟩∧m0x4 ⟨[],[],[x11'],[A20',A21'],[],[],[]⟩<m0x4 ⟨[],[],[x11],[A20,A21],[],[],[]⟩))))) (
 Cl 13 [.pointer (some ⟨b0,0,none⟩),.int .u64 x10] [mR b0 b1 x0 x1 x2 A0 x3 v0 v1 v2,hK true v1 x5 A3 A4 A5 A6 A7 A8 A20 A21] fun x hs l=> ∃(v4:V1) (x12:Int) (A22 A23 A24 A25 A26 A27 A28 A29:Nat→Int),x= .tuple #[]∧hs=[mR b0 b1 x0 x1 x2 A0 x3 v0 v4 v2,hK true v4 x12 A22 A23 A24 A25 A26 A27 A28 A29]∧
 Cl 52 [v3.v] [dK true v3 x9 A18 A19] fun x hs l=> ∃(v5:V1) (x13:Int) (A30 A31:Nat→Int),x=v5.v∧hs=l++[dK true v5 x13 A30 A31]∧
 Cl 53 [.agg (List.append (segCells .u8 16 A17) ([.int .u64 x8,v5.v])).toArray,.agg #[.int .u8 x0,.int .u8 x1]] [dK true v5 x13 A30 A31] fun x hs l=> ∃q1:Bool,x= .bool q1∧hs=l∧
 Fork (¬(q1=true)) (
 Post (.tuple #[.slice none 0 0,.int .i64 0]) [mS b0 b1 x0 x1 true A17 x8 v5.v (.slice none 0 0) (.slice none 0 0),dK true v0 x4 A1 A2,hK true v4 x12 A22 A23 A24 A25 A26 A27 A28 A29,wK true v2 x6 A11 A12 A13 A14 A15 A16,rowHP b1 true ([.int .u64 x7]),dK true v3 x9 A18 A19,rowHP b2 true (List.append (segCells .u8 16 A17) ([.int .u64 x8,v5.v])),dK true v5 x13 A30 A31]) (
 (Cl 21 [.int .u64 x8,.agg #[.int .u8 x0,.int .u8 x1]] [] fun x hs l=> ∃x14:Int,x= .int .u64 x14∧hs=[]∧
 (Cl 254 [.pointer (some ⟨b1,0,none⟩)] [rowHP b1 true ([.int .u64 x7])] fun x hs l=> ∃x15 x16:Int,x= .agg #[.string ⟨(strD (srowF x15)).toArray⟩]∧hs=[rowHP b1 true ([.int .u64 x16])]∧
 ∀b3:Nat,st_54 Post x0 x1 x4 x6 x8 x9 x12 x13 x14 x15 x16 A1 A2 A11 A12 A13 A14 A15 A16 A17 A18 A19 A22 A23 A24 A25 A26 A27 A28 A29 A30 A31 v0 v2 v3 v4 v5 b0 b1 b2 b3)∧
 (∀b3:Nat,Cl 254 [.pointer (some ⟨b1,0,none⟩)] [rowHP b1 true ([.int .u64 x7])] fun x hs l=> ∃x15 x16:Int,x= .agg #[.string ⟨(strD (srowF x15)).toArray⟩]∧hs=[rowHP b1 true ([.int .u64 x16])]∧
 st_54 Post x0 x1 x4 x6 x8 x9 x12 x13 x14 x15 x16 A1 A2 A11 A12 A13 A14 A15 A16 A17 A18 A19 A22 A23 A24 A25 A26 A27 A28 A29 A30 A31 v0 v2 v3 v4 v5 b0 b1 b2 b3))∧
 (∀b3:Nat,Cl 21 [.int .u64 x8,.agg #[.int .u8 x0,.int .u8 x1]] [] fun x hs l=> ∃x14:Int,x= .int .u64 x14∧hs=[]∧
 Cl 254 [.pointer (some ⟨b1,0,none⟩)] [rowHP b1 true ([.int .u64 x7])] fun x hs l=> ∃x15 x16:Int,x= .agg #[.string ⟨(strD (srowF x15)).toArray⟩]∧hs=[rowHP b1 true ([.int .u64 x16])]∧
 st_54 Post x0 x1 x4 x6 x8 x9 x12 x13 x14 x15 x16 A1 A2 A11 A12 A13 A14 A15 A16 A17 A18 A19 A22 A23 A24 A25 A26 A27 A28 A29 A30 A31 v0 v2 v3 v4 v5 b0 b1 b2 b3))))))
theorem mt_enter(Post:PT)(x0 x1 x2 x3 x4 x5 x6 x7 x8 x9 x10:Int)(A0 A1 A2 A3 A4 A5 A6 A7 A8 A9 A10 A11 A12 A13 A14 A15 A16 A17 A18 A19:Nat→Int)(v0 v1 v2 v3:V1)(b0 b1:Nat)(h:st_enter Post x0 x1 x2 x3 x4 x5 x6 x7 x8 x9 x10 A0 A1 A2 A3 A4 A5 A6 A7 A8 A9 A10 A11 A12 A13 A14 A15 A16 A17 A18 A19 v0 v1 v2 v3 b0 b1):Meets Tryz.prog 9 [.pointer (some ⟨b0,0,none⟩),.agg (List.append (segCells .u8 16 A17) ([.int .u64 x8,v3.v])).toArray,.int .u64 x10] [mR b0 b1 x0 x1 x2 A0 x3 v0 v1 v2,dK true v0 x4 A1 A2,hK true v1 x5 A3 A4 A5 A6 A7 A8 A9 A10,wK true v2 x6 A11 A12 A13 A14 A15 A16,rowHP b1 true ([.int .u64 x7]),dK true v3 x9 A18 A19] Post:=
 mtI (C:=cxN) Gl.entA Gl.entHp Gl.entCnt ⟨[x0,x1,x2,x3,x4,x5,x6,x7,x8,x9,x10],[A0,A1,A2,A3,A4,A5,A6,A7,A8,A9,A10,A11,A12,A13,A14,A15,A16,A17,A18,A19],[],[b0,b1],[v0,v1,v2,v3],[],[],[]⟩ Tryz.func9 (by kernel_rfl) h
end Go.RX.Gl

namespace Go.Gp
structure Wf (P:Di→Prop) (n:Nat) (m:Me):Prop where
 rise:Rise m.held
 held: ∀h∈m.held,(mayD h.d=true∧h.d.ep≤m.ep)∧P h.d
 none:m.so=false→m.held=[]
 wait: ∀w∈m.wait,mayD w=true∧P w
 len:m.held.length+m.wait.length≤n
 most:m.wait.length≤64
 mem:m.mem.length≤32
 sf:0≤m.sf.1∧0≤m.sf.2
theorem put_length(l:List He)(e:He)(i:Nat)(hi:i≤l.length):(put l i e).length=l.length+1:=by simp [put];omega
theorem hold_length(l:List He)(d:Di):(hold l d).length=l.length+1:=put_length _ _ _ (low_le _ _)
theorem mem_hold{l:List He}{d:Di}{h:He}(hm:h∈hold l d):h=⟨d,0,false⟩∨h∈l:=by
 unfold hold put at hm;rw [List.mem_append,List.mem_cons]at hm;rcases hm with hm | hm | hm
 ·exact .inr (List.mem_of_mem_take hm)
 ·exact .inl hm
 ·exact .inr (List.mem_of_mem_drop hm)
theorem low_lt(l:List He)(k:Int): ∀j,j<low l k→∀h:j<l.length,l[j].d.kid<k:=by
 unfold low
 induction l with
 | nil=>intro j hj h;simp at h
 | cons a r ih=>
  intro j hj h;rw [List.takeWhile_cons]at hj;split at hj
  ·rename_i ha;cases j with
   | zero=>simpa using ha
   | succ j=>
    simp only [List.length_cons]at hj;simpa using ih j (by omega) (by simpa using h)
  ·simp at hj
theorem low_ge'(k:Int): ∀(l:List He) (i:Nat),i=low l k→∀h:i<l.length,k≤l[i].d.kid
 | [],_,_,h=>by simp at h
 | a::r,i,hi,h=>by
  unfold low at hi;by_cases ha:a.d.kid<k
  ·rw [List.takeWhile_cons_of_pos (by simpa using ha),List.length_cons]at hi;subst hi;exact low_ge' k r _ rfl (Nat.lt_of_succ_lt_succ h)
  ·rw [List.takeWhile_cons_of_neg (by simpa using ha)]at hi;subst hi;simpa using ha
theorem low_ge{l:List He}(k:Int)(h:low l k<l.length):k≤l[low l k].d.kid:=low_ge' k l _ rfl h
theorem rise_hold{l:List He}{d:Di}(hr:Rise l)(hn:holds l d.kid=false):Rise (hold l d):=by
 unfold hold put Rise;have hd: ∀h∈l.drop (low l d.kid),d.kid<h.d.kid:=by
  intro h hm;obtain⟨j,hj,rfl⟩:=List.getElem_of_mem hm;rw [List.getElem_drop];rw [List.length_drop]at hj;have h1:=low_ge (l:=l) d.kid (by omega);have h2:=rise_le hr (i:=low l d.kid) (j:=low l d.kid+j) (by omega) (by omega);have h3:l[low l d.kid+j].d.kid≠d.kid:=by
   intro h;have:holds l d.kid=true:=by
    unfold holds;rw [List.any_eq_true];exact⟨_,List.getElem_mem (by omega:low l d.kid+j<l.length),by simpa using h⟩
   rw [hn]at this;cases this
  omega
 have ht: ∀h∈l.take (low l d.kid),h.d.kid<d.kid:=by
  intro h hm;obtain⟨j,hj,rfl⟩:=List.getElem_of_mem hm;rw [List.getElem_take];rw [List.length_take]at hj;exact low_lt l _ j (by omega) (by omega)
 have hs:(l.take (low l d.kid)++l.drop (low l d.kid)).Pairwise (fun a b=>a.d.kid<b.d.kid):=by rw [List.take_append_drop];exact hr
 rw [List.pairwise_append]at hs;rw [List.pairwise_append,List.pairwise_cons];refine⟨hs.1,⟨hd,hs.2.1⟩,fun a ha b hb=>?_⟩;rcases List.mem_cons.1 hb with rfl | hb
 ·exact ht a ha
 ·exact hs.2.2 a ha b hb
theorem rise_tick{l:List He}(now:Int)(hr:Rise l):Rise (tick l now):=List.Pairwise.filter _ hr
theorem rise_fade{l:List He}(now:Int)(hr:Rise l):Rise (fade l now):=by
 unfold Rise fade;rw [List.pairwise_map];refine List.Pairwise.imp ?_ hr;intro a b h;split<;>split<;>exact h
theorem mem_fade{l:List He}{now:Int}{h:He}(hm:h∈fade l now): ∃a∈l,h.d=a.d:=by
 obtain⟨a,ha,rfl⟩:=List.mem_map.1 hm;refine⟨a,ha,?_⟩;split<;>rfl
theorem mem_fadeTick{l:List He}{now:Int}{h:He}(hm:h∈tick (fade l now) now): ∃a∈l,h.d=a.d:=mem_fade (List.mem_filter.1 hm).1
theorem fadeTick_le(l:List He)(now:Int):(tick (fade l now) now).length≤l.length:=by
 have h:=List.length_filter_le (fun h:He=> !(h.ends&&decide (h.til≤now))) (fade l now);unfold tick;unfold fade at h ⊢;rw [List.length_map]at h;exact h
theorem kidV_of{ep sa sd:Int}(h1:1≤ep)(h2:ep≤1099511627776)(h3:0≤sa)(h4:sa<8)(h5:0≤sd)(h6:sd<4):kidV ep sa sd=ep*32+sa*4+sd:=by
 unfold kidV;omega
theorem kidV_inj{e1 a1 d1 e2 a2 d2:Int}(h1:1≤e1∧e1≤1099511627776∧0≤a1∧a1<8∧0≤d1∧d1<4)(h2:1≤e2∧e2≤1099511627776∧0≤a2∧a2<8∧0≤d2∧d2<4)(h:kidV e1 a1 d1=kidV e2 a2 d2):e1=e2∧a1=a2∧d1=d2:=by
 rw [kidV_of h1.1 h1.2.1 h1.2.2.1 h1.2.2.2.1 h1.2.2.2.2.1 h1.2.2.2.2.2,kidV_of h2.1 h2.2.1 h2.2.2.1 h2.2.2.2.1 h2.2.2.2.2.1 h2.2.2.2.2.2]at h;omega
theorem mayD_iff(d:Di):mayD d=true↔d.sa<8∧d.sd<4∧1≤d.ep∧d.ep≤1099511627776∧d.kid=kidV d.ep d.sa d.sd:=by
 unfold mayD;exact decide_eq_true_iff
theorem held_kid{P:Di→Prop}(hP: ∀d,P d→0≤d.sa∧0≤d.sd){n:Nat}{m:Me}(hw:Wf P n m){h:He}(hm:h∈m.held){ep sa sd:Int}(he:1≤ep∧ep≤1099511627776∧0≤sa∧sa<8∧0≤sd∧sd<4):
  h.d.kid=kidV ep sa sd↔h.d.ep=ep∧h.d.sa=sa∧h.d.sd=sd:=by
 obtain⟨⟨h1,_⟩,h3⟩:=hw.held h hm;obtain⟨q1,q2,q3,q4,q5⟩:=(mayD_iff _).1 h1;obtain⟨p1,p2⟩:=hP _ h3;rw [q5];exact⟨fun h=>kidV_inj ⟨q3,q4,p1,q1,p2,q2⟩ he h,fun⟨a,b,c⟩=>by rw [a,b,c]⟩
def took(m:Me)(d:Di):Me:={m with held:=(take m d).2.1,wait:=(take m d).2.2}
theorem took_wf{P:Di→Prop}{n:Nat}{m:Me}{d:Di}(hw:Wf P n m)(hd:P d):Wf P (n+1) (took m d):=by
 have same: ∀e,take m d=(e,m.held,m.wait)→Wf P (n+1) (took m d):=by
  intro e h;have:took m d=m:=by unfold took;rw [h]
  rw [this];exact {hw with len:=Nat.le_succ_of_le hw.len}
 unfold took;by_cases g1:mayD d=false∨(d.sa,d.sd)=m.sf∨m.so=true∧d.g≠m.g
 ·exact same 2 (by rw [take,if_pos g1])
 have hmd:mayD d=true:=by
  cases h:mayD d
  ·exact absurd (.inl h) g1
  ·rfl
 by_cases g2:m.so=false∨m.ep<d.ep
 ·by_cases hf:(m.wait.find? fun w=>decide (w=d∨w.kid=d.kid))=none
  ·by_cases h64:64≤m.wait.length
   ·exact same 7 (by rw [take,if_neg g1,if_pos g2];simp only [waits,hf,if_pos h64])
   ·have:take m d=(0,m.held,m.wait++[d]):=by rw [take,if_neg g1,if_pos g2];simp only [waits,hf,if_neg h64]
    rw [this];refine {hw with wait:=?_,len:=?_,most:=?_}
    ·intro w hm;rcases List.mem_append.1 hm with hm | hm
     ·exact hw.wait w hm
     ·rw [List.mem_singleton.1 hm];exact⟨hmd,hd⟩
    ·have:=hw.len;simp only [List.length_append,List.length_singleton];omega
    ·simp only [List.length_append,List.length_singleton];omega
  ·obtain⟨w,hf⟩:=Option.ne_none_iff_exists'.1 hf;exact same (if w=d then 0 else 6) (by rw [take,if_neg g1,if_pos g2];simp only [waits,hf])
 by_cases g3:d.ep<m.ep
 ·exact same 241 (by rw [take,if_neg g1,if_neg g2,if_pos g3])
 by_cases g4:m.sf ∉ m.mem∨(d.sa,d.sd) ∉ m.mem
 ·exact same 240 (by rw [take,if_neg g1,if_neg g2,if_neg g3,if_pos g4])
 by_cases g5:holds m.held d.kid=true
 ·exact same (if(m.held.getD (low m.held d.kid) default).d.key=d.key then 0 else 6) (by rw [take,if_neg g1,if_neg g2,if_neg g3,if_neg g4,if_pos g5])
 have:take m d=(0,hold m.held d,m.wait):=by rw [take,if_neg g1,if_neg g2,if_neg g3,if_neg g4,if_neg g5]
 rw [this];refine {hw with rise:=rise_hold hw.rise (by simpa using g5),held:=?_,none:=fun h=>absurd (.inl h) g2,len:=?_}
 ·intro h hm;rcases mem_hold hm with rfl | hm
  ·have:d.ep≤m.ep:=Int.not_lt.1 fun h=>g2 (.inr h)
   exact⟨⟨hmd,this⟩,hd⟩
  ·exact hw.held h hm
 ·have:=hw.len;show(hold m.held d).length+m.wait.length≤n+1;rw [hold_length];omega
theorem retake_wf{P:Di→Prop}{n:Nat}{m:Me}{d:Di}(g:List Int)(ep:Int)(hw:Wf P n m)(hd:P d):Wf P (n+1) (retake g ep m d):=by
 unfold retake;split
 ·exact took_wf hw hd
 ·exact {hw with len:=Nat.le_succ_of_le hw.len}
theorem retakes_wf{P:Di→Prop}(g:List Int)(ep:Int): ∀(l:List Di) {n:Nat} {m:Me},Wf P n m→(∀d∈l,P d)→Wf P (n+l.length) (l.foldl (retake g ep) m)
 | [],_,_,hw,_=>hw
 | d::l,n,_,hw,hd=>by
  rw [List.foldl_cons,List.length_cons,show n+(l.length+1)=n+1+l.length by omega];exact retakes_wf g ep l (retake_wf g ep hw (hd d (List.mem_cons_self ..))) fun x hx=>hd x (List.mem_cons_of_mem _ hx)
theorem retakes_same(g:List Int)(ep:Int): ∀(l:List Di) (m:Me),(l.foldl (retake g ep) m).sf=m.sf∧(l.foldl (retake g ep) m).so=m.so∧(l.foldl (retake g ep) m).g=m.g∧(l.foldl (retake g ep) m).ep=m.ep∧(l.foldl (retake g ep) m).mem=m.mem
 | [],_=>⟨rfl,rfl,rfl,rfl,rfl⟩
 | d::l,m=>by
  rw [List.foldl_cons];obtain⟨h1,h2,h3,h4,h5⟩:=retakes_same g ep l (retake g ep m d);have:(retake g ep m d).sf=m.sf∧(retake g ep m d).so=m.so∧(retake g ep m d).g=m.g∧(retake g ep m d).ep=m.ep∧(retake g ep m d).mem=m.mem:=by
   unfold retake;split<;>exact⟨rfl,rfl,rfl,rfl,rfl⟩
  exact⟨h1.trans this.1,h2.trans this.2.1,h3.trans this.2.2.1,h4.trans this.2.2.2.1,h5.trans this.2.2.2.2⟩
theorem mayR_small{ep:Int}{mem:List (Int×Int)}(h:mayR ep mem=true):(1≤ep∧ep≤1099511627776∧mem.length≤32)∧∀p∈mem,p.1<8∧p.2<4:=by
 unfold mayR at h;rw [Bool.and_eq_true,Bool.and_eq_true,decide_eq_true_iff,List.all_eq_true]at h;exact⟨h.1.1,fun p hp=>of_decide_eq_true (h.1.2 p hp)⟩
theorem own_new{P:Di→Prop}(hP: ∀d,P d→0≤d.sa∧0≤d.sd){n:Nat}{m:Me}(hw:Wf P n m){ep:Int}(he:1≤ep∧ep≤1099511627776)(hlt:m.so=true→m.ep<ep)(hs:m.sf.1<8∧m.sf.2<4)(now:Int):
  holds (tick (fade m.held now) now) (kidV ep m.sf.1 m.sf.2)=false:=by
 rw [Bool.eq_false_iff];intro h;unfold holds at h;rw [List.any_eq_true]at h;obtain⟨x,hx,hk⟩:=h;obtain⟨a,ha,hd⟩:=mem_fadeTick hx;rw [beq_iff_eq,hd]at hk;have:=(held_kid hP hw ha ⟨he.1,he.2,hw.sf.1,hs.1,hw.sf.2,hs.2⟩).1 hk;have h2:=(hw.held a ha).1.2;cases hso:m.so
 ·rw [hw.none hso]at ha;cases ha
 ·have:=hlt hso;omega
theorem into_wf{P:Di→Prop}(hP: ∀d,P d→0≤d.sa∧0≤d.sd){n:Nat}{m:Me}(hw:Wf P n m){g:List Int}{ep:Int}{mem:List (Int×Int)}(now key:Int)(hr:mayR ep mem=true)(hlt:m.so=true→m.ep<ep)(hin:m.sf∈mem)(ho:P (ownD m g ep key)):
  Wf P (m.held.length+1) (into m g ep mem now key):=by
 obtain⟨⟨e1,e2,e3⟩,hs⟩:=mayR_small hr;have hs:=hs _ hin;have old: ∀h∈tick (fade m.held now) now,(mayD h.d=true∧h.d.ep≤ep)∧P h.d:=by
  intro h hm;obtain⟨a,ha,hd⟩:=mem_fadeTick hm;obtain⟨⟨h1,h2⟩,h3⟩:=hw.held a ha;rw [hd];refine⟨⟨h1,?_⟩,h3⟩;cases hso:m.so
  ·rw [hw.none hso]at ha;cases ha
  ·have:=hlt hso;omega
 refine⟨?_,?_,fun h=>(by cases h),fun w h=>(by cases h),?_,Nat.zero_le _,e3,hw.sf⟩
 ·exact rise_hold (rise_tick now (rise_fade now hw.rise)) (own_new hP hw ⟨e1,e2⟩ hlt hs now)
 ·intro h hm;rcases mem_hold hm with rfl | hm
  ·refine⟨⟨?_,Int.le_refl _⟩,ho⟩;rw [mayD_iff];exact⟨hs.1,hs.2,e1,e2,rfl⟩
  ·exact old h hm
 ·have:=fadeTick_le m.held now;show(hold (tick (fade m.held now) now) _).length+0≤_;rw [hold_length];omega
theorem enter_wf{P:Di→Prop}(hP: ∀d,P d→0≤d.sa∧0≤d.sd){n:Nat}{m:Me}(hw:Wf P n m)(g:List Int)(ep:Int)(mem:List (Int×Int))(now key:Int)(ho:P (ownD m g ep key)):Wf P (n+1) (enter m g ep mem now key).2.1:=by
 have same:Wf P (n+1) m:={hw with len:=Nat.le_succ_of_le hw.len};unfold enter;by_cases g1:mayR ep mem=false∨m.so=true∧g≠m.g
 ·rw [if_pos g1];exact same
 rw [if_neg g1];by_cases g2:m.so=true∧ep≤m.ep
 ·rw [if_pos g2];exact same
 rw [if_neg g2];have hr:mayR ep mem=true:=by
  cases h:mayR ep mem
  ·exact absurd (.inl h) g1
  ·rfl
 by_cases g3:m.sf ∉ mem
 ·rw [if_pos g3];exact⟨List.Pairwise.nil,fun _ h=>(by cases h),fun h=>(by cases h),fun _ h=>(by cases h),Nat.zero_le _,Nat.zero_le _,(mayR_small hr).1.2.2,hw.sf⟩
 rw [if_neg g3];have:=retakes_wf g ep m.wait (into_wf hP hw (g:=g) (ep:=ep) (mem:=mem) now key hr (fun h=>by
  have: ¬ep≤m.ep:=fun h'=>g2 ⟨h,h'⟩
  omega) (Classical.not_not.1 g3) ho) fun d hd=>(hw.wait d hd).2
 exact {this with len:=Nat.le_trans this.len (by have h2:=hw.len;omega)}
theorem tick_wf{P:Di→Prop}{n:Nat}{m:Me}(hw:Wf P n m)(now:Int):Wf P n {m with held:=tick m.held now}:=by
 refine {hw with rise:=rise_tick now hw.rise,held:=fun h hm=>hw.held h (List.mem_filter.1 hm).1,none:=fun h=>by rw [hw.none h];rfl,len:=?_};have h1:=hw.len;have h2:=List.length_filter_le (fun h:He=> !(h.ends&&decide (h.til≤now))) m.held;show(tick m.held now).length+m.wait.length≤n;unfold tick;omega
end Go.Gp
