/- The group's functions: what is left to be shown; printed by a program of ours (wip/tools/g8.lean). · The law's own functions: the executor's contexts. -/
import Derived.Test.YtfnaoeleljhmhaaGreatM36
import Derived.Test.YtfnaoeleljhmhaaGreatM26

namespace Go.RX.Hi
open Go.RX Go.Proofs Go.RX.Gb
set_option maxRecDepth 100000
def st_k0(Post:PT)(I1j6:Ext→Prop)(x0 x1 x11 x14 x15 x18 x19 x20 x21 x22 x23 x24 x25 x26 x27:Int)(A2 A36 A37 A38 A39 A40 A41 A42 A43 A47 A48 A49 A50 A51 A52 A53 A54 A55 A56 A57 A58 A59 A60 A61 A62 A63 A64 A65:Nat→Int)(v10 v11 v12:V1)(p2:HP):Prop:=
 Need ((¬(x14=x26))∨(0≤x15)) (
 Need ((¬(x14=x26))∨(0≤x27)) (
 Fork ((¬(x14=x26))∨(¬(x15=x27))) (
 Post (.bool false) []) (
 Need (0≤x27) (
 ∃(I2l:Ext→Prop) (m2l:Ext→Nat),(∃x28:Int,x28=0∧I2l ⟨[],[],[x28],[],[],[],[]⟩)∧
 ∀x28:Int,I2l ⟨[],[],[x28],[],[],[],[]⟩→
 Fork (x28<x27) (
 Need (0≤x28) (
 ∀_:Nat,Cl 24 [.agg (rC x18 x19 (!(x20==0)) A47 x21 v10.v v11.v v12.v x22).toArray,.agg #[.int .u8 x0,.int .u8 x1],.int .u64 (A2 (Int.toNat x11))] [rK true v11 x24 A50 A51 A52 A53 A54 A55 A56 A57] fun x hs l=> ∃x29:Int,x= .int .i64 x29∧hs=l∧
 Need ((x29<0)∨(0≤x28)) (
 Need ((x29<0)∨(x28<x15)) (
 Need ((x29<0)∨(0≤x28)) (
 Need ((x29<0)∨(x28<x15)) (
 Need ((x29<0)∨(0≤x28)) (
 Need ((x29<0)∨(x28<x15)) (
 Need (((x29<0)∨(¬(((A36 (Int.toNat x28))=(A64 (Int.toNat x28)))∧((A37 (Int.toNat x28))=(A65 (Int.toNat x28))))))∨(0≤x28)) (
 Need (((x29<0)∨(¬(((A36 (Int.toNat x28))=(A64 (Int.toNat x28)))∧((A37 (Int.toNat x28))=(A65 (Int.toNat x28))))))∨(x28<x15)) (
 Need (((x29<0)∨(¬(((A36 (Int.toNat x28))=(A64 (Int.toNat x28)))∧((A37 (Int.toNat x28))=(A65 (Int.toNat x28))))))∨(0≤x28)) (
 Need (((x29<0)∨(¬(((A36 (Int.toNat x28))=(A64 (Int.toNat x28)))∧((A37 (Int.toNat x28))=(A65 (Int.toNat x28))))))∨(x28<x15)) (
 Need (((x29<0)∨(¬(((A36 (Int.toNat x28))=(A64 (Int.toNat x28)))∧((A37 (Int.toNat x28))=(A65 (Int.toNat x28))))))∨(0≤x28)) (
 Need (((x29<0)∨(¬(((A36 (Int.toNat x28))=(A64 (Int.toNat x28)))∧((A37 (Int.toNat x28))=(A65 (Int.toNat x28))))))∨(x28<x15)) (
 Need (((x29<0)∨(¬(((A36 (Int.toNat x28))=(A64 (Int.toNat x28)))∧((A37 (Int.toNat x28))=(A65 (Int.toNat x28))))))∨(0≤x29)) (
 Need (((x29<0)∨(¬(((A36 (Int.toNat x28))=(A64 (Int.toNat x28)))∧((A37 (Int.toNat x28))=(A65 (Int.toNat x28))))))∨(x29<x24)) (
 Need (((x29<0)∨(¬(((A36 (Int.toNat x28))=(A64 (Int.toNat x28)))∧((A37 (Int.toNat x28))=(A65 (Int.toNat x28))))))∨(0≤x29)) (
 Need (((x29<0)∨(¬(((A36 (Int.toNat x28))=(A64 (Int.toNat x28)))∧((A37 (Int.toNat x28))=(A65 (Int.toNat x28))))))∨(x29<x24)) (
 Need (((x29<0)∨(¬(((A36 (Int.toNat x28))=(A64 (Int.toNat x28)))∧((A37 (Int.toNat x28))=(A65 (Int.toNat x28))))))∨(0≤x29)) (
 Need (((x29<0)∨(¬(((A36 (Int.toNat x28))=(A64 (Int.toNat x28)))∧((A37 (Int.toNat x28))=(A65 (Int.toNat x28))))))∨(x29<x24)) (
 Fork (¬((x29<0)∨(¬(((A36 (Int.toNat x28))=(A64 (Int.toNat x28)))∧((A37 (Int.toNat x28))=(A65 (Int.toNat x28))))))) (
 Cl 12 [.agg (List.append (segCells .u8 16 (shiftF A50 (Int.toNat (x29*16)))) ([.int .u64 (A51 (Int.toNat x29)),.int .u8 (A52 (Int.toNat x29)),.int .u8 (A53 (Int.toNat x29)),.int .u64 (A54 (Int.toNat x29)),.int .u64 (A55 (Int.toNat x29))])).toArray] [] fun x hs l=> ∃(x30 x31 x32 x33 x34:Int) (A66:Nat→Int),x=(dV A66 x30 x31 x32 x33 x34)∧hs=[]∧
 Fork (¬((∀j,j<16→(shiftF A38 (Int.toNat (x28*16))) j=A66 j)∧(((A39 (Int.toNat x28))=x30)∧(((A40 (Int.toNat x28))=x31)∧(((A41 (Int.toNat x28))=x32)∧(((A42 (Int.toNat x28))=x33)∧(strD (srowF (A43 (Int.toNat x28)))=strD (srowF x34)))))))) (
 Post (.bool false) []) (
 I64 (x28+1) ((
 ∃x28':Int,x28'=(x28+1)∧I2l ⟨[],[],[x28'],[],[],[],[]⟩∧m2l ⟨[],[],[x28'],[],[],[],[]⟩<m2l ⟨[],[],[x28],[],[],[],[]⟩)))) (
 Post (.bool false) []))))))))))))))))))))) (
 ∃(v7' v8' v9':V1) (x12' x13' x14' x15' x16' x17' x18' x19':Int) (A33' A34' A35' A36' A37' A38' A39' A40' A41' A42' A43' A44' A45' A46' A47' A48' A49':Nat→Int),∃p2':HP,x12'=x18∧x13'=x19∧(!(x14'==0))=(!(x20==0))∧(∀j,j<16→A33' j=A47 j)∧x15'=x21∧v7'=v10∧v8'=v11∧v9'=v12∧x16'=x22∧p2'=p2∧v7'=v10∧x17'=x23∧(∀j,j<(Int.toNat x17')→A34' j=A48 j)∧(∀j,j<(Int.toNat x17')→A35' j=A49 j)∧v8'=v11∧x18'=x24∧(∀j,j<(Int.toNat (x18'*16))→A36' j=A50 j)∧(∀j,j<(Int.toNat x18')→A37' j=A51 j)∧(∀j,j<(Int.toNat x18')→A38' j=A52 j)∧(∀j,j<(Int.toNat x18')→A39' j=A53 j)∧(∀j,j<(Int.toNat x18')→A40' j=A54 j)∧(∀j,j<(Int.toNat x18')→A41' j=A55 j)∧(∀j,j<(Int.toNat x18')→A42' j=A56 j)∧(∀j,j<(Int.toNat x18')→A43' j=A57 j)∧v9'=v12∧x19'=x25∧(∀j,j<(Int.toNat (x19'*16))→A44' j=A58 j)∧(∀j,j<(Int.toNat x19')→A45' j=A59 j)∧(∀j,j<(Int.toNat x19')→A46' j=A60 j)∧(∀j,j<(Int.toNat x19')→A47' j=A61 j)∧(∀j,j<(Int.toNat x19')→A48' j=A62 j)∧(∀j,j<(Int.toNat x19')→A49' j=A63 j)∧I1j6 ⟨[],[v7',v8',v9'],[x12',x13',x14',x15',x16',x17',x18',x19'],[A33',A34',A35',A36',A37',A38',A39',A40',A41',A42',A43',A44',A45',A46',A47',A48',A49'],[],[p2'],[]⟩)))))
def st_law(Post:PT)(x0 x1 x2:Int)(A0 A1 A2 A3 A4 A5 A6 A7 A8 A9 A10 A11 A12 A13 A14 A15:Nat→Int)(_:V1):Prop:=
 ∀_:Nat,Cl 6 [] [] fun x hs l=>x= .bool true∧hs=[]∧
 Need (0≤x2) (
 Fork (200<x2) (
 Post (.bool true) []) (
 ∃I0j2:Ext→Prop,(
 (Cl 7 [.int .u64 4294967296] [] fun x hs l=> ∃(b1:Nat) (x3:Int),x=(.iface 135 (.pointer (some ⟨b1,0,none⟩)))∧hs=[rowHP b1 true ([.int .u64 x3])]∧
 (Cl 8 [(.iface 135 (.pointer (some ⟨b1,0,none⟩))),.agg #[.int .u8 x0,.int .u8 x1]] [rowHP b1 true ([.int .u64 x3])] fun x hs l=> ∃b2:Nat,∃p0:HP,x= .pointer (some ⟨b2,0,none⟩)∧hs=[p0]∧
 ∀b3:Nat,∃b1' b2':Nat,∃p0':HP,b1'=b2∧b2'=b3∧b2'=b3∧p0'=p0∧I0j2 ⟨[b1',b2'],[],[],[],[],[p0'],[]⟩)∧
 (∀b2:Nat,Cl 8 [(.iface 135 (.pointer (some ⟨b1,0,none⟩))),.agg #[.int .u8 x0,.int .u8 x1]] [rowHP b1 true ([.int .u64 x3])] fun x hs l=> ∃b3:Nat,∃p0:HP,x= .pointer (some ⟨b3,0,none⟩)∧hs=[p0]∧
 ∃b1' b2':Nat,∃p0':HP,b1'=b3∧b2'=b2∧b2'=b2∧p0'=p0∧I0j2 ⟨[b1',b2'],[],[],[],[],[p0'],[]⟩))∧
 (∀b1:Nat,Cl 7 [.int .u64 4294967296] [] fun x hs l=> ∃(b2:Nat) (x3:Int),x=(.iface 135 (.pointer (some ⟨b2,0,none⟩)))∧hs=[rowHP b2 true ([.int .u64 x3])]∧
 Cl 8 [(.iface 135 (.pointer (some ⟨b2,0,none⟩))),.agg #[.int .u8 x0,.int .u8 x1]] [rowHP b2 true ([.int .u64 x3])] fun x hs l=> ∃b3:Nat,∃p0:HP,x= .pointer (some ⟨b3,0,none⟩)∧hs=[p0]∧
 ∃b1' b2':Nat,∃p0':HP,b1'=b3∧b2'=b1∧b2'=b1∧p0'=p0∧I0j2 ⟨[b1',b2'],[],[],[],[],[p0'],[]⟩))∧
 ∀b1 b2:Nat,∀p0:HP,I0j2 ⟨[b1,b2],[],[],[],[],[p0],[]⟩→
 Need (0≤x2) (
 ∃(I0x2:Ext→Prop) (m0x2:Ext→Nat),(∃(v4 v5 v6:V1) (x3 x4 x5 x6 x7 x8 x9 x10 x11:Int) (A16 A17 A18 A19 A20 A21 A22 A23 A24 A25 A26 A27 A28 A29 A30 A31 A32:Nat→Int),∃p1:HP,x11=0∧x3=x0∧x4=x1∧(!(x5==0))=false∧(∀j,j<16→A16 j=(fun _=>0) j)∧x6=0∧v4=(⟨.slice none 0 0,rfl⟩:V1)∧v5=(⟨.slice none 0 0,rfl⟩:V1)∧v6=(⟨.slice none 0 0,rfl⟩:V1)∧x7=4294967296∧p1=p0∧v4=(⟨.slice none 0 0,rfl⟩:V1)∧x8=0∧(∀j,j<(Int.toNat x8)→A17 j=(fun _=>0) j)∧(∀j,j<(Int.toNat x8)→A18 j=(fun _=>0) j)∧v5=(⟨.slice none 0 0,rfl⟩:V1)∧x9=0∧(∀j,j<(Int.toNat (x9*16))→A19 j=(fun _=>0) j)∧(∀j,j<(Int.toNat x9)→A20 j=(fun _=>0) j)∧(∀j,j<(Int.toNat x9)→A21 j=(fun _=>0) j)∧(∀j,j<(Int.toNat x9)→A22 j=(fun _=>0) j)∧(∀j,j<(Int.toNat x9)→A23 j=(fun _=>0) j)∧(∀j,j<(Int.toNat x9)→A24 j=(fun _=>0) j)∧(∀j,j<(Int.toNat x9)→A25 j=(fun _=>0) j)∧(∀j,j<(Int.toNat x9)→A26 j=(fun _=>0) j)∧v6=(⟨.slice none 0 0,rfl⟩:V1)∧x10=0∧(∀j,j<(Int.toNat (x10*16))→A27 j=(fun _=>0) j)∧(∀j,j<(Int.toNat x10)→A28 j=(fun _=>0) j)∧(∀j,j<(Int.toNat x10)→A29 j=(fun _=>0) j)∧(∀j,j<(Int.toNat x10)→A30 j=(fun _=>0) j)∧(∀j,j<(Int.toNat x10)→A31 j=(fun _=>0) j)∧(∀j,j<(Int.toNat x10)→A32 j=(fun _=>0) j)∧I0x2 ⟨[],[v4,v5,v6],[x3,x4,x5,x6,x7,x8,x9,x10,x11],[A16,A17,A18,A19,A20,A21,A22,A23,A24,A25,A26,A27,A28,A29,A30,A31,A32],[],[p1],[]⟩)∧
 ∀(v4 v5 v6:V1) (x3 x4 x5 x6 x7 x8 x9 x10 x11:Int) (A16 A17 A18 A19 A20 A21 A22 A23 A24 A25 A26 A27 A28 A29 A30 A31 A32:Nat→Int),∀p1:HP,I0x2 ⟨[],[v4,v5,v6],[x3,x4,x5,x6,x7,x8,x9,x10,x11],[A16,A17,A18,A19,A20,A21,A22,A23,A24,A25,A26,A27,A28,A29,A30,A31,A32],[],[p1],[]⟩→
 Fork (x11<x2) (
 Need (0≤x11) (
 ∀b3:Nat,∃I1j6:Ext→Prop,(
 Fork ((A0 (Int.toNat x11))=0) (
 Cl 10 [.agg (.int .u8 (A0 (Int.toNat x11))::(.int .u32 (A1 (Int.toNat x11))::(.int .u64 (A2 (Int.toNat x11))::(List.append (segCells .u8 16 (shiftF A3 (Int.toNat (x11*16)))) (.int .u64 (A4 (Int.toNat x11))::(List.append (segCells .u8 16 (shiftF A5 (Int.toNat (x11*16)))) ([.int .u64 (A6 (Int.toNat x11)),.int .u8 (A7 (Int.toNat x11)),.int .u8 (A8 (Int.toNat x11)),.int .u64 (A9 (Int.toNat x11)),.int .u64 (A10 (Int.toNat x11)),.int .u8 (A11 (Int.toNat x11)),.int .u8 (A12 (Int.toNat x11)),.int .u64 (A13 (Int.toNat x11)),.int .u64 (A14 (Int.toNat x11)),.int .u64 (A15 (Int.toNat x11))]))))))).toArray] [] fun x hs l=> ∃(v7:V1) (x12 x13:Int) (A33 A34 A35:Nat→Int),x= .agg (List.append (segCells .u8 16 A33) ([.int .u64 x12,v7.v])).toArray∧hs=[dK true v7 x13 A34 A35]∧
 Cl 9 [.pointer (some ⟨b1,0,none⟩),.agg (List.append (segCells .u8 16 A33) ([.int .u64 x12,v7.v])).toArray,.int .u64 (A4 (Int.toNat x11))] [p1,dK true v7 x13 A34 A35] fun x hs l=> ∃(v8:V1) (x14 x15:Int) (A36 A37 A38 A39 A40 A41 A42 A43:Nat→Int),∃p2:HP,x= .tuple #[v8.v,.int .i64 x14]∧hs=[p2,dK true v7 x13 A34 A35,oK true v8 x15 A36 A37 A38 A39 A40 A41 A42 A43]∧
 (Cl 10 [.agg (.int .u8 (A0 (Int.toNat x11))::(.int .u32 (A1 (Int.toNat x11))::(.int .u64 (A2 (Int.toNat x11))::(List.append (segCells .u8 16 (shiftF A3 (Int.toNat (x11*16)))) (.int .u64 (A4 (Int.toNat x11))::(List.append (segCells .u8 16 (shiftF A5 (Int.toNat (x11*16)))) ([.int .u64 (A6 (Int.toNat x11)),.int .u8 (A7 (Int.toNat x11)),.int .u8 (A8 (Int.toNat x11)),.int .u64 (A9 (Int.toNat x11)),.int .u64 (A10 (Int.toNat x11)),.int .u8 (A11 (Int.toNat x11)),.int .u8 (A12 (Int.toNat x11)),.int .u64 (A13 (Int.toNat x11)),.int .u64 (A14 (Int.toNat x11)),.int .u64 (A15 (Int.toNat x11))]))))))).toArray] [] fun x hs l=> ∃(v9:V1) (x16 x17:Int) (A44 A45 A46:Nat→Int),x= .agg (List.append (segCells .u8 16 A44) ([.int .u64 x16,v9.v])).toArray∧hs=[dK true v9 x17 A45 A46]∧
 (Cl 23 [.agg (rC x3 x4 (!(x5==0)) A16 x6 v4.v v5.v v6.v x7).toArray,.agg (List.append (segCells .u8 16 A44) ([.int .u64 x16,v9.v])).toArray,.int .u64 (A4 (Int.toNat x11))] [dK true v4 x8 A17 A18,rK true v5 x9 A19 A20 A21 A22 A23 A24 A25 A26,qK true v6 x10 A27 A28 A29 A30 A31 A32,dK true v9 x17 A45 A46] fun x hs l=> ∃(v10 v11 v12 v13:V1) (x18 x19 x20 x21 x22 x23 x24 x25 x26 x27:Int) (A47 A48 A49 A50 A51 A52 A53 A54 A55 A56 A57 A58 A59 A60 A61 A62 A63 A64 A65:Nat→Int),x= .tuple #[.agg (rC x18 x19 (!(x20==0)) A47 x21 v10.v v11.v v12.v x22).toArray,v13.v,.int .i64 x26]∧hs=[dK true v10 x23 A48 A49,rK true v11 x24 A50 A51 A52 A53 A54 A55 A56 A57,qK true v12 x25 A58 A59 A60 A61 A62 A63,dK true v13 x27 A64 A65]∧
 ∀_:Nat,st_k0 Post I1j6 x0 x1 x11 x14 x15 x18 x19 x20 x21 x22 x23 x24 x25 x26 x27 A2 A36 A37 A38 A39 A40 A41 A42 A43 A47 A48 A49 A50 A51 A52 A53 A54 A55 A56 A57 A58 A59 A60 A61 A62 A63 A64 A65 v10 v11 v12 p2)∧
 (∀_:Nat,Cl 23 [.agg (rC x3 x4 (!(x5==0)) A16 x6 v4.v v5.v v6.v x7).toArray,.agg (List.append (segCells .u8 16 A44) ([.int .u64 x16,v9.v])).toArray,.int .u64 (A4 (Int.toNat x11))] [dK true v4 x8 A17 A18,rK true v5 x9 A19 A20 A21 A22 A23 A24 A25 A26,qK true v6 x10 A27 A28 A29 A30 A31 A32,dK true v9 x17 A45 A46] fun x hs l=> ∃(v10 v11 v12 v13:V1) (x18 x19 x20 x21 x22 x23 x24 x25 x26 x27:Int) (A47 A48 A49 A50 A51 A52 A53 A54 A55 A56 A57 A58 A59 A60 A61 A62 A63 A64 A65:Nat→Int),x= .tuple #[.agg (rC x18 x19 (!(x20==0)) A47 x21 v10.v v11.v v12.v x22).toArray,v13.v,.int .i64 x26]∧hs=[dK true v10 x23 A48 A49,rK true v11 x24 A50 A51 A52 A53 A54 A55 A56 A57,qK true v12 x25 A58 A59 A60 A61 A62 A63,dK true v13 x27 A64 A65]∧
 st_k0 Post I1j6 x0 x1 x11 x14 x15 x18 x19 x20 x21 x22 x23 x24 x25 x26 x27 A2 A36 A37 A38 A39 A40 A41 A42 A43 A47 A48 A49 A50 A51 A52 A53 A54 A55 A56 A57 A58 A59 A60 A61 A62 A63 A64 A65 v10 v11 v12 p2))∧
 (∀_:Nat,Cl 10 [.agg (.int .u8 (A0 (Int.toNat x11))::(.int .u32 (A1 (Int.toNat x11))::(.int .u64 (A2 (Int.toNat x11))::(List.append (segCells .u8 16 (shiftF A3 (Int.toNat (x11*16)))) (.int .u64 (A4 (Int.toNat x11))::(List.append (segCells .u8 16 (shiftF A5 (Int.toNat (x11*16)))) ([.int .u64 (A6 (Int.toNat x11)),.int .u8 (A7 (Int.toNat x11)),.int .u8 (A8 (Int.toNat x11)),.int .u64 (A9 (Int.toNat x11)),.int .u64 (A10 (Int.toNat x11)),.int .u8 (A11 (Int.toNat x11)),.int .u8 (A12 (Int.toNat x11)),.int .u64 (A13 (Int.toNat x11)),.int .u64 (A14 (Int.toNat x11)),.int .u64 (A15 (Int.toNat x11))]))))))).toArray] [] fun x hs l=> ∃(v9:V1) (x16 x17:Int) (A44 A45 A46:Nat→Int),x= .agg (List.append (segCells .u8 16 A44) ([.int .u64 x16,v9.v])).toArray∧hs=[dK true v9 x17 A45 A46]∧
 Cl 23 [.agg (rC x3 x4 (!(x5==0)) A16 x6 v4.v v5.v v6.v x7).toArray,.agg (List.append (segCells .u8 16 A44) ([.int .u64 x16,v9.v])).toArray,.int .u64 (A4 (Int.toNat x11))] [dK true v4 x8 A17 A18,rK true v5 x9 A19 A20 A21 A22 A23 A24 A25 A26,qK true v6 x10 A27 A28 A29 A30 A31 A32,dK true v9 x17 A45 A46] fun x hs l=> ∃(v10 v11 v12 v13:V1) (x18 x19 x20 x21 x22 x23 x24 x25 x26 x27:Int) (A47 A48 A49 A50 A51 A52 A53 A54 A55 A56 A57 A58 A59 A60 A61 A62 A63 A64 A65:Nat→Int),x= .tuple #[.agg (rC x18 x19 (!(x20==0)) A47 x21 v10.v v11.v v12.v x22).toArray,v13.v,.int .i64 x26]∧hs=[dK true v10 x23 A48 A49,rK true v11 x24 A50 A51 A52 A53 A54 A55 A56 A57,qK true v12 x25 A58 A59 A60 A61 A62 A63,dK true v13 x27 A64 A65]∧
 st_k0 Post I1j6 x0 x1 x11 x14 x15 x18 x19 x20 x21 x22 x23 x24 x25 x26 x27 A2 A36 A37 A38 A39 A40 A41 A42 A43 A47 A48 A49 A50 A51 A52 A53 A54 A55 A56 A57 A58 A59 A60 A61 A62 A63 A64 A65 v10 v11 v12 p2)) (
 Fork ((A0 (Int.toNat x11))=1) (
 Fork (4294967296≤(A10 (Int.toNat x11))) (
 Post (.bool true) []) (
 Cl 25 [.agg (rC x3 x4 (!(x5==0)) A16 x6 v4.v v5.v v6.v x7).toArray,.agg (List.append (segCells .u8 16 (shiftF A5 (Int.toNat (x11*16)))) ([.int .u64 (A6 (Int.toNat x11)),.int .u8 (A7 (Int.toNat x11)),.int .u8 (A8 (Int.toNat x11)),.int .u64 (A9 (Int.toNat x11)),.int .u64 (A10 (Int.toNat x11))])).toArray] [dK true v4 x8 A17 A18,rK true v5 x9 A19 A20 A21 A22 A23 A24 A25 A26,qK true v6 x10 A27 A28 A29 A30 A31 A32] fun x hs l=> ∃(v7 v8 v9:V1) (x12 x13 x14 x15 x16 x17 x18 x19 x20:Int) (A33 A34 A35 A36 A37 A38 A39 A40 A41 A42 A43 A44 A45 A46 A47 A48 A49:Nat→Int),x= .tuple #[.agg (rC x12 x13 (!(x14==0)) A33 x15 v7.v v8.v v9.v x16).toArray,.int .i64 x20]∧hs=[dK true v7 x17 A34 A35,rK true v8 x18 A36 A37 A38 A39 A40 A41 A42 A43,qK true v9 x19 A44 A45 A46 A47 A48 A49]∧
 ∀_:Nat,Cl 12 [.agg (List.append (segCells .u8 16 (shiftF A5 (Int.toNat (x11*16)))) ([.int .u64 (A6 (Int.toNat x11)),.int .u8 (A7 (Int.toNat x11)),.int .u8 (A8 (Int.toNat x11)),.int .u64 (A9 (Int.toNat x11)),.int .u64 (A10 (Int.toNat x11))])).toArray] [] fun x hs l=> ∃(x21 x22 x23 x24 x25:Int) (A50:Nat→Int),x=(dV A50 x21 x22 x23 x24 x25)∧hs=[]∧
 Cl 11 [.pointer (some ⟨b1,0,none⟩),dV A50 x21 x22 x23 x24 x25] [p1] fun x hs l=> ∃x26:Int,∃p2:HP,x= .int .i64 x26∧hs=[p2]∧
 Fork (¬(x26=x20)) (
 Post (.bool false) []) (
 ∃(v7' v8' v9':V1) (x12' x13' x14' x15' x16' x17' x18' x19':Int) (A33' A34' A35' A36' A37' A38' A39' A40' A41' A42' A43' A44' A45' A46' A47' A48' A49':Nat→Int),∃p2':HP,x12'=x12∧x13'=x13∧(!(x14'==0))=(!(x14==0))∧(∀j,j<16→A33' j=A33 j)∧x15'=x15∧v7'=v7∧v8'=v8∧v9'=v9∧x16'=x16∧p2'=p2∧v7'=v7∧x17'=x17∧(∀j,j<(Int.toNat x17')→A34' j=A34 j)∧(∀j,j<(Int.toNat x17')→A35' j=A35 j)∧v8'=v8∧x18'=x18∧(∀j,j<(Int.toNat (x18'*16))→A36' j=A36 j)∧(∀j,j<(Int.toNat x18')→A37' j=A37 j)∧(∀j,j<(Int.toNat x18')→A38' j=A38 j)∧(∀j,j<(Int.toNat x18')→A39' j=A39 j)∧(∀j,j<(Int.toNat x18')→A40' j=A40 j)∧(∀j,j<(Int.toNat x18')→A41' j=A41 j)∧(∀j,j<(Int.toNat x18')→A42' j=A42 j)∧(∀j,j<(Int.toNat x18')→A43' j=A43 j)∧v9'=v9∧x19'=x19∧(∀j,j<(Int.toNat (x19'*16))→A44' j=A44 j)∧(∀j,j<(Int.toNat x19')→A45' j=A45 j)∧(∀j,j<(Int.toNat x19')→A46' j=A46 j)∧(∀j,j<(Int.toNat x19')→A47' j=A47 j)∧(∀j,j<(Int.toNat x19')→A48' j=A48 j)∧(∀j,j<(Int.toNat x19')→A49' j=A49 j)∧I1j6 ⟨[],[v7',v8',v9'],[x12',x13',x14',x15',x16',x17',x18',x19'],[A33',A34',A35',A36',A37',A38',A39',A40',A41',A42',A43',A44',A45',A46',A47',A48',A49'],[],[p2'],[]⟩))) (
 Fork ((A0 (Int.toNat x11))=2) (
 Cl 13 [.pointer (some ⟨b1,0,none⟩),.int .u64 (A4 (Int.toNat x11))] [p1] fun x hs l=> ∃p2:HP,x= .tuple #[]∧hs=[p2]∧
 Cl 26 [.agg (rC x3 x4 (!(x5==0)) A16 x6 v4.v v5.v v6.v x7).toArray,.int .u64 (A4 (Int.toNat x11))] [dK true v4 x8 A17 A18,rK true v5 x9 A19 A20 A21 A22 A23 A24 A25 A26,qK true v6 x10 A27 A28 A29 A30 A31 A32] fun x hs l=> ∃(v7 v8 v9:V1) (x12 x13 x14 x15 x16 x17 x18 x19:Int) (A33 A34 A35 A36 A37 A38 A39 A40 A41 A42 A43 A44 A45 A46 A47 A48 A49:Nat→Int),x= .agg (rC x12 x13 (!(x14==0)) A33 x15 v7.v v8.v v9.v x16).toArray∧hs=[dK true v7 x17 A34 A35,rK true v8 x18 A36 A37 A38 A39 A40 A41 A42 A43,qK true v9 x19 A44 A45 A46 A47 A48 A49]∧
 ∃(v7' v8' v9':V1) (x12' x13' x14' x15' x16' x17' x18' x19':Int) (A33' A34' A35' A36' A37' A38' A39' A40' A41' A42' A43' A44' A45' A46' A47' A48' A49':Nat→Int),∃p2':HP,x12'=x12∧x13'=x13∧(!(x14'==0))=(!(x14==0))∧(∀j,j<16→A33' j=A33 j)∧x15'=x15∧v7'=v7∧v8'=v8∧v9'=v9∧x16'=x16∧p2'=p2∧v7'=v7∧x17'=x17∧(∀j,j<(Int.toNat x17')→A34' j=A34 j)∧(∀j,j<(Int.toNat x17')→A35' j=A35 j)∧v8'=v8∧x18'=x18∧(∀j,j<(Int.toNat (x18'*16))→A36' j=A36 j)∧(∀j,j<(Int.toNat x18')→A37' j=A37 j)∧(∀j,j<(Int.toNat x18')→A38' j=A38 j)∧(∀j,j<(Int.toNat x18')→A39' j=A39 j)∧(∀j,j<(Int.toNat x18')→A40' j=A40 j)∧(∀j,j<(Int.toNat x18')→A41' j=A41 j)∧(∀j,j<(Int.toNat x18')→A42' j=A42 j)∧(∀j,j<(Int.toNat x18')→A43' j=A43 j)∧v9'=v9∧x19'=x19∧(∀j,j<(Int.toNat (x19'*16))→A44' j=A44 j)∧(∀j,j<(Int.toNat x19')→A45' j=A45 j)∧(∀j,j<(Int.toNat x19')→A46' j=A46 j)∧(∀j,j<(Int.toNat x19')→A47' j=A47 j)∧(∀j,j<(Int.toNat x19')→A48' j=A48 j)∧(∀j,j<(Int.toNat x19')→A49' j=A49 j)∧I1j6 ⟨[],[v7',v8',v9'],[x12',x13',x14',x15',x16',x17',x18',x19'],[A33',A34',A35',A36',A37',A38',A39',A40',A41',A42',A43',A44',A45',A46',A47',A48',A49'],[],[p2'],[]⟩) (
 ∃(v7' v8' v9':V1) (x12' x13' x14' x15' x16' x17' x18' x19':Int) (A33' A34' A35' A36' A37' A38' A39' A40' A41' A42' A43' A44' A45' A46' A47' A48' A49':Nat→Int),∃p2':HP,x12'=x3∧x13'=x4∧(!(x14'==0))=(!(x5==0))∧(∀j,j<16→A33' j=A16 j)∧x15'=x6∧v7'=v4∧v8'=v5∧v9'=v6∧x16'=x7∧p2'=p1∧v7'=v4∧x17'=x8∧(∀j,j<(Int.toNat x17')→A34' j=A17 j)∧(∀j,j<(Int.toNat x17')→A35' j=A18 j)∧v8'=v5∧x18'=x9∧(∀j,j<(Int.toNat (x18'*16))→A36' j=A19 j)∧(∀j,j<(Int.toNat x18')→A37' j=A20 j)∧(∀j,j<(Int.toNat x18')→A38' j=A21 j)∧(∀j,j<(Int.toNat x18')→A39' j=A22 j)∧(∀j,j<(Int.toNat x18')→A40' j=A23 j)∧(∀j,j<(Int.toNat x18')→A41' j=A24 j)∧(∀j,j<(Int.toNat x18')→A42' j=A25 j)∧(∀j,j<(Int.toNat x18')→A43' j=A26 j)∧v9'=v6∧x19'=x10∧(∀j,j<(Int.toNat (x19'*16))→A44' j=A27 j)∧(∀j,j<(Int.toNat x19')→A45' j=A28 j)∧(∀j,j<(Int.toNat x19')→A46' j=A29 j)∧(∀j,j<(Int.toNat x19')→A47' j=A30 j)∧(∀j,j<(Int.toNat x19')→A48' j=A31 j)∧(∀j,j<(Int.toNat x19')→A49' j=A32 j)∧I1j6 ⟨[],[v7',v8',v9'],[x12',x13',x14',x15',x16',x17',x18',x19'],[A33',A34',A35',A36',A37',A38',A39',A40',A41',A42',A43',A44',A45',A46',A47',A48',A49'],[],[p2'],[]⟩))))∧
 ∀(v7 v8 v9:V1) (x12 x13 x14 x15 x16 x17 x18 x19:Int) (A33 A34 A35 A36 A37 A38 A39 A40 A41 A42 A43 A44 A45 A46 A47 A48 A49:Nat→Int),∀p2:HP,I1j6 ⟨[],[v7,v8,v9],[x12,x13,x14,x15,x16,x17,x18,x19],[A33,A34,A35,A36,A37,A38,A39,A40,A41,A42,A43,A44,A45,A46,A47,A48,A49],[],[p2],[]⟩→
 Cl 27 [.pointer (some ⟨b1,0,none⟩),.agg #[.int .u8 (A11 (Int.toNat x11)),.int .u8 (A12 (Int.toNat x11))],.int .u64 (A13 (Int.toNat x11))] [p2] fun x hs l=> ∃x20 x21:Int,x= .tuple #[.agg #[.string ⟨(strD (srowF x20)).toArray⟩],.int .i64 x21]∧hs=l∧
 ∀_:Nat,Cl 28 [.agg (rC x12 x13 (!(x14==0)) A33 x15 v7.v v8.v v9.v x16).toArray,.agg #[.int .u8 (A11 (Int.toNat x11)),.int .u8 (A12 (Int.toNat x11))],.int .u64 (A13 (Int.toNat x11))] [rK true v8 x18 A36 A37 A38 A39 A40 A41 A42 A43] fun x hs l=> ∃x22 x23:Int,x= .tuple #[.int .u64 x22,.int .i64 x23]∧hs=l∧
 Fork ((x21=x23)∧(x21=0)) (
 Cl 16 [.int .u64 x22] [] fun x hs l=> ∃x24:Int,x= .agg #[.string ⟨(strD (srowF x24)).toArray⟩]∧hs=[]∧
 Fork (¬((¬(x21=x23))∨((x21=0)∧(¬(strD (srowF x20)=strD (srowF x24)))))) (
 Cl 29 [.pointer (some ⟨b1,0,none⟩),.agg (rC x12 x13 (!(x14==0)) A33 x15 v7.v v8.v v9.v x16).toArray] [p2,dK true v7 x17 A34 A35,rK true v8 x18 A36 A37 A38 A39 A40 A41 A42 A43] fun x hs l=> ∃q0:Bool,x= .bool q0∧hs=l∧
 Fork (¬(q0=true)) (
 Post (.bool false) []) (
 I64 (x11+1) ((
 ∃(v4' v5' v6':V1) (x3' x4' x5' x6' x7' x8' x9' x10' x11':Int) (A16' A17' A18' A19' A20' A21' A22' A23' A24' A25' A26' A27' A28' A29' A30' A31' A32':Nat→Int),∃p1':HP,x11'=(x11+1)∧x3'=x12∧x4'=x13∧(!(x5'==0))=(!(x14==0))∧(∀j,j<16→A16' j=A33 j)∧x6'=x15∧v4'=v7∧v5'=v8∧v6'=v9∧x7'=x16∧p1'=p2∧v4'=v7∧x8'=x17∧(∀j,j<(Int.toNat x8')→A17' j=A34 j)∧(∀j,j<(Int.toNat x8')→A18' j=A35 j)∧v5'=v8∧x9'=x18∧(∀j,j<(Int.toNat (x9'*16))→A19' j=A36 j)∧(∀j,j<(Int.toNat x9')→A20' j=A37 j)∧(∀j,j<(Int.toNat x9')→A21' j=A38 j)∧(∀j,j<(Int.toNat x9')→A22' j=A39 j)∧(∀j,j<(Int.toNat x9')→A23' j=A40 j)∧(∀j,j<(Int.toNat x9')→A24' j=A41 j)∧(∀j,j<(Int.toNat x9')→A25' j=A42 j)∧(∀j,j<(Int.toNat x9')→A26' j=A43 j)∧v6'=v9∧x10'=x19∧(∀j,j<(Int.toNat (x10'*16))→A27' j=A44 j)∧(∀j,j<(Int.toNat x10')→A28' j=A45 j)∧(∀j,j<(Int.toNat x10')→A29' j=A46 j)∧(∀j,j<(Int.toNat x10')→A30' j=A47 j)∧(∀j,j<(Int.toNat x10')→A31' j=A48 j)∧(∀j,j<(Int.toNat x10')→A32' j=A49 j)∧I0x2 ⟨[],[v4',v5',v6'],[x3',x4',x5',x6',x7',x8',x9',x10',x11'],[A16',A17',A18',A19',A20',A21',A22',A23',A24',A25',A26',A27',A28',A29',A30',A31',A32'],[],[p1'],[]⟩∧m0x2 ⟨[],[v4',v5',v6'],[x3',x4',x5',x6',x7',x8',x9',x10',x11'],[A16',A17',A18',A19',A20',A21',A22',A23',A24',A25',A26',A27',A28',A29',A30',A31',A32'],[],[p1'],[]⟩<m0x2 ⟨[],[v4,v5,v6],[x3,x4,x5,x6,x7,x8,x9,x10,x11],[A16,A17,A18,A19,A20,A21,A22,A23,A24,A25,A26,A27,A28,A29,A30,A31,A32],[],[p1],[]⟩)))) (
 Post (.bool false) [])) (
 Fork (x21=x23) (
 Cl 29 [.pointer (some ⟨b1,0,none⟩),.agg (rC x12 x13 (!(x14==0)) A33 x15 v7.v v8.v v9.v x16).toArray] [p2,dK true v7 x17 A34 A35,rK true v8 x18 A36 A37 A38 A39 A40 A41 A42 A43] fun x hs l=> ∃q0:Bool,x= .bool q0∧hs=l∧
 Fork (¬(q0=true)) (
 Post (.bool false) []) (
 I64 (x11+1) ((
 ∃(v4' v5' v6':V1) (x3' x4' x5' x6' x7' x8' x9' x10' x11':Int) (A16' A17' A18' A19' A20' A21' A22' A23' A24' A25' A26' A27' A28' A29' A30' A31' A32':Nat→Int),∃p1':HP,x11'=(x11+1)∧x3'=x12∧x4'=x13∧(!(x5'==0))=(!(x14==0))∧(∀j,j<16→A16' j=A33 j)∧x6'=x15∧v4'=v7∧v5'=v8∧v6'=v9∧x7'=x16∧p1'=p2∧v4'=v7∧x8'=x17∧(∀j,j<(Int.toNat x8')→A17' j=A34 j)∧(∀j,j<(Int.toNat x8')→A18' j=A35 j)∧v5'=v8∧x9'=x18∧(∀j,j<(Int.toNat (x9'*16))→A19' j=A36 j)∧(∀j,j<(Int.toNat x9')→A20' j=A37 j)∧(∀j,j<(Int.toNat x9')→A21' j=A38 j)∧(∀j,j<(Int.toNat x9')→A22' j=A39 j)∧(∀j,j<(Int.toNat x9')→A23' j=A40 j)∧(∀j,j<(Int.toNat x9')→A24' j=A41 j)∧(∀j,j<(Int.toNat x9')→A25' j=A42 j)∧(∀j,j<(Int.toNat x9')→A26' j=A43 j)∧v6'=v9∧x10'=x19∧(∀j,j<(Int.toNat (x10'*16))→A27' j=A44 j)∧(∀j,j<(Int.toNat x10')→A28' j=A45 j)∧(∀j,j<(Int.toNat x10')→A29' j=A46 j)∧(∀j,j<(Int.toNat x10')→A30' j=A47 j)∧(∀j,j<(Int.toNat x10')→A31' j=A48 j)∧(∀j,j<(Int.toNat x10')→A32' j=A49 j)∧I0x2 ⟨[],[v4',v5',v6'],[x3',x4',x5',x6',x7',x8',x9',x10',x11'],[A16',A17',A18',A19',A20',A21',A22',A23',A24',A25',A26',A27',A28',A29',A30',A31',A32'],[],[p1'],[]⟩∧m0x2 ⟨[],[v4',v5',v6'],[x3',x4',x5',x6',x7',x8',x9',x10',x11'],[A16',A17',A18',A19',A20',A21',A22',A23',A24',A25',A26',A27',A28',A29',A30',A31',A32'],[],[p1'],[]⟩<m0x2 ⟨[],[v4,v5,v6],[x3,x4,x5,x6,x7,x8,x9,x10,x11],[A16,A17,A18,A19,A20,A21,A22,A23,A24,A25,A26,A27,A28,A29,A30,A31,A32],[],[p1],[]⟩)))) (
 Post (.bool false) [])))) (
 Post (.bool true) []))))
theorem mt_law(Post:PT)(x0 x1 x2:Int)(A0 A1 A2 A3 A4 A5 A6 A7 A8 A9 A10 A11 A12 A13 A14 A15:Nat→Int)(v0:V1)(h:st_law Post x0 x1 x2 A0 A1 A2 A3 A4 A5 A6 A7 A8 A9 A10 A11 A12 A13 A14 A15 v0):Meets Tryz.prog 4 [.agg #[.int .u8 x0,.int .u8 x1],v0.v] [sliHP false 40 46 v0.v (Int.toNat x2) (tabL (Int.toNat x2) [colI .u8 1 A0,colI .u32 1 A1,colI .u64 1 A2,colI .u8 16 A3,colI .u64 1 A4,colI .u8 16 A5,colI .u64 1 A6,colI .u8 1 A7,colI .u8 1 A8,colI .u64 1 A9,colI .u64 1 A10,colI .u8 1 A11,colI .u8 1 A12,colI .u64 1 A13,colI .u64 1 A14,colI .u64 1 A15])] Post:=
 mtK (C:=cxL) Hi.lawA Hi.lawHp Hi.lawCnt ⟨[x0,x1,x2],[A0,A1,A2,A3,A4,A5,A6,A7,A8,A9,A10,A11,A12,A13,A14,A15],[],[],[v0],[],[],[]⟩ 0 Tryz.func4 (by kernel_rfl) h
end Go.RX.Hi

namespace Go.RX.He
open Go.RX Go.Proofs
noncomputable def cxB'(l:List Nat):Ctx:={T:=TT,FT:=FT,loops:=He.loops,callees:=He.calleesBut l,ghosts:=He.ghosts}
noncomputable abbrev cxA:=cxB' [12]
noncomputable abbrev cxB:=cxB' [10]
noncomputable abbrev cxC:=cxB' [55]
noncomputable abbrev cxD:=cxB' [70]
noncomputable abbrev cxE:=cxB' [111]
noncomputable abbrev cxF:=cxB' [8]
noncomputable abbrev cxG:=cxB' [29]
end Go.RX.He
