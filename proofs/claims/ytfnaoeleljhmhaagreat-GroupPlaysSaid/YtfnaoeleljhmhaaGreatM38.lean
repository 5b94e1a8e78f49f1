/- The group's functions: what is left to be shown; printed by a program of ours (wip/tools/g7.lean). · The group's functions: what is left to be shown; printed by a program of ours (wip/tools/g7.lean). · The document's Enter: the executor's context. -/
import Derived.Test.YtfnaoeleljhmhaaGreatM37
import Derived.Test.YtfnaoeleljhmhaaGreatM26

namespace Go.RX.He
open Go.RX Go.Proofs Go.RX.Gb
set_option maxRecDepth 100000
def st_agt(Post:PT)(x0 x1 x2 x3 x4 x5 x6 x7 x8 x9 x10 x11 x12:Int)(A0 A1 A2 A3 A4 A5 A6 A7 A8 A9 A10 A11 A12 A13 A14 A15 A16 A17 A18 A19 A20 A21:Nat→Int)(v0 v1 v2 v3 v4 v5:V1)(b0 b1:Nat):Prop:=
 ∀_ _:Nat,∀(_ _:Nat) (_:Loop),Cl 111 [v1.v] [hK true v1 x5 A3 A4 A5 A6 A7 A8 A9 A10] fun x hs l=> ∃(v7:V1) (x15:Int) (A25 A26 A27 A28 A29 A30 A31 A32:Nat→Int),x=v7.v∧hs=l++[hK true v7 x15 A25 A26 A27 A28 A29 A30 A31 A32]∧
 Need (0≤x15) (
 ∃(I0x4:Ext→Prop) (m0x4:Ext→Nat),(∃x16 x17:Int,x16=0∧x17=0∧I0x4 ⟨[],[],[x16,x17],[],[],[],[]⟩)∧
 ∀x16 x17:Int,I0x4 ⟨[],[],[x16,x17],[],[],[],[]⟩→
 Fork (x16<x15) (
 Need (0≤x16) (
 ∀_ _:Nat,Need (0≤x12) (
 Need ((x12≤x17)∨(0≤x17)) (
 Need ((x12≤x17)∨(x17<x12)) (
 Need ((x12≤x17)∨(0≤x17)) (
 Need ((x12≤x17)∨(x17<x12)) (
 Need ((x12≤x17)∨(0≤x17)) (
 Need ((x12≤x17)∨(x17<x12)) (
 Fork (¬(x12≤x17)) (
 Cl 12 [.agg (List.append (segCells .u8 16 (shiftF A14 (Int.toNat (x17*16)))) ([.int .u64 (A15 (Int.toNat x17)),.int .u8 (A16 (Int.toNat x17)),.int .u8 (A17 (Int.toNat x17)),.int .u64 (A18 (Int.toNat x17)),.int .u64 (A19 (Int.toNat x17))])).toArray] [] fun x hs l=> ∃(x18 x19 x20 x21 x22:Int) (A33:Nat→Int),x=(dV A33 x18 x19 x20 x21 x22)∧hs=[]∧
 Fork (¬((∀j,j<16→(shiftF A25 (Int.toNat (x16*16))) j=A33 j)∧(((A26 (Int.toNat x16))=x18)∧(((A27 (Int.toNat x16))=x19)∧(((A28 (Int.toNat x16))=x20)∧(((A29 (Int.toNat x16))=x21)∧(strD (srowF (A30 (Int.toNat x16)))=strD (srowF x22)))))))) (
 Post (.bool false) [mR b0 b1 x0 x1 x2 A0 x3 v0 v1 v2,dK true v0 x4 A1 A2,hK true v1 x5 A3 A4 A5 A6 A7 A8 A9 A10,dK true v3 x11 A12 A13,rK true v4 x12 A14 A15 A16 A17 A18 A19 A20 A21]) (
 I64 (x17+1) ((
 I64 (x16+1) ((
 ∃x16' x17':Int,x16'=(x16+1)∧x17'=(x17+1)∧I0x4 ⟨[],[],[x16',x17'],[],[],[],[]⟩∧m0x4 ⟨[],[],[x16',x17'],[],[],[],[]⟩<m0x4 ⟨[],[],[x16,x17],[],[],[],[]⟩)))))) (
 Post (.bool false) [mR b0 b1 x0 x1 x2 A0 x3 v0 v1 v2,dK true v0 x4 A1 A2,hK true v1 x5 A3 A4 A5 A6 A7 A8 A9 A10,dK true v3 x11 A12 A13,rK true v4 x12 A14 A15 A16 A17 A18 A19 A20 A21])))))))))) (
 Cl 14 [.pointer (some ⟨b0,0,none⟩)] [mR b0 b1 x0 x1 x2 A0 x3 v0 v1 v2,hK true v1 x5 A3 A4 A5 A6 A7 A8 A9 A10] fun x hs l=> ∃(x18 x19 x20 x21 x22:Int) (A33:Nat→Int) (q2:Bool),x= .tuple #[dV A33 x18 x19 x20 x21 x22,.bool q2]∧hs=l∧
 ∀_:Nat,Fork (q2=true) (
 Fork (x8≠0) (
 Cl 24 [.agg (rC x6 x7 (!(x8==0)) A11 x9 v3.v v4.v v5.v x10).toArray,.agg #[.int .u8 x6,.int .u8 x7],.int .u64 x9] [rK true v4 x12 A14 A15 A16 A17 A18 A19 A20 A21] fun x hs l=> ∃x23:Int,x= .int .i64 x23∧hs=l∧
 Need (0≤x12) (
 Need ((¬((x17=x12)∧(0≤x23)))∨(0≤x23)) (
 Need ((¬((x17=x12)∧(0≤x23)))∨(x23<x12)) (
 Need ((¬((x17=x12)∧(0≤x23)))∨(0≤x23)) (
 Need ((¬((x17=x12)∧(0≤x23)))∨(x23<x12)) (
 Need ((¬((x17=x12)∧(0≤x23)))∨(0≤x23)) (
 Need ((¬((x17=x12)∧(0≤x23)))∨(x23<x12)) (
 Fork ((x17=x12)∧(0≤x23)) (
 Cl 12 [.agg (List.append (segCells .u8 16 (shiftF A14 (Int.toNat (x23*16)))) ([.int .u64 (A15 (Int.toNat x23)),.int .u8 (A16 (Int.toNat x23)),.int .u8 (A17 (Int.toNat x23)),.int .u64 (A18 (Int.toNat x23)),.int .u64 (A19 (Int.toNat x23))])).toArray] [] fun x hs l=> ∃(x24 x25 x26 x27 x28:Int) (A34:Nat→Int),x=(dV A34 x24 x25 x26 x27 x28)∧hs=[]∧
 Post (.bool (((List.range 16).all fun j=>A33 j==A34 j)&&((x18==x24)&&((x19==x25)&&((x20==x26)&&((x21==x27)&&(strD (srowF x22)==strD (srowF x28)))))))) [mR b0 b1 x0 x1 x2 A0 x3 v0 v1 v2,dK true v0 x4 A1 A2,hK true v1 x5 A3 A4 A5 A6 A7 A8 A9 A10,dK true v3 x11 A12 A13,rK true v4 x12 A14 A15 A16 A17 A18 A19 A20 A21]) (
 Post (.bool false) [mR b0 b1 x0 x1 x2 A0 x3 v0 v1 v2,dK true v0 x4 A1 A2,hK true v1 x5 A3 A4 A5 A6 A7 A8 A9 A10,dK true v3 x11 A12 A13,rK true v4 x12 A14 A15 A16 A17 A18 A19 A20 A21]))))))))) (
 Need (0≤x12) (
 Need (¬((x17=x12)∧(false=true))) (
 Need ((¬((x17=x12)∧(false=true)))∨((-1)<x12)) (
 Need (¬((x17=x12)∧(false=true))) (
 Need ((¬((x17=x12)∧(false=true)))∨((-1)<x12)) (
 Need (¬((x17=x12)∧(false=true))) (
 Need ((¬((x17=x12)∧(false=true)))∨((-1)<x12)) (
 Fork ((x17=x12)∧(false=true)) (
 Cl 12 [.agg (List.append (segCells .u8 16 (shiftF A14 (Int.toNat (-16)))) ([.int .u64 (A15 (Int.toNat (-1))),.int .u8 (A16 (Int.toNat (-1))),.int .u8 (A17 (Int.toNat (-1))),.int .u64 (A18 (Int.toNat (-1))),.int .u64 (A19 (Int.toNat (-1)))])).toArray] [] fun x hs l=> ∃(x23 x24 x25 x26 x27:Int) (A34:Nat→Int),x=(dV A34 x23 x24 x25 x26 x27)∧hs=[]∧
 Post (.bool (((List.range 16).all fun j=>A33 j==A34 j)&&((x18==x23)&&((x19==x24)&&((x20==x25)&&((x21==x26)&&(strD (srowF x22)==strD (srowF x27)))))))) [mR b0 b1 x0 x1 x2 A0 x3 v0 v1 v2,dK true v0 x4 A1 A2,hK true v1 x5 A3 A4 A5 A6 A7 A8 A9 A10,dK true v3 x11 A12 A13,rK true v4 x12 A14 A15 A16 A17 A18 A19 A20 A21]) (
 Post (.bool false) [mR b0 b1 x0 x1 x2 A0 x3 v0 v1 v2,dK true v0 x4 A1 A2,hK true v1 x5 A3 A4 A5 A6 A7 A8 A9 A10,dK true v3 x11 A12 A13,rK true v4 x12 A14 A15 A16 A17 A18 A19 A20 A21])))))))))) (
 Fork (x8≠0) (
 Cl 24 [.agg (rC x6 x7 (!(x8==0)) A11 x9 v3.v v4.v v5.v x10).toArray,.agg #[.int .u8 x6,.int .u8 x7],.int .u64 x9] [rK true v4 x12 A14 A15 A16 A17 A18 A19 A20 A21] fun x hs l=> ∃x23:Int,x= .int .i64 x23∧hs=l∧
 Need (0≤x12) (
 Need ((¬(((x17=x12)∧(¬(0≤x23)))∧(false=true)))∨(0≤x23)) (
 Need ((¬(((x17=x12)∧(¬(0≤x23)))∧(false=true)))∨(x23<x12)) (
 Need ((¬(((x17=x12)∧(¬(0≤x23)))∧(false=true)))∨(0≤x23)) (
 Need ((¬(((x17=x12)∧(¬(0≤x23)))∧(false=true)))∨(x23<x12)) (
 Need ((¬(((x17=x12)∧(¬(0≤x23)))∧(false=true)))∨(0≤x23)) (
 Need ((¬(((x17=x12)∧(¬(0≤x23)))∧(false=true)))∨(x23<x12)) (
 Fork (((x17=x12)∧(¬(0≤x23)))∧(false=true)) (
 Cl 12 [.agg (List.append (segCells .u8 16 (shiftF A14 (Int.toNat (x23*16)))) ([.int .u64 (A15 (Int.toNat x23)),.int .u8 (A16 (Int.toNat x23)),.int .u8 (A17 (Int.toNat x23)),.int .u64 (A18 (Int.toNat x23)),.int .u64 (A19 (Int.toNat x23))])).toArray] [] fun x hs l=> ∃(x24 x25 x26 x27 x28:Int) (A34:Nat→Int),x=(dV A34 x24 x25 x26 x27 x28)∧hs=[]∧
 Post (.bool ((x17==x12)&&(!(decide (0≤x23))))) [mR b0 b1 x0 x1 x2 A0 x3 v0 v1 v2,dK true v0 x4 A1 A2,hK true v1 x5 A3 A4 A5 A6 A7 A8 A9 A10,dK true v3 x11 A12 A13,rK true v4 x12 A14 A15 A16 A17 A18 A19 A20 A21]) (
 Post (.bool ((x17==x12)&&(!(decide (0≤x23))))) [mR b0 b1 x0 x1 x2 A0 x3 v0 v1 v2,dK true v0 x4 A1 A2,hK true v1 x5 A3 A4 A5 A6 A7 A8 A9 A10,dK true v3 x11 A12 A13,rK true v4 x12 A14 A15 A16 A17 A18 A19 A20 A21]))))))))) (
 Need (0≤x12) (
 Need (¬((x17=x12)∧(false=true))) (
 Need ((¬((x17=x12)∧(false=true)))∨((-1)<x12)) (
 Need (¬((x17=x12)∧(false=true))) (
 Need ((¬((x17=x12)∧(false=true)))∨((-1)<x12)) (
 Need (¬((x17=x12)∧(false=true))) (
 Need ((¬((x17=x12)∧(false=true)))∨((-1)<x12)) (
 Fork ((x17=x12)∧(false=true)) (
 Cl 12 [.agg (List.append (segCells .u8 16 (shiftF A14 (Int.toNat (-16)))) ([.int .u64 (A15 (Int.toNat (-1))),.int .u8 (A16 (Int.toNat (-1))),.int .u8 (A17 (Int.toNat (-1))),.int .u64 (A18 (Int.toNat (-1))),.int .u64 (A19 (Int.toNat (-1)))])).toArray] [] fun x hs l=> ∃(x23 x24 x25 x26 x27:Int) (A34:Nat→Int),x=(dV A34 x23 x24 x25 x26 x27)∧hs=[]∧
 Post (.bool (x17==x12)) [mR b0 b1 x0 x1 x2 A0 x3 v0 v1 v2,dK true v0 x4 A1 A2,hK true v1 x5 A3 A4 A5 A6 A7 A8 A9 A10,dK true v3 x11 A12 A13,rK true v4 x12 A14 A15 A16 A17 A18 A19 A20 A21]) (
 Post (.bool (x17==x12)) [mR b0 b1 x0 x1 x2 A0 x3 v0 v1 v2,dK true v0 x4 A1 A2,hK true v1 x5 A3 A4 A5 A6 A7 A8 A9 A10,dK true v3 x11 A12 A13,rK true v4 x12 A14 A15 A16 A17 A18 A19 A20 A21]))))))))))))
def st_agree(Post:PT)(x0 x1 x2 x3 x4 x5 x6 x7 x8 x9 x10 x11 x12:Int)(A0 A1 A2 A3 A4 A5 A6 A7 A8 A9 A10 A11 A12 A13 A14 A15 A16 A17 A18 A19 A20 A21:Nat→Int)(v0 v1 v2 v3 v4 v5:V1)(b0 b1:Nat):Prop:=
 ∀_ _:Nat,Cl 69 [.pointer (some ⟨b0,0,none⟩)] [mR b0 b1 x0 x1 x2 A0 x3 v0 v1 v2,dK true v0 x4 A1 A2] fun x hs l=> ∃(v6:V1) (x13 x14:Int) (A22 A23 A24:Nat→Int) (q0:Bool),x= .tuple #[.agg (List.append (segCells .u8 16 A22) ([.int .u64 x13,v6.v])).toArray,.bool q0]∧hs=l++[dK true v6 x14 A23 A24]∧
 ∀_:Nat,Fork ((((q0=true)→(x8≠0))∧(¬(q0=true)→(¬(x8≠0))))∧(q0=true)) (
 Cl 70 [.agg (List.append (segCells .u8 16 A22) ([.int .u64 x13,v6.v])).toArray,.agg (List.append (segCells .u8 16 A11) ([.int .u64 x9,v3.v])).toArray] [dK true v6 x14 A23 A24,dK true v3 x11 A12 A13] fun x hs l=> ∃q1:Bool,x= .bool q1∧hs=l∧
 Fork ((¬(((q0=true)→(x8≠0))∧(¬(q0=true)→(¬(x8≠0)))))∨((q0=true)∧(¬(q1=true)))) (
 Post (.bool false) [mR b0 b1 x0 x1 x2 A0 x3 v0 v1 v2,dK true v0 x4 A1 A2,hK true v1 x5 A3 A4 A5 A6 A7 A8 A9 A10,dK true v3 x11 A12 A13,rK true v4 x12 A14 A15 A16 A17 A18 A19 A20 A21]) (
 st_agt Post x0 x1 x2 x3 x4 x5 x6 x7 x8 x9 x10 x11 x12 A0 A1 A2 A3 A4 A5 A6 A7 A8 A9 A10 A11 A12 A13 A14 A15 A16 A17 A18 A19 A20 A21 v0 v1 v2 v3 v4 v5 b0 b1)) (
 Fork (¬(((q0=true)→(x8≠0))∧(¬(q0=true)→(¬(x8≠0))))) (
 Post (.bool false) [mR b0 b1 x0 x1 x2 A0 x3 v0 v1 v2,dK true v0 x4 A1 A2,hK true v1 x5 A3 A4 A5 A6 A7 A8 A9 A10,dK true v3 x11 A12 A13,rK true v4 x12 A14 A15 A16 A17 A18 A19 A20 A21]) (
 st_agt Post x0 x1 x2 x3 x4 x5 x6 x7 x8 x9 x10 x11 x12 A0 A1 A2 A3 A4 A5 A6 A7 A8 A9 A10 A11 A12 A13 A14 A15 A16 A17 A18 A19 A20 A21 v0 v1 v2 v3 v4 v5 b0 b1))
theorem mt_agree(Post:PT)(x0 x1 x2 x3 x4 x5 x6 x7 x8 x9 x10 x11 x12:Int)(A0 A1 A2 A3 A4 A5 A6 A7 A8 A9 A10 A11 A12 A13 A14 A15 A16 A17 A18 A19 A20 A21:Nat→Int)(v0 v1 v2 v3 v4 v5:V1)(b0 b1:Nat)(h:st_agree Post x0 x1 x2 x3 x4 x5 x6 x7 x8 x9 x10 x11 x12 A0 A1 A2 A3 A4 A5 A6 A7 A8 A9 A10 A11 A12 A13 A14 A15 A16 A17 A18 A19 A20 A21 v0 v1 v2 v3 v4 v5 b0 b1):Meets Tryz.prog 29 [.pointer (some ⟨b0,0,none⟩),.agg (rC x6 x7 (!(x8==0)) A11 x9 v3.v v4.v v5.v x10).toArray] [mR b0 b1 x0 x1 x2 A0 x3 v0 v1 v2,dK true v0 x4 A1 A2,hK true v1 x5 A3 A4 A5 A6 A7 A8 A9 A10,dK true v3 x11 A12 A13,rK true v4 x12 A14 A15 A16 A17 A18 A19 A20 A21] Post:=
 mtK (C:=cxG) He.agA He.agHp He.agCnt ⟨[x0,x1,x2,x3,x4,x5,x6,x7,x8,x9,x10,x11,x12],[A0,A1,A2,A3,A4,A5,A6,A7,A8,A9,A10,A11,A12,A13,A14,A15,A16,A17,A18,A19,A20,A21],[],[b0,b1],[v0,v1,v2,v3,v4,v5],[],[],[]⟩ 5 Tryz.func29 (by kernel_rfl) h
end Go.RX.He

namespace Go.RX.He
open Go.RX Go.Proofs Go.RX.Gb
set_option maxRecDepth 100000
def st_real(Post:PT)(x0 x1 x2 x3 x4:Int)(A0:Nat→Int):Prop:=
 ∀b0 b1:Nat,Cl 16 [.int .u64 x4] [] fun x hs l=> ∃x5:Int,x= .agg #[.string ⟨(strD (srowF x5)).toArray⟩]∧hs=[]∧
 Post (dV A0 x0 x1 x2 x3 x5) [rowHP b0 true (List.append (segCells .u8 16 A0) ([.int .u64 x0,.int .u8 x1,.int .u8 x2,.int .u64 x3,.int .u64 x4])),rowHP b1 true (List.append (segCells .u8 16 A0) ([.int .u64 x0,.int .u8 x1,.int .u8 x2,.int .u64 x3,.string ⟨(strD (srowF x5)).toArray⟩]))]
theorem mt_real(Post:PT)(x0 x1 x2 x3 x4:Int)(A0:Nat→Int)(h:st_real Post x0 x1 x2 x3 x4 A0):Meets Tryz.prog 12 [.agg (List.append (segCells .u8 16 A0) ([.int .u64 x0,.int .u8 x1,.int .u8 x2,.int .u64 x3,.int .u64 x4])).toArray] [] Post:=
 mtI (C:=cxA) [.agg [.seg .u8 16 (.avar 0),.int .u64 (.var 0),.int .u8 (.var 1),.int .u8 (.var 2),.int .u64 (.var 3),.int .u64 (.var 4)]] [] ⟨0,0,5,1,0,0,0⟩ ⟨[x0,x1,x2,x3,x4],[A0],[],[],[],[],[],[]⟩ Tryz.func12 (by kernel_rfl) h
def st_of(Post:PT)(x0 x1 x2 x3 x4 x5 x6 x7 x8 x9 x10 x11 x12 x13:Int)(A0 A1:Nat→Int):Prop:=
 ∀(b0 b1:Nat) (v0:V1),∃(I0x0:Ext→Prop) (m0x0:Ext→Nat),(∃(x14:Int) (A2:Nat→Int),x14=0∧(∀j,j<32→A2 j=(fun _=>0) j)∧I0x0 ⟨[],[],[x14],[A2],[],[],[]⟩)∧
 ∀(x14:Int) (A2:Nat→Int),I0x0 ⟨[],[],[x14],[A2],[],[],[]⟩→
 Fork (x14<32) (
 Fork ((iop .band .u32 (iop .shr .u32 x1 x14) 1)=1) (
 Need (0≤x14) (
 I64 (x14+1) ((
 ∃(x14':Int) (A2':Nat→Int),x14'=(x14+1)∧(∀j,j<32→A2' j=(updF A2 (Int.toNat x14) 1) j)∧I0x0 ⟨[],[],[x14'],[A2'],[],[],[]⟩∧m0x0 ⟨[],[],[x14'],[A2'],[],[],[]⟩<m0x0 ⟨[],[],[x14],[A2],[],[],[]⟩)))) (
 Need (0≤x14) (
 I64 (x14+1) ((
 ∃(x14':Int) (A2':Nat→Int),x14'=(x14+1)∧(∀j,j<32→A2' j=(updF A2 (Int.toNat x14) 0) j)∧I0x0 ⟨[],[],[x14'],[A2'],[],[],[]⟩∧m0x0 ⟨[],[],[x14'],[A2'],[],[],[]⟩<m0x0 ⟨[],[],[x14],[A2],[],[],[]⟩))))) (
 Cl 55 [v0.v] [sliHP true 4 1 v0.v 32 (tabL 32 [colB 1 A2])] fun x hs l=> ∃(v1:V1) (x15:Int) (A3 A4:Nat→Int),x=v1.v∧hs=l++[dK true v1 x15 A3 A4]∧
 Post (.agg (List.append (segCells .u8 16 A0) ([.int .u64 x2,v1.v])).toArray) [rowHP b0 true (.int .u8 x0::(.int .u32 x1::(.int .u64 x2::(List.append (segCells .u8 16 A0) (.int .u64 x3::(List.append (segCells .u8 16 A1) ([.int .u64 x4,.int .u8 x5,.int .u8 x6,.int .u64 x7,.int .u64 x8,.int .u8 x9,.int .u8 x10,.int .u64 x11,.int .u64 x12,.int .u64 x13]))))))),rowHP b1 true (List.append (segCells .u8 16 A0) ([.int .u64 x2,v1.v])),sliHP true 4 1 v0.v 32 (tabL 32 [colB 1 A2]),dK true v1 x15 A3 A4])
theorem mt_of(Post:PT)(x0 x1 x2 x3 x4 x5 x6 x7 x8 x9 x10 x11 x12 x13:Int)(A0 A1:Nat→Int)(h:st_of Post x0 x1 x2 x3 x4 x5 x6 x7 x8 x9 x10 x11 x12 x13 A0 A1):Meets Tryz.prog 10 [.agg (.int .u8 x0::(.int .u32 x1::(.int .u64 x2::(List.append (segCells .u8 16 A0) (.int .u64 x3::(List.append (segCells .u8 16 A1) ([.int .u64 x4,.int .u8 x5,.int .u8 x6,.int .u64 x7,.int .u64 x8,.int .u8 x9,.int .u8 x10,.int .u64 x11,.int .u64 x12,.int .u64 x13]))))))).toArray] [] Post:=
 mtI (C:=cxB) [.agg [.int .u8 (.var 0),.int .u32 (.var 1),.int .u64 (.var 2),.seg .u8 16 (.avar 0),.int .u64 (.var 3),.seg .u8 16 (.avar 1),.int .u64 (.var 4),.int .u8 (.var 5),.int .u8 (.var 6),.int .u64 (.var 7),.int .u64 (.var 8),.int .u8 (.var 9),.int .u8 (.var 10),.int .u64 (.var 11),.int .u64 (.var 12),.int .u64 (.var 13)]] [] ⟨0,0,14,2,0,0,0⟩ ⟨[x0,x1,x2,x3,x4,x5,x6,x7,x8,x9,x10,x11,x12,x13],[A0,A1],[],[],[],[],[],[]⟩ Tryz.func10 (by kernel_rfl) h
def st_list(Post:PT)(A0:Nat→Int)(v0:V1):Prop:=
 ∃(I0x0:Ext→Prop) (m0x0:Ext→Nat),(∃(v2:V1) (x0 x1:Int) (A1 A2:Nat→Int),x0=0∧v2=(⟨.slice none 0 0,rfl⟩:V1)∧v2=(⟨.slice none 0 0,rfl⟩:V1)∧x1=0∧(∀j,j<(Int.toNat x1)→A1 j=(fun _=>0) j)∧(∀j,j<(Int.toNat x1)→A2 j=(fun _=>0) j)∧I0x0 ⟨[],[v2],[x0,x1],[A1,A2],[],[],[]⟩)∧
 ∀(v2:V1) (x0 x1:Int) (A1 A2:Nat→Int),I0x0 ⟨[],[v2],[x0,x1],[A1,A2],[],[],[]⟩→
 Fork (x0<32) (
 Need (0≤x0) (
 Fork ((A0 (Int.toNat x0))≠0) (
 ∀_:Nat,Need (0≤x1) (
 U47 ((x1+1)*2) (
 ∀v3:V1,I64 (x0+1) ((
 ∃(v2':V1) (x0' x1':Int) (A1' A2':Nat→Int),x0'=(x0+1)∧v2'=v3∧v2'=v3∧x1'=(x1+1)∧(∀j,j<(Int.toNat x1')→A1' j=(updF A1 (Int.toNat x1) (IntKind.wrap .u8 (IntKind.wrap .i64 (iop .quo .i64 x0 4)))) j)∧(∀j,j<(Int.toNat x1')→A2' j=(updF A2 (Int.toNat x1) (IntKind.wrap .u8 (iop .rem .i64 x0 4))) j)∧I0x0 ⟨[],[v2'],[x0',x1'],[A1',A2'],[],[],[]⟩∧m0x0 ⟨[],[v2'],[x0',x1'],[A1',A2'],[],[],[]⟩<m0x0 ⟨[],[v2],[x0,x1],[A1,A2],[],[],[]⟩))))) (
 I64 (x0+1) ((
 ∃(v2':V1) (x0' x1':Int) (A1' A2':Nat→Int),x0'=(x0+1)∧v2'=v2∧v2'=v2∧x1'=x1∧(∀j,j<(Int.toNat x1')→A1' j=A1 j)∧(∀j,j<(Int.toNat x1')→A2' j=A2 j)∧I0x0 ⟨[],[v2'],[x0',x1'],[A1',A2'],[],[],[]⟩∧m0x0 ⟨[],[v2'],[x0',x1'],[A1',A2'],[],[],[]⟩<m0x0 ⟨[],[v2],[x0,x1],[A1,A2],[],[],[]⟩))))) (
 Post (v2.v) [sliHP true 4 1 v0.v 32 (tabL 32 [colB 1 A0]),dK true v2 x1 A1 A2])
theorem mt_list(Post:PT)(A0:Nat→Int)(v0:V1)(h:st_list Post A0 v0):Meets Tryz.prog 55 [v0.v] [sliHP true 4 1 v0.v 32 (tabL 32 [colB 1 A0])] Post:=
 mtI (C:=cxC) He.listA He.listHp He.listCnt ⟨[],[A0],[],[],[v0],[],[],[]⟩ Tryz.func55 (by kernel_rfl) h
def st_same(Post:PT)(x0 x1 x2 x3:Int)(A0 A1 A2 A3 A4 A5:Nat→Int)(v0 v1:V1):Prop:=
 ∀_ _:Nat,Need ((¬((∀j,j<16→A0 j=A1 j)∧(x0=x1)))∨(0≤x2)) (
 Need ((¬((∀j,j<16→A0 j=A1 j)∧(x0=x1)))∨(0≤x3)) (
 ∃(I0x0:Ext→Prop) (m0x0:Ext→Nat),(∃(x4:Int) (q0:Bool),x4=0∧q0=((((List.range 16).all fun j=>A0 j==A1 j)&&(x0==x1))&&(x2==x3))∧I0x0 ⟨[],[],[x4],[],[q0],[],[]⟩)∧
 ∀(x4:Int) (q0:Bool),I0x0 ⟨[],[],[x4],[],[q0],[],[]⟩→
 Need (0≤x2) (
 Fork ((x4<x2)∧(q0=true)) (
 Need (0≤x4) (
 Need (x4<x2) (
 Need (x4<x3) (
 I64 (x4+1) ((
 ∃(x4':Int) (q0':Bool),x4'=(x4+1)∧q0'=(((A2 (Int.toNat x4))==(A4 (Int.toNat x4)))&&((A3 (Int.toNat x4))==(A5 (Int.toNat x4))))∧I0x0 ⟨[],[],[x4'],[],[q0'],[],[]⟩∧m0x0 ⟨[],[],[x4'],[],[q0'],[],[]⟩<m0x0 ⟨[],[],[x4],[],[q0],[],[]⟩)))))) (
 Post (.bool q0) [dK true v0 x2 A2 A3,dK true v1 x3 A4 A5]))))
theorem mt_same(Post:PT)(x0 x1 x2 x3:Int)(A0 A1 A2 A3 A4 A5:Nat→Int)(v0 v1:V1)(h:st_same Post x0 x1 x2 x3 A0 A1 A2 A3 A4 A5 v0 v1):Meets Tryz.prog 70 [.agg (List.append (segCells .u8 16 A0) ([.int .u64 x0,v0.v])).toArray,.agg (List.append (segCells .u8 16 A1) ([.int .u64 x1,v1.v])).toArray] [dK true v0 x2 A2 A3,dK true v1 x3 A4 A5] Post:=
 mtK (C:=cxD) He.sameA He.sameHp He.sameCnt ⟨[x0,x1,x2,x3],[A0,A1,A2,A3,A4,A5],[],[],[v0,v1],[],[],[]⟩ 2 Tryz.func70 (by kernel_rfl) h
def st_clh(Post:PT)(x0:Int)(A0 A1 A2 A3 A4 A5 A6 A7:Nat→Int)(v0:V1):Prop:=
 Fork (nilSl v0.v=true) (
 Post (.slice none 0 0) [hK true v0 x0 A0 A1 A2 A3 A4 A5 A6 A7]) (
 ∀_:V1,Need (0≤x0) (
 Need (0≤x0) (
 U47 (x0*72) (
 ∀v2:V1,Post (v2.v) [hK true v0 x0 A0 A1 A2 A3 A4 A5 A6 A7,hK true v2 x0 A0 A1 A2 A3 A4 A5 A6 A7]))))
theorem mt_clh(Post:PT)(x0:Int)(A0 A1 A2 A3 A4 A5 A6 A7:Nat→Int)(v0:V1)(h:st_clh Post x0 A0 A1 A2 A3 A4 A5 A6 A7 v0):Meets Tryz.prog 111 [v0.v] [hK true v0 x0 A0 A1 A2 A3 A4 A5 A6 A7] Post:=
 mtI (C:=cxE) He.clA He.clHp He.clCnt ⟨[x0],[A0,A1,A2,A3,A4,A5,A6,A7],[],[],[v0],[],[],[]⟩ Tryz.func111 (by kernel_rfl) h
def st_new(Post:PT)(x0 x1 x2:Int)(b0:Nat):Prop:=
 ∀b1 b2:Nat,Post (.pointer (some ⟨b2,0,none⟩)) [rowHP b0 true ([.int .u64 x2]),rowHP b1 true ([.int .u8 x0,.int .u8 x1]),mS b2 b0 x0 x1 false (fun _=>0) 0 (.slice none 0 0) (.slice none 0 0) (.slice none 0 0)]
theorem mt_new(Post:PT)(x0 x1 x2:Int)(b0:Nat)(h:st_new Post x0 x1 x2 b0):Meets Tryz.prog 8 [(.iface 135 (.pointer (some ⟨b0,0,none⟩))),.agg #[.int .u8 x0,.int .u8 x1]] [rowHP b0 true ([.int .u64 x2])] Post:=
 mtI (C:=cxF) He.newA He.newHp He.newCnt ⟨[x0,x1,x2],[],[],[b0],[],[],[],[]⟩ Tryz.func8 (by kernel_rfl) h
def st_sym(Post:PT)(x0:Int):Prop:=
 ∀b0:Nat,Post ((.iface 135 (.pointer (some ⟨b0,0,none⟩)))) [rowHP b0 true ([.int .u64 x0])]
theorem mt_sym(Post:PT)(x0:Int)(h:st_sym Post x0):Meets Tryz.prog 7 [.int .u64 x0] [] Post:=
 mtI (C:=cxF) [.int .u64 (.var 0)] [] ⟨0,0,1,0,0,0,0⟩ ⟨[x0],[],[],[],[],[],[],[]⟩ Tryz.func7 (by kernel_rfl) h
end Go.RX.He

namespace Go.RX.Ha
open Go.RX Go.Proofs
noncomputable def cxE:Ctx:={T:=TT,FT:=FT,loops:=Ha.loops,callees:=Ha.callees}
end Go.RX.Ha
