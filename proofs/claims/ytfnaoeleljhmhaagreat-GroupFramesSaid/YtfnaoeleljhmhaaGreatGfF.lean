/- The group's functions: what is left to be shown; printed by a program of ours (wip/tools/g2.lean). -/
import Derived.Test.YtfnaoeleljhmhaaGreatM32

namespace Go.RX.Gf
open Go.RX Go.Proofs Go.RX.Gb
set_option maxRecDepth 100000
def st_kid(Post:PT)(x0 x1 x2:Int):Prop:=
 ∀_ _:Nat,Post (.int .u64 (IntKind.wrap .u64 ((iop .shl .u64 x0 5)+(IntKind.wrap .u64 ((IntKind.wrap .u64 ((IntKind.wrap .u64 x1)*4))+(IntKind.wrap .u64 x2)))))) []
theorem mt_kid(Post:PT)(x0 x1 x2:Int)(h:st_kid Post x0 x1 x2):Meets Tryz.prog 21 [.int .u64 x0,.agg #[.int .u8 x1,.int .u8 x2]] [] Post:=
 mtB (C:=cxK) Gf.kidA Gf.kidHp Gf.kidCnt ⟨[x0,x1,x2],[],[],[],[],[],[],[]⟩ Tryz.func21 (by kernel_rfl) h
def st_may(Post:PT)(x0 x1 x2 x3 _:Int)(_:Nat→Int):Prop:=
 ∀_:Nat,Fork ((((x1<8)∧(x2<4))∧(1≤x0))∧(x0≤1099511627776)) (
 ∀_ _:Nat,Post (.bool (x3==(IntKind.wrap .u64 ((iop .shl .u64 x0 5)+(IntKind.wrap .u64 ((IntKind.wrap .u64 ((IntKind.wrap .u64 x1)*4))+(IntKind.wrap .u64 x2))))))) []) (
 Post (.bool false) [])
theorem mt_may(Post:PT)(x0 x1 x2 x3 x4:Int)(A0:Nat→Int)(h:st_may Post x0 x1 x2 x3 x4 A0):Meets Tryz.prog 56 [dV A0 x0 x1 x2 x3 x4] [] Post:=
 mtB (C:=cxK) Gf.mayA Gf.kidHp Gf.mayCnt ⟨[x0,x1,x2,x3,x4],[A0],[],[],[],[],[],[]⟩ Tryz.func56 (by kernel_rfl) h
def st_has(Post:PT)(_ x1 x2 x3:Int)(_ A1 A2:Nat→Int)(v0:V1):Prop:=
 ∀_ _ _ _:Nat,Need (0≤x3) (
 ∃(I0x0:Ext→Prop) (m0x0:Ext→Nat),(∃x4:Int,x4=0∧I0x0 ⟨[],[],[x4],[],[],[],[]⟩)∧
 ∀x4:Int,I0x0 ⟨[],[],[x4],[],[],[],[]⟩→
 Fork (x4<x3) (
 Need (0≤x4) (
 Fork ((x1=(A1 (Int.toNat x4)))∧(x2=(A2 (Int.toNat x4)))) (
 Post (.bool true) [dK true v0 x3 A1 A2]) (
 I64 (x4+1) ((
 ∃x4':Int,x4'=(x4+1)∧I0x0 ⟨[],[],[x4'],[],[],[],[]⟩∧m0x0 ⟨[],[],[x4'],[],[],[],[]⟩<m0x0 ⟨[],[],[x4],[],[],[],[]⟩))))) (
 Post (.bool false) [dK true v0 x3 A1 A2]))
theorem mt_has(Post:PT)(x0 x1 x2 x3:Int)(A0 A1 A2:Nat→Int)(v0:V1)(h:st_has Post x0 x1 x2 x3 A0 A1 A2 v0):Meets Tryz.prog 53 [.agg (List.append (segCells .u8 16 A0) ([.int .u64 x0,v0.v])).toArray,.agg #[.int .u8 x1,.int .u8 x2]] [dK true v0 x3 A1 A2] Post:=
 mtK (C:=cxH) Gf.hasA Gf.hasHp Gf.hasCnt ⟨[x0,x1,x2,x3],[A0,A1,A2],[],[],[v0],[],[],[]⟩ 1 Tryz.func53 (by kernel_rfl) h
def st_rmay(Post:PT)(x0 _ _ x3:Int)(_ A1 A2:Nat→Int)(v0:V1):Prop:=
 ∀_:Nat,Need (((x0<1)∨(1099511627776<x0))∨(0≤x3)) (
 Fork (¬(((x0<1)∨(1099511627776<x0))∨(32<x3))) (
 Cl 97 [v0.v] [dK true v0 x3 A1 A2] fun x hs l=> ∃q0:Bool,x= .bool q0∧hs=l∧
 Fork (¬(q0=true)) (
 Post (.bool false) [dK true v0 x3 A1 A2]) (
 ∃(I0x4:Ext→Prop) (m0x4:Ext→Nat),(∃x4:Int,x4=1∧I0x4 ⟨[],[],[x4],[],[],[],[]⟩)∧
 ∀x4:Int,I0x4 ⟨[],[],[x4],[],[],[],[]⟩→
 Need (0≤x3) (
 Fork (x4<x3) (
 I64 (x4 - 1) ((
 Need (0≤(x4 - 1)) (
 Need ((x4 - 1)<x3) (
 Need (0≤x4) (
 Cl 98 [.agg #[.int .u8 (A1 (Int.toNat (x4 - 1))),.int .u8 (A2 (Int.toNat (x4 - 1)))],.agg #[.int .u8 (A1 (Int.toNat x4)),.int .u8 (A2 (Int.toNat x4))]] [] fun x hs l=> ∃x5:Int,x= .int .i64 x5∧hs=[]∧
 Fork (0≤x5) (
 Post (.bool false) [dK true v0 x3 A1 A2]) (
 I64 (x4+1) ((
 ∃x4':Int,x4'=(x4+1)∧I0x4 ⟨[],[],[x4'],[],[],[],[]⟩∧m0x4 ⟨[],[],[x4'],[],[],[],[]⟩<m0x4 ⟨[],[],[x4],[],[],[],[]⟩))))))))) (
 Post (.bool true) [dK true v0 x3 A1 A2])))) (
 Post (.bool false) [dK true v0 x3 A1 A2]))
theorem mt_rmay(Post:PT)(x0 x1 x2 x3:Int)(A0 A1 A2:Nat→Int)(v0:V1)(h:st_rmay Post x0 x1 x2 x3 A0 A1 A2 v0):Meets Tryz.prog 51 [.agg (List.append (segCells .u8 16 A0) ([.int .u64 x0,v0.v])).toArray] [dK true v0 x3 A1 A2] Post:=
 mtK (C:=cxR) Gf.rmayA Gf.hasHp Gf.hasCnt ⟨[x0,x1,x2,x3],[A0,A1,A2],[],[],[v0],[],[],[]⟩ 1 Tryz.func51 (by kernel_rfl) h
def st_small(Post:PT)(_ _ _ x3:Int)(_ A1 A2:Nat→Int)(v0:V1):Prop:=
 Need (0≤x3) (
 ∃(I0x0:Ext→Prop) (m0x0:Ext→Nat),(∃x4:Int,x4=0∧I0x0 ⟨[],[],[x4],[],[],[],[]⟩)∧
 ∀x4:Int,I0x0 ⟨[],[],[x4],[],[],[],[]⟩→
 Fork (x4<x3) (
 Need (0≤x4) (
 ∀_:Nat,Fork ((8≤(A1 (Int.toNat x4)))∨(4≤(A2 (Int.toNat x4)))) (
 Post (.bool false) [dK true v0 x3 A1 A2]) (
 I64 (x4+1) ((
 ∃x4':Int,x4'=(x4+1)∧I0x0 ⟨[],[],[x4'],[],[],[],[]⟩∧m0x0 ⟨[],[],[x4'],[],[],[],[]⟩<m0x0 ⟨[],[],[x4],[],[],[],[]⟩))))) (
 Post (.bool true) [dK true v0 x3 A1 A2]))
theorem mt_small(Post:PT)(x0 x1 x2 x3:Int)(A0 A1 A2:Nat→Int)(v0:V1)(h:st_small Post x0 x1 x2 x3 A0 A1 A2 v0):Meets Tryz.prog 97 [v0.v] [dK true v0 x3 A1 A2] Post:=
 mtK (C:=cxS) Gf.smallA Gf.hasHp Gf.hasCnt ⟨[x0,x1,x2,x3],[A0,A1,A2],[],[],[v0],[],[],[]⟩ 1 Tryz.func97 (by kernel_rfl) h
def st_ord(Post:PT)(x0 x1 x2 x3:Int):Prop:=
 ∀_ _:Nat,Fork (x0<x2) (
 Fork (x1<x3) (
 ∀_:Nat,Post (.int .i64 (-1)) []) (
 Fork (x3<x1) (
 ∀_:Nat,Post (.int .i64 (-1)) []) (
 ∀_:Nat,Post (.int .i64 (-1)) []))) (
 Fork (x2<x0) (
 Fork (x1<x3) (
 ∀_:Nat,Post (.int .i64 1) []) (
 Fork (x3<x1) (
 ∀_:Nat,Post (.int .i64 1) []) (
 ∀_:Nat,Post (.int .i64 1) []))) (
 Fork (x1<x3) (
 ∀_:Nat,Post (.int .i64 (-1)) []) (
 Fork (x3<x1) (
 ∀_:Nat,Post (.int .i64 1) []) (
 ∀_:Nat,Post (.int .i64 0) []))))
theorem mt_ord(Post:PT)(x0 x1 x2 x3:Int)(h:st_ord Post x0 x1 x2 x3):Meets Tryz.prog 98 [.agg #[.int .u8 x0,.int .u8 x1],.agg #[.int .u8 x2,.int .u8 x3]] [] Post:=
 mtB (C:=cxO) Gf.ordA Gf.kidHp Gf.ordCnt ⟨[x0,x1,x2,x3],[],[],[],[],[],[],[]⟩ Tryz.func98 (by kernel_rfl) h
def st_own(Post:PT)(x0 x1 x2 x3 x4 _:Int)(A0 A1 A2 A3 A4 A5 A6 A7 A8:Nat→Int)(v0 v1 v2:V1)(b0 b1:Nat):Prop:=
 ∀_:Nat,Fork (¬(x2≠0)) (
 Post (.tuple #[.agg (List.append (segCells .u8 16 (fun _=>0)) ([.int .u64 0,.int .u8 0,.int .u8 0,.int .u64 0,.string ⟨#[]⟩])).toArray,.bool false]) [mR b0 b1 x0 x1 x2 A0 x3 v0 v1 v2,hK true v1 x4 A1 A2 A3 A4 A5 A6 A7 A8]) (
 Cl 21 [.int .u64 x3,.agg #[.int .u8 x0,.int .u8 x1]] [] fun x hs l=> ∃x6:Int,x= .int .u64 x6∧hs=[]∧
 Cl 58 [.pointer (some ⟨b0,0,none⟩),.int .u64 x6] [mR b0 b1 x0 x1 x2 A0 x3 v0 v1 v2,hK true v1 x4 A1 A2 A3 A4 A5 A6 A7 A8] fun x hs l=> ∃(x7:Int) (q0:Bool),x= .tuple #[.int .i64 x7,.bool q0]∧hs=l∧
 Fork (¬(q0=true)) (
 Post (.tuple #[.agg (List.append (segCells .u8 16 (fun _=>0)) ([.int .u64 0,.int .u8 0,.int .u8 0,.int .u64 0,.string ⟨#[]⟩])).toArray,.bool false]) [mR b0 b1 x0 x1 x2 A0 x3 v0 v1 v2,hK true v1 x4 A1 A2 A3 A4 A5 A6 A7 A8]) (
 Need (0≤x7) (
 Need (x7<x4) (
 Post (.tuple #[dV (shiftF A1 (Int.toNat (x7*16))) (A2 (Int.toNat x7)) (A3 (Int.toNat x7)) (A4 (Int.toNat x7)) (A5 (Int.toNat x7)) (A6 (Int.toNat x7)),.bool true]) [mR b0 b1 x0 x1 x2 A0 x3 v0 v1 v2,hK true v1 x4 A1 A2 A3 A4 A5 A6 A7 A8]))))
theorem mt_own(Post:PT)(x0 x1 x2 x3 x4 x5:Int)(A0 A1 A2 A3 A4 A5 A6 A7 A8:Nat→Int)(v0 v1 v2:V1)(b0 b1:Nat)(h:st_own Post x0 x1 x2 x3 x4 x5 A0 A1 A2 A3 A4 A5 A6 A7 A8 v0 v1 v2 b0 b1):Meets Tryz.prog 14 [.pointer (some ⟨b0,0,none⟩)] [mR b0 b1 x0 x1 x2 A0 x3 v0 v1 v2,hK true v1 x4 A1 A2 A3 A4 A5 A6 A7 A8] Post:=
 mtK (C:=cxW) Gf.ownA Gb.findHp Gb.findCnt ⟨[x0,x1,x2,x3,x4,x5],[A0,A1,A2,A3,A4,A5,A6,A7,A8],[],[b0,b1],[v0,v1,v2],[],[],[]⟩ 2 Tryz.func14 (by kernel_rfl) h
def st_key(Post:PT)(x0 x1 x2 x3 x4 x5 x6 x7:Int)(A0 A1 A2 A3 A4 A5 A6 A7 A8:Nat→Int)(v0 v1 v2:V1)(b0 b1:Nat):Prop:=
 ∀_ _ _:Nat,Need (0≤x4) (
 ∃(I0x0:Ext→Prop) (m0x0:Ext→Nat),(∃x8:Int,x8=0∧I0x0 ⟨[],[],[x8],[],[],[],[]⟩)∧
 ∀x8:Int,I0x0 ⟨[],[],[x8],[],[],[],[]⟩→
 Fork (x8<x4) (
 Need (0≤x8) (
 ∀_:Nat,Fork ((((A3 (Int.toNat x8))=x5)∧((A4 (Int.toNat x8))=x6))∧((A2 (Int.toNat x8))=x7)) (
 Post (.tuple #[.agg #[.string ⟨(strD (srowF (A6 (Int.toNat x8)))).toArray⟩],.int .i64 0]) [mR b0 b1 x0 x1 x2 A0 x3 v0 v1 v2,hK true v1 x4 A1 A2 A3 A4 A5 A6 A7 A8]) (
 I64 (x8+1) ((
 ∃x8':Int,x8'=(x8+1)∧I0x0 ⟨[],[],[x8'],[],[],[],[]⟩∧m0x0 ⟨[],[],[x8'],[],[],[],[]⟩<m0x0 ⟨[],[],[x8],[],[],[],[]⟩))))) (
 Fork ((x2≠0)∧(x7<x3)) (
 Post (.tuple #[.agg #[.string ⟨#[]⟩],.int .i64 241]) [mR b0 b1 x0 x1 x2 A0 x3 v0 v1 v2,hK true v1 x4 A1 A2 A3 A4 A5 A6 A7 A8]) (
 Post (.tuple #[.agg #[.string ⟨#[]⟩],.int .i64 240]) [mR b0 b1 x0 x1 x2 A0 x3 v0 v1 v2,hK true v1 x4 A1 A2 A3 A4 A5 A6 A7 A8])))
theorem mt_key(Post:PT)(x0 x1 x2 x3 x4 x5 x6 x7:Int)(A0 A1 A2 A3 A4 A5 A6 A7 A8:Nat→Int)(v0 v1 v2:V1)(b0 b1:Nat)(h:st_key Post x0 x1 x2 x3 x4 x5 x6 x7 A0 A1 A2 A3 A4 A5 A6 A7 A8 v0 v1 v2 b0 b1):Meets Tryz.prog 27 [.pointer (some ⟨b0,0,none⟩),.agg #[.int .u8 x5,.int .u8 x6],.int .u64 x7] [mR b0 b1 x0 x1 x2 A0 x3 v0 v1 v2,hK true v1 x4 A1 A2 A3 A4 A5 A6 A7 A8] Post:=
 mtK (C:=cxW) Gf.keyA Gb.findHp Gf.keyCnt ⟨[x0,x1,x2,x3,x4,x5,x6,x7],[A0,A1,A2,A3,A4,A5,A6,A7,A8],[],[b0,b1],[v0,v1,v2],[],[],[]⟩ 2 Tryz.func27 (by kernel_rfl) h
def st_hold(Post:PT)(x0 x1 x2 x3 x4 x5 x6 x7 x8 x9:Int)(A0 A1 A2 A3 A4 A5 A6 A7 A8 A9:Nat→Int)(v0 v1 v2:V1)(b0 b1:Nat):Prop:=
 ∀_:Nat,Cl 58 [.pointer (some ⟨b0,0,none⟩),.int .u64 x8] [mR b0 b1 x0 x1 x2 A0 x3 v0 v1 v2,hK true v1 x4 A1 A2 A3 A4 A5 A6 A7 A8] fun x hs l=> ∃(x10:Int) (q0:Bool),x= .tuple #[.int .i64 x10,.bool q0]∧hs=l∧
 ∀b3:Nat,Cl 99 [v1.v,.int .i64 x10,.slice (some ⟨b3,0,none⟩) 1 1] [hK true v1 x4 A1 A2 A3 A4 A5 A6 A7 A8,rowHP b3 true (List.append (segCells .u8 16 A9) ([.int .u64 x5,.int .u8 x6,.int .u8 x7,.int .u64 x8,.string ⟨(strD (srowF x9)).toArray⟩,.int .u64 0,.bool false]))] fun x hs l=> ∃(v3:V1) (x11:Int) (A10 A11 A12 A13 A14 A15 A16 A17:Nat→Int),x=v3.v∧hs=[hK true v3 x11 A10 A11 A12 A13 A14 A15 A16 A17]∧
 Post (.tuple #[]) [mR b0 b1 x0 x1 x2 A0 x3 v0 v3 v2,hK true v3 x11 A10 A11 A12 A13 A14 A15 A16 A17]
theorem mt_hold(Post:PT)(x0 x1 x2 x3 x4 x5 x6 x7 x8 x9:Int)(A0 A1 A2 A3 A4 A5 A6 A7 A8 A9:Nat→Int)(v0 v1 v2:V1)(b0 b1:Nat)(h:st_hold Post x0 x1 x2 x3 x4 x5 x6 x7 x8 x9 A0 A1 A2 A3 A4 A5 A6 A7 A8 A9 v0 v1 v2 b0 b1):Meets Tryz.prog 54 [.pointer (some ⟨b0,0,none⟩),dV A9 x5 x6 x7 x8 x9] [mR b0 b1 x0 x1 x2 A0 x3 v0 v1 v2,hK true v1 x4 A1 A2 A3 A4 A5 A6 A7 A8] Post:=
 mtK (C:=cxT) Gf.holdA Gb.findHp Gf.holdCnt ⟨[x0,x1,x2,x3,x4,x5,x6,x7,x8,x9],[A0,A1,A2,A3,A4,A5,A6,A7,A8,A9],[],[b0,b1],[v0,v1,v2],[],[],[]⟩ 2 Tryz.func54 (by kernel_rfl) h
def st_take(Post:PT)(x0 x1 x2 x3 x4 x5 x6 x7 x8 x9 x10 x11:Int)(A0 A1 A2 A3 A4 A5 A6 A7 A8 A9 A10 A11 A12 A13 A14 A15 A16 A17:Nat→Int)(v0 v1 v2:V1)(b0 b1:Nat):Prop:=
 ∀_:Nat,Cl 56 [dV A17 x7 x8 x9 x10 x11] [] fun x hs l=> ∃q0:Bool,x= .bool q0∧hs=[]∧
 Fork (((¬(q0=true))∨((x8=x0)∧(x9=x1)))∨((x2≠0)∧(¬(∀j,j<16→A17 j=A0 j)))) (
 Post (.int .i64 2) [mR b0 b1 x0 x1 x2 A0 x3 v0 v1 v2,dK true v0 x4 A1 A2,hK true v1 x5 A3 A4 A5 A6 A7 A8 A9 A10,wK true v2 x6 A11 A12 A13 A14 A15 A16]) (
 Fork ((¬(x2≠0))∨(x3<x7)) (
 Cl 57 [.pointer (some ⟨b0,0,none⟩),dV A17 x7 x8 x9 x10 x11] [mR b0 b1 x0 x1 x2 A0 x3 v0 v1 v2,wK true v2 x6 A11 A12 A13 A14 A15 A16] fun x hs l=> ∃(v3:V1) (x12 x13:Int) (A18 A19 A20 A21 A22 A23:Nat→Int),x= .int .i64 x13∧hs=[mR b0 b1 x0 x1 x2 A0 x3 v0 v1 v3,wK true v3 x12 A18 A19 A20 A21 A22 A23]∧
 Post (.int .i64 x13) [mR b0 b1 x0 x1 x2 A0 x3 v0 v1 v3,dK true v0 x4 A1 A2,hK true v1 x5 A3 A4 A5 A6 A7 A8 A9 A10,wK true v3 x12 A18 A19 A20 A21 A22 A23]) (
 Fork (x7<x3) (
 Post (.int .i64 241) [mR b0 b1 x0 x1 x2 A0 x3 v0 v1 v2,dK true v0 x4 A1 A2,hK true v1 x5 A3 A4 A5 A6 A7 A8 A9 A10,wK true v2 x6 A11 A12 A13 A14 A15 A16]) (
 Cl 53 [.agg (List.append (segCells .u8 16 A0) ([.int .u64 x3,v0.v])).toArray,.agg #[.int .u8 x0,.int .u8 x1]] [dK true v0 x4 A1 A2] fun x hs l=> ∃q1:Bool,x= .bool q1∧hs=l∧
 Fork (q1=true) (
 Cl 53 [.agg (List.append (segCells .u8 16 A0) ([.int .u64 x3,v0.v])).toArray,.agg #[.int .u8 x8,.int .u8 x9]] [dK true v0 x4 A1 A2] fun x hs l=> ∃q2:Bool,x= .bool q2∧hs=l∧
 Fork (¬(q2=true)) (
 Post (.int .i64 240) [mR b0 b1 x0 x1 x2 A0 x3 v0 v1 v2,dK true v0 x4 A1 A2,hK true v1 x5 A3 A4 A5 A6 A7 A8 A9 A10,wK true v2 x6 A11 A12 A13 A14 A15 A16]) (
 Cl 58 [.pointer (some ⟨b0,0,none⟩),.int .u64 x10] [mR b0 b1 x0 x1 x2 A0 x3 v0 v1 v2,hK true v1 x5 A3 A4 A5 A6 A7 A8 A9 A10] fun x hs l=> ∃(x12:Int) (q3:Bool),x= .tuple #[.int .i64 x12,.bool q3]∧hs=l∧
 Fork (q3=true) (
 Need (0≤x12) (
 Need (x12<x5) (
 Fork (¬(strD (srowF (A8 (Int.toNat x12)))=strD (srowF x11))) (
 Post (.int .i64 6) [mR b0 b1 x0 x1 x2 A0 x3 v0 v1 v2,dK true v0 x4 A1 A2,hK true v1 x5 A3 A4 A5 A6 A7 A8 A9 A10,wK true v2 x6 A11 A12 A13 A14 A15 A16]) (
 Post (.int .i64 0) [mR b0 b1 x0 x1 x2 A0 x3 v0 v1 v2,dK true v0 x4 A1 A2,hK true v1 x5 A3 A4 A5 A6 A7 A8 A9 A10,wK true v2 x6 A11 A12 A13 A14 A15 A16])))) (
 Cl 54 [.pointer (some ⟨b0,0,none⟩),dV A17 x7 x8 x9 x10 x11] [mR b0 b1 x0 x1 x2 A0 x3 v0 v1 v2,hK true v1 x5 A3 A4 A5 A6 A7 A8 A9 A10] fun x hs l=> ∃(v3:V1) (x13:Int) (A18 A19 A20 A21 A22 A23 A24 A25:Nat→Int),x= .tuple #[]∧hs=[mR b0 b1 x0 x1 x2 A0 x3 v0 v3 v2,hK true v3 x13 A18 A19 A20 A21 A22 A23 A24 A25]∧
 Post (.int .i64 0) [mR b0 b1 x0 x1 x2 A0 x3 v0 v3 v2,dK true v0 x4 A1 A2,hK true v3 x13 A18 A19 A20 A21 A22 A23 A24 A25,wK true v2 x6 A11 A12 A13 A14 A15 A16]))) (
 Post (.int .i64 240) [mR b0 b1 x0 x1 x2 A0 x3 v0 v1 v2,dK true v0 x4 A1 A2,hK true v1 x5 A3 A4 A5 A6 A7 A8 A9 A10,wK true v2 x6 A11 A12 A13 A14 A15 A16]))))
theorem mt_take(Post:PT)(x0 x1 x2 x3 x4 x5 x6 x7 x8 x9 x10 x11:Int)(A0 A1 A2 A3 A4 A5 A6 A7 A8 A9 A10 A11 A12 A13 A14 A15 A16 A17:Nat→Int)(v0 v1 v2:V1)(b0 b1:Nat)(h:st_take Post x0 x1 x2 x3 x4 x5 x6 x7 x8 x9 x10 x11 A0 A1 A2 A3 A4 A5 A6 A7 A8 A9 A10 A11 A12 A13 A14 A15 A16 A17 v0 v1 v2 b0 b1):Meets Tryz.prog 11 [.pointer (some ⟨b0,0,none⟩),dV A17 x7 x8 x9 x10 x11] [mR b0 b1 x0 x1 x2 A0 x3 v0 v1 v2,dK true v0 x4 A1 A2,hK true v1 x5 A3 A4 A5 A6 A7 A8 A9 A10,wK true v2 x6 A11 A12 A13 A14 A15 A16] Post:=
 mtK (C:=cxU) Gf.takeA Gf.wholeHp Gf.takeCnt ⟨[x0,x1,x2,x3,x4,x5,x6,x7,x8,x9,x10,x11],[A0,A1,A2,A3,A4,A5,A6,A7,A8,A9,A10,A11,A12,A13,A14,A15,A16,A17],[],[b0,b1],[v0,v1,v2],[],[],[]⟩ 4 Tryz.func11 (by kernel_rfl) h
def st_find(Post:PT)(x0 x1 x2 x3 x4 x5:Int)(A0 A1 A2 A3 A4 A5 A6 A7 A8:Nat→Int)(v0 v1 v2:V1)(b0 b1:Nat):Prop:=
 Need (0≤x4) (
 ∃(I0x0:Ext→Prop) (m0x0:Ext→Nat),(∃x6 x7:Int,x6=0∧x7=x4∧I0x0 ⟨[],[],[x6,x7],[],[],[],[]⟩)∧
 ∀x6 x7:Int,I0x0 ⟨[],[],[x6,x7],[],[],[],[]⟩→
 Fork (x6<x7) (
 I64 (x6+x7) ((
 I64 (iop .shr .u64 (IntKind.wrap .u64 (x6+x7)) 1) ((
 Need (0≤(iop .shr .u64 (IntKind.wrap .u64 (x6+x7)) 1)) (
 Need ((iop .shr .u64 (IntKind.wrap .u64 (x6+x7)) 1)<x4) (
 ∀_:Nat,Fork ((A5 (Int.toNat (iop .shr .u64 (IntKind.wrap .u64 (x6+x7)) 1)))<x5) (
 I64 ((iop .shr .u64 (IntKind.wrap .u64 (x6+x7)) 1)+1) ((
 ∃x6' x7':Int,x6'=((iop .shr .u64 (IntKind.wrap .u64 (x6+x7)) 1)+1)∧x7'=x7∧I0x0 ⟨[],[],[x6',x7'],[],[],[],[]⟩∧m0x0 ⟨[],[],[x6',x7'],[],[],[],[]⟩<m0x0 ⟨[],[],[x6,x7],[],[],[],[]⟩))) (
 Fork (x5<(A5 (Int.toNat (iop .shr .u64 (IntKind.wrap .u64 (x6+x7)) 1)))) (
 ∃x6' x7':Int,x6'=x6∧x7'=(iop .shr .u64 (IntKind.wrap .u64 (x6+x7)) 1)∧I0x0 ⟨[],[],[x6',x7'],[],[],[],[]⟩∧m0x0 ⟨[],[],[x6',x7'],[],[],[],[]⟩<m0x0 ⟨[],[],[x6,x7],[],[],[],[]⟩) (
 ∃x6' x7':Int,x6'=x6∧x7'=(iop .shr .u64 (IntKind.wrap .u64 (x6+x7)) 1)∧I0x0 ⟨[],[],[x6',x7'],[],[],[],[]⟩∧m0x0 ⟨[],[],[x6',x7'],[],[],[],[]⟩<m0x0 ⟨[],[],[x6,x7],[],[],[],[]⟩))))))))) (
 Need ((¬(x6<x4))∨(0≤x6)) (
 Need ((¬(x6<x4))∨(x6<x4)) (
 Need ((¬(x6<x4))∨(0≤x6)) (
 Need ((¬(x6<x4))∨(x6<x4)) (
 Fork (x6<x4) (
 ∀_:Nat,Fork ((A5 (Int.toNat x6))<x5) (
 Post (.tuple #[.int .i64 x6,.bool false]) [mR b0 b1 x0 x1 x2 A0 x3 v0 v1 v2,hK true v1 x4 A1 A2 A3 A4 A5 A6 A7 A8]) (
 Fork (x5<(A5 (Int.toNat x6))) (
 Post (.tuple #[.int .i64 x6,.bool false]) [mR b0 b1 x0 x1 x2 A0 x3 v0 v1 v2,hK true v1 x4 A1 A2 A3 A4 A5 A6 A7 A8]) (
 Post (.tuple #[.int .i64 x6,.bool true]) [mR b0 b1 x0 x1 x2 A0 x3 v0 v1 v2,hK true v1 x4 A1 A2 A3 A4 A5 A6 A7 A8]))) (
 Post (.tuple #[.int .i64 x6,.bool false]) [mR b0 b1 x0 x1 x2 A0 x3 v0 v1 v2,hK true v1 x4 A1 A2 A3 A4 A5 A6 A7 A8])))))))
theorem mt_find(Post:PT)(x0 x1 x2 x3 x4 x5:Int)(A0 A1 A2 A3 A4 A5 A6 A7 A8:Nat→Int)(v0 v1 v2:V1)(b0 b1:Nat)(h:st_find Post x0 x1 x2 x3 x4 x5 A0 A1 A2 A3 A4 A5 A6 A7 A8 v0 v1 v2 b0 b1):Meets Tryz.prog 58 [.pointer (some ⟨b0,0,none⟩),.int .u64 x5] [mR b0 b1 x0 x1 x2 A0 x3 v0 v1 v2,hK true v1 x4 A1 A2 A3 A4 A5 A6 A7 A8] Post:=
 mtK (C:=cxF) Gb.findA Gb.findHp Gb.findCnt ⟨[x0,x1,x2,x3,x4,x5],[A0,A1,A2,A3,A4,A5,A6,A7,A8],[],[b0,b1],[v0,v1,v2],[],[],[]⟩ 2 Tryz.func58 (by kernel_rfl) h
def st_waits(Post:PT)(x0 x1 x2 x3 x4 x5 x6 x7 x8 x9:Int)(A0 A1 A2 A3 A4 A5 A6 A7:Nat→Int)(v0 v1 v2:V1)(b0 b1:Nat):Prop:=
 ∀_:Nat,Need (0≤x4) (
 ∃(I0x0:Ext→Prop) (m0x0:Ext→Nat),(∃x10:Int,x10=0∧I0x0 ⟨[],[],[x10],[],[],[],[]⟩)∧
 ∀x10:Int,I0x0 ⟨[],[],[x10],[],[],[],[]⟩→
 Fork (x10<x4) (
 Need (0≤x10) (
 ∀_:Nat,Fork ((∀j,j<16→(shiftF A1 (Int.toNat (x10*16))) j=A7 j)∧(((A2 (Int.toNat x10))=x5)∧(((A3 (Int.toNat x10))=x6)∧(((A4 (Int.toNat x10))=x7)∧(((A5 (Int.toNat x10))=x8)∧(strD (srowF (A6 (Int.toNat x10)))=strD (srowF x9))))))) (
 Post (.int .i64 0) [mR b0 b1 x0 x1 x2 A0 x3 v0 v1 v2,wK true v2 x4 A1 A2 A3 A4 A5 A6]) (
 Fork ((A5 (Int.toNat x10))=x8) (
 Post (.int .i64 6) [mR b0 b1 x0 x1 x2 A0 x3 v0 v1 v2,wK true v2 x4 A1 A2 A3 A4 A5 A6]) (
 I64 (x10+1) ((
 ∃x10':Int,x10'=(x10+1)∧I0x0 ⟨[],[],[x10'],[],[],[],[]⟩∧m0x0 ⟨[],[],[x10'],[],[],[],[]⟩<m0x0 ⟨[],[],[x10],[],[],[],[]⟩)))))) (
 Need (0≤x4) (
 Fork (64≤x4) (
 Post (.int .i64 7) [mR b0 b1 x0 x1 x2 A0 x3 v0 v1 v2,wK true v2 x4 A1 A2 A3 A4 A5 A6]) (
 (∀_:Nat,U47 ((x4+1)*56) (
 ∀v3:V1,Post (.int .i64 0) [mR b0 b1 x0 x1 x2 A0 x3 v0 v1 v3,wK true v3 (x4+1) (splF A1 (Int.toNat (x4*16)) 16 (splF (fun _=>0) 0 16 A7)) (splF A2 (Int.toNat x4) 1 (updF (fun _=>0) 0 x5)) (splF A3 (Int.toNat x4) 1 (updF (fun _=>0) 0 x6)) (splF A4 (Int.toNat x4) 1 (updF (fun _=>0) 0 x7)) (splF A5 (Int.toNat x4) 1 (updF (fun _=>0) 0 x8)) (splF A6 (Int.toNat x4) 1 (updF (fun _=>0) 0 x9))]))∧
 (∀_:Nat,U47 ((x4+1)*56) (
 ∀v3:V1,Post (.int .i64 0) [mR b0 b1 x0 x1 x2 A0 x3 v0 v1 v3,wK true v3 (x4+1) (splF A1 (Int.toNat (x4*16)) 16 (splF (fun _=>0) 0 16 A7)) (splF A2 (Int.toNat x4) 1 (updF (fun _=>0) 0 x5)) (splF A3 (Int.toNat x4) 1 (updF (fun _=>0) 0 x6)) (splF A4 (Int.toNat x4) 1 (updF (fun _=>0) 0 x7)) (splF A5 (Int.toNat x4) 1 (updF (fun _=>0) 0 x8)) (splF A6 (Int.toNat x4) 1 (updF (fun _=>0) 0 x9))]))))))
theorem mt_waits(Post:PT)(x0 x1 x2 x3 x4 x5 x6 x7 x8 x9:Int)(A0 A1 A2 A3 A4 A5 A6 A7:Nat→Int)(v0 v1 v2:V1)(b0 b1:Nat)(h:st_waits Post x0 x1 x2 x3 x4 x5 x6 x7 x8 x9 A0 A1 A2 A3 A4 A5 A6 A7 v0 v1 v2 b0 b1):Meets Tryz.prog 57 [.pointer (some ⟨b0,0,none⟩),dV A7 x5 x6 x7 x8 x9] [mR b0 b1 x0 x1 x2 A0 x3 v0 v1 v2,wK true v2 x4 A1 A2 A3 A4 A5 A6] Post:=
 mtK (C:=cxF) Gb.waitA Gb.waitHp Gb.waitCnt ⟨[x0,x1,x2,x3,x4,x5,x6,x7,x8,x9],[A0,A1,A2,A3,A4,A5,A6,A7],[],[b0,b1],[v0,v1,v2],[],[],[]⟩ 2 Tryz.func57 (by kernel_rfl) h
def st_tick(Post:PT)(x0 x1 x2 x3 x4 x5:Int)(A0 A1 A2 A3 A4 A5 A6 A7 A8:Nat→Int)(v0 v1 v2:V1)(b0 b1:Nat):Prop:=
 ∀_:Nat,Need (0≤x4) (
 ∃(I0x0:Ext→Prop) (m0x0:Ext→Nat),(∃x6:Int,x6=0∧I0x0 ⟨[],[],[x6],[],[],[],[]⟩)∧
 ∀x6:Int,I0x0 ⟨[],[],[x6],[],[],[],[]⟩→
 Fork (x6<x4) (
 Need (0≤x6) (
 ∀_:Nat,Fork (((A8 (Int.toNat x6))≠0)∧((A7 (Int.toNat x6))≤x5)) (
 Fork (x6=(-1)) (
 Post (.tuple #[]) [mR b0 b1 x0 x1 x2 A0 x3 v0 v1 v2,hK true v1 x4 A1 A2 A3 A4 A5 A6 A7 A8]) (
 I64 (x6+1) ((
 ∃(I0x8:Ext→Prop) (m0x8:Ext→Nat),(∃(x7 x8:Int) (A9 A10 A11 A12 A13 A14 A15 A16:Nat→Int),x7=x6∧x8=(x6+1)∧(∀j,j<(Int.toNat (x4*16))→A9 j=A1 j)∧(∀j,j<(Int.toNat x4)→A10 j=A2 j)∧(∀j,j<(Int.toNat x4)→A11 j=A3 j)∧(∀j,j<(Int.toNat x4)→A12 j=A4 j)∧(∀j,j<(Int.toNat x4)→A13 j=A5 j)∧(∀j,j<(Int.toNat x4)→A14 j=A6 j)∧(∀j,j<(Int.toNat x4)→A15 j=A7 j)∧(∀j,j<(Int.toNat x4)→A16 j=A8 j)∧I0x8 ⟨[],[],[x7,x8],[A9,A10,A11,A12,A13,A14,A15,A16],[],[],[]⟩)∧
 ∀(x7 x8:Int) (A9 A10 A11 A12 A13 A14 A15 A16:Nat→Int),I0x8 ⟨[],[],[x7,x8],[A9,A10,A11,A12,A13,A14,A15,A16],[],[],[]⟩→
 Need (0≤x4) (
 Fork (x8<x4) (
 Need (0≤x8) (
 ∀_ _:Nat,Fork (¬(((A16 (Int.toNat x8))≠0)∧((A15 (Int.toNat x8))≤x5))) (
 Need (0≤x7) (
 Need (x7<x4) (
 I64 (x7+1) ((
 I64 (x8+1) ((
 ∃(x7' x8':Int) (A9' A10' A11' A12' A13' A14' A15' A16':Nat→Int),x7'=(x7+1)∧x8'=(x8+1)∧(∀j,j<(Int.toNat (x4*16))→A9' j=(splF A9 (Int.toNat (x7*16)) 16 (shiftF A9 (Int.toNat (x8*16)))) j)∧(∀j,j<(Int.toNat x4)→A10' j=(updF A10 (Int.toNat x7) (A10 (Int.toNat x8))) j)∧(∀j,j<(Int.toNat x4)→A11' j=(updF A11 (Int.toNat x7) (A11 (Int.toNat x8))) j)∧(∀j,j<(Int.toNat x4)→A12' j=(updF A12 (Int.toNat x7) (A12 (Int.toNat x8))) j)∧(∀j,j<(Int.toNat x4)→A13' j=(updF A13 (Int.toNat x7) (A13 (Int.toNat x8))) j)∧(∀j,j<(Int.toNat x4)→A14' j=(updF A14 (Int.toNat x7) (A14 (Int.toNat x8))) j)∧(∀j,j<(Int.toNat x4)→A15' j=(updF A15 (Int.toNat x7) (A15 (Int.toNat x8))) j)∧(∀j,j<(Int.toNat x4)→A16' j=(updF A16 (Int.toNat x7) (A16 (Int.toNat x8))) j)∧I0x8 ⟨[],[],[x7',x8'],[A9',A10',A11',A12',A13',A14',A15',A16'],[],[],[]⟩∧m0x8 ⟨[],[],[x7',x8'],[A9',A10',A11',A12',A13',A14',A15',A16'],[],[],[]⟩<m0x8 ⟨[],[],[x7,x8],[A9,A10,A11,A12,A13,A14,A15,A16],[],[],[]⟩))))))) (
 I64 (x8+1) ((
 ∃(x7' x8':Int) (A9' A10' A11' A12' A13' A14' A15' A16':Nat→Int),x7'=x7∧x8'=(x8+1)∧(∀j,j<(Int.toNat (x4*16))→A9' j=A9 j)∧(∀j,j<(Int.toNat x4)→A10' j=A10 j)∧(∀j,j<(Int.toNat x4)→A11' j=A11 j)∧(∀j,j<(Int.toNat x4)→A12' j=A12 j)∧(∀j,j<(Int.toNat x4)→A13' j=A13 j)∧(∀j,j<(Int.toNat x4)→A14' j=A14 j)∧(∀j,j<(Int.toNat x4)→A15' j=A15 j)∧(∀j,j<(Int.toNat x4)→A16' j=A16 j)∧I0x8 ⟨[],[],[x7',x8'],[A9',A10',A11',A12',A13',A14',A15',A16'],[],[],[]⟩∧m0x8 ⟨[],[],[x7',x8'],[A9',A10',A11',A12',A13',A14',A15',A16'],[],[],[]⟩<m0x8 ⟨[],[],[x7,x8],[A9,A10,A11,A12,A13,A14,A15,A16],[],[],[]⟩))))) (
 Need (0≤x7) (
 Need (x7≤x4) (
 Need (0≤(x4 - x7)) (
 Post (.tuple #[]) [mS b0 b1 x0 x1 (!(x2==0)) A0 x3 v0.v (subSlice 23 v1.v 0 (Int.toNat x7) none) v2.v,hK true v1 x4 (splF A9 (Int.toNat (x7*16)) (Int.toNat ((x4 - x7)*16)) (fun _=>0)) (splF A10 (Int.toNat x7) (Int.toNat (x4 - x7)) (fun _=>0)) (splF A11 (Int.toNat x7) (Int.toNat (x4 - x7)) (fun _=>0)) (splF A12 (Int.toNat x7) (Int.toNat (x4 - x7)) (fun _=>0)) (splF A13 (Int.toNat x7) (Int.toNat (x4 - x7)) (fun _=>0)) (splF A14 (Int.toNat x7) (Int.toNat (x4 - x7)) (fun _=>0)) (splF A15 (Int.toNat x7) (Int.toNat (x4 - x7)) (fun _=>0)) (splF A16 (Int.toNat x7) (Int.toNat (x4 - x7)) (fun _=>0))]))))))))) (
 I64 (x6+1) ((
 ∃x6':Int,x6'=(x6+1)∧I0x0 ⟨[],[],[x6'],[],[],[],[]⟩∧m0x0 ⟨[],[],[x6'],[],[],[],[]⟩<m0x0 ⟨[],[],[x6],[],[],[],[]⟩))))) (
 Post (.tuple #[]) [mR b0 b1 x0 x1 x2 A0 x3 v0 v1 v2,hK true v1 x4 A1 A2 A3 A4 A5 A6 A7 A8]))
theorem mt_tick(Post:PT)(x0 x1 x2 x3 x4 x5:Int)(A0 A1 A2 A3 A4 A5 A6 A7 A8:Nat→Int)(v0 v1 v2:V1)(b0 b1:Nat)(h:st_tick Post x0 x1 x2 x3 x4 x5 A0 A1 A2 A3 A4 A5 A6 A7 A8 v0 v1 v2 b0 b1):Meets Tryz.prog 13 [.pointer (some ⟨b0,0,none⟩),.int .u64 x5] [mR b0 b1 x0 x1 x2 A0 x3 v0 v1 v2,hK true v1 x4 A1 A2 A3 A4 A5 A6 A7 A8] Post:=
 mtK (C:=cxF) Gb.tickA Gb.findHp Gb.findCnt ⟨[x0,x1,x2,x3,x4,x5],[A0,A1,A2,A3,A4,A5,A6,A7,A8],[],[b0,b1],[v0,v1,v2],[],[],[]⟩ 2 Tryz.func13 (by kernel_rfl) h
end Go.RX.Gf
