/- The group's functions: what is left to be shown; printed by a program of ours (wip/tools/g1.lean). -/
import Derived.Test.YtfnaoeleljhmhaaGreatM29

namespace Go.RX.Gb
open Go.RX Go.Proofs
set_option maxRecDepth 100000
def st_find(Post:PT)(_ _ _ _ x4 x5:Int)(_ _ _ _ _ A5 _ _ _:Nat→Int)(_ _ _:V1)(_ _:Nat):Prop:=
 Need (0≤x4) (
 ∃(I0x0:Ext→Prop) (m0x0:Ext→Nat),(∃x6 x7:Int,x6=0∧x7=x4∧I0x0 ⟨[],[],[x6,x7],[],[],[],[]⟩)∧
 ∀x6 x7:Int,I0x0 ⟨[],[],[x6,x7],[],[],[],[]⟩→
 Fork (x6<x7) (
 I64 (x6+x7) ((
 I64 (iop .shr .u64 (IntKind.wrap .u64 (x6+x7)) 1) ((
 Need (0≤(iop .shr .u64 (IntKind.wrap .u64 (x6+x7)) 1)) (
 Need ((iop .shr .u64 (IntKind.wrap .u64 (x6+x7)) 1)<x4) (
 ∀_:Nat,Fork ((A5 (Int.toNat (iop .shr .u64 (IntKind.wrap .u64 (x6+x7)) 1)))<x5) (
 I64 ((iop .shr .u64 (IntKind.wrap .u64 (x6+x7)) 1)+1) ((
 ∃x6' x7':Int,x6'=((iop .shr .u64 (IntKind.wrap .u64 (x6+x7)) 1)+1)∧x7'=x7∧I0x0 ⟨[],[],[x6',x7'],[],[],[],[]⟩∧m0x0 ⟨[],[],[x6',x7'],[],[],[],[]⟩<m0x0 ⟨[],[],[x6,x7],[],[],[],[]⟩))) (
 Fork (x5<(A5 (Int.toNat (iop .shr .u64 (IntKind.wrap .u64 (x6+x7)) 1)))) (
 ∃x6' x7':Int,x6'=x6∧x7'=(iop .shr .u64 (IntKind.wrap .u64 (x6+x7)) 1)∧I0x0 ⟨[],[],[x6',x7'],[],[],[],[]⟩∧m0x0 ⟨[],[],[x6',x7'],[],[],[],[]⟩<m0x0 ⟨[],[],[x6,x7],[],[],[],[]⟩) (
 ∃x6' x7':Int,x6'=x6∧x7'=(iop .shr .u64 (IntKind.wrap .u64 (x6+x7)) 1)∧I0x0 ⟨[],[],[x6',x7'],[],[],[],[]⟩∧m0x0 ⟨[],[],[x6',x7'],[],[],[],[]⟩<m0x0 ⟨[],[],[x6,x7],[],[],[],[]⟩))))))))) (
 Need ((¬(x6<x4))∨(0≤x6)) (
 Need ((¬(x6<x4))∨(x6<x4)) (
 Need ((¬(x6<x4))∨(0≤x6)) (
 Need ((¬(x6<x4))∨(x6<x4)) (
 Fork (x6<x4) (
 ∀_:Nat,Fork ((A5 (Int.toNat x6))<x5) (
 Post (.tuple #[.int .i64 x6,.bool false]) []) (
 Fork (x5<(A5 (Int.toNat x6))) (
 Post (.tuple #[.int .i64 x6,.bool false]) []) (
 Post (.tuple #[.int .i64 x6,.bool true]) []))) (
 Post (.tuple #[.int .i64 x6,.bool false]) [])))))))
theorem mt_find(Post:PT)(x0 x1 x2 x3 x4 x5:Int)(A0 A1 A2 A3 A4 A5 A6 A7 A8:Nat→Int)(v0 v1 v2:V1)(b0 b1:Nat)(h:st_find Post x0 x1 x2 x3 x4 x5 A0 A1 A2 A3 A4 A5 A6 A7 A8 v0 v1 v2 b0 b1):Meets Tryz.prog 58 [.pointer (some ⟨b0,0,none⟩),.int .u64 x5] [rowHP b0 true ((.iface 135 (.pointer (some ⟨b1,0,none⟩)))::(.int .u8 x0::(.int .u8 x1::(.bool (!(x2==0))::(List.append (segCells .u8 16 A0) ([.int .u64 x3,v0.v,v1.v,v2.v])))))),sliHP true 144 23 v1.v (Int.toNat x4) (tabL (Int.toNat x4) [colI .u8 16 A1,colI .u64 1 A2,colI .u8 1 A3,colI .u8 1 A4,colI .u64 1 A5,colS 1 A6,colI .u64 1 A7,colB 1 A8])] Post:=
 mtK (C:=cxA) Gb.findA Gb.findHp Gb.findCnt ⟨[x0,x1,x2,x3,x4,x5],[A0,A1,A2,A3,A4,A5,A6,A7,A8],[],[b0,b1],[v0,v1,v2],[],[],[]⟩ 0 Tryz.func58 (by kernel_rfl) h
def st_waits(Post:PT)(x0 x1 x2 x3 x4 x5 x6 x7 x8 x9:Int)(A0 A1 A2 A3 A4 A5 A6 A7:Nat→Int)(v0 v1 v2:V1)(b0 b1:Nat):Prop:=
 ∀b2:Nat,Need (0≤x4) (
 ∃(I0x0:Ext→Prop) (m0x0:Ext→Nat),(∃x10:Int,x10=0∧I0x0 ⟨[],[],[x10],[],[],[],[]⟩)∧
 ∀x10:Int,I0x0 ⟨[],[],[x10],[],[],[],[]⟩→
 Fork (x10<x4) (
 Need (0≤x10) (
 ∀b3:Nat,Fork ((∀j,j<16→(shiftF A1 (Int.toNat (x10*16))) j=A7 j)∧(((A2 (Int.toNat x10))=x5)∧(((A3 (Int.toNat x10))=x6)∧(((A4 (Int.toNat x10))=x7)∧(((A5 (Int.toNat x10))=x8)∧(strD (srowF (A6 (Int.toNat x10)))=strD (srowF x9))))))) (
 Post (.int .i64 0) [rowHP b0 true ((.iface 135 (.pointer (some ⟨b1,0,none⟩)))::(.int .u8 x0::(.int .u8 x1::(.bool (!(x2==0))::(List.append (segCells .u8 16 A0) ([.int .u64 x3,v0.v,v1.v,v2.v])))))),sliHP true 51 21 v2.v (Int.toNat x4) (tabL (Int.toNat x4) [colI .u8 16 A1,colI .u64 1 A2,colI .u8 1 A3,colI .u8 1 A4,colI .u64 1 A5,colS 1 A6]),rowHP b2 true (List.append (segCells .u8 16 A7) ([.int .u64 x5,.int .u8 x6,.int .u8 x7,.int .u64 x8,.string ⟨(strD (srowF x9)).toArray⟩])),rowHP b3 true (List.append (segCells .u8 16 (shiftF A1 (Int.toNat (x10*16)))) ([.int .u64 (A2 (Int.toNat x10)),.int .u8 (A3 (Int.toNat x10)),.int .u8 (A4 (Int.toNat x10)),.int .u64 (A5 (Int.toNat x10)),.string ⟨(strD (srowF (A6 (Int.toNat x10)))).toArray⟩]))]) (
 Fork ((A5 (Int.toNat x10))=x8) (
 Post (.int .i64 6) [rowHP b0 true ((.iface 135 (.pointer (some ⟨b1,0,none⟩)))::(.int .u8 x0::(.int .u8 x1::(.bool (!(x2==0))::(List.append (segCells .u8 16 A0) ([.int .u64 x3,v0.v,v1.v,v2.v])))))),sliHP true 51 21 v2.v (Int.toNat x4) (tabL (Int.toNat x4) [colI .u8 16 A1,colI .u64 1 A2,colI .u8 1 A3,colI .u8 1 A4,colI .u64 1 A5,colS 1 A6]),rowHP b2 true (List.append (segCells .u8 16 A7) ([.int .u64 x5,.int .u8 x6,.int .u8 x7,.int .u64 x8,.string ⟨(strD (srowF x9)).toArray⟩])),rowHP b3 true (List.append (segCells .u8 16 (shiftF A1 (Int.toNat (x10*16)))) ([.int .u64 (A2 (Int.toNat x10)),.int .u8 (A3 (Int.toNat x10)),.int .u8 (A4 (Int.toNat x10)),.int .u64 (A5 (Int.toNat x10)),.string ⟨(strD (srowF (A6 (Int.toNat x10)))).toArray⟩]))]) (
 I64 (x10+1) ((
 ∃x10':Int,x10'=(x10+1)∧I0x0 ⟨[],[],[x10'],[],[],[],[]⟩∧m0x0 ⟨[],[],[x10'],[],[],[],[]⟩<m0x0 ⟨[],[],[x10],[],[],[],[]⟩)))))) (
 Need (0≤x4) (
 Fork (64≤x4) (
 Post (.int .i64 7) [rowHP b0 true ((.iface 135 (.pointer (some ⟨b1,0,none⟩)))::(.int .u8 x0::(.int .u8 x1::(.bool (!(x2==0))::(List.append (segCells .u8 16 A0) ([.int .u64 x3,v0.v,v1.v,v2.v])))))),sliHP true 51 21 v2.v (Int.toNat x4) (tabL (Int.toNat x4) [colI .u8 16 A1,colI .u64 1 A2,colI .u8 1 A3,colI .u8 1 A4,colI .u64 1 A5,colS 1 A6]),rowHP b2 true (List.append (segCells .u8 16 A7) ([.int .u64 x5,.int .u8 x6,.int .u8 x7,.int .u64 x8,.string ⟨(strD (srowF x9)).toArray⟩]))]) (
 (∀b3:Nat,U47 ((x4+1)*56) (
 ∀v3:V1,Post (.int .i64 0) [rowHP b0 true ((.iface 135 (.pointer (some ⟨b1,0,none⟩)))::(.int .u8 x0::(.int .u8 x1::(.bool (!(x2==0))::(List.append (segCells .u8 16 A0) ([.int .u64 x3,v0.v,v1.v,v3.v])))))),sliHP true 51 21 v3.v (Int.toNat (x4+1)) (tabL (Int.toNat (x4+1)) [colI .u8 16 (splF A1 (Int.toNat (x4*16)) 16 (splF (fun _=>0) 0 16 A7)),colI .u64 1 (splF A2 (Int.toNat x4) 1 (updF (fun _=>0) 0 x5)),colI .u8 1 (splF A3 (Int.toNat x4) 1 (updF (fun _=>0) 0 x6)),colI .u8 1 (splF A4 (Int.toNat x4) 1 (updF (fun _=>0) 0 x7)),colI .u64 1 (splF A5 (Int.toNat x4) 1 (updF (fun _=>0) 0 x8)),colS 1 (splF A6 (Int.toNat x4) 1 (updF (fun _=>0) 0 x9))]),rowHP b2 true (List.append (segCells .u8 16 A7) ([.int .u64 x5,.int .u8 x6,.int .u8 x7,.int .u64 x8,.string ⟨(strD (srowF x9)).toArray⟩])),rowHP b3 true (List.append (segCells .u8 16 A7) ([.int .u64 x5,.int .u8 x6,.int .u8 x7,.int .u64 x8,.string ⟨(strD (srowF x9)).toArray⟩]))]))∧
 (∀b3:Nat,U47 ((x4+1)*56) (
 ∀v3:V1,Post (.int .i64 0) [rowHP b0 true ((.iface 135 (.pointer (some ⟨b1,0,none⟩)))::(.int .u8 x0::(.int .u8 x1::(.bool (!(x2==0))::(List.append (segCells .u8 16 A0) ([.int .u64 x3,v0.v,v1.v,v3.v])))))),sliHP true 51 21 v3.v (Int.toNat (x4+1)) (tabL (Int.toNat (x4+1)) [colI .u8 16 (splF A1 (Int.toNat (x4*16)) 16 (splF (fun _=>0) 0 16 A7)),colI .u64 1 (splF A2 (Int.toNat x4) 1 (updF (fun _=>0) 0 x5)),colI .u8 1 (splF A3 (Int.toNat x4) 1 (updF (fun _=>0) 0 x6)),colI .u8 1 (splF A4 (Int.toNat x4) 1 (updF (fun _=>0) 0 x7)),colI .u64 1 (splF A5 (Int.toNat x4) 1 (updF (fun _=>0) 0 x8)),colS 1 (splF A6 (Int.toNat x4) 1 (updF (fun _=>0) 0 x9))]),rowHP b2 true (List.append (segCells .u8 16 A7) ([.int .u64 x5,.int .u8 x6,.int .u8 x7,.int .u64 x8,.string ⟨(strD (srowF x9)).toArray⟩])),rowHP b3 true (List.append (segCells .u8 16 A7) ([.int .u64 x5,.int .u8 x6,.int .u8 x7,.int .u64 x8,.string ⟨(strD (srowF x9)).toArray⟩]))]))))))
theorem mt_waits(Post:PT)(x0 x1 x2 x3 x4 x5 x6 x7 x8 x9:Int)(A0 A1 A2 A3 A4 A5 A6 A7:Nat→Int)(v0 v1 v2:V1)(b0 b1:Nat)(h:st_waits Post x0 x1 x2 x3 x4 x5 x6 x7 x8 x9 A0 A1 A2 A3 A4 A5 A6 A7 v0 v1 v2 b0 b1):Meets Tryz.prog 57 [.pointer (some ⟨b0,0,none⟩),.agg (List.append (segCells .u8 16 A7) ([.int .u64 x5,.int .u8 x6,.int .u8 x7,.int .u64 x8,.string ⟨(strD (srowF x9)).toArray⟩])).toArray] [rowHP b0 true ((.iface 135 (.pointer (some ⟨b1,0,none⟩)))::(.int .u8 x0::(.int .u8 x1::(.bool (!(x2==0))::(List.append (segCells .u8 16 A0) ([.int .u64 x3,v0.v,v1.v,v2.v])))))),sliHP true 51 21 v2.v (Int.toNat x4) (tabL (Int.toNat x4) [colI .u8 16 A1,colI .u64 1 A2,colI .u8 1 A3,colI .u8 1 A4,colI .u64 1 A5,colS 1 A6])] Post:=
 mtI (C:=cxA) Gb.waitA Gb.waitHp Gb.waitCnt ⟨[x0,x1,x2,x3,x4,x5,x6,x7,x8,x9],[A0,A1,A2,A3,A4,A5,A6,A7],[],[b0,b1],[v0,v1,v2],[],[],[]⟩ Tryz.func57 (by kernel_rfl) h
def st_tick(Post:PT)(x0 x1 x2 x3 x4 x5:Int)(A0 A1 A2 A3 A4 A5 A6 A7 A8:Nat→Int)(v0 v1 v2:V1)(b0 b1:Nat):Prop:=
 ∀_:Nat,Need (0≤x4) (
 ∃(I0x0:Ext→Prop) (m0x0:Ext→Nat),(∃x6:Int,x6=0∧I0x0 ⟨[],[],[x6],[],[],[],[]⟩)∧
 ∀x6:Int,I0x0 ⟨[],[],[x6],[],[],[],[]⟩→
 Fork (x6<x4) (
 Need (0≤x6) (
 ∀_:Nat,Fork (((A8 (Int.toNat x6))≠0)∧((A7 (Int.toNat x6))≤x5)) (
 Fork (x6=(-1)) (
 Post (.tuple #[]) [rowHP b0 true ((.iface 135 (.pointer (some ⟨b1,0,none⟩)))::(.int .u8 x0::(.int .u8 x1::(.bool (!(x2==0))::(List.append (segCells .u8 16 A0) ([.int .u64 x3,v0.v,v1.v,v2.v])))))),sliHP true 144 23 v1.v (Int.toNat x4) (tabL (Int.toNat x4) [colI .u8 16 A1,colI .u64 1 A2,colI .u8 1 A3,colI .u8 1 A4,colI .u64 1 A5,colS 1 A6,colI .u64 1 A7,colB 1 A8])]) (
 I64 (x6+1) ((
 ∃(I0x8:Ext→Prop) (m0x8:Ext→Nat),(∃(x7 x8:Int) (A9 A10 A11 A12 A13 A14 A15 A16:Nat→Int),x7=x6∧x8=(x6+1)∧(∀j,j<(Int.toNat (x4*16))→A9 j=A1 j)∧(∀j,j<(Int.toNat x4)→A10 j=A2 j)∧(∀j,j<(Int.toNat x4)→A11 j=A3 j)∧(∀j,j<(Int.toNat x4)→A12 j=A4 j)∧(∀j,j<(Int.toNat x4)→A13 j=A5 j)∧(∀j,j<(Int.toNat x4)→A14 j=A6 j)∧(∀j,j<(Int.toNat x4)→A15 j=A7 j)∧(∀j,j<(Int.toNat x4)→A16 j=A8 j)∧I0x8 ⟨[],[],[x7,x8],[A9,A10,A11,A12,A13,A14,A15,A16],[],[],[]⟩)∧
 ∀(x7 x8:Int) (A9 A10 A11 A12 A13 A14 A15 A16:Nat→Int),I0x8 ⟨[],[],[x7,x8],[A9,A10,A11,A12,A13,A14,A15,A16],[],[],[]⟩→
 Need (0≤x4) (
 Fork (x8<x4) (
 Need (0≤x8) (
 ∀_ _:Nat,Fork (¬(((A16 (Int.toNat x8))≠0)∧((A15 (Int.toNat x8))≤x5))) (
 Need (0≤x7) (
 Need (x7<x4) (
 I64 (x7+1) ((
 I64 (x8+1) ((
 ∃(x7' x8':Int) (A9' A10' A11' A12' A13' A14' A15' A16':Nat→Int),x7'=(x7+1)∧x8'=(x8+1)∧(∀j,j<(Int.toNat (x4*16))→A9' j=(splF A9 (Int.toNat (x7*16)) 16 (shiftF A9 (Int.toNat (x8*16)))) j)∧(∀j,j<(Int.toNat x4)→A10' j=(updF A10 (Int.toNat x7) (A10 (Int.toNat x8))) j)∧(∀j,j<(Int.toNat x4)→A11' j=(updF A11 (Int.toNat x7) (A11 (Int.toNat x8))) j)∧(∀j,j<(Int.toNat x4)→A12' j=(updF A12 (Int.toNat x7) (A12 (Int.toNat x8))) j)∧(∀j,j<(Int.toNat x4)→A13' j=(updF A13 (Int.toNat x7) (A13 (Int.toNat x8))) j)∧(∀j,j<(Int.toNat x4)→A14' j=(updF A14 (Int.toNat x7) (A14 (Int.toNat x8))) j)∧(∀j,j<(Int.toNat x4)→A15' j=(updF A15 (Int.toNat x7) (A15 (Int.toNat x8))) j)∧(∀j,j<(Int.toNat x4)→A16' j=(updF A16 (Int.toNat x7) (A16 (Int.toNat x8))) j)∧I0x8 ⟨[],[],[x7',x8'],[A9',A10',A11',A12',A13',A14',A15',A16'],[],[],[]⟩∧m0x8 ⟨[],[],[x7',x8'],[A9',A10',A11',A12',A13',A14',A15',A16'],[],[],[]⟩<m0x8 ⟨[],[],[x7,x8],[A9,A10,A11,A12,A13,A14,A15,A16],[],[],[]⟩))))))) (
 I64 (x8+1) ((
 ∃(x7' x8':Int) (A9' A10' A11' A12' A13' A14' A15' A16':Nat→Int),x7'=x7∧x8'=(x8+1)∧(∀j,j<(Int.toNat (x4*16))→A9' j=A9 j)∧(∀j,j<(Int.toNat x4)→A10' j=A10 j)∧(∀j,j<(Int.toNat x4)→A11' j=A11 j)∧(∀j,j<(Int.toNat x4)→A12' j=A12 j)∧(∀j,j<(Int.toNat x4)→A13' j=A13 j)∧(∀j,j<(Int.toNat x4)→A14' j=A14 j)∧(∀j,j<(Int.toNat x4)→A15' j=A15 j)∧(∀j,j<(Int.toNat x4)→A16' j=A16 j)∧I0x8 ⟨[],[],[x7',x8'],[A9',A10',A11',A12',A13',A14',A15',A16'],[],[],[]⟩∧m0x8 ⟨[],[],[x7',x8'],[A9',A10',A11',A12',A13',A14',A15',A16'],[],[],[]⟩<m0x8 ⟨[],[],[x7,x8],[A9,A10,A11,A12,A13,A14,A15,A16],[],[],[]⟩))))) (
 Need (0≤x7) (
 Need (x7≤x4) (
 Need (0≤(x4 - x7)) (
 Post (.tuple #[]) [rowHP b0 true ((.iface 135 (.pointer (some ⟨b1,0,none⟩)))::(.int .u8 x0::(.int .u8 x1::(.bool (!(x2==0))::(List.append (segCells .u8 16 A0) ([.int .u64 x3,v0.v,(subSlice 23 v1.v 0 (Int.toNat x7) none),v2.v])))))),sliHP true 144 23 v1.v (Int.toNat x4) (tabL (Int.toNat x4) [colI .u8 16 (splF A9 (Int.toNat (x7*16)) (Int.toNat ((x4 - x7)*16)) (fun _=>0)),colI .u64 1 (splF A10 (Int.toNat x7) (Int.toNat (x4 - x7)) (fun _=>0)),colI .u8 1 (splF A11 (Int.toNat x7) (Int.toNat (x4 - x7)) (fun _=>0)),colI .u8 1 (splF A12 (Int.toNat x7) (Int.toNat (x4 - x7)) (fun _=>0)),colI .u64 1 (splF A13 (Int.toNat x7) (Int.toNat (x4 - x7)) (fun _=>0)),colS 1 (splF A14 (Int.toNat x7) (Int.toNat (x4 - x7)) (fun _=>0)),colI .u64 1 (splF A15 (Int.toNat x7) (Int.toNat (x4 - x7)) (fun _=>0)),colB 1 (splF A16 (Int.toNat x7) (Int.toNat (x4 - x7)) (fun _=>0))])]))))))))) (
 I64 (x6+1) ((
 ∃x6':Int,x6'=(x6+1)∧I0x0 ⟨[],[],[x6'],[],[],[],[]⟩∧m0x0 ⟨[],[],[x6'],[],[],[],[]⟩<m0x0 ⟨[],[],[x6],[],[],[],[]⟩))))) (
 Post (.tuple #[]) [rowHP b0 true ((.iface 135 (.pointer (some ⟨b1,0,none⟩)))::(.int .u8 x0::(.int .u8 x1::(.bool (!(x2==0))::(List.append (segCells .u8 16 A0) ([.int .u64 x3,v0.v,v1.v,v2.v])))))),sliHP true 144 23 v1.v (Int.toNat x4) (tabL (Int.toNat x4) [colI .u8 16 A1,colI .u64 1 A2,colI .u8 1 A3,colI .u8 1 A4,colI .u64 1 A5,colS 1 A6,colI .u64 1 A7,colB 1 A8])]))
theorem mt_tick(Post:PT)(x0 x1 x2 x3 x4 x5:Int)(A0 A1 A2 A3 A4 A5 A6 A7 A8:Nat→Int)(v0 v1 v2:V1)(b0 b1:Nat)(h:st_tick Post x0 x1 x2 x3 x4 x5 A0 A1 A2 A3 A4 A5 A6 A7 A8 v0 v1 v2 b0 b1):Meets Tryz.prog 13 [.pointer (some ⟨b0,0,none⟩),.int .u64 x5] [rowHP b0 true ((.iface 135 (.pointer (some ⟨b1,0,none⟩)))::(.int .u8 x0::(.int .u8 x1::(.bool (!(x2==0))::(List.append (segCells .u8 16 A0) ([.int .u64 x3,v0.v,v1.v,v2.v])))))),sliHP true 144 23 v1.v (Int.toNat x4) (tabL (Int.toNat x4) [colI .u8 16 A1,colI .u64 1 A2,colI .u8 1 A3,colI .u8 1 A4,colI .u64 1 A5,colS 1 A6,colI .u64 1 A7,colB 1 A8])] Post:=
 mtK (C:=cxA) Gb.tickA Gb.findHp Gb.findCnt ⟨[x0,x1,x2,x3,x4,x5],[A0,A1,A2,A3,A4,A5,A6,A7,A8],[],[b0,b1],[v0,v1,v2],[],[],[]⟩ 2 Tryz.func13 (by kernel_rfl) h
def st_insG(Post:PT)(x0 x1:Int)(A0 A1 A2 A3 A4 A5 A6 A7 A8 A9 A10 A11 A12 A13 A14 A15:Nat→Int)(v0 v1:V1):Prop:=
 Need (0≤x0) (
 Need (0≤x1) (
 Need (x1≤x0) (
 Fork (x1=x0) (
 False) (
 I64 (x0+1) ((
 Fork (x0<(x0+1)) (
 I64 ((x0+1) - x1) ((
 Need (0≤((x0+1) - x1)) (
 Need (x0<(x1+((x0+1) - x1))) (
 Need (((x1+((x0+1) - x1))*72)≤140737488355328) (
 ∀v2:V1,Need (x1≤(x1+((x0+1) - x1))) (
 Need (0≤((x1+((x0+1) - x1)) - x1)) (
 I64 (x1+1) ((
 Need (0≤(x1+1)) (
 Need ((x1+1)≤(x1+((x0+1) - x1))) (
 Need (0≤(x0 - x1)) (
 Need (0≤((x1+((x0+1) - x1)) - (x1+1))) (
 Need (0≤(x0 - x1)) (
 Post (v2.v) [sliHP false 144 23 v0.v (Int.toNat x0) (tabL (Int.toNat x0) [colI .u8 16 A0,colI .u64 1 A1,colI .u8 1 A2,colI .u8 1 A3,colI .u64 1 A4,colS 1 A5,colI .u64 1 A6,colB 1 A7]),sliHP false 144 23 v1.v 1 (tabL 1 [colI .u8 16 A8,colI .u64 1 A9,colI .u8 1 A10,colI .u8 1 A11,colI .u64 1 A12,colS 1 A13,colI .u64 1 A14,colB 1 A15]),sliHP true 144 23 v2.v (Int.toNat (x1+((x0+1) - x1))) (tabL (Int.toNat (x1+((x0+1) - x1))) [colI .u8 16 (splF (splF (splF A0 (Int.toNat (x1*16)) (Int.toNat (((x0+1) - x1)*16)) (fun _=>0)) (Int.toNat (x1*16)) (Int.toNat ((iop .imin .i64 1 ((x1+((x0+1) - x1)) - x1))*16)) A8) (Int.toNat ((x1+1)*16)) (Int.toNat ((iop .imin .i64 (x0 - x1) ((x1+((x0+1) - x1)) - (x1+1)))*16)) (shiftF A0 (Int.toNat (x1*16)))),colI .u64 1 (splF (splF (splF A1 (Int.toNat x1) (Int.toNat ((x0+1) - x1)) (fun _=>0)) (Int.toNat x1) (Int.toNat (iop .imin .i64 1 ((x1+((x0+1) - x1)) - x1))) A9) (Int.toNat (x1+1)) (Int.toNat (iop .imin .i64 (x0 - x1) ((x1+((x0+1) - x1)) - (x1+1)))) (shiftF A1 (Int.toNat x1))),colI .u8 1 (splF (splF (splF A2 (Int.toNat x1) (Int.toNat ((x0+1) - x1)) (fun _=>0)) (Int.toNat x1) (Int.toNat (iop .imin .i64 1 ((x1+((x0+1) - x1)) - x1))) A10) (Int.toNat (x1+1)) (Int.toNat (iop .imin .i64 (x0 - x1) ((x1+((x0+1) - x1)) - (x1+1)))) (shiftF A2 (Int.toNat x1))),colI .u8 1 (splF (splF (splF A3 (Int.toNat x1) (Int.toNat ((x0+1) - x1)) (fun _=>0)) (Int.toNat x1) (Int.toNat (iop .imin .i64 1 ((x1+((x0+1) - x1)) - x1))) A11) (Int.toNat (x1+1)) (Int.toNat (iop .imin .i64 (x0 - x1) ((x1+((x0+1) - x1)) - (x1+1)))) (shiftF A3 (Int.toNat x1))),colI .u64 1 (splF (splF (splF A4 (Int.toNat x1) (Int.toNat ((x0+1) - x1)) (fun _=>0)) (Int.toNat x1) (Int.toNat (iop .imin .i64 1 ((x1+((x0+1) - x1)) - x1))) A12) (Int.toNat (x1+1)) (Int.toNat (iop .imin .i64 (x0 - x1) ((x1+((x0+1) - x1)) - (x1+1)))) (shiftF A4 (Int.toNat x1))),colS 1 (splF (splF (splF A5 (Int.toNat x1) (Int.toNat ((x0+1) - x1)) (fun _=>0)) (Int.toNat x1) (Int.toNat (iop .imin .i64 1 ((x1+((x0+1) - x1)) - x1))) A13) (Int.toNat (x1+1)) (Int.toNat (iop .imin .i64 (x0 - x1) ((x1+((x0+1) - x1)) - (x1+1)))) (shiftF A5 (Int.toNat x1))),colI .u64 1 (splF (splF (splF A6 (Int.toNat x1) (Int.toNat ((x0+1) - x1)) (fun _=>0)) (Int.toNat x1) (Int.toNat (iop .imin .i64 1 ((x1+((x0+1) - x1)) - x1))) A14) (Int.toNat (x1+1)) (Int.toNat (iop .imin .i64 (x0 - x1) ((x1+((x0+1) - x1)) - (x1+1)))) (shiftF A6 (Int.toNat x1))),colB 1 (splF (splF (splF A7 (Int.toNat x1) (Int.toNat ((x0+1) - x1)) (fun _=>0)) (Int.toNat x1) (Int.toNat (iop .imin .i64 1 ((x1+((x0+1) - x1)) - x1))) A15) (Int.toNat (x1+1)) (Int.toNat (iop .imin .i64 (x0 - x1) ((x1+((x0+1) - x1)) - (x1+1)))) (shiftF A7 (Int.toNat x1)))])]))))))))))))))) (
 Need (0≤(x0+1)) (
 Need ((x0+1)≤x0) (
 I64 (x1+1) ((
 Need (0≤(x1+1)) (
 Need ((x1+1)≤(x0+1)) (
 ∃post,MeetsE Tryz.prog 142 [v1.v,(subSlice 23 (subSlice 23 (subSlice 23 v0.v 0 (Int.toNat x0) (some (Int.toNat x0))) 0 (Int.toNat (x0+1)) none) (Int.toNat (x1+1)) (Int.toNat (x0+1)) none)] [sliHP false 144 23 v1.v 1 (tabL 1 [colI .u8 16 A8,colI .u64 1 A9,colI .u8 1 A10,colI .u8 1 A11,colI .u64 1 A12,colS 1 A13,colI .u64 1 A14,colB 1 A15]),sliHP false 144 23 v0.v (Int.toNat x0) (tabL (Int.toNat x0) [colI .u8 16 A0,colI .u64 1 A1,colI .u8 1 A2,colI .u8 1 A3,colI .u64 1 A4,colS 1 A5,colI .u64 1 A6,colB 1 A7])] post∧
 ∀x hs,post x hs→x= .bool false∧hs=[sliHP false 144 23 v1.v 1 (tabL 1 [colI .u8 16 A8,colI .u64 1 A9,colI .u8 1 A10,colI .u8 1 A11,colI .u64 1 A12,colS 1 A13,colI .u64 1 A14,colB 1 A15]),sliHP false 144 23 v0.v (Int.toNat x0) (tabL (Int.toNat x0) [colI .u8 16 A0,colI .u64 1 A1,colI .u8 1 A2,colI .u8 1 A3,colI .u64 1 A4,colS 1 A5,colI .u64 1 A6,colB 1 A7])]∧
 Need (x1≤(x0+1)) (
 False))))))))))))))
theorem mt_insG(Post:PT)(x0 x1:Int)(A0 A1 A2 A3 A4 A5 A6 A7 A8 A9 A10 A11 A12 A13 A14 A15:Nat→Int)(v0 v1:V1)(h:st_insG Post x0 x1 A0 A1 A2 A3 A4 A5 A6 A7 A8 A9 A10 A11 A12 A13 A14 A15 v0 v1):Meets Tryz.prog 99 [(subSlice 23 v0.v 0 (Int.toNat x0) (some (Int.toNat x0))),.int .i64 x1,v1.v] [sliHP false 144 23 v0.v (Int.toNat x0) (tabL (Int.toNat x0) [colI .u8 16 A0,colI .u64 1 A1,colI .u8 1 A2,colI .u8 1 A3,colI .u64 1 A4,colS 1 A5,colI .u64 1 A6,colB 1 A7]),sliHP false 144 23 v1.v 1 (tabL 1 [colI .u8 16 A8,colI .u64 1 A9,colI .u8 1 A10,colI .u8 1 A11,colI .u64 1 A12,colS 1 A13,colI .u64 1 A14,colB 1 A15])] Post:=
 mtI (C:=cxA) Gb.insGA Gb.insGHp Gb.insGCnt ⟨[x0,x1],[A0,A1,A2,A3,A4,A5,A6,A7,A8,A9,A10,A11,A12,A13,A14,A15],[],[],[v0,v1],[],[],[]⟩ Tryz.func99 (by kernel_rfl) h
def st_insP(Post:PT)(x0 x1 x2:Int)(A0 A1:Nat→Int)(v0 v1:V1)(V0:Nat→V1):Prop:=
 Need (0≤x0) (
 Need (x0≤x2) (
 Need (0≤x1) (
 Need (x1≤x0) (
 Need (x0≤x2) (
 Fork (x1=x0) (
 U47 ((x0+1)*72) (
 ∀v2:V1,Post (v2.v) [sliHP true 144 23 v2.v (Int.toNat (x0+1)) (tabL (Int.toNat (x0+1)) [colX 23 V0 (splF A0 (Int.toNat (x0*23)) 23 A1)]),sliHP true 144 23 v1.v 1 (tabL 1 [colX 23 V0 A1])])) (
 I64 (x0+1) ((
 Need (0≤x2) (
 Fork (x2<(x0+1)) (
 Need (x1≤x2) (
 I64 ((x0+1) - x1) ((
 False)))) (
 Need (0≤(x0+1)) (
 Need ((x0+1)≤x2) (
 I64 (x1+1) ((
 Need (0≤(x1+1)) (
 Need ((x1+1)≤(x0+1)) (
 ∃post,MeetsE Tryz.prog 142 [v1.v,(subSlice 23 (subSlice 23 (subSlice 23 v0.v 0 (Int.toNat x0) (some (Int.toNat x2))) 0 (Int.toNat (x0+1)) none) (Int.toNat (x1+1)) (Int.toNat (x0+1)) none)] [sliHP true 144 23 v1.v 1 (tabL 1 [colX 23 V0 A1]),sliHP true 144 23 v0.v (Int.toNat x2) (tabL (Int.toNat x2) [colX 23 V0 A0])] post∧
 ∀x hs,post x hs→x= .bool false∧hs=[sliHP true 144 23 v1.v 1 (tabL 1 [colX 23 V0 A1]),sliHP true 144 23 v0.v (Int.toNat x2) (tabL (Int.toNat x2) [colX 23 V0 A0])]∧
 Need (x1≤(x0+1)) (
 Need (0≤((x0+1) - x1)) (
 Need (0≤((x0+1) - (x1+1))) (
 Need (0≤((x0+1) - x1)) (
 Post ((subSlice 23 (subSlice 23 v0.v 0 (Int.toNat x0) (some (Int.toNat x2))) 0 (Int.toNat (x0+1)) none)) [sliHP true 144 23 v0.v (Int.toNat x2) (tabL (Int.toNat x2) [colX 23 V0 (splF (splF A0 (Int.toNat ((x1+1)*23)) (Int.toNat ((iop .imin .i64 ((x0+1) - x1) ((x0+1) - (x1+1)))*23)) (shiftF A0 (Int.toNat (x1*23)))) (Int.toNat (x1*23)) (Int.toNat ((iop .imin .i64 1 ((x0+1) - x1))*23)) A1)]),sliHP true 144 23 v1.v 1 (tabL 1 [colX 23 V0 A1])]))))))))))))))))))))
theorem mt_insP(Post:PT)(x0 x1 x2:Int)(A0 A1:Nat→Int)(v0 v1:V1)(V0:Nat→V1)(h:st_insP Post x0 x1 x2 A0 A1 v0 v1 V0):Meets Tryz.prog 99 [(subSlice 23 v0.v 0 (Int.toNat x0) (some (Int.toNat x2))),.int .i64 x1,v1.v] [sliHP true 144 23 v0.v (Int.toNat x2) (tabL (Int.toNat x2) [colX 23 V0 A0]),sliHP true 144 23 v1.v 1 (tabL 1 [colX 23 V0 A1])] Post:=
 mtI (C:=cxA) Gb.insPA Gb.insPHp Gb.insPCnt ⟨[x0,x1,x2],[A0,A1],[],[],[v0,v1],[V0],[],[]⟩ Tryz.func99 (by kernel_rfl) h
end Go.RX.Gb
