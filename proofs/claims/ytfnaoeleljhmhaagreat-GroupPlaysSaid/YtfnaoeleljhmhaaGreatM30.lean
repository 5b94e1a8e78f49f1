/- The group's functions: what is left to be shown; printed by a program of ours (wip/tools/g1.lean). · slices.Insert of one more key, where there is room: its cells by a table of values. -/
import Derived.Test.YtfnaoeleljhmhaaGreatM26
import Derived.Lib.Overlaps

namespace Go.RX.Gb
open Go.RX Go.Proofs
set_option maxRecDepth 100000
def st_find(Post:PT)(_ _ _ _ x4 x5:Int)(_ _ _ _ _ A5 _ _ _:Nat→Int)(_ _ _:V1)(_ _:Nat):Prop:=
 Need (0≤x4) (
 ∃(I0x0:Ext→Prop) (m0x0:Ext→Nat),(∃x6 x7:Int,x6=0∧x7=x4∧I0x0 ⟨[],[],[x6,x7],[],[],[],[]⟩)∧
 ∀x6 x7:Int,I0x0 ⟨[],[],[x6,x7],[],[],[],[]⟩→
 Fork (x6<x7) (
 I64 (x6+x7) ((
 I64 (iop .shr .u64 (IntKind.wrap .u64 (x6+x7)) 1) ((
 Need (0≤(iop .shr .u64 (IntKind.wrap .u64 (x6+x7)) 1)) (
 Need ((iop .shr .u64 (IntKind.wrap .u64 (x6+x7)) 1)<x4) (
 ∀_:Nat,Fork ((A5 (Int.toNat (iop .shr .u64 (IntKind.wrap .u64 (x6+x7)) 1)))<x5) (
 I64 ((iop .shr .u64 (IntKind.wrap .u64 (x6+x7)) 1)+1) ((
 ∃x6' x7':Int,x6'=((iop .shr .u64 (IntKind.wrap .u64 (x6+x7)) 1)+1)∧x7'=x7∧I0x0 ⟨[],[],[x6',x7'],[],[],[],[]⟩∧m0x0 ⟨[],[],[x6',x7'],[],[],[],[]⟩<m0x0 ⟨[],[],[x6,x7],[],[],[],[]⟩))) (
 Fork (x5<(A5 (Int.toNat (iop .shr .u64 (IntKind.wrap .u64 (x6+x7)) 1)))) (
 ∃x6' x7':Int,x6'=x6∧x7'=(iop .shr .u64 (IntKind.wrap .u64 (x6+x7)) 1)∧I0x0 ⟨[],[],[x6',x7'],[],[],[],[]⟩∧m0x0 ⟨[],[],[x6',x7'],[],[],[],[]⟩<m0x0 ⟨[],[],[x6,x7],[],[],[],[]⟩) (
 ∃x6' x7':Int,x6'=x6∧x7'=(iop .shr .u64 (IntKind.wrap .u64 (x6+x7)) 1)∧I0x0 ⟨[],[],[x6',x7'],[],[],[],[]⟩∧m0x0 ⟨[],[],[x6',x7'],[],[],[],[]⟩<m0x0 ⟨[],[],[x6,x7],[],[],[],[]⟩))))))))) (
 Need ((¬(x6<x4))∨(0≤x6)) (
 Need ((¬(x6<x4))∨(x6<x4)) (
 Need ((¬(x6<x4))∨(0≤x6)) (
 Need ((¬(x6<x4))∨(x6<x4)) (
 Fork (x6<x4) (
 ∀_:Nat,Fork ((A5 (Int.toNat x6))<x5) (
 Post (.tuple #[.int .i64 x6,.bool false]) []) (
 Fork (x5<(A5 (Int.toNat x6))) (
 Post (.tuple #[.int .i64 x6,.bool false]) []) (
 Post (.tuple #[.int .i64 x6,.bool true]) []))) (
 Post (.tuple #[.int .i64 x6,.bool false]) [])))))))
theorem mt_find(Post:PT)(x0 x1 x2 x3 x4 x5:Int)(A0 A1 A2 A3 A4 A5 A6 A7 A8:Nat→Int)(v0 v1 v2:V1)(b0 b1:Nat)(h:st_find Post x0 x1 x2 x3 x4 x5 A0 A1 A2 A3 A4 A5 A6 A7 A8 v0 v1 v2 b0 b1):Meets Tryz.prog 58 [.pointer (some ⟨b0,0,none⟩),.int .u64 x5] [rowHP b0 true ((.iface 135 (.pointer (some ⟨b1,0,none⟩)))::(.int .u8 x0::(.int .u8 x1::(.bool (!(x2==0))::(List.append (segCells .u8 16 A0) ([.int .u64 x3,v0.v,v1.v,v2.v])))))),sliHP true 144 23 v1.v (Int.toNat x4) (tabL (Int.toNat x4) [colI .u8 16 A1,colI .u64 1 A2,colI .u8 1 A3,colI .u8 1 A4,colI .u64 1 A5,colS 1 A6,colI .u64 1 A7,colB 1 A8])] Post:=
 mtK (C:=cxA) Gb.findA Gb.findHp Gb.findCnt ⟨[x0,x1,x2,x3,x4,x5],[A0,A1,A2,A3,A4,A5,A6,A7,A8],[],[b0,b1],[v0,v1,v2],[],[],[]⟩ 0 Tryz.func58 (by kernel_rfl) h
def st_waits(Post:PT)(x0 x1 x2 x3 x4 x5 x6 x7 x8 x9:Int)(A0 A1 A2 A3 A4 A5 A6 A7:Nat→Int)(v0 v1 v2:V1)(b0 b1:Nat):Prop:=
 ∀b2:Nat,Need (0≤x4) (
 ∃(I0x0:Ext→Prop) (m0x0:Ext→Nat),(∃x10:Int,x10=0∧I0x0 ⟨[],[],[x10],[],[],[],[]⟩)∧
 ∀x10:Int,I0x0 ⟨[],[],[x10],[],[],[],[]⟩→
 Fork (x10<x4) (
 Need (0≤x10) (
 ∀b3:Nat,Fork ((∀j,j<16→(shiftF A1 (Int.toNat (x10*16))) j=A7 j)∧(((A2 (Int.toNat x10))=x5)∧(((A3 (Int.toNat x10))=x6)∧(((A4 (Int.toNat x10))=x7)∧(((A5 (Int.toNat x10))=x8)∧(strD (srowF (A6 (Int.toNat x10)))=strD (srowF x9))))))) (
 Post (.int .i64 0) [rowHP b0 true ((.iface 135 (.pointer (some ⟨b1,0,none⟩)))::(.int .u8 x0::(.int .u8 x1::(.bool (!(x2==0))::(List.append (segCells .u8 16 A0) ([.int .u64 x3,v0.v,v1.v,v2.v])))))),sliHP true 51 21 v2.v (Int.toNat x4) (tabL (Int.toNat x4) [colI .u8 16 A1,colI .u64 1 A2,colI .u8 1 A3,colI .u8 1 A4,colI .u64 1 A5,colS 1 A6]),rowHP b2 true (List.append (segCells .u8 16 A7) ([.int .u64 x5,.int .u8 x6,.int .u8 x7,.int .u64 x8,.string ⟨(strD (srowF x9)).toArray⟩])),rowHP b3 true (List.append (segCells .u8 16 (shiftF A1 (Int.toNat (x10*16)))) ([.int .u64 (A2 (Int.toNat x10)),.int .u8 (A3 (Int.toNat x10)),.int .u8 (A4 (Int.toNat x10)),.int .u64 (A5 (Int.toNat x10)),.string ⟨(strD (srowF (A6 (Int.toNat x10)))).toArray⟩]))]) (
 Fork ((A5 (Int.toNat x10))=x8) (
 Post (.int .i64 6) [rowHP b0 true ((.iface 135 (.pointer (some ⟨b1,0,none⟩)))::(.int .u8 x0::(.int .u8 x1::(.bool (!(x2==0))::(List.append (segCells .u8 16 A0) ([.int .u64 x3,v0.v,v1.v,v2.v])))))),sliHP true 51 21 v2.v (Int.toNat x4) (tabL (Int.toNat x4) [colI .u8 16 A1,colI .u64 1 A2,colI .u8 1 A3,colI .u8 1 A4,colI .u64 1 A5,colS 1 A6]),rowHP b2 true (List.append (segCells .u8 16 A7) ([.int .u64 x5,.int .u8 x6,.int .u8 x7,.int .u64 x8,.string ⟨(strD (srowF x9)).toArray⟩])),rowHP b3 true (List.append (segCells .u8 16 (shiftF A1 (Int.toNat (x10*16)))) ([.int .u64 (A2 (Int.toNat x10)),.int .u8 (A3 (Int.toNat x10)),.int .u8 (A4 (Int.toNat x10)),.int .u64 (A5 (Int.toNat x10)),.string ⟨(strD (srowF (A6 (Int.toNat x10)))).toArray⟩]))]) (
 I64 (x10+1) ((
 ∃x10':Int,x10'=(x10+1)∧I0x0 ⟨[],[],[x10'],[],[],[],[]⟩∧m0x0 ⟨[],[],[x10'],[],[],[],[]⟩<m0x0 ⟨[],[],[x10],[],[],[],[]⟩)))))) (
 Need (0≤x4) (
 Fork (64≤x4) (
 Post (.int .i64 7) [rowHP b0 true ((.iface 135 (.pointer (some ⟨b1,0,none⟩)))::(.int .u8 x0::(.int .u8 x1::(.bool (!(x2==0))::(List.append (segCells .u8 16 A0) ([.int .u64 x3,v0.v,v1.v,v2.v])))))),sliHP true 51 21 v2.v (Int.toNat x4) (tabL (Int.toNat x4) [colI .u8 16 A1,colI .u64 1 A2,colI .u8 1 A3,colI .u8 1 A4,colI .u64 1 A5,colS 1 A6]),rowHP b2 true (List.append (segCells .u8 16 A7) ([.int .u64 x5,.int .u8 x6,.int .u8 x7,.int .u64 x8,.string ⟨(strD (srowF x9)).toArray⟩]))]) (
 (∀b3:Nat,U47 ((x4+1)*56) (
 ∀v3:V1,Post (.int .i64 0) [rowHP b0 true ((.iface 135 (.pointer (some ⟨b1,0,none⟩)))::(.int .u8 x0::(.int .u8 x1::(.bool (!(x2==0))::(List.append (segCells .u8 16 A0) ([.int .u64 x3,v0.v,v1.v,v3.v])))))),sliHP true 51 21 v3.v (Int.toNat (x4+1)) (tabL (Int.toNat (x4+1)) [colI .u8 16 (splF A1 (Int.toNat (x4*16)) 16 (splF (fun _=>0) 0 16 A7)),colI .u64 1 (splF A2 (Int.toNat x4) 1 (updF (fun _=>0) 0 x5)),colI .u8 1 (splF A3 (Int.toNat x4) 1 (updF (fun _=>0) 0 x6)),colI .u8 1 (splF A4 (Int.toNat x4) 1 (updF (fun _=>0) 0 x7)),colI .u64 1 (splF A5 (Int.toNat x4) 1 (updF (fun _=>0) 0 x8)),colS 1 (splF A6 (Int.toNat x4) 1 (updF (fun _=>0) 0 x9))]),rowHP b2 true (List.append (segCells .u8 16 A7) ([.int .u64 x5,.int .u8 x6,.int .u8 x7,.int .u64 x8,.string ⟨(strD (srowF x9)).toArray⟩])),rowHP b3 true (List.append (segCells .u8 16 A7) ([.int .u64 x5,.int .u8 x6,.int .u8 x7,.int .u64 x8,.string ⟨(strD (srowF x9)).toArray⟩]))]))∧
 (∀b3:Nat,U47 ((x4+1)*56) (
 ∀v3:V1,Post (.int .i64 0) [rowHP b0 true ((.iface 135 (.pointer (some ⟨b1,0,none⟩)))::(.int .u8 x0::(.int .u8 x1::(.bool (!(x2==0))::(List.append (segCells .u8 16 A0) ([.int .u64 x3,v0.v,v1.v,v3.v])))))),sliHP true 51 21 v3.v (Int.toNat (x4+1)) (tabL (Int.toNat (x4+1)) [colI .u8 16 (splF A1 (Int.toNat (x4*16)) 16 (splF (fun _=>0) 0 16 A7)),colI .u64 1 (splF A2 (Int.toNat x4) 1 (updF (fun _=>0) 0 x5)),colI .u8 1 (splF A3 (Int.toNat x4) 1 (updF (fun _=>0) 0 x6)),colI .u8 1 (splF A4 (Int.toNat x4) 1 (updF (fun _=>0) 0 x7)),colI .u64 1 (splF A5 (Int.toNat x4) 1 (updF (fun _=>0) 0 x8)),colS 1 (splF A6 (Int.toNat x4) 1 (updF (fun _=>0) 0 x9))]),rowHP b2 true (List.append (segCells .u8 16 A7) ([.int .u64 x5,.int .u8 x6,.int .u8 x7,.int .u64 x8,.string ⟨(strD (srowF x9)).toArray⟩])),rowHP b3 true (List.append (segCells .u8 16 A7) ([.int .u64 x5,.int .u8 x6,.int .u8 x7,.int .u64 x8,.string ⟨(strD (srowF x9)).toArray⟩]))]))))))
theorem mt_waits(Post:PT)(x0 x1 x2 x3 x4 x5 x6 x7 x8 x9:Int)(A0 A1 A2 A3 A4 A5 A6 A7:Nat→Int)(v0 v1 v2:V1)(b0 b1:Nat)(h:st_waits Post x0 x1 x2 x3 x4 x5 x6 x7 x8 x9 A0 A1 A2 A3 A4 A5 A6 A7 v0 v1 v2 b0 b1):Meets Tryz.prog 57 [.pointer (some ⟨b0,0,none⟩),.agg (List.append (segCells .u8 16 A7) ([.int .u64 x5,.int .u8 x6,.int .u8 x7,.int .u64 x8,.string ⟨(strD (srowF x9)).toArray⟩])).toArray] [rowHP b0 true ((.iface 135 (.pointer (some ⟨b1,0,none⟩)))::(.int .u8 x0::(.int .u8 x1::(.bool (!(x2==0))::(List.append (segCells .u8 16 A0) ([.int .u64 x3,v0.v,v1.v,v2.v])))))),sliHP true 51 21 v2.v (Int.toNat x4) (tabL (Int.toNat x4) [colI .u8 16 A1,colI .u64 1 A2,colI .u8 1 A3,colI .u8 1 A4,colI .u64 1 A5,colS 1 A6])] Post:=
 mtI (C:=cxA) Gb.waitA Gb.waitHp Gb.waitCnt ⟨[x0,x1,x2,x3,x4,x5,x6,x7,x8,x9],[A0,A1,A2,A3,A4,A5,A6,A7],[],[b0,b1],[v0,v1,v2],[],[],[]⟩ Tryz.func57 (by kernel_rfl) h
def st_tick(Post:PT)(x0 x1 x2 x3 x4 x5:Int)(A0 A1 A2 A3 A4 A5 A6 A7 A8:Nat→Int)(v0 v1 v2:V1)(b0 b1:Nat):Prop:=
 ∀_:Nat,Need (0≤x4) (
 ∃(I0x0:Ext→Prop) (m0x0:Ext→Nat),(∃x6:Int,x6=0∧I0x0 ⟨[],[],[x6],[],[],[],[]⟩)∧
 ∀x6:Int,I0x0 ⟨[],[],[x6],[],[],[],[]⟩→
 Fork (x6<x4) (
 Need (0≤x6) (
 ∀_:Nat,Fork (((A8 (Int.toNat x6))≠0)∧((A7 (Int.toNat x6))≤x5)) (
 Fork (x6=(-1)) (
 Post (.tuple #[]) [rowHP b0 true ((.iface 135 (.pointer (some ⟨b1,0,none⟩)))::(.int .u8 x0::(.int .u8 x1::(.bool (!(x2==0))::(List.append (segCells .u8 16 A0) ([.int .u64 x3,v0.v,v1.v,v2.v])))))),sliHP true 144 23 v1.v (Int.toNat x4) (tabL (Int.toNat x4) [colI .u8 16 A1,colI .u64 1 A2,colI .u8 1 A3,colI .u8 1 A4,colI .u64 1 A5,colS 1 A6,colI .u64 1 A7,colB 1 A8])]) (
 I64 (x6+1) ((
 ∃(I0x8:Ext→Prop) (m0x8:Ext→Nat),(∃(x7 x8:Int) (A9 A10 A11 A12 A13 A14 A15 A16:Nat→Int),x7=x6∧x8=(x6+1)∧(∀j,j<(Int.toNat (x4*16))→A9 j=A1 j)∧(∀j,j<(Int.toNat x4)→A10 j=A2 j)∧(∀j,j<(Int.toNat x4)→A11 j=A3 j)∧(∀j,j<(Int.toNat x4)→A12 j=A4 j)∧(∀j,j<(Int.toNat x4)→A13 j=A5 j)∧(∀j,j<(Int.toNat x4)→A14 j=A6 j)∧(∀j,j<(Int.toNat x4)→A15 j=A7 j)∧(∀j,j<(Int.toNat x4)→A16 j=A8 j)∧I0x8 ⟨[],[],[x7,x8],[A9,A10,A11,A12,A13,A14,A15,A16],[],[],[]⟩)∧
 ∀(x7 x8:Int) (A9 A10 A11 A12 A13 A14 A15 A16:Nat→Int),I0x8 ⟨[],[],[x7,x8],[A9,A10,A11,A12,A13,A14,A15,A16],[],[],[]⟩→
 Need (0≤x4) (
 Fork (x8<x4) (
 Need (0≤x8) (
 ∀_ _:Nat,Fork (¬(((A16 (Int.toNat x8))≠0)∧((A15 (Int.toNat x8))≤x5))) (
 Need (0≤x7) (
 Need (x7<x4) (
 I64 (x7+1) ((
 I64 (x8+1) ((
 ∃(x7' x8':Int) (A9' A10' A11' A12' A13' A14' A15' A16':Nat→Int),x7'=(x7+1)∧x8'=(x8+1)∧(∀j,j<(Int.toNat (x4*16))→A9' j=(splF A9 (Int.toNat (x7*16)) 16 (shiftF A9 (Int.toNat (x8*16)))) j)∧(∀j,j<(Int.toNat x4)→A10' j=(updF A10 (Int.toNat x7) (A10 (Int.toNat x8))) j)∧(∀j,j<(Int.toNat x4)→A11' j=(updF A11 (Int.toNat x7) (A11 (Int.toNat x8))) j)∧(∀j,j<(Int.toNat x4)→A12' j=(updF A12 (Int.toNat x7) (A12 (Int.toNat x8))) j)∧(∀j,j<(Int.toNat x4)→A13' j=(updF A13 (Int.toNat x7) (A13 (Int.toNat x8))) j)∧(∀j,j<(Int.toNat x4)→A14' j=(updF A14 (Int.toNat x7) (A14 (Int.toNat x8))) j)∧(∀j,j<(Int.toNat x4)→A15' j=(updF A15 (Int.toNat x7) (A15 (Int.toNat x8))) j)∧(∀j,j<(Int.toNat x4)→A16' j=(updF A16 (Int.toNat x7) (A16 (Int.toNat x8))) j)∧I0x8 ⟨[],[],[x7',x8'],[A9',A10',A11',A12',A13',A14',A15',A16'],[],[],[]⟩∧m0x8 ⟨[],[],[x7',x8'],[A9',A10',A11',A12',A13',A14',A15',A16'],[],[],[]⟩<m0x8 ⟨[],[],[x7,x8],[A9,A10,A11,A12,A13,A14,A15,A16],[],[],[]⟩))))))) (
 I64 (x8+1) ((
 ∃(x7' x8':Int) (A9' A10' A11' A12' A13' A14' A15' A16':Nat→Int),x7'=x7∧x8'=(x8+1)∧(∀j,j<(Int.toNat (x4*16))→A9' j=A9 j)∧(∀j,j<(Int.toNat x4)→A10' j=A10 j)∧(∀j,j<(Int.toNat x4)→A11' j=A11 j)∧(∀j,j<(Int.toNat x4)→A12' j=A12 j)∧(∀j,j<(Int.toNat x4)→A13' j=A13 j)∧(∀j,j<(Int.toNat x4)→A14' j=A14 j)∧(∀j,j<(Int.toNat x4)→A15' j=A15 j)∧(∀j,j<(Int.toNat x4)→A16' j=A16 j)∧I0x8 ⟨[],[],[x7',x8'],[A9',A10',A11',A12',A13',A14',A15',A16'],[],[],[]⟩∧m0x8 ⟨[],[],[x7',x8'],[A9',A10',A11',A12',A13',A14',A15',A16'],[],[],[]⟩<m0x8 ⟨[],[],[x7,x8],[A9,A10,A11,A12,A13,A14,A15,A16],[],[],[]⟩))))) (
 Need (0≤x7) (
 Need (x7≤x4) (
 Need (0≤(x4 - x7)) (
 Post (.tuple #[]) [rowHP b0 true ((.iface 135 (.pointer (some ⟨b1,0,none⟩)))::(.int .u8 x0::(.int .u8 x1::(.bool (!(x2==0))::(List.append (segCells .u8 16 A0) ([.int .u64 x3,v0.v,(subSlice 23 v1.v 0 (Int.toNat x7) none),v2.v])))))),sliHP true 144 23 v1.v (Int.toNat x4) (tabL (Int.toNat x4) [colI .u8 16 (splF A9 (Int.toNat (x7*16)) (Int.toNat ((x4 - x7)*16)) (fun _=>0)),colI .u64 1 (splF A10 (Int.toNat x7) (Int.toNat (x4 - x7)) (fun _=>0)),colI .u8 1 (splF A11 (Int.toNat x7) (Int.toNat (x4 - x7)) (fun _=>0)),colI .u8 1 (splF A12 (Int.toNat x7) (Int.toNat (x4 - x7)) (fun _=>0)),colI .u64 1 (splF A13 (Int.toNat x7) (Int.toNat (x4 - x7)) (fun _=>0)),colS 1 (splF A14 (Int.toNat x7) (Int.toNat (x4 - x7)) (fun _=>0)),colI .u64 1 (splF A15 (Int.toNat x7) (Int.toNat (x4 - x7)) (fun _=>0)),colB 1 (splF A16 (Int.toNat x7) (Int.toNat (x4 - x7)) (fun _=>0))])]))))))))) (
 I64 (x6+1) ((
 ∃x6':Int,x6'=(x6+1)∧I0x0 ⟨[],[],[x6'],[],[],[],[]⟩∧m0x0 ⟨[],[],[x6'],[],[],[],[]⟩<m0x0 ⟨[],[],[x6],[],[],[],[]⟩))))) (
 Post (.tuple #[]) [rowHP b0 true ((.iface 135 (.pointer (some ⟨b1,0,none⟩)))::(.int .u8 x0::(.int .u8 x1::(.bool (!(x2==0))::(List.append (segCells .u8 16 A0) ([.int .u64 x3,v0.v,v1.v,v2.v])))))),sliHP true 144 23 v1.v (Int.toNat x4) (tabL (Int.toNat x4) [colI .u8 16 A1,colI .u64 1 A2,colI .u8 1 A3,colI .u8 1 A4,colI .u64 1 A5,colS 1 A6,colI .u64 1 A7,colB 1 A8])]))
theorem mt_tick(Post:PT)(x0 x1 x2 x3 x4 x5:Int)(A0 A1 A2 A3 A4 A5 A6 A7 A8:Nat→Int)(v0 v1 v2:V1)(b0 b1:Nat)(h:st_tick Post x0 x1 x2 x3 x4 x5 A0 A1 A2 A3 A4 A5 A6 A7 A8 v0 v1 v2 b0 b1):Meets Tryz.prog 13 [.pointer (some ⟨b0,0,none⟩),.int .u64 x5] [rowHP b0 true ((.iface 135 (.pointer (some ⟨b1,0,none⟩)))::(.int .u8 x0::(.int .u8 x1::(.bool (!(x2==0))::(List.append (segCells .u8 16 A0) ([.int .u64 x3,v0.v,v1.v,v2.v])))))),sliHP true 144 23 v1.v (Int.toNat x4) (tabL (Int.toNat x4) [colI .u8 16 A1,colI .u64 1 A2,colI .u8 1 A3,colI .u8 1 A4,colI .u64 1 A5,colS 1 A6,colI .u64 1 A7,colB 1 A8])] Post:=
 mtK (C:=cxA) Gb.tickA Gb.findHp Gb.findCnt ⟨[x0,x1,x2,x3,x4,x5],[A0,A1,A2,A3,A4,A5,A6,A7,A8],[],[b0,b1],[v0,v1,v2],[],[],[]⟩ 2 Tryz.func13 (by kernel_rfl) h
def st_insG(Post:PT)(x0 x1:Int)(A0 A1 A2 A3 A4 A5 A6 A7 A8 A9 A10 A11 A12 A13 A14 A15:Nat→Int)(v0 v1:V1):Prop:=
 Need (0≤x0) (
 Need (0≤x1) (
 Need (x1≤x0) (
 Fork (x1=x0) (
 False) (
 I64 (x0+1) ((
 Fork (x0<(x0+1)) (
 I64 ((x0+1) - x1) ((
 Need (0≤((x0+1) - x1)) (
 Need (x0<(x1+((x0+1) - x1))) (
 Need (((x1+((x0+1) - x1))*72)≤140737488355328) (
 ∀v2:V1,Need (x1≤(x1+((x0+1) - x1))) (
 Need (0≤((x1+((x0+1) - x1)) - x1)) (
 I64 (x1+1) ((
 Need (0≤(x1+1)) (
 Need ((x1+1)≤(x1+((x0+1) - x1))) (
 Need (0≤(x0 - x1)) (
 Need (0≤((x1+((x0+1) - x1)) - (x1+1))) (
 Need (0≤(x0 - x1)) (
 Post (v2.v) [sliHP false 144 23 v0.v (Int.toNat x0) (tabL (Int.toNat x0) [colI .u8 16 A0,colI .u64 1 A1,colI .u8 1 A2,colI .u8 1 A3,colI .u64 1 A4,colS 1 A5,colI .u64 1 A6,colB 1 A7]),sliHP false 144 23 v1.v 1 (tabL 1 [colI .u8 16 A8,colI .u64 1 A9,colI .u8 1 A10,colI .u8 1 A11,colI .u64 1 A12,colS 1 A13,colI .u64 1 A14,colB 1 A15]),sliHP true 144 23 v2.v (Int.toNat (x1+((x0+1) - x1))) (tabL (Int.toNat (x1+((x0+1) - x1))) [colI .u8 16 (splF (splF (splF A0 (Int.toNat (x1*16)) (Int.toNat (((x0+1) - x1)*16)) (fun _=>0)) (Int.toNat (x1*16)) (Int.toNat ((iop .imin .i64 1 ((x1+((x0+1) - x1)) - x1))*16)) A8) (Int.toNat ((x1+1)*16)) (Int.toNat ((iop .imin .i64 (x0 - x1) ((x1+((x0+1) - x1)) - (x1+1)))*16)) (shiftF A0 (Int.toNat (x1*16)))),colI .u64 1 (splF (splF (splF A1 (Int.toNat x1) (Int.toNat ((x0+1) - x1)) (fun _=>0)) (Int.toNat x1) (Int.toNat (iop .imin .i64 1 ((x1+((x0+1) - x1)) - x1))) A9) (Int.toNat (x1+1)) (Int.toNat (iop .imin .i64 (x0 - x1) ((x1+((x0+1) - x1)) - (x1+1)))) (shiftF A1 (Int.toNat x1))),colI .u8 1 (splF (splF (splF A2 (Int.toNat x1) (Int.toNat ((x0+1) - x1)) (fun _=>0)) (Int.toNat x1) (Int.toNat (iop .imin .i64 1 ((x1+((x0+1) - x1)) - x1))) A10) (Int.toNat (x1+1)) (Int.toNat (iop .imin .i64 (x0 - x1) ((x1+((x0+1) - x1)) - (x1+1)))) (shiftF A2 (Int.toNat x1))),colI .u8 1 (splF (splF (splF A3 (Int.toNat x1) (Int.toNat ((x0+1) - x1)) (fun _=>0)) (Int.toNat x1) (Int.toNat (iop .imin .i64 1 ((x1+((x0+1) - x1)) - x1))) A11) (Int.toNat (x1+1)) (Int.toNat (iop .imin .i64 (x0 - x1) ((x1+((x0+1) - x1)) - (x1+1)))) (shiftF A3 (Int.toNat x1))),colI .u64 1 (splF (splF (splF A4 (Int.toNat x1) (Int.toNat ((x0+1) - x1)) (fun _=>0)) (Int.toNat x1) (Int.toNat (iop .imin .i64 1 ((x1+((x0+1) - x1)) - x1))) A12) (Int.toNat (x1+1)) (Int.toNat (iop .imin .i64 (x0 - x1) ((x1+((x0+1) - x1)) - (x1+1)))) (shiftF A4 (Int.toNat x1))),colS 1 (splF (splF (splF A5 (Int.toNat x1) (Int.toNat ((x0+1) - x1)) (fun _=>0)) (Int.toNat x1) (Int.toNat (iop .imin .i64 1 ((x1+((x0+1) - x1)) - x1))) A13) (Int.toNat (x1+1)) (Int.toNat (iop .imin .i64 (x0 - x1) ((x1+((x0+1) - x1)) - (x1+1)))) (shiftF A5 (Int.toNat x1))),colI .u64 1 (splF (splF (splF A6 (Int.toNat x1) (Int.toNat ((x0+1) - x1)) (fun _=>0)) (Int.toNat x1) (Int.toNat (iop .imin .i64 1 ((x1+((x0+1) - x1)) - x1))) A14) (Int.toNat (x1+1)) (Int.toNat (iop .imin .i64 (x0 - x1) ((x1+((x0+1) - x1)) - (x1+1)))) (shiftF A6 (Int.toNat x1))),colB 1 (splF (splF (splF A7 (Int.toNat x1) (Int.toNat ((x0+1) - x1)) (fun _=>0)) (Int.toNat x1) (Int.toNat (iop .imin .i64 1 ((x1+((x0+1) - x1)) - x1))) A15) (Int.toNat (x1+1)) (Int.toNat (iop .imin .i64 (x0 - x1) ((x1+((x0+1) - x1)) - (x1+1)))) (shiftF A7 (Int.toNat x1)))])]))))))))))))))) (
 Need (0≤(x0+1)) (
 Need ((x0+1)≤x0) (
 I64 (x1+1) ((
 Need (0≤(x1+1)) (
 Need ((x1+1)≤(x0+1)) (
 ∃post,MeetsE Tryz.prog 142 [v1.v,(subSlice 23 (subSlice 23 (subSlice 23 v0.v 0 (Int.toNat x0) (some (Int.toNat x0))) 0 (Int.toNat (x0+1)) none) (Int.toNat (x1+1)) (Int.toNat (x0+1)) none)] [sliHP false 144 23 v1.v 1 (tabL 1 [colI .u8 16 A8,colI .u64 1 A9,colI .u8 1 A10,colI .u8 1 A11,colI .u64 1 A12,colS 1 A13,colI .u64 1 A14,colB 1 A15]),sliHP false 144 23 v0.v (Int.toNat x0) (tabL (Int.toNat x0) [colI .u8 16 A0,colI .u64 1 A1,colI .u8 1 A2,colI .u8 1 A3,colI .u64 1 A4,colS 1 A5,colI .u64 1 A6,colB 1 A7])] post∧
 ∀x hs,post x hs→x= .bool false∧hs=[sliHP false 144 23 v1.v 1 (tabL 1 [colI .u8 16 A8,colI .u64 1 A9,colI .u8 1 A10,colI .u8 1 A11,colI .u64 1 A12,colS 1 A13,colI .u64 1 A14,colB 1 A15]),sliHP false 144 23 v0.v (Int.toNat x0) (tabL (Int.toNat x0) [colI .u8 16 A0,colI .u64 1 A1,colI .u8 1 A2,colI .u8 1 A3,colI .u64 1 A4,colS 1 A5,colI .u64 1 A6,colB 1 A7])]∧
 Need (x1≤(x0+1)) (
 False))))))))))))))
theorem mt_insG(Post:PT)(x0 x1:Int)(A0 A1 A2 A3 A4 A5 A6 A7 A8 A9 A10 A11 A12 A13 A14 A15:Nat→Int)(v0 v1:V1)(h:st_insG Post x0 x1 A0 A1 A2 A3 A4 A5 A6 A7 A8 A9 A10 A11 A12 A13 A14 A15 v0 v1):Meets Tryz.prog 99 [(subSlice 23 v0.v 0 (Int.toNat x0) (some (Int.toNat x0))),.int .i64 x1,v1.v] [sliHP false 144 23 v0.v (Int.toNat x0) (tabL (Int.toNat x0) [colI .u8 16 A0,colI .u64 1 A1,colI .u8 1 A2,colI .u8 1 A3,colI .u64 1 A4,colS 1 A5,colI .u64 1 A6,colB 1 A7]),sliHP false 144 23 v1.v 1 (tabL 1 [colI .u8 16 A8,colI .u64 1 A9,colI .u8 1 A10,colI .u8 1 A11,colI .u64 1 A12,colS 1 A13,colI .u64 1 A14,colB 1 A15])] Post:=
 mtI (C:=cxA) Gb.insGA Gb.insGHp Gb.insGCnt ⟨[x0,x1],[A0,A1,A2,A3,A4,A5,A6,A7,A8,A9,A10,A11,A12,A13,A14,A15],[],[],[v0,v1],[],[],[]⟩ Tryz.func99 (by kernel_rfl) h
def st_insP(Post:PT)(x0 x1 x2:Int)(A0 A1:Nat→Int)(v0 v1:V1)(V0:Nat→V1):Prop:=
 Need (0≤x0) (
 Need (x0≤x2) (
 Need (0≤x1) (
 Need (x1≤x0) (
 Need (x0≤x2) (
 Fork (x1=x0) (
 U47 ((x0+1)*72) (
 ∀v2:V1,Post (v2.v) [sliHP true 144 23 v2.v (Int.toNat (x0+1)) (tabL (Int.toNat (x0+1)) [colX 23 V0 (splF A0 (Int.toNat (x0*23)) 23 A1)]),sliHP true 144 23 v1.v 1 (tabL 1 [colX 23 V0 A1])])) (
 I64 (x0+1) ((
 Need (0≤x2) (
 Fork (x2<(x0+1)) (
 Need (x1≤x2) (
 I64 ((x0+1) - x1) ((
 False)))) (
 Need (0≤(x0+1)) (
 Need ((x0+1)≤x2) (
 I64 (x1+1) ((
 Need (0≤(x1+1)) (
 Need ((x1+1)≤(x0+1)) (
 ∃post,MeetsE Tryz.prog 142 [v1.v,(subSlice 23 (subSlice 23 (subSlice 23 v0.v 0 (Int.toNat x0) (some (Int.toNat x2))) 0 (Int.toNat (x0+1)) none) (Int.toNat (x1+1)) (Int.toNat (x0+1)) none)] [sliHP true 144 23 v1.v 1 (tabL 1 [colX 23 V0 A1]),sliHP true 144 23 v0.v (Int.toNat x2) (tabL (Int.toNat x2) [colX 23 V0 A0])] post∧
 ∀x hs,post x hs→x= .bool false∧hs=[sliHP true 144 23 v1.v 1 (tabL 1 [colX 23 V0 A1]),sliHP true 144 23 v0.v (Int.toNat x2) (tabL (Int.toNat x2) [colX 23 V0 A0])]∧
 Need (x1≤(x0+1)) (
 Need (0≤((x0+1) - x1)) (
 Need (0≤((x0+1) - (x1+1))) (
 Need (0≤((x0+1) - x1)) (
 Post ((subSlice 23 (subSlice 23 v0.v 0 (Int.toNat x0) (some (Int.toNat x2))) 0 (Int.toNat (x0+1)) none)) [sliHP true 144 23 v0.v (Int.toNat x2) (tabL (Int.toNat x2) [colX 23 V0 (splF (splF A0 (Int.toNat ((x1+1)*23)) (Int.toNat ((iop .imin .i64 ((x0+1) - x1) ((x0+1) - (x1+1)))*23)) (shiftF A0 (Int.toNat (x1*23)))) (Int.toNat (x1*23)) (Int.toNat ((iop .imin .i64 1 ((x0+1) - x1))*23)) A1)]),sliHP true 144 23 v1.v 1 (tabL 1 [colX 23 V0 A1])]))))))))))))))))))))
theorem mt_insP(Post:PT)(x0 x1 x2:Int)(A0 A1:Nat→Int)(v0 v1:V1)(V0:Nat→V1)(h:st_insP Post x0 x1 x2 A0 A1 v0 v1 V0):Meets Tryz.prog 99 [(subSlice 23 v0.v 0 (Int.toNat x0) (some (Int.toNat x2))),.int .i64 x1,v1.v] [sliHP true 144 23 v0.v (Int.toNat x2) (tabL (Int.toNat x2) [colX 23 V0 A0]),sliHP true 144 23 v1.v 1 (tabL 1 [colX 23 V0 A1])] Post:=
 mtI (C:=cxA) Gb.insPA Gb.insPHp Gb.insPCnt ⟨[x0,x1,x2],[A0,A1],[],[],[v0,v1],[V0],[],[]⟩ Tryz.func99 (by kernel_rfl) h
end Go.RX.Gb

namespace Go.RX
open Go Go.RX Go.Proofs
theorem Owns.first{h h':HP}{r:List HP}{w:World}(ho:Owns (h::r) w)(hw:h'.wr=true→h.wr=true)(hp: ∀S,h.p w S→∃S':Nat→Prop,(∀k,S' k→S k)∧h'.p w S'):Owns (h'::r) w:=by
 obtain⟨S,hS⟩:=ho;obtain⟨S',h1,h2⟩:=hp _ (hS.at_ 0 h rfl).1;exact Owns.weaken (a:=[h]) (b:=r) hS 0 h h' rfl hw S' h1 h2
theorem Ent.see{a:List HP}(i:Nat){t s n:Nat}{v:Value}{cs:List Value}(h:a[i]? =some (sliHP true t s v n cs)):Ent a (a.set i (sliHP false t s v n cs)):=
 Ent.put i _ _ h (fun h=>by cases h) fun _ _ hp=>⟨_,fun _ hk=>hk.1,sli_look hp⟩
theorem run_overlaps_none{P:Program}(w:World)(tS tR e:TypeId)(ht:P.underlying tS=some (.slice e))(size:Nat)(hz: ∀w,(Go.sizeOf e).run P w= .ok size w)(a:Addr)(la ca lb cb:Nat):
  (Extern.SlicesOverlaps.overlaps #[tS,tS] #[tR] #[.slice (some a) la ca,.slice none lb cb]).run P w= .ok (.bool false) w:=by
 change Sem.run P (α:=Value) (do
  let some t:=(#[tS,tS]:Array TypeId)[0]? | stuck "slices.overlaps: no parameter types"
  let .slice elem←underlying t | stuck "slices.overlaps: slice type expected"
  let _←Go.sizeOf elem
  pure (Value.bool false)) w=_
 simp [run_underlying ht,hz]
theorem tab_colV(w:Nat)(f:Nat→Value): ∀n:Nat,tabL n [colV w f]=(List.range (n*w)).map f
 | 0=>by simp [tabL]
 | n+1=>by
  have ih:=tab_colV w f n;unfold tabL at ih ⊢;rw [List.range_succ,List.flatMap_append,ih,Nat.add_mul,Nat.one_mul,List.range_add,List.map_append];simp [colV]
end Go.RX
namespace Go.RX.Gb
open Go Go.RX Go.Proofs
theorem over_meets{v0 v1:V1}{N:Nat}{T0 T1:List Value}{y:Value}(hN:0<N)
  (hy: ∃a lb cb,y= .slice a lb cb∧∀ad,a=some ad→∀g o m c,v0.v= .slice (some ⟨g,o,none⟩) m c→ad.block=g):
  MeetsE Tryz.prog 142 [v1.v,y] [sliHP true 144 23 v1.v 1 T1,sliHP true 144 23 v0.v N T0]
   fun r hs=>r= .bool false∧hs=[sliHP true 144 23 v1.v 1 T1,sliHP true 144 23 v0.v N T0]:=by
 intro w Fs ho;refine⟨.bool false,_,w,?_,⟨rfl,rfl⟩,ho,Same.refl w⟩;rw [run_callFunc_extern Tryz.func142 (by kernel_rfl) (by kernel_rfl) (by kernel_rfl) (e:=Extern.SlicesOverlaps.overlaps #[138,138] #[4]) (by kernel_rfl)];have hu:Tryz.prog.underlying 138=some (.slice 144):=by kernel_rfl
 have hz: ∀w,(Go.sizeOf 144).run Tryz.prog w= .ok 23 w:=fun w=>((tlook_spec okT (t:=144) rfl).2).sizeOf w
 obtain⟨S,hS⟩:=ho;obtain⟨a1,c1⟩:=(hS.at_ 0 _ rfl).1;obtain⟨a0,c0⟩:=(hS.at_ 1 _ rfl).1;simp only [if_true]at a1 a0;obtain⟨l1,⟨_,h⟩ | ⟨g1,o1,k1,u1,e1,⟨t1,z1,p1,q1⟩,n1,m1,r1,x1⟩⟩:=a1
 ·cases h
 obtain⟨l0,⟨_,h⟩ | ⟨g0,o0,k0,u0,e0,⟨t0,z0,p0,q0⟩,n0,m0,r0,x0⟩⟩:=a0
 ·omega
 obtain⟨a,lb,cb,rfl,hy⟩:=hy;have f1:z1=(0,0):=q1.1.elim id fun h=>by cases h.1
 rw [e1];have key:(Extern.SlicesOverlaps.overlaps #[138,138] #[4] #[.slice (some ⟨g1,o1,none⟩) 1 k1,.slice a lb cb]).run Tryz.prog w= .ok (.bool false) w:=by
  cases a with
  | none=>exact run_overlaps_none w 138 4 144 hu 23 hz _ _ _ _ _
  | some ad=>
   have hb:=hy ad rfl g0 o0 N k0 e0;have hne:g1≠g0:=fun h=>hS.apart 0 1 _ _ (by omega) rfl rfl (.inl rfl) g1 ((c1 g1).2 ⟨by rw [e1];rfl,.inl rfl⟩) ((c0 g1).2 ⟨by rw [e0,h];rfl,.inl rfl⟩)
   refine Lib.run_overlaps_apart w 138 4 144 hu 23 hz ⟨g1,o1,none⟩ ad 1 k1 lb cb (by rw [hb];exact hne) t1 t0 u1.size u0.size (by simp [World.shape?,p1]) (by rw [hb];simp [World.shape?,p0]) ?_ (by simp [World.frozen?,p1,f1]) (by simp [World.frozen?,p1,f1]);intro h;have:=congrArg List.length x0;rw [List.length_take,List.length_drop,Array.length_toList,h,l0]at this;omega
 rw [show([Value.slice (some ⟨g1,o1,none⟩) 1 k1,Value.slice a lb cb].toArray)= #[.slice (some ⟨g1,o1,none⟩) 1 k1,.slice a lb cb]from rfl,key];rfl
theorem insP_meets(g o n N i:Nat)(hv:Option Unit)(vx:V1)(A xs:List Value)(v0:V1)(hv0:v0.v= .slice (hv.map fun _=>⟨g,o,none⟩) N N)(hn:n≤N)(hi:i≤n)(hr:i=n∨n+1≤N)
  (hA:A.length=N*23) (h1: ∀u∈A,u.oneCell'=true) (hx:xs.length=23) (hx1: ∀u∈xs,u.oneCell'=true) (hb:(n+1)*72≤140737488355328):
  Meets Tryz.prog 99 [subSlice 23 v0.v 0 n (some N),.int .i64 (i:Int),vx.v] [sliHP true 144 23 v0.v N A,sliHP true 144 23 vx.v 1 xs]
   fun r hs=> ∃v':V1,r=v'.v∧hs=[sliHP true 144 23 v'.v (n+1) (A.take (i*23)++xs++(A.take (n*23)).drop (i*23))]:=by
 have hall: ∀u∈A++xs,u.oneCell'=true:=fun u hu=>(List.mem_append.1 hu).elim (h1 u) (hx1 u)
 let V:Nat→V1:=fun j=>if h:j<(A++xs).length then⟨(A++xs)[j],hall _ (List.getElem_mem h)⟩else V1.nil
 have hV: ∀j,j<(A++xs).length→some (V j).v=(A++xs)[j]? :=fun j h=>by simp only [V,dif_pos h,List.getElem?_eq_getElem h]
 have hL:(A++xs).length=N*23+23:=by rw [List.length_append,hA,hx]
 have tA: ∀(m:Nat) (B:Nat→Int) (cs:List Value),cs.length=m*23→(∀j,j<m*23→∃k:Nat,B j=k∧k<N*23+23∧cs[j]? =(A++xs)[k]?)→tabL m [colX 23 V B]=cs:=by
  intro m B cs hl hB;show tabL m [colV 23 fun j=>(V (B j).toNat).v]=cs;rw [tab_colV];apply List.ext_getElem?;intro j;by_cases hj:j<m*23
  ·obtain⟨k,e1,e2,e3⟩:=hB j hj;rw [List.getElem?_map,List.getElem?_range hj,e3,←hV k (by omega)];simp [e1]
  ·rw [List.getElem?_eq_none (by simp;omega),List.getElem?_eq_none (by omega)]
 have e0:tabL N [colX 23 V fun j=>(j:Int)]=A:=tA _ _ _ hA fun j hj=>⟨j,rfl,by omega,by rw [List.getElem?_append_left (by omega)]⟩
 have e1:tabL 1 [colX 23 V fun j=>((N*23+j:Nat):Int)]=xs:=tA _ _ _ (by omega) fun j hj=>⟨N*23+j,rfl,by omega,by rw [List.getElem?_append_right (by omega),hA];congr 1;omega⟩
 have hres:(A.take (i*23)++xs++(A.take (n*23)).drop (i*23)).length=(n+1)*23:=by
  simp only [List.length_append,List.length_take,List.length_drop,hA,hx];have a1:i*23≤n*23:=Nat.mul_le_mul_right _ hi;have a2:n*23≤N*23:=Nat.mul_le_mul_right _ hn;omega
 have hat: ∀j,j<(n+1)*23→(A.take (i*23)++xs++(A.take (n*23)).drop (i*23))[j]? =
   if j<i*23 then A[j]? else if j<i*23+23 then xs[j - i*23]? else A[j - 23]? :=by
  intro j hj;have a1:i*23≤n*23:=Nat.mul_le_mul_right _ hi;have a2:n*23≤N*23:=Nat.mul_le_mul_right _ hn;have hl1:(A.take (i*23)).length=i*23:=by rw [List.length_take,hA];omega
  split
  ·rename_i h;rw [List.append_assoc,List.getElem?_append_left (by omega),List.getElem?_take_of_lt h]
  ·split
   ·rename_i h h2;rw [List.append_assoc,List.getElem?_append_right (by omega),hl1,List.getElem?_append_left (by omega)]
   ·rename_i h h2;rw [List.getElem?_append_right (by rw [List.length_append,hl1,hx];omega),List.length_append,hl1,hx,List.getElem?_drop,List.getElem?_take_of_lt (by omega)];congr 1;omega
 have base:=mt_insP (fun r hs=> ∃v':V1,r=v'.v∧∃hs',Ent hs hs'∧hs'=[sliHP true 144 23 v'.v (n+1) (A.take (i*23)++xs++(A.take (n*23)).drop (i*23))]) (n:Int) (i:Int) (N:Int) (fun j=>(j:Int)) (fun j=>((N*23+j:Nat):Int)) v0 vx V;simp only [Int.toNat_natCast,e0,e1]at base;refine(base ?_).post fun r hs ⟨v',h1,hs',h2,h3⟩=>⟨hs',h2,v',h1,h3⟩
 have a1:i*23≤n*23:=Nat.mul_le_mul_right _ hi;have a2:n*23≤N*23:=Nat.mul_le_mul_right _ hn;unfold st_insP
 iterate 5 refine⟨by omega,fun _=>?_⟩
 refine⟨fun hin=>?_,fun hin=>?_⟩
 ·refine⟨by omega,fun _ v2=>⟨v2,rfl,_,Ent.sub (List.Sublist.cons_cons _ (List.nil_sublist _)),?_⟩⟩;have hin:i=n:=by omega
  subst hin;rw [show((i:Int)+1).toNat=i+1 by omega];congr 2;refine(tA (i+1) _ _ hres fun j hj=>?_);rw [hat j hj];simp only [splF];rw [show((i:Int)*23).toNat=i*23 by omega];by_cases hc:i*23≤j∧j<i*23+23
  ·rw [if_pos hc];refine⟨_,rfl,by omega,?_⟩;rw [if_neg (by omega),if_pos (by omega),List.getElem?_append_right (by omega),hA];congr 1;omega
  ·rw [if_neg hc];refine⟨_,rfl,by omega,?_⟩;rw [if_pos (by omega),List.getElem?_append_left (by omega)]
 ·iterate 3 refine⟨by omega,fun _=>?_⟩
  refine⟨fun hlt=>absurd hlt (by omega),fun _=>?_⟩
  iterate 6 refine⟨by omega,fun _=>?_⟩
  refine⟨_,over_meets (by omega) ?_,fun x hs hq=>?_⟩
  ·rw [hv0];refine⟨_,_,_,rfl,?_⟩;intro ad had g' o' m c he;cases hv with
   | none=>simp at he
   | some u=>
    simp only [Option.map_some,Value.slice.injEq,Option.some.injEq,Addr.mk.injEq,and_true]at he;obtain⟨⟨rfl,_⟩,_⟩:=he;have hadd: ∀(x:Addr) k,(x.add k).block=x.block:=fun x k=>by unfold Addr.add;split<;>rfl
    simp only [Option.map_some]at had
    repeat' split at had
    all_goals simp only [Option.map_some,Option.some.injEq]at had
    all_goals rw [←had]
    all_goals simp only [hadd]
  ·obtain⟨rfl,rfl⟩:=hq;refine⟨rfl,rfl,by omega,fun _=>⟨by omega,fun _=>⟨by omega,fun _=>⟨by omega,fun _=>?_⟩⟩⟩⟩;have m1:iop .imin .i64 ((n:Int)+1 - i) ((n:Int)+1 - (i+1))=(n:Int) - i:=by
    simp only [iop];omega
   have m2:iop .imin .i64 1 ((n:Int)+1 - i)=1:=by
    simp only [iop];omega
   have hrv:subSlice 23 (subSlice 23 v0.v 0 (n:Int).toNat (some (N:Int).toNat)) 0 ((n:Int)+1).toNat none=subSlice 23 v0.v 0 (n+1) none:=by
    rw [hv0];have had: ∀x:Addr,x.add (0*23)=x:=fun x=>by simp [Addr.add]
    have hz: ∀x:Option Addr,x.map (fun y=>y.add (0*23))=x:=fun x=>by cases x<;>simp [had]
    simp only [subSlice,Int.toNat_natCast,Option.getD_some,Option.getD_none,hz,ite_self,Nat.sub_zero];rw [show((n:Int)+1).toNat=n+1 by omega]
   refine⟨⟨_,subSlice_one 23 v0.v 0 (n+1) none⟩,hrv,_,Ent.trans (Ent.put 0 _ (sliHP true 144 23 (subSlice 23 v0.v 0 (n+1) none) (n+1) _) rfl (fun _=>rfl) fun w S hp=>⟨S,fun _ h=>h,sli_cut hp (by omega)⟩) (Ent.sub (List.Sublist.cons_cons _ (List.nil_sublist _))),?_⟩;congr 2;rw [m1,m2];rw [show∀B:Nat→Int,tabL (N:Int).toNat [colX 23 V B]=(List.range (N*23)).map fun j=>(V (B j).toNat).v from fun B=>by rw [Int.toNat_natCast];exact tab_colV 23 (fun j=>(V (B j).toNat).v) N];apply List.ext_getElem?;intro j;by_cases hj:j<(n+1)*23
   ·have a3:(n+1)*23≤N*23:=Nat.mul_le_mul_right _ (by omega);rw [List.getElem?_take_of_lt hj,List.getElem?_map,List.getElem?_range (by omega),hat j hj,Option.map_some];simp only [splF,shiftF];rw [show((i:Int)*23).toNat=i*23 by omega,show(((i:Int)+1)*23).toNat=i*23+23 by omega,show(((n:Int) - i)*23).toNat=n*23 - i*23 by omega,show((1:Int)*23).toNat=23 by rfl];by_cases h1:j<i*23
    ·rw [if_pos h1,if_neg (by omega),if_neg (by omega),Int.toNat_natCast,hV _ (by omega),List.getElem?_append_left (by omega)]
    ·rw [if_neg h1];by_cases h2:j<i*23+23
     ·rw [if_pos h2,if_pos (by omega),Int.toNat_natCast,hV _ (by omega),List.getElem?_append_right (by omega),hA];congr 1;omega
     ·rw [if_neg h2,if_neg (by omega),if_pos (by omega),Int.toNat_natCast,hV _ (by omega),List.getElem?_append_left (by omega)];congr 1;omega
   ·rw [List.getElem?_eq_none (by rw [List.length_take];omega),List.getElem?_eq_none (by rw [hres];omega)]
end Go.RX.Gb
