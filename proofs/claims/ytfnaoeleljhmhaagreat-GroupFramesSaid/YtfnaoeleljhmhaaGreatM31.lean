/- The group's functions: what is left to be shown; printed by a program of ours (wip/tools/g9.lean). · Terms that are built: the executor's contexts. · The group's functions: what is left to be shown; printed by a program of ours (wip/tools/g4.lean). · strings.Builder az one predicate with an exact frame: WriteByte, String; over any program that bears these functions (the walks after the shelf's own, its laid facts used). · A contract of the library, laid at this program by the shelf (plain mode). -/
import Derived.Test.YtfnaoeleljhmhaaGreatM30
import Derived.Test.YtfnaoeleljhmhaaGreatM29
import Derived.Shelf.Strings.Builder1
import Derived.Maps.AppendAt
import Derived.Test.YtfnaoeleljhmhaaGreatProg

namespace Go.RX.Ia
open Go.RX Go.Proofs Go.RX.Gb
set_option maxRecDepth 100000
def st_hash(Post:PT)(x0 x1:Int)(A0:Nat→Int)(v0:V1):Prop:=
 ∀_:Nat,Need (0≤x1) (
 Fork (255<x1) (
 Post (.agg #[.string ⟨#[]⟩]) []) (
 Cl 62 [.int .u64 (IntKind.wrap .u64 x0)] [] fun x hs l=> ∃(v1:V1) (A1:Nat→Int),x=v1.v∧hs=[sliHP true 5 1 v1.v 8 (tabL 8 [colI .u8 1 A1])]∧
 ∀(_:Nat) (v2:V1),Cl 61 [.int .u8 3,v2.v,v0.v] [sliHP true 5 1 v2.v 9 (tabL 9 [colI .u8 1 (updF A1 8 (IntKind.wrap .u8 x1))]),sliHP false 33 1 v0.v (Int.toNat x1) (tabL (Int.toNat x1) [colS 1 A0])] fun x hs l=> ∃x2:Int,x= .agg #[.string ⟨(strD (srowF x2)).toArray⟩]∧hs=[]∧
 Post (.agg #[.string ⟨(strD (srowF x2)).toArray⟩]) []))
theorem mt_hash(Post:PT)(x0 x1:Int)(A0:Nat→Int)(v0:V1)(h:st_hash Post x0 x1 A0 v0):Meets Tryz.prog 261 [.int .u8 x0,v0.v] [sliHP false 33 1 v0.v (Int.toNat x1) (tabL (Int.toNat x1) [colS 1 A0])] Post:=
 mtK (C:=cxA) Ia.hashA Ia.hashHp Ia.hashCnt ⟨[x0,x1],[A0],[],[],[v0],[],[],[]⟩ 0 Tryz.func261 (by kernel_rfl) h
def st_shash(Post:PT)(x0 x1:Int)(A0:Nat→Int)(_:V1)(_:Nat):Prop:=
 ∀_:Nat,Cl 261 [.int .u8 1,.slice none 0 0] [] fun x hs l=> ∃x2:Int,x= .agg #[.string ⟨(strD (srowF x2)).toArray⟩]∧hs=[]∧
 ∀_:Nat,Need (0≤x1) (
 Need (0≤x1) (
 U47 ((1+x1)*16) (
 ∀v1:V1,Cl 261 [.int .u8 x0,v1.v] [sliHP true 33 1 v1.v (Int.toNat (1+x1)) (tabL (Int.toNat (1+x1)) [colS 1 (splF (updF (fun _=>0) 0 x2) 1 (Int.toNat x1) A0)])] fun x hs l=> ∃x3:Int,x= .agg #[.string ⟨(strD (srowF x3)).toArray⟩]∧hs=[]∧
 Post (.agg #[.string ⟨(strD (srowF x3)).toArray⟩]) [])))
theorem mt_shash(Post:PT)(x0 x1:Int)(A0:Nat→Int)(v0:V1)(b0:Nat)(h:st_shash Post x0 x1 A0 v0 b0):Meets Tryz.prog 255 [.pointer (some ⟨b0,0,none⟩),.int .u8 x0,v0.v] [sliHP false 33 1 v0.v (Int.toNat x1) (tabL (Int.toNat x1) [colS 1 A0])] Post:=
 mtK (C:=cxB) Ia.shashA Ia.hashHp Ia.shashCnt ⟨[x0,x1],[A0],[],[b0],[v0],[],[],[]⟩ 0 Tryz.func255 (by kernel_rfl) h
def st_abe(Post:PT)(x0:Int):Prop:=
 ∀(b0:Nat) (_:V1) (b1:Nat) (_:V1) (b2:Nat) (_:V1) (b3:Nat) (_:V1) (b4:Nat) (_:V1) (b5:Nat) (_:V1) (b6:Nat) (_:V1) (b7:Nat) (v7:V1),Post (v7.v) [rowHP b0 true ([.int .u8 (IntKind.wrap .u8 (iop .shr .u64 x0 56))]),sliHP true 5 1 v7.v 8 (tabL 8 [colI .u8 1 (updF (updF (updF (updF (updF (updF (updF (updF (fun _=>0) 0 (IntKind.wrap .u8 (iop .shr .u64 x0 56))) 1 (IntKind.wrap .u8 (iop .shr .u64 x0 48))) 2 (IntKind.wrap .u8 (iop .shr .u64 x0 40))) 3 (IntKind.wrap .u8 (iop .shr .u64 x0 32))) 4 (IntKind.wrap .u8 (iop .shr .u64 x0 24))) 5 (IntKind.wrap .u8 (iop .shr .u64 x0 16))) 6 (IntKind.wrap .u8 (iop .shr .u64 x0 8))) 7 (IntKind.wrap .u8 (iop .shr .u64 x0 0)))]),rowHP b1 true ([.int .u8 (IntKind.wrap .u8 (iop .shr .u64 x0 48))]),rowHP b2 true ([.int .u8 (IntKind.wrap .u8 (iop .shr .u64 x0 40))]),rowHP b3 true ([.int .u8 (IntKind.wrap .u8 (iop .shr .u64 x0 32))]),rowHP b4 true ([.int .u8 (IntKind.wrap .u8 (iop .shr .u64 x0 24))]),rowHP b5 true ([.int .u8 (IntKind.wrap .u8 (iop .shr .u64 x0 16))]),rowHP b6 true ([.int .u8 (IntKind.wrap .u8 (iop .shr .u64 x0 8))]),rowHP b7 true ([.int .u8 (IntKind.wrap .u8 (iop .shr .u64 x0 0))])]
theorem mt_abe(Post:PT)(x0:Int)(h:st_abe Post x0):Meets Tryz.prog 262 [.int .u64 x0] [] Post:=
 mtI (C:=cxC) [.int .u64 (.var 0)] [] ⟨0,0,1,0,0,0,0⟩ ⟨[x0],[],[],[],[],[],[],[]⟩ Tryz.func262 (by kernel_rfl) h
def st_num(Post:PT)(x0:Int)(_:Nat):Prop:=
 ∀_:Nat,Cl 262 [.int .u64 x0] [] fun x hs l=> ∃(v0:V1) (A0:Nat→Int),x=v0.v∧hs=[sliHP true 5 1 v0.v 8 (tabL 8 [colI .u8 1 A0])]∧
 ∃(I0x0:Ext→Prop) (m0x0:Ext→Nat),(∃(v2:V1) (x1 x2:Int) (A1:Nat→Int),x1=0∧v2=(⟨.slice none 0 0,rfl⟩:V1)∧v2=(⟨.slice none 0 0,rfl⟩:V1)∧x2=0∧(∀j,j<(Int.toNat x2)→A1 j=(fun _=>0) j)∧I0x0 ⟨[],[v2],[x1,x2],[A1],[],[],[]⟩)∧
 ∀(v2:V1) (x1 x2:Int) (A1:Nat→Int),I0x0 ⟨[],[v2],[x1,x2],[A1],[],[],[]⟩→
 Fork (x1<8) (
 Need (0≤x1) (
 Cl 261 [.int .u8 (A0 (Int.toNat x1)),.slice none 0 0] [] fun x hs l=> ∃x3:Int,x= .agg #[.string ⟨(strD (srowF x3)).toArray⟩]∧hs=[]∧
 ∀_:Nat,Need (0≤x2) (
 U47 ((x2+1)*16) (
 ∀v3:V1,I64 (x1+1) ((
 ∃(v2':V1) (x1' x2':Int) (A1':Nat→Int),x1'=(x1+1)∧v2'=v3∧v2'=v3∧x2'=(x2+1)∧(∀j,j<(Int.toNat x2')→A1' j=(updF A1 (Int.toNat x2) x3) j)∧I0x0 ⟨[],[v2'],[x1',x2'],[A1'],[],[],[]⟩∧m0x0 ⟨[],[v2'],[x1',x2'],[A1'],[],[],[]⟩<m0x0 ⟨[],[v2],[x1,x2],[A1],[],[],[]⟩)))))) (
 Cl 261 [.int .u8 0,v2.v] [sliHP true 33 1 v2.v (Int.toNat x2) (tabL (Int.toNat x2) [colS 1 A1])] fun x hs l=> ∃x3:Int,x= .agg #[.string ⟨(strD (srowF x3)).toArray⟩]∧hs=[]∧
 Post (.agg #[.string ⟨(strD (srowF x3)).toArray⟩]) [])
theorem mt_num(Post:PT)(x0:Int)(b0:Nat)(h:st_num Post x0 b0):Meets Tryz.prog 256 [.pointer (some ⟨b0,0,none⟩),.int .u64 x0] [] Post:=
 mtK (C:=cxD) [.ptr 0 0,.int .u64 (.var 0)] [] ⟨1,0,1,0,0,0,0⟩ ⟨[x0],[],[],[b0],[],[],[],[]⟩ 0 Tryz.func256 (by kernel_rfl) h
def st_seal(Post:PT)(x0 x1:Int):Prop:=
 ∀_ _ _ b3:Nat,Cl 61 [.int .u8 4,.slice none 0 0,.slice (some ⟨b3,0,none⟩) 2 2] [rowHP b3 true ([.string ⟨(strD (srowF x0)).toArray⟩,.string ⟨(strD (srowF x1)).toArray⟩])] fun x hs l=> ∃x2:Int,x= .agg #[.string ⟨(strD (srowF x2)).toArray⟩]∧hs=[]∧
 Post (.agg #[.string ⟨(strD (srowF x2)).toArray⟩]) []
theorem mt_seal(Post:PT)(x0 x1:Int)(h:st_seal Post x0 x1):Meets Tryz.prog 19 [.agg #[.string ⟨(strD (srowF x0)).toArray⟩],.agg #[.string ⟨(strD (srowF x1)).toArray⟩]] [] Post:=
 mtK (C:=cxE) [.agg [.strE (.srow (.var 0))],.agg [.strE (.srow (.var 1))]] [] ⟨0,0,2,0,0,0,0⟩ ⟨[x0,x1],[],[],[],[],[],[],[]⟩ 0 Tryz.func19 (by kernel_rfl) h
def st_step(Post:PT)(x0 x1:Int)(b0:Nat):Prop:=
 ∀_ _ _:Nat,Fork (64<x1) (
 Post (.tuple #[.agg #[.string ⟨#[]⟩],.int .i64 5]) []) (
 ∃(I0x2:Ext→Prop) (m0x2:Ext→Nat),(∃x2 x3:Int,x2=0∧((srowF x3)=(srowF x0))∧I0x2 ⟨[],[],[x2,x3],[],[],[],[]⟩)∧
 ∀x2 x3:Int,I0x2 ⟨[],[],[x2,x3],[],[],[],[]⟩→
 Fork (x2<x1) (
 ∀b4:Nat,Cl 255 [.pointer (some ⟨b0,0,none⟩),.int .u8 10,.slice (some ⟨b4,0,none⟩) 1 1] [rowHP b4 true ([.string ⟨(strD (srowF x3)).toArray⟩])] fun x hs l=> ∃x4:Int,x= .agg #[.string ⟨(strD (srowF x4)).toArray⟩]∧hs=[]∧
 ∃x2' x3':Int,x2'=(IntKind.wrap .u64 (x2+1))∧((srowF x3')=(srowF x4))∧I0x2 ⟨[],[],[x2',x3'],[],[],[],[]⟩∧m0x2 ⟨[],[],[x2',x3'],[],[],[],[]⟩<m0x2 ⟨[],[],[x2,x3],[],[],[],[]⟩) (
 Post (.tuple #[.agg #[.string ⟨(strD (srowF x3)).toArray⟩],.int .i64 0]) []))
theorem mt_step(Post:PT)(x0 x1:Int)(b0:Nat)(h:st_step Post x0 x1 b0):Meets Tryz.prog 18 [(.iface 135 (.pointer (some ⟨b0,0,none⟩))),.agg #[.string ⟨(strD (srowF x0)).toArray⟩],.int .u64 x1] [] Post:=
 mtK (C:=cxF) [.ifp 135 0 0,.agg [.strE (.srow (.var 0))],.int .u64 (.var 1)] [] ⟨1,0,2,0,0,0,0⟩ ⟨[x0,x1],[],[],[b0],[],[],[],[]⟩ 0 Tryz.func18 (by kernel_rfl) h
def st_lock(Post:PT)(x0 x1 x2 x3 x4 x5 x6:Int)(A0:Nat→Int)(v0 v1 v2:V1)(b0 b1:Nat):Prop:=
 ∀_ _:Nat,(Cl 18 [(.iface 135 (.pointer (some ⟨b1,0,none⟩))),.agg #[.string ⟨(strD (srowF x4)).toArray⟩],.int .u64 x5] [] fun x hs l=> ∃x7 x8:Int,x= .tuple #[.agg #[.string ⟨(strD (srowF x7)).toArray⟩],.int .i64 x8]∧hs=[]∧
 ∀_:Nat,Fork (¬(x8=0)) (
 Post (.tuple #[.agg #[.string ⟨(strD (srowF x7)).toArray⟩],.int .i64 x8]) [mR b0 b1 x0 x1 x2 A0 x3 v0 v1 v2]) (
 Cl 256 [.pointer (some ⟨b1,0,none⟩),.int .u64 x6] [] fun x hs l=> ∃x9:Int,x= .agg #[.string ⟨(strD (srowF x9)).toArray⟩]∧hs=[]∧
 ∀b5:Nat,Cl 255 [.pointer (some ⟨b1,0,none⟩),.int .u8 11,.slice (some ⟨b5,0,none⟩) 2 2] [rowHP b5 true ([.string ⟨(strD (srowF x7)).toArray⟩,.string ⟨(strD (srowF x9)).toArray⟩])] fun x hs l=> ∃x10:Int,x= .agg #[.string ⟨(strD (srowF x10)).toArray⟩]∧hs=[]∧
 Post (.tuple #[.agg #[.string ⟨(strD (srowF x10)).toArray⟩],.int .i64 0]) [mR b0 b1 x0 x1 x2 A0 x3 v0 v1 v2]))∧
 (∀_:Nat,Cl 18 [(.iface 135 (.pointer (some ⟨b1,0,none⟩))),.agg #[.string ⟨(strD (srowF x4)).toArray⟩],.int .u64 x5] [] fun x hs l=> ∃x7 x8:Int,x= .tuple #[.agg #[.string ⟨(strD (srowF x7)).toArray⟩],.int .i64 x8]∧hs=[]∧
 Fork (¬(x8=0)) (
 Post (.tuple #[.agg #[.string ⟨(strD (srowF x7)).toArray⟩],.int .i64 x8]) [mR b0 b1 x0 x1 x2 A0 x3 v0 v1 v2]) (
 Cl 256 [.pointer (some ⟨b1,0,none⟩),.int .u64 x6] [] fun x hs l=> ∃x9:Int,x= .agg #[.string ⟨(strD (srowF x9)).toArray⟩]∧hs=[]∧
 ∀b5:Nat,Cl 255 [.pointer (some ⟨b1,0,none⟩),.int .u8 11,.slice (some ⟨b5,0,none⟩) 2 2] [rowHP b5 true ([.string ⟨(strD (srowF x7)).toArray⟩,.string ⟨(strD (srowF x9)).toArray⟩])] fun x hs l=> ∃x10:Int,x= .agg #[.string ⟨(strD (srowF x10)).toArray⟩]∧hs=[]∧
 Post (.tuple #[.agg #[.string ⟨(strD (srowF x10)).toArray⟩],.int .i64 0]) [mR b0 b1 x0 x1 x2 A0 x3 v0 v1 v2]))
theorem mt_lock(Post:PT)(x0 x1 x2 x3 x4 x5 x6:Int)(A0:Nat→Int)(v0 v1 v2:V1)(b0 b1:Nat)(h:st_lock Post x0 x1 x2 x3 x4 x5 x6 A0 v0 v1 v2 b0 b1):Meets Tryz.prog 63 [.pointer (some ⟨b0,0,none⟩),.agg #[.string ⟨(strD (srowF x4)).toArray⟩],.int .u64 x5,.int .u64 x6] [mR b0 b1 x0 x1 x2 A0 x3 v0 v1 v2] Post:=
 mtK (C:=cxG) Ia.lockA Ia.lockHp Ia.lockCnt ⟨[x0,x1,x2,x3,x4,x5,x6],[A0],[],[b0,b1],[v0,v1,v2],[],[],[]⟩ 1 Tryz.func63 (by kernel_rfl) h
def st_frame(Post:PT)(x0 x1 x2 x3 x4 x5 x6 x7:Int)(A0 A1 A2 A3 A4 A5 A6 A7 A8:Nat→Int)(v0 v1 v2:V1)(b0 b1:Nat):Prop:=
 ∀_ _ _:Nat,Cl 14 [.pointer (some ⟨b0,0,none⟩)] [mR b0 b1 x0 x1 x2 A0 x3 v0 v1 v2,hK true v1 x4 A1 A2 A3 A4 A5 A6 A7 A8] fun x hs l=> ∃(x8 x9 x10 x11 x12:Int) (A9:Nat→Int) (q0:Bool),x= .tuple #[dV A9 x8 x9 x10 x11 x12,.bool q0]∧hs=l∧
 ∀_:Nat,Fork (¬(q0=true)) (
 Post (.tuple #[.agg #[.string ⟨#[]⟩],.int .i64 6]) [mR b0 b1 x0 x1 x2 A0 x3 v0 v1 v2,hK true v1 x4 A1 A2 A3 A4 A5 A6 A7 A8]) (
 Cl 63 [.pointer (some ⟨b0,0,none⟩),.agg #[.string ⟨(strD (srowF x12)).toArray⟩],.int .u64 x5,.int .u64 x6] [mR b0 b1 x0 x1 x2 A0 x3 v0 v1 v2] fun x hs l=> ∃x13 x14:Int,x= .tuple #[.agg #[.string ⟨(strD (srowF x13)).toArray⟩],.int .i64 x14]∧hs=l∧
 ∀_:Nat,Fork (¬(x14=0)) (
 Post (.tuple #[.agg #[.string ⟨#[]⟩],.int .i64 x14]) [mR b0 b1 x0 x1 x2 A0 x3 v0 v1 v2,hK true v1 x4 A1 A2 A3 A4 A5 A6 A7 A8]) (
 ∀_ _ _:Nat,Cl 19 [.agg #[.string ⟨(strD (srowF x13)).toArray⟩],.agg #[.string ⟨(strD (srowF x7)).toArray⟩]] [] fun x hs l=> ∃x15:Int,x= .agg #[.string ⟨(strD (srowF x15)).toArray⟩]∧hs=[]∧
 Post (.tuple #[.agg #[.string ⟨(strD (srowF x15)).toArray⟩],.int .i64 0]) [mR b0 b1 x0 x1 x2 A0 x3 v0 v1 v2,hK true v1 x4 A1 A2 A3 A4 A5 A6 A7 A8]))
theorem mt_frame(Post:PT)(x0 x1 x2 x3 x4 x5 x6 x7:Int)(A0 A1 A2 A3 A4 A5 A6 A7 A8:Nat→Int)(v0 v1 v2:V1)(b0 b1:Nat)(h:st_frame Post x0 x1 x2 x3 x4 x5 x6 x7 A0 A1 A2 A3 A4 A5 A6 A7 A8 v0 v1 v2 b0 b1):Meets Tryz.prog 17 [.pointer (some ⟨b0,0,none⟩),.int .u64 x5,.int .u64 x6,.agg #[.string ⟨(strD (srowF x7)).toArray⟩]] [mR b0 b1 x0 x1 x2 A0 x3 v0 v1 v2,hK true v1 x4 A1 A2 A3 A4 A5 A6 A7 A8] Post:=
 mtK (C:=cxH) Ia.frA Ia.frHp Ia.frCnt ⟨[x0,x1,x2,x3,x4,x5,x6,x7],[A0,A1,A2,A3,A4,A5,A6,A7,A8],[],[b0,b1],[v0,v1,v2],[],[],[]⟩ 2 Tryz.func17 (by kernel_rfl) h
def st_unframe(Post:PT)(x0 x1 x2 x3 x4 x5 x6 x7 x8 x9 x10:Int)(A0 A1 A2 A3 A4 A5 A6 A7 A8:Nat→Int)(v0 v1 v2:V1)(b0 b1:Nat):Prop:=
 ∀_ _ _:Nat,Cl 27 [.pointer (some ⟨b0,0,none⟩),.agg #[.int .u8 x5,.int .u8 x6],.int .u64 x7] [mR b0 b1 x0 x1 x2 A0 x3 v0 v1 v2,hK true v1 x4 A1 A2 A3 A4 A5 A6 A7 A8] fun x hs l=> ∃x11 x12:Int,x= .tuple #[.agg #[.string ⟨(strD (srowF x11)).toArray⟩],.int .i64 x12]∧hs=l∧
 ∀_:Nat,Fork (¬(x12=0)) (
 Post (.tuple #[.agg #[.string ⟨(strD (srowF x11)).toArray⟩],.int .i64 x12]) [mR b0 b1 x0 x1 x2 A0 x3 v0 v1 v2,hK true v1 x4 A1 A2 A3 A4 A5 A6 A7 A8]) (
 Cl 63 [.pointer (some ⟨b0,0,none⟩),.agg #[.string ⟨(strD (srowF x11)).toArray⟩],.int .u64 x8,.int .u64 x9] [mR b0 b1 x0 x1 x2 A0 x3 v0 v1 v2] fun x hs l=> ∃x13 x14:Int,x= .tuple #[.agg #[.string ⟨(strD (srowF x13)).toArray⟩],.int .i64 x14]∧hs=l∧
 ∀_:Nat,Fork (¬(x14=0)) (
 Post (.tuple #[.agg #[.string ⟨(strD (srowF x13)).toArray⟩],.int .i64 x14]) [mR b0 b1 x0 x1 x2 A0 x3 v0 v1 v2,hK true v1 x4 A1 A2 A3 A4 A5 A6 A7 A8]) (
 ∀_ _ _:Nat,Cl 263 [.agg #[.string ⟨(strD (srowF x13)).toArray⟩],.agg #[.string ⟨(strD (srowF x10)).toArray⟩]] [] fun x hs l=> ∃x15 x16:Int,x= .tuple #[.agg #[.string ⟨(strD (srowF x15)).toArray⟩],.int .i64 x16]∧hs=[]∧
 Post (.tuple #[.agg #[.string ⟨(strD (srowF x15)).toArray⟩],.int .i64 x16]) [mR b0 b1 x0 x1 x2 A0 x3 v0 v1 v2,hK true v1 x4 A1 A2 A3 A4 A5 A6 A7 A8]))
theorem mt_unframe(Post:PT)(x0 x1 x2 x3 x4 x5 x6 x7 x8 x9 x10:Int)(A0 A1 A2 A3 A4 A5 A6 A7 A8:Nat→Int)(v0 v1 v2:V1)(b0 b1:Nat)(h:st_unframe Post x0 x1 x2 x3 x4 x5 x6 x7 x8 x9 x10 A0 A1 A2 A3 A4 A5 A6 A7 A8 v0 v1 v2 b0 b1):Meets Tryz.prog 20 [.pointer (some ⟨b0,0,none⟩),.agg #[.int .u8 x5,.int .u8 x6],.int .u64 x7,.int .u64 x8,.int .u64 x9,.agg #[.string ⟨(strD (srowF x10)).toArray⟩]] [mR b0 b1 x0 x1 x2 A0 x3 v0 v1 v2,hK true v1 x4 A1 A2 A3 A4 A5 A6 A7 A8] Post:=
 mtK (C:=cxI) Ia.unA Ia.frHp Ia.unCnt ⟨[x0,x1,x2,x3,x4,x5,x6,x7,x8,x9,x10],[A0,A1,A2,A3,A4,A5,A6,A7,A8],[],[b0,b1],[v0,v1,v2],[],[],[]⟩ 2 Tryz.func20 (by kernel_rfl) h
def st_head(Post:PT)(A0:Nat→Int):Prop:=
 Need (0<(A0 0)) (
 Fork (((sbyF A0) 0)=1) (
 Post (.tuple #[.int .i64 9,.int .i64 0]) []) (
 Fork (((sbyF A0) 0)=3) (
 Need (9<(A0 0)) (
 I64 ((sbyF A0) 9) ((
 Post (.tuple #[.int .i64 10,.int .i64 ((sbyF A0) 9)]) [])))) (
 Fork (((sbyF A0) 0)=5) (
 Post (.tuple #[.int .i64 1,.int .i64 1]) []) (
 Post (.tuple #[.int .i64 1,.int .i64 2]) []))))
theorem mt_head(Post:PT)(A0:Nat→Int)(h:st_head Post A0):Meets Tryz.prog 117 [.string ⟨(strD A0).toArray⟩] [] Post:=
 mtI (C:=cxJ) [.strE (.avar 0)] [] ⟨0,0,0,1,0,0,0⟩ ⟨[],[A0],[],[],[],[],[],[]⟩ Tryz.func117 (by kernel_rfl) h
def st_size(Post:PT)(A0:Nat→Int):Prop:=
 ∃(I0x0:Ext→Prop) (m0x0:Ext→Nat),(∃x0 x1:Int,x0=0∧x1=1∧I0x0 ⟨[],[],[x0,x1],[],[],[],[]⟩)∧
 ∀x0 x1:Int,I0x0 ⟨[],[],[x0,x1],[],[],[],[]⟩→
 Fork (0<x1) (
 Need (0≤x0) (
 Need (x0≤(A0 0)) (
 Cl 117 [.string ⟨(strD (updF (shiftF A0 (Int.toNat x0)) 0 ((A0 0) - x0))).toArray⟩] [] fun x hs l=> ∃x2 x3:Int,x= .tuple #[.int .i64 x2,.int .i64 x3]∧hs=[]∧
 I64 (x0+x2) ((
 I64 (x1+x3) ((
 I64 ((x1+x3) - 1) ((
 ∃x0' x1':Int,x0'=(x0+x2)∧x1'=((x1+x3) - 1)∧I0x0 ⟨[],[],[x0',x1'],[],[],[],[]⟩∧m0x0 ⟨[],[],[x0',x1'],[],[],[],[]⟩<m0x0 ⟨[],[],[x0,x1],[],[],[],[]⟩))))))))) (
 Post (.int .i64 x0) [])
theorem mt_size(Post:PT)(A0:Nat→Int)(h:st_size Post A0):Meets Tryz.prog 118 [.string ⟨(strD A0).toArray⟩] [] Post:=
 mtI (C:=cxK) [.strE (.avar 0)] [] ⟨0,0,0,1,0,0,0⟩ ⟨[],[A0],[],[],[],[],[],[]⟩ Tryz.func118 (by kernel_rfl) h
def st_opn(Post:PT)(x0 x1:Int):Prop:=
 ∀_ _ _ _:Nat,Fork (strD (srowF x1)=strD (rowLF [0])) (
 Post (.tuple #[.agg #[.string ⟨#[]⟩],.int .i64 140]) []) (
 Need (0<((srowF x1) 0)) (
 Fork (((sbyF (srowF x1)) 0)=4) (
 Cl 78 [.agg #[.string ⟨(strD (srowF x1)).toArray⟩]] [] fun x hs l=> ∃x2 x3:Int,x= .tuple #[.agg #[.string ⟨(strD (srowF x2)).toArray⟩],.agg #[.string ⟨(strD (srowF x3)).toArray⟩]]∧hs=[]∧
 ∀_ _:Nat,Fork (strD (srowF x2)=strD (srowF x0)) (
 Post (.tuple #[.agg #[.string ⟨(strD (srowF x3)).toArray⟩],.int .i64 0]) []) (
 Post (.tuple #[.agg #[.string ⟨#[]⟩],.int .i64 140]) [])) (
 Post (.tuple #[.agg #[.string ⟨#[]⟩],.int .i64 140]) [])))
theorem mt_opn(Post:PT)(x0 x1:Int)(h:st_opn Post x0 x1):Meets Tryz.prog 263 [.agg #[.string ⟨(strD (srowF x0)).toArray⟩],.agg #[.string ⟨(strD (srowF x1)).toArray⟩]] [] Post:=
 mtK (C:=cxM) [.agg [.strE (.srow (.var 0))],.agg [.strE (.srow (.var 1))]] [] ⟨0,0,2,0,0,0,0⟩ ⟨[x0,x1],[],[],[],[],[],[],[]⟩ 0 Tryz.func263 (by kernel_rfl) h
def st_two(Post:PT)(x0:Int):Prop:=
 ∀_ _ _ _ _:Nat,∀(_ _:Nat) (_:Loop),Fork (strD (srowF x0)=strD (rowLF [0])) (
 False) (
 Cl 117 [.string ⟨(strD (srowF x0)).toArray⟩] [] fun x hs l=>x= .tuple #[.int .i64 1,.int .i64 2]∧hs=[]∧
 Need (1≤((srowF x0) 0)) (
 Cl 118 [.string ⟨(strD (updF (shiftF (srowF x0) 1) 0 (((srowF x0) 0) - 1))).toArray⟩] [] fun x hs l=> ∃x1:Int,x= .int .i64 x1∧hs=[]∧
 I64 (1+x1) ((
 Need (1≤(1+x1)) (
 Need ((1+x1)≤((srowF x0) 0)) (
 ∀(_ _:Nat) (_:V1),Need (0≤(1+x1)) (
 Cl 118 [.string ⟨(strD (updF (shiftF (srowF x0) (Int.toNat (1+x1))) 0 (((srowF x0) 0) - (1+x1)))).toArray⟩] [] fun x hs l=> ∃x2:Int,x= .int .i64 x2∧hs=[]∧
 I64 ((1+x1)+x2) ((
 Need ((1+x1)≤((1+x1)+x2)) (
 Need (((1+x1)+x2)≤((srowF x0) 0)) (
 ∀(_ _:Nat) (_:V1),Post (.tuple #[.agg #[.string ⟨(strD (srowF ((fun _=>((sCode (strD (updF (shiftF (srowF x0) 1) 0 ((1+x1) - 1))):Nat):Int)) 0))).toArray⟩],.agg #[.string ⟨(strD (srowF ((fun _=>((sCode (strD (updF (shiftF (srowF x0) (Int.toNat (1+x1))) 0 (((1+x1)+x2) - (1+x1)))):Nat):Int)) 0))).toArray⟩]]) [])))))))))))
theorem mt_two(Post:PT)(x0:Int)(h:st_two Post x0):Meets Tryz.prog 78 [.agg #[.string ⟨(strD (srowF x0)).toArray⟩]] [] Post:=
 mtK (C:=cxL) [.agg [.strE (.srow (.var 0))]] [] ⟨0,0,1,0,0,0,0⟩ ⟨[x0],[],[],[],[],[],[],[]⟩ 0 Tryz.func78 (by kernel_rfl) h
end Go.RX.Ia

namespace Go.RX.Gr
open Go.RX Go.Proofs
theorem okT0:checkT Tryz.prog T0=true:=by kernel_rfl
noncomputable def cxB(l:List Nat):Ctx:={T:=T0,FT:=FT,loops:=Gr.loops,callees:=Gr.calleesBut l}
noncomputable abbrev cxT:=cxB [61]
noncomputable abbrev cxU:=cxB [62]
noncomputable abbrev cxV:=cxB [16]
noncomputable abbrev cxW:=cxB [254]
end Go.RX.Gr

namespace Go.RX.Gr
open Go.RX Go.Proofs
set_option maxRecDepth 100000
def st_build(Post:PT)(x0 x1 x2:Int)(A0 A1:Nat→Int)(v0 v1:V1):Prop:=
 ∀_ b1:Nat,Cl 104 [.pointer (some ⟨b1,0,none⟩),.int .u8 x0] [bldHP b1 234 5 (segCells .u8 0 (fun _=>0))] fun x hs l=> ∃(x3:Int) (A2:Nat→Int),x= .nilIface∧hs=[bldHP b1 234 5 (segCells .u8 (Int.toNat x3) A2)]∧
 Cl 105 [.pointer (some ⟨b1,0,none⟩),v0.v] [bldHP b1 234 5 (segCells .u8 (Int.toNat x3) A2),sliHP false 5 1 v0.v (Int.toNat x1) (tabL (Int.toNat x1) [colI .u8 1 A0])] fun x hs l=> ∃(x4 x5:Int) (A3:Nat→Int),x= .tuple #[.int .i64 x5,.nilIface]∧hs=[bldHP b1 234 5 (segCells .u8 (Int.toNat x4) A3),sliHP false 5 1 v0.v (Int.toNat x1) (tabL (Int.toNat x1) [colI .u8 1 A0])]∧
 Need (0≤x2) (
 ∃(I0x0:Ext→Prop) (m0x0:Ext→Nat),(∃(x6 x7:Int) (A4:Nat→Int),x6=0∧x7=x4∧(∀j,j<(Int.toNat x7)→A4 j=A3 j)∧I0x0 ⟨[],[],[x6,x7],[A4],[],[],[]⟩)∧
 ∀(x6 x7:Int) (A4:Nat→Int),I0x0 ⟨[],[],[x6,x7],[A4],[],[],[]⟩→
 Fork (x6<x2) (
 Need (0≤x6) (
 ∀_:Nat,Fork (strD (srowF (A1 (Int.toNat x6)))=strD (rowLF [0])) (
 Post (.agg #[.string ⟨#[]⟩]) [sliHP false 5 1 v0.v (Int.toNat x1) (tabL (Int.toNat x1) [colI .u8 1 A0]),sliHP false 33 1 v1.v (Int.toNat x2) (tabL (Int.toNat x2) [colS 1 A1])]) (
 Cl 106 [.pointer (some ⟨b1,0,none⟩),.string ⟨(strD (srowF (A1 (Int.toNat x6)))).toArray⟩] [bldHP b1 234 5 (segCells .u8 (Int.toNat x7) A4)] fun x hs l=> ∃(x8 x9:Int) (A5:Nat→Int),x= .tuple #[.int .i64 x9,.nilIface]∧hs=[bldHP b1 234 5 (segCells .u8 (Int.toNat x8) A5)]∧
 I64 (x6+1) ((
 ∃(x6' x7':Int) (A4':Nat→Int),x6'=(x6+1)∧x7'=x8∧(∀j,j<(Int.toNat x7')→A4' j=A5 j)∧I0x0 ⟨[],[],[x6',x7'],[A4'],[],[],[]⟩∧m0x0 ⟨[],[],[x6',x7'],[A4'],[],[],[]⟩<m0x0 ⟨[],[],[x6,x7],[A4],[],[],[]⟩))))) (
 Cl 107 [.pointer (some ⟨b1,0,none⟩)] [bldHP b1 234 5 (segCells .u8 (Int.toNat x7) A4)] fun x hs l=> ∃x8:Int,x= .string ⟨(strD (srowF x8)).toArray⟩∧hs=[]∧
 Post (.agg #[.string ⟨(strD (srowF x8)).toArray⟩]) [sliHP false 5 1 v0.v (Int.toNat x1) (tabL (Int.toNat x1) [colI .u8 1 A0]),sliHP false 33 1 v1.v (Int.toNat x2) (tabL (Int.toNat x2) [colS 1 A1])]))
theorem mt_build(Post:PT)(x0 x1 x2:Int)(A0 A1:Nat→Int)(v0 v1:V1)(h:st_build Post x0 x1 x2 A0 A1 v0 v1):Meets Tryz.prog 61 [.int .u8 x0,v0.v,v1.v] [sliHP false 5 1 v0.v (Int.toNat x1) (tabL (Int.toNat x1) [colI .u8 1 A0]),sliHP false 33 1 v1.v (Int.toNat x2) (tabL (Int.toNat x2) [colS 1 A1])] Post:=
 mtK (C:=cxT) Gr.buA Gr.buHp Gr.buCnt ⟨[x0,x1,x2],[A0,A1],[],[],[v0,v1],[],[],[]⟩ 2 Tryz.func61 (by kernel_rfl) h (hT:=okT0)
def st_be(Post:PT)(x0:Int):Prop:=
 ∀(b0:Nat) (_:V1) (b1:Nat) (_:V1) (b2:Nat) (_:V1) (b3:Nat) (_:V1) (b4:Nat) (_:V1) (b5:Nat) (_:V1) (b6:Nat) (_:V1) (b7:Nat) (v7:V1),Post (v7.v) [rowHP b0 true ([.int .u8 (IntKind.wrap .u8 (iop .shr .u64 x0 56))]),sliHP true 5 1 v7.v 8 (tabL 8 [colI .u8 1 (updF (updF (updF (updF (updF (updF (updF (updF (fun _=>0) 0 (IntKind.wrap .u8 (iop .shr .u64 x0 56))) 1 (IntKind.wrap .u8 (iop .shr .u64 x0 48))) 2 (IntKind.wrap .u8 (iop .shr .u64 x0 40))) 3 (IntKind.wrap .u8 (iop .shr .u64 x0 32))) 4 (IntKind.wrap .u8 (iop .shr .u64 x0 24))) 5 (IntKind.wrap .u8 (iop .shr .u64 x0 16))) 6 (IntKind.wrap .u8 (iop .shr .u64 x0 8))) 7 (IntKind.wrap .u8 (iop .shr .u64 x0 0)))]),rowHP b1 true ([.int .u8 (IntKind.wrap .u8 (iop .shr .u64 x0 48))]),rowHP b2 true ([.int .u8 (IntKind.wrap .u8 (iop .shr .u64 x0 40))]),rowHP b3 true ([.int .u8 (IntKind.wrap .u8 (iop .shr .u64 x0 32))]),rowHP b4 true ([.int .u8 (IntKind.wrap .u8 (iop .shr .u64 x0 24))]),rowHP b5 true ([.int .u8 (IntKind.wrap .u8 (iop .shr .u64 x0 16))]),rowHP b6 true ([.int .u8 (IntKind.wrap .u8 (iop .shr .u64 x0 8))]),rowHP b7 true ([.int .u8 (IntKind.wrap .u8 (iop .shr .u64 x0 0))])]
theorem mt_be(Post:PT)(x0:Int)(h:st_be Post x0):Meets Tryz.prog 62 [.int .u64 x0] [] Post:=
 mtI (C:=cxU) [.int .u64 (.var 0)] [] ⟨0,0,1,0,0,0,0⟩ ⟨[x0],[],[],[],[],[],[],[]⟩ Tryz.func62 (by kernel_rfl) h (hT:=okT0)
def st_atom(Post:PT)(x0:Int):Prop:=
 ∀_:Nat,Cl 62 [.int .u64 x0] [] fun x hs l=> ∃(v0:V1) (A0:Nat→Int),x=v0.v∧hs=[sliHP true 5 1 v0.v 8 (tabL 8 [colI .u8 1 A0])]∧
 Cl 61 [.int .u8 1,v0.v,.slice none 0 0] [sliHP true 5 1 v0.v 8 (tabL 8 [colI .u8 1 A0])] fun x hs l=> ∃x1:Int,x= .agg #[.string ⟨(strD (srowF x1)).toArray⟩]∧hs=[]∧
 Post (.agg #[.string ⟨(strD (srowF x1)).toArray⟩]) []
theorem mt_atom(Post:PT)(x0:Int)(h:st_atom Post x0):Meets Tryz.prog 16 [.int .u64 x0] [] Post:=
 mtK (C:=cxV) [.int .u64 (.var 0)] [] ⟨0,0,1,0,0,0,0⟩ ⟨[x0],[],[],[],[],[],[],[]⟩ 0 Tryz.func16 (by kernel_rfl) h (hT:=okT0)
def st_fresh(Post:PT)(x0:Int)(b0:Nat):Prop:=
 ∀_:Nat,Cl 16 [.int .u64 (IntKind.wrap .u64 ((IntKind.wrap .u64 (x0+1)) - 1))] [] fun x hs l=> ∃x1:Int,x= .agg #[.string ⟨(strD (srowF x1)).toArray⟩]∧hs=[]∧
 Post (.agg #[.string ⟨(strD (srowF x1)).toArray⟩]) [rowHP b0 true ([.int .u64 (IntKind.wrap .u64 (x0+1))])]
theorem mt_fresh(Post:PT)(x0:Int)(b0:Nat)(h:st_fresh Post x0 b0):Meets Tryz.prog 254 [.pointer (some ⟨b0,0,none⟩)] [rowHP b0 true ([.int .u64 x0])] Post:=
 mtK (C:=cxW) Gr.frA Gr.frHp Gr.frCnt ⟨[x0],[],[],[b0],[],[],[],[]⟩ 1 Tryz.func254 (by kernel_rfl) h (hT:=okT0)
end Go.RX.Gr

namespace Go.RX.Sb
open Go.Shelf Go.RowKit Go.Proofs
variable {P:Program} {ρ:Ren}
theorem wpList_append_row{w:World}{ops:Array Oper}{rest:List Oper}{o:Oper}{a:Act}{Q:Exit→Act→World→Prop}(hgd:o.guard=none)(s x:Operand)(t:TypeId)
  (ho:o.op= .call {callee:= .builtin .append,args:= #[s,x],argTypes:= #[t,t]})
  (e:TypeId) (i:TypeInfo) (z:Value) (size bytes:Nat) (ht:P.underlying t=some (.slice e)) (hi:P.info? e=some i) (hz:i.zero=some z)
  (hsize:i.size=size) (hby:i.bytes=bytes) (hzs:z.cells.size=size) (hsz:0<size)
  (v:Value) (n:Nat) (xs:List Value) (hs:a.eval s=v) (hown:w.ownsRow 0 e size v n xs)
  (ad:Addr) (m c:Nat) (news:List Value) (hx:a.eval x= .slice (some ad) m c) (hl:news.length=m*size) (hnews: ∀j u,news[j]? =some u→w.cell? (ad.add j)=some u) (h1: ∀u∈news,u.oneCell'=true)
  (h63:n+m≤maxLen) (hbytes:(n+m)*bytes≤140737488355328)
  (h: ∀v' w',w'.ownsRow 0 e size v' (n+m) (xs++news)→w.grownBy w' v.ownBlock→(v'.ownBlock=v.ownBlock∨v'.ownBlock=some w.heap.size)→wpList P ops Q rest (a.put o.dst v') w'):wpList P ops Q (o::rest) a w:=by
 refine wpList_plain hgd fun K hK=>?_
 obtain⟨v',w',hr,h2,h3,_,h5⟩:=run_append_own_at (P:=P) w 0 t o.type e i z size bytes ht hi hz hsize hby hzs hsz v n xs hown ad m c news hl hnews h1 h63 hbytes (Nat.zero_le _);unfold Oper.wp execOp;simp only [ho,resolve,invoke,builtin,Sem.run_bind,Sem.run_pure,Result.andThen_ok,List.map_toArray,List.map_cons,List.map_nil,hs,hx,hr];exact hK _ _ (h v' w' h2 h3 h5)
structure Kept (w w':World) (S S':Nat→Prop):Prop where
 same:Same w w'
 old: ∀k,k<w.heap.size→¬S k→w'.heap[k]? =w.heap[k]?
 sub: ∀k,S' k→S k∨(w.heap.size≤k∧k<w'.heap.size)
theorem setCell_same(w:World)(p:Addr)(v:Value):Same w (w.setCell p v):=⟨rfl,rfl,rfl,by simp [World.setCell]⟩
theorem setCell_size(w:World)(p:Addr)(v:Value):(w.setCell p v).heap.size=w.heap.size:=by simp [World.setCell]
theorem freeze_other(w:World)(a:Addr)(n:Nat)(k:Nat)(hk:k≠a.block):(w.freeze a n).heap[k]? =w.heap[k]? :=by
 unfold World.freeze;split
 ·rfl
 ·simp [Array.getElem?_modify,Ne.symm hk]
theorem freeze_same(w:World)(a:Addr)(n:Nat):Same w (w.freeze a n):=by
 unfold World.freeze;split
 ·exact Same.refl _
 ·exact⟨rfl,rfl,rfl,by simp⟩
theorem drew_same(w:World):Same w w.drew:=⟨rfl,rfl,rfl,Nat.le_refl _⟩
set_option maxHeartbeats 1000000 in
set_option maxRecDepth 100000 in
theorem string(L:Lays.n169 P ρ)(X:Builder.Extra P ρ)(b:Nat)(l:List UInt8)(w:World)(S:Nat→Prop)(h:(bldHP b (ρ.t 72) (ρ.t 5) (Lib.byteCells l)).p w S)(h0:l≠[]):
  Calls P (ρ.f 169) #[.pointer (some ⟨b,0,none⟩)] w fun e w'=>e= .returned (.string ⟨l.toArray⟩)∧Same w w'∧∀k,k<w.heap.size→¬S k→w'.heap[k]? =w.heap[k]? :=by
 obtain⟨p,v,hbk,_,hown,hne,hS⟩:=h;have hl0:l.length≠0:=by simpa using h0
 rw [Lib.byteCells_length]at hown;obtain⟨g,cap,cur,rfl,hbg,hg,hnc,hcm,hcs,htake⟩: ∃g cap cur,v= .slice (some ⟨g,0,none⟩) l.length cap∧0≤g∧w.heap[g]? =some (.cells cur (ρ.t 5) (0,0))∧l.length≤cap∧cap≤maxLen∧cur.size=cap*1∧cur.toList.take (l.length*1)=Lib.byteCells l:=by
  rcases hown.2 with⟨_,hz⟩ | ⟨g,cap,cur,hv,r⟩
  ·exact absurd hz hl0
  ·exact⟨g,cap,cur,hv,r⟩
 have c1:w.drew.cell? ⟨b,1,none⟩=some (.slice (some ⟨g,0,none⟩) l.length cap):=by
  have:w.drew.heap[b]? =some (.cells #[p,.slice (some ⟨g,0,none⟩) l.length cap] (ρ.t 72) (0,0)):=hbk;rw [Lib.cell_of_heap this];rfl
 have hSD:(Builtin.unsafeSliceData_ #[(ρ.t 37)] (ρ.t 127) #[.slice (some ⟨g,0,none⟩) l.length cap]).run P w.drew= .ok (.pointer (some ⟨g,0,none⟩)) w.drew:=
  Lib.run_unsafeSliceData_row _ _ _ _ _ _ (by omega)
 have hUS:(Builtin.unsafeString_ #[(ρ.t 127),(ρ.t 3)] (ρ.t 9) #[.pointer (some ⟨g,0,none⟩),.int .i64 l.length]).run P w.drew= .ok (.string ⟨l.toArray⟩) (w.drew.freeze ⟨g,0,none⟩ l.length):=by
  refine Lib.run_unsafeString_row w.drew (ρ.t 127) (ρ.t 3) (ρ.t 9) (ρ.t 5) L.t127 X.cellsByte g cur.size (by have hg':w.drew.heap[g]? =some (.cells cur (ρ.t 5) (0,0)):=hg;simp [World.shape?,hg']) l h0 (by omega) (by unfold maxLen at hcm;omega) ?_;intro j x hx;have:=hown.cells (g:=g) rfl j (.int .u8 x.toNat) (by simp [Lib.byteCells,hx]);exact this
 have mixed:=L.mixed;have t72:=L.t72;have a72:=L.a72;have z72:=L.z72;have v72:=L.v72;have u72:=run_underlying L.t72;have t70:=L.t70;have a70:=L.a70;have z70:=L.z70;have v70:=L.v70;have u70:=run_underlying L.t70;have t37:=L.t37;have a37:=L.a37;have z37:=L.z37;have v37:=L.v37;have u37:=run_underlying L.t37;have t127:=L.t127;have a127:=L.a127;have z127:=L.z127;have v127:=L.v127;have u127:=run_underlying L.t127;have t3:=L.t3;have a3:=L.a3;have z3:=L.z3;have v3:=L.v3;have u3:=run_underlying L.t3;have t9:=L.t9;have a9:=L.a9;have z9:=L.z9;have v9:=L.v9;have u9:=run_underlying L.t9;have t5:=X.t5;have a5:=X.a5;have z5:=X.z5;have v5:=X.v5;have u5:=run_underlying X.t5;have fin:Same w (w.drew.freeze ⟨g,0,none⟩ l.length)∧∀k,k<w.heap.size→¬S k→(w.drew.freeze ⟨g,0,none⟩ l.length).heap[k]? =w.heap[k]? :=
  ⟨(drew_same w).trans (freeze_same _ _ _),fun k _ hk=>(freeze_other _ _ _ k (fun e=>hk ((hS k).2 (.inr (by rw [e];rfl))))).trans rfl⟩
 go_enter L.f169,Body.n169_ntmps ρ
 go_wp2
 go_region_o
 all_goals (go_wp2;go_ret;exact⟨rfl,fin⟩)
end Go.RX.Sb

namespace Go.Proofs
open Go.Shelf
def Tryz.lays169_ren:Go.Shelf.Ren:=⟨fun | 169=>107 | n=>n,fun | 70=>232 | 9=>9 | 0=>0 | 72=>234 | 37=>127 | 127=>300 | 3=>3 | 5=>5 | n=>n,fun | n=>n⟩
theorem Tryz.lays169:Go.Proofs.Lays.n169 Tryz.prog Tryz.lays169_ren:={mixed:=by kernel_rfl,f169:=Tryz.func107.trans (congrArg some (by kernel_rfl)),t0:=Tryz.underlying0,a0:=Tryz.isAgg0,z0:=Tryz.sizeOf0,v0:=Tryz.zeroValue0,t3:=Tryz.underlying3,a3:=Tryz.isAgg3,z3:=Tryz.sizeOf3,v3:=Tryz.zeroValue3,t9:=Tryz.underlying9,a9:=Tryz.isAgg9,z9:=Tryz.sizeOf9,v9:=Tryz.zeroValue9,t37:=Tryz.underlying127,a37:=Tryz.isAgg127,z37:=Tryz.sizeOf127,v37:=Tryz.zeroValue127,t70:=Tryz.underlying232,a70:=Tryz.isAgg232,z70:=Tryz.sizeOf232,v70:=Tryz.zeroValue232,t72:=Tryz.underlying234,a72:=Tryz.isAgg234,z72:=Tryz.sizeOf234,v72:=Tryz.zeroValue234,t127:=Tryz.underlying300,a127:=Tryz.isAgg300,z127:=Tryz.sizeOf300,v127:=Tryz.zeroValue300}
theorem Tryz.Builder_Extra_169:Builder.Extra Tryz.prog Tryz.lays169_ren:={sizeBuilder:=by kernel_rfl,liesBuilder:=by kernel_rfl,t5:=Tryz.underlying5,a5:=Tryz.isAgg5,z5:=Tryz.sizeOf5,v5:=Tryz.zeroValue5,infoByte:=by kernel_rfl,cellsByte:=by kernel_rfl,sizeByte:=by kernel_rfl,neB5:=by decide}
end Go.Proofs
