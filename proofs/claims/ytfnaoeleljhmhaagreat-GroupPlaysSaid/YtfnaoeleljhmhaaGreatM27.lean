/- What the executor is told of the chapter's rows (known): each member is one abstract part of memory. · The chapter's rows: the executor's contexts. · The group's functions: what is left to be shown; printed by a program of ours (wip/tools/g10.lean). · Terms and frames: the executor's contexts. · The group's functions: what is left to be shown; printed by a program of ours (wip/tools/g9.lean). · Terms that are built: the executor's contexts. · The group's functions: what is left to be shown; printed by a program of ours (wip/tools/g4.lean). -/
import Derived.Test.YtfnaoeleljhmhaaGreatM26

namespace Go.RX.Ja
open Go.RX Go.RX.Gb Go.RX.Gf Go.RX.Gu Go.RX.He Go.RX.Hi
def nthAbs(k:Nat)(hp:List Ck):List Nat:=match ((List.range hp.length).filter fun i=>match hp[i]? with | some x=>isAbs x | none=>false)[k]? with | some i=>[i] | none=>[]
def useMe(az:List SV)(hp:List Ck):List Nat:=match az with | .ptr b _::_=>nthAbs b hp | _=>[]
def twoCall:CallAnn:={use:=fun _ _=>[],inc:={b:=2,p:=2,v:=1,i:=2,a:=3},val:=fun c=> .tup [.ptr c.b 0,.ptr (c.b+1) 0,ros c.i c.a c.v],new:=fun c h=>h++[.abs c.p,.abs (c.p+1),memOK c.v (c.i+1) (c.a+1)]}
def ownCall:CallAnn:={use:=useMe,inc:={i:=5,a:=1,bo:=1},val:=fun c=> .tup [distR c.i c.a,.bool (.var c.bo)],new:=fun _ h=>h}
def entCall:CallAnn:={use:=fun az hp=>useMe az hp++useRR (az.drop 1) hp,inc:={p:=1,v:=1,i:=2,a:=8},val:=fun c=> .tup [.vv c.v,i64 c.i],new:=fun c h=>match h with | [_,r]=>[.abs c.p,r,outK c.v (c.i+1) c.a] | l=>l}
def takeCall:CallAnn:={use:=useMe,inc:={p:=1,i:=1},val:=fun c=>i64 c.i,new:=fun c _=>[.abs c.p]}
def tmErr:CallAnn:={use:=useMe,inc:={i:=2},val:=fun c=> .tup [.agg [tm c.i],i64 (c.i+1)],new:=fun _ h=>h}
def callees(f:Nat):Option CallAnn:=
 match f with
 | 9=>some entCall
 | 11=>some takeCall
 | 14=>some ownCall
 | 16=>some Gl.atomCall
 | 17=>some tmErr
 | 20=>some tmErr
 | 27=>some tmErr
 | 38=>some twoCall
 | _=>none
def callees2(f:Nat):Option CallAnn:=
 match f with
 | 7=>some symCall
 | 8=>some newCall
 | _=>none
end Go.RX.Ja

namespace Go.RX.Ja
open Go.RX Go.Proofs
noncomputable def cxK:Ctx:={T:=TT,FT:=FT,callees:=Ja.callees}
noncomputable def cxT:Ctx:={T:=TT,FT:=FT,callees:=Ja.callees2}
end Go.RX.Ja

namespace Go.RX.Ja
open Go.RX Go.Proofs Go.RX.Gb
set_option maxRecDepth 100000
def st_known(Post:PT):Prop:=
 Cl 38 [] [] fun x hs l=> ∃(b0 b1:Nat) (v0:V1) (x0 x1:Int) (A0 A1 A2:Nat→Int),∃p0:HP,∃p1:HP,x= .tuple #[.pointer (some ⟨b0,0,none⟩),.pointer (some ⟨b1,0,none⟩),.agg (List.append (segCells .u8 16 A0) ([.int .u64 x0,v0.v])).toArray]∧hs=[p0,p1,dK true v0 x1 A1 A2]∧
 ∀_:Nat,Cl 9 [.pointer (some ⟨b0,0,none⟩),.agg (List.append (segCells .u8 16 A0) ([.int .u64 x0,v0.v])).toArray,.int .u64 5] [p0,dK true v0 x1 A1 A2] fun x hs l=> ∃(v1:V1) (x2 x3:Int) (A3 A4 A5 A6 A7 A8 A9 A10:Nat→Int),∃p2:HP,x= .tuple #[v1.v,.int .i64 x2]∧hs=[p2,dK true v0 x1 A1 A2,oK true v1 x3 A3 A4 A5 A6 A7 A8 A9 A10]∧
 Cl 14 [.pointer (some ⟨b0,0,none⟩)] [p2] fun x hs l=> ∃(x4 x5 x6 x7 x8:Int) (A11:Nat→Int) (q0:Bool),x= .tuple #[dV A11 x4 x5 x6 x7 x8,.bool q0]∧hs=l∧
 ∀_:Nat,Need (0≤x3) (
 Need ((((¬(x3=1))∨(¬(x2=0)))∨(¬(q0=true)))∨(0<x3)) (
 Need ((((¬(x3=1))∨(¬(x2=0)))∨(¬(q0=true)))∨(0<x3)) (
 Need ((((¬(x3=1))∨(¬(x2=0)))∨(¬(q0=true)))∨(0<x3)) (
 Fork (¬(((¬(x3=1))∨(¬(x2=0)))∨(¬(q0=true)))) (
 ∀_:Nat,Need ((¬(((A3 0)=0)∧((A4 0)=1)))∨(0<x3)) (
 Need ((¬(((A3 0)=0)∧((A4 0)=1)))∨(0<x3)) (
 Need ((¬(((A3 0)=0)∧((A4 0)=1)))∨(0<x3)) (
 Fork (¬(((¬(((A3 0)=0)∧((A4 0)=1)))∨(¬((∀j,j<16→A5 j=A11 j)∧(((A6 0)=x4)∧(((A7 0)=x5)∧(((A8 0)=x6)∧(((A9 0)=x7)∧(strD (srowF (A10 0))=strD (srowF x8)))))))))∨(¬(x7=64)))) (
 Cl 16 [.int .u64 4294967296] [] fun x hs l=> ∃x9:Int,x= .agg #[.string ⟨(strD (srowF x9)).toArray⟩]∧hs=[]∧
 Fork (¬(strD (srowF x8)=strD (srowF x9))) (
 Post (.bool false) []) (
 Cl 11 [.pointer (some ⟨b1,0,none⟩),dV A11 x4 x5 x6 x7 x8] [p1] fun x hs l=> ∃x10:Int,∃p3:HP,x= .int .i64 x10∧hs=[p3]∧
 Fork (¬(x10=0)) (
 Post (.bool false) []) (
 Cl 9 [.pointer (some ⟨b1,0,none⟩),.agg (List.append (segCells .u8 16 A0) ([.int .u64 x0,v0.v])).toArray,.int .u64 5] [p3,dK true v0 x1 A1 A2] fun x hs l=> ∃(v2:V1) (x11 x12:Int) (A12 A13 A14 A15 A16 A17 A18 A19:Nat→Int),∃p4:HP,x= .tuple #[v2.v,.int .i64 x11]∧hs=[p4,dK true v0 x1 A1 A2,oK true v2 x12 A12 A13 A14 A15 A16 A17 A18 A19]∧
 ∀_:Nat,Cl 27 [.pointer (some ⟨b1,0,none⟩),.agg #[.int .u8 0,.int .u8 0],.int .u64 2] [p4] fun x hs l=> ∃x13 x14:Int,x= .tuple #[.agg #[.string ⟨(strD (srowF x13)).toArray⟩],.int .i64 x14]∧hs=l∧
 ∀_ _:Nat,Cl 16 [.int .u64 1] [] fun x hs l=> ∃x15:Int,x= .agg #[.string ⟨(strD (srowF x15)).toArray⟩]∧hs=[]∧
 ∀_:Nat,Cl 27 [.pointer (some ⟨b1,0,none⟩),.agg #[.int .u8 0,.int .u8 0],.int .u64 1] [p4] fun x hs l=> ∃x16 x17:Int,x= .tuple #[.agg #[.string ⟨(strD (srowF x16)).toArray⟩],.int .i64 x17]∧hs=l∧
 ∀_ _:Nat,Cl 27 [.pointer (some ⟨b1,0,none⟩),.agg #[.int .u8 0,.int .u8 2],.int .u64 2] [p4] fun x hs l=> ∃x18 x19:Int,x= .tuple #[.agg #[.string ⟨(strD (srowF x18)).toArray⟩],.int .i64 x19]∧hs=l∧
 ∀_:Nat,Fork (¬(((¬(x11=0))∨(¬(strD (srowF x13)=strD (srowF x8))))∨(¬(x14=0)))) (
 Cl 11 [.pointer (some ⟨b1,0,none⟩),dV A11 x4 x5 x6 x7 x15] [p4] fun x hs l=> ∃x20:Int,∃p5:HP,x= .int .i64 x20∧hs=[p5]∧
 Fork (((¬(x20=6))∨(¬(x17=241)))∨(¬(x19=240))) (
 Post (.bool false) []) (
 Cl 16 [.int .u64 9] [] fun x hs l=> ∃x21:Int,x= .agg #[.string ⟨(strD (srowF x21)).toArray⟩]∧hs=[]∧
 Cl 17 [.pointer (some ⟨b0,0,none⟩),.int .u64 2,.int .u64 7,.agg #[.string ⟨(strD (srowF x21)).toArray⟩]] [p2] fun x hs l=> ∃x22 x23:Int,x= .tuple #[.agg #[.string ⟨(strD (srowF x22)).toArray⟩],.int .i64 x23]∧hs=l∧
 ∀_:Nat,(∀_:Nat,(Cl 20 [.pointer (some ⟨b1,0,none⟩),.agg #[.int .u8 0,.int .u8 0],.int .u64 2,.int .u64 2,.int .u64 7,.agg #[.string ⟨(strD (srowF x22)).toArray⟩]] [p5] fun x hs l=> ∃x24 x25:Int,x= .tuple #[.agg #[.string ⟨(strD (srowF x24)).toArray⟩],.int .i64 x25]∧hs=l∧
 ∀_ _:Nat,Cl 20 [.pointer (some ⟨b1,0,none⟩),.agg #[.int .u8 0,.int .u8 0],.int .u64 2,.int .u64 2,.int .u64 8,.agg #[.string ⟨(strD (srowF x22)).toArray⟩]] [p5] fun x hs l=> ∃x26 x27:Int,x= .tuple #[.agg #[.string ⟨(strD (srowF x26)).toArray⟩],.int .i64 x27]∧hs=l∧
 ∀_ _ _ _ _ _ _ _ _ _:Nat,Fork (x23=0) (
 Cl 16 [.int .u64 9] [] fun x hs l=> ∃x28:Int,x= .agg #[.string ⟨(strD (srowF x28)).toArray⟩]∧hs=[]∧
 Fork (((strD (srowF x24)=strD (srowF x28))∧(x25=0))∧(x27=140)) (
 ∀_ _ _:Nat,Post (.bool true) []) (
 Post (.bool false) [])) (
 Post (.bool false) []))∧
 (∀_:Nat,Cl 20 [.pointer (some ⟨b1,0,none⟩),.agg #[.int .u8 0,.int .u8 0],.int .u64 2,.int .u64 2,.int .u64 7,.agg #[.string ⟨(strD (srowF x22)).toArray⟩]] [p5] fun x hs l=> ∃x24 x25:Int,x= .tuple #[.agg #[.string ⟨(strD (srowF x24)).toArray⟩],.int .i64 x25]∧hs=l∧
 ∀_:Nat,Cl 20 [.pointer (some ⟨b1,0,none⟩),.agg #[.int .u8 0,.int .u8 0],.int .u64 2,.int .u64 2,.int .u64 8,.agg #[.string ⟨(strD (srowF x22)).toArray⟩]] [p5] fun x hs l=> ∃x26 x27:Int,x= .tuple #[.agg #[.string ⟨(strD (srowF x26)).toArray⟩],.int .i64 x27]∧hs=l∧
 ∀_ _ _ _ _ _ _ _ _ _:Nat,Fork (x23=0) (
 Cl 16 [.int .u64 9] [] fun x hs l=> ∃x28:Int,x= .agg #[.string ⟨(strD (srowF x28)).toArray⟩]∧hs=[]∧
 Fork (((strD (srowF x24)=strD (srowF x28))∧(x25=0))∧(x27=140)) (
 ∀_ _ _:Nat,Post (.bool true) []) (
 Post (.bool false) [])) (
 Post (.bool false) [])))∧
 (∀_ _:Nat,Cl 20 [.pointer (some ⟨b1,0,none⟩),.agg #[.int .u8 0,.int .u8 0],.int .u64 2,.int .u64 2,.int .u64 7,.agg #[.string ⟨(strD (srowF x22)).toArray⟩]] [p5] fun x hs l=> ∃x24 x25:Int,x= .tuple #[.agg #[.string ⟨(strD (srowF x24)).toArray⟩],.int .i64 x25]∧hs=l∧
 ∀_:Nat,Cl 20 [.pointer (some ⟨b1,0,none⟩),.agg #[.int .u8 0,.int .u8 0],.int .u64 2,.int .u64 2,.int .u64 8,.agg #[.string ⟨(strD (srowF x22)).toArray⟩]] [p5] fun x hs l=> ∃x26 x27:Int,x= .tuple #[.agg #[.string ⟨(strD (srowF x26)).toArray⟩],.int .i64 x27]∧hs=l∧
 ∀_ _ _ _ _ _ _ _ _ _:Nat,Fork (x23=0) (
 Cl 16 [.int .u64 9] [] fun x hs l=> ∃x28:Int,x= .agg #[.string ⟨(strD (srowF x28)).toArray⟩]∧hs=[]∧
 Fork (((strD (srowF x24)=strD (srowF x28))∧(x25=0))∧(x27=140)) (
 ∀_ _ _:Nat,Post (.bool true) []) (
 Post (.bool false) [])) (
 Post (.bool false) [])))) (
 Post (.bool false) [])))) (
 Post (.bool false) []))))) (
 Post (.bool false) [])))))
theorem mt_known(Post:PT)(h:st_known Post):Meets Tryz.prog 6 [] [] Post:=
 mtK (C:=cxK) [] [] ⟨0,0,0,0,0,0,0⟩ ⟨[],[],[],[],[],[],[],[]⟩ 0 Tryz.func6 (by kernel_rfl) h
def st_twoM(Post:PT):Prop:=
 ∀b0 b1 b2 b3:Nat,Cl 7 [.int .u64 4294967296] [] fun x hs l=> ∃(b4:Nat) (x0:Int),x=(.iface 135 (.pointer (some ⟨b4,0,none⟩)))∧hs=[rowHP b4 true ([.int .u64 x0])]∧
 ∀b5:Nat,Cl 8 [(.iface 135 (.pointer (some ⟨b4,0,none⟩))),.agg #[.int .u8 0,.int .u8 0]] [rowHP b4 true ([.int .u64 x0])] fun x hs l=> ∃b6:Nat,∃p0:HP,x= .pointer (some ⟨b6,0,none⟩)∧hs=[p0]∧
 Cl 7 [.int .u64 8589934592] [] fun x hs l=> ∃(b7:Nat) (x1:Int),x=(.iface 135 (.pointer (some ⟨b7,0,none⟩)))∧hs=[rowHP b7 true ([.int .u64 x1])]∧
 ∀b8:Nat,Cl 8 [(.iface 135 (.pointer (some ⟨b7,0,none⟩))),.agg #[.int .u8 0,.int .u8 1]] [rowHP b7 true ([.int .u64 x1])] fun x hs l=> ∃b9:Nat,∃p1:HP,x= .pointer (some ⟨b9,0,none⟩)∧hs=[p1]∧
 Post (.tuple #[.pointer (some ⟨b6,0,none⟩),.pointer (some ⟨b9,0,none⟩),.agg (.int .u8 1::(List.append (segCells .u8 15 (fun _=>0)) ([.int .u64 2,.slice (some ⟨b3,0,none⟩) 2 2]))).toArray]) [rowHP b0 true (.int .u8 1::(List.append (segCells .u8 15 (fun _=>0)) ([.int .u64 2,.slice (some ⟨b3,0,none⟩) 2 2]))),rowHP b1 true ([.int .u8 0,.int .u8 0]),rowHP b2 true ([.int .u8 0,.int .u8 1]),rowHP b3 true ([.int .u8 0,.int .u8 0,.int .u8 0,.int .u8 1]),p0,rowHP b5 true ([.int .u8 0,.int .u8 0]),p1,rowHP b8 true ([.int .u8 0,.int .u8 1])]
theorem mt_twoM(Post:PT)(h:st_twoM Post):Meets Tryz.prog 38 [] [] Post:=
 mtI (C:=cxT) [] [] ⟨0,0,0,0,0,0,0⟩ ⟨[],[],[],[],[],[],[],[]⟩ Tryz.func38 (by kernel_rfl) h
end Go.RX.Ja

namespace Go.RX.Ia
open Go.RX Go.Proofs
noncomputable def cxB'(l:List Nat):Ctx:={T:=TT,FT:=FT,loops:=Ia.loops,callees:=Ia.calleesBut l}
noncomputable abbrev cxA:=cxB' [261]
noncomputable abbrev cxB:=cxB' [255]
noncomputable abbrev cxC:=cxB' [262]
noncomputable abbrev cxD:=cxB' [256]
noncomputable abbrev cxE:=cxB' [19]
noncomputable abbrev cxF:=cxB' [18]
noncomputable abbrev cxG:=cxB' [63]
noncomputable abbrev cxH:=cxB' [17]
noncomputable abbrev cxI:=cxB' [20]
noncomputable abbrev cxJ:=cxB' [117]
noncomputable abbrev cxK:=cxB' [118]
noncomputable abbrev cxM:=cxB' [263]
noncomputable def cxL:Ctx:={T:=TT,FT:=FT,loops:=Ia.loops,callees:=Ia.callees2}
end Go.RX.Ia

namespace Go.RX.Ia
open Go.RX Go.Proofs Go.RX.Gb
set_option maxRecDepth 100000
def st_hash(Post:PT)(x0 x1:Int)(A0:Nat→Int)(v0:V1):Prop:=
 ∀_:Nat,Need (0≤x1) (
 Fork (255<x1) (
 Post (.agg #[.string ⟨#[]⟩]) []) (
 Cl 62 [.int .u64 (IntKind.wrap .u64 x0)] [] fun x hs l=> ∃(v1:V1) (A1:Nat→Int),x=v1.v∧hs=[sliHP true 5 1 v1.v 8 (tabL 8 [colI .u8 1 A1])]∧
 ∀(_:Nat) (v2:V1),Cl 61 [.int .u8 3,v2.v,v0.v] [sliHP true 5 1 v2.v 9 (tabL 9 [colI .u8 1 (updF A1 8 (IntKind.wrap .u8 x1))]),sliHP false 33 1 v0.v (Int.toNat x1) (tabL (Int.toNat x1) [colS 1 A0])] fun x hs l=> ∃x2:Int,x= .agg #[.string ⟨(strD (srowF x2)).toArray⟩]∧hs=[]∧
 Post (.agg #[.string ⟨(strD (srowF x2)).toArray⟩]) []))
theorem mt_hash(Post:PT)(x0 x1:Int)(A0:Nat→Int)(v0:V1)(h:st_hash Post x0 x1 A0 v0):Meets Tryz.prog 261 [.int .u8 x0,v0.v] [sliHP false 33 1 v0.v (Int.toNat x1) (tabL (Int.toNat x1) [colS 1 A0])] Post:=
 mtK (C:=cxA) Ia.hashA Ia.hashHp Ia.hashCnt ⟨[x0,x1],[A0],[],[],[v0],[],[],[]⟩ 0 Tryz.func261 (by kernel_rfl) h
def st_shash(Post:PT)(x0 x1:Int)(A0:Nat→Int)(_:V1)(_:Nat):Prop:=
 ∀_:Nat,Cl 261 [.int .u8 1,.slice none 0 0] [] fun x hs l=> ∃x2:Int,x= .agg #[.string ⟨(strD (srowF x2)).toArray⟩]∧hs=[]∧
 ∀_:Nat,Need (0≤x1) (
 Need (0≤x1) (
 U47 ((1+x1)*16) (
 ∀v1:V1,Cl 261 [.int .u8 x0,v1.v] [sliHP true 33 1 v1.v (Int.toNat (1+x1)) (tabL (Int.toNat (1+x1)) [colS 1 (splF (updF (fun _=>0) 0 x2) 1 (Int.toNat x1) A0)])] fun x hs l=> ∃x3:Int,x= .agg #[.string ⟨(strD (srowF x3)).toArray⟩]∧hs=[]∧
 Post (.agg #[.string ⟨(strD (srowF x3)).toArray⟩]) [])))
theorem mt_shash(Post:PT)(x0 x1:Int)(A0:Nat→Int)(v0:V1)(b0:Nat)(h:st_shash Post x0 x1 A0 v0 b0):Meets Tryz.prog 255 [.pointer (some ⟨b0,0,none⟩),.int .u8 x0,v0.v] [sliHP false 33 1 v0.v (Int.toNat x1) (tabL (Int.toNat x1) [colS 1 A0])] Post:=
 mtK (C:=cxB) Ia.shashA Ia.hashHp Ia.shashCnt ⟨[x0,x1],[A0],[],[b0],[v0],[],[],[]⟩ 0 Tryz.func255 (by kernel_rfl) h
def st_abe(Post:PT)(x0:Int):Prop:=
 ∀(b0:Nat) (_:V1) (b1:Nat) (_:V1) (b2:Nat) (_:V1) (b3:Nat) (_:V1) (b4:Nat) (_:V1) (b5:Nat) (_:V1) (b6:Nat) (_:V1) (b7:Nat) (v7:V1),Post (v7.v) [rowHP b0 true ([.int .u8 (IntKind.wrap .u8 (iop .shr .u64 x0 56))]),sliHP true 5 1 v7.v 8 (tabL 8 [colI .u8 1 (updF (updF (updF (updF (updF (updF (updF (updF (fun _=>0) 0 (IntKind.wrap .u8 (iop .shr .u64 x0 56))) 1 (IntKind.wrap .u8 (iop .shr .u64 x0 48))) 2 (IntKind.wrap .u8 (iop .shr .u64 x0 40))) 3 (IntKind.wrap .u8 (iop .shr .u64 x0 32))) 4 (IntKind.wrap .u8 (iop .shr .u64 x0 24))) 5 (IntKind.wrap .u8 (iop .shr .u64 x0 16))) 6 (IntKind.wrap .u8 (iop .shr .u64 x0 8))) 7 (IntKind.wrap .u8 (iop .shr .u64 x0 0)))]),rowHP b1 true ([.int .u8 (IntKind.wrap .u8 (iop .shr .u64 x0 48))]),rowHP b2 true ([.int .u8 (IntKind.wrap .u8 (iop .shr .u64 x0 40))]),rowHP b3 true ([.int .u8 (IntKind.wrap .u8 (iop .shr .u64 x0 32))]),rowHP b4 true ([.int .u8 (IntKind.wrap .u8 (iop .shr .u64 x0 24))]),rowHP b5 true ([.int .u8 (IntKind.wrap .u8 (iop .shr .u64 x0 16))]),rowHP b6 true ([.int .u8 (IntKind.wrap .u8 (iop .shr .u64 x0 8))]),rowHP b7 true ([.int .u8 (IntKind.wrap .u8 (iop .shr .u64 x0 0))])]
theorem mt_abe(Post:PT)(x0:Int)(h:st_abe Post x0):Meets Tryz.prog 262 [.int .u64 x0] [] Post:=
 mtI (C:=cxC) [.int .u64 (.var 0)] [] ⟨0,0,1,0,0,0,0⟩ ⟨[x0],[],[],[],[],[],[],[]⟩ Tryz.func262 (by kernel_rfl) h
def st_num(Post:PT)(x0:Int)(_:Nat):Prop:=
 ∀_:Nat,Cl 262 [.int .u64 x0] [] fun x hs l=> ∃(v0:V1) (A0:Nat→Int),x=v0.v∧hs=[sliHP true 5 1 v0.v 8 (tabL 8 [colI .u8 1 A0])]∧
 ∃(I0x0:Ext→Prop) (m0x0:Ext→Nat),(∃(v2:V1) (x1 x2:Int) (A1:Nat→Int),x1=0∧v2=(⟨.slice none 0 0,rfl⟩:V1)∧v2=(⟨.slice none 0 0,rfl⟩:V1)∧x2=0∧(∀j,j<(Int.toNat x2)→A1 j=(fun _=>0) j)∧I0x0 ⟨[],[v2],[x1,x2],[A1],[],[],[]⟩)∧
 ∀(v2:V1) (x1 x2:Int) (A1:Nat→Int),I0x0 ⟨[],[v2],[x1,x2],[A1],[],[],[]⟩→
 Fork (x1<8) (
 Need (0≤x1) (
 Cl 261 [.int .u8 (A0 (Int.toNat x1)),.slice none 0 0] [] fun x hs l=> ∃x3:Int,x= .agg #[.string ⟨(strD (srowF x3)).toArray⟩]∧hs=[]∧
 ∀_:Nat,Need (0≤x2) (
 U47 ((x2+1)*16) (
 ∀v3:V1,I64 (x1+1) ((
 ∃(v2':V1) (x1' x2':Int) (A1':Nat→Int),x1'=(x1+1)∧v2'=v3∧v2'=v3∧x2'=(x2+1)∧(∀j,j<(Int.toNat x2')→A1' j=(updF A1 (Int.toNat x2) x3) j)∧I0x0 ⟨[],[v2'],[x1',x2'],[A1'],[],[],[]⟩∧m0x0 ⟨[],[v2'],[x1',x2'],[A1'],[],[],[]⟩<m0x0 ⟨[],[v2],[x1,x2],[A1],[],[],[]⟩)))))) (
 Cl 261 [.int .u8 0,v2.v] [sliHP true 33 1 v2.v (Int.toNat x2) (tabL (Int.toNat x2) [colS 1 A1])] fun x hs l=> ∃x3:Int,x= .agg #[.string ⟨(strD (srowF x3)).toArray⟩]∧hs=[]∧
 Post (.agg #[.string ⟨(strD (srowF x3)).toArray⟩]) [])
theorem mt_num(Post:PT)(x0:Int)(b0:Nat)(h:st_num Post x0 b0):Meets Tryz.prog 256 [.pointer (some ⟨b0,0,none⟩),.int .u64 x0] [] Post:=
 mtK (C:=cxD) [.ptr 0 0,.int .u64 (.var 0)] [] ⟨1,0,1,0,0,0,0⟩ ⟨[x0],[],[],[b0],[],[],[],[]⟩ 0 Tryz.func256 (by kernel_rfl) h
def st_seal(Post:PT)(x0 x1:Int):Prop:=
 ∀_ _ _ b3:Nat,Cl 61 [.int .u8 4,.slice none 0 0,.slice (some ⟨b3,0,none⟩) 2 2] [rowHP b3 true ([.string ⟨(strD (srowF x0)).toArray⟩,.string ⟨(strD (srowF x1)).toArray⟩])] fun x hs l=> ∃x2:Int,x= .agg #[.string ⟨(strD (srowF x2)).toArray⟩]∧hs=[]∧
 Post (.agg #[.string ⟨(strD (srowF x2)).toArray⟩]) []
theorem mt_seal(Post:PT)(x0 x1:Int)(h:st_seal Post x0 x1):Meets Tryz.prog 19 [.agg #[.string ⟨(strD (srowF x0)).toArray⟩],.agg #[.string ⟨(strD (srowF x1)).toArray⟩]] [] Post:=
 mtK (C:=cxE) [.agg [.strE (.srow (.var 0))],.agg [.strE (.srow (.var 1))]] [] ⟨0,0,2,0,0,0,0⟩ ⟨[x0,x1],[],[],[],[],[],[],[]⟩ 0 Tryz.func19 (by kernel_rfl) h
def st_step(Post:PT)(x0 x1:Int)(b0:Nat):Prop:=
 ∀_ _ _:Nat,Fork (64<x1) (
 Post (.tuple #[.agg #[.string ⟨#[]⟩],.int .i64 5]) []) (
 ∃(I0x2:Ext→Prop) (m0x2:Ext→Nat),(∃x2 x3:Int,x2=0∧((srowF x3)=(srowF x0))∧I0x2 ⟨[],[],[x2,x3],[],[],[],[]⟩)∧
 ∀x2 x3:Int,I0x2 ⟨[],[],[x2,x3],[],[],[],[]⟩→
 Fork (x2<x1) (
 ∀b4:Nat,Cl 255 [.pointer (some ⟨b0,0,none⟩),.int .u8 10,.slice (some ⟨b4,0,none⟩) 1 1] [rowHP b4 true ([.string ⟨(strD (srowF x3)).toArray⟩])] fun x hs l=> ∃x4:Int,x= .agg #[.string ⟨(strD (srowF x4)).toArray⟩]∧hs=[]∧
 ∃x2' x3':Int,x2'=(IntKind.wrap .u64 (x2+1))∧((srowF x3')=(srowF x4))∧I0x2 ⟨[],[],[x2',x3'],[],[],[],[]⟩∧m0x2 ⟨[],[],[x2',x3'],[],[],[],[]⟩<m0x2 ⟨[],[],[x2,x3],[],[],[],[]⟩) (
 Post (.tuple #[.agg #[.string ⟨(strD (srowF x3)).toArray⟩],.int .i64 0]) []))
theorem mt_step(Post:PT)(x0 x1:Int)(b0:Nat)(h:st_step Post x0 x1 b0):Meets Tryz.prog 18 [(.iface 135 (.pointer (some ⟨b0,0,none⟩))),.agg #[.string ⟨(strD (srowF x0)).toArray⟩],.int .u64 x1] [] Post:=
 mtK (C:=cxF) [.ifp 135 0 0,.agg [.strE (.srow (.var 0))],.int .u64 (.var 1)] [] ⟨1,0,2,0,0,0,0⟩ ⟨[x0,x1],[],[],[b0],[],[],[],[]⟩ 0 Tryz.func18 (by kernel_rfl) h
def st_lock(Post:PT)(x0 x1 x2 x3 x4 x5 x6:Int)(A0:Nat→Int)(v0 v1 v2:V1)(b0 b1:Nat):Prop:=
 ∀_ _:Nat,(Cl 18 [(.iface 135 (.pointer (some ⟨b1,0,none⟩))),.agg #[.string ⟨(strD (srowF x4)).toArray⟩],.int .u64 x5] [] fun x hs l=> ∃x7 x8:Int,x= .tuple #[.agg #[.string ⟨(strD (srowF x7)).toArray⟩],.int .i64 x8]∧hs=[]∧
 ∀_:Nat,Fork (¬(x8=0)) (
 Post (.tuple #[.agg #[.string ⟨(strD (srowF x7)).toArray⟩],.int .i64 x8]) [mR b0 b1 x0 x1 x2 A0 x3 v0 v1 v2]) (
 Cl 256 [.pointer (some ⟨b1,0,none⟩),.int .u64 x6] [] fun x hs l=> ∃x9:Int,x= .agg #[.string ⟨(strD (srowF x9)).toArray⟩]∧hs=[]∧
 ∀b5:Nat,Cl 255 [.pointer (some ⟨b1,0,none⟩),.int .u8 11,.slice (some ⟨b5,0,none⟩) 2 2] [rowHP b5 true ([.string ⟨(strD (srowF x7)).toArray⟩,.string ⟨(strD (srowF x9)).toArray⟩])] fun x hs l=> ∃x10:Int,x= .agg #[.string ⟨(strD (srowF x10)).toArray⟩]∧hs=[]∧
 Post (.tuple #[.agg #[.string ⟨(strD (srowF x10)).toArray⟩],.int .i64 0]) [mR b0 b1 x0 x1 x2 A0 x3 v0 v1 v2]))∧
 (∀_:Nat,Cl 18 [(.iface 135 (.pointer (some ⟨b1,0,none⟩))),.agg #[.string ⟨(strD (srowF x4)).toArray⟩],.int .u64 x5] [] fun x hs l=> ∃x7 x8:Int,x= .tuple #[.agg #[.string ⟨(strD (srowF x7)).toArray⟩],.int .i64 x8]∧hs=[]∧
 Fork (¬(x8=0)) (
 Post (.tuple #[.agg #[.string ⟨(strD (srowF x7)).toArray⟩],.int .i64 x8]) [mR b0 b1 x0 x1 x2 A0 x3 v0 v1 v2]) (
 Cl 256 [.pointer (some ⟨b1,0,none⟩),.int .u64 x6] [] fun x hs l=> ∃x9:Int,x= .agg #[.string ⟨(strD (srowF x9)).toArray⟩]∧hs=[]∧
 ∀b5:Nat,Cl 255 [.pointer (some ⟨b1,0,none⟩),.int .u8 11,.slice (some ⟨b5,0,none⟩) 2 2] [rowHP b5 true ([.string ⟨(strD (srowF x7)).toArray⟩,.string ⟨(strD (srowF x9)).toArray⟩])] fun x hs l=> ∃x10:Int,x= .agg #[.string ⟨(strD (srowF x10)).toArray⟩]∧hs=[]∧
 Post (.tuple #[.agg #[.string ⟨(strD (srowF x10)).toArray⟩],.int .i64 0]) [mR b0 b1 x0 x1 x2 A0 x3 v0 v1 v2]))
theorem mt_lock(Post:PT)(x0 x1 x2 x3 x4 x5 x6:Int)(A0:Nat→Int)(v0 v1 v2:V1)(b0 b1:Nat)(h:st_lock Post x0 x1 x2 x3 x4 x5 x6 A0 v0 v1 v2 b0 b1):Meets Tryz.prog 63 [.pointer (some ⟨b0,0,none⟩),.agg #[.string ⟨(strD (srowF x4)).toArray⟩],.int .u64 x5,.int .u64 x6] [mR b0 b1 x0 x1 x2 A0 x3 v0 v1 v2] Post:=
 mtK (C:=cxG) Ia.lockA Ia.lockHp Ia.lockCnt ⟨[x0,x1,x2,x3,x4,x5,x6],[A0],[],[b0,b1],[v0,v1,v2],[],[],[]⟩ 1 Tryz.func63 (by kernel_rfl) h
def st_frame(Post:PT)(x0 x1 x2 x3 x4 x5 x6 x7:Int)(A0 A1 A2 A3 A4 A5 A6 A7 A8:Nat→Int)(v0 v1 v2:V1)(b0 b1:Nat):Prop:=
 ∀_ _ _:Nat,Cl 14 [.pointer (some ⟨b0,0,none⟩)] [mR b0 b1 x0 x1 x2 A0 x3 v0 v1 v2,hK true v1 x4 A1 A2 A3 A4 A5 A6 A7 A8] fun x hs l=> ∃(x8 x9 x10 x11 x12:Int) (A9:Nat→Int) (q0:Bool),x= .tuple #[dV A9 x8 x9 x10 x11 x12,.bool q0]∧hs=l∧
 ∀_:Nat,Fork (¬(q0=true)) (
 Post (.tuple #[.agg #[.string ⟨#[]⟩],.int .i64 6]) [mR b0 b1 x0 x1 x2 A0 x3 v0 v1 v2,hK true v1 x4 A1 A2 A3 A4 A5 A6 A7 A8]) (
 Cl 63 [.pointer (some ⟨b0,0,none⟩),.agg #[.string ⟨(strD (srowF x12)).toArray⟩],.int .u64 x5,.int .u64 x6] [mR b0 b1 x0 x1 x2 A0 x3 v0 v1 v2] fun x hs l=> ∃x13 x14:Int,x= .tuple #[.agg #[.string ⟨(strD (srowF x13)).toArray⟩],.int .i64 x14]∧hs=l∧
 ∀_:Nat,Fork (¬(x14=0)) (
 Post (.tuple #[.agg #[.string ⟨#[]⟩],.int .i64 x14]) [mR b0 b1 x0 x1 x2 A0 x3 v0 v1 v2,hK true v1 x4 A1 A2 A3 A4 A5 A6 A7 A8]) (
 ∀_ _ _:Nat,Cl 19 [.agg #[.string ⟨(strD (srowF x13)).toArray⟩],.agg #[.string ⟨(strD (srowF x7)).toArray⟩]] [] fun x hs l=> ∃x15:Int,x= .agg #[.string ⟨(strD (srowF x15)).toArray⟩]∧hs=[]∧
 Post (.tuple #[.agg #[.string ⟨(strD (srowF x15)).toArray⟩],.int .i64 0]) [mR b0 b1 x0 x1 x2 A0 x3 v0 v1 v2,hK true v1 x4 A1 A2 A3 A4 A5 A6 A7 A8]))
theorem mt_frame(Post:PT)(x0 x1 x2 x3 x4 x5 x6 x7:Int)(A0 A1 A2 A3 A4 A5 A6 A7 A8:Nat→Int)(v0 v1 v2:V1)(b0 b1:Nat)(h:st_frame Post x0 x1 x2 x3 x4 x5 x6 x7 A0 A1 A2 A3 A4 A5 A6 A7 A8 v0 v1 v2 b0 b1):Meets Tryz.prog 17 [.pointer (some ⟨b0,0,none⟩),.int .u64 x5,.int .u64 x6,.agg #[.string ⟨(strD (srowF x7)).toArray⟩]] [mR b0 b1 x0 x1 x2 A0 x3 v0 v1 v2,hK true v1 x4 A1 A2 A3 A4 A5 A6 A7 A8] Post:=
 mtK (C:=cxH) Ia.frA Ia.frHp Ia.frCnt ⟨[x0,x1,x2,x3,x4,x5,x6,x7],[A0,A1,A2,A3,A4,A5,A6,A7,A8],[],[b0,b1],[v0,v1,v2],[],[],[]⟩ 2 Tryz.func17 (by kernel_rfl) h
def st_unframe(Post:PT)(x0 x1 x2 x3 x4 x5 x6 x7 x8 x9 x10:Int)(A0 A1 A2 A3 A4 A5 A6 A7 A8:Nat→Int)(v0 v1 v2:V1)(b0 b1:Nat):Prop:=
 ∀_ _ _:Nat,Cl 27 [.pointer (some ⟨b0,0,none⟩),.agg #[.int .u8 x5,.int .u8 x6],.int .u64 x7] [mR b0 b1 x0 x1 x2 A0 x3 v0 v1 v2,hK true v1 x4 A1 A2 A3 A4 A5 A6 A7 A8] fun x hs l=> ∃x11 x12:Int,x= .tuple #[.agg #[.string ⟨(strD (srowF x11)).toArray⟩],.int .i64 x12]∧hs=l∧
 ∀_:Nat,Fork (¬(x12=0)) (
 Post (.tuple #[.agg #[.string ⟨(strD (srowF x11)).toArray⟩],.int .i64 x12]) [mR b0 b1 x0 x1 x2 A0 x3 v0 v1 v2,hK true v1 x4 A1 A2 A3 A4 A5 A6 A7 A8]) (
 Cl 63 [.pointer (some ⟨b0,0,none⟩),.agg #[.string ⟨(strD (srowF x11)).toArray⟩],.int .u64 x8,.int .u64 x9] [mR b0 b1 x0 x1 x2 A0 x3 v0 v1 v2] fun x hs l=> ∃x13 x14:Int,x= .tuple #[.agg #[.string ⟨(strD (srowF x13)).toArray⟩],.int .i64 x14]∧hs=l∧
 ∀_:Nat,Fork (¬(x14=0)) (
 Post (.tuple #[.agg #[.string ⟨(strD (srowF x13)).toArray⟩],.int .i64 x14]) [mR b0 b1 x0 x1 x2 A0 x3 v0 v1 v2,hK true v1 x4 A1 A2 A3 A4 A5 A6 A7 A8]) (
 ∀_ _ _:Nat,Cl 263 [.agg #[.string ⟨(strD (srowF x13)).toArray⟩],.agg #[.string ⟨(strD (srowF x10)).toArray⟩]] [] fun x hs l=> ∃x15 x16:Int,x= .tuple #[.agg #[.string ⟨(strD (srowF x15)).toArray⟩],.int .i64 x16]∧hs=[]∧
 Post (.tuple #[.agg #[.string ⟨(strD (srowF x15)).toArray⟩],.int .i64 x16]) [mR b0 b1 x0 x1 x2 A0 x3 v0 v1 v2,hK true v1 x4 A1 A2 A3 A4 A5 A6 A7 A8]))
theorem mt_unframe(Post:PT)(x0 x1 x2 x3 x4 x5 x6 x7 x8 x9 x10:Int)(A0 A1 A2 A3 A4 A5 A6 A7 A8:Nat→Int)(v0 v1 v2:V1)(b0 b1:Nat)(h:st_unframe Post x0 x1 x2 x3 x4 x5 x6 x7 x8 x9 x10 A0 A1 A2 A3 A4 A5 A6 A7 A8 v0 v1 v2 b0 b1):Meets Tryz.prog 20 [.pointer (some ⟨b0,0,none⟩),.agg #[.int .u8 x5,.int .u8 x6],.int .u64 x7,.int .u64 x8,.int .u64 x9,.agg #[.string ⟨(strD (srowF x10)).toArray⟩]] [mR b0 b1 x0 x1 x2 A0 x3 v0 v1 v2,hK true v1 x4 A1 A2 A3 A4 A5 A6 A7 A8] Post:=
 mtK (C:=cxI) Ia.unA Ia.frHp Ia.unCnt ⟨[x0,x1,x2,x3,x4,x5,x6,x7,x8,x9,x10],[A0,A1,A2,A3,A4,A5,A6,A7,A8],[],[b0,b1],[v0,v1,v2],[],[],[]⟩ 2 Tryz.func20 (by kernel_rfl) h
def st_head(Post:PT)(A0:Nat→Int):Prop:=
 Need (0<(A0 0)) (
 Fork (((sbyF A0) 0)=1) (
 Post (.tuple #[.int .i64 9,.int .i64 0]) []) (
 Fork (((sbyF A0) 0)=3) (
 Need (9<(A0 0)) (
 I64 ((sbyF A0) 9) ((
 Post (.tuple #[.int .i64 10,.int .i64 ((sbyF A0) 9)]) [])))) (
 Fork (((sbyF A0) 0)=5) (
 Post (.tuple #[.int .i64 1,.int .i64 1]) []) (
 Post (.tuple #[.int .i64 1,.int .i64 2]) []))))
theorem mt_head(Post:PT)(A0:Nat→Int)(h:st_head Post A0):Meets Tryz.prog 117 [.string ⟨(strD A0).toArray⟩] [] Post:=
 mtI (C:=cxJ) [.strE (.avar 0)] [] ⟨0,0,0,1,0,0,0⟩ ⟨[],[A0],[],[],[],[],[],[]⟩ Tryz.func117 (by kernel_rfl) h
def st_size(Post:PT)(A0:Nat→Int):Prop:=
 ∃(I0x0:Ext→Prop) (m0x0:Ext→Nat),(∃x0 x1:Int,x0=0∧x1=1∧I0x0 ⟨[],[],[x0,x1],[],[],[],[]⟩)∧
 ∀x0 x1:Int,I0x0 ⟨[],[],[x0,x1],[],[],[],[]⟩→
 Fork (0<x1) (
 Need (0≤x0) (
 Need (x0≤(A0 0)) (
 Cl 117 [.string ⟨(strD (updF (shiftF A0 (Int.toNat x0)) 0 ((A0 0) - x0))).toArray⟩] [] fun x hs l=> ∃x2 x3:Int,x= .tuple #[.int .i64 x2,.int .i64 x3]∧hs=[]∧
 I64 (x0+x2) ((
 I64 (x1+x3) ((
 I64 ((x1+x3) - 1) ((
 ∃x0' x1':Int,x0'=(x0+x2)∧x1'=((x1+x3) - 1)∧I0x0 ⟨[],[],[x0',x1'],[],[],[],[]⟩∧m0x0 ⟨[],[],[x0',x1'],[],[],[],[]⟩<m0x0 ⟨[],[],[x0,x1],[],[],[],[]⟩))))))))) (
 Post (.int .i64 x0) [])
theorem mt_size(Post:PT)(A0:Nat→Int)(h:st_size Post A0):Meets Tryz.prog 118 [.string ⟨(strD A0).toArray⟩] [] Post:=
 mtI (C:=cxK) [.strE (.avar 0)] [] ⟨0,0,0,1,0,0,0⟩ ⟨[],[A0],[],[],[],[],[],[]⟩ Tryz.func118 (by kernel_rfl) h
def st_opn(Post:PT)(x0 x1:Int):Prop:=
 ∀_ _ _ _:Nat,Fork (strD (srowF x1)=strD (rowLF [0])) (
 Post (.tuple #[.agg #[.string ⟨#[]⟩],.int .i64 140]) []) (
 Need (0<((srowF x1) 0)) (
 Fork (((sbyF (srowF x1)) 0)=4) (
 Cl 78 [.agg #[.string ⟨(strD (srowF x1)).toArray⟩]] [] fun x hs l=> ∃x2 x3:Int,x= .tuple #[.agg #[.string ⟨(strD (srowF x2)).toArray⟩],.agg #[.string ⟨(strD (srowF x3)).toArray⟩]]∧hs=[]∧
 ∀_ _:Nat,Fork (strD (srowF x2)=strD (srowF x0)) (
 Post (.tuple #[.agg #[.string ⟨(strD (srowF x3)).toArray⟩],.int .i64 0]) []) (
 Post (.tuple #[.agg #[.string ⟨#[]⟩],.int .i64 140]) [])) (
 Post (.tuple #[.agg #[.string ⟨#[]⟩],.int .i64 140]) [])))
theorem mt_opn(Post:PT)(x0 x1:Int)(h:st_opn Post x0 x1):Meets Tryz.prog 263 [.agg #[.string ⟨(strD (srowF x0)).toArray⟩],.agg #[.string ⟨(strD (srowF x1)).toArray⟩]] [] Post:=
 mtK (C:=cxM) [.agg [.strE (.srow (.var 0))],.agg [.strE (.srow (.var 1))]] [] ⟨0,0,2,0,0,0,0⟩ ⟨[x0,x1],[],[],[],[],[],[],[]⟩ 0 Tryz.func263 (by kernel_rfl) h
def st_two(Post:PT)(x0:Int):Prop:=
 ∀_ _ _ _ _:Nat,∀(_ _:Nat) (_:Loop),Fork (strD (srowF x0)=strD (rowLF [0])) (
 False) (
 Cl 117 [.string ⟨(strD (srowF x0)).toArray⟩] [] fun x hs l=>x= .tuple #[.int .i64 1,.int .i64 2]∧hs=[]∧
 Need (1≤((srowF x0) 0)) (
 Cl 118 [.string ⟨(strD (updF (shiftF (srowF x0) 1) 0 (((srowF x0) 0) - 1))).toArray⟩] [] fun x hs l=> ∃x1:Int,x= .int .i64 x1∧hs=[]∧
 I64 (1+x1) ((
 Need (1≤(1+x1)) (
 Need ((1+x1)≤((srowF x0) 0)) (
 ∀(_ _:Nat) (_:V1),Need (0≤(1+x1)) (
 Cl 118 [.string ⟨(strD (updF (shiftF (srowF x0) (Int.toNat (1+x1))) 0 (((srowF x0) 0) - (1+x1)))).toArray⟩] [] fun x hs l=> ∃x2:Int,x= .int .i64 x2∧hs=[]∧
 I64 ((1+x1)+x2) ((
 Need ((1+x1)≤((1+x1)+x2)) (
 Need (((1+x1)+x2)≤((srowF x0) 0)) (
 ∀(_ _:Nat) (_:V1),Post (.tuple #[.agg #[.string ⟨(strD (srowF ((fun _=>((sCode (strD (updF (shiftF (srowF x0) 1) 0 ((1+x1) - 1))):Nat):Int)) 0))).toArray⟩],.agg #[.string ⟨(strD (srowF ((fun _=>((sCode (strD (updF (shiftF (srowF x0) (Int.toNat (1+x1))) 0 (((1+x1)+x2) - (1+x1)))):Nat):Int)) 0))).toArray⟩]]) [])))))))))))
theorem mt_two(Post:PT)(x0:Int)(h:st_two Post x0):Meets Tryz.prog 78 [.agg #[.string ⟨(strD (srowF x0)).toArray⟩]] [] Post:=
 mtK (C:=cxL) [.agg [.strE (.srow (.var 0))]] [] ⟨0,0,1,0,0,0,0⟩ ⟨[x0],[],[],[],[],[],[],[]⟩ 0 Tryz.func78 (by kernel_rfl) h
end Go.RX.Ia

namespace Go.RX.Gr
open Go.RX Go.Proofs
theorem okT0:checkT Tryz.prog T0=true:=by kernel_rfl
noncomputable def cxB(l:List Nat):Ctx:={T:=T0,FT:=FT,loops:=Gr.loops,callees:=Gr.calleesBut l}
noncomputable abbrev cxT:=cxB [61]
noncomputable abbrev cxU:=cxB [62]
noncomputable abbrev cxV:=cxB [16]
noncomputable abbrev cxW:=cxB [254]
end Go.RX.Gr

namespace Go.RX.Gr
open Go.RX Go.Proofs
set_option maxRecDepth 100000
def st_build(Post:PT)(x0 x1 x2:Int)(A0 A1:Nat→Int)(v0 v1:V1):Prop:=
 ∀_ b1:Nat,Cl 104 [.pointer (some ⟨b1,0,none⟩),.int .u8 x0] [bldHP b1 234 5 (segCells .u8 0 (fun _=>0))] fun x hs l=> ∃(x3:Int) (A2:Nat→Int),x= .nilIface∧hs=[bldHP b1 234 5 (segCells .u8 (Int.toNat x3) A2)]∧
 Cl 105 [.pointer (some ⟨b1,0,none⟩),v0.v] [bldHP b1 234 5 (segCells .u8 (Int.toNat x3) A2),sliHP false 5 1 v0.v (Int.toNat x1) (tabL (Int.toNat x1) [colI .u8 1 A0])] fun x hs l=> ∃(x4 x5:Int) (A3:Nat→Int),x= .tuple #[.int .i64 x5,.nilIface]∧hs=[bldHP b1 234 5 (segCells .u8 (Int.toNat x4) A3),sliHP false 5 1 v0.v (Int.toNat x1) (tabL (Int.toNat x1) [colI .u8 1 A0])]∧
 Need (0≤x2) (
 ∃(I0x0:Ext→Prop) (m0x0:Ext→Nat),(∃(x6 x7:Int) (A4:Nat→Int),x6=0∧x7=x4∧(∀j,j<(Int.toNat x7)→A4 j=A3 j)∧I0x0 ⟨[],[],[x6,x7],[A4],[],[],[]⟩)∧
 ∀(x6 x7:Int) (A4:Nat→Int),I0x0 ⟨[],[],[x6,x7],[A4],[],[],[]⟩→
 Fork (x6<x2) (
 Need (0≤x6) (
 ∀_:Nat,Fork (strD (srowF (A1 (Int.toNat x6)))=strD (rowLF [0])) (
 Post (.agg #[.string ⟨#[]⟩]) [sliHP false 5 1 v0.v (Int.toNat x1) (tabL (Int.toNat x1) [colI .u8 1 A0]),sliHP false 33 1 v1.v (Int.toNat x2) (tabL (Int.toNat x2) [colS 1 A1])]) (
 Cl 106 [.pointer (some ⟨b1,0,none⟩),.string ⟨(strD (srowF (A1 (Int.toNat x6)))).toArray⟩] [bldHP b1 234 5 (segCells .u8 (Int.toNat x7) A4)] fun x hs l=> ∃(x8 x9:Int) (A5:Nat→Int),x= .tuple #[.int .i64 x9,.nilIface]∧hs=[bldHP b1 234 5 (segCells .u8 (Int.toNat x8) A5)]∧
 I64 (x6+1) ((
 ∃(x6' x7':Int) (A4':Nat→Int),x6'=(x6+1)∧x7'=x8∧(∀j,j<(Int.toNat x7')→A4' j=A5 j)∧I0x0 ⟨[],[],[x6',x7'],[A4'],[],[],[]⟩∧m0x0 ⟨[],[],[x6',x7'],[A4'],[],[],[]⟩<m0x0 ⟨[],[],[x6,x7],[A4],[],[],[]⟩))))) (
 Cl 107 [.pointer (some ⟨b1,0,none⟩)] [bldHP b1 234 5 (segCells .u8 (Int.toNat x7) A4)] fun x hs l=> ∃x8:Int,x= .string ⟨(strD (srowF x8)).toArray⟩∧hs=[]∧
 Post (.agg #[.string ⟨(strD (srowF x8)).toArray⟩]) [sliHP false 5 1 v0.v (Int.toNat x1) (tabL (Int.toNat x1) [colI .u8 1 A0]),sliHP false 33 1 v1.v (Int.toNat x2) (tabL (Int.toNat x2) [colS 1 A1])]))
theorem mt_build(Post:PT)(x0 x1 x2:Int)(A0 A1:Nat→Int)(v0 v1:V1)(h:st_build Post x0 x1 x2 A0 A1 v0 v1):Meets Tryz.prog 61 [.int .u8 x0,v0.v,v1.v] [sliHP false 5 1 v0.v (Int.toNat x1) (tabL (Int.toNat x1) [colI .u8 1 A0]),sliHP false 33 1 v1.v (Int.toNat x2) (tabL (Int.toNat x2) [colS 1 A1])] Post:=
 mtK (C:=cxT) Gr.buA Gr.buHp Gr.buCnt ⟨[x0,x1,x2],[A0,A1],[],[],[v0,v1],[],[],[]⟩ 2 Tryz.func61 (by kernel_rfl) h (hT:=okT0)
def st_be(Post:PT)(x0:Int):Prop:=
 ∀(b0:Nat) (_:V1) (b1:Nat) (_:V1) (b2:Nat) (_:V1) (b3:Nat) (_:V1) (b4:Nat) (_:V1) (b5:Nat) (_:V1) (b6:Nat) (_:V1) (b7:Nat) (v7:V1),Post (v7.v) [rowHP b0 true ([.int .u8 (IntKind.wrap .u8 (iop .shr .u64 x0 56))]),sliHP true 5 1 v7.v 8 (tabL 8 [colI .u8 1 (updF (updF (updF (updF (updF (updF (updF (updF (fun _=>0) 0 (IntKind.wrap .u8 (iop .shr .u64 x0 56))) 1 (IntKind.wrap .u8 (iop .shr .u64 x0 48))) 2 (IntKind.wrap .u8 (iop .shr .u64 x0 40))) 3 (IntKind.wrap .u8 (iop .shr .u64 x0 32))) 4 (IntKind.wrap .u8 (iop .shr .u64 x0 24))) 5 (IntKind.wrap .u8 (iop .shr .u64 x0 16))) 6 (IntKind.wrap .u8 (iop .shr .u64 x0 8))) 7 (IntKind.wrap .u8 (iop .shr .u64 x0 0)))]),rowHP b1 true ([.int .u8 (IntKind.wrap .u8 (iop .shr .u64 x0 48))]),rowHP b2 true ([.int .u8 (IntKind.wrap .u8 (iop .shr .u64 x0 40))]),rowHP b3 true ([.int .u8 (IntKind.wrap .u8 (iop .shr .u64 x0 32))]),rowHP b4 true ([.int .u8 (IntKind.wrap .u8 (iop .shr .u64 x0 24))]),rowHP b5 true ([.int .u8 (IntKind.wrap .u8 (iop .shr .u64 x0 16))]),rowHP b6 true ([.int .u8 (IntKind.wrap .u8 (iop .shr .u64 x0 8))]),rowHP b7 true ([.int .u8 (IntKind.wrap .u8 (iop .shr .u64 x0 0))])]
theorem mt_be(Post:PT)(x0:Int)(h:st_be Post x0):Meets Tryz.prog 62 [.int .u64 x0] [] Post:=
 mtI (C:=cxU) [.int .u64 (.var 0)] [] ⟨0,0,1,0,0,0,0⟩ ⟨[x0],[],[],[],[],[],[],[]⟩ Tryz.func62 (by kernel_rfl) h (hT:=okT0)
def st_atom(Post:PT)(x0:Int):Prop:=
 ∀_:Nat,Cl 62 [.int .u64 x0] [] fun x hs l=> ∃(v0:V1) (A0:Nat→Int),x=v0.v∧hs=[sliHP true 5 1 v0.v 8 (tabL 8 [colI .u8 1 A0])]∧
 Cl 61 [.int .u8 1,v0.v,.slice none 0 0] [sliHP true 5 1 v0.v 8 (tabL 8 [colI .u8 1 A0])] fun x hs l=> ∃x1:Int,x= .agg #[.string ⟨(strD (srowF x1)).toArray⟩]∧hs=[]∧
 Post (.agg #[.string ⟨(strD (srowF x1)).toArray⟩]) []
theorem mt_atom(Post:PT)(x0:Int)(h:st_atom Post x0):Meets Tryz.prog 16 [.int .u64 x0] [] Post:=
 mtK (C:=cxV) [.int .u64 (.var 0)] [] ⟨0,0,1,0,0,0,0⟩ ⟨[x0],[],[],[],[],[],[],[]⟩ 0 Tryz.func16 (by kernel_rfl) h (hT:=okT0)
def st_fresh(Post:PT)(x0:Int)(b0:Nat):Prop:=
 ∀_:Nat,Cl 16 [.int .u64 (IntKind.wrap .u64 ((IntKind.wrap .u64 (x0+1)) - 1))] [] fun x hs l=> ∃x1:Int,x= .agg #[.string ⟨(strD (srowF x1)).toArray⟩]∧hs=[]∧
 Post (.agg #[.string ⟨(strD (srowF x1)).toArray⟩]) [rowHP b0 true ([.int .u64 (IntKind.wrap .u64 (x0+1))])]
theorem mt_fresh(Post:PT)(x0:Int)(b0:Nat)(h:st_fresh Post x0 b0):Meets Tryz.prog 254 [.pointer (some ⟨b0,0,none⟩)] [rowHP b0 true ([.int .u64 x0])] Post:=
 mtK (C:=cxW) Gr.frA Gr.frHp Gr.frCnt ⟨[x0],[],[],[b0],[],[],[],[]⟩ 1 Tryz.func254 (by kernel_rfl) h (hT:=okT0)
end Go.RX.Gr
