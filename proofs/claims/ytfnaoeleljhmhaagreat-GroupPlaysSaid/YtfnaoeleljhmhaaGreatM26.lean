/- What the executor is told of a group's member. · What a printed formula is to a function's contract; short names in formulas. · What the executor is told of a group's member: calls of its small functions, of hold, Take, waits, find. · What the executor is told of Enter. · What the executor is told of the document's member. · The document's member: short names in formulas; the executor's contexts. · What the executor is told of the document's Enter. · What the executor is told of terms that are built. · What the executor is told of the law's own functions: a roster by bits, a distribution of an atom, whether a member stands az the document's. · What the executor is told of GroupPlays itself: the program's member is one abstract part of memory. · What the executor is told of terms: hashes, numbers, what is sealed and opened; of a member's frames. -/
import Derived.Test.YtfnaoeleljhmhaaGreatRxD
import Derived.Test.YtfnaoeleljhmhaaGreatM25

namespace Go.RX.Gb
open Go.RX
def u8(i:Nat):SV:= .int .u8 (.var i)
def u64(i:Nat):SV:= .int .u64 (.var i)
def i64(i:Nat):SV:= .int .i64 (.var i)
def bl(i:Nat):SV:= .bool (.nz (.var i))
def id16(a:Nat):SV:= .seg .u8 16 (.avar a)
def tm(i:Nat):SV:= .strE (.srow (.var i))
def waitC(a:Nat):List Col:=[⟨.int .u8,16,.avar a⟩,⟨.int .u64,1,.avar (a+1)⟩,⟨.int .u8,1,.avar (a+2)⟩,⟨.int .u8,1,.avar (a+3)⟩,⟨.int .u64,1,.avar (a+4)⟩,⟨.sv,1,.avar (a+5)⟩]
def heldC(a:Nat):List Col:=waitC a++[⟨.int .u64,1,.avar (a+6)⟩,⟨.bool,1,.avar (a+7)⟩]
def devC(a:Nat):List Col:=[⟨.int .u8,1,.avar a⟩,⟨.int .u8,1,.avar (a+1)⟩]
def memR(i a v:Nat):List SV:=[.ifp 135 1 0,u8 i,u8 (i+1),bl (i+2),id16 a,u64 (i+3),.vv v,.vv (v+1),.vv (v+2)]
def distR(i a:Nat):SV:= .agg [id16 a,u64 i,u8 (i+1),u8 (i+2),u64 (i+3),tm (i+4)]
def heldK(v n a:Nat):Ck:= .sli true v 144 23 (.var n) (heldC a)
def waitK(v n a:Nat):Ck:= .sli true v 51 21 (.var n) (waitC a)
def findHp:List Ck:=[.row 0 true (memR 0 0 0),heldK 1 4 1]
def findCnt:Cnt:={b:=2,v:=3,i:=6,a:=9}
def findA:List SV:=[.ptr 0 0,u64 5]
def waitHp:List Ck:=[.row 0 true (memR 0 0 0),waitK 2 4 1]
def waitA:List SV:=[.ptr 0 0,distR 5 7]
def waitCnt:Cnt:={b:=2,v:=3,i:=10,a:=8}
def tickA:List SV:=[.ptr 0 0,u64 5]
def newHeld(v a:Nat):List Ck→List Ck
 | .sli true v' 144 23 n cs::r=>if v'=v then .sli true v 144 23 n (heldC a)::r else .sli true v' 144 23 n cs::newHeld v a r
 | x::r=>x::newHeld v a r
 | []=>[]
def loops(f id:Nat):Option LoopAnn:=
 match f,id with
 | 101,0=>some {inc:={i:=2},slots:=fun c=>[(9,i64 c.i),(10,i64 (c.i+1))]}
 | 57,0=>some {inc:={i:=1},slots:=fun c=>[(12,i64 c.i)]}
 | 103,0=>some {inc:={i:=1},slots:=fun c=>[(8,i64 c.i)]}
 | 59,0=>some {inc:={i:=2,a:=8},slots:=fun c=>[(5,i64 c.i),(6,i64 (c.i+1))],hp:=fun c h=>newHeld 1 c.a h}
 | _,_=>none
def insGA:List SV:=[.vsub 0 [⟨.lit 0,.var 0,some (.var 0)⟩] 23,i64 1,.vv 1]
def insGHp:List Ck:=[.sli false 0 144 23 (.var 0) (heldC 0),.sli false 1 144 23 (.lit 1) (heldC 8)]
def insGCnt:Cnt:={v:=2,i:=2,a:=16}
def insPA:List SV:=[.vsub 0 [⟨.lit 0,.var 0,some (.var 2)⟩] 23,i64 1,.vv 1]
def insPHp:List Ck:=[.sli true 0 144 23 (.var 2) [⟨.ix 0,23,.avar 0⟩],.sli true 1 144 23 (.lit 1) [⟨.ix 0,23,.avar 1⟩]]
def insPCnt:Cnt:={v:=2,i:=3,a:=2}
def isSli(v:Nat):Ck→Bool
 | .sli _ v' .. =>v'==v
 | _=>false
def rootOf:SV→Option Nat
 | .vv v=>some v
 | .vsub v _ _=>some v
 | _=>none
def useSli(x:SV)(hp:List Ck):List Nat:=match rootOf x with | some v=>(hp.findIdx? (isSli v)).toList | none=>[]
def overCall:CallAnn:={use:=fun az hp=>match az with | [a,b]=>useSli a hp++useSli b hp | _=>[],val:=fun _=> .bool (.lit false),new:=fun _ h=>h}
def calleesI(f:Nat):Option CallAnn:=if f=142 then some overCall else none
end Go.RX.Gb

namespace Go.RX
open Go.Proofs
section
variable {C:Ctx} {f:Nat} {fd:Func} (args:List SV) (hp:List Ck) (cnt:Cnt) (ρ:Env) {Post:Value→List HP→Prop} {s:Prop}
theorem mtB(hf:Tryz.prog.funcs[f]? =some fd)(hv:VC Tryz.prog (fun v _=>Post v []) (runF C f args hp cnt fd) ρ (fun _=>LC.none)=s)(h:s)(hT:checkT Tryz.prog C.T=true:=by exact okT)(hFT:FTOk Tryz.prog C.FT:=by exact okFT)(hl:Lens ρ cnt:=by constructor<;>rfl)
  (hPu:PureOk Tryz.prog C:=by exact PureOk.none rfl):Meets Tryz.prog f (SV.vals ρ args) (hp.map (Ck.den ρ)) Post:=
 Meets.post (Meets.of_runE (C:=C) hT hFT okM hf hl rfl hv h hPu) fun _ hs hq=>⟨_,Ent.sub (List.nil_sublist hs),hq⟩
theorem mtK(k:Nat)(hf:Tryz.prog.funcs[f]? =some fd)(hv:VC Tryz.prog (fun v hs=>Post v (hs.take k)) (runF C f args hp cnt fd) ρ (fun _=>LC.none)=s)(h:s)(hT:checkT Tryz.prog C.T=true:=by exact okT)(hFT:FTOk Tryz.prog C.FT:=by exact okFT)(hl:Lens ρ cnt:=by constructor<;>rfl)
  (hPu:PureOk Tryz.prog C:=by exact PureOk.none rfl):Meets Tryz.prog f (SV.vals ρ args) (hp.map (Ck.den ρ)) Post:=
 Meets.post (Meets.of_runE (C:=C) hT hFT okM hf hl rfl hv h hPu) fun _ hs hq=>⟨_,Ent.sub (List.take_sublist k hs),hq⟩
theorem mtI(hf:Tryz.prog.funcs[f]? =some fd)(hv:VC Tryz.prog Post (runF C f args hp cnt fd) ρ (fun _=>LC.none)=s)(h:s)(hT:checkT Tryz.prog C.T=true:=by exact okT)(hFT:FTOk Tryz.prog C.FT:=by exact okFT)(hl:Lens ρ cnt:=by constructor<;>rfl)
  (hPu:PureOk Tryz.prog C:=by exact PureOk.none rfl):Meets Tryz.prog f (SV.vals ρ args) (hp.map (Ck.den ρ)) Post:=
 Meets.of_runE (C:=C) hT hFT okM hf hl rfl hv h hPu
end
abbrev bo(v:V1)(n:Int)(A:Nat→Int):HP:=sliHP true 5 1 v.v n.toNat (tabL n.toNat [colI .u8 1 A])
abbrev PT:=Value→List HP→Prop
abbrev Cl(f:Nat)(a:List Value)(L:List HP)(K:Value→List HP→List HP→Prop):Prop:= ∃post,Meets Tryz.prog f a L post∧∀x hs,post x hs→K x hs L
abbrev I64(x:Int)(p:Prop):Prop:=Need (-9223372036854775808≤x) (Need (x≤9223372036854775807) p)
abbrev U47(x:Int)(p:Prop):Prop:=Need (x≤140737488355328) p
abbrev colS(w:Nat)(f:Nat→Int)(i:Nat):List Value:=colV w (fun j=> .string ⟨(sDec (f j)).toArray⟩) i
abbrev colX(w:Nat)(V:Nat→V1)(f:Nat→Int)(i:Nat):List Value:=colV w (fun j=>(V (f j).toNat).v) i
abbrev Gb.mS(b b1:Nat)(x0 x1:Int)(s:Bool)(A:Nat→Int)(x3:Int)(v0 v1 v2:Value):HP:=rowHP b true ((.iface 135 (.pointer (some ⟨b1,0,none⟩)))::(.int .u8 x0::(.int .u8 x1::(.bool s::(List.append (segCells .u8 16 A) ([.int .u64 x3,v0,v1,v2]))))))
abbrev Gb.mR(b b1:Nat)(x0 x1 x2:Int)(A:Nat→Int)(x3:Int)(v0 v1 v2:V1):HP:=rowHP b true ((.iface 135 (.pointer (some ⟨b1,0,none⟩)))::(.int .u8 x0::(.int .u8 x1::(.bool (!(x2==0))::(List.append (segCells .u8 16 A) ([.int .u64 x3,v0.v,v1.v,v2.v]))))))
abbrev Gb.hK(md:Bool)(v:V1)(n:Int)(A B C D E F G H:Nat→Int):HP:=sliHP md 144 23 v.v (Int.toNat n) (tabL (Int.toNat n) [colI .u8 16 A,colI .u64 1 B,colI .u8 1 C,colI .u8 1 D,colI .u64 1 E,colS 1 F,colI .u64 1 G,colB 1 H])
abbrev Gb.wK(md:Bool)(v:V1)(n:Int)(A B C D E F:Nat→Int):HP:=sliHP md 51 21 v.v (Int.toNat n) (tabL (Int.toNat n) [colI .u8 16 A,colI .u64 1 B,colI .u8 1 C,colI .u8 1 D,colI .u64 1 E,colS 1 F])
abbrev Gb.dK(md:Bool)(v:V1)(n:Int)(A B:Nat→Int):HP:=sliHP md 23 2 v.v (Int.toNat n) (tabL (Int.toNat n) [colI .u8 1 A,colI .u8 1 B])
abbrev Gb.oK(md:Bool)(v:V1)(n:Int)(A B C D E F G H:Nat→Int):HP:=sliHP md 74 23 v.v (Int.toNat n) (tabL (Int.toNat n) [colI .u8 1 A,colI .u8 1 B,colI .u8 16 C,colI .u64 1 D,colI .u8 1 E,colI .u8 1 F,colI .u64 1 G,colS 1 H])
abbrev Gb.dV(A:Nat→Int)(a b c d k:Int):Value:= .agg (List.append (segCells .u8 16 A) ([.int .u64 a,.int .u8 b,.int .u8 c,.int .u64 d,.string ⟨(strD (srowF k)).toArray⟩])).toArray
noncomputable def Gb.cxA:Ctx:={T:=TT,FT:=FT,loops:=Gb.loops,callees:=Gb.calleesI}
end Go.RX

namespace Go.RX.Gf
open Go.RX Go.RX.Gb
def isRow(b:Nat):Ck→Bool
 | .row b' .. =>b'==b
 | _=>false
def slotV(k b:Nat)(hp:List Ck):Option Nat:=
 match hp.find? (isRow b)with
 | some (.row _ _ cs)=>match cs[k]? with
  | some (.vv v)=>some v
  | _=>none
 | _=>none
def useK(k:Nat)(az:List SV)(hp:List Ck):List Nat:=
 match az with
 | .ptr b _::_=>match hp.findIdx? (isRow b)with
  | some i=>i::(match slotV k b hp with | some v=>(hp.findIdx? (isSli v)).toList | none=>[])
  | none=>[]
 | _=>[]
def useKK(az:List SV)(hp:List Ck):List Nat:=
 match az with
 | .ptr b _::_=>match hp.findIdx? (isRow b)with
  | some i=>i::([6,7,8].flatMap fun k=>match slotV k b hp with | some v=>(hp.findIdx? (isSli v)).toList | none=>[])
  | none=>[]
 | _=>[]
def lastV:List SV→Option Nat
 | []=>none
 | [.vv v]=>some v
 | _::r=>lastV r
def useR(az:List SV)(hp:List Ck):List Nat:=
 match az with
 | .agg cs::_=>match lastV cs with | some v=>(hp.findIdx? (isSli v)).toList | none=>[]
 | .vv v::_=>(hp.findIdx? (isSli v)).toList
 | _=>[]
def boolCall(use:List SV→List Ck→List Nat:=fun _ _=>[]):CallAnn:={use,inc:={bo:=1},val:=fun c=> .bool (.var c.bo),new:=fun _ h=>h}
def kidCall:CallAnn:={use:=fun _ _=>[],inc:={i:=1},val:=fun c=>u64 c.i,new:=fun _ h=>h}
def ordCall:CallAnn:={use:=fun _ _=>[],inc:={i:=1},val:=fun c=>i64 c.i,new:=fun _ h=>h}
def findCall:CallAnn:={use:=useK 7,inc:={i:=1,bo:=1},val:=fun c=> .tup [i64 c.i,.bool (.var c.bo)],new:=fun _ h=>h}
def setAt(k v:Nat)(ck:Ck):List Ck→List Ck
 | [.row b w cs,_]=>[.row b w (cs.set k (.vv v)),ck]
 | l=>l
def holdCall:CallAnn:={use:=useK 7,inc:={v:=1,i:=1,a:=8},val:=fun _=> .tup [],new:=fun c h=>setAt 7 c.v (heldK c.v c.i c.a) h}
def tickCall:CallAnn:=holdCall
def waitsCall:CallAnn:={use:=useK 8,inc:={v:=1,i:=2,a:=6},val:=fun c=>i64 (c.i+1),new:=fun c h=>setAt 8 c.v (waitK c.v c.i c.a) h}
def takeNew(v i a:Nat):List Ck→List Ck
 | [.row b w cs,m,_,_]=>[.row b w ((cs.set 7 (.vv v)).set 8 (.vv (v+1))),m,heldK v i a,waitK (v+1) (i+1) (a+8)]
 | l=>l
def takeCall:CallAnn:={use:=useKK,inc:={v:=2,i:=3,a:=14},val:=fun c=>i64 (c.i+2),new:=fun c h=>takeNew c.v c.i c.a h}
def useI(az:List SV)(hp:List Ck):List Nat:=
 match az with
 | [x,_,.sl b _ _ _ _]=>useSli x hp++(hp.findIdx? (isRow b)).toList
 | _=>[]
def insCall:CallAnn:={use:=useI,inc:={v:=1,i:=1,a:=8},val:=fun c=> .vv c.v,new:=fun c _=>[heldK c.v c.i c.a]}
def callees(f:Nat):Option CallAnn:=
 match f with
 | 21=>some kidCall
 | 56=>some (boolCall)
 | 53=>some (boolCall useR)
 | 51=>some (boolCall useR)
 | 97=>some (boolCall useR)
 | 98=>some ordCall
 | 58=>some findCall
 | 99=>some insCall
 | 54=>some holdCall
 | 57=>some waitsCall
 | 13=>some tickCall
 | 11=>some takeCall
 | _=>none
def calleesBut(l:List Nat)(f:Nat):Option CallAnn:=if l.contains f then none else callees f
def loops(f id:Nat):Option LoopAnn:=
 match f,id with
 | 76,0=>some {inc:={i:=1},slots:=fun c=>[(8,i64 c.i)]}
 | 159,0=>some {inc:={i:=1},slots:=fun c=>[(8,i64 c.i)]}
 | 51,0=>some {inc:={i:=1},slots:=fun c=>[(3,i64 c.i)]}
 | 27,0=>some {inc:={i:=1},slots:=fun c=>[(19,i64 c.i)]}
 | f,id=>Gb.loops f id
def ros(i a v:Nat):SV:= .agg [id16 a,u64 i,.vv v]
def dev(i:Nat):SV:= .agg [u8 i,u8 (i+1)]
def kidA:List SV:=[u64 0,dev 1]
def kidHp:List Ck:=[]
def kidCnt:Cnt:={i:=3}
def mayA:List SV:=[distR 0 0]
def mayCnt:Cnt:={i:=5,a:=1}
def hasA:List SV:=[ros 0 0 0,dev 1]
def hasHp:List Ck:=[.sli true 0 23 2 (.var 3) (devC 1)]
def hasCnt:Cnt:={v:=1,i:=4,a:=3}
def rmayA:List SV:=[ros 0 0 0]
def smallA:List SV:=[.vv 0]
def ordA:List SV:=[dev 0,dev 2]
def ordCnt:Cnt:={i:=4}
def ownA:List SV:=[.ptr 0 0]
def keyA:List SV:=[.ptr 0 0,dev 5,u64 7]
def keyCnt:Cnt:={b:=2,v:=3,i:=8,a:=9}
def holdA:List SV:=[.ptr 0 0,distR 5 9]
def holdCnt:Cnt:={b:=2,v:=3,i:=10,a:=10}
def memOK(v n a:Nat):Ck:= .sli true v 23 2 (.var n) (devC a)
def wholeHp:List Ck:=[.row 0 true (memR 0 0 0),memOK 0 4 1,heldK 1 5 3,waitK 2 6 11]
def takeA:List SV:=[.ptr 0 0,distR 7 17]
def takeCnt:Cnt:={b:=2,v:=3,i:=12,a:=18}
def rostHp:List Ck:=[.row 0 true (memR 0 0 0),memOK 0 4 1]
def rostCnt:Cnt:={b:=2,v:=3,i:=5,a:=3}
end Go.RX.Gf

namespace Go.RX.Gl
open Go.RX Go.RX.Gb Go.RX.Gf
def cloneCall:CallAnn:={use:=useR,inc:={v:=1,i:=1,a:=2},val:=fun c=> .vv c.v,new:=fun c h=>h++[memOK c.v c.i c.a]}
def atomCall:CallAnn:={use:=fun _ _=>[],inc:={i:=1},val:=fun c=> .agg [tm c.i],new:=fun _ h=>h}
def freshCall:CallAnn:={use:=fun az hp=>match az with | .ptr b _::_=>(hp.findIdx? (isRow b)).toList | _=>[],inc:={i:=2},val:=fun c=> .agg [tm c.i],new:=fun c h=>match h with | [.row b w _]=>[.row b w [u64 (c.i+1)]] | l=>l}
def callees(f:Nat):Option CallAnn:=
 match f with
 | 52=>some cloneCall
 | 16=>some atomCall
 | 254=>some freshCall
 | 9=>none
 | f=>Gf.callees f
def endsAt(v a:Nat):Ck→Ck
 | .sli true v' 144 23 n cs=>if v'=v then .sli true v 144 23 n (cs.take 6++[⟨.int .u64,1,.avar a⟩,⟨.bool,1,.avar (a+1)⟩])else .sli true v' 144 23 n cs
 | x=>x
def retell(v i a:Nat)(hp:List Ck):List Ck:=
 match slotV 7 0 hp,slotV 8 0 hp with
 | some h,some w=>hp.map fun
  | .row 0 wr cs=> .row 0 wr ((cs.set 7 (.vv v)).set 8 (.vv (v+1)))
  | .sli true v' 144 23 n cs=>if v'=h then heldK v i a else .sli true v' 144 23 n cs
  | .sli true v' 51 21 n cs=>if v'=w then waitK (v+1) (i+1) (a+8)else .sli true v' 51 21 n cs
  | x=>x
 | _,_=>hp
def outC(a:Nat):List Col:=[⟨.int .u8,1,.avar a⟩,⟨.int .u8,1,.avar (a+1)⟩,⟨.int .u8,16,.avar (a+2)⟩,⟨.int .u64,1,.avar (a+3)⟩,⟨.int .u8,1,.avar (a+4)⟩,⟨.int .u8,1,.avar (a+5)⟩,⟨.int .u64,1,.avar (a+6)⟩,⟨.sv,1,.avar (a+7)⟩]
def outAt(v i a:Nat):Ck→Ck
 | .sli true _ 74 23 _ _=> .sli true v 74 23 (.var i) (outC a)
 | x=>x
def loops(f id:Nat):Option LoopAnn:=
 match f,id with
 | 9,1=>some {inc:={i:=1,a:=2},slots:=fun c=>[(59,i64 c.i)],hp:=fun c h=>h.map (endsAt 1 c.a)}
 | 9,3=>some {pre:=[.cell 0 8 51],inc:={i:=3,v:=2,a:=14},slots:=fun c=>[(148,i64 c.i)],hp:=fun c h=>retell c.v (c.i+1) c.a h}
 | 9,5=>some {pre:=[.slot 13 74],inc:={i:=2,v:=1,a:=8},slots:=fun c=>[(171,i64 c.i),(13,.vv c.v)],hp:=fun c h=>h.map (outAt c.v (c.i+1) c.a)}
 | f,id=>Gf.loops f id
def entHp:List Ck:=[.row 0 true (memR 0 0 0),memOK 0 4 1,heldK 1 5 3,waitK 2 6 11,.row 1 true [u64 7],memOK 3 9 18]
def entA:List SV:=[.ptr 0 0,ros 8 17 3,u64 10]
def entCnt:Cnt:={b:=2,v:=4,i:=11,a:=20}
end Go.RX.Gl

namespace Go.RX.Gu
open Go.RX Go.RX.Gb Go.RX.Gf
def rwC(a:Nat):List Col:=[⟨.int .u8,16,.avar a⟩,⟨.int .u64,1,.avar (a+1)⟩,⟨.int .u8,1,.avar (a+2)⟩,⟨.int .u8,1,.avar (a+3)⟩,⟨.int .u64,1,.avar (a+4)⟩,⟨.int .u64,1,.avar (a+5)⟩]
def rhC(a:Nat):List Col:=rwC a++[⟨.bool,1,.avar (a+6)⟩,⟨.int .u64,1,.avar (a+7)⟩]
def rheld(v n a:Nat):Ck:= .sli true v 76 23 (.var n) (rhC a)
def rwait(v n a:Nat):Ck:= .sli true v 38 21 (.var n) (rwC a)
def rdist(i a:Nat):SV:= .agg [id16 a,u64 i,u8 (i+1),u8 (i+2),u64 (i+3),u64 (i+4)]
def rmem(i a v:Nat):SV:= .agg [u8 i,u8 (i+1),bl (i+2),id16 a,u64 (i+3),.vv v,.vv (v+1),.vv (v+2),u64 (i+4)]
def rHp:List Ck:=[memOK 0 5 1,rheld 1 6 3,rwait 2 7 11]
def holdA:List SV:=[rmem 0 0 0,rdist 7 11]
def tickA:List SV:=[rmem 0 0 0,u64 7]
def findA:List SV:=[rmem 0 0 0,dev 7,u64 9]
def takeA:List SV:=[rmem 0 0 0,rdist 8 17]
def heldOf:SV→Option Nat
 | .agg (_::_::_::_::_::_:: .vv v::_)=>some v
 | _=>none
def findCall:CallAnn:={use:=fun az hp=>match az with | m::_=>(match heldOf m with | some v=>(hp.findIdx? (isSli v)).toList | none=>[]) | _=>[],inc:={i:=1},val:=fun c=>i64 c.i,new:=fun _ h=>h}
def callees(f:Nat):Option CallAnn:=
 match f with
 | 24=>some findCall
 | 64=>some (boolCall useR)
 | 65=>some (boolCall useR)
 | _=>none
def calleesBut(l:List Nat)(f:Nat):Option CallAnn:=if l.contains f then none else callees f
def loops(f id:Nat):Option LoopAnn:=
 match f,id with
 | 66,0=>some {inc:={i:=1},slots:=fun c=>[(5,i64 c.i)]}
 | 26,0=>some {pre:=[.slot 5 76],inc:={i:=2,v:=1,a:=8},slots:=fun c=>[(6,i64 c.i),(5,.vv c.v)],hp:=fun c h=>h.map fun | .sli true v 76 23 n cs=>if v=1 then .sli true v 76 23 n cs else rheld c.v (c.i+1) c.a | x=>x}
 | 24,0=>some {inc:={i:=1},slots:=fun c=>[(7,i64 c.i)]}
 | 25,0=>some {inc:={i:=1},slots:=fun c=>[(6,i64 c.i)]}
 | 64,0=>some {inc:={i:=2},slots:=fun c=>[(4,i64 c.i),(3,i64 (c.i+1))]}
 | 65,0=>some {inc:={i:=1},slots:=fun c=>[(5,i64 c.i)]}
 | _,_=>none
end Go.RX.Gu

namespace Go.RX
open Go.Proofs
abbrev Gb.rK(md:Bool)(v:V1)(n:Int)(A B C D E F G H:Nat→Int):HP:=sliHP md 76 23 v.v (Int.toNat n) (tabL (Int.toNat n) [colI .u8 16 A,colI .u64 1 B,colI .u8 1 C,colI .u8 1 D,colI .u64 1 E,colI .u64 1 F,colB 1 G,colI .u64 1 H])
abbrev Gb.qK(md:Bool)(v:V1)(n:Int)(A B C D E F:Nat→Int):HP:=sliHP md 38 21 v.v (Int.toNat n) (tabL (Int.toNat n) [colI .u8 16 A,colI .u64 1 B,colI .u8 1 C,colI .u8 1 D,colI .u64 1 E,colI .u64 1 F])
abbrev Gb.rC(x0 x1:Int)(s:Bool)(A:Nat→Int)(x3:Int)(v0 v1 v2:Value)(x4:Int):List Value:= .int .u8 x0::(.int .u8 x1::(.bool s::(List.append (segCells .u8 16 A) ([.int .u64 x3,v0,v1,v2,.int .u64 x4]))))
namespace Gu
noncomputable def cxB(l:List Nat):Ctx:={T:=TT,FT:=FT,loops:=Gu.loops,callees:=Gu.calleesBut l}
noncomputable abbrev cxT:=cxB [24]
noncomputable abbrev cxK:=cxB []
noncomputable abbrev cxH:=cxB [65]
noncomputable abbrev cxM:=cxB [64]
noncomputable abbrev cxU:=cxB [25]
end Gu
end Go.RX

namespace Go.RX.Ha
open Go.RX Go.RX.Gb Go.RX.Gf Go.RX.Gu
def lastMap(q:Ck→Bool)(f:Ck→Ck)(h:List Ck):List Ck:=
 match (h.reverse.findIdx? q)with
 | some k=>let j:=h.length - 1 - k;(List.range h.length).zip h |>.map fun(i,x)=>if i=j then f x else x
 | none=>h
def is76:Ck→Bool
 | .sli true _ 76 23 _ _=>true
 | _=>false
def is23:Ck→Bool
 | .sli true _ 23 2 _ _=>true
 | _=>false
def ends76(a:Nat):Ck→Ck
 | .sli true v 76 23 n cs=> .sli true v 76 23 n (cs.take 6++[⟨.bool,1,.avar a⟩,⟨.int .u64,1,.avar (a+1)⟩])
 | x=>x
def useM(az:List SV)(hp:List Ck):List Nat:=
 match az with
 | .agg [_,_,_,_,_,.vv a,.vv b,.vv c,_]::_=>[a,b,c].flatMap fun v=>(hp.findIdx? (isSli v)).toList
 | _=>[]
def mem3(i a v:Nat):List SV:=[u8 i,u8 (i+1),bl (i+2),id16 a,u64 (i+3),.vv 3,.vv v,.vv (v+1),u64 (i+4)]
def takeCall:CallAnn:={use:=useM,inc:={i:=8,v:=2,a:=15},val:=fun c=> .tup [.agg (mem3 c.i c.a c.v),i64 (c.i+5)],new:=fun c h=>match h with | m::_=>[m,rheld c.v (c.i+6) (c.a+1),rwait (c.v+1) (c.i+7) (c.a+9)] | l=>l}
def callees(f:Nat):Option CallAnn:=
 match f with
 | 25=>some takeCall
 | f=>Gu.callees f
def retell(v i a:Nat)(hp:List Ck):List Ck:=
 match slotV 6 0 hp,slotV 7 0 hp with
 | some h,some w=>hp.map fun
  | .row 0 wr _=> .row 0 wr (mem3 (i+1) a v)
  | .sli true v' 76 23 n cs=>if v'=h then rheld v (i+6) (a+1)else .sli true v' 76 23 n cs
  | .sli true v' 38 21 n cs=>if v'=w then rwait (v+1) (i+7) (a+9)else .sli true v' 38 21 n cs
  | x=>x
 | _,_=>hp
def loops(f id:Nat):Option LoopAnn:=
 match f,id with
 | 23,0=>some {inc:={i:=1,a:=2},slots:=fun c=>[(9,i64 c.i)],hp:=fun c h=>lastMap is76 (ends76 c.a) h}
 | 26,0=>some {pre:=[.slot 5 76],inc:={i:=2,v:=1,a:=8},slots:=fun c=>[(6,i64 c.i),(5,.vv c.v)],hp:=fun c h=>lastMap is76 (fun _=>rheld c.v (c.i+1) c.a) h}
 | 23,2=>some {pre:=[.cell 4 7 38],inc:={i:=8,v:=2,a:=15},slots:=fun c=>[(11,i64 c.i)],hp:=fun c h=>retell c.v c.i c.a h}
 | 23,4=>some {pre:=[.slot 12 23],inc:={i:=2,v:=1,a:=2},slots:=fun c=>[(13,i64 c.i),(12,.vv c.v)],hp:=fun c h=>lastMap is23 (fun _=>memOK c.v (c.i+1) c.a) h}
 | f,id=>Gu.loops f id
def entA:List SV:=[rmem 0 0 0,ros 8 17 3,u64 10]
def entHp:List Ck:=rHp++[memOK 3 9 18]
def entCnt:Cnt:={v:=4,i:=11,a:=20}
end Go.RX.Ha

namespace Go.RX.Gr
open Go.RX Go.RX.Gb
def T0:List TI:=[
 ⟨3,.int .i64,1,8,[.int .i64 (.lit 0)],[],[]⟩,
 ⟨5,.int .u8,1,1,[.int .u8 (.lit 0)],[],[]⟩,
 ⟨9,.str,1,16,[.str []],[],[]⟩,
 ⟨29,.int .u64,1,8,[.int .u64 (.lit 0)],[],[]⟩,
 ⟨33,.struct [(9,0)],1,16,[.str []],[(.str,1)],[]⟩,
 ⟨87,.slice 33,1,24,[.nils],[],[]⟩,
 ⟨127,.slice 5,1,24,[.nils],[],[]⟩,
 ⟨135,.ptr 137,1,8,[.nilp],[],[]⟩,
 ⟨137,.struct [(29,0)],1,8,[.int .u64 (.lit 0)],[(.int .u64,1)],[]⟩,
 ⟨232,.ptr 234,1,8,[.nilp],[],[]⟩,
 ⟨234,.bld [(232,0),(127,1)] 5,2,32,[.nilp,.nils],[],[]⟩]
def isBld(b:Nat):Ck→Bool
 | .bld b' .. =>b'==b
 | _=>false
def useB(az:List SV)(hp:List Ck):List Nat:=
 match az with
 | .ptr b _::_=>(hp.findIdx? (isBld b)).toList
 | _=>[]
def newB(c:Cnt):List Ck→List Ck
 | .bld b t e _ _::r=> .bld b t e (.var c.i) (.avar c.a)::r
 | l=>l
def wbCall:CallAnn:={use:=useB,inc:={i:=1,a:=1},val:=fun _=> .nili,new:=newB}
def wrCall:CallAnn:={use:=fun az hp=>useB az hp++(match az with | [_,v]=>useSli v hp | _=>[]),inc:={i:=2,a:=1},val:=fun c=> .tup [i64 (c.i+1),.nili],new:=newB}
def wsCall:CallAnn:={use:=useB,inc:={i:=2,a:=1},val:=fun c=> .tup [i64 (c.i+1),.nili],new:=newB}
def stCall:CallAnn:={use:=useB,inc:={i:=1},val:=fun c=>tm c.i,new:=fun _ _=>[]}
def beCall:CallAnn:={use:=fun _ _=>[],inc:={v:=1,a:=1},val:=fun c=> .vv c.v,new:=fun c h=>h++[.sli true c.v 5 1 (.lit 8) [⟨.int .u8,1,.avar c.a⟩]]}
def buCall:CallAnn:={use:=fun az hp=>match az with | [_,d,p]=>useSli d hp++useSli p hp | _=>[],inc:={i:=1},val:=fun c=> .agg [tm c.i],new:=fun _ _=>[]}
def atCall:CallAnn:={use:=fun _ _=>[],inc:={i:=1},val:=fun c=> .agg [tm c.i],new:=fun _ _=>[]}
def callees(f:Nat):Option CallAnn:=
 match f with
 | 104=>some wbCall
 | 105=>some wrCall
 | 106=>some wsCall
 | 107=>some stCall
 | 62=>some beCall
 | 61=>some buCall
 | 16=>some atCall
 | _=>none
def calleesBut(l:List Nat)(f:Nat):Option CallAnn:=if l.contains f then none else callees f
def loops(f id:Nat):Option LoopAnn:=
 match f,id with
 | 61,0=>some {inc:={i:=2,a:=1},slots:=fun c=>[(16,i64 c.i)],hp:=fun c h=>h.map fun | .bld b t e _ _=> .bld b t e (.var (c.i+1)) (.avar c.a) | x=>x}
 | _,_=>none
def byK(v n a:Nat):Ck:= .sli false v 5 1 (.var n) [⟨.int .u8,1,.avar a⟩]
def tmK(v n a:Nat):Ck:= .sli false v 33 1 (.var n) [⟨.sv,1,.avar a⟩]
def buA:List SV:=[u8 0,.vv 0,.vv 1]
def buHp:List Ck:=[byK 0 1 0,tmK 1 2 1]
def buCnt:Cnt:={v:=2,i:=3,a:=2}
def frA:List SV:=[.ptr 0 0]
def frHp:List Ck:=[.row 0 true [u64 0]]
def frCnt:Cnt:={b:=1,i:=1}
end Go.RX.Gr

namespace Go.RX.He
open Go.RX Go.RX.Gb Go.RX.Gf Go.RX.Gu
def boolK(md:Bool)(v:Nat)(n:E)(a:Nat):Ck:= .sli md v 4 1 n [⟨.bool,1,.avar a⟩]
def useV(az:List SV)(hp:List Ck):List Nat:=az.flatMap fun | .vv v=>(hp.findIdx? (isSli v)).toList | _=>[]
def listCall:CallAnn:={use:=useV,inc:={v:=1,i:=1,a:=2},val:=fun c=> .vv c.v,new:=fun c h=>h++[memOK c.v c.i c.a]}
def realCall:CallAnn:={use:=fun _ _=>[],inc:={i:=5,a:=1},val:=fun c=>distR c.i c.a,new:=fun _ h=>h}
def cloneHeld:CallAnn:={use:=useV,inc:={v:=1,i:=1,a:=8},val:=fun c=> .vv c.v,new:=fun c h=>h++[heldK c.v c.i c.a]}
def useRR(az:List SV)(hp:List Ck):List Nat:=az.flatMap fun | .agg cs=>(match lastV cs with | some v=>(hp.findIdx? (isSli v)).toList | none=>[]) | _=>[]
def sameCall:CallAnn:={use:=useRR,inc:={bo:=1},val:=fun c=> .bool (.var c.bo),new:=fun _ h=>h}
def rostCall:CallAnn:={use:=useK 6,inc:={v:=1,i:=2,a:=3,bo:=1},val:=fun c=> .tup [.agg [id16 c.a,u64 c.i,.vv c.v],.bool (.var c.bo)],new:=fun c h=>h++[memOK c.v (c.i+1) (c.a+1)]}
def ownCall:CallAnn:={use:=useK 7,inc:={i:=5,a:=1,bo:=1},val:=fun c=> .tup [distR c.i c.a,.bool (.var c.bo)],new:=fun _ h=>h}
def callees(f:Nat):Option CallAnn:=
 match f with
 | 12=>some realCall
 | 14=>some ownCall
 | 16=>some Gl.atomCall
 | 24=>some Gu.findCall
 | 55=>some listCall
 | 69=>some rostCall
 | 70=>some sameCall
 | 111=>some cloneHeld
 | _=>none
def calleesBut(l:List Nat)(f:Nat):Option CallAnn:=if l.contains f then none else callees f
def cntAt(b i:Nat):Ck→Ck
 | .row b' w cs=>if b'=b then .row b w [i64 i]else .row b' w cs
 | x=>x
def loops(f id:Nat):Option LoopAnn:=
 match f,id with
 | 10,0=>some {inc:={i:=1,a:=1},slots:=fun c=>[(8,i64 c.i)],hp:=fun c h=>h.map fun | .sli true v 4 1 n _=>boolK true v n c.a | x=>x}
 | 55,0=>some {pre:=[.slot 3 23],inc:={i:=2,v:=1,a:=2},slots:=fun c=>[(4,i64 c.i),(3,.vv c.v)],hp:=fun c h=>Ha.lastMap Ha.is23 (fun _=>memOK c.v (c.i+1) c.a) h}
 | 70,0=>some {inc:={i:=1,bo:=1},slots:=fun c=>[(6,i64 c.i),(5,.bool (.var c.bo))]}
 | 110,0=>some {inc:={i:=2},slots:=fun c=>[(13,i64 c.i)],hp:=fun c h=>h.map (cntAt 5 (c.i+1))}
 | _,_=>none
def partBy(b:BE)(st:St):Option GhostStep:=if st.known.contains b||st.known.contains (bNot b)then none else some {split:=some b}
def ghosts(f r:Nat):Option (St→Option GhostStep):=
 match f,r with
 | 10,4=>some fun st=>match look st.fr 4 with
  | some (.int .i64 e)=>partBy (bEq (eBin .band .u32 (eBin .shr .u32 (.var 1) e) (.lit 1)) (.lit 1)) st
  | _=>none
 | 29,11=>some fun st=>match look st.fr 10 with
  | some (.bool (.var q))=>partBy (.var q) st
  | _=>none
 | _,_=>none
def listA:List SV:=[.vv 0]
def listHp:List Ck:=[boolK true 0 (.lit 32) 0]
def listCnt:Cnt:={v:=1,a:=1}
def sameA:List SV:=[ros 0 0 0,ros 1 1 1]
def sameHp:List Ck:=[memOK 0 2 2,memOK 1 3 4]
def sameCnt:Cnt:={v:=2,i:=4,a:=6}
def clA:List SV:=[.vv 0]
def clHp:List Ck:=[heldK 0 0 0]
def clCnt:Cnt:={v:=1,i:=1,a:=8}
def newA:List SV:=[.ifp 135 0 0,dev 0]
def newHp:List Ck:=[.row 0 true [u64 2]]
def newCnt:Cnt:={b:=1,i:=3}
def agA:List SV:=[.ptr 0 0,rmem 6 11 3]
def agHp:List Ck:=[.row 0 true (memR 0 0 0),memOK 0 4 1,heldK 1 5 3,memOK 3 11 12,rheld 4 12 14]
def agCnt:Cnt:={b:=2,v:=6,i:=13,a:=22}
end Go.RX.He

namespace Go.RX.Hi
open Go.RX Go.RX.Gb Go.RX.Gf Go.RX.Gu Go.RX.He
def isAbs:Ck→Bool
 | .abs _=>true
 | _=>false
def useAbs(hp:List Ck):List Nat:=(hp.findIdx? isAbs).toList
def useIfp(az:List SV)(hp:List Ck):List Nat:=
 match az with
 | .ifp _ b _::_=>(hp.findIdx? (isRow b)).toList
 | _=>[]
def symCall:CallAnn:={use:=fun _ _=>[],inc:={b:=1,i:=1},val:=fun c=> .ifp 135 c.b 0,new:=fun c h=>h++[.row c.b true [u64 c.i]]}
def newCall:CallAnn:={use:=useIfp,inc:={b:=1,p:=1},val:=fun c=> .ptr c.b 0,new:=fun c _=>[.abs c.p]}
def ofCall:CallAnn:={use:=fun _ _=>[],inc:={v:=1,i:=2,a:=3},val:=fun c=>ros c.i c.a c.v,new:=fun c h=>h++[memOK c.v (c.i+1) (c.a+1)]}
def mNew(c:Cnt):List Ck:=[memOK c.v (c.i+5) (c.a+1),rheld (c.v+1) (c.i+6) (c.a+3),rwait (c.v+2) (c.i+7) (c.a+11)]
def mInc:Cnt:={i:=8,v:=3,a:=17}
def mVal(c:Cnt):SV:=rmem c.i c.a c.v
def outK(v n a:Nat):Ck:= .sli true v 74 23 (.var n) (Gl.outC a)
def entCall:CallAnn:={use:=fun az hp=>useAbs hp++useRR (az.drop 1) hp,inc:={p:=1,v:=1,i:=2,a:=8},val:=fun c=> .tup [.vv c.v,i64 c.i],new:=fun c h=>match h with | [_,r]=>[.abs c.p,r,outK c.v (c.i+1) c.a] | l=>l}
def rentCall:CallAnn:={use:=fun az hp=>Ha.useM az hp++useRR (az.drop 1) hp,inc:={i:=10,v:=4,a:=19},val:=fun c=> .tup [mVal c,.vv (c.v+3),i64 (c.i+8)],new:=fun c _=>mNew c++[memOK (c.v+3) (c.i+9) (c.a+17)]}
def rtakeCall:CallAnn:={use:=Ha.useM,inc:={i:=9,v:=3,a:=17},val:=fun c=> .tup [mVal c,i64 (c.i+8)],new:=fun c _=>mNew c}
def rtickCall:CallAnn:={use:=Ha.useM,inc:=mInc,val:=mVal,new:=fun c _=>mNew c}
def takeCall:CallAnn:={use:=fun _ hp=>useAbs hp,inc:={p:=1,i:=1},val:=fun c=>i64 c.i,new:=fun c _=>[.abs c.p]}
def tickCall:CallAnn:={use:=fun _ hp=>useAbs hp,inc:={p:=1},val:=fun _=> .tup [],new:=fun c _=>[.abs c.p]}
def keyCall:CallAnn:={use:=fun _ hp=>useAbs hp,inc:={i:=2},val:=fun c=> .tup [.agg [tm c.i],i64 (c.i+1)],new:=fun _ h=>h}
def useHeld(az:List SV)(hp:List Ck):List Nat:=match az with | m::_=>(match heldOf m with | some v=>(hp.findIdx? (isSli v)).toList | none=>[]) | _=>[]
def rkeyCall:CallAnn:={use:=useHeld,inc:={i:=2},val:=fun c=> .tup [u64 c.i,i64 (c.i+1)],new:=fun _ h=>h}
def agCall:CallAnn:={use:=fun az hp=>useAbs hp++(Ha.useM (az.drop 1) hp).take 2,inc:={bo:=1},val:=fun c=> .bool (.var c.bo),new:=fun _ h=>h}
def knownCall:CallAnn:={use:=fun _ _=>[],val:=fun _=> .bool (.lit true),new:=fun _ _=>[]}
def callees(f:Nat):Option CallAnn:=
 match f with
 | 6=>some knownCall
 | 7=>some symCall
 | 8=>some newCall
 | 9=>some entCall
 | 10=>some ofCall
 | 11=>some takeCall
 | 12=>some realCall
 | 13=>some tickCall
 | 16=>some Gl.atomCall
 | 23=>some rentCall
 | 24=>some Gu.findCall
 | 25=>some rtakeCall
 | 26=>some rtickCall
 | 27=>some keyCall
 | 28=>some rkeyCall
 | 29=>some agCall
 | _=>none
def retell(c:Cnt)(h:List Ck):List Ck:=
 match h with
 | l::s:: .row b w _::_::_::_::_::r=>l::s:: .row b w [u8 c.i,u8 (c.i+1),bl (c.i+2),id16 c.a,u64 (c.i+3),.vv c.v,.vv (c.v+1),.vv (c.v+2),u64 (c.i+4)]:: .abs c.p::mNew c++r
 | h=>h
def loops(f id:Nat):Option LoopAnn:=
 match f,id with
 | 4,0=>some {pre:=[.cell 2 5 23,.cell 2 6 76,.cell 2 7 38],inc:={i:=9,v:=3,a:=17,p:=1},slots:=fun c=>[(37,i64 (c.i+8))],hp:=retell}
 | 4,3=>some {inc:={i:=1},slots:=fun c=>[(77,i64 c.i)]}
 | _,_=>none
def wRow0:List SV:=[u8 0,u8 1,.bool (.lit false),.seg .u8 16 (.lit 0),.int .u64 (.lit 0),.nils,.nils,.nils,.int .u64 (.lit 4294967296)]
def order5(st:St):Option GhostStep:=
 match st.hp with
 | [_,_,.abs _,_]=>some {pick:=some [0,1,3,2]}
 | _=>none
def joins(f id:Nat):Option JoinAnn:=
 match f,id with
 | 4,100005=>some {inc:={b:=2,p:=1},slots:=fun c=>[(5,.ptr c.b 0),(6,.ptr (c.b+1) 0)],hp:=fun c h=>h++[.row (c.b+1) true wRow0,.abs c.p],gh:=order5}
 | 4,2=>some {inc:={i:=8,v:=3,a:=17,p:=1},slots:=fun _=>[],hp:=retell}
 | _,_=>none
def doCols:List Col:=[⟨.int .u8,1,.avar 0⟩,⟨.int .u32,1,.avar 1⟩,⟨.int .u64,1,.avar 2⟩,⟨.int .u8,16,.avar 3⟩,⟨.int .u64,1,.avar 4⟩,⟨.int .u8,16,.avar 5⟩,⟨.int .u64,1,.avar 6⟩,⟨.int .u8,1,.avar 7⟩,⟨.int .u8,1,.avar 8⟩,⟨.int .u64,1,.avar 9⟩,⟨.int .u64,1,.avar 10⟩,⟨.int .u8,1,.avar 11⟩,⟨.int .u8,1,.avar 12⟩,⟨.int .u64,1,.avar 13⟩,⟨.int .u64,1,.avar 14⟩,⟨.int .u64,1,.avar 15⟩]
def lawA:List SV:=[dev 0,.vv 0]
def lawHp:List Ck:=[.sli false 0 40 46 (.var 2) doCols]
def lawCnt:Cnt:={v:=1,i:=3,a:=16}
end Go.RX.Hi

namespace Go.RX.Ia
open Go.RX Go.RX.Gb Go.RX.Gf Go.RX.He
def tmG(i:Nat):SV:= .agg [tm i]
def tmL(md:Bool)(v:Nat)(n:E)(a:Nat):Ck:= .sli md v 33 1 n [⟨.sv,1,.avar a⟩]
def useVS(az:List SV)(hp:List Ck):List Nat:=az.flatMap fun | .vv v=>(hp.findIdx? (isSli v)).toList | .sl b _ _ _ _=>(hp.findIdx? (isRow b)).toList | _=>[]
def oneTm:CallAnn:={use:=useVS,inc:={i:=1},val:=fun c=>tmG c.i,new:=fun _ _=>[]}
def pureTm:CallAnn:={use:=fun _ _=>[],inc:={i:=1},val:=fun c=>tmG c.i,new:=fun _ h=>h}
def tmErr:CallAnn:={use:=fun _ _=>[],inc:={i:=2},val:=fun c=> .tup [tmG c.i,i64 (c.i+1)],new:=fun _ h=>h}
def rowB(az:List SV)(hp:List Ck):List Nat:=match az with | .ptr b _::_=>(hp.findIdx? (isRow b)).toList | _=>[]
def lockCall:CallAnn:={use:=rowB,inc:={i:=2},val:=fun c=> .tup [tmG c.i,i64 (c.i+1)],new:=fun _ h=>h}
def keyCall:CallAnn:={use:=useK 7,inc:={i:=2},val:=fun c=> .tup [tmG c.i,i64 (c.i+1)],new:=fun _ h=>h}
def headCall:CallAnn:={use:=fun _ _=>[],inc:={i:=2},val:=fun c=> .tup [i64 c.i,i64 (c.i+1)],new:=fun _ h=>h}
def head2Call:CallAnn:={use:=fun _ _=>[],val:=fun _=> .tup [.int .i64 (.lit 1),.int .i64 (.lit 2)],new:=fun _ h=>h}
def sizeCall:CallAnn:={use:=fun _ _=>[],inc:={i:=1},val:=fun c=>i64 c.i,new:=fun _ h=>h}
def twoCall:CallAnn:={use:=fun _ _=>[],inc:={i:=2},val:=fun c=> .tup [tmG c.i,tmG (c.i+1)],new:=fun _ h=>h}
def callees(f:Nat):Option CallAnn:=
 match f with
 | 14=>some ownCall
 | 16=>some Gl.atomCall
 | 18=>some tmErr
 | 19=>some pureTm
 | 27=>some keyCall
 | 61=>some oneTm
 | 62=>some Gr.beCall
 | 63=>some lockCall
 | 78=>some twoCall
 | 117=>some headCall
 | 118=>some sizeCall
 | 255=>some oneTm
 | 256=>some pureTm
 | 261=>some oneTm
 | 262=>some Gr.beCall
 | 263=>some tmErr
 | _=>none
def calleesBut(l:List Nat)(f:Nat):Option CallAnn:=if l.contains f then none else callees f
def callees2(f:Nat):Option CallAnn:=if f=117 then some head2Call else calleesBut [78] f
def isTm:Ck→Bool
 | .sli true _ 33 1 _ _=>true
 | _=>false
def cellTm(i:Nat):Ck→Ck
 | .row b true [.strE _]=> .row b true [tm i]
 | x=>x
def loops(f id:Nat):Option LoopAnn:=
 match f,id with
 | 256,0=>some {pre:=[.slot 5 33],inc:={i:=2,v:=1,a:=1},slots:=fun c=>[(11,i64 c.i),(5,.vv c.v)],hp:=fun c h=>Ha.lastMap isTm (fun _=>tmL true c.v (.var (c.i+1)) c.a) h}
 | 18,1=>some {inc:={i:=2},slots:=fun c=>[(18,u64 c.i)],hp:=fun c h=>h.map (cellTm (c.i+1))}
 | 118,0=>some {inc:={i:=2},slots:=fun c=>[(3,i64 c.i),(4,i64 (c.i+1))]}
 | _,_=>none
def hashA:List SV:=[u8 0,.vv 0]
def hashHp:List Ck:=[tmL false 0 (.var 1) 0]
def hashCnt:Cnt:={v:=1,i:=2,a:=1}
def shashA:List SV:=[.ptr 0 0,u8 0,.vv 0]
def shashCnt:Cnt:={b:=1,v:=1,i:=2,a:=1}
def lockA:List SV:=[.ptr 0 0,tmG 4,u64 5,u64 6]
def lockHp:List Ck:=[.row 0 true (memR 0 0 0)]
def lockCnt:Cnt:={b:=2,v:=3,i:=7,a:=1}
def frA:List SV:=[.ptr 0 0,u64 5,u64 6,tmG 7]
def frHp:List Ck:=[.row 0 true (memR 0 0 0),heldK 1 4 1]
def frCnt:Cnt:={b:=2,v:=3,i:=8,a:=9}
def unA:List SV:=[.ptr 0 0,dev 5,u64 7,u64 8,u64 9,tmG 10]
def unCnt:Cnt:={b:=2,v:=3,i:=11,a:=9}
end Go.RX.Ia
