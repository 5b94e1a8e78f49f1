/- What the executor is told of the document's member. · The document's member: short names in formulas; the executor's contexts. · What the executor is told of the document's Enter. · What the executor is told of terms that are built. · What the executor is told of the law's own functions: a roster by bits, a distribution of an atom, whether a member stands az the document's. · What the executor is told of GroupPlays itself: the program's member is one abstract part of memory. · What the executor is told of terms: hashes, numbers, what is sealed and opened; of a member's frames. · What the executor is told of the chapter's rows (known): each member is one abstract part of memory. · The chapter's rows: the executor's contexts. · The group's functions: what is left to be shown; printed by a program of ours (wip/tools/g10.lean). · Terms and frames: the executor's contexts. -/
import Derived.Test.YtfnaoeleljhmhaaGreatM29

namespace Go.RX.Gu
open Go.RX Go.RX.Gb Go.RX.Gf
def rwC(a:Nat):List Col:=[⟨.int .u8,16,.avar a⟩,⟨.int .u64,1,.avar (a+1)⟩,⟨.int .u8,1,.avar (a+2)⟩,⟨.int .u8,1,.avar (a+3)⟩,⟨.int .u64,1,.avar (a+4)⟩,⟨.int .u64,1,.avar (a+5)⟩]
def rhC(a:Nat):List Col:=rwC a++[⟨.bool,1,.avar (a+6)⟩,⟨.int .u64,1,.avar (a+7)⟩]
def rheld(v n a:Nat):Ck:= .sli true v 76 23 (.var n) (rhC a)
def rwait(v n a:Nat):Ck:= .sli true v 38 21 (.var n) (rwC a)
def rdist(i a:Nat):SV:= .agg [id16 a,u64 i,u8 (i+1),u8 (i+2),u64 (i+3),u64 (i+4)]
def rmem(i a v:Nat):SV:= .agg [u8 i,u8 (i+1),bl (i+2),id16 a,u64 (i+3),.vv v,.vv (v+1),.vv (v+2),u64 (i+4)]
def rHp:List Ck:=[memOK 0 5 1,rheld 1 6 3,rwait 2 7 11]
def holdA:List SV:=[rmem 0 0 0,rdist 7 11]
def tickA:List SV:=[rmem 0 0 0,u64 7]
def findA:List SV:=[rmem 0 0 0,dev 7,u64 9]
def takeA:List SV:=[rmem 0 0 0,rdist 8 17]
def heldOf:SV→Option Nat
 | .agg (_::_::_::_::_::_:: .vv v::_)=>some v
 | _=>none
def findCall:CallAnn:={use:=fun az hp=>match az with | m::_=>(match heldOf m with | some v=>(hp.findIdx? (isSli v)).toList | none=>[]) | _=>[],inc:={i:=1},val:=fun c=>i64 c.i,new:=fun _ h=>h}
def callees(f:Nat):Option CallAnn:=
 match f with
 | 24=>some findCall
 | 64=>some (boolCall useR)
 | 65=>some (boolCall useR)
 | _=>none
def calleesBut(l:List Nat)(f:Nat):Option CallAnn:=if l.contains f then none else callees f
def loops(f id:Nat):Option LoopAnn:=
 match f,id with
 | 66,0=>some {inc:={i:=1},slots:=fun c=>[(5,i64 c.i)]}
 | 26,0=>some {pre:=[.slot 5 76],inc:={i:=2,v:=1,a:=8},slots:=fun c=>[(6,i64 c.i),(5,.vv c.v)],hp:=fun c h=>h.map fun | .sli true v 76 23 n cs=>if v=1 then .sli true v 76 23 n cs else rheld c.v (c.i+1) c.a | x=>x}
 | 24,0=>some {inc:={i:=1},slots:=fun c=>[(7,i64 c.i)]}
 | 25,0=>some {inc:={i:=1},slots:=fun c=>[(6,i64 c.i)]}
 | 64,0=>some {inc:={i:=2},slots:=fun c=>[(4,i64 c.i),(3,i64 (c.i+1))]}
 | 65,0=>some {inc:={i:=1},slots:=fun c=>[(5,i64 c.i)]}
 | _,_=>none
end Go.RX.Gu

namespace Go.RX
open Go.Proofs
abbrev Gb.rK(md:Bool)(v:V1)(n:Int)(A B C D E F G H:Nat→Int):HP:=sliHP md 76 23 v.v (Int.toNat n) (tabL (Int.toNat n) [colI .u8 16 A,colI .u64 1 B,colI .u8 1 C,colI .u8 1 D,colI .u64 1 E,colI .u64 1 F,colB 1 G,colI .u64 1 H])
abbrev Gb.rC(x0 x1:Int)(s:Bool)(A:Nat→Int)(x3:Int)(v0 v1 v2:Value)(x4:Int):List Value:= .int .u8 x0::(.int .u8 x1::(.bool s::(List.append (segCells .u8 16 A) ([.int .u64 x3,v0,v1,v2,.int .u64 x4]))))
namespace Gu
noncomputable def cxB(l:List Nat):Ctx:={T:=TT,FT:=FT,loops:=Gu.loops,callees:=Gu.calleesBut l}
noncomputable abbrev cxT:=cxB [24]
noncomputable abbrev cxK:=cxB []
noncomputable abbrev cxH:=cxB [65]
noncomputable abbrev cxM:=cxB [64]
noncomputable abbrev cxU:=cxB [25]
end Gu
end Go.RX

namespace Go.RX.Ha
open Go.RX Go.RX.Gb Go.RX.Gf Go.RX.Gu
def lastMap(q:Ck→Bool)(f:Ck→Ck)(h:List Ck):List Ck:=
 match (h.reverse.findIdx? q)with
 | some k=>let j:=h.length - 1 - k;(List.range h.length).zip h |>.map fun(i,x)=>if i=j then f x else x
 | none=>h
def is76:Ck→Bool
 | .sli true _ 76 23 _ _=>true
 | _=>false
def is23:Ck→Bool
 | .sli true _ 23 2 _ _=>true
 | _=>false
def ends76(a:Nat):Ck→Ck
 | .sli true v 76 23 n cs=> .sli true v 76 23 n (cs.take 6++[⟨.bool,1,.avar a⟩,⟨.int .u64,1,.avar (a+1)⟩])
 | x=>x
def useM(az:List SV)(hp:List Ck):List Nat:=
 match az with
 | .agg [_,_,_,_,_,.vv a,.vv b,.vv c,_]::_=>[a,b,c].flatMap fun v=>(hp.findIdx? (isSli v)).toList
 | _=>[]
def mem3(i a v:Nat):List SV:=[u8 i,u8 (i+1),bl (i+2),id16 a,u64 (i+3),.vv 3,.vv v,.vv (v+1),u64 (i+4)]
def takeCall:CallAnn:={use:=useM,inc:={i:=8,v:=2,a:=15},val:=fun c=> .tup [.agg (mem3 c.i c.a c.v),i64 (c.i+5)],new:=fun c h=>match h with | m::_=>[m,rheld c.v (c.i+6) (c.a+1),rwait (c.v+1) (c.i+7) (c.a+9)] | l=>l}
def callees(f:Nat):Option CallAnn:=
 match f with
 | 25=>some takeCall
 | f=>Gu.callees f
def retell(v i a:Nat)(hp:List Ck):List Ck:=
 match slotV 6 0 hp,slotV 7 0 hp with
 | some h,some w=>hp.map fun
  | .row 0 wr _=> .row 0 wr (mem3 (i+1) a v)
  | .sli true v' 76 23 n cs=>if v'=h then rheld v (i+6) (a+1)else .sli true v' 76 23 n cs
  | .sli true v' 38 21 n cs=>if v'=w then rwait (v+1) (i+7) (a+9)else .sli true v' 38 21 n cs
  | x=>x
 | _,_=>hp
def loops(f id:Nat):Option LoopAnn:=
 match f,id with
 | 23,0=>some {inc:={i:=1,a:=2},slots:=fun c=>[(9,i64 c.i)],hp:=fun c h=>lastMap is76 (ends76 c.a) h}
 | 26,0=>some {pre:=[.slot 5 76],inc:={i:=2,v:=1,a:=8},slots:=fun c=>[(6,i64 c.i),(5,.vv c.v)],hp:=fun c h=>lastMap is76 (fun _=>rheld c.v (c.i+1) c.a) h}
 | 23,2=>some {pre:=[.cell 4 7 38],inc:={i:=8,v:=2,a:=15},slots:=fun c=>[(11,i64 c.i)],hp:=fun c h=>retell c.v c.i c.a h}
 | 23,4=>some {pre:=[.slot 12 23],inc:={i:=2,v:=1,a:=2},slots:=fun c=>[(13,i64 c.i),(12,.vv c.v)],hp:=fun c h=>lastMap is23 (fun _=>memOK c.v (c.i+1) c.a) h}
 | f,id=>Gu.loops f id
def entA:List SV:=[rmem 0 0 0,ros 8 17 3,u64 10]
def entHp:List Ck:=rHp++[memOK 3 9 18]
def entCnt:Cnt:={v:=4,i:=11,a:=20}
end Go.RX.Ha

namespace Go.RX.Gr
open Go.RX Go.RX.Gb
def T0:List TI:=[
 ⟨3,.int .i64,1,8,[.int .i64 (.lit 0)],[],[]⟩,
 ⟨5,.int .u8,1,1,[.int .u8 (.lit 0)],[],[]⟩,
 ⟨9,.str,1,16,[.str []],[],[]⟩,
 ⟨29,.int .u64,1,8,[.int .u64 (.lit 0)],[],[]⟩,
 ⟨33,.struct [(9,0)],1,16,[.str []],[(.str,1)],[]⟩,
 ⟨87,.slice 33,1,24,[.nils],[],[]⟩,
 ⟨127,.slice 5,1,24,[.nils],[],[]⟩,
 ⟨135,.ptr 137,1,8,[.nilp],[],[]⟩,
 ⟨137,.struct [(29,0)],1,8,[.int .u64 (.lit 0)],[(.int .u64,1)],[]⟩,
 ⟨232,.ptr 234,1,8,[.nilp],[],[]⟩,
 ⟨234,.bld [(232,0),(127,1)] 5,2,32,[.nilp,.nils],[],[]⟩]
def isBld(b:Nat):Ck→Bool
 | .bld b' .. =>b'==b
 | _=>false
def useB(az:List SV)(hp:List Ck):List Nat:=
 match az with
 | .ptr b _::_=>(hp.findIdx? (isBld b)).toList
 | _=>[]
def newB(c:Cnt):List Ck→List Ck
 | .bld b t e _ _::r=> .bld b t e (.var c.i) (.avar c.a)::r
 | l=>l
def wbCall:CallAnn:={use:=useB,inc:={i:=1,a:=1},val:=fun _=> .nili,new:=newB}
def wrCall:CallAnn:={use:=fun az hp=>useB az hp++(match az with | [_,v]=>useSli v hp | _=>[]),inc:={i:=2,a:=1},val:=fun c=> .tup [i64 (c.i+1),.nili],new:=newB}
def wsCall:CallAnn:={use:=useB,inc:={i:=2,a:=1},val:=fun c=> .tup [i64 (c.i+1),.nili],new:=newB}
def stCall:CallAnn:={use:=useB,inc:={i:=1},val:=fun c=>tm c.i,new:=fun _ _=>[]}
def beCall:CallAnn:={use:=fun _ _=>[],inc:={v:=1,a:=1},val:=fun c=> .vv c.v,new:=fun c h=>h++[.sli true c.v 5 1 (.lit 8) [⟨.int .u8,1,.avar c.a⟩]]}
def buCall:CallAnn:={use:=fun az hp=>match az with | [_,d,p]=>useSli d hp++useSli p hp | _=>[],inc:={i:=1},val:=fun c=> .agg [tm c.i],new:=fun _ _=>[]}
def atCall:CallAnn:={use:=fun _ _=>[],inc:={i:=1},val:=fun c=> .agg [tm c.i],new:=fun _ _=>[]}
def callees(f:Nat):Option CallAnn:=
 match f with
 | 104=>some wbCall
 | 105=>some wrCall
 | 106=>some wsCall
 | 107=>some stCall
 | 62=>some beCall
 | 61=>some buCall
 | 16=>some atCall
 | _=>none
def calleesBut(l:List Nat)(f:Nat):Option CallAnn:=if l.contains f then none else callees f
def loops(f id:Nat):Option LoopAnn:=
 match f,id with
 | 61,0=>some {inc:={i:=2,a:=1},slots:=fun c=>[(16,i64 c.i)],hp:=fun c h=>h.map fun | .bld b t e _ _=> .bld b t e (.var (c.i+1)) (.avar c.a) | x=>x}
 | _,_=>none
def byK(v n a:Nat):Ck:= .sli false v 5 1 (.var n) [⟨.int .u8,1,.avar a⟩]
def tmK(v n a:Nat):Ck:= .sli false v 33 1 (.var n) [⟨.sv,1,.avar a⟩]
def buA:List SV:=[u8 0,.vv 0,.vv 1]
def buHp:List Ck:=[byK 0 1 0,tmK 1 2 1]
def buCnt:Cnt:={v:=2,i:=3,a:=2}
def frA:List SV:=[.ptr 0 0]
def frHp:List Ck:=[.row 0 true [u64 0]]
def frCnt:Cnt:={b:=1,i:=1}
end Go.RX.Gr

namespace Go.RX.He
open Go.RX Go.RX.Gb Go.RX.Gf Go.RX.Gu
def boolK(md:Bool)(v:Nat)(n:E)(a:Nat):Ck:= .sli md v 4 1 n [⟨.bool,1,.avar a⟩]
def useV(az:List SV)(hp:List Ck):List Nat:=az.flatMap fun | .vv v=>(hp.findIdx? (isSli v)).toList | _=>[]
def listCall:CallAnn:={use:=useV,inc:={v:=1,i:=1,a:=2},val:=fun c=> .vv c.v,new:=fun c h=>h++[memOK c.v c.i c.a]}
def realCall:CallAnn:={use:=fun _ _=>[],inc:={i:=5,a:=1},val:=fun c=>distR c.i c.a,new:=fun _ h=>h}
def cloneHeld:CallAnn:={use:=useV,inc:={v:=1,i:=1,a:=8},val:=fun c=> .vv c.v,new:=fun c h=>h++[heldK c.v c.i c.a]}
def useRR(az:List SV)(hp:List Ck):List Nat:=az.flatMap fun | .agg cs=>(match lastV cs with | some v=>(hp.findIdx? (isSli v)).toList | none=>[]) | _=>[]
def sameCall:CallAnn:={use:=useRR,inc:={bo:=1},val:=fun c=> .bool (.var c.bo),new:=fun _ h=>h}
def rostCall:CallAnn:={use:=useK 6,inc:={v:=1,i:=2,a:=3,bo:=1},val:=fun c=> .tup [.agg [id16 c.a,u64 c.i,.vv c.v],.bool (.var c.bo)],new:=fun c h=>h++[memOK c.v (c.i+1) (c.a+1)]}
def ownCall:CallAnn:={use:=useK 7,inc:={i:=5,a:=1,bo:=1},val:=fun c=> .tup [distR c.i c.a,.bool (.var c.bo)],new:=fun _ h=>h}
def callees(f:Nat):Option CallAnn:=
 match f with
 | 12=>some realCall
 | 14=>some ownCall
 | 16=>some Gl.atomCall
 | 24=>some Gu.findCall
 | 55=>some listCall
 | 69=>some rostCall
 | 70=>some sameCall
 | 111=>some cloneHeld
 | _=>none
def calleesBut(l:List Nat)(f:Nat):Option CallAnn:=if l.contains f then none else callees f
def cntAt(b i:Nat):Ck→Ck
 | .row b' w cs=>if b'=b then .row b w [i64 i]else .row b' w cs
 | x=>x
def loops(f id:Nat):Option LoopAnn:=
 match f,id with
 | 10,0=>some {inc:={i:=1,a:=1},slots:=fun c=>[(8,i64 c.i)],hp:=fun c h=>h.map fun | .sli true v 4 1 n _=>boolK true v n c.a | x=>x}
 | 55,0=>some {pre:=[.slot 3 23],inc:={i:=2,v:=1,a:=2},slots:=fun c=>[(4,i64 c.i),(3,.vv c.v)],hp:=fun c h=>Ha.lastMap Ha.is23 (fun _=>memOK c.v (c.i+1) c.a) h}
 | 70,0=>some {inc:={i:=1,bo:=1},slots:=fun c=>[(6,i64 c.i),(5,.bool (.var c.bo))]}
 | 110,0=>some {inc:={i:=2},slots:=fun c=>[(13,i64 c.i)],hp:=fun c h=>h.map (cntAt 5 (c.i+1))}
 | _,_=>none
def partBy(b:BE)(st:St):Option GhostStep:=if st.known.contains b||st.known.contains (bNot b)then none else some {split:=some b}
def ghosts(f r:Nat):Option (St→Option GhostStep):=
 match f,r with
 | 10,4=>some fun st=>match look st.fr 4 with
  | some (.int .i64 e)=>partBy (bEq (eBin .band .u32 (eBin .shr .u32 (.var 1) e) (.lit 1)) (.lit 1)) st
  | _=>none
 | 29,11=>some fun st=>match look st.fr 10 with
  | some (.bool (.var q))=>partBy (.var q) st
  | _=>none
 | _,_=>none
def listA:List SV:=[.vv 0]
def listHp:List Ck:=[boolK true 0 (.lit 32) 0]
def listCnt:Cnt:={v:=1,a:=1}
def newA:List SV:=[.ifp 135 0 0,dev 0]
def newHp:List Ck:=[.row 0 true [u64 2]]
def newCnt:Cnt:={b:=1,i:=3}
end Go.RX.He

namespace Go.RX.Hi
open Go.RX Go.RX.Gb Go.RX.Gf Go.RX.Gu Go.RX.He
def isAbs:Ck→Bool
 | .abs _=>true
 | _=>false
def useAbs(hp:List Ck):List Nat:=(hp.findIdx? isAbs).toList
def useIfp(az:List SV)(hp:List Ck):List Nat:=
 match az with
 | .ifp _ b _::_=>(hp.findIdx? (isRow b)).toList
 | _=>[]
def symCall:CallAnn:={use:=fun _ _=>[],inc:={b:=1,i:=1},val:=fun c=> .ifp 135 c.b 0,new:=fun c h=>h++[.row c.b true [u64 c.i]]}
def newCall:CallAnn:={use:=useIfp,inc:={b:=1,p:=1},val:=fun c=> .ptr c.b 0,new:=fun c _=>[.abs c.p]}
def ofCall:CallAnn:={use:=fun _ _=>[],inc:={v:=1,i:=2,a:=3},val:=fun c=>ros c.i c.a c.v,new:=fun c h=>h++[memOK c.v (c.i+1) (c.a+1)]}
def mNew(c:Cnt):List Ck:=[memOK c.v (c.i+5) (c.a+1),rheld (c.v+1) (c.i+6) (c.a+3),rwait (c.v+2) (c.i+7) (c.a+11)]
def mInc:Cnt:={i:=8,v:=3,a:=17}
def mVal(c:Cnt):SV:=rmem c.i c.a c.v
def outK(v n a:Nat):Ck:= .sli true v 74 23 (.var n) (Gl.outC a)
def entCall:CallAnn:={use:=fun az hp=>useAbs hp++useRR (az.drop 1) hp,inc:={p:=1,v:=1,i:=2,a:=8},val:=fun c=> .tup [.vv c.v,i64 c.i],new:=fun c h=>match h with | [_,r]=>[.abs c.p,r,outK c.v (c.i+1) c.a] | l=>l}
def rentCall:CallAnn:={use:=fun az hp=>Ha.useM az hp++useRR (az.drop 1) hp,inc:={i:=10,v:=4,a:=19},val:=fun c=> .tup [mVal c,.vv (c.v+3),i64 (c.i+8)],new:=fun c _=>mNew c++[memOK (c.v+3) (c.i+9) (c.a+17)]}
def rtakeCall:CallAnn:={use:=Ha.useM,inc:={i:=9,v:=3,a:=17},val:=fun c=> .tup [mVal c,i64 (c.i+8)],new:=fun c _=>mNew c}
def rtickCall:CallAnn:={use:=Ha.useM,inc:=mInc,val:=mVal,new:=fun c _=>mNew c}
def takeCall:CallAnn:={use:=fun _ hp=>useAbs hp,inc:={p:=1,i:=1},val:=fun c=>i64 c.i,new:=fun c _=>[.abs c.p]}
def tickCall:CallAnn:={use:=fun _ hp=>useAbs hp,inc:={p:=1},val:=fun _=> .tup [],new:=fun c _=>[.abs c.p]}
def keyCall:CallAnn:={use:=fun _ hp=>useAbs hp,inc:={i:=2},val:=fun c=> .tup [.agg [tm c.i],i64 (c.i+1)],new:=fun _ h=>h}
def useHeld(az:List SV)(hp:List Ck):List Nat:=match az with | m::_=>(match heldOf m with | some v=>(hp.findIdx? (isSli v)).toList | none=>[]) | _=>[]
def rkeyCall:CallAnn:={use:=useHeld,inc:={i:=2},val:=fun c=> .tup [u64 c.i,i64 (c.i+1)],new:=fun _ h=>h}
def agCall:CallAnn:={use:=fun az hp=>useAbs hp++(Ha.useM (az.drop 1) hp).take 2,inc:={bo:=1},val:=fun c=> .bool (.var c.bo),new:=fun _ h=>h}
def knownCall:CallAnn:={use:=fun _ _=>[],val:=fun _=> .bool (.lit true),new:=fun _ _=>[]}
def callees(f:Nat):Option CallAnn:=
 match f with
 | 6=>some knownCall
 | 7=>some symCall
 | 8=>some newCall
 | 9=>some entCall
 | 10=>some ofCall
 | 11=>some takeCall
 | 12=>some realCall
 | 13=>some tickCall
 | 16=>some Gl.atomCall
 | 23=>some rentCall
 | 24=>some Gu.findCall
 | 25=>some rtakeCall
 | 26=>some rtickCall
 | 27=>some keyCall
 | 28=>some rkeyCall
 | 29=>some agCall
 | _=>none
def retell(c:Cnt)(h:List Ck):List Ck:=
 match h with
 | l::s:: .row b w _::_::_::_::_::r=>l::s:: .row b w [u8 c.i,u8 (c.i+1),bl (c.i+2),id16 c.a,u64 (c.i+3),.vv c.v,.vv (c.v+1),.vv (c.v+2),u64 (c.i+4)]:: .abs c.p::mNew c++r
 | h=>h
def loops(f id:Nat):Option LoopAnn:=
 match f,id with
 | 4,0=>some {pre:=[.cell 2 5 23,.cell 2 6 76,.cell 2 7 38],inc:={i:=9,v:=3,a:=17,p:=1},slots:=fun c=>[(37,i64 (c.i+8))],hp:=retell}
 | 4,3=>some {inc:={i:=1},slots:=fun c=>[(77,i64 c.i)]}
 | _,_=>none
def wRow0:List SV:=[u8 0,u8 1,.bool (.lit false),.seg .u8 16 (.lit 0),.int .u64 (.lit 0),.nils,.nils,.nils,.int .u64 (.lit 4294967296)]
def order5(st:St):Option GhostStep:=
 match st.hp with
 | [_,_,.abs _,_]=>some {pick:=some [0,1,3,2]}
 | _=>none
def joins(f id:Nat):Option JoinAnn:=
 match f,id with
 | 4,100005=>some {inc:={b:=2,p:=1},slots:=fun c=>[(5,.ptr c.b 0),(6,.ptr (c.b+1) 0)],hp:=fun c h=>h++[.row (c.b+1) true wRow0,.abs c.p],gh:=order5}
 | 4,2=>some {inc:={i:=8,v:=3,a:=17,p:=1},slots:=fun _=>[],hp:=retell}
 | _,_=>none
def doCols:List Col:=[⟨.int .u8,1,.avar 0⟩,⟨.int .u32,1,.avar 1⟩,⟨.int .u64,1,.avar 2⟩,⟨.int .u8,16,.avar 3⟩,⟨.int .u64,1,.avar 4⟩,⟨.int .u8,16,.avar 5⟩,⟨.int .u64,1,.avar 6⟩,⟨.int .u8,1,.avar 7⟩,⟨.int .u8,1,.avar 8⟩,⟨.int .u64,1,.avar 9⟩,⟨.int .u64,1,.avar 10⟩,⟨.int .u8,1,.avar 11⟩,⟨.int .u8,1,.avar 12⟩,⟨.int .u64,1,.avar 13⟩,⟨.int .u64,1,.avar 14⟩,⟨.int .u64,1,.avar 15⟩]
def lawA:List SV:=[dev 0,.vv 0]
def lawHp:List Ck:=[.sli false 0 40 46 (.var 2) doCols]
def lawCnt:Cnt:={v:=1,i:=3,a:=16}
end Go.RX.Hi

namespace Go.RX.Ia
open Go.RX Go.RX.Gb Go.RX.Gf Go.RX.He
def tmG(i:Nat):SV:= .agg [tm i]
def tmL(md:Bool)(v:Nat)(n:E)(a:Nat):Ck:= .sli md v 33 1 n [⟨.sv,1,.avar a⟩]
def useVS(az:List SV)(hp:List Ck):List Nat:=az.flatMap fun | .vv v=>(hp.findIdx? (isSli v)).toList | .sl b _ _ _ _=>(hp.findIdx? (isRow b)).toList | _=>[]
def oneTm:CallAnn:={use:=useVS,inc:={i:=1},val:=fun c=>tmG c.i,new:=fun _ _=>[]}
def pureTm:CallAnn:={use:=fun _ _=>[],inc:={i:=1},val:=fun c=>tmG c.i,new:=fun _ h=>h}
def tmErr:CallAnn:={use:=fun _ _=>[],inc:={i:=2},val:=fun c=> .tup [tmG c.i,i64 (c.i+1)],new:=fun _ h=>h}
def rowB(az:List SV)(hp:List Ck):List Nat:=match az with | .ptr b _::_=>(hp.findIdx? (isRow b)).toList | _=>[]
def lockCall:CallAnn:={use:=rowB,inc:={i:=2},val:=fun c=> .tup [tmG c.i,i64 (c.i+1)],new:=fun _ h=>h}
def keyCall:CallAnn:={use:=useK 7,inc:={i:=2},val:=fun c=> .tup [tmG c.i,i64 (c.i+1)],new:=fun _ h=>h}
def headCall:CallAnn:={use:=fun _ _=>[],inc:={i:=2},val:=fun c=> .tup [i64 c.i,i64 (c.i+1)],new:=fun _ h=>h}
def head2Call:CallAnn:={use:=fun _ _=>[],val:=fun _=> .tup [.int .i64 (.lit 1),.int .i64 (.lit 2)],new:=fun _ h=>h}
def sizeCall:CallAnn:={use:=fun _ _=>[],inc:={i:=1},val:=fun c=>i64 c.i,new:=fun _ h=>h}
def twoCall:CallAnn:={use:=fun _ _=>[],inc:={i:=2},val:=fun c=> .tup [tmG c.i,tmG (c.i+1)],new:=fun _ h=>h}
def callees(f:Nat):Option CallAnn:=
 match f with
 | 14=>some ownCall
 | 16=>some Gl.atomCall
 | 18=>some tmErr
 | 19=>some pureTm
 | 27=>some keyCall
 | 61=>some oneTm
 | 62=>some Gr.beCall
 | 63=>some lockCall
 | 78=>some twoCall
 | 117=>some headCall
 | 118=>some sizeCall
 | 255=>some oneTm
 | 256=>some pureTm
 | 261=>some oneTm
 | 262=>some Gr.beCall
 | 263=>some tmErr
 | _=>none
def calleesBut(l:List Nat)(f:Nat):Option CallAnn:=if l.contains f then none else callees f
def callees2(f:Nat):Option CallAnn:=if f=117 then some head2Call else calleesBut [78] f
def isTm:Ck→Bool
 | .sli true _ 33 1 _ _=>true
 | _=>false
def cellTm(i:Nat):Ck→Ck
 | .row b true [.strE _]=> .row b true [tm i]
 | x=>x
def loops(f id:Nat):Option LoopAnn:=
 match f,id with
 | 256,0=>some {pre:=[.slot 5 33],inc:={i:=2,v:=1,a:=1},slots:=fun c=>[(11,i64 c.i),(5,.vv c.v)],hp:=fun c h=>Ha.lastMap isTm (fun _=>tmL true c.v (.var (c.i+1)) c.a) h}
 | 18,1=>some {inc:={i:=2},slots:=fun c=>[(18,u64 c.i)],hp:=fun c h=>h.map (cellTm (c.i+1))}
 | 118,0=>some {inc:={i:=2},slots:=fun c=>[(3,i64 c.i),(4,i64 (c.i+1))]}
 | _,_=>none
def hashA:List SV:=[u8 0,.vv 0]
def hashHp:List Ck:=[tmL false 0 (.var 1) 0]
def hashCnt:Cnt:={v:=1,i:=2,a:=1}
def shashA:List SV:=[.ptr 0 0,u8 0,.vv 0]
def shashCnt:Cnt:={b:=1,v:=1,i:=2,a:=1}
def lockA:List SV:=[.ptr 0 0,tmG 4,u64 5,u64 6]
def lockHp:List Ck:=[.row 0 true (memR 0 0 0)]
def lockCnt:Cnt:={b:=2,v:=3,i:=7,a:=1}
def frA:List SV:=[.ptr 0 0,u64 5,u64 6,tmG 7]
def frHp:List Ck:=[.row 0 true (memR 0 0 0),heldK 1 4 1]
def frCnt:Cnt:={b:=2,v:=3,i:=8,a:=9}
def unA:List SV:=[.ptr 0 0,dev 5,u64 7,u64 8,u64 9,tmG 10]
def unCnt:Cnt:={b:=2,v:=3,i:=11,a:=9}
end Go.RX.Ia

namespace Go.RX.Ja
open Go.RX Go.RX.Gb Go.RX.Gf Go.RX.Gu Go.RX.He Go.RX.Hi
def nthAbs(k:Nat)(hp:List Ck):List Nat:=match ((List.range hp.length).filter fun i=>match hp[i]? with | some x=>isAbs x | none=>false)[k]? with | some i=>[i] | none=>[]
def useMe(az:List SV)(hp:List Ck):List Nat:=match az with | .ptr b _::_=>nthAbs b hp | _=>[]
def twoCall:CallAnn:={use:=fun _ _=>[],inc:={b:=2,p:=2,v:=1,i:=2,a:=3},val:=fun c=> .tup [.ptr c.b 0,.ptr (c.b+1) 0,ros c.i c.a c.v],new:=fun c h=>h++[.abs c.p,.abs (c.p+1),memOK c.v (c.i+1) (c.a+1)]}
def ownCall:CallAnn:={use:=useMe,inc:={i:=5,a:=1,bo:=1},val:=fun c=> .tup [distR c.i c.a,.bool (.var c.bo)],new:=fun _ h=>h}
def entCall:CallAnn:={use:=fun az hp=>useMe az hp++useRR (az.drop 1) hp,inc:={p:=1,v:=1,i:=2,a:=8},val:=fun c=> .tup [.vv c.v,i64 c.i],new:=fun c h=>match h with | [_,r]=>[.abs c.p,r,outK c.v (c.i+1) c.a] | l=>l}
def takeCall:CallAnn:={use:=useMe,inc:={p:=1,i:=1},val:=fun c=>i64 c.i,new:=fun c _=>[.abs c.p]}
def tmErr:CallAnn:={use:=useMe,inc:={i:=2},val:=fun c=> .tup [.agg [tm c.i],i64 (c.i+1)],new:=fun _ h=>h}
def callees(f:Nat):Option CallAnn:=
 match f with
 | 9=>some entCall
 | 11=>some takeCall
 | 14=>some ownCall
 | 16=>some Gl.atomCall
 | 17=>some tmErr
 | 20=>some tmErr
 | 27=>some tmErr
 | 38=>some twoCall
 | _=>none
def callees2(f:Nat):Option CallAnn:=
 match f with
 | 7=>some symCall
 | 8=>some newCall
 | _=>none
end Go.RX.Ja

namespace Go.RX.Ja
open Go.RX Go.Proofs
noncomputable def cxK:Ctx:={T:=TT,FT:=FT,callees:=Ja.callees}
noncomputable def cxT:Ctx:={T:=TT,FT:=FT,callees:=Ja.callees2}
end Go.RX.Ja

namespace Go.RX.Ja
open Go.RX Go.Proofs Go.RX.Gb
set_option maxRecDepth 100000
def st_known(Post:PT):Prop:=
 Cl 38 [] [] fun x hs l=> ∃(b0 b1:Nat) (v0:V1) (x0 x1:Int) (A0 A1 A2:Nat→Int),∃p0:HP,∃p1:HP,x= .tuple #[.pointer (some ⟨b0,0,none⟩),.pointer (some ⟨b1,0,none⟩),.agg (List.append (segCells .u8 16 A0) ([.int .u64 x0,v0.v])).toArray]∧hs=[p0,p1,dK true v0 x1 A1 A2]∧
 ∀_:Nat,Cl 9 [.pointer (some ⟨b0,0,none⟩),.agg (List.append (segCells .u8 16 A0) ([.int .u64 x0,v0.v])).toArray,.int .u64 5] [p0,dK true v0 x1 A1 A2] fun x hs l=> ∃(v1:V1) (x2 x3:Int) (A3 A4 A5 A6 A7 A8 A9 A10:Nat→Int),∃p2:HP,x= .tuple #[v1.v,.int .i64 x2]∧hs=[p2,dK true v0 x1 A1 A2,oK true v1 x3 A3 A4 A5 A6 A7 A8 A9 A10]∧
 Cl 14 [.pointer (some ⟨b0,0,none⟩)] [p2] fun x hs l=> ∃(x4 x5 x6 x7 x8:Int) (A11:Nat→Int) (q0:Bool),x= .tuple #[dV A11 x4 x5 x6 x7 x8,.bool q0]∧hs=l∧
 ∀_:Nat,Need (0≤x3) (
 Need ((((¬(x3=1))∨(¬(x2=0)))∨(¬(q0=true)))∨(0<x3)) (
 Need ((((¬(x3=1))∨(¬(x2=0)))∨(¬(q0=true)))∨(0<x3)) (
 Need ((((¬(x3=1))∨(¬(x2=0)))∨(¬(q0=true)))∨(0<x3)) (
 Fork (¬(((¬(x3=1))∨(¬(x2=0)))∨(¬(q0=true)))) (
 ∀_:Nat,Need ((¬(((A3 0)=0)∧((A4 0)=1)))∨(0<x3)) (
 Need ((¬(((A3 0)=0)∧((A4 0)=1)))∨(0<x3)) (
 Need ((¬(((A3 0)=0)∧((A4 0)=1)))∨(0<x3)) (
 Fork (¬(((¬(((A3 0)=0)∧((A4 0)=1)))∨(¬((∀j,j<16→A5 j=A11 j)∧(((A6 0)=x4)∧(((A7 0)=x5)∧(((A8 0)=x6)∧(((A9 0)=x7)∧(strD (srowF (A10 0))=strD (srowF x8)))))))))∨(¬(x7=64)))) (
 Cl 16 [.int .u64 4294967296] [] fun x hs l=> ∃x9:Int,x= .agg #[.string ⟨(strD (srowF x9)).toArray⟩]∧hs=[]∧
 Fork (¬(strD (srowF x8)=strD (srowF x9))) (
 Post (.bool false) []) (
 Cl 11 [.pointer (some ⟨b1,0,none⟩),dV A11 x4 x5 x6 x7 x8] [p1] fun x hs l=> ∃x10:Int,∃p3:HP,x= .int .i64 x10∧hs=[p3]∧
 Fork (¬(x10=0)) (
 Post (.bool false) []) (
 Cl 9 [.pointer (some ⟨b1,0,none⟩),.agg (List.append (segCells .u8 16 A0) ([.int .u64 x0,v0.v])).toArray,.int .u64 5] [p3,dK true v0 x1 A1 A2] fun x hs l=> ∃(v2:V1) (x11 x12:Int) (A12 A13 A14 A15 A16 A17 A18 A19:Nat→Int),∃p4:HP,x= .tuple #[v2.v,.int .i64 x11]∧hs=[p4,dK true v0 x1 A1 A2,oK true v2 x12 A12 A13 A14 A15 A16 A17 A18 A19]∧
 ∀_:Nat,Cl 27 [.pointer (some ⟨b1,0,none⟩),.agg #[.int .u8 0,.int .u8 0],.int .u64 2] [p4] fun x hs l=> ∃x13 x14:Int,x= .tuple #[.agg #[.string ⟨(strD (srowF x13)).toArray⟩],.int .i64 x14]∧hs=l∧
 ∀_ _:Nat,Cl 16 [.int .u64 1] [] fun x hs l=> ∃x15:Int,x= .agg #[.string ⟨(strD (srowF x15)).toArray⟩]∧hs=[]∧
 ∀_:Nat,Cl 27 [.pointer (some ⟨b1,0,none⟩),.agg #[.int .u8 0,.int .u8 0],.int .u64 1] [p4] fun x hs l=> ∃x16 x17:Int,x= .tuple #[.agg #[.string ⟨(strD (srowF x16)).toArray⟩],.int .i64 x17]∧hs=l∧
 ∀_ _:Nat,Cl 27 [.pointer (some ⟨b1,0,none⟩),.agg #[.int .u8 0,.int .u8 2],.int .u64 2] [p4] fun x hs l=> ∃x18 x19:Int,x= .tuple #[.agg #[.string ⟨(strD (srowF x18)).toArray⟩],.int .i64 x19]∧hs=l∧
 ∀_:Nat,Fork (¬(((¬(x11=0))∨(¬(strD (srowF x13)=strD (srowF x8))))∨(¬(x14=0)))) (
 Cl 11 [.pointer (some ⟨b1,0,none⟩),dV A11 x4 x5 x6 x7 x15] [p4] fun x hs l=> ∃x20:Int,∃p5:HP,x= .int .i64 x20∧hs=[p5]∧
 Fork (((¬(x20=6))∨(¬(x17=241)))∨(¬(x19=240))) (
 Post (.bool false) []) (
 Cl 16 [.int .u64 9] [] fun x hs l=> ∃x21:Int,x= .agg #[.string ⟨(strD (srowF x21)).toArray⟩]∧hs=[]∧
 Cl 17 [.pointer (some ⟨b0,0,none⟩),.int .u64 2,.int .u64 7,.agg #[.string ⟨(strD (srowF x21)).toArray⟩]] [p2] fun x hs l=> ∃x22 x23:Int,x= .tuple #[.agg #[.string ⟨(strD (srowF x22)).toArray⟩],.int .i64 x23]∧hs=l∧
 ∀_:Nat,(∀_:Nat,(Cl 20 [.pointer (some ⟨b1,0,none⟩),.agg #[.int .u8 0,.int .u8 0],.int .u64 2,.int .u64 2,.int .u64 7,.agg #[.string ⟨(strD (srowF x22)).toArray⟩]] [p5] fun x hs l=> ∃x24 x25:Int,x= .tuple #[.agg #[.string ⟨(strD (srowF x24)).toArray⟩],.int .i64 x25]∧hs=l∧
 ∀_ _:Nat,Cl 20 [.pointer (some ⟨b1,0,none⟩),.agg #[.int .u8 0,.int .u8 0],.int .u64 2,.int .u64 2,.int .u64 8,.agg #[.string ⟨(strD (srowF x22)).toArray⟩]] [p5] fun x hs l=> ∃x26 x27:Int,x= .tuple #[.agg #[.string ⟨(strD (srowF x26)).toArray⟩],.int .i64 x27]∧hs=l∧
 ∀_ _ _ _ _ _ _ _ _ _:Nat,Fork (x23=0) (
 Cl 16 [.int .u64 9] [] fun x hs l=> ∃x28:Int,x= .agg #[.string ⟨(strD (srowF x28)).toArray⟩]∧hs=[]∧
 Fork (((strD (srowF x24)=strD (srowF x28))∧(x25=0))∧(x27=140)) (
 ∀_ _ _:Nat,Post (.bool true) []) (
 Post (.bool false) [])) (
 Post (.bool false) []))∧
 (∀_:Nat,Cl 20 [.pointer (some ⟨b1,0,none⟩),.agg #[.int .u8 0,.int .u8 0],.int .u64 2,.int .u64 2,.int .u64 7,.agg #[.string ⟨(strD (srowF x22)).toArray⟩]] [p5] fun x hs l=> ∃x24 x25:Int,x= .tuple #[.agg #[.string ⟨(strD (srowF x24)).toArray⟩],.int .i64 x25]∧hs=l∧
 ∀_:Nat,Cl 20 [.pointer (some ⟨b1,0,none⟩),.agg #[.int .u8 0,.int .u8 0],.int .u64 2,.int .u64 2,.int .u64 8,.agg #[.string ⟨(strD (srowF x22)).toArray⟩]] [p5] fun x hs l=> ∃x26 x27:Int,x= .tuple #[.agg #[.string ⟨(strD (srowF x26)).toArray⟩],.int .i64 x27]∧hs=l∧
 ∀_ _ _ _ _ _ _ _ _ _:Nat,Fork (x23=0) (
 Cl 16 [.int .u64 9] [] fun x hs l=> ∃x28:Int,x= .agg #[.string ⟨(strD (srowF x28)).toArray⟩]∧hs=[]∧
 Fork (((strD (srowF x24)=strD (srowF x28))∧(x25=0))∧(x27=140)) (
 ∀_ _ _:Nat,Post (.bool true) []) (
 Post (.bool false) [])) (
 Post (.bool false) [])))∧
 (∀_ _:Nat,Cl 20 [.pointer (some ⟨b1,0,none⟩),.agg #[.int .u8 0,.int .u8 0],.int .u64 2,.int .u64 2,.int .u64 7,.agg #[.string ⟨(strD (srowF x22)).toArray⟩]] [p5] fun x hs l=> ∃x24 x25:Int,x= .tuple #[.agg #[.string ⟨(strD (srowF x24)).toArray⟩],.int .i64 x25]∧hs=l∧
 ∀_:Nat,Cl 20 [.pointer (some ⟨b1,0,none⟩),.agg #[.int .u8 0,.int .u8 0],.int .u64 2,.int .u64 2,.int .u64 8,.agg #[.string ⟨(strD (srowF x22)).toArray⟩]] [p5] fun x hs l=> ∃x26 x27:Int,x= .tuple #[.agg #[.string ⟨(strD (srowF x26)).toArray⟩],.int .i64 x27]∧hs=l∧
 ∀_ _ _ _ _ _ _ _ _ _:Nat,Fork (x23=0) (
 Cl 16 [.int .u64 9] [] fun x hs l=> ∃x28:Int,x= .agg #[.string ⟨(strD (srowF x28)).toArray⟩]∧hs=[]∧
 Fork (((strD (srowF x24)=strD (srowF x28))∧(x25=0))∧(x27=140)) (
 ∀_ _ _:Nat,Post (.bool true) []) (
 Post (.bool false) [])) (
 Post (.bool false) [])))) (
 Post (.bool false) [])))) (
 Post (.bool false) []))))) (
 Post (.bool false) [])))))
theorem mt_known(Post:PT)(h:st_known Post):Meets Tryz.prog 6 [] [] Post:=
 mtK (C:=cxK) [] [] ⟨0,0,0,0,0,0,0⟩ ⟨[],[],[],[],[],[],[],[]⟩ 0 Tryz.func6 (by kernel_rfl) h
def st_twoM(Post:PT):Prop:=
 ∀b0 b1 b2 b3:Nat,Cl 7 [.int .u64 4294967296] [] fun x hs l=> ∃(b4:Nat) (x0:Int),x=(.iface 135 (.pointer (some ⟨b4,0,none⟩)))∧hs=[rowHP b4 true ([.int .u64 x0])]∧
 ∀b5:Nat,Cl 8 [(.iface 135 (.pointer (some ⟨b4,0,none⟩))),.agg #[.int .u8 0,.int .u8 0]] [rowHP b4 true ([.int .u64 x0])] fun x hs l=> ∃b6:Nat,∃p0:HP,x= .pointer (some ⟨b6,0,none⟩)∧hs=[p0]∧
 Cl 7 [.int .u64 8589934592] [] fun x hs l=> ∃(b7:Nat) (x1:Int),x=(.iface 135 (.pointer (some ⟨b7,0,none⟩)))∧hs=[rowHP b7 true ([.int .u64 x1])]∧
 ∀b8:Nat,Cl 8 [(.iface 135 (.pointer (some ⟨b7,0,none⟩))),.agg #[.int .u8 0,.int .u8 1]] [rowHP b7 true ([.int .u64 x1])] fun x hs l=> ∃b9:Nat,∃p1:HP,x= .pointer (some ⟨b9,0,none⟩)∧hs=[p1]∧
 Post (.tuple #[.pointer (some ⟨b6,0,none⟩),.pointer (some ⟨b9,0,none⟩),.agg (.int .u8 1::(List.append (segCells .u8 15 (fun _=>0)) ([.int .u64 2,.slice (some ⟨b3,0,none⟩) 2 2]))).toArray]) [rowHP b0 true (.int .u8 1::(List.append (segCells .u8 15 (fun _=>0)) ([.int .u64 2,.slice (some ⟨b3,0,none⟩) 2 2]))),rowHP b1 true ([.int .u8 0,.int .u8 0]),rowHP b2 true ([.int .u8 0,.int .u8 1]),rowHP b3 true ([.int .u8 0,.int .u8 0,.int .u8 0,.int .u8 1]),p0,rowHP b5 true ([.int .u8 0,.int .u8 0]),p1,rowHP b8 true ([.int .u8 0,.int .u8 1])]
theorem mt_twoM(Post:PT)(h:st_twoM Post):Meets Tryz.prog 38 [] [] Post:=
 mtI (C:=cxT) [] [] ⟨0,0,0,0,0,0,0⟩ ⟨[],[],[],[],[],[],[],[]⟩ Tryz.func38 (by kernel_rfl) h
end Go.RX.Ja

namespace Go.RX.Ia
open Go.RX Go.Proofs
noncomputable def cxB'(l:List Nat):Ctx:={T:=TT,FT:=FT,loops:=Ia.loops,callees:=Ia.calleesBut l}
noncomputable abbrev cxA:=cxB' [261]
noncomputable abbrev cxB:=cxB' [255]
noncomputable abbrev cxC:=cxB' [262]
noncomputable abbrev cxD:=cxB' [256]
noncomputable abbrev cxE:=cxB' [19]
noncomputable abbrev cxF:=cxB' [18]
noncomputable abbrev cxG:=cxB' [63]
noncomputable abbrev cxH:=cxB' [17]
noncomputable abbrev cxI:=cxB' [20]
noncomputable abbrev cxJ:=cxB' [117]
noncomputable abbrev cxK:=cxB' [118]
noncomputable abbrev cxM:=cxB' [263]
noncomputable def cxL:Ctx:={T:=TT,FT:=FT,loops:=Ia.loops,callees:=Ia.callees2}
end Go.RX.Ia
