/- The store's walker. -/
import Derived.Test.YtllcdnkfbeokhaaGreatM25
open Go.Proofs.Tryz renaming prog → aqQ
open Int renaming toNat → ag
namespace Go.RX.Vb
open Go.RX Go.Proofs
noncomputable def cx:Ctx:={T:=TT,FT:=FT}
noncomputable def ZY:Ctx:={T:=TT,FT:=FT,bj:=fun f=>if f=21 then some Vc.nE else none}
noncomputable def aeb:Ctx:={T:=TT,FT:=FT,loops:=Vc.M7,bj:=Vc.bj}
noncomputable def aec:Ctx:={T:=TT,FT:=FT,loops:=Vc.M7,bj:=Vc.qF}
noncomputable def ZZ:Ctx:={T:=TT,FT:=FT,loops:=Ve.loops,bj:=Ve.zd}
noncomputable def aed:Ctx:={T:=TT,FT:=FT,loops:=Ve.loops,bj:=Ve.qF}
noncomputable def aee:Ctx:={T:=TT,FT:=FT,loops:=Vd.loops,bj:=Vd.zd}
noncomputable def aef:Ctx:={T:=TT,FT:=FT,loops:=Vd.loops,bj:=Vd.qF}
end Go.RX.Vb

namespace Go.RX.Vn
open Go.RX Go.RX.Vb Go.RX.Vc Go.RX.Vd Go.RX.Ve
def aeg(i a v:Nat):List SV:=[key a,key (a+1),key (a+2),key (a+3),bl i,bl (i+1),bl (i+2),bl (i+3),key (a+4),u32 (i+4),key (a+5),u32 (i+5),u32 (i+6),.vv v]
def aeh:List SV:=[.agg (aeg 1 0 0)]
def Z0:List Ck:=[.cr false 0 245 65 (.var 0) (dU 6)]
def Vf:ct:={v:=1,i:=8,a:=9}
def RD:aI:={use:=fun _ hp=>mP hp,inc:={i:=2},val:=fun c=> .nO [.ji (.var c.i),.int .i64 (.var (c.i+1))],new:=fun _ h=>h}
def ofA:List SV:=[.agg [u8 0,u8 1,.vv 0]]
def aei:List Ck:=[.cr false 0 77 268 (.var 2) (Ve.bR 0),.abs 0]
def Z1:ct:={v:=1,i:=3,a:=20,p:=1}
def bj(f:Nat):Option aI:=if f=113 then some RD else none
def Ns(a:Nat):List bL:=[⟨.ptr,1,.cI a⟩]
def Vg(c:ct):List Ck→List Ck
 | [x,y,r,.row b w _,.cr ..,.cr ..]=>[x,y,r,.row b w [.vv c.v,.vv (c.v+1),.ji (.var (c.i+1))],.cr true c.v 211 1 (.var (c.i+2)) (Ns c.a),.cr true (c.v+1) 211 1 (.var (c.i+3)) (Ns (c.a+1))]
 | h=>h
def loops(f id:Nat):Option ei:=
 match f,id with
 | 67,0=>some {pre:=[.cell 3 0 211,.cell 3 1 211],inc:={i:=4,v:=2,a:=2},aU:=fun c=>[(15,.int .i64 (.var c.i))],hp:=Vg}
 | _,_=>none
def Cm:aI:={use:=fun az hp=>match az with | [.vv v]=>(hp.findIdx? (kb v)).toList | _=>[],inc:={v:=1},val:=fun c=> .vv c.v,new:=fun _ h=>h}
def RE:aI:={use:=fun _ hp=>mP hp,inc:={i:=1,bo:=1},val:=fun c=> .nO [.ji (.var c.i),.bool (.var c.bo)],new:=fun _ h=>h}
def Nt(f:Nat):Option aI:=
 match f with
 | 81=>some Cm
 | 67=>some RE
 | _=>none
def aej:List SV:=[.agg [u8 0,u8 1,key 0,key 1,.vv 0,i64 2,.vv 1]]
def Z2:List Ck:=[.cr false 0 93 33 (.var 3) (dG 2),.cr false 1 68 3 (.var 4) (Vd.bO 4),.abs 0]
def Vh:ct:={v:=2,i:=5,a:=7,p:=1}
def T2(a:Nat):Ck→Ck
 | .map b kl ka va z _ _=> .map b kl ka va z (.cI a) (Ns (a+1))
 | c=>c
def RF(c:ct)(h:List Ck):List Ck:=h.map (T2 c.a)
def Vi(f id:Nat):Option ei:=
 match f,id with
 | 34,0=>some {inc:={i:=2,a:=2},aU:=fun c=>[(18,.int .i64 (.var c.i)),(5,.int .i64 (.var (c.i+1)))],hp:=RF}
 | _,_=>none
end Go.RX.Vn

namespace Go.RX.Vb
open Go.RX Go.Proofs
noncomputable def cxN:Ctx:={T:=TT,FT:=FT,loops:=Vn.loops,bj:=Vn.bj}
noncomputable def ael:Ctx:={T:=TT,FT:=FT,loops:=Vn.Vi,bj:=Vn.Nt}
end Go.RX.Vb

namespace Go.RX.Vo
open Go.RX Go.RX.Vb Go.RX.Vc Go.RX.Vd Go.RX.Ve Go.RX.Vn
def Iw(t s:Nat)(cs:Nat→List bL)(c:ct):List Ck→List Ck
 | x:: .row b w [_,m]:: .cr .. ::r=>x:: .row b w [.vv c.v,m]:: .cr true c.v t s (.var (c.i+1)) (cs c.a)::r
 | h=>h
def RG(c:ct):List Ck→List Ck
 | x:: .row b w [a,_,m]:: .cr .. ::r=>x:: .row b w [a,.vv c.v,m]:: .cr true c.v 5 1 (.var (c.i+1)) (uU c.a)::r
 | h=>h
def loops(f id:Nat):Option ei:=
 match f,id with
 | 70,0=>some {pre:=[.cell 1 0 36],back:=[.pw 1 0 true],inc:={i:=2,v:=1,a:=1},aU:=fun c=>[(12,.int .i64 (.var c.i))],hp:=Iw 36 16 ZH}
 | 72,0=>some {pre:=[.cell 1 0 26],back:=[.pw 1 0 true],inc:={i:=2,v:=1,a:=2},aU:=fun c=>[(12,.int .i64 (.var c.i))],hp:=Iw 26 2 Vd.gu}
 | 116,0=>some {pre:=[.cell 1 1 5],inc:={i:=2,v:=1,a:=1},aU:=fun c=>[(21,.int .i64 (.var c.i))],hp:=RG}
 | 71,0=>some {inc:={i:=1},aU:=fun c=>[(33,.int .i64 (.var c.i))]}
 | 199,0=>some {inc:={i:=1},aU:=fun c=>[(8,.int .i64 (.var c.i))]}
 | 200,0=>some {inc:={i:=1},aU:=fun c=>[(8,.int .i64 (.var c.i))]}
 | _,_=>none
def aem:List SV:=[.int .i64 (.lit 256),.vv 0]
def aen:List SV:=[.int .i64 (.lit 4),.vv 0]
def ZL:List Ck:=[.cr false 0 36 16 (.var 0) (ZH 0)]
def hpD:List Ck:=[.cr false 0 26 2 (.var 0) (Vd.gu 0)]
def Kh:ct:={v:=1,i:=1,a:=2}
def aeo:List SV:=[u8 0,.vv 0,i64 1]
def Z3:List Ck:=[.cr false 0 5 1 (.var 2) (uU 0)]
def Vj:ct:={v:=1,i:=3,a:=1}
def Cm:aI:={use:=fun az hp=>match az with | [.vv v]=>(hp.findIdx? (kb v)).toList | _=>[],inc:={v:=1},val:=fun c=> .vv c.v,new:=fun _ h=>h}
def Nu(f:Nat):Option aI:=if f=117 then some Cm else none
def Ix:aI:={use:=fun az hp=>match az with | [_,.vv v]=>(hp.findIdx? (kb v)).toList | _=>[],inc:={i:=1},val:=fun c=> .ji (.var c.i),new:=fun _ h=>h}
def RH:aI:={use:=fun az hp=>match az with | [_,.vv v,_]=>(hp.findIdx? (kb v)).toList | _=>[],inc:={i:=2},val:=fun c=> .nO [.ji (.var c.i),.int .i64 (.var (c.i+1))],new:=fun _ h=>h}
def Nv(f:Nat):Option aI:=
 match f with
 | 70=>some Ix
 | 72=>some Ix
 | 71=>some RH
 | _=>none
def jO(i a v:Nat):List SV:=[u8 i,u8 (i+1),sg 8 a,.vv v,u8 (i+2),sg 16 (a+1),bl (i+3),u8 (i+4),u8 (i+5),u8 (i+6),sg 32 (a+2),sg 32 (a+3),sg 32 (a+4),.vv (v+1),i64 (i+7),.vv (v+2),u64 (i+8),u64 (i+9),u64 (i+10),u64 (i+11),u64 (i+12),u32 (i+13)]
def aep:List SV:=[.agg (jO 0 0 0)]
def Z4:List Ck:=[.cr false 0 36 16 (.var 14) (ZH 5),.cr false 1 5 1 (.var 15) (uU 6),.cr false 2 26 2 (.var 16) (Vd.gu 7)]
def Vk:ct:={v:=3,i:=17,a:=9}
end Go.RX.Vo

namespace Go.RX.Vp
open Go.RX Go.RX.Vb Go.RX.Vc Go.RX.Vd Go.RX.Ve Go.RX.Vn Go.RX.Vo
def Z5:List SV:=[.vv 0]
def T3:List Ck:=[.cr false 0 5 1 (.var 0) (uU 0)]
def Nw:ct:={v:=1,i:=1,a:=1}
def RI(az:List SV)(hp:List Ck):List Nat:=
 match az with
 | .vv v::_=>(hp.findIdx? (kb v)).toList
 | .jo v _ _::_=>(hp.findIdx? (kb v)).toList
 | _=>[]
def aer(i a:Nat):SV:= .agg [sg 16 a,u8 i,bl (i+1),u8 (i+2),u64 (i+3),u64 (i+4),u64 (i+5)]
def RJ:aI:={use:=RI,inc:={i:=7,a:=1},val:=fun c=> .nO [aer c.i c.a,.int .i64 (.var (c.i+6))],new:=fun _ h=>h}
def Nx(f:Nat):Option aI:=if f=75 then some RJ else none
def recC(a:Nat):List bL:=[⟨.int .u8,16,.cI a⟩,⟨.int .u8,1,.cI (a+1)⟩,⟨.bool,1,.cI (a+2)⟩,⟨.int .u8,1,.cI (a+3)⟩,⟨.int .u64,1,.cI (a+4)⟩,⟨.int .u64,1,.cI (a+5)⟩,⟨.int .u64,1,.cI (a+6)⟩]
def Vl(c:ct):Ck→Ck
 | .row 2 w [_,m]=> .row 2 w [.vv c.v,m]
 | .map b kl ka va z _ ay=> .map b kl ka va z (.cI c.a) ay
 | .cr true _ t s _ _=> .cr true c.v t s (.var (c.i+1)) (recC (c.a+1))
 | h=>h
def loops(f id:Nat):Option ei:=
 match f,id with
 | 121,0=>some {pre:=[.cell 3 0 188],inc:={i:=2,v:=1,a:=8},aU:=fun c=>[(4,.int .i64 (.var c.i))],hp:=fun c h=>h.map (Vl c)}
 | _,_=>none
end Go.RX.Vp

namespace Go.RX.Vb
open Go.RX Go.Proofs
noncomputable def cxO:Ctx:={T:=TT,FT:=FT,loops:=Vo.loops}
noncomputable def Z6:Ctx:={T:=TT,FT:=FT,loops:=Vo.loops,bj:=Vo.Nu}
noncomputable def aes:Ctx:={T:=TT,FT:=FT,loops:=Vo.loops,bj:=Vo.Nv}
noncomputable def aet:Ctx:={T:=TT,FT:=FT,loops:=Vp.loops,bj:=Vp.Nx}
end Go.RX.Vb

namespace Go.RX.Vq
open Go.RX Go.RX.Vb Go.RX.Vc Go.RX.Vd Go.RX.Ve Go.RX.Vn Go.RX.Vo Go.RX.Vp
def Vm(i a:Nat)(m:Nat):List SV:=[u8 i,u8 (i+1),.ov,sg 32 a,u64 (i+2),.ji (.var (i+3)),.ji (.var (i+4)),.ji (.var (i+5)),.mp m,sg 16 (a+1)]
def aeu:List SV:=[.ptr 0 0,.agg [sg 16 2],u8 6,bl 7]
def Z7:List Ck:=[.row 0 true (Vm 0 0 1),.map 1 (List.replicate 16 .u8) true false [.cg] (.cI 3) (Ns 4)]
def Vu:ct:={b:=2,i:=8,a:=5}
def s5(az:List SV)(hp:List Ck):List Nat:=
 match az with
 | [.agg cs]=>cs.filterMap fun c=>match c with
  | .vv v=>hp.findIdx? (kb v)
  | _=>none
 | _=>[]
def RK:aI:={use:=fun az hp=>s5 az hp++mP hp,inc:={i:=2},val:=fun c=> .nO [.ji (.var c.i),.int .i64 (.var (c.i+1))],new:=fun _ h=>h}
def RL:aI:={use:=s5,inc:={i:=2},val:=fun c=> .nO [.ji (.var c.i),.int .i64 (.var (c.i+1))],new:=fun _ h=>h}
def RM:aI:={use:=fun az hp=>match az with | [.vv v]=>(hp.findIdx? (kb v)).toList | _=>[],inc:={i:=2},val:=fun c=> .nO [.ji (.var c.i),.int .i64 (.var (c.i+1))],new:=fun _ h=>h}
def Vv(az:List SV)(hp:List Ck):List Nat:=match az with
 | .ptr b _::_=>iy b hp++(match hp.findIdx? (qE b)with
  | some i=>match hp[i]? with
   | some (.row _ _ cs)=>cs.flatMap fun c=>match c with | .mp m=>(hp.findIdx? fun x=>x.isMap m).toList | _=>[]
   | _=>[]
  | none=>[])
 | _=>[]
def Vy(c:ct):List Ck→List Ck
 | [r,.map b kl ka va z _ _]=>[r,.map b kl ka va z (.cI c.a) (Ns (c.a+1)),.row c.b true [.ji (.var c.i),.ji (.var (c.i+1)),.bool (.lit false),.bool (.var c.bo),u8 (c.i+2),.int .u64 (.lit 0)]]
 | h=>h
def RN:aI:={use:=Vv,inc:={b:=1,i:=3,a:=2,bo:=1},val:=fun c=> .nO [.ptr c.b 0,.bool (.lit true)],new:=Vy}
def VA(az:List SV)(hp:List Ck):List Nat:=
 match az with
 | [.Ml v ..,.sl b ..]=>(hp.findIdx? (kb v)).toList++iy b hp
 | _=>[]
def RO:aI:={use:=VA,inc:={i:=1},val:=fun c=> .int .i64 (.var c.i),new:=fun _ h=>h}
def bj(f:Nat):Option aI:=
 match f with
 | 34=>some RK
 | 35=>some RL
 | 36=>some RM
 | 38=>some RN
 | 37=>some RO
 | _=>none
def RP(c:ct)(h:List Ck):List Ck:=h.map (T2 c.a)
def loops(f id:Nat):Option ei:=
 match f,id with
 | 15,0=>some {inc:={i:=1,a:=2},aU:=fun c=>[(73,.int .i64 (.var c.i))],hp:=RP}
 | _,_=>none
def aev:List SV:=[.agg (Vd.TZ 0 0 0),.ov]
def Iy:List Ck:=Vd.ZK false 18 8 0++[.abs 0]
def Cn:ct:={v:=7,i:=25,a:=22,p:=1}
def aew:List SV:=[.vv 0,.vv 1]
def Z8:List Ck:=[.cr false 0 5 1 (.var 0) (uU 0),.cr false 1 5 1 (.var 1) (uU 1)]
def VB:ct:={v:=2,i:=2,a:=2}
def VD(f id:Nat):Option ei:=
 match f,id with
 | 37,0=>some {inc:={i:=1},aU:=fun c=>[(11,.int .i64 (.var c.i))]}
 | _,_=>none
def VE(az:List SV)(hp:List Ck):List Nat:=
 (match az with
  | .agg cs::_=>s5 [.agg cs] hp
  | _=>[])++mP hp
def RQ:aI:={use:=VE,inc:={i:=2},val:=fun c=> .nO [.ji (.var c.i),.int .i64 (.var (c.i+1))],new:=fun _ h=>h}
def Ny(f:Nat):Option aI:=if f=15 then some RQ else none
def aex:List SV:=[.agg (Vd.TZ 0 0 0)]
end Go.RX.Vq

namespace Go.RX.Vr
open Go.RX Go.RX.Vb Go.RX.Vc Go.RX.Vd Go.RX.Ve Go.RX.Vq
def Iz(cs:List SV)(hp:List Ck):List Nat:=
 cs.filterMap fun c=>match c with
  | .vv v=>hp.findIdx? (kb v)
  | _=>none
def VF(az:List SV)(hp:List Ck):List Nat:=
 Kb (match az with | .ptr b _::_=>b | _=>0) hp++(match az with
  | [_,.ptr b _]=>iy b hp++(match hp.findIdx? (qE b)with
   | some i=>match hp[i]? with
    | some (.row _ _ cs)=>Iz cs hp
    | _=>[]
   | none=>[])
  | _=>[])++mP hp
def VG(c:ct):List Ck→List Ck
 | x::y::_=>Ci c.v c.i c.bo c.a [x,y]
 | l=>l
def RR:aI:={use:=VF,inc:={v:=1,i:=1,a:=1},val:=fun _=> .nO [],new:=VG}
def Nz(f:Nat):Option aI:=if f=32 then some RR else none
def VH(b w:Nat)(st:St):Option dH:=
 match st.hp.findIdx? (qE b)with
 | some i=>match st.hp[i]? with
  | some (.row _ wr [x,.bu,z])=>some {use:=[i],inc:={v:=1},new:=[.row b wr [x,.vv st.aW.v,z],.cr (w==1) st.aW.v 5 1 (.lit 0) [⟨.int .u8,1,.lit 0⟩]]}
  | _=>none
 | none=>none
def isWalk:Ck→Option Nat
 | .row b _ [.bool _,.bu,.bool _]=>some b
 | _=>none
def VI(st:St):Option dH:=
 match st.hp.findSome? isWalk with
 | some b=>VH b 1 st
 | none=>none
def RT(f r:Nat):Option (St→Option dH):=if f=13∧r=1 then some VI else none
def T4:List SV:=[.agg (Vd.TZ 0 0 0)]
def xY:aI:={use:=fun az hp=>(match az with | [.agg cs]=>s5 [.agg cs] hp | _=>[])++mP hp,inc:={bo:=1},val:=fun c=> .bool (.var c.bo),new:=fun _ h=>h}
def Ek:aI:={use:=fun az hp=>(match az with | [.agg cs]=>s5 [.agg cs] hp | _=>[])++mP hp,inc:={v:=1,i:=1,a:=1},val:=fun c=> .vv c.v,new:=fun c h=>h++[.cr true c.v 5 1 (.var c.i) (uU c.a)]}
def VJ(az:List SV)(hp:List Ck):List Nat:=match az with
 | [.sl b ..]=>iy b hp++(match hp.findIdx? (qE b)with
  | some i=>match hp[i]? with
   | some (.row _ _ [.vv v])=>(hp.findIdx? (kb v)).toList
   | _=>[]
  | none=>[])
 | _=>[]
def RU:aI:={use:=VJ,inc:={a:=1},val:=fun c=> .agg [.cQ .u8 32 (.cI c.a)],new:=fun _ h=>h}
def aey(az:List SV)(hp:List Ck):List Nat:=match az with
 | .ptr b _::_=>iy b hp++(match hp.findIdx? (qE b)with
  | some i=>match hp[i]? with
   | some (.row _ _ [_,.sl b' ..,_])=>iy b' hp
   | _=>[]
  | none=>[])
 | _=>[]
def aez(c:ct):List Ck→List Ck
 | .row b wr [x,_,z]::_=>[.row b wr [x,.vv c.v,z],.cr true c.v 5 1 (.var (c.i+1)) (uU c.a)]
 | l=>l
def NA:aI:={use:=aey,inc:={v:=1,i:=2,a:=1},val:=fun c=> .int .u64 (.var c.i),new:=aez}
def VK:List SV:=[.ptr 0 0,u64 0,.int .i64 (.lit 4)]
def i8(n:Int):SV:= .int .u8 (.lit n)
def RV:List Ck:=[.row 0 true [.bool (.lit true),.sl 1 (.lit 0) 1 (.lit 6) (.lit 6),.bool (.lit false)],.row 1 false [i8 72,i8 76,i8 83,i8 84,i8 0,i8 1]]
def NB:ct:={b:=2,i:=1}
def NC(f:Nat):Option aI:=
 match f with
 | 10=>some xY
 | 13=>some Ek
 | 21=>some NA
 | 22=>some RU
 | _=>none
def only(d:Nat)(st:St):Option dH:=
 match st.fr.lookup d with
 | some (.vv v)=>some {pick:=some (st.hp.findIdx? (kb v)).toList}
 | _=>some {pick:=some []}
def RW(f r:Nat):Option (St→Option dH):=if f=9∧(r=2∨r=5∨r=10)then some (only 2)else none
end Go.RX.Vr

namespace Go.RX.Vt
open Go.RX Go.RX.Vb Go.RX.Vc Go.RX.Vd Go.RX.Ve Go.RX.Vq Go.RX.Vr
def VL:Ck→Option (Nat×Nat)
 | .row b _ [.bool _,.jo v ..,.bool _]=>some (b,v)
 | _=>none
def ND(ab:Bool)(st:St):Option dH:=
 match st.hp.findSome? VL with
 | some (b,v)=>match st.hp.findIdx? (qE b),st.hp.findIdx? (kb v)with
  | some i,some j=>match st.hp[i]?,st.hp[j]? with
   | some (.row _ wr [x,_,z]),some k=>some {use:=[i,j],inc:={v:=1,a:=1,i:=1,p:=1},new:=[.row b wr [x,.vv st.aW.v,z],k,.cr false st.aW.v 5 1 (.var st.aW.i) (uU st.aW.a)]++if ab then [.abs st.aW.p]else []}
   | _,_=>none
  | _,_=>none
 | none=>none
def RY(az:List SV)(hp:List Ck):List Nat:=match az with
 | [.sl b ..]=>iy b hp++(match hp.findIdx? (qE b)with
  | some i=>match hp[i]? with
   | some (.row _ _ [.jo v ..])=>(hp.findIdx? (kb v)).toList
   | _=>[]
  | none=>[])
 | _=>[]
def NF:aI:={use:=RY,inc:={a:=1},val:=fun c=> .agg [.cQ .u8 32 (.cI c.a)],new:=fun _ h=>h}
def Z9(az:List SV)(hp:List Ck):List Nat:=match az with
 | [.sl b ..,.jo v ..]=>iy b hp++(hp.findIdx? (kb v)).toList
 | _=>[]
def VM:aI:={use:=Z9,inc:={bo:=1},val:=fun c=> .bool (.var c.bo),new:=fun _ h=>h}
def VN(az:List SV)(hp:List Ck):List Nat:=
 Kb (match az with | .ptr b _::_=>b | _=>0) hp++(match az with | [_,.ptr b _]=>iy b hp | _=>[])++mP hp
def VO(c:ct):List Ck→List Ck
 | x::y:: .row b wr _::_=>Ci c.v c.i c.bo c.a [x,y]++[.row b wr (Vd.TZ (c.i+1) (c.a+1) (c.v+1)),.abs c.p]++Vd.ZK true (c.i+19) (c.a+9) (c.v+1)
 | l=>l
def RZ:aI:={use:=VN,inc:={v:=8,i:=26,a:=23,bo:=1,p:=1},val:=fun _=> .nO [],new:=VO}
def bj(f:Nat):Option aI:=
 match f with
 | 10=>some xY
 | 21=>some nE
 | 22=>some NF
 | 43=>some VM
 | 32=>some RZ
 | _=>none
def Z_(st:St):Nat:=match st.fr.lookup 2 with
 | some (.ptr b _)=>b
 | _=>0
def aac(st:St):Option dH:=some {pick:=some (iy (Z_ st) st.hp)}
def aad(st:St):Option dH:=
 some {pick:=some ((List.range st.hp.length).filter fun j=>match st.hp[j]? with | some (.cr true ..)=>true | some (.abs _)=>true | some (.row b ..)=>b==Z_ st | _=>false)}
def mQ(f r:Nat):Option (St→Option dH):=
 if f=17 then
  (if r=7 then some (ND false)else if r=11 then some (ND true)else if r=4∨r=6∨r=10∨r=14 then some aac else if r=15 then some aad else none)
 else none
def NG:List SV:=[.vv 0]
def GL:List Ck:=[.cr false 0 5 1 (.var 0) (uU 0)]
def Co:ct:={v:=1,i:=1,a:=1}
def eqA:List SV:=[.vv 0,.vv 1]
def aeA:List Ck:=[.cr false 0 5 1 (.var 0) (uU 0),.cr false 1 5 1 (.var 1) (uU 1)]
def aae:ct:={v:=2,i:=2,a:=2}
end Go.RX.Vt

namespace Go.RX.Vw
open Go.RX Go.RX.Vb Go.RX.Vc Go.RX.Vd Go.RX.Ve Go.RX.Vq Go.RX.Vr Go.RX.Vt
def R0(az:List SV)(hp:List Ck):List Nat:=match az with
 | .vv v::_=>(hp.findIdx? (kb v)).toList
 | .jo v .. ::_=>(hp.findIdx? (kb v)).toList
 | _=>[]
def NH:aI:={use:=R0,inc:={v:=1,a:=1},val:=fun c=> .vv c.v,new:=fun c h=>h++[.cr true c.v 5 1 (.lit 32) (uU c.a)]}
def Ki:aI:={use:=R0,inc:={v:=1,a:=1,i:=1},val:=fun c=> .vv c.v,new:=fun c h=>h++[.cr true c.v 5 1 (.var c.i) (uU c.a)]}
def NI(f:Nat):Option aI:=if f=33 then some NH else none
def NJ(f:Nat):Option aI:=if f=14 then some Ki else none
def R1(f r:Nat):Option (St→Option dH):=if f=14∧r=3 then some (only 2)else none
end Go.RX.Vw

namespace Go.RX.Vx
open Go.RX Go.RX.Vb Go.RX.Vc Go.RX.Vd Go.RX.Ve Go.RX.Vq Go.RX.Vr Go.RX.Vt
def NK(b:Nat)(hp:List Ck):List SV:=match hp.findIdx? (qE b)with
 | some i=>match hp[i]? with
  | some (.row _ _ cs)=>cs
  | _=>[]
 | none=>[]
def aaf(d:Nat)(st:St):Option dH:=
 match st.fr.lookup d with
 | some (.ptr b _)=>some {pick:=some (iy b st.hp++Iz (NK b st.hp) st.hp)}
 | _=>none
def mQ(f r:Nat):Option (St→Option dH):=if f=20∧r=2 then some (aaf 0)else none
end Go.RX.Vx

namespace Go.RX.Vz
open Go.RX Go.RX.Vb Go.RX.Vc Go.RX.Vd Go.RX.Ve Go.RX.Vq Go.RX.Vr Go.RX.Vt Go.RX.Vw
def Kj:aI:={use:=fun _ _=>[],inc:={v:=7,i:=25,a:=22,p:=1},val:=fun c=> .agg (Vd.TZ c.i c.a c.v),new:=fun c _=>Vd.ZK true (c.i+18) (c.a+8) c.v++[.abs c.p]}
def aag(az:List SV)(hp:List Ck):List Nat:=(match az with | [.agg cs]=>s5 [.agg cs] hp | [.opt _ (.agg cs)]=>s5 [.agg cs] hp | _=>[])++mP hp
def Bt:aI:={Ek with use:=aag}
def IA:aI:={use:=aag,inc:={v:=1,i:=2,a:=1},val:=fun c=> .nO [.vv c.v,.int .i64 (.var c.i)],new:=fun c h=>h++[.cr true c.v 5 1 (.var (c.i+1)) (uU c.a)]}
def zf(ab:Bool):aI:={use:=R0,inc:={v:=7,i:=26,a:=22,p:=1},val:=fun c=> .nO [.agg (Vd.TZ c.i c.a c.v),.int .i64 (.var (c.i+25))],new:=fun c h=>h++Vd.ZK true (c.i+18) (c.a+8) c.v++if ab then [.abs c.p]else []}
def NL(f:Nat):Option aI:=
 match f with
 | 20=>some Kj
 | 9=>some IA
 | 17=>some (zf false)
 | 13=>some Bt
 | 10=>some xY
 | _=>none
end Go.RX.Vz

namespace Go.RX.Wa
open Go.RX Go.RX.Vb Go.RX.Vc Go.RX.Vd Go.RX.Ve Go.RX.Vq Go.RX.Vr Go.RX.Vt Go.RX.Vw Go.RX.Vz
def Kk:aI:={use:=fun _ _=>[],inc:={},val:=fun _=> .bool (.lit true),new:=fun _ _=>[]}
def Kl:aI:={use:=R0,inc:={v:=1,i:=1,a:=1,bo:=1},val:=fun c=> .nO [.vv c.v,.bool (.var c.bo)],new:=fun c h=>h++[.cr false c.v 5 1 (.var c.i) (uU c.a)]}
def bj(f:Nat):Option aI:=
 match f with
 | 7=>some Kk
 | 18=>some Kl
 | 9=>some IA
 | 17=>some (zf true)
 | 13=>some Bt
 | 10=>some xY
 | _=>none
def aeB:List SV:=[.vv 0]
def aah:List Ck:=[.cr false 0 5 1 (.var 0) (uU 0)]
def VP:ct:={v:=1,i:=1,a:=1}
end Go.RX.Wa

namespace Go.RX.Vb
open Go.RX Go.Proofs
noncomputable def cxW:Ctx:={T:=TT,FT:=FT,bj:=Wa.bj}
open Go.RX Go.Proofs
set_option maxRecDepth 100000
def El(al:PT)(x0:Int)(A0:Nat→Int)(v0:V1):Prop:=
 Cl 7 [] [] fun x hs _=>x= .bool true∧hs=[]∧
 ax (0≤x0) (
 br (100000<x0) (
 al (.bool true) []) (
 ∀_:V1,kE x0 (
 ∀v2:V1,Cl 17 [v2.v] [bp v2 x0 A0] fun x hs l=> ∃(v3 v4 v5 v6 v7 v8 v9:V1) (x1 x2 x3 x4 x5 x6 x7 x8 x9 bE bM bP bI dW bV dI cj dM cU dz i_ fU gC fV jb lz:Int) (A1 A2 A3 A4 A5 A6 A7 A8 A9 eg dN dq gk gG gP f_ fl fe fh fo gl kq:Nat→Int),∃p0:HP,x= .tuple #[Ap A1 x1 x2 x3 A2 A3 v3 x4 v4 x5 x6 A4 v5 x7 A5 (!(x8==0)) x9 bE bM A6 A7 A8 v6 bP v7 bI dW bV dI cj dM v8 v9,.int .i64 lz]∧hs=l++[p5 v3 cU A9 eg,De v4 dz dN dq gk,p7 v5 i_ gG,bp v6 fU gP,p6 v7 gC f_ fl,bp v8 fV fe,pZ v9 jb fh fo gl kq,p0]∧
 ∀_:Nat,Cl 18 [v0.v] [bf v0 x0 A0] fun x hs l=> ∃(v10:V1) (oM:Int) (lY:Nat→Int) (q0:Bool),x= .tuple #[v10.v,.bool q0]∧hs=l++[bf v10 oM lY]∧
 br (¬(lz=0)) (
 ax ((¬(lz=9))∨(0≤dz)) (
 ax ((¬(lz=9))∨(0≤fV)) (
 ax ((¬(lz=9))∨((-9223372036854775808)≤(dz+fV))) (
 ax ((¬(lz=9))∨((dz+fV)≤9223372036854775807)) (
 ax ((¬(lz=9))∨(0≤jb)) (
 ax ((¬(lz=9))∨((-9223372036854775808)≤((dz+fV)+jb))) (
 ax ((¬(lz=9))∨(((dz+fV)+jb)≤9223372036854775807)) (
 al (.bool (((lz==9)&&(((dz+fV)+jb)==0))&&((List.range 32).all fun j=>A1 j==(fun _=>0) j))) [])))))))) (
 Cl 9 [Ap A1 x1 x2 x3 A2 A3 v3 x4 v4 x5 x6 A4 v5 x7 A5 (!(x8==0)) x9 bE bM A6 A7 A8 v6 bP v7 bI dW bV dI cj dM v8 v9] [p5 v3 cU A9 eg,De v4 dz dN dq gk,p7 v5 i_ gG,bp v6 fU gP,p6 v7 gC f_ fl,bp v8 fV fe,pZ v9 jb fh fo gl kq,p0] fun x hs l=> ∃(v11:V1) (wS tu:Int) (lJ:Nat→Int),x= .tuple #[v11.v,.int .i64 wS]∧hs=l++[bp v11 tu lJ]∧
 br (q0=true) (
 Cl 10 [Ap A1 x1 x2 x3 A2 A3 v3 x4 v4 x5 x6 A4 v5 x7 A5 (!(x8==0)) x9 bE bM A6 A7 A8 v6 bP v7 bI dW bV dI cj dM v8 v9] [p5 v3 cU A9 eg,De v4 dz dN dq gk,p7 v5 i_ gG,bp v6 fU gP,p6 v7 gC f_ fl,bp v8 fV fe,pZ v9 jb fh fo gl kq,p0] fun x hs l=> ∃q1:Bool,x= .bool q1∧hs=l∧
 br (((q1=true)∧(wS=0))∧(dc (sV lJ tu)=dc (sV A0 x0))) (
 Cl 13 [Ap A1 x1 x2 x3 A2 A3 v3 x4 v4 x5 x6 A4 v5 x7 A5 (!(x8==0)) x9 bE bM A6 A7 A8 v6 bP v7 bI dW bV dI cj dM v8 v9] [p5 v3 cU A9 eg,De v4 dz dN dq gk,p7 v5 i_ gG,bp v6 fU gP,p6 v7 gC f_ fl,bp v8 fV fe,pZ v9 jb fh fo gl kq,p0] fun x hs l=> ∃(qG:V1) (rP:Int) (nF:Nat→Int),x=qG.v∧hs=l++[bp qG rP nF]∧
 al (.bool (dc (sV nF rP)==dc (sV lY oM))) []) (
 al (.bool false) [])) (
 al (.bool false) [])))))
theorem NM(al:PT)(x0:Int)(A0:Nat→Int)(v0:V1)(h:El al x0 A0 v0):aq aqQ 5 [v0.v] [bf v0 x0 A0] al:=
 sW (C:=cxW) Wa.aeB Wa.aah Wa.VP ⟨[x0],[A0],[],[],[v0],[],[],[]⟩ 0 Tryz.func5 (by kernel_rfl) h
open Go.RX Go.Proofs
noncomputable def cxK:Ctx:={T:=TT,FT:=FT,bj:=Vz.NL}
open Go.RX Go.Proofs
set_option maxRecDepth 100000
def Em(al:PT):Prop:=
 Cl 20 [] [] fun x hs _=> ∃(v0 v1 v2 v3 v4 v5 v6:V1) (x0 x1 x2 x3 x4 x5 x6 x7 x8 x9 bE bM bP bI dW bV dI cj dM cU dz i_ fU gC fV:Int) (A0 A1 A2 A3 A4 A5 A6 A7 A8 A9 eg dN dq gk gG gP f_ fl fe fh fo gl:Nat→Int),∃p0:HP,x=Ap A0 x0 x1 x2 A1 A2 v0 x3 v1 x4 x5 A3 v2 x6 A4 (!(x7==0)) x8 x9 bE A5 A6 A7 v3 bM v4 bP bI dW bV dI cj v5 v6∧hs=[p5 v0 dM A8 A9,De v1 cU eg dN dq,p7 v2 dz gk,bp v3 i_ gG,p6 v4 fU gP f_,bp v5 gC fl,pZ v6 fV fe fh fo gl,p0]∧
 ∀_:Nat,Cl 9 [Ap A0 x0 x1 x2 A1 A2 v0 x3 v1 x4 x5 A3 v2 x6 A4 (!(x7==0)) x8 x9 bE A5 A6 A7 v3 bM v4 bP bI dW bV dI cj v5 v6] [p5 v0 dM A8 A9,De v1 cU eg dN dq,p7 v2 dz gk,bp v3 i_ gG,p6 v4 fU gP f_,bp v5 gC fl,pZ v6 fV fe fh fo gl,p0] fun x hs l=> ∃(v7:V1) (jb lz:Int) (kq:Nat→Int),x= .tuple #[v7.v,.int .i64 jb]∧hs=l++[bp v7 lz kq]∧
 Cl 17 [v7.v] [bp v7 lz kq] fun x hs l=> ∃(v8 v9 v10 v11 qG qH tw:V1) (oM wS tu rP ia Df vD rQ rR Aq vE Qt IB wT En FY NN R2 NO VQ T5 FZ Bu R3 IC Qu:Int) (lY lJ nF uq sm wU AJ Ar Bv Eo ID Km R4 T6 Qv T7 R5 T8 T9 R6 Kn NP:Nat→Int),∃_:HP,x= .tuple #[Ap lY oM wS tu lJ nF v8 rP v9 ia Df uq v10 vD sm (!(rQ==0)) rR Aq vE wU AJ Ar v11 Qt qG IB wT En FY NN R2 qH tw,.int .i64 Qu]∧hs=l++[p5 v8 NO Bv Eo,De v9 VQ ID Km R4,p7 v10 T5 T6,bp v11 FZ Qv,p6 qG Bu T7 R5,bp qH R3 T8,pZ tw IC T9 R6 Kn NP]∧
 ∀_:Nat,ax (((¬(jb=0))∨(¬(Qu=0)))∨(0≤lz)) (
 br (¬(((¬(jb=0))∨(¬(Qu=0)))∨(lz<100))) (
 Cl 13 [Ap lY oM wS tu lJ nF v8 rP v9 ia Df uq v10 vD sm (!(rQ==0)) rR Aq vE wU AJ Ar v11 Qt qG IB wT En FY NN R2 qH tw] [p5 v8 NO Bv Eo,De v9 VQ ID Km R4,p7 v10 T5 T6,bp v11 FZ Qv,p6 qG Bu T7 R5,bp qH R3 T8,pZ tw IC T9 R6 Kn NP,p0] fun x hs l=> ∃(pP:V1) (Qw:Int) (NQ:Nat→Int),x=pP.v∧hs=l++[bp pP Qw NQ]∧
 Cl 13 [(if(!(((!(jb==0))||(!(Qu==0)))||(decide (lz<100))))then Ap A0 x0 x1 x2 A1 A2 v0 x3 v1 x4 x5 A3 v2 x6 A4 (!(x7==0)) x8 x9 bE A5 A6 A7 v3 bM v4 bP bI dW bV dI cj v5 v6 else undef)] [p5 v0 dM A8 A9,De v1 cU eg dN dq,p7 v2 dz gk,bp v3 i_ gG,p6 v4 fU gP f_,bp v5 gC fl,pZ v6 fV fe fh fo gl,p0] fun x hs l=> ∃(rS:V1) (R7:Int) (Ko:Nat→Int),x=rS.v∧hs=l++[bp rS R7 Ko]∧
 br (dc (sV NQ Qw)=dc (sV Ko R7)) (
 Cl 10 [Ap A0 x0 x1 x2 A1 A2 v0 x3 v1 x4 x5 A3 v2 x6 A4 (!(x7==0)) x8 x9 bE A5 A6 A7 v3 bM v4 bP bI dW bV dI cj v5 v6] [p5 v0 dM A8 A9,De v1 cU eg dN dq,p7 v2 dz gk,bp v3 i_ gG,p6 v4 fU gP f_,bp v5 gC fl,pZ v6 fV fe fh fo gl,p0] fun x hs l=> ∃q0:Bool,x= .bool q0∧hs=l∧
 br (¬(q0=true)) (
 al (.bool false) []) (
 Cl 17 [.slice none 0 0] [] fun x hs _=> ∃(px p8 so v20 NR xZ vF:V1) (Yb VR VS F0 T_ Qx Ua VT NS Kp vG F1 NU Kq NV Qy Yc VU Yd VV Ye VW Yf Ub Yg NW:Int) (Kr LM Qz QA VX LN VY VZ V0 A56 A57 A58 A59 R8 R9 R_ Sa Sb A65 A66 A67 A68:Nat→Int),∃_:HP,x= .tuple #[Ap Kr Yb VR VS LM Qz px F0 p8 T_ Qx QA so Ua VX (!(VT==0)) NS Kp vG LN VY VZ v20 F1 NR NU Kq NV Qy Yc VU xZ vF,.int .i64 NW]∧hs=[p5 px Yd V0 A56,De p8 VV A57 A58 A59,p7 so Ye R8,bp v20 VW R9,p6 NR Yf R_ Sa,bp xZ Ub Sb,pZ vF Yg A65 A66 A67 A68]∧
 ∀_:Nat,ax (0≤lz) (
 iQ (lz - 1) ((
 ax (0≤(lz - 1)) (
 ax ((lz - 1)≤lz) (
 Cl 17 [(aE 1 v7.v 0 (ag (lz - 1)) none)] [bp v7 lz kq] fun x hs l=> ∃(zg wV uV vH xG As v30:V1) (V2 V3 zh F2 Ks Kt Au Yh V4 x90 x91 x92 x93 x94 x95 x96 x97 x98 x99 aeC aeD aeE aeF aeG aeH aaj:Int) (A69 A70 A71 A72 A73 A74 A75 A76 A77 A78 A79 A80 A81 A82 A83 A84 A85 A86 A87 A88 A89 A90:Nat→Int),∃_:HP,x= .tuple #[Ap A69 V2 V3 zh A70 A71 zg F2 wV Ks Kt A72 uV Au A73 (!(Yh==0)) V4 x90 x91 A74 A75 A76 vH x92 xG x93 x94 x95 x96 x97 x98 As v30,.int .i64 aaj]∧hs=l++[p5 zg x99 A77 A78,De wV aeC A79 A80 A81,p7 uV aeD A82,bp vH aeE A83,p6 xG aeF A84 A85,bp As aeG A86,pZ v30 aeH A87 A88 A89 A90]∧
 ∀_:Nat,Cl 9 [zv3 A0 x0 x1 x2 A1 A2 v0 x3 v1 A3 v2 x6 A4 (!(x7==0)) x8 x9 bE A5 A6 A7 v3 bM v4 bP bI dW bV dI cj v5 v6] [p5 v0 dM A8 A9,De v1 cU eg dN dq,p7 v2 dz gk,bp v3 i_ gG,p6 v4 fU gP f_,bp v5 gC fl,pZ v6 fV fe fh fo gl,p0] fun x hs l=> ∃(Ku:V1) (aak aeI:Int) (A91:Nat→Int),x= .tuple #[Ku.v,.int .i64 aak]∧hs=l++[bp Ku aeI A91]∧
 br (((NW=9)∧(aaj=9))∧(aak=2)) (
 Cl 10 [zv3 A0 x0 x1 x2 A1 A2 v0 x3 v1 A3 v2 x6 A4 (!(x7==0)) x8 x9 bE A5 A6 A7 v3 bM v4 bP bI dW bV dI cj v5 v6] [p5 v0 dM A8 A9,De v1 cU eg dN dq,p7 v2 dz gk,bp v3 i_ gG,p6 v4 fU gP f_,bp v5 gC fl,pZ v6 fV fe fh fo gl,p0] fun x hs l=> ∃q1:Bool,x= .bool q1∧hs=l∧
 al (.bool (!q1)) []) (
 al (.bool false) [])))))))) (
 al (.bool false) [])) (
 al (.bool false) []))
theorem NY(al:PT)(h:Em al):aq aqQ 7 [] [] al:=
 sW (C:=cxK) [] [] ⟨0,0,0,0,0,0,0⟩ ⟨[],[],[],[],[],[],[],[]⟩ 0 Tryz.func7 (by kernel_rfl) h
end Go.RX.Vb
