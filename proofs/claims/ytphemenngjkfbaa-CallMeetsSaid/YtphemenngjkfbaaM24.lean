/- What the executor is told of the call machine's moves. -/
import Derived.Test.YtphemenngjkfbaaM23
open Array renaming getElem?_eq_some_iff → adS
open Go.Proofs.Try renaming prog → adY
open Int renaming toNat → ag
open List renaming getElem?_append_left → adO, getElem?_append_right → adQ, getElem?_eq_getElem → ad9, getElem?_eq_some_iff → adJ, range → aec
open Option.some renaming injEq → adK
namespace Go.RX.Cu
open Go.RX Go.RX.Fr
def yN(hp:List Ck):List Nat:=(aec hp.length).filter fun j=>match hp[j]? with
 | some (.abs k)=>decide (3≤k)
 | _=>false
def wQ(k:Nat)(hp:List Ck):List Nat:=(aec hp.length).filter fun j=>match hp[j]? with
 | some (.abs i)=>i==k
 | _=>false
def Eh(hp:List Ck):List Nat:=match findAt hp 1 with
 | some (i,_)=>[i]
 | none=>[]
def Rq(x:SV):List Ck→List Ck
 | [.row b w (a::d::dv::dead::_::rest)]=>[.row b w (a::d::dv::dead::x::rest)]
 | h=>h
def MN:bh:={use:=fun _ hp=>yN hp,inc:={p:=1},val:=fun _=> .j7 [],new:=fun c _=>[.abs c.p]}
def J7:bh:={use:=fun _ hp=>yN hp++Eh hp,inc:={p:=1},val:=fun _=> .j7 [],new:=fun c h=> .abs c.p::h.drop 1}
def PY:bh:={use:=fun _ hp=>yN hp++Eh hp++wQ 0 hp,inc:={p:=1},val:=fun _=> .j7 [],new:=fun c h=> .abs c.p::Rq (.int .u8 (.lit 0)) ((h.drop 1).take 1)++h.drop 2}
def J8:bh:={use:=fun _ _=>[],inc:={a:=1},val:=fun c=> .agg [.aX .u8 32 (.aw c.a)],new:=fun _ _=>[]}
def B3(k:Nat):bh:={use:=fun _ hp=>wQ k hp,inc:={bo:=1},val:=fun c=> .bool (.var c.bo),new:=fun _ h=>h}
def yO(k:Nat):bh:={use:=fun _ hp=>wQ k hp,val:=fun _=> .j7 [],new:=fun _ h=>h}
def de(f:Nat):Option bh:=
 match f with
 | 96=>some MN
 | 85=>some J7
 | 93=>some PY
 | 44=>some J8
 | 82=>some (B3 0)
 | 92=>some (yO 0)
 | 118=>some (B3 2)
 | 120=>some (yO 2)
 | _=>none
def calls(f s:Nat):Option bh:=
 match f,s with
 | 119,40=>some Ma.sum
 | 87,81=>some Ma.cmp
 | _,_=>none
def hp:List Ck:=[.abs 3,Ct.SM 0 0,.abs 0]
def aQ:cz:={b:=3,i:=40,a:=10,p:=4}
def m:SV:= .ptr 1 0
def s:SV:= .ptr 0 0
end Go.RX.Cu

namespace Go.RX.Cv
open Go.RX Go.RX.Fr
def YP(i a:Nat):Ck:=match Ct.SM i a with
 | .row b w [x0,x1,x2,x3,_,x5,x6,x7,x8,x9,aG,aO,aI,_,_,et,dV,ef,ei,e_,bz]=> .row b w [x0,x1,x2,x3,.int .u8 (.lit 1),x5,x6,x7,x8,x9,aG,aO,aI,.ptr 3 0,.ptr 4 0,et,dV,ef,ei,e_,bz]
 | c=>c
def hp:List Ck:=[.abs 3,YP 0 0,.abs 0,.abs 2,.row 3 true [u8 30,.vv 0,.int .i64 (.var 31)],.cc true 0 5 1 (.lit 2) [⟨.int .u8,1,.aw 9⟩]]
def aQ:cz:={b:=5,i:=40,a:=10,p:=4,v:=1}
end Go.RX.Cv

namespace Go.RX.Cw
open Go.RX Go.RX.Fr Go.RX.Cu
def MO(_:List SV)(hp:List Ck):List Nat:=yN hp++Eh hp++wQ 0 hp
def setRow(c:cz)(f:List SV→List SV):List Ck→List Ck
 | [_,.row b w l,x]=>[.abs c.p,.row b w (f l),x]
 | h=>h
def yP:bh:={use:=MO,inc:={p:=1},val:=fun _=> .j7 [],new:=fun c=>setRow c fun | [x0,x1,x2,x3,_,x5,x6,x7,x8,x9,aG,aO,aI,aT,bj,et,dV,ef,ei,e_,bz]=>[x0,x1,x2,x3,.int .u8 (.lit 0),x5,x6,x7,x8,x9,aG,aO,aI,aT,bj,et,dV,ef,ei,e_,bz] | l=>l}
def Ei:bh:={use:=MO,inc:={p:=1,i:=3},val:=fun _=> .j7 [],new:=fun c=>setRow c fun | [x0,x1,x2,x3,_,x5,x6,x7,_,_,aG,aO,aI,aT,bj,et,dV,_,ei,e_,bz]=>[x0,x1,x2,x3,.int .u8 (.lit 3),x5,x6,x7,u8 c.i,u8 (c.i+1),aG,aO,aI,aT,bj,et,dV,u64 (c.i+2),ei,e_,bz] | l=>l}
def GM:bh:={use:=MO,inc:={p:=1,i:=1},val:=fun _=> .j7 [],new:=fun c=>setRow c fun | [x0,x1,x2,x3,_,x5,x6,x7,x8,x9,aG,aO,aI,aT,bj,et,_,_,_,_,_]=>[x0,x1,x2,x3,.int .u8 (.lit 4),x5,x6,x7,x8,x9,aG,aO,aI,aT,bj,et,u64 c.i,u64 c.i,u64 c.i,u64 c.i,.int .u32 (.lit 0)] | l=>l}
def J9:bh:={use:=MO,inc:={p:=1,i:=3,a:=2},val:=fun _=> .j7 [],new:=fun c=>setRow c fun | [x0,x1,x2,x3,_,_,_,_,_,_,_,_,_,aT,bj,_,_,_,_,_,_]=>[x0,x1,x2,x3,.int .u8 (.lit 2),.aX .u8 16 (.aw c.a),.bool (.lit false),u8 c.i,u8 c.i,u8 (c.i+1),.aX .u8 32 (.lit 0),.aX .u8 32 (.aw (c.a+1)),.aX .u8 32 (.lit 0),aT,bj,u64 (c.i+2),.int .u64 (.lit 0),u64 (c.i+2),.int .u64 (.lit 0),.int .u64 (.lit 0),.int .u32 (.lit 0)] | l=>l}
def Ej:bh:={use:=MO,inc:={p:=1,i:=1,a:=2},val:=fun _=> .j7 [],new:=fun c=>setRow c fun | [x0,x1,x2,x3,_,x5,x6,x7,x8,x9,_,aO,_,aT,bj,et,dV,_,ei,e_,bz]=>[x0,x1,x2,x3,.int .u8 (.lit 3),x5,x6,x7,x8,x9,.aX .u8 32 (.aw c.a),aO,.aX .u8 32 (.aw (c.a+1)),aT,bj,et,dV,u64 c.i,ei,e_,bz] | l=>l}
def Ek(f:Nat):Option bh:=
 match f with
 | 95=>some yP
 | 97=>some Ej
 | 115=>some J9
 | 117=>some Ei
 | 119=>some GM
 | f=>de f
def now:SV:=u64 22
end Go.RX.Cw

namespace Go.RX.Cx
open Go.RX Go.RX.Fr Go.RX.Cu Go.RX.Cw
def MP(hp:List Ck):List Nat:=(match findAt hp 3 with | some (i,_)=>[i] | none=>[])++(match dN hp 0 with | some (i,_)=>[i] | none=>[])
def PZ:bh:={use:=fun _ hp=>yN hp++Eh hp++wQ 0 hp++wQ 2 hp++MP hp,inc:={p:=1},val:=fun _=> .j7 [],new:=fun c h=>yP.new c (h.take 3)}
def MQ:bh:={use:=fun _ hp=>MP hp,inc:={i:=1,a:=1},val:=fun c=> .int .i64 (.var c.i),new:=fun c h=>match h with | [r,.cc md v t s n _]=>[r,.cc md v t s n [⟨.int .u8,1,.aw c.a⟩]] | h=>h}
def J_:bh:={use:=fun _ hp=>MP hp,inc:={i:=2},val:=fun c=> .int .i64 (.var c.i),new:=fun c h=>match h with | [.row b w [a,v,_],s]=>[.row b w [a,v,.int .i64 (.var (c.i+1))],s] | h=>h}
def MS:bh:={use:=fun _ hp=>MP hp,inc:={i:=1,bo:=1},val:=fun c=> .j7 [u8 c.i,.bool (.var c.bo)],new:=fun _ h=>h}
def Ka:bh:={use:=fun _ hp=>yN hp++Eh hp++wQ 0 hp++wQ 2 hp++MP hp,inc:={p:=2},val:=fun _=> .j7 [],new:=fun c _=>[.abs c.p,.abs (c.p+1)]}
def MT(f:Nat):Option bh:=
 match f with
 | 95=>some PZ
 | 15=>some MQ
 | 16=>some J_
 | 18=>some MS
 | 90=>some Ka
 | f=>Ek f
end Go.RX.Cx

namespace Go.RX.Db
open Go.RX Go.RX.Fr Go.RX.Cu
def YQ(b:Nat)(hp:List Ck):List Nat:=match findAt hp b with
 | some (i,_)=>[i]
 | none=>[]
def Xr(k:Nat)(az:List SV)(hp:List Ck):List Nat:=match az[k]? with
 | some (.ptr b 0)=>YQ b hp++yN hp
 | _=>[]
def Iu(c:cz):List Ck→List Ck
 | .row b w _::_=>[.row b w [.vv c.v,.vv (c.v+1),.vv (c.v+2)],.abs c.p]
 | h=>h
def SN:Ck→Bool
 | .abs k=>decide (3≤k)
 | _=>false
def rest:List Ck→List Ck
 | _::c::r=>if SN c then r else c::r
 | _=>[]
def whole:bh:={use:=fun az hp=>Xr 1 az hp++Eh hp++wQ 0 hp++wQ 1 hp,inc:={p:=2,v:=3},val:=fun _=> .j7 [],new:=fun c h=>Iu c h++[.abs (c.p+1)]}
def send:bh:={use:=fun az hp=>Xr 0 az hp,inc:={p:=1,v:=3},val:=fun _=> .j7 [],new:=Iu}
def event:bh:={use:=fun az hp=>Xr 1 az hp++Eh hp,inc:={p:=1,v:=3},val:=fun _=> .j7 [],new:=fun c h=>Iu c h++rest h}
def YR:bh:={use:=fun az hp=>Xr 1 az hp++Eh hp++wQ 0 hp,inc:={p:=1,v:=3},val:=fun _=> .j7 [],new:=fun c h=>Iu c h++Rq (.int .u8 (.lit 0)) ((rest h).take 1)++(rest h).drop 1}
def B4:bh:={use:=fun _ _=>[],inc:={b:=1,v:=1,a:=1,i:=1},val:=fun c=> .j7 [.ptr c.b 0,.int .i64 (.lit 0)],new:=fun c _=>[.row c.b true [u8 c.i,.vv c.v,.int .i64 (.lit (-1))],.cc true c.v 5 1 (.lit 2) [⟨.int .u8,1,.aw c.a⟩]]}
def de(f:Nat):Option bh:=
 match f with
 | 87=>some whole
 | 88=>some whole
 | 89=>some whole
 | 90=>some whole
 | 91=>some whole
 | 95=>some whole
 | 97=>some whole
 | 93=>some YR
 | 96=>some send
 | 85=>some event
 | 82=>some (B3 0)
 | 92=>some (yO 0)
 | 14=>some B4
 | _=>none
def hp:List Ck:=[Ct.SM 0 0,.abs 0,.abs 1]
def aQ:cz:={b:=3,i:=40,a:=10,p:=3}
def m:SV:= .ptr 1 0
def dev:SV:= .agg [u8 20,u8 21]
def sg:SV:=Cs.Vo 23 5
def now:SV:=u64 22
def key:SV:= .agg [.aX .u8 32 (.aw 6)]
def id:SV:= .agg [.aX .u8 16 (.aw 5)]
end Go.RX.Db

namespace Go.RX.Df
open Go.RX Go.RX.Fr
def Vp:bh:={use:=fun _ hp=>Cu.wQ 0 hp,inc:={i:=2,a:=1,bo:=1},val:=fun c=> .j7 [.agg [.aX .u8 16 (.aw c.a)],.agg [u8 c.i,u8 (c.i+1)],.bool (.var c.bo)],new:=fun _ h=>h}
def de(f:Nat):Option bh:=
 match f with
 | 57=>some Vp
 | _=>none
def kY(i:Nat):List Ck:=[row,.cc true 0 216 59 (.var 3) (qP 0),.cc true 1 76 56 (.var 4) (B1 12),
 .map 5 qg true true [.int .u8 (.lit 0),.int .u8 (.lit 0)] (.aw 49) [c1 50,c1 51],.map 6 qg true true [.aX .u8 32 (.lit 0)] (.aw 52) [⟨.int .u8,32,.aw 53⟩],
 .ni 7 k2 true false [.hU] [(kd 0,[.mp 9]),(kd 1,[.mp 10]),(kd 2,[.mp 11]),(kd 3,[.mp 12])],
 .map 8 k2 true false [.bT] (.aw 63) [⟨.pt (.lit (kd i)) 2,1,.aw 64⟩],
 .map (9+i) qg true false [.int .u8 (.lit 0)] (.aw 54) [c1 55],.cc true 2 85 22 (.var 5) (qQ 56),.abs 0,
 .cc true 6 111 57 (.var 6) (xf 22),.cc true 7 76 56 (.var 7) (B1 32),.cc true 8 85 22 (.var 8) (qQ 42)]
def gX(i:Nat):List SV:=[.ptr 0 0,.int .i64 (.lit i),.agg [.vv 6,.vv 7,.vv 8]]
def jk:cz:={b:=13,v:=9,i:=9,a:=65,p:=1}
def YO(c:cz)(h:List Ck):List Ck:=
 match h with
 | .row b w [n,m0,m1,m2,m3,f,d,t,p,e,r,q,_]::f'::e'::t'::p'::r7:: .map b8 l8 a8 v8 z8 _ [⟨.pt k _,w8,A8⟩]:: .map b9 l9 a9 v9 z9 _ _:: .cc md _ ty s _ _::r'=>
  .row b w [n,m0,m1,m2,m3,f,d,t,p,e,r,q,.bool (.var c.bo)]::f'::e'::t'::p'::r7:: .map b8 l8 a8 v8 z8 (.aw (c.a+9)) [⟨.pt k c.v,w8,A8⟩]:: .map b9 l9 a9 v9 z9 (.aw c.a) [c1 (c.a+1)]:: .cc md c.v ty s (.var (c.i+1)) (qQ (c.a+2))::r'
 | h=>h
def loops(f id:Nat):Option mP:=
 match f,id with
 | 101,5=>some {inc:={v:=1,i:=2,a:=10,bo:=1},aV:=fun c=>[(163,.int .i64 (.var c.i))],hp:=YO}
 | f,id=>Fr.loops f id
end Go.RX.Df

namespace Go.RX.Dk
open Go.RX Go.RX.Fr
def mcs:List Ck:=[.abs 0,.abs 1,.abs 2,.abs 3,.abs 4]
def hp:List Ck:=[row,.abs 5]++mcs
def hpS:List Ck:=[row,.cc true 0 216 59 (.var 3) (qP 0)]++mcs
def aQ:cz:={b:=9,v:=2,i:=5,a:=12,p:=6}
def mAt:List SV→List Nat
 | .ptr (k+1) 0::_=>[3+k]
 | _=>[]
def move(val:SV→cz→SV):bh:={use:=fun az _=>mAt az,inc:={p:=2,v:=3,i:=1},val:=fun c=>val (.agg [.vv c.v,.vv (c.v+1),.vv (c.v+2)]) c,new:=fun c _=>[.abs c.p,.abs (c.p+1)]}
def one:bh:=move fun v _=>v
def Iv:bh:=move fun v c=> .j7 [v,.int .i64 (.var c.i)]
def P0(hp:List Ck):List Nat:=match ((aec hp.length).filter fun j=>decide (7≤j)&&(match hp[j]? with
 | some (Ck.abs _)=>true
 | _=>false)).getLast? with
 | some j=>[j]
 | none=>[]
def P3(c:cz):List Ck→List Ck
 | .row b w [n,m0,m1,m2,m3,_,d,t,p,_,r,q,_]:: .abs _:: .abs _::l=>
  .row b w [n,m0,m1,m2,m3,.vv c.v,d,t,p,.vv (c.v+1),r,q,.bool (.var c.bo)]:: .abs c.p:: .abs (c.p+1)::l.take 1
 | h=>h
def notes:bh:={use:=fun az hp=>[0,1,2]++(match az with | [_,.int _ (.lit k),_]=>[3+k.toNat] | _=>[])++P0 hp,inc:={v:=2,bo:=1,p:=2},val:=fun _=> .j7 [],new:=P3}
def B5(c:cz):List Ck→List Ck
 | .row b w [_,m0,m1,m2,m3,_,d,t,p,_,r,q,_]::_=>
  .row b w [u64 c.i,m0,m1,m2,m3,.vv c.v,d,t,p,.vv (c.v+1),r,q,.bool (.lit false)]::(aec 6).map fun j=> .abs (c.p+j)
 | h=>h
def all:bh:={use:=fun _ _=>aec 7,inc:={v:=2,p:=6,i:=1},val:=fun _=> .j7 [],new:=B5}
def de(f:Nat):Option bh:=
 match f with
 | 51=>some one
 | 53=>some one
 | 54=>some Iv
 | 55=>some Iv
 | 56=>some Iv
 | 50=>some Iv
 | 101=>some notes
 | 99=>some all
 | 100=>some all
 | _=>none
def Rr(di s:Nat)(_:St):Option eg:=some {aV:=[(s,.int .i64 (.lit di))]}
def Kb(st:St):Option eg:=
 match st.hp with
 | _:: .cc _ _ _ _ _ _::_=>some {use:=[1],inc:={p:=1},new:=[.abs st.aQ.p]}
 | _=>none
def bare(st:St):Option eg:=
 match st.hp with
 | .row _ _ [_,_,_,_,_,.vv v,_,_,_,_,_,_,_]:: .abs _::_=>some {use:=[1],inc:={i:=1,a:=12},new:=[.cc true v 216 59 (.var st.aQ.i) (qP st.aQ.a)]}
 | _=>none
def qh(di f r:Nat):Option (St→Option eg):=
 match f,r with
 | 99,1=>some Kb
 | 99,2=>some (Rr di 5)
 | 60,1=>some (Rr di 4)
 | 60,6=>some Kb
 | 60,12=>some Kb
 | 60,15=>some Kb
 | 60,17=>some Kb
 | 60,26=>some Kb
 | 61,8=>some bare
 | 61,16=>some bare
 | 61,9=>some bare
 | _,_=>none
def GN(c:cz):Ck→Ck
 | .row b w [_,m0,m1,m2,m3,_,d,t,p,_,r,q,_]=> .row b w [u64 c.i,m0,m1,m2,m3,.vv c.v,d,t,p,.vv (c.v+1),r,q,.bool (.lit false)]
 | k=>k
def GO(c:cz):List Ck→List Ck
 | r::_=>GN c r:: .cc true c.v 216 59 (.var (c.i+1)) (qP c.a)::(aec 5).map fun j=> .abs (c.p+j)
 | h=>h
def loops(f id:Nat):Option mP:=
 match f,id with
 | 61,0=>some {inc:={v:=2,i:=3,a:=12,p:=5},aV:=fun c=>[(5,.int .i64 (.var (c.i+2)))],hp:=GO}
 | 61,2=>some {inc:={v:=2,i:=3,a:=12,p:=5},aV:=fun c=>[(3,.int .i64 (.var (c.i+2)))],hp:=GO}
 | 61,4=>some {inc:={v:=2,i:=3,a:=12,p:=5},aV:=fun c=>[(4,.int .i64 (.var (c.i+2)))],hp:=GO}
 | _,_=>none
def MU:List SV:=[.ptr 0 0,.agg [u8 4,u8 5,.int .u16 (.var 6),u8 7]]
def Kc:List SV:=[.ptr 0 0,.int .i64 (.var 4)]
def El:cz:={aQ with i:=8}
def qi(_:Nat):List SV:=Kc
def vY(_:Nat):List SV:=MU
def C1(_:Nat):List Ck:=hpS
end Go.RX.Dk

namespace Go.RX.Ds
open Go.RX Go.RX.Fr
def SO:Ck→Bool
 | .row _ _ [_,_,_,_,_,_,_,_,_,_,_,_,_]=>true
 | _=>false
def Vq:Ck→Bool
 | .abs _=>true
 | _=>false
def B6(hp:List Ck):List Nat:=(aec hp.length).filter fun j=>SO (hp.getD j .emp)||Vq (hp.getD j .emp)
def MV(c:cz):List Ck:= .row c.b true [u64 c.i,.ptr (c.b+1) 0,.ptr (c.b+2) 0,.ptr (c.b+3) 0,.ptr (c.b+4) 0,.vv c.v,.int .u16 (.var (c.i+1)),.mp (c.b+5),.mp (c.b+6),.vv (c.v+1),.mp (c.b+7),.mp (c.b+8),.bool (.lit false)]::(aec 6).map fun j=> .abs (c.p+j)
def begin:bh:={use:=fun _ _=>[],inc:={b:=9,v:=2,i:=2,p:=6},val:=fun c=> .ptr c.b 0,new:=fun c _=>MV c}
def GN(c:cz):Ck→Ck
 | .row b w [_,m0,m1,m2,m3,_,_,t,p,_,r,q,_]=> .row b w [u64 c.i,m0,m1,m2,m3,.vv c.v,.int .u16 (.var (c.i+1)),t,p,.vv (c.v+1),r,q,.bool (.lit false)]
 | k=>k
def B5(c:cz):List Ck→List Ck
 | r::_=>GN c r::(aec 6).map fun j=> .abs (c.p+j)
 | h=>h
def all(val:SV):bh:={use:=fun _ hp=>B6 hp,inc:={v:=2,i:=2,p:=6},val:=fun _=>val,new:=B5}
def Vr:List SV→Option Nat
 | [.ptr b 0]=>some b
 | [.opt _ (.ptr b 0)]=>some b
 | _=>none
def YS(vs:List SV)(hp:List Ck):List Nat:=
 match Vr vs,B6 hp with
 | some b,r::l=>match hp.getD r .emp with
  | .row _ _ cs=>match (aec 4).find? fun j=>(match cs.getD (j+1) (.bool (.lit false))with
    | .ptr k 0=>k==b
    | _=>false)with
   | some j=>[l.getD (2+j) 0]
   | none=>[]
  | _=>[]
 | _,_=>[]
def asks(inc:cz)(val:cz→SV):bh:={use:=YS,inc:=inc,val:=val,new:=fun _ h=>h}
def de(f:Nat):Option bh:=
 match f with
 | 46=>some {use:=fun _ _=>[],val:=fun _=> .bool (.lit true),new:=fun _ _=>[]}
 | 59=>some begin
 | 60=>some (all (.j7 []))
 | 61=>some (all (.bool (.lit true)))
 | 57=>some (asks {a:=1,i:=2,bo:=1} fun c=> .j7 [.agg [.aX .u8 16 (.aw c.a)],.agg [u8 c.i,u8 (c.i+1)],.bool (.var c.bo)])
 | 52=>some (asks {i:=1} fun c=>u8 c.i)
 | 58=>some (asks {a:=1} fun c=> .agg [.aX .u8 32 (.aw c.a)])
 | _=>none
def Ru(hp:List Ck):List Nat:=(aec hp.length).filter fun j=>match hp.getD j .emp with
 | .cc .. =>true
 | _=>false
def core(hp:List Ck):List Ck:=(Ru hp++B6 hp).map fun j=>hp.getD j .emp
def renew(c:cz)(hp:List Ck):List Ck:=(Ru hp).map (fun j=>hp.getD j .emp)++B5 c ((B6 hp).map fun j=>hp.getD j .emp)
def loops(f id:Nat):Option mP:=
 match f,id with
 | 11,0=>some {inc:={v:=2,i:=3,p:=6},aV:=fun c=>[(23,.int .i64 (.var (c.i+2)))],hp:=renew}
 | _,_=>none
def qj(f id:Nat):Option xg:=
 match f,id with
 | 11,3=>some {aV:=fun _=>[],hp:=fun _ h=>core h}
 | _,_=>none
def pin(st:St):Option eg:=
 match look st.fr 53,look st.fr 9,look st.fr 6 with
 | some (.int _ s),some (.ptr b 0),some (.int _ (.lit i))=>
  let act:=BE.eq s (.lit 4)
  if st.known.contains (iE act)then none
  else if st.known.contains act then
   match findAt st.hp b with
   | some (j,.row b w [.int k x,.int l y])=>
    let zero:=BE.eq y (.lit 0)
    let put (d:Int):eg:={use:=[j],new:=[.row b w [.int k (.lit (1 - i/2)),.int l (.lit d)]]}
    if st.known.contains zero then some (put 0)
    else if st.known.contains (iE zero)then some (put 1)
    else match x with
     | .lit _=>none
     | _=>some {split:=some zero}
   | _=>none
  else some {split:=some act}
 | _,_,_=>none
def qh(f r:Nat):Option (St→Option eg):=
 match f,r with
 | 11,22=>some pin
 | _,_=>none
def args:List SV:=[.vv 0]
def hp:List Ck:=[.cc false 0 123 4 (.var 0) [⟨.int .u8,1,.aw 0⟩,⟨.int .u8,1,.aw 1⟩,⟨.int .u16,1,.aw 2⟩,⟨.int .u8,1,.aw 3⟩]]
def aQ:cz:={b:=0,v:=1,i:=1,a:=4}
end Go.RX.Ds

namespace Go.RX
theorem MW{α:Type}{a b:List α}(h:a.Perm b): ∃f:Nat→Nat,(∀i j,f i=f j→i=j)∧∀(j:Nat) x,b[j]? =some x→a[f j]? =some x:=by
 induction h with
 | nil=>exact⟨id,fun _ _ h=>h,fun _ _ h=>h⟩
 | cons x _ ih=>
  obtain⟨f,h1,h2⟩:=ih;refine⟨fun j=>match j with | 0=>0 | j+1=>f j+1,fun i j h=>?_,fun j y hy=>?_⟩
  ·cases i<;>cases j<;>simp at h ⊢
   exact h1 _ _ h
  ·cases j with
   | zero=>simpa using hy
   | succ j=>simpa using h2 j y (by simpa using hy)
 | swap x y l=>
  refine⟨fun j=>match j with | 0=>1 | 1=>0 | j+2=>j+2,fun i j h=>?_,fun j z hz=>?_⟩
  ·match i,j,h with
   | 0,0,_=>rfl
   | 1,1,_=>rfl
   | 0,1,h=>simp at h
   | 1,0,h=>simp at h
   | 0,j+2,h=>simp at h
   | 1,j+2,h=>simp at h
   | i+2,0,h=>simp at h
   | i+2,1,h=>simp at h
   | i+2,j+2,h=>simpa using h
  ·match j,hz with
   | 0,hz=>simpa using hz
   | 1,hz=>simpa using hz
   | j+2,hz=>simpa using hz
 | trans _ _ ih1 ih2=>
  obtain⟨f,f1,f2⟩:=ih1;obtain⟨g,g1,g2⟩:=ih2;exact⟨fun j=>f (g j),fun i j h=>g1 _ _ (f1 _ _ h),fun j x hx=>f2 _ _ (g2 _ _ hx)⟩
theorem bd.perm{a b:List HP}{w:World}(h:bd a w)(hp:a.Perm b):bd b w:=by
 obtain⟨f,h1,h2⟩:=MW hp;refine h.rI (fun j=>some (f j)) (fun j x hx=> .inr ⟨f j,rfl,h2 j x hx⟩) ?_;intro j j' i hj ky _ _;cases hj;simp only [adK]at ky;exact h1 _ _ ky.symm
theorem aD.perm{a b:List HP}(h:a.Perm b):aD a b:=fun _ _ o=>o.perm (h.append_right _)
theorem aD.frame{a b:List HP}(h:aD a b)(r:List HP):aD (a++r) (b++r):=fun w Fs o=>by
 rw [List.append_assoc]at o ⊢;exact h w (r++Fs) o
theorem aq.frame{P:Program}{f:Nat}{args:List Value}{pre:List HP}{post:Value→List HP→Prop}(h:aq P f args pre post)(r:List HP):
  aq P f args (pre++r) fun v hs=> ∃DR,hs=DR++r∧post v DR:=by
 intro w Fs o;rw [List.append_assoc]at o;refine(h w (r++Fs) o).mono ?_;rintro e w' ⟨v,hs,he,hp,ho,gN⟩;exact⟨v,hs++r,he,⟨hs,rfl,hp⟩,by rw [List.append_assoc];exact ho,gN⟩
def HP.star(l:List HP):HP where
 wr:=true
 p w S:= ∃T,Sep l T w∧∀k,S k↔∃i,i<l.length∧T i k
 hJ w w' S h hk:=by
  obtain⟨T,hT,hS⟩:=h;refine⟨T,⟨fun i x hx=>?_,hT.apart⟩,hS⟩;have cK:i<l.length:=(adJ.1 hx).1;obtain⟨hp,hb⟩:=hT.at_ i x hx;refine⟨x.hJ w w' _ hp fun k py=>hk k ((hS k).2 ⟨i,cK,py⟩),fun k py=>?_⟩;have:=hk k ((hS k).2 ⟨i,cK,py⟩);have eV:=hb k py;rw [Array.getElem?_eq_getElem eV]at this;exact(adS.1 this).1
theorem aD.jl(l:List HP):aD [HP.star l] l:=by
 intro w Fs ⟨S,hS⟩;obtain⟨⟨T,hT,hTS⟩,hb⟩:=hS.at_ 0 (HP.star l) rfl;refine⟨fun i=>if i<l.length then T i else S (i - l.length+1),⟨?_,?_⟩⟩
 ·intro i x hx;by_cases hi:i<l.length
  ·rw [adO hi]at hx;simp only [hi,if_true];exact hT.at_ i x hx
  ·rw [adQ (by omega)]at hx;simp only [hi,if_false];exact hS.at_ (i - l.length+1) x (by simpa using hx)
 ·intro i j x y fc hx hy hw k;by_cases hi:i<l.length<;>by_cases hj:j<l.length
  ·rw [adO hi]at hx;rw [adO hj]at hy;simp only [hi,hj,if_true];exact hT.apart i j x y fc hx hy hw k
  ·rw [adQ (by omega)]at hy;simp only [hi,hj,if_true,if_false];intro h1;exact hS.apart 0 (j - l.length+1) (HP.star l) y (by omega) rfl (by simpa using hy) (.inl rfl) k ((hTS k).2 ⟨i,hi,h1⟩)
  ·rw [adQ (by omega)]at hx;simp only [hi,hj,if_true,if_false];intro h1 h2;exact hS.apart 0 (i - l.length+1) (HP.star l) x (by omega) rfl (by simpa using hx) (.inl rfl) k ((hTS k).2 ⟨j,hj,h2⟩) h1
  ·rw [adQ (by omega)]at hx hy;simp only [hi,hj,if_false];exact hS.apart (i - l.length+1) (j - l.length+1) x y (by omega) (by simpa using hx) (by simpa using hy) hw k
theorem aD.star{l:List HP}(hw: ∀h∈l,h.wr=true):aD l [HP.star l]:=by
 intro w Fs ⟨S,hS⟩;refine⟨fun i=>if i=0 then fun k=> ∃j,j<l.length∧S j k else S (i - 1+l.length),⟨?_,?_⟩⟩
 ·intro i x hx;by_cases hi:i=0
  ·subst hi;simp at hx;subst hx;simp only [if_true];refine⟨⟨S,⟨fun i x hx=>?_,fun i j x y fc hx hy=>?_⟩,fun k=>Iff.rfl⟩,?_⟩
   ·exact hS.at_ i x (by rw [adO (adJ.1 hx).1];exact hx)
   ·exact hS.apart i j x y fc (by rw [adO (adJ.1 hx).1];exact hx) (by rw [adO (adJ.1 hy).1];exact hy)
   ·rintro k ⟨j,hj,hk⟩;exact(hS.at_ j (l[j]'hj) (by rw [adO hj];exact ad9 hj)).2 k hk
  ·have e:i=(i - 1)+1:=by omega
   rw [e]at hx;simp only [hi,if_false];exact hS.at_ (i - 1+l.length) x (by rw [adQ (by omega),show i - 1+l.length - l.length=i - 1 by omega];simpa using hx)
 ·have key: ∀(i:Nat) (x:HP),i≠0→([HP.star l]++Fs)[i]? =some x→(l++Fs)[i - 1+l.length]? =some x:=by
   intro i x hi hx;have e:i=(i - 1)+1:=by omega
   rw [e]at hx;rw [adQ (by omega),show i - 1+l.length - l.length=i - 1 by omega];simpa using hx
  have Rv: ∀(j:Nat) (y:HP) (k:Nat),j≠0→([HP.star l]++Fs)[j]? =some y→(∃m,m<l.length∧S m k)→¬S (j - 1+l.length) k:=by
   rintro j y k hj hy ⟨m,hm,hk⟩;exact hS.apart m (j - 1+l.length) (l[m]'hm) y (by omega) (by rw [adO hm];exact ad9 hm) (key j y hj hy) (.inl (hw _ (List.getElem_mem hm))) k hk
  intro i j x y fc hx hy wW k;by_cases hi:i=0<;>by_cases hj:j=0
  ·omega
  ·simp only [hi,hj,if_true,if_false];exact Rv j y k hj hy
  ·simp only [hi,hj,if_true,if_false];exact fun h1 h2=>Rv i x k hi hx h2 h1
  ·simp only [hi,hj,if_false];exact hS.apart _ _ x y (by omega) (key i x hi hx) (key j y hj hy) wW k
theorem aD.YT{a b:List HP}(idx:List Nat)(fY:idx.Nodup)(h: ∀(j:Nat) x,b[j]? =some x→∃i,idx[j]? =some i∧a[i]? =some x):aD a b:=by
 intro w Fs o;refine o.rI (fun j=>if j<b.length then idx[j]? else some (a.length+(j - b.length))) ?_ ?_
 ·intro j x hx;right;by_cases hj:j<b.length
  ·rw [adO hj]at hx;obtain⟨i,h1,h2⟩:=h j x hx;refine⟨i,by simp only [hj,if_true,h1],?_⟩;rw [adO (adJ.1 h2).1];exact h2
  ·rw [adQ (by omega)]at hx;refine⟨_,by simp only [hj,if_false];rfl,?_⟩;rw [adQ (by omega),Nat.add_sub_cancel_left];exact hx
 ·intro j j' i hj ky _ _;by_cases h1:j<b.length
  ·have hx:b[j]? =some b[j]:=ad9 h1;obtain⟨i1,q1,q2⟩:=h j _ hx;have FN:=(adJ.1 q2).1;simp only [h1,if_true,q1,adK]at hj;subst hj;by_cases h2:j'<b.length
   ·simp only [h2,if_true]at ky;obtain⟨l1,e1⟩:=adJ.1 q1;obtain⟨l2,e2⟩:=adJ.1 ky;exact(List.getElem_inj fY).1 (e1.trans e2.symm)
   ·simp only [h2,if_false,adK]at ky;omega
  ·simp only [h1,if_false,adK]at hj;by_cases h2:j'<b.length
   ·have hx:b[j']? =some b[j']:=ad9 h2;obtain⟨i1,q1,q2⟩:=h j' _ hx;have FN:=(adJ.1 q2).1;simp only [h2,if_true,q1,adK]at ky;omega
   ·simp only [h2,if_false,adK]at ky;omega
def HP.ex{α:Type}(F:α→HP):HP where
 wr:=true
 p w S:= ∃a,(F a).p w S
 hJ w w' S h hk:=by
  obtain⟨a,ha⟩:=h;exact⟨a,(F a).hJ w w' S ha hk⟩
theorem aD.ex{α:Type}{F:α→HP}(a:α)(hw:(F a).wr=true):aD [F a] [HP.ex F]:=by
 have:=aD.put (a:=[F a]) 0 (F a) (HP.ex F) rfl (fun _=>hw) fun w S h=>⟨S,fun _ h=>h,⟨a,h⟩⟩
 simpa using this
theorem aq.ex{α:Type}{F:α→HP}{P:Program}{f:Nat}{args:List Value}{R:List HP}{post:Value→List HP→Prop}(h: ∀a,aq P f args (F a::R) post):aq P f args (HP.ex F::R) post:=by
 intro w Fs ⟨S,hS⟩;obtain⟨⟨a,ha⟩,hb⟩:=hS.at_ 0 (HP.ex F) rfl;refine h a w Fs ⟨S,⟨fun i x hx=>?_,fun i j x y fc hx hy hw=>?_⟩⟩
 ·match i,hx with
  | 0,hx=>simp at hx;subst hx;exact⟨ha,hb⟩
  | i+1,hx=>exact hS.at_ (i+1) x (by simpa using hx)
 ·match i,j,fc,hx,hy with
  | 0,0,fc,_,_=>exact absurd rfl fc
  | 0,j+1,_,_,hy=>exact hS.apart 0 (j+1) (HP.ex F) y (by omega) rfl (by simpa using hy) (.inl rfl)
  | i+1,0,_,hx,_=>exact hS.apart (i+1) 0 x (HP.ex F) (by omega) (by simpa using hx) rfl (.inr rfl)
  | i+1,j+1,fc,hx,hy=>exact hS.apart (i+1) (j+1) x y fc (by simpa using hx) (by simpa using hy) hw
end Go.RX

namespace Go.RX.Ds
open Go.RX Go.Proofs
noncomputable def cx:Ctx:={T:=TT,FT:=FT,qj:=qj,de:=de,loops:=loops,qh:=qh}
open Go.RX Go.Proofs
set_option maxRecDepth 100000
def MX(P:Program)(ao:Value→List HP→Prop)(x0:Int)(A0 A1 A2 A3:Nat→Int)(_:V1):Prop:=
 Cl P 46 [] [] fun x hs _=>x= .bool true∧hs=[]∧
 aM (0≤x0) (
 aU (300<x0) (
 ao (.bool true) []) (
 Cl P 59 [] [] fun x hs _=> ∃(b0 b1 b2 b3 b4 b5 b6 b7 b8:Nat) (v1 v2:V1) (x1 x2:Int),∃p0:HP,∃p1:HP,∃p2:HP,∃p3:HP,∃p4:HP,∃p5:HP,x= .pp b0∧hs=[Fw b0 x1 b1 b2 b3 b4 v1.v x2 b5 b6 v2.v b7 b8 false,p0,p1,p2,p3,p4,p5]∧
 ∃(GP:Ext→Prop) (MY:Ext→Nat),(∃(v3 v4:V1) (x3 x4 x5:Int),∃p6:HP,∃p7:HP,∃p8:HP,∃p9:HP,∃l6:HP,∃pf:HP,x5=0∧x3=x1∧v3=v1∧x4=x2∧v4=v2∧p6=p0∧p7=p1∧p8=p2∧p9=p3∧l6=p4∧pf=p5∧GP ⟨[],[v3,v4],[x3,x4,x5],[],[],[p6,p7,p8,p9,l6,pf],[]⟩)∧
 ∀(v3 v4:V1) (x3 x4 x5:Int),∀p6:HP,∀p7:HP,∀p8:HP,∀p9:HP,∀l6:HP,∀pf:HP,GP ⟨[],[v3,v4],[x3,x4,x5],[],[],[p6,p7,p8,p9,l6,pf],[]⟩→
 aU (x5<x0) (
 aM (0≤x5) (
 ∀_:Nat,Cl P 60 [.pp b0,.agg #[.int .u8 (A0 (ag x5)),.int .u8 (A1 (ag x5)),.int .u16 (A2 (ag x5)),.int .u8 (A3 (ag x5))]] [Fw b0 x3 b1 b2 b3 b4 v3.v x4 b5 b6 v4.v b7 b8 false,p6,p7,p8,p9,l6,pf] fun x hs _=> ∃(v5 v6:V1) (x6 x7:Int),∃sU:HP,∃ux:HP,∃oa:HP,∃pg:HP,∃vC:HP,∃vD:HP,x= .tuple #[]∧hs=[Fw b0 x6 b1 b2 b3 b4 v5.v x7 b5 b6 v6.v b7 b8 false,sU,ux,oa,pg,vC,vD]∧
 ur (x5+1) ((
 ∃(RU xM:V1) (MZ uX Gc:Int),∃R9:HP,∃R_:HP,∃Sa:HP,∃Sb:HP,∃Gd:HP,∃xN:HP,Gc=(x5+1)∧MZ=x6∧RU=v5∧uX=x7∧xM=v6∧R9=sU∧R_=ux∧Sa=oa∧Sb=pg∧Gd=vC∧xN=vD∧GP ⟨[],[RU,xM],[MZ,uX,Gc],[],[],[R9,R_,Sa,Sb,Gd,xN],[]⟩∧MY ⟨[],[RU,xM],[MZ,uX,Gc],[],[],[R9,R_,Sa,Sb,Gd,xN],[]⟩<MY ⟨[],[v3,v4],[x3,x4,x5],[],[],[p6,p7,p8,p9,l6,pf],[]⟩)))) (
 Cl P 61 [.pp b0] [Fw b0 x3 b1 b2 b3 b4 v3.v x4 b5 b6 v4.v b7 b8 false,p6,p7,p8,p9,l6,pf] fun x hs _=> ∃(v5 v6:V1) (x6 x7:Int),∃sU:HP,∃ux:HP,∃oa:HP,∃pg:HP,∃vC:HP,∃vD:HP,x= .bool true∧hs=[Fw b0 x6 b1 b2 b3 b4 v5.v x7 b5 b6 v6.v b7 b8 false,sU,ux,oa,pg,vC,vD]∧
 ∃oP:Ext→Prop,(
 Cl P 57 [.pp b1] [oa] fun x hs l=> ∃(x8 x9:Int) (A4:Nat→Int) (q0:Bool),x= .tuple #[.sg 16 A4,.dv x8 x9,.bool q0]∧hs=l∧
 ∀_ fh:Nat,Cl P 52 [.pp b1] [oa] fun x hs l=> ∃aG:Int,x= .int .u8 aG∧hs=l∧
 aU (aG=0) (
 oP ⟨[],[],[],[],[],[],[]⟩) (
 aU (aG=4) (
 aU (x9=0) (
 ∃lS:Ext→Prop,(∀(w:World) (Fs:List HP),bd ([Dw fh x8 x9]++Fs) w→bd ([Dw fh 1 0]++Fs) w∧lS ⟨[],[],[],[],[],[],[]⟩)∧
 (lS ⟨[],[],[],[],[],[],[]⟩→
 Cl P 57 [.pp b3] [vC] fun x hs l=> ∃(aO aI:Int) (A5:Nat→Int) (q1:Bool),x= .tuple #[.sg 16 A5,.dv aO aI,.bool q1]∧hs=l∧
 ∀_ _:Nat,Cl P 52 [.pp b3] [vC] fun x hs l=> ∃aT:Int,x= .int .u8 aT∧hs=l∧
 aU (¬((¬(aT=4))∨(¬(∀j,j<16→A5 j=A4 j)))) (
 ∀_ _:Nat,aU ((aO=0)∧(aI=0)) (
 Cl P 58 [.pp b3] [vC] fun x hs l=> ∃A6:(Nat→Int),x= .sg 32 A6∧hs=l∧
 Cl P 58 [(if((aO==0)&&(aI==0))then .pp b1 else undef)] [oa] fun x hs l=> ∃A7:(Nat→Int),x= .sg 32 A7∧hs=l∧
 aU (¬(∀j,j<32→A6 j=A7 j)) (
 ao (.bool false) []) (
 oP ⟨[],[],[],[],[],[],[]⟩)) (
 ao (.bool false) [])) (
 ao (.bool false) []))) (
 ∃lS:Ext→Prop,(∀(w:World) (Fs:List HP),bd ([Dw fh x8 x9]++Fs) w→bd ([Dw fh 1 1]++Fs) w∧lS ⟨[],[],[],[],[],[],[]⟩)∧
 (lS ⟨[],[],[],[],[],[],[]⟩→
 Cl P 57 [.pp b4] [vD] fun x hs l=> ∃(aO aI:Int) (A5:Nat→Int) (q1:Bool),x= .tuple #[.sg 16 A5,.dv aO aI,.bool q1]∧hs=l∧
 ∀_ _:Nat,Cl P 52 [.pp b4] [vD] fun x hs l=> ∃aT:Int,x= .int .u8 aT∧hs=l∧
 aU (¬((¬(aT=4))∨(¬(∀j,j<16→A5 j=A4 j)))) (
 ∀_ _:Nat,aU ((aO=0)∧(aI=0)) (
 Cl P 58 [.pp b4] [vD] fun x hs l=> ∃A6:(Nat→Int),x= .sg 32 A6∧hs=l∧
 Cl P 58 [(if((aO==0)&&(aI==0))then .pp b1 else undef)] [oa] fun x hs l=> ∃A7:(Nat→Int),x= .sg 32 A7∧hs=l∧
 aU (¬(∀j,j<32→A6 j=A7 j)) (
 ao (.bool false) []) (
 oP ⟨[],[],[],[],[],[],[]⟩)) (
 ao (.bool false) [])) (
 ao (.bool false) [])))) (
 ao (.bool false) [])))∧
 (oP ⟨[],[],[],[],[],[],[]⟩→
 ∃oP:Ext→Prop,(
 Cl P 57 [.pp b2] [pg] fun x hs l=> ∃(x8 x9:Int) (A4:Nat→Int) (q0:Bool),x= .tuple #[.sg 16 A4,.dv x8 x9,.bool q0]∧hs=l∧
 ∀_ fh:Nat,Cl P 52 [.pp b2] [pg] fun x hs l=> ∃aG:Int,x= .int .u8 aG∧hs=l∧
 aU (aG=0) (
 oP ⟨[],[],[],[],[],[],[]⟩) (
 aU (aG=4) (
 aU (x9=0) (
 ∃lS:Ext→Prop,(∀(w:World) (Fs:List HP),bd ([Dw fh x8 x9]++Fs) w→bd ([Dw fh 1 0]++Fs) w∧lS ⟨[],[],[],[],[],[],[]⟩)∧
 (lS ⟨[],[],[],[],[],[],[]⟩→
 Cl P 57 [.pp b3] [vC] fun x hs l=> ∃(aO aI:Int) (A5:Nat→Int) (q1:Bool),x= .tuple #[.sg 16 A5,.dv aO aI,.bool q1]∧hs=l∧
 ∀_ _:Nat,Cl P 52 [.pp b3] [vC] fun x hs l=> ∃aT:Int,x= .int .u8 aT∧hs=l∧
 aU (¬((¬(aT=4))∨(¬(∀j,j<16→A5 j=A4 j)))) (
 ∀_ _:Nat,aU ((aO=0)∧(aI=1)) (
 Cl P 58 [.pp b3] [vC] fun x hs l=> ∃A6:(Nat→Int),x= .sg 32 A6∧hs=l∧
 Cl P 58 [(if((aO==0)&&(aI==1))then .pp b2 else undef)] [pg] fun x hs l=> ∃A7:(Nat→Int),x= .sg 32 A7∧hs=l∧
 aU (¬(∀j,j<32→A6 j=A7 j)) (
 ao (.bool false) []) (
 oP ⟨[],[],[],[],[],[],[]⟩)) (
 ao (.bool false) [])) (
 ao (.bool false) []))) (
 ∃lS:Ext→Prop,(∀(w:World) (Fs:List HP),bd ([Dw fh x8 x9]++Fs) w→bd ([Dw fh 1 1]++Fs) w∧lS ⟨[],[],[],[],[],[],[]⟩)∧
 (lS ⟨[],[],[],[],[],[],[]⟩→
 Cl P 57 [.pp b4] [vD] fun x hs l=> ∃(aO aI:Int) (A5:Nat→Int) (q1:Bool),x= .tuple #[.sg 16 A5,.dv aO aI,.bool q1]∧hs=l∧
 ∀_ _:Nat,Cl P 52 [.pp b4] [vD] fun x hs l=> ∃aT:Int,x= .int .u8 aT∧hs=l∧
 aU (¬((¬(aT=4))∨(¬(∀j,j<16→A5 j=A4 j)))) (
 ∀_ _:Nat,aU ((aO=0)∧(aI=1)) (
 Cl P 58 [.pp b4] [vD] fun x hs l=> ∃A6:(Nat→Int),x= .sg 32 A6∧hs=l∧
 Cl P 58 [(if((aO==0)&&(aI==1))then .pp b2 else undef)] [pg] fun x hs l=> ∃A7:(Nat→Int),x= .sg 32 A7∧hs=l∧
 aU (¬(∀j,j<32→A6 j=A7 j)) (
 ao (.bool false) []) (
 oP ⟨[],[],[],[],[],[],[]⟩)) (
 ao (.bool false) [])) (
 ao (.bool false) [])))) (
 ao (.bool false) [])))∧
 (oP ⟨[],[],[],[],[],[],[]⟩→
 ∃oP:Ext→Prop,(
 Cl P 57 [.pp b3] [vC] fun x hs l=> ∃(x8 x9:Int) (A4:Nat→Int) (q0:Bool),x= .tuple #[.sg 16 A4,.dv x8 x9,.bool q0]∧hs=l∧
 ∀_ fh:Nat,Cl P 52 [.pp b3] [vC] fun x hs l=> ∃aG:Int,x= .int .u8 aG∧hs=l∧
 aU (aG=0) (
 oP ⟨[],[],[],[],[],[],[]⟩) (
 aU (aG=4) (
 aU (x9=0) (
 ∃lS:Ext→Prop,(∀(w:World) (Fs:List HP),bd ([Dw fh x8 x9]++Fs) w→bd ([Dw fh 0 0]++Fs) w∧lS ⟨[],[],[],[],[],[],[]⟩)∧
 (lS ⟨[],[],[],[],[],[],[]⟩→
 Cl P 57 [.pp b1] [oa] fun x hs l=> ∃(aO aI:Int) (A5:Nat→Int) (q1:Bool),x= .tuple #[.sg 16 A5,.dv aO aI,.bool q1]∧hs=l∧
 ∀_ _:Nat,Cl P 52 [.pp b1] [oa] fun x hs l=> ∃aT:Int,x= .int .u8 aT∧hs=l∧
 aU (¬((¬(aT=4))∨(¬(∀j,j<16→A5 j=A4 j)))) (
 ∀_ _:Nat,aU ((aO=1)∧(aI=0)) (
 Cl P 58 [.pp b1] [oa] fun x hs l=> ∃A6:(Nat→Int),x= .sg 32 A6∧hs=l∧
 Cl P 58 [(if((aO==1)&&(aI==0))then .pp b3 else undef)] [vC] fun x hs l=> ∃A7:(Nat→Int),x= .sg 32 A7∧hs=l∧
 aU (¬(∀j,j<32→A6 j=A7 j)) (
 ao (.bool false) []) (
 oP ⟨[],[],[],[],[],[],[]⟩)) (
 ao (.bool false) [])) (
 ao (.bool false) []))) (
 ∃lS:Ext→Prop,(∀(w:World) (Fs:List HP),bd ([Dw fh x8 x9]++Fs) w→bd ([Dw fh 0 1]++Fs) w∧lS ⟨[],[],[],[],[],[],[]⟩)∧
 (lS ⟨[],[],[],[],[],[],[]⟩→
 Cl P 57 [.pp b2] [pg] fun x hs l=> ∃(aO aI:Int) (A5:Nat→Int) (q1:Bool),x= .tuple #[.sg 16 A5,.dv aO aI,.bool q1]∧hs=l∧
 ∀_ _:Nat,Cl P 52 [.pp b2] [pg] fun x hs l=> ∃aT:Int,x= .int .u8 aT∧hs=l∧
 aU (¬((¬(aT=4))∨(¬(∀j,j<16→A5 j=A4 j)))) (
 ∀_ _:Nat,aU ((aO=1)∧(aI=0)) (
 Cl P 58 [.pp b2] [pg] fun x hs l=> ∃A6:(Nat→Int),x= .sg 32 A6∧hs=l∧
 Cl P 58 [(if((aO==1)&&(aI==0))then .pp b3 else undef)] [vC] fun x hs l=> ∃A7:(Nat→Int),x= .sg 32 A7∧hs=l∧
 aU (¬(∀j,j<32→A6 j=A7 j)) (
 ao (.bool false) []) (
 oP ⟨[],[],[],[],[],[],[]⟩)) (
 ao (.bool false) [])) (
 ao (.bool false) [])))) (
 ao (.bool false) [])))∧
 (oP ⟨[],[],[],[],[],[],[]⟩→
 ∃oP:Ext→Prop,(
 Cl P 57 [.pp b4] [vD] fun x hs l=> ∃(x8 x9:Int) (A4:Nat→Int) (q0:Bool),x= .tuple #[.sg 16 A4,.dv x8 x9,.bool q0]∧hs=l∧
 ∀_ fh:Nat,Cl P 52 [.pp b4] [vD] fun x hs l=> ∃aG:Int,x= .int .u8 aG∧hs=l∧
 aU (aG=0) (
 oP ⟨[],[],[],[],[],[],[]⟩) (
 aU (aG=4) (
 aU (x9=0) (
 ∃lS:Ext→Prop,(∀(w:World) (Fs:List HP),bd ([Dw fh x8 x9]++Fs) w→bd ([Dw fh 0 0]++Fs) w∧lS ⟨[],[],[],[],[],[],[]⟩)∧
 (lS ⟨[],[],[],[],[],[],[]⟩→
 Cl P 57 [.pp b1] [oa] fun x hs l=> ∃(aO aI:Int) (A5:Nat→Int) (q1:Bool),x= .tuple #[.sg 16 A5,.dv aO aI,.bool q1]∧hs=l∧
 ∀_ _:Nat,Cl P 52 [.pp b1] [oa] fun x hs l=> ∃aT:Int,x= .int .u8 aT∧hs=l∧
 aU (¬((¬(aT=4))∨(¬(∀j,j<16→A5 j=A4 j)))) (
 ∀_ _:Nat,aU ((aO=1)∧(aI=1)) (
 Cl P 58 [.pp b1] [oa] fun x hs l=> ∃A6:(Nat→Int),x= .sg 32 A6∧hs=l∧
 Cl P 58 [(if((aO==1)&&(aI==1))then .pp b4 else undef)] [vD] fun x hs l=> ∃A7:(Nat→Int),x= .sg 32 A7∧hs=l∧
 aU (¬(∀j,j<32→A6 j=A7 j)) (
 ao (.bool false) []) (
 oP ⟨[],[],[],[],[],[],[]⟩)) (
 ao (.bool false) [])) (
 ao (.bool false) []))) (
 ∃lS:Ext→Prop,(∀(w:World) (Fs:List HP),bd ([Dw fh x8 x9]++Fs) w→bd ([Dw fh 0 1]++Fs) w∧lS ⟨[],[],[],[],[],[],[]⟩)∧
 (lS ⟨[],[],[],[],[],[],[]⟩→
 Cl P 57 [.pp b2] [pg] fun x hs l=> ∃(aO aI:Int) (A5:Nat→Int) (q1:Bool),x= .tuple #[.sg 16 A5,.dv aO aI,.bool q1]∧hs=l∧
 ∀_ _:Nat,Cl P 52 [.pp b2] [pg] fun x hs l=> ∃aT:Int,x= .int .u8 aT∧hs=l∧
 aU (¬((¬(aT=4))∨(¬(∀j,j<16→A5 j=A4 j)))) (
 ∀_ _:Nat,aU ((aO=1)∧(aI=1)) (
 Cl P 58 [.pp b2] [pg] fun x hs l=> ∃A6:(Nat→Int),x= .sg 32 A6∧hs=l∧
 Cl P 58 [(if((aO==1)&&(aI==1))then .pp b4 else undef)] [vD] fun x hs l=> ∃A7:(Nat→Int),x= .sg 32 A7∧hs=l∧
 aU (¬(∀j,j<32→A6 j=A7 j)) (
 ao (.bool false) []) (
 oP ⟨[],[],[],[],[],[],[]⟩)) (
 ao (.bool false) [])) (
 ao (.bool false) [])))) (
 ao (.bool false) [])))∧
 (oP ⟨[],[],[],[],[],[],[]⟩→
 ao (.bool true) [])))))))
theorem SP(ao:Value→List HP→Prop)(x0:Int)(A0 A1 A2 A3:Nat→Int)(v0:V1)(h:MX adY ao x0 A0 A1 A2 A3 v0):aq adY 11 [v0.v] [aB false 123 4 v0.v (ag x0) (aH (ag x0) [au .u8 1 A0,au .u8 1 A1,au .u16 1 A2,au .u8 1 A3])] ao:=
 mtB (C:=cx) [.vv 0] [.cc false 0 123 4 (.var 0) [⟨.int .u8,1,.aw 0⟩,⟨.int .u8,1,.aw 1⟩,⟨.int .u16,1,.aw 2⟩,⟨.int .u8,1,.aw 3⟩]] ⟨0,1,1,4,0,0,0⟩ ⟨[x0],[A0,A1,A2,A3],[],[],[v0],[],[],[]⟩ Try.func11 (by kernel_rfl) h
end Go.RX.Ds

namespace Go.RX.Dq
open Go.RX Go.RX.Fr
def YU:bh:={use:=fun _ _=>[],inc:={b:=1,p:=1},val:=fun c=> .ptr c.b 0,new:=fun c _=>[.abs c.p]}
def de(f:Nat):Option bh:=
 match f with
 | 47=>some YU
 | _=>none
def grow:List (Nat×List SV)→Nat→List (Nat×List SV)
 | es,b=>es++[(kd es.length,[.mp b])]
def SQ(b:Nat):Ck→Ck
 | .ni b7 kl ka va [.hU] es=> .ni b7 kl ka va [.hU] (grow es b)
 | k=>k
def dev:Ck→Bool
 | .row _ _ [.int _ _,.int _ _]=>true
 | _=>false
def isMap:Ck→Bool
 | .map .. =>true
 | _=>false
def tidy(st:St):Option eg:=
 let l:=(aec st.hp.length).filter fun j=> !(dev (st.hp.getD j .emp))
 match (l.filter fun j=>isMap (st.hp.getD j .emp)).getLast? with
 | some j=>some {pick:=some ((l.filter fun k=>k != j)++[j])}
 | none=>none
def qj(f id:Nat):Option xg:=
 match f,id with
 | 59,100006=>some {inc:={b:=1},aV:=fun _=>[],hp:=fun c h=>(h.filter fun k=> !(dev k)).map (SQ c.b)++[.map c.b qg true false [.int .u8 (.lit 0)] (.lit 0) [⟨.int .u8,1,.lit 0⟩]],gh:=tidy}
 | _,_=>none
open Go.RX Go.Proofs
noncomputable def cx:Ctx:={T:=TT,FT:=FT,qj:=qj,de:=de}
end Go.RX.Dq
