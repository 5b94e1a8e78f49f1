/- What the executor is told of the call machine's functions. -/
import Derived.Test.YtphemenngjkfbaaM23
open Array renaming getElem?_eq_some_iff → agH
open List renaming append_assoc → ahf, getElem?_append_left → agC, getElem?_append_right → agD, getElem?_eq_getElem → ag6, getElem?_eq_some_iff → agx, range → ag5
open Option.some renaming injEq → agy
namespace Go.RX.Ma
open Go.RX
def u8(i:Nat):SV:= .int .u8 (.var i)
def u64(i:Nat):SV:= .int .u64 (.var i)
def T8(k:Nat)(_:List SV)(hp:List Ck):List Nat:=
 match hp.findIdx? (fun | .abs i=>i==k | _=>false)with
 | some i=>[i]
 | none=>[]
def has(k:Nat):bp:={use:=T8 k,inc:={bo:=1},val:=fun c=> .bool (.var c.bo),new:=fun _ h=>h}
def note(k:Nat):bp:={use:=T8 k,val:=fun _=> .lp [],new:=fun _ h=>h}
def nW:bp:={use:=fun _ _=>[],inc:={a:=1},val:=fun c=> .agg [.a_ .u8 32 (.aw c.a)],new:=fun _ _=>[]}
def Gv:List SV→List Ck→List Nat
 | [],_=>[]
 | .sl b _ _ _ _::r,hp=>match findAt hp b with
  | some (i,_)=>i::Gv r hp
  | none=>Gv r hp
 | _::r,hp=>Gv r hp
def EG(l:List SV)(hp:List Ck):List Nat:=
 match l with
 | [.sl b _ _ _ _]=>match findAt hp b with
  | some (j,.row _ _ cs)=>j::Gv cs hp
  | _=>[]
 | _=>[]
def sum:bp:={use:=EG,inc:={a:=1},val:=fun c=> .agg [.a_ .u8 32 (.aw c.a)],new:=fun _ h=>h}
def cmp:bp:={use:=Gv,inc:={i:=1},val:=fun c=> .int .i64 (.var c.i),new:=fun _ h=>h}
def calls(f s:Nat):Option bp:=
 match f,s with
 | 50,45=>some (has 0)
 | 87,39=>some (has 0)
 | 88,93=>some (has 1)
 | 51,93=>some (note 0)
 | 91,36=>some (note 0)
 | 93,54=>some (note 0)
 | 89,42=>some (note 1)
 | 88,60=>some nW
 | 97,30=>some nW
 | 119,40=>some sum
 | 87,81=>some cmp
 | _,_=>none
def Sq(st lO early:SV):Ck:= .row 0 true [u8 0,u8 1,.a_ .u8 8 (.aw 0),.ptr 1 0,st,.a_ .u8 16 (.aw 1),.bool (.nz (.var 3)),u8 4,u8 5,u8 6,.a_ .u8 32 (.aw 2),.a_ .u8 32 (.aw 3),.a_ .u8 32 (.aw 4),
 lO,early,u64 9,u64 10,u64 11,u64 12,u64 13,.int .u32 (.var 14)]
def T9:List Ck:=[Sq (u8 2) (.dh (.var 7)) (.dh (.var 8)),.abs 0]
def FC:List Ck:=[Sq (.int .u8 (.lit 1)) (.ptr 2 0) (.ptr 3 0),.abs 0,.abs 1,.row 2 true [u8 15,.vv 0,.int .i64 (.var 16)],.cy true 0 5 1 (.lit 2) [⟨.int .u8,1,.aw 5⟩]]
def X9:SV:= .agg [u8 17,.a_ .u8 16 (.aw 6),u8 18,u8 19,u8 20,.a_ .u8 32 (.aw 7),.int .u32 (.var 21),.bY,u8 22]
def X_:SV:= .agg [u8 23,u8 24]
end Go.RX.Ma

namespace Go.RX.Ct
open Go.RX Go.RX.Fr
def Sr(i a:Nat):Ck:= .row 1 true [u8 i,u8 (i+1),.a_ .u8 8 (.aw a),.ptr 2 0,u8 (i+2),.a_ .u8 16 (.aw (a+1)),.bool (.nz (.var (i+3))),u8 (i+4),u8 (i+5),u8 (i+6),.a_ .u8 32 (.aw (a+2)),.a_ .u8 32 (.aw (a+3)),.a_ .u8 32 (.aw (a+4)),
 .dh (.var (i+7)),.dh (.var (i+8)),u64 (i+9),u64 (i+10),u64 (i+11),u64 (i+12),u64 (i+13),.int .u32 (.var (i+14))]
end Go.RX.Ct

namespace Go.RX.Cu
open Go.RX Go.RX.Fr
def AI(hp:List Ck):List Nat:=(ag5 hp.length).filter fun j=>match hp[j]? with
 | some (.abs k)=>decide (3≤k)
 | _=>false
def yW(k:Nat)(hp:List Ck):List Nat:=(ag5 hp.length).filter fun j=>match hp[j]? with
 | some (.abs i)=>i==k
 | _=>false
def Gx(hp:List Ck):List Nat:=match findAt hp 1 with
 | some (i,_)=>[i]
 | none=>[]
def T_(x:SV):List Ck→List Ck
 | [.row b w (a::d::dv::dead::_::rest)]=>[.row b w (a::d::dv::dead::x::rest)]
 | h=>h
def OE:bp:={use:=fun _ hp=>AI hp,inc:={p:=1},val:=fun _=> .lp [],new:=fun c _=>[.abs c.p]}
def Mv:bp:={use:=fun _ hp=>AI hp++Gx hp,inc:={p:=1},val:=fun _=> .lp [],new:=fun c h=> .abs c.p::h.drop 1}
def Su:bp:={use:=fun _ hp=>AI hp++Gx hp++yW 0 hp,inc:={p:=1},val:=fun _=> .lp [],new:=fun c h=> .abs c.p::T_ (.int .u8 (.lit 0)) ((h.drop 1).take 1)++h.drop 2}
def Mx:bp:={use:=fun _ _=>[],inc:={a:=1},val:=fun c=> .agg [.a_ .u8 32 (.aw c.a)],new:=fun _ _=>[]}
def EH(k:Nat):bp:={use:=fun _ hp=>yW k hp,inc:={bo:=1},val:=fun c=> .bool (.var c.bo),new:=fun _ h=>h}
def AJ(k:Nat):bp:={use:=fun _ hp=>yW k hp,val:=fun _=> .lp [],new:=fun _ h=>h}
def dc(f:Nat):Option bp:=
 match f with
 | 96=>some OE
 | 85=>some Mv
 | 93=>some Su
 | 44=>some Mx
 | 82=>some (EH 0)
 | 92=>some (AJ 0)
 | 118=>some (EH 2)
 | 120=>some (AJ 2)
 | _=>none
def calls(f s:Nat):Option bp:=
 match f,s with
 | 119,40=>some Ma.sum
 | 87,81=>some Ma.cmp
 | _,_=>none
def hp:List Ck:=[.abs 3,Ct.Sr 0 0,.abs 0]
def aS:cF:={b:=3,i:=40,a:=10,p:=4}
def m:SV:= .ptr 1 0
def s:SV:= .ptr 0 0
end Go.RX.Cu

namespace Go.RX.Cv
open Go.RX Go.RX.Fr
def abb(i a:Nat):Ck:=match Ct.Sr i a with
 | .row b w [x0,x1,x2,x3,_,x5,x6,x7,x8,x9,aO,aQ,aM,_,_,bV,cN,cY,cQ,cP,aX]=> .row b w [x0,x1,x2,x3,.int .u8 (.lit 1),x5,x6,x7,x8,x9,aO,aQ,aM,.ptr 3 0,.ptr 4 0,bV,cN,cY,cQ,cP,aX]
 | c=>c
def hp:List Ck:=[.abs 3,abb 0 0,.abs 0,.abs 2,.row 3 true [u8 30,.vv 0,.int .i64 (.var 31)],.cy true 0 5 1 (.lit 2) [⟨.int .u8,1,.aw 9⟩]]
def aS:cF:={b:=5,i:=40,a:=10,p:=4,v:=1}
end Go.RX.Cv

namespace Go.RX.Cw
open Go.RX Go.RX.Fr Go.RX.Cu
def OF(_:List SV)(hp:List Ck):List Nat:=AI hp++Gx hp++yW 0 hp
def setRow(c:cF)(f:List SV→List SV):List Ck→List Ck
 | [_,.row b w l,x]=>[.abs c.p,.row b w (f l),x]
 | h=>h
def AK:bp:={use:=OF,inc:={p:=1},val:=fun _=> .lp [],new:=fun c=>setRow c fun | [x0,x1,x2,x3,_,x5,x6,x7,x8,x9,aO,aQ,aM,aR,aY,bV,cN,cY,cQ,cP,aX]=>[x0,x1,x2,x3,.int .u8 (.lit 0),x5,x6,x7,x8,x9,aO,aQ,aM,aR,aY,bV,cN,cY,cQ,cP,aX] | l=>l}
def Gy:bp:={use:=OF,inc:={p:=1,i:=3},val:=fun _=> .lp [],new:=fun c=>setRow c fun | [x0,x1,x2,x3,_,x5,x6,x7,_,_,aO,aQ,aM,aR,aY,bV,cN,_,cQ,cP,aX]=>[x0,x1,x2,x3,.int .u8 (.lit 3),x5,x6,x7,u8 c.i,u8 (c.i+1),aO,aQ,aM,aR,aY,bV,cN,u64 (c.i+2),cQ,cP,aX] | l=>l}
def IS:bp:={use:=OF,inc:={p:=1,i:=1},val:=fun _=> .lp [],new:=fun c=>setRow c fun | [x0,x1,x2,x3,_,x5,x6,x7,x8,x9,aO,aQ,aM,aR,aY,bV,_,_,_,_,_]=>[x0,x1,x2,x3,.int .u8 (.lit 4),x5,x6,x7,x8,x9,aO,aQ,aM,aR,aY,bV,u64 c.i,u64 c.i,u64 c.i,u64 c.i,.int .u32 (.lit 0)] | l=>l}
def My:bp:={use:=OF,inc:={p:=1,i:=3,a:=2},val:=fun _=> .lp [],new:=fun c=>setRow c fun | [x0,x1,x2,x3,_,_,_,_,_,_,_,_,_,aR,aY,_,_,_,_,_,_]=>[x0,x1,x2,x3,.int .u8 (.lit 2),.a_ .u8 16 (.aw c.a),.bool (.lit false),u8 c.i,u8 c.i,u8 (c.i+1),.a_ .u8 32 (.lit 0),.a_ .u8 32 (.aw (c.a+1)),.a_ .u8 32 (.lit 0),aR,aY,u64 (c.i+2),.int .u64 (.lit 0),u64 (c.i+2),.int .u64 (.lit 0),.int .u64 (.lit 0),.int .u32 (.lit 0)] | l=>l}
def Gz:bp:={use:=OF,inc:={p:=1,i:=1,a:=2},val:=fun _=> .lp [],new:=fun c=>setRow c fun | [x0,x1,x2,x3,_,x5,x6,x7,x8,x9,_,aQ,_,aR,aY,bV,cN,_,cQ,cP,aX]=>[x0,x1,x2,x3,.int .u8 (.lit 3),x5,x6,x7,x8,x9,.a_ .u8 32 (.aw c.a),aQ,.a_ .u8 32 (.aw (c.a+1)),aR,aY,bV,cN,u64 c.i,cQ,cP,aX] | l=>l}
def GC(f:Nat):Option bp:=
 match f with
 | 95=>some AK
 | 97=>some Gz
 | 115=>some My
 | 117=>some Gy
 | 119=>some IS
 | f=>dc f
def now:SV:=u64 22
def T9(st:Int):List Ck:=match Ct.Sr 0 0 with
 | .row b w [x0,x1,x2,x3,_,x5,x6,x7,x8,x9,aO,aQ,aM,aR,aY,bV,cN,cY,cQ,cP,aX]=>[.abs 3,.row b w [x0,x1,x2,x3,.int .u8 (.lit st),x5,x6,x7,x8,x9,aO,aQ,aM,aR,aY,bV,cN,cY,cQ,cP,aX],.abs 0]
 | c=>[.abs 3,c,.abs 0]
end Go.RX.Cw

namespace Go.RX.Cx
open Go.RX Go.RX.Fr Go.RX.Cu Go.RX.Cw
def OG(hp:List Ck):List Nat:=(match findAt hp 3 with | some (i,_)=>[i] | none=>[])++(match ef hp 0 with | some (i,_)=>[i] | none=>[])
def Sv:bp:={use:=fun _ hp=>AI hp++Gx hp++yW 0 hp++yW 2 hp++OG hp,inc:={p:=1},val:=fun _=> .lp [],new:=fun c h=>AK.new c (h.take 3)}
def OH:bp:={use:=fun _ hp=>OG hp,inc:={i:=1,a:=1},val:=fun c=> .int .i64 (.var c.i),new:=fun c h=>match h with | [r,.cy md v t s n _]=>[r,.cy md v t s n [⟨.int .u8,1,.aw c.a⟩]] | h=>h}
def Mz:bp:={use:=fun _ hp=>OG hp,inc:={i:=2},val:=fun c=> .int .i64 (.var c.i),new:=fun c h=>match h with | [.row b w [a,v,_],s]=>[.row b w [a,v,.int .i64 (.var (c.i+1))],s] | h=>h}
def OI:bp:={use:=fun _ hp=>OG hp,inc:={i:=1,bo:=1},val:=fun c=> .lp [u8 c.i,.bool (.var c.bo)],new:=fun _ h=>h}
def MA:bp:={use:=fun _ hp=>AI hp++Gx hp++yW 0 hp++yW 2 hp++OG hp,inc:={p:=2},val:=fun _=> .lp [],new:=fun c _=>[.abs c.p,.abs (c.p+1)]}
def OJ(f:Nat):Option bp:=
 match f with
 | 95=>some Sv
 | 15=>some OH
 | 16=>some Mz
 | 18=>some OI
 | 90=>some MA
 | f=>GC f
end Go.RX.Cx

namespace Go.RX.Db
open Go.RX Go.RX.Fr Go.RX.Cu
def abd(b:Nat)(hp:List Ck):List Nat:=match findAt hp b with
 | some (i,_)=>[i]
 | none=>[]
def ZS(k:Nat)(az:List SV)(hp:List Ck):List Nat:=match az[k]? with
 | some (.ptr b 0)=>abd b hp++AI hp
 | _=>[]
def KA(c:cF):List Ck→List Ck
 | .row b w _::_=>[.row b w [.vv c.v,.vv (c.v+1),.vv (c.v+2)],.abs c.p]
 | h=>h
def Vx:Ck→Bool
 | .abs k=>decide (3≤k)
 | _=>false
def rest:List Ck→List Ck
 | _::c::r=>if Vx c then r else c::r
 | _=>[]
def whole:bp:={use:=fun az hp=>ZS 1 az hp++Gx hp++yW 0 hp++yW 1 hp,inc:={p:=2,v:=3},val:=fun _=> .lp [],new:=fun c h=>KA c h++[.abs (c.p+1)]}
def send:bp:={use:=fun az hp=>ZS 0 az hp,inc:={p:=1,v:=3},val:=fun _=> .lp [],new:=KA}
def event:bp:={use:=fun az hp=>ZS 1 az hp++Gx hp,inc:={p:=1,v:=3},val:=fun _=> .lp [],new:=fun c h=>KA c h++rest h}
def abe:bp:={use:=fun az hp=>ZS 1 az hp++Gx hp++yW 0 hp,inc:={p:=1,v:=3},val:=fun _=> .lp [],new:=fun c h=>KA c h++T_ (.int .u8 (.lit 0)) ((rest h).take 1)++(rest h).drop 1}
def EI:bp:={use:=fun _ _=>[],inc:={b:=1,v:=1,a:=1,i:=1},val:=fun c=> .lp [.ptr c.b 0,.int .i64 (.lit 0)],new:=fun c _=>[.row c.b true [u8 c.i,.vv c.v,.int .i64 (.lit (-1))],.cy true c.v 5 1 (.lit 2) [⟨.int .u8,1,.aw c.a⟩]]}
def dc(f:Nat):Option bp:=
 match f with
 | 87=>some whole
 | 88=>some whole
 | 89=>some whole
 | 90=>some whole
 | 91=>some whole
 | 95=>some whole
 | 97=>some whole
 | 93=>some abe
 | 96=>some send
 | 85=>some event
 | 82=>some (EH 0)
 | 92=>some (AJ 0)
 | 14=>some EI
 | _=>none
def hp:List Ck:=[Ct.Sr 0 0,.abs 0,.abs 1]
def aS:cF:={b:=3,i:=40,a:=10,p:=3}
def m:SV:= .ptr 1 0
def dev:SV:= .agg [u8 20,u8 21]
def sg:SV:=Cs.X9 23 5
def now:SV:=u64 22
def key:SV:= .agg [.a_ .u8 32 (.aw 6)]
def id:SV:= .agg [.a_ .u8 16 (.aw 5)]
end Go.RX.Db

namespace Go.RX.Df
open Go.RX Go.RX.Fr
def Ya:bp:={use:=fun _ hp=>Cu.yW 0 hp,inc:={i:=2,a:=1,bo:=1},val:=fun c=> .lp [.agg [.a_ .u8 16 (.aw c.a)],.agg [u8 c.i,u8 (c.i+1)],.bool (.var c.bo)],new:=fun _ h=>h}
def dc(f:Nat):Option bp:=
 match f with
 | 57=>some Ya
 | _=>none
def mC(i:Nat):List Ck:=[row,.cy true 0 216 59 (.var 3) (sm 0),.cy true 1 76 56 (.var 4) (w_ 12),
 .map 5 oP true true [.int .u8 (.lit 0),.int .u8 (.lit 0)] (.aw 49) [c1 50,c1 51],.map 6 oP true true [.a_ .u8 32 (.lit 0)] (.aw 52) [⟨.int .u8,32,.aw 53⟩],
 .ow 7 k2 true false [.iJ] [(kd 0,[.mp 9]),(kd 1,[.mp 10]),(kd 2,[.mp 11]),(kd 3,[.mp 12])],
 .map 8 k2 true false [.bY] (.aw 63) [⟨.pt (.lit (kd i)) 2,1,.aw 64⟩],
 .map (9+i) oP true false [.int .u8 (.lit 0)] (.aw 54) [c1 55],.cy true 2 85 22 (.var 5) (jX 56),.abs 0,
 .cy true 6 111 57 (.var 6) (zk 22),.cy true 7 76 56 (.var 7) (w_ 32),.cy true 8 85 22 (.var 8) (jX 42)]
def iq(i:Nat):List SV:=[.ptr 0 0,.int .i64 (.lit i),.agg [.vv 6,.vv 7,.vv 8]]
def jN:cF:={b:=13,v:=9,i:=9,a:=65,p:=1}
def hp5(c:cF)(h:List Ck):List Ck:=
 match h with
 | .row b w [n,m0,m1,m2,m3,f,d,t,p,e,r,q,_]::f'::e'::t'::p'::r7:: .map b8 l8 a8 v8 z8 _ [⟨.pt k _,w8,A8⟩]:: .map b9 l9 a9 v9 z9 _ _:: .cy md _ ty s _ _::r'=>
  .row b w [n,m0,m1,m2,m3,f,d,t,p,e,r,q,.bool (.var c.bo)]::f'::e'::t'::p'::r7:: .map b8 l8 a8 v8 z8 (.aw (c.a+9)) [⟨.pt k c.v,w8,A8⟩]:: .map b9 l9 a9 v9 z9 (.aw c.a) [c1 (c.a+1)]:: .cy md c.v ty s (.var (c.i+1)) (jX (c.a+2))::r'
 | h=>h
def loops(f id:Nat):Option jg:=
 match f,id with
 | 101,5=>some {inc:={v:=1,i:=2,a:=10,bo:=1},slots:=fun c=>[(163,.int .i64 (.var c.i))],hp:=hp5}
 | f,id=>Fr.loops f id
end Go.RX.Df

namespace Go.RX.Dk
open Go.RX Go.RX.Fr
def mcs:List Ck:=[.abs 0,.abs 1,.abs 2,.abs 3,.abs 4]
def hp:List Ck:=[row,.abs 5]++mcs
def hpS:List Ck:=[row,.cy true 0 216 59 (.var 3) (sm 0)]++mcs
def aS:cF:={b:=9,v:=2,i:=5,a:=12,p:=6}
def mAt:List SV→List Nat
 | .ptr (k+1) 0::_=>[3+k]
 | _=>[]
def move(val:SV→cF→SV):bp:={use:=fun az _=>mAt az,inc:={p:=2,v:=3,i:=1},val:=fun c=>val (.agg [.vv c.v,.vv (c.v+1),.vv (c.v+2)]) c,new:=fun c _=>[.abs c.p,.abs (c.p+1)]}
def one:bp:=move fun v _=>v
def KB:bp:=move fun v c=> .lp [v,.int .i64 (.var c.i)]
def qd(hp:List Ck):List Nat:=match ((ag5 hp.length).filter fun j=>decide (7≤j)&&(match hp[j]? with
 | some (Ck.abs _)=>true
 | _=>false)).getLast? with
 | some j=>[j]
 | none=>[]
def Sw(c:cF):List Ck→List Ck
 | .row b w [n,m0,m1,m2,m3,_,d,t,p,_,r,q,_]:: .abs _:: .abs _::l=>
  .row b w [n,m0,m1,m2,m3,.vv c.v,d,t,p,.vv (c.v+1),r,q,.bool (.var c.bo)]:: .abs c.p:: .abs (c.p+1)::l.take 1
 | h=>h
def notes:bp:={use:=fun az hp=>[0,1,2]++(match az with | [_,.int _ (.lit k),_]=>[3+k.toNat] | _=>[])++qd hp,inc:={v:=2,bo:=1,p:=2},val:=fun _=> .lp [],new:=Sw}
def EJ(c:cF):List Ck→List Ck
 | .row b w [_,m0,m1,m2,m3,_,d,t,p,_,r,q,_]::_=>
  .row b w [u64 c.i,m0,m1,m2,m3,.vv c.v,d,t,p,.vv (c.v+1),r,q,.bool (.lit false)]::(ag5 6).map fun j=> .abs (c.p+j)
 | h=>h
def all:bp:={use:=fun _ _=>ag5 7,inc:={v:=2,p:=6,i:=1},val:=fun _=> .lp [],new:=EJ}
def dc(f:Nat):Option bp:=
 match f with
 | 51=>some one
 | 53=>some one
 | 54=>some KB
 | 55=>some KB
 | 56=>some KB
 | 50=>some KB
 | 101=>some notes
 | 99=>some all
 | 100=>some all
 | _=>none
def Ua(di s:Nat)(_:St):Option ct:=some {slots:=[(s,.int .i64 (.lit di))]}
def hide(st:St):Option ct:=
 match st.hp with
 | _:: .cy _ _ _ _ _ _::_=>some {use:=[1],inc:={p:=1},new:=[.abs st.aS.p]}
 | _=>none
def bare(st:St):Option ct:=
 match st.hp with
 | .row _ _ [_,_,_,_,_,.vv v,_,_,_,_,_,_,_]:: .abs _::_=>some {use:=[1],inc:={i:=1,a:=12},new:=[.cy true v 216 59 (.var st.aS.i) (sm st.aS.a)]}
 | _=>none
def jq(di f r:Nat):Option (St→Option ct):=
 match f,r with
 | 99,1=>some hide
 | 99,2=>some (Ua di 5)
 | 60,1=>some (Ua di 4)
 | 60,6=>some hide
 | 60,12=>some hide
 | 60,15=>some hide
 | 60,17=>some hide
 | 60,26=>some hide
 | 61,8=>some bare
 | 61,16=>some bare
 | 61,9=>some bare
 | _,_=>none
def AL(c:cF):Ck→Ck
 | .row b w [_,m0,m1,m2,m3,_,d,t,p,_,r,q,_]=> .row b w [u64 c.i,m0,m1,m2,m3,.vv c.v,d,t,p,.vv (c.v+1),r,q,.bool (.lit false)]
 | k=>k
def IT(c:cF):List Ck→List Ck
 | r::_=>AL c r:: .cy true c.v 216 59 (.var (c.i+1)) (sm c.a)::(ag5 5).map fun j=> .abs (c.p+j)
 | h=>h
def loops(f id:Nat):Option jg:=
 match f,id with
 | 61,0=>some {inc:={v:=2,i:=3,a:=12,p:=5},slots:=fun c=>[(5,.int .i64 (.var (c.i+2)))],hp:=IT}
 | 61,2=>some {inc:={v:=2,i:=3,a:=12,p:=5},slots:=fun c=>[(3,.int .i64 (.var (c.i+2)))],hp:=IT}
 | 61,4=>some {inc:={v:=2,i:=3,a:=12,p:=5},slots:=fun c=>[(4,.int .i64 (.var (c.i+2)))],hp:=IT}
 | _,_=>none
def OL:List SV:=[.ptr 0 0,.agg [u8 4,u8 5,.int .u16 (.var 6),u8 7]]
def MB:List SV:=[.ptr 0 0,.int .i64 (.var 4)]
def GD:cF:={aS with i:=8}
def rp(_:Nat):List SV:=MB
def yl(_:Nat):List SV:=OL
def FC(_:Nat):List Ck:=hpS
end Go.RX.Dk

namespace Go.RX.Ds
open Go.RX Go.RX.Fr
def OM:Ck→Bool
 | .row _ _ [_,_,_,_,_,_,_,_,_,_,_,_,_]=>true
 | _=>false
def vC:Ck→Bool
 | .abs _=>true
 | _=>false
def AM(hp:List Ck):List Nat:=(ag5 hp.length).filter fun j=>OM (hp.getD j .emp)||vC (hp.getD j .emp)
def ON(c:cF):List Ck:= .row c.b true [u64 c.i,.ptr (c.b+1) 0,.ptr (c.b+2) 0,.ptr (c.b+3) 0,.ptr (c.b+4) 0,.vv c.v,.int .u16 (.var (c.i+1)),.mp (c.b+5),.mp (c.b+6),.vv (c.v+1),.mp (c.b+7),.mp (c.b+8),.bool (.lit false)]::(ag5 6).map fun j=> .abs (c.p+j)
def begin:bp:={use:=fun _ _=>[],inc:={b:=9,v:=2,i:=2,p:=6},val:=fun c=> .ptr c.b 0,new:=fun c _=>ON c}
def AL(c:cF):Ck→Ck
 | .row b w [_,m0,m1,m2,m3,_,_,t,p,_,r,q,_]=> .row b w [u64 c.i,m0,m1,m2,m3,.vv c.v,.int .u16 (.var (c.i+1)),t,p,.vv (c.v+1),r,q,.bool (.lit false)]
 | k=>k
def EJ(c:cF):List Ck→List Ck
 | r::_=>AL c r::(ag5 6).map fun j=> .abs (c.p+j)
 | h=>h
def all(val:SV):bp:={use:=fun _ hp=>AM hp,inc:={v:=2,i:=2,p:=6},val:=fun _=>val,new:=EJ}
def Yb:List SV→Option Nat
 | [.ptr b 0]=>some b
 | [.opt _ (.ptr b 0)]=>some b
 | _=>none
def abf(vs:List SV)(hp:List Ck):List Nat:=
 match Yb vs,AM hp with
 | some b,r::l=>match hp.getD r .emp with
  | .row _ _ cs=>match (ag5 4).find? fun j=>(match cs.getD (j+1) (.bool (.lit false))with
    | .ptr k 0=>k==b
    | _=>false)with
   | some j=>[l.getD (2+j) 0]
   | none=>[]
  | _=>[]
 | _,_=>[]
def asks(inc:cF)(val:cF→SV):bp:={use:=abf,inc:=inc,val:=val,new:=fun _ h=>h}
def dc(f:Nat):Option bp:=
 match f with
 | 46=>some {use:=fun _ _=>[],val:=fun _=> .bool (.lit true),new:=fun _ _=>[]}
 | 59=>some begin
 | 60=>some (all (.lp []))
 | 61=>some (all (.bool (.lit true)))
 | 57=>some (asks {a:=1,i:=2,bo:=1} fun c=> .lp [.agg [.a_ .u8 16 (.aw c.a)],.agg [u8 c.i,u8 (c.i+1)],.bool (.var c.bo)])
 | 52=>some (asks {i:=1} fun c=>u8 c.i)
 | 58=>some (asks {a:=1} fun c=> .agg [.a_ .u8 32 (.aw c.a)])
 | _=>none
def Ub(hp:List Ck):List Nat:=(ag5 hp.length).filter fun j=>match hp.getD j .emp with
 | .cy .. =>true
 | _=>false
def core(hp:List Ck):List Ck:=(Ub hp++AM hp).map fun j=>hp.getD j .emp
def renew(c:cF)(hp:List Ck):List Ck:=(Ub hp).map (fun j=>hp.getD j .emp)++EJ c ((AM hp).map fun j=>hp.getD j .emp)
def loops(f id:Nat):Option jg:=
 match f,id with
 | 11,0=>some {inc:={v:=2,i:=3,p:=6},slots:=fun c=>[(23,.int .i64 (.var (c.i+2)))],hp:=renew}
 | _,_=>none
def iI(f id:Nat):Option vD:=
 match f,id with
 | 11,3=>some {slots:=fun _=>[],hp:=fun _ h=>core h}
 | _,_=>none
def pin(st:St):Option ct:=
 match look st.fr 53,look st.fr 9,look st.fr 6 with
 | some (.int _ s),some (.ptr b 0),some (.int _ (.lit i))=>
  let act:=BE.eq s (.lit 4)
  if st.known.contains (iT act)then none
  else if st.known.contains act then
   match findAt st.hp b with
   | some (j,.row b w [.int k x,.int l y])=>
    let zero:=BE.eq y (.lit 0)
    let put (d:Int):ct:={use:=[j],new:=[.row b w [.int k (.lit (1 - i/2)),.int l (.lit d)]]}
    if st.known.contains zero then some (put 0)
    else if st.known.contains (iT zero)then some (put 1)
    else match x with
     | .lit _=>none
     | _=>some {split:=some zero}
   | _=>none
  else some {split:=some act}
 | _,_,_=>none
def jq(f r:Nat):Option (St→Option ct):=
 match f,r with
 | 11,22=>some pin
 | _,_=>none
def args:List SV:=[.vv 0]
def hp:List Ck:=[.cy false 0 123 4 (.var 0) [⟨.int .u8,1,.aw 0⟩,⟨.int .u8,1,.aw 1⟩,⟨.int .u16,1,.aw 2⟩,⟨.int .u8,1,.aw 3⟩]]
def aS:cF:={b:=0,v:=1,i:=1,a:=4}
end Go.RX.Ds

namespace Go.RX.Ea
open Go.RX Go.RX.Fr Go.RX.Ds
def qd(hp:List Ck):List Nat:=
 match ((ag5 hp.length).filter fun j=>vC (hp.getD j .emp)).reverse with
 | j::_=>[j]
 | []=>[]
def GF(hp:List Ck):List Nat:=
 match (ag5 hp.length).filter fun j=>vC (hp.getD j .emp)with
 | j::_=>[j]
 | []=>[]
def Sx(c:cF)(hp:List Ck):List Ck:=
 match qd hp with
 | [j]=>hp.set j (.abs c.p)
 | _=>hp
def Sz(c:cF):List Ck→List Ck
 | r::_=>[AL c r,.cy true (c.v+1) 76 56 (.var (c.i+2)) (w_ c.a),.abs c.p]
 | h=>h
def EK(c:cF):Nat→List Ck→List Ck
 | _,[]=>[]
 | n,.abs _::r=> .abs (c.p+n)::EK c (n+1) r
 | n,k::r=>(if OM k then AL c k else k)::EK c n r
def dc(f:Nat):Option bp:=
 match f with
 | 34=>some {use:=fun _ _=>[],val:=fun _=> .bool (.lit true),new:=fun _ _=>[]}
 | 61=>some {use:=fun _ hp=>AM hp,inc:={v:=2,i:=3,a:=10,p:=1},val:=fun _=> .bool (.lit true),new:=Sz}
 | 35=>some {use:=fun _ _=>[],inc:={b:=1,p:=1},val:=fun c=> .ptr c.b 0,new:=fun c _=>[.abs c.p]}
 | 36=>some {use:=fun _ hp=>qd hp,inc:={i:=1,p:=1},val:=fun c=> .int .i64 (.var c.i),new:=fun c _=>[.abs c.p]}
 | f=>if f=59∨f=60 then Ds.dc f else none
def setCell(i:Nat):List Ck→List Ck
 | []=>[]
 | .row b w [.int .i64 _]::r=> .row b w [.int .i64 (.var i)]::r
 | k::r=>k::setCell i r
def loops(f id:Nat):Option jg:=
 match f,id with
 | 12,0=>some {inc:={v:=2,i:=3,p:=6},slots:=fun c=>[(22,.int .i64 (.var (c.i+2)))],hp:=fun c h=>EK c 0 h}
 | 12,2=>some {inc:={i:=1,p:=1},slots:=fun c=>[(46,.int .i64 (.var c.i))],hp:=Sx}
 | 76,0=>some {inc:={i:=1},slots:=fun c=>[(27,.int .i64 (.var c.i))],hp:=fun c h=>(setCell c.i h.reverse).reverse}
 | _,_=>none
def OO(st:St):Option ct:=
 match qd st.hp,look st.fr 6 with
 | [j],some (.ptr b 0)=>
  let c:=st.aS
  some {use:=[j],inc:={b:=2,a:=5,i:=1,p:=1},new:=[.abs c.p,.row b true [.a_ .u8 8 (.aw c.a),.mp c.b,.mp (c.b+1),.int .u64 (.var c.i)],.map c.b oP true false [.dR] (.aw (c.a+1)) [⟨.ptr,1,.aw (c.a+2)⟩],.map (c.b+1) k2 true false [.dR] (.aw (c.a+3)) [⟨.ptr,1,.aw (c.a+4)⟩]]}
 | _,_=>none
def Uc:SV→Option Nat
 | .int _ (.lit n)=>some n.toNat
 | _=>none
def devOf(st:St):Option Nat:=
 match look st.fr 9,look st.fr 10 with
 | some a,some d=>match Uc a,Uc d with
  | some a,some d=>some (2*a+d)
  | _,_=>none
 | _,_=>none
def Yc(st:St):Option Nat:=
 st.hp.findSome? fun
  | .row _ _ [_,_,_,_,_,_,_,_,_,_,_,.mp b,_]=>some b
  | _=>none
def OP(st:St):Option ct:=
 match GF st.hp,devOf st,Yc st with
 | [j],some i,some b=>
  let c:=st.aS
  some {use:=[j],inc:={v:=1,a:=9,i:=1,p:=1},new:=[.abs c.p,.map b k2 true false [.bY] (.aw c.a) [⟨.pt (.lit (kd i)) c.v,1,.aw (c.a+1)⟩],.cy true c.v 85 22 (.var c.i) (jX (c.a+2))]}
 | _,_,_=>none
def AN:Ck→Bool
 | .map _ [.u8,.u8] _ _ [.dR] _ _=>true
 | _=>false
def Yd(st:St):Option ct:=
 match qd st.hp,st.hp.findIdx? AN,devOf st with
 | [j],some m,some i=>
  match st.hp[m]? with
  | some (.map b kl ka va z has [⟨ck,w,p⟩])=>
   let c:=st.aS
   let key:E:= .lit (kd i)
   some {use:=[j,m],inc:={b:=2,v:=1,a:=9,i:=8,p:=1},new:=[.abs c.p,.map b kl ka va z (.bP has key (.lit 1)) [⟨ck,w,.bP p key (.rT c.b)⟩],.row c.b true [u8 c.i,.a_ .u8 16 (.aw c.a),.bool (.nz (.var (c.i+1))),u8 (c.i+2),u8 (c.i+3),u8 (c.i+4),.int .u64 (.var (c.i+5)),.int .u64 (.var (c.i+6)),.mp (c.b+1),.vv c.v],.map (c.b+1) oP true true [] (.aw (c.a+1)) [],.cy true c.v 85 22 (.var (c.i+7)) (jX (c.a+2))]}
  | _=>none
 | _,_,_=>none
def Ye(v:Nat):Ck→Bool
 | .cy true v' 85 _ _ _=>v'==v
 | _=>false
def X_:Ck→Option Nat
 | .row _ _ [_,_,_,_,_,_,_,_,.mp _,.vv v]=>some v
 | _=>none
def shut(st:St):Option ct:=
 match GF st.hp,qd st.hp,st.hp.findIdx? AN,st.hp.findSome? X_ with
 | [j],[k],some m,some v=>
  match st.hp[m]?,st.hp.findIdx? (Ye v)with
  | some (.map b kl ka va z (.bP has _ _) [⟨ck,w,.bP p _ _⟩]),some s=>
   match st.hp.findSome? fun
    | .map _ _ _ _ [.bY] _ [⟨.pt _ v,_,_⟩]=>some v
    | _=>none with
   | some v2=>match st.hp.findIdx? (Ye v2)with
    | some s2=>some {use:=[j,k,m,s - 2,s - 1,s,s2 - 1,s2],inc:={p:=2},new:=[.abs st.aS.p,.abs (st.aS.p+1),.map b kl ka va z has [⟨ck,w,p⟩]]}
    | none=>none
   | none=>none
  | _,_=>none
 | _,_,_,_=>none
def ptV(hp:List Ck):Option Nat:=hp.findSome? fun
 | .map _ _ _ _ [.bY] _ [⟨.pt _ v,_,_⟩]=>some v
 | _=>none
def abg(c:cF)(h:List Ck):List Ck:=
 match ptV h with
 | some v=>h++[.row c.b true [.vv v]]
 | none=>h
def Yf(st:St):Option ct:=
 match look st.fr 12 with
 | some (.ptr b 0)=>match findAt st.hp b with
  | some (j,_)=>some {pick:=some (ag5 (st.hp.length - 2)++[j])}
  | none=>none
 | _=>none
def iI(f id:Nat):Option vD:=
 match f,id with
 | 12,100027=>some {inc:={b:=1},slots:=fun c=>[(12,.ptr c.b 0)],gh:=Yf,hp:=abg}
 | _,_=>none
def jq(f r:Nat):Option (St→Option ct):=
 match f,r with
 | 12,20=>some OO
 | 12,26=>some OP
 | 12,28=>some Yd
 | 12,33=>some shut
 | _,_=>none
end Go.RX.Ea

namespace Go.RX
theorem OQ{α:Type}{a b:List α}(h:a.Perm b): ∃f:Nat→Nat,(∀i j,f i=f j→i=j)∧∀(j:Nat) x,b[j]? =some x→a[f j]? =some x:=by
 induction h with
 | nil=>exact⟨id,fun _ _ h=>h,fun _ _ h=>h⟩
 | cons x _ ih=>
  obtain⟨f,h1,h2⟩:=ih;refine⟨fun j=>match j with | 0=>0 | j+1=>f j+1,fun i j h=>?_,fun j y hy=>?_⟩
  ·cases i<;>cases j<;>simp at h ⊢
   exact h1 _ _ h
  ·cases j with
   | zero=>simpa using hy
   | succ j=>simpa using h2 j y (by simpa using hy)
 | swap x y l=>
  refine⟨fun j=>match j with | 0=>1 | 1=>0 | j+2=>j+2,fun i j h=>?_,fun j z hz=>?_⟩
  ·match i,j,h with
   | 0,0,_=>rfl
   | 1,1,_=>rfl
   | 0,1,h=>simp at h
   | 1,0,h=>simp at h
   | 0,j+2,h=>simp at h
   | 1,j+2,h=>simp at h
   | i+2,0,h=>simp at h
   | i+2,1,h=>simp at h
   | i+2,j+2,h=>simpa using h
  ·match j,hz with
   | 0,hz=>simpa using hz
   | 1,hz=>simpa using hz
   | j+2,hz=>simpa using hz
 | trans _ _ ih1 ih2=>
  obtain⟨f,f1,f2⟩:=ih1;obtain⟨g,g1,g2⟩:=ih2;exact⟨fun j=>f (g j),fun i j h=>g1 _ _ (f1 _ _ h),fun j x hx=>f2 _ _ (g2 _ _ hx)⟩
theorem aU.perm{a b:List HP}{w:World}(h:aU a w)(hp:a.Perm b):aU b w:=by
 obtain⟨f,h1,h2⟩:=OQ hp;refine h.tf (fun j=>some (f j)) (fun j x hx=> .inr ⟨f j,rfl,h2 j x hx⟩) ?_;intro j j' i hj lW _ _;cases hj;simp only [agy]at lW;exact h1 _ _ lW.symm
theorem aB.perm{a b:List HP}(h:a.Perm b):aB a b:=fun _ _ o=>o.perm (h.append_right _)
theorem aB.frame{a b:List HP}(h:aB a b)(r:List HP):aB (a++r) (b++r):=fun w Fs o=>by
 rw [ahf]at o ⊢;exact h w (r++Fs) o
theorem au.frame{P:Program}{f:Nat}{args:List Value}{pre:List HP}{post:Value→List HP→Prop}(h:au P f args pre post)(r:List HP):
  au P f args (pre++r) fun v hs=> ∃qG,hs=qG++r∧post v qG:=by
 intro w Fs o;rw [ahf]at o;refine(h w (r++Fs) o).mono ?_;rintro e w' ⟨v,hs,he,hp,ho,ey⟩;exact⟨v,hs++r,he,⟨hs,rfl,hp⟩,by rw [ahf];exact ho,ey⟩
def HP.star(l:List HP):HP where
 wr:=true
 p w S:= ∃T,Sep l T w∧∀k,S k↔∃i,i<l.length∧T i k
 stable w w' S h hk:=by
  obtain⟨T,hT,hS⟩:=h;refine⟨T,⟨fun i x hx=>?_,hT.apart⟩,hS⟩;have cZ:i<l.length:=(agx.1 hx).1;obtain⟨hp,hb⟩:=hT.at_ i x hx;refine⟨x.stable w w' _ hp fun k jK=>hk k ((hS k).2 ⟨i,cZ,jK⟩),fun k jK=>?_⟩;have:=hk k ((hS k).2 ⟨i,cZ,jK⟩);have fx:=hb k jK;rw [Array.getElem?_eq_getElem fx]at this;exact(agH.1 this).1
theorem aB.eQ(l:List HP):aB [HP.star l] l:=by
 intro w Fs ⟨S,hS⟩;obtain⟨⟨T,hT,hTS⟩,hb⟩:=hS.at_ 0 (HP.star l) rfl;refine⟨fun i=>if i<l.length then T i else S (i - l.length+1),⟨?_,?_⟩⟩
 ·intro i x hx;by_cases hi:i<l.length
  ·rw [agC hi]at hx;simp only [hi,if_true];exact hT.at_ i x hx
  ·rw [agD (by omega)]at hx;simp only [hi,if_false];exact hS.at_ (i - l.length+1) x (by simpa using hx)
 ·intro i j x y eJ hx hy hw k;by_cases hi:i<l.length<;>by_cases hj:j<l.length
  ·rw [agC hi]at hx;rw [agC hj]at hy;simp only [hi,hj,if_true];exact hT.apart i j x y eJ hx hy hw k
  ·rw [agD (by omega)]at hy;simp only [hi,hj,if_true,if_false];intro h1;exact hS.apart 0 (j - l.length+1) (HP.star l) y (by omega) rfl (by simpa using hy) (.inl rfl) k ((hTS k).2 ⟨i,hi,h1⟩)
  ·rw [agD (by omega)]at hx;simp only [hi,hj,if_true,if_false];intro h1 h2;exact hS.apart 0 (i - l.length+1) (HP.star l) x (by omega) rfl (by simpa using hx) (.inl rfl) k ((hTS k).2 ⟨j,hj,h2⟩) h1
  ·rw [agD (by omega)]at hx hy;simp only [hi,hj,if_false];exact hS.apart (i - l.length+1) (j - l.length+1) x y (by omega) (by simpa using hx) (by simpa using hy) hw k
theorem aB.star{l:List HP}(hw: ∀h∈l,h.wr=true):aB l [HP.star l]:=by
 intro w Fs ⟨S,hS⟩;refine⟨fun i=>if i=0 then fun k=> ∃j,j<l.length∧S j k else S (i - 1+l.length),⟨?_,?_⟩⟩
 ·intro i x hx;by_cases hi:i=0
  ·subst hi;simp at hx;subst hx;simp only [if_true];refine⟨⟨S,⟨fun i x hx=>?_,fun i j x y eJ hx hy=>?_⟩,fun k=>Iff.rfl⟩,?_⟩
   ·exact hS.at_ i x (by rw [agC (agx.1 hx).1];exact hx)
   ·exact hS.apart i j x y eJ (by rw [agC (agx.1 hx).1];exact hx) (by rw [agC (agx.1 hy).1];exact hy)
   ·rintro k ⟨j,hj,hk⟩;exact(hS.at_ j (l[j]'hj) (by rw [agC hj];exact ag6 hj)).2 k hk
  ·have e:i=(i - 1)+1:=by omega
   rw [e]at hx;simp only [hi,if_false];exact hS.at_ (i - 1+l.length) x (by rw [agD (by omega),show i - 1+l.length - l.length=i - 1 by omega];simpa using hx)
 ·have key: ∀(i:Nat) (x:HP),i≠0→([HP.star l]++Fs)[i]? =some x→(l++Fs)[i - 1+l.length]? =some x:=by
   intro i x hi hx;have e:i=(i - 1)+1:=by omega
   rw [e]at hx;rw [agD (by omega),show i - 1+l.length - l.length=i - 1 by omega];simpa using hx
  have cross: ∀(j:Nat) (y:HP) (k:Nat),j≠0→([HP.star l]++Fs)[j]? =some y→(∃m,m<l.length∧S m k)→¬S (j - 1+l.length) k:=by
   rintro j y k hj hy ⟨m,hm,hk⟩;exact hS.apart m (j - 1+l.length) (l[m]'hm) y (by omega) (by rw [agC hm];exact ag6 hm) (key j y hj hy) (.inl (hw _ (List.getElem_mem hm))) k hk
  intro i j x y eJ hx hy y_ k;by_cases hi:i=0<;>by_cases hj:j=0
  ·omega
  ·simp only [hi,hj,if_true,if_false];exact cross j y k hj hy
  ·simp only [hi,hj,if_true,if_false];exact fun h1 h2=>cross i x k hi hx h2 h1
  ·simp only [hi,hj,if_false];exact hS.apart _ _ x y (by omega) (key i x hi hx) (key j y hj hy) y_ k
theorem aB.Yh{a b:List HP}(idx:List Nat)(gE:idx.Nodup)(h: ∀(j:Nat) x,b[j]? =some x→∃i,idx[j]? =some i∧a[i]? =some x):aB a b:=by
 intro w Fs o;refine o.tf (fun j=>if j<b.length then idx[j]? else some (a.length+(j - b.length))) ?_ ?_
 ·intro j x hx;right;by_cases hj:j<b.length
  ·rw [agC hj]at hx;obtain⟨i,h1,h2⟩:=h j x hx;refine⟨i,by simp only [hj,if_true,h1],?_⟩;rw [agC (agx.1 h2).1];exact h2
  ·rw [agD (by omega)]at hx;refine⟨_,by simp only [hj,if_false];rfl,?_⟩;rw [agD (by omega),Nat.add_sub_cancel_left];exact hx
 ·intro j j' i hj lW _ _;by_cases h1:j<b.length
  ·have hx:b[j]? =some b[j]:=ag6 h1;obtain⟨i1,q1,q2⟩:=h j _ hx;have DF:=(agx.1 q2).1;simp only [h1,if_true,q1,agy]at hj;subst hj;by_cases h2:j'<b.length
   ·simp only [h2,if_true]at lW;obtain⟨l1,e1⟩:=agx.1 q1;obtain⟨l2,e2⟩:=agx.1 lW;exact(List.getElem_inj gE).1 (e1.trans e2.symm)
   ·simp only [h2,if_false,agy]at lW;omega
  ·simp only [h1,if_false,agy]at hj;by_cases h2:j'<b.length
   ·have hx:b[j']? =some b[j']:=ag6 h2;obtain⟨i1,q1,q2⟩:=h j' _ hx;have DF:=(agx.1 q2).1;simp only [h2,if_true,q1,agy]at lW;omega
   ·simp only [h2,if_false,agy]at lW;omega
def HP.ex{α:Type}(F:α→HP):HP where
 wr:=true
 p w S:= ∃a,(F a).p w S
 stable w w' S h hk:=by
  obtain⟨a,ha⟩:=h;exact⟨a,(F a).stable w w' S ha hk⟩
theorem aB.ex{α:Type}{F:α→HP}(a:α)(hw:(F a).wr=true):aB [F a] [HP.ex F]:=by
 have:=aB.put (a:=[F a]) 0 (F a) (HP.ex F) rfl (fun _=>hw) fun w S h=>⟨S,fun _ h=>h,⟨a,h⟩⟩
 simpa using this
theorem au.ex{α:Type}{F:α→HP}{P:Program}{f:Nat}{args:List Value}{R:List HP}{post:Value→List HP→Prop}(h: ∀a,au P f args (F a::R) post):au P f args (HP.ex F::R) post:=by
 intro w Fs ⟨S,hS⟩;obtain⟨⟨a,ha⟩,hb⟩:=hS.at_ 0 (HP.ex F) rfl;refine h a w Fs ⟨S,⟨fun i x hx=>?_,fun i j x y eJ hx hy hw=>?_⟩⟩
 ·match i,hx with
  | 0,hx=>simp at hx;subst hx;exact⟨ha,hb⟩
  | i+1,hx=>exact hS.at_ (i+1) x (by simpa using hx)
 ·match i,j,eJ,hx,hy with
  | 0,0,eJ,_,_=>exact absurd rfl eJ
  | 0,j+1,_,_,hy=>exact hS.apart 0 (j+1) (HP.ex F) y (by omega) rfl (by simpa using hy) (.inl rfl)
  | i+1,0,_,hx,_=>exact hS.apart (i+1) 0 x (HP.ex F) (by omega) (by simpa using hx) rfl (.inr rfl)
  | i+1,j+1,eJ,hx,hy=>exact hS.apart (i+1) (j+1) x y eJ (by simpa using hx) (by simpa using hy) hw
end Go.RX

namespace Go.RX.Ea
open Go.RX Go.Proofs
noncomputable def cx:Ctx:={T:=TT,FT:=FT,loops:=loops,iI:=iI,dc:=dc,jq:=jq}
end Go.RX.Ea
