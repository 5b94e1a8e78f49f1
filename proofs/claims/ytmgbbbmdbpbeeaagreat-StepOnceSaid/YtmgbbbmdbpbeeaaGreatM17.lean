/- What the executor is told of sealed texts. -/
import Derived.Test.YtmgbbbmdbpbeeaaGreatM16
open List renaming range → ajw
namespace Go.RX.Fk
open Go.RX Go.RX.Fe Go.RX.Fg Go.RX.Fi Go.RX.Fj
def lW:aL:={use:=fun az hp=>roots hp az,inc:={i:=1,a:=1,v:=1},val:=fun c=> .vv c.v,new:=fun c h=>cC (.var c.i) c h}
def Yj:aL:={use:=fun az hp=>roots hp (az.take 1),inc:={i:=1},val:=fun c=> .int .i64 (.var c.i),new:=fun _ h=>h}
def NR:aL:=makes fun _ _=> .lit 8
def NS(az:List SV)(hp:List Ck):List Nat:=
 match az with
 | .agg [x,y]::r=>roots hp (x::y::r)
 | _=>[]
def Jh(n:cz→E)(i:Nat):aL:={use:=NS,inc:={i:=i,a:=1,v:=1},val:=fun c=> .vv c.v,new:=fun c h=>cC (n c) c h}
def bB(f:Nat):Option aL:=
 match f with
 | 155=>some Yj
 | 144=>some tD
 | 122=>some lW
 | 123=>some NR
 | 124=>some tD
 | 125=>some tD
 | 102=>some lW
 | 98=>some (makes fun _ _=> .lit 256)
 | 99=>some lW
 | 101=>some (Jh (fun _=> .lit 16) 0)
 | 100=>some (Jh (fun c=> .var c.i) 1)
 | _=>none
def loops(f id:Nat):Option dO:=
 match f,id with
 | 155,0=>some {inc:={i:=2},aO:=fun c=>[(6,.int .i64 (.var c.i)),(5,.int .i64 (.var (c.i+1)))]}
 | 144,0=>some {inc:={i:=1,a:=1},aO:=fun c=>[(6,.int .i64 (.var c.i))],hp:=fun c h=>UY 2 c.a h}
 | 144,2=>some {inc:={i:=1,a:=1},aO:=fun c=>[(7,.int .i64 (.var c.i))],hp:=fun c h=>UY 2 c.a h}
 | 144,4=>some {inc:={i:=1,a:=1},aO:=fun c=>[(8,.int .i64 (.var c.i))],hp:=fun c h=>UY 2 c.a h}
 | 144,6=>some {inc:={i:=1,a:=1},aO:=fun c=>[(10,.int .i64 (.var c.i))],hp:=fun c h=>p5 3 c.a h}
 | 144,8=>some {inc:={i:=1,a:=1},aO:=fun c=>[(11,.int .i64 (.var c.i))],hp:=fun c h=>p5 3 c.a h}
 | 125,0=>some {back:=[.swap 5 2],inc:={i:=1,a:=1,v:=1},aO:=fun c=>[(6,.int .i64 (.var c.i)),(5,.vv c.v)],hp:=fun c h=>p6 2 c.v (.lit 16) c.a h}
 | 125,2=>some {inc:={i:=1,a:=1},aO:=fun c=>[(7,.int .i64 (.var c.i))],hp:=fun c h=>p5 2 c.a h}
 | 122,0=>some {back:=[.swap 3 1],inc:={i:=1,a:=1,v:=1},aO:=fun c=>[(3,.vv c.v)],hp:=fun c h=>p6 1 c.v (.var c.i) c.a h}
 | _,_=>none
 where
 UY (i a:Nat) (h:List Ck):List Ck:=
  match h[i]? with
  | some (.bK md v t s n _)=>h.set i (.bK md v t s n [⟨.int .i64,1,.aN a⟩])
  | _=>h
end Go.RX.Fk

namespace Go.RX.Fl
open Go.RX Go.RX.Fe Go.RX.Fg Go.RX.Fi Go.RX.Fj Go.RX.Fk
def lX(hp:List Ck):SV→List Nat
 | .sl b _ _ _ _=>match findAt hp b with
  | some (j,.row _ _ cs)=>j::roots hp cs
  | _=>[]
 | .vv v=>match cG hp v with
  | some (j,.bK _ _ _ _ _ [⟨.Gt l,_,_⟩])=>j::roots hp (l.map .vv)
  | _=>[]
 | _=>[]
def Rh:aL:={use:=fun az hp=>match az with | [x]=>lX hp x | _=>[],inc:={i:=1,a:=1,v:=1},val:=fun c=> .vv c.v,new:=fun c h=>cC (.var c.i) c h}
def Cw:aL:={use:=fun az hp=>roots hp az,inc:={i:=1},val:=fun c=> .int .i64 (.var c.i),new:=fun _ h=>h}
def EB:aL:={use:=fun az hp=>roots hp az,inc:={i:=3},val:=fun c=> .mu [.agg [.int .u64 (.var c.i),.int .u64 (.var (c.i+1))],.int .i64 (.var (c.i+2))],new:=fun _ h=>h}
def bB(f:Nat):Option aL:=
 match f with
 | 31=>some lW
 | 70=>some lW
 | _=>none
def loops(f id:Nat):Option dO:=
 match f,id with
 | 70,0=>some {pre:=[.own 3 5],back:=[.swap 3 0],inc:={i:=2,a:=1,v:=1},aO:=fun c=>[(0,.int .u64 (.var c.i)),(3,.vv c.v)],hp:=fun c h=>p6 0 c.v (.var (c.i+1)) c.a h}
 | _,_=>none
 where
 yZ (g:SV→SV→List SV) (h:List Ck):List Ck:=
  match h.reverse.findIdx? (fun | .row _ true [.int .u64 _,.int .u64 _]=>true | _=>false)with
  | some i=>match h.reverse[i]? with
   | some (.row b w [x,y])=>(h.reverse.set i (.row b w (g x y))).reverse
   | _=>h
  | none=>h
 adT (e:E) (h:List Ck):List Ck:=yZ (fun _ y=>[.int .u64 e,y]) h
 adU (e:E) (h:List Ck):List Ck:=yZ (fun x _=>[x,.int .u64 e]) h
end Go.RX.Fl

namespace Go.RX.Fm
open Go.RX Go.RX.Fe Go.RX.Fg Go.RX.Fi Go.RX.Fj Go.RX.Fk Go.RX.Fl
def cW(a:Nat):List bR:=[⟨.int .u32,1,.aN a⟩]
def Ri(b h k:Nat):Ck:= .row b true ([.vv h,.vv k]++[4,2,13,22,6,11,25,7,18,3,17,19,10].map fun n:Int=> .int .i64 (.lit n))
def ints(k:IntKind)(i:Nat):Nat→List SV
 | 0=>[]
 | n+1=> .int k (.var i)::ints k (i+1) n
def Yk(c:cz)(h:List Ck):List Ck:=
 match h[(4:Nat)]? with
 | some (.bK md v t s n _)=>h.set 4 (.bK md v t s n (cW c.a))
 | _=>h
def hpX(c:cz)(h:List Ck):List Ck:=
 match h[(5:Nat)]? with
 | some (.row b wr _)=>h.set 5 (.row b wr (ints .u32 c.i 8))
 | _=>h
def lq(a:Nat)(h:List Ck):List Ck:=
 match h[(1:Nat)]? with
 | some (.bK md v t s n _)=>h.set 1 (.bK md v t s n (cW a))
 | _=>h
def hpH(c:cz)(h:List Ck):List Ck:=
 match (lq c.a h)[(5:Nat)]? with
 | some (.row b wr _)=>(lq c.a h).set 5 (.row b wr [.b_ .u32 8 (.aN (c.a+1))])
 | _=>h
def fV(i v:Nat)(n:E)(a:Nat)(h:List Ck):List Ck:=
 let is:=(ajw h.length).filter fun j=>match h[j]? with | some (.bK true _ 5 1 _ _)=>true | _=>false
 match is.reverse[i]? with
 | some j=>p6 j v n a h
 | none=>h
def loops(f id:Nat):Option dO:=
 match f,id with
 | 151,0=>some {inc:={i:=1,a:=1},aO:=fun c=>[(25,.int .i64 (.var c.i))],hp:=Yk}
 | 151,2=>some {inc:={i:=1,a:=1},aO:=fun c=>[(6,.int .i64 (.var c.i))],hp:=Yk}
 | 151,4=>some {inc:={i:=9},aO:=fun c=>[(110,.int .i64 (.var (c.i+8)))],hp:=hpX}
 | 151,6=>some {inc:={i:=1,a:=2},aO:=fun c=>[(189,.int .i64 (.var c.i))],hp:=hpH}
 | 139,2=>some {back:=[.cut 6 true],inc:={i:=1,a:=2,v:=1},aO:=fun c=>[(6,.vv c.v)],hp:=fun c h=>lq (c.a+1) (fV 0 c.v (.var c.i) c.a h)}
 | 139,4=>some {inc:={i:=1,a:=1,v:=1},aO:=fun c=>[(6,.vv c.v)],hp:=fun c h=>fV 0 c.v (.var c.i) c.a h}
 | 139,8=>some {back:=[.cut 6 true],inc:={i:=1,a:=2,v:=1},aO:=fun c=>[(6,.vv c.v)],hp:=fun c h=>lq (c.a+1) (fV 1 c.v (.var c.i) c.a h)}
 | 97,0=>some {inc:={i:=1,a:=1},aO:=fun c=>[(26,.int .i64 (.var c.i))],hp:=fun c h=>p5 (h.length - 1) c.a h}
 | 54,0=>some {pre:=[.slot 3 5],inc:={i:=2,a:=1,v:=1},aO:=fun c=>[(4,.int .i64 (.var c.i)),(3,.vv c.v)],hp:=fun c h=>fV 0 c.v (.var (c.i+1)) c.a h}
 | 34,2=>some {inc:={i:=1,a:=1},aO:=fun c=>[(51,.int .i64 (.var c.i))],hp:=fun c h=>pair c.a h}
 | 68,0=>some {inc:={i:=2},aO:=fun c=>[(14,.int .i64 (.var c.i)),(5,.int .u8 (.var (c.i+1)))],hp:=fun _ h=>h}
 | _,_=>none
 where
 pair (a:Nat) (h:List Ck):List Ck:=
  match h[(2:Nat)]? with
  | some (.row b w _)=>h.set 2 (.row b w [.b_ .u64 2 (.aN a)])
  | _=>h
def p7(az:List SV)(hp:List Ck):List Nat:=
 match az with
 | .ptr b 0::r=>
  match findAt hp b with
  | some (j,.row _ _ (.vv h:: .vv k::_))=>
   match cG hp h,cG hp k with
   | some (x,_),some (y,_)=>[j,x,y]++roots hp r
   | _,_=>[]
  | _=>[]
 | _=>[]
def y5(c:cz)(h:List Ck):List Ck:=
 match h with
 | [m,.bK md v t s n _,k,r]=>[m,.bK md v t s n (cW c.a),k,r]
 | h=>h
def uW:aL:={use:=p7,inc:={a:=1},val:=fun _=> .mu [],new:=y5}
def Ho:aL:={use:=fun _ _=>[],inc:={b:=1,v:=2,a:=2},val:=fun c=> .ptr c.b 0,new:=fun c _=>[Ri c.b c.v (c.v+1),.bK true c.v 225 1 (.lit 8) (cW c.a),.bK true (c.v+1) 225 1 (.lit 64) (cW (c.a+1))]}
def y6:aL:={use:=fun az hp=>match az with | [m,x]=>p7 [m] hp++lX hp x | _=>[],inc:={a:=1,v:=1},val:=fun c=> .vv c.v,new:=fun c h=>cC (.lit 32) c (h.drop 3)}
def sum256:aL:={use:=fun az hp=>match az with | [x]=>lX hp x | _=>[],inc:={a:=1},val:=fun c=> .agg [.b_ .u8 32 (.aN c.a)],new:=fun _ h=>h}
def NU:aL:={use:=fun az hp=>match az with | [_,x]=>lX hp x | _=>[],inc:={i:=1,a:=1,v:=1},val:=fun c=> .vv c.v,new:=fun c h=>cC (.var c.i) c h}
def UZ:aL:={use:=fun _ _=>[],inc:={i:=1,a:=1,v:=1},val:=fun c=> .vv c.v,new:=fun c h=>cC (.var c.i) c h}
def y7:aL:={use:=fun az hp=>roots hp az,inc:={i:=1,a:=1,v:=1},val:=fun c=> .vv c.v,new:=fun c h=>cC (.var c.i) c h}
def Rj:aL:={use:=fun az hp=>match az with | [_,k,x]=>roots hp [k]++(lX hp x).filter (fun i=> !(roots hp [k]).contains i) | _=>[],inc:={i:=1,a:=1,v:=1},val:=fun c=> .vv c.v,new:=fun c h=>cC (.var c.i) c h}
def U0:aL:={use:=fun _ _=>[],inc:={i:=6},val:=fun c=> .mu [.agg [.int .u8 (.var c.i),.int .i64 (.var (c.i+1)),.int .i64 (.var (c.i+2)),.int .i64 (.var (c.i+3)),.int .i64 (.var (c.i+4))],.int .i64 (.var (c.i+5))],new:=fun _ h=>h}
def Lc:aL:={use:=fun _ _=>[],inc:={a:=1},val:=fun c=> .agg [.b_ .u8 12 (.aN c.a)],new:=fun _ h=>h}
def Ld:aL:={use:=fun az hp=>roots hp az,inc:={i:=4},val:=fun c=> .mu [.agg [.int .u64 (.var c.i),.int .u64 (.var (c.i+1))],.int .i64 (.var (c.i+2)),.int .i64 (.var (c.i+3))],new:=fun _ h=>h}
def EC(u:List SV→List Ck→List Nat):aL:={use:=u,inc:={i:=2,a:=1,v:=1},val:=fun c=> .mu [.vv c.v,.int .i64 (.var (c.i+1))],new:=fun c h=>cC (.var c.i) c h}
def NV:aL:={use:=fun az hp=>roots hp az,inc:={i:=1,b:=1,v:=1,a:=2},val:=fun c=> .mu [.ptr c.b 0,.int .i64 (.lit 0)],new:=fun c h=>h++[.row c.b true [.b_ .u8 256 (.aN c.a),.vv c.v],.bK true c.v 177 4 (.var c.i) (w4 (c.a+1))]}
def Lf:aL:={use:=Jg,inc:={i:=1,a:=1,v:=1},val:=fun c=> .mu [.vv c.v,.int .i64 (.lit 0)],new:=fun c h=>cC (.var c.i) c h}
def bB(f:Nat):Option aL:=
 match f with
 | 151=>some uW
 | 138=>some Ho
 | 139=>some y6
 | 115=>some sum256
 | 96=>some NU
 | 143=>some UZ
 | 118=>some y7
 | 97=>some y7
 | 64=>some Rj
 | 53=>some U0
 | 57=>some Lc
 | 34=>some Ld
 | 54=>some lW
 | 27=>some lW
 | 29=>some Rh
 | 65=>some NR
 | 68=>some Ez
 | 60=>some NV
 | 62=>some Lf
 | 56=>some (EC fun az hp=>roots hp az)
 | 59=>some (EC fun az hp=>roots hp az)
 | _=>none
end Go.RX.Fm

namespace Go.RX.Fq
open Go.RX Go.RX.Fe Go.RX.Fg Go.RX.Fi Go.RX.Fj Go.RX.Fk Go.RX.Fl
def dW(a:Nat):List bR:=[⟨.int .u64,1,.aN a⟩]
def Rk(b h k:Nat):Ck:= .row b true ([.vv h,.vv k]++[8,28,34,39,14,18,41,1,8,7,19,61,6].map fun n:Int=> .int .i64 (.lit n))
def Yk(c:cz)(h:List Ck):List Ck:=
 match h[(4:Nat)]? with
 | some (.bK md v t s n _)=>h.set 4 (.bK md v t s n (dW c.a))
 | _=>h
def hpX(c:cz)(h:List Ck):List Ck:=
 match h[(5:Nat)]? with
 | some (.row b wr _)=>h.set 5 (.row b wr (Fm.ints .u64 c.i 8))
 | _=>h
def lq(a:Nat)(h:List Ck):List Ck:=
 match h[(1:Nat)]? with
 | some (.bK md v t s n _)=>h.set 1 (.bK md v t s n (dW a))
 | _=>h
def hpH(c:cz)(h:List Ck):List Ck:=
 match (lq c.a h)[(5:Nat)]? with
 | some (.row b wr _)=>(lq c.a h).set 5 (.row b wr [.b_ .u64 8 (.aN (c.a+1))])
 | _=>h
def loops(f id:Nat):Option dO:=
 match f,id with
 | 152,0=>some {inc:={i:=1,a:=1},aO:=fun c=>[(25,.int .i64 (.var c.i))],hp:=Yk}
 | 152,2=>some {inc:={i:=1,a:=1},aO:=fun c=>[(6,.int .i64 (.var c.i))],hp:=Yk}
 | 152,4=>some {inc:={i:=9},aO:=fun c=>[(110,.int .i64 (.var (c.i+8)))],hp:=hpX}
 | 152,6=>some {inc:={i:=1,a:=2},aO:=fun c=>[(189,.int .i64 (.var c.i))],hp:=hpH}
 | 141,2=>some {back:=[.cut 6 true],inc:={i:=1,a:=2,v:=1},aO:=fun c=>[(6,.vv c.v)],hp:=fun c h=>lq (c.a+1) (Fm.fV 0 c.v (.var c.i) c.a h)}
 | 141,4=>some {inc:={i:=1,a:=1,v:=1},aO:=fun c=>[(6,.vv c.v)],hp:=fun c h=>Fm.fV 0 c.v (.var c.i) c.a h}
 | 141,8=>some {back:=[.cut 6 true],inc:={i:=1,a:=2,v:=1},aO:=fun c=>[(6,.vv c.v)],hp:=fun c h=>lq (c.a+1) (Fm.fV 1 c.v (.var c.i) c.a h)}
 | 106,0=>some {back:=[.swap 11 3],pre:=[.slot 10 5,.slot 11 5],inc:={i:=3,a:=2,v:=2},aO:=fun c=>[(12,.int .i64 (.var c.i)),(10,.vv c.v),(11,.vv (c.v+1))],hp:=fun c h=>Fm.fV 1 c.v (.var (c.i+1)) c.a (Fm.fV 0 (c.v+1) (.var (c.i+2)) (c.a+1) h)}
 | 107,0=>some {inc:={i:=2,a:=1,v:=1},aO:=fun c=>[(8,.int .i64 (.var c.i)),(7,.vv c.v)],hp:=fun c h=>Fm.fV 0 c.v (.var (c.i+1)) c.a h}
 | f,id=>Fm.loops f id
def y5(c:cz)(h:List Ck):List Ck:=
 match h with
 | [m,.bK md v t s n _,k,r]=>[m,.bK md v t s n (dW c.a),k,r]
 | h=>h
def uW:aL:={use:=Fm.p7,inc:={a:=1},val:=fun _=> .mu [],new:=y5}
def NW:aL:={use:=fun _ _=>[],inc:={b:=1,v:=2,a:=2},val:=fun c=> .ptr c.b 0,new:=fun c _=>[Rk c.b c.v (c.v+1),.bK true c.v 23 1 (.lit 8) (dW c.a),.bK true (c.v+1) 23 1 (.lit 80) (dW (c.a+1))]}
def y6:aL:={use:=fun az hp=>match az with | [m,x]=>Fm.p7 [m] hp++lX hp x | _=>[],inc:={a:=1,v:=1},val:=fun c=> .vv c.v,new:=fun c h=>cC (.lit 64) c (h.drop 3)}
def U1:aL:={use:=fun az hp=>match az with | [x]=>lX hp x | _=>[],inc:={a:=1},val:=fun c=> .agg [.b_ .u8 64 (.aN c.a)],new:=fun _ h=>h}
def makes(u:List SV→List Ck→List Nat):aL:={use:=u,inc:={i:=1,a:=1,v:=1},val:=fun c=> .vv c.v,new:=fun c h=>cC (.var c.i) c h}
def Hp:aL:={use:=fun az hp=>roots hp az,inc:={i:=1,a:=1,v:=1},val:=fun c=> .mu [.vv c.v,.int .i64 (.lit 0)],new:=fun c h=>cC (.var c.i) c h}
def Hq:aL:={use:=fun az hp=>roots hp az,inc:={i:=7,a:=1,v:=1},val:=fun c=> .mu [.agg [.int .u8 (.var c.i),.int .i64 (.var (c.i+1)),.int .i64 (.var (c.i+2)),.int .i64 (.var (c.i+3)),.int .i64 (.var (c.i+4))],.vv c.v,.int .i64 (.var (c.i+5))],new:=fun c h=>cC (.var (c.i+6)) c h}
def calls(f d:Nat):Option aL:=
 match f,d with
 | 77,48=>some {use:=fun az hp=>roots hp az,inc:={a:=1,v:=1},val:=fun c=> .mu [.vv c.v,.int .i64 (.lit 0)],new:=fun c h=>cC (.lit 12) c h}
 | _,_=>none
def bB(f:Nat):Option aL:=
 match f with
 | 152=>some uW
 | 140=>some NW
 | 141=>some y6
 | 116=>some U1
 | 130=>some (makes fun az hp=>roots hp az)
 | 107=>some (makes fun _ _=>[])
 | 106=>some Hp
 | 105=>some Hq
 | f=>Fm.bB f
end Go.RX.Fq

namespace Go.RX.Ft
open Go.RX Go.RX.Fe Go.RX.Fg Go.RX.Fi Go.RX.Fj Go.RX.Fk Go.RX.Fl
def NY(az:List SV):List SV:=
 match az with
 | .agg [_,_,k,_]::r=>k::r
 | _=>az
def fh:aL:={use:=fun az hp=>roots hp (NY az),inc:={i:=2,a:=1,v:=1},val:=fun c=> .mu [.vv c.v,.int .i64 (.var (c.i+1))],new:=fun c h=>cC (.var c.i) c h}
def p8:aL:={use:=fun az hp=>roots hp (NY az),inc:={i:=3,a:=1,v:=1},val:=fun c=> .mu [.vv c.v,.int .u64 (.var (c.i+1)),.int .i64 (.var (c.i+2))],new:=fun c h=>cC (.var c.i) c h}
def Hr:aL:={use:=fun az hp=>roots hp az,inc:={i:=4,a:=2,v:=1},val:=fun c=> .mu [.agg [.int .u16 (.var c.i),.int .u64 (.var (c.i+1)),.vv c.v,.b_ .u8 12 (.aN (c.a+1))],.int .i64 (.var (c.i+2))],new:=fun c h=>cC (.var (c.i+3)) c h}
def bB(f:Nat):Option aL:=
 match f with
 | 8=>some fh
 | 10=>some p8
 | 77=>some Hr
 | 31=>some {use:=fun _ _=>[],inc:={i:=1,a:=1,v:=1},val:=fun c=> .vv c.v,new:=fun c h=>cC (.var c.i) c h}
 | 112=>some Fg.fh
 | 6=>some {use:=fun _ _=>[],inc:={},val:=fun _=> .bool (.lit true),new:=fun _ h=>h}
 | f=>Fm.bB f
def loops(_ _:Nat):Option dO:=none
end Go.RX.Ft

namespace Go.RX.Fw
open Go.RX Go.RX.Fe Go.RX.Fg Go.RX.Fi Go.RX.Fj Go.RX.Fk Go.RX.Fl
def Yl(i v:Nat):List SV:=[.int .u16 (.var i),.int .u64 (.var (i+1)),.int .i64 (.var (i+2)),.int .u64 (.var (i+3)),.vv v]
def ab0(bo i a:Nat):List SV:=[.bool (.var bo),.int .u64 (.var i),.b_ .u64 16 (.aN a)]
def TH(bo i v a:Nat):List SV:=Yl i v++ab0 bo (i+4) a
def ED(bo i v a:Nat):List SV:=TH bo i v a++TH (bo+1) (i+5) (v+1) (a+1)++[.bool (.var (bo+2))]
def Hs(a:Nat):List SV→List SV
 | []=>[]
 | .b_ .u64 16 _::r=> .b_ .u64 16 (.aN a)::Hs (a+1) r
 | x::r=>x::Hs a r
def Ym(a:Nat)(h:List Ck):List Ck:=
 h.map fun x=>match x with
  | .row b wr cs=> .row b wr (Hs a cs)
  | x=>x
def U2(c:cz)(h:List Ck):List Ck:=
 match h[(10:Nat)]? with
 | some (.row b wr (s::p::n::_::_::r))=>(h.set 10 (.row b wr (s::p::n:: .int .u64 (.var c.i):: .vv c.v::r))).set 1 (.bK false c.v 5 1 (.var (c.i+1)) (cB c.a))
 | _=>h
def loops(f id:Nat):Option dO:=
 match f,id with
 | 110,0=>some {inc:={i:=1,a:=2},aO:=fun c=>[(4,.int .u64 (.var c.i))],hp:=fun c h=>Ym c.a h}
 | 25,1=>some {pre:=[.qw 10 4 false],inc:={i:=2,a:=1,v:=1},aO:=fun _=>[],hp:=U2}
 | _,_=>none
def EE(hp:List Ck)(az:List SV):List Nat:=az.flatMap fun x=>match x with
 | .ptr b _=>(match findAt hp b with | some (j,_)=>[j] | none=>[])
 | _=>[]
def NZ:aL:={use:=fun az hp=>EE hp az,inc:={i:=1},val:=fun c=> .int .i64 (.var c.i),new:=fun _ h=>h}
def Cx(bo i a:Nat):List SV→List SV
 | []=>[]
 | .bool _:: .int .u64 _:: .b_ .u64 16 _::r=> .bool (.var bo):: .int .u64 (.var i):: .b_ .u64 16 (.aN a)::Cx (bo+1) (i+1) (a+1) r
 | x::r=>x::Cx bo i a r
def N0:aL:={use:=fun az hp=>EE hp az,inc:={i:=3,a:=2,bo:=2},val:=fun c=> .int .i64 (.var (c.i+2)),new:=fun c h=>h.map fun x=>match x with | .row b wr cs=> .row b wr (Cx c.bo c.i c.a cs) | x=>x}
def y8:aL:={use:=fun az hp=>roots hp az,inc:={i:=2,a:=1,v:=1},val:=fun c=> .mu [.vv c.v,.int .i64 (.var (c.i+1))],new:=fun c h=>cC (.var c.i) c h}
def lV:aL:={use:=fun az hp=>match az with | [.agg [_,_,_,_,v]]=>roots hp [v] | _=>[],inc:={i:=5,a:=1,v:=1},val:=fun c=> .agg [.int .u16 (.var c.i),.int .u64 (.var (c.i+1)),.int .i64 (.var (c.i+2)),.int .u64 (.var (c.i+3)),.vv c.v],new:=fun c _=>[.bK false c.v 5 1 (.var (c.i+4)) (cB c.a)]}
def N6:aL:={use:=fun az hp=>match az with | [.agg [_,_,_,_,v]]=>roots hp [v] | _=>[],inc:={i:=3,a:=2,v:=1},val:=fun c=> .agg [.int .u16 (.var c.i),.int .u64 (.var (c.i+1)),.vv c.v,.b_ .u8 12 (.aN (c.a+1))],new:=fun c h=>cC (.var (c.i+2)) c h}
def Ji:aL:={use:=fun _ _=>[],inc:={i:=1},val:=fun c=> .int .u64 (.var c.i),new:=fun _ h=>h}
def bB(f:Nat):Option aL:=
 match f with
 | 41=>some N6
 | 45=>some Ji
 | 48=>some Ji
 | 51=>some NZ
 | 52=>some N0
 | 81=>some y8
 | 46=>some lV
 | f=>Ft.bB f
end Go.RX.Fw
