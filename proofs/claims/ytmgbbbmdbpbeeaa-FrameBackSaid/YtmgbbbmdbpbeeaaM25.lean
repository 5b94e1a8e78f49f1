/- What the executor is told of counters. -/
import Derived.Test.YtmgbbbmdbpbeeaaM24
open Go.IntKind renaming wrap → ae
open Go.Proofs.Try renaming prog → adE
open Int renaming toNat → ag
open List renaming append → ads
namespace Go.RX.Fg
open Go.RX Go.RX.Fe
def B_(az:List SV)(hp:List Ck):List Nat:=
 match az with
 | .ptr b 0::_=>match findAt hp b with
  | some (j,.row _ _ [_,.vv v])=>match dH hp v with
   | some (x,_)=>[j,x]
   | none=>[]
  | _=>[]
 | _=>[]
def wD(c:cG):SV:= .agg [.cD .u8 16 (.aO c.a)]
def pq:bq:={use:=B_,inc:={a:=1},val:=wD,new:=fun _ h=>h}
def yi:bq:={use:=fun _ _=>[],inc:={a:=1},val:=wD,new:=fun _ h=>h}
def cb(f:Nat):Option bq:=
 match f with
 | 11=>some pq
 | 50=>some yi
 | _=>none
def cB(a:Nat):List bS:=[⟨.int .u8,1,.aO a⟩]
def UP(a:Nat)(h:List Ck):List Ck:=
 match h.reverse.findIdx? (fun | .bu true _ 5 1 _ _=>true | _=>false)with
 | some i=>match h.reverse[i]? with
  | some (.bu md v t s n _)=>(h.reverse.set i (.bu md v t s n (cB a))).reverse
  | _=>h
 | none=>h
def loops(f id:Nat):Option iW:=
 match f,id with
 | 59,0=>some {inc:={i:=1,a:=2},aV:=fun _=>[],hp:=fun c h=>Po c (Fe.rowOf 16 [.cD .u8 16 (.aO c.a)] (UP (c.a+1) h))}
 | 39,4=>some {inc:={i:=2,a:=1},aV:=fun c=>[(13,.int .i64 (.var c.i))],hp:=fun c h=>Pp c (UP c.a h)}
 | _,_=>none
 where
 UQ (e:E) (h:List Ck):List Ck:=
  match h.reverse.findIdx? (fun | .row _ true [.int .i64 _]=>true | _=>false)with
  | some i=>match h.reverse[i]? with
   | some (.row b w _)=>(h.reverse.set i (.row b w [.int .i64 e])).reverse
   | _=>h
  | none=>h
 Po (c:cG) (h:List Ck):List Ck:=UQ (.var c.i) h
 Pp (c:cG) (h:List Ck):List Ck:=UQ (.var (c.i+1)) h
def Sl:List Ck:=H7++[.row 1 true [.vv 1],.bu false 1 5 1 (.var 1) (cB 3)]
end Go.RX.Fg

namespace Go.RX.Fh
open Go.RX Go.RX.Fe Go.RX.Fg
def Pq:bq:={use:=fun _ _=>[],inc:={i:=1},val:=fun c=> .int .u64 (.var c.i),new:=fun _ h=>h}
def Ep:bq:={use:=fun _ _=>[],inc:={i:=2},val:=fun c=> .agg [.int .u64 (.var c.i),.int .u64 (.var (c.i+1))],new:=fun _ h=>h}
def cb(f:Nat):Option bq:=
 match f with
 | 77=>some Pq
 | 66=>some Ep
 | 68=>some Ep
 | 69=>some yi
 | _=>none
def UR(c:cG)(h:List Ck):List Ck:=Fe.rowOf 2 [.int .u64 (.var c.i),.int .u64 (.var (c.i+1))] h
def XG(c:cG)(n:E)(h:List Ck):List Ck:=
 match h.reverse.findIdx? (fun | .bu _ _ 5 1 _ _=>true | _=>false)with
 | some i=>(h.reverse.set i (.bu false c.v 5 1 n (cB c.a))).reverse
 | none=>h
def loops(f id:Nat):Option iW:=
 match f,id with
 | 68,0=>some {inc:={i:=3},aV:=fun c=>[(6,.int .i64 (.var (c.i+2)))],hp:=UR}
 | 58,0=>some {pre:=[.cut 1 false],back:=[.cut 1 false],inc:={i:=3,v:=1,a:=1},aV:=fun c=>[(1,.vv c.v)],hp:=fun c h=>UR c (XG c (.var (c.i+2)) h)}
 | _,_=>none
def Md(i:Nat):SV:= .agg [.int .u64 (.var i),.int .u64 (.var (i+1))]
end Go.RX.Fh

namespace Go.RX.Fi
open Go.RX Go.RX.Fe Go.RX.Fg
def rootOf(hp:List Ck):SV→List Nat
 | .vv v=>match dH hp v with
  | some (j,_)=>[j]
  | none=>[]
 | .jP v _ _=>match dH hp v with
  | some (j,_)=>[j]
  | none=>[]
 | .sl b _ _ _ _=>match findAt hp b with
  | some (j,_)=>[j]
  | none=>[]
 | .opt _ v=>rootOf hp v
 | _=>[]
def roots(hp:List Ck)(az:List SV):List Nat:=(az.flatMap (rootOf hp)).eraseDups
def lenOf(hp:List Ck):SV→E
 | .sl _ _ _ n _=>n
 | .cC=> .lit 0
 | x=>match eZ hp x with
  | some r=>r.p.len
  | none=> .lit 0
def H8(az:List SV)(hp:List Ck):List Nat:=
 match az with
 | [p,_,.sl b _ _ _ _]=>match findAt hp b with
  | some (j,.row _ _ [x])=>B_ [p] hp++[j]++rootOf hp x
  | _=>[]
 | _=>[]
def Pr(c:cG)(h:List Ck):List Ck:=
 match h with
 | _::_:: .row _ _ [x]::_=>h++[.bu true c.v 5 1 (lenOf h x) (cB c.a)]
 | h=>h
def Me:bq:={use:=H8,inc:={a:=1,v:=1},val:=fun c=> .oJ [.vv c.v,.int .i64 (.lit 0)],new:=Pr}
def Mf:bq:={use:=fun az hp=>match az with | [_,x]=>rootOf hp x | _=>[],inc:={a:=1},val:=wD,new:=fun _ _=>[]}
def JV:bq:={use:=fun _ _=>[],inc:={a:=1},val:=wD,new:=fun _ h=>h}
def Sm(az:List SV)(hp:List Ck):List Nat:=
 match az with
 | [p,_,x,y]=>B_ [p] hp++roots hp [x,y]
 | _=>[]
def cQ(n:E)(c:cG)(h:List Ck):List Ck:=h++[.bu true c.v 5 1 n (cB c.a)]
def Ps:bq:={use:=Sm,inc:={a:=1,v:=1},val:=fun c=> .vv c.v,new:=cQ (.lit 16)}
def Pt(k:Int)(c:cG)(h:List Ck):List Ck:=h++[.row c.b true [.cD .u8 256 (.aO c.a),.vv c.v],.bu true c.v 73 4 (.lit (k+28)) (w4 (c.a+1))]
def Pu:bq:={use:=fun az hp=>roots hp az,inc:={b:=1,v:=1,a:=2},val:=fun c=> .oJ [.ptr c.b 0,.int .i64 (.lit 0)],new:=fun c h=>match h with | [.bu _ _ _ _ (.lit k) _]=>Pt k c h | h=>h}
def Er:bq:={use:=fun az hp=>roots hp az,inc:={bo:=1},val:=fun c=> .bool (.var c.bo),new:=fun _ h=>h}
def cb(f:Nat):Option bq:=
 match f with
 | 11=>some pq
 | 50=>some yi
 | 39=>some Me
 | 58=>some Mf
 | 51=>some JV
 | 52=>some Ps
 | 10=>some Pu
 | 44=>some Er
 | _=>none
def loops(f id:Nat):Option iW:=
 match f,id with
 | 44,0=>some {inc:={i:=2},aV:=fun c=>[(14,.int .i64 (.var c.i)),(5,.int .u8 (.var (c.i+1)))],hp:=fun _ h=>h}
 | _,_=>none
end Go.RX.Fi

namespace Go.RX.Fj
open Go.RX Go.RX.Fe Go.RX.Fg Go.RX.Fi
def makes(n:List SV→List Ck→E):bq:={use:=fun az hp=>roots hp az,inc:={a:=1,v:=1},val:=fun c=> .vv c.v,new:=fun c h=>cQ (n [] h) c h}
def cb(f:Nat):Option bq:=
 match f with
 | _=>none
def US(i a:Nat)(h:List Ck):List Ck:=
 match h[i]? with
 | some (.bu md v t s n _)=>h.set i (.bu md v t s n (cB a))
 | _=>h
def Mg(i v:Nat)(n:E)(a:Nat)(h:List Ck):List Ck:=
 match h[i]? with
 | some (.bu md _ t s _ _)=>h.set i (.bu md v t s n (cB a))
 | _=>h
def loops(f id:Nat):Option iW:=
 match f,id with
 | _,_=>none
end Go.RX.Fj

namespace Go.RX.Fk
open Go.RX Go.RX.Fe Go.RX.Fg Go.RX.Fi Go.RX.Fj
def sE:bq:={use:=fun az hp=>roots hp az,inc:={i:=1,a:=1,v:=1},val:=fun c=> .vv c.v,new:=fun c h=>cQ (.var c.i) c h}
def Sn:bq:=makes fun _ _=> .lit 8
def cb(f:Nat):Option bq:=
 match f with
 | _=>none
def loops(f id:Nat):Option iW:=
 match f,id with
 | _,_=>none
 where
 abt (i a:Nat) (h:List Ck):List Ck:=
  match h[i]? with
  | some (.bu md v t s n _)=>h.set i (.bu md v t s n [⟨.int .i64,1,.aO a⟩])
  | _=>h
end Go.RX.Fk

namespace Go.RX.Fl
open Go.RX Go.RX.Fe Go.RX.Fg Go.RX.Fi Go.RX.Fj Go.RX.Fk
def lp(hp:List Ck):SV→List Nat
 | .sl b _ _ _ _=>match findAt hp b with
  | some (j,.row _ _ cs)=>j::roots hp cs
  | _=>[]
 | .vv v=>match dH hp v with
  | some (j,.bu _ _ _ _ _ [⟨.qV l,_,_⟩])=>j::roots hp (l.map .vv)
  | _=>[]
 | _=>[]
def Pv:bq:={use:=fun az hp=>match az with | [x]=>lp hp x | _=>[],inc:={i:=1,a:=1,v:=1},val:=fun c=> .vv c.v,new:=fun c h=>cQ (.var c.i) c h}
def cb(f:Nat):Option bq:=
 match f with
 | 9=>some sE
 | 21=>some sE
 | _=>none
def loops(f id:Nat):Option iW:=
 match f,id with
 | 21,0=>some {pre:=[.own 3 5],back:=[.swap 3 0],inc:={i:=2,a:=1,v:=1},aV:=fun c=>[(0,.int .u64 (.var c.i)),(3,.vv c.v)],hp:=fun c h=>Mg 0 c.v (.var (c.i+1)) c.a h}
 | _,_=>none
 where
 Mh (g:SV→SV→List SV) (h:List Ck):List Ck:=
  match h.reverse.findIdx? (fun | .row _ true [.int .u64 _,.int .u64 _]=>true | _=>false)with
  | some i=>match h.reverse[i]? with
   | some (.row b w [x,y])=>(h.reverse.set i (.row b w (g x y))).reverse
   | _=>h
  | none=>h
 Zv (e:E) (h:List Ck):List Ck:=Mh (fun _ y=>[.int .u64 e,y]) h
 Zw (e:E) (h:List Ck):List Ck:=Mh (fun x _=>[x,.int .u64 e]) h
end Go.RX.Fl

namespace Go.RX.Fm
open Go.RX Go.RX.Fe Go.RX.Fg Go.RX.Fi Go.RX.Fj Go.RX.Fk Go.RX.Fl
def cW(a:Nat):List bS:=[⟨.int .u32,1,.aO a⟩]
def Pw(b h k:Nat):Ck:= .row b true ([.vv h,.vv k]++[4,2,13,22,6,11,25,7,18,3,17,19,10].map fun n:Int=> .int .i64 (.lit n))
def ints(k:IntKind)(i:Nat):Nat→List SV
 | 0=>[]
 | n+1=> .int k (.var i)::ints k (i+1) n
def UT(c:cG)(h:List Ck):List Ck:=
 match h[(4:Nat)]? with
 | some (.bu md v t s n _)=>h.set 4 (.bu md v t s n (cW c.a))
 | _=>h
def XH(c:cG)(h:List Ck):List Ck:=
 match h[(5:Nat)]? with
 | some (.row b wr _)=>h.set 5 (.row b wr (ints .u32 c.i 8))
 | _=>h
def kI(a:Nat)(h:List Ck):List Ck:=
 match h[(1:Nat)]? with
 | some (.bu md v t s n _)=>h.set 1 (.bu md v t s n (cW a))
 | _=>h
def XI(c:cG)(h:List Ck):List Ck:=
 match (kI c.a h)[(5:Nat)]? with
 | some (.row b wr _)=>(kI c.a h).set 5 (.row b wr [.cD .u32 8 (.aO (c.a+1))])
 | _=>h
def fA(i v:Nat)(n:E)(a:Nat)(h:List Ck):List Ck:=
 let is:=(List.range h.length).filter fun j=>match h[j]? with | some (.bu true _ 5 1 _ _)=>true | _=>false
 match is.reverse[i]? with
 | some j=>Mg j v n a h
 | none=>h
def loops(f id:Nat):Option iW:=
 match f,id with
 | 73,0=>some {inc:={i:=1,a:=1},aV:=fun c=>[(25,.int .i64 (.var c.i))],hp:=UT}
 | 73,2=>some {inc:={i:=1,a:=1},aV:=fun c=>[(6,.int .i64 (.var c.i))],hp:=UT}
 | 73,4=>some {inc:={i:=9},aV:=fun c=>[(110,.int .i64 (.var (c.i+8)))],hp:=XH}
 | 73,6=>some {inc:={i:=1,a:=2},aV:=fun c=>[(189,.int .i64 (.var c.i))],hp:=XI}
 | 61,2=>some {back:=[.cut 6 true],inc:={i:=1,a:=2,v:=1},aV:=fun c=>[(6,.vv c.v)],hp:=fun c h=>kI (c.a+1) (fA 0 c.v (.var c.i) c.a h)}
 | 61,4=>some {inc:={i:=1,a:=1,v:=1},aV:=fun c=>[(6,.vv c.v)],hp:=fun c h=>fA 0 c.v (.var c.i) c.a h}
 | 61,8=>some {back:=[.cut 6 true],inc:={i:=1,a:=2,v:=1},aV:=fun c=>[(6,.vv c.v)],hp:=fun c h=>kI (c.a+1) (fA 1 c.v (.var c.i) c.a h)}
 | 49,0=>some {inc:={i:=1,a:=1},aV:=fun c=>[(26,.int .i64 (.var c.i))],hp:=fun c h=>US (h.length - 1) c.a h}
 | 32,0=>some {pre:=[.slot 3 5],inc:={i:=2,a:=1,v:=1},aV:=fun c=>[(4,.int .i64 (.var c.i)),(3,.vv c.v)],hp:=fun c h=>fA 0 c.v (.var (c.i+1)) c.a h}
 | 20,2=>some {inc:={i:=1,a:=1},aV:=fun c=>[(51,.int .i64 (.var c.i))],hp:=fun c h=>pair c.a h}
 | 44,0=>some {inc:={i:=2},aV:=fun c=>[(14,.int .i64 (.var c.i)),(5,.int .u8 (.var (c.i+1)))],hp:=fun _ h=>h}
 | _,_=>none
 where
 pair (a:Nat) (h:List Ck):List Ck:=
  match h[(2:Nat)]? with
  | some (.row b w _)=>h.set 2 (.row b w [.cD .u64 2 (.aO a)])
  | _=>h
def sF(az:List SV)(hp:List Ck):List Nat:=
 match az with
 | .ptr b 0::r=>
  match findAt hp b with
  | some (j,.row _ _ (.vv h:: .vv k::_))=>
   match dH hp h,dH hp k with
   | some (x,_),some (y,_)=>[j,x,y]++roots hp r
   | _,_=>[]
  | _=>[]
 | _=>[]
def yj(c:cG)(h:List Ck):List Ck:=
 match h with
 | [m,.bu md v t s n _,k,r]=>[m,.bu md v t s n (cW c.a),k,r]
 | h=>h
def tV:bq:={use:=sF,inc:={a:=1},val:=fun _=> .oJ [],new:=yj}
def GD:bq:={use:=fun _ _=>[],inc:={b:=1,v:=2,a:=2},val:=fun c=> .ptr c.b 0,new:=fun c _=>[Pw c.b c.v (c.v+1),.bu true c.v 115 1 (.lit 8) (cW c.a),.bu true (c.v+1) 115 1 (.lit 64) (cW (c.a+1))]}
def yl:bq:={use:=fun az hp=>match az with | [m,x]=>sF [m] hp++lp hp x | _=>[],inc:={a:=1,v:=1},val:=fun c=> .vv c.v,new:=fun c h=>cQ (.lit 32) c (h.drop 3)}
def sum256:bq:={use:=fun az hp=>match az with | [x]=>lp hp x | _=>[],inc:={a:=1},val:=fun c=> .agg [.cD .u8 32 (.aO c.a)],new:=fun _ h=>h}
def Mi:bq:={use:=fun az hp=>match az with | [_,x]=>lp hp x | _=>[],inc:={i:=1,a:=1,v:=1},val:=fun c=> .vv c.v,new:=fun c h=>cQ (.var c.i) c h}
def So:bq:={use:=fun _ _=>[],inc:={i:=1,a:=1,v:=1},val:=fun c=> .vv c.v,new:=fun c h=>cQ (.var c.i) c h}
def ym:bq:={use:=fun az hp=>roots hp az,inc:={i:=1,a:=1,v:=1},val:=fun c=> .vv c.v,new:=fun c h=>cQ (.var c.i) c h}
def Px:bq:={use:=fun az hp=>match az with | [_,k,x]=>roots hp [k]++(lp hp x).filter (fun i=> !(roots hp [k]).contains i) | _=>[],inc:={i:=1,a:=1,v:=1},val:=fun c=> .vv c.v,new:=fun c h=>cQ (.var c.i) c h}
def Sp:bq:={use:=fun _ _=>[],inc:={i:=6},val:=fun c=> .oJ [.agg [.int .u8 (.var c.i),.int .i64 (.var (c.i+1)),.int .i64 (.var (c.i+2)),.int .i64 (.var (c.i+3)),.int .i64 (.var (c.i+4))],.int .i64 (.var (c.i+5))],new:=fun _ h=>h}
def JW:bq:={use:=fun _ _=>[],inc:={a:=1},val:=fun c=> .agg [.cD .u8 12 (.aO c.a)],new:=fun _ h=>h}
def JX:bq:={use:=fun az hp=>roots hp az,inc:={i:=4},val:=fun c=> .oJ [.agg [.int .u64 (.var c.i),.int .u64 (.var (c.i+1))],.int .i64 (.var (c.i+2)),.int .i64 (.var (c.i+3))],new:=fun _ h=>h}
def Es(u:List SV→List Ck→List Nat):bq:={use:=u,inc:={i:=2,a:=1,v:=1},val:=fun c=> .oJ [.vv c.v,.int .i64 (.var (c.i+1))],new:=fun c h=>cQ (.var c.i) c h}
def Mj:bq:={use:=fun az hp=>roots hp az,inc:={i:=1,b:=1,v:=1,a:=2},val:=fun c=> .oJ [.ptr c.b 0,.int .i64 (.lit 0)],new:=fun c h=>h++[.row c.b true [.cD .u8 256 (.aO c.a),.vv c.v],.bu true c.v 73 4 (.var c.i) (w4 (c.a+1))]}
def JY:bq:={use:=H8,inc:={i:=1,a:=1,v:=1},val:=fun c=> .oJ [.vv c.v,.int .i64 (.lit 0)],new:=fun c h=>cQ (.var c.i) c h}
def cb(f:Nat):Option bq:=
 match f with
 | 73=>some tV
 | 60=>some GD
 | 61=>some yl
 | 54=>some sum256
 | 48=>some Mi
 | 65=>some So
 | 57=>some ym
 | 49=>some ym
 | 31=>some Px
 | 5=>some Sp
 | 35=>some JW
 | 20=>some JX
 | 32=>some sE
 | 17=>some sE
 | 19=>some Pv
 | 41=>some Sn
 | 44=>some Er
 | 10=>some Mj
 | 39=>some JY
 | 34=>some (Es fun az hp=>roots hp az)
 | 37=>some (Es fun az hp=>roots hp az)
 | _=>none
end Go.RX.Fm

namespace Go.RX.Fq
open Go.RX Go.RX.Fe Go.RX.Fg Go.RX.Fi Go.RX.Fj Go.RX.Fk Go.RX.Fl
def dW(a:Nat):List bS:=[⟨.int .u64,1,.aO a⟩]
def Py(b h k:Nat):Ck:= .row b true ([.vv h,.vv k]++[8,28,34,39,14,18,41,1,8,7,19,61,6].map fun n:Int=> .int .i64 (.lit n))
def UT(c:cG)(h:List Ck):List Ck:=
 match h[(4:Nat)]? with
 | some (.bu md v t s n _)=>h.set 4 (.bu md v t s n (dW c.a))
 | _=>h
def XH(c:cG)(h:List Ck):List Ck:=
 match h[(5:Nat)]? with
 | some (.row b wr _)=>h.set 5 (.row b wr (Fm.ints .u64 c.i 8))
 | _=>h
def kI(a:Nat)(h:List Ck):List Ck:=
 match h[(1:Nat)]? with
 | some (.bu md v t s n _)=>h.set 1 (.bu md v t s n (dW a))
 | _=>h
def XI(c:cG)(h:List Ck):List Ck:=
 match (kI c.a h)[(5:Nat)]? with
 | some (.row b wr _)=>(kI c.a h).set 5 (.row b wr [.cD .u64 8 (.aO (c.a+1))])
 | _=>h
def loops(f id:Nat):Option iW:=
 match f,id with
 | 74,0=>some {inc:={i:=1,a:=1},aV:=fun c=>[(25,.int .i64 (.var c.i))],hp:=UT}
 | 74,2=>some {inc:={i:=1,a:=1},aV:=fun c=>[(6,.int .i64 (.var c.i))],hp:=UT}
 | 74,4=>some {inc:={i:=9},aV:=fun c=>[(110,.int .i64 (.var (c.i+8)))],hp:=XH}
 | 74,6=>some {inc:={i:=1,a:=2},aV:=fun c=>[(189,.int .i64 (.var c.i))],hp:=XI}
 | 63,2=>some {back:=[.cut 6 true],inc:={i:=1,a:=2,v:=1},aV:=fun c=>[(6,.vv c.v)],hp:=fun c h=>kI (c.a+1) (Fm.fA 0 c.v (.var c.i) c.a h)}
 | 63,4=>some {inc:={i:=1,a:=1,v:=1},aV:=fun c=>[(6,.vv c.v)],hp:=fun c h=>Fm.fA 0 c.v (.var c.i) c.a h}
 | 63,8=>some {back:=[.cut 6 true],inc:={i:=1,a:=2,v:=1},aV:=fun c=>[(6,.vv c.v)],hp:=fun c h=>kI (c.a+1) (Fm.fA 1 c.v (.var c.i) c.a h)}
 | 14,0=>some {back:=[.swap 11 3],pre:=[.slot 10 5,.slot 11 5],inc:={i:=3,a:=2,v:=2},aV:=fun c=>[(12,.int .i64 (.var c.i)),(10,.vv c.v),(11,.vv (c.v+1))],hp:=fun c h=>Fm.fA 1 c.v (.var (c.i+1)) c.a (Fm.fA 0 (c.v+1) (.var (c.i+2)) (c.a+1) h)}
 | 15,0=>some {inc:={i:=2,a:=1,v:=1},aV:=fun c=>[(8,.int .i64 (.var c.i)),(7,.vv c.v)],hp:=fun c h=>Fm.fA 0 c.v (.var (c.i+1)) c.a h}
 | f,id=>Fm.loops f id
def yj(c:cG)(h:List Ck):List Ck:=
 match h with
 | [m,.bu md v t s n _,k,r]=>[m,.bu md v t s n (dW c.a),k,r]
 | h=>h
def tV:bq:={use:=Fm.sF,inc:={a:=1},val:=fun _=> .oJ [],new:=yj}
def Mk:bq:={use:=fun _ _=>[],inc:={b:=1,v:=2,a:=2},val:=fun c=> .ptr c.b 0,new:=fun c _=>[Py c.b c.v (c.v+1),.bu true c.v 24 1 (.lit 8) (dW c.a),.bu true (c.v+1) 24 1 (.lit 80) (dW (c.a+1))]}
def yl:bq:={use:=fun az hp=>match az with | [m,x]=>Fm.sF [m] hp++lp hp x | _=>[],inc:={a:=1,v:=1},val:=fun c=> .vv c.v,new:=fun c h=>cQ (.lit 64) c (h.drop 3)}
def Sq:bq:={use:=fun az hp=>match az with | [x]=>lp hp x | _=>[],inc:={a:=1},val:=fun c=> .agg [.cD .u8 64 (.aO c.a)],new:=fun _ h=>h}
def makes(u:List SV→List Ck→List Nat):bq:={use:=u,inc:={i:=1,a:=1,v:=1},val:=fun c=> .vv c.v,new:=fun c h=>cQ (.var c.i) c h}
def GF:bq:={use:=fun az hp=>roots hp az,inc:={i:=1,a:=1,v:=1},val:=fun c=> .oJ [.vv c.v,.int .i64 (.lit 0)],new:=fun c h=>cQ (.var c.i) c h}
def GG:bq:={use:=fun az hp=>roots hp az,inc:={i:=7,a:=1,v:=1},val:=fun c=> .oJ [.agg [.int .u8 (.var c.i),.int .i64 (.var (c.i+1)),.int .i64 (.var (c.i+2)),.int .i64 (.var (c.i+3)),.int .i64 (.var (c.i+4))],.vv c.v,.int .i64 (.var (c.i+5))],new:=fun c h=>cQ (.var (c.i+6)) c h}
def calls(f d:Nat):Option bq:=
 match f,d with
 | 6,48=>some {use:=fun az hp=>roots hp az,inc:={a:=1,v:=1},val:=fun c=> .oJ [.vv c.v,.int .i64 (.lit 0)],new:=fun c h=>cQ (.lit 12) c h}
 | _,_=>none
def cb(f:Nat):Option bq:=
 match f with
 | 74=>some tV
 | 62=>some Mk
 | 63=>some yl
 | 55=>some Sq
 | 29=>some (makes fun az hp=>roots hp az)
 | 15=>some (makes fun _ _=>[])
 | 14=>some GF
 | 13=>some GG
 | f=>Fm.cb f
end Go.RX.Fq

namespace Go.RX.Ft
open Go.RX Go.RX.Fe Go.RX.Fg Go.RX.Fi Go.RX.Fj Go.RX.Fk Go.RX.Fl
def Ml(az:List SV):List SV:=
 match az with
 | .agg [_,_,k,_]::r=>k::r
 | _=>az
def pq:bq:={use:=fun az hp=>roots hp (Ml az),inc:={i:=2,a:=1,v:=1},val:=fun c=> .oJ [.vv c.v,.int .i64 (.var (c.i+1))],new:=fun c h=>cQ (.var c.i) c h}
def Mm:bq:={use:=fun az hp=>roots hp (Ml az),inc:={i:=3,a:=1,v:=1},val:=fun c=> .oJ [.vv c.v,.int .u64 (.var (c.i+1)),.int .i64 (.var (c.i+2))],new:=fun c h=>cQ (.var c.i) c h}
def GH:bq:={use:=fun az hp=>roots hp az,inc:={i:=4,a:=2,v:=1},val:=fun c=> .oJ [.agg [.int .u16 (.var c.i),.int .u64 (.var (c.i+1)),.vv c.v,.cD .u8 12 (.aO (c.a+1))],.int .i64 (.var (c.i+2))],new:=fun c h=>cQ (.var (c.i+3)) c h}
def Mn:bq:={use:=fun az hp=>roots hp az,inc:={},val:=fun _=> .oJ [.iK,.int .i64 (.lit 2)],new:=fun _ h=>h}
def cb(f:Nat):Option bq:=
 match f with
 | 7=>some pq
 | 8=>some Mm
 | 6=>some GH
 | 9=>some {use:=fun _ _=>[],inc:={i:=1,a:=1,v:=1},val:=fun c=> .vv c.v,new:=fun c h=>cQ (.var c.i) c h}
 | 11=>some Fg.pq
 | 4=>some {use:=fun _ _=>[],inc:={},val:=fun _=> .bool (.lit true),new:=fun _ h=>h}
 | f=>Fm.cb f
def Mo(f:Nat):Option bq:=
 match f with
 | 10=>some Mn
 | f=>cb f
def loops(_ _:Nat):Option iW:=none
open Go.RX Go.Proofs Go.RX.Fe Go.RX.Fg Go.RX.Fi Go.RX.Fj Go.RX.Fk Go.RX.Fl
noncomputable def cx:Ctx:={T:=TT,FT:=FT,loops:=Ft.loops,cb:=Ft.cb}
set_option maxRecDepth 100000
noncomputable def cxN:Ctx:={T:=TT,FT:=FT,loops:=Ft.loops,cb:=Ft.Mo}
def Et(ax:PT):Prop:=
 ∀(v0:V1) (_ b1:Nat),Cl 7 [.agg (.int .u16 4::(.int .u64 5::(v0.v::(ads (aj .u8 12 (fun _=>0)) ([]))))).toArray,.int .u64 7,.slice none 0 0,.slice (some ⟨b1,0,none⟩) 3 3] [bn true v0 16 (fun _=>0),aq b1 false ([.int .u8 97,.int .u8 98,.int .u8 99])] fun x hs l=> ∃(v1:V1) (x0 x1:Int) (A0:Nat→Int),x= .tuple #[v1.v,.int .i64 x1]∧hs=l++[bo v1 x0 A0]∧
 ∀(v2:V1) (_:Nat),Cl 7 [.agg (.int .u16 3::(.int .u64 8::(v2.v::(ads (aj .u8 12 (fun _=>0)) ([]))))).toArray,.int .u64 300,.slice none 0 0,.slice none 0 0] [bn true v2 48 (fun _=>0)] fun x hs l=> ∃(v3:V1) (x2 x3:Int) (A1:Nat→Int),x= .tuple #[v3.v,.int .i64 x3]∧hs=l++[bo v3 x2 A1]∧
 aw (0≤x0) (
 aw ((¬(x0=20))∨(0<x0)) (
 aw ((¬(x0=20))∨(0<x0)) (
 aw ((((¬(x0=20))∨(¬((A0 0)=87)))∨(¬(x1=0)))∨(0≤x2)) (
 aZ (((((¬(x0=20))∨(¬((A0 0)=87)))∨(¬(x1=0)))∨(¬(x2=8)))∨(¬(x3=0))) (
 ax (.bool false) []) (
 Cl 8 [.agg (.int .u16 3::(.int .u64 8::(v2.v::(ads (aj .u8 12 (fun _=>0)) ([]))))).toArray,.slice none 0 0,v3.v] [bn true v2 48 (fun _=>0),bo v3 x2 A1] fun x hs l=> ∃(v4:V1) (x4 x5 x6:Int) (A2:Nat→Int),x= .tuple #[v4.v,.int .u64 x5,.int .i64 x6]∧hs=l++[bo v4 x4 A2]∧
 Cl 8 [.agg (.int .u16 3::(.int .u64 9::(v2.v::(ads (aj .u8 12 (fun _=>0)) ([]))))).toArray,.slice none 0 0,v3.v] [bn true v2 48 (fun _=>0),bo v3 x2 A1] fun x hs l=> ∃(v5:V1) (x7 x8 x9:Int) (A3:Nat→Int),x= .tuple #[v5.v,.int .u64 x8,.int .i64 x9]∧hs=l++[bo v5 x7 A3]∧
 ax (.bool (((x5==300)&&(x6==0))&&(x9==4))) [])))))
theorem Mp(ax:PT)(h:Et ax):ar adE 4 [] [] ax:=
 NU (C:=Ft.cx) [] [] ⟨0,0,0,0,0,0,0⟩ ⟨[],[],[],[],[],[],[],[]⟩ Try.func4 (by kernel_rfl) h
def Eu(ax:PT)(_:Nat→Int)(_:V1):Prop:=
 ax (.tuple #[.pointer none,.int .i64 2]) []
theorem Mq(ax:PT)(A0:Nat→Int)(v0:V1)(h:Eu ax A0 v0):ar adE 10 [v0.v] [bn false v0 48 A0] ax:=
 NU (C:=Ft.cx) [.vv 0] [.bu false 0 5 1 (.lit 48) [⟨.int .u8,1,.aO 0⟩]] ⟨0,1,0,1,0,0,0⟩ ⟨[],[A0],[],[],[v0],[],[],[]⟩ Try.func10 (by kernel_rfl) h
def H9(ax:PT)(x0 x1 x2 x3 x4 x5 x6:Int)(A0 A1 A2:Nat→Int)(v0 v1 v2:V1):Prop:=
 Cl 4 [] [] fun x hs _=>x= .bool true∧hs=[]∧
 Cl 5 [.int .u16 x6] [] fun x hs _=> ∃x7 x8 x9 eK ib ic:Int,x= .tuple #[.agg #[.int .u8 x7,.int .i64 x8,.int .i64 x9,.int .i64 eK,.int .i64 ib],.int .i64 ic]∧hs=[]∧
 ∀_:Nat,Cl 6 [.int .u16 x6,v0.v,.int .u64 x0] [bi v0 x3 A0] fun x hs l=> ∃(v3:V1) (cU mb ji oI:Int) (A3 A4:Nat→Int),x= .tuple #[.agg (.int .u16 cU::(.int .u64 mb::(v3.v::(ads (aj .u8 12 A4) ([]))))).toArray,.int .i64 ji]∧hs=l++[bo v3 oI A3]∧
 ∀_:Nat,aw (((¬(ic=0))∨(¬(ji=0)))∨(0≤x3)) (
 aw ((((¬(ic=0))∨(¬(ji=0)))∨(1000<x3))∨(0≤x4)) (
 aw (((((¬(ic=0))∨(¬(ji=0)))∨(1000<x3))∨(300<x4))∨(0≤x5)) (
 aZ ((((((¬(ic=0))∨(¬(ji=0)))∨(1000<x3))∨(300<x4))∨(400<x5))∨(x2<0)) (
 ax (.bool true) []) (
 Cl 7 [.agg (.int .u16 cU::(.int .u64 mb::(v3.v::(ads (aj .u8 12 A4) ([]))))).toArray,.int .u64 x1,v1.v,v2.v] [bo v3 oI A3,bi v1 x4 A1,bi v2 x5 A2] fun x hs l=> ∃(v4:V1) (jN wZ:Int) (A5:Nat→Int),x= .tuple #[v4.v,.int .i64 wZ]∧hs=l++[bo v4 jN A5]∧
 Cl 8 [.agg (.int .u16 cU::(.int .u64 mb::(v3.v::(ads (aj .u8 12 A4) ([]))))).toArray,v1.v,v4.v] [bo v3 oI A3,bi v1 x4 A1,bo v4 jN A5] fun x hs l=> ∃(v5:V1) (Ev Ew Ex:Int) (A6:Nat→Int),x= .tuple #[v5.v,.int .u64 Ew,.int .i64 Ex]∧hs=l++[bo v5 Ev A6]∧
 Cl 9 [.agg #[.int .u64 x0,.int .u64 x1]] [] fun x hs _=> ∃(v6:V1) (nY:Int) (A7:Nat→Int),x=v6.v∧hs=[bo v6 nY A7]∧
 aw (0≤nY) (
 aw (((((¬(wZ=0))∨(¬(Ex=0)))∨(¬(Ew=x1)))∨(¬(bZ (fX A6 Ev)=bZ (fX A2 x5))))∨(0≤jN)) (
 aw (((((¬(wZ=0))∨(¬(Ex=0)))∨(¬(Ew=x1)))∨(¬(bZ (fX A6 Ev)=bZ (fX A2 x5))))∨(0≤x5)) (
 aw (((((¬(wZ=0))∨(¬(Ex=0)))∨(¬(Ew=x1)))∨(¬(bZ (fX A6 Ev)=bZ (fX A2 x5))))∨((-9223372036854775808)≤(nY+x5))) (
 aw (((((¬(wZ=0))∨(¬(Ex=0)))∨(¬(Ew=x1)))∨(¬(bZ (fX A6 Ev)=bZ (fX A2 x5))))∨((nY+x5)≤9223372036854775807)) (
 aw (((((¬(wZ=0))∨(¬(Ex=0)))∨(¬(Ew=x1)))∨(¬(bZ (fX A6 Ev)=bZ (fX A2 x5))))∨((-9223372036854775808)≤((nY+x5)+eK))) (
 aw (((((¬(wZ=0))∨(¬(Ex=0)))∨(¬(Ew=x1)))∨(¬(bZ (fX A6 Ev)=bZ (fX A2 x5))))∨(((nY+x5)+eK)≤9223372036854775807)) (
 aZ (((((¬(wZ=0))∨(¬(Ex=0)))∨(¬(Ew=x1)))∨(¬(bZ (fX A6 Ev)=bZ (fX A2 x5))))∨(¬(jN=((nY+x5)+eK)))) (
 ax (.bool false) []) (
 Cl 10 [v3.v] [bo v3 oI A3] fun x hs l=> ∃(b2:Nat) (v7:V1) (Q7:Int) (A8 A9:Nat→Int),x= .tuple #[.pointer (some ⟨b2,0,none⟩),.int .i64 0]∧hs=l++[aq b2 true (ads (aj .u8 256 A8) ([v7.v])),au true 73 4 v7.v (ag Q7) (aK (ag Q7) [aJ .u8 4 A9])]∧
 aZ (x8=x9) (
 Cl 11 [.pointer (some ⟨b2,0,none⟩),.agg (ads (aj .u8 16 (fun _=>0)) ([])).toArray] [aq b2 true (ads (aj .u8 256 A8) ([v7.v])),au true 73 4 v7.v (ag Q7) (aK (ag Q7) [aJ .u8 4 A9])] fun x hs l=> ∃br:(Nat→Int),x= .agg (ads (aj .u8 16 br) ([])).toArray∧hs=l∧
 aZ (∀j,j<16→br j=(fun _=>0) j) (
 ax (.bool true) []) (
 ∀_:V1,aw (0≤jN) (
 aw (0≤jN) (
 fx jN (
 ∀v9:V1,eJ (jN - nY) ((
 aw ((jN - nY)≠0) (
 eJ (nY+(ak .rem .i64 (ae .i64 (ak .quo .i64 x2 8)) (jN - nY))) ((
 aw (0≤(nY+(ak .rem .i64 (ae .i64 (ak .quo .i64 x2 8)) (jN - nY)))) (
 aw ((nY+(ak .rem .i64 (ae .i64 (ak .quo .i64 x2 8)) (jN - nY)))<jN) (
 aw (0≤(ak .rem .i64 x2 8)) (
 Cl 8 [.agg (.int .u16 cU::(.int .u64 mb::(v3.v::(ads (aj .u8 12 A4) ([]))))).toArray,v1.v,v9.v] [bo v3 oI A3,bi v1 x4 A1,bo v9 jN (ao A5 (ag (nY+(ak .rem .i64 (ae .i64 (ak .quo .i64 x2 8)) (jN - nY)))) (ak .aD .u8 (A5 (ag (nY+(ak .rem .i64 (ae .i64 (ak .quo .i64 x2 8)) (jN - nY))))) (ak .shl .u8 1 (ak .rem .i64 x2 8))))] fun x hs l=> ∃(v10:V1) (UU UW UX:Int) (jM:Nat→Int),x= .tuple #[v10.v,.int .u64 UW,.int .i64 UX]∧hs=l++[bo v10 UU jM]∧
 aw ((¬(UX=140))∨(0≤UU)) (
 aZ ((¬(UX=140))∨(0<UU)) (
 ax (.bool false) []) (
 aw (0≤x4) (
 aZ (x4=0) (
 ax (.bool true) []) (
 ∀_:V1,fx x4 (
 ∀gI:V1,aw (x4≠0) (
 aw (0≤(ak .rem .i64 (ae .i64 (ak .quo .i64 x2 8)) x4)) (
 aw ((ak .rem .i64 (ae .i64 (ak .quo .i64 x2 8)) x4)<x4) (
 Cl 8 [.agg (.int .u16 cU::(.int .u64 mb::(v3.v::(ads (aj .u8 12 A4) ([]))))).toArray,gI.v,v4.v] [bo v3 oI A3,bo gI x4 (ao A1 (ag (ak .rem .i64 (ae .i64 (ak .quo .i64 x2 8)) x4)) (ak .aD .u8 (A1 (ag (ak .rem .i64 (ae .i64 (ak .quo .i64 x2 8)) x4))) (ak .shl .u8 1 (ak .rem .i64 x2 8)))),bo v4 jN A5] fun x hs l=> ∃(jm:V1) (XJ Wu Zx:Int) (lG:Nat→Int),x= .tuple #[jm.v,.int .u64 Wu,.int .i64 Zx]∧hs=l++[bo jm XJ lG]∧
 ax (.bool (Zx==140)) []))))))))))))))))))))) (
 ax (.bool true) [])))))))))))))
theorem Pz(ax:PT)(x0 x1 x2 x3 x4 x5 x6:Int)(A0 A1 A2:Nat→Int)(v0 v1 v2:V1)(h:H9 ax x0 x1 x2 x3 x4 x5 x6 A0 A1 A2 v0 v1 v2):ar adE 3 [.int .u16 x6,v0.v,.int .u64 x0,.int .u64 x1,v1.v,v2.v,.int .i64 x2] [bi v0 x3 A0,bi v1 x4 A1,bi v2 x5 A2] ax:=
 NU (C:=Ft.cx) [.int .u16 (.var 6),.vv 0,.int .u64 (.var 0),.int .u64 (.var 1),.vv 1,.vv 2,.int .i64 (.var 2)] [.bu false 0 5 1 (.var 3) [⟨.int .u8,1,.aO 0⟩],.bu false 1 5 1 (.var 4) [⟨.int .u8,1,.aO 1⟩],.bu false 2 5 1 (.var 5) [⟨.int .u8,1,.aO 2⟩]] ⟨0,3,7,3,0,0,0⟩ ⟨[x0,x1,x2,x3,x4,x5,x6],[A0,A1,A2],[],[],[v0,v1,v2],[],[],[]⟩ Try.func3 (by kernel_rfl) h
def H_(ax:PT)(x0 x1 x2 x3 x4 x5 x6:Int)(A0 A1 A2:Nat→Int)(v0 v1 v2:V1):Prop:=
 Cl 4 [] [] fun x hs _=>x= .bool true∧hs=[]∧
 Cl 5 [.int .u16 x6] [] fun x hs _=> ∃x7 x8 x9 eK ib ic:Int,x= .tuple #[.agg #[.int .u8 x7,.int .i64 x8,.int .i64 x9,.int .i64 eK,.int .i64 ib],.int .i64 ic]∧hs=[]∧
 ∀_:Nat,Cl 6 [.int .u16 x6,v0.v,.int .u64 x0] [bi v0 x3 A0] fun x hs l=> ∃(v3:V1) (cU mb ji oI:Int) (A3 A4:Nat→Int),x= .tuple #[.agg (.int .u16 cU::(.int .u64 mb::(v3.v::(ads (aj .u8 12 A4) ([]))))).toArray,.int .i64 ji]∧hs=l++[bo v3 oI A3]∧
 ∀_:Nat,aw (((¬(ic=0))∨(¬(ji=0)))∨(0≤x3)) (
 aw ((((¬(ic=0))∨(¬(ji=0)))∨(1000<x3))∨(0≤x4)) (
 aw (((((¬(ic=0))∨(¬(ji=0)))∨(1000<x3))∨(300<x4))∨(0≤x5)) (
 aZ ((((((¬(ic=0))∨(¬(ji=0)))∨(1000<x3))∨(300<x4))∨(400<x5))∨(x2<0)) (
 ax (.bool true) []) (
 Cl 7 [.agg (.int .u16 cU::(.int .u64 mb::(v3.v::(ads (aj .u8 12 A4) ([]))))).toArray,.int .u64 x1,v1.v,v2.v] [bo v3 oI A3,bi v1 x4 A1,bi v2 x5 A2] fun x hs l=> ∃(v4:V1) (jN wZ:Int) (A5:Nat→Int),x= .tuple #[v4.v,.int .i64 wZ]∧hs=l++[bo v4 jN A5]∧
 Cl 8 [.agg (.int .u16 cU::(.int .u64 mb::(v3.v::(ads (aj .u8 12 A4) ([]))))).toArray,v1.v,v4.v] [bo v3 oI A3,bi v1 x4 A1,bo v4 jN A5] fun x hs l=> ∃(v5:V1) (Ev Ew Ex:Int) (A6:Nat→Int),x= .tuple #[v5.v,.int .u64 Ew,.int .i64 Ex]∧hs=l++[bo v5 Ev A6]∧
 Cl 9 [.agg #[.int .u64 x0,.int .u64 x1]] [] fun x hs _=> ∃(v6:V1) (nY:Int) (A7:Nat→Int),x=v6.v∧hs=[bo v6 nY A7]∧
 aw (0≤nY) (
 aw (((((¬(wZ=0))∨(¬(Ex=0)))∨(¬(Ew=x1)))∨(¬(bZ (fX A6 Ev)=bZ (fX A2 x5))))∨(0≤jN)) (
 aw (((((¬(wZ=0))∨(¬(Ex=0)))∨(¬(Ew=x1)))∨(¬(bZ (fX A6 Ev)=bZ (fX A2 x5))))∨(0≤x5)) (
 aw (((((¬(wZ=0))∨(¬(Ex=0)))∨(¬(Ew=x1)))∨(¬(bZ (fX A6 Ev)=bZ (fX A2 x5))))∨((-9223372036854775808)≤(nY+x5))) (
 aw (((((¬(wZ=0))∨(¬(Ex=0)))∨(¬(Ew=x1)))∨(¬(bZ (fX A6 Ev)=bZ (fX A2 x5))))∨((nY+x5)≤9223372036854775807)) (
 aw (((((¬(wZ=0))∨(¬(Ex=0)))∨(¬(Ew=x1)))∨(¬(bZ (fX A6 Ev)=bZ (fX A2 x5))))∨((-9223372036854775808)≤((nY+x5)+eK))) (
 aw (((((¬(wZ=0))∨(¬(Ex=0)))∨(¬(Ew=x1)))∨(¬(bZ (fX A6 Ev)=bZ (fX A2 x5))))∨(((nY+x5)+eK)≤9223372036854775807)) (
 aZ (((((¬(wZ=0))∨(¬(Ex=0)))∨(¬(Ew=x1)))∨(¬(bZ (fX A6 Ev)=bZ (fX A2 x5))))∨(¬(jN=((nY+x5)+eK)))) (
 ax (.bool false) []) (
 Cl 10 [v3.v] [bo v3 oI A3] fun x hs l=>x= .tuple #[.pointer none,.int .i64 2]∧hs=l∧
 aZ (¬((¬(x8=x9))∨(true=true))) (
 Cl 11 [.pointer none,.agg (ads (aj .u8 16 (fun _=>0)) ([])).toArray] [] fun x hs _=> ∃A8:(Nat→Int),x= .agg (ads (aj .u8 16 A8) ([])).toArray∧hs=[]∧
 aZ (∀j,j<16→A8 j=(fun _=>0) j) (
 ax (.bool true) []) (
 ∀_:V1,aw (0≤jN) (
 aw (0≤jN) (
 fx jN (
 ∀v8:V1,eJ (jN - nY) ((
 aw ((jN - nY)≠0) (
 eJ (nY+(ak .rem .i64 (ae .i64 (ak .quo .i64 x2 8)) (jN - nY))) ((
 aw (0≤(nY+(ak .rem .i64 (ae .i64 (ak .quo .i64 x2 8)) (jN - nY)))) (
 aw ((nY+(ak .rem .i64 (ae .i64 (ak .quo .i64 x2 8)) (jN - nY)))<jN) (
 aw (0≤(ak .rem .i64 x2 8)) (
 Cl 8 [.agg (.int .u16 cU::(.int .u64 mb::(v3.v::(ads (aj .u8 12 A4) ([]))))).toArray,v1.v,v8.v] [bo v3 oI A3,bi v1 x4 A1,bo v8 jN (ao A5 (ag (nY+(ak .rem .i64 (ae .i64 (ak .quo .i64 x2 8)) (jN - nY)))) (ak .aD .u8 (A5 (ag (nY+(ak .rem .i64 (ae .i64 (ak .quo .i64 x2 8)) (jN - nY))))) (ak .shl .u8 1 (ak .rem .i64 x2 8))))] fun x hs l=> ∃(v9:V1) (Q7 UU UW:Int) (A9:Nat→Int),x= .tuple #[v9.v,.int .u64 UU,.int .i64 UW]∧hs=l++[bo v9 Q7 A9]∧
 aw ((¬(UW=140))∨(0≤Q7)) (
 aZ ((¬(UW=140))∨(0<Q7)) (
 ax (.bool false) []) (
 aw (0≤x4) (
 aZ (x4=0) (
 ax (.bool true) []) (
 ∀_:V1,fx x4 (
 ∀v11:V1,aw (x4≠0) (
 aw (0≤(ak .rem .i64 (ae .i64 (ak .quo .i64 x2 8)) x4)) (
 aw ((ak .rem .i64 (ae .i64 (ak .quo .i64 x2 8)) x4)<x4) (
 Cl 8 [.agg (.int .u16 cU::(.int .u64 mb::(v3.v::(ads (aj .u8 12 A4) ([]))))).toArray,v11.v,v4.v] [bo v3 oI A3,bo v11 x4 (ao A1 (ag (ak .rem .i64 (ae .i64 (ak .quo .i64 x2 8)) x4)) (ak .aD .u8 (A1 (ag (ak .rem .i64 (ae .i64 (ak .quo .i64 x2 8)) x4))) (ak .shl .u8 1 (ak .rem .i64 x2 8)))),bo v4 jN A5] fun x hs l=> ∃(gI:V1) (UX XJ Wu:Int) (br:Nat→Int),x= .tuple #[gI.v,.int .u64 XJ,.int .i64 Wu]∧hs=l++[bo gI UX br]∧
 ax (.bool (Wu==140)) []))))))))))))))))))))) (
 ax (.bool true) [])))))))))))))
theorem PA(ax:PT)(x0 x1 x2 x3 x4 x5 x6:Int)(A0 A1 A2:Nat→Int)(v0 v1 v2:V1)(h:H_ ax x0 x1 x2 x3 x4 x5 x6 A0 A1 A2 v0 v1 v2):ar adE 3 [.int .u16 x6,v0.v,.int .u64 x0,.int .u64 x1,v1.v,v2.v,.int .i64 x2] [bi v0 x3 A0,bi v1 x4 A1,bi v2 x5 A2] ax:=
 NU (C:=Ft.cxN) [.int .u16 (.var 6),.vv 0,.int .u64 (.var 0),.int .u64 (.var 1),.vv 1,.vv 2,.int .i64 (.var 2)] [.bu false 0 5 1 (.var 3) [⟨.int .u8,1,.aO 0⟩],.bu false 1 5 1 (.var 4) [⟨.int .u8,1,.aO 1⟩],.bu false 2 5 1 (.var 5) [⟨.int .u8,1,.aO 2⟩]] ⟨0,3,7,3,0,0,0⟩ ⟨[x0,x1,x2,x3,x4,x5,x6],[A0,A1,A2],[],[],[v0,v1,v2],[],[],[]⟩ Try.func3 (by kernel_rfl) h
end Go.RX.Ft

namespace Go.RX.Fq
open Go.RX Go.Proofs
noncomputable def cx:Ctx:={T:=TT,FT:=FT,loops:=Fq.loops,cb:=Fq.cb,calls:=Fq.calls}
end Go.RX.Fq
