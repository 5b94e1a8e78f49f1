/- What a printed formula is to a function's contract. -/
import Derived.Test.YtmgbbbmdbpbeeaaGreatM23
open Go.Proofs.Tryz renaming prog → ae0
open List renaming append → aeU
namespace Go.RX
open Go.Proofs
section
variable {C:Ctx} {f:Nat} {fd:Func} (args:List SV) (hp:List Ck) (bd:cP) (ρ:Env) {ar:Value→List HP→Prop} {s:Prop}
theorem FJ(hf:Tryz.prog.funcs[f]? =some fd)(hv:VC ae0 (fun v _=>ar v []) (iq C f args hp bd fd) ρ (fun _=>LC.none)=s)(h:s)(hT:bG ae0 C.T=true:=by exact FE)(Az:aX ae0 C.FT:=by exact qz)(hl:fJ ρ bd:=by constructor<;>rfl)
  (Ea:fZ ae0 C:=by exact fZ.none rfl):aw ae0 f (SV.vals ρ args) (hp.map (Ck.den ρ)) ar:=
 aw.post (aw.kJ (C:=C) hT Az FF hf hl rfl hv h Ea) fun _ hs hq=>⟨_,bX.sub (List.nil_sublist hs),hq⟩
theorem mK(k m:Nat)(hf:Tryz.prog.funcs[f]? =some fd)(hv:VC ae0 (fun v hs=>ar v (ends k m hs)) (iq C f args hp bd fd) ρ (fun _=>LC.none)=s)(h:s)(hT:bG ae0 C.T=true:=by exact FE)(Az:aX ae0 C.FT:=by exact qz)(hl:fJ ρ bd:=by constructor<;>rfl)
  (Ea:fZ ae0 C:=by exact fZ.none rfl):aw ae0 f (SV.vals ρ args) (hp.map (Ck.den ρ)) ar:=
 aw.post (aw.kJ (C:=C) hT Az FF hf hl rfl hv h Ea) fun _ hs hq=>⟨_,bX.sub (MQ k m hs),hq⟩
theorem Rv(k:Nat)(hf:Tryz.prog.funcs[f]? =some fd)(hv:VC ae0 (fun v hs=>ar v (hs.take k)) (iq C f args hp bd fd) ρ (fun _=>LC.none)=s)(h:s)(hT:bG ae0 C.T=true:=by exact FE)(Az:aX ae0 C.FT:=by exact qz)(hl:fJ ρ bd:=by constructor<;>rfl)
  (Ea:fZ ae0 C:=by exact fZ.none rfl):aw ae0 f (SV.vals ρ args) (hp.map (Ck.den ρ)) ar:=
 aw.post (aw.kJ (C:=C) hT Az FF hf hl rfl hv h Ea) fun _ hs hq=>⟨_,bX.sub (List.take_sublist k hs),hq⟩
theorem Ls(hf:Tryz.prog.funcs[f]? =some fd)(hv:VC ae0 ar (iq C f args hp bd fd) ρ (fun _=>LC.none)=s)(h:s)(hT:bG ae0 C.T=true:=by exact FE)(Az:aX ae0 C.FT:=by exact qz)(hl:fJ ρ bd:=by constructor<;>rfl)
  (Ea:fZ ae0 C:=by exact fZ.none rfl):aw ae0 f (SV.vals ρ args) (hp.map (Ck.den ρ)) ar:=
 aw.kJ (C:=C) hT Az FF hf hl rfl hv h Ea
end
abbrev bo(v:V1)(n:Int)(A:Nat→Int):HP:=aE true 5 1 v.v n.toNat (aQ n.toNat [aO .u8 1 A])
abbrev bi(v:V1)(n:Int)(A:Nat→Int):HP:=aE false 5 1 v.v n.toNat (aQ n.toNat [aO .u8 1 A])
abbrev bn(md:Bool)(v:V1)(n:Nat)(A:Nat→Int):HP:=aE md 5 1 v.v n (aQ n [aO .u8 1 A])
abbrev PT:=Value→List HP→Prop
abbrev Cl(f:Nat)(a:List Value)(L:List HP)(K:Value→List HP→List HP→Prop):Prop:= ∃post,aw ae0 f a L post∧∀x hs,post x hs→K x hs L
abbrev bH(x:Int)(p:Prop):Prop:=ao (-9223372036854775808≤x) (ao (x≤9223372036854775807) p)
abbrev gV(x:Int)(p:Prop):Prop:=ao (x≤140737488355328) p
end Go.RX

namespace Go.RX.Fe
open Go.RX
def rowOf(n:Nat)(cs:List SV)(h:List Ck):List Ck:=
 match h.reverse.findIdx? (fun | .row _ _ x=>SV.nL x==n | _=>false)with
 | some i=>match h.reverse[i]? with
  | some (.row b w _)=>(h.reverse.set i (.row b w cs)).reverse
  | _=>h
 | none=>h
def w4(a:Nat):List bV:=[⟨.int .u8,4,.aL a⟩]
def MR:bz:={use:=fun _ _=>[],inc:={a:=2},val:=fun c=> .rR [.agg [.cE .u8 255 (.aL c.a)],.agg [.cE .i64 256 (.aL (c.a+1))]],new:=fun _ _=>[]}
def Qk:bz:={use:=fun _ _=>[],inc:={a:=1},val:=fun c=> .agg [.cE .u8 256 (.aL c.a)],new:=fun _ _=>[]}
def cq(f:Nat):Option bz:=
 match f with
 | 113=>some MR
 | 90=>some Qk
 | _=>none
def Y6(c:cP):Ck→Ck
 | .bC true _ 177 4 _ _=> .bC true c.v 177 4 (.var c.i) (w4 c.a)
 | .row b w [x,_]=> .row b w [x,.vv c.v]
 | h=>h
def Tv(b:Nat)(e:E)(h:List Ck):List Ck:=
 match h.reverse.findIdx? (fun | .row _ _ [.int .i64 _]=>true | _=>false)with
 | some i=>(h.reverse.set i (.row b true [.int .i64 e])).reverse
 | none=>h
def Ql(c:cP)(h:List Ck):List Ck:=Tv c.b (.var c.i) (rowOf 16 [.cE .u8 16 (.aL c.a)] (h.map fun | .qy _=> .qy (c.b+1) | x=>x))
def loops(f id:Nat):Option jf:=
 match f,id with
 | 113,0=>some {inc:={i:=2,a:=2},aT:=fun c=>[(4,.int .i64 (.var c.i)),(2,.int .u8 (.var (c.i+1)))],hp:=fun c h=>(rowOf 255 [.cE .u8 255 (.aL c.a)] (rowOf 256 [.cE .i64 256 (.aL (c.a+1))] h))}
 | 90,0=>some {inc:={i:=1,a:=1},aT:=fun c=>[(11,.int .i64 (.var c.i))],hp:=fun c h=>rowOf 256 [.cE .u8 256 (.aL c.a)] h}
 | 60,0=>some {pre:=[.cell 1 1 177],inc:={i:=2,a:=1,v:=1},aT:=fun c=>[(26,.int .i64 (.var c.i)),(6,.int .u8 (.var (c.i+1)))],hp:=fun c h=>h.map (Y6 c)}
 | 112,2=>some {pre:=[.marks],back:=[.mark,.swap 8 19],ds:=fun c _=>[.many (c.b+1)],inc:={i:=1,a:=1,b:=2},aT:=fun c=>[(8,.ptr c.b 0)],hp:=Ql}
 | _,_=>none
def Ia:List Ck:=[.row 0 true [.cE .u8 256 (.aL 0),.vv 0],.bC true 0 177 4 (.var 0) (w4 1)]
end Go.RX.Fe

namespace Go.RX.Fg
open Go.RX Go.RX.Fe
def BG(az:List SV)(hp:List Ck):List Nat:=
 match az with
 | .ptr b 0::_=>match findAt hp b with
  | some (j,.row _ _ [_,.vv v])=>match dU hp v with
   | some (x,_)=>[j,x]
   | none=>[]
  | _=>[]
 | _=>[]
def wF(c:cP):SV:= .agg [.cE .u8 16 (.aL c.a)]
def pE:bz:={use:=BG,inc:={a:=1},val:=wF,new:=fun _ h=>h}
def yd:bz:={use:=fun _ _=>[],inc:={a:=1},val:=wF,new:=fun _ h=>h}
def cq(f:Nat):Option bz:=
 match f with
 | 112=>some pE
 | 87=>some yd
 | _=>none
def cB(a:Nat):List bV:=[⟨.int .u8,1,.aL a⟩]
def V3(a:Nat)(h:List Ck):List Ck:=
 match h.reverse.findIdx? (fun | .bC true _ 5 1 _ _=>true | _=>false)with
 | some i=>match h.reverse[i]? with
  | some (.bC md v t s n _)=>(h.reverse.set i (.bC md v t s n (cB a))).reverse
  | _=>h
 | none=>h
def loops(f id:Nat):Option jf:=
 match f,id with
 | 114,0=>some {inc:={i:=1,a:=2},aT:=fun _=>[],hp:=fun c h=>Qm c (Fe.rowOf 16 [.cE .u8 16 (.aL c.a)] (V3 (c.a+1) h))}
 | 62,4=>some {inc:={i:=2,a:=1},aT:=fun c=>[(13,.int .i64 (.var c.i))],hp:=fun c h=>Qn c (V3 c.a h)}
 | _,_=>none
 where
 V4 (e:E) (h:List Ck):List Ck:=
  match h.reverse.findIdx? (fun | .row _ true [.int .i64 _]=>true | _=>false)with
  | some i=>match h.reverse[i]? with
   | some (.row b w _)=>(h.reverse.set i (.row b w [.int .i64 e])).reverse
   | _=>h
  | none=>h
 Qm (c:cP) (h:List Ck):List Ck:=V4 (.var c.i) h
 Qn (c:cP) (h:List Ck):List Ck:=V4 (.var (c.i+1)) h
def Tw:List Ck:=Ia++[.row 1 true [.vv 1],.bC false 1 5 1 (.var 1) (cB 3)]
end Go.RX.Fg

namespace Go.RX.Fh
open Go.RX Go.RX.Fe Go.RX.Fg
def Qo:bz:={use:=fun _ _=>[],inc:={i:=1},val:=fun c=> .int .u64 (.var c.i),new:=fun _ h=>h}
def Ee:bz:={use:=fun _ _=>[],inc:={i:=2},val:=fun c=> .agg [.int .u64 (.var c.i),.int .u64 (.var (c.i+1))],new:=fun _ h=>h}
def cq(f:Nat):Option bz:=
 match f with
 | 146=>some Qo
 | 131=>some Ee
 | 133=>some Ee
 | 134=>some yd
 | _=>none
def V5(c:cP)(h:List Ck):List Ck:=Fe.rowOf 2 [.int .u64 (.var c.i),.int .u64 (.var (c.i+1))] h
def Y7(c:cP)(n:E)(h:List Ck):List Ck:=
 match h.reverse.findIdx? (fun | .bC _ _ 5 1 _ _=>true | _=>false)with
 | some i=>(h.reverse.set i (.bC false c.v 5 1 n (cB c.a))).reverse
 | none=>h
def loops(f id:Nat):Option jf:=
 match f,id with
 | 133,0=>some {inc:={i:=3},aT:=fun c=>[(6,.int .i64 (.var (c.i+2)))],hp:=V5}
 | 111,0=>some {pre:=[.cut 1 false],back:=[.cut 1 false],inc:={i:=3,v:=1,a:=1},aT:=fun c=>[(1,.vv c.v)],hp:=fun c h=>V5 c (Y7 c (.var (c.i+2)) h)}
 | _,_=>none
def MS(i:Nat):SV:= .agg [.int .u64 (.var i),.int .u64 (.var (i+1))]
end Go.RX.Fh

namespace Go.RX.Fi
open Go.RX Go.RX.Fe Go.RX.Fg
def rootOf(hp:List Ck):SV→List Nat
 | .vv v=>match dU hp v with
  | some (j,_)=>[j]
  | none=>[]
 | .jP v _ _=>match dU hp v with
  | some (j,_)=>[j]
  | none=>[]
 | .sl b _ _ _ _=>match findAt hp b with
  | some (j,_)=>[j]
  | none=>[]
 | .opt _ v=>rootOf hp v
 | _=>[]
def roots(hp:List Ck)(az:List SV):List Nat:=(az.flatMap (rootOf hp)).eraseDups
def lenOf(hp:List Ck):SV→E
 | .sl _ _ _ n _=>n
 | .b_=> .lit 0
 | x=>match fE hp x with
  | some r=>r.p.len
  | none=> .lit 0
def Ib(az:List SV)(hp:List Ck):List Nat:=
 match az with
 | [p,_,.sl b _ _ _ _]=>match findAt hp b with
  | some (j,.row _ _ [x])=>BG [p] hp++[j]++rootOf hp x
  | _=>[]
 | _=>[]
def Qp(c:cP)(h:List Ck):List Ck:=
 match h with
 | _::_:: .row _ _ [x]::_=>h++[.bC true c.v 5 1 (lenOf h x) (cB c.a)]
 | h=>h
def MT:bz:={use:=Ib,inc:={a:=1,v:=1},val:=fun c=> .rR [.vv c.v,.int .i64 (.lit 0)],new:=Qp}
def MU:bz:={use:=fun az hp=>match az with | [_,x]=>rootOf hp x | _=>[],inc:={a:=1},val:=wF,new:=fun _ _=>[]}
def Kd:bz:={use:=fun _ _=>[],inc:={a:=1},val:=wF,new:=fun _ h=>h}
def Tx(az:List SV)(hp:List Ck):List Nat:=
 match az with
 | [p,_,x,y]=>BG [p] hp++roots hp [x,y]
 | _=>[]
def er(n:E)(c:cP)(h:List Ck):List Ck:=h++[.bC true c.v 5 1 n (cB c.a)]
def Qq:bz:={use:=Tx,inc:={a:=1,v:=1},val:=fun c=> .vv c.v,new:=er (.lit 16)}
def Qr(k:Int)(c:cP)(h:List Ck):List Ck:=h++[.row c.b true [.cE .u8 256 (.aL c.a),.vv c.v],.bC true c.v 177 4 (.lit (k+28)) (w4 (c.a+1))]
def Qs:bz:={use:=fun az hp=>roots hp az,inc:={b:=1,v:=1,a:=2},val:=fun c=> .rR [.ptr c.b 0,.int .i64 (.lit 0)],new:=fun c h=>match h with | [.bC _ _ _ _ (.lit k) _]=>Qr k c h | h=>h}
def Ef:bz:={use:=fun az hp=>roots hp az,inc:={bo:=1},val:=fun c=> .bool (.var c.bo),new:=fun _ h=>h}
def cq(f:Nat):Option bz:=
 match f with
 | 112=>some pE
 | 87=>some yd
 | 62=>some MT
 | 111=>some MU
 | 88=>some Kd
 | 89=>some Qq
 | 60=>some Qs
 | 68=>some Ef
 | _=>none
def loops(f id:Nat):Option jf:=
 match f,id with
 | 68,0=>some {inc:={i:=2},aT:=fun c=>[(14,.int .i64 (.var c.i)),(5,.int .u8 (.var (c.i+1)))],hp:=fun _ h=>h}
 | _,_=>none
end Go.RX.Fi

namespace Go.RX.Fj
open Go.RX Go.RX.Fe Go.RX.Fg Go.RX.Fi
def Eg:bz:={use:=fun _ _=>[],inc:={i:=1},val:=fun c=> .int .u8 (.var c.i),new:=fun _ _=>[]}
def Qt:bz:={use:=fun _ _=>[],inc:={i:=1},val:=fun c=> .int .i64 (.var c.i),new:=fun _ _=>[]}
def makes(n:List SV→List Ck→E):bz:={use:=fun az hp=>roots hp az,inc:={a:=1,v:=1},val:=fun c=> .vv c.v,new:=fun c h=>er (n [] h) c h}
def sQ:bz:=makes fun _ _=> .lit 16
def cq(f:Nat):Option bz:=
 match f with
 | 119=>some Eg
 | 121=>some Eg
 | 120=>some Qt
 | 124=>some sQ
 | 126=>some sQ
 | _=>none
def oB(i a:Nat)(h:List Ck):List Ck:=
 match h[i]? with
 | some (.bC md v t s n _)=>h.set i (.bC md v t s n (cB a))
 | _=>h
def mE(i v:Nat)(n:E)(a:Nat)(h:List Ck):List Ck:=
 match h[i]? with
 | some (.bC md _ t s _ _)=>h.set i (.bC md v t s n (cB a))
 | _=>h
def loops(f id:Nat):Option jf:=
 match f,id with
 | 119,0=>some {inc:={i:=3},aT:=fun c=>[(5,.int .u8 (.var c.i)),(0,.int .u8 (.var (c.i+1))),(1,.int .u8 (.var (c.i+2)))]}
 | 121,0=>some {inc:={i:=2},aT:=fun c=>[(4,.int .i64 (.var c.i)),(3,.int .u8 (.var (c.i+1)))]}
 | 98,0=>some {inc:={i:=3,a:=1},aT:=fun c=>[(4,.int .i64 (.var c.i)),(2,.int .u8 (.var (c.i+1))),(3,.int .u8 (.var (c.i+2)))],hp:=fun c h=>oB 0 c.a h}
 | 98,2=>some {inc:={i:=1,a:=1},aT:=fun c=>[(6,.int .i64 (.var c.i))],hp:=fun c h=>oB 1 c.a h}
 | 98,4=>some {inc:={i:=1,a:=1},aT:=fun c=>[(8,.int .i64 (.var c.i))],hp:=fun c h=>oB 1 c.a h}
 | 99,0=>some {back:=[.swap 6 2],inc:={i:=3,a:=1,v:=1},aT:=fun c=>[(8,.int .i64 (.var c.i)),(7,.int .u8 (.var (c.i+1))),(6,.vv c.v)],hp:=fun c h=>mE 2 c.v (.var (c.i+2)) c.a h}
 | 124,0=>some {inc:={i:=1,a:=1},aT:=fun c=>[(9,.int .i64 (.var c.i))],hp:=fun c h=>oB 3 c.a h}
 | 124,2=>some {inc:={i:=1,a:=1},aT:=fun c=>[(10,.int .i64 (.var c.i))],hp:=fun c h=>oB 3 c.a h}
 | 124,4=>some {inc:={i:=1,a:=1},aT:=fun c=>[(12,.int .i64 (.var c.i))],hp:=fun c h=>oB 4 c.a h}
 | 124,6=>some {inc:={i:=1,a:=1},aT:=fun c=>[(13,.int .i64 (.var c.i))],hp:=fun c h=>oB 3 c.a h}
 | 102,0=>some {pre:=[.slot 10 5,.slot 11 5],back:=[.swap 9 4,.swap 10 5,.swap 11 6],inc:={i:=3,v:=3,a:=3},aT:=fun c=>[(12,.int .i64 (.var c.i)),(9,.vv c.v),(10,.vv (c.v+1)),(11,.vv (c.v+2))],hp:=fun c h=>mE 4 c.v (.lit 16) c.a (mE 5 (c.v+1) (.var (c.i+1)) (c.a+1) (mE 6 (c.v+2) (.var (c.i+2)) (c.a+2) h))}
 | _,_=>none
end Go.RX.Fj

namespace Go.RX.Fk
open Go.RX Go.RX.Fe Go.RX.Fg Go.RX.Fi Go.RX.Fj
def eU:bz:={use:=fun az hp=>roots hp az,inc:={i:=1,a:=1,v:=1},val:=fun c=> .vv c.v,new:=fun c h=>er (.var c.i) c h}
def V6:bz:={use:=fun az hp=>roots hp (az.take 1),inc:={i:=1},val:=fun c=> .int .i64 (.var c.i),new:=fun _ h=>h}
def Gn:bz:=makes fun _ _=> .lit 8
def Eh(az:List SV)(hp:List Ck):List Nat:=
 match az with
 | .agg [x,y]::r=>roots hp (x::y::r)
 | _=>[]
def BH(n:cP→E)(i:Nat):bz:={use:=Eh,inc:={i:=i,a:=1,v:=1},val:=fun c=> .vv c.v,new:=fun c h=>er (n c) c h}
def cq(f:Nat):Option bz:=
 match f with
 | 155=>some V6
 | 144=>some sQ
 | 122=>some eU
 | 123=>some Gn
 | 124=>some sQ
 | 125=>some sQ
 | 102=>some eU
 | 98=>some (makes fun _ _=> .lit 256)
 | 99=>some eU
 | 101=>some (BH (fun _=> .lit 16) 0)
 | 100=>some (BH (fun c=> .var c.i) 1)
 | _=>none
def loops(f id:Nat):Option jf:=
 match f,id with
 | 155,0=>some {inc:={i:=2},aT:=fun c=>[(6,.int .i64 (.var c.i)),(5,.int .i64 (.var (c.i+1)))]}
 | 144,0=>some {inc:={i:=1,a:=1},aT:=fun c=>[(6,.int .i64 (.var c.i))],hp:=fun c h=>Ty 2 c.a h}
 | 144,2=>some {inc:={i:=1,a:=1},aT:=fun c=>[(7,.int .i64 (.var c.i))],hp:=fun c h=>Ty 2 c.a h}
 | 144,4=>some {inc:={i:=1,a:=1},aT:=fun c=>[(8,.int .i64 (.var c.i))],hp:=fun c h=>Ty 2 c.a h}
 | 144,6=>some {inc:={i:=1,a:=1},aT:=fun c=>[(10,.int .i64 (.var c.i))],hp:=fun c h=>oB 3 c.a h}
 | 144,8=>some {inc:={i:=1,a:=1},aT:=fun c=>[(11,.int .i64 (.var c.i))],hp:=fun c h=>oB 3 c.a h}
 | 125,0=>some {back:=[.swap 5 2],inc:={i:=1,a:=1,v:=1},aT:=fun c=>[(6,.int .i64 (.var c.i)),(5,.vv c.v)],hp:=fun c h=>mE 2 c.v (.lit 16) c.a h}
 | 125,2=>some {inc:={i:=1,a:=1},aT:=fun c=>[(7,.int .i64 (.var c.i))],hp:=fun c h=>oB 2 c.a h}
 | 122,0=>some {back:=[.swap 3 1],inc:={i:=1,a:=1,v:=1},aT:=fun c=>[(3,.vv c.v)],hp:=fun c h=>mE 1 c.v (.var c.i) c.a h}
 | _,_=>none
 where
 Ty (i a:Nat) (h:List Ck):List Ck:=
  match h[i]? with
  | some (.bC md v t s n _)=>h.set i (.bC md v t s n [⟨.int .i64,1,.aL a⟩])
  | _=>h
end Go.RX.Fk

namespace Go.RX.Fl
open Go.RX Go.RX.Fe Go.RX.Fg Go.RX.Fi Go.RX.Fj Go.RX.Fk
def pF(hp:List Ck):SV→List Nat
 | .sl b _ _ _ _=>match findAt hp b with
  | some (j,.row _ _ cs)=>j::roots hp cs
  | _=>[]
 | .vv v=>match dU hp v with
  | some (j,.bC _ _ _ _ _ [⟨.Ba l,_,_⟩])=>j::roots hp (l.map .vv)
  | _=>[]
 | _=>[]
def Ic:bz:={use:=fun az hp=>match az with | [x]=>pF hp x | _=>[],inc:={i:=1,a:=1,v:=1},val:=fun c=> .vv c.v,new:=fun c h=>er (.var c.i) c h}
def Ei(u:List SV→List Ck→List Nat):bz:={use:=u,inc:={i:=1,a:=1,v:=1,bo:=1},val:=fun c=> .rR [.vv c.v,.bool (.var c.bo)],new:=fun c h=>er (.var c.i) c h}
def Qu:bz:={use:=fun _ _=>[],inc:={i:=1,a:=1,v:=1},val:=fun c=> .vv c.v,new:=fun c h=>h++[.bC true c.v 3 1 (.var c.i) [⟨.int .i64,1,.aL c.a⟩]]}
def Tz:bz:={use:=fun az hp=>roots hp az,inc:={i:=1,a:=2,v:=2},val:=fun c=> .agg [.vv c.v,.vv (c.v+1)],new:=fun c h=>h++[.bC true c.v 5 1 (.lit 256) (cB c.a),.bC true (c.v+1) 5 1 (.var c.i) (cB (c.a+1))]}
def Qv:bz:={use:=fun az hp=>roots hp az,inc:={i:=1},val:=fun c=> .int .i64 (.var c.i),new:=fun _ h=>h}
def MV:bz:={use:=fun az hp=>roots hp az,inc:={i:=3},val:=fun c=> .rR [.agg [.int .u64 (.var c.i),.int .u64 (.var (c.i+1))],.int .i64 (.var (c.i+2))],new:=fun _ h=>h}
def cq(f:Nat):Option bz:=
 match f with
 | 35=>some Qu
 | 31=>some eU
 | 32=>some Ic
 | 33=>some eU
 | 36=>some (Ei fun az hp=>roots hp az)
 | 71=>some (makes fun _ _=> .lit 12)
 | 72=>some Tz
 | 73=>some (BH (fun c=> .var c.i) 1)
 | 76=>some (Ei Eh)
 | 74=>some eU
 | 75=>some eU
 | 103=>some Gn
 | 104=>some eU
 | 30=>some Qv
 | 24=>some MV
 | 70=>some eU
 | 102=>some eU
 | 98=>some (makes fun _ _=> .lit 256)
 | 99=>some eU
 | _=>none
def loops(f id:Nat):Option jf:=
 match f,id with
 | 70,0=>some {pre:=[.own 3 5],back:=[.swap 3 0],inc:={i:=2,a:=1,v:=1},aT:=fun c=>[(0,.int .u64 (.var c.i)),(3,.vv c.v)],hp:=fun c h=>mE 0 c.v (.var (c.i+1)) c.a h}
 | 24,0=>some {inc:={i:=2},aT:=fun c=>[(7,.int .i64 (.var c.i))],hp:=fun c h=>V7 (.var (c.i+1)) h}
 | 24,2=>some {inc:={i:=2},aT:=fun c=>[(8,.int .i64 (.var c.i))],hp:=fun c h=>V8 (.var (c.i+1)) h}
 | _,_=>none
 where
 MW (g:SV→SV→List SV) (h:List Ck):List Ck:=
  match h.reverse.findIdx? (fun | .row _ true [.int .u64 _,.int .u64 _]=>true | _=>false)with
  | some i=>match h.reverse[i]? with
   | some (.row b w [x,y])=>(h.reverse.set i (.row b w (g x y))).reverse
   | _=>h
  | none=>h
 V7 (e:E) (h:List Ck):List Ck:=MW (fun _ y=>[.int .u64 e,y]) h
 V8 (e:E) (h:List Ck):List Ck:=MW (fun x _=>[x,.int .u64 e]) h
end Go.RX.Fl

namespace Go.RX.Fm
open Go.RX Go.RX.Fe Go.RX.Fg Go.RX.Fi Go.RX.Fj Go.RX.Fk Go.RX.Fl
def cW(a:Nat):List bV:=[⟨.int .u32,1,.aL a⟩]
def Qw(b h k:Nat):Ck:= .row b true ([.vv h,.vv k]++[4,2,13,22,6,11,25,7,18,3,17,19,10].map fun n:Int=> .int .i64 (.lit n))
def ints(k:IntKind)(i:Nat):Nat→List SV
 | 0=>[]
 | n+1=> .int k (.var i)::ints k (i+1) n
def hpW(c:cP)(h:List Ck):List Ck:=
 match h[(4:Nat)]? with
 | some (.bC md v t s n _)=>h.set 4 (.bC md v t s n (cW c.a))
 | _=>h
def hpX(c:cP)(h:List Ck):List Ck:=
 match h[(5:Nat)]? with
 | some (.row b wr _)=>h.set 5 (.row b wr (ints .u32 c.i 8))
 | _=>h
def wG(a:Nat)(h:List Ck):List Ck:=
 match h[(1:Nat)]? with
 | some (.bC md v t s n _)=>h.set 1 (.bC md v t s n (cW a))
 | _=>h
def hpH(c:cP)(h:List Ck):List Ck:=
 match (wG c.a h)[(5:Nat)]? with
 | some (.row b wr _)=>(wG c.a h).set 5 (.row b wr [.cE .u32 8 (.aL (c.a+1))])
 | _=>h
def qf(i v:Nat)(n:E)(a:Nat)(h:List Ck):List Ck:=
 let is:=(List.range h.length).filter fun j=>match h[j]? with | some (.bC true _ 5 1 _ _)=>true | _=>false
 match is.reverse[i]? with
 | some j=>mE j v n a h
 | none=>h
def loops(f id:Nat):Option jf:=
 match f,id with
 | 151,0=>some {inc:={i:=1,a:=1},aT:=fun c=>[(25,.int .i64 (.var c.i))],hp:=hpW}
 | 151,2=>some {inc:={i:=1,a:=1},aT:=fun c=>[(6,.int .i64 (.var c.i))],hp:=hpW}
 | 151,4=>some {inc:={i:=9},aT:=fun c=>[(110,.int .i64 (.var (c.i+8)))],hp:=hpX}
 | 151,6=>some {inc:={i:=1,a:=2},aT:=fun c=>[(189,.int .i64 (.var c.i))],hp:=hpH}
 | 139,2=>some {back:=[.cut 6 true],inc:={i:=1,a:=2,v:=1},aT:=fun c=>[(6,.vv c.v)],hp:=fun c h=>wG (c.a+1) (qf 0 c.v (.var c.i) c.a h)}
 | 139,4=>some {inc:={i:=1,a:=1,v:=1},aT:=fun c=>[(6,.vv c.v)],hp:=fun c h=>qf 0 c.v (.var c.i) c.a h}
 | 139,8=>some {back:=[.cut 6 true],inc:={i:=1,a:=2,v:=1},aT:=fun c=>[(6,.vv c.v)],hp:=fun c h=>wG (c.a+1) (qf 1 c.v (.var c.i) c.a h)}
 | 97,0=>some {inc:={i:=1,a:=1},aT:=fun c=>[(26,.int .i64 (.var c.i))],hp:=fun c h=>oB (h.length - 1) c.a h}
 | 54,0=>some {pre:=[.slot 3 5],inc:={i:=2,a:=1,v:=1},aT:=fun c=>[(4,.int .i64 (.var c.i)),(3,.vv c.v)],hp:=fun c h=>qf 0 c.v (.var (c.i+1)) c.a h}
 | 34,2=>some {inc:={i:=1,a:=1},aT:=fun c=>[(51,.int .i64 (.var c.i))],hp:=fun c h=>pair c.a h}
 | 68,0=>some {inc:={i:=2},aT:=fun c=>[(14,.int .i64 (.var c.i)),(5,.int .u8 (.var (c.i+1)))],hp:=fun _ h=>h}
 | _,_=>none
 where
 pair (a:Nat) (h:List Ck):List Ck:=
  match h[(2:Nat)]? with
  | some (.row b w _)=>h.set 2 (.row b w [.cE .u64 2 (.aL a)])
  | _=>h
def Ej(az:List SV)(hp:List Ck):List Nat:=
 match az with
 | .ptr b 0::r=>
  match findAt hp b with
  | some (j,.row _ _ (.vv h:: .vv k::_))=>
   match dU hp h,dU hp k with
   | some (x,_),some (y,_)=>[j,x,y]++roots hp r
   | _,_=>[]
  | _=>[]
 | _=>[]
def MX(c:cP)(h:List Ck):List Ck:=
 match h with
 | [m,.bC md v t s n _,k,r]=>[m,.bC md v t s n (cW c.a),k,r]
 | h=>h
def Ke:bz:={use:=Ej,inc:={a:=1},val:=fun _=> .rR [],new:=MX}
def Gp:bz:={use:=fun _ _=>[],inc:={b:=1,v:=2,a:=2},val:=fun c=> .ptr c.b 0,new:=fun c _=>[Qw c.b c.v (c.v+1),.bC true c.v 225 1 (.lit 8) (cW c.a),.bC true (c.v+1) 225 1 (.lit 64) (cW (c.a+1))]}
def MY:bz:={use:=fun az hp=>match az with | [m,x]=>Ej [m] hp++pF hp x | _=>[],inc:={a:=1,v:=1},val:=fun c=> .vv c.v,new:=fun c h=>er (.lit 32) c (h.drop 3)}
def sum256:bz:={use:=fun az hp=>match az with | [x]=>pF hp x | _=>[],inc:={a:=1},val:=fun c=> .agg [.cE .u8 32 (.aL c.a)],new:=fun _ h=>h}
def MZ:bz:={use:=fun az hp=>match az with | [_,x]=>pF hp x | _=>[],inc:={i:=1,a:=1,v:=1},val:=fun c=> .vv c.v,new:=fun c h=>er (.var c.i) c h}
def TA:bz:={use:=fun _ _=>[],inc:={i:=1,a:=1,v:=1},val:=fun c=> .vv c.v,new:=fun c h=>er (.var c.i) c h}
def ye:bz:={use:=fun az hp=>roots hp az,inc:={i:=1,a:=1,v:=1},val:=fun c=> .vv c.v,new:=fun c h=>er (.var c.i) c h}
def Qx:bz:={use:=fun az hp=>match az with | [_,k,x]=>roots hp [k]++(pF hp x).filter (fun i=> !(roots hp [k]).contains i) | _=>[],inc:={i:=1,a:=1,v:=1},val:=fun c=> .vv c.v,new:=fun c h=>er (.var c.i) c h}
def TB:bz:={use:=fun _ _=>[],inc:={i:=6},val:=fun c=> .rR [.agg [.int .u8 (.var c.i),.int .i64 (.var (c.i+1)),.int .i64 (.var (c.i+2)),.int .i64 (.var (c.i+3)),.int .i64 (.var (c.i+4))],.int .i64 (.var (c.i+5))],new:=fun _ h=>h}
def Kf:bz:={use:=fun _ _=>[],inc:={a:=1},val:=fun c=> .agg [.cE .u8 12 (.aL c.a)],new:=fun _ h=>h}
def Kg:bz:={use:=fun az hp=>roots hp az,inc:={i:=4},val:=fun c=> .rR [.agg [.int .u64 (.var c.i),.int .u64 (.var (c.i+1))],.int .i64 (.var (c.i+2)),.int .i64 (.var (c.i+3))],new:=fun _ h=>h}
def Ek(u:List SV→List Ck→List Nat):bz:={use:=u,inc:={i:=2,a:=1,v:=1},val:=fun c=> .rR [.vv c.v,.int .i64 (.var (c.i+1))],new:=fun c h=>er (.var c.i) c h}
def M0:bz:={use:=fun az hp=>roots hp az,inc:={i:=1,b:=1,v:=1,a:=2},val:=fun c=> .rR [.ptr c.b 0,.int .i64 (.lit 0)],new:=fun c h=>h++[.row c.b true [.cE .u8 256 (.aL c.a),.vv c.v],.bC true c.v 177 4 (.var c.i) (w4 (c.a+1))]}
def Kh:bz:={use:=Ib,inc:={i:=1,a:=1,v:=1},val:=fun c=> .rR [.vv c.v,.int .i64 (.lit 0)],new:=fun c h=>er (.var c.i) c h}
def cq(f:Nat):Option bz:=
 match f with
 | 151=>some Ke
 | 138=>some Gp
 | 139=>some MY
 | 115=>some sum256
 | 96=>some MZ
 | 143=>some TA
 | 118=>some ye
 | 97=>some ye
 | 64=>some Qx
 | 53=>some TB
 | 57=>some Kf
 | 34=>some Kg
 | 54=>some eU
 | 27=>some eU
 | 29=>some Ic
 | 65=>some Gn
 | 68=>some Ef
 | 60=>some M0
 | 62=>some Kh
 | 56=>some (Ek fun az hp=>roots hp az)
 | 59=>some (Ek fun az hp=>roots hp az)
 | _=>none
end Go.RX.Fm

namespace Go.RX.Fo
open Go.RX Go.RX.Fe Go.RX.Fg Go.RX.Fi Go.RX.Fj Go.RX.Fk Go.RX.Fl
def M1(az:List SV):List SV:=
 match az with
 | .agg [_,_,k,_]::r=>k::r
 | _=>az
def pE:bz:={use:=fun az hp=>roots hp (M1 az),inc:={i:=2,a:=1,v:=1},val:=fun c=> .rR [.vv c.v,.int .i64 (.var (c.i+1))],new:=fun c h=>er (.var c.i) c h}
def El:bz:={use:=fun az hp=>roots hp (M1 az),inc:={i:=3,a:=1,v:=1},val:=fun c=> .rR [.vv c.v,.int .u64 (.var (c.i+1)),.int .i64 (.var (c.i+2))],new:=fun c h=>er (.var c.i) c h}
def cq(f:Nat):Option bz:=
 match f with
 | 8=>some pE
 | 9=>some pE
 | 10=>some El
 | 11=>some El
 | 6=>some {use:=fun _ _=>[],inc:={},val:=fun _=> .bool (.lit true),new:=fun _ h=>h}
 | _=>none
def loops(_ _:Nat):Option jf:=none
open Go.RX Go.Proofs Go.RX.Fe Go.RX.Fg Go.RX.Fi Go.RX.Fj Go.RX.Fk Go.RX.Fl
noncomputable def cx:Ctx:={T:=TT,FT:=FT,loops:=Fo.loops,cq:=Fo.cq}
set_option maxRecDepth 100000
def Em(ar:PT):Prop:=
 ∀(v0:V1) (_ b1:Nat),Cl 8 [.agg (.int .u16 4::(.int .u64 5::(v0.v::(aeU (al .u8 12 (fun _=>0)) ([]))))).toArray,.int .u64 7,.slice none 0 0,.slice (some ⟨b1,0,none⟩) 3 3] [bn true v0 16 (fun _=>0),ax b1 false ([.int .u8 97,.int .u8 98,.int .u8 99])] fun x hs l=> ∃(v1:V1) (x0 x1:Int) (A0:Nat→Int),x= .tuple #[v1.v,.int .i64 x1]∧hs=l++[bo v1 x0 A0]∧
 ∀(v2:V1) (_:Nat),Cl 8 [.agg (.int .u16 3::(.int .u64 8::(v2.v::(aeU (al .u8 12 (fun _=>0)) ([]))))).toArray,.int .u64 300,.slice none 0 0,.slice none 0 0] [bn true v2 48 (fun _=>0)] fun x hs l=> ∃(v3:V1) (x2 x3:Int) (A1:Nat→Int),x= .tuple #[v3.v,.int .i64 x3]∧hs=l++[bo v3 x2 A1]∧
 ao (0≤x0) (
 ao ((¬(x0=20))∨(0<x0)) (
 ao ((¬(x0=20))∨(0<x0)) (
 ao ((((¬(x0=20))∨(¬((A0 0)=87)))∨(¬(x1=0)))∨(0≤x2)) (
 aR (((((¬(x0=20))∨(¬((A0 0)=87)))∨(¬(x1=0)))∨(¬(x2=8)))∨(¬(x3=0))) (
 ar (.bool false) []) (
 Cl 10 [.agg (.int .u16 3::(.int .u64 8::(v2.v::(aeU (al .u8 12 (fun _=>0)) ([]))))).toArray,.slice none 0 0,v3.v] [bn true v2 48 (fun _=>0),bo v3 x2 A1] fun x hs l=> ∃(v4:V1) (x4 x5 x6:Int) (A2:Nat→Int),x= .tuple #[v4.v,.int .u64 x5,.int .i64 x6]∧hs=l++[bo v4 x4 A2]∧
 Cl 10 [.agg (.int .u16 3::(.int .u64 9::(v2.v::(aeU (al .u8 12 (fun _=>0)) ([]))))).toArray,.slice none 0 0,v3.v] [bn true v2 48 (fun _=>0),bo v3 x2 A1] fun x hs l=> ∃(v5:V1) (x7 x8 x9:Int) (A3:Nat→Int),x= .tuple #[v5.v,.int .u64 x8,.int .i64 x9]∧hs=l++[bo v5 x7 A3]∧
 ar (.bool (((x5==300)&&(x6==0))&&(x9==4))) [])))))
theorem M3(ar:PT)(h:Em ar):aw ae0 6 [] [] ar:=
 FJ (C:=Fo.cx) [] [] ⟨0,0,0,0,0,0,0⟩ ⟨[],[],[],[],[],[],[],[]⟩ Tryz.func6 (by kernel_rfl) h
def M4(ar:PT)(x0 x1 x2 x3 x4 x5:Int)(A0 A1 A2 A3:Nat→Int)(v0 v1 v2:V1):Prop:=
 ∀b0:Nat,Cl 6 [] [] fun x hs _=>x= .bool true∧hs=[]∧
 ao (0≤x4) (
 ao ((¬(300<x4))∨(0≤x4)) (
 ao (((300<x4)∧(x4≤1024))∨(0≤x5)) (
 ao ((¬((¬((300<x4)∧(x4≤1024)))∧(400<x5)))∨(0≤x5)) (
 ao ((((300<x4)∧(x4≤1024))∨((400<x5)∧(x5≤65576)))∨(0≤x3)) (
 aR ((((300<x4)∧(x4≤1024))∨((400<x5)∧(x5≤65576)))∨(1000<x3)) (
 ar (.bool true) []) (
 Cl 8 [.agg (.int .u16 x0::(.int .u64 x1::(v0.v::(aeU (al .u8 12 A1) ([]))))).toArray,.int .u64 x2,v1.v,v2.v] [bi v0 x3 A0,bi v1 x4 A2,bi v2 x5 A3] fun x hs l=> ∃(v3:V1) (x6 x7:Int) (A4:Nat→Int),x= .tuple #[v3.v,.int .i64 x7]∧hs=l++[bo v3 x6 A4]∧
 Cl 9 [.int .u16 x0,.int .u64 x1,v0.v,.slice (some ⟨b0,3,none⟩) 12 12,.int .u64 x2,v1.v,v2.v] [bi v0 x3 A0,ax b0 true (.int .u16 x0::(.int .u64 x1::(v0.v::(aeU (al .u8 12 A1) ([]))))),bi v1 x4 A2,bi v2 x5 A3] fun x hs l=> ∃(v4:V1) (x8 x9:Int) (A5:Nat→Int),x= .tuple #[v4.v,.int .i64 x9]∧hs=l++[bo v4 x8 A5]∧
 Cl 10 [.agg (.int .u16 x0::(.int .u64 x1::(v0.v::(aeU (al .u8 12 A1) ([]))))).toArray,v1.v,v2.v] [bi v0 x3 A0,bi v1 x4 A2,bi v2 x5 A3] fun x hs l=> ∃(v5:V1) (dS dQ dK:Int) (A6:Nat→Int),x= .tuple #[v5.v,.int .u64 dQ,.int .i64 dK]∧hs=l++[bo v5 dS A6]∧
 Cl 11 [.int .u16 x0,.int .u64 x1,v0.v,.slice (some ⟨b0,3,none⟩) 12 12,v1.v,v2.v] [bi v0 x3 A0,ax b0 true (.int .u16 x0::(.int .u64 x1::(v0.v::(aeU (al .u8 12 A1) ([]))))),bi v1 x4 A2,bi v2 x5 A3] fun x hs l=> ∃(v6:V1) (cT oF kO:Int) (A7:Nat→Int),x= .tuple #[v6.v,.int .u64 oF,.int .i64 kO]∧hs=l++[bo v6 cT A7]∧
 ar (.bool (((((cj (g9 A4 x6)==cj (g9 A5 x8))&&(x7==x9))&&(cj (g9 A6 dS)==cj (g9 A7 cT)))&&(dQ==oF))&&(dK==kO))) []))))))
theorem TC(ar:PT)(x0 x1 x2 x3 x4 x5:Int)(A0 A1 A2 A3:Nat→Int)(v0 v1 v2:V1)(h:M4 ar x0 x1 x2 x3 x4 x5 A0 A1 A2 A3 v0 v1 v2):aw ae0 3 [.agg (.int .u16 x0::(.int .u64 x1::(v0.v::(aeU (al .u8 12 A1) ([]))))).toArray,.int .u64 x2,v1.v,v2.v] [bi v0 x3 A0,bi v1 x4 A2,bi v2 x5 A3] ar:=
 FJ (C:=Fo.cx) [.agg [.int .u16 (.var 0),.int .u64 (.var 1),.vv 0,.cE .u8 12 (.aL 1)],.int .u64 (.var 2),.vv 1,.vv 2] [.bC false 0 5 1 (.var 3) [⟨.int .u8,1,.aL 0⟩],.bC false 1 5 1 (.var 4) [⟨.int .u8,1,.aL 2⟩],.bC false 2 5 1 (.var 5) [⟨.int .u8,1,.aL 3⟩]] ⟨0,3,6,4,0,0,0⟩ ⟨[x0,x1,x2,x3,x4,x5],[A0,A1,A2,A3],[],[],[v0,v1,v2],[],[],[]⟩ Tryz.func3 (by kernel_rfl) h
end Go.RX.Fo
