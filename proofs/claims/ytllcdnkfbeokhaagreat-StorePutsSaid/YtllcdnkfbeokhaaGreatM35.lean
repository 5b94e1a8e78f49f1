/- What the executor is told of AES. -/
import Derived.Test.YtllcdnkfbeokhaaGreatM22
open Go.IntKind renaming wrap -> ae
open Go.Proofs.Tryz renaming prog -> ax8
open Int renaming toNat -> ag, toNat_natCast -> ax3
open Nat renaming lt_of_lt_of_le -> ax7
namespace Go.RX.Fe
open Go.RX
def rowOf(n:Nat)(cs:List SV)(h:List Ck):List Ck:=
 match h.reverse.findIdx? (λ| .row _ _ x=>SV.qQ x==n | _=>false)with
 | some i=>match h.reverse[i]? with
  | some (.row b w _)=>(h.reverse.set i (.row b w cs)).reverse
  | _=>h
 | none=>h
def w4(a:Nat):List bU:=[⟨.int .u8,4,.cM a⟩]
def bj(f:Nat):Option aI:=
 match f with
 | _=>none
def loops(f id:Nat):Option dA:=
 match f,id with
 | _,_=>none
end Go.RX.Fe

namespace Go.RX.Fg
open Go.RX Go.RX.Fe
def bj(f:Nat):Option aI:=
 match f with
 | _=>none
def cB(a:Nat):List bU:=[⟨.int .u8,1,.cM a⟩]
def loops(f id:Nat):Option dA:=
 match f,id with
 | _,_=>none
 where
 ahp (e:E) (h:List Ck):List Ck:=
  match h.reverse.findIdx? (λ| .row _ true [.int .i64 _]=>true | _=>false)with
  | some i=>match h.reverse[i]? with
   | some (.row b w _)=>(h.reverse.set i (.row b w [.int .i64 e])).reverse
   | _=>h
  | none=>h
 ajx (c:cI) (h:List Ck):List Ck:=ahp (.var c.i) h
 ajy (c:cI) (h:List Ck):List Ck:=ahp (.var (c.i+1)) h
end Go.RX.Fg

namespace Go.RX.Fh
open Go.RX Go.RX.Fe Go.RX.Fg
def bj(f:Nat):Option aI:=
 match f with
 | _=>none
def loops(f id:Nat):Option dA:=
 match f,id with
 | _,_=>none
end Go.RX.Fh

namespace Go.RX.Fi
open Go.RX Go.RX.Fe Go.RX.Fg
def rootOf(hp:List Ck):SV->List Nat
 | .vv v=>match fC hp v with
  | some (j,_)=>[j]
  | none=>[]
 | .kj v _ _=>match fC hp v with
  | some (j,_)=>[j]
  | none=>[]
 | .sl b _ _ _ _=>match findAt hp b with
  | some (j,_)=>[j]
  | none=>[]
 | .opt _ v=>rootOf hp v
 | _=>[]
def roots(hp:List Ck)(az:List SV):List Nat:=(az.flatMap (rootOf hp)).eraseDups
def lenOf(hp:List Ck):SV->E
 | .sl _ _ _ n _=>n
 | .bW=> .lit 0
 | x=>match iJ hp x with
  | some r=>r.p.len
  | none=> .lit 0
def BV(n:E)(c:cI)(h:List Ck):List Ck:=h++[.cF true c.v 5 1 n (cB c.a)]
def bj(f:Nat):Option aI:=
 match f with
 | _=>none
def loops(f id:Nat):Option dA:=
 match f,id with
 | _,_=>none
end Go.RX.Fi

namespace Go.RX.Fj
open Go.RX Go.RX.Fe Go.RX.Fg Go.RX.Fi
def makes(n:List SV->List Ck->E):aI:={use:=λaz hp=>roots hp az,inc:={a:=1,v:=1},val:=λc=> .vv c.v,new:=λc h=>BV (n [] h) c h}
def bj(f:Nat):Option aI:=
 match f with
 | _=>none
def TG(i v:Nat)(n:E)(a:Nat)(h:List Ck):List Ck:=
 match h[i]? with
 | some (.cF md _ t s _ _)=>h.set i (.cF md v t s n (cB a))
 | _=>h
def loops(f id:Nat):Option dA:=
 match f,id with
 | _,_=>none
end Go.RX.Fj

namespace Go.RX.Fk
open Go.RX Go.RX.Fe Go.RX.Fg Go.RX.Fi Go.RX.Fj
def TH:aI:={use:=λaz hp=>roots hp az,inc:={i:=1,a:=1,v:=1},val:=λc=> .vv c.v,new:=λc h=>BV (.var c.i) c h}
def bj(f:Nat):Option aI:=
 match f with
 | _=>none
def loops(f id:Nat):Option dA:=
 match f,id with
 | _,_=>none
 where
 atO (i a:Nat) (h:List Ck):List Ck:=
  match h[i]? with
  | some (.cF md v t s n _)=>h.set i (.cF md v t s n [⟨.int .i64,1,.cM a⟩])
  | _=>h
end Go.RX.Fk

namespace Go.RX.Fl
open Go.RX Go.RX.Fe Go.RX.Fg Go.RX.Fi Go.RX.Fj Go.RX.Fk
def HY(hp:List Ck):SV->List Nat
 | .sl b _ _ _ _=>match findAt hp b with
  | some (j,.row _ _ cs)=>j::roots hp cs
  | _=>[]
 | .vv v=>match fC hp v with
  | some (j,.cF _ _ _ _ _ [⟨.Lr l,_,_⟩])=>j::roots hp (l.map .vv)
  | _=>[]
 | _=>[]
def ru:aI:={use:=λ_ _=>[],inc:={i:=1,a:=1,v:=1},val:=λc=> .vv c.v,new:=λc h=>h++[.cF true c.v 3 1 (.var c.i) [⟨.int .i64,1,.cM c.a⟩]]}
def wC:aI:={use:=λaz hp=>roots hp az,inc:={i:=3},val:=λc=> .oH [.agg [.int .u64 (.var c.i),.int .u64 (.var (c.i+1))],.int .i64 (.var (c.i+2))],new:=λ_ h=>h}
def bj(f:Nat):Option aI:=
 match f with
 | _=>none
def loops(f id:Nat):Option dA:=
 match f,id with
 | _,_=>none
 where
 TJ (g:SV->SV->List SV) (h:List Ck):List Ck:=
  match h.reverse.findIdx? (λ| .row _ true [.int .u64 _,.int .u64 _]=>true | _=>false)with
  | some i=>match h.reverse[i]? with
   | some (.row b w [x,y])=>(h.reverse.set i (.row b w (g x y))).reverse
   | _=>h
  | none=>h
 aqq (e:E) (h:List Ck):List Ck:=TJ (λ_ y=>[.int .u64 e,y]) h
 aqr (e:E) (h:List Ck):List Ck:=TJ (λx _=>[x,.int .u64 e]) h
end Go.RX.Fl

namespace Go.RX.Fm
open Go.RX Go.RX.Fe Go.RX.Fg Go.RX.Fi Go.RX.Fj Go.RX.Fk Go.RX.Fl
def cW(a:Nat):List bU:=[⟨.int .u32,1,.cM a⟩]
def XH(b h k:Nat):Ck:= .row b true ([.vv h,.vv k]++[4,2,13,22,6,11,25,7,18,3,17,19,10].map λn:Int=> .int .i64 (.lit n))
def ints(k:IntKind)(i:Nat):Nat->List SV
 | 0=>[]
 | n+1=> .int k (.var i)::ints k (i+1) n
def hpW(c:cI)(h:List Ck):List Ck:=
 match h[(4:Nat)]? with
 | some (.cF md v t s n _)=>h.set 4 (.cF md v t s n (cW c.a))
 | _=>h
def hpX(c:cI)(h:List Ck):List Ck:=
 match h[(5:Nat)]? with
 | some (.row b wr _)=>h.set 5 (.row b wr (ints .u32 c.i 8))
 | _=>h
def Ak(a:Nat)(h:List Ck):List Ck:=
 match h[(1:Nat)]? with
 | some (.cF md v t s n _)=>h.set 1 (.cF md v t s n (cW a))
 | _=>h
def hpH(c:cI)(h:List Ck):List Ck:=
 match (Ak c.a h)[(5:Nat)]? with
 | some (.row b wr _)=>(Ak c.a h).set 5 (.row b wr [.jD .u32 8 (.cM (c.a+1))])
 | _=>h
def ye(i v:Nat)(n:E)(a:Nat)(h:List Ck):List Ck:=
 let is:=(List.range h.length).filter λj=>match h[j]? with | some (.cF true _ 5 1 _ _)=>true | _=>false
 match is.reverse[i]? with
 | some j=>TG j v n a h
 | none=>h
def loops(f id:Nat):Option dA:=
 match f,id with
 | 98,0=>some {inc:={i:=1,a:=1},aQ:=λc=>[(25,.int .i64 (.var c.i))],hp:=hpW}
 | 98,2=>some {inc:={i:=1,a:=1},aQ:=λc=>[(6,.int .i64 (.var c.i))],hp:=hpW}
 | 98,4=>some {inc:={i:=9},aQ:=λc=>[(110,.int .i64 (.var (c.i+8)))],hp:=hpX}
 | 98,6=>some {inc:={i:=1,a:=2},aQ:=λc=>[(189,.int .i64 (.var c.i))],hp:=hpH}
 | 47,2=>some {back:=[.cut 6 true],inc:={i:=1,a:=2,v:=1},aQ:=λc=>[(6,.vv c.v)],hp:=λc h=>Ak (c.a+1) (ye 0 c.v (.var c.i) c.a h)}
 | 47,4=>some {inc:={i:=1,a:=1,v:=1},aQ:=λc=>[(6,.vv c.v)],hp:=λc h=>ye 0 c.v (.var c.i) c.a h}
 | 47,8=>some {back:=[.cut 6 true],inc:={i:=1,a:=2,v:=1},aQ:=λc=>[(6,.vv c.v)],hp:=λc h=>Ak (c.a+1) (ye 1 c.v (.var c.i) c.a h)}
 | _,_=>none
 where
 pair (a:Nat) (h:List Ck):List Ck:=
  match h[(2:Nat)]? with
  | some (.row b w _)=>h.set 2 (.row b w [.jD .u64 2 (.cM a)])
  | _=>h
def HZ(az:List SV)(hp:List Ck):List Nat:=
 match az with
 | .ptr b 0::r=>
  match findAt hp b with
  | some (j,.row _ _ (.vv h:: .vv k::_))=>
   match fC hp h,fC hp k with
   | some (x,_),some (y,_)=>[j,x,y]++roots hp r
   | _,_=>[]
  | _=>[]
 | _=>[]
def TL(c:cI)(h:List Ck):List Ck:=
 match h with
 | [m,.cF md v t s n _,k,r]=>[m,.cF md v t s n (cW c.a),k,r]
 | h=>h
def O9:aI:={use:=HZ,inc:={a:=1},val:=λ_=> .oH [],new:=TL}
def Kt:aI:={use:=λ_ _=>[],inc:={b:=1,v:=2,a:=2},val:=λc=> .ptr c.b 0,new:=λc _=>[XH c.b c.v (c.v+1),.cF true c.v 39 1 (.lit 8) (cW c.a),.cF true (c.v+1) 39 1 (.lit 64) (cW (c.a+1))]}
def TM:aI:={use:=λaz hp=>match az with | [m,x]=>HZ [m] hp++HY hp x | _=>[],inc:={a:=1,v:=1},val:=λc=> .vv c.v,new:=λc h=>BV (.lit 32) c (h.drop 3)}
def sum256:aI:={use:=λaz hp=>match az with | [x]=>HY hp x | _=>[],inc:={a:=1},val:=λc=> .agg [.jD .u8 32 (.cM c.a)],new:=λ_ h=>h}
def bj(f:Nat):Option aI:=
 match f with
 | 98=>some O9
 | 46=>some Kt
 | 47=>some TM
 | 22=>some sum256
 | _=>none
open Go.RX Go.Proofs Go.RX.Fe Go.RX.Fg Go.RX.Fi Go.RX.Fj Go.RX.Fk Go.RX.Fl
noncomputable def cx:Ctx:={T:=TT,FT:=FT,loops:=Fm.loops,bj:=Fm.bj}
set_option maxRecDepth 100000
def H3(al:PT)(A0 A1 A2:Nat->Int)(v0 v1 _:V1)(b0:Nat):Prop:=
 ∀_:V1,∃(bO:Ext->Prop) (dG:Ext->Nat),(∃(x0:Int) (A3:Nat->Int),x0=0/\(∀j,j<64->A3 j=(λ_=>0) j)/\bO ⟨[],[],[x0],[A3],[],[],[]⟩)/\
 ∀(x0:Int) (A3:Nat->Int),bO ⟨[],[],[x0],[A3],[],[],[]⟩->
 bf (x0<64) (
 ay (0<=(ae .i64 (ar .quo .i64 x0 4))) (
 ay ((ae .i64 (ar .quo .i64 x0 4))<64) (
 ay (0<=x0) (
 fj (x0+1) ((
 ∃(x0':Int) (mD:Nat->Int),x0'=(x0+1)/\(∀j,j<64->mD j=(au A3 (ag (ae .i64 (ar .quo .i64 x0 4))) (ar .cU .u32 (ar .shl .u32 (A3 (ag (ae .i64 (ar .quo .i64 x0 4)))) 8) (ae .u32 (A2 (ag x0))))) j)/\Dn bO dG ⟨[],[],[x0'],[mD],[],[],[]⟩ ⟨[],[],[x0],[A3],[],[],[]⟩)))))) (
 ∃(mc:Ext->Prop) (xp:Ext->Nat),(∃(x1:Int) (A4:Nat->Int),x1=16/\(∀j,j<64->A4 j=A3 j)/\mc ⟨[],[],[x1],[A4],[],[],[]⟩)/\
 ∀(x1:Int) (A4:Nat->Int),mc ⟨[],[],[x1],[A4],[],[],[]⟩->
 bf (x1<64) (
 fj (x1 - 2) ((
 ay (0<=(x1 - 2)) (
 ay ((x1 - 2)<64) (
 fj (x1 - 7) ((
 ay (0<=(x1 - 7)) (
 ay ((x1 - 7)<64) (
 fj (x1 - 15) ((
 ay (0<=(x1 - 15)) (
 ay ((x1 - 15)<64) (
 fj (x1 - 16) ((
 ay (0<=(x1 - 16)) (
 ay ((x1 - 16)<64) (
 ∀_ _:Nat,ay (0<=x1) (
 fj (x1+1) ((
 ∃(jd:Int) (Ax:Nat->Int),jd=(x1+1)/\(∀j,j<64->Ax j=(au A4 (ag x1) (ae .u32 ((ae .u32 ((ae .u32 ((ar .cQ .u32 (ar .cQ .u32 (ar .cU .u32 (ar .shr .u32 (A4 (ag (x1 - 2))) 17) (ar .shl .u32 (A4 (ag (x1 - 2))) 15)) (ar .cU .u32 (ar .shr .u32 (A4 (ag (x1 - 2))) 19) (ar .shl .u32 (A4 (ag (x1 - 2))) 13))) (ar .shr .u32 (A4 (ag (x1 - 2))) 10))+(A4 (ag (x1 - 7)))))+(ar .cQ .u32 (ar .cQ .u32 (ar .cU .u32 (ar .shr .u32 (A4 (ag (x1 - 15))) 7) (ar .shl .u32 (A4 (ag (x1 - 15))) 25)) (ar .cU .u32 (ar .shr .u32 (A4 (ag (x1 - 15))) 18) (ar .shl .u32 (A4 (ag (x1 - 15))) 14))) (ar .shr .u32 (A4 (ag (x1 - 15))) 3))))+(A4 (ag (x1 - 16)))))) j)/\Dn mc xp ⟨[],[],[jd],[Ax],[],[],[]⟩ ⟨[],[],[x1],[A4],[],[],[]⟩)))))))))))))))))))) (
 ∀_:Nat,∃(kz:Ext->Prop) (tO:Ext->Nat),(∃x2 x3 x4 x5 x6 x7 x8 x9 bA:Int,bA=0/\x2=(A0 0)/\x3=(A0 1)/\x4=(A0 2)/\x5=(A0 3)/\x6=(A0 4)/\x7=(A0 5)/\x8=(A0 6)/\x9=(A0 7)/\kz ⟨[],[],[x2,x3,x4,x5,x6,x7,x8,x9,bA],[],[],[],[]⟩)/\
 ∀x2 x3 x4 x5 x6 x7 x8 x9 bA:Int,kz ⟨[],[],[x2,x3,x4,x5,x6,x7,x8,x9,bA],[],[],[],[]⟩->
 bf (bA<64) (
 ay (0<=bA) (
 ∀_ _:Nat,fj (bA+1) ((
 ∃fk qJ xl xm zV YB PS xi F7:Int,F7=(bA+1)/\fk=(ae .u32 ((ae .u32 ((ae .u32 ((ae .u32 ((ae .u32 (x9+(ar .cQ .u32 (ar .cQ .u32 (ar .cU .u32 (ar .shr .u32 x6 6) (ar .shl .u32 x6 26)) (ar .cU .u32 (ar .shr .u32 x6 11) (ar .shl .u32 x6 21))) (ar .cU .u32 (ar .shr .u32 x6 25) (ar .shl .u32 x6 7)))))+(ar .cQ .u32 (ar .gO .u32 x6 x7) (ar .gO .u32 (ar .cQ .u32 4294967295 x6) x8))))+(A1 (ag bA))))+(A4 (ag bA))))+(ae .u32 ((ar .cQ .u32 (ar .cQ .u32 (ar .cU .u32 (ar .shr .u32 x2 2) (ar .shl .u32 x2 30)) (ar .cU .u32 (ar .shr .u32 x2 13) (ar .shl .u32 x2 19))) (ar .cU .u32 (ar .shr .u32 x2 22) (ar .shl .u32 x2 10)))+(ar .cQ .u32 (ar .cQ .u32 (ar .gO .u32 x2 x3) (ar .gO .u32 x2 x4)) (ar .gO .u32 x3 x4))))))/\qJ=x2/\xl=x3/\xm=x4/\zV=(ae .u32 (x5+(ae .u32 ((ae .u32 ((ae .u32 ((ae .u32 (x9+(ar .cQ .u32 (ar .cQ .u32 (ar .cU .u32 (ar .shr .u32 x6 6) (ar .shl .u32 x6 26)) (ar .cU .u32 (ar .shr .u32 x6 11) (ar .shl .u32 x6 21))) (ar .cU .u32 (ar .shr .u32 x6 25) (ar .shl .u32 x6 7)))))+(ar .cQ .u32 (ar .gO .u32 x6 x7) (ar .gO .u32 (ar .cQ .u32 4294967295 x6) x8))))+(A1 (ag bA))))+(A4 (ag bA))))))/\YB=x6/\PS=x7/\xi=x8/\Dn kz tO ⟨[],[],[fk,qJ,xl,xm,zV,YB,PS,xi,F7],[],[],[],[]⟩ ⟨[],[],[x2,x3,x4,x5,x6,x7,x8,x9,bA],[],[],[],[]⟩)))) (
 ∃(sJ:Ext->Prop) (HJ:Ext->Nat),(∃(bH:Int) (A5 A6:Nat->Int),bH=0/\(∀j,j<8->A5 j=A0 j)/\(∀j,j<8->A6 j=(au (au (au (au (au (au (au (au (λ_=>0) 0 x2) 1 x3) 2 x4) 3 x5) 4 x6) 5 x7) 6 x8) 7 x9) j)/\sJ ⟨[],[],[bH],[A5,A6],[],[],[]⟩)/\
 ∀(bH:Int) (A5 A6:Nat->Int),sJ ⟨[],[],[bH],[A5,A6],[],[],[]⟩->
 bf (bH<8) (
 ay (0<=bH) (
 fj (bH+1) ((
 ∃(vr:Int) (Dq HN:Nat->Int),vr=(bH+1)/\(∀j,j<8->Dq j=(au A5 (ag bH) (ae .u32 ((A5 (ag bH))+(A6 (ag bH))))) j)/\(∀j,j<8->HN j=A6 j)/\Dn sJ HJ ⟨[],[],[vr],[Dq,HN],[],[],[]⟩ ⟨[],[],[bH],[A5,A6],[],[],[]⟩)))) (
 al (.tuple #[]) [ak b0 true ([v0.v,v1.v,.int .i64 4,.int .i64 2,.int .i64 13,.int .i64 22,.int .i64 6,.int .i64 11,.int .i64 25,.int .i64 7,.int .i64 18,.int .i64 3,.int .i64 17,.int .i64 19,.int .i64 10]),aA true 39 1 v0.v 8 (aG 8 [ax .u32 1 A5]),aA true 39 1 v1.v 64 (aG 64 [ax .u32 1 A1])]))))
theorem TN(al:PT)(A0 A1 A2:Nat->Int)(v0 v1 v2:V1)(b0:Nat)(h:H3 al A0 A1 A2 v0 v1 v2 b0):ao ax8 98 [.pointer (some ⟨b0,0,none⟩),v2.v] [ak b0 true ([v0.v,v1.v,.int .i64 4,.int .i64 2,.int .i64 13,.int .i64 22,.int .i64 6,.int .i64 11,.int .i64 25,.int .i64 7,.int .i64 18,.int .i64 3,.int .i64 17,.int .i64 19,.int .i64 10]),aA true 39 1 v0.v 8 (aG 8 [ax .u32 1 A0]),aA true 39 1 v1.v 64 (aG 64 [ax .u32 1 A1]),bn false v2 64 A2] al:=
 qv (C:=Fm.cx) [.ptr 0 0,.vv 2] [.row 0 true [.vv 0,.vv 1,.int .i64 (.lit 4),.int .i64 (.lit 2),.int .i64 (.lit 13),.int .i64 (.lit 22),.int .i64 (.lit 6),.int .i64 (.lit 11),.int .i64 (.lit 25),.int .i64 (.lit 7),.int .i64 (.lit 18),.int .i64 (.lit 3),.int .i64 (.lit 17),.int .i64 (.lit 19),.int .i64 (.lit 10)],.cF true 0 39 1 (.lit 8) [⟨.int .u32,1,.cM 0⟩],.cF true 1 39 1 (.lit 64) [⟨.int .u32,1,.cM 1⟩],.cF false 2 5 1 (.lit 64) [⟨.int .u8,1,.cM 2⟩]] ⟨1,3,0,3,0,0,0⟩ ⟨[],[A0,A1,A2],[],[b0],[v0,v1,v2],[],[],[]⟩ 3 Tryz.func98 (by kernel_rfl) h
def D2(al:PT):Prop:=
 ∀(b0 b1:Nat) (_:V1) (b2:Nat) (_:V1) (b3:Nat) (_:V1) (b4:Nat) (_:V1) (b5:Nat) (_:V1) (b6:Nat) (_:V1) (b7:Nat) (_:V1) (b8:Nat) (v7:V1) (b9 y4:Nat) (_:V1) (DR:Nat) (_:V1) (Mb:Nat) (_:V1) (Jf:Nat) (_:V1) (Xd:Nat) (_:V1) (b15:Nat) (_:V1) (b16:Nat) (_:V1) (b17:Nat) (_:V1) (b18:Nat) (_:V1) (b19:Nat) (_:V1) (b20:Nat) (_:V1) (Qc:Nat) (_:V1) (b22:Nat) (_:V1) (b23:Nat) (_:V1) (b24:Nat) (_:V1) (b25:Nat) (_:V1) (b26:Nat) (_:V1) (b27:Nat) (_:V1) (b28:Nat) (_:V1) (b29:Nat) (_:V1) (b30:Nat) (_:V1) (b31:Nat) (_:V1) (b32:Nat) (_:V1) (b33:Nat) (_:V1) (b34:Nat) (_:V1) (b35:Nat) (_:V1) (b36:Nat) (_:V1) (b37:Nat) (_:V1) (b38:Nat) (_:V1) (b39:Nat) (_:V1) (b40:Nat) (_:V1) (b41:Nat) (_:V1) (b42:Nat) (_:V1) (b43:Nat) (_:V1) (b44:Nat) (_:V1) (b45:Nat) (_:V1) (b46:Nat) (_:V1) (b47:Nat) (_:V1) (b48:Nat) (_:V1) (b49:Nat) (_:V1) (b50:Nat) (_:V1) (b51:Nat) (_:V1) (b52:Nat) (_:V1) (b53:Nat) (_:V1) (b54:Nat) (_:V1) (b55:Nat) (_:V1) (b56:Nat) (_:V1) (b57:Nat) (_:V1) (b58:Nat) (_:V1) (b59:Nat) (_:V1) (b60:Nat) (_:V1) (b61:Nat) (_:V1) (b62:Nat) (_:V1) (b63:Nat) (_:V1) (b64:Nat) (_:V1) (b65:Nat) (_:V1) (b66:Nat) (_:V1) (b67:Nat) (_:V1) (b68:Nat) (_:V1) (b69:Nat) (_:V1) (b70:Nat) (_:V1) (b71:Nat) (_:V1) (b72:Nat) (_:V1) (b73:Nat) (v71:V1) (b74:Nat),al (.pointer (some ⟨b74,0,none⟩)) [ak b0 true ([.int .u64 7640891576956012808,.int .u64 13503953896175478587,.int .u64 4354685564936845355,.int .u64 11912009170470909681,.int .u64 5840696475078001361,.int .u64 11170449401992604703,.int .u64 2270897969802886507,.int .u64 6620516959819538809]),ak b1 true ([.int .u32 1779033703]),aA true 39 1 v7.v 8 (aG 8 [ax .u32 1 (au (au (au (au (au (au (au (au (λ_=>0) 0 1779033703) 1 3144134277) 2 1013904242) 3 2773480762) 4 1359893119) 5 2600822924) 6 528734635) 7 1541459225)]),ak b2 true ([.int .u32 3144134277]),ak b3 true ([.int .u32 1013904242]),ak b4 true ([.int .u32 2773480762]),ak b5 true ([.int .u32 1359893119]),ak b6 true ([.int .u32 2600822924]),ak b7 true ([.int .u32 528734635]),ak b8 true ([.int .u32 1541459225]),ak b9 true ([.int .u64 4794697086780616226,.int .u64 8158064640168781261,.int .u64 13096744586834688815,.int .u64 16840607885511220156,.int .u64 4131703408338449720,.int .u64 6480981068601479193,.int .u64 10538285296894168987,.int .u64 12329834152419229976,.int .u64 15566598209576043074,.int .u64 1334009975649890238,.int .u64 2608012711638119052,.int .u64 6128411473006802146,.int .u64 8268148722764581231,.int .u64 9286055187155687089,.int .u64 11230858885718282805,.int .u64 13951009754708518548,.int .u64 16472876342353939154,.int .u64 17275323862435702243,.int .u64 1135362057144423861,.int .u64 2597628984639134821,.int .u64 3308224258029322869,.int .u64 5365058923640841347,.int .u64 6679025012923562964,.int .u64 8573033837759648693,.int .u64 10970295158949994411,.int .u64 12119686244451234320,.int .u64 12683024718118986047,.int .u64 13788192230050041572,.int .u64 14330467153632333762,.int .u64 15395433587784984357,.int .u64 489312712824947311,.int .u64 1452737877330783856,.int .u64 2861767655752347644,.int .u64 3322285676063803686,.int .u64 5560940570517711597,.int .u64 5996557281743188959,.int .u64 7280758554555802590,.int .u64 8532644243296465576,.int .u64 9350256976987008742,.int .u64 10552545826968843579,.int .u64 11727347734174303076,.int .u64 12113106623233404929,.int .u64 14000437183269869457,.int .u64 14369950271660146224,.int .u64 15101387698204529176,.int .u64 15463397548674623760,.int .u64 17586052441742319658,.int .u64 1182934255886127544,.int .u64 1847814050463011016,.int .u64 2177327727835720531,.int .u64 2830643537854262169,.int .u64 3796741975233480872,.int .u64 4115178125766777443,.int .u64 5681478168544905931,.int .u64 6601373596472566643,.int .u64 7507060721942968483,.int .u64 8399075790359081724,.int .u64 8693463985226723168,.int .u64 9568029438360202098,.int .u64 10144078919501101548,.int .u64 10430055236837252648,.int .u64 11840083180663258601,.int .u64 13761210420658862357,.int .u64 14299343276471374635,.int .u64 14566680578165727644,.int .u64 15097957966210449927,.int .u64 16922976911328602910,.int .u64 17689382322260857208,.int .u64 500013540394364858,.int .u64 748580250866718886,.int .u64 1242879168328830382,.int .u64 1977374033974150939,.int .u64 2944078676154940804,.int .u64 3659926193048069267,.int .u64 4368137639120453308,.int .u64 4836135668995329356,.int .u64 5532061633213252278,.int .u64 6448918945643986474,.int .u64 6902733635092675308,.int .u64 7801388544844847127]),ak y4 true ([.int .u32 1116352408]),aA true 39 1 v71.v 64 (aG 64 [ax .u32 1 (au (au (au (au (au (au (au (au (au (au (au (au (au (au (au (au (au (au (au (au (au (au (au (au (au (au (au (au (au (au (au (au (au (au (au (au (au (au (au (au (au (au (au (au (au (au (au (au (au (au (au (au (au (au (au (au (au (au (au (au (au (au (au (au (λ_=>0) 0 1116352408) 1 1899447441) 2 3049323471) 3 3921009573) 4 961987163) 5 1508970993) 6 2453635748) 7 2870763221) 8 3624381080) 9 310598401) 10 607225278) 11 1426881987) 12 1925078388) 13 2162078206) 14 2614888103) 15 3248222580) 16 3835390401) 17 4022224774) 18 264347078) 19 604807628) 20 770255983) 21 1249150122) 22 1555081692) 23 1996064986) 24 2554220882) 25 2821834349) 26 2952996808) 27 3210313671) 28 3336571891) 29 3584528711) 30 113926993) 31 338241895) 32 666307205) 33 773529912) 34 1294757372) 35 1396182291) 36 1695183700) 37 1986661051) 38 2177026350) 39 2456956037) 40 2730485921) 41 2820302411) 42 3259730800) 43 3345764771) 44 3516065817) 45 3600352804) 46 4094571909) 47 275423344) 48 430227734) 49 506948616) 50 659060556) 51 883997877) 52 958139571) 53 1322822218) 54 1537002063) 55 1747873779) 56 1955562222) 57 2024104815) 58 2227730452) 59 2361852424) 60 2428436474) 61 2756734187) 62 3204031479) 63 3329325298)]),ak DR true ([.int .u32 1899447441]),ak Mb true ([.int .u32 3049323471]),ak Jf true ([.int .u32 3921009573]),ak Xd true ([.int .u32 961987163]),ak b15 true ([.int .u32 1508970993]),ak b16 true ([.int .u32 2453635748]),ak b17 true ([.int .u32 2870763221]),ak b18 true ([.int .u32 3624381080]),ak b19 true ([.int .u32 310598401]),ak b20 true ([.int .u32 607225278]),ak Qc true ([.int .u32 1426881987]),ak b22 true ([.int .u32 1925078388]),ak b23 true ([.int .u32 2162078206]),ak b24 true ([.int .u32 2614888103]),ak b25 true ([.int .u32 3248222580]),ak b26 true ([.int .u32 3835390401]),ak b27 true ([.int .u32 4022224774]),ak b28 true ([.int .u32 264347078]),ak b29 true ([.int .u32 604807628]),ak b30 true ([.int .u32 770255983]),ak b31 true ([.int .u32 1249150122]),ak b32 true ([.int .u32 1555081692]),ak b33 true ([.int .u32 1996064986]),ak b34 true ([.int .u32 2554220882]),ak b35 true ([.int .u32 2821834349]),ak b36 true ([.int .u32 2952996808]),ak b37 true ([.int .u32 3210313671]),ak b38 true ([.int .u32 3336571891]),ak b39 true ([.int .u32 3584528711]),ak b40 true ([.int .u32 113926993]),ak b41 true ([.int .u32 338241895]),ak b42 true ([.int .u32 666307205]),ak b43 true ([.int .u32 773529912]),ak b44 true ([.int .u32 1294757372]),ak b45 true ([.int .u32 1396182291]),ak b46 true ([.int .u32 1695183700]),ak b47 true ([.int .u32 1986661051]),ak b48 true ([.int .u32 2177026350]),ak b49 true ([.int .u32 2456956037]),ak b50 true ([.int .u32 2730485921]),ak b51 true ([.int .u32 2820302411]),ak b52 true ([.int .u32 3259730800]),ak b53 true ([.int .u32 3345764771]),ak b54 true ([.int .u32 3516065817]),ak b55 true ([.int .u32 3600352804]),ak b56 true ([.int .u32 4094571909]),ak b57 true ([.int .u32 275423344]),ak b58 true ([.int .u32 430227734]),ak b59 true ([.int .u32 506948616]),ak b60 true ([.int .u32 659060556]),ak b61 true ([.int .u32 883997877]),ak b62 true ([.int .u32 958139571]),ak b63 true ([.int .u32 1322822218]),ak b64 true ([.int .u32 1537002063]),ak b65 true ([.int .u32 1747873779]),ak b66 true ([.int .u32 1955562222]),ak b67 true ([.int .u32 2024104815]),ak b68 true ([.int .u32 2227730452]),ak b69 true ([.int .u32 2361852424]),ak b70 true ([.int .u32 2428436474]),ak b71 true ([.int .u32 2756734187]),ak b72 true ([.int .u32 3204031479]),ak b73 true ([.int .u32 3329325298]),ak b74 true ([v7.v,v71.v,.int .i64 4,.int .i64 2,.int .i64 13,.int .i64 22,.int .i64 6,.int .i64 11,.int .i64 25,.int .i64 7,.int .i64 18,.int .i64 3,.int .i64 17,.int .i64 19,.int .i64 10])]
theorem O_(al:PT)(h:D2 al):ao ax8 46 [] [] al:=
 vm (C:=Fm.cx) [] [] ⟨0,0,0,0,0,0,0⟩ ⟨[],[],[],[],[],[],[],[]⟩ Tryz.func46 (by kernel_rfl) h
end Go.RX.Fm

namespace Go.RX.Sh
open Go.RX
def ia(x n:Nat):Nat:=x/2^n+x*2^(32 - n)%2^32
def s0(x:Nat):Nat:=ia x 7^^^ia x 18^^^x/2^3
def s1(x:Nat):Nat:=ia x 17^^^ia x 19^^^x/2^10
def S0(x:Nat):Nat:=ia x 2^^^ia x 13^^^ia x 22
def S1(x:Nat):Nat:=ia x 6^^^ia x 11^^^ia x 25
def ch(x y z:Nat):Nat:=(x &&& y)^^^((2^32 - 1 - x) &&& z)
def Zv(x y z:Nat):Nat:=(x &&& y)^^^(x &&& z)^^^(y &&& z)
def word(B:Nat->Nat)(t:Nat):Nat:=((B (4*t)*256+B (4*t+1))*256+B (4*t+2))*256+B (4*t+3)
def iu(B:Nat->Nat):Nat->Nat->Nat
 | 0=>λt=>if t<16 then word B t else 0
 | n+1=>λt=>if t=n+16 then(s1 (iu B n (n+14))+iu B n (n+9)+s0 (iu B n (n+1))+iu B n n)%2^32 else iu B n t
def temp(v:Nat->Nat)(k w:Nat):Nat:=(v 7+S1 (v 4)+ch (v 4) (v 5) (v 6)+k+w)%2^32
def step(v:Nat->Nat)(k w j:Nat):Nat:=
 if j=0 then(temp v k w+(S0 (v 0)+Zv (v 0) (v 1) (v 2))%2^32)%2^32
 else if j=4 then(v 3+temp v k w)%2^32
 else if j<8 then v (j - 1)else 0
theorem TO(v:Nat->Nat)(k w:Nat):step v k w 0=(temp v k w+(S0 (v 0)+Zv (v 0) (v 1) (v 2))%2^32)%2^32:=by
 unfold step;rw[if_pos rfl]
theorem TP(v:Nat->Nat)(k w:Nat):step v k w 4=(v 3+temp v k w)%2^32:=by
 unfold step;rw[if_neg (by decide),if_pos rfl]
theorem ng(v:Nat->Nat)(k w:Nat){j:Nat}(h0:j≠0)(h4:j≠4)(h8:j<8):step v k w j=v (j - 1):=by
 unfold step;rw[if_neg h0,if_neg h4,if_pos h8]
def XI(K W H:Nat->Nat):Nat->Nat->Nat
 | 0=>H
 | n+1=>step (XI K W H n) (K n) (W n)
def comp(K H B:Nat->Nat)(j:Nat):Nat:=(H j+XI K (iu B 48) H 64 j)%2^32
theorem gX{a b n:Nat}(ha:a<2^n)(hb:b<2^n):a^^^b<2^n:=Nat.xor_lt_two_pow ha hb
theorem gY{a b n:Nat}(ha:a<2^n):a &&& b<2^n:=Nat.lt_of_le_of_lt Nat.and_le_left ha
theorem c_{x n:Nat}(hx:x<2^32)(hn:n<=32):ia x n<2^32:=by
 unfold ia;have h1:x*2^(32 - n)%2^32=x%2^n*2^(32 - n):=by
  have:(2:Nat)^32=2^n*2^(32 - n):=by rw[<-Nat.pow_add];congr 1;omega
  rw[this,Nat.mul_mod_mul_right]
 rw[h1];have h2:x/2^n<2^(32 - n):=by
  apply Nat.div_lt_of_lt_mul;rw[<-Nat.pow_add]
  rwa[show n+(32 - n)=32 by omega]
 have h3:x%2^n<2^n:=Nat.mod_lt _ (Nat.two_pow_pos n);have h4:(x%2^n+1)*2^(32 - n)<=2^n*2^(32 - n):=Nat.mul_le_mul_right _ h3;rw[<-Nat.pow_add,show n+(32 - n)=32 by omega,Nat.add_mul]at h4;omega
theorem XJ{x n:Nat}(hx:x<2^32)(hn:n<=32):(x >>> n)|||(x*2^(32 - n)%2^32)=ia x n:=by
 unfold ia;have h1:x*2^(32 - n)%2^32=2^(32 - n)*(x%2^n):=by
  have:(2:Nat)^32=2^n*2^(32 - n):=by rw[<-Nat.pow_add];congr 1;omega
  rw[this,Nat.mul_mod_mul_right,Nat.mul_comm]
 have h2:x/2^n<2^(32 - n):=by
  apply Nat.div_lt_of_lt_mul;rw[<-Nat.pow_add]
  rwa[show n+(32 - n)=32 by omega]
 rw[h1,Nat.shiftRight_eq_div_pow,Nat.or_comm,<-Nat.two_pow_add_eq_or_of_lt h2,Nat.add_comm]
theorem wrap_u32(n:Nat):ae .u32 (n:Int)=((n%2^32:Nat):Int):=by
 simp[ae,IntKind.signed,IntKind.bits]
theorem wrap_u64(n:Nat):ae .u64 (n:Int)=((n%2^64:Nat):Int):=by
 simp[ae,IntKind.signed,IntKind.bits]
theorem wrap_u8(n:Nat):ae .u8 (n:Int)=((n%2^8:Nat):Int):=by
 simp[ae,IntKind.signed,IntKind.bits]
theorem fT(w n:Nat):(BitVec.ofInt w (n:Int)).toNat=n%2^w:=by
 simp
theorem y9{a b:Nat}(ha:a<2^32)(hb:b<2^32):ar .cQ .u32 (a:Int) (b:Int)=((a^^^b:Nat):Int):=by
 show ae .u32 ((BitVec.ofInt 32 (a:Int)^^^BitVec.ofInt 32 (b:Int)).toNat:Int)=_;rw[wrap_u32,BitVec.toNat_xor,fT,fT,Nat.mod_eq_of_lt ha,Nat.mod_eq_of_lt hb,Nat.mod_eq_of_lt (gX ha hb)]
theorem H4{a b:Nat}(ha:a<2^32)(hb:b<2^32):ar .gO .u32 (a:Int) (b:Int)=((a &&& b:Nat):Int):=by
 show ae .u32 ((BitVec.ofInt 32 (a:Int) &&& BitVec.ofInt 32 (b:Int)).toNat:Int)=_;rw[wrap_u32,BitVec.toNat_and,fT,fT,Nat.mod_eq_of_lt ha,Nat.mod_eq_of_lt hb,Nat.mod_eq_of_lt (gY ha)]
theorem ahq{a b:Nat}(ha:a<2^32)(hb:b<2^32):ar .cU .u32 (a:Int) (b:Int)=((a|||b:Nat):Int):=by
 show ae .u32 ((BitVec.ofInt 32 (a:Int)|||BitVec.ofInt 32 (b:Int)).toNat:Int)=_;rw[wrap_u32,BitVec.toNat_or,fT,fT,Nat.mod_eq_of_lt ha,Nat.mod_eq_of_lt hb,Nat.mod_eq_of_lt (Nat.or_lt_two_pow ha hb)]
theorem ahr{a b:Nat}(ha:a<2^64)(hb:b<2^64):ar .cQ .u64 (a:Int) (b:Int)=((a^^^b:Nat):Int):=by
 show ae .u64 ((BitVec.ofInt 64 (a:Int)^^^BitVec.ofInt 64 (b:Int)).toNat:Int)=_;rw[wrap_u64,BitVec.toNat_xor,fT,fT,Nat.mod_eq_of_lt ha,Nat.mod_eq_of_lt hb,Nat.mod_eq_of_lt (gX ha hb)]
theorem ahs{a b:Nat}(ha:a<2^64)(hb:b<2^64):ar .gO .u64 (a:Int) (b:Int)=((a &&& b:Nat):Int):=by
 show ae .u64 ((BitVec.ofInt 64 (a:Int) &&& BitVec.ofInt 64 (b:Int)).toNat:Int)=_;rw[wrap_u64,BitVec.toNat_and,fT,fT,Nat.mod_eq_of_lt ha,Nat.mod_eq_of_lt hb,Nat.mod_eq_of_lt (gY ha)]
theorem tu(k:IntKind)(a n:Nat)(hn:n<=k.bits):ar .shr k (a:Int) (n:Int)=((a >>> n:Nat):Int):=by
 show Int.fdiv (a:Int) (2^(min (n:Int).toNat k.bits))=_;rw[ax3,Nat.min_eq_left hn,Nat.shiftRight_eq_div_pow,Int.fdiv_eq_ediv_of_nonneg _ (by exact Int.le_of_lt (Int.pow_pos (by decide)))];rw[Int.natCast_ediv,Int.natCast_pow];rfl
theorem Zw(a n:Nat)(hn:n<=32):ar .shl .u32 (a:Int) (n:Int)=((a*2^n%2^32:Nat):Int):=by
 show ae .u32 ((a:Int)*2^(min (n:Int).toNat 32))=_;rw[ax3,Nat.min_eq_left hn];have:(a:Int)*2^n=((a*2^n:Nat):Int):=by rw[Int.natCast_mul,Int.natCast_pow];rfl
 rw[this,wrap_u32]
theorem H5{x n:Nat}(hx:x<2^32)(hn:n<=32):ar .cU .u32 (ar .shr .u32 (x:Int) (n:Int)) (ar .shl .u32 (x:Int) ((32 - n:Nat):Int))=((ia x n:Nat):Int):=by
 rw[tu .u32 x n hn,Zw x (32 - n) (by omega),ahq (Nat.lt_of_le_of_lt (by rw[Nat.shiftRight_eq_div_pow];exact Nat.div_le_self _ _) hx) (Nat.mod_lt _ (by decide)),XJ hx hn]
theorem tB{x n:Nat}(hx:x<2^32):x/2^n<2^32:=Nat.lt_of_le_of_lt (Nat.div_le_self _ _) hx
theorem aht{x:Nat}(hx:x<2^32):s0 x<2^32:=gX (gX (c_ hx (by decide)) (c_ hx (by decide))) (tB hx)
theorem ahu{x:Nat}(hx:x<2^32):s1 x<2^32:=gX (gX (c_ hx (by decide)) (c_ hx (by decide))) (tB hx)
theorem ahv{x:Nat}(hx:x<2^32):S0 x<2^32:=gX (gX (c_ hx (by decide)) (c_ hx (by decide))) (c_ hx (by decide))
theorem ahw{x:Nat}(hx:x<2^32):S1 x<2^32:=gX (gX (c_ hx (by decide)) (c_ hx (by decide))) (c_ hx (by decide))
theorem ahx{x y z:Nat}(hx:x<2^32):ch x y z<2^32:=gX (gY hx) (gY (by omega))
theorem acI{x y z:Nat}(hx:x<2^32)(hy:y<2^32):Zv x y z<2^32:=gX (gX (gY hx) (gY hx)) (gY hy)
theorem pS{x a b c:Nat}(hx:x<2^32)(ha:a<=32)(hb:b<=32)(hc:c<=32):
  ar .cQ .u32 (ar .cQ .u32 (ar .cU .u32 (ar .shr .u32 (x:Int) (a:Int)) (ar .shl .u32 (x:Int) ((32 - a:Nat):Int))) (ar .cU .u32 (ar .shr .u32 (x:Int) (b:Int)) (ar .shl .u32 (x:Int) ((32 - b:Nat):Int))))
   (ar .cU .u32 (ar .shr .u32 (x:Int) (c:Int)) (ar .shl .u32 (x:Int) ((32 - c:Nat):Int)))=((ia x a^^^ia x b^^^ia x c:Nat):Int):=by
 rw[H5 hx ha,H5 hx hb,H5 hx hc,y9 (c_ hx ha) (c_ hx hb),y9 (gX (c_ hx ha) (c_ hx hb)) (c_ hx hc)]
theorem ps{x a b c:Nat}(hx:x<2^32)(ha:a<=32)(hb:b<=32)(hc:c<=32):
  ar .cQ .u32 (ar .cQ .u32 (ar .cU .u32 (ar .shr .u32 (x:Int) (a:Int)) (ar .shl .u32 (x:Int) ((32 - a:Nat):Int))) (ar .cU .u32 (ar .shr .u32 (x:Int) (b:Int)) (ar .shl .u32 (x:Int) ((32 - b:Nat):Int))))
   (ar .shr .u32 (x:Int) (c:Int))=((ia x a^^^ia x b^^^x/2^c:Nat):Int):=by
 rw[H5 hx ha,H5 hx hb,tu .u32 x c hc,y9 (c_ hx ha) (c_ hx hb),Nat.shiftRight_eq_div_pow,y9 (gX (c_ hx ha) (c_ hx hb)) (tB hx)]
theorem anW{x:Nat}(hx:x<2^32):ar .cQ .u32 (ar .cQ .u32 (ar .cU .u32 (ar .shr .u32 (x:Int) 7) (ar .shl .u32 (x:Int) 25)) (ar .cU .u32 (ar .shr .u32 (x:Int) 18) (ar .shl .u32 (x:Int) 14))) (ar .shr .u32 (x:Int) 3)=((s0 x:Nat):Int):=
 ps (a:=7) (b:=18) (c:=3) hx (by decide) (by decide) (by decide)
theorem anX{x:Nat}(hx:x<2^32):ar .cQ .u32 (ar .cQ .u32 (ar .cU .u32 (ar .shr .u32 (x:Int) 17) (ar .shl .u32 (x:Int) 15)) (ar .cU .u32 (ar .shr .u32 (x:Int) 19) (ar .shl .u32 (x:Int) 13))) (ar .shr .u32 (x:Int) 10)=((s1 x:Nat):Int):=
 ps (a:=17) (b:=19) (c:=10) hx (by decide) (by decide) (by decide)
theorem anY{x:Nat}(hx:x<2^32):ar .cQ .u32 (ar .cQ .u32 (ar .cU .u32 (ar .shr .u32 (x:Int) 2) (ar .shl .u32 (x:Int) 30)) (ar .cU .u32 (ar .shr .u32 (x:Int) 13) (ar .shl .u32 (x:Int) 19))) (ar .cU .u32 (ar .shr .u32 (x:Int) 22) (ar .shl .u32 (x:Int) 10))=((S0 x:Nat):Int):=
 pS (a:=2) (b:=13) (c:=22) hx (by decide) (by decide) (by decide)
theorem anZ{x:Nat}(hx:x<2^32):ar .cQ .u32 (ar .cQ .u32 (ar .cU .u32 (ar .shr .u32 (x:Int) 6) (ar .shl .u32 (x:Int) 26)) (ar .cU .u32 (ar .shr .u32 (x:Int) 11) (ar .shl .u32 (x:Int) 21))) (ar .cU .u32 (ar .shr .u32 (x:Int) 25) (ar .shl .u32 (x:Int) 7))=((S1 x:Nat):Int):=
 pS (a:=6) (b:=11) (c:=25) hx (by decide) (by decide) (by decide)
theorem ahy{x:Nat}(hx:x<2^32):(4294967295:Nat)^^^x=2^32 - 1 - x:=by
 have h:=Nat.xor_comm 4294967295 x;apply Nat.eq_of_testBit_eq;intro i;rw[Nat.testBit_xor,show(4294967295:Nat)=2^32 - 1 from rfl,Nat.testBit_two_pow_sub_one,show 2^32 - 1 - x=2^32 - (x+1) by omega,Nat.testBit_two_pow_sub_succ hx];by_cases hi:i<32
 .simp [hi]
 .have:x.testBit i=false:=Nat.testBit_lt_two_pow (ax7 hx (Nat.pow_le_pow_right (by decide) (by omega)));simp[hi,this]
theorem an0{x y z:Nat}(hx:x<2^32)(hy:y<2^32)(hz:z<2^32):ar .cQ .u32 (ar .gO .u32 (x:Int) (y:Int)) (ar .gO .u32 (ar .cQ .u32 4294967295 (x:Int)) (z:Int))=((ch x y z:Nat):Int):=by
 have h1:ar .cQ .u32 4294967295 (x:Int)=((2^32 - 1 - x:Nat):Int):=by
  rw[<-ahy hx];exact y9 (a:=4294967295) (by decide) hx
 rw[h1,H4 hx hy,H4 (by omega) hz,y9 (gY hx) (gY (by omega))];rfl
theorem ahz{x y z:Nat}(hx:x<2^32)(hy:y<2^32)(hz:z<2^32):ar .cQ .u32 (ar .cQ .u32 (ar .gO .u32 (x:Int) (y:Int)) (ar .gO .u32 (x:Int) (z:Int))) (ar .gO .u32 (y:Int) (z:Int))=((Zv x y z:Nat):Int):=by
 rw[H4 hx hy,H4 hx hz,H4 hy hz,y9 (gY hx) (gY hx),y9 (gX (gY hx) (gY hx)) (gY hy)];rfl
theorem sR(a b:Nat):ae .u32 ((a:Int)+(b:Int))=(((a+b)%2^32:Nat):Int):=by rw[<-Int.natCast_add,wrap_u32]
theorem Ku{B:Nat->Nat}(hB: ∀j,j<64->B j<256): ∀(n t:Nat),iu B n t<2^32
 | 0,t=>by
  unfold iu;split
  .rename_i h;have h0:=hB (4*t) (by omega);have h1:=hB (4*t+1) (by omega);have h2:=hB (4*t+2) (by omega);have h3:=hB (4*t+3) (by omega);unfold word;omega
  .decide
 | n+1,t=>by
  unfold iu;split
  .exact Nat.mod_lt _ (by decide)
  .exact Ku hB n t
theorem XK{v:Nat->Nat}(hv: ∀j,j<8->v j<2^32)(k w:Nat)(j:Nat)(hj:j<8):step v k w j<2^32:=by
 have hp:0<2^32:=Nat.two_pow_pos 32;unfold step;split
 .exact Nat.mod_lt _ hp
 .split
  .exact Nat.mod_lt _ hp
  .exact hv _ (by omega)
theorem Kv{K W H:Nat->Nat}(hH: ∀j,j<8->H j<2^32): ∀n j,j<8->XI K W H n j<2^32
 | 0=>hH
 | n+1=>XK (Kv hH n) _ _
theorem XL{K H B:Nat->Nat}(j:Nat):comp K H B j<2^32:=Nat.mod_lt _ (by decide)
def fill(B:Nat->Nat):Nat->Nat->Nat
 | 0=>λ_=>0
 | i+1=>λt=>if t=i/4 then(fill B i (i/4)*256%2^32)|||B i else fill B i t
def part(B:Nat->Nat)(t:Nat):Nat->Nat
 | 0=>0
 | k+1=>part B t k*256+B (4*t+k)
theorem Mh{B:Nat->Nat}{t:Nat}(hB: ∀j,j<64->B j<256)(ht:t<16): ∀k,k<=4->part B t k<256^k
 | 0,_=>by simp[part]
 | k+1,hk=>by
  have:=Mh hB ht k (by omega);have h:=hB (4*t+k) (by omega);unfold part;rw[Nat.pow_succ];omega
theorem yf{B:Nat->Nat}(hB: ∀j,j<64->B j<256): ∀(i t:Nat),i<=64->fill B i t=if 4*t+4<=i then part B t 4 else if 4*t<i then part B t (i - 4*t)else 0
 | 0,t,_=>by
  rw[if_neg (by omega),if_neg (by omega)];rfl
 | i+1,t,hi=>by
  unfold fill;split
  .rename_i ht;subst ht;have ih:=yf hB i (i/4) (by omega);have hi4:i=4*(i/4)+(i - 4*(i/4)):=by omega
   have hk:i - 4*(i/4)<4:=by omega
   generalize hq:i/4=q at*;obtain⟨k,eJ⟩: ∃k,k=i - 4*q:=⟨_,rfl⟩;have ahA:fill B i q=part B q k:=by
    rw[ih,if_neg (by omega)];split
    .rw [eJ]
    .have:k=0:=by omega
     rw[this];rfl
   have hp:=Mh hB (show q<16 by omega) k (by omega);have hb:=hB i (by omega);have auK:(256:Nat)^k<=256^3:=Nat.pow_le_pow_right (by decide) (by omega);rw[ahA,Nat.mod_eq_of_lt (by omega),show part B q k*256=2^8*part B q k by omega,<-Nat.two_pow_add_eq_or_of_lt (by omega)];have hpk:2^8*part B q k+B i=part B q (k+1):=by
    rw[part,show 4*q+k=i by omega];omega
   rw[hpk];by_cases h4:4*q+4<=i+1
   .rw [if_pos h4,show k+1=4 by omega]
   .rw [if_neg h4,if_pos (by omega),show i+1 - 4*q=k+1 by omega]
  .rename_i ht;rw[yf hB i t (by omega)];by_cases h4:4*t+4<=i
   .rw [if_pos h4,if_pos (by omega)]
   .have h5: ¬4*t<i:=by omega
    rw[if_neg h4,if_neg h5,if_neg (by omega),if_neg (by omega)]
theorem TQ{B:Nat->Nat}(hB: ∀j,j<64->B j<256)(t:Nat):fill B 64 t=iu B 0 t:=by
 rw[yf hB 64 t (Nat.le_refl _)];unfold iu;by_cases ht:t<16
 .rw [if_pos ht,if_pos (by omega)];simp only[part,word,Nat.add_zero,Nat.zero_mul,Nat.zero_add]
 .rw [if_neg ht,if_neg (by omega),if_neg (by omega)]
def an1:List Nat:=[4794697086780616226,8158064640168781261,13096744586834688815,16840607885511220156,4131703408338449720,6480981068601479193,10538285296894168987,12329834152419229976,15566598209576043074,1334009975649890238,2608012711638119052,6128411473006802146,8268148722764581231,9286055187155687089,11230858885718282805,13951009754708518548,16472876342353939154,17275323862435702243,1135362057144423861,2597628984639134821,3308224258029322869,5365058923640841347,6679025012923562964,8573033837759648693,10970295158949994411,12119686244451234320,12683024718118986047,13788192230050041572,14330467153632333762,15395433587784984357,489312712824947311,1452737877330783856,2861767655752347644,3322285676063803686,5560940570517711597,5996557281743188959,7280758554555802590,8532644243296465576,9350256976987008742,10552545826968843579,11727347734174303076,12113106623233404929,14000437183269869457,14369950271660146224,15101387698204529176,15463397548674623760,17586052441742319658,1182934255886127544,1847814050463011016,2177327727835720531,2830643537854262169,3796741975233480872,4115178125766777443,5681478168544905931,6601373596472566643,7507060721942968483,8399075790359081724,8693463985226723168,9568029438360202098,10144078919501101548,10430055236837252648,11840083180663258601,13761210420658862357,14299343276471374635,14566680578165727644,15097957966210449927,16922976911328602910,17689382322260857208,500013540394364858,748580250866718886,1242879168328830382,1977374033974150939,2944078676154940804,3659926193048069267,4368137639120453308,4836135668995329356,5532061633213252278,6448918945643986474,6902733635092675308,7801388544844847127]
def an2:List Nat:=[7640891576956012808,13503953896175478587,4354685564936845355,11912009170470909681,5840696475078001361,11170449401992604703,2270897969802886507,6620516959819538809]
def K64(j:Nat):Nat:=an1.getD j 0
def K0(j:Nat):Nat:=K64 j/2^32
def H0(j:Nat):Nat:=an2.getD j 0/2^32
theorem ahB(j:Nat)(hj:j<64):K0 j<2^32:=by
 have: ∀j,j<64->K0 j<2^32:=by decide+kernel
 exact this j hj
theorem ahC(j:Nat)(hj:j<8):H0 j<2^32:=by
 have: ∀j,j<8->H0 j<2^32:=by decide+kernel
 exact this j hj
def bytesOf(C:Nat->Nat)(j:Nat):Nat:=C (j/4)/2^(24 - 8*(j%4))%256
theorem TR(C:Nat->Nat)(j:Nat):bytesOf C j<256:=Nat.mod_lt _ (by decide)
theorem cf(w s:Nat)(hs:s<=32):ae .u8 (ar .shr .u32 (w:Int) (s:Int))=((w/2^s%256:Nat):Int):=by
 rw[tu .u32 w s hs,wrap_u8,Nat.shiftRight_eq_div_pow]
end Go.RX.Sh

namespace Go.RX.Fk
open Go.RX Go.Proofs Go.RX.Fe Go.RX.Fg Go.RX.Fi Go.RX.Fj
noncomputable def cx:Ctx:={T:=TT,FT:=FT,loops:=Fk.loops,bj:=Fk.bj}
set_option maxRecDepth 100000
end Go.RX.Fk

namespace Go.RX.Fj
open Go.RX Go.Proofs Go.RX.Fe Go.RX.Fg Go.RX.Fi
noncomputable def cx:Ctx:={T:=TT,FT:=FT,loops:=Fj.loops,bj:=Fj.bj}
set_option maxRecDepth 100000
def Av(al:PT)(x0:Int):Prop:=
 ∃(bO:Ext->Prop) (dG:Ext->Nat),(∃x1 x2:Int,x1=0/\x2=1/\bO ⟨[],[],[x1,x2],[],[],[],[]⟩)/\
 ∀x1 x2:Int,bO ⟨[],[],[x1,x2],[],[],[],[]⟩->
 bf (x1<x0) (
 fj (x1+1) ((
 ∃jd fk:Int,jd=(x1+1)/\fk=(ae .u8 (2*x2))/\Dn bO dG ⟨[],[],[jd,fk],[],[],[],[]⟩ ⟨[],[],[x1,x2],[],[],[],[]⟩))) (
 al (.int .u8 x2) [])
end Go.RX.Fj

namespace Go.RX.Fg
open Go.RX Go.Proofs Go.RX.Fe
noncomputable def cx:Ctx:={T:=TT,FT:=FT,loops:=loops,bj:=bj}
set_option maxRecDepth 100000
end Go.RX.Fg

namespace Go.RX.Fe
open Go.RX Go.Proofs
noncomputable def cx:Ctx:={T:=TT,FT:=FT,loops:=loops,bj:=bj}
set_option maxRecDepth 100000
end Go.RX.Fe
