/- A call machine in memory. -/
import Derived.Test.YtphemenngjkfbaaM34
open Go.IntKind renaming i64 → agB, u8 → agu
open Go.Proofs.Try renaming prog → agQ
open Int renaming toNat → ag
open List renaming getD_cons_zero → ah, map_congr_left → ag4, mem_range → agJ
namespace Go.RX.Cy
open Go.RX Go.Proofs Go.Cp Go.RX.Cs Go.RX.Ct Go.RX.Cu Go.RX.Cv Go.RX.Cw
abbrev LI:=List Int
def yv(k:LI):Prop:= ∀v∈k,0≤v∧v<256
def VS(c:Nat):Prop:= ∃l:LI,l.length=16∧yv l∧bG l=c
structure In (i:Nat) (m:Mc LI) (x:MR):Prop where
 c:bD x.id=m.c
 out:(!(x.out==0))=m.out
 pa:0≤x.pa∧x.pa<2
 pd:0≤x.pd∧x.pd<2
 peer:fH x.pa x.pd=m.peer
 own:aN x.own 0 32=m.own
 off:aN x.off 0 32=m.off
 dM:aN x.dM 0 32=m.dM
 aP:x.aP=(m.aP:Int)
 since:x.since=(m.since:Int)
 heard:x.heard=(m.heard:Int)
 bO:x.bO=(m.bO:Int)
 bF:x.bF=(m.bF:Int)
 ac:x.ac=gQ i
structure Is (i:Nat) (m:Mc LI) (x:MR):Prop where
 a:x.a=((i/2:Nat):Int)
 d:x.d=((i%2:Nat):Int)
 wv:x.dv 0=2
 NI:x.dv 1=2
 st:x.st=(m.ph:Int)
 call:m.ph≠0→In i m x
structure DX where
 b3:Nat
 b4:Nat
 v0:V1
 cR:Int
 A9:Nat→Int
abbrev kH(i:Nat)(y:DX):List HP:=Mm.pw y.b4 4::YP y.b3 y.v0 (gQ i) y.cR y.A9
structure MX (m:Mc LI) (x:MR) (y:DX):Prop where
 b3:x.lO=(y.b3:Int)+1
 b4:x.early=(y.b4:Int)+1
 dec:y.A9 0=3∨y.A9 1=3→m.dec=true
def fC(i:Nat)(m:Mc LI)(x:MR):HP:=HP.ex fun y:{y:DX // m.ph=1→MX m x y}=>HP.star (if m.ph=1 then kH i y.1 else [])
abbrev ES(b1 i:Nat)(m:Mc LI)(x:MR):List HP:=[cD b1 x,Mm.bJ x.dead 256,fC i m x]
def cJ(b1 i:Nat)(m:Mc LI):HP:=HP.ex fun x:{x:MR // Is i m x}=>HP.star (ES b1 i m x.1)
theorem PF(i:Nat)(y:DX): ∀h∈kH i y,h.wr=true:=by
 intro h hh;simp only [kH,List.mem_cons,List.not_mem_nil,or_false]at hh;rcases hh with rfl | rfl | rfl<;>rfl
theorem VT(b1 i:Nat)(m:Mc LI)(x:MR): ∀h∈ES b1 i m x,h.wr=true:=by
 intro h hh;simp only [ES,List.mem_cons,List.not_mem_nil,or_false]at hh;rcases hh with rfl | rfl | rfl<;>rfl
theorem DO{i:Nat}{m:Mc LI}{x:MR}(y:DX)(hy:m.ph=1→MX m x y):aB (if m.ph=1 then kH i y else []) [fC i m x]:=by
 refine aB.trans (aB.star ?_) (aB.ex (F:=fun y:{y:DX // m.ph=1→MX m x y}=>HP.star (if m.ph=1 then kH i y.1 else [])) ⟨y,hy⟩ rfl);split
 ·exact PF i y
 ·exact fun _ h=>nomatch h
theorem MY{i:Nat}{m:Mc LI}{x:MR}(h:m.ph≠1):aB [] [fC i m x]:=by
 have:=DO (i:=i) (m:=m) (x:=x) ⟨0,0,⟨.slice none 0 0,rfl⟩,0,fun _=>0⟩ fun e=>absurd e h
 rwa [if_neg h]at this
theorem MZ{i:Nat}{m:Mc LI}{x:MR}(h:m.ph=1)(y:DX)(hy:MX m x y):aB (kH i y) [fC i m x]:=by
 have:=DO (i:=i) (m:=m) (x:=x) y fun _=>hy
 rwa [if_pos h]at this
theorem zp{b1 i:Nat}{m:Mc LI}{x:MR}(h:Is i m x):aB (ES b1 i m x) [cJ b1 i m]:=
 aB.trans (aB.star (VT b1 i m x)) (aB.ex (F:=fun x:{x:MR // Is i m x}=>HP.star (ES b1 i m x.1)) ⟨x,h⟩ rfl)
theorem vL{b1 i:Nat}{m:Mc LI}{x:MR}(h:Is i m x)(hp:m.ph≠1):aB [cD b1 x,Mm.bJ x.dead 256] [cJ b1 i m]:=by
 have h1:=aB.frame (MY (i:=i) (x:=x) hp) [cD b1 x,Mm.bJ x.dead 256];exact aB.trans h1 (aB.trans (gW [1,2,0] (by decide) rfl) (zp h))
theorem KT{b1 i:Nat}{m:Mc LI}{x:MR}(h:Is i m x)(hp:m.ph=1)(y:DX)(hy:MX m x y):aB (kH i y++[cD b1 x,Mm.bJ x.dead 256]) [cJ b1 i m]:=
 aB.trans (aB.frame (MZ hp y hy) [cD b1 x,Mm.bJ x.dead 256]) (aB.trans (gW [1,2,0] (by decide) rfl) (zp h))
theorem qf{b1 i f:Nat}{m:Mc LI}{args:List Value}{pre:List HP}{aq:Value→List HP→Prop}(h: ∀x,Is i m x→au agQ f args (ES b1 i m x++pre) aq):au agQ f args (cJ b1 i m::pre) aq:=
 au.ex fun x=>au.pre (h x.1 x.2) (aB.frame (aB.eQ (ES b1 i m x.1)) pre)
theorem M0{i f:Nat}{m:Mc LI}{x:MR}{args:List Value}{pre:List HP}{aq:Value→List HP→Prop}(hp:m.ph=1)(h: ∀y:DX,MX m x y→au agQ f args (kH i y++pre) aq):au agQ f args (fC i m x::pre) aq:=
 au.ex fun y=>au.pre (h y.1 (y.2 hp)) (aB.trans (aB.frame (aB.eQ _) pre) (by rw [if_pos hp];exact aB.refl _))
theorem sx{A B:Nat→Int}{n:Nat}(h:aN A 0 n=aN B 0 n)(j:Nat)(hj:j<n):A j=B j:=by
 have:=congrArg (fun l=>l[j]?) h;simpa [aN,hj] using this
theorem DP{A B:Nat→Int}{n:Nat}(h: ∀j,j<n→A j=B j):aN A 0 n=aN B 0 n:=
 ag4 fun j hj=>by simpa using h j (agJ.1 hj)
theorem jE(A:Nat→Int)(o n:Nat):(aN A o n).length=n:=by simp [aN]
theorem px{i:Nat}{m:Mc LI}{x:MR}(h:Is i m x)(hp:m.ph≠0)(A5:Nat→Int):nq x A5↔m.c=bD A5:=by
 rw [←(h.call hp).c];exact⟨fun e=>congrArg bG (DP e),fun e=>sx (jw (by simp [aN]) e)⟩
theorem Jg{a b c d:Int}(ha:0≤a∧a<2)(hb:0≤b∧b<2)(hc:0≤c∧c<2)(hd:0≤d∧d<2):fH a b=fH c d↔a=c∧b=d:=by
 unfold fH;omega
theorem Is.idle{i:Nat}{m:Mc LI}{x:MR}(h:Is i m x):Is i {m with ph:=0} {x with st:=0}:=⟨h.a,h.d,h.wv,h.NI,rfl,fun e=>absurd rfl e⟩
theorem Is.me{i:Nat}{m:Mc LI}{x:MR}(h:Is i m x)(hp:m.ph≠0):Me i x:=⟨h.a,h.d,(h.call hp).ac⟩
theorem Is.ba{i:Nat}{m:Mc LI}{x:MR}(h:Is i m x)(hp:m.ph≠0):0≤x.aP∧0≤x.bF:=⟨(h.call hp).aP▸Int.natCast_nonneg _,(h.call hp).bF▸Int.natCast_nonneg _⟩
theorem Is.dec{i:Nat}{m:Mc LI}{x:MR}(h:Is i m x){d:Bool}:Is i {m with dec:=d} x:=⟨h.a,h.d,h.wv,h.NI,h.st,fun e=>have g:=h.call e;⟨g.c,g.out,g.pa,g.pd,g.peer,g.own,g.off,g.dM,g.aP,g.since,g.heard,g.bO,g.bF,g.ac⟩⟩
theorem Is.H4{i:Nat}{m:Mc LI}{x:MR}(h:Is i m x){k:Nat}:x.st=(k:Int)↔m.ph=k:=by rw [h.st];omega
abbrev Tl(e e' l:List (Ev LI)):Prop:= ∃d,e'=e++d∧d.length≤4∧d=l
abbrev Out(b b1 i now:Nat)(o:List (Mg LI))(e':List (Ev LI))(r:List Rc)(s:Rs LI):List HP:=[aZ b i now (o++s.o) e' (r++s.r),cJ b1 i s.m]
abbrev Does(Q:Rs LI→Prop)(b b1 i now:Nat)(o:List (Mg LI))(e:List (Ev LI))(r:List Rc)(rv:Value)(hs:List HP):Prop:=rv= .tuple #[]∧∃s e',Q s∧Tl e e' s.e∧hs=Out b b1 i now o e' r s
theorem jh{Q:Rs LI→Prop}{b b1 i now f:Nat}{o:List (Mg LI)}{e:List (Ev LI)}{r:List Rc}{args:List Value}{pre:List HP}
  (h:au agQ f args pre fun rv hs=>rv= .tuple #[]∧∃s e',Q s∧Tl e e' s.e∧aB hs (Out b b1 i now o e' r s)):au agQ f args pre (Does Q b b1 i now o e r):=
 h.post fun _ _ ⟨h1,s,e',h2,h3,h4⟩=>⟨_,h4,h1,s,e',h2,h3,rfl⟩
section
variable {b b1 i now:Nat} {o:List (Mg LI)} {r:List Rc} {o':List (Mg LI)} {e':List (Ev LI)} {r':List Rc} {s:Rs LI} {x:MR} {y:List HP}
theorem ej(h:Is i s.m x)(hp:s.m.ph≠1)(ho:o'=o++s.o)(hr:r'=r++s.r):
  aB (aZ b i now o' e' r'::cD b1 x::Mm.bJ x.dead 256::y) (Out b b1 i now o e' r s):=by
 subst ho hr;refine aB.trans (b:=[cD b1 x,Mm.bJ x.dead 256]++[aZ b i now (o++s.o) e' (r++s.r)]) (aB.trans (b:=[aZ b i now (o++s.o) e' (r++s.r),cD b1 x,Mm.bJ x.dead 256]) (aB.sub (by simp)) (gW [1,2,0] (by decide) rfl)) ?_;exact aB.trans (aB.frame (vL h hp) _) (gW [1,0] (by decide) rfl)
theorem PG(z:DX)(h:Is i s.m x)(hp:s.m.ph=1)(hz:MX s.m x z)(ho:o'=o++s.o)(hr:r'=r++s.r):
  aB (aZ b i now o' e' r'::cD b1 x::Mm.bJ x.dead 256::(kH i z++y)) (Out b b1 i now o e' r s):=by
 subst ho hr;refine aB.trans (b:=(kH i z++[cD b1 x,Mm.bJ x.dead 256])++[aZ b i now (o++s.o) e' (r++s.r)]) (aB.trans (b:=[aZ b i now (o++s.o) e' (r++s.r),cD b1 x,Mm.bJ x.dead 256]++kH i z) (aB.sub ?_) (gW [3,4,5,1,2,0] (by decide) rfl)) ?_
 ·simp
 exact aB.trans (aB.frame (KT h hp z hz) _) (gW [1,0] (by decide) rfl)
end
end Go.RX.Cy

namespace Go.RX.Rg
open Go.RX
def yw(a:E):List cb:=[⟨.int .u8,1,a⟩]
def yp(az:List SV)(hp:List Ck):List Nat:=
 match az with
 | .vv v::_=>match ef hp v with
  | some (j,_)=>[j]
  | none=>[]
 | _=>[]
def ET(az:List SV)(hp:List Ck):List Nat:=
 match az with
 | .ptr b 0::_=>match findAt hp b with
  | some (j,.row _ _ [_,.vv v,_])=>match ef hp v with
   | some (k,_)=>[j,k]
   | none=>[]
  | _=>[]
 | _=>[]
def EI(c:cF)(h:List Ck):List Ck:=
 match h with
 | [.row b w [a,v,_],.cy md v' t s n _]=>[.row b w [a,v,.int .i64 (.var c.i)],.cy md v' t s n (yw (.aw c.a))]
 | _=>[]
def abl(c:cF)(h:List Ck):List Ck:=
 match h with
 | [.row b w [a,_,m],.cy md _ t s _ _]=>[.row b w [a,.vv c.v,m],.cy md c.v t s (.var c.i) (yw (.aw c.a))]
 | h=>h
def ZY(c:cF)(h:List Ck):List Ck:=
 match h with
 | [l,r4,.row b w [a,v,_],.cy md v' t s n _,.map mb kl ka va z _ _,r7,.row b8 w8 _,.row b9 w9 _,.qA _]=>
  [l,r4,.row b w [a,v,.int .i64 (.var (c.i+1))],.cy md v' t s n (yw (.aw c.a)),.map mb kl ka va z (.aw (c.a+1)) (yw (.aw (c.a+2))),r7,
   .row b8 w8 [.int .u8 (.var (c.i+2)),.int .u8 (.var (c.i+3))],.row b9 w9 [.bool (.var c.bo)],.qA c.b]
 | h=>h
def hpJ(c:cF)(h:List Ck):List Ck:=
 match h with
 | [l,r4,.row b w [a,v,_],.cy md v' t s n _,.map mb kl ka va z _ _,r7,.row b8 w8 _,.row b9 w9 _,rq,rx]=>
  [l,r4,.row b w [a,v,.int .i64 (.var c.i)],.cy md v' t s n (yw (.aw c.a)),.map mb kl ka va z (.aw (c.a+1)) (yw (.aw (c.a+2))),r7,
   .row b8 w8 [.int .u8 (.var (c.i+1)),.int .u8 (.var (c.i+2))],.row b9 w9 [.bool (.var c.bo)],rq,rx]
 | h=>h
def iI(f id:Nat):Option vD:=
 match f,id with
 | 3,2=>some {inc:={i:=3,a:=3,bo:=1},slots:=fun _=>[],hp:=hpJ}
 | _,_=>none
def VU(c:cF)(_:List Ck):List Ck:=[.row c.b true [.int .u8 (.lit 1),.vv c.v,.int .i64 (.lit (-1))],.cy true c.v 5 1 (.var 0) (yw (.aw c.a))]
def loops(f id:Nat):Option jg:=
 match f,id with
 | 102,0=>some {inc:={i:=1},slots:=fun c=>[(8,.int .i64 (.var c.i))]}
 | 14,0=>some {pre:=[.cell 0 1 5],inc:={v:=1,i:=1,a:=1},slots:=fun c=>[(21,.int .i64 (.var c.i))],hp:=abl}
 | 3,0=>some {pre:=[.marks],back:=[.mark],ds:=fun c _=>[.many c.b],inc:={i:=4,a:=3,bo:=2,b:=1},slots:=fun c=>[(50,.int .i64 (.var c.i)),(10,.bool (.var (c.bo+1)))],hp:=ZY}
 | 103,0=>some {inc:={i:=1},slots:=fun c=>[(12,.int .i64 (.var c.i))]}
 | _,_=>none
def calls(f s:Nat):Option bp:=
 match f,s with
 | 64,7=>some {use:=yp,inc:={i:=1},val:=fun c=> .int .i64 (.var c.i),new:=fun _ h=>h}
 | 3,22=>some {use:=fun _ _=>[],val:=fun _=> .bool (.lit true),new:=fun _ _=>[]}
 | 3,26=>some {use:=fun _ _=>[],inc:={b:=1,v:=1,a:=1},val:=fun c=> .lp [.ptr c.b 0,.int .i64 (.lit 0)],new:=VU}
 | 3,65=>some {use:=ET,inc:={i:=2,a:=1},val:=fun c=> .int .i64 (.var (c.i+1)),new:=EI}
 | 3,88=>some {use:=ET,inc:={i:=2,a:=1},val:=fun c=> .int .i64 (.var (c.i+1)),new:=EI}
 | 3,95=>some {use:=ET,inc:={i:=2,bo:=1},val:=fun c=> .lp [.agg [.int .u8 (.var c.i),.int .u8 (.var (c.i+1))],.bool (.var c.bo)],new:=fun _ h=>h}
 | 3,100=>some {use:=ET,inc:={i:=1,bo:=1},val:=fun c=> .lp [.int .u8 (.var c.i),.bool (.var c.bo)],new:=fun _ h=>h}
 | _,_=>none
def DQ:List Ck:=[.row 0 true [.int .u8 (.var 3),.vv 0,.int .i64 (.var 4)],.cy true 0 5 1 (.var 5) (yw (.aw 0))]
open Go.RX Go.Proofs
noncomputable def cx:Ctx:={T:=TT,FT:=FT,loops:=loops,calls:=calls,iI:=iI}
def cc(l:List (Nat→List Value))(i:Nat):List Value:=l.flatMap fun c=>c i
set_option maxRecDepth 100000
def ry:F:=
.vc (Go.RX.BE.le (Go.RX.E.lit 0) (Go.RX.E.var 0)) <|
 .loop 0 ({b:=0,v:=0,i:=1,a:=0,bo:=0,p:=0,r:=0}) ([Go.RX.eT.e (Go.RX.E.var 2) (Go.RX.E.lit 0)]) <|
.fork (Go.RX.BE.lt (Go.RX.E.var 2) (Go.RX.E.var 0)) (.vc (Go.RX.BE.le (Go.RX.E.lit 0) (Go.RX.E.var 2)) <|
 .fork (Go.RX.BE.eq (Go.RX.E.var 1) (Go.RX.E.gW (Go.RX.E.aw 0) (Go.RX.E.var 2))) (.ret (Go.RX.SV.int (agB) (Go.RX.E.var 2)) ([Go.RX.Ck.cy true 0 5 1 (Go.RX.E.var 0) [{ck:=Go.RX.CK.int (agu),w:=1,a:=Go.RX.E.aw 0}]])) <|
.vc (Go.RX.BE.le (Go.RX.E.lit (-9223372036854775808)) (Go.RX.E.bin (Go.RX.Ka.add) (agB) (Go.RX.E.var 2) (Go.RX.E.lit 1))) <|
 .vc (Go.RX.BE.le (Go.RX.E.bin (Go.RX.Ka.add) (agB) (Go.RX.E.var 2) (Go.RX.E.lit 1)) (Go.RX.E.lit 9223372036854775807)) <|
 .back 0 ({b:=0,v:=1,i:=2,a:=1,bo:=0,p:=0,r:=0}) ({b:=0,v:=0,i:=1,a:=0,bo:=0,p:=0,r:=0}) ([Go.RX.eT.e (Go.RX.E.var 2) (Go.RX.E.bin (Go.RX.Ka.add) (agB) (Go.RX.E.var 2) (Go.RX.E.lit 1))])) <|
.ret (Go.RX.SV.int (agB) (Go.RX.E.lit (-1))) ([Go.RX.Ck.cy true 0 5 1 (Go.RX.E.var 0) [{ck:=Go.RX.CK.int (agu),w:=1,a:=Go.RX.E.aw 0}]])
def rz(_:Program)(aq:Value→List HP→Prop)(x0:Int)(x1:Int)(A0:Nat→Int)(v0:V1):Prop:=
 aE (0≤x0) (
 ∃(fY:Ext→Prop) (jM:Ext→Nat),(∃x2:Int,x2=0∧fY ⟨[],[],[x2],[],[],[],[]⟩)∧
 ∀x2:Int,fY ⟨[],[],[x2],[],[],[],[]⟩→
 aK (x2<x0) (
 aE (0≤x2) (
 aK (x1=(A0 (ag x2))) (
 aq (.int .i64 x2) [aC true 5 1 v0.v (ag x0) (aT (ag x0) [ax .u8 1 A0])]) (
 aE ((-9223372036854775808)≤(x2+1)) (
 aE ((x2+1)≤9223372036854775807) (
 ∃M1:Int,M1=(x2+1)∧fY ⟨[],[],[M1],[],[],[],[]⟩∧jM ⟨[],[],[M1],[],[],[],[]⟩<jM ⟨[],[],[x2],[],[],[],[]⟩))))) (
 aq (.int .i64 (-1)) [aC true 5 1 v0.v (ag x0) (aT (ag x0) [ax .u8 1 A0])]))
theorem AX(P:Program)(aq:Value→List HP→Prop)(x0:Int)(x1:Int)(A0:Nat→Int)(v0:V1)(L:Nat→LC):VC P aq ry {iv:=[x0,x1],av:=[A0],bo:=[],bv:=[],vv:=[v0]} L=rz P aq x0 x1 A0 v0:=by kernel_rfl
theorem xd:eE cx 102 ([SV.vv 0,SV.int (agu) (E.var 1)]) ([Ck.cy true 0 5 1 (E.var 0) [{ck:=CK.int (agu),w:=1,a:=E.aw 0}]]) ({b:=0,v:=1,i:=2,a:=1,bo:=0,p:=0,r:=0}) Try.f102=ry:=by kernel_rfl
def PH:F:=
.fork (Go.RX.BE.or (Go.RX.BE.or (Go.RX.BE.le (Go.RX.E.lit 8) (Go.RX.E.var 0)) (Go.RX.BE.lt (Go.RX.E.var 1) (Go.RX.E.lit 1))) (Go.RX.BE.lt (Go.RX.E.lit 4) (Go.RX.E.var 1))) (.ret (Go.RX.SV.lp [Go.RX.SV.dR,Go.RX.SV.int (agB) (Go.RX.E.lit 2)]) ([])) <|
.yL <| .cC <| .loop 0 ({b:=0,v:=1,i:=1,a:=1,bo:=0,p:=0,r:=0}) ([Go.RX.eT.e (Go.RX.E.var 2) (Go.RX.E.lit 0),Go.RX.eT.v 1 0,Go.RX.eT.v 1 0,Go.RX.eT.e (Go.RX.E.var 2) (Go.RX.E.lit 0),Go.RX.eT.a (Go.RX.E.var 2) (Go.RX.E.aw 0) (Go.RX.E.lit 0)]) <|
.fork (Go.RX.BE.lt (Go.RX.E.var 2) (Go.RX.E.var 1)) (.yL <| .vc (Go.RX.BE.le (Go.RX.E.lit 0) (Go.RX.E.var 2)) <|
 .vc (Go.RX.BE.le (Go.RX.E.bin (Go.RX.Ka.mul) (agB) (Go.RX.E.bin (Go.RX.Ka.add) (agB) (Go.RX.E.var 2) (Go.RX.E.lit 1)) (Go.RX.E.lit 1)) (Go.RX.E.lit 140737488355328)) <|
 .zR <| .vc (Go.RX.BE.le (Go.RX.E.lit (-9223372036854775808)) (Go.RX.E.bin (Go.RX.Ka.add) (agB) (Go.RX.E.var 2) (Go.RX.E.lit 1))) <|
 .vc (Go.RX.BE.le (Go.RX.E.bin (Go.RX.Ka.add) (agB) (Go.RX.E.var 2) (Go.RX.E.lit 1)) (Go.RX.E.lit 9223372036854775807)) <|
 .back 0 ({b:=1,v:=1,i:=2,a:=0,bo:=0,p:=0,r:=0}) ({b:=0,v:=1,i:=1,a:=1,bo:=0,p:=0,r:=0}) ([Go.RX.eT.e (Go.RX.E.var 2) (Go.RX.E.bin (Go.RX.Ka.add) (agB) (Go.RX.E.var 2) (Go.RX.E.lit 1)),Go.RX.eT.v 1 2,Go.RX.eT.v 1 2,Go.RX.eT.e (Go.RX.E.var 2) (Go.RX.E.bin (Go.RX.Ka.add) (agB) (Go.RX.E.var 2) (Go.RX.E.lit 1)),Go.RX.eT.a (Go.RX.E.var 2) (Go.RX.E.aw 0) (Go.RX.E.bP (Go.RX.E.aw 0) (Go.RX.E.var 2) (Go.RX.E.lit 1))])) <|
.ret (Go.RX.SV.lp [Go.RX.SV.ptr 0 0,Go.RX.SV.int (agB) (Go.RX.E.lit 0)]) ([Go.RX.Ck.row 0 true [Go.RX.SV.int (agu) (Go.RX.E.var 0),Go.RX.SV.vv 1,Go.RX.SV.int (agB) (Go.RX.E.lit (-1))],Go.RX.Ck.cy true 1 5 1 (Go.RX.E.var 2) [{ck:=Go.RX.CK.int (agu),w:=1,a:=Go.RX.E.aw 0}]])
def rB(_:Program)(aq:Value→List HP→Prop)(x0:Int)(x1:Int):Prop:=
 aK (((8≤x0)∨(x1<1))∨(4<x1)) (
 aq (.tuple #[.pointer none,.int .i64 2]) []) (
 ∀b0:Nat,∃(IU:Ext→Prop) (OT:Ext→Nat),(∃v1:V1,∃x2:Int,∃A0:(Nat→Int),x2=0∧v1=(⟨.slice none 0 0,rfl⟩:V1)∧v1=(⟨.slice none 0 0,rfl⟩:V1)∧x2=0∧(∀j,j<(ag x2)→A0 j=(fun _=>0) j)∧IU ⟨[],[v1],[x2],[A0],[],[],[]⟩)∧
 ∀v1:V1,∀x2:Int,∀A0:(Nat→Int),IU ⟨[],[v1],[x2],[A0],[],[],[]⟩→
 aK (x2<x1) (
 ∀_:Nat,aE (0≤x2) (
 aE (((x2+1)*1)≤140737488355328) (
 ∀v2:V1,aE ((-9223372036854775808)≤(x2+1)) (
 aE ((x2+1)≤9223372036854775807) (
 ∃ZZ:V1,∃M1:Int,∃A0':(Nat→Int),M1=(x2+1)∧ZZ=v2∧ZZ=v2∧M1=(x2+1)∧(∀j,j<(ag M1)→A0' j=(aj A0 (ag x2) 1) j)∧IU ⟨[],[ZZ],[M1],[A0'],[],[],[]⟩∧OT ⟨[],[ZZ],[M1],[A0'],[],[],[]⟩<OT ⟨[],[v1],[x2],[A0],[],[],[]⟩))))) (
 aq (.tuple #[.pointer (some ⟨b0,0,none⟩),.int .i64 0]) [ao b0 true ([.int .u8 x0,v1.v,.int .i64 (-1)]),aC true 5 1 v1.v (ag x2) (aT (ag x2) [ax .u8 1 A0])]))
theorem Jh(P:Program)(aq:Value→List HP→Prop)(x0:Int)(x1:Int)(L:Nat→LC):VC P aq PH {iv:=[x0,x1],av:=[],bo:=[],bv:=[],vv:=[]} L=rB P aq x0 x1:=by kernel_rfl
theorem SX:eE cx 14 ([SV.int (agu) (E.var 0),SV.int (agB) (E.var 1)]) ([]) ({b:=0,v:=0,i:=2,a:=0,bo:=0,p:=0,r:=0}) Try.f14=PH:=by kernel_rfl
def EU:F:=
.yL <| .yL <| .vc (Go.RX.BE.or (Go.RX.BE.not (Go.RX.BE.eq (Go.RX.E.var 0) (Go.RX.E.var 3))) (Go.RX.BE.le (Go.RX.E.lit (-9223372036854775808)) (Go.RX.E.var 1))) <|
 .vc (Go.RX.BE.or (Go.RX.BE.not (Go.RX.BE.eq (Go.RX.E.var 0) (Go.RX.E.var 3))) (Go.RX.BE.le (Go.RX.E.var 1) (Go.RX.E.lit 9223372036854775807))) <|
 .vc (Go.RX.BE.or (Go.RX.BE.not (Go.RX.BE.eq (Go.RX.E.var 0) (Go.RX.E.var 3))) (Go.RX.BE.le (Go.RX.E.lit 0) (Go.RX.E.var 5))) <|
 .fork (Go.RX.BE.or (Go.RX.BE.not (Go.RX.BE.eq (Go.RX.E.var 0) (Go.RX.E.var 3))) (Go.RX.BE.le (Go.RX.E.var 5) (Go.RX.E.var 1))) (.ret (Go.RX.SV.int (agB) (Go.RX.E.lit 4)) ([Go.RX.Ck.row 0 true [Go.RX.SV.int (agu) (Go.RX.E.var 3),Go.RX.SV.vv 0,Go.RX.SV.int (agB) (Go.RX.E.var 4)],Go.RX.Ck.cy true 0 5 1 (Go.RX.E.var 5) [{ck:=Go.RX.CK.int (agu),w:=1,a:=Go.RX.E.aw 0}],Go.RX.Ck.row 1 true [Go.RX.SV.int (agu) (Go.RX.E.var 0),Go.RX.SV.int (agu) (Go.RX.E.var 1)],Go.RX.Ck.row 2 true [Go.RX.SV.int (agu) (Go.RX.E.var 0),Go.RX.SV.int (agu) (Go.RX.E.var 1)]])) <|
.fork (Go.RX.BE.or (Go.RX.BE.lt (Go.RX.E.var 2) (Go.RX.E.lit 2)) (Go.RX.BE.lt (Go.RX.E.lit 4) (Go.RX.E.var 2))) (.ret (Go.RX.SV.int (agB) (Go.RX.E.lit 2)) ([Go.RX.Ck.row 0 true [Go.RX.SV.int (agu) (Go.RX.E.var 3),Go.RX.SV.vv 0,Go.RX.SV.int (agB) (Go.RX.E.var 4)],Go.RX.Ck.cy true 0 5 1 (Go.RX.E.var 5) [{ck:=Go.RX.CK.int (agu),w:=1,a:=Go.RX.E.aw 0}],Go.RX.Ck.row 1 true [Go.RX.SV.int (agu) (Go.RX.E.var 0),Go.RX.SV.int (agu) (Go.RX.E.var 1)],Go.RX.Ck.row 2 true [Go.RX.SV.int (agu) (Go.RX.E.var 0),Go.RX.SV.int (agu) (Go.RX.E.var 1)]])) <|
.vc (Go.RX.BE.or (Go.RX.BE.le (Go.RX.E.lit 0) (Go.RX.E.var 4)) (Go.RX.BE.le (Go.RX.E.lit 0) (Go.RX.E.var 1))) <|
 .vc (Go.RX.BE.or (Go.RX.BE.le (Go.RX.E.lit 0) (Go.RX.E.var 4)) (Go.RX.BE.lt (Go.RX.E.var 1) (Go.RX.E.var 5))) <|
 .vc (Go.RX.BE.or (Go.RX.BE.le (Go.RX.E.lit 0) (Go.RX.E.var 4)) (Go.RX.BE.le (Go.RX.E.lit 0) (Go.RX.E.var 1))) <|
 .vc (Go.RX.BE.or (Go.RX.BE.le (Go.RX.E.lit 0) (Go.RX.E.var 4)) (Go.RX.BE.lt (Go.RX.E.var 1) (Go.RX.E.var 5))) <|
 .fork (Go.RX.BE.or (Go.RX.BE.le (Go.RX.E.lit 0) (Go.RX.E.var 4)) (Go.RX.BE.not (Go.RX.BE.eq (Go.RX.E.gW (Go.RX.E.aw 0) (Go.RX.E.var 1)) (Go.RX.E.lit 1)))) (.ret (Go.RX.SV.int (agB) (Go.RX.E.lit 6)) ([Go.RX.Ck.row 0 true [Go.RX.SV.int (agu) (Go.RX.E.var 3),Go.RX.SV.vv 0,Go.RX.SV.int (agB) (Go.RX.E.var 4)],Go.RX.Ck.cy true 0 5 1 (Go.RX.E.var 5) [{ck:=Go.RX.CK.int (agu),w:=1,a:=Go.RX.E.aw 0}],Go.RX.Ck.row 1 true [Go.RX.SV.int (agu) (Go.RX.E.var 0),Go.RX.SV.int (agu) (Go.RX.E.var 1)],Go.RX.Ck.row 2 true [Go.RX.SV.int (agu) (Go.RX.E.var 0),Go.RX.SV.int (agu) (Go.RX.E.var 1)]])) <|
.vc (Go.RX.BE.le (Go.RX.E.lit 0) (Go.RX.E.var 1)) <|
 .vc (Go.RX.BE.lt (Go.RX.E.var 1) (Go.RX.E.var 5)) <|
 .ret (Go.RX.SV.int (agB) (Go.RX.E.lit 0)) ([Go.RX.Ck.row 0 true [Go.RX.SV.int (agu) (Go.RX.E.var 3),Go.RX.SV.vv 0,Go.RX.SV.int (agB) (Go.RX.E.var 4)],Go.RX.Ck.cy true 0 5 1 (Go.RX.E.var 5) [{ck:=Go.RX.CK.int (agu),w:=1,a:=Go.RX.E.bP (Go.RX.E.aw 0) (Go.RX.E.var 1) (Go.RX.E.var 2)}],Go.RX.Ck.row 1 true [Go.RX.SV.int (agu) (Go.RX.E.var 0),Go.RX.SV.int (agu) (Go.RX.E.var 1)],Go.RX.Ck.row 2 true [Go.RX.SV.int (agu) (Go.RX.E.var 0),Go.RX.SV.int (agu) (Go.RX.E.var 1)]])
def KU(_:Program)(aq:Value→List HP→Prop)(x0:Int)(x1:Int)(x2:Int)(x3:Int)(x4:Int)(x5:Int)(A0:Nat→Int)(v0:V1)(b0:Nat):Prop:=
 ∀b1:Nat,∀b2:Nat,aE ((¬(x0=x3))∨((-9223372036854775808)≤x1)) (
 aE ((¬(x0=x3))∨(x1≤9223372036854775807)) (
 aE ((¬(x0=x3))∨(0≤x5)) (
 aK ((¬(x0=x3))∨(x5≤x1)) (
 aq (.int .i64 4) [ao b0 true ([.int .u8 x3,v0.v,.int .i64 x4]),aC true 5 1 v0.v (ag x5) (aT (ag x5) [ax .u8 1 A0]),ao b1 true ([.int .u8 x0,.int .u8 x1]),ao b2 true ([.int .u8 x0,.int .u8 x1])]) (
 aK ((x2<2)∨(4<x2)) (
 aq (.int .i64 2) [ao b0 true ([.int .u8 x3,v0.v,.int .i64 x4]),aC true 5 1 v0.v (ag x5) (aT (ag x5) [ax .u8 1 A0]),ao b1 true ([.int .u8 x0,.int .u8 x1]),ao b2 true ([.int .u8 x0,.int .u8 x1])]) (
 aE ((0≤x4)∨(0≤x1)) (
 aE ((0≤x4)∨(x1<x5)) (
 aE ((0≤x4)∨(0≤x1)) (
 aE ((0≤x4)∨(x1<x5)) (
 aK ((0≤x4)∨(¬((A0 (ag x1))=1))) (
 aq (.int .i64 6) [ao b0 true ([.int .u8 x3,v0.v,.int .i64 x4]),aC true 5 1 v0.v (ag x5) (aT (ag x5) [ax .u8 1 A0]),ao b1 true ([.int .u8 x0,.int .u8 x1]),ao b2 true ([.int .u8 x0,.int .u8 x1])]) (
 aE (0≤x1) (
 aE (x1<x5) (
 aq (.int .i64 0) [ao b0 true ([.int .u8 x3,v0.v,.int .i64 x4]),aC true 5 1 v0.v (ag x5) (aT (ag x5) [ax .u8 1 (aj A0 (ag x1) x2)]),ao b1 true ([.int .u8 x0,.int .u8 x1]),ao b2 true ([.int .u8 x0,.int .u8 x1])]))))))))))))
theorem SY(P:Program)(aq:Value→List HP→Prop)(x0:Int)(x1:Int)(x2:Int)(x3:Int)(x4:Int)(x5:Int)(A0:Nat→Int)(v0:V1)(b0:Nat)(L:Nat→LC):VC P aq EU {iv:=[x0,x1,x2,x3,x4,x5],av:=[A0],bo:=[],bv:=[b0],vv:=[v0]} L=KU P aq x0 x1 x2 x3 x4 x5 A0 v0 b0:=by kernel_rfl
theorem run_mark:eE cx 15 ([SV.ptr 0 0,SV.agg [SV.int (agu) (E.var 0),SV.int (agu) (E.var 1)],SV.int (agu) (E.var 2)]) ([Ck.row 0 true [SV.int (agu) (E.var 3),SV.vv 0,SV.int (agB) (E.var 4)],Ck.cy true 0 5 1 (E.var 5) [{ck:=CK.int (agu),w:=1,a:=E.aw 0}]]) ({b:=1,v:=1,i:=6,a:=1,bo:=0,p:=0,r:=0}) Try.f15=EU:=by kernel_rfl
def xm:F:=
.yL <| .yL <| .vc (Go.RX.BE.or (Go.RX.BE.not (Go.RX.BE.eq (Go.RX.E.var 0) (Go.RX.E.var 3))) (Go.RX.BE.le (Go.RX.E.lit (-9223372036854775808)) (Go.RX.E.var 1))) <|
 .vc (Go.RX.BE.or (Go.RX.BE.not (Go.RX.BE.eq (Go.RX.E.var 0) (Go.RX.E.var 3))) (Go.RX.BE.le (Go.RX.E.var 1) (Go.RX.E.lit 9223372036854775807))) <|
 .vc (Go.RX.BE.or (Go.RX.BE.not (Go.RX.BE.eq (Go.RX.E.var 0) (Go.RX.E.var 3))) (Go.RX.BE.le (Go.RX.E.lit 0) (Go.RX.E.var 5))) <|
 .fork (Go.RX.BE.or (Go.RX.BE.not (Go.RX.BE.eq (Go.RX.E.var 0) (Go.RX.E.var 3))) (Go.RX.BE.le (Go.RX.E.var 5) (Go.RX.E.var 1))) (.ret (Go.RX.SV.int (agB) (Go.RX.E.lit 4)) ([Go.RX.Ck.row 0 true [Go.RX.SV.int (agu) (Go.RX.E.var 3),Go.RX.SV.vv 0,Go.RX.SV.int (agB) (Go.RX.E.var 4)],Go.RX.Ck.cy true 0 5 1 (Go.RX.E.var 5) [{ck:=Go.RX.CK.int (agu),w:=1,a:=Go.RX.E.aw 0}],Go.RX.Ck.row 1 true [Go.RX.SV.int (agu) (Go.RX.E.var 0),Go.RX.SV.int (agu) (Go.RX.E.var 1)],Go.RX.Ck.row 2 true [Go.RX.SV.int (agu) (Go.RX.E.var 0),Go.RX.SV.int (agu) (Go.RX.E.var 1)]])) <|
.fork (Go.RX.BE.le (Go.RX.E.lit 0) (Go.RX.E.var 4)) (.ret (Go.RX.SV.int (agB) (Go.RX.E.lit 6)) ([Go.RX.Ck.row 0 true [Go.RX.SV.int (agu) (Go.RX.E.var 3),Go.RX.SV.vv 0,Go.RX.SV.int (agB) (Go.RX.E.var 4)],Go.RX.Ck.cy true 0 5 1 (Go.RX.E.var 5) [{ck:=Go.RX.CK.int (agu),w:=1,a:=Go.RX.E.aw 0}],Go.RX.Ck.row 1 true [Go.RX.SV.int (agu) (Go.RX.E.var 0),Go.RX.SV.int (agu) (Go.RX.E.var 1)],Go.RX.Ck.row 2 true [Go.RX.SV.int (agu) (Go.RX.E.var 0),Go.RX.SV.int (agu) (Go.RX.E.var 1)]])) <|
.vc (Go.RX.BE.le (Go.RX.E.lit (-9223372036854775808)) (Go.RX.E.var 1)) <|
 .vc (Go.RX.BE.le (Go.RX.E.var 1) (Go.RX.E.lit 9223372036854775807)) <|
 .ret (Go.RX.SV.int (agB) (Go.RX.E.lit 0)) ([Go.RX.Ck.row 0 true [Go.RX.SV.int (agu) (Go.RX.E.var 3),Go.RX.SV.vv 0,Go.RX.SV.int (agB) (Go.RX.E.var 1)],Go.RX.Ck.cy true 0 5 1 (Go.RX.E.var 5) [{ck:=Go.RX.CK.int (agu),w:=1,a:=Go.RX.E.aw 0}],Go.RX.Ck.row 1 true [Go.RX.SV.int (agu) (Go.RX.E.var 0),Go.RX.SV.int (agu) (Go.RX.E.var 1)],Go.RX.Ck.row 2 true [Go.RX.SV.int (agu) (Go.RX.E.var 0),Go.RX.SV.int (agu) (Go.RX.E.var 1)]])
def pk(_:Program)(aq:Value→List HP→Prop)(x0:Int)(x1:Int)(_:Int)(x3:Int)(x4:Int)(x5:Int)(A0:Nat→Int)(v0:V1)(b0:Nat):Prop:=
 ∀b1:Nat,∀b2:Nat,aE ((¬(x0=x3))∨((-9223372036854775808)≤x1)) (
 aE ((¬(x0=x3))∨(x1≤9223372036854775807)) (
 aE ((¬(x0=x3))∨(0≤x5)) (
 aK ((¬(x0=x3))∨(x5≤x1)) (
 aq (.int .i64 4) [ao b0 true ([.int .u8 x3,v0.v,.int .i64 x4]),aC true 5 1 v0.v (ag x5) (aT (ag x5) [ax .u8 1 A0]),ao b1 true ([.int .u8 x0,.int .u8 x1]),ao b2 true ([.int .u8 x0,.int .u8 x1])]) (
 aK (0≤x4) (
 aq (.int .i64 6) [ao b0 true ([.int .u8 x3,v0.v,.int .i64 x4]),aC true 5 1 v0.v (ag x5) (aT (ag x5) [ax .u8 1 A0]),ao b1 true ([.int .u8 x0,.int .u8 x1]),ao b2 true ([.int .u8 x0,.int .u8 x1])]) (
 aE ((-9223372036854775808)≤x1) (
 aE (x1≤9223372036854775807) (
 aq (.int .i64 0) [ao b0 true ([.int .u8 x3,v0.v,.int .i64 x1]),aC true 5 1 v0.v (ag x5) (aT (ag x5) [ax .u8 1 A0]),ao b1 true ([.int .u8 x0,.int .u8 x1]),ao b2 true ([.int .u8 x0,.int .u8 x1])])))))))
theorem M3(P:Program)(aq:Value→List HP→Prop)(x0:Int)(x1:Int)(x2:Int)(x3:Int)(x4:Int)(x5:Int)(A0:Nat→Int)(v0:V1)(b0:Nat)(L:Nat→LC):VC P aq xm {iv:=[x0,x1,x2,x3,x4,x5],av:=[A0],bo:=[],bv:=[b0],vv:=[v0]} L=pk P aq x0 x1 x2 x3 x4 x5 A0 v0 b0:=by kernel_rfl
theorem Ji:eE cx 16 ([SV.ptr 0 0,SV.agg [SV.int (agu) (E.var 0),SV.int (agu) (E.var 1)]]) ([Ck.row 0 true [SV.int (agu) (E.var 3),SV.vv 0,SV.int (agB) (E.var 4)],Ck.cy true 0 5 1 (E.var 5) [{ck:=CK.int (agu),w:=1,a:=E.aw 0}]]) ({b:=1,v:=1,i:=6,a:=1,bo:=0,p:=0,r:=0}) Try.f16=xm:=by kernel_rfl
def EV:F:=
.fork (Go.RX.BE.le (Go.RX.E.lit 0) (Go.RX.E.var 4)) (.ret (Go.RX.SV.lp [Go.RX.SV.int (agu) (Go.RX.E.lit 0),Go.RX.SV.bool (Go.RX.BE.lit false)]) ([Go.RX.Ck.row 0 true [Go.RX.SV.int (agu) (Go.RX.E.var 3),Go.RX.SV.vv 0,Go.RX.SV.int (agB) (Go.RX.E.var 4)],Go.RX.Ck.cy true 0 5 1 (Go.RX.E.var 5) [{ck:=Go.RX.CK.int (agu),w:=1,a:=Go.RX.E.aw 0}]])) <|
.call 102 ([Go.RX.SV.vv 0,Go.RX.SV.int (agu) (Go.RX.E.lit 3)]) ([Go.RX.Ck.cy true 0 5 1 (Go.RX.E.var 5) [{ck:=Go.RX.CK.int (agu),w:=1,a:=Go.RX.E.aw 0}]]) ({b:=0,v:=0,i:=1,a:=0,bo:=0,p:=0,r:=0}) (Go.RX.SV.int (agB) (Go.RX.E.var 6)) ([Go.RX.Ck.cy true 0 5 1 (Go.RX.E.var 5) [{ck:=Go.RX.CK.int (agu),w:=1,a:=Go.RX.E.aw 0}]]) <|
.fork (Go.RX.BE.le (Go.RX.E.lit 0) (Go.RX.E.var 6)) (.ret (Go.RX.SV.lp [Go.RX.SV.int (agu) (Go.RX.E.lit 4),Go.RX.SV.bool (Go.RX.BE.lit true)]) ([Go.RX.Ck.row 0 true [Go.RX.SV.int (agu) (Go.RX.E.var 3),Go.RX.SV.vv 0,Go.RX.SV.int (agB) (Go.RX.E.var 4)],Go.RX.Ck.cy true 0 5 1 (Go.RX.E.var 5) [{ck:=Go.RX.CK.int (agu),w:=1,a:=Go.RX.E.aw 0}]])) <|
.call 102 ([Go.RX.SV.vv 0,Go.RX.SV.int (agu) (Go.RX.E.lit 1)]) ([Go.RX.Ck.cy true 0 5 1 (Go.RX.E.var 5) [{ck:=Go.RX.CK.int (agu),w:=1,a:=Go.RX.E.aw 0}]]) ({b:=0,v:=0,i:=1,a:=0,bo:=0,p:=0,r:=0}) (Go.RX.SV.int (agB) (Go.RX.E.var 7)) ([Go.RX.Ck.cy true 0 5 1 (Go.RX.E.var 5) [{ck:=Go.RX.CK.int (agu),w:=1,a:=Go.RX.E.aw 0}]]) <|
.fork (Go.RX.BE.le (Go.RX.E.lit 0) (Go.RX.E.var 7)) (.ret (Go.RX.SV.lp [Go.RX.SV.int (agu) (Go.RX.E.lit 0),Go.RX.SV.bool (Go.RX.BE.lit false)]) ([Go.RX.Ck.row 0 true [Go.RX.SV.int (agu) (Go.RX.E.var 3),Go.RX.SV.vv 0,Go.RX.SV.int (agB) (Go.RX.E.var 4)],Go.RX.Ck.cy true 0 5 1 (Go.RX.E.var 5) [{ck:=Go.RX.CK.int (agu),w:=1,a:=Go.RX.E.aw 0}]])) <|
.call 102 ([Go.RX.SV.vv 0,Go.RX.SV.int (agu) (Go.RX.E.lit 2)]) ([Go.RX.Ck.cy true 0 5 1 (Go.RX.E.var 5) [{ck:=Go.RX.CK.int (agu),w:=1,a:=Go.RX.E.aw 0}]]) ({b:=0,v:=0,i:=1,a:=0,bo:=0,p:=0,r:=0}) (Go.RX.SV.int (agB) (Go.RX.E.var 8)) ([Go.RX.Ck.cy true 0 5 1 (Go.RX.E.var 5) [{ck:=Go.RX.CK.int (agu),w:=1,a:=Go.RX.E.aw 0}]]) <|
.fork (Go.RX.BE.le (Go.RX.E.lit 0) (Go.RX.E.var 8)) (.ret (Go.RX.SV.lp [Go.RX.SV.int (agu) (Go.RX.E.lit 5),Go.RX.SV.bool (Go.RX.BE.lit true)]) ([Go.RX.Ck.row 0 true [Go.RX.SV.int (agu) (Go.RX.E.var 3),Go.RX.SV.vv 0,Go.RX.SV.int (agB) (Go.RX.E.var 4)],Go.RX.Ck.cy true 0 5 1 (Go.RX.E.var 5) [{ck:=Go.RX.CK.int (agu),w:=1,a:=Go.RX.E.aw 0}]])) <|
.ret (Go.RX.SV.lp [Go.RX.SV.int (agu) (Go.RX.E.lit 3),Go.RX.SV.bool (Go.RX.BE.lit true)]) ([Go.RX.Ck.row 0 true [Go.RX.SV.int (agu) (Go.RX.E.var 3),Go.RX.SV.vv 0,Go.RX.SV.int (agB) (Go.RX.E.var 4)],Go.RX.Ck.cy true 0 5 1 (Go.RX.E.var 5) [{ck:=Go.RX.CK.int (agu),w:=1,a:=Go.RX.E.aw 0}]])
def KV(P:Program)(aq:Value→List HP→Prop)(_:Int)(_:Int)(_:Int)(x3:Int)(x4:Int)(x5:Int)(A0:Nat→Int)(v0:V1)(b0:Nat):Prop:=
 aK (0≤x4) (
 aq (.tuple #[.int .u8 0,.bool false]) [ao b0 true ([.int .u8 x3,v0.v,.int .i64 x4]),aC true 5 1 v0.v (ag x5) (aT (ag x5) [ax .u8 1 A0])]) (
 ∃post,au P 102 [v0.v,.int .u8 3] [aC true 5 1 v0.v (ag x5) (aT (ag x5) [ax .u8 1 A0])] post∧
 ∀x hs,post x hs→∃x6:Int,x= .int .i64 x6∧hs=[aC true 5 1 v0.v (ag x5) (aT (ag x5) [ax .u8 1 A0])]∧
 aK (0≤x6) (
 aq (.tuple #[.int .u8 4,.bool true]) [ao b0 true ([.int .u8 x3,v0.v,.int .i64 x4]),aC true 5 1 v0.v (ag x5) (aT (ag x5) [ax .u8 1 A0])]) (
 ∃post,au P 102 [v0.v,.int .u8 1] [aC true 5 1 v0.v (ag x5) (aT (ag x5) [ax .u8 1 A0])] post∧
 ∀x hs,post x hs→∃x7:Int,x= .int .i64 x7∧hs=[aC true 5 1 v0.v (ag x5) (aT (ag x5) [ax .u8 1 A0])]∧
 aK (0≤x7) (
 aq (.tuple #[.int .u8 0,.bool false]) [ao b0 true ([.int .u8 x3,v0.v,.int .i64 x4]),aC true 5 1 v0.v (ag x5) (aT (ag x5) [ax .u8 1 A0])]) (
 ∃post,au P 102 [v0.v,.int .u8 2] [aC true 5 1 v0.v (ag x5) (aT (ag x5) [ax .u8 1 A0])] post∧
 ∀x hs,post x hs→∃x8:Int,x= .int .i64 x8∧hs=[aC true 5 1 v0.v (ag x5) (aT (ag x5) [ax .u8 1 A0])]∧
 aK (0≤x8) (
 aq (.tuple #[.int .u8 5,.bool true]) [ao b0 true ([.int .u8 x3,v0.v,.int .i64 x4]),aC true 5 1 v0.v (ag x5) (aT (ag x5) [ax .u8 1 A0])]) (
 aq (.tuple #[.int .u8 3,.bool true]) [ao b0 true ([.int .u8 x3,v0.v,.int .i64 x4]),aC true 5 1 v0.v (ag x5) (aT (ag x5) [ax .u8 1 A0])]))))
theorem SZ(P:Program)(aq:Value→List HP→Prop)(x0:Int)(x1:Int)(x2:Int)(x3:Int)(x4:Int)(x5:Int)(A0:Nat→Int)(v0:V1)(b0:Nat)(L:Nat→LC):VC P aq EV {iv:=[x0,x1,x2,x3,x4,x5],av:=[A0],bo:=[],bv:=[b0],vv:=[v0]} L=KV P aq x0 x1 x2 x3 x4 x5 A0 v0 b0:=by kernel_rfl
theorem PI:eE cx 18 ([SV.ptr 0 0]) ([Ck.row 0 true [SV.int (agu) (E.var 3),SV.vv 0,SV.int (agB) (E.var 4)],Ck.cy true 0 5 1 (E.var 5) [{ck:=CK.int (agu),w:=1,a:=E.aw 0}]]) ({b:=1,v:=1,i:=6,a:=1,bo:=0,p:=0,r:=0}) Try.f18=EV:=by kernel_rfl
open Go.RX Go.Proofs
noncomputable def YR:Ctx:={T:=TT,FT:=FT}
theorem xn:(eE YR 13 [] [] {} Try.f13).jo=true:=by kernel_rfl
theorem yx:au agQ 13 [] [] (fun v hs=>v= .bool true∧hs=[]):=au.jo (C:=YR) sU iS sV Try.func13 xn
noncomputable def Bk(A:Nat→Int)(n x:Int):Bool:=@decide (∃j:Int,0≤j∧j<n∧A j.toNat=x) (Classical.propDecidable _)
theorem DR{A:Nat→Int}{n x:Int}:Bk A n x=true↔∃j:Int,0≤j∧j<n∧A j.toNat=x:=by simp [Bk]
abbrev tab(n:Int)(A:Nat→Int):List Value:=aT n.toNat [ax .u8 1 A]
abbrev lO(b:Nat)(v:V1)(acc k_ n:Int)(M:Nat→Int):List HP:=[ao b true [.int .u8 acc,v.v,.int .i64 k_],aC true 5 1 v.v n.toNat (tab n M)]
theorem lR(v:V1)(n x:Int)(A:Nat→Int)(h0:0≤n)(h1:n≤9223372036854775807):
  au agQ 102 [v.v,.int .u8 x] [aC true 5 1 v.v n.toNat (tab n A)]
   (fun r hs=> ∃k:Int,r= .int .i64 k∧hs=[aC true 5 1 v.v n.toNat (tab n A)]∧(0≤k↔Bk A n x=true)):=by
 refine au.ml (C:=cx) (aS:={i:=2,a:=1,v:=1}) (ρ:={iv:=[n,x],av:=[A],vv:=[v]}) sU iS sV Try.func102 (by constructor<;>rfl) (args:=[.vv 0,.int .u8 (.var 1)])
  (hp:=[.cy true 0 5 1 (.var 0) [⟨.int .u8,1,.aw 0⟩]]) ?_
 rw [xd,AX];unfold rz;refine⟨h0,fun _=>⟨fun e=>0≤e.i.getD 0 0∧∀j:Int,0≤j→j<e.i.getD 0 0→A j.toNat≠x,fun e=>(n - e.i.getD 0 0).toNat,⟨0,rfl,by simp;omega⟩,?_⟩⟩;rintro k ⟨sP,Rq⟩;simp only [ah]at sP Rq;refine⟨fun cZ=>⟨sP,fun _=>⟨fun he=>⟨k,rfl,rfl,fun _=>DR.2 ⟨k,sP,cZ,he.symm⟩,fun _=>sP⟩,fun eJ=>⟨by omega,fun _=>⟨by omega,fun _=>⟨_,rfl,?_,?_⟩⟩⟩⟩⟩,fun uJ=>⟨-1,rfl,rfl,fun h=>by omega,fun hm=>?_⟩⟩
 ·simp only [ah];refine⟨by omega,fun j h0 h1=>?_⟩;by_cases hj:j=k
  ·subst hj;exact fun h=>eJ h.symm
  ·exact Rq j h0 (by omega)
 ·simp only [ah];omega
 ·obtain⟨j,j0,j1,j2⟩:=DR.1 hm;exact absurd j2 (Rq j j0 (by omega))
theorem gH(acc n:Int)(h:acc<8)(h1:1≤n)(h4:n≤4):
  au agQ 14 [.int .u8 acc,.int .i64 n] [] (fun r hs=> ∃b:Nat,∃v:V1,∃A:Nat→Int,r= .tuple #[.pointer (some ⟨b,0,none⟩),.int .i64 0]∧hs=lO b v acc (-1) n A∧∀j,j<n.toNat→A j=1):=by
 refine au.ml (C:=cx) (aS:={i:=2}) (ρ:={iv:=[acc,n]}) sU iS sV Try.func14 (by constructor<;>rfl) (args:=[.int .u8 (.var 0),.int .i64 (.var 1)]) (hp:=[]) ?_;rw [SX,Jh];unfold rB;refine⟨fun aeP=>by omega,fun _=>fun b0=>?_⟩;refine⟨fun e=>0≤e.i.getD 0 0∧e.i.getD 0 0≤n∧∀j,j<(e.i.getD 0 0).toNat→e.a.getD 0 (fun _=>0) j=1,fun e=>(n - e.i.getD 0 0).toNat,⟨_,0,fun _=>0,rfl,rfl,rfl,rfl,fun _ _=>rfl,?_⟩,?_⟩
 ·simp only [ah];exact⟨by omega,by omega,fun j hj=>by simp at hj⟩
 rintro v1 k A ⟨sP,Rq,Rr⟩;simp only [ah]at sP Rq Rr;refine⟨fun cZ=>fun b1=>⟨sP,fun _=>⟨by omega,fun _=>fun v2=>⟨by omega,fun _=>⟨by omega,fun _=>⟨v2,k+1,_,rfl,rfl,rfl,rfl,fun _ _=>rfl,?_,?_⟩⟩⟩⟩⟩,fun uJ=>?_⟩
 ·simp only [ah];refine⟨by omega,by omega,fun j hj=>?_⟩;simp only [aj];split
  ·rfl
  ·exact Rr j (by omega)
 ·simp only [ah];omega
 ·have Gd:k=n:=by omega
  subst Gd;exact⟨b0,v1,A,rfl,rfl,Rr⟩
def PJ(acc k_ n:Int)(M:Nat→Int)(d0 d1 how:Int):Prop:=d0=acc∧d1<n∧2≤how∧how≤4∧k_<0∧M d1.toNat=1
theorem Jj(b:Nat)(v:V1)(acc k_ n d0 d1 how:Int)(M:Nat→Int)(hd0:0≤d1)(W5:d1≤255)(hn:0≤n):
  au agQ 15 [.pointer (some ⟨b,0,none⟩),.agg #[.int .u8 d0,.int .u8 d1],.int .u8 how] (lO b v acc k_ n M)
   (fun r hs=> ∃c:Int,∃M':Nat→Int,r= .int .i64 c∧hs=lO b v acc k_ n M'∧((c≠0∧M'=M)∨(c=0∧PJ acc k_ n M d0 d1 how∧M'=aj M d1.toNat how))):=by
 refine au.post (p:=fun r hs=> ∃ey,aB hs ey∧∃c:Int,∃M':Nat→Int,r= .int .i64 c∧ey=lO b v acc k_ n M'∧((c≠0∧M'=M)∨(c=0∧PJ acc k_ n M d0 d1 how∧M'=aj M d1.toNat how))) ?_ fun v hs h=>h
 refine au.ml (C:=cx) (aS:={i:=6,a:=1,v:=1,b:=1}) (ρ:={iv:=[d0,d1,how,acc,k_,n],av:=[M],vv:=[v],bv:=[b]}) sU iS sV Try.func15 (by constructor<;>rfl)
  (args:=[.ptr 0 0,.agg [.int .u8 (.var 0),.int .u8 (.var 1)],.int .u8 (.var 2)]) (hp:=DQ) ?_
 rw [show eE cx 15 [.ptr 0 0,.agg [.int .u8 (.var 0),.int .u8 (.var 1)],.int .u8 (.var 2)] DQ {i:=6,a:=1,v:=1,b:=1} Try.f15=EU from run_mark,SY];unfold KU;intro b1 b2;have sub: ∀(M':Nat→Int) (l:List HP),aB (lO b v acc k_ n M'++l) (lO b v acc k_ n M'):=fun M' l=>aB.sub (List.sublist_append_left _ _)
 iterate 3 refine⟨by omega,fun _=>?_⟩
 refine⟨fun hb=>⟨_,sub M _,4,M,rfl,rfl,.inl ⟨by omega,rfl⟩⟩,fun hb=>⟨fun hh=>⟨_,sub M _,2,M,rfl,rfl,.inl ⟨by omega,rfl⟩⟩,fun hh=>?_⟩⟩
 iterate 4 refine⟨by omega,fun _=>?_⟩
 refine⟨fun hc=>⟨_,sub M _,6,M,rfl,rfl,.inl ⟨by omega,rfl⟩⟩,fun hc=>⟨by omega,fun _=>⟨by omega,fun _=>?_⟩⟩⟩;refine⟨_,sub (aj M d1.toNat how) _,0,_,rfl,rfl,.inr ⟨rfl,⟨?_,?_,?_,?_,?_,?_⟩,rfl⟩⟩<;>omega
def G4(acc k_ n d0 d1:Int):Prop:=d0=acc∧d1<n∧k_<0
theorem gk(b:Nat)(v:V1)(acc k_ n d0 d1:Int)(M:Nat→Int)(hd0:0≤d1)(W5:d1≤255)(hn:0≤n):
  au agQ 16 [.pointer (some ⟨b,0,none⟩),.agg #[.int .u8 d0,.int .u8 d1]] (lO b v acc k_ n M)
   (fun r hs=> ∃c Bl:Int,r= .int .i64 c∧hs=lO b v acc Bl n M∧((c≠0∧Bl=k_)∨(c=0∧G4 acc k_ n d0 d1∧Bl=d1))):=by
 refine au.post (p:=fun r hs=> ∃ey,aB hs ey∧∃c Bl:Int,r= .int .i64 c∧ey=lO b v acc Bl n M∧((c≠0∧Bl=k_)∨(c=0∧G4 acc k_ n d0 d1∧Bl=d1))) ?_ fun v hs h=>h
 refine au.ml (C:=cx) (aS:={i:=6,a:=1,v:=1,b:=1}) (ρ:={iv:=[d0,d1,0,acc,k_,n],av:=[M],vv:=[v],bv:=[b]}) sU iS sV Try.func16 (by constructor<;>rfl)
  (args:=[.ptr 0 0,.agg [.int .u8 (.var 0),.int .u8 (.var 1)]]) (hp:=DQ) ?_
 rw [show eE cx 16 [.ptr 0 0,.agg [.int .u8 (.var 0),.int .u8 (.var 1)]] DQ {i:=6,a:=1,v:=1,b:=1} Try.f16=xm from Ji,M3];unfold pk;intro b1 b2;have sub: ∀(Bl:Int) (l:List HP),aB (lO b v acc Bl n M++l) (lO b v acc Bl n M):=fun Bl l=>aB.sub (List.sublist_append_left _ _)
 iterate 3 refine⟨by omega,fun _=>?_⟩
 refine⟨fun hb=>⟨_,sub k_ _,4,k_,rfl,rfl,.inl ⟨by omega,rfl⟩⟩,fun hb=>⟨fun hh=>⟨_,sub k_ _,6,k_,rfl,rfl,.inl ⟨by omega,rfl⟩⟩,fun hh=>?_⟩⟩;refine⟨by omega,fun _=>⟨by omega,fun _=>?_⟩⟩;refine⟨_,sub d1 _,0,_,rfl,rfl,.inr ⟨rfl,⟨?_,?_,?_⟩,rfl⟩⟩<;>omega
def G5(M:Nat→Int)(n:Int):Prop:=Bk M n 3=true∨Bk M n 1=false
theorem Jk(b:Nat)(v:V1)(acc k_ n:Int)(M:Nat→Int)(h0:0≤n)(h1:n≤9223372036854775807):
  au agQ 18 [.pointer (some ⟨b,0,none⟩)] (lO b v acc k_ n M)
   (fun r hs=> ∃x:Int,∃q:Bool,r= .tuple #[.int .u8 x,.bool q]∧hs=lO b v acc k_ n M∧(q=true↔k_<0∧G5 M n)∧(q=true→x=4∧Bk M n 3=true∨x=5∨x=3)):=by
 refine au.ml (C:=cx) (aS:={i:=6,a:=1,v:=1,b:=1}) (ρ:={iv:=[0,0,0,acc,k_,n],av:=[M],vv:=[v],bv:=[b]}) sU iS sV Try.func18 (by constructor<;>rfl) (args:=[.ptr 0 0]) (hp:=DQ) ?_;rw [show eE cx 18 [.ptr 0 0] DQ {i:=6,a:=1,v:=1,b:=1} Try.f18=EV from PI,SZ];unfold KV;refine⟨fun h=>⟨0,false,rfl,rfl,by simp;omega,fun h=>nomatch h⟩,fun h=>⟨_,lR v n 3 M h0 h1,?_⟩⟩;rintro r hs ⟨k3,rfl,rfl,Rx⟩;refine⟨k3,rfl,rfl,fun g3=>⟨4,true,rfl,rfl,?_,fun _=> .inl ⟨rfl,Rx.1 g3⟩⟩,fun g3=>⟨_,lR v n 1 M h0 h1,?_⟩⟩
 ·simp only [G5,Rx.1 g3,true_or,and_true,true_iff];omega
 rintro r hs ⟨k1,rfl,rfl,Rq⟩;have n3:Bk M n 3=false:=by cases hm:Bk M n 3 with | false=>rfl | true=>exact absurd (Rx.2 hm) g3
 refine⟨k1,rfl,rfl,fun g1=>⟨0,false,rfl,rfl,?_,fun h=>nomatch h⟩,fun g1=>⟨_,lR v n 2 M h0 h1,?_⟩⟩
 ·simp [G5,n3,Rq.1 g1]
 rintro r hs ⟨k2,rfl,rfl,Rr⟩;have n1:Bk M n 1=false:=by cases hm:Bk M n 1 with | false=>rfl | true=>exact absurd (Rq.2 hm) g1
 refine⟨k2,rfl,rfl,fun g2=>⟨5,true,rfl,rfl,?_,fun _=> .inr (.inl rfl)⟩,fun g2=>⟨3,true,rfl,rfl,?_,fun _=> .inr (.inr rfl)⟩⟩
 ·simp only [G5,n1,or_true,and_true,true_iff];omega
 ·simp only [G5,n1,or_true,and_true,true_iff];omega
end Go.RX.Rg
