/- A call machine in memory. -/
import Derived.Test.YtphemenngjkfbaaM34
open Go.IntKind renaming i64 → adL, u8 → adG
open Go.Proofs.Try renaming prog → adY
open Int renaming toNat → ag
open List renaming getD_cons_zero → ah, mem_range → adU
namespace Go.RX.Cy
open Go.RX Go.Proofs Go.Cp Go.RX.Cs Go.RX.Ct Go.RX.Cu Go.RX.Cv Go.RX.Cw
abbrev LI:=List Int
def wa(k:LI):Prop:= ∀v∈k,0≤v∧v<256
def Tk(c:Nat):Prop:= ∃l:LI,l.length=16∧wa l∧bM l=c
structure In (m:Mc LI) (x:MR):Prop where
 c:a_ x.id=m.c
 out:(!(x.out==0))=m.out
 pa:0≤x.pa∧x.pa<2
 pd:0≤x.pd∧x.pd<2
 peer:eh x.pa x.pd=m.peer
 own:aJ x.own 0 32=m.own
 off:aJ x.off 0 32=m.off
 dg:aJ x.dg 0 32=m.dg
 aK:x.aK=(m.aK:Int)
 since:x.since=(m.since:Int)
 heard:x.heard=(m.heard:Int)
 bD:x.bD=(m.bD:Int)
structure Is (i:Nat) (m:Mc LI) (x:MR):Prop where
 a:x.a=((i/2:Nat):Int)
 d:x.d=((i%2:Nat):Int)
 Nu:x.dv 0=2
 Nv:x.dv 1=2
 st:x.st=(m.ph:Int)
 call:m.ph≠0→In m x
structure DX where
 b3:Nat
 b4:Nat
 v0:V1
 cQ:Int
 A9:Nat→Int
abbrev k9(i:Nat):Int:=((1 - i/2:Nat):Int)
abbrev jF(i:Nat)(y:DX):List HP:=Mm.nZ y.b4 4::VD y.b3 y.v0 (k9 i) y.cQ y.A9
def dS(i:Nat)(m:Mc LI)(x:MR):HP:=HP.ex fun y:{y:DX // m.ph=1→x.h_=(y.b3:Int)+1∧x.early=(y.b4:Int)+1}=>HP.star (if m.ph=1 then jF i y.1 else [])
abbrev B_(b1 i:Nat)(m:Mc LI)(x:MR):List HP:=[cn b1 x,Mm.bB x.dead 256,dS i m x]
def cq(b1 i:Nat)(m:Mc LI):HP:=HP.ex fun x:{x:MR // Is i m x}=>HP.star (B_ b1 i m x.1)
theorem Nw(i:Nat)(y:DX): ∀h∈jF i y,h.wr=true:=by
 intro h hh;simp only [jF,List.mem_cons,List.not_mem_nil,or_false]at hh;rcases hh with rfl | rfl | rfl<;>rfl
theorem Tm(b1 i:Nat)(m:Mc LI)(x:MR): ∀h∈B_ b1 i m x,h.wr=true:=by
 intro h hh;simp only [B_,List.mem_cons,List.not_mem_nil,or_false]at hh;rcases hh with rfl | rfl | rfl<;>rfl
theorem Bi{i:Nat}{m:Mc LI}{x:MR}(y:DX)(hy:m.ph=1→x.h_=(y.b3:Int)+1∧x.early=(y.b4:Int)+1):aD (if m.ph=1 then jF i y else []) [dS i m x]:=by
 refine aD.trans (aD.star ?_) (aD.ex (F:=fun y:{y:DX // m.ph=1→x.h_=(y.b3:Int)+1∧x.early=(y.b4:Int)+1}=>HP.star (if m.ph=1 then jF i y.1 else [])) ⟨y,hy⟩ rfl);split
 ·exact Nw i y
 ·exact fun _ h=>nomatch h
theorem KK{i:Nat}{m:Mc LI}{x:MR}(h:m.ph≠1):aD [] [dS i m x]:=by
 have:=Bi (i:=i) (m:=m) (x:=x) ⟨0,0,⟨.slice none 0 0,rfl⟩,0,fun _=>0⟩ fun e=>absurd e h
 rwa [if_neg h]at this
theorem KL{i:Nat}{m:Mc LI}{x:MR}(h:m.ph=1)(y:DX)(hy:x.h_=(y.b3:Int)+1∧x.early=(y.b4:Int)+1):aD (jF i y) [dS i m x]:=by
 have:=Bi (i:=i) (m:=m) (x:=x) y fun _=>hy
 rwa [if_pos h]at this
theorem xC{b1 i:Nat}{m:Mc LI}{x:MR}(h:Is i m x):aD (B_ b1 i m x) [cq b1 i m]:=
 aD.trans (aD.star (Tm b1 i m x)) (aD.ex (F:=fun x:{x:MR // Is i m x}=>HP.star (B_ b1 i m x.1)) ⟨x,h⟩ rfl)
theorem tR{b1 i:Nat}{m:Mc LI}{x:MR}(h:Is i m x)(hp:m.ph≠1):aD [cn b1 x,Mm.bB x.dead 256] [cq b1 i m]:=by
 have h1:=aD.frame (KK (i:=i) (x:=x) hp) [cn b1 x,Mm.bB x.dead 256];exact aD.trans h1 (aD.trans (iX [1,2,0] (by decide) rfl) (xC h))
theorem IM{b1 i:Nat}{m:Mc LI}{x:MR}(h:Is i m x)(hp:m.ph=1)(y:DX)(hy:x.h_=(y.b3:Int)+1∧x.early=(y.b4:Int)+1):aD (jF i y++[cn b1 x,Mm.bB x.dead 256]) [cq b1 i m]:=
 aD.trans (aD.frame (KL hp y hy) [cn b1 x,Mm.bB x.dead 256]) (aD.trans (iX [1,2,0] (by decide) rfl) (xC h))
theorem k_{b1 i f:Nat}{m:Mc LI}{args:List Value}{pre:List HP}{ao:Value→List HP→Prop}(h: ∀x,Is i m x→aq adY f args (B_ b1 i m x++pre) ao):aq adY f args (cq b1 i m::pre) ao:=
 aq.ex fun x=>aq.pre (h x.1 x.2) (aD.frame (aD.jl (B_ b1 i m x.1)) pre)
theorem KN{i f:Nat}{m:Mc LI}{x:MR}{args:List Value}{pre:List HP}{ao:Value→List HP→Prop}(hp:m.ph=1)(h: ∀y:DX,x.h_=(y.b3:Int)+1∧x.early=(y.b4:Int)+1→aq adY f args (jF i y++pre) ao):aq adY f args (dS i m x::pre) ao:=
 aq.ex fun y=>aq.pre (h y.1 (y.2 hp)) (aD.trans (aD.frame (aD.jl _) pre) (by rw [if_pos hp];exact aD.refl _))
theorem KO{A B:Nat→Int}{n:Nat}(h:aJ A 0 n=aJ B 0 n)(j:Nat)(hj:j<n):A j=B j:=by
 have:=congrArg (fun l=>l[j]?) h;simpa [aJ,hj] using this
theorem KP{A B:Nat→Int}{n:Nat}(h: ∀j,j<n→A j=B j):aJ A 0 n=aJ B 0 n:=
 List.map_congr_left fun j hj=>by simpa using h j (adU.1 hj)
theorem f_(A:Nat→Int)(o n:Nat):(aJ A o n).length=n:=by simp [aJ]
theorem n8{i:Nat}{m:Mc LI}{x:MR}(h:Is i m x)(hp:m.ph≠0)(A5:Nat→Int):lW x A5↔m.c=a_ A5:=by
 rw [←(h.call hp).c];exact⟨fun e=>congrArg bM (KP e),fun e=>KO (ln (by simp [aJ]) e)⟩
theorem Tn{a b c d:Int}(ha:0≤a∧a<2)(hb:0≤b∧b<2)(hc:0≤c∧c<2)(hd:0≤d∧d<2):eh a b=eh c d↔a=c∧b=d:=by
 unfold eh;omega
theorem Is.idle{i:Nat}{m:Mc LI}{x:MR}(h:Is i m x):Is i {m with ph:=0} {x with st:=0}:=⟨h.a,h.d,h.Nu,h.Nv,rfl,fun e=>absurd rfl e⟩
theorem Is.Ha{i:Nat}{m:Mc LI}{x:MR}(h:Is i m x){k:Nat}:x.st=(k:Int)↔m.ph=k:=by rw [h.st];omega
def told(e:List (Ev LI)):List (Ev LI):=e.filter fun v=>v.k==3||v.k==4
abbrev Tl(e e' l:List (Ev LI)):Prop:= ∃d,e'=e++d∧d.length≤4∧told d=l
abbrev Out(b b1 i now:Nat)(o:List (Mg LI))(e':List (Ev LI))(r:List (Nat×Nat))(s:Rs LI):List HP:=[aY b i now (o++s.o) e' (r++s.r),cq b1 i s.m]
abbrev tS(Q:Rs LI→Prop)(b b1 i now:Nat)(o:List (Mg LI))(e:List (Ev LI))(r:List (Nat×Nat))(rv:Value)(hs:List HP):Prop:=rv= .tuple #[]∧∃s e',Q s∧Tl e e' s.e∧hs=Out b b1 i now o e' r s
theorem iB{Q:Rs LI→Prop}{b b1 i now f:Nat}{o:List (Mg LI)}{e:List (Ev LI)}{r:List (Nat×Nat)}{args:List Value}{pre:List HP}
  (h:aq adY f args pre fun rv hs=>rv= .tuple #[]∧∃s e',Q s∧Tl e e' s.e∧aD hs (Out b b1 i now o e' r s)):aq adY f args pre (tS Q b b1 i now o e r):=
 h.post fun _ _ ⟨h1,s,e',h2,h3,h4⟩=>⟨_,h4,h1,s,e',h2,h3,rfl⟩
section
variable {b b1 i now:Nat} {o:List (Mg LI)} {r:List (Nat×Nat)} {o':List (Mg LI)} {e':List (Ev LI)} {r':List (Nat×Nat)} {s:Rs LI} {x:MR} {y:List HP}
theorem dJ(h:Is i s.m x)(hp:s.m.ph≠1)(ho:o'=o++s.o)(hr:r'=r++s.r):
  aD (aY b i now o' e' r'::cn b1 x::Mm.bB x.dead 256::y) (Out b b1 i now o e' r s):=by
 subst ho hr;refine aD.trans (b:=[cn b1 x,Mm.bB x.dead 256]++[aY b i now (o++s.o) e' (r++s.r)]) (aD.trans (b:=[aY b i now (o++s.o) e' (r++s.r),cn b1 x,Mm.bB x.dead 256]) (aD.sub (by simp)) (iX [1,2,0] (by decide) rfl)) ?_;exact aD.trans (aD.frame (tR h hp) _) (iX [1,0] (by decide) rfl)
theorem Nx(z:DX)(h:Is i s.m x)(hp:s.m.ph=1)(hz:x.h_=(z.b3:Int)+1∧x.early=(z.b4:Int)+1)(ho:o'=o++s.o)(hr:r'=r++s.r):
  aD (aY b i now o' e' r'::cn b1 x::Mm.bB x.dead 256::(jF i z++y)) (Out b b1 i now o e' r s):=by
 subst ho hr;refine aD.trans (b:=(jF i z++[cn b1 x,Mm.bB x.dead 256])++[aY b i now (o++s.o) e' (r++s.r)]) (aD.trans (b:=[aY b i now (o++s.o) e' (r++s.r),cn b1 x,Mm.bB x.dead 256]++jF i z) (aD.sub ?_) (iX [3,4,5,1,2,0] (by decide) rfl)) ?_
 ·simp
 exact aD.trans (aD.frame (IM h hp z hz) _) (iX [1,0] (by decide) rfl)
end
end Go.RX.Cy

namespace Go.RX.Rg
open Go.RX
def wb(a:E):List bV:=[⟨.int .u8,1,a⟩]
def EO(az:List SV)(hp:List Ck):List Nat:=
 match az with
 | .vv v::_=>match dN hp v with
  | some (j,_)=>[j]
  | none=>[]
 | _=>[]
def Ca(az:List SV)(hp:List Ck):List Nat:=
 match az with
 | .ptr b 0::_=>match findAt hp b with
  | some (j,.row _ _ [_,.vv v,_])=>match dN hp v with
   | some (k,_)=>[j,k]
   | none=>[]
  | _=>[]
 | _=>[]
def B4(c:cz)(h:List Ck):List Ck:=
 match h with
 | [.row b w [a,v,_],.cc md v' t s n _]=>[.row b w [a,v,.int .i64 (.var c.i)],.cc md v' t s n (wb (.aw c.a))]
 | _=>[]
def YY(c:cz)(h:List Ck):List Ck:=
 match h with
 | [.row b w [a,_,m],.cc md _ t s _ _]=>[.row b w [a,.vv c.v,m],.cc md c.v t s (.var c.i) (wb (.aw c.a))]
 | h=>h
def hp3(c:cz)(h:List Ck):List Ck:=
 match h with
 | [l,r4,.row b w [a,v,_],.cc md v' t s n _,.map mb kl ka va z _ _,r7,.row b8 w8 _,.row b9 w9 _,.rj _]=>
  [l,r4,.row b w [a,v,.int .i64 (.var (c.i+1))],.cc md v' t s n (wb (.aw c.a)),.map mb kl ka va z (.aw (c.a+1)) (wb (.aw (c.a+2))),r7,
   .row b8 w8 [.int .u8 (.var (c.i+2)),.int .u8 (.var (c.i+3))],.row b9 w9 [.bool (.var c.bo)],.rj c.b]
 | h=>h
def hpJ(c:cz)(h:List Ck):List Ck:=
 match h with
 | [l,r4,.row b w [a,v,_],.cc md v' t s n _,.map mb kl ka va z _ _,r7,.row b8 w8 _,.row b9 w9 _,rq,rx]=>
  [l,r4,.row b w [a,v,.int .i64 (.var c.i)],.cc md v' t s n (wb (.aw c.a)),.map mb kl ka va z (.aw (c.a+1)) (wb (.aw (c.a+2))),r7,
   .row b8 w8 [.int .u8 (.var (c.i+1)),.int .u8 (.var (c.i+2))],.row b9 w9 [.bool (.var c.bo)],rq,rx]
 | h=>h
def qj(f id:Nat):Option xg:=
 match f,id with
 | 3,2=>some {inc:={i:=3,a:=3,bo:=1},aV:=fun _=>[],hp:=hpJ}
 | _,_=>none
def To(c:cz)(_:List Ck):List Ck:=[.row c.b true [.int .u8 (.lit 1),.vv c.v,.int .i64 (.lit (-1))],.cc true c.v 5 1 (.var 0) (wb (.aw c.a))]
def loops(f id:Nat):Option mP:=
 match f,id with
 | 102,0=>some {inc:={i:=1},aV:=fun c=>[(8,.int .i64 (.var c.i))]}
 | 14,0=>some {pre:=[.cell 0 1 5],inc:={v:=1,i:=1,a:=1},aV:=fun c=>[(21,.int .i64 (.var c.i))],hp:=YY}
 | 3,0=>some {pre:=[.marks],back:=[.mark],ds:=fun c _=>[.many c.b],inc:={i:=4,a:=3,bo:=2,b:=1},aV:=fun c=>[(50,.int .i64 (.var c.i)),(10,.bool (.var (c.bo+1)))],hp:=hp3}
 | 103,0=>some {inc:={i:=1},aV:=fun c=>[(12,.int .i64 (.var c.i))]}
 | _,_=>none
def calls(f s:Nat):Option bh:=
 match f,s with
 | 64,7=>some {use:=EO,inc:={i:=1},val:=fun c=> .int .i64 (.var c.i),new:=fun _ h=>h}
 | 3,22=>some {use:=fun _ _=>[],val:=fun _=> .bool (.lit true),new:=fun _ _=>[]}
 | 3,26=>some {use:=fun _ _=>[],inc:={b:=1,v:=1,a:=1},val:=fun c=> .j7 [.ptr c.b 0,.int .i64 (.lit 0)],new:=To}
 | 3,65=>some {use:=Ca,inc:={i:=2,a:=1},val:=fun c=> .int .i64 (.var (c.i+1)),new:=B4}
 | 3,88=>some {use:=Ca,inc:={i:=2,a:=1},val:=fun c=> .int .i64 (.var (c.i+1)),new:=B4}
 | 3,95=>some {use:=Ca,inc:={i:=2,bo:=1},val:=fun c=> .j7 [.agg [.int .u8 (.var c.i),.int .u8 (.var (c.i+1))],.bool (.var c.bo)],new:=fun _ h=>h}
 | 3,100=>some {use:=Ca,inc:={i:=1,bo:=1},val:=fun c=> .j7 [.int .u8 (.var c.i),.bool (.var c.bo)],new:=fun _ h=>h}
 | _,_=>none
def Bj:List Ck:=[.row 0 true [.int .u8 (.var 3),.vv 0,.int .i64 (.var 4)],.cc true 0 5 1 (.var 5) (wb (.aw 0))]
open Go.RX Go.Proofs
noncomputable def cx:Ctx:={T:=TT,FT:=FT,loops:=loops,calls:=calls,qj:=qj}
def cI(l:List (Nat→List Value))(i:Nat):List Value:=l.flatMap fun c=>c i
set_option maxRecDepth 100000
def EP:F:=
.vc (Go.RX.BE.le (Go.RX.E.lit 0) (Go.RX.E.var 0)) <|
 .loop 0 ({b:=0,v:=0,i:=1,a:=0,bo:=0,p:=0,r:=0}) ([Go.RX.eu.e (Go.RX.E.var 2) (Go.RX.E.lit 0)]) <|
.fork (Go.RX.BE.lt (Go.RX.E.var 2) (Go.RX.E.var 0)) (.vc (Go.RX.BE.le (Go.RX.E.lit 0) (Go.RX.E.var 2)) <|
 .fork (Go.RX.BE.eq (Go.RX.E.var 1) (Go.RX.E.iX (Go.RX.E.aw 0) (Go.RX.E.var 2))) (.ret (Go.RX.SV.int (adL) (Go.RX.E.var 2)) ([Go.RX.Ck.cc true 0 5 1 (Go.RX.E.var 0) [{ck:=Go.RX.CK.int (adG),w:=1,a:=Go.RX.E.aw 0}]])) <|
.vc (Go.RX.BE.le (Go.RX.E.lit (-9223372036854775808)) (Go.RX.E.bin (Go.RX.H2.add) (adL) (Go.RX.E.var 2) (Go.RX.E.lit 1))) <|
 .vc (Go.RX.BE.le (Go.RX.E.bin (Go.RX.H2.add) (adL) (Go.RX.E.var 2) (Go.RX.E.lit 1)) (Go.RX.E.lit 9223372036854775807)) <|
 .back 0 ({b:=0,v:=1,i:=2,a:=1,bo:=0,p:=0,r:=0}) ({b:=0,v:=0,i:=1,a:=0,bo:=0,p:=0,r:=0}) ([Go.RX.eu.e (Go.RX.E.var 2) (Go.RX.E.bin (Go.RX.H2.add) (adL) (Go.RX.E.var 2) (Go.RX.E.lit 1))])) <|
.ret (Go.RX.SV.int (adL) (Go.RX.E.lit (-1))) ([Go.RX.Ck.cc true 0 5 1 (Go.RX.E.var 0) [{ck:=Go.RX.CK.int (adG),w:=1,a:=Go.RX.E.aw 0}]])
def ER(_:Program)(ao:Value→List HP→Prop)(x0:Int)(x1:Int)(A0:Nat→Int)(v0:V1):Prop:=
 aM (0≤x0) (
 ∃(fA:Ext→Prop) (iW:Ext→Nat),(∃x2:Int,x2=0∧fA ⟨[],[],[x2],[],[],[],[]⟩)∧
 ∀x2:Int,fA ⟨[],[],[x2],[],[],[],[]⟩→
 aU (x2<x0) (
 aM (0≤x2) (
 aU (x1=(A0 (ag x2))) (
 ao (.int .i64 x2) [aB true 5 1 v0.v (ag x0) (aH (ag x0) [au .u8 1 A0])]) (
 aM ((-9223372036854775808)≤(x2+1)) (
 aM ((x2+1)≤9223372036854775807) (
 ∃Az:Int,Az=(x2+1)∧fA ⟨[],[],[Az],[],[],[],[]⟩∧iW ⟨[],[],[Az],[],[],[],[]⟩<iW ⟨[],[],[x2],[],[],[],[]⟩))))) (
 ao (.int .i64 (-1)) [aB true 5 1 v0.v (ag x0) (aH (ag x0) [au .u8 1 A0])]))
theorem Ny(P:Program)(ao:Value→List HP→Prop)(x0:Int)(x1:Int)(A0:Nat→Int)(v0:V1)(L:Nat→LC):VC P ao EP {iv:=[x0,x1],av:=[A0],bo:=[],bv:=[],vv:=[v0]} L=ER P ao x0 x1 A0 v0:=by kernel_rfl
theorem KQ:cC cx 102 ([SV.vv 0,SV.int (adG) (E.var 1)]) ([Ck.cc true 0 5 1 (E.var 0) [{ck:=CK.int (adG),w:=1,a:=E.aw 0}]]) ({b:=0,v:=1,i:=2,a:=1,bo:=0,p:=0,r:=0}) Try.f102=EP:=by kernel_rfl
def Nz:F:=
.fork (Go.RX.BE.or (Go.RX.BE.or (Go.RX.BE.le (Go.RX.E.lit 8) (Go.RX.E.var 0)) (Go.RX.BE.lt (Go.RX.E.var 1) (Go.RX.E.lit 1))) (Go.RX.BE.lt (Go.RX.E.lit 4) (Go.RX.E.var 1))) (.ret (Go.RX.SV.j7 [Go.RX.SV.dT,Go.RX.SV.int (adL) (Go.RX.E.lit 2)]) ([])) <|
.wD <| .cg <| .loop 0 ({b:=0,v:=1,i:=1,a:=1,bo:=0,p:=0,r:=0}) ([Go.RX.eu.e (Go.RX.E.var 2) (Go.RX.E.lit 0),Go.RX.eu.v 1 0,Go.RX.eu.v 1 0,Go.RX.eu.e (Go.RX.E.var 2) (Go.RX.E.lit 0),Go.RX.eu.a (Go.RX.E.var 2) (Go.RX.E.aw 0) (Go.RX.E.lit 0)]) <|
.fork (Go.RX.BE.lt (Go.RX.E.var 2) (Go.RX.E.var 1)) (.wD <| .vc (Go.RX.BE.le (Go.RX.E.lit 0) (Go.RX.E.var 2)) <|
 .vc (Go.RX.BE.le (Go.RX.E.bin (Go.RX.H2.mul) (adL) (Go.RX.E.bin (Go.RX.H2.add) (adL) (Go.RX.E.var 2) (Go.RX.E.lit 1)) (Go.RX.E.lit 1)) (Go.RX.E.lit 140737488355328)) <|
 .xS <| .vc (Go.RX.BE.le (Go.RX.E.lit (-9223372036854775808)) (Go.RX.E.bin (Go.RX.H2.add) (adL) (Go.RX.E.var 2) (Go.RX.E.lit 1))) <|
 .vc (Go.RX.BE.le (Go.RX.E.bin (Go.RX.H2.add) (adL) (Go.RX.E.var 2) (Go.RX.E.lit 1)) (Go.RX.E.lit 9223372036854775807)) <|
 .back 0 ({b:=1,v:=1,i:=2,a:=0,bo:=0,p:=0,r:=0}) ({b:=0,v:=1,i:=1,a:=1,bo:=0,p:=0,r:=0}) ([Go.RX.eu.e (Go.RX.E.var 2) (Go.RX.E.bin (Go.RX.H2.add) (adL) (Go.RX.E.var 2) (Go.RX.E.lit 1)),Go.RX.eu.v 1 2,Go.RX.eu.v 1 2,Go.RX.eu.e (Go.RX.E.var 2) (Go.RX.E.bin (Go.RX.H2.add) (adL) (Go.RX.E.var 2) (Go.RX.E.lit 1)),Go.RX.eu.a (Go.RX.E.var 2) (Go.RX.E.aw 0) (Go.RX.E.cV (Go.RX.E.aw 0) (Go.RX.E.var 2) (Go.RX.E.lit 1))])) <|
.ret (Go.RX.SV.j7 [Go.RX.SV.ptr 0 0,Go.RX.SV.int (adL) (Go.RX.E.lit 0)]) ([Go.RX.Ck.row 0 true [Go.RX.SV.int (adG) (Go.RX.E.var 0),Go.RX.SV.vv 1,Go.RX.SV.int (adL) (Go.RX.E.lit (-1))],Go.RX.Ck.cc true 1 5 1 (Go.RX.E.var 2) [{ck:=Go.RX.CK.int (adG),w:=1,a:=Go.RX.E.aw 0}]])
def y0(_:Program)(ao:Value→List HP→Prop)(x0:Int)(x1:Int):Prop:=
 aU (((8≤x0)∨(x1<1))∨(4<x1)) (
 ao (.tuple #[.pointer none,.int .i64 2]) []) (
 ∀b0:Nat,∃(GP:Ext→Prop) (MY:Ext→Nat),(∃v1:V1,∃x2:Int,∃A0:(Nat→Int),x2=0∧v1=(⟨.slice none 0 0,rfl⟩:V1)∧v1=(⟨.slice none 0 0,rfl⟩:V1)∧x2=0∧(∀j,j<(ag x2)→A0 j=(fun _=>0) j)∧GP ⟨[],[v1],[x2],[A0],[],[],[]⟩)∧
 ∀v1:V1,∀x2:Int,∀A0:(Nat→Int),GP ⟨[],[v1],[x2],[A0],[],[],[]⟩→
 aU (x2<x1) (
 ∀_:Nat,aM (0≤x2) (
 aM (((x2+1)*1)≤140737488355328) (
 ∀v2:V1,aM ((-9223372036854775808)≤(x2+1)) (
 aM ((x2+1)≤9223372036854775807) (
 ∃Xw:V1,∃Az:Int,∃YZ:(Nat→Int),Az=(x2+1)∧Xw=v2∧Xw=v2∧Az=(x2+1)∧(∀j,j<(ag Az)→YZ j=(aj A0 (ag x2) 1) j)∧GP ⟨[],[Xw],[Az],[YZ],[],[],[]⟩∧MY ⟨[],[Xw],[Az],[YZ],[],[],[]⟩<MY ⟨[],[v1],[x2],[A0],[],[],[]⟩))))) (
 ao (.tuple #[.pointer (some ⟨b0,0,none⟩),.int .i64 0]) [ak b0 true ([.int .u8 x0,v1.v,.int .i64 (-1)]),aB true 5 1 v1.v (ag x2) (aH (ag x2) [au .u8 1 A0])]))
theorem Tp(P:Program)(ao:Value→List HP→Prop)(x0:Int)(x1:Int)(L:Nat→LC):VC P ao Nz {iv:=[x0,x1],av:=[],bo:=[],bv:=[],vv:=[]} L=y0 P ao x0 x1:=by kernel_rfl
theorem Qx:cC cx 14 ([SV.int (adG) (E.var 0),SV.int (adL) (E.var 1)]) ([]) ({b:=0,v:=0,i:=2,a:=0,bo:=0,p:=0,r:=0}) Try.f14=Nz:=by kernel_rfl
def Cc:F:=
.wD <| .wD <| .vc (Go.RX.BE.or (Go.RX.BE.not (Go.RX.BE.eq (Go.RX.E.var 0) (Go.RX.E.var 3))) (Go.RX.BE.le (Go.RX.E.lit (-9223372036854775808)) (Go.RX.E.var 1))) <|
 .vc (Go.RX.BE.or (Go.RX.BE.not (Go.RX.BE.eq (Go.RX.E.var 0) (Go.RX.E.var 3))) (Go.RX.BE.le (Go.RX.E.var 1) (Go.RX.E.lit 9223372036854775807))) <|
 .vc (Go.RX.BE.or (Go.RX.BE.not (Go.RX.BE.eq (Go.RX.E.var 0) (Go.RX.E.var 3))) (Go.RX.BE.le (Go.RX.E.lit 0) (Go.RX.E.var 5))) <|
 .fork (Go.RX.BE.or (Go.RX.BE.not (Go.RX.BE.eq (Go.RX.E.var 0) (Go.RX.E.var 3))) (Go.RX.BE.le (Go.RX.E.var 5) (Go.RX.E.var 1))) (.ret (Go.RX.SV.int (adL) (Go.RX.E.lit 4)) ([Go.RX.Ck.row 0 true [Go.RX.SV.int (adG) (Go.RX.E.var 3),Go.RX.SV.vv 0,Go.RX.SV.int (adL) (Go.RX.E.var 4)],Go.RX.Ck.cc true 0 5 1 (Go.RX.E.var 5) [{ck:=Go.RX.CK.int (adG),w:=1,a:=Go.RX.E.aw 0}],Go.RX.Ck.row 1 true [Go.RX.SV.int (adG) (Go.RX.E.var 0),Go.RX.SV.int (adG) (Go.RX.E.var 1)],Go.RX.Ck.row 2 true [Go.RX.SV.int (adG) (Go.RX.E.var 0),Go.RX.SV.int (adG) (Go.RX.E.var 1)]])) <|
.fork (Go.RX.BE.or (Go.RX.BE.lt (Go.RX.E.var 2) (Go.RX.E.lit 2)) (Go.RX.BE.lt (Go.RX.E.lit 4) (Go.RX.E.var 2))) (.ret (Go.RX.SV.int (adL) (Go.RX.E.lit 2)) ([Go.RX.Ck.row 0 true [Go.RX.SV.int (adG) (Go.RX.E.var 3),Go.RX.SV.vv 0,Go.RX.SV.int (adL) (Go.RX.E.var 4)],Go.RX.Ck.cc true 0 5 1 (Go.RX.E.var 5) [{ck:=Go.RX.CK.int (adG),w:=1,a:=Go.RX.E.aw 0}],Go.RX.Ck.row 1 true [Go.RX.SV.int (adG) (Go.RX.E.var 0),Go.RX.SV.int (adG) (Go.RX.E.var 1)],Go.RX.Ck.row 2 true [Go.RX.SV.int (adG) (Go.RX.E.var 0),Go.RX.SV.int (adG) (Go.RX.E.var 1)]])) <|
.vc (Go.RX.BE.or (Go.RX.BE.le (Go.RX.E.lit 0) (Go.RX.E.var 4)) (Go.RX.BE.le (Go.RX.E.lit 0) (Go.RX.E.var 1))) <|
 .vc (Go.RX.BE.or (Go.RX.BE.le (Go.RX.E.lit 0) (Go.RX.E.var 4)) (Go.RX.BE.lt (Go.RX.E.var 1) (Go.RX.E.var 5))) <|
 .vc (Go.RX.BE.or (Go.RX.BE.le (Go.RX.E.lit 0) (Go.RX.E.var 4)) (Go.RX.BE.le (Go.RX.E.lit 0) (Go.RX.E.var 1))) <|
 .vc (Go.RX.BE.or (Go.RX.BE.le (Go.RX.E.lit 0) (Go.RX.E.var 4)) (Go.RX.BE.lt (Go.RX.E.var 1) (Go.RX.E.var 5))) <|
 .fork (Go.RX.BE.or (Go.RX.BE.le (Go.RX.E.lit 0) (Go.RX.E.var 4)) (Go.RX.BE.not (Go.RX.BE.eq (Go.RX.E.iX (Go.RX.E.aw 0) (Go.RX.E.var 1)) (Go.RX.E.lit 1)))) (.ret (Go.RX.SV.int (adL) (Go.RX.E.lit 6)) ([Go.RX.Ck.row 0 true [Go.RX.SV.int (adG) (Go.RX.E.var 3),Go.RX.SV.vv 0,Go.RX.SV.int (adL) (Go.RX.E.var 4)],Go.RX.Ck.cc true 0 5 1 (Go.RX.E.var 5) [{ck:=Go.RX.CK.int (adG),w:=1,a:=Go.RX.E.aw 0}],Go.RX.Ck.row 1 true [Go.RX.SV.int (adG) (Go.RX.E.var 0),Go.RX.SV.int (adG) (Go.RX.E.var 1)],Go.RX.Ck.row 2 true [Go.RX.SV.int (adG) (Go.RX.E.var 0),Go.RX.SV.int (adG) (Go.RX.E.var 1)]])) <|
.vc (Go.RX.BE.le (Go.RX.E.lit 0) (Go.RX.E.var 1)) <|
 .vc (Go.RX.BE.lt (Go.RX.E.var 1) (Go.RX.E.var 5)) <|
 .ret (Go.RX.SV.int (adL) (Go.RX.E.lit 0)) ([Go.RX.Ck.row 0 true [Go.RX.SV.int (adG) (Go.RX.E.var 3),Go.RX.SV.vv 0,Go.RX.SV.int (adL) (Go.RX.E.var 4)],Go.RX.Ck.cc true 0 5 1 (Go.RX.E.var 5) [{ck:=Go.RX.CK.int (adG),w:=1,a:=Go.RX.E.cV (Go.RX.E.aw 0) (Go.RX.E.var 1) (Go.RX.E.var 2)}],Go.RX.Ck.row 1 true [Go.RX.SV.int (adG) (Go.RX.E.var 0),Go.RX.SV.int (adG) (Go.RX.E.var 1)],Go.RX.Ck.row 2 true [Go.RX.SV.int (adG) (Go.RX.E.var 0),Go.RX.SV.int (adG) (Go.RX.E.var 1)]])
def IN(_:Program)(ao:Value→List HP→Prop)(x0:Int)(x1:Int)(x2:Int)(x3:Int)(x4:Int)(x5:Int)(A0:Nat→Int)(v0:V1)(b0:Nat):Prop:=
 ∀b1:Nat,∀b2:Nat,aM ((¬(x0=x3))∨((-9223372036854775808)≤x1)) (
 aM ((¬(x0=x3))∨(x1≤9223372036854775807)) (
 aM ((¬(x0=x3))∨(0≤x5)) (
 aU ((¬(x0=x3))∨(x5≤x1)) (
 ao (.int .i64 4) [ak b0 true ([.int .u8 x3,v0.v,.int .i64 x4]),aB true 5 1 v0.v (ag x5) (aH (ag x5) [au .u8 1 A0]),ak b1 true ([.int .u8 x0,.int .u8 x1]),ak b2 true ([.int .u8 x0,.int .u8 x1])]) (
 aU ((x2<2)∨(4<x2)) (
 ao (.int .i64 2) [ak b0 true ([.int .u8 x3,v0.v,.int .i64 x4]),aB true 5 1 v0.v (ag x5) (aH (ag x5) [au .u8 1 A0]),ak b1 true ([.int .u8 x0,.int .u8 x1]),ak b2 true ([.int .u8 x0,.int .u8 x1])]) (
 aM ((0≤x4)∨(0≤x1)) (
 aM ((0≤x4)∨(x1<x5)) (
 aM ((0≤x4)∨(0≤x1)) (
 aM ((0≤x4)∨(x1<x5)) (
 aU ((0≤x4)∨(¬((A0 (ag x1))=1))) (
 ao (.int .i64 6) [ak b0 true ([.int .u8 x3,v0.v,.int .i64 x4]),aB true 5 1 v0.v (ag x5) (aH (ag x5) [au .u8 1 A0]),ak b1 true ([.int .u8 x0,.int .u8 x1]),ak b2 true ([.int .u8 x0,.int .u8 x1])]) (
 aM (0≤x1) (
 aM (x1<x5) (
 ao (.int .i64 0) [ak b0 true ([.int .u8 x3,v0.v,.int .i64 x4]),aB true 5 1 v0.v (ag x5) (aH (ag x5) [au .u8 1 (aj A0 (ag x1) x2)]),ak b1 true ([.int .u8 x0,.int .u8 x1]),ak b2 true ([.int .u8 x0,.int .u8 x1])]))))))))))))
theorem Qy(P:Program)(ao:Value→List HP→Prop)(x0:Int)(x1:Int)(x2:Int)(x3:Int)(x4:Int)(x5:Int)(A0:Nat→Int)(v0:V1)(b0:Nat)(L:Nat→LC):VC P ao Cc {iv:=[x0,x1,x2,x3,x4,x5],av:=[A0],bo:=[],bv:=[b0],vv:=[v0]} L=IN P ao x0 x1 x2 x3 x4 x5 A0 v0 b0:=by kernel_rfl
theorem run_mark:cC cx 15 ([SV.ptr 0 0,SV.agg [SV.int (adG) (E.var 0),SV.int (adG) (E.var 1)],SV.int (adG) (E.var 2)]) ([Ck.row 0 true [SV.int (adG) (E.var 3),SV.vv 0,SV.int (adL) (E.var 4)],Ck.cc true 0 5 1 (E.var 5) [{ck:=CK.int (adG),w:=1,a:=E.aw 0}]]) ({b:=1,v:=1,i:=6,a:=1,bo:=0,p:=0,r:=0}) Try.f15=Cc:=by kernel_rfl
def u4:F:=
.wD <| .wD <| .vc (Go.RX.BE.or (Go.RX.BE.not (Go.RX.BE.eq (Go.RX.E.var 0) (Go.RX.E.var 3))) (Go.RX.BE.le (Go.RX.E.lit (-9223372036854775808)) (Go.RX.E.var 1))) <|
 .vc (Go.RX.BE.or (Go.RX.BE.not (Go.RX.BE.eq (Go.RX.E.var 0) (Go.RX.E.var 3))) (Go.RX.BE.le (Go.RX.E.var 1) (Go.RX.E.lit 9223372036854775807))) <|
 .vc (Go.RX.BE.or (Go.RX.BE.not (Go.RX.BE.eq (Go.RX.E.var 0) (Go.RX.E.var 3))) (Go.RX.BE.le (Go.RX.E.lit 0) (Go.RX.E.var 5))) <|
 .fork (Go.RX.BE.or (Go.RX.BE.not (Go.RX.BE.eq (Go.RX.E.var 0) (Go.RX.E.var 3))) (Go.RX.BE.le (Go.RX.E.var 5) (Go.RX.E.var 1))) (.ret (Go.RX.SV.int (adL) (Go.RX.E.lit 4)) ([Go.RX.Ck.row 0 true [Go.RX.SV.int (adG) (Go.RX.E.var 3),Go.RX.SV.vv 0,Go.RX.SV.int (adL) (Go.RX.E.var 4)],Go.RX.Ck.cc true 0 5 1 (Go.RX.E.var 5) [{ck:=Go.RX.CK.int (adG),w:=1,a:=Go.RX.E.aw 0}],Go.RX.Ck.row 1 true [Go.RX.SV.int (adG) (Go.RX.E.var 0),Go.RX.SV.int (adG) (Go.RX.E.var 1)],Go.RX.Ck.row 2 true [Go.RX.SV.int (adG) (Go.RX.E.var 0),Go.RX.SV.int (adG) (Go.RX.E.var 1)]])) <|
.fork (Go.RX.BE.le (Go.RX.E.lit 0) (Go.RX.E.var 4)) (.ret (Go.RX.SV.int (adL) (Go.RX.E.lit 6)) ([Go.RX.Ck.row 0 true [Go.RX.SV.int (adG) (Go.RX.E.var 3),Go.RX.SV.vv 0,Go.RX.SV.int (adL) (Go.RX.E.var 4)],Go.RX.Ck.cc true 0 5 1 (Go.RX.E.var 5) [{ck:=Go.RX.CK.int (adG),w:=1,a:=Go.RX.E.aw 0}],Go.RX.Ck.row 1 true [Go.RX.SV.int (adG) (Go.RX.E.var 0),Go.RX.SV.int (adG) (Go.RX.E.var 1)],Go.RX.Ck.row 2 true [Go.RX.SV.int (adG) (Go.RX.E.var 0),Go.RX.SV.int (adG) (Go.RX.E.var 1)]])) <|
.vc (Go.RX.BE.le (Go.RX.E.lit (-9223372036854775808)) (Go.RX.E.var 1)) <|
 .vc (Go.RX.BE.le (Go.RX.E.var 1) (Go.RX.E.lit 9223372036854775807)) <|
 .ret (Go.RX.SV.int (adL) (Go.RX.E.lit 0)) ([Go.RX.Ck.row 0 true [Go.RX.SV.int (adG) (Go.RX.E.var 3),Go.RX.SV.vv 0,Go.RX.SV.int (adL) (Go.RX.E.var 1)],Go.RX.Ck.cc true 0 5 1 (Go.RX.E.var 5) [{ck:=Go.RX.CK.int (adG),w:=1,a:=Go.RX.E.aw 0}],Go.RX.Ck.row 1 true [Go.RX.SV.int (adG) (Go.RX.E.var 0),Go.RX.SV.int (adG) (Go.RX.E.var 1)],Go.RX.Ck.row 2 true [Go.RX.SV.int (adG) (Go.RX.E.var 0),Go.RX.SV.int (adG) (Go.RX.E.var 1)]])
def nW(_:Program)(ao:Value→List HP→Prop)(x0:Int)(x1:Int)(_:Int)(x3:Int)(x4:Int)(x5:Int)(A0:Nat→Int)(v0:V1)(b0:Nat):Prop:=
 ∀b1:Nat,∀b2:Nat,aM ((¬(x0=x3))∨((-9223372036854775808)≤x1)) (
 aM ((¬(x0=x3))∨(x1≤9223372036854775807)) (
 aM ((¬(x0=x3))∨(0≤x5)) (
 aU ((¬(x0=x3))∨(x5≤x1)) (
 ao (.int .i64 4) [ak b0 true ([.int .u8 x3,v0.v,.int .i64 x4]),aB true 5 1 v0.v (ag x5) (aH (ag x5) [au .u8 1 A0]),ak b1 true ([.int .u8 x0,.int .u8 x1]),ak b2 true ([.int .u8 x0,.int .u8 x1])]) (
 aU (0≤x4) (
 ao (.int .i64 6) [ak b0 true ([.int .u8 x3,v0.v,.int .i64 x4]),aB true 5 1 v0.v (ag x5) (aH (ag x5) [au .u8 1 A0]),ak b1 true ([.int .u8 x0,.int .u8 x1]),ak b2 true ([.int .u8 x0,.int .u8 x1])]) (
 aM ((-9223372036854775808)≤x1) (
 aM (x1≤9223372036854775807) (
 ao (.int .i64 0) [ak b0 true ([.int .u8 x3,v0.v,.int .i64 x1]),aB true 5 1 v0.v (ag x5) (aH (ag x5) [au .u8 1 A0]),ak b1 true ([.int .u8 x0,.int .u8 x1]),ak b2 true ([.int .u8 x0,.int .u8 x1])])))))))
theorem KR(P:Program)(ao:Value→List HP→Prop)(x0:Int)(x1:Int)(x2:Int)(x3:Int)(x4:Int)(x5:Int)(A0:Nat→Int)(v0:V1)(b0:Nat)(L:Nat→LC):VC P ao u4 {iv:=[x0,x1,x2,x3,x4,x5],av:=[A0],bo:=[],bv:=[b0],vv:=[v0]} L=nW P ao x0 x1 x2 x3 x4 x5 A0 v0 b0:=by kernel_rfl
theorem Hb:cC cx 16 ([SV.ptr 0 0,SV.agg [SV.int (adG) (E.var 0),SV.int (adG) (E.var 1)]]) ([Ck.row 0 true [SV.int (adG) (E.var 3),SV.vv 0,SV.int (adL) (E.var 4)],Ck.cc true 0 5 1 (E.var 5) [{ck:=CK.int (adG),w:=1,a:=E.aw 0}]]) ({b:=1,v:=1,i:=6,a:=1,bo:=0,p:=0,r:=0}) Try.f16=u4:=by kernel_rfl
def Cd:F:=
.fork (Go.RX.BE.le (Go.RX.E.lit 0) (Go.RX.E.var 4)) (.ret (Go.RX.SV.j7 [Go.RX.SV.int (adG) (Go.RX.E.lit 0),Go.RX.SV.bool (Go.RX.BE.lit false)]) ([Go.RX.Ck.row 0 true [Go.RX.SV.int (adG) (Go.RX.E.var 3),Go.RX.SV.vv 0,Go.RX.SV.int (adL) (Go.RX.E.var 4)],Go.RX.Ck.cc true 0 5 1 (Go.RX.E.var 5) [{ck:=Go.RX.CK.int (adG),w:=1,a:=Go.RX.E.aw 0}]])) <|
.call 102 ([Go.RX.SV.vv 0,Go.RX.SV.int (adG) (Go.RX.E.lit 3)]) ([Go.RX.Ck.cc true 0 5 1 (Go.RX.E.var 5) [{ck:=Go.RX.CK.int (adG),w:=1,a:=Go.RX.E.aw 0}]]) ({b:=0,v:=0,i:=1,a:=0,bo:=0,p:=0,r:=0}) (Go.RX.SV.int (adL) (Go.RX.E.var 6)) ([Go.RX.Ck.cc true 0 5 1 (Go.RX.E.var 5) [{ck:=Go.RX.CK.int (adG),w:=1,a:=Go.RX.E.aw 0}]]) <|
.fork (Go.RX.BE.le (Go.RX.E.lit 0) (Go.RX.E.var 6)) (.ret (Go.RX.SV.j7 [Go.RX.SV.int (adG) (Go.RX.E.lit 4),Go.RX.SV.bool (Go.RX.BE.lit true)]) ([Go.RX.Ck.row 0 true [Go.RX.SV.int (adG) (Go.RX.E.var 3),Go.RX.SV.vv 0,Go.RX.SV.int (adL) (Go.RX.E.var 4)],Go.RX.Ck.cc true 0 5 1 (Go.RX.E.var 5) [{ck:=Go.RX.CK.int (adG),w:=1,a:=Go.RX.E.aw 0}]])) <|
.call 102 ([Go.RX.SV.vv 0,Go.RX.SV.int (adG) (Go.RX.E.lit 1)]) ([Go.RX.Ck.cc true 0 5 1 (Go.RX.E.var 5) [{ck:=Go.RX.CK.int (adG),w:=1,a:=Go.RX.E.aw 0}]]) ({b:=0,v:=0,i:=1,a:=0,bo:=0,p:=0,r:=0}) (Go.RX.SV.int (adL) (Go.RX.E.var 7)) ([Go.RX.Ck.cc true 0 5 1 (Go.RX.E.var 5) [{ck:=Go.RX.CK.int (adG),w:=1,a:=Go.RX.E.aw 0}]]) <|
.fork (Go.RX.BE.le (Go.RX.E.lit 0) (Go.RX.E.var 7)) (.ret (Go.RX.SV.j7 [Go.RX.SV.int (adG) (Go.RX.E.lit 0),Go.RX.SV.bool (Go.RX.BE.lit false)]) ([Go.RX.Ck.row 0 true [Go.RX.SV.int (adG) (Go.RX.E.var 3),Go.RX.SV.vv 0,Go.RX.SV.int (adL) (Go.RX.E.var 4)],Go.RX.Ck.cc true 0 5 1 (Go.RX.E.var 5) [{ck:=Go.RX.CK.int (adG),w:=1,a:=Go.RX.E.aw 0}]])) <|
.call 102 ([Go.RX.SV.vv 0,Go.RX.SV.int (adG) (Go.RX.E.lit 2)]) ([Go.RX.Ck.cc true 0 5 1 (Go.RX.E.var 5) [{ck:=Go.RX.CK.int (adG),w:=1,a:=Go.RX.E.aw 0}]]) ({b:=0,v:=0,i:=1,a:=0,bo:=0,p:=0,r:=0}) (Go.RX.SV.int (adL) (Go.RX.E.var 8)) ([Go.RX.Ck.cc true 0 5 1 (Go.RX.E.var 5) [{ck:=Go.RX.CK.int (adG),w:=1,a:=Go.RX.E.aw 0}]]) <|
.fork (Go.RX.BE.le (Go.RX.E.lit 0) (Go.RX.E.var 8)) (.ret (Go.RX.SV.j7 [Go.RX.SV.int (adG) (Go.RX.E.lit 5),Go.RX.SV.bool (Go.RX.BE.lit true)]) ([Go.RX.Ck.row 0 true [Go.RX.SV.int (adG) (Go.RX.E.var 3),Go.RX.SV.vv 0,Go.RX.SV.int (adL) (Go.RX.E.var 4)],Go.RX.Ck.cc true 0 5 1 (Go.RX.E.var 5) [{ck:=Go.RX.CK.int (adG),w:=1,a:=Go.RX.E.aw 0}]])) <|
.ret (Go.RX.SV.j7 [Go.RX.SV.int (adG) (Go.RX.E.lit 3),Go.RX.SV.bool (Go.RX.BE.lit true)]) ([Go.RX.Ck.row 0 true [Go.RX.SV.int (adG) (Go.RX.E.var 3),Go.RX.SV.vv 0,Go.RX.SV.int (adL) (Go.RX.E.var 4)],Go.RX.Ck.cc true 0 5 1 (Go.RX.E.var 5) [{ck:=Go.RX.CK.int (adG),w:=1,a:=Go.RX.E.aw 0}]])
def IP(P:Program)(ao:Value→List HP→Prop)(_:Int)(_:Int)(_:Int)(x3:Int)(x4:Int)(x5:Int)(A0:Nat→Int)(v0:V1)(b0:Nat):Prop:=
 aU (0≤x4) (
 ao (.tuple #[.int .u8 0,.bool false]) [ak b0 true ([.int .u8 x3,v0.v,.int .i64 x4]),aB true 5 1 v0.v (ag x5) (aH (ag x5) [au .u8 1 A0])]) (
 ∃post,aq P 102 [v0.v,.int .u8 3] [aB true 5 1 v0.v (ag x5) (aH (ag x5) [au .u8 1 A0])] post∧
 ∀x hs,post x hs→∃x6:Int,x= .int .i64 x6∧hs=[aB true 5 1 v0.v (ag x5) (aH (ag x5) [au .u8 1 A0])]∧
 aU (0≤x6) (
 ao (.tuple #[.int .u8 4,.bool true]) [ak b0 true ([.int .u8 x3,v0.v,.int .i64 x4]),aB true 5 1 v0.v (ag x5) (aH (ag x5) [au .u8 1 A0])]) (
 ∃post,aq P 102 [v0.v,.int .u8 1] [aB true 5 1 v0.v (ag x5) (aH (ag x5) [au .u8 1 A0])] post∧
 ∀x hs,post x hs→∃x7:Int,x= .int .i64 x7∧hs=[aB true 5 1 v0.v (ag x5) (aH (ag x5) [au .u8 1 A0])]∧
 aU (0≤x7) (
 ao (.tuple #[.int .u8 0,.bool false]) [ak b0 true ([.int .u8 x3,v0.v,.int .i64 x4]),aB true 5 1 v0.v (ag x5) (aH (ag x5) [au .u8 1 A0])]) (
 ∃post,aq P 102 [v0.v,.int .u8 2] [aB true 5 1 v0.v (ag x5) (aH (ag x5) [au .u8 1 A0])] post∧
 ∀x hs,post x hs→∃x8:Int,x= .int .i64 x8∧hs=[aB true 5 1 v0.v (ag x5) (aH (ag x5) [au .u8 1 A0])]∧
 aU (0≤x8) (
 ao (.tuple #[.int .u8 5,.bool true]) [ak b0 true ([.int .u8 x3,v0.v,.int .i64 x4]),aB true 5 1 v0.v (ag x5) (aH (ag x5) [au .u8 1 A0])]) (
 ao (.tuple #[.int .u8 3,.bool true]) [ak b0 true ([.int .u8 x3,v0.v,.int .i64 x4]),aB true 5 1 v0.v (ag x5) (aH (ag x5) [au .u8 1 A0])]))))
theorem Qz(P:Program)(ao:Value→List HP→Prop)(x0:Int)(x1:Int)(x2:Int)(x3:Int)(x4:Int)(x5:Int)(A0:Nat→Int)(v0:V1)(b0:Nat)(L:Nat→LC):VC P ao Cd {iv:=[x0,x1,x2,x3,x4,x5],av:=[A0],bo:=[],bv:=[b0],vv:=[v0]} L=IP P ao x0 x1 x2 x3 x4 x5 A0 v0 b0:=by kernel_rfl
theorem NA:cC cx 18 ([SV.ptr 0 0]) ([Ck.row 0 true [SV.int (adG) (E.var 3),SV.vv 0,SV.int (adL) (E.var 4)],Ck.cc true 0 5 1 (E.var 5) [{ck:=CK.int (adG),w:=1,a:=E.aw 0}]]) ({b:=1,v:=1,i:=6,a:=1,bo:=0,p:=0,r:=0}) Try.f18=Cd:=by kernel_rfl
open Go.RX Go.Proofs
noncomputable def cx0:Ctx:={T:=TT,FT:=FT}
theorem KT:(cC cx0 13 [] [] {} Try.f13).ji=true:=by kernel_rfl
theorem wc:aq adY 13 [] [] (fun v hs=>v= .bool true∧hs=[]):=aq.ji (C:=cx0) pA gw pB Try.func13 KT
noncomputable def Ce(A:Nat→Int)(n x:Int):Bool:=@decide (∃j:Int,0≤j∧j<n∧A j.toNat=x) (Classical.propDecidable _)
theorem Bk{A:Nat→Int}{n x:Int}:Ce A n x=true↔∃j:Int,0≤j∧j<n∧A j.toNat=x:=by simp [Ce]
abbrev Y0(n:Int)(A:Nat→Int):List Value:=aH n.toNat [au .u8 1 A]
abbrev h_(b:Nat)(v:V1)(acc jT n:Int)(M:Nat→Int):List HP:=[ak b true [.int .u8 acc,v.v,.int .i64 jT],aB true 5 1 v.v n.toNat (Y0 n M)]
theorem qk(v:V1)(n x:Int)(A:Nat→Int)(h0:0≤n)(h1:n≤9223372036854775807):
  aq adY 102 [v.v,.int .u8 x] [aB true 5 1 v.v n.toNat (Y0 n A)]
   (fun r hs=> ∃k:Int,r= .int .i64 k∧hs=[aB true 5 1 v.v n.toNat (Y0 n A)]∧(0≤k↔Ce A n x=true)):=by
 refine aq.eA (C:=cx) (aQ:={i:=2,a:=1,v:=1}) (ρ:={iv:=[n,x],av:=[A],vv:=[v]}) pA gw pB Try.func102 (by constructor<;>rfl) (args:=[.vv 0,.int .u8 (.var 1)])
  (hp:=[.cc true 0 5 1 (.var 0) [⟨.int .u8,1,.aw 0⟩]]) ?_
 rw [KQ,Ny];unfold ER;refine⟨h0,fun _=>⟨fun e=>0≤e.i.getD 0 0∧∀j:Int,0≤j→j<e.i.getD 0 0→A j.toNat≠x,fun e=>(n - e.i.getD 0 0).toNat,⟨0,rfl,by simp;omega⟩,?_⟩⟩;rintro k ⟨Ap,Pa⟩;simp only [ah]at Ap Pa;refine⟨fun cK=>⟨Ap,fun _=>⟨fun he=>⟨k,rfl,rfl,fun _=>Bk.2 ⟨k,Ap,cK,he.symm⟩,fun _=>Ap⟩,fun fc=>⟨by omega,fun _=>⟨by omega,fun _=>⟨_,rfl,?_,?_⟩⟩⟩⟩⟩,fun wG=>⟨-1,rfl,rfl,fun h=>by omega,fun hm=>?_⟩⟩
 ·simp only [ah];refine⟨by omega,fun j h0 h1=>?_⟩;by_cases hj:j=k
  ·subst hj;exact fun h=>fc h.symm
  ·exact Pa j h0 (by omega)
 ·simp only [ah];omega
 ·obtain⟨j,j0,j1,j2⟩:=Bk.1 hm;exact absurd j2 (Pa j j0 (by omega))
theorem lz(acc n:Int)(h:acc<8)(h1:1≤n)(h4:n≤4):
  aq adY 14 [.int .u8 acc,.int .i64 n] [] (fun r hs=> ∃b:Nat,∃v:V1,∃A:Nat→Int,r= .tuple #[.pointer (some ⟨b,0,none⟩),.int .i64 0]∧hs=h_ b v acc (-1) n A∧∀j,j<n.toNat→A j=1):=by
 refine aq.eA (C:=cx) (aQ:={i:=2}) (ρ:={iv:=[acc,n]}) pA gw pB Try.func14 (by constructor<;>rfl) (args:=[.int .u8 (.var 0),.int .i64 (.var 1)]) (hp:=[]) ?_;rw [Qx,Tp];unfold y0;refine⟨fun ab3=>by omega,fun _=>fun b0=>?_⟩;refine⟨fun e=>0≤e.i.getD 0 0∧e.i.getD 0 0≤n∧∀j,j<(e.i.getD 0 0).toNat→e.a.getD 0 (fun _=>0) j=1,fun e=>(n - e.i.getD 0 0).toNat,⟨_,0,fun _=>0,rfl,rfl,rfl,rfl,fun _ _=>rfl,?_⟩,?_⟩
 ·simp only [ah];exact⟨by omega,by omega,fun j hj=>by simp at hj⟩
 rintro v1 k A ⟨Ap,Pa,Ui⟩;simp only [ah]at Ap Pa Ui;refine⟨fun cK=>fun b1=>⟨Ap,fun _=>⟨by omega,fun _=>fun v2=>⟨by omega,fun _=>⟨by omega,fun _=>⟨v2,k+1,_,rfl,rfl,rfl,rfl,fun _ _=>rfl,?_,?_⟩⟩⟩⟩⟩,fun wG=>?_⟩
 ·simp only [ah];refine⟨by omega,by omega,fun j hj=>?_⟩;simp only [aj];split
  ·rfl
  ·exact Ui j (by omega)
 ·simp only [ah];omega
 ·have Ih:k=n:=by omega
  subst Ih;exact⟨b0,v1,A,rfl,rfl,Ui⟩
def NB(acc jT n:Int)(M:Nat→Int)(d0 d1 how:Int):Prop:=d0=acc∧d1<n∧2≤how∧how≤4∧jT<0∧M d1.toNat=1
theorem Hc(b:Nat)(v:V1)(acc jT n d0 d1 how:Int)(M:Nat→Int)(Y1:0≤d1)(hd1:d1≤255)(hn:0≤n):
  aq adY 15 [.pointer (some ⟨b,0,none⟩),.agg #[.int .u8 d0,.int .u8 d1],.int .u8 how] (h_ b v acc jT n M)
   (fun r hs=> ∃c:Int,∃M':Nat→Int,r= .int .i64 c∧hs=h_ b v acc jT n M'∧((c≠0∧M'=M)∨(c=0∧NB acc jT n M d0 d1 how∧M'=aj M d1.toNat how))):=by
 refine aq.post (p:=fun r hs=> ∃gN,aD hs gN∧∃c:Int,∃M':Nat→Int,r= .int .i64 c∧gN=h_ b v acc jT n M'∧((c≠0∧M'=M)∨(c=0∧NB acc jT n M d0 d1 how∧M'=aj M d1.toNat how))) ?_ fun v hs h=>h
 refine aq.eA (C:=cx) (aQ:={i:=6,a:=1,v:=1,b:=1}) (ρ:={iv:=[d0,d1,how,acc,jT,n],av:=[M],vv:=[v],bv:=[b]}) pA gw pB Try.func15 (by constructor<;>rfl)
  (args:=[.ptr 0 0,.agg [.int .u8 (.var 0),.int .u8 (.var 1)],.int .u8 (.var 2)]) (hp:=Bj) ?_
 rw [show cC cx 15 [.ptr 0 0,.agg [.int .u8 (.var 0),.int .u8 (.var 1)],.int .u8 (.var 2)] Bj {i:=6,a:=1,v:=1,b:=1} Try.f15=Cc from run_mark,Qy];unfold IN;intro b1 b2;have sub: ∀(M':Nat→Int) (l:List HP),aD (h_ b v acc jT n M'++l) (h_ b v acc jT n M'):=fun M' l=>aD.sub (List.sublist_append_left _ _)
 iterate 3 refine⟨by omega,fun _=>?_⟩
 refine⟨fun hb=>⟨_,sub M _,4,M,rfl,rfl,.inl ⟨by omega,rfl⟩⟩,fun hb=>⟨fun hh=>⟨_,sub M _,2,M,rfl,rfl,.inl ⟨by omega,rfl⟩⟩,fun hh=>?_⟩⟩
 iterate 4 refine⟨by omega,fun _=>?_⟩
 refine⟨fun hc=>⟨_,sub M _,6,M,rfl,rfl,.inl ⟨by omega,rfl⟩⟩,fun hc=>⟨by omega,fun _=>⟨by omega,fun _=>?_⟩⟩⟩;refine⟨_,sub (aj M d1.toNat how) _,0,_,rfl,rfl,.inr ⟨rfl,⟨?_,?_,?_,?_,?_,?_⟩,rfl⟩⟩<;>omega
def ES(acc jT n d0 d1:Int):Prop:=d0=acc∧d1<n∧jT<0
theorem fL(b:Nat)(v:V1)(acc jT n d0 d1:Int)(M:Nat→Int)(Y1:0≤d1)(hd1:d1≤255)(hn:0≤n):
  aq adY 16 [.pointer (some ⟨b,0,none⟩),.agg #[.int .u8 d0,.int .u8 d1]] (h_ b v acc jT n M)
   (fun r hs=> ∃c ze:Int,r= .int .i64 c∧hs=h_ b v acc ze n M∧((c≠0∧ze=jT)∨(c=0∧ES acc jT n d0 d1∧ze=d1))):=by
 refine aq.post (p:=fun r hs=> ∃gN,aD hs gN∧∃c ze:Int,r= .int .i64 c∧gN=h_ b v acc ze n M∧((c≠0∧ze=jT)∨(c=0∧ES acc jT n d0 d1∧ze=d1))) ?_ fun v hs h=>h
 refine aq.eA (C:=cx) (aQ:={i:=6,a:=1,v:=1,b:=1}) (ρ:={iv:=[d0,d1,0,acc,jT,n],av:=[M],vv:=[v],bv:=[b]}) pA gw pB Try.func16 (by constructor<;>rfl)
  (args:=[.ptr 0 0,.agg [.int .u8 (.var 0),.int .u8 (.var 1)]]) (hp:=Bj) ?_
 rw [show cC cx 16 [.ptr 0 0,.agg [.int .u8 (.var 0),.int .u8 (.var 1)]] Bj {i:=6,a:=1,v:=1,b:=1} Try.f16=u4 from Hb,KR];unfold nW;intro b1 b2;have sub: ∀(ze:Int) (l:List HP),aD (h_ b v acc ze n M++l) (h_ b v acc ze n M):=fun ze l=>aD.sub (List.sublist_append_left _ _)
 iterate 3 refine⟨by omega,fun _=>?_⟩
 refine⟨fun hb=>⟨_,sub jT _,4,jT,rfl,rfl,.inl ⟨by omega,rfl⟩⟩,fun hb=>⟨fun hh=>⟨_,sub jT _,6,jT,rfl,rfl,.inl ⟨by omega,rfl⟩⟩,fun hh=>?_⟩⟩;refine⟨by omega,fun _=>⟨by omega,fun _=>?_⟩⟩;refine⟨_,sub d1 _,0,_,rfl,rfl,.inr ⟨rfl,⟨?_,?_,?_⟩,rfl⟩⟩<;>omega
def ET(M:Nat→Int)(n:Int):Prop:=Ce M n 3=true∨Ce M n 1=false
theorem Hd(b:Nat)(v:V1)(acc jT n:Int)(M:Nat→Int)(h0:0≤n)(h1:n≤9223372036854775807):
  aq adY 18 [.pointer (some ⟨b,0,none⟩)] (h_ b v acc jT n M)
   (fun r hs=> ∃x:Int,∃q:Bool,r= .tuple #[.int .u8 x,.bool q]∧hs=h_ b v acc jT n M∧(q=true↔jT<0∧ET M n)):=by
 refine aq.eA (C:=cx) (aQ:={i:=6,a:=1,v:=1,b:=1}) (ρ:={iv:=[0,0,0,acc,jT,n],av:=[M],vv:=[v],bv:=[b]}) pA gw pB Try.func18 (by constructor<;>rfl) (args:=[.ptr 0 0]) (hp:=Bj) ?_;rw [show cC cx 18 [.ptr 0 0] Bj {i:=6,a:=1,v:=1,b:=1} Try.f18=Cd from NA,Qz];unfold IP;refine⟨fun h=>⟨0,false,rfl,rfl,by simp;omega⟩,fun h=>⟨_,qk v n 3 M h0 h1,?_⟩⟩;rintro r hs ⟨k3,rfl,rfl,QA⟩;refine⟨k3,rfl,rfl,fun g3=>⟨4,true,rfl,rfl,?_⟩,fun g3=>⟨_,qk v n 1 M h0 h1,?_⟩⟩
 ·simp only [ET,QA.1 g3,true_or,and_true,true_iff];omega
 rintro r hs ⟨k1,rfl,rfl,Pa⟩;have n3:Ce M n 3=false:=by cases hm:Ce M n 3 with | false=>rfl | true=>exact absurd (QA.2 hm) g3
 refine⟨k1,rfl,rfl,fun g1=>⟨0,false,rfl,rfl,?_⟩,fun g1=>⟨_,qk v n 2 M h0 h1,?_⟩⟩
 ·simp [ET,n3,Pa.1 g1]
 rintro r hs ⟨k2,rfl,rfl,Ui⟩;have n1:Ce M n 1=false:=by cases hm:Ce M n 1 with | false=>rfl | true=>exact absurd (Pa.2 hm) g1
 refine⟨k2,rfl,rfl,fun g2=>⟨5,true,rfl,rfl,?_⟩,fun g2=>⟨3,true,rfl,rfl,?_⟩⟩
 ·simp only [ET,n1,or_true,and_true,true_iff];omega
 ·simp only [ET,n1,or_true,and_true,true_iff];omega
end Go.RX.Rg
