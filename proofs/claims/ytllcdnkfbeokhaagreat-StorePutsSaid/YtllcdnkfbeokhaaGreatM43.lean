/- What the executor is told of a row of fields. -/
import Derived.Test.YtllcdnkfbeokhaaGreatM42
open Go.IntKind renaming wrap -> ae
open Go.Proofs.Tryz renaming prog -> ax8
open Go.Value renaming int -> ayD
open Int renaming natCast_nonneg -> ax4, toNat -> ag
open List renaming append -> axQ, append_assoc -> ayl, flatMap_cons -> ayn, flatMap_nil -> ayx, getD_cons_zero -> ah, getD_eq_getElem?_getD -> ayk, getElem?_append_left -> axX, getElem?_append_right -> axY, length_append -> axP, length_map -> ayd, length_singleton -> axR, mem_range -> ayc
namespace Go.RX.Wf
open Go.RX Go.RX.Vb Go.RX.Vc Go.RX.Vd Go.RX.Ve
def Up(a:Nat):List bU:=[⟨.int .u8,1,.cM a⟩,⟨.int .u64,1,.cM (a+1)⟩,⟨.cv,1,.cM (a+2)⟩]
def ML:List Ck:=[.row 0 true [.vv 0],.cF true 0 84 3 (.var 0) (Up 0)]
def nA:List SV:=[.ptr 0 0,.int .u8 (.var 2),.vv 1]
def nHp:List Ck:=ML++[.cF false 1 24 1 (.var 1) [⟨.int .u64,1,.cM 3⟩]]
def aoq:cI:={b:=1,v:=2,i:=3,a:=4}
def grow(v n a:Nat)(h:List Ck):List Ck:=match h with
 | .row b w _:: .cF md _ t s _ _::r=> .row b w [.vv v]:: .cF md v t s (.var n) (Up a)::r
 | h=>h
def ahY(v n a p:Nat)(h:List Ck):List Ck:=(grow v n a h).map λc=>match c with | .abs _=> .abs p | c=>c
def ahZ(slot:Nat):dA:={inc:={i:=2,v:=1,a:=3},aQ:=λc=>[(slot,.int .i64 (.var c.i))],hp:=λc h=>grow c.v (c.i+1) c.a h}
def loops(f id:Nat):Option dA:=
 match f,id with
 | 25,0=>some (ahZ 10)
 | 24,0=>some {inc:={i:=2,v:=1,a:=3,p:=1},aQ:=λc=>[(8,.int .i64 (.var c.i))],hp:=λc h=>ahY c.v (c.i+1) c.a c.p h}
 | _,_=>none
def szA:List SV:=[.ptr 0 0,.Jq (.var 1)]
def ah0:cI:={b:=1,v:=1,i:=2,a:=3}
def ah1(st:St):Option cc:=
 match st.hp.findIdx? (λc=>match c with | .cF true _ 84 3 _ [_,_,⟨.pt ..,_,_⟩]=>true | _=>false),kT st.hp with
 | some j,[k]=>match st.hp[j]? with
  | some (.cF md vs t s n [a,b,⟨.pt _ v,_,_⟩])=>match st.hp.findIdx? (iF v)with
   | some i=>some {use:=[j,k,i],inc:={a:=1,p:=1},new:=[.cF md vs t s n [a,b,⟨.cv,1,.cM st.aY.a⟩],.abs st.aY.p]}
   | none=>none
  | _=>none
 | _,_=>none
def iN(f r:Nat):Option (St->Option cc):=if(f=24/\r=3)\/(f=30/\r=1)then some ah1 else none
def aor:List SV:=[.ptr 0 0,.vv 1]
def ah2:List Ck:=ML++[.abs 0,.cF false 1 23 32 (.var 1) [⟨.int .u8,32,.cM 3⟩]]
def ac0:cI:={b:=1,v:=2,i:=2,a:=4,p:=1}
def aos:List Ck:=ML++[.abs 0]
def idA:List SV:=[.ptr 0 0,.agg [.jD .u8 16 (.cM 3)]]
def ah3:cI:={b:=1,v:=1,i:=1,a:=4,p:=1}
end Go.RX.Wf

namespace Go.RX.Wg
open Go.RX Go.RX.Vb Go.RX.Vc Go.RX.Vd Go.RX.Ve Go.RX.Wf
def isR:Ck->Bool
 | .abs k=>k != 0
 | _=>false
def X4(hp:List Ck):List Nat:=(hp.findIdx? isR).toList
def ac1(az:List SV)(hp:List Ck):List Nat:=match az.getLast? with
 | some (.sl b ..)=>(hp.findIdx? (rG b)).toList
 | _=>[]
def Uq:List SV->List Nat
 | []=>[]
 | .vv v::r=>v::Uq r
 | _::r=>Uq r
def ah4(az:List SV)(hp:List Ck):List Nat:=match az.getLast? with
 | some (.vv v)=>(hp.findIdx? (iF v)).toList
 | some (.agg cs)=>(Uq cs).filterMap λv=>hp.findIdx? (iF v)
 | _=>[]
def ru:aI:={use:=λaz hp=>X4 hp++ac1 az hp,inc:={p:=1},val:=λ_=> .oH [],new:=λc _=>[.abs c.p]}
def Ce:aI:={use:=λaz hp=>X4 hp++ah4 az hp,inc:={p:=1},val:=λ_=> .oH [],new:=λc h=> .abs c.p::h.drop 1}
def X5:aI:={use:=λ_ hp=>X4 hp++kT hp,inc:={p:=1},val:=λ_=> .oH [],new:=λc h=> .abs c.p::h.drop 1}
def bj(f:Nat):Option aI:=
 match f with
 | 24=>some ru
 | 25=>some ru
 | 26=>some ru
 | 30=>some ru
 | 31=>some ru
 | 99=>some ru
 | 29=>some Ce
 | 48=>some Ce
 | 28=>some Ce
 | 27=>some X5
 | _=>none
def rTo(p:Nat)(h:List Ck):List Ck:=h.map λc=>if isR c then .abs p else c
def wX(slot:Nat):dA:={inc:={i:=1,p:=1},aQ:=λc=>[(slot,.int .i64 (.var c.i))],hp:=λc h=>rTo c.p h}
def loops(f id:Nat):Option dA:=
 match f,id with
 | 48,0=>some (wX 52)
 | 28,0=>some (wX 16)
 | 28,2=>some (wX 35)
 | 28,4=>some (wX 98)
 | 12,0=>some (wX 49)
 | 12,2=>some (wX 84)
 | 12,4=>some (wX 102)
 | 12,6=>some (wX 129)
 | 31,0=>some (wX 9)
 | _,_=>none
def ah5(st:St):Option cc:=
 match st.hp.findIdx? (λc=>match c with | .row _ _ [.bW]=>true | _=>false)with
 | some i=>some {use:=[i],inc:={p:=1},new:=[.abs st.aY.p]}
 | none=>none
def ah6(st:St):Option cc:=
 match st.fr.lookup 130,st.fr.lookup 3,X4 st.hp with
 | some (.bool b),some (.ptr r _),[i]=>
  if st.known.contains (kp b)then some {use:=[i],inc:={v:=1,i:=1,a:=3,p:=1},new:=[.row r true [.vv st.aY.v],.cF true st.aY.v 84 3 (.var st.aY.i) (Up st.aY.a),.abs st.aY.p]}
  else if st.known.contains b then none else some {split:=some b}
 | _,_,_=>none
def iN(f r:Nat):Option (St->Option cc):=
 if f=12 then
  (if r=1 then some ah5 else if r=31 then some ah6 else if r=17 then some (Wc.EW 85 82 84 77 268 Ve.bS 20)else if r=18 then some (Wc.EX 82)else if r=26 then some (Wc.uT 77)else none)
 else none
def aaW:List SV:=[.ptr 0 0,.agg [u8 0,u8 1]]
def ac2:List SV:=[.ptr 0 0,.agg [Vc.key 0,u32 0]]
def rHp:List Ck:=[.abs 1]
def uS:cI:={b:=1,i:=2,a:=1,p:=2}
def isA:List SV:=[.ptr 0 0,.vv 0]
def aot:List Ck:=[.abs 1,.cF false 0 4 1 (.var 0) [⟨.bool,1,.cM 0⟩]]
def ah7:cI:={b:=1,v:=1,i:=1,a:=1,p:=2}
def ah8:List SV:=[.ptr 0 0,.agg (Vn.afK 1 0 0)]
def ac3:List Ck:=[.abs 1,.cF false 0 245 65 (.var 0) (dv 6)]
def X6:cI:={b:=1,v:=1,i:=8,a:=9,p:=2}
def Wn:List SV:=[.ptr 0 0,.agg (Vc.Ri 1 0 0)]
def ah9:List Ck:=[.abs 1,.cF false 0 245 65 (.var 0) (dv 8)]
def ac4:cI:={b:=1,v:=1,i:=12,a:=11,p:=2}
def WI:List SV:= .ptr 0 0::Vo.WI
def LS:List Ck:= .abs 1::Vo.LS
def J1:cI:={b:=1,v:=3,i:=17,a:=9,p:=2}
def ah_:List SV:=[.agg (Vd.Rm 0 0 0)]
def ac5:List Ck:=Vd.stC false 18 8 0++[.abs 0]
def X7:cI:={v:=7,i:=25,a:=22,p:=1}
end Go.RX.Wg

namespace Go.RX.Wm
open Go.RX Go.RX.Vb Go.RX.Vc Go.RX.Vd Go.RX.Ve Go.RX.Vr Go.RX.Vt Go.RX.Vw Go.RX.Wf Go.RX.Wg
def ac6:aI:={use:=λ_ _=>[],inc:={v:=1,i:=1,a:=1},val:=λc=> .vv c.v,new:=λc _=>[.cF true c.v 5 1 (.var c.i) (uQ c.a)]}
def BD(f:Nat):Option aI:=if f=23 then some ac6 else none
def aia(v n a:Nat)(h:List Ck):List Ck:=h.map λc=>match c with | .cF true _ 5 1 _ _=> .cF true v 5 1 (.var n) (uQ a) | c=>c
def ac7(f id:Nat):Option dA:=
 match f,id with
 | 11,0=>some {pre:=[.slot 3 5],inc:={i:=2,v:=1,a:=1},aQ:=λc=>[(3,.vv c.v),(4,.int .i64 (.var c.i))],hp:=λc h=>aia c.v (c.i+1) c.a h}
 | _,_=>none
def EU(f r:Nat):Option (St->Option cc):=
 if f=11 then(if r=3 then some (Wc.EW 9 0 4 5 1 uQ 1)else if r=5 then some (Wc.EX 0)else if r=4 then some (Wc.uT 5)else none)else none
def aou:List SV:=[.vv 0]
def aib:List Ck:=[.cF false 0 84 3 (.var 0) (Up 0),.abs 0]
def ac8:cI:={v:=1,i:=1,a:=3,p:=1}
def Ur:aI:={use:=Wc.Sk,inc:={v:=1,i:=1,a:=3,p:=1},val:=λc=> .vv c.v,new:=λc h=>h++[.cF true c.v 84 3 (.var c.i) (Up c.a),.abs c.p]}
def ac9(az:List SV)(hp:List Ck):List Nat:=
 match az with
 | [.vv v]=>(match hp.findIdx? (iF v)with | some i=>[i,i+1] | none=>[])++kT hp
 | _=>[]
def X8:aI:={use:=ac9,inc:={v:=1,i:=1,a:=1},val:=λc=> .vv c.v,new:=λc h=>h++[.cF true c.v 5 1 (.var c.i) (uQ c.a)]}
def BC(f:Nat):Option aI:=
 match f with
 | 7=>some Wa.xZ
 | 8=>some Wc.DW
 | 9=>some Wc.Hz
 | 10=>some Wc.Sl
 | 11=>some X8
 | 12=>some Ur
 | 13=>some Wc.DV
 | 14=>some DT
 | _=>none
def aic:List SV:=[.agg (Vd.Rm 0 0 0)]
end Go.RX.Wm

namespace Go.RX.Vb
open Go.RX Go.Proofs
noncomputable def aov:Ctx:={T:=TT,FT:=FT,loops:=Wm.ac7,iN:=Wm.EU,bj:=Wm.BD}
noncomputable def aow:Ctx:={T:=TT,FT:=FT,bj:=Wm.BC}
open Go.RX Go.Proofs
set_option maxRecDepth 100000
def ac_(al:PT)(x0:Int):Prop:=
 ∀v0:V1,al (v0.v) [aA true 5 1 v0.v 1 (aG 1 [ax .u8 1 (au (λ_=>0) 0 (ae .u8 (ar .rem .u64 x0 256)))])]
theorem ada(al:PT)(x0:Int)(h:ac_ al x0):ao ax8 23 [.int .u64 x0,.int .i64 1] [] al:=
 vm (C:=cx) [.int .u64 (.var 0),.int .i64 (.lit 1)] [] ⟨0,0,1,0,0,0,0⟩ ⟨[x0],[],[],[],[],[],[],[]⟩ Tryz.func23 (by kernel_rfl) h
def adb(al:PT)(x0:Int):Prop:=
 ∀v0:V1,al (v0.v) [aA true 5 1 v0.v 4 (aG 4 [ax .u8 1 (au (au (au (au (λ_=>0) 3 (ae .u8 (ar .rem .u64 x0 256))) 2 (ae .u8 (ar .rem .u64 (ae .u64 (ar .quo .u64 x0 256)) 256))) 1 (ae .u8 (ar .rem .u64 (ae .u64 (ar .quo .u64 (ae .u64 (ar .quo .u64 x0 256)) 256)) 256))) 0 (ae .u8 (ar .rem .u64 (ae .u64 (ar .quo .u64 (ae .u64 (ar .quo .u64 (ae .u64 (ar .quo .u64 x0 256)) 256)) 256)) 256)))])]
theorem ade(al:PT)(x0:Int)(h:adb al x0):ao ax8 23 [.int .u64 x0,.int .i64 4] [] al:=
 vm (C:=cx) [.int .u64 (.var 0),.int .i64 (.lit 4)] [] ⟨0,0,1,0,0,0,0⟩ ⟨[x0],[],[],[],[],[],[],[]⟩ Tryz.func23 (by kernel_rfl) h
def adf(al:PT)(x0:Int):Prop:=
 ∀v0:V1,al (v0.v) [aA true 5 1 v0.v 8 (aG 8 [ax .u8 1 (au (au (au (au (au (au (au (au (λ_=>0) 7 (ae .u8 (ar .rem .u64 x0 256))) 6 (ae .u8 (ar .rem .u64 (ae .u64 (ar .quo .u64 x0 256)) 256))) 5 (ae .u8 (ar .rem .u64 (ae .u64 (ar .quo .u64 (ae .u64 (ar .quo .u64 x0 256)) 256)) 256))) 4 (ae .u8 (ar .rem .u64 (ae .u64 (ar .quo .u64 (ae .u64 (ar .quo .u64 (ae .u64 (ar .quo .u64 x0 256)) 256)) 256)) 256))) 3 (ae .u8 (ar .rem .u64 (ae .u64 (ar .quo .u64 (ae .u64 (ar .quo .u64 (ae .u64 (ar .quo .u64 (ae .u64 (ar .quo .u64 x0 256)) 256)) 256)) 256)) 256))) 2 (ae .u8 (ar .rem .u64 (ae .u64 (ar .quo .u64 (ae .u64 (ar .quo .u64 (ae .u64 (ar .quo .u64 (ae .u64 (ar .quo .u64 (ae .u64 (ar .quo .u64 x0 256)) 256)) 256)) 256)) 256)) 256))) 1 (ae .u8 (ar .rem .u64 (ae .u64 (ar .quo .u64 (ae .u64 (ar .quo .u64 (ae .u64 (ar .quo .u64 (ae .u64 (ar .quo .u64 (ae .u64 (ar .quo .u64 (ae .u64 (ar .quo .u64 x0 256)) 256)) 256)) 256)) 256)) 256)) 256))) 0 (ae .u8 (ar .rem .u64 (ae .u64 (ar .quo .u64 (ae .u64 (ar .quo .u64 (ae .u64 (ar .quo .u64 (ae .u64 (ar .quo .u64 (ae .u64 (ar .quo .u64 (ae .u64 (ar .quo .u64 (ae .u64 (ar .quo .u64 x0 256)) 256)) 256)) 256)) 256)) 256)) 256)) 256)))])]
theorem adg(al:PT)(x0:Int)(h:adf al x0):ao ax8 23 [.int .u64 x0,.int .i64 8] [] al:=
 vm (C:=cx) [.int .u64 (.var 0),.int .i64 (.lit 8)] [] ⟨0,0,1,0,0,0,0⟩ ⟨[x0],[],[],[],[],[],[],[]⟩ Tryz.func23 (by kernel_rfl) h
def Us(al:PT)(x0:Int)(A0 A1 A2:Nat->Int)(v0:V1)(p0:HP):Prop:=
 ∃(bO:Ext->Prop) (dG:Ext->Nat),(∃(v2:V1) (x1 x2:Int) (A3:Nat->Int),v2=(⟨.slice none 0 0,rfl⟩:V1)/\x1=0/\v2=(⟨.slice none 0 0,rfl⟩:V1)/\x2=0/\cG x2 A3 (λ_=>0)/\bO ⟨[],[v2],[x1,x2],[A3],[],[],[]⟩)/\
 ∀(v2:V1) (x1 x2:Int) (A3:Nat->Int),bO ⟨[],[v2],[x1,x2],[A3],[],[],[]⟩->
 ay (0<=x0) (
 bf (x1<x0) (
 ∃HD:Ext->Prop,(∀(w:World) (Fs:List HP),aU ([FA v0 x0 A0 A1 A2,p0]++Fs) w->∃(v3:V1) (x3:Int) (A4:Nat->Int),aU ([aA false 84 3 v0.v (ag x0) (aG (ag x0) [ax .u8 1 A0,ax .u64 1 A1,cV 1 (λj=>if j=(ag x1)then v3.v else bg (A2 j))]),p0,bQ v3 x3 A4]++Fs) w/\HD ⟨[],[v3],[x3],[A4],[],[],[]⟩)/\
 (∀(v3:V1) (x3:Int) (A4:Nat->Int),HD ⟨[],[v3],[x3],[A4],[],[],[]⟩->
 ay (0<=x1) (
 ∀_:Nat,∃HD:Ext->Prop,(∀(w:World) (Fs:List HP),aU ([aA false 84 3 v0.v (ag x0) (aG (ag x0) [ax .u8 1 A0,ax .u64 1 A1,cV 1 (λj=>if j=(ag x1)then v3.v else bg (A2 j))]),bQ v3 x3 A4]++Fs) w->aU ([FA v0 x0 A0 A1 A2,bQ v3 x3 A4]++Fs) w/\HD ⟨[],[],[],[],[],[],[]⟩)/\
 (HD ⟨[],[],[],[],[],[],[]⟩->
 bf ((A0 (ag x1))=49) (
 Cl 23 [.int .u64 (A1 (ag x1)),.int .i64 1] [] <| Rv λ_ x4 A5=>
 ay (0<=x4) (
 ay (0<=x2) (
 ay (0<=x4) (
 j8 (x2+x4) (
 ∀v5:V1,fj (x1+1) ((
 ∃Ig6:Ext->Prop,(∀(w:World) (Fs:List HP),aU ([bQ v3 x3 A4]++Fs) w->aU ([]++Fs) w/\Ig6 ⟨[],[],[],[],[],[],[]⟩)/\
 (Ig6 ⟨[],[],[],[],[],[],[]⟩->
 ∃(h_:V1) (jd fk:Int) (mD:Nat->Int),h_=v5/\jd=(x1+1)/\h_=v5/\fk=(x2+x4)/\cG fk mD (bV A3 (ag x2) (ag x4) A5)/\Dn bO dG ⟨[],[h_],[jd,fk],[mD],[],[],[]⟩ ⟨[],[v2],[x1,x2],[A3],[],[],[]⟩)))))))) (
 bf ((A0 (ag x1))=52) (
 Cl 23 [.int .u64 (A1 (ag x1)),.int .i64 4] [] <| Rv λ_ x4 A5=>
 ay (0<=x4) (
 ay (0<=x2) (
 ay (0<=x4) (
 j8 (x2+x4) (
 ∀v5:V1,fj (x1+1) ((
 ∃BG:Ext->Prop,(∀(w:World) (Fs:List HP),aU ([bQ v3 x3 A4]++Fs) w->aU ([]++Fs) w/\BG ⟨[],[],[],[],[],[],[]⟩)/\
 (BG ⟨[],[],[],[],[],[],[]⟩->
 ∃(h_:V1) (jd fk:Int) (mD:Nat->Int),h_=v5/\jd=(x1+1)/\h_=v5/\fk=(x2+x4)/\cG fk mD (bV A3 (ag x2) (ag x4) A5)/\Dn bO dG ⟨[],[h_],[jd,fk],[mD],[],[],[]⟩ ⟨[],[v2],[x1,x2],[A3],[],[],[]⟩)))))))) (
 bf ((A0 (ag x1))=108) (
 Cl 23 [.int .u64 (A1 (ag x1)),.int .i64 4] [] <| Rv λ_ x4 A5=>
 ay (0<=x4) (
 ay (0<=x2) (
 ay (0<=x4) (
 j8 (x2+x4) (
 ∀v5:V1,fj (x1+1) ((
 ∃aid:Ext->Prop,(∀(w:World) (Fs:List HP),aU ([bQ v3 x3 A4]++Fs) w->aU ([]++Fs) w/\aid ⟨[],[],[],[],[],[],[]⟩)/\
 (aid ⟨[],[],[],[],[],[],[]⟩->
 ∃(h_:V1) (jd fk:Int) (mD:Nat->Int),h_=v5/\jd=(x1+1)/\h_=v5/\fk=(x2+x4)/\cG fk mD (bV A3 (ag x2) (ag x4) A5)/\Dn bO dG ⟨[],[h_],[jd,fk],[mD],[],[],[]⟩ ⟨[],[v2],[x1,x2],[A3],[],[],[]⟩)))))))) (
 bf ((A0 (ag x1))=56) (
 Cl 23 [.int .u64 (A1 (ag x1)),.int .i64 8] [] <| Rv λ_ x4 A5=>
 ay (0<=x4) (
 ay (0<=x2) (
 ay (0<=x4) (
 j8 (x2+x4) (
 ∀v5:V1,fj (x1+1) ((
 ∃IJ:Ext->Prop,(∀(w:World) (Fs:List HP),aU ([bQ v3 x3 A4]++Fs) w->aU ([]++Fs) w/\IJ ⟨[],[],[],[],[],[],[]⟩)/\
 (IJ ⟨[],[],[],[],[],[],[]⟩->
 ∃(h_:V1) (jd fk:Int) (mD:Nat->Int),h_=v5/\jd=(x1+1)/\h_=v5/\fk=(x2+x4)/\cG fk mD (bV A3 (ag x2) (ag x4) A5)/\Dn bO dG ⟨[],[h_],[jd,fk],[mD],[],[],[]⟩ ⟨[],[v2],[x1,x2],[A3],[],[],[]⟩)))))))) (
 bf ((A0 (ag x1))=98) (
 bf (¬((A1 (ag x1))=0)) (
 ∀_:Nat,ay (0<=x2) (
 j8 ((x2+1)*1) (
 ∀v4:V1,fj (x1+1) ((
 ∃IK:Ext->Prop,(∀(w:World) (Fs:List HP),aU ([bQ v3 x3 A4]++Fs) w->aU ([]++Fs) w/\IK ⟨[],[],[],[],[],[],[]⟩)/\
 (IK ⟨[],[],[],[],[],[],[]⟩->
 ∃(h_:V1) (jd fk:Int) (mD:Nat->Int),h_=v4/\jd=(x1+1)/\h_=v4/\fk=(x2+1)/\cG fk mD (au A3 (ag x2) 1)/\Dn bO dG ⟨[],[h_],[jd,fk],[mD],[],[],[]⟩ ⟨[],[v2],[x1,x2],[A3],[],[],[]⟩)))))) (
 ∀_:Nat,ay (0<=x2) (
 j8 ((x2+1)*1) (
 ∀v4:V1,fj (x1+1) ((
 ∃IK:Ext->Prop,(∀(w:World) (Fs:List HP),aU ([bQ v3 x3 A4]++Fs) w->aU ([]++Fs) w/\IK ⟨[],[],[],[],[],[],[]⟩)/\
 (IK ⟨[],[],[],[],[],[],[]⟩->
 ∃(h_:V1) (jd fk:Int) (mD:Nat->Int),h_=v4/\jd=(x1+1)/\h_=v4/\fk=(x2+1)/\cG fk mD (au A3 (ag x2) (ae .u8 (A1 (ag x1))))/\Dn bO dG ⟨[],[h_],[jd,fk],[mD],[],[],[]⟩ ⟨[],[v2],[x1,x2],[A3],[],[],[]⟩))))))) (
 bf ((A0 (ag x1))=114) (
 ay (0<=x3) (
 ay (0<=x2) (
 ay (0<=x3) (
 j8 (x2+x3) (
 ∀v4:V1,fj (x1+1) ((
 ∃IK:Ext->Prop,(∀(w:World) (Fs:List HP),aU ([bQ v3 x3 A4]++Fs) w->aU ([]++Fs) w/\IK ⟨[],[],[],[],[],[],[]⟩)/\
 (IK ⟨[],[],[],[],[],[],[]⟩->
 ∃(h_:V1) (jd fk:Int) (mD:Nat->Int),h_=v4/\jd=(x1+1)/\h_=v4/\fk=(x2+x3)/\cG fk mD (bV A3 (ag x2) (ag x3) A4)/\Dn bO dG ⟨[],[h_],[jd,fk],[mD],[],[],[]⟩ ⟨[],[v2],[x1,x2],[A3],[],[],[]⟩)))))))) (
 bf ((A0 (ag x1))=115) (
 ay (0<=x3) (
 Cl 23 [.int .u64 (ae .u64 x3),.int .i64 4] [] <| Rv λ_ x4 A5=>
 ay (0<=x4) (
 ay (0<=x2) (
 ay (0<=x4) (
 j8 (x2+x4) (
 ∀_:V1,ay (0<=(x2+x4)) (
 j8 ((x2+x4)+x3) (
 ∀v6:V1,fj (x1+1) ((
 ∃Ut:Ext->Prop,(∀(w:World) (Fs:List HP),aU ([bQ v3 x3 A4]++Fs) w->aU ([]++Fs) w/\Ut ⟨[],[],[],[],[],[],[]⟩)/\
 (Ut ⟨[],[],[],[],[],[],[]⟩->
 ∃(h_:V1) (jd fk:Int) (mD:Nat->Int),h_=v6/\jd=(x1+1)/\h_=v6/\fk=((x2+x4)+x3)/\cG fk mD (bV (bV A3 (ag x2) (ag x4) A5) (ag (x2+x4)) (ag x3) A4)/\Dn bO dG ⟨[],[h_],[jd,fk],[mD],[],[],[]⟩ ⟨[],[v2],[x1,x2],[A3],[],[],[]⟩))))))))))) (
 fj (x1+1) ((
 ∃Ut:Ext->Prop,(∀(w:World) (Fs:List HP),aU ([bQ v3 x3 A4]++Fs) w->aU ([]++Fs) w/\Ut ⟨[],[],[],[],[],[],[]⟩)/\
 (Ut ⟨[],[],[],[],[],[],[]⟩->
 ∃(h_:V1) (jd fk:Int) (mD:Nat->Int),h_=v2/\jd=(x1+1)/\h_=v2/\fk=x2/\cG fk mD A3/\Dn bO dG ⟨[],[h_],[jd,fk],[mD],[],[],[]⟩ ⟨[],[v2],[x1,x2],[A3],[],[],[]⟩)))))))))))))) (
 al (v2.v) [FA v0 x0 A0 A1 A2,p0,cr v2 x2 A3]))
theorem adh(al:PT)(x0:Int)(A0 A1 A2:Nat->Int)(v0:V1)(p0:HP)(h:Us al x0 A0 A1 A2 v0 p0):ao ax8 11 [v0.v] [FA v0 x0 A0 A1 A2,p0] al:=
 vm (C:=aov) Wm.aou Wm.aib Wm.ac8 ⟨[x0],[A0,A1,A2],[],[],[v0],[],[p0],[]⟩ Tryz.func11 (by kernel_rfl) h
def MN(al:PT)(x0 x1 x2 x3 x4 x5 x6 x7 x8 x9 bA bH bR bN dP b_ dD cq dt cO d_ gN eT ff e9:Int)(A0 A1 A2 A3 A4 A5 A6 A7 A8 A9 dM dx dC fH gw gx fw eY eQ fb fg fR:Nat->Int)(v0 v1 v2 v3 v4 v5 v6:V1)(p0:HP):Prop:=
 ∀_:Nat,Cl 7 [] [] λx hs _=>x= .bool true/\hs=[]/\
 Cl 8 [yW A0 x0 x1 x2 A1 A2 v0 x3 v1 x4 x5 A3 v2 x6 A4 (!(x7==0)) x8 x9 bA A5 A6 A7 v3 bH v4 bR bN dP b_ dD cq v5 v6] [m8 v0 dt A8 A9,m9 v1 cO dM dx dC,mu v2 d_ fH,bQ v3 gN gw,mr v4 eT gx fw,bQ v5 ff eY,qw v6 e9 eQ fb fg fR,p0] λx hs l=> ∃q0:Bool,x= .bool q0/\hs=l/\
 bf (q0=true) (
 al (.bool true) []) (
 Cl 9 [yW A0 x0 x1 x2 A1 A2 v0 x3 v1 x4 x5 A3 v2 x6 A4 (!(x7==0)) x8 x9 bA A5 A6 A7 v3 bH v4 bR bN dP b_ dD cq v5 v6] [m8 v0 dt A8 A9,m9 v1 cO dM dx dC,mu v2 d_ fH,bQ v3 gN gw,mr v4 eT gx fw,bQ v5 ff eY,qw v6 e9 eQ fb fg fR,p0] <| aax λ_ i_ ki iB=>
 Cl 10 [yW A0 x0 x1 x2 A1 A2 v0 x3 v1 x4 x5 A3 v2 x6 A4 (!(x7==0)) x8 x9 bA A5 A6 A7 v3 bH v4 bR bN dP b_ dD cq v5 v6] [m8 v0 dt A8 A9,m9 v1 cO dM dx dC,mu v2 d_ fH,bQ v3 gN gw,mr v4 eT gx fw,bQ v5 ff eY,qw v6 e9 eQ fb fg fR,p0] λx hs l=> ∃q1:Bool,x= .bool q1/\hs=l/\
 bf (¬(q1=true)) (
 ay (0<=ki) (
 al (.bool ((ki==0)&&(i_==2))) [])) (
 Cl 12 [yW A0 x0 x1 x2 A1 A2 v0 x3 v1 x4 x5 A3 v2 x6 A4 (!(x7==0)) x8 x9 bA A5 A6 A7 v3 bH v4 bR bN dP b_ dD cq v5 v6] [m8 v0 dt A8 A9,m9 v1 cO dM dx dC,mu v2 d_ fH,bQ v3 gN gw,mr v4 eT gx fw,bQ v5 ff eY,qw v6 e9 eQ fb fg fR,p0] λx hs l=> ∃(v8:V1) (iM:Int) (jk iG kH:Nat->Int),∃p1:HP,x=v8.v/\hs=l++[kg v8 iM jk iG kH,p1]/\
 Cl 11 [v8.v] [kg v8 iM jk iG kH,p1,p0] λx hs l=> ∃(v9:V1) (jY:Int) (mT:Nat->Int),x=v9.v/\hs=l++[cr v9 jY mT]/\
 bf (i_=0) (
 Cl 13 [yW A0 x0 x1 x2 A1 A2 v0 x3 v1 x4 x5 A3 v2 x6 A4 (!(x7==0)) x8 x9 bA A5 A6 A7 v3 bH v4 bR bN dP b_ dD cq v5 v6] [m8 v0 dt A8 A9,m9 v1 cO dM dx dC,mu v2 d_ fH,bQ v3 gN gw,mr v4 eT gx fw,bQ v5 ff eY,qw v6 e9 eQ fb fg fR,p0] <| Y9 λ_ rj mQ=>
 bf (eB (xY mQ rj)=eB (xY mT jY)) (
 Cl 14 [v9.v] [cr v9 jY mT] <| Y9 λ_ pR oS=>
 al (.bool (eB (xY iB ki)==eB (xY oS pR))) []) (
 al (.bool false) [])) (
 al (.bool false) [])))
theorem X9(al:PT)(x0 x1 x2 x3 x4 x5 x6 x7 x8 x9 bA bH bR bN dP b_ dD cq dt cO d_ gN eT ff e9:Int)(A0 A1 A2 A3 A4 A5 A6 A7 A8 A9 dM dx dC fH gw gx fw eY eQ fb fg fR:Nat->Int)(v0 v1 v2 v3 v4 v5 v6:V1)(p0:HP)(h:MN al x0 x1 x2 x3 x4 x5 x6 x7 x8 x9 bA bH bR bN dP b_ dD cq dt cO d_ gN eT ff e9 A0 A1 A2 A3 A4 A5 A6 A7 A8 A9 dM dx dC fH gw gx fw eY eQ fb fg fR v0 v1 v2 v3 v4 v5 v6 p0):ao ax8 3 [yW A0 x0 x1 x2 A1 A2 v0 x3 v1 x4 x5 A3 v2 x6 A4 (!(x7==0)) x8 x9 bA A5 A6 A7 v3 bH v4 bR bN dP b_ dD cq v5 v6] [m8 v0 dt A8 A9,m9 v1 cO dM dx dC,mu v2 d_ fH,bQ v3 gN gw,mr v4 eT gx fw,bQ v5 ff eY,qw v6 e9 eQ fb fg fR,p0] al:=
 qv (C:=aow) Wm.aic Wc.Sn Wc.HB ⟨[x0,x1,x2,x3,x4,x5,x6,x7,x8,x9,bA,bH,bR,bN,dP,b_,dD,cq,dt,cO,d_,gN,eT,ff,e9],[A0,A1,A2,A3,A4,A5,A6,A7,A8,A9,dM,dx,dC,fH,gw,gx,fw,eY,eQ,fb,fg,fR],[],[],[v0,v1,v2,v3,v4,v5,v6],[],[p0],[]⟩ 0 Tryz.func3 (by kernel_rfl) h
open Go.RX Go.Proofs
noncomputable def X_:Ctx:={T:=TT,FT:=FT,loops:=Wf.loops,iN:=Wf.iN}
noncomputable def KX:Ctx:={T:=TT,FT:=FT,loops:=Wg.loops,iN:=Wg.iN,bj:=Wg.bj}
open Go.RX Go.Proofs
set_option maxRecDepth 100000
def ZC(al:PT)(x0 x1 x2:Int)(A0 A1 A2 A3:Nat->Int)(v0 _:V1)(b0:Nat):Prop:=
 ay (0<=x1) (
 ∃(bO:Ext->Prop) (dG:Ext->Nat),(∃(v2:V1) (x3 x4:Int) (A4 A5 A6:Nat->Int),x3=0/\v2=v0/\v2=v0/\x4=x0/\cG x4 A4 A0/\cG x4 A5 A1/\cG x4 A6 A2/\bO ⟨[],[v2],[x3,x4],[A4,A5,A6],[],[],[]⟩)/\
 ∀(v2:V1) (x3 x4:Int) (A4 A5 A6:Nat->Int),bO ⟨[],[v2],[x3,x4],[A4,A5,A6],[],[],[]⟩->
 bf (x3<x1) (
 ay (0<=x3) (
 ∀_:Nat,ay (0<=x4) (
 j8 ((x4+1)*40) (
 ∀v3:V1,fj (x3+1) ((
 ∃(h_:V1) (qJ xl:Int) (Ax Dq HN:Nat->Int),qJ=(x3+1)/\h_=v3/\h_=v3/\xl=(x4+1)/\cG xl Ax (au A4 (ag x4) x2)/\cG xl Dq (au A5 (ag x4) (A3 (ag x3)))/\cG xl HN (au A6 (ag x4) 0)/\Dn bO dG ⟨[],[h_],[qJ,xl],[Ax,Dq,HN],[],[],[]⟩ ⟨[],[v2],[x3,x4],[A4,A5,A6],[],[],[]⟩)))))) (
 al (.tuple #[]) [ak b0 true ([v2.v]),kg v2 x4 A4 A5 A6]))
theorem aie(al:PT)(x0 x1 x2:Int)(A0 A1 A2 A3:Nat->Int)(v0 v1:V1)(b0:Nat)(h:ZC al x0 x1 x2 A0 A1 A2 A3 v0 v1 b0):ao ax8 25 [pp b0,.int .u8 x2,v1.v] [ak b0 true ([v0.v]),kg v0 x0 A0 A1 A2,aA false 24 1 v1.v (ag x1) (aG (ag x1) [ax .u64 1 A3])] al:=
 qv (C:=X_) Wf.nA Wf.nHp Wf.aoq ⟨[x0,x1,x2],[A0,A1,A2,A3],[],[b0],[v0,v1],[],[],[]⟩ 2 Tryz.func25 (by kernel_rfl) h
def Uu(al:PT)(x0 x1:Int)(A0 A1 A2:Nat->Int)(_:V1)(b0:Nat):Prop:=
 ∀_:Nat,ay (0<=x0) (
 j8 ((x0+1)*40) (
 ∀v1:V1,al (.tuple #[]) [ak b0 true ([v1.v]),aA true 84 3 v1.v (ag (x0+1)) (aG (ag (x0+1)) [ax .u8 1 (au A0 (ag x0) 115),ax .u64 1 (au A1 (ag x0) 0),cV 1 (λj=>bg ((au A2 (ag x0) x1) j))])]))
theorem adi(al:PT)(x0 x1:Int)(A0 A1 A2:Nat->Int)(v0:V1)(b0:Nat)(h:Uu al x0 x1 A0 A1 A2 v0 b0):ao ax8 29 [pp b0,(bg x1)] [ak b0 true ([v0.v]),kg v0 x0 A0 A1 A2] al:=
 qv (C:=X_) Wf.szA Wf.ML Wf.ah0 ⟨[x0,x1],[A0,A1,A2],[],[b0],[v0],[],[],[]⟩ 2 Tryz.func29 (by kernel_rfl) h
def Uv(al:PT)(x0:Int)(A0 A1 A2 A3:Nat->Int)(_:V1)(b0:Nat)(p0:HP):Prop:=
 ∀(_:Nat) (_ v2:V1) (_:Nat),ay (0<=x0) (
 j8 ((x0+1)*40) (
 ∀v3:V1,∃Zl:Ext->Prop,(∀(w:World) (Fs:List HP),aU ([aA true 84 3 v3.v (ag (x0+1)) (aG (ag (x0+1)) [ax .u8 1 (au A0 (ag x0) 114),ax .u64 1 (au A1 (ag x0) 0),cV 1 (λj=>if j=(ag x0)then v2.v else bg (A2 j))]),p0,aA true 5 1 v2.v 16 (aG 16 [ax .u8 1 A3])]++Fs) w->∃A4:(Nat->Int),∃p1:HP,aU ([kg v3 (x0+1) (au A0 (ag x0) 114) (au A1 (ag x0) 0) A4,p1]++Fs) w/\Zl ⟨[],[],[],[A4],[],[p1],[]⟩)/\
 (∀A4:(Nat->Int),∀p1:HP,Zl ⟨[],[],[],[A4],[],[p1],[]⟩->
 al (.tuple #[]) [ak b0 true ([v3.v]),kg v3 (x0+1) (au A0 (ag x0) 114) (au A1 (ag x0) 0) A4,p1])))
theorem adj(al:PT)(x0:Int)(A0 A1 A2 A3:Nat->Int)(v0:V1)(b0:Nat)(p0:HP)(h:Uv al x0 A0 A1 A2 A3 v0 b0 p0):ao ax8 30 [pp b0,.agg (axQ (aj .u8 16 A3) ([])).toArray] [ak b0 true ([v0.v]),kg v0 x0 A0 A1 A2,p0] al:=
 qv (C:=X_) Wf.idA Wf.aos Wf.ah3 ⟨[x0],[A0,A1,A2,A3],[],[b0],[v0],[],[p0],[]⟩ 3 Tryz.func30 (by kernel_rfl) h
def MO(al:PT)(x0 x1:Int)(A0 A1 A2 A3:Nat->Int)(v0 _:V1)(b0:Nat)(p0:HP):Prop:=
 ay (0<=x1) (
 ∃(bO:Ext->Prop) (dG:Ext->Nat),(∃(v2:V1) (x2 x3:Int) (A4 A5 A6:Nat->Int),∃p1:HP,x2=0/\v2=v0/\v2=v0/\x3=x0/\cG x3 A4 A0/\cG x3 A5 A1/\cG x3 A6 A2/\p1=p0/\bO ⟨[],[v2],[x2,x3],[A4,A5,A6],[],[p1],[]⟩)/\
 ∀(v2:V1) (x2 x3:Int) (A4 A5 A6:Nat->Int),∀p1:HP,bO ⟨[],[v2],[x2,x3],[A4,A5,A6],[],[p1],[]⟩->
 bf (x2<x1) (
 ay (0<=x2) (
 ∀(_:Nat) (_ v4:V1) (_:Nat),ay (0<=x3) (
 j8 ((x3+1)*40) (
 ∀v5:V1,∃HD:Ext->Prop,(∀(w:World) (Fs:List HP),aU ([aA true 84 3 v5.v (ag (x3+1)) (aG (ag (x3+1)) [ax .u8 1 (au A4 (ag x3) 114),ax .u64 1 (au A5 (ag x3) 0),cV 1 (λj=>if j=(ag x3)then v4.v else bg (A6 j))]),p1,aA true 5 1 v4.v 32 (aG 32 [ax .u8 1 (bx A3 (ag (x2*32)))])]++Fs) w->∃A7:(Nat->Int),∃p2:HP,aU ([kg v5 (x3+1) (au A4 (ag x3) 114) (au A5 (ag x3) 0) A7,p2]++Fs) w/\HD ⟨[],[],[],[A7],[],[p2],[]⟩)/\
 (∀A7:(Nat->Int),∀p2:HP,HD ⟨[],[],[],[A7],[],[p2],[]⟩->
 fj (x2+1) ((
 ∃(h_:V1) (fk qJ:Int) (Ax Dq HN:Nat->Int),∃Zq:HP,fk=(x2+1)/\h_=v5/\h_=v5/\qJ=(x3+1)/\cG qJ Ax (au A4 (ag x3) 114)/\cG qJ Dq (au A5 (ag x3) 0)/\cG qJ HN A7/\Zq=p2/\Dn bO dG ⟨[],[h_],[fk,qJ],[Ax,Dq,HN],[],[Zq],[]⟩ ⟨[],[v2],[x2,x3],[A4,A5,A6],[],[p1],[]⟩))))))) (
 al (.tuple #[]) [ak b0 true ([v2.v]),kg v2 x3 A4 A5 A6,p1]))
theorem Ya(al:PT)(x0 x1:Int)(A0 A1 A2 A3:Nat->Int)(v0 v1:V1)(b0:Nat)(p0:HP)(h:MO al x0 x1 A0 A1 A2 A3 v0 v1 b0 p0):ao ax8 24 [pp b0,v1.v] [ak b0 true ([v0.v]),kg v0 x0 A0 A1 A2,p0,aA false 23 32 v1.v (ag x1) (aG (ag x1) [ax .u8 32 A3])] al:=
 qv (C:=X_) Wf.aor Wf.ah2 Wf.ac0 ⟨[x0,x1],[A0,A1,A2,A3],[],[b0],[v0,v1],[],[p0],[]⟩ 3 Tryz.func24 (by kernel_rfl) h
end Go.RX.Vb

namespace Go.Vs
structure eK where
 c:Nat
 n:Nat
 b:List Nat
def fN(c:Nat)(l:List Nat):List eK:=l.map λn=>⟨c,n,[]⟩
def fB(l:List Bool):List eK:=l.map λx=>⟨98,if x then 1 else 0,[]⟩
def fK(l:List (List Nat)):List eK:=l.map λk=>⟨114,0,k⟩
def fS(b:List Nat):List eK:=[⟨115,0,b⟩]
def pM(d:js):List eK:=fN 49 [d.a,d.d]
def sX(c:yX):List eK:=fK [c.key]++fN 52 [c.n]
def wY(x:fe):List eK:=fK [x.dh]++fN 52 [x.n]++fK [x.msg]
def zi(s:Hj):List eK:=fK [s.root,s.bind,s.own,s.cJ]++fB [s.gi,s.gj,s.gk,s.cS]++sX s.send++sX s.recv++fN 52 [s.prev]++fN 108 [s.aC.length]++s.aC.flatMap wY
def wZ(e:bX):List eK:=zi e.s++fK [e.ident,e.qG]++fB [e.cZ]++fN 52 [e.dH]++fB [e.own,e.current]
def pk(p:eu):List eK:=pM p.dev++fN 108 [p.l.length]++p.l.flatMap wZ
def w6(x:dj):List eK:=fN 52 [x.id]++fK [x.cT]
def w7(x:Room):List eK:=fK [x.id]++fN 49 [x.aM]++fB [x.out]++fN 56 [x.since]
def zj(c:Call):List eK:=pM c.me++fN 49 c.bE++fN 108 [c.dead.length]++fK c.dead++fN 49 [c.state]++fK [c.id]++fB [c.out]++fN 49 [c.aM]++pM c.peer++fK [c.own,c.cH,c.fi]++fS c.marks++fN 49 [c.fu]++fN 108 [c.early.length]++c.early.flatMap pM++fN 56 [c.eD,c.bP,c.since,c.heard,c.lJ]++fN 52 [c.fQ]
def fo(s:State):List eK:=fK [s.lW]++fN 56 [s.drawn]++pM s.table.keys.dev++fK [s.table.keys.ident,s.table.keys.signed]++fN 108 [s.table.keys.once.length]++s.table.keys.once.flatMap w6++fN 52 [s.table.most]++fN 108 [s.table.aD.length]++s.table.aD.flatMap pk++zj s.call++fS s.log++fN 108 [s.aF.length]++s.aF.flatMap w7
def fE(f:eK):List Nat:=
 if f.c=49 then be 1 f.n else if f.c=52\/f.c=108 then be 4 f.n else if f.c=56 then be 8 f.n else if f.c=98 then [if f.n=0 then 0 else 1]else if f.c=114 then f.b else if f.c=115 then be 4 f.b.length++f.b else []
def jy(l:List eK):List Nat:=l.flatMap fE
theorem kJ(a b:List eK):jy (a++b)=jy a++jy b:=List.flatMap_append
theorem KY(l:List Nat):jy (fN 49 l)=l.flatMap (be 1):=by
 unfold jy fN;rw[List.flatMap_map];rfl
theorem vd(l:List Nat):jy (fN 52 l)=l.flatMap (be 4):=by
 unfold jy fN;rw[List.flatMap_map];rfl
theorem An(l:List Nat):jy (fN 108 l)=l.flatMap (be 4):=by
 unfold jy fN;rw[List.flatMap_map];rfl
theorem KZ(l:List Nat):jy (fN 56 l)=l.flatMap (be 8):=by
 unfold jy fN;rw[List.flatMap_map];rfl
theorem MP(l:List Bool):jy (fB l)=l.flatMap λx=>[if x then 1 else 0]:=by
 unfold jy fB;rw[List.flatMap_map];refine congrArg (λf=>l.flatMap f) (funext λx=>?_);cases x<;>rfl
theorem zk(l:List (List Nat)):jy (fK l)=l.flatMap λx=>x:=by
 unfold jy fK;rw[List.flatMap_map];rfl
theorem ZD(b:List Nat):jy (fS b)=be 4 b.length++b:=by
 show(be 4 b.length++b)++[]=_;rw[List.append_nil]
theorem qB{α:Type}(f:α->List eK)(g:α->List Nat)(l:List α)(h: ∀a∈l,jy (f a)=g a):jy (l.flatMap f)=l.flatMap g:=by
 induction l with
 | nil=>rfl
 | cons a l ih=>rw[ayn,kJ,h a (by simp),ih λx hx=>h x (by simp[hx]),ayn]
theorem aif(l:List Nat)(h: ∀x∈l,x<256):l.flatMap (be 1)=l:=by
 induction l with
 | nil=>rfl
 | cons a l ih=>
  rw[ayn,ih λx hx=>h x (by simp[hx])];show [a%256]++l=a::l;rw[Nat.mod_eq_of_lt (h a (by simp))];rfl
theorem one(f:Nat->List Nat)(a:Nat):[a].flatMap f=f a:=by simp
theorem Uw(x:fe):jy (wY x)=dv.enc x:=by
 unfold wY;simp only[kJ,zk,vd,ayn,ayx,List.append_nil,ayl];rfl
theorem Px(x:yX):jy (sX x)=Bx.enc x:=by
 unfold sX;simp only[kJ,zk,vd,ayn,ayx,List.append_nil];rfl
theorem Ux(x:Hj):jy (zi x)=RL.enc x:=by
 unfold zi;simp only[kJ,zk,MP,vd,An,Px,qB wY dv.enc x.aC λa _=>Uw a,ayn,ayx,List.append_nil,ayl];show _=x.root++(x.bind++(x.own++(x.cJ++([if x.gi then 1 else 0]++([if x.gj then 1 else 0]++([if x.gk then 1 else 0]++([if x.cS then 1 else 0]++(Bx.enc x.send++(Bx.enc x.recv++(be 4 x.prev++(be 4 x.aC.length++x.aC.flatMap dv.enc)))))))))));rfl
theorem Yb(x:bX):jy (wZ x)=bS.enc x:=by
 unfold wZ;simp only[kJ,zk,MP,vd,Ux,ayn,ayx,List.append_nil,ayl];show _=RL.enc x.s++(x.ident++(x.qG++([if x.cZ then 1 else 0]++(be 4 x.dH++([if x.own then 1 else 0]++[if x.current then 1 else 0])))));rfl
theorem w9(x:js):jy (pM x)=gq.enc x:=by
 unfold pM;rw[KY];show be 1 x.a++(be 1 x.d++[])=be 1 x.a++be 1 x.d;rw[List.append_nil]
theorem Uy(x:eu):jy (pk x)=bI.enc x:=by
 unfold pk;simp only[kJ,w9,An,qB wZ bS.enc x.l λa _=>Yb a,ayn,ayx,List.append_nil,ayl];rfl
theorem Uz(x:dj):jy (w6 x)=dE.enc x:=by
 unfold w6;simp only[kJ,zk,vd,ayn,ayx,List.append_nil];rfl
theorem UA(x:Room):jy (w7 x)=dJ.enc x:=by
 unfold w7;simp only[kJ,zk,MP,KY,KZ,ayn,ayx,List.append_nil,ayl];rfl
end Go.Vs

namespace Go.RX.Vb
open Go Go.RX Go.Proofs Go.Vs
theorem UB{w:World}{S:Nat->Prop}{t s n:Nat}{v:Value}{cs:List Value}(h:(aA true t s v n cs).p w S): ∃c:Int,v=bg c:=by
 obtain⟨h0,_⟩:=h;simp only[if_true]at h0;obtain⟨_,hr⟩:=h0;rcases hr with hn | ⟨g,o,cap,cur,rfl,_⟩
 .obtain⟨rfl,_⟩:=hn;exact vu none 0 0
 .exact vu _ _ _
abbrev hU(md:Bool)(v:Value)(F:List eK)(C:Nat->Int):HP:=aA md 84 3 v F.length (aG F.length [ax .u8 1 (bu eK.c F),ax .u64 1 (bu eK.n F),cV 1 (λj=>bg (C j))])
def my(H K:HP)(F:List eK)(C:Nat->Int):Prop:= ∀(i:Nat) (h:i<F.length),cX H (aN false (bg (C i)) F[i].b)\/cX K (aN false (bg (C i)) F[i].b)
def IL(A:Nat->Int)(g:eK->Nat)(F:List eK):Prop:= ∀j,j<F.length->A j=bu g F j
theorem Yc{α:Type}(g:α->Nat)(F:List α)(x:α)(j:Nat):bu g (F++[x]) j=if j<F.length then bu g F j else if j=F.length then((g x:Nat):Int)else 0:=by
 unfold bu;rw[List.map_append,ayk,ayk];by_cases h1:j<F.length
 .rw [if_pos h1,axX (by rw[ayd];exact h1)]
 .rw [if_neg h1,axY (by rw[ayd];omega),ayd];by_cases h2:j=F.length
  .rw [if_pos h2,h2,Nat.sub_self];rfl
  .rw [if_neg h2,List.getElem?_eq_none (by simp;omega)];rfl
theorem IL.snoc{A:Nat->Int}{g:eK->Nat}{F:List eK}(h:IL A g F){o:Nat}(ho:o=F.length){x:eK}{z:Int}(hz:z=(g x:Int)):IL (au A o z) g (F++[x]):=by
 intro j hj;rw[axP,axR]at hj;rw[Yc];unfold au;by_cases h2:j=F.length
 .rw [if_pos (by omega),if_neg (by omega),if_pos h2,hz]
 .rw [if_neg (by omega),if_pos (by omega)];exact h j (by omega)
theorem tc{n:Nat}{aB aS:List (Nat->List Value)}(h: ∀i,i<n->(aB.flatMap λc=>c i)=aS.flatMap λc=>c i):aG n aB=aG n aS:=by
 unfold aG;rw[List.flatMap_def,List.flatMap_def];congr 1;exact List.map_congr_left λi hi=>h i (ayc.1 hi)
theorem Ao{v:Value}{F:List eK}{A B C:Nat->Int}(hA:IL A eK.c F)(hB:IL B eK.n F):aA true 84 3 v F.length (aG F.length [ax .u8 1 A,ax .u64 1 B,cV 1 (λj=>bg (C j))])=hU true v F C:=by
 refine congrArg (aA true 84 3 v F.length) (tc λi hi=>?_);have e1:ax .u8 1 A i=ax .u8 1 (bu eK.c F) i:=by
  show [ayD .u8 (A (i*1+0))]=[ayD .u8 (bu eK.c F (i*1+0))];rw[show i*1+0=i by omega,hA i hi]
 have e2:ax .u64 1 B i=ax .u64 1 (bu eK.n F) i:=by
  show [ayD .u64 (B (i*1+0))]=[ayD .u64 (bu eK.n F (i*1+0))];rw[show i*1+0=i by omega,hB i hi]
 simp only[ayn,e1,e2]
theorem Py(K:HP):cX K (aN false (bg 0) []):=by
 refine⟨rfl,λw S _=>⟨λ_=>False,λk h=>h.elim,?_,λk=>by simp[bg,Value.ownBlock]⟩⟩;simp only[Bool.false_eq_true,if_false];exact⟨rfl,none,0,0,rfl,rfl,Nat.le_refl _,λ_=>rfl,λ_ h=>(nomatch h)⟩
theorem my.snoc{H H' K:HP}{F:List eK}{C C':Nat->Int}(h:my H K F C)(hg:ek H' H)(hC: ∀j,j<F.length->C' j=C j){x:eK}(hx:cX H' (aN false (bg (C' F.length)) x.b)\/cX K (aN false (bg (C' F.length)) x.b)):my H' K (F++[x]) C':=by
 intro i hi;by_cases h1:i<F.length
 .rw [List.getElem_append_left h1,hC i h1];exact(h i h1).imp hg.trans id
 .rw [axP,axR]at hi;have:i=F.length:=by omega
  subst this;rw[List.getElem_append_right (by omega)];simpa using hx
theorem Ap(c:Nat)(xs:List Nat)(i:Nat)(h:i<xs.length)(F:List eK):F++fN c (xs.take (i+1))=(F++fN c (xs.take i))++[⟨c,xs[i],[]⟩]:=by
 unfold fN;rw[du _ _ h,List.map_append,ayl];rfl
theorem cy(c:Nat)(xs:List Nat):(fN c xs).length=xs.length:=ayd ..
set_option maxHeartbeats 1000000 in
theorem Yd(b:Nat)(v u:V1)(F:List eK)(C:Nat->Int)(c:Nat)(xs:List Nat)(hF:(F.length+xs.length)*40<=140737488355328)(H K:HP)(hI:my H K F C):
  ao ax8 25 [.pointer (some ⟨b,0,none⟩),.int .u8 (c:Int),u.v] [ak b true [v.v],hU true v.v F C,aA false 24 1 u.v xs.length (aG xs.length [ax .u64 1 (aJ xs)])]
   λr hs=>r= .tuple #[]/\∃(v':V1) (C':Nat->Int),hs=[ak b true [v'.v],hU true v'.v (F++fN c xs) C']/\my H K (F++fN c xs) C':=by
 refine aie _ (F.length:Int) (xs.length:Int) (c:Int) (bu eK.c F) (bu eK.n F) C (aJ xs) v u b ?_;unfold ZC;refine⟨ax4 _,λ_=>?_⟩;refine⟨λe=> ∃(i:Nat) (v2:V1) (A B D:Nat->Int),e=⟨[],[v2],[(i:Int),((F.length+i:Nat):Int)],[A,B,D],[],[],[]⟩/\i<=xs.length/\IL A eK.c (F++fN c (xs.take i))/\IL B eK.n (F++fN c (xs.take i))/\my H K (F++fN c (xs.take i)) D,λe=>xs.length - (e.i.getD 0 0).toNat,?_,?_⟩
 .refine⟨v,0,(F.length:Int),bu eK.c F,bu eK.n F,C,rfl,rfl,rfl,rfl,λ_ _=>rfl,λ_ _=>rfl,λ_ _=>rfl,0,v,_,_,_,rfl,Nat.zero_le _,?_,?_,?_⟩
  .rw [List.take_zero,show fN c []=[]from rfl,List.append_nil];exact λ_ _=>rfl
  .rw [List.take_zero,show fN c []=[]from rfl,List.append_nil];exact λ_ _=>rfl
  .rw [List.take_zero,show fN c []=[]from rfl,List.append_nil];exact hI
 rintro v2 x3 x4 A4 A5 A6 ⟨i,h_,A,B,D,he,hi,hA,hB,hD⟩;simp only[Ext.mk.injEq,List.cons.injEq,and_true,true_and]at he;obtain⟨rfl,⟨rfl,rfl⟩,rfl,rfl,rfl⟩:=he;have hlen:(F++fN c (xs.take i)).length=F.length+i:=by
  rw[axP,cy,List.length_take];omega
 refine⟨λcC=>?_,λlS=>?_⟩
 .have cj:i<xs.length:=by omega
  refine⟨by omega,λ_ b1=>⟨by omega,λ_=>⟨by omega,λ_ v3=>⟨by omega,λ_=>⟨by omega,λ_=>?_⟩⟩⟩⟩⟩;refine⟨v3,((i+1:Nat):Int),((F.length+(i+1):Nat):Int),_,_,_,rfl,rfl,rfl,by omega,λ_ _=>rfl,λ_ _=>rfl,λ_ _=>rfl,⟨i+1,v3,_,_,_,rfl,by omega,?_,?_,?_⟩,?_⟩
  .rw [Ap c xs i cj];exact hA.snoc (by rw[hlen];rfl) rfl
  .rw [Ap c xs i cj];refine hB.snoc (by rw[hlen];rfl) ?_;show aJ xs i=_;rw[gL cj]
  .rw [Ap c xs i cj];have e0:au A6 (ag ((F.length+i:Nat):Int)) 0 (F++fN c (xs.take i)).length=0:=by
    rw[hlen];exact if_pos rfl
   refine hD.snoc ek.refl (λj hj=>?_) (.inr ?_)
   .rw [hlen]at hj;exact if_neg (by show¬j=F.length+i;omega)
   .rw [e0];exact Py K
  .simp only[ah];omega
 .have xQ:i=xs.length:=by omega
  subst xQ;rw[List.take_length]at hA hB hD hlen;refine⟨rfl,v2,A6,?_,hD⟩;have:=Ao (v:=v2.v) (C:=A6) hA hB;rw[hlen]at this;rw[show kg v2 ((F.length+xs.length:Nat):Int) A4 A5 A6=_ from this]
end Go.RX.Vb
