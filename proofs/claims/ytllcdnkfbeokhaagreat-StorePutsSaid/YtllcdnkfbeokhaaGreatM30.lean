/- The store's walker. -/
import Derived.Test.YtllcdnkfbeokhaaGreatM27
open Go.IntKind renaming wrap -> ae
open Go.Proofs.Tryz renaming prog -> ax8
open Int renaming natCast_nonneg -> ax4, toNat -> ag, toNat_natCast -> ax3
open List renaming append -> axQ, flatMap_cons -> ayn, flatMap_nil -> ayx, getD_eq_getElem?_getD -> ayk, getElem?_append_left -> axX, getElem?_append_right -> axY, getElem?_eq_getElem -> ays, getElem?_eq_some_iff -> axT, length_append -> axP, length_cons -> ax5, length_nil -> aya, length_singleton -> axR, map_cons -> ayr, mem_of_getElem? -> ayh, mem_range -> ayc
open Nat renaming not_lt -> ayF
namespace Go.RX.Vb
open Go.RX Go.Proofs
set_option maxRecDepth 100000
def SW(al:PT)(x0 _ _ _ _ _ _ _:Int)(_ _ _ _ _ _ _ _ _:Nat->Int)(v0:V1):Prop:=
 ∀_:Nat,ay (0<=x0) (
 bf (64<x0) (
 al (.tuple #[.pointer none,.int .i64 2]) []) (
 bf (yB v0.v=true) (
 ∀b1:Nat,al (.tuple #[pp b1,.int .i64 0]) []) (
 ∀_:V1,j8 (x0*68) (
 ∀(_:V1) (b1:Nat),al (.tuple #[pp b1,.int .i64 0]) []))))
theorem abX(al:PT)(x0 x1 x2 x3 x4 x5 x6 x7:Int)(A0 A1 A2 A3 A4 A5 A6 A7 A8:Nat->Int)(v0:V1)(h:SW al x0 x1 x2 x3 x4 x5 x6 x7 A0 A1 A2 A3 A4 A5 A6 A7 A8 v0):ao ax8 113 [.agg (axQ (aj .u8 32 A0) (axQ (aj .u8 32 A1) (axQ (aj .u8 32 A2) (axQ (aj .u8 32 A3) (.bool (!(x1==0))::(.bool (!(x2==0))::(.bool (!(x3==0))::(.bool (!(x4==0))::(axQ (aj .u8 32 A4) (.int .u32 x5::(axQ (aj .u8 32 A5) ([.int .u32 x6,.int .u32 x7,v0.v])))))))))))).toArray] [aA false 245 65 v0.v (ag x0) (aG (ag x0) [ax .u8 32 A6,ax .u32 1 A7,ax .u8 32 A8])] al:=
 qv (C:=cxN) Vn.akK Vn.afL Vn.aaL ⟨[x0,x1,x2,x3,x4,x5,x6,x7],[A0,A1,A2,A3,A4,A5,A6,A7,A8],[],[],[v0],[],[],[]⟩ 0 Tryz.func113 (by kernel_rfl) h
def SX(al:PT)(x0:Int)(A0 A1:Nat->Int)(v0:V1):Prop:=
 bf (yB v0.v=true) (
 al (.slice none 0 0) [m8 v0 x0 A0 A1]) (
 ∀_:V1,ay (0<=x0) (
 ay (0<=x0) (
 j8 (x0*36) (
 ∀v2:V1,al (v2.v) [m8 v0 x0 A0 A1]))))
theorem abY(al:PT)(x0:Int)(A0 A1:Nat->Int)(v0:V1)(h:SX al x0 A0 A1 v0):ao ax8 81 [v0.v] [m8 v0 x0 A0 A1] al:=
 qv (C:=cxN) [.vv 0] [.cF false 0 93 33 (.var 0) [⟨.int .u32,1,.cM 0⟩,⟨.int .u8,32,.cM 1⟩]] ⟨0,1,1,2,0,0,0⟩ ⟨[x0],[A0,A1],[],[],[v0],[],[],[]⟩ 1 Tryz.func81 (by kernel_rfl) h
def SY(al:PT)(_ _ x2:Int)(A0 A1 A2 A3 A4 A5 A6 A7 A8 A9 dM dx dC fH _ _ _ _ eQ fb:Nat->Int)(_:V1)(p0:HP):Prop:=
 ∀_ b1:Nat,ay (0<=x2) (
 ∃(bO:Ext->Prop) (dG:Ext->Nat),(∃(v3 v4:V1) (x3 x4 x5 x6:Int) (fg fR:Nat->Int),x3=0/\v3=(⟨.slice none 0 0,rfl⟩:V1)/\v4=(⟨.slice none 0 0,rfl⟩:V1)/\x4=0/\v3=(⟨.slice none 0 0,rfl⟩:V1)/\x5=0/\cG x5 fg (λ_=>0)/\v4=(⟨.slice none 0 0,rfl⟩:V1)/\x6=0/\cG x6 fR (λ_=>0)/\bO ⟨[],[v3,v4],[x3,x4,x5,x6],[fg,fR],[],[],[]⟩)/\
 ∀(v3 v4:V1) (x3 x4 x5 x6:Int) (fg fR:Nat->Int),bO ⟨[],[v3,v4],[x3,x4,x5,x6],[fg,fR],[],[],[]⟩->
 bf (x3<x2) (
 ay (0<=x3) (
 ∀_:Nat,Cl 113 [.agg (axQ (aj .u8 32 (bx A0 (ag (x3*32)))) (axQ (aj .u8 32 (bx A1 (ag (x3*32)))) (axQ (aj .u8 32 (bx A2 (ag (x3*32)))) (axQ (aj .u8 32 (bx A3 (ag (x3*32)))) (.bool (!((A4 (ag x3))==0))::(.bool (!((A5 (ag x3))==0))::(.bool (!((A6 (ag x3))==0))::(.bool (!((A7 (ag x3))==0))::(axQ (aj .u8 32 (bx A8 (ag (x3*32)))) (.int .u32 (A9 (ag x3))::(axQ (aj .u8 32 (bx dM (ag (x3*32)))) ([.int .u32 (dx (ag x3)),.int .u32 (dC (ag x3)),(bg (fH (ag x3)))])))))))))))).toArray] [p0] <| hd9 λ_ x8=>
 ay ((¬((¬((¬(x8=0))\/(((fb (ag x3))≠0)/\(¬(x4=0)))))/\(¬((eQ (ag x3))≠0))))\/(0<=x5)) (
 bf (((¬(x8=0))\/(((fb (ag x3))≠0)/\(¬(x4=0))))\/((¬((eQ (ag x3))≠0))/\(0<x5))) (
 al (.tuple #[.pointer none,.bool false]) []) (
 ∀b3:Nat,bf ((fb (ag x3))≠0) (
 bf ((eQ (ag x3))≠0) (
 ∀_:Nat,ay (0<=x5) (
 j8 ((x5+1)*8) (
 ∀v5:V1,fj (x3+1) ((
 ∃(Ki ur:V1) (qJ xl xm zV:Int) (wJ sM:Nat->Int),qJ=(x3+1)/\Ki=v5/\ur=v4/\xl=((b3:Nat)+1:Int)/\Ki=v5/\xm=(x5+1)/\cG xm wJ (au fg (ag x5) ((b3:Nat)+1:Int))/\ur=v4/\zV=x6/\cG zV sM fR/\Dn bO dG ⟨[],[Ki,ur],[qJ,xl,xm,zV],[wJ,sM],[],[],[]⟩ ⟨[],[v3,v4],[x3,x4,x5,x6],[fg,fR],[],[],[]⟩))))) (
 ∀_:Nat,ay (0<=x6) (
 j8 ((x6+1)*8) (
 ∀v5:V1,fj (x3+1) ((
 ∃(Ki ur:V1) (qJ xl xm zV:Int) (wJ sM:Nat->Int),qJ=(x3+1)/\Ki=v3/\ur=v5/\xl=((b3:Nat)+1:Int)/\Ki=v3/\xm=x5/\cG xm wJ fg/\ur=v5/\zV=(x6+1)/\cG zV sM (au fR (ag x6) ((b3:Nat)+1:Int))/\Dn bO dG ⟨[],[Ki,ur],[qJ,xl,xm,zV],[wJ,sM],[],[],[]⟩ ⟨[],[v3,v4],[x3,x4,x5,x6],[fg,fR],[],[],[]⟩)))))) (
 bf ((eQ (ag x3))≠0) (
 ∀_:Nat,ay (0<=x5) (
 j8 ((x5+1)*8) (
 ∀v5:V1,fj (x3+1) ((
 ∃(Ki ur:V1) (qJ xl xm zV:Int) (wJ sM:Nat->Int),qJ=(x3+1)/\Ki=v5/\ur=v4/\xl=x4/\Ki=v5/\xm=(x5+1)/\cG xm wJ (au fg (ag x5) ((b3:Nat)+1:Int))/\ur=v4/\zV=x6/\cG zV sM fR/\Dn bO dG ⟨[],[Ki,ur],[qJ,xl,xm,zV],[wJ,sM],[],[],[]⟩ ⟨[],[v3,v4],[x3,x4,x5,x6],[fg,fR],[],[],[]⟩))))) (
 ∀_:Nat,ay (0<=x6) (
 j8 ((x6+1)*8) (
 ∀v5:V1,fj (x3+1) ((
 ∃(Ki ur:V1) (qJ xl xm zV:Int) (wJ sM:Nat->Int),qJ=(x3+1)/\Ki=v3/\ur=v5/\xl=x4/\Ki=v3/\xm=x5/\cG xm wJ fg/\ur=v5/\zV=(x6+1)/\cG zV sM (au fR (ag x6) ((b3:Nat)+1:Int))/\Dn bO dG ⟨[],[Ki,ur],[qJ,xl,xm,zV],[wJ,sM],[],[],[]⟩ ⟨[],[v3,v4],[x3,x4,x5,x6],[fg,fR],[],[],[]⟩)))))))))) (
 ay ((x4=0)\/(0<=x5)) (
 ay ((x4=0)\/(0<=x6)) (
 al (.tuple #[pp b1,.bool ((!(x4==0))&&(decide ((ar .imax .i64 x5 x6)<=4)))]) []))))
theorem abZ(al:PT)(x0 x1 x2:Int)(A0 A1 A2 A3 A4 A5 A6 A7 A8 A9 dM dx dC fH gw gx fw eY eQ fb:Nat->Int)(v0:V1)(p0:HP)(h:SY al x0 x1 x2 A0 A1 A2 A3 A4 A5 A6 A7 A8 A9 dM dx dC fH gw gx fw eY eQ fb v0 p0):ao ax8 67 [.agg #[.int .u8 x0,.int .u8 x1,v0.v]] [wu v0 x2 A0 A1 A2 A3 A4 A5 A6 A7 A8 A9 dM dx dC fH gw gx fw eY eQ fb,p0] al:=
 qv (C:=cxN) Vn.ofA Vn.akL Vn.afM ⟨[x0,x1,x2],[A0,A1,A2,A3,A4,A5,A6,A7,A8,A9,dM,dx,dC,fH,gw,gx,fw,eY,eQ,fb],[],[],[v0],[],[p0],[]⟩ 0 Tryz.func67 (by kernel_rfl) h
def SZ(al:PT)(x0 x1 x2 x3 x4:Int)(_ _ A2 A3 A4 A5 A6:Nat->Int)(v0 _:V1)(p0:HP):Prop:=
 ∀_ _:Nat,Cl 81 [v0.v] [m8 v0 x3 A2 A3] λx hs l=> ∃v2:V1,x=v2.v/\hs=l/\
 ∀_ b3:Nat,ay (0<=x4) (
 ∃(bO:Ext->Prop) (dG:Ext->Nat),(∃(x5 x6:Int) (A7 A8:Nat->Int),x5=0/\x6=(-1)/\(A7=(λ_=>0))/\(A8=(λ_=>0))/\bO ⟨[],[],[x5,x6],[A7,A8],[],[],[]⟩)/\
 ∀(x5 x6:Int) (A7 A8:Nat->Int),bO ⟨[],[],[x5,x6],[A7,A8],[],[],[]⟩->
 bf (x5<x4) (
 ay (0<=x5) (
 ∀_:Nat,Cl 67 [.agg #[.int .u8 (A4 (ag x5)),.int .u8 (A5 (ag x5)),(bg (A6 (ag x5)))]] [p0] λx hs l=> ∃(x7:Int) (q0:Bool),x= .tuple #[(dr x7),.bool q0]/\hs=l/\
 bf (q0=true) (
 ∀_:Nat,fj (A4 (ag x5)) ((
 fj (A5 (ag x5)) ((
 bf (((ar .cU .i64 (ar .shl .i64 (A4 (ag x5)) 8) (A5 (ag x5)))<=x6)\/(((A4 (ag x5))=x0)/\((A5 (ag x5))=x1))) (
 al (.tuple #[.pointer none,.int .i64 2]) []) (
 ∀_:Nat,ay ((A7 (ag ((aT ((List.range 2).map (au (au (λ_=>0) 0 (A4 (ag x5))) 1 (A5 (ag x5)))):Nat):Int)))=0) (
 ay (0<=(A7 0)) (
 fj (x5+1) ((
 ∃(xm zV:Int) (OJ Zm:Nat->Int),xm=(x5+1)/\zV=(ar .cU .i64 (ar .shl .i64 (A4 (ag x5)) 8) (A5 (ag x5)))/\(OJ=(au (au A7 0 ((A7 0)+1)) (ag ((aT ((List.range 2).map (au (au (λ_=>0) 0 (A4 (ag x5))) 1 (A5 (ag x5)))):Nat):Int)) ((A7 0)+2)))/\(Zm=(au A8 (ag ((aT ((List.range 2).map (au (au (λ_=>0) 0 (A4 (ag x5))) 1 (A5 (ag x5)))):Nat):Int)) x7))/\Dn bO dG ⟨[],[],[xm,zV],[OJ,Zm],[],[],[]⟩ ⟨[],[],[x5,x6],[A7,A8],[],[],[]⟩)))))))))) (
 al (.tuple #[.pointer none,.int .i64 2]) []))) (
 bf ((ar .imax .i64 x2 0)<(A7 0)) (
 al (.tuple #[.pointer none,.int .i64 2]) []) (
 al (.tuple #[pp b3,.int .i64 0]) [])))
theorem ab0(al:PT)(x0 x1 x2 x3 x4:Int)(A0 A1 A2 A3 A4 A5 A6:Nat->Int)(v0 v1:V1)(p0:HP)(h:SZ al x0 x1 x2 x3 x4 A0 A1 A2 A3 A4 A5 A6 v0 v1 p0):ao ax8 34 [.agg (.int .u8 x0::(.int .u8 x1::(axQ (aj .u8 32 A0) (axQ (aj .u8 32 A1) ([v0.v,.int .i64 x2,v1.v]))))).toArray] [m8 v0 x3 A2 A3,m9 v1 x4 A4 A5 A6,p0] al:=
 qv (C:=akO) Vn.akM Vn.afN Vn.aaN ⟨[x0,x1,x2,x3,x4],[A0,A1,A2,A3,A4,A5,A6],[],[],[v0,v1],[],[p0],[]⟩ 0 Tryz.func34 (by kernel_rfl) h
open Go.RX Go.Proofs
set_option maxRecDepth 100000
def Me(al:PT)(x0:Int)(A0:Nat->Int)(q0:Bool)(v0:V1)(b0 b1:Nat):Prop:=
 ∀b2 b3:Nat,Cl 45 [pp b0,.int .i64 32] [gV b0 v0 q0,bQ v0 x0 A0] <| Bw b0 λv1 v2 x1 x2 A1 A2 q1=>
 ay (0<=x2) (
 ay (0<=x2) (
 Cl 45 [pp b0,.int .i64 32] [gV b0 v1 q1,bQ v1 x1 A1] <| Bw b0 λv3 v4 x3 x4 A3 A4 q2=>
 ay (0<=x4) (
 ay (0<=x4) (
 Cl 45 [pp b0,.int .i64 32] [gV b0 v3 q2,bQ v3 x3 A3] <| Bw b0 λv5 v6 x5 x6 A5 A6 q3=>
 ay (0<=x6) (
 ay (0<=x6) (
 Cl 45 [pp b0,.int .i64 32] [gV b0 v5 q3,bQ v5 x5 A5] <| Bw b0 λv7 v8 x7 x8 A7 A8 q4=>
 ay (0<=x8) (
 ay (0<=x8) (
 ∀b4:Nat,Cl 21 [pp b0,.int .u64 0,.int .i64 1] [gV b0 v7 q4,bQ v7 x7 A7] <| nj b0 λv9 x9 bA A9 q5=>
 Cl 21 [pp b0,.int .u64 0,.int .i64 1] [gV b0 v9 (q5||(decide (1<x9))),bQ v9 bA A9] λx hs _=> ∃(v10:V1) (bH bR:Int) (dM:Nat->Int) (q6:Bool),x= .int .u64 bH/\hs=[gV b0 v10 q6,bQ v10 bR dM]/\
 Cl 21 [pp b0,.int .u64 0,.int .i64 1] [gV b0 v10 (q6||(decide (1<bH))),bQ v10 bR dM] λx hs _=> ∃(v11:V1) (bN dP:Int) (dx:Nat->Int) (q7:Bool),x= .int .u64 bN/\hs=[gV b0 v11 q7,bQ v11 dP dx]/\
 Cl 21 [pp b0,.int .u64 0,.int .i64 1] [gV b0 v11 (q7||(decide (1<bN))),bQ v11 dP dx] λx hs _=> ∃(xj:V1) (b_ dD:Int) (dC:Nat->Int) (q8:Bool),x= .int .u64 b_/\hs=[gV b0 xj q8,bQ xj dD dC]/\
 ∀b5:Nat,Cl 45 [pp b0,.int .i64 32] [gV b0 xj (q8||(decide (1<b_))),bQ xj dD dC] λx hs _=> ∃(tL CM:V1) (cq dt:Int) (fH gw:Nat->Int) (q9:Bool),x=CM.v/\hs=[gV b0 tL q9,bQ tL cq fH,bQ CM dt gw]/\
 ay (0<=dt) (
 ay (0<=dt) (
 ∀b6:Nat,Cl 21 [pp b0,.int .u64 0,.int .i64 4] [gV b0 tL q9,bQ tL cq fH] <| nj b0 λxk cO d_ gx q10=>
 ∀b7:Nat,Cl 45 [pp b0,.int .i64 32] [gV b0 xk q10,bQ xk d_ gx] λx hs _=> ∃(By tM:V1) (gN eT:Int) (fw eY:Nat->Int) (HI:Bool),x=tM.v/\hs=[gV b0 By HI,bQ By gN fw,bQ tM eT eY]/\
 ay (0<=eT) (
 ay (0<=eT) (
 ∀b8:Nat,Cl 21 [pp b0,.int .u64 0,.int .i64 4] [gV b0 By HI,bQ By gN fw] <| nj b0 λtw ff e9 eQ VB=>
 ∀b9:Nat,Cl 21 [pp b0,.int .u64 0,.int .i64 4] [gV b0 tw VB,bQ tw e9 eQ] λx hs _=> ∃(yZ:V1) (i_ ki:Int) (fb:Nat->Int) (Zn:Bool),x= .int .u64 i_/\hs=[gV b0 yZ Zn,bQ yZ ki fb]/\
 Cl 21 [pp b0,.int .u64 0,.int .i64 4] [gV b0 yZ Zn,bQ yZ ki fb] λx hs _=> ∃(v20:V1) (iM jY:Int) (fg:Nat->Int) (q14:Bool),x= .int .u64 iM/\hs=[gV b0 v20 q14,bQ v20 jY fg]/\
 ∃(bO:Ext->Prop) (dG:Ext->Nat),(∃(DX zQ:V1) (rj pR jw:Int) (fR iB jk iG:Nat->Int) (Qe:Bool),rj=iM/\DX=v20/\Qe=q14/\DX=v20/\pR=jY/\cG pR fR fg/\zQ=(⟨.slice none 0 0,rfl⟩:V1)/\zQ=(⟨.slice none 0 0,rfl⟩:V1)/\jw=0/\cG (jw*32) iB (λ_=>0)/\cG jw jk (λ_=>0)/\cG (jw*32) iG (λ_=>0)/\bO ⟨[],[DX,zQ],[rj,pR,jw],[fR,iB,jk,iG],[Qe],[],[]⟩)/\
 ∀(DX zQ:V1) (rj pR jw:Int) (fR iB jk iG:Nat->Int) (Qe:Bool),bO ⟨[],[DX,zQ],[rj,pR,jw],[fR,iB,jk,iG],[Qe],[],[]⟩->
 bf ((0<rj)/\(¬(Qe=true))) (
 ∀_ _:Nat,Cl 45 [pp b0,.int .i64 32] [gV b0 DX Qe,bQ DX pR fR] <| Bw b0 λHG _ LX Ah kH mT OK=>
 ay (0<=Ah) (
 ay (0<=Ah) (
 ∀_:Nat,Cl 21 [pp b0,.int .u64 0,.int .i64 4] [gV b0 HG OK,bQ HG LX kH] <| nj b0 λAj uV uW mQ Zo=>
 ∀_:Nat,Cl 45 [pp b0,.int .i64 32] [gV b0 Aj Zo,bQ Aj uW mQ] λx hs _=> ∃(HH J4:V1) (Jh C6:Int) (oS qH:Nat->Int) (q18:Bool),x=J4.v/\hs=[gV b0 HH q18,bQ HH Jh oS,bQ J4 C6 qH]/\
 ay (0<=C6) (
 ay (0<=C6) (
 ∀_:Nat,ay (0<=jw) (
 j8 ((jw+1)*68) (
 ∀Ji:V1,∃(ab2 J8:V1) (Sp ab3 BK:Int) (sM BL BM HK:Nat->Int) (agt:Bool),Sp=(ae .u64 (rj - 1))/\ab2=HH/\agt=q18/\ab2=HH/\ab3=Jh/\cG ab3 sM oS/\J8=Ji/\J8=Ji/\BK=(jw+1)/\cG (BK*32) BL (bV iB (ag (jw*32)) 32 (bV (λ_=>0) 0 (ag (ar .jl .i64 Ah 32)) mT))/\cG BK BM (au jk (ag jw) (ae .u32 uV))/\cG (BK*32) HK (bV iG (ag (jw*32)) 32 (bV (λ_=>0) 0 (ag (ar .jl .i64 C6 32)) qH))/\Dn bO dG ⟨[],[ab2,J8],[Sp,ab3,BK],[sM,BL,BM,HK],[agt],[],[]⟩ ⟨[],[DX,zQ],[rj,pR,jw],[fR,iB,jk,iG],[Qe],[],[]⟩))))))) (
 ∀_:Nat,Cl 45 [pp b0,.int .i64 32] [gV b0 DX Qe,bQ DX pR fR] <| Bw b0 λHG _ LX Ah kH mT OK=>
 ay (0<=Ah) (
 ay (0<=Ah) (
 Cl 45 [pp b0,.int .i64 32] [gV b0 HG OK,bQ HG LX kH] <| Bw b0 λAj _ uV uW mQ oS Zo=>
 ay (0<=uW) (
 ay (0<=uW) (
 ∀_:Nat,Cl 21 [pp b0,.int .u64 0,.int .i64 1] [gV b0 Aj Zo,bQ Aj uV mQ] <| nj b0 λJ4 Jh C6 qH q18=>
 ∀_:Nat,Cl 21 [pp b0,.int .u64 0,.int .i64 4] [gV b0 J4 (q18||(decide (1<Jh))),bQ J4 C6 qH] λx hs _=> ∃(Ji:V1) (x38 Su:Int) (pK:Nat->Int) (q19:Bool),x= .int .u64 x38/\hs=[gV b0 Ji q19,bQ Ji Su pK]/\
 ∀_:Nat,Cl 21 [pp b0,.int .u64 0,.int .i64 1] [gV b0 Ji q19,bQ Ji Su pK] λx hs _=> ∃(v30:V1) (Ai J2:Int) (qI:Nat->Int) (Xe:Bool),x= .int .u64 Ai/\hs=[gV b0 v30 Xe,bQ v30 J2 qI]/\
 Cl 21 [pp b0,.int .u64 0,.int .i64 1] [gV b0 v30 (Xe||(decide (1<Ai))),bQ v30 J2 qI] λx hs _=> ∃(v31:V1) (OA Zg:Int) (rO:Nat->Int) (q21:Bool),x= .int .u64 OA/\hs=[gV b0 v31 q21,bQ v31 Zg rO]/\
 al (.tuple #[]) [gV b0 v31 (q21||(decide (1<OA))),bQ v31 Zg rO,ak b1 true (axQ (aj .u8 32 (bV (λ_=>0) 0 (ag (ar .jl .i64 x2 32)) A2)) (axQ (aj .u8 32 (bV (λ_=>0) 0 (ag (ar .jl .i64 x4 32)) A4)) (axQ (aj .u8 32 (bV (λ_=>0) 0 (ag (ar .jl .i64 x6 32)) A6)) (axQ (aj .u8 32 (bV (λ_=>0) 0 (ag (ar .jl .i64 x8 32)) A8)) (.bool (x9==1)::(.bool (bH==1)::(.bool (bN==1)::(.bool (b_==1)::(axQ (aj .u8 32 (bV (λ_=>0) 0 (ag (ar .jl .i64 dt 32)) gw)) (.int .u32 (ae .u32 cO)::(axQ (aj .u8 32 (bV (λ_=>0) 0 (ag (ar .jl .i64 eT 32)) eY)) (.int .u32 (ae .u32 ff)::(.int .u32 (ae .u32 i_)::(zQ.v::(axQ (aj .u8 32 (bV (λ_=>0) 0 (ag (ar .jl .i64 Ah 32)) mT)) (axQ (aj .u8 32 (bV (λ_=>0) 0 (ag (ar .jl .i64 uW 32)) oS)) ([.bool (Jh==1),.int .u32 (ae .u32 x38),.bool (Ai==1),.bool (OA==1)]))))))))))))))))),pJ b2 b0,ak b3 true ([pp b1,.pointer (some ⟨b1,32,none⟩),.pointer (some ⟨b1,64,none⟩),.pointer (some ⟨b1,96,none⟩)]),bQ v2 x2 A2,bQ v4 x4 A4,bQ v6 x6 A6,bQ v8 x8 A8,DP b4 b1,ak b5 true ([.pointer (some ⟨b1,132,none⟩)]),bQ CM dt gw,ak b6 true ([.pointer (some ⟨b1,164,none⟩)]),ak b7 true ([.pointer (some ⟨b1,165,none⟩)]),bQ tM eT eY,ak b8 true ([.pointer (some ⟨b1,197,none⟩)]),ak b9 true ([.pointer (some ⟨b1,198,none⟩)]),aA true 245 65 zQ.v (ag jw) (aG (ag jw) [ax .u8 32 iB,ax .u32 1 jk,ax .u8 32 iG])])))))))))))))))))
theorem Xq(al:PT)(x0:Int)(A0:Nat->Int)(q0:Bool)(v0:V1)(b0 b1:Nat)(h:Me al x0 A0 q0 v0 b0 b1):ao ax8 105 [pp b0,pp b1] [gV b0 v0 q0,bQ v0 x0 A0,afA b1] al:=
 qv (C:=akC) Vc.Wn Vc.akv Vc.afk ⟨[x0],[A0],[q0],[b0,b1],[v0],[],[],[]⟩ 18 Tryz.func105 (by kernel_rfl) h
end Go.RX.Vb

namespace Go.RX
theorem bq.views{A B L:List HP}(hL: ∀h∈L,aZ B h):bq (A++B) (A++L):=by
 intro w Fs ⟨S,hS⟩;have gA: ∀(i:Nat) x,A[i]? =some x->(A++B++Fs)[i]? =some x:=by
  intro i x hx;have hl:i<A.length:=(axT.1 hx).1;rw[axX (by simp;omega),axX hl,hx]
 have gF: ∀(i:Nat) x,Fs[i]? =some x->(A++B++Fs)[A.length+B.length+i]? =some x:=by
  intro i x hx;rw[axY (by simp),axP,Nat.add_sub_cancel_left,hx]
 have gB: ∀(i:Nat),i<B.length->∃x,(A++B++Fs)[A.length+i]? =some x:=by
  intro i hi;refine⟨B[i],?_⟩;rw[axX (by simp;omega),axY (by omega),Nat.add_sub_cancel_left,ays hi]
 have hSB:Sep B (λi=>S (A.length+i)) w:=Sep.mid hS;have hc: ∀i:Nat,∃S':Nat->Prop,∀x,L[i]? =some x->x.p w S'/\∀k,S' k->∃j,j<B.length/\S (A.length+j) k:=by
  intro i;cases hi:L[i]? with
  | none=>exact⟨λ_=>False,λx hx=>nomatch hx⟩
  | some y=>
   obtain⟨S',Z8⟩:=(hL y (ayh hi)).2 w _ hSB;exact⟨S',λx hx=>by cases hx;exact Z8⟩
 obtain⟨S1,hS1⟩:=Classical.axiomOfChoice hc;have jA: ∀(i:Nat) x,(A++L++Fs)[i]? =some x->(i<A.length/\A[i]? =some x)\/(A.length<=i/\i<A.length+L.length/\L[i - A.length]? =some x)\/(A.length+L.length<=i/\Fs[i - (A.length+L.length)]? =some x):=by
  intro i x hx;by_cases h1:i<A.length
  .rw [axX (by simp;omega),axX h1]at hx;exact .inl ⟨h1,hx⟩
  .by_cases h2:i<A.length+L.length
   .rw [axX (by simp;omega),axY (by omega)]at hx;exact .inr (.inl ⟨by omega,h2,hx⟩)
   .rw [axY (by simp;omega),axP]at hx;exact .inr (.inr ⟨by omega,hx⟩)
 refine⟨λi k=>if i<A.length then S i k else if i<A.length+L.length then S1 (i - A.length) k else S (i - L.length+B.length) k,?_,?_⟩
 .intro i x hx;rcases jA i x hx with⟨h1,h2⟩ | ⟨h1,h2,h3⟩ | ⟨h1,h2⟩
  .simp only[if_pos h1];exact hS.at_ i x (gA i x h2)
  .simp only[if_neg (ayF.2 h1),if_pos h2];obtain⟨hp,hk⟩:=hS1 _ x h3;refine⟨hp,λk kX=>?_⟩;obtain⟨j,hj,hs⟩:=hk k kX;obtain⟨y,hy⟩:=gB j hj;exact(hS.at_ _ y hy).2 k hs
  .simp only[if_neg (show¬i<A.length by omega),if_neg (show¬i<A.length+L.length by omega)];have:=hS.at_ _ x (gF _ x h2)
   rwa[show A.length+B.length+(i - (A.length+L.length))=i - L.length+B.length by omega]at this
 .have wrL: ∀(i:Nat) x,L[i]? =some x->x.wr=false:=λi x hx=>(hL x (ayh hx)).1
  have half: ∀(i j:Nat) (x y:HP),i≠j->(A++L++Fs)[i]? =some x->(A++L++Fs)[j]? =some y->x.wr=true->∀k,(if i<A.length then S i k else if i<A.length+L.length then S1 (i - A.length) k else S (i - L.length+B.length) k)->¬(if j<A.length then S j k else if j<A.length+L.length then S1 (j - A.length) k else S (j - L.length+B.length) k):=by
   intro i j x y oJ hx hy hw k hk kX;obtain⟨i',cj,YE,hsi⟩: ∃i',(A++B++Fs)[i']? =some x/\S i' k/\((i<A.length/\i'=i)\/(A.length+L.length<=i/\i'=i - L.length+B.length)):=by
    rcases jA i x hx with⟨h1,h2⟩ | ⟨h1,h2,h3⟩ | ⟨h1,h2⟩
    .rw [if_pos h1]at hk;exact⟨i,gA i x h2,hk,.inl ⟨h1,rfl⟩⟩
    .rw [wrL _ x h3]at hw;cases hw
    .rw [if_neg (show¬i<A.length by omega),if_neg (show¬i<A.length+L.length by omega)]at hk;have:=gF _ x h2;rw[show A.length+B.length+(i - (A.length+L.length))=i - L.length+B.length by omega]at this;exact⟨_,this,hk,.inr ⟨h1,rfl⟩⟩
   rcases jA j y hy with⟨h1,h2⟩ | ⟨h1,h2,h3⟩ | ⟨h1,h2⟩
   .rw [if_pos h1]at kX;exact hS.apart i' j x y (by omega) cj (gA j y h2) (.inl hw) k YE kX
   .rw [if_neg (show¬j<A.length by omega),if_pos h2]at kX;obtain⟨m,hm,hs⟩:=(hS1 _ y h3).2 k kX;obtain⟨z,hz⟩:=gB m hm;exact hS.apart i' (A.length+m) x z (by omega) cj hz (.inl hw) k YE hs
   .rw [if_neg (show¬j<A.length by omega),if_neg (show¬j<A.length+L.length by omega)]at kX;have:=gF _ y h2;rw[show A.length+B.length+(j - (A.length+L.length))=j - L.length+B.length by omega]at this;exact hS.apart i' _ x y (by omega) cj this (.inl hw) k YE kX
  intro i j x y oJ hx hy hw k hk kX;rcases hw with hw | hw
  .exact half i j x y oJ hx hy hw k hk kX
  .exact half j i y x (Ne.symm oJ) hy hx hw k kX hk
def HP.two(a b:HP):HP where
 wr:=true
 p w S:=(∃S':Nat->Prop,a.p w S'/\∀k,S' k->S k)/\∃S':Nat->Prop,b.p w S'/\∀k,S' k->S k
 eU w w' S hp hk:=by
  obtain⟨⟨S1,h1,h2⟩,S2,h3,h4⟩:=hp;exact⟨⟨S1,a.eU w w' S1 h1 λk hs=>hk k (h2 k hs),h2⟩,S2,b.eU w w' S2 h3 λk hs=>hk k (h4 k hs),h4⟩
theorem bq.two{a b:HP}(ha:a.wr=true)(hb:b.wr=true):bq [a,b] [HP.two a b]:=by
 intro w Fs ⟨S,hS⟩;have ga:([a,b]++Fs)[0]? =some a:=rfl;have gb:([a,b]++Fs)[1]? =some b:=rfl;refine⟨λi=>match i with | 0=>λk=>S 0 k\/S 1 k | i+1=>S (i+2),⟨?_,?_⟩⟩
 .intro i x hx
  match i,hx with
  | 0,hx=>
   simp at hx;subst hx;exact⟨⟨⟨S 0,(hS.at_ 0 a ga).1,λk h=> .inl h⟩,S 1,(hS.at_ 1 b gb).1,λk h=> .inr h⟩,λk h=>h.elim ((hS.at_ 0 a ga).2 k) ((hS.at_ 1 b gb).2 k)⟩
  | i+1,hx=>exact hS.at_ (i+2) x (by simpa using hx)
 .intro i j x y fL hx hy hw k
  match i,j,fL,hx,hy with
  | 0,0,fL,_,_=>exact absurd rfl fL
  | 0,j+1,_,_,hy=>
   intro h1 h2;rcases h1 with h1 | h1
   .exact hS.apart 0 (j+2) a y (by omega) ga (by simpa using hy) (.inl ha) k h1 h2
   .exact hS.apart 1 (j+2) b y (by omega) gb (by simpa using hy) (.inl hb) k h1 h2
  | i+1,0,_,hx,_=>
   intro h1 h2;rcases h2 with h2 | h2
   .exact hS.apart (i+2) 0 x a (by omega) (by simpa using hx) ga (.inr ha) k h1 h2
   .exact hS.apart (i+2) 1 x b (by omega) (by simpa using hx) gb (.inr hb) k h1 h2
  | i+1,j+1,fL,hx,hy=>exact hS.apart (i+2) (j+2) x y (by omega) (by simpa using hx) (by simpa using hy) hw k
end Go.RX
namespace Go.RX.Vb
open Go Go.RX Go.Proofs Go.Vs
def ek(H G:HP):Prop:= ∀w S,H.p w S->∃S':Nat->Prop,(∀k,S' k->S k)/\G.p w S'
theorem ek.refl{H:HP}:ek H H:=λ_ S hp=>⟨S,λ_ hk=>hk,hp⟩
theorem ek.then{H G h:HP}(a:ek H G)(b:ek G h):ek H h:=λw S hp=>by
 obtain⟨S1,k1,h1⟩:=a w S hp;obtain⟨S2,k2,h2⟩:=b w S1 h1;exact⟨S2,λk hk=>k1 k (k2 k hk),h2⟩
theorem ek.trans{H G h:HP}(a:ek H G)(b:cX G h):cX H h:=⟨b.1,ek.then a b.2⟩
theorem ek.one{a b:HP}:ek (HP.two a b) a:=λ_ _ hp=>by
 obtain⟨⟨S,h1,h2⟩,_⟩:=hp;exact⟨S,h2,h1⟩
theorem cX.other{a:HP}{t s n:Nat}{v:Value}{cs:List Value}:cX (HP.two a (aA true t s v n cs)) (aA false t s v n cs):=⟨rfl,λ_ _ hp=>by
 obtain⟨_,S,h1,h2⟩:=hp;exact⟨_,λk hk=>h2 k hk.1,Br h1⟩⟩
abbrev laid(n:Int)(k:Nat)(A:Nat->Int):Nat->Int:=bV (λ_=>0) 0 (ag (ar .jl .i64 n (k:Int))) A
theorem S3(k:Nat)(hk:0<k)(o:tq):((raw k).bB o).2=(nk k o).2/\∀j,j<k->laid ((nk k o).1.length:Int) k (aJ (nk k o).1) j=aJ ((raw k).bB o).1 j:=by
 have hz: ∀j,j<k->laid (([]:List Nat).length:Int) k (aJ []) j=aJ (List.replicate k 0) j:=by
  intro j hj;have h1:aJ (List.replicate k 0) j=0:=by simp[aJ,ayk,hj]
  rw[h1];simp only[laid,bV,ar,aya];split
  .rename_i h;exfalso;simp at h;omega
  .rfl
 cases o with
 | none=>exact⟨rfl,hz⟩
 | some b=>
  by_cases h:k<=b.length
  .have e1:(raw k).bB (some b)=(b.take k,some (b.drop k)):=by simp only[raw,take,h,if_true];rfl
   have e2:nk k (some b)=(b.take k,some (b.drop k)):=by simp only[nk,take,h,if_true];rfl
   rw[e1,e2];refine⟨rfl,λj hj=>?_⟩;have hl:(b.take k).length=k:=List.length_take_of_le h;simp only[laid,bV,ar,hl];rw[if_pos ⟨by omega,by simp;omega⟩,Nat.sub_zero]
  .have e1:(raw k).bB (some b)=(List.replicate k 0,none):=by simp only[raw,take,h,if_false];rfl
   have e2:nk k (some b)=([],none):=by simp only[nk,take,h,if_false];rfl
   rw[e1,e2];exact⟨rfl,hz⟩
theorem fI(k:Nat)(o:tq):((raw k).bB o).1.length=k:=by
 cases o with
 | none=>simp[raw,take]
 | some b=>
  by_cases h:k<=b.length
  .have e1:(raw k).bB (some b)=(b.take k,some (b.drop k)):=by simp only[raw,take,h,if_true];rfl
   rw[e1];exact List.length_take_of_le h
  .have e1:(raw k).bB (some b)=(List.replicate k 0,none):=by simp only[raw,take,h,if_false];rfl
   rw[e1];simp
theorem Xr{q:Bool}{l:List Nat}(h:hZ l): ∀b,ct q l=some b->hZ b:=by
 intro b hb;cases q with
 | true=>cases hb
 | false=>cases hb;exact h
theorem S4(k:Nat){q:Bool}{l:List Nat}(h:hZ l):((num k).bB (ct q l)).1<256^k:=by
 cases q with
 | true=>exact Nat.pow_pos (by decide)
 | false=>
  by_cases hk:k<=l.length
  .have e1:(num k).bB (ct false l)=(jC (l.take k),some (l.drop k)):=by simp only[num,ct,take,hk,Bool.false_eq_true,if_false,if_true];rfl
   rw[e1];exact(LM k (l.take k) (List.length_take_of_le hk) (h.take k).b).2
  .have e1:(num k).bB (ct false l)=(0,none):=by simp only[num,ct,take,hk,Bool.false_eq_true,if_false];rfl
   rw[e1];exact Nat.pow_pos (by decide)
theorem df{b:Nat}{v:V1}{q:Bool}{l:List Nat}{A:Nat->Int}{n:Int}{o:tq}(k:Nat){K:Int}(hK:K=(k:Int))(hk:0<k)(ho:ct q l=o)(hl:hZ l)(hA:cu A l)(hn:n=(l.length:Int)){R:V1->V1->Int->Int->(Nat->Int)->(Nat->Int)->Bool->Prop}
  (h: ∀(v' v2:V1) (n2:Int) (A2:Nat->Int) (q':Bool) (l':List Nat),hZ l'->ct q' l'=((raw k).bB o).2->0<=n2->(∀j,j<k->laid n2 k A2 j=aJ ((raw k).bB o).1 j)->R v' v2 (l'.length:Int) n2 (aJ l') A2 q'):
  ∃post,ao ax8 45 [.pointer (some ⟨b,0,none⟩),.int .i64 K] [ak b true ([.bool false,v.v,.bool q]),aA false 5 1 v.v (ag n) (aG (ag n) [ax .u8 1 A])] post/\
   ∀x hs,post x hs->∃v1:V1,∃v2:V1,∃x1:Int,∃x2:Int,∃A1:(Nat->Int),∃A2:(Nat->Int),∃q1:Bool,x=v2.v/\hs=[ak b true ([.bool false,v1.v,.bool q1]),aA false 5 1 v1.v (ag x1) (aG (ag x1) [ax .u8 1 A1]),aA false 5 1 v2.v (ag x2) (aG (ag x2) [ax .u8 1 A2])]/\R v1 v2 x1 x2 A1 A2 q1:=by
 subst hn ho hK;rw[ax3,hA.wj];refine⟨_,yY b v q l hl k,?_⟩;rintro x hs ⟨o',v',q',l',m,rfl,rfl,he,PU,hm⟩;obtain⟨e1,e2⟩:=S3 k hk (ct q l);have em:m=(nk k (ct q l)).1:=by rw[<-he]
 have eo:ct q' l'=(nk k (ct q l)).2:=by rw[<-he]
 refine⟨v',o',_,_,_,_,q',rfl,rfl,h v' o' _ _ q' l' PU (by rw[e1];exact eo) (ax4 m.length) ?_⟩;rw[em];exact e2
theorem bt{b:Nat}{v:V1}{q:Bool}{l:List Nat}{A:Nat->Int}{n X:Int}{o:tq}(k:Nat){K:Int}(hk:k=1/\K=1\/k=4/\K=4\/k=8/\K=8)(ho:ct q l=o)(hl:hZ l)(hA:cu A l)(hn:n=(l.length:Int)){R:V1->Int->Int->(Nat->Int)->Bool->Prop}
  (h: ∀(v':V1) (q':Bool) (l':List Nat),hZ l'->ct q' l'=((num k).bB o).2->((num k).bB o).1<256^k->R v' (((num k).bB o).1:Int) (l'.length:Int) (aJ l') q'):
  ∃post,ao ax8 21 [.pointer (some ⟨b,0,none⟩),.int .u64 X,.int .i64 K] [ak b true ([.bool false,v.v,.bool q]),aA false 5 1 v.v (ag n) (aG (ag n) [ax .u8 1 A])] post/\
   ∀x hs,post x hs->∃v1:V1,∃x1:Int,∃x2:Int,∃A1:(Nat->Int),∃q1:Bool,x= .int .u64 x1/\hs=[ak b true ([.bool false,v1.v,.bool q1]),aA false 5 1 v1.v (ag x2) (aG (ag x2) [ax .u8 1 A1])]/\R v1 x1 x2 A1 q1:=by
 subst hn ho;rw[ax3,hA.wj];have key: ∀(y:Value) (hs:List HP),(y= .int .u64 (((num k).bB (ct q l)).1:Int)/\∃(v':V1) (q':Bool) (l':List Nat),hs=[dB b false v'.v q',aN false v'.v l']/\ct q' l'=((num k).bB (ct q l)).2/\hZ l')->
   ∃v1:V1,∃x1:Int,∃x2:Int,∃A1:(Nat->Int),∃q1:Bool,y= .int .u64 x1/\hs=[ak b true ([.bool false,v1.v,.bool q1]),aA false 5 1 v1.v (ag x2) (aG (ag x2) [ax .u8 1 A1])]/\R v1 x1 x2 A1 q1:=by
  rintro y hs ⟨rfl,v',q',l',rfl,e,PU⟩;exact⟨v',_,_,_,q',rfl,rfl,h v' q' l' PU e (S4 k hl)⟩
 rcases hk with⟨rfl,rfl⟩ | ⟨rfl,rfl⟩ | ⟨rfl,rfl⟩
 .exact⟨_,Hp b v q l hl X,key⟩
 .exact⟨_,Hq b v q l hl X,key⟩
 .exact⟨_,Hr b v q l hl X,key⟩
theorem lv{b:Nat}{v:V1}{q:Bool}{l:List Nat}{A:Nat->Int}{n X:Int}{o:tq}(ho:ct q l=o)(hl:hZ l)(hA:cu A l)(hn:n=(l.length:Int)){R:V1->Int->Int->(Nat->Int)->Bool->Prop}
  (h: ∀(v':V1) (q':Bool) (l':List Nat) (N:Nat) (O:tq),hZ l'->ct q' l'=O->N<256^4->N=((num 4).bB o).1->O=((num 4).bB o).2->R v' (N:Int) (l'.length:Int) (aJ l') q'):
  ∃post,ao ax8 21 [.pointer (some ⟨b,0,none⟩),.int .u64 X,.int .i64 4] [ak b true ([.bool false,v.v,.bool q]),aA false 5 1 v.v (ag n) (aG (ag n) [ax .u8 1 A])] post/\
   ∀x hs,post x hs->∃v1:V1,∃x1:Int,∃x2:Int,∃A1:(Nat->Int),∃q1:Bool,x= .int .u64 x1/\hs=[ak b true ([.bool false,v1.v,.bool q1]),aA false 5 1 v1.v (ag x2) (aG (ag x2) [ax .u8 1 A1])]/\R v1 x1 x2 A1 q1:=
 bt 4 (.inr (.inl ⟨rfl,rfl⟩)) ho hl hA hn λv' q' l' PU Jd hb=>h v' q' l' _ _ PU Jd hb rfl rfl
theorem nJ{q:Bool}{l:List Nat}{o:tq}(h:ct q l=((num 1).bB o).2):ct (q||decide (1<(((num 1).bB o).1:Int))) l=(flag.bB o).2:=by
 have e:(flag.bB o).2=if((num 1).bB o).1<=1 then((num 1).bB o).2 else none:=rfl
 rw[e,<-h];by_cases hx:((num 1).bB o).1<=1
 .rw [if_pos hx,show decide (1<(((num 1).bB o).1:Int))=false by simp;omega,Bool.or_false]
 .rw [if_neg hx,show decide (1<(((num 1).bB o).1:Int))=true by simp;omega,Bool.or_true];rfl
theorem jZ(o:tq):((((num 1).bB o).1:Int)==1)=(!(bi (flag.bB o).1==0)):=by
 have e:(flag.bB o).1=(((num 1).bB o).1==1):=rfl;rw[jv,e];generalize ((num 1).bB o).1=x;rw[Bool.eq_iff_iff];simp;omega
theorem gy{n:Nat}{A B:Nat->Int}(h: ∀j,j<n->A j=B j):aj .u8 n A=aj .u8 n B:=by
 unfold aj;refine List.map_congr_left λj hj=>?_
 rw[h j (ayc.1 hj)]
theorem S5{α:Type}(f:α->List Nat)(w:Nat)(s:List α)(hs: ∀y∈s,(f y).length=w):(s.flatMap f).length=s.length*w:=by
 induction s with
 | nil=>simp
 | cons a s ih=>rw[ayn,axP,ih (λy hy=>hs y (by simp[hy])),hs a (by simp),ax5,Nat.succ_mul];omega
theorem BN{α:Type}(f:α->List Nat)(w:Nat)(s:List α)(x:α){B:Nat->Int}(hs: ∀y∈s,(f y).length=w)(_:(f x).length=w)(hB: ∀j,j<w->B j=aJ (f x) j):
  ∀j,j<ag (((s++[x]).length:Int)*(w:Int))->cb f (s++[x]) j=bV (cb f s) (ag ((s.length:Int)*(w:Int))) w B j:=by
 have hl:=S5 f w s hs;intro j hj;rw[<-Int.natCast_mul,ax3]at hj ⊢;rw[axP,axR,Nat.succ_mul]at hj;simp only[bV,cb,aJ,List.flatMap_append,ayn,ayx,List.append_nil,ayk];split
 .rename_i h;rw[hB _ (by omega),axY (by omega),hl];simp[aJ]
 .rename_i h;rw[axX (by omega)]
theorem m_{α:Type}(f:α->Nat)(s:List α)(x:α){z:Int}(hz:z=(f x:Int)): ∀j,j<ag (((s++[x]).length:Int))->bu f (s++[x]) j=au (bu f s) (ag (s.length:Int)) z j:=by
 subst hz;intro j hj;rw[ax3]at hj ⊢;rw[axP,axR]at hj;simp only[au,bu,List.map_append,ayr,List.map_nil,ayk];split
 .rename_i h;subst h;rw[axY (by simp)];simp
 .rename_i h;rw[axX (by simp;omega)]
theorem sN{α:Type}(f:α->Bool)(s:List α)(x:α){z:Int}(hz:z=bi (f x)): ∀j,j<ag (((s++[x]).length:Int))->dK f (s++[x]) j=au (dK f s) (ag (s.length:Int)) z j:=by
 subst hz;intro j hj;rw[ax3]at hj ⊢;rw[axP,axR]at hj;simp only[au,dK,List.map_append,ayr,List.map_nil,ayk];split
 .rename_i h;subst h;rw[axY (by simp)];simp
 .rename_i h;rw[axX (by simp;omega)]
theorem oz{α:Type}(c:rP α){n:Nat}{q:Bool}{l:List Nat}{acc:List α}(h: ¬(0<(n:Int)/\¬q=true)):mS c n (ct q l) acc=(acc,ct q l):=by
 cases q with
 | true=>exact wv c n acc
 | false=>
  have:n=0:=by
   simp at h;exact h
  subst this;rfl
theorem oA{α:Type}(c:rP α){n:Nat}{q:Bool}{l:List Nat}{acc:List α}(h:0<(n:Int)/\¬q=true): ∃m,n=m+1/\q=false/\mS c n (ct q l) acc=mS c m (c.bB (ct q l)).2 (acc++[(c.bB (ct q l)).1]):=by
 obtain⟨h1,h2⟩:=h;have:q=false:=by cases q<;>simp_all
 subst this;obtain⟨m,rfl⟩: ∃m,n=m+1:=⟨n - 1,by omega⟩;exact⟨m,rfl,rfl,rfl⟩
end Go.RX.Vb
