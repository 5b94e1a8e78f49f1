/- Sealed texts. -/
import Derived.Test.YtmgbbbmdbpbeeaaGreatM24
open Go.IntKind renaming wrap → ae
open Go.Proofs.Tryz renaming prog → ae0
open Int renaming toNat → ag
namespace Go.RX.Fk
open Go.RX Go.Proofs Go.RX.Fe Go.RX.Fg Go.RX.Fi Go.RX.Fj
noncomputable def cx:Ctx:={T:=TT,FT:=FT,loops:=Fk.loops,cq:=Fk.cq}
set_option maxRecDepth 100000
def Hq(ar:PT)(x0:Int)(A0:Nat→Int)(_:V1):Prop:=
 ao (0≤(ae .i64 (ak .quo .i64 x0 8))) (
 ao ((ae .i64 (ak .quo .i64 x0 8))<16) (
 bH (A0 (ag (ae .i64 (ak .quo .i64 x0 8)))) ((
 ∃(bE:Ext→Prop) (bL:Ext→Nat),(∃x1 x2:Int,x1=(ak .rem .i64 x0 8)∧x2=(A0 (ag (ae .i64 (ak .quo .i64 x0 8))))∧bE ⟨[],[],[x1,x2],[],[],[],[]⟩)∧
 ∀x1 x2:Int,bE ⟨[],[],[x1,x2],[],[],[],[]⟩→
 aR (x1<7) (
 bH (x1+1) ((
 ∃cm cf:Int,cm=(x1+1)∧cf=(ae .i64 (ak .quo .i64 x2 2))∧bE ⟨[],[],[cm,cf],[],[],[],[]⟩∧bL ⟨[],[],[cm,cf],[],[],[],[]⟩<bL ⟨[],[],[x1,x2],[],[],[],[]⟩))) (
 ar (.int .i64 (ak .rem .i64 x2 2)) [])))))
theorem O2(ar:PT)(x0:Int)(A0:Nat→Int)(v0:V1)(h:Hq ar x0 A0 v0):aw ae0 155 [v0.v,.int .i64 x0] [bn false v0 16 A0] ar:=
 FJ (C:=Fk.cx) [.vv 0,.int .i64 (.var 0)] [.bC false 0 5 1 (.lit 16) [⟨.int .u8,1,.aL 0⟩]] ⟨0,1,1,1,0,0,0⟩ ⟨[x0],[A0],[],[],[v0],[],[],[]⟩ Tryz.func155 (by kernel_rfl) h
def zO(ar:PT)(A0 A1:Nat→Int)(v0 v1:V1):Prop:=
 ∀v2:V1,∃(bE:Ext→Prop) (bL:Ext→Nat),(∃(x0:Int) (A2:Nat→Int),x0=0∧(∀j,j<256→A2 j=(fun _=>0) j)∧bE ⟨[],[],[x0],[A2],[],[],[]⟩)∧
 ∀(x0:Int) (A2:Nat→Int),bE ⟨[],[],[x0],[A2],[],[],[]⟩→
 aR (x0<128) (
 Cl 155 [v0.v,.int .i64 x0] [bn false v0 16 A0] fun x hs l=> ∃x1:Int,x= .int .i64 x1∧hs=l∧
 aR (x1=0) (
 bH (x0+1) ((
 ∃(eH:Int) (dT:Nat→Int),eH=(x0+1)∧(∀j,j<256→dT j=A2 j)∧bE ⟨[],[],[eH],[dT],[],[],[]⟩∧bL ⟨[],[],[eH],[dT],[],[],[]⟩<bL ⟨[],[],[x0],[A2],[],[],[]⟩))) (
 ∃(Sv:Ext→Prop) (U0:Ext→Nat),(∃(x2:Int) (A3:Nat→Int),x2=0∧(∀j,j<256→A3 j=A2 j)∧Sv ⟨[],[],[x2],[A3],[],[],[]⟩)∧
 ∀(x2:Int) (A3:Nat→Int),Sv ⟨[],[],[x2],[A3],[],[],[]⟩→
 aR (x2<128) (
 bH (x0+x2) ((
 ao (0≤(x0+x2)) (
 ao ((x0+x2)<256) (
 Cl 155 [v1.v,.int .i64 x2] [bn false v1 16 A1] fun x hs l=> ∃x3:Int,x= .int .i64 x3∧hs=l∧
 bH ((A3 (ag (x0+x2)))+x3) ((
 bH (x2+1) ((
 ∃(cf:Int) (kW:Nat→Int),cf=(x2+1)∧(∀j,j<256→kW j=(aq A3 (ag (x0+x2)) ((A3 (ag (x0+x2)))+x3)) j)∧Sv ⟨[],[],[cf],[kW],[],[],[]⟩∧U0 ⟨[],[],[cf],[kW],[],[],[]⟩<U0 ⟨[],[],[x2],[A3],[],[],[]⟩))))))))) (
 bH (x0+1) ((
 ∃(eH:Int) (dT:Nat→Int),eH=(x0+1)∧(∀j,j<256→dT j=A3 j)∧bE ⟨[],[],[eH],[dT],[],[],[]⟩∧bL ⟨[],[],[eH],[dT],[],[],[]⟩<bL ⟨[],[],[x0],[A2],[],[],[]⟩))))) (
 ∃(iT:Ext→Prop) (kB:Ext→Nat),(∃(x1:Int) (A3:Nat→Int),x1=255∧(∀j,j<256→A3 j=A2 j)∧iT ⟨[],[],[x1],[A3],[],[],[]⟩)∧
 ∀(x1:Int) (A3:Nat→Int),iT ⟨[],[],[x1],[A3],[],[],[]⟩→
 aR (128≤x1) (
 ao (0≤x1) (
 ao (x1<256) (
 aR ((ak .rem .i64 (A3 (ag x1)) 2)=1) (
 bH (x1 - 128) ((
 ao (0≤(x1 - 128)) (
 ao ((x1 - 128)<256) (
 bH ((A3 (ag (x1 - 128)))+1) ((
 bH (x1 - 127) ((
 ao (0≤(x1 - 127)) (
 ao ((x1 - 127)<256) (
 bH (((aq A3 (ag (x1 - 128)) ((A3 (ag (x1 - 128)))+1)) (ag (x1 - 127)))+1) ((
 bH (x1 - 126) ((
 ao (0≤(x1 - 126)) (
 ao ((x1 - 126)<256) (
 bH (((aq (aq A3 (ag (x1 - 128)) ((A3 (ag (x1 - 128)))+1)) (ag (x1 - 127)) (((aq A3 (ag (x1 - 128)) ((A3 (ag (x1 - 128)))+1)) (ag (x1 - 127)))+1)) (ag (x1 - 126)))+1) ((
 bH (x1 - 121) ((
 ao (0≤(x1 - 121)) (
 ao ((x1 - 121)<256) (
 bH (((aq (aq (aq A3 (ag (x1 - 128)) ((A3 (ag (x1 - 128)))+1)) (ag (x1 - 127)) (((aq A3 (ag (x1 - 128)) ((A3 (ag (x1 - 128)))+1)) (ag (x1 - 127)))+1)) (ag (x1 - 126)) (((aq (aq A3 (ag (x1 - 128)) ((A3 (ag (x1 - 128)))+1)) (ag (x1 - 127)) (((aq A3 (ag (x1 - 128)) ((A3 (ag (x1 - 128)))+1)) (ag (x1 - 127)))+1)) (ag (x1 - 126)))+1)) (ag (x1 - 121)))+1) ((
 bH (x1 - 1) ((
 ∃(cm:Int) (kW:Nat→Int),cm=(x1 - 1)∧(∀j,j<256→kW j=(aq (aq (aq (aq A3 (ag (x1 - 128)) ((A3 (ag (x1 - 128)))+1)) (ag (x1 - 127)) (((aq A3 (ag (x1 - 128)) ((A3 (ag (x1 - 128)))+1)) (ag (x1 - 127)))+1)) (ag (x1 - 126)) (((aq (aq A3 (ag (x1 - 128)) ((A3 (ag (x1 - 128)))+1)) (ag (x1 - 127)) (((aq A3 (ag (x1 - 128)) ((A3 (ag (x1 - 128)))+1)) (ag (x1 - 127)))+1)) (ag (x1 - 126)))+1)) (ag (x1 - 121)) (((aq (aq (aq A3 (ag (x1 - 128)) ((A3 (ag (x1 - 128)))+1)) (ag (x1 - 127)) (((aq A3 (ag (x1 - 128)) ((A3 (ag (x1 - 128)))+1)) (ag (x1 - 127)))+1)) (ag (x1 - 126)) (((aq (aq A3 (ag (x1 - 128)) ((A3 (ag (x1 - 128)))+1)) (ag (x1 - 127)) (((aq A3 (ag (x1 - 128)) ((A3 (ag (x1 - 128)))+1)) (ag (x1 - 127)))+1)) (ag (x1 - 126)))+1)) (ag (x1 - 121)))+1)) j)∧iT ⟨[],[],[cm],[kW],[],[],[]⟩∧kB ⟨[],[],[cm],[kW],[],[],[]⟩<kB ⟨[],[],[x1],[A3],[],[],[]⟩))))))))))))))))))))))))))) (
 bH (x1 - 1) ((
 ∃(cm:Int) (kW:Nat→Int),cm=(x1 - 1)∧(∀j,j<256→kW j=A3 j)∧iT ⟨[],[],[cm],[kW],[],[],[]⟩∧kB ⟨[],[],[cm],[kW],[],[],[]⟩<kB ⟨[],[],[x1],[A3],[],[],[]⟩)))))) (
 ∀v3:V1,∃(kX:Ext→Prop) (oS:Ext→Nat),(∃(x2:Int) (A4:Nat→Int),x2=0∧(∀j,j<16→A4 j=(fun _=>0) j)∧kX ⟨[],[],[x2],[A4],[],[],[]⟩)∧
 ∀(x2:Int) (A4:Nat→Int),kX ⟨[],[],[x2],[A4],[],[],[]⟩→
 aR (x2<16) (
 ∃(ou:Ext→Prop) (qB:Ext→Nat),(∃(x3:Int) (A5:Nat→Int),x3=0∧(∀j,j<16→A5 j=A4 j)∧ou ⟨[],[],[x3],[A5],[],[],[]⟩)∧
 ∀(x3:Int) (A5:Nat→Int),ou ⟨[],[],[x3],[A5],[],[],[]⟩→
 aR (x3<8) (
 ao (0≤x2) (
 ao (x2<16) (
 bH (8*x2) ((
 bH ((8*x2)+x3) ((
 ao (0≤((8*x2)+x3)) (
 ao (((8*x2)+x3)<256) (
 bH (x3+1) ((
 ∃(dt:Int) (qX:Nat→Int),dt=(x3+1)∧(∀j,j<16→qX j=(aq A5 (ag x2) (ae .u8 ((ae .u8 (2*(A5 (ag x2))))+(ae .u8 (ak .rem .i64 (A3 (ag ((8*x2)+x3))) 2))))) j)∧ou ⟨[],[],[dt],[qX],[],[],[]⟩∧qB ⟨[],[],[dt],[qX],[],[],[]⟩<qB ⟨[],[],[x3],[A5],[],[],[]⟩))))))))))) (
 bH (x2+1) ((
 ∃(cf:Int) (oR:Nat→Int),cf=(x2+1)∧(∀j,j<16→oR j=A5 j)∧kX ⟨[],[],[cf],[oR],[],[],[]⟩∧oS ⟨[],[],[cf],[oR],[],[],[]⟩<oS ⟨[],[],[x2],[A4],[],[],[]⟩)))) (
 ar (v3.v) [bn false v0 16 A0,bn false v1 16 A1,aE true 3 1 v2.v 256 (aQ 256 [aO .i64 1 A3]),bn true v3 16 A4])))
theorem Ja(ar:PT)(A0 A1:Nat→Int)(v0 v1:V1)(h:zO ar A0 A1 v0 v1):aw ae0 144 [v0.v,v1.v] [bn false v0 16 A0,bn false v1 16 A1] ar:=
 mK (C:=Fk.cx) [.vv 0,.vv 1] [.bC false 0 5 1 (.lit 16) [⟨.int .u8,1,.aL 0⟩],.bC false 1 5 1 (.lit 16) [⟨.int .u8,1,.aL 1⟩]] ⟨0,2,0,2,0,0,0⟩ ⟨[],[A0,A1],[],[],[v0,v1],[],[],[]⟩ 0 4 Tryz.func144 (by kernel_rfl) h
def CP(ar:PT)(x0:Int)(A0 A1:Nat→Int)(v0 v1:V1):Prop:=
 ∀v2:V1,∃(bE:Ext→Prop) (bL:Ext→Nat),(∃(v3:V1) (x1:Int) (A2:Nat→Int),x1=0∧v3=v2∧v3=v2∧(∀j,j<16→A2 j=(fun _=>0) j)∧bE ⟨[],[v3],[x1],[A2],[],[],[]⟩)∧
 ∀(v3:V1) (x1:Int) (A2:Nat→Int),bE ⟨[],[v3],[x1],[A2],[],[],[]⟩→
 ao (0≤x0) (
 aR (x1<x0) (
 ∃(FL:Ext→Prop) (Lm:Ext→Nat),(∃(x2:Int) (A3:Nat→Int),x2=0∧(∀j,j<16→A3 j=A2 j)∧FL ⟨[],[],[x2],[A3],[],[],[]⟩)∧
 ∀(x2:Int) (A3:Nat→Int),FL ⟨[],[],[x2],[A3],[],[],[]⟩→
 ao ((¬(x2<16))∨((-9223372036854775808)≤(x1+x2))) (
 ao ((¬(x2<16))∨((x1+x2)≤9223372036854775807)) (
 ao ((¬(x2<16))∨(0≤x0)) (
 aR ((x2<16)∧((x1+x2)<x0)) (
 ao (0≤x2) (
 ao (x2<16) (
 bH (x1+x2) ((
 ao (0≤(x1+x2)) (
 ao ((x1+x2)<x0) (
 bH (x2+1) ((
 ∃(cf:Int) (kW:Nat→Int),cf=(x2+1)∧(∀j,j<16→kW j=(aq A3 (ag x2) (ak .ay .u8 (A3 (ag x2)) (A1 (ag (x1+x2))))) j)∧FL ⟨[],[],[cf],[kW],[],[],[]⟩∧Lm ⟨[],[],[cf],[kW],[],[],[]⟩<Lm ⟨[],[],[x2],[A3],[],[],[]⟩))))))))) (
 Cl 144 [v3.v,v0.v] [bn true v3 16 A3,bn false v0 16 A0] fun x hs l=> ∃(v4:V1) (A4:Nat→Int),x=v4.v∧hs=l++[bn true v4 16 A4]∧
 bH (x1+16) ((
 ∃(Hr:V1) (cm:Int) (dT:Nat→Int),cm=(x1+16)∧Hr=v4∧Hr=v4∧(∀j,j<16→dT j=A4 j)∧bE ⟨[],[Hr],[cm],[dT],[],[],[]⟩∧bL ⟨[],[Hr],[cm],[dT],[],[],[]⟩<bL ⟨[],[v3],[x1],[A2],[],[],[]⟩))))))) (
 ar (v3.v) [bn false v0 16 A0,bi v1 x0 A1,bn true v3 16 A2]))
theorem Ln(ar:PT)(x0:Int)(A0 A1:Nat→Int)(v0 v1:V1)(h:CP ar x0 A0 A1 v0 v1):aw ae0 125 [v0.v,v1.v] [bn false v0 16 A0,bi v1 x0 A1] ar:=
 mK (C:=Fk.cx) [.vv 0,.vv 1] [.bC false 0 5 1 (.lit 16) [⟨.int .u8,1,.aL 0⟩],.bC false 1 5 1 (.var 0) [⟨.int .u8,1,.aL 1⟩]] ⟨0,2,1,2,0,0,0⟩ ⟨[x0],[A0,A1],[],[],[v0,v1],[],[],[]⟩ 0 4 Tryz.func125 (by kernel_rfl) h
def zP(ar:PT)(x0:Int)(A0:Nat→Int)(v0:V1):Prop:=
 ∀_:V1,ao (0≤x0) (
 ao (0≤x0) (
 gV x0 (
 ∀v2:V1,∃(bE:Ext→Prop) (bL:Ext→Nat),(∃(v3:V1) (x1:Int) (A1:Nat→Int),v3=v2∧v3=v2∧x1=x0∧(∀j,j<(ag x1)→A1 j=A0 j)∧bE ⟨[],[v3],[x1],[A1],[],[],[]⟩)∧
 ∀(v3:V1) (x1:Int) (A1:Nat→Int),bE ⟨[],[v3],[x1],[A1],[],[],[]⟩→
 ao (0≤x1) (
 aR (0<(ak .rem .i64 x1 16)) (
 ∀_:Nat,gV ((x1+1)*1) (
 ∀v4:V1,∃(Hr:V1) (cm:Int) (qW:Nat→Int),Hr=v4∧Hr=v4∧cm=(x1+1)∧(∀j,j<(ag cm)→qW j=(aq A1 (ag x1) 0) j)∧bE ⟨[],[Hr],[cm],[qW],[],[],[]⟩∧bL ⟨[],[Hr],[cm],[qW],[],[],[]⟩<bL ⟨[],[v3],[x1],[A1],[],[],[]⟩)) (
 ar (v3.v) [bi v0 x0 A0,bo v3 x1 A1])))))
theorem Jb(ar:PT)(x0:Int)(A0:Nat→Int)(v0:V1)(h:zP ar x0 A0 v0):aw ae0 122 [v0.v] [bi v0 x0 A0] ar:=
 mK (C:=Fk.cx) [.vv 0] [.bC false 0 5 1 (.var 0) [⟨.int .u8,1,.aL 0⟩]] ⟨0,1,1,1,0,0,0⟩ ⟨[x0],[A0],[],[],[v0],[],[],[]⟩ 0 3 Tryz.func122 (by kernel_rfl) h
def CQ(ar:PT)(x0:Int)(A0:Nat→Int)(v0:V1):Prop:=
 ∀v1:V1,ao (0≤x0) (
 bH (8*x0) ((
 ar (v1.v) [bi v0 x0 A0,bn true v1 8 (aq (aq (aq (aq (aq (aq (aq (aq (fun _=>0) 7 (ae .u8 (ak .rem .i64 (8*x0) 256))) 6 (ae .u8 (ak .rem .i64 (ae .i64 (ak .quo .i64 (8*x0) 256)) 256))) 5 (ae .u8 (ak .rem .i64 (ae .i64 (ak .quo .i64 (ae .i64 (ak .quo .i64 (8*x0) 256)) 256)) 256))) 4 (ae .u8 (ak .rem .i64 (ae .i64 (ak .quo .i64 (ae .i64 (ak .quo .i64 (ae .i64 (ak .quo .i64 (8*x0) 256)) 256)) 256)) 256))) 3 (ae .u8 (ak .rem .i64 (ae .i64 (ak .quo .i64 (ae .i64 (ak .quo .i64 (ae .i64 (ak .quo .i64 (ae .i64 (ak .quo .i64 (8*x0) 256)) 256)) 256)) 256)) 256))) 2 (ae .u8 (ak .rem .i64 (ae .i64 (ak .quo .i64 (ae .i64 (ak .quo .i64 (ae .i64 (ak .quo .i64 (ae .i64 (ak .quo .i64 (ae .i64 (ak .quo .i64 (8*x0) 256)) 256)) 256)) 256)) 256)) 256))) 1 (ae .u8 (ak .rem .i64 (ae .i64 (ak .quo .i64 (ae .i64 (ak .quo .i64 (ae .i64 (ak .quo .i64 (ae .i64 (ak .quo .i64 (ae .i64 (ak .quo .i64 (ae .i64 (ak .quo .i64 (8*x0) 256)) 256)) 256)) 256)) 256)) 256)) 256))) 0 (ae .u8 (ak .rem .i64 (ae .i64 (ak .quo .i64 (ae .i64 (ak .quo .i64 (ae .i64 (ak .quo .i64 (ae .i64 (ak .quo .i64 (ae .i64 (ak .quo .i64 (ae .i64 (ak .quo .i64 (ae .i64 (ak .quo .i64 (8*x0) 256)) 256)) 256)) 256)) 256)) 256)) 256)) 256)))])))
theorem Lp(ar:PT)(x0:Int)(A0:Nat→Int)(v0:V1)(h:CQ ar x0 A0 v0):aw ae0 123 [v0.v] [bi v0 x0 A0] ar:=
 mK (C:=Fk.cx) [.vv 0] [.bC false 0 5 1 (.var 0) [⟨.int .u8,1,.aL 0⟩]] ⟨0,1,1,1,0,0,0⟩ ⟨[x0],[A0],[],[],[v0],[],[],[]⟩ 0 2 Tryz.func123 (by kernel_rfl) h
def Hs(ar:PT)(x0 x1 x2:Int)(A0 A1 A2 A3 A4:Nat→Int)(v0 v1 _ v3 v4:V1):Prop:=
 ∀_:Nat,Cl 122 [v3.v] [bi v3 x1 A3] fun x hs l=> ∃(v5:V1) (x3:Int) (A5:Nat→Int),x=v5.v∧hs=l++[bo v5 x3 A5]∧
 Cl 122 [v4.v] [bi v4 x2 A4] fun x hs l=> ∃(v6:V1) (x4:Int) (A6:Nat→Int),x=v6.v∧hs=l++[bo v6 x4 A6]∧
 ao (0≤x4) (
 ao (0≤x3) (
 ao (0≤x4) (
 gV (x3+x4) (
 ∀_:V1,Cl 123 [v3.v] [bi v3 x1 A3] fun x hs l=> ∃(v8:V1) (A7:Nat→Int),x=v8.v∧hs=l++[bn true v8 8 A7]∧
 ao (0≤(x3+x4)) (
 gV ((x3+x4)+8) (
 ∀_:V1,Cl 123 [v4.v] [bi v4 x2 A4] fun x hs l=> ∃(v10:V1) (A8:Nat→Int),x=v10.v∧hs=l++[bn true v10 8 A8]∧
 ao (0≤((x3+x4)+8)) (
 ao ((((x3+x4)+8)+8)≤140737488355328) (
 ∀v11 oL:V1,Cl 124 [v0.v,v1.v,oL.v] [bn false v0 256 A0,bi v1 x0 A1,bn true oL 16 (fun _=>0)] fun x hs l=> ∃(qp:V1) (A9:Nat→Int),x=qp.v∧hs=l++[bn true qp 16 A9]∧
 (∀_:V1,(∀(_:V1) (_:Nat) (tC:V1),Cl 125 [qp.v,v11.v] [bn true qp 16 A9,bo v11 (((x3+x4)+8)+8) (aI (aI (aI A5 (ag x3) (ag x4) A6) (ag (x3+x4)) 8 A7) (ag ((x3+x4)+8)) 8 A8)] fun x hs l=> ∃(rQ:V1) (gH:Nat→Int),x=rQ.v∧hs=l++[bn true rQ 16 gH]∧
 Cl 102 [v0.v,v1.v,tC.v,rQ.v] [bn false v0 256 A0,bi v1 x0 A1,bn true tC 16 (aI A2 12 4 (aq (aq (aq (aq (fun _=>0) 0 0) 1 0) 2 0) 3 1)),bn true rQ 16 gH] fun x hs l=> ∃(wS:V1) (x5:Int) (oT:Nat→Int),x=wS.v∧hs=l++[bo wS x5 oT]∧
 ar (wS.v) [bo wS x5 oT])∧
 (∀(_:Nat) (_ tC:V1),Cl 125 [qp.v,v11.v] [bn true qp 16 A9,bo v11 (((x3+x4)+8)+8) (aI (aI (aI A5 (ag x3) (ag x4) A6) (ag (x3+x4)) 8 A7) (ag ((x3+x4)+8)) 8 A8)] fun x hs l=> ∃(rQ:V1) (gH:Nat→Int),x=rQ.v∧hs=l++[bn true rQ 16 gH]∧
 Cl 102 [v0.v,v1.v,tC.v,rQ.v] [bn false v0 256 A0,bi v1 x0 A1,bn true tC 16 (aI A2 12 4 (aq (aq (aq (aq (fun _=>0) 0 0) 1 0) 2 0) 3 1)),bn true rQ 16 gH] fun x hs l=> ∃(wS:V1) (x5:Int) (oT:Nat→Int),x=wS.v∧hs=l++[bo wS x5 oT]∧
 ar (wS.v) [bo wS x5 oT]))∧
 (∀(_:Nat) (_ _ tC:V1),Cl 125 [qp.v,v11.v] [bn true qp 16 A9,bo v11 (((x3+x4)+8)+8) (aI (aI (aI A5 (ag x3) (ag x4) A6) (ag (x3+x4)) 8 A7) (ag ((x3+x4)+8)) 8 A8)] fun x hs l=> ∃(rQ:V1) (gH:Nat→Int),x=rQ.v∧hs=l++[bn true rQ 16 gH]∧
 Cl 102 [v0.v,v1.v,tC.v,rQ.v] [bn false v0 256 A0,bi v1 x0 A1,bn true tC 16 (aI A2 12 4 (aq (aq (aq (aq (fun _=>0) 0 0) 1 0) 2 0) 3 1)),bn true rQ 16 gH] fun x hs l=> ∃(wS:V1) (x5:Int) (oT:Nat→Int),x=wS.v∧hs=l++[bo wS x5 oT]∧
 ar (wS.v) [bo wS x5 oT])))))))))
theorem O3(ar:PT)(x0 x1 x2:Int)(A0 A1 A2 A3 A4:Nat→Int)(v0 v1 v2 v3 v4:V1)(h:Hs ar x0 x1 x2 A0 A1 A2 A3 A4 v0 v1 v2 v3 v4):aw ae0 101 [.agg #[v0.v,v1.v],v2.v,v3.v,v4.v] [bn false v0 256 A0,bi v1 x0 A1,bn false v2 12 A2,bi v3 x1 A3,bi v4 x2 A4] ar:=
 mK (C:=Fk.cx) [.agg [.vv 0,.vv 1],.vv 2,.vv 3,.vv 4] [.bC false 0 5 1 (.lit 256) [⟨.int .u8,1,.aL 0⟩],.bC false 1 5 1 (.var 0) [⟨.int .u8,1,.aL 1⟩],.bC false 2 5 1 (.lit 12) [⟨.int .u8,1,.aL 2⟩],.bC false 3 5 1 (.var 1) [⟨.int .u8,1,.aL 3⟩],.bC false 4 5 1 (.var 2) [⟨.int .u8,1,.aL 4⟩]] ⟨0,5,3,5,0,0,0⟩ ⟨[x0,x1,x2],[A0,A1,A2,A3,A4],[],[],[v0,v1,v2,v3,v4],[],[],[]⟩ 0 1 Tryz.func101 (by kernel_rfl) h
def zQ(ar:PT)(x0 x1:Int)(A0 A1 A2 A3:Nat→Int)(v0 v1 _ v3:V1):Prop:=
 ∀_:Nat,(∀_:V1,(∀(_:V1) (_:Nat) (v6:V1),Cl 102 [v0.v,v1.v,v6.v,v3.v] [bn false v0 256 A0,bi v1 x0 A1,bn true v6 16 (aI A2 12 4 (aq (aq (aq (aq (fun _=>0) 0 0) 1 0) 2 0) 3 2)),bi v3 x1 A3] fun x hs l=> ∃(v7:V1) (x2:Int) (A4:Nat→Int),x=v7.v∧hs=l++[bo v7 x2 A4]∧
 ar (v7.v) [bo v7 x2 A4])∧
 (∀(_:Nat) (_ v6:V1),Cl 102 [v0.v,v1.v,v6.v,v3.v] [bn false v0 256 A0,bi v1 x0 A1,bn true v6 16 (aI A2 12 4 (aq (aq (aq (aq (fun _=>0) 0 0) 1 0) 2 0) 3 2)),bi v3 x1 A3] fun x hs l=> ∃(v7:V1) (x2:Int) (A4:Nat→Int),x=v7.v∧hs=l++[bo v7 x2 A4]∧
 ar (v7.v) [bo v7 x2 A4]))∧
 (∀(_:Nat) (_ _ v6:V1),Cl 102 [v0.v,v1.v,v6.v,v3.v] [bn false v0 256 A0,bi v1 x0 A1,bn true v6 16 (aI A2 12 4 (aq (aq (aq (aq (fun _=>0) 0 0) 1 0) 2 0) 3 2)),bi v3 x1 A3] fun x hs l=> ∃(v7:V1) (x2:Int) (A4:Nat→Int),x=v7.v∧hs=l++[bo v7 x2 A4]∧
 ar (v7.v) [bo v7 x2 A4])
theorem Jc(ar:PT)(x0 x1:Int)(A0 A1 A2 A3:Nat→Int)(v0 v1 v2 v3:V1)(h:zQ ar x0 x1 A0 A1 A2 A3 v0 v1 v2 v3):aw ae0 100 [.agg #[v0.v,v1.v],v2.v,v3.v] [bn false v0 256 A0,bi v1 x0 A1,bn false v2 12 A2,bi v3 x1 A3] ar:=
 mK (C:=Fk.cx) [.agg [.vv 0,.vv 1],.vv 2,.vv 3] [.bC false 0 5 1 (.lit 256) [⟨.int .u8,1,.aL 0⟩],.bC false 1 5 1 (.var 0) [⟨.int .u8,1,.aL 1⟩],.bC false 2 5 1 (.lit 12) [⟨.int .u8,1,.aL 2⟩],.bC false 3 5 1 (.var 1) [⟨.int .u8,1,.aL 3⟩]] ⟨0,4,2,4,0,0,0⟩ ⟨[x0,x1],[A0,A1,A2,A3],[],[],[v0,v1,v2,v3],[],[],[]⟩ 0 1 Tryz.func100 (by kernel_rfl) h
def CR(ar:PT)(x0 x1 x2:Int)(A0 A1 A2 A3 A4:Nat→Int)(v0 v1 v2 v3 v4:V1):Prop:=
 ∀_:Nat,Cl 100 [.agg #[v0.v,v1.v],v2.v,v4.v] [bn false v0 256 A0,bi v1 x0 A1,bn false v2 12 A2,bi v4 x2 A4] fun x hs l=> ∃(v5:V1) (x3:Int) (A5:Nat→Int),x=v5.v∧hs=l++[bo v5 x3 A5]∧
 ∀_:V1,ao (0≤x3) (
 ao (0≤x3) (
 gV x3 (
 ∀_:V1,Cl 101 [.agg #[v0.v,v1.v],v2.v,v3.v,v5.v] [bn false v0 256 A0,bi v1 x0 A1,bn false v2 12 A2,bi v3 x1 A3,bo v5 x3 A5] fun x hs l=> ∃(v8:V1) (A6:Nat→Int),x=v8.v∧hs=l++[bn true v8 16 A6]∧
 gV (x3+16) (
 ∀v9:V1,ar (v9.v) [bo v9 (x3+16) (aI A5 (ag x3) 16 A6),bn true v8 16 A6]))))
theorem Lq(ar:PT)(x0 x1 x2:Int)(A0 A1 A2 A3 A4:Nat→Int)(v0 v1 v2 v3 v4:V1)(h:CR ar x0 x1 x2 A0 A1 A2 A3 A4 v0 v1 v2 v3 v4):aw ae0 73 [.agg #[v0.v,v1.v],v2.v,v3.v,v4.v] [bn false v0 256 A0,bi v1 x0 A1,bn false v2 12 A2,bi v3 x1 A3,bi v4 x2 A4] ar:=
 mK (C:=Fk.cx) [.agg [.vv 0,.vv 1],.vv 2,.vv 3,.vv 4] [.bC false 0 5 1 (.lit 256) [⟨.int .u8,1,.aL 0⟩],.bC false 1 5 1 (.var 0) [⟨.int .u8,1,.aL 1⟩],.bC false 2 5 1 (.lit 12) [⟨.int .u8,1,.aL 2⟩],.bC false 3 5 1 (.var 1) [⟨.int .u8,1,.aL 3⟩],.bC false 4 5 1 (.var 2) [⟨.int .u8,1,.aL 4⟩]] ⟨0,5,3,5,0,0,0⟩ ⟨[x0,x1,x2],[A0,A1,A2,A3,A4],[],[],[v0,v1,v2,v3,v4],[],[],[]⟩ 0 2 Tryz.func73 (by kernel_rfl) h
def CS(ar:PT)(x0 x1 x2:Int)(A0 A1 A2 A3 A4:Nat→Int)(v0 v1 v2 v3 v4:V1):Prop:=
 ∀b0:Nat,ao (0≤x2) (
 bH (x2 - 16) ((
 ao (((x2 - 16)<0)∨(0≤(x2 - 16))) (
 ao (((x2 - 16)<0)∨((x2 - 16)≤x2)) (
 ao (((x2 - 16)<0)∨(0≤(x2 - 16))) (
 ao (((x2 - 16)<0)∨((x2 - 16)≤x2)) (
 ao (((x2 - 16)<0)∨(0≤(x2 - 16))) (
 ao (((x2 - 16)<0)∨((x2 - 16)≤x2)) (
 ao (((x2 - 16)<0)∨(0≤(x2 - (x2 - 16)))) (
 aR (¬((x2 - 16)<0)) (
 Cl 101 [.agg #[v0.v,v1.v],v2.v,v3.v,(aD 1 v4.v 0 (ag (x2 - 16)) none)] [bn false v0 256 A0,bi v1 x0 A1,bn false v2 12 A2,bi v3 x1 A3,bi v4 x2 A4] fun x hs l=> ∃(v5:V1) (A5:Nat→Int),x=v5.v∧hs=l++[bn true v5 16 A5]∧
 aR (¬(cj (g9 A5 16)=cj (g9 (aA A4 (ag (x2 - 16))) (x2 - (x2 - 16))))) (
 ar (.tuple #[.slice none 0 0,.bool false]) [bn true v5 16 A5]) (
 ao (0≤(x2 - 16)) (
 ao ((x2 - 16)≤x2) (
 Cl 100 [.agg #[v0.v,v1.v],v2.v,(aD 1 v4.v 0 (ag (x2 - 16)) none)] [bn false v0 256 A0,bi v1 x0 A1,bn false v2 12 A2,bi v4 x2 A4] fun x hs l=> ∃(v6:V1) (x3:Int) (A6:Nat→Int),x=v6.v∧hs=l++[bo v6 x3 A6]∧
 ar (.tuple #[v6.v,.bool true]) [bo v6 x3 A6])))) (
 ar (.tuple #[.slice none 0 0,.bool false]) [ax b0 true ([v0.v,v1.v])])))))))))))
theorem Lr(ar:PT)(x0 x1 x2:Int)(A0 A1 A2 A3 A4:Nat→Int)(v0 v1 v2 v3 v4:V1)(h:CS ar x0 x1 x2 A0 A1 A2 A3 A4 v0 v1 v2 v3 v4):aw ae0 76 [.agg #[v0.v,v1.v],v2.v,v3.v,v4.v] [bn false v0 256 A0,bi v1 x0 A1,bn false v2 12 A2,bi v3 x1 A3,bi v4 x2 A4] ar:=
 mK (C:=Fk.cx) [.agg [.vv 0,.vv 1],.vv 2,.vv 3,.vv 4] [.bC false 0 5 1 (.lit 256) [⟨.int .u8,1,.aL 0⟩],.bC false 1 5 1 (.var 0) [⟨.int .u8,1,.aL 1⟩],.bC false 2 5 1 (.lit 12) [⟨.int .u8,1,.aL 2⟩],.bC false 3 5 1 (.var 1) [⟨.int .u8,1,.aL 3⟩],.bC false 4 5 1 (.var 2) [⟨.int .u8,1,.aL 4⟩]] ⟨0,5,3,5,0,0,0⟩ ⟨[x0,x1,x2],[A0,A1,A2,A3,A4],[],[],[v0,v1,v2,v3,v4],[],[],[]⟩ 0 1 Tryz.func76 (by kernel_rfl) h
def Ht(ar:PT)(x0:Int)(A0:Nat→Int)(v0:V1):Prop:=
 ∀b0:Nat,Cl 98 [] [] fun x hs _=> ∃(v1:V1) (A1:Nat→Int),x=v1.v∧hs=[bn true v1 256 A1]∧
 Cl 99 [v1.v,v0.v] [bn true v1 256 A1,bi v0 x0 A0] fun x hs l=> ∃(v2:V1) (x1:Int) (A2:Nat→Int),x=v2.v∧hs=l++[bo v2 x1 A2]∧
 ar (.agg #[v1.v,v2.v]) [bi v0 x0 A0,ax b0 true ([v1.v,v2.v]),bn true v1 256 A1,bo v2 x1 A2]
theorem O4(ar:PT)(x0:Int)(A0:Nat→Int)(v0:V1)(h:Ht ar x0 A0 v0):aw ae0 72 [v0.v] [bi v0 x0 A0] ar:=
 Ls (C:=Fk.cx) [.vv 0] [.bC false 0 5 1 (.var 0) [⟨.int .u8,1,.aL 0⟩]] ⟨0,1,1,1,0,0,0⟩ ⟨[x0],[A0],[],[],[v0],[],[],[]⟩ Tryz.func72 (by kernel_rfl) h
end Go.RX.Fk
