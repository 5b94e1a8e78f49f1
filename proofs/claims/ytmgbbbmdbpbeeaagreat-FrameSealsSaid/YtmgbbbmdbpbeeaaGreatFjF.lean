/- AES and counters. -/
import Derived.Test.YtmgbbbmdbpbeeaaGreatM24
open Go.IntKind renaming wrap → ae
open Go.Proofs.Tryz renaming prog → ae0
open Int renaming toNat → ag
namespace Go.RX.Fj
open Go.RX Go.Proofs Go.RX.Fe Go.RX.Fg Go.RX.Fi
noncomputable def cx:Ctx:={T:=TT,FT:=FT,loops:=Fj.loops,cq:=Fj.cq}
set_option maxRecDepth 100000
def oP(ar:PT)(x0 x1:Int):Prop:=
 ∃(bE:Ext→Prop) (bL:Ext→Nat),(∃x2 x3 x4:Int,x2=0∧x3=x0∧x4=x1∧bE ⟨[],[],[x2,x3,x4],[],[],[],[]⟩)∧
 ∀x2 x3 x4:Int,bE ⟨[],[],[x2,x3,x4],[],[],[],[]⟩→
 aR (0<x4) (
 aR ((ak .rem .u8 x4 2)=1) (
 aR (128≤x3) (
 ∃cf dt dc:Int,cf=(ak .ay .u8 x2 x3)∧dt=(ak .ay .u8 (ae .u8 (2*x3)) 27)∧dc=(ae .u8 (ak .quo .u8 x4 2))∧bE ⟨[],[],[cf,dt,dc],[],[],[],[]⟩∧bL ⟨[],[],[cf,dt,dc],[],[],[],[]⟩<bL ⟨[],[],[x2,x3,x4],[],[],[],[]⟩) (
 ∃cf dt dc:Int,cf=(ak .ay .u8 x2 x3)∧dt=(ae .u8 (2*x3))∧dc=(ae .u8 (ak .quo .u8 x4 2))∧bE ⟨[],[],[cf,dt,dc],[],[],[],[]⟩∧bL ⟨[],[],[cf,dt,dc],[],[],[],[]⟩<bL ⟨[],[],[x2,x3,x4],[],[],[],[]⟩)) (
 aR (128≤x3) (
 ∃cf dt dc:Int,cf=x2∧dt=(ak .ay .u8 (ae .u8 (2*x3)) 27)∧dc=(ae .u8 (ak .quo .u8 x4 2))∧bE ⟨[],[],[cf,dt,dc],[],[],[],[]⟩∧bL ⟨[],[],[cf,dt,dc],[],[],[],[]⟩<bL ⟨[],[],[x2,x3,x4],[],[],[],[]⟩) (
 ∃cf dt dc:Int,cf=x2∧dt=(ae .u8 (2*x3))∧dc=(ae .u8 (ak .quo .u8 x4 2))∧bE ⟨[],[],[cf,dt,dc],[],[],[],[]⟩∧bL ⟨[],[],[cf,dt,dc],[],[],[],[]⟩<bL ⟨[],[],[x2,x3,x4],[],[],[],[]⟩))) (
 ar (.int .u8 x2) [])
theorem Lj(ar:PT)(x0 x1:Int)(h:oP ar x0 x1):aw ae0 119 [.int .u8 x0,.int .u8 x1] [] ar:=
 FJ (C:=Fj.cx) [.int .u8 (.var 0),.int .u8 (.var 1)] [] ⟨0,0,2,0,0,0,0⟩ ⟨[x0,x1],[],[],[],[],[],[],[]⟩ Tryz.func119 (by kernel_rfl) h
def oQ(ar:PT)(x0:Int):Prop:=
 ∃(bE:Ext→Prop) (bL:Ext→Nat),(∃x1 x2:Int,x1=0∧x2=1∧bE ⟨[],[],[x1,x2],[],[],[],[]⟩)∧
 ∀x1 x2:Int,bE ⟨[],[],[x1,x2],[],[],[],[]⟩→
 aR (x1<x0) (
 bH (x1+1) ((
 ∃cm cf:Int,cm=(x1+1)∧cf=(ae .u8 (2*x2))∧bE ⟨[],[],[cm,cf],[],[],[],[]⟩∧bL ⟨[],[],[cm,cf],[],[],[],[]⟩<bL ⟨[],[],[x1,x2],[],[],[],[]⟩))) (
 ar (.int .u8 x2) [])
theorem wP(ar:PT)(x0:Int)(h:oQ ar x0):aw ae0 121 [.int .i64 x0] [] ar:=
 FJ (C:=Fj.cx) [.int .i64 (.var 0)] [] ⟨0,0,1,0,0,0,0⟩ ⟨[x0],[],[],[],[],[],[],[]⟩ Tryz.func121 (by kernel_rfl) h
def Lk(ar:PT)(x0 x1:Int):Prop:=
 Cl 121 [.int .i64 x1] [] fun x hs _=> ∃x2:Int,x= .int .u8 x2∧hs=[]∧
 ao (x2≠0) (
 bH (ak .rem .u8 (ae .u8 (ak .quo .u8 x0 x2)) 2) ((
 ar (.int .i64 (ak .rem .u8 (ae .u8 (ak .quo .u8 x0 x2)) 2)) [])))
theorem Ss(ar:PT)(x0 x1:Int)(h:Lk ar x0 x1):aw ae0 120 [.int .u8 x0,.int .i64 x1] [] ar:=
 FJ (C:=Fj.cx) [.int .u8 (.var 0),.int .i64 (.var 1)] [] ⟨0,0,2,0,0,0,0⟩ ⟨[x0,x1],[],[],[],[],[],[],[]⟩ Tryz.func120 (by kernel_rfl) h
def wQ(ar:PT):Prop:=
 ∀_:V1,∃(bE:Ext→Prop) (bL:Ext→Nat),(∃(x0 x1 x2:Int) (A0:Nat→Int),x0=0∧x1=1∧x2=1∧(∀j,j<256→A0 j=(fun _=>0) j)∧bE ⟨[],[],[x0,x1,x2],[A0],[],[],[]⟩)∧
 ∀(x0 x1 x2:Int) (A0:Nat→Int),bE ⟨[],[],[x0,x1,x2],[A0],[],[],[]⟩→
 aR (x0<255) (
 ao (0≤x1) (
 ao (x1<256) (
 Cl 119 [.int .u8 x1,.int .u8 3] [] fun x hs _=> ∃x3:Int,x= .int .u8 x3∧hs=[]∧
 Cl 119 [.int .u8 x2,.int .u8 246] [] fun x hs _=> ∃x4:Int,x= .int .u8 x4∧hs=[]∧
 bH (x0+1) ((
 ∃(eH cm cf:Int) (AZ:Nat→Int),eH=(x0+1)∧cm=x3∧cf=x4∧(∀j,j<256→AZ j=(aq A0 (ag x1) x2) j)∧bE ⟨[],[],[eH,cm,cf],[AZ],[],[],[]⟩∧bL ⟨[],[],[eH,cm,cf],[AZ],[],[],[]⟩<bL ⟨[],[],[x0,x1,x2],[A0],[],[],[]⟩))))) (
 ∀v1:V1,∃(iT:Ext→Prop) (kB:Ext→Nat),(∃(x3:Int) (A1:Nat→Int),x3=0∧(∀j,j<256→A1 j=(fun _=>0) j)∧iT ⟨[],[],[x3],[A1],[],[],[]⟩)∧
 ∀(x3:Int) (A1:Nat→Int),iT ⟨[],[],[x3],[A1],[],[],[]⟩→
 aR (x3<256) (
 ao (0≤x3) (
 aR (x3=0) (
 ∃(rT:Ext→Prop) (rU:Ext→Nat),(∃(x4:Int) (A2:Nat→Int),x4=0∧(∀j,j<256→A2 j=A1 j)∧rT ⟨[],[],[x4],[A2],[],[],[]⟩)∧
 ∀(x4:Int) (A2:Nat→Int),rT ⟨[],[],[x4],[A2],[],[],[]⟩→
 aR (x4<8) (
 Cl 120 [.int .u8 0,.int .i64 x4] [] fun x hs _=> ∃x5:Int,x= .int .i64 x5∧hs=[]∧
 bH (x4+4) ((
 Cl 120 [.int .u8 0,.int .i64 (ak .rem .i64 (x4+4) 8)] [] fun x hs _=> ∃x6:Int,x= .int .i64 x6∧hs=[]∧
 bH (x5+x6) ((
 bH (x4+5) ((
 Cl 120 [.int .u8 0,.int .i64 (ak .rem .i64 (x4+5) 8)] [] fun x hs _=> ∃x7:Int,x= .int .i64 x7∧hs=[]∧
 bH ((x5+x6)+x7) ((
 bH (x4+6) ((
 Cl 120 [.int .u8 0,.int .i64 (ak .rem .i64 (x4+6) 8)] [] fun x hs _=> ∃x8:Int,x= .int .i64 x8∧hs=[]∧
 bH (((x5+x6)+x7)+x8) ((
 bH (x4+7) ((
 Cl 120 [.int .u8 0,.int .i64 (ak .rem .i64 (x4+7) 8)] [] fun x hs _=> ∃x9:Int,x= .int .i64 x9∧hs=[]∧
 bH ((((x5+x6)+x7)+x8)+x9) ((
 Cl 120 [.int .u8 99,.int .i64 x4] [] fun x hs _=> ∃dS:Int,x= .int .i64 dS∧hs=[]∧
 bH (((((x5+x6)+x7)+x8)+x9)+dS) ((
 aR ((ak .rem .i64 (((((x5+x6)+x7)+x8)+x9)+dS) 2)=1) (
 ao (0≤x3) (
 ao (x3<256) (
 Cl 121 [.int .i64 x4] [] fun x hs _=> ∃dQ:Int,x= .int .u8 dQ∧hs=[]∧
 bH (x4+1) ((
 ∃(dc:Int) (dT:Nat→Int),dc=(x4+1)∧(∀j,j<256→dT j=(aq A2 (ag x3) (ae .u8 ((A2 (ag x3))+dQ))) j)∧rT ⟨[],[],[dc],[dT],[],[],[]⟩∧rU ⟨[],[],[dc],[dT],[],[],[]⟩<rU ⟨[],[],[x4],[A2],[],[],[]⟩))))) (
 bH (x4+1) ((
 ∃(dc:Int) (dT:Nat→Int),dc=(x4+1)∧(∀j,j<256→dT j=A2 j)∧rT ⟨[],[],[dc],[dT],[],[],[]⟩∧rU ⟨[],[],[dc],[dT],[],[],[]⟩<rU ⟨[],[],[x4],[A2],[],[],[]⟩)))))))))))))))))))))) (
 bH (x3+1) ((
 ∃(dt:Int) (qW:Nat→Int),dt=(x3+1)∧(∀j,j<256→qW j=A2 j)∧iT ⟨[],[],[dt],[qW],[],[],[]⟩∧kB ⟨[],[],[dt],[qW],[],[],[]⟩<kB ⟨[],[],[x3],[A1],[],[],[]⟩)))) (
 ∃(rT:Ext→Prop) (rU:Ext→Nat),(∃(x4:Int) (A2:Nat→Int),x4=0∧(∀j,j<256→A2 j=A1 j)∧rT ⟨[],[],[x4],[A2],[],[],[]⟩)∧
 ∀(x4:Int) (A2:Nat→Int),rT ⟨[],[],[x4],[A2],[],[],[]⟩→
 aR (x4<8) (
 Cl 120 [.int .u8 (A0 (ag x3)),.int .i64 x4] [] fun x hs _=> ∃x5:Int,x= .int .i64 x5∧hs=[]∧
 bH (x4+4) ((
 Cl 120 [.int .u8 (A0 (ag x3)),.int .i64 (ak .rem .i64 (x4+4) 8)] [] fun x hs _=> ∃x6:Int,x= .int .i64 x6∧hs=[]∧
 bH (x5+x6) ((
 bH (x4+5) ((
 Cl 120 [.int .u8 (A0 (ag x3)),.int .i64 (ak .rem .i64 (x4+5) 8)] [] fun x hs _=> ∃x7:Int,x= .int .i64 x7∧hs=[]∧
 bH ((x5+x6)+x7) ((
 bH (x4+6) ((
 Cl 120 [.int .u8 (A0 (ag x3)),.int .i64 (ak .rem .i64 (x4+6) 8)] [] fun x hs _=> ∃x8:Int,x= .int .i64 x8∧hs=[]∧
 bH (((x5+x6)+x7)+x8) ((
 bH (x4+7) ((
 Cl 120 [.int .u8 (A0 (ag x3)),.int .i64 (ak .rem .i64 (x4+7) 8)] [] fun x hs _=> ∃x9:Int,x= .int .i64 x9∧hs=[]∧
 bH ((((x5+x6)+x7)+x8)+x9) ((
 Cl 120 [.int .u8 99,.int .i64 x4] [] fun x hs _=> ∃dS:Int,x= .int .i64 dS∧hs=[]∧
 bH (((((x5+x6)+x7)+x8)+x9)+dS) ((
 aR ((ak .rem .i64 (((((x5+x6)+x7)+x8)+x9)+dS) 2)=1) (
 ao (0≤x3) (
 ao (x3<256) (
 Cl 121 [.int .i64 x4] [] fun x hs _=> ∃dQ:Int,x= .int .u8 dQ∧hs=[]∧
 bH (x4+1) ((
 ∃(dc:Int) (dT:Nat→Int),dc=(x4+1)∧(∀j,j<256→dT j=(aq A2 (ag x3) (ae .u8 ((A2 (ag x3))+dQ))) j)∧rT ⟨[],[],[dc],[dT],[],[],[]⟩∧rU ⟨[],[],[dc],[dT],[],[],[]⟩<rU ⟨[],[],[x4],[A2],[],[],[]⟩))))) (
 bH (x4+1) ((
 ∃(dc:Int) (dT:Nat→Int),dc=(x4+1)∧(∀j,j<256→dT j=A2 j)∧rT ⟨[],[],[dc],[dT],[],[],[]⟩∧rU ⟨[],[],[dc],[dT],[],[],[]⟩<rU ⟨[],[],[x4],[A2],[],[],[]⟩)))))))))))))))))))))) (
 bH (x3+1) ((
 ∃(dt:Int) (qW:Nat→Int),dt=(x3+1)∧(∀j,j<256→qW j=A2 j)∧iT ⟨[],[],[dt],[qW],[],[],[]⟩∧kB ⟨[],[],[dt],[qW],[],[],[]⟩<kB ⟨[],[],[x3],[A1],[],[],[]⟩)))))) (
 ar (v1.v) [bn true v1 256 A1]))
theorem Su(ar:PT)(h:wQ ar):aw ae0 98 [] [] ar:=
 mK (C:=Fj.cx) [] [] ⟨0,0,0,0,0,0,0⟩ ⟨[],[],[],[],[],[],[],[]⟩ 0 1 Tryz.func98 (by kernel_rfl) h
def zM(ar:PT)(A0 A1:Nat→Int)(v0 v1:V1):Prop:=
 ∀_ v3:V1,∃(bE:Ext→Prop) (bL:Ext→Nat),(∃(v4:V1) (x0 x1 x2:Int) (A2:Nat→Int),x0=4∧x1=1∧v4=v3∧v4=v3∧x2=16∧(∀j,j<(ag x2)→A2 j=A1 j)∧bE ⟨[],[v4],[x0,x1,x2],[A2],[],[],[]⟩)∧
 ∀(v4:V1) (x0 x1 x2:Int) (A2:Nat→Int),bE ⟨[],[v4],[x0,x1,x2],[A2],[],[],[]⟩→
 aR (x0<44) (
 ∀_:V1,bH (4*x0) ((
 bH ((4*x0) - 4) ((
 ao (0≤((4*x0) - 4)) (
 ao (((4*x0) - 4)≤(4*x0)) (
 ao ((4*x0)≤x2) (
 ao (0≤((4*x0) - ((4*x0) - 4))) (
 ao (0≤((4*x0) - ((4*x0) - 4))) (
 ao (((4*x0) - ((4*x0) - 4))≤140737488355328) (
 ∀_:V1,aR ((ak .rem .i64 x0 4)=0) (
 ao (1<((4*x0) - ((4*x0) - 4))) (
 ao (0≤((aA A2 (ag ((4*x0) - 4))) 1)) (
 ao (((aA A2 (ag ((4*x0) - 4))) 1)<256) (
 ao (2<((4*x0) - ((4*x0) - 4))) (
 ao (0≤((aA A2 (ag ((4*x0) - 4))) 2)) (
 ao (((aA A2 (ag ((4*x0) - 4))) 2)<256) (
 ao (3<((4*x0) - ((4*x0) - 4))) (
 ao (0≤((aA A2 (ag ((4*x0) - 4))) 3)) (
 ao (((aA A2 (ag ((4*x0) - 4))) 3)<256) (
 ao (0<((4*x0) - ((4*x0) - 4))) (
 ao (0≤((aA A2 (ag ((4*x0) - 4))) 0)) (
 ao (((aA A2 (ag ((4*x0) - 4))) 0)<256) (
 ∀_:Nat,Cl 119 [.int .u8 x1,.int .u8 2] [] fun x hs _=> ∃x3:Int,x= .int .u8 x3∧hs=[]∧
 bH (x0 - 4) ((
 bH (4*(x0 - 4)) ((
 ao (0≤(4*(x0 - 4))) (
 ao ((4*(x0 - 4))<x2) (
 ∀_:Nat,ao (0≤x2) (
 gV ((x2+1)*1) (
 ∀_:V1,bH ((4*(x0 - 4))+1) ((
 ao (0≤((4*(x0 - 4))+1)) (
 ao (((4*(x0 - 4))+1)<(x2+1)) (
 ∀_:Nat,ao (0≤(x2+1)) (
 ao ((((x2+1)+1)*1)≤140737488355328) (
 ∀_:V1,bH ((4*(x0 - 4))+2) ((
 ao (0≤((4*(x0 - 4))+2)) (
 ao (((4*(x0 - 4))+2)<((x2+1)+1)) (
 ∀_:Nat,ao (0≤((x2+1)+1)) (
 ao (((((x2+1)+1)+1)*1)≤140737488355328) (
 ∀_:V1,bH ((4*(x0 - 4))+3) ((
 ao (0≤((4*(x0 - 4))+3)) (
 ao (((4*(x0 - 4))+3)<(((x2+1)+1)+1)) (
 ∀_:Nat,ao (0≤(((x2+1)+1)+1)) (
 ao ((((((x2+1)+1)+1)+1)*1)≤140737488355328) (
 ∀v10:V1,bH (x0+1) ((
 ∃(lL:V1) (eH cm cf:Int) (dT:Nat→Int),eH=(x0+1)∧cm=x3∧lL=v10∧lL=v10∧cf=((((x2+1)+1)+1)+1)∧(∀j,j<(ag cf)→dT j=(aq (aq (aq (aq A2 (ag x2) (ak .ay .u8 (ak .ay .u8 (A0 (ag ((aA A2 (ag ((4*x0) - 4))) 1))) x1) (A2 (ag (4*(x0 - 4)))))) (ag (x2+1)) (ak .ay .u8 (A0 (ag ((aA A2 (ag ((4*x0) - 4))) 2))) ((aq A2 (ag x2) (ak .ay .u8 (ak .ay .u8 (A0 (ag ((aA A2 (ag ((4*x0) - 4))) 1))) x1) (A2 (ag (4*(x0 - 4)))))) (ag ((4*(x0 - 4))+1))))) (ag ((x2+1)+1)) (ak .ay .u8 (A0 (ag ((aA A2 (ag ((4*x0) - 4))) 3))) ((aq (aq A2 (ag x2) (ak .ay .u8 (ak .ay .u8 (A0 (ag ((aA A2 (ag ((4*x0) - 4))) 1))) x1) (A2 (ag (4*(x0 - 4)))))) (ag (x2+1)) (ak .ay .u8 (A0 (ag ((aA A2 (ag ((4*x0) - 4))) 2))) ((aq A2 (ag x2) (ak .ay .u8 (ak .ay .u8 (A0 (ag ((aA A2 (ag ((4*x0) - 4))) 1))) x1) (A2 (ag (4*(x0 - 4)))))) (ag ((4*(x0 - 4))+1))))) (ag ((4*(x0 - 4))+2))))) (ag (((x2+1)+1)+1)) (ak .ay .u8 (A0 (ag ((aA A2 (ag ((4*x0) - 4))) 0))) ((aq (aq (aq A2 (ag x2) (ak .ay .u8 (ak .ay .u8 (A0 (ag ((aA A2 (ag ((4*x0) - 4))) 1))) x1) (A2 (ag (4*(x0 - 4)))))) (ag (x2+1)) (ak .ay .u8 (A0 (ag ((aA A2 (ag ((4*x0) - 4))) 2))) ((aq A2 (ag x2) (ak .ay .u8 (ak .ay .u8 (A0 (ag ((aA A2 (ag ((4*x0) - 4))) 1))) x1) (A2 (ag (4*(x0 - 4)))))) (ag ((4*(x0 - 4))+1))))) (ag ((x2+1)+1)) (ak .ay .u8 (A0 (ag ((aA A2 (ag ((4*x0) - 4))) 3))) ((aq (aq A2 (ag x2) (ak .ay .u8 (ak .ay .u8 (A0 (ag ((aA A2 (ag ((4*x0) - 4))) 1))) x1) (A2 (ag (4*(x0 - 4)))))) (ag (x2+1)) (ak .ay .u8 (A0 (ag ((aA A2 (ag ((4*x0) - 4))) 2))) ((aq A2 (ag x2) (ak .ay .u8 (ak .ay .u8 (A0 (ag ((aA A2 (ag ((4*x0) - 4))) 1))) x1) (A2 (ag (4*(x0 - 4)))))) (ag ((4*(x0 - 4))+1))))) (ag ((4*(x0 - 4))+2))))) (ag ((4*(x0 - 4))+3))))) j)∧bE ⟨[],[lL],[eH,cm,cf],[dT],[],[],[]⟩∧bL ⟨[],[lL],[eH,cm,cf],[dT],[],[],[]⟩<bL ⟨[],[v4],[x0,x1,x2],[A2],[],[],[]⟩))))))))))))))))))))))))))))))))))))))))) (
 ao (0<((4*x0) - ((4*x0) - 4))) (
 bH (x0 - 4) ((
 bH (4*(x0 - 4)) ((
 ao (0≤(4*(x0 - 4))) (
 ao ((4*(x0 - 4))<x2) (
 ∀_:Nat,ao (0≤x2) (
 gV ((x2+1)*1) (
 ∀_:V1,ao (1<((4*x0) - ((4*x0) - 4))) (
 bH ((4*(x0 - 4))+1) ((
 ao (0≤((4*(x0 - 4))+1)) (
 ao (((4*(x0 - 4))+1)<(x2+1)) (
 ∀_:Nat,ao (0≤(x2+1)) (
 ao ((((x2+1)+1)*1)≤140737488355328) (
 ∀_:V1,ao (2<((4*x0) - ((4*x0) - 4))) (
 bH ((4*(x0 - 4))+2) ((
 ao (0≤((4*(x0 - 4))+2)) (
 ao (((4*(x0 - 4))+2)<((x2+1)+1)) (
 ∀_:Nat,ao (0≤((x2+1)+1)) (
 ao (((((x2+1)+1)+1)*1)≤140737488355328) (
 ∀_:V1,ao (3<((4*x0) - ((4*x0) - 4))) (
 bH ((4*(x0 - 4))+3) ((
 ao (0≤((4*(x0 - 4))+3)) (
 ao (((4*(x0 - 4))+3)<(((x2+1)+1)+1)) (
 ∀_:Nat,ao (0≤(((x2+1)+1)+1)) (
 ao ((((((x2+1)+1)+1)+1)*1)≤140737488355328) (
 ∀v10:V1,bH (x0+1) ((
 ∃(lL:V1) (eH cm cf:Int) (dT:Nat→Int),eH=(x0+1)∧cm=x1∧lL=v10∧lL=v10∧cf=((((x2+1)+1)+1)+1)∧(∀j,j<(ag cf)→dT j=(aq (aq (aq (aq A2 (ag x2) (ak .ay .u8 ((aA A2 (ag ((4*x0) - 4))) 0) (A2 (ag (4*(x0 - 4)))))) (ag (x2+1)) (ak .ay .u8 ((aA A2 (ag ((4*x0) - 4))) 1) ((aq A2 (ag x2) (ak .ay .u8 ((aA A2 (ag ((4*x0) - 4))) 0) (A2 (ag (4*(x0 - 4)))))) (ag ((4*(x0 - 4))+1))))) (ag ((x2+1)+1)) (ak .ay .u8 ((aA A2 (ag ((4*x0) - 4))) 2) ((aq (aq A2 (ag x2) (ak .ay .u8 ((aA A2 (ag ((4*x0) - 4))) 0) (A2 (ag (4*(x0 - 4)))))) (ag (x2+1)) (ak .ay .u8 ((aA A2 (ag ((4*x0) - 4))) 1) ((aq A2 (ag x2) (ak .ay .u8 ((aA A2 (ag ((4*x0) - 4))) 0) (A2 (ag (4*(x0 - 4)))))) (ag ((4*(x0 - 4))+1))))) (ag ((4*(x0 - 4))+2))))) (ag (((x2+1)+1)+1)) (ak .ay .u8 ((aA A2 (ag ((4*x0) - 4))) 3) ((aq (aq (aq A2 (ag x2) (ak .ay .u8 ((aA A2 (ag ((4*x0) - 4))) 0) (A2 (ag (4*(x0 - 4)))))) (ag (x2+1)) (ak .ay .u8 ((aA A2 (ag ((4*x0) - 4))) 1) ((aq A2 (ag x2) (ak .ay .u8 ((aA A2 (ag ((4*x0) - 4))) 0) (A2 (ag (4*(x0 - 4)))))) (ag ((4*(x0 - 4))+1))))) (ag ((x2+1)+1)) (ak .ay .u8 ((aA A2 (ag ((4*x0) - 4))) 2) ((aq (aq A2 (ag x2) (ak .ay .u8 ((aA A2 (ag ((4*x0) - 4))) 0) (A2 (ag (4*(x0 - 4)))))) (ag (x2+1)) (ak .ay .u8 ((aA A2 (ag ((4*x0) - 4))) 1) ((aq A2 (ag x2) (ak .ay .u8 ((aA A2 (ag ((4*x0) - 4))) 0) (A2 (ag (4*(x0 - 4)))))) (ag ((4*(x0 - 4))+1))))) (ag ((4*(x0 - 4))+2))))) (ag ((4*(x0 - 4))+3))))) j)∧bE ⟨[],[lL],[eH,cm,cf],[dT],[],[],[]⟩∧bL ⟨[],[lL],[eH,cm,cf],[dT],[],[],[]⟩<bL ⟨[],[v4],[x0,x1,x2],[A2],[],[],[]⟩)))))))))))))))))))))))))))))))))))))))))))) (
 ar (v4.v) [bn false v0 256 A0,bn false v1 16 A1,bo v4 x2 A2])
theorem I9(ar:PT)(A0 A1:Nat→Int)(v0 v1:V1)(h:zM ar A0 A1 v0 v1):aw ae0 99 [v0.v,v1.v] [bn false v0 256 A0,bn false v1 16 A1] ar:=
 mK (C:=Fj.cx) [.vv 0,.vv 1] [.bC false 0 5 1 (.lit 256) [⟨.int .u8,1,.aL 0⟩],.bC false 1 5 1 (.lit 16) [⟨.int .u8,1,.aL 1⟩]] ⟨0,2,0,2,0,0,0⟩ ⟨[],[A0,A1],[],[],[v0,v1],[],[],[]⟩ 2 1 Tryz.func99 (by kernel_rfl) h
def zN(ar:PT)(A0 A1:Nat→Int)(v0 v1:V1):Prop:=
 ∀_ v3:V1,∃(bE:Ext→Prop) (bL:Ext→Nat),(∃(v4:V1) (x0 x1 x2:Int) (A2:Nat→Int),x0=8∧x1=1∧v4=v3∧v4=v3∧x2=32∧(∀j,j<(ag x2)→A2 j=A1 j)∧bE ⟨[],[v4],[x0,x1,x2],[A2],[],[],[]⟩)∧
 ∀(v4:V1) (x0 x1 x2:Int) (A2:Nat→Int),bE ⟨[],[v4],[x0,x1,x2],[A2],[],[],[]⟩→
 aR (x0<60) (
 ∀_:V1,bH (4*x0) ((
 bH ((4*x0) - 4) ((
 ao (0≤((4*x0) - 4)) (
 ao (((4*x0) - 4)≤(4*x0)) (
 ao ((4*x0)≤x2) (
 ao (0≤((4*x0) - ((4*x0) - 4))) (
 ao (0≤((4*x0) - ((4*x0) - 4))) (
 ao (((4*x0) - ((4*x0) - 4))≤140737488355328) (
 ∀_:V1,aR ((ak .rem .i64 x0 8)=0) (
 ao (1<((4*x0) - ((4*x0) - 4))) (
 ao (0≤((aA A2 (ag ((4*x0) - 4))) 1)) (
 ao (((aA A2 (ag ((4*x0) - 4))) 1)<256) (
 ao (2<((4*x0) - ((4*x0) - 4))) (
 ao (0≤((aA A2 (ag ((4*x0) - 4))) 2)) (
 ao (((aA A2 (ag ((4*x0) - 4))) 2)<256) (
 ao (3<((4*x0) - ((4*x0) - 4))) (
 ao (0≤((aA A2 (ag ((4*x0) - 4))) 3)) (
 ao (((aA A2 (ag ((4*x0) - 4))) 3)<256) (
 ao (0<((4*x0) - ((4*x0) - 4))) (
 ao (0≤((aA A2 (ag ((4*x0) - 4))) 0)) (
 ao (((aA A2 (ag ((4*x0) - 4))) 0)<256) (
 ∀_:Nat,Cl 119 [.int .u8 x1,.int .u8 2] [] fun x hs _=> ∃x3:Int,x= .int .u8 x3∧hs=[]∧
 bH (x0 - 8) ((
 bH (4*(x0 - 8)) ((
 ao (0≤(4*(x0 - 8))) (
 ao ((4*(x0 - 8))<x2) (
 ∀_:Nat,ao (0≤x2) (
 gV ((x2+1)*1) (
 ∀_:V1,bH ((4*(x0 - 8))+1) ((
 ao (0≤((4*(x0 - 8))+1)) (
 ao (((4*(x0 - 8))+1)<(x2+1)) (
 ∀_:Nat,ao (0≤(x2+1)) (
 ao ((((x2+1)+1)*1)≤140737488355328) (
 ∀_:V1,bH ((4*(x0 - 8))+2) ((
 ao (0≤((4*(x0 - 8))+2)) (
 ao (((4*(x0 - 8))+2)<((x2+1)+1)) (
 ∀_:Nat,ao (0≤((x2+1)+1)) (
 ao (((((x2+1)+1)+1)*1)≤140737488355328) (
 ∀_:V1,bH ((4*(x0 - 8))+3) ((
 ao (0≤((4*(x0 - 8))+3)) (
 ao (((4*(x0 - 8))+3)<(((x2+1)+1)+1)) (
 ∀_:Nat,ao (0≤(((x2+1)+1)+1)) (
 ao ((((((x2+1)+1)+1)+1)*1)≤140737488355328) (
 ∀v10:V1,bH (x0+1) ((
 ∃(lL:V1) (eH cm cf:Int) (dT:Nat→Int),eH=(x0+1)∧cm=x3∧lL=v10∧lL=v10∧cf=((((x2+1)+1)+1)+1)∧(∀j,j<(ag cf)→dT j=(aq (aq (aq (aq A2 (ag x2) (ak .ay .u8 (ak .ay .u8 (A0 (ag ((aA A2 (ag ((4*x0) - 4))) 1))) x1) (A2 (ag (4*(x0 - 8)))))) (ag (x2+1)) (ak .ay .u8 (A0 (ag ((aA A2 (ag ((4*x0) - 4))) 2))) ((aq A2 (ag x2) (ak .ay .u8 (ak .ay .u8 (A0 (ag ((aA A2 (ag ((4*x0) - 4))) 1))) x1) (A2 (ag (4*(x0 - 8)))))) (ag ((4*(x0 - 8))+1))))) (ag ((x2+1)+1)) (ak .ay .u8 (A0 (ag ((aA A2 (ag ((4*x0) - 4))) 3))) ((aq (aq A2 (ag x2) (ak .ay .u8 (ak .ay .u8 (A0 (ag ((aA A2 (ag ((4*x0) - 4))) 1))) x1) (A2 (ag (4*(x0 - 8)))))) (ag (x2+1)) (ak .ay .u8 (A0 (ag ((aA A2 (ag ((4*x0) - 4))) 2))) ((aq A2 (ag x2) (ak .ay .u8 (ak .ay .u8 (A0 (ag ((aA A2 (ag ((4*x0) - 4))) 1))) x1) (A2 (ag (4*(x0 - 8)))))) (ag ((4*(x0 - 8))+1))))) (ag ((4*(x0 - 8))+2))))) (ag (((x2+1)+1)+1)) (ak .ay .u8 (A0 (ag ((aA A2 (ag ((4*x0) - 4))) 0))) ((aq (aq (aq A2 (ag x2) (ak .ay .u8 (ak .ay .u8 (A0 (ag ((aA A2 (ag ((4*x0) - 4))) 1))) x1) (A2 (ag (4*(x0 - 8)))))) (ag (x2+1)) (ak .ay .u8 (A0 (ag ((aA A2 (ag ((4*x0) - 4))) 2))) ((aq A2 (ag x2) (ak .ay .u8 (ak .ay .u8 (A0 (ag ((aA A2 (ag ((4*x0) - 4))) 1))) x1) (A2 (ag (4*(x0 - 8)))))) (ag ((4*(x0 - 8))+1))))) (ag ((x2+1)+1)) (ak .ay .u8 (A0 (ag ((aA A2 (ag ((4*x0) - 4))) 3))) ((aq (aq A2 (ag x2) (ak .ay .u8 (ak .ay .u8 (A0 (ag ((aA A2 (ag ((4*x0) - 4))) 1))) x1) (A2 (ag (4*(x0 - 8)))))) (ag (x2+1)) (ak .ay .u8 (A0 (ag ((aA A2 (ag ((4*x0) - 4))) 2))) ((aq A2 (ag x2) (ak .ay .u8 (ak .ay .u8 (A0 (ag ((aA A2 (ag ((4*x0) - 4))) 1))) x1) (A2 (ag (4*(x0 - 8)))))) (ag ((4*(x0 - 8))+1))))) (ag ((4*(x0 - 8))+2))))) (ag ((4*(x0 - 8))+3))))) j)∧bE ⟨[],[lL],[eH,cm,cf],[dT],[],[],[]⟩∧bL ⟨[],[lL],[eH,cm,cf],[dT],[],[],[]⟩<bL ⟨[],[v4],[x0,x1,x2],[A2],[],[],[]⟩))))))))))))))))))))))))))))))))))))))))) (
 aR ((ak .rem .i64 x0 8)=4) (
 ao (0<((4*x0) - ((4*x0) - 4))) (
 ao (0≤((aA A2 (ag ((4*x0) - 4))) 0)) (
 ao (((aA A2 (ag ((4*x0) - 4))) 0)<256) (
 ao (1<((4*x0) - ((4*x0) - 4))) (
 ao (0≤((aA A2 (ag ((4*x0) - 4))) 1)) (
 ao (((aA A2 (ag ((4*x0) - 4))) 1)<256) (
 ao (2<((4*x0) - ((4*x0) - 4))) (
 ao (0≤((aA A2 (ag ((4*x0) - 4))) 2)) (
 ao (((aA A2 (ag ((4*x0) - 4))) 2)<256) (
 ao (3<((4*x0) - ((4*x0) - 4))) (
 ao (0≤((aA A2 (ag ((4*x0) - 4))) 3)) (
 ao (((aA A2 (ag ((4*x0) - 4))) 3)<256) (
 ∀_:Nat,bH (x0 - 8) ((
 bH (4*(x0 - 8)) ((
 ao (0≤(4*(x0 - 8))) (
 ao ((4*(x0 - 8))<x2) (
 ∀_:Nat,ao (0≤x2) (
 gV ((x2+1)*1) (
 ∀_:V1,bH ((4*(x0 - 8))+1) ((
 ao (0≤((4*(x0 - 8))+1)) (
 ao (((4*(x0 - 8))+1)<(x2+1)) (
 ∀_:Nat,ao (0≤(x2+1)) (
 ao ((((x2+1)+1)*1)≤140737488355328) (
 ∀_:V1,bH ((4*(x0 - 8))+2) ((
 ao (0≤((4*(x0 - 8))+2)) (
 ao (((4*(x0 - 8))+2)<((x2+1)+1)) (
 ∀_:Nat,ao (0≤((x2+1)+1)) (
 ao (((((x2+1)+1)+1)*1)≤140737488355328) (
 ∀_:V1,bH ((4*(x0 - 8))+3) ((
 ao (0≤((4*(x0 - 8))+3)) (
 ao (((4*(x0 - 8))+3)<(((x2+1)+1)+1)) (
 ∀_:Nat,ao (0≤(((x2+1)+1)+1)) (
 ao ((((((x2+1)+1)+1)+1)*1)≤140737488355328) (
 ∀v10:V1,bH (x0+1) ((
 ∃(lL:V1) (eH cm cf:Int) (dT:Nat→Int),eH=(x0+1)∧cm=x1∧lL=v10∧lL=v10∧cf=((((x2+1)+1)+1)+1)∧(∀j,j<(ag cf)→dT j=(aq (aq (aq (aq A2 (ag x2) (ak .ay .u8 (A0 (ag ((aA A2 (ag ((4*x0) - 4))) 0))) (A2 (ag (4*(x0 - 8)))))) (ag (x2+1)) (ak .ay .u8 (A0 (ag ((aA A2 (ag ((4*x0) - 4))) 1))) ((aq A2 (ag x2) (ak .ay .u8 (A0 (ag ((aA A2 (ag ((4*x0) - 4))) 0))) (A2 (ag (4*(x0 - 8)))))) (ag ((4*(x0 - 8))+1))))) (ag ((x2+1)+1)) (ak .ay .u8 (A0 (ag ((aA A2 (ag ((4*x0) - 4))) 2))) ((aq (aq A2 (ag x2) (ak .ay .u8 (A0 (ag ((aA A2 (ag ((4*x0) - 4))) 0))) (A2 (ag (4*(x0 - 8)))))) (ag (x2+1)) (ak .ay .u8 (A0 (ag ((aA A2 (ag ((4*x0) - 4))) 1))) ((aq A2 (ag x2) (ak .ay .u8 (A0 (ag ((aA A2 (ag ((4*x0) - 4))) 0))) (A2 (ag (4*(x0 - 8)))))) (ag ((4*(x0 - 8))+1))))) (ag ((4*(x0 - 8))+2))))) (ag (((x2+1)+1)+1)) (ak .ay .u8 (A0 (ag ((aA A2 (ag ((4*x0) - 4))) 3))) ((aq (aq (aq A2 (ag x2) (ak .ay .u8 (A0 (ag ((aA A2 (ag ((4*x0) - 4))) 0))) (A2 (ag (4*(x0 - 8)))))) (ag (x2+1)) (ak .ay .u8 (A0 (ag ((aA A2 (ag ((4*x0) - 4))) 1))) ((aq A2 (ag x2) (ak .ay .u8 (A0 (ag ((aA A2 (ag ((4*x0) - 4))) 0))) (A2 (ag (4*(x0 - 8)))))) (ag ((4*(x0 - 8))+1))))) (ag ((x2+1)+1)) (ak .ay .u8 (A0 (ag ((aA A2 (ag ((4*x0) - 4))) 2))) ((aq (aq A2 (ag x2) (ak .ay .u8 (A0 (ag ((aA A2 (ag ((4*x0) - 4))) 0))) (A2 (ag (4*(x0 - 8)))))) (ag (x2+1)) (ak .ay .u8 (A0 (ag ((aA A2 (ag ((4*x0) - 4))) 1))) ((aq A2 (ag x2) (ak .ay .u8 (A0 (ag ((aA A2 (ag ((4*x0) - 4))) 0))) (A2 (ag (4*(x0 - 8)))))) (ag ((4*(x0 - 8))+1))))) (ag ((4*(x0 - 8))+2))))) (ag ((4*(x0 - 8))+3))))) j)∧bE ⟨[],[lL],[eH,cm,cf],[dT],[],[],[]⟩∧bL ⟨[],[lL],[eH,cm,cf],[dT],[],[],[]⟩<bL ⟨[],[v4],[x0,x1,x2],[A2],[],[],[]⟩))))))))))))))))))))))))))))))))))))))))) (
 ao (0<((4*x0) - ((4*x0) - 4))) (
 bH (x0 - 8) ((
 bH (4*(x0 - 8)) ((
 ao (0≤(4*(x0 - 8))) (
 ao ((4*(x0 - 8))<x2) (
 ∀_:Nat,ao (0≤x2) (
 gV ((x2+1)*1) (
 ∀_:V1,ao (1<((4*x0) - ((4*x0) - 4))) (
 bH ((4*(x0 - 8))+1) ((
 ao (0≤((4*(x0 - 8))+1)) (
 ao (((4*(x0 - 8))+1)<(x2+1)) (
 ∀_:Nat,ao (0≤(x2+1)) (
 ao ((((x2+1)+1)*1)≤140737488355328) (
 ∀_:V1,ao (2<((4*x0) - ((4*x0) - 4))) (
 bH ((4*(x0 - 8))+2) ((
 ao (0≤((4*(x0 - 8))+2)) (
 ao (((4*(x0 - 8))+2)<((x2+1)+1)) (
 ∀_:Nat,ao (0≤((x2+1)+1)) (
 ao (((((x2+1)+1)+1)*1)≤140737488355328) (
 ∀_:V1,ao (3<((4*x0) - ((4*x0) - 4))) (
 bH ((4*(x0 - 8))+3) ((
 ao (0≤((4*(x0 - 8))+3)) (
 ao (((4*(x0 - 8))+3)<(((x2+1)+1)+1)) (
 ∀_:Nat,ao (0≤(((x2+1)+1)+1)) (
 ao ((((((x2+1)+1)+1)+1)*1)≤140737488355328) (
 ∀v10:V1,bH (x0+1) ((
 ∃(lL:V1) (eH cm cf:Int) (dT:Nat→Int),eH=(x0+1)∧cm=x1∧lL=v10∧lL=v10∧cf=((((x2+1)+1)+1)+1)∧(∀j,j<(ag cf)→dT j=(aq (aq (aq (aq A2 (ag x2) (ak .ay .u8 ((aA A2 (ag ((4*x0) - 4))) 0) (A2 (ag (4*(x0 - 8)))))) (ag (x2+1)) (ak .ay .u8 ((aA A2 (ag ((4*x0) - 4))) 1) ((aq A2 (ag x2) (ak .ay .u8 ((aA A2 (ag ((4*x0) - 4))) 0) (A2 (ag (4*(x0 - 8)))))) (ag ((4*(x0 - 8))+1))))) (ag ((x2+1)+1)) (ak .ay .u8 ((aA A2 (ag ((4*x0) - 4))) 2) ((aq (aq A2 (ag x2) (ak .ay .u8 ((aA A2 (ag ((4*x0) - 4))) 0) (A2 (ag (4*(x0 - 8)))))) (ag (x2+1)) (ak .ay .u8 ((aA A2 (ag ((4*x0) - 4))) 1) ((aq A2 (ag x2) (ak .ay .u8 ((aA A2 (ag ((4*x0) - 4))) 0) (A2 (ag (4*(x0 - 8)))))) (ag ((4*(x0 - 8))+1))))) (ag ((4*(x0 - 8))+2))))) (ag (((x2+1)+1)+1)) (ak .ay .u8 ((aA A2 (ag ((4*x0) - 4))) 3) ((aq (aq (aq A2 (ag x2) (ak .ay .u8 ((aA A2 (ag ((4*x0) - 4))) 0) (A2 (ag (4*(x0 - 8)))))) (ag (x2+1)) (ak .ay .u8 ((aA A2 (ag ((4*x0) - 4))) 1) ((aq A2 (ag x2) (ak .ay .u8 ((aA A2 (ag ((4*x0) - 4))) 0) (A2 (ag (4*(x0 - 8)))))) (ag ((4*(x0 - 8))+1))))) (ag ((x2+1)+1)) (ak .ay .u8 ((aA A2 (ag ((4*x0) - 4))) 2) ((aq (aq A2 (ag x2) (ak .ay .u8 ((aA A2 (ag ((4*x0) - 4))) 0) (A2 (ag (4*(x0 - 8)))))) (ag (x2+1)) (ak .ay .u8 ((aA A2 (ag ((4*x0) - 4))) 1) ((aq A2 (ag x2) (ak .ay .u8 ((aA A2 (ag ((4*x0) - 4))) 0) (A2 (ag (4*(x0 - 8)))))) (ag ((4*(x0 - 8))+1))))) (ag ((4*(x0 - 8))+2))))) (ag ((4*(x0 - 8))+3))))) j)∧bE ⟨[],[lL],[eH,cm,cf],[dT],[],[],[]⟩∧bL ⟨[],[lL],[eH,cm,cf],[dT],[],[],[]⟩<bL ⟨[],[v4],[x0,x1,x2],[A2],[],[],[]⟩))))))))))))))))))))))))))))))))))))))))))))) (
 ar (v4.v) [bn false v0 256 A0,bn false v1 32 A1,bo v4 x2 A2])
theorem I_(ar:PT)(A0 A1:Nat→Int)(v0 v1:V1)(h:zN ar A0 A1 v0 v1):aw ae0 99 [v0.v,v1.v] [bn false v0 256 A0,bn false v1 32 A1] ar:=
 mK (C:=Fj.cx) [.vv 0,.vv 1] [.bC false 0 5 1 (.lit 256) [⟨.int .u8,1,.aL 0⟩],.bC false 1 5 1 (.lit 32) [⟨.int .u8,1,.aL 1⟩]] ⟨0,2,0,2,0,0,0⟩ ⟨[],[A0,A1],[],[],[v0,v1],[],[],[]⟩ 0 3 Tryz.func99 (by kernel_rfl) h
def rV(ar:PT)(x0:Int)(A0 A1 A2:Nat→Int)(_ _ v2:V1):Prop:=
 ao (0≤x0) (
 bH ((ae .i64 (ak .quo .i64 x0 16)) - 1) ((
 ∀v3:V1,∃(bE:Ext→Prop) (bL:Ext→Nat),(∃(x1:Int) (A3:Nat→Int),x1=0∧(∀j,j<16→A3 j=(fun _=>0) j)∧bE ⟨[],[],[x1],[A3],[],[],[]⟩)∧
 ∀(x1:Int) (A3:Nat→Int),bE ⟨[],[],[x1],[A3],[],[],[]⟩→
 aR (x1<16) (
 ao (0≤x1) (
 ao (x1<x0) (
 bH (x1+1) ((
 ∃(cm:Int) (kW:Nat→Int),cm=(x1+1)∧(∀j,j<16→kW j=(aq A3 (ag x1) (ak .ay .u8 (A2 (ag x1)) (A1 (ag x1)))) j)∧bE ⟨[],[],[cm],[kW],[],[],[]⟩∧bL ⟨[],[],[cm],[kW],[],[],[]⟩<bL ⟨[],[],[x1],[A3],[],[],[]⟩))))) (
 ∃(iT:Ext→Prop) (kB:Ext→Nat),(∃(x2:Int) (A4:Nat→Int),x2=1∧(∀j,j<16→A4 j=A3 j)∧iT ⟨[],[],[x2],[A4],[],[],[]⟩)∧
 ∀(x2:Int) (A4:Nat→Int),iT ⟨[],[],[x2],[A4],[],[],[]⟩→
 aR (x2≤((ae .i64 (ak .quo .i64 x0 16)) - 1)) (
 ∀_:V1,∃(FK:Ext→Prop) (Ll:Ext→Nat),(∃(x3:Int) (A5:Nat→Int),x3=0∧(∀j,j<16→A5 j=(fun _=>0) j)∧FK ⟨[],[],[x3],[A5],[],[],[]⟩)∧
 ∀(x3:Int) (A5:Nat→Int),FK ⟨[],[],[x3],[A5],[],[],[]⟩→
 aR (x3<16) (
 bH (4*(ak .rem .i64 x3 4)) ((
 bH (x3+(4*(ak .rem .i64 x3 4))) ((
 ao (0≤(ak .rem .i64 (x3+(4*(ak .rem .i64 x3 4))) 16)) (
 ao ((ak .rem .i64 (x3+(4*(ak .rem .i64 x3 4))) 16)<16) (
 ao (0≤(A4 (ag (ak .rem .i64 (x3+(4*(ak .rem .i64 x3 4))) 16)))) (
 ao ((A4 (ag (ak .rem .i64 (x3+(4*(ak .rem .i64 x3 4))) 16)))<256) (
 ao (0≤x3) (
 bH (x3+1) ((
 ∃(dt:Int) (qX:Nat→Int),dt=(x3+1)∧(∀j,j<16→qX j=(aq A5 (ag x3) (A0 (ag (A4 (ag (ak .rem .i64 (x3+(4*(ak .rem .i64 x3 4))) 16)))))) j)∧FK ⟨[],[],[dt],[qX],[],[],[]⟩∧Ll ⟨[],[],[dt],[qX],[],[],[]⟩<Ll ⟨[],[],[x3],[A5],[],[],[]⟩)))))))))))) (
 ∃(ou:Ext→Prop) (qB:Ext→Nat),(∃(x4:Int) (A6:Nat→Int),x4=0∧(∀j,j<16→A6 j=A4 j)∧ou ⟨[],[],[x4],[A6],[],[],[]⟩)∧
 ∀(x4:Int) (A6:Nat→Int),ou ⟨[],[],[x4],[A6],[],[],[]⟩→
 aR (x4<16) (
 bH ((ae .i64 (ak .quo .i64 x4 4))*4) ((
 ao (0≤x4) (
 bH (x4+1) ((
 bH (((ae .i64 (ak .quo .i64 x4 4))*4)+(ak .rem .i64 (x4+1) 4)) ((
 ao (0≤(((ae .i64 (ak .quo .i64 x4 4))*4)+(ak .rem .i64 (x4+1) 4))) (
 ao ((((ae .i64 (ak .quo .i64 x4 4))*4)+(ak .rem .i64 (x4+1) 4))<16) (
 bH (x4+2) ((
 bH (((ae .i64 (ak .quo .i64 x4 4))*4)+(ak .rem .i64 (x4+2) 4)) ((
 ao (0≤(((ae .i64 (ak .quo .i64 x4 4))*4)+(ak .rem .i64 (x4+2) 4))) (
 ao ((((ae .i64 (ak .quo .i64 x4 4))*4)+(ak .rem .i64 (x4+2) 4))<16) (
 bH (x4+3) ((
 bH (((ae .i64 (ak .quo .i64 x4 4))*4)+(ak .rem .i64 (x4+3) 4)) ((
 ao (0≤(((ae .i64 (ak .quo .i64 x4 4))*4)+(ak .rem .i64 (x4+3) 4))) (
 ao ((((ae .i64 (ak .quo .i64 x4 4))*4)+(ak .rem .i64 (x4+3) 4))<16) (
 aR (x2<((ae .i64 (ak .quo .i64 x0 16)) - 1)) (
 Cl 119 [.int .u8 (A5 (ag x4)),.int .u8 2] [] fun x hs _=> ∃x5:Int,x= .int .u8 x5∧hs=[]∧
 Cl 119 [.int .u8 (A5 (ag (((ae .i64 (ak .quo .i64 x4 4))*4)+(ak .rem .i64 (x4+1) 4)))),.int .u8 3] [] fun x hs _=> ∃x6:Int,x= .int .u8 x6∧hs=[]∧
 bH (16*x2) ((
 bH ((16*x2)+x4) ((
 ao (0≤((16*x2)+x4)) (
 ao (((16*x2)+x4)<x0) (
 ∃(dc:Int) (wR:Nat→Int),dc=(x4+1)∧(∀j,j<16→wR j=(aq A6 (ag x4) (ak .ay .u8 (ak .ay .u8 (ak .ay .u8 (ak .ay .u8 x5 x6) (A5 (ag (((ae .i64 (ak .quo .i64 x4 4))*4)+(ak .rem .i64 (x4+2) 4))))) (A5 (ag (((ae .i64 (ak .quo .i64 x4 4))*4)+(ak .rem .i64 (x4+3) 4))))) (A1 (ag ((16*x2)+x4))))) j)∧ou ⟨[],[],[dc],[wR],[],[],[]⟩∧qB ⟨[],[],[dc],[wR],[],[],[]⟩<qB ⟨[],[],[x4],[A6],[],[],[]⟩))))))) (
 bH (16*x2) ((
 bH ((16*x2)+x4) ((
 ao (0≤((16*x2)+x4)) (
 ao (((16*x2)+x4)<x0) (
 ∃(dc:Int) (wR:Nat→Int),dc=(x4+1)∧(∀j,j<16→wR j=(aq A6 (ag x4) (ak .ay .u8 (A5 (ag x4)) (A1 (ag ((16*x2)+x4))))) j)∧ou ⟨[],[],[dc],[wR],[],[],[]⟩∧qB ⟨[],[],[dc],[wR],[],[],[]⟩<qB ⟨[],[],[x4],[A6],[],[],[]⟩))))))))))))))))))))))))))))) (
 bH (x2+1) ((
 ∃(cf:Int) (oR:Nat→Int),cf=(x2+1)∧(∀j,j<16→oR j=A6 j)∧iT ⟨[],[],[cf],[oR],[],[],[]⟩∧kB ⟨[],[],[cf],[oR],[],[],[]⟩<kB ⟨[],[],[x2],[A4],[],[],[]⟩))))) (
 ar (v3.v) [bn false v2 16 A2,bn true v3 16 A4])))))
theorem OZ(ar:PT)(x0:Int)(A0 A1 A2:Nat→Int)(v0 v1 v2:V1)(h:rV ar x0 A0 A1 A2 v0 v1 v2):aw ae0 124 [v0.v,v1.v,v2.v] [bn false v0 256 A0,bi v1 x0 A1,bn false v2 16 A2] ar:=
 mK (C:=Fj.cx) [.vv 0,.vv 1,.vv 2] [.bC false 0 5 1 (.lit 256) [⟨.int .u8,1,.aL 0⟩],.bC false 1 5 1 (.var 0) [⟨.int .u8,1,.aL 1⟩],.bC false 2 5 1 (.lit 16) [⟨.int .u8,1,.aL 2⟩]] ⟨0,3,1,3,0,0,0⟩ ⟨[x0],[A0,A1,A2],[],[],[v0,v1,v2],[],[],[]⟩ 0 2 Tryz.func124 (by kernel_rfl) h
def rW(ar:PT)(A0:Nat→Int)(_:V1):Prop:=
 ∀(_ _:V1) (b0:Nat) (v3:V1),ar (v3.v) [bn true v3 16 (aI A0 12 4 (aq (aq (aq (aq (fun _=>0) 0 (ae .u8 (ae .u64 (ak .quo .u64 (ak .rem .u64 (ae .u64 ((ae .u64 ((ae .u64 (256*(ae .u64 ((ae .u64 (256*(ae .u64 ((ae .u64 (256*(ae .u64 (ae .u64 (A0 12)))))+(ae .u64 (A0 13))))))+(ae .u64 (A0 14))))))+(ae .u64 (A0 15))))+1)) 4294967296) 16777216)))) 1 (ae .u8 (ak .rem .u64 (ae .u64 (ak .quo .u64 (ak .rem .u64 (ae .u64 ((ae .u64 ((ae .u64 (256*(ae .u64 ((ae .u64 (256*(ae .u64 ((ae .u64 (256*(ae .u64 (ae .u64 (A0 12)))))+(ae .u64 (A0 13))))))+(ae .u64 (A0 14))))))+(ae .u64 (A0 15))))+1)) 4294967296) 65536)) 256))) 2 (ae .u8 (ak .rem .u64 (ae .u64 (ak .quo .u64 (ak .rem .u64 (ae .u64 ((ae .u64 ((ae .u64 (256*(ae .u64 ((ae .u64 (256*(ae .u64 ((ae .u64 (256*(ae .u64 (ae .u64 (A0 12)))))+(ae .u64 (A0 13))))))+(ae .u64 (A0 14))))))+(ae .u64 (A0 15))))+1)) 4294967296) 256)) 256))) 3 (ae .u8 (ak .rem .u64 (ak .rem .u64 (ae .u64 ((ae .u64 ((ae .u64 (256*(ae .u64 ((ae .u64 (256*(ae .u64 ((ae .u64 (256*(ae .u64 (ae .u64 (A0 12)))))+(ae .u64 (A0 13))))))+(ae .u64 (A0 14))))))+(ae .u64 (A0 15))))+1)) 4294967296) 256)))),ax b0 true ([.int .u8 (ae .u8 (ae .u64 (ak .quo .u64 (ak .rem .u64 (ae .u64 ((ae .u64 ((ae .u64 (256*(ae .u64 ((ae .u64 (256*(ae .u64 ((ae .u64 (256*(ae .u64 (ae .u64 (A0 12)))))+(ae .u64 (A0 13))))))+(ae .u64 (A0 14))))))+(ae .u64 (A0 15))))+1)) 4294967296) 16777216))),.int .u8 (ae .u8 (ak .rem .u64 (ae .u64 (ak .quo .u64 (ak .rem .u64 (ae .u64 ((ae .u64 ((ae .u64 (256*(ae .u64 ((ae .u64 (256*(ae .u64 ((ae .u64 (256*(ae .u64 (ae .u64 (A0 12)))))+(ae .u64 (A0 13))))))+(ae .u64 (A0 14))))))+(ae .u64 (A0 15))))+1)) 4294967296) 65536)) 256)),.int .u8 (ae .u8 (ak .rem .u64 (ae .u64 (ak .quo .u64 (ak .rem .u64 (ae .u64 ((ae .u64 ((ae .u64 (256*(ae .u64 ((ae .u64 (256*(ae .u64 ((ae .u64 (256*(ae .u64 (ae .u64 (A0 12)))))+(ae .u64 (A0 13))))))+(ae .u64 (A0 14))))))+(ae .u64 (A0 15))))+1)) 4294967296) 256)) 256)),.int .u8 (ae .u8 (ak .rem .u64 (ak .rem .u64 (ae .u64 ((ae .u64 ((ae .u64 (256*(ae .u64 ((ae .u64 (256*(ae .u64 ((ae .u64 (256*(ae .u64 (ae .u64 (A0 12)))))+(ae .u64 (A0 13))))))+(ae .u64 (A0 14))))))+(ae .u64 (A0 15))))+1)) 4294967296) 256))])]
theorem O0(ar:PT)(A0:Nat→Int)(v0:V1)(h:rW ar A0 v0):aw ae0 126 [v0.v] [bn false v0 16 A0] ar:=
 mK (C:=Fj.cx) [.vv 0] [.bC false 0 5 1 (.lit 16) [⟨.int .u8,1,.aL 0⟩]] ⟨0,1,0,1,0,0,0⟩ ⟨[],[A0],[],[],[v0],[],[],[]⟩ 0 2 Tryz.func126 (by kernel_rfl) h
def rX(ar:PT)(x0 x1:Int)(A0 A1 A2 A3:Nat→Int)(v0 v1 v2 v3:V1):Prop:=
 ∀_ v5:V1,∃(bE:Ext→Prop) (bL:Ext→Nat),(∃(v8 v9 v10:V1) (x2 x3 x4:Int) (A4 A5 A6:Nat→Int),x2=0∧v8=v5∧v9=(⟨.slice none 0 0,rfl⟩:V1)∧v10=(⟨.slice none 0 0,rfl⟩:V1)∧v8=v5∧(∀j,j<16→A4 j=A2 j)∧v9=(⟨.slice none 0 0,rfl⟩:V1)∧x3=0∧(∀j,j<(ag x3)→A5 j=(fun _=>0) j)∧v10=(⟨.slice none 0 0,rfl⟩:V1)∧x4=0∧(∀j,j<(ag x4)→A6 j=(fun _=>0) j)∧bE ⟨[],[v8,v9,v10],[x2,x3,x4],[A4,A5,A6],[],[],[]⟩)∧
 ∀(v8 v9 v10:V1) (x2 x3 x4:Int) (A4 A5 A6:Nat→Int),bE ⟨[],[v8,v9,v10],[x2,x3,x4],[A4,A5,A6],[],[],[]⟩→
 ao (0≤x1) (
 aR (x2<x1) (
 aR ((ak .rem .i64 x2 16)=0) (
 Cl 124 [v0.v,v1.v,v8.v] [bn false v0 256 A0,bi v1 x0 A1,bn true v8 16 A4] fun x hs l=> ∃(v11:V1) (A7:Nat→Int),x=v11.v∧hs=l++[bn true v11 16 A7]∧
 Cl 126 [v8.v] [bn true v8 16 A4] fun x hs l=> ∃(oL:V1) (A8:Nat→Int),x=oL.v∧hs=l++[bn true oL 16 A8]∧
 ao (0≤x2) (
 ao (0≤(ak .rem .i64 x2 16)) (
 ao ((ak .rem .i64 x2 16)<16) (
 ∀_:Nat,ao (0≤x3) (
 gV ((x3+1)*1) (
 ∀qp:V1,bH (x2+1) ((
 ∃(Ho Hp A_:V1) (cf dt dc:Int) (oR qX wR:Nat→Int),cf=(x2+1)∧Ho=oL∧Hp=qp∧A_=v11∧Ho=oL∧(∀j,j<16→oR j=A8 j)∧Hp=qp∧dt=(x3+1)∧(∀j,j<(ag dt)→qX j=(aq A5 (ag x3) (ak .ay .u8 (A3 (ag x2)) (A7 (ag (ak .rem .i64 x2 16))))) j)∧A_=v11∧dc=16∧(∀j,j<(ag dc)→wR j=A7 j)∧bE ⟨[],[Ho,Hp,A_],[cf,dt,dc],[oR,qX,wR],[],[],[]⟩∧bL ⟨[],[Ho,Hp,A_],[cf,dt,dc],[oR,qX,wR],[],[],[]⟩<bL ⟨[],[v8,v9,v10],[x2,x3,x4],[A4,A5,A6],[],[],[]⟩)))))))) (
 ao (0≤x2) (
 ao (0≤(ak .rem .i64 x2 16)) (
 ao ((ak .rem .i64 x2 16)<x4) (
 ∀_:Nat,ao (0≤x3) (
 gV ((x3+1)*1) (
 ∀v11:V1,bH (x2+1) ((
 ∃(Ho Hp A_:V1) (cf dt dc:Int) (oR qX wR:Nat→Int),cf=(x2+1)∧Ho=v8∧Hp=v11∧A_=v10∧Ho=v8∧(∀j,j<16→oR j=A4 j)∧Hp=v11∧dt=(x3+1)∧(∀j,j<(ag dt)→qX j=(aq A5 (ag x3) (ak .ay .u8 (A3 (ag x2)) (A6 (ag (ak .rem .i64 x2 16))))) j)∧A_=v10∧dc=x4∧(∀j,j<(ag dc)→wR j=A6 j)∧bE ⟨[],[Ho,Hp,A_],[cf,dt,dc],[oR,qX,wR],[],[],[]⟩∧bL ⟨[],[Ho,Hp,A_],[cf,dt,dc],[oR,qX,wR],[],[],[]⟩<bL ⟨[],[v8,v9,v10],[x2,x3,x4],[A4,A5,A6],[],[],[]⟩))))))))) (
 ar (v9.v) [bn false v0 256 A0,bi v1 x0 A1,bn false v2 16 A2,bi v3 x1 A3,bn true v8 16 A4,bo v9 x3 A5,bo v10 x4 A6]))
theorem O1(ar:PT)(x0 x1:Int)(A0 A1 A2 A3:Nat→Int)(v0 v1 v2 v3:V1)(h:rX ar x0 x1 A0 A1 A2 A3 v0 v1 v2 v3):aw ae0 102 [v0.v,v1.v,v2.v,v3.v] [bn false v0 256 A0,bi v1 x0 A1,bn false v2 16 A2,bi v3 x1 A3] ar:=
 mK (C:=Fj.cx) [.vv 0,.vv 1,.vv 2,.vv 3] [.bC false 0 5 1 (.lit 256) [⟨.int .u8,1,.aL 0⟩],.bC false 1 5 1 (.var 0) [⟨.int .u8,1,.aL 1⟩],.bC false 2 5 1 (.lit 16) [⟨.int .u8,1,.aL 2⟩],.bC false 3 5 1 (.var 1) [⟨.int .u8,1,.aL 3⟩]] ⟨0,4,2,4,0,0,0⟩ ⟨[x0,x1],[A0,A1,A2,A3],[],[],[v0,v1,v2,v3],[],[],[]⟩ 0 9 Tryz.func102 (by kernel_rfl) h
end Go.RX.Fj
