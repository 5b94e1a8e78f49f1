/- Frames. -/
import Derived.Test.YtmgbbbmdbpbeeaaGreatM24
open Go.IntKind renaming wrap → ae
open Go.Proofs.Tryz renaming prog → ae0
open Int renaming toNat → ag
namespace Go.RX.Fl
open Go.RX Go.Proofs Go.RX.Fe Go.RX.Fg Go.RX.Fi Go.RX.Fj Go.RX.Fk
noncomputable def cx:Ctx:={T:=TT,FT:=FT,loops:=Fl.loops,cq:=Fl.cq}
set_option maxRecDepth 100000
def zR(ar:PT)(x0:Int):Prop:=
 ∀(_:Nat) (v0:V1),∃(bE:Ext→Prop) (bL:Ext→Nat),(∃(v1:V1) (x1 x2:Int) (A0:Nat→Int),x1=(ae .u64 (ak .quo .u64 x0 256))∧v1=v0∧v1=v0∧x2=1∧(∀j,j<(ag x2)→A0 j=(fun _=>(ae .u8 (ak .rem .u64 x0 256))) j)∧bE ⟨[],[v1],[x1,x2],[A0],[],[],[]⟩)∧
 ∀(v1:V1) (x1 x2:Int) (A0:Nat→Int),bE ⟨[],[v1],[x1,x2],[A0],[],[],[]⟩→
 aR (0<x1) (
 ∀_:Nat,ao (0≤x2) (
 ao (0≤x2) (
 gV (1+x2) (
 ∀v2:V1,∃(Hu:V1) (cm cf:Int) (AZ:Nat→Int),cm=(ae .u64 (ak .quo .u64 x1 256))∧Hu=v2∧Hu=v2∧cf=(1+x2)∧(∀j,j<(ag cf)→AZ j=(aI (fun _=>(ae .u8 (ak .rem .u64 x1 256))) 1 (ag x2) A0) j)∧bE ⟨[],[Hu],[cm,cf],[AZ],[],[],[]⟩∧bL ⟨[],[Hu],[cm,cf],[AZ],[],[],[]⟩<bL ⟨[],[v1],[x1,x2],[A0],[],[],[]⟩)))) (
 ar (v1.v) [bo v1 x2 A0])
theorem Jd(ar:PT)(x0:Int)(h:zR ar x0):aw ae0 70 [.int .u64 x0] [] ar:=
 mK (C:=Fl.cx) [.int .u64 (.var 0)] [] ⟨0,0,1,0,0,0,0⟩ ⟨[x0],[],[],[],[],[],[],[]⟩ 0 3 Tryz.func70 (by kernel_rfl) h
def Hv(ar:PT)(x0 x1:Int):Prop:=
 ∀_:Nat,Cl 70 [.int .u64 x0] [] fun x hs _=> ∃(v0:V1) (x2:Int) (A0:Nat→Int),x=v0.v∧hs=[bo v0 x2 A0]∧
 Cl 70 [.int .u64 x1] [] fun x hs _=> ∃(v1:V1) (x3:Int) (A1:Nat→Int),x=v1.v∧hs=[bo v1 x3 A1]∧
 aR (x0<8) (
 bH x0 ((
 bH (16*x0) ((
 aR (x1<8) (
 bH x1 ((
 bH ((16*x0)+x1) ((
 ∀(_:Nat) (_ v3:V1),ar (v3.v) [bn true v3 1 (aI (aI (fun _=>(ae .u8 ((16*x0)+x1))) 1 0 (fun _=>0)) 1 0 (fun _=>0))]))))) (
 bH ((16*x0)+8) ((
 ao (0≤x3) (
 bH (((16*x0)+8)+x3) ((
 bH ((((16*x0)+8)+x3) - 1) ((
 ∀(_:Nat) (_:V1),gV (1+x3) (
 ∀v3:V1,ar (v3.v) [bo v3 (1+x3) (aI (aI (fun _=>(ae .u8 ((((16*x0)+8)+x3) - 1))) 1 0 (fun _=>0)) 1 (ag x3) A1)])))))))))))))) (
 ao (0≤x2) (
 bH (8+x2) ((
 bH ((8+x2) - 1) ((
 bH (16*((8+x2) - 1)) ((
 aR (x1<8) (
 bH x1 ((
 bH ((16*((8+x2) - 1))+x1) ((
 ∀_:Nat,gV (1+x2) (
 ∀_:V1,ao (0≤(1+x2)) (
 ∀v3:V1,ar (v3.v) [bo v3 (1+x2) (aI (aI (fun _=>(ae .u8 ((16*((8+x2) - 1))+x1))) 1 (ag x2) A0) (ag (1+x2)) 0 (fun _=>0))]))))))) (
 bH ((16*((8+x2) - 1))+8) ((
 ao (0≤x3) (
 bH (((16*((8+x2) - 1))+8)+x3) ((
 bH ((((16*((8+x2) - 1))+8)+x3) - 1) ((
 ∀_:Nat,gV (1+x2) (
 ∀_:V1,ao (0≤(1+x2)) (
 gV ((1+x2)+x3) (
 ∀v3:V1,ar (v3.v) [bo v3 ((1+x2)+x3) (aI (aI (fun _=>(ae .u8 ((((16*((8+x2) - 1))+8)+x3) - 1))) 1 (ag x2) A0) (ag (1+x2)) (ag x3) A1)])))))))))))))))))))
theorem O5(ar:PT)(x0 x1:Int)(h:Hv ar x0 x1):aw ae0 31 [.agg #[.int .u64 x0,.int .u64 x1]] [] ar:=
 mK (C:=Fl.cx) [.agg [.int .u64 (.var 0),.int .u64 (.var 1)]] [] ⟨0,0,2,0,0,0,0⟩ ⟨[x0,x1],[],[],[],[],[],[],[]⟩ 0 1 Tryz.func31 (by kernel_rfl) h
def CT(ar:PT)(x0:Int)(A0:Nat→Int)(_:V1):Prop:=
 ∀_:Nat,ao (0≤x0) (
 aR (x0=0) (
 ar (.tuple #[.agg #[.int .u64 0,.int .u64 0],.int .i64 0]) []) (
 ao (0<x0) (
 aR (128≤(A0 0)) (
 bH (ae .u8 (ak .quo .u8 (A0 0) 16)) ((
 bH ((ae .u8 (ak .quo .u8 (A0 0) 16)) - 7) ((
 aR (8≤(ak .rem .u8 (A0 0) 16)) (
 bH (ak .rem .u8 (A0 0) 16) ((
 bH ((ak .rem .u8 (A0 0) 16) - 7) ((
 bH (1+((ae .u8 (ak .quo .u8 (A0 0) 16)) - 7)) ((
 bH ((1+((ae .u8 (ak .quo .u8 (A0 0) 16)) - 7))+((ak .rem .u8 (A0 0) 16) - 7)) ((
 aR (x0<((1+((ae .u8 (ak .quo .u8 (A0 0) 16)) - 7))+((ak .rem .u8 (A0 0) 16) - 7))) (
 ar (.tuple #[.agg #[.int .u64 0,.int .u64 0],.int .i64 0]) []) (
 ∀_:Nat,aR (0<((ae .u8 (ak .quo .u8 (A0 0) 16)) - 7)) (
 aR (0<((ak .rem .u8 (A0 0) 16) - 7)) (
 ∃(ef:Ext→Prop) (gp:Ext→Nat),(∃x1 x2:Int,x1=0∧x2=0∧ef ⟨[],[],[x1,x2],[],[],[],[]⟩)∧
 ∀x1 x2:Int,ef ⟨[],[],[x1,x2],[],[],[],[]⟩→
 aR (x1<((ae .u8 (ak .quo .u8 (A0 0) 16)) - 7)) (
 bH (1+x1) ((
 ao (0≤(1+x1)) (
 ao ((1+x1)<x0) (
 bH (x1+1) ((
 ∃cm cf:Int,cm=(x1+1)∧cf=(ae .u64 ((ae .u64 (256*x2))+(ae .u64 (A0 (ag (1+x1))))))∧ef ⟨[],[],[cm,cf],[],[],[],[]⟩∧gp ⟨[],[],[cm,cf],[],[],[],[]⟩<gp ⟨[],[],[x1,x2],[],[],[],[]⟩))))))) (
 ∃(gq:Ext→Prop) (jM:Ext→Nat),(∃x3 x4:Int,x3=0∧x4=0∧gq ⟨[],[],[x3,x4],[],[],[],[]⟩)∧
 ∀x3 x4:Int,gq ⟨[],[],[x3,x4],[],[],[],[]⟩→
 aR (x3<((ak .rem .u8 (A0 0) 16) - 7)) (
 bH (1+((ae .u8 (ak .quo .u8 (A0 0) 16)) - 7)) ((
 bH ((1+((ae .u8 (ak .quo .u8 (A0 0) 16)) - 7))+x3) ((
 ao (0≤((1+((ae .u8 (ak .quo .u8 (A0 0) 16)) - 7))+x3)) (
 ao (((1+((ae .u8 (ak .quo .u8 (A0 0) 16)) - 7))+x3)<x0) (
 bH (x3+1) ((
 ∃dt dc:Int,dt=(x3+1)∧dc=(ae .u64 ((ae .u64 (256*x4))+(ae .u64 (A0 (ag ((1+((ae .u8 (ak .quo .u8 (A0 0) 16)) - 7))+x3))))))∧gq ⟨[],[],[dt,dc],[],[],[],[]⟩∧jM ⟨[],[],[dt,dc],[],[],[],[]⟩<jM ⟨[],[],[x3,x4],[],[],[],[]⟩))))))))) (
 bH (1+((ae .u8 (ak .quo .u8 (A0 0) 16)) - 7)) ((
 bH ((1+((ae .u8 (ak .quo .u8 (A0 0) 16)) - 7))+((ak .rem .u8 (A0 0) 16) - 7)) ((
 ao (0≤((1+((ae .u8 (ak .quo .u8 (A0 0) 16)) - 7))+((ak .rem .u8 (A0 0) 16) - 7))) (
 ao (((1+((ae .u8 (ak .quo .u8 (A0 0) 16)) - 7))+((ak .rem .u8 (A0 0) 16) - 7))≤x0) (
 Cl 31 [.agg #[.int .u64 x2,.int .u64 x4]] [] fun x hs _=> ∃(v1:V1) (x5:Int) (A1:Nat→Int),x=v1.v∧hs=[bo v1 x5 A1]∧
 aR (¬(cj (g9 A1 x5)=cj (g9 A0 ((1+((ae .u8 (ak .quo .u8 (A0 0) 16)) - 7))+((ak .rem .u8 (A0 0) 16) - 7))))) (
 ar (.tuple #[.agg #[.int .u64 0,.int .u64 0],.int .i64 0]) []) (
 ar (.tuple #[.agg #[.int .u64 x2,.int .u64 x4],.int .i64 ((1+((ae .u8 (ak .quo .u8 (A0 0) 16)) - 7))+((ak .rem .u8 (A0 0) 16) - 7))]) [])))))))))) (
 ∃(ef:Ext→Prop) (gp:Ext→Nat),(∃x1 x2:Int,x1=0∧x2=0∧ef ⟨[],[],[x1,x2],[],[],[],[]⟩)∧
 ∀x1 x2:Int,ef ⟨[],[],[x1,x2],[],[],[],[]⟩→
 aR (x1<((ae .u8 (ak .quo .u8 (A0 0) 16)) - 7)) (
 bH (1+x1) ((
 ao (0≤(1+x1)) (
 ao ((1+x1)<x0) (
 bH (x1+1) ((
 ∃cm cf:Int,cm=(x1+1)∧cf=(ae .u64 ((ae .u64 (256*x2))+(ae .u64 (A0 (ag (1+x1))))))∧ef ⟨[],[],[cm,cf],[],[],[],[]⟩∧gp ⟨[],[],[cm,cf],[],[],[],[]⟩<gp ⟨[],[],[x1,x2],[],[],[],[]⟩))))))) (
 ∃(gq:Ext→Prop) (jM:Ext→Nat),(∃x3 x4:Int,x3=0∧x4=(ae .u64 (ak .rem .u8 (A0 0) 16))∧gq ⟨[],[],[x3,x4],[],[],[],[]⟩)∧
 ∀x3 x4:Int,gq ⟨[],[],[x3,x4],[],[],[],[]⟩→
 aR (x3<((ak .rem .u8 (A0 0) 16) - 7)) (
 bH (1+((ae .u8 (ak .quo .u8 (A0 0) 16)) - 7)) ((
 bH ((1+((ae .u8 (ak .quo .u8 (A0 0) 16)) - 7))+x3) ((
 ao (0≤((1+((ae .u8 (ak .quo .u8 (A0 0) 16)) - 7))+x3)) (
 ao (((1+((ae .u8 (ak .quo .u8 (A0 0) 16)) - 7))+x3)<x0) (
 bH (x3+1) ((
 ∃dt dc:Int,dt=(x3+1)∧dc=(ae .u64 ((ae .u64 (256*x4))+(ae .u64 (A0 (ag ((1+((ae .u8 (ak .quo .u8 (A0 0) 16)) - 7))+x3))))))∧gq ⟨[],[],[dt,dc],[],[],[],[]⟩∧jM ⟨[],[],[dt,dc],[],[],[],[]⟩<jM ⟨[],[],[x3,x4],[],[],[],[]⟩))))))))) (
 bH (1+((ae .u8 (ak .quo .u8 (A0 0) 16)) - 7)) ((
 bH ((1+((ae .u8 (ak .quo .u8 (A0 0) 16)) - 7))+((ak .rem .u8 (A0 0) 16) - 7)) ((
 ao (0≤((1+((ae .u8 (ak .quo .u8 (A0 0) 16)) - 7))+((ak .rem .u8 (A0 0) 16) - 7))) (
 ao (((1+((ae .u8 (ak .quo .u8 (A0 0) 16)) - 7))+((ak .rem .u8 (A0 0) 16) - 7))≤x0) (
 Cl 31 [.agg #[.int .u64 x2,.int .u64 x4]] [] fun x hs _=> ∃(v1:V1) (x5:Int) (A1:Nat→Int),x=v1.v∧hs=[bo v1 x5 A1]∧
 aR (¬(cj (g9 A1 x5)=cj (g9 A0 ((1+((ae .u8 (ak .quo .u8 (A0 0) 16)) - 7))+((ak .rem .u8 (A0 0) 16) - 7))))) (
 ar (.tuple #[.agg #[.int .u64 0,.int .u64 0],.int .i64 0]) []) (
 ar (.tuple #[.agg #[.int .u64 x2,.int .u64 x4],.int .i64 ((1+((ae .u8 (ak .quo .u8 (A0 0) 16)) - 7))+((ak .rem .u8 (A0 0) 16) - 7))]) []))))))))))) (
 aR (0<((ak .rem .u8 (A0 0) 16) - 7)) (
 ∃(ef:Ext→Prop) (gp:Ext→Nat),(∃x1 x2:Int,x1=0∧x2=(ae .u64 (ae .u8 (ak .quo .u8 (A0 0) 16)))∧ef ⟨[],[],[x1,x2],[],[],[],[]⟩)∧
 ∀x1 x2:Int,ef ⟨[],[],[x1,x2],[],[],[],[]⟩→
 aR (x1<((ae .u8 (ak .quo .u8 (A0 0) 16)) - 7)) (
 bH (1+x1) ((
 ao (0≤(1+x1)) (
 ao ((1+x1)<x0) (
 bH (x1+1) ((
 ∃cm cf:Int,cm=(x1+1)∧cf=(ae .u64 ((ae .u64 (256*x2))+(ae .u64 (A0 (ag (1+x1))))))∧ef ⟨[],[],[cm,cf],[],[],[],[]⟩∧gp ⟨[],[],[cm,cf],[],[],[],[]⟩<gp ⟨[],[],[x1,x2],[],[],[],[]⟩))))))) (
 ∃(gq:Ext→Prop) (jM:Ext→Nat),(∃x3 x4:Int,x3=0∧x4=0∧gq ⟨[],[],[x3,x4],[],[],[],[]⟩)∧
 ∀x3 x4:Int,gq ⟨[],[],[x3,x4],[],[],[],[]⟩→
 aR (x3<((ak .rem .u8 (A0 0) 16) - 7)) (
 bH (1+((ae .u8 (ak .quo .u8 (A0 0) 16)) - 7)) ((
 bH ((1+((ae .u8 (ak .quo .u8 (A0 0) 16)) - 7))+x3) ((
 ao (0≤((1+((ae .u8 (ak .quo .u8 (A0 0) 16)) - 7))+x3)) (
 ao (((1+((ae .u8 (ak .quo .u8 (A0 0) 16)) - 7))+x3)<x0) (
 bH (x3+1) ((
 ∃dt dc:Int,dt=(x3+1)∧dc=(ae .u64 ((ae .u64 (256*x4))+(ae .u64 (A0 (ag ((1+((ae .u8 (ak .quo .u8 (A0 0) 16)) - 7))+x3))))))∧gq ⟨[],[],[dt,dc],[],[],[],[]⟩∧jM ⟨[],[],[dt,dc],[],[],[],[]⟩<jM ⟨[],[],[x3,x4],[],[],[],[]⟩))))))))) (
 bH (1+((ae .u8 (ak .quo .u8 (A0 0) 16)) - 7)) ((
 bH ((1+((ae .u8 (ak .quo .u8 (A0 0) 16)) - 7))+((ak .rem .u8 (A0 0) 16) - 7)) ((
 ao (0≤((1+((ae .u8 (ak .quo .u8 (A0 0) 16)) - 7))+((ak .rem .u8 (A0 0) 16) - 7))) (
 ao (((1+((ae .u8 (ak .quo .u8 (A0 0) 16)) - 7))+((ak .rem .u8 (A0 0) 16) - 7))≤x0) (
 Cl 31 [.agg #[.int .u64 x2,.int .u64 x4]] [] fun x hs _=> ∃(v1:V1) (x5:Int) (A1:Nat→Int),x=v1.v∧hs=[bo v1 x5 A1]∧
 aR (¬(cj (g9 A1 x5)=cj (g9 A0 ((1+((ae .u8 (ak .quo .u8 (A0 0) 16)) - 7))+((ak .rem .u8 (A0 0) 16) - 7))))) (
 ar (.tuple #[.agg #[.int .u64 0,.int .u64 0],.int .i64 0]) []) (
 ar (.tuple #[.agg #[.int .u64 x2,.int .u64 x4],.int .i64 ((1+((ae .u8 (ak .quo .u8 (A0 0) 16)) - 7))+((ak .rem .u8 (A0 0) 16) - 7))]) [])))))))))) (
 ∃(ef:Ext→Prop) (gp:Ext→Nat),(∃x1 x2:Int,x1=0∧x2=(ae .u64 (ae .u8 (ak .quo .u8 (A0 0) 16)))∧ef ⟨[],[],[x1,x2],[],[],[],[]⟩)∧
 ∀x1 x2:Int,ef ⟨[],[],[x1,x2],[],[],[],[]⟩→
 aR (x1<((ae .u8 (ak .quo .u8 (A0 0) 16)) - 7)) (
 bH (1+x1) ((
 ao (0≤(1+x1)) (
 ao ((1+x1)<x0) (
 bH (x1+1) ((
 ∃cm cf:Int,cm=(x1+1)∧cf=(ae .u64 ((ae .u64 (256*x2))+(ae .u64 (A0 (ag (1+x1))))))∧ef ⟨[],[],[cm,cf],[],[],[],[]⟩∧gp ⟨[],[],[cm,cf],[],[],[],[]⟩<gp ⟨[],[],[x1,x2],[],[],[],[]⟩))))))) (
 ∃(gq:Ext→Prop) (jM:Ext→Nat),(∃x3 x4:Int,x3=0∧x4=(ae .u64 (ak .rem .u8 (A0 0) 16))∧gq ⟨[],[],[x3,x4],[],[],[],[]⟩)∧
 ∀x3 x4:Int,gq ⟨[],[],[x3,x4],[],[],[],[]⟩→
 aR (x3<((ak .rem .u8 (A0 0) 16) - 7)) (
 bH (1+((ae .u8 (ak .quo .u8 (A0 0) 16)) - 7)) ((
 bH ((1+((ae .u8 (ak .quo .u8 (A0 0) 16)) - 7))+x3) ((
 ao (0≤((1+((ae .u8 (ak .quo .u8 (A0 0) 16)) - 7))+x3)) (
 ao (((1+((ae .u8 (ak .quo .u8 (A0 0) 16)) - 7))+x3)<x0) (
 bH (x3+1) ((
 ∃dt dc:Int,dt=(x3+1)∧dc=(ae .u64 ((ae .u64 (256*x4))+(ae .u64 (A0 (ag ((1+((ae .u8 (ak .quo .u8 (A0 0) 16)) - 7))+x3))))))∧gq ⟨[],[],[dt,dc],[],[],[],[]⟩∧jM ⟨[],[],[dt,dc],[],[],[],[]⟩<jM ⟨[],[],[x3,x4],[],[],[],[]⟩))))))))) (
 bH (1+((ae .u8 (ak .quo .u8 (A0 0) 16)) - 7)) ((
 bH ((1+((ae .u8 (ak .quo .u8 (A0 0) 16)) - 7))+((ak .rem .u8 (A0 0) 16) - 7)) ((
 ao (0≤((1+((ae .u8 (ak .quo .u8 (A0 0) 16)) - 7))+((ak .rem .u8 (A0 0) 16) - 7))) (
 ao (((1+((ae .u8 (ak .quo .u8 (A0 0) 16)) - 7))+((ak .rem .u8 (A0 0) 16) - 7))≤x0) (
 Cl 31 [.agg #[.int .u64 x2,.int .u64 x4]] [] fun x hs _=> ∃(v1:V1) (x5:Int) (A1:Nat→Int),x=v1.v∧hs=[bo v1 x5 A1]∧
 aR (¬(cj (g9 A1 x5)=cj (g9 A0 ((1+((ae .u8 (ak .quo .u8 (A0 0) 16)) - 7))+((ak .rem .u8 (A0 0) 16) - 7))))) (
 ar (.tuple #[.agg #[.int .u64 0,.int .u64 0],.int .i64 0]) []) (
 ar (.tuple #[.agg #[.int .u64 x2,.int .u64 x4],.int .i64 ((1+((ae .u8 (ak .quo .u8 (A0 0) 16)) - 7))+((ak .rem .u8 (A0 0) 16) - 7))]) []))))))))))))))))))))) (
 bH (1+((ae .u8 (ak .quo .u8 (A0 0) 16)) - 7)) ((
 aR (x0<(1+((ae .u8 (ak .quo .u8 (A0 0) 16)) - 7))) (
 ar (.tuple #[.agg #[.int .u64 0,.int .u64 0],.int .i64 0]) []) (
 ∀_:Nat,aR (0<((ae .u8 (ak .quo .u8 (A0 0) 16)) - 7)) (
 ∃(kY:Ext→Prop) (oU:Ext→Nat),(∃x1 x2:Int,x1=0∧x2=0∧kY ⟨[],[],[x1,x2],[],[],[],[]⟩)∧
 ∀x1 x2:Int,kY ⟨[],[],[x1,x2],[],[],[],[]⟩→
 aR (x1<((ae .u8 (ak .quo .u8 (A0 0) 16)) - 7)) (
 bH (1+x1) ((
 ao (0≤(1+x1)) (
 ao ((1+x1)<x0) (
 bH (x1+1) ((
 ∃cm cf:Int,cm=(x1+1)∧cf=(ae .u64 ((ae .u64 (256*x2))+(ae .u64 (A0 (ag (1+x1))))))∧kY ⟨[],[],[cm,cf],[],[],[],[]⟩∧oU ⟨[],[],[cm,cf],[],[],[],[]⟩<oU ⟨[],[],[x1,x2],[],[],[],[]⟩))))))) (
 ∃(kZ:Ext→Prop) (oV:Ext→Nat),(∃x3 x4:Int,x3=0∧x4=(ae .u64 (ak .rem .u8 (A0 0) 16))∧kZ ⟨[],[],[x3,x4],[],[],[],[]⟩)∧
 ∀x3 x4:Int,kZ ⟨[],[],[x3,x4],[],[],[],[]⟩→
 aR (x3<0) (
 bH (1+((ae .u8 (ak .quo .u8 (A0 0) 16)) - 7)) ((
 bH ((1+((ae .u8 (ak .quo .u8 (A0 0) 16)) - 7))+x3) ((
 ao (0≤((1+((ae .u8 (ak .quo .u8 (A0 0) 16)) - 7))+x3)) (
 ao (((1+((ae .u8 (ak .quo .u8 (A0 0) 16)) - 7))+x3)<x0) (
 bH (x3+1) ((
 ∃dt dc:Int,dt=(x3+1)∧dc=(ae .u64 ((ae .u64 (256*x4))+(ae .u64 (A0 (ag ((1+((ae .u8 (ak .quo .u8 (A0 0) 16)) - 7))+x3))))))∧kZ ⟨[],[],[dt,dc],[],[],[],[]⟩∧oV ⟨[],[],[dt,dc],[],[],[],[]⟩<oV ⟨[],[],[x3,x4],[],[],[],[]⟩))))))))) (
 bH (1+((ae .u8 (ak .quo .u8 (A0 0) 16)) - 7)) ((
 ao (0≤(1+((ae .u8 (ak .quo .u8 (A0 0) 16)) - 7))) (
 ao ((1+((ae .u8 (ak .quo .u8 (A0 0) 16)) - 7))≤x0) (
 Cl 31 [.agg #[.int .u64 x2,.int .u64 x4]] [] fun x hs _=> ∃(v1:V1) (x5:Int) (A1:Nat→Int),x=v1.v∧hs=[bo v1 x5 A1]∧
 aR (¬(cj (g9 A1 x5)=cj (g9 A0 (1+((ae .u8 (ak .quo .u8 (A0 0) 16)) - 7))))) (
 ar (.tuple #[.agg #[.int .u64 0,.int .u64 0],.int .i64 0]) []) (
 ar (.tuple #[.agg #[.int .u64 x2,.int .u64 x4],.int .i64 (1+((ae .u8 (ak .quo .u8 (A0 0) 16)) - 7))]) [])))))))) (
 ∃(kY:Ext→Prop) (oU:Ext→Nat),(∃x1 x2:Int,x1=0∧x2=(ae .u64 (ae .u8 (ak .quo .u8 (A0 0) 16)))∧kY ⟨[],[],[x1,x2],[],[],[],[]⟩)∧
 ∀x1 x2:Int,kY ⟨[],[],[x1,x2],[],[],[],[]⟩→
 aR (x1<((ae .u8 (ak .quo .u8 (A0 0) 16)) - 7)) (
 bH (1+x1) ((
 ao (0≤(1+x1)) (
 ao ((1+x1)<x0) (
 bH (x1+1) ((
 ∃cm cf:Int,cm=(x1+1)∧cf=(ae .u64 ((ae .u64 (256*x2))+(ae .u64 (A0 (ag (1+x1))))))∧kY ⟨[],[],[cm,cf],[],[],[],[]⟩∧oU ⟨[],[],[cm,cf],[],[],[],[]⟩<oU ⟨[],[],[x1,x2],[],[],[],[]⟩))))))) (
 ∃(kZ:Ext→Prop) (oV:Ext→Nat),(∃x3 x4:Int,x3=0∧x4=(ae .u64 (ak .rem .u8 (A0 0) 16))∧kZ ⟨[],[],[x3,x4],[],[],[],[]⟩)∧
 ∀x3 x4:Int,kZ ⟨[],[],[x3,x4],[],[],[],[]⟩→
 aR (x3<0) (
 bH (1+((ae .u8 (ak .quo .u8 (A0 0) 16)) - 7)) ((
 bH ((1+((ae .u8 (ak .quo .u8 (A0 0) 16)) - 7))+x3) ((
 ao (0≤((1+((ae .u8 (ak .quo .u8 (A0 0) 16)) - 7))+x3)) (
 ao (((1+((ae .u8 (ak .quo .u8 (A0 0) 16)) - 7))+x3)<x0) (
 bH (x3+1) ((
 ∃dt dc:Int,dt=(x3+1)∧dc=(ae .u64 ((ae .u64 (256*x4))+(ae .u64 (A0 (ag ((1+((ae .u8 (ak .quo .u8 (A0 0) 16)) - 7))+x3))))))∧kZ ⟨[],[],[dt,dc],[],[],[],[]⟩∧oV ⟨[],[],[dt,dc],[],[],[],[]⟩<oV ⟨[],[],[x3,x4],[],[],[],[]⟩))))))))) (
 bH (1+((ae .u8 (ak .quo .u8 (A0 0) 16)) - 7)) ((
 ao (0≤(1+((ae .u8 (ak .quo .u8 (A0 0) 16)) - 7))) (
 ao ((1+((ae .u8 (ak .quo .u8 (A0 0) 16)) - 7))≤x0) (
 Cl 31 [.agg #[.int .u64 x2,.int .u64 x4]] [] fun x hs _=> ∃(v1:V1) (x5:Int) (A1:Nat→Int),x=v1.v∧hs=[bo v1 x5 A1]∧
 aR (¬(cj (g9 A1 x5)=cj (g9 A0 (1+((ae .u8 (ak .quo .u8 (A0 0) 16)) - 7))))) (
 ar (.tuple #[.agg #[.int .u64 0,.int .u64 0],.int .i64 0]) []) (
 ar (.tuple #[.agg #[.int .u64 x2,.int .u64 x4],.int .i64 (1+((ae .u8 (ak .quo .u8 (A0 0) 16)) - 7))]) []))))))))))))))))) (
 aR (8≤(ak .rem .u8 (A0 0) 16)) (
 bH (ak .rem .u8 (A0 0) 16) ((
 bH ((ak .rem .u8 (A0 0) 16) - 7) ((
 bH (1+((ak .rem .u8 (A0 0) 16) - 7)) ((
 aR (x0<(1+((ak .rem .u8 (A0 0) 16) - 7))) (
 ar (.tuple #[.agg #[.int .u64 0,.int .u64 0],.int .i64 0]) []) (
 ∀_:Nat,aR (0<((ak .rem .u8 (A0 0) 16) - 7)) (
 ∃(kY:Ext→Prop) (oU:Ext→Nat),(∃x1 x2:Int,x1=0∧x2=(ae .u64 (ae .u8 (ak .quo .u8 (A0 0) 16)))∧kY ⟨[],[],[x1,x2],[],[],[],[]⟩)∧
 ∀x1 x2:Int,kY ⟨[],[],[x1,x2],[],[],[],[]⟩→
 aR (x1<0) (
 bH (1+x1) ((
 ao (0≤(1+x1)) (
 ao ((1+x1)<x0) (
 bH (x1+1) ((
 ∃cm cf:Int,cm=(x1+1)∧cf=(ae .u64 ((ae .u64 (256*x2))+(ae .u64 (A0 (ag (1+x1))))))∧kY ⟨[],[],[cm,cf],[],[],[],[]⟩∧oU ⟨[],[],[cm,cf],[],[],[],[]⟩<oU ⟨[],[],[x1,x2],[],[],[],[]⟩))))))) (
 ∃(kZ:Ext→Prop) (oV:Ext→Nat),(∃x3 x4:Int,x3=0∧x4=0∧kZ ⟨[],[],[x3,x4],[],[],[],[]⟩)∧
 ∀x3 x4:Int,kZ ⟨[],[],[x3,x4],[],[],[],[]⟩→
 aR (x3<((ak .rem .u8 (A0 0) 16) - 7)) (
 bH (1+x3) ((
 ao (0≤(1+x3)) (
 ao ((1+x3)<x0) (
 bH (x3+1) ((
 ∃dt dc:Int,dt=(x3+1)∧dc=(ae .u64 ((ae .u64 (256*x4))+(ae .u64 (A0 (ag (1+x3))))))∧kZ ⟨[],[],[dt,dc],[],[],[],[]⟩∧oV ⟨[],[],[dt,dc],[],[],[],[]⟩<oV ⟨[],[],[x3,x4],[],[],[],[]⟩))))))) (
 bH (1+((ak .rem .u8 (A0 0) 16) - 7)) ((
 ao (0≤(1+((ak .rem .u8 (A0 0) 16) - 7))) (
 ao ((1+((ak .rem .u8 (A0 0) 16) - 7))≤x0) (
 Cl 31 [.agg #[.int .u64 x2,.int .u64 x4]] [] fun x hs _=> ∃(v1:V1) (x5:Int) (A1:Nat→Int),x=v1.v∧hs=[bo v1 x5 A1]∧
 aR (¬(cj (g9 A1 x5)=cj (g9 A0 (1+((ak .rem .u8 (A0 0) 16) - 7))))) (
 ar (.tuple #[.agg #[.int .u64 0,.int .u64 0],.int .i64 0]) []) (
 ar (.tuple #[.agg #[.int .u64 x2,.int .u64 x4],.int .i64 (1+((ak .rem .u8 (A0 0) 16) - 7))]) [])))))))) (
 ∃(kY:Ext→Prop) (oU:Ext→Nat),(∃x1 x2:Int,x1=0∧x2=(ae .u64 (ae .u8 (ak .quo .u8 (A0 0) 16)))∧kY ⟨[],[],[x1,x2],[],[],[],[]⟩)∧
 ∀x1 x2:Int,kY ⟨[],[],[x1,x2],[],[],[],[]⟩→
 aR (x1<0) (
 bH (1+x1) ((
 ao (0≤(1+x1)) (
 ao ((1+x1)<x0) (
 bH (x1+1) ((
 ∃cm cf:Int,cm=(x1+1)∧cf=(ae .u64 ((ae .u64 (256*x2))+(ae .u64 (A0 (ag (1+x1))))))∧kY ⟨[],[],[cm,cf],[],[],[],[]⟩∧oU ⟨[],[],[cm,cf],[],[],[],[]⟩<oU ⟨[],[],[x1,x2],[],[],[],[]⟩))))))) (
 ∃(kZ:Ext→Prop) (oV:Ext→Nat),(∃x3 x4:Int,x3=0∧x4=(ae .u64 (ak .rem .u8 (A0 0) 16))∧kZ ⟨[],[],[x3,x4],[],[],[],[]⟩)∧
 ∀x3 x4:Int,kZ ⟨[],[],[x3,x4],[],[],[],[]⟩→
 aR (x3<((ak .rem .u8 (A0 0) 16) - 7)) (
 bH (1+x3) ((
 ao (0≤(1+x3)) (
 ao ((1+x3)<x0) (
 bH (x3+1) ((
 ∃dt dc:Int,dt=(x3+1)∧dc=(ae .u64 ((ae .u64 (256*x4))+(ae .u64 (A0 (ag (1+x3))))))∧kZ ⟨[],[],[dt,dc],[],[],[],[]⟩∧oV ⟨[],[],[dt,dc],[],[],[],[]⟩<oV ⟨[],[],[x3,x4],[],[],[],[]⟩))))))) (
 bH (1+((ak .rem .u8 (A0 0) 16) - 7)) ((
 ao (0≤(1+((ak .rem .u8 (A0 0) 16) - 7))) (
 ao ((1+((ak .rem .u8 (A0 0) 16) - 7))≤x0) (
 Cl 31 [.agg #[.int .u64 x2,.int .u64 x4]] [] fun x hs _=> ∃(v1:V1) (x5:Int) (A1:Nat→Int),x=v1.v∧hs=[bo v1 x5 A1]∧
 aR (¬(cj (g9 A1 x5)=cj (g9 A0 (1+((ak .rem .u8 (A0 0) 16) - 7))))) (
 ar (.tuple #[.agg #[.int .u64 0,.int .u64 0],.int .i64 0]) []) (
 ar (.tuple #[.agg #[.int .u64 x2,.int .u64 x4],.int .i64 (1+((ak .rem .u8 (A0 0) 16) - 7))]) [])))))))))))))))) (
 aR (x0<1) (
 ar (.tuple #[.agg #[.int .u64 0,.int .u64 0],.int .i64 0]) []) (
 ∀_:Nat,∃(kX:Ext→Prop) (oS:Ext→Nat),(∃x1 x2:Int,x1=0∧x2=(ae .u64 (ae .u8 (ak .quo .u8 (A0 0) 16)))∧kX ⟨[],[],[x1,x2],[],[],[],[]⟩)∧
 ∀x1 x2:Int,kX ⟨[],[],[x1,x2],[],[],[],[]⟩→
 aR (x1<0) (
 bH (1+x1) ((
 ao (0≤(1+x1)) (
 ao ((1+x1)<x0) (
 bH (x1+1) ((
 ∃cm cf:Int,cm=(x1+1)∧cf=(ae .u64 ((ae .u64 (256*x2))+(ae .u64 (A0 (ag (1+x1))))))∧kX ⟨[],[],[cm,cf],[],[],[],[]⟩∧oS ⟨[],[],[cm,cf],[],[],[],[]⟩<oS ⟨[],[],[x1,x2],[],[],[],[]⟩))))))) (
 ∃(ef:Ext→Prop) (gp:Ext→Nat),(∃x3 x4:Int,x3=0∧x4=(ae .u64 (ak .rem .u8 (A0 0) 16))∧ef ⟨[],[],[x3,x4],[],[],[],[]⟩)∧
 ∀x3 x4:Int,ef ⟨[],[],[x3,x4],[],[],[],[]⟩→
 aR (x3<0) (
 bH (1+x3) ((
 ao (0≤(1+x3)) (
 ao ((1+x3)<x0) (
 bH (x3+1) ((
 ∃dt dc:Int,dt=(x3+1)∧dc=(ae .u64 ((ae .u64 (256*x4))+(ae .u64 (A0 (ag (1+x3))))))∧ef ⟨[],[],[dt,dc],[],[],[],[]⟩∧gp ⟨[],[],[dt,dc],[],[],[],[]⟩<gp ⟨[],[],[x3,x4],[],[],[],[]⟩))))))) (
 ao (1≤x0) (
 Cl 31 [.agg #[.int .u64 x2,.int .u64 x4]] [] fun x hs _=> ∃(v1:V1) (x5:Int) (A1:Nat→Int),x=v1.v∧hs=[bo v1 x5 A1]∧
 aR (¬(cj (g9 A1 x5)=cj (g9 A0 1))) (
 ar (.tuple #[.agg #[.int .u64 0,.int .u64 0],.int .i64 0]) []) (
 ar (.tuple #[.agg #[.int .u64 x2,.int .u64 x4],.int .i64 1]) []))))))))))
theorem Lt(ar:PT)(x0:Int)(A0:Nat→Int)(v0:V1)(h:CT ar x0 A0 v0):aw ae0 24 [v0.v] [bi v0 x0 A0] ar:=
 FJ (C:=Fl.cx) [.vv 0] [.bC false 0 5 1 (.var 0) [⟨.int .u8,1,.aL 0⟩]] ⟨0,1,1,1,0,0,0⟩ ⟨[x0],[A0],[],[],[v0],[],[],[]⟩ Tryz.func24 (by kernel_rfl) h
def Hw(ar:PT)(x0:Int):Prop:=
 aR (x0=1) (
 ∀b0:Nat,ar (.slice (some ⟨b0,0,none⟩) 5 5) [ax b0 true ([.int .i64 1,.int .i64 48,.int .i64 16,.int .i64 10,.int .i64 32])]) (
 aR (x0=2) (
 ∀b0:Nat,ar (.slice (some ⟨b0,0,none⟩) 5 5) [ax b0 true ([.int .i64 1,.int .i64 48,.int .i64 16,.int .i64 8,.int .i64 32])]) (
 aR (x0=3) (
 ∀b0:Nat,ar (.slice (some ⟨b0,0,none⟩) 5 5) [ax b0 true ([.int .i64 1,.int .i64 48,.int .i64 16,.int .i64 4,.int .i64 32])]) (
 aR (x0=4) (
 ∀b0:Nat,ar (.slice (some ⟨b0,0,none⟩) 5 5) [ax b0 true ([.int .i64 1,.int .i64 16,.int .i64 16,.int .i64 16,.int .i64 32])]) (
 aR (x0=5) (
 ∀b0:Nat,ar (.slice (some ⟨b0,0,none⟩) 5 5) [ax b0 true ([.int .i64 2,.int .i64 32,.int .i64 32,.int .i64 16,.int .i64 64])]) (
 ar (.slice none 0 0) [])))))
theorem O6(ar:PT)(x0:Int)(h:Hw ar x0):aw ae0 35 [.int .u16 x0] [] ar:=
 Ls (C:=Fl.cx) [.int .u16 (.var 0)] [] ⟨0,0,1,0,0,0,0⟩ ⟨[x0],[],[],[],[],[],[],[]⟩ Tryz.func35 (by kernel_rfl) h
def zS(ar:PT)(x0:Int)(A0:Nat→Int)(_:V1):Prop:=
 ∀_ v2:V1,ar (v2.v) [bn true v2 12 (aq (aq (aq (aq (aq (aq (aq (aq (aq (aq (aq (aq A0 11 (ak .ay .u8 (A0 11) (ae .u8 (ak .rem .u64 x0 256)))) 10 (ak .ay .u8 (A0 10) (ae .u8 (ak .rem .u64 (ae .u64 (ak .quo .u64 x0 256)) 256)))) 9 (ak .ay .u8 (A0 9) (ae .u8 (ak .rem .u64 (ae .u64 (ak .quo .u64 (ae .u64 (ak .quo .u64 x0 256)) 256)) 256)))) 8 (ak .ay .u8 (A0 8) (ae .u8 (ak .rem .u64 (ae .u64 (ak .quo .u64 (ae .u64 (ak .quo .u64 (ae .u64 (ak .quo .u64 x0 256)) 256)) 256)) 256)))) 7 (ak .ay .u8 (A0 7) (ae .u8 (ak .rem .u64 (ae .u64 (ak .quo .u64 (ae .u64 (ak .quo .u64 (ae .u64 (ak .quo .u64 (ae .u64 (ak .quo .u64 x0 256)) 256)) 256)) 256)) 256)))) 6 (ak .ay .u8 (A0 6) (ae .u8 (ak .rem .u64 (ae .u64 (ak .quo .u64 (ae .u64 (ak .quo .u64 (ae .u64 (ak .quo .u64 (ae .u64 (ak .quo .u64 (ae .u64 (ak .quo .u64 x0 256)) 256)) 256)) 256)) 256)) 256)))) 5 (ak .ay .u8 (A0 5) (ae .u8 (ak .rem .u64 (ae .u64 (ak .quo .u64 (ae .u64 (ak .quo .u64 (ae .u64 (ak .quo .u64 (ae .u64 (ak .quo .u64 (ae .u64 (ak .quo .u64 (ae .u64 (ak .quo .u64 x0 256)) 256)) 256)) 256)) 256)) 256)) 256)))) 4 (ak .ay .u8 (A0 4) (ae .u8 (ak .rem .u64 (ae .u64 (ak .quo .u64 (ae .u64 (ak .quo .u64 (ae .u64 (ak .quo .u64 (ae .u64 (ak .quo .u64 (ae .u64 (ak .quo .u64 (ae .u64 (ak .quo .u64 (ae .u64 (ak .quo .u64 x0 256)) 256)) 256)) 256)) 256)) 256)) 256)) 256)))) 3 (ak .ay .u8 (A0 3) (ae .u8 (ak .rem .u64 (ae .u64 (ak .quo .u64 (ae .u64 (ak .quo .u64 (ae .u64 (ak .quo .u64 (ae .u64 (ak .quo .u64 (ae .u64 (ak .quo .u64 (ae .u64 (ak .quo .u64 (ae .u64 (ak .quo .u64 (ae .u64 (ak .quo .u64 x0 256)) 256)) 256)) 256)) 256)) 256)) 256)) 256)) 256)))) 2 (ak .ay .u8 (A0 2) (ae .u8 (ak .rem .u64 (ae .u64 (ak .quo .u64 (ae .u64 (ak .quo .u64 (ae .u64 (ak .quo .u64 (ae .u64 (ak .quo .u64 (ae .u64 (ak .quo .u64 (ae .u64 (ak .quo .u64 (ae .u64 (ak .quo .u64 (ae .u64 (ak .quo .u64 (ae .u64 (ak .quo .u64 x0 256)) 256)) 256)) 256)) 256)) 256)) 256)) 256)) 256)) 256)))) 1 (ak .ay .u8 (A0 1) (ae .u8 (ak .rem .u64 (ae .u64 (ak .quo .u64 (ae .u64 (ak .quo .u64 (ae .u64 (ak .quo .u64 (ae .u64 (ak .quo .u64 (ae .u64 (ak .quo .u64 (ae .u64 (ak .quo .u64 (ae .u64 (ak .quo .u64 (ae .u64 (ak .quo .u64 (ae .u64 (ak .quo .u64 (ae .u64 (ak .quo .u64 x0 256)) 256)) 256)) 256)) 256)) 256)) 256)) 256)) 256)) 256)) 256)))) 0 (ak .ay .u8 (A0 0) (ae .u8 (ak .rem .u64 (ae .u64 (ak .quo .u64 (ae .u64 (ak .quo .u64 (ae .u64 (ak .quo .u64 (ae .u64 (ak .quo .u64 (ae .u64 (ak .quo .u64 (ae .u64 (ak .quo .u64 (ae .u64 (ak .quo .u64 (ae .u64 (ak .quo .u64 (ae .u64 (ak .quo .u64 (ae .u64 (ak .quo .u64 (ae .u64 (ak .quo .u64 x0 256)) 256)) 256)) 256)) 256)) 256)) 256)) 256)) 256)) 256)) 256)) 256))))]
theorem Je(ar:PT)(x0:Int)(A0:Nat→Int)(v0:V1)(h:zS ar x0 A0 v0):aw ae0 71 [v0.v,.int .u64 x0] [bn false v0 12 A0] ar:=
 mK (C:=Fl.cx) [.vv 0,.int .u64 (.var 0)] [.bC false 0 5 1 (.lit 12) [⟨.int .u8,1,.aL 0⟩]] ⟨0,1,1,1,0,0,0⟩ ⟨[x0],[A0],[],[],[v0],[],[],[]⟩ 0 1 Tryz.func71 (by kernel_rfl) h
def zT(ar:PT)(x0:Int):Prop:=
 ∀v0:V1,ar (v0.v) [bn true v0 8 (aq (aq (aq (aq (aq (aq (aq (aq (fun _=>0) 7 (ae .u8 (ak .rem .i64 x0 256))) 6 (ae .u8 (ak .rem .i64 (ae .i64 (ak .quo .i64 x0 256)) 256))) 5 (ae .u8 (ak .rem .i64 (ae .i64 (ak .quo .i64 (ae .i64 (ak .quo .i64 x0 256)) 256)) 256))) 4 (ae .u8 (ak .rem .i64 (ae .i64 (ak .quo .i64 (ae .i64 (ak .quo .i64 (ae .i64 (ak .quo .i64 x0 256)) 256)) 256)) 256))) 3 (ae .u8 (ak .rem .i64 (ae .i64 (ak .quo .i64 (ae .i64 (ak .quo .i64 (ae .i64 (ak .quo .i64 (ae .i64 (ak .quo .i64 x0 256)) 256)) 256)) 256)) 256))) 2 (ae .u8 (ak .rem .i64 (ae .i64 (ak .quo .i64 (ae .i64 (ak .quo .i64 (ae .i64 (ak .quo .i64 (ae .i64 (ak .quo .i64 (ae .i64 (ak .quo .i64 x0 256)) 256)) 256)) 256)) 256)) 256))) 1 (ae .u8 (ak .rem .i64 (ae .i64 (ak .quo .i64 (ae .i64 (ak .quo .i64 (ae .i64 (ak .quo .i64 (ae .i64 (ak .quo .i64 (ae .i64 (ak .quo .i64 (ae .i64 (ak .quo .i64 x0 256)) 256)) 256)) 256)) 256)) 256)) 256))) 0 (ae .u8 (ak .rem .i64 (ae .i64 (ak .quo .i64 (ae .i64 (ak .quo .i64 (ae .i64 (ak .quo .i64 (ae .i64 (ak .quo .i64 (ae .i64 (ak .quo .i64 (ae .i64 (ak .quo .i64 (ae .i64 (ak .quo .i64 x0 256)) 256)) 256)) 256)) 256)) 256)) 256)) 256)))]
theorem Jf(ar:PT)(x0:Int)(h:zT ar x0):aw ae0 103 [.int .i64 x0] [] ar:=
 mK (C:=Fl.cx) [.int .i64 (.var 0)] [] ⟨0,0,1,0,0,0,0⟩ ⟨[x0],[],[],[],[],[],[],[]⟩ 0 1 Tryz.func103 (by kernel_rfl) h
def Hx(ar:PT)(x0 x1:Int)(A0 A1:Nat→Int)(v0 v1:V1)(b0:Nat):Prop:=
 ao (0≤x0) (
 ao (0≤x0) (
 gV x0 (
 ∀_:V1,ao (0≤x1) (
 ao (0≤x1) (
 gV (x0+x1) (
 ∀v3:V1,ar (v3.v) [ax b0 true ([v0.v,v1.v]),bo v3 (x0+x1) (aI A0 (ag x0) (ag x1) A1)]))))))
theorem O7(ar:PT)(x0 x1:Int)(A0 A1:Nat→Int)(v0 v1:V1)(b0:Nat)(h:Hx ar x0 x1 A0 A1 v0 v1 b0):aw ae0 32 [.slice (some ⟨b0,0,none⟩) 2 2] [ax b0 true ([v0.v,v1.v]),bi v0 x0 A0,bi v1 x1 A1] ar:=
 mK (C:=Fl.cx) [.sl 0 (.lit 0) 1 (.lit 2) (.lit 2)] [.row 0 true [.vv 0,.vv 1],.bC false 0 5 1 (.var 0) [⟨.int .u8,1,.aL 0⟩],.bC false 1 5 1 (.var 1) [⟨.int .u8,1,.aL 1⟩]] ⟨1,2,2,2,0,0,0⟩ ⟨[x0,x1],[A0,A1],[],[b0],[v0,v1],[],[],[]⟩ 1 1 Tryz.func32 (by kernel_rfl) h
def Hy(ar:PT)(x0 x1 x2 x3 x4 x5:Int)(A0 A1 A2 A3 A4 A5:Nat→Int)(v0 v1 v2 v3 v4 v5:V1)(b0:Nat):Prop:=
 ao (0≤x0) (
 ao (0≤x0) (
 gV x0 (
 ∀_:V1,ao (0≤x1) (
 ao (0≤x1) (
 gV (x0+x1) (
 ∀_:V1,ao (0≤x2) (
 ao (0≤(x0+x1)) (
 ao (0≤x2) (
 gV ((x0+x1)+x2) (
 ∀_:V1,ao (0≤x3) (
 ao (0≤((x0+x1)+x2)) (
 ao (0≤x3) (
 ao ((((x0+x1)+x2)+x3)≤140737488355328) (
 ∀_:V1,ao (0≤x4) (
 ao (0≤(((x0+x1)+x2)+x3)) (
 ao (0≤x4) (
 ao (((((x0+x1)+x2)+x3)+x4)≤140737488355328) (
 ∀_:V1,ao (0≤x5) (
 ao (0≤((((x0+x1)+x2)+x3)+x4)) (
 ao (0≤x5) (
 ao ((((((x0+x1)+x2)+x3)+x4)+x5)≤140737488355328) (
 ∀v11:V1,ar (v11.v) [ax b0 true ([v0.v,v1.v,v2.v,v3.v,v4.v,v5.v]),bo v11 (((((x0+x1)+x2)+x3)+x4)+x5) (aI (aI (aI (aI (aI A0 (ag x0) (ag x1) A1) (ag (x0+x1)) (ag x2) A2) (ag ((x0+x1)+x2)) (ag x3) A3) (ag (((x0+x1)+x2)+x3)) (ag x4) A4) (ag ((((x0+x1)+x2)+x3)+x4)) (ag x5) A5)]))))))))))))))))))))))
theorem O8(ar:PT)(x0 x1 x2 x3 x4 x5:Int)(A0 A1 A2 A3 A4 A5:Nat→Int)(v0 v1 v2 v3 v4 v5:V1)(b0:Nat)(h:Hy ar x0 x1 x2 x3 x4 x5 A0 A1 A2 A3 A4 A5 v0 v1 v2 v3 v4 v5 b0):aw ae0 32 [.slice (some ⟨b0,0,none⟩) 6 6] [ax b0 true ([v0.v,v1.v,v2.v,v3.v,v4.v,v5.v]),bi v0 x0 A0,bi v1 x1 A1,bi v2 x2 A2,bi v3 x3 A3,bi v4 x4 A4,bi v5 x5 A5] ar:=
 mK (C:=Fl.cx) [.sl 0 (.lit 0) 1 (.lit 6) (.lit 6)] [.row 0 true [.vv 0,.vv 1,.vv 2,.vv 3,.vv 4,.vv 5],.bC false 0 5 1 (.var 0) [⟨.int .u8,1,.aL 0⟩],.bC false 1 5 1 (.var 1) [⟨.int .u8,1,.aL 1⟩],.bC false 2 5 1 (.var 2) [⟨.int .u8,1,.aL 2⟩],.bC false 3 5 1 (.var 3) [⟨.int .u8,1,.aL 3⟩],.bC false 4 5 1 (.var 4) [⟨.int .u8,1,.aL 4⟩],.bC false 5 5 1 (.var 5) [⟨.int .u8,1,.aL 5⟩]] ⟨1,6,6,6,0,0,0⟩ ⟨[x0,x1,x2,x3,x4,x5],[A0,A1,A2,A3,A4,A5],[],[b0],[v0,v1,v2,v3,v4,v5],[],[],[]⟩ 1 1 Tryz.func32 (by kernel_rfl) h
def CU(ar:PT)(x0:Int)(A0 A1 A2:Nat→Int)(v0 _ v2:V1):Prop:=
 Cl 98 [] [] fun x hs _=> ∃(v3:V1) (A3:Nat→Int),x=v3.v∧hs=[bn true v3 256 A3]∧
 Cl 99 [v3.v,v0.v] [bn true v3 256 A3,bn false v0 16 A0] fun x hs l=> ∃(v4:V1) (x1:Int) (A4:Nat→Int),x=v4.v∧hs=l++[bo v4 x1 A4]∧
 ∀(_ _:V1) (_:Nat) (v7:V1),Cl 102 [v3.v,v4.v,v7.v,v2.v] [bn true v3 256 A3,bo v4 x1 A4,bn true v7 16 (aI A1 12 4 (aq (aq (aq (aq (fun _=>0) 0 0) 1 0) 2 0) 3 0)),bi v2 x0 A2] fun x hs l=> ∃(v8:V1) (x2:Int) (A5:Nat→Int),x=v8.v∧hs=l++[bo v8 x2 A5]∧
 ar (v8.v) [bo v8 x2 A5]
theorem Lu(ar:PT)(x0:Int)(A0 A1 A2:Nat→Int)(v0 v1 v2:V1)(h:CU ar x0 A0 A1 A2 v0 v1 v2):aw ae0 74 [v0.v,v1.v,v2.v] [bn false v0 16 A0,bn false v1 12 A1,bi v2 x0 A2] ar:=
 mK (C:=Fl.cx) [.vv 0,.vv 1,.vv 2] [.bC false 0 5 1 (.lit 16) [⟨.int .u8,1,.aL 0⟩],.bC false 1 5 1 (.lit 12) [⟨.int .u8,1,.aL 1⟩],.bC false 2 5 1 (.var 0) [⟨.int .u8,1,.aL 2⟩]] ⟨0,3,1,3,0,0,0⟩ ⟨[x0],[A0,A1,A2],[],[],[v0,v1,v2],[],[],[]⟩ 0 1 Tryz.func74 (by kernel_rfl) h
def CV(ar:PT)(x0 x1:Int)(A0 A1 A2 A3 A4:Nat→Int)(_ v1 v2 v3 v4:V1):Prop:=
 ao (0≤x0) (
 ao (0≤x1) (
 Cl 103 [.int .i64 x0] [] fun x hs _=> ∃(v5:V1) (A5:Nat→Int),x=v5.v∧hs=[bn true v5 8 A5]∧
 Cl 103 [.int .i64 x1] [] fun x hs _=> ∃(v6:V1) (A6:Nat→Int),x=v6.v∧hs=[bn true v6 8 A6]∧
 Cl 103 [.int .i64 (A0 3)] [] fun x hs _=> ∃(v7:V1) (A7:Nat→Int),x=v7.v∧hs=[bn true v7 8 A7]∧
 ∀b0:Nat,Cl 32 [.slice (some ⟨b0,0,none⟩) 6 6] [ax b0 true ([v5.v,v6.v,v7.v,v2.v,v3.v,v4.v]),bn true v5 8 A5,bn true v6 8 A6,bn true v7 8 A7,bn false v2 12 A2,bi v3 x0 A3,bi v4 x1 A4] fun x hs l=> ∃(v8:V1) (x2:Int) (A8:Nat→Int),x=v8.v∧hs=l++[bo v8 x2 A8]∧
 ao (0≤(A0 2)) (
 ao ((A0 2)≤48) (
 Cl 104 [.int .u8 (ae .u8 (A0 0)),(aD 1 v1.v (ag (A0 2)) 48 none),v8.v] [bn false v1 48 A1,bo v8 x2 A8] fun x hs l=> ∃(v9:V1) (x3:Int) (A9:Nat→Int),x=v9.v∧hs=l++[bo v9 x3 A9]∧
 ao (0≤(A0 3)) (
 ao ((A0 3)≤x3) (
 ar ((aD 1 v9.v 0 (ag (A0 3)) none)) [bo v9 x3 A9]))))))
theorem Lv(ar:PT)(x0 x1:Int)(A0 A1 A2 A3 A4:Nat→Int)(v0 v1 v2 v3 v4:V1)(h:CV ar x0 x1 A0 A1 A2 A3 A4 v0 v1 v2 v3 v4):aw ae0 75 [v0.v,v1.v,v2.v,v3.v,v4.v] [aE false 3 1 v0.v 5 (aQ 5 [aO .i64 1 A0]),bn false v1 48 A1,bn false v2 12 A2,bi v3 x0 A3,bi v4 x1 A4] ar:=
 mK (C:=Fl.cx) [.vv 0,.vv 1,.vv 2,.vv 3,.vv 4] [.bC false 0 3 1 (.lit 5) [⟨.int .i64,1,.aL 0⟩],.bC false 1 5 1 (.lit 48) [⟨.int .u8,1,.aL 1⟩],.bC false 2 5 1 (.lit 12) [⟨.int .u8,1,.aL 2⟩],.bC false 3 5 1 (.var 0) [⟨.int .u8,1,.aL 3⟩],.bC false 4 5 1 (.var 1) [⟨.int .u8,1,.aL 4⟩]] ⟨0,5,2,5,0,0,0⟩ ⟨[x0,x1],[A0,A1,A2,A3,A4],[],[],[v0,v1,v2,v3,v4],[],[],[]⟩ 0 1 Tryz.func75 (by kernel_rfl) h
def Hz(ar:PT)(x0 x1 x2 x3 x4:Int)(A0 A1 A2 A3:Nat→Int)(v0 v1 v2 v3:V1):Prop:=
 Cl 35 [.int .u16 x0] [] fun x hs _=> ∃(v4:V1) (x5:Int) (A4:Nat→Int),x=v4.v∧hs=[aE true 3 1 v4.v (ag x5) (aQ (ag x5) [aO .i64 1 A4])]∧
 Cl 71 [v1.v,.int .u64 x1] [bn false v1 12 A1] fun x hs l=> ∃(v5:V1) (A5:Nat→Int),x=v5.v∧hs=l++[bn true v5 12 A5]∧
 aR (4≤x0) (
 Cl 72 [v0.v] [bi v0 x2 A0] fun x hs l=> ∃(v6 v7:V1) (x6:Int) (A6 A7:Nat→Int),x= .agg #[v6.v,v7.v]∧hs=l++[bn true v6 256 A6,bo v7 x6 A7]∧
 Cl 73 [.agg #[v6.v,v7.v],v5.v,v2.v,v3.v] [bn true v6 256 A6,bo v7 x6 A7,bn true v5 12 A5,bi v2 x3 A2,bi v3 x4 A3] fun x hs l=> ∃(v8:V1) (x7:Int) (A8:Nat→Int),x=v8.v∧hs=l++[bo v8 x7 A8]∧
 ar (v8.v) [bo v7 x6 A7,bo v8 x7 A8]) (
 ao (2<x5) (
 ao (0≤(A4 2)) (
 ao ((A4 2)≤x2) (
 Cl 74 [(aD 1 v0.v 0 (ag (A4 2)) none),v5.v,v3.v] [bi v0 x2 A0,bn true v5 12 A5,bi v3 x4 A3] fun x hs l=> ∃(v6:V1) (x6:Int) (A6:Nat→Int),x=v6.v∧hs=l++[bo v6 x6 A6]∧
 ∀_:V1,ao (0≤x6) (
 ao (0≤x6) (
 gV x6 (
 ∀_:V1,Cl 75 [v4.v,v0.v,v5.v,v2.v,v6.v] [aE true 3 1 v4.v (ag x5) (aQ (ag x5) [aO .i64 1 A4]),bi v0 x2 A0,bn true v5 12 A5,bi v2 x3 A2,bo v6 x6 A6] fun x hs l=> ∃(v9:V1) (x7:Int) (A7:Nat→Int),x=v9.v∧hs=l++[bo v9 x7 A7]∧
 ao (0≤x7) (
 ao (0≤x7) (
 gV (x6+x7) (
 ∀v10:V1,ar (v10.v) [bo v10 (x6+x7) (aI A6 (ag x6) (ag x7) A7),bo v9 x7 A7]))))))))))
theorem O9(ar:PT)(x0 x1 x2 x3 x4:Int)(A0 A1 A2 A3:Nat→Int)(v0 v1 v2 v3:V1)(h:Hz ar x0 x1 x2 x3 x4 A0 A1 A2 A3 v0 v1 v2 v3):aw ae0 33 [.int .u16 x0,v0.v,v1.v,.int .u64 x1,v2.v,v3.v] [bi v0 x2 A0,bn false v1 12 A1,bi v2 x3 A2,bi v3 x4 A3] ar:=
 mK (C:=Fl.cx) [.int .u16 (.var 0),.vv 0,.vv 1,.int .u64 (.var 1),.vv 2,.vv 3] [.bC false 0 5 1 (.var 2) [⟨.int .u8,1,.aL 0⟩],.bC false 1 5 1 (.lit 12) [⟨.int .u8,1,.aL 1⟩],.bC false 2 5 1 (.var 3) [⟨.int .u8,1,.aL 2⟩],.bC false 3 5 1 (.var 4) [⟨.int .u8,1,.aL 3⟩]] ⟨0,4,5,4,0,0,0⟩ ⟨[x0,x1,x2,x3,x4],[A0,A1,A2,A3],[],[],[v0,v1,v2,v3],[],[],[]⟩ 0 2 Tryz.func33 (by kernel_rfl) h
def zU(ar:PT)(x0 x1 x2 x3 x4:Int)(A0 A1 A2 A3:Nat→Int)(v0 v1 v2 v3:V1):Prop:=
 Cl 35 [.int .u16 x0] [] fun x hs _=> ∃(v4:V1) (x5:Int) (A4:Nat→Int),x=v4.v∧hs=[aE true 3 1 v4.v (ag x5) (aQ (ag x5) [aO .i64 1 A4])]∧
 Cl 71 [v1.v,.int .u64 x1] [bn false v1 12 A1] fun x hs l=> ∃(v5:V1) (A5:Nat→Int),x=v5.v∧hs=l++[bn true v5 12 A5]∧
 aR (4≤x0) (
 Cl 72 [v0.v] [bi v0 x2 A0] fun x hs l=> ∃(v6 v7:V1) (x6:Int) (A6 A7:Nat→Int),x= .agg #[v6.v,v7.v]∧hs=l++[bn true v6 256 A6,bo v7 x6 A7]∧
 Cl 76 [.agg #[v6.v,v7.v],v5.v,v2.v,v3.v] [bn true v6 256 A6,bo v7 x6 A7,bn true v5 12 A5,bi v2 x3 A2,bi v3 x4 A3] fun x hs l=> ∃(v8:V1) (x7:Int) (A8:Nat→Int) (q0:Bool),x= .tuple #[v8.v,.bool q0]∧hs=l++[bo v8 x7 A8]∧
 ar (.tuple #[v8.v,.bool q0]) [bo v8 x7 A8]) (
 ao (0≤x4) (
 ao (3<x5) (
 bH (x4 - (A4 3)) ((
 ao (((x4 - (A4 3))<0)∨(0≤(x4 - (A4 3)))) (
 ao (((x4 - (A4 3))<0)∨((x4 - (A4 3))≤x4)) (
 ao (((x4 - (A4 3))<0)∨(0≤(x4 - (A4 3)))) (
 ao (((x4 - (A4 3))<0)∨((x4 - (A4 3))≤x4)) (
 ao (((x4 - (A4 3))<0)∨(0≤(x4 - (A4 3)))) (
 ao (((x4 - (A4 3))<0)∨((x4 - (A4 3))≤x4)) (
 ao (((x4 - (A4 3))<0)∨(0≤(x4 - (x4 - (A4 3))))) (
 aR (¬((x4 - (A4 3))<0)) (
 Cl 75 [v4.v,v0.v,v5.v,v2.v,(aD 1 v3.v 0 (ag (x4 - (A4 3))) none)] [aE true 3 1 v4.v (ag x5) (aQ (ag x5) [aO .i64 1 A4]),bi v0 x2 A0,bn true v5 12 A5,bi v2 x3 A2,bi v3 x4 A3] fun x hs l=> ∃(v6:V1) (x6:Int) (A6:Nat→Int),x=v6.v∧hs=l++[bo v6 x6 A6]∧
 aR (¬(cj (g9 A6 x6)=cj (g9 (aA A3 (ag (x4 - (A4 3)))) (x4 - (x4 - (A4 3)))))) (
 ar (.tuple #[.slice none 0 0,.bool false]) [bo v6 x6 A6]) (
 ao (2<x5) (
 ao (0≤(A4 2)) (
 ao ((A4 2)≤x2) (
 ao (0≤(x4 - (A4 3))) (
 ao ((x4 - (A4 3))≤x4) (
 Cl 74 [(aD 1 v0.v 0 (ag (A4 2)) none),v5.v,(aD 1 v3.v 0 (ag (x4 - (A4 3))) none)] [bi v0 x2 A0,bn true v5 12 A5,bi v3 x4 A3] fun x hs l=> ∃(v7:V1) (x7:Int) (A7:Nat→Int),x=v7.v∧hs=l++[bo v7 x7 A7]∧
 ar (.tuple #[v7.v,.bool true]) [bo v7 x7 A7]))))))) (
 ar (.tuple #[.slice none 0 0,.bool false]) [bn true v5 12 A5])))))))))))))
theorem Jg(ar:PT)(x0 x1 x2 x3 x4:Int)(A0 A1 A2 A3:Nat→Int)(v0 v1 v2 v3:V1)(h:zU ar x0 x1 x2 x3 x4 A0 A1 A2 A3 v0 v1 v2 v3):aw ae0 36 [.int .u16 x0,v0.v,v1.v,.int .u64 x1,v2.v,v3.v] [bi v0 x2 A0,bn false v1 12 A1,bi v2 x3 A2,bi v3 x4 A3] ar:=
 mK (C:=Fl.cx) [.int .u16 (.var 0),.vv 0,.vv 1,.int .u64 (.var 1),.vv 2,.vv 3] [.bC false 0 5 1 (.var 2) [⟨.int .u8,1,.aL 0⟩],.bC false 1 5 1 (.lit 12) [⟨.int .u8,1,.aL 1⟩],.bC false 2 5 1 (.var 3) [⟨.int .u8,1,.aL 2⟩],.bC false 3 5 1 (.var 4) [⟨.int .u8,1,.aL 3⟩]] ⟨0,4,5,4,0,0,0⟩ ⟨[x0,x1,x2,x3,x4],[A0,A1,A2,A3],[],[],[v0,v1,v2,v3],[],[],[]⟩ 0 1 Tryz.func36 (by kernel_rfl) h
def HB(ar:PT)(x0 x1 x2:Int)(_ _:Nat→Int)(_ _:V1):Prop:=
 Cl 35 [.int .u16 x0] [] fun x hs _=> ∃(v2:V1) (x3:Int) (A2:Nat→Int),x=v2.v∧hs=[aE true 3 1 v2.v (ag x3) (aQ (ag x3) [aO .i64 1 A2])]∧
 ao (0≤x3) (
 aR (x3=0) (
 ar (.int .i64 130) []) (
 ao (0≤x1) (
 ao (1<x3) (
 aR (¬(x1=(A2 1))) (
 ar (.int .i64 2) []) (
 ao (0≤x2) (
 aR (1024<x2) (
 ar (.int .i64 3) []) (
 ar (.int .i64 0) [])))))))
theorem O_(ar:PT)(x0 x1 x2:Int)(A0 A1:Nat→Int)(v0 v1:V1)(h:HB ar x0 x1 x2 A0 A1 v0 v1):aw ae0 30 [.int .u16 x0,v0.v,v1.v] [bi v0 x1 A0,bi v1 x2 A1] ar:=
 FJ (C:=Fl.cx) [.int .u16 (.var 0),.vv 0,.vv 1] [.bC false 0 5 1 (.var 1) [⟨.int .u8,1,.aL 0⟩],.bC false 1 5 1 (.var 2) [⟨.int .u8,1,.aL 1⟩]] ⟨0,2,3,2,0,0,0⟩ ⟨[x0,x1,x2],[A0,A1],[],[],[v0,v1],[],[],[]⟩ Tryz.func30 (by kernel_rfl) h
def zV(ar:PT)(x0 x1 x2 x3 x4 x5:Int)(A0 A1 A2 A3:Nat→Int)(v0 v1 v2 v3:V1):Prop:=
 Cl 30 [.int .u16 x0,v0.v,v2.v] [bi v0 x3 A0,bi v2 x4 A2] fun x hs l=> ∃x6:Int,x= .int .i64 x6∧hs=l∧
 aR (¬(x6=0)) (
 ar (.tuple #[.slice none 0 0,.int .i64 x6]) [bi v3 x5 A3]) (
 ao (0≤x5) (
 aR (65536<x5) (
 ar (.tuple #[.slice none 0 0,.int .i64 3]) [bi v3 x5 A3]) (
 Cl 31 [.agg #[.int .u64 x1,.int .u64 x2]] [] fun x hs _=> ∃(v4:V1) (x7:Int) (A4:Nat→Int),x=v4.v∧hs=[bo v4 x7 A4]∧
 ∀b0:Nat,Cl 32 [.slice (some ⟨b0,0,none⟩) 2 2] [ax b0 true ([v4.v,v2.v]),bo v4 x7 A4,bi v2 x4 A2] fun x hs l=> ∃(v5:V1) (x8:Int) (A5:Nat→Int),x=v5.v∧hs=l++[bo v5 x8 A5]∧
 Cl 33 [.int .u16 x0,v0.v,v1.v,.int .u64 x2,v5.v,v3.v] [bi v0 x3 A0,bn false v1 12 A1,bo v5 x8 A5,bi v3 x5 A3] fun x hs l=> ∃(v6:V1) (x9:Int) (A6:Nat→Int),x=v6.v∧hs=l++[bo v6 x9 A6]∧
 ∀b1:Nat,Cl 32 [.slice (some ⟨b1,0,none⟩) 2 2] [ax b1 true ([v4.v,v6.v]),bo v4 x7 A4,bo v6 x9 A6] fun x hs l=> ∃(v7:V1) (dS:Int) (A7:Nat→Int),x=v7.v∧hs=l++[bo v7 dS A7]∧
 ar (.tuple #[v7.v,.int .i64 0]) [bo v7 dS A7])))
theorem Jh(ar:PT)(x0 x1 x2 x3 x4 x5:Int)(A0 A1 A2 A3:Nat→Int)(v0 v1 v2 v3:V1)(h:zV ar x0 x1 x2 x3 x4 x5 A0 A1 A2 A3 v0 v1 v2 v3):aw ae0 9 [.int .u16 x0,.int .u64 x1,v0.v,v1.v,.int .u64 x2,v2.v,v3.v] [bi v0 x3 A0,bn false v1 12 A1,bi v2 x4 A2,bi v3 x5 A3] ar:=
 mK (C:=Fl.cx) [.int .u16 (.var 0),.int .u64 (.var 1),.vv 0,.vv 1,.int .u64 (.var 2),.vv 2,.vv 3] [.bC false 0 5 1 (.var 3) [⟨.int .u8,1,.aL 0⟩],.bC false 1 5 1 (.lit 12) [⟨.int .u8,1,.aL 1⟩],.bC false 2 5 1 (.var 4) [⟨.int .u8,1,.aL 2⟩],.bC false 3 5 1 (.var 5) [⟨.int .u8,1,.aL 3⟩]] ⟨0,4,6,4,0,0,0⟩ ⟨[x0,x1,x2,x3,x4,x5],[A0,A1,A2,A3],[],[],[v0,v1,v2,v3],[],[],[]⟩ 0 1 Tryz.func9 (by kernel_rfl) h
def zW(ar:PT)(x0 x1 x2 x3 x4:Int)(A0 A1 A2 A3:Nat→Int)(v0 v1 v2 v3:V1):Prop:=
 Cl 30 [.int .u16 x0,v0.v,v2.v] [bi v0 x2 A0,bi v2 x3 A2] fun x hs l=> ∃x5:Int,x= .int .i64 x5∧hs=l∧
 aR (¬(x5=0)) (
 ar (.tuple #[.slice none 0 0,.int .u64 0,.int .i64 x5]) [bi v3 x4 A3]) (
 Cl 24 [v3.v] [bi v3 x4 A3] fun x hs l=> ∃x6 x7 x8:Int,x= .tuple #[.agg #[.int .u64 x6,.int .u64 x7],.int .i64 x8]∧hs=l∧
 ∀b0:Nat,aR (x8=0) (
 ar (.tuple #[.slice none 0 0,.int .u64 0,.int .i64 9]) [ax b0 true ([.int .u64 x6,.int .u64 x7])]) (
 aR (¬(x6=x1)) (
 ar (.tuple #[.slice none 0 0,.int .u64 0,.int .i64 4]) [ax b0 true ([.int .u64 x6,.int .u64 x7])]) (
 ao (0≤x4) (
 bH (x4 - x8) ((
 Cl 35 [.int .u16 x0] [] fun x hs _=> ∃(v4:V1) (x9:Int) (A4:Nat→Int),x=v4.v∧hs=[aE true 3 1 v4.v (ag x9) (aQ (ag x9) [aO .i64 1 A4])]∧
 ao (3<x9) (
 bH (65536+(A4 3)) ((
 aR ((65536+(A4 3))<(x4 - x8)) (
 ar (.tuple #[.slice none 0 0,.int .u64 0,.int .i64 3]) [aE true 3 1 v4.v (ag x9) (aQ (ag x9) [aO .i64 1 A4])]) (
 ao (0≤x8) (
 ao (x8≤x4) (
 ∀b1:Nat,Cl 32 [.slice (some ⟨b1,0,none⟩) 2 2] [ax b1 true ([(aD 1 v3.v 0 (ag x8) none),v2.v]),bi v3 x4 A3,bi v2 x3 A2] fun x hs l=> ∃(v5:V1) (dS:Int) (A5:Nat→Int),x=v5.v∧hs=l++[bo v5 dS A5]∧
 Cl 36 [.int .u16 x0,v0.v,v1.v,.int .u64 x7,v5.v,(aD 1 v3.v (ag x8) (ag x4) none)] [bi v0 x2 A0,bn false v1 12 A1,bo v5 dS A5,bi v3 x4 A3] fun x hs l=> ∃(v6:V1) (dQ:Int) (A6:Nat→Int) (q0:Bool),x= .tuple #[v6.v,.bool q0]∧hs=l++[bo v6 dQ A6]∧
 aR (¬(q0=true)) (
 ar (.tuple #[.slice none 0 0,.int .u64 0,.int .i64 140]) [bo v6 dQ A6]) (
 ar (.tuple #[v6.v,.int .u64 x7,.int .i64 0]) [bo v6 dQ A6])))))))))))))
theorem Ji(ar:PT)(x0 x1 x2 x3 x4:Int)(A0 A1 A2 A3:Nat→Int)(v0 v1 v2 v3:V1)(h:zW ar x0 x1 x2 x3 x4 A0 A1 A2 A3 v0 v1 v2 v3):aw ae0 11 [.int .u16 x0,.int .u64 x1,v0.v,v1.v,v2.v,v3.v] [bi v0 x2 A0,bn false v1 12 A1,bi v2 x3 A2,bi v3 x4 A3] ar:=
 mK (C:=Fl.cx) [.int .u16 (.var 0),.int .u64 (.var 1),.vv 0,.vv 1,.vv 2,.vv 3] [.bC false 0 5 1 (.var 2) [⟨.int .u8,1,.aL 0⟩],.bC false 1 5 1 (.lit 12) [⟨.int .u8,1,.aL 1⟩],.bC false 2 5 1 (.var 3) [⟨.int .u8,1,.aL 2⟩],.bC false 3 5 1 (.var 4) [⟨.int .u8,1,.aL 3⟩]] ⟨0,4,5,4,0,0,0⟩ ⟨[x0,x1,x2,x3,x4],[A0,A1,A2,A3],[],[],[v0,v1,v2,v3],[],[],[]⟩ 0 1 Tryz.func11 (by kernel_rfl) h
end Go.RX.Fl
