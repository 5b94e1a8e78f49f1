/- Sums. -/
import Derived.Test.YtmgbbbmdbpbeeaaGreatM24
open Go.IntKind renaming wrap → ae
open Go.Proofs.Tryz renaming prog → aiT
open Int renaming toNat → ag
open List renaming append → aiL
namespace Go.RX.Fq
open Go.RX Go.Proofs Go.RX.Fe Go.RX.Fg Go.RX.Fi Go.RX.Fj Go.RX.Fk Go.RX.Fl
set_option maxRecDepth 100000
def tM(ao:PT)(A0:Nat→Int)(_:V1):Prop:=
 ∃post,BQ aiT 143 [.int .i64 128] [] post∧
 ∀x hs,post x hs→∃(v1:V1) (x0:Int) (A1:Nat→Int),x=v1.v∧hs=[bo v1 x0 A1]∧
 aw (128≤x0) (
 ao ((aC 1 v1.v 0 128 (some 128))) [bo v1 x0 (ay (ay (ay (ay (ay (ay (ay (ay A1 0 1 A0) 1 1 (ay A1 0 1 A0)) 2 2 (ay (ay A1 0 1 A0) 1 1 (ay A1 0 1 A0))) 4 4 (ay (ay (ay A1 0 1 A0) 1 1 (ay A1 0 1 A0)) 2 2 (ay (ay A1 0 1 A0) 1 1 (ay A1 0 1 A0)))) 8 8 (ay (ay (ay (ay A1 0 1 A0) 1 1 (ay A1 0 1 A0)) 2 2 (ay (ay A1 0 1 A0) 1 1 (ay A1 0 1 A0))) 4 4 (ay (ay (ay A1 0 1 A0) 1 1 (ay A1 0 1 A0)) 2 2 (ay (ay A1 0 1 A0) 1 1 (ay A1 0 1 A0))))) 16 16 (ay (ay (ay (ay (ay A1 0 1 A0) 1 1 (ay A1 0 1 A0)) 2 2 (ay (ay A1 0 1 A0) 1 1 (ay A1 0 1 A0))) 4 4 (ay (ay (ay A1 0 1 A0) 1 1 (ay A1 0 1 A0)) 2 2 (ay (ay A1 0 1 A0) 1 1 (ay A1 0 1 A0)))) 8 8 (ay (ay (ay (ay A1 0 1 A0) 1 1 (ay A1 0 1 A0)) 2 2 (ay (ay A1 0 1 A0) 1 1 (ay A1 0 1 A0))) 4 4 (ay (ay (ay A1 0 1 A0) 1 1 (ay A1 0 1 A0)) 2 2 (ay (ay A1 0 1 A0) 1 1 (ay A1 0 1 A0)))))) 32 32 (ay (ay (ay (ay (ay (ay A1 0 1 A0) 1 1 (ay A1 0 1 A0)) 2 2 (ay (ay A1 0 1 A0) 1 1 (ay A1 0 1 A0))) 4 4 (ay (ay (ay A1 0 1 A0) 1 1 (ay A1 0 1 A0)) 2 2 (ay (ay A1 0 1 A0) 1 1 (ay A1 0 1 A0)))) 8 8 (ay (ay (ay (ay A1 0 1 A0) 1 1 (ay A1 0 1 A0)) 2 2 (ay (ay A1 0 1 A0) 1 1 (ay A1 0 1 A0))) 4 4 (ay (ay (ay A1 0 1 A0) 1 1 (ay A1 0 1 A0)) 2 2 (ay (ay A1 0 1 A0) 1 1 (ay A1 0 1 A0))))) 16 16 (ay (ay (ay (ay (ay A1 0 1 A0) 1 1 (ay A1 0 1 A0)) 2 2 (ay (ay A1 0 1 A0) 1 1 (ay A1 0 1 A0))) 4 4 (ay (ay (ay A1 0 1 A0) 1 1 (ay A1 0 1 A0)) 2 2 (ay (ay A1 0 1 A0) 1 1 (ay A1 0 1 A0)))) 8 8 (ay (ay (ay (ay A1 0 1 A0) 1 1 (ay A1 0 1 A0)) 2 2 (ay (ay A1 0 1 A0) 1 1 (ay A1 0 1 A0))) 4 4 (ay (ay (ay A1 0 1 A0) 1 1 (ay A1 0 1 A0)) 2 2 (ay (ay A1 0 1 A0) 1 1 (ay A1 0 1 A0))))))) 64 64 (ay (ay (ay (ay (ay (ay (ay A1 0 1 A0) 1 1 (ay A1 0 1 A0)) 2 2 (ay (ay A1 0 1 A0) 1 1 (ay A1 0 1 A0))) 4 4 (ay (ay (ay A1 0 1 A0) 1 1 (ay A1 0 1 A0)) 2 2 (ay (ay A1 0 1 A0) 1 1 (ay A1 0 1 A0)))) 8 8 (ay (ay (ay (ay A1 0 1 A0) 1 1 (ay A1 0 1 A0)) 2 2 (ay (ay A1 0 1 A0) 1 1 (ay A1 0 1 A0))) 4 4 (ay (ay (ay A1 0 1 A0) 1 1 (ay A1 0 1 A0)) 2 2 (ay (ay A1 0 1 A0) 1 1 (ay A1 0 1 A0))))) 16 16 (ay (ay (ay (ay (ay A1 0 1 A0) 1 1 (ay A1 0 1 A0)) 2 2 (ay (ay A1 0 1 A0) 1 1 (ay A1 0 1 A0))) 4 4 (ay (ay (ay A1 0 1 A0) 1 1 (ay A1 0 1 A0)) 2 2 (ay (ay A1 0 1 A0) 1 1 (ay A1 0 1 A0)))) 8 8 (ay (ay (ay (ay A1 0 1 A0) 1 1 (ay A1 0 1 A0)) 2 2 (ay (ay A1 0 1 A0) 1 1 (ay A1 0 1 A0))) 4 4 (ay (ay (ay A1 0 1 A0) 1 1 (ay A1 0 1 A0)) 2 2 (ay (ay A1 0 1 A0) 1 1 (ay A1 0 1 A0)))))) 32 32 (ay (ay (ay (ay (ay (ay A1 0 1 A0) 1 1 (ay A1 0 1 A0)) 2 2 (ay (ay A1 0 1 A0) 1 1 (ay A1 0 1 A0))) 4 4 (ay (ay (ay A1 0 1 A0) 1 1 (ay A1 0 1 A0)) 2 2 (ay (ay A1 0 1 A0) 1 1 (ay A1 0 1 A0)))) 8 8 (ay (ay (ay (ay A1 0 1 A0) 1 1 (ay A1 0 1 A0)) 2 2 (ay (ay A1 0 1 A0) 1 1 (ay A1 0 1 A0))) 4 4 (ay (ay (ay A1 0 1 A0) 1 1 (ay A1 0 1 A0)) 2 2 (ay (ay A1 0 1 A0) 1 1 (ay A1 0 1 A0))))) 16 16 (ay (ay (ay (ay (ay A1 0 1 A0) 1 1 (ay A1 0 1 A0)) 2 2 (ay (ay A1 0 1 A0) 1 1 (ay A1 0 1 A0))) 4 4 (ay (ay (ay A1 0 1 A0) 1 1 (ay A1 0 1 A0)) 2 2 (ay (ay A1 0 1 A0) 1 1 (ay A1 0 1 A0)))) 8 8 (ay (ay (ay (ay A1 0 1 A0) 1 1 (ay A1 0 1 A0)) 2 2 (ay (ay A1 0 1 A0) 1 1 (ay A1 0 1 A0))) 4 4 (ay (ay (ay A1 0 1 A0) 1 1 (ay A1 0 1 A0)) 2 2 (ay (ay A1 0 1 A0) 1 1 (ay A1 0 1 A0))))))))])
theorem CM(ao:PT)(A0:Nat→Int)(v0:V1)(h:tM ao A0 v0):gq 118 [.vv 0,.int .i64 (.lit 128)] [.bK false 0 5 1 (.lit 1) [⟨.int .u8,1,.aN 0⟩]] ⟨[],[A0],[],[],[v0],[],[],[]⟩ ao:=
 qX (C:=Fq.cx) _ _ ⟨0,1,0,1,0,0,0⟩ _ 0 1 Tryz.func118 (by kernel_rfl) h
def E4(ao:PT)(x0 x1:Int)(A0:Nat→Int)(v0:V1):Prop:=
 aw (0≤x1) (
 aJ (64<x1) (
 ∀b0:Nat,Cl 96 [.int .u8 1,.slice (some ⟨b0,0,none⟩) 1 1] [al b0 true ([v0.v]),bi v0 x1 A0] fun x hs l=> ∃(v1:V1) (x2:Int) (A1:Nat→Int),x=v1.v∧hs=l++[bo v1 x2 A1]∧
 ∀b1:Nat,Cl 118 [.slice (some ⟨b1,0,none⟩) 1 1,.int .i64 64] [al b1 true ([.int .u8 x0])] fun x hs l=> ∃(v2:V1) (x3:Int) (A2:Nat→Int),x=v2.v∧hs=l++[bo v2 x3 A2]∧
 aw (0≤x2) (
 ∃(fL:Ext→Prop) (fY:Ext→Nat),(∃(x4:Int) (A3:Nat→Int),x4=0∧(∀j,j<(ag x3)→A3 j=A2 j)∧fL ⟨[],[],[x4],[A3],[],[],[]⟩)∧
 ∀(x4:Int) (A3:Nat→Int),fL ⟨[],[],[x4],[A3],[],[],[]⟩→
 aJ (x4<x2) (
 aw (0≤x4) (
 aw (x4<x3) (
 cg (x4+1) ((
 ∃(dT:Int) (jf:Nat→Int),dT=(x4+1)∧(∀j,j<(ag x3)→jf j=(au A3 (ag x4) (ak .aB .u8 (A3 (ag x4)) (A1 (ag x4)))) j)∧fL ⟨[],[],[dT],[jf],[],[],[]⟩∧fY ⟨[],[],[dT],[jf],[],[],[]⟩<fY ⟨[],[],[x4],[A3],[],[],[]⟩))))) (
 ao (v2.v) [bo v2 x3 A3]))) (
 ∀b0:Nat,Cl 118 [.slice (some ⟨b0,0,none⟩) 1 1,.int .i64 64] [al b0 true ([.int .u8 x0])] fun x hs l=> ∃(v1:V1) (x2:Int) (A1:Nat→Int),x=v1.v∧hs=l++[bo v1 x2 A1]∧
 ∃(fL:Ext→Prop) (fY:Ext→Nat),(∃(x3:Int) (A2:Nat→Int),x3=0∧(∀j,j<(ag x2)→A2 j=A1 j)∧fL ⟨[],[],[x3],[A2],[],[],[]⟩)∧
 ∀(x3:Int) (A2:Nat→Int),fL ⟨[],[],[x3],[A2],[],[],[]⟩→
 aJ (x3<x1) (
 aw (0≤x3) (
 aw (x3<x2) (
 cg (x3+1) ((
 ∃(dJ:Int) (fo:Nat→Int),dJ=(x3+1)∧(∀j,j<(ag x2)→fo j=(au A2 (ag x3) (ak .aB .u8 (A2 (ag x3)) (A0 (ag x3)))) j)∧fL ⟨[],[],[dJ],[fo],[],[],[]⟩∧fY ⟨[],[],[dJ],[fo],[],[],[]⟩<fY ⟨[],[],[x3],[A2],[],[],[]⟩))))) (
 ao (v1.v) [bo v1 x2 A2])))
theorem OQ(ao:PT)(x0 x1:Int)(A0:Nat→Int)(v0:V1)(h:E4 ao x0 x1 A0 v0):gq 97 [.int .u8 (.lit 1),.vv 0,.int .u8 (.var 0)] [.bK false 0 5 1 (.var 1) [⟨.int .u8,1,.aN 0⟩]] ⟨[x0,x1],[A0],[],[],[v0],[],[],[]⟩ ao:=
 qX (C:=Fq.cx) _ _ ⟨0,1,2,1,0,0,0⟩ _ 0 1 Tryz.func97 (by kernel_rfl) h
def E5(ao:PT)(x0 x1:Int)(A0:Nat→Int)(v0:V1):Prop:=
 aw (0≤x1) (
 aJ (128<x1) (
 ∀b0:Nat,Cl 96 [.int .u8 2,.slice (some ⟨b0,0,none⟩) 1 1] [al b0 true ([v0.v]),bi v0 x1 A0] fun x hs l=> ∃(v1:V1) (x2:Int) (A1:Nat→Int),x=v1.v∧hs=l++[bo v1 x2 A1]∧
 ∀b1:Nat,Cl 118 [.slice (some ⟨b1,0,none⟩) 1 1,.int .i64 128] [al b1 true ([.int .u8 x0])] fun x hs l=> ∃(v2:V1) (x3:Int) (A2:Nat→Int),x=v2.v∧hs=l++[bo v2 x3 A2]∧
 aw (0≤x2) (
 ∃(fL:Ext→Prop) (fY:Ext→Nat),(∃(x4:Int) (A3:Nat→Int),x4=0∧(∀j,j<(ag x3)→A3 j=A2 j)∧fL ⟨[],[],[x4],[A3],[],[],[]⟩)∧
 ∀(x4:Int) (A3:Nat→Int),fL ⟨[],[],[x4],[A3],[],[],[]⟩→
 aJ (x4<x2) (
 aw (0≤x4) (
 aw (x4<x3) (
 cg (x4+1) ((
 ∃(dT:Int) (jf:Nat→Int),dT=(x4+1)∧(∀j,j<(ag x3)→jf j=(au A3 (ag x4) (ak .aB .u8 (A3 (ag x4)) (A1 (ag x4)))) j)∧fL ⟨[],[],[dT],[jf],[],[],[]⟩∧fY ⟨[],[],[dT],[jf],[],[],[]⟩<fY ⟨[],[],[x4],[A3],[],[],[]⟩))))) (
 ao (v2.v) [bo v2 x3 A3]))) (
 ∀b0:Nat,Cl 118 [.slice (some ⟨b0,0,none⟩) 1 1,.int .i64 128] [al b0 true ([.int .u8 x0])] fun x hs l=> ∃(v1:V1) (x2:Int) (A1:Nat→Int),x=v1.v∧hs=l++[bo v1 x2 A1]∧
 ∃(fL:Ext→Prop) (fY:Ext→Nat),(∃(x3:Int) (A2:Nat→Int),x3=0∧(∀j,j<(ag x2)→A2 j=A1 j)∧fL ⟨[],[],[x3],[A2],[],[],[]⟩)∧
 ∀(x3:Int) (A2:Nat→Int),fL ⟨[],[],[x3],[A2],[],[],[]⟩→
 aJ (x3<x1) (
 aw (0≤x3) (
 aw (x3<x2) (
 cg (x3+1) ((
 ∃(dJ:Int) (fo:Nat→Int),dJ=(x3+1)∧(∀j,j<(ag x2)→fo j=(au A2 (ag x3) (ak .aB .u8 (A2 (ag x3)) (A0 (ag x3)))) j)∧fL ⟨[],[],[dJ],[fo],[],[],[]⟩∧fY ⟨[],[],[dJ],[fo],[],[],[]⟩<fY ⟨[],[],[x3],[A2],[],[],[]⟩))))) (
 ao (v1.v) [bo v1 x2 A2])))
theorem OR(ao:PT)(x0 x1:Int)(A0:Nat→Int)(v0:V1)(h:E5 ao x0 x1 A0 v0):gq 97 [.int .u8 (.lit 2),.vv 0,.int .u8 (.var 0)] [.bK false 0 5 1 (.var 1) [⟨.int .u8,1,.aN 0⟩]] ⟨[x0,x1],[A0],[],[],[v0],[],[],[]⟩ ao:=
 qX (C:=Fq.cx) _ _ ⟨0,1,2,1,0,0,0⟩ _ 0 1 Tryz.func97 (by kernel_rfl) h
def Bt(ao:PT)(x0:Int):Prop:=
 ∀b0:Nat,Cl 118 [.slice (some ⟨b0,0,none⟩) 1 1,.int .i64 64] [al b0 true ([.int .u8 x0])] fun x hs l=> ∃(v0:V1) (x1:Int) (A0:Nat→Int),x=v0.v∧hs=l++[bo v0 x1 A0]∧
 ∃(cc:Ext→Prop) (_:Ext→Nat),(∃(x2:Int) (A1:Nat→Int),x2=0∧(∀j,j<(ag x1)→A1 j=A0 j)∧cc ⟨[],[],[x2],[A1],[],[],[]⟩)∧
 ∀(x2:Int) (A1:Nat→Int),cc ⟨[],[],[x2],[A1],[],[],[]⟩→
 aJ (x2<0) (
 False) (
 ao (v0.v) [bo v0 x1 A1])
theorem LB(ao:PT)(x0:Int)(h:Bt ao x0):gq 97 [.int .u8 (.lit 1),.bU,.int .u8 (.var 0)] [] ⟨[x0],[],[],[],[],[],[],[]⟩ ao:=
 qX (C:=Fq.cx) _ _ ⟨0,0,1,0,0,0,0⟩ _ 0 1 Tryz.func97 (by kernel_rfl) h
def Bu(ao:PT)(x0:Int):Prop:=
 ∀b0:Nat,Cl 118 [.slice (some ⟨b0,0,none⟩) 1 1,.int .i64 128] [al b0 true ([.int .u8 x0])] fun x hs l=> ∃(v0:V1) (x1:Int) (A0:Nat→Int),x=v0.v∧hs=l++[bo v0 x1 A0]∧
 ∃(cc:Ext→Prop) (_:Ext→Nat),(∃(x2:Int) (A1:Nat→Int),x2=0∧(∀j,j<(ag x1)→A1 j=A0 j)∧cc ⟨[],[],[x2],[A1],[],[],[]⟩)∧
 ∀(x2:Int) (A1:Nat→Int),cc ⟨[],[],[x2],[A1],[],[],[]⟩→
 aJ (x2<0) (
 False) (
 ao (v0.v) [bo v0 x1 A1])
theorem LD(ao:PT)(x0:Int)(h:Bu ao x0):gq 97 [.int .u8 (.lit 2),.bU,.int .u8 (.var 0)] [] ⟨[x0],[],[],[],[],[],[],[]⟩ ao:=
 qX (C:=Fq.cx) _ _ ⟨0,0,1,0,0,0,0⟩ _ 0 1 Tryz.func97 (by kernel_rfl) h
def v_(ao:PT)(x0:Int)(A0:Nat→Int)(v0:V1)(b0:Nat):Prop:=
 Cl 97 [.int .u8 1,.slice none 0 0,.int .u8 54] [] fun x hs _=> ∃(v1:V1) (x1:Int) (A1:Nat→Int),x=v1.v∧hs=[bo v1 x1 A1]∧
 ∀(_:Nat) (v2:V1),Cl 96 [.int .u8 1,v2.v] [aG true 24 1 v2.v 2 [v1.v,v0.v],bo v1 x1 A1,bi v0 x0 A0] fun x hs l=> ∃(v3:V1) (x2:Int) (A2:Nat→Int),x=v3.v∧hs=l++[bo v3 x2 A2]∧
 Cl 97 [.int .u8 1,.slice none 0 0,.int .u8 92] [] fun x hs _=> ∃(v4:V1) (x3:Int) (A3:Nat→Int),x=v4.v∧hs=[bo v4 x3 A3]∧
 ∀b2:Nat,Cl 96 [.int .u8 1,.slice (some ⟨b2,0,none⟩) 2 2] [al b2 true ([v4.v,v3.v]),bo v4 x3 A3,bo v3 x2 A2] fun x hs l=> ∃(v5:V1) (x4:Int) (A4:Nat→Int),x=v5.v∧hs=l++[bo v5 x4 A4]∧
 ao (v5.v) [al b0 true ([v0.v]),bo v5 x4 A4]
theorem E6(ao:PT)(x0:Int)(A0:Nat→Int)(v0:V1)(b0:Nat)(h:v_ ao x0 A0 v0 b0):gq 64 [.int .u8 (.lit 1),.bU,.sl 0 (.lit 0) 1 (.lit 1) (.lit 1)] [.row 0 true [.vv 0],.bK false 0 5 1 (.var 0) [⟨.int .u8,1,.aN 0⟩]] ⟨[x0],[A0],[],[b0],[v0],[],[],[]⟩ ao:=
 qX (C:=Fq.cx) _ _ ⟨1,1,1,1,0,0,0⟩ _ 1 1 Tryz.func64 (by kernel_rfl) h
def zi(ao:PT)(x0 x1 x2 x3:Int)(A0 A1 A2 A3:Nat→Int)(v0 v1 v2 v3:V1)(b0:Nat):Prop:=
 Cl 97 [.int .u8 1,v3.v,.int .u8 54] [bi v3 x3 A3] fun x hs l=> ∃(v4:V1) (x4:Int) (A4:Nat→Int),x=v4.v∧hs=l++[bo v4 x4 A4]∧
 ∀(_:Nat) (v5:V1),Cl 96 [.int .u8 1,v5.v] [aG true 24 1 v5.v 4 [v4.v,v0.v,v1.v,v2.v],bo v4 x4 A4,bi v0 x0 A0,bi v1 x1 A1,bi v2 x2 A2] fun x hs l=> ∃(v6:V1) (x5:Int) (A5:Nat→Int),x=v6.v∧hs=l++[bo v6 x5 A5]∧
 Cl 97 [.int .u8 1,v3.v,.int .u8 92] [bi v3 x3 A3] fun x hs l=> ∃(v7:V1) (x6:Int) (A6:Nat→Int),x=v7.v∧hs=l++[bo v7 x6 A6]∧
 ∀b2:Nat,Cl 96 [.int .u8 1,.slice (some ⟨b2,0,none⟩) 2 2] [al b2 true ([v7.v,v6.v]),bo v7 x6 A6,bo v6 x5 A5] fun x hs l=> ∃(v8:V1) (x7:Int) (A7:Nat→Int),x=v8.v∧hs=l++[bo v8 x7 A7]∧
 ao (v8.v) [al b0 true ([v0.v,v1.v,v2.v]),bo v8 x7 A7]
theorem HD(ao:PT)(x0 x1 x2 x3:Int)(A0 A1 A2 A3:Nat→Int)(v0 v1 v2 v3:V1)(b0:Nat)(h:zi ao x0 x1 x2 x3 A0 A1 A2 A3 v0 v1 v2 v3 b0):gq 64 [.int .u8 (.lit 1),.vv 3,.sl 0 (.lit 0) 1 (.lit 3) (.lit 3)] [.row 0 true [.vv 0,.vv 1,.vv 2],.bK false 0 5 1 (.var 0) [⟨.int .u8,1,.aN 0⟩],.bK false 1 5 1 (.var 1) [⟨.int .u8,1,.aN 1⟩],.bK false 2 5 1 (.var 2) [⟨.int .u8,1,.aN 2⟩],.bK false 3 5 1 (.var 3) [⟨.int .u8,1,.aN 3⟩]] ⟨[x0,x1,x2,x3],[A0,A1,A2,A3],[],[b0],[v0,v1,v2,v3],[],[],[]⟩ ao:=
 qX (C:=Fq.cx) _ _ ⟨1,4,4,4,0,0,0⟩ _ 1 1 Tryz.func64 (by kernel_rfl) h
def we(ao:PT)(x0:Int)(A0:Nat→Int)(v0:V1)(b0:Nat):Prop:=
 Cl 97 [.int .u8 2,.slice none 0 0,.int .u8 54] [] fun x hs _=> ∃(v1:V1) (x1:Int) (A1:Nat→Int),x=v1.v∧hs=[bo v1 x1 A1]∧
 ∀(_:Nat) (v2:V1),Cl 96 [.int .u8 2,v2.v] [aG true 24 1 v2.v 2 [v1.v,v0.v],bo v1 x1 A1,bi v0 x0 A0] fun x hs l=> ∃(v3:V1) (x2:Int) (A2:Nat→Int),x=v3.v∧hs=l++[bo v3 x2 A2]∧
 Cl 97 [.int .u8 2,.slice none 0 0,.int .u8 92] [] fun x hs _=> ∃(v4:V1) (x3:Int) (A3:Nat→Int),x=v4.v∧hs=[bo v4 x3 A3]∧
 ∀b2:Nat,Cl 96 [.int .u8 2,.slice (some ⟨b2,0,none⟩) 2 2] [al b2 true ([v4.v,v3.v]),bo v4 x3 A3,bo v3 x2 A2] fun x hs l=> ∃(v5:V1) (x4:Int) (A4:Nat→Int),x=v5.v∧hs=l++[bo v5 x4 A4]∧
 ao (v5.v) [al b0 true ([v0.v]),bo v5 x4 A4]
theorem E7(ao:PT)(x0:Int)(A0:Nat→Int)(v0:V1)(b0:Nat)(h:we ao x0 A0 v0 b0):gq 64 [.int .u8 (.lit 2),.bU,.sl 0 (.lit 0) 1 (.lit 1) (.lit 1)] [.row 0 true [.vv 0],.bK false 0 5 1 (.var 0) [⟨.int .u8,1,.aN 0⟩]] ⟨[x0],[A0],[],[b0],[v0],[],[],[]⟩ ao:=
 qX (C:=Fq.cx) _ _ ⟨1,1,1,1,0,0,0⟩ _ 1 1 Tryz.func64 (by kernel_rfl) h
def zj(ao:PT)(x0 x1 x2 x3:Int)(A0 A1 A2 A3:Nat→Int)(v0 v1 v2 v3:V1)(b0:Nat):Prop:=
 Cl 97 [.int .u8 2,v3.v,.int .u8 54] [bi v3 x3 A3] fun x hs l=> ∃(v4:V1) (x4:Int) (A4:Nat→Int),x=v4.v∧hs=l++[bo v4 x4 A4]∧
 ∀(_:Nat) (v5:V1),Cl 96 [.int .u8 2,v5.v] [aG true 24 1 v5.v 4 [v4.v,v0.v,v1.v,v2.v],bo v4 x4 A4,bi v0 x0 A0,bi v1 x1 A1,bi v2 x2 A2] fun x hs l=> ∃(v6:V1) (x5:Int) (A5:Nat→Int),x=v6.v∧hs=l++[bo v6 x5 A5]∧
 Cl 97 [.int .u8 2,v3.v,.int .u8 92] [bi v3 x3 A3] fun x hs l=> ∃(v7:V1) (x6:Int) (A6:Nat→Int),x=v7.v∧hs=l++[bo v7 x6 A6]∧
 ∀b2:Nat,Cl 96 [.int .u8 2,.slice (some ⟨b2,0,none⟩) 2 2] [al b2 true ([v7.v,v6.v]),bo v7 x6 A6,bo v6 x5 A5] fun x hs l=> ∃(v8:V1) (x7:Int) (A7:Nat→Int),x=v8.v∧hs=l++[bo v8 x7 A7]∧
 ao (v8.v) [al b0 true ([v0.v,v1.v,v2.v]),bo v8 x7 A7]
theorem HE(ao:PT)(x0 x1 x2 x3:Int)(A0 A1 A2 A3:Nat→Int)(v0 v1 v2 v3:V1)(b0:Nat)(h:zj ao x0 x1 x2 x3 A0 A1 A2 A3 v0 v1 v2 v3 b0):gq 64 [.int .u8 (.lit 2),.vv 3,.sl 0 (.lit 0) 1 (.lit 3) (.lit 3)] [.row 0 true [.vv 0,.vv 1,.vv 2],.bK false 0 5 1 (.var 0) [⟨.int .u8,1,.aN 0⟩],.bK false 1 5 1 (.var 1) [⟨.int .u8,1,.aN 1⟩],.bK false 2 5 1 (.var 2) [⟨.int .u8,1,.aN 2⟩],.bK false 3 5 1 (.var 3) [⟨.int .u8,1,.aN 3⟩]] ⟨[x0,x1,x2,x3],[A0,A1,A2,A3],[],[b0],[v0,v1,v2,v3],[],[],[]⟩ ao:=
 qX (C:=Fq.cx) _ _ ⟨1,4,4,4,0,0,0⟩ _ 1 1 Tryz.func64 (by kernel_rfl) h
def zk(ao:PT)(x0 x1:Int)(A0:Nat→Int)(v0:V1):Prop:=
 ∀b0:Nat,Cl 64 [.int .u8 x0,.slice none 0 0,.slice (some ⟨b0,0,none⟩) 1 1] [al b0 true ([v0.v]),bi v0 x1 A0] fun x hs l=> ∃(v1:V1) (x2:Int) (A1:Nat→Int),x=v1.v∧hs=l++[bo v1 x2 A1]∧
 ao (v1.v) [bo v1 x2 A1]
theorem HF(ao:PT)(x0 x1:Int)(A0:Nat→Int)(v0:V1)(h:zk ao x0 x1 A0 v0):gq 130 [.int .u8 (.var 0),.bU,.vv 0] [.bK false 0 5 1 (.var 1) [⟨.int .u8,1,.aN 0⟩]] ⟨[x0,x1],[A0],[],[],[v0],[],[],[]⟩ ao:=
 qX (C:=Fq.cx) _ _ ⟨0,1,2,1,0,0,0⟩ _ 0 1 Tryz.func130 (by kernel_rfl) h
def wg(ao:PT)(x0 x1 x2:Int)(A0 A1:Nat→Int)(v0 v1:V1):Prop:=
 aJ (¬(x2<1)) (
 aJ (8160<x2) (
 ao (.tuple #[.slice none 0 0,.int .i64 2]) [bi v0 x0 A0,bi v1 x1 A1]) (
 ∃(dS:Ext→Prop) (gv:Ext→Nat),(∃(v4 v5:V1) (x3 x4 x5:Int) (A2 A3:Nat→Int),x3=1∧v4=(⟨.slice none 0 0,rfl⟩:V1)∧v5=(⟨.slice none 0 0,rfl⟩:V1)∧v4=(⟨.slice none 0 0,rfl⟩:V1)∧x4=0∧(∀j,j<(ag x4)→A2 j=(fun _=>0) j)∧v5=(⟨.slice none 0 0,rfl⟩:V1)∧x5=0∧(∀j,j<(ag x5)→A3 j=(fun _=>0) j)∧dS ⟨[],[v4,v5],[x3,x4,x5],[A2,A3],[],[],[]⟩)∧
 ∀(v4 v5:V1) (x3 x4 x5:Int) (A2 A3:Nat→Int),dS ⟨[],[v4,v5],[x3,x4,x5],[A2,A3],[],[],[]⟩→
 aw (0≤x4) (
 aJ (x4<x2) (
 ∀b0 b1:Nat,Cl 64 [.int .u8 1,v0.v,.slice (some ⟨b1,0,none⟩) 3 3] [bi v0 x0 A0,al b1 true ([v5.v,v1.v,.slice (some ⟨b0,0,none⟩) 1 1]),bo v5 x5 A3,bi v1 x1 A1,al b0 true ([.int .u8 (ae .u8 x3)])] fun x hs l=> ∃(v6:V1) (x6:Int) (A4:Nat→Int),x=v6.v∧hs=l++[bo v6 x6 A4]∧
 aw (0≤x6) (
 aw (0≤x6) (
 nq (x4+x6) (
 ∀v7:V1,cg (x3+1) ((
 ∃(CN IJ:V1) (dJ dT jH:Int) (fo jf:Nat→Int),dJ=(x3+1)∧CN=v7∧IJ=v6∧CN=v7∧dT=(x4+x6)∧(∀j,j<(ag dT)→fo j=(ay A2 (ag x4) (ag x6) A4) j)∧IJ=v6∧jH=x6∧(∀j,j<(ag jH)→jf j=A4 j)∧dS ⟨[],[CN,IJ],[dJ,dT,jH],[fo,jf],[],[],[]⟩∧gv ⟨[],[CN,IJ],[dJ,dT,jH],[fo,jf],[],[],[]⟩<gv ⟨[],[v4,v5],[x3,x4,x5],[A2,A3],[],[],[]⟩)))))) (
 aw (0≤x2) (
 aw (x2≤x4) (
 ao (.tuple #[(aC 1 v4.v 0 (ag x2) (some (ag x2))),.int .i64 0]) [bo v4 x4 A2,bo v5 x5 A3])))))) (
 ao (.tuple #[.slice none 0 0,.int .i64 2]) [bi v0 x0 A0,bi v1 x1 A1])
theorem E8(ao:PT)(x0 x1 x2:Int)(A0 A1:Nat→Int)(v0 v1:V1)(h:wg ao x0 x1 x2 A0 A1 v0 v1):gq 106 [.int .u8 (.lit 1),.vv 0,.vv 1,.int .i64 (.var 2)] [.bK false 0 5 1 (.var 0) [⟨.int .u8,1,.aN 0⟩],.bK false 1 5 1 (.var 1) [⟨.int .u8,1,.aN 1⟩]] ⟨[x0,x1,x2],[A0,A1],[],[],[v0,v1],[],[],[]⟩ ao:=
 qX (C:=Fq.cx) _ _ ⟨0,2,3,2,0,0,0⟩ _ 0 2 Tryz.func106 (by kernel_rfl) h
def wh(ao:PT)(x0 x1 x2:Int)(A0 A1:Nat→Int)(v0 v1:V1):Prop:=
 aJ (¬(x2<1)) (
 aJ (16320<x2) (
 ao (.tuple #[.slice none 0 0,.int .i64 2]) [bi v0 x0 A0,bi v1 x1 A1]) (
 ∃(dS:Ext→Prop) (gv:Ext→Nat),(∃(v4 v5:V1) (x3 x4 x5:Int) (A2 A3:Nat→Int),x3=1∧v4=(⟨.slice none 0 0,rfl⟩:V1)∧v5=(⟨.slice none 0 0,rfl⟩:V1)∧v4=(⟨.slice none 0 0,rfl⟩:V1)∧x4=0∧(∀j,j<(ag x4)→A2 j=(fun _=>0) j)∧v5=(⟨.slice none 0 0,rfl⟩:V1)∧x5=0∧(∀j,j<(ag x5)→A3 j=(fun _=>0) j)∧dS ⟨[],[v4,v5],[x3,x4,x5],[A2,A3],[],[],[]⟩)∧
 ∀(v4 v5:V1) (x3 x4 x5:Int) (A2 A3:Nat→Int),dS ⟨[],[v4,v5],[x3,x4,x5],[A2,A3],[],[],[]⟩→
 aw (0≤x4) (
 aJ (x4<x2) (
 ∀b0 b1:Nat,Cl 64 [.int .u8 2,v0.v,.slice (some ⟨b1,0,none⟩) 3 3] [bi v0 x0 A0,al b1 true ([v5.v,v1.v,.slice (some ⟨b0,0,none⟩) 1 1]),bo v5 x5 A3,bi v1 x1 A1,al b0 true ([.int .u8 (ae .u8 x3)])] fun x hs l=> ∃(v6:V1) (x6:Int) (A4:Nat→Int),x=v6.v∧hs=l++[bo v6 x6 A4]∧
 aw (0≤x6) (
 aw (0≤x6) (
 nq (x4+x6) (
 ∀v7:V1,cg (x3+1) ((
 ∃(CN IJ:V1) (dJ dT jH:Int) (fo jf:Nat→Int),dJ=(x3+1)∧CN=v7∧IJ=v6∧CN=v7∧dT=(x4+x6)∧(∀j,j<(ag dT)→fo j=(ay A2 (ag x4) (ag x6) A4) j)∧IJ=v6∧jH=x6∧(∀j,j<(ag jH)→jf j=A4 j)∧dS ⟨[],[CN,IJ],[dJ,dT,jH],[fo,jf],[],[],[]⟩∧gv ⟨[],[CN,IJ],[dJ,dT,jH],[fo,jf],[],[],[]⟩<gv ⟨[],[v4,v5],[x3,x4,x5],[A2,A3],[],[],[]⟩)))))) (
 aw (0≤x2) (
 aw (x2≤x4) (
 ao (.tuple #[(aC 1 v4.v 0 (ag x2) (some (ag x2))),.int .i64 0]) [bo v4 x4 A2,bo v5 x5 A3])))))) (
 ao (.tuple #[.slice none 0 0,.int .i64 2]) [bi v0 x0 A0,bi v1 x1 A1])
theorem E9(ao:PT)(x0 x1 x2:Int)(A0 A1:Nat→Int)(v0 v1:V1)(h:wh ao x0 x1 x2 A0 A1 v0 v1):gq 106 [.int .u8 (.lit 2),.vv 0,.vv 1,.int .i64 (.var 2)] [.bK false 0 5 1 (.var 0) [⟨.int .u8,1,.aN 0⟩],.bK false 1 5 1 (.var 1) [⟨.int .u8,1,.aN 1⟩]] ⟨[x0,x1,x2],[A0,A1],[],[],[v0,v1],[],[],[]⟩ ao:=
 qX (C:=Fq.cx) _ _ ⟨0,2,3,2,0,0,0⟩ _ 0 2 Tryz.func106 (by kernel_rfl) h
def E_(ao:PT)(x0 x1:Int):Prop:=
 ∀v0:V1,∃(cc:Ext→Prop) (cu:Ext→Nat),(∃(v1:V1) (x2 x3:Int) (A0:Nat→Int),x2=7∧v1=v0∧v1=v0∧x3=22∧(∀j,j<(ag x3)→A0 j=(jL [83,70,114,97,109,101,32,49,46,48,32,83,101,99,114,101,116,32,107,101,121,32]) j)∧cc ⟨[],[v1],[x2,x3],[A0],[],[],[]⟩)∧
 ∀(v1:V1) (x2 x3:Int) (A0:Nat→Int),cc ⟨[],[v1],[x2,x3],[A0],[],[],[]⟩→
 aJ (0≤x2) (
 cg (8*x2) ((
 aw (0≤(8*x2)) (
 ∀_:Nat,aw (0≤x3) (
 nq ((x3+1)*1) (
 ∀v2:V1,cg (x2 - 1) ((
 ∃(rj:V1) (ei dJ:Int) (xx:Nat→Int),ei=(x2 - 1)∧rj=v2∧rj=v2∧dJ=(x3+1)∧(∀j,j<(ag dJ)→xx j=(au A0 (ag x3) (ae .u8 (ak .shr .u64 x0 (8*x2)))) j)∧cc ⟨[],[rj],[ei,dJ],[xx],[],[],[]⟩∧cu ⟨[],[rj],[ei,dJ],[xx],[],[],[]⟩<cu ⟨[],[v1],[x2,x3],[A0],[],[],[]⟩)))))))) (
 ∀b0:Nat,aw (0≤x3) (
 nq (x3+2) (
 ∀v2:V1,ao (v2.v) [bo v2 (x3+2) (ay A0 (ag x3) 2 (au (au (fun _=>0) 0 (ae .u8 (ak .shr .u16 x1 8))) 1 (ae .u8 x1))),al b0 true ([.int .u8 (ae .u8 (ak .shr .u16 x1 8)),.int .u8 (ae .u8 x1)])])))
theorem OS(ao:PT)(x0 x1:Int)(h:E_ ao x0 x1):gq 107 [.str [83,70,114,97,109,101,32,49,46,48,32,83,101,99,114,101,116,32,107,101,121,32],.int .u64 (.var 0),.int .u16 (.var 1)] [] ⟨[x0,x1],[],[],[],[],[],[],[]⟩ ao:=
 qX (C:=Fq.cx) _ _ ⟨0,0,2,0,0,0,0⟩ _ 0 2 Tryz.func107 (by kernel_rfl) h
def Fa(ao:PT)(x0 x1:Int):Prop:=
 ∀v0:V1,∃(cc:Ext→Prop) (cu:Ext→Nat),(∃(v1:V1) (x2 x3:Int) (A0:Nat→Int),x2=7∧v1=v0∧v1=v0∧x3=23∧(∀j,j<(ag x3)→A0 j=(jL [83,70,114,97,109,101,32,49,46,48,32,83,101,99,114,101,116,32,115,97,108,116,32]) j)∧cc ⟨[],[v1],[x2,x3],[A0],[],[],[]⟩)∧
 ∀(v1:V1) (x2 x3:Int) (A0:Nat→Int),cc ⟨[],[v1],[x2,x3],[A0],[],[],[]⟩→
 aJ (0≤x2) (
 cg (8*x2) ((
 aw (0≤(8*x2)) (
 ∀_:Nat,aw (0≤x3) (
 nq ((x3+1)*1) (
 ∀v2:V1,cg (x2 - 1) ((
 ∃(rj:V1) (ei dJ:Int) (xx:Nat→Int),ei=(x2 - 1)∧rj=v2∧rj=v2∧dJ=(x3+1)∧(∀j,j<(ag dJ)→xx j=(au A0 (ag x3) (ae .u8 (ak .shr .u64 x0 (8*x2)))) j)∧cc ⟨[],[rj],[ei,dJ],[xx],[],[],[]⟩∧cu ⟨[],[rj],[ei,dJ],[xx],[],[],[]⟩<cu ⟨[],[v1],[x2,x3],[A0],[],[],[]⟩)))))))) (
 ∀b0:Nat,aw (0≤x3) (
 nq (x3+2) (
 ∀v2:V1,ao (v2.v) [bo v2 (x3+2) (ay A0 (ag x3) 2 (au (au (fun _=>0) 0 (ae .u8 (ak .shr .u16 x1 8))) 1 (ae .u8 x1))),al b0 true ([.int .u8 (ae .u8 (ak .shr .u16 x1 8)),.int .u8 (ae .u8 x1)])])))
theorem OT(ao:PT)(x0 x1:Int)(h:Fa ao x0 x1):gq 107 [.str [83,70,114,97,109,101,32,49,46,48,32,83,101,99,114,101,116,32,115,97,108,116,32],.int .u64 (.var 0),.int .u16 (.var 1)] [] ⟨[x0,x1],[],[],[],[],[],[],[]⟩ ao:=
 qX (C:=Fq.cx) _ _ ⟨0,0,2,0,0,0,0⟩ _ 0 2 Tryz.func107 (by kernel_rfl) h
def Bv(ao:PT)(x0 x1:Int)(A0:Nat→Int)(v0:V1):Prop:=
 ∀_:Nat,Cl 53 [.int .u16 x0] [] fun x hs _=> ∃x2 x3 x4 x5 x6 x7:Int,x= .tuple #[.agg #[.int .u8 x2,.int .i64 x3,.int .i64 x4,.int .i64 x5,.int .i64 x6],.int .i64 x7]∧hs=[]∧
 ∀b1:Nat,aJ (¬(x7=0)) (
 ao (.tuple #[.agg #[.int .u8 x2,.int .i64 x3,.int .i64 x4,.int .i64 x5,.int .i64 x6],.slice none 0 0,.int .i64 x7]) [al b1 true ([.int .u8 x2,.int .i64 x3,.int .i64 x4,.int .i64 x5,.int .i64 x6])]) (
 aw (0≤x1) (
 aw ((x1=0)∨(0≤x1)) (
 aJ ((x1=0)∨(1024<x1)) (
 ao (.tuple #[.agg #[.int .u8 x2,.int .i64 x3,.int .i64 x4,.int .i64 x5,.int .i64 x6],.slice none 0 0,.int .i64 2]) [al b1 true ([.int .u8 x2,.int .i64 x3,.int .i64 x4,.int .i64 x5,.int .i64 x6])]) (
 Cl 130 [.int .u8 x2,.slice none 0 0,v0.v] [bi v0 x1 A0] fun x hs l=> ∃(v1:V1) (x8:Int) (A1:Nat→Int),x=v1.v∧hs=l++[bo v1 x8 A1]∧
 ao (.tuple #[.agg #[.int .u8 x2,.int .i64 x3,.int .i64 x4,.int .i64 x5,.int .i64 x6],v1.v,.int .i64 0]) [bo v1 x8 A1]))))
theorem LF(ao:PT)(x0 x1:Int)(A0:Nat→Int)(v0:V1)(h:Bv ao x0 x1 A0 v0):gq 105 [.int .u16 (.var 0),.vv 0] [.bK false 0 5 1 (.var 1) [⟨.int .u8,1,.aN 0⟩]] ⟨[x0,x1],[A0],[],[],[v0],[],[],[]⟩ ao:=
 qX (C:=Fq.cx) _ _ ⟨0,1,2,1,0,0,0⟩ _ 0 1 Tryz.func105 (by kernel_rfl) h
def Bw(ao:PT)(x0 x1 x2:Int)(A0:Nat→Int)(v0:V1):Prop:=
 ∀b0:Nat,Cl 105 [.int .u16 x0,v0.v] [bi v0 x1 A0] fun x hs l=> ∃(v1:V1) (x3 x4 x5 x6 x7 x8 x9:Int) (A1:Nat→Int),x= .tuple #[.agg #[.int .u8 x3,.int .i64 x4,.int .i64 x5,.int .i64 x6,.int .i64 x7],v1.v,.int .i64 x8]∧hs=l++[bo v1 x9 A1]∧
 ∀b1:Nat,aJ (¬(x8=0)) (
 ao (.tuple #[.agg (.int .u16 0::(.int .u64 0::(.slice none 0 0::(aiL (aj .u8 12 (fun _=>0)) ([]))))).toArray,.int .i64 x8]) [bi v0 x1 A0,al b0 true (.int .u16 0::(.int .u64 0::(.slice none 0 0::(aiL (aj .u8 12 (fun _=>0)) ([]))))),bo v1 x9 A1,al b1 true ([.int .u8 x3,.int .i64 x4,.int .i64 x5,.int .i64 x6,.int .i64 x7])]) (
 ∀b2:Nat,Cl 107 [.string ⟨#[83,70,114,97,109,101,32,49,46,48,32,83,101,99,114,101,116,32,107,101,121,32]⟩,.int .u64 x2,.int .u16 x0] [] fun x hs _=> ∃(v2:V1) (bP:Int) (A2:Nat→Int),x=v2.v∧hs=[bo v2 bP A2]∧
 Cl 106 [.int .u8 x3,v1.v,v2.v,.int .i64 x4] [bo v1 x9 A1,bo v2 bP A2] fun x hs l=> ∃(v3:V1) (fm:Int) (A3:Nat→Int),x= .tuple #[v3.v,.int .i64 0]∧hs=l++[bo v3 fm A3]∧
 Cl 107 [.string ⟨#[83,70,114,97,109,101,32,49,46,48,32,83,101,99,114,101,116,32,115,97,108,116,32]⟩,.int .u64 x2,.int .u16 x0] [] fun x hs _=> ∃(v4:V1) (c6:Int) (A4:Nat→Int),x=v4.v∧hs=[bo v4 c6 A4]∧
 Cl 106 [.int .u8 x3,v1.v,v4.v,.int .i64 12] [bo v1 x9 A1,bo v4 c6 A4] fun x hs l=> ∃(v5:V1) (A5:Nat→Int),x= .tuple #[v5.v,.int .i64 0]∧hs=l++[bn true v5 12 A5]∧
 ao (.tuple #[.agg (.int .u16 x0::(.int .u64 x2::(v3.v::(aiL (aj .u8 12 A5) ([]))))).toArray,.int .i64 0]) [bi v0 x1 A0,al b0 true (.int .u16 x0::(.int .u64 x2::(v3.v::(aiL (aj .u8 12 A5) ([]))))),bo v1 x9 A1,al b1 true ([.int .u8 x3,.int .i64 x4,.int .i64 x5,.int .i64 x6,.int .i64 x7]),al b2 true (.int .u16 x0::(.int .u64 x2::(v3.v::(aiL (aj .u8 12 A5) ([]))))),bo v2 bP A2,bo v3 fm A3,bo v4 c6 A4,bn true v5 12 A5])
theorem LG(ao:PT)(x0 x1 x2:Int)(A0:Nat→Int)(v0:V1)(h:Bw ao x0 x1 x2 A0 v0):gq 77 [.int .u16 (.var 0),.vv 0,.int .u64 (.var 2)] [.bK false 0 5 1 (.var 1) [⟨.int .u8,1,.aN 0⟩]] ⟨[x0,x1,x2],[A0],[],[],[v0],[],[],[]⟩ ao:=
 Gr (C:=Fq.cx) _ _ ⟨0,1,3,1,0,0,0⟩ _ Tryz.func77 (by kernel_rfl) h
open Go.RX Go.Proofs Go.RX.Fe Go.RX.Fg Go.RX.Fi Go.RX.Fj Go.RX.Fk Go.RX.Fl
set_option maxRecDepth 100000
def JK(ao:PT):Prop:=
 ∀b0 b1 b2:Nat,ao (.pointer (some ⟨b2,0,none⟩)) [al b0 true ([.int .u64 7640891576956012808,.int .u64 13503953896175478587,.int .u64 4354685564936845355,.int .u64 11912009170470909681,.int .u64 5840696475078001361,.int .u64 11170449401992604703,.int .u64 2270897969802886507,.int .u64 6620516959819538809]),al b1 true ([.int .u64 4794697086780616226,.int .u64 8158064640168781261,.int .u64 13096744586834688815,.int .u64 16840607885511220156,.int .u64 4131703408338449720,.int .u64 6480981068601479193,.int .u64 10538285296894168987,.int .u64 12329834152419229976,.int .u64 15566598209576043074,.int .u64 1334009975649890238,.int .u64 2608012711638119052,.int .u64 6128411473006802146,.int .u64 8268148722764581231,.int .u64 9286055187155687089,.int .u64 11230858885718282805,.int .u64 13951009754708518548,.int .u64 16472876342353939154,.int .u64 17275323862435702243,.int .u64 1135362057144423861,.int .u64 2597628984639134821,.int .u64 3308224258029322869,.int .u64 5365058923640841347,.int .u64 6679025012923562964,.int .u64 8573033837759648693,.int .u64 10970295158949994411,.int .u64 12119686244451234320,.int .u64 12683024718118986047,.int .u64 13788192230050041572,.int .u64 14330467153632333762,.int .u64 15395433587784984357,.int .u64 489312712824947311,.int .u64 1452737877330783856,.int .u64 2861767655752347644,.int .u64 3322285676063803686,.int .u64 5560940570517711597,.int .u64 5996557281743188959,.int .u64 7280758554555802590,.int .u64 8532644243296465576,.int .u64 9350256976987008742,.int .u64 10552545826968843579,.int .u64 11727347734174303076,.int .u64 12113106623233404929,.int .u64 14000437183269869457,.int .u64 14369950271660146224,.int .u64 15101387698204529176,.int .u64 15463397548674623760,.int .u64 17586052441742319658,.int .u64 1182934255886127544,.int .u64 1847814050463011016,.int .u64 2177327727835720531,.int .u64 2830643537854262169,.int .u64 3796741975233480872,.int .u64 4115178125766777443,.int .u64 5681478168544905931,.int .u64 6601373596472566643,.int .u64 7507060721942968483,.int .u64 8399075790359081724,.int .u64 8693463985226723168,.int .u64 9568029438360202098,.int .u64 10144078919501101548,.int .u64 10430055236837252648,.int .u64 11840083180663258601,.int .u64 13761210420658862357,.int .u64 14299343276471374635,.int .u64 14566680578165727644,.int .u64 15097957966210449927,.int .u64 16922976911328602910,.int .u64 17689382322260857208,.int .u64 500013540394364858,.int .u64 748580250866718886,.int .u64 1242879168328830382,.int .u64 1977374033974150939,.int .u64 2944078676154940804,.int .u64 3659926193048069267,.int .u64 4368137639120453308,.int .u64 4836135668995329356,.int .u64 5532061633213252278,.int .u64 6448918945643986474,.int .u64 6902733635092675308,.int .u64 7801388544844847127]),al b2 true ([.slice (some ⟨b0,0,none⟩) 8 8,.slice (some ⟨b1,0,none⟩) 80 80,.int .i64 8,.int .i64 28,.int .i64 34,.int .i64 39,.int .i64 14,.int .i64 18,.int .i64 41,.int .i64 1,.int .i64 8,.int .i64 7,.int .i64 19,.int .i64 61,.int .i64 6])]
theorem RZ(ao:PT)(h:JK ao):gq 140 [] [] ⟨[],[],[],[],[],[],[],[]⟩ ao:=
 Gr (C:=Fq.cx) _ _ ⟨0,0,0,0,0,0,0⟩ _ Tryz.func140 (by kernel_rfl) h
def zl(ao:PT)(A0 A1 A2:Nat→Int)(v0 v1 _:V1)(b0:Nat):Prop:=
 ∀_:V1,∃(cc:Ext→Prop) (cu:Ext→Nat),(∃(x0:Int) (A3:Nat→Int),x0=0∧(∀j,j<80→A3 j=(fun _=>0) j)∧cc ⟨[],[],[x0],[A3],[],[],[]⟩)∧
 ∀(x0:Int) (A3:Nat→Int),cc ⟨[],[],[x0],[A3],[],[],[]⟩→
 aJ (x0<128) (
 aw (0≤(ae .i64 (ak .quo .i64 x0 8))) (
 aw ((ae .i64 (ak .quo .i64 x0 8))<80) (
 aw (0≤x0) (
 cg (x0+1) ((
 ∃(jd:Int) (jf:Nat→Int),jd=(x0+1)∧(∀j,j<80→jf j=(au A3 (ag (ae .i64 (ak .quo .i64 x0 8))) (ak .bC .u64 (ak .shl .u64 (A3 (ag (ae .i64 (ak .quo .i64 x0 8)))) 8) (ae .u64 (A2 (ag x0))))) j)∧cc ⟨[],[],[jd],[jf],[],[],[]⟩∧cu ⟨[],[],[jd],[jf],[],[],[]⟩<cu ⟨[],[],[x0],[A3],[],[],[]⟩)))))) (
 ∃(dS:Ext→Prop) (gv:Ext→Nat),(∃(x1:Int) (A4:Nat→Int),x1=16∧(∀j,j<80→A4 j=A3 j)∧dS ⟨[],[],[x1],[A4],[],[],[]⟩)∧
 ∀(x1:Int) (A4:Nat→Int),dS ⟨[],[],[x1],[A4],[],[],[]⟩→
 aJ (x1<80) (
 cg (x1 - 2) ((
 aw (0≤(x1 - 2)) (
 aw ((x1 - 2)<80) (
 cg (x1 - 7) ((
 aw (0≤(x1 - 7)) (
 aw ((x1 - 7)<80) (
 cg (x1 - 15) ((
 aw (0≤(x1 - 15)) (
 aw ((x1 - 15)<80) (
 cg (x1 - 16) ((
 aw (0≤(x1 - 16)) (
 aw ((x1 - 16)<80) (
 ∀_ _:Nat,aw (0≤x1) (
 cg (x1+1) ((
 ∃(dr:Int) (BO:Nat→Int),dr=(x1+1)∧(∀j,j<80→BO j=(au A4 (ag x1) (ae .u64 ((ae .u64 ((ae .u64 ((ak .aB .u64 (ak .aB .u64 (ak .bC .u64 (ak .shr .u64 (A4 (ag (x1 - 2))) 19) (ak .shl .u64 (A4 (ag (x1 - 2))) 45)) (ak .bC .u64 (ak .shr .u64 (A4 (ag (x1 - 2))) 61) (ak .shl .u64 (A4 (ag (x1 - 2))) 3))) (ak .shr .u64 (A4 (ag (x1 - 2))) 6))+(A4 (ag (x1 - 7)))))+(ak .aB .u64 (ak .aB .u64 (ak .bC .u64 (ak .shr .u64 (A4 (ag (x1 - 15))) 1) (ak .shl .u64 (A4 (ag (x1 - 15))) 63)) (ak .bC .u64 (ak .shr .u64 (A4 (ag (x1 - 15))) 8) (ak .shl .u64 (A4 (ag (x1 - 15))) 56))) (ak .shr .u64 (A4 (ag (x1 - 15))) 7))))+(A4 (ag (x1 - 16)))))) j)∧dS ⟨[],[],[dr],[BO],[],[],[]⟩∧gv ⟨[],[],[dr],[BO],[],[],[]⟩<gv ⟨[],[],[x1],[A4],[],[],[]⟩)))))))))))))))))))) (
 ∀_:Nat,∃(lG:Ext→Prop) (ph:Ext→Nat),(∃x2 x3 x4 x5 x6 x7 x8 x9 bP:Int,bP=0∧x2=(A0 0)∧x3=(A0 1)∧x4=(A0 2)∧x5=(A0 3)∧x6=(A0 4)∧x7=(A0 5)∧x8=(A0 6)∧x9=(A0 7)∧lG ⟨[],[],[x2,x3,x4,x5,x6,x7,x8,x9,bP],[],[],[],[]⟩)∧
 ∀x2 x3 x4 x5 x6 x7 x8 x9 bP:Int,lG ⟨[],[],[x2,x3,x4,x5,x6,x7,x8,x9,bP],[],[],[],[]⟩→
 aJ (bP<80) (
 aw (0≤bP) (
 ∀_ _:Nat,cg (bP+1) ((
 ∃ei dJ dT jH xu GD Uf Ug GF:Int,GF=(bP+1)∧ei=(ae .u64 ((ae .u64 ((ae .u64 ((ae .u64 ((ae .u64 (x9+(ak .aB .u64 (ak .aB .u64 (ak .bC .u64 (ak .shr .u64 x6 14) (ak .shl .u64 x6 50)) (ak .bC .u64 (ak .shr .u64 x6 18) (ak .shl .u64 x6 46))) (ak .bC .u64 (ak .shr .u64 x6 41) (ak .shl .u64 x6 23)))))+(ak .aB .u64 (ak .aM .u64 x6 x7) (ak .aM .u64 (ak .aB .u64 18446744073709551615 x6) x8))))+(A1 (ag bP))))+(A4 (ag bP))))+(ae .u64 ((ak .aB .u64 (ak .aB .u64 (ak .bC .u64 (ak .shr .u64 x2 28) (ak .shl .u64 x2 36)) (ak .bC .u64 (ak .shr .u64 x2 34) (ak .shl .u64 x2 30))) (ak .bC .u64 (ak .shr .u64 x2 39) (ak .shl .u64 x2 25)))+(ak .aB .u64 (ak .aB .u64 (ak .aM .u64 x2 x3) (ak .aM .u64 x2 x4)) (ak .aM .u64 x3 x4))))))∧dJ=x2∧dT=x3∧jH=x4∧xu=(ae .u64 (x5+(ae .u64 ((ae .u64 ((ae .u64 ((ae .u64 (x9+(ak .aB .u64 (ak .aB .u64 (ak .bC .u64 (ak .shr .u64 x6 14) (ak .shl .u64 x6 50)) (ak .bC .u64 (ak .shr .u64 x6 18) (ak .shl .u64 x6 46))) (ak .bC .u64 (ak .shr .u64 x6 41) (ak .shl .u64 x6 23)))))+(ak .aB .u64 (ak .aM .u64 x6 x7) (ak .aM .u64 (ak .aB .u64 18446744073709551615 x6) x8))))+(A1 (ag bP))))+(A4 (ag bP))))))∧GD=x6∧Uf=x7∧Ug=x8∧lG ⟨[],[],[ei,dJ,dT,jH,xu,GD,Uf,Ug,GF],[],[],[],[]⟩∧ph ⟨[],[],[ei,dJ,dT,jH,xu,GD,Uf,Ug,GF],[],[],[],[]⟩<ph ⟨[],[],[x2,x3,x4,x5,x6,x7,x8,x9,bP],[],[],[],[]⟩)))) (
 ∃(dU:Ext→Prop) (gw:Ext→Nat),(∃(fm:Int) (A5 A6:Nat→Int),fm=0∧(∀j,j<8→A5 j=A0 j)∧(∀j,j<8→A6 j=(au (au (au (au (au (au (au (au (fun _=>0) 0 x2) 1 x3) 2 x4) 3 x5) 4 x6) 5 x7) 6 x8) 7 x9) j)∧dU ⟨[],[],[fm],[A5,A6],[],[],[]⟩)∧
 ∀(fm:Int) (A5 A6:Nat→Int),dU ⟨[],[],[fm],[A5,A6],[],[],[]⟩→
 aJ (fm<8) (
 aw (0≤fm) (
 cg (fm+1) ((
 ∃(GG:Int) (BP ui:Nat→Int),GG=(fm+1)∧(∀j,j<8→BP j=(au A5 (ag fm) (ae .u64 ((A5 (ag fm))+(A6 (ag fm))))) j)∧(∀j,j<8→ui j=A6 j)∧dU ⟨[],[],[GG],[BP,ui],[],[],[]⟩∧gw ⟨[],[],[GG],[BP,ui],[],[],[]⟩<gw ⟨[],[],[fm],[A5,A6],[],[],[]⟩)))) (
 ao (.tuple #[]) [al b0 true ([v0.v,v1.v,.int .i64 8,.int .i64 28,.int .i64 34,.int .i64 39,.int .i64 14,.int .i64 18,.int .i64 41,.int .i64 1,.int .i64 8,.int .i64 7,.int .i64 19,.int .i64 61,.int .i64 6]),aG true 23 1 v0.v 8 (aW 8 [bd .u64 1 A5]),aG true 23 1 v1.v 80 (aW 80 [bd .u64 1 A1])]))))
theorem HG(ao:PT)(A0 A1 A2:Nat→Int)(v0 v1 v2:V1)(b0:Nat)(h:zl ao A0 A1 A2 v0 v1 v2 b0):gq 152 [.ptr 0 0,.vv 2] [.row 0 true [.vv 0,.vv 1,.int .i64 (.lit 8),.int .i64 (.lit 28),.int .i64 (.lit 34),.int .i64 (.lit 39),.int .i64 (.lit 14),.int .i64 (.lit 18),.int .i64 (.lit 41),.int .i64 (.lit 1),.int .i64 (.lit 8),.int .i64 (.lit 7),.int .i64 (.lit 19),.int .i64 (.lit 61),.int .i64 (.lit 6)],.bK true 0 23 1 (.lit 8) [⟨.int .u64,1,.aN 0⟩],.bK true 1 23 1 (.lit 80) [⟨.int .u64,1,.aN 1⟩],.bK false 2 5 1 (.lit 128) [⟨.int .u8,1,.aN 2⟩]] ⟨[],[A0,A1,A2],[],[b0],[v0,v1,v2],[],[],[]⟩ ao:=
 Mj (C:=Fq.cx) _ _ ⟨1,3,0,3,0,0,0⟩ _ 3 Tryz.func152 (by kernel_rfl) h
end Go.RX.Fq
