/- Windows. -/
import Derived.Test.YtmgbbbmdbpbeeaaGreatM17
open Go.IntKind renaming wrap → ae
open Go.LoopState renaming exhausted → ajE
open Int renaming toNat → ag
open List renaming append → aiL
namespace Go.RX.Fw
open Go.RX Go.Proofs Go.RX.Fe Go.RX.Fg Go.RX.Fi Go.RX.Fj Go.RX.Fk Go.RX.Fl
noncomputable def cx:Ctx:={T:=TT,FT:=FT,loops:=Fw.loops,bB:=Fw.bB}
set_option maxRecDepth 100000
def ID(ao:PT)(x0 x1 x2 x3 x4 x5 x6 x7 x8 x9 bP:Int)(A0 A1:Nat→Int)(q0 q1 q2:Bool)(v0 v1:V1)(b0:Nat):Prop:=
 aJ ((¬(q0=true))∨(x4<bP)) (
 ao (.int .i64 0) [al b0 true (.int .u16 x0::(.int .u64 x1::(.int .i64 x2::(.int .u64 x3::(v0.v::(.bool q0::(.int .u64 x4::(aiL (aj .u64 16 A0) (.int .u16 x5::(.int .u64 x6::(.int .i64 x7::(.int .u64 x8::(v1.v::(.bool q1::(.int .u64 x9::(aiL (aj .u64 16 A1) ([.bool q2])))))))))))))))))]) (
 aJ (1024≤(ae .u64 (x4 - bP))) (
 ao (.int .i64 161) [al b0 true (.int .u16 x0::(.int .u64 x1::(.int .i64 x2::(.int .u64 x3::(v0.v::(.bool q0::(.int .u64 x4::(aiL (aj .u64 16 A0) (.int .u16 x5::(.int .u64 x6::(.int .i64 x7::(.int .u64 x8::(v1.v::(.bool q1::(.int .u64 x9::(aiL (aj .u64 16 A1) ([.bool q2])))))))))))))))))]) (
 aw (0≤(ae .u64 (ak .quo .u64 (ak .rem .u64 bP 1024) 64))) (
 aw ((ae .u64 (ak .quo .u64 (ak .rem .u64 bP 1024) 64))<16) (
 aw (0≤(ak .rem .u64 bP 64)) (
 aJ ((ak .aM .u64 (ak .shr .u64 (A0 (ag (ae .u64 (ak .quo .u64 (ak .rem .u64 bP 1024) 64)))) (ak .rem .u64 bP 64)) 1)=1) (
 ao (.int .i64 160) [al b0 true (.int .u16 x0::(.int .u64 x1::(.int .i64 x2::(.int .u64 x3::(v0.v::(.bool q0::(.int .u64 x4::(aiL (aj .u64 16 A0) (.int .u16 x5::(.int .u64 x6::(.int .i64 x7::(.int .u64 x8::(v1.v::(.bool q1::(.int .u64 x9::(aiL (aj .u64 16 A1) ([.bool q2])))))))))))))))))]) (
 ao (.int .i64 0) [al b0 true (.int .u16 x0::(.int .u64 x1::(.int .i64 x2::(.int .u64 x3::(v0.v::(.bool q0::(.int .u64 x4::(aiL (aj .u64 16 A0) (.int .u16 x5::(.int .u64 x6::(.int .i64 x7::(.int .u64 x8::(v1.v::(.bool q1::(.int .u64 x9::(aiL (aj .u64 16 A1) ([.bool q2])))))))))))))))))]))))))
theorem Qh(ao:PT)(x0 x1 x2 x3 x4 x5 x6 x7 x8 x9 bP:Int)(A0 A1:Nat→Int)(q0 q1 q2:Bool)(v0 v1:V1)(b0:Nat)(h:ID ao x0 x1 x2 x3 x4 x5 x6 x7 x8 x9 bP A0 A1 q0 q1 q2 v0 v1 b0):gq 51 [.ptr 0 5,.int .u64 (.var 10)] [.row 0 true [.int .u16 (.var 0),.int .u64 (.var 1),.int .i64 (.var 2),.int .u64 (.var 3),.vv 0,.bool (BE.var 0),.int .u64 (.var 4),.b_ .u64 16 (.aN 0),.int .u16 (.var 5),.int .u64 (.var 6),.int .i64 (.var 7),.int .u64 (.var 8),.vv 1,.bool (BE.var 1),.int .u64 (.var 9),.b_ .u64 16 (.aN 1),.bool (BE.var 2)]] ⟨[x0,x1,x2,x3,x4,x5,x6,x7,x8,x9,bP],[A0,A1],[q0,q1,q2],[b0],[v0,v1],[],[],[]⟩ ao:=
 Gr (C:=Fw.cx) _ _ ⟨1,2,11,2,3,0,0⟩ _ Tryz.func51 (by kernel_rfl) h
def IE(ao:PT)(x0 x1 x2 x3 x4 x5 x6 x7 x8 x9 bP:Int)(A0 A1:Nat→Int)(q0 q1 q2:Bool)(v0 v1:V1)(b0:Nat):Prop:=
 aJ ((¬(q1=true))∨(x9<bP)) (
 ao (.int .i64 0) [al b0 true (.int .u16 x0::(.int .u64 x1::(.int .i64 x2::(.int .u64 x3::(v0.v::(.bool q0::(.int .u64 x4::(aiL (aj .u64 16 A0) (.int .u16 x5::(.int .u64 x6::(.int .i64 x7::(.int .u64 x8::(v1.v::(.bool q1::(.int .u64 x9::(aiL (aj .u64 16 A1) ([.bool q2])))))))))))))))))]) (
 aJ (1024≤(ae .u64 (x9 - bP))) (
 ao (.int .i64 161) [al b0 true (.int .u16 x0::(.int .u64 x1::(.int .i64 x2::(.int .u64 x3::(v0.v::(.bool q0::(.int .u64 x4::(aiL (aj .u64 16 A0) (.int .u16 x5::(.int .u64 x6::(.int .i64 x7::(.int .u64 x8::(v1.v::(.bool q1::(.int .u64 x9::(aiL (aj .u64 16 A1) ([.bool q2])))))))))))))))))]) (
 aw (0≤(ae .u64 (ak .quo .u64 (ak .rem .u64 bP 1024) 64))) (
 aw ((ae .u64 (ak .quo .u64 (ak .rem .u64 bP 1024) 64))<16) (
 aw (0≤(ak .rem .u64 bP 64)) (
 aJ ((ak .aM .u64 (ak .shr .u64 (A1 (ag (ae .u64 (ak .quo .u64 (ak .rem .u64 bP 1024) 64)))) (ak .rem .u64 bP 64)) 1)=1) (
 ao (.int .i64 160) [al b0 true (.int .u16 x0::(.int .u64 x1::(.int .i64 x2::(.int .u64 x3::(v0.v::(.bool q0::(.int .u64 x4::(aiL (aj .u64 16 A0) (.int .u16 x5::(.int .u64 x6::(.int .i64 x7::(.int .u64 x8::(v1.v::(.bool q1::(.int .u64 x9::(aiL (aj .u64 16 A1) ([.bool q2])))))))))))))))))]) (
 ao (.int .i64 0) [al b0 true (.int .u16 x0::(.int .u64 x1::(.int .i64 x2::(.int .u64 x3::(v0.v::(.bool q0::(.int .u64 x4::(aiL (aj .u64 16 A0) (.int .u16 x5::(.int .u64 x6::(.int .i64 x7::(.int .u64 x8::(v1.v::(.bool q1::(.int .u64 x9::(aiL (aj .u64 16 A1) ([.bool q2])))))))))))))))))]))))))
theorem Qi(ao:PT)(x0 x1 x2 x3 x4 x5 x6 x7 x8 x9 bP:Int)(A0 A1:Nat→Int)(q0 q1 q2:Bool)(v0 v1:V1)(b0:Nat)(h:IE ao x0 x1 x2 x3 x4 x5 x6 x7 x8 x9 bP A0 A1 q0 q1 q2 v0 v1 b0):gq 51 [.ptr 0 28,.int .u64 (.var 10)] [.row 0 true [.int .u16 (.var 0),.int .u64 (.var 1),.int .i64 (.var 2),.int .u64 (.var 3),.vv 0,.bool (BE.var 0),.int .u64 (.var 4),.b_ .u64 16 (.aN 0),.int .u16 (.var 5),.int .u64 (.var 6),.int .i64 (.var 7),.int .u64 (.var 8),.vv 1,.bool (BE.var 1),.int .u64 (.var 9),.b_ .u64 16 (.aN 1),.bool (BE.var 2)]] ⟨[x0,x1,x2,x3,x4,x5,x6,x7,x8,x9,bP],[A0,A1],[q0,q1,q2],[b0],[v0,v1],[],[],[]⟩ ao:=
 Gr (C:=Fw.cx) _ _ ⟨1,2,11,2,3,0,0⟩ _ Tryz.func51 (by kernel_rfl) h
def IF(ao:PT)(x0 x1 x2 x3 x4 x5:Int)(A0:Nat→Int)(q0:Bool)(v0:V1)(b0:Nat):Prop:=
 aJ ((¬(q0=true))∨(x4<x5)) (
 ao (.int .i64 0) [al b0 true (.int .u16 x0::(.int .u64 x1::(.int .i64 x2::(.int .u64 x3::(v0.v::(.bool q0::(.int .u64 x4::(aiL (aj .u64 16 A0) ([])))))))))]) (
 aJ (1024≤(ae .u64 (x4 - x5))) (
 ao (.int .i64 161) [al b0 true (.int .u16 x0::(.int .u64 x1::(.int .i64 x2::(.int .u64 x3::(v0.v::(.bool q0::(.int .u64 x4::(aiL (aj .u64 16 A0) ([])))))))))]) (
 aw (0≤(ae .u64 (ak .quo .u64 (ak .rem .u64 x5 1024) 64))) (
 aw ((ae .u64 (ak .quo .u64 (ak .rem .u64 x5 1024) 64))<16) (
 aw (0≤(ak .rem .u64 x5 64)) (
 aJ ((ak .aM .u64 (ak .shr .u64 (A0 (ag (ae .u64 (ak .quo .u64 (ak .rem .u64 x5 1024) 64)))) (ak .rem .u64 x5 64)) 1)=1) (
 ao (.int .i64 160) [al b0 true (.int .u16 x0::(.int .u64 x1::(.int .i64 x2::(.int .u64 x3::(v0.v::(.bool q0::(.int .u64 x4::(aiL (aj .u64 16 A0) ([])))))))))]) (
 ao (.int .i64 0) [al b0 true (.int .u16 x0::(.int .u64 x1::(.int .i64 x2::(.int .u64 x3::(v0.v::(.bool q0::(.int .u64 x4::(aiL (aj .u64 16 A0) ([])))))))))]))))))
theorem Qj(ao:PT)(x0 x1 x2 x3 x4 x5:Int)(A0:Nat→Int)(q0:Bool)(v0:V1)(b0:Nat)(h:IF ao x0 x1 x2 x3 x4 x5 A0 q0 v0 b0):gq 51 [.ptr 0 5,.int .u64 (.var 5)] [.row 0 true [.int .u16 (.var 0),.int .u64 (.var 1),.int .i64 (.var 2),.int .u64 (.var 3),.vv 0,.bool (BE.var 0),.int .u64 (.var 4),.b_ .u64 16 (.aN 0)]] ⟨[x0,x1,x2,x3,x4,x5],[A0],[q0],[b0],[v0],[],[],[]⟩ ao:=
 Gr (C:=Fw.cx) _ _ ⟨1,1,6,1,1,0,0⟩ _ Tryz.func51 (by kernel_rfl) h
def Ds(ao:PT)(x0 x1 x2 x3 x4 x5 x6 x7 x8 x9 bP:Int)(A0 A1:Nat→Int)(q0 q1 q2:Bool)(v0 v1:V1)(b0:Nat):Prop:=
 ∀b1:Nat,Cl 51 [.pointer (some ⟨b0,5,none⟩),.int .u64 bP] [al b0 true (.int .u16 x0::(.int .u64 x1::(.int .i64 x2::(.int .u64 x3::(v0.v::(.bool q0::(.int .u64 x4::(aiL (aj .u64 16 A0) (.int .u16 x5::(.int .u64 x6::(.int .i64 x7::(.int .u64 x8::(v1.v::(.bool q1::(.int .u64 x9::(aiL (aj .u64 16 A1) ([.bool q2])))))))))))))))))] fun x hs l=> ∃fm:Int,x= .int .i64 fm∧hs=l∧
 aJ (¬(fm=0)) (
 ao (.int .i64 fm) [al b0 true (.int .u16 x0::(.int .u64 x1::(.int .i64 x2::(.int .u64 x3::(v0.v::(.bool q0::(.int .u64 x4::(aiL (aj .u64 16 A0) (.int .u16 x5::(.int .u64 x6::(.int .i64 x7::(.int .u64 x8::(v1.v::(.bool q1::(.int .u64 x9::(aiL (aj .u64 16 A1) ([.bool q2]))))))))))))))))),al b1 true ([.pointer (some ⟨b0,5,none⟩)])]) (
 aJ (¬(q0=true)) (
 ∀b2 b3:Nat,∀(_ l5:Nat) (r4:Loop),∃(dS:Ext→Prop) (gv:Ext→Nat),(∃(c6:Int) (A2 A3:Nat→Int),c6=(ak .jJ .u64 (ae .u64 (bP - (ak .jJ .u64 bP bP))) 1024)∧(∀j,j<16→A2 j=A0 j)∧(∀j,j<16→A3 j=A1 j)∧dS ⟨[],[],[c6],[A2,A3],[],[],[]⟩)∧
 ∀(c6:Int) (A2 A3:Nat→Int),dS ⟨[],[],[c6],[A2,A3],[],[],[]⟩→
 aJ (0<c6) (
 aw (0≤(ae .u64 (ak .quo .u64 (ak .rem .u64 (ae .u64 ((ae .u64 (bP - c6))+1)) 1024) 64))) (
 aw ((ae .u64 (ak .quo .u64 (ak .rem .u64 (ae .u64 ((ae .u64 (bP - c6))+1)) 1024) 64))<16) (
 aw (0≤(ak .rem .u64 (ae .u64 ((ae .u64 (bP - c6))+1)) 64)) (
 ∃(rM:Int) (fo jf:Nat→Int),rM=(ae .u64 (c6 - 1))∧(∀j,j<16→fo j=(au A2 (ag (ae .u64 (ak .quo .u64 (ak .rem .u64 (ae .u64 ((ae .u64 (bP - c6))+1)) 1024) 64))) (ak .kY .u64 (A2 (ag (ae .u64 (ak .quo .u64 (ak .rem .u64 (ae .u64 ((ae .u64 (bP - c6))+1)) 1024) 64)))) (ak .shl .u64 1 (ak .rem .u64 (ae .u64 ((ae .u64 (bP - c6))+1)) 64)))) j)∧(∀j,j<16→jf j=A3 j)∧dS ⟨[],[],[rM],[fo,jf],[],[],[]⟩∧gv ⟨[],[],[rM],[fo,jf],[],[],[]⟩<gv ⟨[],[],[c6],[A2,A3],[],[],[]⟩)))) (
 aw (0≤(ae .u64 (ak .quo .u64 (ak .rem .u64 bP 1024) 64))) (
 aw ((ae .u64 (ak .quo .u64 (ak .rem .u64 bP 1024) 64))<16) (
 aw (0≤(ak .rem .u64 bP 64)) (
 ao (.int .i64 0) [al b0 true (.int .u16 x0::(.int .u64 x1::(.int .i64 x2::(.int .u64 x3::(v0.v::(.bool true::(.int .u64 (ak .imax .u64 bP bP)::(aiL (aj .u64 16 (au A2 (ag (ae .u64 (ak .quo .u64 (ak .rem .u64 bP 1024) 64))) (ak .bC .u64 (A2 (ag (ae .u64 (ak .quo .u64 (ak .rem .u64 bP 1024) 64)))) (ak .shl .u64 1 (ak .rem .u64 bP 64))))) (.int .u16 x5::(.int .u64 x6::(.int .i64 x7::(.int .u64 x8::(v1.v::(.bool q1::(.int .u64 x9::(aiL (aj .u64 16 A3) ([.bool q2]))))))))))))))))),al b1 true ([.pointer (some ⟨b0,5,none⟩)]),al b2 true ([.int .u64 bP]),al b3 true ([.int .u64 bP]),HP.emp,sB l5 {r4 with state:=ajE,pending:=none}]))))) (
 ∀b2 b3:Nat,∀(_ l5:Nat) (r4:Loop),∃(dS:Ext→Prop) (gv:Ext→Nat),(∃(c6:Int) (A2 A3:Nat→Int),c6=(ak .jJ .u64 (ae .u64 (bP - (ak .jJ .u64 bP x4))) 1024)∧(∀j,j<16→A2 j=A0 j)∧(∀j,j<16→A3 j=A1 j)∧dS ⟨[],[],[c6],[A2,A3],[],[],[]⟩)∧
 ∀(c6:Int) (A2 A3:Nat→Int),dS ⟨[],[],[c6],[A2,A3],[],[],[]⟩→
 aJ (0<c6) (
 aw (0≤(ae .u64 (ak .quo .u64 (ak .rem .u64 (ae .u64 ((ae .u64 (bP - c6))+1)) 1024) 64))) (
 aw ((ae .u64 (ak .quo .u64 (ak .rem .u64 (ae .u64 ((ae .u64 (bP - c6))+1)) 1024) 64))<16) (
 aw (0≤(ak .rem .u64 (ae .u64 ((ae .u64 (bP - c6))+1)) 64)) (
 ∃(rM:Int) (fo jf:Nat→Int),rM=(ae .u64 (c6 - 1))∧(∀j,j<16→fo j=(au A2 (ag (ae .u64 (ak .quo .u64 (ak .rem .u64 (ae .u64 ((ae .u64 (bP - c6))+1)) 1024) 64))) (ak .kY .u64 (A2 (ag (ae .u64 (ak .quo .u64 (ak .rem .u64 (ae .u64 ((ae .u64 (bP - c6))+1)) 1024) 64)))) (ak .shl .u64 1 (ak .rem .u64 (ae .u64 ((ae .u64 (bP - c6))+1)) 64)))) j)∧(∀j,j<16→jf j=A3 j)∧dS ⟨[],[],[rM],[fo,jf],[],[],[]⟩∧gv ⟨[],[],[rM],[fo,jf],[],[],[]⟩<gv ⟨[],[],[c6],[A2,A3],[],[],[]⟩)))) (
 aw (0≤(ae .u64 (ak .quo .u64 (ak .rem .u64 bP 1024) 64))) (
 aw ((ae .u64 (ak .quo .u64 (ak .rem .u64 bP 1024) 64))<16) (
 aw (0≤(ak .rem .u64 bP 64)) (
 ao (.int .i64 0) [al b0 true (.int .u16 x0::(.int .u64 x1::(.int .i64 x2::(.int .u64 x3::(v0.v::(.bool q0::(.int .u64 (ak .imax .u64 x4 bP)::(aiL (aj .u64 16 (au A2 (ag (ae .u64 (ak .quo .u64 (ak .rem .u64 bP 1024) 64))) (ak .bC .u64 (A2 (ag (ae .u64 (ak .quo .u64 (ak .rem .u64 bP 1024) 64)))) (ak .shl .u64 1 (ak .rem .u64 bP 64))))) (.int .u16 x5::(.int .u64 x6::(.int .i64 x7::(.int .u64 x8::(v1.v::(.bool q1::(.int .u64 x9::(aiL (aj .u64 16 A3) ([.bool q2]))))))))))))))))),al b1 true ([.pointer (some ⟨b0,5,none⟩)]),al b2 true ([.int .u64 x4]),al b3 true ([.int .u64 bP]),HP.emp,sB l5 {r4 with state:=ajE,pending:=none}]))))))
theorem My(ao:PT)(x0 x1 x2 x3 x4 x5 x6 x7 x8 x9 bP:Int)(A0 A1:Nat→Int)(q0 q1 q2:Bool)(v0 v1:V1)(b0:Nat)(h:Ds ao x0 x1 x2 x3 x4 x5 x6 x7 x8 x9 bP A0 A1 q0 q1 q2 v0 v1 b0):gq 52 [.ptr 0 5,.int .u64 (.var 10)] [.row 0 true [.int .u16 (.var 0),.int .u64 (.var 1),.int .i64 (.var 2),.int .u64 (.var 3),.vv 0,.bool (BE.var 0),.int .u64 (.var 4),.b_ .u64 16 (.aN 0),.int .u16 (.var 5),.int .u64 (.var 6),.int .i64 (.var 7),.int .u64 (.var 8),.vv 1,.bool (BE.var 1),.int .u64 (.var 9),.b_ .u64 16 (.aN 1),.bool (BE.var 2)]] ⟨[x0,x1,x2,x3,x4,x5,x6,x7,x8,x9,bP],[A0,A1],[q0,q1,q2],[b0],[v0,v1],[],[],[]⟩ ao:=
 Gr (C:=Fw.cx) _ _ ⟨1,2,11,2,3,0,0⟩ _ Tryz.func52 (by kernel_rfl) h
def Dt(ao:PT)(x0 x1 x2 x3 x4 x5 x6 x7 x8 x9 bP:Int)(A0 A1:Nat→Int)(q0 q1 q2:Bool)(v0 v1:V1)(b0:Nat):Prop:=
 ∀b1:Nat,Cl 51 [.pointer (some ⟨b0,28,none⟩),.int .u64 bP] [al b0 true (.int .u16 x0::(.int .u64 x1::(.int .i64 x2::(.int .u64 x3::(v0.v::(.bool q0::(.int .u64 x4::(aiL (aj .u64 16 A0) (.int .u16 x5::(.int .u64 x6::(.int .i64 x7::(.int .u64 x8::(v1.v::(.bool q1::(.int .u64 x9::(aiL (aj .u64 16 A1) ([.bool q2])))))))))))))))))] fun x hs l=> ∃fm:Int,x= .int .i64 fm∧hs=l∧
 aJ (¬(fm=0)) (
 ao (.int .i64 fm) [al b0 true (.int .u16 x0::(.int .u64 x1::(.int .i64 x2::(.int .u64 x3::(v0.v::(.bool q0::(.int .u64 x4::(aiL (aj .u64 16 A0) (.int .u16 x5::(.int .u64 x6::(.int .i64 x7::(.int .u64 x8::(v1.v::(.bool q1::(.int .u64 x9::(aiL (aj .u64 16 A1) ([.bool q2]))))))))))))))))),al b1 true ([.pointer (some ⟨b0,28,none⟩)])]) (
 aJ (¬(q1=true)) (
 ∀b2 b3:Nat,∀(_ l5:Nat) (r4:Loop),∃(dS:Ext→Prop) (gv:Ext→Nat),(∃(c6:Int) (A2 A3:Nat→Int),c6=(ak .jJ .u64 (ae .u64 (bP - (ak .jJ .u64 bP bP))) 1024)∧(∀j,j<16→A2 j=A0 j)∧(∀j,j<16→A3 j=A1 j)∧dS ⟨[],[],[c6],[A2,A3],[],[],[]⟩)∧
 ∀(c6:Int) (A2 A3:Nat→Int),dS ⟨[],[],[c6],[A2,A3],[],[],[]⟩→
 aJ (0<c6) (
 aw (0≤(ae .u64 (ak .quo .u64 (ak .rem .u64 (ae .u64 ((ae .u64 (bP - c6))+1)) 1024) 64))) (
 aw ((ae .u64 (ak .quo .u64 (ak .rem .u64 (ae .u64 ((ae .u64 (bP - c6))+1)) 1024) 64))<16) (
 aw (0≤(ak .rem .u64 (ae .u64 ((ae .u64 (bP - c6))+1)) 64)) (
 ∃(rM:Int) (fo jf:Nat→Int),rM=(ae .u64 (c6 - 1))∧(∀j,j<16→fo j=A2 j)∧(∀j,j<16→jf j=(au A3 (ag (ae .u64 (ak .quo .u64 (ak .rem .u64 (ae .u64 ((ae .u64 (bP - c6))+1)) 1024) 64))) (ak .kY .u64 (A3 (ag (ae .u64 (ak .quo .u64 (ak .rem .u64 (ae .u64 ((ae .u64 (bP - c6))+1)) 1024) 64)))) (ak .shl .u64 1 (ak .rem .u64 (ae .u64 ((ae .u64 (bP - c6))+1)) 64)))) j)∧dS ⟨[],[],[rM],[fo,jf],[],[],[]⟩∧gv ⟨[],[],[rM],[fo,jf],[],[],[]⟩<gv ⟨[],[],[c6],[A2,A3],[],[],[]⟩)))) (
 aw (0≤(ae .u64 (ak .quo .u64 (ak .rem .u64 bP 1024) 64))) (
 aw ((ae .u64 (ak .quo .u64 (ak .rem .u64 bP 1024) 64))<16) (
 aw (0≤(ak .rem .u64 bP 64)) (
 ao (.int .i64 0) [al b0 true (.int .u16 x0::(.int .u64 x1::(.int .i64 x2::(.int .u64 x3::(v0.v::(.bool q0::(.int .u64 x4::(aiL (aj .u64 16 A2) (.int .u16 x5::(.int .u64 x6::(.int .i64 x7::(.int .u64 x8::(v1.v::(.bool true::(.int .u64 (ak .imax .u64 bP bP)::(aiL (aj .u64 16 (au A3 (ag (ae .u64 (ak .quo .u64 (ak .rem .u64 bP 1024) 64))) (ak .bC .u64 (A3 (ag (ae .u64 (ak .quo .u64 (ak .rem .u64 bP 1024) 64)))) (ak .shl .u64 1 (ak .rem .u64 bP 64))))) ([.bool q2]))))))))))))))))),al b1 true ([.pointer (some ⟨b0,28,none⟩)]),al b2 true ([.int .u64 bP]),al b3 true ([.int .u64 bP]),HP.emp,sB l5 {r4 with state:=ajE,pending:=none}]))))) (
 ∀b2 b3:Nat,∀(_ l5:Nat) (r4:Loop),∃(dS:Ext→Prop) (gv:Ext→Nat),(∃(c6:Int) (A2 A3:Nat→Int),c6=(ak .jJ .u64 (ae .u64 (bP - (ak .jJ .u64 bP x9))) 1024)∧(∀j,j<16→A2 j=A0 j)∧(∀j,j<16→A3 j=A1 j)∧dS ⟨[],[],[c6],[A2,A3],[],[],[]⟩)∧
 ∀(c6:Int) (A2 A3:Nat→Int),dS ⟨[],[],[c6],[A2,A3],[],[],[]⟩→
 aJ (0<c6) (
 aw (0≤(ae .u64 (ak .quo .u64 (ak .rem .u64 (ae .u64 ((ae .u64 (bP - c6))+1)) 1024) 64))) (
 aw ((ae .u64 (ak .quo .u64 (ak .rem .u64 (ae .u64 ((ae .u64 (bP - c6))+1)) 1024) 64))<16) (
 aw (0≤(ak .rem .u64 (ae .u64 ((ae .u64 (bP - c6))+1)) 64)) (
 ∃(rM:Int) (fo jf:Nat→Int),rM=(ae .u64 (c6 - 1))∧(∀j,j<16→fo j=A2 j)∧(∀j,j<16→jf j=(au A3 (ag (ae .u64 (ak .quo .u64 (ak .rem .u64 (ae .u64 ((ae .u64 (bP - c6))+1)) 1024) 64))) (ak .kY .u64 (A3 (ag (ae .u64 (ak .quo .u64 (ak .rem .u64 (ae .u64 ((ae .u64 (bP - c6))+1)) 1024) 64)))) (ak .shl .u64 1 (ak .rem .u64 (ae .u64 ((ae .u64 (bP - c6))+1)) 64)))) j)∧dS ⟨[],[],[rM],[fo,jf],[],[],[]⟩∧gv ⟨[],[],[rM],[fo,jf],[],[],[]⟩<gv ⟨[],[],[c6],[A2,A3],[],[],[]⟩)))) (
 aw (0≤(ae .u64 (ak .quo .u64 (ak .rem .u64 bP 1024) 64))) (
 aw ((ae .u64 (ak .quo .u64 (ak .rem .u64 bP 1024) 64))<16) (
 aw (0≤(ak .rem .u64 bP 64)) (
 ao (.int .i64 0) [al b0 true (.int .u16 x0::(.int .u64 x1::(.int .i64 x2::(.int .u64 x3::(v0.v::(.bool q0::(.int .u64 x4::(aiL (aj .u64 16 A2) (.int .u16 x5::(.int .u64 x6::(.int .i64 x7::(.int .u64 x8::(v1.v::(.bool q1::(.int .u64 (ak .imax .u64 x9 bP)::(aiL (aj .u64 16 (au A3 (ag (ae .u64 (ak .quo .u64 (ak .rem .u64 bP 1024) 64))) (ak .bC .u64 (A3 (ag (ae .u64 (ak .quo .u64 (ak .rem .u64 bP 1024) 64)))) (ak .shl .u64 1 (ak .rem .u64 bP 64))))) ([.bool q2]))))))))))))))))),al b1 true ([.pointer (some ⟨b0,28,none⟩)]),al b2 true ([.int .u64 x9]),al b3 true ([.int .u64 bP]),HP.emp,sB l5 {r4 with state:=ajE,pending:=none}]))))))
theorem Mz(ao:PT)(x0 x1 x2 x3 x4 x5 x6 x7 x8 x9 bP:Int)(A0 A1:Nat→Int)(q0 q1 q2:Bool)(v0 v1:V1)(b0:Nat)(h:Dt ao x0 x1 x2 x3 x4 x5 x6 x7 x8 x9 bP A0 A1 q0 q1 q2 v0 v1 b0):gq 52 [.ptr 0 28,.int .u64 (.var 10)] [.row 0 true [.int .u16 (.var 0),.int .u64 (.var 1),.int .i64 (.var 2),.int .u64 (.var 3),.vv 0,.bool (BE.var 0),.int .u64 (.var 4),.b_ .u64 16 (.aN 0),.int .u16 (.var 5),.int .u64 (.var 6),.int .i64 (.var 7),.int .u64 (.var 8),.vv 1,.bool (BE.var 1),.int .u64 (.var 9),.b_ .u64 16 (.aN 1),.bool (BE.var 2)]] ⟨[x0,x1,x2,x3,x4,x5,x6,x7,x8,x9,bP],[A0,A1],[q0,q1,q2],[b0],[v0,v1],[],[],[]⟩ ao:=
 Gr (C:=Fw.cx) _ _ ⟨1,2,11,2,3,0,0⟩ _ Tryz.func52 (by kernel_rfl) h
def Du(ao:PT)(x0 x1 x2 x3 x4 x5:Int)(A0:Nat→Int)(q0:Bool)(v0:V1)(b0:Nat):Prop:=
 ∀b1:Nat,Cl 51 [.pointer (some ⟨b0,5,none⟩),.int .u64 x5] [al b0 true (.int .u16 x0::(.int .u64 x1::(.int .i64 x2::(.int .u64 x3::(v0.v::(.bool q0::(.int .u64 x4::(aiL (aj .u64 16 A0) ([])))))))))] fun x hs l=> ∃x6:Int,x= .int .i64 x6∧hs=l∧
 aJ (¬(x6=0)) (
 ao (.int .i64 x6) [al b0 true (.int .u16 x0::(.int .u64 x1::(.int .i64 x2::(.int .u64 x3::(v0.v::(.bool q0::(.int .u64 x4::(aiL (aj .u64 16 A0) ([]))))))))),al b1 true ([.pointer (some ⟨b0,5,none⟩)])]) (
 aJ (¬(q0=true)) (
 ∀b2 b3:Nat,∀(_ l5:Nat) (r4:Loop),∃(dS:Ext→Prop) (gv:Ext→Nat),(∃(x7:Int) (A1 A2:Nat→Int),x7=(ak .jJ .u64 (ae .u64 (x5 - (ak .jJ .u64 x5 x5))) 1024)∧(∀j,j<16→A1 j=A0 j)∧dS ⟨[],[],[x7],[A1,A2],[],[],[]⟩)∧
 ∀(x7:Int) (A1 A2:Nat→Int),dS ⟨[],[],[x7],[A1,A2],[],[],[]⟩→
 aJ (0<x7) (
 aw (0≤(ae .u64 (ak .quo .u64 (ak .rem .u64 (ae .u64 ((ae .u64 (x5 - x7))+1)) 1024) 64))) (
 aw ((ae .u64 (ak .quo .u64 (ak .rem .u64 (ae .u64 ((ae .u64 (x5 - x7))+1)) 1024) 64))<16) (
 aw (0≤(ak .rem .u64 (ae .u64 ((ae .u64 (x5 - x7))+1)) 64)) (
 ∃(GD:Int) (BR fo:Nat→Int),GD=(ae .u64 (x7 - 1))∧(∀j,j<16→BR j=(au A1 (ag (ae .u64 (ak .quo .u64 (ak .rem .u64 (ae .u64 ((ae .u64 (x5 - x7))+1)) 1024) 64))) (ak .kY .u64 (A1 (ag (ae .u64 (ak .quo .u64 (ak .rem .u64 (ae .u64 ((ae .u64 (x5 - x7))+1)) 1024) 64)))) (ak .shl .u64 1 (ak .rem .u64 (ae .u64 ((ae .u64 (x5 - x7))+1)) 64)))) j)∧dS ⟨[],[],[GD],[BR,fo],[],[],[]⟩∧gv ⟨[],[],[GD],[BR,fo],[],[],[]⟩<gv ⟨[],[],[x7],[A1,A2],[],[],[]⟩)))) (
 aw (0≤(ae .u64 (ak .quo .u64 (ak .rem .u64 x5 1024) 64))) (
 aw ((ae .u64 (ak .quo .u64 (ak .rem .u64 x5 1024) 64))<16) (
 aw (0≤(ak .rem .u64 x5 64)) (
 ao (.int .i64 0) [al b0 true (.int .u16 x0::(.int .u64 x1::(.int .i64 x2::(.int .u64 x3::(v0.v::(.bool true::(.int .u64 (ak .imax .u64 x5 x5)::(aiL (aj .u64 16 (au A1 (ag (ae .u64 (ak .quo .u64 (ak .rem .u64 x5 1024) 64))) (ak .bC .u64 (A1 (ag (ae .u64 (ak .quo .u64 (ak .rem .u64 x5 1024) 64)))) (ak .shl .u64 1 (ak .rem .u64 x5 64))))) ([]))))))))),al b1 true ([.pointer (some ⟨b0,5,none⟩)]),al b2 true ([.int .u64 x5]),al b3 true ([.int .u64 x5]),HP.emp,sB l5 {r4 with state:=ajE,pending:=none}]))))) (
 ∀b2 b3:Nat,∀(_ l5:Nat) (r4:Loop),∃(dS:Ext→Prop) (gv:Ext→Nat),(∃(x7:Int) (A1 A2:Nat→Int),x7=(ak .jJ .u64 (ae .u64 (x5 - (ak .jJ .u64 x5 x4))) 1024)∧(∀j,j<16→A1 j=A0 j)∧dS ⟨[],[],[x7],[A1,A2],[],[],[]⟩)∧
 ∀(x7:Int) (A1 A2:Nat→Int),dS ⟨[],[],[x7],[A1,A2],[],[],[]⟩→
 aJ (0<x7) (
 aw (0≤(ae .u64 (ak .quo .u64 (ak .rem .u64 (ae .u64 ((ae .u64 (x5 - x7))+1)) 1024) 64))) (
 aw ((ae .u64 (ak .quo .u64 (ak .rem .u64 (ae .u64 ((ae .u64 (x5 - x7))+1)) 1024) 64))<16) (
 aw (0≤(ak .rem .u64 (ae .u64 ((ae .u64 (x5 - x7))+1)) 64)) (
 ∃(GD:Int) (BR fo:Nat→Int),GD=(ae .u64 (x7 - 1))∧(∀j,j<16→BR j=(au A1 (ag (ae .u64 (ak .quo .u64 (ak .rem .u64 (ae .u64 ((ae .u64 (x5 - x7))+1)) 1024) 64))) (ak .kY .u64 (A1 (ag (ae .u64 (ak .quo .u64 (ak .rem .u64 (ae .u64 ((ae .u64 (x5 - x7))+1)) 1024) 64)))) (ak .shl .u64 1 (ak .rem .u64 (ae .u64 ((ae .u64 (x5 - x7))+1)) 64)))) j)∧dS ⟨[],[],[GD],[BR,fo],[],[],[]⟩∧gv ⟨[],[],[GD],[BR,fo],[],[],[]⟩<gv ⟨[],[],[x7],[A1,A2],[],[],[]⟩)))) (
 aw (0≤(ae .u64 (ak .quo .u64 (ak .rem .u64 x5 1024) 64))) (
 aw ((ae .u64 (ak .quo .u64 (ak .rem .u64 x5 1024) 64))<16) (
 aw (0≤(ak .rem .u64 x5 64)) (
 ao (.int .i64 0) [al b0 true (.int .u16 x0::(.int .u64 x1::(.int .i64 x2::(.int .u64 x3::(v0.v::(.bool q0::(.int .u64 (ak .imax .u64 x4 x5)::(aiL (aj .u64 16 (au A1 (ag (ae .u64 (ak .quo .u64 (ak .rem .u64 x5 1024) 64))) (ak .bC .u64 (A1 (ag (ae .u64 (ak .quo .u64 (ak .rem .u64 x5 1024) 64)))) (ak .shl .u64 1 (ak .rem .u64 x5 64))))) ([]))))))))),al b1 true ([.pointer (some ⟨b0,5,none⟩)]),al b2 true ([.int .u64 x4]),al b3 true ([.int .u64 x5]),HP.emp,sB l5 {r4 with state:=ajE,pending:=none}]))))))
theorem MA(ao:PT)(x0 x1 x2 x3 x4 x5:Int)(A0:Nat→Int)(q0:Bool)(v0:V1)(b0:Nat)(h:Du ao x0 x1 x2 x3 x4 x5 A0 q0 v0 b0):gq 52 [.ptr 0 5,.int .u64 (.var 5)] [.row 0 true [.int .u16 (.var 0),.int .u64 (.var 1),.int .i64 (.var 2),.int .u64 (.var 3),.vv 0,.bool (BE.var 0),.int .u64 (.var 4),.b_ .u64 16 (.aN 0)]] ⟨[x0,x1,x2,x3,x4,x5],[A0],[q0],[b0],[v0],[],[],[]⟩ ao:=
 Gr (C:=Fw.cx) _ _ ⟨1,1,6,1,1,0,0⟩ _ Tryz.func52 (by kernel_rfl) h
def sC(ao:PT)(x0 x1 x2 x3:Int)(A0:Nat→Int)(v0:V1):Prop:=
 ∀b0:Nat,Cl 77 [.int .u16 x0,v0.v,.int .u64 0] [bi v0 x3 A0] fun x hs l=> ∃(v1:V1) (x4 x5 x6 x7:Int) (A1 A2:Nat→Int),x= .tuple #[.agg (.int .u16 x4::(.int .u64 x5::(v1.v::(aiL (aj .u8 12 A2) ([]))))).toArray,.int .i64 x6]∧hs=l++[bo v1 x7 A1]∧
 ∀b1:Nat,aJ (¬(x6=0)) (
 ∀b2:Nat,ao (.tuple #[.pointer none,.int .i64 x6]) [bi v0 x3 A0,al b0 true ([.int .u16 0,.int .u64 0,.int .i64 0,.int .u64 0,.slice none 0 0]),bo v1 x7 A1,al b1 true (.int .u16 x4::(.int .u64 x5::(v1.v::(aiL (aj .u8 12 A2) ([]))))),al b2 true ([.int .u16 0,.int .u64 0,.int .i64 0,.int .u64 0,.slice none 0 0])]) (
 aw (((x2<0)∨(16<x2))∨(0≤x2)) (
 aJ (((x2<0)∨(16<x2))∨((ak .shr .u64 18446744073709551615 x2)<x1)) (
 ∀b2:Nat,ao (.tuple #[.pointer none,.int .i64 2]) [bi v0 x3 A0,al b0 true ([.int .u16 0,.int .u64 0,.int .i64 0,.int .u64 0,.slice none 0 0]),bo v1 x7 A1,al b1 true (.int .u16 x4::(.int .u64 x5::(v1.v::(aiL (aj .u8 12 A2) ([]))))),al b2 true ([.int .u16 0,.int .u64 0,.int .i64 0,.int .u64 0,.slice none 0 0])]) (
 aw (0≤x3) (
 aw (0≤x3) (
 nq x3 (
 ∀(v2:V1) (b2 b3:Nat),ao (.tuple #[.pointer (some ⟨b3,0,none⟩),.int .i64 0]) [bi v0 x3 A0,al b0 true ([.int .u16 x0,.int .u64 x1,.int .i64 x2,.int .u64 0,v2.v]),bo v1 x7 A1,al b1 true (.int .u16 x4::(.int .u64 x5::(v1.v::(aiL (aj .u8 12 A2) ([]))))),bo v2 x3 A0,al b2 true ([.int .u16 x0,.int .u64 x1,.int .i64 x2,.int .u64 0,v2.v]),al b3 true ([.int .u16 x0,.int .u64 x1,.int .i64 x2,.int .u64 0,v2.v,.int .u64 0,.bool false])]))))))
theorem BS(ao:PT)(x0 x1 x2 x3:Int)(A0:Nat→Int)(v0:V1)(h:sC ao x0 x1 x2 x3 A0 v0):gq 14 [.int .u16 (.var 0),.vv 0,.int .u64 (.var 1),.int .i64 (.var 2)] [.bK false 0 5 1 (.var 3) [⟨.int .u8,1,.aN 0⟩]] ⟨[x0,x1,x2,x3],[A0],[],[],[v0],[],[],[]⟩ ao:=
 Gr (C:=Fw.cx) _ _ ⟨0,1,4,1,0,0,0⟩ _ Tryz.func14 (by kernel_rfl) h
def pj(ao:PT)(x0 x1 x2 x3:Int)(A0:Nat→Int)(v0:V1):Prop:=
 ∀b0:Nat,Cl 77 [.int .u16 x0,v0.v,.int .u64 0] [bi v0 x3 A0] fun x hs l=> ∃(v1:V1) (x4 x5 x6 x7:Int) (A1 A2:Nat→Int),x= .tuple #[.agg (.int .u16 x4::(.int .u64 x5::(v1.v::(aiL (aj .u8 12 A2) ([]))))).toArray,.int .i64 x6]∧hs=l++[bo v1 x7 A1]∧
 ∀b1:Nat,aJ (¬(x6=0)) (
 ∀b2:Nat,ao (.tuple #[.pointer none,.int .i64 x6]) [bi v0 x3 A0,al b0 true ([.int .u16 0,.int .u64 0,.int .i64 0,.int .u64 0,.slice none 0 0]),bo v1 x7 A1,al b1 true (.int .u16 x4::(.int .u64 x5::(v1.v::(aiL (aj .u8 12 A2) ([]))))),al b2 true ([.int .u16 0,.int .u64 0,.int .i64 0,.int .u64 0,.slice none 0 0])]) (
 aw (((x2<0)∨(16<x2))∨(0≤x2)) (
 aJ (((x2<0)∨(16<x2))∨((ak .shr .u64 18446744073709551615 x2)<x1)) (
 ∀b2:Nat,ao (.tuple #[.pointer none,.int .i64 2]) [bi v0 x3 A0,al b0 true ([.int .u16 0,.int .u64 0,.int .i64 0,.int .u64 0,.slice none 0 0]),bo v1 x7 A1,al b1 true (.int .u16 x4::(.int .u64 x5::(v1.v::(aiL (aj .u8 12 A2) ([]))))),al b2 true ([.int .u16 0,.int .u64 0,.int .i64 0,.int .u64 0,.slice none 0 0])]) (
 aw (0≤x3) (
 aw (0≤x3) (
 nq x3 (
 ∀(v2:V1) (b2 b3:Nat),ao (.tuple #[.pointer (some ⟨b3,0,none⟩),.int .i64 0]) [bi v0 x3 A0,al b0 true ([.int .u16 x0,.int .u64 x1,.int .i64 x2,.int .u64 0,v2.v]),bo v1 x7 A1,al b1 true (.int .u16 x4::(.int .u64 x5::(v1.v::(aiL (aj .u8 12 A2) ([]))))),bo v2 x3 A0,al b2 true ([.int .u16 x0,.int .u64 x1,.int .i64 x2,.int .u64 0,v2.v]),al b3 true (.int .u16 x0::(.int .u64 x1::(.int .i64 x2::(.int .u64 0::(v2.v::(.bool false::(.int .u64 0::(aiL (aj .u64 16 (fun _=>0)) (.int .u16 0::(.int .u64 0::(.int .i64 0::(.int .u64 0::(.slice none 0 0::(.bool false::(.int .u64 0::(aiL (aj .u64 16 (fun _=>0)) ([.bool false])))))))))))))))))]))))))
theorem xD(ao:PT)(x0 x1 x2 x3:Int)(A0:Nat→Int)(v0:V1)(h:pj ao x0 x1 x2 x3 A0 v0):gq 15 [.int .u16 (.var 0),.vv 0,.int .u64 (.var 1),.int .i64 (.var 2)] [.bK false 0 5 1 (.var 3) [⟨.int .u8,1,.aN 0⟩]] ⟨[x0,x1,x2,x3],[A0],[],[],[v0],[],[],[]⟩ ao:=
 Gr (C:=Fw.cx) _ _ ⟨0,1,4,1,0,0,0⟩ _ Tryz.func15 (by kernel_rfl) h
def xE(ao:PT)(x0 x1 x2 x3 x4 x5 x6 x7:Int)(A0 A1 A2:Nat→Int)(q0:Bool)(v0 v1 v2:V1)(b0:Nat):Prop:=
 aJ (q0=true) (
 ao (.tuple #[.slice none 0 0,.int .i64 150]) [al b0 true ([.int .u16 x0,.int .u64 x1,.int .i64 x2,.int .u64 x3,v0.v,.int .u64 x4,.bool q0]),bi v0 x5 A0,bi v2 x7 A2]) (
 Cl 41 [.agg #[.int .u16 x0,.int .u64 x1,.int .i64 x2,.int .u64 x3,v0.v]] [bi v0 x5 A0] fun x hs l=> ∃(v3:V1) (x8 x9 bP:Int) (A3 A4:Nat→Int),x= .agg (.int .u16 x8::(.int .u64 x9::(v3.v::(aiL (aj .u8 12 A4) ([]))))).toArray∧hs=l++[bo v3 bP A3]∧
 Cl 8 [.agg (.int .u16 x8::(.int .u64 x9::(v3.v::(aiL (aj .u8 12 A4) ([]))))).toArray,.int .u64 x4,v1.v,v2.v] [bo v3 bP A3,bi v1 x6 A1,bi v2 x7 A2] fun x hs l=> ∃(v4:V1) (fm c6:Int) (A5:Nat→Int),x= .tuple #[v4.v,.int .i64 c6]∧hs=l++[bo v4 fm A5]∧
 aJ (¬(c6=0)) (
 ao (.tuple #[.slice none 0 0,.int .i64 c6]) [al b0 true ([.int .u16 x0,.int .u64 x1,.int .i64 x2,.int .u64 x3,v0.v,.int .u64 x4,.bool q0]),bi v0 x5 A0,bo v4 fm A5]) (
 ao (.tuple #[v4.v,.int .i64 0]) [al b0 true ([.int .u16 x0,.int .u64 x1,.int .i64 x2,.int .u64 x3,v0.v,.int .u64 (ae .u64 (x4+1)),.bool ((ae .u64 (x4+1))==0)]),bi v0 x5 A0,bo v4 fm A5]))
theorem Dv(ao:PT)(x0 x1 x2 x3 x4 x5 x6 x7:Int)(A0 A1 A2:Nat→Int)(q0:Bool)(v0 v1 v2:V1)(b0:Nat)(h:xE ao x0 x1 x2 x3 x4 x5 x6 x7 A0 A1 A2 q0 v0 v1 v2 b0):gq 18 [.ptr 0 0,.vv 1,.vv 2] [.row 0 true [.int .u16 (.var 0),.int .u64 (.var 1),.int .i64 (.var 2),.int .u64 (.var 3),.vv 0,.int .u64 (.var 4),.bool (BE.var 0)],.bK false 0 5 1 (.var 5) [⟨.int .u8,1,.aN 0⟩],.bK false 1 5 1 (.var 6) [⟨.int .u8,1,.aN 1⟩],.bK false 2 5 1 (.var 7) [⟨.int .u8,1,.aN 2⟩]] ⟨[x0,x1,x2,x3,x4,x5,x6,x7],[A0,A1,A2],[q0],[b0],[v0,v1,v2],[],[],[]⟩ ao:=
 qX (C:=Fw.cx) _ _ ⟨1,3,8,3,1,0,0⟩ _ 2 1 Tryz.func18 (by kernel_rfl) h
def Dw(ao:PT)(x0 x1 x2 x3 x4 x5:Int)(A0:Nat→Int)(q0:Bool)(v0:V1)(b0:Nat):Prop:=
 Cl 45 [.agg #[.int .u16 x0,.int .u64 x1,.int .i64 x2,.int .u64 x3,v0.v]] [] fun x hs _=> ∃x6:Int,x= .int .u64 x6∧hs=[]∧
 aJ (x3=x6) (
 ao (.int .i64 150) [al b0 true ([.int .u16 x0,.int .u64 x1,.int .i64 x2,.int .u64 x3,v0.v,.int .u64 x4,.bool q0]),bi v0 x5 A0]) (
 Cl 46 [.agg #[.int .u16 x0,.int .u64 x1,.int .i64 x2,.int .u64 x3,v0.v]] [bi v0 x5 A0] fun x hs _=> ∃(v1:V1) (x7 x8 x9 bP fm:Int) (A1:Nat→Int),x= .agg #[.int .u16 x7,.int .u64 x8,.int .i64 x9,.int .u64 bP,v1.v]∧hs=[bi v1 fm A1]∧
 ao (.int .i64 0) [al b0 true ([.int .u16 x7,.int .u64 x8,.int .i64 x9,.int .u64 bP,v1.v,.int .u64 0,.bool false]),bi v1 fm A1])
theorem MB(ao:PT)(x0 x1 x2 x3 x4 x5:Int)(A0:Nat→Int)(q0:Bool)(v0:V1)(b0:Nat)(h:Dw ao x0 x1 x2 x3 x4 x5 A0 q0 v0 b0):gq 20 [.ptr 0 0] [.row 0 true [.int .u16 (.var 0),.int .u64 (.var 1),.int .i64 (.var 2),.int .u64 (.var 3),.vv 0,.int .u64 (.var 4),.bool (BE.var 0)],.bK false 0 5 1 (.var 5) [⟨.int .u8,1,.aN 0⟩]] ⟨[x0,x1,x2,x3,x4,x5],[A0],[q0],[b0],[v0],[],[],[]⟩ ao:=
 Mj (C:=Fw.cx) _ _ ⟨1,1,6,1,1,0,0⟩ _ 2 Tryz.func20 (by kernel_rfl) h
def Dx(ao:PT)(x0 x1 x2 x3 x4 x5:Int)(A0:Nat→Int)(q0:Bool)(v0:V1)(b0:Nat):Prop:=
 aJ (q0=true) (
 ao (.tuple #[.int .u64 0,.int .u64 0,.bool false]) [al b0 true ([.int .u16 x0,.int .u64 x1,.int .i64 x2,.int .u64 x3,v0.v,.int .u64 x4,.bool q0]),bi v0 x5 A0]) (
 Cl 48 [.agg #[.int .u16 x0,.int .u64 x1,.int .i64 x2,.int .u64 x3,v0.v]] [] fun x hs _=> ∃x6:Int,x= .int .u64 x6∧hs=[]∧
 ao (.tuple #[.int .u64 x6,.int .u64 x4,.bool true]) [al b0 true ([.int .u16 x0,.int .u64 x1,.int .i64 x2,.int .u64 x3,v0.v,.int .u64 x4,.bool q0]),bi v0 x5 A0])
theorem MC(ao:PT)(x0 x1 x2 x3 x4 x5:Int)(A0:Nat→Int)(q0:Bool)(v0:V1)(b0:Nat)(h:Dx ao x0 x1 x2 x3 x4 x5 A0 q0 v0 b0):gq 23 [.ptr 0 0] [.row 0 true [.int .u16 (.var 0),.int .u64 (.var 1),.int .i64 (.var 2),.int .u64 (.var 3),.vv 0,.int .u64 (.var 4),.bool (BE.var 0)],.bK false 0 5 1 (.var 5) [⟨.int .u8,1,.aN 0⟩]] ⟨[x0,x1,x2,x3,x4,x5],[A0],[q0],[b0],[v0],[],[],[]⟩ ao:=
 Mj (C:=Fw.cx) _ _ ⟨1,1,6,1,1,0,0⟩ _ 2 Tryz.func23 (by kernel_rfl) h
def IG(ao:PT)(x0 x1 x2 x3 x4:Int)(A0:Nat→Int)(v0:V1):Prop:=
 ∀b0 b1:Nat,(Cl 48 [.agg #[.int .u16 x0,.int .u64 x1,.int .i64 x2,.int .u64 x3,v0.v]] [] fun x hs _=> ∃x5:Int,x= .int .u64 x5∧hs=[]∧
 (Cl 77 [.int .u16 x0,v0.v,.int .u64 x5] [bi v0 x4 A0] fun x hs l=> ∃(v1:V1) (x6 x7 x8 x9:Int) (A1 A2:Nat→Int),x= .tuple #[.agg (.int .u16 x6::(.int .u64 x7::(v1.v::(aiL (aj .u8 12 A2) ([]))))).toArray,.int .i64 x8]∧hs=l++[bo v1 x9 A1]∧
 ∀b2:Nat,ao (.agg (.int .u16 x6::(.int .u64 x7::(v1.v::(aiL (aj .u8 12 A2) ([]))))).toArray) [bi v0 x4 A0,al b0 true ([.int .u16 x0,.int .u64 x1,.int .i64 x2,.int .u64 x3,v0.v]),al b1 true (.int .u16 x6::(.int .u64 x7::(v1.v::(aiL (aj .u8 12 A2) ([]))))),bo v1 x9 A1,al b2 true (.int .u16 x6::(.int .u64 x7::(v1.v::(aiL (aj .u8 12 A2) ([])))))])∧
 (∀b2:Nat,Cl 77 [.int .u16 x0,v0.v,.int .u64 x5] [bi v0 x4 A0] fun x hs l=> ∃(v1:V1) (x6 x7 x8 x9:Int) (A1 A2:Nat→Int),x= .tuple #[.agg (.int .u16 x6::(.int .u64 x7::(v1.v::(aiL (aj .u8 12 A2) ([]))))).toArray,.int .i64 x8]∧hs=l++[bo v1 x9 A1]∧
 ao (.agg (.int .u16 x6::(.int .u64 x7::(v1.v::(aiL (aj .u8 12 A2) ([]))))).toArray) [bi v0 x4 A0,al b0 true ([.int .u16 x0,.int .u64 x1,.int .i64 x2,.int .u64 x3,v0.v]),al b1 true (.int .u16 x6::(.int .u64 x7::(v1.v::(aiL (aj .u8 12 A2) ([]))))),al b2 true (.int .u16 x6::(.int .u64 x7::(v1.v::(aiL (aj .u8 12 A2) ([]))))),bo v1 x9 A1]))∧
 (∀b2:Nat,Cl 48 [.agg #[.int .u16 x0,.int .u64 x1,.int .i64 x2,.int .u64 x3,v0.v]] [] fun x hs _=> ∃x5:Int,x= .int .u64 x5∧hs=[]∧
 Cl 77 [.int .u16 x0,v0.v,.int .u64 x5] [bi v0 x4 A0] fun x hs l=> ∃(v1:V1) (x6 x7 x8 x9:Int) (A1 A2:Nat→Int),x= .tuple #[.agg (.int .u16 x6::(.int .u64 x7::(v1.v::(aiL (aj .u8 12 A2) ([]))))).toArray,.int .i64 x8]∧hs=l++[bo v1 x9 A1]∧
 ao (.agg (.int .u16 x6::(.int .u64 x7::(v1.v::(aiL (aj .u8 12 A2) ([]))))).toArray) [bi v0 x4 A0,al b0 true ([.int .u16 x0,.int .u64 x1,.int .i64 x2,.int .u64 x3,v0.v]),al b1 true (.int .u16 x6::(.int .u64 x7::(v1.v::(aiL (aj .u8 12 A2) ([]))))),al b2 true (.int .u16 x6::(.int .u64 x7::(v1.v::(aiL (aj .u8 12 A2) ([]))))),bo v1 x9 A1])
theorem Qk(ao:PT)(x0 x1 x2 x3 x4:Int)(A0:Nat→Int)(v0:V1)(h:IG ao x0 x1 x2 x3 x4 A0 v0):gq 41 [.agg [.int .u16 (.var 0),.int .u64 (.var 1),.int .i64 (.var 2),.int .u64 (.var 3),.vv 0]] [.bK false 0 5 1 (.var 4) [⟨.int .u8,1,.aN 0⟩]] ⟨[x0,x1,x2,x3,x4],[A0],[],[],[v0],[],[],[]⟩ ao:=
 Gr (C:=Fw.cx) _ _ ⟨0,1,5,1,0,0,0⟩ _ Tryz.func41 (by kernel_rfl) h
def II(ao:PT)(x0 x1 x2 x3:Int)(v0:V1):Prop:=
 ∀b0:Nat,aw (0≤x2) (
 ao (.int .u64 (ae .u64 ((ak .shl .u64 1 x2) - 1))) [al b0 true ([.int .u16 x0,.int .u64 x1,.int .i64 x2,.int .u64 x3,v0.v])])
theorem Ql(ao:PT)(x0 x1 x2 x3:Int)(v0:V1)(h:II ao x0 x1 x2 x3 v0):gq 45 [.agg [.int .u16 (.var 0),.int .u64 (.var 1),.int .i64 (.var 2),.int .u64 (.var 3),.vv 0]] [] ⟨[x0,x1,x2,x3],[],[],[],[v0],[],[],[]⟩ ao:=
 Gr (C:=Fw.cx) _ _ ⟨0,1,4,0,0,0,0⟩ _ Tryz.func45 (by kernel_rfl) h
def MD(ao:PT)(x0 x1 x2 x3:Int)(v0:V1):Prop:=
 ∀b0:Nat,aw (0≤x2) (
 ao (.int .u64 (ak .bC .u64 (ak .shl .u64 x1 x2) x3)) [al b0 true ([.int .u16 x0,.int .u64 x1,.int .i64 x2,.int .u64 x3,v0.v])])
theorem Ui(ao:PT)(x0 x1 x2 x3:Int)(v0:V1)(h:MD ao x0 x1 x2 x3 v0):gq 48 [.agg [.int .u16 (.var 0),.int .u64 (.var 1),.int .i64 (.var 2),.int .u64 (.var 3),.vv 0]] [] ⟨[x0,x1,x2,x3],[],[],[],[v0],[],[],[]⟩ ao:=
 Gr (C:=Fw.cx) _ _ ⟨0,1,4,0,0,0,0⟩ _ Tryz.func48 (by kernel_rfl) h
def Dy(ao:PT)(x0 x1 x2 x3 x4 x5 x6:Int)(A0:Nat→Int)(q0:Bool)(v0:V1)(b0:Nat):Prop:=
 aJ (q0=true) (
 ao (.int .i64 150) [al b0 true ([.int .u16 x0,.int .u64 x1,.int .i64 x2,.int .u64 x3,v0.v,.int .u64 x4,.bool q0]),bi v0 x5 A0]) (
 aJ (x6<x4) (
 ao (.int .i64 5) [al b0 true ([.int .u16 x0,.int .u64 x1,.int .i64 x2,.int .u64 x3,v0.v,.int .u64 x4,.bool q0]),bi v0 x5 A0]) (
 ao (.int .i64 0) [al b0 true ([.int .u16 x0,.int .u64 x1,.int .i64 x2,.int .u64 x3,v0.v,.int .u64 x6,.bool q0]),bi v0 x5 A0]))
theorem ME(ao:PT)(x0 x1 x2 x3 x4 x5 x6:Int)(A0:Nat→Int)(q0:Bool)(v0:V1)(b0:Nat)(h:Dy ao x0 x1 x2 x3 x4 x5 x6 A0 q0 v0 b0):gq 21 [.ptr 0 0,.int .u64 (.var 6)] [.row 0 true [.int .u16 (.var 0),.int .u64 (.var 1),.int .i64 (.var 2),.int .u64 (.var 3),.vv 0,.int .u64 (.var 4),.bool (BE.var 0)],.bK false 0 5 1 (.var 5) [⟨.int .u8,1,.aN 0⟩]] ⟨[x0,x1,x2,x3,x4,x5,x6],[A0],[q0],[b0],[v0],[],[],[]⟩ ao:=
 Gr (C:=Fw.cx) _ _ ⟨1,1,7,1,1,0,0⟩ _ Tryz.func21 (by kernel_rfl) h
def DA(ao:PT)(x0 x1 x2 x3 x4 x5 x6 x7 x8 x9 bP fm c6 cZ:Int)(A0 A1 A2 A3 A4 A5:Nat→Int)(q0 q1 q2:Bool)(v0 v1 v2 v3:V1)(b0:Nat):Prop:=
 ∀_ _ _ _:Nat,Cl 34 [v3.v] [bi v3 cZ A5] fun x hs l=> ∃rk mf ss uk:Int,x= .tuple #[.agg #[.int .u64 rk,.int .u64 mf],.int .i64 ss,.int .i64 uk]∧hs=l∧
 aJ (¬(uk=0)) (
 ∀b5:Nat,ao (.tuple #[.slice none 0 0,.agg #[.int .u64 0,.int .u64 0],.int .i64 uk]) [al b0 true (.int .u16 x0::(.int .u64 x1::(.int .i64 x2::(.int .u64 x3::(v0.v::(.bool q0::(.int .u64 x4::(aiL (aj .u64 16 A0) (.int .u16 x5::(.int .u64 x6::(.int .i64 x7::(.int .u64 x8::(v1.v::(.bool q1::(.int .u64 x9::(aiL (aj .u64 16 A1) ([.bool q2]))))))))))))))))),bi v0 bP A2,bi v1 fm A3,bi v2 c6 A4,bi v3 cZ A5,bi v0 bP A2,al b5 true ([.int .u64 0,.int .u64 0])]) (
 Cl 45 [.agg #[.int .u16 x0,.int .u64 x1,.int .i64 x2,.int .u64 x3,v0.v]] [] fun x hs _=> ∃De:Int,x= .int .u64 De∧hs=[]∧
 aw (0≤x2) (
 aJ (¬((ak .shr .u64 rk x2)=x1)) (
 ∀b5:Nat,ao (.tuple #[.slice none 0 0,.agg #[.int .u64 0,.int .u64 0],.int .i64 240]) [al b0 true (.int .u16 x0::(.int .u64 x1::(.int .i64 x2::(.int .u64 x3::(v0.v::(.bool q0::(.int .u64 x4::(aiL (aj .u64 16 A0) (.int .u16 x5::(.int .u64 x6::(.int .i64 x7::(.int .u64 x8::(v1.v::(.bool q1::(.int .u64 x9::(aiL (aj .u64 16 A1) ([.bool q2]))))))))))))))))),bi v0 bP A2,bi v1 fm A3,bi v2 c6 A4,bi v3 cZ A5,bi v0 bP A2,al b5 true ([.int .u64 0,.int .u64 0])]) (
 aJ ((ak .aM .u64 rk De)=x3) (
 ∀_:Nat,Cl 51 [.pointer (some ⟨b0,5,none⟩),.int .u64 mf] [al b0 true (.int .u16 x0::(.int .u64 x1::(.int .i64 x2::(.int .u64 x3::(v0.v::(.bool q0::(.int .u64 x4::(aiL (aj .u64 16 A0) (.int .u16 x5::(.int .u64 x6::(.int .i64 x7::(.int .u64 x8::(v1.v::(.bool q1::(.int .u64 x9::(aiL (aj .u64 16 A1) ([.bool q2])))))))))))))))))] fun x hs l=> ∃um:Int,x= .int .i64 um∧hs=l∧
 aJ (¬(um=0)) (
 ∀b6:Nat,ao (.tuple #[.slice none 0 0,.agg #[.int .u64 0,.int .u64 0],.int .i64 um]) [al b0 true (.int .u16 x0::(.int .u64 x1::(.int .i64 x2::(.int .u64 x3::(v0.v::(.bool q0::(.int .u64 x4::(aiL (aj .u64 16 A0) (.int .u16 x5::(.int .u64 x6::(.int .i64 x7::(.int .u64 x8::(v1.v::(.bool q1::(.int .u64 x9::(aiL (aj .u64 16 A1) ([.bool q2]))))))))))))))))),bi v0 bP A2,bi v1 fm A3,bi v2 c6 A4,bi v3 cZ A5,bi v0 bP A2,al b6 true ([.int .u64 0,.int .u64 0])]) (
 Cl 41 [.agg #[.int .u16 x0,.int .u64 x1,.int .i64 x2,.int .u64 x3,v0.v]] [bi v0 bP A2] fun x hs l=> ∃(v4:V1) (wZ Df AK:Int) (A6 A7:Nat→Int),x= .agg (.int .u16 wZ::(.int .u64 Df::(v4.v::(aiL (aj .u8 12 A7) ([]))))).toArray∧hs=l++[bo v4 AK A6]∧
 Cl 10 [.agg (.int .u16 wZ::(.int .u64 Df::(v4.v::(aiL (aj .u8 12 A7) ([]))))).toArray,v2.v,v3.v] [bo v4 AK A6,bi v2 c6 A4,bi v3 cZ A5] fun x hs l=> ∃(v5:V1) (kJ pd qu:Int) (A8:Nat→Int),x= .tuple #[v5.v,.int .u64 pd,.int .i64 qu]∧hs=l++[bo v5 kJ A8]∧
 aJ (¬(qu=0)) (
 ∀b6:Nat,ao (.tuple #[.slice none 0 0,.agg #[.int .u64 0,.int .u64 0],.int .i64 qu]) [al b0 true (.int .u16 x0::(.int .u64 x1::(.int .i64 x2::(.int .u64 x3::(v0.v::(.bool q0::(.int .u64 x4::(aiL (aj .u64 16 A0) (.int .u16 x5::(.int .u64 x6::(.int .i64 x7::(.int .u64 x8::(v1.v::(.bool q1::(.int .u64 x9::(aiL (aj .u64 16 A1) ([.bool q2]))))))))))))))))),bi v0 bP A2,bi v1 fm A3,bi v2 c6 A4,bi v3 cZ A5,bi v0 bP A2,al b6 true ([.int .u64 0,.int .u64 0])]) (
 Cl 52 [.pointer (some ⟨b0,5,none⟩),.int .u64 mf] [al b0 true (.int .u16 x0::(.int .u64 x1::(.int .i64 x2::(.int .u64 x3::(v0.v::(.bool q0::(.int .u64 x4::(aiL (aj .u64 16 A0) (.int .u16 x5::(.int .u64 x6::(.int .i64 x7::(.int .u64 x8::(v1.v::(.bool q1::(.int .u64 x9::(aiL (aj .u64 16 A1) ([.bool q2])))))))))))))))))] fun x hs _=> ∃(pk fl sv:Int) (A9 vm:Nat→Int) (q3 q4:Bool),x= .int .i64 sv∧hs=[al b0 true (.int .u16 x0::(.int .u64 x1::(.int .i64 x2::(.int .u64 x3::(v0.v::(.bool q3::(.int .u64 pk::(aiL (aj .u64 16 A9) (.int .u16 x5::(.int .u64 x6::(.int .i64 x7::(.int .u64 x8::(v1.v::(.bool q4::(.int .u64 fl::(aiL (aj .u64 16 vm) ([.bool q2])))))))))))))))))]∧
 ao (.tuple #[v5.v,.agg #[.int .u64 rk,.int .u64 mf],.int .i64 0]) [al b0 true (.int .u16 x0::(.int .u64 x1::(.int .i64 x2::(.int .u64 x3::(v0.v::(.bool q3::(.int .u64 pk::(aiL (aj .u64 16 A9) (.int .u16 x5::(.int .u64 x6::(.int .i64 x7::(.int .u64 x8::(v1.v::(.bool q4::(.int .u64 fl::(aiL (aj .u64 16 vm) ([.bool q2]))))))))))))))))),bi v0 bP A2,bi v1 fm A3,bi v2 c6 A4,bi v3 cZ A5,bi v0 bP A2,bo v5 kJ A8]))) (
 aJ ((q2=true)∧((ak .aM .u64 rk De)=x8)) (
 ∀_:Nat,Cl 51 [.pointer (some ⟨b0,28,none⟩),.int .u64 mf] [al b0 true (.int .u16 x0::(.int .u64 x1::(.int .i64 x2::(.int .u64 x3::(v0.v::(.bool q0::(.int .u64 x4::(aiL (aj .u64 16 A0) (.int .u16 x5::(.int .u64 x6::(.int .i64 x7::(.int .u64 x8::(v1.v::(.bool q1::(.int .u64 x9::(aiL (aj .u64 16 A1) ([.bool q2])))))))))))))))))] fun x hs l=> ∃um:Int,x= .int .i64 um∧hs=l∧
 aJ (¬(um=0)) (
 ∀b6:Nat,ao (.tuple #[.slice none 0 0,.agg #[.int .u64 0,.int .u64 0],.int .i64 um]) [al b0 true (.int .u16 x0::(.int .u64 x1::(.int .i64 x2::(.int .u64 x3::(v0.v::(.bool q0::(.int .u64 x4::(aiL (aj .u64 16 A0) (.int .u16 x5::(.int .u64 x6::(.int .i64 x7::(.int .u64 x8::(v1.v::(.bool q1::(.int .u64 x9::(aiL (aj .u64 16 A1) ([.bool q2]))))))))))))))))),bi v0 bP A2,bi v1 fm A3,bi v2 c6 A4,bi v3 cZ A5,bi v0 bP A2,al b6 true ([.int .u64 0,.int .u64 0])]) (
 Cl 41 [.agg #[.int .u16 x5,.int .u64 x6,.int .i64 x7,.int .u64 x8,v1.v]] [bi v1 fm A3] fun x hs l=> ∃(v4:V1) (wZ Df AK:Int) (A6 A7:Nat→Int),x= .agg (.int .u16 wZ::(.int .u64 Df::(v4.v::(aiL (aj .u8 12 A7) ([]))))).toArray∧hs=l++[bo v4 AK A6]∧
 Cl 10 [.agg (.int .u16 wZ::(.int .u64 Df::(v4.v::(aiL (aj .u8 12 A7) ([]))))).toArray,v2.v,v3.v] [bo v4 AK A6,bi v2 c6 A4,bi v3 cZ A5] fun x hs l=> ∃(v5:V1) (kJ pd qu:Int) (A8:Nat→Int),x= .tuple #[v5.v,.int .u64 pd,.int .i64 qu]∧hs=l++[bo v5 kJ A8]∧
 aJ (¬(qu=0)) (
 ∀b6:Nat,ao (.tuple #[.slice none 0 0,.agg #[.int .u64 0,.int .u64 0],.int .i64 qu]) [al b0 true (.int .u16 x0::(.int .u64 x1::(.int .i64 x2::(.int .u64 x3::(v0.v::(.bool q0::(.int .u64 x4::(aiL (aj .u64 16 A0) (.int .u16 x5::(.int .u64 x6::(.int .i64 x7::(.int .u64 x8::(v1.v::(.bool q1::(.int .u64 x9::(aiL (aj .u64 16 A1) ([.bool q2]))))))))))))))))),bi v0 bP A2,bi v1 fm A3,bi v2 c6 A4,bi v3 cZ A5,bi v0 bP A2,al b6 true ([.int .u64 0,.int .u64 0])]) (
 Cl 52 [.pointer (some ⟨b0,28,none⟩),.int .u64 mf] [al b0 true (.int .u16 x0::(.int .u64 x1::(.int .i64 x2::(.int .u64 x3::(v0.v::(.bool q0::(.int .u64 x4::(aiL (aj .u64 16 A0) (.int .u16 x5::(.int .u64 x6::(.int .i64 x7::(.int .u64 x8::(v1.v::(.bool q1::(.int .u64 x9::(aiL (aj .u64 16 A1) ([.bool q2])))))))))))))))))] fun x hs _=> ∃(pk fl sv:Int) (A9 vm:Nat→Int) (q3 q4:Bool),x= .int .i64 sv∧hs=[al b0 true (.int .u16 x0::(.int .u64 x1::(.int .i64 x2::(.int .u64 x3::(v0.v::(.bool q3::(.int .u64 pk::(aiL (aj .u64 16 A9) (.int .u16 x5::(.int .u64 x6::(.int .i64 x7::(.int .u64 x8::(v1.v::(.bool q4::(.int .u64 fl::(aiL (aj .u64 16 vm) ([.bool q2])))))))))))))))))]∧
 ao (.tuple #[v5.v,.agg #[.int .u64 rk,.int .u64 mf],.int .i64 0]) [al b0 true (.int .u16 x0::(.int .u64 x1::(.int .i64 x2::(.int .u64 x3::(v0.v::(.bool q3::(.int .u64 pk::(aiL (aj .u64 16 A9) (.int .u16 x5::(.int .u64 x6::(.int .i64 x7::(.int .u64 x8::(v1.v::(.bool q4::(.int .u64 fl::(aiL (aj .u64 16 vm) ([.bool q2]))))))))))))))))),bi v0 bP A2,bi v1 fm A3,bi v2 c6 A4,bi v3 cZ A5,bi v0 bP A2,bo v5 kJ A8]))) (
 aJ ((ak .aM .u64 rk De)<x3) (
 ∀b5:Nat,ao (.tuple #[.slice none 0 0,.agg #[.int .u64 0,.int .u64 0],.int .i64 241]) [al b0 true (.int .u16 x0::(.int .u64 x1::(.int .i64 x2::(.int .u64 x3::(v0.v::(.bool q0::(.int .u64 x4::(aiL (aj .u64 16 A0) (.int .u16 x5::(.int .u64 x6::(.int .i64 x7::(.int .u64 x8::(v1.v::(.bool q1::(.int .u64 x9::(aiL (aj .u64 16 A1) ([.bool q2]))))))))))))))))),bi v0 bP A2,bi v1 fm A3,bi v2 c6 A4,bi v3 cZ A5,bi v0 bP A2,al b5 true ([.int .u64 0,.int .u64 0])]) (
 aJ (64<(ae .u64 ((ak .aM .u64 rk De) - x3))) (
 ∀b5:Nat,ao (.tuple #[.slice none 0 0,.agg #[.int .u64 0,.int .u64 0],.int .i64 5]) [al b0 true (.int .u16 x0::(.int .u64 x1::(.int .i64 x2::(.int .u64 x3::(v0.v::(.bool q0::(.int .u64 x4::(aiL (aj .u64 16 A0) (.int .u16 x5::(.int .u64 x6::(.int .i64 x7::(.int .u64 x8::(v1.v::(.bool q1::(.int .u64 x9::(aiL (aj .u64 16 A1) ([.bool q2]))))))))))))))))),bi v0 bP A2,bi v1 fm A3,bi v2 c6 A4,bi v3 cZ A5,bi v0 bP A2,al b5 true ([.int .u64 0,.int .u64 0])]) (
 ∀b5:Nat,aw (0≤bP) (
 ∀v4:V1,∃(dU:Ext→Prop) (gw:Ext→Nat),(∃(v5:V1) (um wZ:Int) (A6:Nat→Int),v5=v4∧wZ=bP∧(∀j,j<(ag wZ)→A6 j=A2 j)∧um=x3∧v5=v4∧dU ⟨[],[v5],[um,wZ],[A6],[],[],[]⟩)∧
 ∀(v5:V1) (um wZ:Int) (A6:Nat→Int),dU ⟨[],[v5],[um,wZ],[A6],[],[],[]⟩→
 aJ (um<(ak .aM .u64 rk De)) (
 Cl 46 [.agg #[.int .u16 x0,.int .u64 x1,.int .i64 x2,.int .u64 um,v5.v]] [bi v5 wZ A6] fun x hs _=> ∃(v6:V1) (Df AK kJ pd qu:Int) (A7:Nat→Int),x= .agg #[.int .u16 Df,.int .u64 AK,.int .i64 kJ,.int .u64 pd,v6.v]∧hs=[bi v6 qu A7]∧
 ∃(IJ:V1) (Uj Qm:Int) (ui:Nat→Int),IJ=v6∧Qm=qu∧(∀j,j<(ag Qm)→ui j=A7 j)∧x0=Df∧x1=AK∧x2=kJ∧Uj=pd∧IJ=v6∧dU ⟨[],[IJ],[Uj,Qm],[ui],[],[],[]⟩∧gw ⟨[],[IJ],[Uj,Qm],[ui],[],[],[]⟩<gw ⟨[],[v5],[um,wZ],[A6],[],[],[]⟩) (
 ∀_:Nat,Cl 51 [.pointer (some ⟨b5,5,none⟩),.int .u64 mf] [al b5 true (.int .u16 x0::(.int .u64 x1::(.int .i64 x2::(.int .u64 um::(v5.v::(.bool false::(.int .u64 0::(aiL (aj .u64 16 (fun _=>0)) ([])))))))))] fun x hs l=> ∃Df:Int,x= .int .i64 Df∧hs=l∧
 aJ (¬(Df=0)) (
 ∀b7:Nat,ao (.tuple #[.slice none 0 0,.agg #[.int .u64 0,.int .u64 0],.int .i64 Df]) [al b0 true (.int .u16 x0::(.int .u64 x1::(.int .i64 x2::(.int .u64 x3::(v0.v::(.bool q0::(.int .u64 x4::(aiL (aj .u64 16 A0) (.int .u16 x5::(.int .u64 x6::(.int .i64 x7::(.int .u64 x8::(v1.v::(.bool q1::(.int .u64 x9::(aiL (aj .u64 16 A1) ([.bool q2]))))))))))))))))),bi v5 wZ A6,bi v1 fm A3,bi v2 c6 A4,bi v3 cZ A5,bi v0 bP A2,al b7 true ([.int .u64 0,.int .u64 0])]) (
 Cl 41 [.agg #[.int .u16 x0,.int .u64 x1,.int .i64 x2,.int .u64 um,v5.v]] [bi v5 wZ A6] fun x hs l=> ∃(v6:V1) (AK kJ pd:Int) (A7 A8:Nat→Int),x= .agg (.int .u16 AK::(.int .u64 kJ::(v6.v::(aiL (aj .u8 12 A8) ([]))))).toArray∧hs=l++[bo v6 pd A7]∧
 Cl 10 [.agg (.int .u16 AK::(.int .u64 kJ::(v6.v::(aiL (aj .u8 12 A8) ([]))))).toArray,v2.v,v3.v] [bo v6 pd A7,bi v2 c6 A4,bi v3 cZ A5] fun x hs l=> ∃(v7:V1) (qu pk fl:Int) (A9:Nat→Int),x= .tuple #[v7.v,.int .u64 pk,.int .i64 fl]∧hs=l++[bo v7 qu A9]∧
 aJ (¬(fl=0)) (
 ∀b7:Nat,ao (.tuple #[.slice none 0 0,.agg #[.int .u64 0,.int .u64 0],.int .i64 fl]) [al b0 true (.int .u16 x0::(.int .u64 x1::(.int .i64 x2::(.int .u64 x3::(v0.v::(.bool q0::(.int .u64 x4::(aiL (aj .u64 16 A0) (.int .u16 x5::(.int .u64 x6::(.int .i64 x7::(.int .u64 x8::(v1.v::(.bool q1::(.int .u64 x9::(aiL (aj .u64 16 A1) ([.bool q2]))))))))))))))))),bi v5 wZ A6,bi v1 fm A3,bi v2 c6 A4,bi v3 cZ A5,bi v0 bP A2,al b7 true ([.int .u64 0,.int .u64 0])]) (
 Cl 52 [.pointer (some ⟨b5,5,none⟩),.int .u64 mf] [al b5 true (.int .u16 x0::(.int .u64 x1::(.int .i64 x2::(.int .u64 um::(v5.v::(.bool false::(.int .u64 0::(aiL (aj .u64 16 (fun _=>0)) ([])))))))))] fun x hs _=> ∃(sv _ xF:Int) (vm _:Nat→Int) (q3 _:Bool),x= .int .i64 xF∧hs=[al b5 true (.int .u16 x0::(.int .u64 x1::(.int .i64 x2::(.int .u64 um::(v5.v::(.bool q3::(.int .u64 sv::(aiL (aj .u64 16 vm) ([])))))))))]∧
 ao (.tuple #[v7.v,.agg #[.int .u64 rk,.int .u64 mf],.int .i64 0]) [al b0 true (.int .u16 x0::(.int .u64 x1::(.int .i64 x2::(.int .u64 um::(v5.v::(.bool q3::(.int .u64 sv::(aiL (aj .u64 16 vm) (.int .u16 x0::(.int .u64 x1::(.int .i64 x2::(.int .u64 x3::(v0.v::(.bool q0::(.int .u64 x4::(aiL (aj .u64 16 A0) ([.bool true]))))))))))))))))),bi v5 wZ A6,bi v1 fm A3,bi v2 c6 A4,bi v3 cZ A5,bi v0 bP A2,bo v7 qu A9])))))))))))
theorem MF(ao:PT)(x0 x1 x2 x3 x4 x5 x6 x7 x8 x9 bP fm c6 cZ:Int)(A0 A1 A2 A3 A4 A5:Nat→Int)(q0 q1 q2:Bool)(v0 v1 v2 v3:V1)(b0:Nat)(h:DA ao x0 x1 x2 x3 x4 x5 x6 x7 x8 x9 bP fm c6 cZ A0 A1 A2 A3 A4 A5 q0 q1 q2 v0 v1 v2 v3 b0):gq 25 [.ptr 0 0,.vv 2,.vv 3] [.row 0 true [.int .u16 (.var 0),.int .u64 (.var 1),.int .i64 (.var 2),.int .u64 (.var 3),.vv 0,.bool (BE.var 0),.int .u64 (.var 4),.b_ .u64 16 (.aN 0),.int .u16 (.var 5),.int .u64 (.var 6),.int .i64 (.var 7),.int .u64 (.var 8),.vv 1,.bool (BE.var 1),.int .u64 (.var 9),.b_ .u64 16 (.aN 1),.bool (BE.var 2)],.bK false 0 5 1 (.var 10) [⟨.int .u8,1,.aN 2⟩],.bK false 1 5 1 (.var 11) [⟨.int .u8,1,.aN 3⟩],.bK false 2 5 1 (.var 12) [⟨.int .u8,1,.aN 4⟩],.bK false 3 5 1 (.var 13) [⟨.int .u8,1,.aN 5⟩],.bK false 0 5 1 (.var 10) [⟨.int .u8,1,.aN 2⟩]] ⟨[x0,x1,x2,x3,x4,x5,x6,x7,x8,x9,bP,fm,c6,cZ],[A0,A1,A2,A3,A4,A5],[q0,q1,q2],[b0],[v0,v1,v2,v3],[],[],[]⟩ ao:=
 qX (C:=Fw.cx) _ _ ⟨1,4,14,6,3,0,0⟩ _ 6 1 Tryz.func25 (by kernel_rfl) h
end Go.RX.Fw
