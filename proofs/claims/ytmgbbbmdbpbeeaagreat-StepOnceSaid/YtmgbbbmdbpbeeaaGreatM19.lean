/- Polynomials. -/
import Derived.Test.YtmgbbbmdbpbeeaaGreatM16
open Go.IntKind renaming u64 → ajl, u8 → ai9, wrap → ae
open Int renaming toNat → ag
open List renaming append → aiL
namespace Go.RX.Fh
open Go.RX Go.Proofs Go.RX.Fe Go.RX.Fg
noncomputable def cx:Ctx:={T:=TT,FT:=FT,loops:=Fh.loops,bB:=Fh.bB}
set_option maxRecDepth 100000
noncomputable def N7:F:=ig Fh.cx 146 ([SV.int (ajl) (E.var 0)]) ([]) ({b:=0,v:=0,i:=1,a:=0,bo:=0,p:=0,r:=0}) Tryz.f146
def N8(_:Program)(ao:Value→List HP→Prop)(x0:Int):Prop:=
 ao (.int .u64 (ak .bC .u64 (ak .shr .u64 (ak .bC .u64 (ak .aM .u64 (ak .shr .u64 (ak .bC .u64 (ak .aM .u64 (ak .shr .u64 (ak .bC .u64 (ak .aM .u64 (ak .shr .u64 (ak .bC .u64 (ak .aM .u64 (ak .shr .u64 (ak .bC .u64 (ak .aM .u64 (ak .shr .u64 x0 1) 6148914691236517205) (ak .shl .u64 (ak .aM .u64 x0 6148914691236517205) 1)) 2) 3689348814741910323) (ak .shl .u64 (ak .aM .u64 (ak .bC .u64 (ak .aM .u64 (ak .shr .u64 x0 1) 6148914691236517205) (ak .shl .u64 (ak .aM .u64 x0 6148914691236517205) 1)) 3689348814741910323) 2)) 4) 1085102592571150095) (ak .shl .u64 (ak .aM .u64 (ak .bC .u64 (ak .aM .u64 (ak .shr .u64 (ak .bC .u64 (ak .aM .u64 (ak .shr .u64 x0 1) 6148914691236517205) (ak .shl .u64 (ak .aM .u64 x0 6148914691236517205) 1)) 2) 3689348814741910323) (ak .shl .u64 (ak .aM .u64 (ak .bC .u64 (ak .aM .u64 (ak .shr .u64 x0 1) 6148914691236517205) (ak .shl .u64 (ak .aM .u64 x0 6148914691236517205) 1)) 3689348814741910323) 2)) 1085102592571150095) 4)) 8) 71777214294589695) (ak .shl .u64 (ak .aM .u64 (ak .bC .u64 (ak .aM .u64 (ak .shr .u64 (ak .bC .u64 (ak .aM .u64 (ak .shr .u64 (ak .bC .u64 (ak .aM .u64 (ak .shr .u64 x0 1) 6148914691236517205) (ak .shl .u64 (ak .aM .u64 x0 6148914691236517205) 1)) 2) 3689348814741910323) (ak .shl .u64 (ak .aM .u64 (ak .bC .u64 (ak .aM .u64 (ak .shr .u64 x0 1) 6148914691236517205) (ak .shl .u64 (ak .aM .u64 x0 6148914691236517205) 1)) 3689348814741910323) 2)) 4) 1085102592571150095) (ak .shl .u64 (ak .aM .u64 (ak .bC .u64 (ak .aM .u64 (ak .shr .u64 (ak .bC .u64 (ak .aM .u64 (ak .shr .u64 x0 1) 6148914691236517205) (ak .shl .u64 (ak .aM .u64 x0 6148914691236517205) 1)) 2) 3689348814741910323) (ak .shl .u64 (ak .aM .u64 (ak .bC .u64 (ak .aM .u64 (ak .shr .u64 x0 1) 6148914691236517205) (ak .shl .u64 (ak .aM .u64 x0 6148914691236517205) 1)) 3689348814741910323) 2)) 1085102592571150095) 4)) 71777214294589695) 8)) 16) 281470681808895) (ak .shl .u64 (ak .aM .u64 (ak .bC .u64 (ak .aM .u64 (ak .shr .u64 (ak .bC .u64 (ak .aM .u64 (ak .shr .u64 (ak .bC .u64 (ak .aM .u64 (ak .shr .u64 (ak .bC .u64 (ak .aM .u64 (ak .shr .u64 x0 1) 6148914691236517205) (ak .shl .u64 (ak .aM .u64 x0 6148914691236517205) 1)) 2) 3689348814741910323) (ak .shl .u64 (ak .aM .u64 (ak .bC .u64 (ak .aM .u64 (ak .shr .u64 x0 1) 6148914691236517205) (ak .shl .u64 (ak .aM .u64 x0 6148914691236517205) 1)) 3689348814741910323) 2)) 4) 1085102592571150095) (ak .shl .u64 (ak .aM .u64 (ak .bC .u64 (ak .aM .u64 (ak .shr .u64 (ak .bC .u64 (ak .aM .u64 (ak .shr .u64 x0 1) 6148914691236517205) (ak .shl .u64 (ak .aM .u64 x0 6148914691236517205) 1)) 2) 3689348814741910323) (ak .shl .u64 (ak .aM .u64 (ak .bC .u64 (ak .aM .u64 (ak .shr .u64 x0 1) 6148914691236517205) (ak .shl .u64 (ak .aM .u64 x0 6148914691236517205) 1)) 3689348814741910323) 2)) 1085102592571150095) 4)) 8) 71777214294589695) (ak .shl .u64 (ak .aM .u64 (ak .bC .u64 (ak .aM .u64 (ak .shr .u64 (ak .bC .u64 (ak .aM .u64 (ak .shr .u64 (ak .bC .u64 (ak .aM .u64 (ak .shr .u64 x0 1) 6148914691236517205) (ak .shl .u64 (ak .aM .u64 x0 6148914691236517205) 1)) 2) 3689348814741910323) (ak .shl .u64 (ak .aM .u64 (ak .bC .u64 (ak .aM .u64 (ak .shr .u64 x0 1) 6148914691236517205) (ak .shl .u64 (ak .aM .u64 x0 6148914691236517205) 1)) 3689348814741910323) 2)) 4) 1085102592571150095) (ak .shl .u64 (ak .aM .u64 (ak .bC .u64 (ak .aM .u64 (ak .shr .u64 (ak .bC .u64 (ak .aM .u64 (ak .shr .u64 x0 1) 6148914691236517205) (ak .shl .u64 (ak .aM .u64 x0 6148914691236517205) 1)) 2) 3689348814741910323) (ak .shl .u64 (ak .aM .u64 (ak .bC .u64 (ak .aM .u64 (ak .shr .u64 x0 1) 6148914691236517205) (ak .shl .u64 (ak .aM .u64 x0 6148914691236517205) 1)) 3689348814741910323) 2)) 1085102592571150095) 4)) 71777214294589695) 8)) 281470681808895) 16)) 32) (ak .shl .u64 (ak .bC .u64 (ak .aM .u64 (ak .shr .u64 (ak .bC .u64 (ak .aM .u64 (ak .shr .u64 (ak .bC .u64 (ak .aM .u64 (ak .shr .u64 (ak .bC .u64 (ak .aM .u64 (ak .shr .u64 (ak .bC .u64 (ak .aM .u64 (ak .shr .u64 x0 1) 6148914691236517205) (ak .shl .u64 (ak .aM .u64 x0 6148914691236517205) 1)) 2) 3689348814741910323) (ak .shl .u64 (ak .aM .u64 (ak .bC .u64 (ak .aM .u64 (ak .shr .u64 x0 1) 6148914691236517205) (ak .shl .u64 (ak .aM .u64 x0 6148914691236517205) 1)) 3689348814741910323) 2)) 4) 1085102592571150095) (ak .shl .u64 (ak .aM .u64 (ak .bC .u64 (ak .aM .u64 (ak .shr .u64 (ak .bC .u64 (ak .aM .u64 (ak .shr .u64 x0 1) 6148914691236517205) (ak .shl .u64 (ak .aM .u64 x0 6148914691236517205) 1)) 2) 3689348814741910323) (ak .shl .u64 (ak .aM .u64 (ak .bC .u64 (ak .aM .u64 (ak .shr .u64 x0 1) 6148914691236517205) (ak .shl .u64 (ak .aM .u64 x0 6148914691236517205) 1)) 3689348814741910323) 2)) 1085102592571150095) 4)) 8) 71777214294589695) (ak .shl .u64 (ak .aM .u64 (ak .bC .u64 (ak .aM .u64 (ak .shr .u64 (ak .bC .u64 (ak .aM .u64 (ak .shr .u64 (ak .bC .u64 (ak .aM .u64 (ak .shr .u64 x0 1) 6148914691236517205) (ak .shl .u64 (ak .aM .u64 x0 6148914691236517205) 1)) 2) 3689348814741910323) (ak .shl .u64 (ak .aM .u64 (ak .bC .u64 (ak .aM .u64 (ak .shr .u64 x0 1) 6148914691236517205) (ak .shl .u64 (ak .aM .u64 x0 6148914691236517205) 1)) 3689348814741910323) 2)) 4) 1085102592571150095) (ak .shl .u64 (ak .aM .u64 (ak .bC .u64 (ak .aM .u64 (ak .shr .u64 (ak .bC .u64 (ak .aM .u64 (ak .shr .u64 x0 1) 6148914691236517205) (ak .shl .u64 (ak .aM .u64 x0 6148914691236517205) 1)) 2) 3689348814741910323) (ak .shl .u64 (ak .aM .u64 (ak .bC .u64 (ak .aM .u64 (ak .shr .u64 x0 1) 6148914691236517205) (ak .shl .u64 (ak .aM .u64 x0 6148914691236517205) 1)) 3689348814741910323) 2)) 1085102592571150095) 4)) 71777214294589695) 8)) 16) 281470681808895) (ak .shl .u64 (ak .aM .u64 (ak .bC .u64 (ak .aM .u64 (ak .shr .u64 (ak .bC .u64 (ak .aM .u64 (ak .shr .u64 (ak .bC .u64 (ak .aM .u64 (ak .shr .u64 (ak .bC .u64 (ak .aM .u64 (ak .shr .u64 x0 1) 6148914691236517205) (ak .shl .u64 (ak .aM .u64 x0 6148914691236517205) 1)) 2) 3689348814741910323) (ak .shl .u64 (ak .aM .u64 (ak .bC .u64 (ak .aM .u64 (ak .shr .u64 x0 1) 6148914691236517205) (ak .shl .u64 (ak .aM .u64 x0 6148914691236517205) 1)) 3689348814741910323) 2)) 4) 1085102592571150095) (ak .shl .u64 (ak .aM .u64 (ak .bC .u64 (ak .aM .u64 (ak .shr .u64 (ak .bC .u64 (ak .aM .u64 (ak .shr .u64 x0 1) 6148914691236517205) (ak .shl .u64 (ak .aM .u64 x0 6148914691236517205) 1)) 2) 3689348814741910323) (ak .shl .u64 (ak .aM .u64 (ak .bC .u64 (ak .aM .u64 (ak .shr .u64 x0 1) 6148914691236517205) (ak .shl .u64 (ak .aM .u64 x0 6148914691236517205) 1)) 3689348814741910323) 2)) 1085102592571150095) 4)) 8) 71777214294589695) (ak .shl .u64 (ak .aM .u64 (ak .bC .u64 (ak .aM .u64 (ak .shr .u64 (ak .bC .u64 (ak .aM .u64 (ak .shr .u64 (ak .bC .u64 (ak .aM .u64 (ak .shr .u64 x0 1) 6148914691236517205) (ak .shl .u64 (ak .aM .u64 x0 6148914691236517205) 1)) 2) 3689348814741910323) (ak .shl .u64 (ak .aM .u64 (ak .bC .u64 (ak .aM .u64 (ak .shr .u64 x0 1) 6148914691236517205) (ak .shl .u64 (ak .aM .u64 x0 6148914691236517205) 1)) 3689348814741910323) 2)) 4) 1085102592571150095) (ak .shl .u64 (ak .aM .u64 (ak .bC .u64 (ak .aM .u64 (ak .shr .u64 (ak .bC .u64 (ak .aM .u64 (ak .shr .u64 x0 1) 6148914691236517205) (ak .shl .u64 (ak .aM .u64 x0 6148914691236517205) 1)) 2) 3689348814741910323) (ak .shl .u64 (ak .aM .u64 (ak .bC .u64 (ak .aM .u64 (ak .shr .u64 x0 1) 6148914691236517205) (ak .shl .u64 (ak .aM .u64 x0 6148914691236517205) 1)) 3689348814741910323) 2)) 1085102592571150095) 4)) 71777214294589695) 8)) 281470681808895) 16)) 32))) []
theorem U3(P:Program)(ao:Value→List HP→Prop)(x0:Int)(L:Nat→LC):VC P (fun v _=>ao v []) N7 {iv:=[x0],av:=[],bo:=[],bv:=[],vv:=[]} L=N8 P ao x0:=by kernel_rfl
theorem Rl:ig Fh.cx 146 ([SV.int (ajl) (E.var 0)]) ([]) ({b:=0,v:=0,i:=1,a:=0,bo:=0,p:=0,r:=0}) Tryz.f146=N7:=rfl
noncomputable def TJ:F:=ig Fh.cx 131 ([SV.agg [SV.b_ (ai9) 16 (E.aN 0)]]) ([]) ({b:=0,v:=0,i:=0,a:=1,bo:=0,p:=0,r:=0}) Tryz.f131
def TL(P:Program)(ao:Value→List HP→Prop)(A0:Nat→Int):Prop:=
 ∀_:Nat,∀_:Nat,∀_:Nat,∃post,ax P 146 [.int .u64 (ak .bC .u64 (ak .shl .u64 (ak .bC .u64 (ak .shl .u64 (ak .bC .u64 (ak .shl .u64 (ak .bC .u64 (ak .shl .u64 (ak .bC .u64 (ak .shl .u64 (ak .bC .u64 (ak .shl .u64 (ak .bC .u64 (ak .shl .u64 (ak .bC .u64 0 (ae .u64 (A0 0))) 8) (ae .u64 (A0 1))) 8) (ae .u64 (A0 2))) 8) (ae .u64 (A0 3))) 8) (ae .u64 (A0 4))) 8) (ae .u64 (A0 5))) 8) (ae .u64 (A0 6))) 8) (ae .u64 (A0 7)))] [] post∧
 ∀x hs,post x hs→∃x0:Int,x= .int .u64 x0∧hs=[]∧
 ∃post,ax P 146 [.int .u64 (ak .bC .u64 (ak .shl .u64 (ak .bC .u64 (ak .shl .u64 (ak .bC .u64 (ak .shl .u64 (ak .bC .u64 (ak .shl .u64 (ak .bC .u64 (ak .shl .u64 (ak .bC .u64 (ak .shl .u64 (ak .bC .u64 (ak .shl .u64 (ak .bC .u64 0 (ae .u64 (A0 8))) 8) (ae .u64 (A0 9))) 8) (ae .u64 (A0 10))) 8) (ae .u64 (A0 11))) 8) (ae .u64 (A0 12))) 8) (ae .u64 (A0 13))) 8) (ae .u64 (A0 14))) 8) (ae .u64 (A0 15)))] [] post∧
 ∀x hs,post x hs→∃x1:Int,x= .int .u64 x1∧hs=[]∧
 ao (.agg #[.int .u64 x0,.int .u64 x1]) []
theorem Yn(P:Program)(ao:Value→List HP→Prop)(A0:Nat→Int)(L:Nat→LC):VC P (fun v _=>ao v []) TJ {iv:=[],av:=[A0],bo:=[],bv:=[],vv:=[]} L=TL P ao A0:=by kernel_rfl
theorem U4:ig Fh.cx 131 ([SV.agg [SV.b_ (ai9) 16 (E.aN 0)]]) ([]) ({b:=0,v:=0,i:=0,a:=1,bo:=0,p:=0,r:=0}) Tryz.f131=TJ:=rfl
noncomputable def EF:F:=ig Fh.cx 133 ([SV.agg [SV.int (ajl) (E.var 0),SV.int (ajl) (E.var 1)],SV.agg [SV.int (ajl) (E.var 2),SV.int (ajl) (E.var 3)]]) ([]) ({b:=0,v:=0,i:=4,a:=0,bo:=0,p:=0,r:=0}) Tryz.f133
def EG(_:Program)(ao:Value→List HP→Prop)(x0:Int)(x1:Int)(x2:Int)(x3:Int):Prop:=
 ∀_:Nat,∀_:Nat,∀_:Nat,∀_:Nat,∃(cc:Ext→Prop) (cu:Ext→Nat),(∃x4:Int,∃x5:Int,∃x6:Int,x6=127∧x4=0∧x5=0∧cc ⟨[],[],[x4,x5,x6],[],[],[],[]⟩)∧
 ∀x4:Int,∀x5:Int,∀x6:Int,cc ⟨[],[],[x4,x5,x6],[],[],[],[]⟩→
 aJ (0≤x6) (
 aJ (64≤x6) (
 aw (0≤(ak .rem .i64 x6 64)) (
 aJ ((ak .aM .u64 (ak .shr .u64 x1 (ak .rem .i64 x6 64)) 1)=1) (
 ∀_:Nat,∀_:Nat,∀_:Nat,aw ((-9223372036854775808)≤(x6 - 1)) (
 aw ((x6 - 1)≤9223372036854775807) (
 ∃dT:Int,∃jH:Int,∃xu:Int,xu=(x6 - 1)∧dT=(ak .aB .u64 (ak .aB .u64 (ak .shl .u64 x4 1) (ae .u64 ((ak .shr .u64 x5 63)*135))) x2)∧jH=(ak .aB .u64 (ak .bC .u64 (ak .shl .u64 x5 1) (ak .shr .u64 x4 63)) x3)∧cc ⟨[],[],[dT,jH,xu],[],[],[],[]⟩∧cu ⟨[],[],[dT,jH,xu],[],[],[],[]⟩<cu ⟨[],[],[x4,x5,x6],[],[],[],[]⟩))) (
 aw ((-9223372036854775808)≤(x6 - 1)) (
 aw ((x6 - 1)≤9223372036854775807) (
 ∃dT:Int,∃jH:Int,∃xu:Int,xu=(x6 - 1)∧dT=(ak .aB .u64 (ak .shl .u64 x4 1) (ae .u64 ((ak .shr .u64 x5 63)*135)))∧jH=(ak .bC .u64 (ak .shl .u64 x5 1) (ak .shr .u64 x4 63))∧cc ⟨[],[],[dT,jH,xu],[],[],[],[]⟩∧cu ⟨[],[],[dT,jH,xu],[],[],[],[]⟩<cu ⟨[],[],[x4,x5,x6],[],[],[],[]⟩))))) (
 aw (0≤(ak .rem .i64 x6 64)) (
 aJ ((ak .aM .u64 (ak .shr .u64 x0 (ak .rem .i64 x6 64)) 1)=1) (
 ∀_:Nat,∀_:Nat,∀_:Nat,aw ((-9223372036854775808)≤(x6 - 1)) (
 aw ((x6 - 1)≤9223372036854775807) (
 ∃dT:Int,∃jH:Int,∃xu:Int,xu=(x6 - 1)∧dT=(ak .aB .u64 (ak .aB .u64 (ak .shl .u64 x4 1) (ae .u64 ((ak .shr .u64 x5 63)*135))) x2)∧jH=(ak .aB .u64 (ak .bC .u64 (ak .shl .u64 x5 1) (ak .shr .u64 x4 63)) x3)∧cc ⟨[],[],[dT,jH,xu],[],[],[],[]⟩∧cu ⟨[],[],[dT,jH,xu],[],[],[],[]⟩<cu ⟨[],[],[x4,x5,x6],[],[],[],[]⟩))) (
 aw ((-9223372036854775808)≤(x6 - 1)) (
 aw ((x6 - 1)≤9223372036854775807) (
 ∃dT:Int,∃jH:Int,∃xu:Int,xu=(x6 - 1)∧dT=(ak .aB .u64 (ak .shl .u64 x4 1) (ae .u64 ((ak .shr .u64 x5 63)*135)))∧jH=(ak .bC .u64 (ak .shl .u64 x5 1) (ak .shr .u64 x4 63))∧cc ⟨[],[],[dT,jH,xu],[],[],[],[]⟩∧cu ⟨[],[],[dT,jH,xu],[],[],[],[]⟩<cu ⟨[],[],[x4,x5,x6],[],[],[],[]⟩)))))) (
 ao (.agg #[.int .u64 x4,.int .u64 x5]) [])
theorem N9(P:Program)(ao:Value→List HP→Prop)(x0:Int)(x1:Int)(x2:Int)(x3:Int)(L:Nat→LC):VC P (fun v _=>ao v []) EF {iv:=[x0,x1,x2,x3],av:=[],bo:=[],bv:=[],vv:=[]} L=EG P ao x0 x1 x2 x3:=by kernel_rfl
theorem Lg:ig Fh.cx 133 ([SV.agg [SV.int (ajl) (E.var 0),SV.int (ajl) (E.var 1)],SV.agg [SV.int (ajl) (E.var 2),SV.int (ajl) (E.var 3)]]) ([]) ({b:=0,v:=0,i:=4,a:=0,bo:=0,p:=0,r:=0}) Tryz.f133=EF:=rfl
noncomputable def EH:F:=ig Fh.cx 134 ([SV.agg [SV.int (ajl) (E.var 0),SV.int (ajl) (E.var 1)]]) ([]) ({b:=0,v:=0,i:=2,a:=0,bo:=0,p:=0,r:=0}) Tryz.f134
def np(P:Program)(ao:Value→List HP→Prop)(x0:Int)(x1:Int):Prop:=
 ∀_:Nat,∀_:Nat,(∃post,ax P 146 [.int .u64 x0] [] post∧
 ∀x hs,post x hs→∃x2:Int,x= .int .u64 x2∧hs=[]∧
 (∃post,ax P 146 [.int .u64 x1] [] post∧
 ∀x hs,post x hs→∃x3:Int,x= .int .u64 x3∧hs=[]∧
 ∀_:Nat,∀_:Nat,ao (.agg #[.int .u8 (ae .u8 (ak .shr .u64 x2 56)),.int .u8 (ae .u8 (ak .shr .u64 x2 48)),.int .u8 (ae .u8 (ak .shr .u64 x2 40)),.int .u8 (ae .u8 (ak .shr .u64 x2 32)),.int .u8 (ae .u8 (ak .shr .u64 x2 24)),.int .u8 (ae .u8 (ak .shr .u64 x2 16)),.int .u8 (ae .u8 (ak .shr .u64 x2 8)),.int .u8 (ae .u8 (ak .shr .u64 x2 0)),.int .u8 (ae .u8 (ak .shr .u64 x3 56)),.int .u8 (ae .u8 (ak .shr .u64 x3 48)),.int .u8 (ae .u8 (ak .shr .u64 x3 40)),.int .u8 (ae .u8 (ak .shr .u64 x3 32)),.int .u8 (ae .u8 (ak .shr .u64 x3 24)),.int .u8 (ae .u8 (ak .shr .u64 x3 16)),.int .u8 (ae .u8 (ak .shr .u64 x3 8)),.int .u8 (ae .u8 (ak .shr .u64 x3 0))]) [])∧
 (∀_:Nat,∃post,ax P 146 [.int .u64 x1] [] post∧
 ∀x hs,post x hs→∃x3:Int,x= .int .u64 x3∧hs=[]∧
 ∀_:Nat,ao (.agg #[.int .u8 (ae .u8 (ak .shr .u64 x2 56)),.int .u8 (ae .u8 (ak .shr .u64 x2 48)),.int .u8 (ae .u8 (ak .shr .u64 x2 40)),.int .u8 (ae .u8 (ak .shr .u64 x2 32)),.int .u8 (ae .u8 (ak .shr .u64 x2 24)),.int .u8 (ae .u8 (ak .shr .u64 x2 16)),.int .u8 (ae .u8 (ak .shr .u64 x2 8)),.int .u8 (ae .u8 (ak .shr .u64 x2 0)),.int .u8 (ae .u8 (ak .shr .u64 x3 56)),.int .u8 (ae .u8 (ak .shr .u64 x3 48)),.int .u8 (ae .u8 (ak .shr .u64 x3 40)),.int .u8 (ae .u8 (ak .shr .u64 x3 32)),.int .u8 (ae .u8 (ak .shr .u64 x3 24)),.int .u8 (ae .u8 (ak .shr .u64 x3 16)),.int .u8 (ae .u8 (ak .shr .u64 x3 8)),.int .u8 (ae .u8 (ak .shr .u64 x3 0))]) []))∧
 (∀_:Nat,∃post,ax P 146 [.int .u64 x0] [] post∧
 ∀x hs,post x hs→∃x2:Int,x= .int .u64 x2∧hs=[]∧
 ∃post,ax P 146 [.int .u64 x1] [] post∧
 ∀x hs,post x hs→∃x3:Int,x= .int .u64 x3∧hs=[]∧
 ∀_:Nat,ao (.agg #[.int .u8 (ae .u8 (ak .shr .u64 x2 56)),.int .u8 (ae .u8 (ak .shr .u64 x2 48)),.int .u8 (ae .u8 (ak .shr .u64 x2 40)),.int .u8 (ae .u8 (ak .shr .u64 x2 32)),.int .u8 (ae .u8 (ak .shr .u64 x2 24)),.int .u8 (ae .u8 (ak .shr .u64 x2 16)),.int .u8 (ae .u8 (ak .shr .u64 x2 8)),.int .u8 (ae .u8 (ak .shr .u64 x2 0)),.int .u8 (ae .u8 (ak .shr .u64 x3 56)),.int .u8 (ae .u8 (ak .shr .u64 x3 48)),.int .u8 (ae .u8 (ak .shr .u64 x3 40)),.int .u8 (ae .u8 (ak .shr .u64 x3 32)),.int .u8 (ae .u8 (ak .shr .u64 x3 24)),.int .u8 (ae .u8 (ak .shr .u64 x3 16)),.int .u8 (ae .u8 (ak .shr .u64 x3 8)),.int .u8 (ae .u8 (ak .shr .u64 x3 0))]) [])
theorem N_(P:Program)(ao:Value→List HP→Prop)(x0:Int)(x1:Int)(L:Nat→LC):VC P (fun v _=>ao v []) EH {iv:=[x0,x1],av:=[],bo:=[],bv:=[],vv:=[]} L=np P ao x0 x1:=by kernel_rfl
theorem Lh:ig Fh.cx 134 ([SV.agg [SV.int (ajl) (E.var 0),SV.int (ajl) (E.var 1)]]) ([]) ({b:=0,v:=0,i:=2,a:=0,bo:=0,p:=0,r:=0}) Tryz.f134=EH:=rfl
noncomputable def Jj:F:=ig Fh.cx 111 ([SV.agg [SV.b_ (ai9) 16 (E.aN 0)],SV.vv 0]) ([Ck.bK true 0 5 1 (E.var 0) [{ck:=CK.int (ai9),w:=1,a:=E.aN 1}]]) ({b:=0,v:=1,i:=1,a:=2,bo:=0,p:=0,r:=0}) Tryz.f111
def Jk(P:Program)(ao:Value→List HP→Prop)(x0:Int)(A0:Nat→Int)(A1:Nat→Int)(_:V1):Prop:=
 ∀_:Nat,∀_:Nat,∃post,ax P 131 [.agg (aiL (aj .u8 16 A0) ([])).toArray] [] post∧
 ∀x hs,post x hs→∃x1:Int,∃x2:Int,x= .agg #[.int .u64 x1,.int .u64 x2]∧hs=[]∧
 ∀_:Nat,∀_:Nat,aw (0≤x0) (
 ∀v1:V1,∃(cc:Ext→Prop) (cu:Ext→Nat),(∃v2:V1,∃x3:Int,∃x4:Int,∃x5:Int,∃A2:(Nat→Int),v2=v1∧v2=v1∧x5=x0∧(∀j,j<(ag x5)→A2 j=A1 j)∧x3=0∧x4=0∧cc ⟨[],[v2],[x3,x4,x5],[A2],[],[],[]⟩)∧
 ∀v2:V1,∀x3:Int,∀x4:Int,∀x5:Int,∀A2:(Nat→Int),cc ⟨[],[v2],[x3,x4,x5],[A2],[],[],[]⟩→
 aw (0≤x5) (
 aJ (0<x5) (
 ∀_:Nat,aw (0≤(ak .jJ .i64 x5 16)) (
 aw ((ak .jJ .i64 x5 16)≤x5) (
 ∃post,ax P 131 [.agg (aiL (aj .u8 16 (ay (fun _=>0) 0 (ag (ak .jJ .i64 x5 16)) A2)) ([])).toArray] [] post∧
 ∀x hs,post x hs→∃x6:Int,∃x7:Int,x= .agg #[.int .u64 x6,.int .u64 x7]∧hs=[]∧
 ∀_:Nat,∀_:Nat,∀_:Nat,∃post,ax P 133 [.agg #[.int .u64 (ak .aB .u64 x3 x6),.int .u64 (ak .aB .u64 x4 x7)],.agg #[.int .u64 x1,.int .u64 x2]] [] post∧
 ∀x hs,post x hs→∃x8:Int,∃x9:Int,x= .agg #[.int .u64 x8,.int .u64 x9]∧hs=[]∧
 aw (0≤(ak .jJ .i64 x5 16)) (
 aw ((ak .jJ .i64 x5 16)≤x5) (
 aw (0≤(x5 - (ak .jJ .i64 x5 16))) (
 ∀v3:V1,∃oI:V1,∃dJ:Int,∃dT:Int,∃jH:Int,∃fo:(Nat→Int),oI=v3∧oI=v3∧jH=(x5 - (ak .jJ .i64 x5 16))∧(∀j,j<(ag jH)→fo j=(aI A2 (ag (ak .jJ .i64 x5 16))) j)∧dJ=x8∧dT=x9∧cc ⟨[],[oI],[dJ,dT,jH],[fo],[],[],[]⟩∧cu ⟨[],[oI],[dJ,dT,jH],[fo],[],[],[]⟩<cu ⟨[],[v2],[x3,x4,x5],[A2],[],[],[]⟩)))))) (
 ∃post,ax P 134 [.agg #[.int .u64 x3,.int .u64 x4]] [] post∧
 ∀x hs,post x hs→∃A3:(Nat→Int),x= .agg (aiL (aj .u8 16 A3) ([])).toArray∧hs=[]∧
 ao (.agg (aiL (aj .u8 16 A3) ([])).toArray) [])))
theorem Rm(P:Program)(ao:Value→List HP→Prop)(x0:Int)(A0:Nat→Int)(A1:Nat→Int)(v0:V1)(L:Nat→LC):VC P (fun v _=>ao v []) Jj {iv:=[x0],av:=[A0,A1],bo:=[],bv:=[],vv:=[v0]} L=Jk P ao x0 A0 A1 v0:=by kernel_rfl
theorem Oa:ig Fh.cx 111 ([SV.agg [SV.b_ (ai9) 16 (E.aN 0)],SV.vv 0]) ([Ck.bK true 0 5 1 (E.var 0) [{ck:=CK.int (ai9),w:=1,a:=E.aN 1}]]) ({b:=0,v:=1,i:=1,a:=2,bo:=0,p:=0,r:=0}) Tryz.f111=Jj:=rfl
end Go.RX.Fh

namespace Go.RX.Fg
open Go.RX Go.Proofs Go.RX.Fe
noncomputable def cx:Ctx:={T:=TT,FT:=FT,loops:=loops,bB:=bB}
set_option maxRecDepth 100000
noncomputable def Jl:F:=ig cx 87 ([SV.agg [SV.b_ (ai9) 16 (E.aN 0)]]) ([]) ({b:=0,v:=0,i:=0,a:=1,bo:=0,p:=0,r:=0}) Tryz.f87
def tE(_:Program)(ao:Value→List HP→Prop)(A0:Nat→Int):Prop:=
 ∀_:Nat,∀_:Nat,aJ (¬((ae .u8 ((A0 15)+1))=0)) (
 ao (.agg (aiL (aj .u8 15 A0) ([.int .u8 (ae .u8 ((A0 15)+1))])).toArray) []) (
 aJ (¬((ae .u8 ((A0 14)+1))=0)) (
 ao (.agg (aiL (aj .u8 14 A0) ([.int .u8 (ae .u8 ((A0 14)+1)),.int .u8 (ae .u8 ((A0 15)+1))])).toArray) []) (
 aJ (¬((ae .u8 ((A0 13)+1))=0)) (
 ao (.agg (aiL (aj .u8 13 A0) ([.int .u8 (ae .u8 ((A0 13)+1)),.int .u8 (ae .u8 ((A0 14)+1)),.int .u8 (ae .u8 ((A0 15)+1))])).toArray) []) (
 aJ (¬((ae .u8 ((A0 12)+1))=0)) (
 ao (.agg (aiL (aj .u8 12 A0) ([.int .u8 (ae .u8 ((A0 12)+1)),.int .u8 (ae .u8 ((A0 13)+1)),.int .u8 (ae .u8 ((A0 14)+1)),.int .u8 (ae .u8 ((A0 15)+1))])).toArray) []) (
 ao (.agg (aiL (aj .u8 12 A0) ([.int .u8 (ae .u8 ((A0 12)+1)),.int .u8 (ae .u8 ((A0 13)+1)),.int .u8 (ae .u8 ((A0 14)+1)),.int .u8 (ae .u8 ((A0 15)+1))])).toArray) []))))
theorem Rn(P:Program)(ao:Value→List HP→Prop)(A0:Nat→Int)(L:Nat→LC):VC P (fun v _=>ao v []) Jl {iv:=[],av:=[A0],bo:=[],bv:=[],vv:=[]} L=tE P ao A0:=by kernel_rfl
theorem Ob:ig cx 87 ([SV.agg [SV.b_ (ai9) 16 (E.aN 0)]]) ([]) ({b:=0,v:=0,i:=0,a:=1,bo:=0,p:=0,r:=0}) Tryz.f87=Jl:=rfl
noncomputable def Jm:F:=ig cx 62 ([SV.ptr 0 0,SV.agg [SV.b_ (ai9) 16 (E.aN 2)],SV.sl 1 (E.lit 0) 1 (E.lit 1) (E.lit 1)]) ([Ck.row 0 true [SV.b_ (ai9) 256 (E.aN 0),SV.vv 0],Ck.bK true 0 177 4 (E.var 0) [{ck:=CK.int (ai9),w:=4,a:=E.aN 1}],Ck.row 1 true [SV.vv 1],Ck.bK false 1 5 1 (E.var 1) [{ck:=CK.int (ai9),w:=1,a:=E.aN 3}]]) ({b:=2,v:=2,i:=2,a:=4,bo:=0,p:=0,r:=0}) Tryz.f62
def Jn(P:Program)(ao:Value→List HP→Prop)(x0:Int)(x1:Int)(A0:Nat→Int)(A1:Nat→Int)(A2:Nat→Int)(A3:Nat→Int)(v0:V1)(v1:V1)(b0:Nat)(b1:Nat):Prop:=
 ∀b2:Nat,∀b3:Nat,aw (0≤x1) (
 aw (0≤x1) (
 aw (x1≤140737488355328) (
 ∀v2:V1,∀_:Nat,∀_:Nat,∀_:Nat,∀(_ _:Nat) (_:Loop),∃(cc:Ext→Prop) (cu:Ext→Nat),(∃x2:Int,∃A4:(Nat→Int),∃A5:(Nat→Int),(∀j,j<(ag x1)→A5 j=A3 j)∧x2=0∧(∀j,j<16→A4 j=A2 j)∧cc ⟨[],[],[x2],[A4,A5],[],[],[]⟩)∧
 ∀x2:Int,∀A4:(Nat→Int),∀A5:(Nat→Int),cc ⟨[],[],[x2],[A4,A5],[],[],[]⟩→
 ∃post,ax P 112 [.pointer (some ⟨b0,0,none⟩),.agg (aiL (aj .u8 16 A4) ([])).toArray] [al b0 true (aiL (aj .u8 256 A0) ([v0.v])),aG true 177 4 v0.v (ag x0) (aW (ag x0) [bd .u8 4 A1])] post∧
 ∀x hs,post x hs→∃A6:(Nat→Int),x= .agg (aiL (aj .u8 16 A6) ([])).toArray∧hs=[al b0 true (aiL (aj .u8 256 A0) ([v0.v])),aG true 177 4 v0.v (ag x0) (aW (ag x0) [bd .u8 4 A1])]∧
 ∀_:Nat,∃(U5:Ext→Prop) (Yo:Ext→Nat),(∃x3:Int,∃x4:Int,∃A7:(Nat→Int),x3=0∧(∀j,j<(ag x1)→A7 j=A5 j)∧x4=x2∧U5 ⟨[],[],[x3,x4],[A7],[],[],[]⟩)∧
 ∀x3:Int,∀x4:Int,∀A7:(Nat→Int),U5 ⟨[],[],[x3,x4],[A7],[],[],[]⟩→
 aw ((¬(x3<16))∨(0≤x1)) (
 aJ ((x3<16)∧(x4<x1)) (
 aw (0≤x4) (
 aw (x4<x1) (
 aw (0≤x3) (
 aw (x3<16) (
 aw ((-9223372036854775808)≤(x4+1)) (
 aw ((x4+1)≤9223372036854775807) (
 aw ((-9223372036854775808)≤(x3+1)) (
 aw ((x3+1)≤9223372036854775807) (
 ∃dJ:Int,∃dT:Int,∃Cy:(Nat→Int),dJ=(x3+1)∧(∀j,j<(ag x1)→Cy j=(au A7 (ag x4) (ak .aB .u8 (A7 (ag x4)) (A6 (ag x3)))) j)∧dT=(x4+1)∧U5 ⟨[],[],[dJ,dT],[Cy],[],[],[]⟩∧Yo ⟨[],[],[dJ,dT],[Cy],[],[],[]⟩<Yo ⟨[],[],[x3,x4],[A7],[],[],[]⟩))))))))) (
 aw (0≤x1) (
 aJ (x4=x1) (
 ao (.tuple #[v2.v,.int .i64 0]) [al b0 true (aiL (aj .u8 256 A0) ([v0.v])),aG true 177 4 v0.v (ag x0) (aW (ag x0) [bd .u8 4 A1]),al b1 true ([v1.v]),aG false 5 1 v1.v (ag x1) (aW (ag x1) [bd .u8 1 A3]),al b2 true (aiL (aj .u8 16 A2) ([])),al b3 true ([v2.v]),aG true 5 1 v2.v (ag x1) (aW (ag x1) [bd .u8 1 A7])]) (
 ∃post,ax P 87 [.agg (aiL (aj .u8 16 A4) ([])).toArray] [] post∧
 ∀x hs,post x hs→∃A8:(Nat→Int),x= .agg (aiL (aj .u8 16 A8) ([])).toArray∧hs=[]∧
 ∃ei:Int,∃BO:(Nat→Int),∃BP:(Nat→Int),(∀j,j<(ag x1)→BP j=A7 j)∧ei=x4∧(∀j,j<16→BO j=A8 j)∧cc ⟨[],[],[ei],[BO,BP],[],[],[]⟩∧cu ⟨[],[],[ei],[BO,BP],[],[],[]⟩<cu ⟨[],[],[x2],[A4,A5],[],[],[]⟩)))))))
theorem Ro(P:Program)(ao:Value→List HP→Prop)(x0:Int)(x1:Int)(A0:Nat→Int)(A1:Nat→Int)(A2:Nat→Int)(A3:Nat→Int)(v0:V1)(v1:V1)(b0:Nat)(b1:Nat)(L:Nat→LC):VC P (fun v hs=>ao v (hs.take 7)) Jm {iv:=[x0,x1],av:=[A0,A1,A2,A3],bo:=[],bv:=[b0,b1],vv:=[v0,v1]} L=Jn P ao x0 x1 A0 A1 A2 A3 v0 v1 b0 b1:=by kernel_rfl
theorem Oc:ig cx 62 ([SV.ptr 0 0,SV.agg [SV.b_ (ai9) 16 (E.aN 2)],SV.sl 1 (E.lit 0) 1 (E.lit 1) (E.lit 1)]) ([Ck.row 0 true [SV.b_ (ai9) 256 (E.aN 0),SV.vv 0],Ck.bK true 0 177 4 (E.var 0) [{ck:=CK.int (ai9),w:=4,a:=E.aN 1}],Ck.row 1 true [SV.vv 1],Ck.bK false 1 5 1 (E.var 1) [{ck:=CK.int (ai9),w:=1,a:=E.aN 3}]]) ({b:=2,v:=2,i:=2,a:=4,bo:=0,p:=0,r:=0}) Tryz.f62=Jm:=rfl
end Go.RX.Fg
