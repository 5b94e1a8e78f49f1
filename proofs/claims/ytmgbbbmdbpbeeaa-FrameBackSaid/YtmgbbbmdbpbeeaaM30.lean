/- Polynomials. -/
import Derived.Test.YtmgbbbmdbpbeeaaM25
open Go.IntKind renaming u64 → ad1, u8 → adM, wrap → ae
open Int renaming toNat → ag
open List renaming append → ads
namespace Go.RX.Fh
open Go.RX Go.Proofs Go.RX.Fe Go.RX.Fg
noncomputable def cx:Ctx:={T:=TT,FT:=FT,loops:=Fh.loops,cb:=Fh.cb}
set_option maxRecDepth 100000
noncomputable def Mz:F:=gS Fh.cx 77 ([SV.int (ad1) (E.var 0)]) ([]) ({b:=0,v:=0,i:=1,a:=0,bo:=0,p:=0,r:=0}) Try.f77
def MA(_:Program)(ax:Value→List HP→Prop)(x0:Int):Prop:=
 ax (.int .u64 (ak .bJ .u64 (ak .shr .u64 (ak .bJ .u64 (ak .aQ .u64 (ak .shr .u64 (ak .bJ .u64 (ak .aQ .u64 (ak .shr .u64 (ak .bJ .u64 (ak .aQ .u64 (ak .shr .u64 (ak .bJ .u64 (ak .aQ .u64 (ak .shr .u64 (ak .bJ .u64 (ak .aQ .u64 (ak .shr .u64 x0 1) 6148914691236517205) (ak .shl .u64 (ak .aQ .u64 x0 6148914691236517205) 1)) 2) 3689348814741910323) (ak .shl .u64 (ak .aQ .u64 (ak .bJ .u64 (ak .aQ .u64 (ak .shr .u64 x0 1) 6148914691236517205) (ak .shl .u64 (ak .aQ .u64 x0 6148914691236517205) 1)) 3689348814741910323) 2)) 4) 1085102592571150095) (ak .shl .u64 (ak .aQ .u64 (ak .bJ .u64 (ak .aQ .u64 (ak .shr .u64 (ak .bJ .u64 (ak .aQ .u64 (ak .shr .u64 x0 1) 6148914691236517205) (ak .shl .u64 (ak .aQ .u64 x0 6148914691236517205) 1)) 2) 3689348814741910323) (ak .shl .u64 (ak .aQ .u64 (ak .bJ .u64 (ak .aQ .u64 (ak .shr .u64 x0 1) 6148914691236517205) (ak .shl .u64 (ak .aQ .u64 x0 6148914691236517205) 1)) 3689348814741910323) 2)) 1085102592571150095) 4)) 8) 71777214294589695) (ak .shl .u64 (ak .aQ .u64 (ak .bJ .u64 (ak .aQ .u64 (ak .shr .u64 (ak .bJ .u64 (ak .aQ .u64 (ak .shr .u64 (ak .bJ .u64 (ak .aQ .u64 (ak .shr .u64 x0 1) 6148914691236517205) (ak .shl .u64 (ak .aQ .u64 x0 6148914691236517205) 1)) 2) 3689348814741910323) (ak .shl .u64 (ak .aQ .u64 (ak .bJ .u64 (ak .aQ .u64 (ak .shr .u64 x0 1) 6148914691236517205) (ak .shl .u64 (ak .aQ .u64 x0 6148914691236517205) 1)) 3689348814741910323) 2)) 4) 1085102592571150095) (ak .shl .u64 (ak .aQ .u64 (ak .bJ .u64 (ak .aQ .u64 (ak .shr .u64 (ak .bJ .u64 (ak .aQ .u64 (ak .shr .u64 x0 1) 6148914691236517205) (ak .shl .u64 (ak .aQ .u64 x0 6148914691236517205) 1)) 2) 3689348814741910323) (ak .shl .u64 (ak .aQ .u64 (ak .bJ .u64 (ak .aQ .u64 (ak .shr .u64 x0 1) 6148914691236517205) (ak .shl .u64 (ak .aQ .u64 x0 6148914691236517205) 1)) 3689348814741910323) 2)) 1085102592571150095) 4)) 71777214294589695) 8)) 16) 281470681808895) (ak .shl .u64 (ak .aQ .u64 (ak .bJ .u64 (ak .aQ .u64 (ak .shr .u64 (ak .bJ .u64 (ak .aQ .u64 (ak .shr .u64 (ak .bJ .u64 (ak .aQ .u64 (ak .shr .u64 (ak .bJ .u64 (ak .aQ .u64 (ak .shr .u64 x0 1) 6148914691236517205) (ak .shl .u64 (ak .aQ .u64 x0 6148914691236517205) 1)) 2) 3689348814741910323) (ak .shl .u64 (ak .aQ .u64 (ak .bJ .u64 (ak .aQ .u64 (ak .shr .u64 x0 1) 6148914691236517205) (ak .shl .u64 (ak .aQ .u64 x0 6148914691236517205) 1)) 3689348814741910323) 2)) 4) 1085102592571150095) (ak .shl .u64 (ak .aQ .u64 (ak .bJ .u64 (ak .aQ .u64 (ak .shr .u64 (ak .bJ .u64 (ak .aQ .u64 (ak .shr .u64 x0 1) 6148914691236517205) (ak .shl .u64 (ak .aQ .u64 x0 6148914691236517205) 1)) 2) 3689348814741910323) (ak .shl .u64 (ak .aQ .u64 (ak .bJ .u64 (ak .aQ .u64 (ak .shr .u64 x0 1) 6148914691236517205) (ak .shl .u64 (ak .aQ .u64 x0 6148914691236517205) 1)) 3689348814741910323) 2)) 1085102592571150095) 4)) 8) 71777214294589695) (ak .shl .u64 (ak .aQ .u64 (ak .bJ .u64 (ak .aQ .u64 (ak .shr .u64 (ak .bJ .u64 (ak .aQ .u64 (ak .shr .u64 (ak .bJ .u64 (ak .aQ .u64 (ak .shr .u64 x0 1) 6148914691236517205) (ak .shl .u64 (ak .aQ .u64 x0 6148914691236517205) 1)) 2) 3689348814741910323) (ak .shl .u64 (ak .aQ .u64 (ak .bJ .u64 (ak .aQ .u64 (ak .shr .u64 x0 1) 6148914691236517205) (ak .shl .u64 (ak .aQ .u64 x0 6148914691236517205) 1)) 3689348814741910323) 2)) 4) 1085102592571150095) (ak .shl .u64 (ak .aQ .u64 (ak .bJ .u64 (ak .aQ .u64 (ak .shr .u64 (ak .bJ .u64 (ak .aQ .u64 (ak .shr .u64 x0 1) 6148914691236517205) (ak .shl .u64 (ak .aQ .u64 x0 6148914691236517205) 1)) 2) 3689348814741910323) (ak .shl .u64 (ak .aQ .u64 (ak .bJ .u64 (ak .aQ .u64 (ak .shr .u64 x0 1) 6148914691236517205) (ak .shl .u64 (ak .aQ .u64 x0 6148914691236517205) 1)) 3689348814741910323) 2)) 1085102592571150095) 4)) 71777214294589695) 8)) 281470681808895) 16)) 32) (ak .shl .u64 (ak .bJ .u64 (ak .aQ .u64 (ak .shr .u64 (ak .bJ .u64 (ak .aQ .u64 (ak .shr .u64 (ak .bJ .u64 (ak .aQ .u64 (ak .shr .u64 (ak .bJ .u64 (ak .aQ .u64 (ak .shr .u64 (ak .bJ .u64 (ak .aQ .u64 (ak .shr .u64 x0 1) 6148914691236517205) (ak .shl .u64 (ak .aQ .u64 x0 6148914691236517205) 1)) 2) 3689348814741910323) (ak .shl .u64 (ak .aQ .u64 (ak .bJ .u64 (ak .aQ .u64 (ak .shr .u64 x0 1) 6148914691236517205) (ak .shl .u64 (ak .aQ .u64 x0 6148914691236517205) 1)) 3689348814741910323) 2)) 4) 1085102592571150095) (ak .shl .u64 (ak .aQ .u64 (ak .bJ .u64 (ak .aQ .u64 (ak .shr .u64 (ak .bJ .u64 (ak .aQ .u64 (ak .shr .u64 x0 1) 6148914691236517205) (ak .shl .u64 (ak .aQ .u64 x0 6148914691236517205) 1)) 2) 3689348814741910323) (ak .shl .u64 (ak .aQ .u64 (ak .bJ .u64 (ak .aQ .u64 (ak .shr .u64 x0 1) 6148914691236517205) (ak .shl .u64 (ak .aQ .u64 x0 6148914691236517205) 1)) 3689348814741910323) 2)) 1085102592571150095) 4)) 8) 71777214294589695) (ak .shl .u64 (ak .aQ .u64 (ak .bJ .u64 (ak .aQ .u64 (ak .shr .u64 (ak .bJ .u64 (ak .aQ .u64 (ak .shr .u64 (ak .bJ .u64 (ak .aQ .u64 (ak .shr .u64 x0 1) 6148914691236517205) (ak .shl .u64 (ak .aQ .u64 x0 6148914691236517205) 1)) 2) 3689348814741910323) (ak .shl .u64 (ak .aQ .u64 (ak .bJ .u64 (ak .aQ .u64 (ak .shr .u64 x0 1) 6148914691236517205) (ak .shl .u64 (ak .aQ .u64 x0 6148914691236517205) 1)) 3689348814741910323) 2)) 4) 1085102592571150095) (ak .shl .u64 (ak .aQ .u64 (ak .bJ .u64 (ak .aQ .u64 (ak .shr .u64 (ak .bJ .u64 (ak .aQ .u64 (ak .shr .u64 x0 1) 6148914691236517205) (ak .shl .u64 (ak .aQ .u64 x0 6148914691236517205) 1)) 2) 3689348814741910323) (ak .shl .u64 (ak .aQ .u64 (ak .bJ .u64 (ak .aQ .u64 (ak .shr .u64 x0 1) 6148914691236517205) (ak .shl .u64 (ak .aQ .u64 x0 6148914691236517205) 1)) 3689348814741910323) 2)) 1085102592571150095) 4)) 71777214294589695) 8)) 16) 281470681808895) (ak .shl .u64 (ak .aQ .u64 (ak .bJ .u64 (ak .aQ .u64 (ak .shr .u64 (ak .bJ .u64 (ak .aQ .u64 (ak .shr .u64 (ak .bJ .u64 (ak .aQ .u64 (ak .shr .u64 (ak .bJ .u64 (ak .aQ .u64 (ak .shr .u64 x0 1) 6148914691236517205) (ak .shl .u64 (ak .aQ .u64 x0 6148914691236517205) 1)) 2) 3689348814741910323) (ak .shl .u64 (ak .aQ .u64 (ak .bJ .u64 (ak .aQ .u64 (ak .shr .u64 x0 1) 6148914691236517205) (ak .shl .u64 (ak .aQ .u64 x0 6148914691236517205) 1)) 3689348814741910323) 2)) 4) 1085102592571150095) (ak .shl .u64 (ak .aQ .u64 (ak .bJ .u64 (ak .aQ .u64 (ak .shr .u64 (ak .bJ .u64 (ak .aQ .u64 (ak .shr .u64 x0 1) 6148914691236517205) (ak .shl .u64 (ak .aQ .u64 x0 6148914691236517205) 1)) 2) 3689348814741910323) (ak .shl .u64 (ak .aQ .u64 (ak .bJ .u64 (ak .aQ .u64 (ak .shr .u64 x0 1) 6148914691236517205) (ak .shl .u64 (ak .aQ .u64 x0 6148914691236517205) 1)) 3689348814741910323) 2)) 1085102592571150095) 4)) 8) 71777214294589695) (ak .shl .u64 (ak .aQ .u64 (ak .bJ .u64 (ak .aQ .u64 (ak .shr .u64 (ak .bJ .u64 (ak .aQ .u64 (ak .shr .u64 (ak .bJ .u64 (ak .aQ .u64 (ak .shr .u64 x0 1) 6148914691236517205) (ak .shl .u64 (ak .aQ .u64 x0 6148914691236517205) 1)) 2) 3689348814741910323) (ak .shl .u64 (ak .aQ .u64 (ak .bJ .u64 (ak .aQ .u64 (ak .shr .u64 x0 1) 6148914691236517205) (ak .shl .u64 (ak .aQ .u64 x0 6148914691236517205) 1)) 3689348814741910323) 2)) 4) 1085102592571150095) (ak .shl .u64 (ak .aQ .u64 (ak .bJ .u64 (ak .aQ .u64 (ak .shr .u64 (ak .bJ .u64 (ak .aQ .u64 (ak .shr .u64 x0 1) 6148914691236517205) (ak .shl .u64 (ak .aQ .u64 x0 6148914691236517205) 1)) 2) 3689348814741910323) (ak .shl .u64 (ak .aQ .u64 (ak .bJ .u64 (ak .aQ .u64 (ak .shr .u64 x0 1) 6148914691236517205) (ak .shl .u64 (ak .aQ .u64 x0 6148914691236517205) 1)) 3689348814741910323) 2)) 1085102592571150095) 4)) 71777214294589695) 8)) 281470681808895) 16)) 32))) []
theorem Sv(P:Program)(ax:Value→List HP→Prop)(x0:Int)(L:Nat→LC):VC P (fun v _=>ax v []) Mz {iv:=[x0],av:=[],bo:=[],bv:=[],vv:=[]} L=MA P ax x0:=by kernel_rfl
theorem PH:gS Fh.cx 77 ([SV.int (ad1) (E.var 0)]) ([]) ({b:=0,v:=0,i:=1,a:=0,bo:=0,p:=0,r:=0}) Try.f77=Mz:=rfl
noncomputable def Q9:F:=gS Fh.cx 66 ([SV.agg [SV.cD (adM) 16 (E.aO 0)]]) ([]) ({b:=0,v:=0,i:=0,a:=1,bo:=0,p:=0,r:=0}) Try.f66
def Q_(P:Program)(ax:Value→List HP→Prop)(A0:Nat→Int):Prop:=
 ∀_:Nat,∀_:Nat,∀_:Nat,∃post,ar P 77 [.int .u64 (ak .bJ .u64 (ak .shl .u64 (ak .bJ .u64 (ak .shl .u64 (ak .bJ .u64 (ak .shl .u64 (ak .bJ .u64 (ak .shl .u64 (ak .bJ .u64 (ak .shl .u64 (ak .bJ .u64 (ak .shl .u64 (ak .bJ .u64 (ak .shl .u64 (ak .bJ .u64 0 (ae .u64 (A0 0))) 8) (ae .u64 (A0 1))) 8) (ae .u64 (A0 2))) 8) (ae .u64 (A0 3))) 8) (ae .u64 (A0 4))) 8) (ae .u64 (A0 5))) 8) (ae .u64 (A0 6))) 8) (ae .u64 (A0 7)))] [] post∧
 ∀x hs,post x hs→∃x0:Int,x= .int .u64 x0∧hs=[]∧
 ∃post,ar P 77 [.int .u64 (ak .bJ .u64 (ak .shl .u64 (ak .bJ .u64 (ak .shl .u64 (ak .bJ .u64 (ak .shl .u64 (ak .bJ .u64 (ak .shl .u64 (ak .bJ .u64 (ak .shl .u64 (ak .bJ .u64 (ak .shl .u64 (ak .bJ .u64 (ak .shl .u64 (ak .bJ .u64 0 (ae .u64 (A0 8))) 8) (ae .u64 (A0 9))) 8) (ae .u64 (A0 10))) 8) (ae .u64 (A0 11))) 8) (ae .u64 (A0 12))) 8) (ae .u64 (A0 13))) 8) (ae .u64 (A0 14))) 8) (ae .u64 (A0 15)))] [] post∧
 ∀x hs,post x hs→∃x1:Int,x= .int .u64 x1∧hs=[]∧
 ax (.agg #[.int .u64 x0,.int .u64 x1]) []
theorem U4(P:Program)(ax:Value→List HP→Prop)(A0:Nat→Int)(L:Nat→LC):VC P (fun v _=>ax v []) Q9 {iv:=[],av:=[A0],bo:=[],bv:=[],vv:=[]} L=Q_ P ax A0:=by kernel_rfl
theorem Sw:gS Fh.cx 66 ([SV.agg [SV.cD (adM) 16 (E.aO 0)]]) ([]) ({b:=0,v:=0,i:=0,a:=1,bo:=0,p:=0,r:=0}) Try.f66=Q9:=rfl
noncomputable def EE:F:=gS Fh.cx 68 ([SV.agg [SV.int (ad1) (E.var 0),SV.int (ad1) (E.var 1)],SV.agg [SV.int (ad1) (E.var 2),SV.int (ad1) (E.var 3)]]) ([]) ({b:=0,v:=0,i:=4,a:=0,bo:=0,p:=0,r:=0}) Try.f68
def EF(_:Program)(ax:Value→List HP→Prop)(x0:Int)(x1:Int)(x2:Int)(x3:Int):Prop:=
 ∀_:Nat,∀_:Nat,∀_:Nat,∀_:Nat,∃(bN:Ext→Prop) (bY:Ext→Nat),(∃x4:Int,∃x5:Int,∃x6:Int,x6=127∧x4=0∧x5=0∧bN ⟨[],[],[x4,x5,x6],[],[],[],[]⟩)∧
 ∀x4:Int,∀x5:Int,∀x6:Int,bN ⟨[],[],[x4,x5,x6],[],[],[],[]⟩→
 aZ (0≤x6) (
 aZ (64≤x6) (
 aw (0≤(ak .rem .i64 x6 64)) (
 aZ ((ak .aQ .u64 (ak .shr .u64 x1 (ak .rem .i64 x6 64)) 1)=1) (
 ∀_:Nat,∀_:Nat,∀_:Nat,aw ((-9223372036854775808)≤(x6 - 1)) (
 aw ((x6 - 1)≤9223372036854775807) (
 ∃eW:Int,∃gH:Int,∃qp:Int,qp=(x6 - 1)∧eW=(ak .aD .u64 (ak .aD .u64 (ak .shl .u64 x4 1) (ae .u64 ((ak .shr .u64 x5 63)*135))) x2)∧gH=(ak .aD .u64 (ak .bJ .u64 (ak .shl .u64 x5 1) (ak .shr .u64 x4 63)) x3)∧bN ⟨[],[],[eW,gH,qp],[],[],[],[]⟩∧bY ⟨[],[],[eW,gH,qp],[],[],[],[]⟩<bY ⟨[],[],[x4,x5,x6],[],[],[],[]⟩))) (
 aw ((-9223372036854775808)≤(x6 - 1)) (
 aw ((x6 - 1)≤9223372036854775807) (
 ∃eW:Int,∃gH:Int,∃qp:Int,qp=(x6 - 1)∧eW=(ak .aD .u64 (ak .shl .u64 x4 1) (ae .u64 ((ak .shr .u64 x5 63)*135)))∧gH=(ak .bJ .u64 (ak .shl .u64 x5 1) (ak .shr .u64 x4 63))∧bN ⟨[],[],[eW,gH,qp],[],[],[],[]⟩∧bY ⟨[],[],[eW,gH,qp],[],[],[],[]⟩<bY ⟨[],[],[x4,x5,x6],[],[],[],[]⟩))))) (
 aw (0≤(ak .rem .i64 x6 64)) (
 aZ ((ak .aQ .u64 (ak .shr .u64 x0 (ak .rem .i64 x6 64)) 1)=1) (
 ∀_:Nat,∀_:Nat,∀_:Nat,aw ((-9223372036854775808)≤(x6 - 1)) (
 aw ((x6 - 1)≤9223372036854775807) (
 ∃eW:Int,∃gH:Int,∃qp:Int,qp=(x6 - 1)∧eW=(ak .aD .u64 (ak .aD .u64 (ak .shl .u64 x4 1) (ae .u64 ((ak .shr .u64 x5 63)*135))) x2)∧gH=(ak .aD .u64 (ak .bJ .u64 (ak .shl .u64 x5 1) (ak .shr .u64 x4 63)) x3)∧bN ⟨[],[],[eW,gH,qp],[],[],[],[]⟩∧bY ⟨[],[],[eW,gH,qp],[],[],[],[]⟩<bY ⟨[],[],[x4,x5,x6],[],[],[],[]⟩))) (
 aw ((-9223372036854775808)≤(x6 - 1)) (
 aw ((x6 - 1)≤9223372036854775807) (
 ∃eW:Int,∃gH:Int,∃qp:Int,qp=(x6 - 1)∧eW=(ak .aD .u64 (ak .shl .u64 x4 1) (ae .u64 ((ak .shr .u64 x5 63)*135)))∧gH=(ak .bJ .u64 (ak .shl .u64 x5 1) (ak .shr .u64 x4 63))∧bN ⟨[],[],[eW,gH,qp],[],[],[],[]⟩∧bY ⟨[],[],[eW,gH,qp],[],[],[],[]⟩<bY ⟨[],[],[x4,x5,x6],[],[],[],[]⟩)))))) (
 ax (.agg #[.int .u64 x4,.int .u64 x5]) [])
theorem MB(P:Program)(ax:Value→List HP→Prop)(x0:Int)(x1:Int)(x2:Int)(x3:Int)(L:Nat→LC):VC P (fun v _=>ax v []) EE {iv:=[x0,x1,x2,x3],av:=[],bo:=[],bv:=[],vv:=[]} L=EF P ax x0 x1 x2 x3:=by kernel_rfl
theorem J3:gS Fh.cx 68 ([SV.agg [SV.int (ad1) (E.var 0),SV.int (ad1) (E.var 1)],SV.agg [SV.int (ad1) (E.var 2),SV.int (ad1) (E.var 3)]]) ([]) ({b:=0,v:=0,i:=4,a:=0,bo:=0,p:=0,r:=0}) Try.f68=EE:=rfl
noncomputable def EG:F:=gS Fh.cx 69 ([SV.agg [SV.int (ad1) (E.var 0),SV.int (ad1) (E.var 1)]]) ([]) ({b:=0,v:=0,i:=2,a:=0,bo:=0,p:=0,r:=0}) Try.f69
def mI(P:Program)(ax:Value→List HP→Prop)(x0:Int)(x1:Int):Prop:=
 ∀_:Nat,∀_:Nat,(∃post,ar P 77 [.int .u64 x0] [] post∧
 ∀x hs,post x hs→∃x2:Int,x= .int .u64 x2∧hs=[]∧
 (∃post,ar P 77 [.int .u64 x1] [] post∧
 ∀x hs,post x hs→∃x3:Int,x= .int .u64 x3∧hs=[]∧
 ∀_:Nat,∀_:Nat,ax (.agg #[.int .u8 (ae .u8 (ak .shr .u64 x2 56)),.int .u8 (ae .u8 (ak .shr .u64 x2 48)),.int .u8 (ae .u8 (ak .shr .u64 x2 40)),.int .u8 (ae .u8 (ak .shr .u64 x2 32)),.int .u8 (ae .u8 (ak .shr .u64 x2 24)),.int .u8 (ae .u8 (ak .shr .u64 x2 16)),.int .u8 (ae .u8 (ak .shr .u64 x2 8)),.int .u8 (ae .u8 (ak .shr .u64 x2 0)),.int .u8 (ae .u8 (ak .shr .u64 x3 56)),.int .u8 (ae .u8 (ak .shr .u64 x3 48)),.int .u8 (ae .u8 (ak .shr .u64 x3 40)),.int .u8 (ae .u8 (ak .shr .u64 x3 32)),.int .u8 (ae .u8 (ak .shr .u64 x3 24)),.int .u8 (ae .u8 (ak .shr .u64 x3 16)),.int .u8 (ae .u8 (ak .shr .u64 x3 8)),.int .u8 (ae .u8 (ak .shr .u64 x3 0))]) [])∧
 (∀_:Nat,∃post,ar P 77 [.int .u64 x1] [] post∧
 ∀x hs,post x hs→∃x3:Int,x= .int .u64 x3∧hs=[]∧
 ∀_:Nat,ax (.agg #[.int .u8 (ae .u8 (ak .shr .u64 x2 56)),.int .u8 (ae .u8 (ak .shr .u64 x2 48)),.int .u8 (ae .u8 (ak .shr .u64 x2 40)),.int .u8 (ae .u8 (ak .shr .u64 x2 32)),.int .u8 (ae .u8 (ak .shr .u64 x2 24)),.int .u8 (ae .u8 (ak .shr .u64 x2 16)),.int .u8 (ae .u8 (ak .shr .u64 x2 8)),.int .u8 (ae .u8 (ak .shr .u64 x2 0)),.int .u8 (ae .u8 (ak .shr .u64 x3 56)),.int .u8 (ae .u8 (ak .shr .u64 x3 48)),.int .u8 (ae .u8 (ak .shr .u64 x3 40)),.int .u8 (ae .u8 (ak .shr .u64 x3 32)),.int .u8 (ae .u8 (ak .shr .u64 x3 24)),.int .u8 (ae .u8 (ak .shr .u64 x3 16)),.int .u8 (ae .u8 (ak .shr .u64 x3 8)),.int .u8 (ae .u8 (ak .shr .u64 x3 0))]) []))∧
 (∀_:Nat,∃post,ar P 77 [.int .u64 x0] [] post∧
 ∀x hs,post x hs→∃x2:Int,x= .int .u64 x2∧hs=[]∧
 ∃post,ar P 77 [.int .u64 x1] [] post∧
 ∀x hs,post x hs→∃x3:Int,x= .int .u64 x3∧hs=[]∧
 ∀_:Nat,ax (.agg #[.int .u8 (ae .u8 (ak .shr .u64 x2 56)),.int .u8 (ae .u8 (ak .shr .u64 x2 48)),.int .u8 (ae .u8 (ak .shr .u64 x2 40)),.int .u8 (ae .u8 (ak .shr .u64 x2 32)),.int .u8 (ae .u8 (ak .shr .u64 x2 24)),.int .u8 (ae .u8 (ak .shr .u64 x2 16)),.int .u8 (ae .u8 (ak .shr .u64 x2 8)),.int .u8 (ae .u8 (ak .shr .u64 x2 0)),.int .u8 (ae .u8 (ak .shr .u64 x3 56)),.int .u8 (ae .u8 (ak .shr .u64 x3 48)),.int .u8 (ae .u8 (ak .shr .u64 x3 40)),.int .u8 (ae .u8 (ak .shr .u64 x3 32)),.int .u8 (ae .u8 (ak .shr .u64 x3 24)),.int .u8 (ae .u8 (ak .shr .u64 x3 16)),.int .u8 (ae .u8 (ak .shr .u64 x3 8)),.int .u8 (ae .u8 (ak .shr .u64 x3 0))]) [])
theorem MC(P:Program)(ax:Value→List HP→Prop)(x0:Int)(x1:Int)(L:Nat→LC):VC P (fun v _=>ax v []) EG {iv:=[x0,x1],av:=[],bo:=[],bv:=[],vv:=[]} L=mI P ax x0 x1:=by kernel_rfl
theorem J4:gS Fh.cx 69 ([SV.agg [SV.int (ad1) (E.var 0),SV.int (ad1) (E.var 1)]]) ([]) ({b:=0,v:=0,i:=2,a:=0,bo:=0,p:=0,r:=0}) Try.f69=EG:=rfl
noncomputable def Ib:F:=gS Fh.cx 58 ([SV.agg [SV.cD (adM) 16 (E.aO 0)],SV.vv 0]) ([Ck.bu true 0 5 1 (E.var 0) [{ck:=CK.int (adM),w:=1,a:=E.aO 1}]]) ({b:=0,v:=1,i:=1,a:=2,bo:=0,p:=0,r:=0}) Try.f58
def Ic(P:Program)(ax:Value→List HP→Prop)(x0:Int)(A0:Nat→Int)(A1:Nat→Int)(_:V1):Prop:=
 ∀_:Nat,∀_:Nat,∃post,ar P 66 [.agg (ads (aj .u8 16 A0) ([])).toArray] [] post∧
 ∀x hs,post x hs→∃x1:Int,∃x2:Int,x= .agg #[.int .u64 x1,.int .u64 x2]∧hs=[]∧
 ∀_:Nat,∀_:Nat,aw (0≤x0) (
 ∀v1:V1,∃(bN:Ext→Prop) (bY:Ext→Nat),(∃v2:V1,∃x3:Int,∃x4:Int,∃x5:Int,∃A2:(Nat→Int),v2=v1∧v2=v1∧x5=x0∧(∀j,j<(ag x5)→A2 j=A1 j)∧x3=0∧x4=0∧bN ⟨[],[v2],[x3,x4,x5],[A2],[],[],[]⟩)∧
 ∀v2:V1,∀x3:Int,∀x4:Int,∀x5:Int,∀A2:(Nat→Int),bN ⟨[],[v2],[x3,x4,x5],[A2],[],[],[]⟩→
 aw (0≤x5) (
 aZ (0<x5) (
 ∀_:Nat,aw (0≤(ak .tu .i64 x5 16)) (
 aw ((ak .tu .i64 x5 16)≤x5) (
 ∃post,ar P 66 [.agg (ads (aj .u8 16 (aA (fun _=>0) 0 (ag (ak .tu .i64 x5 16)) A2)) ([])).toArray] [] post∧
 ∀x hs,post x hs→∃x6:Int,∃x7:Int,x= .agg #[.int .u64 x6,.int .u64 x7]∧hs=[]∧
 ∀_:Nat,∀_:Nat,∀_:Nat,∃post,ar P 68 [.agg #[.int .u64 (ak .aD .u64 x3 x6),.int .u64 (ak .aD .u64 x4 x7)],.agg #[.int .u64 x1,.int .u64 x2]] [] post∧
 ∀x hs,post x hs→∃x8:Int,∃x9:Int,x= .agg #[.int .u64 x8,.int .u64 x9]∧hs=[]∧
 aw (0≤(ak .tu .i64 x5 16)) (
 aw ((ak .tu .i64 x5 16)≤x5) (
 aw (0≤(x5 - (ak .tu .i64 x5 16))) (
 ∀v3:V1,∃nu:V1,∃fO:Int,∃eW:Int,∃gH:Int,∃iG:(Nat→Int),nu=v3∧nu=v3∧gH=(x5 - (ak .tu .i64 x5 16))∧(∀j,j<(ag gH)→iG j=(aE A2 (ag (ak .tu .i64 x5 16))) j)∧fO=x8∧eW=x9∧bN ⟨[],[nu],[fO,eW,gH],[iG],[],[],[]⟩∧bY ⟨[],[nu],[fO,eW,gH],[iG],[],[],[]⟩<bY ⟨[],[v2],[x3,x4,x5],[A2],[],[],[]⟩)))))) (
 ∃post,ar P 69 [.agg #[.int .u64 x3,.int .u64 x4]] [] post∧
 ∀x hs,post x hs→∃A3:(Nat→Int),x= .agg (ads (aj .u8 16 A3) ([])).toArray∧hs=[]∧
 ax (.agg (ads (aj .u8 16 A3) ([])).toArray) [])))
theorem PI(P:Program)(ax:Value→List HP→Prop)(x0:Int)(A0:Nat→Int)(A1:Nat→Int)(v0:V1)(L:Nat→LC):VC P (fun v _=>ax v []) Ib {iv:=[x0],av:=[A0,A1],bo:=[],bv:=[],vv:=[v0]} L=Ic P ax x0 A0 A1 v0:=by kernel_rfl
theorem MD:gS Fh.cx 58 ([SV.agg [SV.cD (adM) 16 (E.aO 0)],SV.vv 0]) ([Ck.bu true 0 5 1 (E.var 0) [{ck:=CK.int (adM),w:=1,a:=E.aO 1}]]) ({b:=0,v:=1,i:=1,a:=2,bo:=0,p:=0,r:=0}) Try.f58=Ib:=rfl
end Go.RX.Fh

namespace Go.RX.Fg
open Go.RX Go.Proofs Go.RX.Fe
noncomputable def cx:Ctx:={T:=TT,FT:=FT,loops:=loops,cb:=cb}
set_option maxRecDepth 100000
noncomputable def Ie:F:=gS cx 50 ([SV.agg [SV.cD (adM) 16 (E.aO 0)]]) ([]) ({b:=0,v:=0,i:=0,a:=1,bo:=0,p:=0,r:=0}) Try.f50
def Ig(_:Program)(ax:Value→List HP→Prop)(A0:Nat→Int):Prop:=
 ∀_:Nat,∀_:Nat,aZ (¬((ae .u8 ((A0 15)+1))=0)) (
 ax (.agg (ads (aj .u8 15 A0) ([.int .u8 (ae .u8 ((A0 15)+1))])).toArray) []) (
 aZ (¬((ae .u8 ((A0 14)+1))=0)) (
 ax (.agg (ads (aj .u8 14 A0) ([.int .u8 (ae .u8 ((A0 14)+1)),.int .u8 (ae .u8 ((A0 15)+1))])).toArray) []) (
 aZ (¬((ae .u8 ((A0 13)+1))=0)) (
 ax (.agg (ads (aj .u8 13 A0) ([.int .u8 (ae .u8 ((A0 13)+1)),.int .u8 (ae .u8 ((A0 14)+1)),.int .u8 (ae .u8 ((A0 15)+1))])).toArray) []) (
 aZ (¬((ae .u8 ((A0 12)+1))=0)) (
 ax (.agg (ads (aj .u8 12 A0) ([.int .u8 (ae .u8 ((A0 12)+1)),.int .u8 (ae .u8 ((A0 13)+1)),.int .u8 (ae .u8 ((A0 14)+1)),.int .u8 (ae .u8 ((A0 15)+1))])).toArray) []) (
 ax (.agg (ads (aj .u8 12 A0) ([.int .u8 (ae .u8 ((A0 12)+1)),.int .u8 (ae .u8 ((A0 13)+1)),.int .u8 (ae .u8 ((A0 14)+1)),.int .u8 (ae .u8 ((A0 15)+1))])).toArray) []))))
theorem PJ(P:Program)(ax:Value→List HP→Prop)(A0:Nat→Int)(L:Nat→LC):VC P (fun v _=>ax v []) Ie {iv:=[],av:=[A0],bo:=[],bv:=[],vv:=[]} L=Ig P ax A0:=by kernel_rfl
theorem ME:gS cx 50 ([SV.agg [SV.cD (adM) 16 (E.aO 0)]]) ([]) ({b:=0,v:=0,i:=0,a:=1,bo:=0,p:=0,r:=0}) Try.f50=Ie:=rfl
noncomputable def Ih:F:=gS cx 39 ([SV.ptr 0 0,SV.agg [SV.cD (adM) 16 (E.aO 2)],SV.sl 1 (E.lit 0) 1 (E.lit 1) (E.lit 1)]) ([Ck.row 0 true [SV.cD (adM) 256 (E.aO 0),SV.vv 0],Ck.bu true 0 73 4 (E.var 0) [{ck:=CK.int (adM),w:=4,a:=E.aO 1}],Ck.row 1 true [SV.vv 1],Ck.bu false 1 5 1 (E.var 1) [{ck:=CK.int (adM),w:=1,a:=E.aO 3}]]) ({b:=2,v:=2,i:=2,a:=4,bo:=0,p:=0,r:=0}) Try.f39
def Ii(P:Program)(ax:Value→List HP→Prop)(x0:Int)(x1:Int)(A0:Nat→Int)(A1:Nat→Int)(A2:Nat→Int)(A3:Nat→Int)(v0:V1)(v1:V1)(b0:Nat)(b1:Nat):Prop:=
 ∀b2:Nat,∀b3:Nat,aw (0≤x1) (
 aw (0≤x1) (
 aw (x1≤140737488355328) (
 ∀v2:V1,∀_:Nat,∀_:Nat,∀_:Nat,∀(_ _:Nat) (_:Loop),∃(bN:Ext→Prop) (bY:Ext→Nat),(∃x2:Int,∃A4:(Nat→Int),∃A5:(Nat→Int),(∀j,j<(ag x1)→A5 j=A3 j)∧x2=0∧(∀j,j<16→A4 j=A2 j)∧bN ⟨[],[],[x2],[A4,A5],[],[],[]⟩)∧
 ∀x2:Int,∀A4:(Nat→Int),∀A5:(Nat→Int),bN ⟨[],[],[x2],[A4,A5],[],[],[]⟩→
 ∃post,ar P 11 [.pointer (some ⟨b0,0,none⟩),.agg (ads (aj .u8 16 A4) ([])).toArray] [aq b0 true (ads (aj .u8 256 A0) ([v0.v])),au true 73 4 v0.v (ag x0) (aK (ag x0) [aJ .u8 4 A1])] post∧
 ∀x hs,post x hs→∃A6:(Nat→Int),x= .agg (ads (aj .u8 16 A6) ([])).toArray∧hs=[aq b0 true (ads (aj .u8 256 A0) ([v0.v])),au true 73 4 v0.v (ag x0) (aK (ag x0) [aJ .u8 4 A1])]∧
 ∀_:Nat,∃(Sx:Ext→Prop) (U5:Ext→Nat),(∃x3:Int,∃x4:Int,∃A7:(Nat→Int),x3=0∧(∀j,j<(ag x1)→A7 j=A5 j)∧x4=x2∧Sx ⟨[],[],[x3,x4],[A7],[],[],[]⟩)∧
 ∀x3:Int,∀x4:Int,∀A7:(Nat→Int),Sx ⟨[],[],[x3,x4],[A7],[],[],[]⟩→
 aw ((¬(x3<16))∨(0≤x1)) (
 aZ ((x3<16)∧(x4<x1)) (
 aw (0≤x4) (
 aw (x4<x1) (
 aw (0≤x3) (
 aw (x3<16) (
 aw ((-9223372036854775808)≤(x4+1)) (
 aw ((x4+1)≤9223372036854775807) (
 aw ((-9223372036854775808)≤(x3+1)) (
 aw ((x3+1)≤9223372036854775807) (
 ∃fO:Int,∃eW:Int,∃tg:(Nat→Int),fO=(x3+1)∧(∀j,j<(ag x1)→tg j=(ao A7 (ag x4) (ak .aD .u8 (A7 (ag x4)) (A6 (ag x3)))) j)∧eW=(x4+1)∧Sx ⟨[],[],[fO,eW],[tg],[],[],[]⟩∧U5 ⟨[],[],[fO,eW],[tg],[],[],[]⟩<U5 ⟨[],[],[x3,x4],[A7],[],[],[]⟩))))))))) (
 aw (0≤x1) (
 aZ (x4=x1) (
 ax (.tuple #[v2.v,.int .i64 0]) [aq b0 true (ads (aj .u8 256 A0) ([v0.v])),au true 73 4 v0.v (ag x0) (aK (ag x0) [aJ .u8 4 A1]),aq b1 true ([v1.v]),au false 5 1 v1.v (ag x1) (aK (ag x1) [aJ .u8 1 A3]),aq b2 true (ads (aj .u8 16 A2) ([])),aq b3 true ([v2.v]),au true 5 1 v2.v (ag x1) (aK (ag x1) [aJ .u8 1 A7])]) (
 ∃post,ar P 50 [.agg (ads (aj .u8 16 A4) ([])).toArray] [] post∧
 ∀x hs,post x hs→∃A8:(Nat→Int),x= .agg (ads (aj .u8 16 A8) ([])).toArray∧hs=[]∧
 ∃gQ:Int,∃tb:(Nat→Int),∃tc:(Nat→Int),(∀j,j<(ag x1)→tc j=A7 j)∧gQ=x4∧(∀j,j<16→tb j=A8 j)∧bN ⟨[],[],[gQ],[tb,tc],[],[],[]⟩∧bY ⟨[],[],[gQ],[tb,tc],[],[],[]⟩<bY ⟨[],[],[x2],[A4,A5],[],[],[]⟩)))))))
theorem PK(P:Program)(ax:Value→List HP→Prop)(x0:Int)(x1:Int)(A0:Nat→Int)(A1:Nat→Int)(A2:Nat→Int)(A3:Nat→Int)(v0:V1)(v1:V1)(b0:Nat)(b1:Nat)(L:Nat→LC):VC P (fun v hs=>ax v (hs.take 7)) Ih {iv:=[x0,x1],av:=[A0,A1,A2,A3],bo:=[],bv:=[b0,b1],vv:=[v0,v1]} L=Ii P ax x0 x1 A0 A1 A2 A3 v0 v1 b0 b1:=by kernel_rfl
theorem MF:gS cx 39 ([SV.ptr 0 0,SV.agg [SV.cD (adM) 16 (E.aO 2)],SV.sl 1 (E.lit 0) 1 (E.lit 1) (E.lit 1)]) ([Ck.row 0 true [SV.cD (adM) 256 (E.aO 0),SV.vv 0],Ck.bu true 0 73 4 (E.var 0) [{ck:=CK.int (adM),w:=4,a:=E.aO 1}],Ck.row 1 true [SV.vv 1],Ck.bu false 1 5 1 (E.var 1) [{ck:=CK.int (adM),w:=1,a:=E.aO 3}]]) ({b:=2,v:=2,i:=2,a:=4,bo:=0,p:=0,r:=0}) Try.f39=Ih:=rfl
end Go.RX.Fg
