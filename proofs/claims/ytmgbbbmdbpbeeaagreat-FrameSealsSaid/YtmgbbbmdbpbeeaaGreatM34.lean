/- Polynomials. -/
import Derived.Test.YtmgbbbmdbpbeeaaGreatM33
open Go.IntKind renaming u64 → afo, u8 → afc, wrap → ae
open Go.Proofs.Tryz renaming prog → ae0
open Int renaming toNat → ag, toNat_natCast → afe
open List renaming append → aeU, append_eq → afq
open Nat renaming lt_of_lt_of_le → ae_, mod_eq_of_lt → afp, mod_lt → afI
namespace Go.RX.Fh
open Go.RX Go.Proofs Go.RX.Fe Go.RX.Fg
noncomputable def cx:Ctx:={T:=TT,FT:=FT,loops:=Fh.loops,cq:=Fh.cq}
set_option maxRecDepth 100000
noncomputable def Nu:F:=iq Fh.cx 146 ([SV.int (afo) (E.var 0)]) ([]) ({b:=0,v:=0,i:=1,a:=0,bo:=0,p:=0,r:=0}) Tryz.f146
def Nv(_:Program)(ar:Value→List HP→Prop)(x0:Int):Prop:=
 ar (.int .u64 (ak .bR .u64 (ak .shr .u64 (ak .bR .u64 (ak .aP .u64 (ak .shr .u64 (ak .bR .u64 (ak .aP .u64 (ak .shr .u64 (ak .bR .u64 (ak .aP .u64 (ak .shr .u64 (ak .bR .u64 (ak .aP .u64 (ak .shr .u64 (ak .bR .u64 (ak .aP .u64 (ak .shr .u64 x0 1) 6148914691236517205) (ak .shl .u64 (ak .aP .u64 x0 6148914691236517205) 1)) 2) 3689348814741910323) (ak .shl .u64 (ak .aP .u64 (ak .bR .u64 (ak .aP .u64 (ak .shr .u64 x0 1) 6148914691236517205) (ak .shl .u64 (ak .aP .u64 x0 6148914691236517205) 1)) 3689348814741910323) 2)) 4) 1085102592571150095) (ak .shl .u64 (ak .aP .u64 (ak .bR .u64 (ak .aP .u64 (ak .shr .u64 (ak .bR .u64 (ak .aP .u64 (ak .shr .u64 x0 1) 6148914691236517205) (ak .shl .u64 (ak .aP .u64 x0 6148914691236517205) 1)) 2) 3689348814741910323) (ak .shl .u64 (ak .aP .u64 (ak .bR .u64 (ak .aP .u64 (ak .shr .u64 x0 1) 6148914691236517205) (ak .shl .u64 (ak .aP .u64 x0 6148914691236517205) 1)) 3689348814741910323) 2)) 1085102592571150095) 4)) 8) 71777214294589695) (ak .shl .u64 (ak .aP .u64 (ak .bR .u64 (ak .aP .u64 (ak .shr .u64 (ak .bR .u64 (ak .aP .u64 (ak .shr .u64 (ak .bR .u64 (ak .aP .u64 (ak .shr .u64 x0 1) 6148914691236517205) (ak .shl .u64 (ak .aP .u64 x0 6148914691236517205) 1)) 2) 3689348814741910323) (ak .shl .u64 (ak .aP .u64 (ak .bR .u64 (ak .aP .u64 (ak .shr .u64 x0 1) 6148914691236517205) (ak .shl .u64 (ak .aP .u64 x0 6148914691236517205) 1)) 3689348814741910323) 2)) 4) 1085102592571150095) (ak .shl .u64 (ak .aP .u64 (ak .bR .u64 (ak .aP .u64 (ak .shr .u64 (ak .bR .u64 (ak .aP .u64 (ak .shr .u64 x0 1) 6148914691236517205) (ak .shl .u64 (ak .aP .u64 x0 6148914691236517205) 1)) 2) 3689348814741910323) (ak .shl .u64 (ak .aP .u64 (ak .bR .u64 (ak .aP .u64 (ak .shr .u64 x0 1) 6148914691236517205) (ak .shl .u64 (ak .aP .u64 x0 6148914691236517205) 1)) 3689348814741910323) 2)) 1085102592571150095) 4)) 71777214294589695) 8)) 16) 281470681808895) (ak .shl .u64 (ak .aP .u64 (ak .bR .u64 (ak .aP .u64 (ak .shr .u64 (ak .bR .u64 (ak .aP .u64 (ak .shr .u64 (ak .bR .u64 (ak .aP .u64 (ak .shr .u64 (ak .bR .u64 (ak .aP .u64 (ak .shr .u64 x0 1) 6148914691236517205) (ak .shl .u64 (ak .aP .u64 x0 6148914691236517205) 1)) 2) 3689348814741910323) (ak .shl .u64 (ak .aP .u64 (ak .bR .u64 (ak .aP .u64 (ak .shr .u64 x0 1) 6148914691236517205) (ak .shl .u64 (ak .aP .u64 x0 6148914691236517205) 1)) 3689348814741910323) 2)) 4) 1085102592571150095) (ak .shl .u64 (ak .aP .u64 (ak .bR .u64 (ak .aP .u64 (ak .shr .u64 (ak .bR .u64 (ak .aP .u64 (ak .shr .u64 x0 1) 6148914691236517205) (ak .shl .u64 (ak .aP .u64 x0 6148914691236517205) 1)) 2) 3689348814741910323) (ak .shl .u64 (ak .aP .u64 (ak .bR .u64 (ak .aP .u64 (ak .shr .u64 x0 1) 6148914691236517205) (ak .shl .u64 (ak .aP .u64 x0 6148914691236517205) 1)) 3689348814741910323) 2)) 1085102592571150095) 4)) 8) 71777214294589695) (ak .shl .u64 (ak .aP .u64 (ak .bR .u64 (ak .aP .u64 (ak .shr .u64 (ak .bR .u64 (ak .aP .u64 (ak .shr .u64 (ak .bR .u64 (ak .aP .u64 (ak .shr .u64 x0 1) 6148914691236517205) (ak .shl .u64 (ak .aP .u64 x0 6148914691236517205) 1)) 2) 3689348814741910323) (ak .shl .u64 (ak .aP .u64 (ak .bR .u64 (ak .aP .u64 (ak .shr .u64 x0 1) 6148914691236517205) (ak .shl .u64 (ak .aP .u64 x0 6148914691236517205) 1)) 3689348814741910323) 2)) 4) 1085102592571150095) (ak .shl .u64 (ak .aP .u64 (ak .bR .u64 (ak .aP .u64 (ak .shr .u64 (ak .bR .u64 (ak .aP .u64 (ak .shr .u64 x0 1) 6148914691236517205) (ak .shl .u64 (ak .aP .u64 x0 6148914691236517205) 1)) 2) 3689348814741910323) (ak .shl .u64 (ak .aP .u64 (ak .bR .u64 (ak .aP .u64 (ak .shr .u64 x0 1) 6148914691236517205) (ak .shl .u64 (ak .aP .u64 x0 6148914691236517205) 1)) 3689348814741910323) 2)) 1085102592571150095) 4)) 71777214294589695) 8)) 281470681808895) 16)) 32) (ak .shl .u64 (ak .bR .u64 (ak .aP .u64 (ak .shr .u64 (ak .bR .u64 (ak .aP .u64 (ak .shr .u64 (ak .bR .u64 (ak .aP .u64 (ak .shr .u64 (ak .bR .u64 (ak .aP .u64 (ak .shr .u64 (ak .bR .u64 (ak .aP .u64 (ak .shr .u64 x0 1) 6148914691236517205) (ak .shl .u64 (ak .aP .u64 x0 6148914691236517205) 1)) 2) 3689348814741910323) (ak .shl .u64 (ak .aP .u64 (ak .bR .u64 (ak .aP .u64 (ak .shr .u64 x0 1) 6148914691236517205) (ak .shl .u64 (ak .aP .u64 x0 6148914691236517205) 1)) 3689348814741910323) 2)) 4) 1085102592571150095) (ak .shl .u64 (ak .aP .u64 (ak .bR .u64 (ak .aP .u64 (ak .shr .u64 (ak .bR .u64 (ak .aP .u64 (ak .shr .u64 x0 1) 6148914691236517205) (ak .shl .u64 (ak .aP .u64 x0 6148914691236517205) 1)) 2) 3689348814741910323) (ak .shl .u64 (ak .aP .u64 (ak .bR .u64 (ak .aP .u64 (ak .shr .u64 x0 1) 6148914691236517205) (ak .shl .u64 (ak .aP .u64 x0 6148914691236517205) 1)) 3689348814741910323) 2)) 1085102592571150095) 4)) 8) 71777214294589695) (ak .shl .u64 (ak .aP .u64 (ak .bR .u64 (ak .aP .u64 (ak .shr .u64 (ak .bR .u64 (ak .aP .u64 (ak .shr .u64 (ak .bR .u64 (ak .aP .u64 (ak .shr .u64 x0 1) 6148914691236517205) (ak .shl .u64 (ak .aP .u64 x0 6148914691236517205) 1)) 2) 3689348814741910323) (ak .shl .u64 (ak .aP .u64 (ak .bR .u64 (ak .aP .u64 (ak .shr .u64 x0 1) 6148914691236517205) (ak .shl .u64 (ak .aP .u64 x0 6148914691236517205) 1)) 3689348814741910323) 2)) 4) 1085102592571150095) (ak .shl .u64 (ak .aP .u64 (ak .bR .u64 (ak .aP .u64 (ak .shr .u64 (ak .bR .u64 (ak .aP .u64 (ak .shr .u64 x0 1) 6148914691236517205) (ak .shl .u64 (ak .aP .u64 x0 6148914691236517205) 1)) 2) 3689348814741910323) (ak .shl .u64 (ak .aP .u64 (ak .bR .u64 (ak .aP .u64 (ak .shr .u64 x0 1) 6148914691236517205) (ak .shl .u64 (ak .aP .u64 x0 6148914691236517205) 1)) 3689348814741910323) 2)) 1085102592571150095) 4)) 71777214294589695) 8)) 16) 281470681808895) (ak .shl .u64 (ak .aP .u64 (ak .bR .u64 (ak .aP .u64 (ak .shr .u64 (ak .bR .u64 (ak .aP .u64 (ak .shr .u64 (ak .bR .u64 (ak .aP .u64 (ak .shr .u64 (ak .bR .u64 (ak .aP .u64 (ak .shr .u64 x0 1) 6148914691236517205) (ak .shl .u64 (ak .aP .u64 x0 6148914691236517205) 1)) 2) 3689348814741910323) (ak .shl .u64 (ak .aP .u64 (ak .bR .u64 (ak .aP .u64 (ak .shr .u64 x0 1) 6148914691236517205) (ak .shl .u64 (ak .aP .u64 x0 6148914691236517205) 1)) 3689348814741910323) 2)) 4) 1085102592571150095) (ak .shl .u64 (ak .aP .u64 (ak .bR .u64 (ak .aP .u64 (ak .shr .u64 (ak .bR .u64 (ak .aP .u64 (ak .shr .u64 x0 1) 6148914691236517205) (ak .shl .u64 (ak .aP .u64 x0 6148914691236517205) 1)) 2) 3689348814741910323) (ak .shl .u64 (ak .aP .u64 (ak .bR .u64 (ak .aP .u64 (ak .shr .u64 x0 1) 6148914691236517205) (ak .shl .u64 (ak .aP .u64 x0 6148914691236517205) 1)) 3689348814741910323) 2)) 1085102592571150095) 4)) 8) 71777214294589695) (ak .shl .u64 (ak .aP .u64 (ak .bR .u64 (ak .aP .u64 (ak .shr .u64 (ak .bR .u64 (ak .aP .u64 (ak .shr .u64 (ak .bR .u64 (ak .aP .u64 (ak .shr .u64 x0 1) 6148914691236517205) (ak .shl .u64 (ak .aP .u64 x0 6148914691236517205) 1)) 2) 3689348814741910323) (ak .shl .u64 (ak .aP .u64 (ak .bR .u64 (ak .aP .u64 (ak .shr .u64 x0 1) 6148914691236517205) (ak .shl .u64 (ak .aP .u64 x0 6148914691236517205) 1)) 3689348814741910323) 2)) 4) 1085102592571150095) (ak .shl .u64 (ak .aP .u64 (ak .bR .u64 (ak .aP .u64 (ak .shr .u64 (ak .bR .u64 (ak .aP .u64 (ak .shr .u64 x0 1) 6148914691236517205) (ak .shl .u64 (ak .aP .u64 x0 6148914691236517205) 1)) 2) 3689348814741910323) (ak .shl .u64 (ak .aP .u64 (ak .bR .u64 (ak .aP .u64 (ak .shr .u64 x0 1) 6148914691236517205) (ak .shl .u64 (ak .aP .u64 x0 6148914691236517205) 1)) 3689348814741910323) 2)) 1085102592571150095) 4)) 71777214294589695) 8)) 281470681808895) 16)) 32))) []
theorem TX(P:Program)(ar:Value→List HP→Prop)(x0:Int)(L:Nat→LC):VC P (fun v _=>ar v []) Nu {iv:=[x0],av:=[],bo:=[],bv:=[],vv:=[]} L=Nv P ar x0:=by kernel_rfl
theorem Q_:iq Fh.cx 146 ([SV.int (afo) (E.var 0)]) ([]) ({b:=0,v:=0,i:=1,a:=0,bo:=0,p:=0,r:=0}) Tryz.f146=Nu:=rfl
noncomputable def R9:F:=iq Fh.cx 131 ([SV.agg [SV.cE (afc) 16 (E.aL 0)]]) ([]) ({b:=0,v:=0,i:=0,a:=1,bo:=0,p:=0,r:=0}) Tryz.f131
def R_(P:Program)(ar:Value→List HP→Prop)(A0:Nat→Int):Prop:=
 ∀_:Nat,∀_:Nat,∀_:Nat,∃post,aw P 146 [.int .u64 (ak .bR .u64 (ak .shl .u64 (ak .bR .u64 (ak .shl .u64 (ak .bR .u64 (ak .shl .u64 (ak .bR .u64 (ak .shl .u64 (ak .bR .u64 (ak .shl .u64 (ak .bR .u64 (ak .shl .u64 (ak .bR .u64 (ak .shl .u64 (ak .bR .u64 0 (ae .u64 (A0 0))) 8) (ae .u64 (A0 1))) 8) (ae .u64 (A0 2))) 8) (ae .u64 (A0 3))) 8) (ae .u64 (A0 4))) 8) (ae .u64 (A0 5))) 8) (ae .u64 (A0 6))) 8) (ae .u64 (A0 7)))] [] post∧
 ∀x hs,post x hs→∃x0:Int,x= .int .u64 x0∧hs=[]∧
 ∃post,aw P 146 [.int .u64 (ak .bR .u64 (ak .shl .u64 (ak .bR .u64 (ak .shl .u64 (ak .bR .u64 (ak .shl .u64 (ak .bR .u64 (ak .shl .u64 (ak .bR .u64 (ak .shl .u64 (ak .bR .u64 (ak .shl .u64 (ak .bR .u64 (ak .shl .u64 (ak .bR .u64 0 (ae .u64 (A0 8))) 8) (ae .u64 (A0 9))) 8) (ae .u64 (A0 10))) 8) (ae .u64 (A0 11))) 8) (ae .u64 (A0 12))) 8) (ae .u64 (A0 13))) 8) (ae .u64 (A0 14))) 8) (ae .u64 (A0 15)))] [] post∧
 ∀x hs,post x hs→∃x1:Int,x= .int .u64 x1∧hs=[]∧
 ar (.agg #[.int .u64 x0,.int .u64 x1]) []
theorem WE(P:Program)(ar:Value→List HP→Prop)(A0:Nat→Int)(L:Nat→LC):VC P (fun v _=>ar v []) R9 {iv:=[],av:=[A0],bo:=[],bv:=[],vv:=[]} L=R_ P ar A0:=by kernel_rfl
theorem TY:iq Fh.cx 131 ([SV.agg [SV.cE (afc) 16 (E.aL 0)]]) ([]) ({b:=0,v:=0,i:=0,a:=1,bo:=0,p:=0,r:=0}) Tryz.f131=R9:=rfl
noncomputable def EL:F:=iq Fh.cx 133 ([SV.agg [SV.int (afo) (E.var 0),SV.int (afo) (E.var 1)],SV.agg [SV.int (afo) (E.var 2),SV.int (afo) (E.var 3)]]) ([]) ({b:=0,v:=0,i:=4,a:=0,bo:=0,p:=0,r:=0}) Tryz.f133
def oP(_:Program)(ar:Value→List HP→Prop)(x0:Int)(x1:Int)(x2:Int)(x3:Int):Prop:=
 ∀_:Nat,∀_:Nat,∀_:Nat,∀_:Nat,∃(bE:Ext→Prop) (bL:Ext→Nat),(∃x4:Int,∃x5:Int,∃x6:Int,x6=127∧x4=0∧x5=0∧bE ⟨[],[],[x4,x5,x6],[],[],[],[]⟩)∧
 ∀x4:Int,∀x5:Int,∀x6:Int,bE ⟨[],[],[x4,x5,x6],[],[],[],[]⟩→
 aR (0≤x6) (
 aR (64≤x6) (
 ao (0≤(ak .rem .i64 x6 64)) (
 aR ((ak .aP .u64 (ak .shr .u64 x1 (ak .rem .i64 x6 64)) 1)=1) (
 ∀_:Nat,∀_:Nat,∀_:Nat,ao ((-9223372036854775808)≤(x6 - 1)) (
 ao ((x6 - 1)≤9223372036854775807) (
 ∃dc:Int,∃qq:Int,∃wT:Int,wT=(x6 - 1)∧dc=(ak .ay .u64 (ak .ay .u64 (ak .shl .u64 x4 1) (ae .u64 ((ak .shr .u64 x5 63)*135))) x2)∧qq=(ak .ay .u64 (ak .bR .u64 (ak .shl .u64 x5 1) (ak .shr .u64 x4 63)) x3)∧bE ⟨[],[],[dc,qq,wT],[],[],[],[]⟩∧bL ⟨[],[],[dc,qq,wT],[],[],[],[]⟩<bL ⟨[],[],[x4,x5,x6],[],[],[],[]⟩))) (
 ao ((-9223372036854775808)≤(x6 - 1)) (
 ao ((x6 - 1)≤9223372036854775807) (
 ∃dc:Int,∃qq:Int,∃wT:Int,wT=(x6 - 1)∧dc=(ak .ay .u64 (ak .shl .u64 x4 1) (ae .u64 ((ak .shr .u64 x5 63)*135)))∧qq=(ak .bR .u64 (ak .shl .u64 x5 1) (ak .shr .u64 x4 63))∧bE ⟨[],[],[dc,qq,wT],[],[],[],[]⟩∧bL ⟨[],[],[dc,qq,wT],[],[],[],[]⟩<bL ⟨[],[],[x4,x5,x6],[],[],[],[]⟩))))) (
 ao (0≤(ak .rem .i64 x6 64)) (
 aR ((ak .aP .u64 (ak .shr .u64 x0 (ak .rem .i64 x6 64)) 1)=1) (
 ∀_:Nat,∀_:Nat,∀_:Nat,ao ((-9223372036854775808)≤(x6 - 1)) (
 ao ((x6 - 1)≤9223372036854775807) (
 ∃dc:Int,∃qq:Int,∃wT:Int,wT=(x6 - 1)∧dc=(ak .ay .u64 (ak .ay .u64 (ak .shl .u64 x4 1) (ae .u64 ((ak .shr .u64 x5 63)*135))) x2)∧qq=(ak .ay .u64 (ak .bR .u64 (ak .shl .u64 x5 1) (ak .shr .u64 x4 63)) x3)∧bE ⟨[],[],[dc,qq,wT],[],[],[],[]⟩∧bL ⟨[],[],[dc,qq,wT],[],[],[],[]⟩<bL ⟨[],[],[x4,x5,x6],[],[],[],[]⟩))) (
 ao ((-9223372036854775808)≤(x6 - 1)) (
 ao ((x6 - 1)≤9223372036854775807) (
 ∃dc:Int,∃qq:Int,∃wT:Int,wT=(x6 - 1)∧dc=(ak .ay .u64 (ak .shl .u64 x4 1) (ae .u64 ((ak .shr .u64 x5 63)*135)))∧qq=(ak .bR .u64 (ak .shl .u64 x5 1) (ak .shr .u64 x4 63))∧bE ⟨[],[],[dc,qq,wT],[],[],[],[]⟩∧bL ⟨[],[],[dc,qq,wT],[],[],[],[]⟩<bL ⟨[],[],[x4,x5,x6],[],[],[],[]⟩)))))) (
 ar (.agg #[.int .u64 x4,.int .u64 x5]) [])
theorem Nw(P:Program)(ar:Value→List HP→Prop)(x0:Int)(x1:Int)(x2:Int)(x3:Int)(L:Nat→LC):VC P (fun v _=>ar v []) EL {iv:=[x0,x1,x2,x3],av:=[],bo:=[],bv:=[],vv:=[]} L=oP P ar x0 x1 x2 x3:=by kernel_rfl
theorem Ks:iq Fh.cx 133 ([SV.agg [SV.int (afo) (E.var 0),SV.int (afo) (E.var 1)],SV.agg [SV.int (afo) (E.var 2),SV.int (afo) (E.var 3)]]) ([]) ({b:=0,v:=0,i:=4,a:=0,bo:=0,p:=0,r:=0}) Tryz.f133=EL:=rfl
noncomputable def EM:F:=iq Fh.cx 134 ([SV.agg [SV.int (afo) (E.var 0),SV.int (afo) (E.var 1)]]) ([]) ({b:=0,v:=0,i:=2,a:=0,bo:=0,p:=0,r:=0}) Tryz.f134
def oW(P:Program)(ar:Value→List HP→Prop)(x0:Int)(x1:Int):Prop:=
 ∀_:Nat,∀_:Nat,(∃post,aw P 146 [.int .u64 x0] [] post∧
 ∀x hs,post x hs→∃x2:Int,x= .int .u64 x2∧hs=[]∧
 (∃post,aw P 146 [.int .u64 x1] [] post∧
 ∀x hs,post x hs→∃x3:Int,x= .int .u64 x3∧hs=[]∧
 ∀_:Nat,∀_:Nat,ar (.agg #[.int .u8 (ae .u8 (ak .shr .u64 x2 56)),.int .u8 (ae .u8 (ak .shr .u64 x2 48)),.int .u8 (ae .u8 (ak .shr .u64 x2 40)),.int .u8 (ae .u8 (ak .shr .u64 x2 32)),.int .u8 (ae .u8 (ak .shr .u64 x2 24)),.int .u8 (ae .u8 (ak .shr .u64 x2 16)),.int .u8 (ae .u8 (ak .shr .u64 x2 8)),.int .u8 (ae .u8 (ak .shr .u64 x2 0)),.int .u8 (ae .u8 (ak .shr .u64 x3 56)),.int .u8 (ae .u8 (ak .shr .u64 x3 48)),.int .u8 (ae .u8 (ak .shr .u64 x3 40)),.int .u8 (ae .u8 (ak .shr .u64 x3 32)),.int .u8 (ae .u8 (ak .shr .u64 x3 24)),.int .u8 (ae .u8 (ak .shr .u64 x3 16)),.int .u8 (ae .u8 (ak .shr .u64 x3 8)),.int .u8 (ae .u8 (ak .shr .u64 x3 0))]) [])∧
 (∀_:Nat,∃post,aw P 146 [.int .u64 x1] [] post∧
 ∀x hs,post x hs→∃x3:Int,x= .int .u64 x3∧hs=[]∧
 ∀_:Nat,ar (.agg #[.int .u8 (ae .u8 (ak .shr .u64 x2 56)),.int .u8 (ae .u8 (ak .shr .u64 x2 48)),.int .u8 (ae .u8 (ak .shr .u64 x2 40)),.int .u8 (ae .u8 (ak .shr .u64 x2 32)),.int .u8 (ae .u8 (ak .shr .u64 x2 24)),.int .u8 (ae .u8 (ak .shr .u64 x2 16)),.int .u8 (ae .u8 (ak .shr .u64 x2 8)),.int .u8 (ae .u8 (ak .shr .u64 x2 0)),.int .u8 (ae .u8 (ak .shr .u64 x3 56)),.int .u8 (ae .u8 (ak .shr .u64 x3 48)),.int .u8 (ae .u8 (ak .shr .u64 x3 40)),.int .u8 (ae .u8 (ak .shr .u64 x3 32)),.int .u8 (ae .u8 (ak .shr .u64 x3 24)),.int .u8 (ae .u8 (ak .shr .u64 x3 16)),.int .u8 (ae .u8 (ak .shr .u64 x3 8)),.int .u8 (ae .u8 (ak .shr .u64 x3 0))]) []))∧
 (∀_:Nat,∃post,aw P 146 [.int .u64 x0] [] post∧
 ∀x hs,post x hs→∃x2:Int,x= .int .u64 x2∧hs=[]∧
 ∃post,aw P 146 [.int .u64 x1] [] post∧
 ∀x hs,post x hs→∃x3:Int,x= .int .u64 x3∧hs=[]∧
 ∀_:Nat,ar (.agg #[.int .u8 (ae .u8 (ak .shr .u64 x2 56)),.int .u8 (ae .u8 (ak .shr .u64 x2 48)),.int .u8 (ae .u8 (ak .shr .u64 x2 40)),.int .u8 (ae .u8 (ak .shr .u64 x2 32)),.int .u8 (ae .u8 (ak .shr .u64 x2 24)),.int .u8 (ae .u8 (ak .shr .u64 x2 16)),.int .u8 (ae .u8 (ak .shr .u64 x2 8)),.int .u8 (ae .u8 (ak .shr .u64 x2 0)),.int .u8 (ae .u8 (ak .shr .u64 x3 56)),.int .u8 (ae .u8 (ak .shr .u64 x3 48)),.int .u8 (ae .u8 (ak .shr .u64 x3 40)),.int .u8 (ae .u8 (ak .shr .u64 x3 32)),.int .u8 (ae .u8 (ak .shr .u64 x3 24)),.int .u8 (ae .u8 (ak .shr .u64 x3 16)),.int .u8 (ae .u8 (ak .shr .u64 x3 8)),.int .u8 (ae .u8 (ak .shr .u64 x3 0))]) [])
theorem Nx(P:Program)(ar:Value→List HP→Prop)(x0:Int)(x1:Int)(L:Nat→LC):VC P (fun v _=>ar v []) EM {iv:=[x0,x1],av:=[],bo:=[],bv:=[],vv:=[]} L=oW P ar x0 x1:=by kernel_rfl
theorem Kt:iq Fh.cx 134 ([SV.agg [SV.int (afo) (E.var 0),SV.int (afo) (E.var 1)]]) ([]) ({b:=0,v:=0,i:=2,a:=0,bo:=0,p:=0,r:=0}) Tryz.f134=EM:=rfl
noncomputable def II:F:=iq Fh.cx 111 ([SV.agg [SV.cE (afc) 16 (E.aL 0)],SV.vv 0]) ([Ck.bC true 0 5 1 (E.var 0) [{ck:=CK.int (afc),w:=1,a:=E.aL 1}]]) ({b:=0,v:=1,i:=1,a:=2,bo:=0,p:=0,r:=0}) Tryz.f111
def IJ(P:Program)(ar:Value→List HP→Prop)(x0:Int)(A0:Nat→Int)(A1:Nat→Int)(_:V1):Prop:=
 ∀_:Nat,∀_:Nat,∃post,aw P 131 [.agg (aeU (al .u8 16 A0) ([])).toArray] [] post∧
 ∀x hs,post x hs→∃x1:Int,∃x2:Int,x= .agg #[.int .u64 x1,.int .u64 x2]∧hs=[]∧
 ∀_:Nat,∀_:Nat,ao (0≤x0) (
 ∀v1:V1,∃(bE:Ext→Prop) (bL:Ext→Nat),(∃v2:V1,∃x3:Int,∃x4:Int,∃x5:Int,∃A2:(Nat→Int),v2=v1∧v2=v1∧x5=x0∧(∀j,j<(ag x5)→A2 j=A1 j)∧x3=0∧x4=0∧bE ⟨[],[v2],[x3,x4,x5],[A2],[],[],[]⟩)∧
 ∀v2:V1,∀x3:Int,∀x4:Int,∀x5:Int,∀A2:(Nat→Int),bE ⟨[],[v2],[x3,x4,x5],[A2],[],[],[]⟩→
 ao (0≤x5) (
 aR (0<x5) (
 ∀_:Nat,ao (0≤(ak .tE .i64 x5 16)) (
 ao ((ak .tE .i64 x5 16)≤x5) (
 ∃post,aw P 131 [.agg (aeU (al .u8 16 (aI (fun _=>0) 0 (ag (ak .tE .i64 x5 16)) A2)) ([])).toArray] [] post∧
 ∀x hs,post x hs→∃x6:Int,∃x7:Int,x= .agg #[.int .u64 x6,.int .u64 x7]∧hs=[]∧
 ∀_:Nat,∀_:Nat,∀_:Nat,∃post,aw P 133 [.agg #[.int .u64 (ak .ay .u64 x3 x6),.int .u64 (ak .ay .u64 x4 x7)],.agg #[.int .u64 x1,.int .u64 x2]] [] post∧
 ∀x hs,post x hs→∃x8:Int,∃x9:Int,x= .agg #[.int .u64 x8,.int .u64 x9]∧hs=[]∧
 ao (0≤(ak .tE .i64 x5 16)) (
 ao ((ak .tE .i64 x5 16)≤x5) (
 ao (0≤(x5 - (ak .tE .i64 x5 16))) (
 ∀v3:V1,∃oc:V1,∃dt:Int,∃dc:Int,∃qq:Int,∃dT:(Nat→Int),oc=v3∧oc=v3∧qq=(x5 - (ak .tE .i64 x5 16))∧(∀j,j<(ag qq)→dT j=(aA A2 (ag (ak .tE .i64 x5 16))) j)∧dt=x8∧dc=x9∧bE ⟨[],[oc],[dt,dc,qq],[dT],[],[],[]⟩∧bL ⟨[],[oc],[dt,dc,qq],[dT],[],[],[]⟩<bL ⟨[],[v2],[x3,x4,x5],[A2],[],[],[]⟩)))))) (
 ∃post,aw P 134 [.agg #[.int .u64 x3,.int .u64 x4]] [] post∧
 ∀x hs,post x hs→∃A3:(Nat→Int),x= .agg (aeU (al .u8 16 A3) ([])).toArray∧hs=[]∧
 ar (.agg (aeU (al .u8 16 A3) ([])).toArray) [])))
theorem Ra(P:Program)(ar:Value→List HP→Prop)(x0:Int)(A0:Nat→Int)(A1:Nat→Int)(v0:V1)(L:Nat→LC):VC P (fun v _=>ar v []) II {iv:=[x0],av:=[A0,A1],bo:=[],bv:=[],vv:=[v0]} L=IJ P ar x0 A0 A1 v0:=by kernel_rfl
theorem Ny:iq Fh.cx 111 ([SV.agg [SV.cE (afc) 16 (E.aL 0)],SV.vv 0]) ([Ck.bC true 0 5 1 (E.var 0) [{ck:=CK.int (afc),w:=1,a:=E.aL 1}]]) ({b:=0,v:=1,i:=1,a:=2,bo:=0,p:=0,r:=0}) Tryz.f111=II:=rfl
open Go Go.RX Go.Proofs Go.Ae Go.RX.Sh Go.RX.Fe Go.RX.Fg Go.Gh
theorem Nz{a b:Nat}(ha:a<2^64)(hb:b<2^64):ak .bR .u64 (a:Int) (b:Int)=((a|||b:Nat):Int):=by
 show ae .u64 ((BitVec.ofInt 64 (a:Int)|||BitVec.ofInt 64 (b:Int)).toNat:Int)=_;rw [wrap_u64,BitVec.toNat_or,cu,cu,afp ha,afp hb,afp (Nat.or_lt_two_pow ha hb)]
theorem yp(a n:Nat)(hn:n≤64):ak .shl .u64 (a:Int) (n:Int)=((a*2^n%2^64:Nat):Int):=by
 show ae .u64 ((a:Int)*2^(min (ag (n:Int)) 64))=_;rw [show min (ag (n:Int)) 64=n by rw [afe];omega,show((a:Int)*2^n)=((a*2^n:Nat):Int) by rw [Int.natCast_mul,Int.natCast_pow];rfl,wrap_u64]
theorem BV{a n:Nat}(ha:a<2^64):a >>> n<2^64:=by
 rw [Nat.shiftRight_eq_div_pow];exact Nat.lt_of_le_of_lt (Nat.div_le_self _ _) ha
theorem NA{m k x:Nat}(hx:x<2^64)(hm:m<2^64)(hk:k≤64):ak .bR .u64 (ak .aP .u64 (ak .shr .u64 (x:Int) (k:Int)) (m:Int)) (ak .shl .u64 (ak .aP .u64 (x:Int) (m:Int)) (k:Int))=((BS m k x:Nat):Int):=by
 rw [gg .u64 x k hk,HK (BV hx) hm,HK hx hm,yp _ _ hk,Nz (Nat.lt_of_le_of_lt Nat.and_le_right hm) (afI _ (by decide))];rfl
theorem Zy{x:Nat}(hx:x<2^64):ak .bR .u64 (ak .aP .u64 (ak .shr .u64 (x:Int) 1) 6148914691236517205) (ak .shl .u64 (ak .aP .u64 (x:Int) 6148914691236517205) 1)=((BS 6148914691236517205 1 x:Nat):Int):=NA hx (by decide) (by decide)
theorem Zz{x:Nat}(hx:x<2^64):ak .bR .u64 (ak .aP .u64 (ak .shr .u64 (x:Int) 2) 3689348814741910323) (ak .shl .u64 (ak .aP .u64 (x:Int) 3689348814741910323) 2)=((BS 3689348814741910323 2 x:Nat):Int):=NA hx (by decide) (by decide)
theorem ZA{x:Nat}(hx:x<2^64):ak .bR .u64 (ak .aP .u64 (ak .shr .u64 (x:Int) 4) 1085102592571150095) (ak .shl .u64 (ak .aP .u64 (x:Int) 1085102592571150095) 4)=((BS 1085102592571150095 4 x:Nat):Int):=NA hx (by decide) (by decide)
theorem ZB{x:Nat}(hx:x<2^64):ak .bR .u64 (ak .aP .u64 (ak .shr .u64 (x:Int) 8) 71777214294589695) (ak .shl .u64 (ak .aP .u64 (x:Int) 71777214294589695) 8)=((BS 71777214294589695 8 x:Nat):Int):=NA hx (by decide) (by decide)
theorem WG{x:Nat}(hx:x<2^64):ak .bR .u64 (ak .aP .u64 (ak .shr .u64 (x:Int) 16) 281470681808895) (ak .shl .u64 (ak .aP .u64 (x:Int) 281470681808895) 16)=((BS 281470681808895 16 x:Nat):Int):=NA hx (by decide) (by decide)
theorem WH{x:Nat}(hx:x<2^64):ak .bR .u64 (ak .shr .u64 (x:Int) 32) (ak .shl .u64 (x:Int) 32)=((BS 4294967295 32 x:Nat):Int):=by
 have h1:ak .shr .u64 (x:Int) 32=((x >>> 32:Nat):Int):=gg .u64 x 32 (by decide);have h2:ak .shl .u64 (x:Int) 32=((x*2^32%2^64:Nat):Int):=yp x 32 (by decide);rw [h1,h2,Nz (BV hx) (afI _ (by decide)),Gx x hx]
theorem qh(x:Nat)(hx:x<2^64):aw ae0 146 [.int .u64 (x:Int)] [] fun r hs=>r= .int .u64 (rev x:Nat)∧hs=[]:=by
 refine aw.oa (C:=Fh.cx) (bd:={i:=1}) (ρ:={iv:=[(x:Int)]}) FE qz FF Tryz.func146 (by constructor<;>rfl) (fun r=>r= .int .u64 (rev x:Nat))
  (args:=[.int .u64 (.var 0)]) Q_ (TX ae0 (fun r _=>r= .int .u64 (rev x:Nat)) (x:Int) (fun _=>LC.none)) ?_
 unfold Nv;have l1:=lB 6148914691236517205 1 x hx;have l2:=lB 3689348814741910323 2 _ l1;have l4:=lB 1085102592571150095 4 _ l2;have l8:=lB 71777214294589695 8 _ l4;have XY:=lB 281470681808895 16 _ l8;rw [Zy hx,Zz l1,ZA l2,ZB l4,WG l8,WH XY,rev_eq x hx]
def lC(p:Nat→Bool):Value:= .agg #[.int .u64 (num p 64:Nat),.int .u64 (num (fun i=>p (64+i)) 64:Nat)]
theorem OW{a b:Nat}(ha:a<2^56)(hb:b<256):ak .bR .u64 (ak .shl .u64 (a:Int) 8) (ae .u64 (b:Int))=((a*256+b:Nat):Int):=by
 have h2:ak .shl .u64 (a:Int) 8=((a*2^8%2^64:Nat):Int):=yp a 8 (by decide);rw [h2,wrap_u64,Nz (afI _ (by decide)) (afI _ (by decide)),afp (show a*2^8<2^64 by omega),afp (show b<2^64 by omega),Nat.mul_comm a,←Nat.two_pow_add_eq_or_of_lt (by omega),Nat.mul_comm]
theorem wd0{b:Nat}(hb:b<256):ak .bR .u64 0 (ae .u64 (b:Int))=((b:Nat):Int):=by
 rw [wrap_u64,afp (show b<2^64 by omega)];have:=Nz (a:=0) (b:=b) (by decide) (by omega);rw [Nat.zero_or]at this;exact this
theorem wd8(f:Nat→Nat)(hf: ∀j,f j<256):
  ak .bR .u64 (ak .shl .u64 (ak .bR .u64 (ak .shl .u64 (ak .bR .u64 (ak .shl .u64 (ak .bR .u64 (ak .shl .u64 (ak .bR .u64 (ak .shl .u64 (ak .bR .u64 (ak .shl .u64 (ak .bR .u64 (ak .shl .u64 (ak .bR .u64 0 (ae .u64 (f 0:Nat))) 8) (ae .u64 (f 1:Nat))) 8) (ae .u64 (f 2:Nat))) 8) (ae .u64 (f 3:Nat))) 8) (ae .u64 (f 4:Nat))) 8) (ae .u64 (f 5:Nat))) 8) (ae .u64 (f 6:Nat))) 8) (ae .u64 (f 7:Nat))=((mM f 8:Nat):Int):=by
 have h0:=hf 0;have h1:=hf 1;have h2:=hf 2;have h3:=hf 3;have h4:=hf 4;have h5:=hf 5;have h6:=hf 6;have h7:=hf 7;rw [wd0 h0,OW (by omega) h1,OW (by omega) h2,OW (by omega) h3,OW (by omega) h4,OW (by omega) h5,OW (by omega) h6,OW (by omega) h7];simp only [mM,Nat.zero_mul,Nat.zero_add]
theorem EN(B:Nat→Nat)(hB: ∀j,B j<256):aw ae0 131 [cb B] [] fun x hs=>x=lC (pb B)∧hs=[]:=by
 have h:=aw.oa (C:=Fh.cx) (bd:={a:=1}) (ρ:={av:=[fun j=>(B j:Nat)]}) FE qz FF Tryz.func131 (by constructor<;>rfl) (fun x=>x=lC (pb B))
  (args:=[.agg [.cE .u8 16 (.aL 0)]]) TY (WE ae0 (fun x _=>x=lC (pb B)) (fun j=>(B j:Nat)) (fun _=>LC.none)) ?_
 ·have hv:SV.vals {av:=[fun j=>(B j:Nat)]} [.agg [.cE .u8 16 (.aL 0)]]=[cb B]:=by
   show [Value.agg (aeU (al .u8 16 fun j=>(B j:Nat)) []).toArray]=_;rw [afq,List.append_nil];rfl
  rw [hv]at h;exact h
 unfold R_;intro _ _ _;have w0:=wd8 (fun j=>B (8*0+j)) fun j=>hB _
 have w1:=wd8 (fun j=>B (8*1+j)) fun j=>hB _
 have l0:mM (fun j=>B (8*0+j)) 8<2^64:=pJ _ (fun j=>hB _) 8;have l1:mM (fun j=>B (8*1+j)) 8<2^64:=pJ _ (fun j=>hB _) 8;simp only [Nat.mul_zero,Nat.mul_one,Nat.zero_add,Nat.reduceAdd]at w0 w1 l0 l1;rw [w0,w1];refine⟨_,qh _ l0,?_⟩;rintro x hs ⟨rfl,rfl⟩;refine⟨_,rfl,rfl,_,qh _ l1,?_⟩;rintro x hs ⟨rfl,rfl⟩;refine⟨_,rfl,rfl,?_⟩;have r0:=QW B hB 0;have r1:rev (mM (fun j=>B (8+j)) 8)=num (fun i=>pb B (64+i)) 64:=by
  have:=BT (fun j=>B (8+j)) (fun j=>hB _) 8;unfold rev;refine fS fun i hi=>?_
  have:=this i (by omega);rw [show 8*8 - 1 - i=63 - i by omega]at this;rw [this];unfold pb;rw [show(64+i)/8=8+i/8 by omega,show(64+i)%8=i%8 by omega]
 simp only [Nat.mul_zero,Nat.zero_add]at r0;rw [r0,r1];rfl
end Go.RX.Fh

namespace Go.RX.Sh
open Go.RX Go.RX.Fk
def oe(M:Nat→Nat):Nat→Nat→Nat
 | 0=>H0
 | q+1=>comp K0 (oe M q) (fun i=>M (64*q+i))
theorem kA(M:Nat→Nat): ∀q j,j<8→oe M q j<2^32
 | 0,j,hj=>WD j hj
 | _+1,j,_=>QH j
def gF(n:Nat):Nat:=64*((n+8)/64+1)
def cC(n:Nat)(M:Nat→Nat)(j:Nat):Nat:=if j<n then M j else if j=n then 128 else if j<gF n - 8 then 0 else cJ (n*8) (j - (gF n - 8))
theorem BW{M:Nat→Nat}(hM: ∀j,M j<256)(n j:Nat):cC n M j<256:=by
 unfold cC;split
 ·exact hM j
 split
 ·decide
 split
 ·decide
 ·exact wK _ _
def eV(n:Nat)(M:Nat→Nat):Nat→Nat:=Sh.bytesOf (oe (cC n M) ((n+8)/64+1))
theorem BX(n:Nat)(M:Nat→Nat)(j:Nat):eV n M j<256:=Nt _ j
theorem GC{n:Nat}{M M':Nat→Nat}(h: ∀j,j<n→M j=M' j):eV n M=eV n M':=by
 have:cC n M=cC n M':=by
  funext j;unfold cC;split
  ·rename_i c;exact h j c
  ·rfl
 unfold eV;rw [this]
def cl(n:Nat)(A B:Nat→Nat)(j:Nat):Nat:=if j<n then A j else B (j - n)
theorem gS{A B:Nat→Nat}(hA: ∀j,A j<256)(hB: ∀j,B j<256)(n j:Nat):cl n A B j<256:=by
 unfold cl;split
 ·exact hA _
 ·exact hB _
theorem jD{n:Nat}{A B:Nat→Nat}{j:Nat}(h:j<n):cl n A B j=A j:=by unfold cl;rw [if_pos h]
theorem bS(n:Nat)(A B:Nat→Nat)(j:Nat):cl n A B (n+j)=B j:=by unfold cl;rw [if_neg (by omega),Nat.add_sub_cancel_left]
def fk(kn:Nat)(K:Nat→Nat)(w j:Nat):Nat:=(if j<kn then K j else 0)^^^w
theorem sY{K:Nat→Nat}(hK: ∀j,K j<256){w:Nat}(hw:w<256)(kn j:Nat):fk kn K w j<256:=by
 unfold fk;refine Ae.aN ?_ hw;split
 ·exact hK _
 ·decide
def vZ(kn:Nat)(K:Nat→Nat)(n:Nat)(M:Nat→Nat):Nat→Nat:=eV 96 (cl 64 (fk kn K 92) (eV (64+n) (cl 64 (fk kn K 54) M)))
theorem Rb(kn:Nat)(K:Nat→Nat)(n:Nat)(M:Nat→Nat)(j:Nat):vZ kn K n M j<256:=BX _ _ j
theorem GD{kn:Nat}{K:Nat→Nat}{n:Nat}{M M':Nat→Nat}(h: ∀j,j<n→M j=M' j):vZ kn K n M=vZ kn K n M':=by
 unfold vZ;rw [GC (n:=64+n) (M:=cl 64 (fk kn K 54) M) (M':=cl 64 (fk kn K 54) M')];intro j hj;unfold cl;split
 ·rfl
 ·exact h _ (by omega)
theorem lb{n:Nat}(h:n<2^60)(s:Nat)(hs:s≤64):ae .u8 (ak .shr .u64 (ak .shl .u64 (n:Int) 3) (s:Int))=((n*8/2^s%256:Nat):Int):=by
 have h1:ak .shl .u64 (n:Int) 3=((n*8:Nat):Int):=by
  have:=Fh.yp n 3 (by decide);rw [show((3:Nat):Int)=3 from rfl]at this;rw [this];congr 1;omega
 rw [h1,gg .u64 _ s hs,wrap_u8,Nat.shiftRight_eq_div_pow]
theorem NB{n:Nat}(h:n<2^60)(j:Nat)(hj:j<8):
  (aq (aq (aq (aq (aq (aq (aq (aq (fun _=>0) 7 (ae .u8 (ak .shr .u64 (ak .shl .u64 (n:Int) 3) 0))) 6 (ae .u8 (ak .shr .u64 (ak .shl .u64 (n:Int) 3) 8))) 5 (ae .u8 (ak .shr .u64 (ak .shl .u64 (n:Int) 3) 16))) 4 (ae .u8 (ak .shr .u64 (ak .shl .u64 (n:Int) 3) 24))) 3 (ae .u8 (ak .shr .u64 (ak .shl .u64 (n:Int) 3) 32))) 2 (ae .u8 (ak .shr .u64 (ak .shl .u64 (n:Int) 3) 40))) 1 (ae .u8 (ak .shr .u64 (ak .shl .u64 (n:Int) 3) 48))) 0 (ae .u8 (ak .shr .u64 (ak .shl .u64 (n:Int) 3) 56))) j=(cJ (n*8) j:Nat):=by
 unfold cJ
 match j,hj with
 | 0,_=>exact lb h 56 (by decide)
 | 1,_=>exact lb h 48 (by decide)
 | 2,_=>exact lb h 40 (by decide)
 | 3,_=>exact lb h 32 (by decide)
 | 4,_=>exact lb h 24 (by decide)
 | 5,_=>exact lb h 16 (by decide)
 | 6,_=>exact lb h 8 (by decide)
 | 7,_=>exact lb h 0 (by decide)
 | j+8,h=>exact absurd h (by omega)
end Go.RX.Sh

namespace Go.Hd
open Go.Gh
def dg(n:Nat):Nat:=
 if n=0 then 0 else if n<256 then 1 else if n<65536 then 2 else if n<16777216 then 3 else if n<4294967296 then 4 else if n<1099511627776 then 5
 else if n<281474976710656 then 6 else if n<72057594037927936 then 7 else 8
theorem IK(n:Nat):dg n≤8:=by
 unfold dg
 repeat (first | omega | split)
theorem Rc(m c:Nat)(hc:c<256)(hm:m<72057594037927936)(h:m*256+c≠0):dg (m*256+c)=dg m+1:=by
 unfold dg;rw [if_neg h];by_cases h0:m=0
 ·rw [if_pos h0,if_pos (by omega)]
 rw [if_neg h0,if_neg (by omega)];by_cases h1:m<256
 ·rw [if_pos h1,if_pos (by omega)]
 rw [if_neg h1,if_neg (by omega)];by_cases h2:m<65536
 ·rw [if_pos h2,if_pos (by omega)]
 rw [if_neg h2,if_neg (by omega)];by_cases h3:m<16777216
 ·rw [if_pos h3,if_pos (by omega)]
 rw [if_neg h3,if_neg (by omega)];by_cases h4:m<4294967296
 ·rw [if_pos h4,if_pos (by omega)]
 rw [if_neg h4,if_neg (by omega)];by_cases h5:m<1099511627776
 ·rw [if_pos h5,if_pos (by omega)]
 rw [if_neg h5,if_neg (by omega)];by_cases h6:m<281474976710656
 ·rw [if_pos h6,if_pos (by omega)]
 rw [if_neg h6,if_neg (by omega),if_pos hm]
theorem BY:dg 0=0:=rfl
theorem GF{n:Nat}(h:n≠0):0<dg n:=by
 unfold dg;rw [if_neg h]
 repeat (first | omega | split)
def be(k n j:Nat):Nat:=n/256^(k - 1 - j)%256
theorem WI(k n j:Nat):be k n j<256:=afI _ (by decide)
theorem IL(k m c j:Nat)(hc:c<256)(hj:j<k+1):be (k+1) (m*256+c) j=if j<k then be k m j else c:=by
 unfold be;split
 ·rename_i h;rw [show k+1 - 1 - j=(k - 1 - j)+1 by omega,Nat.pow_succ,Nat.mul_comm (256^_) 256,←Nat.div_div_eq_div_mul,show(m*256+c)/256=m by omega]
 ·rename_i h;rw [show k+1 - 1 - j=0 by omega,Nat.pow_zero,Nat.div_one];omega
theorem GG(f:Nat→Nat)(hf: ∀j,f j<256): ∀k j,j<k→be k (mM f k) j=f j
 | k+1,j,hj=>by
  rw [mM,IL k (mM f k) (f k) j (hf k) hj];split
  ·rename_i h;exact GG f hf k j h
  ·rw [show j=k by omega]
def hb(n:Nat):Nat:=if n<8 then 0 else dg n
def hU(n:Nat):Nat:=if n<8 then n else 7+dg n
theorem vo(n:Nat):hb n≤8:=by
 unfold hb;split
 ·omega
 ·exact IK n
theorem pM(n:Nat):hU n<16:=by
 unfold hU;have:=IK n;split<;>omega
def bN(aU aS:Nat):Nat:=1+hb aU+hb aS
def dx(aU aS j:Nat):Nat:=if j=0 then hU aU*16+hU aS else if j<1+hb aU then be (hb aU) aU (j - 1)else be (hb aS) aS (j - (1+hb aU))
theorem pN(aU aS j:Nat):dx aU aS j<256:=by
 unfold dx;have h1:=pM aU;have h2:=pM aS;split
 ·omega
 split<;>exact WI _ _ _
theorem EO(aU aS:Nat):bN aU aS≤17:=by
 unfold bN;have:=vo aU;have:=vo aS;omega
def nk(T:Nat→Nat):Nat:=if T 0/16<8 then 0 else T 0/16 - 7
def nc(T:Nat→Nat):Nat:=if T 0%16<8 then 0 else T 0%16 - 7
def bZ(T:Nat→Nat):Nat:=if T 0/16<8 then T 0/16 else mM (fun j=>T (1+j)) (nk T)
def bf(T:Nat→Nat):Nat:=if T 0%16<8 then T 0%16 else mM (fun j=>T (1+nk T+j)) (nc T)
def nE(n:Nat)(T:Nat→Nat):Prop:=1+nk T+nc T≤n∧hb (bZ T)=nk T∧hb (bf T)=nc T
theorem Sa{T:Nat→Nat}(hT:T 0<256):nk T≤8:=by
 unfold nk;split<;>omega
theorem NC(T:Nat→Nat):nc T≤8:=by
 unfold nc;split<;>omega
theorem IM{f:Nat→Nat}(hf: ∀j,f j<256){k:Nat}(hk:k≤8):mM f k<18446744073709551616:=
 ae_ (pJ f hf k) (Nat.le_trans (Nat.pow_le_pow_right (by decide) hk) (by decide))
theorem ND{T:Nat→Nat}(hT: ∀j,T j<256):bZ T<18446744073709551616:=by
 unfold bZ;split
 ·omega
 ·exact IM (fun j=>hT _) (Sa (hT 0))
theorem wZ{T:Nat→Nat}(hT: ∀j,T j<256):bf T<18446744073709551616:=by
 unfold bf;split
 ·omega
 ·exact IM (fun j=>hT _) (NC T)
theorem ey{n:Nat}(h:n<8):hb n=0:=by unfold hb;rw [if_pos h]
theorem Rd{T:Nat→Nat}(h:hb (bZ T)=nk T):hU (bZ T)=T 0/16:=by
 by_cases c:T 0/16<8
 ·unfold bZ;rw [if_pos c];unfold hU;rw [if_pos c]
 ·have hn:nk T=T 0/16 - 7:=by unfold nk;rw [if_neg c]
  have h8: ¬bZ T<8:=fun h8=>by rw [ey h8]at h;omega
  unfold hb at h;rw [if_neg h8]at h;unfold hU;rw [if_neg h8];omega
theorem Re{T:Nat→Nat}(h:hb (bf T)=nc T):hU (bf T)=T 0%16:=by
 by_cases c:T 0%16<8
 ·unfold bf;rw [if_pos c];unfold hU;rw [if_pos c]
 ·have hn:nc T=T 0%16 - 7:=by unfold nc;rw [if_neg c]
  have h8: ¬bf T<8:=fun h8=>by rw [ey h8]at h;omega
  unfold hb at h;rw [if_neg h8]at h;unfold hU;rw [if_neg h8];omega
theorem NF{T:Nat→Nat}(hT: ∀j,T j<256):
  (bN (bZ T) (bf T)=1+nk T+nc T∧∀j,j<bN (bZ T) (bf T)→dx (bZ T) (bf T) j=T j)↔hb (bZ T)=nk T∧hb (bf T)=nc T:=by
 constructor
 ·rintro ⟨hl,yZ⟩;have h0:=yZ 0 (by unfold bN;omega);unfold dx at h0;rw [if_pos rfl]at h0;have n1:=pM (bZ T);have n2:=pM (bf T);have e1:hU (bZ T)=T 0/16:=by omega
  have e2:hU (bf T)=T 0%16:=by omega
  constructor
  ·by_cases c:T 0/16<8
   ·unfold bZ nk;rw [if_pos c,if_pos c];exact ey c
   ·have h8: ¬bZ T<8:=fun h8=>by unfold hU at e1;rw [if_pos h8]at e1;omega
    unfold hU at e1;rw [if_neg h8]at e1;unfold hb nk;rw [if_neg h8,if_neg c];omega
  ·by_cases c:T 0%16<8
   ·unfold bf nc;rw [if_pos c,if_pos c];exact ey c
   ·have h8: ¬bf T<8:=fun h8=>by unfold hU at e2;rw [if_pos h8]at e2;omega
    unfold hU at e2;rw [if_neg h8]at e2;unfold hb nc;rw [if_neg h8,if_neg c];omega
 ·rintro ⟨h1,h2⟩;refine⟨by unfold bN;omega,fun j hj=>?_⟩;unfold bN at hj;unfold dx;by_cases j0:j=0
  ·subst j0;rw [if_pos rfl,Rd h1,Re h2];omega
  rw [if_neg j0,h1];by_cases c:j<1+nk T
  ·rw [if_pos c];have hk: ¬T 0/16<8:=fun h=>by unfold nk at c;rw [if_pos h]at c;omega
   have e:bZ T=mM (fun j=>T (1+j)) (nk T):=by unfold bZ;rw [if_neg hk]
   rw [e,GG _ (fun j=>hT _) _ _ (by omega),show 1+(j - 1)=j by omega]
  ·rw [if_neg c,h2];have hk: ¬T 0%16<8:=fun h=>by
    have:nc T=0:=by unfold nc;rw [if_pos h]
    omega
   have e:bf T=mM (fun j=>T (1+nk T+j)) (nc T):=by unfold bf;rw [if_neg hk]
   rw [e,GG _ (fun j=>hT _) _ _ (by omega),show 1+nk T+(j - (1+nk T))=j by omega]
def aJ(S:Nat→Nat)(aS j:Nat):Nat:=S j^^^(aS/256^(11 - j)%256)
theorem mO{S:Nat→Nat}(hS: ∀j,S j<256)(aS j:Nat):aJ S aS j<256:=Ae.aN (hS j) (afI _ (by decide))
def isS(s:Nat):Prop:=s=1∨s=2∨s=3∨s=4∨s=5
def uD(s:Nat):Nat:=if s=5 then 2 else 1
def gj(s:Nat):Nat:=if s=4 then 16 else if s=5 then 32 else 48
def Dc(s:Nat):Nat:=if s=5 then 32 else 16
def aY(s:Nat):Nat:=if s=1 then 10 else if s=2 then 8 else if s=3 then 4 else 16
def Pv(s:Nat):Nat:=if s=5 then 64 else 32
end Go.Hd
