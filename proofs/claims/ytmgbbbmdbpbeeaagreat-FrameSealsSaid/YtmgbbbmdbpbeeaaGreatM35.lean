/- Sealed texts. -/
import Derived.Test.YtmgbbbmdbpbeeaaGreatM34
open Go.IntKind renaming wrap → ae
open Go.Proofs.Tryz renaming prog → ae0
open Int renaming toNat → ag, toNat_natCast → afe
open List renaming append → aeU, append_eq → afq, getD_cons_succ → aeW, getD_cons_zero → ah
open List.cons renaming injEq → ae8
open Nat renaming mod_lt → afI
namespace Go.RX.Fi
open Go.RX Go.Proofs Go.RX.Fe Go.RX.Fg
noncomputable def cx:Ctx:={T:=TT,FT:=FT,loops:=Fi.loops,cq:=Fi.cq}
set_option maxRecDepth 100000
def EP(ar:PT)(A0:Nat→Int):Prop:=
 ∀_ _ _:Nat,ar (.agg (aeU (al .u8 12 A0) (aeU (al .u8 3 (fun _=>0)) ([.int .u8 1]))).toArray) []
theorem NG(ar:PT)(A0:Nat→Int)(h:EP ar A0):aw ae0 88 [.agg (aeU (al .u8 12 A0) ([])).toArray] [] ar:=
 FJ (C:=Fi.cx) [.agg [.cE .u8 12 (.aL 0)]] [] ⟨0,0,0,1,0,0,0⟩ ⟨[],[A0],[],[],[],[],[],[]⟩ Tryz.func88 (by kernel_rfl) h
def NH(ar:PT)(x0 x1 x2:Int)(A0 A1 A2 A3 A4:Nat→Int)(v0 _ _:V1)(b0:Nat):Prop:=
 ∀_ _:Nat,ao (0≤x1) (
 ao (0≤x1) (
 gV x1 (
 ∀_:V1,bH (16 - (ak .rem .i64 x1 16)) ((
 ao (0≤(ak .rem .i64 (16 - (ak .rem .i64 x1 16)) 16)) (
 ao ((x1+(ak .rem .i64 (16 - (ak .rem .i64 x1 16)) 16))≤140737488355328) (
 ∀(_:V1) (_:Nat) (_:V1) (_:Nat) (_:V1) (_:Nat) (_:V1) (_:Nat) (_:V1) (_:Nat) (_:V1) (_:Nat) (_:V1) (_:Nat) (_:V1) (_:Nat) (_:V1),ao (0≤x2) (
 ao (0≤(x1+(ak .rem .i64 (16 - (ak .rem .i64 x1 16)) 16))) (
 ao (0≤x2) (
 ao (((x1+(ak .rem .i64 (16 - (ak .rem .i64 x1 16)) 16))+x2)≤140737488355328) (
 ∀_:V1,bH (16 - (ak .rem .i64 x2 16)) ((
 ao (0≤((x1+(ak .rem .i64 (16 - (ak .rem .i64 x1 16)) 16))+x2)) (
 ao (0≤(ak .rem .i64 (16 - (ak .rem .i64 x2 16)) 16)) (
 ao ((((x1+(ak .rem .i64 (16 - (ak .rem .i64 x1 16)) 16))+x2)+(ak .rem .i64 (16 - (ak .rem .i64 x2 16)) 16))≤140737488355328) (
 ∀(_:V1) (_:Nat) (_:V1) (_:Nat) (_:V1) (_:Nat) (_:V1) (_:Nat) (_:V1) (_:Nat) (_:V1) (_:Nat) (_:V1) (_:Nat) (_:V1) (_:Nat) (_:V1),Cl 112 [.pointer (some ⟨b0,0,none⟩),.agg (aeU (al .u8 16 (fun _=>0)) ([])).toArray] [ax b0 true (aeU (al .u8 256 A0) ([v0.v])),aE true 177 4 v0.v (ag x0) (aQ (ag x0) [aO .u8 4 A1])] fun x hs l=> ∃A5:(Nat→Int),x= .agg (aeU (al .u8 16 A5) ([])).toArray∧hs=l∧
 ao (0≤(((x1+(ak .rem .i64 (16 - (ak .rem .i64 x1 16)) 16))+x2)+(ak .rem .i64 (16 - (ak .rem .i64 x2 16)) 16))) (
 ao (((((x1+(ak .rem .i64 (16 - (ak .rem .i64 x1 16)) 16))+x2)+(ak .rem .i64 (16 - (ak .rem .i64 x2 16)) 16))+16)≤140737488355328) (
 ∀Fy:V1,Cl 111 [.agg (aeU (al .u8 16 A5) ([])).toArray,Fy.v] [bo Fy ((((x1+(ak .rem .i64 (16 - (ak .rem .i64 x1 16)) 16))+x2)+(ak .rem .i64 (16 - (ak .rem .i64 x2 16)) 16))+16) (aI (aI (aI (aI A3 (ag x1) (ag (ak .rem .i64 (16 - (ak .rem .i64 x1 16)) 16)) (fun _=>0)) (ag (x1+(ak .rem .i64 (16 - (ak .rem .i64 x1 16)) 16))) (ag x2) A4) (ag ((x1+(ak .rem .i64 (16 - (ak .rem .i64 x1 16)) 16))+x2)) (ag (ak .rem .i64 (16 - (ak .rem .i64 x2 16)) 16)) (fun _=>0)) (ag (((x1+(ak .rem .i64 (16 - (ak .rem .i64 x1 16)) 16))+x2)+(ak .rem .i64 (16 - (ak .rem .i64 x2 16)) 16))) 16 (aq (aq (aq (aq (aq (aq (aq (aq (aq (aq (aq (aq (aq (aq (aq (aq (fun _=>0) 0 (ae .u8 (ak .shr .u64 (ak .shl .u64 (ae .u64 x1) 3) 56))) 1 (ae .u8 (ak .shr .u64 (ak .shl .u64 (ae .u64 x1) 3) 48))) 2 (ae .u8 (ak .shr .u64 (ak .shl .u64 (ae .u64 x1) 3) 40))) 3 (ae .u8 (ak .shr .u64 (ak .shl .u64 (ae .u64 x1) 3) 32))) 4 (ae .u8 (ak .shr .u64 (ak .shl .u64 (ae .u64 x1) 3) 24))) 5 (ae .u8 (ak .shr .u64 (ak .shl .u64 (ae .u64 x1) 3) 16))) 6 (ae .u8 (ak .shr .u64 (ak .shl .u64 (ae .u64 x1) 3) 8))) 7 (ae .u8 (ak .shr .u64 (ak .shl .u64 (ae .u64 x1) 3) 0))) 8 (ae .u8 (ak .shr .u64 (ak .shl .u64 (ae .u64 x2) 3) 56))) 9 (ae .u8 (ak .shr .u64 (ak .shl .u64 (ae .u64 x2) 3) 48))) 10 (ae .u8 (ak .shr .u64 (ak .shl .u64 (ae .u64 x2) 3) 40))) 11 (ae .u8 (ak .shr .u64 (ak .shl .u64 (ae .u64 x2) 3) 32))) 12 (ae .u8 (ak .shr .u64 (ak .shl .u64 (ae .u64 x2) 3) 24))) 13 (ae .u8 (ak .shr .u64 (ak .shl .u64 (ae .u64 x2) 3) 16))) 14 (ae .u8 (ak .shr .u64 (ak .shl .u64 (ae .u64 x2) 3) 8))) 15 (ae .u8 (ak .shr .u64 (ak .shl .u64 (ae .u64 x2) 3) 0))))] fun x hs _=> ∃A6:(Nat→Int),x= .agg (aeU (al .u8 16 A6) ([])).toArray∧hs=[]∧
 ∀CH:Nat,(Cl 88 [.agg (aeU (al .u8 12 A2) ([])).toArray] [] fun x hs _=> ∃A7:(Nat→Int),x= .agg (aeU (al .u8 16 A7) ([])).toArray∧hs=[]∧
 ∀yX:Nat,Cl 62 [.pointer (some ⟨b0,0,none⟩),.agg (aeU (al .u8 16 A7) ([])).toArray,.slice (some ⟨yX,0,none⟩) 1 1] [ax b0 true (aeU (al .u8 256 A0) ([v0.v])),aE true 177 4 v0.v (ag x0) (aQ (ag x0) [aO .u8 4 A1]),ax yX true ([.slice (some ⟨CH,0,none⟩) 16 16]),ax CH true (aeU (al .u8 16 A6) ([]))] fun x hs l=> ∃(FN:V1) (A8:Nat→Int),x= .tuple #[FN.v,.int .i64 0]∧hs=l++[bn true FN 16 A8]∧
 ar (FN.v) [ax b0 true (aeU (al .u8 256 A0) ([v0.v])),aE true 177 4 v0.v (ag x0) (aQ (ag x0) [aO .u8 4 A1]),bn true FN 16 A8])∧
 (∀yX:Nat,Cl 88 [.agg (aeU (al .u8 12 A2) ([])).toArray] [] fun x hs _=> ∃A7:(Nat→Int),x= .agg (aeU (al .u8 16 A7) ([])).toArray∧hs=[]∧
 Cl 62 [.pointer (some ⟨b0,0,none⟩),.agg (aeU (al .u8 16 A7) ([])).toArray,.slice (some ⟨yX,0,none⟩) 1 1] [ax b0 true (aeU (al .u8 256 A0) ([v0.v])),aE true 177 4 v0.v (ag x0) (aQ (ag x0) [aO .u8 4 A1]),ax yX true ([.slice (some ⟨CH,0,none⟩) 16 16]),ax CH true (aeU (al .u8 16 A6) ([]))] fun x hs l=> ∃(FN:V1) (A8:Nat→Int),x= .tuple #[FN.v,.int .i64 0]∧hs=l++[bn true FN 16 A8]∧
 ar (FN.v) [ax b0 true (aeU (al .u8 256 A0) ([v0.v])),aE true 177 4 v0.v (ag x0) (aQ (ag x0) [aO .u8 4 A1]),bn true FN 16 A8])))))))))))))))))))
theorem TZ(ar:PT)(x0 x1 x2:Int)(A0 A1 A2 A3 A4:Nat→Int)(v0 v1 v2:V1)(b0:Nat)(h:NH ar x0 x1 x2 A0 A1 A2 A3 A4 v0 v1 v2 b0):aw ae0 89 [.pointer (some ⟨b0,0,none⟩),.agg (aeU (al .u8 12 A2) ([])).toArray,v1.v,v2.v] [ax b0 true (aeU (al .u8 256 A0) ([v0.v])),aE true 177 4 v0.v (ag x0) (aQ (ag x0) [aO .u8 4 A1]),bi v1 x1 A3,bi v2 x2 A4] ar:=
 mK (C:=Fi.cx) [.ptr 0 0,.agg [.cE .u8 12 (.aL 2)],.vv 1,.vv 2] [.row 0 true [.cE .u8 256 (.aL 0),.vv 0],.bC true 0 177 4 (.var 0) [⟨.int .u8,4,.aL 1⟩],.bC false 1 5 1 (.var 1) [⟨.int .u8,1,.aL 3⟩],.bC false 2 5 1 (.var 2) [⟨.int .u8,1,.aL 4⟩]] ⟨1,3,3,5,0,0,0⟩ ⟨[x0,x1,x2],[A0,A1,A2,A3,A4],[],[b0],[v0,v1,v2],[],[],[]⟩ 2 1 Tryz.func89 (by kernel_rfl) h
def wk(ar:PT)(x0 x1:Int)(A0 A1:Nat→Int)(_ _:V1):Prop:=
 ao (0≤x0) (
 ao (0≤x1) (
 aR (¬(x0=x1)) (
 ar (.bool false) []) (
 ∃(mN:Ext→Prop) (qs:Ext→Nat),(∃x2 x3:Int,x2=0∧x3=0∧mN ⟨[],[],[x2,x3],[],[],[],[]⟩)∧
 ∀x2 x3:Int,mN ⟨[],[],[x2,x3],[],[],[],[]⟩→
 aR (x2<x0) (
 ao (0≤x2) (
 ao (x2<x1) (
 bH (x2+1) ((
 ∃cf dt:Int,cf=(x2+1)∧dt=(ak .bR .u8 x3 (ak .ay .u8 (A0 (ag x2)) (A1 (ag x2))))∧mN ⟨[],[],[cf,dt],[],[],[],[]⟩∧qs ⟨[],[],[cf,dt],[],[],[],[]⟩<qs ⟨[],[],[x2,x3],[],[],[],[]⟩))))) (
 ar (.bool (x3==0)) []))))
theorem HD(ar:PT)(x0 x1:Int)(A0 A1:Nat→Int)(v0 v1:V1)(h:wk ar x0 x1 A0 A1 v0 v1):aw ae0 68 [v0.v,v1.v] [bi v0 x0 A0,bi v1 x1 A1] ar:=
 FJ (C:=Fi.cx) [.vv 0,.vv 1] [.bC false 0 5 1 (.var 0) [⟨.int .u8,1,.aL 0⟩],.bC false 1 5 1 (.var 1) [⟨.int .u8,1,.aL 1⟩]] ⟨0,2,2,2,0,0,0⟩ ⟨[x0,x1],[A0,A1],[],[],[v0,v1],[],[],[]⟩ Tryz.func68 (by kernel_rfl) h
def AH(ar:PT)(x0 x1:Int)(A0 A1 A2 A3:Nat→Int)(v0 v1 v2:V1):Prop:=
 ∀_:Nat,Cl 60 [v0.v] [bn false v0 16 A0] fun x hs l=> ∃(b1:Nat) (v3:V1) (A4 A5:Nat→Int),x= .tuple #[.pointer (some ⟨b1,0,none⟩),.int .i64 0]∧hs=l++[ax b1 true (aeU (al .u8 256 A4) ([v3.v])),aE true 177 4 v3.v 44 (aQ 44 [aO .u8 4 A5])]∧
 Cl 88 [.agg (aeU (al .u8 12 A1) ([])).toArray] [] fun x hs _=> ∃A6:(Nat→Int),x= .agg (aeU (al .u8 16 A6) ([])).toArray∧hs=[]∧
 Cl 87 [.agg (aeU (al .u8 16 A6) ([])).toArray] [] fun x hs _=> ∃A7:(Nat→Int),x= .agg (aeU (al .u8 16 A7) ([])).toArray∧hs=[]∧
 ∀b2:Nat,Cl 62 [.pointer (some ⟨b1,0,none⟩),.agg (aeU (al .u8 16 A7) ([])).toArray,.slice (some ⟨b2,0,none⟩) 1 1] [ax b1 true (aeU (al .u8 256 A4) ([v3.v])),aE true 177 4 v3.v 44 (aQ 44 [aO .u8 4 A5]),ax b2 true ([v2.v]),bi v2 x1 A3] fun x hs l=> ∃(v4:V1) (A8:Nat→Int),x= .tuple #[v4.v,.int .i64 0]∧hs=l++[bo v4 x1 A8]∧
 Cl 89 [.pointer (some ⟨b1,0,none⟩),.agg (aeU (al .u8 12 A1) ([])).toArray,v1.v,v4.v] [ax b1 true (aeU (al .u8 256 A4) ([v3.v])),aE true 177 4 v3.v 44 (aQ 44 [aO .u8 4 A5]),bi v1 x0 A2,bo v4 x1 A8] fun x hs l=> ∃(v5:V1) (A9:Nat→Int),x=v5.v∧hs=l++[bn true v5 16 A9]∧
 ao (0≤x1) (
 gV (x1+16) (
 ∀v6:V1,ar (.tuple #[v6.v,.int .i64 0]) [bo v6 (x1+16) (aI A8 (ag x1) 16 A9),bn true v5 16 A9]))
theorem Ku(ar:PT)(x0 x1:Int)(A0 A1 A2 A3:Nat→Int)(v0 v1 v2:V1)(h:AH ar x0 x1 A0 A1 A2 A3 v0 v1 v2):aw ae0 56 [v0.v,.agg (aeU (al .u8 12 A1) ([])).toArray,v1.v,v2.v] [bn false v0 16 A0,bi v1 x0 A2,bi v2 x1 A3] ar:=
 mK (C:=Fi.cx) [.vv 0,.agg [.cE .u8 12 (.aL 1)],.vv 1,.vv 2] [.bC false 0 5 1 (.lit 16) [⟨.int .u8,1,.aL 0⟩],.bC false 1 5 1 (.var 0) [⟨.int .u8,1,.aL 2⟩],.bC false 2 5 1 (.var 1) [⟨.int .u8,1,.aL 3⟩]] ⟨0,3,2,4,0,0,0⟩ ⟨[x0,x1],[A0,A1,A2,A3],[],[],[v0,v1,v2],[],[],[]⟩ 0 2 Tryz.func56 (by kernel_rfl) h
def AI(ar:PT)(x0 x1:Int)(A0 A1 A2 A3:Nat→Int)(v0 v1 v2:V1):Prop:=
 ∀_:Nat,Cl 60 [v0.v] [bn false v0 32 A0] fun x hs l=> ∃(b1:Nat) (v3:V1) (A4 A5:Nat→Int),x= .tuple #[.pointer (some ⟨b1,0,none⟩),.int .i64 0]∧hs=l++[ax b1 true (aeU (al .u8 256 A4) ([v3.v])),aE true 177 4 v3.v 60 (aQ 60 [aO .u8 4 A5])]∧
 Cl 88 [.agg (aeU (al .u8 12 A1) ([])).toArray] [] fun x hs _=> ∃A6:(Nat→Int),x= .agg (aeU (al .u8 16 A6) ([])).toArray∧hs=[]∧
 Cl 87 [.agg (aeU (al .u8 16 A6) ([])).toArray] [] fun x hs _=> ∃A7:(Nat→Int),x= .agg (aeU (al .u8 16 A7) ([])).toArray∧hs=[]∧
 ∀b2:Nat,Cl 62 [.pointer (some ⟨b1,0,none⟩),.agg (aeU (al .u8 16 A7) ([])).toArray,.slice (some ⟨b2,0,none⟩) 1 1] [ax b1 true (aeU (al .u8 256 A4) ([v3.v])),aE true 177 4 v3.v 60 (aQ 60 [aO .u8 4 A5]),ax b2 true ([v2.v]),bi v2 x1 A3] fun x hs l=> ∃(v4:V1) (A8:Nat→Int),x= .tuple #[v4.v,.int .i64 0]∧hs=l++[bo v4 x1 A8]∧
 Cl 89 [.pointer (some ⟨b1,0,none⟩),.agg (aeU (al .u8 12 A1) ([])).toArray,v1.v,v4.v] [ax b1 true (aeU (al .u8 256 A4) ([v3.v])),aE true 177 4 v3.v 60 (aQ 60 [aO .u8 4 A5]),bi v1 x0 A2,bo v4 x1 A8] fun x hs l=> ∃(v5:V1) (A9:Nat→Int),x=v5.v∧hs=l++[bn true v5 16 A9]∧
 ao (0≤x1) (
 gV (x1+16) (
 ∀v6:V1,ar (.tuple #[v6.v,.int .i64 0]) [bo v6 (x1+16) (aI A8 (ag x1) 16 A9),bn true v5 16 A9]))
theorem Kv(ar:PT)(x0 x1:Int)(A0 A1 A2 A3:Nat→Int)(v0 v1 v2:V1)(h:AI ar x0 x1 A0 A1 A2 A3 v0 v1 v2):aw ae0 56 [v0.v,.agg (aeU (al .u8 12 A1) ([])).toArray,v1.v,v2.v] [bn false v0 32 A0,bi v1 x0 A2,bi v2 x1 A3] ar:=
 mK (C:=Fi.cx) [.vv 0,.agg [.cE .u8 12 (.aL 1)],.vv 1,.vv 2] [.bC false 0 5 1 (.lit 32) [⟨.int .u8,1,.aL 0⟩],.bC false 1 5 1 (.var 0) [⟨.int .u8,1,.aL 2⟩],.bC false 2 5 1 (.var 1) [⟨.int .u8,1,.aL 3⟩]] ⟨0,3,2,4,0,0,0⟩ ⟨[x0,x1],[A0,A1,A2,A3],[],[],[v0,v1,v2],[],[],[]⟩ 0 2 Tryz.func56 (by kernel_rfl) h
def AJ(ar:PT)(x0 x1:Int)(A0 A1 A2 A3:Nat→Int)(v0 v1 v2:V1):Prop:=
 ∀_:Nat,Cl 60 [v0.v] [bn false v0 16 A0] fun x hs l=> ∃(b1:Nat) (v3:V1) (A4 A5:Nat→Int),x= .tuple #[.pointer (some ⟨b1,0,none⟩),.int .i64 0]∧hs=l++[ax b1 true (aeU (al .u8 256 A4) ([v3.v])),aE true 177 4 v3.v 44 (aQ 44 [aO .u8 4 A5])]∧
 ao (0≤x1) (
 bH (x1 - 16) ((
 ao (((x1 - 16)<0)∨(0≤(x1 - 16))) (
 ao (((x1 - 16)<0)∨((x1 - 16)≤x1)) (
 ao (((x1 - 16)<0)∨(0≤(x1 - 16))) (
 ao (((x1 - 16)<0)∨((x1 - 16)≤x1)) (
 aR (¬((x1 - 16)<0)) (
 Cl 89 [.pointer (some ⟨b1,0,none⟩),.agg (aeU (al .u8 12 A1) ([])).toArray,v1.v,(aD 1 v2.v 0 (ag (x1 - 16)) none)] [ax b1 true (aeU (al .u8 256 A4) ([v3.v])),aE true 177 4 v3.v 44 (aQ 44 [aO .u8 4 A5]),bi v1 x0 A2,bi v2 x1 A3] fun x hs l=> ∃(v4:V1) (A6:Nat→Int),x=v4.v∧hs=l++[bn true v4 16 A6]∧
 Cl 68 [v4.v,(if(!(decide ((x1 - 16)<0)))then(aD 1 v2.v (ag (x1 - 16)) (ag x1) none)else undef)] [bn true v4 16 A6,bi v2 x1 A3] fun x hs l=> ∃q0:Bool,x= .bool q0∧hs=l∧
 aR (¬(q0=true)) (
 ar (.tuple #[.slice none 0 0,.int .i64 140]) [bn true v4 16 A6]) (
 ao (0≤(x1 - 16)) (
 ao ((x1 - 16)≤x1) (
 (Cl 88 [.agg (aeU (al .u8 12 A1) ([])).toArray] [] fun x hs _=> ∃A7:(Nat→Int),x= .agg (aeU (al .u8 16 A7) ([])).toArray∧hs=[]∧
 (Cl 87 [.agg (aeU (al .u8 16 A7) ([])).toArray] [] fun x hs _=> ∃A8:(Nat→Int),x= .agg (aeU (al .u8 16 A8) ([])).toArray∧hs=[]∧
 ∀b2:Nat,Cl 62 [.pointer (some ⟨b1,0,none⟩),.agg (aeU (al .u8 16 A8) ([])).toArray,.slice (some ⟨b2,0,none⟩) 1 1] [ax b1 true (aeU (al .u8 256 A4) ([v3.v])),aE true 177 4 v3.v 44 (aQ 44 [aO .u8 4 A5]),ax b2 true ([(aD 1 v2.v 0 (ag (x1 - 16)) none)]),bi v2 x1 A3] fun x hs l=> ∃(v5:V1) (A9:Nat→Int),x= .tuple #[v5.v,.int .i64 0]∧hs=l++[bo v5 (x1 - 16) A9]∧
 ar (.tuple #[v5.v,.int .i64 0]) [bo v5 (x1 - 16) A9])∧
 (∀b2:Nat,Cl 87 [.agg (aeU (al .u8 16 A7) ([])).toArray] [] fun x hs _=> ∃A8:(Nat→Int),x= .agg (aeU (al .u8 16 A8) ([])).toArray∧hs=[]∧
 Cl 62 [.pointer (some ⟨b1,0,none⟩),.agg (aeU (al .u8 16 A8) ([])).toArray,.slice (some ⟨b2,0,none⟩) 1 1] [ax b1 true (aeU (al .u8 256 A4) ([v3.v])),aE true 177 4 v3.v 44 (aQ 44 [aO .u8 4 A5]),ax b2 true ([(aD 1 v2.v 0 (ag (x1 - 16)) none)]),bi v2 x1 A3] fun x hs l=> ∃(v5:V1) (A9:Nat→Int),x= .tuple #[v5.v,.int .i64 0]∧hs=l++[bo v5 (x1 - 16) A9]∧
 ar (.tuple #[v5.v,.int .i64 0]) [bo v5 (x1 - 16) A9]))∧
 (∀b2:Nat,Cl 88 [.agg (aeU (al .u8 12 A1) ([])).toArray] [] fun x hs _=> ∃A7:(Nat→Int),x= .agg (aeU (al .u8 16 A7) ([])).toArray∧hs=[]∧
 Cl 87 [.agg (aeU (al .u8 16 A7) ([])).toArray] [] fun x hs _=> ∃A8:(Nat→Int),x= .agg (aeU (al .u8 16 A8) ([])).toArray∧hs=[]∧
 Cl 62 [.pointer (some ⟨b1,0,none⟩),.agg (aeU (al .u8 16 A8) ([])).toArray,.slice (some ⟨b2,0,none⟩) 1 1] [ax b1 true (aeU (al .u8 256 A4) ([v3.v])),aE true 177 4 v3.v 44 (aQ 44 [aO .u8 4 A5]),ax b2 true ([(aD 1 v2.v 0 (ag (x1 - 16)) none)]),bi v2 x1 A3] fun x hs l=> ∃(v5:V1) (A9:Nat→Int),x= .tuple #[v5.v,.int .i64 0]∧hs=l++[bo v5 (x1 - 16) A9]∧
 ar (.tuple #[v5.v,.int .i64 0]) [bo v5 (x1 - 16) A9]))))) (
 ar (.tuple #[.slice none 0 0,.int .i64 140]) [aE true 177 4 v3.v 44 (aQ 44 [aO .u8 4 A5])]))))))))
theorem Kw(ar:PT)(x0 x1:Int)(A0 A1 A2 A3:Nat→Int)(v0 v1 v2:V1)(h:AJ ar x0 x1 A0 A1 A2 A3 v0 v1 v2):aw ae0 59 [v0.v,.agg (aeU (al .u8 12 A1) ([])).toArray,v1.v,v2.v] [bn false v0 16 A0,bi v1 x0 A2,bi v2 x1 A3] ar:=
 mK (C:=Fi.cx) [.vv 0,.agg [.cE .u8 12 (.aL 1)],.vv 1,.vv 2] [.bC false 0 5 1 (.lit 16) [⟨.int .u8,1,.aL 0⟩],.bC false 1 5 1 (.var 0) [⟨.int .u8,1,.aL 2⟩],.bC false 2 5 1 (.var 1) [⟨.int .u8,1,.aL 3⟩]] ⟨0,3,2,4,0,0,0⟩ ⟨[x0,x1],[A0,A1,A2,A3],[],[],[v0,v1,v2],[],[],[]⟩ 0 1 Tryz.func59 (by kernel_rfl) h
def AK(ar:PT)(x0 x1:Int)(A0 A1 A2 A3:Nat→Int)(v0 v1 v2:V1):Prop:=
 ∀_:Nat,Cl 60 [v0.v] [bn false v0 32 A0] fun x hs l=> ∃(b1:Nat) (v3:V1) (A4 A5:Nat→Int),x= .tuple #[.pointer (some ⟨b1,0,none⟩),.int .i64 0]∧hs=l++[ax b1 true (aeU (al .u8 256 A4) ([v3.v])),aE true 177 4 v3.v 60 (aQ 60 [aO .u8 4 A5])]∧
 ao (0≤x1) (
 bH (x1 - 16) ((
 ao (((x1 - 16)<0)∨(0≤(x1 - 16))) (
 ao (((x1 - 16)<0)∨((x1 - 16)≤x1)) (
 ao (((x1 - 16)<0)∨(0≤(x1 - 16))) (
 ao (((x1 - 16)<0)∨((x1 - 16)≤x1)) (
 aR (¬((x1 - 16)<0)) (
 Cl 89 [.pointer (some ⟨b1,0,none⟩),.agg (aeU (al .u8 12 A1) ([])).toArray,v1.v,(aD 1 v2.v 0 (ag (x1 - 16)) none)] [ax b1 true (aeU (al .u8 256 A4) ([v3.v])),aE true 177 4 v3.v 60 (aQ 60 [aO .u8 4 A5]),bi v1 x0 A2,bi v2 x1 A3] fun x hs l=> ∃(v4:V1) (A6:Nat→Int),x=v4.v∧hs=l++[bn true v4 16 A6]∧
 Cl 68 [v4.v,(if(!(decide ((x1 - 16)<0)))then(aD 1 v2.v (ag (x1 - 16)) (ag x1) none)else undef)] [bn true v4 16 A6,bi v2 x1 A3] fun x hs l=> ∃q0:Bool,x= .bool q0∧hs=l∧
 aR (¬(q0=true)) (
 ar (.tuple #[.slice none 0 0,.int .i64 140]) [bn true v4 16 A6]) (
 ao (0≤(x1 - 16)) (
 ao ((x1 - 16)≤x1) (
 (Cl 88 [.agg (aeU (al .u8 12 A1) ([])).toArray] [] fun x hs _=> ∃A7:(Nat→Int),x= .agg (aeU (al .u8 16 A7) ([])).toArray∧hs=[]∧
 (Cl 87 [.agg (aeU (al .u8 16 A7) ([])).toArray] [] fun x hs _=> ∃A8:(Nat→Int),x= .agg (aeU (al .u8 16 A8) ([])).toArray∧hs=[]∧
 ∀b2:Nat,Cl 62 [.pointer (some ⟨b1,0,none⟩),.agg (aeU (al .u8 16 A8) ([])).toArray,.slice (some ⟨b2,0,none⟩) 1 1] [ax b1 true (aeU (al .u8 256 A4) ([v3.v])),aE true 177 4 v3.v 60 (aQ 60 [aO .u8 4 A5]),ax b2 true ([(aD 1 v2.v 0 (ag (x1 - 16)) none)]),bi v2 x1 A3] fun x hs l=> ∃(v5:V1) (A9:Nat→Int),x= .tuple #[v5.v,.int .i64 0]∧hs=l++[bo v5 (x1 - 16) A9]∧
 ar (.tuple #[v5.v,.int .i64 0]) [bo v5 (x1 - 16) A9])∧
 (∀b2:Nat,Cl 87 [.agg (aeU (al .u8 16 A7) ([])).toArray] [] fun x hs _=> ∃A8:(Nat→Int),x= .agg (aeU (al .u8 16 A8) ([])).toArray∧hs=[]∧
 Cl 62 [.pointer (some ⟨b1,0,none⟩),.agg (aeU (al .u8 16 A8) ([])).toArray,.slice (some ⟨b2,0,none⟩) 1 1] [ax b1 true (aeU (al .u8 256 A4) ([v3.v])),aE true 177 4 v3.v 60 (aQ 60 [aO .u8 4 A5]),ax b2 true ([(aD 1 v2.v 0 (ag (x1 - 16)) none)]),bi v2 x1 A3] fun x hs l=> ∃(v5:V1) (A9:Nat→Int),x= .tuple #[v5.v,.int .i64 0]∧hs=l++[bo v5 (x1 - 16) A9]∧
 ar (.tuple #[v5.v,.int .i64 0]) [bo v5 (x1 - 16) A9]))∧
 (∀b2:Nat,Cl 88 [.agg (aeU (al .u8 12 A1) ([])).toArray] [] fun x hs _=> ∃A7:(Nat→Int),x= .agg (aeU (al .u8 16 A7) ([])).toArray∧hs=[]∧
 Cl 87 [.agg (aeU (al .u8 16 A7) ([])).toArray] [] fun x hs _=> ∃A8:(Nat→Int),x= .agg (aeU (al .u8 16 A8) ([])).toArray∧hs=[]∧
 Cl 62 [.pointer (some ⟨b1,0,none⟩),.agg (aeU (al .u8 16 A8) ([])).toArray,.slice (some ⟨b2,0,none⟩) 1 1] [ax b1 true (aeU (al .u8 256 A4) ([v3.v])),aE true 177 4 v3.v 60 (aQ 60 [aO .u8 4 A5]),ax b2 true ([(aD 1 v2.v 0 (ag (x1 - 16)) none)]),bi v2 x1 A3] fun x hs l=> ∃(v5:V1) (A9:Nat→Int),x= .tuple #[v5.v,.int .i64 0]∧hs=l++[bo v5 (x1 - 16) A9]∧
 ar (.tuple #[v5.v,.int .i64 0]) [bo v5 (x1 - 16) A9]))))) (
 ar (.tuple #[.slice none 0 0,.int .i64 140]) [aE true 177 4 v3.v 60 (aQ 60 [aO .u8 4 A5])]))))))))
theorem Kx(ar:PT)(x0 x1:Int)(A0 A1 A2 A3:Nat→Int)(v0 v1 v2:V1)(h:AK ar x0 x1 A0 A1 A2 A3 v0 v1 v2):aw ae0 59 [v0.v,.agg (aeU (al .u8 12 A1) ([])).toArray,v1.v,v2.v] [bn false v0 32 A0,bi v1 x0 A2,bi v2 x1 A3] ar:=
 mK (C:=Fi.cx) [.vv 0,.agg [.cE .u8 12 (.aL 1)],.vv 1,.vv 2] [.bC false 0 5 1 (.lit 32) [⟨.int .u8,1,.aL 0⟩],.bC false 1 5 1 (.var 0) [⟨.int .u8,1,.aL 2⟩],.bC false 2 5 1 (.var 1) [⟨.int .u8,1,.aL 3⟩]] ⟨0,3,2,4,0,0,0⟩ ⟨[x0,x1],[A0,A1,A2,A3],[],[],[v0,v1,v2],[],[],[]⟩ 0 1 Tryz.func59 (by kernel_rfl) h
end Go.RX.Fi

namespace Go.RX.Fh
open Go Go.RX Go.Proofs Go.Ae Go.RX.Sh Go.RX.Fe Go.RX.Fg Go.Gh
theorem Sb(x s:Nat)(hs:s≤64):ae .u8 (ak .shr .u64 (x:Int) (s:Int))=((x >>> s%256:Nat):Int):=by
 rw [gg .u64 x s hs,wrap_u8]
theorem j7(p:Nat→Bool)(j:Nat)(hj:j<8)(s:Int)(hs:((56 - 8*j:Nat):Int)=s):ae .u8 (ak .shr .u64 ((rev (num p 64):Nat):Int) s)=((bp p j:Nat):Int):=by
 subst hs;rw [Sb _ _ (by omega)];have:=EF p 0 j hj;simp only [Nat.mul_zero,Nat.zero_add]at this;rw [this]
theorem iP(p:Nat→Bool)(j:Nat)(hj:j<8)(s:Int)(hs:((56 - 8*j:Nat):Int)=s):ae .u8 (ak .shr .u64 ((rev (num (fun i=>p (64+i)) 64):Nat):Int) s)=((bp p (8+j):Nat):Int):=by
 subst hs;rw [Sb _ _ (by omega)];have:=EF p 8 j hj;rw [show(fun i=>p (8*8+i))=fun i=>p (64+i)from rfl]at this;rw [this]
theorem Ky(p:Nat→Bool):Value.agg #[.int .u8 (ae .u8 (ak .shr .u64 ((rev (num p 64):Nat):Int) 56)),.int .u8 (ae .u8 (ak .shr .u64 ((rev (num p 64):Nat):Int) 48)),.int .u8 (ae .u8 (ak .shr .u64 ((rev (num p 64):Nat):Int) 40)),.int .u8 (ae .u8 (ak .shr .u64 ((rev (num p 64):Nat):Int) 32)),.int .u8 (ae .u8 (ak .shr .u64 ((rev (num p 64):Nat):Int) 24)),.int .u8 (ae .u8 (ak .shr .u64 ((rev (num p 64):Nat):Int) 16)),.int .u8 (ae .u8 (ak .shr .u64 ((rev (num p 64):Nat):Int) 8)),.int .u8 (ae .u8 (ak .shr .u64 ((rev (num p 64):Nat):Int) 0)),.int .u8 (ae .u8 (ak .shr .u64 ((rev (num (fun i=>p (64+i)) 64):Nat):Int) 56)),.int .u8 (ae .u8 (ak .shr .u64 ((rev (num (fun i=>p (64+i)) 64):Nat):Int) 48)),.int .u8 (ae .u8 (ak .shr .u64 ((rev (num (fun i=>p (64+i)) 64):Nat):Int) 40)),.int .u8 (ae .u8 (ak .shr .u64 ((rev (num (fun i=>p (64+i)) 64):Nat):Int) 32)),.int .u8 (ae .u8 (ak .shr .u64 ((rev (num (fun i=>p (64+i)) 64):Nat):Int) 24)),.int .u8 (ae .u8 (ak .shr .u64 ((rev (num (fun i=>p (64+i)) 64):Nat):Int) 16)),.int .u8 (ae .u8 (ak .shr .u64 ((rev (num (fun i=>p (64+i)) 64):Nat):Int) 8)),.int .u8 (ae .u8 (ak .shr .u64 ((rev (num (fun i=>p (64+i)) 64):Nat):Int) 0))]=cb (bp p):=by
 rw [j7 p 0 (by decide) 56 rfl,j7 p 1 (by decide) 48 rfl,j7 p 2 (by decide) 40 rfl,j7 p 3 (by decide) 32 rfl,j7 p 4 (by decide) 24 rfl,j7 p 5 (by decide) 16 rfl,j7 p 6 (by decide) 8 rfl,j7 p 7 (by decide) 0 rfl,
  iP p 0 (by decide) 56 rfl,iP p 1 (by decide) 48 rfl,iP p 2 (by decide) 40 rfl,iP p 3 (by decide) 32 rfl,iP p 4 (by decide) 24 rfl,iP p 5 (by decide) 16 rfl,iP p 6 (by decide) 8 rfl,iP p 7 (by decide) 0 rfl]
 unfold cb;generalize bp p=f;rfl
theorem pO(p:Nat→Bool):aw ae0 134 [lC p] [] fun x hs=>x=cb (bp p)∧hs=[]:=by
 have h:=aw.oa (C:=Fh.cx) (bd:={i:=2}) (ρ:={iv:=[(num p 64:Nat),(num (fun i=>p (64+i)) 64:Nat)]}) FE qz FF Tryz.func134 (by constructor<;>rfl) (fun x=>x=cb (bp p))
  (args:=[MS 0]) Kt (Nx ae0 (fun x _=>x=cb (bp p)) (num p 64:Nat) (num (fun i=>p (64+i)) 64:Nat) (fun _=>LC.none)) ?_
 ·exact h
 unfold oW;have h0:=qh _ (kz p 64);have h1:=qh _ (kz (fun i=>p (64+i)) 64);have hf:=Ky p;intro _ _;refine⟨⟨_,h0,?_⟩,fun _=>⟨_,h0,?_⟩⟩
 ·rintro x hs ⟨rfl,rfl⟩;refine⟨_,rfl,rfl,⟨_,h1,?_⟩,fun _=>⟨_,h1,?_⟩⟩
  ·rintro x hs ⟨rfl,rfl⟩;exact⟨_,rfl,rfl,fun _ _=>hf⟩
  ·rintro x hs ⟨rfl,rfl⟩;exact⟨_,rfl,rfl,fun _=>hf⟩
 ·rintro x hs ⟨rfl,rfl⟩;refine⟨_,rfl,rfl,_,h1,?_⟩;rintro x hs ⟨rfl,rfl⟩;exact⟨_,rfl,rfl,fun _=>hf⟩
open Go Go.RX Go.Proofs Go.Ae Go.RX.Sh Go.RX.Fe Go.RX.Fg Go.Gh
theorem T7(n:Nat):(n:Int)*(135:Int)=((n*135:Nat):Int):=by omega
theorem WJ(f:Nat→Bool):ak .ay .u64 (ak .shl .u64 ((num f 64:Nat):Int) 1) (ae .u64 ((ak .shr .u64 ((num (fun i=>f (64+i)) 64:Nat):Int) 63)*135))=((num (xt f) 64:Nat):Int):=by
 have h1:ak .shl .u64 ((num f 64:Nat):Int) 1=((num f 64*2^1%2^64:Nat):Int):=yp _ 1 (by decide);have h2:ak .shr .u64 ((num (fun i=>f (64+i)) 64:Nat):Int) 63=((num (fun i=>f (64+i)) 64 >>> 63:Nat):Int):=gg .u64 _ 63 (by decide);rw [h1,h2,T7,wrap_u64,HJ (afI _ (by decide)) (afI _ (by decide)),TV]
theorem T8(f:Nat→Bool):ak .bR .u64 (ak .shl .u64 ((num (fun i=>f (64+i)) 64:Nat):Int) 1) (ak .shr .u64 ((num f 64:Nat):Int) 63)=((num (fun i=>xt f (64+i)) 64:Nat):Int):=by
 have h1:ak .shl .u64 ((num (fun i=>f (64+i)) 64:Nat):Int) 1=((num (fun i=>f (64+i)) 64*2^1%2^64:Nat):Int):=yp _ 1 (by decide);have h2:ak .shr .u64 ((num f 64:Nat):Int) 63=((num f 64 >>> 63:Nat):Int):=gg .u64 _ 63 (by decide);rw [h1,h2,Nz (afI _ (by decide)) (BV (kz _ _)),QX]
theorem WK(x s:Nat)(hx:x<2^64)(hs:s≤64):ak .aP .u64 (ak .shr .u64 (x:Int) (s:Int)) 1=1↔x.testBit s=true:=by
 have h2:ak .aP .u64 ((x >>> s:Nat):Int) 1=((x >>> s &&& 1:Nat):Int):=HK (BV hx) (by decide);rw [gg .u64 x s hs,h2,←QY];constructor
 ·intro h;exact Int.ofNat.inj h
 ·intro h;rw [h];rfl
theorem GH{p q:Nat→Bool}(h: ∀i,i<128→p i=q i):lC p=lC q:=by
 unfold lC;rw [fS (n:=64) fun i hi=>h i (by omega),fS (p:=fun i=>p (64+i)) (q:=fun i=>q (64+i)) (n:=64) fun i hi=>h (64+i) (by omega)]
theorem dZ(p q:Nat→Bool):aw ae0 133 [lC p,lC q] [] fun x hs=>x=lC (gm p q)∧hs=[]:=by
 have h:=aw.oa (C:=Fh.cx) (bd:={i:=4}) (ρ:={iv:=[(num p 64:Nat),(num (fun i=>p (64+i)) 64:Nat),(num q 64:Nat),(num (fun i=>q (64+i)) 64:Nat)]}) FE qz FF Tryz.func133 (by constructor<;>rfl) (fun x=>x=lC (gm p q))
  (args:=[MS 0,MS 2]) Ks (Nw ae0 (fun x _=>x=lC (gm p q)) (num p 64:Nat) (num (fun i=>p (64+i)) 64:Nat) (num q 64:Nat) (num (fun i=>q (64+i)) 64:Nat) (fun _=>LC.none)) ?_
 ·exact h
 unfold oP;intro _ _ _ _;refine⟨fun e=> ∃k:Nat,k≤128∧e.i.getD 0 0=(num (nD p q k) 64:Nat)∧e.i.getD 1 0=(num (fun i=>nD p q k (64+i)) 64:Nat)∧e.i.getD 2 0=127 - (k:Int),fun e=>(e.i.getD 2 0+1).toNat,⟨0,0,127,rfl,rfl,rfl,0,by omega,?_,?_,rfl⟩,?_⟩
 ·show(0:Int)=((num (fun _=>false) 64:Nat):Int);decide
 ·show(0:Int)=((num (fun _=>false) 64:Nat):Int);decide
 rintro x4 x5 x6 ⟨k,hk,h4,h5,h6⟩;simp only [ah,aeW]at h4 h5 h6;subst h4 h5 h6;rw [WJ,T8];have hx: ∀a b:Nat→Bool,ak .ay .u64 ((num a 64:Nat):Int) ((num b 64:Nat):Int)=((num (fun i=>a i ^^ b i) 64:Nat):Int):=fun a b=>by rw [HJ (kz _ _) (kz _ _),Iz]
 rw [hx,hx];have on:p (127 - k)=true→∀i,nD p q (k+1) i=(xt (nD p q k) i ^^ q i):=fun h i=>by
  rw [nD,h];simp only [Bool.true_and]
 have off: ¬p (127 - k)=true→∀i,nD p q (k+1) i=xt (nD p q k) i:=fun h i=>by
  rw [nD];simp only [Bool.not_eq_true]at h;rw [h];simp
 refine⟨fun h0=>?_,fun h0=>?_⟩
 ·have IC:k+1≤128:=by omega
  have hc:(127 - (k:Int))=((127 - k:Nat):Int):=by omega
  rw [hc,show(64:Int)=((64:Nat):Int)from rfl,wH];refine⟨fun WL=>⟨by omega,fun _=>?_⟩,fun WL=>⟨by omega,fun _=>?_⟩⟩
  ·rw [WK _ _ (kz _ _) (by omega),dV,decide_eq_true (show(127 - k)%64<64 by omega),Bool.true_and,show 64+(127 - k)%64=127 - k by omega];refine⟨fun hb=>?_,fun hb=>?_⟩
   ·intro _ _ _;refine⟨by omega,fun _=>⟨by omega,fun _=>⟨_,_,_,rfl,rfl,rfl,⟨k+1,IC,?_,?_,?_⟩,?_⟩⟩⟩
    all_goals simp only [ah,aeW]
    ·rw [fS fun i _=>on hb i]
    ·rw [fS fun i _=>on hb (64+i)]
    ·omega
    ·omega
   ·refine⟨by omega,fun _=>⟨by omega,fun _=>⟨_,_,_,rfl,rfl,rfl,⟨k+1,IC,?_,?_,?_⟩,?_⟩⟩⟩
    all_goals simp only [ah,aeW]
    ·rw [fS fun i _=>off hb i]
    ·rw [fS fun i _=>off hb (64+i)]
    ·omega
    ·omega
  ·rw [WK _ _ (kz _ _) (by omega),dV,decide_eq_true (show(127 - k)%64<64 by omega),Bool.true_and,show(127 - k)%64=127 - k by omega];refine⟨fun hb=>?_,fun hb=>?_⟩
   ·intro _ _ _;refine⟨by omega,fun _=>⟨by omega,fun _=>⟨_,_,_,rfl,rfl,rfl,⟨k+1,IC,?_,?_,?_⟩,?_⟩⟩⟩
    all_goals simp only [ah,aeW]
    ·rw [fS fun i _=>on hb i]
    ·rw [fS fun i _=>on hb (64+i)]
    ·omega
    ·omega
   ·refine⟨by omega,fun _=>⟨by omega,fun _=>⟨_,_,_,rfl,rfl,rfl,⟨k+1,IC,?_,?_,?_⟩,?_⟩⟩⟩
    all_goals simp only [ah,aeW]
    ·rw [fS fun i _=>off hb i]
    ·rw [fS fun i _=>off hb (64+i)]
    ·omega
    ·omega
 ·obtain rfl:k=128:=by omega
  exact GH fun i hi=>TP p q i hi
open Go Go.RX Go.Proofs Go.Ae Go.RX.Sh Go.RX.Fe Go.RX.Fg Go.Gh
theorem NI(a b:Nat):ak .tE .i64 (a:Int) (b:Int)=((min a b:Nat):Int):=by
 show(if(b:Int)<(a:Int)then(b:Int)else(a:Int))=_;split<;>omega
theorem rH(v:V1)(H T:Nat→Nat)(hH: ∀j,H j<256)(hT: ∀j,T j<256)(len:Nat):aw ae0 111 [cb H,v.v] [aj true v len T] fun x hs=>x=cb (j5 H T len)∧hs=[]:=by
 have h:=aw.kJ (C:=Fh.cx) (bd:={i:=1,a:=2,v:=1}) (ρ:={iv:=[(len:Int)],av:=[fun j=>(H j:Nat),fun j=>(T j:Nat)],vv:=[v]}) FE qz FF Tryz.func111 (by constructor<;>rfl)
  (ar:=fun x _=>x=cb (j5 H T len)) (args:=[.agg [.cE .u8 16 (.aL 0)],.vv 0]) (hp:=[.bC true 0 5 1 (.var 0) (Fg.cB 1)]) Ny (Ra ae0 (fun x _=>x=cb (j5 H T len)) (len:Int) (fun j=>(H j:Nat)) (fun j=>(T j:Nat)) v (fun _=>LC.none)) ?_
 ·have hv:SV.vals {iv:=[(len:Int)],av:=[fun j=>(H j:Nat),fun j=>(T j:Nat)],vv:=[v]} [.agg [.cE .u8 16 (.aL 0)],.vv 0]=[cb H,v.v]:=by
   show [Value.agg (aeU (al .u8 16 fun j=>(H j:Nat)) []).toArray,_]=_;rw [afq,List.append_nil];rfl
  rw [hv]at h;exact aw.post h fun x hs hq=>⟨[],bX.sub (List.nil_sublist _),hq,rfl⟩
 unfold IJ;intro _ _;refine⟨fun x hs=>x=lC (pb H)∧hs=[],by rw [ew (B:=H) fun j _=>rfl];exact EN H hH,?_⟩;rintro x hs ⟨rfl,rfl⟩;refine⟨_,_,rfl,rfl,?_⟩;intro _ _;refine⟨by omega,fun _=>?_⟩;intro v1;refine⟨fun e=> ∃r:Nat,16*r<len+16∧e.i.getD 0 0=(num (gh (pb H) T len r) 64:Nat)∧e.i.getD 1 0=(num (fun i=>gh (pb H) T len r (64+i)) 64:Nat)∧e.i.getD 2 0=((len - 16*r:Nat):Int)∧∀j,j<len - 16*r→(e.a.getD 0 fun _=>0) j=(T (16*r+j):Nat),
  fun e=>(e.i.getD 2 0).toNat,⟨v1,0,0,len,fun j=>(T j:Nat),rfl,rfl,rfl,fun _ _=>rfl,rfl,rfl,0,by omega,?_,?_,?_,?_⟩,?_⟩
 ·show(0:Int)=((num (fun _=>false) 64:Nat):Int);decide
 ·show(0:Int)=((num (fun _=>false) 64:Nat):Int);decide
 ·simp
 ·intro j _;simp
 rintro v2 x3 x4 x5 A2 ⟨r,hr,h3,h4,h5,hA⟩;simp only [ah,aeW]at h3 h4 h5 hA;subst h3 h4 h5;rw [show ak .tE .i64 ((len - 16*r:Nat):Int) 16=((min (len - 16*r) 16:Nat):Int)from NI _ 16];refine⟨by omega,fun _=>⟨fun bU=>?_,fun iH=>?_⟩⟩
 ·intro _;have hB:=Nn T hT len r;refine⟨by omega,fun _=>⟨by omega,fun _=>⟨fun x hs=>x=lC (pb (mR T len r))∧hs=[],?_,?_⟩⟩⟩
  ·rw [ew (B:=mR T len r)]
   ·exact EN _ hB
   ·intro j hj;rw [afe];unfold aI mR;by_cases UI:16*r+j<len
    ·rw [if_pos (by omega),if_pos UI,Nat.sub_zero,hA j (by omega)]
    ·rw [if_neg (by omega),if_neg UI];rfl
  rintro x hs ⟨rfl,rfl⟩;refine⟨_,_,rfl,rfl,?_⟩;intro _ _ _;have hx: ∀a b:Nat→Bool,ak .ay .u64 ((num a 64:Nat):Int) ((num b 64:Nat):Int)=((num (fun i=>a i ^^ b i) 64:Nat):Int):=fun a b=>by rw [HJ (kz _ _) (kz _ _),Iz]
  rw [hx,hx];refine⟨fun x hs=>x=lC (gh (pb H) T len (r+1))∧hs=[],dZ (add (gh (pb H) T len r) (pb (mR T len r))) (pb H),?_⟩;rintro x hs ⟨rfl,rfl⟩;refine⟨_,_,rfl,rfl,?_⟩
  iterate 3 refine⟨by omega,fun _=>?_⟩
  intro v3;refine⟨v3,_,_,((len - 16*(r+1):Nat):Int),_,rfl,rfl,by omega,fun _ _=>rfl,rfl,rfl,⟨r+1,by omega,rfl,rfl,rfl,?_⟩,?_⟩
  ·intro j hj;simp only [ah];unfold aA;rw [afe,hA _ (by omega)];congr 2;omega
  ·simp only [ah,aeW];omega
 ·refine⟨fun x hs=>x=cb (j5 H T len)∧hs=[],?_,?_⟩
  ·have e:j5 H T len=bp (gh (pb H) T len r):=by
    unfold j5;rw [show(len+15)/16=r by omega]
   rw [e];exact pO _
  rintro x hs ⟨rfl,rfl⟩;refine⟨fun j=>(j5 H T len j:Nat),by unfold cb;rw [afq,List.append_nil],rfl,?_⟩;exact ew fun j _=>rfl
end Go.RX.Fh

namespace Go.RX.Fi
open Go Go.RX Go.Proofs Go.Ae Go.RX.Sh Go.RX.Fe Go.RX.Fg Go.RX.Fh Go.Gh Go.Gc
def fb(N:Nat→Nat):Value:= .agg (aeU (al .u8 12 fun j=>(N j:Nat)) []).toArray
theorem fC(N:Nat→Nat):aw ae0 88 [fb N] [] fun x hs=>x=cb (cA N 1)∧hs=[]:=by
 refine NG _ (fun j=>(N j:Nat)) ?_;unfold EP;intro _ _ _;refine⟨?_,rfl⟩;unfold cb;congr 2
def mQ(n m:Nat)(A B:Nat→Nat):Bool:=decide (n=m∧∀j,j<n→A j=B j)
def diff(A B:Nat→Nat):Nat→Nat
 | 0=>0
 | n+1=>diff A B n|||(A n^^^B n)
theorem xor_zero{a b:Nat}:a^^^b=0↔a=b:=by
 constructor
 ·intro h;have:=congrArg (· ^^^b) h;simp only [Nat.xor_assoc,Nat.xor_self,Nat.xor_zero,Nat.zero_xor]at this;exact this
 ·rintro rfl;exact Nat.xor_self a
theorem AL(A B:Nat→Nat): ∀n,diff A B n=0↔∀j,j<n→A j=B j
 | 0=>by simp [diff]
 | n+1=>by
  rw [diff,Nat.or_eq_zero_iff,AL A B n,xor_zero];constructor
  ·rintro ⟨h1,h2⟩ j hj;rcases Nat.lt_succ_iff_lt_or_eq.1 hj with h | rfl
   ·exact h1 j h
   ·exact h2
  ·intro h;exact⟨fun j hj=>h j (by omega),h n (by omega)⟩
theorem IP{A B:Nat→Nat}(hA: ∀j,A j<256)(hB: ∀j,B j<256): ∀n,diff A B n<256
 | 0=>by simp [diff]
 | n+1=>Nat.or_lt_two_pow (n:=8) (IP hA hB n) (Nat.xor_lt_two_pow (n:=8) (hA n) (hB n))
theorem GI(v1 v2:V1)(n m:Nat)(A B:Nat→Nat)(hA: ∀j,A j<256)(hB: ∀j,B j<256)(hn:n≤140737488355328):
  aw ae0 68 [v1.v,v2.v] [aj false v1 n A,aj false v2 m B] fun x hs=>x= .bool (mQ n m A B)∧hs=[]:=by
 refine HD _ (n:Int) (m:Int) (fun j=>(A j:Nat)) (fun j=>(B j:Nat)) v1 v2 ?_;unfold wk;refine⟨by omega,fun _=>⟨by omega,fun _=>⟨fun eZ=>?_,fun heq=>?_⟩⟩⟩
 ·refine⟨?_,rfl⟩;congr 1;unfold mQ;rw [decide_eq_false];omega
 ·have RT:n=m:=by omega
  subst RT;refine⟨fun e=> ∃i:Nat,i≤n∧e.i=[(i:Int),(diff A B i:Nat)],fun e=>(n - e.i.getD 0 0).toNat,⟨0,0,rfl,rfl,0,by omega,rfl⟩,?_⟩;rintro x2 x3 ⟨i,hi,hx⟩;simp only [ae8,and_true]at hx;obtain⟨rfl,rfl⟩:=hx;refine⟨fun bU=>?_,fun iH=>?_⟩
  ·iterate 4 refine⟨by omega,fun _=>?_⟩
   refine⟨(i:Int)+1,(diff A B (i+1):Nat),rfl,?_,⟨i+1,by omega,rfl⟩,?_⟩
   ·rw [afe,bP (hA i) (hB i),or8 (IP hA hB i) (Nat.xor_lt_two_pow (n:=8) (hA i) (hB i))];rfl
   ·simp only [ah];omega
  ·have:i=n:=by omega
   subst this;refine⟨?_,rfl⟩;congr 1;unfold mQ;rw [Bool.eq_iff_iff];simp only [beq_iff_eq,decide_eq_true_eq,true_and];rw [←AL];omega
end Go.RX.Fi
