/- The store's walker. -/
import Derived.Test.YtllcdnkfbeokhaaGreatM26
open Go.IntKind renaming wrap → ae
open Go.Proofs.Tryz renaming prog → aqQ
open Int renaming toNat → ag
namespace Go.RX.Vb
open Go.RX Go.Proofs
set_option maxRecDepth 100000
set_option maxHeartbeats 4000000
def N4(al:PT)(x0 _ x2 x3 x4 x5 x6 x7 x8 x9 bE bM bP:Int)(A0 A1 A2 A3 A4 A5 A6 A7 A8:Nat→Int)(v0 v1:V1)(b0 b1 b2:Nat):Prop:=
 br (x2≠0) (
 Cl 21 [pp b0,.int .u64 1,.int .i64 1] [cV b0 v0,bp v0 x0 A0] fun x hs _=> ∃(v2:V1) (bI dW:Int) (A9:Nat→Int) (_:Bool),x= .int .u64 bI∧hs=[cV b0 v2,bp v2 dW A9]∧
 br (x3≠0) (
 Cl 21 [pp b0,.int .u64 1,.int .i64 1] [fu b0 v2 (decide (1<bI)),bp v2 dW A9] fun x hs _=> ∃(v3:V1) (bV dI:Int) (eg:Nat→Int) (_:Bool),x= .int .u64 bV∧hs=[fu b0 v3 (decide (1<bI)),bp v3 dI eg]∧
 br (x4≠0) (
 Cl 21 [pp b0,.int .u64 1,.int .i64 1] [fu b0 v3 ((decide (1<bI))||(decide (1<bV))),bp v3 dI eg] fun x hs _=> ∃(v4:V1) (cj dM:Int) (dN:Nat→Int) (_:Bool),x= .int .u64 cj∧hs=[fu b0 v4 ((decide (1<bI))||(decide (1<bV))),bp v4 dM dN]∧
 br (x5≠0) (
 Cl 21 [pp b0,.int .u64 1,.int .i64 1] [fu b0 v4 (((decide (1<bI))||(decide (1<bV)))||(decide (1<cj))),bp v4 dM dN] fun x hs _=> ∃(v5:V1) (cU dz:Int) (dq:Nat→Int) (_:Bool),x= .int .u64 cU∧hs=[fu b0 v5 (((decide (1<bI))||(decide (1<bV)))||(decide (1<cj))),bp v5 dz dq]∧
 al (.tuple #[]) [fu b0 v5 ((((decide (1<bI))||(decide (1<bV)))||(decide (1<cj)))||(decide (1<cU))),bp v5 dz dq,rN b1 A1 A2 A3 A4 (bI==1) (bV==1) (cj==1) (cU==1) A5 x6 A6 x7 x8 v1 A7 A8 (!(x9==0)) bE (!(bM==0)) (!(bP==0)),Bs b2 b1]) (
 Cl 21 [pp b0,.int .u64 0,.int .i64 1] [fu b0 v4 (((decide (1<bI))||(decide (1<bV)))||(decide (1<cj))),bp v4 dM dN] fun x hs _=> ∃(v5:V1) (cU dz:Int) (dq:Nat→Int) (_:Bool),x= .int .u64 cU∧hs=[fu b0 v5 (((decide (1<bI))||(decide (1<bV)))||(decide (1<cj))),bp v5 dz dq]∧
 al (.tuple #[]) [fu b0 v5 ((((decide (1<bI))||(decide (1<bV)))||(decide (1<cj)))||(decide (1<cU))),bp v5 dz dq,rN b1 A1 A2 A3 A4 (bI==1) (bV==1) (cj==1) (cU==1) A5 x6 A6 x7 x8 v1 A7 A8 (!(x9==0)) bE (!(bM==0)) (!(bP==0)),Bs b2 b1])) (
 Cl 21 [pp b0,.int .u64 0,.int .i64 1] [fu b0 v3 ((decide (1<bI))||(decide (1<bV))),bp v3 dI eg] fun x hs _=> ∃(v4:V1) (cj dM:Int) (dN:Nat→Int) (_:Bool),x= .int .u64 cj∧hs=[fu b0 v4 ((decide (1<bI))||(decide (1<bV))),bp v4 dM dN]∧
 br (x5≠0) (
 Cl 21 [pp b0,.int .u64 1,.int .i64 1] [fu b0 v4 (((decide (1<bI))||(decide (1<bV)))||(decide (1<cj))),bp v4 dM dN] fun x hs _=> ∃(v5:V1) (cU dz:Int) (dq:Nat→Int) (_:Bool),x= .int .u64 cU∧hs=[fu b0 v5 (((decide (1<bI))||(decide (1<bV)))||(decide (1<cj))),bp v5 dz dq]∧
 al (.tuple #[]) [fu b0 v5 ((((decide (1<bI))||(decide (1<bV)))||(decide (1<cj)))||(decide (1<cU))),bp v5 dz dq,rN b1 A1 A2 A3 A4 (bI==1) (bV==1) (cj==1) (cU==1) A5 x6 A6 x7 x8 v1 A7 A8 (!(x9==0)) bE (!(bM==0)) (!(bP==0)),Bs b2 b1]) (
 Cl 21 [pp b0,.int .u64 0,.int .i64 1] [fu b0 v4 (((decide (1<bI))||(decide (1<bV)))||(decide (1<cj))),bp v4 dM dN] fun x hs _=> ∃(v5:V1) (cU dz:Int) (dq:Nat→Int) (_:Bool),x= .int .u64 cU∧hs=[fu b0 v5 (((decide (1<bI))||(decide (1<bV)))||(decide (1<cj))),bp v5 dz dq]∧
 al (.tuple #[]) [fu b0 v5 ((((decide (1<bI))||(decide (1<bV)))||(decide (1<cj)))||(decide (1<cU))),bp v5 dz dq,rN b1 A1 A2 A3 A4 (bI==1) (bV==1) (cj==1) (cU==1) A5 x6 A6 x7 x8 v1 A7 A8 (!(x9==0)) bE (!(bM==0)) (!(bP==0)),Bs b2 b1]))) (
 Cl 21 [pp b0,.int .u64 0,.int .i64 1] [fu b0 v2 (decide (1<bI)),bp v2 dW A9] fun x hs _=> ∃(v3:V1) (bV dI:Int) (eg:Nat→Int) (_:Bool),x= .int .u64 bV∧hs=[fu b0 v3 (decide (1<bI)),bp v3 dI eg]∧
 br (x4≠0) (
 Cl 21 [pp b0,.int .u64 1,.int .i64 1] [fu b0 v3 ((decide (1<bI))||(decide (1<bV))),bp v3 dI eg] fun x hs _=> ∃(v4:V1) (cj dM:Int) (dN:Nat→Int) (_:Bool),x= .int .u64 cj∧hs=[fu b0 v4 ((decide (1<bI))||(decide (1<bV))),bp v4 dM dN]∧
 br (x5≠0) (
 Cl 21 [pp b0,.int .u64 1,.int .i64 1] [fu b0 v4 (((decide (1<bI))||(decide (1<bV)))||(decide (1<cj))),bp v4 dM dN] fun x hs _=> ∃(v5:V1) (cU dz:Int) (dq:Nat→Int) (_:Bool),x= .int .u64 cU∧hs=[fu b0 v5 (((decide (1<bI))||(decide (1<bV)))||(decide (1<cj))),bp v5 dz dq]∧
 al (.tuple #[]) [fu b0 v5 ((((decide (1<bI))||(decide (1<bV)))||(decide (1<cj)))||(decide (1<cU))),bp v5 dz dq,rN b1 A1 A2 A3 A4 (bI==1) (bV==1) (cj==1) (cU==1) A5 x6 A6 x7 x8 v1 A7 A8 (!(x9==0)) bE (!(bM==0)) (!(bP==0)),Bs b2 b1]) (
 Cl 21 [pp b0,.int .u64 0,.int .i64 1] [fu b0 v4 (((decide (1<bI))||(decide (1<bV)))||(decide (1<cj))),bp v4 dM dN] fun x hs _=> ∃(v5:V1) (cU dz:Int) (dq:Nat→Int) (_:Bool),x= .int .u64 cU∧hs=[fu b0 v5 (((decide (1<bI))||(decide (1<bV)))||(decide (1<cj))),bp v5 dz dq]∧
 al (.tuple #[]) [fu b0 v5 ((((decide (1<bI))||(decide (1<bV)))||(decide (1<cj)))||(decide (1<cU))),bp v5 dz dq,rN b1 A1 A2 A3 A4 (bI==1) (bV==1) (cj==1) (cU==1) A5 x6 A6 x7 x8 v1 A7 A8 (!(x9==0)) bE (!(bM==0)) (!(bP==0)),Bs b2 b1])) (
 Cl 21 [pp b0,.int .u64 0,.int .i64 1] [fu b0 v3 ((decide (1<bI))||(decide (1<bV))),bp v3 dI eg] fun x hs _=> ∃(v4:V1) (cj dM:Int) (dN:Nat→Int) (_:Bool),x= .int .u64 cj∧hs=[fu b0 v4 ((decide (1<bI))||(decide (1<bV))),bp v4 dM dN]∧
 br (x5≠0) (
 Cl 21 [pp b0,.int .u64 1,.int .i64 1] [fu b0 v4 (((decide (1<bI))||(decide (1<bV)))||(decide (1<cj))),bp v4 dM dN] fun x hs _=> ∃(v5:V1) (cU dz:Int) (dq:Nat→Int) (_:Bool),x= .int .u64 cU∧hs=[fu b0 v5 (((decide (1<bI))||(decide (1<bV)))||(decide (1<cj))),bp v5 dz dq]∧
 al (.tuple #[]) [fu b0 v5 ((((decide (1<bI))||(decide (1<bV)))||(decide (1<cj)))||(decide (1<cU))),bp v5 dz dq,rN b1 A1 A2 A3 A4 (bI==1) (bV==1) (cj==1) (cU==1) A5 x6 A6 x7 x8 v1 A7 A8 (!(x9==0)) bE (!(bM==0)) (!(bP==0)),Bs b2 b1]) (
 Cl 21 [pp b0,.int .u64 0,.int .i64 1] [fu b0 v4 (((decide (1<bI))||(decide (1<bV)))||(decide (1<cj))),bp v4 dM dN] fun x hs _=> ∃(v5:V1) (cU dz:Int) (dq:Nat→Int) (_:Bool),x= .int .u64 cU∧hs=[fu b0 v5 (((decide (1<bI))||(decide (1<bV)))||(decide (1<cj))),bp v5 dz dq]∧
 al (.tuple #[]) [fu b0 v5 ((((decide (1<bI))||(decide (1<bV)))||(decide (1<cj)))||(decide (1<cU))),bp v5 dz dq,rN b1 A1 A2 A3 A4 (bI==1) (bV==1) (cj==1) (cU==1) A5 x6 A6 x7 x8 v1 A7 A8 (!(x9==0)) bE (!(bM==0)) (!(bP==0)),Bs b2 b1])))) (
 Cl 21 [pp b0,.int .u64 0,.int .i64 1] [cV b0 v0,bp v0 x0 A0] fun x hs _=> ∃(v2:V1) (bI dW:Int) (A9:Nat→Int) (_:Bool),x= .int .u64 bI∧hs=[cV b0 v2,bp v2 dW A9]∧
 br (x3≠0) (
 Cl 21 [pp b0,.int .u64 1,.int .i64 1] [fu b0 v2 (decide (1<bI)),bp v2 dW A9] fun x hs _=> ∃(v3:V1) (bV dI:Int) (eg:Nat→Int) (_:Bool),x= .int .u64 bV∧hs=[fu b0 v3 (decide (1<bI)),bp v3 dI eg]∧
 br (x4≠0) (
 Cl 21 [pp b0,.int .u64 1,.int .i64 1] [fu b0 v3 ((decide (1<bI))||(decide (1<bV))),bp v3 dI eg] fun x hs _=> ∃(v4:V1) (cj dM:Int) (dN:Nat→Int) (_:Bool),x= .int .u64 cj∧hs=[fu b0 v4 ((decide (1<bI))||(decide (1<bV))),bp v4 dM dN]∧
 br (x5≠0) (
 Cl 21 [pp b0,.int .u64 1,.int .i64 1] [fu b0 v4 (((decide (1<bI))||(decide (1<bV)))||(decide (1<cj))),bp v4 dM dN] fun x hs _=> ∃(v5:V1) (cU dz:Int) (dq:Nat→Int) (_:Bool),x= .int .u64 cU∧hs=[fu b0 v5 (((decide (1<bI))||(decide (1<bV)))||(decide (1<cj))),bp v5 dz dq]∧
 al (.tuple #[]) [fu b0 v5 ((((decide (1<bI))||(decide (1<bV)))||(decide (1<cj)))||(decide (1<cU))),bp v5 dz dq,rN b1 A1 A2 A3 A4 (bI==1) (bV==1) (cj==1) (cU==1) A5 x6 A6 x7 x8 v1 A7 A8 (!(x9==0)) bE (!(bM==0)) (!(bP==0)),Bs b2 b1]) (
 Cl 21 [pp b0,.int .u64 0,.int .i64 1] [fu b0 v4 (((decide (1<bI))||(decide (1<bV)))||(decide (1<cj))),bp v4 dM dN] fun x hs _=> ∃(v5:V1) (cU dz:Int) (dq:Nat→Int) (_:Bool),x= .int .u64 cU∧hs=[fu b0 v5 (((decide (1<bI))||(decide (1<bV)))||(decide (1<cj))),bp v5 dz dq]∧
 al (.tuple #[]) [fu b0 v5 ((((decide (1<bI))||(decide (1<bV)))||(decide (1<cj)))||(decide (1<cU))),bp v5 dz dq,rN b1 A1 A2 A3 A4 (bI==1) (bV==1) (cj==1) (cU==1) A5 x6 A6 x7 x8 v1 A7 A8 (!(x9==0)) bE (!(bM==0)) (!(bP==0)),Bs b2 b1])) (
 Cl 21 [pp b0,.int .u64 0,.int .i64 1] [fu b0 v3 ((decide (1<bI))||(decide (1<bV))),bp v3 dI eg] fun x hs _=> ∃(v4:V1) (cj dM:Int) (dN:Nat→Int) (_:Bool),x= .int .u64 cj∧hs=[fu b0 v4 ((decide (1<bI))||(decide (1<bV))),bp v4 dM dN]∧
 br (x5≠0) (
 Cl 21 [pp b0,.int .u64 1,.int .i64 1] [fu b0 v4 (((decide (1<bI))||(decide (1<bV)))||(decide (1<cj))),bp v4 dM dN] fun x hs _=> ∃(v5:V1) (cU dz:Int) (dq:Nat→Int) (_:Bool),x= .int .u64 cU∧hs=[fu b0 v5 (((decide (1<bI))||(decide (1<bV)))||(decide (1<cj))),bp v5 dz dq]∧
 al (.tuple #[]) [fu b0 v5 ((((decide (1<bI))||(decide (1<bV)))||(decide (1<cj)))||(decide (1<cU))),bp v5 dz dq,rN b1 A1 A2 A3 A4 (bI==1) (bV==1) (cj==1) (cU==1) A5 x6 A6 x7 x8 v1 A7 A8 (!(x9==0)) bE (!(bM==0)) (!(bP==0)),Bs b2 b1]) (
 Cl 21 [pp b0,.int .u64 0,.int .i64 1] [fu b0 v4 (((decide (1<bI))||(decide (1<bV)))||(decide (1<cj))),bp v4 dM dN] fun x hs _=> ∃(v5:V1) (cU dz:Int) (dq:Nat→Int) (_:Bool),x= .int .u64 cU∧hs=[fu b0 v5 (((decide (1<bI))||(decide (1<bV)))||(decide (1<cj))),bp v5 dz dq]∧
 al (.tuple #[]) [fu b0 v5 ((((decide (1<bI))||(decide (1<bV)))||(decide (1<cj)))||(decide (1<cU))),bp v5 dz dq,rN b1 A1 A2 A3 A4 (bI==1) (bV==1) (cj==1) (cU==1) A5 x6 A6 x7 x8 v1 A7 A8 (!(x9==0)) bE (!(bM==0)) (!(bP==0)),Bs b2 b1]))) (
 Cl 21 [pp b0,.int .u64 0,.int .i64 1] [fu b0 v2 (decide (1<bI)),bp v2 dW A9] fun x hs _=> ∃(v3:V1) (bV dI:Int) (eg:Nat→Int) (_:Bool),x= .int .u64 bV∧hs=[fu b0 v3 (decide (1<bI)),bp v3 dI eg]∧
 br (x4≠0) (
 Cl 21 [pp b0,.int .u64 1,.int .i64 1] [fu b0 v3 ((decide (1<bI))||(decide (1<bV))),bp v3 dI eg] fun x hs _=> ∃(v4:V1) (cj dM:Int) (dN:Nat→Int) (_:Bool),x= .int .u64 cj∧hs=[fu b0 v4 ((decide (1<bI))||(decide (1<bV))),bp v4 dM dN]∧
 br (x5≠0) (
 Cl 21 [pp b0,.int .u64 1,.int .i64 1] [fu b0 v4 (((decide (1<bI))||(decide (1<bV)))||(decide (1<cj))),bp v4 dM dN] fun x hs _=> ∃(v5:V1) (cU dz:Int) (dq:Nat→Int) (_:Bool),x= .int .u64 cU∧hs=[fu b0 v5 (((decide (1<bI))||(decide (1<bV)))||(decide (1<cj))),bp v5 dz dq]∧
 al (.tuple #[]) [fu b0 v5 ((((decide (1<bI))||(decide (1<bV)))||(decide (1<cj)))||(decide (1<cU))),bp v5 dz dq,rN b1 A1 A2 A3 A4 (bI==1) (bV==1) (cj==1) (cU==1) A5 x6 A6 x7 x8 v1 A7 A8 (!(x9==0)) bE (!(bM==0)) (!(bP==0)),Bs b2 b1]) (
 Cl 21 [pp b0,.int .u64 0,.int .i64 1] [fu b0 v4 (((decide (1<bI))||(decide (1<bV)))||(decide (1<cj))),bp v4 dM dN] fun x hs _=> ∃(v5:V1) (cU dz:Int) (dq:Nat→Int) (_:Bool),x= .int .u64 cU∧hs=[fu b0 v5 (((decide (1<bI))||(decide (1<bV)))||(decide (1<cj))),bp v5 dz dq]∧
 al (.tuple #[]) [fu b0 v5 ((((decide (1<bI))||(decide (1<bV)))||(decide (1<cj)))||(decide (1<cU))),bp v5 dz dq,rN b1 A1 A2 A3 A4 (bI==1) (bV==1) (cj==1) (cU==1) A5 x6 A6 x7 x8 v1 A7 A8 (!(x9==0)) bE (!(bM==0)) (!(bP==0)),Bs b2 b1])) (
 Cl 21 [pp b0,.int .u64 0,.int .i64 1] [fu b0 v3 ((decide (1<bI))||(decide (1<bV))),bp v3 dI eg] fun x hs _=> ∃(v4:V1) (cj dM:Int) (dN:Nat→Int) (_:Bool),x= .int .u64 cj∧hs=[fu b0 v4 ((decide (1<bI))||(decide (1<bV))),bp v4 dM dN]∧
 br (x5≠0) (
 Cl 21 [pp b0,.int .u64 1,.int .i64 1] [fu b0 v4 (((decide (1<bI))||(decide (1<bV)))||(decide (1<cj))),bp v4 dM dN] fun x hs _=> ∃(v5:V1) (cU dz:Int) (dq:Nat→Int) (_:Bool),x= .int .u64 cU∧hs=[fu b0 v5 (((decide (1<bI))||(decide (1<bV)))||(decide (1<cj))),bp v5 dz dq]∧
 al (.tuple #[]) [fu b0 v5 ((((decide (1<bI))||(decide (1<bV)))||(decide (1<cj)))||(decide (1<cU))),bp v5 dz dq,rN b1 A1 A2 A3 A4 (bI==1) (bV==1) (cj==1) (cU==1) A5 x6 A6 x7 x8 v1 A7 A8 (!(x9==0)) bE (!(bM==0)) (!(bP==0)),Bs b2 b1]) (
 Cl 21 [pp b0,.int .u64 0,.int .i64 1] [fu b0 v4 (((decide (1<bI))||(decide (1<bV)))||(decide (1<cj))),bp v4 dM dN] fun x hs _=> ∃(v5:V1) (cU dz:Int) (dq:Nat→Int) (_:Bool),x= .int .u64 cU∧hs=[fu b0 v5 (((decide (1<bI))||(decide (1<bV)))||(decide (1<cj))),bp v5 dz dq]∧
 al (.tuple #[]) [fu b0 v5 ((((decide (1<bI))||(decide (1<bV)))||(decide (1<cj)))||(decide (1<cU))),bp v5 dz dq,rN b1 A1 A2 A3 A4 (bI==1) (bV==1) (cj==1) (cU==1) A5 x6 A6 x7 x8 v1 A7 A8 (!(x9==0)) bE (!(bM==0)) (!(bP==0)),Bs b2 b1]))))
theorem Wg(al:PT)(x0 x1 x2 x3 x4 x5 x6 x7 x8 x9 bE bM bP:Int)(A0 A1 A2 A3 A4 A5 A6 A7 A8:Nat→Int)(v0 v1:V1)(b0 b1 b2:Nat)(h:N4 al x0 x1 x2 x3 x4 x5 x6 x7 x8 x9 bE bM bP A0 A1 A2 A3 A4 A5 A6 A7 A8 v0 v1 b0 b1 b2):aq aqQ 58 [pp b0,.slice (some ⟨b2,0,none⟩) 4 4] [cV b0 v0,bp v0 x0 A0,rN b1 A1 A2 A3 A4 (!(x2==0)) (!(x3==0)) (!(x4==0)) (!(x5==0)) A5 x6 A6 x7 x8 v1 A7 A8 (!(x9==0)) bE (!(bM==0)) (!(bP==0)),Bs b2 b1] al:=
 xp (C:=ZY) (ZM 4) (Vc.Ef++[.row 1 true (Vc.Ru 2 1 1),ZN [128,129,130,131]]) {b:=3,v:=2,i:=13,a:=9} ⟨[x0,x1,x2,x3,x4,x5,x6,x7,x8,x9,bE,bM,bP],[A0,A1,A2,A3,A4,A5,A6,A7,A8],[],[b0,b1,b2],[v0,v1],[],[],[]⟩ Tryz.func58 (by kernel_rfl) h
def N5(al:PT)(x0 _ x2 x3 x4 x5 x6 x7 x8 x9 bE bM bP:Int)(A0 A1 A2 A3 A4 A5 A6 A7 A8:Nat→Int)(v0 v1:V1)(b0 b1 b2:Nat):Prop:=
 br (x9≠0) (
 Cl 21 [pp b0,.int .u64 1,.int .i64 1] [cV b0 v0,bp v0 x0 A0] fun x hs _=> ∃(v2:V1) (bI dW:Int) (A9:Nat→Int) (_:Bool),x= .int .u64 bI∧hs=[cV b0 v2,bp v2 dW A9]∧
 al (.tuple #[]) [fu b0 v2 (decide (1<bI)),bp v2 dW A9,rN b1 A1 A2 A3 A4 (!(x2==0)) (!(x3==0)) (!(x4==0)) (!(x5==0)) A5 x6 A6 x7 x8 v1 A7 A8 (bI==1) bE (!(bM==0)) (!(bP==0)),ak b2 true ([.pointer (some ⟨b1,264,none⟩)])]) (
 Cl 21 [pp b0,.int .u64 0,.int .i64 1] [cV b0 v0,bp v0 x0 A0] fun x hs _=> ∃(v2:V1) (bI dW:Int) (A9:Nat→Int) (_:Bool),x= .int .u64 bI∧hs=[cV b0 v2,bp v2 dW A9]∧
 al (.tuple #[]) [fu b0 v2 (decide (1<bI)),bp v2 dW A9,rN b1 A1 A2 A3 A4 (!(x2==0)) (!(x3==0)) (!(x4==0)) (!(x5==0)) A5 x6 A6 x7 x8 v1 A7 A8 (bI==1) bE (!(bM==0)) (!(bP==0)),ak b2 true ([.pointer (some ⟨b1,264,none⟩)])])
theorem Wh(al:PT)(x0 x1 x2 x3 x4 x5 x6 x7 x8 x9 bE bM bP:Int)(A0 A1 A2 A3 A4 A5 A6 A7 A8:Nat→Int)(v0 v1:V1)(b0 b1 b2:Nat)(h:N5 al x0 x1 x2 x3 x4 x5 x6 x7 x8 x9 bE bM bP A0 A1 A2 A3 A4 A5 A6 A7 A8 v0 v1 b0 b1 b2):aq aqQ 58 [pp b0,.slice (some ⟨b2,0,none⟩) 1 1] [cV b0 v0,bp v0 x0 A0,rN b1 A1 A2 A3 A4 (!(x2==0)) (!(x3==0)) (!(x4==0)) (!(x5==0)) A5 x6 A6 x7 x8 v1 A7 A8 (!(x9==0)) bE (!(bM==0)) (!(bP==0)),ak b2 true ([.pointer (some ⟨b1,264,none⟩)])] al:=
 xp (C:=ZY) (ZM 1) (Vc.Ef++[.row 1 true (Vc.Ru 2 1 1),ZN [264]]) {b:=3,v:=2,i:=13,a:=9} ⟨[x0,x1,x2,x3,x4,x5,x6,x7,x8,x9,bE,bM,bP],[A0,A1,A2,A3,A4,A5,A6,A7,A8],[],[b0,b1,b2],[v0,v1],[],[],[]⟩ Tryz.func58 (by kernel_rfl) h
def N7(al:PT)(x0 _ x2 x3 x4 x5 x6 x7 x8 x9 bE bM bP:Int)(A0 A1 A2 A3 A4 A5 A6 A7 A8:Nat→Int)(v0 v1:V1)(b0 b1 b2:Nat):Prop:=
 br (bM≠0) (
 Cl 21 [pp b0,.int .u64 1,.int .i64 1] [cV b0 v0,bp v0 x0 A0] fun x hs _=> ∃(v2:V1) (bI dW:Int) (A9:Nat→Int) (_:Bool),x= .int .u64 bI∧hs=[cV b0 v2,bp v2 dW A9]∧
 br (bP≠0) (
 Cl 21 [pp b0,.int .u64 1,.int .i64 1] [fu b0 v2 (decide (1<bI)),bp v2 dW A9] fun x hs _=> ∃(v3:V1) (bV dI:Int) (eg:Nat→Int) (_:Bool),x= .int .u64 bV∧hs=[fu b0 v3 (decide (1<bI)),bp v3 dI eg]∧
 al (.tuple #[]) [fu b0 v3 ((decide (1<bI))||(decide (1<bV))),bp v3 dI eg,rN b1 A1 A2 A3 A4 (!(x2==0)) (!(x3==0)) (!(x4==0)) (!(x5==0)) A5 x6 A6 x7 x8 v1 A7 A8 (!(x9==0)) bE (bI==1) (bV==1),GJ b2 b1]) (
 Cl 21 [pp b0,.int .u64 0,.int .i64 1] [fu b0 v2 (decide (1<bI)),bp v2 dW A9] fun x hs _=> ∃(v3:V1) (bV dI:Int) (eg:Nat→Int) (_:Bool),x= .int .u64 bV∧hs=[fu b0 v3 (decide (1<bI)),bp v3 dI eg]∧
 al (.tuple #[]) [fu b0 v3 ((decide (1<bI))||(decide (1<bV))),bp v3 dI eg,rN b1 A1 A2 A3 A4 (!(x2==0)) (!(x3==0)) (!(x4==0)) (!(x5==0)) A5 x6 A6 x7 x8 v1 A7 A8 (!(x9==0)) bE (bI==1) (bV==1),GJ b2 b1])) (
 Cl 21 [pp b0,.int .u64 0,.int .i64 1] [cV b0 v0,bp v0 x0 A0] fun x hs _=> ∃(v2:V1) (bI dW:Int) (A9:Nat→Int) (_:Bool),x= .int .u64 bI∧hs=[cV b0 v2,bp v2 dW A9]∧
 br (bP≠0) (
 Cl 21 [pp b0,.int .u64 1,.int .i64 1] [fu b0 v2 (decide (1<bI)),bp v2 dW A9] fun x hs _=> ∃(v3:V1) (bV dI:Int) (eg:Nat→Int) (_:Bool),x= .int .u64 bV∧hs=[fu b0 v3 (decide (1<bI)),bp v3 dI eg]∧
 al (.tuple #[]) [fu b0 v3 ((decide (1<bI))||(decide (1<bV))),bp v3 dI eg,rN b1 A1 A2 A3 A4 (!(x2==0)) (!(x3==0)) (!(x4==0)) (!(x5==0)) A5 x6 A6 x7 x8 v1 A7 A8 (!(x9==0)) bE (bI==1) (bV==1),GJ b2 b1]) (
 Cl 21 [pp b0,.int .u64 0,.int .i64 1] [fu b0 v2 (decide (1<bI)),bp v2 dW A9] fun x hs _=> ∃(v3:V1) (bV dI:Int) (eg:Nat→Int) (_:Bool),x= .int .u64 bV∧hs=[fu b0 v3 (decide (1<bI)),bp v3 dI eg]∧
 al (.tuple #[]) [fu b0 v3 ((decide (1<bI))||(decide (1<bV))),bp v3 dI eg,rN b1 A1 A2 A3 A4 (!(x2==0)) (!(x3==0)) (!(x4==0)) (!(x5==0)) A5 x6 A6 x7 x8 v1 A7 A8 (!(x9==0)) bE (bI==1) (bV==1),GJ b2 b1]))
theorem Wi(al:PT)(x0 x1 x2 x3 x4 x5 x6 x7 x8 x9 bE bM bP:Int)(A0 A1 A2 A3 A4 A5 A6 A7 A8:Nat→Int)(v0 v1:V1)(b0 b1 b2:Nat)(h:N7 al x0 x1 x2 x3 x4 x5 x6 x7 x8 x9 bE bM bP A0 A1 A2 A3 A4 A5 A6 A7 A8 v0 v1 b0 b1 b2):aq aqQ 58 [pp b0,.slice (some ⟨b2,0,none⟩) 2 2] [cV b0 v0,bp v0 x0 A0,rN b1 A1 A2 A3 A4 (!(x2==0)) (!(x3==0)) (!(x4==0)) (!(x5==0)) A5 x6 A6 x7 x8 v1 A7 A8 (!(x9==0)) bE (!(bM==0)) (!(bP==0)),GJ b2 b1] al:=
 xp (C:=ZY) (ZM 2) (Vc.Ef++[.row 1 true (Vc.Ru 2 1 1),ZN [266,267]]) {b:=3,v:=2,i:=13,a:=9} ⟨[x0,x1,x2,x3,x4,x5,x6,x7,x8,x9,bE,bM,bP],[A0,A1,A2,A3,A4,A5,A6,A7,A8],[],[b0,b1,b2],[v0,v1],[],[],[]⟩ Tryz.func58 (by kernel_rfl) h
def N9(al:PT)(x0 x1 x2 x3 x4 x5 x6 x7 x8 x9 bE bM bP bI dW bV dI cj dM:Int)(A0 A1 A2 A3 A4 A5 A6 A7 A8:Nat→Int)(v0 v1 v2 v3 v4 v5 v6 v7:V1)(b0 b1 b2:Nat):Prop:=
 br (x8≠0) (
 Cl 21 [pp b0,.int .u64 1,.int .i64 1] [cV b0 v0,bp v0 x0 A0] fun x hs _=> ∃(v8:V1) (cU dz:Int) (A9:Nat→Int) (_:Bool),x= .int .u64 cU∧hs=[cV b0 v8,bp v8 dz A9]∧
 al (.tuple #[]) [fu b0 v8 (decide (1<cU)),bp v8 dz A9,Qr b1 A1 x1 x2 x3 A2 A3 v1 x4 v2 x5 x6 A4 v3 x7 A5 (cU==1) x9 bE bM A6 A7 A8 v4 bP v5 bI dW bV dI cj dM v6 v7,GK b2 b1]) (
 Cl 21 [pp b0,.int .u64 0,.int .i64 1] [cV b0 v0,bp v0 x0 A0] fun x hs _=> ∃(v8:V1) (cU dz:Int) (A9:Nat→Int) (_:Bool),x= .int .u64 cU∧hs=[cV b0 v8,bp v8 dz A9]∧
 al (.tuple #[]) [fu b0 v8 (decide (1<cU)),bp v8 dz A9,Qr b1 A1 x1 x2 x3 A2 A3 v1 x4 v2 x5 x6 A4 v3 x7 A5 (cU==1) x9 bE bM A6 A7 A8 v4 bP v5 bI dW bV dI cj dM v6 v7,GK b2 b1])
theorem Wj(al:PT)(x0 x1 x2 x3 x4 x5 x6 x7 x8 x9 bE bM bP bI dW bV dI cj dM:Int)(A0 A1 A2 A3 A4 A5 A6 A7 A8:Nat→Int)(v0 v1 v2 v3 v4 v5 v6 v7:V1)(b0 b1 b2:Nat)(h:N9 al x0 x1 x2 x3 x4 x5 x6 x7 x8 x9 bE bM bP bI dW bV dI cj dM A0 A1 A2 A3 A4 A5 A6 A7 A8 v0 v1 v2 v3 v4 v5 v6 v7 b0 b1 b2):aq aqQ 58 [pp b0,.slice (some ⟨b2,0,none⟩) 1 1] [cV b0 v0,bp v0 x0 A0,Qr b1 A1 x1 x2 x3 A2 A3 v1 x4 v2 x5 x6 A4 v3 x7 A5 (!(x8==0)) x9 bE bM A6 A7 A8 v4 bP v5 bI dW bV dI cj dM v6 v7,GK b2 b1] al:=
 xp (C:=ZY) (ZM 1) (Vc.Ef++[.row 1 true (Vd.TZ 1 1 1),ZN [130]]) {b:=3,v:=8,i:=19,a:=9} ⟨[x0,x1,x2,x3,x4,x5,x6,x7,x8,x9,bE,bM,bP,bI,dW,bV,dI,cj,dM],[A0,A1,A2,A3,A4,A5,A6,A7,A8],[],[b0,b1,b2],[v0,v1,v2,v3,v4,v5,v6,v7],[],[],[]⟩ Tryz.func58 (by kernel_rfl) h
def N_(al:PT)(x0 x1 x2 x3:Int)(A0 A1:Nat→Int)(v0:V1)(b0 b1 b2:Nat):Prop:=
 br (x2≠0) (
 Cl 21 [pp b0,.int .u64 1,.int .i64 1] [cV b0 v0,bp v0 x0 A0] fun x hs _=> ∃(v1:V1) (x4 x5:Int) (A2:Nat→Int) (_:Bool),x= .int .u64 x4∧hs=[cV b0 v1,bp v1 x5 A2]∧
 al (.tuple #[]) [fu b0 v1 (decide (1<x4)),bp v1 x5 A2,Ei b1 A1 x1 (x4==1) x3,ak b2 true ([.pointer (some ⟨b1,17,none⟩)])]) (
 Cl 21 [pp b0,.int .u64 0,.int .i64 1] [cV b0 v0,bp v0 x0 A0] fun x hs _=> ∃(v1:V1) (x4 x5:Int) (A2:Nat→Int) (_:Bool),x= .int .u64 x4∧hs=[cV b0 v1,bp v1 x5 A2]∧
 al (.tuple #[]) [fu b0 v1 (decide (1<x4)),bp v1 x5 A2,Ei b1 A1 x1 (x4==1) x3,ak b2 true ([.pointer (some ⟨b1,17,none⟩)])])
theorem Wk(al:PT)(x0 x1 x2 x3:Int)(A0 A1:Nat→Int)(v0:V1)(b0 b1 b2:Nat)(h:N_ al x0 x1 x2 x3 A0 A1 v0 b0 b1 b2):aq aqQ 58 [pp b0,.slice (some ⟨b2,0,none⟩) 1 1] [cV b0 v0,bp v0 x0 A0,Ei b1 A1 x1 (!(x2==0)) x3,ak b2 true ([.pointer (some ⟨b1,17,none⟩)])] al:=
 xp (C:=ZY) (ZM 1) (Vc.Ef++[.row 1 true [Vd.sg 16 1,Vb.u8 1,Vc.bl 2,Vb.u64 3],ZN [17]]) {b:=3,v:=1,i:=4,a:=2} ⟨[x0,x1,x2,x3],[A0,A1],[],[b0,b1,b2],[v0],[],[],[]⟩ Tryz.func58 (by kernel_rfl) h
open Go.RX Go.Proofs
set_option maxRecDepth 100000
def Et(al:PT)(x0 x1:Int)(A0:Nat→Int)(_:V1)(b0:Nat):Prop:=
 ∀_:Nat,ax (0≤x0) (
 kE ((x0+1)*1) (
 ∀v1:V1,al (.int .u64 x1) [cV b0 v1,bp v1 (x0+1) (aw A0 (ag x0) (ae .u8 (ar .shr .u64 x1 0)))]))
theorem Oa(al:PT)(x0 x1:Int)(A0:Nat→Int)(v0:V1)(b0:Nat)(h:Et al x0 x1 A0 v0 b0):aq aqQ 21 [pp b0,.int .u64 x1,.int .i64 1] [cV b0 v0,bp v0 x0 A0] al:=
 sW (C:=cx) (Vb.Ch 1) Vb.M6 Vb.y_ ⟨[x0,x1],[A0],[],[b0],[v0],[],[],[]⟩ 2 Tryz.func21 (by kernel_rfl) h
def Eu(al:PT)(x0 _:Int)(A0:Nat→Int)(v0:V1)(b0:Nat):Prop:=
 ax (0≤x0) (
 br (x0<1) (
 al (.int .u64 0) [sZ b0 v0,bf v0 x0 A0]) (
 ax (1≤x0) (
 ax (0<x0) (
 al (.int .u64 (ar .cz .u64 0 (ae .u64 (A0 0)))) [ak b0 true ([.bool false,(aE 1 v0.v 1 (ag x0) none),.bool false]),bf v0 x0 A0]))))
theorem Ob(al:PT)(x0 x1:Int)(A0:Nat→Int)(v0:V1)(b0:Nat)(h:Eu al x0 x1 A0 v0 b0):aq aqQ 21 [pp b0,.int .u64 x1,.int .i64 1] [Ej b0 v0,bf v0 x0 A0] al:=
 sW (C:=cx) (Vb.Ch 1) Vb.Rr Vb.y_ ⟨[x0,x1],[A0],[],[b0],[v0],[],[],[]⟩ 2 Tryz.func21 (by kernel_rfl) h
def Oc(al:PT)(_ _:Int)(_:Nat→Int)(v0:V1)(b0:Nat):Prop:=
 al (.int .u64 0) [sZ b0 v0]
theorem Od(al:PT)(x0 x1:Int)(A0:Nat→Int)(v0:V1)(b0:Nat)(h:Oc al x0 x1 A0 v0 b0):aq aqQ 21 [pp b0,.int .u64 x1,.int .i64 1] [sZ b0 v0] al:=
 xp (C:=cx) (Vb.Ch 1) Vb.Iu Vb.y_ ⟨[x0,x1],[A0],[],[b0],[v0],[],[],[]⟩ Tryz.func21 (by kernel_rfl) h
def Ev(al:PT)(x0 x1:Int)(A0:Nat→Int)(_:V1)(b0:Nat):Prop:=
 ∀_:Nat,ax (0≤x0) (
 kE ((x0+1)*1) (
 ∀(_:V1) (_:Nat),ax (0≤(x0+1)) (
 ax ((((x0+1)+1)*1)≤140737488355328) (
 ∀(_:V1) (_:Nat),ax (0≤((x0+1)+1)) (
 ax (((((x0+1)+1)+1)*1)≤140737488355328) (
 ∀(_:V1) (_:Nat),ax (0≤(((x0+1)+1)+1)) (
 ax ((((((x0+1)+1)+1)+1)*1)≤140737488355328) (
 ∀v4:V1,al (.int .u64 x1) [cV b0 v4,bp v4 ((((x0+1)+1)+1)+1) (aw (aw (aw (aw A0 (ag x0) (ae .u8 (ar .shr .u64 x1 24))) (ag (x0+1)) (ae .u8 (ar .shr .u64 x1 16))) (ag ((x0+1)+1)) (ae .u8 (ar .shr .u64 x1 8))) (ag (((x0+1)+1)+1)) (ae .u8 (ar .shr .u64 x1 0)))]))))))))
theorem Oe(al:PT)(x0 x1:Int)(A0:Nat→Int)(v0:V1)(b0:Nat)(h:Ev al x0 x1 A0 v0 b0):aq aqQ 21 [pp b0,.int .u64 x1,.int .i64 4] [cV b0 v0,bp v0 x0 A0] al:=
 sW (C:=cx) (Vb.Ch 4) Vb.M6 Vb.y_ ⟨[x0,x1],[A0],[],[b0],[v0],[],[],[]⟩ 2 Tryz.func21 (by kernel_rfl) h
def Ew(al:PT)(x0 _:Int)(A0:Nat→Int)(v0:V1)(b0:Nat):Prop:=
 ax (0≤x0) (
 br (x0<4) (
 al (.int .u64 0) [sZ b0 v0,bf v0 x0 A0]) (
 ax (4≤x0) (
 ax (0<x0) (
 ax (1<x0) (
 ax (2<x0) (
 ax (3<x0) (
 al (.int .u64 (ar .cz .u64 (ar .shl .u64 (ar .cz .u64 (ar .shl .u64 (ar .cz .u64 (ar .shl .u64 (ar .cz .u64 0 (ae .u64 (A0 0))) 8) (ae .u64 (A0 1))) 8) (ae .u64 (A0 2))) 8) (ae .u64 (A0 3)))) [ak b0 true ([.bool false,(aE 1 v0.v 4 (ag x0) none),.bool false]),bf v0 x0 A0])))))))
theorem Og(al:PT)(x0 x1:Int)(A0:Nat→Int)(v0:V1)(b0:Nat)(h:Ew al x0 x1 A0 v0 b0):aq aqQ 21 [pp b0,.int .u64 x1,.int .i64 4] [Ej b0 v0,bf v0 x0 A0] al:=
 sW (C:=cx) (Vb.Ch 4) Vb.Rr Vb.y_ ⟨[x0,x1],[A0],[],[b0],[v0],[],[],[]⟩ 2 Tryz.func21 (by kernel_rfl) h
def Oh(al:PT)(_ _:Int)(_:Nat→Int)(v0:V1)(b0:Nat):Prop:=
 al (.int .u64 0) [sZ b0 v0]
theorem Oi(al:PT)(x0 x1:Int)(A0:Nat→Int)(v0:V1)(b0:Nat)(h:Oh al x0 x1 A0 v0 b0):aq aqQ 21 [pp b0,.int .u64 x1,.int .i64 4] [sZ b0 v0] al:=
 xp (C:=cx) (Vb.Ch 4) Vb.Iu Vb.y_ ⟨[x0,x1],[A0],[],[b0],[v0],[],[],[]⟩ Tryz.func21 (by kernel_rfl) h
def Ex(al:PT)(x0 x1:Int)(A0:Nat→Int)(_:V1)(b0:Nat):Prop:=
 ∀_:Nat,ax (0≤x0) (
 kE ((x0+1)*1) (
 ∀(_:V1) (_:Nat),ax (0≤(x0+1)) (
 ax ((((x0+1)+1)*1)≤140737488355328) (
 ∀(_:V1) (_:Nat),ax (0≤((x0+1)+1)) (
 ax (((((x0+1)+1)+1)*1)≤140737488355328) (
 ∀(_:V1) (_:Nat),ax (0≤(((x0+1)+1)+1)) (
 ax ((((((x0+1)+1)+1)+1)*1)≤140737488355328) (
 ∀(_:V1) (_:Nat),ax (0≤((((x0+1)+1)+1)+1)) (
 ax (((((((x0+1)+1)+1)+1)+1)*1)≤140737488355328) (
 ∀(_:V1) (_:Nat),ax (0≤(((((x0+1)+1)+1)+1)+1)) (
 ax ((((((((x0+1)+1)+1)+1)+1)+1)*1)≤140737488355328) (
 ∀(_:V1) (_:Nat),ax (0≤((((((x0+1)+1)+1)+1)+1)+1)) (
 ax (((((((((x0+1)+1)+1)+1)+1)+1)+1)*1)≤140737488355328) (
 ∀(_:V1) (_:Nat),ax (0≤(((((((x0+1)+1)+1)+1)+1)+1)+1)) (
 ax ((((((((((x0+1)+1)+1)+1)+1)+1)+1)+1)*1)≤140737488355328) (
 ∀v8:V1,al (.int .u64 x1) [cV b0 v8,bp v8 ((((((((x0+1)+1)+1)+1)+1)+1)+1)+1) (aw (aw (aw (aw (aw (aw (aw (aw A0 (ag x0) (ae .u8 (ar .shr .u64 x1 56))) (ag (x0+1)) (ae .u8 (ar .shr .u64 x1 48))) (ag ((x0+1)+1)) (ae .u8 (ar .shr .u64 x1 40))) (ag (((x0+1)+1)+1)) (ae .u8 (ar .shr .u64 x1 32))) (ag ((((x0+1)+1)+1)+1)) (ae .u8 (ar .shr .u64 x1 24))) (ag (((((x0+1)+1)+1)+1)+1)) (ae .u8 (ar .shr .u64 x1 16))) (ag ((((((x0+1)+1)+1)+1)+1)+1)) (ae .u8 (ar .shr .u64 x1 8))) (ag (((((((x0+1)+1)+1)+1)+1)+1)+1)) (ae .u8 (ar .shr .u64 x1 0)))]))))))))))))))))
theorem Oj(al:PT)(x0 x1:Int)(A0:Nat→Int)(v0:V1)(b0:Nat)(h:Ex al x0 x1 A0 v0 b0):aq aqQ 21 [pp b0,.int .u64 x1,.int .i64 8] [cV b0 v0,bp v0 x0 A0] al:=
 sW (C:=cx) (Vb.Ch 8) Vb.M6 Vb.y_ ⟨[x0,x1],[A0],[],[b0],[v0],[],[],[]⟩ 2 Tryz.func21 (by kernel_rfl) h
def Ey(al:PT)(x0 _:Int)(A0:Nat→Int)(v0:V1)(b0:Nat):Prop:=
 ax (0≤x0) (
 br (x0<8) (
 al (.int .u64 0) [sZ b0 v0,bf v0 x0 A0]) (
 ax (8≤x0) (
 ax (0<x0) (
 ax (1<x0) (
 ax (2<x0) (
 ax (3<x0) (
 ax (4<x0) (
 ax (5<x0) (
 ax (6<x0) (
 ax (7<x0) (
 al (.int .u64 (ar .cz .u64 (ar .shl .u64 (ar .cz .u64 (ar .shl .u64 (ar .cz .u64 (ar .shl .u64 (ar .cz .u64 (ar .shl .u64 (ar .cz .u64 (ar .shl .u64 (ar .cz .u64 (ar .shl .u64 (ar .cz .u64 (ar .shl .u64 (ar .cz .u64 0 (ae .u64 (A0 0))) 8) (ae .u64 (A0 1))) 8) (ae .u64 (A0 2))) 8) (ae .u64 (A0 3))) 8) (ae .u64 (A0 4))) 8) (ae .u64 (A0 5))) 8) (ae .u64 (A0 6))) 8) (ae .u64 (A0 7)))) [ak b0 true ([.bool false,(aE 1 v0.v 8 (ag x0) none),.bool false]),bf v0 x0 A0])))))))))))
theorem Ol(al:PT)(x0 x1:Int)(A0:Nat→Int)(v0:V1)(b0:Nat)(h:Ey al x0 x1 A0 v0 b0):aq aqQ 21 [pp b0,.int .u64 x1,.int .i64 8] [Ej b0 v0,bf v0 x0 A0] al:=
 sW (C:=cx) (Vb.Ch 8) Vb.Rr Vb.y_ ⟨[x0,x1],[A0],[],[b0],[v0],[],[],[]⟩ 2 Tryz.func21 (by kernel_rfl) h
def Om(al:PT)(_ _:Int)(_:Nat→Int)(v0:V1)(b0:Nat):Prop:=
 al (.int .u64 0) [sZ b0 v0]
theorem On(al:PT)(x0 x1:Int)(A0:Nat→Int)(v0:V1)(b0:Nat)(h:Om al x0 x1 A0 v0 b0):aq aqQ 21 [pp b0,.int .u64 x1,.int .i64 8] [sZ b0 v0] al:=
 xp (C:=cx) (Vb.Ch 8) Vb.Iu Vb.y_ ⟨[x0,x1],[A0],[],[b0],[v0],[],[],[]⟩ Tryz.func21 (by kernel_rfl) h
def Ez(al:PT)(x0 x1:Int)(A0:Nat→Int)(v0:V1)(b0:Nat):Prop:=
 ax ((x1<0)∨(0≤x0)) (
 br ((x1<0)∨(x0<x1)) (
 al (.slice none 0 0) [sZ b0 v0,bf v0 x0 A0]) (
 ax (0≤x1) (
 ax (x1≤x0) (
 al ((aE 1 v0.v 0 (ag x1) (some (ag x1)))) [ak b0 true ([.bool false,(aE 1 v0.v (ag x1) (ag x0) none),.bool false]),bf v0 x0 A0]))))
theorem Oo(al:PT)(x0 x1:Int)(A0:Nat→Int)(v0:V1)(b0:Nat)(h:Ez al x0 x1 A0 v0 b0):aq aqQ 45 [pp b0,.int .i64 x1] [Ej b0 v0,bf v0 x0 A0] al:=
 xp (C:=cx) Vb.TY Vb.Rr Vb.y_ ⟨[x0,x1],[A0],[],[b0],[v0],[],[],[]⟩ Tryz.func45 (by kernel_rfl) h
def Oq(al:PT)(_ _:Int)(_:Nat→Int)(v0:V1)(b0:Nat):Prop:=
 al (.slice none 0 0) [sZ b0 v0]
theorem Ot(al:PT)(x0 x1:Int)(A0:Nat→Int)(v0:V1)(b0:Nat)(h:Oq al x0 x1 A0 v0 b0):aq aqQ 45 [pp b0,.int .i64 x1] [sZ b0 v0] al:=
 xp (C:=cx) Vb.TY Vb.Iu Vb.y_ ⟨[x0,x1],[A0],[],[b0],[v0],[],[],[]⟩ Tryz.func45 (by kernel_rfl) h
end Go.RX.Vb
