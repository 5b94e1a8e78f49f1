/- The store's walker. -/
import Derived.Test.YtllcdnkfbeokhaaGreatM23
open Go.IntKind renaming wrap -> ae
open Go.Proofs.Tryz renaming prog -> ax8
open Int renaming toNat -> ag
namespace Go.RX.Vb
open Go.RX Go.Proofs
set_option maxRecDepth 100000
def LN(al:PT)(x0 x1 x2 x3 x4 x5 x6 x7 x8 x9 bA bH bR:Int)(A0 A1 A2 A3 A4 A5 A6 A7 A8 A9 dM dx:Nat->Int)(_ v1:V1)(b0 b1:Nat):Prop:=
 ∀_ _:Nat,ay (0<=x0) (
 j8 (x0+32) (
 ∀_:V1,ay (0<=(x0+32)) (
 j8 ((x0+32)+32) (
 ∀_:V1,ay (0<=((x0+32)+32)) (
 ay ((((x0+32)+32)+32)<=140737488355328) (
 ∀_:V1,ay (0<=(((x0+32)+32)+32)) (
 ay (((((x0+32)+32)+32)+32)<=140737488355328) (
 ∀(v5:V1) (b4:Nat),Cl 58 [pp b0,.slice (some ⟨b4,0,none⟩) 4 4] [gu b0 v5,cr v5 ((((x0+32)+32)+32)+32) (bV (bV (bV (bV A0 (ag x0) 32 A1) (ag (x0+32)) 32 A2) (ag ((x0+32)+32)) 32 A3) (ag (((x0+32)+32)+32)) 32 A4),tK b1 A1 A2 A3 A4 (!(x2==0)) (!(x3==0)) (!(x4==0)) (!(x5==0)) A5 x6 A6 x7 x8 v1 A7 A8 (!(x9==0)) bA (!(bH==0)) (!(bR==0)),DP b4 b1] λx hs _=> ∃(v6:V1) (bN:Int) (dC:Nat->Int) (_:Bool),x= .tuple #[]/\hs=[gu b0 v6,cr v6 bN dC,tK b1 A1 A2 A3 A4 (!(x2==0)) (!(x3==0)) (!(x4==0)) (!(x5==0)) A5 x6 A6 x7 x8 v1 A7 A8 (!(x9==0)) bA (!(bH==0)) (!(bR==0)),DP b4 b1]/\
 ∀_:Nat,ay (0<=bN) (
 j8 (bN+32) (
 ∀(v7:V1) (_:Nat),Cl 21 [pp b0,.int .u64 (ae .u64 x6),.int .i64 4] [gu b0 v7,cr v7 (bN+32) (bV dC (ag bN) 32 A5)] <| nV b0 λ_ dP b_ fH _=>
 ∀_:Nat,ay (0<=b_) (
 j8 (b_+32) (
 ∀(v9:V1) (_:Nat),Cl 21 [pp b0,.int .u64 (ae .u64 x7),.int .i64 4] [gu b0 v9,cr v9 (b_+32) (bV fH (ag b_) 32 A6)] <| nV b0 λv10 dD cq gw _=>
 ∀_:Nat,Cl 21 [pp b0,.int .u64 (ae .u64 x8),.int .i64 4] [gu b0 v10,cr v10 cq gw] λx hs _=> ∃(v11:V1) (dt cO:Int) (gx:Nat->Int) (_:Bool),x= .int .u64 dt/\hs=[gu b0 v11,cr v11 cO gx]/\
 ay (0<=x1) (
 Cl 21 [pp b0,.int .u64 (ae .u64 x1),.int .i64 4] [gu b0 v11,cr v11 cO gx] <| nV b0 λxj _ gN fw _=>
 ∃(bO:Ext->Prop) (dG:Ext->Nat),(∃(tL:V1) (eT ff:Int) (eY:Nat->Int) (q5:Bool),eT=0/\tL=xj/\tL=xj/\ff=gN/\cG ff eY fw/\bO ⟨[],[tL],[eT,ff],[eY],[q5],[],[]⟩)/\
 ∀(tL:V1) (eT ff:Int) (eY:Nat->Int) (q5:Bool),bO ⟨[],[tL],[eT,ff],[eY],[q5],[],[]⟩->
 bf (eT<x1) (
 ay (0<=eT) (
 ∀_ _:Nat,ay (0<=ff) (
 j8 (ff+32) (
 ∀(CM:V1) (_:Nat),Cl 21 [pp b0,.int .u64 (ae .u64 (dM (ag eT))),.int .i64 4] [gu b0 CM,cr CM (ff+32) (bV eY (ag ff) 32 (bx A9 (ag (eT*32))))] <| nV b0 λ_ _ i_ eQ _=>
 ∀_:Nat,ay (0<=i_) (
 j8 (i_+32) (
 ∀By:V1,fj (eT+1) ((
 ∃(JX:V1) (RM JY:Int) (Hs:Nat->Int) (q5':Bool),RM=(eT+1)/\JX=By/\JX=By/\JY=(i_+32)/\cG JY Hs (bV eQ (ag i_) 32 (bx dx (ag (eT*32))))/\Dn bO dG ⟨[],[JX],[RM,JY],[Hs],[q5'],[],[]⟩ ⟨[],[tL],[eT,ff],[eY],[q5],[],[]⟩)))))))) (
 ∀_:Nat,ay (0<=ff) (
 j8 (ff+32) (
 ∀_:V1,ay (0<=(ff+32)) (
 j8 ((ff+32)+32) (
 ∀(xk:V1) (DR:Nat),Cl 58 [pp b0,.slice (some ⟨DR,0,none⟩) 1 1] [gu b0 xk,cr xk ((ff+32)+32) (bV (bV eY (ag ff) 32 A7) (ag (ff+32)) 32 A8),tK b1 A1 A2 A3 A4 (!(x2==0)) (!(x3==0)) (!(x4==0)) (!(x5==0)) A5 (ae .u32 dP) A6 (ae .u32 dD) (ae .u32 dt) v1 A7 A8 (!(x9==0)) bA (!(bH==0)) (!(bR==0)),ak DR true ([.pointer (some ⟨b1,264,none⟩)])] λx hs _=> ∃(By:V1) (e9:Int) (eQ:Nat->Int) (_:Bool),x= .tuple #[]/\hs=[gu b0 By,cr By e9 eQ,tK b1 A1 A2 A3 A4 (!(x2==0)) (!(x3==0)) (!(x4==0)) (!(x5==0)) A5 (ae .u32 dP) A6 (ae .u32 dD) (ae .u32 dt) v1 A7 A8 (!(x9==0)) bA (!(bH==0)) (!(bR==0)),ak DR true ([.pointer (some ⟨b1,264,none⟩)])]/\
 ∀_:Nat,Cl 21 [pp b0,.int .u64 (ae .u64 bA),.int .i64 4] [gu b0 By,cr By e9 eQ] λx hs _=> ∃(tM:V1) (i_ ki:Int) (fb:Nat->Int) (_:Bool),x= .int .u64 i_/\hs=[gu b0 tM,cr tM ki fb]/\
 ∀Jf:Nat,Cl 58 [pp b0,.slice (some ⟨Jf,0,none⟩) 2 2] [gu b0 tM,cr tM ki fb,tK b1 A1 A2 A3 A4 (!(x2==0)) (!(x3==0)) (!(x4==0)) (!(x5==0)) A5 (ae .u32 dP) A6 (ae .u32 dD) (ae .u32 dt) v1 A7 A8 (!(x9==0)) (ae .u32 i_) (!(bH==0)) (!(bR==0)),JV Jf b1] λx hs _=> ∃(tw:V1) (iM:Int) (fg:Nat->Int) (_:Bool),x= .tuple #[]/\hs=[gu b0 tw,cr tw iM fg,tK b1 A1 A2 A3 A4 (!(x2==0)) (!(x3==0)) (!(x4==0)) (!(x5==0)) A5 (ae .u32 dP) A6 (ae .u32 dD) (ae .u32 dt) v1 A7 A8 (!(x9==0)) (ae .u32 i_) (!(bH==0)) (!(bR==0)),JV Jf b1]/\
 al (.tuple #[]) [gu b0 tw,cr tw iM fg,tK b1 A1 A2 A3 A4 (!(x2==0)) (!(x3==0)) (!(x4==0)) (!(x5==0)) A5 (ae .u32 dP) A6 (ae .u32 dD) (ae .u32 dt) v1 A7 A8 (!(x9==0)) (ae .u32 i_) (!(bH==0)) (!(bR==0)),aA false 245 65 v1.v (ag x1) (aG (ag x1) [ax .u8 32 A9,ax .u32 1 dM,ax .u8 32 dx])]))))))))))))))))))
theorem Ww(al:PT)(x0 x1 x2 x3 x4 x5 x6 x7 x8 x9 bA bH bR:Int)(A0 A1 A2 A3 A4 A5 A6 A7 A8 A9 dM dx:Nat->Int)(v0 v1:V1)(b0 b1:Nat)(h:LN al x0 x1 x2 x3 x4 x5 x6 x7 x8 x9 bA bH bR A0 A1 A2 A3 A4 A5 A6 A7 A8 A9 dM dx v0 v1 b0 b1):ao ax8 105 [pp b0,pp b1] [gu b0 v0,cr v0 x0 A0,tK b1 A1 A2 A3 A4 (!(x2==0)) (!(x3==0)) (!(x4==0)) (!(x5==0)) A5 x6 A6 x7 x8 v1 A7 A8 (!(x9==0)) bA (!(bH==0)) (!(bR==0)),aA false 245 65 v1.v (ag x1) (aG (ag x1) [ax .u8 32 A9,ax .u32 1 dM,ax .u8 32 dx])] al:=
 qv (C:=akD) Vc.Wn Vc.akw Vc.afl ⟨[x0,x1,x2,x3,x4,x5,x6,x7,x8,x9,bA,bH,bR],[A0,A1,A2,A3,A4,A5,A6,A7,A8,A9,dM,dx],[],[b0,b1],[v0,v1],[],[],[]⟩ 4 Tryz.func105 (by kernel_rfl) h
open Go.RX Go.Proofs
set_option maxRecDepth 100000
set_option maxHeartbeats 4000000
def RN(al:PT)(x0 _ x2 x3 x4 x5 x6 x7 x8 x9 bA bH bR:Int)(A0 A1 A2 A3 A4 A5 A6 A7 A8:Nat->Int)(v0 v1:V1)(b0 b1 b2:Nat):Prop:=
 bf (x2≠0) (
 Cl 21 [pp b0,.int .u64 1,.int .i64 1] [gu b0 v0,cr v0 x0 A0] <| nV b0 λv2 bN dP A9 _=>
 bf (x3≠0) (
 Cl 21 [pp b0,.int .u64 1,.int .i64 1] [lB b0 v2 (decide (1<bN)),cr v2 dP A9] <| Y7 b0 bN λv3 b_ dD dM _=>
 bf (x4≠0) (
 Cl 21 [pp b0,.int .u64 1,.int .i64 1] [lB b0 v3 ((decide (1<bN))||(decide (1<b_))),cr v3 dD dM] <| Y8 b0 bN b_ λv4 cq dt dx _=>
 bf (x5≠0) (
 Cl 21 [pp b0,.int .u64 1,.int .i64 1] [lB b0 v4 (((decide (1<bN))||(decide (1<b_)))||(decide (1<cq))),cr v4 dt dx] <| Je b0 bN b_ cq λv5 cO d_ dC _=>
 al (.tuple #[]) [lB b0 v5 ((((decide (1<bN))||(decide (1<b_)))||(decide (1<cq)))||(decide (1<cO))),cr v5 d_ dC,tK b1 A1 A2 A3 A4 (bN==1) (b_==1) (cq==1) (cO==1) A5 x6 A6 x7 x8 v1 A7 A8 (!(x9==0)) bA (!(bH==0)) (!(bR==0)),DP b2 b1]) (
 Cl 21 [pp b0,.int .u64 0,.int .i64 1] [lB b0 v4 (((decide (1<bN))||(decide (1<b_)))||(decide (1<cq))),cr v4 dt dx] <| Je b0 bN b_ cq λv5 cO d_ dC _=>
 al (.tuple #[]) [lB b0 v5 ((((decide (1<bN))||(decide (1<b_)))||(decide (1<cq)))||(decide (1<cO))),cr v5 d_ dC,tK b1 A1 A2 A3 A4 (bN==1) (b_==1) (cq==1) (cO==1) A5 x6 A6 x7 x8 v1 A7 A8 (!(x9==0)) bA (!(bH==0)) (!(bR==0)),DP b2 b1])) (
 Cl 21 [pp b0,.int .u64 0,.int .i64 1] [lB b0 v3 ((decide (1<bN))||(decide (1<b_))),cr v3 dD dM] <| Y8 b0 bN b_ λv4 cq dt dx _=>
 bf (x5≠0) (
 Cl 21 [pp b0,.int .u64 1,.int .i64 1] [lB b0 v4 (((decide (1<bN))||(decide (1<b_)))||(decide (1<cq))),cr v4 dt dx] <| Je b0 bN b_ cq λv5 cO d_ dC _=>
 al (.tuple #[]) [lB b0 v5 ((((decide (1<bN))||(decide (1<b_)))||(decide (1<cq)))||(decide (1<cO))),cr v5 d_ dC,tK b1 A1 A2 A3 A4 (bN==1) (b_==1) (cq==1) (cO==1) A5 x6 A6 x7 x8 v1 A7 A8 (!(x9==0)) bA (!(bH==0)) (!(bR==0)),DP b2 b1]) (
 Cl 21 [pp b0,.int .u64 0,.int .i64 1] [lB b0 v4 (((decide (1<bN))||(decide (1<b_)))||(decide (1<cq))),cr v4 dt dx] <| Je b0 bN b_ cq λv5 cO d_ dC _=>
 al (.tuple #[]) [lB b0 v5 ((((decide (1<bN))||(decide (1<b_)))||(decide (1<cq)))||(decide (1<cO))),cr v5 d_ dC,tK b1 A1 A2 A3 A4 (bN==1) (b_==1) (cq==1) (cO==1) A5 x6 A6 x7 x8 v1 A7 A8 (!(x9==0)) bA (!(bH==0)) (!(bR==0)),DP b2 b1]))) (
 Cl 21 [pp b0,.int .u64 0,.int .i64 1] [lB b0 v2 (decide (1<bN)),cr v2 dP A9] <| Y7 b0 bN λv3 b_ dD dM _=>
 bf (x4≠0) (
 Cl 21 [pp b0,.int .u64 1,.int .i64 1] [lB b0 v3 ((decide (1<bN))||(decide (1<b_))),cr v3 dD dM] <| Y8 b0 bN b_ λv4 cq dt dx _=>
 bf (x5≠0) (
 Cl 21 [pp b0,.int .u64 1,.int .i64 1] [lB b0 v4 (((decide (1<bN))||(decide (1<b_)))||(decide (1<cq))),cr v4 dt dx] <| Je b0 bN b_ cq λv5 cO d_ dC _=>
 al (.tuple #[]) [lB b0 v5 ((((decide (1<bN))||(decide (1<b_)))||(decide (1<cq)))||(decide (1<cO))),cr v5 d_ dC,tK b1 A1 A2 A3 A4 (bN==1) (b_==1) (cq==1) (cO==1) A5 x6 A6 x7 x8 v1 A7 A8 (!(x9==0)) bA (!(bH==0)) (!(bR==0)),DP b2 b1]) (
 Cl 21 [pp b0,.int .u64 0,.int .i64 1] [lB b0 v4 (((decide (1<bN))||(decide (1<b_)))||(decide (1<cq))),cr v4 dt dx] <| Je b0 bN b_ cq λv5 cO d_ dC _=>
 al (.tuple #[]) [lB b0 v5 ((((decide (1<bN))||(decide (1<b_)))||(decide (1<cq)))||(decide (1<cO))),cr v5 d_ dC,tK b1 A1 A2 A3 A4 (bN==1) (b_==1) (cq==1) (cO==1) A5 x6 A6 x7 x8 v1 A7 A8 (!(x9==0)) bA (!(bH==0)) (!(bR==0)),DP b2 b1])) (
 Cl 21 [pp b0,.int .u64 0,.int .i64 1] [lB b0 v3 ((decide (1<bN))||(decide (1<b_))),cr v3 dD dM] <| Y8 b0 bN b_ λv4 cq dt dx _=>
 bf (x5≠0) (
 Cl 21 [pp b0,.int .u64 1,.int .i64 1] [lB b0 v4 (((decide (1<bN))||(decide (1<b_)))||(decide (1<cq))),cr v4 dt dx] <| Je b0 bN b_ cq λv5 cO d_ dC _=>
 al (.tuple #[]) [lB b0 v5 ((((decide (1<bN))||(decide (1<b_)))||(decide (1<cq)))||(decide (1<cO))),cr v5 d_ dC,tK b1 A1 A2 A3 A4 (bN==1) (b_==1) (cq==1) (cO==1) A5 x6 A6 x7 x8 v1 A7 A8 (!(x9==0)) bA (!(bH==0)) (!(bR==0)),DP b2 b1]) (
 Cl 21 [pp b0,.int .u64 0,.int .i64 1] [lB b0 v4 (((decide (1<bN))||(decide (1<b_)))||(decide (1<cq))),cr v4 dt dx] <| Je b0 bN b_ cq λv5 cO d_ dC _=>
 al (.tuple #[]) [lB b0 v5 ((((decide (1<bN))||(decide (1<b_)))||(decide (1<cq)))||(decide (1<cO))),cr v5 d_ dC,tK b1 A1 A2 A3 A4 (bN==1) (b_==1) (cq==1) (cO==1) A5 x6 A6 x7 x8 v1 A7 A8 (!(x9==0)) bA (!(bH==0)) (!(bR==0)),DP b2 b1])))) (
 Cl 21 [pp b0,.int .u64 0,.int .i64 1] [gu b0 v0,cr v0 x0 A0] <| nV b0 λv2 bN dP A9 _=>
 bf (x3≠0) (
 Cl 21 [pp b0,.int .u64 1,.int .i64 1] [lB b0 v2 (decide (1<bN)),cr v2 dP A9] <| Y7 b0 bN λv3 b_ dD dM _=>
 bf (x4≠0) (
 Cl 21 [pp b0,.int .u64 1,.int .i64 1] [lB b0 v3 ((decide (1<bN))||(decide (1<b_))),cr v3 dD dM] <| Y8 b0 bN b_ λv4 cq dt dx _=>
 bf (x5≠0) (
 Cl 21 [pp b0,.int .u64 1,.int .i64 1] [lB b0 v4 (((decide (1<bN))||(decide (1<b_)))||(decide (1<cq))),cr v4 dt dx] <| Je b0 bN b_ cq λv5 cO d_ dC _=>
 al (.tuple #[]) [lB b0 v5 ((((decide (1<bN))||(decide (1<b_)))||(decide (1<cq)))||(decide (1<cO))),cr v5 d_ dC,tK b1 A1 A2 A3 A4 (bN==1) (b_==1) (cq==1) (cO==1) A5 x6 A6 x7 x8 v1 A7 A8 (!(x9==0)) bA (!(bH==0)) (!(bR==0)),DP b2 b1]) (
 Cl 21 [pp b0,.int .u64 0,.int .i64 1] [lB b0 v4 (((decide (1<bN))||(decide (1<b_)))||(decide (1<cq))),cr v4 dt dx] <| Je b0 bN b_ cq λv5 cO d_ dC _=>
 al (.tuple #[]) [lB b0 v5 ((((decide (1<bN))||(decide (1<b_)))||(decide (1<cq)))||(decide (1<cO))),cr v5 d_ dC,tK b1 A1 A2 A3 A4 (bN==1) (b_==1) (cq==1) (cO==1) A5 x6 A6 x7 x8 v1 A7 A8 (!(x9==0)) bA (!(bH==0)) (!(bR==0)),DP b2 b1])) (
 Cl 21 [pp b0,.int .u64 0,.int .i64 1] [lB b0 v3 ((decide (1<bN))||(decide (1<b_))),cr v3 dD dM] <| Y8 b0 bN b_ λv4 cq dt dx _=>
 bf (x5≠0) (
 Cl 21 [pp b0,.int .u64 1,.int .i64 1] [lB b0 v4 (((decide (1<bN))||(decide (1<b_)))||(decide (1<cq))),cr v4 dt dx] <| Je b0 bN b_ cq λv5 cO d_ dC _=>
 al (.tuple #[]) [lB b0 v5 ((((decide (1<bN))||(decide (1<b_)))||(decide (1<cq)))||(decide (1<cO))),cr v5 d_ dC,tK b1 A1 A2 A3 A4 (bN==1) (b_==1) (cq==1) (cO==1) A5 x6 A6 x7 x8 v1 A7 A8 (!(x9==0)) bA (!(bH==0)) (!(bR==0)),DP b2 b1]) (
 Cl 21 [pp b0,.int .u64 0,.int .i64 1] [lB b0 v4 (((decide (1<bN))||(decide (1<b_)))||(decide (1<cq))),cr v4 dt dx] <| Je b0 bN b_ cq λv5 cO d_ dC _=>
 al (.tuple #[]) [lB b0 v5 ((((decide (1<bN))||(decide (1<b_)))||(decide (1<cq)))||(decide (1<cO))),cr v5 d_ dC,tK b1 A1 A2 A3 A4 (bN==1) (b_==1) (cq==1) (cO==1) A5 x6 A6 x7 x8 v1 A7 A8 (!(x9==0)) bA (!(bH==0)) (!(bR==0)),DP b2 b1]))) (
 Cl 21 [pp b0,.int .u64 0,.int .i64 1] [lB b0 v2 (decide (1<bN)),cr v2 dP A9] <| Y7 b0 bN λv3 b_ dD dM _=>
 bf (x4≠0) (
 Cl 21 [pp b0,.int .u64 1,.int .i64 1] [lB b0 v3 ((decide (1<bN))||(decide (1<b_))),cr v3 dD dM] <| Y8 b0 bN b_ λv4 cq dt dx _=>
 bf (x5≠0) (
 Cl 21 [pp b0,.int .u64 1,.int .i64 1] [lB b0 v4 (((decide (1<bN))||(decide (1<b_)))||(decide (1<cq))),cr v4 dt dx] <| Je b0 bN b_ cq λv5 cO d_ dC _=>
 al (.tuple #[]) [lB b0 v5 ((((decide (1<bN))||(decide (1<b_)))||(decide (1<cq)))||(decide (1<cO))),cr v5 d_ dC,tK b1 A1 A2 A3 A4 (bN==1) (b_==1) (cq==1) (cO==1) A5 x6 A6 x7 x8 v1 A7 A8 (!(x9==0)) bA (!(bH==0)) (!(bR==0)),DP b2 b1]) (
 Cl 21 [pp b0,.int .u64 0,.int .i64 1] [lB b0 v4 (((decide (1<bN))||(decide (1<b_)))||(decide (1<cq))),cr v4 dt dx] <| Je b0 bN b_ cq λv5 cO d_ dC _=>
 al (.tuple #[]) [lB b0 v5 ((((decide (1<bN))||(decide (1<b_)))||(decide (1<cq)))||(decide (1<cO))),cr v5 d_ dC,tK b1 A1 A2 A3 A4 (bN==1) (b_==1) (cq==1) (cO==1) A5 x6 A6 x7 x8 v1 A7 A8 (!(x9==0)) bA (!(bH==0)) (!(bR==0)),DP b2 b1])) (
 Cl 21 [pp b0,.int .u64 0,.int .i64 1] [lB b0 v3 ((decide (1<bN))||(decide (1<b_))),cr v3 dD dM] <| Y8 b0 bN b_ λv4 cq dt dx _=>
 bf (x5≠0) (
 Cl 21 [pp b0,.int .u64 1,.int .i64 1] [lB b0 v4 (((decide (1<bN))||(decide (1<b_)))||(decide (1<cq))),cr v4 dt dx] <| Je b0 bN b_ cq λv5 cO d_ dC _=>
 al (.tuple #[]) [lB b0 v5 ((((decide (1<bN))||(decide (1<b_)))||(decide (1<cq)))||(decide (1<cO))),cr v5 d_ dC,tK b1 A1 A2 A3 A4 (bN==1) (b_==1) (cq==1) (cO==1) A5 x6 A6 x7 x8 v1 A7 A8 (!(x9==0)) bA (!(bH==0)) (!(bR==0)),DP b2 b1]) (
 Cl 21 [pp b0,.int .u64 0,.int .i64 1] [lB b0 v4 (((decide (1<bN))||(decide (1<b_)))||(decide (1<cq))),cr v4 dt dx] <| Je b0 bN b_ cq λv5 cO d_ dC _=>
 al (.tuple #[]) [lB b0 v5 ((((decide (1<bN))||(decide (1<b_)))||(decide (1<cq)))||(decide (1<cO))),cr v5 d_ dC,tK b1 A1 A2 A3 A4 (bN==1) (b_==1) (cq==1) (cO==1) A5 x6 A6 x7 x8 v1 A7 A8 (!(x9==0)) bA (!(bH==0)) (!(bR==0)),DP b2 b1]))))
theorem aaz(al:PT)(x0 x1 x2 x3 x4 x5 x6 x7 x8 x9 bA bH bR:Int)(A0 A1 A2 A3 A4 A5 A6 A7 A8:Nat->Int)(v0 v1:V1)(b0 b1 b2:Nat)(h:RN al x0 x1 x2 x3 x4 x5 x6 x7 x8 x9 bA bH bR A0 A1 A2 A3 A4 A5 A6 A7 A8 v0 v1 b0 b1 b2):ao ax8 58 [pp b0,.slice (some ⟨b2,0,none⟩) 4 4] [gu b0 v0,cr v0 x0 A0,tK b1 A1 A2 A3 A4 (!(x2==0)) (!(x3==0)) (!(x4==0)) (!(x5==0)) A5 x6 A6 x7 x8 v1 A7 A8 (!(x9==0)) bA (!(bH==0)) (!(bR==0)),DP b2 b1] al:=
 vm (C:=cxF) (flS 4) (Vc.G6++[.row 1 true (Vc.Ri 2 1 1),flP [128,129,130,131]]) {b:=3,v:=2,i:=13,a:=9} ⟨[x0,x1,x2,x3,x4,x5,x6,x7,x8,x9,bA,bH,bR],[A0,A1,A2,A3,A4,A5,A6,A7,A8],[],[b0,b1,b2],[v0,v1],[],[],[]⟩ Tryz.func58 (by kernel_rfl) h
def RO(al:PT)(x0 _ x2 x3 x4 x5 x6 x7 x8 x9 bA bH bR:Int)(A0 A1 A2 A3 A4 A5 A6 A7 A8:Nat->Int)(v0 v1:V1)(b0 b1 b2:Nat):Prop:=
 bf (x9≠0) (
 Cl 21 [pp b0,.int .u64 1,.int .i64 1] [gu b0 v0,cr v0 x0 A0] <| nV b0 λv2 bN dP A9 _=>
 al (.tuple #[]) [lB b0 v2 (decide (1<bN)),cr v2 dP A9,tK b1 A1 A2 A3 A4 (!(x2==0)) (!(x3==0)) (!(x4==0)) (!(x5==0)) A5 x6 A6 x7 x8 v1 A7 A8 (bN==1) bA (!(bH==0)) (!(bR==0)),ak b2 true ([.pointer (some ⟨b1,264,none⟩)])]) (
 Cl 21 [pp b0,.int .u64 0,.int .i64 1] [gu b0 v0,cr v0 x0 A0] <| nV b0 λv2 bN dP A9 _=>
 al (.tuple #[]) [lB b0 v2 (decide (1<bN)),cr v2 dP A9,tK b1 A1 A2 A3 A4 (!(x2==0)) (!(x3==0)) (!(x4==0)) (!(x5==0)) A5 x6 A6 x7 x8 v1 A7 A8 (bN==1) bA (!(bH==0)) (!(bR==0)),ak b2 true ([.pointer (some ⟨b1,264,none⟩)])])
theorem aaA(al:PT)(x0 x1 x2 x3 x4 x5 x6 x7 x8 x9 bA bH bR:Int)(A0 A1 A2 A3 A4 A5 A6 A7 A8:Nat->Int)(v0 v1:V1)(b0 b1 b2:Nat)(h:RO al x0 x1 x2 x3 x4 x5 x6 x7 x8 x9 bA bH bR A0 A1 A2 A3 A4 A5 A6 A7 A8 v0 v1 b0 b1 b2):ao ax8 58 [pp b0,.slice (some ⟨b2,0,none⟩) 1 1] [gu b0 v0,cr v0 x0 A0,tK b1 A1 A2 A3 A4 (!(x2==0)) (!(x3==0)) (!(x4==0)) (!(x5==0)) A5 x6 A6 x7 x8 v1 A7 A8 (!(x9==0)) bA (!(bH==0)) (!(bR==0)),ak b2 true ([.pointer (some ⟨b1,264,none⟩)])] al:=
 vm (C:=cxF) (flS 1) (Vc.G6++[.row 1 true (Vc.Ri 2 1 1),flP [264]]) {b:=3,v:=2,i:=13,a:=9} ⟨[x0,x1,x2,x3,x4,x5,x6,x7,x8,x9,bA,bH,bR],[A0,A1,A2,A3,A4,A5,A6,A7,A8],[],[b0,b1,b2],[v0,v1],[],[],[]⟩ Tryz.func58 (by kernel_rfl) h
def RP(al:PT)(x0 _ x2 x3 x4 x5 x6 x7 x8 x9 bA bH bR:Int)(A0 A1 A2 A3 A4 A5 A6 A7 A8:Nat->Int)(v0 v1:V1)(b0 b1 b2:Nat):Prop:=
 bf (bH≠0) (
 Cl 21 [pp b0,.int .u64 1,.int .i64 1] [gu b0 v0,cr v0 x0 A0] <| nV b0 λv2 bN dP A9 _=>
 bf (bR≠0) (
 Cl 21 [pp b0,.int .u64 1,.int .i64 1] [lB b0 v2 (decide (1<bN)),cr v2 dP A9] <| Y7 b0 bN λv3 b_ dD dM _=>
 al (.tuple #[]) [lB b0 v3 ((decide (1<bN))||(decide (1<b_))),cr v3 dD dM,tK b1 A1 A2 A3 A4 (!(x2==0)) (!(x3==0)) (!(x4==0)) (!(x5==0)) A5 x6 A6 x7 x8 v1 A7 A8 (!(x9==0)) bA (bN==1) (b_==1),JV b2 b1]) (
 Cl 21 [pp b0,.int .u64 0,.int .i64 1] [lB b0 v2 (decide (1<bN)),cr v2 dP A9] <| Y7 b0 bN λv3 b_ dD dM _=>
 al (.tuple #[]) [lB b0 v3 ((decide (1<bN))||(decide (1<b_))),cr v3 dD dM,tK b1 A1 A2 A3 A4 (!(x2==0)) (!(x3==0)) (!(x4==0)) (!(x5==0)) A5 x6 A6 x7 x8 v1 A7 A8 (!(x9==0)) bA (bN==1) (b_==1),JV b2 b1])) (
 Cl 21 [pp b0,.int .u64 0,.int .i64 1] [gu b0 v0,cr v0 x0 A0] <| nV b0 λv2 bN dP A9 _=>
 bf (bR≠0) (
 Cl 21 [pp b0,.int .u64 1,.int .i64 1] [lB b0 v2 (decide (1<bN)),cr v2 dP A9] <| Y7 b0 bN λv3 b_ dD dM _=>
 al (.tuple #[]) [lB b0 v3 ((decide (1<bN))||(decide (1<b_))),cr v3 dD dM,tK b1 A1 A2 A3 A4 (!(x2==0)) (!(x3==0)) (!(x4==0)) (!(x5==0)) A5 x6 A6 x7 x8 v1 A7 A8 (!(x9==0)) bA (bN==1) (b_==1),JV b2 b1]) (
 Cl 21 [pp b0,.int .u64 0,.int .i64 1] [lB b0 v2 (decide (1<bN)),cr v2 dP A9] <| Y7 b0 bN λv3 b_ dD dM _=>
 al (.tuple #[]) [lB b0 v3 ((decide (1<bN))||(decide (1<b_))),cr v3 dD dM,tK b1 A1 A2 A3 A4 (!(x2==0)) (!(x3==0)) (!(x4==0)) (!(x5==0)) A5 x6 A6 x7 x8 v1 A7 A8 (!(x9==0)) bA (bN==1) (b_==1),JV b2 b1]))
theorem aaB(al:PT)(x0 x1 x2 x3 x4 x5 x6 x7 x8 x9 bA bH bR:Int)(A0 A1 A2 A3 A4 A5 A6 A7 A8:Nat->Int)(v0 v1:V1)(b0 b1 b2:Nat)(h:RP al x0 x1 x2 x3 x4 x5 x6 x7 x8 x9 bA bH bR A0 A1 A2 A3 A4 A5 A6 A7 A8 v0 v1 b0 b1 b2):ao ax8 58 [pp b0,.slice (some ⟨b2,0,none⟩) 2 2] [gu b0 v0,cr v0 x0 A0,tK b1 A1 A2 A3 A4 (!(x2==0)) (!(x3==0)) (!(x4==0)) (!(x5==0)) A5 x6 A6 x7 x8 v1 A7 A8 (!(x9==0)) bA (!(bH==0)) (!(bR==0)),JV b2 b1] al:=
 vm (C:=cxF) (flS 2) (Vc.G6++[.row 1 true (Vc.Ri 2 1 1),flP [266,267]]) {b:=3,v:=2,i:=13,a:=9} ⟨[x0,x1,x2,x3,x4,x5,x6,x7,x8,x9,bA,bH,bR],[A0,A1,A2,A3,A4,A5,A6,A7,A8],[],[b0,b1,b2],[v0,v1],[],[],[]⟩ Tryz.func58 (by kernel_rfl) h
def RQ(al:PT)(x0 x1 x2 x3 x4 x5 x6 x7 x8 x9 bA bH bR bN dP b_ dD cq dt:Int)(A0 A1 A2 A3 A4 A5 A6 A7 A8:Nat->Int)(v0 v1 v2 v3 v4 v5 v6 v7:V1)(b0 b1 b2:Nat):Prop:=
 bf (x8≠0) (
 Cl 21 [pp b0,.int .u64 1,.int .i64 1] [gu b0 v0,cr v0 x0 A0] <| nV b0 λv8 cO d_ A9 _=>
 al (.tuple #[]) [lB b0 v8 (decide (1<cO)),cr v8 d_ A9,Rs b1 A1 x1 x2 x3 A2 A3 v1 x4 v2 x5 x6 A4 v3 x7 A5 (cO==1) x9 bA bH A6 A7 A8 v4 bR v5 bN dP b_ dD cq dt v6 v7,JW b2 b1]) (
 Cl 21 [pp b0,.int .u64 0,.int .i64 1] [gu b0 v0,cr v0 x0 A0] <| nV b0 λv8 cO d_ A9 _=>
 al (.tuple #[]) [lB b0 v8 (decide (1<cO)),cr v8 d_ A9,Rs b1 A1 x1 x2 x3 A2 A3 v1 x4 v2 x5 x6 A4 v3 x7 A5 (cO==1) x9 bA bH A6 A7 A8 v4 bR v5 bN dP b_ dD cq dt v6 v7,JW b2 b1])
theorem aaC(al:PT)(x0 x1 x2 x3 x4 x5 x6 x7 x8 x9 bA bH bR bN dP b_ dD cq dt:Int)(A0 A1 A2 A3 A4 A5 A6 A7 A8:Nat->Int)(v0 v1 v2 v3 v4 v5 v6 v7:V1)(b0 b1 b2:Nat)(h:RQ al x0 x1 x2 x3 x4 x5 x6 x7 x8 x9 bA bH bR bN dP b_ dD cq dt A0 A1 A2 A3 A4 A5 A6 A7 A8 v0 v1 v2 v3 v4 v5 v6 v7 b0 b1 b2):ao ax8 58 [pp b0,.slice (some ⟨b2,0,none⟩) 1 1] [gu b0 v0,cr v0 x0 A0,Rs b1 A1 x1 x2 x3 A2 A3 v1 x4 v2 x5 x6 A4 v3 x7 A5 (!(x8==0)) x9 bA bH A6 A7 A8 v4 bR v5 bN dP b_ dD cq dt v6 v7,JW b2 b1] al:=
 vm (C:=cxF) (flS 1) (Vc.G6++[.row 1 true (Vd.Rm 1 1 1),flP [130]]) {b:=3,v:=8,i:=19,a:=9} ⟨[x0,x1,x2,x3,x4,x5,x6,x7,x8,x9,bA,bH,bR,bN,dP,b_,dD,cq,dt],[A0,A1,A2,A3,A4,A5,A6,A7,A8],[],[b0,b1,b2],[v0,v1,v2,v3,v4,v5,v6,v7],[],[],[]⟩ Tryz.func58 (by kernel_rfl) h
def RR(al:PT)(x0 x1 x2 x3:Int)(A0 A1:Nat->Int)(v0:V1)(b0 b1 b2:Nat):Prop:=
 bf (x2≠0) (
 Cl 21 [pp b0,.int .u64 1,.int .i64 1] [gu b0 v0,cr v0 x0 A0] <| nV b0 λv1 x4 x5 A2 _=>
 al (.tuple #[]) [lB b0 v1 (decide (1<x4)),cr v1 x5 A2,G8 b1 A1 x1 (x4==1) x3,ak b2 true ([.pointer (some ⟨b1,17,none⟩)])]) (
 Cl 21 [pp b0,.int .u64 0,.int .i64 1] [gu b0 v0,cr v0 x0 A0] <| nV b0 λv1 x4 x5 A2 _=>
 al (.tuple #[]) [lB b0 v1 (decide (1<x4)),cr v1 x5 A2,G8 b1 A1 x1 (x4==1) x3,ak b2 true ([.pointer (some ⟨b1,17,none⟩)])])
theorem aaD(al:PT)(x0 x1 x2 x3:Int)(A0 A1:Nat->Int)(v0:V1)(b0 b1 b2:Nat)(h:RR al x0 x1 x2 x3 A0 A1 v0 b0 b1 b2):ao ax8 58 [pp b0,.slice (some ⟨b2,0,none⟩) 1 1] [gu b0 v0,cr v0 x0 A0,G8 b1 A1 x1 (!(x2==0)) x3,ak b2 true ([.pointer (some ⟨b1,17,none⟩)])] al:=
 vm (C:=cxF) (flS 1) (Vc.G6++[.row 1 true [Vd.sg 16 1,Vb.u8 1,Vc.bl 2,Vb.u64 3],flP [17]]) {b:=3,v:=1,i:=4,a:=2} ⟨[x0,x1,x2,x3],[A0,A1],[],[b0,b1,b2],[v0],[],[],[]⟩ Tryz.func58 (by kernel_rfl) h
end Go.RX.Vb

namespace Go.RX
theorem bq.tN(t s:Nat):bq [] [aA true t s (.slice none 0 0) 0 []]:=by
 intro w Fs ⟨S,hS⟩;refine⟨λi=>match i with | 0=>λ_=>False | i+1=>S i,⟨?_,?_⟩⟩
 .intro i x hx
  match i,hx with
  | 0,hx=>
   simp at hx;subst hx;exact⟨⟨by simp only[if_true];exact qN w t s,λk=>⟨False.elim,λh=>by simp[Value.ownBlock]at h⟩⟩,λk h=>h.elim⟩
  | i+1,hx=>exact hS.at_ i x (by simpa using hx)
 .intro i j x y fL hx hy hw k
  match i,j,fL,hx,hy with
  | 0,_,_,_,_=>exact λh=>h.elim
  | i+1,0,_,_,_=>exact λ_ h=>h
  | i+1,j+1,fL,hx,hy=>exact hS.apart i j x y (by omega) (by simpa using hx) (by simpa using hy) hw k
theorem bq.see{a:List HP}(i:Nat){t s n:Nat}{v:Value}{cs:List Value}(h:a[i]? =some (aA true t s v n cs)):bq a (a.set i (aA false t s v n cs)):=
 bq.put i _ _ h (λh=>by cases h) λ_ _ hp=>⟨_,λ_ hk=>hk.1,Br hp⟩
theorem bq.front{A a b:List HP}(h:bq a b):bq (A++a) (A++b):=by
 refine bq.trans (bq.perm List.perm_append_comm) (bq.trans (bq.frame h A) (bq.perm List.perm_append_comm))
theorem bq.dup{h:HP}(hw:h.wr=false)(r:List HP):bq (h::r) (h::h::r):=λ_ _ ho=>aU.dup hw ho
end Go.RX
namespace Go.RX.Vb
open Go Go.RX Go.Proofs Go.Vs
def nk(n:Nat)(o:tq):List Nat×tq:=(take n o).elim ([],none) λp=>(p.1,some p.2)
theorem yY(b:Nat)(v:V1)(q:Bool)(l:List Nat)(hb:hZ l)(n:Nat):ao ax8 45 [wP b,.int .i64 (n:Int)] [dB b false v.v q,aN false v.v l]
  λr hs=> ∃(o v':V1) (q':Bool) (l' m:List Nat),r=o.v/\hs=[dB b false v'.v q',aN false v'.v l',aN false o.v m]/\(m,ct q' l')=nk n (ct q l)/\hZ l'/\hZ m:=by
 have DS:hZ []:=⟨λx hx=>(nomatch hx),by simp⟩;have nl: ∀{A:List HP},bq A (A++[aN false (.slice none 0 0) []]):=λ{A}=>by
  have:=bq.front (A:=A) (bq.trans (bq.tN 5 1) (bq.see 0 rfl))
  rwa[List.append_nil]at this
 cases q with
 | true=>
  refine(ao.frame (RK (λr hs=>r= .slice none 0 0/\hs=[dB b false v.v true]) 0 (n:Int) (λ_=>0) v b ⟨rfl,rfl⟩) [aN false v.v l]).post ?_;rintro r hs ⟨lU,rfl,rfl,rfl⟩;exact⟨_,nl,⟨.slice none 0 0,rfl⟩,v,true,l,[],rfl,rfl,rfl,hb,DS⟩
 | false=>
  refine ao.post (RI (λr hs=>if l.length<n then r= .slice none 0 0/\hs=[dB b false v.v true,aN false v.v l]else r=aK 1 v.v 0 n (some n)/\hs=[dB b false (aK 1 v.v n l.length none) false,aN false v.v l]) (l.length:Int) (n:Int) (aJ l) v b ?_) ?_
  .unfold Hi;refine⟨by omega,λ_=>⟨λh=>?_,λh=>?_⟩⟩
   .dsimp only;rw[if_pos (by omega)];exact⟨rfl,rfl⟩
   .refine⟨by omega,λ_=>⟨by omega,λ_=>?_⟩⟩;dsimp only;rw[if_neg (by omega)];exact⟨rfl,rfl⟩
  .intro r hs h;by_cases hl:l.length<n
   .rw [if_pos hl]at h;obtain⟨rfl,rfl⟩:=h;have e:nk n (ct false l)=([],none):=by simp only[nk,ct,take,Bool.false_eq_true,if_false,show¬n<=l.length by omega];rfl
    rw[e];exact⟨_,nl,⟨.slice none 0 0,rfl⟩,v,true,l,[],rfl,rfl,rfl,hb,DS⟩
   .rw [if_neg hl]at h;obtain⟨rfl,rfl⟩:=h;have e:nk n (ct false l)=(l.take n,some (l.drop n)):=by simp only[nk,ct,take,Bool.false_eq_true,if_false,show n<=l.length by omega,if_true];rfl
    rw[e];refine⟨[dB b false (aK 1 v.v n l.length none) false,aN false (aK 1 v.v n l.length none) (l.drop n),aN false (aK 1 v.v 0 n (some n)) (l.take n)],?_,⟨_,cD 1 v.v 0 n (some n)⟩,⟨_,cD 1 v.v n l.length none⟩,false,l.drop n,l.take n,rfl,rfl,rfl,hb.drop _,hb.take _⟩;refine bq.trans (bq.front (A:=[dB b false (aK 1 v.v n l.length none) false]) (bq.dup rfl [])) ?_;refine bq.trans (bq.view (lo:=n) (hi:=l.length) (mx:=none) (m:=l.drop n) (by omega) (Nat.le_refl _) (λm h=>by cases h) (by rw[List.take_of_length_le (by simp)]) _ 1 rfl) ?_;exact bq.view (lo:=0) (hi:=n) (mx:=some n) (m:=l.take n) (by omega) (by omega) (λm h=>by cases h;omega) (by simp) _ 2 rfl
end Go.RX.Vb
