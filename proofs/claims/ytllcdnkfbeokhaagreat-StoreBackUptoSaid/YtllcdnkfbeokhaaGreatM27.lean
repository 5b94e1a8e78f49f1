/- The store's walker. -/
import Derived.Test.YtllcdnkfbeokhaaGreatM26
open Go.IntKind renaming wrap → ae
open Go.Proofs.Tryz renaming prog → auN
open Int renaming toNat → ag
namespace Go.RX.Vb
open Go.RX Go.Proofs
set_option maxRecDepth 100000
def KQ(al:PT)(x0 x1 x2 x3 x4 x5 x6 x7 x8 x9 bE bO bT:Int)(A0 A1 A2 A3 A4 A5 A6 A7 A8 A9 dX dA:Nat→Int)(_ v1:V1)(b0 b1:Nat):Prop:=
 ∀_ _:Nat,ax (0≤x0) (
 lp (x0+32) (
 ∀_:V1,ax (0≤(x0+32)) (
 lp ((x0+32)+32) (
 ∀_:V1,ax (0≤((x0+32)+32)) (
 ax ((((x0+32)+32)+32)≤140737488355328) (
 ∀_:V1,ax (0≤(((x0+32)+32)+32)) (
 ax (((((x0+32)+32)+32)+32)≤140737488355328) (
 ∀(v5:V1) (b4:Nat),Cl 58 [pp b0,.slice (some ⟨b4,0,none⟩) 4 4] [dt b0 v5,bq v5 ((((x0+32)+32)+32)+32) (bX (bX (bX (bX A0 (ag x0) 32 A1) (ag (x0+32)) 32 A2) (ag ((x0+32)+32)) 32 A3) (ag (((x0+32)+32)+32)) 32 A4),s9 b1 A1 A2 A3 A4 (!(x2==0)) (!(x3==0)) (!(x4==0)) (!(x5==0)) A5 x6 A6 x7 x8 v1 A7 A8 (!(x9==0)) bE (!(bO==0)) (!(bT==0)),C9 b4 b1] fun x hs _=> ∃(v6:V1) (bL:Int) (df:Nat→Int) (_:Bool),x= .tuple #[]∧hs=[dt b0 v6,bq v6 bL df,s9 b1 A1 A2 A3 A4 (!(x2==0)) (!(x3==0)) (!(x4==0)) (!(x5==0)) A5 x6 A6 x7 x8 v1 A7 A8 (!(x9==0)) bE (!(bO==0)) (!(bT==0)),C9 b4 b1]∧
 ∀_:Nat,ax (0≤bL) (
 lp (bL+32) (
 ∀(v7:V1) (_:Nat),Cl 21 [pp b0,.int .u64 (ae .u64 x6),.int .i64 4] [dt b0 v7,bq v7 (bL+32) (bX df (ag bL) 32 A5)] fun x hs _=> ∃(v8:V1) (dR bW:Int) (fN:Nat→Int) (_:Bool),x= .int .u64 dR∧hs=[dt b0 v8,bq v8 bW fN]∧
 ∀_:Nat,ax (0≤bW) (
 lp (bW+32) (
 ∀(v9:V1) (_:Nat),Cl 21 [pp b0,.int .u64 (ae .u64 x7),.int .i64 4] [dt b0 v9,bq v9 (bW+32) (bX fN (ag bW) 32 A6)] fun x hs _=> ∃(v10:V1) (dF cr:Int) (gk:Nat→Int) (_:Bool),x= .int .u64 dF∧hs=[dt b0 v10,bq v10 cr gk]∧
 ∀_:Nat,Cl 21 [pp b0,.int .u64 (ae .u64 x8),.int .i64 4] [dt b0 v10,bq v10 cr gk] fun x hs _=> ∃(v11:V1) (dB cI:Int) (gn:Nat→Int) (_:Bool),x= .int .u64 dB∧hs=[dt b0 v11,bq v11 cI gn]∧
 ax (0≤x1) (
 Cl 21 [pp b0,.int .u64 (ae .u64 x1),.int .i64 4] [dt b0 v11,bq v11 cI gn] fun x hs _=> ∃(qY:V1) (dz gQ:Int) (fJ:Nat→Int) (_:Bool),x= .int .u64 dz∧hs=[dt b0 qY,bq qY gQ fJ]∧
 ∃(cH:Ext→Prop) (dp:Ext→Nat),(∃(pP:V1) (fc fw:Int) (ff:Nat→Int) (q5:Bool),fc=0∧pP=qY∧pP=qY∧fw=gQ∧(∀j,j<(ag fw)→ff j=fJ j)∧cH ⟨[],[pP],[fc,fw],[ff],[q5],[],[]⟩)∧
 ∀(pP:V1) (fc fw:Int) (ff:Nat→Int) (q5:Bool),cH ⟨[],[pP],[fc,fw],[ff],[q5],[],[]⟩→
 bt (fc<x1) (
 ax (0≤fc) (
 ∀_ _:Nat,ax (0≤fw) (
 lp (fw+32) (
 ∀(rU:V1) (_:Nat),Cl 21 [pp b0,.int .u64 (ae .u64 (dX (ag fc))),.int .i64 4] [dt b0 rU,bq rU (fw+32) (bX ff (ag fw) 32 (bY A9 (ag (fc*32))))] fun x hs _=> ∃(pE:V1) (fl fU:Int) (eQ:Nat→Int) (_:Bool),x= .int .u64 fl∧hs=[dt b0 pE,bq pE fU eQ]∧
 ∀_:Nat,ax (0≤fU) (
 lp (fU+32) (
 ∀rh:V1,gS (fc+1) ((
 ∃(Eb:V1) (I5 Ec:Int) (AF:Nat→Int) (q5':Bool),I5=(fc+1)∧Eb=rh∧Eb=rh∧Ec=(fU+32)∧(∀j,j<(ag Ec)→AF j=(bX eQ (ag fU) 32 (bY dA (ag (fc*32)))) j)∧cH ⟨[],[Eb],[I5,Ec],[AF],[q5'],[],[]⟩∧dp ⟨[],[Eb],[I5,Ec],[AF],[q5'],[],[]⟩<dp ⟨[],[pP],[fc,fw],[ff],[q5],[],[]⟩)))))))) (
 ∀_:Nat,ax (0≤fw) (
 lp (fw+32) (
 ∀_:V1,ax (0≤(fw+32)) (
 lp ((fw+32)+32) (
 ∀(pE:V1) (KR:Nat),Cl 58 [pp b0,.slice (some ⟨KR,0,none⟩) 1 1] [dt b0 pE,bq pE ((fw+32)+32) (bX (bX ff (ag fw) 32 A7) (ag (fw+32)) 32 A8),s9 b1 A1 A2 A3 A4 (!(x2==0)) (!(x3==0)) (!(x4==0)) (!(x5==0)) A5 (ae .u32 dR) A6 (ae .u32 dF) (ae .u32 dB) v1 A7 A8 (!(x9==0)) bE (!(bO==0)) (!(bT==0)),ak KR true ([.pointer (some ⟨b1,264,none⟩)])] fun x hs _=> ∃(rh:V1) (fl:Int) (eQ:Nat→Int) (_:Bool),x= .tuple #[]∧hs=[dt b0 rh,bq rh fl eQ,s9 b1 A1 A2 A3 A4 (!(x2==0)) (!(x3==0)) (!(x4==0)) (!(x5==0)) A5 (ae .u32 dR) A6 (ae .u32 dF) (ae .u32 dB) v1 A7 A8 (!(x9==0)) bE (!(bO==0)) (!(bT==0)),ak KR true ([.pointer (some ⟨b1,264,none⟩)])]∧
 ∀_:Nat,Cl 21 [pp b0,.int .u64 (ae .u64 bE),.int .i64 4] [dt b0 rh,bq rh fl eQ] fun x hs _=> ∃(pQ:V1) (fU jR:Int) (fe:Nat→Int) (_:Bool),x= .int .u64 fU∧hs=[dt b0 pQ,bq pQ jR fe]∧
 ∀O9:Nat,Cl 58 [pp b0,.slice (some ⟨O9,0,none⟩) 2 2] [dt b0 pQ,bq pQ jR fe,s9 b1 A1 A2 A3 A4 (!(x2==0)) (!(x3==0)) (!(x4==0)) (!(x5==0)) A5 (ae .u32 dR) A6 (ae .u32 dF) (ae .u32 dB) v1 A7 A8 (!(x9==0)) (ae .u32 fU) (!(bO==0)) (!(bT==0)),I3 O9 b1] fun x hs _=> ∃(mJ:V1) (kV:Int) (fg:Nat→Int) (_:Bool),x= .tuple #[]∧hs=[dt b0 mJ,bq mJ kV fg,s9 b1 A1 A2 A3 A4 (!(x2==0)) (!(x3==0)) (!(x4==0)) (!(x5==0)) A5 (ae .u32 dR) A6 (ae .u32 dF) (ae .u32 dB) v1 A7 A8 (!(x9==0)) (ae .u32 fU) (!(bO==0)) (!(bT==0)),I3 O9 b1]∧
 al (.tuple #[]) [dt b0 mJ,bq mJ kV fg,s9 b1 A1 A2 A3 A4 (!(x2==0)) (!(x3==0)) (!(x4==0)) (!(x5==0)) A5 (ae .u32 dR) A6 (ae .u32 dF) (ae .u32 dB) v1 A7 A8 (!(x9==0)) (ae .u32 fU) (!(bO==0)) (!(bT==0)),aB false 245 65 v1.v (ag x1) (aM (ag x1) [ay .u8 32 A9,ay .u32 1 dX,ay .u8 32 dA])]))))))))))))))))))
theorem U8(al:PT)(x0 x1 x2 x3 x4 x5 x6 x7 x8 x9 bE bO bT:Int)(A0 A1 A2 A3 A4 A5 A6 A7 A8 A9 dX dA:Nat→Int)(v0 v1:V1)(b0 b1:Nat)(h:KQ al x0 x1 x2 x3 x4 x5 x6 x7 x8 x9 bE bO bT A0 A1 A2 A3 A4 A5 A6 A7 A8 A9 dX dA v0 v1 b0 b1):aq auN 105 [pp b0,pp b1] [dt b0 v0,bq v0 x0 A0,s9 b1 A1 A2 A3 A4 (!(x2==0)) (!(x3==0)) (!(x4==0)) (!(x5==0)) A5 x6 A6 x7 x8 v1 A7 A8 (!(x9==0)) bE (!(bO==0)) (!(bT==0)),aB false 245 65 v1.v (ag x1) (aM (ag x1) [ay .u8 32 A9,ay .u32 1 dX,ay .u8 32 dA])] al:=
 s8 (C:=ahW) Vc.adq Vc.ahP Vc.ads ⟨[x0,x1,x2,x3,x4,x5,x6,x7,x8,x9,bE,bO,bT],[A0,A1,A2,A3,A4,A5,A6,A7,A8,A9,dX,dA],[],[b0,b1],[v0,v1],[],[],[]⟩ 4 Tryz.func105 (by kernel_rfl) h
open Go.RX Go.Proofs
set_option maxRecDepth 100000
set_option maxHeartbeats 4000000
def QW(al:PT)(x0 _ x2 x3 x4 x5 x6 x7 x8 x9 bE bO bT:Int)(A0 A1 A2 A3 A4 A5 A6 A7 A8:Nat→Int)(v0 v1:V1)(b0 b1 b2:Nat):Prop:=
 bt (x2≠0) (
 Cl 21 [pp b0,.int .u64 1,.int .i64 1] [dt b0 v0,bq v0 x0 A0] fun x hs _=> ∃(v2:V1) (bL dR:Int) (A9:Nat→Int) (_:Bool),x= .int .u64 bL∧hs=[dt b0 v2,bq v2 dR A9]∧
 bt (x3≠0) (
 Cl 21 [pp b0,.int .u64 1,.int .i64 1] [fT b0 v2 (decide (1<bL)),bq v2 dR A9] fun x hs _=> ∃(v3:V1) (bW dF:Int) (dX:Nat→Int) (_:Bool),x= .int .u64 bW∧hs=[fT b0 v3 (decide (1<bL)),bq v3 dF dX]∧
 bt (x4≠0) (
 Cl 21 [pp b0,.int .u64 1,.int .i64 1] [fT b0 v3 ((decide (1<bL))||(decide (1<bW))),bq v3 dF dX] fun x hs _=> ∃(v4:V1) (cr dB:Int) (dA:Nat→Int) (_:Bool),x= .int .u64 cr∧hs=[fT b0 v4 ((decide (1<bL))||(decide (1<bW))),bq v4 dB dA]∧
 bt (x5≠0) (
 Cl 21 [pp b0,.int .u64 1,.int .i64 1] [fT b0 v4 (((decide (1<bL))||(decide (1<bW)))||(decide (1<cr))),bq v4 dB dA] fun x hs _=> ∃(v5:V1) (cI dz:Int) (df:Nat→Int) (_:Bool),x= .int .u64 cI∧hs=[fT b0 v5 (((decide (1<bL))||(decide (1<bW)))||(decide (1<cr))),bq v5 dz df]∧
 al (.tuple #[]) [fT b0 v5 ((((decide (1<bL))||(decide (1<bW)))||(decide (1<cr)))||(decide (1<cI))),bq v5 dz df,s9 b1 A1 A2 A3 A4 (bL==1) (bW==1) (cr==1) (cI==1) A5 x6 A6 x7 x8 v1 A7 A8 (!(x9==0)) bE (!(bO==0)) (!(bT==0)),C9 b2 b1]) (
 Cl 21 [pp b0,.int .u64 0,.int .i64 1] [fT b0 v4 (((decide (1<bL))||(decide (1<bW)))||(decide (1<cr))),bq v4 dB dA] fun x hs _=> ∃(v5:V1) (cI dz:Int) (df:Nat→Int) (_:Bool),x= .int .u64 cI∧hs=[fT b0 v5 (((decide (1<bL))||(decide (1<bW)))||(decide (1<cr))),bq v5 dz df]∧
 al (.tuple #[]) [fT b0 v5 ((((decide (1<bL))||(decide (1<bW)))||(decide (1<cr)))||(decide (1<cI))),bq v5 dz df,s9 b1 A1 A2 A3 A4 (bL==1) (bW==1) (cr==1) (cI==1) A5 x6 A6 x7 x8 v1 A7 A8 (!(x9==0)) bE (!(bO==0)) (!(bT==0)),C9 b2 b1])) (
 Cl 21 [pp b0,.int .u64 0,.int .i64 1] [fT b0 v3 ((decide (1<bL))||(decide (1<bW))),bq v3 dF dX] fun x hs _=> ∃(v4:V1) (cr dB:Int) (dA:Nat→Int) (_:Bool),x= .int .u64 cr∧hs=[fT b0 v4 ((decide (1<bL))||(decide (1<bW))),bq v4 dB dA]∧
 bt (x5≠0) (
 Cl 21 [pp b0,.int .u64 1,.int .i64 1] [fT b0 v4 (((decide (1<bL))||(decide (1<bW)))||(decide (1<cr))),bq v4 dB dA] fun x hs _=> ∃(v5:V1) (cI dz:Int) (df:Nat→Int) (_:Bool),x= .int .u64 cI∧hs=[fT b0 v5 (((decide (1<bL))||(decide (1<bW)))||(decide (1<cr))),bq v5 dz df]∧
 al (.tuple #[]) [fT b0 v5 ((((decide (1<bL))||(decide (1<bW)))||(decide (1<cr)))||(decide (1<cI))),bq v5 dz df,s9 b1 A1 A2 A3 A4 (bL==1) (bW==1) (cr==1) (cI==1) A5 x6 A6 x7 x8 v1 A7 A8 (!(x9==0)) bE (!(bO==0)) (!(bT==0)),C9 b2 b1]) (
 Cl 21 [pp b0,.int .u64 0,.int .i64 1] [fT b0 v4 (((decide (1<bL))||(decide (1<bW)))||(decide (1<cr))),bq v4 dB dA] fun x hs _=> ∃(v5:V1) (cI dz:Int) (df:Nat→Int) (_:Bool),x= .int .u64 cI∧hs=[fT b0 v5 (((decide (1<bL))||(decide (1<bW)))||(decide (1<cr))),bq v5 dz df]∧
 al (.tuple #[]) [fT b0 v5 ((((decide (1<bL))||(decide (1<bW)))||(decide (1<cr)))||(decide (1<cI))),bq v5 dz df,s9 b1 A1 A2 A3 A4 (bL==1) (bW==1) (cr==1) (cI==1) A5 x6 A6 x7 x8 v1 A7 A8 (!(x9==0)) bE (!(bO==0)) (!(bT==0)),C9 b2 b1]))) (
 Cl 21 [pp b0,.int .u64 0,.int .i64 1] [fT b0 v2 (decide (1<bL)),bq v2 dR A9] fun x hs _=> ∃(v3:V1) (bW dF:Int) (dX:Nat→Int) (_:Bool),x= .int .u64 bW∧hs=[fT b0 v3 (decide (1<bL)),bq v3 dF dX]∧
 bt (x4≠0) (
 Cl 21 [pp b0,.int .u64 1,.int .i64 1] [fT b0 v3 ((decide (1<bL))||(decide (1<bW))),bq v3 dF dX] fun x hs _=> ∃(v4:V1) (cr dB:Int) (dA:Nat→Int) (_:Bool),x= .int .u64 cr∧hs=[fT b0 v4 ((decide (1<bL))||(decide (1<bW))),bq v4 dB dA]∧
 bt (x5≠0) (
 Cl 21 [pp b0,.int .u64 1,.int .i64 1] [fT b0 v4 (((decide (1<bL))||(decide (1<bW)))||(decide (1<cr))),bq v4 dB dA] fun x hs _=> ∃(v5:V1) (cI dz:Int) (df:Nat→Int) (_:Bool),x= .int .u64 cI∧hs=[fT b0 v5 (((decide (1<bL))||(decide (1<bW)))||(decide (1<cr))),bq v5 dz df]∧
 al (.tuple #[]) [fT b0 v5 ((((decide (1<bL))||(decide (1<bW)))||(decide (1<cr)))||(decide (1<cI))),bq v5 dz df,s9 b1 A1 A2 A3 A4 (bL==1) (bW==1) (cr==1) (cI==1) A5 x6 A6 x7 x8 v1 A7 A8 (!(x9==0)) bE (!(bO==0)) (!(bT==0)),C9 b2 b1]) (
 Cl 21 [pp b0,.int .u64 0,.int .i64 1] [fT b0 v4 (((decide (1<bL))||(decide (1<bW)))||(decide (1<cr))),bq v4 dB dA] fun x hs _=> ∃(v5:V1) (cI dz:Int) (df:Nat→Int) (_:Bool),x= .int .u64 cI∧hs=[fT b0 v5 (((decide (1<bL))||(decide (1<bW)))||(decide (1<cr))),bq v5 dz df]∧
 al (.tuple #[]) [fT b0 v5 ((((decide (1<bL))||(decide (1<bW)))||(decide (1<cr)))||(decide (1<cI))),bq v5 dz df,s9 b1 A1 A2 A3 A4 (bL==1) (bW==1) (cr==1) (cI==1) A5 x6 A6 x7 x8 v1 A7 A8 (!(x9==0)) bE (!(bO==0)) (!(bT==0)),C9 b2 b1])) (
 Cl 21 [pp b0,.int .u64 0,.int .i64 1] [fT b0 v3 ((decide (1<bL))||(decide (1<bW))),bq v3 dF dX] fun x hs _=> ∃(v4:V1) (cr dB:Int) (dA:Nat→Int) (_:Bool),x= .int .u64 cr∧hs=[fT b0 v4 ((decide (1<bL))||(decide (1<bW))),bq v4 dB dA]∧
 bt (x5≠0) (
 Cl 21 [pp b0,.int .u64 1,.int .i64 1] [fT b0 v4 (((decide (1<bL))||(decide (1<bW)))||(decide (1<cr))),bq v4 dB dA] fun x hs _=> ∃(v5:V1) (cI dz:Int) (df:Nat→Int) (_:Bool),x= .int .u64 cI∧hs=[fT b0 v5 (((decide (1<bL))||(decide (1<bW)))||(decide (1<cr))),bq v5 dz df]∧
 al (.tuple #[]) [fT b0 v5 ((((decide (1<bL))||(decide (1<bW)))||(decide (1<cr)))||(decide (1<cI))),bq v5 dz df,s9 b1 A1 A2 A3 A4 (bL==1) (bW==1) (cr==1) (cI==1) A5 x6 A6 x7 x8 v1 A7 A8 (!(x9==0)) bE (!(bO==0)) (!(bT==0)),C9 b2 b1]) (
 Cl 21 [pp b0,.int .u64 0,.int .i64 1] [fT b0 v4 (((decide (1<bL))||(decide (1<bW)))||(decide (1<cr))),bq v4 dB dA] fun x hs _=> ∃(v5:V1) (cI dz:Int) (df:Nat→Int) (_:Bool),x= .int .u64 cI∧hs=[fT b0 v5 (((decide (1<bL))||(decide (1<bW)))||(decide (1<cr))),bq v5 dz df]∧
 al (.tuple #[]) [fT b0 v5 ((((decide (1<bL))||(decide (1<bW)))||(decide (1<cr)))||(decide (1<cI))),bq v5 dz df,s9 b1 A1 A2 A3 A4 (bL==1) (bW==1) (cr==1) (cI==1) A5 x6 A6 x7 x8 v1 A7 A8 (!(x9==0)) bE (!(bO==0)) (!(bT==0)),C9 b2 b1])))) (
 Cl 21 [pp b0,.int .u64 0,.int .i64 1] [dt b0 v0,bq v0 x0 A0] fun x hs _=> ∃(v2:V1) (bL dR:Int) (A9:Nat→Int) (_:Bool),x= .int .u64 bL∧hs=[dt b0 v2,bq v2 dR A9]∧
 bt (x3≠0) (
 Cl 21 [pp b0,.int .u64 1,.int .i64 1] [fT b0 v2 (decide (1<bL)),bq v2 dR A9] fun x hs _=> ∃(v3:V1) (bW dF:Int) (dX:Nat→Int) (_:Bool),x= .int .u64 bW∧hs=[fT b0 v3 (decide (1<bL)),bq v3 dF dX]∧
 bt (x4≠0) (
 Cl 21 [pp b0,.int .u64 1,.int .i64 1] [fT b0 v3 ((decide (1<bL))||(decide (1<bW))),bq v3 dF dX] fun x hs _=> ∃(v4:V1) (cr dB:Int) (dA:Nat→Int) (_:Bool),x= .int .u64 cr∧hs=[fT b0 v4 ((decide (1<bL))||(decide (1<bW))),bq v4 dB dA]∧
 bt (x5≠0) (
 Cl 21 [pp b0,.int .u64 1,.int .i64 1] [fT b0 v4 (((decide (1<bL))||(decide (1<bW)))||(decide (1<cr))),bq v4 dB dA] fun x hs _=> ∃(v5:V1) (cI dz:Int) (df:Nat→Int) (_:Bool),x= .int .u64 cI∧hs=[fT b0 v5 (((decide (1<bL))||(decide (1<bW)))||(decide (1<cr))),bq v5 dz df]∧
 al (.tuple #[]) [fT b0 v5 ((((decide (1<bL))||(decide (1<bW)))||(decide (1<cr)))||(decide (1<cI))),bq v5 dz df,s9 b1 A1 A2 A3 A4 (bL==1) (bW==1) (cr==1) (cI==1) A5 x6 A6 x7 x8 v1 A7 A8 (!(x9==0)) bE (!(bO==0)) (!(bT==0)),C9 b2 b1]) (
 Cl 21 [pp b0,.int .u64 0,.int .i64 1] [fT b0 v4 (((decide (1<bL))||(decide (1<bW)))||(decide (1<cr))),bq v4 dB dA] fun x hs _=> ∃(v5:V1) (cI dz:Int) (df:Nat→Int) (_:Bool),x= .int .u64 cI∧hs=[fT b0 v5 (((decide (1<bL))||(decide (1<bW)))||(decide (1<cr))),bq v5 dz df]∧
 al (.tuple #[]) [fT b0 v5 ((((decide (1<bL))||(decide (1<bW)))||(decide (1<cr)))||(decide (1<cI))),bq v5 dz df,s9 b1 A1 A2 A3 A4 (bL==1) (bW==1) (cr==1) (cI==1) A5 x6 A6 x7 x8 v1 A7 A8 (!(x9==0)) bE (!(bO==0)) (!(bT==0)),C9 b2 b1])) (
 Cl 21 [pp b0,.int .u64 0,.int .i64 1] [fT b0 v3 ((decide (1<bL))||(decide (1<bW))),bq v3 dF dX] fun x hs _=> ∃(v4:V1) (cr dB:Int) (dA:Nat→Int) (_:Bool),x= .int .u64 cr∧hs=[fT b0 v4 ((decide (1<bL))||(decide (1<bW))),bq v4 dB dA]∧
 bt (x5≠0) (
 Cl 21 [pp b0,.int .u64 1,.int .i64 1] [fT b0 v4 (((decide (1<bL))||(decide (1<bW)))||(decide (1<cr))),bq v4 dB dA] fun x hs _=> ∃(v5:V1) (cI dz:Int) (df:Nat→Int) (_:Bool),x= .int .u64 cI∧hs=[fT b0 v5 (((decide (1<bL))||(decide (1<bW)))||(decide (1<cr))),bq v5 dz df]∧
 al (.tuple #[]) [fT b0 v5 ((((decide (1<bL))||(decide (1<bW)))||(decide (1<cr)))||(decide (1<cI))),bq v5 dz df,s9 b1 A1 A2 A3 A4 (bL==1) (bW==1) (cr==1) (cI==1) A5 x6 A6 x7 x8 v1 A7 A8 (!(x9==0)) bE (!(bO==0)) (!(bT==0)),C9 b2 b1]) (
 Cl 21 [pp b0,.int .u64 0,.int .i64 1] [fT b0 v4 (((decide (1<bL))||(decide (1<bW)))||(decide (1<cr))),bq v4 dB dA] fun x hs _=> ∃(v5:V1) (cI dz:Int) (df:Nat→Int) (_:Bool),x= .int .u64 cI∧hs=[fT b0 v5 (((decide (1<bL))||(decide (1<bW)))||(decide (1<cr))),bq v5 dz df]∧
 al (.tuple #[]) [fT b0 v5 ((((decide (1<bL))||(decide (1<bW)))||(decide (1<cr)))||(decide (1<cI))),bq v5 dz df,s9 b1 A1 A2 A3 A4 (bL==1) (bW==1) (cr==1) (cI==1) A5 x6 A6 x7 x8 v1 A7 A8 (!(x9==0)) bE (!(bO==0)) (!(bT==0)),C9 b2 b1]))) (
 Cl 21 [pp b0,.int .u64 0,.int .i64 1] [fT b0 v2 (decide (1<bL)),bq v2 dR A9] fun x hs _=> ∃(v3:V1) (bW dF:Int) (dX:Nat→Int) (_:Bool),x= .int .u64 bW∧hs=[fT b0 v3 (decide (1<bL)),bq v3 dF dX]∧
 bt (x4≠0) (
 Cl 21 [pp b0,.int .u64 1,.int .i64 1] [fT b0 v3 ((decide (1<bL))||(decide (1<bW))),bq v3 dF dX] fun x hs _=> ∃(v4:V1) (cr dB:Int) (dA:Nat→Int) (_:Bool),x= .int .u64 cr∧hs=[fT b0 v4 ((decide (1<bL))||(decide (1<bW))),bq v4 dB dA]∧
 bt (x5≠0) (
 Cl 21 [pp b0,.int .u64 1,.int .i64 1] [fT b0 v4 (((decide (1<bL))||(decide (1<bW)))||(decide (1<cr))),bq v4 dB dA] fun x hs _=> ∃(v5:V1) (cI dz:Int) (df:Nat→Int) (_:Bool),x= .int .u64 cI∧hs=[fT b0 v5 (((decide (1<bL))||(decide (1<bW)))||(decide (1<cr))),bq v5 dz df]∧
 al (.tuple #[]) [fT b0 v5 ((((decide (1<bL))||(decide (1<bW)))||(decide (1<cr)))||(decide (1<cI))),bq v5 dz df,s9 b1 A1 A2 A3 A4 (bL==1) (bW==1) (cr==1) (cI==1) A5 x6 A6 x7 x8 v1 A7 A8 (!(x9==0)) bE (!(bO==0)) (!(bT==0)),C9 b2 b1]) (
 Cl 21 [pp b0,.int .u64 0,.int .i64 1] [fT b0 v4 (((decide (1<bL))||(decide (1<bW)))||(decide (1<cr))),bq v4 dB dA] fun x hs _=> ∃(v5:V1) (cI dz:Int) (df:Nat→Int) (_:Bool),x= .int .u64 cI∧hs=[fT b0 v5 (((decide (1<bL))||(decide (1<bW)))||(decide (1<cr))),bq v5 dz df]∧
 al (.tuple #[]) [fT b0 v5 ((((decide (1<bL))||(decide (1<bW)))||(decide (1<cr)))||(decide (1<cI))),bq v5 dz df,s9 b1 A1 A2 A3 A4 (bL==1) (bW==1) (cr==1) (cI==1) A5 x6 A6 x7 x8 v1 A7 A8 (!(x9==0)) bE (!(bO==0)) (!(bT==0)),C9 b2 b1])) (
 Cl 21 [pp b0,.int .u64 0,.int .i64 1] [fT b0 v3 ((decide (1<bL))||(decide (1<bW))),bq v3 dF dX] fun x hs _=> ∃(v4:V1) (cr dB:Int) (dA:Nat→Int) (_:Bool),x= .int .u64 cr∧hs=[fT b0 v4 ((decide (1<bL))||(decide (1<bW))),bq v4 dB dA]∧
 bt (x5≠0) (
 Cl 21 [pp b0,.int .u64 1,.int .i64 1] [fT b0 v4 (((decide (1<bL))||(decide (1<bW)))||(decide (1<cr))),bq v4 dB dA] fun x hs _=> ∃(v5:V1) (cI dz:Int) (df:Nat→Int) (_:Bool),x= .int .u64 cI∧hs=[fT b0 v5 (((decide (1<bL))||(decide (1<bW)))||(decide (1<cr))),bq v5 dz df]∧
 al (.tuple #[]) [fT b0 v5 ((((decide (1<bL))||(decide (1<bW)))||(decide (1<cr)))||(decide (1<cI))),bq v5 dz df,s9 b1 A1 A2 A3 A4 (bL==1) (bW==1) (cr==1) (cI==1) A5 x6 A6 x7 x8 v1 A7 A8 (!(x9==0)) bE (!(bO==0)) (!(bT==0)),C9 b2 b1]) (
 Cl 21 [pp b0,.int .u64 0,.int .i64 1] [fT b0 v4 (((decide (1<bL))||(decide (1<bW)))||(decide (1<cr))),bq v4 dB dA] fun x hs _=> ∃(v5:V1) (cI dz:Int) (df:Nat→Int) (_:Bool),x= .int .u64 cI∧hs=[fT b0 v5 (((decide (1<bL))||(decide (1<bW)))||(decide (1<cr))),bq v5 dz df]∧
 al (.tuple #[]) [fT b0 v5 ((((decide (1<bL))||(decide (1<bW)))||(decide (1<cr)))||(decide (1<cI))),bq v5 dz df,s9 b1 A1 A2 A3 A4 (bL==1) (bW==1) (cr==1) (cI==1) A5 x6 A6 x7 x8 v1 A7 A8 (!(x9==0)) bE (!(bO==0)) (!(bT==0)),C9 b2 b1]))))
theorem Y5(al:PT)(x0 x1 x2 x3 x4 x5 x6 x7 x8 x9 bE bO bT:Int)(A0 A1 A2 A3 A4 A5 A6 A7 A8:Nat→Int)(v0 v1:V1)(b0 b1 b2:Nat)(h:QW al x0 x1 x2 x3 x4 x5 x6 x7 x8 x9 bE bO bT A0 A1 A2 A3 A4 A5 A6 A7 A8 v0 v1 b0 b1 b2):aq auN 58 [pp b0,.slice (some ⟨b2,0,none⟩) 4 4] [dt b0 v0,bq v0 x0 A0,s9 b1 A1 A2 A3 A4 (!(x2==0)) (!(x3==0)) (!(x4==0)) (!(x5==0)) A5 x6 A6 x7 x8 v1 A7 A8 (!(x9==0)) bE (!(bO==0)) (!(bT==0)),C9 b2 b1] al:=
 yM (C:=cxF) (flS 4) (Vc.Gm++[.row 1 true (Vc.U0 2 1 1),flP [128,129,130,131]]) {b:=3,v:=2,i:=13,a:=9} ⟨[x0,x1,x2,x3,x4,x5,x6,x7,x8,x9,bE,bO,bT],[A0,A1,A2,A3,A4,A5,A6,A7,A8],[],[b0,b1,b2],[v0,v1],[],[],[]⟩ Tryz.func58 (by kernel_rfl) h
def QX(al:PT)(x0 _ x2 x3 x4 x5 x6 x7 x8 x9 bE bO bT:Int)(A0 A1 A2 A3 A4 A5 A6 A7 A8:Nat→Int)(v0 v1:V1)(b0 b1 b2:Nat):Prop:=
 bt (x9≠0) (
 Cl 21 [pp b0,.int .u64 1,.int .i64 1] [dt b0 v0,bq v0 x0 A0] fun x hs _=> ∃(v2:V1) (bL dR:Int) (A9:Nat→Int) (_:Bool),x= .int .u64 bL∧hs=[dt b0 v2,bq v2 dR A9]∧
 al (.tuple #[]) [fT b0 v2 (decide (1<bL)),bq v2 dR A9,s9 b1 A1 A2 A3 A4 (!(x2==0)) (!(x3==0)) (!(x4==0)) (!(x5==0)) A5 x6 A6 x7 x8 v1 A7 A8 (bL==1) bE (!(bO==0)) (!(bT==0)),ak b2 true ([.pointer (some ⟨b1,264,none⟩)])]) (
 Cl 21 [pp b0,.int .u64 0,.int .i64 1] [dt b0 v0,bq v0 x0 A0] fun x hs _=> ∃(v2:V1) (bL dR:Int) (A9:Nat→Int) (_:Bool),x= .int .u64 bL∧hs=[dt b0 v2,bq v2 dR A9]∧
 al (.tuple #[]) [fT b0 v2 (decide (1<bL)),bq v2 dR A9,s9 b1 A1 A2 A3 A4 (!(x2==0)) (!(x3==0)) (!(x4==0)) (!(x5==0)) A5 x6 A6 x7 x8 v1 A7 A8 (bL==1) bE (!(bO==0)) (!(bT==0)),ak b2 true ([.pointer (some ⟨b1,264,none⟩)])])
theorem Y6(al:PT)(x0 x1 x2 x3 x4 x5 x6 x7 x8 x9 bE bO bT:Int)(A0 A1 A2 A3 A4 A5 A6 A7 A8:Nat→Int)(v0 v1:V1)(b0 b1 b2:Nat)(h:QX al x0 x1 x2 x3 x4 x5 x6 x7 x8 x9 bE bO bT A0 A1 A2 A3 A4 A5 A6 A7 A8 v0 v1 b0 b1 b2):aq auN 58 [pp b0,.slice (some ⟨b2,0,none⟩) 1 1] [dt b0 v0,bq v0 x0 A0,s9 b1 A1 A2 A3 A4 (!(x2==0)) (!(x3==0)) (!(x4==0)) (!(x5==0)) A5 x6 A6 x7 x8 v1 A7 A8 (!(x9==0)) bE (!(bO==0)) (!(bT==0)),ak b2 true ([.pointer (some ⟨b1,264,none⟩)])] al:=
 yM (C:=cxF) (flS 1) (Vc.Gm++[.row 1 true (Vc.U0 2 1 1),flP [264]]) {b:=3,v:=2,i:=13,a:=9} ⟨[x0,x1,x2,x3,x4,x5,x6,x7,x8,x9,bE,bO,bT],[A0,A1,A2,A3,A4,A5,A6,A7,A8],[],[b0,b1,b2],[v0,v1],[],[],[]⟩ Tryz.func58 (by kernel_rfl) h
def QY(al:PT)(x0 _ x2 x3 x4 x5 x6 x7 x8 x9 bE bO bT:Int)(A0 A1 A2 A3 A4 A5 A6 A7 A8:Nat→Int)(v0 v1:V1)(b0 b1 b2:Nat):Prop:=
 bt (bO≠0) (
 Cl 21 [pp b0,.int .u64 1,.int .i64 1] [dt b0 v0,bq v0 x0 A0] fun x hs _=> ∃(v2:V1) (bL dR:Int) (A9:Nat→Int) (_:Bool),x= .int .u64 bL∧hs=[dt b0 v2,bq v2 dR A9]∧
 bt (bT≠0) (
 Cl 21 [pp b0,.int .u64 1,.int .i64 1] [fT b0 v2 (decide (1<bL)),bq v2 dR A9] fun x hs _=> ∃(v3:V1) (bW dF:Int) (dX:Nat→Int) (_:Bool),x= .int .u64 bW∧hs=[fT b0 v3 (decide (1<bL)),bq v3 dF dX]∧
 al (.tuple #[]) [fT b0 v3 ((decide (1<bL))||(decide (1<bW))),bq v3 dF dX,s9 b1 A1 A2 A3 A4 (!(x2==0)) (!(x3==0)) (!(x4==0)) (!(x5==0)) A5 x6 A6 x7 x8 v1 A7 A8 (!(x9==0)) bE (bL==1) (bW==1),I3 b2 b1]) (
 Cl 21 [pp b0,.int .u64 0,.int .i64 1] [fT b0 v2 (decide (1<bL)),bq v2 dR A9] fun x hs _=> ∃(v3:V1) (bW dF:Int) (dX:Nat→Int) (_:Bool),x= .int .u64 bW∧hs=[fT b0 v3 (decide (1<bL)),bq v3 dF dX]∧
 al (.tuple #[]) [fT b0 v3 ((decide (1<bL))||(decide (1<bW))),bq v3 dF dX,s9 b1 A1 A2 A3 A4 (!(x2==0)) (!(x3==0)) (!(x4==0)) (!(x5==0)) A5 x6 A6 x7 x8 v1 A7 A8 (!(x9==0)) bE (bL==1) (bW==1),I3 b2 b1])) (
 Cl 21 [pp b0,.int .u64 0,.int .i64 1] [dt b0 v0,bq v0 x0 A0] fun x hs _=> ∃(v2:V1) (bL dR:Int) (A9:Nat→Int) (_:Bool),x= .int .u64 bL∧hs=[dt b0 v2,bq v2 dR A9]∧
 bt (bT≠0) (
 Cl 21 [pp b0,.int .u64 1,.int .i64 1] [fT b0 v2 (decide (1<bL)),bq v2 dR A9] fun x hs _=> ∃(v3:V1) (bW dF:Int) (dX:Nat→Int) (_:Bool),x= .int .u64 bW∧hs=[fT b0 v3 (decide (1<bL)),bq v3 dF dX]∧
 al (.tuple #[]) [fT b0 v3 ((decide (1<bL))||(decide (1<bW))),bq v3 dF dX,s9 b1 A1 A2 A3 A4 (!(x2==0)) (!(x3==0)) (!(x4==0)) (!(x5==0)) A5 x6 A6 x7 x8 v1 A7 A8 (!(x9==0)) bE (bL==1) (bW==1),I3 b2 b1]) (
 Cl 21 [pp b0,.int .u64 0,.int .i64 1] [fT b0 v2 (decide (1<bL)),bq v2 dR A9] fun x hs _=> ∃(v3:V1) (bW dF:Int) (dX:Nat→Int) (_:Bool),x= .int .u64 bW∧hs=[fT b0 v3 (decide (1<bL)),bq v3 dF dX]∧
 al (.tuple #[]) [fT b0 v3 ((decide (1<bL))||(decide (1<bW))),bq v3 dF dX,s9 b1 A1 A2 A3 A4 (!(x2==0)) (!(x3==0)) (!(x4==0)) (!(x5==0)) A5 x6 A6 x7 x8 v1 A7 A8 (!(x9==0)) bE (bL==1) (bW==1),I3 b2 b1]))
theorem Y7(al:PT)(x0 x1 x2 x3 x4 x5 x6 x7 x8 x9 bE bO bT:Int)(A0 A1 A2 A3 A4 A5 A6 A7 A8:Nat→Int)(v0 v1:V1)(b0 b1 b2:Nat)(h:QY al x0 x1 x2 x3 x4 x5 x6 x7 x8 x9 bE bO bT A0 A1 A2 A3 A4 A5 A6 A7 A8 v0 v1 b0 b1 b2):aq auN 58 [pp b0,.slice (some ⟨b2,0,none⟩) 2 2] [dt b0 v0,bq v0 x0 A0,s9 b1 A1 A2 A3 A4 (!(x2==0)) (!(x3==0)) (!(x4==0)) (!(x5==0)) A5 x6 A6 x7 x8 v1 A7 A8 (!(x9==0)) bE (!(bO==0)) (!(bT==0)),I3 b2 b1] al:=
 yM (C:=cxF) (flS 2) (Vc.Gm++[.row 1 true (Vc.U0 2 1 1),flP [266,267]]) {b:=3,v:=2,i:=13,a:=9} ⟨[x0,x1,x2,x3,x4,x5,x6,x7,x8,x9,bE,bO,bT],[A0,A1,A2,A3,A4,A5,A6,A7,A8],[],[b0,b1,b2],[v0,v1],[],[],[]⟩ Tryz.func58 (by kernel_rfl) h
def QZ(al:PT)(x0 x1 x2 x3 x4 x5 x6 x7 x8 x9 bE bO bT bL dR bW dF cr dB:Int)(A0 A1 A2 A3 A4 A5 A6 A7 A8:Nat→Int)(v0 v1 v2 v3 v4 v5 v6 v7:V1)(b0 b1 b2:Nat):Prop:=
 bt (x8≠0) (
 Cl 21 [pp b0,.int .u64 1,.int .i64 1] [dt b0 v0,bq v0 x0 A0] fun x hs _=> ∃(v8:V1) (cI dz:Int) (A9:Nat→Int) (_:Bool),x= .int .u64 cI∧hs=[dt b0 v8,bq v8 dz A9]∧
 al (.tuple #[]) [fT b0 v8 (decide (1<cI)),bq v8 dz A9,TU b1 A1 x1 x2 x3 A2 A3 v1 x4 v2 x5 x6 A4 v3 x7 A5 (cI==1) x9 bE bO A6 A7 A8 v4 bT v5 bL dR bW dF cr dB v6 v7,I4 b2 b1]) (
 Cl 21 [pp b0,.int .u64 0,.int .i64 1] [dt b0 v0,bq v0 x0 A0] fun x hs _=> ∃(v8:V1) (cI dz:Int) (A9:Nat→Int) (_:Bool),x= .int .u64 cI∧hs=[dt b0 v8,bq v8 dz A9]∧
 al (.tuple #[]) [fT b0 v8 (decide (1<cI)),bq v8 dz A9,TU b1 A1 x1 x2 x3 A2 A3 v1 x4 v2 x5 x6 A4 v3 x7 A5 (cI==1) x9 bE bO A6 A7 A8 v4 bT v5 bL dR bW dF cr dB v6 v7,I4 b2 b1])
theorem Y8(al:PT)(x0 x1 x2 x3 x4 x5 x6 x7 x8 x9 bE bO bT bL dR bW dF cr dB:Int)(A0 A1 A2 A3 A4 A5 A6 A7 A8:Nat→Int)(v0 v1 v2 v3 v4 v5 v6 v7:V1)(b0 b1 b2:Nat)(h:QZ al x0 x1 x2 x3 x4 x5 x6 x7 x8 x9 bE bO bT bL dR bW dF cr dB A0 A1 A2 A3 A4 A5 A6 A7 A8 v0 v1 v2 v3 v4 v5 v6 v7 b0 b1 b2):aq auN 58 [pp b0,.slice (some ⟨b2,0,none⟩) 1 1] [dt b0 v0,bq v0 x0 A0,TU b1 A1 x1 x2 x3 A2 A3 v1 x4 v2 x5 x6 A4 v3 x7 A5 (!(x8==0)) x9 bE bO A6 A7 A8 v4 bT v5 bL dR bW dF cr dB v6 v7,I4 b2 b1] al:=
 yM (C:=cxF) (flS 1) (Vc.Gm++[.row 1 true (Vd.TS 1 1 1),flP [130]]) {b:=3,v:=8,i:=19,a:=9} ⟨[x0,x1,x2,x3,x4,x5,x6,x7,x8,x9,bE,bO,bT,bL,dR,bW,dF,cr,dB],[A0,A1,A2,A3,A4,A5,A6,A7,A8],[],[b0,b1,b2],[v0,v1,v2,v3,v4,v5,v6,v7],[],[],[]⟩ Tryz.func58 (by kernel_rfl) h
def Q0(al:PT)(x0 x1 x2 x3:Int)(A0 A1:Nat→Int)(v0:V1)(b0 b1 b2:Nat):Prop:=
 bt (x2≠0) (
 Cl 21 [pp b0,.int .u64 1,.int .i64 1] [dt b0 v0,bq v0 x0 A0] fun x hs _=> ∃(v1:V1) (x4 x5:Int) (A2:Nat→Int) (_:Bool),x= .int .u64 x4∧hs=[dt b0 v1,bq v1 x5 A2]∧
 al (.tuple #[]) [fT b0 v1 (decide (1<x4)),bq v1 x5 A2,Gq b1 A1 x1 (x4==1) x3,ak b2 true ([.pointer (some ⟨b1,17,none⟩)])]) (
 Cl 21 [pp b0,.int .u64 0,.int .i64 1] [dt b0 v0,bq v0 x0 A0] fun x hs _=> ∃(v1:V1) (x4 x5:Int) (A2:Nat→Int) (_:Bool),x= .int .u64 x4∧hs=[dt b0 v1,bq v1 x5 A2]∧
 al (.tuple #[]) [fT b0 v1 (decide (1<x4)),bq v1 x5 A2,Gq b1 A1 x1 (x4==1) x3,ak b2 true ([.pointer (some ⟨b1,17,none⟩)])])
theorem Y9(al:PT)(x0 x1 x2 x3:Int)(A0 A1:Nat→Int)(v0:V1)(b0 b1 b2:Nat)(h:Q0 al x0 x1 x2 x3 A0 A1 v0 b0 b1 b2):aq auN 58 [pp b0,.slice (some ⟨b2,0,none⟩) 1 1] [dt b0 v0,bq v0 x0 A0,Gq b1 A1 x1 (!(x2==0)) x3,ak b2 true ([.pointer (some ⟨b1,17,none⟩)])] al:=
 yM (C:=cxF) (flS 1) (Vc.Gm++[.row 1 true [Vd.sg 16 1,Vb.u8 1,Vc.bl 2,Vb.u64 3],flP [17]]) {b:=3,v:=1,i:=4,a:=2} ⟨[x0,x1,x2,x3],[A0,A1],[],[b0,b1,b2],[v0],[],[],[]⟩ Tryz.func58 (by kernel_rfl) h
end Go.RX.Vb

namespace Go.RX
theorem bI.uy(t s:Nat):bI [] [aB true t s (.slice none 0 0) 0 []]:=by
 intro w Fs ⟨S,hS⟩;refine⟨fun i=>match i with | 0=>fun _=>False | i+1=>S i,⟨?_,?_⟩⟩
 ·intro i x hx
  match i,hx with
  | 0,hx=>
   simp at hx;subst hx;exact⟨⟨by simp only [if_true];exact np w t s,fun k=>⟨False.elim,fun h=>by simp [Value.ownBlock]at h⟩⟩,fun k h=>h.elim⟩
  | i+1,hx=>exact hS.at_ i x (by simpa using hx)
 ·intro i j x y fy hx hy hw k
  match i,j,fy,hx,hy with
  | 0,_,_,_,_=>exact fun h=>h.elim
  | i+1,0,_,_,_=>exact fun _ h=>h
  | i+1,j+1,fy,hx,hy=>exact hS.apart i j x y (by omega) (by simpa using hx) (by simpa using hy) hw k
theorem bI.see{a:List HP}(i:Nat){t s n:Nat}{v:Value}{cs:List Value}(h:a[i]? =some (aB true t s v n cs)):bI a (a.set i (aB false t s v n cs)):=
 bI.put i _ _ h (fun h=>by cases h) fun _ _ hp=>⟨_,fun _ hk=>hk.1,Az hp⟩
theorem bI.front{A a b:List HP}(h:bI a b):bI (A++a) (A++b):=by
 refine bI.trans (bI.perm List.perm_append_comm) (bI.trans (bI.frame h A) (bI.perm List.perm_append_comm))
theorem bI.dup{h:HP}(hw:h.wr=false)(r:List HP):bI (h::r) (h::h::r):=fun _ _ ho=>bz.dup hw ho
end Go.RX
namespace Go.RX.Vb
open Go Go.RX Go.Proofs Go.Vs
def mK(n:Nat)(o:sR):List Nat×sR:=(take n o).elim ([],none) fun p=>(p.1,some p.2)
theorem ym(b:Nat)(v:V1)(q:Bool)(l:List Nat)(hb:fL l)(n:Nat):aq auN 45 [wP b,.int .i64 (n:Int)] [dy b false v.v q,aR false v.v l]
  fun r hs=> ∃(o v':V1) (q':Bool) (l' m:List Nat),r=o.v∧hs=[dy b false v'.v q',aR false v'.v l',aR false o.v m]∧(m,cg q' l')=mK n (cg q l)∧fL l'∧fL m:=by
 have Da:fL []:=⟨fun x hx=>(nomatch hx),by simp⟩;have nl: ∀{A:List HP},bI A (A++[aR false (.slice none 0 0) []]):=fun {A}=>by
  have:=bI.front (A:=A) (bI.trans (bI.uy 5 1) (bI.see 0 rfl))
  rwa [List.append_nil]at this
 cases q with
 | true=>
  refine(aq.frame (QU (fun r hs=>r= .slice none 0 0∧hs=[dy b false v.v true]) 0 (n:Int) (fun _=>0) v b ⟨rfl,rfl⟩) [aR false v.v l]).post ?_;rintro r hs ⟨lP,rfl,rfl,rfl⟩;exact⟨_,nl,⟨.slice none 0 0,rfl⟩,v,true,l,[],rfl,rfl,rfl,hb,Da⟩
 | false=>
  refine aq.post (QS (fun r hs=>if l.length<n then r= .slice none 0 0∧hs=[dy b false v.v true,aR false v.v l]else r=aF 1 v.v 0 n (some n)∧hs=[dy b false (aF 1 v.v n l.length none) false,aR false v.v l]) (l.length:Int) (n:Int) (aI l) v b ?_) ?_
  ·unfold Gy;refine⟨by omega,fun _=>⟨fun h=>?_,fun h=>?_⟩⟩
   ·dsimp only;rw [if_pos (by omega)];exact⟨rfl,rfl⟩
   ·refine⟨by omega,fun _=>⟨by omega,fun _=>?_⟩⟩;dsimp only;rw [if_neg (by omega)];exact⟨rfl,rfl⟩
  ·intro r hs h;by_cases hl:l.length<n
   ·rw [if_pos hl]at h;obtain⟨rfl,rfl⟩:=h;have e:mK n (cg false l)=([],none):=by simp only [mK,cg,take,Bool.false_eq_true,if_false,show¬n≤l.length by omega];rfl
    rw [e];exact⟨_,nl,⟨.slice none 0 0,rfl⟩,v,true,l,[],rfl,rfl,rfl,hb,Da⟩
   ·rw [if_neg hl]at h;obtain⟨rfl,rfl⟩:=h;have e:mK n (cg false l)=(l.take n,some (l.drop n)):=by simp only [mK,cg,take,Bool.false_eq_true,if_false,show n≤l.length by omega,if_true];rfl
    rw [e];refine⟨[dy b false (aF 1 v.v n l.length none) false,aR false (aF 1 v.v n l.length none) (l.drop n),aR false (aF 1 v.v 0 n (some n)) (l.take n)],?_,⟨_,bR 1 v.v 0 n (some n)⟩,⟨_,bR 1 v.v n l.length none⟩,false,l.drop n,l.take n,rfl,rfl,rfl,hb.drop _,hb.take _⟩;refine bI.trans (bI.front (A:=[dy b false (aF 1 v.v n l.length none) false]) (bI.dup rfl [])) ?_;refine bI.trans (bI.view (lo:=n) (hi:=l.length) (mx:=none) (m:=l.drop n) (by omega) (Nat.le_refl _) (fun m h=>by cases h) (by rw [List.take_of_length_le (by simp)]) _ 1 rfl) ?_;exact bI.view (lo:=0) (hi:=n) (mx:=some n) (m:=l.take n) (by omega) (by omega) (fun m h=>by cases h;omega) (by simp) _ 2 rfl
end Go.RX.Vb
