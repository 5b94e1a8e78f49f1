/- Sums. -/
import Derived.Test.YtmgbbbmdbpbeeaaM25
open Go.IntKind renaming wrap → ae
open Go.Proofs.Try renaming prog → adE
open Int renaming toNat → ag
namespace Go.RX.Fq
open Go.RX Go.Proofs Go.RX.Fe Go.RX.Fg Go.RX.Fi Go.RX.Fj Go.RX.Fk Go.RX.Fl
set_option maxRecDepth 100000
def vd(ax:PT)(x0 x1:Int)(A0 A1 A2 A3:Nat→Int)(v0 v1 v2 v3 v4:V1)(b0:Nat):Prop:=
 aw (0≤x0) (
 fx x0 (
 ∀v5:V1,∃(bN:Ext→Prop) (bY:Ext→Nat),(∃(v6:V1) (x2:Int) (A4 A5:Nat→Int),v6=v5∧(∀j,j<8→A5 j=A0 j)∧v6=v5∧x2=x0∧(∀j,j<(ag x2)→A4 j=A2 j)∧bN ⟨[],[v6],[x2],[A4,A5],[],[],[]⟩)∧
 ∀(v6:V1) (x2:Int) (A4 A5:Nat→Int),bN ⟨[],[v6],[x2],[A4,A5],[],[],[]⟩→
 aw (0≤x2) (
 aZ (64≤x2) (
 Cl 73 [.pointer (some ⟨b0,0,none⟩),(aC 1 v6.v 0 64 none)] [aq b0 true ([v0.v,v1.v,.int .i64 4,.int .i64 2,.int .i64 13,.int .i64 22,.int .i64 6,.int .i64 11,.int .i64 25,.int .i64 7,.int .i64 18,.int .i64 3,.int .i64 17,.int .i64 19,.int .i64 10]),au true 115 1 v0.v 8 (aK 8 [aJ .u32 1 A5]),au true 115 1 v1.v 64 (aK 64 [aJ .u32 1 A1]),bo v6 x2 A4] fun x hs _=> ∃A6:(Nat→Int),x= .tuple #[]∧hs=[aq b0 true ([v0.v,v1.v,.int .i64 4,.int .i64 2,.int .i64 13,.int .i64 22,.int .i64 6,.int .i64 11,.int .i64 25,.int .i64 7,.int .i64 18,.int .i64 3,.int .i64 17,.int .i64 19,.int .i64 10]),au true 115 1 v0.v 8 (aK 8 [aJ .u32 1 A6]),au true 115 1 v1.v 64 (aK 64 [aJ .u32 1 A1]),bo v6 x2 A4]∧
 aw (64≤x2) (
 aw (0≤(x2 - 64)) (
 ∀v7:V1,∃(PB:V1) (gQ:Int) (tb tc:Nat→Int),PB=v7∧(∀j,j<8→tc j=A6 j)∧PB=v7∧gQ=(x2 - 64)∧(∀j,j<(ag gQ)→tb j=(aE A4 64) j)∧bN ⟨[],[PB],[gQ],[tb,tc],[],[],[]⟩∧bY ⟨[],[PB],[gQ],[tb,tc],[],[],[]⟩<bY ⟨[],[v6],[x2],[A4,A5],[],[],[]⟩))) (
 aw (0≤x1) (
 fx (x2+x1) (
 ∀v7:V1,∃(ez:Ext→Prop) (gT:Ext→Nat),(∃(v8:V1) (x3:Int) (A6 A7:Nat→Int),v8=v7∧(∀j,j<8→A7 j=A5 j)∧v8=v7∧x3=(x2+x1)∧(∀j,j<(ag x3)→A6 j=(aA A4 (ag x2) (ag x1) A3) j)∧ez ⟨[],[v8],[x3],[A6,A7],[],[],[]⟩)∧
 ∀(v8:V1) (x3:Int) (A6 A7:Nat→Int),ez ⟨[],[v8],[x3],[A6,A7],[],[],[]⟩→
 aw (0≤x3) (
 aZ (64≤x3) (
 Cl 73 [.pointer (some ⟨b0,0,none⟩),(aC 1 v8.v 0 64 none)] [aq b0 true ([v0.v,v1.v,.int .i64 4,.int .i64 2,.int .i64 13,.int .i64 22,.int .i64 6,.int .i64 11,.int .i64 25,.int .i64 7,.int .i64 18,.int .i64 3,.int .i64 17,.int .i64 19,.int .i64 10]),au true 115 1 v0.v 8 (aK 8 [aJ .u32 1 A7]),au true 115 1 v1.v 64 (aK 64 [aJ .u32 1 A1]),bo v8 x3 A6] fun x hs _=> ∃A8:(Nat→Int),x= .tuple #[]∧hs=[aq b0 true ([v0.v,v1.v,.int .i64 4,.int .i64 2,.int .i64 13,.int .i64 22,.int .i64 6,.int .i64 11,.int .i64 25,.int .i64 7,.int .i64 18,.int .i64 3,.int .i64 17,.int .i64 19,.int .i64 10]),au true 115 1 v0.v 8 (aK 8 [aJ .u32 1 A8]),au true 115 1 v1.v 64 (aK 64 [aJ .u32 1 A1]),bo v8 x3 A6]∧
 aw (64≤x3) (
 aw (0≤(x3 - 64)) (
 ∀v9:V1,∃(Ca:V1) (fO:Int) (qT tg:Nat→Int),Ca=v9∧(∀j,j<8→tg j=A8 j)∧Ca=v9∧fO=(x3 - 64)∧(∀j,j<(ag fO)→qT j=(aE A6 64) j)∧ez ⟨[],[Ca],[fO],[qT,tg],[],[],[]⟩∧gT ⟨[],[Ca],[fO],[qT,tg],[],[],[]⟩<gT ⟨[],[v8],[x3],[A6,A7],[],[],[]⟩))) (
 ∀b1:Nat,fx (x3+1) (
 ∀v9:V1,∃(eV:Ext→Prop) (iH:Ext→Nat),(∃(v10:V1) (x4:Int) (A8:Nat→Int),v10=v9∧v10=v9∧x4=(x3+1)∧(∀j,j<(ag x4)→A8 j=(aA A6 (ag x3) 1 (ao (fun _=>0) 0 128)) j)∧eV ⟨[],[v10],[x4],[A8],[],[],[]⟩)∧
 ∀(v10:V1) (x4:Int) (A8:Nat→Int),eV ⟨[],[v10],[x4],[A8],[],[],[]⟩→
 aw (0≤x4) (
 eJ (x4+8) ((
 aZ (¬((ak .rem .i64 (x4+8) 64)=0)) (
 ∀_:Nat,fx ((x4+1)*1) (
 ∀v11:V1,∃(nZ:V1) (eW:Int) (wO:Nat→Int),nZ=v11∧nZ=v11∧eW=(x4+1)∧(∀j,j<(ag eW)→wO j=(ao A8 (ag x4) 0) j)∧eV ⟨[],[nZ],[eW],[wO],[],[],[]⟩∧iH ⟨[],[nZ],[eW],[wO],[],[],[]⟩<iH ⟨[],[v10],[x4],[A8],[],[],[]⟩)) (
 ∀v11:V1,fx (x4+8) (
 ∀gI:V1,∃(dt:Ext→Prop) (eS:Ext→Nat),(∃(jm:V1) (x5:Int) (A9 br:Nat→Int),jm=gI∧(∀j,j<8→br j=A7 j)∧jm=gI∧x5=(x4+8)∧(∀j,j<(ag x5)→A9 j=(aA A8 (ag x4) 8 (ao (ao (ao (ao (ao (ao (ao (ao (fun _=>0) 7 (ae .u8 (ak .shr .u64 (ak .shl .u64 (ae .u64 ((ae .u64 (ae .u64 x0))+(ae .u64 x1))) 3) 0))) 6 (ae .u8 (ak .shr .u64 (ak .shl .u64 (ae .u64 ((ae .u64 (ae .u64 x0))+(ae .u64 x1))) 3) 8))) 5 (ae .u8 (ak .shr .u64 (ak .shl .u64 (ae .u64 ((ae .u64 (ae .u64 x0))+(ae .u64 x1))) 3) 16))) 4 (ae .u8 (ak .shr .u64 (ak .shl .u64 (ae .u64 ((ae .u64 (ae .u64 x0))+(ae .u64 x1))) 3) 24))) 3 (ae .u8 (ak .shr .u64 (ak .shl .u64 (ae .u64 ((ae .u64 (ae .u64 x0))+(ae .u64 x1))) 3) 32))) 2 (ae .u8 (ak .shr .u64 (ak .shl .u64 (ae .u64 ((ae .u64 (ae .u64 x0))+(ae .u64 x1))) 3) 40))) 1 (ae .u8 (ak .shr .u64 (ak .shl .u64 (ae .u64 ((ae .u64 (ae .u64 x0))+(ae .u64 x1))) 3) 48))) 0 (ae .u8 (ak .shr .u64 (ak .shl .u64 (ae .u64 ((ae .u64 (ae .u64 x0))+(ae .u64 x1))) 3) 56)))) j)∧dt ⟨[],[jm],[x5],[A9,br],[],[],[]⟩)∧
 ∀(jm:V1) (x5:Int) (A9 br:Nat→Int),dt ⟨[],[jm],[x5],[A9,br],[],[],[]⟩→
 aw (0≤x5) (
 aZ (0<x5) (
 aw (64≤x5) (
 Cl 73 [.pointer (some ⟨b0,0,none⟩),(aC 1 jm.v 0 64 none)] [aq b0 true ([v0.v,v1.v,.int .i64 4,.int .i64 2,.int .i64 13,.int .i64 22,.int .i64 6,.int .i64 11,.int .i64 25,.int .i64 7,.int .i64 18,.int .i64 3,.int .i64 17,.int .i64 19,.int .i64 10]),au true 115 1 v0.v 8 (aK 8 [aJ .u32 1 br]),au true 115 1 v1.v 64 (aK 64 [aJ .u32 1 A1]),bo jm x5 A9] fun x hs _=> ∃jM:(Nat→Int),x= .tuple #[]∧hs=[aq b0 true ([v0.v,v1.v,.int .i64 4,.int .i64 2,.int .i64 13,.int .i64 22,.int .i64 6,.int .i64 11,.int .i64 25,.int .i64 7,.int .i64 18,.int .i64 3,.int .i64 17,.int .i64 19,.int .i64 10]),au true 115 1 v0.v 8 (aK 8 [aJ .u32 1 jM]),au true 115 1 v1.v 64 (aK 64 [aJ .u32 1 A1]),bo jm x5 A9]∧
 aw (64≤x5) (
 aw (0≤(x5 - 64)) (
 ∀qq:V1,∃(rL:V1) (gH:Int) (tj jr:Nat→Int),rL=qq∧(∀j,j<8→jr j=jM j)∧rL=qq∧gH=(x5 - 64)∧(∀j,j<(ag gH)→tj j=(aE A9 64) j)∧dt ⟨[],[rL],[gH],[tj,jr],[],[],[]⟩∧eS ⟨[],[rL],[gH],[tj,jr],[],[],[]⟩<eS ⟨[],[jm],[x5],[A9,br],[],[],[]⟩)))) (
 ∀(b2:Nat) (_:V1) (_:Nat) (_:V1) (_:Nat) (_:V1) (_:Nat) (_:V1) (_:Nat) (_:V1) (_:Nat) (_:V1) (_:Nat) (_:V1) (_:Nat) (_:V1) (_:Nat) (_:V1) (_:Nat) (_:V1) (_:Nat) (_:V1) (_:Nat) (_:V1) (_:Nat) (_:V1) (_:Nat) (_:V1) (_:Nat) (_:V1) (_:Nat) (_:V1) (_:Nat) (_:V1) (_:Nat) (_:V1) (_:Nat) (_:V1) (_:Nat) (_:V1) (_:Nat) (_:V1) (_:Nat) (_:V1) (_:Nat) (_:V1) (_:Nat) (_:V1) (_:Nat) (_:V1) (_:Nat) (_:V1) (_:Nat) (_:V1) (_:Nat) (_:V1) (_:Nat) (_:V1) (_:Nat) (_:V1) (_:Nat) (_:V1) (_:Nat) (Zy:V1),ax (Zy.v) [aq b0 true ([v0.v,v1.v,.int .i64 4,.int .i64 2,.int .i64 13,.int .i64 22,.int .i64 6,.int .i64 11,.int .i64 25,.int .i64 7,.int .i64 18,.int .i64 3,.int .i64 17,.int .i64 19,.int .i64 10]),au true 115 1 v0.v 8 (aK 8 [aJ .u32 1 br]),au true 115 1 v1.v 64 (aK 64 [aJ .u32 1 A1]),au true 23 1 v2.v 2 [v3.v,v4.v],bi v3 x0 A2,bi v4 x1 A3,bo jm x5 A9,aq b1 true ([.int .u8 128]),bn true v11 8 (ao (ao (ao (ao (ao (ao (ao (ao (fun _=>0) 7 (ae .u8 (ak .shr .u64 (ak .shl .u64 (ae .u64 ((ae .u64 (ae .u64 x0))+(ae .u64 x1))) 3) 0))) 6 (ae .u8 (ak .shr .u64 (ak .shl .u64 (ae .u64 ((ae .u64 (ae .u64 x0))+(ae .u64 x1))) 3) 8))) 5 (ae .u8 (ak .shr .u64 (ak .shl .u64 (ae .u64 ((ae .u64 (ae .u64 x0))+(ae .u64 x1))) 3) 16))) 4 (ae .u8 (ak .shr .u64 (ak .shl .u64 (ae .u64 ((ae .u64 (ae .u64 x0))+(ae .u64 x1))) 3) 24))) 3 (ae .u8 (ak .shr .u64 (ak .shl .u64 (ae .u64 ((ae .u64 (ae .u64 x0))+(ae .u64 x1))) 3) 32))) 2 (ae .u8 (ak .shr .u64 (ak .shl .u64 (ae .u64 ((ae .u64 (ae .u64 x0))+(ae .u64 x1))) 3) 40))) 1 (ae .u8 (ak .shr .u64 (ak .shl .u64 (ae .u64 ((ae .u64 (ae .u64 x0))+(ae .u64 x1))) 3) 48))) 0 (ae .u8 (ak .shr .u64 (ak .shl .u64 (ae .u64 ((ae .u64 (ae .u64 x0))+(ae .u64 x1))) 3) 56))),aq b2 true ([.int .u8 (ae .u8 (ak .shr .u32 (br 0) 24))]),bn true Zy 32 (ao (ao (ao (ao (ao (ao (ao (ao (ao (ao (ao (ao (ao (ao (ao (ao (ao (ao (ao (ao (ao (ao (ao (ao (ao (ao (ao (ao (ao (ao (ao (ao (fun _=>0) 0 (ae .u8 (ak .shr .u32 (br 0) 24))) 1 (ae .u8 (ak .shr .u32 (br 0) 16))) 2 (ae .u8 (ak .shr .u32 (br 0) 8))) 3 (ae .u8 (ak .shr .u32 (br 0) 0))) 4 (ae .u8 (ak .shr .u32 (br 1) 24))) 5 (ae .u8 (ak .shr .u32 (br 1) 16))) 6 (ae .u8 (ak .shr .u32 (br 1) 8))) 7 (ae .u8 (ak .shr .u32 (br 1) 0))) 8 (ae .u8 (ak .shr .u32 (br 2) 24))) 9 (ae .u8 (ak .shr .u32 (br 2) 16))) 10 (ae .u8 (ak .shr .u32 (br 2) 8))) 11 (ae .u8 (ak .shr .u32 (br 2) 0))) 12 (ae .u8 (ak .shr .u32 (br 3) 24))) 13 (ae .u8 (ak .shr .u32 (br 3) 16))) 14 (ae .u8 (ak .shr .u32 (br 3) 8))) 15 (ae .u8 (ak .shr .u32 (br 3) 0))) 16 (ae .u8 (ak .shr .u32 (br 4) 24))) 17 (ae .u8 (ak .shr .u32 (br 4) 16))) 18 (ae .u8 (ak .shr .u32 (br 4) 8))) 19 (ae .u8 (ak .shr .u32 (br 4) 0))) 20 (ae .u8 (ak .shr .u32 (br 5) 24))) 21 (ae .u8 (ak .shr .u32 (br 5) 16))) 22 (ae .u8 (ak .shr .u32 (br 5) 8))) 23 (ae .u8 (ak .shr .u32 (br 5) 0))) 24 (ae .u8 (ak .shr .u32 (br 6) 24))) 25 (ae .u8 (ak .shr .u32 (br 6) 16))) 26 (ae .u8 (ak .shr .u32 (br 6) 8))) 27 (ae .u8 (ak .shr .u32 (br 6) 0))) 28 (ae .u8 (ak .shr .u32 (br 7) 24))) 29 (ae .u8 (ak .shr .u32 (br 7) 16))) 30 (ae .u8 (ak .shr .u32 (br 7) 8))) 31 (ae .u8 (ak .shr .u32 (br 7) 0)))]))))))))))))))))
theorem Ey(ax:PT)(x0 x1:Int)(A0 A1 A2 A3:Nat→Int)(v0 v1 v2 v3 v4:V1)(b0:Nat)(h:vd ax x0 x1 A0 A1 A2 A3 v0 v1 v2 v3 v4 b0):ar adE 61 [.pointer (some ⟨b0,0,none⟩),v2.v] [aq b0 true ([v0.v,v1.v,.int .i64 4,.int .i64 2,.int .i64 13,.int .i64 22,.int .i64 6,.int .i64 11,.int .i64 25,.int .i64 7,.int .i64 18,.int .i64 3,.int .i64 17,.int .i64 19,.int .i64 10]),au true 115 1 v0.v 8 (aK 8 [aJ .u32 1 A0]),au true 115 1 v1.v 64 (aK 64 [aJ .u32 1 A1]),au true 23 1 v2.v 2 [v3.v,v4.v],bi v3 x0 A2,bi v4 x1 A3] ax:=
 Bf (C:=Fq.cx) [.ptr 0 0,.vv 2] [.row 0 true [.vv 0,.vv 1,.int .i64 (.lit 4),.int .i64 (.lit 2),.int .i64 (.lit 13),.int .i64 (.lit 22),.int .i64 (.lit 6),.int .i64 (.lit 11),.int .i64 (.lit 25),.int .i64 (.lit 7),.int .i64 (.lit 18),.int .i64 (.lit 3),.int .i64 (.lit 17),.int .i64 (.lit 19),.int .i64 (.lit 10)],.bu true 0 115 1 (.lit 8) [⟨.int .u32,1,.aO 0⟩],.bu true 1 115 1 (.lit 64) [⟨.int .u32,1,.aO 1⟩],.bu true 2 23 1 (.lit 2) [{ck:=CK.qV [3,4],w:=1,a:= .lit 0}],.bu false 3 5 1 (.var 0) [⟨.int .u8,1,.aO 2⟩],.bu false 4 5 1 (.var 1) [⟨.int .u8,1,.aO 3⟩]] ⟨1,5,2,4,0,0,0⟩ ⟨[x0,x1],[A0,A1,A2,A3],[],[b0],[v0,v1,v2,v3,v4],[],[],[]⟩ 11 Try.func61 (by kernel_rfl) h
def ve(ax:PT)(x0 x1 x2 x3:Int)(A0 A1 A2 A3 A4 A5:Nat→Int)(v0 v1 v2 v3 v4 v5 v6:V1)(b0:Nat):Prop:=
 aw (0≤x0) (
 fx x0 (
 ∀v7:V1,∃(bN:Ext→Prop) (bY:Ext→Nat),(∃(v8:V1) (x4:Int) (A6 A7:Nat→Int),v8=v7∧(∀j,j<8→A7 j=A0 j)∧v8=v7∧x4=x0∧(∀j,j<(ag x4)→A6 j=A2 j)∧bN ⟨[],[v8],[x4],[A6,A7],[],[],[]⟩)∧
 ∀(v8:V1) (x4:Int) (A6 A7:Nat→Int),bN ⟨[],[v8],[x4],[A6,A7],[],[],[]⟩→
 aw (0≤x4) (
 aZ (64≤x4) (
 Cl 73 [.pointer (some ⟨b0,0,none⟩),(aC 1 v8.v 0 64 none)] [aq b0 true ([v0.v,v1.v,.int .i64 4,.int .i64 2,.int .i64 13,.int .i64 22,.int .i64 6,.int .i64 11,.int .i64 25,.int .i64 7,.int .i64 18,.int .i64 3,.int .i64 17,.int .i64 19,.int .i64 10]),au true 115 1 v0.v 8 (aK 8 [aJ .u32 1 A7]),au true 115 1 v1.v 64 (aK 64 [aJ .u32 1 A1]),bo v8 x4 A6] fun x hs _=> ∃A8:(Nat→Int),x= .tuple #[]∧hs=[aq b0 true ([v0.v,v1.v,.int .i64 4,.int .i64 2,.int .i64 13,.int .i64 22,.int .i64 6,.int .i64 11,.int .i64 25,.int .i64 7,.int .i64 18,.int .i64 3,.int .i64 17,.int .i64 19,.int .i64 10]),au true 115 1 v0.v 8 (aK 8 [aJ .u32 1 A8]),au true 115 1 v1.v 64 (aK 64 [aJ .u32 1 A1]),bo v8 x4 A6]∧
 aw (64≤x4) (
 aw (0≤(x4 - 64)) (
 ∀v9:V1,∃(Ca:V1) (eW:Int) (qT tg:Nat→Int),Ca=v9∧(∀j,j<8→tg j=A8 j)∧Ca=v9∧eW=(x4 - 64)∧(∀j,j<(ag eW)→qT j=(aE A6 64) j)∧bN ⟨[],[Ca],[eW],[qT,tg],[],[],[]⟩∧bY ⟨[],[Ca],[eW],[qT,tg],[],[],[]⟩<bY ⟨[],[v8],[x4],[A6,A7],[],[],[]⟩))) (
 aw (0≤x1) (
 fx (x4+x1) (
 ∀v9:V1,∃(ez:Ext→Prop) (gT:Ext→Nat),(∃(v10:V1) (x5:Int) (A8 A9:Nat→Int),v10=v9∧(∀j,j<8→A9 j=A7 j)∧v10=v9∧x5=(x4+x1)∧(∀j,j<(ag x5)→A8 j=(aA A6 (ag x4) (ag x1) A3) j)∧ez ⟨[],[v10],[x5],[A8,A9],[],[],[]⟩)∧
 ∀(v10:V1) (x5:Int) (A8 A9:Nat→Int),ez ⟨[],[v10],[x5],[A8,A9],[],[],[]⟩→
 aw (0≤x5) (
 aZ (64≤x5) (
 Cl 73 [.pointer (some ⟨b0,0,none⟩),(aC 1 v10.v 0 64 none)] [aq b0 true ([v0.v,v1.v,.int .i64 4,.int .i64 2,.int .i64 13,.int .i64 22,.int .i64 6,.int .i64 11,.int .i64 25,.int .i64 7,.int .i64 18,.int .i64 3,.int .i64 17,.int .i64 19,.int .i64 10]),au true 115 1 v0.v 8 (aK 8 [aJ .u32 1 A9]),au true 115 1 v1.v 64 (aK 64 [aJ .u32 1 A1]),bo v10 x5 A8] fun x hs _=> ∃br:(Nat→Int),x= .tuple #[]∧hs=[aq b0 true ([v0.v,v1.v,.int .i64 4,.int .i64 2,.int .i64 13,.int .i64 22,.int .i64 6,.int .i64 11,.int .i64 25,.int .i64 7,.int .i64 18,.int .i64 3,.int .i64 17,.int .i64 19,.int .i64 10]),au true 115 1 v0.v 8 (aK 8 [aJ .u32 1 br]),au true 115 1 v1.v 64 (aK 64 [aJ .u32 1 A1]),bo v10 x5 A8]∧
 aw (64≤x5) (
 aw (0≤(x5 - 64)) (
 ∀v11:V1,∃(nZ:V1) (gH:Int) (wO tj:Nat→Int),nZ=v11∧(∀j,j<8→tj j=br j)∧nZ=v11∧gH=(x5 - 64)∧(∀j,j<(ag gH)→wO j=(aE A8 64) j)∧ez ⟨[],[nZ],[gH],[wO,tj],[],[],[]⟩∧gT ⟨[],[nZ],[gH],[wO,tj],[],[],[]⟩<gT ⟨[],[v10],[x5],[A8,A9],[],[],[]⟩))) (
 aw (0≤x2) (
 fx (x5+x2) (
 ∀v11:V1,∃(eV:Ext→Prop) (iH:Ext→Nat),(∃(gI:V1) (x6:Int) (br jM:Nat→Int),gI=v11∧(∀j,j<8→jM j=A9 j)∧gI=v11∧x6=(x5+x2)∧(∀j,j<(ag x6)→br j=(aA A8 (ag x5) (ag x2) A4) j)∧eV ⟨[],[gI],[x6],[br,jM],[],[],[]⟩)∧
 ∀(gI:V1) (x6:Int) (br jM:Nat→Int),eV ⟨[],[gI],[x6],[br,jM],[],[],[]⟩→
 aw (0≤x6) (
 aZ (64≤x6) (
 Cl 73 [.pointer (some ⟨b0,0,none⟩),(aC 1 gI.v 0 64 none)] [aq b0 true ([v0.v,v1.v,.int .i64 4,.int .i64 2,.int .i64 13,.int .i64 22,.int .i64 6,.int .i64 11,.int .i64 25,.int .i64 7,.int .i64 18,.int .i64 3,.int .i64 17,.int .i64 19,.int .i64 10]),au true 115 1 v0.v 8 (aK 8 [aJ .u32 1 jM]),au true 115 1 v1.v 64 (aK 64 [aJ .u32 1 A1]),bo gI x6 br] fun x hs _=> ∃lG:(Nat→Int),x= .tuple #[]∧hs=[aq b0 true ([v0.v,v1.v,.int .i64 4,.int .i64 2,.int .i64 13,.int .i64 22,.int .i64 6,.int .i64 11,.int .i64 25,.int .i64 7,.int .i64 18,.int .i64 3,.int .i64 17,.int .i64 19,.int .i64 10]),au true 115 1 v0.v 8 (aK 8 [aJ .u32 1 lG]),au true 115 1 v1.v 64 (aK 64 [aJ .u32 1 A1]),bo gI x6 br]∧
 aw (64≤x6) (
 aw (0≤(x6 - 64)) (
 ∀jm:V1,∃(nA:V1) (qp:Int) (jr wP:Nat→Int),nA=jm∧(∀j,j<8→wP j=lG j)∧nA=jm∧qp=(x6 - 64)∧(∀j,j<(ag qp)→jr j=(aE br 64) j)∧eV ⟨[],[nA],[qp],[jr,wP],[],[],[]⟩∧iH ⟨[],[nA],[qp],[jr,wP],[],[],[]⟩<iH ⟨[],[gI],[x6],[br,jM],[],[],[]⟩))) (
 aw (0≤x3) (
 fx (x6+x3) (
 ∀jm:V1,∃(dt:Ext→Prop) (eS:Ext→Nat),(∃(qq:V1) (x7:Int) (lG ov:Nat→Int),qq=jm∧(∀j,j<8→ov j=jM j)∧qq=jm∧x7=(x6+x3)∧(∀j,j<(ag x7)→lG j=(aA br (ag x6) (ag x3) A5) j)∧dt ⟨[],[qq],[x7],[lG,ov],[],[],[]⟩)∧
 ∀(qq:V1) (x7:Int) (lG ov:Nat→Int),dt ⟨[],[qq],[x7],[lG,ov],[],[],[]⟩→
 aw (0≤x7) (
 aZ (64≤x7) (
 Cl 73 [.pointer (some ⟨b0,0,none⟩),(aC 1 qq.v 0 64 none)] [aq b0 true ([v0.v,v1.v,.int .i64 4,.int .i64 2,.int .i64 13,.int .i64 22,.int .i64 6,.int .i64 11,.int .i64 25,.int .i64 7,.int .i64 18,.int .i64 3,.int .i64 17,.int .i64 19,.int .i64 10]),au true 115 1 v0.v 8 (aK 8 [aJ .u32 1 ov]),au true 115 1 v1.v 64 (aK 64 [aJ .u32 1 A1]),bo qq x7 lG] fun x hs _=> ∃qx:(Nat→Int),x= .tuple #[]∧hs=[aq b0 true ([v0.v,v1.v,.int .i64 4,.int .i64 2,.int .i64 13,.int .i64 22,.int .i64 6,.int .i64 11,.int .i64 25,.int .i64 7,.int .i64 18,.int .i64 3,.int .i64 17,.int .i64 19,.int .i64 10]),au true 115 1 v0.v 8 (aK 8 [aJ .u32 1 qx]),au true 115 1 v1.v 64 (aK 64 [aJ .u32 1 A1]),bo qq x7 lG]∧
 aw (64≤x7) (
 aw (0≤(x7 - 64)) (
 ∀zj:V1,∃(Cb:V1) (ze:Int) (wQ wR:Nat→Int),Cb=zj∧(∀j,j<8→wR j=qx j)∧Cb=zj∧ze=(x7 - 64)∧(∀j,j<(ag ze)→wQ j=(aE lG 64) j)∧dt ⟨[],[Cb],[ze],[wQ,wR],[],[],[]⟩∧eS ⟨[],[Cb],[ze],[wQ,wR],[],[],[]⟩<eS ⟨[],[qq],[x7],[lG,ov],[],[],[]⟩))) (
 ∀b1:Nat,fx (x7+1) (
 ∀zj:V1,∃(kT:Ext→Prop) (oO:Ext→Nat),(∃(Bh:V1) (x8:Int) (qx:Nat→Int),Bh=zj∧Bh=zj∧x8=(x7+1)∧(∀j,j<(ag x8)→qx j=(aA lG (ag x7) 1 (ao (fun _=>0) 0 128)) j)∧kT ⟨[],[Bh],[x8],[qx],[],[],[]⟩)∧
 ∀(Bh:V1) (x8:Int) (qx:Nat→Int),kT ⟨[],[Bh],[x8],[qx],[],[],[]⟩→
 aw (0≤x8) (
 eJ (x8+8) ((
 aZ (¬((ak .rem .i64 (x8+8) 64)=0)) (
 ∀_:Nat,fx ((x8+1)*1) (
 ∀Bi:V1,∃(Cc:V1) (zf:Int) (wS:Nat→Int),Cc=Bi∧Cc=Bi∧zf=(x8+1)∧(∀j,j<(ag zf)→wS j=(ao qx (ag x8) 0) j)∧kT ⟨[],[Cc],[zf],[wS],[],[],[]⟩∧oO ⟨[],[Cc],[zf],[wS],[],[],[]⟩<oO ⟨[],[Bh],[x8],[qx],[],[],[]⟩)) (
 ∀Bi:V1,fx (x8+8) (
 ∀K7:V1,∃(oP:Ext→Prop) (ux:Ext→Nat),(∃(qU:V1) (x9:Int) (qy cV:Nat→Int),qU=K7∧(∀j,j<8→cV j=ov j)∧qU=K7∧x9=(x8+8)∧(∀j,j<(ag x9)→qy j=(aA qx (ag x8) 8 (ao (ao (ao (ao (ao (ao (ao (ao (fun _=>0) 7 (ae .u8 (ak .shr .u64 (ak .shl .u64 (ae .u64 ((ae .u64 ((ae .u64 ((ae .u64 (ae .u64 x0))+(ae .u64 x1)))+(ae .u64 x2)))+(ae .u64 x3))) 3) 0))) 6 (ae .u8 (ak .shr .u64 (ak .shl .u64 (ae .u64 ((ae .u64 ((ae .u64 ((ae .u64 (ae .u64 x0))+(ae .u64 x1)))+(ae .u64 x2)))+(ae .u64 x3))) 3) 8))) 5 (ae .u8 (ak .shr .u64 (ak .shl .u64 (ae .u64 ((ae .u64 ((ae .u64 ((ae .u64 (ae .u64 x0))+(ae .u64 x1)))+(ae .u64 x2)))+(ae .u64 x3))) 3) 16))) 4 (ae .u8 (ak .shr .u64 (ak .shl .u64 (ae .u64 ((ae .u64 ((ae .u64 ((ae .u64 (ae .u64 x0))+(ae .u64 x1)))+(ae .u64 x2)))+(ae .u64 x3))) 3) 24))) 3 (ae .u8 (ak .shr .u64 (ak .shl .u64 (ae .u64 ((ae .u64 ((ae .u64 ((ae .u64 (ae .u64 x0))+(ae .u64 x1)))+(ae .u64 x2)))+(ae .u64 x3))) 3) 32))) 2 (ae .u8 (ak .shr .u64 (ak .shl .u64 (ae .u64 ((ae .u64 ((ae .u64 ((ae .u64 (ae .u64 x0))+(ae .u64 x1)))+(ae .u64 x2)))+(ae .u64 x3))) 3) 40))) 1 (ae .u8 (ak .shr .u64 (ak .shl .u64 (ae .u64 ((ae .u64 ((ae .u64 ((ae .u64 (ae .u64 x0))+(ae .u64 x1)))+(ae .u64 x2)))+(ae .u64 x3))) 3) 48))) 0 (ae .u8 (ak .shr .u64 (ak .shl .u64 (ae .u64 ((ae .u64 ((ae .u64 ((ae .u64 (ae .u64 x0))+(ae .u64 x1)))+(ae .u64 x2)))+(ae .u64 x3))) 3) 56)))) j)∧oP ⟨[],[qU],[x9],[qy,cV],[],[],[]⟩)∧
 ∀(qU:V1) (x9:Int) (qy cV:Nat→Int),oP ⟨[],[qU],[x9],[qy,cV],[],[],[]⟩→
 aw (0≤x9) (
 aZ (0<x9) (
 aw (64≤x9) (
 Cl 73 [.pointer (some ⟨b0,0,none⟩),(aC 1 qU.v 0 64 none)] [aq b0 true ([v0.v,v1.v,.int .i64 4,.int .i64 2,.int .i64 13,.int .i64 22,.int .i64 6,.int .i64 11,.int .i64 25,.int .i64 7,.int .i64 18,.int .i64 3,.int .i64 17,.int .i64 19,.int .i64 10]),au true 115 1 v0.v 8 (aK 8 [aJ .u32 1 cV]),au true 115 1 v1.v 64 (aK 64 [aJ .u32 1 A1]),bo qU x9 qy] fun x hs _=> ∃CY:(Nat→Int),x= .tuple #[]∧hs=[aq b0 true ([v0.v,v1.v,.int .i64 4,.int .i64 2,.int .i64 13,.int .i64 22,.int .i64 6,.int .i64 11,.int .i64 25,.int .i64 7,.int .i64 18,.int .i64 3,.int .i64 17,.int .i64 19,.int .i64 10]),au true 115 1 v0.v 8 (aK 8 [aJ .u32 1 CY]),au true 115 1 v1.v 64 (aK 64 [aJ .u32 1 A1]),bo qU x9 qy]∧
 aw (64≤x9) (
 aw (0≤(x9 - 64)) (
 ∀v20:V1,∃(rM:V1) (zg:Int) (wT wU:Nat→Int),rM=v20∧(∀j,j<8→wU j=CY j)∧rM=v20∧zg=(x9 - 64)∧(∀j,j<(ag zg)→wT j=(aE qy 64) j)∧oP ⟨[],[rM],[zg],[wT,wU],[],[],[]⟩∧ux ⟨[],[rM],[zg],[wT,wU],[],[],[]⟩<ux ⟨[],[qU],[x9],[qy,cV],[],[],[]⟩)))) (
 ∀(b2:Nat) (_:V1) (_:Nat) (_:V1) (_:Nat) (_:V1) (_:Nat) (_:V1) (_:Nat) (_:V1) (_:Nat) (_:V1) (_:Nat) (_:V1) (_:Nat) (_:V1) (_:Nat) (_:V1) (_:Nat) (_:V1) (_:Nat) (_:V1) (_:Nat) (_:V1) (_:Nat) (_:V1) (_:Nat) (_:V1) (_:Nat) (_:V1) (_:Nat) (_:V1) (_:Nat) (_:V1) (_:Nat) (_:V1) (_:Nat) (_:V1) (_:Nat) (_:V1) (_:Nat) (_:V1) (_:Nat) (_:V1) (_:Nat) (_:V1) (_:Nat) (_:V1) (_:Nat) (_:V1) (_:Nat) (_:V1) (_:Nat) (_:V1) (_:Nat) (_:V1) (_:Nat) (_:V1) (_:Nat) (_:V1) (_:Nat) (_:V1) (_:Nat) (Zz:V1),ax (Zz.v) [aq b0 true ([v0.v,v1.v,.int .i64 4,.int .i64 2,.int .i64 13,.int .i64 22,.int .i64 6,.int .i64 11,.int .i64 25,.int .i64 7,.int .i64 18,.int .i64 3,.int .i64 17,.int .i64 19,.int .i64 10]),au true 115 1 v0.v 8 (aK 8 [aJ .u32 1 cV]),au true 115 1 v1.v 64 (aK 64 [aJ .u32 1 A1]),au true 23 1 v2.v 4 [v3.v,v4.v,v5.v,v6.v],bi v3 x0 A2,bi v4 x1 A3,bi v5 x2 A4,bi v6 x3 A5,bo qU x9 qy,aq b1 true ([.int .u8 128]),bn true Bi 8 (ao (ao (ao (ao (ao (ao (ao (ao (fun _=>0) 7 (ae .u8 (ak .shr .u64 (ak .shl .u64 (ae .u64 ((ae .u64 ((ae .u64 ((ae .u64 (ae .u64 x0))+(ae .u64 x1)))+(ae .u64 x2)))+(ae .u64 x3))) 3) 0))) 6 (ae .u8 (ak .shr .u64 (ak .shl .u64 (ae .u64 ((ae .u64 ((ae .u64 ((ae .u64 (ae .u64 x0))+(ae .u64 x1)))+(ae .u64 x2)))+(ae .u64 x3))) 3) 8))) 5 (ae .u8 (ak .shr .u64 (ak .shl .u64 (ae .u64 ((ae .u64 ((ae .u64 ((ae .u64 (ae .u64 x0))+(ae .u64 x1)))+(ae .u64 x2)))+(ae .u64 x3))) 3) 16))) 4 (ae .u8 (ak .shr .u64 (ak .shl .u64 (ae .u64 ((ae .u64 ((ae .u64 ((ae .u64 (ae .u64 x0))+(ae .u64 x1)))+(ae .u64 x2)))+(ae .u64 x3))) 3) 24))) 3 (ae .u8 (ak .shr .u64 (ak .shl .u64 (ae .u64 ((ae .u64 ((ae .u64 ((ae .u64 (ae .u64 x0))+(ae .u64 x1)))+(ae .u64 x2)))+(ae .u64 x3))) 3) 32))) 2 (ae .u8 (ak .shr .u64 (ak .shl .u64 (ae .u64 ((ae .u64 ((ae .u64 ((ae .u64 (ae .u64 x0))+(ae .u64 x1)))+(ae .u64 x2)))+(ae .u64 x3))) 3) 40))) 1 (ae .u8 (ak .shr .u64 (ak .shl .u64 (ae .u64 ((ae .u64 ((ae .u64 ((ae .u64 (ae .u64 x0))+(ae .u64 x1)))+(ae .u64 x2)))+(ae .u64 x3))) 3) 48))) 0 (ae .u8 (ak .shr .u64 (ak .shl .u64 (ae .u64 ((ae .u64 ((ae .u64 ((ae .u64 (ae .u64 x0))+(ae .u64 x1)))+(ae .u64 x2)))+(ae .u64 x3))) 3) 56))),aq b2 true ([.int .u8 (ae .u8 (ak .shr .u32 (cV 0) 24))]),bn true Zz 32 (ao (ao (ao (ao (ao (ao (ao (ao (ao (ao (ao (ao (ao (ao (ao (ao (ao (ao (ao (ao (ao (ao (ao (ao (ao (ao (ao (ao (ao (ao (ao (ao (fun _=>0) 0 (ae .u8 (ak .shr .u32 (cV 0) 24))) 1 (ae .u8 (ak .shr .u32 (cV 0) 16))) 2 (ae .u8 (ak .shr .u32 (cV 0) 8))) 3 (ae .u8 (ak .shr .u32 (cV 0) 0))) 4 (ae .u8 (ak .shr .u32 (cV 1) 24))) 5 (ae .u8 (ak .shr .u32 (cV 1) 16))) 6 (ae .u8 (ak .shr .u32 (cV 1) 8))) 7 (ae .u8 (ak .shr .u32 (cV 1) 0))) 8 (ae .u8 (ak .shr .u32 (cV 2) 24))) 9 (ae .u8 (ak .shr .u32 (cV 2) 16))) 10 (ae .u8 (ak .shr .u32 (cV 2) 8))) 11 (ae .u8 (ak .shr .u32 (cV 2) 0))) 12 (ae .u8 (ak .shr .u32 (cV 3) 24))) 13 (ae .u8 (ak .shr .u32 (cV 3) 16))) 14 (ae .u8 (ak .shr .u32 (cV 3) 8))) 15 (ae .u8 (ak .shr .u32 (cV 3) 0))) 16 (ae .u8 (ak .shr .u32 (cV 4) 24))) 17 (ae .u8 (ak .shr .u32 (cV 4) 16))) 18 (ae .u8 (ak .shr .u32 (cV 4) 8))) 19 (ae .u8 (ak .shr .u32 (cV 4) 0))) 20 (ae .u8 (ak .shr .u32 (cV 5) 24))) 21 (ae .u8 (ak .shr .u32 (cV 5) 16))) 22 (ae .u8 (ak .shr .u32 (cV 5) 8))) 23 (ae .u8 (ak .shr .u32 (cV 5) 0))) 24 (ae .u8 (ak .shr .u32 (cV 6) 24))) 25 (ae .u8 (ak .shr .u32 (cV 6) 16))) 26 (ae .u8 (ak .shr .u32 (cV 6) 8))) 27 (ae .u8 (ak .shr .u32 (cV 6) 0))) 28 (ae .u8 (ak .shr .u32 (cV 7) 24))) 29 (ae .u8 (ak .shr .u32 (cV 7) 16))) 30 (ae .u8 (ak .shr .u32 (cV 7) 8))) 31 (ae .u8 (ak .shr .u32 (cV 7) 0)))]))))))))))))))))))))))))
theorem Ez(ax:PT)(x0 x1 x2 x3:Int)(A0 A1 A2 A3 A4 A5:Nat→Int)(v0 v1 v2 v3 v4 v5 v6:V1)(b0:Nat)(h:ve ax x0 x1 x2 x3 A0 A1 A2 A3 A4 A5 v0 v1 v2 v3 v4 v5 v6 b0):ar adE 61 [.pointer (some ⟨b0,0,none⟩),v2.v] [aq b0 true ([v0.v,v1.v,.int .i64 4,.int .i64 2,.int .i64 13,.int .i64 22,.int .i64 6,.int .i64 11,.int .i64 25,.int .i64 7,.int .i64 18,.int .i64 3,.int .i64 17,.int .i64 19,.int .i64 10]),au true 115 1 v0.v 8 (aK 8 [aJ .u32 1 A0]),au true 115 1 v1.v 64 (aK 64 [aJ .u32 1 A1]),au true 23 1 v2.v 4 [v3.v,v4.v,v5.v,v6.v],bi v3 x0 A2,bi v4 x1 A3,bi v5 x2 A4,bi v6 x3 A5] ax:=
 Bf (C:=Fq.cx) [.ptr 0 0,.vv 2] [.row 0 true [.vv 0,.vv 1,.int .i64 (.lit 4),.int .i64 (.lit 2),.int .i64 (.lit 13),.int .i64 (.lit 22),.int .i64 (.lit 6),.int .i64 (.lit 11),.int .i64 (.lit 25),.int .i64 (.lit 7),.int .i64 (.lit 18),.int .i64 (.lit 3),.int .i64 (.lit 17),.int .i64 (.lit 19),.int .i64 (.lit 10)],.bu true 0 115 1 (.lit 8) [⟨.int .u32,1,.aO 0⟩],.bu true 1 115 1 (.lit 64) [⟨.int .u32,1,.aO 1⟩],.bu true 2 23 1 (.lit 4) [{ck:=CK.qV [3,4,5,6],w:=1,a:= .lit 0}],.bu false 3 5 1 (.var 0) [⟨.int .u8,1,.aO 2⟩],.bu false 4 5 1 (.var 1) [⟨.int .u8,1,.aO 3⟩],.bu false 5 5 1 (.var 2) [⟨.int .u8,1,.aO 4⟩],.bu false 6 5 1 (.var 3) [⟨.int .u8,1,.aO 5⟩]] ⟨1,7,4,6,0,0,0⟩ ⟨[x0,x1,x2,x3],[A0,A1,A2,A3,A4,A5],[],[b0],[v0,v1,v2,v3,v4,v5,v6],[],[],[]⟩ 13 Try.func61 (by kernel_rfl) h
open Go.RX Go.Proofs Go.RX.Fe Go.RX.Fg Go.RX.Fi Go.RX.Fj Go.RX.Fk Go.RX.Fl
set_option maxRecDepth 100000
def HJ(ax:PT):Prop:=
 ∀b0 b1 b2:Nat,ax (.pointer (some ⟨b2,0,none⟩)) [aq b0 true ([.int .u64 7640891576956012808,.int .u64 13503953896175478587,.int .u64 4354685564936845355,.int .u64 11912009170470909681,.int .u64 5840696475078001361,.int .u64 11170449401992604703,.int .u64 2270897969802886507,.int .u64 6620516959819538809]),aq b1 true ([.int .u64 4794697086780616226,.int .u64 8158064640168781261,.int .u64 13096744586834688815,.int .u64 16840607885511220156,.int .u64 4131703408338449720,.int .u64 6480981068601479193,.int .u64 10538285296894168987,.int .u64 12329834152419229976,.int .u64 15566598209576043074,.int .u64 1334009975649890238,.int .u64 2608012711638119052,.int .u64 6128411473006802146,.int .u64 8268148722764581231,.int .u64 9286055187155687089,.int .u64 11230858885718282805,.int .u64 13951009754708518548,.int .u64 16472876342353939154,.int .u64 17275323862435702243,.int .u64 1135362057144423861,.int .u64 2597628984639134821,.int .u64 3308224258029322869,.int .u64 5365058923640841347,.int .u64 6679025012923562964,.int .u64 8573033837759648693,.int .u64 10970295158949994411,.int .u64 12119686244451234320,.int .u64 12683024718118986047,.int .u64 13788192230050041572,.int .u64 14330467153632333762,.int .u64 15395433587784984357,.int .u64 489312712824947311,.int .u64 1452737877330783856,.int .u64 2861767655752347644,.int .u64 3322285676063803686,.int .u64 5560940570517711597,.int .u64 5996557281743188959,.int .u64 7280758554555802590,.int .u64 8532644243296465576,.int .u64 9350256976987008742,.int .u64 10552545826968843579,.int .u64 11727347734174303076,.int .u64 12113106623233404929,.int .u64 14000437183269869457,.int .u64 14369950271660146224,.int .u64 15101387698204529176,.int .u64 15463397548674623760,.int .u64 17586052441742319658,.int .u64 1182934255886127544,.int .u64 1847814050463011016,.int .u64 2177327727835720531,.int .u64 2830643537854262169,.int .u64 3796741975233480872,.int .u64 4115178125766777443,.int .u64 5681478168544905931,.int .u64 6601373596472566643,.int .u64 7507060721942968483,.int .u64 8399075790359081724,.int .u64 8693463985226723168,.int .u64 9568029438360202098,.int .u64 10144078919501101548,.int .u64 10430055236837252648,.int .u64 11840083180663258601,.int .u64 13761210420658862357,.int .u64 14299343276471374635,.int .u64 14566680578165727644,.int .u64 15097957966210449927,.int .u64 16922976911328602910,.int .u64 17689382322260857208,.int .u64 500013540394364858,.int .u64 748580250866718886,.int .u64 1242879168328830382,.int .u64 1977374033974150939,.int .u64 2944078676154940804,.int .u64 3659926193048069267,.int .u64 4368137639120453308,.int .u64 4836135668995329356,.int .u64 5532061633213252278,.int .u64 6448918945643986474,.int .u64 6902733635092675308,.int .u64 7801388544844847127]),aq b2 true ([.slice (some ⟨b0,0,none⟩) 8 8,.slice (some ⟨b1,0,none⟩) 80 80,.int .i64 8,.int .i64 28,.int .i64 34,.int .i64 39,.int .i64 14,.int .i64 18,.int .i64 41,.int .i64 1,.int .i64 8,.int .i64 7,.int .i64 19,.int .i64 61,.int .i64 6])]
theorem OH(ax:PT)(h:HJ ax):ar adE 62 [] [] ax:=
 NQ (C:=Fq.cx) [] [] ⟨0,0,0,0,0,0,0⟩ ⟨[],[],[],[],[],[],[],[]⟩ Try.func62 (by kernel_rfl) h
def yn(ax:PT)(A0 A1 A2:Nat→Int)(v0 v1 _:V1)(b0:Nat):Prop:=
 ∀_:V1,∃(bN:Ext→Prop) (bY:Ext→Nat),(∃(x0:Int) (A3:Nat→Int),x0=0∧(∀j,j<80→A3 j=(fun _=>0) j)∧bN ⟨[],[],[x0],[A3],[],[],[]⟩)∧
 ∀(x0:Int) (A3:Nat→Int),bN ⟨[],[],[x0],[A3],[],[],[]⟩→
 aZ (x0<128) (
 aw (0≤(ae .i64 (ak .quo .i64 x0 8))) (
 aw ((ae .i64 (ak .quo .i64 x0 8))<80) (
 aw (0≤x0) (
 eJ (x0+1) ((
 ∃(iE:Int) (oN:Nat→Int),iE=(x0+1)∧(∀j,j<80→oN j=(ao A3 (ag (ae .i64 (ak .quo .i64 x0 8))) (ak .bJ .u64 (ak .shl .u64 (A3 (ag (ae .i64 (ak .quo .i64 x0 8)))) 8) (ae .u64 (A2 (ag x0))))) j)∧bN ⟨[],[],[iE],[oN],[],[],[]⟩∧bY ⟨[],[],[iE],[oN],[],[],[]⟩<bY ⟨[],[],[x0],[A3],[],[],[]⟩)))))) (
 ∃(ez:Ext→Prop) (gT:Ext→Nat),(∃(x1:Int) (A4:Nat→Int),x1=16∧(∀j,j<80→A4 j=A3 j)∧ez ⟨[],[],[x1],[A4],[],[],[]⟩)∧
 ∀(x1:Int) (A4:Nat→Int),ez ⟨[],[],[x1],[A4],[],[],[]⟩→
 aZ (x1<80) (
 eJ (x1 - 2) ((
 aw (0≤(x1 - 2)) (
 aw ((x1 - 2)<80) (
 eJ (x1 - 7) ((
 aw (0≤(x1 - 7)) (
 aw ((x1 - 7)<80) (
 eJ (x1 - 15) ((
 aw (0≤(x1 - 15)) (
 aw ((x1 - 15)<80) (
 eJ (x1 - 16) ((
 aw (0≤(x1 - 16)) (
 aw ((x1 - 16)<80) (
 ∀_ _:Nat,aw (0≤x1) (
 eJ (x1+1) ((
 ∃(gM:Int) (tb:Nat→Int),gM=(x1+1)∧(∀j,j<80→tb j=(ao A4 (ag x1) (ae .u64 ((ae .u64 ((ae .u64 ((ak .aD .u64 (ak .aD .u64 (ak .bJ .u64 (ak .shr .u64 (A4 (ag (x1 - 2))) 19) (ak .shl .u64 (A4 (ag (x1 - 2))) 45)) (ak .bJ .u64 (ak .shr .u64 (A4 (ag (x1 - 2))) 61) (ak .shl .u64 (A4 (ag (x1 - 2))) 3))) (ak .shr .u64 (A4 (ag (x1 - 2))) 6))+(A4 (ag (x1 - 7)))))+(ak .aD .u64 (ak .aD .u64 (ak .bJ .u64 (ak .shr .u64 (A4 (ag (x1 - 15))) 1) (ak .shl .u64 (A4 (ag (x1 - 15))) 63)) (ak .bJ .u64 (ak .shr .u64 (A4 (ag (x1 - 15))) 8) (ak .shl .u64 (A4 (ag (x1 - 15))) 56))) (ak .shr .u64 (A4 (ag (x1 - 15))) 7))))+(A4 (ag (x1 - 16)))))) j)∧ez ⟨[],[],[gM],[tb],[],[],[]⟩∧gT ⟨[],[],[gM],[tb],[],[],[]⟩<gT ⟨[],[],[x1],[A4],[],[],[]⟩)))))))))))))))))))) (
 ∀_:Nat,∃(eV:Ext→Prop) (iH:Ext→Nat),(∃x2 x3 x4 x5 x6 x7 x8 x9 eK:Int,eK=0∧x2=(A0 0)∧x3=(A0 1)∧x4=(A0 2)∧x5=(A0 3)∧x6=(A0 4)∧x7=(A0 5)∧x8=(A0 6)∧x9=(A0 7)∧eV ⟨[],[],[x2,x3,x4,x5,x6,x7,x8,x9,eK],[],[],[],[]⟩)∧
 ∀x2 x3 x4 x5 x6 x7 x8 x9 eK:Int,eV ⟨[],[],[x2,x3,x4,x5,x6,x7,x8,x9,eK],[],[],[],[]⟩→
 aZ (eK<80) (
 aw (0≤eK) (
 ∀_ _:Nat,eJ (eK+1) ((
 ∃gQ fO eW gH qp ze zf zg vO:Int,vO=(eK+1)∧gQ=(ae .u64 ((ae .u64 ((ae .u64 ((ae .u64 ((ae .u64 (x9+(ak .aD .u64 (ak .aD .u64 (ak .bJ .u64 (ak .shr .u64 x6 14) (ak .shl .u64 x6 50)) (ak .bJ .u64 (ak .shr .u64 x6 18) (ak .shl .u64 x6 46))) (ak .bJ .u64 (ak .shr .u64 x6 41) (ak .shl .u64 x6 23)))))+(ak .aD .u64 (ak .aQ .u64 x6 x7) (ak .aQ .u64 (ak .aD .u64 18446744073709551615 x6) x8))))+(A1 (ag eK))))+(A4 (ag eK))))+(ae .u64 ((ak .aD .u64 (ak .aD .u64 (ak .bJ .u64 (ak .shr .u64 x2 28) (ak .shl .u64 x2 36)) (ak .bJ .u64 (ak .shr .u64 x2 34) (ak .shl .u64 x2 30))) (ak .bJ .u64 (ak .shr .u64 x2 39) (ak .shl .u64 x2 25)))+(ak .aD .u64 (ak .aD .u64 (ak .aQ .u64 x2 x3) (ak .aQ .u64 x2 x4)) (ak .aQ .u64 x3 x4))))))∧fO=x2∧eW=x3∧gH=x4∧qp=(ae .u64 (x5+(ae .u64 ((ae .u64 ((ae .u64 ((ae .u64 (x9+(ak .aD .u64 (ak .aD .u64 (ak .bJ .u64 (ak .shr .u64 x6 14) (ak .shl .u64 x6 50)) (ak .bJ .u64 (ak .shr .u64 x6 18) (ak .shl .u64 x6 46))) (ak .bJ .u64 (ak .shr .u64 x6 41) (ak .shl .u64 x6 23)))))+(ak .aD .u64 (ak .aQ .u64 x6 x7) (ak .aQ .u64 (ak .aD .u64 18446744073709551615 x6) x8))))+(A1 (ag eK))))+(A4 (ag eK))))))∧ze=x6∧zf=x7∧zg=x8∧eV ⟨[],[],[gQ,fO,eW,gH,qp,ze,zf,zg,vO],[],[],[],[]⟩∧iH ⟨[],[],[gQ,fO,eW,gH,qp,ze,zf,zg,vO],[],[],[],[]⟩<iH ⟨[],[],[x2,x3,x4,x5,x6,x7,x8,x9,eK],[],[],[],[]⟩)))) (
 ∃(dt:Ext→Prop) (eS:Ext→Nat),(∃(ib:Int) (A5 A6:Nat→Int),ib=0∧(∀j,j<8→A5 j=A0 j)∧(∀j,j<8→A6 j=(ao (ao (ao (ao (ao (ao (ao (ao (fun _=>0) 0 x2) 1 x3) 2 x4) 3 x5) 4 x6) 5 x7) 6 x8) 7 x9) j)∧dt ⟨[],[],[ib],[A5,A6],[],[],[]⟩)∧
 ∀(ib:Int) (A5 A6:Nat→Int),dt ⟨[],[],[ib],[A5,A6],[],[],[]⟩→
 aZ (ib<8) (
 aw (0≤ib) (
 eJ (ib+1) ((
 ∃(vP:Int) (tc qT:Nat→Int),vP=(ib+1)∧(∀j,j<8→tc j=(ao A5 (ag ib) (ae .u64 ((A5 (ag ib))+(A6 (ag ib))))) j)∧(∀j,j<8→qT j=A6 j)∧dt ⟨[],[],[vP],[tc,qT],[],[],[]⟩∧eS ⟨[],[],[vP],[tc,qT],[],[],[]⟩<eS ⟨[],[],[ib],[A5,A6],[],[],[]⟩)))) (
 ax (.tuple #[]) [aq b0 true ([v0.v,v1.v,.int .i64 8,.int .i64 28,.int .i64 34,.int .i64 39,.int .i64 14,.int .i64 18,.int .i64 41,.int .i64 1,.int .i64 8,.int .i64 7,.int .i64 19,.int .i64 61,.int .i64 6]),au true 24 1 v0.v 8 (aK 8 [aJ .u64 1 A5]),au true 24 1 v1.v 80 (aK 80 [aJ .u64 1 A1])]))))
theorem GI(ax:PT)(A0 A1 A2:Nat→Int)(v0 v1 v2:V1)(b0:Nat)(h:yn ax A0 A1 A2 v0 v1 v2 b0):ar adE 74 [.pointer (some ⟨b0,0,none⟩),v2.v] [aq b0 true ([v0.v,v1.v,.int .i64 8,.int .i64 28,.int .i64 34,.int .i64 39,.int .i64 14,.int .i64 18,.int .i64 41,.int .i64 1,.int .i64 8,.int .i64 7,.int .i64 19,.int .i64 61,.int .i64 6]),au true 24 1 v0.v 8 (aK 8 [aJ .u64 1 A0]),au true 24 1 v1.v 80 (aK 80 [aJ .u64 1 A1]),bn false v2 128 A2] ax:=
 Bf (C:=Fq.cx) [.ptr 0 0,.vv 2] [.row 0 true [.vv 0,.vv 1,.int .i64 (.lit 8),.int .i64 (.lit 28),.int .i64 (.lit 34),.int .i64 (.lit 39),.int .i64 (.lit 14),.int .i64 (.lit 18),.int .i64 (.lit 41),.int .i64 (.lit 1),.int .i64 (.lit 8),.int .i64 (.lit 7),.int .i64 (.lit 19),.int .i64 (.lit 61),.int .i64 (.lit 6)],.bu true 0 24 1 (.lit 8) [⟨.int .u64,1,.aO 0⟩],.bu true 1 24 1 (.lit 80) [⟨.int .u64,1,.aO 1⟩],.bu false 2 5 1 (.lit 128) [⟨.int .u8,1,.aO 2⟩]] ⟨1,3,0,3,0,0,0⟩ ⟨[],[A0,A1,A2],[],[b0],[v0,v1,v2],[],[],[]⟩ 3 Try.func74 (by kernel_rfl) h
end Go.RX.Fq
