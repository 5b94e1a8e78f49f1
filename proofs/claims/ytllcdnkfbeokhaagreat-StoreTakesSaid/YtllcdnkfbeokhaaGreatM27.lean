/- The store's walker. -/
import Derived.Test.YtllcdnkfbeokhaaGreatM26
open Go.IntKind renaming wrap → ae
open Go.Proofs.Tryz renaming prog → aqQ
open Int renaming toNat → ag
namespace Go.RX.Vb
open Go.RX Go.Proofs
set_option maxRecDepth 100000
set_option maxHeartbeats 4000000
def NZ(al:PT)(x0 x1 x2 x3 x4 x5 x6 x7 x8 x9 bE bM bP bI dW bV dI cj dM cU dz i_ fU gC fV jb:Int)(A0 A1 A2 A3 A4 A5 A6 A7 A8 A9 eg dN dq gk gG gP f_ fl fe fh fo gl kq:Nat→Int)(_ v1 v2 v3 v4 v5 v6 v7:V1)(b0 b1:Nat)(p0:HP):Prop:=
 ∀_ _:Nat,ax (0≤x0) (
 kE (x0+32) (
 ∀(v8:V1) (_:Nat),Cl 21 [pp b0,.int .u64 x1,.int .i64 8] [cV b0 v8,bp v8 (x0+32) (bQ A0 (ag x0) 32 A1)] fun x hs _=> ∃(v9:V1) (lz oM:Int) (lY:Nat→Int) (_:Bool),x= .int .u64 lz∧hs=[cV b0 v9,bp v9 oM lY]∧
 ∀b5 _ _ _:Nat,Cl 21 [pp b0,.int .u64 (ae .u64 x2),.int .i64 1] [cV b0 v9,bp v9 oM lY] fun x hs _=> ∃(v10:V1) (wS tu:Int) (lJ:Nat→Int) (_:Bool),x= .int .u64 wS∧hs=[cV b0 v10,bp v10 tu lJ]∧
 Cl 21 [pp b0,.int .u64 (ae .u64 x3),.int .i64 1] [cV b0 v10,bp v10 tu lJ] fun x hs _=> ∃(v11:V1) (rP ia:Int) (nF:Nat→Int) (_:Bool),x= .int .u64 rP∧hs=[cV b0 v11,bp v11 ia nF]∧
 ∀_:Nat,ax (0≤ia) (
 kE (ia+32) (
 ∀_:V1,ax (0≤(ia+32)) (
 kE ((ia+32)+32) (
 ∀qH:V1,ax (0≤cU) (
 Cl 21 [pp b0,.int .u64 (ae .u64 cU),.int .i64 4] [cV b0 qH,bp qH ((ia+32)+32) (bQ (bQ nF (ag ia) 32 A2) (ag (ia+32)) 32 A3)] fun x hs _=> ∃(tw:V1) (Df vD:Int) (uq:Nat→Int) (_:Bool),x= .int .u64 Df∧hs=[cV b0 tw,bp tw vD uq]∧
 ∃(cE:Ext→Prop) (db:Ext→Nat),(∃(pP:V1) (rQ rR:Int) (sm:Nat→Int) (q4:Bool),rQ=0∧pP=tw∧pP=tw∧rR=vD∧(∀j,j<(ag rR)→sm j=uq j)∧cE ⟨[],[pP],[rQ,rR],[sm],[q4],[],[]⟩)∧
 ∀(pP:V1) (rQ rR:Int) (sm:Nat→Int) (q4:Bool),cE ⟨[],[pP],[rQ,rR],[sm],[q4],[],[]⟩→
 br (rQ<cU) (
 ax (0≤rQ) (
 ∀_ _:Nat,Cl 21 [pp b0,.int .u64 (ae .u64 (A9 (ag rQ))),.int .i64 4] [cV b0 pP,bp pP rR sm] fun x hs _=> ∃(rS:V1) (Aq vE:Int) (wU:Nat→Int) (_:Bool),x= .int .u64 Aq∧hs=[cV b0 rS,bp rS vE wU]∧
 ∀_:Nat,ax (0≤vE) (
 kE (vE+32) (
 ∀px:V1,iQ (rQ+1) ((
 ∃(Sc:V1) (Ep Cp:Int) (V5:Nat→Int) (Yi:Bool),Ep=(rQ+1)∧Sc=px∧Sc=px∧Cp=(vE+32)∧(∀j,j<(ag Cp)→V5 j=(bQ wU (ag vE) 32 (bS eg (ag (rQ*32)))) j)∧cE ⟨[],[Sc],[Ep,Cp],[V5],[Yi],[],[]⟩∧db ⟨[],[Sc],[Ep,Cp],[V5],[Yi],[],[]⟩<db ⟨[],[pP],[rQ,rR],[sm],[q4],[],[]⟩)))))) (
 Cl 21 [pp b0,.int .u64 (ae .u64 x4),.int .i64 4] [cV b0 pP,bp pP rR sm] fun x hs _=> ∃(rS:V1) (Aq vE:Int) (wU:Nat→Int) (_:Bool),x= .int .u64 Aq∧hs=[cV b0 rS,bp rS vE wU]∧
 iQ Aq ((
 ax (0≤dz) (
 Cl 21 [pp b0,.int .u64 (ae .u64 dz),.int .i64 4] [cV b0 rS,bp rS vE wU] fun x hs _=> ∃(px:V1) (Qt IB:Int) (AJ:Nat→Int) (_:Bool),x= .int .u64 Qt∧hs=[cV b0 px,bp px IB AJ]∧
 ∃(oW:Ext→Prop) (tz:Ext→Nat),(∃(p8:V1) (wT En:Int) (Ar:Nat→Int) (q7:Bool),wT=0∧p8=px∧p8=px∧En=IB∧(∀j,j<(ag En)→Ar j=AJ j)∧oW ⟨[],[p8],[wT,En],[Ar],[q7],[],[]⟩)∧
 ∀(p8:V1) (wT En:Int) (Ar:Nat→Int) (q7:Bool),oW ⟨[],[p8],[wT,En],[Ar],[q7],[],[]⟩→
 br (wT<dz) (
 ax (0≤wT) (
 ∀F3:Nat,Cl 102 [pp F3,pp b5] [cV b0 p8,bp p8 En Ar,ak F3 true ([.int .u8 (dN (ag wT)),.int .u8 (dq (ag wT)),(cX (gk (ag wT)))]),n_ b5 b0,p0] fun x hs _=> ∃(so:V1) (FY:Int) (Bv:Nat→Int) (_:Bool),x= .tuple #[]∧hs=[cV b0 so,bp so FY Bv,ak F3 true ([.int .u8 (dN (ag wT)),.int .u8 (dq (ag wT)),(cX (gk (ag wT)))]),n_ b5 b0,p0]∧
 iQ (wT+1) ((
 ∃(Cq:V1) (V6 Sd:Int) (V7:Nat→Int) (q7':Bool),V6=(wT+1)∧Cq=so∧Cq=so∧Sd=FY∧(∀j,j<(ag Sd)→V7 j=Bv j)∧oW ⟨[],[Cq],[V6,Sd],[V7],[q7'],[],[]⟩∧tz ⟨[],[Cq],[V6,Sd],[V7],[q7'],[],[]⟩<tz ⟨[],[p8],[wT,En],[Ar],[q7],[],[]⟩)))) (
 ∀_ _ _:Nat,Cl 21 [pp b0,.int .u64 (ae .u64 x5),.int .i64 1] [cV b0 p8,bp p8 En Ar] fun x hs _=> ∃(so:V1) (FY NN:Int) (Bv:Nat→Int) (_:Bool),x= .int .u64 FY∧hs=[cV b0 so,bp so NN Bv]∧
 Cl 21 [pp b0,.int .u64 (ae .u64 x6),.int .i64 1] [cV b0 so,bp so NN Bv] fun x hs _=> ∃(v20:V1) (R2 NO:Int) (Eo:Nat→Int) (_:Bool),x= .int .u64 R2∧hs=[cV b0 v20,bp v20 NO Eo]∧
 ax (0≤NO) (
 kE (NO+8) (
 ∀NR:V1,ax (0≤i_) (
 Cl 21 [pp b0,.int .u64 (ae .u64 i_),.int .i64 4] [cV b0 NR,bp NR (NO+8) (bQ Eo (ag NO) 8 A4)] fun x hs _=> ∃(xZ:V1) (VQ T5:Int) (ID:Nat→Int) (_:Bool),x= .int .u64 VQ∧hs=[cV b0 xZ,bp xZ T5 ID]∧
 ∃(lZ:Ext→Prop) (py:Ext→Nat),(∃(vF:V1) (FZ Bu:Int) (Km:Nat→Int) (Dg:Bool),FZ=0∧vF=xZ∧vF=xZ∧Bu=T5∧(∀j,j<(ag Bu)→Km j=ID j)∧lZ ⟨[],[vF],[FZ,Bu],[Km],[Dg],[],[]⟩)∧
 ∀(vF:V1) (FZ Bu:Int) (Km:Nat→Int) (Dg:Bool),lZ ⟨[],[vF],[FZ,Bu],[Km],[Dg],[],[]⟩→
 br (FZ<i_) (
 ax (0≤FZ) (
 ∀_:Nat,ax (0≤Bu) (
 kE (Bu+16) (
 ∀zg:V1,iQ (FZ+1) ((
 ∃(Cr:V1) (V8 Se:Int) (V9:Nat→Int) (Kv:Bool),V8=(FZ+1)∧Cr=zg∧Cr=zg∧Se=(Bu+16)∧(∀j,j<(ag Se)→V9 j=(bQ Km (ag Bu) 16 (bS gG (ag (FZ*16)))) j)∧lZ ⟨[],[Cr],[V8,Se],[V9],[Kv],[],[]⟩∧py ⟨[],[Cr],[V8,Se],[V9],[Kv],[],[]⟩<py ⟨[],[vF],[FZ,Bu],[Km],[Dg],[],[]⟩)))))) (
 ∀_:Nat,Cl 21 [pp b0,.int .u64 (ae .u64 x7),.int .i64 1] [cV b0 vF,bp vF Bu Km] fun x hs _=> ∃(zg:V1) (R3 IC:Int) (R4:Nat→Int) (_:Bool),x= .int .u64 R3∧hs=[cV b0 zg,bp zg IC R4]∧
 ax (0≤IC) (
 kE (IC+16) (
 ∀(wV:V1) (Sf:Nat),Cl 58 [pp b0,.slice (some ⟨Sf,0,none⟩) 1 1] [cV b0 wV,bp wV (IC+16) (bQ R4 (ag IC) 16 A5),Qr b1 A1 lz (ae .u8 wS) (ae .u8 rP) A2 A3 v1 Aq v2 (ae .u8 FY) (ae .u8 R2) A4 v3 (ae .u8 R3) A5 (!(x8==0)) x9 bE bM A6 A7 A8 v4 bP v5 bI dW bV dI cj dM v6 v7,GK Sf b1] fun x hs _=> ∃(uV:V1) (Qu:Int) (T6:Nat→Int) (_:Bool),x= .tuple #[]∧hs=[cV b0 uV,bp uV Qu T6,Qr b1 A1 lz (ae .u8 wS) (ae .u8 rP) A2 A3 v1 Aq v2 (ae .u8 FY) (ae .u8 R2) A4 v3 (ae .u8 R3) A5 (!(x8==0)) x9 bE bM A6 A7 A8 v4 bP v5 bI dW bV dI cj dM v6 v7,GK Sf b1]∧
 ∀_:Nat,Cl 21 [pp b0,.int .u64 (ae .u64 x9),.int .i64 1] [cV b0 uV,bp uV Qu T6] fun x hs _=> ∃(vH:V1) (Qw R7:Int) (Qv:Nat→Int) (_:Bool),x= .int .u64 Qw∧hs=[cV b0 vH,bp vH R7 Qv]∧
 ∀_ _:Nat,Cl 21 [pp b0,.int .u64 (ae .u64 bE),.int .i64 1] [cV b0 vH,bp vH R7 Qv] fun x hs _=> ∃(xG:V1) (Yb VR:Int) (T7:Nat→Int) (_:Bool),x= .int .u64 Yb∧hs=[cV b0 xG,bp xG VR T7]∧
 Cl 21 [pp b0,.int .u64 (ae .u64 bM),.int .i64 1] [cV b0 xG,bp xG VR T7] fun x hs _=> ∃(As:V1) (VS F0:Int) (R5:Nat→Int) (_:Bool),x= .int .u64 VS∧hs=[cV b0 As,bp As F0 R5]∧
 ∀_:Nat,ax (0≤F0) (
 kE (F0+32) (
 ∀_:V1,ax (0≤(F0+32)) (
 kE ((F0+32)+32) (
 ∀_:V1,ax (0≤((F0+32)+32)) (
 ax ((((F0+32)+32)+32)≤140737488355328) (
 ∀Uc:V1,ax (0≤fU) (
 Cl 21 [pp b0,.int .u64 (ae .u64 fU),.int .i64 4] [cV b0 Uc,bp Uc (((F0+32)+32)+32) (bQ (bQ (bQ R5 (ag F0) 32 A6) (ag (F0+32)) 32 A7) (ag ((F0+32)+32)) 32 A8)] fun x hs _=> ∃(Sg:V1) (T_ Qx:Int) (T8:Nat→Int) (_:Bool),x= .int .u64 T_∧hs=[cV b0 Sg,bp Sg Qx T8]∧
 ax (0≤Qx) (
 kE (Qx+fU) (
 ∀QB:V1,iQ (bP+1) ((
 Cl 21 [pp b0,.int .u64 (ae .u64 (bP+1)),.int .i64 1] [cV b0 QB,bp QB (Qx+fU) (bQ T8 (ag Qx) (ag fU) gP)] fun x hs _=> ∃(Si:V1) (Ua VT:Int) (T9:Nat→Int) (_:Bool),x= .int .u64 Ua∧hs=[cV b0 Si,bp Si VT T9]∧
 iQ Ua ((
 iQ (Ua - 1) ((
 ax (0≤gC) (
 Cl 21 [pp b0,.int .u64 (ae .u64 gC),.int .i64 4] [cV b0 Si,bp Si VT T9] fun x hs _=> ∃(QC:V1) (NS Kp:Int) (R6:Nat→Int) (_:Bool),x= .int .u64 NS∧hs=[cV b0 QC,bp QC Kp R6]∧
 ∃(qI:Ext→Prop) (wW:Ext→Nat),(∃(GM:V1) (vG F1:Int) (Kn:Nat→Int) (N0:Bool),vG=0∧GM=QC∧GM=QC∧F1=Kp∧(∀j,j<(ag F1)→Kn j=R6 j)∧qI ⟨[],[GM],[vG,F1],[Kn],[N0],[],[]⟩)∧
 ∀(GM:V1) (vG F1:Int) (Kn:Nat→Int) (N0:Bool),qI ⟨[],[GM],[vG,F1],[Kn],[N0],[],[]⟩→
 br (vG<gC) (
 ax (0≤vG) (
 ∀_ _ _:Nat,Cl 21 [pp b0,.int .u64 (ae .u64 (f_ (ag vG))),.int .i64 1] [cV b0 GM,bp GM F1 Kn] fun x hs _=> ∃(F4:V1) (NU Kq:Int) (NP:Nat→Int) (_:Bool),x= .int .u64 NU∧hs=[cV b0 F4,bp F4 Kq NP]∧
 Cl 21 [pp b0,.int .u64 (ae .u64 (fl (ag vG))),.int .i64 1] [cV b0 F4,bp F4 Kq NP] fun x hs _=> ∃(Er:V1) (NV Qy:Int) (NQ:Nat→Int) (_:Bool),x= .int .u64 NV∧hs=[cV b0 Er,bp Er Qy NQ]∧
 iQ (vG+1) ((
 ∃(Sj:V1) (Ct Sk:Int) (V_:Nat→Int) (aal:Bool),Ct=(vG+1)∧Sj=Er∧Sj=Er∧Sk=Qy∧(∀j,j<(ag Sk)→V_ j=NQ j)∧qI ⟨[],[Sj],[Ct,Sk],[V_],[aal],[],[]⟩∧wW ⟨[],[Sj],[Ct,Sk],[V_],[aal],[],[]⟩<wW ⟨[],[GM],[vG,F1],[Kn],[N0],[],[]⟩)))) (
 ∀_:Nat,Cl 21 [pp b0,.int .u64 bI,.int .i64 8] [cV b0 GM,bp GM F1 Kn] fun x hs _=> ∃(F4:V1) (NU Kq:Int) (NP:Nat→Int) (_:Bool),x= .int .u64 NU∧hs=[cV b0 F4,bp F4 Kq NP]∧
 Cl 21 [pp b0,.int .u64 dW,.int .i64 8] [cV b0 F4,bp F4 Kq NP] fun x hs _=> ∃(Er:V1) (NV Qy:Int) (NQ:Nat→Int) (_:Bool),x= .int .u64 NV∧hs=[cV b0 Er,bp Er Qy NQ]∧
 Cl 21 [pp b0,.int .u64 bV,.int .i64 8] [cV b0 Er,bp Er Qy NQ] fun x hs _=> ∃(QD:V1) (Yc VU:Int) (Ko:Nat→Int) (_:Bool),x= .int .u64 Yc∧hs=[cV b0 QD,bp QD VU Ko]∧
 Cl 21 [pp b0,.int .u64 dI,.int .i64 8] [cV b0 QD,bp QD VU Ko] fun x hs _=> ∃(Kw:V1) (Yd VV:Int) (Kr:Nat→Int) (_:Bool),x= .int .u64 Yd∧hs=[cV b0 Kw,bp Kw VV Kr]∧
 Cl 21 [pp b0,.int .u64 cj,.int .i64 8] [cV b0 Kw,bp Kw VV Kr] fun x hs _=> ∃(N1:V1) (Ye VW:Int) (LM:Nat→Int) (_:Bool),x= .int .u64 Ye∧hs=[cV b0 N1,bp N1 VW LM]∧
 ∀_:Nat,Cl 21 [pp b0,.int .u64 (ae .u64 dM),.int .i64 4] [cV b0 N1,bp N1 VW LM] fun x hs _=> ∃(QE:V1) (Yf Ub:Int) (Qz:Nat→Int) (_:Bool),x= .int .u64 Yf∧hs=[cV b0 QE,bp QE Ub Qz]∧
 ax (0≤fV) (
 Cl 21 [pp b0,.int .u64 (ae .u64 fV),.int .i64 4] [cV b0 QE,bp QE Ub Qz] fun x hs _=> ∃(Ud:V1) (Yg NW:Int) (QA:Nat→Int) (_:Bool),x= .int .u64 Yg∧hs=[cV b0 Ud,bp Ud NW QA]∧
 ax (0≤NW) (
 kE (NW+fV) (
 ∀Wb:V1,ax (0≤jb) (
 Cl 21 [pp b0,.int .u64 (ae .u64 jb),.int .i64 4] [cV b0 Wb,bp Wb (NW+fV) (bQ QA (ag NW) (ag fV) fe)] fun x hs _=> ∃(v46:V1) (V2 V3:Int) (VX:Nat→Int) (_:Bool),x= .int .u64 V2∧hs=[cV b0 v46,bp v46 V3 VX]∧
 ∃(zi:Ext→Prop) (Es:Ext→Nat),(∃(AK:V1) (zh F2:Int) (LN:Nat→Int) (Ue:Bool),zh=0∧AK=v46∧AK=v46∧F2=V3∧(∀j,j<(ag F2)→LN j=VX j)∧zi ⟨[],[AK],[zh,F2],[LN],[Ue],[],[]⟩)∧
 ∀(AK:V1) (zh F2:Int) (LN:Nat→Int) (Ue:Bool),zi ⟨[],[AK],[zh,F2],[LN],[Ue],[],[]⟩→
 br (zh<jb) (
 ax (0≤zh) (
 ∀LO:Nat,ax (0≤F2) (
 kE (F2+16) (
 ∀(LP:V1) (_:Nat),Cl 21 [pp b0,.int .u64 (ae .u64 (fo (ag zh))),.int .i64 1] [cV b0 LP,bp LP (F2+16) (bQ LN (ag F2) 16 (bS fh (ag (zh*16))))] fun x hs _=> ∃(GN:V1) (Ks Kt:Int) (VY:Nat→Int) (_:Bool),x= .int .u64 Ks∧hs=[cV b0 GN,bp GN Kt VY]∧
 ∀Yj:Nat,Cl 58 [pp b0,.slice (some ⟨Yj,0,none⟩) 1 1] [cV b0 GN,bp GN Kt VY,Ei LO (bS fh (ag (zh*16))) (ae .u8 Ks) (!((gl (ag zh))==0)) (kq (ag zh)),ak Yj true ([.pointer (some ⟨LO,17,none⟩)])] fun x hs _=> ∃(GO:V1) (Au:Int) (VZ:Nat→Int) (_:Bool),x= .tuple #[]∧hs=[cV b0 GO,bp GO Au VZ,Ei LO (bS fh (ag (zh*16))) (ae .u8 Ks) (!((gl (ag zh))==0)) (kq (ag zh)),ak Yj true ([.pointer (some ⟨LO,17,none⟩)])]∧
 ∀_:Nat,Cl 21 [pp b0,.int .u64 (kq (ag zh)),.int .i64 8] [cV b0 GO,bp GO Au VZ] fun x hs _=> ∃(GQ:V1) (Yh V4:Int) (V0:Nat→Int) (_:Bool),x= .int .u64 Yh∧hs=[cV b0 GQ,bp GQ V4 V0]∧
 iQ (zh+1) ((
 ∃(Cu:V1) (Wc Sl:Int) (Wd:Nat→Int) (aan:Bool),Wc=(zh+1)∧Cu=GQ∧Cu=GQ∧Sl=V4∧(∀j,j<(ag Sl)→Wd j=V0 j)∧zi ⟨[],[Cu],[Wc,Sl],[Wd],[aan],[],[]⟩∧Es ⟨[],[Cu],[Wc,Sl],[Wd],[aan],[],[]⟩<Es ⟨[],[AK],[zh,F2],[LN],[Ue],[],[]⟩)))))) (
 al (.tuple #[]) [cV b0 AK,bp AK F2 LN]))))))))))))))))))))))))))))))))))))))))
theorem We(al:PT)(x0 x1 x2 x3 x4 x5 x6 x7 x8 x9 bE bM bP bI dW bV dI cj dM cU dz i_ fU gC fV jb:Int)(A0 A1 A2 A3 A4 A5 A6 A7 A8 A9 eg dN dq gk gG gP f_ fl fe fh fo gl kq:Nat→Int)(v0 v1 v2 v3 v4 v5 v6 v7:V1)(b0 b1:Nat)(p0:HP)(h:NZ al x0 x1 x2 x3 x4 x5 x6 x7 x8 x9 bE bM bP bI dW bV dI cj dM cU dz i_ fU gC fV jb A0 A1 A2 A3 A4 A5 A6 A7 A8 A9 eg dN dq gk gG gP f_ fl fe fh fo gl kq v0 v1 v2 v3 v4 v5 v6 v7 b0 b1 p0):aq aqQ 32 [pp b0,pp b1] [cV b0 v0,bp v0 x0 A0,Qr b1 A1 x1 x2 x3 A2 A3 v1 x4 v2 x5 x6 A4 v3 x7 A5 (!(x8==0)) x9 bE bM A6 A7 A8 v4 bP v5 bI dW bV dI cj dM v6 v7,rO v1 cU A9 eg,xF v2 dz dN dq gk,sY v3 i_ gG,bf v4 fU gP,sX v5 gC f_ fl,bf v6 fV fe,ze v7 jb fh fo gl kq,p0] al:=
 sW (C:=aef) Vd.stA Vd.hpO Vd.U_ ⟨[x0,x1,x2,x3,x4,x5,x6,x7,x8,x9,bE,bM,bP,bI,dW,bV,dI,cj,dM,cU,dz,i_,fU,gC,fV,jb],[A0,A1,A2,A3,A4,A5,A6,A7,A8,A9,eg,dN,dq,gk,gG,gP,f_,fl,fe,fh,fo,gl,kq],[],[b0,b1],[v0,v1,v2,v3,v4,v5,v6,v7],[],[p0],[]⟩ 2 Tryz.func32 (by kernel_rfl) h
open Go.RX Go.Proofs
set_option maxRecDepth 100000
def N3(al:PT)(x0 x1 x2 x3:Int)(A0 A1 A2 A3 A4 A5 A6 A7 A8 A9 eg dN dq gk gG gP f_ fl fe fh fo:Nat→Int)(v0 v1:V1)(b0 b1 b2:Nat)(p0:HP):Prop:=
 ∀_ _:Nat,Cl 21 [pp b0,.int .u64 (ae .u64 x1),.int .i64 1] [cV b0 v0,bp v0 x0 A0] fun x hs _=> ∃(v2:V1) (x4 x5:Int) (gl:Nat→Int) (_:Bool),x= .int .u64 x4∧hs=[cV b0 v2,bp v2 x5 gl]∧
 Cl 21 [pp b0,.int .u64 (ae .u64 x2),.int .i64 1] [cV b0 v2,bp v2 x5 gl] fun x hs _=> ∃(v3:V1) (x6 x7:Int) (kq:Nat→Int) (_:Bool),x= .int .u64 x6∧hs=[cV b0 v3,bp v3 x7 kq]∧
 ax (0≤x3) (
 Cl 21 [pp b0,.int .u64 (ae .u64 x3),.int .i64 4] [cV b0 v3,bp v3 x7 kq] fun x hs _=> ∃(v4:V1) (x8 x9:Int) (lY:Nat→Int) (_:Bool),x= .int .u64 x8∧hs=[cV b0 v4,bp v4 x9 lY]∧
 ∃(cE:Ext→Prop) (db:Ext→Nat),(∃(v5:V1) (bE bM:Int) (lJ:Nat→Int) (q3:Bool),bE=0∧v5=v4∧v5=v4∧bM=x9∧(∀j,j<(ag bM)→lJ j=lY j)∧cE ⟨[],[v5],[bE,bM],[lJ],[q3],[],[]⟩)∧
 ∀(v5:V1) (bE bM:Int) (lJ:Nat→Int) (q3:Bool),cE ⟨[],[v5],[bE,bM],[lJ],[q3],[],[]⟩→
 br (bE<x3) (
 ax (0≤bE) (
 ∀b5:Nat,Cl 105 [pp b0,pp b5] [cV b0 v5,bp v5 bM lJ,Va b5 (bS A1 (ag (bE*32))) (bS A2 (ag (bE*32))) (bS A3 (ag (bE*32))) (bS A4 (ag (bE*32))) (!((A5 (ag bE))==0)) (!((A6 (ag bE))==0)) (!((A7 (ag bE))==0)) (!((A8 (ag bE))==0)) (bS A9 (ag (bE*32))) (eg (ag bE)) (bS dN (ag (bE*32))) (dq (ag bE)) (gk (ag bE)) gG bE (bS gP (ag (bE*32))) (bS f_ (ag (bE*32))) (!((fl (ag bE))==0)) (fe (ag bE)) (!((fh (ag bE))==0)) (!((fo (ag bE))==0)),p0] fun x hs _=> ∃(v6:V1) (bP:Int) (nF:Nat→Int) (_:Bool),x= .tuple #[]∧hs=[cV b0 v6,bp v6 bP nF,Va b5 (bS A1 (ag (bE*32))) (bS A2 (ag (bE*32))) (bS A3 (ag (bE*32))) (bS A4 (ag (bE*32))) (!((A5 (ag bE))==0)) (!((A6 (ag bE))==0)) (!((A7 (ag bE))==0)) (!((A8 (ag bE))==0)) (bS A9 (ag (bE*32))) (eg (ag bE)) (bS dN (ag (bE*32))) (dq (ag bE)) (gk (ag bE)) gG bE (bS gP (ag (bE*32))) (bS f_ (ag (bE*32))) (!((fl (ag bE))==0)) (fe (ag bE)) (!((fh (ag bE))==0)) (!((fo (ag bE))==0)),p0]∧
 iQ (bE+1) ((
 ∃(H8:V1) (yp pU:Int) (zj:Nat→Int) (q3':Bool),yp=(bE+1)∧H8=v6∧H8=v6∧pU=bP∧(∀j,j<(ag pU)→zj j=nF j)∧cE ⟨[],[H8],[yp,pU],[zj],[q3'],[],[]⟩∧db ⟨[],[H8],[yp,pU],[zj],[q3'],[],[]⟩<db ⟨[],[v5],[bE,bM],[lJ],[q3],[],[]⟩)))) (
 al (.tuple #[]) [cV b0 v5,bp v5 bM lJ,ak b1 true ([.int .u8 (ae .u8 x4),.int .u8 (ae .u8 x6),v1.v]),n_ b2 b0,RC v1 x3 A1 A2 A3 A4 A5 A6 A7 A8 A9 eg dN dq gk gG gP f_ fl fe fh fo,p0]))
theorem Wf(al:PT)(x0 x1 x2 x3:Int)(A0 A1 A2 A3 A4 A5 A6 A7 A8 A9 eg dN dq gk gG gP f_ fl fe fh fo:Nat→Int)(v0 v1:V1)(b0 b1 b2:Nat)(p0:HP)(h:N3 al x0 x1 x2 x3 A0 A1 A2 A3 A4 A5 A6 A7 A8 A9 eg dN dq gk gG gP f_ fl fe fh fo v0 v1 b0 b1 b2 p0):aq aqQ 102 [pp b1,pp b2] [cV b0 v0,bp v0 x0 A0,ak b1 true ([.int .u8 x1,.int .u8 x2,v1.v]),n_ b2 b0,RC v1 x3 A1 A2 A3 A4 A5 A6 A7 A8 A9 eg dN dq gk gG gP f_ fl fe fh fo,p0] al:=
 sW (C:=aed) Ve.Ng Ve.hpO Ve.U_ ⟨[x0,x1,x2,x3],[A0,A1,A2,A3,A4,A5,A6,A7,A8,A9,eg,dN,dq,gk,gG,gP,f_,fl,fe,fh,fo],[],[b0,b1,b2],[v0,v1],[],[p0],[]⟩ 6 Tryz.func102 (by kernel_rfl) h
open Go.RX Go.Proofs
set_option maxRecDepth 100000
def IE(al:PT)(x0 x1 x2 x3 x4 x5 x6 x7 x8 x9 bE bM bP:Int)(A0 A1 A2 A3 A4 A5 A6 A7 A8 A9 eg dN:Nat→Int)(_ v1:V1)(b0 b1:Nat):Prop:=
 ∀_ _:Nat,ax (0≤x0) (
 kE (x0+32) (
 ∀_:V1,ax (0≤(x0+32)) (
 kE ((x0+32)+32) (
 ∀_:V1,ax (0≤((x0+32)+32)) (
 ax ((((x0+32)+32)+32)≤140737488355328) (
 ∀_:V1,ax (0≤(((x0+32)+32)+32)) (
 ax (((((x0+32)+32)+32)+32)≤140737488355328) (
 ∀(v5:V1) (b4:Nat),Cl 58 [pp b0,.slice (some ⟨b4,0,none⟩) 4 4] [cV b0 v5,bp v5 ((((x0+32)+32)+32)+32) (bQ (bQ (bQ (bQ A0 (ag x0) 32 A1) (ag (x0+32)) 32 A2) (ag ((x0+32)+32)) 32 A3) (ag (((x0+32)+32)+32)) 32 A4),rN b1 A1 A2 A3 A4 (!(x2==0)) (!(x3==0)) (!(x4==0)) (!(x5==0)) A5 x6 A6 x7 x8 v1 A7 A8 (!(x9==0)) bE (!(bM==0)) (!(bP==0)),Bs b4 b1] fun x hs _=> ∃(v6:V1) (bI:Int) (dq:Nat→Int) (_:Bool),x= .tuple #[]∧hs=[cV b0 v6,bp v6 bI dq,rN b1 A1 A2 A3 A4 (!(x2==0)) (!(x3==0)) (!(x4==0)) (!(x5==0)) A5 x6 A6 x7 x8 v1 A7 A8 (!(x9==0)) bE (!(bM==0)) (!(bP==0)),Bs b4 b1]∧
 ∀_:Nat,ax (0≤bI) (
 kE (bI+32) (
 ∀(v7:V1) (_:Nat),Cl 21 [pp b0,.int .u64 (ae .u64 x6),.int .i64 4] [cV b0 v7,bp v7 (bI+32) (bQ dq (ag bI) 32 A5)] fun x hs _=> ∃(v8:V1) (dW bV:Int) (gk:Nat→Int) (_:Bool),x= .int .u64 dW∧hs=[cV b0 v8,bp v8 bV gk]∧
 ∀_:Nat,ax (0≤bV) (
 kE (bV+32) (
 ∀(v9:V1) (_:Nat),Cl 21 [pp b0,.int .u64 (ae .u64 x7),.int .i64 4] [cV b0 v9,bp v9 (bV+32) (bQ gk (ag bV) 32 A6)] fun x hs _=> ∃(v10:V1) (dI cj:Int) (gG:Nat→Int) (_:Bool),x= .int .u64 dI∧hs=[cV b0 v10,bp v10 cj gG]∧
 ∀_:Nat,Cl 21 [pp b0,.int .u64 (ae .u64 x8),.int .i64 4] [cV b0 v10,bp v10 cj gG] fun x hs _=> ∃(v11:V1) (dM cU:Int) (gP:Nat→Int) (_:Bool),x= .int .u64 dM∧hs=[cV b0 v11,bp v11 cU gP]∧
 ax (0≤x1) (
 Cl 21 [pp b0,.int .u64 (ae .u64 x1),.int .i64 4] [cV b0 v11,bp v11 cU gP] fun x hs _=> ∃(qG:V1) (dz i_:Int) (f_:Nat→Int) (_:Bool),x= .int .u64 dz∧hs=[cV b0 qG,bp qG i_ f_]∧
 ∃(cE:Ext→Prop) (db:Ext→Nat),(∃(qH:V1) (fU gC:Int) (fl:Nat→Int) (q5:Bool),fU=0∧qH=qG∧qH=qG∧gC=i_∧(∀j,j<(ag gC)→fl j=f_ j)∧cE ⟨[],[qH],[fU,gC],[fl],[q5],[],[]⟩)∧
 ∀(qH:V1) (fU gC:Int) (fl:Nat→Int) (q5:Bool),cE ⟨[],[qH],[fU,gC],[fl],[q5],[],[]⟩→
 br (fU<x1) (
 ax (0≤fU) (
 ∀_ _:Nat,ax (0≤gC) (
 kE (gC+32) (
 ∀(tw:V1) (_:Nat),Cl 21 [pp b0,.int .u64 (ae .u64 (eg (ag fU))),.int .i64 4] [cV b0 tw,bp tw (gC+32) (bQ fl (ag gC) 32 (bS A9 (ag (fU*32))))] fun x hs _=> ∃(pP:V1) (fV jb:Int) (fe:Nat→Int) (_:Bool),x= .int .u64 fV∧hs=[cV b0 pP,bp pP jb fe]∧
 ∀_:Nat,ax (0≤jb) (
 kE (jb+32) (
 ∀rS:V1,iQ (fU+1) ((
 ∃(Cv:V1) (GR Cw:Int) (zk:Nat→Int) (q5':Bool),GR=(fU+1)∧Cv=rS∧Cv=rS∧Cw=(jb+32)∧(∀j,j<(ag Cw)→zk j=(bQ fe (ag jb) 32 (bS dN (ag (fU*32)))) j)∧cE ⟨[],[Cv],[GR,Cw],[zk],[q5'],[],[]⟩∧db ⟨[],[Cv],[GR,Cw],[zk],[q5'],[],[]⟩<db ⟨[],[qH],[fU,gC],[fl],[q5],[],[]⟩)))))))) (
 ∀_:Nat,ax (0≤gC) (
 kE (gC+32) (
 ∀_:V1,ax (0≤(gC+32)) (
 kE ((gC+32)+32) (
 ∀(pP:V1) (IF:Nat),Cl 58 [pp b0,.slice (some ⟨IF,0,none⟩) 1 1] [cV b0 pP,bp pP ((gC+32)+32) (bQ (bQ fl (ag gC) 32 A7) (ag (gC+32)) 32 A8),rN b1 A1 A2 A3 A4 (!(x2==0)) (!(x3==0)) (!(x4==0)) (!(x5==0)) A5 (ae .u32 dW) A6 (ae .u32 dI) (ae .u32 dM) v1 A7 A8 (!(x9==0)) bE (!(bM==0)) (!(bP==0)),ak IF true ([.pointer (some ⟨b1,264,none⟩)])] fun x hs _=> ∃(rS:V1) (fV:Int) (fe:Nat→Int) (_:Bool),x= .tuple #[]∧hs=[cV b0 rS,bp rS fV fe,rN b1 A1 A2 A3 A4 (!(x2==0)) (!(x3==0)) (!(x4==0)) (!(x5==0)) A5 (ae .u32 dW) A6 (ae .u32 dI) (ae .u32 dM) v1 A7 A8 (!(x9==0)) bE (!(bM==0)) (!(bP==0)),ak IF true ([.pointer (some ⟨b1,264,none⟩)])]∧
 ∀_:Nat,Cl 21 [pp b0,.int .u64 (ae .u64 bE),.int .i64 4] [cV b0 rS,bp rS fV fe] fun x hs _=> ∃(px:V1) (jb lz:Int) (fh:Nat→Int) (_:Bool),x= .int .u64 jb∧hs=[cV b0 px,bp px lz fh]∧
 ∀LQ:Nat,Cl 58 [pp b0,.slice (some ⟨LQ,0,none⟩) 2 2] [cV b0 px,bp px lz fh,rN b1 A1 A2 A3 A4 (!(x2==0)) (!(x3==0)) (!(x4==0)) (!(x5==0)) A5 (ae .u32 dW) A6 (ae .u32 dI) (ae .u32 dM) v1 A7 A8 (!(x9==0)) (ae .u32 jb) (!(bM==0)) (!(bP==0)),GJ LQ b1] fun x hs _=> ∃(p8:V1) (oM:Int) (fo:Nat→Int) (_:Bool),x= .tuple #[]∧hs=[cV b0 p8,bp p8 oM fo,rN b1 A1 A2 A3 A4 (!(x2==0)) (!(x3==0)) (!(x4==0)) (!(x5==0)) A5 (ae .u32 dW) A6 (ae .u32 dI) (ae .u32 dM) v1 A7 A8 (!(x9==0)) (ae .u32 jb) (!(bM==0)) (!(bP==0)),GJ LQ b1]∧
 al (.tuple #[]) [cV b0 p8,bp p8 oM fo,rN b1 A1 A2 A3 A4 (!(x2==0)) (!(x3==0)) (!(x4==0)) (!(x5==0)) A5 (ae .u32 dW) A6 (ae .u32 dI) (ae .u32 dM) v1 A7 A8 (!(x9==0)) (ae .u32 jb) (!(bM==0)) (!(bP==0)),aB false 245 65 v1.v (ag x1) (aK (ag x1) [aC .u8 32 A9,aC .u32 1 eg,aC .u8 32 dN])]))))))))))))))))))
theorem Sm(al:PT)(x0 x1 x2 x3 x4 x5 x6 x7 x8 x9 bE bM bP:Int)(A0 A1 A2 A3 A4 A5 A6 A7 A8 A9 eg dN:Nat→Int)(v0 v1:V1)(b0 b1:Nat)(h:IE al x0 x1 x2 x3 x4 x5 x6 x7 x8 x9 bE bM bP A0 A1 A2 A3 A4 A5 A6 A7 A8 A9 eg dN v0 v1 b0 b1):aq aqQ 105 [pp b0,pp b1] [cV b0 v0,bp v0 x0 A0,rN b1 A1 A2 A3 A4 (!(x2==0)) (!(x3==0)) (!(x4==0)) (!(x5==0)) A5 x6 A6 x7 x8 v1 A7 A8 (!(x9==0)) bE (!(bM==0)) (!(bP==0)),aB false 245 65 v1.v (ag x1) (aK (ag x1) [aC .u8 32 A9,aC .u32 1 eg,aC .u8 32 dN])] al:=
 sW (C:=aec) Vc.ZE Vc.ad6 Vc.ZG ⟨[x0,x1,x2,x3,x4,x5,x6,x7,x8,x9,bE,bM,bP],[A0,A1,A2,A3,A4,A5,A6,A7,A8,A9,eg,dN],[],[b0,b1],[v0,v1],[],[],[]⟩ 4 Tryz.func105 (by kernel_rfl) h
end Go.RX.Vb
