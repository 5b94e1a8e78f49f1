/- The store's walker. -/
import Derived.Test.YtllcdnkfbeokhaaGreatM26
open Go.IntKind renaming wrap → ae
open Go.Proofs.Tryz renaming prog → aqQ
open Int renaming toNat → ag
open List renaming append → aqk
namespace Go.RX.Vb
open Go.RX Go.Proofs
set_option maxRecDepth 100000
set_option maxHeartbeats 4000000
def Pp(al:PT)(x0:Int)(A0:Nat→Int)(q0:Bool)(v0:V1)(b0 b1:Nat)(p0:HP):Prop:=
 ∀b2 b3:Nat,Cl 45 [pp b0,.int .i64 32] [cC b0 v0 q0,bf v0 x0 A0] fun x hs _=> ∃(v1 v2:V1) (x1 x2:Int) (A1 A2:Nat→Int) (q1:Bool),x=v2.v∧hs=[cC b0 v1 q1,bf v1 x1 A1,bf v2 x2 A2]∧
 ax (0≤x2) (
 ax (0≤x2) (
 ∀b4:Nat,Cl 21 [pp b0,.int .u64 0,.int .i64 8] [cC b0 v1 q1,bf v1 x1 A1] fun x hs _=> ∃(v3:V1) (x3 x4:Int) (A3:Nat→Int) (q2:Bool),x= .int .u64 x3∧hs=[cC b0 v3 q2,bf v3 x4 A3]∧
 ∀b5 b6 b7 b8:Nat,Cl 21 [pp b0,.int .u64 0,.int .i64 1] [cC b0 v3 q2,bf v3 x4 A3] fun x hs _=> ∃(v4:V1) (x5 x6:Int) (A4:Nat→Int) (q3:Bool),x= .int .u64 x5∧hs=[cC b0 v4 q3,bf v4 x6 A4]∧
 Cl 21 [pp b0,.int .u64 0,.int .i64 1] [cC b0 v4 q3,bf v4 x6 A4] fun x hs _=> ∃(v5:V1) (x7 x8:Int) (A5:Nat→Int) (q4:Bool),x= .int .u64 x7∧hs=[cC b0 v5 q4,bf v5 x8 A5]∧
 ∀b9:Nat,Cl 45 [pp b0,.int .i64 32] [cC b0 v5 q4,bf v5 x8 A5] fun x hs _=> ∃(v6 v7:V1) (x9 bE:Int) (A6 A7:Nat→Int) (q5:Bool),x=v7.v∧hs=[cC b0 v6 q5,bf v6 x9 A6,bf v7 bE A7]∧
 ax (0≤bE) (
 ax (0≤bE) (
 Cl 45 [pp b0,.int .i64 32] [cC b0 v6 q5,bf v6 x9 A6] fun x hs _=> ∃(v8 v9:V1) (bM bP:Int) (A8 A9:Nat→Int) (q6:Bool),x=v9.v∧hs=[cC b0 v8 q6,bf v8 bM A8,bf v9 bP A9]∧
 ax (0≤bP) (
 ax (0≤bP) (
 Cl 21 [pp b0,.int .u64 0,.int .i64 4] [cC b0 v8 q6,bf v8 bM A8] fun x hs _=> ∃(v10:V1) (bI dW:Int) (eg:Nat→Int) (q7:Bool),x= .int .u64 bI∧hs=[cC b0 v10 q7,bf v10 dW eg]∧
 ∃(cE:Ext→Prop) (db:Ext→Nat),(∃(qG qH:V1) (bV dI cj:Int) (dN dq gk:Nat→Int) (q8:Bool),bV=bI∧qG=v10∧q8=q7∧qG=v10∧dI=dW∧(∀j,j<(ag dI)→dN j=eg j)∧qH=(⟨.slice none 0 0,rfl⟩:V1)∧qH=(⟨.slice none 0 0,rfl⟩:V1)∧cj=0∧(∀j,j<(ag cj)→dq j=(fun _=>0) j)∧(∀j,j<(ag (cj*32))→gk j=(fun _=>0) j)∧cE ⟨[],[qG,qH],[bV,dI,cj],[dN,dq,gk],[q8],[],[]⟩)∧
 ∀(qG qH:V1) (bV dI cj:Int) (dN dq gk:Nat→Int) (q8:Bool),cE ⟨[],[qG,qH],[bV,dI,cj],[dN,dq,gk],[q8],[],[]⟩→
 br ((0<bV)∧(¬(q8=true))) (
 ∀_ _:Nat,Cl 21 [pp b0,.int .u64 0,.int .i64 4] [cC b0 qG q8,bf qG dI dN] fun x hs _=> ∃(tw:V1) (dM cU:Int) (gG:Nat→Int) (q9:Bool),x= .int .u64 dM∧hs=[cC b0 tw q9,bf tw cU gG]∧
 ∀_:Nat,Cl 45 [pp b0,.int .i64 32] [cC b0 tw q9,bf tw cU gG] fun x hs _=> ∃(pP rS:V1) (dz i_:Int) (gP f_:Nat→Int) (QI:Bool),x=rS.v∧hs=[cC b0 pP QI,bf pP dz gP,bf rS i_ f_]∧
 ax (0≤i_) (
 ax (0≤i_) (
 ∀_:Nat,ax (0≤cj) (
 kE ((cj+1)*36) (
 ∀px:V1,∃(Tp Cv:V1) (XM Tq Qj:Int) (Hg Hh Hi:Nat→Int) (q8':Bool),XM=(ae .u64 (bV - 1))∧Tp=pP∧q8'=QI∧Tp=pP∧Tq=dz∧(∀j,j<(ag Tq)→Hg j=gP j)∧Cv=px∧Cv=px∧Qj=(cj+1)∧(∀j,j<(ag Qj)→Hh j=(aw dq (ag cj) (ae .u32 dM)) j)∧(∀j,j<(ag (Qj*32))→Hi j=(bQ gk (ag (cj*32)) 32 (bQ (fun _=>0) 0 (ag (ar .ib .i64 i_ 32)) f_)) j)∧cE ⟨[],[Tp,Cv],[XM,Tq,Qj],[Hg,Hh,Hi],[q8'],[],[]⟩∧db ⟨[],[Tp,Cv],[XM,Tq,Qj],[Hg,Hh,Hi],[q8'],[],[]⟩<db ⟨[],[qG,qH],[bV,dI,cj],[dN,dq,gk],[q8],[],[]⟩))))) (
 Cl 21 [pp b0,.int .u64 0,.int .i64 4] [cC b0 qG q8,bf qG dI dN] fun x hs _=> ∃(tw:V1) (dM cU:Int) (gG:Nat→Int) (q9:Bool),x= .int .u64 dM∧hs=[cC b0 tw q9,bf tw cU gG]∧
 iQ dM ((
 Cl 21 [pp b0,.int .u64 0,.int .i64 4] [cC b0 tw q9,bf tw cU gG] fun x hs _=> ∃(pP:V1) (dz i_:Int) (gP:Nat→Int) (QI:Bool),x= .int .u64 dz∧hs=[cC b0 pP QI,bf pP i_ gP]∧
 ∃(oW:Ext→Prop) (tz:Ext→Nat),(∃(px p8:V1) (fU gC fV:Int) (f_ fl fe fh:Nat→Int) (Dg:Bool),∃p1:HP,fU=dz∧px=pP∧Dg=QI∧px=pP∧gC=i_∧(∀j,j<(ag gC)→f_ j=gP j)∧p8=(⟨.slice none 0 0,rfl⟩:V1)∧p1=p0∧p8=(⟨.slice none 0 0,rfl⟩:V1)∧fV=0∧(∀j,j<(ag fV)→fl j=(fun _=>0) j)∧(∀j,j<(ag fV)→fe j=(fun _=>0) j)∧(∀j,j<(ag fV)→fh j=(fun _=>0) j)∧oW ⟨[],[px,p8],[fU,gC,fV],[f_,fl,fe,fh],[Dg],[p1],[]⟩)∧
 ∀(px p8:V1) (fU gC fV:Int) (f_ fl fe fh:Nat→Int) (Dg:Bool),∀p1:HP,oW ⟨[],[px,p8],[fU,gC,fV],[f_,fl,fe,fh],[Dg],[p1],[]⟩→
 br ((0<fU)∧(¬(Dg=true))) (
 ∀F3:Nat,Cl 102 [pp F3,pp b5] [cC b0 px Dg,bf px gC f_,ak F3 true ([.int .u8 0,.int .u8 0,.slice none 0 0]),n_ b5 b0,p1] fun x hs _=> ∃(so:V1) (jb lz oM wS:Int) (fo:Nat→Int) (LS:Bool),∃p2:HP,x= .tuple #[]∧hs=[cC b0 so LS,bf so wS fo,ak F3 true ([.int .u8 jb,.int .u8 lz,(cX oM)]),n_ b5 b0,p2]∧
 ∀_:Nat,ax (0≤fV) (
 kE ((fV+1)*32) (
 ∀v20:V1,∃(Tr Cq:V1) (GR Cw Lz:Int) (Hj zk Hk Hl:Nat→Int) (Kv:Bool),∃Xe:HP,GR=(ae .u64 (fU - 1))∧Tr=so∧Kv=LS∧Tr=so∧Cw=wS∧(∀j,j<(ag Cw)→Hj j=fo j)∧Cq=v20∧Xe=p2∧Cq=v20∧Lz=(fV+1)∧(∀j,j<(ag Lz)→zk j=(aw fl (ag fV) jb) j)∧(∀j,j<(ag Lz)→Hk j=(aw fe (ag fV) lz) j)∧(∀j,j<(ag Lz)→Hl j=(aw fh (ag fV) oM) j)∧oW ⟨[],[Tr,Cq],[GR,Cw,Lz],[Hj,zk,Hk,Hl],[Kv],[Xe],[]⟩∧tz ⟨[],[Tr,Cq],[GR,Cw,Lz],[Hj,zk,Hk,Hl],[Kv],[Xe],[]⟩<tz ⟨[],[px,p8],[fU,gC,fV],[f_,fl,fe,fh],[Dg],[p1],[]⟩))) (
 ∀F3 IF QH:Nat,Cl 21 [pp b0,.int .u64 0,.int .i64 1] [cC b0 px Dg,bf px gC f_] fun x hs _=> ∃(so:V1) (jb lz:Int) (fo:Nat→Int) (LS:Bool),x= .int .u64 jb∧hs=[cC b0 so LS,bf so lz fo]∧
 Cl 21 [pp b0,.int .u64 0,.int .i64 1] [cC b0 so LS,bf so lz fo] fun x hs _=> ∃(v20:V1) (oM wS:Int) (gl:Nat→Int) (QJ:Bool),x= .int .u64 oM∧hs=[cC b0 v20 QJ,bf v20 wS gl]∧
 Cl 45 [pp b0,.int .i64 8] [cC b0 v20 QJ,bf v20 wS gl] fun x hs _=> ∃(NR xZ:V1) (tu rP:Int) (kq lY:Nat→Int) (Yl:Bool),x=xZ.v∧hs=[cC b0 NR Yl,bf NR tu kq,bf xZ rP lY]∧
 ax (0≤rP) (
 ax (0≤rP) (
 Cl 21 [pp b0,.int .u64 0,.int .i64 4] [cC b0 NR Yl,bf NR tu kq] fun x hs _=> ∃(vF:V1) (ia Df:Int) (lJ:Nat→Int) (KJ:Bool),x= .int .u64 ia∧hs=[cC b0 vF KJ,bf vF Df lJ]∧
 ∃(lZ:Ext→Prop) (py:Ext→Nat),(∃(wV uV:V1) (vD rQ rR:Int) (nF uq:Nat→Int) (G6:Bool),vD=ia∧wV=vF∧G6=KJ∧wV=vF∧rQ=Df∧(∀j,j<(ag rQ)→nF j=lJ j)∧uV=(⟨.slice none 0 0,rfl⟩:V1)∧uV=(⟨.slice none 0 0,rfl⟩:V1)∧rR=0∧(∀j,j<(ag (rR*16))→uq j=(fun _=>0) j)∧lZ ⟨[],[wV,uV],[vD,rQ,rR],[nF,uq],[G6],[],[]⟩)∧
 ∀(wV uV:V1) (vD rQ rR:Int) (nF uq:Nat→Int) (G6:Bool),lZ ⟨[],[wV,uV],[vD,rQ,rR],[nF,uq],[G6],[],[]⟩→
 br ((0<vD)∧(¬(G6=true))) (
 ∀_:Nat,Cl 45 [pp b0,.int .i64 16] [cC b0 wV G6,bf wV rQ nF] fun x hs _=> ∃(vH xG:V1) (Aq vE:Int) (sm wU:Nat→Int) (LU:Bool),x=xG.v∧hs=[cC b0 vH LU,bf vH Aq sm,bf xG vE wU]∧
 ax (0≤vE) (
 ax (0≤vE) (
 ∀_:Nat,ax (0≤rR) (
 kE ((rR+1)*16) (
 ∀As:V1,∃(Ts Tt:V1) (XO Ep Cp:Int) (XP XQ:Nat→Int) (XR:Bool),XO=(ae .u64 (vD - 1))∧Ts=vH∧XR=LU∧Ts=vH∧Ep=Aq∧(∀j,j<(ag Ep)→XP j=sm j)∧Tt=As∧Tt=As∧Cp=(rR+1)∧(∀j,j<(ag (Cp*16))→XQ j=(bQ uq (ag (rR*16)) 16 (bQ (fun _=>0) 0 (ag (ar .ib .i64 vE 16)) wU)) j)∧lZ ⟨[],[Ts,Tt],[XO,Ep,Cp],[XP,XQ],[XR],[],[]⟩∧py ⟨[],[Ts,Tt],[XO,Ep,Cp],[XP,XQ],[XR],[],[]⟩<py ⟨[],[wV,uV],[vD,rQ,rR],[nF,uq],[G6],[],[]⟩))))) (
 ∀LQ:Nat,Cl 21 [pp b0,.int .u64 0,.int .i64 1] [cC b0 wV G6,bf wV rQ nF] fun x hs _=> ∃(vH:V1) (Aq vE:Int) (sm:Nat→Int) (LU:Bool),x= .int .u64 Aq∧hs=[cC b0 vH LU,bf vH vE sm]∧
 Cl 45 [pp b0,.int .i64 16] [cC b0 vH LU,bf vH vE sm] fun x hs _=> ∃(xG As:V1) (Qt IB:Int) (wU AJ:Nat→Int) (QF:Bool),x=As.v∧hs=[cC b0 xG QF,bf xG Qt wU,bf As IB AJ]∧
 ax (0≤IB) (
 ax (0≤IB) (
 ∀Sf:Nat,Cl 21 [pp b0,.int .u64 0,.int .i64 1] [cC b0 xG QF,bf xG Qt wU] fun x hs _=> ∃(v30:V1) (wT En:Int) (Ar:Nat→Int) (Ym:Bool),x= .int .u64 wT∧hs=[cC b0 v30 Ym,bf v30 En Ar]∧
 ∀b15:Nat,Cl 21 [pp b0,.int .u64 0,.int .i64 1] [cC b0 v30 (Ym||(decide (1<wT))),bf v30 En Ar] fun x hs _=> ∃(Ku:V1) (FY NN:Int) (Bv:Nat→Int) (N0:Bool),x= .int .u64 FY∧hs=[cC b0 Ku N0,bf Ku NN Bv]∧
 ∀b16 b17:Nat,Cl 21 [pp b0,.int .u64 0,.int .i64 1] [cC b0 Ku N0,bf Ku NN Bv] fun x hs _=> ∃(Uc:V1) (R2 NO:Int) (Eo:Nat→Int) (Yn:Bool),x= .int .u64 R2∧hs=[cC b0 Uc Yn,bf Uc NO Eo]∧
 Cl 21 [pp b0,.int .u64 0,.int .i64 1] [cC b0 Uc Yn,bf Uc NO Eo] fun x hs _=> ∃(Sg:V1) (VQ T5:Int) (ID:Nat→Int) (q22:Bool),x= .int .u64 VQ∧hs=[cC b0 Sg q22,bf Sg T5 ID]∧
 ∀b18:Nat,Cl 45 [pp b0,.int .i64 32] [cC b0 Sg q22,bf Sg T5 ID] fun x hs _=> ∃(QB Si:V1) (FZ Bu:Int) (Km R4:Nat→Int) (q23:Bool),x=Si.v∧hs=[cC b0 QB q23,bf QB FZ Km,bf Si Bu R4]∧
 ax (0≤Bu) (
 ax (0≤Bu) (
 Cl 45 [pp b0,.int .i64 32] [cC b0 QB q23,bf QB FZ Km] fun x hs _=> ∃(QC GM:V1) (R3 IC:Int) (T6 Qv:Nat→Int) (q24:Bool),x=GM.v∧hs=[cC b0 QC q24,bf QC R3 T6,bf GM IC Qv]∧
 ax (0≤IC) (
 ax (0≤IC) (
 Cl 45 [pp b0,.int .i64 32] [cC b0 QC q24,bf QC R3 T6] fun x hs _=> ∃(F4 Er:V1) (Qu Qw:Int) (T7 R5:Nat→Int) (q25:Bool),x=Er.v∧hs=[cC b0 F4 q25,bf F4 Qu T7,bf Er Qw R5]∧
 ax (0≤Qw) (
 ax (0≤Qw) (
 Cl 21 [pp b0,.int .u64 0,.int .i64 4] [cC b0 F4 q25,bf F4 Qu T7] fun x hs _=> ∃(QD:V1) (R7 Yb:Int) (T8:Nat→Int) (q26:Bool),x= .int .u64 R7∧hs=[cC b0 QD q26,bf QD Yb T8]∧
 iQ R7 ((
 Cl 45 [pp b0,.int .i64 R7] [cC b0 QD q26,bf QD Yb T8] fun x hs _=> ∃(Kw N1:V1) (VR VS:Int) (T9 R6:Nat→Int) (q27:Bool),x=N1.v∧hs=[cC b0 Kw q27,bf Kw VR T9,bf N1 VS R6]∧
 Cl 111 [N1.v] [bf N1 VS R6] fun x hs l=> ∃(QE:V1) (F0:Int) (Kn:Nat→Int),x=QE.v∧hs=l++[bp QE F0 Kn]∧
 Cl 21 [pp b0,.int .u64 1,.int .i64 1] [cC b0 Kw q27,bf Kw VR T9] fun x hs _=> ∃(Ud:V1) (T_ Qx:Int) (NP:Nat→Int) (q28:Bool),x= .int .u64 T_∧hs=[cC b0 Ud q28,bf Ud Qx NP]∧
 iQ T_ ((
 iQ (T_ - 1) ((
 Cl 21 [pp b0,.int .u64 0,.int .i64 4] [cC b0 Ud q28,bf Ud Qx NP] fun x hs _=> ∃(Wb:V1) (Ua VT:Int) (NQ:Nat→Int) (Ue:Bool),x= .int .u64 Ua∧hs=[cC b0 Wb Ue,bf Wb VT NQ]∧
 ∃(qI:Ext→Prop) (wW:Ext→Nat),(∃(AK LP:V1) (NS Kp vG:Int) (Ko Kr LM:Nat→Int) (SS:Bool),NS=Ua∧AK=Wb∧SS=Ue∧AK=Wb∧Kp=VT∧(∀j,j<(ag Kp)→Ko j=NQ j)∧LP=(⟨.slice none 0 0,rfl⟩:V1)∧LP=(⟨.slice none 0 0,rfl⟩:V1)∧vG=0∧(∀j,j<(ag vG)→Kr j=(fun _=>0) j)∧(∀j,j<(ag vG)→LM j=(fun _=>0) j)∧qI ⟨[],[AK,LP],[NS,Kp,vG],[Ko,Kr,LM],[SS],[],[]⟩)∧
 ∀(AK LP:V1) (NS Kp vG:Int) (Ko Kr LM:Nat→Int) (SS:Bool),qI ⟨[],[AK,LP],[NS,Kp,vG],[Ko,Kr,LM],[SS],[],[]⟩→
 br ((0<NS)∧(¬(SS=true))) (
 ∀_ _ _:Nat,Cl 21 [pp b0,.int .u64 0,.int .i64 1] [cC b0 AK SS,bf AK Kp Ko] fun x hs _=> ∃(GN:V1) (F1 NU:Int) (Qz:Nat→Int) (Ys:Bool),x= .int .u64 F1∧hs=[cC b0 GN Ys,bf GN NU Qz]∧
 Cl 21 [pp b0,.int .u64 0,.int .i64 1] [cC b0 GN Ys,bf GN NU Qz] fun x hs _=> ∃(GO:V1) (Kq NV:Int) (QA:Nat→Int) (Yt:Bool),x= .int .u64 Kq∧hs=[cC b0 GO Yt,bf GO NV QA]∧
 ∀_:Nat,ax (0≤vG) (
 kE ((vG+1)*2) (
 ∀GQ:V1,∃(Cu Tu:V1) (XS Tv Ct:Int) (XT XU XV:Nat→Int) (XW:Bool),XS=(ae .u64 (NS - 1))∧Cu=GO∧XW=Yt∧Cu=GO∧Tv=NV∧(∀j,j<(ag Tv)→XT j=QA j)∧Tu=GQ∧Tu=GQ∧Ct=(vG+1)∧(∀j,j<(ag Ct)→XU j=(aw Kr (ag vG) (ae .u8 F1)) j)∧(∀j,j<(ag Ct)→XV j=(aw LM (ag vG) (ae .u8 Kq)) j)∧qI ⟨[],[Cu,Tu],[XS,Tv,Ct],[XT,XU,XV],[XW],[],[]⟩∧wW ⟨[],[Cu,Tu],[XS,Tv,Ct],[XT,XU,XV],[XW],[],[]⟩<wW ⟨[],[AK,LP],[NS,Kp,vG],[Ko,Kr,LM],[SS],[],[]⟩))) (
 ∀b19:Nat,Cl 21 [pp b0,.int .u64 0,.int .i64 8] [cC b0 AK SS,bf AK Kp Ko] fun x hs _=> ∃(GN:V1) (F1 NU:Int) (Qz:Nat→Int) (Ys:Bool),x= .int .u64 F1∧hs=[cC b0 GN Ys,bf GN NU Qz]∧
 Cl 21 [pp b0,.int .u64 0,.int .i64 8] [cC b0 GN Ys,bf GN NU Qz] fun x hs _=> ∃(GO:V1) (Kq NV:Int) (QA:Nat→Int) (Yt:Bool),x= .int .u64 Kq∧hs=[cC b0 GO Yt,bf GO NV QA]∧
 Cl 21 [pp b0,.int .u64 0,.int .i64 8] [cC b0 GO Yt,bf GO NV QA] fun x hs _=> ∃(GQ:V1) (Qy Yc:Int) (VX:Nat→Int) (q33:Bool),x= .int .u64 Qy∧hs=[cC b0 GQ q33,bf GQ Yc VX]∧
 Cl 21 [pp b0,.int .u64 0,.int .i64 8] [cC b0 GQ q33,bf GQ Yc VX] fun x hs _=> ∃(v52:V1) (VU Yd:Int) (LN:Nat→Int) (q34:Bool),x= .int .u64 VU∧hs=[cC b0 v52 q34,bf v52 Yd LN]∧
 Cl 21 [pp b0,.int .u64 0,.int .i64 8] [cC b0 v52 q34,bf v52 Yd LN] fun x hs _=> ∃(v53:V1) (VV Ye:Int) (VY:Nat→Int) (q35:Bool),x= .int .u64 VV∧hs=[cC b0 v53 q35,bf v53 Ye VY]∧
 ∀b20:Nat,Cl 21 [pp b0,.int .u64 0,.int .i64 4] [cC b0 v53 q35,bf v53 Ye VY] fun x hs _=> ∃(v54:V1) (VW Yf:Int) (VZ:Nat→Int) (q36:Bool),x= .int .u64 VW∧hs=[cC b0 v54 q36,bf v54 Yf VZ]∧
 Cl 21 [pp b0,.int .u64 0,.int .i64 4] [cC b0 v54 q36,bf v54 Yf VZ] fun x hs _=> ∃(v55:V1) (Ub Yg:Int) (V0:Nat→Int) (q37:Bool),x= .int .u64 Ub∧hs=[cC b0 v55 q37,bf v55 Yg V0]∧
 iQ Ub ((
 Cl 45 [pp b0,.int .i64 Ub] [cC b0 v55 q37,bf v55 Yg V0] fun x hs _=> ∃(v56 v57:V1) (NW V2:Int) (A56 A57:Nat→Int) (q38:Bool),x=v57.v∧hs=[cC b0 v56 q38,bf v56 NW A56,bf v57 V2 A57]∧
 Cl 111 [v57.v] [bf v57 V2 A57] fun x hs l=> ∃(v58:V1) (V3:Int) (A58:Nat→Int),x=v58.v∧hs=l++[bp v58 V3 A58]∧
 Cl 21 [pp b0,.int .u64 0,.int .i64 4] [cC b0 v56 q38,bf v56 NW A56] fun x hs _=> ∃(v59:V1) (zh F2:Int) (A59:Nat→Int) (q39:Bool),x= .int .u64 zh∧hs=[cC b0 v59 q39,bf v59 F2 A59]∧
 ∃(zi:Ext→Prop) (Es:Ext→Nat),(∃(QQ UC:V1) (Ks Kt Au:Int) (R8 R9 R_ Sa Sb:Nat→Int) (UD:Bool),Ks=zh∧QQ=v59∧UD=q39∧QQ=v59∧Kt=F2∧(∀j,j<(ag Kt)→R8 j=A59 j)∧UC=(⟨.slice none 0 0,rfl⟩:V1)∧UC=(⟨.slice none 0 0,rfl⟩:V1)∧Au=0∧(∀j,j<(ag (Au*16))→R9 j=(fun _=>0) j)∧(∀j,j<(ag Au)→R_ j=(fun _=>0) j)∧(∀j,j<(ag Au)→Sa j=(fun _=>0) j)∧(∀j,j<(ag Au)→Sb j=(fun _=>0) j)∧zi ⟨[],[QQ,UC],[Ks,Kt,Au],[R8,R9,R_,Sa,Sb],[UD],[],[]⟩)∧
 ∀(QQ UC:V1) (Ks Kt Au:Int) (R8 R9 R_ Sa Sb:Nat→Int) (UD:Bool),zi ⟨[],[QQ,UC],[Ks,Kt,Au],[R8,R9,R_,Sa,Sb],[UD],[],[]⟩→
 br ((0<Ks)∧(¬(UD=true))) (
 ∀LO:Nat,Cl 55 [pp LO,pp b2] [cC b0 QQ UD,bf QQ Kt R8,ak LO true (aqk (aj .u8 16 (fun _=>0)) ([.int .u8 0,.bool false,.int .u64 0])),n_ b2 b0] fun x hs _=> ∃(v63:V1) (Yh V4 x90 x91:Int) (A65 A66:Nat→Int) (q41:Bool),x= .tuple #[]∧hs=[cC b0 v63 q41,bf v63 x91 A65,Ei LO A66 Yh (!(V4==0)) x90,n_ b2 b0]∧
 ∀_:Nat,ax (0≤Au) (
 kE ((Au+1)*32) (
 ∀v64:V1,∃(Tw Tx:V1) (XX Ty H6:Int) (XY XZ X0 X1 X2:Nat→Int) (X3:Bool),XX=(ae .u64 (Ks - 1))∧Tw=v63∧X3=q41∧Tw=v63∧Ty=x91∧(∀j,j<(ag Ty)→XY j=A65 j)∧Tx=v64∧Tx=v64∧H6=(Au+1)∧(∀j,j<(ag (H6*16))→XZ j=(bQ R9 (ag (Au*16)) 16 A66) j)∧(∀j,j<(ag H6)→X0 j=(aw R_ (ag Au) Yh) j)∧(∀j,j<(ag H6)→X1 j=(aw Sa (ag Au) V4) j)∧(∀j,j<(ag H6)→X2 j=(aw Sb (ag Au) x90) j)∧zi ⟨[],[Tw,Tx],[XX,Ty,H6],[XY,XZ,X0,X1,X2],[X3],[],[]⟩∧Es ⟨[],[Tw,Tx],[XX,Ty,H6],[XY,XZ,X0,X1,X2],[X3],[],[]⟩<Es ⟨[],[QQ,UC],[Ks,Kt,Au],[R8,R9,R_,Sa,Sb],[UD],[],[]⟩))) (
 al (.tuple #[]) [cC b0 QQ UD,bf QQ Kt R8,ak b1 true (aqk (aj .u8 32 (bQ (fun _=>0) 0 (ag (ar .ib .i64 x2 32)) A2)) (.int .u64 x3::(.int .u8 (ae .u8 x5)::(.int .u8 (ae .u8 x7)::(aqk (aj .u8 32 (bQ (fun _=>0) 0 (ag (ar .ib .i64 bE 32)) A7)) (aqk (aj .u8 32 (bQ (fun _=>0) 0 (ag (ar .ib .i64 bP 32)) A9)) (qH.v::(.int .i64 dM::(p8.v::(.int .u8 (ae .u8 jb)::(.int .u8 (ae .u8 oM)::(aqk (aj .u8 8 (bQ (fun _=>0) 0 (ag (ar .ib .i64 rP 8)) lY)) (uV.v::(.int .u8 (ae .u8 Aq)::(aqk (aj .u8 16 (bQ (fun _=>0) 0 (ag (ar .ib .i64 IB 16)) AJ)) (.bool (wT==1)::(.int .u8 (ae .u8 FY)::(.int .u8 (ae .u8 R2)::(.int .u8 (ae .u8 VQ)::(aqk (aj .u8 32 (bQ (fun _=>0) 0 (ag (ar .ib .i64 Bu 32)) R4)) (aqk (aj .u8 32 (bQ (fun _=>0) 0 (ag (ar .ib .i64 IC 32)) Qv)) (aqk (aj .u8 32 (bQ (fun _=>0) 0 (ag (ar .ib .i64 Qw 32)) R5)) ([QE.v,.int .i64 (T_ - 1),LP.v,.int .u64 F1,.int .u64 Kq,.int .u64 Qy,.int .u64 VU,.int .u64 VV,.int .u32 (ae .u32 VW),v58.v,UC.v]))))))))))))))))))))))),p1,n_ b2 b0,n_ b3 b1,bf v2 x2 A2,ak b4 true ([.pointer (some ⟨b1,32,none⟩)]),n_ b5 b0,n_ b6 b0,ak b7 true ([.pointer (some ⟨b1,33,none⟩)]),ak b8 true ([.pointer (some ⟨b1,33,none⟩),.pointer (some ⟨b1,34,none⟩)]),ak b9 true ([.pointer (some ⟨b1,35,none⟩),.pointer (some ⟨b1,67,none⟩)]),bf v7 bE A7,bf v9 bP A9,p5 qH cj dq gk,De p8 fV fl fe fh,n_ F3 b0,ak IF true ([.pointer (some ⟨b1,102,none⟩)]),ak QH true ([.pointer (some ⟨b1,102,none⟩),.pointer (some ⟨b1,103,none⟩)]),bf xZ rP lY,p7 uV rR uq,ak LQ true ([.pointer (some ⟨b1,113,none⟩)]),bf As IB AJ,GK Sf b1,ak b15 true ([.pointer (some ⟨b1,131,none⟩)]),ak b16 true ([.pointer (some ⟨b1,132,none⟩)]),ak b17 true ([.pointer (some ⟨b1,132,none⟩),.pointer (some ⟨b1,133,none⟩)]),ak b18 true ([.pointer (some ⟨b1,134,none⟩),.pointer (some ⟨b1,166,none⟩),.pointer (some ⟨b1,198,none⟩)]),bf Si Bu R4,bf GM IC Qv,bf Er Qw R5,bf N1 VS R6,bp QE F0 Kn,p6 LP vG Kr LM,ak b19 true ([.pointer (some ⟨b1,233,none⟩),.pointer (some ⟨b1,234,none⟩),.pointer (some ⟨b1,235,none⟩),.pointer (some ⟨b1,236,none⟩),.pointer (some ⟨b1,237,none⟩)]),ak b20 true ([.pointer (some ⟨b1,238,none⟩)]),bf v57 V2 A57,bp v58 V3 A58,pZ UC Au R9 R_ Sa Sb])))))))))))))))))))))))))))))))
theorem Xk(al:PT)(x0:Int)(A0:Nat→Int)(q0:Bool)(v0:V1)(b0 b1:Nat)(p0:HP)(h:Pp al x0 A0 q0 v0 b0 b1 p0):aq aqQ 32 [pp b0,pp b1] [cC b0 v0 q0,bf v0 x0 A0,T1 b1,p0] al:=
 xp (C:=aee) Vd.stA Vd.ZL Vd.Kh ⟨[x0],[A0],[q0],[b0,b1],[v0],[],[p0],[]⟩ Tryz.func32 (by kernel_rfl) h
end Go.RX.Vb
