/- The store's walker. -/
import Derived.Test.YtllcdnkfbeokhaaGreatM29
open Go.IntKind renaming wrap → ae
open Go.Proofs.Tryz renaming prog → auN
open Int renaming toNat → ag
namespace Go.RX.Vb
open Go.RX Go.Proofs
set_option maxRecDepth 100000
def KY(al:PT)(x0:Int)(A0:Nat→Int)(v0:V1):Prop:=
 Cl 17 [v0.v] [bh v0 x0 A0] fun x hs l=> ∃(v1 v2 v3 v4 v5 v6 v7:V1) (x1 x2 x3 x4 x5 x6 x7 x8 x9 bE bO bT bL dR bW dF cr dB cI dz gQ fc fw fl fU jR:Int) (A1 A2 A3 A4 A5 A6 A7 A8 A9 dX dA df fN gk gn fJ ff eQ fe fg fO iH:Nat→Int),∃_:HP,x= .tuple #[wI A1 x1 x2 x3 A2 A3 v1 x4 v2 x5 x6 A4 v3 x7 A5 (!(x8==0)) x9 bE bO A6 A7 A8 v4 bT v5 bL dR bW dF cr dB v6 v7,.int .i64 jR]∧hs=l++[qp v1 cI A9 dX,D_ v2 dz dA df fN,qt v3 gQ gk,bq v4 fc gn,qs v5 fw fJ ff,bq v6 fl eQ,qo v7 fU fe fg fO iH]∧
 ∀_:Nat,Cl 18 [v0.v] [bh v0 x0 A0] fun x hs l=> ∃(v8:V1) (kV:Int) (jW:Nat→Int) (q0:Bool),x= .tuple #[v8.v,.bool q0]∧hs=l++[bh v8 kV jW]∧
 al (.bool ((jR==9)||q0)) []
theorem VQ(al:PT)(x0:Int)(A0:Nat→Int)(v0:V1)(h:KY al x0 A0 v0):aq auN 19 [v0.v] [bh v0 x0 A0] al:=
 s8 (C:=aiq) Wa.aio Wa.ad7 Wa.ZF ⟨[x0],[A0],[],[],[v0],[],[],[]⟩ 0 Tryz.func19 (by kernel_rfl) h
def GO(al:PT)(_ _ _ _ _ _ _ _ _ _ _ _ _ _ _ _ _ _ dB cI dz gQ fc fw fl:Int)(_ _ _ _ _ _ _ _ _ _ dX dA df _ _ _ _ _ _ _ _ _:Nat→Int)(_ v1 _ _ _ _ _:V1)(p0:HP):Prop:=
 ∀_:Nat,ax (0≤fw) (
 ax (0≤fl) (
 gS (32*fl) ((
 gS (fw+(32*fl)) ((
 ax (0≤dz) (
 gS (16*dz) ((
 gS ((fw+(32*fl))+(16*dz)) ((
 ax (0≤gQ) (
 gS (((fw+(32*fl))+(16*dz))+gQ) ((
 ax (0≤fc) (
 gS ((((fw+(32*fl))+(16*dz))+gQ)+fc) ((
 ax (0≤dB) (
 gS (40*dB) ((
 gS (((((fw+(32*fl))+(16*dz))+gQ)+fc)+(40*dB)) ((
 ax (0≤cI) (
 ∃(cH:Ext→Prop) (dp:Ext→Nat),(∃fU jR:Int,(ae .i64 fU)=(((((fw+(32*fl))+(16*dz))+gQ)+fc)+(40*dB))∧jR=0∧cH ⟨[],[],[fU,jR],[],[],[],[]⟩)∧
 ∀fU jR:Int,cH ⟨[],[],[fU,jR],[],[],[],[]⟩→
 bt (jR<cI) (
 ∃XX:Ext→Prop,(∀(w:World) (Fs:List HP),bz ([qu v1 cI dX dA df,p0]++Fs) w→∃(v7:V1) (kV:Int) (iH jW jX k_ n_ nj o_ q_ qP ri tc uQ vQ yZ zz yn zA y8 zB zC:Nat→Int),bz ([aB false 68 3 v1.v (ag cI) (aM (ag cI) [ay .u8 1 dX,ay .u8 1 dA,eA 1 (fun j=>if j=(ag jR)then v7.v else cc (df j))]),p0,Cp v7 kV iH jW jX k_ n_ nj o_ q_ qP ri tc uQ vQ yZ zz yn zA y8 zB zC]++Fs) w∧XX ⟨[],[v7],[kV],[iH,jW,jX,k_,n_,nj,o_,q_,qP,ri,tc,uQ,vQ,yZ,zz,yn,zA,y8,zB,zC],[],[],[]⟩)∧
 (∀(v7:V1) (kV:Int) (iH jW jX k_ n_ nj o_ q_ qP ri tc uQ vQ yZ zz yn zA y8 zB zC:Nat→Int),XX ⟨[],[v7],[kV],[iH,jW,jX,k_,n_,nj,o_,q_,qP,ri,tc,uQ,vQ,yZ,zz,yn,zA,y8,zB,zC],[],[],[]⟩→
 ax (0≤jR) (
 ∀_:Nat,∃XX:Ext→Prop,(∀(w:World) (Fs:List HP),bz ([aB false 68 3 v1.v (ag cI) (aM (ag cI) [ay .u8 1 dX,ay .u8 1 dA,eA 1 (fun j=>if j=(ag jR)then v7.v else cc (df j))]),Cp v7 kV iH jW jX k_ n_ nj o_ q_ qP ri tc uQ vQ yZ zz yn zA y8 zB zC]++Fs) w→bz ([qu v1 cI dX dA df,Cp v7 kV iH jW jX k_ n_ nj o_ q_ qP ri tc uQ vQ yZ zz yn zA y8 zB zC]++Fs) w∧XX ⟨[],[],[],[],[],[],[]⟩)∧
 (XX ⟨[],[],[],[],[],[],[]⟩→
 ax (0≤kV) (
 ∃(tP:Ext→Prop) (zL:Ext→Nat),(∃jC oY:Int,(ae .i64 jC)=(ae .i64 fU)∧oY=0∧tP ⟨[],[],[jC,oY],[],[],[],[]⟩)∧
 ∀jC oY:Int,tP ⟨[],[],[jC,oY],[],[],[],[]⟩→
 bt (oY<kV) (
 ∃KZ:Ext→Prop,(∀(w:World) (Fs:List HP),bz ([Cp v7 kV iH jW jX k_ n_ nj o_ q_ qP ri tc uQ vQ yZ zz yn zA y8 zB zC,p0]++Fs) w→∃(v8:V1) (nS:Int) (Cq y9 AL:Nat→Int),bz ([Q_ v7 kV iH jW jX k_ n_ nj o_ q_ qP ri tc uQ vQ oY v8 yZ zz yn zA y8 zB zC,p0,Ed v8 nS Cq y9 AL]++Fs) w∧KZ ⟨[],[v8],[nS],[Cq,y9,AL],[],[],[]⟩)∧
 (∀(v8:V1) (nS:Int) (Cq y9 AL:Nat→Int),KZ ⟨[],[v8],[nS],[Cq,y9,AL],[],[],[]⟩→
 ax (0≤oY) (
 ∀_:Nat,∃KZ:Ext→Prop,(∀(w:World) (Fs:List HP),bz ([Q_ v7 kV iH jW jX k_ n_ nj o_ q_ qP ri tc uQ vQ oY v8 yZ zz yn zA y8 zB zC,Ed v8 nS Cq y9 AL]++Fs) w→bz ([Cp v7 kV iH jW jX k_ n_ nj o_ q_ qP ri tc uQ vQ yZ zz yn zA y8 zB zC,Ed v8 nS Cq y9 AL]++Fs) w∧KZ ⟨[],[],[],[],[],[],[]⟩)∧
 (KZ ⟨[],[],[],[],[],[],[]⟩→
 ax (0≤nS) (
 gS (68*nS) ((
 gS (400+(68*nS)) ((
 gS (oY+1) ((
 ∃KZ:Ext→Prop,(∀(w:World) (Fs:List HP),bz ([Ed v8 nS Cq y9 AL]++Fs) w→bz ([]++Fs) w∧KZ ⟨[],[],[],[],[],[],[]⟩)∧
 (KZ ⟨[],[],[],[],[],[],[]⟩→
 ∃ZJ I9:Int,(ae .i64 ZJ)=(ae .i64 ((ae .i64 jC)+(400+(68*nS))))∧I9=(oY+1)∧tP ⟨[],[],[ZJ,I9],[],[],[],[]⟩∧zL ⟨[],[],[ZJ,I9],[],[],[],[]⟩<zL ⟨[],[],[jC,oY],[],[],[],[]⟩)))))))))))) (
 gS (jR+1) ((
 ∃KZ:Ext→Prop,(∀(w:World) (Fs:List HP),bz ([Cp v7 kV iH jW jX k_ n_ nj o_ q_ qP ri tc uQ vQ yZ zz yn zA y8 zB zC]++Fs) w→bz ([]++Fs) w∧KZ ⟨[],[],[],[],[],[],[]⟩)∧
 (KZ ⟨[],[],[],[],[],[],[]⟩→
 ∃ZK ZL:Int,(ae .i64 ZK)=(ae .i64 jC)∧ZL=(jR+1)∧cH ⟨[],[],[ZK,ZL],[],[],[],[]⟩∧dp ⟨[],[],[ZK,ZL],[],[],[],[]⟩<dp ⟨[],[],[fU,jR],[],[],[],[]⟩))))))))) (
 al (.bool (decide (60000<(ae .i64 fU)))) []))))))))))))))))))))))))
theorem RB(al:PT)(x0 x1 x2 x3 x4 x5 x6 x7 x8 x9 bE bO bT bL dR bW dF cr dB cI dz gQ fc fw fl:Int)(A0 A1 A2 A3 A4 A5 A6 A7 A8 A9 dX dA df fN gk gn fJ ff eQ fe fg fO:Nat→Int)(v0 v1 v2 v3 v4 v5 v6:V1)(p0:HP)(h:GO al x0 x1 x2 x3 x4 x5 x6 x7 x8 x9 bE bO bT bL dR bW dF cr dB cI dz gQ fc fw fl A0 A1 A2 A3 A4 A5 A6 A7 A8 A9 dX dA df fN gk gn fJ ff eQ fe fg fO v0 v1 v2 v3 v4 v5 v6 p0):aq auN 8 [wI A0 x0 x1 x2 A1 A2 v0 x3 v1 x4 x5 A3 v2 x6 A4 (!(x7==0)) x8 x9 bE A5 A6 A7 v3 bO v4 bT bL dR bW dF cr v5 v6] [oW v0 dB A8 A9,qu v1 cI dX dA df,pD v2 dz fN,bh v3 gQ gk,pC v4 fc gn fJ,bh v5 fw ff,s_ v6 fl eQ fe fg fO,p0] al:=
 s8 (C:=air) Wc.ZI Wc.Rx Wc.RA ⟨[x0,x1,x2,x3,x4,x5,x6,x7,x8,x9,bE,bO,bT,bL,dR,bW,dF,cr,dB,cI,dz,gQ,fc,fw,fl],[A0,A1,A2,A3,A4,A5,A6,A7,A8,A9,dX,dA,df,fN,gk,gn,fJ,ff,eQ,fe,fg,fO],[],[],[v0,v1,v2,v3,v4,v5,v6],[],[p0],[]⟩ 0 Tryz.func8 (by kernel_rfl) h
def K1(al:PT)(x0 x1 x2 x3 x4 x5 x6 x7 x8 x9 bE bO bT bL dR bW dF cr dB cI dz gQ fc fw fl fU jR:Int)(A0 A1 A2 A3 A4 A5 A6 A7 A8 A9 dX dA df fN gk gn fJ ff eQ fe fg fO:Nat→Int)(q0:Bool)(v0 v1 v2 v3 v4 v5 v6:V1)(p0:HP):Prop:=
 ∀_:Nat,Cl 7 [] [] fun x hs _=>x= .bool true∧hs=[]∧
 Cl 9 [wI A0 x0 x1 x2 A1 A2 v0 x3 v1 x4 x5 A3 v2 x6 A4 (!(x7==0)) x8 x9 bE A5 A6 A7 v3 bO v4 bT bL dR bW dF cr v5 v6] [oW v0 dB A8 A9,qu v1 cI dX dA df,pD v2 dz fN,bh v3 gQ gk,pC v4 fc gn fJ,bh v5 fw ff,s_ v6 fl eQ fe fg fO,p0] fun x hs l=> ∃(v7:V1) (kV jC:Int) (iH:Nat→Int),x= .tuple #[v7.v,.int .i64 kV]∧hs=l++[bq v7 jC iH]∧
 Cl 8 [wI A0 x0 x1 x2 A1 A2 v0 x3 v1 x4 x5 A3 v2 x6 A4 (!(x7==0)) x8 x9 bE A5 A6 A7 v3 bO v4 bT bL dR bW dF cr v5 v6] [oW v0 dB A8 A9,qu v1 cI dX dA df,pD v2 dz fN,bh v3 gQ gk,pC v4 fc gn fJ,bh v5 fw ff,s_ v6 fl eQ fe fg fO,p0] fun x hs l=> ∃q1:Bool,x= .bool q1∧hs=l∧
 bt (((q1=true)∨(¬(kV=0)))∨(fU<0)) (
 al (.bool true) []) (
 Cl 17 [v7.v] [bq v7 jC iH] fun x hs l=> ∃(v8 v9 v10 v11 qY pP rU:V1) (oY nS im Cr uR rj rl y_ uS Nx GQ vR Df Ei K2 O_ K3 TW RC Ej AM Pa GR Ny Nz NA:Int) (jW jX k_ n_ nj o_ q_ qP ri tc uQ vQ yZ zz yn zA y8 zB zC Cq y9 AL:Nat→Int),∃p1:HP,x= .tuple #[wI jW oY nS im jX k_ v8 Cr v9 uR rj n_ v10 rl nj (!(y_==0)) uS Nx GQ o_ q_ qP v11 vR qY Df Ei K2 O_ K3 TW pP rU,.int .i64 NA]∧hs=l++[qp v8 RC ri tc,D_ v9 Ej uQ vQ yZ,qt v10 AM zz,bq v11 Pa yn,qs qY GR zA y8,bq pP Ny zB,qo rU Nz zC Cq y9 AL,p1]∧
 ∀_:Nat,bt (NA=0) (
 Cl 13 [wI jW oY nS im jX k_ v8 Cr v9 uR rj n_ v10 rl nj (!(y_==0)) uS Nx GQ o_ q_ qP v11 vR qY Df Ei K2 O_ K3 TW pP rU] [qp v8 RC ri tc,D_ v9 Ej uQ vQ yZ,qt v10 AM zz,bq v11 Pa yn,qs qY GR zA y8,bq pP Ny zB,qo rU Nz zC Cq y9 AL,p1] fun x hs l=> ∃(pE:V1) (VR:Int) (K4:Nat→Int),x=pE.v∧hs=l++[bq pE VR K4]∧
 Cl 13 [(if(NA==0)then wI A0 x0 x1 x2 A1 A2 v0 x3 v1 x4 x5 A3 v2 x6 A4 (!(x7==0)) x8 x9 bE A5 A6 A7 v3 bO v4 bT bL dR bW dF cr v5 v6 else undef)] [oW v0 dB A8 A9,qu v1 cI dX dA df,pD v2 dz fN,bh v3 gQ gk,pC v4 fc gn fJ,bh v5 fw ff,s_ v6 fl eQ fe fg fO,p0] fun x hs l=> ∃(rh:V1) (TX:Int) (Ik:Nat→Int),x=rh.v∧hs=l++[bq rh TX Ik]∧
 bt (¬(dC (uv K4 VR)=dC (uv Ik TX))) (
 al (.bool false) []) (
 ax (0≤jC) (
 ax (jC≠0) (
 ∀_:V1,lp jC (
 ∀mJ:V1,ax (0≤(ar .rem .i64 fU jC)) (
 ax ((ar .rem .i64 fU jC)<jC) (
 ax (0≤(ar .rem .u8 jR 8)) (
 ax ((ar .rem .i64 fU jC)≤jC) (
 Cl 19 [(aF 1 v7.v 0 (ag (ar .rem .i64 fU jC)) none)] [bq v7 jC iH] fun x hs l=> ∃q2:Bool,x= .bool q2∧hs=l∧
 bt (q2=true) (
 ∀(_ _:V1) (_:Nat),lp ((jC+1)*1) (
 ∀Ct:V1,Cl 19 [Ct.v] [bq Ct (jC+1) (aw iH (ag jC) 0)] fun x hs l=> ∃q3:Bool,x= .bool q3∧hs=l∧
 bt (q3=true) (
 Cl 19 [mJ.v] [bq mJ jC (aw iH (ag (ar .rem .i64 fU jC)) (ar .cz .u8 (iH (ag (ar .rem .i64 fU jC))) (ar .shl .u8 1 (ar .rem .u8 jR 8))))] fun x hs l=> ∃q4:Bool,x= .bool q4∧hs=l∧
 bt (¬(q4=true)) (
 al (.bool false) []) (
 ax (((¬(q0=true))∨((ar .rem .i64 fU jC)<10))∨(0≤jC)) (
 ax (((¬(q0=true))∨((ar .rem .i64 fU jC)<10))∨((-9223372036854775808)≤(jC - 8))) (
 ax (((¬(q0=true))∨((ar .rem .i64 fU jC)<10))∨((jC - 8)≤9223372036854775807)) (
 bt (((¬(q0=true))∨((ar .rem .i64 fU jC)<10))∨((jC - 8)≤(ar .rem .i64 fU jC))) (
 al (.bool true) []) (
 gS (jC - 8) ((
 ax (10≤(jC - 8)) (
 ax ((jC - 8)≤jC) (
 Cl 14 [(aF 1 mJ.v 10 (ag (jC - 8)) none)] [bq mJ jC (aw iH (ag (ar .rem .i64 fU jC)) (ar .cz .u8 (iH (ag (ar .rem .i64 fU jC))) (ar .shl .u8 1 (ar .rem .u8 jR 8))))] fun x hs l=> ∃(vS:V1) (RD:Int) (GU:Nat→Int),x=vS.v∧hs=l++[bq vS RD GU]∧
 Cl 17 [vS.v] [bq vS RD GU] fun x hs l=> ∃(tF wJ uz tf tG uT xj:V1) (Ek RE NB RF TY K5 Il uU El K6 Im K7 NC VS TZ VT T1 VU T2 VV RG VW K8 T3 T4 xk:Int) (I_ ND NF T5 Ja T6 T7 T8 ZM XY ZN ZO Pb Pc Pd Pe Pf ZP ZQ A67 A68 A69:Nat→Int),∃p2:HP,x= .tuple #[wI I_ Ek RE NB ND NF tF RF wJ TY K5 T5 uz Il Ja (!(uU==0)) El K6 Im T6 T7 T8 tf K7 tG NC VS TZ VT T1 VU uT xj,.int .i64 xk]∧hs=l++[qp tF T2 ZM XY,D_ wJ VV ZN ZO Pb,qt uz RG Pc,bq tf VW Pd,qs tG K8 Pe Pf,bq uT T3 ZP,qo xj T4 ZQ A67 A68 A69,p2]∧
 ∀_:Nat,bt (¬(xk=0)) (
 al (.bool (xk==9)) []) (
 Cl 9 [wI I_ Ek RE NB ND NF tF RF wJ TY K5 T5 uz Il Ja (!(uU==0)) El K6 Im T6 T7 T8 tf K7 tG NC VS TZ VT T1 VU uT xj] [qp tF T2 ZM XY,D_ wJ VV ZN ZO Pb,qt uz RG Pc,bq tf VW Pd,qs tG K8 Pe Pf,bq uT T3 ZP,qo xj T4 ZQ A67 A68 A69,p2] fun x hs l=> ∃(v30:V1) (Em Io:Int) (A70:Nat→Int),x= .tuple #[v30.v,.int .i64 Em]∧hs=l++[bq v30 Io A70]∧
 al (.bool ((Em==0)&&(dC (uv A70 Io)==dC (uv GU RD)))) []))))))))))) (
 al (.bool false) []))) (
 al (.bool false) [])))))))))) (
 al (.bool false) []))
theorem VX(al:PT)(x0 x1 x2 x3 x4 x5 x6 x7 x8 x9 bE bO bT bL dR bW dF cr dB cI dz gQ fc fw fl fU jR:Int)(A0 A1 A2 A3 A4 A5 A6 A7 A8 A9 dX dA df fN gk gn fJ ff eQ fe fg fO:Nat→Int)(q0:Bool)(v0 v1 v2 v3 v4 v5 v6:V1)(p0:HP)(h:K1 al x0 x1 x2 x3 x4 x5 x6 x7 x8 x9 bE bO bT bL dR bW dF cr dB cI dz gQ fc fw fl fU jR A0 A1 A2 A3 A4 A5 A6 A7 A8 A9 dX dA df fN gk gn fJ ff eQ fe fg fO q0 v0 v1 v2 v3 v4 v5 v6 p0):aq auN 6 [wI A0 x0 x1 x2 A1 A2 v0 x3 v1 x4 x5 A3 v2 x6 A4 (!(x7==0)) x8 x9 bE A5 A6 A7 v3 bO v4 bT bL dR bW dF cr v5 v6,.int .i64 fU,.int .u8 jR,.bool q0] [oW v0 dB A8 A9,qu v1 cI dX dA df,pD v2 dz fN,bh v3 gQ gk,pC v4 fc gn fJ,bh v5 fw ff,s_ v6 fl eQ fe fg fO,p0] al:=
 s8 (C:=ais) Wc.ad8 Wc.Rx Wc.VO ⟨[x0,x1,x2,x3,x4,x5,x6,x7,x8,x9,bE,bO,bT,bL,dR,bW,dF,cr,dB,cI,dz,gQ,fc,fw,fl,fU,jR],[A0,A1,A2,A3,A4,A5,A6,A7,A8,A9,dX,dA,df,fN,gk,gn,fJ,ff,eQ,fe,fg,fO],[q0],[],[v0,v1,v2,v3,v4,v5,v6],[],[p0],[]⟩ 0 Tryz.func6 (by kernel_rfl) h
open Go.RX Go.Proofs
noncomputable def cxK:Ctx:={T:=TT,FT:=FT,br:=Vz.Rs}
open Go.RX Go.Proofs
set_option maxRecDepth 100000
def GV(al:PT):Prop:=
 Cl 20 [] [] fun x hs _=> ∃(v0 v1 v2 v3 v4 v5 v6:V1) (x0 x1 x2 x3 x4 x5 x6 x7 x8 x9 bE bO bT bL dR bW dF cr dB cI dz gQ fc fw fl:Int) (A0 A1 A2 A3 A4 A5 A6 A7 A8 A9 dX dA df fN gk gn fJ ff eQ fe fg fO:Nat→Int),∃p0:HP,x=wI A0 x0 x1 x2 A1 A2 v0 x3 v1 x4 x5 A3 v2 x6 A4 (!(x7==0)) x8 x9 bE A5 A6 A7 v3 bO v4 bT bL dR bW dF cr v5 v6∧hs=[qp v0 dB A8 A9,D_ v1 cI dX dA df,qt v2 dz fN,bq v3 gQ gk,qs v4 fc gn fJ,bq v5 fw ff,qo v6 fl eQ fe fg fO,p0]∧
 ∀_:Nat,Cl 9 [wI A0 x0 x1 x2 A1 A2 v0 x3 v1 x4 x5 A3 v2 x6 A4 (!(x7==0)) x8 x9 bE A5 A6 A7 v3 bO v4 bT bL dR bW dF cr v5 v6] [qp v0 dB A8 A9,D_ v1 cI dX dA df,qt v2 dz fN,bq v3 gQ gk,qs v4 fc gn fJ,bq v5 fw ff,qo v6 fl eQ fe fg fO,p0] fun x hs l=> ∃(v7:V1) (fU jR:Int) (iH:Nat→Int),x= .tuple #[v7.v,.int .i64 fU]∧hs=l++[bq v7 jR iH]∧
 Cl 17 [v7.v] [bq v7 jR iH] fun x hs l=> ∃(v8 v9 v10 v11 qY pP rU:V1) (kV jC oY nS im Cr uR rj rl y_ uS Nx GQ vR Df Ei K2 O_ K3 TW RC Ej AM Pa GR Ny:Int) (jW jX k_ n_ nj o_ q_ qP ri tc uQ vQ yZ zz yn zA y8 zB zC Cq y9 AL:Nat→Int),∃_:HP,x= .tuple #[wI jW kV jC oY jX k_ v8 nS v9 im Cr n_ v10 uR nj (!(rj==0)) rl y_ uS o_ q_ qP v11 Nx qY GQ vR Df Ei K2 O_ pP rU,.int .i64 Ny]∧hs=l++[qp v8 K3 ri tc,D_ v9 TW uQ vQ yZ,qt v10 RC zz,bq v11 Ej yn,qs qY AM zA y8,bq pP Pa zB,qo rU GR zC Cq y9 AL]∧
 ∀_:Nat,ax (((¬(fU=0))∨(¬(Ny=0)))∨(0≤jR)) (
 bt (¬(((¬(fU=0))∨(¬(Ny=0)))∨(jR<100))) (
 Cl 13 [wI jW kV jC oY jX k_ v8 nS v9 im Cr n_ v10 uR nj (!(rj==0)) rl y_ uS o_ q_ qP v11 Nx qY GQ vR Df Ei K2 O_ pP rU] [qp v8 K3 ri tc,D_ v9 TW uQ vQ yZ,qt v10 RC zz,bq v11 Ej yn,qs qY AM zA y8,bq pP Pa zB,qo rU GR zC Cq y9 AL,p0] fun x hs l=> ∃(pE:V1) (Nz:Int) (K4:Nat→Int),x=pE.v∧hs=l++[bq pE Nz K4]∧
 Cl 13 [(if(!(((!(fU==0))||(!(Ny==0)))||(decide (jR<100))))then wI A0 x0 x1 x2 A1 A2 v0 x3 v1 x4 x5 A3 v2 x6 A4 (!(x7==0)) x8 x9 bE A5 A6 A7 v3 bO v4 bT bL dR bW dF cr v5 v6 else undef)] [qp v0 dB A8 A9,D_ v1 cI dX dA df,qt v2 dz fN,bq v3 gQ gk,qs v4 fc gn fJ,bq v5 fw ff,qo v6 fl eQ fe fg fO,p0] fun x hs l=> ∃(rh:V1) (NA:Int) (Ik:Nat→Int),x=rh.v∧hs=l++[bq rh NA Ik]∧
 bt (dC (uv K4 Nz)=dC (uv Ik NA)) (
 Cl 10 [wI A0 x0 x1 x2 A1 A2 v0 x3 v1 x4 x5 A3 v2 x6 A4 (!(x7==0)) x8 x9 bE A5 A6 A7 v3 bO v4 bT bL dR bW dF cr v5 v6] [qp v0 dB A8 A9,D_ v1 cI dX dA df,qt v2 dz fN,bq v3 gQ gk,qs v4 fc gn fJ,bq v5 fw ff,qo v6 fl eQ fe fg fO,p0] fun x hs l=> ∃q0:Bool,x= .bool q0∧hs=l∧
 bt (¬(q0=true)) (
 al (.bool false) []) (
 Cl 17 [.slice none 0 0] [] fun x hs _=> ∃(pQ mJ tg v20 Ct vS tF:V1) (VR TX RD Ek RE NB RF TY K5 Il uU El K6 Im K7 NC VS TZ VT T1 VU T2 VV RG VW K8:Int) (GU I_ ND NF T5 Ja T6 T7 T8 ZM XY ZN ZO Pb Pc Pd Pe Pf ZP ZQ A67 A68:Nat→Int),∃_:HP,x= .tuple #[wI GU VR TX RD I_ ND pQ Ek mJ RE NB NF tg RF T5 (!(TY==0)) K5 Il uU Ja T6 T7 v20 El Ct K6 Im K7 NC VS TZ vS tF,.int .i64 K8]∧hs=[qp pQ VT T8 ZM,D_ mJ T1 XY ZN ZO,qt tg VU Pb,bq v20 T2 Pc,qs Ct VV Pd Pe,bq vS RG Pf,qo tF VW ZP ZQ A67 A68]∧
 ∀_:Nat,ax (0≤jR) (
 gS (jR - 1) ((
 ax (0≤(jR - 1)) (
 ax ((jR - 1)≤jR) (
 Cl 17 [(aF 1 v7.v 0 (ag (jR - 1)) none)] [bq v7 jR iH] fun x hs l=> ∃(wJ uz tf tG uT xj v30:V1) (T3 T4 xk Em Io NG B6 x88 ZR x90 x91 x92 x93 x94 x95 x96 x97 x98 x99 ait aiu aiv aiw aix aiy ad9:Int) (A69 A70 A71 A72 A73 A74 A75 A76 A77 A78 A79 A80 A81 A82 A83 A84 A85 A86 A87 A88 A89 A90:Nat→Int),∃_:HP,x= .tuple #[wI A69 T3 T4 xk A70 A71 wJ Em uz Io NG A72 tf B6 A73 (!(x88==0)) ZR x90 x91 A74 A75 A76 tG x92 uT x93 x94 x95 x96 x97 x98 xj v30,.int .i64 ad9]∧hs=l++[qp wJ x99 A77 A78,D_ uz ait A79 A80 A81,qt tf aiu A82,bq tG aiv A83,qs uT aiw A84 A85,bq xj aix A86,qo v30 aiy A87 A88 A89 A90]∧
 ∀_:Nat,Cl 9 [zv3 A0 x0 x1 x2 A1 A2 v0 x3 v1 A3 v2 x6 A4 (!(x7==0)) x8 x9 bE A5 A6 A7 v3 bO v4 bT bL dR bW dF cr v5 v6] [qp v0 dB A8 A9,D_ v1 cI dX dA df,qt v2 dz fN,bq v3 gQ gk,qs v4 fc gn fJ,bq v5 fw ff,qo v6 fl eQ fe fg fO,p0] fun x hs l=> ∃(NH:V1) (ad_ aiz:Int) (A91:Nat→Int),x= .tuple #[NH.v,.int .i64 ad_]∧hs=l++[bq NH aiz A91]∧
 bt (((K8=9)∧(ad9=9))∧(ad_=2)) (
 Cl 10 [zv3 A0 x0 x1 x2 A1 A2 v0 x3 v1 A3 v2 x6 A4 (!(x7==0)) x8 x9 bE A5 A6 A7 v3 bO v4 bT bL dR bW dF cr v5 v6] [qp v0 dB A8 A9,D_ v1 cI dX dA df,qt v2 dz fN,bq v3 gQ gk,qs v4 fc gn fJ,bq v5 fw ff,qo v6 fl eQ fe fg fO,p0] fun x hs l=> ∃q1:Bool,x= .bool q1∧hs=l∧
 al (.bool (!q1)) []) (
 al (.bool false) [])))))))) (
 al (.bool false) [])) (
 al (.bool false) []))
theorem RH(al:PT)(h:GV al):aq auN 7 [] [] al:=
 s8 (C:=cxK) [] [] ⟨0,0,0,0,0,0,0⟩ ⟨[],[],[],[],[],[],[],[]⟩ 0 Tryz.func7 (by kernel_rfl) h
open Go.RX Go.Proofs
set_option maxRecDepth 100000
set_option maxHeartbeats 4000000
def RI(al:PT)(x0 x1 x2 x3 x4 x5 x6 x7 x8 x9 bE bO bT bL dR bW dF cr dB cI dz gQ fc fw fl fU:Int)(A0 A1 A2 A3 A4 A5 A6 A7 A8 A9 dX dA df fN gk gn fJ ff eQ fe fg fO iH:Nat→Int)(_ v1 v2 v3 v4 v5 v6 v7:V1)(b0 b1:Nat)(p0:HP):Prop:=
 ∀_ _:Nat,ax (0≤x0) (
 lp (x0+32) (
 ∀(v8:V1) (_:Nat),Cl 21 [pp b0,.int .u64 x1,.int .i64 8] [dt b0 v8,bq v8 (x0+32) (bX A0 (ag x0) 32 A1)] fun x hs _=> ∃(v9:V1) (jR kV:Int) (jW:Nat→Int) (_:Bool),x= .int .u64 jR∧hs=[dt b0 v9,bq v9 kV jW]∧
 ∀b5 _ _ _:Nat,Cl 21 [pp b0,.int .u64 (ae .u64 x2),.int .i64 1] [dt b0 v9,bq v9 kV jW] fun x hs _=> ∃(v10:V1) (jC oY:Int) (jX:Nat→Int) (_:Bool),x= .int .u64 jC∧hs=[dt b0 v10,bq v10 oY jX]∧
 Cl 21 [pp b0,.int .u64 (ae .u64 x3),.int .i64 1] [dt b0 v10,bq v10 oY jX] fun x hs _=> ∃(v11:V1) (nS im:Int) (k_:Nat→Int) (_:Bool),x= .int .u64 nS∧hs=[dt b0 v11,bq v11 im k_]∧
 ∀_:Nat,ax (0≤im) (
 lp (im+32) (
 ∀_:V1,ax (0≤(im+32)) (
 lp ((im+32)+32) (
 ∀pP:V1,ax (0≤cI) (
 Cl 21 [pp b0,.int .u64 (ae .u64 cI),.int .i64 4] [dt b0 pP,bq pP ((im+32)+32) (bX (bX k_ (ag im) 32 A2) (ag (im+32)) 32 A3)] fun x hs _=> ∃(rU:V1) (Cr uR:Int) (n_:Nat→Int) (_:Bool),x= .int .u64 Cr∧hs=[dt b0 rU,bq rU uR n_]∧
 ∃(cH:Ext→Prop) (dp:Ext→Nat),(∃(pE:V1) (rj rl:Int) (nj:Nat→Int) (q4:Bool),rj=0∧pE=rU∧pE=rU∧rl=uR∧(∀j,j<(ag rl)→nj j=n_ j)∧cH ⟨[],[pE],[rj,rl],[nj],[q4],[],[]⟩)∧
 ∀(pE:V1) (rj rl:Int) (nj:Nat→Int) (q4:Bool),cH ⟨[],[pE],[rj,rl],[nj],[q4],[],[]⟩→
 bt (rj<cI) (
 ax (0≤rj) (
 ∀_ _:Nat,Cl 21 [pp b0,.int .u64 (ae .u64 (A9 (ag rj))),.int .i64 4] [dt b0 pE,bq pE rl nj] fun x hs _=> ∃(rh:V1) (y_ uS:Int) (o_:Nat→Int) (_:Bool),x= .int .u64 y_∧hs=[dt b0 rh,bq rh uS o_]∧
 ∀_:Nat,ax (0≤uS) (
 lp (uS+32) (
 ∀pQ:V1,gS (rj+1) ((
 ∃(VY:V1) (GX En:Int) (ZS:Nat→Int) (q4':Bool),GX=(rj+1)∧VY=pQ∧VY=pQ∧En=(uS+32)∧(∀j,j<(ag En)→ZS j=(bX o_ (ag uS) 32 (bY dX (ag (rj*32)))) j)∧cH ⟨[],[VY],[GX,En],[ZS],[q4'],[],[]⟩∧dp ⟨[],[VY],[GX,En],[ZS],[q4'],[],[]⟩<dp ⟨[],[pE],[rj,rl],[nj],[q4],[],[]⟩)))))) (
 Cl 21 [pp b0,.int .u64 (ae .u64 x4),.int .i64 4] [dt b0 pE,bq pE rl nj] fun x hs _=> ∃(rh:V1) (y_ uS:Int) (o_:Nat→Int) (_:Bool),x= .int .u64 y_∧hs=[dt b0 rh,bq rh uS o_]∧
 gS y_ ((
 ax (0≤dz) (
 Cl 21 [pp b0,.int .u64 (ae .u64 dz),.int .i64 4] [dt b0 rh,bq rh uS o_] fun x hs _=> ∃(pQ:V1) (Nx GQ:Int) (q_:Nat→Int) (_:Bool),x= .int .u64 Nx∧hs=[dt b0 pQ,bq pQ GQ q_]∧
 ∃(pT:Ext→Prop) (uV:Ext→Nat),(∃(mJ:V1) (vR Df:Int) (qP:Nat→Int) (q7:Bool),vR=0∧mJ=pQ∧mJ=pQ∧Df=GQ∧(∀j,j<(ag Df)→qP j=q_ j)∧pT ⟨[],[mJ],[vR,Df],[qP],[q7],[],[]⟩)∧
 ∀(mJ:V1) (vR Df:Int) (qP:Nat→Int) (q7:Bool),pT ⟨[],[mJ],[vR,Df],[qP],[q7],[],[]⟩→
 bt (vR<dz) (
 ax (0≤vR) (
 ∀Ip:Nat,Cl 102 [pp Ip,pp b5] [dt b0 mJ,bq mJ Df qP,ak Ip true ([.int .u8 (dA (ag vR)),.int .u8 (df (ag vR)),(cc (fN (ag vR)))]),oX b5 b0,p0] fun x hs _=> ∃(tg:V1) (Ei:Int) (ri:Nat→Int) (_:Bool),x= .tuple #[]∧hs=[dt b0 tg,bq tg Ei ri,ak Ip true ([.int .u8 (dA (ag vR)),.int .u8 (df (ag vR)),(cc (fN (ag vR)))]),oX b5 b0,p0]∧
 gS (vR+1) ((
 ∃(Eo:V1) (ZT VZ:Int) (ZU:Nat→Int) (q7':Bool),ZT=(vR+1)∧Eo=tg∧Eo=tg∧VZ=Ei∧(∀j,j<(ag VZ)→ZU j=ri j)∧pT ⟨[],[Eo],[ZT,VZ],[ZU],[q7'],[],[]⟩∧uV ⟨[],[Eo],[ZT,VZ],[ZU],[q7'],[],[]⟩<uV ⟨[],[mJ],[vR,Df],[qP],[q7],[],[]⟩)))) (
 ∀_ _ _:Nat,Cl 21 [pp b0,.int .u64 (ae .u64 x5),.int .i64 1] [dt b0 mJ,bq mJ Df qP] fun x hs _=> ∃(tg:V1) (Ei K2:Int) (ri:Nat→Int) (_:Bool),x= .int .u64 Ei∧hs=[dt b0 tg,bq tg K2 ri]∧
 Cl 21 [pp b0,.int .u64 (ae .u64 x6),.int .i64 1] [dt b0 tg,bq tg K2 ri] fun x hs _=> ∃(v20:V1) (O_ K3:Int) (tc:Nat→Int) (_:Bool),x= .int .u64 O_∧hs=[dt b0 v20,bq v20 K3 tc]∧
 ax (0≤K3) (
 lp (K3+8) (
 ∀Ct:V1,ax (0≤gQ) (
 Cl 21 [pp b0,.int .u64 (ae .u64 gQ),.int .i64 4] [dt b0 Ct,bq Ct (K3+8) (bX tc (ag K3) 8 A4)] fun x hs _=> ∃(vS:V1) (TW RC:Int) (uQ:Nat→Int) (_:Bool),x= .int .u64 TW∧hs=[dt b0 vS,bq vS RC uQ]∧
 ∃(mR:Ext→Prop) (qx:Ext→Nat),(∃(tF:V1) (Ej AM:Int) (vQ:Nat→Int) (Fu:Bool),Ej=0∧tF=vS∧tF=vS∧AM=RC∧(∀j,j<(ag AM)→vQ j=uQ j)∧mR ⟨[],[tF],[Ej,AM],[vQ],[Fu],[],[]⟩)∧
 ∀(tF:V1) (Ej AM:Int) (vQ:Nat→Int) (Fu:Bool),mR ⟨[],[tF],[Ej,AM],[vQ],[Fu],[],[]⟩→
 bt (Ej<gQ) (
 ax (0≤Ej) (
 ∀_:Nat,ax (0≤AM) (
 lp (AM+16) (
 ∀wJ:V1,gS (Ej+1) ((
 ∃(Ep:V1) (ZV V0:Int) (ZW:Nat→Int) (NI:Bool),ZV=(Ej+1)∧Ep=wJ∧Ep=wJ∧V0=(AM+16)∧(∀j,j<(ag V0)→ZW j=(bX vQ (ag AM) 16 (bY gk (ag (Ej*16)))) j)∧mR ⟨[],[Ep],[ZV,V0],[ZW],[NI],[],[]⟩∧qx ⟨[],[Ep],[ZV,V0],[ZW],[NI],[],[]⟩<qx ⟨[],[tF],[Ej,AM],[vQ],[Fu],[],[]⟩)))))) (
 ∀_:Nat,Cl 21 [pp b0,.int .u64 (ae .u64 x7),.int .i64 1] [dt b0 tF,bq tF AM vQ] fun x hs _=> ∃(wJ:V1) (Pa GR:Int) (yZ:Nat→Int) (_:Bool),x= .int .u64 Pa∧hs=[dt b0 wJ,bq wJ GR yZ]∧
 ax (0≤GR) (
 lp (GR+16) (
 ∀(uz:V1) (V3:Nat),Cl 58 [pp b0,.slice (some ⟨V3,0,none⟩) 1 1] [dt b0 uz,bq uz (GR+16) (bX yZ (ag GR) 16 A5),TU b1 A1 jR (ae .u8 jC) (ae .u8 nS) A2 A3 v1 y_ v2 (ae .u8 Ei) (ae .u8 O_) A4 v3 (ae .u8 Pa) A5 (!(x8==0)) x9 bE bO A6 A7 A8 v4 bT v5 bL dR bW dF cr dB v6 v7,I4 V3 b1] fun x hs _=> ∃(tf:V1) (Ny:Int) (zz:Nat→Int) (_:Bool),x= .tuple #[]∧hs=[dt b0 tf,bq tf Ny zz,TU b1 A1 jR (ae .u8 jC) (ae .u8 nS) A2 A3 v1 y_ v2 (ae .u8 Ei) (ae .u8 O_) A4 v3 (ae .u8 Pa) A5 (!(x8==0)) x9 bE bO A6 A7 A8 v4 bT v5 bL dR bW dF cr dB v6 v7,I4 V3 b1]∧
 ∀_:Nat,Cl 21 [pp b0,.int .u64 (ae .u64 x9),.int .i64 1] [dt b0 tf,bq tf Ny zz] fun x hs _=> ∃(tG:V1) (Nz NA:Int) (yn:Nat→Int) (_:Bool),x= .int .u64 Nz∧hs=[dt b0 tG,bq tG NA yn]∧
 ∀_ _:Nat,Cl 21 [pp b0,.int .u64 (ae .u64 bE),.int .i64 1] [dt b0 tG,bq tG NA yn] fun x hs _=> ∃(uT:V1) (VR TX:Int) (zA:Nat→Int) (_:Bool),x= .int .u64 VR∧hs=[dt b0 uT,bq uT TX zA]∧
 Cl 21 [pp b0,.int .u64 (ae .u64 bO),.int .i64 1] [dt b0 uT,bq uT TX zA] fun x hs _=> ∃(xj:V1) (RD Ek:Int) (y8:Nat→Int) (_:Bool),x= .int .u64 RD∧hs=[dt b0 xj,bq xj Ek y8]∧
 ∀_:Nat,ax (0≤Ek) (
 lp (Ek+32) (
 ∀_:V1,ax (0≤(Ek+32)) (
 lp ((Ek+32)+32) (
 ∀_:V1,ax (0≤((Ek+32)+32)) (
 ax ((((Ek+32)+32)+32)≤140737488355328) (
 ∀XZ:V1,ax (0≤fc) (
 Cl 21 [pp b0,.int .u64 (ae .u64 fc),.int .i64 4] [dt b0 XZ,bq XZ (((Ek+32)+32)+32) (bX (bX (bX y8 (ag Ek) 32 A6) (ag (Ek+32)) 32 A7) (ag ((Ek+32)+32)) 32 A8)] fun x hs _=> ∃(V4:V1) (RE NB:Int) (zB:Nat→Int) (_:Bool),x= .int .u64 RE∧hs=[dt b0 V4,bq V4 NB zB]∧
 ax (0≤NB) (
 lp (NB+fc) (
 ∀T9:V1,gS (bT+1) ((
 Cl 21 [pp b0,.int .u64 (ae .u64 (bT+1)),.int .i64 1] [dt b0 T9,bq T9 (NB+fc) (bX zB (ag NB) (ag fc) gn)] fun x hs _=> ∃(V5:V1) (RF TY:Int) (zC:Nat→Int) (_:Bool),x= .int .u64 RF∧hs=[dt b0 V5,bq V5 TY zC]∧
 gS RF ((
 gS (RF - 1) ((
 ax (0≤fw) (
 Cl 21 [pp b0,.int .u64 (ae .u64 fw),.int .i64 4] [dt b0 V5,bq V5 TY zC] fun x hs _=> ∃(T_:V1) (K5 Il:Int) (Cq:Nat→Int) (_:Bool),x= .int .u64 K5∧hs=[dt b0 T_,bq T_ Il Cq]∧
 ∃(rX:Ext→Prop) (yp:Ext→Nat),(∃(Jb:V1) (uU El:Int) (y9:Nat→Int) (RJ:Bool),uU=0∧Jb=T_∧Jb=T_∧El=Il∧(∀j,j<(ag El)→y9 j=Cq j)∧rX ⟨[],[Jb],[uU,El],[y9],[RJ],[],[]⟩)∧
 ∀(Jb:V1) (uU El:Int) (y9:Nat→Int) (RJ:Bool),rX ⟨[],[Jb],[uU,El],[y9],[RJ],[],[]⟩→
 bt (uU<fw) (
 ax (0≤uU) (
 ∀_ _ _:Nat,Cl 21 [pp b0,.int .u64 (ae .u64 (fJ (ag uU))),.int .i64 1] [dt b0 Jb,bq Jb El y9] fun x hs _=> ∃(Iq:V1) (K6 Im:Int) (AL:Nat→Int) (_:Bool),x= .int .u64 K6∧hs=[dt b0 Iq,bq Iq Im AL]∧
 Cl 21 [pp b0,.int .u64 (ae .u64 (ff (ag uU))),.int .i64 1] [dt b0 Iq,bq Iq Im AL] fun x hs _=> ∃(GY:V1) (K7 NC:Int) (K4:Nat→Int) (_:Bool),x= .int .u64 K7∧hs=[dt b0 GY,bq GY NC K4]∧
 gS (uU+1) ((
 ∃(V6:V1) (Er V7:Int) (ZX:Nat→Int) (aea:Bool),Er=(uU+1)∧V6=GY∧V6=GY∧V7=NC∧(∀j,j<(ag V7)→ZX j=K4 j)∧rX ⟨[],[V6],[Er,V7],[ZX],[aea],[],[]⟩∧yp ⟨[],[V6],[Er,V7],[ZX],[aea],[],[]⟩<yp ⟨[],[Jb],[uU,El],[y9],[RJ],[],[]⟩)))) (
 ∀_:Nat,Cl 21 [pp b0,.int .u64 bL,.int .i64 8] [dt b0 Jb,bq Jb El y9] fun x hs _=> ∃(Iq:V1) (K6 Im:Int) (AL:Nat→Int) (_:Bool),x= .int .u64 K6∧hs=[dt b0 Iq,bq Iq Im AL]∧
 Cl 21 [pp b0,.int .u64 dR,.int .i64 8] [dt b0 Iq,bq Iq Im AL] fun x hs _=> ∃(GY:V1) (K7 NC:Int) (K4:Nat→Int) (_:Bool),x= .int .u64 K7∧hs=[dt b0 GY,bq GY NC K4]∧
 Cl 21 [pp b0,.int .u64 bW,.int .i64 8] [dt b0 GY,bq GY NC K4] fun x hs _=> ∃(Ua:V1) (VS TZ:Int) (Ik:Nat→Int) (_:Bool),x= .int .u64 VS∧hs=[dt b0 Ua,bq Ua TZ Ik]∧
 Cl 21 [pp b0,.int .u64 dF,.int .i64 8] [dt b0 Ua,bq Ua TZ Ik] fun x hs _=> ∃(NJ:V1) (VT T1:Int) (GU:Nat→Int) (_:Bool),x= .int .u64 VT∧hs=[dt b0 NJ,bq NJ T1 GU]∧
 Cl 21 [pp b0,.int .u64 cr,.int .i64 8] [dt b0 NJ,bq NJ T1 GU] fun x hs _=> ∃(RK:V1) (VU T2:Int) (I_:Nat→Int) (_:Bool),x= .int .u64 VU∧hs=[dt b0 RK,bq RK T2 I_]∧
 ∀_:Nat,Cl 21 [pp b0,.int .u64 (ae .u64 dB),.int .i64 4] [dt b0 RK,bq RK T2 I_] fun x hs _=> ∃(Ub:V1) (VV RG:Int) (ND:Nat→Int) (_:Bool),x= .int .u64 VV∧hs=[dt b0 Ub,bq Ub RG ND]∧
 ax (0≤fl) (
 Cl 21 [pp b0,.int .u64 (ae .u64 fl),.int .i64 4] [dt b0 Ub,bq Ub RG ND] fun x hs _=> ∃(X0:V1) (VW K8:Int) (NF:Nat→Int) (_:Bool),x= .int .u64 VW∧hs=[dt b0 X0,bq X0 K8 NF]∧
 ax (0≤K8) (
 lp (K8+fl) (
 ∀ZY:V1,ax (0≤fU) (
 Cl 21 [pp b0,.int .u64 (ae .u64 fU),.int .i64 4] [dt b0 ZY,bq ZY (K8+fl) (bX NF (ag K8) (ag fl) eQ)] fun x hs _=> ∃(v46:V1) (T3 T4:Int) (T5:Nat→Int) (_:Bool),x= .int .u64 T3∧hs=[dt b0 v46,bq v46 T4 T5]∧
 ∃(AN:Ext→Prop) (GZ:Ext→Nat),(∃(Cu:V1) (xk Em:Int) (Ja:Nat→Int) (X1:Bool),xk=0∧Cu=v46∧Cu=v46∧Em=T4∧(∀j,j<(ag Em)→Ja j=T5 j)∧AN ⟨[],[Cu],[xk,Em],[Ja],[X1],[],[]⟩)∧
 ∀(Cu:V1) (xk Em:Int) (Ja:Nat→Int) (X1:Bool),AN ⟨[],[Cu],[xk,Em],[Ja],[X1],[],[]⟩→
 bt (xk<fU) (
 ax (0≤xk) (
 ∀Pg:Nat,ax (0≤Em) (
 lp (Em+16) (
 ∀(Ph:V1) (_:Nat),Cl 21 [pp b0,.int .u64 (ae .u64 (fg (ag xk))),.int .i64 1] [dt b0 Ph,bq Ph (Em+16) (bX Ja (ag Em) 16 (bY fe (ag (xk*16))))] fun x hs _=> ∃(Jc:V1) (Io NG:Int) (T6:Nat→Int) (_:Bool),x= .int .u64 Io∧hs=[dt b0 Jc,bq Jc NG T6]∧
 ∀b23:Nat,Cl 58 [pp b0,.slice (some ⟨b23,0,none⟩) 1 1] [dt b0 Jc,bq Jc NG T6,Gq Pg (bY fe (ag (xk*16))) (ae .u8 Io) (!((fO (ag xk))==0)) (iH (ag xk)),ak b23 true ([.pointer (some ⟨Pg,17,none⟩)])] fun x hs _=> ∃(Jd:V1) (B6:Int) (T7:Nat→Int) (_:Bool),x= .tuple #[]∧hs=[dt b0 Jd,bq Jd B6 T7,Gq Pg (bY fe (ag (xk*16))) (ae .u8 Io) (!((fO (ag xk))==0)) (iH (ag xk)),ak b23 true ([.pointer (some ⟨Pg,17,none⟩)])]∧
 ∀_:Nat,Cl 21 [pp b0,.int .u64 (iH (ag xk)),.int .i64 8] [dt b0 Jd,bq Jd B6 T7] fun x hs _=> ∃(Je:V1) (x88 ZR:Int) (T8:Nat→Int) (_:Bool),x= .int .u64 x88∧hs=[dt b0 Je,bq Je ZR T8]∧
 gS (xk+1) ((
 ∃(Es:V1) (ZZ V8:Int) (Z0:Nat→Int) (aec:Bool),ZZ=(xk+1)∧Es=Je∧Es=Je∧V8=ZR∧(∀j,j<(ag V8)→Z0 j=T8 j)∧AN ⟨[],[Es],[ZZ,V8],[Z0],[aec],[],[]⟩∧GZ ⟨[],[Es],[ZZ,V8],[Z0],[aec],[],[]⟩<GZ ⟨[],[Cu],[xk,Em],[Ja],[X1],[],[]⟩)))))) (
 al (.tuple #[]) [dt b0 Cu,bq Cu Em Ja]))))))))))))))))))))))))))))))))))))))))
theorem Z1(al:PT)(x0 x1 x2 x3 x4 x5 x6 x7 x8 x9 bE bO bT bL dR bW dF cr dB cI dz gQ fc fw fl fU:Int)(A0 A1 A2 A3 A4 A5 A6 A7 A8 A9 dX dA df fN gk gn fJ ff eQ fe fg fO iH:Nat→Int)(v0 v1 v2 v3 v4 v5 v6 v7:V1)(b0 b1:Nat)(p0:HP)(h:RI al x0 x1 x2 x3 x4 x5 x6 x7 x8 x9 bE bO bT bL dR bW dF cr dB cI dz gQ fc fw fl fU A0 A1 A2 A3 A4 A5 A6 A7 A8 A9 dX dA df fN gk gn fJ ff eQ fe fg fO iH v0 v1 v2 v3 v4 v5 v6 v7 b0 b1 p0):aq auN 32 [pp b0,pp b1] [dt b0 v0,bq v0 x0 A0,TU b1 A1 x1 x2 x3 A2 A3 v1 x4 v2 x5 x6 A4 v3 x7 A5 (!(x8==0)) x9 bE bO A6 A7 A8 v4 bT v5 bL dR bW dF cr dB v6 v7,oW v1 cI A9 dX,qu v2 dz dA df fN,pD v3 gQ gk,bh v4 fc gn,pC v5 fw fJ ff,bh v6 fl eQ,s_ v7 fU fe fg fO iH,p0] al:=
 s8 (C:=ahZ) Vd.stA Vd.hpO Vd.YZ ⟨[x0,x1,x2,x3,x4,x5,x6,x7,x8,x9,bE,bO,bT,bL,dR,bW,dF,cr,dB,cI,dz,gQ,fc,fw,fl,fU],[A0,A1,A2,A3,A4,A5,A6,A7,A8,A9,dX,dA,df,fN,gk,gn,fJ,ff,eQ,fe,fg,fO,iH],[],[b0,b1],[v0,v1,v2,v3,v4,v5,v6,v7],[],[p0],[]⟩ 2 Tryz.func32 (by kernel_rfl) h
open Go.RX Go.Proofs
set_option maxRecDepth 100000
def RL(al:PT)(x0 x1 x2 x3:Int)(A0 A1 A2 A3 A4 A5 A6 A7 A8 A9 dX dA df fN gk gn fJ ff eQ fe fg:Nat→Int)(v0 v1:V1)(b0 b1 b2:Nat)(p0:HP):Prop:=
 ∀_ _:Nat,Cl 21 [pp b0,.int .u64 (ae .u64 x1),.int .i64 1] [dt b0 v0,bq v0 x0 A0] fun x hs _=> ∃(v2:V1) (x4 x5:Int) (fO:Nat→Int) (_:Bool),x= .int .u64 x4∧hs=[dt b0 v2,bq v2 x5 fO]∧
 Cl 21 [pp b0,.int .u64 (ae .u64 x2),.int .i64 1] [dt b0 v2,bq v2 x5 fO] fun x hs _=> ∃(v3:V1) (x6 x7:Int) (iH:Nat→Int) (_:Bool),x= .int .u64 x6∧hs=[dt b0 v3,bq v3 x7 iH]∧
 ax (0≤x3) (
 Cl 21 [pp b0,.int .u64 (ae .u64 x3),.int .i64 4] [dt b0 v3,bq v3 x7 iH] fun x hs _=> ∃(v4:V1) (x8 x9:Int) (jW:Nat→Int) (_:Bool),x= .int .u64 x8∧hs=[dt b0 v4,bq v4 x9 jW]∧
 ∃(cH:Ext→Prop) (dp:Ext→Nat),(∃(v5:V1) (bE bO:Int) (jX:Nat→Int) (q3:Bool),bE=0∧v5=v4∧v5=v4∧bO=x9∧(∀j,j<(ag bO)→jX j=jW j)∧cH ⟨[],[v5],[bE,bO],[jX],[q3],[],[]⟩)∧
 ∀(v5:V1) (bE bO:Int) (jX:Nat→Int) (q3:Bool),cH ⟨[],[v5],[bE,bO],[jX],[q3],[],[]⟩→
 bt (bE<x3) (
 ax (0≤bE) (
 ∀b5:Nat,Cl 105 [pp b0,pp b5] [dt b0 v5,bq v5 bO jX,Y2 b5 (bY A1 (ag (bE*32))) (bY A2 (ag (bE*32))) (bY A3 (ag (bE*32))) (bY A4 (ag (bE*32))) (!((A5 (ag bE))==0)) (!((A6 (ag bE))==0)) (!((A7 (ag bE))==0)) (!((A8 (ag bE))==0)) (bY A9 (ag (bE*32))) (dX (ag bE)) (bY dA (ag (bE*32))) (df (ag bE)) (fN (ag bE)) gk bE (bY gn (ag (bE*32))) (bY fJ (ag (bE*32))) (!((ff (ag bE))==0)) (eQ (ag bE)) (!((fe (ag bE))==0)) (!((fg (ag bE))==0)),p0] fun x hs _=> ∃(v6:V1) (bT:Int) (k_:Nat→Int) (_:Bool),x= .tuple #[]∧hs=[dt b0 v6,bq v6 bT k_,Y2 b5 (bY A1 (ag (bE*32))) (bY A2 (ag (bE*32))) (bY A3 (ag (bE*32))) (bY A4 (ag (bE*32))) (!((A5 (ag bE))==0)) (!((A6 (ag bE))==0)) (!((A7 (ag bE))==0)) (!((A8 (ag bE))==0)) (bY A9 (ag (bE*32))) (dX (ag bE)) (bY dA (ag (bE*32))) (df (ag bE)) (fN (ag bE)) gk bE (bY gn (ag (bE*32))) (bY fJ (ag (bE*32))) (!((ff (ag bE))==0)) (eQ (ag bE)) (!((fe (ag bE))==0)) (!((fg (ag bE))==0)),p0]∧
 gS (bE+1) ((
 ∃(Kr:V1) (zN qU:Int) (AO:Nat→Int) (q3':Bool),zN=(bE+1)∧Kr=v6∧Kr=v6∧qU=bT∧(∀j,j<(ag qU)→AO j=k_ j)∧cH ⟨[],[Kr],[zN,qU],[AO],[q3'],[],[]⟩∧dp ⟨[],[Kr],[zN,qU],[AO],[q3'],[],[]⟩<dp ⟨[],[v5],[bE,bO],[jX],[q3],[],[]⟩)))) (
 al (.tuple #[]) [dt b0 v5,bq v5 bO jX,ak b1 true ([.int .u8 (ae .u8 x4),.int .u8 (ae .u8 x6),v1.v]),oX b2 b0,Cp v1 x3 A1 A2 A3 A4 A5 A6 A7 A8 A9 dX dA df fN gk gn fJ ff eQ fe fg,p0]))
theorem Z2(al:PT)(x0 x1 x2 x3:Int)(A0 A1 A2 A3 A4 A5 A6 A7 A8 A9 dX dA df fN gk gn fJ ff eQ fe fg:Nat→Int)(v0 v1:V1)(b0 b1 b2:Nat)(p0:HP)(h:RL al x0 x1 x2 x3 A0 A1 A2 A3 A4 A5 A6 A7 A8 A9 dX dA df fN gk gn fJ ff eQ fe fg v0 v1 b0 b1 b2 p0):aq auN 102 [pp b1,pp b2] [dt b0 v0,bq v0 x0 A0,ak b1 true ([.int .u8 x1,.int .u8 x2,v1.v]),oX b2 b0,Cp v1 x3 A1 A2 A3 A4 A5 A6 A7 A8 A9 dX dA df fN gk gn fJ ff eQ fe fg,p0] al:=
 s8 (C:=ahX) Ve.QC Ve.hpO Ve.YZ ⟨[x0,x1,x2,x3],[A0,A1,A2,A3,A4,A5,A6,A7,A8,A9,dX,dA,df,fN,gk,gn,fJ,ff,eQ,fe,fg],[],[b0,b1,b2],[v0,v1],[],[p0],[]⟩ 6 Tryz.func102 (by kernel_rfl) h
end Go.RX.Vb
