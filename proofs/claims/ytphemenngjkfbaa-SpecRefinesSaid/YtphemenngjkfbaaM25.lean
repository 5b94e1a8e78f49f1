/- SpecRefines. -/
import Derived.Test.YtphemenngjkfbaaM24
open Go.Proofs.Try renaming prog → agQ
open Int renaming toNat → ag
open List renaming append → agw, mem_singleton → agZ
namespace Go.RX.Ea
open Go.RX Go.Proofs
set_option maxRecDepth 100000
def OS(P:Program)(aq:Value→List HP→Prop)(x0:Int)(A0 A1 A2 A3:Nat→Int)(_:V1):Prop:=
 ∀_:Nat,Cl P 34 [] [] fun x hs _=>x= .bool true∧hs=[]∧
 aE (0≤x0) (
 aK (300<x0) (
 aq (.bool true) []) (
 Cl P 59 [] [] fun x hs _=> ∃(b1 b2 b3 b4 b5 b6 b7 b8 b9:Nat) (v1 v2:V1) (x1 x2:Int),∃p0:HP,∃p1:HP,∃p2:HP,∃p3:HP,∃p4:HP,∃p5:HP,x= .pp b1∧hs=[Fw b1 x1 b2 b3 b4 b5 v1.v x2 b6 b7 v2.v b8 b9 false,p0,p1,p2,p3,p4,p5]∧
 ∃(IU:Ext→Prop) (OT:Ext→Nat),(∃(v3 v4:V1) (x3 x4 x5:Int),∃p6:HP,∃p7:HP,∃p8:HP,∃p9:HP,∃nC:HP,∃qB:HP,x5=0∧x3=x1∧v3=v1∧x4=x2∧v4=v2∧p6=p0∧p7=p1∧p8=p2∧p9=p3∧nC=p4∧qB=p5∧IU ⟨[],[v3,v4],[x3,x4,x5],[],[],[p6,p7,p8,p9,nC,qB],[]⟩)∧
 ∀(v3 v4:V1) (x3 x4 x5:Int),∀p6:HP,∀p7:HP,∀p8:HP,∀p9:HP,∀nC:HP,∀qB:HP,IU ⟨[],[v3,v4],[x3,x4,x5],[],[],[p6,p7,p8,p9,nC,qB],[]⟩→
 aK (x5<x0) (
 aE (0≤x5) (
 ∀_:Nat,Cl P 60 [.pp b1,.agg #[.int .u8 (A0 (ag x5)),.int .u8 (A1 (ag x5)),.int .u16 (A2 (ag x5)),.int .u8 (A3 (ag x5))]] [Fw b1 x3 b2 b3 b4 b5 v3.v x4 b6 b7 v4.v b8 b9 false,p6,p7,p8,p9,nC,qB] fun x hs _=> ∃(v5 v6:V1) (x6 x7:Int),∃uo:HP,∃wu:HP,∃qH:HP,∃ru:HP,∃zl:HP,∃zm:HP,x= .tuple #[]∧hs=[Fw b1 x6 b2 b3 b4 b5 v5.v x7 b6 b7 v6.v b8 b9 false,uo,wu,qH,ru,zl,zm]∧
 sL (x5+1) ((
 ∃(Vy MC:V1) (OU AO OV:Int),∃Vz:HP,∃VA:HP,∃VB:HP,∃VD:HP,∃IV:HP,∃AP:HP,OV=(x5+1)∧OU=x6∧Vy=v5∧AO=x7∧MC=v6∧Vz=uo∧VA=wu∧VB=qH∧VD=ru∧IV=zl∧AP=zm∧IU ⟨[],[Vy,MC],[OU,AO,OV],[],[],[Vz,VA,VB,VD,IV,AP],[]⟩∧OT ⟨[],[Vy,MC],[OU,AO,OV],[],[],[Vz,VA,VB,VD,IV,AP],[]⟩<OT ⟨[],[v3,v4],[x3,x4,x5],[],[],[p6,p7,p8,p9,nC,qB],[]⟩)))) (
 Cl P 61 [.pp b1] [Fw b1 x3 b2 b3 b4 b5 v3.v x4 b6 b7 v4.v b8 b9 false,p6,p7,p8,p9,nC,qB] fun x hs _=> ∃(v5 v6:V1) (x6 x7 x8:Int) (A4 A5 A6 A7 A8 A9 bU cz dT dU:Nat→Int),∃uo:HP,x= .bool true∧hs=[Fw b1 x6 b2 b3 b4 b5 v5.v x7 b6 b7 v6.v b8 b9 false,aC true 76 56 v6.v (ag x8) (aT (ag x8) [ax .u8 1 A4,ax .u8 1 A5,ax .u8 1 A6,ax .u64 1 A7,ax .u8 16 A8,ax .u8 1 A9,ax .u8 1 bU,ax .u8 1 cz,ax .u8 32 dT,ax .u8 1 dU]),uo]∧
 ∀_:Nat,Cl P 35 [.agg (.int .u8 2::(.int .u8 2::(agw (ak .u8 6 (fun _=>0)) ([])))).toArray] [] fun x hs _=> ∃lV:Nat,∃wu:HP,x= .pp lV∧hs=[wu]∧
 aE (0≤x8) (
 ∃(VE:Ext→Prop) (Yi:Ext→Nat),(∃x9:Int,∃qH:HP,x9=0∧qH=wu∧VE ⟨[],[],[x9],[],[],[qH],[]⟩)∧
 ∀x9:Int,∀qH:HP,VE ⟨[],[],[x9],[],[],[qH],[]⟩→
 aK (x9<x8) (
 aE (0≤x9) (
 ∀_:Nat,Cl P 36 [.pp lV,.agg (.int .u8 (A4 (ag x9))::(.int .u8 (A5 (ag x9))::(.int .u8 (A6 (ag x9))::(.int .u64 (A7 (ag x9))::(agw (ak .u8 16 (aJ A8 (ag (x9*16)))) (.int .u8 (A9 (ag x9))::(.int .u8 (bU (ag x9))::(.int .u8 (cz (ag x9))::(agw (ak .u8 32 (aJ dT (ag (x9*32)))) ([.int .u8 (dU (ag x9))])))))))))).toArray] [qH] fun x hs _=> ∃aO:Int,∃ru:HP,x= .int .i64 aO∧hs=[ru]∧
 aK (¬(aO=0)) (
 aq (.bool false) []) (
 sL (x9+1) ((
 ∃nF:Int,∃AQ:HP,nF=(x9+1)∧AQ=ru∧VE ⟨[],[],[nF],[],[],[AQ],[]⟩∧Yi ⟨[],[],[nF],[],[],[AQ],[]⟩<Yi ⟨[],[],[x9],[],[],[qH],[]⟩))))) (
 ∃vE:Ext→Prop,(∀(w:World) (Fs:List HP),aU ([qH]++Fs) w→∃(mr qC:Nat) (aO:Int) (eS eD dX dY dQ:Nat→Int),∃ru:HP,aU ([ru,Yw lV eS mr qC aO,Kw mr eD dX,Gw qC dY dQ]++Fs) w∧vE ⟨[mr,qC],[],[aO],[eS,eD,dX,dY,dQ],[],[ru],[]⟩)∧
 (∀(mr qC:Nat) (aO:Int) (eS eD dX dY dQ:Nat→Int),∀ru:HP,vE ⟨[mr,qC],[],[aO],[eS,eD,dX,dY,dQ],[],[ru],[]⟩→
 ∀_:Nat,∃vE:Ext→Prop,(∀(w:World) (Fs:List HP),aU ([uo]++Fs) w→∃(v7:V1) (aQ:Int) (mA mB mo nE nB kq ku kv kx:Nat→Int),∃zl:HP,aU ([zl,Zw b9 mA 18 v7 mB,Rw v7 aQ mo nE nB kq ku kv kx]++Fs) w∧vE ⟨[],[v7],[aQ],[mA,mB,mo,nE,nB,kq,ku,kv,kx],[],[zl],[]⟩)∧
 (∀(v7:V1) (aQ:Int) (mA mB mo nE nB kq ku kv kx:Nat→Int),∀zl:HP,vE ⟨[],[v7],[aQ],[mA,mB,mo,nE,nB,kq,ku,kv,kx],[],[zl],[]⟩→
 ∃OW:Ext→Prop,(
 (∀_ BX:Nat,∃IW:Nat,IW=BX∧IW=BX∧OW ⟨[IW],[],[],[],[],[],[]⟩)∧
 (∀EL _:Nat,∃IW:Nat,IW=EL∧IW=EL∧OW ⟨[IW],[],[],[],[],[],[]⟩))∧
 ∀EL:Nat,OW ⟨[EL],[],[],[],[],[],[]⟩→
 ∀_ _ _:Nat,∃vE:Ext→Prop,(∀(w:World) (Fs:List HP),aU ([ru,Gw qC dY dQ]++Fs) w→∃(Cj yX:Nat) (v8:V1) (aM aR aY bV cN cY cQ cP:Int) (kK kL ky kz jL kA kB kC im:Nat→Int),∃zm:HP,aU ([zm,Gw qC (aj dY 18 1) (aj dQ 18 ((Cj:Nat)+1:Int)),Vw Cj aM kK (!(aR==0)) aY bV cN cY cQ yX v8.v,Jw yX kL,Rw v8 cP ky kz jL kA kB kC im]++Fs) w∧vE ⟨[Cj,yX],[v8],[aM,aR,aY,bV,cN,cY,cQ,cP],[kK,kL,ky,kz,jL,kA,kB,kC,im],[],[zm],[]⟩)∧
 (∀(Cj yX:Nat) (v8:V1) (aM aR aY bV cN cY cQ cP:Int) (kK kL ky kz jL kA kB kC im:Nat→Int),∀zm:HP,vE ⟨[Cj,yX],[v8],[aM,aR,aY,bV,cN,cY,cQ,cP],[kK,kL,ky,kz,jL,kA,kB,kC,im],[],[zm],[]⟩→
 ∀(_ _:Nat) (_:Loop),aE (0≤cP) (
 ∃(OX:Ext→Prop) (Ud:Ext→Nat),(∃aX:Int,aX=0∧aX=0∧OX ⟨[],[],[aX],[],[],[],[]⟩)∧
 ∀aX:Int,OX ⟨[],[],[aX],[],[],[],[]⟩→
 aK (aX<cP) (
 aE (0≤aX) (
 ∀_ _:Nat,aE (0≤aQ) (
 aE ((aQ≤aX)∨(0≤aX)) (
 aE ((aQ≤aX)∨(aX<aQ)) (
 aE ((aQ≤aX)∨(0≤aX)) (
 aE ((aQ≤aX)∨(aX<aQ)) (
 aK ((aQ≤aX)∨(¬((∀j,j<16→(aJ ky (ag (aX*16))) j=(aJ mo (ag (aX*16))) j)∧(((kz (ag aX))=(nE (ag aX)))∧(((((jL (ag aX))≠0)→((nB (ag aX))≠0))∧(¬((jL (ag aX))≠0)→(¬((nB (ag aX))≠0))))∧(((kA (ag aX))=(kq (ag aX)))∧(((kB (ag aX))=(ku (ag aX)))∧(((kC (ag aX))=(kv (ag aX)))∧((im (ag aX))=(kx (ag aX))))))))))) (
 aq (.bool false) []) (
 sL (aX+1) ((
 ∃SA:Int,SA=(aX+1)∧SA=(aX+1)∧OX ⟨[],[],[SA],[],[],[],[]⟩∧Ud ⟨[],[],[SA],[],[],[],[]⟩<Ud ⟨[],[],[aX],[],[],[],[]⟩)))))))))) (
 aE (0≤aQ) (
 ∃Yj:Ext→Prop,(∀(w:World) (Fs:List HP),aU ([zl,zm,Gw qC (aj dY 18 1) (aj dQ 18 ((Cj:Nat)+1:Int)),Vw Cj aM kK (!(aR==0)) aY bV cN cY cQ yX v8.v,Jw yX kL,Rw v8 cP ky kz jL kA kB kC im,Zw b9 mA 18 v7 mB,Rw v7 aQ mo nE nB kq ku kv kx]++Fs) w→∃AR:HP,∃Cm:HP,aU ([AR,Cm,Gw qC dY dQ]++Fs) w∧Yj ⟨[],[],[],[],[],[AR,Cm],[]⟩)∧
 (∀AR:HP,∀Cm:HP,Yj ⟨[],[],[],[],[],[AR,Cm],[]⟩→
 aK (¬(aX=aQ)) (
 aq (.bool false) []) (
 ∀_:Nat,∃OY:Ext→Prop,(∀(w:World) (Fs:List HP),aU ([AR]++Fs) w→∃(v9:V1) (bz:Int) (lU lB lh kE ll jd kM kN kg:Nat→Int),∃GG:HP,aU ([GG,Zw b9 lU 84 v9 lB,Rw v9 bz lh kE ll jd kM kN kg]++Fs) w∧OY ⟨[],[v9],[bz],[lU,lB,lh,kE,ll,jd,kM,kN,kg],[],[GG],[]⟩)∧
 (∀(v9:V1) (bz:Int) (lU lB lh kE ll jd kM kN kg:Nat→Int),∀GG:HP,OY ⟨[],[v9],[bz],[lU,lB,lh,kE,ll,jd,kM,kN,kg],[],[GG],[]⟩→
 ∃OZ:Ext→Prop,(
 (∀_ Ue:Nat,∃IX:Nat,IX=Ue∧IX=Ue∧OZ ⟨[IX],[],[],[],[],[],[]⟩)∧
 (∀Rl _:Nat,∃IX:Nat,IX=Rl∧IX=Rl∧OZ ⟨[IX],[],[],[],[],[],[]⟩))∧
 ∀Rl:Nat,OZ ⟨[Rl],[],[],[],[],[],[]⟩→
 ∀_ _ _:Nat,∃OY:Ext→Prop,(∀(w:World) (Fs:List HP),aU ([Cm,Gw qC dY dQ]++Fs) w→∃(O0 O1:Nat) (v10:V1) (bx bM bH bL bX bZ bS fU:Int) (kj ln pC tB sS tC tD tE tF:Nat→Int),∃GH:HP,aU ([GH,Gw qC (aj dY 84 1) (aj dQ 84 ((O0:Nat)+1:Int)),Vw O0 bx kj (!(bM==0)) bH bL bX bZ bS O1 v10.v,Jw O1 ln,Rw v10 fU pC tB sS tC tD tE tF]++Fs) w∧OY ⟨[O0,O1],[v10],[bx,bM,bH,bL,bX,bZ,bS,fU],[kj,ln,pC,tB,sS,tC,tD,tE,tF],[],[GH],[]⟩)∧
 (∀(O0 O1:Nat) (v10:V1) (bx bM bH bL bX bZ bS fU:Int) (kj ln pC tB sS tC tD tE tF:Nat→Int),∀GH:HP,OY ⟨[O0,O1],[v10],[bx,bM,bH,bL,bX,bZ,bS,fU],[kj,ln,pC,tB,sS,tC,tD,tE,tF],[],[GH],[]⟩→
 ∀(_ _:Nat) (_:Loop),aE (0≤fU) (
 ∃(O2:Ext→Prop) (Uf:Ext→Nat),(∃cE:Int,cE=0∧cE=0∧O2 ⟨[],[],[cE],[],[],[],[]⟩)∧
 ∀cE:Int,O2 ⟨[],[],[cE],[],[],[],[]⟩→
 aK (cE<fU) (
 aE (0≤cE) (
 ∀_ _:Nat,aE (0≤bz) (
 aE ((bz≤cE)∨(0≤cE)) (
 aE ((bz≤cE)∨(cE<bz)) (
 aE ((bz≤cE)∨(0≤cE)) (
 aE ((bz≤cE)∨(cE<bz)) (
 aK ((bz≤cE)∨(¬((∀j,j<16→(aJ pC (ag (cE*16))) j=(aJ lh (ag (cE*16))) j)∧(((tB (ag cE))=(kE (ag cE)))∧(((((sS (ag cE))≠0)→((ll (ag cE))≠0))∧(¬((sS (ag cE))≠0)→(¬((ll (ag cE))≠0))))∧(((tC (ag cE))=(jd (ag cE)))∧(((tD (ag cE))=(kM (ag cE)))∧(((tE (ag cE))=(kN (ag cE)))∧((tF (ag cE))=(kg (ag cE))))))))))) (
 aq (.bool false) []) (
 sL (cE+1) ((
 ∃SB:Int,SB=(cE+1)∧SB=(cE+1)∧O2 ⟨[],[],[SB],[],[],[],[]⟩∧Uf ⟨[],[],[SB],[],[],[],[]⟩<Uf ⟨[],[],[cE],[],[],[],[]⟩)))))))))) (
 aE (0≤bz) (
 ∃Yk:Ext→Prop,(∀(w:World) (Fs:List HP),aU ([GG,GH,Gw qC (aj dY 84 1) (aj dQ 84 ((O0:Nat)+1:Int)),Vw O0 bx kj (!(bM==0)) bH bL bX bZ bS O1 v10.v,Jw O1 ln,Rw v10 fU pC tB sS tC tD tE tF,Zw b9 lU 84 v9 lB,Rw v9 bz lh kE ll jd kM kN kg]++Fs) w→∃Yl:HP,∃Ym:HP,aU ([Yl,Ym,Gw qC dY dQ]++Fs) w∧Yk ⟨[],[],[],[],[],[Yl,Ym],[]⟩)∧
 (∀Yl:HP,∀Ym:HP,Yk ⟨[],[],[],[],[],[Yl,Ym],[]⟩→
 aK (¬(cE=bz)) (
 aq (.bool false) []) (
 ∀_:Nat,∃O3:Ext→Prop,(∀(w:World) (Fs:List HP),aU ([Yl]++Fs) w→∃(v11:V1) (cR:Int) (uG uH tG tH sT tI tJ tK tL:Nat→Int),∃Yn:HP,aU ([Yn,Zw b9 uG 162 v11 uH,Rw v11 cR tG tH sT tI tJ tK tL]++Fs) w∧O3 ⟨[],[v11],[cR],[uG,uH,tG,tH,sT,tI,tJ,tK,tL],[],[Yn],[]⟩)∧
 (∀(v11:V1) (cR:Int) (uG uH tG tH sT tI tJ tK tL:Nat→Int),∀Yn:HP,O3 ⟨[],[v11],[cR],[uG,uH,tG,tH,sT,tI,tJ,tK,tL],[],[Yn],[]⟩→
 ∃O4:Ext→Prop,(
 (∀_ Ug:Nat,∃IY:Nat,IY=Ug∧IY=Ug∧O4 ⟨[IY],[],[],[],[],[],[]⟩)∧
 (∀Rm _:Nat,∃IY:Nat,IY=Rm∧IY=Rm∧O4 ⟨[IY],[],[],[],[],[],[]⟩))∧
 ∀Rm:Nat,O4 ⟨[Rm],[],[],[],[],[],[]⟩→
 ∀_ _ _:Nat,∃O3:Ext→Prop,(∀(w:World) (Fs:List HP),aU ([Ym,Gw qC dY dQ]++Fs) w→∃(O5 O6:Nat) (CV:V1) (jY gq gj fV iM fm nX nD:Int) (uI H7 HM HN FF HO HQ HR HS:Nat→Int),∃Yo:HP,aU ([Yo,Gw qC (aj dY 162 1) (aj dQ 162 ((O5:Nat)+1:Int)),Vw O5 jY uI (!(gq==0)) gj fV iM fm nX O6 CV.v,Jw O6 H7,Rw CV nD HM HN FF HO HQ HR HS]++Fs) w∧O3 ⟨[O5,O6],[CV],[jY,gq,gj,fV,iM,fm,nX,nD],[uI,H7,HM,HN,FF,HO,HQ,HR,HS],[],[Yo],[]⟩)∧
 (∀(O5 O6:Nat) (CV:V1) (jY gq gj fV iM fm nX nD:Int) (uI H7 HM HN FF HO HQ HR HS:Nat→Int),∀Yo:HP,O3 ⟨[O5,O6],[CV],[jY,gq,gj,fV,iM,fm,nX,nD],[uI,H7,HM,HN,FF,HO,HQ,HR,HS],[],[Yo],[]⟩→
 ∀(_ _:Nat) (_:Loop),aE (0≤nD) (
 ∃(O7:Ext→Prop) (Uh:Ext→Nat),(∃nY:Int,nY=0∧nY=0∧O7 ⟨[],[],[nY],[],[],[],[]⟩)∧
 ∀nY:Int,O7 ⟨[],[],[nY],[],[],[],[]⟩→
 aK (nY<nD) (
 aE (0≤nY) (
 ∀_ _:Nat,aE (0≤cR) (
 aE ((cR≤nY)∨(0≤nY)) (
 aE ((cR≤nY)∨(nY<cR)) (
 aE ((cR≤nY)∨(0≤nY)) (
 aE ((cR≤nY)∨(nY<cR)) (
 aK ((cR≤nY)∨(¬((∀j,j<16→(aJ HM (ag (nY*16))) j=(aJ tG (ag (nY*16))) j)∧(((HN (ag nY))=(tH (ag nY)))∧(((((FF (ag nY))≠0)→((sT (ag nY))≠0))∧(¬((FF (ag nY))≠0)→(¬((sT (ag nY))≠0))))∧(((HO (ag nY))=(tI (ag nY)))∧(((HQ (ag nY))=(tJ (ag nY)))∧(((HR (ag nY))=(tK (ag nY)))∧((HS (ag nY))=(tL (ag nY))))))))))) (
 aq (.bool false) []) (
 sL (nY+1) ((
 ∃SC:Int,SC=(nY+1)∧SC=(nY+1)∧O7 ⟨[],[],[SC],[],[],[],[]⟩∧Uh ⟨[],[],[SC],[],[],[],[]⟩<Uh ⟨[],[],[nY],[],[],[],[]⟩)))))))))) (
 aE (0≤cR) (
 ∃Yp:Ext→Prop,(∀(w:World) (Fs:List HP),aU ([Yn,Yo,Gw qC (aj dY 162 1) (aj dQ 162 ((O5:Nat)+1:Int)),Vw O5 jY uI (!(gq==0)) gj fV iM fm nX O6 CV.v,Jw O6 H7,Rw CV nD HM HN FF HO HQ HR HS,Zw b9 uG 162 v11 uH,Rw v11 cR tG tH sT tI tJ tK tL]++Fs) w→∃Yq:HP,∃Yr:HP,aU ([Yq,Yr,Gw qC dY dQ]++Fs) w∧Yp ⟨[],[],[],[],[],[Yq,Yr],[]⟩)∧
 (∀Yq:HP,∀Yr:HP,Yp ⟨[],[],[],[],[],[Yq,Yr],[]⟩→
 aK (¬(nY=cR)) (
 aq (.bool false) []) (
 ∀_:Nat,∃O8:Ext→Prop,(∀(w:World) (Fs:List HP),aU ([Yq]++Fs) w→∃(Ro:V1) (IZ:Int) (H8 H9 HT HU yK y7 y8 y9 zB:Nat→Int),∃Ys:HP,aU ([Ys,Zw b9 H8 660 Ro H9,Rw Ro IZ HT HU yK y7 y8 y9 zB]++Fs) w∧O8 ⟨[],[Ro],[IZ],[H8,H9,HT,HU,yK,y7,y8,y9,zB],[],[Ys],[]⟩)∧
 (∀(Ro:V1) (IZ:Int) (H8 H9 HT HU yK y7 y8 y9 zB:Nat→Int),∀Ys:HP,O8 ⟨[],[Ro],[IZ],[H8,H9,HT,HU,yK,y7,y8,y9,zB],[],[Ys],[]⟩→
 ∃O9:Ext→Prop,(
 (∀_ Ui:Nat,∃I0:Nat,I0=Ui∧I0=Ui∧O9 ⟨[I0],[],[],[],[],[],[]⟩)∧
 (∀Rn _:Nat,∃I0:Nat,I0=Rn∧I0=Rn∧O9 ⟨[I0],[],[],[],[],[],[]⟩))∧
 ∀Rn:Nat,O9 ⟨[Rn],[],[],[],[],[],[]⟩→
 ∀_ _ _:Nat,∃O8:Ext→Prop,(∀(w:World) (Fs:List HP),aU ([Yr,Gw qC dY dQ]++Fs) w→∃(O_ Pa:Nat) (Rp:V1) (Yt Yu Yv Yx Yy Yz YA VF:Int) (wz D_ CP CQ BY CR CS CT CU:Nat→Int),∃YB:HP,aU ([YB,Gw qC (aj dY 660 1) (aj dQ 660 ((O_:Nat)+1:Int)),Vw O_ Yt wz (!(Yu==0)) Yv Yx Yy Yz YA Pa Rp.v,Jw Pa D_,Rw Rp VF CP CQ BY CR CS CT CU]++Fs) w∧O8 ⟨[O_,Pa],[Rp],[Yt,Yu,Yv,Yx,Yy,Yz,YA,VF],[wz,D_,CP,CQ,BY,CR,CS,CT,CU],[],[YB],[]⟩)∧
 (∀(O_ Pa:Nat) (Rp:V1) (Yt Yu Yv Yx Yy Yz YA VF:Int) (wz D_ CP CQ BY CR CS CT CU:Nat→Int),∀YB:HP,O8 ⟨[O_,Pa],[Rp],[Yt,Yu,Yv,Yx,Yy,Yz,YA,VF],[wz,D_,CP,CQ,BY,CR,CS,CT,CU],[],[YB],[]⟩→
 ∀(_ _:Nat) (_:Loop),aE (0≤VF) (
 ∃(Pb:Ext→Prop) (Uj:Ext→Nat),(∃qD:Int,qD=0∧qD=0∧Pb ⟨[],[],[qD],[],[],[],[]⟩)∧
 ∀qD:Int,Pb ⟨[],[],[qD],[],[],[],[]⟩→
 aK (qD<VF) (
 aE (0≤qD) (
 ∀_ _:Nat,aE (0≤IZ) (
 aE ((IZ≤qD)∨(0≤qD)) (
 aE ((IZ≤qD)∨(qD<IZ)) (
 aE ((IZ≤qD)∨(0≤qD)) (
 aE ((IZ≤qD)∨(qD<IZ)) (
 aK ((IZ≤qD)∨(¬((∀j,j<16→(aJ CP (ag (qD*16))) j=(aJ HT (ag (qD*16))) j)∧(((CQ (ag qD))=(HU (ag qD)))∧(((((BY (ag qD))≠0)→((yK (ag qD))≠0))∧(¬((BY (ag qD))≠0)→(¬((yK (ag qD))≠0))))∧(((CR (ag qD))=(y7 (ag qD)))∧(((CS (ag qD))=(y8 (ag qD)))∧(((CT (ag qD))=(y9 (ag qD)))∧((CU (ag qD))=(zB (ag qD))))))))))) (
 aq (.bool false) []) (
 sL (qD+1) ((
 ∃SD:Int,SD=(qD+1)∧SD=(qD+1)∧Pb ⟨[],[],[SD],[],[],[],[]⟩∧Uj ⟨[],[],[SD],[],[],[],[]⟩<Uj ⟨[],[],[qD],[],[],[],[]⟩)))))))))) (
 aE (0≤IZ) (
 ∃YC:Ext→Prop,(∀(w:World) (Fs:List HP),aU ([Ys,YB,Gw qC (aj dY 660 1) (aj dQ 660 ((O_:Nat)+1:Int)),Vw O_ Yt wz (!(Yu==0)) Yv Yx Yy Yz YA Pa Rp.v,Jw Pa D_,Rw Rp VF CP CQ BY CR CS CT CU,Zw b9 H8 660 Ro H9,Rw Ro IZ HT HU yK y7 y8 y9 zB]++Fs) w→∃ZT:HP,∃ZU:HP,aU ([ZT,ZU,Gw qC dY dQ]++Fs) w∧YC ⟨[],[],[],[],[],[ZT,ZU],[]⟩)∧
 (∀ZT:HP,∀ZU:HP,YC ⟨[],[],[],[],[],[ZT,ZU],[]⟩→
 aK (¬(qD=IZ)) (
 aq (.bool false) []) (
 aq (.bool true) []))))))))))))))))))))))))))))))))))
theorem VG(aq:Value→List HP→Prop)(x0:Int)(A0 A1 A2 A3:Nat→Int)(v0:V1)(h:OS agQ aq x0 A0 A1 A2 A3 v0):au agQ 12 [v0.v] [aC false 123 4 v0.v (ag x0) (aT (ag x0) [ax .u8 1 A0,ax .u8 1 A1,ax .u16 1 A2,ax .u8 1 A3])] aq:=
 mtB (C:=cx) [.vv 0] [.cy false 0 123 4 (.var 0) [⟨.int .u8,1,.aw 0⟩,⟨.int .u8,1,.aw 1⟩,⟨.int .u16,1,.aw 2⟩,⟨.int .u8,1,.aw 3⟩]] ⟨0,1,1,4,0,0,0⟩ ⟨[x0],[A0,A1,A2,A3],[],[],[v0],[],[],[]⟩ Try.func12 (by kernel_rfl) h
end Go.RX.Ea

namespace Go.Cp
structure Mg (K:Type) where
 k:Nat
 c:Nat
 f:Nat
 t:Nat
 key:K
 why:Nat
structure Mc (K:Type) where
 ph:Nat
 c:Nat
 out:Bool
 peer:Nat
 own:K
 off:K
 dM:K
 aP:Nat
 since:Nat
 heard:Nat
 bO:Nat
 bF:Nat
 dec:Bool
structure Ev (K:Type) where
 k:Nat
 c:Nat
 peer:Nat
 key:K
 oc:Nat
structure Rc where
 c:Nat
 aP:Nat
 out:Bool
 oc:Nat
 bF:Nat
structure Rs (K:Type) where
 m:Mc K
 o:List (Mg K)
 e:List (Ev K)
 r:List Rc
structure Or where
 has:Bool
 early:Bool
 less:Bool
 over:Bool
 lO:Bool
 busy:Bool
 sub:List Nat
 pg:List Nat
 oc:Nat
variable {K:Type} (z:K) (F:Nat→K→K→Nat→Nat→K) (H:K→K)
def acc(i:Nat):Nat:=i/2
def Mc.has(m:Mc K)(c:Nat):Prop:=m.ph≠0∧m.c=c
instance (m:Mc K) (c:Nat):Decidable (m.has c):=inferInstanceAs (Decidable (_∧_))
def to(k c i:Nat)(l:List Nat)(why:Nat):List (Mg K):=l.map fun j=>⟨k,c,i,j,z,why⟩
def gG(m:Mc K):Rs K:=⟨m,[],[],[]⟩
def lP(m:Mc K)(oc:Nat):Ev K:=⟨5,m.c,0,z,oc⟩
def uq(m:Mc K)(oc:Nat):Rc:=⟨m.c,m.aP,m.out,oc,m.bF⟩
def leaves(i:Nat)(m:Mc K)(sub:List Nat)(why oc:Nat):Rs K:=⟨{m with ph:=0},if m.ph=1 then to z 5 m.c i sub why else [⟨5,m.c,i,m.peer,z,why⟩],[lP z m oc],[uq m oc]⟩
def ends(m:Mc K)(oc:Nat):Rs K:=⟨{m with ph:=0},[],[lP z m oc],[uq m oc]⟩
def rings(x:Mg K)(now:Nat):Mc K:=⟨2,x.c,false,x.f,z,x.key,z,now,now,0,0,0,false⟩
def nZ(x:Mg K):Ev K:=⟨2,x.c,0,z,0⟩
def answers(i:Nat)(m:Mc K)(key:K)(now:Nat):Rs K:=
 ⟨{m with ph:=3,own:=key,dM:=F m.c m.off key m.peer i,since:=now},[⟨2,m.c,i,m.peer,key,0⟩,⟨3,m.c,i,m.peer,z,0⟩],[⟨3,m.c,m.peer,z,0⟩],[]⟩
def active(m:Mc K)(now:Nat):Mc K×Ev K:=({m with ph:=4,since:=now,heard:=now,bO:=now,bF:=now},⟨4,m.c,m.peer,H m.dM,0⟩)
def VH(dec:Bool)(k:Nat):Nat:=if k=0 then 3 else if k=1 then 5 else if dec then 4 else 3
def AS(ph why:Nat):Nat:=if ph=2 then(if why=2 then 4 else 3)else if ph=3 then 6 else 1
def take(i:Nat)(m:Mc K)(x:Mg K)(now:Nat)(o:Or):Rs K:=
 if x.k=1 then
  if o.has then gG m
  else if m.ph=0 then⟨rings z x now,[],[nZ z x],[]⟩
  else if m.c=x.c then gG m
  else if m.ph=1∧o.less=true then
   let a:=leaves z i m o.sub 4 7
   let b:=answers z F i (rings z x now) m.own now
   ⟨b.m,a.o++b.o,a.e++(nZ z x::b.e),a.r⟩
  else if o.busy then gG m
  else⟨m,[⟨4,x.c,i,x.f,z,0⟩],[],[]⟩
 else if x.k=2 then
  if¬m.has x.c then⟨m,[⟨5,x.c,i,x.f,z,1⟩],[],[]⟩
  else if m.ph=1∧o.lO=true then
   let m1:Mc K:={m with ph:=3,dM:=F m.c m.own x.key i x.f,peer:=x.f,since:=now}
   let e1:Ev K:=⟨3,m.c,x.f,z,0⟩
   let outs:=⟨3,m.c,i,x.f,z,0⟩::to z 6 m.c i (o.pg.filter (· ≠x.f)) 0
   if o.early then let a:=active H m1 now;⟨a.1,outs,[e1,a.2],[]⟩else⟨m1,outs,[e1],[]⟩
  else if m.ph≠1∧m.out=true∧x.f≠m.peer then⟨m,[⟨6,x.c,i,x.f,z,0⟩],[],[]⟩
  else gG m
 else if x.k=3 then
  if¬m.has x.c then⟨m,[⟨5,x.c,i,x.f,z,1⟩],[],[]⟩
  else if m.ph=1∨x.f≠m.peer then gG m
  else if m.ph=3 then let a:=active H m now;⟨a.1,[],[a.2],[]⟩
  else if m.ph=4 then⟨{m with heard:=now},[],[],[]⟩
  else gG m
 else if x.k=4 then
  if m.has x.c∧m.ph=1∧o.over=true then leaves z i m o.sub 2 (VH m.dec o.oc)else gG m
 else if x.k=5 then
  if¬m.has x.c then gG m
  else if m.ph=1 then(if o.over then leaves z i m o.sub 2 (VH (m.dec||x.why==2) o.oc)else gG {m with dec:=m.dec||x.why==2})
  else if x.f≠m.peer then gG m
  else ends z m (AS m.ph x.why)
 else if x.k=6 then
  if m.has x.c∧x.f=m.peer∧m.out=false∧(m.ph=2∨m.ph=3)then ends z m 2 else gG m
 else gG m
def MD(a now:Nat):Nat:=max a now - a
def tick(i:Nat)(m:Mc K)(now:Nat)(o:Or):Rs K:=
 if(m.ph=1∨m.ph=2)∧60≤MD m.since now then leaves z i m o.sub 3 3
 else if m.ph=3∧30≤MD m.since now then leaves z i m o.sub 3 6
 else if m.ph=4∧30≤MD m.heard now then leaves z i m o.sub 3 1
 else if m.ph=4∧10≤MD m.bO now then⟨{m with bO:=now},[⟨3,m.c,i,m.peer,z,0⟩],[],[]⟩
 else gG m
def answer(i:Nat)(m:Mc K)(key:K)(now:Nat):Rs K:=if m.ph=2 then answers z F i m key now else gG m
def dW(i:Nat)(m:Mc K):Rs K:=if m.ph=2 then⟨{m with ph:=0},[⟨5,m.c,i,m.peer,z,2⟩],[lP z m 4],[uq m 4]⟩else gG m
def ng(i:Nat)(m:Mc K)(o:Or):Rs K:=if m.ph=0∨m.ph=2 then gG m else leaves z i m o.sub 1 (if m.ph=4 then 1 else 7)
def others(i:Nat):List Nat:=[2*(1 - i/2),2*(1 - i/2)+1]
def cG(i c:Nat)(key:K)(now:Nat):Rs K:=
 ⟨⟨1,c,true,0,key,z,z,now,now,0,0,0,false⟩,(others i).map fun j=>⟨1,c,i,j,key,0⟩,[⟨1,c,0,z,0⟩],[]⟩
structure Fe (K:Type) where
 i:Nat
 w:Nat
 e:Ev K
structure Sy (K:Type) where
 now:Nat
 ms:Nat→Mc K
 bW:List (Mg K)
 dl:Nat
 bb:Nat→Option Nat
 pr:Nat→Option K
 done:Nat→Nat→Bool
 gO:Nat→Option Nat
 ok:Nat→K
 k_:Nat→Nat→Option K
 eG:List (Fe K)
 lY:Nat→List (Rc×Nat)
def bP{α:Type}(f:Nat→α)(i:Nat)(a:α):Nat→α:=fun j=>if j=i then a else f j
def jZ{α:Type}(f:Nat→Nat→α)(i c:Nat)(a:α):Nat→Nat→α:=fun j e=>if j=i∧e=c then a else f j e
def Sy.been(s:Sy K)(d c:Nat):Prop:=(s.ms d).has c∨s.done d c=true
structure Sy.Ms (s:Sy K) (i:Nat) (m:Mc K):Prop where
 ph:m.ph≤4
 nd:m.ph≠0→s.done i m.c=false∧m.aP≤s.now∧m.since≤s.now
 d1:m.ph=1→s.gO m.c=some i∧m.own=s.ok m.c∧s.bb m.c=none∧s.pr m.c=none∧m.out=true
 d2:m.ph=2→m.out=false∧m.off=s.ok m.c∧s.k_ m.c i=none
 io:m.ph≠0→m.out=false→s.gO m.c=some m.peer∧acc m.peer≠acc i∧m.peer<4
 d3:3≤m.ph→m.out=true→s.gO m.c=some i∧s.bb m.c=some m.peer∧acc m.peer≠acc i∧m.peer<4∧∃k,s.k_ m.c m.peer=some k∧m.dM=F m.c (s.ok m.c) k i m.peer
 d4:3≤m.ph→m.out=false→∃k,s.k_ m.c i=some k∧m.dM=F m.c (s.ok m.c) k m.peer i
 d5:m.ph=4→m.out=false→s.bb m.c=some i
structure Sy.Inv (num:Nat→Nat) (s:Sy K):Prop where
 ms: ∀i,i<4→s.Ms F i (s.ms i)
 rt: ∀x∈s.bW,x.f<4∧x.t<4∧acc x.f≠acc x.t∧1≤x.k∧x.k≤6
 f1: ∀x∈s.bW,x.k=1→s.gO x.c=some x.f∧x.key=s.ok x.c∧s.done x.t x.c=false∧¬(s.ms x.t).has x.c∧s.k_ x.c x.t=none
 once:s.bW.Pairwise fun a b=> ¬(a.k=1∧b.k=1∧a.c=b.c∧a.t=b.t)
 f2: ∀x∈s.bW,x.k=2→s.gO x.c=some x.t∧s.k_ x.c x.f=some x.key
 f3: ∀x∈s.bW,x.k=3→(s.gO x.c=some x.f∧s.bb x.c=some x.t)∨(s.gO x.c=some x.t∧s.been x.f x.c)
 f5: ∀x∈s.bW,x.k=5→s.done x.f x.c=true
 cl: ∀c i,s.gO c=some i→i<4∧num c≤s.dl∧s.been i c
 an: ∀c d k,s.k_ c d=some k→s.been d c∧(∃i,s.gO c=some i∧acc i≠acc d)
 tk: ∀c p,s.bb c=some p→∃k,s.k_ c p=some k
 ck: ∀c,s.bb c=none∨∃i,s.gO c=some i
 pr: ∀c h,s.pr c=some h→∃i p k,s.gO c=some i∧s.bb c=some p∧s.k_ c p=some k∧h=H (F c (s.ok c) k i p)
 dn: ∀d c,s.done d c=true→∃i,s.gO c=some i
structure Wo (K:Type) where
 bb:Nat→Option Nat
 pr:Nat→Option K
 bad:Bool
def eM[DecidableEq K](i:Nat)(out:Bool)(w:Wo K)(e:Ev K):Wo K:=
 if e.k=3∧out=true then⟨bP w.bb e.c (some e.peer),w.pr,w.bad||(w.bb e.c).isSome⟩
 else if e.k=4 then⟨w.bb,bP w.pr e.c (some e.key),w.bad||(w.pr e.c).any (· ≠e.key)||(decide ((w.bb e.c).getD 0≠i)&& !out)⟩
 else w
def vF(i now:Nat)(w:(Nat→Nat→Bool)×Bool)(r:Rc):(Nat→Nat→Bool)×Bool:=(jZ w.1 i r.c true,w.2||w.1 i r.c||decide (now<r.aP))
structure gP [DecidableEq K] (s s':Sy K) (i:Nat) (r:Rs K):Prop where
 now:s'.now=s.now
 dl:s'.dl=s.dl
 ms:s'.ms=bP s.ms i r.m
 bW:s'.bW=s.bW++r.o
 ev:r.e.foldl (eM i r.m.out) ⟨s.bb,s.pr,false⟩=⟨s'.bb,s'.pr,false⟩
 rc:r.r.foldl (vF i s.now) (s.done,false)=(s'.done,false)
structure After [DecidableEq K] (s s':Sy K) (i:Nat) (r:Rs K):Prop extends gP s s' i r where
 eG:s'.eG=s.eG++r.e.map fun v=>⟨i,s.now,v⟩
 lY:s'.lY=bP s.lY i (s.lY i++r.r.map fun v=>(v,s.now))
structure Sy.Fact (s:Sy K) (x:Mg K):Prop where
 rt:x.f<4∧x.t<4∧acc x.f≠acc x.t∧1≤x.k∧x.k≤6
 f1:x.k=1→s.gO x.c=some x.f∧x.key=s.ok x.c∧s.done x.t x.c=false∧¬(s.ms x.t).has x.c∧s.k_ x.c x.t=none
 no:x.k=1→∀y∈s.bW,y.k=1→¬(y.c=x.c∧y.t=x.t)
 f2:x.k=2→s.gO x.c=some x.t∧s.k_ x.c x.f=some x.key
 f3:x.k=3→(s.gO x.c=some x.f∧s.bb x.c=some x.t)∨(s.gO x.c=some x.t∧s.been x.f x.c)
 f5:x.k=5→s.done x.f x.c=true
variable {K:Type} {z:K} {F:Nat→K→K→Nat→Nat→K} {H:K→K} {num:Nat→Nat} {s:Sy K}
theorem bj{α:Type}(f:Nat→α)(i:Nat)(a:α):bP f i a i=a:=if_pos rfl
theorem cg{α:Type}(f:Nat→α){i j:Nat}(a:α)(h:j≠i):bP f i a j=f j:=if_neg h
theorem Sy.Inv.drop(h:s.Inv F H num){l:List (Mg K)}(hl:l.Sublist s.bW):({s with bW:=l}).Inv F H num:=by
 have hm: ∀x∈l,x∈s.bW:=fun x hx=>hl.subset hx
 exact⟨fun i hi=>⟨(h.ms i hi).ph,(h.ms i hi).nd,(h.ms i hi).d1,(h.ms i hi).d2,(h.ms i hi).io,(h.ms i hi).d3,(h.ms i hi).d4,(h.ms i hi).d5⟩,
  fun x hx=>h.rt x (hm x hx),fun x hx=>h.f1 x (hm x hx),h.once.sublist hl,fun x hx=>h.f2 x (hm x hx),fun x hx=>h.f3 x (hm x hx),fun x hx=>h.f5 x (hm x hx),h.cl,h.an,h.tk,h.ck,h.pr,h.dn⟩
theorem Sy.Inv.send(h:s.Inv F H num){y:Mg K}(hr:y.f<4∧y.t<4∧acc y.f≠acc y.t∧2≤y.k∧y.k≤6)(h2:y.k=2→s.gO y.c=some y.t∧s.k_ y.c y.f=some y.key)
  (h3:y.k=3→(s.gO y.c=some y.f∧s.bb y.c=some y.t)∨(s.gO y.c=some y.t∧s.been y.f y.c)) (h5:y.k=5→s.done y.f y.c=true):({s with bW:=s.bW++[y]}).Inv F H num:=by
 have hm: ∀{p:Mg K→Prop},(∀x∈s.bW,p x)→p y→∀x∈s.bW++[y],p x:=by
  intro p h1 h2 x hx;rcases List.mem_append.1 hx with hx | hx
  ·exact h1 x hx
  ·rw [agZ]at hx;exact hx▸h2
 refine⟨fun i hi=>⟨(h.ms i hi).ph,(h.ms i hi).nd,(h.ms i hi).d1,(h.ms i hi).d2,(h.ms i hi).io,(h.ms i hi).d3,(h.ms i hi).d4,(h.ms i hi).d5⟩,
  hm h.rt ⟨hr.1,hr.2.1,hr.2.2.1,by omega,hr.2.2.2.2⟩,hm h.f1 fun h=>by omega,?_,hm h.f2 h2,hm h.f3 h3,hm h.f5 h5,h.cl,h.an,h.tk,h.ck,h.pr,h.dn⟩
 refine List.pairwise_append.2 ⟨h.once,List.pairwise_singleton _ _,fun a _ b hb hc=>?_⟩;rw [agZ]at hb;subst hb;omega
theorem Sy.Inv.gone(h:s.Inv F H num){i:Nat}(hi:i<4)(hp:(s.ms i).ph≠0):({s with ms:=bP s.ms i {s.ms i with ph:=0},done:=jZ s.done i (s.ms i).c true}).Inv F H num:=by
 have hZ: ∀d c,s.been d c→({s with ms:=bP s.ms i {s.ms i with ph:=0},done:=jZ s.done i (s.ms i).c true}:Sy K).been d c:=by
  intro d c hb;simp only [Sy.been,Mc.has,bP,jZ]at hb ⊢
  grind
 obtain⟨g1,g2,g3,g4,g5,g6,g7,g8⟩:=h.ms i hi;refine⟨fun j hj=>?_,h.rt,fun x hx hk=>?_,h.once,h.f2,fun x hx hk=>?_,fun x hx hk=>?_,fun c k hc=>?_,fun c d k hc=>?_,h.tk,h.ck,h.pr,fun d c hd=>?_⟩
 ·obtain⟨k1,k2,k3,k4,k5,k6,k7,k8⟩:=h.ms j hj;by_cases sM:j=i
  ·subst sM;simp only [bj];exact⟨by simp,fun h=>absurd rfl h,fun h=>by simp at h,fun h=>by simp at h,fun h=>absurd rfl h,fun h=>by simp at h,fun h=>by simp at h,fun h=>by simp at h⟩
  ·simp only [cg _ _ sM];refine⟨k1,fun hq=>?_,k3,k4,k5,k6,k7,k8⟩;refine⟨?_,(k2 hq).2⟩;simp only [jZ];rw [if_neg (fun h=>sM h.1)];exact(k2 hq).1
 ·obtain⟨q1,q2,q3,q4,q5⟩:=h.f1 x hx hk;refine⟨q1,q2,?_,?_,q5⟩<;>simp only [Mc.has,bP,jZ]at q4 ⊢ <;>grind
 ·rcases h.f3 x hx hk with q | ⟨q1,q2⟩
  ·exact .inl q
  ·exact .inr ⟨q1,hZ _ _ q2⟩
 ·have:=h.f5 x hx hk;simp only [jZ]
  grind
 ·obtain⟨q1,q2,q3⟩:=h.cl c k hc;exact⟨q1,q2,hZ _ _ q3⟩
 ·obtain⟨q1,q2⟩:=h.an c d k hc;exact⟨hZ _ _ q1,q2⟩
 ·simp only [jZ]at hd;by_cases ZO:d=i∧c=(s.ms i).c
  ·obtain⟨rfl,rfl⟩:=ZO
   ·cases ho:(s.ms d).out with
    | false=>exact⟨_,(g5 hp ho).1⟩
    | true=>
     have VI:(s.ms d).ph=1∨(s.ms d).ph=2∨3≤(s.ms d).ph:=by omega
     rcases VI with e | e | e
     ·exact⟨_,(g3 e).1⟩
     ·have:=(g4 e).1;rw [ho]at this;cases this
     ·exact⟨_,(g6 e ho).1⟩
  ·rw [if_neg ZO]at hd;exact h.dn d c hd
theorem Sy.Inv.called(h:s.Inv F H num){i:Nat}(hi:i<4)(hp:(s.ms i).ph≠0): ∃j,s.gO (s.ms i).c=some j:=by
 obtain⟨g1,g2,g3,g4,g5,g6,g7,g8⟩:=h.ms i hi;cases ho:(s.ms i).out with
 | false=>exact⟨_,(g5 hp ho).1⟩
 | true=>
  have VI:(s.ms i).ph=1∨(s.ms i).ph=2∨3≤(s.ms i).ph:=by omega
  rcases VI with e | e | e
  ·exact⟨_,(g3 e).1⟩
  ·have:=(g4 e).1;rw [ho]at this;cases this
  ·exact⟨_,(g6 e ho).1⟩
theorem Sy.Inv.ring(h:s.Inv F H num){i:Nat}(hi:i<4)(hp:(s.ms i).ph=0){x:Mg K}(hf:x.f<4∧acc x.f≠acc i)(hc:s.gO x.c=some x.f)(hk:x.key=s.ok x.c)(hd:s.done i x.c=false)(ha:s.k_ x.c i=none)
  (ho: ∀y∈s.bW,y.k=1→¬(y.c=x.c∧y.t=i)):({s with ms:=bP s.ms i (rings z x s.now)}).Inv F H num:=by
 have hZ: ∀d c,s.been d c→({s with ms:=bP s.ms i (rings z x s.now)}:Sy K).been d c:=by
  intro d c hb;simp only [Sy.been,Mc.has,bP]at hb ⊢
  grind
 refine⟨fun j hj=>?_,h.rt,fun y hy hk=>?_,h.once,h.f2,fun y hy hk=>?_,h.f5,fun c k hc=>?_,fun c d k hc=>?_,h.tk,h.ck,h.pr,h.dn⟩
 ·obtain⟨k1,k2,k3,k4,k5,k6,k7,k8⟩:=h.ms j hj;by_cases sM:j=i
  ·subst sM;simp only [bj,rings];exact⟨by simp,fun _=>⟨hd,Nat.le_refl _,Nat.le_refl _⟩,fun h=>absurd h (by simp),fun _=>⟨rfl,hk,ha⟩,fun _ _=>⟨hc,hf.2,hf.1⟩,fun h=>absurd h (by simp),fun h=>absurd h (by simp),fun h=>absurd h (by simp)⟩
  ·simp only [cg _ _ sM];exact⟨k1,k2,k3,k4,k5,k6,k7,k8⟩
 ·obtain⟨q1,q2,q3,q4,q5⟩:=h.f1 y hy hk;have:=ho y hy hk;refine⟨q1,q2,q3,?_,q5⟩;simp only [Mc.has,bP,rings]at q4 ⊢
  grind
 ·rcases h.f3 y hy hk with q | ⟨q1,q2⟩
  ·exact .inl q
  ·exact .inr ⟨q1,hZ _ _ q2⟩
 ·obtain⟨q1,q2,q3⟩:=h.cl c k hc;exact⟨q1,q2,hZ _ _ q3⟩
 ·obtain⟨q1,q2⟩:=h.an c d k hc;exact⟨hZ _ _ q1,q2⟩
theorem Sy.Inv.bF(h:s.Inv F H num){i:Nat}(hi:i<4)(hp:(s.ms i).ph=2)(key:K):
  ({s with ms:=bP s.ms i (answers z F i (s.ms i) key s.now).m,k_:=jZ s.k_ (s.ms i).c i (some key)}).Inv F H num:=by
 obtain⟨g1,g2,g3,g4,g5,g6,g7,g8⟩:=h.ms i hi;obtain⟨o1,o2,o3⟩:=g4 hp;obtain⟨n1,n2,n3⟩:=g2 (by omega);obtain⟨p1,p2,p3⟩:=g5 (by omega) o1;have hZ: ∀d c,s.been d c→({s with ms:=bP s.ms i (answers z F i (s.ms i) key s.now).m,k_:=jZ s.k_ (s.ms i).c i (some key)}:Sy K).been d c:=by
  intro d c hb;simp only [Sy.been,Mc.has,bP,answers]at hb ⊢
  grind
 have Pc: ∀c d k,s.k_ c d=some k→jZ s.k_ (s.ms i).c i (some key) c d=some k:=by
  intro c d k hk;simp only [jZ];rw [if_neg (by rintro ⟨rfl,rfl⟩;rw [o3]at hk;cases hk)];exact hk
 refine⟨fun j hj=>?_,h.rt,fun y hy hk=>?_,h.once,fun y hy hk=>⟨(h.f2 y hy hk).1,Pc _ _ _ (h.f2 y hy hk).2⟩,fun y hy hk=>?_,h.f5,fun c k hc=>?_,fun c d k hc=>?_,fun c p hc=>?_,h.ck,fun c k hc=>?_,h.dn⟩
 ·obtain⟨k1,k2,k3,k4,k5,k6,k7,k8⟩:=h.ms j hj;by_cases sM:j=i
  ·subst sM;simp only [bj,answers];refine⟨by simp,fun _=>⟨n1,n2,Nat.le_refl _⟩,fun h=>absurd h (by simp),fun h=>absurd h (by simp),fun _ _=>⟨p1,p2,p3⟩,fun _ h=>(by rw [o1]at h;cases h),fun _ _=>⟨key,?_,?_⟩,fun h=>absurd h (by simp)⟩
   ·simp [jZ]
   ·show F _ _ _ _ _=F _ _ _ _ _;rw [o2]
  ·simp only [cg _ _ sM];refine⟨k1,k2,k3,fun hq=>?_,k5,fun hq ho=>?_,fun hq ho=>?_,k8⟩
   ·obtain⟨q1,q2,q3⟩:=k4 hq;refine⟨q1,q2,?_⟩;simp only [jZ];rw [if_neg (fun h=>sM h.2)];exact q3
   ·obtain⟨q1,q2,q3,q4,k,q5,q6⟩:=k6 hq ho;exact⟨q1,q2,q3,q4,k,Pc _ _ _ q5,q6⟩
   ·obtain⟨k,q5,q6⟩:=k7 hq ho;exact⟨k,Pc _ _ _ q5,q6⟩
 ·obtain⟨q1,q2,q3,q4,q5⟩:=h.f1 y hy hk;refine⟨q1,q2,q3,?_,?_⟩
  ·simp only [Mc.has,bP,answers]at q4 ⊢
   grind
  ·simp only [jZ];rw [if_neg (fun hh=>q4 ?_)]
   ·exact q5
   ·rw [hh.2,hh.1];exact⟨by omega,rfl⟩
 ·rcases h.f3 y hy hk with q | ⟨q1,q2⟩
  ·exact .inl q
  ·exact .inr ⟨q1,hZ _ _ q2⟩
 ·obtain⟨q1,q2,q3⟩:=h.cl c k hc;exact⟨q1,q2,hZ _ _ q3⟩
 ·simp only [jZ]at hc;by_cases hh:c=(s.ms i).c∧d=i
  ·obtain⟨rfl,rfl⟩:=hh;refine⟨.inl ?_,_,p1,p2⟩;simp only [Mc.has,bP,answers];simp
  ·rw [if_neg hh]at hc;obtain⟨q1,q2⟩:=h.an c d k hc;exact⟨hZ _ _ q1,q2⟩
 ·obtain⟨k,hk⟩:=h.tk c p hc;exact⟨k,Pc _ _ _ hk⟩
 ·obtain⟨i,p,k2,q1,q2,q3,q4⟩:=h.pr c k hc;exact⟨i,p,k2,q1,q2,Pc _ _ _ q3,q4⟩
theorem Sy.Inv.conn(h:s.Inv F H num){i f:Nat}(hi:i<4)(hp:(s.ms i).ph=1)(hf:f<4∧acc f≠acc i){key:K}(ha:s.k_ (s.ms i).c f=some key):
  ({s with ms:=bP s.ms i {s.ms i with ph:=3,dM:=F (s.ms i).c (s.ms i).own key i f,peer:=f,since:=s.now},bb:=bP s.bb (s.ms i).c (some f)}).Inv F H num:=by
 obtain⟨g1,g2,g3,g4,g5,g6,g7,g8⟩:=h.ms i hi;obtain⟨o1,o2,o3,o4,o5⟩:=g3 hp;obtain⟨n1,n2,n3⟩:=g2 (by omega);have hZ: ∀d c,s.been d c→({s with ms:=bP s.ms i {s.ms i with ph:=3,dM:=F (s.ms i).c (s.ms i).own key i f,peer:=f,since:=s.now},bb:=bP s.bb (s.ms i).c (some f)}:Sy K).been d c:=by
  intro d c hb;simp only [Sy.been,Mc.has,bP]at hb ⊢
  grind
 have B0: ∀c p,s.bb c=some p→bP s.bb (s.ms i).c (some f) c=some p:=by
  intro c p hk;simp only [bP];rw [if_neg (by rintro rfl;rw [o3]at hk;cases hk)];exact hk
 refine⟨fun j hj=>?_,h.rt,fun y hy hk=>?_,h.once,h.f2,fun y hy hk=>?_,h.f5,fun c k hc=>?_,fun c d k hc=>?_,fun c p hc=>?_,fun c=>?_,fun c k hc=>?_,h.dn⟩
 ·obtain⟨k1,k2,k3,k4,k5,k6,k7,k8⟩:=h.ms j hj;by_cases sM:j=i
  ·subst sM;simp only [bj];refine⟨by simp,fun _=>⟨n1,n2,Nat.le_refl _⟩,fun h=>absurd h (by simp),fun h=>absurd h (by simp),fun _ h=>(by rw [o5]at h;cases h),fun _ _=>⟨o1,by simp [bP],hf.2,hf.1,key,ha,?_⟩,fun _ h=>(by rw [o5]at h;cases h),fun h=>absurd h (by simp)⟩;rw [o2]
  ·simp only [cg _ _ sM];refine⟨k1,k2,fun hq=>?_,k4,k5,fun hq ho=>?_,k7,fun hq ho=>B0 _ _ (k8 hq ho)⟩
   ·obtain⟨q1,q2,q3,q4,q5⟩:=k3 hq;refine⟨q1,q2,?_,q4,q5⟩;simp only [bP];rw [if_neg]
    ·exact q3
    ·intro e;rw [e,o1]at q1;cases q1;exact sM rfl
   ·obtain⟨q1,q2,q3⟩:=k6 hq ho;exact⟨q1,B0 _ _ q2,q3⟩
 ·obtain⟨q1,q2,q3,q4,q5⟩:=h.f1 y hy hk;refine⟨q1,q2,q3,?_,q5⟩;simp only [Mc.has,bP]at q4 ⊢
  grind
 ·rcases h.f3 y hy hk with⟨q1,q2⟩ | ⟨q1,q2⟩
  ·exact .inl ⟨q1,B0 _ _ q2⟩
  ·exact .inr ⟨q1,hZ _ _ q2⟩
 ·obtain⟨q1,q2,q3⟩:=h.cl c k hc;exact⟨q1,q2,hZ _ _ q3⟩
 ·obtain⟨q1,q2⟩:=h.an c d k hc;exact⟨hZ _ _ q1,q2⟩
 ·simp only [bP]at hc;by_cases hh:c=(s.ms i).c
  ·subst hh;rw [if_pos rfl]at hc;cases hc;exact⟨_,ha⟩
  ·rw [if_neg hh]at hc;exact h.tk c p hc
 ·by_cases hh:c=(s.ms i).c
  ·subst hh;exact .inr ⟨i,o1⟩
  ·rcases h.ck c with q | q
   ·refine .inl ?_;simp only [bP];rw [if_neg hh];exact q
   ·exact .inr q
 ·obtain⟨i,p,k2,q1,q2,q3,q4⟩:=h.pr c k hc;exact⟨i,p,k2,q1,B0 _ _ q2,q3,q4⟩
theorem Sy.Inv.same(h:s.Inv F H num){i:Nat}(hi:i<4)(hp:3≤(s.ms i).ph)(ht:(s.ms i).out=false→s.bb (s.ms i).c=some i):
  ∃a p k,s.gO (s.ms i).c=some a∧s.bb (s.ms i).c=some p∧s.k_ (s.ms i).c p=some k∧(s.ms i).dM=F (s.ms i).c (s.ok (s.ms i).c) k a p:=by
 obtain⟨g1,g2,g3,g4,g5,g6,g7,g8⟩:=h.ms i hi;cases ho:(s.ms i).out with
 | true=>
  obtain⟨q1,q2,q3,q4,k,q5,q6⟩:=g6 hp ho;exact⟨i,_,k,q1,q2,q5,q6⟩
 | false=>
  obtain⟨k,q5,q6⟩:=g7 hp ho;exact⟨_,i,k,(g5 (by omega) ho).1,ht ho,q5,q6⟩
theorem Sy.Inv.told(h:s.Inv F H num){i:Nat}(hi:i<4)(hp:3≤(s.ms i).ph)(ht:(s.ms i).out=false→s.bb (s.ms i).c=some i){k:K}(hk:s.pr (s.ms i).c=some k):k=H (s.ms i).dM:=by
 obtain⟨a,p,k1,q1,q2,q3,q4⟩:=h.same hi hp ht;obtain⟨a2,p2,k2,r1,r2,r3,r4⟩:=h.pr _ _ hk;rw [q1]at r1;rw [q2]at r2;cases r1;cases r2;rw [q3]at r3;cases r3;rw [r4,q4]
theorem Sy.Inv.act(h:s.Inv F H num){i:Nat}(hi:i<4)(hp:(s.ms i).ph=3)(ht:(s.ms i).out=false→s.bb (s.ms i).c=some i):
  ({s with ms:=bP s.ms i (active H (s.ms i) s.now).1,pr:=bP s.pr (s.ms i).c (some (H (s.ms i).dM))}).Inv F H num:=by
 obtain⟨g1,g2,g3,g4,g5,g6,g7,g8⟩:=h.ms i hi;obtain⟨n1,n2,n3⟩:=g2 (by omega);obtain⟨a,p,k1,w1,w2,w3,w4⟩:=h.same hi (by omega) ht;have hZ: ∀d c,s.been d c→({s with ms:=bP s.ms i (active H (s.ms i) s.now).1,pr:=bP s.pr (s.ms i).c (some (H (s.ms i).dM))}:Sy K).been d c:=by
  intro d c hb;simp only [Sy.been,Mc.has,bP,active]at hb ⊢
  grind
 refine⟨fun j hj=>?_,h.rt,fun y hy hk=>?_,h.once,h.f2,fun y hy hk=>?_,h.f5,fun c k hc=>?_,fun c d k hc=>?_,h.tk,h.ck,fun c k hc=>?_,h.dn⟩
 ·obtain⟨k1,k2,k3,k4,k5,k6,k7,k8⟩:=h.ms j hj;by_cases sM:j=i
  ·subst sM;simp only [bj,active];exact⟨by simp,fun _=>⟨n1,n2,Nat.le_refl _⟩,fun h=>absurd h (by simp),fun h=>absurd h (by simp),fun _=>k5 (by omega),fun _=>k6 (by omega),fun _=>k7 (by omega),fun _ ho=>ht ho⟩
  ·simp only [cg _ _ sM];refine⟨k1,k2,fun hq=>?_,k4,k5,k6,k7,k8⟩;obtain⟨q1,q2,q3,q4,q5⟩:=k3 hq;refine⟨q1,q2,q3,?_,q5⟩;simp only [bP];rw [if_neg]
   ·exact q4
   ·intro e;rw [e,w2]at q3;cases q3
 ·obtain⟨q1,q2,q3,q4,q5⟩:=h.f1 y hy hk;refine⟨q1,q2,q3,?_,q5⟩;simp only [Mc.has,bP,active]at q4 ⊢
  grind
 ·rcases h.f3 y hy hk with q | ⟨q1,q2⟩
  ·exact .inl q
  ·exact .inr ⟨q1,hZ _ _ q2⟩
 ·obtain⟨q1,q2,q3⟩:=h.cl c k hc;exact⟨q1,q2,hZ _ _ q3⟩
 ·obtain⟨q1,q2⟩:=h.an c d k hc;exact⟨hZ _ _ q1,q2⟩
 ·simp only [bP]at hc;by_cases hh:c=(s.ms i).c
  ·subst hh;rw [if_pos rfl]at hc;cases hc;exact⟨a,p,k1,w1,w2,w3,by rw [w4]⟩
  ·rw [if_neg hh]at hc;exact h.pr c k hc
end Go.Cp
