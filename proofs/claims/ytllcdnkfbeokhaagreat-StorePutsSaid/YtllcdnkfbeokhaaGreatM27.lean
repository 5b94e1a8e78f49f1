/- The store's walker. -/
import Derived.Test.YtllcdnkfbeokhaaGreatM26
open Go.IntKind renaming wrap -> ae
open Go.Proofs.Tryz renaming prog -> ax8
open Go.Value renaming int -> ayD
open Int renaming toNat -> ag, toNat_natCast -> ax3
open List renaming append_assoc -> ayl, flatMap_cons -> ayn, flatMap_nil -> ayx, getD_cons_zero -> ah, getD_eq_getElem?_getD -> ayk, getElem?_eq_getElem -> ays, length_append -> axP, length_singleton -> axR, mem_range -> ayc
namespace Go.RX.Vb
open Go.RX Go.Proofs
set_option maxRecDepth 100000
def HC(al:PT)(_ _ _ _ _ _ _ _ _ _ _ _ _ _ _ _ _ _ dt cO d_ gN eT ff e9:Int)(_ _ _ _ _ _ _ _ _ _ dM dx dC _ _ _ _ _ _ _ _ _:Nat->Int)(_ v1 _ _ _ _ _:V1)(p0:HP):Prop:=
 ∀_:Nat,ay (0<=ff) (
 ay (0<=e9) (
 fj (32*e9) ((
 fj (ff+(32*e9)) ((
 ay (0<=d_) (
 fj (16*d_) ((
 fj ((ff+(32*e9))+(16*d_)) ((
 ay (0<=gN) (
 fj (((ff+(32*e9))+(16*d_))+gN) ((
 ay (0<=eT) (
 fj ((((ff+(32*e9))+(16*d_))+gN)+eT) ((
 ay (0<=dt) (
 fj (40*dt) ((
 fj (((((ff+(32*e9))+(16*d_))+gN)+eT)+(40*dt)) ((
 ay (0<=cO) (
 ∃(bO:Ext->Prop) (dG:Ext->Nat),(∃i_ ki:Int,(ae .i64 i_)=(((((ff+(32*e9))+(16*d_))+gN)+eT)+(40*dt))/\ki=0/\bO ⟨[],[],[i_,ki],[],[],[],[]⟩)/\
 ∀i_ ki:Int,bO ⟨[],[],[i_,ki],[],[],[],[]⟩->
 bf (ki<cO) (
 ∃HD:Ext->Prop,(∀(w:World) (Fs:List HP),aU ([m9 v1 cO dM dx dC,p0]++Fs) w->∃(v7:V1) (iM:Int) (iB jk iG kH mT mQ oS qH pK qI rO sH sI vo vp uU wD vq wE wF:Nat->Int),aU ([aA false 68 3 v1.v (ag cO) (aG (ag cO) [ax .u8 1 dM,ax .u8 1 dx,cV 1 (λj=>if j=(ag ki)then v7.v else bg (dC j))]),p0,wu v7 iM iB jk iG kH mT mQ oS qH pK qI rO sH sI vo vp uU wD vq wE wF]++Fs) w/\HD ⟨[],[v7],[iM],[iB,jk,iG,kH,mT,mQ,oS,qH,pK,qI,rO,sH,sI,vo,vp,uU,wD,vq,wE,wF],[],[],[]⟩)/\
 (∀(v7:V1) (iM:Int) (iB jk iG kH mT mQ oS qH pK qI rO sH sI vo vp uU wD vq wE wF:Nat->Int),HD ⟨[],[v7],[iM],[iB,jk,iG,kH,mT,mQ,oS,qH,pK,qI,rO,sH,sI,vo,vp,uU,wD,vq,wE,wF],[],[],[]⟩->
 ay (0<=ki) (
 ∀_:Nat,∃HD:Ext->Prop,(∀(w:World) (Fs:List HP),aU ([aA false 68 3 v1.v (ag cO) (aG (ag cO) [ax .u8 1 dM,ax .u8 1 dx,cV 1 (λj=>if j=(ag ki)then v7.v else bg (dC j))]),wu v7 iM iB jk iG kH mT mQ oS qH pK qI rO sH sI vo vp uU wD vq wE wF]++Fs) w->aU ([m9 v1 cO dM dx dC,wu v7 iM iB jk iG kH mT mQ oS qH pK qI rO sH sI vo vp uU wD vq wE wF]++Fs) w/\HD ⟨[],[],[],[],[],[],[]⟩)/\
 (HD ⟨[],[],[],[],[],[],[]⟩->
 ay (0<=iM) (
 ∃(uu:Ext->Prop) (Jn:Ext->Nat),(∃jY rj:Int,(ae .i64 jY)=(ae .i64 i_)/\rj=0/\uu ⟨[],[],[jY,rj],[],[],[],[]⟩)/\
 ∀jY rj:Int,uu ⟨[],[],[jY,rj],[],[],[],[]⟩->
 bf (rj<iM) (
 ∃BG:Ext->Prop,(∀(w:World) (Fs:List HP),aU ([wu v7 iM iB jk iG kH mT mQ oS qH pK qI rO sH sI vo vp uU wD vq wE wF,p0]++Fs) w->∃(v8:V1) (pR:Int) (Jg C5 HE:Nat->Int),aU ([R3 v7 iM iB jk iG kH mT mQ oS qH pK qI rO sH sI rj v8 vo vp uU wD vq wE wF,p0,sG v8 pR Jg C5 HE]++Fs) w/\BG ⟨[],[v8],[pR],[Jg,C5,HE],[],[],[]⟩)/\
 (∀(v8:V1) (pR:Int) (Jg C5 HE:Nat->Int),BG ⟨[],[v8],[pR],[Jg,C5,HE],[],[],[]⟩->
 ay (0<=rj) (
 ∀_:Nat,∃BG:Ext->Prop,(∀(w:World) (Fs:List HP),aU ([R3 v7 iM iB jk iG kH mT mQ oS qH pK qI rO sH sI rj v8 vo vp uU wD vq wE wF,sG v8 pR Jg C5 HE]++Fs) w->aU ([wu v7 iM iB jk iG kH mT mQ oS qH pK qI rO sH sI vo vp uU wD vq wE wF,sG v8 pR Jg C5 HE]++Fs) w/\BG ⟨[],[],[],[],[],[],[]⟩)/\
 (BG ⟨[],[],[],[],[],[],[]⟩->
 ay (0<=pR) (
 fj (68*pR) ((
 fj (400+(68*pR)) ((
 fj (rj+1) ((
 ∃BG:Ext->Prop,(∀(w:World) (Fs:List HP),aU ([sG v8 pR Jg C5 HE]++Fs) w->aU ([]++Fs) w/\BG ⟨[],[],[],[],[],[],[]⟩)/\
 (BG ⟨[],[],[],[],[],[],[]⟩->
 ∃So Sp:Int,(ae .i64 So)=(ae .i64 ((ae .i64 jY)+(400+(68*pR))))/\Sp=(rj+1)/\Dn uu Jn ⟨[],[],[So,Sp],[],[],[],[]⟩ ⟨[],[],[jY,rj],[],[],[],[]⟩)))))))))))) (
 fj (ki+1) ((
 ∃BG:Ext->Prop,(∀(w:World) (Fs:List HP),aU ([wu v7 iM iB jk iG kH mT mQ oS qH pK qI rO sH sI vo vp uU wD vq wE wF]++Fs) w->aU ([]++Fs) w/\BG ⟨[],[],[],[],[],[],[]⟩)/\
 (BG ⟨[],[],[],[],[],[],[]⟩->
 ∃Sq Sr:Int,(ae .i64 Sq)=(ae .i64 jY)/\Sr=(ki+1)/\Dn bO dG ⟨[],[],[Sq,Sr],[],[],[],[]⟩ ⟨[],[],[i_,ki],[],[],[],[]⟩))))))))) (
 al (.bool (decide (60000<(ae .i64 i_)))) []))))))))))))))))))))))))
theorem Ss(al:PT)(x0 x1 x2 x3 x4 x5 x6 x7 x8 x9 bA bH bR bN dP b_ dD cq dt cO d_ gN eT ff e9:Int)(A0 A1 A2 A3 A4 A5 A6 A7 A8 A9 dM dx dC fH gw gx fw eY eQ fb fg fR:Nat->Int)(v0 v1 v2 v3 v4 v5 v6:V1)(p0:HP)(h:HC al x0 x1 x2 x3 x4 x5 x6 x7 x8 x9 bA bH bR bN dP b_ dD cq dt cO d_ gN eT ff e9 A0 A1 A2 A3 A4 A5 A6 A7 A8 A9 dM dx dC fH gw gx fw eY eQ fb fg fR v0 v1 v2 v3 v4 v5 v6 p0):ao ax8 8 [yW A0 x0 x1 x2 A1 A2 v0 x3 v1 x4 x5 A3 v2 x6 A4 (!(x7==0)) x8 x9 bA A5 A6 A7 v3 bH v4 bR bN dP b_ dD cq v5 v6] [m8 v0 dt A8 A9,m9 v1 cO dM dx dC,mu v2 d_ fH,bQ v3 gN gw,mr v4 eT gx fw,bQ v5 ff eY,qw v6 e9 eQ fb fg fR,p0] al:=
 qv (C:=ak2) Wc.abb Wc.Sn Wc.HB ⟨[x0,x1,x2,x3,x4,x5,x6,x7,x8,x9,bA,bH,bR,bN,dP,b_,dD,cq,dt,cO,d_,gN,eT,ff,e9],[A0,A1,A2,A3,A4,A5,A6,A7,A8,A9,dM,dx,dC,fH,gw,gx,fw,eY,eQ,fb,fg,fR],[],[],[v0,v1,v2,v3,v4,v5,v6],[],[p0],[]⟩ 0 Tryz.func8 (by kernel_rfl) h
open Go.RX Go.Proofs
noncomputable def cxK:Ctx:={T:=TT,FT:=FT,bj:=Vz.Sj}
open Go.RX Go.Proofs
set_option maxRecDepth 100000
def HF(al:PT):Prop:=
 Cl 20 [] [] λx hs _=> ∃(v0 v1 v2 v3 v4 v5 v6:V1) (x0 x1 x2 x3 x4 x5 x6 x7 x8 x9 bA bH bR bN dP b_ dD cq dt cO d_ gN eT ff e9:Int) (A0 A1 A2 A3 A4 A5 A6 A7 A8 A9 dM dx dC fH gw gx fw eY eQ fb fg fR:Nat->Int),∃p0:HP,x=yW A0 x0 x1 x2 A1 A2 v0 x3 v1 x4 x5 A3 v2 x6 A4 (!(x7==0)) x8 x9 bA A5 A6 A7 v3 bH v4 bR bN dP b_ dD cq v5 v6/\hs=[wm v0 dt A8 A9,LK v1 cO dM dx dC,wq v2 d_ fH,cr v3 gN gw,wo v4 eT gx fw,cr v5 ff eY,wk v6 e9 eQ fb fg fR,p0]/\
 ∀_:Nat,Cl 9 [yW A0 x0 x1 x2 A1 A2 v0 x3 v1 x4 x5 A3 v2 x6 A4 (!(x7==0)) x8 x9 bA A5 A6 A7 v3 bH v4 bR bN dP b_ dD cq v5 v6] [wm v0 dt A8 A9,LK v1 cO dM dx dC,wq v2 d_ fH,cr v3 gN gw,wo v4 eT gx fw,cr v5 ff eY,wk v6 e9 eQ fb fg fR,p0] λx hs l=> ∃(v7:V1) (i_ ki:Int) (iB:Nat->Int),x= .tuple #[v7.v,.int .i64 i_]/\hs=l++[cr v7 ki iB]/\
 Cl 17 [v7.v] [cr v7 ki iB] λx hs l=> ∃(v8 v9 v10 v11 xj tL CM:V1) (iM jY rj pR jw LX Ah uV uW Jh C6 x38 Su Ai J2 OA Zg x44 W3 x46 x47 J3 EY x50 P8 W4:Int) (jk iG kH mT mQ oS qH pK qI rO sH sI vo vp uU wD vq wE wF Jg C5 HE:Nat->Int),∃_:HP,x= .tuple #[yW jk iM jY rj iG kH v8 pR v9 jw LX mT v10 Ah mQ (!(uV==0)) uW Jh C6 oS qH pK v11 x38 xj Su Ai J2 OA Zg x44 tL CM,.int .i64 W4]/\hs=l++[wm v8 W3 qI rO,LK v9 x46 sH sI vo,wq v10 x47 vp,cr v11 J3 uU,wo xj EY wD vq,cr tL x50 wE,wk CM P8 wF Jg C5 HE]/\
 ∀_:Nat,ay (((¬(i_=0))\/(¬(W4=0)))\/(0<=ki)) (
 bf (¬(((¬(i_=0))\/(¬(W4=0)))\/(ki<100))) (
 Cl 13 [yW jk iM jY rj iG kH v8 pR v9 jw LX mT v10 Ah mQ (!(uV==0)) uW Jh C6 oS qH pK v11 x38 xj Su Ai J2 OA Zg x44 tL CM] [wm v8 W3 qI rO,LK v9 x46 sH sI vo,wq v10 x47 vp,cr v11 J3 uU,wo xj EY wD vq,cr tL x50 wE,wk CM P8 wF Jg C5 HE,p0] <| Y9 λ_ x53 A45=>
 Cl 13 [(if(!(((!(i_==0))||(!(W4==0)))||(decide (ki<100))))then yW A0 x0 x1 x2 A1 A2 v0 x3 v1 x4 x5 A3 v2 x6 A4 (!(x7==0)) x8 x9 bA A5 A6 A7 v3 bH v4 bR bN dP b_ dD cq v5 v6 else undef)] [wm v0 dt A8 A9,LK v1 cO dM dx dC,wq v2 d_ fH,cr v3 gN gw,wo v4 eT gx fw,cr v5 ff eY,wk v6 e9 eQ fb fg fR,p0] λx hs l=> ∃(By:V1) (x54:Int) (Sv:Nat->Int),x=By.v/\hs=l++[cr By x54 Sv]/\
 bf (eB (xY A45 x53)=eB (xY Sv x54)) (
 Cl 10 [yW A0 x0 x1 x2 A1 A2 v0 x3 v1 x4 x5 A3 v2 x6 A4 (!(x7==0)) x8 x9 bA A5 A6 A7 v3 bH v4 bR bN dP b_ dD cq v5 v6] [wm v0 dt A8 A9,LK v1 cO dM dx dC,wq v2 d_ fH,cr v3 gN gw,wo v4 eT gx fw,cr v5 ff eY,wk v6 e9 eQ fb fg fR,p0] <| hd8 λq0=>
 bf (¬(q0=true)) (
 al (.bool false) []) (
 Cl 17 [.slice none 0 0] [] λx hs _=> ∃(tM tw yZ v20 W5 DX zQ:V1) (x55 x56 x57 LY x59 Zh x61 x62 Vv P9 x_ LZ x67 W6 x69 x70 x71 x72 x73 x74 x75 x76 x77 x78 x79 W7:Int) (P_ Sw A49 A50 A51 Sx A53 A54 A55 A56 A57 A58 A59 W8 W9 W_ Xa Xb A65 A66 A67 A68:Nat->Int),∃_:HP,x= .tuple #[yW P_ x55 x56 x57 Sw A49 tM LY tw x59 Zh A50 yZ x61 A51 (!(x62==0)) Vv P9 x_ Sx A53 A54 v20 LZ W5 x67 W6 x69 x70 x71 x72 DX zQ,.int .i64 W7]/\hs=[wm tM x73 A55 A56,LK tw x74 A57 A58 A59,wq yZ x75 W8,cr v20 x76 W9,wo W5 x77 W_ Xa,cr DX x78 Xb,wk zQ x79 A65 A66 A67 A68]/\
 ∀_:Nat,ay (0<=ki) (
 fj (ki - 1) ((
 ay (0<=(ki - 1)) (
 ay ((ki - 1)<=ki) (
 Cl 17 [(aK 1 v7.v 0 (ag (ki - 1)) none)] [cr v7 ki iB] λx hs l=> ∃(HG CN Aj HH J4 Ji v30:V1) (x81 x82 CO J5 Qa Qb CP x88 x89 x90 x91 x92 x93 x94 x95 x96 x97 x98 x99 ak6 ak7 ak8 ak9 ak_ ala agc:Int) (A69 A70 A71 A72 A73 A74 A75 A76 A77 A78 A79 A80 A81 A82 A83 A84 A85 A86 A87 A88 A89 A90:Nat->Int),∃_:HP,x= .tuple #[yW A69 x81 x82 CO A70 A71 HG J5 CN Qa Qb A72 Aj CP A73 (!(x88==0)) x89 x90 x91 A74 A75 A76 HH x92 J4 x93 x94 x95 x96 x97 x98 Ji v30,.int .i64 agc]/\hs=l++[wm HG x99 A77 A78,LK CN ak6 A79 A80 A81,wq Aj ak7 A82,cr HH ak8 A83,wo J4 ak9 A84 A85,cr Ji ak_ A86,wk v30 ala A87 A88 A89 A90]/\
 ∀_:Nat,Cl 9 [zv3 A0 x0 x1 x2 A1 A2 v0 x3 v1 A3 v2 x6 A4 (!(x7==0)) x8 x9 bA A5 A6 A7 v3 bH v4 bR bN dP b_ dD cq v5 v6] [wm v0 dt A8 A9,LK v1 cO dM dx dC,wq v2 d_ fH,cr v3 gN gw,wo v4 eT gx fw,cr v5 ff eY,wk v6 e9 eQ fb fg fR,p0] λx hs l=> ∃(v31:V1) (alb asp:Int) (A91:Nat->Int),x= .tuple #[v31.v,.int .i64 alb]/\hs=l++[cr v31 asp A91]/\
 bf (((W7=9)/\(agc=9))/\(alb=2)) (
 Cl 10 [zv3 A0 x0 x1 x2 A1 A2 v0 x3 v1 A3 v2 x6 A4 (!(x7==0)) x8 x9 bA A5 A6 A7 v3 bH v4 bR bN dP b_ dD cq v5 v6] [wm v0 dt A8 A9,LK v1 cO dM dx dC,wq v2 d_ fH,cr v3 gN gw,wo v4 eT gx fw,cr v5 ff eY,wk v6 e9 eQ fb fg fR,p0] <| hd8 λq1=>
 al (.bool (!q1)) []) (
 al (.bool false) [])))))))) (
 al (.bool false) [])) (
 al (.bool false) []))
theorem Sy(al:PT)(h:HF al):ao ax8 7 [] [] al:=
 qv (C:=cxK) [] [] ⟨0,0,0,0,0,0,0⟩ ⟨[],[],[],[],[],[],[],[]⟩ 0 Tryz.func7 (by kernel_rfl) h
open Go.RX Go.Proofs
set_option maxRecDepth 100000
set_option maxHeartbeats 4000000
def Sz(al:PT)(x0 x1 x2 x3 x4 x5 x6 x7 x8 x9 bA bH bR bN dP b_ dD cq dt cO d_ gN eT ff e9 i_:Int)(A0 A1 A2 A3 A4 A5 A6 A7 A8 A9 dM dx dC fH gw gx fw eY eQ fb fg fR iB:Nat->Int)(_ v1 v2 v3 v4 v5 v6 v7:V1)(b0 b1:Nat)(p0:HP):Prop:=
 ∀_ _:Nat,ay (0<=x0) (
 j8 (x0+32) (
 ∀(v8:V1) (_:Nat),Cl 21 [pp b0,.int .u64 x1,.int .i64 8] [gu b0 v8,cr v8 (x0+32) (bV A0 (ag x0) 32 A1)] <| nV b0 λv9 ki iM jk _=>
 ∀b5 _ _ _:Nat,Cl 21 [pp b0,.int .u64 (ae .u64 x2),.int .i64 1] [gu b0 v9,cr v9 iM jk] λx hs _=> ∃(v10:V1) (jY rj:Int) (iG:Nat->Int) (_:Bool),x= .int .u64 jY/\hs=[gu b0 v10,cr v10 rj iG]/\
 Cl 21 [pp b0,.int .u64 (ae .u64 x3),.int .i64 1] [gu b0 v10,cr v10 rj iG] λx hs _=> ∃(v11:V1) (pR jw:Int) (kH:Nat->Int) (_:Bool),x= .int .u64 pR/\hs=[gu b0 v11,cr v11 jw kH]/\
 ∀_:Nat,ay (0<=jw) (
 j8 (jw+32) (
 ∀_:V1,ay (0<=(jw+32)) (
 j8 ((jw+32)+32) (
 ∀tL:V1,ay (0<=cO) (
 Cl 21 [pp b0,.int .u64 (ae .u64 cO),.int .i64 4] [gu b0 tL,cr tL ((jw+32)+32) (bV (bV kH (ag jw) 32 A2) (ag (jw+32)) 32 A3)] <| nV b0 λCM _ Ah mT _=>
 ∃(bO:Ext->Prop) (dG:Ext->Nat),(∃(xk:V1) (uV uW:Int) (mQ:Nat->Int) (q4:Bool),uV=0/\xk=CM/\xk=CM/\uW=Ah/\cG uW mQ mT/\bO ⟨[],[xk],[uV,uW],[mQ],[q4],[],[]⟩)/\
 ∀(xk:V1) (uV uW:Int) (mQ:Nat->Int) (q4:Bool),bO ⟨[],[xk],[uV,uW],[mQ],[q4],[],[]⟩->
 bf (uV<cO) (
 ay (0<=uV) (
 ∀_ _:Nat,Cl 21 [pp b0,.int .u64 (ae .u64 (A9 (ag uV))),.int .i64 4] [gu b0 xk,cr xk uW mQ] <| nV b0 λ_ _ C6 oS _=>
 ∀_:Nat,ay (0<=C6) (
 j8 (C6+32) (
 ∀tM:V1,fj (uV+1) ((
 ∃(abo:V1) (OB J6:Int) (agd:Nat->Int) (q4':Bool),OB=(uV+1)/\abo=tM/\abo=tM/\J6=(C6+32)/\cG J6 agd (bV oS (ag C6) 32 (bx dM (ag (uV*32))))/\Dn bO dG ⟨[],[abo],[OB,J6],[agd],[q4'],[],[]⟩ ⟨[],[xk],[uV,uW],[mQ],[q4],[],[]⟩)))))) (
 Cl 21 [pp b0,.int .u64 (ae .u64 x4),.int .i64 4] [gu b0 xk,cr xk uW mQ] <| nV b0 λBy Jh C6 oS _=>
 fj Jh ((
 ay (0<=d_) (
 Cl 21 [pp b0,.int .u64 (ae .u64 d_),.int .i64 4] [gu b0 By,cr By C6 oS] <| nV b0 λtM _ Su qH _=>
 ∃(mc:Ext->Prop) (xp:Ext->Nat),(∃(tw:V1) (Ai J2:Int) (pK:Nat->Int) (q7:Bool),Ai=0/\tw=tM/\tw=tM/\J2=Su/\cG J2 pK qH/\mc ⟨[],[tw],[Ai,J2],[pK],[q7],[],[]⟩)/\
 ∀(tw:V1) (Ai J2:Int) (pK:Nat->Int) (q7:Bool),mc ⟨[],[tw],[Ai,J2],[pK],[q7],[],[]⟩->
 bf (Ai<d_) (
 ay (0<=Ai) (
 ∀y4:Nat,Cl 102 [pp y4,pp b5] [gu b0 tw,cr tw J2 pK,ak y4 true ([.int .u8 (dx (ag Ai)),.int .u8 (dC (ag Ai)),(bg (fH (ag Ai)))]),pJ b5 b0,p0] λx hs _=> ∃(yZ:V1) (OA:Int) (qI:Nat->Int) (_:Bool),x= .tuple #[]/\hs=[gu b0 yZ,cr yZ OA qI,ak y4 true ([.int .u8 (dx (ag Ai)),.int .u8 (dC (ag Ai)),(bg (fH (ag Ai)))]),pJ b5 b0,p0]/\
 fj (Ai+1) ((
 ∃(J7:V1) (age abp:Int) (agf:Nat->Int) (q7':Bool),age=(Ai+1)/\J7=yZ/\J7=yZ/\abp=OA/\cG abp agf qI/\Dn mc xp ⟨[],[J7],[age,abp],[agf],[q7'],[],[]⟩ ⟨[],[tw],[Ai,J2],[pK],[q7],[],[]⟩)))) (
 ∀_ _ _:Nat,Cl 21 [pp b0,.int .u64 (ae .u64 x5),.int .i64 1] [gu b0 tw,cr tw J2 pK] <| nV b0 λyZ OA Zg qI _=>
 Cl 21 [pp b0,.int .u64 (ae .u64 x6),.int .i64 1] [gu b0 yZ,cr yZ Zg qI] λx hs _=> ∃(v20:V1) (x44 W3:Int) (rO:Nat->Int) (_:Bool),x= .int .u64 x44/\hs=[gu b0 v20,cr v20 W3 rO]/\
 ay (0<=W3) (
 j8 (W3+8) (
 ∀W5:V1,ay (0<=gN) (
 Cl 21 [pp b0,.int .u64 (ae .u64 gN),.int .i64 4] [gu b0 W5,cr W5 (W3+8) (bV rO (ag W3) 8 A4)] <| nV b0 λDX _ x47 sH _=>
 ∃(kz:Ext->Prop) (tO:Ext->Nat),(∃(zQ:V1) (J3 EY:Int) (sI:Nat->Int) (HI:Bool),J3=0/\zQ=DX/\zQ=DX/\EY=x47/\cG EY sI sH/\kz ⟨[],[zQ],[J3,EY],[sI],[HI],[],[]⟩)/\
 ∀(zQ:V1) (J3 EY:Int) (sI:Nat->Int) (HI:Bool),kz ⟨[],[zQ],[J3,EY],[sI],[HI],[],[]⟩->
 bf (J3<gN) (
 ay (0<=J3) (
 ∀_:Nat,ay (0<=EY) (
 j8 (EY+16) (
 ∀HG:V1,fj (J3+1) ((
 ∃(J8:V1) (agh abq:Int) (agi:Nat->Int) (Xc:Bool),agh=(J3+1)/\J8=HG/\J8=HG/\abq=(EY+16)/\cG abq agi (bV sI (ag EY) 16 (bx gw (ag (J3*16))))/\Dn kz tO ⟨[],[J8],[agh,abq],[agi],[Xc],[],[]⟩ ⟨[],[zQ],[J3,EY],[sI],[HI],[],[]⟩)))))) (
 ∀_:Nat,Cl 21 [pp b0,.int .u64 (ae .u64 x7),.int .i64 1] [gu b0 zQ,cr zQ EY sI] <| nV b0 λ_ x50 P8 vo _=>
 ay (0<=P8) (
 j8 (P8+16) (
 ∀(CN:V1) (Xd:Nat),Cl 58 [pp b0,.slice (some ⟨Xd,0,none⟩) 1 1] [gu b0 CN,cr CN (P8+16) (bV vo (ag P8) 16 A5),Rs b1 A1 ki (ae .u8 jY) (ae .u8 pR) A2 A3 v1 Jh v2 (ae .u8 OA) (ae .u8 x44) A4 v3 (ae .u8 x50) A5 (!(x8==0)) x9 bA bH A6 A7 A8 v4 bR v5 bN dP b_ dD cq dt v6 v7,JW Xd b1] λx hs _=> ∃(Aj:V1) (W4:Int) (vp:Nat->Int) (_:Bool),x= .tuple #[]/\hs=[gu b0 Aj,cr Aj W4 vp,Rs b1 A1 ki (ae .u8 jY) (ae .u8 pR) A2 A3 v1 Jh v2 (ae .u8 OA) (ae .u8 x44) A4 v3 (ae .u8 x50) A5 (!(x8==0)) x9 bA bH A6 A7 A8 v4 bR v5 bN dP b_ dD cq dt v6 v7,JW Xd b1]/\
 ∀_:Nat,Cl 21 [pp b0,.int .u64 (ae .u64 x9),.int .i64 1] [gu b0 Aj,cr Aj W4 vp] λx hs _=> ∃(HH:V1) (x53 x54:Int) (uU:Nat->Int) (_:Bool),x= .int .u64 x53/\hs=[gu b0 HH,cr HH x54 uU]/\
 ∀_ _:Nat,Cl 21 [pp b0,.int .u64 (ae .u64 bA),.int .i64 1] [gu b0 HH,cr HH x54 uU] λx hs _=> ∃(J4:V1) (x55 x56:Int) (wD:Nat->Int) (_:Bool),x= .int .u64 x55/\hs=[gu b0 J4,cr J4 x56 wD]/\
 Cl 21 [pp b0,.int .u64 (ae .u64 bH),.int .i64 1] [gu b0 J4,cr J4 x56 wD] λx hs _=> ∃(Ji:V1) (x57 LY:Int) (vq:Nat->Int) (_:Bool),x= .int .u64 x57/\hs=[gu b0 Ji,cr Ji LY vq]/\
 ∀_:Nat,ay (0<=LY) (
 j8 (LY+32) (
 ∀_:V1,ay (0<=(LY+32)) (
 j8 ((LY+32)+32) (
 ∀_:V1,ay (0<=((LY+32)+32)) (
 ay ((((LY+32)+32)+32)<=140737488355328) (
 ∀v32:V1,ay (0<=eT) (
 Cl 21 [pp b0,.int .u64 (ae .u64 eT),.int .i64 4] [gu b0 v32,cr v32 (((LY+32)+32)+32) (bV (bV (bV vq (ag LY) 32 A6) (ag (LY+32)) 32 A7) (ag ((LY+32)+32)) 32 A8)] <| nV b0 λ_ _ Zh wE _=>
 ay (0<=Zh) (
 j8 (Zh+eT) (
 ∀Zi:V1,fj (bR+1) ((
 Cl 21 [pp b0,.int .u64 (ae .u64 (bR+1)),.int .i64 1] [gu b0 Zi,cr Zi (Zh+eT) (bV wE (ag Zh) (ag eT) gx)] <| nV b0 λv35 x61 x62 wF _=>
 fj x61 ((
 fj (x61 - 1) ((
 ay (0<=ff) (
 Cl 21 [pp b0,.int .u64 (ae .u64 ff),.int .i64 4] [gu b0 v35,cr v35 x62 wF] <| nV b0 λv36 _ P9 Jg _=>
 ∃(sJ:Ext->Prop) (HJ:Ext->Nat),(∃(OC:V1) (x_ LZ:Int) (C5:Nat->Int) (Xe:Bool),x_=0/\OC=v36/\OC=v36/\LZ=P9/\cG LZ C5 Jg/\sJ ⟨[],[OC],[x_,LZ],[C5],[Xe],[],[]⟩)/\
 ∀(OC:V1) (x_ LZ:Int) (C5:Nat->Int) (Xe:Bool),sJ ⟨[],[OC],[x_,LZ],[C5],[Xe],[],[]⟩->
 bf (x_<ff) (
 ay (0<=x_) (
 ∀_ _ _:Nat,Cl 21 [pp b0,.int .u64 (ae .u64 (fw (ag x_))),.int .i64 1] [gu b0 OC,cr OC LZ C5] <| nV b0 λVy _ W6 HE _=>
 Cl 21 [pp b0,.int .u64 (ae .u64 (eY (ag x_))),.int .i64 1] [gu b0 Vy,cr Vy W6 HE] λx hs _=> ∃(SA:V1) (x69 x70:Int) (A45:Nat->Int) (_:Bool),x= .int .u64 x69/\hs=[gu b0 SA,cr SA x70 A45]/\
 fj (x_+1) ((
 ∃(abr:V1) (J9 abt:Int) (agl:Nat->Int) (alc:Bool),J9=(x_+1)/\abr=SA/\abr=SA/\abt=x70/\cG abt agl A45/\Dn sJ HJ ⟨[],[abr],[J9,abt],[agl],[alc],[],[]⟩ ⟨[],[OC],[x_,LZ],[C5],[Xe],[],[]⟩)))) (
 ∀_:Nat,Cl 21 [pp b0,.int .u64 bN,.int .i64 8] [gu b0 OC,cr OC LZ C5] <| nV b0 λVy _ W6 HE _=>
 Cl 21 [pp b0,.int .u64 dP,.int .i64 8] [gu b0 Vy,cr Vy W6 HE] λx hs _=> ∃(SA:V1) (x69 x70:Int) (A45:Nat->Int) (_:Bool),x= .int .u64 x69/\hs=[gu b0 SA,cr SA x70 A45]/\
 Cl 21 [pp b0,.int .u64 b_,.int .i64 8] [gu b0 SA,cr SA x70 A45] λx hs _=> ∃(v40:V1) (x71 x72:Int) (Sv:Nat->Int) (_:Bool),x= .int .u64 x71/\hs=[gu b0 v40,cr v40 x72 Sv]/\
 Cl 21 [pp b0,.int .u64 dD,.int .i64 8] [gu b0 v40,cr v40 x72 Sv] λx hs _=> ∃(Xf:V1) (x73 x74:Int) (P_:Nat->Int) (_:Bool),x= .int .u64 x73/\hs=[gu b0 Xf,cr Xf x74 P_]/\
 Cl 21 [pp b0,.int .u64 cq,.int .i64 8] [gu b0 Xf,cr Xf x74 P_] λx hs _=> ∃(v42:V1) (x75 x76:Int) (Sw:Nat->Int) (_:Bool),x= .int .u64 x75/\hs=[gu b0 v42,cr v42 x76 Sw]/\
 ∀_:Nat,Cl 21 [pp b0,.int .u64 (ae .u64 dt),.int .i64 4] [gu b0 v42,cr v42 x76 Sw] λx hs _=> ∃(v43:V1) (x77 x78:Int) (A49:Nat->Int) (_:Bool),x= .int .u64 x77/\hs=[gu b0 v43,cr v43 x78 A49]/\
 ay (0<=e9) (
 Cl 21 [pp b0,.int .u64 (ae .u64 e9),.int .i64 4] [gu b0 v43,cr v43 x78 A49] <| nV b0 λ_ _ W7 A50 _=>
 ay (0<=W7) (
 j8 (W7+e9) (
 ∀v45:V1,ay (0<=i_) (
 Cl 21 [pp b0,.int .u64 (ae .u64 i_),.int .i64 4] [gu b0 v45,cr v45 (W7+e9) (bV A50 (ag W7) (ag e9) eQ)] <| nV b0 λv46 _ x82 A51 _=>
 ∃(BH:Ext->Prop) (SB:Ext->Nat),(∃(C7:V1) (CO J5:Int) (Sx:Nat->Int) (q29:Bool),CO=0/\C7=v46/\C7=v46/\J5=x82/\cG J5 Sx A51/\BH ⟨[],[C7],[CO,J5],[Sx],[q29],[],[]⟩)/\
 ∀(C7:V1) (CO J5:Int) (Sx:Nat->Int) (q29:Bool),BH ⟨[],[C7],[CO,J5],[Sx],[q29],[],[]⟩->
 bf (CO<i_) (
 ay (0<=CO) (
 ∀Qc:Nat,ay (0<=J5) (
 j8 (J5+16) (
 ∀(Qd:V1) (_:Nat),Cl 21 [pp b0,.int .u64 (ae .u64 (fg (ag CO))),.int .i64 1] [gu b0 Qd,cr Qd (J5+16) (bV Sx (ag J5) 16 (bx fb (ag (CO*16))))] <| nV b0 λXg Qa Qb A53 _=>
 ∀b23:Nat,Cl 58 [pp b0,.slice (some ⟨b23,0,none⟩) 1 1] [gu b0 Xg,cr Xg Qb A53,G8 Qc (bx fb (ag (CO*16))) (ae .u8 Qa) (!((fR (ag CO))==0)) (iB (ag CO)),ak b23 true ([.pointer (some ⟨Qc,17,none⟩)])] λx hs _=> ∃(SC:V1) (CP:Int) (A54:Nat->Int) (_:Bool),x= .tuple #[]/\hs=[gu b0 SC,cr SC CP A54,G8 Qc (bx fb (ag (CO*16))) (ae .u8 Qa) (!((fR (ag CO))==0)) (iB (ag CO)),ak b23 true ([.pointer (some ⟨Qc,17,none⟩)])]/\
 ∀_:Nat,Cl 21 [pp b0,.int .u64 (iB (ag CO)),.int .i64 8] [gu b0 SC,cr SC CP A54] λx hs _=> ∃(SD:V1) (x88 x89:Int) (A55:Nat->Int) (_:Bool),x= .int .u64 x88/\hs=[gu b0 SD,cr SD x89 A55]/\
 fj (CO+1) ((
 ∃(J_:V1) (agn abw:Int) (ago:Nat->Int) (ale:Bool),agn=(CO+1)/\J_=SD/\J_=SD/\abw=x89/\cG abw ago A55/\Dn BH SB ⟨[],[J_],[agn,abw],[ago],[ale],[],[]⟩ ⟨[],[C7],[CO,J5],[Sx],[q29],[],[]⟩)))))) (
 al (.tuple #[]) [gu b0 C7,cr C7 J5 Sx]))))))))))))))))))))))))))))))))))))))))
theorem abx(al:PT)(x0 x1 x2 x3 x4 x5 x6 x7 x8 x9 bA bH bR bN dP b_ dD cq dt cO d_ gN eT ff e9 i_:Int)(A0 A1 A2 A3 A4 A5 A6 A7 A8 A9 dM dx dC fH gw gx fw eY eQ fb fg fR iB:Nat->Int)(v0 v1 v2 v3 v4 v5 v6 v7:V1)(b0 b1:Nat)(p0:HP)(h:Sz al x0 x1 x2 x3 x4 x5 x6 x7 x8 x9 bA bH bR bN dP b_ dD cq dt cO d_ gN eT ff e9 i_ A0 A1 A2 A3 A4 A5 A6 A7 A8 A9 dM dx dC fH gw gx fw eY eQ fb fg fR iB v0 v1 v2 v3 v4 v5 v6 v7 b0 b1 p0):ao ax8 32 [pp b0,pp b1] [gu b0 v0,cr v0 x0 A0,Rs b1 A1 x1 x2 x3 A2 A3 v1 x4 v2 x5 x6 A4 v3 x7 A5 (!(x8==0)) x9 bA bH A6 A7 A8 v4 bR v5 bN dP b_ dD cq dt v6 v7,m8 v1 cO A9 dM,m9 v2 d_ dx dC fH,mu v3 gN gw,bQ v4 eT gx,mr v5 ff fw eY,bQ v6 e9 eQ,qw v7 i_ fb fg fR iB,p0] al:=
 qv (C:=akG) Vd.stA Vd.hpO Vd.aas ⟨[x0,x1,x2,x3,x4,x5,x6,x7,x8,x9,bA,bH,bR,bN,dP,b_,dD,cq,dt,cO,d_,gN,eT,ff,e9,i_],[A0,A1,A2,A3,A4,A5,A6,A7,A8,A9,dM,dx,dC,fH,gw,gx,fw,eY,eQ,fb,fg,fR,iB],[],[b0,b1],[v0,v1,v2,v3,v4,v5,v6,v7],[],[p0],[]⟩ 2 Tryz.func32 (by kernel_rfl) h
open Go.RX Go.Proofs
set_option maxRecDepth 100000
def SE(al:PT)(x0 x1 x2 x3:Int)(A0 A1 A2 A3 A4 A5 A6 A7 A8 A9 dM dx dC fH gw gx fw eY eQ fb fg:Nat->Int)(v0 v1:V1)(b0 b1 b2:Nat)(p0:HP):Prop:=
 ∀_ _:Nat,Cl 21 [pp b0,.int .u64 (ae .u64 x1),.int .i64 1] [gu b0 v0,cr v0 x0 A0] <| nV b0 λv2 x4 x5 fR _=>
 Cl 21 [pp b0,.int .u64 (ae .u64 x2),.int .i64 1] [gu b0 v2,cr v2 x5 fR] λx hs _=> ∃(v3:V1) (x6 x7:Int) (iB:Nat->Int) (_:Bool),x= .int .u64 x6/\hs=[gu b0 v3,cr v3 x7 iB]/\
 ay (0<=x3) (
 Cl 21 [pp b0,.int .u64 (ae .u64 x3),.int .i64 4] [gu b0 v3,cr v3 x7 iB] <| nV b0 λv4 _ x9 jk _=>
 ∃(bO:Ext->Prop) (dG:Ext->Nat),(∃(v5:V1) (bA bH:Int) (iG:Nat->Int) (q3:Bool),bA=0/\v5=v4/\v5=v4/\bH=x9/\cG bH iG jk/\bO ⟨[],[v5],[bA,bH],[iG],[q3],[],[]⟩)/\
 ∀(v5:V1) (bA bH:Int) (iG:Nat->Int) (q3:Bool),bO ⟨[],[v5],[bA,bH],[iG],[q3],[],[]⟩->
 bf (bA<x3) (
 ay (0<=bA) (
 ∀b5:Nat,Cl 105 [pp b0,pp b5] [gu b0 v5,cr v5 bH iG,aav b5 (bx A1 (ag (bA*32))) (bx A2 (ag (bA*32))) (bx A3 (ag (bA*32))) (bx A4 (ag (bA*32))) (!((A5 (ag bA))==0)) (!((A6 (ag bA))==0)) (!((A7 (ag bA))==0)) (!((A8 (ag bA))==0)) (bx A9 (ag (bA*32))) (dM (ag bA)) (bx dx (ag (bA*32))) (dC (ag bA)) (fH (ag bA)) gw bA (bx gx (ag (bA*32))) (bx fw (ag (bA*32))) (!((eY (ag bA))==0)) (eQ (ag bA)) (!((fb (ag bA))==0)) (!((fg (ag bA))==0)),p0] λx hs _=> ∃(v6:V1) (bR:Int) (kH:Nat->Int) (_:Bool),x= .tuple #[]/\hs=[gu b0 v6,cr v6 bR kH,aav b5 (bx A1 (ag (bA*32))) (bx A2 (ag (bA*32))) (bx A3 (ag (bA*32))) (bx A4 (ag (bA*32))) (!((A5 (ag bA))==0)) (!((A6 (ag bA))==0)) (!((A7 (ag bA))==0)) (!((A8 (ag bA))==0)) (bx A9 (ag (bA*32))) (dM (ag bA)) (bx dx (ag (bA*32))) (dC (ag bA)) (fH (ag bA)) gw bA (bx gx (ag (bA*32))) (bx fw (ag (bA*32))) (!((eY (ag bA))==0)) (eQ (ag bA)) (!((fb (ag bA))==0)) (!((fg (ag bA))==0)),p0]/\
 fj (bA+1) ((
 ∃(Qp:V1) (F7 vr:Int) (HK:Nat->Int) (q3':Bool),F7=(bA+1)/\Qp=v6/\Qp=v6/\vr=bR/\cG vr HK kH/\Dn bO dG ⟨[],[Qp],[F7,vr],[HK],[q3'],[],[]⟩ ⟨[],[v5],[bA,bH],[iG],[q3],[],[]⟩)))) (
 al (.tuple #[]) [gu b0 v5,cr v5 bH iG,ak b1 true ([.int .u8 (ae .u8 x4),.int .u8 (ae .u8 x6),v1.v]),pJ b2 b0,wu v1 x3 A1 A2 A3 A4 A5 A6 A7 A8 A9 dM dx dC fH gw gx fw eY eQ fb fg,p0]))
theorem aby(al:PT)(x0 x1 x2 x3:Int)(A0 A1 A2 A3 A4 A5 A6 A7 A8 A9 dM dx dC fH gw gx fw eY eQ fb fg:Nat->Int)(v0 v1:V1)(b0 b1 b2:Nat)(p0:HP)(h:SE al x0 x1 x2 x3 A0 A1 A2 A3 A4 A5 A6 A7 A8 A9 dM dx dC fH gw gx fw eY eQ fb fg v0 v1 b0 b1 b2 p0):ao ax8 102 [pp b1,pp b2] [gu b0 v0,cr v0 x0 A0,ak b1 true ([.int .u8 x1,.int .u8 x2,v1.v]),pJ b2 b0,wu v1 x3 A1 A2 A3 A4 A5 A6 A7 A8 A9 dM dx dC fH gw gx fw eY eQ fb fg,p0] al:=
 qv (C:=akE) Ve.Rq Ve.hpO Ve.aas ⟨[x0,x1,x2,x3],[A0,A1,A2,A3,A4,A5,A6,A7,A8,A9,dM,dx,dC,fH,gw,gx,fw,eY,eQ,fb,fg],[],[b0,b1,b2],[v0,v1],[],[p0],[]⟩ 6 Tryz.func102 (by kernel_rfl) h
open Go Go.RX Go.Proofs Go.Vs
def cX(H h:HP):Prop:=h.wr=false/\∀w S,H.p w S->∃S':Nat->Prop,(∀k,S' k->S k)/\h.p w S'
theorem cX.SF{H h:HP}(hw:H.wr=false)(hg:cX H h):bq [H] [h,H]:=
 bq.trans (bq.dup hw []) (bq.put 0 H h rfl (λhh=>by rw[hg.1]at hh;cases hh) hg.2)
def dK{α:Type}(f:α->Bool)(s:List α):Nat->Int:=λj=>bi ((s.map f).getD j false)
theorem gW{α:Type}(f:α->Bool)(s:List α)(i:Nat)(h:i<s.length):dK f s i=bi (f s[i]):=by
 simp[dK,ayk,h]
abbrev cb{α:Type}(f:α->List Nat)(s:List α):Nat->Int:=aJ (s.flatMap f)
theorem iO{α:Type}(f:α->List Nat)(n:Nat)(s:List α)(hs: ∀x∈s,(f x).length=n)(i:Nat)(h:i<s.length):aj .u8 n (bx (cb f s) (ag ((i:Int)*(n:Int))))=aj .u8 n (aJ (f s[i])):=by
 unfold aj;refine List.map_congr_left λj hj=>?_
 have hj:=ayc.1 hj;show ayD _ (aJ _ (_+j))=_;rw[show ag ((i:Int)*(n:Int))=i*n by rw[<-Int.natCast_mul,ax3],jX f n s hs i j h hj]
abbrev ez(md:Bool)(v:Value)(s:List bX)(C:Nat->Int):HP:=aA md 77 268 v s.length (aG s.length [ax .u8 32 (cb (·.s.root) s),ax .u8 32 (cb (·.s.bind) s),ax .u8 32 (cb (·.s.own) s),ax .u8 32 (cb (·.s.cJ) s),cR 1 (dK (·.s.gi) s),cR 1 (dK (·.s.gj) s),cR 1 (dK (·.s.gk) s),cR 1 (dK (·.s.cS) s),ax .u8 32 (cb (·.s.send.key) s),ax .u32 1 (bu (·.s.send.n) s),ax .u8 32 (cb (·.s.recv.key) s),ax .u32 1 (bu (·.s.recv.n) s),ax .u32 1 (bu (·.s.prev) s),cV 1 (λj=>bg (C j)),ax .u8 32 (cb (·.ident) s),ax .u8 32 (cb (·.qG) s),cR 1 (dK (·.cZ) s),ax .u32 1 (bu (·.dH) s),cR 1 (dK (·.own) s),cR 1 (dK (·.current) s)])
def wG(H:HP)(s:List bX)(C:Nat->Int):Prop:= ∀(i:Nat) (h:i<s.length),cX H (nI false (bg (C i)) s[i].s.aC)
theorem OD{b b5:Nat}{v5:V1}{l:List Nat}{e:bX}{n c:Int}{A:Nat->Int}{H:HP}{row:List Value}{R:V1->Int->(Nat->Int)->Bool->Prop}(rM:row=j_ e (bg c))(hH:H.wr=false)(hb:cX H (nI false (bg c) e.s.aC))(he:mO e)
  (hA:cu A l) (hn:n=(l.length:Int)) (hl:l.length+(bS.enc e).length<=140737488355328) (h: ∀v':V1,R v' (((l++bS.enc e).length:Nat):Int) (aJ (l++bS.enc e)) false):
  ∃post,ao ax8 105 [.pointer (some ⟨b,0,none⟩),.pointer (some ⟨b5,0,none⟩)] [ak b true ([.bool true,v5.v,.bool false]),aA true 5 1 v5.v (ag n) (aG (ag n) [ax .u8 1 A]),ak b5 true row,H] post/\
   ∀y hs,post y hs->∃w1:V1,∃y1:Int,∃A':(Nat->Int),∃q:Bool,y= .tuple #[]/\hs=[ak b true ([.bool true,w1.v,.bool false]),aA true 5 1 w1.v (ag y1) (aG (ag y1) [ax .u8 1 A']),ak b5 true row,H]/\R w1 y1 A' q:=by
 subst rM hn;rw[ax3,hA.wj];have hm:=JZ b b5 v5 ⟨bg c,iU c⟩ l e he hl;refine⟨λr hs=>r= .tuple #[]/\∃v':V1,hs=[dB b true v'.v false,aN true v'.v (l++bS.enc e),ak b5 true (j_ e (bg c)),H],?_,?_⟩
 .refine(ao.pre (ao.frame hm [H]) (bq.front (A:=[dB b true v5.v false,aN true v5.v l,ak b5 true (j_ e (bg c))]) (cX.SF hH hb))).post ?_;rintro r hs ⟨lU,rfl,rfl,v',rfl⟩;exact⟨_,bq.sub (((((List.Sublist.refl _).cons _).cons_cons _).cons_cons _).cons_cons _),rfl,v',rfl⟩
 .rintro y hs ⟨rfl,v',rfl⟩;exact⟨v',_,_,false,rfl,rfl,h v'⟩
structure kb (p:eu):Prop where
 a:p.dev.a<256
 d:p.dev.d<256
 many:p.l.length<256^4
 qx: ∀e∈p.l,mO e
theorem CQ{n:Nat}(h:n<256):ae .u8 (n:Int)=(n:Int):=by
 rw[w8,Nat.mod_eq_of_lt h]
theorem wH(p:eu):bI.enc p=(be 1 p.dev.a++be 1 p.dev.d)++(be 4 p.l.length++p.l.flatMap bS.enc):=rfl
abbrev sK(p:eu)(v:Value):List Value:=[.int .u8 (p.dev.a:Int),.int .u8 (p.dev.d:Int),v]
set_option maxHeartbeats 2000000 in
theorem OE(b b1 b2:Nat)(v vs:V1)(l:List Nat)(p:eu)(C:Nat->Int)(H:HP)(hH:H.wr=false)(hS:wG H p.l C)(hp:kb p)(hl:l.length+(bI.enc p).length<=140737488355328):
  ao ax8 102 [wP b1,wP b2] [dB b true v.v false,aN true v.v l,ak b1 true (sK p vs.v),ak b2 true [wP b],ez false vs.v p.l C,H]
   λr hs=>r= .tuple #[]/\∃v':V1,hs=[dB b true v'.v false,aN true v'.v (l++bI.enc p),ak b1 true (sK p vs.v),ak b2 true [wP b],ez false vs.v p.l C,H]:=by
 have h1:=hp.a;have h2:=hp.d;have h3:=hp.many;have hL:(bI.enc p).length=6+(p.l.flatMap bS.enc).length:=by
  rw[wH];simp only[axP,aw];omega
 rw[hL]at hl;refine aby _ (l.length:Int) (p.dev.a:Int) (p.dev.d:Int) (p.l.length:Int) (aJ l) (cb (·.s.root) p.l) (cb (·.s.bind) p.l) (cb (·.s.own) p.l) (cb (·.s.cJ) p.l) (dK (·.s.gi) p.l) (dK (·.s.gj) p.l) (dK (·.s.gk) p.l) (dK (·.s.cS) p.l) (cb (·.s.send.key) p.l) (bu (·.s.send.n) p.l) (cb (·.s.recv.key) p.l) (bu (·.s.recv.n) p.l) (bu (·.s.prev) p.l) C (cb (·.ident) p.l) (cb (·.qG) p.l) (dK (·.cZ) p.l) (bu (·.dH) p.l) (dK (·.own) p.l) (dK (·.current) p.l) v vs b b1 b2 H ?_;unfold SE;dsimp only[cr,wu,aav,pJ,gu];intro _ _;refine aO (kn:=1) (x:=p.dev.a) (l:=l) (.inl ⟨rfl,rfl⟩) (jb (by omega)) cu.rfl rfl rfl (by omega) λv2=>?_
 refine aO (kn:=1) (x:=p.dev.d) (l:=l++be 1 p.dev.a) (.inl ⟨rfl,rfl⟩) (jb (by omega)) cu.rfl rfl rfl (by simp only[axP,aw];omega) λv3=>?_
 refine⟨by omega,λ_=>?_⟩;refine aO (kn:=4) (x:=p.l.length) (l:=l++be 1 p.dev.a++be 1 p.dev.d) (.inr (.inl ⟨rfl,rfl⟩)) (jb h3) cu.rfl rfl rfl (by simp only[axP,aw];omega) λv4=>?_
 obtain⟨L3,RZ⟩: ∃L,L=l++be 1 p.dev.a++be 1 p.dev.d++be 4 p.l.length:=⟨_,rfl⟩;have n3:L3.length=l.length+6:=by rw[RZ];(simp only[axP,aw])<;>omega
 rw[<-RZ];refine⟨λx=> ∃(i:Nat) (w:V1) (A:Nat->Int) (q:Bool),x=⟨[],[w],[(i:Int),((L3++(p.l.take i).flatMap bS.enc).length:Int)],[A],[q],[],[]⟩/\i<=p.l.length/\cu A (L3++(p.l.take i).flatMap bS.enc),λx=>p.l.length - (x.i.getD 0 0).toNat,?_,?_⟩
 .exact⟨v4,0,(L3.length:Int),aJ L3,false,rfl,rfl,rfl,rfl,λ_ _=>rfl,0,v4,aJ L3,false,by simp,by omega,by simpa using cu.rfl⟩
 rintro tL eT ff eY q5 ⟨i,w,A,q,hx,hi,hA⟩;simp only[Ext.mk.injEq,List.cons.injEq,and_true,true_and]at hx;obtain⟨rfl,⟨rfl,rfl⟩,rfl,rfl⟩:=hx;have ln:(((p.l.take i).flatMap bS.enc).length)+((p.l.drop i).flatMap bS.enc).length=(p.l.flatMap bS.enc).length:=by
  rw[<-axP,<-List.flatMap_append,List.take_append_drop]
 refine⟨λcC=>?_,λlS=>?_⟩
 .have cj:i<p.l.length:=by omega
  have Hv:p.l.drop i=p.l[i]::p.l.drop (i+1):=(List.getElem_cons_drop cj).symm;have vA:p.l.take (i+1)=p.l.take i++[p.l[i]]:=by rw[List.take_add_one,ays cj];rfl
  rw[Hv,ayn,axP]at ln;refine⟨by omega,λ_ b5=>?_⟩;refine OD (e:=p.l[i]) (c:=C i) (l:=L3++(p.l.take i).flatMap bS.enc) ?_ hH (hS i cj) (hp.qx _ (List.getElem_mem cj)) hA rfl (by simp only[axP];omega) λv6=>?_
  .have e32: ∀n:Nat,(i:Int)*32=(i:Int)*((32:Nat):Int):=λ_=>rfl
   rw[e32 0,iO (·.s.root) 32 p.l (λx hx=>by have h:=hp.qx x hx;exact h.root) i cj,iO (·.s.bind) 32 p.l (λx hx=>by have h:=hp.qx x hx;exact h.bind) i cj,iO (·.s.own) 32 p.l (λx hx=>by have h:=hp.qx x hx;exact h.own) i cj,iO (·.s.cJ) 32 p.l (λx hx=>by have h:=hp.qx x hx;exact h.cJ) i cj,iO (·.s.send.key) 32 p.l (λx hx=>by have h:=hp.qx x hx;exact h.sk) i cj,iO (·.s.recv.key) 32 p.l (λx hx=>by have h:=hp.qx x hx;exact h.rk) i cj,iO (·.ident) 32 p.l (λx hx=>by have h:=hp.qx x hx;exact h.ident) i cj,iO (·.qG) 32 p.l (λx hx=>by have h:=hp.qx x hx;exact h.qG) i cj];simp only[ax3];rw[gW (·.s.gi) p.l i cj,gW (·.s.gj) p.l i cj,gW (·.s.gk) p.l i cj,gW (·.s.cS) p.l i cj,gW (·.cZ) p.l i cj,gW (·.own) p.l i cj,gW (·.current) p.l i cj,ej (·.s.send.n) p.l i cj,ej (·.s.recv.n) p.l i cj,ej (·.s.prev) p.l i cj,ej (·.dH) p.l i cj]
  have tJ:L3++(p.l.take (i+1)).flatMap bS.enc=L3++(p.l.take i).flatMap bS.enc++bS.enc p.l[i]:=by
   rw[vA,List.flatMap_append,ayn,ayx,List.append_nil,ayl]
  refine⟨by omega,λ_=>⟨by omega,λ_=>?_⟩⟩;refine⟨v6,_,_,_,false,rfl,rfl,rfl,rfl,λ_ _=>rfl,⟨i+1,v6,aJ (L3++(p.l.take i).flatMap bS.enc++bS.enc p.l[i]),false,?_,by omega,?_⟩,?_⟩
  .rw [tJ];simp only[Ext.mk.injEq,List.cons.injEq,and_true,true_and];omega
  .rw [tJ];exact cu.rfl
  .simp only[ah];omega
 .have cj:i=p.l.length:=by omega
  subst cj;rw[List.take_length]at hA ⊢;have R0:L3++p.l.flatMap bS.enc=l++bI.enc p:=by
   rw[RZ,wH];simp only[ayl]
  rw[R0]at hA ⊢;rw[CQ h1,CQ h2,ax3,hA.wj];exact⟨rfl,tL,rfl⟩
open Go Go.RX Go.Proofs Go.Vs
theorem rH{α:Type}(s:List α)(enc:α->List Nat)(L:List Nat){v0:V1}{n0 xn:Int}{A0:Nat->Int}{B:(Ext->Prop)->(Ext->Nat)->V1->Int->Int->(Nat->Int)->Bool->Prop}{R:V1->Int->Int->(Nat->Int)->Bool->Prop}
  (hn:xn=(s.length:Int)) (wI:cu A0 L) (DS:n0=(L.length:Int))
  (hb: ∀(I:Ext->Prop) (m:Ext->Nat) (i:Nat) (hi:i<s.length) (v:V1) (A:Nat->Int) (q:Bool),cu A (L++(s.take i).flatMap enc)->
   (∀(v':V1) (A':Nat->Int) (q':Bool) (x' n':Int),x'=(i:Int)+1->n'=((L++(s.take i).flatMap enc++enc s[i]).length:Int)->cu A' (L++(s.take i).flatMap enc++enc s[i])->
    I ⟨[],[v'],[x',n'],[A'],[q'],[],[]⟩/\m ⟨[],[v'],[x',n'],[A'],[q'],[],[]⟩<m ⟨[],[v],[(i:Int),((L++(s.take i).flatMap enc).length:Int)],[A],[q],[],[]⟩)->
   (L++(s.take i).flatMap enc).length+(enc s[i]).length<=(L++s.flatMap enc).length->
   B I m v (i:Int) ((L++(s.take i).flatMap enc).length:Int) A q)
  (hr: ∀(v:V1) (A:Nat->Int) (q:Bool),cu A (L++s.flatMap enc)->R v (s.length:Int) ((L++s.flatMap enc).length:Int) A q):
  ∃(I:Ext->Prop) (m:Ext->Nat),(∃v:V1,∃x:Int,∃n:Int,∃A:(Nat->Int),∃q:Bool,x=0/\v=v0/\v=v0/\n=n0/\(∀j,j<(ag n)->A j=A0 j)/\I ⟨[],[v],[x,n],[A],[q],[],[]⟩)/\
   ∀v:V1,∀x:Int,∀n:Int,∀A:(Nat->Int),∀q:Bool,I ⟨[],[v],[x,n],[A],[q],[],[]⟩->bf (x<xn) (B I m v x n A q) (R v x n A q):=by
 refine⟨λx=> ∃(i:Nat) (w:V1) (A:Nat->Int) (q:Bool),x=⟨[],[w],[(i:Int),((L++(s.take i).flatMap enc).length:Int)],[A],[q],[],[]⟩/\i<=s.length/\cu A (L++(s.take i).flatMap enc),λx=>s.length - (x.i.getD 0 0).toNat,?_,?_⟩
 .exact⟨v0,0,n0,A0,false,rfl,rfl,rfl,rfl,λ_ _=>rfl,0,v0,A0,false,by simp[DS],by omega,by simpa using wI⟩
 rintro v x n A q ⟨i,w,A',q',hx,hi,hA⟩;simp only[Ext.mk.injEq,List.cons.injEq,and_true,true_and]at hx;obtain⟨rfl,⟨rfl,rfl⟩,rfl,rfl⟩:=hx;refine⟨λcC=>?_,λlS=>?_⟩
 .have cj:i<s.length:=by omega
  have vA:s.take (i+1)=s.take i++[s[i]]:=by rw[List.take_add_one,ays cj];rfl
  have tJ:L++(s.take (i+1)).flatMap enc=L++(s.take i).flatMap enc++enc s[i]:=by
   rw[vA,List.flatMap_append,ayn,ayx,List.append_nil,ayl]
  refine hb _ _ i cj v A q hA ?_ ?_
  .intro v' A' q' x' n' Xh hn' hA';refine⟨⟨i+1,v',A',q',?_,by omega,by rw[tJ];exact hA'⟩,?_⟩
   .rw [tJ,Xh,hn'];simp only[Ext.mk.injEq,List.cons.injEq,and_true,true_and];omega
   .simp only[ah];omega
  .have Hv:s.drop i=s[i]::s.drop (i+1):=(List.getElem_cons_drop cj).symm;have ln:((s.take i).flatMap enc).length+((s.drop i).flatMap enc).length=(s.flatMap enc).length:=by
    rw[<-axP,<-List.flatMap_append,List.take_append_drop]
   rw[Hv,ayn,axP]at ln;rw[axP,axP];omega
 .have cj:i=s.length:=by omega
  subst cj;rw[List.take_length]at hA ⊢;exact hr v A q hA
end Go.RX.Vb
