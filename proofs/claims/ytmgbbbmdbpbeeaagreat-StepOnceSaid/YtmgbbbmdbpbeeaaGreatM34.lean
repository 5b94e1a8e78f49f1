/- The law of senders and receivers. -/
import Derived.Test.YtmgbbbmdbpbeeaaGreatM33
open Go.IntKind renaming wrap → ae
open Go.Proofs.Tryz renaming prog → aiT
open Int renaming toNat → ag
open List renaming append → aiL, range → ajw
namespace Go.RX.Fy
open Go.RX Go.Proofs Go.RX.Fe Go.RX.Fg
noncomputable def cx:Ctx:={T:=TT,FT:=FT,loops:=Fy.loops,bB:=Fy.bB,kQ:=Fy.kQ}
set_option maxRecDepth 100000
noncomputable def cxE:Ctx:={T:=TT,FT:=FT,loops:=Fy.loops,kQ:=Fy.kQ,bB:=Fy.Gi 2}
noncomputable def cxG:Ctx:={T:=TT,FT:=FT,loops:=Fy.loops,kQ:=Fy.kQ,bB:=Fy.Gi 130}
abbrev VT(I:Ext→Prop)(m:Ext→Nat)(o:Nat)(e0:Int)(e1 e2:V1)(e3:HP)(e4:Int)(e5:V1)(e6:Int)(e7:Bool)(e8:Int)(e9 RF TO:Nat→Int)(RG:Int)(WR WS:Nat→Int):Prop:= ∃(v8' JN Sz:V1) (VU VV VW SA Mc:Int) (VX VY VZ V0 V2:Nat→Int) (q5':Bool),∃p2':HP,VU=e0∧JN=e1∧Sz=e2∧p2'=e3∧VV=e4∧v8'=e5∧VW=e6∧q5'=e7∧v8'=e5∧SA=e8∧(∀j,j<(ag SA)→VX j=e9 j)∧(VY=RF)∧(VZ=TO)∧JN=e1∧Mc=RG∧(∀j,j<(ag Mc)→V0 j=WR j)∧Sz=e2∧Mc=RG∧(∀j,j<(ag Mc)→V2 j=WS j)∧I ⟨[],[v8',JN,Sz],[VU,VV,VW,SA,Mc],[VX,VY,VZ,V0,V2],[q5'],[p2'],[]⟩∧m ⟨[],[v8',JN,Sz],[VU,VV,VW,SA,Mc],[VX,VY,VZ,V0,V2],[q5'],[p2'],[]⟩<o
abbrev Zf(I:Ext→Prop)(m:Ext→Nat)(o:Nat)(e0 e1:Int)(e2:V1)(e3:Bool)(e4:Int)(e5:Nat→Int)(e6 e7 e8 e9:Int)(RF:V1)(TO:Bool)(RG:Int)(WR:Nat→Int)(WS:Bool)(e15:Int)(VH:Nat→Int)(e17:Int)(e18 e19:Nat→Int):Prop:= ∃(SB SC:V1) (Zg Zh Zi V3 V4 V5 V6 V7 V8 V9 SD SE V_:Int) (Wa Wb Wc We Wf:Nat→Int) (q6' q7' q8':Bool),V_=e0∧V3=e1∧SB=e2∧q6'=e3∧V4=e4∧(∀j,j<16→Wa j=e5 j)∧V5=e6∧V6=e7∧V7=e8∧V8=e9∧SC=RF∧q7'=TO∧V9=RG∧(∀j,j<16→Wb j=WR j)∧q8'=WS∧SB=e2∧SD=e15∧(∀j,j<(ag SD)→Wc j=VH j)∧SC=RF∧SE=e17∧(∀j,j<(ag SE)→We j=e18 j)∧(Wf=e19)∧I ⟨[],[SB,SC],[Zg,Zh,Zi,V3,V4,V5,V6,V7,V8,V9,SD,SE,V_],[Wa,Wb,Wc,We,Wf],[q6',q7',q8'],[],[]⟩∧m ⟨[],[SB,SC],[Zg,Zh,Zi,V3,V4,V5,V6,V7,V8,V9,SD,SE,V_],[Wa,Wb,Wc,We,Wf],[q6',q7',q8'],[],[]⟩<o
def PE(ao:PT)(x0 x1 x2 x3 x4:Int)(A0 A1 A2 A3 A4 A5 A6:Nat→Int)(v0 v1 _:V1)(p0 p1:HP):Prop:=
 Cl 12 [] [] fun x hs _=>x= .bool true∧hs=[]∧
 Cl 14 [.int .u16 x0,v0.v,.int .u64 1,.int .i64 x1] [bi v0 x2 A0] fun x hs l=> ∃(b0:Nat) (v3:V1) (x5 x6 x7 x8 x9 bP:Int) (A7:Nat→Int) (q0:Bool),x= .tuple #[.pointer (some ⟨b0,0,none⟩),.int .i64 0]∧hs=l++[al b0 true ([.int .u16 x5,.int .u64 x6,.int .i64 x7,.int .u64 x8,v3.v,.int .u64 x9,.bool q0]),bi v3 bP A7]∧
 Cl 15 [.int .u16 x0,v0.v,.int .u64 1,.int .i64 x1] [bi v0 x2 A0] fun x hs l=> ∃(b1:Nat) (v4 v5:V1) (fm c6 cZ rk mf ss uk De um wZ Df AK:Int) (A8 A9 vm Gs:Nat→Int) (q1 q2 q3:Bool),x= .tuple #[.pointer (some ⟨b1,0,none⟩),.int .i64 0]∧hs=l++[al b1 true (.int .u16 fm::(.int .u64 c6::(.int .i64 cZ::(.int .u64 rk::(v4.v::(.bool q1::(.int .u64 mf::(aiL (aj .u64 16 A8) (.int .u16 ss::(.int .u64 uk::(.int .i64 De::(.int .u64 um::(v5.v::(.bool q2::(.int .u64 wZ::(aiL (aj .u64 16 A9) ([.bool q3]))))))))))))))))),bi v4 Df vm,bi v5 AK Gs]∧
 Cl 13 [v0.v,v1.v] [bi v0 x2 A0,aG false 59 5 v1.v (ag x3) (aW (ag x3) [bd .u8 1 A1,cJ 1 (fun j=>bQ (A2 j)),cJ 1 (fun j=>bQ (A3 j)),bd .u64 1 A4,bd .i64 1 A5]),p0] fun x hs l=> ∃q4:Bool,x= .bool q4∧hs=l∧
 aw ((q4=true)∨(0≤x4)) (
 aJ ((q4=true)∨(300<x4)) (
 ao (.bool true) []) (
 ∀_:Nat,aw (0≤x3) (
 ∃(fL:Ext→Prop) (fY:Ext→Nat),(∃(v8 v9 v10:V1) (kJ pd qu pk fl:Int) (m9 qt uc rJ m5:Nat→Int) (q5:Bool),∃p2:HP,kJ=0∧v9=(⟨.slice none 0 0,rfl⟩:V1)∧v10=(⟨.slice none 0 0,rfl⟩:V1)∧p2=p1∧pd=x8∧v8=v3∧qu=x9∧q5=q0∧v8=v3∧pk=bP∧(∀j,j<(ag pk)→m9 j=A7 j)∧(qt=(fun _=>0))∧(uc=(fun _=>0))∧v9=(⟨.slice none 0 0,rfl⟩:V1)∧fl=0∧(∀j,j<(ag fl)→rJ j=(fun _=>0) j)∧v10=(⟨.slice none 0 0,rfl⟩:V1)∧fl=0∧(∀j,j<(ag fl)→m5 j=(fun _=>0) j)∧fL ⟨[],[v8,v9,v10],[kJ,pd,qu,pk,fl],[m9,qt,uc,rJ,m5],[q5],[p2],[]⟩)∧
 ∀(v8 v9 v10:V1) (kJ pd qu pk fl:Int) (m9 qt uc rJ m5:Nat→Int) (q5:Bool),∀p2:HP,fL ⟨[],[v8,v9,v10],[kJ,pd,qu,pk,fl],[m9,qt,uc,rJ,m5],[q5],[p2],[]⟩→
 aJ (kJ<x3) (
 aw (0≤kJ) (
 ∀_:Nat,aJ ((A1 (ag kJ))=0) (
 Cl 18 [.pointer (some ⟨b0,0,none⟩),.slice none 0 0,(bQ (A3 (ag kJ)))] [al b0 true ([.int .u16 x5,.int .u64 x6,.int .i64 x7,.int .u64 pd,v8.v,.int .u64 qu,.bool q5]),bi v8 pk m9,p0,p2] fun x hs _=> ∃(sv xr xF:Int) (q6:Bool),∃p3:HP,x= .tuple #[(bQ sv),.int .i64 xr]∧hs=[al b0 true ([.int .u16 x5,.int .u64 x6,.int .i64 x7,.int .u64 pd,v8.v,.int .u64 xF,.bool q6]),bi v8 pk m9,p0,p3]∧
 aJ (¬(xr=0)) (
 cg (kJ+1) ((
 VT fL fY (fY ⟨[],[v8,v9,v10],[kJ,pd,qu,pk,fl],[m9,qt,uc,rJ,m5],[q5],[p2],[]⟩) (kJ+1) v9 v10 p3 pd v8 xF q6 pk m9 qt uc fl rJ m5))) (
 Cl 24 [(bQ sv)] [p3] fun x hs l=> ∃wF zL Gz:Int,x= .tuple #[.agg #[.int .u64 wF,.int .u64 zL],.int .i64 Gz]∧hs=l∧
 ∀_:Nat,aJ ((qt (ag ((bG ((ajw 2).map (au (au (fun _=>0) 0 wF) 1 zL)):Nat):Int)))≠0) (
 ao (.bool false) []) (
 aw (0≤fl) (
 (∀_:Nat,(nq ((fl+1)*24) (
 ∀(v11:V1) (_:Nat) (m_:V1),cg (kJ+1) ((
 VT fL fY (fY ⟨[],[v8,v9,v10],[kJ,pd,qu,pk,fl],[m9,qt,uc,rJ,m5],[q5],[p2],[]⟩) (kJ+1) v11 m_ p3 pd v8 xF q6 pk m9 (au qt (ag ((bG ((ajw 2).map (au (au (fun _=>0) 0 wF) 1 zL)):Nat):Int)) 1) (au uc (ag ((bG ((ajw 2).map (au (au (fun _=>0) 0 wF) 1 zL)):Nat):Int)) fl) (fl+1) (au rJ (ag fl) sv) (au m5 (ag fl) (A3 (ag kJ)))))))∧
 (∀_:Nat,nq ((fl+1)*24) (
 ∀v11 m_:V1,cg (kJ+1) ((
 VT fL fY (fY ⟨[],[v8,v9,v10],[kJ,pd,qu,pk,fl],[m9,qt,uc,rJ,m5],[q5],[p2],[]⟩) (kJ+1) v11 m_ p3 pd v8 xF q6 pk m9 (au qt (ag ((bG ((ajw 2).map (au (au (fun _=>0) 0 wF) 1 zL)):Nat):Int)) 1) (au uc (ag ((bG ((ajw 2).map (au (au (fun _=>0) 0 wF) 1 zL)):Nat):Int)) fl) (fl+1) (au rJ (ag fl) sv) (au m5 (ag fl) (A3 (ag kJ))))))))∧
 (∀_ _:Nat,nq ((fl+1)*24) (
 ∀v11 m_:V1,cg (kJ+1) ((
 VT fL fY (fY ⟨[],[v8,v9,v10],[kJ,pd,qu,pk,fl],[m9,qt,uc,rJ,m5],[q5],[p2],[]⟩) (kJ+1) v11 m_ p3 pd v8 xF q6 pk m9 (au qt (ag ((bG ((ajw 2).map (au (au (fun _=>0) 0 wF) 1 zL)):Nat):Int)) 1) (au uc (ag ((bG ((ajw 2).map (au (au (fun _=>0) 0 wF) 1 zL)):Nat):Int)) fl) (fl+1) (au rJ (ag fl) sv) (au m5 (ag fl) (A3 (ag kJ))))))))))) (
 aJ ((A1 (ag kJ))=1) (
 Cl 20 [.pointer (some ⟨b0,0,none⟩)] [al b0 true ([.int .u16 x5,.int .u64 x6,.int .i64 x7,.int .u64 pd,v8.v,.int .u64 qu,.bool q5]),bi v8 pk m9] fun x hs _=> ∃(v11:V1) (sv xr xF wF:Int) (Dl:Nat→Int) (q6:Bool),x= .int .i64 sv∧hs=[al b0 true ([.int .u16 x5,.int .u64 x6,.int .i64 x7,.int .u64 xr,v11.v,.int .u64 xF,.bool q6]),bi v11 wF Dl]∧
 cg (kJ+1) ((
 VT fL fY (fY ⟨[],[v8,v9,v10],[kJ,pd,qu,pk,fl],[m9,qt,uc,rJ,m5],[q5],[p2],[]⟩) (kJ+1) v9 v10 p2 xr v11 xF q6 wF Dl qt uc fl rJ m5))) (
 aJ ((A1 (ag kJ))=2) (
 Cl 21 [.pointer (some ⟨b0,0,none⟩),.int .u64 (A4 (ag kJ))] [al b0 true ([.int .u16 x5,.int .u64 x6,.int .i64 x7,.int .u64 pd,v8.v,.int .u64 qu,.bool q5]),bi v8 pk m9] fun x hs _=> ∃sv xr:Int,x= .int .i64 sv∧hs=[al b0 true ([.int .u16 x5,.int .u64 x6,.int .i64 x7,.int .u64 pd,v8.v,.int .u64 xr,.bool q5]),bi v8 pk m9]∧
 cg (kJ+1) ((
 VT fL fY (fY ⟨[],[v8,v9,v10],[kJ,pd,qu,pk,fl],[m9,qt,uc,rJ,m5],[q5],[p2],[]⟩) (kJ+1) v9 v10 p2 pd v8 xr q5 pk m9 qt uc fl rJ m5))) (
 cg (kJ+1) ((
 VT fL fY (fY ⟨[],[v8,v9,v10],[kJ,pd,qu,pk,fl],[m9,qt,uc,rJ,m5],[q5],[p2],[]⟩) (kJ+1) v9 v10 p2 pd v8 qu q5 pk m9 qt uc fl rJ m5))))))) (
 ∀_:Nat,aw (0≤x4) (
 ∃(xA:Ext→Prop) (uj:Ext→Nat),(∃(v11 m_:V1) (sv xr xF wF zL Gz Ii PF PG PH Ij Ik m6:Int) (Dl Il Im Io uh:Nat→Int) (q6 q7 q8:Bool),m6=0∧wF=rk∧v11=v4∧q6=q1∧zL=mf∧(∀j,j<16→Dl j=A8 j)∧Gz=ss∧Ii=uk∧PF=De∧PG=um∧m_=v5∧q7=q2∧PH=wZ∧(∀j,j<16→Il j=A9 j)∧q8=q3∧v11=v4∧Ij=Df∧(∀j,j<(ag Ij)→Im j=vm j)∧m_=v5∧Ik=AK∧(∀j,j<(ag Ik)→Io j=Gs j)∧(uh=(fun _=>0))∧xA ⟨[],[v11,m_],[sv,xr,xF,wF,zL,Gz,Ii,PF,PG,PH,Ij,Ik,m6],[Dl,Il,Im,Io,uh],[q6,q7,q8],[],[]⟩)∧
 ∀(v11 m_:V1) (sv xr xF wF zL Gz Ii PF PG PH Ij Ik m6:Int) (Dl Il Im Io uh:Nat→Int) (q6 q7 q8:Bool),xA ⟨[],[v11,m_],[sv,xr,xF,wF,zL,Gz,Ii,PF,PG,PH,Ij,Ik,m6],[Dl,Il,Im,Io,uh],[q6,q7,q8],[],[]⟩→
 aJ (m6<x4) (
 aw (0≤m6) (
 aw (0≤fl) (
 aJ (fl=0) (
 ao (.bool true) []) (
 cg (A6 (ag m6)) ((
 aw (fl≠0) (
 aw (0≤(ak .rem .i64 (A6 (ag m6)) fl)) (
 aw ((ak .rem .i64 (A6 (ag m6)) fl)<fl) (
 Cl 25 [.pointer (some ⟨b1,0,none⟩),.slice none 0 0,(bQ (rJ (ag (ak .rem .i64 (A6 (ag m6)) fl))))] [al b1 true (.int .u16 fm::(.int .u64 c6::(.int .i64 cZ::(.int .u64 wF::(v11.v::(.bool q6::(.int .u64 zL::(aiL (aj .u64 16 Dl) (.int .u16 Gz::(.int .u64 Ii::(.int .i64 PF::(.int .u64 PG::(m_.v::(.bool q7::(.int .u64 PH::(aiL (aj .u64 16 Il) ([.bool q8]))))))))))))))))),bi v11 Ij Im,bi m_ Ik Io,p2] fun x hs _=> ∃(Ip Md Mt:V1) (_ _ _ SF SG SH TZ T7 SI SJ WX WY x53 Zj SK Zk:Int) (SL SM T8 T9 A26:Nat→Int) (q9 SN SO:Bool),x= .tuple #[Mt.v,.agg #[.int .u64 x53,.int .u64 Zj],.int .i64 SK]∧hs=[al b1 true (.int .u16 fm::(.int .u64 c6::(.int .i64 cZ::(.int .u64 SF::(Ip.v::(.bool q9::(.int .u64 SG::(aiL (aj .u64 16 SL) (.int .u16 SH::(.int .u64 TZ::(.int .i64 T7::(.int .u64 SI::(Md.v::(.bool SN::(.int .u64 SJ::(aiL (aj .u64 16 SM) ([.bool SO]))))))))))))))))),bi Ip WX T8,bi Md WY T9,p2,bo Mt Zk A26]∧
 ∀_ _:Nat,aJ (SK=0) (
 ∃Zl:Ext→Prop,(∀(w:World) (Fs:List HP),bz ([aG true 24 1 v10.v (ag fl) (aW (ag fl) [cJ 1 (fun j=>bQ (m5 j))]),p0]++Fs) w→∃(GC:V1) (Qb:Int) (SP:Nat→Int),bz ([aG true 24 1 v10.v (ag fl) (aW (ag fl) [cJ 1 (fun j=>if j=(ag (ak .rem .i64 (A6 (ag m6)) fl))then GC.v else bQ (m5 j))]),p0,bi GC Qb SP]++Fs) w∧Zl ⟨[],[GC],[Qb],[SP],[],[],[]⟩)∧
 (∀(GC:V1) (Qb:Int) (SP:Nat→Int),Zl ⟨[],[GC],[Qb],[SP],[],[],[]⟩→
 aw (((uh (ag ((bG ((ajw 1).map (fun _=>(ak .rem .i64 (A6 (ag m6)) fl))):Nat):Int)))≠0)∨(0≤(ak .rem .i64 (A6 (ag m6)) fl))) (
 aw (((uh (ag ((bG ((ajw 1).map (fun _=>(ak .rem .i64 (A6 (ag m6)) fl))):Nat):Int)))≠0)∨((ak .rem .i64 (A6 (ag m6)) fl)<fl)) (
 aw (((uh (ag ((bG ((ajw 1).map (fun _=>(ak .rem .i64 (A6 (ag m6)) fl))):Nat):Int)))≠0)∨(0≤(ak .rem .i64 (A6 (ag m6)) fl))) (
 aw (((uh (ag ((bG ((ajw 1).map (fun _=>(ak .rem .i64 (A6 (ag m6)) fl))):Nat):Int)))≠0)∨((ak .rem .i64 (A6 (ag m6)) fl)<fl)) (
 aJ ((((uh (ag ((bG ((ajw 1).map (fun _=>(ak .rem .i64 (A6 (ag m6)) fl))):Nat):Int)))≠0)∨(¬(cd (jx A26 Zk)=cd (jx SP Qb))))∨(¬((uc (ag ((bG ((ajw 2).map (au (au (fun _=>0) 0 x53) 1 Zj)):Nat):Int)))=(ak .rem .i64 (A6 (ag m6)) fl)))) (
 ao (.bool false) []) (
 ∃Zm:Ext→Prop,(∀(w:World) (Fs:List HP),bz ([aG true 24 1 v10.v (ag fl) (aW (ag fl) [cJ 1 (fun j=>if j=(ag (ak .rem .i64 (A6 (ag m6)) fl))then GC.v else bQ (m5 j))]),bi GC Qb SP]++Fs) w→bz ([aG true 24 1 v10.v (ag fl) (aW (ag fl) [cJ 1 (fun j=>bQ (m5 j))])]++Fs) w∧Zm ⟨[],[],[],[],[],[],[]⟩)∧
 (Zm ⟨[],[],[],[],[],[],[]⟩→
 cg (m6+1) ((
 Zf xA uj (uj ⟨[],[v11,m_],[sv,xr,xF,wF,zL,Gz,Ii,PF,PG,PH,Ij,Ik,m6],[Dl,Il,Im,Io,uh],[q6,q7,q8],[],[]⟩) (m6+1) SF Ip q9 SG SL SH TZ T7 SI Md SN SJ SM SO WX T8 WY T9 (au uh (ag ((bG ((ajw 1).map (fun _=>(ak .rem .i64 (A6 (ag m6)) fl))):Nat):Int)) 1))))))))))) (
 aJ (SK=160) (
 aJ (¬((uh (ag ((bG ((ajw 1).map (fun _=>(ak .rem .i64 (A6 (ag m6)) fl))):Nat):Int)))≠0)) (
 ao (.bool false) []) (
 cg (m6+1) ((
 Zf xA uj (uj ⟨[],[v11,m_],[sv,xr,xF,wF,zL,Gz,Ii,PF,PG,PH,Ij,Ik,m6],[Dl,Il,Im,Io,uh],[q6,q7,q8],[],[]⟩) (m6+1) SF Ip q9 SG SL SH TZ T7 SI Md SN SJ SM SO WX T8 WY T9 uh)))) (
 aJ (SK=161) (
 cg (m6+1) ((
 Zf xA uj (uj ⟨[],[v11,m_],[sv,xr,xF,wF,zL,Gz,Ii,PF,PG,PH,Ij,Ik,m6],[Dl,Il,Im,Io,uh],[q6,q7,q8],[],[]⟩) (m6+1) SF Ip q9 SG SL SH TZ T7 SI Md SN SJ SM SO WX T8 WY T9 uh))) (
 aJ (SK=241) (
 cg (m6+1) ((
 Zf xA uj (uj ⟨[],[v11,m_],[sv,xr,xF,wF,zL,Gz,Ii,PF,PG,PH,Ij,Ik,m6],[Dl,Il,Im,Io,uh],[q6,q7,q8],[],[]⟩) (m6+1) SF Ip q9 SG SL SH TZ T7 SI Md SN SJ SM SO WX T8 WY T9 uh))) (
 aJ (SK=5) (
 cg (m6+1) ((
 Zf xA uj (uj ⟨[],[v11,m_],[sv,xr,xF,wF,zL,Gz,Ii,PF,PG,PH,Ij,Ik,m6],[Dl,Il,Im,Io,uh],[q6,q7,q8],[],[]⟩) (m6+1) SF Ip q9 SG SL SH TZ T7 SI Md SN SJ SM SO WX T8 WY T9 uh))) (
 ao (.bool false) [])))))))))))))) (
 ao (.bool true) []))))))
theorem Wg(ao:PT)(x0 x1 x2 x3 x4:Int)(A0 A1 A2 A3 A4 A5 A6:Nat→Int)(v0 v1 v2:V1)(p0 p1:HP)(h:PE ao x0 x1 x2 x3 x4 A0 A1 A2 A3 A4 A5 A6 v0 v1 v2 p0 p1):gq 5 [.int .u16 (.var 0),.vv 0,.int .i64 (.var 1),.vv 1,.vv 2] [.abs 0,.bK false 0 5 1 (.var 2) [⟨.int .u8,1,.aN 0⟩],.bK false 1 59 5 (.var 3) [⟨.int .u8,1,.aN 1⟩,⟨CK.cv,1,.aN 2⟩,⟨CK.cv,1,.aN 3⟩,⟨.int .u64,1,.aN 4⟩,⟨.int .i64,1,.aN 5⟩],.bK false 2 3 1 (.var 4) [⟨.int .u16,1,.aN 6⟩],.abs 1] ⟨[x0,x1,x2,x3,x4],[A0,A1,A2,A3,A4,A5,A6],[],[],[v0,v1,v2],[],[p0,p1],[]⟩ ao:=
 Mj (C:=Fy.cx) _ _ ⟨0,3,5,7,0,2,0⟩ _ 0 Tryz.func5 (by kernel_rfl) h
def Gj(ao:PT)(x0 x1:Int)(_ A1 A2 A3 A4 A5:Nat→Int)(_ _:V1)(p0:HP):Prop:=
 aw (0≤x1) (
 ∃(cc:Ext→Prop) (cu:Ext→Nat),(∃x2 x3:Int,x2=0∧x3=0∧cc ⟨[],[],[x2,x3],[],[],[],[]⟩)∧
 ∀x2 x3:Int,cc ⟨[],[],[x2,x3],[],[],[],[]⟩→
 aJ (x2<x1) (
 aw (0≤x2) (
 ∀b0:Nat,∃JM:Ext→Prop,(∀(w:World) (Fs:List HP),bz ([al b0 true ([.int .u8 (A1 (ag x2)),(bQ (A2 (ag x2))),(bQ (A3 (ag x2))),.int .u64 (A4 (ag x2)),.int .i64 (A5 (ag x2))]),p0]++Fs) w→∃(v2 v3:V1) (x4 x5:Int) (A6 A7:Nat→Int),bz ([al b0 true ([.int .u8 (A1 (ag x2)),v2.v,v3.v,.int .u64 (A4 (ag x2)),.int .i64 (A5 (ag x2))]),p0,bi v2 x4 A6,bi v3 x5 A7]++Fs) w∧JM ⟨[],[v2,v3],[x4,x5],[A6,A7],[],[],[]⟩)∧
 (∀(v2 v3:V1) (x4 x5:Int) (A6 A7:Nat→Int),JM ⟨[],[v2,v3],[x4,x5],[A6,A7],[],[],[]⟩→
 aw (0≤x5) (
 cg (16+x5) ((
 aw (0≤x4) (
 cg ((16+x5)+x4) ((
 cg (x3+((16+x5)+x4)) ((
 aJ (3000<(x3+((16+x5)+x4))) (
 ao (.bool true) []) (
 cg (x2+1) ((
 ∃ei dJ:Int,ei=(x2+1)∧dJ=(x3+((16+x5)+x4))∧cc ⟨[],[],[ei,dJ],[],[],[],[]⟩∧cu ⟨[],[],[ei,dJ],[],[],[],[]⟩<cu ⟨[],[],[x2,x3],[],[],[],[]⟩)))))))))))))) (
 aw (0≤x0) (
 ao (.bool (decide (1500<x0))) [])))
theorem PI(ao:PT)(x0 x1:Int)(A0 A1 A2 A3 A4 A5:Nat→Int)(v0 v1:V1)(p0:HP)(h:Gj ao x0 x1 A0 A1 A2 A3 A4 A5 v0 v1 p0):gq 13 [.vv 0,.vv 1] [.bK false 0 5 1 (.var 0) [⟨.int .u8,1,.aN 0⟩],.bK false 1 59 5 (.var 1) [⟨.int .u8,1,.aN 1⟩,⟨CK.cv,1,.aN 2⟩,⟨CK.cv,1,.aN 3⟩,⟨.int .u64,1,.aN 4⟩,⟨.int .i64,1,.aN 5⟩],.abs 0] ⟨[x0,x1],[A0,A1,A2,A3,A4,A5],[],[],[v0,v1],[],[p0],[]⟩ ao:=
 Mj (C:=Fy.cx) _ _ ⟨0,2,2,6,0,1,0⟩ _ 0 Tryz.func13 (by kernel_rfl) h
def J0(ao:PT)(x0 x1 x2 _ _:Int)(A0 _ _ _ _ _ _:Nat→Int)(v0 _ _:V1)(_ _:HP):Prop:=
 Cl 12 [] [] fun x hs _=>x= .bool true∧hs=[]∧
 Cl 14 [.int .u16 x0,v0.v,.int .u64 1,.int .i64 x1] [bi v0 x2 A0] fun x hs l=>x= .tuple #[.pointer none,.int .i64 2]∧hs=l∧
 Cl 15 [.int .u16 x0,v0.v,.int .u64 1,.int .i64 x1] [bi v0 x2 A0] fun x hs l=>x= .tuple #[.pointer none,.int .i64 2]∧hs=l∧
 ao (.bool true) []
theorem SQ(ao:PT)(x0 x1 x2 x3 x4:Int)(A0 A1 A2 A3 A4 A5 A6:Nat→Int)(v0 v1 v2:V1)(p0 p1:HP)(h:J0 ao x0 x1 x2 x3 x4 A0 A1 A2 A3 A4 A5 A6 v0 v1 v2 p0 p1):gq 5 [.int .u16 (.var 0),.vv 0,.int .i64 (.var 1),.vv 1,.vv 2] [.abs 0,.bK false 0 5 1 (.var 2) [⟨.int .u8,1,.aN 0⟩],.bK false 1 59 5 (.var 3) [⟨.int .u8,1,.aN 1⟩,⟨CK.cv,1,.aN 2⟩,⟨CK.cv,1,.aN 3⟩,⟨.int .u64,1,.aN 4⟩,⟨.int .i64,1,.aN 5⟩],.bK false 2 3 1 (.var 4) [⟨.int .u16,1,.aN 6⟩],.abs 1] ⟨[x0,x1,x2,x3,x4],[A0,A1,A2,A3,A4,A5,A6],[],[],[v0,v1,v2],[],[p0,p1],[]⟩ ao:=
 Mj (C:=Fy.cxE) _ _ ⟨0,3,5,7,0,2,0⟩ _ 0 Tryz.func5 (by kernel_rfl) h
def J1(ao:PT)(x0 x1 x2 _ _:Int)(A0 _ _ _ _ _ _:Nat→Int)(v0 _ _:V1)(_ _:HP):Prop:=
 Cl 12 [] [] fun x hs _=>x= .bool true∧hs=[]∧
 Cl 14 [.int .u16 x0,v0.v,.int .u64 1,.int .i64 x1] [bi v0 x2 A0] fun x hs l=>x= .tuple #[.pointer none,.int .i64 130]∧hs=l∧
 Cl 15 [.int .u16 x0,v0.v,.int .u64 1,.int .i64 x1] [bi v0 x2 A0] fun x hs l=>x= .tuple #[.pointer none,.int .i64 130]∧hs=l∧
 ao (.bool true) []
theorem SR(ao:PT)(x0 x1 x2 x3 x4:Int)(A0 A1 A2 A3 A4 A5 A6:Nat→Int)(v0 v1 v2:V1)(p0 p1:HP)(h:J1 ao x0 x1 x2 x3 x4 A0 A1 A2 A3 A4 A5 A6 v0 v1 v2 p0 p1):gq 5 [.int .u16 (.var 0),.vv 0,.int .i64 (.var 1),.vv 1,.vv 2] [.abs 0,.bK false 0 5 1 (.var 2) [⟨.int .u8,1,.aN 0⟩],.bK false 1 59 5 (.var 3) [⟨.int .u8,1,.aN 1⟩,⟨CK.cv,1,.aN 2⟩,⟨CK.cv,1,.aN 3⟩,⟨.int .u64,1,.aN 4⟩,⟨.int .i64,1,.aN 5⟩],.bK false 2 3 1 (.var 4) [⟨.int .u16,1,.aN 6⟩],.abs 1] ⟨[x0,x1,x2,x3,x4],[A0,A1,A2,A3,A4,A5,A6],[],[],[v0,v1,v2],[],[p0,p1],[]⟩ ao:=
 Mj (C:=Fy.cxG) _ _ ⟨0,3,5,7,0,2,0⟩ _ 0 Tryz.func5 (by kernel_rfl) h
end Go.RX.Fy

namespace Go.RX.Fz
open Go.RX Go.RX.Fe Go.RX.Fg Go.RX.Fi Go.RX.Fj Go.RX.Fk Go.RX.Fl Go.RX.Fy
def fh:aL:={use:=fun az hp=>zJ hp az++roots hp (az.drop 1),inc:={i:=3,a:=1,v:=1,bo:=1},val:=fun c=> .mu [.vv c.v,.int .i64 (.var c.i)],new:=fun c h=>match h with | .row b wr [s,p,n,g,v,_,_]::r=> .row b wr [s,p,n,g,v,.int .u64 (.var (c.i+1)),.bool (.var c.bo)]::(r++[vw c.v (.var (c.i+2)) c.a]) | _=>h}
def p8:aL:={use:=fun az hp=>zJ hp az++roots hp (az.drop 1),inc:={i:=16,a:=5,v:=3,bo:=3},val:=fun c=> .mu [.vv (c.v+2),.agg [.int .u64 (.var (c.i+12)),.int .u64 (.var (c.i+13))],.int .i64 (.var (c.i+14))],new:=fun c h=>match h with | [.row b wr (s::p::n::_),_,_,set]=>(match ED b c.i c.v c.bo c.a with | [.row _ _ (_::_::_::r),x,y]=>[.row b wr (s::p::n::r),x,y,set,.bK true (c.v+2) 5 1 (.var (c.i+15)) (cB (c.a+4))] | _=>h) | _=>h}
def lV:aL:={use:=fun az hp=>zJ hp az,inc:={i:=2,bo:=1},val:=fun c=> .mu [.int .u64 (.var c.i),.int .u64 (.var (c.i+1)),.bool (.var c.bo)],new:=fun _ h=>h}
def bB(f:Nat):Option aL:=
 match f with
 | 14=>some Ge
 | 15=>some Gf
 | _=>none
def calls(f d:Nat):Option aL:=
 match f,d with
 | 12,44=>some fh
 | 12,51=>some fh
 | 12,74=>some fh
 | 12,140=>some fh
 | 12,145=>some fh
 | 12,62=>some qn
 | 12,120=>some qn
 | 12,125=>some qn
 | 12,130=>some qn
 | 12,135=>some zK
 | 12,173=>some zK
 | 12,95=>some p8
 | 38,12=>some lV
 | _,_=>none
def loops(_ _:Nat):Option dO:=none
open Go.RX Go.Proofs Go.RX.Fe Go.RX.Fg
noncomputable def cx:Ctx:={T:=TT,FT:=FT,loops:=Fz.loops,bB:=Fz.bB,calls:=Fz.calls}
set_option maxRecDepth 100000
def Gk(ao:PT):Prop:=
 ∀v0:V1,Cl 14 [.int .u16 4,v0.v,.int .u64 1,.int .i64 2] [bn true v0 16 (fun _=>0)] fun x hs l=> ∃(b0:Nat) (v1:V1) (x0 x1 x2 x3 x4 x5:Int) (A0:Nat→Int) (q0:Bool),x= .tuple #[.pointer (some ⟨b0,0,none⟩),.int .i64 0]∧hs=l++[al b0 true ([.int .u16 x0,.int .u64 x1,.int .i64 x2,.int .u64 x3,v1.v,.int .u64 x4,.bool q0]),bi v1 x5 A0]∧
 ∀v2:V1,Cl 15 [.int .u16 4,v2.v,.int .u64 1,.int .i64 2] [bn true v2 16 (fun _=>0)] fun x hs l=> ∃(b1:Nat) (v3 v4:V1) (x6 x7 x8 x9 bP fm c6 cZ rk mf ss uk:Int) (A1 A2 A3 A4:Nat→Int) (q1 q2 q3:Bool),x= .tuple #[.pointer (some ⟨b1,0,none⟩),.int .i64 0]∧hs=l++[al b1 true (.int .u16 x6::(.int .u64 x7::(.int .i64 x8::(.int .u64 x9::(v3.v::(.bool q1::(.int .u64 bP::(aiL (aj .u64 16 A1) (.int .u16 fm::(.int .u64 c6::(.int .i64 cZ::(.int .u64 rk::(v4.v::(.bool q2::(.int .u64 mf::(aiL (aj .u64 16 A2) ([.bool q3]))))))))))))))))),bi v3 ss A3,bi v4 uk A4]∧
 Cl 23 [.pointer (some ⟨b0,0,none⟩)] [al b0 true ([.int .u16 x0,.int .u64 x1,.int .i64 x2,.int .u64 x3,v1.v,.int .u64 x4,.bool q0]),bi v1 x5 A0] fun x hs l=> ∃(De um:Int) (q4:Bool),x= .tuple #[.int .u64 De,.int .u64 um,.bool q4]∧hs=l∧
 aJ (¬(((q4=true)∧(De=4))∧(um=0))) (
 ao (.bool false) []) (
 ∀b2:Nat,Cl 18 [.pointer (some ⟨b0,0,none⟩),.slice none 0 0,.slice (some ⟨b2,0,none⟩) 1 1] [al b0 true ([.int .u16 x0,.int .u64 x1,.int .i64 x2,.int .u64 x3,v1.v,.int .u64 x4,.bool q0]),bi v1 x5 A0,al b2 false ([.int .u8 97])] fun x hs _=> ∃(v5:V1) (wZ Df AK:Int) (A5:Nat→Int) (q5:Bool),x= .tuple #[v5.v,.int .i64 wZ]∧hs=[al b0 true ([.int .u16 x0,.int .u64 x1,.int .i64 x2,.int .u64 x3,v1.v,.int .u64 Df,.bool q5]),bi v1 x5 A0,al b2 false ([.int .u8 97]),bi v5 AK A5]∧
 ∀b3:Nat,Cl 18 [.pointer (some ⟨b0,0,none⟩),.slice none 0 0,.slice (some ⟨b3,0,none⟩) 1 1] [al b0 true ([.int .u16 x0,.int .u64 x1,.int .i64 x2,.int .u64 x3,v1.v,.int .u64 Df,.bool q5]),bi v1 x5 A0,al b3 false ([.int .u8 98])] fun x hs _=> ∃(v6:V1) (kJ pd qu:Int) (A6:Nat→Int) (q6:Bool),x= .tuple #[v6.v,.int .i64 kJ]∧hs=[al b0 true ([.int .u16 x0,.int .u64 x1,.int .i64 x2,.int .u64 x3,v1.v,.int .u64 pd,.bool q6]),bi v1 x5 A0,al b3 false ([.int .u8 98]),bi v6 qu A6]∧
 aJ (¬((¬(wZ=0))∨(¬(kJ=0)))) (
 Cl 20 [.pointer (some ⟨b0,0,none⟩)] [al b0 true ([.int .u16 x0,.int .u64 x1,.int .i64 x2,.int .u64 x3,v1.v,.int .u64 pd,.bool q6]),bi v1 x5 A0] fun x hs _=> ∃(v7:V1) (pk fl sv xr:Int) (A7:Nat→Int) (q7:Bool),x= .int .i64 pk∧hs=[al b0 true ([.int .u16 x0,.int .u64 x1,.int .i64 x2,.int .u64 fl,v7.v,.int .u64 sv,.bool q7]),bi v7 xr A7]∧
 aJ (pk=0) (
 Cl 23 [.pointer (some ⟨b0,0,none⟩)] [al b0 true ([.int .u16 x0,.int .u64 x1,.int .i64 x2,.int .u64 fl,v7.v,.int .u64 sv,.bool q7]),bi v7 xr A7] fun x hs l=> ∃(xF wF:Int) (q8:Bool),x= .tuple #[.int .u64 xF,.int .u64 wF,.bool q8]∧hs=l∧
 aJ (¬(((q8=true)∧(xF=5))∧(wF=0))) (
 ao (.bool false) []) (
 ∀b4:Nat,Cl 18 [.pointer (some ⟨b0,0,none⟩),.slice none 0 0,.slice (some ⟨b4,0,none⟩) 1 1] [al b0 true ([.int .u16 x0,.int .u64 x1,.int .i64 x2,.int .u64 fl,v7.v,.int .u64 sv,.bool q7]),bi v7 xr A7,al b4 false ([.int .u8 99])] fun x hs _=> ∃(v8:V1) (zL Gz Ii:Int) (A8:Nat→Int) (q9:Bool),x= .tuple #[v8.v,.int .i64 zL]∧hs=[al b0 true ([.int .u16 x0,.int .u64 x1,.int .i64 x2,.int .u64 fl,v7.v,.int .u64 Gz,.bool q9]),bi v7 xr A7,al b4 false ([.int .u8 99]),bi v8 Ii A8]∧
 ∀_ _:Nat,Cl 25 [.pointer (some ⟨b1,0,none⟩),.slice none 0 0,v5.v] [al b1 true (.int .u16 x6::(.int .u64 x7::(.int .i64 x8::(.int .u64 x9::(v3.v::(.bool q1::(.int .u64 bP::(aiL (aj .u64 16 A1) (.int .u16 fm::(.int .u64 c6::(.int .i64 cZ::(.int .u64 rk::(v4.v::(.bool q2::(.int .u64 mf::(aiL (aj .u64 16 A2) ([.bool q3]))))))))))))))))),bi v3 ss A3,bi v4 uk A4,bi v5 AK A5] fun x hs _=> ∃(v9 v10 v11:V1) (_ _ _ Ij Ik m6 x41 x42 x43 SF SG SH TZ T7 SI SJ:Int) (A9 vm Gs m9 qt:Nat→Int) (SN SO q12:Bool),x= .tuple #[v11.v,.agg #[.int .u64 TZ,.int .u64 T7],.int .i64 SI]∧hs=[al b1 true (.int .u16 x6::(.int .u64 x7::(.int .i64 x8::(.int .u64 Ij::(v9.v::(.bool SN::(.int .u64 Ik::(aiL (aj .u64 16 A9) (.int .u16 m6::(.int .u64 x41::(.int .i64 x42::(.int .u64 x43::(v10.v::(.bool SO::(.int .u64 SF::(aiL (aj .u64 16 vm) ([.bool q12]))))))))))))))))),bi v9 SG Gs,bi v10 SH m9,bi v5 AK A5,bo v11 SJ qt]∧
 ∀_:Nat,aJ ((¬(cd (jx qt SJ)=cd (jL [1,97])))∨(¬(SI=0))) (
 ao (.bool false) []) (
 ∀_:Nat,Cl 25 [.pointer (some ⟨b1,0,none⟩),.slice none 0 0,v5.v] [al b1 true (.int .u16 x6::(.int .u64 x7::(.int .i64 x8::(.int .u64 Ij::(v9.v::(.bool SN::(.int .u64 Ik::(aiL (aj .u64 16 A9) (.int .u16 m6::(.int .u64 x41::(.int .i64 x42::(.int .u64 x43::(v10.v::(.bool SO::(.int .u64 SF::(aiL (aj .u64 16 vm) ([.bool q12]))))))))))))))))),bi v9 SG Gs,bi v10 SH m9,bi v5 AK A5] fun x hs _=> ∃(m_ Ip Md:V1) (_ _ _ Zj SK Zk Qb x58 x59 x60 x61 x62 x63 x64 x65 x66:Int) (uc rJ m5 Dl Il:Nat→Int) (q13 q14 q15:Bool),x= .tuple #[Md.v,.agg #[.int .u64 x63,.int .u64 x64],.int .i64 x65]∧hs=[al b1 true (.int .u16 x6::(.int .u64 x7::(.int .i64 x8::(.int .u64 Zj::(m_.v::(.bool q13::(.int .u64 SK::(aiL (aj .u64 16 uc) (.int .u16 Zk::(.int .u64 Qb::(.int .i64 x58::(.int .u64 x59::(Ip.v::(.bool q14::(.int .u64 x60::(aiL (aj .u64 16 rJ) ([.bool q15]))))))))))))))))),bi m_ x61 m5,bi Ip x62 Dl,bi v5 AK A5,bo Md x66 Il]∧
 ∀_:Nat,aJ ((¬(cd (jx Il x66)=cd (jL [0])))∨(¬(x65=160))) (
 ao (.bool false) []) (
 ∀_:Nat,Cl 25 [.pointer (some ⟨b1,0,none⟩),.slice none 0 0,v8.v] [al b1 true (.int .u16 x6::(.int .u64 x7::(.int .i64 x8::(.int .u64 Zj::(m_.v::(.bool q13::(.int .u64 SK::(aiL (aj .u64 16 uc) (.int .u16 Zk::(.int .u64 Qb::(.int .i64 x58::(.int .u64 x59::(Ip.v::(.bool q14::(.int .u64 x60::(aiL (aj .u64 16 rJ) ([.bool q15]))))))))))))))))),bi m_ x61 m5,bi Ip x62 Dl,bi v8 Ii A8] fun x hs _=> ∃(Mt GC v17:V1) (_ _ _ x70 x71 x72 x73 x74 x75 x76 x77 x78 x79 x80 x81 x82:Int) (Im Io uh SL SM:Nat→Int) (q16 q17 q18:Bool),x= .tuple #[v17.v,.agg #[.int .u64 x79,.int .u64 x80],.int .i64 x81]∧hs=[al b1 true (.int .u16 x6::(.int .u64 x7::(.int .i64 x8::(.int .u64 x70::(Mt.v::(.bool q16::(.int .u64 x71::(aiL (aj .u64 16 Im) (.int .u16 x72::(.int .u64 x73::(.int .i64 x74::(.int .u64 x75::(GC.v::(.bool q17::(.int .u64 x76::(aiL (aj .u64 16 Io) ([.bool q18]))))))))))))))))),bi Mt x77 uh,bi GC x78 SL,bi v8 Ii A8,bo v17 x82 SM]∧
 ∀_:Nat,aJ ((¬(cd (jx SM x82)=cd (jL [1,99])))∨(¬(x81=0))) (
 ao (.bool false) []) (
 ∀_:Nat,Cl 25 [.pointer (some ⟨b1,0,none⟩),.slice none 0 0,v6.v] [al b1 true (.int .u16 x6::(.int .u64 x7::(.int .i64 x8::(.int .u64 x70::(Mt.v::(.bool q16::(.int .u64 x71::(aiL (aj .u64 16 Im) (.int .u16 x72::(.int .u64 x73::(.int .i64 x74::(.int .u64 x75::(GC.v::(.bool q17::(.int .u64 x76::(aiL (aj .u64 16 Io) ([.bool q18]))))))))))))))))),bi Mt x77 uh,bi GC x78 SL,bi v6 qu A6] fun x hs _=> ∃(v18 v19 v20:V1) (_ _ _ x86 x87 x88 x89 x90 x91 x92 x93 x94 x95 x96 x97 x98:Int) (T8 T9 A26 SP A28:Nat→Int) (q19 q20 q21:Bool),x= .tuple #[v20.v,.agg #[.int .u64 x95,.int .u64 x96],.int .i64 x97]∧hs=[al b1 true (.int .u16 x6::(.int .u64 x7::(.int .i64 x8::(.int .u64 x86::(v18.v::(.bool q19::(.int .u64 x87::(aiL (aj .u64 16 T8) (.int .u16 x88::(.int .u64 x89::(.int .i64 x90::(.int .u64 x91::(v19.v::(.bool q20::(.int .u64 x92::(aiL (aj .u64 16 T9) ([.bool q21]))))))))))))))))),bi v18 x93 A26,bi v19 x94 SP,bi v6 qu A6,bo v20 x98 A28]∧
 ∀_:Nat,aJ ((¬(cd (jx A28 x98)=cd (jL [1,98])))∨(¬(x97=0))) (
 ao (.bool false) []) (
 aJ (zL=0) (
 aJ (x86=1) (
 Cl 20 [.pointer (some ⟨b0,0,none⟩)] [al b0 true ([.int .u16 x0,.int .u64 x1,.int .i64 x2,.int .u64 fl,v7.v,.int .u64 Gz,.bool q9]),bi v7 xr A7] fun x hs _=> ∃(Wh:V1) (x99 Zn Zo Zp:Int) (A29:Nat→Int) (q22:Bool),x= .int .i64 x99∧hs=[al b0 true ([.int .u16 x0,.int .u64 x1,.int .i64 x2,.int .u64 Zn,Wh.v,.int .u64 Zo,.bool q22]),bi Wh Zp A29]∧
 aJ (x99=0) (
 Cl 20 [.pointer (some ⟨b0,0,none⟩)] [al b0 true ([.int .u16 x0,.int .u64 x1,.int .i64 x2,.int .u64 Zn,Wh.v,.int .u64 Zo,.bool q22]),bi Wh Zp A29] fun x hs _=> ∃(Mu:V1) (Zq Zr Zs Zt:Int) (A30:Nat→Int) (q23:Bool),x= .int .i64 Zq∧hs=[al b0 true ([.int .u16 x0,.int .u64 x1,.int .i64 x2,.int .u64 Zr,Mu.v,.int .u64 Zs,.bool q23]),bi Mu Zt A30]∧
 aJ (Zq=0) (
 Cl 20 [.pointer (some ⟨b0,0,none⟩)] [al b0 true ([.int .u16 x0,.int .u64 x1,.int .i64 x2,.int .u64 Zr,Mu.v,.int .u64 Zs,.bool q23]),bi Mu Zt A30] fun x hs _=> ∃(wU:V1) (Zu C5 Zv C6:Int) (SS:Nat→Int) (q24:Bool),x= .int .i64 Zu∧hs=[al b0 true ([.int .u16 x0,.int .u64 x1,.int .i64 x2,.int .u64 C5,wU.v,.int .u64 Zv,.bool q24]),bi wU C6 SS]∧
 aJ (Zu=150) (
 Cl 21 [.pointer (some ⟨b0,0,none⟩),.int .u64 18446744073709551615] [al b0 true ([.int .u16 x0,.int .u64 x1,.int .i64 x2,.int .u64 C5,wU.v,.int .u64 Zv,.bool q24]),bi wU C6 SS] fun x hs _=> ∃Zw Zx:Int,x= .int .i64 Zw∧hs=[al b0 true ([.int .u16 x0,.int .u64 x1,.int .i64 x2,.int .u64 C5,wU.v,.int .u64 Zx,.bool q24]),bi wU C6 SS]∧
 aJ (¬(Zw=0)) (
 ao (.bool false) []) (
 Cl 18 [.pointer (some ⟨b0,0,none⟩),.slice none 0 0,.slice none 0 0] [al b0 true ([.int .u16 x0,.int .u64 x1,.int .i64 x2,.int .u64 C5,wU.v,.int .u64 Zx,.bool q24]),bi wU C6 SS] fun x hs _=> ∃(JD:V1) (Zy Zz acT:Int) (A32:Nat→Int) (q25:Bool),x= .tuple #[JD.v,.int .i64 Zy]∧hs=[al b0 true ([.int .u16 x0,.int .u64 x1,.int .i64 x2,.int .u64 C5,wU.v,.int .u64 Zz,.bool q25]),bi wU C6 SS,bi JD acT A32]∧
 Cl 18 [.pointer (some ⟨b0,0,none⟩),.slice none 0 0,.slice none 0 0] [al b0 true ([.int .u16 x0,.int .u64 x1,.int .i64 x2,.int .u64 C5,wU.v,.int .u64 Zz,.bool q25]),bi wU C6 SS] fun x hs _=> ∃(v25:V1) (ZA ZB acU:Int) (A33:Nat→Int) (q26:Bool),x= .tuple #[v25.v,.int .i64 ZA]∧hs=[al b0 true ([.int .u16 x0,.int .u64 x1,.int .i64 x2,.int .u64 C5,wU.v,.int .u64 ZB,.bool q26]),bi wU C6 SS,bi v25 acU A33]∧
 ∀_ _ _ _:Nat,aJ ((Zy=0)∧(ZA=150)) (
 Cl 21 [.pointer (some ⟨b0,0,none⟩),.int .u64 18446744073709551615] [al b0 true ([.int .u16 x0,.int .u64 x1,.int .i64 x2,.int .u64 C5,wU.v,.int .u64 ZB,.bool q26]),bi wU C6 SS] fun x hs _=> ∃ZC acW:Int,x= .int .i64 ZC∧hs=[al b0 true ([.int .u16 x0,.int .u64 x1,.int .i64 x2,.int .u64 C5,wU.v,.int .u64 acW,.bool q26]),bi wU C6 SS]∧
 aJ (ZC=150) (
 ao (.bool true) []) (
 ao (.bool false) [])) (
 ao (.bool false) []))) (
 ao (.bool false) [])) (
 ao (.bool false) [])) (
 ao (.bool false) [])) (
 ao (.bool false) [])) (
 ao (.bool false) []))))))) (
 ao (.bool false) [])) (
 ao (.bool false) []))
theorem PJ(ao:PT)(h:Gk ao):gq 12 [] [] ⟨[],[],[],[],[],[],[],[]⟩ ao:=
 Mj (C:=Fz.cx) _ _ ⟨0,0,0,0,0,0,0⟩ _ 0 Tryz.func12 (by kernel_rfl) h
open Go Go.RX Go.Proofs Go.RX.Sh Go.RX.Fg Go.RX.Fh Go.RX.Fi Go.RX.Fj Go.RX.Fk Go.Hd Go.Gh Go.Gc Go.Ae Go.RX.Fe Go.Se Go.RX.Fq Go.RX.Fw Go.Wn Go.RX.Fx
theorem tY{s n p bits:Nat}{T:Nat→Int}{B:List HP}(h:Ln s n p bits){g:Nat}(hg:g<2^bits)(b:Nat)(v:V1){x2:Value}(h2:x2.oneCell'=true)(c nt:Nat)(hc:c<2^64)(tx:nt≤65536)(X:Nat→Nat)(hX: ∀j,X j<256)(hb:ar B (aH x2 nt X))(c':Nat)(sp:Bool)(hc':(c+1)%2^64=c')(hsp:decide (c+1=2^64)=sp):
  ax aiT 18 [.pointer (some ⟨b,0,none⟩),.slice none 0 0,x2] (dj s p bits b g v c false::bb s n T g v::B) fun r hs=> ∃o:V1,r= .tuple #[o.v,.int .i64 0]∧hs=dj s p bits b g v c' sp::bb s n T g v::(B++[aq false o (FL s p bits g c nt) (FB s n p bits T g c nt X)]):=by
 subst hc' hsp;refine ax.post (F9 h hg b v h2 c nt hc tx X hX hb) ?_;rintro r hs ⟨o,rfl,rfl⟩;exact⟨_,Fm.bL.front (A:=dj s p bits b g v ((c+1)%2^64) (decide (c+1=2^64))::bb s n T g v::B) bL.looks,o,rfl,rfl⟩
theorem Gl{s n p bits:Nat}{T:Nat→Int}(h:Ln s n p bits){g:Nat}(hg:g<2^bits)(b:Nat)(v:V1)(c:Nat):ax aiT 23 [.pointer (some ⟨b,0,none⟩)] [dj s p bits b g v c false,bb s n T g v] fun r hs=>r= .tuple #[.int .u64 (eg p bits g:Nat),.int .u64 (c:Int),.bool true]∧hs=[dj s p bits b g v c false,bb s n T g v]:=by
 refine ax.post (Sr h hg b v c false) ?_;rintro r hs ⟨hr,rfl⟩;rw [if_neg (by decide)]at hr;exact⟨_,bL.refl _,hr,rfl⟩
theorem zM{s n p bits:Nat}{T:Nat→Int}(h:Ln s n p bits){g:Nat}(hg:g+1<2^bits)(b:Nat)(v:V1)(c:Nat)(sp:Bool):ax aiT 20 [.pointer (some ⟨b,0,none⟩)] [dj s p bits b g v c sp,bb s n T g v] fun r hs=> ∃o:V1,r= .int .i64 0∧hs=[dj s p bits b (g+1) o 0 false,bb s n T (g+1) o]:=by
 refine ax.post (C2 h (by omega) b v c sp) ?_;rintro r hs (⟨he,_⟩ | ⟨_,o,rfl,rfl⟩)
 ·omega
 ·exact⟨_,bL.refl _,o,rfl,rfl⟩
theorem Me{s n p bits:Nat}{T:Nat→Int}{B:List HP}(b g:Nat)(v:V1){x2:Value}(h2:x2.oneCell'=true)(c nt:Nat)(X:Nat→Nat)(hb:ar B (aH x2 nt X)):
  ax aiT 18 [.pointer (some ⟨b,0,none⟩),.slice none 0 0,x2] (dj s p bits b g v c true::bb s n T g v::B) fun r hs=>r= .tuple #[.slice none 0 0,.int .i64 150]∧hs=dj s p bits b g v c true::bb s n T g v::(B++[bn false eQ 0 fun _=>0]):=by
 refine ax.post (F_ b g v h2 c nt X hb) ?_;rintro r hs ⟨rfl,rfl⟩;refine⟨_,?_,rfl,rfl⟩;have e:=bL.views (A:=dj s p bits b g v c true::bb s n T g v::B) (B:=[]) (L:=[bn false eQ 0 fun _=>0]) (iB ar.nil);rw [List.append_nil]at e;exact e
abbrev kT:Nat→Int:=fun _=>0
theorem kL:Ln 4 16 1 2:=⟨by unfold oU;omega,by decide,by decide,by decide,by decide⟩
def pf:Rc:=jD 4 16 1 2 kT Rc.new 0 0
def C7:Rc:=jD 4 16 1 2 kT pf 1 0
def Gm:Rc:=jD 4 16 1 2 kT C7 0 1
theorem Iq:pf.Ok 4 16 1 2 kT:=zI (Rc.Ih 4 16 1 2 kT) (by decide) (by decide)
theorem Wi:C7.Ok 4 16 1 2 kT:=zI Iq (by decide) (by decide)
theorem kE0:dN Rc.new 0 0=0:=by decide+kernel
theorem kE1:dN pf 0 0=160:=by decide+kernel
theorem kE2:dN pf 1 0=0:=by decide+kernel
theorem kE3:dN C7 0 1=0:=by decide+kernel
theorem kG3:Gm.g0=1:=by decide+kernel
set_option maxHeartbeats 4000000 in
set_option maxRecDepth 100000 in
theorem qo:ax aiT 12 [] [] fun r hs=>r= .bool true∧hs=[]:=by
 refine ax.post (p:=fun r _=>r= .bool true) ?_ fun v hs h=>⟨[],bL.sub (List.nil_sublist _),h,rfl⟩
 refine PJ _ ?_;unfold Gk;intro v0;refine⟨_,xp (B:=[bn true v0 16 kT]) 4 16 1 2 kT v0 (ar.dD 0 rfl),?_⟩;rintro x hs (⟨hn,_⟩ | ⟨bits,b0,v1,Wy,hl,rfl,rfl⟩)
 ·exact absurd ⟨2,rfl,kL⟩ hn
 obtain rfl:bits=2:=by omega
 refine⟨b0,v1,(4:Nat),(1:Nat),(2:Nat),(0:Nat),(0:Nat),(gN 4 16 0:Nat),gT 4 16 kT 0,false,rfl,rfl,?_⟩;intro v2;refine⟨_,xq (B:=[bn true v2 16 kT]) 4 16 1 2 kT v2 (ar.dD 0 rfl),?_⟩;rintro x hs (⟨hn,_⟩ | ⟨bits,b1,v3,ZD,_,rfl,rfl⟩)
 ·exact absurd ⟨2,rfl,kL⟩ hn
 obtain rfl:bits=2:=by omega
 refine⟨b1,v3,eQ,(4:Nat),(1:Nat),(2:Nat),(Rc.new.g0:Nat),(Rc.new.w0.top:Nat),Rc.new.s1,Rc.new.p1,Rc.new.b1,(Rc.new.g1:Nat),(Rc.new.w1.top:Nat),(gN 4 16 Rc.new.g0:Nat),(Rc.new.n1:Nat),cR Rc.new.w0.W,cR Rc.new.w1.W,gT 4 16 kT Rc.new.g0,Rc.new.T1,Rc.new.w0.so,Rc.new.w1.so,Rc.new.two,rfl,rfl,?_⟩;refine⟨_,Gl hl (g:=0) (by decide) b0 v1 0,?_⟩;rintro x hs ⟨rfl,rfl⟩;refine⟨_,_,_,rfl,rfl,fun h=>absurd ⟨⟨rfl,rfl⟩,rfl⟩ h,fun _=>?_⟩;intro b2;refine⟨_,tY (B:=[al b2 false [.int .u8 97]]) hl (g:=0) (by decide) b0 v1 (x2:=(.slice (some ⟨b2,0,none⟩) 1 1)) rfl 0 1 (by decide) (by decide) (fun _=>97) (fun _=>(by decide:97<256)) (ar.block (b:=b2) (wr:=false) (n:=1) (m:=1) (A:=fun _=>97) (fun _ _=>rfl) (Nat.le_refl _)) 1 false (by decide) (by decide),?_⟩;rintro x hs ⟨v5,rfl,rfl⟩;refine⟨v5,0,(1:Nat),(FL 4 1 2 0 0 1:Nat),fun j=>(FB 4 16 1 2 kT 0 0 1 (fun _=>97) j:Nat),false,rfl,rfl,?_⟩;intro b3;refine⟨_,tY (B:=[al b3 false [.int .u8 98]]) hl (g:=0) (by decide) b0 v1 (x2:=(.slice (some ⟨b3,0,none⟩) 1 1)) rfl 1 1 (by decide) (by decide) (fun _=>98) (fun _=>(by decide:98<256)) (ar.block (b:=b3) (wr:=false) (n:=1) (m:=1) (A:=fun _=>98) (fun _ _=>rfl) (Nat.le_refl _)) 2 false (by decide) (by decide),?_⟩;rintro x hs ⟨v6,rfl,rfl⟩;refine⟨v6,0,(2:Nat),(FL 4 1 2 0 1 1:Nat),fun j=>(FB 4 16 1 2 kT 0 1 1 (fun _=>98) j:Nat),false,rfl,rfl,?_⟩;refine⟨fun _=>?_,fun h=>absurd (fun hh=>hh.elim (fun h=>h rfl) fun h=>h rfl) h⟩;refine⟨_,zM hl (g:=0) (by decide) b0 v1 2 false,?_⟩;rintro x hs ⟨v7,rfl,rfl⟩;refine⟨v7,0,(0+1:Nat),(0:Nat),(gN 4 16 (0+1):Nat),gT 4 16 kT (0+1),false,rfl,rfl,?_⟩;refine⟨fun _=>?_,fun h=>absurd rfl h⟩;refine⟨_,Gl hl (g:=1) (by decide) b0 v7 0,?_⟩;rintro x hs ⟨rfl,rfl⟩;refine⟨_,_,_,rfl,rfl,fun h=>absurd ⟨⟨rfl,rfl⟩,rfl⟩ h,fun _=>?_⟩;intro b4
 refine⟨_,tY (B:=[al b4 false [.int .u8 99]]) hl (g:=1) (by decide) b0 v7 (x2:=(.slice (some ⟨b4,0,none⟩) 1 1)) rfl 0 1 (by decide) (by decide) (fun _=>99) (fun _=>(by decide:99<256)) (ar.block (b:=b4) (wr:=false) (n:=1) (m:=1) (A:=fun _=>99) (fun _ _=>rfl) (Nat.le_refl _)) 1 false (by decide) (by decide),?_⟩;rintro x hs ⟨v8,rfl,rfl⟩;refine⟨v8,0,(1:Nat),(FL 4 1 2 1 0 1:Nat),fun j=>(FB 4 16 1 2 kT 1 0 1 (fun _=>99) j:Nat),false,rfl,rfl,?_⟩;intro _ _;refine⟨_,qm (B:=[aq false v5 (FL 4 1 2 0 0 1) (FB 4 16 1 2 kT 0 0 1 (fun _=>97))]) (iB rfl) hl b1 (Rc.Ih 4 16 1 2 kT) v3 eQ v5.one (g:=0) (c:=0) (nt:=1) (by decide) (by decide) (by decide) (fun _=>97) (fun _=>(by decide:97<256)) ar.view,?_⟩;rintro x hs (⟨_,v11,v9,v10,rfl,rfl⟩ | ⟨dI,_⟩);rotate_left
 ·exact absurd kE0 dI
 refine⟨v9,v10,v11,0,0,0,(pf.g0:Nat),(pf.w0.top:Nat),pf.s1,pf.p1,pf.b1,(pf.g1:Nat),(pf.w1.top:Nat),(gN 4 16 pf.g0:Nat),(pf.n1:Nat),(eg 1 2 0:Nat),(0:Nat),0,(1:Nat),cR pf.w0.W,cR pf.w1.W,gT 4 16 kT pf.g0,pf.T1,fun _=>97,pf.w0.so,pf.w1.so,pf.two,rfl,rfl,fun _=>⟨fun h=>absurd h ?_,fun _=>?_⟩⟩
 ·rintro (h | h)
  ·exact h (by decide)
  ·exact h rfl
 intro _;refine⟨_,qm (B:=[aq false v5 (FL 4 1 2 0 0 1) (FB 4 16 1 2 kT 0 0 1 (fun _=>97))]) (iB rfl) hl b1 Iq v9 v10 v5.one (g:=0) (c:=0) (nt:=1) (by decide) (by decide) (by decide) (fun _=>97) (fun _=>(by decide:97<256)) ar.view,?_⟩;rintro x hs (⟨h0,_⟩ | ⟨_,rfl,rfl⟩)
 ·exact absurd (h0.symm.trans kE1) (by decide)
 rw [kE1];refine⟨v9,v10,eQ,0,0,0,(pf.g0:Nat),(pf.w0.top:Nat),pf.s1,pf.p1,pf.b1,(pf.g1:Nat),(pf.w1.top:Nat),(gN 4 16 pf.g0:Nat),(pf.n1:Nat),0,0,(160:Nat),0,cR pf.w0.W,cR pf.w1.W,gT 4 16 kT pf.g0,pf.T1,fun _=>0,pf.w0.so,pf.w1.so,pf.two,rfl,rfl,fun _=>⟨fun h=>absurd h ?_,fun _=>?_⟩⟩
 ·rintro (h | h)
  ·exact h (by decide)
  ·exact h rfl
 intro _;refine⟨_,qm (B:=[aq false v8 (FL 4 1 2 1 0 1) (FB 4 16 1 2 kT 1 0 1 (fun _=>99))]) (iB rfl) hl b1 Iq v9 v10 v8.one (g:=1) (c:=0) (nt:=1) (by decide) (by decide) (by decide) (fun _=>99) (fun _=>(by decide:99<256)) ar.view,?_⟩;rintro x hs (⟨_,v17,Mt,GC,rfl,rfl⟩ | ⟨dI,_⟩);rotate_left
 ·exact absurd kE2 dI
 refine⟨Mt,GC,v17,0,0,0,(C7.g0:Nat),(C7.w0.top:Nat),C7.s1,C7.p1,C7.b1,(C7.g1:Nat),(C7.w1.top:Nat),(gN 4 16 C7.g0:Nat),(C7.n1:Nat),(eg 1 2 1:Nat),(0:Nat),0,(1:Nat),cR C7.w0.W,cR C7.w1.W,gT 4 16 kT C7.g0,C7.T1,fun _=>99,C7.w0.so,C7.w1.so,C7.two,rfl,rfl,fun _=>⟨fun h=>absurd h ?_,fun _=>?_⟩⟩
 ·rintro (h | h)
  ·exact h (by decide)
  ·exact h rfl
 intro _;refine⟨_,qm (B:=[aq false v6 (FL 4 1 2 0 1 1) (FB 4 16 1 2 kT 0 1 1 (fun _=>98))]) (iB rfl) hl b1 Wi Mt GC v6.one (g:=0) (c:=1) (nt:=1) (by decide) (by decide) (by decide) (fun _=>98) (fun _=>(by decide:98<256)) ar.view,?_⟩;rintro x hs (⟨_,v20,v18,v19,rfl,rfl⟩ | ⟨dI,_⟩);rotate_left
 ·exact absurd kE3 dI
 refine⟨v18,v19,v20,0,0,0,(Gm.g0:Nat),(Gm.w0.top:Nat),Gm.s1,Gm.p1,Gm.b1,(Gm.g1:Nat),(Gm.w1.top:Nat),(gN 4 16 Gm.g0:Nat),(Gm.n1:Nat),(eg 1 2 0:Nat),(1:Nat),0,(1:Nat),cR Gm.w0.W,cR Gm.w1.W,gT 4 16 kT Gm.g0,Gm.T1,fun _=>98,Gm.w0.so,Gm.w1.so,Gm.two,rfl,rfl,fun _=>⟨fun h=>absurd h ?_,fun _=>?_⟩⟩
 ·rintro (h | h)
  ·exact h (by decide)
  ·exact h rfl
 refine⟨fun _=>?_,fun h=>absurd rfl h⟩;refine⟨fun _=>?_,fun h=>absurd (by rw [kG3];rfl) h⟩;refine⟨_,zM hl (g:=1) (by decide) b0 v7 1 false,?_⟩;rintro x hs ⟨Wh,rfl,rfl⟩;refine⟨Wh,0,(1+1:Nat),(0:Nat),(gN 4 16 (1+1):Nat),gT 4 16 kT (1+1),false,rfl,rfl,?_⟩;refine⟨fun _=>?_,fun h=>absurd rfl h⟩;refine⟨_,zM hl (g:=2) (by decide) b0 Wh 0 false,?_⟩;rintro x hs ⟨Mu,rfl,rfl⟩;refine⟨Mu,0,(2+1:Nat),(0:Nat),(gN 4 16 (2+1):Nat),gT 4 16 kT (2+1),false,rfl,rfl,?_⟩;refine⟨fun _=>?_,fun h=>absurd rfl h⟩;refine⟨_,C2 hl (g:=3) (by decide) b0 Mu 0 false,?_⟩;rintro x hs (⟨_,rfl,rfl⟩ | ⟨bX,_⟩);rotate_left
 ·exact absurd bX (by decide)
 refine⟨Mu,150,(3:Nat),(0:Nat),(gN 4 16 3:Nat),gT 4 16 kT 3,false,rfl,rfl,?_⟩;refine⟨fun _=>?_,fun h=>absurd rfl h⟩;refine⟨_,C3 (s:=4) (n:=16) (p:=1) (bits:=2) (T:=kT) b0 3 Mu 0 false 18446744073709551615,?_⟩;rintro x hs ⟨e,rfl,(⟨_,hb,_⟩ | ⟨rfl,_,_,rfl⟩)⟩
 ·rcases hb with hb | hb
  ·cases hb
  ·exact absurd hb (by decide)
 refine⟨_,(18446744073709551615:Nat),rfl,rfl,fun h=>absurd rfl h,fun _=>?_⟩;refine⟨_,tY (B:=[]) hl (g:=3) (by decide) b0 Mu (x2:=(.slice none 0 0)) rfl 18446744073709551615 0 (by decide) (by decide) (fun _=>0) (fun _=>(by decide:0<256)) ar.nil 0 true (by decide) (by decide),?_⟩;rintro x hs ⟨JD,rfl,rfl⟩;refine⟨JD,0,(0:Nat),(FL 4 1 2 3 18446744073709551615 0:Nat),fun j=>(FB 4 16 1 2 kT 3 18446744073709551615 0 (fun _=>0) j:Nat),true,rfl,rfl,?_⟩;refine⟨_,Me (s:=4) (n:=16) (p:=1) (bits:=2) (T:=kT) (B:=[]) b0 3 Mu (x2:= .slice none 0 0) rfl 0 0 (fun _=>0) ar.nil,?_⟩;rintro x hs ⟨rfl,rfl⟩;refine⟨eQ,150,(0:Nat),0,fun _=>0,true,rfl,rfl,?_⟩;intro _ _ _ _;refine⟨fun _=>?_,fun h=>absurd ⟨rfl,rfl⟩ h⟩;refine⟨_,C3 (s:=4) (n:=16) (p:=1) (bits:=2) (T:=kT) b0 3 Mu 0 true 18446744073709551615,?_⟩;rintro x hs ⟨e,rfl,(⟨rfl,_,rfl⟩ | ⟨_,hb,_⟩)⟩;rotate_left
 ·cases hb
 exact⟨_,(0:Nat),rfl,rfl,fun _=>rfl,fun h=>absurd rfl h⟩
end Go.RX.Fz

namespace Go.RX.Fl
open Go.RX Go.Proofs Go.RX.Fe Go.RX.Fg Go.RX.Fi Go.RX.Fj Go.RX.Fk
noncomputable def cx:Ctx:={T:=TT,FT:=FT,loops:=Fl.loops,bB:=Fl.bB}
set_option maxRecDepth 100000
def BM(ao:PT)(x0:Int):Prop:=
 ∀(_:Nat) (v0:V1),∃(cc:Ext→Prop) (cu:Ext→Nat),(∃(v1:V1) (x1 x2:Int) (A0:Nat→Int),x1=(ae .u64 (ak .quo .u64 x0 256))∧v1=v0∧v1=v0∧x2=1∧(∀j,j<(ag x2)→A0 j=(fun _=>(ae .u8 (ak .rem .u64 x0 256))) j)∧cc ⟨[],[v1],[x1,x2],[A0],[],[],[]⟩)∧
 ∀(v1:V1) (x1 x2:Int) (A0:Nat→Int),cc ⟨[],[v1],[x1,x2],[A0],[],[],[]⟩→
 aJ (0<x1) (
 ∀_:Nat,aw (0≤x2) (
 aw (0≤x2) (
 nq (1+x2) (
 ∀v2:V1,∃(rj:V1) (dr ei:Int) (xx:Nat→Int),dr=(ae .u64 (ak .quo .u64 x1 256))∧rj=v2∧rj=v2∧ei=(1+x2)∧(∀j,j<(ag ei)→xx j=(ay (fun _=>(ae .u8 (ak .rem .u64 x1 256))) 1 (ag x2) A0) j)∧cc ⟨[],[rj],[dr,ei],[xx],[],[],[]⟩∧cu ⟨[],[rj],[dr,ei],[xx],[],[],[]⟩<cu ⟨[],[v1],[x1,x2],[A0],[],[],[]⟩)))) (
 ao (v1.v) [bo v1 x2 A0])
theorem Mf(ao:PT)(x0:Int)(h:BM ao x0):gq 70 [.int .u64 (.var 0)] [] ⟨[x0],[],[],[],[],[],[],[]⟩ ao:=
 qX (C:=Fl.cx) _ _ ⟨0,0,1,0,0,0,0⟩ _ 0 3 Tryz.func70 (by kernel_rfl) h
def J2(ao:PT)(x0 x1:Int):Prop:=
 ∀_:Nat,Cl 70 [.int .u64 x0] [] fun x hs _=> ∃(v0:V1) (x2:Int) (A0:Nat→Int),x=v0.v∧hs=[bo v0 x2 A0]∧
 Cl 70 [.int .u64 x1] [] fun x hs _=> ∃(v1:V1) (x3:Int) (A1:Nat→Int),x=v1.v∧hs=[bo v1 x3 A1]∧
 aJ (x0<8) (
 cg x0 ((
 cg (16*x0) ((
 aJ (x1<8) (
 cg x1 ((
 cg ((16*x0)+x1) ((
 ∀(_:Nat) (_ v3:V1),ao (v3.v) [bn true v3 1 (ay (ay (fun _=>(ae .u8 ((16*x0)+x1))) 1 0 (fun _=>0)) 1 0 (fun _=>0))]))))) (
 cg ((16*x0)+8) ((
 aw (0≤x3) (
 cg (((16*x0)+8)+x3) ((
 cg ((((16*x0)+8)+x3) - 1) ((
 ∀(_:Nat) (_:V1),nq (1+x3) (
 ∀v3:V1,ao (v3.v) [bo v3 (1+x3) (ay (ay (fun _=>(ae .u8 ((((16*x0)+8)+x3) - 1))) 1 0 (fun _=>0)) 1 (ag x3) A1)])))))))))))))) (
 aw (0≤x2) (
 cg (8+x2) ((
 cg ((8+x2) - 1) ((
 cg (16*((8+x2) - 1)) ((
 aJ (x1<8) (
 cg x1 ((
 cg ((16*((8+x2) - 1))+x1) ((
 ∀_:Nat,nq (1+x2) (
 ∀_:V1,aw (0≤(1+x2)) (
 ∀v3:V1,ao (v3.v) [bo v3 (1+x2) (ay (ay (fun _=>(ae .u8 ((16*((8+x2) - 1))+x1))) 1 (ag x2) A0) (ag (1+x2)) 0 (fun _=>0))]))))))) (
 cg ((16*((8+x2) - 1))+8) ((
 aw (0≤x3) (
 cg (((16*((8+x2) - 1))+8)+x3) ((
 cg ((((16*((8+x2) - 1))+8)+x3) - 1) ((
 ∀_:Nat,nq (1+x2) (
 ∀_:V1,aw (0≤(1+x2)) (
 nq ((1+x2)+x3) (
 ∀v3:V1,ao (v3.v) [bo v3 ((1+x2)+x3) (ay (ay (fun _=>(ae .u8 ((((16*((8+x2) - 1))+8)+x3) - 1))) 1 (ag x2) A0) (ag (1+x2)) (ag x3) A1)])))))))))))))))))))
theorem SU(ao:PT)(x0 x1:Int)(h:J2 ao x0 x1):gq 31 [.agg [.int .u64 (.var 0),.int .u64 (.var 1)]] [] ⟨[x0,x1],[],[],[],[],[],[],[]⟩ ao:=
 qX (C:=Fl.cx) _ _ ⟨0,0,2,0,0,0,0⟩ _ 0 1 Tryz.func31 (by kernel_rfl) h
open Go Go.RX Go.Proofs Go.RX.Sh Go.RX.Fg Go.RX.Fi Go.RX.Fj Go.RX.Fk Go.Hd Go.Gh Go.Gc Go.Ae Go.RX.Fe Go.Se
theorem mO{t:Nat}:bL [] [aG true t 1 (.slice none 0 0) 0 []]:=by
 intro w Fs o;refine bz.add (a:=[]) o _ (fun _=>False) (Nat.le_refl _) (fun _ _=>rfl) ⟨?_,fun k=>by simp [Value.ownBlock]⟩ fun _ h=>h.elim
 simp only [if_true];exact jR w t 1
theorem ZE{m:Nat}(h:m<2^64):ae .u64 (ak .quo .u64 (m:Int) 256)=((m/256:Nat):Int):=by
 have e:ak .quo .u64 (m:Int) 256=((m/256:Nat):Int):=rfl;rw [e,qe (Nat.lt_of_le_of_lt (Nat.div_le_self _ _) h)]
theorem ZF(m:Nat):ae .u8 (ak .rem .u64 (m:Int) 256)=((m%256:Nat):Int):=by
 have e:ak .rem .u64 (m:Int) 256=((m%256:Nat):Int):=rfl;rw [e,wrap_u8];congr 1;omega
def PK(s j:Nat):Nat:=if j=0 then jP s else if j=1 then dH s else if j=2 then FQ s else if j=3 then bA s else ey s
end Go.RX.Fl
