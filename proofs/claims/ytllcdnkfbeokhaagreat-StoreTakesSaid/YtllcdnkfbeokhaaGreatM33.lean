/- A state's bytes. -/
import Derived.Test.YtllcdnkfbeokhaaGreatM26
open Go.IntKind renaming wrap → ae
open Go.Proofs.Tryz renaming prog → aqQ
open Int renaming toNat → ag
open List renaming append → aqk
namespace Go.RX.Vb
open Go.RX Go.Proofs
noncomputable def ae2:Ctx:={T:=TT,FT:=FT,bj:=Vr.Nz,mQ:=Vr.RT}
noncomputable def ae3:Ctx:={T:=TT,FT:=FT,bj:=Vr.NC,mQ:=Vr.RW}
open Go.RX Go.Proofs
set_option maxRecDepth 100000
set_option maxHeartbeats 4000000
def OH(al:PT)(x0 x1 x2 x3 x4 x5 x6 x7 x8 x9 bE bM bP bI dW bV dI cj dM cU dz i_ fU gC fV:Int)(A0 A1 A2 A3 A4 A5 A6 A7 A8 A9 eg dN dq gk gG gP f_ fl fe fh fo gl:Nat→Int)(v0 v1 v2 v3 v4 v5 v6:V1)(p0:HP):Prop:=
 ∀_:Nat,Cl 10 [Ap A0 x0 x1 x2 A1 A2 v0 x3 v1 x4 x5 A3 v2 x6 A4 (!(x7==0)) x8 x9 bE A5 A6 A7 v3 bM v4 bP bI dW bV dI cj v5 v6] [rO v0 dM A8 A9,xF v1 cU eg dN dq,sY v2 dz gk,bf v3 i_ gG,sX v4 fU gP f_,bf v5 gC fl,ze v6 fV fe fh fo gl,p0] fun x hs l=> ∃q0:Bool,x= .bool q0∧hs=l∧
 br (¬(q0=true)) (
 al (.tuple #[.slice none 0 0,.int .i64 2]) []) (
 Cl 13 [Ap A0 x0 x1 x2 A1 A2 v0 x3 v1 x4 x5 A3 v2 x6 A4 (!(x7==0)) x8 x9 bE A5 A6 A7 v3 bM v4 bP bI dW bV dI cj v5 v6] [rO v0 dM A8 A9,xF v1 cU eg dN dq,sY v2 dz gk,bf v3 i_ gG,sX v4 fU gP f_,bf v5 gC fl,ze v6 fV fe fh fo gl,p0] fun x hs l=> ∃(v7:V1) (jb:Int) (kq:Nat→Int),x=v7.v∧hs=l++[bp v7 jb kq]∧
 ax (0≤jb) (
 br (4194286<jb) (
 al (.tuple #[.slice none 0 0,.int .i64 3]) []) (
 ∀b1 b2:Nat,Cl 21 [pp b2,.int .u64 (ae .u64 jb),.int .i64 4] [ak b2 true ([.bool true,.slice (some ⟨b1,0,none⟩) 6 6,.bool false]),Nr b1] fun x hs _=> ∃(v8:V1) (lz oM:Int) (lY:Nat→Int),x= .int .u64 lz∧hs=[cV b2 v8,bp v8 oM lY]∧
 ax (0≤oM) (
 kE (oM+jb) (
 ∀(v9:V1) (b3:Nat),Cl 22 [.slice (some ⟨b3,0,none⟩) 1 1] [ak b3 true ([v9.v]),bp v9 (oM+jb) (bQ lY (ag oM) (ag jb) kq)] fun x hs l=> ∃lJ:(Nat→Int),x= .agg (aqk (aj .u8 32 lJ) ([])).toArray∧hs=l∧
 ∀_:Nat,ax (0≤(oM+jb)) (
 kE ((oM+jb)+8) (
 ∀v10:V1,al (.tuple #[v10.v,.int .i64 0]) [bp v10 ((oM+jb)+8) (bQ (bQ lY (ag oM) (ag jb) kq) (ag (oM+jb)) 8 lJ)])))))))
theorem Wz(al:PT)(x0 x1 x2 x3 x4 x5 x6 x7 x8 x9 bE bM bP bI dW bV dI cj dM cU dz i_ fU gC fV:Int)(A0 A1 A2 A3 A4 A5 A6 A7 A8 A9 eg dN dq gk gG gP f_ fl fe fh fo gl:Nat→Int)(v0 v1 v2 v3 v4 v5 v6:V1)(p0:HP)(h:OH al x0 x1 x2 x3 x4 x5 x6 x7 x8 x9 bE bM bP bI dW bV dI cj dM cU dz i_ fU gC fV A0 A1 A2 A3 A4 A5 A6 A7 A8 A9 eg dN dq gk gG gP f_ fl fe fh fo gl v0 v1 v2 v3 v4 v5 v6 p0):aq aqQ 9 [Ap A0 x0 x1 x2 A1 A2 v0 x3 v1 x4 x5 A3 v2 x6 A4 (!(x7==0)) x8 x9 bE A5 A6 A7 v3 bM v4 bP bI dW bV dI cj v5 v6] [rO v0 dM A8 A9,xF v1 cU eg dN dq,sY v2 dz gk,bf v3 i_ gG,sX v4 fU gP f_,bf v5 gC fl,ze v6 fV fe fh fo gl,p0] al:=
 xp (C:=ae3) Vr.T4 Vq.Iy Vq.Cn ⟨[x0,x1,x2,x3,x4,x5,x6,x7,x8,x9,bE,bM,bP,bI,dW,bV,dI,cj,dM,cU,dz,i_,fU,gC,fV],[A0,A1,A2,A3,A4,A5,A6,A7,A8,A9,eg,dN,dq,gk,gG,gP,f_,fl,fe,fh,fo,gl],[],[],[v0,v1,v2,v3,v4,v5,v6],[],[p0],[]⟩ Tryz.func9 (by kernel_rfl) h
def IL(al:PT)(x0:Int)(b0 b1:Nat):Prop:=
 ∀(b2:Nat) (_:V1) (b3:Nat) (_:V1) (b4:Nat) (_:V1) (b5:Nat) (v3:V1),al (.int .u64 x0) [cV b0 v3,Nr b1,ak b2 true ([.int .u8 (ae .u8 (ar .shr .u64 x0 24))]),aB true 5 1 v3.v 10 (aK 10 [aC .u8 1 (aw (aw (aw (bQ (aw (aw (aw (aw (aw (aw (fun _=>0) 0 72) 1 76) 2 83) 3 84) 4 0) 5 1) 6 1 (aw (fun _=>0) 0 (ae .u8 (ar .shr .u64 x0 24)))) 7 (ae .u8 (ar .shr .u64 x0 16))) 8 (ae .u8 (ar .shr .u64 x0 8))) 9 (ae .u8 (ar .shr .u64 x0 0)))]),ak b3 true ([.int .u8 (ae .u8 (ar .shr .u64 x0 16))]),ak b4 true ([.int .u8 (ae .u8 (ar .shr .u64 x0 8))]),ak b5 true ([.int .u8 (ae .u8 (ar .shr .u64 x0 0))])]
theorem Sw(al:PT)(x0:Int)(b0 b1:Nat)(h:IL al x0 b0 b1):aq aqQ 21 [pp b0,.int .u64 x0,.int .i64 4] [ak b0 true ([.bool true,.slice (some ⟨b1,0,none⟩) 6 6,.bool false]),Nr b1] al:=
 xp (C:=cx) Vr.VK Vr.RV Vr.NB ⟨[x0],[],[],[b0,b1],[],[],[],[]⟩ Tryz.func21 (by kernel_rfl) h
open Go.RX Go.Proofs
set_option maxRecDepth 100000
set_option maxHeartbeats 4000000
def IM(al:PT)(x0 x1 x2 x3 x4 x5 x6 x7 x8 x9 bE bM bP bI dW bV dI cj dM cU dz i_ fU gC fV:Int)(A0 A1 A2 A3 A4 A5 A6 A7 A8 A9 eg dN dq gk gG gP f_ fl fe fh fo gl:Nat→Int)(v0 v1 v2 v3 v4 v5 v6:V1)(p0:HP):Prop:=
 ∀b0 b1:Nat,∃Ig0:Ext→Prop,(∀(w:World) (Fs:List HP),bG ([ak b1 true ([.bool true,.slice none 0 0,.bool false])]++Fs) w→∃v7:V1,bG ([cV b1 v7,aB true 5 1 v7.v 0 (aK 0 [aC .u8 1 (fun _=>0)])]++Fs) w∧Ig0 ⟨[],[v7],[],[],[],[],[]⟩)∧
 (∀v7:V1,Ig0 ⟨[],[v7],[],[],[],[],[]⟩→
 Cl 32 [pp b1,pp b0] [cV b1 v7,aB true 5 1 v7.v 0 (aK 0 [aC .u8 1 (fun _=>0)]),Qr b0 A0 x0 x1 x2 A1 A2 v0 x3 v1 x4 x5 A3 v2 x6 A4 (!(x7==0)) x8 x9 bE A5 A6 A7 v3 bM v4 bP bI dW bV dI cj v5 v6,rO v0 dM A8 A9,xF v1 cU eg dN dq,sY v2 dz gk,bf v3 i_ gG,sX v4 fU gP f_,bf v5 gC fl,ze v6 fV fe fh fo gl,p0] fun x hs _=> ∃(v8:V1) (jb:Int) (kq:Nat→Int),x= .tuple #[]∧hs=[cV b1 v8,bp v8 jb kq]∧
 al (v8.v) [HP.emp,HP.emp,HP.emp,HP.emp,HP.emp,HP.emp,HP.emp,HP.emp,HP.emp,cV b1 v8,bp v8 jb kq])
theorem Sx(al:PT)(x0 x1 x2 x3 x4 x5 x6 x7 x8 x9 bE bM bP bI dW bV dI cj dM cU dz i_ fU gC fV:Int)(A0 A1 A2 A3 A4 A5 A6 A7 A8 A9 eg dN dq gk gG gP f_ fl fe fh fo gl:Nat→Int)(v0 v1 v2 v3 v4 v5 v6:V1)(p0:HP)(h:IM al x0 x1 x2 x3 x4 x5 x6 x7 x8 x9 bE bM bP bI dW bV dI cj dM cU dz i_ fU gC fV A0 A1 A2 A3 A4 A5 A6 A7 A8 A9 eg dN dq gk gG gP f_ fl fe fh fo gl v0 v1 v2 v3 v4 v5 v6 p0):aq aqQ 13 [Ap A0 x0 x1 x2 A1 A2 v0 x3 v1 x4 x5 A3 v2 x6 A4 (!(x7==0)) x8 x9 bE A5 A6 A7 v3 bM v4 bP bI dW bV dI cj v5 v6] [rO v0 dM A8 A9,xF v1 cU eg dN dq,sY v2 dz gk,bf v3 i_ gG,sX v4 fU gP f_,bf v5 gC fl,ze v6 fV fe fh fo gl,p0] al:=
 xp (C:=ae2) Vr.T4 Vq.Iy Vq.Cn ⟨[x0,x1,x2,x3,x4,x5,x6,x7,x8,x9,bE,bM,bP,bI,dW,bV,dI,cj,dM,cU,dz,i_,fU,gC,fV],[A0,A1,A2,A3,A4,A5,A6,A7,A8,A9,eg,dN,dq,gk,gG,gP,f_,fl,fe,fh,fo,gl],[],[],[v0,v1,v2,v3,v4,v5,v6],[],[p0],[]⟩ Tryz.func13 (by kernel_rfl) h
open Go.RX Go.Proofs
noncomputable def cxQ:Ctx:={T:=TT,FT:=FT,loops:=Vq.loops,bj:=Vq.bj}
noncomputable def ae4:Ctx:={T:=TT,FT:=FT,loops:=Vq.VD}
noncomputable def ae5:Ctx:={T:=TT,FT:=FT,bj:=Vq.Ny}
open Go.RX Go.Proofs
set_option maxRecDepth 100000
set_option maxHeartbeats 4000000
def OI(al:PT)(x0 x1 x2 x3 x4 x5 x6 x7:Int)(A0 A1 A2 A3 A4:Nat→Int)(b0 b1:Nat):Prop:=
 ∀b2:Nat,br (¬((A4 (ag ((aS ((List.range 16).map A2):Nat):Int)))=0)) (
 al (.tuple #[(cA (A4 (ag ((aS ((List.range 16).map A2):Nat):Int)))),.bool true]) [RB b0 x0 x1 A0 x2 x3 x4 x5 b1 A1,GI b1 A3 A4,ak b2 true (aqk (aj .u8 16 A2) ([]))]) (
 br (8≤(A3 0)) (
 al (.tuple #[.pointer none,.bool false]) [RB b0 x0 x1 A0 x2 x3 x4 x5 b1 A1,GI b1 A3 A4,ak b2 true (aqk (aj .u8 16 A2) ([]))]) (
 ∀b3 b4 b5 b6 _ _ _ _ _ QH:Nat,al (.tuple #[pp b6,.bool true]) [RB b0 x0 x1 A0 x2 x3 x4 x5 b1 A1,nQ b1 [.u8,.u8,.u8,.u8,.u8,.u8,.u8,.u8,.u8,.u8,.u8,.u8,.u8,.u8,.u8,.u8] true false ([.pointer none]) (aw (aw A3 0 (((A3 0)+1) - (ar .ib .i64 (A3 (ag ((aS ((List.range 16).map A2):Nat):Int))) 1))) (ag ((aS ((List.range 16).map A2):Nat):Int)) 1) (M5 [tH 1 (aw A4 (ag ((aS ((List.range 16).map A2):Nat):Int)) ((b6:Nat)+1:Int))]),ak b2 true (aqk (aj .u8 16 A2) ([])),ak b3 true ([.func (.func 79) #[pp b0] #[]]),ak b4 true ([.int .u8 x0,.int .u8 x1]),ak b5 true ((.iface 292 (pp b3))::(.int .u8 x0::(.int .u8 x1::(.bool false::(aqk (aj .u8 16 (fun _=>0)) ([.int .u64 0,.slice none 0 0,.slice none 0 0,.slice none 0 0])))))),ak b6 true ([pp b5,pp QH,.bool false,.bool (!(x7==0)),.int .u8 x6,.int .u64 0])]))
theorem WA(al:PT)(x0 x1 x2 x3 x4 x5 x6 x7:Int)(A0 A1 A2 A3 A4:Nat→Int)(b0 b1:Nat)(h:OI al x0 x1 x2 x3 x4 x5 x6 x7 A0 A1 A2 A3 A4 b0 b1):aq aqQ 38 [pp b0,.agg (aqk (aj .u8 16 A2) ([])).toArray,.int .u8 x6,.bool (!(x7==0))] [RB b0 x0 x1 A0 x2 x3 x4 x5 b1 A1,GI b1 A3 A4] al:=
 sW (C:=cx) Vq.aeu Vq.Z7 Vq.Vu ⟨[x0,x1,x2,x3,x4,x5,x6,x7],[A0,A1,A2,A3,A4],[],[b0,b1],[],[],[],[]⟩ 7 Tryz.func38 (by kernel_rfl) h
def OJ(al:PT)(x0 x1 x2 x3 x4 x5 x6 x7 x8 x9 bE bM bP bI dW bV dI cj dM cU dz i_ fU gC fV:Int)(A0 A1 A2 A3 A4 A5 A6 A7 A8 A9 eg dN dq gk gG gP f_ fl fe fh fo gl:Nat→Int)(v0 v1 v2 v3 v4 v5 v6:V1)(p0:HP):Prop:=
 ∀_:Nat,Cl 34 [.agg (.int .u8 x1::(.int .u8 x2::(aqk (aj .u8 32 A1) (aqk (aj .u8 32 A2) ([v0.v,.int .i64 x3,v1.v]))))).toArray] [rO v0 dM A8 A9,xF v1 cU eg dN dq,p0] fun x hs l=> ∃jb lz:Int,x= .tuple #[(cA jb),.int .i64 lz]∧hs=l∧
 br (¬(lz=0)) (
 al (.tuple #[.pointer none,.int .i64 lz]) []) (
 Cl 35 [.agg (.int .u8 x4::(.int .u8 x5::(aqk (aj .u8 8 A3) (v2.v::(.int .u8 x6::(aqk (aj .u8 16 A4) (.bool (!(x7==0))::(.int .u8 x8::(.int .u8 x9::(.int .u8 bE::(aqk (aj .u8 32 A5) (aqk (aj .u8 32 A6) (aqk (aj .u8 32 A7) ([v3.v,.int .i64 bM,v4.v,.int .u64 bP,.int .u64 bI,.int .u64 dW,.int .u64 bV,.int .u64 dI,.int .u32 cj])))))))))))))).toArray] [sY v2 dz gk,bf v3 i_ gG,sX v4 fU gP f_] fun x hs l=> ∃oM wS:Int,x= .tuple #[(cA oM),.int .i64 wS]∧hs=l∧
 br (¬(wS=0)) (
 al (.tuple #[.pointer none,.int .i64 wS]) []) (
 Cl 36 [v5.v] [bf v5 gC fl] fun x hs l=> ∃tu rP:Int,x= .tuple #[(cA tu),.int .i64 rP]∧hs=l∧
 br (¬(rP=0)) (
 al (.tuple #[.pointer none,.int .i64 rP]) []) (
 ax ((¬((x4=x1)∧(x5=x2)))∨(0≤fV)) (
 br ((¬((x4=x1)∧(x5=x2)))∨(8<fV)) (
 al (.tuple #[.pointer none,.int .i64 2]) []) (
 ∀b1 b2:Nat,ax (0≤fV) (
 ∃(lZ:Ext→Prop) (py:Ext→Nat),(∃(ia:Int) (kq lY:Nat→Int),ia=0∧(kq=(fun _=>0))∧(lY=(fun _=>0))∧lZ ⟨[],[],[ia],[kq,lY],[],[],[]⟩)∧
 ∀(ia:Int) (kq lY:Nat→Int),lZ ⟨[],[],[ia],[kq,lY],[],[],[]⟩→
 br (ia<fV) (
 ax (0≤ia) (
 ∀b3:Nat,ax ((¬(0<ia))∨((-9223372036854775808)≤(ia - 1))) (
 ax ((¬(0<ia))∨((ia - 1)≤9223372036854775807)) (
 ax ((¬(0<ia))∨(0≤(ia - 1))) (
 ax ((¬(0<ia))∨((ia - 1)<fV)) (
 ax ((¬(0<ia))∨(0≤(ia - 1))) (
 ax ((¬(0<ia))∨((ia - 1)<fV)) (
 ax ((¬(0<ia))∨(0≤(ia - 1))) (
 ax ((¬(0<ia))∨((ia - 1)<fV)) (
 br (0<ia) (
 Cl 37 [(yr v6.v ((ag (ia - 1))*19+0) 16),.slice (some ⟨b3,0,none⟩) 16 16] [ze v6 fV fe fh fo gl,Ei b3 (bS fe (ag (ia*16))) (fh (ag ia)) (!((fo (ag ia))==0)) (gl (ag ia))] fun x hs l=> ∃Df:Int,x= .int .i64 Df∧hs=l∧
 br ((0≤Df)∨(8≤(fh (ag ia)))) (
 al (.tuple #[.pointer none,.int .i64 2]) []) (
 Cl 38 [pp b2,.agg (aqk (aj .u8 16 (bS fe (ag (ia*16)))) ([])).toArray,.int .u8 (fh (ag ia)),.bool (!((fo (ag ia))==0))] [RA b2 x4 x5 A0 x0 jb oM tu b1,GI b1 kq lY] fun x hs _=> ∃(b4:Nat) (vD rQ rR:Int) (lJ nF:Nat→Int) (q0:Bool),x= .tuple #[pp b4,.bool true]∧hs=[RA b2 x4 x5 A0 x0 jb oM tu b1,GI b1 lJ nF,ak b4 true ([(cA vD),(cA rQ),.bool false,.bool q0,.int .u8 rR,.int .u64 0])]∧
 iQ (ia+1) ((
 ∃(uA:Int) (s6 s7:Nat→Int),uA=(ia+1)∧(s6=lJ)∧(s7=nF)∧lZ ⟨[],[],[uA],[s6,s7],[],[],[]⟩∧py ⟨[],[],[uA],[s6,s7],[],[],[]⟩<py ⟨[],[],[ia],[kq,lY],[],[],[]⟩)))) (
 br (8≤(fh (ag ia))) (
 al (.tuple #[.pointer none,.int .i64 2]) []) (
 Cl 38 [pp b2,.agg (aqk (aj .u8 16 (bS fe (ag (ia*16)))) ([])).toArray,.int .u8 (fh (ag ia)),.bool (!((fo (ag ia))==0))] [RA b2 x4 x5 A0 x0 jb oM tu b1,GI b1 kq lY] fun x hs _=> ∃(b4:Nat) (Df vD rQ:Int) (lJ nF:Nat→Int) (q0:Bool),x= .tuple #[pp b4,.bool true]∧hs=[RA b2 x4 x5 A0 x0 jb oM tu b1,GI b1 lJ nF,ak b4 true ([(cA Df),(cA vD),.bool false,.bool q0,.int .u8 rQ,.int .u64 0])]∧
 iQ (ia+1) ((
 ∃(uA:Int) (s6 s7:Nat→Int),uA=(ia+1)∧(s6=lJ)∧(s7=nF)∧lZ ⟨[],[],[uA],[s6,s7],[],[],[]⟩∧py ⟨[],[],[uA],[s6,s7],[],[],[]⟩<py ⟨[],[],[ia],[kq,lY],[],[],[]⟩)))))))))))))) (
 al (.tuple #[pp b2,.int .i64 0]) [])))))))
theorem WB(al:PT)(x0 x1 x2 x3 x4 x5 x6 x7 x8 x9 bE bM bP bI dW bV dI cj dM cU dz i_ fU gC fV:Int)(A0 A1 A2 A3 A4 A5 A6 A7 A8 A9 eg dN dq gk gG gP f_ fl fe fh fo gl:Nat→Int)(v0 v1 v2 v3 v4 v5 v6:V1)(p0:HP)(h:OJ al x0 x1 x2 x3 x4 x5 x6 x7 x8 x9 bE bM bP bI dW bV dI cj dM cU dz i_ fU gC fV A0 A1 A2 A3 A4 A5 A6 A7 A8 A9 eg dN dq gk gG gP f_ fl fe fh fo gl v0 v1 v2 v3 v4 v5 v6 p0):aq aqQ 15 [Ap A0 x0 x1 x2 A1 A2 v0 x3 v1 x4 x5 A3 v2 x6 A4 (!(x7==0)) x8 x9 bE A5 A6 A7 v3 bM v4 bP bI dW bV dI cj v5 v6,.nilIface] [rO v0 dM A8 A9,xF v1 cU eg dN dq,sY v2 dz gk,bf v3 i_ gG,sX v4 fU gP f_,bf v5 gC fl,ze v6 fV fe fh fo gl,p0] al:=
 sW (C:=cxQ) Vq.aev Vq.Iy Vq.Cn ⟨[x0,x1,x2,x3,x4,x5,x6,x7,x8,x9,bE,bM,bP,bI,dW,bV,dI,cj,dM,cU,dz,i_,fU,gC,fV],[A0,A1,A2,A3,A4,A5,A6,A7,A8,A9,eg,dN,dq,gk,gG,gP,f_,fl,fe,fh,fo,gl],[],[],[v0,v1,v2,v3,v4,v5,v6],[],[p0],[]⟩ 0 Tryz.func15 (by kernel_rfl) h
def OK(al:PT)(x0 x1:Int)(A0 A1:Nat→Int)(v0 v1:V1):Prop:=
 ax (0≤x0) (
 ∃(cE:Ext→Prop) (db:Ext→Nat),(∃x2:Int,x2=0∧cE ⟨[],[],[x2],[],[],[],[]⟩)∧
 ∀x2:Int,cE ⟨[],[],[x2],[],[],[],[]⟩→
 br (x2<x0) (
 ax (0≤x2) (
 ax (0≤x1) (
 br (x1≤x2) (
 al (.int .i64 1) [bf v0 x0 A0,bf v1 x1 A1]) (
 ax (x2<x1) (
 br ((A0 (ag x2))<(A1 (ag x2))) (
 al (.int .i64 (-1)) [bf v0 x0 A0,bf v1 x1 A1]) (
 br ((A1 (ag x2))<(A0 (ag x2))) (
 al (.int .i64 1) [bf v0 x0 A0,bf v1 x1 A1]) (
 iQ (x2+1) ((
 ∃gI:Int,gI=(x2+1)∧cE ⟨[],[],[gI],[],[],[],[]⟩∧db ⟨[],[],[gI],[],[],[],[]⟩<db ⟨[],[],[x2],[],[],[],[]⟩))))))))) (
 ax (0≤x0) (
 ax (0≤x1) (
 br (x0<x1) (
 al (.int .i64 (-1)) [bf v0 x0 A0,bf v1 x1 A1]) (
 al (.int .i64 0) [bf v0 x0 A0,bf v1 x1 A1])))))
theorem WC(al:PT)(x0 x1:Int)(A0 A1:Nat→Int)(v0 v1:V1)(h:OK al x0 x1 A0 A1 v0 v1):aq aqQ 37 [v0.v,v1.v] [bf v0 x0 A0,bf v1 x1 A1] al:=
 sW (C:=ae4) Vq.aew Vq.Z8 Vq.VB ⟨[x0,x1],[A0,A1],[],[],[v0,v1],[],[],[]⟩ 2 Tryz.func37 (by kernel_rfl) h
def OL(al:PT)(x0 x1 x2 x3 x4 x5 x6 x7 x8 x9 bE bM bP bI dW bV dI cj dM cU dz i_ fU gC fV:Int)(A0 A1 A2 A3 A4 A5 A6 A7 A8 A9 eg dN dq gk gG gP f_ fl fe fh fo gl:Nat→Int)(v0 v1 v2 v3 v4 v5 v6:V1)(p0:HP):Prop:=
 ∀_:Nat,br ((((x3<0)∨(2147483647<x3))∨(bM<(-1)))∨(254<bM)) (
 al (.bool false) []) (
 Cl 15 [Ap A0 x0 x1 x2 A1 A2 v0 x3 v1 x4 x5 A3 v2 x6 A4 (!(x7==0)) x8 x9 bE A5 A6 A7 v3 bM v4 bP bI dW bV dI cj v5 v6,.nilIface] [rO v0 dM A8 A9,xF v1 cU eg dN dq,sY v2 dz gk,bf v3 i_ gG,sX v4 fU gP f_,bf v5 gC fl,ze v6 fV fe fh fo gl,p0] fun x hs l=> ∃jb lz:Int,x= .tuple #[(cA jb),.int .i64 lz]∧hs=l∧
 al (.bool (lz==0)) [])
theorem WD(al:PT)(x0 x1 x2 x3 x4 x5 x6 x7 x8 x9 bE bM bP bI dW bV dI cj dM cU dz i_ fU gC fV:Int)(A0 A1 A2 A3 A4 A5 A6 A7 A8 A9 eg dN dq gk gG gP f_ fl fe fh fo gl:Nat→Int)(v0 v1 v2 v3 v4 v5 v6:V1)(p0:HP)(h:OL al x0 x1 x2 x3 x4 x5 x6 x7 x8 x9 bE bM bP bI dW bV dI cj dM cU dz i_ fU gC fV A0 A1 A2 A3 A4 A5 A6 A7 A8 A9 eg dN dq gk gG gP f_ fl fe fh fo gl v0 v1 v2 v3 v4 v5 v6 p0):aq aqQ 10 [Ap A0 x0 x1 x2 A1 A2 v0 x3 v1 x4 x5 A3 v2 x6 A4 (!(x7==0)) x8 x9 bE A5 A6 A7 v3 bM v4 bP bI dW bV dI cj v5 v6] [rO v0 dM A8 A9,xF v1 cU eg dN dq,sY v2 dz gk,bf v3 i_ gG,sX v4 fU gP f_,bf v5 gC fl,ze v6 fV fe fh fo gl,p0] al:=
 sW (C:=ae5) Vq.aex Vq.Iy Vq.Cn ⟨[x0,x1,x2,x3,x4,x5,x6,x7,x8,x9,bE,bM,bP,bI,dW,bV,dI,cj,dM,cU,dz,i_,fU,gC,fV],[A0,A1,A2,A3,A4,A5,A6,A7,A8,A9,eg,dN,dq,gk,gG,gP,f_,fl,fe,fh,fo,gl],[],[],[v0,v1,v2,v3,v4,v5,v6],[],[p0],[]⟩ 0 Tryz.func10 (by kernel_rfl) h
open Go.RX Go.Proofs
set_option maxRecDepth 100000
def IN(al:PT)(x0:Int)(A0 _:Nat→Int)(v0:V1):Prop:=
 ∀b0:Nat,ax (0≤x0) (
 ∃(cE:Ext→Prop) (db:Ext→Nat),(∃(v2:V1) (x1 x2:Int) (A2:Nat→Int),x1=0∧v2=(⟨.slice none 0 0,rfl⟩:V1)∧v2=(⟨.slice none 0 0,rfl⟩:V1)∧x2=0∧(∀j,j<(ag (x2*16))→A2 j=(fun _=>0) j)∧cE ⟨[],[v2],[x1,x2],[A2],[],[],[]⟩)∧
 ∀(v2:V1) (x1 x2:Int) (A2:Nat→Int),cE ⟨[],[v2],[x1,x2],[A2],[],[],[]⟩→
 br (x1<x0) (
 ax (0≤x1) (
 ∀_ _ _ _ _:Nat,ax (0≤x2) (
 ∃(ym:Ext→Prop) (Dn:Ext→Nat),(∃x3:Int,x3=0∧ym ⟨[],[],[x3],[],[],[],[]⟩)∧
 ∀x3:Int,ym ⟨[],[],[x3],[],[],[],[]⟩→
 br (x3<x2) (
 ax (0≤x3) (
 br (∀j,j<16→(bS A0 (ag (x1*16))) j=(bS A2 (ag (x3*16))) j) (
 iQ (x1+1) ((
 ax (0≤x2) (
 ∀v3:V1,∃(ma:V1) (ku gI:Int) (qL:Nat→Int),ku=(x1+1)∧ma=v3∧ma=v3∧gI=x2∧(∀j,j<(ag (gI*16))→qL j=A2 j)∧cE ⟨[],[ma],[ku,gI],[qL],[],[],[]⟩∧db ⟨[],[ma],[ku,gI],[qL],[],[],[]⟩<db ⟨[],[v2],[x1,x2],[A2],[],[],[]⟩)))) (
 iQ (x3+1) ((
 ∃oU:Int,oU=(x3+1)∧ym ⟨[],[],[oU],[],[],[],[]⟩∧Dn ⟨[],[],[oU],[],[],[],[]⟩<Dn ⟨[],[],[x3],[],[],[],[]⟩))))) (
 ∀_:Nat,ax (0≤x2) (
 kE ((x2+1)*16) (
 ∀_:V1,ax (0≤(x2+1)) (
 iQ ((x2+1) - 256) ((
 br (0<((x2+1) - 256)) (
 ax (0≤((x2+1) - 256)) (
 ax (((x2+1) - 256)≤(x2+1)) (
 br (0=((x2+1) - 256)) (
 iQ (x1+1) ((
 ax (0≤(x2+1)) (
 ∀v4:V1,∃(ma:V1) (ku gI:Int) (qL:Nat→Int),ku=(x1+1)∧ma=v4∧ma=v4∧gI=(x2+1)∧(∀j,j<(ag (gI*16))→qL j=(bQ A2 (ag (x2*16)) 16 (bS A0 (ag (x1*16)))) j)∧cE ⟨[],[ma],[ku,gI],[qL],[],[],[]⟩∧db ⟨[],[ma],[ku,gI],[qL],[],[],[]⟩<db ⟨[],[v2],[x1,x2],[A2],[],[],[]⟩)))) (
 ax (0≤((x2+1) - ((x2+1) - 256))) (
 ax (0≤((x2+1) - ((x2+1) - 256))) (
 ax (((x2+1) - ((x2+1) - 256))≤(x2+1)) (
 ax (0≤((x2+1) - ((x2+1) - ((x2+1) - 256)))) (
 iQ (x1+1) ((
 ax (0≤((x2+1) - ((x2+1) - 256))) (
 ax (((x2+1) - ((x2+1) - 256))≤(x2+1)) (
 ax (0≤((x2+1) - ((x2+1) - 256))) (
 ∀v4:V1,∃(ma:V1) (ku gI:Int) (qL:Nat→Int),ku=(x1+1)∧ma=v4∧ma=v4∧gI=((x2+1) - ((x2+1) - 256))∧(∀j,j<(ag (gI*16))→qL j=(bQ (bQ (bQ A2 (ag (x2*16)) 16 (bS A0 (ag (x1*16)))) 0 (ag (((x2+1) - ((x2+1) - 256))*16)) (bS (bQ A2 (ag (x2*16)) 16 (bS A0 (ag (x1*16)))) (ag (((x2+1) - 256)*16)))) (ag (((x2+1) - ((x2+1) - 256))*16)) (ag (((x2+1) - ((x2+1) - ((x2+1) - 256)))*16)) (fun _=>0)) j)∧cE ⟨[],[ma],[ku,gI],[qL],[],[],[]⟩∧db ⟨[],[ma],[ku,gI],[qL],[],[],[]⟩<db ⟨[],[v2],[x1,x2],[A2],[],[],[]⟩))))))))))))) (
 iQ (x1+1) ((
 ax (0≤(x2+1)) (
 ∀v4:V1,∃(ma:V1) (ku gI:Int) (qL:Nat→Int),ku=(x1+1)∧ma=v4∧ma=v4∧gI=(x2+1)∧(∀j,j<(ag (gI*16))→qL j=(bQ A2 (ag (x2*16)) 16 (bS A0 (ag (x1*16)))) j)∧cE ⟨[],[ma],[ku,gI],[qL],[],[],[]⟩∧db ⟨[],[ma],[ku,gI],[qL],[],[],[]⟩<db ⟨[],[v2],[x1,x2],[A2],[],[],[]⟩))))))))))))) (
 al (pp b0) [sY v0 x0 A0]))
theorem Sy(al:PT)(x0:Int)(A0 A1:Nat→Int)(v0:V1)(h:IN al x0 A0 A1 v0):aq aqQ 70 [.int .i64 256,v0.v] [sY v0 x0 A0] al:=
 sW (C:=cxO) Vo.aem Vo.ZL Vo.Kh ⟨[x0],[A0,A1],[],[],[v0],[],[],[]⟩ 1 Tryz.func70 (by kernel_rfl) h
def IP(al:PT)(x0:Int)(A0 A1:Nat→Int)(v0:V1):Prop:=
 ∀b0:Nat,ax (0≤x0) (
 ∃(cE:Ext→Prop) (db:Ext→Nat),(∃(v2:V1) (x1 x2:Int) (A2 A3:Nat→Int),x1=0∧v2=(⟨.slice none 0 0,rfl⟩:V1)∧v2=(⟨.slice none 0 0,rfl⟩:V1)∧x2=0∧(∀j,j<(ag x2)→A2 j=(fun _=>0) j)∧(∀j,j<(ag x2)→A3 j=(fun _=>0) j)∧cE ⟨[],[v2],[x1,x2],[A2,A3],[],[],[]⟩)∧
 ∀(v2:V1) (x1 x2:Int) (A2 A3:Nat→Int),cE ⟨[],[v2],[x1,x2],[A2,A3],[],[],[]⟩→
 br (x1<x0) (
 ax (0≤x1) (
 ∀_ _ _ _ _:Nat,ax (0≤x2) (
 ∃(ym:Ext→Prop) (Dn:Ext→Nat),(∃x3:Int,x3=0∧ym ⟨[],[],[x3],[],[],[],[]⟩)∧
 ∀x3:Int,ym ⟨[],[],[x3],[],[],[],[]⟩→
 br (x3<x2) (
 ax (0≤x3) (
 br (((A0 (ag x1))=(A2 (ag x3)))∧((A1 (ag x1))=(A3 (ag x3)))) (
 iQ (x1+1) ((
 ax (0≤x2) (
 ∀v3:V1,∃(ma:V1) (ku gI:Int) (qL p_:Nat→Int),ku=(x1+1)∧ma=v3∧ma=v3∧gI=x2∧(∀j,j<(ag gI)→qL j=A2 j)∧(∀j,j<(ag gI)→p_ j=A3 j)∧cE ⟨[],[ma],[ku,gI],[qL,p_],[],[],[]⟩∧db ⟨[],[ma],[ku,gI],[qL,p_],[],[],[]⟩<db ⟨[],[v2],[x1,x2],[A2,A3],[],[],[]⟩)))) (
 iQ (x3+1) ((
 ∃oU:Int,oU=(x3+1)∧ym ⟨[],[],[oU],[],[],[],[]⟩∧Dn ⟨[],[],[oU],[],[],[],[]⟩<Dn ⟨[],[],[x3],[],[],[],[]⟩))))) (
 ∀_:Nat,ax (0≤x2) (
 kE ((x2+1)*2) (
 ∀_:V1,ax (0≤(x2+1)) (
 iQ ((x2+1) - 4) ((
 br (0<((x2+1) - 4)) (
 ax (0≤((x2+1) - 4)) (
 ax (((x2+1) - 4)≤(x2+1)) (
 br (0=((x2+1) - 4)) (
 iQ (x1+1) ((
 ax (0≤(x2+1)) (
 ∀v4:V1,∃(ma:V1) (ku gI:Int) (qL p_:Nat→Int),ku=(x1+1)∧ma=v4∧ma=v4∧gI=(x2+1)∧(∀j,j<(ag gI)→qL j=(aw A2 (ag x2) (A0 (ag x1))) j)∧(∀j,j<(ag gI)→p_ j=(aw A3 (ag x2) (A1 (ag x1))) j)∧cE ⟨[],[ma],[ku,gI],[qL,p_],[],[],[]⟩∧db ⟨[],[ma],[ku,gI],[qL,p_],[],[],[]⟩<db ⟨[],[v2],[x1,x2],[A2,A3],[],[],[]⟩)))) (
 ax (0≤((x2+1) - ((x2+1) - 4))) (
 ax (0≤((x2+1) - ((x2+1) - 4))) (
 ax (((x2+1) - ((x2+1) - 4))≤(x2+1)) (
 ax (0≤((x2+1) - ((x2+1) - ((x2+1) - 4)))) (
 iQ (x1+1) ((
 ax (0≤((x2+1) - ((x2+1) - 4))) (
 ax (((x2+1) - ((x2+1) - 4))≤(x2+1)) (
 ax (0≤((x2+1) - ((x2+1) - 4))) (
 ∀v4:V1,∃(ma:V1) (ku gI:Int) (qL p_:Nat→Int),ku=(x1+1)∧ma=v4∧ma=v4∧gI=((x2+1) - ((x2+1) - 4))∧(∀j,j<(ag gI)→qL j=(bQ (bQ (aw A2 (ag x2) (A0 (ag x1))) 0 (ag ((x2+1) - ((x2+1) - 4))) (bS (aw A2 (ag x2) (A0 (ag x1))) (ag ((x2+1) - 4)))) (ag ((x2+1) - ((x2+1) - 4))) (ag ((x2+1) - ((x2+1) - ((x2+1) - 4)))) (fun _=>0)) j)∧(∀j,j<(ag gI)→p_ j=(bQ (bQ (aw A3 (ag x2) (A1 (ag x1))) 0 (ag ((x2+1) - ((x2+1) - 4))) (bS (aw A3 (ag x2) (A1 (ag x1))) (ag ((x2+1) - 4)))) (ag ((x2+1) - ((x2+1) - 4))) (ag ((x2+1) - ((x2+1) - ((x2+1) - 4)))) (fun _=>0)) j)∧cE ⟨[],[ma],[ku,gI],[qL,p_],[],[],[]⟩∧db ⟨[],[ma],[ku,gI],[qL,p_],[],[],[]⟩<db ⟨[],[v2],[x1,x2],[A2,A3],[],[],[]⟩))))))))))))) (
 iQ (x1+1) ((
 ax (0≤(x2+1)) (
 ∀v4:V1,∃(ma:V1) (ku gI:Int) (qL p_:Nat→Int),ku=(x1+1)∧ma=v4∧ma=v4∧gI=(x2+1)∧(∀j,j<(ag gI)→qL j=(aw A2 (ag x2) (A0 (ag x1))) j)∧(∀j,j<(ag gI)→p_ j=(aw A3 (ag x2) (A1 (ag x1))) j)∧cE ⟨[],[ma],[ku,gI],[qL,p_],[],[],[]⟩∧db ⟨[],[ma],[ku,gI],[qL,p_],[],[],[]⟩<db ⟨[],[v2],[x1,x2],[A2,A3],[],[],[]⟩))))))))))))) (
 al (pp b0) [sX v0 x0 A0 A1]))
theorem Sz(al:PT)(x0:Int)(A0 A1:Nat→Int)(v0:V1)(h:IP al x0 A0 A1 v0):aq aqQ 72 [.int .i64 4,v0.v] [sX v0 x0 A0 A1] al:=
 sW (C:=cxO) Vo.aen Vo.hpD Vo.Kh ⟨[x0],[A0,A1],[],[],[v0],[],[],[]⟩ 1 Tryz.func72 (by kernel_rfl) h
def OM(al:PT)(x0 x1 x2:Int)(A0:Nat→Int)(v0:V1):Prop:=
 ax (0≤x2) (
 br (((8≤x0)∨(x2<1))∨(4<x2)) (
 al (.tuple #[.pointer none,.int .i64 2]) []) (
 ∀b0:Nat,∃(G3:Ext→Prop) (ON:Ext→Nat),(∃(v2:V1) (x3 x4:Int) (A1:Nat→Int),x3=0∧v2=(⟨.slice none 0 0,rfl⟩:V1)∧v2=(⟨.slice none 0 0,rfl⟩:V1)∧x4=0∧(∀j,j<(ag x4)→A1 j=(fun _=>0) j)∧G3 ⟨[],[v2],[x3,x4],[A1],[],[],[]⟩)∧
 ∀(v2:V1) (x3 x4:Int) (A1:Nat→Int),G3 ⟨[],[v2],[x3,x4],[A1],[],[],[]⟩→
 br (x3<x2) (
 ∀_:Nat,ax (0≤x4) (
 kE ((x4+1)*1) (
 ∀v3:V1,iQ (x3+1) ((
 ∃(ma:V1) (oU uR:Int) (Ma:Nat→Int),oU=(x3+1)∧ma=v3∧ma=v3∧uR=(x4+1)∧(∀j,j<(ag uR)→Ma j=(aw A1 (ag x4) 1) j)∧G3 ⟨[],[ma],[oU,uR],[Ma],[],[],[]⟩∧ON ⟨[],[ma],[oU,uR],[Ma],[],[],[]⟩<ON ⟨[],[v2],[x3,x4],[A1],[],[],[]⟩))))) (
 ax ((x1<(-1))∨(0≤x2)) (
 br ((x1<(-1))∨(x2≤x1)) (
 al (.tuple #[.pointer none,.int .i64 2]) []) (
 ax (0≤x2) (
 ∃(lZ:Ext→Prop) (py:Ext→Nat),(∃x5:Int,x5=0∧lZ ⟨[],[],[x5],[],[],[],[]⟩)∧
 ∀x5:Int,lZ ⟨[],[],[x5],[],[],[],[]⟩→
 br (x5<x2) (
 ax (0≤x5) (
 br (((A0 (ag x5))<1)∨(4<(A0 (ag x5)))) (
 al (.tuple #[.pointer none,.int .i64 2]) []) (
 iQ (x5+1) ((
 ∃qg:Int,qg=(x5+1)∧lZ ⟨[],[],[qg],[],[],[],[]⟩∧py ⟨[],[],[qg],[],[],[],[]⟩<py ⟨[],[],[x5],[],[],[],[]⟩))))) (
 Cl 117 [v0.v] [bf v0 x2 A0] fun x hs l=> ∃v3:V1,x=v3.v∧hs=l∧
 al (.tuple #[pp b0,.int .i64 0]) [])))))))
theorem WE(al:PT)(x0 x1 x2:Int)(A0:Nat→Int)(v0:V1)(h:OM al x0 x1 x2 A0 v0):aq aqQ 71 [.int .u8 x0,v0.v,.int .i64 x1] [bf v0 x2 A0] al:=
 sW (C:=Z6) Vo.aeo Vo.Z3 Vo.Vj ⟨[x0,x1,x2],[A0],[],[],[v0],[],[],[]⟩ 0 Tryz.func71 (by kernel_rfl) h
def OO(al:PT)(x0:Int)(A0:Nat→Int)(v0:V1):Prop:=
 br (wu v0.v=true) (
 al (.slice none 0 0) [bf v0 x0 A0]) (
 ∀_:V1,ax (0≤x0) (
 ax (0≤x0) (
 kE x0 (
 ∀v2:V1,al (v2.v) [bf v0 x0 A0]))))
theorem WG(al:PT)(x0:Int)(A0:Nat→Int)(v0:V1)(h:OO al x0 A0 v0):aq aqQ 117 [v0.v] [bf v0 x0 A0] al:=
 sW (C:=Z6) [.vv 0] [.cr false 0 5 1 (.var 0) [⟨.int .u8,1,.cI 0⟩]] ⟨0,1,1,1,0,0,0⟩ ⟨[x0],[A0],[],[],[v0],[],[],[]⟩ 1 Tryz.func117 (by kernel_rfl) h
def OP(al:PT)(_ _ x2 _ x4 _ _ x7 _ _ _ _ _ _ dW bV dI:Int)(_ _ _ _ _ A5 A6 A7 A8:Nat→Int)(v0 v1 v2:V1):Prop:=
 ∀_ _ _ _ b4:Nat,Cl 70 [.int .i64 256,v0.v] [sY v0 dW A5] fun x hs l=> ∃cj:Int,x=(cA cj)∧hs=l∧
 ax (0≤dW) (
 br ((256<dW)∨(4<x2)) (
 al (.tuple #[.pointer none,.int .i64 2]) []) (
 br (x2=1) (
 Cl 71 [.int .u8 x4,v1.v,.int .i64 x7] [bf v1 bV A6] fun x hs l=> ∃dM cU:Int,x= .tuple #[(cA dM),.int .i64 cU]∧hs=l∧
 ax ((¬(cU=0))∨(0≤dI)) (
 br ((¬(cU=0))∨(4<dI)) (
 al (.tuple #[.pointer none,.int .i64 2]) []) (
 Cl 72 [.int .i64 4,v2.v] [sX v2 dI A7 A8] fun x hs l=> ∃dz:Int,x=(cA dz)∧hs=l∧
 al (.tuple #[pp b4,.int .i64 0]) []))) (
 al (.tuple #[pp b4,.int .i64 0]) [])))
theorem WH(al:PT)(x0 x1 x2 x3 x4 x5 x6 x7 x8 x9 bE bM bP bI dW bV dI:Int)(A0 A1 A2 A3 A4 A5 A6 A7 A8:Nat→Int)(v0 v1 v2:V1)(h:OP al x0 x1 x2 x3 x4 x5 x6 x7 x8 x9 bE bM bP bI dW bV dI A0 A1 A2 A3 A4 A5 A6 A7 A8 v0 v1 v2):aq aqQ 35 [.agg (.int .u8 x0::(.int .u8 x1::(aqk (aj .u8 8 A0) (v0.v::(.int .u8 x2::(aqk (aj .u8 16 A1) (.bool (!(x3==0))::(.int .u8 x4::(.int .u8 x5::(.int .u8 x6::(aqk (aj .u8 32 A2) (aqk (aj .u8 32 A3) (aqk (aj .u8 32 A4) ([v1.v,.int .i64 x7,v2.v,.int .u64 x8,.int .u64 x9,.int .u64 bE,.int .u64 bM,.int .u64 bP,.int .u32 bI])))))))))))))).toArray] [sY v0 dW A5,bf v1 bV A6,sX v2 dI A7 A8] al:=
 sW (C:=aes) Vo.aep Vo.Z4 Vo.Vk ⟨[x0,x1,x2,x3,x4,x5,x6,x7,x8,x9,bE,bM,bP,bI,dW,bV,dI],[A0,A1,A2,A3,A4,A5,A6,A7,A8],[],[],[v0,v1,v2],[],[],[]⟩ 0 Tryz.func35 (by kernel_rfl) h
open Go.RX Go.Proofs
set_option maxRecDepth 100000
def OQ(al:PT)(x0:Int)(A0:Nat→Int)(v0:V1):Prop:=
 ∀(_ _:Nat) (_:V1),ax (0≤x0) (
 ax (0≤x0) (
 kE x0 (
 ∀(_:V1) (_:Nat),br (x0<16) (
 al (.tuple #[Qs,.int .i64 9]) [bf v0 x0 A0]) (
 ax (16≤x0) (
 ax (0≤(x0 - 16)) (
 br ((x0 - 16)<1) (
 al (.tuple #[Qs,.int .i64 9]) [bf v0 x0 A0]) (
 ax (17≤x0) (
 ax (1≤(x0 - 16)) (
 ax ((16+(x0 - 16))≤x0) (
 ax (16<x0) (
 ax (0≤((x0 - 16) - 1)) (
 br (((x0 - 16) - 1)<1) (
 al (.tuple #[Qs,.int .i64 9]) [bf v0 x0 A0]) (
 ax (18≤x0) (
 ax (1≤((x0 - 16) - 1)) (
 ax ((17+((x0 - 16) - 1))≤x0) (
 ax (17<x0) (
 br (1<(ar .cz .u64 0 (ae .u64 (A0 17)))) (
 al (.tuple #[Qs,.int .i64 9]) [bf v0 x0 A0]) (
 ax (0≤(((x0 - 16) - 1) - 1)) (
 br ((((x0 - 16) - 1) - 1)<1) (
 al (.tuple #[Qs,.int .i64 9]) [bf v0 x0 A0]) (
 ax (19≤x0) (
 ax (1≤(((x0 - 16) - 1) - 1)) (
 ax ((18+(((x0 - 16) - 1) - 1))≤x0) (
 ax (18<x0) (
 ax (0≤((((x0 - 16) - 1) - 1) - 1)) (
 br (((((x0 - 16) - 1) - 1) - 1)<8) (
 al (.tuple #[Qs,.int .i64 9]) [bf v0 x0 A0]) (
 ax (27≤x0) (
 ax (8≤((((x0 - 16) - 1) - 1) - 1)) (
 ax ((19+((((x0 - 16) - 1) - 1) - 1))≤x0) (
 ax (19<x0) (
 ax (20<x0) (
 ax (21<x0) (
 ax (22<x0) (
 ax (23<x0) (
 ax (24<x0) (
 ax (25<x0) (
 ax (26<x0) (
 ax (0≤(((((x0 - 16) - 1) - 1) - 1) - 8)) (
 br ((((((x0 - 16) - 1) - 1) - 1) - 8)<8) (
 al (.tuple #[Qs,.int .i64 9]) [bf v0 x0 A0]) (
 ax (35≤x0) (
 ax (8≤(((((x0 - 16) - 1) - 1) - 1) - 8)) (
 ax ((27+(((((x0 - 16) - 1) - 1) - 1) - 8))≤x0) (
 ax (27<x0) (
 ax (28<x0) (
 ax (29<x0) (
 ax (30<x0) (
 ax (31<x0) (
 ax (32<x0) (
 ax (33<x0) (
 ax (34<x0) (
 ax (0≤((((((x0 - 16) - 1) - 1) - 1) - 8) - 8)) (
 br (((((((x0 - 16) - 1) - 1) - 1) - 8) - 8)<8) (
 al (.tuple #[Qs,.int .i64 9]) [bf v0 x0 A0]) (
 ax (43≤x0) (
 ax (8≤((((((x0 - 16) - 1) - 1) - 1) - 8) - 8)) (
 ax ((35+((((((x0 - 16) - 1) - 1) - 1) - 8) - 8))≤x0) (
 ax (35<x0) (
 ax (36<x0) (
 ax (37<x0) (
 ax (38<x0) (
 ax (39<x0) (
 ax (40<x0) (
 ax (41<x0) (
 ax (42<x0) (
 ax (0≤(((((((x0 - 16) - 1) - 1) - 1) - 8) - 8) - 8)) (
 br (0<(((((((x0 - 16) - 1) - 1) - 1) - 8) - 8) - 8)) (
 al (.tuple #[Qs,.int .i64 9]) [bf v0 x0 A0]) (
 ∀_:Nat,br (¬((((((ae .u8 (ar .cz .u64 0 (ae .u64 (A0 16))))<8)∧(1≤(ae .u8 (ar .cz .u64 0 (ae .u64 (A0 18))))))∧((ae .u8 (ar .cz .u64 0 (ae .u64 (A0 18))))≤7))∧((ar .cz .u64 (ar .shl .u64 (ar .cz .u64 (ar .shl .u64 (ar .cz .u64 (ar .shl .u64 (ar .cz .u64 (ar .shl .u64 (ar .cz .u64 (ar .shl .u64 (ar .cz .u64 (ar .shl .u64 (ar .cz .u64 (ar .shl .u64 (ar .cz .u64 0 (ae .u64 (A0 19))) 8) (ae .u64 (A0 20))) 8) (ae .u64 (A0 21))) 8) (ae .u64 (A0 22))) 8) (ae .u64 (A0 23))) 8) (ae .u64 (A0 24))) 8) (ae .u64 (A0 25))) 8) (ae .u64 (A0 26)))≤(ar .cz .u64 (ar .shl .u64 (ar .cz .u64 (ar .shl .u64 (ar .cz .u64 (ar .shl .u64 (ar .cz .u64 (ar .shl .u64 (ar .cz .u64 (ar .shl .u64 (ar .cz .u64 (ar .shl .u64 (ar .cz .u64 (ar .shl .u64 (ar .cz .u64 0 (ae .u64 (A0 35))) 8) (ae .u64 (A0 36))) 8) (ae .u64 (A0 37))) 8) (ae .u64 (A0 38))) 8) (ae .u64 (A0 39))) 8) (ae .u64 (A0 40))) 8) (ae .u64 (A0 41))) 8) (ae .u64 (A0 42)))))∧(((ar .cz .u64 (ar .shl .u64 (ar .cz .u64 (ar .shl .u64 (ar .cz .u64 (ar .shl .u64 (ar .cz .u64 (ar .shl .u64 (ar .cz .u64 (ar .shl .u64 (ar .cz .u64 (ar .shl .u64 (ar .cz .u64 (ar .shl .u64 (ar .cz .u64 0 (ae .u64 (A0 27))) 8) (ae .u64 (A0 28))) 8) (ae .u64 (A0 29))) 8) (ae .u64 (A0 30))) 8) (ae .u64 (A0 31))) 8) (ae .u64 (A0 32))) 8) (ae .u64 (A0 33))) 8) (ae .u64 (A0 34)))=0)∨(((ar .cz .u64 (ar .shl .u64 (ar .cz .u64 (ar .shl .u64 (ar .cz .u64 (ar .shl .u64 (ar .cz .u64 (ar .shl .u64 (ar .cz .u64 (ar .shl .u64 (ar .cz .u64 (ar .shl .u64 (ar .cz .u64 (ar .shl .u64 (ar .cz .u64 0 (ae .u64 (A0 19))) 8) (ae .u64 (A0 20))) 8) (ae .u64 (A0 21))) 8) (ae .u64 (A0 22))) 8) (ae .u64 (A0 23))) 8) (ae .u64 (A0 24))) 8) (ae .u64 (A0 25))) 8) (ae .u64 (A0 26)))≤(ar .cz .u64 (ar .shl .u64 (ar .cz .u64 (ar .shl .u64 (ar .cz .u64 (ar .shl .u64 (ar .cz .u64 (ar .shl .u64 (ar .cz .u64 (ar .shl .u64 (ar .cz .u64 (ar .shl .u64 (ar .cz .u64 (ar .shl .u64 (ar .cz .u64 0 (ae .u64 (A0 27))) 8) (ae .u64 (A0 28))) 8) (ae .u64 (A0 29))) 8) (ae .u64 (A0 30))) 8) (ae .u64 (A0 31))) 8) (ae .u64 (A0 32))) 8) (ae .u64 (A0 33))) 8) (ae .u64 (A0 34))))∧((ar .cz .u64 (ar .shl .u64 (ar .cz .u64 (ar .shl .u64 (ar .cz .u64 (ar .shl .u64 (ar .cz .u64 (ar .shl .u64 (ar .cz .u64 (ar .shl .u64 (ar .cz .u64 (ar .shl .u64 (ar .cz .u64 (ar .shl .u64 (ar .cz .u64 0 (ae .u64 (A0 27))) 8) (ae .u64 (A0 28))) 8) (ae .u64 (A0 29))) 8) (ae .u64 (A0 30))) 8) (ae .u64 (A0 31))) 8) (ae .u64 (A0 32))) 8) (ae .u64 (A0 33))) 8) (ae .u64 (A0 34)))≤(ar .cz .u64 (ar .shl .u64 (ar .cz .u64 (ar .shl .u64 (ar .cz .u64 (ar .shl .u64 (ar .cz .u64 (ar .shl .u64 (ar .cz .u64 (ar .shl .u64 (ar .cz .u64 (ar .shl .u64 (ar .cz .u64 (ar .shl .u64 (ar .cz .u64 0 (ae .u64 (A0 35))) 8) (ae .u64 (A0 36))) 8) (ae .u64 (A0 37))) 8) (ae .u64 (A0 38))) 8) (ae .u64 (A0 39))) 8) (ae .u64 (A0 40))) 8) (ae .u64 (A0 41))) 8) (ae .u64 (A0 42)))))))) (
 al (.tuple #[Qs,.int .i64 9]) [bf v0 x0 A0]) (
 al (.tuple #[.agg (aqk (aj .u8 16 A0) ([.int .u8 (ae .u8 (ar .cz .u64 0 (ae .u64 (A0 16)))),.bool ((ar .cz .u64 0 (ae .u64 (A0 17)))==1),.int .u8 (ae .u8 (ar .cz .u64 0 (ae .u64 (A0 18)))),.int .u64 (ar .cz .u64 (ar .shl .u64 (ar .cz .u64 (ar .shl .u64 (ar .cz .u64 (ar .shl .u64 (ar .cz .u64 (ar .shl .u64 (ar .cz .u64 (ar .shl .u64 (ar .cz .u64 (ar .shl .u64 (ar .cz .u64 (ar .shl .u64 (ar .cz .u64 0 (ae .u64 (A0 19))) 8) (ae .u64 (A0 20))) 8) (ae .u64 (A0 21))) 8) (ae .u64 (A0 22))) 8) (ae .u64 (A0 23))) 8) (ae .u64 (A0 24))) 8) (ae .u64 (A0 25))) 8) (ae .u64 (A0 26))),.int .u64 (ar .cz .u64 (ar .shl .u64 (ar .cz .u64 (ar .shl .u64 (ar .cz .u64 (ar .shl .u64 (ar .cz .u64 (ar .shl .u64 (ar .cz .u64 (ar .shl .u64 (ar .cz .u64 (ar .shl .u64 (ar .cz .u64 (ar .shl .u64 (ar .cz .u64 0 (ae .u64 (A0 27))) 8) (ae .u64 (A0 28))) 8) (ae .u64 (A0 29))) 8) (ae .u64 (A0 30))) 8) (ae .u64 (A0 31))) 8) (ae .u64 (A0 32))) 8) (ae .u64 (A0 33))) 8) (ae .u64 (A0 34))),.int .u64 (ar .cz .u64 (ar .shl .u64 (ar .cz .u64 (ar .shl .u64 (ar .cz .u64 (ar .shl .u64 (ar .cz .u64 (ar .shl .u64 (ar .cz .u64 (ar .shl .u64 (ar .cz .u64 (ar .shl .u64 (ar .cz .u64 (ar .shl .u64 (ar .cz .u64 0 (ae .u64 (A0 35))) 8) (ae .u64 (A0 36))) 8) (ae .u64 (A0 37))) 8) (ae .u64 (A0 38))) 8) (ae .u64 (A0 39))) 8) (ae .u64 (A0 40))) 8) (ae .u64 (A0 41))) 8) (ae .u64 (A0 42)))])).toArray,.int .i64 0]) [bf v0 x0 A0]))))))))))))))))))))))))))))))))))))))))))))))))))))))))))))))))))
theorem WI(al:PT)(x0:Int)(A0:Nat→Int)(v0:V1)(h:OQ al x0 A0 v0):aq aqQ 75 [v0.v] [bf v0 x0 A0] al:=
 sW (C:=cx) Vp.Z5 Vp.T3 Vp.Nw ⟨[x0],[A0],[],[],[v0],[],[],[]⟩ 1 Tryz.func75 (by kernel_rfl) h
def OR(al:PT)(x0:Int)(A0:Nat→Int)(v0:V1):Prop:=
 ∀_ _:Nat,ax (0≤x0) (
 br (176128<x0) (
 al (.tuple #[.pointer none,.int .i64 3]) []) (
 ∀_ b3 _ _ _ _ _:Nat,∀(_ _:Nat) (_:Loop),∃(G3:Ext→Prop) (ON:Ext→Nat),(∃(v2:V1) (x1 x2:Int) (A1 A2 A3 A4 A5 A6 A7 A8:Nat→Int),x1=0∧v2=(⟨.slice none 0 0,rfl⟩:V1)∧(A1=(fun _=>0))∧v2=(⟨.slice none 0 0,rfl⟩:V1)∧x2=0∧(∀j,j<(ag (x2*16))→A2 j=(fun _=>0) j)∧(∀j,j<(ag x2)→A3 j=(fun _=>0) j)∧(∀j,j<(ag x2)→A4 j=(fun _=>0) j)∧(∀j,j<(ag x2)→A5 j=(fun _=>0) j)∧(∀j,j<(ag x2)→A6 j=(fun _=>0) j)∧(∀j,j<(ag x2)→A7 j=(fun _=>0) j)∧(∀j,j<(ag x2)→A8 j=(fun _=>0) j)∧G3 ⟨[],[v2],[x1,x2],[A1,A2,A3,A4,A5,A6,A7,A8],[],[],[]⟩)∧
 ∀(v2:V1) (x1 x2:Int) (A1 A2 A3 A4 A5 A6 A7 A8:Nat→Int),G3 ⟨[],[v2],[x1,x2],[A1,A2,A3,A4,A5,A6,A7,A8],[],[],[]⟩→
 ax (0≤x0) (
 br (x1<x0) (
 ax (0≤x1) (
 ax (x1≤x0) (
 ax (0≤(x0 - x1)) (
 iQ (x1+(ar .ib .i64 43 (x0 - x1))) ((
 ax (x1≤(x1+(ar .ib .i64 43 (x0 - x1)))) (
 ax ((x1+(ar .ib .i64 43 (x0 - x1)))≤x0) (
 Cl 75 [(aE 1 v0.v (ag x1) (ag (x1+(ar .ib .i64 43 (x0 - x1)))) (some (ag (x1+(ar .ib .i64 43 (x0 - x1))))))] [bf v0 x0 A0] fun x hs l=> ∃(x3 x4 x5 x6 x7 x8 x9:Int) (A9:Nat→Int),x= .tuple #[.agg (aqk (aj .u8 16 A9) ([.int .u8 x3,.bool (!(x4==0)),.int .u8 x5,.int .u64 x6,.int .u64 x7,.int .u64 x8])).toArray,.int .i64 x9]∧hs=l∧
 ∀_ _:Nat,br ((¬(x9=0))∨((A1 (ag ((aS ((List.range 16).map A9):Nat):Int)))≠0)) (
 al (.tuple #[.pointer none,.int .i64 9]) []) (
 ∀_:Nat,ax (0≤x2) (
 kE ((x2+1)*48) (
 ∀v3:V1,iQ (x1+43) ((
 ∃(ma:V1) (ku gI:Int) (Ma qL p_ yn BM G4 G5 OS:Nat→Int),ku=(x1+43)∧ma=v3∧(Ma=(aw (aw A1 0 (((A1 0)+1) - (ar .ib .i64 (A1 (ag ((aS ((List.range 16).map A9):Nat):Int))) 1))) (ag ((aS ((List.range 16).map A9):Nat):Int)) 1))∧ma=v3∧gI=(x2+1)∧(∀j,j<(ag (gI*16))→qL j=(bQ A2 (ag (x2*16)) 16 A9) j)∧(∀j,j<(ag gI)→p_ j=(aw A3 (ag x2) x3) j)∧(∀j,j<(ag gI)→yn j=(aw A4 (ag x2) x4) j)∧(∀j,j<(ag gI)→BM j=(aw A5 (ag x2) x5) j)∧(∀j,j<(ag gI)→G4 j=(aw A6 (ag x2) x6) j)∧(∀j,j<(ag gI)→G5 j=(aw A7 (ag x2) x7) j)∧(∀j,j<(ag gI)→OS j=(aw A8 (ag x2) x8) j)∧G3 ⟨[],[ma],[ku,gI],[Ma,qL,p_,yn,BM,G4,G5,OS],[],[],[]⟩∧ON ⟨[],[ma],[ku,gI],[Ma,qL,p_,yn,BM,G4,G5,OS],[],[],[]⟩<ON ⟨[],[v2],[x1,x2],[A1,A2,A3,A4,A5,A6,A7,A8],[],[],[]⟩))))))))))))) (
 al (.tuple #[pp b3,.int .i64 0]) []))))
theorem WJ(al:PT)(x0:Int)(A0:Nat→Int)(v0:V1)(h:OR al x0 A0 v0):aq aqQ 36 [v0.v] [bf v0 x0 A0] al:=
 sW (C:=aet) Vp.Z5 Vp.T3 Vp.Nw ⟨[x0],[A0],[],[],[v0],[],[],[]⟩ 0 Tryz.func36 (by kernel_rfl) h
end Go.RX.Vb
