/- The store's walker. -/
import Derived.Test.YtllcdnkfbeokhaaGreatM31
open Go.IntKind renaming wrap → ae
open Go.Proofs.Tryz renaming prog → aqQ
open Int renaming toNat → ag, toNat_natCast → aqD
open List renaming append → aqk, getD_eq_getElem?_getD → aqN, getElem?_append_left → aqs, getElem?_append_right → aqt, getElem?_eq_some_iff → aqo, length_append → aql, length_singleton → aqm, map_cons → aqP, mem_of_getElem? → aqG, mem_range → aqE
open Nat renaming not_lt → aq1
namespace Go.RX.Vb
open Go.RX Go.Proofs
set_option maxRecDepth 100000
def OT(al:PT)(x0 _ _ _ _ _ _ _:Int)(_ _ _ _ _ _ _ _ _:Nat→Int)(v0:V1):Prop:=
 ∀_:Nat,ax (0≤x0) (
 br (64<x0) (
 al (.tuple #[.pointer none,.int .i64 2]) []) (
 br (wu v0.v=true) (
 ∀b1:Nat,al (.tuple #[pp b1,.int .i64 0]) []) (
 ∀_:V1,kE (x0*68) (
 ∀(_:V1) (b1:Nat),al (.tuple #[pp b1,.int .i64 0]) []))))
theorem WK(al:PT)(x0 x1 x2 x3 x4 x5 x6 x7:Int)(A0 A1 A2 A3 A4 A5 A6 A7 A8:Nat→Int)(v0:V1)(h:OT al x0 x1 x2 x3 x4 x5 x6 x7 A0 A1 A2 A3 A4 A5 A6 A7 A8 v0):aq aqQ 113 [.agg (aqk (aj .u8 32 A0) (aqk (aj .u8 32 A1) (aqk (aj .u8 32 A2) (aqk (aj .u8 32 A3) (.bool (!(x1==0))::(.bool (!(x2==0))::(.bool (!(x3==0))::(.bool (!(x4==0))::(aqk (aj .u8 32 A4) (.int .u32 x5::(aqk (aj .u8 32 A5) ([.int .u32 x6,.int .u32 x7,v0.v])))))))))))).toArray] [aB false 245 65 v0.v (ag x0) (aK (ag x0) [aC .u8 32 A6,aC .u32 1 A7,aC .u8 32 A8])] al:=
 sW (C:=cxN) Vn.aeh Vn.Z0 Vn.Vf ⟨[x0,x1,x2,x3,x4,x5,x6,x7],[A0,A1,A2,A3,A4,A5,A6,A7,A8],[],[],[v0],[],[],[]⟩ 0 Tryz.func113 (by kernel_rfl) h
def OU(al:PT)(x0:Int)(A0 A1:Nat→Int)(v0:V1):Prop:=
 br (wu v0.v=true) (
 al (.slice none 0 0) [rO v0 x0 A0 A1]) (
 ∀_:V1,ax (0≤x0) (
 ax (0≤x0) (
 kE (x0*36) (
 ∀v2:V1,al (v2.v) [rO v0 x0 A0 A1]))))
theorem WL(al:PT)(x0:Int)(A0 A1:Nat→Int)(v0:V1)(h:OU al x0 A0 A1 v0):aq aqQ 81 [v0.v] [rO v0 x0 A0 A1] al:=
 sW (C:=cxN) [.vv 0] [.cr false 0 93 33 (.var 0) [⟨.int .u32,1,.cI 0⟩,⟨.int .u8,32,.cI 1⟩]] ⟨0,1,1,2,0,0,0⟩ ⟨[x0],[A0,A1],[],[],[v0],[],[],[]⟩ 1 Tryz.func81 (by kernel_rfl) h
def OV(al:PT)(_ _ x2:Int)(A0 A1 A2 A3 A4 A5 A6 A7 A8 A9 eg dN dq gk _ _ _ _ fe fh:Nat→Int)(_:V1)(p0:HP):Prop:=
 ∀_ b1:Nat,ax (0≤x2) (
 ∃(cE:Ext→Prop) (db:Ext→Nat),(∃(v3 v4:V1) (x3 x4 x5 x6:Int) (fo gl:Nat→Int),x3=0∧v3=(⟨.slice none 0 0,rfl⟩:V1)∧v4=(⟨.slice none 0 0,rfl⟩:V1)∧x4=0∧v3=(⟨.slice none 0 0,rfl⟩:V1)∧x5=0∧(∀j,j<(ag x5)→fo j=(fun _=>0) j)∧v4=(⟨.slice none 0 0,rfl⟩:V1)∧x6=0∧(∀j,j<(ag x6)→gl j=(fun _=>0) j)∧cE ⟨[],[v3,v4],[x3,x4,x5,x6],[fo,gl],[],[],[]⟩)∧
 ∀(v3 v4:V1) (x3 x4 x5 x6:Int) (fo gl:Nat→Int),cE ⟨[],[v3,v4],[x3,x4,x5,x6],[fo,gl],[],[],[]⟩→
 br (x3<x2) (
 ax (0≤x3) (
 ∀_:Nat,Cl 113 [.agg (aqk (aj .u8 32 (bS A0 (ag (x3*32)))) (aqk (aj .u8 32 (bS A1 (ag (x3*32)))) (aqk (aj .u8 32 (bS A2 (ag (x3*32)))) (aqk (aj .u8 32 (bS A3 (ag (x3*32)))) (.bool (!((A4 (ag x3))==0))::(.bool (!((A5 (ag x3))==0))::(.bool (!((A6 (ag x3))==0))::(.bool (!((A7 (ag x3))==0))::(aqk (aj .u8 32 (bS A8 (ag (x3*32)))) (.int .u32 (A9 (ag x3))::(aqk (aj .u8 32 (bS eg (ag (x3*32)))) ([.int .u32 (dN (ag x3)),.int .u32 (dq (ag x3)),(cX (gk (ag x3)))])))))))))))).toArray] [p0] fun x hs l=> ∃x7 x8:Int,x= .tuple #[(cA x7),.int .i64 x8]∧hs=l∧
 ax ((¬((¬((¬(x8=0))∨(((fh (ag x3))≠0)∧(¬(x4=0)))))∧(¬((fe (ag x3))≠0))))∨(0≤x5)) (
 br (((¬(x8=0))∨(((fh (ag x3))≠0)∧(¬(x4=0))))∨((¬((fe (ag x3))≠0))∧(0<x5))) (
 al (.tuple #[.pointer none,.bool false]) []) (
 ∀b3:Nat,br ((fh (ag x3))≠0) (
 br ((fe (ag x3))≠0) (
 ∀_:Nat,ax (0≤x5) (
 kE ((x5+1)*8) (
 ∀v5:V1,iQ (x3+1) ((
 ∃(CD oV:V1) (oU uR qg sx:Int) (pz mW:Nat→Int),oU=(x3+1)∧CD=v5∧oV=v4∧uR=((b3:Nat)+1:Int)∧CD=v5∧qg=(x5+1)∧(∀j,j<(ag qg)→pz j=(aw fo (ag x5) ((b3:Nat)+1:Int)) j)∧oV=v4∧sx=x6∧(∀j,j<(ag sx)→mW j=gl j)∧cE ⟨[],[CD,oV],[oU,uR,qg,sx],[pz,mW],[],[],[]⟩∧db ⟨[],[CD,oV],[oU,uR,qg,sx],[pz,mW],[],[],[]⟩<db ⟨[],[v3,v4],[x3,x4,x5,x6],[fo,gl],[],[],[]⟩))))) (
 ∀_:Nat,ax (0≤x6) (
 kE ((x6+1)*8) (
 ∀v5:V1,iQ (x3+1) ((
 ∃(CD oV:V1) (oU uR qg sx:Int) (pz mW:Nat→Int),oU=(x3+1)∧CD=v3∧oV=v5∧uR=((b3:Nat)+1:Int)∧CD=v3∧qg=x5∧(∀j,j<(ag qg)→pz j=fo j)∧oV=v5∧sx=(x6+1)∧(∀j,j<(ag sx)→mW j=(aw gl (ag x6) ((b3:Nat)+1:Int)) j)∧cE ⟨[],[CD,oV],[oU,uR,qg,sx],[pz,mW],[],[],[]⟩∧db ⟨[],[CD,oV],[oU,uR,qg,sx],[pz,mW],[],[],[]⟩<db ⟨[],[v3,v4],[x3,x4,x5,x6],[fo,gl],[],[],[]⟩)))))) (
 br ((fe (ag x3))≠0) (
 ∀_:Nat,ax (0≤x5) (
 kE ((x5+1)*8) (
 ∀v5:V1,iQ (x3+1) ((
 ∃(CD oV:V1) (oU uR qg sx:Int) (pz mW:Nat→Int),oU=(x3+1)∧CD=v5∧oV=v4∧uR=x4∧CD=v5∧qg=(x5+1)∧(∀j,j<(ag qg)→pz j=(aw fo (ag x5) ((b3:Nat)+1:Int)) j)∧oV=v4∧sx=x6∧(∀j,j<(ag sx)→mW j=gl j)∧cE ⟨[],[CD,oV],[oU,uR,qg,sx],[pz,mW],[],[],[]⟩∧db ⟨[],[CD,oV],[oU,uR,qg,sx],[pz,mW],[],[],[]⟩<db ⟨[],[v3,v4],[x3,x4,x5,x6],[fo,gl],[],[],[]⟩))))) (
 ∀_:Nat,ax (0≤x6) (
 kE ((x6+1)*8) (
 ∀v5:V1,iQ (x3+1) ((
 ∃(CD oV:V1) (oU uR qg sx:Int) (pz mW:Nat→Int),oU=(x3+1)∧CD=v3∧oV=v5∧uR=x4∧CD=v3∧qg=x5∧(∀j,j<(ag qg)→pz j=fo j)∧oV=v5∧sx=(x6+1)∧(∀j,j<(ag sx)→mW j=(aw gl (ag x6) ((b3:Nat)+1:Int)) j)∧cE ⟨[],[CD,oV],[oU,uR,qg,sx],[pz,mW],[],[],[]⟩∧db ⟨[],[CD,oV],[oU,uR,qg,sx],[pz,mW],[],[],[]⟩<db ⟨[],[v3,v4],[x3,x4,x5,x6],[fo,gl],[],[],[]⟩)))))))))) (
 ax ((x4=0)∨(0≤x5)) (
 ax ((x4=0)∨(0≤x6)) (
 al (.tuple #[pp b1,.bool ((!(x4==0))&&(decide ((ar .imax .i64 x5 x6)≤4)))]) []))))
theorem WM(al:PT)(x0 x1 x2:Int)(A0 A1 A2 A3 A4 A5 A6 A7 A8 A9 eg dN dq gk gG gP f_ fl fe fh:Nat→Int)(v0:V1)(p0:HP)(h:OV al x0 x1 x2 A0 A1 A2 A3 A4 A5 A6 A7 A8 A9 eg dN dq gk gG gP f_ fl fe fh v0 p0):aq aqQ 67 [.agg #[.int .u8 x0,.int .u8 x1,v0.v]] [RC v0 x2 A0 A1 A2 A3 A4 A5 A6 A7 A8 A9 eg dN dq gk gG gP f_ fl fe fh,p0] al:=
 sW (C:=cxN) Vn.ofA Vn.aei Vn.Z1 ⟨[x0,x1,x2],[A0,A1,A2,A3,A4,A5,A6,A7,A8,A9,eg,dN,dq,gk,gG,gP,f_,fl,fe,fh],[],[],[v0],[],[p0],[]⟩ 0 Tryz.func67 (by kernel_rfl) h
def OW(al:PT)(x0 x1 x2 x3 x4:Int)(_ _ A2 A3 A4 A5 A6:Nat→Int)(v0 _:V1)(p0:HP):Prop:=
 ∀_ _:Nat,Cl 81 [v0.v] [rO v0 x3 A2 A3] fun x hs l=> ∃v2:V1,x=v2.v∧hs=l∧
 ∀_ b3:Nat,ax (0≤x4) (
 ∃(cE:Ext→Prop) (db:Ext→Nat),(∃(x5 x6:Int) (A7 A8:Nat→Int),x5=0∧x6=(-1)∧(A7=(fun _=>0))∧(A8=(fun _=>0))∧cE ⟨[],[],[x5,x6],[A7,A8],[],[],[]⟩)∧
 ∀(x5 x6:Int) (A7 A8:Nat→Int),cE ⟨[],[],[x5,x6],[A7,A8],[],[],[]⟩→
 br (x5<x4) (
 ax (0≤x5) (
 ∀_:Nat,Cl 67 [.agg #[.int .u8 (A4 (ag x5)),.int .u8 (A5 (ag x5)),(cX (A6 (ag x5)))]] [p0] fun x hs l=> ∃(x7:Int) (q0:Bool),x= .tuple #[(cA x7),.bool q0]∧hs=l∧
 br (q0=true) (
 ∀_:Nat,iQ (A4 (ag x5)) ((
 iQ (A5 (ag x5)) ((
 br (((ar .cz .i64 (ar .shl .i64 (A4 (ag x5)) 8) (A5 (ag x5)))≤x6)∨(((A4 (ag x5))=x0)∧((A5 (ag x5))=x1))) (
 al (.tuple #[.pointer none,.int .i64 2]) []) (
 ∀_:Nat,ax ((A7 (ag ((aS ((List.range 2).map (aw (aw (fun _=>0) 0 (A4 (ag x5))) 1 (A5 (ag x5)))):Nat):Int)))=0) (
 ax (0≤(A7 0)) (
 iQ (x5+1) ((
 ∃(qg sx:Int) (G5 OS:Nat→Int),qg=(x5+1)∧sx=(ar .cz .i64 (ar .shl .i64 (A4 (ag x5)) 8) (A5 (ag x5)))∧(G5=(aw (aw A7 0 ((A7 0)+1)) (ag ((aS ((List.range 2).map (aw (aw (fun _=>0) 0 (A4 (ag x5))) 1 (A5 (ag x5)))):Nat):Int)) ((A7 0)+2)))∧(OS=(aw A8 (ag ((aS ((List.range 2).map (aw (aw (fun _=>0) 0 (A4 (ag x5))) 1 (A5 (ag x5)))):Nat):Int)) x7))∧cE ⟨[],[],[qg,sx],[G5,OS],[],[],[]⟩∧db ⟨[],[],[qg,sx],[G5,OS],[],[],[]⟩<db ⟨[],[],[x5,x6],[A7,A8],[],[],[]⟩)))))))))) (
 al (.tuple #[.pointer none,.int .i64 2]) []))) (
 br ((ar .imax .i64 x2 0)<(A7 0)) (
 al (.tuple #[.pointer none,.int .i64 2]) []) (
 al (.tuple #[pp b3,.int .i64 0]) [])))
theorem WN(al:PT)(x0 x1 x2 x3 x4:Int)(A0 A1 A2 A3 A4 A5 A6:Nat→Int)(v0 v1:V1)(p0:HP)(h:OW al x0 x1 x2 x3 x4 A0 A1 A2 A3 A4 A5 A6 v0 v1 p0):aq aqQ 34 [.agg (.int .u8 x0::(.int .u8 x1::(aqk (aj .u8 32 A0) (aqk (aj .u8 32 A1) ([v0.v,.int .i64 x2,v1.v]))))).toArray] [rO v0 x3 A2 A3,xF v1 x4 A4 A5 A6,p0] al:=
 sW (C:=ael) Vn.aej Vn.Z2 Vn.Vh ⟨[x0,x1,x2,x3,x4],[A0,A1,A2,A3,A4,A5,A6],[],[],[v0,v1],[],[p0],[]⟩ 0 Tryz.func34 (by kernel_rfl) h
open Go.RX Go.Proofs
set_option maxRecDepth 100000
def IQ(al:PT)(x0:Int)(A0:Nat→Int)(q0:Bool)(v0:V1)(b0 b1:Nat):Prop:=
 ∀b2 b3:Nat,Cl 45 [pp b0,.int .i64 32] [cC b0 v0 q0,bf v0 x0 A0] fun x hs _=> ∃(v1 v2:V1) (x1 x2:Int) (A1 A2:Nat→Int) (q1:Bool),x=v2.v∧hs=[cC b0 v1 q1,bf v1 x1 A1,bf v2 x2 A2]∧
 ax (0≤x2) (
 ax (0≤x2) (
 Cl 45 [pp b0,.int .i64 32] [cC b0 v1 q1,bf v1 x1 A1] fun x hs _=> ∃(v3 v4:V1) (x3 x4:Int) (A3 A4:Nat→Int) (q2:Bool),x=v4.v∧hs=[cC b0 v3 q2,bf v3 x3 A3,bf v4 x4 A4]∧
 ax (0≤x4) (
 ax (0≤x4) (
 Cl 45 [pp b0,.int .i64 32] [cC b0 v3 q2,bf v3 x3 A3] fun x hs _=> ∃(v5 v6:V1) (x5 x6:Int) (A5 A6:Nat→Int) (q3:Bool),x=v6.v∧hs=[cC b0 v5 q3,bf v5 x5 A5,bf v6 x6 A6]∧
 ax (0≤x6) (
 ax (0≤x6) (
 Cl 45 [pp b0,.int .i64 32] [cC b0 v5 q3,bf v5 x5 A5] fun x hs _=> ∃(v7 v8:V1) (x7 x8:Int) (A7 A8:Nat→Int) (q4:Bool),x=v8.v∧hs=[cC b0 v7 q4,bf v7 x7 A7,bf v8 x8 A8]∧
 ax (0≤x8) (
 ax (0≤x8) (
 ∀b4:Nat,Cl 21 [pp b0,.int .u64 0,.int .i64 1] [cC b0 v7 q4,bf v7 x7 A7] fun x hs _=> ∃(v9:V1) (x9 bE:Int) (A9:Nat→Int) (q5:Bool),x= .int .u64 x9∧hs=[cC b0 v9 q5,bf v9 bE A9]∧
 Cl 21 [pp b0,.int .u64 0,.int .i64 1] [cC b0 v9 (q5||(decide (1<x9))),bf v9 bE A9] fun x hs _=> ∃(v10:V1) (bM bP:Int) (eg:Nat→Int) (q6:Bool),x= .int .u64 bM∧hs=[cC b0 v10 q6,bf v10 bP eg]∧
 Cl 21 [pp b0,.int .u64 0,.int .i64 1] [cC b0 v10 (q6||(decide (1<bM))),bf v10 bP eg] fun x hs _=> ∃(v11:V1) (bI dW:Int) (dN:Nat→Int) (q7:Bool),x= .int .u64 bI∧hs=[cC b0 v11 q7,bf v11 dW dN]∧
 Cl 21 [pp b0,.int .u64 0,.int .i64 1] [cC b0 v11 (q7||(decide (1<bI))),bf v11 dW dN] fun x hs _=> ∃(qG:V1) (bV dI:Int) (dq:Nat→Int) (q8:Bool),x= .int .u64 bV∧hs=[cC b0 qG q8,bf qG dI dq]∧
 ∀b5:Nat,Cl 45 [pp b0,.int .i64 32] [cC b0 qG (q8||(decide (1<bV))),bf qG dI dq] fun x hs _=> ∃(qH tw:V1) (cj dM:Int) (gk gG:Nat→Int) (q9:Bool),x=tw.v∧hs=[cC b0 qH q9,bf qH cj gk,bf tw dM gG]∧
 ax (0≤dM) (
 ax (0≤dM) (
 ∀b6:Nat,Cl 21 [pp b0,.int .u64 0,.int .i64 4] [cC b0 qH q9,bf qH cj gk] fun x hs _=> ∃(pP:V1) (cU dz:Int) (gP:Nat→Int) (QI:Bool),x= .int .u64 cU∧hs=[cC b0 pP QI,bf pP dz gP]∧
 ∀b7:Nat,Cl 45 [pp b0,.int .i64 32] [cC b0 pP QI,bf pP dz gP] fun x hs _=> ∃(rS px:V1) (i_ fU:Int) (f_ fl:Nat→Int) (Dg:Bool),x=px.v∧hs=[cC b0 rS Dg,bf rS i_ f_,bf px fU fl]∧
 ax (0≤fU) (
 ax (0≤fU) (
 ∀b8:Nat,Cl 21 [pp b0,.int .u64 0,.int .i64 4] [cC b0 rS Dg,bf rS i_ f_] fun x hs _=> ∃(p8:V1) (gC fV:Int) (fe:Nat→Int) (LS:Bool),x= .int .u64 gC∧hs=[cC b0 p8 LS,bf p8 fV fe]∧
 ∀b9:Nat,Cl 21 [pp b0,.int .u64 0,.int .i64 4] [cC b0 p8 LS,bf p8 fV fe] fun x hs _=> ∃(so:V1) (jb lz:Int) (fh:Nat→Int) (QJ:Bool),x= .int .u64 jb∧hs=[cC b0 so QJ,bf so lz fh]∧
 Cl 21 [pp b0,.int .u64 0,.int .i64 4] [cC b0 so QJ,bf so lz fh] fun x hs _=> ∃(v20:V1) (oM wS:Int) (fo:Nat→Int) (Yl:Bool),x= .int .u64 oM∧hs=[cC b0 v20 Yl,bf v20 wS fo]∧
 ∃(cE:Ext→Prop) (db:Ext→Nat),(∃(xZ vF:V1) (tu rP ia:Int) (gl kq lY lJ:Nat→Int) (KJ:Bool),tu=oM∧xZ=v20∧KJ=Yl∧xZ=v20∧rP=wS∧(∀j,j<(ag rP)→gl j=fo j)∧vF=(⟨.slice none 0 0,rfl⟩:V1)∧vF=(⟨.slice none 0 0,rfl⟩:V1)∧ia=0∧(∀j,j<(ag (ia*32))→kq j=(fun _=>0) j)∧(∀j,j<(ag ia)→lY j=(fun _=>0) j)∧(∀j,j<(ag (ia*32))→lJ j=(fun _=>0) j)∧cE ⟨[],[xZ,vF],[tu,rP,ia],[gl,kq,lY,lJ],[KJ],[],[]⟩)∧
 ∀(xZ vF:V1) (tu rP ia:Int) (gl kq lY lJ:Nat→Int) (KJ:Bool),cE ⟨[],[xZ,vF],[tu,rP,ia],[gl,kq,lY,lJ],[KJ],[],[]⟩→
 br ((0<tu)∧(¬(KJ=true))) (
 ∀_ _:Nat,Cl 45 [pp b0,.int .i64 32] [cC b0 xZ KJ,bf xZ rP gl] fun x hs _=> ∃(zg wV:V1) (Df vD:Int) (nF uq:Nat→Int) (G6:Bool),x=wV.v∧hs=[cC b0 zg G6,bf zg Df nF,bf wV vD uq]∧
 ax (0≤vD) (
 ax (0≤vD) (
 ∀_:Nat,Cl 21 [pp b0,.int .u64 0,.int .i64 4] [cC b0 zg G6,bf zg Df nF] fun x hs _=> ∃(uV:V1) (rQ rR:Int) (sm:Nat→Int) (LU:Bool),x= .int .u64 rQ∧hs=[cC b0 uV LU,bf uV rR sm]∧
 ∀_:Nat,Cl 45 [pp b0,.int .i64 32] [cC b0 uV LU,bf uV rR sm] fun x hs _=> ∃(vH xG:V1) (Aq vE:Int) (wU AJ:Nat→Int) (QF:Bool),x=xG.v∧hs=[cC b0 vH QF,bf vH Aq wU,bf xG vE AJ]∧
 ax (0≤vE) (
 ax (0≤vE) (
 ∀_:Nat,ax (0≤ia) (
 kE ((ia+1)*68) (
 ∀As:V1,∃(SA Cr:V1) (WO SB uA:Int) (mW s6 s7 zj:Nat→Int) (WQ:Bool),WO=(ae .u64 (tu - 1))∧SA=vH∧WQ=QF∧SA=vH∧SB=Aq∧(∀j,j<(ag SB)→mW j=wU j)∧Cr=As∧Cr=As∧uA=(ia+1)∧(∀j,j<(ag (uA*32))→s6 j=(bQ kq (ag (ia*32)) 32 (bQ (fun _=>0) 0 (ag (ar .ib .i64 vD 32)) uq)) j)∧(∀j,j<(ag uA)→s7 j=(aw lY (ag ia) (ae .u32 rQ)) j)∧(∀j,j<(ag (uA*32))→zj j=(bQ lJ (ag (ia*32)) 32 (bQ (fun _=>0) 0 (ag (ar .ib .i64 vE 32)) AJ)) j)∧cE ⟨[],[SA,Cr],[WO,SB,uA],[mW,s6,s7,zj],[WQ],[],[]⟩∧db ⟨[],[SA,Cr],[WO,SB,uA],[mW,s6,s7,zj],[WQ],[],[]⟩<db ⟨[],[xZ,vF],[tu,rP,ia],[gl,kq,lY,lJ],[KJ],[],[]⟩))))))) (
 ∀_:Nat,Cl 45 [pp b0,.int .i64 32] [cC b0 xZ KJ,bf xZ rP gl] fun x hs _=> ∃(zg wV:V1) (Df vD:Int) (nF uq:Nat→Int) (G6:Bool),x=wV.v∧hs=[cC b0 zg G6,bf zg Df nF,bf wV vD uq]∧
 ax (0≤vD) (
 ax (0≤vD) (
 Cl 45 [pp b0,.int .i64 32] [cC b0 zg G6,bf zg Df nF] fun x hs _=> ∃(uV vH:V1) (rQ rR:Int) (sm wU:Nat→Int) (LU:Bool),x=vH.v∧hs=[cC b0 uV LU,bf uV rQ sm,bf vH rR wU]∧
 ax (0≤rR) (
 ax (0≤rR) (
 ∀_:Nat,Cl 21 [pp b0,.int .u64 0,.int .i64 1] [cC b0 uV LU,bf uV rQ sm] fun x hs _=> ∃(xG:V1) (Aq vE:Int) (AJ:Nat→Int) (QF:Bool),x= .int .u64 Aq∧hs=[cC b0 xG QF,bf xG vE AJ]∧
 ∀_:Nat,Cl 21 [pp b0,.int .u64 0,.int .i64 4] [cC b0 xG (QF||(decide (1<Aq))),bf xG vE AJ] fun x hs _=> ∃(As:V1) (Qt IB:Int) (Ar:Nat→Int) (Ym:Bool),x= .int .u64 Qt∧hs=[cC b0 As Ym,bf As IB Ar]∧
 ∀_:Nat,Cl 21 [pp b0,.int .u64 0,.int .i64 1] [cC b0 As Ym,bf As IB Ar] fun x hs _=> ∃(v30:V1) (wT En:Int) (Bv:Nat→Int) (N0:Bool),x= .int .u64 wT∧hs=[cC b0 v30 N0,bf v30 En Bv]∧
 Cl 21 [pp b0,.int .u64 0,.int .i64 1] [cC b0 v30 (N0||(decide (1<wT))),bf v30 En Bv] fun x hs _=> ∃(Ku:V1) (FY NN:Int) (Eo:Nat→Int) (Yn:Bool),x= .int .u64 FY∧hs=[cC b0 Ku Yn,bf Ku NN Eo]∧
 al (.tuple #[]) [cC b0 Ku (Yn||(decide (1<FY))),bf Ku NN Eo,ak b1 true (aqk (aj .u8 32 (bQ (fun _=>0) 0 (ag (ar .ib .i64 x2 32)) A2)) (aqk (aj .u8 32 (bQ (fun _=>0) 0 (ag (ar .ib .i64 x4 32)) A4)) (aqk (aj .u8 32 (bQ (fun _=>0) 0 (ag (ar .ib .i64 x6 32)) A6)) (aqk (aj .u8 32 (bQ (fun _=>0) 0 (ag (ar .ib .i64 x8 32)) A8)) (.bool (x9==1)::(.bool (bM==1)::(.bool (bI==1)::(.bool (bV==1)::(aqk (aj .u8 32 (bQ (fun _=>0) 0 (ag (ar .ib .i64 dM 32)) gG)) (.int .u32 (ae .u32 cU)::(aqk (aj .u8 32 (bQ (fun _=>0) 0 (ag (ar .ib .i64 fU 32)) fl)) (.int .u32 (ae .u32 gC)::(.int .u32 (ae .u32 jb)::(vF.v::(aqk (aj .u8 32 (bQ (fun _=>0) 0 (ag (ar .ib .i64 vD 32)) uq)) (aqk (aj .u8 32 (bQ (fun _=>0) 0 (ag (ar .ib .i64 rR 32)) wU)) ([.bool (Aq==1),.int .u32 (ae .u32 Qt),.bool (wT==1),.bool (FY==1)]))))))))))))))))),n_ b2 b0,ak b3 true ([pp b1,.pointer (some ⟨b1,32,none⟩),.pointer (some ⟨b1,64,none⟩),.pointer (some ⟨b1,96,none⟩)]),bf v2 x2 A2,bf v4 x4 A4,bf v6 x6 A6,bf v8 x8 A8,Bs b4 b1,ak b5 true ([.pointer (some ⟨b1,132,none⟩)]),bf tw dM gG,ak b6 true ([.pointer (some ⟨b1,164,none⟩)]),ak b7 true ([.pointer (some ⟨b1,165,none⟩)]),bf px fU fl,ak b8 true ([.pointer (some ⟨b1,197,none⟩)]),ak b9 true ([.pointer (some ⟨b1,198,none⟩)]),aB true 245 65 vF.v (ag ia) (aK (ag ia) [aC .u8 32 kq,aC .u32 1 lY,aC .u8 32 lJ])])))))))))))))))))
theorem SC(al:PT)(x0:Int)(A0:Nat→Int)(q0:Bool)(v0:V1)(b0 b1:Nat)(h:IQ al x0 A0 q0 v0 b0 b1):aq aqQ 105 [pp b0,pp b1] [cC b0 v0 q0,bf v0 x0 A0,ZX b1] al:=
 sW (C:=aeb) Vc.ZE Vc.ad5 Vc.ZF ⟨[x0],[A0],[q0],[b0,b1],[v0],[],[],[]⟩ 18 Tryz.func105 (by kernel_rfl) h
end Go.RX.Vb

namespace Go.RX
theorem bJ.views{A B L:List HP}(hL: ∀h∈L,bc B h):bJ (A++B) (A++L):=by
 intro w Fs ⟨S,hS⟩;have gA: ∀(i:Nat) x,A[i]? =some x→(A++B++Fs)[i]? =some x:=by
  intro i x hx;have hl:i<A.length:=(aqo.1 hx).1;rw [aqs (by simp;omega),aqs hl,hx]
 have gF: ∀(i:Nat) x,Fs[i]? =some x→(A++B++Fs)[A.length+B.length+i]? =some x:=by
  intro i x hx;rw [aqt (by simp),aql,Nat.add_sub_cancel_left,hx]
 have gB: ∀(i:Nat),i<B.length→∃x,(A++B++Fs)[A.length+i]? =some x:=by
  intro i hi;refine⟨B[i],?_⟩;rw [aqs (by simp;omega),aqt (by omega),Nat.add_sub_cancel_left,List.getElem?_eq_getElem hi]
 have hSB:Sep B (fun i=>S (A.length+i)) w:=Sep.mid hS;have hc: ∀i:Nat,∃S':Nat→Prop,∀x,L[i]? =some x→x.p w S'∧∀k,S' k→∃j,j<B.length∧S (A.length+j) k:=by
  intro i;cases hi:L[i]? with
  | none=>exact⟨fun _=>False,fun x hx=>nomatch hx⟩
  | some y=>
   obtain⟨S',JQ⟩:=(hL y (aqG hi)).2 w _ hSB;exact⟨S',fun x hx=>by cases hx;exact JQ⟩
 obtain⟨S1,Zz⟩:=Classical.axiomOfChoice hc;have jl: ∀(i:Nat) x,(A++L++Fs)[i]? =some x→(i<A.length∧A[i]? =some x)∨(A.length≤i∧i<A.length+L.length∧L[i - A.length]? =some x)∨(A.length+L.length≤i∧Fs[i - (A.length+L.length)]? =some x):=by
  intro i x hx;by_cases h1:i<A.length
  ·rw [aqs (by simp;omega),aqs h1]at hx;exact .inl ⟨h1,hx⟩
  ·by_cases h2:i<A.length+L.length
   ·rw [aqs (by simp;omega),aqt (by omega)]at hx;exact .inr (.inl ⟨by omega,h2,hx⟩)
   ·rw [aqt (by simp;omega),aql]at hx;exact .inr (.inr ⟨by omega,hx⟩)
 refine⟨fun i k=>if i<A.length then S i k else if i<A.length+L.length then S1 (i - A.length) k else S (i - L.length+B.length) k,?_,?_⟩
 ·intro i x hx;rcases jl i x hx with⟨h1,h2⟩ | ⟨h1,h2,h3⟩ | ⟨h1,h2⟩
  ·simp only [if_pos h1];exact hS.at_ i x (gA i x h2)
  ·simp only [if_neg (aq1.2 h1),if_pos h2];obtain⟨hp,hk⟩:=Zz _ x h3;refine⟨hp,fun k kv=>?_⟩;obtain⟨j,hj,hs⟩:=hk k kv;obtain⟨y,hy⟩:=gB j hj;exact(hS.at_ _ y hy).2 k hs
  ·simp only [if_neg (show¬i<A.length by omega),if_neg (show¬i<A.length+L.length by omega)];have:=hS.at_ _ x (gF _ x h2)
   rwa [show A.length+B.length+(i - (A.length+L.length))=i - L.length+B.length by omega]at this
 ·have wrL: ∀(i:Nat) x,L[i]? =some x→x.wr=false:=fun i x hx=>(hL x (aqG hx)).1
  have half: ∀(i j:Nat) (x y:HP),i≠j→(A++L++Fs)[i]? =some x→(A++L++Fs)[j]? =some y→x.wr=true→∀k,(if i<A.length then S i k else if i<A.length+L.length then S1 (i - A.length) k else S (i - L.length+B.length) k)→¬(if j<A.length then S j k else if j<A.length+L.length then S1 (j - A.length) k else S (j - L.length+B.length) k):=by
   intro i j x y m8 hx hy hw k hk kv;obtain⟨i',dy,TD,hsi⟩: ∃i',(A++B++Fs)[i']? =some x∧S i' k∧((i<A.length∧i'=i)∨(A.length+L.length≤i∧i'=i - L.length+B.length)):=by
    rcases jl i x hx with⟨h1,h2⟩ | ⟨h1,h2,h3⟩ | ⟨h1,h2⟩
    ·rw [if_pos h1]at hk;exact⟨i,gA i x h2,hk,.inl ⟨h1,rfl⟩⟩
    ·rw [wrL _ x h3]at hw;cases hw
    ·rw [if_neg (show¬i<A.length by omega),if_neg (show¬i<A.length+L.length by omega)]at hk;have:=gF _ x h2;rw [show A.length+B.length+(i - (A.length+L.length))=i - L.length+B.length by omega]at this;exact⟨_,this,hk,.inr ⟨h1,rfl⟩⟩
   rcases jl j y hy with⟨h1,h2⟩ | ⟨h1,h2,h3⟩ | ⟨h1,h2⟩
   ·rw [if_pos h1]at kv;exact hS.apart i' j x y (by omega) dy (gA j y h2) (.inl hw) k TD kv
   ·rw [if_neg (show¬j<A.length by omega),if_pos h2]at kv;obtain⟨m,hm,hs⟩:=(Zz _ y h3).2 k kv;obtain⟨z,hz⟩:=gB m hm;exact hS.apart i' (A.length+m) x z (by omega) dy hz (.inl hw) k TD hs
   ·rw [if_neg (show¬j<A.length by omega),if_neg (show¬j<A.length+L.length by omega)]at kv;have:=gF _ y h2;rw [show A.length+B.length+(j - (A.length+L.length))=j - L.length+B.length by omega]at this;exact hS.apart i' _ x y (by omega) dy this (.inl hw) k TD kv
  intro i j x y m8 hx hy hw k hk kv;rcases hw with hw | hw
  ·exact half i j x y m8 hx hy hw k hk kv
  ·exact half j i y x (Ne.symm m8) hy hx hw k kv hk
def HP.two(a b:HP):HP where
 wr:=true
 p w S:=(∃S':Nat→Prop,a.p w S'∧∀k,S' k→S k)∧∃S':Nat→Prop,b.p w S'∧∀k,S' k→S k
 eY w w' S hp hk:=by
  obtain⟨⟨S1,h1,h2⟩,S2,h3,h4⟩:=hp;exact⟨⟨S1,a.eY w w' S1 h1 fun k hs=>hk k (h2 k hs),h2⟩,S2,b.eY w w' S2 h3 fun k hs=>hk k (h4 k hs),h4⟩
theorem bJ.two{a b:HP}(ha:a.wr=true)(hb:b.wr=true):bJ [a,b] [HP.two a b]:=by
 intro w Fs ⟨S,hS⟩;have ga:([a,b]++Fs)[0]? =some a:=rfl;have gb:([a,b]++Fs)[1]? =some b:=rfl;refine⟨fun i=>match i with | 0=>fun k=>S 0 k∨S 1 k | i+1=>S (i+2),⟨?_,?_⟩⟩
 ·intro i x hx
  match i,hx with
  | 0,hx=>
   simp at hx;subst hx;exact⟨⟨⟨S 0,(hS.at_ 0 a ga).1,fun k h=> .inl h⟩,S 1,(hS.at_ 1 b gb).1,fun k h=> .inr h⟩,fun k h=>h.elim ((hS.at_ 0 a ga).2 k) ((hS.at_ 1 b gb).2 k)⟩
  | i+1,hx=>exact hS.at_ (i+2) x (by simpa using hx)
 ·intro i j x y fg hx hy hw k
  match i,j,fg,hx,hy with
  | 0,0,fg,_,_=>exact absurd rfl fg
  | 0,j+1,_,_,hy=>
   intro h1 h2;rcases h1 with h1 | h1
   ·exact hS.apart 0 (j+2) a y (by omega) ga (by simpa using hy) (.inl ha) k h1 h2
   ·exact hS.apart 1 (j+2) b y (by omega) gb (by simpa using hy) (.inl hb) k h1 h2
  | i+1,0,_,hx,_=>
   intro h1 h2;rcases h2 with h2 | h2
   ·exact hS.apart (i+2) 0 x a (by omega) (by simpa using hx) ga (.inr ha) k h1 h2
   ·exact hS.apart (i+2) 1 x b (by omega) (by simpa using hx) gb (.inr hb) k h1 h2
  | i+1,j+1,fg,hx,hy=>exact hS.apart (i+2) (j+2) x y (by omega) (by simpa using hx) (by simpa using hy) hw k
end Go.RX
namespace Go.RX.Vb
open Go Go.RX Go.Proofs Go.Vs
def fI(H G:HP):Prop:= ∀w S,H.p w S→∃S':Nat→Prop,(∀k,S' k→S k)∧G.p w S'
theorem fI.refl{H:HP}:fI H H:=fun _ S hp=>⟨S,fun _ hk=>hk,hp⟩
theorem fI.then{H G h:HP}(a:fI H G)(b:fI G h):fI H h:=fun w S hp=>by
 obtain⟨S1,k1,h1⟩:=a w S hp;obtain⟨S2,k2,h2⟩:=b w S1 h1;exact⟨S2,fun k hk=>k1 k (k2 k hk),h2⟩
theorem fI.trans{H G h:HP}(a:fI H G)(b:iG G h):iG H h:=⟨b.1,fI.then a b.2⟩
theorem fI.one{a b:HP}:fI (HP.two a b) a:=fun _ _ hp=>by
 obtain⟨⟨S,h1,h2⟩,_⟩:=hp;exact⟨S,h2,h1⟩
theorem iG.other{a:HP}{t s n:Nat}{v:Value}{cs:List Value}:iG (HP.two a (aB true t s v n cs)) (aB false t s v n cs):=⟨rfl,fun _ _ hp=>by
 obtain⟨_,S,h1,h2⟩:=hp;exact⟨_,fun k hk=>h2 k hk.1,y9 h1⟩⟩
abbrev laid(n:Int)(k:Nat)(A:Nat→Int):Nat→Int:=bQ (fun _=>0) 0 (ag (ar .ib .i64 n (k:Int))) A
theorem OX(k:Nat)(hk:0<k)(o:rB):((raw k).bz o).2=(lQ k o).2∧∀j,j<k→laid ((lQ k o).1.length:Int) k (aL (lQ k o).1) j=aL ((raw k).bz o).1 j:=by
 have hz: ∀j,j<k→laid (([]:List Nat).length:Int) k (aL []) j=aL (List.replicate k 0) j:=by
  intro j hj;have h1:aL (List.replicate k 0) j=0:=by simp [aL,aqN,hj]
  rw [h1];simp only [laid,bQ,ar,List.length_nil];split
  ·rename_i h;exfalso;simp at h;omega
  ·rfl
 cases o with
 | none=>exact⟨rfl,hz⟩
 | some b=>
  by_cases h:k≤b.length
  ·have e1:(raw k).bz (some b)=(b.take k,some (b.drop k)):=by simp only [raw,take,h,if_true];rfl
   have e2:lQ k (some b)=(b.take k,some (b.drop k)):=by simp only [lQ,take,h,if_true];rfl
   rw [e1,e2];refine⟨rfl,fun j hj=>?_⟩;have hl:(b.take k).length=k:=List.length_take_of_le h;simp only [laid,bQ,ar,hl];rw [if_pos ⟨by omega,by simp;omega⟩,Nat.sub_zero]
  ·have e1:(raw k).bz (some b)=(List.replicate k 0,none):=by simp only [raw,take,h,if_false];rfl
   have e2:lQ k (some b)=([],none):=by simp only [lQ,take,h,if_false];rfl
   rw [e1,e2];exact⟨rfl,hz⟩
theorem eO(k:Nat)(o:rB):((raw k).bz o).1.length=k:=by
 cases o with
 | none=>simp [raw,take]
 | some b=>
  by_cases h:k≤b.length
  ·have e1:(raw k).bz (some b)=(b.take k,some (b.drop k)):=by simp only [raw,take,h,if_true];rfl
   rw [e1];exact List.length_take_of_le h
  ·have e1:(raw k).bz (some b)=(List.replicate k 0,none):=by simp only [raw,take,h,if_false];rfl
   rw [e1];simp
theorem SD{q:Bool}{l:List Nat}(h:fX l): ∀b,bZ q l=some b→fX b:=by
 intro b hb;cases q with
 | true=>cases hb
 | false=>cases hb;exact h
theorem OY(k:Nat){q:Bool}{l:List Nat}(h:fX l):((num k).bz (bZ q l)).1<256^k:=by
 cases q with
 | true=>exact Nat.pow_pos (by decide)
 | false=>
  by_cases hk:k≤l.length
  ·have e1:(num k).bz (bZ false l)=(iI (l.take k),some (l.drop k)):=by simp only [num,bZ,take,hk,Bool.false_eq_true,if_false,if_true];rfl
   rw [e1];exact(Cx k (l.take k) (List.length_take_of_le hk) (h.take k).b).2
  ·have e1:(num k).bz (bZ false l)=(0,none):=by simp only [num,bZ,take,hk,Bool.false_eq_true,if_false];rfl
   rw [e1];exact Nat.pow_pos (by decide)
theorem cG{b:Nat}{v:V1}{q:Bool}{l:List Nat}{A:Nat→Int}{n:Int}{o:rB}(k:Nat){K:Int}(hK:K=(k:Int))(hk:0<k)(ho:bZ q l=o)(hl:fX l)(hA:cd A l)(hn:n=(l.length:Int)){R:V1→V1→Int→Int→(Nat→Int)→(Nat→Int)→Bool→Prop}
  (h: ∀(v' v2:V1) (n2:Int) (A2:Nat→Int) (q':Bool) (l':List Nat),fX l'→bZ q' l'=((raw k).bz o).2→0≤n2→(∀j,j<k→laid n2 k A2 j=aL ((raw k).bz o).1 j)→R v' v2 (l'.length:Int) n2 (aL l') A2 q'):
  ∃post,aq aqQ 45 [.pointer (some ⟨b,0,none⟩),.int .i64 K] [ak b true ([.bool false,v.v,.bool q]),aB false 5 1 v.v (ag n) (aK (ag n) [aC .u8 1 A])] post∧
   ∀x hs,post x hs→∃v1:V1,∃v2:V1,∃x1:Int,∃x2:Int,∃A1:(Nat→Int),∃A2:(Nat→Int),∃q1:Bool,x=v2.v∧hs=[ak b true ([.bool false,v1.v,.bool q1]),aB false 5 1 v1.v (ag x1) (aK (ag x1) [aC .u8 1 A1]),aB false 5 1 v2.v (ag x2) (aK (ag x2) [aC .u8 1 A2])]∧R v1 v2 x1 x2 A1 A2 q1:=by
 subst hn ho hK;rw [aqD,hA.xE];refine⟨_,wX b v q l hl k,?_⟩;rintro x hs ⟨o',v',q',l',m,rfl,rfl,he,LD,hm⟩;obtain⟨e1,e2⟩:=OX k hk (bZ q l);have em:m=(lQ k (bZ q l)).1:=by rw [←he]
 have eo:bZ q' l'=(lQ k (bZ q l)).2:=by rw [←he]
 refine⟨v',o',_,_,_,_,q',rfl,rfl,h v' o' _ _ q' l' LD (by rw [e1];exact eo) (Int.natCast_nonneg m.length) ?_⟩;rw [em];exact e2
theorem bd{b:Nat}{v:V1}{q:Bool}{l:List Nat}{A:Nat→Int}{n X:Int}{o:rB}(k:Nat){K:Int}(hk:k=1∧K=1∨k=4∧K=4∨k=8∧K=8)(ho:bZ q l=o)(hl:fX l)(hA:cd A l)(hn:n=(l.length:Int)){R:V1→Int→Int→(Nat→Int)→Bool→Prop}
  (h: ∀(v':V1) (q':Bool) (l':List Nat),fX l'→bZ q' l'=((num k).bz o).2→((num k).bz o).1<256^k→R v' (((num k).bz o).1:Int) (l'.length:Int) (aL l') q'):
  ∃post,aq aqQ 21 [.pointer (some ⟨b,0,none⟩),.int .u64 X,.int .i64 K] [ak b true ([.bool false,v.v,.bool q]),aB false 5 1 v.v (ag n) (aK (ag n) [aC .u8 1 A])] post∧
   ∀x hs,post x hs→∃v1:V1,∃x1:Int,∃x2:Int,∃A1:(Nat→Int),∃q1:Bool,x= .int .u64 x1∧hs=[ak b true ([.bool false,v1.v,.bool q1]),aB false 5 1 v1.v (ag x2) (aK (ag x2) [aC .u8 1 A1])]∧R v1 x1 x2 A1 q1:=by
 subst hn ho;rw [aqD,hA.xE];have key: ∀(y:Value) (hs:List HP),(y= .int .u64 (((num k).bz (bZ q l)).1:Int)∧∃(v':V1) (q':Bool) (l':List Nat),hs=[cZ b false v'.v q',aT false v'.v l']∧bZ q' l'=((num k).bz (bZ q l)).2∧fX l')→
   ∃v1:V1,∃x1:Int,∃x2:Int,∃A1:(Nat→Int),∃q1:Bool,y= .int .u64 x1∧hs=[ak b true ([.bool false,v1.v,.bool q1]),aB false 5 1 v1.v (ag x2) (aK (ag x2) [aC .u8 1 A1])]∧R v1 x1 x2 A1 q1:=by
  rintro y hs ⟨rfl,v',q',l',rfl,e,LD⟩;exact⟨v',_,_,_,q',rfl,rfl,h v' q' l' LD e (OY k hl)⟩
 rcases hk with⟨rfl,rfl⟩ | ⟨rfl,rfl⟩ | ⟨rfl,rfl⟩
 ·exact⟨_,EF b v q l hl X,key⟩
 ·exact⟨_,EG b v q l hl X,key⟩
 ·exact⟨_,EH b v q l hl X,key⟩
theorem jP{b:Nat}{v:V1}{q:Bool}{l:List Nat}{A:Nat→Int}{n X:Int}{o:rB}(ho:bZ q l=o)(hl:fX l)(hA:cd A l)(hn:n=(l.length:Int)){R:V1→Int→Int→(Nat→Int)→Bool→Prop}
  (h: ∀(v':V1) (q':Bool) (l':List Nat) (N:Nat) (O:rB),fX l'→bZ q' l'=O→N<256^4→N=((num 4).bz o).1→O=((num 4).bz o).2→R v' (N:Int) (l'.length:Int) (aL l') q'):
  ∃post,aq aqQ 21 [.pointer (some ⟨b,0,none⟩),.int .u64 X,.int .i64 4] [ak b true ([.bool false,v.v,.bool q]),aB false 5 1 v.v (ag n) (aK (ag n) [aC .u8 1 A])] post∧
   ∀x hs,post x hs→∃v1:V1,∃x1:Int,∃x2:Int,∃A1:(Nat→Int),∃q1:Bool,x= .int .u64 x1∧hs=[ak b true ([.bool false,v1.v,.bool q1]),aB false 5 1 v1.v (ag x2) (aK (ag x2) [aC .u8 1 A1])]∧R v1 x1 x2 A1 q1:=
 bd 4 (.inr (.inl ⟨rfl,rfl⟩)) ho hl hA hn fun v' q' l' LD FV hb=>h v' q' l' _ _ LD FV hb rfl rfl
theorem mb{q:Bool}{l:List Nat}{o:rB}(h:bZ q l=((num 1).bz o).2):bZ (q||decide (1<(((num 1).bz o).1:Int))) l=(flag.bz o).2:=by
 have e:(flag.bz o).2=if((num 1).bz o).1≤1 then((num 1).bz o).2 else none:=rfl
 rw [e,←h];by_cases hx:((num 1).bz o).1≤1
 ·rw [if_pos hx,show decide (1<(((num 1).bz o).1:Int))=false by simp;omega,Bool.or_false]
 ·rw [if_neg hx,show decide (1<(((num 1).bz o).1:Int))=true by simp;omega,Bool.or_true];rfl
theorem jc(o:rB):((((num 1).bz o).1:Int)==1)=(!(bi (flag.bz o).1==0)):=by
 have e:(flag.bz o).1=(((num 1).bz o).1==1):=rfl;rw [Cy,e];generalize ((num 1).bz o).1=x;rw [Bool.eq_iff_iff];simp;omega
theorem fq{n:Nat}{A B:Nat→Int}(h: ∀j,j<n→A j=B j):aj .u8 n A=aj .u8 n B:=by
 unfold aj;refine List.map_congr_left fun j hj=>?_
 rw [h j (aqE.1 hj)]
theorem OZ{α:Type}(f:α→List Nat)(w:Nat)(s:List α)(hs: ∀y∈s,(f y).length=w):(s.flatMap f).length=s.length*w:=by
 induction s with
 | nil=>simp
 | cons a s ih=>rw [List.flatMap_cons,aql,ih (fun y hy=>hs y (by simp [hy])),hs a (by simp),List.length_cons,Nat.succ_mul];omega
theorem zp{α:Type}(f:α→List Nat)(w:Nat)(s:List α)(x:α){B:Nat→Int}(hs: ∀y∈s,(f y).length=w)(_:(f x).length=w)(hB: ∀j,j<w→B j=aL (f x) j):
  ∀j,j<ag (((s++[x]).length:Int)*(w:Int))→dV f (s++[x]) j=bQ (dV f s) (ag ((s.length:Int)*(w:Int))) w B j:=by
 have hl:=OZ f w s hs;intro j hj;rw [←Int.natCast_mul,aqD]at hj ⊢;rw [aql,aqm,Nat.succ_mul]at hj;simp only [bQ,dV,aL,List.flatMap_append,List.flatMap_cons,List.flatMap_nil,List.append_nil,aqN];split
 ·rename_i h;rw [hB _ (by omega),aqt (by omega),hl];simp [aL]
 ·rename_i h;rw [aqs (by omega)]
theorem lK{α:Type}(f:α→Nat)(s:List α)(x:α){z:Int}(hz:z=(f x:Int)): ∀j,j<ag (((s++[x]).length:Int))→cu f (s++[x]) j=aw (cu f s) (ag (s.length:Int)) z j:=by
 subst hz;intro j hj;rw [aqD]at hj ⊢;rw [aql,aqm]at hj;simp only [aw,cu,List.map_append,aqP,List.map_nil,aqN];split
 ·rename_i h;subst h;rw [aqt (by simp)];simp
 ·rename_i h;rw [aqs (by simp;omega)]
theorem qM{α:Type}(f:α→Bool)(s:List α)(x:α){z:Int}(hz:z=bi (f x)): ∀j,j<ag (((s++[x]).length:Int))→jm f (s++[x]) j=aw (jm f s) (ag (s.length:Int)) z j:=by
 subst hz;intro j hj;rw [aqD]at hj ⊢;rw [aql,aqm]at hj;simp only [aw,jm,List.map_append,aqP,List.map_nil,aqN];split
 ·rename_i h;subst h;rw [aqt (by simp)];simp
 ·rename_i h;rw [aqs (by simp;omega)]
theorem mX{α:Type}(c:p9 α){n:Nat}{q:Bool}{l:List Nat}{acc:List α}(h: ¬(0<(n:Int)∧¬q=true)):lA c n (bZ q l) acc=(acc,bZ q l):=by
 cases q with
 | true=>exact ur c n acc
 | false=>
  have:n=0:=by
   simp at h;exact h
  subst this;rfl
theorem mY{α:Type}(c:p9 α){n:Nat}{q:Bool}{l:List Nat}{acc:List α}(h:0<(n:Int)∧¬q=true): ∃m,n=m+1∧q=false∧lA c n (bZ q l) acc=lA c m (c.bz (bZ q l)).2 (acc++[(c.bz (bZ q l)).1]):=by
 obtain⟨h1,h2⟩:=h;have:q=false:=by cases q<;>simp_all
 subst this;obtain⟨m,rfl⟩: ∃m,n=m+1:=⟨n - 1,by omega⟩;exact⟨m,rfl,rfl,rfl⟩
end Go.RX.Vb
