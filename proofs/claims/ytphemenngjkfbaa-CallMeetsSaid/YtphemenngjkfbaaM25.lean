/- Begin leaves to be shown. -/
import Derived.Test.YtphemenngjkfbaaM24
open Go.IntKind renaming wrap → ae
open Go.Proofs.Try renaming prog → adY
open Int renaming toNat → ag
open List renaming append → adH, take_sublist → aem
namespace Go.RX.Dq
open Go.RX Go.Proofs
set_option maxRecDepth 100000
def Em(P:Program)(ao:Value→List HP→Prop):Prop:=
 ∀b0 b1 b2 b3 b4 _ _:Nat,Cl P 47 [.dv 0 0,.agg (.int .u8 2::(.int .u8 2::(adH (al .u8 6 (fun _=>0)) ([])))).toArray] [] fun x hs _=> ∃b7:Nat,∃p0:HP,x= .pp b7∧hs=[p0]∧
 ∃sv:Ext→Prop,(
 (∀_ _ fh:Nat,∃SR:Nat,SR=fh∧SR=fh∧sv ⟨[SR],[],[],[],[],[],[]⟩)∧
 (∀b8 _ _:Nat,∃SR:Nat,SR=b8∧SR=b8∧sv ⟨[SR],[],[],[],[],[],[]⟩))∧
 ∀b8:Nat,sv ⟨[b8],[],[],[],[],[],[]⟩→
 ∀_ _:Nat,Cl P 47 [.dv 0 1,.agg (.int .u8 2::(.int .u8 2::(adH (al .u8 6 (fun _=>0)) ([])))).toArray] [] fun x hs _=> ∃kA:Nat,∃p1:HP,x= .pp kA∧hs=[p1]∧
 ∃sv:Ext→Prop,(
 (∀_ _ uw:Nat,∃GQ:Nat,GQ=uw∧GQ=uw∧sv ⟨[GQ],[],[],[],[],[],[]⟩)∧
 (∀mB _ _:Nat,∃GQ:Nat,GQ=mB∧GQ=mB∧sv ⟨[GQ],[],[],[],[],[],[]⟩))∧
 ∀mB:Nat,sv ⟨[mB],[],[],[],[],[],[]⟩→
 ∀_ _:Nat,Cl P 47 [.dv 1 0,.agg (.int .u8 2::(.int .u8 2::(adH (al .u8 6 (fun _=>0)) ([])))).toArray] [] fun x hs _=> ∃En:Nat,∃p2:HP,x= .pp En∧hs=[p2]∧
 ∃sv:Ext→Prop,(
 (∀_ _ Iw:Nat,∃GR:Nat,GR=Iw∧GR=Iw∧sv ⟨[GR],[],[],[],[],[],[]⟩)∧
 (∀Aq _ _:Nat,∃GR:Nat,GR=Aq∧GR=Aq∧sv ⟨[GR],[],[],[],[],[],[]⟩))∧
 ∀Aq:Nat,sv ⟨[Aq],[],[],[],[],[],[]⟩→
 ∀_ _:Nat,Cl P 47 [.dv 1 1,.agg (.int .u8 2::(.int .u8 2::(adH (al .u8 6 (fun _=>0)) ([])))).toArray] [] fun x hs _=> ∃Kd:Nat,∃p3:HP,x= .pp Kd∧hs=[p3]∧
 ∃sv:Ext→Prop,(
 (∀_ _ Ix:Nat,∃GS:Nat,GS=Ix∧GS=Ix∧sv ⟨[GS],[],[],[],[],[],[]⟩)∧
 (∀Eo _ _:Nat,∃GS:Nat,GS=Eo∧GS=Eo∧sv ⟨[GS],[],[],[],[],[],[]⟩))∧
 ∀Eo:Nat,sv ⟨[Eo],[],[],[],[],[],[]⟩→
 ao (.pp b4) [b_ b0 [.u8,.u8,.u8,.u8,.u8,.u8,.u8,.u8,.u8,.u8,.u8,.u8,.u8,.u8,.u8,.u8] true true ([.int .u8 0,.int .u8 0]) (fun i=> !((fun _=>0) i==0)) (cI [au .u8 1 (fun _=>0),au .u8 1 (fun _=>0)]),b_ b1 [.u8,.u8,.u8,.u8,.u8,.u8,.u8,.u8,.u8,.u8,.u8,.u8,.u8,.u8,.u8,.u8] true true (adH (al .u8 32 (fun _=>0)) ([])) (fun i=> !((fun _=>0) i==0)) (cI [au .u8 32 (fun _=>0)]),b_ b2 [.u8,.u8] true false ([.map none]) (fun i=>As [18,84,162,660] i) (uY [(18,[.map (some b8)]),(84,[.map (some mB)]),(162,[.map (some Aq)]),(660,[.map (some Eo)])] ([.map none])),b_ b3 [.u8,.u8] true false ([.slice none 0 0]) (fun i=>As [] i) (uY [] ([.slice none 0 0])),ak b4 true ([.int .u64 1,.pp b7,.pp kA,.pp En,.pp Kd,.slice none 0 0,.int .u16 0,.map (some b0),.map (some b1),.slice none 0 0,.map (some b2),.map (some b3),.bool false]),p0,b_ b8 [.u8,.u8,.u8,.u8,.u8,.u8,.u8,.u8,.u8,.u8,.u8,.u8,.u8,.u8,.u8,.u8] true false ([.int .u8 0]) (fun i=> !((fun _=>0) i==0)) (cI [au .u8 1 (fun _=>0)]),p1,b_ mB [.u8,.u8,.u8,.u8,.u8,.u8,.u8,.u8,.u8,.u8,.u8,.u8,.u8,.u8,.u8,.u8] true false ([.int .u8 0]) (fun i=> !((fun _=>0) i==0)) (cI [au .u8 1 (fun _=>0)]),p2,b_ Aq [.u8,.u8,.u8,.u8,.u8,.u8,.u8,.u8,.u8,.u8,.u8,.u8,.u8,.u8,.u8,.u8] true false ([.int .u8 0]) (fun i=> !((fun _=>0) i==0)) (cI [au .u8 1 (fun _=>0)]),p3,b_ Eo [.u8,.u8,.u8,.u8,.u8,.u8,.u8,.u8,.u8,.u8,.u8,.u8,.u8,.u8,.u8,.u8] true false ([.int .u8 0]) (fun i=> !((fun _=>0) i==0)) (cI [au .u8 1 (fun _=>0)])]
theorem M0(ao:Value→List HP→Prop)(h:Em adY ao):aq adY 59 [] [] ao:=
 rk (C:=cx) [] [] ⟨0,0,0,0,0,0,0⟩ ⟨[],[],[],[],[],[],[],[]⟩ Try.func59 (by kernel_rfl) h
end Go.RX.Dq

namespace Go.RX.Df
open Go.RX Go.Proofs
noncomputable def cx:Ctx:={T:=TT,FT:=FT,loops:=Df.loops,de:=de}
abbrev s4{α:Type}(i:Nat)(a b c d:α):α:=match i with
 | 0=>a
 | 1=>b
 | 2=>c
 | _=>d
end Go.RX.Df

namespace Go.RX.Dk
open Go.RX Go.Proofs Go.RX.Df
noncomputable def cx(di:Nat):Ctx:={T:=TT,FT:=FT,loops:=loops,de:=de,qh:=qh di}
open Go.RX Go.Proofs Go.RX.Df
set_option maxRecDepth 100000
def nU(di:Nat)(P:Program)(ao:Value→List HP→Prop)(x0 x1 x2 x3 x4:Int)(A0 A1 A2 A3 A4 A5 A6 A7 A8 A9 cm cZ:Nat→Int)(_ v1:V1)(b0 b1 b2 b3 b4 b5 b6 b7 b8:Nat)(p0 p1 p2 p3 p4 _:HP):Prop:=
 aM (0≤x4) (
 aM (x4<x3) (
 ∀_:Nat,aM (x4≤x3) (
 ur (x4+1) ((
 aM (0≤(x4+1)) (
 aM ((x4+1)≤x3) (
 aM (0≤(x3 - (x4+1))) (
 aM (0≤(x3 - (x4+1))) (
 aM (((x4+(x3 - (x4+1)))*104)≤140737488355328) (
 ∀v2:V1,∃Rw:Ext→Prop,(∀(w:World) (Fs:List HP),bd ([Fl v2.v (ag (x4+(x3 - (x4+1)))) (aW A0 (ag x4) (ag (x3 - (x4+1))) (aP A0 (ag (x4+1)))) (aW A1 (ag x4) (ag (x3 - (x4+1))) (aP A1 (ag (x4+1)))) (aW A2 (ag x4) (ag (x3 - (x4+1))) (aP A2 (ag (x4+1)))) (aW A3 (ag x4) (ag (x3 - (x4+1))) (aP A3 (ag (x4+1)))) (aW A4 (ag x4) (ag (x3 - (x4+1))) (aP A4 (ag (x4+1)))) (aW A5 (ag (x4*16)) (ag ((x3 - (x4+1))*16)) (aP A5 (ag ((x4+1)*16)))) (aW A6 (ag x4) (ag (x3 - (x4+1))) (aP A6 (ag (x4+1)))) (aW A7 (ag x4) (ag (x3 - (x4+1))) (aP A7 (ag (x4+1)))) (aW A8 (ag x4) (ag (x3 - (x4+1))) (aP A8 (ag (x4+1)))) (aW A9 (ag (x4*32)) (ag ((x3 - (x4+1))*32)) (aP A9 (ag ((x4+1)*32)))) (aW cm (ag x4) (ag (x3 - (x4+1))) (aP cm (ag (x4+1)))) (aW cZ (ag x4) (ag (x3 - (x4+1))) (aP cZ (ag (x4+1))))]++Fs) w→∃p6:HP,bd ([p6]++Fs) w∧Rw ⟨[],[],[],[],[],[p6],[]⟩)∧
 (∀p6:HP,Rw ⟨[],[],[],[],[],[p6],[]⟩→
 ur (A2 (ag x4)) ((
 ur ((A2 (ag x4))*2) ((
 ur (A3 (ag x4)) ((
 ur (((A2 (ag x4))*2)+(A3 (ag x4))) ((
 ∃Rw:Ext→Prop,(∀(w:World) (Fs:List HP),bd ([]++Fs) w→(s4 di 0 1 2 3)=(((A2 (ag x4))*2)+(A3 (ag x4)))∧bd ([]++Fs) w∧Rw ⟨[],[],[],[],[],[],[]⟩)∧
 (Rw ⟨[],[],[],[],[],[],[]⟩→
 ∀_ _:Nat,aU (¬(((A2 (ag x4))=(s4 di 0 0 1 1))∧((A3 (ag x4))=(s4 di 0 1 0 1)))) (
 ao (.tuple #[]) [Fw b0 x0 b1 b2 b3 b4 v2.v x1 b5 b6 v1.v b7 b8 true,p6,p0,p1,p2,p3,p4]) (
 Cl P 51 [.pp (s4 di b1 b2 b3 b4),.dv (A0 (ag x4)) (A1 (ag x4)),.agg (Sg (A4 (ag x4)) (aP A5 (ag (x4*16))) (A6 (ag x4)) (A7 (ag x4)) (A8 (ag x4)) (aP A9 (ag (x4*32))) (cm (ag x4)) (cZ (ag x4))).toArray,.int .u64 x0] [(s4 di p1 p2 p3 p4)] fun x hs _=> ∃(v3 v4 v5:V1) (_:Int),∃p7:HP,∃p8:HP,x= .agg #[v3.v,v4.v,v5.v]∧hs=[p7,p8]∧
 Cl P 101 [.pp b0,.int .i64 (s4 di 0 1 2 3),.agg #[v3.v,v4.v,v5.v]] [Fw b0 x0 b1 b2 b3 b4 v2.v x1 b5 b6 v1.v b7 b8 (!(x2==0)),p6,p0,p7,p8] fun x hs _=> ∃(v6 v7:V1) (q0:Bool),∃p9:HP,∃l6:HP,x= .tuple #[]∧hs=[Fw b0 x0 b1 b2 b3 b4 v6.v x1 b5 b6 v7.v b7 b8 q0,p9,l6,p7]∧
 ao (.tuple #[]) [Fw b0 x0 b1 b2 b3 b4 v6.v x1 b5 b6 v7.v b7 b8 q0,p9,l6,(s4 di p7 p1 p1 p1),(s4 di p2 p7 p2 p2),(s4 di p3 p3 p7 p3),(s4 di p4 p4 p4 p7)])))))))))))))))))))))
theorem Ke(P:Program)(ao:Value→List HP→Prop)(x0 x1 x2 x3 x4:Int)(A0 A1 A2 A3 A4 A5 A6 A7 A8 A9 cm cZ:Nat→Int)(v0 v1:V1)(b0 b1 b2 b3 b4 b5 b6 b7 b8:Nat)(p0 p1 p2 p3 p4 p5:HP)(L:Nat→LC):VC P (fun v hs=>ao v (hs.take 7)) (cC (cx 0) 99 (qi 0) (C1 0) aQ Try.f99) {iv:=[x0,x1,x2,x3,x4],av:=[A0,A1,A2,A3,A4,A5,A6,A7,A8,A9,cm,cZ],bo:=[],bv:=[b0,b1,b2,b3,b4,b5,b6,b7,b8],vv:=[v0,v1],pv:=[p0,p1,p2,p3,p4,p5]} L=nU 0 P ao x0 x1 x2 x3 x4 A0 A1 A2 A3 A4 A5 A6 A7 A8 A9 cm cZ v0 v1 b0 b1 b2 b3 b4 b5 b6 b7 b8 p0 p1 p2 p3 p4 p5:=by kernel_rfl
theorem Kf(P:Program)(ao:Value→List HP→Prop)(x0 x1 x2 x3 x4:Int)(A0 A1 A2 A3 A4 A5 A6 A7 A8 A9 cm cZ:Nat→Int)(v0 v1:V1)(b0 b1 b2 b3 b4 b5 b6 b7 b8:Nat)(p0 p1 p2 p3 p4 p5:HP)(L:Nat→LC):VC P (fun v hs=>ao v (hs.take 7)) (cC (cx 1) 99 (qi 1) (C1 1) aQ Try.f99) {iv:=[x0,x1,x2,x3,x4],av:=[A0,A1,A2,A3,A4,A5,A6,A7,A8,A9,cm,cZ],bo:=[],bv:=[b0,b1,b2,b3,b4,b5,b6,b7,b8],vv:=[v0,v1],pv:=[p0,p1,p2,p3,p4,p5]} L=nU 1 P ao x0 x1 x2 x3 x4 A0 A1 A2 A3 A4 A5 A6 A7 A8 A9 cm cZ v0 v1 b0 b1 b2 b3 b4 b5 b6 b7 b8 p0 p1 p2 p3 p4 p5:=by kernel_rfl
theorem Kg(P:Program)(ao:Value→List HP→Prop)(x0 x1 x2 x3 x4:Int)(A0 A1 A2 A3 A4 A5 A6 A7 A8 A9 cm cZ:Nat→Int)(v0 v1:V1)(b0 b1 b2 b3 b4 b5 b6 b7 b8:Nat)(p0 p1 p2 p3 p4 p5:HP)(L:Nat→LC):VC P (fun v hs=>ao v (hs.take 7)) (cC (cx 2) 99 (qi 2) (C1 2) aQ Try.f99) {iv:=[x0,x1,x2,x3,x4],av:=[A0,A1,A2,A3,A4,A5,A6,A7,A8,A9,cm,cZ],bo:=[],bv:=[b0,b1,b2,b3,b4,b5,b6,b7,b8],vv:=[v0,v1],pv:=[p0,p1,p2,p3,p4,p5]} L=nU 2 P ao x0 x1 x2 x3 x4 A0 A1 A2 A3 A4 A5 A6 A7 A8 A9 cm cZ v0 v1 b0 b1 b2 b3 b4 b5 b6 b7 b8 p0 p1 p2 p3 p4 p5:=by kernel_rfl
theorem Kh(P:Program)(ao:Value→List HP→Prop)(x0 x1 x2 x3 x4:Int)(A0 A1 A2 A3 A4 A5 A6 A7 A8 A9 cm cZ:Nat→Int)(v0 v1:V1)(b0 b1 b2 b3 b4 b5 b6 b7 b8:Nat)(p0 p1 p2 p3 p4 p5:HP)(L:Nat→LC):VC P (fun v hs=>ao v (hs.take 7)) (cC (cx 3) 99 (qi 3) (C1 3) aQ Try.f99) {iv:=[x0,x1,x2,x3,x4],av:=[A0,A1,A2,A3,A4,A5,A6,A7,A8,A9,cm,cZ],bo:=[],bv:=[b0,b1,b2,b3,b4,b5,b6,b7,b8],vv:=[v0,v1],pv:=[p0,p1,p2,p3,p4,p5]} L=nU 3 P ao x0 x1 x2 x3 x4 A0 A1 A2 A3 A4 A5 A6 A7 A8 A9 cm cZ v0 v1 b0 b1 b2 b3 b4 b5 b6 b7 b8 p0 p1 p2 p3 p4 p5:=by kernel_rfl
theorem M1(di:Nat)(hd:di<4)(ao:Value→List HP→Prop)(x0 x1 x2 x3 x4:Int)(A0 A1 A2 A3 A4 A5 A6 A7 A8 A9 cm cZ:Nat→Int)(v0 v1:V1)(b0 b1 b2 b3 b4 b5 b6 b7 b8:Nat)(p0 p1 p2 p3 p4 p5:HP)(h:nU di adY ao x0 x1 x2 x3 x4 A0 A1 A2 A3 A4 A5 A6 A7 A8 A9 cm cZ v0 v1 b0 b1 b2 b3 b4 b5 b6 b7 b8 p0 p1 p2 p3 p4 p5):aq adY 99 [.pp b0,.int .i64 x4] [Fw b0 x0 b1 b2 b3 b4 v0.v x1 b5 b6 v1.v b7 b8 (!(x2==0)),Fl v0.v (ag x3) A0 A1 A2 A3 A4 A5 A6 A7 A8 A9 cm cZ,p0,p1,p2,p3,p4] ao:=by
 match di,hd,h with
 | 0,hd,h=>exact aq.post (aq.fH (C:=(cx 0)) (aQ:=aQ) (ρ:={iv:=[x0,x1,x2,x3,x4],av:=[A0,A1,A2,A3,A4,A5,A6,A7,A8,A9,cm,cZ],bo:=[],bv:=[b0,b1,b2,b3,b4,b5,b6,b7,b8],vv:=[v0,v1],pv:=[p0,p1,p2,p3,p4,p5]}) pA gw pB Try.func99 (by constructor<;>rfl) (ao:=(fun v hs=>ao v (hs.take 7))) (args:=qi 0) (hp:=C1 0) rfl (Ke adY ao x0 x1 x2 x3 x4 A0 A1 A2 A3 A4 A5 A6 A7 A8 A9 cm cZ v0 v1 b0 b1 b2 b3 b4 b5 b6 b7 b8 p0 p1 p2 p3 p4 p5 (fun _=>LC.none)) h) fun _ hs hq=>⟨_,aD.sub (aem 7 hs),hq⟩
 | 1,hd,h=>exact aq.post (aq.fH (C:=(cx 1)) (aQ:=aQ) (ρ:={iv:=[x0,x1,x2,x3,x4],av:=[A0,A1,A2,A3,A4,A5,A6,A7,A8,A9,cm,cZ],bo:=[],bv:=[b0,b1,b2,b3,b4,b5,b6,b7,b8],vv:=[v0,v1],pv:=[p0,p1,p2,p3,p4,p5]}) pA gw pB Try.func99 (by constructor<;>rfl) (ao:=(fun v hs=>ao v (hs.take 7))) (args:=qi 1) (hp:=C1 1) rfl (Kf adY ao x0 x1 x2 x3 x4 A0 A1 A2 A3 A4 A5 A6 A7 A8 A9 cm cZ v0 v1 b0 b1 b2 b3 b4 b5 b6 b7 b8 p0 p1 p2 p3 p4 p5 (fun _=>LC.none)) h) fun _ hs hq=>⟨_,aD.sub (aem 7 hs),hq⟩
 | 2,hd,h=>exact aq.post (aq.fH (C:=(cx 2)) (aQ:=aQ) (ρ:={iv:=[x0,x1,x2,x3,x4],av:=[A0,A1,A2,A3,A4,A5,A6,A7,A8,A9,cm,cZ],bo:=[],bv:=[b0,b1,b2,b3,b4,b5,b6,b7,b8],vv:=[v0,v1],pv:=[p0,p1,p2,p3,p4,p5]}) pA gw pB Try.func99 (by constructor<;>rfl) (ao:=(fun v hs=>ao v (hs.take 7))) (args:=qi 2) (hp:=C1 2) rfl (Kg adY ao x0 x1 x2 x3 x4 A0 A1 A2 A3 A4 A5 A6 A7 A8 A9 cm cZ v0 v1 b0 b1 b2 b3 b4 b5 b6 b7 b8 p0 p1 p2 p3 p4 p5 (fun _=>LC.none)) h) fun _ hs hq=>⟨_,aD.sub (aem 7 hs),hq⟩
 | 3,hd,h=>exact aq.post (aq.fH (C:=(cx 3)) (aQ:=aQ) (ρ:={iv:=[x0,x1,x2,x3,x4],av:=[A0,A1,A2,A3,A4,A5,A6,A7,A8,A9,cm,cZ],bo:=[],bv:=[b0,b1,b2,b3,b4,b5,b6,b7,b8],vv:=[v0,v1],pv:=[p0,p1,p2,p3,p4,p5]}) pA gw pB Try.func99 (by constructor<;>rfl) (ao:=(fun v hs=>ao v (hs.take 7))) (args:=qi 3) (hp:=C1 3) rfl (Kh adY ao x0 x1 x2 x3 x4 A0 A1 A2 A3 A4 A5 A6 A7 A8 A9 cm cZ v0 v1 b0 b1 b2 b3 b4 b5 b6 b7 b8 p0 p1 p2 p3 p4 p5 (fun _=>LC.none)) h) fun _ hs hq=>⟨_,aD.sub (aem 7 hs),hq⟩
def qR(di:Nat)(P:Program)(ao:Value→List HP→Prop)(x0 x1 x2 x3 x4 x5 x6 x7:Int)(A0 A1 A2 A3 A4 A5 A6 A7 A8 A9 cm cZ:Nat→Int)(v0 v1:V1)(b0 b1 b2 b3 b4 b5 b6 b7 b8:Nat)(p0 p1 p2 p3 p4 _:HP):Prop:=
 ∀_:Nat,ur (ax .rem .u8 x5 4) ((
 ∃Rw:Ext→Prop,(∀(w:World) (Fs:List HP),bd ([]++Fs) w→(s4 di 0 1 2 3)=(ax .rem .u8 x5 4)∧bd ([]++Fs) w∧Rw ⟨[],[],[],[],[],[],[]⟩)∧
 (Rw ⟨[],[],[],[],[],[],[]⟩→
 ∀_:Nat,aU (x4=0) (
 ∃Ig2:Ext→Prop,(∀(w:World) (Fs:List HP),bd ([Fl v0.v (ag x3) A0 A1 A2 A3 A4 A5 A6 A7 A8 A9 cm cZ]++Fs) w→∃p6:HP,bd ([p6]++Fs) w∧Ig2 ⟨[],[],[],[],[],[p6],[]⟩)∧
 (∀p6:HP,Ig2 ⟨[],[],[],[],[],[p6],[]⟩→
 ∀_:Nat,Cl P 50 [.pp (s4 di b1 b2 b3 b4),.int .u8 (s4 di 1 1 0 0),.agg (.int .u8 x7::(.int .u8 (ae .u8 (ae .u16 (x1+1)))::(.int .u8 (ae .u8 (ax .shr .u16 (ae .u16 (x1+1)) 8))::(adH (al .u8 13 (fun _=>0)) ([]))))).toArray,.agg (.int .u8 (ae .u8 (ae .u16 (x1+1)))::(.int .u8 1::(adH (al .u8 30 (fun _=>0)) ([])))).toArray,.int .u64 x0] [(s4 di p1 p2 p3 p4)] fun x hs _=> ∃(v2 v3 v4:V1) (x8:Int),∃p7:HP,∃p8:HP,x= .tuple #[.agg #[v2.v,v3.v,v4.v],.int .i64 x8]∧hs=[p7,p8]∧
 aU (x8=0) (
 Cl P 101 [.pp b0,.int .i64 (s4 di 0 1 2 3),.agg #[v2.v,v3.v,v4.v]] [Fw b0 x0 b1 b2 b3 b4 v0.v (ae .u16 (x1+1)) b5 b6 v1.v b7 b8 (!(x2==0)),p6,p0,p7,p8] fun x hs _=> ∃(v5 v6:V1) (q0:Bool),∃p9:HP,∃l6:HP,x= .tuple #[]∧hs=[Fw b0 x0 b1 b2 b3 b4 v5.v (ae .u16 (x1+1)) b5 b6 v6.v b7 b8 q0,p9,l6,p7]∧
 ao (.tuple #[]) [Fw b0 x0 b1 b2 b3 b4 v5.v (ae .u16 (x1+1)) b5 b6 v6.v b7 b8 q0,p9,l6,(s4 di p7 p1 p1 p1),(s4 di p2 p7 p2 p2),(s4 di p3 p3 p7 p3),(s4 di p4 p4 p4 p7)]) (
 Cl P 101 [.pp b0,.int .i64 (s4 di 0 1 2 3),.agg #[.slice none 0 0,.slice none 0 0,.slice none 0 0]] [Fw b0 x0 b1 b2 b3 b4 v0.v (ae .u16 (x1+1)) b5 b6 v1.v b7 b8 (!(x2==0)),p6,p0,p7,p8] fun x hs _=> ∃(v5 v6:V1) (q0:Bool),∃p9:HP,∃l6:HP,x= .tuple #[]∧hs=[Fw b0 x0 b1 b2 b3 b4 v5.v (ae .u16 (x1+1)) b5 b6 v6.v b7 b8 q0,p9,l6,p7]∧
 ao (.tuple #[]) [Fw b0 x0 b1 b2 b3 b4 v5.v (ae .u16 (x1+1)) b5 b6 v6.v b7 b8 q0,p9,l6,(s4 di p7 p1 p1 p1),(s4 di p2 p7 p2 p2),(s4 di p3 p3 p7 p3),(s4 di p4 p4 p4 p7)]))) (
 aU (x4=1) (
 ∃Ig4:Ext→Prop,(∀(w:World) (Fs:List HP),bd ([Fl v0.v (ag x3) A0 A1 A2 A3 A4 A5 A6 A7 A8 A9 cm cZ]++Fs) w→∃p6:HP,bd ([p6]++Fs) w∧Ig4 ⟨[],[],[],[],[],[p6],[]⟩)∧
 (∀p6:HP,Ig4 ⟨[],[],[],[],[],[p6],[]⟩→
 Cl P 54 [.pp (s4 di b1 b2 b3 b4),.agg (.int .u8 (ae .u8 (ae .u16 (x1+1)))::(.int .u8 2::(.int .u8 (ae .u8 (ax .shr .u16 (ae .u16 (x1+1)) 8))::(adH (al .u8 29 (fun _=>0)) ([]))))).toArray,.int .u64 x0] [(s4 di p1 p2 p3 p4)] fun x hs _=> ∃(v2 v3 v4:V1) (x8:Int),∃p7:HP,∃p8:HP,x= .tuple #[.agg #[v2.v,v3.v,v4.v],.int .i64 x8]∧hs=[p7,p8]∧
 Cl P 101 [.pp b0,.int .i64 (s4 di 0 1 2 3),.agg #[v2.v,v3.v,v4.v]] [Fw b0 x0 b1 b2 b3 b4 v0.v (ae .u16 (x1+1)) b5 b6 v1.v b7 b8 (!(x2==0)),p6,p0,p7,p8] fun x hs _=> ∃(v5 v6:V1) (q0:Bool),∃p9:HP,∃l6:HP,x= .tuple #[]∧hs=[Fw b0 x0 b1 b2 b3 b4 v5.v (ae .u16 (x1+1)) b5 b6 v6.v b7 b8 q0,p9,l6,p7]∧
 ao (.tuple #[]) [Fw b0 x0 b1 b2 b3 b4 v5.v (ae .u16 (x1+1)) b5 b6 v6.v b7 b8 q0,p9,l6,(s4 di p7 p1 p1 p1),(s4 di p2 p7 p2 p2),(s4 di p3 p3 p7 p3),(s4 di p4 p4 p4 p7)])) (
 aU (x4=2) (
 Cl P 55 [.pp (s4 di b1 b2 b3 b4),.int .u64 x0] [(s4 di p1 p2 p3 p4)] fun x hs _=> ∃(v2 v3 v4:V1) (x8:Int),∃p6:HP,∃p7:HP,x= .tuple #[.agg #[v2.v,v3.v,v4.v],.int .i64 x8]∧hs=[p6,p7]∧
 ∃Ig6:Ext→Prop,(∀(w:World) (Fs:List HP),bd ([Fl v0.v (ag x3) A0 A1 A2 A3 A4 A5 A6 A7 A8 A9 cm cZ]++Fs) w→∃p8:HP,bd ([p8]++Fs) w∧Ig6 ⟨[],[],[],[],[],[p8],[]⟩)∧
 (∀p8:HP,Ig6 ⟨[],[],[],[],[],[p8],[]⟩→
 Cl P 101 [.pp b0,.int .i64 (s4 di 0 1 2 3),.agg #[v2.v,v3.v,v4.v]] [Fw b0 x0 b1 b2 b3 b4 v0.v x1 b5 b6 v1.v b7 b8 (!(x2==0)),p8,p0,p6,p7] fun x hs _=> ∃(v5 v6:V1) (q0:Bool),∃p9:HP,∃l6:HP,x= .tuple #[]∧hs=[Fw b0 x0 b1 b2 b3 b4 v5.v x1 b5 b6 v6.v b7 b8 q0,p9,l6,p6]∧
 ao (.tuple #[]) [Fw b0 x0 b1 b2 b3 b4 v5.v x1 b5 b6 v6.v b7 b8 q0,p9,l6,(s4 di p6 p1 p1 p1),(s4 di p2 p6 p2 p2),(s4 di p3 p3 p6 p3),(s4 di p4 p4 p4 p6)])) (
 aU (x4=3) (
 Cl P 56 [.pp (s4 di b1 b2 b3 b4),.int .u64 x0] [(s4 di p1 p2 p3 p4)] fun x hs _=> ∃(v2 v3 v4:V1) (x8:Int),∃p6:HP,∃p7:HP,x= .tuple #[.agg #[v2.v,v3.v,v4.v],.int .i64 x8]∧hs=[p6,p7]∧
 ∃Us:Ext→Prop,(∀(w:World) (Fs:List HP),bd ([Fl v0.v (ag x3) A0 A1 A2 A3 A4 A5 A6 A7 A8 A9 cm cZ]++Fs) w→∃p8:HP,bd ([p8]++Fs) w∧Us ⟨[],[],[],[],[],[p8],[]⟩)∧
 (∀p8:HP,Us ⟨[],[],[],[],[],[p8],[]⟩→
 Cl P 101 [.pp b0,.int .i64 (s4 di 0 1 2 3),.agg #[v2.v,v3.v,v4.v]] [Fw b0 x0 b1 b2 b3 b4 v0.v x1 b5 b6 v1.v b7 b8 (!(x2==0)),p8,p0,p6,p7] fun x hs _=> ∃(v5 v6:V1) (q0:Bool),∃p9:HP,∃l6:HP,x= .tuple #[]∧hs=[Fw b0 x0 b1 b2 b3 b4 v5.v x1 b5 b6 v6.v b7 b8 q0,p9,l6,p6]∧
 ao (.tuple #[]) [Fw b0 x0 b1 b2 b3 b4 v5.v x1 b5 b6 v6.v b7 b8 q0,p9,l6,(s4 di p6 p1 p1 p1),(s4 di p2 p6 p2 p2),(s4 di p3 p3 p6 p3),(s4 di p4 p4 p4 p6)])) (
 aU (x4=4) (
 aM (0≤x3) (
 aU (0<x3) (
 ur x6 ((
 aM (x3≠0) (
 Cl P 99 [.pp b0,.int .i64 (ax .rem .i64 x6 x3)] [Fw b0 x0 b1 b2 b3 b4 v0.v x1 b5 b6 v1.v b7 b8 (!(x2==0)),Fl v0.v (ag x3) A0 A1 A2 A3 A4 A5 A6 A7 A8 A9 cm cZ,p0,p1,p2,p3,p4] fun x hs _=> ∃(v2 v3:V1) (x8:Int),∃p6:HP,∃p7:HP,∃p8:HP,∃p9:HP,∃l6:HP,∃pf:HP,x= .tuple #[]∧hs=[Fw b0 x8 b1 b2 b3 b4 v2.v x1 b5 b6 v3.v b7 b8 false,p6,p7,p8,p9,l6,pf]∧
 ao (.tuple #[]) [Fw b0 x8 b1 b2 b3 b4 v2.v x1 b5 b6 v3.v b7 b8 false,p6,p7,p8,p9,l6,pf])))) (
 ao (.tuple #[]) [Fw b0 x0 b1 b2 b3 b4 v0.v x1 b5 b6 v1.v b7 b8 (!(x2==0)),Fl v0.v (ag x3) A0 A1 A2 A3 A4 A5 A6 A7 A8 A9 cm cZ,p0,p1,p2,p3,p4]))) (
 aU (x4=5) (
 aM (0≤x3) (
 aU (0<x3) (
 ur x6 ((
 aM (x3≠0) (
 aM (0≤(ax .rem .i64 x6 x3)) (
 aM ((ax .rem .i64 x6 x3)≤x3) (
 ur ((ax .rem .i64 x6 x3)+1) ((
 aM (0≤((ax .rem .i64 x6 x3)+1)) (
 aM (((ax .rem .i64 x6 x3)+1)≤x3) (
 aM (0≤(x3 - ((ax .rem .i64 x6 x3)+1))) (
 aM (0≤(x3 - ((ax .rem .i64 x6 x3)+1))) (
 aM ((((ax .rem .i64 x6 x3)+(x3 - ((ax .rem .i64 x6 x3)+1)))*104)≤140737488355328) (
 ∀v2:V1,ao (.tuple #[]) [Fw b0 x0 b1 b2 b3 b4 v2.v x1 b5 b6 v1.v b7 b8 (!(x2==0)),Fl v2.v (ag ((ax .rem .i64 x6 x3)+(x3 - ((ax .rem .i64 x6 x3)+1)))) (aW A0 (ag (ax .rem .i64 x6 x3)) (ag (x3 - ((ax .rem .i64 x6 x3)+1))) (aP A0 (ag ((ax .rem .i64 x6 x3)+1)))) (aW A1 (ag (ax .rem .i64 x6 x3)) (ag (x3 - ((ax .rem .i64 x6 x3)+1))) (aP A1 (ag ((ax .rem .i64 x6 x3)+1)))) (aW A2 (ag (ax .rem .i64 x6 x3)) (ag (x3 - ((ax .rem .i64 x6 x3)+1))) (aP A2 (ag ((ax .rem .i64 x6 x3)+1)))) (aW A3 (ag (ax .rem .i64 x6 x3)) (ag (x3 - ((ax .rem .i64 x6 x3)+1))) (aP A3 (ag ((ax .rem .i64 x6 x3)+1)))) (aW A4 (ag (ax .rem .i64 x6 x3)) (ag (x3 - ((ax .rem .i64 x6 x3)+1))) (aP A4 (ag ((ax .rem .i64 x6 x3)+1)))) (aW A5 (ag ((ax .rem .i64 x6 x3)*16)) (ag ((x3 - ((ax .rem .i64 x6 x3)+1))*16)) (aP A5 (ag (((ax .rem .i64 x6 x3)+1)*16)))) (aW A6 (ag (ax .rem .i64 x6 x3)) (ag (x3 - ((ax .rem .i64 x6 x3)+1))) (aP A6 (ag ((ax .rem .i64 x6 x3)+1)))) (aW A7 (ag (ax .rem .i64 x6 x3)) (ag (x3 - ((ax .rem .i64 x6 x3)+1))) (aP A7 (ag ((ax .rem .i64 x6 x3)+1)))) (aW A8 (ag (ax .rem .i64 x6 x3)) (ag (x3 - ((ax .rem .i64 x6 x3)+1))) (aP A8 (ag ((ax .rem .i64 x6 x3)+1)))) (aW A9 (ag ((ax .rem .i64 x6 x3)*32)) (ag ((x3 - ((ax .rem .i64 x6 x3)+1))*32)) (aP A9 (ag (((ax .rem .i64 x6 x3)+1)*32)))) (aW cm (ag (ax .rem .i64 x6 x3)) (ag (x3 - ((ax .rem .i64 x6 x3)+1))) (aP cm (ag ((ax .rem .i64 x6 x3)+1)))) (aW cZ (ag (ax .rem .i64 x6 x3)) (ag (x3 - ((ax .rem .i64 x6 x3)+1))) (aP cZ (ag ((ax .rem .i64 x6 x3)+1)))),p0,p1,p2,p3,p4]))))))))))))) (
 ao (.tuple #[]) [Fw b0 x0 b1 b2 b3 b4 v0.v x1 b5 b6 v1.v b7 b8 (!(x2==0)),Fl v0.v (ag x3) A0 A1 A2 A3 A4 A5 A6 A7 A8 A9 cm cZ,p0,p1,p2,p3,p4]))) (
 ∃Vs:Ext→Prop,(∀(w:World) (Fs:List HP),bd ([Fl v0.v (ag x3) A0 A1 A2 A3 A4 A5 A6 A7 A8 A9 cm cZ]++Fs) w→∃p6:HP,bd ([p6]++Fs) w∧Vs ⟨[],[],[],[],[],[p6],[]⟩)∧
 (∀p6:HP,Vs ⟨[],[],[],[],[],[p6],[]⟩→
 aU (x4=6) (
 Cl P 100 [.pp b0,.int .u64 (ae .u64 (ax .rem .u16 x6 100))] [Fw b0 x0 b1 b2 b3 b4 v0.v x1 b5 b6 v1.v b7 b8 (!(x2==0)),p6,p0,p1,p2,p3,p4] fun x hs _=> ∃(v2 v3:V1) (x8:Int),∃p7:HP,∃p8:HP,∃p9:HP,∃l6:HP,∃pf:HP,∃sU:HP,x= .tuple #[]∧hs=[Fw b0 x8 b1 b2 b3 b4 v2.v x1 b5 b6 v3.v b7 b8 false,p7,p8,p9,l6,pf,sU]∧
 ao (.tuple #[]) [Fw b0 x8 b1 b2 b3 b4 v2.v x1 b5 b6 v3.v b7 b8 false,p7,p8,p9,l6,pf,sU]) (
 Cl P 101 [.pp b0,.int .i64 (s4 di 0 1 2 3),.agg #[.slice none 0 0,.slice none 0 0,.slice none 0 0]] [Fw b0 x0 b1 b2 b3 b4 v0.v x1 b5 b6 v1.v b7 b8 (!(x2==0)),p6,p0,(s4 di p1 p2 p3 p4)] fun x hs _=> ∃(v2 v3:V1) (q0:Bool),∃p7:HP,∃p8:HP,x= .tuple #[]∧hs=[Fw b0 x0 b1 b2 b3 b4 v2.v x1 b5 b6 v3.v b7 b8 q0,p7,p8,(s4 di p1 p2 p3 p4)]∧
 ao (.tuple #[]) [Fw b0 x0 b1 b2 b3 b4 v2.v x1 b5 b6 v3.v b7 b8 q0,p7,p8,p1,p2,p3,p4])))))))))))
theorem M3(P:Program)(ao:Value→List HP→Prop)(x0 x1 x2 x3 x4 x5 x6 x7:Int)(A0 A1 A2 A3 A4 A5 A6 A7 A8 A9 cm cZ:Nat→Int)(v0 v1:V1)(b0 b1 b2 b3 b4 b5 b6 b7 b8:Nat)(p0 p1 p2 p3 p4 p5:HP)(L:Nat→LC):VC P (fun v hs=>ao v (hs.take 7)) (cC (cx 0) 60 (vY 0) (C1 0) El Try.f60) {iv:=[x0,x1,x2,x3,x4,x5,x6,x7],av:=[A0,A1,A2,A3,A4,A5,A6,A7,A8,A9,cm,cZ],bo:=[],bv:=[b0,b1,b2,b3,b4,b5,b6,b7,b8],vv:=[v0,v1],pv:=[p0,p1,p2,p3,p4,p5]} L=qR 0 P ao x0 x1 x2 x3 x4 x5 x6 x7 A0 A1 A2 A3 A4 A5 A6 A7 A8 A9 cm cZ v0 v1 b0 b1 b2 b3 b4 b5 b6 b7 b8 p0 p1 p2 p3 p4 p5:=by kernel_rfl
theorem M4(P:Program)(ao:Value→List HP→Prop)(x0 x1 x2 x3 x4 x5 x6 x7:Int)(A0 A1 A2 A3 A4 A5 A6 A7 A8 A9 cm cZ:Nat→Int)(v0 v1:V1)(b0 b1 b2 b3 b4 b5 b6 b7 b8:Nat)(p0 p1 p2 p3 p4 p5:HP)(L:Nat→LC):VC P (fun v hs=>ao v (hs.take 7)) (cC (cx 1) 60 (vY 1) (C1 1) El Try.f60) {iv:=[x0,x1,x2,x3,x4,x5,x6,x7],av:=[A0,A1,A2,A3,A4,A5,A6,A7,A8,A9,cm,cZ],bo:=[],bv:=[b0,b1,b2,b3,b4,b5,b6,b7,b8],vv:=[v0,v1],pv:=[p0,p1,p2,p3,p4,p5]} L=qR 1 P ao x0 x1 x2 x3 x4 x5 x6 x7 A0 A1 A2 A3 A4 A5 A6 A7 A8 A9 cm cZ v0 v1 b0 b1 b2 b3 b4 b5 b6 b7 b8 p0 p1 p2 p3 p4 p5:=by kernel_rfl
theorem M5(P:Program)(ao:Value→List HP→Prop)(x0 x1 x2 x3 x4 x5 x6 x7:Int)(A0 A1 A2 A3 A4 A5 A6 A7 A8 A9 cm cZ:Nat→Int)(v0 v1:V1)(b0 b1 b2 b3 b4 b5 b6 b7 b8:Nat)(p0 p1 p2 p3 p4 p5:HP)(L:Nat→LC):VC P (fun v hs=>ao v (hs.take 7)) (cC (cx 2) 60 (vY 2) (C1 2) El Try.f60) {iv:=[x0,x1,x2,x3,x4,x5,x6,x7],av:=[A0,A1,A2,A3,A4,A5,A6,A7,A8,A9,cm,cZ],bo:=[],bv:=[b0,b1,b2,b3,b4,b5,b6,b7,b8],vv:=[v0,v1],pv:=[p0,p1,p2,p3,p4,p5]} L=qR 2 P ao x0 x1 x2 x3 x4 x5 x6 x7 A0 A1 A2 A3 A4 A5 A6 A7 A8 A9 cm cZ v0 v1 b0 b1 b2 b3 b4 b5 b6 b7 b8 p0 p1 p2 p3 p4 p5:=by kernel_rfl
theorem M6(P:Program)(ao:Value→List HP→Prop)(x0 x1 x2 x3 x4 x5 x6 x7:Int)(A0 A1 A2 A3 A4 A5 A6 A7 A8 A9 cm cZ:Nat→Int)(v0 v1:V1)(b0 b1 b2 b3 b4 b5 b6 b7 b8:Nat)(p0 p1 p2 p3 p4 p5:HP)(L:Nat→LC):VC P (fun v hs=>ao v (hs.take 7)) (cC (cx 3) 60 (vY 3) (C1 3) El Try.f60) {iv:=[x0,x1,x2,x3,x4,x5,x6,x7],av:=[A0,A1,A2,A3,A4,A5,A6,A7,A8,A9,cm,cZ],bo:=[],bv:=[b0,b1,b2,b3,b4,b5,b6,b7,b8],vv:=[v0,v1],pv:=[p0,p1,p2,p3,p4,p5]} L=qR 3 P ao x0 x1 x2 x3 x4 x5 x6 x7 A0 A1 A2 A3 A4 A5 A6 A7 A8 A9 cm cZ v0 v1 b0 b1 b2 b3 b4 b5 b6 b7 b8 p0 p1 p2 p3 p4 p5:=by kernel_rfl
theorem P4(di:Nat)(hd:di<4)(ao:Value→List HP→Prop)(x0 x1 x2 x3 x4 x5 x6 x7:Int)(A0 A1 A2 A3 A4 A5 A6 A7 A8 A9 cm cZ:Nat→Int)(v0 v1:V1)(b0 b1 b2 b3 b4 b5 b6 b7 b8:Nat)(p0 p1 p2 p3 p4 p5:HP)(h:qR di adY ao x0 x1 x2 x3 x4 x5 x6 x7 A0 A1 A2 A3 A4 A5 A6 A7 A8 A9 cm cZ v0 v1 b0 b1 b2 b3 b4 b5 b6 b7 b8 p0 p1 p2 p3 p4 p5):aq adY 60 [.pp b0,.agg #[.int .u8 x4,.int .u8 x5,.int .u16 x6,.int .u8 x7]] [Fw b0 x0 b1 b2 b3 b4 v0.v x1 b5 b6 v1.v b7 b8 (!(x2==0)),Fl v0.v (ag x3) A0 A1 A2 A3 A4 A5 A6 A7 A8 A9 cm cZ,p0,p1,p2,p3,p4] ao:=by
 match di,hd,h with
 | 0,hd,h=>exact aq.post (aq.fH (C:=(cx 0)) (aQ:=El) (ρ:={iv:=[x0,x1,x2,x3,x4,x5,x6,x7],av:=[A0,A1,A2,A3,A4,A5,A6,A7,A8,A9,cm,cZ],bo:=[],bv:=[b0,b1,b2,b3,b4,b5,b6,b7,b8],vv:=[v0,v1],pv:=[p0,p1,p2,p3,p4,p5]}) pA gw pB Try.func60 (by constructor<;>rfl) (ao:=(fun v hs=>ao v (hs.take 7))) (args:=vY 0) (hp:=C1 0) rfl (M3 adY ao x0 x1 x2 x3 x4 x5 x6 x7 A0 A1 A2 A3 A4 A5 A6 A7 A8 A9 cm cZ v0 v1 b0 b1 b2 b3 b4 b5 b6 b7 b8 p0 p1 p2 p3 p4 p5 (fun _=>LC.none)) h) fun _ hs hq=>⟨_,aD.sub (aem 7 hs),hq⟩
 | 1,hd,h=>exact aq.post (aq.fH (C:=(cx 1)) (aQ:=El) (ρ:={iv:=[x0,x1,x2,x3,x4,x5,x6,x7],av:=[A0,A1,A2,A3,A4,A5,A6,A7,A8,A9,cm,cZ],bo:=[],bv:=[b0,b1,b2,b3,b4,b5,b6,b7,b8],vv:=[v0,v1],pv:=[p0,p1,p2,p3,p4,p5]}) pA gw pB Try.func60 (by constructor<;>rfl) (ao:=(fun v hs=>ao v (hs.take 7))) (args:=vY 1) (hp:=C1 1) rfl (M4 adY ao x0 x1 x2 x3 x4 x5 x6 x7 A0 A1 A2 A3 A4 A5 A6 A7 A8 A9 cm cZ v0 v1 b0 b1 b2 b3 b4 b5 b6 b7 b8 p0 p1 p2 p3 p4 p5 (fun _=>LC.none)) h) fun _ hs hq=>⟨_,aD.sub (aem 7 hs),hq⟩
 | 2,hd,h=>exact aq.post (aq.fH (C:=(cx 2)) (aQ:=El) (ρ:={iv:=[x0,x1,x2,x3,x4,x5,x6,x7],av:=[A0,A1,A2,A3,A4,A5,A6,A7,A8,A9,cm,cZ],bo:=[],bv:=[b0,b1,b2,b3,b4,b5,b6,b7,b8],vv:=[v0,v1],pv:=[p0,p1,p2,p3,p4,p5]}) pA gw pB Try.func60 (by constructor<;>rfl) (ao:=(fun v hs=>ao v (hs.take 7))) (args:=vY 2) (hp:=C1 2) rfl (M5 adY ao x0 x1 x2 x3 x4 x5 x6 x7 A0 A1 A2 A3 A4 A5 A6 A7 A8 A9 cm cZ v0 v1 b0 b1 b2 b3 b4 b5 b6 b7 b8 p0 p1 p2 p3 p4 p5 (fun _=>LC.none)) h) fun _ hs hq=>⟨_,aD.sub (aem 7 hs),hq⟩
 | 3,hd,h=>exact aq.post (aq.fH (C:=(cx 3)) (aQ:=El) (ρ:={iv:=[x0,x1,x2,x3,x4,x5,x6,x7],av:=[A0,A1,A2,A3,A4,A5,A6,A7,A8,A9,cm,cZ],bo:=[],bv:=[b0,b1,b2,b3,b4,b5,b6,b7,b8],vv:=[v0,v1],pv:=[p0,p1,p2,p3,p4,p5]}) pA gw pB Try.func60 (by constructor<;>rfl) (ao:=(fun v hs=>ao v (hs.take 7))) (args:=vY 3) (hp:=C1 3) rfl (M6 adY ao x0 x1 x2 x3 x4 x5 x6 x7 A0 A1 A2 A3 A4 A5 A6 A7 A8 A9 cm cZ v0 v1 b0 b1 b2 b3 b4 b5 b6 b7 b8 p0 p1 p2 p3 p4 p5 (fun _=>LC.none)) h) fun _ hs hq=>⟨_,aD.sub (aem 7 hs),hq⟩
end Go.RX.Dk
