/- Counters. -/
import Derived.Test.YtmgbbbmdbpbeeaaGreatM24
open Go.IntKind renaming u8 → afc, wrap → ae
open Int renaming toNat → ag
open List renaming append → aeU
namespace Go.RX.Fg
open Go.RX Go.Proofs Go.RX.Fe
noncomputable def cx:Ctx:={T:=TT,FT:=FT,loops:=loops,cq:=cq}
set_option maxRecDepth 100000
noncomputable def Ie:F:=iq cx 87 ([SV.agg [SV.cE (afc) 16 (E.aL 0)]]) ([]) ({b:=0,v:=0,i:=0,a:=1,bo:=0,p:=0,r:=0}) Tryz.f87
def rW(_:Program)(ar:Value→List HP→Prop)(A0:Nat→Int):Prop:=
 ∀_:Nat,∀_:Nat,aR (¬((ae .u8 ((A0 15)+1))=0)) (
 ar (.agg (aeU (al .u8 15 A0) ([.int .u8 (ae .u8 ((A0 15)+1))])).toArray) []) (
 aR (¬((ae .u8 ((A0 14)+1))=0)) (
 ar (.agg (aeU (al .u8 14 A0) ([.int .u8 (ae .u8 ((A0 14)+1)),.int .u8 (ae .u8 ((A0 15)+1))])).toArray) []) (
 aR (¬((ae .u8 ((A0 13)+1))=0)) (
 ar (.agg (aeU (al .u8 13 A0) ([.int .u8 (ae .u8 ((A0 13)+1)),.int .u8 (ae .u8 ((A0 14)+1)),.int .u8 (ae .u8 ((A0 15)+1))])).toArray) []) (
 aR (¬((ae .u8 ((A0 12)+1))=0)) (
 ar (.agg (aeU (al .u8 12 A0) ([.int .u8 (ae .u8 ((A0 12)+1)),.int .u8 (ae .u8 ((A0 13)+1)),.int .u8 (ae .u8 ((A0 14)+1)),.int .u8 (ae .u8 ((A0 15)+1))])).toArray) []) (
 ar (.agg (aeU (al .u8 12 A0) ([.int .u8 (ae .u8 ((A0 12)+1)),.int .u8 (ae .u8 ((A0 13)+1)),.int .u8 (ae .u8 ((A0 14)+1)),.int .u8 (ae .u8 ((A0 15)+1))])).toArray) []))))
theorem Qy(P:Program)(ar:Value→List HP→Prop)(A0:Nat→Int)(L:Nat→LC):VC P (fun v _=>ar v []) Ie {iv:=[],av:=[A0],bo:=[],bv:=[],vv:=[]} L=rW P ar A0:=by kernel_rfl
theorem M5:iq cx 87 ([SV.agg [SV.cE (afc) 16 (E.aL 0)]]) ([]) ({b:=0,v:=0,i:=0,a:=1,bo:=0,p:=0,r:=0}) Tryz.f87=Ie:=rfl
noncomputable def Ig:F:=iq cx 62 ([SV.ptr 0 0,SV.agg [SV.cE (afc) 16 (E.aL 2)],SV.sl 1 (E.lit 0) 1 (E.lit 1) (E.lit 1)]) ([Ck.row 0 true [SV.cE (afc) 256 (E.aL 0),SV.vv 0],Ck.bC true 0 177 4 (E.var 0) [{ck:=CK.int (afc),w:=4,a:=E.aL 1}],Ck.row 1 true [SV.vv 1],Ck.bC false 1 5 1 (E.var 1) [{ck:=CK.int (afc),w:=1,a:=E.aL 3}]]) ({b:=2,v:=2,i:=2,a:=4,bo:=0,p:=0,r:=0}) Tryz.f62
def rX(P:Program)(ar:Value→List HP→Prop)(x0:Int)(x1:Int)(A0:Nat→Int)(A1:Nat→Int)(A2:Nat→Int)(A3:Nat→Int)(v0:V1)(v1:V1)(b0:Nat)(b1:Nat):Prop:=
 ∀b2:Nat,∀b3:Nat,ao (0≤x1) (
 ao (0≤x1) (
 ao (x1≤140737488355328) (
 ∀v2:V1,∀_:Nat,∀_:Nat,∀_:Nat,∀(_ _:Nat) (_:Loop),∃(bE:Ext→Prop) (bL:Ext→Nat),(∃x2:Int,∃A4:(Nat→Int),∃A5:(Nat→Int),(∀j,j<(ag x1)→A5 j=A3 j)∧x2=0∧(∀j,j<16→A4 j=A2 j)∧bE ⟨[],[],[x2],[A4,A5],[],[],[]⟩)∧
 ∀x2:Int,∀A4:(Nat→Int),∀A5:(Nat→Int),bE ⟨[],[],[x2],[A4,A5],[],[],[]⟩→
 ∃post,aw P 112 [.pointer (some ⟨b0,0,none⟩),.agg (aeU (al .u8 16 A4) ([])).toArray] [ax b0 true (aeU (al .u8 256 A0) ([v0.v])),aE true 177 4 v0.v (ag x0) (aQ (ag x0) [aO .u8 4 A1])] post∧
 ∀x hs,post x hs→∃A6:(Nat→Int),x= .agg (aeU (al .u8 16 A6) ([])).toArray∧hs=[ax b0 true (aeU (al .u8 256 A0) ([v0.v])),aE true 177 4 v0.v (ag x0) (aQ (ag x0) [aO .u8 4 A1])]∧
 ∀_:Nat,∃(TD:Ext→Prop) (V9:Ext→Nat),(∃x3:Int,∃x4:Int,∃A7:(Nat→Int),x3=0∧(∀j,j<(ag x1)→A7 j=A5 j)∧x4=x2∧TD ⟨[],[],[x3,x4],[A7],[],[],[]⟩)∧
 ∀x3:Int,∀x4:Int,∀A7:(Nat→Int),TD ⟨[],[],[x3,x4],[A7],[],[],[]⟩→
 ao ((¬(x3<16))∨(0≤x1)) (
 aR ((x3<16)∧(x4<x1)) (
 ao (0≤x4) (
 ao (x4<x1) (
 ao (0≤x3) (
 ao (x3<16) (
 ao ((-9223372036854775808)≤(x4+1)) (
 ao ((x4+1)≤9223372036854775807) (
 ao ((-9223372036854775808)≤(x3+1)) (
 ao ((x3+1)≤9223372036854775807) (
 ∃dt:Int,∃dc:Int,∃Sw:(Nat→Int),dt=(x3+1)∧(∀j,j<(ag x1)→Sw j=(aq A7 (ag x4) (ak .ay .u8 (A7 (ag x4)) (A6 (ag x3)))) j)∧dc=(x4+1)∧TD ⟨[],[],[dt,dc],[Sw],[],[],[]⟩∧V9 ⟨[],[],[dt,dc],[Sw],[],[],[]⟩<V9 ⟨[],[],[x3,x4],[A7],[],[],[]⟩))))))))) (
 ao (0≤x1) (
 aR (x4=x1) (
 ar (.tuple #[v2.v,.int .i64 0]) [ax b0 true (aeU (al .u8 256 A0) ([v0.v])),aE true 177 4 v0.v (ag x0) (aQ (ag x0) [aO .u8 4 A1]),ax b1 true ([v1.v]),aE false 5 1 v1.v (ag x1) (aQ (ag x1) [aO .u8 1 A3]),ax b2 true (aeU (al .u8 16 A2) ([])),ax b3 true ([v2.v]),aE true 5 1 v2.v (ag x1) (aQ (ag x1) [aO .u8 1 A7])]) (
 ∃post,aw P 87 [.agg (aeU (al .u8 16 A4) ([])).toArray] [] post∧
 ∀x hs,post x hs→∃A8:(Nat→Int),x= .agg (aeU (al .u8 16 A8) ([])).toArray∧hs=[]∧
 ∃cf:Int,∃oR:(Nat→Int),∃qX:(Nat→Int),(∀j,j<(ag x1)→qX j=A7 j)∧cf=x4∧(∀j,j<16→oR j=A8 j)∧bE ⟨[],[],[cf],[oR,qX],[],[],[]⟩∧bL ⟨[],[],[cf],[oR,qX],[],[],[]⟩<bL ⟨[],[],[x2],[A4,A5],[],[],[]⟩)))))))
theorem Qz(P:Program)(ar:Value→List HP→Prop)(x0:Int)(x1:Int)(A0:Nat→Int)(A1:Nat→Int)(A2:Nat→Int)(A3:Nat→Int)(v0:V1)(v1:V1)(b0:Nat)(b1:Nat)(L:Nat→LC):VC P (fun v hs=>ar v (hs.take 7)) Ig {iv:=[x0,x1],av:=[A0,A1,A2,A3],bo:=[],bv:=[b0,b1],vv:=[v0,v1]} L=rX P ar x0 x1 A0 A1 A2 A3 v0 v1 b0 b1:=by kernel_rfl
theorem M6:iq cx 62 ([SV.ptr 0 0,SV.agg [SV.cE (afc) 16 (E.aL 2)],SV.sl 1 (E.lit 0) 1 (E.lit 1) (E.lit 1)]) ([Ck.row 0 true [SV.cE (afc) 256 (E.aL 0),SV.vv 0],Ck.bC true 0 177 4 (E.var 0) [{ck:=CK.int (afc),w:=4,a:=E.aL 1}],Ck.row 1 true [SV.vv 1],Ck.bC false 1 5 1 (E.var 1) [{ck:=CK.int (afc),w:=1,a:=E.aL 3}]]) ({b:=2,v:=2,i:=2,a:=4,bo:=0,p:=0,r:=0}) Tryz.f62=Ig:=rfl
end Go.RX.Fg

namespace Go.RX.Fe
open Go.RX Go.Proofs
noncomputable def cx:Ctx:={T:=TT,FT:=FT,loops:=loops,cq:=cq}
set_option maxRecDepth 100000
noncomputable def Ih:F:=iq cx 113 ([]) ([]) ({b:=0,v:=0,i:=0,a:=0,bo:=0,p:=0,r:=0}) Tryz.f113
def Ii(_:Program)(ar:Value→List HP→Prop):Prop:=
 ∀_:Nat,∀_:Nat,∃(bE:Ext→Prop) (bL:Ext→Nat),(∃x0:Int,∃x1:Int,∃A0:(Nat→Int),∃A1:(Nat→Int),x0=0∧x1=1∧(∀j,j<255→A0 j=(fun _=>0) j)∧(∀j,j<256→A1 j=(fun _=>0) j)∧bE ⟨[],[],[x0,x1],[A0,A1],[],[],[]⟩)∧
 ∀x0:Int,∀x1:Int,∀A0:(Nat→Int),∀A1:(Nat→Int),bE ⟨[],[],[x0,x1],[A0,A1],[],[],[]⟩→
 aR (x0<255) (
 ao (0≤x0) (
 ao (0≤x1) (
 ao (x1<256) (
 ao ((-9223372036854775808)≤(x0+1)) (
 ao ((x0+1)≤9223372036854775807) (
 ∃eH:Int,∃cm:Int,∃AZ:(Nat→Int),∃qW:(Nat→Int),eH=(x0+1)∧cm=(ak .ay .u8 x1 (ak .ay .u8 (ak .shl .u8 x1 1) (ae .u8 ((ak .shr .u8 x1 7)*27))))∧(∀j,j<255→AZ j=(aq A0 (ag x0) x1) j)∧(∀j,j<256→qW j=(aq A1 (ag x1) x0) j)∧bE ⟨[],[],[eH,cm],[AZ,qW],[],[],[]⟩∧bL ⟨[],[],[eH,cm],[AZ,qW],[],[],[]⟩<bL ⟨[],[],[x0,x1],[A0,A1],[],[],[]⟩)))))) (
 ar (.tuple #[.agg (aeU (al .u8 255 A0) ([])).toArray,.agg (aeU (al .i64 256 A1) ([])).toArray]) [])
theorem QA(P:Program)(ar:Value→List HP→Prop)(L:Nat→LC):VC P (fun v _=>ar v []) Ih {iv:=[],av:=[],bo:=[],bv:=[],vv:=[]} L=Ii P ar:=by kernel_rfl
theorem M7:iq cx 113 ([]) ([]) ({b:=0,v:=0,i:=0,a:=0,bo:=0,p:=0,r:=0}) Tryz.f113=Ih:=rfl
noncomputable def M8:F:=iq cx 90 ([]) ([]) ({b:=0,v:=0,i:=0,a:=0,bo:=0,p:=0,r:=0}) Tryz.f90
def wQ(P:Program)(ar:Value→List HP→Prop):Prop:=
 ∀_:Nat,∃post,aw P 113 [] [] post∧
 ∀x hs,post x hs→∃A0:(Nat→Int),∃A1:(Nat→Int),x= .tuple #[.agg (aeU (al .u8 255 A0) ([])).toArray,.agg (aeU (al .i64 256 A1) ([])).toArray]∧hs=[]∧
 ∀_:Nat,∀_:Nat,∀_:Nat,∃(bE:Ext→Prop) (bL:Ext→Nat),(∃x0:Int,∃A2:(Nat→Int),x0=0∧(∀j,j<256→A2 j=(fun _=>0) j)∧bE ⟨[],[],[x0],[A2],[],[],[]⟩)∧
 ∀x0:Int,∀A2:(Nat→Int),bE ⟨[],[],[x0],[A2],[],[],[]⟩→
 aR (x0<256) (
 aR (0<x0) (
 ao (0≤x0) (
 ao ((-9223372036854775808)≤(255 - (A1 (ag x0)))) (
 ao ((255 - (A1 (ag x0)))≤9223372036854775807) (
 ao (0≤(ak .rem .i64 (255 - (A1 (ag x0))) 255)) (
 ao ((ak .rem .i64 (255 - (A1 (ag x0))) 255)<255) (
 ao ((-9223372036854775808)≤(x0+1)) (
 ao ((x0+1)≤9223372036854775807) (
 ∃eH:Int,∃dT:(Nat→Int),eH=(x0+1)∧(∀j,j<256→dT j=(aq A2 (ag x0) (ak .ay .u8 (ak .ay .u8 (ak .ay .u8 (ak .ay .u8 (ak .ay .u8 99 (A0 (ag (ak .rem .i64 (255 - (A1 (ag x0))) 255)))) (ak .bR .u8 (ak .shl .u8 (A0 (ag (ak .rem .i64 (255 - (A1 (ag x0))) 255))) 1) (ak .shr .u8 (A0 (ag (ak .rem .i64 (255 - (A1 (ag x0))) 255))) 7))) (ak .bR .u8 (ak .shl .u8 (ak .bR .u8 (ak .shl .u8 (A0 (ag (ak .rem .i64 (255 - (A1 (ag x0))) 255))) 1) (ak .shr .u8 (A0 (ag (ak .rem .i64 (255 - (A1 (ag x0))) 255))) 7)) 1) (ak .shr .u8 (ak .bR .u8 (ak .shl .u8 (A0 (ag (ak .rem .i64 (255 - (A1 (ag x0))) 255))) 1) (ak .shr .u8 (A0 (ag (ak .rem .i64 (255 - (A1 (ag x0))) 255))) 7)) 7))) (ak .bR .u8 (ak .shl .u8 (ak .bR .u8 (ak .shl .u8 (ak .bR .u8 (ak .shl .u8 (A0 (ag (ak .rem .i64 (255 - (A1 (ag x0))) 255))) 1) (ak .shr .u8 (A0 (ag (ak .rem .i64 (255 - (A1 (ag x0))) 255))) 7)) 1) (ak .shr .u8 (ak .bR .u8 (ak .shl .u8 (A0 (ag (ak .rem .i64 (255 - (A1 (ag x0))) 255))) 1) (ak .shr .u8 (A0 (ag (ak .rem .i64 (255 - (A1 (ag x0))) 255))) 7)) 7)) 1) (ak .shr .u8 (ak .bR .u8 (ak .shl .u8 (ak .bR .u8 (ak .shl .u8 (A0 (ag (ak .rem .i64 (255 - (A1 (ag x0))) 255))) 1) (ak .shr .u8 (A0 (ag (ak .rem .i64 (255 - (A1 (ag x0))) 255))) 7)) 1) (ak .shr .u8 (ak .bR .u8 (ak .shl .u8 (A0 (ag (ak .rem .i64 (255 - (A1 (ag x0))) 255))) 1) (ak .shr .u8 (A0 (ag (ak .rem .i64 (255 - (A1 (ag x0))) 255))) 7)) 7)) 7))) (ak .bR .u8 (ak .shl .u8 (ak .bR .u8 (ak .shl .u8 (ak .bR .u8 (ak .shl .u8 (ak .bR .u8 (ak .shl .u8 (A0 (ag (ak .rem .i64 (255 - (A1 (ag x0))) 255))) 1) (ak .shr .u8 (A0 (ag (ak .rem .i64 (255 - (A1 (ag x0))) 255))) 7)) 1) (ak .shr .u8 (ak .bR .u8 (ak .shl .u8 (A0 (ag (ak .rem .i64 (255 - (A1 (ag x0))) 255))) 1) (ak .shr .u8 (A0 (ag (ak .rem .i64 (255 - (A1 (ag x0))) 255))) 7)) 7)) 1) (ak .shr .u8 (ak .bR .u8 (ak .shl .u8 (ak .bR .u8 (ak .shl .u8 (A0 (ag (ak .rem .i64 (255 - (A1 (ag x0))) 255))) 1) (ak .shr .u8 (A0 (ag (ak .rem .i64 (255 - (A1 (ag x0))) 255))) 7)) 1) (ak .shr .u8 (ak .bR .u8 (ak .shl .u8 (A0 (ag (ak .rem .i64 (255 - (A1 (ag x0))) 255))) 1) (ak .shr .u8 (A0 (ag (ak .rem .i64 (255 - (A1 (ag x0))) 255))) 7)) 7)) 7)) 1) (ak .shr .u8 (ak .bR .u8 (ak .shl .u8 (ak .bR .u8 (ak .shl .u8 (ak .bR .u8 (ak .shl .u8 (A0 (ag (ak .rem .i64 (255 - (A1 (ag x0))) 255))) 1) (ak .shr .u8 (A0 (ag (ak .rem .i64 (255 - (A1 (ag x0))) 255))) 7)) 1) (ak .shr .u8 (ak .bR .u8 (ak .shl .u8 (A0 (ag (ak .rem .i64 (255 - (A1 (ag x0))) 255))) 1) (ak .shr .u8 (A0 (ag (ak .rem .i64 (255 - (A1 (ag x0))) 255))) 7)) 7)) 1) (ak .shr .u8 (ak .bR .u8 (ak .shl .u8 (ak .bR .u8 (ak .shl .u8 (A0 (ag (ak .rem .i64 (255 - (A1 (ag x0))) 255))) 1) (ak .shr .u8 (A0 (ag (ak .rem .i64 (255 - (A1 (ag x0))) 255))) 7)) 1) (ak .shr .u8 (ak .bR .u8 (ak .shl .u8 (A0 (ag (ak .rem .i64 (255 - (A1 (ag x0))) 255))) 1) (ak .shr .u8 (A0 (ag (ak .rem .i64 (255 - (A1 (ag x0))) 255))) 7)) 7)) 7)) 7)))) j)∧bE ⟨[],[],[eH],[dT],[],[],[]⟩∧bL ⟨[],[],[eH],[dT],[],[],[]⟩<bL ⟨[],[],[x0],[A2],[],[],[]⟩)))))))) (
 ao (0≤x0) (
 ao ((-9223372036854775808)≤(x0+1)) (
 ao ((x0+1)≤9223372036854775807) (
 ∃eH:Int,∃dT:(Nat→Int),eH=(x0+1)∧(∀j,j<256→dT j=(aq A2 (ag x0) 99) j)∧bE ⟨[],[],[eH],[dT],[],[],[]⟩∧bL ⟨[],[],[eH],[dT],[],[],[]⟩<bL ⟨[],[],[x0],[A2],[],[],[]⟩))))) (
 ar (.agg (aeU (al .u8 256 A2) ([])).toArray) [])
theorem TE(P:Program)(ar:Value→List HP→Prop)(L:Nat→LC):VC P (fun v _=>ar v []) M8 {iv:=[],av:=[],bo:=[],bv:=[],vv:=[]} L=wQ P ar:=by kernel_rfl
theorem QB:iq cx 90 ([]) ([]) ({b:=0,v:=0,i:=0,a:=0,bo:=0,p:=0,r:=0}) Tryz.f90=M8:=rfl
noncomputable def En:F:=iq cx 60 ([SV.vv 0]) ([Ck.bC false 0 5 1 (E.lit 16) [{ck:=CK.int (afc),w:=1,a:=E.aL 0}]]) ({b:=0,v:=1,i:=0,a:=1,bo:=0,p:=0,r:=0}) Tryz.f60
def Eo(P:Program)(ar:Value→List HP→Prop)(A0:Nat→Int)(v0:V1):Prop:=
 ∃post,aw P 90 [] [] post∧
 ∀x hs,post x hs→∃A1:(Nat→Int),x= .agg (aeU (al .u8 256 A1) ([])).toArray∧hs=[]∧
 ∀b0:Nat,∃(bE:Ext→Prop) (bL:Ext→Nat),(∃v2:V1,∃x0:Int,∃x1:Int,∃A2:(Nat→Int),x0=0∧x1=1∧v2=(⟨.slice none 0 0,rfl⟩:V1)∧v2=(⟨.slice none 0 0,rfl⟩:V1)∧x0=0∧(∀j,j<(ag (x0*4))→A2 j=(fun _=>0) j)∧bE ⟨[],[v2],[x0,x1],[A2],[],[],[]⟩)∧
 ∀v2:V1,∀x0:Int,∀x1:Int,∀A2:(Nat→Int),bE ⟨[],[v2],[x0,x1],[A2],[],[],[]⟩→
 aR (x0<44) (
 aR (x0<4) (
 ao ((-9223372036854775808)≤(4*x0)) (
 ao ((4*x0)≤9223372036854775807) (
 ao ((-9223372036854775808)≤((4*x0)+4)) (
 ao (((4*x0)+4)≤9223372036854775807) (
 ao (0≤(4*x0)) (
 ao ((4*x0)≤((4*x0)+4)) (
 ao (((4*x0)+4)≤16) (
 ao (4≤(((4*x0)+4) - (4*x0))) (
 ∀_:Nat,ao (0≤x0) (
 ao (((x0+1)*4)≤140737488355328) (
 ∀v3:V1,ao ((-9223372036854775808)≤(x0+1)) (
 ao ((x0+1)≤9223372036854775807) (
 ∃oc:V1,∃eH:Int,∃cm:Int,∃dT:(Nat→Int),eH=(x0+1)∧cm=x1∧oc=v3∧oc=v3∧eH=(x0+1)∧(∀j,j<(ag (eH*4))→dT j=(aI A2 (ag (x0*4)) 4 (aA A0 (ag (4*x0)))) j)∧bE ⟨[],[oc],[eH,cm],[dT],[],[],[]⟩∧bL ⟨[],[oc],[eH,cm],[dT],[],[],[]⟩<bL ⟨[],[v2],[x0,x1],[A2],[],[],[]⟩))))))))))))) (
 ao ((-9223372036854775808)≤(x0 - 1)) (
 ao ((x0 - 1)≤9223372036854775807) (
 ao (0≤(x0 - 1)) (
 ao ((x0 - 1)<x0) (
 ∀_:Nat,aR ((ak .rem .i64 x0 4)=0) (
 ∀_:Nat,∀_:Nat,ao (0≤((aA A2 (ag ((x0 - 1)*4))) 1)) (
 ao (((aA A2 (ag ((x0 - 1)*4))) 1)<256) (
 ao (0≤((aA A2 (ag ((x0 - 1)*4))) 2)) (
 ao (((aA A2 (ag ((x0 - 1)*4))) 2)<256) (
 ao (0≤((aA A2 (ag ((x0 - 1)*4))) 3)) (
 ao (((aA A2 (ag ((x0 - 1)*4))) 3)<256) (
 ao (0≤((aA A2 (ag ((x0 - 1)*4))) 0)) (
 ao (((aA A2 (ag ((x0 - 1)*4))) 0)<256) (
 ao ((-9223372036854775808)≤(x0 - 4)) (
 ao ((x0 - 4)≤9223372036854775807) (
 ao (0≤(x0 - 4)) (
 ao ((x0 - 4)<x0) (
 ∀_:Nat,∀_:Nat,∀_:Nat,∀_:Nat,ao (0≤x0) (
 ao (((x0+1)*4)≤140737488355328) (
 ∀v3:V1,ao ((-9223372036854775808)≤(x0+1)) (
 ao ((x0+1)≤9223372036854775807) (
 ∃oc:V1,∃eH:Int,∃cm:Int,∃dT:(Nat→Int),eH=(x0+1)∧cm=(ak .ay .u8 (ak .shl .u8 x1 1) (ae .u8 ((ak .shr .u8 x1 7)*27)))∧oc=v3∧oc=v3∧eH=(x0+1)∧(∀j,j<(ag (eH*4))→dT j=(aI A2 (ag (x0*4)) 4 (aq (aq (aq (aq (fun _=>0) 0 (ak .ay .u8 (ak .ay .u8 (A1 (ag ((aA A2 (ag ((x0 - 1)*4))) 1))) x1) ((aA A2 (ag ((x0 - 4)*4))) 0))) 1 (ak .ay .u8 (A1 (ag ((aA A2 (ag ((x0 - 1)*4))) 2))) ((aA A2 (ag ((x0 - 4)*4))) 1))) 2 (ak .ay .u8 (A1 (ag ((aA A2 (ag ((x0 - 1)*4))) 3))) ((aA A2 (ag ((x0 - 4)*4))) 2))) 3 (ak .ay .u8 (A1 (ag ((aA A2 (ag ((x0 - 1)*4))) 0))) ((aA A2 (ag ((x0 - 4)*4))) 3)))) j)∧bE ⟨[],[oc],[eH,cm],[dT],[],[],[]⟩∧bL ⟨[],[oc],[eH,cm],[dT],[],[],[]⟩<bL ⟨[],[v2],[x0,x1],[A2],[],[],[]⟩))))))))))))))))) (
 ao ((-9223372036854775808)≤(x0 - 4)) (
 ao ((x0 - 4)≤9223372036854775807) (
 ao (0≤(x0 - 4)) (
 ao ((x0 - 4)<x0) (
 ∀_:Nat,∀_:Nat,∀_:Nat,∀_:Nat,ao (0≤x0) (
 ao (((x0+1)*4)≤140737488355328) (
 ∀v3:V1,ao ((-9223372036854775808)≤(x0+1)) (
 ao ((x0+1)≤9223372036854775807) (
 ∃oc:V1,∃eH:Int,∃cm:Int,∃dT:(Nat→Int),eH=(x0+1)∧cm=x1∧oc=v3∧oc=v3∧eH=(x0+1)∧(∀j,j<(ag (eH*4))→dT j=(aI A2 (ag (x0*4)) 4 (aq (aq (aq (aq (fun _=>0) 0 (ak .ay .u8 ((aA A2 (ag ((x0 - 1)*4))) 0) ((aA A2 (ag ((x0 - 4)*4))) 0))) 1 (ak .ay .u8 ((aA A2 (ag ((x0 - 1)*4))) 1) ((aA A2 (ag ((x0 - 4)*4))) 1))) 2 (ak .ay .u8 ((aA A2 (ag ((x0 - 1)*4))) 2) ((aA A2 (ag ((x0 - 4)*4))) 2))) 3 (ak .ay .u8 ((aA A2 (ag ((x0 - 1)*4))) 3) ((aA A2 (ag ((x0 - 4)*4))) 3)))) j)∧bE ⟨[],[oc],[eH,cm],[dT],[],[],[]⟩∧bL ⟨[],[oc],[eH,cm],[dT],[],[],[]⟩<bL ⟨[],[v2],[x0,x1],[A2],[],[],[]⟩))))))))))))))) (
 ar (.tuple #[.pointer (some ⟨b0,0,none⟩),.int .i64 0]) [aE false 5 1 v0.v 16 (aQ 16 [aO .u8 1 A0]),ax b0 true (aeU (al .u8 256 A1) ([v2.v])),aE true 177 4 v2.v (ag x0) (aQ (ag x0) [aO .u8 4 A2])])
theorem M9(P:Program)(ar:Value→List HP→Prop)(A0:Nat→Int)(v0:V1)(L:Nat→LC):VC P (fun v hs=>ar v (hs.take 3)) En {iv:=[],av:=[A0],bo:=[],bv:=[],vv:=[v0]} L=Eo P ar A0 v0:=by kernel_rfl
theorem Ki:iq cx 60 ([SV.vv 0]) ([Ck.bC false 0 5 1 (E.lit 16) [{ck:=CK.int (afc),w:=1,a:=E.aL 0}]]) ({b:=0,v:=1,i:=0,a:=1,bo:=0,p:=0,r:=0}) Tryz.f60=En:=rfl
noncomputable def Ep:F:=iq cx 60 ([SV.vv 0]) ([Ck.bC false 0 5 1 (E.lit 32) [{ck:=CK.int (afc),w:=1,a:=E.aL 0}]]) ({b:=0,v:=1,i:=0,a:=1,bo:=0,p:=0,r:=0}) Tryz.f60
def Er(P:Program)(ar:Value→List HP→Prop)(A0:Nat→Int)(v0:V1):Prop:=
 ∃post,aw P 90 [] [] post∧
 ∀x hs,post x hs→∃A1:(Nat→Int),x= .agg (aeU (al .u8 256 A1) ([])).toArray∧hs=[]∧
 ∀b0:Nat,∃(bE:Ext→Prop) (bL:Ext→Nat),(∃v2:V1,∃x0:Int,∃x1:Int,∃A2:(Nat→Int),x0=0∧x1=1∧v2=(⟨.slice none 0 0,rfl⟩:V1)∧v2=(⟨.slice none 0 0,rfl⟩:V1)∧x0=0∧(∀j,j<(ag (x0*4))→A2 j=(fun _=>0) j)∧bE ⟨[],[v2],[x0,x1],[A2],[],[],[]⟩)∧
 ∀v2:V1,∀x0:Int,∀x1:Int,∀A2:(Nat→Int),bE ⟨[],[v2],[x0,x1],[A2],[],[],[]⟩→
 aR (x0<60) (
 aR (x0<8) (
 ao ((-9223372036854775808)≤(4*x0)) (
 ao ((4*x0)≤9223372036854775807) (
 ao ((-9223372036854775808)≤((4*x0)+4)) (
 ao (((4*x0)+4)≤9223372036854775807) (
 ao (0≤(4*x0)) (
 ao ((4*x0)≤((4*x0)+4)) (
 ao (((4*x0)+4)≤32) (
 ao (4≤(((4*x0)+4) - (4*x0))) (
 ∀_:Nat,ao (0≤x0) (
 ao (((x0+1)*4)≤140737488355328) (
 ∀v3:V1,ao ((-9223372036854775808)≤(x0+1)) (
 ao ((x0+1)≤9223372036854775807) (
 ∃oc:V1,∃eH:Int,∃cm:Int,∃dT:(Nat→Int),eH=(x0+1)∧cm=x1∧oc=v3∧oc=v3∧eH=(x0+1)∧(∀j,j<(ag (eH*4))→dT j=(aI A2 (ag (x0*4)) 4 (aA A0 (ag (4*x0)))) j)∧bE ⟨[],[oc],[eH,cm],[dT],[],[],[]⟩∧bL ⟨[],[oc],[eH,cm],[dT],[],[],[]⟩<bL ⟨[],[v2],[x0,x1],[A2],[],[],[]⟩))))))))))))) (
 ao ((-9223372036854775808)≤(x0 - 1)) (
 ao ((x0 - 1)≤9223372036854775807) (
 ao (0≤(x0 - 1)) (
 ao ((x0 - 1)<x0) (
 ∀_:Nat,aR ((ak .rem .i64 x0 8)=0) (
 ∀_:Nat,∀_:Nat,ao (0≤((aA A2 (ag ((x0 - 1)*4))) 1)) (
 ao (((aA A2 (ag ((x0 - 1)*4))) 1)<256) (
 ao (0≤((aA A2 (ag ((x0 - 1)*4))) 2)) (
 ao (((aA A2 (ag ((x0 - 1)*4))) 2)<256) (
 ao (0≤((aA A2 (ag ((x0 - 1)*4))) 3)) (
 ao (((aA A2 (ag ((x0 - 1)*4))) 3)<256) (
 ao (0≤((aA A2 (ag ((x0 - 1)*4))) 0)) (
 ao (((aA A2 (ag ((x0 - 1)*4))) 0)<256) (
 ao ((-9223372036854775808)≤(x0 - 8)) (
 ao ((x0 - 8)≤9223372036854775807) (
 ao (0≤(x0 - 8)) (
 ao ((x0 - 8)<x0) (
 ∀_:Nat,∀_:Nat,∀_:Nat,∀_:Nat,ao (0≤x0) (
 ao (((x0+1)*4)≤140737488355328) (
 ∀v3:V1,ao ((-9223372036854775808)≤(x0+1)) (
 ao ((x0+1)≤9223372036854775807) (
 ∃oc:V1,∃eH:Int,∃cm:Int,∃dT:(Nat→Int),eH=(x0+1)∧cm=(ak .ay .u8 (ak .shl .u8 x1 1) (ae .u8 ((ak .shr .u8 x1 7)*27)))∧oc=v3∧oc=v3∧eH=(x0+1)∧(∀j,j<(ag (eH*4))→dT j=(aI A2 (ag (x0*4)) 4 (aq (aq (aq (aq (fun _=>0) 0 (ak .ay .u8 (ak .ay .u8 (A1 (ag ((aA A2 (ag ((x0 - 1)*4))) 1))) x1) ((aA A2 (ag ((x0 - 8)*4))) 0))) 1 (ak .ay .u8 (A1 (ag ((aA A2 (ag ((x0 - 1)*4))) 2))) ((aA A2 (ag ((x0 - 8)*4))) 1))) 2 (ak .ay .u8 (A1 (ag ((aA A2 (ag ((x0 - 1)*4))) 3))) ((aA A2 (ag ((x0 - 8)*4))) 2))) 3 (ak .ay .u8 (A1 (ag ((aA A2 (ag ((x0 - 1)*4))) 0))) ((aA A2 (ag ((x0 - 8)*4))) 3)))) j)∧bE ⟨[],[oc],[eH,cm],[dT],[],[],[]⟩∧bL ⟨[],[oc],[eH,cm],[dT],[],[],[]⟩<bL ⟨[],[v2],[x0,x1],[A2],[],[],[]⟩))))))))))))))))) (
 aR ((ak .rem .i64 x0 8)=4) (
 ∀_:Nat,∀_:Nat,ao (0≤((aA A2 (ag ((x0 - 1)*4))) 0)) (
 ao (((aA A2 (ag ((x0 - 1)*4))) 0)<256) (
 ao (0≤((aA A2 (ag ((x0 - 1)*4))) 1)) (
 ao (((aA A2 (ag ((x0 - 1)*4))) 1)<256) (
 ao (0≤((aA A2 (ag ((x0 - 1)*4))) 2)) (
 ao (((aA A2 (ag ((x0 - 1)*4))) 2)<256) (
 ao (0≤((aA A2 (ag ((x0 - 1)*4))) 3)) (
 ao (((aA A2 (ag ((x0 - 1)*4))) 3)<256) (
 ao ((-9223372036854775808)≤(x0 - 8)) (
 ao ((x0 - 8)≤9223372036854775807) (
 ao (0≤(x0 - 8)) (
 ao ((x0 - 8)<x0) (
 ∀_:Nat,∀_:Nat,∀_:Nat,∀_:Nat,ao (0≤x0) (
 ao (((x0+1)*4)≤140737488355328) (
 ∀v3:V1,ao ((-9223372036854775808)≤(x0+1)) (
 ao ((x0+1)≤9223372036854775807) (
 ∃oc:V1,∃eH:Int,∃cm:Int,∃dT:(Nat→Int),eH=(x0+1)∧cm=x1∧oc=v3∧oc=v3∧eH=(x0+1)∧(∀j,j<(ag (eH*4))→dT j=(aI A2 (ag (x0*4)) 4 (aq (aq (aq (aq (fun _=>0) 0 (ak .ay .u8 (A1 (ag ((aA A2 (ag ((x0 - 1)*4))) 0))) ((aA A2 (ag ((x0 - 8)*4))) 0))) 1 (ak .ay .u8 (A1 (ag ((aA A2 (ag ((x0 - 1)*4))) 1))) ((aA A2 (ag ((x0 - 8)*4))) 1))) 2 (ak .ay .u8 (A1 (ag ((aA A2 (ag ((x0 - 1)*4))) 2))) ((aA A2 (ag ((x0 - 8)*4))) 2))) 3 (ak .ay .u8 (A1 (ag ((aA A2 (ag ((x0 - 1)*4))) 3))) ((aA A2 (ag ((x0 - 8)*4))) 3)))) j)∧bE ⟨[],[oc],[eH,cm],[dT],[],[],[]⟩∧bL ⟨[],[oc],[eH,cm],[dT],[],[],[]⟩<bL ⟨[],[v2],[x0,x1],[A2],[],[],[]⟩))))))))))))))))) (
 ao ((-9223372036854775808)≤(x0 - 8)) (
 ao ((x0 - 8)≤9223372036854775807) (
 ao (0≤(x0 - 8)) (
 ao ((x0 - 8)<x0) (
 ∀_:Nat,∀_:Nat,∀_:Nat,∀_:Nat,ao (0≤x0) (
 ao (((x0+1)*4)≤140737488355328) (
 ∀v3:V1,ao ((-9223372036854775808)≤(x0+1)) (
 ao ((x0+1)≤9223372036854775807) (
 ∃oc:V1,∃eH:Int,∃cm:Int,∃dT:(Nat→Int),eH=(x0+1)∧cm=x1∧oc=v3∧oc=v3∧eH=(x0+1)∧(∀j,j<(ag (eH*4))→dT j=(aI A2 (ag (x0*4)) 4 (aq (aq (aq (aq (fun _=>0) 0 (ak .ay .u8 ((aA A2 (ag ((x0 - 1)*4))) 0) ((aA A2 (ag ((x0 - 8)*4))) 0))) 1 (ak .ay .u8 ((aA A2 (ag ((x0 - 1)*4))) 1) ((aA A2 (ag ((x0 - 8)*4))) 1))) 2 (ak .ay .u8 ((aA A2 (ag ((x0 - 1)*4))) 2) ((aA A2 (ag ((x0 - 8)*4))) 2))) 3 (ak .ay .u8 ((aA A2 (ag ((x0 - 1)*4))) 3) ((aA A2 (ag ((x0 - 8)*4))) 3)))) j)∧bE ⟨[],[oc],[eH,cm],[dT],[],[],[]⟩∧bL ⟨[],[oc],[eH,cm],[dT],[],[],[]⟩<bL ⟨[],[v2],[x0,x1],[A2],[],[],[]⟩)))))))))))))))) (
 ar (.tuple #[.pointer (some ⟨b0,0,none⟩),.int .i64 0]) [aE false 5 1 v0.v 32 (aQ 32 [aO .u8 1 A0]),ax b0 true (aeU (al .u8 256 A1) ([v2.v])),aE true 177 4 v2.v (ag x0) (aQ (ag x0) [aO .u8 4 A2])])
theorem M_(P:Program)(ar:Value→List HP→Prop)(A0:Nat→Int)(v0:V1)(L:Nat→LC):VC P (fun v hs=>ar v (hs.take 3)) Ep {iv:=[],av:=[A0],bo:=[],bv:=[],vv:=[v0]} L=Er P ar A0 v0:=by kernel_rfl
theorem Kj:iq cx 60 ([SV.vv 0]) ([Ck.bC false 0 5 1 (E.lit 32) [{ck:=CK.int (afc),w:=1,a:=E.aL 0}]]) ({b:=0,v:=1,i:=0,a:=1,bo:=0,p:=0,r:=0}) Tryz.f60=Ep:=rfl
noncomputable def Ij:F:=iq cx 112 ([SV.ptr 0 0,SV.agg [SV.cE (afc) 16 (E.aL 2)]]) ([Ck.row 0 true [SV.cE (afc) 256 (E.aL 0),SV.vv 0],Ck.bC true 0 177 4 (E.var 0) [{ck:=CK.int (afc),w:=4,a:=E.aL 1}]]) ({b:=1,v:=1,i:=1,a:=3,bo:=0,p:=0,r:=0}) Tryz.f112
def rV(_:Program)(ar:Value→List HP→Prop)(x0:Int)(A0:Nat→Int)(A1:Nat→Int)(A2:Nat→Int)(v0:V1)(b0:Nat):Prop:=
 ∀_:Nat,∀_:Nat,∀_:Nat,∀_:Nat,∀_:Nat,ao (0<x0) (
 ∀_:Nat,∀_:Nat,∀_:Nat,ao (1<x0) (
 ∀_:Nat,∀_:Nat,∀_:Nat,ao (2<x0) (
 ∀_:Nat,∀_:Nat,∀_:Nat,ao (3<x0) (
 ∀_:Nat,∀_:Nat,∀_:Nat,∀K2:Nat,∀CH:Nat,∃(bE:Ext→Prop) (bL:Ext→Nat),(∃yX:Nat,∃OG:Nat,∃x1:Int,∃A3:(Nat→Int),yX=K2∧(∀j,j<16→A3 j=(aq (aq (aq (aq (aq (aq (aq (aq (aq (aq (aq (aq (aq (aq (aq (aq (fun _=>0) 0 (ak .ay .u8 (A2 0) (A1 0))) 1 (ak .ay .u8 (A2 1) (A1 1))) 2 (ak .ay .u8 (A2 2) (A1 2))) 3 (ak .ay .u8 (A2 3) (A1 3))) 4 (ak .ay .u8 (A2 4) (A1 4))) 5 (ak .ay .u8 (A2 5) (A1 5))) 6 (ak .ay .u8 (A2 6) (A1 6))) 7 (ak .ay .u8 (A2 7) (A1 7))) 8 (ak .ay .u8 (A2 8) (A1 8))) 9 (ak .ay .u8 (A2 9) (A1 9))) 10 (ak .ay .u8 (A2 10) (A1 10))) 11 (ak .ay .u8 (A2 11) (A1 11))) 12 (ak .ay .u8 (A2 12) (A1 12))) 13 (ak .ay .u8 (A2 13) (A1 13))) 14 (ak .ay .u8 (A2 14) (A1 14))) 15 (ak .ay .u8 (A2 15) (A1 15))) j)∧yX=K2∧x1=1∧OG=CH∧OG=CH∧bE ⟨[yX,OG],[],[x1],[A3],[],[],[]⟩)∧
 ∀yX:Nat,∀OG:Nat,∀x1:Int,∀A3:(Nat→Int),bE ⟨[yX,OG],[],[x1],[A3],[],[],[]⟩→
 ao (0≤x0) (
 ao ((-9223372036854775808)≤((ae .i64 (ak .quo .i64 x0 4)) - 1)) (
 ao (((ae .i64 (ak .quo .i64 x0 4)) - 1)≤9223372036854775807) (
 aR (x1≤((ae .i64 (ak .quo .i64 x0 4)) - 1)) (
 ∀_:Nat,∀_:Nat,∀_:Nat,∀(_ _:Nat) (_:Loop),∀_:Nat,∀_:Nat,∀_:Nat,ao (0≤(A3 0)) (
 ao ((A3 0)<256) (
 ao (0≤(A3 5)) (
 ao ((A3 5)<256) (
 ao (0≤(A3 10)) (
 ao ((A3 10)<256) (
 ao (0≤(A3 15)) (
 ao ((A3 15)<256) (
 ∀_:Nat,aR (x1<((ae .i64 (ak .quo .i64 x0 4)) - 1)) (
 ∀_:Nat,∀_:Nat,∀_:Nat,ao ((-9223372036854775808)≤(4*x1)) (
 ao ((4*x1)≤9223372036854775807) (
 ao (0≤(4*x1)) (
 ao ((4*x1)<x0) (
 ∀_:Nat,∀_:Nat,∀_:Nat,∀_:Nat,∀_:Nat,∀_:Nat,ao (0≤(A3 4)) (
 ao ((A3 4)<256) (
 ao (0≤(A3 9)) (
 ao ((A3 9)<256) (
 ao (0≤(A3 14)) (
 ao ((A3 14)<256) (
 ao (0≤(A3 3)) (
 ao ((A3 3)<256) (
 ∀_:Nat,∀_:Nat,∀_:Nat,∀_:Nat,ao ((-9223372036854775808)≤((4*x1)+1)) (
 ao (((4*x1)+1)≤9223372036854775807) (
 ao (0≤((4*x1)+1)) (
 ao (((4*x1)+1)<x0) (
 ∀_:Nat,∀_:Nat,∀_:Nat,∀_:Nat,∀_:Nat,∀_:Nat,ao (0≤(A3 8)) (
 ao ((A3 8)<256) (
 ao (0≤(A3 13)) (
 ao ((A3 13)<256) (
 ao (0≤(A3 2)) (
 ao ((A3 2)<256) (
 ao (0≤(A3 7)) (
 ao ((A3 7)<256) (
 ∀_:Nat,∀_:Nat,∀_:Nat,∀_:Nat,ao ((-9223372036854775808)≤((4*x1)+2)) (
 ao (((4*x1)+2)≤9223372036854775807) (
 ao (0≤((4*x1)+2)) (
 ao (((4*x1)+2)<x0) (
 ∀_:Nat,∀_:Nat,∀_:Nat,∀_:Nat,∀_:Nat,∀_:Nat,ao (0≤(A3 12)) (
 ao ((A3 12)<256) (
 ao (0≤(A3 1)) (
 ao ((A3 1)<256) (
 ao (0≤(A3 6)) (
 ao ((A3 6)<256) (
 ao (0≤(A3 11)) (
 ao ((A3 11)<256) (
 ∀_:Nat,∀_:Nat,∀_:Nat,∀_:Nat,ao ((-9223372036854775808)≤((4*x1)+3)) (
 ao (((4*x1)+3)≤9223372036854775807) (
 ao (0≤((4*x1)+3)) (
 ao (((4*x1)+3)<x0) (
 ∀_:Nat,∀_:Nat,∀_:Nat,∀Xo:Nat,ao ((-9223372036854775808)≤(x1+1)) (
 ao ((x1+1)≤9223372036854775807) (
 ∀Xp:Nat,∃BI:Nat,∃BJ:Nat,∃cm:Int,∃kW:(Nat→Int),BI=Xo∧(∀j,j<16→kW j=(aq (aq (aq (aq (aq (aq (aq (aq (aq (aq (aq (aq (aq (aq (aq (aq (fun _=>0) 0 (ak .ay .u8 (ak .ay .u8 (ak .ay .u8 (A0 (ag (A3 0))) (ak .ay .u8 (ak .ay .u8 (ak .ay .u8 (A0 (ag (A3 0))) (A0 (ag (A3 5)))) (A0 (ag (A3 10)))) (A0 (ag (A3 15))))) (ak .ay .u8 (ak .shl .u8 (ak .ay .u8 (A0 (ag (A3 0))) (A0 (ag (A3 5)))) 1) (ae .u8 ((ak .shr .u8 (ak .ay .u8 (A0 (ag (A3 0))) (A0 (ag (A3 5)))) 7)*27)))) ((aA A1 (ag ((4*x1)*4))) 0))) 1 (ak .ay .u8 (ak .ay .u8 (ak .ay .u8 (A0 (ag (A3 5))) (ak .ay .u8 (ak .ay .u8 (ak .ay .u8 (A0 (ag (A3 0))) (A0 (ag (A3 5)))) (A0 (ag (A3 10)))) (A0 (ag (A3 15))))) (ak .ay .u8 (ak .shl .u8 (ak .ay .u8 (A0 (ag (A3 5))) (A0 (ag (A3 10)))) 1) (ae .u8 ((ak .shr .u8 (ak .ay .u8 (A0 (ag (A3 5))) (A0 (ag (A3 10)))) 7)*27)))) ((aA A1 (ag ((4*x1)*4))) 1))) 2 (ak .ay .u8 (ak .ay .u8 (ak .ay .u8 (A0 (ag (A3 10))) (ak .ay .u8 (ak .ay .u8 (ak .ay .u8 (A0 (ag (A3 0))) (A0 (ag (A3 5)))) (A0 (ag (A3 10)))) (A0 (ag (A3 15))))) (ak .ay .u8 (ak .shl .u8 (ak .ay .u8 (A0 (ag (A3 10))) (A0 (ag (A3 15)))) 1) (ae .u8 ((ak .shr .u8 (ak .ay .u8 (A0 (ag (A3 10))) (A0 (ag (A3 15)))) 7)*27)))) ((aA A1 (ag ((4*x1)*4))) 2))) 3 (ak .ay .u8 (ak .ay .u8 (ak .ay .u8 (A0 (ag (A3 15))) (ak .ay .u8 (ak .ay .u8 (ak .ay .u8 (A0 (ag (A3 0))) (A0 (ag (A3 5)))) (A0 (ag (A3 10)))) (A0 (ag (A3 15))))) (ak .ay .u8 (ak .shl .u8 (ak .ay .u8 (A0 (ag (A3 15))) (A0 (ag (A3 0)))) 1) (ae .u8 ((ak .shr .u8 (ak .ay .u8 (A0 (ag (A3 15))) (A0 (ag (A3 0)))) 7)*27)))) ((aA A1 (ag ((4*x1)*4))) 3))) 4 (ak .ay .u8 (ak .ay .u8 (ak .ay .u8 (A0 (ag (A3 4))) (ak .ay .u8 (ak .ay .u8 (ak .ay .u8 (A0 (ag (A3 4))) (A0 (ag (A3 9)))) (A0 (ag (A3 14)))) (A0 (ag (A3 3))))) (ak .ay .u8 (ak .shl .u8 (ak .ay .u8 (A0 (ag (A3 4))) (A0 (ag (A3 9)))) 1) (ae .u8 ((ak .shr .u8 (ak .ay .u8 (A0 (ag (A3 4))) (A0 (ag (A3 9)))) 7)*27)))) ((aA A1 (ag (((4*x1)+1)*4))) 0))) 5 (ak .ay .u8 (ak .ay .u8 (ak .ay .u8 (A0 (ag (A3 9))) (ak .ay .u8 (ak .ay .u8 (ak .ay .u8 (A0 (ag (A3 4))) (A0 (ag (A3 9)))) (A0 (ag (A3 14)))) (A0 (ag (A3 3))))) (ak .ay .u8 (ak .shl .u8 (ak .ay .u8 (A0 (ag (A3 9))) (A0 (ag (A3 14)))) 1) (ae .u8 ((ak .shr .u8 (ak .ay .u8 (A0 (ag (A3 9))) (A0 (ag (A3 14)))) 7)*27)))) ((aA A1 (ag (((4*x1)+1)*4))) 1))) 6 (ak .ay .u8 (ak .ay .u8 (ak .ay .u8 (A0 (ag (A3 14))) (ak .ay .u8 (ak .ay .u8 (ak .ay .u8 (A0 (ag (A3 4))) (A0 (ag (A3 9)))) (A0 (ag (A3 14)))) (A0 (ag (A3 3))))) (ak .ay .u8 (ak .shl .u8 (ak .ay .u8 (A0 (ag (A3 14))) (A0 (ag (A3 3)))) 1) (ae .u8 ((ak .shr .u8 (ak .ay .u8 (A0 (ag (A3 14))) (A0 (ag (A3 3)))) 7)*27)))) ((aA A1 (ag (((4*x1)+1)*4))) 2))) 7 (ak .ay .u8 (ak .ay .u8 (ak .ay .u8 (A0 (ag (A3 3))) (ak .ay .u8 (ak .ay .u8 (ak .ay .u8 (A0 (ag (A3 4))) (A0 (ag (A3 9)))) (A0 (ag (A3 14)))) (A0 (ag (A3 3))))) (ak .ay .u8 (ak .shl .u8 (ak .ay .u8 (A0 (ag (A3 3))) (A0 (ag (A3 4)))) 1) (ae .u8 ((ak .shr .u8 (ak .ay .u8 (A0 (ag (A3 3))) (A0 (ag (A3 4)))) 7)*27)))) ((aA A1 (ag (((4*x1)+1)*4))) 3))) 8 (ak .ay .u8 (ak .ay .u8 (ak .ay .u8 (A0 (ag (A3 8))) (ak .ay .u8 (ak .ay .u8 (ak .ay .u8 (A0 (ag (A3 8))) (A0 (ag (A3 13)))) (A0 (ag (A3 2)))) (A0 (ag (A3 7))))) (ak .ay .u8 (ak .shl .u8 (ak .ay .u8 (A0 (ag (A3 8))) (A0 (ag (A3 13)))) 1) (ae .u8 ((ak .shr .u8 (ak .ay .u8 (A0 (ag (A3 8))) (A0 (ag (A3 13)))) 7)*27)))) ((aA A1 (ag (((4*x1)+2)*4))) 0))) 9 (ak .ay .u8 (ak .ay .u8 (ak .ay .u8 (A0 (ag (A3 13))) (ak .ay .u8 (ak .ay .u8 (ak .ay .u8 (A0 (ag (A3 8))) (A0 (ag (A3 13)))) (A0 (ag (A3 2)))) (A0 (ag (A3 7))))) (ak .ay .u8 (ak .shl .u8 (ak .ay .u8 (A0 (ag (A3 13))) (A0 (ag (A3 2)))) 1) (ae .u8 ((ak .shr .u8 (ak .ay .u8 (A0 (ag (A3 13))) (A0 (ag (A3 2)))) 7)*27)))) ((aA A1 (ag (((4*x1)+2)*4))) 1))) 10 (ak .ay .u8 (ak .ay .u8 (ak .ay .u8 (A0 (ag (A3 2))) (ak .ay .u8 (ak .ay .u8 (ak .ay .u8 (A0 (ag (A3 8))) (A0 (ag (A3 13)))) (A0 (ag (A3 2)))) (A0 (ag (A3 7))))) (ak .ay .u8 (ak .shl .u8 (ak .ay .u8 (A0 (ag (A3 2))) (A0 (ag (A3 7)))) 1) (ae .u8 ((ak .shr .u8 (ak .ay .u8 (A0 (ag (A3 2))) (A0 (ag (A3 7)))) 7)*27)))) ((aA A1 (ag (((4*x1)+2)*4))) 2))) 11 (ak .ay .u8 (ak .ay .u8 (ak .ay .u8 (A0 (ag (A3 7))) (ak .ay .u8 (ak .ay .u8 (ak .ay .u8 (A0 (ag (A3 8))) (A0 (ag (A3 13)))) (A0 (ag (A3 2)))) (A0 (ag (A3 7))))) (ak .ay .u8 (ak .shl .u8 (ak .ay .u8 (A0 (ag (A3 7))) (A0 (ag (A3 8)))) 1) (ae .u8 ((ak .shr .u8 (ak .ay .u8 (A0 (ag (A3 7))) (A0 (ag (A3 8)))) 7)*27)))) ((aA A1 (ag (((4*x1)+2)*4))) 3))) 12 (ak .ay .u8 (ak .ay .u8 (ak .ay .u8 (A0 (ag (A3 12))) (ak .ay .u8 (ak .ay .u8 (ak .ay .u8 (A0 (ag (A3 12))) (A0 (ag (A3 1)))) (A0 (ag (A3 6)))) (A0 (ag (A3 11))))) (ak .ay .u8 (ak .shl .u8 (ak .ay .u8 (A0 (ag (A3 12))) (A0 (ag (A3 1)))) 1) (ae .u8 ((ak .shr .u8 (ak .ay .u8 (A0 (ag (A3 12))) (A0 (ag (A3 1)))) 7)*27)))) ((aA A1 (ag (((4*x1)+3)*4))) 0))) 13 (ak .ay .u8 (ak .ay .u8 (ak .ay .u8 (A0 (ag (A3 1))) (ak .ay .u8 (ak .ay .u8 (ak .ay .u8 (A0 (ag (A3 12))) (A0 (ag (A3 1)))) (A0 (ag (A3 6)))) (A0 (ag (A3 11))))) (ak .ay .u8 (ak .shl .u8 (ak .ay .u8 (A0 (ag (A3 1))) (A0 (ag (A3 6)))) 1) (ae .u8 ((ak .shr .u8 (ak .ay .u8 (A0 (ag (A3 1))) (A0 (ag (A3 6)))) 7)*27)))) ((aA A1 (ag (((4*x1)+3)*4))) 1))) 14 (ak .ay .u8 (ak .ay .u8 (ak .ay .u8 (A0 (ag (A3 6))) (ak .ay .u8 (ak .ay .u8 (ak .ay .u8 (A0 (ag (A3 12))) (A0 (ag (A3 1)))) (A0 (ag (A3 6)))) (A0 (ag (A3 11))))) (ak .ay .u8 (ak .shl .u8 (ak .ay .u8 (A0 (ag (A3 6))) (A0 (ag (A3 11)))) 1) (ae .u8 ((ak .shr .u8 (ak .ay .u8 (A0 (ag (A3 6))) (A0 (ag (A3 11)))) 7)*27)))) ((aA A1 (ag (((4*x1)+3)*4))) 2))) 15 (ak .ay .u8 (ak .ay .u8 (ak .ay .u8 (A0 (ag (A3 11))) (ak .ay .u8 (ak .ay .u8 (ak .ay .u8 (A0 (ag (A3 12))) (A0 (ag (A3 1)))) (A0 (ag (A3 6)))) (A0 (ag (A3 11))))) (ak .ay .u8 (ak .shl .u8 (ak .ay .u8 (A0 (ag (A3 11))) (A0 (ag (A3 12)))) 1) (ae .u8 ((ak .shr .u8 (ak .ay .u8 (A0 (ag (A3 11))) (A0 (ag (A3 12)))) 7)*27)))) ((aA A1 (ag (((4*x1)+3)*4))) 3))) j)∧BI=Xo∧cm=(x1+1)∧BJ=Xp∧BJ=Xp∧bE ⟨[BI,BJ],[],[cm],[kW],[],[],[]⟩∧bL ⟨[BI,BJ],[],[cm],[kW],[],[],[]⟩<bL ⟨[yX,OG],[],[x1],[A3],[],[],[]⟩))))))))))))))))))))))))))))))))))))))))))) (
 ao ((-9223372036854775808)≤(4*x1)) (
 ao ((4*x1)≤9223372036854775807) (
 ao (0≤(4*x1)) (
 ao ((4*x1)<x0) (
 ∀_:Nat,∀_:Nat,∀_:Nat,∀_:Nat,∀_:Nat,∀_:Nat,ao (0≤(A3 4)) (
 ao ((A3 4)<256) (
 ao (0≤(A3 9)) (
 ao ((A3 9)<256) (
 ao (0≤(A3 14)) (
 ao ((A3 14)<256) (
 ao (0≤(A3 3)) (
 ao ((A3 3)<256) (
 ∀_:Nat,ao ((-9223372036854775808)≤((4*x1)+1)) (
 ao (((4*x1)+1)≤9223372036854775807) (
 ao (0≤((4*x1)+1)) (
 ao (((4*x1)+1)<x0) (
 ∀_:Nat,∀_:Nat,∀_:Nat,∀_:Nat,∀_:Nat,∀_:Nat,ao (0≤(A3 8)) (
 ao ((A3 8)<256) (
 ao (0≤(A3 13)) (
 ao ((A3 13)<256) (
 ao (0≤(A3 2)) (
 ao ((A3 2)<256) (
 ao (0≤(A3 7)) (
 ao ((A3 7)<256) (
 ∀_:Nat,ao ((-9223372036854775808)≤((4*x1)+2)) (
 ao (((4*x1)+2)≤9223372036854775807) (
 ao (0≤((4*x1)+2)) (
 ao (((4*x1)+2)<x0) (
 ∀_:Nat,∀_:Nat,∀_:Nat,∀_:Nat,∀_:Nat,∀_:Nat,ao (0≤(A3 12)) (
 ao ((A3 12)<256) (
 ao (0≤(A3 1)) (
 ao ((A3 1)<256) (
 ao (0≤(A3 6)) (
 ao ((A3 6)<256) (
 ao (0≤(A3 11)) (
 ao ((A3 11)<256) (
 ∀_:Nat,ao ((-9223372036854775808)≤((4*x1)+3)) (
 ao (((4*x1)+3)≤9223372036854775807) (
 ao (0≤((4*x1)+3)) (
 ao (((4*x1)+3)<x0) (
 ∀_:Nat,∀_:Nat,∀_:Nat,∀U1:Nat,ao ((-9223372036854775808)≤(x1+1)) (
 ao ((x1+1)≤9223372036854775807) (
 ∀U2:Nat,∃BI:Nat,∃BJ:Nat,∃cm:Int,∃kW:(Nat→Int),BI=U1∧(∀j,j<16→kW j=(aq (aq (aq (aq (aq (aq (aq (aq (aq (aq (aq (aq (aq (aq (aq (aq (fun _=>0) 0 (ak .ay .u8 (A0 (ag (A3 0))) ((aA A1 (ag ((4*x1)*4))) 0))) 1 (ak .ay .u8 (A0 (ag (A3 5))) ((aA A1 (ag ((4*x1)*4))) 1))) 2 (ak .ay .u8 (A0 (ag (A3 10))) ((aA A1 (ag ((4*x1)*4))) 2))) 3 (ak .ay .u8 (A0 (ag (A3 15))) ((aA A1 (ag ((4*x1)*4))) 3))) 4 (ak .ay .u8 (A0 (ag (A3 4))) ((aA A1 (ag (((4*x1)+1)*4))) 0))) 5 (ak .ay .u8 (A0 (ag (A3 9))) ((aA A1 (ag (((4*x1)+1)*4))) 1))) 6 (ak .ay .u8 (A0 (ag (A3 14))) ((aA A1 (ag (((4*x1)+1)*4))) 2))) 7 (ak .ay .u8 (A0 (ag (A3 3))) ((aA A1 (ag (((4*x1)+1)*4))) 3))) 8 (ak .ay .u8 (A0 (ag (A3 8))) ((aA A1 (ag (((4*x1)+2)*4))) 0))) 9 (ak .ay .u8 (A0 (ag (A3 13))) ((aA A1 (ag (((4*x1)+2)*4))) 1))) 10 (ak .ay .u8 (A0 (ag (A3 2))) ((aA A1 (ag (((4*x1)+2)*4))) 2))) 11 (ak .ay .u8 (A0 (ag (A3 7))) ((aA A1 (ag (((4*x1)+2)*4))) 3))) 12 (ak .ay .u8 (A0 (ag (A3 12))) ((aA A1 (ag (((4*x1)+3)*4))) 0))) 13 (ak .ay .u8 (A0 (ag (A3 1))) ((aA A1 (ag (((4*x1)+3)*4))) 1))) 14 (ak .ay .u8 (A0 (ag (A3 6))) ((aA A1 (ag (((4*x1)+3)*4))) 2))) 15 (ak .ay .u8 (A0 (ag (A3 11))) ((aA A1 (ag (((4*x1)+3)*4))) 3))) j)∧BI=U1∧cm=(x1+1)∧BJ=U2∧BJ=U2∧bE ⟨[BI,BJ],[],[cm],[kW],[],[],[]⟩∧bL ⟨[BI,BJ],[],[cm],[kW],[],[],[]⟩<bL ⟨[yX,OG],[],[x1],[A3],[],[],[]⟩)))))))))))))))))))))))))))))))))))))))))))))))))))) (
 ∀_:Nat,∀_:Nat,∀_:Nat,∀_:Nat,ar (.agg (aeU (al .u8 16 (aI (aI (aI (aI (fun _=>0) 0 4 A3) 4 4 (aA A3 4)) 8 4 (aA A3 8)) 12 4 (aA A3 12))) ([])).toArray) [ax b0 true (aeU (al .u8 256 A0) ([v0.v])),aE true 177 4 v0.v (ag x0) (aQ (ag x0) [aO .u8 4 A1])]))))))))
theorem QC(P:Program)(ar:Value→List HP→Prop)(x0:Int)(A0:Nat→Int)(A1:Nat→Int)(A2:Nat→Int)(v0:V1)(b0:Nat)(L:Nat→LC):VC P (fun v hs=>ar v (hs.take 2)) Ij {iv:=[x0],av:=[A0,A1,A2],bo:=[],bv:=[b0],vv:=[v0]} L=rV P ar x0 A0 A1 A2 v0 b0:=by kernel_rfl
theorem Na:iq cx 112 ([SV.ptr 0 0,SV.agg [SV.cE (afc) 16 (E.aL 2)]]) ([Ck.row 0 true [SV.cE (afc) 256 (E.aL 0),SV.vv 0],Ck.bC true 0 177 4 (E.var 0) [{ck:=CK.int (afc),w:=4,a:=E.aL 1}]]) ({b:=1,v:=1,i:=1,a:=3,bo:=0,p:=0,r:=0}) Tryz.f112=Ij:=rfl
end Go.RX.Fe
