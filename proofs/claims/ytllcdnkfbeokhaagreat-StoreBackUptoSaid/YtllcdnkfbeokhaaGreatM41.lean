/- The store's walker. -/
import Derived.Test.YtllcdnkfbeokhaaGreatM40
open Go.IntKind renaming i64 → auA, wrap → ae
open Go.Proofs.Tryz renaming prog → auN
open Int renaming toNat → ag, toNat_natCast → auD
open List renaming append → aul, getD_cons_zero → ah, getD_eq_getElem?_getD → auO, getElem?_append_left → auu, getElem?_eq_getElem → auU, getElem?_eq_none → au0, length_append → aum, length_singleton → aun, mem_append → auE, mem_map → auL, mem_singleton → auz
namespace Go.RX.Fm
open Go.RX Go.Proofs Go.RX.Fe Go.RX.Fg Go.RX.Fi Go.RX.Fj Go.RX.Fk Go.RX.Fl
set_option maxRecDepth 100000
noncomputable def Dl:F:=nZ Fm.cx 47 ([SV.ptr 0 0,SV.sl 1 (E.lit 0) 1 (E.lit 1) (E.lit 1)]) ([Ck.row 0 true [SV.vv 0,SV.vv 1,SV.int (auA) (E.lit 4),SV.int (auA) (E.lit 2),SV.int (auA) (E.lit 13),SV.int (auA) (E.lit 22),SV.int (auA) (E.lit 6),SV.int (auA) (E.lit 11),SV.int (auA) (E.lit 25),SV.int (auA) (E.lit 7),SV.int (auA) (E.lit 18),SV.int (auA) (E.lit 3),SV.int (auA) (E.lit 17),SV.int (auA) (E.lit 19),SV.int (auA) (E.lit 10)],Ck.cC true 0 39 1 (E.lit 8) [{ck:=CK.int (Go.IntKind.u32),w:=1,a:=E.cU 0}],Ck.cC true 1 39 1 (E.lit 64) [{ck:=CK.int (Go.IntKind.u32),w:=1,a:=E.cU 1}],Ck.row 1 true [SV.vv 2],Ck.cC false 2 5 1 (E.var 0) [{ck:=CK.int (Go.IntKind.u8),w:=1,a:=E.cU 2}]]) ({b:=2,v:=3,i:=1,a:=3,bo:=0,p:=0,r:=0}) Tryz.f47
def xw(P:Program)(al:Value→List HP→Prop)(x0:Int)(A0:Nat→Int)(A1:Nat→Int)(A2:Nat→Int)(v0:V1)(v1:V1)(v2:V1)(b0:Nat)(b1:Nat):Prop:=
 ax (0≤x0) (
 ax (x0≤140737488355328) (
 ∀v3:V1,∃(cH:Ext→Prop) (dp:Ext→Nat),(∃v4:V1,∃x1:Int,∃A3:(Nat→Int),∃A4:(Nat→Int),v4=v3∧(∀j,j<8→A4 j=A0 j)∧v4=v3∧x1=x0∧(∀j,j<(ag x1)→A3 j=A2 j)∧cH ⟨[],[v4],[x1],[A3,A4],[],[],[]⟩)∧
 ∀v4:V1,∀x1:Int,∀A3:(Nat→Int),∀A4:(Nat→Int),cH ⟨[],[v4],[x1],[A3,A4],[],[],[]⟩→
 ax (0≤x1) (
 bt (64≤x1) (
 ∃post,aq P 98 [.pointer (some ⟨b0,0,none⟩),(aF 1 v4.v 0 64 none)] [ak b0 true ([v0.v,v1.v,.int .i64 4,.int .i64 2,.int .i64 13,.int .i64 22,.int .i64 6,.int .i64 11,.int .i64 25,.int .i64 7,.int .i64 18,.int .i64 3,.int .i64 17,.int .i64 19,.int .i64 10]),aB true 39 1 v0.v 8 (aM 8 [ay .u32 1 A4]),aB true 39 1 v1.v 64 (aM 64 [ay .u32 1 A1]),aB true 5 1 v4.v (ag x1) (aM (ag x1) [ay .u8 1 A3])] post∧
 ∀x hs,post x hs→∃A5:(Nat→Int),x= .tuple #[]∧hs=[ak b0 true ([v0.v,v1.v,.int .i64 4,.int .i64 2,.int .i64 13,.int .i64 22,.int .i64 6,.int .i64 11,.int .i64 25,.int .i64 7,.int .i64 18,.int .i64 3,.int .i64 17,.int .i64 19,.int .i64 10]),aB true 39 1 v0.v 8 (aM 8 [ay .u32 1 A5]),aB true 39 1 v1.v 64 (aM 64 [ay .u32 1 A1]),aB true 5 1 v4.v (ag x1) (aM (ag x1) [ay .u8 1 A3])]∧
 ax (64≤x1) (
 ax (0≤(x1 - 64)) (
 ∀v5:V1,∃pR:V1,∃kX:Int,∃rm:(Nat→Int),∃zM:(Nat→Int),pR=v5∧(∀j,j<8→zM j=A5 j)∧pR=v5∧kX=(x1 - 64)∧(∀j,j<(ag kX)→rm j=(bY A3 64) j)∧cH ⟨[],[pR],[kX],[rm,zM],[],[],[]⟩∧dp ⟨[],[pR],[kX],[rm,zM],[],[],[]⟩<dp ⟨[],[v4],[x1],[A3,A4],[],[],[]⟩))) (
 ∀b2:Nat,ax ((x1+1)≤140737488355328) (
 ∀v5:V1,∃(pT:Ext→Prop) (uV:Ext→Nat),(∃v6:V1,∃x2:Int,∃A5:(Nat→Int),v6=v5∧v6=v5∧x2=(x1+1)∧(∀j,j<(ag x2)→A5 j=(bX A3 (ag x1) 1 (aw (fun _=>0) 0 128)) j)∧pT ⟨[],[v6],[x2],[A5],[],[],[]⟩)∧
 ∀v6:V1,∀x2:Int,∀A5:(Nat→Int),pT ⟨[],[v6],[x2],[A5],[],[],[]⟩→
 ax (0≤x2) (
 ax ((-9223372036854775808)≤(x2+8)) (
 ax ((x2+8)≤9223372036854775807) (
 bt (¬((ar .rem .i64 (x2+8) 64)=0)) (
 ∀_:Nat,ax (((x2+1)*1)≤140737488355328) (
 ∀v7:V1,∃Wv:V1,∃h_:Int,∃Dx:(Nat→Int),Wv=v7∧Wv=v7∧h_=(x2+1)∧(∀j,j<(ag h_)→Dx j=(aw A5 (ag x2) 0) j)∧pT ⟨[],[Wv],[h_],[Dx],[],[],[]⟩∧uV ⟨[],[Wv],[h_],[Dx],[],[],[]⟩<uV ⟨[],[v6],[x2],[A5],[],[],[]⟩)) (
 ∀v7:V1,ax ((x2+8)≤140737488355328) (
 ∀v8:V1,∃(mR:Ext→Prop) (qx:Ext→Nat),(∃v9:V1,∃x3:Int,∃A6:(Nat→Int),∃A7:(Nat→Int),v9=v8∧(∀j,j<8→A7 j=A4 j)∧v9=v8∧x3=(x2+8)∧(∀j,j<(ag x3)→A6 j=(bX A5 (ag x2) 8 (aw (aw (aw (aw (aw (aw (aw (aw (fun _=>0) 7 (ae .u8 (ar .shr .u64 (ar .shl .u64 (ae .u64 (ae .u64 x0)) 3) 0))) 6 (ae .u8 (ar .shr .u64 (ar .shl .u64 (ae .u64 (ae .u64 x0)) 3) 8))) 5 (ae .u8 (ar .shr .u64 (ar .shl .u64 (ae .u64 (ae .u64 x0)) 3) 16))) 4 (ae .u8 (ar .shr .u64 (ar .shl .u64 (ae .u64 (ae .u64 x0)) 3) 24))) 3 (ae .u8 (ar .shr .u64 (ar .shl .u64 (ae .u64 (ae .u64 x0)) 3) 32))) 2 (ae .u8 (ar .shr .u64 (ar .shl .u64 (ae .u64 (ae .u64 x0)) 3) 40))) 1 (ae .u8 (ar .shr .u64 (ar .shl .u64 (ae .u64 (ae .u64 x0)) 3) 48))) 0 (ae .u8 (ar .shr .u64 (ar .shl .u64 (ae .u64 (ae .u64 x0)) 3) 56)))) j)∧mR ⟨[],[v9],[x3],[A6,A7],[],[],[]⟩)∧
 ∀v9:V1,∀x3:Int,∀A6:(Nat→Int),∀A7:(Nat→Int),mR ⟨[],[v9],[x3],[A6,A7],[],[],[]⟩→
 ax (0≤x3) (
 bt (0<x3) (
 ax (64≤x3) (
 ∃post,aq P 98 [.pointer (some ⟨b0,0,none⟩),(aF 1 v9.v 0 64 none)] [ak b0 true ([v0.v,v1.v,.int .i64 4,.int .i64 2,.int .i64 13,.int .i64 22,.int .i64 6,.int .i64 11,.int .i64 25,.int .i64 7,.int .i64 18,.int .i64 3,.int .i64 17,.int .i64 19,.int .i64 10]),aB true 39 1 v0.v 8 (aM 8 [ay .u32 1 A7]),aB true 39 1 v1.v 64 (aM 64 [ay .u32 1 A1]),aB true 5 1 v9.v (ag x3) (aM (ag x3) [ay .u8 1 A6])] post∧
 ∀x hs,post x hs→∃A8:(Nat→Int),x= .tuple #[]∧hs=[ak b0 true ([v0.v,v1.v,.int .i64 4,.int .i64 2,.int .i64 13,.int .i64 22,.int .i64 6,.int .i64 11,.int .i64 25,.int .i64 7,.int .i64 18,.int .i64 3,.int .i64 17,.int .i64 19,.int .i64 10]),aB true 39 1 v0.v 8 (aM 8 [ay .u32 1 A8]),aB true 39 1 v1.v 64 (aM 64 [ay .u32 1 A1]),aB true 5 1 v9.v (ag x3) (aM (ag x3) [ay .u8 1 A6])]∧
 ax (64≤x3) (
 ax (0≤(x3 - 64)) (
 ∀v10:V1,∃v9':V1,∃pO:Int,∃Jn:(Nat→Int),∃Jo:(Nat→Int),v9'=v10∧(∀j,j<8→Jo j=A8 j)∧v9'=v10∧pO=(x3 - 64)∧(∀j,j<(ag pO)→Jn j=(bY A6 64) j)∧mR ⟨[],[v9'],[pO],[Jn,Jo],[],[],[]⟩∧qx ⟨[],[v9'],[pO],[Jn,Jo],[],[],[]⟩<qx ⟨[],[v9],[x3],[A6,A7],[],[],[]⟩)))) (
 ∀b3:Nat,∀_:V1,∀_:Nat,∀_:V1,∀_:Nat,∀_:V1,∀_:Nat,∀_:V1,∀_:Nat,∀_:V1,∀_:Nat,∀_:V1,∀_:Nat,∀_:V1,∀_:Nat,∀_:V1,∀_:Nat,∀_:V1,∀_:Nat,∀_:V1,∀_:Nat,∀_:V1,∀_:Nat,∀_:V1,∀_:Nat,∀_:V1,∀_:Nat,∀_:V1,∀_:Nat,∀_:V1,∀_:Nat,∀_:V1,∀_:Nat,∀_:V1,∀_:Nat,∀_:V1,∀_:Nat,∀_:V1,∀_:Nat,∀_:V1,∀_:Nat,∀_:V1,∀_:Nat,∀_:V1,∀_:Nat,∀_:V1,∀_:Nat,∀_:V1,∀_:Nat,∀_:V1,∀_:Nat,∀_:V1,∀_:Nat,∀_:V1,∀_:Nat,∀_:V1,∀_:Nat,∀_:V1,∀_:Nat,∀_:V1,∀_:Nat,∀_:V1,∀_:Nat,∀NJ:V1,al (NJ.v) [ak b0 true ([v0.v,v1.v,.int .i64 4,.int .i64 2,.int .i64 13,.int .i64 22,.int .i64 6,.int .i64 11,.int .i64 25,.int .i64 7,.int .i64 18,.int .i64 3,.int .i64 17,.int .i64 19,.int .i64 10]),aB true 39 1 v0.v 8 (aM 8 [ay .u32 1 A7]),aB true 39 1 v1.v 64 (aM 64 [ay .u32 1 A1]),ak b1 true ([v2.v]),aB false 5 1 v2.v (ag x0) (aM (ag x0) [ay .u8 1 A2]),aB true 5 1 v9.v (ag x3) (aM (ag x3) [ay .u8 1 A6]),ak b2 true ([.int .u8 128]),aB true 5 1 v7.v 8 (aM 8 [ay .u8 1 (aw (aw (aw (aw (aw (aw (aw (aw (fun _=>0) 7 (ae .u8 (ar .shr .u64 (ar .shl .u64 (ae .u64 (ae .u64 x0)) 3) 0))) 6 (ae .u8 (ar .shr .u64 (ar .shl .u64 (ae .u64 (ae .u64 x0)) 3) 8))) 5 (ae .u8 (ar .shr .u64 (ar .shl .u64 (ae .u64 (ae .u64 x0)) 3) 16))) 4 (ae .u8 (ar .shr .u64 (ar .shl .u64 (ae .u64 (ae .u64 x0)) 3) 24))) 3 (ae .u8 (ar .shr .u64 (ar .shl .u64 (ae .u64 (ae .u64 x0)) 3) 32))) 2 (ae .u8 (ar .shr .u64 (ar .shl .u64 (ae .u64 (ae .u64 x0)) 3) 40))) 1 (ae .u8 (ar .shr .u64 (ar .shl .u64 (ae .u64 (ae .u64 x0)) 3) 48))) 0 (ae .u8 (ar .shr .u64 (ar .shl .u64 (ae .u64 (ae .u64 x0)) 3) 56)))]),ak b3 true ([.int .u8 (ae .u8 (ar .shr .u32 (A7 0) 24))]),aB true 5 1 NJ.v 32 (aM 32 [ay .u8 1 (aw (aw (aw (aw (aw (aw (aw (aw (aw (aw (aw (aw (aw (aw (aw (aw (aw (aw (aw (aw (aw (aw (aw (aw (aw (aw (aw (aw (aw (aw (aw (aw (fun _=>0) 0 (ae .u8 (ar .shr .u32 (A7 0) 24))) 1 (ae .u8 (ar .shr .u32 (A7 0) 16))) 2 (ae .u8 (ar .shr .u32 (A7 0) 8))) 3 (ae .u8 (ar .shr .u32 (A7 0) 0))) 4 (ae .u8 (ar .shr .u32 (A7 1) 24))) 5 (ae .u8 (ar .shr .u32 (A7 1) 16))) 6 (ae .u8 (ar .shr .u32 (A7 1) 8))) 7 (ae .u8 (ar .shr .u32 (A7 1) 0))) 8 (ae .u8 (ar .shr .u32 (A7 2) 24))) 9 (ae .u8 (ar .shr .u32 (A7 2) 16))) 10 (ae .u8 (ar .shr .u32 (A7 2) 8))) 11 (ae .u8 (ar .shr .u32 (A7 2) 0))) 12 (ae .u8 (ar .shr .u32 (A7 3) 24))) 13 (ae .u8 (ar .shr .u32 (A7 3) 16))) 14 (ae .u8 (ar .shr .u32 (A7 3) 8))) 15 (ae .u8 (ar .shr .u32 (A7 3) 0))) 16 (ae .u8 (ar .shr .u32 (A7 4) 24))) 17 (ae .u8 (ar .shr .u32 (A7 4) 16))) 18 (ae .u8 (ar .shr .u32 (A7 4) 8))) 19 (ae .u8 (ar .shr .u32 (A7 4) 0))) 20 (ae .u8 (ar .shr .u32 (A7 5) 24))) 21 (ae .u8 (ar .shr .u32 (A7 5) 16))) 22 (ae .u8 (ar .shr .u32 (A7 5) 8))) 23 (ae .u8 (ar .shr .u32 (A7 5) 0))) 24 (ae .u8 (ar .shr .u32 (A7 6) 24))) 25 (ae .u8 (ar .shr .u32 (A7 6) 16))) 26 (ae .u8 (ar .shr .u32 (A7 6) 8))) 27 (ae .u8 (ar .shr .u32 (A7 6) 0))) 28 (ae .u8 (ar .shr .u32 (A7 7) 24))) 29 (ae .u8 (ar .shr .u32 (A7 7) 16))) 30 (ae .u8 (ar .shr .u32 (A7 7) 8))) 31 (ae .u8 (ar .shr .u32 (A7 7) 0)))])]))))))))))))
theorem Om(P:Program)(al:Value→List HP→Prop)(x0:Int)(A0:Nat→Int)(A1:Nat→Int)(A2:Nat→Int)(v0:V1)(v1:V1)(v2:V1)(b0:Nat)(b1:Nat)(L:Nat→LC):VC P (fun v hs=>al v (hs.take 10)) Dl {iv:=[x0],av:=[A0,A1,A2],bo:=[],bv:=[b0,b1],vv:=[v0,v1,v2]} L=xw P al x0 A0 A1 A2 v0 v1 v2 b0 b1:=by kernel_rfl
theorem JN:nZ Fm.cx 47 ([SV.ptr 0 0,SV.sl 1 (E.lit 0) 1 (E.lit 1) (E.lit 1)]) ([Ck.row 0 true [SV.vv 0,SV.vv 1,SV.int (auA) (E.lit 4),SV.int (auA) (E.lit 2),SV.int (auA) (E.lit 13),SV.int (auA) (E.lit 22),SV.int (auA) (E.lit 6),SV.int (auA) (E.lit 11),SV.int (auA) (E.lit 25),SV.int (auA) (E.lit 7),SV.int (auA) (E.lit 18),SV.int (auA) (E.lit 3),SV.int (auA) (E.lit 17),SV.int (auA) (E.lit 19),SV.int (auA) (E.lit 10)],Ck.cC true 0 39 1 (E.lit 8) [{ck:=CK.int (Go.IntKind.u32),w:=1,a:=E.cU 0}],Ck.cC true 1 39 1 (E.lit 64) [{ck:=CK.int (Go.IntKind.u32),w:=1,a:=E.cU 1}],Ck.row 1 true [SV.vv 2],Ck.cC false 2 5 1 (E.var 0) [{ck:=CK.int (Go.IntKind.u8),w:=1,a:=E.cU 2}]]) ({b:=2,v:=3,i:=1,a:=3,bo:=0,p:=0,r:=0}) Tryz.f47=Dl:=rfl
theorem On(al:Value→List HP→Prop)(x0:Int)(A0:Nat→Int)(A1:Nat→Int)(A2:Nat→Int)(v0:V1)(v1:V1)(v2:V1)(b0:Nat)(b1:Nat)(h:xw auN al x0 A0 A1 A2 v0 v1 v2 b0 b1):aq auN 47 [.pointer (some ⟨b0,0,none⟩),.slice (some ⟨b1,0,none⟩) 1 1] [ak b0 true ([v0.v,v1.v,.int .i64 4,.int .i64 2,.int .i64 13,.int .i64 22,.int .i64 6,.int .i64 11,.int .i64 25,.int .i64 7,.int .i64 18,.int .i64 3,.int .i64 17,.int .i64 19,.int .i64 10]),aB true 39 1 v0.v 8 (aM 8 [ay .u32 1 A0]),aB true 39 1 v1.v 64 (aM 64 [ay .u32 1 A1]),ak b1 true ([v2.v]),aB false 5 1 v2.v (ag x0) (aM (ag x0) [ay .u8 1 A2])] al:=
 aq.post (aq.sQ (C:=Fm.cx) (a_:=({b:=2,v:=3,i:=1,a:=3,bo:=0,p:=0,r:=0})) (ρ:={iv:=[x0],av:=[A0,A1,A2],bo:=[],bv:=[b0,b1],vv:=[v0,v1,v2]}) YW I0 YX Tryz.func47 (by constructor<;>rfl) (al:=(fun v hs=>al v (hs.take 10))) (args:=([Go.RX.SV.ptr 0 0,Go.RX.SV.sl 1 (Go.RX.E.lit 0) 1 (Go.RX.E.lit 1) (Go.RX.E.lit 1)])) (hp:=([Go.RX.Ck.row 0 true [Go.RX.SV.vv 0,Go.RX.SV.vv 1,Go.RX.SV.int (auA) (Go.RX.E.lit 4),Go.RX.SV.int (auA) (Go.RX.E.lit 2),Go.RX.SV.int (auA) (Go.RX.E.lit 13),Go.RX.SV.int (auA) (Go.RX.E.lit 22),Go.RX.SV.int (auA) (Go.RX.E.lit 6),Go.RX.SV.int (auA) (Go.RX.E.lit 11),Go.RX.SV.int (auA) (Go.RX.E.lit 25),Go.RX.SV.int (auA) (Go.RX.E.lit 7),Go.RX.SV.int (auA) (Go.RX.E.lit 18),Go.RX.SV.int (auA) (Go.RX.E.lit 3),Go.RX.SV.int (auA) (Go.RX.E.lit 17),Go.RX.SV.int (auA) (Go.RX.E.lit 19),Go.RX.SV.int (auA) (Go.RX.E.lit 10)],Go.RX.Ck.cC true 0 39 1 (Go.RX.E.lit 8) [{ck:=Go.RX.CK.int (Go.IntKind.u32),w:=1,a:=Go.RX.E.cU 0}],Go.RX.Ck.cC true 1 39 1 (Go.RX.E.lit 64) [{ck:=Go.RX.CK.int (Go.IntKind.u32),w:=1,a:=Go.RX.E.cU 1}],Go.RX.Ck.row 1 true [Go.RX.SV.vv 2],Go.RX.Ck.cC false 2 5 1 (Go.RX.E.var 0) [{ck:=Go.RX.CK.int (Go.IntKind.u8),w:=1,a:=Go.RX.E.cU 2}]])) JN (Om auN al x0 A0 A1 A2 v0 v1 v2 b0 b1 (fun _=>LC.none)) h) fun _ hs hq=>⟨_,bI.sub (List.take_sublist 10 hs),hq⟩
noncomputable def Hj:F:=nZ Fm.cx 22 ([SV.sl 0 (E.lit 0) 1 (E.lit 1) (E.lit 1)]) ([Ck.row 0 true [SV.vv 0],Ck.cC false 0 5 1 (E.var 0) [{ck:=CK.int (Go.IntKind.u8),w:=1,a:=E.cU 0}]]) ({b:=1,v:=1,i:=1,a:=1,bo:=0,p:=0,r:=0}) Tryz.f22
def Bc(P:Program)(al:Value→List HP→Prop)(x0:Int)(A0:Nat→Int)(v0:V1)(b0:Nat):Prop:=
 ∀b1:Nat,∃post,aq P 46 [] [] post∧
 ∀x hs,post x hs→∃b2:Nat,∃v1:V1,∃v2:V1,∃A1:(Nat→Int),∃A2:(Nat→Int),x= .pointer (some ⟨b2,0,none⟩)∧hs=[ak b2 true ([v1.v,v2.v,.int .i64 4,.int .i64 2,.int .i64 13,.int .i64 22,.int .i64 6,.int .i64 11,.int .i64 25,.int .i64 7,.int .i64 18,.int .i64 3,.int .i64 17,.int .i64 19,.int .i64 10]),aB true 39 1 v1.v 8 (aM 8 [ay .u32 1 A1]),aB true 39 1 v2.v 64 (aM 64 [ay .u32 1 A2])]∧
 ∃post,aq P 47 [.pointer (some ⟨b2,0,none⟩),.slice (some ⟨b0,0,none⟩) 1 1] [ak b2 true ([v1.v,v2.v,.int .i64 4,.int .i64 2,.int .i64 13,.int .i64 22,.int .i64 6,.int .i64 11,.int .i64 25,.int .i64 7,.int .i64 18,.int .i64 3,.int .i64 17,.int .i64 19,.int .i64 10]),aB true 39 1 v1.v 8 (aM 8 [ay .u32 1 A1]),aB true 39 1 v2.v 64 (aM 64 [ay .u32 1 A2]),ak b0 true ([v0.v]),aB false 5 1 v0.v (ag x0) (aM (ag x0) [ay .u8 1 A0])] post∧
 ∀x hs,post x hs→∃v3:V1,∃A3:(Nat→Int),x=v3.v∧hs=[ak b0 true ([v0.v]),aB false 5 1 v0.v (ag x0) (aM (ag x0) [ay .u8 1 A0]),aB true 5 1 v3.v 32 (aM 32 [ay .u8 1 A3])]∧
 al (.agg (aul (aj .u8 32 A3) ([])).toArray) [HP.emp,HP.emp,ak b1 true (aul (aj .u8 32 A3) ([])),ak b0 true ([v0.v]),aB false 5 1 v0.v (ag x0) (aM (ag x0) [ay .u8 1 A0]),aB true 5 1 v3.v 32 (aM 32 [ay .u8 1 A3])]
theorem SQ(P:Program)(al:Value→List HP→Prop)(x0:Int)(A0:Nat→Int)(v0:V1)(b0:Nat)(L:Nat→LC):VC P al Hj {iv:=[x0],av:=[A0],bo:=[],bv:=[b0],vv:=[v0]} L=Bc P al x0 A0 v0 b0:=by kernel_rfl
theorem Oo:nZ Fm.cx 22 ([SV.sl 0 (E.lit 0) 1 (E.lit 1) (E.lit 1)]) ([Ck.row 0 true [SV.vv 0],Ck.cC false 0 5 1 (E.var 0) [{ck:=CK.int (Go.IntKind.u8),w:=1,a:=E.cU 0}]]) ({b:=1,v:=1,i:=1,a:=1,bo:=0,p:=0,r:=0}) Tryz.f22=Hj:=rfl
theorem SR(al:Value→List HP→Prop)(x0:Int)(A0:Nat→Int)(v0:V1)(b0:Nat)(h:Bc auN al x0 A0 v0 b0):aq auN 22 [.slice (some ⟨b0,0,none⟩) 1 1] [ak b0 true ([v0.v]),aB false 5 1 v0.v (ag x0) (aM (ag x0) [ay .u8 1 A0])] al:=
 aq.post (aq.sQ (C:=Fm.cx) (a_:=({b:=1,v:=1,i:=1,a:=1,bo:=0,p:=0,r:=0})) (ρ:={iv:=[x0],av:=[A0],bo:=[],bv:=[b0],vv:=[v0]}) YW I0 YX Tryz.func22 (by constructor<;>rfl) (al:=al) (args:=([Go.RX.SV.sl 0 (Go.RX.E.lit 0) 1 (Go.RX.E.lit 1) (Go.RX.E.lit 1)])) (hp:=([Go.RX.Ck.row 0 true [Go.RX.SV.vv 0],Go.RX.Ck.cC false 0 5 1 (Go.RX.E.var 0) [{ck:=Go.RX.CK.int (Go.IntKind.u8),w:=1,a:=Go.RX.E.cU 0}]])) Oo (SQ auN al x0 A0 v0 b0 (fun _=>LC.none)) h) fun _ hs hq=>⟨_,bI.refl hs,hq⟩
open Go Go.RX Go.Proofs Go.RX.Sh Go.RX.Fg Go.RX.Fj Go.RX.Fk
set_option maxHeartbeats 4000000 in
theorem EB(b:Nat)(b1:Nat)(vh vk w0:V1)(n0:Nat)(T0 M:Nat→Nat)(hM: ∀j,M j<256)(hT0: ∀j,j<n0→T0 j=M (0+j))(A0 A1:Nat→Int)(vV: ∀j,j<8→A0 j=(H0 j:Nat))(X4: ∀j,j<64→A1 j=(K0 j:Nat))(hl:n0+300≤140737488355328):
  aq auN 47 [.pointer (some ⟨b,0,none⟩),.slice (some ⟨b1,0,none⟩) 1 1] [wh b vh vk,fM vh 8 A0,fM vk 64 A1,ak b1 true [w0.v],dG false w0 n0 T0] fun r hs=> ∃o:V1,r=o.v∧hs=[ak b1 true [w0.v],dG false w0 n0 T0,dG true o 32 (xu (n0+0) M)]:=by
 refine aq.post (p:=fun r hs=> ∃o:V1,r=o.v∧hs[3]? =some (ak b1 true [w0.v])∧hs[4]? =some (dG false w0 n0 T0)∧hs[9]? =some (dG true o 32 (xu (n0+0) M))) ?_ ?_;rotate_left
 ·rintro r hs ⟨o,rfl,g0,g1,g2⟩;refine⟨_,bI.idx [3,4,9] (by decide) ?_,o,rfl,rfl⟩;intro m u hu
  match m,hu with
  | 0,hu=>cases hu;exact⟨3,rfl,g0⟩
  | 1,hu=>cases hu;exact⟨4,rfl,g1⟩
  | 2,hu=>cases hu;exact⟨9,rfl,g2⟩
  | m+3,hu=>simp at hu
 refine On _ (n0:Int) A0 A1 (fun j=>(T0 j:Nat)) vh vk w0 b b1 ?_;unfold xw;have hS:=Lm hM (n0+0);obtain⟨N,hN⟩: ∃N,N=n0+0:=⟨_,rfl⟩;rw [←hN]at hS ⊢;have hNl:N+300≤140737488355328:=by omega
 have P3: ∀j,j<N→lh N M j=M j:=fun j hj=>by unfold lh;rw [if_pos hj]
 have hq:eu N=64*((N+8)/64+1):=rfl;refine⟨by omega,fun _=>⟨by omega,fun _=>?_⟩⟩;intro u0;refine⟨fun e=> ∃q r:Nat,64*q+r=n0∧e.i=[(r:Int)]∧(∀j,j<r→(e.a.getD 0 fun _=>0) j=(lh N M (64*q+j):Nat))∧∀j,j<8→(e.a.getD 1 fun _=>0) j=(yu (lh N M) q j:Nat),fun e=>(e.i.getD 0 0:Int).toNat,?_,?_⟩
 ·refine⟨u0,_,_,_,rfl,fun _ _=>rfl,rfl,rfl,fun _ _=>rfl,0,n0,by omega,rfl,fun j hj=>?_,fun j hj=>?_⟩
  ·simp only [ah];rw [P3 _ (by omega),hT0 j hj]
  ·simp only [ah,List.getD_cons_succ];exact vV j hj
 rintro z0 x B0 C0 ⟨q,r,hqr,hx,hB,hH⟩;simp only [List.cons.injEq,and_true]at hx;subst hx;simp only [ah,List.getD_cons_succ]at hB hH;refine⟨by omega,fun _=>⟨fun mn=>?_,fun cF=>?_⟩⟩
 ·refine⟨_,yv (B:=[aB true 5 1 z0.v r (aM r [ay .u8 1 B0])]) b vh vk (bR 1 z0.v 0 64 none) C0 A1 K0 (yu (lh N M) q) (fun i=>lh N M (64*q+i)) hH (JM _ q) X4 (fun j=>hS _) (SP (by omega) hB),?_⟩;rintro x hs ⟨C,rfl,rfl,hC⟩;refine⟨C,rfl,rfl,by omega,fun _=>⟨by omega,fun _=>?_⟩⟩;intro u;refine⟨u,_,_,_,rfl,fun _ _=>rfl,rfl,rfl,fun _ _=>rfl,⟨q+1,r - 64,by omega,congrArg (fun z:Int=>[z]) (by omega),fun j hj=>?_,fun j hj=>?_⟩,?_⟩
  ·simp only [ah];unfold bY;rw [hB _ (by omega)];congr 2;omega
  ·simp only [ah,List.getD_cons_succ];exact hC j hj
  ·simp only [ah];omega
 intro b2;refine⟨by omega,fun _=>?_⟩;intro u8;have hqN:N=64*q+r:=by omega
 have arq:r<64:=by omega
 have tr:ag (r:Int)=r:=rfl;rw [tr];refine⟨fun e=> ∃k:Nat,r+1≤k∧k+8+64*q≤eu N∧e.i=[(k:Int)]∧∀j,j<k→(e.a.getD 0 fun _=>0) j=(lh N M (64*q+j):Nat),fun e=>((200:Int) - e.i.getD 0 0).toNat,⟨u8,_,_,rfl,rfl,rfl,fun _ _=>rfl,r+1,by omega,by omega,by rw [Int.natCast_add];rfl,fun j hj=>?_⟩,?_⟩
 ·simp only [ah];unfold bX;by_cases c:j<r
  ·rw [if_neg (by omega)];exact hB j c
  ·have:j=r:=by omega
   subst this;rw [if_pos (by omega),Nat.sub_self];unfold lh;rw [if_neg (by omega),if_pos (by omega)];rfl
 rintro z8 x D ⟨k,hk1,hk2,hx,hD⟩;simp only [List.cons.injEq,and_true]at hx;subst hx;simp only [ah]at hD;have WY:ar .rem .i64 ((k:Int)+8) 64=(((k+8)%64:Nat):Int):=by rw [show(k:Int)+8=((k+8:Nat):Int) by omega];rfl
 rw [WY];have tk:ag (k:Int)=k:=rfl;rw [tk]
 iterate 3 refine⟨by omega,fun _=>?_⟩
 refine⟨fun fy=>?_,fun heq=>?_⟩
 ·intro b3;refine⟨by omega,fun _=>?_⟩;intro u;refine⟨u,_,_,rfl,rfl,rfl,fun _ _=>rfl,⟨k+1,by omega,by omega,by rw [Int.natCast_add];rfl,fun j hj=>?_⟩,?_⟩
  ·simp only [ah];unfold aw;split
   ·rename_i c;unfold lh;rw [if_neg (by omega),if_neg (by omega),if_pos (by omega)];rfl
   ·exact hD j (by omega)
  ·simp only [ah];omega
 have hk:k+8+64*q=eu N:=by omega
 intro u9;refine⟨by omega,fun _=>?_⟩;intro u10;have hw:ae .u64 (ae .u64 (n0:Int))=(N:Int):=by
  rw [hN];rw [w64 (by omega),w64 (by omega)];rfl
 rw [hw];refine⟨fun e=> ∃p:Nat,64*p≤eu N∧e.i=[((eu N - 64*p:Nat):Int)]∧(∀j,j<eu N - 64*p→(e.a.getD 0 fun _=>0) j=(lh N M (64*p+j):Nat))∧∀j,j<8→(e.a.getD 1 fun _=>0) j=(yu (lh N M) p j:Nat),fun e=>(e.i.getD 0 0:Int).toNat,⟨u10,_,_,_,rfl,fun _ _=>rfl,rfl,rfl,fun _ _=>rfl,q,by omega,congrArg (fun z:Int=>[z]) (by omega),fun j hj=>?_,fun j hj=>?_⟩,?_⟩
 ·simp only [ah];unfold bX;by_cases c:j<k
  ·rw [if_neg (by omega)];exact hD j c
  ·rw [if_pos (by omega),abg (by omega) _ (by omega)];unfold lh;rw [if_neg (by omega),if_neg (by omega),if_neg (by omega)];congr 2;omega
 ·simp only [ah,List.getD_cons_succ];exact hH j hj
 rintro z10 x E F ⟨p,hp,hx,hE,hF⟩;simp only [List.cons.injEq,and_true]at hx;subst hx;simp only [ah,List.getD_cons_succ]at hE hF;have tp:ag ((eu N - 64*p:Nat):Int)=eu N - 64*p:=rfl;rw [tp];refine⟨by omega,fun _=>⟨fun t_=>?_,fun aru=>?_⟩⟩
 ·refine⟨by omega,fun _=>?_⟩;refine⟨_,yv (B:=[aB true 5 1 z10.v (eu N - 64*p) (aM (eu N - 64*p) [ay .u8 1 E])]) b vh vk (bR 1 z10.v 0 64 none) F A1 K0 (yu (lh N M) p) (fun i=>lh N M (64*p+i)) hF (JM _ p) X4 (fun j=>hS _) (SP (by omega) hE),?_⟩;rintro x hs ⟨C,rfl,rfl,hC⟩;refine⟨C,rfl,rfl,by omega,fun _=>⟨by omega,fun _=>?_⟩⟩;intro u;refine⟨u,_,_,_,rfl,fun _ _=>rfl,rfl,rfl,fun _ _=>rfl,⟨p+1,by omega,congrArg (fun z:Int=>[z]) (by omega),fun j hj=>?_,fun j hj=>?_⟩,?_⟩
  ·simp only [ah];unfold bY;rw [hE _ (by omega)];congr 2;omega
  ·simp only [ah,List.getD_cons_succ];exact hC j hj
  ·simp only [ah];omega
 ·have Ir:p=(N+8)/64+1:=by omega
  intros
  refine⟨_,rfl,rfl,rfl,congrArg some ?_⟩;unfold dG xu;rw [nL (n:=32) (g:=fun j=>((Sh.bytesOf (yu (lh N M) ((N+8)/64+1)) j:Nat):Int))];intro j hj;rw [←Ir];exact ae8 hF j hj
open Go Go.RX Go.Proofs Go.RX.Sh Go.RX.Fg Go.RX.Fj Go.RX.Fk
theorem Hk(b1:Nat)(w0:V1)(n0:Nat)(T0 M:Nat→Nat)(hM: ∀j,M j<256)(hT0: ∀j,j<n0→T0 j=M (0+j))(hl:n0+300≤140737488355328):aq auN 22 [.slice (some ⟨b1,0,none⟩) 1 1] [ak b1 true [w0.v],dG false w0 n0 T0] fun r hs=>r=(Value.agg (aj .u8 32 fun j=>((xu (n0+0) M j:Nat):Int)).toArray)∧hs=[ak b1 true [w0.v],dG false w0 n0 T0]:=by
 refine aq.post (p:=fun r hs=>r=(Value.agg (aj .u8 32 fun j=>((xu (n0+0) M j:Nat):Int)).toArray)∧hs[3]? =some (ak b1 true [w0.v])∧hs[4]? =some (dG false w0 n0 T0)) ?_ ?_;rotate_left
 ·rintro r hs ⟨rfl,g0,g1⟩;refine⟨_,bI.idx [3,4] (by decide) ?_,rfl,rfl⟩;intro m u hu
  match m,hu with
  | 0,hu=>cases hu;exact⟨3,rfl,g0⟩
  | 1,hu=>cases hu;exact⟨4,rfl,g1⟩
  | m+2,hu=>simp at hu
 refine SR _ (n0:Int) (fun j=>(T0 j:Nat)) w0 b1 ?_;unfold Bc;intro b0;refine⟨_,EA,?_⟩;rintro x hs ⟨b,vh,vk,A,B,rfl,rfl,hA,hB⟩;refine⟨b,vh,vk,A,B,rfl,rfl,?_⟩;refine⟨_,EB b b1 vh vk w0 n0 T0 M hM hT0 A B hA hB hl,?_⟩;rintro x hs ⟨o,rfl,rfl⟩;refine⟨o,fun j=>(xu (n0+0) M j:Nat),rfl,rfl,by rw [List.append_eq,List.append_nil],rfl,rfl⟩
end Go.RX.Fm

namespace Go.RX
theorem aq.JO{P:Program}{f:Nat}{args:List Value}{L:List HP}{p:Value→List HP→Prop}(hm:aq P f args L p)(hw: ∀h∈L,h.wr=false):aq P f args L fun r hs=> ∃nw,hs=L++nw∧p r nw:=by
 refine(aq.pre (aq.frame hm L) (bI.X6 hw)).post ?_;rintro r hs ⟨nw,rfl,h⟩;exact⟨_,bI.perm List.perm_append_comm,nw,rfl,h⟩
end Go.RX
namespace Go.RX.Vb
open Go Go.RX Go.Proofs Go.Vs Go.RX.Fm Go.RX.Sh
def eu(l:List Nat):List Nat:=(List.range 32).map (xu l.length fun j=>l.getD j 0)
theorem cm(l:List Nat):(eu l).length=32:=by simp [eu]
theorem Hl(l:List Nat){j:Nat}(h:j<32):aI (eu l) j=((xu l.length (fun j=>l.getD j 0) j:Nat):Int):=by
 rw [gj (by rw [cm];exact h)];simp [eu]
theorem EC(l:List Nat): ∀x∈eu l,x<256:=by
 intro x hx;obtain⟨j,_,rfl⟩:=auL.1 hx;exact WX _ _ _
theorem Lo{l:List Nat}(h: ∀x∈l,x<256)(j:Nat):l.getD j 0<256:=by
 rw [auO];by_cases hj:j<l.length
 ·rw [auU hj];exact h _ (List.getElem_mem hj)
 ·rw [au0 (by omega)];decide
def eB:List Nat:=[72,76,83,84,0,1]
def fP(l:List Nat):List Nat:=eB++be 4 l.length++l
def cy(l:List Nat):List Nat:=fP l++(eu (fP l)).take 8
theorem cA(l:List Nat):(fP l).length=10+l.length:=by
 simp [fP,eB,au];omega
theorem wi{l:List Nat}(h: ∀x∈l,x<256): ∀x∈fP l,x<256:=by
 intro x hx;rcases auE.1 hx with hx | hx
 ·rcases auE.1 hx with hx | hx
  ·simp only [eB,List.mem_cons,List.not_mem_nil,or_false]at hx;omega
  ·exact XR _ _ x hx
 ·exact h x hx
theorem Hm(b:Nat)(v:V1)(l:List Nat)(h: ∀x∈l,x<256)(hl:l.length+300≤140737488355328):aq auN 22 [.slice (some ⟨b,0,none⟩) 1 1] [ak b true [v.v],aR false v.v l]
  fun r hs=>r= .agg (aj .u8 32 (aI (eu l))).toArray∧hs=[ak b true [v.v],aR false v.v l]:=by
 refine aq.post (Hk b v l.length (fun j=>l.getD j 0) (fun j=>l.getD j 0) (Lo h) (fun j _=>by rw [Nat.zero_add]) hl) ?_;rintro r hs ⟨rfl,rfl⟩;refine⟨_,bI.refl _,?_,rfl⟩;exact congrArg (fun z:List Value=>Value.agg z.toArray) (fR fun j hj=>(Hl l hj).symm)
theorem WZ(b:Nat)(v:V1)(l:List Nat)(h: ∀x∈l,x<256)(hl:l.length+300≤140737488355328):aq auN 22 [.slice (some ⟨b,0,none⟩) 1 1] [ak b true [v.v],aR true v.v l]
  fun r hs=>r= .agg (aj .u8 32 (aI (eu l))).toArray∧hs=[ak b true [v.v],aR true v.v l]:=by
 have h1:aq auN 22 [.slice (some ⟨b,0,none⟩) 1 1] ([ak b true [v.v]]++[aR false v.v l]) fun r hs=>r= .agg (aj .u8 32 (aI (eu l))).toArray∧hs=[ak b true [v.v]]:=by
  refine aq.post (Hm b v l h hl) ?_;rintro r hs ⟨rfl,rfl⟩;exact⟨_,bI.sub (.cons_cons _ (.cons _ .slnil)),rfl,rfl⟩
 refine aq.post (aq.Co (B:=[aR true v.v l]) h1 ?_ ?_) ?_
 ·rintro _ hs ⟨_,rfl⟩ x hx;rw [auz.1 hx];rfl
 ·intro x hx;rw [auz.1 hx];exact bc.own
 ·rintro r hs ⟨yS,⟨rfl,rfl⟩,rfl⟩;exact⟨_,bI.refl _,rfl,rfl⟩
theorem cj.nm{A:Nat→Int}{l:List Nat}{o:Nat}{z:Int}{c:Nat}(h:cj A l)(ho:o=l.length)(hz:z=c):cj (aw A o z) (l++[c]):=by
 subst ho hz;intro j hj;rw [aum,aun]at hj;simp only [aw,aI,auO];split
 ·rename_i e;subst e;simp
 ·rw [auu (by omega),h j (by omega)];simp [aI]
theorem JP(b b1:Nat)(x:Nat):aq auN 21 [wP b,.int .u64 (x:Int),.int .i64 4] [ak b true ([.bool true,.slice (some ⟨b1,0,none⟩) 6 6,.bool false]),ak b1 false ([.int .u8 72,.int .u8 76,.int .u8 83,.int .u8 84,.int .u8 0,.int .u8 1])]
  fun r hs=>r= .int .u64 (x:Int)∧∃v':V1,hs=[dy b true v'.v false,aR true v'.v (eB++be 4 x)]:=by
 refine aq.post (Wf (fun r hs=>r= .int .u64 (x:Int)∧∃v':V1,List.Sublist [dy b true v'.v false,aR true v'.v (eB++be 4 x)] hs) (x:Int) b b1 ?_) ?_;rotate_left
 ·rintro r hs ⟨rfl,v',h⟩;exact⟨_,bI.sub h,rfl,v',rfl⟩
 unfold La;dsimp only [QE,dt];intro b2 _ b3 _ b4 _ b5 v';refine⟨rfl,v',?_⟩;have hb:cj (aw (aw (aw (aw (aw (aw (fun _=>(0:Int)) 0 72) 1 76) 2 83) 3 84) 4 0) 5 1) eB:=by
  intro j hj
  match j,hj with
  | 0,_=>rfl
  | 1,_=>rfl
  | 2,_=>rfl
  | 3,_=>rfl
  | 4,_=>rfl
  | 5,_=>rfl
  | j+6,hj=>exact absurd hj (by simp [eB])
 have h1:=hb.jI (o:=6) (n:=1) (m:=[x/2^24%256]) (g:=aw (fun _=>0) 0 (ae .u8 (ar .shr .u64 (x:Int) 24))) rfl rfl fun j hj=>by
  rw [show j=0 by omega];exact gi x 24 (by omega) 24 rfl
 have h2:=h1.nm (o:=7) rfl (gi x 16 (by omega) 16 rfl);have h3:=h2.nm (o:=8) rfl (gi x 8 (by omega) 8 rfl);have h4:=h3.nm (o:=9) rfl (gi x 0 (by omega) 0 rfl);have e:eB++be 4 x=eB++[x/2^24%256]++[x/2^16%256]++[x/2^8%256]++[x/2^0%256]:=by
  simp only [be,List.nil_append,Nat.pow_zero,Nat.div_one,List.append_assoc,Nat.div_div_eq_div_mul,Nat.reducePow,Nat.reduceMul,List.cons_append]
 rw [e];refine .cons_cons _ (.cons _ (.cons _ ?_));have h5:=h4.xi;have e10:(eB++[x/2^24%256]++[x/2^16%256]++[x/2^8%256]++[x/2^0%256]).length=10:=rfl;rw [e10]at h5;rw [h5];exact .cons_cons _ (.cons _ (.cons _ (.cons _ .slnil)))
set_option maxRecDepth 100000 in
set_option maxHeartbeats 4000000 in
theorem Dm(s:Vs.State)(most cM:Int)(u1 u2 u3 u4 u5 u6 u7:V1)(C:Nat→Int)(H:HP)(hH:H.wr=false)(hP:lg H s.table.aL C)(hs:si s)(hm:kf s most cM=true→most=(s.table.most:Int)∧cM=(s.call.fQ:Int) - 1∧AQ s)(hb:fL (aZ.enc s)):
  aq auN 9 [.agg (jY s most cM u1.v u2.v u3.v u4.v u5.v u6.v u7.v).toArray] (ef false s C u1.v u2.v u3.v u4.v u5.v u6.v u7.v++[H]) fun r hs=>
   (kf s most cM=false→r= .tuple #[.slice none 0 0,.int .i64 2]∧hs=[])∧
   (kf s most cM=true→4194286<(aZ.enc s).length→r= .tuple #[.slice none 0 0,.int .i64 3]∧hs=[])∧
   (kf s most cM=true→(aZ.enc s).length≤4194286→∃o:V1,r= .tuple #[o.v,.int .i64 0]∧hs=[aR true o.v (cy (aZ.enc s))]):=by
 have hw: ∀h∈ef false s C u1.v u2.v u3.v u4.v u5.v u6.v u7.v++[H],h.wr=false:=by
  intro h hh;rcases auE.1 hh with hh | hh
  ·exact lookW rfl h hh
  ·rw [auz.1 hh];exact hH
 refine aad _ (s.drawn:Int) (s.table.keys.dev.a:Int) (s.table.keys.dev.d:Int) most (s.call.me.a:Int) (s.call.me.d:Int) (s.call.state:Int) (bi s.call.out) (s.call.aP:Int) (s.call.peer.a:Int) (s.call.peer.d:Int) cM (s.call.eO:Int) (s.call.bV:Int) (s.call.since:Int) (s.call.heard:Int) (s.call.mC:Int) (s.call.hZ:Int)
  (s.table.keys.once.length:Int) (s.table.aL.length:Int) (s.call.dead.length:Int) (s.call.marks.length:Int) (s.call.early.length:Int) (s.log.length:Int) (s.aH.length:Int)
  (aI s.mD) (aI s.table.keys.ident) (aI s.table.keys.signed) (aI s.call.dv) (aI s.call.id) (aI s.call.own) (aI s.call.dx) (aI s.call.gY) (bN cV.id s.table.keys.once) (cq cV.cP s.table.keys.once) (bN (fun p:ez=>p.dev.a) s.table.aL) (bN (fun p:ez=>p.dev.d) s.table.aL) C (cq (fun x=>x) s.call.dead) (aI s.call.marks) (bN jl.a s.call.early) (bN jl.d s.call.early) (aI s.log) (cq Room.id s.aH) (bN Room.aP s.aH) (er Room.out s.aH) (bN Room.since s.aH) u1 u2 u3 u4 u5 u6 u7 H ?_
 unfold RR;dsimp only [bh,bq,oW,qu,pC,s_,pD,QE,dt,wI];intro b0;refine⟨_,aq.looks (xp s most cM u1 u2 u3 u4 u5 u6 u7 C H hH hP hs) hw,?_⟩;rintro x lP ⟨rfl,rfl⟩;refine⟨_,rfl,rfl,?_⟩;refine⟨fun hq=>?_,fun hq=>?_⟩
 ·have hf:kf s most cM=false:=by simpa using hq
  exact⟨fun _=>⟨rfl,rfl⟩,fun h=>Bool.noConfusion (hf.symm.trans h),fun h=>Bool.noConfusion (hf.symm.trans h)⟩
 have ht:kf s most cM=true:=by simpa using hq
 obtain⟨rfl,rfl,iz⟩:=hm ht;refine⟨_,aq.JO (uD s u1 u2 u3 u4 u5 u6 u7 C H hH hP iz hb.n) hw,?_⟩;rintro x lP ⟨nw,rfl,o,rfl,rfl⟩;obtain⟨L,hL⟩: ∃L,L=aZ.enc s:=⟨_,rfl⟩;rw [←hL]at hb ⊢;refine⟨o,(L.length:Int),aI L,rfl,rfl,?_⟩;refine⟨by omega,fun _=>⟨fun hl=>?_,fun hl=>?_⟩⟩
 ·exact⟨fun h=>Bool.noConfusion (ht.symm.trans h),fun _ _=>⟨rfl,rfl⟩,fun _ h=>absurd h (by omega)⟩
 have OX:L.length≤4194286:=by omega
 intro b1 b2;rw [iV (by omega)];refine⟨_,JP b2 b1 L.length,?_⟩;rintro x lP ⟨rfl,v8,rfl⟩;have n0:(eB++be 4 L.length).length=10:=by simp [eB,au]
 refine⟨v8,(L.length:Int),10,aI (eB++be 4 L.length),rfl,congrArg (fun n:Nat=>[dy b2 true v8.v false,aB true 5 1 v8.v n (aM n [ay .u8 1 (aI (eB++be 4 L.length))])]) n0,?_⟩;refine⟨by omega,fun _=>⟨by omega,fun _=>?_⟩⟩;intro v9 b3;have hA:cj (bX (aI (eB++be 4 L.length)) (ag 10) (ag (L.length:Int)) (aI L)) (fP L):=cj.rfl.jI n0.symm (auD _) fun _ _=>rfl
 have hn:ag (10+(L.length:Int))=(fP L).length:=by rw [cA];omega
 rw [hn,hA.xi];refine⟨_,WZ b3 v9 (fP L) (wi hb.b) (by rw [cA];omega),?_⟩;rintro x lP ⟨rfl,rfl⟩;refine⟨aI (eu (fP L)),by rw [show∀l:List Value,aul l []=l from List.append_nil],rfl,?_⟩;intro b4;refine⟨by omega,fun _=>⟨by omega,fun _=>?_⟩⟩;intro v10;refine⟨fun h=>Bool.noConfusion (ht.symm.trans h),fun _ h=>absurd h (by omega),fun _ _=>⟨v10,rfl,?_⟩⟩;have hB:cj (bX (bX (aI (eB++be 4 L.length)) (ag 10) (ag (L.length:Int)) (aI L)) (fP L).length 8 (aI (eu (fP L)))) (cy L):=hA.jI rfl (by rw [List.length_take,cm];rfl) fun j hj=>by
  rw [gj (by rw [cm];omega),gj (by rw [List.length_take,cm];omega),List.getElem_take]
 have hn2:ag (10+(L.length:Int)+8)=(cy L).length:=by
  rw [cy,aum,cA,List.length_take,cm];omega
 rw [hn2,hB.xi]
open Go Go.RX Go.Proofs Go.Vs
theorem SS{e:cf}(h:bS.ok e):qO e:=by
 obtain⟨⟨a1,a2,a3,a4,_,_,_,_,⟨a5,a6⟩,⟨a7,a8⟩,a9,Gp,D8⟩,b1,b2,_,b3,_⟩:=h;exact⟨a1,a2,a3,a4,a5,a6,a7,a8,a9,Gp,fun x hx=>(D8 x hx).1,fun x hx=>(D8 x hx).2.1,fun x hx=>(D8 x hx).2.2,b1,b2,b3⟩
theorem Oq{p:ez}(h:bM.ok p):kb p:=by
 obtain⟨⟨a1,a2⟩,a3,a4⟩:=h;exact⟨a1,a2,a3,fun e he=>SS (a4 e he)⟩
theorem zF{s:Vs.State}(h:aZ.ok s):AQ s:=by
 obtain⟨a1,a2,⟨⟨⟨a3,a4⟩,a5,a6,a7,a8⟩,a9,Gp,D8⟩,⟨⟨c1,c2⟩,c3,⟨c4,c5⟩,c6,c7,_,c8,⟨c9,c10⟩,GI,GJ,c13,c14,c15,⟨c16,c17⟩,_,_,_,_,_,c18⟩,l1,r1,r2⟩:=h;exact⟨a1,a2,a3,a4,a5,a6,a7,fun x hx=>(a8 x hx).1,fun x hx=>(a8 x hx).2,a9,Gp,fun p hp=>Oq (D8 p hp),c1,c2,c3,c4,c5,c6,c7,c8,c9,c10,GI,GJ,c13,c14,c15,c16,fun x hx=>(c17 x hx).1,fun x hx=>(c17 x hx).2,c18,l1,r1,fun x hx=>(r2 x hx).1,fun x hx=>(r2 x hx).2.1⟩
theorem pI{s:Vs.State}(h:AQ s)(hb:fL (aZ.enc s)):si s:=by
 have IW:s.log.Sublist (aZ.enc s):=by
  rw [pG];refine List.Sublist.trans ?_ (List.sublist_append_right _ _);refine List.Sublist.trans ?_ (List.sublist_append_right _ _);refine List.Sublist.trans ?_ (List.sublist_append_right _ _);refine List.Sublist.trans ?_ (List.sublist_append_right _ _);refine List.Sublist.trans ?_ (List.sublist_append_left _ _);exact List.sublist_append_right _ _
 exact⟨h.once,h.aL,h.peer,h.dead,h.marks,h.early,⟨fun x hx=>hb.b x (IW.subset hx),Nat.le_trans IW.length_le hb.n⟩,h.aH,h.RM⟩
def aT(l:List Nat)(lo hi:Nat):List Nat:=(l.drop lo).take (hi - lo)
theorem c_{l:List Nat}{lo hi:Nat}(h1:lo≤hi)(h2:hi≤l.length):(aT l lo hi).length=hi - lo:=by
 simp [aT];omega
theorem nM{l:List Nat}(h: ∀x∈l,x<256){lo hi:Nat}: ∀x∈aT l lo hi,x<256:=fun x hx=>h x (List.mem_of_mem_drop (List.mem_of_mem_take hx))
theorem sq{l:List Nat}(h:fL l){lo hi:Nat}:fL (aT l lo hi):=(h.drop _).take _
theorem xx{l:List Nat}{a b c:Nat}(h1:a≤b)(h2:b≤c):aT l a b++aT l b c=aT l a c:=by
 have h:l.drop b=(l.drop a).drop (b - a):=by rw [List.drop_drop];congr 1;omega
 rw [aT,aT,aT,h,show c - a=(b - a)+(c - b) by omega,List.take_add]
theorem pJ(l:List Nat):aT l 0 l.length=l:=by simp [aT]
def xy(l:List Nat):Prop:=18≤l.length∧aT l 0 6=eB
def Bd(l:List Nat):Prop:=jd (aT l 6 10)=l.length - 18∧(eu (aT l 0 (l.length - 8))).take 8=aT l (l.length - 8) l.length
instance (l:List Nat):Decidable (xy l):=by unfold xy;infer_instance
instance (l:List Nat):Decidable (Bd l):=by unfold Bd;infer_instance
def o3(l:List Nat):Vs.State×sR:=aZ.bD (some (aT l 10 (l.length - 8)))
def gK(l:List Nat):Option Vs.State:=
 if l.length≤4194304∧xy l∧Bd l∧(o3 l).2=some []∧kf (o3 l).1 (o3 l).1.table.most ((o3 l).1.call.fQ - 1)=true then some (o3 l).1 else none
theorem Lp{l:List Nat}(hl: ∀x∈l,x<256)(h:(o3 l).2=some []):aT l 10 (l.length - 8)=aZ.enc (o3 l).1∧AQ (o3 l).1:=by
 have h0:o3 l=((o3 l).1,some []):=by rw [←h]
 have h1:=aZ.bwd (aT l 10 (l.length - 8)) (o3 l).1 [] (nM hl) h0;exact⟨by rw [h1.1,List.append_nil],zF h1.2⟩
set_option maxRecDepth 10000 in
theorem yw{l:List Nat}(hl: ∀x∈l,x<256){s:Vs.State}(h:gK l=some s):l.length≤4194304∧l=cy (aZ.enc s)∧AQ s∧aT l 10 (l.length - 8)=aZ.enc s∧kf s s.table.most (s.call.fQ - 1)=true∧18≤l.length:=by
 unfold gK at h;split at h
 ·rename_i hc;cases h;obtain⟨h0,⟨h1,h2⟩,⟨h3,h4⟩,h5,h6⟩:=hc;obtain⟨e1,e2⟩:=Lp hl h5;refine⟨h0,?_,e2,e1,h6,h1⟩;have hb:be 4 (l.length - 18)=aT l 6 10:=by
   rw [←h3];exact(Ea 4 _ (c_ (by omega) (by omega)) (nM hl)).1
  have hd:fP (aZ.enc (o3 l).1)=aT l 0 (l.length - 8):=by
   rw [←e1,fP,c_ (by omega) (by omega),show l.length - 8 - 10=l.length - 18 by omega,hb,←h2,xx (by omega) (by omega),xx (by omega) (by omega)]
  rw [cy,hd,h4,xx (by omega) (by omega),pJ]
 ·cases h
theorem Hn{l m:List Nat}(e:l=cy m)(hn:m.length<256^4):xy l∧Bd l∧aT l 10 (l.length - 8)=m:=by
 have hlen:l.length=m.length+18:=by
  rw [e,cy,aum,cA,List.length_take,cm];omega
 have e0:l=fP m++(eu (fP m)).take 8:=e;have p0:aT l 0 (l.length - 8)=fP m:=by
  rw [aT,List.drop_zero,e0,aum,cA,List.length_take,cm];exact List.take_left' (by rw [cA];omega)
 have p1:aT l (l.length - 8) l.length=(eu (fP m)).take 8:=by
  rw [aT,e0,aum,cA,List.length_take,cm,show 10+m.length+min 8 32 - 8=(fP m).length by rw [cA];omega,List.drop_left];exact List.take_of_length_le (by rw [List.length_take,cm,cA];omega)
 have e1:l=eB++(be 4 m.length++(m++(eu (fP m)).take 8)):=by rw [e0,fP];simp
 refine⟨⟨by omega,?_⟩,⟨?_,by rw [p0,p1]⟩,?_⟩
 ·rw [aT,List.drop_zero,e1];rfl
 ·rw [aT,e1];rw [show List.drop 6 (eB++(be 4 m.length++(m++(eu (fP m)).take 8)))=be 4 m.length++(m++(eu (fP m)).take 8)from rfl,List.take_left' (by rw [au]),KO 4 _ hn];rw [←e1,hlen];omega
 ·rw [aT,hlen,e1];rw [show List.drop 10 (eB++(be 4 m.length++(m++(eu (fP m)).take 8)))=m++(eu (fP m)).take 8 by
   rw [←List.append_assoc];exact List.drop_left' (by simp [eB,au])]
  exact List.take_left' (by omega)
end Go.RX.Vb
