/- SHA-256. -/
import Derived.Test.YtphemenngjkfbaaM41
import Derived.Test.YtphemenngjkfbaaM39
open Go.IntKind renaming i64 → adL, u64 → ad4, u8 → adG, wrap → ae
open Go.Proofs.Try renaming prog → adY
open Int renaming toNat → ag
open List renaming append → adH, getD_cons_succ → aeg, getD_cons_zero → ah, getElem?_eq_none → aeh
namespace Go.RX.Sh
open Go.RX Go.Proofs
set_option maxRecDepth 100000
noncomputable def zo:F:=cC cx 127 ([SV.ptr 0 0,SV.iC 2 [{lo:=E.lit 0,hi:=E.lit 64,mx:=none}] 1]) ([Ck.row 0 true [SV.vv 0,SV.vv 1,SV.int (adL) (E.lit 4),SV.int (adL) (E.lit 2),SV.int (adL) (E.lit 13),SV.int (adL) (E.lit 22),SV.int (adL) (E.lit 6),SV.int (adL) (E.lit 11),SV.int (adL) (E.lit 25),SV.int (adL) (E.lit 7),SV.int (adL) (E.lit 18),SV.int (adL) (E.lit 3),SV.int (adL) (E.lit 17),SV.int (adL) (E.lit 19),SV.int (adL) (E.lit 10)],Ck.cc true 0 107 1 (E.lit 8) [{ck:=CK.int (Go.IntKind.u32),w:=1,a:=E.aw 0}],Ck.cc true 1 107 1 (E.lit 64) [{ck:=CK.int (Go.IntKind.u32),w:=1,a:=E.aw 1}],Ck.cc true 2 5 1 (E.var 0) [{ck:=CK.int (adG),w:=1,a:=E.aw 2}]]) ({b:=1,v:=3,i:=1,a:=3,bo:=0,p:=0,r:=0}) Try.f127
def Fb(_:Program)(ao:Value→List HP→Prop)(x0:Int)(A0:Nat→Int)(A1:Nat→Int)(A2:Nat→Int)(v0:V1)(v1:V1)(v2:V1)(b0:Nat):Prop:=
 ∀v3:V1,aM (64≤x0) (
 ∃(fA:Ext→Prop) (iW:Ext→Nat),(∃x1:Int,∃A3:(Nat→Int),x1=0∧(∀j,j<64→A3 j=(fun _=>0) j)∧fA ⟨[],[],[x1],[A3],[],[],[]⟩)∧
 ∀x1:Int,∀A3:(Nat→Int),fA ⟨[],[],[x1],[A3],[],[],[]⟩→
 aU (x1<64) (
 aM (0≤(ae .i64 (ax .quo .i64 x1 4))) (
 aM ((ae .i64 (ax .quo .i64 x1 4))<64) (
 aM (64≤x0) (
 aM (0≤x1) (
 aM (x1<x0) (
 aM ((-9223372036854775808)≤(x1+1)) (
 aM ((x1+1)≤9223372036854775807) (
 ∃N6:Int,∃N7:(Nat→Int),N6=(x1+1)∧(∀j,j<64→N7 j=(aj A3 (ag (ae .i64 (ax .quo .i64 x1 4))) (ax .na .u32 (ax .shl .u32 (A3 (ag (ae .i64 (ax .quo .i64 x1 4)))) 8) (ae .u32 (A2 (ag x1))))) j)∧fA ⟨[],[],[N6],[N7],[],[],[]⟩∧iW ⟨[],[],[N6],[N7],[],[],[]⟩<iW ⟨[],[],[x1],[A3],[],[],[]⟩)))))))) (
 ∃(pj:Ext→Prop) (pE:Ext→Nat),(∃x2:Int,∃A4:(Nat→Int),x2=16∧(∀j,j<64→A4 j=A3 j)∧pj ⟨[],[],[x2],[A4],[],[],[]⟩)∧
 ∀x2:Int,∀A4:(Nat→Int),pj ⟨[],[],[x2],[A4],[],[],[]⟩→
 aU (x2<64) (
 aM ((-9223372036854775808)≤(x2 - 2)) (
 aM ((x2 - 2)≤9223372036854775807) (
 aM (0≤(x2 - 2)) (
 aM ((x2 - 2)<64) (
 aM ((-9223372036854775808)≤(x2 - 7)) (
 aM ((x2 - 7)≤9223372036854775807) (
 aM (0≤(x2 - 7)) (
 aM ((x2 - 7)<64) (
 aM ((-9223372036854775808)≤(x2 - 15)) (
 aM ((x2 - 15)≤9223372036854775807) (
 aM (0≤(x2 - 15)) (
 aM ((x2 - 15)<64) (
 aM ((-9223372036854775808)≤(x2 - 16)) (
 aM ((x2 - 16)≤9223372036854775807) (
 aM (0≤(x2 - 16)) (
 aM ((x2 - 16)<64) (
 ∀_:Nat,∀_:Nat,aM (0≤x2) (
 aM ((-9223372036854775808)≤(x2+1)) (
 aM ((x2+1)≤9223372036854775807) (
 ∃Az:Int,∃N8:(Nat→Int),Az=(x2+1)∧(∀j,j<64→N8 j=(aj A4 (ag x2) (ae .u32 ((ae .u32 ((ae .u32 ((ax .cr .u32 (ax .cr .u32 (ax .na .u32 (ax .shr .u32 (A4 (ag (x2 - 2))) 17) (ax .shl .u32 (A4 (ag (x2 - 2))) 15)) (ax .na .u32 (ax .shr .u32 (A4 (ag (x2 - 2))) 19) (ax .shl .u32 (A4 (ag (x2 - 2))) 13))) (ax .shr .u32 (A4 (ag (x2 - 2))) 10))+(A4 (ag (x2 - 7)))))+(ax .cr .u32 (ax .cr .u32 (ax .na .u32 (ax .shr .u32 (A4 (ag (x2 - 15))) 7) (ax .shl .u32 (A4 (ag (x2 - 15))) 25)) (ax .na .u32 (ax .shr .u32 (A4 (ag (x2 - 15))) 18) (ax .shl .u32 (A4 (ag (x2 - 15))) 14))) (ax .shr .u32 (A4 (ag (x2 - 15))) 3))))+(A4 (ag (x2 - 16)))))) j)∧pj ⟨[],[],[Az],[N8],[],[],[]⟩∧pE ⟨[],[],[Az],[N8],[],[],[]⟩<pE ⟨[],[],[x2],[A4],[],[],[]⟩)))))))))))))))))))) (
 ∀b1:Nat,∃(B7:Ext→Prop) (B8:Ext→Nat),(∃x3:Int,∃x4:Int,∃x5:Int,∃x6:Int,∃x7:Int,∃x8:Int,∃x9:Int,∃aG:Int,∃aO:Int,aO=0∧x3=(A0 0)∧x4=(A0 1)∧x5=(A0 2)∧x6=(A0 3)∧x7=(A0 4)∧x8=(A0 5)∧x9=(A0 6)∧aG=(A0 7)∧B7 ⟨[],[],[x3,x4,x5,x6,x7,x8,x9,aG,aO],[],[],[],[]⟩)∧
 ∀x3:Int,∀x4:Int,∀x5:Int,∀x6:Int,∀x7:Int,∀x8:Int,∀x9:Int,∀aG:Int,∀aO:Int,B7 ⟨[],[],[x3,x4,x5,x6,x7,x8,x9,aG,aO],[],[],[],[]⟩→
 aU (aO<64) (
 aM (0≤aO) (
 ∀_:Nat,∀_:Nat,aM ((-9223372036854775808)≤(aO+1)) (
 aM ((aO+1)≤9223372036854775807) (
 ∃MZ:Int,∃uX:Int,∃Gc:Int,∃wV:Int,∃LS:Int,∃FV:Int,∃kD:Int,∃fB:Int,∃lT:Int,lT=(aO+1)∧MZ=(ae .u32 ((ae .u32 ((ae .u32 ((ae .u32 ((ae .u32 (aG+(ax .cr .u32 (ax .cr .u32 (ax .na .u32 (ax .shr .u32 x7 6) (ax .shl .u32 x7 26)) (ax .na .u32 (ax .shr .u32 x7 11) (ax .shl .u32 x7 21))) (ax .na .u32 (ax .shr .u32 x7 25) (ax .shl .u32 x7 7)))))+(ax .cr .u32 (ax .eT .u32 x7 x8) (ax .eT .u32 (ax .cr .u32 4294967295 x7) x9))))+(A1 (ag aO))))+(A4 (ag aO))))+(ae .u32 ((ax .cr .u32 (ax .cr .u32 (ax .na .u32 (ax .shr .u32 x3 2) (ax .shl .u32 x3 30)) (ax .na .u32 (ax .shr .u32 x3 13) (ax .shl .u32 x3 19))) (ax .na .u32 (ax .shr .u32 x3 22) (ax .shl .u32 x3 10)))+(ax .cr .u32 (ax .cr .u32 (ax .eT .u32 x3 x4) (ax .eT .u32 x3 x5)) (ax .eT .u32 x4 x5))))))∧uX=x3∧Gc=x4∧wV=x5∧LS=(ae .u32 (x6+(ae .u32 ((ae .u32 ((ae .u32 ((ae .u32 (aG+(ax .cr .u32 (ax .cr .u32 (ax .na .u32 (ax .shr .u32 x7 6) (ax .shl .u32 x7 26)) (ax .na .u32 (ax .shr .u32 x7 11) (ax .shl .u32 x7 21))) (ax .na .u32 (ax .shr .u32 x7 25) (ax .shl .u32 x7 7)))))+(ax .cr .u32 (ax .eT .u32 x7 x8) (ax .eT .u32 (ax .cr .u32 4294967295 x7) x9))))+(A1 (ag aO))))+(A4 (ag aO))))))∧FV=x7∧kD=x8∧fB=x9∧B7 ⟨[],[],[MZ,uX,Gc,wV,LS,FV,kD,fB,lT],[],[],[],[]⟩∧B8 ⟨[],[],[MZ,uX,Gc,wV,LS,FV,kD,fB,lT],[],[],[],[]⟩<B8 ⟨[],[],[x3,x4,x5,x6,x7,x8,x9,aG,aO],[],[],[],[]⟩)))) (
 ∃(N9:Ext→Prop) (RF:Ext→Nat),(∃aI:Int,∃A5:(Nat→Int),∃A6:(Nat→Int),aI=0∧(∀j,j<8→A5 j=A0 j)∧(∀j,j<8→A6 j=(aj (aj (aj (aj (aj (aj (aj (aj (fun _=>0) 0 x3) 1 x4) 2 x5) 3 x6) 4 x7) 5 x8) 6 x9) 7 aG) j)∧N9 ⟨[],[],[aI],[A5,A6],[],[],[]⟩)∧
 ∀aI:Int,∀A5:(Nat→Int),∀A6:(Nat→Int),N9 ⟨[],[],[aI],[A5,A6],[],[],[]⟩→
 aU (aI<8) (
 aM (0≤aI) (
 aM ((-9223372036854775808)≤(aI+1)) (
 aM ((aI+1)≤9223372036854775807) (
 ∃sD:Int,∃Tz:(Nat→Int),∃Zr:(Nat→Int),sD=(aI+1)∧(∀j,j<8→Tz j=(aj A5 (ag aI) (ae .u32 ((A5 (ag aI))+(A6 (ag aI))))) j)∧(∀j,j<8→Zr j=A6 j)∧N9 ⟨[],[],[sD],[Tz,Zr],[],[],[]⟩∧RF ⟨[],[],[sD],[Tz,Zr],[],[],[]⟩<RF ⟨[],[],[aI],[A5,A6],[],[],[]⟩)))) (
 ao (.tuple #[]) [ak b0 true ([v0.v,v1.v,.int .i64 4,.int .i64 2,.int .i64 13,.int .i64 22,.int .i64 6,.int .i64 11,.int .i64 25,.int .i64 7,.int .i64 18,.int .i64 3,.int .i64 17,.int .i64 19,.int .i64 10]),aB true 107 1 v0.v 8 (aH 8 [au .u32 1 A5]),aB true 107 1 v1.v 64 (aH 64 [au .u32 1 A1]),aB true 5 1 v2.v (ag x0) (aH (ag x0) [au .u8 1 A2]),aB true 107 1 v3.v 64 (aH 64 [au .u32 1 A4]),ak b1 true (adH (al .u32 8 A6) ([]))])))))
theorem N_(P:Program)(ao:Value→List HP→Prop)(x0:Int)(A0:Nat→Int)(A1:Nat→Int)(A2:Nat→Int)(v0:V1)(v1:V1)(v2:V1)(b0:Nat)(L:Nat→LC):VC P ao zo {iv:=[x0],av:=[A0,A1,A2],bo:=[],bv:=[b0],vv:=[v0,v1,v2]} L=Fb P ao x0 A0 A1 A2 v0 v1 v2 b0:=by kernel_rfl
theorem K5:cC cx 127 ([SV.ptr 0 0,SV.iC 2 [{lo:=E.lit 0,hi:=E.lit 64,mx:=none}] 1]) ([Ck.row 0 true [SV.vv 0,SV.vv 1,SV.int (adL) (E.lit 4),SV.int (adL) (E.lit 2),SV.int (adL) (E.lit 13),SV.int (adL) (E.lit 22),SV.int (adL) (E.lit 6),SV.int (adL) (E.lit 11),SV.int (adL) (E.lit 25),SV.int (adL) (E.lit 7),SV.int (adL) (E.lit 18),SV.int (adL) (E.lit 3),SV.int (adL) (E.lit 17),SV.int (adL) (E.lit 19),SV.int (adL) (E.lit 10)],Ck.cc true 0 107 1 (E.lit 8) [{ck:=CK.int (Go.IntKind.u32),w:=1,a:=E.aw 0}],Ck.cc true 1 107 1 (E.lit 64) [{ck:=CK.int (Go.IntKind.u32),w:=1,a:=E.aw 1}],Ck.cc true 2 5 1 (E.var 0) [{ck:=CK.int (adG),w:=1,a:=E.aw 2}]]) ({b:=1,v:=3,i:=1,a:=3,bo:=0,p:=0,r:=0}) Try.f127=zo:=rfl
noncomputable def zp:F:=cC cx 130 ([SV.int (adL) (E.var 0)]) ([]) ({b:=0,v:=0,i:=1,a:=0,bo:=0,p:=0,r:=0}) Try.f130
def Fc(_:Program)(ao:Value→List HP→Prop)(x0:Int):Prop:=
 ∃(fA:Ext→Prop) (iW:Ext→Nat),(∃x1:Int,∃x2:Int,x1=1∧x2=0∧fA ⟨[],[],[x1,x2],[],[],[],[]⟩)∧
 ∀x1:Int,∀x2:Int,fA ⟨[],[],[x1,x2],[],[],[],[]⟩→
 aU (x2<x0) (
 aM ((-9223372036854775808)≤(x2+1)) (
 aM ((x2+1)≤9223372036854775807) (
 ∃N6:Int,∃Az:Int,N6=(ae .u64 (2*x1))∧Az=(x2+1)∧fA ⟨[],[],[N6,Az],[],[],[],[]⟩∧iW ⟨[],[],[N6,Az],[],[],[],[]⟩<iW ⟨[],[],[x1,x2],[],[],[],[]⟩))) (
 ao (.int .u64 x1) [])
theorem Oa(P:Program)(ao:Value→List HP→Prop)(x0:Int)(L:Nat→LC):VC P ao zp {iv:=[x0],av:=[],bo:=[],bv:=[],vv:=[]} L=Fc P ao x0:=by kernel_rfl
theorem K6:cC cx 130 ([SV.int (adL) (E.var 0)]) ([]) ({b:=0,v:=0,i:=1,a:=0,bo:=0,p:=0,r:=0}) Try.f130=zp:=rfl
noncomputable def zq:F:=cC cx 133 ([SV.int (adL) (E.lit 0),SV.int (ad4) (E.var 0),SV.int (adL) (E.lit 32)]) ([]) ({b:=0,v:=0,i:=1,a:=0,bo:=0,p:=0,r:=0}) Try.f133
def Fe(P:Program)(ao:Value→List HP→Prop)(x0:Int):Prop:=
 ∃post,aq P 130 [.int .i64 22] [] post∧
 ∀x hs,post x hs→x= .int .u64 4194304∧hs=[]∧
 ∃post,aq P 130 [.int .i64 22] [] post∧
 ∀x hs,post x hs→x= .int .u64 4194304∧hs=[]∧
 ∃post,aq P 130 [.int .i64 10] [] post∧
 ∀x hs,post x hs→x= .int .u64 1024∧hs=[]∧
 ∃post,aq P 130 [.int .i64 32] [] post∧
 ∀x hs,post x hs→x= .int .u64 4294967296∧hs=[]∧
 ∃post,aq P 130 [.int .i64 2] [] post∧
 ∀x hs,post x hs→x= .int .u64 4∧hs=[]∧
 ∃post,aq P 130 [.int .i64 30] [] post∧
 ∀x hs,post x hs→x= .int .u64 1073741824∧hs=[]∧
 ∃post,aq P 130 [.int .i64 32] [] post∧
 ∀x hs,post x hs→x= .int .u64 4294967296∧hs=[]∧
 ∃post,aq P 130 [.int .i64 13] [] post∧
 ∀x hs,post x hs→x= .int .u64 8192∧hs=[]∧
 ∃post,aq P 130 [.int .i64 19] [] post∧
 ∀x hs,post x hs→x= .int .u64 524288∧hs=[]∧
 ∃post,aq P 130 [.int .i64 32] [] post∧
 ∀x hs,post x hs→x= .int .u64 4294967296∧hs=[]∧
 ao (.int .u64 (ax .cr .u64 (ax .cr .u64 (ae .u64 ((ae .u64 (ax .quo .u64 x0 4))+(ax .rem .u64 (ae .u64 (x0*1073741824)) 4294967296))) (ae .u64 ((ae .u64 (ax .quo .u64 x0 8192))+(ax .rem .u64 (ae .u64 (x0*524288)) 4294967296)))) (ae .u64 ((ae .u64 (ax .quo .u64 x0 4194304))+(ax .rem .u64 (ae .u64 (x0*1024)) 4294967296))))) []
theorem Ob(P:Program)(ao:Value→List HP→Prop)(x0:Int)(L:Nat→LC):VC P ao zq {iv:=[x0],av:=[],bo:=[],bv:=[],vv:=[]} L=Fe P ao x0:=by kernel_rfl
theorem K7:cC cx 133 ([SV.int (adL) (E.lit 0),SV.int (ad4) (E.var 0),SV.int (adL) (E.lit 32)]) ([]) ({b:=0,v:=0,i:=1,a:=0,bo:=0,p:=0,r:=0}) Try.f133=zq:=rfl
noncomputable def zt:F:=cC cx 133 ([SV.int (adL) (E.lit 1),SV.int (ad4) (E.var 0),SV.int (adL) (E.lit 32)]) ([]) ({b:=0,v:=0,i:=1,a:=0,bo:=0,p:=0,r:=0}) Try.f133
def Ff(P:Program)(ao:Value→List HP→Prop)(x0:Int):Prop:=
 ∃post,aq P 130 [.int .i64 25] [] post∧
 ∀x hs,post x hs→x= .int .u64 33554432∧hs=[]∧
 ∃post,aq P 130 [.int .i64 25] [] post∧
 ∀x hs,post x hs→x= .int .u64 33554432∧hs=[]∧
 ∃post,aq P 130 [.int .i64 7] [] post∧
 ∀x hs,post x hs→x= .int .u64 128∧hs=[]∧
 ∃post,aq P 130 [.int .i64 32] [] post∧
 ∀x hs,post x hs→x= .int .u64 4294967296∧hs=[]∧
 ∃post,aq P 130 [.int .i64 6] [] post∧
 ∀x hs,post x hs→x= .int .u64 64∧hs=[]∧
 ∃post,aq P 130 [.int .i64 26] [] post∧
 ∀x hs,post x hs→x= .int .u64 67108864∧hs=[]∧
 ∃post,aq P 130 [.int .i64 32] [] post∧
 ∀x hs,post x hs→x= .int .u64 4294967296∧hs=[]∧
 ∃post,aq P 130 [.int .i64 11] [] post∧
 ∀x hs,post x hs→x= .int .u64 2048∧hs=[]∧
 ∃post,aq P 130 [.int .i64 21] [] post∧
 ∀x hs,post x hs→x= .int .u64 2097152∧hs=[]∧
 ∃post,aq P 130 [.int .i64 32] [] post∧
 ∀x hs,post x hs→x= .int .u64 4294967296∧hs=[]∧
 ao (.int .u64 (ax .cr .u64 (ax .cr .u64 (ae .u64 ((ae .u64 (ax .quo .u64 x0 64))+(ax .rem .u64 (ae .u64 (x0*67108864)) 4294967296))) (ae .u64 ((ae .u64 (ax .quo .u64 x0 2048))+(ax .rem .u64 (ae .u64 (x0*2097152)) 4294967296)))) (ae .u64 ((ae .u64 (ax .quo .u64 x0 33554432))+(ax .rem .u64 (ae .u64 (x0*128)) 4294967296))))) []
theorem Oc(P:Program)(ao:Value→List HP→Prop)(x0:Int)(L:Nat→LC):VC P ao zt {iv:=[x0],av:=[],bo:=[],bv:=[],vv:=[]} L=Ff P ao x0:=by kernel_rfl
theorem K8:cC cx 133 ([SV.int (adL) (E.lit 1),SV.int (ad4) (E.var 0),SV.int (adL) (E.lit 32)]) ([]) ({b:=0,v:=0,i:=1,a:=0,bo:=0,p:=0,r:=0}) Try.f133=zt:=rfl
noncomputable def zu:F:=cC cx 133 ([SV.int (adL) (E.lit 2),SV.int (ad4) (E.var 0),SV.int (adL) (E.lit 32)]) ([]) ({b:=0,v:=0,i:=1,a:=0,bo:=0,p:=0,r:=0}) Try.f133
def Fg(P:Program)(ao:Value→List HP→Prop)(x0:Int):Prop:=
 ∃post,aq P 130 [.int .i64 3] [] post∧
 ∀x hs,post x hs→x= .int .u64 8∧hs=[]∧
 ∃post,aq P 130 [.int .i64 7] [] post∧
 ∀x hs,post x hs→x= .int .u64 128∧hs=[]∧
 ∃post,aq P 130 [.int .i64 25] [] post∧
 ∀x hs,post x hs→x= .int .u64 33554432∧hs=[]∧
 ∃post,aq P 130 [.int .i64 32] [] post∧
 ∀x hs,post x hs→x= .int .u64 4294967296∧hs=[]∧
 ∃post,aq P 130 [.int .i64 18] [] post∧
 ∀x hs,post x hs→x= .int .u64 262144∧hs=[]∧
 ∃post,aq P 130 [.int .i64 14] [] post∧
 ∀x hs,post x hs→x= .int .u64 16384∧hs=[]∧
 ∃post,aq P 130 [.int .i64 32] [] post∧
 ∀x hs,post x hs→x= .int .u64 4294967296∧hs=[]∧
 ao (.int .u64 (ax .cr .u64 (ax .cr .u64 (ae .u64 ((ae .u64 (ax .quo .u64 x0 128))+(ax .rem .u64 (ae .u64 (x0*33554432)) 4294967296))) (ae .u64 ((ae .u64 (ax .quo .u64 x0 262144))+(ax .rem .u64 (ae .u64 (x0*16384)) 4294967296)))) (ae .u64 (ax .quo .u64 x0 8)))) []
theorem Od(P:Program)(ao:Value→List HP→Prop)(x0:Int)(L:Nat→LC):VC P ao zu {iv:=[x0],av:=[],bo:=[],bv:=[],vv:=[]} L=Fg P ao x0:=by kernel_rfl
theorem K9:cC cx 133 ([SV.int (adL) (E.lit 2),SV.int (ad4) (E.var 0),SV.int (adL) (E.lit 32)]) ([]) ({b:=0,v:=0,i:=1,a:=0,bo:=0,p:=0,r:=0}) Try.f133=zu:=rfl
noncomputable def zv:F:=cC cx 133 ([SV.int (adL) (E.lit 3),SV.int (ad4) (E.var 0),SV.int (adL) (E.lit 32)]) ([]) ({b:=0,v:=0,i:=1,a:=0,bo:=0,p:=0,r:=0}) Try.f133
def Fh(P:Program)(ao:Value→List HP→Prop)(x0:Int):Prop:=
 ∃post,aq P 130 [.int .i64 10] [] post∧
 ∀x hs,post x hs→x= .int .u64 1024∧hs=[]∧
 ∃post,aq P 130 [.int .i64 17] [] post∧
 ∀x hs,post x hs→x= .int .u64 131072∧hs=[]∧
 ∃post,aq P 130 [.int .i64 15] [] post∧
 ∀x hs,post x hs→x= .int .u64 32768∧hs=[]∧
 ∃post,aq P 130 [.int .i64 32] [] post∧
 ∀x hs,post x hs→x= .int .u64 4294967296∧hs=[]∧
 ∃post,aq P 130 [.int .i64 19] [] post∧
 ∀x hs,post x hs→x= .int .u64 524288∧hs=[]∧
 ∃post,aq P 130 [.int .i64 13] [] post∧
 ∀x hs,post x hs→x= .int .u64 8192∧hs=[]∧
 ∃post,aq P 130 [.int .i64 32] [] post∧
 ∀x hs,post x hs→x= .int .u64 4294967296∧hs=[]∧
 ao (.int .u64 (ax .cr .u64 (ax .cr .u64 (ae .u64 ((ae .u64 (ax .quo .u64 x0 131072))+(ax .rem .u64 (ae .u64 (x0*32768)) 4294967296))) (ae .u64 ((ae .u64 (ax .quo .u64 x0 524288))+(ax .rem .u64 (ae .u64 (x0*8192)) 4294967296)))) (ae .u64 (ax .quo .u64 x0 1024)))) []
theorem Oe(P:Program)(ao:Value→List HP→Prop)(x0:Int)(L:Nat→LC):VC P ao zv {iv:=[x0],av:=[],bo:=[],bv:=[],vv:=[]} L=Fh P ao x0:=by kernel_rfl
theorem K_:cC cx 133 ([SV.int (adL) (E.lit 3),SV.int (ad4) (E.var 0),SV.int (adL) (E.lit 32)]) ([]) ({b:=0,v:=0,i:=1,a:=0,bo:=0,p:=0,r:=0}) Try.f133=zv:=rfl
noncomputable def zw:F:=cC cx 134 ([SV.vv 0,SV.int (ad4) (E.var 0),SV.int (ad4) (E.var 1),SV.int (adL) (E.lit 32)]) ([Ck.cc true 0 70 1 (E.lit 8) [{ck:=CK.int (ad4),w:=1,a:=E.aw 0}]]) ({b:=0,v:=1,i:=2,a:=1,bo:=0,p:=0,r:=0}) Try.f134
def Fi(P:Program)(ao:Value→List HP→Prop)(x0:Int)(x1:Int)(A0:Nat→Int)(v0:V1):Prop:=
 ∃post,aq P 130 [.int .i64 32] [] post∧
 ∀x hs,post x hs→x= .int .u64 4294967296∧hs=[]∧
 ∃post,aq P 133 [.int .i64 1,.int .u64 (A0 4),.int .i64 32] [] post∧
 ∀x hs,post x hs→∃x2:Int,x= .int .u64 x2∧hs=[]∧
 ∃post,aq P 130 [.int .i64 32] [] post∧
 ∀x hs,post x hs→x= .int .u64 4294967296∧hs=[]∧
 ∃post,aq P 133 [.int .i64 0,.int .u64 (A0 0),.int .i64 32] [] post∧
 ∀x hs,post x hs→∃x3:Int,x= .int .u64 x3∧hs=[]∧
 ∃post,aq P 130 [.int .i64 32] [] post∧
 ∀x hs,post x hs→x= .int .u64 4294967296∧hs=[]∧
 ∃post,aq P 130 [.int .i64 32] [] post∧
 ∀x hs,post x hs→x= .int .u64 4294967296∧hs=[]∧
 ∃post,aq P 130 [.int .i64 32] [] post∧
 ∀x hs,post x hs→x= .int .u64 4294967296∧hs=[]∧
 ∀b0:Nat,ao (.slice (some ⟨b0,0,none⟩) 8 8) [aB true 70 1 v0.v 8 (aH 8 [au .u64 1 A0]),ak b0 true ([.int .u64 (ax .rem .u64 (ae .u64 ((ax .rem .u64 (ae .u64 ((ae .u64 ((ae .u64 ((ae .u64 ((A0 7)+x2))+(ax .cr .u64 (ax .eT .u64 (A0 4) (A0 5)) (ax .eT .u64 (ae .u64 (4294967295 - (A0 4))) (A0 6)))))+x0))+x1)) 4294967296)+(ax .rem .u64 (ae .u64 (x3+(ax .cr .u64 (ax .cr .u64 (ax .eT .u64 (A0 0) (A0 1)) (ax .eT .u64 (A0 0) (A0 2))) (ax .eT .u64 (A0 1) (A0 2))))) 4294967296))) 4294967296),.int .u64 (A0 0),.int .u64 (A0 1),.int .u64 (A0 2),.int .u64 (ax .rem .u64 (ae .u64 ((A0 3)+(ax .rem .u64 (ae .u64 ((ae .u64 ((ae .u64 ((ae .u64 ((A0 7)+x2))+(ax .cr .u64 (ax .eT .u64 (A0 4) (A0 5)) (ax .eT .u64 (ae .u64 (4294967295 - (A0 4))) (A0 6)))))+x0))+x1)) 4294967296))) 4294967296),.int .u64 (A0 4),.int .u64 (A0 5),.int .u64 (A0 6)])]
theorem Og(P:Program)(ao:Value→List HP→Prop)(x0:Int)(x1:Int)(A0:Nat→Int)(v0:V1)(L:Nat→LC):VC P ao zw {iv:=[x0,x1],av:=[A0],bo:=[],bv:=[],vv:=[v0]} L=Fi P ao x0 x1 A0 v0:=by kernel_rfl
theorem La:cC cx 134 ([SV.vv 0,SV.int (ad4) (E.var 0),SV.int (ad4) (E.var 1),SV.int (adL) (E.lit 32)]) ([Ck.cc true 0 70 1 (E.lit 8) [{ck:=CK.int (ad4),w:=1,a:=E.aw 0}]]) ({b:=0,v:=1,i:=2,a:=1,bo:=0,p:=0,r:=0}) Try.f134=zw:=rfl
open Go.RX Go.Proofs
theorem Zs{x:Int}(h0:0≤x)(h1:x≤64):ae .i64 (ax .quo .i64 x 4)=((x.toNat/4:Nat):Int):=by
 obtain⟨i,rfl⟩:=Int.eq_ofNat_of_zero_le h0;show ae .i64 (Int.tdiv (i:Int) 4)=_;have:Int.tdiv (i:Int) 4=((i/4:Nat):Int):=rfl;rw [this,Int.toNat_natCast];simp [ae,IntKind.signed,IntKind.bits];omega
abbrev Oh(b:Nat)(vh vk:V1):HP:=ak b true [vh.v,vk.v,.int .i64 4,.int .i64 2,.int .i64 13,.int .i64 22,.int .i64 6,.int .i64 11,.int .i64 25,.int .i64 7,.int .i64 18,.int .i64 3,.int .i64 17,.int .i64 19,.int .i64 10]
abbrev Co(b:Nat)(vh vk vb:V1)(n:Nat)(A0 A1 A2:Nat→Int):List HP:=
 [Oh b vh vk,aB true 107 1 vh.v 8 (aH 8 [au .u32 1 A0]),aB true 107 1 vk.v 64 (aH 64 [au .u32 1 A1]),aB true 5 1 vb.v n (aH n [au .u8 1 A2])]
theorem Oi{B:Nat→Nat}{A:Nat→Int}(hB: ∀j,j<64→B j<256){t:Int}(h0:16≤t)(h1:t<64)(hA: ∀j,j<64→A j=((fg B (t.toNat - 16) j:Nat):Int))(j:Nat)(hj:j<64):
  aj A (ag t) (ae .u32 ((ae .u32 ((ae .u32 ((ax .cr .u32 (ax .cr .u32 (ax .na .u32 (ax .shr .u32 (A (ag (t - 2))) 17) (ax .shl .u32 (A (ag (t - 2))) 15)) (ax .na .u32 (ax .shr .u32 (A (ag (t - 2))) 19) (ax .shl .u32 (A (ag (t - 2))) 13))) (ax .shr .u32 (A (ag (t - 2))) 10))+(A (ag (t - 7)))))+(ax .cr .u32 (ax .cr .u32 (ax .na .u32 (ax .shr .u32 (A (ag (t - 15))) 7) (ax .shl .u32 (A (ag (t - 15))) 25)) (ax .na .u32 (ax .shr .u32 (A (ag (t - 15))) 18) (ax .shl .u32 (A (ag (t - 15))) 14))) (ax .shr .u32 (A (ag (t - 15))) 3))))+(A (ag (t - 16))))) j
   =((fg B (t.toNat - 16+1) j:Nat):Int):=by
 have hl:=Hl hB (t.toNat - 16);obtain⟨n,hn⟩: ∃n,n=t.toNat - 16:=⟨_,rfl⟩;rw [←hn]at hA hl ⊢;rw [fg];unfold aj;dsimp only;by_cases Hq:j=t.toNat
 ·rw [if_pos Hq,if_pos (by omega)];rw [hA (ag (t - 2)) (by omega),hA (ag (t - 7)) (by omega),hA (ag (t - 15)) (by omega),hA (ag (t - 16)) (by omega)];rw [show ag (t - 2)=n+14 by omega,show ag (t - 7)=n+9 by omega,show ag (t - 15)=n+1 by omega,show ag (t - 16)=n by omega];rw [Zk (hl _),Zj (hl _),qt,qt,qt];congr 1;omega
 ·rw [if_neg Hq,if_neg (by omega)];exact hA j hj
theorem QQ{v:Nat→Nat}(hv: ∀j,j<8→v j<2^32)(k w:Nat):
  ae .u32 ((ae .u32 ((ae .u32 ((ae .u32 (((v 7:Nat):Int)+(ax .cr .u32 (ax .cr .u32 (ax .na .u32 (ax .shr .u32 ((v 4:Nat):Int) 6) (ax .shl .u32 ((v 4:Nat):Int) 26)) (ax .na .u32 (ax .shr .u32 ((v 4:Nat):Int) 11) (ax .shl .u32 ((v 4:Nat):Int) 21))) (ax .na .u32 (ax .shr .u32 ((v 4:Nat):Int) 25) (ax .shl .u32 ((v 4:Nat):Int) 7)))))+(ax .cr .u32 (ax .eT .u32 ((v 4:Nat):Int) ((v 5:Nat):Int)) (ax .eT .u32 (ax .cr .u32 4294967295 ((v 4:Nat):Int)) ((v 6:Nat):Int)))))+((k:Nat):Int)))+((w:Nat):Int))=((temp v k w:Nat):Int):=by
 rw [Zm (hv 4 (by omega)),Zn (hv 4 (by omega)) (hv 5 (by omega)) (hv 6 (by omega)),qt,qt,qt,qt];unfold temp;congr 1;omega
theorem Oj{v:Nat→Nat}(hv: ∀j,j<8→v j<2^32):
  ae .u32 ((ax .cr .u32 (ax .cr .u32 (ax .na .u32 (ax .shr .u32 ((v 0:Nat):Int) 2) (ax .shl .u32 ((v 0:Nat):Int) 30)) (ax .na .u32 (ax .shr .u32 ((v 0:Nat):Int) 13) (ax .shl .u32 ((v 0:Nat):Int) 19))) (ax .na .u32 (ax .shr .u32 ((v 0:Nat):Int) 22) (ax .shl .u32 ((v 0:Nat):Int) 10)))+(ax .cr .u32 (ax .cr .u32 (ax .eT .u32 ((v 0:Nat):Int) ((v 1:Nat):Int)) (ax .eT .u32 ((v 0:Nat):Int) ((v 2:Nat):Int))) (ax .eT .u32 ((v 1:Nat):Int) ((v 2:Nat):Int))))=(((S0 (v 0)+RC (v 0) (v 1) (v 2))%2^32:Nat):Int):=by
 rw [Zl (hv 0 (by omega)),VQ (hv 0 (by omega)) (hv 1 (by omega)) (hv 2 (by omega)),qt]
def eight(v:Nat→Nat)(a:Nat):List Int:=[((v 0:Nat):Int),((v 1:Nat):Int),((v 2:Nat):Int),((v 3:Nat):Int),((v 4:Nat):Int),((v 5:Nat):Int),((v 6:Nat):Int),((v 7:Nat):Int),(a:Int)]
theorem Hr(v:Nat→Nat)(k w a:Nat):[(((temp v k w+(S0 (v 0)+RC (v 0) (v 1) (v 2))%2^32)%2^32:Nat):Int),((v 0:Nat):Int),((v 1:Nat):Int),((v 2:Nat):Int),(((v 3+temp v k w)%2^32:Nat):Int),((v 4:Nat):Int),((v 5:Nat):Int),((v 6:Nat):Int),(a:Int)+1]=eight (step v k w) (a+1):=by
 unfold eight;rw [NV,NW,kL v k w (j:=1) (by decide) (by decide) (by decide),kL v k w (j:=2) (by decide) (by decide) (by decide),kL v k w (j:=3) (by decide) (by decide) (by decide),kL v k w (j:=5) (by decide) (by decide) (by decide),
  kL v k w (j:=6) (by decide) (by decide) (by decide),kL v k w (j:=7) (by decide) (by decide) (by decide),Int.natCast_add a 1]
 simp only [Int.natCast_one]
theorem IZ{K H B R:Nat→Nat}(hR:R=QH K (fg B 48) H 64)(j:Nat):comp K H B j=(H j+R j)%2^32:=by
 unfold comp;rw [hR]
theorem mY(b:Nat)(vh vk vb:V1)(n:Int)(A0 A1 A2:Nat→Int)(K H B:Nat→Nat)(hn:64≤n)(Ls: ∀j,j<8→A0 j=(H j:Nat))(hH: ∀j,j<8→H j<2^32)
  (Zt: ∀j,j<64→A1 j=(K j:Nat)) (hA2: ∀j,j<64→A2 j=(B j:Nat)) (hB: ∀j,j<64→B j<256):
  aq adY 127 [.pointer (some ⟨b,0,none⟩),bJ 1 vb.v 0 64 none] (Co b vh vk vb n.toNat A0 A1 A2)
   (fun r hs=> ∃A:Nat→Int,r= .tuple #[]∧hs=Co b vh vk vb n.toNat A A1 A2∧∀j,j<8→A j=((comp K H B j:Nat):Int)):=by
 refine aq.post (p:=fun r hs=> ∃gN,aD hs gN∧∃A:Nat→Int,r= .tuple #[]∧gN=Co b vh vk vb n.toNat A A1 A2∧∀j,j<8→A j=((comp K H B j:Nat):Int)) ?_ fun v hs h=>h
 refine aq.eA (C:=cx) (aQ:={b:=1,v:=3,i:=1,a:=3}) (ρ:={iv:=[n],av:=[A0,A1,A2],vv:=[vh,vk,vb],bv:=[b]}) pA gw pB Try.func127 (by constructor<;>rfl)
  (args:=[.ptr 0 0,.iC 2 [⟨.lit 0,.lit 64,none⟩] 1]) (hp:=IY) ?_
 rw [show cC cx 127 [.ptr 0 0,.iC 2 [⟨.lit 0,.lit 64,none⟩] 1] IY {b:=1,v:=3,i:=1,a:=3} Try.f127=zo from K5,N_];unfold Fb;intro v3;refine⟨hn,fun _=>⟨fun e=> ∃a:Nat,a≤64∧e.i=[(a:Int)]∧∀j,j<64→e.a.getD 0 (fun _=>0) j=((fill B a j:Nat):Int),fun e=>(64 - e.i.getD 0 0).toNat,⟨0,fun _=>0,rfl,fun _ _=>rfl,0,by omega,rfl,fun j _=>rfl⟩,?_⟩⟩;rintro x1 A3 ⟨a,ha,hx,hA⟩;simp only [List.cons.injEq,and_true]at hx;subst hx;simp only [ah]at hA;have hq:=Zs (x:=(a:Int)) (by omega) (by omega);refine⟨fun cK=>⟨by rw [hq];omega,fun _=>⟨by rw [hq];omega,fun _=>⟨hn,fun _=>⟨by omega,fun _=>⟨by omega,fun _=>⟨by omega,fun _=>⟨by omega,fun _=>?_⟩⟩⟩⟩⟩⟩⟩,fun wG=>?_⟩
 ·refine⟨(a:Int)+1,_,rfl,fun _ _=>rfl,⟨a+1,by omega,rfl,fun j hj=>?_⟩,?_⟩
  ·simp only [ah];rw [hq,Int.toNat_natCast,Int.toNat_natCast,fill];unfold aj;dsimp only;by_cases Hq:j=a/4
   ·rw [if_pos Hq,if_pos Hq,hA _ (by omega),hA2 a (by omega),wrap_u32];have hb:=hB a (by omega);rw [Nat.mod_eq_of_lt (by omega),show ax .shl .u32 ((fill B a (a/4):Nat):Int) 8=_ from RD (fill B a (a/4)) 8 (by decide),VH (Nat.mod_lt _ (Nat.two_pow_pos 32)) (by omega)]
   ·rw [if_neg Hq,if_neg Hq];exact hA j hj
  ·simp only [ah];omega
 have Ht:a=64:=by omega
 subst Ht;refine⟨fun e=> ∃a:Nat,16≤a∧a≤64∧e.i=[(a:Int)]∧∀j,j<64→e.a.getD 0 (fun _=>0) j=((fg B (a - 16) j:Nat):Int),fun e=>(64 - e.i.getD 0 0).toNat,⟨16,A3,rfl,fun _ _=>rfl,16,by omega,by omega,rfl,fun j hj=>?_⟩,?_⟩
 ·simp only [ah];rw [hA j hj,NX hB]
 rintro x2 A4 ⟨a,acq,ha,hx,VV⟩;simp only [List.cons.injEq,and_true]at hx;subst hx;simp only [ah]at VV;refine⟨fun cK=>⟨by omega,fun _=>⟨by omega,fun _=>⟨by omega,fun _=>⟨by omega,fun _=>⟨by omega,fun _=>⟨by omega,fun _=>⟨by omega,fun _=>⟨by omega,fun _=>⟨by omega,fun _=>⟨by omega,fun _=>⟨by omega,fun _=>⟨by omega,fun _=>⟨by omega,fun _=>⟨by omega,fun _=>⟨by omega,fun _=>⟨by omega,fun _=>fun b1 b2=>⟨by omega,fun _=>⟨by omega,fun _=>⟨by omega,fun _=>?_⟩⟩⟩⟩⟩⟩⟩⟩⟩⟩⟩⟩⟩⟩⟩⟩⟩⟩⟩,fun wG=>fun b1=>?_⟩
 ·refine⟨(a:Int)+1,_,rfl,fun _ _=>rfl,⟨a+1,by omega,by omega,rfl,fun j hj=>?_⟩,?_⟩
  ·simp only [ah];have:=Oi hB (t:=(a:Int)) (by omega) (by omega) (A:=A4) (by rw [Int.toNat_natCast];exact VV) j hj;rw [this,Int.toNat_natCast,show a - 16+1=a+1 - 16 by omega]
  ·simp only [ah];omega
 have Ht:a=64:=by omega
 subst Ht;have hv:=Hm (K:=K) (W:=fg B 48) hH;refine⟨fun e=> ∃a:Nat,a≤64∧e.i=eight (QH K (fg B 48) H a) a,fun e=>(64 - e.i.getD 8 0).toNat,⟨_,_,_,_,_,_,_,_,0,rfl,(Ls 0 (by omega)).symm,(Ls 1 (by omega)).symm,(Ls 2 (by omega)).symm,(Ls 3 (by omega)).symm,(Ls 4 (by omega)).symm,(Ls 5 (by omega)).symm,(Ls 6 (by omega)).symm,(Ls 7 (by omega)).symm,0,by omega,rfl⟩,?_⟩;rintro x3 x4 x5 x6 x7 x8 x9 aG aO ⟨a,ha,hx⟩;simp only [eight,List.cons.injEq,and_true]at hx;obtain⟨rfl,rfl,rfl,rfl,rfl,rfl,rfl,rfl,rfl⟩:=hx;refine⟨fun cK=>⟨by omega,fun _=>fun b2 b3=>⟨by omega,fun _=>⟨by omega,fun _=>?_⟩⟩⟩,fun wG=>?_⟩
 ·refine⟨_,_,_,_,_,_,_,_,(a:Int)+1,rfl,rfl,rfl,rfl,rfl,rfl,rfl,rfl,rfl,⟨a+1,by omega,?_⟩,?_⟩
  ·have hk:A1 (ag (a:Int))=((K a:Nat):Int):=by rw [Int.toNat_natCast];exact Zt a (by omega)
   have hw:A4 (ag (a:Int))=((fg B 48 a:Nat):Int):=by rw [Int.toNat_natCast];exact VV a (by omega)
   rw [hk,hw,QQ (hv a),Oj (hv a),qt,qt];exact Hr _ _ _ _
  ·simp only [ah,aeg];omega
 have Ht:a=64:=by omega
 subst Ht;obtain⟨R,hR⟩: ∃R:Nat→Nat,R=QH K (fg B 48) H 64:=⟨_,rfl⟩;have hc:=IZ hR;rw [←hR];refine⟨fun e=> ∃a:Nat,a≤8∧e.i=[(a:Int)]∧(∀j,j<8→e.a.getD 1 (fun _=>0) j=((R j:Nat):Int))∧∀j,j<8→e.a.getD 0 (fun _=>0) j=(((if j<a then comp K H B j else H j):Nat):Int),fun e=>(8 - e.i.getD 0 0).toNat,
  ⟨0,A0,_,rfl,fun _ _=>rfl,fun _ _=>rfl,0,by omega,rfl,fun j hj=>?_,fun j hj=>?_⟩,?_⟩
 ·simp only [ah,aeg];unfold aj
  match j,hj with
  | 0,_=>rfl
  | 1,_=>rfl
  | 2,_=>rfl
  | 3,_=>rfl
  | 4,_=>rfl
  | 5,_=>rfl
  | 6,_=>rfl
  | 7,_=>rfl
 ·simp only [ah];rw [if_neg (by omega)];exact Ls j hj
 rintro aI A5 A6 ⟨a,ha,hx,h6,h5⟩;simp only [List.cons.injEq,and_true]at hx;subst hx;simp only [ah,aeg]at h6 h5;refine⟨fun cK=>⟨by omega,fun _=>⟨by omega,fun _=>⟨by omega,fun _=>?_⟩⟩⟩,fun wG=>?_⟩
 ·refine⟨(a:Int)+1,_,A6,rfl,fun _ _=>rfl,fun _ _=>rfl,⟨a+1,by omega,rfl,h6,fun j hj=>?_⟩,?_⟩
  ·simp only [ah];rw [Int.toNat_natCast];unfold aj;by_cases TA:j=a
   ·subst TA;rw [if_pos rfl,if_pos (by omega),h5 j hj,h6 j hj,if_neg (by omega),qt,hc]
   ·rw [if_neg TA,h5 j hj];by_cases h:j<a
    ·rw [if_pos h,if_pos (by omega)]
    ·rw [if_neg h,if_neg (by omega)]
  ·simp only [ah];omega
 have Zu:a=8:=by omega
 subst Zu;refine⟨_,aD.sub (List.sublist_append_left (Co b vh vk vb n.toNat A5 A1 A2) _),A5,rfl,rfl,fun j hj=>?_⟩;rw [h5 j hj,if_pos hj]
def Zv:List Nat:=[4794697086780616226,8158064640168781261,13096744586834688815,16840607885511220156,4131703408338449720,6480981068601479193,10538285296894168987,12329834152419229976,15566598209576043074,1334009975649890238,2608012711638119052,6128411473006802146,8268148722764581231,9286055187155687089,11230858885718282805,13951009754708518548,16472876342353939154,17275323862435702243,1135362057144423861,2597628984639134821,3308224258029322869,5365058923640841347,6679025012923562964,8573033837759648693,10970295158949994411,12119686244451234320,12683024718118986047,13788192230050041572,14330467153632333762,15395433587784984357,489312712824947311,1452737877330783856,2861767655752347644,3322285676063803686,5560940570517711597,5996557281743188959,7280758554555802590,8532644243296465576,9350256976987008742,10552545826968843579,11727347734174303076,12113106623233404929,14000437183269869457,14369950271660146224,15101387698204529176,15463397548674623760,17586052441742319658,1182934255886127544,1847814050463011016,2177327727835720531,2830643537854262169,3796741975233480872,4115178125766777443,5681478168544905931,6601373596472566643,7507060721942968483,8399075790359081724,8693463985226723168,9568029438360202098,10144078919501101548,10430055236837252648,11840083180663258601,13761210420658862357,14299343276471374635,14566680578165727644,15097957966210449927,16922976911328602910,17689382322260857208,500013540394364858,748580250866718886,1242879168328830382,1977374033974150939,2944078676154940804,3659926193048069267,4368137639120453308,4836135668995329356,5532061633213252278,6448918945643986474,6902733635092675308,7801388544844847127]
def Zw:List Nat:=[7640891576956012808,13503953896175478587,4354685564936845355,11912009170470909681,5840696475078001361,11170449401992604703,2270897969802886507,6620516959819538809]
def K64(j:Nat):Nat:=Zv.getD j 0
def K0(j:Nat):Nat:=K64 j/2^32
def H0(j:Nat):Nat:=Zw.getD j 0/2^32
theorem VW(j:Nat)(hj:j<64):K0 j<2^32:=by
 have: ∀j,j<64→K0 j<2^32:=by decide+kernel
 exact this j hj
theorem I0(j:Nat)(hj:j<8):H0 j<2^32:=by
 have: ∀j,j<8→H0 j<2^32:=by decide+kernel
 exact this j hj
def msg(I O N:Nat→Nat)(d0 d1 d2 d3:Nat)(j:Nat):Nat:=
 if j<12 then [104,97,105,108,101,114,32,109,101,100,105,97].getD j 0
 else if j<28 then I (j - 12)
 else if j<60 then O (j - 28)
 else if j<92 then N (j - 60)
 else [d0,d1,d2,d3,128,0,0,0,0,0,0,0,0,0,0,0,0,0,0,0,0,0,0,0,0,0,0,0,0,0,0,0,0,0,3,0].getD (j - 92) 0
def bytesOf(C:Nat→Nat)(j:Nat):Nat:=C (j/4)/2^(24 - 8*(j%4))%256
def sN(m:Nat→Nat):Nat→Nat:=bytesOf (comp K0 (comp K0 H0 m) (fun i=>m (64+i)))
theorem Fj(C:Nat→Nat)(j:Nat):bytesOf C j<256:=Nat.mod_lt _ (by decide)
theorem bW(w s:Nat)(hs:s≤32):ae .u8 (ax .shr .u32 (w:Int) (s:Int))=((w/2^s%256:Nat):Int):=by
 rw [xH .u32 w s hs,wrap_u8,Nat.shiftRight_eq_div_pow]
theorem Ol{I O N:Nat→Nat}{d0 d1 d2 d3:Nat}(hI: ∀j,j<16→I j<256)(hO: ∀j,j<32→O j<256)(hN: ∀j,j<32→N j<256)(h0:d0<256)(h1:d1<256)(h2:d2<256)(h3:d3<256)(j:Nat):
  msg I O N d0 d1 d2 d3 j<256:=by
 unfold msg;split
 ·rename_i h;have: ∀j,j<12→[104,97,105,108,101,114,32,109,101,100,105,97].getD j 0<256:=by decide
  exact this j h
 split
 ·exact hI _ (by omega)
 split
 ·exact hO _ (by omega)
 split
 ·exact hN _ (by omega)
 rename_i h;obtain⟨k,rfl⟩: ∃k,j=92+k:=⟨j - 92,by omega⟩;rw [Nat.add_sub_cancel_left]
 match k with
 | 0=>exact h0
 | 1=>exact h1
 | 2=>exact h2
 | 3=>exact h3
 | k+4=>
  have: ∀k,k<32→[128,0,0,0,0,0,0,0,0,0,0,0,0,0,0,0,0,0,0,0,0,0,0,0,0,0,0,0,0,0,3,0].getD k 0<256:=by decide
  by_cases hk:k<32
  ·exact this k hk
  ·rw [List.getD_eq_getElem?_getD,aeh (by simp;omega)];decide
end Go.RX.Sh
