/- The store's walker. -/
import Derived.Test.YtllcdnkfbeokhaaGreatM29
open Go.IntKind renaming wrap → ae
open Go.Proofs.Tryz renaming prog → auN
open Int renaming toNat → ag
open List renaming append → aul
namespace Go.RX.Vb
open Go.RX Go.Proofs
set_option maxRecDepth 100000
def R2(al:PT)(x0:Int)(A0:Nat→Int)(v0:V1):Prop:=
 ∀(_ _:Nat) (_:V1),ax (0≤x0) (
 ax (0≤x0) (
 lp x0 (
 ∀(_:V1) (_:Nat),bt (x0<16) (
 al (.tuple #[TV,.int .i64 9]) [bh v0 x0 A0]) (
 ax (16≤x0) (
 ax (0≤(x0 - 16)) (
 bt ((x0 - 16)<1) (
 al (.tuple #[TV,.int .i64 9]) [bh v0 x0 A0]) (
 ax (17≤x0) (
 ax (1≤(x0 - 16)) (
 ax ((16+(x0 - 16))≤x0) (
 ax (16<x0) (
 ax (0≤((x0 - 16) - 1)) (
 bt (((x0 - 16) - 1)<1) (
 al (.tuple #[TV,.int .i64 9]) [bh v0 x0 A0]) (
 ax (18≤x0) (
 ax (1≤((x0 - 16) - 1)) (
 ax ((17+((x0 - 16) - 1))≤x0) (
 ax (17<x0) (
 bt (1<(ar .cK .u64 0 (ae .u64 (A0 17)))) (
 al (.tuple #[TV,.int .i64 9]) [bh v0 x0 A0]) (
 ax (0≤(((x0 - 16) - 1) - 1)) (
 bt ((((x0 - 16) - 1) - 1)<1) (
 al (.tuple #[TV,.int .i64 9]) [bh v0 x0 A0]) (
 ax (19≤x0) (
 ax (1≤(((x0 - 16) - 1) - 1)) (
 ax ((18+(((x0 - 16) - 1) - 1))≤x0) (
 ax (18<x0) (
 ax (0≤((((x0 - 16) - 1) - 1) - 1)) (
 bt (((((x0 - 16) - 1) - 1) - 1)<8) (
 al (.tuple #[TV,.int .i64 9]) [bh v0 x0 A0]) (
 ax (27≤x0) (
 ax (8≤((((x0 - 16) - 1) - 1) - 1)) (
 ax ((19+((((x0 - 16) - 1) - 1) - 1))≤x0) (
 ax (19<x0) (
 ax (20<x0) (
 ax (21<x0) (
 ax (22<x0) (
 ax (23<x0) (
 ax (24<x0) (
 ax (25<x0) (
 ax (26<x0) (
 ax (0≤(((((x0 - 16) - 1) - 1) - 1) - 8)) (
 bt ((((((x0 - 16) - 1) - 1) - 1) - 8)<8) (
 al (.tuple #[TV,.int .i64 9]) [bh v0 x0 A0]) (
 ax (35≤x0) (
 ax (8≤(((((x0 - 16) - 1) - 1) - 1) - 8)) (
 ax ((27+(((((x0 - 16) - 1) - 1) - 1) - 8))≤x0) (
 ax (27<x0) (
 ax (28<x0) (
 ax (29<x0) (
 ax (30<x0) (
 ax (31<x0) (
 ax (32<x0) (
 ax (33<x0) (
 ax (34<x0) (
 ax (0≤((((((x0 - 16) - 1) - 1) - 1) - 8) - 8)) (
 bt (((((((x0 - 16) - 1) - 1) - 1) - 8) - 8)<8) (
 al (.tuple #[TV,.int .i64 9]) [bh v0 x0 A0]) (
 ax (43≤x0) (
 ax (8≤((((((x0 - 16) - 1) - 1) - 1) - 8) - 8)) (
 ax ((35+((((((x0 - 16) - 1) - 1) - 1) - 8) - 8))≤x0) (
 ax (35<x0) (
 ax (36<x0) (
 ax (37<x0) (
 ax (38<x0) (
 ax (39<x0) (
 ax (40<x0) (
 ax (41<x0) (
 ax (42<x0) (
 ax (0≤(((((((x0 - 16) - 1) - 1) - 1) - 8) - 8) - 8)) (
 bt (0<(((((((x0 - 16) - 1) - 1) - 1) - 8) - 8) - 8)) (
 al (.tuple #[TV,.int .i64 9]) [bh v0 x0 A0]) (
 ∀_:Nat,bt (¬((((((ae .u8 (ar .cK .u64 0 (ae .u64 (A0 16))))<8)∧(1≤(ae .u8 (ar .cK .u64 0 (ae .u64 (A0 18))))))∧((ae .u8 (ar .cK .u64 0 (ae .u64 (A0 18))))≤7))∧((ar .cK .u64 (ar .shl .u64 (ar .cK .u64 (ar .shl .u64 (ar .cK .u64 (ar .shl .u64 (ar .cK .u64 (ar .shl .u64 (ar .cK .u64 (ar .shl .u64 (ar .cK .u64 (ar .shl .u64 (ar .cK .u64 (ar .shl .u64 (ar .cK .u64 0 (ae .u64 (A0 19))) 8) (ae .u64 (A0 20))) 8) (ae .u64 (A0 21))) 8) (ae .u64 (A0 22))) 8) (ae .u64 (A0 23))) 8) (ae .u64 (A0 24))) 8) (ae .u64 (A0 25))) 8) (ae .u64 (A0 26)))≤(ar .cK .u64 (ar .shl .u64 (ar .cK .u64 (ar .shl .u64 (ar .cK .u64 (ar .shl .u64 (ar .cK .u64 (ar .shl .u64 (ar .cK .u64 (ar .shl .u64 (ar .cK .u64 (ar .shl .u64 (ar .cK .u64 (ar .shl .u64 (ar .cK .u64 0 (ae .u64 (A0 35))) 8) (ae .u64 (A0 36))) 8) (ae .u64 (A0 37))) 8) (ae .u64 (A0 38))) 8) (ae .u64 (A0 39))) 8) (ae .u64 (A0 40))) 8) (ae .u64 (A0 41))) 8) (ae .u64 (A0 42)))))∧(((ar .cK .u64 (ar .shl .u64 (ar .cK .u64 (ar .shl .u64 (ar .cK .u64 (ar .shl .u64 (ar .cK .u64 (ar .shl .u64 (ar .cK .u64 (ar .shl .u64 (ar .cK .u64 (ar .shl .u64 (ar .cK .u64 (ar .shl .u64 (ar .cK .u64 0 (ae .u64 (A0 27))) 8) (ae .u64 (A0 28))) 8) (ae .u64 (A0 29))) 8) (ae .u64 (A0 30))) 8) (ae .u64 (A0 31))) 8) (ae .u64 (A0 32))) 8) (ae .u64 (A0 33))) 8) (ae .u64 (A0 34)))=0)∨(((ar .cK .u64 (ar .shl .u64 (ar .cK .u64 (ar .shl .u64 (ar .cK .u64 (ar .shl .u64 (ar .cK .u64 (ar .shl .u64 (ar .cK .u64 (ar .shl .u64 (ar .cK .u64 (ar .shl .u64 (ar .cK .u64 (ar .shl .u64 (ar .cK .u64 0 (ae .u64 (A0 19))) 8) (ae .u64 (A0 20))) 8) (ae .u64 (A0 21))) 8) (ae .u64 (A0 22))) 8) (ae .u64 (A0 23))) 8) (ae .u64 (A0 24))) 8) (ae .u64 (A0 25))) 8) (ae .u64 (A0 26)))≤(ar .cK .u64 (ar .shl .u64 (ar .cK .u64 (ar .shl .u64 (ar .cK .u64 (ar .shl .u64 (ar .cK .u64 (ar .shl .u64 (ar .cK .u64 (ar .shl .u64 (ar .cK .u64 (ar .shl .u64 (ar .cK .u64 (ar .shl .u64 (ar .cK .u64 0 (ae .u64 (A0 27))) 8) (ae .u64 (A0 28))) 8) (ae .u64 (A0 29))) 8) (ae .u64 (A0 30))) 8) (ae .u64 (A0 31))) 8) (ae .u64 (A0 32))) 8) (ae .u64 (A0 33))) 8) (ae .u64 (A0 34))))∧((ar .cK .u64 (ar .shl .u64 (ar .cK .u64 (ar .shl .u64 (ar .cK .u64 (ar .shl .u64 (ar .cK .u64 (ar .shl .u64 (ar .cK .u64 (ar .shl .u64 (ar .cK .u64 (ar .shl .u64 (ar .cK .u64 (ar .shl .u64 (ar .cK .u64 0 (ae .u64 (A0 27))) 8) (ae .u64 (A0 28))) 8) (ae .u64 (A0 29))) 8) (ae .u64 (A0 30))) 8) (ae .u64 (A0 31))) 8) (ae .u64 (A0 32))) 8) (ae .u64 (A0 33))) 8) (ae .u64 (A0 34)))≤(ar .cK .u64 (ar .shl .u64 (ar .cK .u64 (ar .shl .u64 (ar .cK .u64 (ar .shl .u64 (ar .cK .u64 (ar .shl .u64 (ar .cK .u64 (ar .shl .u64 (ar .cK .u64 (ar .shl .u64 (ar .cK .u64 (ar .shl .u64 (ar .cK .u64 0 (ae .u64 (A0 35))) 8) (ae .u64 (A0 36))) 8) (ae .u64 (A0 37))) 8) (ae .u64 (A0 38))) 8) (ae .u64 (A0 39))) 8) (ae .u64 (A0 40))) 8) (ae .u64 (A0 41))) 8) (ae .u64 (A0 42)))))))) (
 al (.tuple #[TV,.int .i64 9]) [bh v0 x0 A0]) (
 al (.tuple #[.agg (aul (aj .u8 16 A0) ([.int .u8 (ae .u8 (ar .cK .u64 0 (ae .u64 (A0 16)))),.bool ((ar .cK .u64 0 (ae .u64 (A0 17)))==1),.int .u8 (ae .u8 (ar .cK .u64 0 (ae .u64 (A0 18)))),.int .u64 (ar .cK .u64 (ar .shl .u64 (ar .cK .u64 (ar .shl .u64 (ar .cK .u64 (ar .shl .u64 (ar .cK .u64 (ar .shl .u64 (ar .cK .u64 (ar .shl .u64 (ar .cK .u64 (ar .shl .u64 (ar .cK .u64 (ar .shl .u64 (ar .cK .u64 0 (ae .u64 (A0 19))) 8) (ae .u64 (A0 20))) 8) (ae .u64 (A0 21))) 8) (ae .u64 (A0 22))) 8) (ae .u64 (A0 23))) 8) (ae .u64 (A0 24))) 8) (ae .u64 (A0 25))) 8) (ae .u64 (A0 26))),.int .u64 (ar .cK .u64 (ar .shl .u64 (ar .cK .u64 (ar .shl .u64 (ar .cK .u64 (ar .shl .u64 (ar .cK .u64 (ar .shl .u64 (ar .cK .u64 (ar .shl .u64 (ar .cK .u64 (ar .shl .u64 (ar .cK .u64 (ar .shl .u64 (ar .cK .u64 0 (ae .u64 (A0 27))) 8) (ae .u64 (A0 28))) 8) (ae .u64 (A0 29))) 8) (ae .u64 (A0 30))) 8) (ae .u64 (A0 31))) 8) (ae .u64 (A0 32))) 8) (ae .u64 (A0 33))) 8) (ae .u64 (A0 34))),.int .u64 (ar .cK .u64 (ar .shl .u64 (ar .cK .u64 (ar .shl .u64 (ar .cK .u64 (ar .shl .u64 (ar .cK .u64 (ar .shl .u64 (ar .cK .u64 (ar .shl .u64 (ar .cK .u64 (ar .shl .u64 (ar .cK .u64 (ar .shl .u64 (ar .cK .u64 0 (ae .u64 (A0 35))) 8) (ae .u64 (A0 36))) 8) (ae .u64 (A0 37))) 8) (ae .u64 (A0 38))) 8) (ae .u64 (A0 39))) 8) (ae .u64 (A0 40))) 8) (ae .u64 (A0 41))) 8) (ae .u64 (A0 42)))])).toArray,.int .i64 0]) [bh v0 x0 A0]))))))))))))))))))))))))))))))))))))))))))))))))))))))))))))))))))
theorem aal(al:PT)(x0:Int)(A0:Nat→Int)(v0:V1)(h:R2 al x0 A0 v0):aq auN 75 [v0.v] [bh v0 x0 A0] al:=
 s8 (C:=cx) Vp.adV Vp.XV Vp.Re ⟨[x0],[A0],[],[],[v0],[],[],[]⟩ 1 Tryz.func75 (by kernel_rfl) h
def R3(al:PT)(x0:Int)(A0:Nat→Int)(v0:V1):Prop:=
 ∀_ _:Nat,ax (0≤x0) (
 bt (176128<x0) (
 al (.tuple #[.pointer none,.int .i64 3]) []) (
 ∀_ b3 _ _ _ _ _:Nat,∀(_ _:Nat) (_:Loop),∃(Jm:Ext→Prop) (RZ:Ext→Nat),(∃(v2:V1) (x1 x2:Int) (A1 A2 A3 A4 A5 A6 A7 A8:Nat→Int),x1=0∧v2=(⟨.slice none 0 0,rfl⟩:V1)∧(A1=(fun _=>0))∧v2=(⟨.slice none 0 0,rfl⟩:V1)∧x2=0∧(∀j,j<(ag (x2*16))→A2 j=(fun _=>0) j)∧(∀j,j<(ag x2)→A3 j=(fun _=>0) j)∧(∀j,j<(ag x2)→A4 j=(fun _=>0) j)∧(∀j,j<(ag x2)→A5 j=(fun _=>0) j)∧(∀j,j<(ag x2)→A6 j=(fun _=>0) j)∧(∀j,j<(ag x2)→A7 j=(fun _=>0) j)∧(∀j,j<(ag x2)→A8 j=(fun _=>0) j)∧Jm ⟨[],[v2],[x1,x2],[A1,A2,A3,A4,A5,A6,A7,A8],[],[],[]⟩)∧
 ∀(v2:V1) (x1 x2:Int) (A1 A2 A3 A4 A5 A6 A7 A8:Nat→Int),Jm ⟨[],[v2],[x1,x2],[A1,A2,A3,A4,A5,A6,A7,A8],[],[],[]⟩→
 ax (0≤x0) (
 bt (x1<x0) (
 ax (0≤x1) (
 ax (x1≤x0) (
 ax (0≤(x0 - x1)) (
 gS (x1+(ar .iO .i64 43 (x0 - x1))) ((
 ax (x1≤(x1+(ar .iO .i64 43 (x0 - x1)))) (
 ax ((x1+(ar .iO .i64 43 (x0 - x1)))≤x0) (
 Cl 75 [(aF 1 v0.v (ag x1) (ag (x1+(ar .iO .i64 43 (x0 - x1)))) (some (ag (x1+(ar .iO .i64 43 (x0 - x1))))))] [bh v0 x0 A0] fun x hs l=> ∃(x3 x4 x5 x6 x7 x8 x9:Int) (A9:Nat→Int),x= .tuple #[.agg (aul (aj .u8 16 A9) ([.int .u8 x3,.bool (!(x4==0)),.int .u8 x5,.int .u64 x6,.int .u64 x7,.int .u64 x8])).toArray,.int .i64 x9]∧hs=l∧
 ∀_ _:Nat,bt ((¬(x9=0))∨((A1 (ag ((aW ((List.range 16).map A9):Nat):Int)))≠0)) (
 al (.tuple #[.pointer none,.int .i64 9]) []) (
 ∀_:Nat,ax (0≤x2) (
 lp ((x2+1)*48) (
 ∀v3:V1,gS (x1+43) ((
 ∃(mS:V1) (kX h_:Int) (Pv r7 rm zM Dx Jn Jo R4:Nat→Int),kX=(x1+43)∧mS=v3∧(Pv=(aw (aw A1 0 (((A1 0)+1) - (ar .iO .i64 (A1 (ag ((aW ((List.range 16).map A9):Nat):Int))) 1))) (ag ((aW ((List.range 16).map A9):Nat):Int)) 1))∧mS=v3∧h_=(x2+1)∧(∀j,j<(ag (h_*16))→r7 j=(bX A2 (ag (x2*16)) 16 A9) j)∧(∀j,j<(ag h_)→rm j=(aw A3 (ag x2) x3) j)∧(∀j,j<(ag h_)→zM j=(aw A4 (ag x2) x4) j)∧(∀j,j<(ag h_)→Dx j=(aw A5 (ag x2) x5) j)∧(∀j,j<(ag h_)→Jn j=(aw A6 (ag x2) x6) j)∧(∀j,j<(ag h_)→Jo j=(aw A7 (ag x2) x7) j)∧(∀j,j<(ag h_)→R4 j=(aw A8 (ag x2) x8) j)∧Jm ⟨[],[mS],[kX,h_],[Pv,r7,rm,zM,Dx,Jn,Jo,R4],[],[],[]⟩∧RZ ⟨[],[mS],[kX,h_],[Pv,r7,rm,zM,Dx,Jn,Jo,R4],[],[],[]⟩<RZ ⟨[],[v2],[x1,x2],[A1,A2,A3,A4,A5,A6,A7,A8],[],[],[]⟩))))))))))))) (
 al (.tuple #[pp b3,.int .i64 0]) []))))
theorem aam(al:PT)(x0:Int)(A0:Nat→Int)(v0:V1)(h:R3 al x0 A0 v0):aq auN 36 [v0.v] [bh v0 x0 A0] al:=
 s8 (C:=aif) Vp.adV Vp.XV Vp.Re ⟨[x0],[A0],[],[],[v0],[],[],[]⟩ 0 Tryz.func36 (by kernel_rfl) h
open Go.RX Go.Proofs
set_option maxRecDepth 100000
def R5(al:PT)(x0 _ _ _ _ _ _ _:Int)(_ _ _ _ _ _ _ _ _:Nat→Int)(v0:V1):Prop:=
 ∀_:Nat,ax (0≤x0) (
 bt (64<x0) (
 al (.tuple #[.pointer none,.int .i64 2]) []) (
 bt (xQ v0.v=true) (
 ∀b1:Nat,al (.tuple #[pp b1,.int .i64 0]) []) (
 ∀_:V1,lp (x0*68) (
 ∀(_:V1) (b1:Nat),al (.tuple #[pp b1,.int .i64 0]) []))))
theorem aan(al:PT)(x0 x1 x2 x3 x4 x5 x6 x7:Int)(A0 A1 A2 A3 A4 A5 A6 A7 A8:Nat→Int)(v0:V1)(h:R5 al x0 x1 x2 x3 x4 x5 x6 x7 A0 A1 A2 A3 A4 A5 A6 A7 A8 v0):aq auN 113 [.agg (aul (aj .u8 32 A0) (aul (aj .u8 32 A1) (aul (aj .u8 32 A2) (aul (aj .u8 32 A3) (.bool (!(x1==0))::(.bool (!(x2==0))::(.bool (!(x3==0))::(.bool (!(x4==0))::(aul (aj .u8 32 A4) (.int .u32 x5::(aul (aj .u8 32 A5) ([.int .u32 x6,.int .u32 x7,v0.v])))))))))))).toArray] [aB false 245 65 v0.v (ag x0) (aM (ag x0) [ay .u8 32 A6,ay .u32 1 A7,ay .u8 32 A8])] al:=
 s8 (C:=cxN) Vn.ah5 Vn.adQ Vn.Zg ⟨[x0,x1,x2,x3,x4,x5,x6,x7],[A0,A1,A2,A3,A4,A5,A6,A7,A8],[],[],[v0],[],[],[]⟩ 0 Tryz.func113 (by kernel_rfl) h
def R6(al:PT)(x0:Int)(A0 A1:Nat→Int)(v0:V1):Prop:=
 bt (xQ v0.v=true) (
 al (.slice none 0 0) [oW v0 x0 A0 A1]) (
 ∀_:V1,ax (0≤x0) (
 ax (0≤x0) (
 lp (x0*36) (
 ∀v2:V1,al (v2.v) [oW v0 x0 A0 A1]))))
theorem aao(al:PT)(x0:Int)(A0 A1:Nat→Int)(v0:V1)(h:R6 al x0 A0 A1 v0):aq auN 81 [v0.v] [oW v0 x0 A0 A1] al:=
 s8 (C:=cxN) [.vv 0] [.cC false 0 93 33 (.var 0) [⟨.int .u32,1,.cU 0⟩,⟨.int .u8,32,.cU 1⟩]] ⟨0,1,1,2,0,0,0⟩ ⟨[x0],[A0,A1],[],[],[v0],[],[],[]⟩ 1 Tryz.func81 (by kernel_rfl) h
def R7(al:PT)(_ _ x2:Int)(A0 A1 A2 A3 A4 A5 A6 A7 A8 A9 dX dA df fN _ _ _ _ eQ fe:Nat→Int)(_:V1)(p0:HP):Prop:=
 ∀_ b1:Nat,ax (0≤x2) (
 ∃(cH:Ext→Prop) (dp:Ext→Nat),(∃(v3 v4:V1) (x3 x4 x5 x6:Int) (fg fO:Nat→Int),x3=0∧v3=(⟨.slice none 0 0,rfl⟩:V1)∧v4=(⟨.slice none 0 0,rfl⟩:V1)∧x4=0∧v3=(⟨.slice none 0 0,rfl⟩:V1)∧x5=0∧(∀j,j<(ag x5)→fg j=(fun _=>0) j)∧v4=(⟨.slice none 0 0,rfl⟩:V1)∧x6=0∧(∀j,j<(ag x6)→fO j=(fun _=>0) j)∧cH ⟨[],[v3,v4],[x3,x4,x5,x6],[fg,fO],[],[],[]⟩)∧
 ∀(v3 v4:V1) (x3 x4 x5 x6:Int) (fg fO:Nat→Int),cH ⟨[],[v3,v4],[x3,x4,x5,x6],[fg,fO],[],[],[]⟩→
 bt (x3<x2) (
 ax (0≤x3) (
 ∀_:Nat,Cl 113 [.agg (aul (aj .u8 32 (bY A0 (ag (x3*32)))) (aul (aj .u8 32 (bY A1 (ag (x3*32)))) (aul (aj .u8 32 (bY A2 (ag (x3*32)))) (aul (aj .u8 32 (bY A3 (ag (x3*32)))) (.bool (!((A4 (ag x3))==0))::(.bool (!((A5 (ag x3))==0))::(.bool (!((A6 (ag x3))==0))::(.bool (!((A7 (ag x3))==0))::(aul (aj .u8 32 (bY A8 (ag (x3*32)))) (.int .u32 (A9 (ag x3))::(aul (aj .u8 32 (bY dX (ag (x3*32)))) ([.int .u32 (dA (ag x3)),.int .u32 (df (ag x3)),(cc (fN (ag x3)))])))))))))))).toArray] [p0] fun x hs l=> ∃x7 x8:Int,x= .tuple #[(cN x7),.int .i64 x8]∧hs=l∧
 ax ((¬((¬((¬(x8=0))∨(((fe (ag x3))≠0)∧(¬(x4=0)))))∧(¬((eQ (ag x3))≠0))))∨(0≤x5)) (
 bt (((¬(x8=0))∨(((fe (ag x3))≠0)∧(¬(x4=0))))∨((¬((eQ (ag x3))≠0))∧(0<x5))) (
 al (.tuple #[.pointer none,.bool false]) []) (
 ∀b3:Nat,bt ((fe (ag x3))≠0) (
 bt ((eQ (ag x3))≠0) (
 ∀_:Nat,ax (0≤x5) (
 lp ((x5+1)*8) (
 ∀v5:V1,gS (x3+1) ((
 ∃(Eu pR:V1) (pO wE rq tQ:Int) (qy nI:Nat→Int),pO=(x3+1)∧Eu=v5∧pR=v4∧wE=((b3:Nat)+1:Int)∧Eu=v5∧rq=(x5+1)∧(∀j,j<(ag rq)→qy j=(aw fg (ag x5) ((b3:Nat)+1:Int)) j)∧pR=v4∧tQ=x6∧(∀j,j<(ag tQ)→nI j=fO j)∧cH ⟨[],[Eu,pR],[pO,wE,rq,tQ],[qy,nI],[],[],[]⟩∧dp ⟨[],[Eu,pR],[pO,wE,rq,tQ],[qy,nI],[],[],[]⟩<dp ⟨[],[v3,v4],[x3,x4,x5,x6],[fg,fO],[],[],[]⟩))))) (
 ∀_:Nat,ax (0≤x6) (
 lp ((x6+1)*8) (
 ∀v5:V1,gS (x3+1) ((
 ∃(Eu pR:V1) (pO wE rq tQ:Int) (qy nI:Nat→Int),pO=(x3+1)∧Eu=v3∧pR=v5∧wE=((b3:Nat)+1:Int)∧Eu=v3∧rq=x5∧(∀j,j<(ag rq)→qy j=fg j)∧pR=v5∧tQ=(x6+1)∧(∀j,j<(ag tQ)→nI j=(aw fO (ag x6) ((b3:Nat)+1:Int)) j)∧cH ⟨[],[Eu,pR],[pO,wE,rq,tQ],[qy,nI],[],[],[]⟩∧dp ⟨[],[Eu,pR],[pO,wE,rq,tQ],[qy,nI],[],[],[]⟩<dp ⟨[],[v3,v4],[x3,x4,x5,x6],[fg,fO],[],[],[]⟩)))))) (
 bt ((eQ (ag x3))≠0) (
 ∀_:Nat,ax (0≤x5) (
 lp ((x5+1)*8) (
 ∀v5:V1,gS (x3+1) ((
 ∃(Eu pR:V1) (pO wE rq tQ:Int) (qy nI:Nat→Int),pO=(x3+1)∧Eu=v5∧pR=v4∧wE=x4∧Eu=v5∧rq=(x5+1)∧(∀j,j<(ag rq)→qy j=(aw fg (ag x5) ((b3:Nat)+1:Int)) j)∧pR=v4∧tQ=x6∧(∀j,j<(ag tQ)→nI j=fO j)∧cH ⟨[],[Eu,pR],[pO,wE,rq,tQ],[qy,nI],[],[],[]⟩∧dp ⟨[],[Eu,pR],[pO,wE,rq,tQ],[qy,nI],[],[],[]⟩<dp ⟨[],[v3,v4],[x3,x4,x5,x6],[fg,fO],[],[],[]⟩))))) (
 ∀_:Nat,ax (0≤x6) (
 lp ((x6+1)*8) (
 ∀v5:V1,gS (x3+1) ((
 ∃(Eu pR:V1) (pO wE rq tQ:Int) (qy nI:Nat→Int),pO=(x3+1)∧Eu=v3∧pR=v5∧wE=x4∧Eu=v3∧rq=x5∧(∀j,j<(ag rq)→qy j=fg j)∧pR=v5∧tQ=(x6+1)∧(∀j,j<(ag tQ)→nI j=(aw fO (ag x6) ((b3:Nat)+1:Int)) j)∧cH ⟨[],[Eu,pR],[pO,wE,rq,tQ],[qy,nI],[],[],[]⟩∧dp ⟨[],[Eu,pR],[pO,wE,rq,tQ],[qy,nI],[],[],[]⟩<dp ⟨[],[v3,v4],[x3,x4,x5,x6],[fg,fO],[],[],[]⟩)))))))))) (
 ax ((x4=0)∨(0≤x5)) (
 ax ((x4=0)∨(0≤x6)) (
 al (.tuple #[pp b1,.bool ((!(x4==0))&&(decide ((ar .imax .i64 x5 x6)≤4)))]) []))))
theorem aap(al:PT)(x0 x1 x2:Int)(A0 A1 A2 A3 A4 A5 A6 A7 A8 A9 dX dA df fN gk gn fJ ff eQ fe:Nat→Int)(v0:V1)(p0:HP)(h:R7 al x0 x1 x2 A0 A1 A2 A3 A4 A5 A6 A7 A8 A9 dX dA df fN gk gn fJ ff eQ fe v0 p0):aq auN 67 [.agg #[.int .u8 x0,.int .u8 x1,v0.v]] [Cp v0 x2 A0 A1 A2 A3 A4 A5 A6 A7 A8 A9 dX dA df fN gk gn fJ ff eQ fe,p0] al:=
 s8 (C:=cxN) Vn.ofA Vn.ah6 Vn.adR ⟨[x0,x1,x2],[A0,A1,A2,A3,A4,A5,A6,A7,A8,A9,dX,dA,df,fN,gk,gn,fJ,ff,eQ,fe],[],[],[v0],[],[p0],[]⟩ 0 Tryz.func67 (by kernel_rfl) h
def R8(al:PT)(x0 x1 x2 x3 x4:Int)(_ _ A2 A3 A4 A5 A6:Nat→Int)(v0 _:V1)(p0:HP):Prop:=
 ∀_ _:Nat,Cl 81 [v0.v] [oW v0 x3 A2 A3] fun x hs l=> ∃v2:V1,x=v2.v∧hs=l∧
 ∀_ b3:Nat,ax (0≤x4) (
 ∃(cH:Ext→Prop) (dp:Ext→Nat),(∃(x5 x6:Int) (A7 A8:Nat→Int),x5=0∧x6=(-1)∧(A7=(fun _=>0))∧(A8=(fun _=>0))∧cH ⟨[],[],[x5,x6],[A7,A8],[],[],[]⟩)∧
 ∀(x5 x6:Int) (A7 A8:Nat→Int),cH ⟨[],[],[x5,x6],[A7,A8],[],[],[]⟩→
 bt (x5<x4) (
 ax (0≤x5) (
 ∀_:Nat,Cl 67 [.agg #[.int .u8 (A4 (ag x5)),.int .u8 (A5 (ag x5)),(cc (A6 (ag x5)))]] [p0] fun x hs l=> ∃(x7:Int) (q0:Bool),x= .tuple #[(cN x7),.bool q0]∧hs=l∧
 bt (q0=true) (
 ∀_:Nat,gS (A4 (ag x5)) ((
 gS (A5 (ag x5)) ((
 bt (((ar .cK .i64 (ar .shl .i64 (A4 (ag x5)) 8) (A5 (ag x5)))≤x6)∨(((A4 (ag x5))=x0)∧((A5 (ag x5))=x1))) (
 al (.tuple #[.pointer none,.int .i64 2]) []) (
 ∀_:Nat,ax ((A7 (ag ((aW ((List.range 2).map (aw (aw (fun _=>0) 0 (A4 (ag x5))) 1 (A5 (ag x5)))):Nat):Int)))=0) (
 ax (0≤(A7 0)) (
 gS (x5+1) ((
 ∃(rq tQ:Int) (Jo R4:Nat→Int),rq=(x5+1)∧tQ=(ar .cK .i64 (ar .shl .i64 (A4 (ag x5)) 8) (A5 (ag x5)))∧(Jo=(aw (aw A7 0 ((A7 0)+1)) (ag ((aW ((List.range 2).map (aw (aw (fun _=>0) 0 (A4 (ag x5))) 1 (A5 (ag x5)))):Nat):Int)) ((A7 0)+2)))∧(R4=(aw A8 (ag ((aW ((List.range 2).map (aw (aw (fun _=>0) 0 (A4 (ag x5))) 1 (A5 (ag x5)))):Nat):Int)) x7))∧cH ⟨[],[],[rq,tQ],[Jo,R4],[],[],[]⟩∧dp ⟨[],[],[rq,tQ],[Jo,R4],[],[],[]⟩<dp ⟨[],[],[x5,x6],[A7,A8],[],[],[]⟩)))))))))) (
 al (.tuple #[.pointer none,.int .i64 2]) []))) (
 bt ((ar .imax .i64 x2 0)<(A7 0)) (
 al (.tuple #[.pointer none,.int .i64 2]) []) (
 al (.tuple #[pp b3,.int .i64 0]) [])))
theorem aaq(al:PT)(x0 x1 x2 x3 x4:Int)(A0 A1 A2 A3 A4 A5 A6:Nat→Int)(v0 v1:V1)(p0:HP)(h:R8 al x0 x1 x2 x3 x4 A0 A1 A2 A3 A4 A5 A6 v0 v1 p0):aq auN 34 [.agg (.int .u8 x0::(.int .u8 x1::(aul (aj .u8 32 A0) (aul (aj .u8 32 A1) ([v0.v,.int .i64 x2,v1.v]))))).toArray] [oW v0 x3 A2 A3,qu v1 x4 A4 A5 A6,p0] al:=
 s8 (C:=ah9) Vn.ah7 Vn.adS Vn.Zi ⟨[x0,x1,x2,x3,x4],[A0,A1,A2,A3,A4,A5,A6],[],[],[v0,v1],[],[p0],[]⟩ 0 Tryz.func34 (by kernel_rfl) h
open Go.RX Go.Proofs
set_option maxRecDepth 100000
def Lg(al:PT)(x0:Int)(A0:Nat→Int)(q0:Bool)(v0:V1)(b0 b1:Nat):Prop:=
 ∀b2 b3:Nat,Cl 45 [pp b0,.int .i64 32] [cO b0 v0 q0,bh v0 x0 A0] fun x hs _=> ∃(v1 v2:V1) (x1 x2:Int) (A1 A2:Nat→Int) (q1:Bool),x=v2.v∧hs=[cO b0 v1 q1,bh v1 x1 A1,bh v2 x2 A2]∧
 ax (0≤x2) (
 ax (0≤x2) (
 Cl 45 [pp b0,.int .i64 32] [cO b0 v1 q1,bh v1 x1 A1] fun x hs _=> ∃(v3 v4:V1) (x3 x4:Int) (A3 A4:Nat→Int) (q2:Bool),x=v4.v∧hs=[cO b0 v3 q2,bh v3 x3 A3,bh v4 x4 A4]∧
 ax (0≤x4) (
 ax (0≤x4) (
 Cl 45 [pp b0,.int .i64 32] [cO b0 v3 q2,bh v3 x3 A3] fun x hs _=> ∃(v5 v6:V1) (x5 x6:Int) (A5 A6:Nat→Int) (q3:Bool),x=v6.v∧hs=[cO b0 v5 q3,bh v5 x5 A5,bh v6 x6 A6]∧
 ax (0≤x6) (
 ax (0≤x6) (
 Cl 45 [pp b0,.int .i64 32] [cO b0 v5 q3,bh v5 x5 A5] fun x hs _=> ∃(v7 v8:V1) (x7 x8:Int) (A7 A8:Nat→Int) (q4:Bool),x=v8.v∧hs=[cO b0 v7 q4,bh v7 x7 A7,bh v8 x8 A8]∧
 ax (0≤x8) (
 ax (0≤x8) (
 ∀b4:Nat,Cl 21 [pp b0,.int .u64 0,.int .i64 1] [cO b0 v7 q4,bh v7 x7 A7] fun x hs _=> ∃(v9:V1) (x9 bE:Int) (A9:Nat→Int) (q5:Bool),x= .int .u64 x9∧hs=[cO b0 v9 q5,bh v9 bE A9]∧
 Cl 21 [pp b0,.int .u64 0,.int .i64 1] [cO b0 v9 (q5||(decide (1<x9))),bh v9 bE A9] fun x hs _=> ∃(v10:V1) (bO bT:Int) (dX:Nat→Int) (q6:Bool),x= .int .u64 bO∧hs=[cO b0 v10 q6,bh v10 bT dX]∧
 Cl 21 [pp b0,.int .u64 0,.int .i64 1] [cO b0 v10 (q6||(decide (1<bO))),bh v10 bT dX] fun x hs _=> ∃(v11:V1) (bL dR:Int) (dA:Nat→Int) (q7:Bool),x= .int .u64 bL∧hs=[cO b0 v11 q7,bh v11 dR dA]∧
 Cl 21 [pp b0,.int .u64 0,.int .i64 1] [cO b0 v11 (q7||(decide (1<bL))),bh v11 dR dA] fun x hs _=> ∃(qY:V1) (bW dF:Int) (df:Nat→Int) (q8:Bool),x= .int .u64 bW∧hs=[cO b0 qY q8,bh qY dF df]∧
 ∀b5:Nat,Cl 45 [pp b0,.int .i64 32] [cO b0 qY (q8||(decide (1<bW))),bh qY dF df] fun x hs _=> ∃(pP rU:V1) (cr dB:Int) (fN gk:Nat→Int) (q9:Bool),x=rU.v∧hs=[cO b0 pP q9,bh pP cr fN,bh rU dB gk]∧
 ax (0≤dB) (
 ax (0≤dB) (
 ∀b6:Nat,Cl 21 [pp b0,.int .u64 0,.int .i64 4] [cO b0 pP q9,bh pP cr fN] fun x hs _=> ∃(pE:V1) (cI dz:Int) (gn:Nat→Int) (Uf:Bool),x= .int .u64 cI∧hs=[cO b0 pE Uf,bh pE dz gn]∧
 ∀b7:Nat,Cl 45 [pp b0,.int .i64 32] [cO b0 pE Uf,bh pE dz gn] fun x hs _=> ∃(rh pQ:V1) (gQ fc:Int) (fJ ff:Nat→Int) (Fu:Bool),x=pQ.v∧hs=[cO b0 rh Fu,bh rh gQ fJ,bh pQ fc ff]∧
 ax (0≤fc) (
 ax (0≤fc) (
 ∀b8:Nat,Cl 21 [pp b0,.int .u64 0,.int .i64 4] [cO b0 rh Fu,bh rh gQ fJ] fun x hs _=> ∃(mJ:V1) (fw fl:Int) (eQ:Nat→Int) (Pj:Bool),x= .int .u64 fw∧hs=[cO b0 mJ Pj,bh mJ fl eQ]∧
 ∀b9:Nat,Cl 21 [pp b0,.int .u64 0,.int .i64 4] [cO b0 mJ Pj,bh mJ fl eQ] fun x hs _=> ∃(tg:V1) (fU jR:Int) (fe:Nat→Int) (Ug:Bool),x= .int .u64 fU∧hs=[cO b0 tg Ug,bh tg jR fe]∧
 Cl 21 [pp b0,.int .u64 0,.int .i64 4] [cO b0 tg Ug,bh tg jR fe] fun x hs _=> ∃(v20:V1) (kV jC:Int) (fg:Nat→Int) (q14:Bool),x= .int .u64 kV∧hs=[cO b0 v20 q14,bh v20 jC fg]∧
 ∃(cH:Ext→Prop) (dp:Ext→Nat),(∃(vS tF:V1) (oY nS im:Int) (fO iH jW jX:Nat→Int) (NN:Bool),oY=kV∧vS=v20∧NN=q14∧vS=v20∧nS=jC∧(∀j,j<(ag nS)→fO j=fg j)∧tF=(⟨.slice none 0 0,rfl⟩:V1)∧tF=(⟨.slice none 0 0,rfl⟩:V1)∧im=0∧(∀j,j<(ag (im*32))→iH j=(fun _=>0) j)∧(∀j,j<(ag im)→jW j=(fun _=>0) j)∧(∀j,j<(ag (im*32))→jX j=(fun _=>0) j)∧cH ⟨[],[vS,tF],[oY,nS,im],[fO,iH,jW,jX],[NN],[],[]⟩)∧
 ∀(vS tF:V1) (oY nS im:Int) (fO iH jW jX:Nat→Int) (NN:Bool),cH ⟨[],[vS,tF],[oY,nS,im],[fO,iH,jW,jX],[NN],[],[]⟩→
 bt ((0<oY)∧(¬(NN=true))) (
 ∀_ _:Nat,Cl 45 [pp b0,.int .i64 32] [cO b0 vS NN,bh vS nS fO] fun x hs _=> ∃(wJ uz:V1) (Cr uR:Int) (k_ n_:Nat→Int) (Jp:Bool),x=uz.v∧hs=[cO b0 wJ Jp,bh wJ Cr k_,bh uz uR n_]∧
 ax (0≤uR) (
 ax (0≤uR) (
 ∀_:Nat,Cl 21 [pp b0,.int .u64 0,.int .i64 4] [cO b0 wJ Jp,bh wJ Cr k_] fun x hs _=> ∃(tf:V1) (rj rl:Int) (nj:Nat→Int) (Pk:Bool),x= .int .u64 rj∧hs=[cO b0 tf Pk,bh tf rl nj]∧
 ∀_:Nat,Cl 45 [pp b0,.int .i64 32] [cO b0 tf Pk,bh tf rl nj] fun x hs _=> ∃(tG uT:V1) (y_ uS:Int) (o_ q_:Nat→Int) (Uc:Bool),x=uT.v∧hs=[cO b0 tG Uc,bh tG y_ o_,bh uT uS q_]∧
 ax (0≤uS) (
 ax (0≤uS) (
 ∀_:Nat,ax (0≤im) (
 lp ((im+1)*68) (
 ∀xj:V1,∃(Wj Ep:V1) (I9 Wk vW:Int) (nI uA uB AO:Nat→Int) (aar:Bool),I9=(ae .u64 (oY - 1))∧Wj=tG∧aar=Uc∧Wj=tG∧Wk=y_∧(∀j,j<(ag Wk)→nI j=o_ j)∧Ep=xj∧Ep=xj∧vW=(im+1)∧(∀j,j<(ag (vW*32))→uA j=(bX iH (ag (im*32)) 32 (bX (fun _=>0) 0 (ag (ar .iO .i64 uR 32)) n_)) j)∧(∀j,j<(ag vW)→uB j=(aw jW (ag im) (ae .u32 rj)) j)∧(∀j,j<(ag (vW*32))→AO j=(bX jX (ag (im*32)) 32 (bX (fun _=>0) 0 (ag (ar .iO .i64 uS 32)) q_)) j)∧cH ⟨[],[Wj,Ep],[I9,Wk,vW],[nI,uA,uB,AO],[aar],[],[]⟩∧dp ⟨[],[Wj,Ep],[I9,Wk,vW],[nI,uA,uB,AO],[aar],[],[]⟩<dp ⟨[],[vS,tF],[oY,nS,im],[fO,iH,jW,jX],[NN],[],[]⟩))))))) (
 ∀_:Nat,Cl 45 [pp b0,.int .i64 32] [cO b0 vS NN,bh vS nS fO] fun x hs _=> ∃(wJ uz:V1) (Cr uR:Int) (k_ n_:Nat→Int) (Jp:Bool),x=uz.v∧hs=[cO b0 wJ Jp,bh wJ Cr k_,bh uz uR n_]∧
 ax (0≤uR) (
 ax (0≤uR) (
 Cl 45 [pp b0,.int .i64 32] [cO b0 wJ Jp,bh wJ Cr k_] fun x hs _=> ∃(tf tG:V1) (rj rl:Int) (nj o_:Nat→Int) (Pk:Bool),x=tG.v∧hs=[cO b0 tf Pk,bh tf rj nj,bh tG rl o_]∧
 ax (0≤rl) (
 ax (0≤rl) (
 ∀_:Nat,Cl 21 [pp b0,.int .u64 0,.int .i64 1] [cO b0 tf Pk,bh tf rj nj] fun x hs _=> ∃(uT:V1) (y_ uS:Int) (q_:Nat→Int) (Uc:Bool),x= .int .u64 y_∧hs=[cO b0 uT Uc,bh uT uS q_]∧
 ∀_:Nat,Cl 21 [pp b0,.int .u64 0,.int .i64 4] [cO b0 uT (Uc||(decide (1<y_))),bh uT uS q_] fun x hs _=> ∃(xj:V1) (Nx GQ:Int) (qP:Nat→Int) (q19:Bool),x= .int .u64 Nx∧hs=[cO b0 xj q19,bh xj GQ qP]∧
 ∀_:Nat,Cl 21 [pp b0,.int .u64 0,.int .i64 1] [cO b0 xj q19,bh xj GQ qP] fun x hs _=> ∃(v30:V1) (vR Df:Int) (ri:Nat→Int) (RJ:Bool),x= .int .u64 vR∧hs=[cO b0 v30 RJ,bh v30 Df ri]∧
 Cl 21 [pp b0,.int .u64 0,.int .i64 1] [cO b0 v30 (RJ||(decide (1<vR))),bh v30 Df ri] fun x hs _=> ∃(NH:V1) (Ei K2:Int) (tc:Nat→Int) (q21:Bool),x= .int .u64 Ei∧hs=[cO b0 NH q21,bh NH K2 tc]∧
 al (.tuple #[]) [cO b0 NH (q21||(decide (1<Ei))),bh NH K2 tc,ak b1 true (aul (aj .u8 32 (bX (fun _=>0) 0 (ag (ar .iO .i64 x2 32)) A2)) (aul (aj .u8 32 (bX (fun _=>0) 0 (ag (ar .iO .i64 x4 32)) A4)) (aul (aj .u8 32 (bX (fun _=>0) 0 (ag (ar .iO .i64 x6 32)) A6)) (aul (aj .u8 32 (bX (fun _=>0) 0 (ag (ar .iO .i64 x8 32)) A8)) (.bool (x9==1)::(.bool (bO==1)::(.bool (bL==1)::(.bool (bW==1)::(aul (aj .u8 32 (bX (fun _=>0) 0 (ag (ar .iO .i64 dB 32)) gk)) (.int .u32 (ae .u32 cI)::(aul (aj .u8 32 (bX (fun _=>0) 0 (ag (ar .iO .i64 fc 32)) ff)) (.int .u32 (ae .u32 fw)::(.int .u32 (ae .u32 fU)::(tF.v::(aul (aj .u8 32 (bX (fun _=>0) 0 (ag (ar .iO .i64 uR 32)) n_)) (aul (aj .u8 32 (bX (fun _=>0) 0 (ag (ar .iO .i64 rl 32)) o_)) ([.bool (y_==1),.int .u32 (ae .u32 Nx),.bool (vR==1),.bool (Ei==1)]))))))))))))))))),oX b2 b0,ak b3 true ([pp b1,.pointer (some ⟨b1,32,none⟩),.pointer (some ⟨b1,64,none⟩),.pointer (some ⟨b1,96,none⟩)]),bh v2 x2 A2,bh v4 x4 A4,bh v6 x6 A6,bh v8 x8 A8,C9 b4 b1,ak b5 true ([.pointer (some ⟨b1,132,none⟩)]),bh rU dB gk,ak b6 true ([.pointer (some ⟨b1,164,none⟩)]),ak b7 true ([.pointer (some ⟨b1,165,none⟩)]),bh pQ fc ff,ak b8 true ([.pointer (some ⟨b1,197,none⟩)]),ak b9 true ([.pointer (some ⟨b1,198,none⟩)]),aB true 245 65 tF.v (ag im) (aM (ag im) [ay .u8 32 iH,ay .u32 1 jW,ay .u8 32 jX])])))))))))))))))))
theorem Wl(al:PT)(x0:Int)(A0:Nat→Int)(q0:Bool)(v0:V1)(b0 b1:Nat)(h:Lg al x0 A0 q0 v0 b0 b1):aq auN 105 [pp b0,pp b1] [cO b0 v0 q0,bh v0 x0 A0,adG b1] al:=
 s8 (C:=ahV) Vc.adq Vc.ahO Vc.adr ⟨[x0],[A0],[q0],[b0,b1],[v0],[],[],[]⟩ 18 Tryz.func105 (by kernel_rfl) h
end Go.RX.Vb
