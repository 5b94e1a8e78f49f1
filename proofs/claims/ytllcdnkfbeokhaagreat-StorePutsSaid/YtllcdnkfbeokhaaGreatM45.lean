/- The store's walker. -/
import Derived.Test.YtllcdnkfbeokhaaGreatM44
open Go.IntKind renaming wrap -> ae
open Go.Proofs.Tryz renaming prog -> ax8
open Go.Value renaming int -> ayD
open Int renaming natCast_nonneg -> ax4, toNat -> ag
open List renaming append -> axQ, append_assoc -> ayl, flatMap_cons -> ayn, flatMap_nil -> ayx, getD_cons_zero -> ah, length_append -> axP, length_cons -> ax5, length_map -> ayd, length_nil -> aya, mem_range -> ayc, mem_singleton -> ax2
namespace Go.RX.Vb
open Go.RX Go.Proofs
set_option maxRecDepth 100000
def UF(al:PT)(x0:Int)(A0:Nat->Int)(_:V1)(b0:Nat)(_ p1:HP):Prop:=
 ay (0<=x0) (
 ∃(bO:Ext->Prop) (dG:Ext->Nat),(∃x1:Int,∃p2:HP,x1=0/\p2=p1/\bO ⟨[],[],[x1],[],[],[p2],[]⟩)/\
 ∀x1:Int,∀p2:HP,bO ⟨[],[],[x1],[],[],[p2],[]⟩->
 bf (x1<x0) (
 ay (0<=x1) (
 bf ((A0 (ag x1))≠0) (
 ∀b1:Nat,Cl 25 [pp b0,.int .u8 98,.slice (some ⟨b1,0,none⟩) 1 1] [p2,ak b1 true ([.int .u64 1])] <| mN λp3=>
 fj (x1+1) ((
 ∃jd:Int,∃p2':HP,jd=(x1+1)/\p2'=p3/\Dn bO dG ⟨[],[],[jd],[],[],[p2'],[]⟩ ⟨[],[],[x1],[],[],[p2],[]⟩))) (
 ∀b1:Nat,Cl 25 [pp b0,.int .u8 98,.slice (some ⟨b1,0,none⟩) 1 1] [p2,ak b1 true ([.int .u64 0])] <| mN λp3=>
 fj (x1+1) ((
 ∃jd:Int,∃p2':HP,jd=(x1+1)/\p2'=p3/\Dn bO dG ⟨[],[],[jd],[],[],[p2'],[]⟩ ⟨[],[],[x1],[],[],[p2],[]⟩))))) (
 al (.tuple #[]) [p2]))
theorem adn(al:PT)(x0:Int)(A0:Nat->Int)(v0:V1)(b0:Nat)(p0 p1:HP)(h:UF al x0 A0 v0 b0 p0 p1):ao ax8 31 [pp b0,v0.v] [p1,aA false 4 1 v0.v (ag x0) (aG (ag x0) [cR 1 A0])] al:=
 qv (C:=KX) Wg.isA Wg.aot Wg.ah7 ⟨[x0],[A0],[],[b0],[v0],[],[p0,p1],[]⟩ 1 Tryz.func31 (by kernel_rfl) h
def MQ(al:PT)(x0 x1:Int)(_:Nat->Int)(b0:Nat)(_ p1:HP):Prop:=
 ∀_ b2:Nat,Cl 25 [pp b0,.int .u8 49,.slice (some ⟨b2,0,none⟩) 2 2] [p1,ak b2 true ([.int .u64 (ae .u64 x0),.int .u64 (ae .u64 x1)])] <| mN λp2=>
 al (.tuple #[]) [p2]
theorem Ye(al:PT)(x0 x1:Int)(A0:Nat->Int)(b0:Nat)(p0 p1:HP)(h:MQ al x0 x1 A0 b0 p0 p1):ao ax8 26 [pp b0,.agg #[.int .u8 x0,.int .u8 x1]] [p1] al:=
 qv (C:=KX) Wg.aaW Wg.rHp Wg.uS ⟨[x0,x1],[A0],[],[b0],[],[],[p0,p1],[]⟩ 1 Tryz.func26 (by kernel_rfl) h
def MR(al:PT)(x0 _:Int)(A0:Nat->Int)(b0:Nat)(_ p1:HP):Prop:=
 ∀_ b2:Nat,Cl 24 [pp b0,.slice (some ⟨b2,0,none⟩) 1 1] [p1,ak b2 true (axQ (aj .u8 32 A0) ([]))] <| mN λp2=>
 ∀b3:Nat,Cl 25 [pp b0,.int .u8 52,.slice (some ⟨b3,0,none⟩) 1 1] [p2,gZ b3 (ae .u64 x0)] <| mN λp3=>
 al (.tuple #[]) [p3]
theorem Yf(al:PT)(x0 x1:Int)(A0:Nat->Int)(b0:Nat)(p0 p1:HP)(h:MR al x0 x1 A0 b0 p0 p1):ao ax8 99 [pp b0,.agg (axQ (aj .u8 32 A0) ([.int .u32 x0])).toArray] [p1] al:=
 qv (C:=KX) Wg.ac2 Wg.rHp Wg.uS ⟨[x0,x1],[A0],[],[b0],[],[],[p0,p1],[]⟩ 1 Tryz.func99 (by kernel_rfl) h
def MS(al:PT)(x0 x1 x2 x3 x4 x5 x6 x7:Int)(A0 A1 A2 A3 A4 A5 A6 A7 A8:Nat->Int)(_:V1)(b0:Nat)(_ p1:HP):Prop:=
 ∀_ b2:Nat,Cl 24 [pp b0,.slice (some ⟨b2,0,none⟩) 4 4] [p1,ak b2 true (axQ (aj .u8 32 A0) (axQ (aj .u8 32 A1) (axQ (aj .u8 32 A2) (axQ (aj .u8 32 A3) ([])))))] <| mN λp2=>
 ∀b3:Nat,Cl 31 [pp b0,.slice (some ⟨b3,0,none⟩) 4 4] [p2,ak b3 true ([.bool (!(x1==0)),.bool (!(x2==0)),.bool (!(x3==0)),.bool (!(x4==0))])] <| mN λp3=>
 Cl 99 [pp b0,.agg (axQ (aj .u8 32 A4) ([.int .u32 x5])).toArray] [p3] λx hs _=> ∃p4:HP,x= .tuple #[]/\hs=[p4]/\
 Cl 99 [pp b0,.agg (axQ (aj .u8 32 A5) ([.int .u32 x6])).toArray] [p4] λx hs _=> ∃p5:HP,x= .tuple #[]/\hs=[p5]/\
 ∀b4:Nat,Cl 25 [pp b0,.int .u8 52,.slice (some ⟨b4,0,none⟩) 1 1] [p5,gZ b4 (ae .u64 x7)] <| mN λp6=>
 ay (0<=x0) (
 ∀b5:Nat,Cl 25 [pp b0,.int .u8 108,.slice (some ⟨b5,0,none⟩) 1 1] [p6,gZ b5 (ae .u64 x0)] <| mN λp7=>
 ∃(bO:Ext->Prop) (dG:Ext->Nat),(∃x8:Int,∃p8:HP,x8=0/\p8=p7/\bO ⟨[],[],[x8],[],[],[p8],[]⟩)/\
 ∀x8:Int,∀p8:HP,bO ⟨[],[],[x8],[],[],[p8],[]⟩->
 bf (x8<x0) (
 ay (0<=x8) (
 ∀_ b7:Nat,Cl 24 [pp b0,.slice (some ⟨b7,0,none⟩) 1 1] [p8,ak b7 true (axQ (aj .u8 32 (bx A6 (ag (x8*32)))) ([]))] <| mN λp9=>
 ∀b8:Nat,Cl 25 [pp b0,.int .u8 52,.slice (some ⟨b8,0,none⟩) 1 1] [p9,gZ b8 (ae .u64 (A7 (ag x8)))] <| mN λQg=>
 ∀b9:Nat,Cl 24 [pp b0,.slice (some ⟨b9,0,none⟩) 1 1] [Qg,ak b9 true (axQ (aj .u8 32 (bx A8 (ag (x8*32)))) ([]))] <| mN λZE=>
 fj (x8+1) ((
 ∃PS:Int,∃p8':HP,PS=(x8+1)/\p8'=ZE/\Dn bO dG ⟨[],[],[PS],[],[],[p8'],[]⟩ ⟨[],[],[x8],[],[],[p8],[]⟩)))) (
 al (.tuple #[]) [p8]))
theorem Yg(al:PT)(x0 x1 x2 x3 x4 x5 x6 x7:Int)(A0 A1 A2 A3 A4 A5 A6 A7 A8:Nat->Int)(v0:V1)(b0:Nat)(p0 p1:HP)(h:MS al x0 x1 x2 x3 x4 x5 x6 x7 A0 A1 A2 A3 A4 A5 A6 A7 A8 v0 b0 p0 p1):ao ax8 48 [pp b0,KW A0 A1 A2 A3 (!(x1==0)) (!(x2==0)) (!(x3==0)) (!(x4==0)) A4 x5 A5 x6 x7 v0] [p1,sG v0 x0 A6 A7 A8] al:=
 qv (C:=KX) Wg.ah8 Wg.ac3 Wg.X6 ⟨[x0,x1,x2,x3,x4,x5,x6,x7],[A0,A1,A2,A3,A4,A5,A6,A7,A8],[],[b0],[v0],[],[p0,p1],[]⟩ 1 Tryz.func48 (by kernel_rfl) h
def MT(al:PT)(x0 x1 x2 x3 x4 x5 x6 x7 x8 x9 bA bH:Int)(A0 A1 A2 A3 A4 A5 A6 A7 A8 A9 dM:Nat->Int)(v0:V1)(b0:Nat)(_ p1:HP):Prop:=
 ∀_:Nat,Cl 48 [pp b0,KW A0 A1 A2 A3 (!(x1==0)) (!(x2==0)) (!(x3==0)) (!(x4==0)) A4 x5 A5 x6 x7 v0] [p1,sG v0 x0 A8 A9 dM] λx hs _=> ∃p2:HP,x= .tuple #[]/\hs=[p2,sG v0 x0 A8 A9 dM]/\
 ∀b2:Nat,Cl 24 [pp b0,.slice (some ⟨b2,0,none⟩) 2 2] [p2,ak b2 true (axQ (aj .u8 32 A6) (axQ (aj .u8 32 A7) ([])))] <| mN λp3=>
 ∀b3:Nat,Cl 31 [pp b0,.slice (some ⟨b3,0,none⟩) 1 1] [p3,ak b3 true ([.bool (!(x8==0))])] <| mN λp4=>
 ∀b4:Nat,Cl 25 [pp b0,.int .u8 52,.slice (some ⟨b4,0,none⟩) 1 1] [p4,gZ b4 (ae .u64 x9)] <| mN λp5=>
 ∀b5:Nat,Cl 31 [pp b0,.slice (some ⟨b5,0,none⟩) 2 2] [p5,ak b5 true ([.bool (!(bA==0)),.bool (!(bH==0))])] <| mN λp6=>
 al (.tuple #[]) [p6]
theorem Yh(al:PT)(x0 x1 x2 x3 x4 x5 x6 x7 x8 x9 bA bH:Int)(A0 A1 A2 A3 A4 A5 A6 A7 A8 A9 dM:Nat->Int)(v0:V1)(b0:Nat)(p0 p1:HP)(h:MT al x0 x1 x2 x3 x4 x5 x6 x7 x8 x9 bA bH A0 A1 A2 A3 A4 A5 A6 A7 A8 A9 dM v0 b0 p0 p1):ao ax8 27 [pp b0,.agg (axQ (aj .u8 32 A0) (axQ (aj .u8 32 A1) (axQ (aj .u8 32 A2) (axQ (aj .u8 32 A3) (.bool (!(x1==0))::(.bool (!(x2==0))::(.bool (!(x3==0))::(.bool (!(x4==0))::(axQ (aj .u8 32 A4) (.int .u32 x5::(axQ (aj .u8 32 A5) (.int .u32 x6::(.int .u32 x7::(v0.v::(axQ (aj .u8 32 A6) (axQ (aj .u8 32 A7) ([.bool (!(x8==0)),.int .u32 x9,.bool (!(bA==0)),.bool (!(bH==0))]))))))))))))))))).toArray] [p1,sG v0 x0 A8 A9 dM] al:=
 qv (C:=KX) Wg.Wn Wg.ah9 Wg.ac4 ⟨[x0,x1,x2,x3,x4,x5,x6,x7,x8,x9,bA,bH],[A0,A1,A2,A3,A4,A5,A6,A7,A8,A9,dM],[],[b0],[v0],[],[p0,p1],[]⟩ 1 Tryz.func27 (by kernel_rfl) h
def MU(al:PT)(x0 x1 x2 x3 x4 x5 x6 x7 x8 x9 bA bH bR bN dP b_ dD:Int)(A0 A1 A2 A3 A4 A5 A6 A7 A8:Nat->Int)(_ v1 _:V1)(b0:Nat)(_ p1:HP):Prop:=
 ∀_:Nat,Cl 26 [pp b0,.agg #[.int .u8 x0,.int .u8 x1]] [p1] <| mN λp2=>
 ∃(bO:Ext->Prop) (dG:Ext->Nat),(∃cq:Int,∃p3:HP,cq=0/\p3=p2/\bO ⟨[],[],[cq],[],[],[p3],[]⟩)/\
 ∀cq:Int,∀p3:HP,bO ⟨[],[],[cq],[],[],[p3],[]⟩->
 bf (cq<8) (
 ay (0<=cq) (
 ∀b2:Nat,Cl 25 [pp b0,.int .u8 49,.slice (some ⟨b2,0,none⟩) 1 1] [p3,gZ b2 (ae .u64 (A0 (ag cq)))] <| mN λp4=>
 fj (cq+1) ((
 ∃Kr:Int,∃p3':HP,Kr=(cq+1)/\p3'=p4/\Dn bO dG ⟨[],[],[Kr],[],[],[p3'],[]⟩ ⟨[],[],[cq],[],[],[p3],[]⟩)))) (
 ay (0<=dP) (
 ∀b2:Nat,Cl 25 [pp b0,.int .u8 108,.slice (some ⟨b2,0,none⟩) 1 1] [p3,gZ b2 (ae .u64 dP)] <| mN λp4=>
 ∃(mc:Ext->Prop) (xp:Ext->Nat),(∃dt:Int,∃p5:HP,dt=0/\p5=p4/\mc ⟨[],[],[dt],[],[],[p5],[]⟩)/\
 ∀dt:Int,∀p5:HP,mc ⟨[],[],[dt],[],[],[p5],[]⟩->
 bf (dt<dP) (
 ay (0<=dt) (
 ∀_:Nat,Cl 30 [pp b0,.agg (axQ (aj .u8 16 (bx A5 (ag (dt*16)))) ([])).toArray] [p5] <| mN λp6=>
 fj (dt+1) ((
 ∃aii:Int,∃p5':HP,aii=(dt+1)/\p5'=p6/\Dn mc xp ⟨[],[],[aii],[],[],[p5'],[]⟩ ⟨[],[],[dt],[],[],[p5],[]⟩)))) (
 ∀b3:Nat,Cl 25 [pp b0,.int .u8 49,.slice (some ⟨b3,0,none⟩) 1 1] [p5,gZ b3 (ae .u64 x2)] <| mN λp6=>
 Cl 30 [pp b0,.agg (axQ (aj .u8 16 A1) ([])).toArray] [p6] λx hs _=> ∃p7:HP,x= .tuple #[]/\hs=[p7]/\
 ∀b4:Nat,Cl 31 [pp b0,.slice (some ⟨b4,0,none⟩) 1 1] [p7,ak b4 true ([.bool (!(x3==0))])] <| mN λp8=>
 ∀b5:Nat,Cl 25 [pp b0,.int .u8 49,.slice (some ⟨b5,0,none⟩) 1 1] [p8,gZ b5 (ae .u64 x4)] <| mN λp9=>
 Cl 26 [pp b0,.agg #[.int .u8 x5,.int .u8 x6]] [p9] λx hs _=> ∃Qg:HP,x= .tuple #[]/\hs=[Qg]/\
 ∀b6:Nat,Cl 24 [pp b0,.slice (some ⟨b6,0,none⟩) 3 3] [Qg,ak b6 true (axQ (aj .u8 32 A2) (axQ (aj .u8 32 A3) (axQ (aj .u8 32 A4) ([]))))] <| mN λZE=>
 Cl 29 [pp b0,v1.v] [ZE,bQ v1 b_ A6] λx hs _=> ∃p12:HP,x= .tuple #[]/\hs=[p12,bQ v1 b_ A6]/\
 fj (x7+1) ((
 ∀b7:Nat,Cl 25 [pp b0,.int .u8 49,.slice (some ⟨b7,0,none⟩) 1 1] [p12,gZ b7 (ae .u64 (x7+1))] <| mN λQh=>
 ay (0<=dD) (
 ∀b8:Nat,Cl 25 [pp b0,.int .u8 108,.slice (some ⟨b8,0,none⟩) 1 1] [Qh,gZ b8 (ae .u64 dD)] <| mN λPC=>
 ∃(kz:Ext->Prop) (tO:Ext->Nat),(∃cO:Int,∃FZ:HP,cO=0/\FZ=PC/\kz ⟨[],[],[cO],[],[],[FZ],[]⟩)/\
 ∀cO:Int,∀FZ:HP,kz ⟨[],[],[cO],[],[],[FZ],[]⟩->
 bf (cO<dD) (
 ay (0<=cO) (
 ∀_:Nat,Cl 26 [pp b0,.agg #[.int .u8 (A7 (ag cO)),.int .u8 (A8 (ag cO))]] [FZ] <| mN λp16=>
 fj (cO+1) ((
 ∃aik:Int,∃ail:HP,aik=(cO+1)/\ail=p16/\Dn kz tO ⟨[],[],[aik],[],[],[ail],[]⟩ ⟨[],[],[cO],[],[],[FZ],[]⟩)))) (
 ∀b9:Nat,Cl 25 [pp b0,.int .u8 56,.slice (some ⟨b9,0,none⟩) 5 5] [FZ,ak b9 true ([.int .u64 x8,.int .u64 x9,.int .u64 bA,.int .u64 bH,.int .u64 bR])] <| mN λp16=>
 ∀y4:Nat,Cl 25 [pp b0,.int .u8 52,.slice (some ⟨y4,0,none⟩) 1 1] [p16,gZ y4 (ae .u64 bN)] <| mN λp17=>
 al (.tuple #[]) [p17])))))))
theorem Yi(al:PT)(x0 x1 x2 x3 x4 x5 x6 x7 x8 x9 bA bH bR bN dP b_ dD:Int)(A0 A1 A2 A3 A4 A5 A6 A7 A8:Nat->Int)(v0 v1 v2:V1)(b0:Nat)(p0 p1:HP)(h:MU al x0 x1 x2 x3 x4 x5 x6 x7 x8 x9 bA bH bR bN dP b_ dD A0 A1 A2 A3 A4 A5 A6 A7 A8 v0 v1 v2 b0 p0 p1):ao ax8 28 [pp b0,.agg (.int .u8 x0::(.int .u8 x1::(axQ (aj .u8 8 A0) (v0.v::(.int .u8 x2::(axQ (aj .u8 16 A1) (.bool (!(x3==0))::(.int .u8 x4::(.int .u8 x5::(.int .u8 x6::(axQ (aj .u8 32 A2) (axQ (aj .u8 32 A3) (axQ (aj .u8 32 A4) ([v1.v,.int .i64 x7,v2.v,.int .u64 x8,.int .u64 x9,.int .u64 bA,.int .u64 bH,.int .u64 bR,.int .u32 bN])))))))))))))).toArray] [p1,mu v0 dP A5,bQ v1 b_ A6,mr v2 dD A7 A8] al:=
 qv (C:=KX) Wg.WI Wg.LS Wg.J1 ⟨[x0,x1,x2,x3,x4,x5,x6,x7,x8,x9,bA,bH,bR,bN,dP,b_,dD],[A0,A1,A2,A3,A4,A5,A6,A7,A8],[],[b0],[v0,v1,v2],[],[p0,p1],[]⟩ 1 Tryz.func28 (by kernel_rfl) h
def MV(al:PT)(x0 x1 x2 x3 x4 x5 x6 x7 x8 x9 bA bH bR bN dP b_ dD cq dt cO d_ gN eT ff e9:Int)(A0 A1 A2 A3 A4 A5 A6 A7 A8 A9 dM dx dC fH gw gx fw eY eQ fb fg fR:Nat->Int)(v0 v1 v2 v3 v4 v5 v6:V1)(p0:HP):Prop:=
 ∀b0 b1:Nat,∃Zl:Ext->Prop,(∀(w:World) (Fs:List HP),aU ([ak b1 true ([.slice none 0 0])]++Fs) w->∃p1:HP,aU ([p1]++Fs) w/\Zl ⟨[],[],[],[],[],[p1],[]⟩)/\
 (∀p1:HP,Zl ⟨[],[],[],[],[],[p1],[]⟩->
 ∀b2:Nat,Cl 24 [pp b1,.slice (some ⟨b2,0,none⟩) 1 1] [p1,ak b2 true (axQ (aj .u8 32 A0) ([]))] <| mN λp2=>
 ∀b3:Nat,Cl 25 [pp b1,.int .u8 56,.slice (some ⟨b3,0,none⟩) 1 1] [p2,gZ b3 x0] <| mN λp3=>
 ∀b4:Nat,Cl 26 [pp b1,.agg #[.int .u8 x1,.int .u8 x2]] [p3] <| mN λp4=>
 ∀b5:Nat,Cl 24 [pp b1,.slice (some ⟨b5,0,none⟩) 2 2] [p4,ak b5 true (axQ (aj .u8 32 A1) (axQ (aj .u8 32 A2) ([])))] <| mN λp5=>
 ay (0<=dt) (
 ∀b6:Nat,Cl 25 [pp b1,.int .u8 108,.slice (some ⟨b6,0,none⟩) 1 1] [p5,gZ b6 (ae .u64 dt)] <| mN λp6=>
 ∃(bO:Ext->Prop) (dG:Ext->Nat),(∃i_:Int,∃p7:HP,i_=0/\p7=p6/\bO ⟨[],[],[i_],[],[],[p7],[]⟩)/\
 ∀i_:Int,∀p7:HP,bO ⟨[],[],[i_],[],[],[p7],[]⟩->
 bf (i_<dt) (
 ay (0<=i_) (
 ∀_ b8:Nat,Cl 25 [pp b1,.int .u8 52,.slice (some ⟨b8,0,none⟩) 1 1] [p7,gZ b8 (ae .u64 (A8 (ag i_)))] <| mN λp8=>
 ∀b9:Nat,Cl 24 [pp b1,.slice (some ⟨b9,0,none⟩) 1 1] [p8,ak b9 true (axQ (aj .u8 32 (bx A9 (ag (i_*32)))) ([]))] <| mN λp9=>
 fj (i_+1) ((
 ∃Sq:Int,∃p7':HP,Sq=(i_+1)/\p7'=p9/\Dn bO dG ⟨[],[],[Sq],[],[],[p7'],[]⟩ ⟨[],[],[i_],[],[],[p7],[]⟩)))) (
 ∀b7:Nat,Cl 25 [pp b1,.int .u8 52,.slice (some ⟨b7,0,none⟩) 1 1] [p7,gZ b7 (ae .u64 x3)] <| mN λp8=>
 ay (0<=cO) (
 ∀b8:Nat,Cl 25 [pp b1,.int .u8 108,.slice (some ⟨b8,0,none⟩) 1 1] [p8,gZ b8 (ae .u64 cO)] <| mN λp9=>
 ∃(mc:Ext->Prop) (xp:Ext->Nat),(∃ki:Int,∃Qg:HP,ki=0/\Qg=p9/\mc ⟨[],[],[ki],[],[],[Qg],[]⟩)/\
 ∀ki:Int,∀Qg:HP,mc ⟨[],[],[ki],[],[],[Qg],[]⟩->
 bf (ki<cO) (
 ∃BG:Ext->Prop,(∀(w:World) (Fs:List HP),aU ([m9 v1 cO dM dx dC,p0]++Fs) w->∃(v7:V1) (iM:Int) (iB jk iG kH mT mQ oS qH pK qI rO sH sI vo vp uU wD vq wE wF:Nat->Int),aU ([aA false 68 3 v1.v (ag cO) (aG (ag cO) [ax .u8 1 dM,ax .u8 1 dx,cV 1 (λj=>if j=(ag ki)then v7.v else bg (dC j))]),p0,wu v7 iM iB jk iG kH mT mQ oS qH pK qI rO sH sI vo vp uU wD vq wE wF]++Fs) w/\BG ⟨[],[v7],[iM],[iB,jk,iG,kH,mT,mQ,oS,qH,pK,qI,rO,sH,sI,vo,vp,uU,wD,vq,wE,wF],[],[],[]⟩)/\
 (∀(v7:V1) (iM:Int) (iB jk iG kH mT mQ oS qH pK qI rO sH sI vo vp uU wD vq wE wF:Nat->Int),BG ⟨[],[v7],[iM],[iB,jk,iG,kH,mT,mQ,oS,qH,pK,qI,rO,sH,sI,vo,vp,uU,wD,vq,wE,wF],[],[],[]⟩->
 ay (0<=ki) (
 ∀_:Nat,∃BG:Ext->Prop,(∀(w:World) (Fs:List HP),aU ([aA false 68 3 v1.v (ag cO) (aG (ag cO) [ax .u8 1 dM,ax .u8 1 dx,cV 1 (λj=>if j=(ag ki)then v7.v else bg (dC j))]),wu v7 iM iB jk iG kH mT mQ oS qH pK qI rO sH sI vo vp uU wD vq wE wF]++Fs) w->aU ([m9 v1 cO dM dx dC,wu v7 iM iB jk iG kH mT mQ oS qH pK qI rO sH sI vo vp uU wD vq wE wF]++Fs) w/\BG ⟨[],[],[],[],[],[],[]⟩)/\
 (BG ⟨[],[],[],[],[],[],[]⟩->
 Cl 26 [pp b1,.agg #[.int .u8 (dM (ag ki)),.int .u8 (dx (ag ki))]] [Qg] λx hs _=> ∃ZE:HP,x= .tuple #[]/\hs=[ZE]/\
 ay (0<=iM) (
 ∀y4:Nat,Cl 25 [pp b1,.int .u8 108,.slice (some ⟨y4,0,none⟩) 1 1] [ZE,gZ y4 (ae .u64 iM)] <| mN λp12=>
 ∃(Jo:Ext->Prop) (ZU:Ext->Nat),(∃jY:Int,∃Qh:HP,jY=0/\Qh=p12/\Jo ⟨[],[],[jY],[],[],[Qh],[]⟩)/\
 ∀jY:Int,∀Qh:HP,Jo ⟨[],[],[jY],[],[],[Qh],[]⟩->
 bf (jY<iM) (
 ay (0<=jY) (
 ∀_:Nat,Cl 27 [pp b1,.agg (axQ (aj .u8 32 (bx iB (ag (jY*32)))) (axQ (aj .u8 32 (bx jk (ag (jY*32)))) (axQ (aj .u8 32 (bx iG (ag (jY*32)))) (axQ (aj .u8 32 (bx kH (ag (jY*32)))) (.bool (!((mT (ag jY))==0))::(.bool (!((mQ (ag jY))==0))::(.bool (!((oS (ag jY))==0))::(.bool (!((qH (ag jY))==0))::(axQ (aj .u8 32 (bx pK (ag (jY*32)))) (.int .u32 (qI (ag jY))::(axQ (aj .u8 32 (bx rO (ag (jY*32)))) (.int .u32 (sH (ag jY))::(.int .u32 (sI (ag jY))::((bg (vo (ag jY)))::(axQ (aj .u8 32 (bx vp (ag (jY*32)))) (axQ (aj .u8 32 (bx uU (ag (jY*32)))) ([.bool (!((wD (ag jY))==0)),.int .u32 (vq (ag jY)),.bool (!((wE (ag jY))==0)),.bool (!((wF (ag jY))==0))]))))))))))))))))).toArray] [Qh,p0] λx hs _=> ∃PC:HP,x= .tuple #[]/\hs=[PC,p0]/\
 fj (jY+1) ((
 ∃So:Int,∃aim:HP,So=(jY+1)/\aim=PC/\Dn Jo ZU ⟨[],[],[So],[],[],[aim],[]⟩ ⟨[],[],[jY],[],[],[Qh],[]⟩)))) (
 fj (ki+1) ((
 ∃IJ:Ext->Prop,(∀(w:World) (Fs:List HP),aU ([wu v7 iM iB jk iG kH mT mQ oS qH pK qI rO sH sI vo vp uU wD vq wE wF]++Fs) w->aU ([]++Fs) w/\IJ ⟨[],[],[],[],[],[],[]⟩)/\
 (IJ ⟨[],[],[],[],[],[],[]⟩->
 ∃Sr:Int,∃ain:HP,Sr=(ki+1)/\ain=Qh/\Dn mc xp ⟨[],[],[Sr],[],[],[ain],[]⟩ ⟨[],[],[ki],[],[],[Qg],[]⟩))))))))) (
 Cl 28 [pp b1,.agg (.int .u8 x4::(.int .u8 x5::(axQ (aj .u8 8 A3) (v2.v::(.int .u8 x6::(axQ (aj .u8 16 A4) (.bool (!(x7==0))::(.int .u8 x8::(.int .u8 x9::(.int .u8 bA::(axQ (aj .u8 32 A5) (axQ (aj .u8 32 A6) (axQ (aj .u8 32 A7) ([v3.v,.int .i64 bH,v4.v,.int .u64 bR,.int .u64 bN,.int .u64 dP,.int .u64 b_,.int .u64 dD,.int .u32 cq])))))))))))))).toArray] [Qg,mu v2 d_ fH,bQ v3 gN gw,mr v4 eT gx fw] λx hs _=> ∃ZE:HP,x= .tuple #[]/\hs=[ZE,mu v2 d_ fH,bQ v3 gN gw,mr v4 eT gx fw]/\
 Cl 29 [pp b1,v5.v] [ZE,bQ v5 ff eY] λx hs _=> ∃p12:HP,x= .tuple #[]/\hs=[p12,bQ v5 ff eY]/\
 ay (0<=e9) (
 ∀b9:Nat,Cl 25 [pp b1,.int .u8 108,.slice (some ⟨b9,0,none⟩) 1 1] [p12,gZ b9 (ae .u64 e9)] <| mN λQh=>
 ∃(kz:Ext->Prop) (tO:Ext->Nat),(∃iM:Int,∃PC:HP,iM=0/\PC=Qh/\kz ⟨[],[],[iM],[],[],[PC],[]⟩)/\
 ∀iM:Int,∀PC:HP,kz ⟨[],[],[iM],[],[],[PC],[]⟩->
 bf (iM<e9) (
 ay (0<=iM) (
 ∀_:Nat,Cl 30 [pp b1,.agg (axQ (aj .u8 16 (bx eQ (ag (iM*16)))) ([])).toArray] [PC] <| mN λFZ=>
 ∀DR:Nat,Cl 25 [pp b1,.int .u8 49,.slice (some ⟨DR,0,none⟩) 1 1] [FZ,gZ DR (ae .u64 (fb (ag iM)))] <| mN λp16=>
 ∀Mb:Nat,Cl 31 [pp b1,.slice (some ⟨Mb,0,none⟩) 1 1] [p16,ak Mb true ([.bool (!((fg (ag iM))==0))])] <| mN λp17=>
 ∀Jf:Nat,Cl 25 [pp b1,.int .u8 56,.slice (some ⟨Jf,0,none⟩) 1 1] [p17,gZ Jf (fR (ag iM))] <| mN λp18=>
 fj (iM+1) ((
 ∃aio:Int,∃aip:HP,aio=(iM+1)/\aip=p18/\Dn kz tO ⟨[],[],[aio],[],[],[aip],[]⟩ ⟨[],[],[iM],[],[],[PC],[]⟩)))) (
 ∃IJ:Ext->Prop,(∀(w:World) (Fs:List HP),aU ([PC]++Fs) w->∃(v7:V1) (jY:Int) (iB jk iG:Nat->Int),∃FZ:HP,aU ([ak b1 true ([v7.v]),kg v7 jY iB jk iG,FZ]++Fs) w/\IJ ⟨[],[v7],[jY],[iB,jk,iG],[],[FZ],[]⟩)/\
 (∀(v7:V1) (jY:Int) (iB jk iG:Nat->Int),∀FZ:HP,IJ ⟨[],[v7],[jY],[iB,jk,iG],[],[FZ],[]⟩->
 al (v7.v) [m8 v0 dt A8 A9,m9 v1 cO dM dx dC,mu v2 d_ fH,bQ v3 gN gw,mr v4 eT gx fw,bQ v5 ff eY,qw v6 e9 eQ fb fg fR,p0,Rs b0 A0 x0 x1 x2 A1 A2 v0 x3 v1 x4 x5 A3 v2 x6 A4 (!(x7==0)) x8 x9 bA A5 A6 A7 v3 bH v4 bR bN dP b_ dD cq v5 v6,ak b1 true ([v7.v]),HP.emp,HP.emp,ak b4 true (.int .u8 x1::(.int .u8 x2::(axQ (aj .u8 32 A1) (axQ (aj .u8 32 A2) ([v0.v]))))),HP.emp,HP.emp,HP.emp,HP.emp,HP.emp,kg v7 jY iB jk iG,FZ]))))))))
theorem Yj(al:PT)(x0 x1 x2 x3 x4 x5 x6 x7 x8 x9 bA bH bR bN dP b_ dD cq dt cO d_ gN eT ff e9:Int)(A0 A1 A2 A3 A4 A5 A6 A7 A8 A9 dM dx dC fH gw gx fw eY eQ fb fg fR:Nat->Int)(v0 v1 v2 v3 v4 v5 v6:V1)(p0:HP)(h:MV al x0 x1 x2 x3 x4 x5 x6 x7 x8 x9 bA bH bR bN dP b_ dD cq dt cO d_ gN eT ff e9 A0 A1 A2 A3 A4 A5 A6 A7 A8 A9 dM dx dC fH gw gx fw eY eQ fb fg fR v0 v1 v2 v3 v4 v5 v6 p0):ao ax8 12 [yW A0 x0 x1 x2 A1 A2 v0 x3 v1 x4 x5 A3 v2 x6 A4 (!(x7==0)) x8 x9 bA A5 A6 A7 v3 bH v4 bR bN dP b_ dD cq v5 v6] [m8 v0 dt A8 A9,m9 v1 cO dM dx dC,mu v2 d_ fH,bQ v3 gN gw,mr v4 eT gx fw,bQ v5 ff eY,qw v6 e9 eQ fb fg fR,p0] al:=
 vm (C:=KX) Wg.ah_ Wg.ac5 Wg.X7 ⟨[x0,x1,x2,x3,x4,x5,x6,x7,x8,x9,bA,bH,bR,bN,dP,b_,dD,cq,dt,cO,d_,gN,eT,ff,e9],[A0,A1,A2,A3,A4,A5,A6,A7,A8,A9,dM,dx,dC,fH,gw,gx,fw,eY,eQ,fb,fg,fR],[],[],[v0,v1,v2,v3,v4,v5,v6],[],[p0],[]⟩ Tryz.func12 (by kernel_rfl) h
end Go.RX.Vb

namespace Go.Vs
theorem UG(c:Call)(h: ∀x∈c.bE,x<256):jy (zj c)=(be 1 c.me.a++be 1 c.me.d)++(c.bE++((be 4 c.dead.length++c.dead.flatMap (raw 16).enc)++(be 1 c.state++(c.id++([if c.out then 1 else 0]++(be 1 c.aM++((be 1 c.peer.a++be 1 c.peer.d)++(c.own++(c.cH++(c.fi++((be 4 c.marks.length++c.marks)++(be 1 c.fu++((be 4 c.early.length++c.early.flatMap gq.enc)++(be 8 c.eD++(be 8 c.bP++(be 8 c.since++(be 8 c.heard++(be 8 c.lJ++be 4 c.fQ)))))))))))))))))):=by
 have e1:jy (pM c.me)=be 1 c.me.a++be 1 c.me.d:=w9 c.me;have e2:jy (pM c.peer)=be 1 c.peer.a++be 1 c.peer.d:=w9 c.peer;have e3:(c.dead.flatMap λx=>x)=c.dead.flatMap (raw 16).enc:=rfl;unfold zj;simp only[kJ,zk,MP,ZD,KY,vd,An,KZ,e1,e2,aif _ h,e3,qB pM gq.enc c.early λa _=>w9 a,ayn,ayx,List.append_nil,ayl]
theorem PD(s:State)(h: ∀x∈s.call.bE,x<256):jy (fo s)=aX.enc s:=by
 have e1:jy (pM s.table.keys.dev)=be 1 s.table.keys.dev.a++be 1 s.table.keys.dev.d:=w9 _;show _=s.lW++(be 8 s.drawn++((((be 1 s.table.keys.dev.a++be 1 s.table.keys.dev.d)++(s.table.keys.ident++(s.table.keys.signed++(be 4 s.table.keys.once.length++s.table.keys.once.flatMap dE.enc))))++(be 4 s.table.most++(be 4 s.table.aD.length++s.table.aD.flatMap bI.enc)))++
  (((be 1 s.call.me.a++be 1 s.call.me.d)++(s.call.bE++((be 4 s.call.dead.length++s.call.dead.flatMap (raw 16).enc)++(be 1 s.call.state++(s.call.id++([if s.call.out then 1 else 0]++(be 1 s.call.aM++((be 1 s.call.peer.a++be 1 s.call.peer.d)++(s.call.own++(s.call.cH++(s.call.fi++((be 4 s.call.marks.length++s.call.marks)++(be 1 s.call.fu++((be 4 s.call.early.length++s.call.early.flatMap gq.enc)++(be 8 s.call.eD++(be 8 s.call.bP++(be 8 s.call.since++(be 8 s.call.heard++(be 8 s.call.lJ++be 4 s.call.fQ)))))))))))))))))))++((be 4 s.log.length++s.log)++(be 4 s.aF.length++s.aF.flatMap dJ.enc)))))
 rw[<-UG s.call h];unfold fo;simp only[kJ,zk,ZD,vd,An,KZ,e1,qB w6 dE.enc s.table.keys.once λa _=>Uz a,qB pk bI.enc s.table.aD λa _=>Uy a,qB w7 dJ.enc s.aF λa _=>UA a,ayn,ayx,List.append_nil,ayl]
end Go.Vs

namespace Go.RX
open Go Go.Proofs
theorem aZ.F8{b t s n m:Nat}{wr:Bool}{cs:List Value}(h1:cs.length=n*s)(h2:n<=m):aZ [ak b wr cs] (aA false t s (.slice (some ⟨b,0,none⟩) n m) n cs):=by
 refine⟨rfl,λw S h=>?_⟩;obtain⟨⟨hs,ty,fz,hb,_⟩,_⟩:=h.at_ 0 _ rfl;refine⟨λk=>k=b/\0<n,⟨?_,λk=>?_⟩,λk hk=>⟨0,by simp,(hs k).2 hk.1⟩⟩
 .simp only[Bool.false_eq_true,if_false];refine⟨h1,_,_,_,rfl,rfl,h2,by simp,?_⟩;intro ad he;cases he;refine⟨λ_=>rfl,λj u hu=>?_⟩;have hA:(⟨b,0,none⟩:Addr).add j=⟨b,j,none⟩:=by
   unfold Addr.add;by_cases h0:j=0
   .rw [if_pos h0,h0]
   .rw [if_neg h0,Nat.zero_add]
  rw[hA];simp only[World.cell?,hb];simpa using hu
 .simp [Value.ownBlock,eq_comm]
theorem cg{f:Nat}{args:List Value}{L:List HP}{q:HP}(h:ao ax8 f args L λr hs=>r= .tuple #[]/\hs=[q]){R:HP->Prop}(hR:R q):Cl f args L λx hs _=> ∃p:HP,x= .tuple #[]/\hs=[p]/\R p:=
 ⟨_,h,λ_ _ h=>⟨q,h.1,h.2,hR⟩⟩
end Go.RX
namespace Go.RX.Vb
open Go Go.RX Go.Proofs Go.Vs
abbrev bw(F:List eK)(n:Nat):Prop:=F.length+n<=3518437208883
theorem IQ{f:Nat}{pa:List Value}{K:HP}{b b1:Nat}{F G:List eK}{cs qE:List Value}{t s n:Nat}(nY:cs=qE)(hl:qE.length=n*s)
  (hm: ∀(v:V1) (C:Nat->Int) (H':HP),H'.wr=true->my (HP.look H') K F C->ao ax8 f (pa++[.slice (some ⟨b1,0,none⟩) n n]) [ak b true [v.v],hU true v.v F C,H',aA false t s (.slice (some ⟨b1,0,none⟩) n n) n qE] λr hs=>r= .tuple #[]/\∃(v':V1) (C':Nat->Int) (IM:HP),hs=[ak b true [v'.v],hU true v'.v G C',IM]/\IM.wr=true/\my (HP.look IM) K G C'):
  ao ax8 f (pa++[.slice (some ⟨b1,0,none⟩) n n]) [bT K b F,ak b1 true cs] λr hs=>r= .tuple #[]/\hs=[bT K b G]:=by
 subst nY;refine yn λv C H' hH hI=>?_
 refine ao.pre (ao.post (hm v C H' hH hI) ?_) (bq.views (A:=[ak b true [v.v],hU true v.v F C,H']) (B:=[ak b1 true cs]) (L:=[aA false t s (.slice (some ⟨b1,0,none⟩) n n) n cs]) λx hx=>by
  rw[ax2.1 hx];exact aZ.F8 hl (Nat.le_refl _))
 rintro r hs ⟨rfl,v',C',IM,rfl,h1,h2⟩;exact⟨_,Ar h1 h2,rfl,rfl⟩
theorem Eb{α:Type}(g:α->Value)(l:List α):l.flatMap (λx=>[g x])=l.map g:=by
 induction l with
 | nil=>rfl
 | cons a l ih=>rw[ayn,ih];rfl
theorem MW(xs:List Nat):xs.map (λ(x:Nat)=>ayD .u64 (x:Int))=aG xs.length [ax .u64 1 (aJ xs)]:=by
 rw[<-Eb];refine oE _ _ xs λi hi=>?_
 show [ayD .u64 _]=[ayD .u64 (aJ xs (i*1+0))]++[];rw[show i*1+0=i by omega,gL hi];rfl
theorem jz{K:HP}{b b1:Nat}{F:List eK}{c:Nat}{z:Int}(hz:z=(c:Int))(xs:List Nat){cs:List Value}(nY:cs=xs.map λ(x:Nat)=>ayD .u64 (x:Int)){n:Nat}(hn:n=xs.length)(hF:bw F xs.length):
  ao ax8 25 [.pointer (some ⟨b,0,none⟩),.int .u8 z,.slice (some ⟨b1,0,none⟩) n n] [bT K b F,ak b1 true cs] λr hs=>r= .tuple #[]/\hs=[bT K b (F++fN c xs)]:=by
 subst hn hz;refine IQ (pa:=[.pointer (some ⟨b,0,none⟩),.int .u8 (c:Int)]) (t:=24) (s:=1) (nY.trans (MW xs)) (by rw[<-MW,ayd,Nat.mul_one]) λv C H' hH hI=>?_
 have m0:=Yd b v ⟨.slice (some ⟨b1,0,none⟩) xs.length xs.length,rfl⟩ F C c xs (by unfold bw at hF;omega) (HP.look H') K hI;refine ao.pre (ao.post (ao.frame m0 [H']) ?_) (bq.front (A:=[ak b true [v.v],hU true v.v F C]) (bq.perm (List.Perm.swap _ _ _)));rintro r hs ⟨lU,rfl,rfl,v',C',rfl,h2⟩;exact⟨_,bq.refl _,rfl,v',C',H',rfl,hH,h2⟩
theorem MX(xs:List (List Nat))(hx: ∀x∈xs,x.length=32):xs.flatMap (λk=>aj .u8 32 (aJ k))=aG xs.length [ax .u8 32 (cb (λx=>x) xs)]:=
 oE _ _ xs λi hi=>by
  show _=ax .u8 32 (cb (λx=>x) xs) i++[];rw[ph _ 32 _ hx i hi,List.append_nil]
theorem Yk(xs:List (List Nat)):(xs.flatMap λk=>aj .u8 32 (aJ k)).length=xs.length*32:=by
 induction xs with
 | nil=>rfl
 | cons a l ih=>
  rw[ayn,axP,ih,ax5,Nat.succ_mul];simp[aj];omega
theorem nN{K:HP}{b b1:Nat}{F:List eK}(xs:List (List Nat))(hx: ∀x∈xs,x.length=32){cs:List Value}(nY:cs=xs.flatMap λk=>aj .u8 32 (aJ k)){n:Nat}(hn:n=xs.length)(hF:bw F xs.length):
  ao ax8 24 [.pointer (some ⟨b,0,none⟩),.slice (some ⟨b1,0,none⟩) n n] [bT K b F,ak b1 true cs] λr hs=>r= .tuple #[]/\hs=[bT K b (F++fK xs)]:=by
 subst hn;refine IQ (pa:=[.pointer (some ⟨b,0,none⟩)]) (t:=23) (s:=32) (nY.trans (MX xs hx)) (by rw[<-MX xs hx,Yk]) λv C H' hH hI=>?_
 exact Pz b v ⟨.slice (some ⟨b1,0,none⟩) xs.length xs.length,rfl⟩ F C xs hx (by unfold bw at hF;omega) H' K hH hI
theorem K1{K:HP}{b:Nat}{F:List eK}(k:List Nat)(hk:k.length=16){A:Nat->Int}(hA: ∀j,j<16->A j=aJ k j)(hF:bw F 1):
  ao ax8 30 [.pointer (some ⟨b,0,none⟩),.agg (axQ (aj .u8 16 A) ([])).toArray] [bT K b F] λr hs=>r= .tuple #[]/\hs=[bT K b (F++fK [k])]:=by
 have e:aj .u8 16 A=aj .u8 16 (aJ k):=List.map_congr_left λj hj=>by rw[hA j (ayc.1 hj)]
 rw[e];refine yn λv C H' hH hI=>ao.post (UD b v F C k hk (by unfold bw at hF;omega) H' K hH hI) ?_
 rintro r hs ⟨rfl,v',C',IM,rfl,h1,h2⟩;exact⟨_,Ar h1 h2,rfl,rfl⟩
theorem IS(xs:List Bool):xs.map (λx=>Value.bool x)=aG xs.length [cR 1 (dK (λx=>x) xs)]:=by
 rw[<-Eb];refine oE _ _ xs λi hi=>?_
 show _=cR 1 (dK (λx=>x) xs) i++[];rw[wV _ _ i hi,List.append_nil]
theorem Yl(xs:List Bool)(i:Nat)(h:i<xs.length)(F:List eK):F++fB (xs.take (i+1))=(F++fB (xs.take i))++fN 98 [if xs[i]then 1 else 0]:=by
 unfold fB;rw[du _ _ h,List.map_append,ayl];rfl
theorem dV(xs:List Bool):(fB xs).length=xs.length:=ayd ..
set_option maxHeartbeats 1000000 in
theorem Ym(K:HP)(b:Nat)(u:V1)(F:List eK)(xs:List Bool)(hF:bw F xs.length):
  ao ax8 31 [.pointer (some ⟨b,0,none⟩),u.v] [bT K b F,aA false 4 1 u.v xs.length (aG xs.length [cR 1 (dK (λx=>x) xs)])] λr hs=>r= .tuple #[]/\hs=[bT K b (F++fB xs)]:=by
 refine adn _ (xs.length:Int) (dK (λx=>x) xs) u b HP.emp (bT K b F) ?_;unfold UF;refine⟨ax4 _,λ_=>?_⟩;refine⟨λe=> ∃i:Nat,e=⟨[],[],[(i:Int)],[],[],[bT K b (F++fB (xs.take i))],[]⟩/\i<=xs.length,λe=>xs.length - (e.i.getD 0 0).toNat,⟨0,_,rfl,rfl,0,by rw[List.take_zero,show fB []=[]from rfl,List.append_nil];rfl,Nat.zero_le _⟩,?_⟩;rintro x1 p2 ⟨i,he,hi⟩;simp only[Ext.mk.injEq,List.cons.injEq,and_true,true_and]at he;obtain⟨rfl,rfl⟩:=he;have hlen:(F++fB (xs.take i)).length=F.length+i:=by
  rw[axP,dV,List.length_take];omega
 unfold bw at hF;refine⟨λcC=>?_,λlS=>?_⟩
 .have cj:i<xs.length:=by omega
  have eb:dK (λx=>x) xs (ag (i:Int))=bi xs[i]:=gW _ xs i cj;have next: ∀(y:Nat),y=(if xs[i]then 1 else 0)->∀b1:Nat,Cl 25 [pp b,.int .u8 98,.slice (some ⟨b1,0,none⟩) 1 1] [bT K b (F++fB (xs.take i)),ak b1 true [.int .u64 (y:Int)]] λx hs _=> ∃p:HP,x= .tuple #[]/\hs=[p]/\p=bT K b (F++fB (xs.take (i+1))):=λy hy b1=>by
   refine cg (jz (c:=98) rfl [y] rfl rfl (by unfold bw;rw[hlen];simp;omega)) ?_;rw[Yl xs i cj,hy]
  refine⟨ax4 _,λ_=>⟨λh1 b1=>?_,λh1 b1=>?_⟩⟩
  .rw [eb,BQ]at h1;obtain⟨post,h2,h3⟩:=next 1 (by rw[if_pos h1]) b1;refine⟨post,h2,λx hs hp=>?_⟩;obtain⟨p,e1,e2,e3⟩:=h3 x hs hp;refine⟨p,e1,e2,by omega,λ_=>⟨by omega,λ_=>⟨((i+1:Nat):Int),p,rfl,rfl,⟨i+1,by rw[e3],by omega⟩,?_⟩⟩⟩;simp only[ah];omega
  .rw [eb,BQ]at h1;obtain⟨post,h2,h3⟩:=next 0 (by rw[if_neg h1]) b1;refine⟨post,h2,λx hs hp=>?_⟩;obtain⟨p,e1,e2,e3⟩:=h3 x hs hp;refine⟨p,e1,e2,by omega,λ_=>⟨by omega,λ_=>⟨((i+1:Nat):Int),p,rfl,rfl,⟨i+1,by rw[e3],by omega⟩,?_⟩⟩⟩;simp only[ah];omega
 .have xQ:i=xs.length:=by omega
  subst xQ;rw[List.take_length];exact⟨rfl,rfl⟩
theorem Cg{K:HP}{b b1:Nat}{F:List eK}(xs:List Bool){cs:List Value}(nY:cs=xs.map λx=>Value.bool x){n:Nat}(hn:n=xs.length)(hF:bw F xs.length):
  ao ax8 31 [.pointer (some ⟨b,0,none⟩),.slice (some ⟨b1,0,none⟩) n n] [bT K b F,ak b1 true cs] λr hs=>r= .tuple #[]/\hs=[bT K b (F++fB xs)]:=by
 subst hn nY;rw[IS];refine ao.pre (Ym K b ⟨.slice (some ⟨b1,0,none⟩) xs.length xs.length,rfl⟩ F xs hF) (bq.views (A:=[bT K b F]) (B:=[ak b1 true (aG xs.length [cR 1 (dK (λx=>x) xs)])]) (L:=[_]) λx hx=>by
  rw[ax2.1 hx];exact aZ.F8 (by rw[<-IS,ayd,Nat.mul_one]) (Nat.le_refl _))
open Go Go.RX Go.Proofs Go.Vs
theorem eA(m:List Nat):(fS m).length=1:=rfl
theorem cn(d:js):(pM d).length=2:=rfl
theorem fp(d:yX):(sX d).length=2:=rfl
theorem j5{α:Type}(f:α->List eK)(c:Nat): ∀l:List α,(∀x∈l,(f x).length=c)->(l.flatMap f).length=c*l.length
 | [],_=>rfl
 | x::l,h=>by
  rw[ayn,axP,j5 f c l λy hy=>h y (by simp[hy]),h x (by simp),ax5,Nat.mul_succ];omega
theorem wU{n:Nat}(h:n<256^4):ayD .u64 (ae .u64 (n:Int))=ayD .u64 (n:Int):=by rw[jb h]
theorem u8w{n:Nat}(h:n<256):n<256^4:=Nat.lt_trans h (by decide)
theorem oF{K:HP}{b:Nat}{F:List eK}(d:js){x y:Int}(hx:x=(d.a:Int))(hy:y=(d.d:Int))(ha:d.a<256)(hd:d.d<256)(hF:bw F 2):
  ao ax8 26 [.pointer (some ⟨b,0,none⟩),.agg #[.int .u8 x,.int .u8 y]] [bT K b F] λr hs=>r= .tuple #[]/\hs=[bT K b (F++pM d)]:=by
 subst hx hy;refine Ye _ (d.a:Int) (d.d:Int) (λ_=>0) b HP.emp (bT K b F) ?_;unfold MQ;intro b1 b2;refine cg (jz (c:=49) rfl [d.a,d.d] (by rw[wU (u8w ha),wU (u8w hd)];rfl) rfl hF) ?_;exact⟨rfl,rfl⟩
theorem w_{K:HP}{b:Nat}{F:List eK}(c:yX)(hk:c.key.length=32)(hn:c.n<256^4)(hF:bw F 2):
  ao ax8 99 [.pointer (some ⟨b,0,none⟩),.agg (axQ (aj .u8 32 (aJ c.key)) ([.int .u32 (c.n:Int)])).toArray] [bT K b F] λr hs=>r= .tuple #[]/\hs=[bT K b (F++sX c)]:=by
 refine Yf _ (c.n:Int) 0 (aJ c.key) b HP.emp (bT K b F) ?_;unfold MR;intro b1 b2;refine cg (nN [c.key] (λx hx=>by rw[ax2.1 hx];exact hk) rfl rfl (by unfold bw at*;simp;omega)) ?_;intro b3;refine cg (jz (c:=52) rfl [c.n] (by show [ayD .u64 (ae .u64 _)]=_;rw[wU hn];rfl) rfl (by unfold bw at*;rw[axP,cY];simp;omega)) ?_;refine⟨rfl,?_⟩;rw[ayl];rfl
theorem MY{K:HP}{b:Nat}{F:List eK}{v:V1}{m:List Nat}(_:K.wr=false)(hm:cX K (aN false v.v m))(hF:bw F 1):
  ao ax8 29 [.pointer (some ⟨b,0,none⟩),v.v] [bT K b F,aN false v.v m] λr hs=>r= .tuple #[]/\hs=[bT K b (F++fS m),aN false v.v m]:=by
 refine ao.tell (p:= ∃c,v.v=bg c) (λw Fs ⟨S,hS⟩=>?_) λ⟨c,hc⟩=>?_
 .obtain⟨⟨h1,_⟩,_⟩:=hS.at_ 1 _ rfl;simp only[Bool.false_eq_true,if_false]at h1;obtain⟨_,a,m,c,e,_⟩:=h1;rw[e];exact vu a m c
 .rw [hc]at hm ⊢;refine yn λu C H' hH hI=>?_
  have h0:=UE b u F C c m (by unfold bw at hF;omega) (HP.look H') K hI hm;refine ao.pre (ao.post (ao.frame h0 [H',aN false (bg c) m]) ?_) (bq.refl _);rintro r hs ⟨lU,rfl,rfl,v',C',rfl,h2⟩;exact⟨_,bq.frame (Ar hH h2) [aN false (bg c) m],rfl,rfl⟩
structure ZF (s:Hj):Prop where
 k: ∀x∈[s.root,s.bind,s.own,s.cJ],x.length=32
 k1:s.send.key.length=32
 n1:s.send.n<256^4
 k2:s.recv.key.length=32
 n2:s.recv.n<256^4
 n3:s.prev<256^4
 m:s.aC.length<256^4
 d: ∀x∈s.aC,x.dh.length=32
 e: ∀x∈s.aC,x.n<256^4
 g: ∀x∈s.aC,x.msg.length=32
theorem mO.ses{e:bX}(h:mO e):ZF e.s:=⟨λx hx=>by
 simp only[List.mem_cons,List.not_mem_nil,or_false]at hx;rcases hx with rfl | rfl | rfl | rfl
 .exact h.root
 .exact h.bind
 .exact h.own
 .exact h.cJ,h.sk,h.sn,h.rk,h.rn,h.prev,h.many,h.dh,h.n,h.msg⟩
theorem qC(s:Hj):(zi s).length=14+3*s.aC.length:=by
 unfold zi;simp only[axP,cy,cY,dV,fp,j5 wY 3 s.aC λx _=>rfl,ax5,aya]
theorem UH(e:bX):(wZ e).length=20+3*e.s.aC.length:=by
 unfold wZ;simp only[axP,cy,cY,dV,qC,ax5,aya];omega
set_option maxHeartbeats 2000000 in
theorem PE{K:HP}{b:Nat}{F:List eK}(s:Hj)(hs:ZF s)(vs:V1)(hF:bw F (14+3*s.aC.length)):
  ao ax8 48 [.pointer (some ⟨b,0,none⟩),KW (aJ s.root) (aJ s.bind) (aJ s.own) (aJ s.cJ) (!(bi s.gi==0)) (!(bi s.gj==0)) (!(bi s.gk==0)) (!(bi s.cS==0)) (aJ s.send.key) (s.send.n:Int) (aJ s.recv.key) (s.recv.n:Int) (s.prev:Int) vs] [bT K b F,nI false vs.v s.aC] λr hs=>r= .tuple #[]/\hs=[bT K b (F++zi s)]:=by
 refine Yg _ (s.aC.length:Int) (bi s.gi) (bi s.gj) (bi s.gk) (bi s.cS) (s.send.n:Int) (s.recv.n:Int) (s.prev:Int) (aJ s.root) (aJ s.bind) (aJ s.own) (aJ s.cJ) (aJ s.send.key) (aJ s.recv.key) (aJ (s.aC.flatMap fe.dh)) (bu fe.n s.aC) (aJ (s.aC.flatMap fe.msg)) vs b HP.emp (bT K b F) ?_;unfold MS;intro b1 b2;refine cg (nN [s.root,s.bind,s.own,s.cJ] hs.k rfl rfl (by unfold bw at*;simp only[ax5,aya];omega)) ?_;intro b3;refine cg (Cg [s.gi,s.gj,s.gk,s.cS] (by rw[jv,jv,jv,jv];rfl) rfl (by unfold bw at*;simp only[axP,cY,ax5,aya];omega)) ?_;refine cg (w_ s.send hs.k1 hs.n1 (by unfold bw at*;simp only[axP,cY,dV,ax5,aya];omega)) ?_;refine cg (w_ s.recv hs.k2 hs.n2 (by unfold bw at*;simp only[axP,cY,dV,fp,ax5,aya];omega)) ?_;intro b4;refine cg (jz (c:=52) rfl [s.prev] (by show [ayD .u64 (ae .u64 _)]=_;rw[wU hs.n3];rfl) rfl (by unfold bw at*;simp only[axP,cY,dV,fp,ax5,aya];omega)) ?_;refine⟨ax4 _,λ_ b5=>?_⟩;refine cg (jz (c:=108) rfl [s.aC.length] (by show [ayD .u64 (ae .u64 _)]=_;rw[wU hs.m];rfl) rfl (by unfold bw at*;simp only[axP,cy,cY,dV,fp,ax5,aya];omega)) ?_;obtain⟨G,hG⟩: ∃G,G=F++fK [s.root,s.bind,s.own,s.cJ]++fB [s.gi,s.gj,s.gk,s.cS]++sX s.send++sX s.recv++fN 52 [s.prev]++fN 108 [s.aC.length]:=⟨_,rfl⟩;rw[<-hG]
 have hGl:G.length=F.length+14:=by
  rw[hG];simp only[axP,cy,cY,dV,fp,ax5,aya]
 have ym:G++s.aC.flatMap wY=F++zi s:=by
  rw[hG];unfold zi;simp only[ayl]
 refine⟨λe=> ∃j:Nat,e=⟨[],[],[(j:Int)],[],[],[bT K b (G++(s.aC.take j).flatMap wY)],[]⟩/\j<=s.aC.length,λe=>s.aC.length - (e.i.getD 0 0).toNat,⟨0,_,rfl,rfl,0,by rw[List.take_zero,ayx,List.append_nil];rfl,Nat.zero_le _⟩,?_⟩;rintro x8 p8 ⟨j,he,hj⟩;simp only[Ext.mk.injEq,List.cons.injEq,and_true,true_and]at he;obtain⟨rfl,rfl⟩:=he;have hm:=hs.m;rw[show(256^4:Nat)=4294967296 by decide]at hm;have hl:=j5 wY 3 (s.aC.take j) λx _=>rfl
 rw[List.length_take,Nat.min_eq_left hj]at hl;refine⟨λcC=>?_,λlS=>?_⟩
 .have eF:j<s.aC.length:=by omega
  refine⟨ax4 _,λ_ b6 b7=>?_⟩;have e1:=iO fe.dh 32 s.aC hs.d j eF;have e2:bu fe.n s.aC (ag (j:Int))=((s.aC[j].n:Nat):Int):=ej _ _ j eF;have e3:=iO fe.msg 32 s.aC hs.g j eF;refine cg (nN [s.aC[j].dh] (λx hx=>by rw[ax2.1 hx];exact hs.d _ (List.getElem_mem eF)) (congrArg (λl=>axQ l []) e1) rfl (by unfold bw at*;simp only[axP,ax5,aya];omega)) ?_;intro b8;refine cg (jz (c:=52) rfl [s.aC[j].n] (by show [ayD .u64 (ae .u64 _)]=_;rw[e2,wU (hs.e _ (List.getElem_mem eF))];rfl) rfl (by unfold bw at*;simp only[axP,cY,ax5,aya];omega)) ?_;intro b9;refine cg (nN [s.aC[j].msg] (λx hx=>by rw[ax2.1 hx];exact hs.g _ (List.getElem_mem eF)) (congrArg (λl=>axQ l []) e3) rfl (by unfold bw at*;simp only[axP,cY,cy,ax5,aya];omega)) ?_;refine⟨by omega,λ_=>⟨by omega,λ_=>⟨((j+1:Nat):Int),_,rfl,rfl,⟨j+1,?_,by omega⟩,?_⟩⟩⟩
  .rw [du _ _ eF,List.flatMap_append];simp only[ayn,ayx,List.append_nil,ayl,wY]
  .simp only[ah];omega
 .have hjl:j=s.aC.length:=by omega
  subst hjl;rw[List.take_length,ym];exact⟨rfl,rfl⟩
end Go.RX.Vb
