/- AES. -/
import Derived.Test.YtmgbbbmdbpbeeaaM24
open Go.IntKind renaming u8 → adM, wrap → ae
open Int renaming toNat → ag
open List renaming append → ads
namespace Go.RX.Fe
open Go.RX Go.Proofs
noncomputable def cx:Ctx:={T:=TT,FT:=FT,loops:=loops,cb:=cb}
set_option maxRecDepth 100000
noncomputable def HC:F:=gS cx 46 ([]) ([]) ({b:=0,v:=0,i:=0,a:=0,bo:=0,p:=0,r:=0}) Try.f46
def HD(_:Program)(ax:Value→List HP→Prop):Prop:=
 ∀_:Nat,∀_:Nat,∃(bN:Ext→Prop) (bY:Ext→Nat),(∃x0:Int,∃x1:Int,∃A0:(Nat→Int),∃A1:(Nat→Int),x0=0∧x1=1∧(∀j,j<255→A0 j=(fun _=>0) j)∧(∀j,j<256→A1 j=(fun _=>0) j)∧bN ⟨[],[],[x0,x1],[A0,A1],[],[],[]⟩)∧
 ∀x0:Int,∀x1:Int,∀A0:(Nat→Int),∀A1:(Nat→Int),bN ⟨[],[],[x0,x1],[A0,A1],[],[],[]⟩→
 aZ (x0<255) (
 aw (0≤x0) (
 aw (0≤x1) (
 aw (x1<256) (
 aw ((-9223372036854775808)≤(x0+1)) (
 aw ((x0+1)≤9223372036854775807) (
 ∃iE:Int,∃gM:Int,∃wN:(Nat→Int),∃KZ:(Nat→Int),iE=(x0+1)∧gM=(ak .aD .u8 x1 (ak .aD .u8 (ak .shl .u8 x1 1) (ae .u8 ((ak .shr .u8 x1 7)*27))))∧(∀j,j<255→wN j=(ao A0 (ag x0) x1) j)∧(∀j,j<256→KZ j=(ao A1 (ag x1) x0) j)∧bN ⟨[],[],[iE,gM],[wN,KZ],[],[],[]⟩∧bY ⟨[],[],[iE,gM],[wN,KZ],[],[],[]⟩<bY ⟨[],[],[x0,x1],[A0,A1],[],[],[]⟩)))))) (
 ax (.tuple #[.agg (ads (aj .u8 255 A0) ([])).toArray,.agg (ads (aj .i64 256 A1) ([])).toArray]) [])
theorem Oe(P:Program)(ax:Value→List HP→Prop)(L:Nat→LC):VC P (fun v _=>ax v []) HC {iv:=[],av:=[],bo:=[],bv:=[],vv:=[]} L=HD P ax:=by kernel_rfl
theorem K1:gS cx 46 ([]) ([]) ({b:=0,v:=0,i:=0,a:=0,bo:=0,p:=0,r:=0}) Try.f46=HC:=rfl
noncomputable def K2:F:=gS cx 22 ([]) ([]) ({b:=0,v:=0,i:=0,a:=0,bo:=0,p:=0,r:=0}) Try.f22
def K3(P:Program)(ax:Value→List HP→Prop):Prop:=
 ∀_:Nat,∃post,ar P 46 [] [] post∧
 ∀x hs,post x hs→∃A0:(Nat→Int),∃A1:(Nat→Int),x= .tuple #[.agg (ads (aj .u8 255 A0) ([])).toArray,.agg (ads (aj .i64 256 A1) ([])).toArray]∧hs=[]∧
 ∀_:Nat,∀_:Nat,∀_:Nat,∃(bN:Ext→Prop) (bY:Ext→Nat),(∃x0:Int,∃A2:(Nat→Int),x0=0∧(∀j,j<256→A2 j=(fun _=>0) j)∧bN ⟨[],[],[x0],[A2],[],[],[]⟩)∧
 ∀x0:Int,∀A2:(Nat→Int),bN ⟨[],[],[x0],[A2],[],[],[]⟩→
 aZ (x0<256) (
 aZ (0<x0) (
 aw (0≤x0) (
 aw ((-9223372036854775808)≤(255 - (A1 (ag x0)))) (
 aw ((255 - (A1 (ag x0)))≤9223372036854775807) (
 aw (0≤(ak .rem .i64 (255 - (A1 (ag x0))) 255)) (
 aw ((ak .rem .i64 (255 - (A1 (ag x0))) 255)<255) (
 aw ((-9223372036854775808)≤(x0+1)) (
 aw ((x0+1)≤9223372036854775807) (
 ∃iE:Int,∃iG:(Nat→Int),iE=(x0+1)∧(∀j,j<256→iG j=(ao A2 (ag x0) (ak .aD .u8 (ak .aD .u8 (ak .aD .u8 (ak .aD .u8 (ak .aD .u8 99 (A0 (ag (ak .rem .i64 (255 - (A1 (ag x0))) 255)))) (ak .bJ .u8 (ak .shl .u8 (A0 (ag (ak .rem .i64 (255 - (A1 (ag x0))) 255))) 1) (ak .shr .u8 (A0 (ag (ak .rem .i64 (255 - (A1 (ag x0))) 255))) 7))) (ak .bJ .u8 (ak .shl .u8 (ak .bJ .u8 (ak .shl .u8 (A0 (ag (ak .rem .i64 (255 - (A1 (ag x0))) 255))) 1) (ak .shr .u8 (A0 (ag (ak .rem .i64 (255 - (A1 (ag x0))) 255))) 7)) 1) (ak .shr .u8 (ak .bJ .u8 (ak .shl .u8 (A0 (ag (ak .rem .i64 (255 - (A1 (ag x0))) 255))) 1) (ak .shr .u8 (A0 (ag (ak .rem .i64 (255 - (A1 (ag x0))) 255))) 7)) 7))) (ak .bJ .u8 (ak .shl .u8 (ak .bJ .u8 (ak .shl .u8 (ak .bJ .u8 (ak .shl .u8 (A0 (ag (ak .rem .i64 (255 - (A1 (ag x0))) 255))) 1) (ak .shr .u8 (A0 (ag (ak .rem .i64 (255 - (A1 (ag x0))) 255))) 7)) 1) (ak .shr .u8 (ak .bJ .u8 (ak .shl .u8 (A0 (ag (ak .rem .i64 (255 - (A1 (ag x0))) 255))) 1) (ak .shr .u8 (A0 (ag (ak .rem .i64 (255 - (A1 (ag x0))) 255))) 7)) 7)) 1) (ak .shr .u8 (ak .bJ .u8 (ak .shl .u8 (ak .bJ .u8 (ak .shl .u8 (A0 (ag (ak .rem .i64 (255 - (A1 (ag x0))) 255))) 1) (ak .shr .u8 (A0 (ag (ak .rem .i64 (255 - (A1 (ag x0))) 255))) 7)) 1) (ak .shr .u8 (ak .bJ .u8 (ak .shl .u8 (A0 (ag (ak .rem .i64 (255 - (A1 (ag x0))) 255))) 1) (ak .shr .u8 (A0 (ag (ak .rem .i64 (255 - (A1 (ag x0))) 255))) 7)) 7)) 7))) (ak .bJ .u8 (ak .shl .u8 (ak .bJ .u8 (ak .shl .u8 (ak .bJ .u8 (ak .shl .u8 (ak .bJ .u8 (ak .shl .u8 (A0 (ag (ak .rem .i64 (255 - (A1 (ag x0))) 255))) 1) (ak .shr .u8 (A0 (ag (ak .rem .i64 (255 - (A1 (ag x0))) 255))) 7)) 1) (ak .shr .u8 (ak .bJ .u8 (ak .shl .u8 (A0 (ag (ak .rem .i64 (255 - (A1 (ag x0))) 255))) 1) (ak .shr .u8 (A0 (ag (ak .rem .i64 (255 - (A1 (ag x0))) 255))) 7)) 7)) 1) (ak .shr .u8 (ak .bJ .u8 (ak .shl .u8 (ak .bJ .u8 (ak .shl .u8 (A0 (ag (ak .rem .i64 (255 - (A1 (ag x0))) 255))) 1) (ak .shr .u8 (A0 (ag (ak .rem .i64 (255 - (A1 (ag x0))) 255))) 7)) 1) (ak .shr .u8 (ak .bJ .u8 (ak .shl .u8 (A0 (ag (ak .rem .i64 (255 - (A1 (ag x0))) 255))) 1) (ak .shr .u8 (A0 (ag (ak .rem .i64 (255 - (A1 (ag x0))) 255))) 7)) 7)) 7)) 1) (ak .shr .u8 (ak .bJ .u8 (ak .shl .u8 (ak .bJ .u8 (ak .shl .u8 (ak .bJ .u8 (ak .shl .u8 (A0 (ag (ak .rem .i64 (255 - (A1 (ag x0))) 255))) 1) (ak .shr .u8 (A0 (ag (ak .rem .i64 (255 - (A1 (ag x0))) 255))) 7)) 1) (ak .shr .u8 (ak .bJ .u8 (ak .shl .u8 (A0 (ag (ak .rem .i64 (255 - (A1 (ag x0))) 255))) 1) (ak .shr .u8 (A0 (ag (ak .rem .i64 (255 - (A1 (ag x0))) 255))) 7)) 7)) 1) (ak .shr .u8 (ak .bJ .u8 (ak .shl .u8 (ak .bJ .u8 (ak .shl .u8 (A0 (ag (ak .rem .i64 (255 - (A1 (ag x0))) 255))) 1) (ak .shr .u8 (A0 (ag (ak .rem .i64 (255 - (A1 (ag x0))) 255))) 7)) 1) (ak .shr .u8 (ak .bJ .u8 (ak .shl .u8 (A0 (ag (ak .rem .i64 (255 - (A1 (ag x0))) 255))) 1) (ak .shr .u8 (A0 (ag (ak .rem .i64 (255 - (A1 (ag x0))) 255))) 7)) 7)) 7)) 7)))) j)∧bN ⟨[],[],[iE],[iG],[],[],[]⟩∧bY ⟨[],[],[iE],[iG],[],[],[]⟩<bY ⟨[],[],[x0],[A2],[],[],[]⟩)))))))) (
 aw (0≤x0) (
 aw ((-9223372036854775808)≤(x0+1)) (
 aw ((x0+1)≤9223372036854775807) (
 ∃iE:Int,∃iG:(Nat→Int),iE=(x0+1)∧(∀j,j<256→iG j=(ao A2 (ag x0) 99) j)∧bN ⟨[],[],[iE],[iG],[],[],[]⟩∧bY ⟨[],[],[iE],[iG],[],[],[]⟩<bY ⟨[],[],[x0],[A2],[],[],[]⟩))))) (
 ax (.agg (ads (aj .u8 256 A2) ([])).toArray) [])
theorem Rz(P:Program)(ax:Value→List HP→Prop)(L:Nat→LC):VC P (fun v _=>ax v []) K2 {iv:=[],av:=[],bo:=[],bv:=[],vv:=[]} L=K3 P ax:=by kernel_rfl
theorem Og:gS cx 22 ([]) ([]) ({b:=0,v:=0,i:=0,a:=0,bo:=0,p:=0,r:=0}) Try.f22=K2:=rfl
noncomputable def Db:F:=gS cx 10 ([SV.vv 0]) ([Ck.bu false 0 5 1 (E.lit 16) [{ck:=CK.int (adM),w:=1,a:=E.aO 0}]]) ({b:=0,v:=1,i:=0,a:=1,bo:=0,p:=0,r:=0}) Try.f10
def Dc(P:Program)(ax:Value→List HP→Prop)(A0:Nat→Int)(v0:V1):Prop:=
 ∃post,ar P 22 [] [] post∧
 ∀x hs,post x hs→∃A1:(Nat→Int),x= .agg (ads (aj .u8 256 A1) ([])).toArray∧hs=[]∧
 ∀b0:Nat,∃(bN:Ext→Prop) (bY:Ext→Nat),(∃v2:V1,∃x0:Int,∃x1:Int,∃A2:(Nat→Int),x0=0∧x1=1∧v2=(⟨.slice none 0 0,rfl⟩:V1)∧v2=(⟨.slice none 0 0,rfl⟩:V1)∧x0=0∧(∀j,j<(ag (x0*4))→A2 j=(fun _=>0) j)∧bN ⟨[],[v2],[x0,x1],[A2],[],[],[]⟩)∧
 ∀v2:V1,∀x0:Int,∀x1:Int,∀A2:(Nat→Int),bN ⟨[],[v2],[x0,x1],[A2],[],[],[]⟩→
 aZ (x0<44) (
 aZ (x0<4) (
 aw ((-9223372036854775808)≤(4*x0)) (
 aw ((4*x0)≤9223372036854775807) (
 aw ((-9223372036854775808)≤((4*x0)+4)) (
 aw (((4*x0)+4)≤9223372036854775807) (
 aw (0≤(4*x0)) (
 aw ((4*x0)≤((4*x0)+4)) (
 aw (((4*x0)+4)≤16) (
 aw (4≤(((4*x0)+4) - (4*x0))) (
 ∀_:Nat,aw (0≤x0) (
 aw (((x0+1)*4)≤140737488355328) (
 ∀v3:V1,aw ((-9223372036854775808)≤(x0+1)) (
 aw ((x0+1)≤9223372036854775807) (
 ∃nu:V1,∃iE:Int,∃gM:Int,∃iG:(Nat→Int),iE=(x0+1)∧gM=x1∧nu=v3∧nu=v3∧iE=(x0+1)∧(∀j,j<(ag (iE*4))→iG j=(aA A2 (ag (x0*4)) 4 (aE A0 (ag (4*x0)))) j)∧bN ⟨[],[nu],[iE,gM],[iG],[],[],[]⟩∧bY ⟨[],[nu],[iE,gM],[iG],[],[],[]⟩<bY ⟨[],[v2],[x0,x1],[A2],[],[],[]⟩))))))))))))) (
 aw ((-9223372036854775808)≤(x0 - 1)) (
 aw ((x0 - 1)≤9223372036854775807) (
 aw (0≤(x0 - 1)) (
 aw ((x0 - 1)<x0) (
 ∀_:Nat,aZ ((ak .rem .i64 x0 4)=0) (
 ∀_:Nat,∀_:Nat,aw (0≤((aE A2 (ag ((x0 - 1)*4))) 1)) (
 aw (((aE A2 (ag ((x0 - 1)*4))) 1)<256) (
 aw (0≤((aE A2 (ag ((x0 - 1)*4))) 2)) (
 aw (((aE A2 (ag ((x0 - 1)*4))) 2)<256) (
 aw (0≤((aE A2 (ag ((x0 - 1)*4))) 3)) (
 aw (((aE A2 (ag ((x0 - 1)*4))) 3)<256) (
 aw (0≤((aE A2 (ag ((x0 - 1)*4))) 0)) (
 aw (((aE A2 (ag ((x0 - 1)*4))) 0)<256) (
 aw ((-9223372036854775808)≤(x0 - 4)) (
 aw ((x0 - 4)≤9223372036854775807) (
 aw (0≤(x0 - 4)) (
 aw ((x0 - 4)<x0) (
 ∀_:Nat,∀_:Nat,∀_:Nat,∀_:Nat,aw (0≤x0) (
 aw (((x0+1)*4)≤140737488355328) (
 ∀v3:V1,aw ((-9223372036854775808)≤(x0+1)) (
 aw ((x0+1)≤9223372036854775807) (
 ∃nu:V1,∃iE:Int,∃gM:Int,∃iG:(Nat→Int),iE=(x0+1)∧gM=(ak .aD .u8 (ak .shl .u8 x1 1) (ae .u8 ((ak .shr .u8 x1 7)*27)))∧nu=v3∧nu=v3∧iE=(x0+1)∧(∀j,j<(ag (iE*4))→iG j=(aA A2 (ag (x0*4)) 4 (ao (ao (ao (ao (fun _=>0) 0 (ak .aD .u8 (ak .aD .u8 (A1 (ag ((aE A2 (ag ((x0 - 1)*4))) 1))) x1) ((aE A2 (ag ((x0 - 4)*4))) 0))) 1 (ak .aD .u8 (A1 (ag ((aE A2 (ag ((x0 - 1)*4))) 2))) ((aE A2 (ag ((x0 - 4)*4))) 1))) 2 (ak .aD .u8 (A1 (ag ((aE A2 (ag ((x0 - 1)*4))) 3))) ((aE A2 (ag ((x0 - 4)*4))) 2))) 3 (ak .aD .u8 (A1 (ag ((aE A2 (ag ((x0 - 1)*4))) 0))) ((aE A2 (ag ((x0 - 4)*4))) 3)))) j)∧bN ⟨[],[nu],[iE,gM],[iG],[],[],[]⟩∧bY ⟨[],[nu],[iE,gM],[iG],[],[],[]⟩<bY ⟨[],[v2],[x0,x1],[A2],[],[],[]⟩))))))))))))))))) (
 aw ((-9223372036854775808)≤(x0 - 4)) (
 aw ((x0 - 4)≤9223372036854775807) (
 aw (0≤(x0 - 4)) (
 aw ((x0 - 4)<x0) (
 ∀_:Nat,∀_:Nat,∀_:Nat,∀_:Nat,aw (0≤x0) (
 aw (((x0+1)*4)≤140737488355328) (
 ∀v3:V1,aw ((-9223372036854775808)≤(x0+1)) (
 aw ((x0+1)≤9223372036854775807) (
 ∃nu:V1,∃iE:Int,∃gM:Int,∃iG:(Nat→Int),iE=(x0+1)∧gM=x1∧nu=v3∧nu=v3∧iE=(x0+1)∧(∀j,j<(ag (iE*4))→iG j=(aA A2 (ag (x0*4)) 4 (ao (ao (ao (ao (fun _=>0) 0 (ak .aD .u8 ((aE A2 (ag ((x0 - 1)*4))) 0) ((aE A2 (ag ((x0 - 4)*4))) 0))) 1 (ak .aD .u8 ((aE A2 (ag ((x0 - 1)*4))) 1) ((aE A2 (ag ((x0 - 4)*4))) 1))) 2 (ak .aD .u8 ((aE A2 (ag ((x0 - 1)*4))) 2) ((aE A2 (ag ((x0 - 4)*4))) 2))) 3 (ak .aD .u8 ((aE A2 (ag ((x0 - 1)*4))) 3) ((aE A2 (ag ((x0 - 4)*4))) 3)))) j)∧bN ⟨[],[nu],[iE,gM],[iG],[],[],[]⟩∧bY ⟨[],[nu],[iE,gM],[iG],[],[],[]⟩<bY ⟨[],[v2],[x0,x1],[A2],[],[],[]⟩))))))))))))))) (
 ax (.tuple #[.pointer (some ⟨b0,0,none⟩),.int .i64 0]) [au false 5 1 v0.v 16 (aK 16 [aJ .u8 1 A0]),aq b0 true (ads (aj .u8 256 A1) ([v2.v])),au true 73 4 v2.v (ag x0) (aK (ag x0) [aJ .u8 4 A2])])
theorem K4(P:Program)(ax:Value→List HP→Prop)(A0:Nat→Int)(v0:V1)(L:Nat→LC):VC P (fun v hs=>ax v (hs.take 3)) Db {iv:=[],av:=[A0],bo:=[],bv:=[],vv:=[v0]} L=Dc P ax A0 v0:=by kernel_rfl
theorem I4:gS cx 10 ([SV.vv 0]) ([Ck.bu false 0 5 1 (E.lit 16) [{ck:=CK.int (adM),w:=1,a:=E.aO 0}]]) ({b:=0,v:=1,i:=0,a:=1,bo:=0,p:=0,r:=0}) Try.f10=Db:=rfl
noncomputable def Dd:F:=gS cx 10 ([SV.vv 0]) ([Ck.bu false 0 5 1 (E.lit 32) [{ck:=CK.int (adM),w:=1,a:=E.aO 0}]]) ({b:=0,v:=1,i:=0,a:=1,bo:=0,p:=0,r:=0}) Try.f10
def De(P:Program)(ax:Value→List HP→Prop)(A0:Nat→Int)(v0:V1):Prop:=
 ∃post,ar P 22 [] [] post∧
 ∀x hs,post x hs→∃A1:(Nat→Int),x= .agg (ads (aj .u8 256 A1) ([])).toArray∧hs=[]∧
 ∀b0:Nat,∃(bN:Ext→Prop) (bY:Ext→Nat),(∃v2:V1,∃x0:Int,∃x1:Int,∃A2:(Nat→Int),x0=0∧x1=1∧v2=(⟨.slice none 0 0,rfl⟩:V1)∧v2=(⟨.slice none 0 0,rfl⟩:V1)∧x0=0∧(∀j,j<(ag (x0*4))→A2 j=(fun _=>0) j)∧bN ⟨[],[v2],[x0,x1],[A2],[],[],[]⟩)∧
 ∀v2:V1,∀x0:Int,∀x1:Int,∀A2:(Nat→Int),bN ⟨[],[v2],[x0,x1],[A2],[],[],[]⟩→
 aZ (x0<60) (
 aZ (x0<8) (
 aw ((-9223372036854775808)≤(4*x0)) (
 aw ((4*x0)≤9223372036854775807) (
 aw ((-9223372036854775808)≤((4*x0)+4)) (
 aw (((4*x0)+4)≤9223372036854775807) (
 aw (0≤(4*x0)) (
 aw ((4*x0)≤((4*x0)+4)) (
 aw (((4*x0)+4)≤32) (
 aw (4≤(((4*x0)+4) - (4*x0))) (
 ∀_:Nat,aw (0≤x0) (
 aw (((x0+1)*4)≤140737488355328) (
 ∀v3:V1,aw ((-9223372036854775808)≤(x0+1)) (
 aw ((x0+1)≤9223372036854775807) (
 ∃nu:V1,∃iE:Int,∃gM:Int,∃iG:(Nat→Int),iE=(x0+1)∧gM=x1∧nu=v3∧nu=v3∧iE=(x0+1)∧(∀j,j<(ag (iE*4))→iG j=(aA A2 (ag (x0*4)) 4 (aE A0 (ag (4*x0)))) j)∧bN ⟨[],[nu],[iE,gM],[iG],[],[],[]⟩∧bY ⟨[],[nu],[iE,gM],[iG],[],[],[]⟩<bY ⟨[],[v2],[x0,x1],[A2],[],[],[]⟩))))))))))))) (
 aw ((-9223372036854775808)≤(x0 - 1)) (
 aw ((x0 - 1)≤9223372036854775807) (
 aw (0≤(x0 - 1)) (
 aw ((x0 - 1)<x0) (
 ∀_:Nat,aZ ((ak .rem .i64 x0 8)=0) (
 ∀_:Nat,∀_:Nat,aw (0≤((aE A2 (ag ((x0 - 1)*4))) 1)) (
 aw (((aE A2 (ag ((x0 - 1)*4))) 1)<256) (
 aw (0≤((aE A2 (ag ((x0 - 1)*4))) 2)) (
 aw (((aE A2 (ag ((x0 - 1)*4))) 2)<256) (
 aw (0≤((aE A2 (ag ((x0 - 1)*4))) 3)) (
 aw (((aE A2 (ag ((x0 - 1)*4))) 3)<256) (
 aw (0≤((aE A2 (ag ((x0 - 1)*4))) 0)) (
 aw (((aE A2 (ag ((x0 - 1)*4))) 0)<256) (
 aw ((-9223372036854775808)≤(x0 - 8)) (
 aw ((x0 - 8)≤9223372036854775807) (
 aw (0≤(x0 - 8)) (
 aw ((x0 - 8)<x0) (
 ∀_:Nat,∀_:Nat,∀_:Nat,∀_:Nat,aw (0≤x0) (
 aw (((x0+1)*4)≤140737488355328) (
 ∀v3:V1,aw ((-9223372036854775808)≤(x0+1)) (
 aw ((x0+1)≤9223372036854775807) (
 ∃nu:V1,∃iE:Int,∃gM:Int,∃iG:(Nat→Int),iE=(x0+1)∧gM=(ak .aD .u8 (ak .shl .u8 x1 1) (ae .u8 ((ak .shr .u8 x1 7)*27)))∧nu=v3∧nu=v3∧iE=(x0+1)∧(∀j,j<(ag (iE*4))→iG j=(aA A2 (ag (x0*4)) 4 (ao (ao (ao (ao (fun _=>0) 0 (ak .aD .u8 (ak .aD .u8 (A1 (ag ((aE A2 (ag ((x0 - 1)*4))) 1))) x1) ((aE A2 (ag ((x0 - 8)*4))) 0))) 1 (ak .aD .u8 (A1 (ag ((aE A2 (ag ((x0 - 1)*4))) 2))) ((aE A2 (ag ((x0 - 8)*4))) 1))) 2 (ak .aD .u8 (A1 (ag ((aE A2 (ag ((x0 - 1)*4))) 3))) ((aE A2 (ag ((x0 - 8)*4))) 2))) 3 (ak .aD .u8 (A1 (ag ((aE A2 (ag ((x0 - 1)*4))) 0))) ((aE A2 (ag ((x0 - 8)*4))) 3)))) j)∧bN ⟨[],[nu],[iE,gM],[iG],[],[],[]⟩∧bY ⟨[],[nu],[iE,gM],[iG],[],[],[]⟩<bY ⟨[],[v2],[x0,x1],[A2],[],[],[]⟩))))))))))))))))) (
 aZ ((ak .rem .i64 x0 8)=4) (
 ∀_:Nat,∀_:Nat,aw (0≤((aE A2 (ag ((x0 - 1)*4))) 0)) (
 aw (((aE A2 (ag ((x0 - 1)*4))) 0)<256) (
 aw (0≤((aE A2 (ag ((x0 - 1)*4))) 1)) (
 aw (((aE A2 (ag ((x0 - 1)*4))) 1)<256) (
 aw (0≤((aE A2 (ag ((x0 - 1)*4))) 2)) (
 aw (((aE A2 (ag ((x0 - 1)*4))) 2)<256) (
 aw (0≤((aE A2 (ag ((x0 - 1)*4))) 3)) (
 aw (((aE A2 (ag ((x0 - 1)*4))) 3)<256) (
 aw ((-9223372036854775808)≤(x0 - 8)) (
 aw ((x0 - 8)≤9223372036854775807) (
 aw (0≤(x0 - 8)) (
 aw ((x0 - 8)<x0) (
 ∀_:Nat,∀_:Nat,∀_:Nat,∀_:Nat,aw (0≤x0) (
 aw (((x0+1)*4)≤140737488355328) (
 ∀v3:V1,aw ((-9223372036854775808)≤(x0+1)) (
 aw ((x0+1)≤9223372036854775807) (
 ∃nu:V1,∃iE:Int,∃gM:Int,∃iG:(Nat→Int),iE=(x0+1)∧gM=x1∧nu=v3∧nu=v3∧iE=(x0+1)∧(∀j,j<(ag (iE*4))→iG j=(aA A2 (ag (x0*4)) 4 (ao (ao (ao (ao (fun _=>0) 0 (ak .aD .u8 (A1 (ag ((aE A2 (ag ((x0 - 1)*4))) 0))) ((aE A2 (ag ((x0 - 8)*4))) 0))) 1 (ak .aD .u8 (A1 (ag ((aE A2 (ag ((x0 - 1)*4))) 1))) ((aE A2 (ag ((x0 - 8)*4))) 1))) 2 (ak .aD .u8 (A1 (ag ((aE A2 (ag ((x0 - 1)*4))) 2))) ((aE A2 (ag ((x0 - 8)*4))) 2))) 3 (ak .aD .u8 (A1 (ag ((aE A2 (ag ((x0 - 1)*4))) 3))) ((aE A2 (ag ((x0 - 8)*4))) 3)))) j)∧bN ⟨[],[nu],[iE,gM],[iG],[],[],[]⟩∧bY ⟨[],[nu],[iE,gM],[iG],[],[],[]⟩<bY ⟨[],[v2],[x0,x1],[A2],[],[],[]⟩))))))))))))))))) (
 aw ((-9223372036854775808)≤(x0 - 8)) (
 aw ((x0 - 8)≤9223372036854775807) (
 aw (0≤(x0 - 8)) (
 aw ((x0 - 8)<x0) (
 ∀_:Nat,∀_:Nat,∀_:Nat,∀_:Nat,aw (0≤x0) (
 aw (((x0+1)*4)≤140737488355328) (
 ∀v3:V1,aw ((-9223372036854775808)≤(x0+1)) (
 aw ((x0+1)≤9223372036854775807) (
 ∃nu:V1,∃iE:Int,∃gM:Int,∃iG:(Nat→Int),iE=(x0+1)∧gM=x1∧nu=v3∧nu=v3∧iE=(x0+1)∧(∀j,j<(ag (iE*4))→iG j=(aA A2 (ag (x0*4)) 4 (ao (ao (ao (ao (fun _=>0) 0 (ak .aD .u8 ((aE A2 (ag ((x0 - 1)*4))) 0) ((aE A2 (ag ((x0 - 8)*4))) 0))) 1 (ak .aD .u8 ((aE A2 (ag ((x0 - 1)*4))) 1) ((aE A2 (ag ((x0 - 8)*4))) 1))) 2 (ak .aD .u8 ((aE A2 (ag ((x0 - 1)*4))) 2) ((aE A2 (ag ((x0 - 8)*4))) 2))) 3 (ak .aD .u8 ((aE A2 (ag ((x0 - 1)*4))) 3) ((aE A2 (ag ((x0 - 8)*4))) 3)))) j)∧bN ⟨[],[nu],[iE,gM],[iG],[],[],[]⟩∧bY ⟨[],[nu],[iE,gM],[iG],[],[],[]⟩<bY ⟨[],[v2],[x0,x1],[A2],[],[],[]⟩)))))))))))))))) (
 ax (.tuple #[.pointer (some ⟨b0,0,none⟩),.int .i64 0]) [au false 5 1 v0.v 32 (aK 32 [aJ .u8 1 A0]),aq b0 true (ads (aj .u8 256 A1) ([v2.v])),au true 73 4 v2.v (ag x0) (aK (ag x0) [aJ .u8 4 A2])])
theorem K5(P:Program)(ax:Value→List HP→Prop)(A0:Nat→Int)(v0:V1)(L:Nat→LC):VC P (fun v hs=>ax v (hs.take 3)) Dd {iv:=[],av:=[A0],bo:=[],bv:=[],vv:=[v0]} L=De P ax A0 v0:=by kernel_rfl
theorem I5:gS cx 10 ([SV.vv 0]) ([Ck.bu false 0 5 1 (E.lit 32) [{ck:=CK.int (adM),w:=1,a:=E.aO 0}]]) ({b:=0,v:=1,i:=0,a:=1,bo:=0,p:=0,r:=0}) Try.f10=Dd:=rfl
noncomputable def HE:F:=gS cx 11 ([SV.ptr 0 0,SV.agg [SV.cD (adM) 16 (E.aO 2)]]) ([Ck.row 0 true [SV.cD (adM) 256 (E.aO 0),SV.vv 0],Ck.bu true 0 73 4 (E.var 0) [{ck:=CK.int (adM),w:=4,a:=E.aO 1}]]) ({b:=1,v:=1,i:=1,a:=3,bo:=0,p:=0,r:=0}) Try.f11
def HF(_:Program)(ax:Value→List HP→Prop)(x0:Int)(A0:Nat→Int)(A1:Nat→Int)(A2:Nat→Int)(v0:V1)(b0:Nat):Prop:=
 ∀_:Nat,∀_:Nat,∀_:Nat,∀_:Nat,∀_:Nat,aw (0<x0) (
 ∀_:Nat,∀_:Nat,∀_:Nat,aw (1<x0) (
 ∀_:Nat,∀_:Nat,∀_:Nat,aw (2<x0) (
 ∀_:Nat,∀_:Nat,∀_:Nat,aw (3<x0) (
 ∀_:Nat,∀_:Nat,∀_:Nat,∀KH:Nat,∀CX:Nat,∃(bN:Ext→Prop) (bY:Ext→Nat),(∃zd:Nat,∃NP:Nat,∃x1:Int,∃A3:(Nat→Int),zd=KH∧(∀j,j<16→A3 j=(ao (ao (ao (ao (ao (ao (ao (ao (ao (ao (ao (ao (ao (ao (ao (ao (fun _=>0) 0 (ak .aD .u8 (A2 0) (A1 0))) 1 (ak .aD .u8 (A2 1) (A1 1))) 2 (ak .aD .u8 (A2 2) (A1 2))) 3 (ak .aD .u8 (A2 3) (A1 3))) 4 (ak .aD .u8 (A2 4) (A1 4))) 5 (ak .aD .u8 (A2 5) (A1 5))) 6 (ak .aD .u8 (A2 6) (A1 6))) 7 (ak .aD .u8 (A2 7) (A1 7))) 8 (ak .aD .u8 (A2 8) (A1 8))) 9 (ak .aD .u8 (A2 9) (A1 9))) 10 (ak .aD .u8 (A2 10) (A1 10))) 11 (ak .aD .u8 (A2 11) (A1 11))) 12 (ak .aD .u8 (A2 12) (A1 12))) 13 (ak .aD .u8 (A2 13) (A1 13))) 14 (ak .aD .u8 (A2 14) (A1 14))) 15 (ak .aD .u8 (A2 15) (A1 15))) j)∧zd=KH∧x1=1∧NP=CX∧NP=CX∧bN ⟨[zd,NP],[],[x1],[A3],[],[],[]⟩)∧
 ∀zd:Nat,∀NP:Nat,∀x1:Int,∀A3:(Nat→Int),bN ⟨[zd,NP],[],[x1],[A3],[],[],[]⟩→
 aw (0≤x0) (
 aw ((-9223372036854775808)≤((ae .i64 (ak .quo .i64 x0 4)) - 1)) (
 aw (((ae .i64 (ak .quo .i64 x0 4)) - 1)≤9223372036854775807) (
 aZ (x1≤((ae .i64 (ak .quo .i64 x0 4)) - 1)) (
 ∀_:Nat,∀_:Nat,∀_:Nat,∀(_ _:Nat) (_:Loop),∀_:Nat,∀_:Nat,∀_:Nat,aw (0≤(A3 0)) (
 aw ((A3 0)<256) (
 aw (0≤(A3 5)) (
 aw ((A3 5)<256) (
 aw (0≤(A3 10)) (
 aw ((A3 10)<256) (
 aw (0≤(A3 15)) (
 aw ((A3 15)<256) (
 ∀_:Nat,aZ (x1<((ae .i64 (ak .quo .i64 x0 4)) - 1)) (
 ∀_:Nat,∀_:Nat,∀_:Nat,aw ((-9223372036854775808)≤(4*x1)) (
 aw ((4*x1)≤9223372036854775807) (
 aw (0≤(4*x1)) (
 aw ((4*x1)<x0) (
 ∀_:Nat,∀_:Nat,∀_:Nat,∀_:Nat,∀_:Nat,∀_:Nat,aw (0≤(A3 4)) (
 aw ((A3 4)<256) (
 aw (0≤(A3 9)) (
 aw ((A3 9)<256) (
 aw (0≤(A3 14)) (
 aw ((A3 14)<256) (
 aw (0≤(A3 3)) (
 aw ((A3 3)<256) (
 ∀_:Nat,∀_:Nat,∀_:Nat,∀_:Nat,aw ((-9223372036854775808)≤((4*x1)+1)) (
 aw (((4*x1)+1)≤9223372036854775807) (
 aw (0≤((4*x1)+1)) (
 aw (((4*x1)+1)<x0) (
 ∀_:Nat,∀_:Nat,∀_:Nat,∀_:Nat,∀_:Nat,∀_:Nat,aw (0≤(A3 8)) (
 aw ((A3 8)<256) (
 aw (0≤(A3 13)) (
 aw ((A3 13)<256) (
 aw (0≤(A3 2)) (
 aw ((A3 2)<256) (
 aw (0≤(A3 7)) (
 aw ((A3 7)<256) (
 ∀_:Nat,∀_:Nat,∀_:Nat,∀_:Nat,aw ((-9223372036854775808)≤((4*x1)+2)) (
 aw (((4*x1)+2)≤9223372036854775807) (
 aw (0≤((4*x1)+2)) (
 aw (((4*x1)+2)<x0) (
 ∀_:Nat,∀_:Nat,∀_:Nat,∀_:Nat,∀_:Nat,∀_:Nat,aw (0≤(A3 12)) (
 aw ((A3 12)<256) (
 aw (0≤(A3 1)) (
 aw ((A3 1)<256) (
 aw (0≤(A3 6)) (
 aw ((A3 6)<256) (
 aw (0≤(A3 11)) (
 aw ((A3 11)<256) (
 ∀_:Nat,∀_:Nat,∀_:Nat,∀_:Nat,aw ((-9223372036854775808)≤((4*x1)+3)) (
 aw (((4*x1)+3)≤9223372036854775807) (
 aw (0≤((4*x1)+3)) (
 aw (((4*x1)+3)<x0) (
 ∀_:Nat,∀_:Nat,∀_:Nat,∀V9:Nat,aw ((-9223372036854775808)≤(x1+1)) (
 aw ((x1+1)≤9223372036854775807) (
 ∀V_:Nat,∃Bd:Nat,∃Be:Nat,∃gM:Int,∃oN:(Nat→Int),Bd=V9∧(∀j,j<16→oN j=(ao (ao (ao (ao (ao (ao (ao (ao (ao (ao (ao (ao (ao (ao (ao (ao (fun _=>0) 0 (ak .aD .u8 (ak .aD .u8 (ak .aD .u8 (A0 (ag (A3 0))) (ak .aD .u8 (ak .aD .u8 (ak .aD .u8 (A0 (ag (A3 0))) (A0 (ag (A3 5)))) (A0 (ag (A3 10)))) (A0 (ag (A3 15))))) (ak .aD .u8 (ak .shl .u8 (ak .aD .u8 (A0 (ag (A3 0))) (A0 (ag (A3 5)))) 1) (ae .u8 ((ak .shr .u8 (ak .aD .u8 (A0 (ag (A3 0))) (A0 (ag (A3 5)))) 7)*27)))) ((aE A1 (ag ((4*x1)*4))) 0))) 1 (ak .aD .u8 (ak .aD .u8 (ak .aD .u8 (A0 (ag (A3 5))) (ak .aD .u8 (ak .aD .u8 (ak .aD .u8 (A0 (ag (A3 0))) (A0 (ag (A3 5)))) (A0 (ag (A3 10)))) (A0 (ag (A3 15))))) (ak .aD .u8 (ak .shl .u8 (ak .aD .u8 (A0 (ag (A3 5))) (A0 (ag (A3 10)))) 1) (ae .u8 ((ak .shr .u8 (ak .aD .u8 (A0 (ag (A3 5))) (A0 (ag (A3 10)))) 7)*27)))) ((aE A1 (ag ((4*x1)*4))) 1))) 2 (ak .aD .u8 (ak .aD .u8 (ak .aD .u8 (A0 (ag (A3 10))) (ak .aD .u8 (ak .aD .u8 (ak .aD .u8 (A0 (ag (A3 0))) (A0 (ag (A3 5)))) (A0 (ag (A3 10)))) (A0 (ag (A3 15))))) (ak .aD .u8 (ak .shl .u8 (ak .aD .u8 (A0 (ag (A3 10))) (A0 (ag (A3 15)))) 1) (ae .u8 ((ak .shr .u8 (ak .aD .u8 (A0 (ag (A3 10))) (A0 (ag (A3 15)))) 7)*27)))) ((aE A1 (ag ((4*x1)*4))) 2))) 3 (ak .aD .u8 (ak .aD .u8 (ak .aD .u8 (A0 (ag (A3 15))) (ak .aD .u8 (ak .aD .u8 (ak .aD .u8 (A0 (ag (A3 0))) (A0 (ag (A3 5)))) (A0 (ag (A3 10)))) (A0 (ag (A3 15))))) (ak .aD .u8 (ak .shl .u8 (ak .aD .u8 (A0 (ag (A3 15))) (A0 (ag (A3 0)))) 1) (ae .u8 ((ak .shr .u8 (ak .aD .u8 (A0 (ag (A3 15))) (A0 (ag (A3 0)))) 7)*27)))) ((aE A1 (ag ((4*x1)*4))) 3))) 4 (ak .aD .u8 (ak .aD .u8 (ak .aD .u8 (A0 (ag (A3 4))) (ak .aD .u8 (ak .aD .u8 (ak .aD .u8 (A0 (ag (A3 4))) (A0 (ag (A3 9)))) (A0 (ag (A3 14)))) (A0 (ag (A3 3))))) (ak .aD .u8 (ak .shl .u8 (ak .aD .u8 (A0 (ag (A3 4))) (A0 (ag (A3 9)))) 1) (ae .u8 ((ak .shr .u8 (ak .aD .u8 (A0 (ag (A3 4))) (A0 (ag (A3 9)))) 7)*27)))) ((aE A1 (ag (((4*x1)+1)*4))) 0))) 5 (ak .aD .u8 (ak .aD .u8 (ak .aD .u8 (A0 (ag (A3 9))) (ak .aD .u8 (ak .aD .u8 (ak .aD .u8 (A0 (ag (A3 4))) (A0 (ag (A3 9)))) (A0 (ag (A3 14)))) (A0 (ag (A3 3))))) (ak .aD .u8 (ak .shl .u8 (ak .aD .u8 (A0 (ag (A3 9))) (A0 (ag (A3 14)))) 1) (ae .u8 ((ak .shr .u8 (ak .aD .u8 (A0 (ag (A3 9))) (A0 (ag (A3 14)))) 7)*27)))) ((aE A1 (ag (((4*x1)+1)*4))) 1))) 6 (ak .aD .u8 (ak .aD .u8 (ak .aD .u8 (A0 (ag (A3 14))) (ak .aD .u8 (ak .aD .u8 (ak .aD .u8 (A0 (ag (A3 4))) (A0 (ag (A3 9)))) (A0 (ag (A3 14)))) (A0 (ag (A3 3))))) (ak .aD .u8 (ak .shl .u8 (ak .aD .u8 (A0 (ag (A3 14))) (A0 (ag (A3 3)))) 1) (ae .u8 ((ak .shr .u8 (ak .aD .u8 (A0 (ag (A3 14))) (A0 (ag (A3 3)))) 7)*27)))) ((aE A1 (ag (((4*x1)+1)*4))) 2))) 7 (ak .aD .u8 (ak .aD .u8 (ak .aD .u8 (A0 (ag (A3 3))) (ak .aD .u8 (ak .aD .u8 (ak .aD .u8 (A0 (ag (A3 4))) (A0 (ag (A3 9)))) (A0 (ag (A3 14)))) (A0 (ag (A3 3))))) (ak .aD .u8 (ak .shl .u8 (ak .aD .u8 (A0 (ag (A3 3))) (A0 (ag (A3 4)))) 1) (ae .u8 ((ak .shr .u8 (ak .aD .u8 (A0 (ag (A3 3))) (A0 (ag (A3 4)))) 7)*27)))) ((aE A1 (ag (((4*x1)+1)*4))) 3))) 8 (ak .aD .u8 (ak .aD .u8 (ak .aD .u8 (A0 (ag (A3 8))) (ak .aD .u8 (ak .aD .u8 (ak .aD .u8 (A0 (ag (A3 8))) (A0 (ag (A3 13)))) (A0 (ag (A3 2)))) (A0 (ag (A3 7))))) (ak .aD .u8 (ak .shl .u8 (ak .aD .u8 (A0 (ag (A3 8))) (A0 (ag (A3 13)))) 1) (ae .u8 ((ak .shr .u8 (ak .aD .u8 (A0 (ag (A3 8))) (A0 (ag (A3 13)))) 7)*27)))) ((aE A1 (ag (((4*x1)+2)*4))) 0))) 9 (ak .aD .u8 (ak .aD .u8 (ak .aD .u8 (A0 (ag (A3 13))) (ak .aD .u8 (ak .aD .u8 (ak .aD .u8 (A0 (ag (A3 8))) (A0 (ag (A3 13)))) (A0 (ag (A3 2)))) (A0 (ag (A3 7))))) (ak .aD .u8 (ak .shl .u8 (ak .aD .u8 (A0 (ag (A3 13))) (A0 (ag (A3 2)))) 1) (ae .u8 ((ak .shr .u8 (ak .aD .u8 (A0 (ag (A3 13))) (A0 (ag (A3 2)))) 7)*27)))) ((aE A1 (ag (((4*x1)+2)*4))) 1))) 10 (ak .aD .u8 (ak .aD .u8 (ak .aD .u8 (A0 (ag (A3 2))) (ak .aD .u8 (ak .aD .u8 (ak .aD .u8 (A0 (ag (A3 8))) (A0 (ag (A3 13)))) (A0 (ag (A3 2)))) (A0 (ag (A3 7))))) (ak .aD .u8 (ak .shl .u8 (ak .aD .u8 (A0 (ag (A3 2))) (A0 (ag (A3 7)))) 1) (ae .u8 ((ak .shr .u8 (ak .aD .u8 (A0 (ag (A3 2))) (A0 (ag (A3 7)))) 7)*27)))) ((aE A1 (ag (((4*x1)+2)*4))) 2))) 11 (ak .aD .u8 (ak .aD .u8 (ak .aD .u8 (A0 (ag (A3 7))) (ak .aD .u8 (ak .aD .u8 (ak .aD .u8 (A0 (ag (A3 8))) (A0 (ag (A3 13)))) (A0 (ag (A3 2)))) (A0 (ag (A3 7))))) (ak .aD .u8 (ak .shl .u8 (ak .aD .u8 (A0 (ag (A3 7))) (A0 (ag (A3 8)))) 1) (ae .u8 ((ak .shr .u8 (ak .aD .u8 (A0 (ag (A3 7))) (A0 (ag (A3 8)))) 7)*27)))) ((aE A1 (ag (((4*x1)+2)*4))) 3))) 12 (ak .aD .u8 (ak .aD .u8 (ak .aD .u8 (A0 (ag (A3 12))) (ak .aD .u8 (ak .aD .u8 (ak .aD .u8 (A0 (ag (A3 12))) (A0 (ag (A3 1)))) (A0 (ag (A3 6)))) (A0 (ag (A3 11))))) (ak .aD .u8 (ak .shl .u8 (ak .aD .u8 (A0 (ag (A3 12))) (A0 (ag (A3 1)))) 1) (ae .u8 ((ak .shr .u8 (ak .aD .u8 (A0 (ag (A3 12))) (A0 (ag (A3 1)))) 7)*27)))) ((aE A1 (ag (((4*x1)+3)*4))) 0))) 13 (ak .aD .u8 (ak .aD .u8 (ak .aD .u8 (A0 (ag (A3 1))) (ak .aD .u8 (ak .aD .u8 (ak .aD .u8 (A0 (ag (A3 12))) (A0 (ag (A3 1)))) (A0 (ag (A3 6)))) (A0 (ag (A3 11))))) (ak .aD .u8 (ak .shl .u8 (ak .aD .u8 (A0 (ag (A3 1))) (A0 (ag (A3 6)))) 1) (ae .u8 ((ak .shr .u8 (ak .aD .u8 (A0 (ag (A3 1))) (A0 (ag (A3 6)))) 7)*27)))) ((aE A1 (ag (((4*x1)+3)*4))) 1))) 14 (ak .aD .u8 (ak .aD .u8 (ak .aD .u8 (A0 (ag (A3 6))) (ak .aD .u8 (ak .aD .u8 (ak .aD .u8 (A0 (ag (A3 12))) (A0 (ag (A3 1)))) (A0 (ag (A3 6)))) (A0 (ag (A3 11))))) (ak .aD .u8 (ak .shl .u8 (ak .aD .u8 (A0 (ag (A3 6))) (A0 (ag (A3 11)))) 1) (ae .u8 ((ak .shr .u8 (ak .aD .u8 (A0 (ag (A3 6))) (A0 (ag (A3 11)))) 7)*27)))) ((aE A1 (ag (((4*x1)+3)*4))) 2))) 15 (ak .aD .u8 (ak .aD .u8 (ak .aD .u8 (A0 (ag (A3 11))) (ak .aD .u8 (ak .aD .u8 (ak .aD .u8 (A0 (ag (A3 12))) (A0 (ag (A3 1)))) (A0 (ag (A3 6)))) (A0 (ag (A3 11))))) (ak .aD .u8 (ak .shl .u8 (ak .aD .u8 (A0 (ag (A3 11))) (A0 (ag (A3 12)))) 1) (ae .u8 ((ak .shr .u8 (ak .aD .u8 (A0 (ag (A3 11))) (A0 (ag (A3 12)))) 7)*27)))) ((aE A1 (ag (((4*x1)+3)*4))) 3))) j)∧Bd=V9∧gM=(x1+1)∧Be=V_∧Be=V_∧bN ⟨[Bd,Be],[],[gM],[oN],[],[],[]⟩∧bY ⟨[Bd,Be],[],[gM],[oN],[],[],[]⟩<bY ⟨[zd,NP],[],[x1],[A3],[],[],[]⟩))))))))))))))))))))))))))))))))))))))))))) (
 aw ((-9223372036854775808)≤(4*x1)) (
 aw ((4*x1)≤9223372036854775807) (
 aw (0≤(4*x1)) (
 aw ((4*x1)<x0) (
 ∀_:Nat,∀_:Nat,∀_:Nat,∀_:Nat,∀_:Nat,∀_:Nat,aw (0≤(A3 4)) (
 aw ((A3 4)<256) (
 aw (0≤(A3 9)) (
 aw ((A3 9)<256) (
 aw (0≤(A3 14)) (
 aw ((A3 14)<256) (
 aw (0≤(A3 3)) (
 aw ((A3 3)<256) (
 ∀_:Nat,aw ((-9223372036854775808)≤((4*x1)+1)) (
 aw (((4*x1)+1)≤9223372036854775807) (
 aw (0≤((4*x1)+1)) (
 aw (((4*x1)+1)<x0) (
 ∀_:Nat,∀_:Nat,∀_:Nat,∀_:Nat,∀_:Nat,∀_:Nat,aw (0≤(A3 8)) (
 aw ((A3 8)<256) (
 aw (0≤(A3 13)) (
 aw ((A3 13)<256) (
 aw (0≤(A3 2)) (
 aw ((A3 2)<256) (
 aw (0≤(A3 7)) (
 aw ((A3 7)<256) (
 ∀_:Nat,aw ((-9223372036854775808)≤((4*x1)+2)) (
 aw (((4*x1)+2)≤9223372036854775807) (
 aw (0≤((4*x1)+2)) (
 aw (((4*x1)+2)<x0) (
 ∀_:Nat,∀_:Nat,∀_:Nat,∀_:Nat,∀_:Nat,∀_:Nat,aw (0≤(A3 12)) (
 aw ((A3 12)<256) (
 aw (0≤(A3 1)) (
 aw ((A3 1)<256) (
 aw (0≤(A3 6)) (
 aw ((A3 6)<256) (
 aw (0≤(A3 11)) (
 aw ((A3 11)<256) (
 ∀_:Nat,aw ((-9223372036854775808)≤((4*x1)+3)) (
 aw (((4*x1)+3)≤9223372036854775807) (
 aw (0≤((4*x1)+3)) (
 aw (((4*x1)+3)<x0) (
 ∀_:Nat,∀_:Nat,∀_:Nat,∀TR:Nat,aw ((-9223372036854775808)≤(x1+1)) (
 aw ((x1+1)≤9223372036854775807) (
 ∀TS:Nat,∃Bd:Nat,∃Be:Nat,∃gM:Int,∃oN:(Nat→Int),Bd=TR∧(∀j,j<16→oN j=(ao (ao (ao (ao (ao (ao (ao (ao (ao (ao (ao (ao (ao (ao (ao (ao (fun _=>0) 0 (ak .aD .u8 (A0 (ag (A3 0))) ((aE A1 (ag ((4*x1)*4))) 0))) 1 (ak .aD .u8 (A0 (ag (A3 5))) ((aE A1 (ag ((4*x1)*4))) 1))) 2 (ak .aD .u8 (A0 (ag (A3 10))) ((aE A1 (ag ((4*x1)*4))) 2))) 3 (ak .aD .u8 (A0 (ag (A3 15))) ((aE A1 (ag ((4*x1)*4))) 3))) 4 (ak .aD .u8 (A0 (ag (A3 4))) ((aE A1 (ag (((4*x1)+1)*4))) 0))) 5 (ak .aD .u8 (A0 (ag (A3 9))) ((aE A1 (ag (((4*x1)+1)*4))) 1))) 6 (ak .aD .u8 (A0 (ag (A3 14))) ((aE A1 (ag (((4*x1)+1)*4))) 2))) 7 (ak .aD .u8 (A0 (ag (A3 3))) ((aE A1 (ag (((4*x1)+1)*4))) 3))) 8 (ak .aD .u8 (A0 (ag (A3 8))) ((aE A1 (ag (((4*x1)+2)*4))) 0))) 9 (ak .aD .u8 (A0 (ag (A3 13))) ((aE A1 (ag (((4*x1)+2)*4))) 1))) 10 (ak .aD .u8 (A0 (ag (A3 2))) ((aE A1 (ag (((4*x1)+2)*4))) 2))) 11 (ak .aD .u8 (A0 (ag (A3 7))) ((aE A1 (ag (((4*x1)+2)*4))) 3))) 12 (ak .aD .u8 (A0 (ag (A3 12))) ((aE A1 (ag (((4*x1)+3)*4))) 0))) 13 (ak .aD .u8 (A0 (ag (A3 1))) ((aE A1 (ag (((4*x1)+3)*4))) 1))) 14 (ak .aD .u8 (A0 (ag (A3 6))) ((aE A1 (ag (((4*x1)+3)*4))) 2))) 15 (ak .aD .u8 (A0 (ag (A3 11))) ((aE A1 (ag (((4*x1)+3)*4))) 3))) j)∧Bd=TR∧gM=(x1+1)∧Be=TS∧Be=TS∧bN ⟨[Bd,Be],[],[gM],[oN],[],[],[]⟩∧bY ⟨[Bd,Be],[],[gM],[oN],[],[],[]⟩<bY ⟨[zd,NP],[],[x1],[A3],[],[],[]⟩)))))))))))))))))))))))))))))))))))))))))))))))))))) (
 ∀_:Nat,∀_:Nat,∀_:Nat,∀_:Nat,ax (.agg (ads (aj .u8 16 (aA (aA (aA (aA (fun _=>0) 0 4 A3) 4 4 (aE A3 4)) 8 4 (aE A3 8)) 12 4 (aE A3 12))) ([])).toArray) [aq b0 true (ads (aj .u8 256 A0) ([v0.v])),au true 73 4 v0.v (ag x0) (aK (ag x0) [aJ .u8 4 A1])]))))))))
theorem Oh(P:Program)(ax:Value→List HP→Prop)(x0:Int)(A0:Nat→Int)(A1:Nat→Int)(A2:Nat→Int)(v0:V1)(b0:Nat)(L:Nat→LC):VC P (fun v hs=>ax v (hs.take 2)) HE {iv:=[x0],av:=[A0,A1,A2],bo:=[],bv:=[b0],vv:=[v0]} L=HF P ax x0 A0 A1 A2 v0 b0:=by kernel_rfl
theorem K6:gS cx 11 ([SV.ptr 0 0,SV.agg [SV.cD (adM) 16 (E.aO 2)]]) ([Ck.row 0 true [SV.cD (adM) 256 (E.aO 0),SV.vv 0],Ck.bu true 0 73 4 (E.var 0) [{ck:=CK.int (adM),w:=4,a:=E.aO 1}]]) ({b:=1,v:=1,i:=1,a:=3,bo:=0,p:=0,r:=0}) Try.f11=HE:=rfl
end Go.RX.Fe
