/- AES. -/
import Derived.Test.YtmgbbbmdbpbeeaaGreatM16
open Go.IntKind renaming u8 → ai9, wrap → ae
open Int renaming toNat → ag, toNat_natCast → aiX
open List renaming append → aiL
open Nat renaming eq_of_testBit_eq → ajx, lt_of_lt_of_le → ai1, mod_eq_of_lt → ajm, xor_comm → ajr
namespace Go.RX.Fe
open Go.RX Go.Proofs
noncomputable def cx:Ctx:={T:=TT,FT:=FT,loops:=loops,bB:=bB}
set_option maxRecDepth 100000
noncomputable def Jo:F:=ig cx 113 ([]) ([]) ({b:=0,v:=0,i:=0,a:=0,bo:=0,p:=0,r:=0}) Tryz.f113
def Jp(_:Program)(ao:Value→List HP→Prop):Prop:=
 ∀_:Nat,∀_:Nat,∃(cc:Ext→Prop) (cu:Ext→Nat),(∃x0:Int,∃x1:Int,∃A0:(Nat→Int),∃A1:(Nat→Int),x0=0∧x1=1∧(∀j,j<255→A0 j=(fun _=>0) j)∧(∀j,j<256→A1 j=(fun _=>0) j)∧cc ⟨[],[],[x0,x1],[A0,A1],[],[],[]⟩)∧
 ∀x0:Int,∀x1:Int,∀A0:(Nat→Int),∀A1:(Nat→Int),cc ⟨[],[],[x0,x1],[A0,A1],[],[],[]⟩→
 aJ (x0<255) (
 aw (0≤x0) (
 aw (0≤x1) (
 aw (x1<256) (
 aw ((-9223372036854775808)≤(x0+1)) (
 aw ((x0+1)≤9223372036854775807) (
 ∃jd:Int,∃dr:Int,∃xx:(Nat→Int),∃BR:(Nat→Int),jd=(x0+1)∧dr=(ak .aB .u8 x1 (ak .aB .u8 (ak .shl .u8 x1 1) (ae .u8 ((ak .shr .u8 x1 7)*27))))∧(∀j,j<255→xx j=(au A0 (ag x0) x1) j)∧(∀j,j<256→BR j=(au A1 (ag x1) x0) j)∧cc ⟨[],[],[jd,dr],[xx,BR],[],[],[]⟩∧cu ⟨[],[],[jd,dr],[xx,BR],[],[],[]⟩<cu ⟨[],[],[x0,x1],[A0,A1],[],[],[]⟩)))))) (
 ao (.tuple #[.agg (aiL (aj .u8 255 A0) ([])).toArray,.agg (aiL (aj .i64 256 A1) ([])).toArray]) [])
theorem Rp(P:Program)(ao:Value→List HP→Prop)(L:Nat→LC):VC P (fun v _=>ao v []) Jo {iv:=[],av:=[],bo:=[],bv:=[],vv:=[]} L=Jp P ao:=by kernel_rfl
theorem Od:ig cx 113 ([]) ([]) ({b:=0,v:=0,i:=0,a:=0,bo:=0,p:=0,r:=0}) Tryz.f113=Jo:=rfl
noncomputable def Oe:F:=ig cx 90 ([]) ([]) ({b:=0,v:=0,i:=0,a:=0,bo:=0,p:=0,r:=0}) Tryz.f90
def Of(P:Program)(ao:Value→List HP→Prop):Prop:=
 ∀_:Nat,∃post,ax P 113 [] [] post∧
 ∀x hs,post x hs→∃A0:(Nat→Int),∃A1:(Nat→Int),x= .tuple #[.agg (aiL (aj .u8 255 A0) ([])).toArray,.agg (aiL (aj .i64 256 A1) ([])).toArray]∧hs=[]∧
 ∀_:Nat,∀_:Nat,∀_:Nat,∃(cc:Ext→Prop) (cu:Ext→Nat),(∃x0:Int,∃A2:(Nat→Int),x0=0∧(∀j,j<256→A2 j=(fun _=>0) j)∧cc ⟨[],[],[x0],[A2],[],[],[]⟩)∧
 ∀x0:Int,∀A2:(Nat→Int),cc ⟨[],[],[x0],[A2],[],[],[]⟩→
 aJ (x0<256) (
 aJ (0<x0) (
 aw (0≤x0) (
 aw ((-9223372036854775808)≤(255 - (A1 (ag x0)))) (
 aw ((255 - (A1 (ag x0)))≤9223372036854775807) (
 aw (0≤(ak .rem .i64 (255 - (A1 (ag x0))) 255)) (
 aw ((ak .rem .i64 (255 - (A1 (ag x0))) 255)<255) (
 aw ((-9223372036854775808)≤(x0+1)) (
 aw ((x0+1)≤9223372036854775807) (
 ∃jd:Int,∃fo:(Nat→Int),jd=(x0+1)∧(∀j,j<256→fo j=(au A2 (ag x0) (ak .aB .u8 (ak .aB .u8 (ak .aB .u8 (ak .aB .u8 (ak .aB .u8 99 (A0 (ag (ak .rem .i64 (255 - (A1 (ag x0))) 255)))) (ak .bC .u8 (ak .shl .u8 (A0 (ag (ak .rem .i64 (255 - (A1 (ag x0))) 255))) 1) (ak .shr .u8 (A0 (ag (ak .rem .i64 (255 - (A1 (ag x0))) 255))) 7))) (ak .bC .u8 (ak .shl .u8 (ak .bC .u8 (ak .shl .u8 (A0 (ag (ak .rem .i64 (255 - (A1 (ag x0))) 255))) 1) (ak .shr .u8 (A0 (ag (ak .rem .i64 (255 - (A1 (ag x0))) 255))) 7)) 1) (ak .shr .u8 (ak .bC .u8 (ak .shl .u8 (A0 (ag (ak .rem .i64 (255 - (A1 (ag x0))) 255))) 1) (ak .shr .u8 (A0 (ag (ak .rem .i64 (255 - (A1 (ag x0))) 255))) 7)) 7))) (ak .bC .u8 (ak .shl .u8 (ak .bC .u8 (ak .shl .u8 (ak .bC .u8 (ak .shl .u8 (A0 (ag (ak .rem .i64 (255 - (A1 (ag x0))) 255))) 1) (ak .shr .u8 (A0 (ag (ak .rem .i64 (255 - (A1 (ag x0))) 255))) 7)) 1) (ak .shr .u8 (ak .bC .u8 (ak .shl .u8 (A0 (ag (ak .rem .i64 (255 - (A1 (ag x0))) 255))) 1) (ak .shr .u8 (A0 (ag (ak .rem .i64 (255 - (A1 (ag x0))) 255))) 7)) 7)) 1) (ak .shr .u8 (ak .bC .u8 (ak .shl .u8 (ak .bC .u8 (ak .shl .u8 (A0 (ag (ak .rem .i64 (255 - (A1 (ag x0))) 255))) 1) (ak .shr .u8 (A0 (ag (ak .rem .i64 (255 - (A1 (ag x0))) 255))) 7)) 1) (ak .shr .u8 (ak .bC .u8 (ak .shl .u8 (A0 (ag (ak .rem .i64 (255 - (A1 (ag x0))) 255))) 1) (ak .shr .u8 (A0 (ag (ak .rem .i64 (255 - (A1 (ag x0))) 255))) 7)) 7)) 7))) (ak .bC .u8 (ak .shl .u8 (ak .bC .u8 (ak .shl .u8 (ak .bC .u8 (ak .shl .u8 (ak .bC .u8 (ak .shl .u8 (A0 (ag (ak .rem .i64 (255 - (A1 (ag x0))) 255))) 1) (ak .shr .u8 (A0 (ag (ak .rem .i64 (255 - (A1 (ag x0))) 255))) 7)) 1) (ak .shr .u8 (ak .bC .u8 (ak .shl .u8 (A0 (ag (ak .rem .i64 (255 - (A1 (ag x0))) 255))) 1) (ak .shr .u8 (A0 (ag (ak .rem .i64 (255 - (A1 (ag x0))) 255))) 7)) 7)) 1) (ak .shr .u8 (ak .bC .u8 (ak .shl .u8 (ak .bC .u8 (ak .shl .u8 (A0 (ag (ak .rem .i64 (255 - (A1 (ag x0))) 255))) 1) (ak .shr .u8 (A0 (ag (ak .rem .i64 (255 - (A1 (ag x0))) 255))) 7)) 1) (ak .shr .u8 (ak .bC .u8 (ak .shl .u8 (A0 (ag (ak .rem .i64 (255 - (A1 (ag x0))) 255))) 1) (ak .shr .u8 (A0 (ag (ak .rem .i64 (255 - (A1 (ag x0))) 255))) 7)) 7)) 7)) 1) (ak .shr .u8 (ak .bC .u8 (ak .shl .u8 (ak .bC .u8 (ak .shl .u8 (ak .bC .u8 (ak .shl .u8 (A0 (ag (ak .rem .i64 (255 - (A1 (ag x0))) 255))) 1) (ak .shr .u8 (A0 (ag (ak .rem .i64 (255 - (A1 (ag x0))) 255))) 7)) 1) (ak .shr .u8 (ak .bC .u8 (ak .shl .u8 (A0 (ag (ak .rem .i64 (255 - (A1 (ag x0))) 255))) 1) (ak .shr .u8 (A0 (ag (ak .rem .i64 (255 - (A1 (ag x0))) 255))) 7)) 7)) 1) (ak .shr .u8 (ak .bC .u8 (ak .shl .u8 (ak .bC .u8 (ak .shl .u8 (A0 (ag (ak .rem .i64 (255 - (A1 (ag x0))) 255))) 1) (ak .shr .u8 (A0 (ag (ak .rem .i64 (255 - (A1 (ag x0))) 255))) 7)) 1) (ak .shr .u8 (ak .bC .u8 (ak .shl .u8 (A0 (ag (ak .rem .i64 (255 - (A1 (ag x0))) 255))) 1) (ak .shr .u8 (A0 (ag (ak .rem .i64 (255 - (A1 (ag x0))) 255))) 7)) 7)) 7)) 7)))) j)∧cc ⟨[],[],[jd],[fo],[],[],[]⟩∧cu ⟨[],[],[jd],[fo],[],[],[]⟩<cu ⟨[],[],[x0],[A2],[],[],[]⟩)))))))) (
 aw (0≤x0) (
 aw ((-9223372036854775808)≤(x0+1)) (
 aw ((x0+1)≤9223372036854775807) (
 ∃jd:Int,∃fo:(Nat→Int),jd=(x0+1)∧(∀j,j<256→fo j=(au A2 (ag x0) 99) j)∧cc ⟨[],[],[jd],[fo],[],[],[]⟩∧cu ⟨[],[],[jd],[fo],[],[],[]⟩<cu ⟨[],[],[x0],[A2],[],[],[]⟩))))) (
 ao (.agg (aiL (aj .u8 256 A2) ([])).toArray) [])
theorem U6(P:Program)(ao:Value→List HP→Prop)(L:Nat→LC):VC P (fun v _=>ao v []) Oe {iv:=[],av:=[],bo:=[],bv:=[],vv:=[]} L=Of P ao:=by kernel_rfl
theorem Rq:ig cx 90 ([]) ([]) ({b:=0,v:=0,i:=0,a:=0,bo:=0,p:=0,r:=0}) Tryz.f90=Oe:=rfl
noncomputable def EI:F:=ig cx 60 ([SV.vv 0]) ([Ck.bK false 0 5 1 (E.lit 16) [{ck:=CK.int (ai9),w:=1,a:=E.aN 0}]]) ({b:=0,v:=1,i:=0,a:=1,bo:=0,p:=0,r:=0}) Tryz.f60
def EJ(P:Program)(ao:Value→List HP→Prop)(A0:Nat→Int)(v0:V1):Prop:=
 ∃post,ax P 90 [] [] post∧
 ∀x hs,post x hs→∃A1:(Nat→Int),x= .agg (aiL (aj .u8 256 A1) ([])).toArray∧hs=[]∧
 ∀b0:Nat,∃(cc:Ext→Prop) (cu:Ext→Nat),(∃v2:V1,∃x0:Int,∃x1:Int,∃A2:(Nat→Int),x0=0∧x1=1∧v2=(⟨.slice none 0 0,rfl⟩:V1)∧v2=(⟨.slice none 0 0,rfl⟩:V1)∧x0=0∧(∀j,j<(ag (x0*4))→A2 j=(fun _=>0) j)∧cc ⟨[],[v2],[x0,x1],[A2],[],[],[]⟩)∧
 ∀v2:V1,∀x0:Int,∀x1:Int,∀A2:(Nat→Int),cc ⟨[],[v2],[x0,x1],[A2],[],[],[]⟩→
 aJ (x0<44) (
 aJ (x0<4) (
 aw ((-9223372036854775808)≤(4*x0)) (
 aw ((4*x0)≤9223372036854775807) (
 aw ((-9223372036854775808)≤((4*x0)+4)) (
 aw (((4*x0)+4)≤9223372036854775807) (
 aw (0≤(4*x0)) (
 aw ((4*x0)≤((4*x0)+4)) (
 aw (((4*x0)+4)≤16) (
 aw (4≤(((4*x0)+4) - (4*x0))) (
 ∀_:Nat,aw (0≤x0) (
 aw (((x0+1)*4)≤140737488355328) (
 ∀v3:V1,aw ((-9223372036854775808)≤(x0+1)) (
 aw ((x0+1)≤9223372036854775807) (
 ∃oI:V1,∃jd:Int,∃dr:Int,∃fo:(Nat→Int),jd=(x0+1)∧dr=x1∧oI=v3∧oI=v3∧jd=(x0+1)∧(∀j,j<(ag (jd*4))→fo j=(ay A2 (ag (x0*4)) 4 (aI A0 (ag (4*x0)))) j)∧cc ⟨[],[oI],[jd,dr],[fo],[],[],[]⟩∧cu ⟨[],[oI],[jd,dr],[fo],[],[],[]⟩<cu ⟨[],[v2],[x0,x1],[A2],[],[],[]⟩))))))))))))) (
 aw ((-9223372036854775808)≤(x0 - 1)) (
 aw ((x0 - 1)≤9223372036854775807) (
 aw (0≤(x0 - 1)) (
 aw ((x0 - 1)<x0) (
 ∀_:Nat,aJ ((ak .rem .i64 x0 4)=0) (
 ∀_:Nat,∀_:Nat,aw (0≤((aI A2 (ag ((x0 - 1)*4))) 1)) (
 aw (((aI A2 (ag ((x0 - 1)*4))) 1)<256) (
 aw (0≤((aI A2 (ag ((x0 - 1)*4))) 2)) (
 aw (((aI A2 (ag ((x0 - 1)*4))) 2)<256) (
 aw (0≤((aI A2 (ag ((x0 - 1)*4))) 3)) (
 aw (((aI A2 (ag ((x0 - 1)*4))) 3)<256) (
 aw (0≤((aI A2 (ag ((x0 - 1)*4))) 0)) (
 aw (((aI A2 (ag ((x0 - 1)*4))) 0)<256) (
 aw ((-9223372036854775808)≤(x0 - 4)) (
 aw ((x0 - 4)≤9223372036854775807) (
 aw (0≤(x0 - 4)) (
 aw ((x0 - 4)<x0) (
 ∀_:Nat,∀_:Nat,∀_:Nat,∀_:Nat,aw (0≤x0) (
 aw (((x0+1)*4)≤140737488355328) (
 ∀v3:V1,aw ((-9223372036854775808)≤(x0+1)) (
 aw ((x0+1)≤9223372036854775807) (
 ∃oI:V1,∃jd:Int,∃dr:Int,∃fo:(Nat→Int),jd=(x0+1)∧dr=(ak .aB .u8 (ak .shl .u8 x1 1) (ae .u8 ((ak .shr .u8 x1 7)*27)))∧oI=v3∧oI=v3∧jd=(x0+1)∧(∀j,j<(ag (jd*4))→fo j=(ay A2 (ag (x0*4)) 4 (au (au (au (au (fun _=>0) 0 (ak .aB .u8 (ak .aB .u8 (A1 (ag ((aI A2 (ag ((x0 - 1)*4))) 1))) x1) ((aI A2 (ag ((x0 - 4)*4))) 0))) 1 (ak .aB .u8 (A1 (ag ((aI A2 (ag ((x0 - 1)*4))) 2))) ((aI A2 (ag ((x0 - 4)*4))) 1))) 2 (ak .aB .u8 (A1 (ag ((aI A2 (ag ((x0 - 1)*4))) 3))) ((aI A2 (ag ((x0 - 4)*4))) 2))) 3 (ak .aB .u8 (A1 (ag ((aI A2 (ag ((x0 - 1)*4))) 0))) ((aI A2 (ag ((x0 - 4)*4))) 3)))) j)∧cc ⟨[],[oI],[jd,dr],[fo],[],[],[]⟩∧cu ⟨[],[oI],[jd,dr],[fo],[],[],[]⟩<cu ⟨[],[v2],[x0,x1],[A2],[],[],[]⟩))))))))))))))))) (
 aw ((-9223372036854775808)≤(x0 - 4)) (
 aw ((x0 - 4)≤9223372036854775807) (
 aw (0≤(x0 - 4)) (
 aw ((x0 - 4)<x0) (
 ∀_:Nat,∀_:Nat,∀_:Nat,∀_:Nat,aw (0≤x0) (
 aw (((x0+1)*4)≤140737488355328) (
 ∀v3:V1,aw ((-9223372036854775808)≤(x0+1)) (
 aw ((x0+1)≤9223372036854775807) (
 ∃oI:V1,∃jd:Int,∃dr:Int,∃fo:(Nat→Int),jd=(x0+1)∧dr=x1∧oI=v3∧oI=v3∧jd=(x0+1)∧(∀j,j<(ag (jd*4))→fo j=(ay A2 (ag (x0*4)) 4 (au (au (au (au (fun _=>0) 0 (ak .aB .u8 ((aI A2 (ag ((x0 - 1)*4))) 0) ((aI A2 (ag ((x0 - 4)*4))) 0))) 1 (ak .aB .u8 ((aI A2 (ag ((x0 - 1)*4))) 1) ((aI A2 (ag ((x0 - 4)*4))) 1))) 2 (ak .aB .u8 ((aI A2 (ag ((x0 - 1)*4))) 2) ((aI A2 (ag ((x0 - 4)*4))) 2))) 3 (ak .aB .u8 ((aI A2 (ag ((x0 - 1)*4))) 3) ((aI A2 (ag ((x0 - 4)*4))) 3)))) j)∧cc ⟨[],[oI],[jd,dr],[fo],[],[],[]⟩∧cu ⟨[],[oI],[jd,dr],[fo],[],[],[]⟩<cu ⟨[],[v2],[x0,x1],[A2],[],[],[]⟩))))))))))))))) (
 ao (.tuple #[.pointer (some ⟨b0,0,none⟩),.int .i64 0]) [aG false 5 1 v0.v 16 (aW 16 [bd .u8 1 A0]),al b0 true (aiL (aj .u8 256 A1) ([v2.v])),aG true 177 4 v2.v (ag x0) (aW (ag x0) [bd .u8 4 A2])])
theorem Og(P:Program)(ao:Value→List HP→Prop)(A0:Nat→Int)(v0:V1)(L:Nat→LC):VC P (fun v hs=>ao v (hs.take 3)) EI {iv:=[],av:=[A0],bo:=[],bv:=[],vv:=[v0]} L=EJ P ao A0 v0:=by kernel_rfl
theorem Li:ig cx 60 ([SV.vv 0]) ([Ck.bK false 0 5 1 (E.lit 16) [{ck:=CK.int (ai9),w:=1,a:=E.aN 0}]]) ({b:=0,v:=1,i:=0,a:=1,bo:=0,p:=0,r:=0}) Tryz.f60=EI:=rfl
noncomputable def EK:F:=ig cx 60 ([SV.vv 0]) ([Ck.bK false 0 5 1 (E.lit 32) [{ck:=CK.int (ai9),w:=1,a:=E.aN 0}]]) ({b:=0,v:=1,i:=0,a:=1,bo:=0,p:=0,r:=0}) Tryz.f60
def EL(P:Program)(ao:Value→List HP→Prop)(A0:Nat→Int)(v0:V1):Prop:=
 ∃post,ax P 90 [] [] post∧
 ∀x hs,post x hs→∃A1:(Nat→Int),x= .agg (aiL (aj .u8 256 A1) ([])).toArray∧hs=[]∧
 ∀b0:Nat,∃(cc:Ext→Prop) (cu:Ext→Nat),(∃v2:V1,∃x0:Int,∃x1:Int,∃A2:(Nat→Int),x0=0∧x1=1∧v2=(⟨.slice none 0 0,rfl⟩:V1)∧v2=(⟨.slice none 0 0,rfl⟩:V1)∧x0=0∧(∀j,j<(ag (x0*4))→A2 j=(fun _=>0) j)∧cc ⟨[],[v2],[x0,x1],[A2],[],[],[]⟩)∧
 ∀v2:V1,∀x0:Int,∀x1:Int,∀A2:(Nat→Int),cc ⟨[],[v2],[x0,x1],[A2],[],[],[]⟩→
 aJ (x0<60) (
 aJ (x0<8) (
 aw ((-9223372036854775808)≤(4*x0)) (
 aw ((4*x0)≤9223372036854775807) (
 aw ((-9223372036854775808)≤((4*x0)+4)) (
 aw (((4*x0)+4)≤9223372036854775807) (
 aw (0≤(4*x0)) (
 aw ((4*x0)≤((4*x0)+4)) (
 aw (((4*x0)+4)≤32) (
 aw (4≤(((4*x0)+4) - (4*x0))) (
 ∀_:Nat,aw (0≤x0) (
 aw (((x0+1)*4)≤140737488355328) (
 ∀v3:V1,aw ((-9223372036854775808)≤(x0+1)) (
 aw ((x0+1)≤9223372036854775807) (
 ∃oI:V1,∃jd:Int,∃dr:Int,∃fo:(Nat→Int),jd=(x0+1)∧dr=x1∧oI=v3∧oI=v3∧jd=(x0+1)∧(∀j,j<(ag (jd*4))→fo j=(ay A2 (ag (x0*4)) 4 (aI A0 (ag (4*x0)))) j)∧cc ⟨[],[oI],[jd,dr],[fo],[],[],[]⟩∧cu ⟨[],[oI],[jd,dr],[fo],[],[],[]⟩<cu ⟨[],[v2],[x0,x1],[A2],[],[],[]⟩))))))))))))) (
 aw ((-9223372036854775808)≤(x0 - 1)) (
 aw ((x0 - 1)≤9223372036854775807) (
 aw (0≤(x0 - 1)) (
 aw ((x0 - 1)<x0) (
 ∀_:Nat,aJ ((ak .rem .i64 x0 8)=0) (
 ∀_:Nat,∀_:Nat,aw (0≤((aI A2 (ag ((x0 - 1)*4))) 1)) (
 aw (((aI A2 (ag ((x0 - 1)*4))) 1)<256) (
 aw (0≤((aI A2 (ag ((x0 - 1)*4))) 2)) (
 aw (((aI A2 (ag ((x0 - 1)*4))) 2)<256) (
 aw (0≤((aI A2 (ag ((x0 - 1)*4))) 3)) (
 aw (((aI A2 (ag ((x0 - 1)*4))) 3)<256) (
 aw (0≤((aI A2 (ag ((x0 - 1)*4))) 0)) (
 aw (((aI A2 (ag ((x0 - 1)*4))) 0)<256) (
 aw ((-9223372036854775808)≤(x0 - 8)) (
 aw ((x0 - 8)≤9223372036854775807) (
 aw (0≤(x0 - 8)) (
 aw ((x0 - 8)<x0) (
 ∀_:Nat,∀_:Nat,∀_:Nat,∀_:Nat,aw (0≤x0) (
 aw (((x0+1)*4)≤140737488355328) (
 ∀v3:V1,aw ((-9223372036854775808)≤(x0+1)) (
 aw ((x0+1)≤9223372036854775807) (
 ∃oI:V1,∃jd:Int,∃dr:Int,∃fo:(Nat→Int),jd=(x0+1)∧dr=(ak .aB .u8 (ak .shl .u8 x1 1) (ae .u8 ((ak .shr .u8 x1 7)*27)))∧oI=v3∧oI=v3∧jd=(x0+1)∧(∀j,j<(ag (jd*4))→fo j=(ay A2 (ag (x0*4)) 4 (au (au (au (au (fun _=>0) 0 (ak .aB .u8 (ak .aB .u8 (A1 (ag ((aI A2 (ag ((x0 - 1)*4))) 1))) x1) ((aI A2 (ag ((x0 - 8)*4))) 0))) 1 (ak .aB .u8 (A1 (ag ((aI A2 (ag ((x0 - 1)*4))) 2))) ((aI A2 (ag ((x0 - 8)*4))) 1))) 2 (ak .aB .u8 (A1 (ag ((aI A2 (ag ((x0 - 1)*4))) 3))) ((aI A2 (ag ((x0 - 8)*4))) 2))) 3 (ak .aB .u8 (A1 (ag ((aI A2 (ag ((x0 - 1)*4))) 0))) ((aI A2 (ag ((x0 - 8)*4))) 3)))) j)∧cc ⟨[],[oI],[jd,dr],[fo],[],[],[]⟩∧cu ⟨[],[oI],[jd,dr],[fo],[],[],[]⟩<cu ⟨[],[v2],[x0,x1],[A2],[],[],[]⟩))))))))))))))))) (
 aJ ((ak .rem .i64 x0 8)=4) (
 ∀_:Nat,∀_:Nat,aw (0≤((aI A2 (ag ((x0 - 1)*4))) 0)) (
 aw (((aI A2 (ag ((x0 - 1)*4))) 0)<256) (
 aw (0≤((aI A2 (ag ((x0 - 1)*4))) 1)) (
 aw (((aI A2 (ag ((x0 - 1)*4))) 1)<256) (
 aw (0≤((aI A2 (ag ((x0 - 1)*4))) 2)) (
 aw (((aI A2 (ag ((x0 - 1)*4))) 2)<256) (
 aw (0≤((aI A2 (ag ((x0 - 1)*4))) 3)) (
 aw (((aI A2 (ag ((x0 - 1)*4))) 3)<256) (
 aw ((-9223372036854775808)≤(x0 - 8)) (
 aw ((x0 - 8)≤9223372036854775807) (
 aw (0≤(x0 - 8)) (
 aw ((x0 - 8)<x0) (
 ∀_:Nat,∀_:Nat,∀_:Nat,∀_:Nat,aw (0≤x0) (
 aw (((x0+1)*4)≤140737488355328) (
 ∀v3:V1,aw ((-9223372036854775808)≤(x0+1)) (
 aw ((x0+1)≤9223372036854775807) (
 ∃oI:V1,∃jd:Int,∃dr:Int,∃fo:(Nat→Int),jd=(x0+1)∧dr=x1∧oI=v3∧oI=v3∧jd=(x0+1)∧(∀j,j<(ag (jd*4))→fo j=(ay A2 (ag (x0*4)) 4 (au (au (au (au (fun _=>0) 0 (ak .aB .u8 (A1 (ag ((aI A2 (ag ((x0 - 1)*4))) 0))) ((aI A2 (ag ((x0 - 8)*4))) 0))) 1 (ak .aB .u8 (A1 (ag ((aI A2 (ag ((x0 - 1)*4))) 1))) ((aI A2 (ag ((x0 - 8)*4))) 1))) 2 (ak .aB .u8 (A1 (ag ((aI A2 (ag ((x0 - 1)*4))) 2))) ((aI A2 (ag ((x0 - 8)*4))) 2))) 3 (ak .aB .u8 (A1 (ag ((aI A2 (ag ((x0 - 1)*4))) 3))) ((aI A2 (ag ((x0 - 8)*4))) 3)))) j)∧cc ⟨[],[oI],[jd,dr],[fo],[],[],[]⟩∧cu ⟨[],[oI],[jd,dr],[fo],[],[],[]⟩<cu ⟨[],[v2],[x0,x1],[A2],[],[],[]⟩))))))))))))))))) (
 aw ((-9223372036854775808)≤(x0 - 8)) (
 aw ((x0 - 8)≤9223372036854775807) (
 aw (0≤(x0 - 8)) (
 aw ((x0 - 8)<x0) (
 ∀_:Nat,∀_:Nat,∀_:Nat,∀_:Nat,aw (0≤x0) (
 aw (((x0+1)*4)≤140737488355328) (
 ∀v3:V1,aw ((-9223372036854775808)≤(x0+1)) (
 aw ((x0+1)≤9223372036854775807) (
 ∃oI:V1,∃jd:Int,∃dr:Int,∃fo:(Nat→Int),jd=(x0+1)∧dr=x1∧oI=v3∧oI=v3∧jd=(x0+1)∧(∀j,j<(ag (jd*4))→fo j=(ay A2 (ag (x0*4)) 4 (au (au (au (au (fun _=>0) 0 (ak .aB .u8 ((aI A2 (ag ((x0 - 1)*4))) 0) ((aI A2 (ag ((x0 - 8)*4))) 0))) 1 (ak .aB .u8 ((aI A2 (ag ((x0 - 1)*4))) 1) ((aI A2 (ag ((x0 - 8)*4))) 1))) 2 (ak .aB .u8 ((aI A2 (ag ((x0 - 1)*4))) 2) ((aI A2 (ag ((x0 - 8)*4))) 2))) 3 (ak .aB .u8 ((aI A2 (ag ((x0 - 1)*4))) 3) ((aI A2 (ag ((x0 - 8)*4))) 3)))) j)∧cc ⟨[],[oI],[jd,dr],[fo],[],[],[]⟩∧cu ⟨[],[oI],[jd,dr],[fo],[],[],[]⟩<cu ⟨[],[v2],[x0,x1],[A2],[],[],[]⟩)))))))))))))))) (
 ao (.tuple #[.pointer (some ⟨b0,0,none⟩),.int .i64 0]) [aG false 5 1 v0.v 32 (aW 32 [bd .u8 1 A0]),al b0 true (aiL (aj .u8 256 A1) ([v2.v])),aG true 177 4 v2.v (ag x0) (aW (ag x0) [bd .u8 4 A2])])
theorem Oh(P:Program)(ao:Value→List HP→Prop)(A0:Nat→Int)(v0:V1)(L:Nat→LC):VC P (fun v hs=>ao v (hs.take 3)) EK {iv:=[],av:=[A0],bo:=[],bv:=[],vv:=[v0]} L=EL P ao A0 v0:=by kernel_rfl
theorem Lj:ig cx 60 ([SV.vv 0]) ([Ck.bK false 0 5 1 (E.lit 32) [{ck:=CK.int (ai9),w:=1,a:=E.aN 0}]]) ({b:=0,v:=1,i:=0,a:=1,bo:=0,p:=0,r:=0}) Tryz.f60=EK:=rfl
noncomputable def Jq:F:=ig cx 112 ([SV.ptr 0 0,SV.agg [SV.b_ (ai9) 16 (E.aN 2)]]) ([Ck.row 0 true [SV.b_ (ai9) 256 (E.aN 0),SV.vv 0],Ck.bK true 0 177 4 (E.var 0) [{ck:=CK.int (ai9),w:=4,a:=E.aN 1}]]) ({b:=1,v:=1,i:=1,a:=3,bo:=0,p:=0,r:=0}) Tryz.f112
def Jr(_:Program)(ao:Value→List HP→Prop)(x0:Int)(A0:Nat→Int)(A1:Nat→Int)(A2:Nat→Int)(v0:V1)(b0:Nat):Prop:=
 ∀_:Nat,∀_:Nat,∀_:Nat,∀_:Nat,∀_:Nat,aw (0<x0) (
 ∀_:Nat,∀_:Nat,∀_:Nat,aw (1<x0) (
 ∀_:Nat,∀_:Nat,∀_:Nat,aw (2<x0) (
 ∀_:Nat,∀_:Nat,∀_:Nat,aw (3<x0) (
 ∀_:Nat,∀_:Nat,∀_:Nat,∀Mm:Nat,∀Dd:Nat,∃(cc:Ext→Prop) (cu:Ext→Nat),(∃zT:Nat,∃P0:Nat,∃x1:Int,∃A3:(Nat→Int),zT=Mm∧(∀j,j<16→A3 j=(au (au (au (au (au (au (au (au (au (au (au (au (au (au (au (au (fun _=>0) 0 (ak .aB .u8 (A2 0) (A1 0))) 1 (ak .aB .u8 (A2 1) (A1 1))) 2 (ak .aB .u8 (A2 2) (A1 2))) 3 (ak .aB .u8 (A2 3) (A1 3))) 4 (ak .aB .u8 (A2 4) (A1 4))) 5 (ak .aB .u8 (A2 5) (A1 5))) 6 (ak .aB .u8 (A2 6) (A1 6))) 7 (ak .aB .u8 (A2 7) (A1 7))) 8 (ak .aB .u8 (A2 8) (A1 8))) 9 (ak .aB .u8 (A2 9) (A1 9))) 10 (ak .aB .u8 (A2 10) (A1 10))) 11 (ak .aB .u8 (A2 11) (A1 11))) 12 (ak .aB .u8 (A2 12) (A1 12))) 13 (ak .aB .u8 (A2 13) (A1 13))) 14 (ak .aB .u8 (A2 14) (A1 14))) 15 (ak .aB .u8 (A2 15) (A1 15))) j)∧zT=Mm∧x1=1∧P0=Dd∧P0=Dd∧cc ⟨[zT,P0],[],[x1],[A3],[],[],[]⟩)∧
 ∀zT:Nat,∀P0:Nat,∀x1:Int,∀A3:(Nat→Int),cc ⟨[zT,P0],[],[x1],[A3],[],[],[]⟩→
 aw (0≤x0) (
 aw ((-9223372036854775808)≤((ae .i64 (ak .quo .i64 x0 4)) - 1)) (
 aw (((ae .i64 (ak .quo .i64 x0 4)) - 1)≤9223372036854775807) (
 aJ (x1≤((ae .i64 (ak .quo .i64 x0 4)) - 1)) (
 ∀_:Nat,∀_:Nat,∀_:Nat,∀(_ _:Nat) (_:Loop),∀_:Nat,∀_:Nat,∀_:Nat,aw (0≤(A3 0)) (
 aw ((A3 0)<256) (
 aw (0≤(A3 5)) (
 aw ((A3 5)<256) (
 aw (0≤(A3 10)) (
 aw ((A3 10)<256) (
 aw (0≤(A3 15)) (
 aw ((A3 15)<256) (
 ∀_:Nat,aJ (x1<((ae .i64 (ak .quo .i64 x0 4)) - 1)) (
 ∀_:Nat,∀_:Nat,∀_:Nat,aw ((-9223372036854775808)≤(4*x1)) (
 aw ((4*x1)≤9223372036854775807) (
 aw (0≤(4*x1)) (
 aw ((4*x1)<x0) (
 ∀_:Nat,∀_:Nat,∀_:Nat,∀_:Nat,∀_:Nat,∀_:Nat,aw (0≤(A3 4)) (
 aw ((A3 4)<256) (
 aw (0≤(A3 9)) (
 aw ((A3 9)<256) (
 aw (0≤(A3 14)) (
 aw ((A3 14)<256) (
 aw (0≤(A3 3)) (
 aw ((A3 3)<256) (
 ∀_:Nat,∀_:Nat,∀_:Nat,∀_:Nat,aw ((-9223372036854775808)≤((4*x1)+1)) (
 aw (((4*x1)+1)≤9223372036854775807) (
 aw (0≤((4*x1)+1)) (
 aw (((4*x1)+1)<x0) (
 ∀_:Nat,∀_:Nat,∀_:Nat,∀_:Nat,∀_:Nat,∀_:Nat,aw (0≤(A3 8)) (
 aw ((A3 8)<256) (
 aw (0≤(A3 13)) (
 aw ((A3 13)<256) (
 aw (0≤(A3 2)) (
 aw ((A3 2)<256) (
 aw (0≤(A3 7)) (
 aw ((A3 7)<256) (
 ∀_:Nat,∀_:Nat,∀_:Nat,∀_:Nat,aw ((-9223372036854775808)≤((4*x1)+2)) (
 aw (((4*x1)+2)≤9223372036854775807) (
 aw (0≤((4*x1)+2)) (
 aw (((4*x1)+2)<x0) (
 ∀_:Nat,∀_:Nat,∀_:Nat,∀_:Nat,∀_:Nat,∀_:Nat,aw (0≤(A3 12)) (
 aw ((A3 12)<256) (
 aw (0≤(A3 1)) (
 aw ((A3 1)<256) (
 aw (0≤(A3 6)) (
 aw ((A3 6)<256) (
 aw (0≤(A3 11)) (
 aw ((A3 11)<256) (
 ∀_:Nat,∀_:Nat,∀_:Nat,∀_:Nat,aw ((-9223372036854775808)≤((4*x1)+3)) (
 aw (((4*x1)+3)≤9223372036854775807) (
 aw (0≤((4*x1)+3)) (
 aw (((4*x1)+3)<x0) (
 ∀_:Nat,∀_:Nat,∀_:Nat,∀ZX:Nat,aw ((-9223372036854775808)≤(x1+1)) (
 aw ((x1+1)≤9223372036854775807) (
 ∀ZY:Nat,∃Cz:Nat,∃CA:Nat,∃dr:Int,∃jf:(Nat→Int),Cz=ZX∧(∀j,j<16→jf j=(au (au (au (au (au (au (au (au (au (au (au (au (au (au (au (au (fun _=>0) 0 (ak .aB .u8 (ak .aB .u8 (ak .aB .u8 (A0 (ag (A3 0))) (ak .aB .u8 (ak .aB .u8 (ak .aB .u8 (A0 (ag (A3 0))) (A0 (ag (A3 5)))) (A0 (ag (A3 10)))) (A0 (ag (A3 15))))) (ak .aB .u8 (ak .shl .u8 (ak .aB .u8 (A0 (ag (A3 0))) (A0 (ag (A3 5)))) 1) (ae .u8 ((ak .shr .u8 (ak .aB .u8 (A0 (ag (A3 0))) (A0 (ag (A3 5)))) 7)*27)))) ((aI A1 (ag ((4*x1)*4))) 0))) 1 (ak .aB .u8 (ak .aB .u8 (ak .aB .u8 (A0 (ag (A3 5))) (ak .aB .u8 (ak .aB .u8 (ak .aB .u8 (A0 (ag (A3 0))) (A0 (ag (A3 5)))) (A0 (ag (A3 10)))) (A0 (ag (A3 15))))) (ak .aB .u8 (ak .shl .u8 (ak .aB .u8 (A0 (ag (A3 5))) (A0 (ag (A3 10)))) 1) (ae .u8 ((ak .shr .u8 (ak .aB .u8 (A0 (ag (A3 5))) (A0 (ag (A3 10)))) 7)*27)))) ((aI A1 (ag ((4*x1)*4))) 1))) 2 (ak .aB .u8 (ak .aB .u8 (ak .aB .u8 (A0 (ag (A3 10))) (ak .aB .u8 (ak .aB .u8 (ak .aB .u8 (A0 (ag (A3 0))) (A0 (ag (A3 5)))) (A0 (ag (A3 10)))) (A0 (ag (A3 15))))) (ak .aB .u8 (ak .shl .u8 (ak .aB .u8 (A0 (ag (A3 10))) (A0 (ag (A3 15)))) 1) (ae .u8 ((ak .shr .u8 (ak .aB .u8 (A0 (ag (A3 10))) (A0 (ag (A3 15)))) 7)*27)))) ((aI A1 (ag ((4*x1)*4))) 2))) 3 (ak .aB .u8 (ak .aB .u8 (ak .aB .u8 (A0 (ag (A3 15))) (ak .aB .u8 (ak .aB .u8 (ak .aB .u8 (A0 (ag (A3 0))) (A0 (ag (A3 5)))) (A0 (ag (A3 10)))) (A0 (ag (A3 15))))) (ak .aB .u8 (ak .shl .u8 (ak .aB .u8 (A0 (ag (A3 15))) (A0 (ag (A3 0)))) 1) (ae .u8 ((ak .shr .u8 (ak .aB .u8 (A0 (ag (A3 15))) (A0 (ag (A3 0)))) 7)*27)))) ((aI A1 (ag ((4*x1)*4))) 3))) 4 (ak .aB .u8 (ak .aB .u8 (ak .aB .u8 (A0 (ag (A3 4))) (ak .aB .u8 (ak .aB .u8 (ak .aB .u8 (A0 (ag (A3 4))) (A0 (ag (A3 9)))) (A0 (ag (A3 14)))) (A0 (ag (A3 3))))) (ak .aB .u8 (ak .shl .u8 (ak .aB .u8 (A0 (ag (A3 4))) (A0 (ag (A3 9)))) 1) (ae .u8 ((ak .shr .u8 (ak .aB .u8 (A0 (ag (A3 4))) (A0 (ag (A3 9)))) 7)*27)))) ((aI A1 (ag (((4*x1)+1)*4))) 0))) 5 (ak .aB .u8 (ak .aB .u8 (ak .aB .u8 (A0 (ag (A3 9))) (ak .aB .u8 (ak .aB .u8 (ak .aB .u8 (A0 (ag (A3 4))) (A0 (ag (A3 9)))) (A0 (ag (A3 14)))) (A0 (ag (A3 3))))) (ak .aB .u8 (ak .shl .u8 (ak .aB .u8 (A0 (ag (A3 9))) (A0 (ag (A3 14)))) 1) (ae .u8 ((ak .shr .u8 (ak .aB .u8 (A0 (ag (A3 9))) (A0 (ag (A3 14)))) 7)*27)))) ((aI A1 (ag (((4*x1)+1)*4))) 1))) 6 (ak .aB .u8 (ak .aB .u8 (ak .aB .u8 (A0 (ag (A3 14))) (ak .aB .u8 (ak .aB .u8 (ak .aB .u8 (A0 (ag (A3 4))) (A0 (ag (A3 9)))) (A0 (ag (A3 14)))) (A0 (ag (A3 3))))) (ak .aB .u8 (ak .shl .u8 (ak .aB .u8 (A0 (ag (A3 14))) (A0 (ag (A3 3)))) 1) (ae .u8 ((ak .shr .u8 (ak .aB .u8 (A0 (ag (A3 14))) (A0 (ag (A3 3)))) 7)*27)))) ((aI A1 (ag (((4*x1)+1)*4))) 2))) 7 (ak .aB .u8 (ak .aB .u8 (ak .aB .u8 (A0 (ag (A3 3))) (ak .aB .u8 (ak .aB .u8 (ak .aB .u8 (A0 (ag (A3 4))) (A0 (ag (A3 9)))) (A0 (ag (A3 14)))) (A0 (ag (A3 3))))) (ak .aB .u8 (ak .shl .u8 (ak .aB .u8 (A0 (ag (A3 3))) (A0 (ag (A3 4)))) 1) (ae .u8 ((ak .shr .u8 (ak .aB .u8 (A0 (ag (A3 3))) (A0 (ag (A3 4)))) 7)*27)))) ((aI A1 (ag (((4*x1)+1)*4))) 3))) 8 (ak .aB .u8 (ak .aB .u8 (ak .aB .u8 (A0 (ag (A3 8))) (ak .aB .u8 (ak .aB .u8 (ak .aB .u8 (A0 (ag (A3 8))) (A0 (ag (A3 13)))) (A0 (ag (A3 2)))) (A0 (ag (A3 7))))) (ak .aB .u8 (ak .shl .u8 (ak .aB .u8 (A0 (ag (A3 8))) (A0 (ag (A3 13)))) 1) (ae .u8 ((ak .shr .u8 (ak .aB .u8 (A0 (ag (A3 8))) (A0 (ag (A3 13)))) 7)*27)))) ((aI A1 (ag (((4*x1)+2)*4))) 0))) 9 (ak .aB .u8 (ak .aB .u8 (ak .aB .u8 (A0 (ag (A3 13))) (ak .aB .u8 (ak .aB .u8 (ak .aB .u8 (A0 (ag (A3 8))) (A0 (ag (A3 13)))) (A0 (ag (A3 2)))) (A0 (ag (A3 7))))) (ak .aB .u8 (ak .shl .u8 (ak .aB .u8 (A0 (ag (A3 13))) (A0 (ag (A3 2)))) 1) (ae .u8 ((ak .shr .u8 (ak .aB .u8 (A0 (ag (A3 13))) (A0 (ag (A3 2)))) 7)*27)))) ((aI A1 (ag (((4*x1)+2)*4))) 1))) 10 (ak .aB .u8 (ak .aB .u8 (ak .aB .u8 (A0 (ag (A3 2))) (ak .aB .u8 (ak .aB .u8 (ak .aB .u8 (A0 (ag (A3 8))) (A0 (ag (A3 13)))) (A0 (ag (A3 2)))) (A0 (ag (A3 7))))) (ak .aB .u8 (ak .shl .u8 (ak .aB .u8 (A0 (ag (A3 2))) (A0 (ag (A3 7)))) 1) (ae .u8 ((ak .shr .u8 (ak .aB .u8 (A0 (ag (A3 2))) (A0 (ag (A3 7)))) 7)*27)))) ((aI A1 (ag (((4*x1)+2)*4))) 2))) 11 (ak .aB .u8 (ak .aB .u8 (ak .aB .u8 (A0 (ag (A3 7))) (ak .aB .u8 (ak .aB .u8 (ak .aB .u8 (A0 (ag (A3 8))) (A0 (ag (A3 13)))) (A0 (ag (A3 2)))) (A0 (ag (A3 7))))) (ak .aB .u8 (ak .shl .u8 (ak .aB .u8 (A0 (ag (A3 7))) (A0 (ag (A3 8)))) 1) (ae .u8 ((ak .shr .u8 (ak .aB .u8 (A0 (ag (A3 7))) (A0 (ag (A3 8)))) 7)*27)))) ((aI A1 (ag (((4*x1)+2)*4))) 3))) 12 (ak .aB .u8 (ak .aB .u8 (ak .aB .u8 (A0 (ag (A3 12))) (ak .aB .u8 (ak .aB .u8 (ak .aB .u8 (A0 (ag (A3 12))) (A0 (ag (A3 1)))) (A0 (ag (A3 6)))) (A0 (ag (A3 11))))) (ak .aB .u8 (ak .shl .u8 (ak .aB .u8 (A0 (ag (A3 12))) (A0 (ag (A3 1)))) 1) (ae .u8 ((ak .shr .u8 (ak .aB .u8 (A0 (ag (A3 12))) (A0 (ag (A3 1)))) 7)*27)))) ((aI A1 (ag (((4*x1)+3)*4))) 0))) 13 (ak .aB .u8 (ak .aB .u8 (ak .aB .u8 (A0 (ag (A3 1))) (ak .aB .u8 (ak .aB .u8 (ak .aB .u8 (A0 (ag (A3 12))) (A0 (ag (A3 1)))) (A0 (ag (A3 6)))) (A0 (ag (A3 11))))) (ak .aB .u8 (ak .shl .u8 (ak .aB .u8 (A0 (ag (A3 1))) (A0 (ag (A3 6)))) 1) (ae .u8 ((ak .shr .u8 (ak .aB .u8 (A0 (ag (A3 1))) (A0 (ag (A3 6)))) 7)*27)))) ((aI A1 (ag (((4*x1)+3)*4))) 1))) 14 (ak .aB .u8 (ak .aB .u8 (ak .aB .u8 (A0 (ag (A3 6))) (ak .aB .u8 (ak .aB .u8 (ak .aB .u8 (A0 (ag (A3 12))) (A0 (ag (A3 1)))) (A0 (ag (A3 6)))) (A0 (ag (A3 11))))) (ak .aB .u8 (ak .shl .u8 (ak .aB .u8 (A0 (ag (A3 6))) (A0 (ag (A3 11)))) 1) (ae .u8 ((ak .shr .u8 (ak .aB .u8 (A0 (ag (A3 6))) (A0 (ag (A3 11)))) 7)*27)))) ((aI A1 (ag (((4*x1)+3)*4))) 2))) 15 (ak .aB .u8 (ak .aB .u8 (ak .aB .u8 (A0 (ag (A3 11))) (ak .aB .u8 (ak .aB .u8 (ak .aB .u8 (A0 (ag (A3 12))) (A0 (ag (A3 1)))) (A0 (ag (A3 6)))) (A0 (ag (A3 11))))) (ak .aB .u8 (ak .shl .u8 (ak .aB .u8 (A0 (ag (A3 11))) (A0 (ag (A3 12)))) 1) (ae .u8 ((ak .shr .u8 (ak .aB .u8 (A0 (ag (A3 11))) (A0 (ag (A3 12)))) 7)*27)))) ((aI A1 (ag (((4*x1)+3)*4))) 3))) j)∧Cz=ZX∧dr=(x1+1)∧CA=ZY∧CA=ZY∧cc ⟨[Cz,CA],[],[dr],[jf],[],[],[]⟩∧cu ⟨[Cz,CA],[],[dr],[jf],[],[],[]⟩<cu ⟨[zT,P0],[],[x1],[A3],[],[],[]⟩))))))))))))))))))))))))))))))))))))))))))) (
 aw ((-9223372036854775808)≤(4*x1)) (
 aw ((4*x1)≤9223372036854775807) (
 aw (0≤(4*x1)) (
 aw ((4*x1)<x0) (
 ∀_:Nat,∀_:Nat,∀_:Nat,∀_:Nat,∀_:Nat,∀_:Nat,aw (0≤(A3 4)) (
 aw ((A3 4)<256) (
 aw (0≤(A3 9)) (
 aw ((A3 9)<256) (
 aw (0≤(A3 14)) (
 aw ((A3 14)<256) (
 aw (0≤(A3 3)) (
 aw ((A3 3)<256) (
 ∀_:Nat,aw ((-9223372036854775808)≤((4*x1)+1)) (
 aw (((4*x1)+1)≤9223372036854775807) (
 aw (0≤((4*x1)+1)) (
 aw (((4*x1)+1)<x0) (
 ∀_:Nat,∀_:Nat,∀_:Nat,∀_:Nat,∀_:Nat,∀_:Nat,aw (0≤(A3 8)) (
 aw ((A3 8)<256) (
 aw (0≤(A3 13)) (
 aw ((A3 13)<256) (
 aw (0≤(A3 2)) (
 aw ((A3 2)<256) (
 aw (0≤(A3 7)) (
 aw ((A3 7)<256) (
 ∀_:Nat,aw ((-9223372036854775808)≤((4*x1)+2)) (
 aw (((4*x1)+2)≤9223372036854775807) (
 aw (0≤((4*x1)+2)) (
 aw (((4*x1)+2)<x0) (
 ∀_:Nat,∀_:Nat,∀_:Nat,∀_:Nat,∀_:Nat,∀_:Nat,aw (0≤(A3 12)) (
 aw ((A3 12)<256) (
 aw (0≤(A3 1)) (
 aw ((A3 1)<256) (
 aw (0≤(A3 6)) (
 aw ((A3 6)<256) (
 aw (0≤(A3 11)) (
 aw ((A3 11)<256) (
 ∀_:Nat,aw ((-9223372036854775808)≤((4*x1)+3)) (
 aw (((4*x1)+3)≤9223372036854775807) (
 aw (0≤((4*x1)+3)) (
 aw (((4*x1)+3)<x0) (
 ∀_:Nat,∀_:Nat,∀_:Nat,∀W4:Nat,aw ((-9223372036854775808)≤(x1+1)) (
 aw ((x1+1)≤9223372036854775807) (
 ∀W5:Nat,∃Cz:Nat,∃CA:Nat,∃dr:Int,∃jf:(Nat→Int),Cz=W4∧(∀j,j<16→jf j=(au (au (au (au (au (au (au (au (au (au (au (au (au (au (au (au (fun _=>0) 0 (ak .aB .u8 (A0 (ag (A3 0))) ((aI A1 (ag ((4*x1)*4))) 0))) 1 (ak .aB .u8 (A0 (ag (A3 5))) ((aI A1 (ag ((4*x1)*4))) 1))) 2 (ak .aB .u8 (A0 (ag (A3 10))) ((aI A1 (ag ((4*x1)*4))) 2))) 3 (ak .aB .u8 (A0 (ag (A3 15))) ((aI A1 (ag ((4*x1)*4))) 3))) 4 (ak .aB .u8 (A0 (ag (A3 4))) ((aI A1 (ag (((4*x1)+1)*4))) 0))) 5 (ak .aB .u8 (A0 (ag (A3 9))) ((aI A1 (ag (((4*x1)+1)*4))) 1))) 6 (ak .aB .u8 (A0 (ag (A3 14))) ((aI A1 (ag (((4*x1)+1)*4))) 2))) 7 (ak .aB .u8 (A0 (ag (A3 3))) ((aI A1 (ag (((4*x1)+1)*4))) 3))) 8 (ak .aB .u8 (A0 (ag (A3 8))) ((aI A1 (ag (((4*x1)+2)*4))) 0))) 9 (ak .aB .u8 (A0 (ag (A3 13))) ((aI A1 (ag (((4*x1)+2)*4))) 1))) 10 (ak .aB .u8 (A0 (ag (A3 2))) ((aI A1 (ag (((4*x1)+2)*4))) 2))) 11 (ak .aB .u8 (A0 (ag (A3 7))) ((aI A1 (ag (((4*x1)+2)*4))) 3))) 12 (ak .aB .u8 (A0 (ag (A3 12))) ((aI A1 (ag (((4*x1)+3)*4))) 0))) 13 (ak .aB .u8 (A0 (ag (A3 1))) ((aI A1 (ag (((4*x1)+3)*4))) 1))) 14 (ak .aB .u8 (A0 (ag (A3 6))) ((aI A1 (ag (((4*x1)+3)*4))) 2))) 15 (ak .aB .u8 (A0 (ag (A3 11))) ((aI A1 (ag (((4*x1)+3)*4))) 3))) j)∧Cz=W4∧dr=(x1+1)∧CA=W5∧CA=W5∧cc ⟨[Cz,CA],[],[dr],[jf],[],[],[]⟩∧cu ⟨[Cz,CA],[],[dr],[jf],[],[],[]⟩<cu ⟨[zT,P0],[],[x1],[A3],[],[],[]⟩)))))))))))))))))))))))))))))))))))))))))))))))))))) (
 ∀_:Nat,∀_:Nat,∀_:Nat,∀_:Nat,ao (.agg (aiL (aj .u8 16 (ay (ay (ay (ay (fun _=>0) 0 4 A3) 4 4 (aI A3 4)) 8 4 (aI A3 8)) 12 4 (aI A3 12))) ([])).toArray) [al b0 true (aiL (aj .u8 256 A0) ([v0.v])),aG true 177 4 v0.v (ag x0) (aW (ag x0) [bd .u8 4 A1])]))))))))
theorem Rr(P:Program)(ao:Value→List HP→Prop)(x0:Int)(A0:Nat→Int)(A1:Nat→Int)(A2:Nat→Int)(v0:V1)(b0:Nat)(L:Nat→LC):VC P (fun v hs=>ao v (hs.take 2)) Jq {iv:=[x0],av:=[A0,A1,A2],bo:=[],bv:=[b0],vv:=[v0]} L=Jr P ao x0 A0 A1 A2 v0 b0:=by kernel_rfl
theorem Oi:ig cx 112 ([SV.ptr 0 0,SV.agg [SV.b_ (ai9) 16 (E.aN 2)]]) ([Ck.row 0 true [SV.b_ (ai9) 256 (E.aN 0),SV.vv 0],Ck.bK true 0 177 4 (E.var 0) [{ck:=CK.int (ai9),w:=4,a:=E.aN 1}]]) ({b:=1,v:=1,i:=1,a:=3,bo:=0,p:=0,r:=0}) Tryz.f112=Jq:=rfl
end Go.RX.Fe

namespace Go.Ae
def upT:Nat:=247704880781559356684414323119999879637317647180040216102211349143305888774923398537951341803642731683984666991564019150676315804531779449815159115664189418245566988781254625896260912026622159780553349108386186142268315007856282091988200171439146255715840100601167723801170608095743514940052926055042184507632911811387723359914440662207451538163404716729158929845121383729837235901114109841630616474463024741216292666125260571984924724184385554713500007113061044175325657975136216706165622836048350080632971744177780693200859426168487707538171671676645432511882666690861394815764438377708986394032816479809277592321
def Yp:Nat:=127727404692115426734198332805968219844573505114629208686901216293690186132462130931675081705992402874744649337146722143913163583643487276303943818893807190013751092806990287370556889600057311714676499800760749547103353651662433367294783190206880884813569237221343399581497263169989195187996008530110587099785212876728548450345268301970899227233349908984604527389233338265073456776979288885037749793268642272576260293033947624555608176220260351415492203342228236466557716880135026471476615524857486394512952861707819425159769229481997196826278555408639803976402068508913166242851432043694978610662015700264484533761
def ab1:Nat:=939374623831894136699086600277250597547650664638770418422125146541797353646788332867483593573384618611044815625336497665827114626705134492515730415652478061620339993830966980270842846318821775850471098591710629241171812800746666233448222972174585295916389942636813666312872914849454985560152530477328703759683306625234997237483834721220409437442253146756845415190424543171129629468776480674528486868811725071010351012234056630775688111116293610821126543142160426617079940511630006820862697466582575257349116925728488930366609138264019883664906661504235885380294353134295748489096855100647154935187045898006656778240
def ab2:Nat:=3566776863222250792575350504665046155069508327501453217101429430621730038043584053371660509702620055860081156466022285956586373576971909210171343659649552507176508005971567067637526818336653057460235767741581454534757369738530565771380035673162616129401273381134793422969875859516904113580246491480877823305346558232134899738800022074717406919707935282309554844169982325935665249148669134080917255765422589041374844979786301241750162074905253618853420688398165348773793897399659421930346683507413494886767272566548764049417490863269423193139537759588741825434151586758978267398985919305201935175793127681620251050240
def sT:Nat:=2869618975290639062594974519597816386035077209210385677284518162336985023502962151465775969507961862820568736543004676439868535775640188584098917533413284844376797297285941524888791401501466624530423689326528054213168201056672989590893583853414110162539122864583953358348775951166211353578440977400428507475679327181038682772945817200201960445064847785221508011893952350688324234443749897213621340677040612747745615276448919507935121141307752692835344166708617454322778699219895865633266409040561742768581056182730443599545881830075941537620590442514083341749674612746994879540562701631131184186066652929592955206755
def up(i:Nat):Nat:=upT/256^i%256
def down(i:Nat):Nat:=Yp/256^i%256
def lg(j:Nat):Nat:=ab1/256^j%256
def inv(j:Nat):Nat:=ab2/256^j%256
def sb(j:Nat):Nat:=sT/256^j%256
def y9(a:Nat):Nat:=(2*a%256)^^^(27*(a/128))
def tm:Nat→Nat→Nat→Nat
 | 0,_,_=>0
 | n+1,a,b=>(if b%2=1 then a else 0)^^^tm n (y9 a) (b/2)
theorem Rs: ∀i:Fin 255,up (i.val+1)=(up i.val^^^y9 (up i.val))∧tm 8 (up i.val) 3=up (i.val+1)∧tm 8 (down i.val) 246=down (i.val+1):=by decide+kernel
theorem Oj: ∀i:Fin 256,0<up i.val∧up i.val<256∧0<down i.val∧down i.val<256:=by decide+kernel
theorem Ol: ∀i:Fin 255,lg (up i.val)=i.val∧inv (up i.val)=down i.val:=by decide+kernel
theorem Om: ∀j:Fin 256,lg j.val<255∧inv j.val<256∧sb j.val<256∧(j.val=0∨up (lg j.val)=j.val):=by decide+kernel
theorem U7: ∀j:Fin 256,j.val=0∨up ((255 - lg j.val)%255)=inv j.val:=by decide+kernel
theorem Ru(a b:Nat)(ha:a<256)(hb:b<256):y9 (a^^^b)=(y9 a^^^y9 b):=by
 have h2:2*(a^^^b)%256=(2*a%256)^^^(2*b%256):=by
  have:=Nat.xor_mod_two_pow (a:=2*a) (b:=2*b) (n:=8);have h1:2*a^^^2*b=2*(a^^^b):=by
   have h:=Nat.shiftLeft_xor_distrib (i:=1) (a:=a) (b:=b);simp only [Nat.shiftLeft_eq,Nat.pow_one]at h;rw [Nat.mul_comm 2 a,Nat.mul_comm 2 b,Nat.mul_comm 2 (a^^^b)];exact h.symm
  rw [h1]at this;exact this
 have hd:(a^^^b)/128=(a/128)^^^(b/128):=Nat.xor_div_two_pow (n:=7);have h27:27*((a^^^b)/128)=(27*(a/128))^^^(27*(b/128)):=by
  rw [hd];have h1:a/128=0∨a/128=1:=by omega
  have h2:b/128=0∨b/128=1:=by omega
  rcases h1 with h1 | h1<;>rcases h2 with h2 | h2<;>rw [h1,h2]<;>rfl
 unfold y9;rw [h2,h27]
 ac_rfl
theorem sg: ∀a:Fin 256,y9 a.val<256:=by decide+kernel
def rc:Nat→Nat
 | 0=>1
 | n+1=>y9 (rc n)
def W(n:Nat)(K:Nat→Nat)(i k:Nat):Nat:=
 if h:i<n∨n=0 then K (4*i+k)else
  W n K (i - n) k^^^(if i%n=0 then sb (W n K (i - 1) ((k+1)%4))^^^(if k=0 then rc (i/n - 1)else 0)else if n=8∧i%8=4 then sb (W n K (i - 1) k)else W n K (i - 1) k)
termination_by i
decreasing_by all_goals omega
theorem Js: ∀n,rc n<256
 | 0=>by decide
 | n+1=>sg ⟨rc n,Js n⟩
theorem aS{a b:Nat}(ha:a<256)(hb:b<256):a^^^b<256:=Nat.xor_lt_two_pow (n:=8) ha hb
theorem Bj(j:Nat)(h:j<256):sb j<256:=(Om ⟨j,h⟩).2.2.1
theorem Rv(n:Nat)(K:Nat→Nat)(hK: ∀j,K j<256)(i:Nat): ∀k,W n K i k<256:=by
 induction i using Nat.strongRecOn with
 | _ i ih=>
  intro k;rw [W];split
  ·exact hK _
  ·rename_i h;refine aS (ih (i - n) (by omega) k) ?_;split
   ·refine aS (Bj _ (ih (i - 1) (by omega) _)) ?_;split
    ·exact Js _
    ·decide
   ·split
    ·exact Bj _ (ih (i - 1) (by omega) _)
    ·exact ih (i - 1) (by omega) k
def Yq(s:Nat→Nat)(i:Nat):Nat:=sb (s ((i+4*(i%4))%16))
def Yr(t:Nat→Nat)(i:Nat):Nat:=y9 (t i)^^^(t (i/4*4+(i+1)%4)^^^y9 (t (i/4*4+(i+1)%4)))^^^t (i/4*4+(i+2)%4)^^^t (i/4*4+(i+3)%4)
def rs(w:Nat→Nat→Nat)(m:Nat)(B:Nat→Nat):Nat→(Nat→Nat)
 | 0=>fun i=>B i^^^w (i/4) (i%4)
 | r+1=>fun i=>(if r+1<m then Yr (Yq (rs w m B r)) i else Yq (rs w m B r) i)^^^w (4*(r+1)+i/4) (i%4)
def enc(n:Nat)(K B:Nat→Nat)(i:Nat):Nat:=rs (W n K) (n+6) B (n+6) i
theorem On(w:Nat→Nat→Nat)(m:Nat)(B:Nat→Nat)(hw: ∀i k,w i k<256)(hB: ∀j,B j<256): ∀r i,rs w m B r i<256
 | 0,i=>aS (hB _) (hw _ _)
 | r+1,i=>by
  have ih:=On w m B hw hB r;have hs: ∀i,Yq (rs w m B r) i<256:=fun i=>Bj _ (ih _)
  have hd: ∀a,a<256→y9 a<256:=fun a h=>sg ⟨a,h⟩
  refine aS ?_ (hw _ _);split
  ·exact aS (aS (aS (hd _ (hs _)) (aS (hs _) (hd _ (hs _)))) (hs _)) (hs _)
  ·exact hs _
theorem CB(n:Nat)(K B:Nat→Nat)(hK: ∀j,K j<256)(hB: ∀j,B j<256)(i:Nat):enc n K B i<256:=On _ _ _ (fun i k=>Rv n K hK i k) hB _ _
end Go.Ae

namespace Go.RX.Sh
open Go.RX
def nO(x n:Nat):Nat:=x/2^n+x*2^(32 - n)%2^32
def s0(x:Nat):Nat:=nO x 7^^^nO x 18^^^x/2^3
def s1(x:Nat):Nat:=nO x 17^^^nO x 19^^^x/2^10
def S0(x:Nat):Nat:=nO x 2^^^nO x 13^^^nO x 22
def S1(x:Nat):Nat:=nO x 6^^^nO x 11^^^nO x 25
def ch(x y z:Nat):Nat:=(x &&& y)^^^((2^32 - 1 - x) &&& z)
def Ys(x y z:Nat):Nat:=(x &&& y)^^^(x &&& z)^^^(y &&& z)
def word(B:Nat→Nat)(t:Nat):Nat:=((B (4*t)*256+B (4*t+1))*256+B (4*t+2))*256+B (4*t+3)
def fU(B:Nat→Nat):Nat→Nat→Nat
 | 0=>fun t=>if t<16 then word B t else 0
 | n+1=>fun t=>if t=n+16 then(s1 (fU B n (n+14))+fU B n (n+9)+s0 (fU B n (n+1))+fU B n n)%2^32 else fU B n t
def temp(v:Nat→Nat)(k w:Nat):Nat:=(v 7+S1 (v 4)+ch (v 4) (v 5) (v 6)+k+w)%2^32
def step(v:Nat→Nat)(k w j:Nat):Nat:=
 if j=0 then(temp v k w+(S0 (v 0)+Ys (v 0) (v 1) (v 2))%2^32)%2^32
 else if j=4 then(v 3+temp v k w)%2^32
 else if j<8 then v (j - 1)else 0
theorem U8(v:Nat→Nat)(k w:Nat):step v k w 0=(temp v k w+(S0 (v 0)+Ys (v 0) (v 1) (v 2))%2^32)%2^32:=by
 unfold step;rw [if_pos rfl]
theorem U9(v:Nat→Nat)(k w:Nat):step v k w 4=(v 3+temp v k w)%2^32:=by
 unfold step;rw [if_neg (by decide),if_pos rfl]
theorem uX(v:Nat→Nat)(k w:Nat){j:Nat}(h0:j≠0)(h4:j≠4)(h8:j<8):step v k w j=v (j - 1):=by
 unfold step;rw [if_neg h0,if_neg h4,if_pos h8]
def WQ(K W H:Nat→Nat):Nat→Nat→Nat
 | 0=>H
 | n+1=>step (WQ K W H n) (K n) (W n)
def comp(K H B:Nat→Nat)(j:Nat):Nat:=(H j+WQ K (fU B 48) H 64 j)%2^32
theorem uY{a b n:Nat}(ha:a<2^n)(hb:b<2^n):a^^^b<2^n:=Nat.xor_lt_two_pow ha hb
theorem oJ{a b n:Nat}(ha:a<2^n):a &&& b<2^n:=Nat.lt_of_le_of_lt Nat.and_le_left ha
theorem lu{x n:Nat}(hx:x<2^32)(hn:n≤32):nO x n<2^32:=by
 unfold nO;have h1:x*2^(32 - n)%2^32=x%2^n*2^(32 - n):=by
  have:(2:Nat)^32=2^n*2^(32 - n):=by rw [←Nat.pow_add];congr 1;omega
  rw [this,Nat.mul_mod_mul_right]
 rw [h1];have h2:x/2^n<2^(32 - n):=by
  apply Nat.div_lt_of_lt_mul;rw [←Nat.pow_add]
  rwa [show n+(32 - n)=32 by omega]
 have h3:x%2^n<2^n:=Nat.mod_lt _ (Nat.two_pow_pos n);have h4:(x%2^n+1)*2^(32 - n)≤2^n*2^(32 - n):=Nat.mul_le_mul_right _ h3;rw [←Nat.pow_add,show n+(32 - n)=32 by omega,Nat.add_mul]at h4;omega
theorem Rw{x n:Nat}(hx:x<2^32)(hn:n≤32):(x >>> n)|||(x*2^(32 - n)%2^32)=nO x n:=by
 unfold nO;have h1:x*2^(32 - n)%2^32=2^(32 - n)*(x%2^n):=by
  have:(2:Nat)^32=2^n*2^(32 - n):=by rw [←Nat.pow_add];congr 1;omega
  rw [this,Nat.mul_mod_mul_right,Nat.mul_comm]
 have h2:x/2^n<2^(32 - n):=by
  apply Nat.div_lt_of_lt_mul;rw [←Nat.pow_add]
  rwa [show n+(32 - n)=32 by omega]
 rw [h1,Nat.shiftRight_eq_div_pow,Nat.or_comm,←Nat.two_pow_add_eq_or_of_lt h2,Nat.add_comm]
theorem wrap_u32(n:Nat):ae .u32 (n:Int)=((n%2^32:Nat):Int):=by
 simp [ae,IntKind.signed,IntKind.bits]
theorem wrap_u64(n:Nat):ae .u64 (n:Int)=((n%2^64:Nat):Int):=by
 simp [ae,IntKind.signed,IntKind.bits]
theorem wrap_u8(n:Nat):ae .u8 (n:Int)=((n%2^8:Nat):Int):=by
 simp [ae,IntKind.signed,IntKind.bits]
theorem cm(w n:Nat):(BitVec.ofInt w (n:Int)).toNat=n%2^w:=by
 simp
theorem vV{a b:Nat}(ha:a<2^32)(hb:b<2^32):ak .aB .u32 (a:Int) (b:Int)=((a^^^b:Nat):Int):=by
 show ae .u32 ((BitVec.ofInt 32 (a:Int)^^^BitVec.ofInt 32 (b:Int)).toNat:Int)=_;rw [wrap_u32,BitVec.toNat_xor,cm,cm,ajm ha,ajm hb,ajm (uY ha hb)]
theorem EM{a b:Nat}(ha:a<2^32)(hb:b<2^32):ak .aM .u32 (a:Int) (b:Int)=((a &&& b:Nat):Int):=by
 show ae .u32 ((BitVec.ofInt 32 (a:Int) &&& BitVec.ofInt 32 (b:Int)).toNat:Int)=_;rw [wrap_u32,BitVec.toNat_and,cm,cm,ajm ha,ajm hb,ajm (oJ ha)]
theorem Yt{a b:Nat}(ha:a<2^32)(hb:b<2^32):ak .bC .u32 (a:Int) (b:Int)=((a|||b:Nat):Int):=by
 show ae .u32 ((BitVec.ofInt 32 (a:Int)|||BitVec.ofInt 32 (b:Int)).toNat:Int)=_;rw [wrap_u32,BitVec.toNat_or,cm,cm,ajm ha,ajm hb,ajm (Nat.or_lt_two_pow ha hb)]
theorem Oo{a b:Nat}(ha:a<2^64)(hb:b<2^64):ak .aB .u64 (a:Int) (b:Int)=((a^^^b:Nat):Int):=by
 show ae .u64 ((BitVec.ofInt 64 (a:Int)^^^BitVec.ofInt 64 (b:Int)).toNat:Int)=_;rw [wrap_u64,BitVec.toNat_xor,cm,cm,ajm ha,ajm hb,ajm (uY ha hb)]
theorem Jt{a b:Nat}(ha:a<2^64)(hb:b<2^64):ak .aM .u64 (a:Int) (b:Int)=((a &&& b:Nat):Int):=by
 show ae .u64 ((BitVec.ofInt 64 (a:Int) &&& BitVec.ofInt 64 (b:Int)).toNat:Int)=_;rw [wrap_u64,BitVec.toNat_and,cm,cm,ajm ha,ajm hb,ajm (oJ ha)]
theorem fJ(k:IntKind)(a n:Nat)(hn:n≤k.bits):ak .shr k (a:Int) (n:Int)=((a >>> n:Nat):Int):=by
 show Int.fdiv (a:Int) (2^(min (n:Int).toNat k.bits))=_;rw [aiX,Nat.min_eq_left hn,Nat.shiftRight_eq_div_pow,Int.fdiv_eq_ediv_of_nonneg _ (by exact Int.le_of_lt (Int.pow_pos (by decide)))];rw [Int.natCast_ediv,Int.natCast_pow];rfl
theorem TM(a n:Nat)(hn:n≤32):ak .shl .u32 (a:Int) (n:Int)=((a*2^n%2^32:Nat):Int):=by
 show ae .u32 ((a:Int)*2^(min (n:Int).toNat 32))=_;rw [aiX,Nat.min_eq_left hn];have:(a:Int)*2^n=((a*2^n:Nat):Int):=by rw [Int.natCast_mul,Int.natCast_pow];rfl
 rw [this,wrap_u32]
theorem EN{x n:Nat}(hx:x<2^32)(hn:n≤32):ak .bC .u32 (ak .shr .u32 (x:Int) (n:Int)) (ak .shl .u32 (x:Int) ((32 - n:Nat):Int))=((nO x n:Nat):Int):=by
 rw [fJ .u32 x n hn,TM x (32 - n) (by omega),Yt (Nat.lt_of_le_of_lt (by rw [Nat.shiftRight_eq_div_pow];exact Nat.div_le_self _ _) hx) (Nat.mod_lt _ (by decide)),Rw hx hn]
theorem Rx{x n:Nat}(hx:x<2^32):x/2^n<2^32:=Nat.lt_of_le_of_lt (Nat.div_le_self _ _) hx
theorem pS{x a b c:Nat}(hx:x<2^32)(ha:a≤32)(hb:b≤32)(hc:c≤32):
  ak .aB .u32 (ak .aB .u32 (ak .bC .u32 (ak .shr .u32 (x:Int) (a:Int)) (ak .shl .u32 (x:Int) ((32 - a:Nat):Int))) (ak .bC .u32 (ak .shr .u32 (x:Int) (b:Int)) (ak .shl .u32 (x:Int) ((32 - b:Nat):Int))))
   (ak .bC .u32 (ak .shr .u32 (x:Int) (c:Int)) (ak .shl .u32 (x:Int) ((32 - c:Nat):Int)))=((nO x a^^^nO x b^^^nO x c:Nat):Int):=by
 rw [EN hx ha,EN hx hb,EN hx hc,vV (lu hx ha) (lu hx hb),vV (uY (lu hx ha) (lu hx hb)) (lu hx hc)]
theorem ps{x a b c:Nat}(hx:x<2^32)(ha:a≤32)(hb:b≤32)(hc:c≤32):
  ak .aB .u32 (ak .aB .u32 (ak .bC .u32 (ak .shr .u32 (x:Int) (a:Int)) (ak .shl .u32 (x:Int) ((32 - a:Nat):Int))) (ak .bC .u32 (ak .shr .u32 (x:Int) (b:Int)) (ak .shl .u32 (x:Int) ((32 - b:Nat):Int))))
   (ak .shr .u32 (x:Int) (c:Int))=((nO x a^^^nO x b^^^x/2^c:Nat):Int):=by
 rw [EN hx ha,EN hx hb,fJ .u32 x c hc,vV (lu hx ha) (lu hx hb),Nat.shiftRight_eq_div_pow,vV (uY (lu hx ha) (lu hx hb)) (Rx hx)]
theorem ab3{x:Nat}(hx:x<2^32):ak .aB .u32 (ak .aB .u32 (ak .bC .u32 (ak .shr .u32 (x:Int) 7) (ak .shl .u32 (x:Int) 25)) (ak .bC .u32 (ak .shr .u32 (x:Int) 18) (ak .shl .u32 (x:Int) 14))) (ak .shr .u32 (x:Int) 3)=((s0 x:Nat):Int):=
 ps (a:=7) (b:=18) (c:=3) hx (by decide) (by decide) (by decide)
theorem ab4{x:Nat}(hx:x<2^32):ak .aB .u32 (ak .aB .u32 (ak .bC .u32 (ak .shr .u32 (x:Int) 17) (ak .shl .u32 (x:Int) 15)) (ak .bC .u32 (ak .shr .u32 (x:Int) 19) (ak .shl .u32 (x:Int) 13))) (ak .shr .u32 (x:Int) 10)=((s1 x:Nat):Int):=
 ps (a:=17) (b:=19) (c:=10) hx (by decide) (by decide) (by decide)
theorem ab5{x:Nat}(hx:x<2^32):ak .aB .u32 (ak .aB .u32 (ak .bC .u32 (ak .shr .u32 (x:Int) 2) (ak .shl .u32 (x:Int) 30)) (ak .bC .u32 (ak .shr .u32 (x:Int) 13) (ak .shl .u32 (x:Int) 19))) (ak .bC .u32 (ak .shr .u32 (x:Int) 22) (ak .shl .u32 (x:Int) 10))=((S0 x:Nat):Int):=
 pS (a:=2) (b:=13) (c:=22) hx (by decide) (by decide) (by decide)
theorem ab6{x:Nat}(hx:x<2^32):ak .aB .u32 (ak .aB .u32 (ak .bC .u32 (ak .shr .u32 (x:Int) 6) (ak .shl .u32 (x:Int) 26)) (ak .bC .u32 (ak .shr .u32 (x:Int) 11) (ak .shl .u32 (x:Int) 21))) (ak .bC .u32 (ak .shr .u32 (x:Int) 25) (ak .shl .u32 (x:Int) 7))=((S1 x:Nat):Int):=
 pS (a:=6) (b:=11) (c:=25) hx (by decide) (by decide) (by decide)
theorem Yu{x:Nat}(hx:x<2^32):(4294967295:Nat)^^^x=2^32 - 1 - x:=by
 have h:=ajr 4294967295 x;apply ajx;intro i;rw [Nat.testBit_xor,show(4294967295:Nat)=2^32 - 1 from rfl,Nat.testBit_two_pow_sub_one,show 2^32 - 1 - x=2^32 - (x+1) by omega,Nat.testBit_two_pow_sub_succ hx];by_cases hi:i<32
 ·simp [hi]
 ·have:x.testBit i=false:=Nat.testBit_lt_two_pow (ai1 hx (Nat.pow_le_pow_right (by decide) (by omega)));simp [hi,this]
theorem ab7{x y z:Nat}(hx:x<2^32)(hy:y<2^32)(hz:z<2^32):ak .aB .u32 (ak .aM .u32 (x:Int) (y:Int)) (ak .aM .u32 (ak .aB .u32 4294967295 (x:Int)) (z:Int))=((ch x y z:Nat):Int):=by
 have h1:ak .aB .u32 4294967295 (x:Int)=((2^32 - 1 - x:Nat):Int):=by
  rw [←Yu hx];exact vV (a:=4294967295) (by decide) hx
 rw [h1,EM hx hy,EM (by omega) hz,vV (oJ hx) (oJ (by omega))];rfl
theorem Yv{x y z:Nat}(hx:x<2^32)(hy:y<2^32)(hz:z<2^32):ak .aB .u32 (ak .aB .u32 (ak .aM .u32 (x:Int) (y:Int)) (ak .aM .u32 (x:Int) (z:Int))) (ak .aM .u32 (y:Int) (z:Int))=((Ys x y z:Nat):Int):=by
 rw [EM hx hy,EM hx hz,EM hy hz,vV (oJ hx) (oJ hx),vV (uY (oJ hx) (oJ hx)) (oJ hy)];rfl
theorem p9(a b:Nat):ae .u32 ((a:Int)+(b:Int))=(((a+b)%2^32:Nat):Int):=by rw [←Int.natCast_add,wrap_u32]
theorem Oq{B:Nat→Nat}(hB: ∀j,j<64→B j<256): ∀(n t:Nat),fU B n t<2^32
 | 0,t=>by
  unfold fU;split
  ·rename_i h;have h0:=hB (4*t) (by omega);have h1:=hB (4*t+1) (by omega);have h2:=hB (4*t+2) (by omega);have h3:=hB (4*t+3) (by omega);unfold word;omega
  ·decide
 | n+1,t=>by
  unfold fU;split
  ·exact Nat.mod_lt _ (by decide)
  ·exact Oq hB n t
theorem Ry{v:Nat→Nat}(hv: ∀j,j<8→v j<2^32)(k w:Nat)(j:Nat)(hj:j<8):step v k w j<2^32:=by
 have hp:0<2^32:=Nat.two_pow_pos 32;unfold step;split
 ·exact Nat.mod_lt _ hp
 ·split
  ·exact Nat.mod_lt _ hp
  ·exact hv _ (by omega)
theorem Ot{K W H:Nat→Nat}(hH: ∀j,j<8→H j<2^32): ∀n j,j<8→WQ K W H n j<2^32
 | 0=>hH
 | n+1=>Ry (Ot hH n) _ _
def fill(B:Nat→Nat):Nat→Nat→Nat
 | 0=>fun _=>0
 | i+1=>fun t=>if t=i/4 then(fill B i (i/4)*256%2^32)|||B i else fill B i t
def part(B:Nat→Nat)(t:Nat):Nat→Nat
 | 0=>0
 | k+1=>part B t k*256+B (4*t+k)
theorem Ju{B:Nat→Nat}{t:Nat}(hB: ∀j,j<64→B j<256)(ht:t<16): ∀k,k≤4→part B t k<256^k
 | 0,_=>by simp [part]
 | k+1,hk=>by
  have:=Ju hB ht k (by omega);have h:=hB (4*t+k) (by omega);unfold part;rw [Nat.pow_succ];omega
theorem uZ{B:Nat→Nat}(hB: ∀j,j<64→B j<256): ∀(i t:Nat),i≤64→fill B i t=if 4*t+4≤i then part B t 4 else if 4*t<i then part B t (i - 4*t)else 0
 | 0,t,_=>by
  rw [if_neg (by omega),if_neg (by omega)];rfl
 | i+1,t,hi=>by
  unfold fill;split
  ·rename_i ht;subst ht;have ih:=uZ hB i (i/4) (by omega);have hi4:i=4*(i/4)+(i - 4*(i/4)):=by omega
   have hk:i - 4*(i/4)<4:=by omega
   generalize hq:i/4=q at*;obtain⟨k,cO⟩: ∃k,k=i - 4*q:=⟨_,rfl⟩;have Yw:fill B i q=part B q k:=by
    rw [ih,if_neg (by omega)];split
    ·rw [cO]
    ·have:k=0:=by omega
     rw [this];rfl
   have hp:=Ju hB (show q<16 by omega) k (by omega);have hb:=hB i (by omega);have agF:(256:Nat)^k≤256^3:=Nat.pow_le_pow_right (by decide) (by omega);rw [Yw,ajm (by omega),show part B q k*256=2^8*part B q k by omega,←Nat.two_pow_add_eq_or_of_lt (by omega)];have hpk:2^8*part B q k+B i=part B q (k+1):=by
    rw [part,show 4*q+k=i by omega];omega
   rw [hpk];by_cases h4:4*q+4≤i+1
   ·rw [if_pos h4,show k+1=4 by omega]
   ·rw [if_neg h4,if_pos (by omega),show i+1 - 4*q=k+1 by omega]
  ·rename_i ht;rw [uZ hB i t (by omega)];by_cases h4:4*t+4≤i
   ·rw [if_pos h4,if_pos (by omega)]
   ·have h5: ¬4*t<i:=by omega
    rw [if_neg h4,if_neg h5,if_neg (by omega),if_neg (by omega)]
theorem Ou{B:Nat→Nat}(hB: ∀j,j<64→B j<256)(t:Nat):fill B 64 t=fU B 0 t:=by
 rw [uZ hB 64 t (Nat.le_refl _)];unfold fU;by_cases ht:t<16
 ·rw [if_pos ht,if_pos (by omega)];simp only [part,word,Nat.add_zero,Nat.zero_mul,Nat.zero_add]
 ·rw [if_neg ht,if_neg (by omega),if_neg (by omega)]
end Go.RX.Sh
