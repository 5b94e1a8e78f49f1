/- The store's walker. -/
import Derived.Test.YtllcdnkfbeokhaaGreatM36
import Derived.Test.YtllcdnkfbeokhaaGreatM34
open Go.IntKind renaming i64 -> ax6, wrap -> ae
open Go.Proofs.Tryz renaming prog -> ax8
open Int renaming toNat -> ag, toNat_natCast -> ax3
open List renaming append -> axQ, append_assoc -> ayl, getD_cons_succ -> ayI, getD_cons_zero -> ah, getD_eq_getElem?_getD -> ayk, getElem?_append_left -> axX, getElem?_eq_getElem -> ays, length_append -> axP, length_singleton -> axR, mem_append -> ax_, mem_map -> ayg, mem_singleton -> ax2
namespace Go.RX.Fm
open Go.RX Go.Proofs Go.RX.Fe Go.RX.Fg Go.RX.Fi Go.RX.Fj Go.RX.Fk Go.RX.Fl
set_option maxRecDepth 100000
noncomputable def D3:F:=oR Fm.cx 47 ([SV.ptr 0 0,SV.sl 1 (E.lit 0) 1 (E.lit 1) (E.lit 1)]) ([Ck.row 0 true [SV.vv 0,SV.vv 1,SV.int (ax6) (E.lit 4),SV.int (ax6) (E.lit 2),SV.int (ax6) (E.lit 13),SV.int (ax6) (E.lit 22),SV.int (ax6) (E.lit 6),SV.int (ax6) (E.lit 11),SV.int (ax6) (E.lit 25),SV.int (ax6) (E.lit 7),SV.int (ax6) (E.lit 18),SV.int (ax6) (E.lit 3),SV.int (ax6) (E.lit 17),SV.int (ax6) (E.lit 19),SV.int (ax6) (E.lit 10)],Ck.cF true 0 39 1 (E.lit 8) [{ck:=CK.int (Go.IntKind.u32),w:=1,a:=E.cM 0}],Ck.cF true 1 39 1 (E.lit 64) [{ck:=CK.int (Go.IntKind.u32),w:=1,a:=E.cM 1}],Ck.row 1 true [SV.vv 2],Ck.cF false 2 5 1 (E.var 0) [{ck:=CK.int (Go.IntKind.u8),w:=1,a:=E.cM 2}]]) ({b:=2,v:=3,i:=1,a:=3,bo:=0,p:=0,r:=0}) Tryz.f47
def yh(P:Program)(al:Value->List HP->Prop)(x0:Int)(A0:Nat->Int)(A1:Nat->Int)(A2:Nat->Int)(v0:V1)(v1:V1)(v2:V1)(b0:Nat)(b1:Nat):Prop:=
 ay (0<=x0) (
 ay (x0<=140737488355328) (
 ∀v3:V1,∃(bO:Ext->Prop) (dG:Ext->Nat),(∃v4:V1,∃x1:Int,∃A3:(Nat->Int),∃A4:(Nat->Int),v4=v3/\(∀j,j<8->A4 j=A0 j)/\v4=v3/\x1=x0/\cG x1 A3 A2/\bO ⟨[],[v4],[x1],[A3,A4],[],[],[]⟩)/\
 ∀v4:V1,∀x1:Int,∀A3:(Nat->Int),∀A4:(Nat->Int),bO ⟨[],[v4],[x1],[A3,A4],[],[],[]⟩->
 ay (0<=x1) (
 bf (64<=x1) (
 ∃post,ao P 98 [.pointer (some ⟨b0,0,none⟩),(aK 1 v4.v 0 64 none)] [ak b0 true ([v0.v,v1.v,.int .i64 4,.int .i64 2,.int .i64 13,.int .i64 22,.int .i64 6,.int .i64 11,.int .i64 25,.int .i64 7,.int .i64 18,.int .i64 3,.int .i64 17,.int .i64 19,.int .i64 10]),aA true 39 1 v0.v 8 (aG 8 [ax .u32 1 A4]),aA true 39 1 v1.v 64 (aG 64 [ax .u32 1 A1]),aA true 5 1 v4.v (ag x1) (aG (ag x1) [ax .u8 1 A3])] post/\
 ∀x hs,post x hs->∃A5:(Nat->Int),x= .tuple #[]/\hs=[ak b0 true ([v0.v,v1.v,.int .i64 4,.int .i64 2,.int .i64 13,.int .i64 22,.int .i64 6,.int .i64 11,.int .i64 25,.int .i64 7,.int .i64 18,.int .i64 3,.int .i64 17,.int .i64 19,.int .i64 10]),aA true 39 1 v0.v 8 (aG 8 [ax .u32 1 A5]),aA true 39 1 v1.v 64 (aG 64 [ax .u32 1 A1]),aA true 5 1 v4.v (ag x1) (aG (ag x1) [ax .u8 1 A3])]/\
 ay (64<=x1) (
 ay (0<=(x1 - 64)) (
 ∀v5:V1,∃ur:V1,∃jd:Int,∃mD:(Nat->Int),∃Ax:(Nat->Int),ur=v5/\(∀j,j<8->Ax j=A5 j)/\ur=v5/\jd=(x1 - 64)/\cG jd mD (bx A3 64)/\Dn bO dG ⟨[],[ur],[jd],[mD,Ax],[],[],[]⟩ ⟨[],[v4],[x1],[A3,A4],[],[],[]⟩))) (
 ∀b2:Nat,ay ((x1+1)<=140737488355328) (
 ∀v5:V1,∃(mc:Ext->Prop) (xp:Ext->Nat),(∃v6:V1,∃x2:Int,∃A5:(Nat->Int),v6=v5/\v6=v5/\x2=(x1+1)/\cG x2 A5 (bV A3 (ag x1) 1 (au (λ_=>0) 0 128))/\mc ⟨[],[v6],[x2],[A5],[],[],[]⟩)/\
 ∀v6:V1,∀x2:Int,∀A5:(Nat->Int),mc ⟨[],[v6],[x2],[A5],[],[],[]⟩->
 ay (0<=x2) (
 ay ((-9223372036854775808)<=(x2+8)) (
 ay ((x2+8)<=9223372036854775807) (
 bf (¬((ar .rem .i64 (x2+8) 64)=0)) (
 ∀_:Nat,ay (((x2+1)*1)<=140737488355328) (
 ∀v7:V1,∃v6':V1,∃fk:Int,∃Dq:(Nat->Int),v6'=v7/\v6'=v7/\fk=(x2+1)/\cG fk Dq (au A5 (ag x2) 0)/\Dn mc xp ⟨[],[v6'],[fk],[Dq],[],[],[]⟩ ⟨[],[v6],[x2],[A5],[],[],[]⟩)) (
 ∀v7:V1,ay ((x2+8)<=140737488355328) (
 ∀v8:V1,∃(kz:Ext->Prop) (tO:Ext->Nat),(∃v9:V1,∃x3:Int,∃A6:(Nat->Int),∃A7:(Nat->Int),v9=v8/\(∀j,j<8->A7 j=A4 j)/\v9=v8/\x3=(x2+8)/\cG x3 A6 (bV A5 (ag x2) 8 (au (au (au (au (au (au (au (au (λ_=>0) 7 (ae .u8 (ar .shr .u64 (ar .shl .u64 (ae .u64 (ae .u64 x0)) 3) 0))) 6 (ae .u8 (ar .shr .u64 (ar .shl .u64 (ae .u64 (ae .u64 x0)) 3) 8))) 5 (ae .u8 (ar .shr .u64 (ar .shl .u64 (ae .u64 (ae .u64 x0)) 3) 16))) 4 (ae .u8 (ar .shr .u64 (ar .shl .u64 (ae .u64 (ae .u64 x0)) 3) 24))) 3 (ae .u8 (ar .shr .u64 (ar .shl .u64 (ae .u64 (ae .u64 x0)) 3) 32))) 2 (ae .u8 (ar .shr .u64 (ar .shl .u64 (ae .u64 (ae .u64 x0)) 3) 40))) 1 (ae .u8 (ar .shr .u64 (ar .shl .u64 (ae .u64 (ae .u64 x0)) 3) 48))) 0 (ae .u8 (ar .shr .u64 (ar .shl .u64 (ae .u64 (ae .u64 x0)) 3) 56))))/\kz ⟨[],[v9],[x3],[A6,A7],[],[],[]⟩)/\
 ∀v9:V1,∀x3:Int,∀A6:(Nat->Int),∀A7:(Nat->Int),kz ⟨[],[v9],[x3],[A6,A7],[],[],[]⟩->
 ay (0<=x3) (
 bf (0<x3) (
 ay (64<=x3) (
 ∃post,ao P 98 [.pointer (some ⟨b0,0,none⟩),(aK 1 v9.v 0 64 none)] [ak b0 true ([v0.v,v1.v,.int .i64 4,.int .i64 2,.int .i64 13,.int .i64 22,.int .i64 6,.int .i64 11,.int .i64 25,.int .i64 7,.int .i64 18,.int .i64 3,.int .i64 17,.int .i64 19,.int .i64 10]),aA true 39 1 v0.v 8 (aG 8 [ax .u32 1 A7]),aA true 39 1 v1.v 64 (aG 64 [ax .u32 1 A1]),aA true 5 1 v9.v (ag x3) (aG (ag x3) [ax .u8 1 A6])] post/\
 ∀x hs,post x hs->∃A8:(Nat->Int),x= .tuple #[]/\hs=[ak b0 true ([v0.v,v1.v,.int .i64 4,.int .i64 2,.int .i64 13,.int .i64 22,.int .i64 6,.int .i64 11,.int .i64 25,.int .i64 7,.int .i64 18,.int .i64 3,.int .i64 17,.int .i64 19,.int .i64 10]),aA true 39 1 v0.v 8 (aG 8 [ax .u32 1 A8]),aA true 39 1 v1.v 64 (aG 64 [ax .u32 1 A1]),aA true 5 1 v9.v (ag x3) (aG (ag x3) [ax .u8 1 A6])]/\
 ay (64<=x3) (
 ay (0<=(x3 - 64)) (
 ∀v10:V1,∃v9':V1,∃qJ:Int,∃HN:(Nat->Int),∃OJ:(Nat->Int),v9'=v10/\(∀j,j<8->OJ j=A8 j)/\v9'=v10/\qJ=(x3 - 64)/\cG qJ HN (bx A6 64)/\Dn kz tO ⟨[],[v9'],[qJ],[HN,OJ],[],[],[]⟩ ⟨[],[v9],[x3],[A6,A7],[],[],[]⟩)))) (
 ∀b3:Nat,∀_:V1,∀_:Nat,∀_:V1,∀_:Nat,∀_:V1,∀_:Nat,∀_:V1,∀_:Nat,∀_:V1,∀_:Nat,∀_:V1,∀_:Nat,∀_:V1,∀_:Nat,∀_:V1,∀_:Nat,∀_:V1,∀_:Nat,∀_:V1,∀_:Nat,∀_:V1,∀_:Nat,∀_:V1,∀_:Nat,∀_:V1,∀_:Nat,∀_:V1,∀_:Nat,∀_:V1,∀_:Nat,∀_:V1,∀_:Nat,∀_:V1,∀_:Nat,∀_:V1,∀_:Nat,∀_:V1,∀_:Nat,∀_:V1,∀_:Nat,∀_:V1,∀_:Nat,∀_:V1,∀_:Nat,∀_:V1,∀_:Nat,∀_:V1,∀_:Nat,∀_:V1,∀_:Nat,∀_:V1,∀_:Nat,∀_:V1,∀_:Nat,∀_:V1,∀_:Nat,∀_:V1,∀_:Nat,∀_:V1,∀_:Nat,∀_:V1,∀_:Nat,∀Xf:V1,al (Xf.v) [ak b0 true ([v0.v,v1.v,.int .i64 4,.int .i64 2,.int .i64 13,.int .i64 22,.int .i64 6,.int .i64 11,.int .i64 25,.int .i64 7,.int .i64 18,.int .i64 3,.int .i64 17,.int .i64 19,.int .i64 10]),aA true 39 1 v0.v 8 (aG 8 [ax .u32 1 A7]),aA true 39 1 v1.v 64 (aG 64 [ax .u32 1 A1]),ak b1 true ([v2.v]),aA false 5 1 v2.v (ag x0) (aG (ag x0) [ax .u8 1 A2]),aA true 5 1 v9.v (ag x3) (aG (ag x3) [ax .u8 1 A6]),ak b2 true ([.int .u8 128]),aA true 5 1 v7.v 8 (aG 8 [ax .u8 1 (au (au (au (au (au (au (au (au (λ_=>0) 7 (ae .u8 (ar .shr .u64 (ar .shl .u64 (ae .u64 (ae .u64 x0)) 3) 0))) 6 (ae .u8 (ar .shr .u64 (ar .shl .u64 (ae .u64 (ae .u64 x0)) 3) 8))) 5 (ae .u8 (ar .shr .u64 (ar .shl .u64 (ae .u64 (ae .u64 x0)) 3) 16))) 4 (ae .u8 (ar .shr .u64 (ar .shl .u64 (ae .u64 (ae .u64 x0)) 3) 24))) 3 (ae .u8 (ar .shr .u64 (ar .shl .u64 (ae .u64 (ae .u64 x0)) 3) 32))) 2 (ae .u8 (ar .shr .u64 (ar .shl .u64 (ae .u64 (ae .u64 x0)) 3) 40))) 1 (ae .u8 (ar .shr .u64 (ar .shl .u64 (ae .u64 (ae .u64 x0)) 3) 48))) 0 (ae .u8 (ar .shr .u64 (ar .shl .u64 (ae .u64 (ae .u64 x0)) 3) 56)))]),ak b3 true ([.int .u8 (ae .u8 (ar .shr .u32 (A7 0) 24))]),aA true 5 1 Xf.v 32 (aG 32 [ax .u8 1 (au (au (au (au (au (au (au (au (au (au (au (au (au (au (au (au (au (au (au (au (au (au (au (au (au (au (au (au (au (au (au (au (λ_=>0) 0 (ae .u8 (ar .shr .u32 (A7 0) 24))) 1 (ae .u8 (ar .shr .u32 (A7 0) 16))) 2 (ae .u8 (ar .shr .u32 (A7 0) 8))) 3 (ae .u8 (ar .shr .u32 (A7 0) 0))) 4 (ae .u8 (ar .shr .u32 (A7 1) 24))) 5 (ae .u8 (ar .shr .u32 (A7 1) 16))) 6 (ae .u8 (ar .shr .u32 (A7 1) 8))) 7 (ae .u8 (ar .shr .u32 (A7 1) 0))) 8 (ae .u8 (ar .shr .u32 (A7 2) 24))) 9 (ae .u8 (ar .shr .u32 (A7 2) 16))) 10 (ae .u8 (ar .shr .u32 (A7 2) 8))) 11 (ae .u8 (ar .shr .u32 (A7 2) 0))) 12 (ae .u8 (ar .shr .u32 (A7 3) 24))) 13 (ae .u8 (ar .shr .u32 (A7 3) 16))) 14 (ae .u8 (ar .shr .u32 (A7 3) 8))) 15 (ae .u8 (ar .shr .u32 (A7 3) 0))) 16 (ae .u8 (ar .shr .u32 (A7 4) 24))) 17 (ae .u8 (ar .shr .u32 (A7 4) 16))) 18 (ae .u8 (ar .shr .u32 (A7 4) 8))) 19 (ae .u8 (ar .shr .u32 (A7 4) 0))) 20 (ae .u8 (ar .shr .u32 (A7 5) 24))) 21 (ae .u8 (ar .shr .u32 (A7 5) 16))) 22 (ae .u8 (ar .shr .u32 (A7 5) 8))) 23 (ae .u8 (ar .shr .u32 (A7 5) 0))) 24 (ae .u8 (ar .shr .u32 (A7 6) 24))) 25 (ae .u8 (ar .shr .u32 (A7 6) 16))) 26 (ae .u8 (ar .shr .u32 (A7 6) 8))) 27 (ae .u8 (ar .shr .u32 (A7 6) 0))) 28 (ae .u8 (ar .shr .u32 (A7 7) 24))) 29 (ae .u8 (ar .shr .u32 (A7 7) 16))) 30 (ae .u8 (ar .shr .u32 (A7 7) 8))) 31 (ae .u8 (ar .shr .u32 (A7 7) 0)))])]))))))))))))
theorem Pb(P:Program)(al:Value->List HP->Prop)(x0:Int)(A0:Nat->Int)(A1:Nat->Int)(A2:Nat->Int)(v0:V1)(v1:V1)(v2:V1)(b0:Nat)(b1:Nat)(L:Nat->LC):VC P (λv hs=>al v (hs.take 10)) D3 {iv:=[x0],av:=[A0,A1,A2],bo:=[],bv:=[b0,b1],vv:=[v0,v1,v2]} L=yh P al x0 A0 A1 A2 v0 v1 v2 b0 b1:=by kernel_rfl
theorem KA:oR Fm.cx 47 ([SV.ptr 0 0,SV.sl 1 (E.lit 0) 1 (E.lit 1) (E.lit 1)]) ([Ck.row 0 true [SV.vv 0,SV.vv 1,SV.int (ax6) (E.lit 4),SV.int (ax6) (E.lit 2),SV.int (ax6) (E.lit 13),SV.int (ax6) (E.lit 22),SV.int (ax6) (E.lit 6),SV.int (ax6) (E.lit 11),SV.int (ax6) (E.lit 25),SV.int (ax6) (E.lit 7),SV.int (ax6) (E.lit 18),SV.int (ax6) (E.lit 3),SV.int (ax6) (E.lit 17),SV.int (ax6) (E.lit 19),SV.int (ax6) (E.lit 10)],Ck.cF true 0 39 1 (E.lit 8) [{ck:=CK.int (Go.IntKind.u32),w:=1,a:=E.cM 0}],Ck.cF true 1 39 1 (E.lit 64) [{ck:=CK.int (Go.IntKind.u32),w:=1,a:=E.cM 1}],Ck.row 1 true [SV.vv 2],Ck.cF false 2 5 1 (E.var 0) [{ck:=CK.int (Go.IntKind.u8),w:=1,a:=E.cM 2}]]) ({b:=2,v:=3,i:=1,a:=3,bo:=0,p:=0,r:=0}) Tryz.f47=D3:=rfl
theorem Pc(al:Value->List HP->Prop)(x0:Int)(A0:Nat->Int)(A1:Nat->Int)(A2:Nat->Int)(v0:V1)(v1:V1)(v2:V1)(b0:Nat)(b1:Nat)(h:yh ax8 al x0 A0 A1 A2 v0 v1 v2 b0 b1):ao ax8 47 [.pointer (some ⟨b0,0,none⟩),.slice (some ⟨b1,0,none⟩) 1 1] [ak b0 true ([v0.v,v1.v,.int .i64 4,.int .i64 2,.int .i64 13,.int .i64 22,.int .i64 6,.int .i64 11,.int .i64 25,.int .i64 7,.int .i64 18,.int .i64 3,.int .i64 17,.int .i64 19,.int .i64 10]),aA true 39 1 v0.v 8 (aG 8 [ax .u32 1 A0]),aA true 39 1 v1.v 64 (aG 64 [ax .u32 1 A1]),ak b1 true ([v2.v]),aA false 5 1 v2.v (ag x0) (aG (ag x0) [ax .u8 1 A2])] al:=
 ao.post (ao.tn (C:=Fm.cx) (aY:=({b:=2,v:=3,i:=1,a:=3,bo:=0,p:=0,r:=0})) (ρ:={iv:=[x0],av:=[A0,A1,A2],bo:=[],bv:=[b0,b1],vv:=[v0,v1,v2]}) okT JQ okM Tryz.func47 (by constructor<;>rfl) (al:=(λv hs=>al v (hs.take 10))) (args:=([Go.RX.SV.ptr 0 0,Go.RX.SV.sl 1 (Go.RX.E.lit 0) 1 (Go.RX.E.lit 1) (Go.RX.E.lit 1)])) (hp:=([Go.RX.Ck.row 0 true [Go.RX.SV.vv 0,Go.RX.SV.vv 1,Go.RX.SV.int (ax6) (Go.RX.E.lit 4),Go.RX.SV.int (ax6) (Go.RX.E.lit 2),Go.RX.SV.int (ax6) (Go.RX.E.lit 13),Go.RX.SV.int (ax6) (Go.RX.E.lit 22),Go.RX.SV.int (ax6) (Go.RX.E.lit 6),Go.RX.SV.int (ax6) (Go.RX.E.lit 11),Go.RX.SV.int (ax6) (Go.RX.E.lit 25),Go.RX.SV.int (ax6) (Go.RX.E.lit 7),Go.RX.SV.int (ax6) (Go.RX.E.lit 18),Go.RX.SV.int (ax6) (Go.RX.E.lit 3),Go.RX.SV.int (ax6) (Go.RX.E.lit 17),Go.RX.SV.int (ax6) (Go.RX.E.lit 19),Go.RX.SV.int (ax6) (Go.RX.E.lit 10)],Go.RX.Ck.cF true 0 39 1 (Go.RX.E.lit 8) [{ck:=Go.RX.CK.int (Go.IntKind.u32),w:=1,a:=Go.RX.E.cM 0}],Go.RX.Ck.cF true 1 39 1 (Go.RX.E.lit 64) [{ck:=Go.RX.CK.int (Go.IntKind.u32),w:=1,a:=Go.RX.E.cM 1}],Go.RX.Ck.row 1 true [Go.RX.SV.vv 2],Go.RX.Ck.cF false 2 5 1 (Go.RX.E.var 0) [{ck:=Go.RX.CK.int (Go.IntKind.u8),w:=1,a:=Go.RX.E.cM 2}]])) KA (Pb ax8 al x0 A0 A1 A2 v0 v1 v2 b0 b1 (λ_=>LC.none)) h) λ_ hs hq=>⟨_,bq.sub (List.take_sublist 10 hs),hq⟩
noncomputable def H8:F:=oR Fm.cx 22 ([SV.sl 0 (E.lit 0) 1 (E.lit 1) (E.lit 1)]) ([Ck.row 0 true [SV.vv 0],Ck.cF false 0 5 1 (E.var 0) [{ck:=CK.int (Go.IntKind.u8),w:=1,a:=E.cM 0}]]) ({b:=1,v:=1,i:=1,a:=1,bo:=0,p:=0,r:=0}) Tryz.f22
def BW(P:Program)(al:Value->List HP->Prop)(x0:Int)(A0:Nat->Int)(v0:V1)(b0:Nat):Prop:=
 ∀b1:Nat,∃post,ao P 46 [] [] post/\
 ∀x hs,post x hs->∃b2:Nat,∃v1:V1,∃v2:V1,∃A1:(Nat->Int),∃A2:(Nat->Int),x= .pointer (some ⟨b2,0,none⟩)/\hs=[ak b2 true ([v1.v,v2.v,.int .i64 4,.int .i64 2,.int .i64 13,.int .i64 22,.int .i64 6,.int .i64 11,.int .i64 25,.int .i64 7,.int .i64 18,.int .i64 3,.int .i64 17,.int .i64 19,.int .i64 10]),aA true 39 1 v1.v 8 (aG 8 [ax .u32 1 A1]),aA true 39 1 v2.v 64 (aG 64 [ax .u32 1 A2])]/\
 ∃post,ao P 47 [.pointer (some ⟨b2,0,none⟩),.slice (some ⟨b0,0,none⟩) 1 1] [ak b2 true ([v1.v,v2.v,.int .i64 4,.int .i64 2,.int .i64 13,.int .i64 22,.int .i64 6,.int .i64 11,.int .i64 25,.int .i64 7,.int .i64 18,.int .i64 3,.int .i64 17,.int .i64 19,.int .i64 10]),aA true 39 1 v1.v 8 (aG 8 [ax .u32 1 A1]),aA true 39 1 v2.v 64 (aG 64 [ax .u32 1 A2]),ak b0 true ([v0.v]),aA false 5 1 v0.v (ag x0) (aG (ag x0) [ax .u8 1 A0])] post/\
 ∀x hs,post x hs->∃v3:V1,∃A3:(Nat->Int),x=v3.v/\hs=[ak b0 true ([v0.v]),aA false 5 1 v0.v (ag x0) (aG (ag x0) [ax .u8 1 A0]),aA true 5 1 v3.v 32 (aG 32 [ax .u8 1 A3])]/\
 al (.agg (axQ (aj .u8 32 A3) ([])).toArray) [HP.emp,HP.emp,ak b1 true (axQ (aj .u8 32 A3) ([])),ak b0 true ([v0.v]),aA false 5 1 v0.v (ag x0) (aG (ag x0) [ax .u8 1 A0]),aA true 5 1 v3.v 32 (aG 32 [ax .u8 1 A3])]
theorem TX(P:Program)(al:Value->List HP->Prop)(x0:Int)(A0:Nat->Int)(v0:V1)(b0:Nat)(L:Nat->LC):VC P al H8 {iv:=[x0],av:=[A0],bo:=[],bv:=[b0],vv:=[v0]} L=BW P al x0 A0 v0 b0:=by kernel_rfl
theorem Pd:oR Fm.cx 22 ([SV.sl 0 (E.lit 0) 1 (E.lit 1) (E.lit 1)]) ([Ck.row 0 true [SV.vv 0],Ck.cF false 0 5 1 (E.var 0) [{ck:=CK.int (Go.IntKind.u8),w:=1,a:=E.cM 0}]]) ({b:=1,v:=1,i:=1,a:=1,bo:=0,p:=0,r:=0}) Tryz.f22=H8:=rfl
theorem TY(al:Value->List HP->Prop)(x0:Int)(A0:Nat->Int)(v0:V1)(b0:Nat)(h:BW ax8 al x0 A0 v0 b0):ao ax8 22 [.slice (some ⟨b0,0,none⟩) 1 1] [ak b0 true ([v0.v]),aA false 5 1 v0.v (ag x0) (aG (ag x0) [ax .u8 1 A0])] al:=
 ao.post (ao.tn (C:=Fm.cx) (aY:=({b:=1,v:=1,i:=1,a:=1,bo:=0,p:=0,r:=0})) (ρ:={iv:=[x0],av:=[A0],bo:=[],bv:=[b0],vv:=[v0]}) okT JQ okM Tryz.func22 (by constructor<;>rfl) (al:=al) (args:=([Go.RX.SV.sl 0 (Go.RX.E.lit 0) 1 (Go.RX.E.lit 1) (Go.RX.E.lit 1)])) (hp:=([Go.RX.Ck.row 0 true [Go.RX.SV.vv 0],Go.RX.Ck.cF false 0 5 1 (Go.RX.E.var 0) [{ck:=Go.RX.CK.int (Go.IntKind.u8),w:=1,a:=Go.RX.E.cM 0}]])) Pd (TX ax8 al x0 A0 v0 b0 (λ_=>LC.none)) h) λ_ hs hq=>⟨_,bq.refl hs,hq⟩
open Go Go.RX Go.Proofs Go.RX.Sh Go.RX.Fg Go.RX.Fj Go.RX.Fk
set_option maxHeartbeats 4000000 in
theorem E5(b:Nat)(b1:Nat)(vh vk w0:V1)(n0:Nat)(T0 M:Nat->Nat)(hM: ∀j,M j<256)(hT0: ∀j,j<n0->T0 j=M (0+j))(A0 A1:Nat->Int)(wI: ∀j,j<8->A0 j=(H0 j:Nat))(Zp: ∀j,j<64->A1 j=(K0 j:Nat))(hl:n0+300<=140737488355328):
  ao ax8 47 [.pointer (some ⟨b,0,none⟩),.slice (some ⟨b1,0,none⟩) 1 1] [wQ b vh vk,gn vh 8 A0,gn vk 64 A1,ak b1 true [w0.v],dL false w0 n0 T0] λr hs=> ∃o:V1,r=o.v/\hs=[ak b1 true [w0.v],dL false w0 n0 T0,dL true o 32 (yg (n0+0) M)]:=by
 refine ao.post (p:=λr hs=> ∃o:V1,r=o.v/\hs[3]? =some (ak b1 true [w0.v])/\hs[4]? =some (dL false w0 n0 T0)/\hs[9]? =some (dL true o 32 (yg (n0+0) M))) ?_ ?_;rotate_left
 .rintro r hs ⟨o,rfl,g0,g1,g2⟩;refine⟨_,bq.idx [3,4,9] (by decide) ?_,o,rfl,rfl⟩;intro m u hu
  match m,hu with
  | 0,hu=>cases hu;exact⟨3,rfl,g0⟩
  | 1,hu=>cases hu;exact⟨4,rfl,g1⟩
  | 2,hu=>cases hu;exact⟨9,rfl,g2⟩
  | m+3,hu=>simp at hu
 refine Pc _ (n0:Int) A0 A1 (λj=>(T0 j:Nat)) vh vk w0 b b1 ?_;unfold yh;have hS:=Mk hM (n0+0);obtain⟨N,hN⟩: ∃N,N=n0+0:=⟨_,rfl⟩;rw[<-hN]at hS ⊢;have hNl:N+300<=140737488355328:=by omega
 have NG: ∀j,j<N->lX N M j=M j:=λj hj=>by unfold lX;rw[if_pos hj]
 have hq:eH N=64*((N+8)/64+1):=rfl;refine⟨by omega,λ_=>⟨by omega,λ_=>?_⟩⟩;intro u0;refine⟨λe=> ∃q r:Nat,64*q+r=n0/\e.i=[(r:Int)]/\(∀j,j<r->(e.a.getD 0 λ_=>0) j=(lX N M (64*q+j):Nat))/\∀j,j<8->(e.a.getD 1 λ_=>0) j=(y_ (lX N M) q j:Nat),λe=>(e.i.getD 0 0:Int).toNat,?_,?_⟩
 .refine⟨u0,_,_,_,rfl,λ_ _=>rfl,rfl,rfl,λ_ _=>rfl,0,n0,by omega,rfl,λj hj=>?_,λj hj=>?_⟩
  .simp only[ah];rw[NG _ (by omega),hT0 j hj]
  .simp only[ah,ayI];exact wI j hj
 rintro z0 x B0 C0 ⟨q,r,hqr,hx,hB,hH⟩;simp only[List.cons.injEq,and_true]at hx;subst hx;simp only[ah,ayI]at hB hH;refine⟨by omega,λ_=>⟨λlS=>?_,λcC=>?_⟩⟩
 .refine⟨_,za (B:=[aA true 5 1 z0.v r (aG r [ax .u8 1 B0])]) b vh vk (cD 1 z0.v 0 64 none) C0 A1 K0 (y_ (lX N M) q) (λi=>lX N M (64*q+i)) hH (Kz _ q) Zp (λj=>hS _) (TW (by omega) hB),?_⟩;rintro x hs ⟨C,rfl,rfl,hC⟩;refine⟨C,rfl,rfl,by omega,λ_=>⟨by omega,λ_=>?_⟩⟩;intro u;refine⟨u,_,_,_,rfl,λ_ _=>rfl,rfl,rfl,λ_ _=>rfl,⟨q+1,r - 64,by omega,congrArg (λz:Int=>[z]) (by omega),λj hj=>?_,λj hj=>?_⟩,?_⟩
  .simp only[ah];unfold bx;rw[hB _ (by omega)];congr 2;omega
  .simp only[ah,ayI];exact hC j hj
  .simp only[ah];omega
 intro b2;refine⟨by omega,λ_=>?_⟩;intro u8;have hqN:N=64*q+r:=by omega
 have auQ:r<64:=by omega
 have tr:ag (r:Int)=r:=rfl;rw[tr];refine⟨λe=> ∃k:Nat,r+1<=k/\k+8+64*q<=eH N/\e.i=[(k:Int)]/\∀j,j<k->(e.a.getD 0 λ_=>0) j=(lX N M (64*q+j):Nat),λe=>((200:Int) - e.i.getD 0 0).toNat,⟨u8,_,_,rfl,rfl,rfl,λ_ _=>rfl,r+1,by omega,by omega,by rw[Int.natCast_add];rfl,λj hj=>?_⟩,?_⟩
 .simp only[ah];unfold bV;by_cases c:j<r
  .rw [if_neg (by omega)];exact hB j c
  .have:j=r:=by omega
   subst this;rw[if_pos (by omega),Nat.sub_self];unfold lX;rw[if_neg (by omega),if_pos (by omega)];rfl
 rintro z8 x D ⟨k,hk1,hk2,hx,hD⟩;simp only[List.cons.injEq,and_true]at hx;subst hx;simp only[ah]at hD;have XQ:ar .rem .i64 ((k:Int)+8) 64=(((k+8)%64:Nat):Int):=by rw[show(k:Int)+8=((k+8:Nat):Int) by omega];rfl
 rw[XQ];have tk:ag (k:Int)=k:=rfl;rw[tk]
 iterate 3 refine⟨by omega,λ_=>?_⟩
 refine⟨λfL=>?_,λheq=>?_⟩
 .intro b3;refine⟨by omega,λ_=>?_⟩;intro u;refine⟨u,_,_,rfl,rfl,rfl,λ_ _=>rfl,⟨k+1,by omega,by omega,by rw[Int.natCast_add];rfl,λj hj=>?_⟩,?_⟩
  .simp only[ah];unfold au;split
   .rename_i c;unfold lX;rw[if_neg (by omega),if_neg (by omega),if_pos (by omega)];rfl
   .exact hD j (by omega)
  .simp only[ah];omega
 have hk:k+8+64*q=eH N:=by omega
 intro u9;refine⟨by omega,λ_=>?_⟩;intro u10;have hw:ae .u64 (ae .u64 (n0:Int))=(N:Int):=by
  rw[hN];rw[w64 (by omega),w64 (by omega)];rfl
 rw[hw];refine⟨λe=> ∃p:Nat,64*p<=eH N/\e.i=[((eH N - 64*p:Nat):Int)]/\(∀j,j<eH N - 64*p->(e.a.getD 0 λ_=>0) j=(lX N M (64*p+j):Nat))/\∀j,j<8->(e.a.getD 1 λ_=>0) j=(y_ (lX N M) p j:Nat),λe=>(e.i.getD 0 0:Int).toNat,⟨u10,_,_,_,rfl,λ_ _=>rfl,rfl,rfl,λ_ _=>rfl,q,by omega,congrArg (λz:Int=>[z]) (by omega),λj hj=>?_,λj hj=>?_⟩,?_⟩
 .simp only[ah];unfold bV;by_cases c:j<k
  .rw [if_neg (by omega)];exact hD j c
  .rw [if_pos (by omega),acK (by omega) _ (by omega)];unfold lX;rw[if_neg (by omega),if_neg (by omega),if_neg (by omega)];congr 2;omega
 .simp only[ah,ayI];exact hH j hj
 rintro z10 x E F ⟨p,hp,hx,hE,hF⟩;simp only[List.cons.injEq,and_true]at hx;subst hx;simp only[ah,ayI]at hE hF;have tp:ag ((eH N - 64*p:Nat):Int)=eH N - 64*p:=rfl;rw[tp];refine⟨by omega,λ_=>⟨λuC=>?_,λauT=>?_⟩⟩
 .refine⟨by omega,λ_=>?_⟩;refine⟨_,za (B:=[aA true 5 1 z10.v (eH N - 64*p) (aG (eH N - 64*p) [ax .u8 1 E])]) b vh vk (cD 1 z10.v 0 64 none) F A1 K0 (y_ (lX N M) p) (λi=>lX N M (64*p+i)) hF (Kz _ p) Zp (λj=>hS _) (TW (by omega) hE),?_⟩;rintro x hs ⟨C,rfl,rfl,hC⟩;refine⟨C,rfl,rfl,by omega,λ_=>⟨by omega,λ_=>?_⟩⟩;intro u;refine⟨u,_,_,_,rfl,λ_ _=>rfl,rfl,rfl,λ_ _=>rfl,⟨p+1,by omega,congrArg (λz:Int=>[z]) (by omega),λj hj=>?_,λj hj=>?_⟩,?_⟩
  .simp only[ah];unfold bx;rw[hE _ (by omega)];congr 2;omega
  .simp only[ah,ayI];exact hC j hj
  .simp only[ah];omega
 .have Jj:p=(N+8)/64+1:=by omega
  intros
  refine⟨_,rfl,rfl,rfl,congrArg some ?_⟩;unfold dL yg;rw[oC (n:=32) (g:=λj=>((Sh.bytesOf (y_ (lX N M) ((N+8)/64+1)) j:Nat):Int))];intro j hj;rw[<-Jj];exact ahH hF j hj
open Go Go.RX Go.Proofs Go.RX.Sh Go.RX.Fg Go.RX.Fj Go.RX.Fk
theorem H9(b1:Nat)(w0:V1)(n0:Nat)(T0 M:Nat->Nat)(hM: ∀j,M j<256)(hT0: ∀j,j<n0->T0 j=M (0+j))(hl:n0+300<=140737488355328):ao ax8 22 [.slice (some ⟨b1,0,none⟩) 1 1] [ak b1 true [w0.v],dL false w0 n0 T0] λr hs=>r=(Value.agg (aj .u8 32 λj=>((yg (n0+0) M j:Nat):Int)).toArray)/\hs=[ak b1 true [w0.v],dL false w0 n0 T0]:=by
 refine ao.post (p:=λr hs=>r=(Value.agg (aj .u8 32 λj=>((yg (n0+0) M j:Nat):Int)).toArray)/\hs[3]? =some (ak b1 true [w0.v])/\hs[4]? =some (dL false w0 n0 T0)) ?_ ?_;rotate_left
 .rintro r hs ⟨rfl,g0,g1⟩;refine⟨_,bq.idx [3,4] (by decide) ?_,rfl,rfl⟩;intro m u hu
  match m,hu with
  | 0,hu=>cases hu;exact⟨3,rfl,g0⟩
  | 1,hu=>cases hu;exact⟨4,rfl,g1⟩
  | m+2,hu=>simp at hu
 refine TY _ (n0:Int) (λj=>(T0 j:Nat)) w0 b1 ?_;unfold BW;intro b0;refine⟨_,E4,?_⟩;rintro x hs ⟨b,vh,vk,A,B,rfl,rfl,hA,hB⟩;refine⟨b,vh,vk,A,B,rfl,rfl,?_⟩;refine⟨_,E5 b b1 vh vk w0 n0 T0 M hM hT0 A B hA hB hl,?_⟩;rintro x hs ⟨o,rfl,rfl⟩;refine⟨o,λj=>(yg (n0+0) M j:Nat),rfl,rfl,by rw[List.append_eq,List.append_nil],rfl,rfl⟩
end Go.RX.Fm

namespace Go.RX
theorem ao.E6{P:Program}{f:Nat}{args:List Value}{L:List HP}{p:Value->List HP->Prop}(hm:ao P f args L p)(hw: ∀h∈L,h.wr=false):ao P f args L λr hs=> ∃nw,hs=L++nw/\p r nw:=by
 refine(ao.pre (ao.frame hm L) (bq.Ti hw)).post ?_;rintro r hs ⟨nw,rfl,h⟩;exact⟨_,bq.perm List.perm_append_comm,nw,rfl,h⟩
end Go.RX
namespace Go.RX.Vb
open Go Go.RX Go.Proofs Go.Vs Go.RX.Fm Go.RX.Sh
def eH(l:List Nat):List Nat:=(List.range 32).map (yg l.length λj=>l.getD j 0)
theorem cK(l:List Nat):(eH l).length=32:=by simp[eH]
theorem H_(l:List Nat){j:Nat}(h:j<32):aJ (eH l) j=((yg l.length (λj=>l.getD j 0) j:Nat):Int):=by
 rw[gL (by rw[cK];exact h)];simp[eH]
theorem Ml(l:List Nat): ∀x∈eH l,x<256:=by
 intro x hx;obtain⟨j,_,rfl⟩:=ayg.1 hx;exact XP _ _ _
theorem Mm{l:List Nat}(h: ∀x∈l,x<256)(j:Nat):l.getD j 0<256:=by
 rw[ayk];by_cases hj:j<l.length
 .rw [ays hj];exact h _ (List.getElem_mem hj)
 .rw [List.getElem?_eq_none (by omega)];decide
def eO:List Nat:=[72,76,83,84,0,1]
def hJ(l:List Nat):List Nat:=eO++be 4 l.length++l
def eP(l:List Nat):List Nat:=hJ l++(eH (hJ l)).take 8
theorem dq(l:List Nat):(hJ l).length=10+l.length:=by
 simp[hJ,eO,aw];omega
theorem BX{l:List Nat}(h: ∀x∈l,x<256): ∀x∈hJ l,x<256:=by
 intro x hx;rcases ax_.1 hx with hx | hx
 .rcases ax_.1 hx with hx | hx
  .simp only[eO,List.mem_cons,List.not_mem_nil,or_false]at hx;omega
  .exact Y_ _ _ x hx
 .exact h x hx
theorem Ia(b:Nat)(v:V1)(l:List Nat)(h: ∀x∈l,x<256)(hl:l.length+300<=140737488355328):ao ax8 22 [.slice (some ⟨b,0,none⟩) 1 1] [ak b true [v.v],aN false v.v l]
  λr hs=>r= .agg (aj .u8 32 (aJ (eH l))).toArray/\hs=[ak b true [v.v],aN false v.v l]:=by
 refine ao.post (H9 b v l.length (λj=>l.getD j 0) (λj=>l.getD j 0) (Mm h) (λj _=>by rw[Nat.zero_add]) hl) ?_;rintro r hs ⟨rfl,rfl⟩;refine⟨_,bq.refl _,?_,rfl⟩;exact congrArg (λz:List Value=>Value.agg z.toArray) (gy λj hj=>(H_ l hj).symm)
theorem XR(b:Nat)(v:V1)(l:List Nat)(h: ∀x∈l,x<256)(hl:l.length+300<=140737488355328):ao ax8 22 [.slice (some ⟨b,0,none⟩) 1 1] [ak b true [v.v],aN true v.v l]
  λr hs=>r= .agg (aj .u8 32 (aJ (eH l))).toArray/\hs=[ak b true [v.v],aN true v.v l]:=by
 have h1:ao ax8 22 [.slice (some ⟨b,0,none⟩) 1 1] ([ak b true [v.v]]++[aN false v.v l]) λr hs=>r= .agg (aj .u8 32 (aJ (eH l))).toArray/\hs=[ak b true [v.v]]:=by
  refine ao.post (Ia b v l h hl) ?_;rintro r hs ⟨rfl,rfl⟩;exact⟨_,bq.sub (.cons_cons _ (.cons _ .slnil)),rfl,rfl⟩
 refine ao.post (ao.C3 (B:=[aN true v.v l]) h1 ?_ ?_) ?_
 .rintro _ hs ⟨_,rfl⟩ x hx;rw[ax2.1 hx];rfl
 .intro x hx;rw[ax2.1 hx];exact aZ.own
 .rintro r hs ⟨zF,⟨rfl,rfl⟩,rfl⟩;exact⟨_,bq.refl _,rfl,rfl⟩
theorem cu.oL{A:Nat->Int}{l:List Nat}{o:Nat}{z:Int}{c:Nat}(h:cu A l)(ho:o=l.length)(hz:z=c):cu (au A o z) (l++[c]):=by
 subst ho hz;intro j hj;rw[axP,axR]at hj;simp only[au,aJ,ayk];split
 .rename_i e;subst e;simp
 .rw [axX (by omega),h j (by omega)];simp[aJ]
theorem KB(b b1:Nat)(x:Nat):ao ax8 21 [wP b,.int .u64 (x:Int),.int .i64 4] [ak b true ([.bool true,.slice (some ⟨b1,0,none⟩) 6 6,.bool false]),ak b1 false ([.int .u8 72,.int .u8 76,.int .u8 83,.int .u8 84,.int .u8 0,.int .u8 1])]
  λr hs=>r= .int .u64 (x:Int)/\∃v':V1,hs=[dB b true v'.v false,aN true v'.v (eO++be 4 x)]:=by
 refine ao.post (Xm (λr hs=>r= .int .u64 (x:Int)/\∃v':V1,List.Sublist [dB b true v'.v false,aN true v'.v (eO++be 4 x)] hs) (x:Int) b b1 ?_) ?_;rotate_left
 .rintro r hs ⟨rfl,v',h⟩;exact⟨_,bq.sub h,rfl,v',rfl⟩
 unfold L_;dsimp only[Ru,gu];intro b2 _ b3 _ b4 _ b5 v';refine⟨rfl,v',?_⟩;have hb:cu (au (au (au (au (au (au (λ_=>(0:Int)) 0 72) 1 76) 2 83) 3 84) 4 0) 5 1) eO:=by
  intro j hj
  match j,hj with
  | 0,_=>rfl
  | 1,_=>rfl
  | 2,_=>rfl
  | 3,_=>rfl
  | 4,_=>rfl
  | 5,_=>rfl
  | j+6,hj=>exact absurd hj (by simp[eO])
 have h1:=hb.jA (o:=6) (n:=1) (m:=[x/2^24%256]) (g:=au (λ_=>0) 0 (ae .u8 (ar .shr .u64 (x:Int) 24))) rfl rfl λj hj=>by
  rw[show j=0 by omega];exact gK x 24 (by omega) 24 rfl
 have h2:=h1.oL (o:=7) rfl (gK x 16 (by omega) 16 rfl);have h3:=h2.oL (o:=8) rfl (gK x 8 (by omega) 8 rfl);have h4:=h3.oL (o:=9) rfl (gK x 0 (by omega) 0 rfl);have e:eO++be 4 x=eO++[x/2^24%256]++[x/2^16%256]++[x/2^8%256]++[x/2^0%256]:=by
  simp only[be,List.nil_append,Nat.pow_zero,Nat.div_one,ayl,Nat.div_div_eq_div_mul,Nat.reducePow,Nat.reduceMul,List.cons_append]
 rw[e];refine .cons_cons _ (.cons _ (.cons _ ?_));have h5:=h4.wj;have e10:(eO++[x/2^24%256]++[x/2^16%256]++[x/2^8%256]++[x/2^0%256]).length=10:=rfl;rw[e10]at h5;rw[h5];exact .cons_cons _ (.cons _ (.cons _ (.cons _ .slnil)))
set_option maxRecDepth 100000 in
set_option maxHeartbeats 4000000 in
theorem D4(s:Vs.State)(most cP:Int)(u1 u2 u3 u4 u5 u6 u7:V1)(C:Nat->Int)(H:HP)(hH:H.wr=false)(hP:lK H s.table.aD C)(hs:sQ s)(hm:lL s most cP=true->most=(s.table.most:Int)/\cP=(s.call.fu:Int) - 1/\zR s)(hb:hZ (aX.enc s)):
  ao ax8 9 [.agg (kI s most cP u1.v u2.v u3.v u4.v u5.v u6.v u7.v).toArray] (ef false s C u1.v u2.v u3.v u4.v u5.v u6.v u7.v++[H]) λr hs=>
   (lL s most cP=false->r= .tuple #[.slice none 0 0,.int .i64 2]/\hs=[])/\
   (lL s most cP=true->4194286<(aX.enc s).length->r= .tuple #[.slice none 0 0,.int .i64 3]/\hs=[])/\
   (lL s most cP=true->(aX.enc s).length<=4194286->∃o:V1,r= .tuple #[o.v,.int .i64 0]/\hs=[aN true o.v (eP (aX.enc s))]):=by
 have hw: ∀h∈ef false s C u1.v u2.v u3.v u4.v u5.v u6.v u7.v++[H],h.wr=false:=by
  intro h hh;rcases ax_.1 hh with hh | hh
  .exact lookW rfl h hh
  .rw [ax2.1 hh];exact hH
 refine abM _ (s.drawn:Int) (s.table.keys.dev.a:Int) (s.table.keys.dev.d:Int) most (s.call.me.a:Int) (s.call.me.d:Int) (s.call.state:Int) (bi s.call.out) (s.call.aM:Int) (s.call.peer.a:Int) (s.call.peer.d:Int) cP (s.call.eD:Int) (s.call.bP:Int) (s.call.since:Int) (s.call.heard:Int) (s.call.lJ:Int) (s.call.fQ:Int)
  (s.table.keys.once.length:Int) (s.table.aD.length:Int) (s.call.dead.length:Int) (s.call.marks.length:Int) (s.call.early.length:Int) (s.log.length:Int) (s.aF.length:Int)
  (aJ s.lW) (aJ s.table.keys.ident) (aJ s.table.keys.signed) (aJ s.call.bE) (aJ s.call.id) (aJ s.call.own) (aJ s.call.cH) (aJ s.call.fi) (bu dj.id s.table.keys.once) (cb dj.cT s.table.keys.once) (bu (λp:eu=>p.dev.a) s.table.aD) (bu (λp:eu=>p.dev.d) s.table.aD) C (cb (λx=>x) s.call.dead) (aJ s.call.marks) (bu js.a s.call.early) (bu js.d s.call.early) (aJ s.log) (cb Room.id s.aF) (bu Room.aM s.aF) (dK Room.out s.aF) (bu Room.since s.aF) u1 u2 u3 u4 u5 u6 u7 H ?_
 unfold SK;dsimp only[bQ,cr,m8,m9,mr,qw,mu,Ru,gu,yW];intro b0;refine⟨_,ao.looks (tA s most cP u1 u2 u3 u4 u5 u6 u7 C H hH hP hs) hw,?_⟩;rintro x lU ⟨rfl,rfl⟩;refine⟨_,rfl,rfl,?_⟩;refine⟨λhq=>?_,λhq=>?_⟩
 .have hf:lL s most cP=false:=by simpa using hq
  exact⟨λ_=>⟨rfl,rfl⟩,λh=>Bool.noConfusion (hf.symm.trans h),λh=>Bool.noConfusion (hf.symm.trans h)⟩
 have ht:lL s most cP=true:=by simpa using hq
 obtain⟨rfl,rfl,iW⟩:=hm ht;refine⟨_,ao.E6 (uY s u1 u2 u3 u4 u5 u6 u7 C H hH hP iW hb.n) hw,?_⟩;rintro x lU ⟨nw,rfl,o,rfl,rfl⟩;obtain⟨L,hL⟩: ∃L,L=aX.enc s:=⟨_,rfl⟩;rw[<-hL]at hb ⊢;refine⟨o,(L.length:Int),aJ L,rfl,rfl,?_⟩;refine⟨by omega,λ_=>⟨λhl=>?_,λhl=>?_⟩⟩
 .exact⟨λh=>Bool.noConfusion (ht.symm.trans h),λ_ _=>⟨rfl,rfl⟩,λ_ h=>absurd h (by omega)⟩
 have PU:L.length<=4194286:=by omega
 intro b1 b2;rw[jb (by omega)];refine⟨_,KB b2 b1 L.length,?_⟩;rintro x lU ⟨rfl,v8,rfl⟩;have n0:(eO++be 4 L.length).length=10:=by simp[eO,aw]
 refine⟨v8,(L.length:Int),10,aJ (eO++be 4 L.length),rfl,congrArg (λn:Nat=>[dB b2 true v8.v false,aA true 5 1 v8.v n (aG n [ax .u8 1 (aJ (eO++be 4 L.length))])]) n0,?_⟩;refine⟨by omega,λ_=>⟨by omega,λ_=>?_⟩⟩;intro v9 b3;have hA:cu (bV (aJ (eO++be 4 L.length)) (ag 10) (ag (L.length:Int)) (aJ L)) (hJ L):=cu.rfl.jA n0.symm (ax3 _) λ_ _=>rfl
 have hn:ag (10+(L.length:Int))=(hJ L).length:=by rw[dq];omega
 rw[hn,hA.wj];refine⟨_,XR b3 v9 (hJ L) (BX hb.b) (by rw[dq];omega),?_⟩;rintro x lU ⟨rfl,rfl⟩;refine⟨aJ (eH (hJ L)),by rw[show∀l:List Value,axQ l []=l from List.append_nil],rfl,?_⟩;intro b4;refine⟨by omega,λ_=>⟨by omega,λ_=>?_⟩⟩;intro v10;refine⟨λh=>Bool.noConfusion (ht.symm.trans h),λ_ h=>absurd h (by omega),λ_ _=>⟨v10,rfl,?_⟩⟩;have hB:cu (bV (bV (aJ (eO++be 4 L.length)) (ag 10) (ag (L.length:Int)) (aJ L)) (hJ L).length 8 (aJ (eH (hJ L)))) (eP L):=hA.jA rfl (by rw[List.length_take,cK];rfl) λj hj=>by
  rw[gL (by rw[cK];omega),gL (by rw[List.length_take,cK];omega),List.getElem_take]
 have hn2:ag (10+(L.length:Int)+8)=(eP L).length:=by
  rw[eP,axP,dq,List.length_take,cK];omega
 rw[hn2,hB.wj]
open Go Go.RX Go.Proofs Go.Vs
theorem TZ{e:bX}(h:bS.ok e):mO e:=by
 obtain⟨⟨a1,a2,a3,a4,_,_,_,_,⟨a5,a6⟩,⟨a7,a8⟩,a9,ES,C4⟩,b1,b2,_,b3,_⟩:=h;exact⟨a1,a2,a3,a4,a5,a6,a7,a8,a9,ES,λx hx=>(C4 x hx).1,λx hx=>(C4 x hx).2.1,λx hx=>(C4 x hx).2.2,b1,b2,b3⟩
theorem Pe{p:eu}(h:bI.ok p):kb p:=by
 obtain⟨⟨a1,a2⟩,a3,a4⟩:=h;exact⟨a1,a2,a3,λe he=>TZ (a4 e he)⟩
theorem Al{s:Vs.State}(h:aX.ok s):zR s:=by
 obtain⟨a1,a2,⟨⟨⟨a3,a4⟩,a5,a6,a7,a8⟩,a9,ES,C4⟩,⟨⟨c1,c2⟩,c3,⟨c4,c5⟩,c6,c7,_,c8,⟨c9,c10⟩,Ht,Hu,c13,c14,c15,⟨c16,c17⟩,_,_,_,_,_,c18⟩,l1,r1,r2⟩:=h;exact⟨a1,a2,a3,a4,a5,a6,a7,λx hx=>(a8 x hx).1,λx hx=>(a8 x hx).2,a9,ES,λp hp=>Pe (C4 p hp),c1,c2,c3,c4,c5,c6,c7,c8,c9,c10,Ht,Hu,c13,c14,c15,c16,λx hx=>(c17 x hx).1,λx hx=>(c17 x hx).2,c18,l1,r1,λx hx=>(r2 x hx).1,λx hx=>(r2 x hx).2.1⟩
theorem sS{s:Vs.State}(h:zR s)(hb:hZ (aX.enc s)):sQ s:=by
 have Bn:s.log.Sublist (aX.enc s):=by
  rw[qy];refine List.Sublist.trans ?_ (List.sublist_append_right _ _);refine List.Sublist.trans ?_ (List.sublist_append_right _ _);refine List.Sublist.trans ?_ (List.sublist_append_right _ _);refine List.Sublist.trans ?_ (List.sublist_append_right _ _);refine List.Sublist.trans ?_ (List.sublist_append_left _ _);exact List.sublist_append_right _ _
 exact⟨h.once,h.aD,h.peer,h.dead,h.marks,h.early,⟨λx hx=>hb.b x (Bn.subset hx),Nat.le_trans Bn.length_le hb.n⟩,h.aF,h.HL⟩
def bc(l:List Nat)(lo hi:Nat):List Nat:=(l.drop lo).take (hi - lo)
theorem gM{l:List Nat}{lo hi:Nat}(h1:lo<=hi)(h2:hi<=l.length):(bc l lo hi).length=hi - lo:=by
 simp[bc];omega
theorem wR{l:List Nat}(h: ∀x∈l,x<256){lo hi:Nat}: ∀x∈bc l lo hi,x<256:=λx hx=>h x (List.mem_of_mem_drop (List.mem_of_mem_take hx))
theorem BY{l:List Nat}(h:hZ l){lo hi:Nat}:hZ (bc l lo hi):=(h.drop _).take _
theorem D5(l:List Nat):bc l 0 l.length=l:=by simp[bc]
def yi(l:List Nat):Prop:=18<=l.length/\bc l 0 6=eO
def BZ(l:List Nat):Prop:=jC (bc l 6 10)=l.length - 18/\(eH (bc l 0 (l.length - 8))).take 8=bc l (l.length - 8) l.length
instance (l:List Nat):Decidable (yi l):=by unfold yi;infer_instance
instance (l:List Nat):Decidable (BZ l):=by unfold BZ;infer_instance
def qz(l:List Nat):Vs.State×tq:=aX.bB (some (bc l 10 (l.length - 8)))
def kB(l:List Nat):Option Vs.State:=
 if l.length<=4194304/\yi l/\BZ l/\(qz l).2=some []/\lL (qz l).1 (qz l).1.table.most ((qz l).1.call.fu - 1)=true then some (qz l).1 else none
theorem XS{l:List Nat}(hl: ∀x∈l,x<256)(h:(qz l).2=some []):bc l 10 (l.length - 8)=aX.enc (qz l).1/\zR (qz l).1:=by
 have h0:qz l=((qz l).1,some []):=by rw[<-h]
 have h1:=aX.bwd (bc l 10 (l.length - 8)) (qz l).1 [] (wR hl) h0;exact⟨by rw[h1.1,List.append_nil],Al h1.2⟩
theorem Ib{l m:List Nat}(e:l=eP m)(hn:m.length<256^4):yi l/\BZ l/\bc l 10 (l.length - 8)=m:=by
 have hlen:l.length=m.length+18:=by
  rw[e,eP,axP,dq,List.length_take,cK];omega
 have e0:l=hJ m++(eH (hJ m)).take 8:=e;have p0:bc l 0 (l.length - 8)=hJ m:=by
  rw[bc,List.drop_zero,e0,axP,dq,List.length_take,cK];exact List.take_left' (by rw[dq];omega)
 have p1:bc l (l.length - 8) l.length=(eH (hJ m)).take 8:=by
  rw[bc,e0,axP,dq,List.length_take,cK,show 10+m.length+min 8 32 - 8=(hJ m).length by rw[dq];omega,List.drop_left];exact List.take_of_length_le (by rw[List.length_take,cK,dq];omega)
 have e1:l=eO++(be 4 m.length++(m++(eH (hJ m)).take 8)):=by rw[e0,hJ];simp
 refine⟨⟨by omega,?_⟩,⟨?_,by rw[p0,p1]⟩,?_⟩
 .rw [bc,List.drop_zero,e1];rfl
 .rw [bc,e1];rw[show List.drop 6 (eO++(be 4 m.length++(m++(eH (hJ m)).take 8)))=be 4 m.length++(m++(eH (hJ m)).take 8)from rfl,List.take_left' (by rw[aw]),LL 4 _ hn];rw[<-e1,hlen];omega
 .rw [bc,hlen,e1];rw[show List.drop 10 (eO++(be 4 m.length++(m++(eH (hJ m)).take 8)))=m++(eH (hJ m)).take 8 by
   rw[<-ayl];exact List.drop_left' (by simp[eO,aw])]
  exact List.take_left' (by omega)
end Go.RX.Vb
