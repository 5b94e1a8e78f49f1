/- SHA-256. -/
import Derived.Test.YtphemenngjkfbaaM46
open Go.IntKind renaming i64 → agB, u8 → agu, wrap → ae
open Go.Proofs.Try renaming prog → agQ
open Int renaming toNat → ag
open List renaming append → agw, getD_cons_succ → agY, getD_cons_zero → ah, getElem?_append_left → agC, getElem?_append_right → agD, getElem?_eq_getElem → ag6, getElem?_eq_none → ag7, getElem?_eq_some_iff → agx
open List.cons renaming injEq → agO
open Option.some renaming injEq → agy
namespace Go.RX.Sh
open Go.RX Go.Proofs
set_option maxRecDepth 100000
noncomputable def Bw:F:=eE cx 127 ([SV.ptr 0 0,SV.ji 2 [{lo:=E.lit 0,hi:=E.lit 64,mx:=none}] 1]) ([Ck.row 0 true [SV.vv 0,SV.vv 1,SV.int (agB) (E.lit 4),SV.int (agB) (E.lit 2),SV.int (agB) (E.lit 13),SV.int (agB) (E.lit 22),SV.int (agB) (E.lit 6),SV.int (agB) (E.lit 11),SV.int (agB) (E.lit 25),SV.int (agB) (E.lit 7),SV.int (agB) (E.lit 18),SV.int (agB) (E.lit 3),SV.int (agB) (E.lit 17),SV.int (agB) (E.lit 19),SV.int (agB) (E.lit 10)],Ck.cy true 0 107 1 (E.lit 8) [{ck:=CK.int (Go.IntKind.u32),w:=1,a:=E.aw 0}],Ck.cy true 1 107 1 (E.lit 64) [{ck:=CK.int (Go.IntKind.u32),w:=1,a:=E.aw 1}],Ck.cy true 2 5 1 (E.var 0) [{ck:=CK.int (agu),w:=1,a:=E.aw 2}]]) ({b:=1,v:=3,i:=1,a:=3,bo:=0,p:=0,r:=0}) Try.f127
def Hv(_:Program)(aq:Value→List HP→Prop)(x0:Int)(A0:Nat→Int)(A1:Nat→Int)(A2:Nat→Int)(v0:V1)(v1:V1)(v2:V1)(b0:Nat):Prop:=
 ∀v3:V1,aE (64≤x0) (
 ∃(fY:Ext→Prop) (jM:Ext→Nat),(∃x1:Int,∃A3:(Nat→Int),x1=0∧(∀j,j<64→A3 j=(fun _=>0) j)∧fY ⟨[],[],[x1],[A3],[],[],[]⟩)∧
 ∀x1:Int,∀A3:(Nat→Int),fY ⟨[],[],[x1],[A3],[],[],[]⟩→
 aK (x1<64) (
 aE (0≤(ae .i64 (aF .quo .i64 x1 4))) (
 aE ((ae .i64 (aF .quo .i64 x1 4))<64) (
 aE (64≤x0) (
 aE (0≤x1) (
 aE (x1<x0) (
 aE ((-9223372036854775808)≤(x1+1)) (
 aE ((x1+1)≤9223372036854775807) (
 ∃V4:Int,∃V5:(Nat→Int),V4=(x1+1)∧(∀j,j<64→V5 j=(aj A3 (ag (ae .i64 (aF .quo .i64 x1 4))) (aF .om .u32 (aF .shl .u32 (A3 (ag (ae .i64 (aF .quo .i64 x1 4)))) 8) (ae .u32 (A2 (ag x1))))) j)∧fY ⟨[],[],[V4],[V5],[],[],[]⟩∧jM ⟨[],[],[V4],[V5],[],[],[]⟩<jM ⟨[],[],[x1],[A3],[],[],[]⟩)))))))) (
 ∃(uN:Ext→Prop) (uO:Ext→Nat),(∃x2:Int,∃A4:(Nat→Int),x2=16∧(∀j,j<64→A4 j=A3 j)∧uN ⟨[],[],[x2],[A4],[],[],[]⟩)∧
 ∀x2:Int,∀A4:(Nat→Int),uN ⟨[],[],[x2],[A4],[],[],[]⟩→
 aK (x2<64) (
 aE ((-9223372036854775808)≤(x2 - 2)) (
 aE ((x2 - 2)≤9223372036854775807) (
 aE (0≤(x2 - 2)) (
 aE ((x2 - 2)<64) (
 aE ((-9223372036854775808)≤(x2 - 7)) (
 aE ((x2 - 7)≤9223372036854775807) (
 aE (0≤(x2 - 7)) (
 aE ((x2 - 7)<64) (
 aE ((-9223372036854775808)≤(x2 - 15)) (
 aE ((x2 - 15)≤9223372036854775807) (
 aE (0≤(x2 - 15)) (
 aE ((x2 - 15)<64) (
 aE ((-9223372036854775808)≤(x2 - 16)) (
 aE ((x2 - 16)≤9223372036854775807) (
 aE (0≤(x2 - 16)) (
 aE ((x2 - 16)<64) (
 ∀_:Nat,∀_:Nat,aE (0≤x2) (
 aE ((-9223372036854775808)≤(x2+1)) (
 aE ((x2+1)≤9223372036854775807) (
 ∃M1:Int,∃V6:(Nat→Int),M1=(x2+1)∧(∀j,j<64→V6 j=(aj A4 (ag x2) (ae .u32 ((ae .u32 ((ae .u32 ((aF .eH .u32 (aF .eH .u32 (aF .om .u32 (aF .shr .u32 (A4 (ag (x2 - 2))) 17) (aF .shl .u32 (A4 (ag (x2 - 2))) 15)) (aF .om .u32 (aF .shr .u32 (A4 (ag (x2 - 2))) 19) (aF .shl .u32 (A4 (ag (x2 - 2))) 13))) (aF .shr .u32 (A4 (ag (x2 - 2))) 10))+(A4 (ag (x2 - 7)))))+(aF .eH .u32 (aF .eH .u32 (aF .om .u32 (aF .shr .u32 (A4 (ag (x2 - 15))) 7) (aF .shl .u32 (A4 (ag (x2 - 15))) 25)) (aF .om .u32 (aF .shr .u32 (A4 (ag (x2 - 15))) 18) (aF .shl .u32 (A4 (ag (x2 - 15))) 14))) (aF .shr .u32 (A4 (ag (x2 - 15))) 3))))+(A4 (ag (x2 - 16)))))) j)∧uN ⟨[],[],[M1],[V6],[],[],[]⟩∧uO ⟨[],[],[M1],[V6],[],[],[]⟩<uO ⟨[],[],[x2],[A4],[],[],[]⟩)))))))))))))))))))) (
 ∀b1:Nat,∃(D8:Ext→Prop) (D9:Ext→Nat),(∃x3:Int,∃x4:Int,∃x5:Int,∃x6:Int,∃x7:Int,∃x8:Int,∃x9:Int,∃aO:Int,∃aQ:Int,aQ=0∧x3=(A0 0)∧x4=(A0 1)∧x5=(A0 2)∧x6=(A0 3)∧x7=(A0 4)∧x8=(A0 5)∧x9=(A0 6)∧aO=(A0 7)∧D8 ⟨[],[],[x3,x4,x5,x6,x7,x8,x9,aO,aQ],[],[],[],[]⟩)∧
 ∀x3:Int,∀x4:Int,∀x5:Int,∀x6:Int,∀x7:Int,∀x8:Int,∀x9:Int,∀aO:Int,∀aQ:Int,D8 ⟨[],[],[x3,x4,x5,x6,x7,x8,x9,aO,aQ],[],[],[],[]⟩→
 aK (aQ<64) (
 aE (0≤aQ) (
 ∀_:Nat,∀_:Nat,aE ((-9223372036854775808)≤(aQ+1)) (
 aE ((aQ+1)≤9223372036854775807) (
 ∃OU:Int,∃AO:Int,∃OV:Int,∃DV:Int,∃V_:Int,∃Qa:Int,∃nF:Int,∃ko:Int,∃pD:Int,pD=(aQ+1)∧OU=(ae .u32 ((ae .u32 ((ae .u32 ((ae .u32 ((ae .u32 (aO+(aF .eH .u32 (aF .eH .u32 (aF .om .u32 (aF .shr .u32 x7 6) (aF .shl .u32 x7 26)) (aF .om .u32 (aF .shr .u32 x7 11) (aF .shl .u32 x7 21))) (aF .om .u32 (aF .shr .u32 x7 25) (aF .shl .u32 x7 7)))))+(aF .eH .u32 (aF .oT .u32 x7 x8) (aF .oT .u32 (aF .eH .u32 4294967295 x7) x9))))+(A1 (ag aQ))))+(A4 (ag aQ))))+(ae .u32 ((aF .eH .u32 (aF .eH .u32 (aF .om .u32 (aF .shr .u32 x3 2) (aF .shl .u32 x3 30)) (aF .om .u32 (aF .shr .u32 x3 13) (aF .shl .u32 x3 19))) (aF .om .u32 (aF .shr .u32 x3 22) (aF .shl .u32 x3 10)))+(aF .eH .u32 (aF .eH .u32 (aF .oT .u32 x3 x4) (aF .oT .u32 x3 x5)) (aF .oT .u32 x4 x5))))))∧AO=x3∧OV=x4∧DV=x5∧V_=(ae .u32 (x6+(ae .u32 ((ae .u32 ((ae .u32 ((ae .u32 (aO+(aF .eH .u32 (aF .eH .u32 (aF .om .u32 (aF .shr .u32 x7 6) (aF .shl .u32 x7 26)) (aF .om .u32 (aF .shr .u32 x7 11) (aF .shl .u32 x7 21))) (aF .om .u32 (aF .shr .u32 x7 25) (aF .shl .u32 x7 7)))))+(aF .eH .u32 (aF .oT .u32 x7 x8) (aF .oT .u32 (aF .eH .u32 4294967295 x7) x9))))+(A1 (ag aQ))))+(A4 (ag aQ))))))∧Qa=x7∧nF=x8∧ko=x9∧D8 ⟨[],[],[OU,AO,OV,DV,V_,Qa,nF,ko,pD],[],[],[],[]⟩∧D9 ⟨[],[],[OU,AO,OV,DV,V_,Qa,nF,ko,pD],[],[],[],[]⟩<D9 ⟨[],[],[x3,x4,x5,x6,x7,x8,x9,aO,aQ],[],[],[],[]⟩)))) (
 ∃(QC:Ext→Prop) (Uz:Ext→Nat),(∃aM:Int,∃A5:(Nat→Int),∃A6:(Nat→Int),aM=0∧(∀j,j<8→A5 j=A0 j)∧(∀j,j<8→A6 j=(aj (aj (aj (aj (aj (aj (aj (aj (fun _=>0) 0 x3) 1 x4) 2 x5) 3 x6) 4 x7) 5 x8) 6 x9) 7 aO) j)∧QC ⟨[],[],[aM],[A5,A6],[],[],[]⟩)∧
 ∀aM:Int,∀A5:(Nat→Int),∀A6:(Nat→Int),QC ⟨[],[],[aM],[A5,A6],[],[],[]⟩→
 aK (aM<8) (
 aE (0≤aM) (
 aE ((-9223372036854775808)≤(aM+1)) (
 aE ((aM+1)≤9223372036854775807) (
 ∃tR:Int,∃A5':(Nat→Int),∃A6':(Nat→Int),tR=(aM+1)∧(∀j,j<8→A5' j=(aj A5 (ag aM) (ae .u32 ((A5 (ag aM))+(A6 (ag aM))))) j)∧(∀j,j<8→A6' j=A6 j)∧QC ⟨[],[],[tR],[A5',A6'],[],[],[]⟩∧Uz ⟨[],[],[tR],[A5',A6'],[],[],[]⟩<Uz ⟨[],[],[aM],[A5,A6],[],[],[]⟩)))) (
 aq (.tuple #[]) [ao b0 true ([v0.v,v1.v,.int .i64 4,.int .i64 2,.int .i64 13,.int .i64 22,.int .i64 6,.int .i64 11,.int .i64 25,.int .i64 7,.int .i64 18,.int .i64 3,.int .i64 17,.int .i64 19,.int .i64 10]),aC true 107 1 v0.v 8 (aT 8 [ax .u32 1 A5]),aC true 107 1 v1.v 64 (aT 64 [ax .u32 1 A1]),aC true 5 1 v2.v (ag x0) (aT (ag x0) [ax .u8 1 A2]),aC true 107 1 v3.v 64 (aT 64 [ax .u32 1 A4]),ao b1 true (agw (ak .u32 8 A6) ([]))])))))
theorem QD(P:Program)(aq:Value→List HP→Prop)(x0:Int)(A0:Nat→Int)(A1:Nat→Int)(A2:Nat→Int)(v0:V1)(v1:V1)(v2:V1)(b0:Nat)(L:Nat→LC):VC P aq Bw {iv:=[x0],av:=[A0,A1,A2],bo:=[],bv:=[b0],vv:=[v0,v1,v2]} L=Hv P aq x0 A0 A1 A2 v0 v1 v2 b0:=by kernel_rfl
theorem Nl:eE cx 127 ([SV.ptr 0 0,SV.ji 2 [{lo:=E.lit 0,hi:=E.lit 64,mx:=none}] 1]) ([Ck.row 0 true [SV.vv 0,SV.vv 1,SV.int (agB) (E.lit 4),SV.int (agB) (E.lit 2),SV.int (agB) (E.lit 13),SV.int (agB) (E.lit 22),SV.int (agB) (E.lit 6),SV.int (agB) (E.lit 11),SV.int (agB) (E.lit 25),SV.int (agB) (E.lit 7),SV.int (agB) (E.lit 18),SV.int (agB) (E.lit 3),SV.int (agB) (E.lit 17),SV.int (agB) (E.lit 19),SV.int (agB) (E.lit 10)],Ck.cy true 0 107 1 (E.lit 8) [{ck:=CK.int (Go.IntKind.u32),w:=1,a:=E.aw 0}],Ck.cy true 1 107 1 (E.lit 64) [{ck:=CK.int (Go.IntKind.u32),w:=1,a:=E.aw 1}],Ck.cy true 2 5 1 (E.var 0) [{ck:=CK.int (agu),w:=1,a:=E.aw 2}]]) ({b:=1,v:=3,i:=1,a:=3,bo:=0,p:=0,r:=0}) Try.f127=Bw:=rfl
open Go.RX Go.Proofs
theorem acx{x:Int}(h0:0≤x)(h1:x≤64):ae .i64 (aF .quo .i64 x 4)=((x.toNat/4:Nat):Int):=by
 obtain⟨i,rfl⟩:=Int.eq_ofNat_of_zero_le h0;show ae .i64 (Int.tdiv (i:Int) 4)=_;have:Int.tdiv (i:Int) 4=((i/4:Nat):Int):=rfl;rw [this,Int.toNat_natCast];simp [ae,IntKind.signed,IntKind.bits];omega
abbrev QE(b:Nat)(vh vk:V1):HP:=ao b true [vh.v,vk.v,.int .i64 4,.int .i64 2,.int .i64 13,.int .i64 22,.int .i64 6,.int .i64 11,.int .i64 25,.int .i64 7,.int .i64 18,.int .i64 3,.int .i64 17,.int .i64 19,.int .i64 10]
abbrev Fa(b:Nat)(vh vk vb:V1)(n:Nat)(A0 A1 A2:Nat→Int):List HP:=
 [QE b vh vk,aC true 107 1 vh.v 8 (aT 8 [ax .u32 1 A0]),aC true 107 1 vk.v 64 (aT 64 [ax .u32 1 A1]),aC true 5 1 vb.v n (aT n [ax .u8 1 A2])]
theorem QF{B:Nat→Nat}{A:Nat→Int}(hB: ∀j,j<64→B j<256){t:Int}(h0:16≤t)(h1:t<64)(hA: ∀j,j<64→A j=((gF B (t.toNat - 16) j:Nat):Int))(j:Nat)(hj:j<64):
  aj A (ag t) (ae .u32 ((ae .u32 ((ae .u32 ((aF .eH .u32 (aF .eH .u32 (aF .om .u32 (aF .shr .u32 (A (ag (t - 2))) 17) (aF .shl .u32 (A (ag (t - 2))) 15)) (aF .om .u32 (aF .shr .u32 (A (ag (t - 2))) 19) (aF .shl .u32 (A (ag (t - 2))) 13))) (aF .shr .u32 (A (ag (t - 2))) 10))+(A (ag (t - 7)))))+(aF .eH .u32 (aF .eH .u32 (aF .om .u32 (aF .shr .u32 (A (ag (t - 15))) 7) (aF .shl .u32 (A (ag (t - 15))) 25)) (aF .om .u32 (aF .shr .u32 (A (ag (t - 15))) 18) (aF .shl .u32 (A (ag (t - 15))) 14))) (aF .shr .u32 (A (ag (t - 15))) 3))))+(A (ag (t - 16))))) j
   =((gF B (t.toNat - 16+1) j:Nat):Int):=by
 have hl:=Qj hB (t.toNat - 16);obtain⟨n,hn⟩: ∃n,n=t.toNat - 16:=⟨_,rfl⟩;rw [←hn]at hA hl ⊢;rw [gF];unfold aj;dsimp only;by_cases WB:j=t.toNat
 ·rw [if_pos WB,if_pos (by omega)];rw [hA (ag (t - 2)) (by omega),hA (ag (t - 7)) (by omega),hA (ag (t - 15)) (by omega),hA (ag (t - 16)) (by omega)];rw [show ag (t - 2)=n+14 by omega,show ag (t - 7)=n+9 by omega,show ag (t - 15)=n+1 by omega,show ag (t - 16)=n by omega];rw [abS (hl _),abR (hl _),rM,rM,rM];congr 1;omega
 ·rw [if_neg WB,if_neg (by omega)];exact hA j hj
theorem Tx{v:Nat→Nat}(hv: ∀j,j<8→v j<2^32)(k w:Nat):
  ae .u32 ((ae .u32 ((ae .u32 ((ae .u32 (((v 7:Nat):Int)+(aF .eH .u32 (aF .eH .u32 (aF .om .u32 (aF .shr .u32 ((v 4:Nat):Int) 6) (aF .shl .u32 ((v 4:Nat):Int) 26)) (aF .om .u32 (aF .shr .u32 ((v 4:Nat):Int) 11) (aF .shl .u32 ((v 4:Nat):Int) 21))) (aF .om .u32 (aF .shr .u32 ((v 4:Nat):Int) 25) (aF .shl .u32 ((v 4:Nat):Int) 7)))))+(aF .eH .u32 (aF .oT .u32 ((v 4:Nat):Int) ((v 5:Nat):Int)) (aF .oT .u32 (aF .eH .u32 4294967295 ((v 4:Nat):Int)) ((v 6:Nat):Int)))))+((k:Nat):Int)))+((w:Nat):Int))=((temp v k w:Nat):Int):=by
 rw [abU (hv 4 (by omega)),abV (hv 4 (by omega)) (hv 5 (by omega)) (hv 6 (by omega)),rM,rM,rM,rM];unfold temp;congr 1;omega
theorem QG{v:Nat→Nat}(hv: ∀j,j<8→v j<2^32):
  ae .u32 ((aF .eH .u32 (aF .eH .u32 (aF .om .u32 (aF .shr .u32 ((v 0:Nat):Int) 2) (aF .shl .u32 ((v 0:Nat):Int) 30)) (aF .om .u32 (aF .shr .u32 ((v 0:Nat):Int) 13) (aF .shl .u32 ((v 0:Nat):Int) 19))) (aF .om .u32 (aF .shr .u32 ((v 0:Nat):Int) 22) (aF .shl .u32 ((v 0:Nat):Int) 10)))+(aF .eH .u32 (aF .eH .u32 (aF .oT .u32 ((v 0:Nat):Int) ((v 1:Nat):Int)) (aF .oT .u32 ((v 0:Nat):Int) ((v 2:Nat):Int))) (aF .oT .u32 ((v 1:Nat):Int) ((v 2:Nat):Int))))=(((S0 (v 0)+Y0 (v 0) (v 1) (v 2))%2^32:Nat):Int):=by
 rw [abT (hv 0 (by omega)),Y3 (hv 0 (by omega)) (hv 1 (by omega)) (hv 2 (by omega)),rM]
def eight(v:Nat→Nat)(a:Nat):List Int:=[((v 0:Nat):Int),((v 1:Nat):Int),((v 2:Nat):Int),((v 3:Nat):Int),((v 4:Nat):Int),((v 5:Nat):Int),((v 6:Nat):Int),((v 7:Nat):Int),(a:Int)]
theorem JT(v:Nat→Nat)(k w a:Nat):[(((temp v k w+(S0 (v 0)+Y0 (v 0) (v 1) (v 2))%2^32)%2^32:Nat):Int),((v 0:Nat):Int),((v 1:Nat):Int),((v 2:Nat):Int),(((v 3+temp v k w)%2^32:Nat):Int),((v 4:Nat):Int),((v 5:Nat):Int),((v 6:Nat):Int),(a:Int)+1]=eight (step v k w) (a+1):=by
 unfold eight;rw [Wu,Wv,xx v k w (j:=1) (by decide) (by decide) (by decide),xx v k w (j:=2) (by decide) (by decide) (by decide),xx v k w (j:=3) (by decide) (by decide) (by decide),xx v k w (j:=5) (by decide) (by decide) (by decide),
  xx v k w (j:=6) (by decide) (by decide) (by decide),xx v k w (j:=7) (by decide) (by decide) (by decide),Int.natCast_add a 1]
 simp only [Int.natCast_one]
theorem Ty{K H B R:Nat→Nat}(hR:R=Xb K (gF B 48) H 64)(j:Nat):comp K H B j=(H j+R j)%2^32:=by
 unfold comp;rw [hR]
theorem rO(b:Nat)(vh vk vb:V1)(n:Int)(A0 A1 A2:Nat→Int)(K H B:Nat→Nat)(hn:64≤n)(NK: ∀j,j<8→A0 j=(H j:Nat))(hH: ∀j,j<8→H j<2^32)
  (Z3: ∀j,j<64→A1 j=(K j:Nat)) (hA2: ∀j,j<64→A2 j=(B j:Nat)) (hB: ∀j,j<64→B j<256):
  au agQ 127 [.pointer (some ⟨b,0,none⟩),bT 1 vb.v 0 64 none] (Fa b vh vk vb n.toNat A0 A1 A2)
   (fun r hs=> ∃A:Nat→Int,r= .tuple #[]∧hs=Fa b vh vk vb n.toNat A A1 A2∧∀j,j<8→A j=((comp K H B j:Nat):Int)):=by
 refine au.post (p:=fun r hs=> ∃ey,aB hs ey∧∃A:Nat→Int,r= .tuple #[]∧ey=Fa b vh vk vb n.toNat A A1 A2∧∀j,j<8→A j=((comp K H B j:Nat):Int)) ?_ fun v hs h=>h
 refine au.ml (C:=cx) (aS:={b:=1,v:=3,i:=1,a:=3}) (ρ:={iv:=[n],av:=[A0,A1,A2],vv:=[vh,vk,vb],bv:=[b]}) sU iS sV Try.func127 (by constructor<;>rfl)
  (args:=[.ptr 0 0,.ji 2 [⟨.lit 0,.lit 64,none⟩] 1]) (hp:=Ld) ?_
 rw [show eE cx 127 [.ptr 0 0,.ji 2 [⟨.lit 0,.lit 64,none⟩] 1] Ld {b:=1,v:=3,i:=1,a:=3} Try.f127=Bw from Nl,QD];unfold Hv;intro v3;refine⟨hn,fun _=>⟨fun e=> ∃a:Nat,a≤64∧e.i=[(a:Int)]∧∀j,j<64→e.a.getD 0 (fun _=>0) j=((fill B a j:Nat):Int),fun e=>(64 - e.i.getD 0 0).toNat,⟨0,fun _=>0,rfl,fun _ _=>rfl,0,by omega,rfl,fun j _=>rfl⟩,?_⟩⟩;rintro x1 A3 ⟨a,ha,hx,hA⟩;simp only [agO,and_true]at hx;subst hx;simp only [ah]at hA;have hq:=acx (x:=(a:Int)) (by omega) (by omega);refine⟨fun cZ=>⟨by rw [hq];omega,fun _=>⟨by rw [hq];omega,fun _=>⟨hn,fun _=>⟨by omega,fun _=>⟨by omega,fun _=>⟨by omega,fun _=>⟨by omega,fun _=>?_⟩⟩⟩⟩⟩⟩⟩,fun uJ=>?_⟩
 ·refine⟨(a:Int)+1,_,rfl,fun _ _=>rfl,⟨a+1,by omega,rfl,fun j hj=>?_⟩,?_⟩
  ·simp only [ah];rw [hq,Int.toNat_natCast,Int.toNat_natCast,fill];unfold aj;dsimp only;by_cases WB:j=a/4
   ·rw [if_pos WB,if_pos WB,hA _ (by omega),hA2 a (by omega),wrap_u32];have hb:=hB a (by omega);rw [Nat.mod_eq_of_lt (by omega),show aF .shl .u32 ((fill B a (a/4):Nat):Int) 8=_ from Uv (fill B a (a/4)) 8 (by decide),Y1 (Nat.mod_lt _ (Nat.two_pow_pos 32)) (by omega)]
   ·rw [if_neg WB,if_neg WB];exact hA j hj
  ·simp only [ah];omega
 have QH:a=64:=by omega
 subst QH;refine⟨fun e=> ∃a:Nat,16≤a∧a≤64∧e.i=[(a:Int)]∧∀j,j<64→e.a.getD 0 (fun _=>0) j=((gF B (a - 16) j:Nat):Int),fun e=>(64 - e.i.getD 0 0).toNat,⟨16,A3,rfl,fun _ _=>rfl,16,by omega,by omega,rfl,fun j hj=>?_⟩,?_⟩
 ·simp only [ah];rw [hA j hj,Ql hB]
 rintro x2 A4 ⟨a,afy,ha,hx,hA4⟩;simp only [agO,and_true]at hx;subst hx;simp only [ah]at hA4;refine⟨fun cZ=>⟨by omega,fun _=>⟨by omega,fun _=>⟨by omega,fun _=>⟨by omega,fun _=>⟨by omega,fun _=>⟨by omega,fun _=>⟨by omega,fun _=>⟨by omega,fun _=>⟨by omega,fun _=>⟨by omega,fun _=>⟨by omega,fun _=>⟨by omega,fun _=>⟨by omega,fun _=>⟨by omega,fun _=>⟨by omega,fun _=>⟨by omega,fun _=>fun b1 b2=>⟨by omega,fun _=>⟨by omega,fun _=>⟨by omega,fun _=>?_⟩⟩⟩⟩⟩⟩⟩⟩⟩⟩⟩⟩⟩⟩⟩⟩⟩⟩⟩,fun uJ=>fun b1=>?_⟩
 ·refine⟨(a:Int)+1,_,rfl,fun _ _=>rfl,⟨a+1,by omega,by omega,rfl,fun j hj=>?_⟩,?_⟩
  ·simp only [ah];have:=QF hB (t:=(a:Int)) (by omega) (by omega) (A:=A4) (by rw [Int.toNat_natCast];exact hA4) j hj;rw [this,Int.toNat_natCast,show a - 16+1=a+1 - 16 by omega]
  ·simp only [ah];omega
 have QH:a=64:=by omega
 subst QH;have hv:=Qk (K:=K) (W:=gF B 48) hH;refine⟨fun e=> ∃a:Nat,a≤64∧e.i=eight (Xb K (gF B 48) H a) a,fun e=>(64 - e.i.getD 8 0).toNat,⟨_,_,_,_,_,_,_,_,0,rfl,(NK 0 (by omega)).symm,(NK 1 (by omega)).symm,(NK 2 (by omega)).symm,(NK 3 (by omega)).symm,(NK 4 (by omega)).symm,(NK 5 (by omega)).symm,(NK 6 (by omega)).symm,(NK 7 (by omega)).symm,0,by omega,rfl⟩,?_⟩;rintro x3 x4 x5 x6 x7 x8 x9 aO aQ ⟨a,ha,hx⟩;simp only [eight,agO,and_true]at hx;obtain⟨rfl,rfl,rfl,rfl,rfl,rfl,rfl,rfl,rfl⟩:=hx;refine⟨fun cZ=>⟨by omega,fun _=>fun b2 b3=>⟨by omega,fun _=>⟨by omega,fun _=>?_⟩⟩⟩,fun uJ=>?_⟩
 ·refine⟨_,_,_,_,_,_,_,_,(a:Int)+1,rfl,rfl,rfl,rfl,rfl,rfl,rfl,rfl,rfl,⟨a+1,by omega,?_⟩,?_⟩
  ·have hk:A1 (ag (a:Int))=((K a:Nat):Int):=by rw [Int.toNat_natCast];exact Z3 a (by omega)
   have hw:A4 (ag (a:Int))=((gF B 48 a:Nat):Int):=by rw [Int.toNat_natCast];exact hA4 a (by omega)
   rw [hk,hw,Tx (hv a),QG (hv a),rM,rM];exact JT _ _ _ _
  ·simp only [ah,agY];omega
 have QH:a=64:=by omega
 subst QH;obtain⟨R,hR⟩: ∃R:Nat→Nat,R=Xb K (gF B 48) H 64:=⟨_,rfl⟩;have hc:=Ty hR;rw [←hR];refine⟨fun e=> ∃a:Nat,a≤8∧e.i=[(a:Int)]∧(∀j,j<8→e.a.getD 1 (fun _=>0) j=((R j:Nat):Int))∧∀j,j<8→e.a.getD 0 (fun _=>0) j=(((if j<a then comp K H B j else H j):Nat):Int),fun e=>(8 - e.i.getD 0 0).toNat,
  ⟨0,A0,_,rfl,fun _ _=>rfl,fun _ _=>rfl,0,by omega,rfl,fun j hj=>?_,fun j hj=>?_⟩,?_⟩
 ·simp only [ah,agY];unfold aj
  match j,hj with
  | 0,_=>rfl
  | 1,_=>rfl
  | 2,_=>rfl
  | 3,_=>rfl
  | 4,_=>rfl
  | 5,_=>rfl
  | 6,_=>rfl
  | 7,_=>rfl
 ·simp only [ah];rw [if_neg (by omega)];exact NK j hj
 rintro aM A5 A6 ⟨a,ha,hx,h6,h5⟩;simp only [agO,and_true]at hx;subst hx;simp only [ah,agY]at h6 h5;refine⟨fun cZ=>⟨by omega,fun _=>⟨by omega,fun _=>⟨by omega,fun _=>?_⟩⟩⟩,fun uJ=>?_⟩
 ·refine⟨(a:Int)+1,_,A6,rfl,fun _ _=>rfl,fun _ _=>rfl,⟨a+1,by omega,rfl,h6,fun j hj=>?_⟩,?_⟩
  ·simp only [ah];rw [Int.toNat_natCast];unfold aj;by_cases Pm:j=a
   ·subst Pm;rw [if_pos rfl,if_pos (by omega),h5 j hj,h6 j hj,if_neg (by omega),rM,hc]
   ·rw [if_neg Pm,h5 j hj];by_cases h:j<a
    ·rw [if_pos h,if_pos (by omega)]
    ·rw [if_neg h,if_neg (by omega)]
  ·simp only [ah];omega
 have ha8:a=8:=by omega
 subst ha8;refine⟨_,aB.sub (List.sublist_append_left (Fa b vh vk vb n.toNat A5 A1 A2) _),A5,rfl,rfl,fun j hj=>?_⟩;rw [h5 j hj,if_pos hj]
def acz:List Nat:=[4794697086780616226,8158064640168781261,13096744586834688815,16840607885511220156,4131703408338449720,6480981068601479193,10538285296894168987,12329834152419229976,15566598209576043074,1334009975649890238,2608012711638119052,6128411473006802146,8268148722764581231,9286055187155687089,11230858885718282805,13951009754708518548,16472876342353939154,17275323862435702243,1135362057144423861,2597628984639134821,3308224258029322869,5365058923640841347,6679025012923562964,8573033837759648693,10970295158949994411,12119686244451234320,12683024718118986047,13788192230050041572,14330467153632333762,15395433587784984357,489312712824947311,1452737877330783856,2861767655752347644,3322285676063803686,5560940570517711597,5996557281743188959,7280758554555802590,8532644243296465576,9350256976987008742,10552545826968843579,11727347734174303076,12113106623233404929,14000437183269869457,14369950271660146224,15101387698204529176,15463397548674623760,17586052441742319658,1182934255886127544,1847814050463011016,2177327727835720531,2830643537854262169,3796741975233480872,4115178125766777443,5681478168544905931,6601373596472566643,7507060721942968483,8399075790359081724,8693463985226723168,9568029438360202098,10144078919501101548,10430055236837252648,11840083180663258601,13761210420658862357,14299343276471374635,14566680578165727644,15097957966210449927,16922976911328602910,17689382322260857208,500013540394364858,748580250866718886,1242879168328830382,1977374033974150939,2944078676154940804,3659926193048069267,4368137639120453308,4836135668995329356,5532061633213252278,6448918945643986474,6902733635092675308,7801388544844847127]
def acA:List Nat:=[7640891576956012808,13503953896175478587,4354685564936845355,11912009170470909681,5840696475078001361,11170449401992604703,2270897969802886507,6620516959819538809]
def K64(j:Nat):Nat:=acz.getD j 0
def K0(j:Nat):Nat:=K64 j/2^32
def H0(j:Nat):Nat:=acA.getD j 0/2^32
theorem UA(j:Nat)(hj:j<8):H0 j<2^32:=by
 have: ∀j,j<8→H0 j<2^32:=by decide+kernel
 exact this j hj
def msg(I O N:Nat→Nat)(d0 d1 d2 d3:Nat)(j:Nat):Nat:=
 if j<12 then [104,97,105,108,101,114,32,109,101,100,105,97].getD j 0
 else if j<28 then I (j - 12)
 else if j<60 then O (j - 28)
 else if j<92 then N (j - 60)
 else [d0,d1,d2,d3,128,0,0,0,0,0,0,0,0,0,0,0,0,0,0,0,0,0,0,0,0,0,0,0,0,0,0,0,0,0,3,0].getD (j - 92) 0
def bytesOf(C:Nat→Nat)(j:Nat):Nat:=C (j/4)/2^(24 - 8*(j%4))%256
def Nm(m:Nat→Nat):Nat→Nat:=bytesOf (comp K0 (comp K0 H0 m) (fun i=>m (64+i)))
theorem QI(C:Nat→Nat)(j:Nat):bytesOf C j<256:=Nat.mod_lt _ (by decide)
theorem cj(w s:Nat)(hs:s≤32):ae .u8 (aF .shr .u32 (w:Int) (s:Int))=((w/2^s%256:Nat):Int):=by
 rw [zw .u32 w s hs,wrap_u8,Nat.shiftRight_eq_div_pow]
theorem WC{I O N:Nat→Nat}{d0 d1 d2 d3:Nat}(hI: ∀j,j<16→I j<256)(hO: ∀j,j<32→O j<256)(hN: ∀j,j<32→N j<256)(h0:d0<256)(h1:d1<256)(h2:d2<256)(h3:d3<256)(j:Nat):
  msg I O N d0 d1 d2 d3 j<256:=by
 unfold msg;split
 ·rename_i h;have: ∀j,j<12→[104,97,105,108,101,114,32,109,101,100,105,97].getD j 0<256:=by decide
  exact this j h
 split
 ·exact hI _ (by omega)
 split
 ·exact hO _ (by omega)
 split
 ·exact hN _ (by omega)
 rename_i h;obtain⟨k,rfl⟩: ∃k,j=92+k:=⟨j - 92,by omega⟩;rw [Nat.add_sub_cancel_left]
 match k with
 | 0=>exact h0
 | 1=>exact h1
 | 2=>exact h2
 | 3=>exact h3
 | k+4=>
  have: ∀k,k<32→[128,0,0,0,0,0,0,0,0,0,0,0,0,0,0,0,0,0,0,0,0,0,0,0,0,0,0,0,0,0,3,0].getD k 0<256:=by decide
  by_cases hk:k<32
  ·exact this k hk
  ·rw [List.getD_eq_getElem?_getD,ag7 (by simp;omega)];decide
end Go.RX.Sh

namespace Go.RX
theorem aB.idx{a b:List HP}(idx:List Nat)(gE:idx.Nodup)(h: ∀(j:Nat) x,b[j]? =some x→∃i,idx[j]? =some i∧a[i]? =some x):aB a b:=by
 intro w Fs o;refine o.tf (fun j=>if j<b.length then idx[j]? else some (a.length+(j - b.length))) ?_ ?_
 ·intro j x hx;right;by_cases hj:j<b.length
  ·rw [agC hj]at hx;obtain⟨i,h1,h2⟩:=h j x hx;refine⟨i,by simp only [hj,if_true,h1],?_⟩;rw [agC (agx.1 h2).1];exact h2
  ·rw [agD (by omega)]at hx;refine⟨_,by simp only [hj,if_false];rfl,?_⟩;rw [agD (by omega),Nat.add_sub_cancel_left];exact hx
 ·intro j j' i hj lW _ _;by_cases h1:j<b.length
  ·have hx:b[j]? =some b[j]:=ag6 h1;obtain⟨i1,q1,q2⟩:=h j _ hx;have DF:=(agx.1 q2).1;simp only [h1,if_true,q1,agy]at hj;subst hj;by_cases h2:j'<b.length
   ·simp only [h2,if_true]at lW;obtain⟨l1,e1⟩:=agx.1 q1;obtain⟨l2,e2⟩:=agx.1 lW;exact(List.getElem_inj gE).1 (e1.trans e2.symm)
   ·simp only [h2,if_false,agy]at lW;omega
  ·simp only [h1,if_false,agy]at hj;by_cases h2:j'<b.length
   ·have hx:b[j']? =some b[j']:=ag6 h2;obtain⟨i1,q1,q2⟩:=h j' _ hx;have DF:=(agx.1 q2).1;simp only [h2,if_true,q1,agy]at lW;omega
   ·simp only [h2,if_false,agy]at lW;omega
theorem aB.at3{a:List HP}{i j k:Nat}{x y z:HP}(hi:a[i]? =some x)(hj:a[j]? =some y)(hk:a[k]? =some z)(hn:[i,j,k].Nodup):aB a [x,y,z]:=by
 refine aB.idx [i,j,k] hn fun m u hu=>?_
 match m,hu with
 | 0,hu=>cases hu;exact⟨i,rfl,hi⟩
 | 1,hu=>cases hu;exact⟨j,rfl,hj⟩
 | 2,hu=>cases hu;exact⟨k,rfl,hk⟩
 | m+3,hu=>simp at hu
end Go.RX
namespace Go.RX.Sh
open Go.RX Go.Proofs
set_option maxRecDepth 100000 in
theorem v_:au agQ 111 [] [] (fun r hs=> ∃b:Nat,∃vh vk:V1,∃A B:Nat→Int,r= .pointer (some ⟨b,0,none⟩)∧
  hs=[aC true 107 1 vh.v 8 (aT 8 [ax .u32 1 A]),aC true 107 1 vk.v 64 (aT 64 [ax .u32 1 B]),QE b vh vk]∧(∀j,j<8→A j=((H0 j:Nat):Int))∧∀j,j<64→B j=((K0 j:Nat):Int)):=by
 refine au.post (p:=fun r hs=> ∃b:Nat,∃vh vk:V1,∃A B:Nat→Int,r= .pointer (some ⟨b,0,none⟩)∧hs[2]? =some (aC true 107 1 vh.v 8 (aT 8 [ax .u32 1 A]))∧hs[12]? =some (aC true 107 1 vk.v 64 (aT 64 [ax .u32 1 B]))∧
  hs[76]? =some (QE b vh vk)∧(∀j,j<8→A j=((H0 j:Nat):Int))∧∀j,j<64→B j=((K0 j:Nat):Int)) ?_ ?_
 ·refine au.ml (C:=cx) (aS:={}) (ρ:={}) sU iS sV Try.func111 (by constructor<;>rfl) (args:=[]) (hp:=[]) ?_;rw [show eE cx 111 [] [] {} Try.f111=xA from JS,Nj];unfold D0
  intros
  exact⟨_,_,_,_,_,rfl,rfl,rfl,rfl,by decide+kernel,by decide+kernel⟩
 ·rintro r hs ⟨b,vh,vk,A,B,rfl,h1,h2,h3,h4,h5⟩;exact⟨_,aB.at3 h1 h2 h3 (by decide),b,vh,vk,A,B,rfl,rfl,h4,h5⟩
abbrev zy(b0 b1 b2 b3 b4 b5:Nat)(A0 A1 A2:Nat→Int)(x0 x1 x2 x3:Int):List HP:=
 [ao b0 false ([.int .u8 104,.int .u8 97,.int .u8 105,.int .u8 108,.int .u8 101,.int .u8 114,.int .u8 32,.int .u8 109,.int .u8 101,.int .u8 100,.int .u8 105,.int .u8 97]),ao b1 true (ak .u8 16 A0++([])),ao b2 true (ak .u8 32 A1++([])),ao b3 true (ak .u8 32 A2++([])),ao b4 true ([.int .u8 x0,.int .u8 x1,.int .u8 x2,.int .u8 x3]),ao b5 true ([.slice (some ⟨b0,0,none⟩) 12 12,.slice (some ⟨b1,0,none⟩) 16 16,.slice (some ⟨b2,0,none⟩) 32 32,.slice (some ⟨b3,0,none⟩) 32 32,.slice (some ⟨b4,0,none⟩) 4 4])]
theorem JU{A0 A1 A2:Nat→Int}{I O N:Nat→Nat}{d0 d1 d2 d3:Nat}(h0: ∀j,j<16→A0 j=(I j:Nat))(h1: ∀j,j<32→A1 j=(O j:Nat))(h2: ∀j,j<32→A2 j=(N j:Nat))(j:Nat)(hj:j<92):
  (aG (aG (aG (aj (aj (aj (aj (aj (aj (aj (aj (aj (aj (aj (aj (fun _=>0) 0 104) 1 97) 2 105) 3 108) 4 101) 5 114) 6 32) 7 109) 8 101) 9 100) 10 105) 11 97) 12 16 A0) 28 32 A1) 60 32 A2) j=((msg I O N d0 d1 d2 d3 j:Nat):Int):=by
 unfold msg aG;by_cases c1:j<12
 ·rw [if_neg (by omega),if_neg (by omega),if_neg (by omega),if_pos c1];have:j=0∨j=1∨j=2∨j=3∨j=4∨j=5∨j=6∨j=7∨j=8∨j=9∨j=10∨j=11:=by omega
  rcases this with rfl | rfl | rfl | rfl | rfl | rfl | rfl | rfl | rfl | rfl | rfl | rfl<;>rfl
 by_cases c2:j<28
 ·rw [if_neg (by omega),if_neg (by omega),if_pos (by omega),if_neg c1,if_pos c2];exact h0 _ (by omega)
 by_cases c3:j<60
 ·rw [if_neg (by omega),if_pos (by omega),if_neg c1,if_neg c2,if_pos c3];exact h1 _ (by omega)
 ·rw [if_pos (by omega),if_neg c1,if_neg c2,if_neg c3,if_pos hj];exact h2 _ (by omega)
theorem dN{f:Nat→Int}{i j:Nat}{x:Int}(h:j≠i):aj f i x j=f j:=by
 unfold aj;rw [if_neg h]
theorem Bx{f g:Nat→Int}{k n j:Nat}(h:j<k∨k+n≤j):aG f k n g j=f j:=by
 unfold aG;rw [if_neg (by omega)]
theorem Hx{f:Nat→Int}{I O N:Nat→Nat}{d0 d1 d2 d3:Nat}(hf: ∀j,j<92→f j=((msg I O N d0 d1 d2 d3 j:Nat):Int))(j:Nat)(hj:j<64):
  (aG (aj (aj (aj (aj (aj (aj (aj (aj (aj (aj (aj (aj (aj (aj (aj (aj (aj (aj (aj (aj (aj (aj (aj (aG (aG (aJ f 64) 28 4 (aj (aj (aj (aj (fun _=>0) 0 (d0:Int)) 1 (d1:Int)) 2 (d2:Int)) 3 (d3:Int))) 32 1 (aj (fun _=>0) 0 128)) 33 0) 34 0) 35 0) 36 0) 37 0) 38 0) 39 0) 40 0) 41 0) 42 0) 43 0) 44 0) 45 0) 46 0) 47 0) 48 0) 49 0) 50 0) 51 0) 52 0) 53 0) 54 0) 55 0) 56 8 (aj (aj (aj (aj (aj (aj (aj (aj (fun _=>0) 7 0) 6 3) 5 0) 4 0) 3 0) 2 0) 1 0) 0 0)) j=((msg I O N d0 d1 d2 d3 (64+j):Nat):Int):=by
 by_cases c:j<28
 ·rw [←hf (64+j) (by omega)];rw [Bx (by omega)];rw [dN (by omega),dN (by omega),dN (by omega),dN (by omega),dN (by omega),dN (by omega),dN (by omega),dN (by omega),dN (by omega),dN (by omega),dN (by omega),dN (by omega),dN (by omega),dN (by omega),dN (by omega),dN (by omega),dN (by omega),dN (by omega),dN (by omega),dN (by omega),dN (by omega),dN (by omega),dN (by omega)];rw [Bx (by omega),Bx (by omega)];rfl
 ·have:j=28∨j=29∨j=30∨j=31∨j=32∨j=33∨j=34∨j=35∨j=36∨j=37∨j=38∨j=39∨j=40∨j=41∨j=42∨j=43∨j=44∨j=45∨j=46∨j=47∨j=48∨j=49∨j=50∨j=51∨j=52∨j=53∨j=54∨j=55∨j=56∨j=57∨j=58∨j=59∨j=60∨j=61∨j=62∨j=63:=by omega
  clear hj c;rcases this with rfl | rfl | rfl | rfl | rfl | rfl | rfl | rfl | rfl | rfl | rfl | rfl | rfl | rfl | rfl | rfl | rfl | rfl | rfl | rfl | rfl | rfl | rfl | rfl | rfl | rfl | rfl | rfl | rfl | rfl | rfl | rfl | rfl | rfl | rfl | rfl<;>rfl
theorem UB{A:Nat→Int}{C:Nat→Nat}(h: ∀j,j<8→A j=((C j:Nat):Int))(j:Nat)(hj:j<32):
  (aj (aj (aj (aj (aj (aj (aj (aj (aj (aj (aj (aj (aj (aj (aj (aj (aj (aj (aj (aj (aj (aj (aj (aj (aj (aj (aj (aj (aj (aj (aj (aj (fun _=>0) 0 (ae .u8 (aF .shr .u32 (A 0) 24))) 1 (ae .u8 (aF .shr .u32 (A 0) 16))) 2 (ae .u8 (aF .shr .u32 (A 0) 8))) 3 (ae .u8 (aF .shr .u32 (A 0) 0))) 4 (ae .u8 (aF .shr .u32 (A 1) 24))) 5 (ae .u8 (aF .shr .u32 (A 1) 16))) 6 (ae .u8 (aF .shr .u32 (A 1) 8))) 7 (ae .u8 (aF .shr .u32 (A 1) 0))) 8 (ae .u8 (aF .shr .u32 (A 2) 24))) 9 (ae .u8 (aF .shr .u32 (A 2) 16))) 10 (ae .u8 (aF .shr .u32 (A 2) 8))) 11 (ae .u8 (aF .shr .u32 (A 2) 0))) 12 (ae .u8 (aF .shr .u32 (A 3) 24))) 13 (ae .u8 (aF .shr .u32 (A 3) 16))) 14 (ae .u8 (aF .shr .u32 (A 3) 8))) 15 (ae .u8 (aF .shr .u32 (A 3) 0))) 16 (ae .u8 (aF .shr .u32 (A 4) 24))) 17 (ae .u8 (aF .shr .u32 (A 4) 16))) 18 (ae .u8 (aF .shr .u32 (A 4) 8))) 19 (ae .u8 (aF .shr .u32 (A 4) 0))) 20 (ae .u8 (aF .shr .u32 (A 5) 24))) 21 (ae .u8 (aF .shr .u32 (A 5) 16))) 22 (ae .u8 (aF .shr .u32 (A 5) 8))) 23 (ae .u8 (aF .shr .u32 (A 5) 0))) 24 (ae .u8 (aF .shr .u32 (A 6) 24))) 25 (ae .u8 (aF .shr .u32 (A 6) 16))) 26 (ae .u8 (aF .shr .u32 (A 6) 8))) 27 (ae .u8 (aF .shr .u32 (A 6) 0))) 28 (ae .u8 (aF .shr .u32 (A 7) 24))) 29 (ae .u8 (aF .shr .u32 (A 7) 16))) 30 (ae .u8 (aF .shr .u32 (A 7) 8))) 31 (ae .u8 (aF .shr .u32 (A 7) 0))) j=((bytesOf C j:Nat):Int):=by
 rw [h 0 (by omega),h 1 (by omega),h 2 (by omega),h 3 (by omega),h 4 (by omega),h 5 (by omega),h 6 (by omega),h 7 (by omega)];have:j=0∨j=1∨j=2∨j=3∨j=4∨j=5∨j=6∨j=7∨j=8∨j=9∨j=10∨j=11∨j=12∨j=13∨j=14∨j=15∨j=16∨j=17∨j=18∨j=19∨j=20∨j=21∨j=22∨j=23∨j=24∨j=25∨j=26∨j=27∨j=28∨j=29∨j=30∨j=31:=by omega
 clear hj h;rcases this with rfl | rfl | rfl | rfl | rfl | rfl | rfl | rfl | rfl | rfl | rfl | rfl | rfl | rfl | rfl | rfl | rfl | rfl | rfl | rfl | rfl | rfl | rfl | rfl | rfl | rfl | rfl | rfl | rfl | rfl | rfl | rfl
 ·exact cj (C 0) 24 (by decide)
 ·exact cj (C 0) 16 (by decide)
 ·exact cj (C 0) 8 (by decide)
 ·exact cj (C 0) 0 (by decide)
 ·exact cj (C 1) 24 (by decide)
 ·exact cj (C 1) 16 (by decide)
 ·exact cj (C 1) 8 (by decide)
 ·exact cj (C 1) 0 (by decide)
 ·exact cj (C 2) 24 (by decide)
 ·exact cj (C 2) 16 (by decide)
 ·exact cj (C 2) 8 (by decide)
 ·exact cj (C 2) 0 (by decide)
 ·exact cj (C 3) 24 (by decide)
 ·exact cj (C 3) 16 (by decide)
 ·exact cj (C 3) 8 (by decide)
 ·exact cj (C 3) 0 (by decide)
 ·exact cj (C 4) 24 (by decide)
 ·exact cj (C 4) 16 (by decide)
 ·exact cj (C 4) 8 (by decide)
 ·exact cj (C 4) 0 (by decide)
 ·exact cj (C 5) 24 (by decide)
 ·exact cj (C 5) 16 (by decide)
 ·exact cj (C 5) 8 (by decide)
 ·exact cj (C 5) 0 (by decide)
 ·exact cj (C 6) 24 (by decide)
 ·exact cj (C 6) 16 (by decide)
 ·exact cj (C 6) 8 (by decide)
 ·exact cj (C 6) 0 (by decide)
 ·exact cj (C 7) 24 (by decide)
 ·exact cj (C 7) 16 (by decide)
 ·exact cj (C 7) 8 (by decide)
 ·exact cj (C 7) 0 (by decide)
theorem JV(b0 b1 b2 b3 b4 b5:Nat)(A0 A1 A2:Nat→Int)(I O N:Nat→Nat)(d0 d1 d2 d3:Nat)(h0: ∀j,j<16→A0 j=(I j:Nat))(h1: ∀j,j<32→A1 j=(O j:Nat))(h2: ∀j,j<32→A2 j=(N j:Nat))
  (hI: ∀j,j<16→I j<256) (hO: ∀j,j<32→O j<256) (hN: ∀j,j<32→N j<256) (e0:d0<256) (e1:d1<256) (e2:d2<256) (e3:d3<256):
  au agQ 78 [.slice (some ⟨b5,0,none⟩) 5 5] (zy b0 b1 b2 b3 b4 b5 A0 A1 A2 d0 d1 d2 d3)
   (fun r hs=> ∃A:Nat→Int,r= .agg (ak .u8 32 A++([])).toArray∧hs=zy b0 b1 b2 b3 b4 b5 A0 A1 A2 d0 d1 d2 d3∧∀j,j<32→A j=((Nm (msg I O N d0 d1 d2 d3) j:Nat):Int)):=by
 refine au.post (p:=fun r hs=> ∃ey,aB hs ey∧∃A:Nat→Int,r= .agg (ak .u8 32 A++([])).toArray∧ey=zy b0 b1 b2 b3 b4 b5 A0 A1 A2 d0 d1 d2 d3∧∀j,j<32→A j=((Nm (msg I O N d0 d1 d2 d3) j:Nat):Int)) ?_ fun v hs h=>h
 refine au.ml (C:=cx) (aS:={i:=4,a:=3,b:=6}) (ρ:={iv:=[(d0:Int),(d1:Int),(d2:Int),(d3:Int)],av:=[A0,A1,A2],bv:=[b0,b1,b2,b3,b4,b5]}) sU iS sV Try.func78 (by constructor<;>rfl)
  (args:=[.sl 5 (.lit 0) 1 (.lit 5) (.lit 5)]) (hp:=Uy) ?_
 rw [show eE cx 78 [.sl 5 (.lit 0) 1 (.lit 5) (.lit 5)] Uy {i:=4,a:=3,b:=6} Try.f78=E_ from QA,Tw];unfold Lg;have hm: ∀j,msg I O N d0 d1 d2 d3 j<256:=WC hI hO hN e0 e1 e2 e3;have t1:=JU (d0:=d0) (d1:=d1) (d2:=d2) (d3:=d3) h0 h1 h2;intro b6;refine⟨_,v_,?_⟩;rintro r hs ⟨b,vh,vk,A,B,rfl,rfl,hA,hB⟩;refine⟨b,vh,vk,A,B,rfl,rfl,fun v2 v3 v4 v5=>⟨_,rO b vh vk v5 92 A B _ K0 H0 (msg I O N d0 d1 d2 d3) (by decide) hA UA hB (fun j hj=>t1 j (by omega)) (fun j _=>hm j),?_⟩⟩;rintro r hs ⟨A5,rfl,rfl,hA5⟩;refine⟨A5,rfl,rfl,?_⟩
 intros
 refine⟨_,rO b vh vk _ 64 A5 B _ K0 (comp K0 H0 (msg I O N d0 d1 d2 d3)) (fun i=>msg I O N d0 d1 d2 d3 (64+i)) (by decide) hA5 (fun j _=>Tg j) hB (fun j hj=>Hx t1 j hj) (fun j _=>hm _),?_⟩;rintro r hs ⟨A6,rfl,rfl,hA6⟩;refine⟨A6,rfl,rfl,?_⟩
 intros
 exact⟨_,aB.sub (List.sublist_append_left (zy b0 b1 b2 b3 b4 b5 A0 A1 A2 d0 d1 d2 d3) _),_,rfl,rfl,fun j hj=>UB hA6 j hj⟩
open Go.RX Go.Proofs
theorem Hy(A0 A1 A2:Nat→Int)(I O N:Nat→Nat)(d0 d1 d2 d3:Nat)(h0: ∀j,j<16→A0 j=(I j:Nat))(h1: ∀j,j<32→A1 j=(O j:Nat))(h2: ∀j,j<32→A2 j=(N j:Nat))
  (hI: ∀j,j<16→I j<256) (hO: ∀j,j<32→O j<256) (hN: ∀j,j<32→N j<256) (e0:d0<256) (e1:d1<256) (e2:d2<256) (e3:d3<256):
  au agQ 44 [.agg (ak .u8 16 A0++([])).toArray,.agg (ak .u8 32 A1++([])).toArray,.agg (ak .u8 32 A2++([])).toArray,.agg #[.int .u8 (d0:Int),.int .u8 (d1:Int)],.agg #[.int .u8 (d2:Int),.int .u8 (d3:Int)]] []
   (fun r hs=> ∃A:Nat→Int,r= .agg (ak .u8 32 A++([])).toArray∧hs=[]∧∀j,j<32→A j=((Nm (msg I O N d0 d1 d2 d3) j:Nat):Int)):=by
 refine au.post (p:=fun r hs=> ∃A:Nat→Int,r= .agg (ak .u8 32 A++([])).toArray∧∀j,j<32→A j=((Nm (msg I O N d0 d1 d2 d3) j:Nat):Int)) ?_ fun v hs h=>⟨[],aB.sub (List.nil_sublist _),h.choose,h.choose_spec.1,rfl,h.choose_spec.2⟩
 refine au.ml (C:=cx) (aS:={i:=4,a:=3}) (ρ:={iv:=[(d0:Int),(d1:Int),(d2:Int),(d3:Int)],av:=[A0,A1,A2]}) sU iS sV Try.func44 (by constructor<;>rfl)
  (args:=([Go.RX.SV.agg [Go.RX.SV.a_ (agu) 16 (Go.RX.E.aw 0)],Go.RX.SV.agg [Go.RX.SV.a_ (agu) 32 (Go.RX.E.aw 1)],Go.RX.SV.agg [Go.RX.SV.a_ (agu) 32 (Go.RX.E.aw 2)],Go.RX.SV.agg [Go.RX.SV.int (agu) (Go.RX.E.var 0),Go.RX.SV.int (agu) (Go.RX.E.var 1)],Go.RX.SV.agg [Go.RX.SV.int (agu) (Go.RX.E.var 2),Go.RX.SV.int (agu) (Go.RX.E.var 3)]])) (hp:=[]) ?_
 rw [show eE cx 44 ([Go.RX.SV.agg [Go.RX.SV.a_ (agu) 16 (Go.RX.E.aw 0)],Go.RX.SV.agg [Go.RX.SV.a_ (agu) 32 (Go.RX.E.aw 1)],Go.RX.SV.agg [Go.RX.SV.a_ (agu) 32 (Go.RX.E.aw 2)],Go.RX.SV.agg [Go.RX.SV.int (agu) (Go.RX.E.var 0),Go.RX.SV.int (agu) (Go.RX.E.var 1)],Go.RX.SV.agg [Go.RX.SV.int (agu) (Go.RX.E.var 2),Go.RX.SV.int (agu) (Go.RX.E.var 3)]]) [] {i:=4,a:=3} Try.f44=Bv from Nk,QB];unfold Hu;intro b0 b1 b2 b3 b4 b5;have key:=fun x y z=>JV x b0 b1 b2 y z A0 A1 A2 I O N d0 d1 d2 d3 h0 h1 h2 hI hO hN e0 e1 e2 e3
 refine⟨fun b6=>⟨fun b7 b8=>⟨_,key b6 b7 b8,?_⟩,fun b7 b8=>⟨_,key b6 b7 b8,?_⟩⟩,fun b6 b7 b8=>⟨_,key b7 b6 b8,?_⟩⟩<;>
 ·rintro r hs ⟨A,rfl,rfl,hA⟩;exact⟨A,rfl,rfl,A,rfl,hA⟩
end Go.RX.Sh

namespace Go.RX
end Go.RX
namespace Go.RX.Sh
open Go.RX Go.Proofs
def C64:List Nat:=[4794697086780616226,8158064640168781261,13096744586834688815,16840607885511220156,4131703408338449720,6480981068601479193,10538285296894168987,12329834152419229976,15566598209576043074,1334009975649890238,2608012711638119052,6128411473006802146,8268148722764581231,9286055187155687089,11230858885718282805,13951009754708518548,16472876342353939154,17275323862435702243,1135362057144423861,2597628984639134821,3308224258029322869,5365058923640841347,6679025012923562964,8573033837759648693,10970295158949994411,12119686244451234320,12683024718118986047,13788192230050041572,14330467153632333762,15395433587784984357,489312712824947311,1452737877330783856,2861767655752347644,3322285676063803686,5560940570517711597,5996557281743188959,7280758554555802590,8532644243296465576,9350256976987008742,10552545826968843579,11727347734174303076,12113106623233404929,14000437183269869457,14369950271660146224,15101387698204529176,15463397548674623760,17586052441742319658,1182934255886127544,1847814050463011016,2177327727835720531,2830643537854262169,3796741975233480872,4115178125766777443,5681478168544905931,6601373596472566643,7507060721942968483,8399075790359081724,8693463985226723168,9568029438360202098,10144078919501101548,10430055236837252648,11840083180663258601,13761210420658862357,14299343276471374635,14566680578165727644,15097957966210449927,16922976911328602910,17689382322260857208,500013540394364858,748580250866718886,1242879168328830382,1977374033974150939,2944078676154940804,3659926193048069267,4368137639120453308,4836135668995329356,5532061633213252278,6448918945643986474,6902733635092675308,7801388544844847127]
def C0(j:Nat):Nat:=C64.getD j 0
open Go.RX Go.Proofs
def Y_(M:Nat→Nat):Nat→Nat→Nat
 | 0=>H0
 | q+1=>comp K0 (Y_ M q) (fun i=>M (64*q+i))
end Go.RX.Sh
