/- A signal comes. -/
import Derived.Test.YtphemenngjkfbaaM39
open Go.IntKind renaming wrap → ae
open Go.Proofs.Try renaming prog → agQ
open Int renaming toNat → ag
open List renaming append → agw
namespace Go.RX.Dk
open Go.RX Go.Proofs Go.RX.Df
set_option maxRecDepth 100000
def py(di:Nat)(P:Program)(aq:Value→List HP→Prop)(x0 x1 x2 x3 x4:Int)(A0 A1 A2 A3 A4 A5 A6 A7 A8 A9 bU cz:Nat→Int)(_ v1:V1)(b0 b1 b2 b3 b4 b5 b6 b7 b8:Nat)(p0 p1 p2 p3 p4 _:HP):Prop:=
 aE (0≤x4) (
 aE (x4<x3) (
 ∀_:Nat,aE (x4≤x3) (
 sL (x4+1) ((
 aE (0≤(x4+1)) (
 aE ((x4+1)≤x3) (
 aE (0≤(x3 - (x4+1))) (
 aE (0≤(x3 - (x4+1))) (
 aE (((x4+(x3 - (x4+1)))*104)≤140737488355328) (
 ∀v2:V1,∃P0:Ext→Prop,(∀(w:World) (Fs:List HP),aU ([Fl v2.v (ag (x4+(x3 - (x4+1)))) (aG A0 (ag x4) (ag (x3 - (x4+1))) (aJ A0 (ag (x4+1)))) (aG A1 (ag x4) (ag (x3 - (x4+1))) (aJ A1 (ag (x4+1)))) (aG A2 (ag x4) (ag (x3 - (x4+1))) (aJ A2 (ag (x4+1)))) (aG A3 (ag x4) (ag (x3 - (x4+1))) (aJ A3 (ag (x4+1)))) (aG A4 (ag x4) (ag (x3 - (x4+1))) (aJ A4 (ag (x4+1)))) (aG A5 (ag (x4*16)) (ag ((x3 - (x4+1))*16)) (aJ A5 (ag ((x4+1)*16)))) (aG A6 (ag x4) (ag (x3 - (x4+1))) (aJ A6 (ag (x4+1)))) (aG A7 (ag x4) (ag (x3 - (x4+1))) (aJ A7 (ag (x4+1)))) (aG A8 (ag x4) (ag (x3 - (x4+1))) (aJ A8 (ag (x4+1)))) (aG A9 (ag (x4*32)) (ag ((x3 - (x4+1))*32)) (aJ A9 (ag ((x4+1)*32)))) (aG bU (ag x4) (ag (x3 - (x4+1))) (aJ bU (ag (x4+1)))) (aG cz (ag x4) (ag (x3 - (x4+1))) (aJ cz (ag (x4+1))))]++Fs) w→∃p6:HP,aU ([p6]++Fs) w∧P0 ⟨[],[],[],[],[],[p6],[]⟩)∧
 (∀p6:HP,P0 ⟨[],[],[],[],[],[p6],[]⟩→
 sL (A2 (ag x4)) ((
 sL ((A2 (ag x4))*2) ((
 sL (A3 (ag x4)) ((
 sL (((A2 (ag x4))*2)+(A3 (ag x4))) ((
 ∃P0:Ext→Prop,(∀(w:World) (Fs:List HP),aU ([]++Fs) w→(s4 di 0 1 2 3)=(((A2 (ag x4))*2)+(A3 (ag x4)))∧aU ([]++Fs) w∧P0 ⟨[],[],[],[],[],[],[]⟩)∧
 (P0 ⟨[],[],[],[],[],[],[]⟩→
 ∀_ _:Nat,aK (¬(((A2 (ag x4))=(s4 di 0 0 1 1))∧((A3 (ag x4))=(s4 di 0 1 0 1)))) (
 aq (.tuple #[]) [Fw b0 x0 b1 b2 b3 b4 v2.v x1 b5 b6 v1.v b7 b8 true,p6,p0,p1,p2,p3,p4]) (
 Cl P 51 [.pp (s4 di b1 b2 b3 b4),.dv (A0 (ag x4)) (A1 (ag x4)),.agg (Sg (A4 (ag x4)) (aJ A5 (ag (x4*16))) (A6 (ag x4)) (A7 (ag x4)) (A8 (ag x4)) (aJ A9 (ag (x4*32))) (bU (ag x4)) (cz (ag x4))).toArray,.int .u64 x0] [(s4 di p1 p2 p3 p4)] fun x hs _=> ∃(v3 v4 v5:V1) (_:Int),∃p7:HP,∃p8:HP,x= .agg #[v3.v,v4.v,v5.v]∧hs=[p7,p8]∧
 Cl P 101 [.pp b0,.int .i64 (s4 di 0 1 2 3),.agg #[v3.v,v4.v,v5.v]] [Fw b0 x0 b1 b2 b3 b4 v2.v x1 b5 b6 v1.v b7 b8 (!(x2==0)),p6,p0,p7,p8] fun x hs _=> ∃(v6 v7:V1) (q0:Bool),∃p9:HP,∃nC:HP,x= .tuple #[]∧hs=[Fw b0 x0 b1 b2 b3 b4 v6.v x1 b5 b6 v7.v b7 b8 q0,p9,nC,p7]∧
 aq (.tuple #[]) [Fw b0 x0 b1 b2 b3 b4 v6.v x1 b5 b6 v7.v b7 b8 q0,p9,nC,(s4 di p7 p1 p1 p1),(s4 di p2 p7 p2 p2),(s4 di p3 p3 p7 p3),(s4 di p4 p4 p4 p7)])))))))))))))))))))))
theorem M5(P:Program)(aq:Value→List HP→Prop)(x0 x1 x2 x3 x4:Int)(A0 A1 A2 A3 A4 A5 A6 A7 A8 A9 bU cz:Nat→Int)(v0 v1:V1)(b0 b1 b2 b3 b4 b5 b6 b7 b8:Nat)(p0 p1 p2 p3 p4 p5:HP)(L:Nat→LC):VC P (fun v hs=>aq v (hs.take 7)) (eE (cx 0) 99 (rp 0) (FC 0) aS Try.f99) {iv:=[x0,x1,x2,x3,x4],av:=[A0,A1,A2,A3,A4,A5,A6,A7,A8,A9,bU,cz],bo:=[],bv:=[b0,b1,b2,b3,b4,b5,b6,b7,b8],vv:=[v0,v1],pv:=[p0,p1,p2,p3,p4,p5]} L=py 0 P aq x0 x1 x2 x3 x4 A0 A1 A2 A3 A4 A5 A6 A7 A8 A9 bU cz v0 v1 b0 b1 b2 b3 b4 b5 b6 b7 b8 p0 p1 p2 p3 p4 p5:=by kernel_rfl
theorem M6(P:Program)(aq:Value→List HP→Prop)(x0 x1 x2 x3 x4:Int)(A0 A1 A2 A3 A4 A5 A6 A7 A8 A9 bU cz:Nat→Int)(v0 v1:V1)(b0 b1 b2 b3 b4 b5 b6 b7 b8:Nat)(p0 p1 p2 p3 p4 p5:HP)(L:Nat→LC):VC P (fun v hs=>aq v (hs.take 7)) (eE (cx 1) 99 (rp 1) (FC 1) aS Try.f99) {iv:=[x0,x1,x2,x3,x4],av:=[A0,A1,A2,A3,A4,A5,A6,A7,A8,A9,bU,cz],bo:=[],bv:=[b0,b1,b2,b3,b4,b5,b6,b7,b8],vv:=[v0,v1],pv:=[p0,p1,p2,p3,p4,p5]} L=py 1 P aq x0 x1 x2 x3 x4 A0 A1 A2 A3 A4 A5 A6 A7 A8 A9 bU cz v0 v1 b0 b1 b2 b3 b4 b5 b6 b7 b8 p0 p1 p2 p3 p4 p5:=by kernel_rfl
theorem M7(P:Program)(aq:Value→List HP→Prop)(x0 x1 x2 x3 x4:Int)(A0 A1 A2 A3 A4 A5 A6 A7 A8 A9 bU cz:Nat→Int)(v0 v1:V1)(b0 b1 b2 b3 b4 b5 b6 b7 b8:Nat)(p0 p1 p2 p3 p4 p5:HP)(L:Nat→LC):VC P (fun v hs=>aq v (hs.take 7)) (eE (cx 2) 99 (rp 2) (FC 2) aS Try.f99) {iv:=[x0,x1,x2,x3,x4],av:=[A0,A1,A2,A3,A4,A5,A6,A7,A8,A9,bU,cz],bo:=[],bv:=[b0,b1,b2,b3,b4,b5,b6,b7,b8],vv:=[v0,v1],pv:=[p0,p1,p2,p3,p4,p5]} L=py 2 P aq x0 x1 x2 x3 x4 A0 A1 A2 A3 A4 A5 A6 A7 A8 A9 bU cz v0 v1 b0 b1 b2 b3 b4 b5 b6 b7 b8 p0 p1 p2 p3 p4 p5:=by kernel_rfl
theorem M8(P:Program)(aq:Value→List HP→Prop)(x0 x1 x2 x3 x4:Int)(A0 A1 A2 A3 A4 A5 A6 A7 A8 A9 bU cz:Nat→Int)(v0 v1:V1)(b0 b1 b2 b3 b4 b5 b6 b7 b8:Nat)(p0 p1 p2 p3 p4 p5:HP)(L:Nat→LC):VC P (fun v hs=>aq v (hs.take 7)) (eE (cx 3) 99 (rp 3) (FC 3) aS Try.f99) {iv:=[x0,x1,x2,x3,x4],av:=[A0,A1,A2,A3,A4,A5,A6,A7,A8,A9,bU,cz],bo:=[],bv:=[b0,b1,b2,b3,b4,b5,b6,b7,b8],vv:=[v0,v1],pv:=[p0,p1,p2,p3,p4,p5]} L=py 3 P aq x0 x1 x2 x3 x4 A0 A1 A2 A3 A4 A5 A6 A7 A8 A9 bU cz v0 v1 b0 b1 b2 b3 b4 b5 b6 b7 b8 p0 p1 p2 p3 p4 p5:=by kernel_rfl
theorem P5(di:Nat)(hd:di<4)(aq:Value→List HP→Prop)(x0 x1 x2 x3 x4:Int)(A0 A1 A2 A3 A4 A5 A6 A7 A8 A9 bU cz:Nat→Int)(v0 v1:V1)(b0 b1 b2 b3 b4 b5 b6 b7 b8:Nat)(p0 p1 p2 p3 p4 p5:HP)(h:py di agQ aq x0 x1 x2 x3 x4 A0 A1 A2 A3 A4 A5 A6 A7 A8 A9 bU cz v0 v1 b0 b1 b2 b3 b4 b5 b6 b7 b8 p0 p1 p2 p3 p4 p5):au agQ 99 [.pp b0,.int .i64 x4] [Fw b0 x0 b1 b2 b3 b4 v0.v x1 b5 b6 v1.v b7 b8 (!(x2==0)),Fl v0.v (ag x3) A0 A1 A2 A3 A4 A5 A6 A7 A8 A9 bU cz,p0,p1,p2,p3,p4] aq:=by
 match di,hd,h with
 | 0,hd,h=>exact au.post (au.d_ (C:=(cx 0)) (aS:=aS) (ρ:={iv:=[x0,x1,x2,x3,x4],av:=[A0,A1,A2,A3,A4,A5,A6,A7,A8,A9,bU,cz],bo:=[],bv:=[b0,b1,b2,b3,b4,b5,b6,b7,b8],vv:=[v0,v1],pv:=[p0,p1,p2,p3,p4,p5]}) sU iS sV Try.func99 (by constructor<;>rfl) (aq:=(fun v hs=>aq v (hs.take 7))) (args:=rp 0) (hp:=FC 0) rfl (M5 agQ aq x0 x1 x2 x3 x4 A0 A1 A2 A3 A4 A5 A6 A7 A8 A9 bU cz v0 v1 b0 b1 b2 b3 b4 b5 b6 b7 b8 p0 p1 p2 p3 p4 p5 (fun _=>LC.none)) h) fun _ hs hq=>⟨_,aB.sub (List.take_sublist 7 hs),hq⟩
 | 1,hd,h=>exact au.post (au.d_ (C:=(cx 1)) (aS:=aS) (ρ:={iv:=[x0,x1,x2,x3,x4],av:=[A0,A1,A2,A3,A4,A5,A6,A7,A8,A9,bU,cz],bo:=[],bv:=[b0,b1,b2,b3,b4,b5,b6,b7,b8],vv:=[v0,v1],pv:=[p0,p1,p2,p3,p4,p5]}) sU iS sV Try.func99 (by constructor<;>rfl) (aq:=(fun v hs=>aq v (hs.take 7))) (args:=rp 1) (hp:=FC 1) rfl (M6 agQ aq x0 x1 x2 x3 x4 A0 A1 A2 A3 A4 A5 A6 A7 A8 A9 bU cz v0 v1 b0 b1 b2 b3 b4 b5 b6 b7 b8 p0 p1 p2 p3 p4 p5 (fun _=>LC.none)) h) fun _ hs hq=>⟨_,aB.sub (List.take_sublist 7 hs),hq⟩
 | 2,hd,h=>exact au.post (au.d_ (C:=(cx 2)) (aS:=aS) (ρ:={iv:=[x0,x1,x2,x3,x4],av:=[A0,A1,A2,A3,A4,A5,A6,A7,A8,A9,bU,cz],bo:=[],bv:=[b0,b1,b2,b3,b4,b5,b6,b7,b8],vv:=[v0,v1],pv:=[p0,p1,p2,p3,p4,p5]}) sU iS sV Try.func99 (by constructor<;>rfl) (aq:=(fun v hs=>aq v (hs.take 7))) (args:=rp 2) (hp:=FC 2) rfl (M7 agQ aq x0 x1 x2 x3 x4 A0 A1 A2 A3 A4 A5 A6 A7 A8 A9 bU cz v0 v1 b0 b1 b2 b3 b4 b5 b6 b7 b8 p0 p1 p2 p3 p4 p5 (fun _=>LC.none)) h) fun _ hs hq=>⟨_,aB.sub (List.take_sublist 7 hs),hq⟩
 | 3,hd,h=>exact au.post (au.d_ (C:=(cx 3)) (aS:=aS) (ρ:={iv:=[x0,x1,x2,x3,x4],av:=[A0,A1,A2,A3,A4,A5,A6,A7,A8,A9,bU,cz],bo:=[],bv:=[b0,b1,b2,b3,b4,b5,b6,b7,b8],vv:=[v0,v1],pv:=[p0,p1,p2,p3,p4,p5]}) sU iS sV Try.func99 (by constructor<;>rfl) (aq:=(fun v hs=>aq v (hs.take 7))) (args:=rp 3) (hp:=FC 3) rfl (M8 agQ aq x0 x1 x2 x3 x4 A0 A1 A2 A3 A4 A5 A6 A7 A8 A9 bU cz v0 v1 b0 b1 b2 b3 b4 b5 b6 b7 b8 p0 p1 p2 p3 p4 p5 (fun _=>LC.none)) h) fun _ hs hq=>⟨_,aB.sub (List.take_sublist 7 hs),hq⟩
def sE(di:Nat)(P:Program)(aq:Value→List HP→Prop)(x0 x1 x2 x3 x4 x5 x6 x7:Int)(A0 A1 A2 A3 A4 A5 A6 A7 A8 A9 bU cz:Nat→Int)(v0 v1:V1)(b0 b1 b2 b3 b4 b5 b6 b7 b8:Nat)(p0 p1 p2 p3 p4 _:HP):Prop:=
 ∀_:Nat,sL (aF .rem .u8 x5 4) ((
 ∃P0:Ext→Prop,(∀(w:World) (Fs:List HP),aU ([]++Fs) w→(s4 di 0 1 2 3)=(aF .rem .u8 x5 4)∧aU ([]++Fs) w∧P0 ⟨[],[],[],[],[],[],[]⟩)∧
 (P0 ⟨[],[],[],[],[],[],[]⟩→
 ∀_:Nat,aK (x4=0) (
 ∃Ig2:Ext→Prop,(∀(w:World) (Fs:List HP),aU ([Fl v0.v (ag x3) A0 A1 A2 A3 A4 A5 A6 A7 A8 A9 bU cz]++Fs) w→∃p6:HP,aU ([p6]++Fs) w∧Ig2 ⟨[],[],[],[],[],[p6],[]⟩)∧
 (∀p6:HP,Ig2 ⟨[],[],[],[],[],[p6],[]⟩→
 ∀_:Nat,Cl P 50 [.pp (s4 di b1 b2 b3 b4),.int .u8 (s4 di 1 1 0 0),.agg (.int .u8 x7::(.int .u8 (ae .u8 (ae .u16 (x1+1)))::(.int .u8 (ae .u8 (aF .shr .u16 (ae .u16 (x1+1)) 8))::(agw (ak .u8 13 (fun _=>0)) ([]))))).toArray,.agg (.int .u8 (ae .u8 (ae .u16 (x1+1)))::(.int .u8 1::(agw (ak .u8 30 (fun _=>0)) ([])))).toArray,.int .u64 x0] [(s4 di p1 p2 p3 p4)] fun x hs _=> ∃(v2 v3 v4:V1) (x8:Int),∃p7:HP,∃p8:HP,x= .tuple #[.agg #[v2.v,v3.v,v4.v],.int .i64 x8]∧hs=[p7,p8]∧
 aK (x8=0) (
 Cl P 101 [.pp b0,.int .i64 (s4 di 0 1 2 3),.agg #[v2.v,v3.v,v4.v]] [Fw b0 x0 b1 b2 b3 b4 v0.v (ae .u16 (x1+1)) b5 b6 v1.v b7 b8 (!(x2==0)),p6,p0,p7,p8] fun x hs _=> ∃(v5 v6:V1) (q0:Bool),∃p9:HP,∃nC:HP,x= .tuple #[]∧hs=[Fw b0 x0 b1 b2 b3 b4 v5.v (ae .u16 (x1+1)) b5 b6 v6.v b7 b8 q0,p9,nC,p7]∧
 aq (.tuple #[]) [Fw b0 x0 b1 b2 b3 b4 v5.v (ae .u16 (x1+1)) b5 b6 v6.v b7 b8 q0,p9,nC,(s4 di p7 p1 p1 p1),(s4 di p2 p7 p2 p2),(s4 di p3 p3 p7 p3),(s4 di p4 p4 p4 p7)]) (
 Cl P 101 [.pp b0,.int .i64 (s4 di 0 1 2 3),.agg #[.slice none 0 0,.slice none 0 0,.slice none 0 0]] [Fw b0 x0 b1 b2 b3 b4 v0.v (ae .u16 (x1+1)) b5 b6 v1.v b7 b8 (!(x2==0)),p6,p0,p7,p8] fun x hs _=> ∃(v5 v6:V1) (q0:Bool),∃p9:HP,∃nC:HP,x= .tuple #[]∧hs=[Fw b0 x0 b1 b2 b3 b4 v5.v (ae .u16 (x1+1)) b5 b6 v6.v b7 b8 q0,p9,nC,p7]∧
 aq (.tuple #[]) [Fw b0 x0 b1 b2 b3 b4 v5.v (ae .u16 (x1+1)) b5 b6 v6.v b7 b8 q0,p9,nC,(s4 di p7 p1 p1 p1),(s4 di p2 p7 p2 p2),(s4 di p3 p3 p7 p3),(s4 di p4 p4 p4 p7)]))) (
 aK (x4=1) (
 ∃Ig4:Ext→Prop,(∀(w:World) (Fs:List HP),aU ([Fl v0.v (ag x3) A0 A1 A2 A3 A4 A5 A6 A7 A8 A9 bU cz]++Fs) w→∃p6:HP,aU ([p6]++Fs) w∧Ig4 ⟨[],[],[],[],[],[p6],[]⟩)∧
 (∀p6:HP,Ig4 ⟨[],[],[],[],[],[p6],[]⟩→
 Cl P 54 [.pp (s4 di b1 b2 b3 b4),.agg (.int .u8 (ae .u8 (ae .u16 (x1+1)))::(.int .u8 2::(.int .u8 (ae .u8 (aF .shr .u16 (ae .u16 (x1+1)) 8))::(agw (ak .u8 29 (fun _=>0)) ([]))))).toArray,.int .u64 x0] [(s4 di p1 p2 p3 p4)] fun x hs _=> ∃(v2 v3 v4:V1) (x8:Int),∃p7:HP,∃p8:HP,x= .tuple #[.agg #[v2.v,v3.v,v4.v],.int .i64 x8]∧hs=[p7,p8]∧
 Cl P 101 [.pp b0,.int .i64 (s4 di 0 1 2 3),.agg #[v2.v,v3.v,v4.v]] [Fw b0 x0 b1 b2 b3 b4 v0.v (ae .u16 (x1+1)) b5 b6 v1.v b7 b8 (!(x2==0)),p6,p0,p7,p8] fun x hs _=> ∃(v5 v6:V1) (q0:Bool),∃p9:HP,∃nC:HP,x= .tuple #[]∧hs=[Fw b0 x0 b1 b2 b3 b4 v5.v (ae .u16 (x1+1)) b5 b6 v6.v b7 b8 q0,p9,nC,p7]∧
 aq (.tuple #[]) [Fw b0 x0 b1 b2 b3 b4 v5.v (ae .u16 (x1+1)) b5 b6 v6.v b7 b8 q0,p9,nC,(s4 di p7 p1 p1 p1),(s4 di p2 p7 p2 p2),(s4 di p3 p3 p7 p3),(s4 di p4 p4 p4 p7)])) (
 aK (x4=2) (
 Cl P 55 [.pp (s4 di b1 b2 b3 b4),.int .u64 x0] [(s4 di p1 p2 p3 p4)] fun x hs _=> ∃(v2 v3 v4:V1) (x8:Int),∃p6:HP,∃p7:HP,x= .tuple #[.agg #[v2.v,v3.v,v4.v],.int .i64 x8]∧hs=[p6,p7]∧
 ∃Ig6:Ext→Prop,(∀(w:World) (Fs:List HP),aU ([Fl v0.v (ag x3) A0 A1 A2 A3 A4 A5 A6 A7 A8 A9 bU cz]++Fs) w→∃p8:HP,aU ([p8]++Fs) w∧Ig6 ⟨[],[],[],[],[],[p8],[]⟩)∧
 (∀p8:HP,Ig6 ⟨[],[],[],[],[],[p8],[]⟩→
 Cl P 101 [.pp b0,.int .i64 (s4 di 0 1 2 3),.agg #[v2.v,v3.v,v4.v]] [Fw b0 x0 b1 b2 b3 b4 v0.v x1 b5 b6 v1.v b7 b8 (!(x2==0)),p8,p0,p6,p7] fun x hs _=> ∃(v5 v6:V1) (q0:Bool),∃p9:HP,∃nC:HP,x= .tuple #[]∧hs=[Fw b0 x0 b1 b2 b3 b4 v5.v x1 b5 b6 v6.v b7 b8 q0,p9,nC,p6]∧
 aq (.tuple #[]) [Fw b0 x0 b1 b2 b3 b4 v5.v x1 b5 b6 v6.v b7 b8 q0,p9,nC,(s4 di p6 p1 p1 p1),(s4 di p2 p6 p2 p2),(s4 di p3 p3 p6 p3),(s4 di p4 p4 p4 p6)])) (
 aK (x4=3) (
 Cl P 56 [.pp (s4 di b1 b2 b3 b4),.int .u64 x0] [(s4 di p1 p2 p3 p4)] fun x hs _=> ∃(v2 v3 v4:V1) (x8:Int),∃p6:HP,∃p7:HP,x= .tuple #[.agg #[v2.v,v3.v,v4.v],.int .i64 x8]∧hs=[p6,p7]∧
 ∃Ut:Ext→Prop,(∀(w:World) (Fs:List HP),aU ([Fl v0.v (ag x3) A0 A1 A2 A3 A4 A5 A6 A7 A8 A9 bU cz]++Fs) w→∃p8:HP,aU ([p8]++Fs) w∧Ut ⟨[],[],[],[],[],[p8],[]⟩)∧
 (∀p8:HP,Ut ⟨[],[],[],[],[],[p8],[]⟩→
 Cl P 101 [.pp b0,.int .i64 (s4 di 0 1 2 3),.agg #[v2.v,v3.v,v4.v]] [Fw b0 x0 b1 b2 b3 b4 v0.v x1 b5 b6 v1.v b7 b8 (!(x2==0)),p8,p0,p6,p7] fun x hs _=> ∃(v5 v6:V1) (q0:Bool),∃p9:HP,∃nC:HP,x= .tuple #[]∧hs=[Fw b0 x0 b1 b2 b3 b4 v5.v x1 b5 b6 v6.v b7 b8 q0,p9,nC,p6]∧
 aq (.tuple #[]) [Fw b0 x0 b1 b2 b3 b4 v5.v x1 b5 b6 v6.v b7 b8 q0,p9,nC,(s4 di p6 p1 p1 p1),(s4 di p2 p6 p2 p2),(s4 di p3 p3 p6 p3),(s4 di p4 p4 p4 p6)])) (
 aK (x4=4) (
 aE (0≤x3) (
 aK (0<x3) (
 sL x6 ((
 aE (x3≠0) (
 Cl P 99 [.pp b0,.int .i64 (aF .rem .i64 x6 x3)] [Fw b0 x0 b1 b2 b3 b4 v0.v x1 b5 b6 v1.v b7 b8 (!(x2==0)),Fl v0.v (ag x3) A0 A1 A2 A3 A4 A5 A6 A7 A8 A9 bU cz,p0,p1,p2,p3,p4] fun x hs _=> ∃(v2 v3:V1) (x8:Int),∃p6:HP,∃p7:HP,∃p8:HP,∃p9:HP,∃nC:HP,∃qB:HP,x= .tuple #[]∧hs=[Fw b0 x8 b1 b2 b3 b4 v2.v x1 b5 b6 v3.v b7 b8 false,p6,p7,p8,p9,nC,qB]∧
 aq (.tuple #[]) [Fw b0 x8 b1 b2 b3 b4 v2.v x1 b5 b6 v3.v b7 b8 false,p6,p7,p8,p9,nC,qB])))) (
 aq (.tuple #[]) [Fw b0 x0 b1 b2 b3 b4 v0.v x1 b5 b6 v1.v b7 b8 (!(x2==0)),Fl v0.v (ag x3) A0 A1 A2 A3 A4 A5 A6 A7 A8 A9 bU cz,p0,p1,p2,p3,p4]))) (
 aK (x4=5) (
 aE (0≤x3) (
 aK (0<x3) (
 sL x6 ((
 aE (x3≠0) (
 aE (0≤(aF .rem .i64 x6 x3)) (
 aE ((aF .rem .i64 x6 x3)≤x3) (
 sL ((aF .rem .i64 x6 x3)+1) ((
 aE (0≤((aF .rem .i64 x6 x3)+1)) (
 aE (((aF .rem .i64 x6 x3)+1)≤x3) (
 aE (0≤(x3 - ((aF .rem .i64 x6 x3)+1))) (
 aE (0≤(x3 - ((aF .rem .i64 x6 x3)+1))) (
 aE ((((aF .rem .i64 x6 x3)+(x3 - ((aF .rem .i64 x6 x3)+1)))*104)≤140737488355328) (
 ∀v2:V1,aq (.tuple #[]) [Fw b0 x0 b1 b2 b3 b4 v2.v x1 b5 b6 v1.v b7 b8 (!(x2==0)),Fl v2.v (ag ((aF .rem .i64 x6 x3)+(x3 - ((aF .rem .i64 x6 x3)+1)))) (aG A0 (ag (aF .rem .i64 x6 x3)) (ag (x3 - ((aF .rem .i64 x6 x3)+1))) (aJ A0 (ag ((aF .rem .i64 x6 x3)+1)))) (aG A1 (ag (aF .rem .i64 x6 x3)) (ag (x3 - ((aF .rem .i64 x6 x3)+1))) (aJ A1 (ag ((aF .rem .i64 x6 x3)+1)))) (aG A2 (ag (aF .rem .i64 x6 x3)) (ag (x3 - ((aF .rem .i64 x6 x3)+1))) (aJ A2 (ag ((aF .rem .i64 x6 x3)+1)))) (aG A3 (ag (aF .rem .i64 x6 x3)) (ag (x3 - ((aF .rem .i64 x6 x3)+1))) (aJ A3 (ag ((aF .rem .i64 x6 x3)+1)))) (aG A4 (ag (aF .rem .i64 x6 x3)) (ag (x3 - ((aF .rem .i64 x6 x3)+1))) (aJ A4 (ag ((aF .rem .i64 x6 x3)+1)))) (aG A5 (ag ((aF .rem .i64 x6 x3)*16)) (ag ((x3 - ((aF .rem .i64 x6 x3)+1))*16)) (aJ A5 (ag (((aF .rem .i64 x6 x3)+1)*16)))) (aG A6 (ag (aF .rem .i64 x6 x3)) (ag (x3 - ((aF .rem .i64 x6 x3)+1))) (aJ A6 (ag ((aF .rem .i64 x6 x3)+1)))) (aG A7 (ag (aF .rem .i64 x6 x3)) (ag (x3 - ((aF .rem .i64 x6 x3)+1))) (aJ A7 (ag ((aF .rem .i64 x6 x3)+1)))) (aG A8 (ag (aF .rem .i64 x6 x3)) (ag (x3 - ((aF .rem .i64 x6 x3)+1))) (aJ A8 (ag ((aF .rem .i64 x6 x3)+1)))) (aG A9 (ag ((aF .rem .i64 x6 x3)*32)) (ag ((x3 - ((aF .rem .i64 x6 x3)+1))*32)) (aJ A9 (ag (((aF .rem .i64 x6 x3)+1)*32)))) (aG bU (ag (aF .rem .i64 x6 x3)) (ag (x3 - ((aF .rem .i64 x6 x3)+1))) (aJ bU (ag ((aF .rem .i64 x6 x3)+1)))) (aG cz (ag (aF .rem .i64 x6 x3)) (ag (x3 - ((aF .rem .i64 x6 x3)+1))) (aJ cz (ag ((aF .rem .i64 x6 x3)+1)))),p0,p1,p2,p3,p4]))))))))))))) (
 aq (.tuple #[]) [Fw b0 x0 b1 b2 b3 b4 v0.v x1 b5 b6 v1.v b7 b8 (!(x2==0)),Fl v0.v (ag x3) A0 A1 A2 A3 A4 A5 A6 A7 A8 A9 bU cz,p0,p1,p2,p3,p4]))) (
 ∃YY:Ext→Prop,(∀(w:World) (Fs:List HP),aU ([Fl v0.v (ag x3) A0 A1 A2 A3 A4 A5 A6 A7 A8 A9 bU cz]++Fs) w→∃p6:HP,aU ([p6]++Fs) w∧YY ⟨[],[],[],[],[],[p6],[]⟩)∧
 (∀p6:HP,YY ⟨[],[],[],[],[],[p6],[]⟩→
 aK (x4=6) (
 Cl P 100 [.pp b0,.int .u64 (ae .u64 (aF .rem .u16 x6 100))] [Fw b0 x0 b1 b2 b3 b4 v0.v x1 b5 b6 v1.v b7 b8 (!(x2==0)),p6,p0,p1,p2,p3,p4] fun x hs _=> ∃(v2 v3:V1) (x8:Int),∃p7:HP,∃p8:HP,∃p9:HP,∃nC:HP,∃qB:HP,∃uo:HP,x= .tuple #[]∧hs=[Fw b0 x8 b1 b2 b3 b4 v2.v x1 b5 b6 v3.v b7 b8 false,p7,p8,p9,nC,qB,uo]∧
 aq (.tuple #[]) [Fw b0 x8 b1 b2 b3 b4 v2.v x1 b5 b6 v3.v b7 b8 false,p7,p8,p9,nC,qB,uo]) (
 Cl P 101 [.pp b0,.int .i64 (s4 di 0 1 2 3),.agg #[.slice none 0 0,.slice none 0 0,.slice none 0 0]] [Fw b0 x0 b1 b2 b3 b4 v0.v x1 b5 b6 v1.v b7 b8 (!(x2==0)),p6,p0,(s4 di p1 p2 p3 p4)] fun x hs _=> ∃(v2 v3:V1) (q0:Bool),∃p7:HP,∃p8:HP,x= .tuple #[]∧hs=[Fw b0 x0 b1 b2 b3 b4 v2.v x1 b5 b6 v3.v b7 b8 q0,p7,p8,(s4 di p1 p2 p3 p4)]∧
 aq (.tuple #[]) [Fw b0 x0 b1 b2 b3 b4 v2.v x1 b5 b6 v3.v b7 b8 q0,p7,p8,p1,p2,p3,p4])))))))))))
theorem P6(P:Program)(aq:Value→List HP→Prop)(x0 x1 x2 x3 x4 x5 x6 x7:Int)(A0 A1 A2 A3 A4 A5 A6 A7 A8 A9 bU cz:Nat→Int)(v0 v1:V1)(b0 b1 b2 b3 b4 b5 b6 b7 b8:Nat)(p0 p1 p2 p3 p4 p5:HP)(L:Nat→LC):VC P (fun v hs=>aq v (hs.take 7)) (eE (cx 0) 60 (yl 0) (FC 0) GD Try.f60) {iv:=[x0,x1,x2,x3,x4,x5,x6,x7],av:=[A0,A1,A2,A3,A4,A5,A6,A7,A8,A9,bU,cz],bo:=[],bv:=[b0,b1,b2,b3,b4,b5,b6,b7,b8],vv:=[v0,v1],pv:=[p0,p1,p2,p3,p4,p5]} L=sE 0 P aq x0 x1 x2 x3 x4 x5 x6 x7 A0 A1 A2 A3 A4 A5 A6 A7 A8 A9 bU cz v0 v1 b0 b1 b2 b3 b4 b5 b6 b7 b8 p0 p1 p2 p3 p4 p5:=by kernel_rfl
theorem P7(P:Program)(aq:Value→List HP→Prop)(x0 x1 x2 x3 x4 x5 x6 x7:Int)(A0 A1 A2 A3 A4 A5 A6 A7 A8 A9 bU cz:Nat→Int)(v0 v1:V1)(b0 b1 b2 b3 b4 b5 b6 b7 b8:Nat)(p0 p1 p2 p3 p4 p5:HP)(L:Nat→LC):VC P (fun v hs=>aq v (hs.take 7)) (eE (cx 1) 60 (yl 1) (FC 1) GD Try.f60) {iv:=[x0,x1,x2,x3,x4,x5,x6,x7],av:=[A0,A1,A2,A3,A4,A5,A6,A7,A8,A9,bU,cz],bo:=[],bv:=[b0,b1,b2,b3,b4,b5,b6,b7,b8],vv:=[v0,v1],pv:=[p0,p1,p2,p3,p4,p5]} L=sE 1 P aq x0 x1 x2 x3 x4 x5 x6 x7 A0 A1 A2 A3 A4 A5 A6 A7 A8 A9 bU cz v0 v1 b0 b1 b2 b3 b4 b5 b6 b7 b8 p0 p1 p2 p3 p4 p5:=by kernel_rfl
theorem P8(P:Program)(aq:Value→List HP→Prop)(x0 x1 x2 x3 x4 x5 x6 x7:Int)(A0 A1 A2 A3 A4 A5 A6 A7 A8 A9 bU cz:Nat→Int)(v0 v1:V1)(b0 b1 b2 b3 b4 b5 b6 b7 b8:Nat)(p0 p1 p2 p3 p4 p5:HP)(L:Nat→LC):VC P (fun v hs=>aq v (hs.take 7)) (eE (cx 2) 60 (yl 2) (FC 2) GD Try.f60) {iv:=[x0,x1,x2,x3,x4,x5,x6,x7],av:=[A0,A1,A2,A3,A4,A5,A6,A7,A8,A9,bU,cz],bo:=[],bv:=[b0,b1,b2,b3,b4,b5,b6,b7,b8],vv:=[v0,v1],pv:=[p0,p1,p2,p3,p4,p5]} L=sE 2 P aq x0 x1 x2 x3 x4 x5 x6 x7 A0 A1 A2 A3 A4 A5 A6 A7 A8 A9 bU cz v0 v1 b0 b1 b2 b3 b4 b5 b6 b7 b8 p0 p1 p2 p3 p4 p5:=by kernel_rfl
theorem P9(P:Program)(aq:Value→List HP→Prop)(x0 x1 x2 x3 x4 x5 x6 x7:Int)(A0 A1 A2 A3 A4 A5 A6 A7 A8 A9 bU cz:Nat→Int)(v0 v1:V1)(b0 b1 b2 b3 b4 b5 b6 b7 b8:Nat)(p0 p1 p2 p3 p4 p5:HP)(L:Nat→LC):VC P (fun v hs=>aq v (hs.take 7)) (eE (cx 3) 60 (yl 3) (FC 3) GD Try.f60) {iv:=[x0,x1,x2,x3,x4,x5,x6,x7],av:=[A0,A1,A2,A3,A4,A5,A6,A7,A8,A9,bU,cz],bo:=[],bv:=[b0,b1,b2,b3,b4,b5,b6,b7,b8],vv:=[v0,v1],pv:=[p0,p1,p2,p3,p4,p5]} L=sE 3 P aq x0 x1 x2 x3 x4 x5 x6 x7 A0 A1 A2 A3 A4 A5 A6 A7 A8 A9 bU cz v0 v1 b0 b1 b2 b3 b4 b5 b6 b7 b8 p0 p1 p2 p3 p4 p5:=by kernel_rfl
theorem S9(di:Nat)(hd:di<4)(aq:Value→List HP→Prop)(x0 x1 x2 x3 x4 x5 x6 x7:Int)(A0 A1 A2 A3 A4 A5 A6 A7 A8 A9 bU cz:Nat→Int)(v0 v1:V1)(b0 b1 b2 b3 b4 b5 b6 b7 b8:Nat)(p0 p1 p2 p3 p4 p5:HP)(h:sE di agQ aq x0 x1 x2 x3 x4 x5 x6 x7 A0 A1 A2 A3 A4 A5 A6 A7 A8 A9 bU cz v0 v1 b0 b1 b2 b3 b4 b5 b6 b7 b8 p0 p1 p2 p3 p4 p5):au agQ 60 [.pp b0,.agg #[.int .u8 x4,.int .u8 x5,.int .u16 x6,.int .u8 x7]] [Fw b0 x0 b1 b2 b3 b4 v0.v x1 b5 b6 v1.v b7 b8 (!(x2==0)),Fl v0.v (ag x3) A0 A1 A2 A3 A4 A5 A6 A7 A8 A9 bU cz,p0,p1,p2,p3,p4] aq:=by
 match di,hd,h with
 | 0,hd,h=>exact au.post (au.d_ (C:=(cx 0)) (aS:=GD) (ρ:={iv:=[x0,x1,x2,x3,x4,x5,x6,x7],av:=[A0,A1,A2,A3,A4,A5,A6,A7,A8,A9,bU,cz],bo:=[],bv:=[b0,b1,b2,b3,b4,b5,b6,b7,b8],vv:=[v0,v1],pv:=[p0,p1,p2,p3,p4,p5]}) sU iS sV Try.func60 (by constructor<;>rfl) (aq:=(fun v hs=>aq v (hs.take 7))) (args:=yl 0) (hp:=FC 0) rfl (P6 agQ aq x0 x1 x2 x3 x4 x5 x6 x7 A0 A1 A2 A3 A4 A5 A6 A7 A8 A9 bU cz v0 v1 b0 b1 b2 b3 b4 b5 b6 b7 b8 p0 p1 p2 p3 p4 p5 (fun _=>LC.none)) h) fun _ hs hq=>⟨_,aB.sub (List.take_sublist 7 hs),hq⟩
 | 1,hd,h=>exact au.post (au.d_ (C:=(cx 1)) (aS:=GD) (ρ:={iv:=[x0,x1,x2,x3,x4,x5,x6,x7],av:=[A0,A1,A2,A3,A4,A5,A6,A7,A8,A9,bU,cz],bo:=[],bv:=[b0,b1,b2,b3,b4,b5,b6,b7,b8],vv:=[v0,v1],pv:=[p0,p1,p2,p3,p4,p5]}) sU iS sV Try.func60 (by constructor<;>rfl) (aq:=(fun v hs=>aq v (hs.take 7))) (args:=yl 1) (hp:=FC 1) rfl (P7 agQ aq x0 x1 x2 x3 x4 x5 x6 x7 A0 A1 A2 A3 A4 A5 A6 A7 A8 A9 bU cz v0 v1 b0 b1 b2 b3 b4 b5 b6 b7 b8 p0 p1 p2 p3 p4 p5 (fun _=>LC.none)) h) fun _ hs hq=>⟨_,aB.sub (List.take_sublist 7 hs),hq⟩
 | 2,hd,h=>exact au.post (au.d_ (C:=(cx 2)) (aS:=GD) (ρ:={iv:=[x0,x1,x2,x3,x4,x5,x6,x7],av:=[A0,A1,A2,A3,A4,A5,A6,A7,A8,A9,bU,cz],bo:=[],bv:=[b0,b1,b2,b3,b4,b5,b6,b7,b8],vv:=[v0,v1],pv:=[p0,p1,p2,p3,p4,p5]}) sU iS sV Try.func60 (by constructor<;>rfl) (aq:=(fun v hs=>aq v (hs.take 7))) (args:=yl 2) (hp:=FC 2) rfl (P8 agQ aq x0 x1 x2 x3 x4 x5 x6 x7 A0 A1 A2 A3 A4 A5 A6 A7 A8 A9 bU cz v0 v1 b0 b1 b2 b3 b4 b5 b6 b7 b8 p0 p1 p2 p3 p4 p5 (fun _=>LC.none)) h) fun _ hs hq=>⟨_,aB.sub (List.take_sublist 7 hs),hq⟩
 | 3,hd,h=>exact au.post (au.d_ (C:=(cx 3)) (aS:=GD) (ρ:={iv:=[x0,x1,x2,x3,x4,x5,x6,x7],av:=[A0,A1,A2,A3,A4,A5,A6,A7,A8,A9,bU,cz],bo:=[],bv:=[b0,b1,b2,b3,b4,b5,b6,b7,b8],vv:=[v0,v1],pv:=[p0,p1,p2,p3,p4,p5]}) sU iS sV Try.func60 (by constructor<;>rfl) (aq:=(fun v hs=>aq v (hs.take 7))) (args:=yl 3) (hp:=FC 3) rfl (P9 agQ aq x0 x1 x2 x3 x4 x5 x6 x7 A0 A1 A2 A3 A4 A5 A6 A7 A8 A9 bU cz v0 v1 b0 b1 b2 b3 b4 b5 b6 b7 b8 p0 p1 p2 p3 p4 p5 (fun _=>LC.none)) h) fun _ hs hq=>⟨_,aB.sub (List.take_sublist 7 hs),hq⟩
open Go.RX Go.Proofs Go.RX.Df
set_option maxRecDepth 100000
def Hg(P:Program)(aq:Value→List HP→Prop)(x0 x1 x2 _ x4:Int)(_ _ _ _ _ _ _ _ _ _ _ _:Nat→Int)(v0 v1:V1)(b0 b1 b2 b3 b4 b5 b6 b7 b8:Nat)(p0 p1 p2 p3 p4 p5:HP):Prop:=
 Cl P 53 [.pp b1,.int .u64 (ae .u64 (x0+x4))] [p1] fun x hs _=> ∃(v2 v3 v4:V1) (_:Int),∃p6:HP,∃p7:HP,x= .agg #[v2.v,v3.v,v4.v]∧hs=[p6,p7]∧
 Cl P 101 [.pp b0,.int .i64 0,.agg #[v2.v,v3.v,v4.v]] [Fw b0 (ae .u64 (x0+x4)) b1 b2 b3 b4 v0.v x1 b5 b6 v1.v b7 b8 (!(x2==0)),p5,p0,p6,p7] fun x hs _=> ∃(v5 v6:V1) (q0:Bool),∃p8:HP,∃p9:HP,x= .tuple #[]∧hs=[Fw b0 (ae .u64 (x0+x4)) b1 b2 b3 b4 v5.v x1 b5 b6 v6.v b7 b8 q0,p8,p9,p6]∧
 Cl P 53 [.pp b2,.int .u64 (ae .u64 (x0+x4))] [p2] fun x hs _=> ∃(v7 v8 v9:V1) (_:Int),∃nC:HP,∃qB:HP,x= .agg #[v7.v,v8.v,v9.v]∧hs=[nC,qB]∧
 Cl P 101 [.pp b0,.int .i64 1,.agg #[v7.v,v8.v,v9.v]] [Fw b0 (ae .u64 (x0+x4)) b1 b2 b3 b4 v5.v x1 b5 b6 v6.v b7 b8 q0,p8,p9,nC,qB] fun x hs _=> ∃(v10 v11:V1) (q1:Bool),∃uo:HP,∃wu:HP,x= .tuple #[]∧hs=[Fw b0 (ae .u64 (x0+x4)) b1 b2 b3 b4 v10.v x1 b5 b6 v11.v b7 b8 q1,uo,wu,nC]∧
 Cl P 53 [.pp b3,.int .u64 (ae .u64 (x0+x4))] [p3] fun x hs _=> ∃(CV Ro Rp:V1) (_:Int),∃qH:HP,∃ru:HP,x= .agg #[CV.v,Ro.v,Rp.v]∧hs=[qH,ru]∧
 Cl P 101 [.pp b0,.int .i64 2,.agg #[CV.v,Ro.v,Rp.v]] [Fw b0 (ae .u64 (x0+x4)) b1 b2 b3 b4 v10.v x1 b5 b6 v11.v b7 b8 q1,uo,wu,qH,ru] fun x hs _=> ∃(v15 v16:V1) (q2:Bool),∃zl:HP,∃zm:HP,x= .tuple #[]∧hs=[Fw b0 (ae .u64 (x0+x4)) b1 b2 b3 b4 v15.v x1 b5 b6 v16.v b7 b8 q2,zl,zm,qH]∧
 Cl P 53 [.pp b4,.int .u64 (ae .u64 (x0+x4))] [p4] fun x hs _=> ∃(v17 v18 v19:V1) (_:Int),∃AR:HP,∃Cm:HP,x= .agg #[v17.v,v18.v,v19.v]∧hs=[AR,Cm]∧
 Cl P 101 [.pp b0,.int .i64 3,.agg #[v17.v,v18.v,v19.v]] [Fw b0 (ae .u64 (x0+x4)) b1 b2 b3 b4 v15.v x1 b5 b6 v16.v b7 b8 q2,zl,zm,AR,Cm] fun x hs _=> ∃(v20 v21:V1) (q3:Bool),∃GG:HP,∃GH:HP,x= .tuple #[]∧hs=[Fw b0 (ae .u64 (x0+x4)) b1 b2 b3 b4 v20.v x1 b5 b6 v21.v b7 b8 q3,GG,GH,AR]∧
 aq (.tuple #[]) [Fw b0 (ae .u64 (x0+x4)) b1 b2 b3 b4 v20.v x1 b5 b6 v21.v b7 b8 q3,GG,GH,p6,nC,qH,AR]
theorem P_(aq:Value→List HP→Prop)(x0 x1 x2 x3 x4:Int)(A0 A1 A2 A3 A4 A5 A6 A7 A8 A9 bU cz:Nat→Int)(v0 v1:V1)(b0 b1 b2 b3 b4 b5 b6 b7 b8:Nat)(p0 p1 p2 p3 p4 p5:HP)(h:Hg agQ aq x0 x1 x2 x3 x4 A0 A1 A2 A3 A4 A5 A6 A7 A8 A9 bU cz v0 v1 b0 b1 b2 b3 b4 b5 b6 b7 b8 p0 p1 p2 p3 p4 p5):au agQ 100 [.pp b0,.int .u64 x4] [Fw b0 x0 b1 b2 b3 b4 v0.v x1 b5 b6 v1.v b7 b8 (!(x2==0)),p5,p0,p1,p2,p3,p4] aq:=
 mtK (C:=(cx 0)) [.ptr 0 0,.int .u64 (.var 4)] [.row 0 true [.int .u64 (.var 0),.ptr 1 0,.ptr 2 0,.ptr 3 0,.ptr 4 0,.vv 0,.int .u16 (.var 1),.mp 5,.mp 6,.vv 1,.mp 7,.mp 8,.bool (BE.nz (.var 2))],.abs 5,.abs 0,.abs 1,.abs 2,.abs 3,.abs 4] ⟨9,2,5,12,0,6,0⟩ ⟨[x0,x1,x2,x3,x4],[A0,A1,A2,A3,A4,A5,A6,A7,A8,A9,bU,cz],[],[b0,b1,b2,b3,b4,b5,b6,b7,b8],[v0,v1],[],[p0,p1,p2,p3,p4,p5],[]⟩ 7 Try.func100 (by kernel_rfl) h
def K7(P:Program)(aq:Value→List HP→Prop)(x0 x1 x2 x3 _:Int)(A0 A1 A2 A3 A4 A5 A6 A7 A8 A9 bU cz:Nat→Int)(v0 v1:V1)(b0 b1 b2 b3 b4 b5 b6 b7 b8:Nat)(p0 p1 p2 p3 p4 _:HP):Prop:=
 ∃(fY:Ext→Prop) (jM:Ext→Nat),(∃(v2 v3:V1) (x5 x6 x7:Int) (dT dU eS eD dX dY dQ mA mB mo nE nB:Nat→Int),∃p6:HP,∃p7:HP,∃p8:HP,∃p9:HP,∃nC:HP,x7=0∧x5=x0∧v2=v0∧v3=v1∧false=(!(x2==0))∧v2=v0∧x6=x3∧(∀j,j<(ag x6)→dT j=A0 j)∧(∀j,j<(ag x6)→dU j=A1 j)∧(∀j,j<(ag x6)→eS j=A2 j)∧(∀j,j<(ag x6)→eD j=A3 j)∧(∀j,j<(ag x6)→dX j=A4 j)∧(∀j,j<(ag (x6*16))→dY j=A5 j)∧(∀j,j<(ag x6)→dQ j=A6 j)∧(∀j,j<(ag x6)→mA j=A7 j)∧(∀j,j<(ag x6)→mB j=A8 j)∧(∀j,j<(ag (x6*32))→mo j=A9 j)∧(∀j,j<(ag x6)→nE j=bU j)∧(∀j,j<(ag x6)→((fun _=>0) j:Int)=(fun _=>0) j)∧(∀j,j<(ag x6)→nB j=cz j)∧p6=p0∧p7=p1∧p8=p2∧p9=p3∧nC=p4∧fY ⟨[],[v2,v3],[x5,x6,x7],[dT,dU,eS,eD,dX,dY,dQ,mA,mB,mo,nE,nB],[],[p6,p7,p8,p9,nC],[]⟩)∧
 ∀(v2 v3:V1) (x5 x6 x7:Int) (dT dU eS eD dX dY dQ mA mB mo nE nB:Nat→Int),∀p6:HP,∀p7:HP,∀p8:HP,∀p9:HP,∀nC:HP,fY ⟨[],[v2,v3],[x5,x6,x7],[dT,dU,eS,eD,dX,dY,dQ,mA,mB,mo,nE,nB],[],[p6,p7,p8,p9,nC],[]⟩→
 aK (x7<40) (
 ∃(Js:Ext→Prop) (P3:Ext→Nat),(∃(v4 v5:V1) (x8 x9 aO:Int) (kq ku kv kx kK kL ky kz jL kA kB kC:Nat→Int),∃qB:HP,∃uo:HP,∃wu:HP,∃qH:HP,∃ru:HP,aO=0∧x8=x5∧v4=v2∧v5=v3∧v4=v2∧x9=x6∧(∀j,j<(ag x9)→kq j=dT j)∧(∀j,j<(ag x9)→ku j=dU j)∧(∀j,j<(ag x9)→kv j=eS j)∧(∀j,j<(ag x9)→kx j=eD j)∧(∀j,j<(ag x9)→kK j=dX j)∧(∀j,j<(ag (x9*16))→kL j=dY j)∧(∀j,j<(ag x9)→ky j=dQ j)∧(∀j,j<(ag x9)→kz j=mA j)∧(∀j,j<(ag x9)→jL j=mB j)∧(∀j,j<(ag (x9*32))→kA j=mo j)∧(∀j,j<(ag x9)→kB j=nE j)∧(∀j,j<(ag x9)→((fun _=>0) j:Int)=(fun _=>0) j)∧(∀j,j<(ag x9)→kC j=nB j)∧qB=p6∧uo=p7∧wu=p8∧qH=p9∧ru=nC∧Js ⟨[],[v4,v5],[x8,x9,aO],[kq,ku,kv,kx,kK,kL,ky,kz,jL,kA,kB,kC],[],[qB,uo,wu,qH,ru],[]⟩)∧
 ∀(v4 v5:V1) (x8 x9 aO:Int) (kq ku kv kx kK kL ky kz jL kA kB kC:Nat→Int),∀qB:HP,∀uo:HP,∀wu:HP,∀qH:HP,∀ru:HP,Js ⟨[],[v4,v5],[x8,x9,aO],[kq,ku,kv,kx,kK,kL,ky,kz,jL,kA,kB,kC],[],[qB,uo,wu,qH,ru],[]⟩→
 aE (0≤x9) (
 aK (0<x9) (
 aK (20000<aO) (
 aq (.bool false) [Fw b0 x8 b1 b2 b3 b4 v4.v x1 b5 b6 v5.v b7 b8 false,Fl v4.v (ag x9) kq ku kv kx kK kL ky kz jL kA kB kC,qB,uo,wu,qH,ru]) (
 Cl P 99 [.pp b0,.int .i64 0] [Fw b0 x8 b1 b2 b3 b4 v4.v x1 b5 b6 v5.v b7 b8 false,Fl v4.v (ag x9) kq ku kv kx kK kL ky kz jL kA kB kC,qB,uo,wu,qH,ru] fun x hs _=> ∃(v6 v7:V1) (aQ:Int),∃zl:HP,∃zm:HP,∃AR:HP,∃Cm:HP,∃GG:HP,∃GH:HP,x= .tuple #[]∧hs=[Fw b0 aQ b1 b2 b3 b4 v6.v x1 b5 b6 v7.v b7 b8 false,zl,zm,AR,Cm,GG,GH]∧
 ∃vE:Ext→Prop,(∀(w:World) (Fs:List HP),aU ([zl]++Fs) w→∃(aM:Int) (im lU lB lh kE ll jd kM kN kg kj ln:Nat→Int),aU ([Fl v6.v (ag aM) im lU lB lh kE ll jd kM kN kg kj ln]++Fs) w∧vE ⟨[],[],[aM],[im,lU,lB,lh,kE,ll,jd,kM,kN,kg,kj,ln],[],[],[]⟩)∧
 (∀(aM:Int) (im lU lB lh kE ll jd kM kN kg kj ln:Nat→Int),vE ⟨[],[],[aM],[im,lU,lB,lh,kE,ll,jd,kM,kN,kg,kj,ln],[],[],[]⟩→
 sL (aO+1) ((
 ∃(MC V9:V1) (Qa nF ko:Int) (Jx Jy Jz JA JB JC JD JE JF JG JH JI:Nat→Int),∃AP:HP,∃JJ:HP,∃JK:HP,∃AQ:HP,∃JL:HP,ko=(aO+1)∧Qa=aQ∧MC=v6∧V9=v7∧MC=v6∧nF=aM∧(∀j,j<(ag nF)→Jx j=im j)∧(∀j,j<(ag nF)→Jy j=lU j)∧(∀j,j<(ag nF)→Jz j=lB j)∧(∀j,j<(ag nF)→JA j=lh j)∧(∀j,j<(ag nF)→JB j=kE j)∧(∀j,j<(ag (nF*16))→JC j=ll j)∧(∀j,j<(ag nF)→JD j=jd j)∧(∀j,j<(ag nF)→JE j=kM j)∧(∀j,j<(ag nF)→JF j=kN j)∧(∀j,j<(ag (nF*32))→JG j=kg j)∧(∀j,j<(ag nF)→JH j=kj j)∧(∀j,j<(ag nF)→((fun _=>0) j:Int)=(fun _=>0) j)∧(∀j,j<(ag nF)→JI j=ln j)∧AP=zm∧JJ=AR∧JK=Cm∧AQ=GG∧JL=GH∧Js ⟨[],[MC,V9],[Qa,nF,ko],[Jx,Jy,Jz,JA,JB,JC,JD,JE,JF,JG,JH,JI],[],[AP,JJ,JK,AQ,JL],[]⟩∧P3 ⟨[],[MC,V9],[Qa,nF,ko],[Jx,Jy,Jz,JA,JB,JC,JD,JE,JF,JG,JH,JI],[],[AP,JJ,JK,AQ,JL],[]⟩<P3 ⟨[],[v4,v5],[x8,x9,aO],[kq,ku,kv,kx,kK,kL,ky,kz,jL,kA,kB,kC],[],[qB,uo,wu,qH,ru],[]⟩))))) (
 Cl P 100 [.pp b0,.int .u64 5] [Fw b0 x8 b1 b2 b3 b4 v4.v x1 b5 b6 v5.v b7 b8 false,Fl v4.v (ag x9) kq ku kv kx kK kL ky kz jL kA kB kC,qB,uo,wu,qH,ru] fun x hs _=> ∃(v6 v7:V1) (aQ:Int),∃zl:HP,∃zm:HP,∃AR:HP,∃Cm:HP,∃GG:HP,∃GH:HP,x= .tuple #[]∧hs=[Fw b0 aQ b1 b2 b3 b4 v6.v x1 b5 b6 v7.v b7 b8 false,zl,zm,AR,Cm,GG,GH]∧
 ∃Ut:Ext→Prop,(∀(w:World) (Fs:List HP),aU ([zl]++Fs) w→∃(aM:Int) (im lU lB lh kE ll jd kM kN kg kj ln:Nat→Int),aU ([Fl v6.v (ag aM) im lU lB lh kE ll jd kM kN kg kj ln]++Fs) w∧Ut ⟨[],[],[aM],[im,lU,lB,lh,kE,ll,jd,kM,kN,kg,kj,ln],[],[],[]⟩)∧
 (∀(aM:Int) (im lU lB lh kE ll jd kM kN kg kj ln:Nat→Int),Ut ⟨[],[],[aM],[im,lU,lB,lh,kE,ll,jd,kM,kN,kg,kj,ln],[],[],[]⟩→
 sL (x7+1) ((
 ∃(Z4 Vy:V1) (OV DV V_:Int) (Wa Wb Wc Wd Wg Wh Wi Wj Wk Wl Wm Wn:Nat→Int),∃Vz:HP,∃VA:HP,∃VB:HP,∃VD:HP,∃IV:HP,V_=(x7+1)∧OV=aQ∧Z4=v6∧Vy=v7∧Z4=v6∧DV=aM∧(∀j,j<(ag DV)→Wa j=im j)∧(∀j,j<(ag DV)→Wb j=lU j)∧(∀j,j<(ag DV)→Wc j=lB j)∧(∀j,j<(ag DV)→Wd j=lh j)∧(∀j,j<(ag DV)→Wg j=kE j)∧(∀j,j<(ag (DV*16))→Wh j=ll j)∧(∀j,j<(ag DV)→Wi j=jd j)∧(∀j,j<(ag DV)→Wj j=kM j)∧(∀j,j<(ag DV)→Wk j=kN j)∧(∀j,j<(ag (DV*32))→Wl j=kg j)∧(∀j,j<(ag DV)→Wm j=kj j)∧(∀j,j<(ag DV)→((fun _=>0) j:Int)=(fun _=>0) j)∧(∀j,j<(ag DV)→Wn j=ln j)∧Vz=zm∧VA=AR∧VB=Cm∧VD=GG∧IV=GH∧fY ⟨[],[Z4,Vy],[OV,DV,V_],[Wa,Wb,Wc,Wd,Wg,Wh,Wi,Wj,Wk,Wl,Wm,Wn],[],[Vz,VA,VB,VD,IV],[]⟩∧jM ⟨[],[Z4,Vy],[OV,DV,V_],[Wa,Wb,Wc,Wd,Wg,Wh,Wi,Wj,Wk,Wl,Wm,Wn],[],[Vz,VA,VB,VD,IV],[]⟩<jM ⟨[],[v2,v3],[x5,x6,x7],[dT,dU,eS,eD,dX,dY,dQ,mA,mB,mo,nE,nB],[],[p6,p7,p8,p9,nC],[]⟩)))))) (
 ∃(uN:Ext→Prop) (uO:Ext→Nat),(∃(v4 v5:V1) (x8 x9 aO:Int) (kq ku kv kx kK kL ky kz jL kA kB kC:Nat→Int),∃qB:HP,∃uo:HP,∃wu:HP,∃qH:HP,∃ru:HP,aO=0∧x8=x5∧v4=v2∧v5=v3∧v4=v2∧x9=x6∧(∀j,j<(ag x9)→kq j=dT j)∧(∀j,j<(ag x9)→ku j=dU j)∧(∀j,j<(ag x9)→kv j=eS j)∧(∀j,j<(ag x9)→kx j=eD j)∧(∀j,j<(ag x9)→kK j=dX j)∧(∀j,j<(ag (x9*16))→kL j=dY j)∧(∀j,j<(ag x9)→ky j=dQ j)∧(∀j,j<(ag x9)→kz j=mA j)∧(∀j,j<(ag x9)→jL j=mB j)∧(∀j,j<(ag (x9*32))→kA j=mo j)∧(∀j,j<(ag x9)→kB j=nE j)∧(∀j,j<(ag x9)→((fun _=>0) j:Int)=(fun _=>0) j)∧(∀j,j<(ag x9)→kC j=nB j)∧qB=p6∧uo=p7∧wu=p8∧qH=p9∧ru=nC∧uN ⟨[],[v4,v5],[x8,x9,aO],[kq,ku,kv,kx,kK,kL,ky,kz,jL,kA,kB,kC],[],[qB,uo,wu,qH,ru],[]⟩)∧
 ∀(v4 v5:V1) (x8 x9 aO:Int) (kq ku kv kx kK kL ky kz jL kA kB kC:Nat→Int),∀qB:HP,∀uo:HP,∀wu:HP,∀qH:HP,∀ru:HP,uN ⟨[],[v4,v5],[x8,x9,aO],[kq,ku,kv,kx,kK,kL,ky,kz,jL,kA,kB,kC],[],[qB,uo,wu,qH,ru],[]⟩→
 aE (0≤x9) (
 aK (0<x9) (
 aK (20000<aO) (
 aq (.bool false) [Fw b0 x8 b1 b2 b3 b4 v4.v x1 b5 b6 v5.v b7 b8 false,Fl v4.v (ag x9) kq ku kv kx kK kL ky kz jL kA kB kC,qB,uo,wu,qH,ru]) (
 Cl P 99 [.pp b0,.int .i64 0] [Fw b0 x8 b1 b2 b3 b4 v4.v x1 b5 b6 v5.v b7 b8 false,Fl v4.v (ag x9) kq ku kv kx kK kL ky kz jL kA kB kC,qB,uo,wu,qH,ru] fun x hs _=> ∃(v6 v7:V1) (aQ:Int),∃zl:HP,∃zm:HP,∃AR:HP,∃Cm:HP,∃GG:HP,∃GH:HP,x= .tuple #[]∧hs=[Fw b0 aQ b1 b2 b3 b4 v6.v x1 b5 b6 v7.v b7 b8 false,zl,zm,AR,Cm,GG,GH]∧
 ∃vE:Ext→Prop,(∀(w:World) (Fs:List HP),aU ([zl]++Fs) w→∃(aM:Int) (im lU lB lh kE ll jd kM kN kg kj ln:Nat→Int),aU ([Fl v6.v (ag aM) im lU lB lh kE ll jd kM kN kg kj ln]++Fs) w∧vE ⟨[],[],[aM],[im,lU,lB,lh,kE,ll,jd,kM,kN,kg,kj,ln],[],[],[]⟩)∧
 (∀(aM:Int) (im lU lB lh kE ll jd kM kN kg kj ln:Nat→Int),vE ⟨[],[],[aM],[im,lU,lB,lh,kE,ll,jd,kM,kN,kg,kj,ln],[],[],[]⟩→
 sL (aO+1) ((
 ∃(MC V9:V1) (Qa nF ko:Int) (Jx Jy Jz JA JB JC JD JE JF JG JH JI:Nat→Int),∃AP:HP,∃JJ:HP,∃JK:HP,∃AQ:HP,∃JL:HP,ko=(aO+1)∧Qa=aQ∧MC=v6∧V9=v7∧MC=v6∧nF=aM∧(∀j,j<(ag nF)→Jx j=im j)∧(∀j,j<(ag nF)→Jy j=lU j)∧(∀j,j<(ag nF)→Jz j=lB j)∧(∀j,j<(ag nF)→JA j=lh j)∧(∀j,j<(ag nF)→JB j=kE j)∧(∀j,j<(ag (nF*16))→JC j=ll j)∧(∀j,j<(ag nF)→JD j=jd j)∧(∀j,j<(ag nF)→JE j=kM j)∧(∀j,j<(ag nF)→JF j=kN j)∧(∀j,j<(ag (nF*32))→JG j=kg j)∧(∀j,j<(ag nF)→JH j=kj j)∧(∀j,j<(ag nF)→((fun _=>0) j:Int)=(fun _=>0) j)∧(∀j,j<(ag nF)→JI j=ln j)∧AP=zm∧JJ=AR∧JK=Cm∧AQ=GG∧JL=GH∧uN ⟨[],[MC,V9],[Qa,nF,ko],[Jx,Jy,Jz,JA,JB,JC,JD,JE,JF,JG,JH,JI],[],[AP,JJ,JK,AQ,JL],[]⟩∧uO ⟨[],[MC,V9],[Qa,nF,ko],[Jx,Jy,Jz,JA,JB,JC,JD,JE,JF,JG,JH,JI],[],[AP,JJ,JK,AQ,JL],[]⟩<uO ⟨[],[v4,v5],[x8,x9,aO],[kq,ku,kv,kx,kK,kL,ky,kz,jL,kA,kB,kC],[],[qB,uo,wu,qH,ru],[]⟩))))) (
 aq (.bool true) [Fw b0 x8 b1 b2 b3 b4 v4.v x1 b5 b6 v5.v b7 b8 false,Fl v4.v (ag x9) kq ku kv kx kK kL ky kz jL kA kB kC,qB,uo,wu,qH,ru])))
theorem S_(aq:Value→List HP→Prop)(x0 x1 x2 x3 x4:Int)(A0 A1 A2 A3 A4 A5 A6 A7 A8 A9 bU cz:Nat→Int)(v0 v1:V1)(b0 b1 b2 b3 b4 b5 b6 b7 b8:Nat)(p0 p1 p2 p3 p4 p5:HP)(h:K7 agQ aq x0 x1 x2 x3 x4 A0 A1 A2 A3 A4 A5 A6 A7 A8 A9 bU cz v0 v1 b0 b1 b2 b3 b4 b5 b6 b7 b8 p0 p1 p2 p3 p4 p5):au agQ 61 [.pp b0] [Fw b0 x0 b1 b2 b3 b4 v0.v x1 b5 b6 v1.v b7 b8 (!(x2==0)),Fl v0.v (ag x3) A0 A1 A2 A3 A4 A5 A6 A7 A8 A9 bU cz,p0,p1,p2,p3,p4] aq:=
 mtK (C:=(cx 0)) [.ptr 0 0] [.row 0 true [.int .u64 (.var 0),.ptr 1 0,.ptr 2 0,.ptr 3 0,.ptr 4 0,.vv 0,.int .u16 (.var 1),.mp 5,.mp 6,.vv 1,.mp 7,.mp 8,.bool (BE.nz (.var 2))],.cy true 0 216 59 (.var 3) [⟨.int .u8,1,.aw 0⟩,⟨.int .u8,1,.aw 1⟩,⟨.int .u8,1,.aw 2⟩,⟨.int .u8,1,.aw 3⟩,⟨.int .u8,1,.aw 4⟩,⟨.int .u8,16,.aw 5⟩,⟨.int .u8,1,.aw 6⟩,⟨.int .u8,1,.aw 7⟩,⟨.int .u8,1,.aw 8⟩,⟨.int .u8,32,.aw 9⟩,⟨.int .u32,1,.aw 10⟩,⟨CK.bY,1,.lit 0⟩,⟨.int .u8,1,.aw 11⟩],.abs 0,.abs 1,.abs 2,.abs 3,.abs 4] ⟨9,2,5,12,0,6,0⟩ ⟨[x0,x1,x2,x3,x4],[A0,A1,A2,A3,A4,A5,A6,A7,A8,A9,bU,cz],[],[b0,b1,b2,b3,b4,b5,b6,b7,b8],[v0,v1],[],[p0,p1,p2,p3,p4,p5],[]⟩ 7 Try.func61 (by kernel_rfl) h
end Go.RX.Dk
