/- The call machine. -/
import Derived.Test.YtphemenngjkfbaaM33
open Decidable renaming not_not → ad5
open Go.Proofs.Try renaming prog → adY
open List renaming append → adH
namespace Go.RX.Cv
open Go.RX Go.Proofs Go.Cp Go.RX.Cs Go.RX.Ct Go.RX.Cu
abbrev VD(b3:Nat)(v0:V1)(ac cQ:Int)(A9:Nat→Int):List HP:=[ak b3 true [.int .u8 ac,v0.v,.int .i64 cQ],aB true 5 1 v0.v 2 (aH 2 [au .u8 1 A9])]
theorem ny(b b1 i now:Nat)(m:MR)(o:List (Mg (List Int)))(e:List (Ev (List Int)))(r:List (Nat×Nat))(hB:o.length≤900∧e.length≤900∧r.length≤900)(b3 b4:Nat)(v0:V1)(ac cQ:Int)(A9:Nat→Int)(E:HP)(YX:0≤ac∧ac<2)
  (h1:m.st=1) (h2:m.h_=(b3:Int)+1) (h3:m.early=(b4:Int)+1) (hb:0≤m.aK) (EK oc:Int):
  aq adY 95 [.pointer (some ⟨b1,0,none⟩),.pointer (some ⟨b,0,none⟩),.int .u8 EK,.int .u8 oc,.int .u64 (now:Int)] ([aY b i now o e r,cn b1 m,Mm.bB m.dead 256,E]++VD b3 v0 ac cQ A9)
   fun rv hs=>rv= .tuple #[]∧∃(o':List (Mg (List Int))) (sub:List Nat),o'=o++Cp.to zK 5 (a_ m.id) i sub∧(∀j∈sub,j=eh ac 0∨j=eh ac 1)∧sub.length≤2∧hs=[aY b i now o' (e++[⟨5,a_ m.id,0,zK⟩]) (r++[(a_ m.id,m.aK.toNat)]),cn b1 {m with st:=0},Mm.bB m.dead 256]:=by
 refine aq.post (p:=fun rv hs=>rv= .tuple #[]∧∃(o':List (Mg (List Int))) (sub:List Nat) (y:List HP),o'=o++Cp.to zK 5 (a_ m.id) i sub∧(∀j∈sub,j=eh ac 0∨j=eh ac 1)∧sub.length≤2∧hs=[aY b i now o' (e++[⟨5,a_ m.id,0,zK⟩]) (r++[(a_ m.id,m.aK.toNat)]),cn b1 {m with st:=0},Mm.bB m.dead 256]++y) ?_ fun rv hs ⟨k1,o',sub,y,k2,k3,k4,k5⟩=>⟨_,k5▸aD.sub (List.sublist_append_left _ _),k1,o',sub,k2,k3,k4,rfl⟩
 obtain⟨a,d,dv,dead,st,id,out,kO,pa,pd,own,off,dg,h_,early,aK,cf,since,heard,bD,bq⟩:=m;simp only at h1 h2 h3 hb;subst h1 h2 h3;have Ns:=fun(o':List (Mg (List Int))) (_:o'.length≤1000)=>iS b b1 i now ⟨a,d,dv,dead,1,id,out,kO,pa,pd,own,off,dg,(b3:Int)+1,(b4:Int)+1,aK,cf,since,heard,bD,bq⟩ o' e r (by omega) (by omega) oc hb
 simp only [cn,fj]at Ns ⊢;refine GX _ a d 0 out kO pa pd 0 0 aK cf since heard bD bq 0 0 0 0 0 EK oc (now:Int) 0 0 0 0 0 0 0 ac cQ 0 0 0 0 0 0 0 0 dv id own off dg (fun _=>0) (fun _=>0) (fun _=>0) (fun _=>0) A9 v0 b b1 dead b3 b4 (Mm.bB dead 256) (Mm.bB dead 256) E (aY b i now o e r) ?_;unfold y6;intro b5 b6 b7 b8 b9 fh _ _ _;refine⟨fun _=>fun C2=>⟨_,cd b i now o e r (by first | omega | (simp;omega)) ac 0 5 0 0 0 0 EK id (fun _=>0) YX (by decide) (by decide),?_⟩,fun _=>⟨fun _=>fun C2=>⟨_,cd b i now o e r (by first | omega | (simp;omega)) ac 1 5 0 0 0 0 EK id (fun _=>0) YX (by decide) (by decide),?_⟩,fun _=>?_⟩⟩
 ·rintro x hs ⟨rfl,rfl⟩;refine⟨_,rfl,rfl,fun _=>fun uw=>⟨_,cd b i now _ e r (by first | omega | (simp;omega)) ac 1 5 0 0 0 0 EK id (fun _=>0) YX (by decide) (by decide),?_⟩,fun _=>?_⟩
  ·rintro x hs ⟨rfl,rfl⟩;refine⟨_,rfl,rfl,?_⟩;refine⟨_,Ns ((o++[⟨5,a_ id,i,eh ac 0,zK⟩])++[⟨5,a_ id,i,eh ac 1,zK⟩]) (by first | omega | (simp;omega)),?_⟩;rintro x hs ⟨rfl,rfl⟩;exact⟨_,rfl,rfl,rfl,_,[eh ac 0,eh ac 1],_,(by simp [Cp.to]),(by simp),(by simp),rfl⟩
  ·refine⟨_,Ns (o++[⟨5,a_ id,i,eh ac 0,zK⟩]) (by first | omega | (simp;omega)),?_⟩;rintro x hs ⟨rfl,rfl⟩;exact⟨_,rfl,rfl,rfl,_,[eh ac 0],_,(by simp [Cp.to]),(by simp),(by simp),rfl⟩
 ·rintro x hs ⟨rfl,rfl⟩;refine⟨_,rfl,rfl,?_⟩;refine⟨_,Ns (o++[⟨5,a_ id,i,eh ac 1,zK⟩]) (by first | omega | (simp;omega)),?_⟩;rintro x hs ⟨rfl,rfl⟩;exact⟨_,rfl,rfl,rfl,_,[eh ac 1],_,(by simp [Cp.to]),(by simp),(by simp),rfl⟩
 ·refine⟨_,Ns o (by omega),?_⟩;rintro x hs ⟨rfl,rfl⟩;exact⟨_,rfl,rfl,rfl,_,[],_,(by simp [Cp.to]),(by simp),(by simp),rfl⟩
end Go.RX.Cv

namespace Go.RX.Cw
open Go.RX Go.Proofs
noncomputable def cx:Ctx:={T:=TT,FT:=FT,calls:=Cu.calls,de:=Ek}
open Go.RX Go.Proofs
set_option maxRecDepth 100000
def Bh(P:Program)(ao:Value→List HP→Prop)(x0 x1 x2 x3 x4 x5 x6 x7 x8 x9 aG aO aI aT bj _ _ _ _ _ bz bP bU bF bA bG bO bQ bN:Int)(A0 A1 A2 A3 A4 A5 A6 _ _ _:Nat→Int)(b0 b1 b2:Nat)(p0 _ _ p3:HP):Prop:=
 ∀b3 b4:Nat,aU (¬((¬((bA=bz)∧(bG=bP)))∨(¬(bO=x0)))) (
 Cl P 82 [.pp b2,.sg 16 A5] [p0] fun x hs l=> ∃q0:Bool,x= .bool q0∧hs=l∧
 aU (q0=true) (
 ao (.tuple #[]) [p3,Mw b1 x0 x1 A0 b2 x2 A1 (!(x3==0)) x4 x5 x6 A2 A3 A4 (aC x7) (aC x8) x9 aG aO aI aT bj,p0,Dw b3 bz bP,ak b4 true (Sg bF A5 bA bG bO A6 bQ bN)]) (
 aU (x2=0) (
 Cl P 115 [.pp b1,.pp b0,.agg (Sg bF A5 bA bG bO A6 bQ bN).toArray,.int .u64 bU] [p3,Mw b1 x0 x1 A0 b2 x2 A1 (!(x3==0)) x4 x5 x6 A2 A3 A4 (aC x7) (aC x8) x9 aG aO aI aT bj,p0] fun x hs _=> ∃(fI cS cQ:Int) (cm cZ:Nat→Int),∃p4:HP,x= .tuple #[]∧hs=[p4,Mw b1 x0 x1 A0 b2 2 cm false fI fI cS (fun _=>0) cZ (fun _=>0) (aC x7) (aC x8) cQ 0 cQ 0 0 0,p0]∧
 ao (.tuple #[]) [p4,Mw b1 x0 x1 A0 b2 2 cm false fI fI cS (fun _=>0) cZ (fun _=>0) (aC x7) (aC x8) cQ 0 cQ 0 0 0,p0,Dw b3 bz bP,ak b4 true (Sg bF A5 bA bG bO A6 bQ bN)]) (
 aU (∀j,j<16→A1 j=A5 j) (
 ao (.tuple #[]) [p3,Mw b1 x0 x1 A0 b2 x2 A1 (!(x3==0)) x4 x5 x6 A2 A3 A4 (aC x7) (aC x8) x9 aG aO aI aT bj,p0,Dw b3 bz bP,ak b4 true (Sg bF A5 bA bG bO A6 bQ bN)]) (
 aU ((x2=1)∧(x4=bz)) (
 Cl P 116 [.slice (some ⟨b4,1,none⟩) 16 16,.slice (some ⟨b1,12,none⟩) 16 16] [ak b4 true (Sg bF A5 bA bG bO A6 bQ bN),Mw b1 x0 x1 A0 b2 x2 A1 (!(x3==0)) x4 x5 x6 A2 A3 A4 (aC x7) (aC x8) x9 aG aO aI aT bj] fun x hs l=> ∃fI:Int,x= .int .i64 fI∧hs=l∧
 aU (fI<0) (
 ∀b5:Nat,Cl P 95 [.pp b1,.pp b0,.int .u8 4,.int .u8 7,.int .u64 bU] [p3,Mw b1 x0 x1 A0 b2 x2 A1 (!(x3==0)) x4 x5 x6 A2 A3 A4 (aC x7) (aC x8) x9 aG aO aI aT bj,p0] fun x hs _=> ∃p4:HP,x= .tuple #[]∧hs=[p4,Mw b1 x0 x1 A0 b2 0 A1 (!(x3==0)) x4 x5 x6 A2 A3 A4 (aC x7) (aC x8) x9 aG aO aI aT bj,p0]∧
 Cl P 115 [.pp b1,.pp b0,.agg (Sg bF A5 bA bG bO A6 bQ bN).toArray,.int .u64 bU] [p4,Mw b1 x0 x1 A0 b2 0 A1 (!(x3==0)) x4 x5 x6 A2 A3 A4 (aC x7) (aC x8) x9 aG aO aI aT bj,p0] fun x hs _=> ∃(cS cQ jm:Int) (cm cZ:Nat→Int),∃p5:HP,x= .tuple #[]∧hs=[p5,Mw b1 x0 x1 A0 b2 2 cm false cS cS cQ (fun _=>0) cZ (fun _=>0) (aC x7) (aC x8) jm 0 jm 0 0 0,p0]∧
 Cl P 97 [.pp b1,.pp b0,.sg 32 A2,.int .u64 bU] [p5,Mw b1 x0 x1 A0 b2 2 cm false cS cS cQ (fun _=>0) cZ (fun _=>0) (aC x7) (aC x8) jm 0 jm 0 0 0,p0] fun x hs _=> ∃(fZ:Int) (gL gM:Nat→Int),∃p6:HP,x= .tuple #[]∧hs=[p6,Mw b1 x0 x1 A0 b2 3 cm false cS cS cQ gL cZ gM (aC x7) (aC x8) jm 0 fZ 0 0 0,p0]∧
 ao (.tuple #[]) [p6,Mw b1 x0 x1 A0 b2 3 cm false cS cS cQ gL cZ gM (aC x7) (aC x8) jm 0 fZ 0 0 0,p0,Dw b3 bz bP,ak b4 true (Sg bF A5 bA bG bO A6 bQ bN),ak b5 true (adH (al .u8 32 A2) ([]))]) (
 ao (.tuple #[]) [p3,Mw b1 x0 x1 A0 b2 x2 A1 (!(x3==0)) x4 x5 x6 A2 A3 A4 (aC x7) (aC x8) x9 aG aO aI aT bj,p0,Dw b3 bz bP,ak b4 true (Sg bF A5 bA bG bO A6 bQ bN)])) (
 Cl P 96 [.pp b0,.dv bz bP,.agg (Sg 4 A5 0 0 0 (fun _=>0) 0 0).toArray] [p3] fun x hs _=> ∃p4:HP,x= .tuple #[]∧hs=[p4]∧
 ao (.tuple #[]) [p4,Mw b1 x0 x1 A0 b2 x2 A1 (!(x3==0)) x4 x5 x6 A2 A3 A4 (aC x7) (aC x8) x9 aG aO aI aT bj,p0,Dw b3 bz bP,ak b4 true (Sg bF A5 bA bG bO A6 bQ bN)]))))) (
 ao (.tuple #[]) [p3,Mw b1 x0 x1 A0 b2 x2 A1 (!(x3==0)) x4 x5 x6 A2 A3 A4 (aC x7) (aC x8) x9 aG aO aI aT bj,p0,Dw b3 bz bP,ak b4 true (Sg bF A5 bA bG bO A6 bQ bN)])
theorem KJ(ao:Value→List HP→Prop)(x0 x1 x2 x3 x4 x5 x6 x7 x8 x9 aG aO aI aT bj et dV ef ei e_ bz bP bU bF bA bG bO bQ bN:Int)(A0 A1 A2 A3 A4 A5 A6 A7 A8 A9:Nat→Int)(b0 b1 b2:Nat)(p0 p1 p2 p3:HP)(h:Bh adY ao x0 x1 x2 x3 x4 x5 x6 x7 x8 x9 aG aO aI aT bj et dV ef ei e_ bz bP bU bF bA bG bO bQ bN A0 A1 A2 A3 A4 A5 A6 A7 A8 A9 b0 b1 b2 p0 p1 p2 p3):aq adY 87 [.pp b1,.pp b0,.dv bz bP,.agg (Sg bF A5 bA bG bO A6 bQ bN).toArray,.int .u64 bU] [p3,Mw b1 x0 x1 A0 b2 x2 A1 (!(x3==0)) x4 x5 x6 A2 A3 A4 (aC x7) (aC x8) x9 aG aO aI aT bj,p0] ao:=
 rk (C:=cx) [.ptr 1 0,.ptr 0 0,.agg [.int .u8 (.var 20),.int .u8 (.var 21)],.agg [.int .u8 (.var 23),.aX .u8 16 (.aw 5),.int .u8 (.var 24),.int .u8 (.var 25),.int .u8 (.var 26),.aX .u8 32 (.aw 6),.int .u32 (.var 27),.bT,.int .u8 (.var 28)],.int .u64 (.var 22)] [.abs 3,.row 1 true [.int .u8 (.var 0),.int .u8 (.var 1),.aX .u8 8 (.aw 0),.ptr 2 0,.int .u8 (.var 2),.aX .u8 16 (.aw 1),.bool (BE.nz (.var 3)),.int .u8 (.var 4),.int .u8 (.var 5),.int .u8 (.var 6),.aX .u8 32 (.aw 2),.aX .u8 32 (.aw 3),.aX .u8 32 (.aw 4),.cO (.var 7),.cO (.var 8),.int .u64 (.var 9),.int .u64 (.var 10),.int .u64 (.var 11),.int .u64 (.var 12),.int .u64 (.var 13),.int .u32 (.var 14)],.abs 0] ⟨3,0,29,10,0,4,0⟩ ⟨[x0,x1,x2,x3,x4,x5,x6,x7,x8,x9,aG,aO,aI,aT,bj,et,dV,ef,ei,e_,bz,bP,bU,bF,bA,bG,bO,bQ,bN],[A0,A1,A2,A3,A4,A5,A6,A7,A8,A9],[],[b0,b1,b2],[],[],[p0,p1,p2,p3],[]⟩ Try.func87 (by kernel_rfl) h
def zd(P:Program)(ao:Value→List HP→Prop)(x0 x1 x2 x3 x4 x5 x6 x7 x8 x9 aG aO aI aT bj _ _ _ _ _ bz bP _ bF bA bG bO bQ bN:Int)(A0 A1 A2 A3 A4 A5 A6 _ _ _:Nat→Int)(b0 b1 b2:Nat)(p0 _ _ p3:HP):Prop:=
 ∀b3 b4:Nat,aU ((x2=0)∨(¬(∀j,j<16→A1 j=A5 j))) (
 Cl P 96 [.pp b0,.dv bz bP,.agg (Sg 5 A5 0 0 0 (fun _=>0) 0 1).toArray] [p3] fun x hs _=> ∃p4:HP,x= .tuple #[]∧hs=[p4]∧
 ao (.tuple #[]) [p4,Mw b1 x0 x1 A0 b2 x2 A1 (!(x3==0)) x4 x5 x6 A2 A3 A4 (aC x7) (aC x8) x9 aG aO aI aT bj,p0,Dw b3 bz bP,ak b4 true (Sg bF A5 bA bG bO A6 bQ bN)]) (
 aU (x2=1) (
 ∀b5:Nat,aU (x7=0) (
 ao (.tuple #[]) [p3,Mw b1 x0 x1 A0 b2 x2 A1 (!(x3==0)) x4 x5 x6 A2 A3 A4 (aC x7) (aC x8) x9 aG aO aI aT bj,p0,Dw b3 bz bP,ak b4 true (Sg bF A5 bA bG bO A6 bQ bN),Dw b5 bz bP]) (
 ∀_:Nat,aM (x7≠0) (
 False))) (
 aU ((x3≠0)∧(¬((bz=x5)∧(bP=x6)))) (
 Cl P 96 [.pp b0,.dv bz bP,.agg (Sg 6 A1 0 0 0 (fun _=>0) 0 0).toArray] [p3] fun x hs _=> ∃p4:HP,x= .tuple #[]∧hs=[p4]∧
 ao (.tuple #[]) [p4,Mw b1 x0 x1 A0 b2 x2 A1 (!(x3==0)) x4 x5 x6 A2 A3 A4 (aC x7) (aC x8) x9 aG aO aI aT bj,p0,Dw b3 bz bP,ak b4 true (Sg bF A5 bA bG bO A6 bQ bN)]) (
 ao (.tuple #[]) [p3,Mw b1 x0 x1 A0 b2 x2 A1 (!(x3==0)) x4 x5 x6 A2 A3 A4 (aC x7) (aC x8) x9 aG aO aI aT bj,p0,Dw b3 bz bP,ak b4 true (Sg bF A5 bA bG bO A6 bQ bN)])))
theorem G7(ao:Value→List HP→Prop)(x0 x1 x2 x3 x4 x5 x6 x7 x8 x9 aG aO aI aT bj et dV ef ei e_ bz bP bU bF bA bG bO bQ bN:Int)(A0 A1 A2 A3 A4 A5 A6 A7 A8 A9:Nat→Int)(b0 b1 b2:Nat)(p0 p1 p2 p3:HP)(h:zd adY ao x0 x1 x2 x3 x4 x5 x6 x7 x8 x9 aG aO aI aT bj et dV ef ei e_ bz bP bU bF bA bG bO bQ bN A0 A1 A2 A3 A4 A5 A6 A7 A8 A9 b0 b1 b2 p0 p1 p2 p3):aq adY 88 [.pp b1,.pp b0,.dv bz bP,.agg (Sg bF A5 bA bG bO A6 bQ bN).toArray,.int .u64 bU] [p3,Mw b1 x0 x1 A0 b2 x2 A1 (!(x3==0)) x4 x5 x6 A2 A3 A4 (aC x7) (aC x8) x9 aG aO aI aT bj,p0] ao:=
 rk (C:=cx) [.ptr 1 0,.ptr 0 0,.agg [.int .u8 (.var 20),.int .u8 (.var 21)],.agg [.int .u8 (.var 23),.aX .u8 16 (.aw 5),.int .u8 (.var 24),.int .u8 (.var 25),.int .u8 (.var 26),.aX .u8 32 (.aw 6),.int .u32 (.var 27),.bT,.int .u8 (.var 28)],.int .u64 (.var 22)] [.abs 3,.row 1 true [.int .u8 (.var 0),.int .u8 (.var 1),.aX .u8 8 (.aw 0),.ptr 2 0,.int .u8 (.var 2),.aX .u8 16 (.aw 1),.bool (BE.nz (.var 3)),.int .u8 (.var 4),.int .u8 (.var 5),.int .u8 (.var 6),.aX .u8 32 (.aw 2),.aX .u8 32 (.aw 3),.aX .u8 32 (.aw 4),.cO (.var 7),.cO (.var 8),.int .u64 (.var 9),.int .u64 (.var 10),.int .u64 (.var 11),.int .u64 (.var 12),.int .u64 (.var 13),.int .u32 (.var 14)],.abs 0] ⟨3,0,29,10,0,4,0⟩ ⟨[x0,x1,x2,x3,x4,x5,x6,x7,x8,x9,aG,aO,aI,aT,bj,et,dV,ef,ei,e_,bz,bP,bU,bF,bA,bG,bO,bQ,bN],[A0,A1,A2,A3,A4,A5,A6,A7,A8,A9],[],[b0,b1,b2],[],[],[p0,p1,p2,p3],[]⟩ Try.func88 (by kernel_rfl) h
def rM(P:Program)(ao:Value→List HP→Prop)(x0 x1 x2 x3 x4 x5 x6 x7 x8 x9 aG aO aI aT bj _ _ _ _ _ bz bP bU bF bA bG bO bQ bN:Int)(A0 A1 A2 A3 A4 A5 A6 _ _ _:Nat→Int)(b0 b1 b2:Nat)(p0 _ _ p3:HP):Prop:=
 ∀b3 b4:Nat,aU ((x2=0)∨(¬(∀j,j<16→A1 j=A5 j))) (
 Cl P 96 [.pp b0,.dv bz bP,.agg (Sg 5 A5 0 0 0 (fun _=>0) 0 1).toArray] [p3] fun x hs _=> ∃p4:HP,x= .tuple #[]∧hs=[p4]∧
 ao (.tuple #[]) [p4,Mw b1 x0 x1 A0 b2 x2 A1 (!(x3==0)) x4 x5 x6 A2 A3 A4 (aC x7) (aC x8) x9 aG aO aI aT bj,p0,Dw b3 bz bP,ak b4 true (Sg bF A5 bA bG bO A6 bQ bN)]) (
 aU (x2=1) (
 Cl P 120 [(aC x8),.dv bz bP] [] fun x hs _=>x= .tuple #[]∧hs=[]∧
 ao (.tuple #[]) [p3,Mw b1 x0 x1 A0 b2 x2 A1 (!(x3==0)) x4 x5 x6 A2 A3 A4 (aC x7) (aC x8) x9 aG aO aI aT bj,p0,Dw b3 bz bP,ak b4 true (Sg bF A5 bA bG bO A6 bQ bN)]) (
 aU (¬((bz=x5)∧(bP=x6))) (
 ao (.tuple #[]) [p3,Mw b1 x0 x1 A0 b2 x2 A1 (!(x3==0)) x4 x5 x6 A2 A3 A4 (aC x7) (aC x8) x9 aG aO aI aT bj,p0,Dw b3 bz bP,ak b4 true (Sg bF A5 bA bG bO A6 bQ bN)]) (
 aU (x2=3) (
 Cl P 119 [.pp b1,.pp b0,.int .u64 bU] [p3,Mw b1 x0 x1 A0 b2 x2 A1 (!(x3==0)) x4 x5 x6 A2 A3 A4 (aC x7) (aC x8) x9 aG aO aI aT bj,p0] fun x hs _=> ∃fI:Int,∃p4:HP,x= .tuple #[]∧hs=[p4,Mw b1 x0 x1 A0 b2 4 A1 (!(x3==0)) x4 x5 x6 A2 A3 A4 (aC x7) (aC x8) x9 fI fI fI fI 0,p0]∧
 ao (.tuple #[]) [p4,Mw b1 x0 x1 A0 b2 4 A1 (!(x3==0)) x4 x5 x6 A2 A3 A4 (aC x7) (aC x8) x9 fI fI fI fI 0,p0,Dw b3 bz bP,ak b4 true (Sg bF A5 bA bG bO A6 bQ bN)]) (
 aU (x2=4) (
 ao (.tuple #[]) [p3,Mw b1 x0 x1 A0 b2 x2 A1 (!(x3==0)) x4 x5 x6 A2 A3 A4 (aC x7) (aC x8) x9 aG aO bU aT bj,p0,Dw b3 bz bP,ak b4 true (Sg bF A5 bA bG bO A6 bQ bN)]) (
 ao (.tuple #[]) [p3,Mw b1 x0 x1 A0 b2 x2 A1 (!(x3==0)) x4 x5 x6 A2 A3 A4 (aC x7) (aC x8) x9 aG aO aI aT bj,p0,Dw b3 bz bP,ak b4 true (Sg bF A5 bA bG bO A6 bQ bN)])))))
theorem Ay(ao:Value→List HP→Prop)(x0 x1 x2 x3 x4 x5 x6 x7 x8 x9 aG aO aI aT bj et dV ef ei e_ bz bP bU bF bA bG bO bQ bN:Int)(A0 A1 A2 A3 A4 A5 A6 A7 A8 A9:Nat→Int)(b0 b1 b2:Nat)(p0 p1 p2 p3:HP)(h:rM adY ao x0 x1 x2 x3 x4 x5 x6 x7 x8 x9 aG aO aI aT bj et dV ef ei e_ bz bP bU bF bA bG bO bQ bN A0 A1 A2 A3 A4 A5 A6 A7 A8 A9 b0 b1 b2 p0 p1 p2 p3):aq adY 89 [.pp b1,.pp b0,.dv bz bP,.agg (Sg bF A5 bA bG bO A6 bQ bN).toArray,.int .u64 bU] [p3,Mw b1 x0 x1 A0 b2 x2 A1 (!(x3==0)) x4 x5 x6 A2 A3 A4 (aC x7) (aC x8) x9 aG aO aI aT bj,p0] ao:=
 rk (C:=cx) [.ptr 1 0,.ptr 0 0,.agg [.int .u8 (.var 20),.int .u8 (.var 21)],.agg [.int .u8 (.var 23),.aX .u8 16 (.aw 5),.int .u8 (.var 24),.int .u8 (.var 25),.int .u8 (.var 26),.aX .u8 32 (.aw 6),.int .u32 (.var 27),.bT,.int .u8 (.var 28)],.int .u64 (.var 22)] [.abs 3,.row 1 true [.int .u8 (.var 0),.int .u8 (.var 1),.aX .u8 8 (.aw 0),.ptr 2 0,.int .u8 (.var 2),.aX .u8 16 (.aw 1),.bool (BE.nz (.var 3)),.int .u8 (.var 4),.int .u8 (.var 5),.int .u8 (.var 6),.aX .u8 32 (.aw 2),.aX .u8 32 (.aw 3),.aX .u8 32 (.aw 4),.cO (.var 7),.cO (.var 8),.int .u64 (.var 9),.int .u64 (.var 10),.int .u64 (.var 11),.int .u64 (.var 12),.int .u64 (.var 13),.int .u32 (.var 14)],.abs 0] ⟨3,0,29,10,0,4,0⟩ ⟨[x0,x1,x2,x3,x4,x5,x6,x7,x8,x9,aG,aO,aI,aT,bj,et,dV,ef,ei,e_,bz,bP,bU,bF,bA,bG,bO,bQ,bN],[A0,A1,A2,A3,A4,A5,A6,A7,A8,A9],[],[b0,b1,b2],[],[],[p0,p1,p2,p3],[]⟩ Try.func89 (by kernel_rfl) h
def EL(P:Program)(ao:Value→List HP→Prop)(x0 x1 x2 x3 x4 x5 x6 x7 x8 x9 aG aO aI aT bj _ _ _ _ _ bz bP bU bF bA bG bO bQ bN:Int)(A0 A1 A2 A3 A4 A5 A6 _ _ _:Nat→Int)(b0 b1 b2:Nat)(p0 _ _ p3:HP):Prop:=
 ∀b3 b4:Nat,aU ((x2=0)∨(¬(∀j,j<16→A1 j=A5 j))) (
 Cl P 92 [.pp b2,.sg 16 A5] [p0] fun x hs l=>x= .tuple #[]∧hs=l∧
 ao (.tuple #[]) [p3,Mw b1 x0 x1 A0 b2 x2 A1 (!(x3==0)) x4 x5 x6 A2 A3 A4 (aC x7) (aC x8) x9 aG aO aI aT bj,p0,Dw b3 bz bP,ak b4 true (Sg bF A5 bA bG bO A6 bQ bN)]) (
 aU (x2=1) (
 aU (bN=2) (
 ∀b5 b6:Nat,aU (x7=0) (
 ao (.tuple #[]) [p3,Mw b1 x0 x1 A0 b2 x2 A1 (!(x3==0)) x4 x5 x6 A2 A3 A4 (aC x7) (aC x8) x9 aG aO aI aT bj,p0,Dw b3 bz bP,ak b4 true (Sg bF A5 bA bG bO A6 bQ bN),Dw b5 bz bP,Dw b6 bz bP]) (
 ∀_:Nat,aM (x7≠0) (
 False))) (
 ∀b5 b6:Nat,aU (x7=0) (
 ao (.tuple #[]) [p3,Mw b1 x0 x1 A0 b2 x2 A1 (!(x3==0)) x4 x5 x6 A2 A3 A4 (aC x7) (aC x8) x9 aG aO aI aT bj,p0,Dw b3 bz bP,ak b4 true (Sg bF A5 bA bG bO A6 bQ bN),Dw b5 bz bP,Dw b6 bz bP]) (
 ∀_:Nat,aM (x7≠0) (
 False)))) (
 aU (¬((bz=x5)∧(bP=x6))) (
 ao (.tuple #[]) [p3,Mw b1 x0 x1 A0 b2 x2 A1 (!(x3==0)) x4 x5 x6 A2 A3 A4 (aC x7) (aC x8) x9 aG aO aI aT bj,p0,Dw b3 bz bP,ak b4 true (Sg bF A5 bA bG bO A6 bQ bN)]) (
 aU ((x2=2)∧(bN=2)) (
 Cl P 93 [.pp b1,.pp b0,.int .u8 4,.int .u64 bU] [p3,Mw b1 x0 x1 A0 b2 x2 A1 (!(x3==0)) x4 x5 x6 A2 A3 A4 (aC x7) (aC x8) x9 aG aO aI aT bj,p0] fun x hs _=> ∃p4:HP,x= .tuple #[]∧hs=[p4,Mw b1 x0 x1 A0 b2 0 A1 (!(x3==0)) x4 x5 x6 A2 A3 A4 (aC x7) (aC x8) x9 aG aO aI aT bj,p0]∧
 ao (.tuple #[]) [p4,Mw b1 x0 x1 A0 b2 0 A1 (!(x3==0)) x4 x5 x6 A2 A3 A4 (aC x7) (aC x8) x9 aG aO aI aT bj,p0,Dw b3 bz bP,ak b4 true (Sg bF A5 bA bG bO A6 bQ bN)]) (
 aU (x2=2) (
 Cl P 93 [.pp b1,.pp b0,.int .u8 3,.int .u64 bU] [p3,Mw b1 x0 x1 A0 b2 x2 A1 (!(x3==0)) x4 x5 x6 A2 A3 A4 (aC x7) (aC x8) x9 aG aO aI aT bj,p0] fun x hs _=> ∃p4:HP,x= .tuple #[]∧hs=[p4,Mw b1 x0 x1 A0 b2 0 A1 (!(x3==0)) x4 x5 x6 A2 A3 A4 (aC x7) (aC x8) x9 aG aO aI aT bj,p0]∧
 ao (.tuple #[]) [p4,Mw b1 x0 x1 A0 b2 0 A1 (!(x3==0)) x4 x5 x6 A2 A3 A4 (aC x7) (aC x8) x9 aG aO aI aT bj,p0,Dw b3 bz bP,ak b4 true (Sg bF A5 bA bG bO A6 bQ bN)]) (
 aU (x2=3) (
 Cl P 93 [.pp b1,.pp b0,.int .u8 6,.int .u64 bU] [p3,Mw b1 x0 x1 A0 b2 x2 A1 (!(x3==0)) x4 x5 x6 A2 A3 A4 (aC x7) (aC x8) x9 aG aO aI aT bj,p0] fun x hs _=> ∃p4:HP,x= .tuple #[]∧hs=[p4,Mw b1 x0 x1 A0 b2 0 A1 (!(x3==0)) x4 x5 x6 A2 A3 A4 (aC x7) (aC x8) x9 aG aO aI aT bj,p0]∧
 ao (.tuple #[]) [p4,Mw b1 x0 x1 A0 b2 0 A1 (!(x3==0)) x4 x5 x6 A2 A3 A4 (aC x7) (aC x8) x9 aG aO aI aT bj,p0,Dw b3 bz bP,ak b4 true (Sg bF A5 bA bG bO A6 bQ bN)]) (
 Cl P 93 [.pp b1,.pp b0,.int .u8 1,.int .u64 bU] [p3,Mw b1 x0 x1 A0 b2 x2 A1 (!(x3==0)) x4 x5 x6 A2 A3 A4 (aC x7) (aC x8) x9 aG aO aI aT bj,p0] fun x hs _=> ∃p4:HP,x= .tuple #[]∧hs=[p4,Mw b1 x0 x1 A0 b2 0 A1 (!(x3==0)) x4 x5 x6 A2 A3 A4 (aC x7) (aC x8) x9 aG aO aI aT bj,p0]∧
 ao (.tuple #[]) [p4,Mw b1 x0 x1 A0 b2 0 A1 (!(x3==0)) x4 x5 x6 A2 A3 A4 (aC x7) (aC x8) x9 aG aO aI aT bj,p0,Dw b3 bz bP,ak b4 true (Sg bF A5 bA bG bO A6 bQ bN)]))))))
theorem Nt(ao:Value→List HP→Prop)(x0 x1 x2 x3 x4 x5 x6 x7 x8 x9 aG aO aI aT bj et dV ef ei e_ bz bP bU bF bA bG bO bQ bN:Int)(A0 A1 A2 A3 A4 A5 A6 A7 A8 A9:Nat→Int)(b0 b1 b2:Nat)(p0 p1 p2 p3:HP)(h:EL adY ao x0 x1 x2 x3 x4 x5 x6 x7 x8 x9 aG aO aI aT bj et dV ef ei e_ bz bP bU bF bA bG bO bQ bN A0 A1 A2 A3 A4 A5 A6 A7 A8 A9 b0 b1 b2 p0 p1 p2 p3):aq adY 91 [.pp b1,.pp b0,.dv bz bP,.agg (Sg bF A5 bA bG bO A6 bQ bN).toArray,.int .u64 bU] [p3,Mw b1 x0 x1 A0 b2 x2 A1 (!(x3==0)) x4 x5 x6 A2 A3 A4 (aC x7) (aC x8) x9 aG aO aI aT bj,p0] ao:=
 rk (C:=cx) [.ptr 1 0,.ptr 0 0,.agg [.int .u8 (.var 20),.int .u8 (.var 21)],.agg [.int .u8 (.var 23),.aX .u8 16 (.aw 5),.int .u8 (.var 24),.int .u8 (.var 25),.int .u8 (.var 26),.aX .u8 32 (.aw 6),.int .u32 (.var 27),.bT,.int .u8 (.var 28)],.int .u64 (.var 22)] [.abs 3,.row 1 true [.int .u8 (.var 0),.int .u8 (.var 1),.aX .u8 8 (.aw 0),.ptr 2 0,.int .u8 (.var 2),.aX .u8 16 (.aw 1),.bool (BE.nz (.var 3)),.int .u8 (.var 4),.int .u8 (.var 5),.int .u8 (.var 6),.aX .u8 32 (.aw 2),.aX .u8 32 (.aw 3),.aX .u8 32 (.aw 4),.cO (.var 7),.cO (.var 8),.int .u64 (.var 9),.int .u64 (.var 10),.int .u64 (.var 11),.int .u64 (.var 12),.int .u64 (.var 13),.int .u32 (.var 14)],.abs 0] ⟨3,0,29,10,0,4,0⟩ ⟨[x0,x1,x2,x3,x4,x5,x6,x7,x8,x9,aG,aO,aI,aT,bj,et,dV,ef,ei,e_,bz,bP,bU,bF,bA,bG,bO,bQ,bN],[A0,A1,A2,A3,A4,A5,A6,A7,A8,A9],[],[b0,b1,b2],[],[],[p0,p1,p2,p3],[]⟩ Try.func91 (by kernel_rfl) h
end Go.RX.Cw

namespace Go.RX.Cu
open Go.RX Go.Proofs Go.Cp Go.RX.Cs Go.RX.Ct
theorem Tj{f:Nat}{args:List Value}{pre:List HP}{Q:(Nat→Int)→Prop}{T:(Nat→Int)→List HP}(h:aq adY f args pre fun rv hs=>rv= .tuple #[]∧∃A y,Q A∧hs=T A++y):aq adY f args pre fun rv hs=>rv= .tuple #[]∧∃A,Q A∧hs=T A:=
 h.post fun _ _ ⟨h1,A,_,h3,h2⟩=>⟨T A,h2▸aD.sub (List.sublist_append_left _ _),h1,A,h3,rfl⟩
theorem rN(b b1 i now:Nat)(m:MR)(o:List (Mg (List Int)))(e:List (Ev (List Int)))(r:List (Nat×Nat))(hB:o.length≤900∧e.length≤900∧r.length≤900)(Nq:0≤m.pa∧m.pa<2)(Nr:0≤m.pd∧m.pd<2)(A5:Nat→Int)(W:List Int)
  (hM:aq adY 44 [.agg (adH (al .u8 16 m.id) ([])).toArray,.agg (adH (al .u8 32 m.off) ([])).toArray,.agg (adH (al .u8 32 A5) ([])).toArray,.agg #[.int .u8 m.pa,.int .u8 m.pd],.agg #[.int .u8 m.a,.int .u8 m.d]] [] fun rv hs=> ∃A:Nat→Int,rv= .agg (adH (al .u8 32 A) ([])).toArray∧hs=[]∧aJ A 0 32=W):
  aq adY 97 [.pointer (some ⟨b1,0,none⟩),.pointer (some ⟨b,0,none⟩),.agg (adH (al .u8 32 A5) ([])).toArray,.int .u64 (now:Int)] [aY b i now o e r,cn b1 m,Mm.bB m.dead 256]
   fun rv hs=>rv= .tuple #[]∧∃A:Nat→Int,aJ A 0 32=W∧hs=[aY b i now ((o++[⟨2,a_ m.id,i,eh m.pa m.pd,aJ A5 0 32⟩])++[⟨3,a_ m.id,i,eh m.pa m.pd,zK⟩]) (e++[⟨3,a_ m.id,eh m.pa m.pd,zK⟩]) r,cn b1 {m with st:=3,own:=A5,dg:=A,since:=(now:Int)},Mm.bB m.dead 256]:=by
 refine Tj (Q:=fun A=>aJ A 0 32=W) (T:=fun A=>[aY b i now ((o++[⟨2,a_ m.id,i,eh m.pa m.pd,aJ A5 0 32⟩])++[⟨3,a_ m.id,i,eh m.pa m.pd,zK⟩]) (e++[⟨3,a_ m.id,eh m.pa m.pd,zK⟩]) r,cn b1 {m with st:=3,own:=A5,dg:=A,since:=(now:Int)},Mm.bB m.dead 256]) ?_;refine GZ _ m.a m.d m.st m.out m.ac m.pa m.pd m.h_ m.early m.aK m.cf m.since m.heard m.bD m.bq 0 0 0 0 0 0 0 (now:Int) 0 0 0 0 0 0 0 0 0 0 0 0 0 0 0 0 0 m.dv m.id m.own m.off m.dg A5 (fun _=>0) (fun _=>0) (fun _=>0) (fun _=>0) b b1 m.dead (Mm.bB m.dead 256) (Mm.bB m.dead 256) (Mm.bB m.dead 256) (aY b i now o e r) ?_;unfold y8;refine fun b3=>⟨_,hM,?_⟩
 rintro x hs ⟨A,rfl,rfl,hW⟩;refine⟨A,rfl,rfl,_,cd b i now o e r (by omega) m.pa m.pd 2 0 0 0 0 0 m.id A5 Nq Nr (by decide),?_⟩;rintro x hs ⟨rfl,rfl⟩;refine⟨_,rfl,rfl,_,cd b i now _ e r (by simp;omega) m.pa m.pd 3 0 0 0 1 0 m.id (fun _=>0) Nq Nr (by decide),?_⟩;rintro x hs ⟨rfl,rfl⟩;refine⟨_,rfl,rfl,fun b4=>⟨_,kx b b1 i now {m with st:=3,own:=A5,dg:=A,since:=(now:Int)} _ e r (by omega) 3 (now:Int) 0 0 0 0 0 m.pa m.pd 0 (fun _=>0) (fun _=>0) Nq Nr (by decide),?_⟩⟩;rintro x hs ⟨rfl,rfl⟩;exact⟨_,rfl,rfl,rfl,A,_,hW,rfl⟩
theorem tQ(b b1 i now:Nat)(m:MR)(o:List (Mg (List Int)))(e:List (Ev (List Int)))(r:List (Nat×Nat))(hB:o.length≤900∧e.length≤900∧r.length≤900)(Nq:0≤m.pa∧m.pa<2)(Nr:0≤m.pd∧m.pd<2)(W:List Int)
  (hS: ∀b3:Nat,aq adY 78 [.slice (some ⟨b3,0,none⟩) 1 1] [ak b3 true [.slice (some ⟨b1,96,none⟩) 32 32],cn b1 {m with st:=4,since:=(now:Int),cf:=(now:Int),heard:=(now:Int),bD:=(now:Int),bq:=0}] fun rv hs=> ∃A:Nat→Int,rv= .agg (adH (al .u8 32 A) ([])).toArray∧hs=[ak b3 true [.slice (some ⟨b1,96,none⟩) 32 32],cn b1 {m with st:=4,since:=(now:Int),cf:=(now:Int),heard:=(now:Int),bD:=(now:Int),bq:=0}]∧aJ A 0 32=W):
  aq adY 119 [.pointer (some ⟨b1,0,none⟩),.pointer (some ⟨b,0,none⟩),.int .u64 (now:Int)] [aY b i now o e r,cn b1 m,Mm.bB m.dead 256]
   fun rv hs=>rv= .tuple #[]∧hs=[aY b i now o (e++[⟨4,a_ m.id,eh m.pa m.pd,W⟩]) r,cn b1 {m with st:=4,since:=(now:Int),cf:=(now:Int),heard:=(now:Int),bD:=(now:Int),bq:=0},Mm.bB m.dead 256]:=by
 refine leave ?_;refine Kz _ m.a m.d m.st m.out m.ac m.pa m.pd m.h_ m.early m.aK m.cf m.since m.heard m.bD m.bq 0 0 0 0 0 0 0 (now:Int) 0 0 0 0 0 0 0 0 0 0 0 0 0 0 0 0 0 m.dv m.id m.own m.off m.dg (fun _=>0) (fun _=>0) (fun _=>0) (fun _=>0) (fun _=>0) b b1 m.dead (Mm.bB m.dead 256) (Mm.bB m.dead 256) (Mm.bB m.dead 256) (aY b i now o e r) ?_;unfold Bf;refine fun b3=>⟨_,hS b3,?_⟩
 rintro x hs ⟨A,rfl,rfl,hW⟩;refine⟨A,rfl,rfl,_,kx b b1 i now {m with st:=4,since:=(now:Int),cf:=(now:Int),heard:=(now:Int),bD:=(now:Int),bq:=0} o e r (by omega) 4 (now:Int) 0 0 0 0 0 m.pa m.pd 0 (fun _=>0) A Nq Nr (by decide),?_⟩;rintro x hs ⟨rfl,rfl⟩;rw [hW];exact⟨_,rfl,rfl,rfl,_,rfl⟩
end Go.RX.Cu

namespace Go.RX.Cw
open Go.RX Go.Proofs Go.Cp Go.RX.Cs Go.RX.Ct Go.RX.Cu
set_option maxRecDepth 100000
abbrev lW(m:MR)(A5:Nat→Int):Prop:= ∀j,j<16→m.id j=A5 j
abbrev VE(b1:Nat)(m:MR)(W:List Int):Prop:= ∀b3:Nat,aq adY 78 [.slice (some ⟨b3,0,none⟩) 1 1] [ak b3 true [.slice (some ⟨b1,96,none⟩) 32 32],cn b1 m] fun rv hs=> ∃A:Nat→Int,rv= .agg (adH (al .u8 32 A) ([])).toArray∧hs=[ak b3 true [.slice (some ⟨b1,96,none⟩) 32 32],cn b1 m]∧aJ A 0 32=W
theorem G8{b b1 i now:Nat}{m:MR}{r:List (Nat×Nat)}{f:Nat}{args:List Value}{pre:List HP}{R:List (Mg (List Int))→List (Ev (List Int))→MR→Prop}
  (h:aq adY f args pre fun rv hs=>rv= .tuple #[]∧∃o' e' m' y,R o' e' m'∧hs=[aY b i now o' e' r,cn b1 m',Mm.bB m.dead 256]++y):aq adY f args pre fun rv hs=>rv= .tuple #[]∧∃o' e' m',R o' e' m'∧hs=[aY b i now o' e' r,cn b1 m',Mm.bB m.dead 256]:=
 h.post fun _ _ ⟨h1,o',e',m',_,h3,h2⟩=>⟨_,h2▸aD.sub (List.sublist_append_left _ _),h1,o',e',m',h3,rfl⟩
theorem EM(b b1 i now:Nat)(m:MR)(o:List (Mg (List Int)))(e:List (Ev (List Int)))(r:List (Nat×Nat))(hB:o.length≤900∧e.length≤900∧r.length≤900)(Nq:m.st≠0→0≤m.pa∧m.pa<2)(Nr:m.st≠0→0≤m.pd∧m.pd<2)(ow:m.st≠1)(W:List Int)(hS:m.st=3→VE b1 {m with st:=4,since:=(now:Int),cf:=(now:Int),heard:=(now:Int),bD:=(now:Int),bq:=0} W)(f0 f1 bF bA bG bO bQ bN:Int)(A5 A6:Nat→Int)(sH:0≤f0∧f0<2)(sZ:0≤f1∧f1<2):
  aq adY 89 [.pointer (some ⟨b1,0,none⟩),.pointer (some ⟨b,0,none⟩),.agg #[.int .u8 f0,.int .u8 f1],.agg (.int .u8 bF::(adH (al .u8 16 A5) (.int .u8 bA::(.int .u8 bG::(.int .u8 bO::(adH (al .u8 32 A6) ([.int .u32 bQ,.slice none 0 0,.int .u8 bN]))))))).toArray,.int .u64 (now:Int)] [aY b i now o e r,cn b1 m,Mm.bB m.dead 256]
   fun rv hs=>rv= .tuple #[]∧∃o' e' m',((m.st=0∨¬lW m A5)∧o'=o++[⟨5,a_ A5,i,eh f0 f1,zK⟩]∧e'=e∧m'=m∨
    ¬(m.st=0∨¬lW m A5)∧(¬(f0=m.pa∧f1=m.pd)∧o'=o∧e'=e∧m'=m∨(f0=m.pa∧f1=m.pd)∧(m.st=3∧o'=o∧e'=e++[⟨4,a_ m.id,eh m.pa m.pd,W⟩]∧m'={m with st:=4,since:=(now:Int),cf:=(now:Int),heard:=(now:Int),bD:=(now:Int),bq:=0}∨m.st=4∧o'=o∧e'=e∧m'={m with heard:=(now:Int)}∨m.st≠3∧m.st≠4∧o'=o∧e'=e∧m'=m)))∧
    hs=[aY b i now o' e' r,cn b1 m',Mm.bB m.dead 256]:=by
 refine G8 ?_;refine Ay _ m.a m.d m.st m.out m.ac m.pa m.pd m.h_ m.early m.aK m.cf m.since m.heard m.bD m.bq 0 0 0 0 0 f0 f1 (now:Int) bF bA bG bO bQ bN m.dv m.id m.own m.off m.dg A5 A6 (fun _=>0) (fun _=>0) (fun _=>0) b b1 m.dead (Mm.bB m.dead 256) (Mm.bB m.dead 256) (Mm.bB m.dead 256) (aY b i now o e r) ?_;unfold rM;intro b3 b4;refine⟨fun c1=>⟨_,cd b i now o e r (by omega) f0 f1 5 0 0 0 0 1 A5 (fun _=>0) sH sZ (by decide),?_⟩,fun c1=>⟨fun c2=>absurd c2 ow,fun _=>⟨fun c3=>?_,fun c3=>⟨fun c4=>⟨_,tQ b b1 i now m o e r hB (Nq (by omega)) (Nr (by omega)) W (hS c4),?_⟩,fun c4=>⟨fun c5=>?_,fun c5=>?_⟩⟩⟩⟩⟩
 ·rintro x hs ⟨rfl,rfl⟩;exact⟨_,rfl,rfl,rfl,_,_,_,_,.inl ⟨c1,rfl,rfl,rfl⟩,rfl⟩
 ·exact⟨rfl,_,_,_,_,.inr ⟨c1,.inl ⟨c3,rfl,rfl,rfl⟩⟩,rfl⟩
 ·rintro x hs ⟨rfl,rfl⟩;exact⟨_,_,rfl,rfl,rfl,_,_,_,_,.inr ⟨c1,.inr ⟨ad5.1 c3,.inl ⟨c4,rfl,rfl,rfl⟩⟩⟩,rfl⟩
 ·exact⟨rfl,_,_,_,_,.inr ⟨c1,.inr ⟨ad5.1 c3,.inr (.inl ⟨c5,rfl,rfl,rfl⟩)⟩⟩,rfl⟩
 ·exact⟨rfl,_,_,_,_,.inr ⟨c1,.inr ⟨ad5.1 c3,.inr (.inr ⟨c4,c5,rfl,rfl,rfl⟩)⟩⟩,rfl⟩
theorem G9(b b1 i now:Nat)(m:MR)(o:List (Mg (List Int)))(e:List (Ev (List Int)))(r:List (Nat×Nat))(hB:o.length≤900∧e.length≤900∧r.length≤900)(ow:m.st≠1)(f0 f1 bF bA bG bO bQ bN:Int)(A5 A6:Nat→Int)(sH:0≤f0∧f0<2)(sZ:0≤f1∧f1<2):
  aq adY 88 [.pointer (some ⟨b1,0,none⟩),.pointer (some ⟨b,0,none⟩),.agg #[.int .u8 f0,.int .u8 f1],.agg (.int .u8 bF::(adH (al .u8 16 A5) (.int .u8 bA::(.int .u8 bG::(.int .u8 bO::(adH (al .u8 32 A6) ([.int .u32 bQ,.slice none 0 0,.int .u8 bN]))))))).toArray,.int .u64 (now:Int)] [aY b i now o e r,cn b1 m,Mm.bB m.dead 256]
   fun rv hs=>rv= .tuple #[]∧∃o' e' m',((m.st=0∨¬lW m A5)∧o'=o++[⟨5,a_ A5,i,eh f0 f1,zK⟩]∧e'=e∧m'=m∨
    ¬(m.st=0∨¬lW m A5)∧((m.out≠0∧¬(f0=m.pa∧f1=m.pd))∧o'=o++[⟨6,a_ m.id,i,eh f0 f1,zK⟩]∧e'=e∧m'=m∨¬(m.out≠0∧¬(f0=m.pa∧f1=m.pd))∧o'=o∧e'=e∧m'=m))∧
    hs=[aY b i now o' e' r,cn b1 m',Mm.bB m.dead 256]:=by
 refine G8 ?_;refine G7 _ m.a m.d m.st m.out m.ac m.pa m.pd m.h_ m.early m.aK m.cf m.since m.heard m.bD m.bq 0 0 0 0 0 f0 f1 (now:Int) bF bA bG bO bQ bN m.dv m.id m.own m.off m.dg A5 A6 (fun _=>0) (fun _=>0) (fun _=>0) b b1 m.dead (Mm.bB m.dead 256) (Mm.bB m.dead 256) (Mm.bB m.dead 256) (aY b i now o e r) ?_;unfold zd;intro b3 b4;refine⟨fun c1=>⟨_,cd b i now o e r (by omega) f0 f1 5 0 0 0 0 1 A5 (fun _=>0) sH sZ (by decide),?_⟩,fun c1=>⟨fun c2=>absurd c2 ow,fun _=>⟨fun c3=>⟨_,cd b i now o e r (by omega) f0 f1 6 0 0 0 0 0 m.id (fun _=>0) sH sZ (by decide),?_⟩,fun c3=>?_⟩⟩⟩
 ·rintro x hs ⟨rfl,rfl⟩;exact⟨_,rfl,rfl,rfl,_,_,_,_,.inl ⟨c1,rfl,rfl,rfl⟩,rfl⟩
 ·rintro x hs ⟨rfl,rfl⟩;exact⟨_,rfl,rfl,rfl,_,_,_,_,.inr ⟨c1,.inl ⟨c3,rfl,rfl,rfl⟩⟩,rfl⟩
 ·exact⟨rfl,_,_,_,_,.inr ⟨c1,.inr ⟨c3,rfl,rfl,rfl⟩⟩,rfl⟩
theorem G_(b b1 i now:Nat)(m:MR)(o:List (Mg (List Int)))(e:List (Ev (List Int)))(r:List (Nat×Nat))(hB:o.length≤900∧e.length≤900∧r.length≤900)(ow:m.st≠1)(f0 f1 bF bA bG bO bQ bN:Int)(A5 A6:Nat→Int)(sH:0≤f0∧f0<2)(sZ:0≤f1∧f1<2):
  aq adY 87 [.pointer (some ⟨b1,0,none⟩),.pointer (some ⟨b,0,none⟩),.agg #[.int .u8 f0,.int .u8 f1],.agg (.int .u8 bF::(adH (al .u8 16 A5) (.int .u8 bA::(.int .u8 bG::(.int .u8 bO::(adH (al .u8 32 A6) ([.int .u32 bQ,.slice none 0 0,.int .u8 bN]))))))).toArray,.int .u64 (now:Int)] [aY b i now o e r,cn b1 m,Mm.bB m.dead 256]
   fun rv hs=>rv= .tuple #[]∧∃o' e' m',(o'=o∧e'=e∧m'=m∨
    m.st=0∧o'=o∧e'=e++[⟨2,a_ A5,0,zK⟩]∧m'={m with st:=2,id:=A5,out:=0,ac:=f0,pa:=f0,pd:=f1,own:=fun _=>0,off:=A6,dg:=fun _=>0,aK:=(now:Int),cf:=0,since:=(now:Int),heard:=0,bD:=0,bq:=0}∨
    m.st≠0∧¬lW m A5∧o'=o++[⟨4,a_ A5,i,eh f0 f1,zK⟩]∧e'=e∧m'=m)∧
    hs=[aY b i now o' e' r,cn b1 m',Mm.bB m.dead 256]:=by
 refine G8 ?_;refine KJ _ m.a m.d m.st m.out m.ac m.pa m.pd m.h_ m.early m.aK m.cf m.since m.heard m.bD m.bq 0 0 0 0 0 f0 f1 (now:Int) bF bA bG bO bQ bN m.dv m.id m.own m.off m.dg A5 A6 (fun _=>0) (fun _=>0) (fun _=>0) b b1 m.dead (Mm.bB m.dead 256) (Mm.bB m.dead 256) (Mm.bB m.dead 256) (aY b i now o e r) ?_;unfold Bh;intro b3 b4;refine⟨fun c1=>⟨_,Mm.sG m.dead 256 A5,?_⟩,fun c1=>⟨rfl,_,_,_,_,.inl ⟨rfl,rfl,rfl⟩,rfl⟩⟩;rintro x hs ⟨⟨q,rfl⟩,rfl⟩;refine⟨q,rfl,rfl,fun _=>⟨rfl,_,_,_,_,.inl ⟨rfl,rfl,rfl⟩,rfl⟩,fun _=>⟨fun c2=>⟨_,v_ b b1 i now m o e r hB bF bA bG bO bQ bN A5 A6,?_⟩,fun c2=>⟨fun c3=>⟨rfl,_,_,_,_,.inl ⟨rfl,rfl,rfl⟩,rfl⟩,fun c3=>⟨fun c4=>absurd c4.1 ow,fun c4=>⟨_,cd b i now o e r (by omega) f0 f1 4 0 0 0 0 0 A5 (fun _=>0) sH sZ (by decide),?_⟩⟩⟩⟩⟩
 ·rintro x hs ⟨rfl,rfl⟩;have c5:bA=f0∧bG=f1:=ad5.1 fun h=>c1 (.inl h)
  obtain⟨rfl,rfl⟩:=c5;exact⟨_,_,_,_,_,_,rfl,rfl,rfl,_,_,_,_,.inr (.inl ⟨c2,rfl,rfl,rfl⟩),rfl⟩
 ·rintro x hs ⟨rfl,rfl⟩;exact⟨_,rfl,rfl,rfl,_,_,_,_,.inr (.inr ⟨c2,c3,rfl,rfl,rfl⟩),rfl⟩
theorem EN(b b1 i now:Nat)(m:MR)(o:List (Mg (List Int)))(e:List (Ev (List Int)))(r:List (Nat×Nat))(hB:o.length≤900∧e.length≤900∧r.length≤900)(ow:m.st≠1)(hb:m.st≠0→0≤m.aK)(f0 f1 bF bA bG bO bQ bN:Int)(A5 A6:Nat→Int):
  aq adY 91 [.pointer (some ⟨b1,0,none⟩),.pointer (some ⟨b,0,none⟩),.agg #[.int .u8 f0,.int .u8 f1],.agg (.int .u8 bF::(adH (al .u8 16 A5) (.int .u8 bA::(.int .u8 bG::(.int .u8 bO::(adH (al .u8 32 A6) ([.int .u32 bQ,.slice none 0 0,.int .u8 bN]))))))).toArray,.int .u64 (now:Int)] [aY b i now o e r,cn b1 m,Mm.bB m.dead 256]
   fun rv hs=>rv= .tuple #[]∧∃e' r' m',((m.st=0∨¬lW m A5∨¬(f0=m.pa∧f1=m.pd))∧e'=e∧r'=r∧m'=m∨
    ¬(m.st=0∨¬lW m A5)∧(f0=m.pa∧f1=m.pd)∧e'=e++[⟨5,a_ m.id,0,zK⟩]∧r'=r++[(a_ m.id,m.aK.toNat)]∧m'={m with st:=0})∧
    hs=[aY b i now o e' r',cn b1 m',Mm.bB m.dead 256]:=by
 refine aq.post (p:=fun rv hs=>rv= .tuple #[]∧∃e' r' m' y,((m.st=0∨¬lW m A5∨¬(f0=m.pa∧f1=m.pd))∧e'=e∧r'=r∧m'=m∨
    ¬(m.st=0∨¬lW m A5)∧(f0=m.pa∧f1=m.pd)∧e'=e++[⟨5,a_ m.id,0,zK⟩]∧r'=r++[(a_ m.id,m.aK.toNat)]∧m'={m with st:=0})∧
    hs=[aY b i now o e' r',cn b1 m',Mm.bB m.dead 256]++y) ?_ fun rv hs ⟨k1,e',r',m',y,k2,k3⟩=>⟨_,k3▸aD.sub (List.sublist_append_left _ _),k1,e',r',m',k2,rfl⟩
 refine Nt _ m.a m.d m.st m.out m.ac m.pa m.pd m.h_ m.early m.aK m.cf m.since m.heard m.bD m.bq 0 0 0 0 0 f0 f1 (now:Int) bF bA bG bO bQ bN m.dv m.id m.own m.off m.dg A5 A6 (fun _=>0) (fun _=>0) (fun _=>0) b b1 m.dead (Mm.bB m.dead 256) (Mm.bB m.dead 256) (Mm.bB m.dead 256) (aY b i now o e r) ?_;unfold EL;intro b3 b4;refine⟨fun c1=>⟨_,Mm.mT m.dead 256 A5 (by decide) (by decide),?_⟩,fun c1=>⟨fun c2=>absurd c2 ow,fun _=>⟨fun c3=>⟨rfl,_,_,_,_,.inl ⟨.inr (.inr c3),rfl,rfl,rfl⟩,rfl⟩,fun c3=>?_⟩⟩⟩
 ·rintro x hs ⟨rfl,rfl⟩;exact⟨rfl,rfl,rfl,_,_,_,_,.inl ⟨c1.elim .inl fun h=> .inr (.inl h),rfl,rfl,rfl⟩,rfl⟩
 ·have c4:=ad5.1 c3;refine⟨fun _=>⟨_,iS b b1 i now m o e r (by omega) (by omega) 4 (hb fun h=>c1 (.inl h)),?_⟩,fun _=>⟨fun _=>⟨_,iS b b1 i now m o e r (by omega) (by omega) 3 (hb fun h=>c1 (.inl h)),?_⟩,fun _=>⟨fun _=>⟨_,iS b b1 i now m o e r (by omega) (by omega) 6 (hb fun h=>c1 (.inl h)),?_⟩,fun _=>⟨_,iS b b1 i now m o e r (by omega) (by omega) 1 (hb fun h=>c1 (.inl h)),?_⟩⟩⟩⟩
  all_goals
   rintro x hs ⟨rfl,rfl⟩;exact⟨_,rfl,rfl,rfl,_,_,_,_,.inr ⟨c1,c4,rfl,rfl,rfl⟩,rfl⟩
end Go.RX.Cw
