/- The call machine. -/
import Derived.Test.YtphemenngjkfbaaM29
open Go.LoopState renaming exhausted → aef
open Go.Proofs.Try renaming prog → adY
open Int renaming toNat → ag
open List renaming append → adH
namespace Go.RX.Cu
open Go.RX Go.Proofs
set_option maxRecDepth 100000
def y7(P:Program)(ao:Value→List HP→Prop)(x0 x1 _ x3 x4 _ _ x7 x8 x9 aG _ aI aT bj _ _ _ _ _ bz bP bU _ _ _ _ _ _ _ _ _ _ _ _ _ _ _ _ _:Int)(A0 A1 A2 A3 A4 _ _ _ _ _:Nat→Int)(b0 b1 b2:Nat)(p0 _ _ p3:HP):Prop:=
 ∀b3:Nat,Cl P 85 [.pp b1,.pp b0,.int .u8 3,.int .u64 bU,.agg (.int .u8 0::(.int .u8 0::(.int .u8 0::(.int .u64 0::(adH (al .u8 16 (fun _=>0)) (.int .u8 0::(.int .u8 bz::(.int .u8 bP::(adH (al .u8 32 (fun _=>0)) ([.int .u8 0])))))))))).toArray] [p3,Mw b1 x0 x1 A0 b2 3 A1 (!(x3==0)) x4 bz bP A2 A3 A4 (aC x7) (aC x8) x9 aG bU aI aT bj] fun x hs _=> ∃p4:HP,x= .tuple #[]∧hs=[p4,Mw b1 x0 x1 A0 b2 3 A1 (!(x3==0)) x4 bz bP A2 A3 A4 (aC x7) (aC x8) x9 aG bU aI aT bj]∧
 ao (.tuple #[]) [p4,Mw b1 x0 x1 A0 b2 3 A1 (!(x3==0)) x4 bz bP A2 A3 A4 (aC x7) (aC x8) x9 aG bU aI aT bj,p0,Dw b3 bz bP]
theorem GY(ao:Value→List HP→Prop)(x0 x1 x2 x3 x4 x5 x6 x7 x8 x9 aG aO aI aT bj et dV ef ei e_ bz bP bU bF bA bG bO bQ bN fI cS cQ jm fZ fJ fu ia eP mR mS:Int)(A0 A1 A2 A3 A4 A5 A6 A7 A8 A9:Nat→Int)(b0 b1 b2:Nat)(p0 p1 p2 p3:HP)(h:y7 adY ao x0 x1 x2 x3 x4 x5 x6 x7 x8 x9 aG aO aI aT bj et dV ef ei e_ bz bP bU bF bA bG bO bQ bN fI cS cQ jm fZ fJ fu ia eP mR mS A0 A1 A2 A3 A4 A5 A6 A7 A8 A9 b0 b1 b2 p0 p1 p2 p3):aq adY 117 [.pp b1,.pp b0,.dv bz bP,.int .u64 bU] [p3,Mw b1 x0 x1 A0 b2 x2 A1 (!(x3==0)) x4 x5 x6 A2 A3 A4 (aC x7) (aC x8) x9 aG aO aI aT bj,p0] ao:=
 rk (C:=cx) [.ptr 1 0,.ptr 0 0,.agg [.int .u8 (.var 20),.int .u8 (.var 21)],.int .u64 (.var 22)] [.abs 3,.row 1 true [.int .u8 (.var 0),.int .u8 (.var 1),.aX .u8 8 (.aw 0),.ptr 2 0,.int .u8 (.var 2),.aX .u8 16 (.aw 1),.bool (BE.nz (.var 3)),.int .u8 (.var 4),.int .u8 (.var 5),.int .u8 (.var 6),.aX .u8 32 (.aw 2),.aX .u8 32 (.aw 3),.aX .u8 32 (.aw 4),.cO (.var 7),.cO (.var 8),.int .u64 (.var 9),.int .u64 (.var 10),.int .u64 (.var 11),.int .u64 (.var 12),.int .u64 (.var 13),.int .u32 (.var 14)],.abs 0] ⟨3,0,40,10,0,4,0⟩ ⟨[x0,x1,x2,x3,x4,x5,x6,x7,x8,x9,aG,aO,aI,aT,bj,et,dV,ef,ei,e_,bz,bP,bU,bF,bA,bG,bO,bQ,bN,fI,cS,cQ,jm,fZ,fJ,fu,ia,eP,mR,mS],[A0,A1,A2,A3,A4,A5,A6,A7,A8,A9],[],[b0,b1,b2],[],[],[p0,p1,p2,p3],[]⟩ Try.func117 (by kernel_rfl) h
def Bf(P:Program)(ao:Value→List HP→Prop)(x0 x1 _ x3 x4 x5 x6 x7 x8 x9 _ _ _ _ _ _ _ _ _ _ _ _ bU _ _ _ _ _ _ _ _ _ _ _ _ _ _ _ _ _:Int)(A0 A1 A2 A3 A4 _ _ _ _ _:Nat→Int)(b0 b1 b2:Nat)(p0 _ _ p3:HP):Prop:=
 ∀b3:Nat,Cl P 78 [.slice (some ⟨b3,0,none⟩) 1 1] [ak b3 true ([.slice (some ⟨b1,96,none⟩) 32 32]),Mw b1 x0 x1 A0 b2 4 A1 (!(x3==0)) x4 x5 x6 A2 A3 A4 (aC x7) (aC x8) x9 bU bU bU bU 0] fun x hs l=> ∃cm:(Nat→Int),x= .sg 32 cm∧hs=l∧
 Cl P 85 [.pp b1,.pp b0,.int .u8 4,.int .u64 bU,.agg (.int .u8 0::(.int .u8 0::(.int .u8 0::(.int .u64 0::(adH (al .u8 16 (fun _=>0)) (.int .u8 0::(.int .u8 x5::(.int .u8 x6::(adH (al .u8 32 cm) ([.int .u8 0])))))))))).toArray] [p3,Mw b1 x0 x1 A0 b2 4 A1 (!(x3==0)) x4 x5 x6 A2 A3 A4 (aC x7) (aC x8) x9 bU bU bU bU 0] fun x hs _=> ∃p4:HP,x= .tuple #[]∧hs=[p4,Mw b1 x0 x1 A0 b2 4 A1 (!(x3==0)) x4 x5 x6 A2 A3 A4 (aC x7) (aC x8) x9 bU bU bU bU 0]∧
 ao (.tuple #[]) [p4,Mw b1 x0 x1 A0 b2 4 A1 (!(x3==0)) x4 x5 x6 A2 A3 A4 (aC x7) (aC x8) x9 bU bU bU bU 0,p0,ak b3 true ([.slice (some ⟨b1,96,none⟩) 32 32])]
theorem Kz(ao:Value→List HP→Prop)(x0 x1 x2 x3 x4 x5 x6 x7 x8 x9 aG aO aI aT bj et dV ef ei e_ bz bP bU bF bA bG bO bQ bN fI cS cQ jm fZ fJ fu ia eP mR mS:Int)(A0 A1 A2 A3 A4 A5 A6 A7 A8 A9:Nat→Int)(b0 b1 b2:Nat)(p0 p1 p2 p3:HP)(h:Bf adY ao x0 x1 x2 x3 x4 x5 x6 x7 x8 x9 aG aO aI aT bj et dV ef ei e_ bz bP bU bF bA bG bO bQ bN fI cS cQ jm fZ fJ fu ia eP mR mS A0 A1 A2 A3 A4 A5 A6 A7 A8 A9 b0 b1 b2 p0 p1 p2 p3):aq adY 119 [.pp b1,.pp b0,.int .u64 bU] [p3,Mw b1 x0 x1 A0 b2 x2 A1 (!(x3==0)) x4 x5 x6 A2 A3 A4 (aC x7) (aC x8) x9 aG aO aI aT bj,p0] ao:=
 rk (C:=cx) [.ptr 1 0,.ptr 0 0,.int .u64 (.var 22)] [.abs 3,.row 1 true [.int .u8 (.var 0),.int .u8 (.var 1),.aX .u8 8 (.aw 0),.ptr 2 0,.int .u8 (.var 2),.aX .u8 16 (.aw 1),.bool (BE.nz (.var 3)),.int .u8 (.var 4),.int .u8 (.var 5),.int .u8 (.var 6),.aX .u8 32 (.aw 2),.aX .u8 32 (.aw 3),.aX .u8 32 (.aw 4),.cO (.var 7),.cO (.var 8),.int .u64 (.var 9),.int .u64 (.var 10),.int .u64 (.var 11),.int .u64 (.var 12),.int .u64 (.var 13),.int .u32 (.var 14)],.abs 0] ⟨3,0,40,10,0,4,0⟩ ⟨[x0,x1,x2,x3,x4,x5,x6,x7,x8,x9,aG,aO,aI,aT,bj,et,dV,ef,ei,e_,bz,bP,bU,bF,bA,bG,bO,bQ,bN,fI,cS,cQ,jm,fZ,fJ,fu,ia,eP,mR,mS],[A0,A1,A2,A3,A4,A5,A6,A7,A8,A9],[],[b0,b1,b2],[],[],[p0,p1,p2,p3],[]⟩ Try.func119 (by kernel_rfl) h
def y8(P:Program)(ao:Value→List HP→Prop)(x0 x1 _ x3 x4 x5 x6 x7 x8 x9 aG _ aI aT bj _ _ _ _ _ _ _ bU _ _ _ _ _ _ _ _ _ _ _ _ _ _ _ _ _:Int)(A0 A1 _ A3 _ A5 _ _ _ _:Nat→Int)(b0 b1 b2:Nat)(p0 _ _ p3:HP):Prop:=
 ∀b3:Nat,Cl P 44 [.sg 16 A1,.sg 32 A3,.sg 32 A5,.dv x5 x6,.dv x0 x1] [] fun x hs _=> ∃cm:(Nat→Int),x= .sg 32 cm∧hs=[]∧
 Cl P 96 [.pp b0,.dv x5 x6,.agg (Sg 2 A1 0 0 0 A5 0 0).toArray] [p3] fun x hs _=> ∃p4:HP,x= .tuple #[]∧hs=[p4]∧
 Cl P 96 [.pp b0,.dv x5 x6,.agg (Sg 3 A1 0 0 0 (fun _=>0) 1 0).toArray] [p4] fun x hs _=> ∃p5:HP,x= .tuple #[]∧hs=[p5]∧
 ∀b4:Nat,Cl P 85 [.pp b1,.pp b0,.int .u8 3,.int .u64 bU,.agg (.int .u8 0::(.int .u8 0::(.int .u8 0::(.int .u64 0::(adH (al .u8 16 (fun _=>0)) (.int .u8 0::(.int .u8 x5::(.int .u8 x6::(adH (al .u8 32 (fun _=>0)) ([.int .u8 0])))))))))).toArray] [p5,Mw b1 x0 x1 A0 b2 3 A1 (!(x3==0)) x4 x5 x6 A5 A3 cm (aC x7) (aC x8) x9 aG bU aI aT bj] fun x hs _=> ∃p6:HP,x= .tuple #[]∧hs=[p6,Mw b1 x0 x1 A0 b2 3 A1 (!(x3==0)) x4 x5 x6 A5 A3 cm (aC x7) (aC x8) x9 aG bU aI aT bj]∧
 ao (.tuple #[]) [p6,Mw b1 x0 x1 A0 b2 3 A1 (!(x3==0)) x4 x5 x6 A5 A3 cm (aC x7) (aC x8) x9 aG bU aI aT bj,p0,ak b3 true (adH (al .u8 32 A5) ([])),Dw b4 x5 x6]
theorem GZ(ao:Value→List HP→Prop)(x0 x1 x2 x3 x4 x5 x6 x7 x8 x9 aG aO aI aT bj et dV ef ei e_ bz bP bU bF bA bG bO bQ bN fI cS cQ jm fZ fJ fu ia eP mR mS:Int)(A0 A1 A2 A3 A4 A5 A6 A7 A8 A9:Nat→Int)(b0 b1 b2:Nat)(p0 p1 p2 p3:HP)(h:y8 adY ao x0 x1 x2 x3 x4 x5 x6 x7 x8 x9 aG aO aI aT bj et dV ef ei e_ bz bP bU bF bA bG bO bQ bN fI cS cQ jm fZ fJ fu ia eP mR mS A0 A1 A2 A3 A4 A5 A6 A7 A8 A9 b0 b1 b2 p0 p1 p2 p3):aq adY 97 [.pp b1,.pp b0,.sg 32 A5,.int .u64 bU] [p3,Mw b1 x0 x1 A0 b2 x2 A1 (!(x3==0)) x4 x5 x6 A2 A3 A4 (aC x7) (aC x8) x9 aG aO aI aT bj,p0] ao:=
 rk (C:=cx) [.ptr 1 0,.ptr 0 0,.agg [.aX .u8 32 (.aw 5)],.int .u64 (.var 22)] [.abs 3,.row 1 true [.int .u8 (.var 0),.int .u8 (.var 1),.aX .u8 8 (.aw 0),.ptr 2 0,.int .u8 (.var 2),.aX .u8 16 (.aw 1),.bool (BE.nz (.var 3)),.int .u8 (.var 4),.int .u8 (.var 5),.int .u8 (.var 6),.aX .u8 32 (.aw 2),.aX .u8 32 (.aw 3),.aX .u8 32 (.aw 4),.cO (.var 7),.cO (.var 8),.int .u64 (.var 9),.int .u64 (.var 10),.int .u64 (.var 11),.int .u64 (.var 12),.int .u64 (.var 13),.int .u32 (.var 14)],.abs 0] ⟨3,0,40,10,0,4,0⟩ ⟨[x0,x1,x2,x3,x4,x5,x6,x7,x8,x9,aG,aO,aI,aT,bj,et,dV,ef,ei,e_,bz,bP,bU,bF,bA,bG,bO,bQ,bN,fI,cS,cQ,jm,fZ,fJ,fu,ia,eP,mR,mS],[A0,A1,A2,A3,A4,A5,A6,A7,A8,A9],[],[b0,b1,b2],[],[],[p0,p1,p2,p3],[]⟩ Try.func97 (by kernel_rfl) h
def Ex(P:Program)(ao:Value→List HP→Prop)(x0 x1 _ _ _ _ _ x7 x8 _ _ _ _ _ _ _ _ _ _ _ _ _ bU bF bA bG bO bQ bN _ _ _ _ _ _ _ _ _ _ _:Int)(A0 _ _ _ _ A5 A6 _ _ _:Nat→Int)(b0 b1 b2:Nat)(p0 _ _ p3:HP):Prop:=
 ∀b3 b4:Nat,Cl P 85 [.pp b1,.pp b0,.int .u8 2,.int .u64 bU,.agg (.int .u8 0::(.int .u8 0::(.int .u8 0::(.int .u64 0::(adH (al .u8 16 (fun _=>0)) (.int .u8 0::(.int .u8 0::(.int .u8 0::(adH (al .u8 32 (fun _=>0)) ([.int .u8 0])))))))))).toArray] [p3,Mw b1 x0 x1 A0 b2 2 A5 false bA bA bG (fun _=>0) A6 (fun _=>0) (aC x7) (aC x8) bU 0 bU 0 0 0] fun x hs _=> ∃p4:HP,x= .tuple #[]∧hs=[p4,Mw b1 x0 x1 A0 b2 2 A5 false bA bA bG (fun _=>0) A6 (fun _=>0) (aC x7) (aC x8) bU 0 bU 0 0 0]∧
 ao (.tuple #[]) [p4,Mw b1 x0 x1 A0 b2 2 A5 false bA bA bG (fun _=>0) A6 (fun _=>0) (aC x7) (aC x8) bU 0 bU 0 0 0,p0,ak b3 true (Sg bF A5 bA bG bO A6 bQ bN),ak b4 true (adH (al .u8 16 A5) ([]))]
theorem Na(ao:Value→List HP→Prop)(x0 x1 x2 x3 x4 x5 x6 x7 x8 x9 aG aO aI aT bj et dV ef ei e_ bz bP bU bF bA bG bO bQ bN fI cS cQ jm fZ fJ fu ia eP mR mS:Int)(A0 A1 A2 A3 A4 A5 A6 A7 A8 A9:Nat→Int)(b0 b1 b2:Nat)(p0 p1 p2 p3:HP)(h:Ex adY ao x0 x1 x2 x3 x4 x5 x6 x7 x8 x9 aG aO aI aT bj et dV ef ei e_ bz bP bU bF bA bG bO bQ bN fI cS cQ jm fZ fJ fu ia eP mR mS A0 A1 A2 A3 A4 A5 A6 A7 A8 A9 b0 b1 b2 p0 p1 p2 p3):aq adY 115 [.pp b1,.pp b0,.agg (Sg bF A5 bA bG bO A6 bQ bN).toArray,.int .u64 bU] [p3,Mw b1 x0 x1 A0 b2 x2 A1 (!(x3==0)) x4 x5 x6 A2 A3 A4 (aC x7) (aC x8) x9 aG aO aI aT bj,p0] ao:=
 rk (C:=cx) [.ptr 1 0,.ptr 0 0,.agg [.int .u8 (.var 23),.aX .u8 16 (.aw 5),.int .u8 (.var 24),.int .u8 (.var 25),.int .u8 (.var 26),.aX .u8 32 (.aw 6),.int .u32 (.var 27),.bT,.int .u8 (.var 28)],.int .u64 (.var 22)] [.abs 3,.row 1 true [.int .u8 (.var 0),.int .u8 (.var 1),.aX .u8 8 (.aw 0),.ptr 2 0,.int .u8 (.var 2),.aX .u8 16 (.aw 1),.bool (BE.nz (.var 3)),.int .u8 (.var 4),.int .u8 (.var 5),.int .u8 (.var 6),.aX .u8 32 (.aw 2),.aX .u8 32 (.aw 3),.aX .u8 32 (.aw 4),.cO (.var 7),.cO (.var 8),.int .u64 (.var 9),.int .u64 (.var 10),.int .u64 (.var 11),.int .u64 (.var 12),.int .u64 (.var 13),.int .u32 (.var 14)],.abs 0] ⟨3,0,40,10,0,4,0⟩ ⟨[x0,x1,x2,x3,x4,x5,x6,x7,x8,x9,aG,aO,aI,aT,bj,et,dV,ef,ei,e_,bz,bP,bU,bF,bA,bG,bO,bQ,bN,fI,cS,cQ,jm,fZ,fJ,fu,ia,eP,mR,mS],[A0,A1,A2,A3,A4,A5,A6,A7,A8,A9],[],[b0,b1,b2],[],[],[p0,p1,p2,p3],[]⟩ Try.func115 (by kernel_rfl) h
def y9(P:Program)(ao:Value→List HP→Prop)(x0 x1 x2 x3 x4 x5 x6 x7 x8 x9 aG aO aI aT bj _ _ _ _ _ bz bP bU _ _ _ _ _ _ _ _ _ _ _ _ _ _ _ _ _:Int)(A0 A1 A2 A3 A4 _ _ _ _ _:Nat→Int)(b0 b1 b2:Nat)(p0 _ _ p3:HP):Prop:=
 aU (x2=1) (
 ∀b3 b4 b5 b6 b7 b8:Nat,∀(_ l10:Nat) (r9:Loop),aU (x7=0) (
 Cl P 93 [.pp b1,.pp b0,.int .u8 bP,.int .u64 bU] [p3,Mw b1 x0 x1 A0 b2 x2 A1 (!(x3==0)) x4 x5 x6 A2 A3 A4 (aC x7) (aC x8) x9 aG aO aI aT bj,p0] fun x hs _=> ∃p4:HP,x= .tuple #[]∧hs=[p4,Mw b1 x0 x1 A0 b2 0 A1 (!(x3==0)) x4 x5 x6 A2 A3 A4 (aC x7) (aC x8) x9 aG aO aI aT bj,p0]∧
 ao (.tuple #[]) [p4,Mw b1 x0 x1 A0 b2 0 A1 (!(x3==0)) x4 x5 x6 A2 A3 A4 (aC x7) (aC x8) x9 aG aO aI aT bj,p0,ak b3 true ([(aC x7)]),ak b4 true ([(aC x7)]),ak b5 true ([.func (.func 66) #[] #[.pp b3]]),ak b6 true (Sg 5 A1 0 0 0 (fun _=>0) 0 bz),ak b7 true ([.pp b0]),ak b8 true (Sg 5 A1 0 0 0 (fun _=>0) 0 bz),HP.emp,j8 l10 {r9 with state:=aef,pending:=none}]) (
 aM (x7≠0) (
 False))) (
 ∀b3:Nat,Cl P 96 [.pp b0,.dv x5 x6,.agg (Sg 5 A1 0 0 0 (fun _=>0) 0 bz).toArray] [p3] fun x hs _=> ∃p4:HP,x= .tuple #[]∧hs=[p4]∧
 Cl P 93 [.pp b1,.pp b0,.int .u8 bP,.int .u64 bU] [p4,Mw b1 x0 x1 A0 b2 x2 A1 (!(x3==0)) x4 x5 x6 A2 A3 A4 (aC x7) (aC x8) x9 aG aO aI aT bj,p0] fun x hs _=> ∃p5:HP,x= .tuple #[]∧hs=[p5,Mw b1 x0 x1 A0 b2 0 A1 (!(x3==0)) x4 x5 x6 A2 A3 A4 (aC x7) (aC x8) x9 aG aO aI aT bj,p0]∧
 ao (.tuple #[]) [p5,Mw b1 x0 x1 A0 b2 0 A1 (!(x3==0)) x4 x5 x6 A2 A3 A4 (aC x7) (aC x8) x9 aG aO aI aT bj,p0,ak b3 true (Sg 5 A1 0 0 0 (fun _=>0) 0 bz)])
theorem G0(ao:Value→List HP→Prop)(x0 x1 x2 x3 x4 x5 x6 x7 x8 x9 aG aO aI aT bj et dV ef ei e_ bz bP bU bF bA bG bO bQ bN fI cS cQ jm fZ fJ fu ia eP mR mS:Int)(A0 A1 A2 A3 A4 A5 A6 A7 A8 A9:Nat→Int)(b0 b1 b2:Nat)(p0 p1 p2 p3:HP)(h:y9 adY ao x0 x1 x2 x3 x4 x5 x6 x7 x8 x9 aG aO aI aT bj et dV ef ei e_ bz bP bU bF bA bG bO bQ bN fI cS cQ jm fZ fJ fu ia eP mR mS A0 A1 A2 A3 A4 A5 A6 A7 A8 A9 b0 b1 b2 p0 p1 p2 p3):aq adY 95 [.pp b1,.pp b0,.int .u8 bz,.int .u8 bP,.int .u64 bU] [p3,Mw b1 x0 x1 A0 b2 x2 A1 (!(x3==0)) x4 x5 x6 A2 A3 A4 (aC x7) (aC x8) x9 aG aO aI aT bj,p0] ao:=
 rk (C:=cx) [.ptr 1 0,.ptr 0 0,.int .u8 (.var 20),.int .u8 (.var 21),.int .u64 (.var 22)] [.abs 3,.row 1 true [.int .u8 (.var 0),.int .u8 (.var 1),.aX .u8 8 (.aw 0),.ptr 2 0,.int .u8 (.var 2),.aX .u8 16 (.aw 1),.bool (BE.nz (.var 3)),.int .u8 (.var 4),.int .u8 (.var 5),.int .u8 (.var 6),.aX .u8 32 (.aw 2),.aX .u8 32 (.aw 3),.aX .u8 32 (.aw 4),.cO (.var 7),.cO (.var 8),.int .u64 (.var 9),.int .u64 (.var 10),.int .u64 (.var 11),.int .u64 (.var 12),.int .u64 (.var 13),.int .u32 (.var 14)],.abs 0] ⟨3,0,40,10,0,4,0⟩ ⟨[x0,x1,x2,x3,x4,x5,x6,x7,x8,x9,aG,aO,aI,aT,bj,et,dV,ef,ei,e_,bz,bP,bU,bF,bA,bG,bO,bQ,bN,fI,cS,cQ,jm,fZ,fJ,fu,ia,eP,mR,mS],[A0,A1,A2,A3,A4,A5,A6,A7,A8,A9],[],[b0,b1,b2],[],[],[p0,p1,p2,p3],[]⟩ Try.func95 (by kernel_rfl) h
end Go.RX.Cu

namespace Go.RX.Ct
open Go.RX Go.Proofs
noncomputable def cx:Ctx:={T:=TT,FT:=FT,calls:=Ma.calls}
open Go.RX Go.Proofs
set_option maxRecDepth 100000
def Nb(P:Program)(ao:Value→List HP→Prop)(x0 x1 x2 x3 _ x5 x6 x7 x8 x9 aG aO aI aT bj et dV ef ei:Int)(A0 A1 A2 A3 A4 A5 A6 A7 A8 A9 cm cZ gL gM mc l7 jz ob mf od oe og:Nat→Int)(v0 _ _:V1)(b0 b1 b2:Nat)(p0:HP):Prop:=
 ∀b3 b4:Nat,aM (0≤x0) (
 MJ ((x0+1)*72) (
 ∀(v3:V1) (b5:Nat),aM (0≤x1) (
 MJ ((x1+1)*48) (
 ∀v4:V1,Cl P 92 [.pp b2,.sg 16 mf] [p0] fun x hs l=>x= .tuple #[]∧hs=l∧
 ao (.tuple #[]) [ak b0 true ([v0.v,v3.v,v4.v]),aB true 76 56 v3.v (ag (x0+1)) (aH (ag (x0+1)) [au .u8 1 (aj A0 (ag x0) 5),au .u8 1 (aj A1 (ag x0) x2),au .u8 1 (aj A2 (ag x0) x3),au .u64 1 (aj A3 (ag x0) ei),au .u8 16 (aW A4 (ag (x0*16)) 16 mf),au .u8 1 (aj A5 (ag x0) x6),au .u8 1 (aj A6 (ag x0) 0),au .u8 1 (aj A7 (ag x0) 0),au .u8 32 (aW A8 (ag (x0*32)) 32 (fun _=>0)),au .u8 1 (aj A9 (ag x0) ef)]),aB true 85 22 v4.v (ag (x1+1)) (aH (ag (x1+1)) [au .u8 16 (aW cm (ag (x1*16)) 16 mf),au .u8 1 (aj cZ (ag x1) x6),ou 1 (aj gL (ag x1) x5),au .u8 1 (aj gM (ag x1) ef),au .u64 1 (aj mc (ag x1) aO),au .u64 1 (aj l7 (ag x1) aI),au .u64 1 (aj jz (ag x1) ei)]),Mw b1 x2 x3 ob b2 0 mf (!(x5==0)) x6 x7 x8 od oe og (aC x9) (aC aG) aO aI aT bj et dV,p0,ak b3 true (.int .u8 5::(.int .u8 x2::(.int .u8 x3::(.int .u64 ei::(adH (al .u8 16 mf) (.int .u8 x6::(.int .u8 0::(.int .u8 0::(adH (al .u8 32 (fun _=>0)) ([.int .u8 ef])))))))))),ak b4 true (.int .u8 5::(.int .u8 x2::(.int .u8 x3::(.int .u64 ei::(adH (al .u8 16 mf) (.int .u8 x6::(.int .u8 0::(.int .u8 0::(adH (al .u8 32 (fun _=>0)) ([.int .u8 ef])))))))))),ak b5 true (adH (al .u8 16 mf) ([.int .u8 x6,.bool (!(x5==0)),.int .u8 ef,.int .u64 aO,.int .u64 aI,.int .u64 ei]))]))))
theorem S9(ao:Value→List HP→Prop)(x0 x1 x2 x3 x4 x5 x6 x7 x8 x9 aG aO aI aT bj et dV ef ei:Int)(A0 A1 A2 A3 A4 A5 A6 A7 A8 A9 cm cZ gL gM mc l7 jz ob mf od oe og:Nat→Int)(v0 v1 v2:V1)(b0 b1 b2:Nat)(p0:HP)(h:Nb adY ao x0 x1 x2 x3 x4 x5 x6 x7 x8 x9 aG aO aI aT bj et dV ef ei A0 A1 A2 A3 A4 A5 A6 A7 A8 A9 cm cZ gL gM mc l7 jz ob mf od oe og v0 v1 v2 b0 b1 b2 p0):aq adY 93 [.pp b1,.pp b0,.int .u8 ef,.int .u64 ei] [ak b0 true ([v0.v,v1.v,v2.v]),aB true 76 56 v1.v (ag x0) (aH (ag x0) [au .u8 1 A0,au .u8 1 A1,au .u8 1 A2,au .u64 1 A3,au .u8 16 A4,au .u8 1 A5,au .u8 1 A6,au .u8 1 A7,au .u8 32 A8,au .u8 1 A9]),aB true 85 22 v2.v (ag x1) (aH (ag x1) [au .u8 16 cm,au .u8 1 cZ,ou 1 gL,au .u8 1 gM,au .u64 1 mc,au .u64 1 l7,au .u64 1 jz]),Mw b1 x2 x3 ob b2 x4 mf (!(x5==0)) x6 x7 x8 od oe og (aC x9) (aC aG) aO aI aT bj et dV,p0] ao:=
 rk (C:=cx) [.ptr 1 0,.ptr 0 0,.int .u8 (.var 17),.int .u64 (.var 18)] [.row 0 true [.vv 0,.vv 1,.vv 2],.cc true 1 76 56 (.var 0) [⟨.int .u8,1,.aw 0⟩,⟨.int .u8,1,.aw 1⟩,⟨.int .u8,1,.aw 2⟩,⟨.int .u64,1,.aw 3⟩,⟨.int .u8,16,.aw 4⟩,⟨.int .u8,1,.aw 5⟩,⟨.int .u8,1,.aw 6⟩,⟨.int .u8,1,.aw 7⟩,⟨.int .u8,32,.aw 8⟩,⟨.int .u8,1,.aw 9⟩],.cc true 2 85 22 (.var 1) [⟨.int .u8,16,.aw 10⟩,⟨.int .u8,1,.aw 11⟩,⟨CK.bool,1,.aw 12⟩,⟨.int .u8,1,.aw 13⟩,⟨.int .u64,1,.aw 14⟩,⟨.int .u64,1,.aw 15⟩,⟨.int .u64,1,.aw 16⟩],.row 1 true [.int .u8 (.var 2),.int .u8 (.var 3),.aX .u8 8 (.aw 17),.ptr 2 0,.int .u8 (.var 4),.aX .u8 16 (.aw 18),.bool (BE.nz (.var 5)),.int .u8 (.var 6),.int .u8 (.var 7),.int .u8 (.var 8),.aX .u8 32 (.aw 19),.aX .u8 32 (.aw 20),.aX .u8 32 (.aw 21),.cO (.var 9),.cO (.var 10),.int .u64 (.var 11),.int .u64 (.var 12),.int .u64 (.var 13),.int .u64 (.var 14),.int .u64 (.var 15),.int .u32 (.var 16)],.abs 0] ⟨3,3,19,22,0,1,0⟩ ⟨[x0,x1,x2,x3,x4,x5,x6,x7,x8,x9,aG,aO,aI,aT,bj,et,dV,ef,ei],[A0,A1,A2,A3,A4,A5,A6,A7,A8,A9,cm,cZ,gL,gM,mc,l7,jz,ob,mf,od,oe,og],[],[b0,b1,b2],[v0,v1,v2],[],[p0],[]⟩ Try.func93 (by kernel_rfl) h
end Go.RX.Ct

namespace Go.RX.Cs
open Go.RX Go.Proofs
noncomputable def cx:Ctx:={T:=TT,FT:=FT}
open Go.RX Go.Proofs
set_option maxRecDepth 100000
def IE(_:Program)(ao:Value→List HP→Prop)(x0 x1 x2 x3 x4 x5 x6 x7 x8:Int)(A0 A1 A2 A3 A4 A5 A6 A7 A8 A9 _ _ gL gM:Nat→Int)(_ v1 v2:V1)(b0:Nat):Prop:=
 ∀b1 b2 b3:Nat,aM (0≤x0) (
 MJ ((x0+1)*96) (
 ∀v3:V1,ao (.tuple #[]) [ak b0 true ([v3.v,v1.v,v2.v]),aB true 111 57 v3.v (ag (x0+1)) (aH (ag (x0+1)) [au .u8 1 (aj A0 (ag x0) x1),au .u8 1 (aj A1 (ag x0) x2),au .u8 1 (aj A2 (ag x0) x3),au .u8 16 (aW A3 (ag (x0*16)) 16 gL),au .u8 1 (aj A4 (ag x0) x4),au .u8 1 (aj A5 (ag x0) x5),au .u8 1 (aj A6 (ag x0) x6),au .u8 32 (aW A7 (ag (x0*32)) 32 gM),au .u32 1 (aj A8 (ag x0) x7),dI 1 (fun _=> .slice none 0 0),au .u8 1 (aj A9 (ag x0) x8)]),Dw b1 x1 x2,ak b2 true (Sg x3 gL x4 x5 x6 gM x7 x8),ak b3 true (.int .u8 x1::(.int .u8 x2::(Sg x3 gL x4 x5 x6 gM x7 x8)))]))
theorem Qn(ao:Value→List HP→Prop)(x0 x1 x2 x3 x4 x5 x6 x7 x8:Int)(A0 A1 A2 A3 A4 A5 A6 A7 A8 A9 cm cZ gL gM:Nat→Int)(v0 v1 v2:V1)(b0:Nat)(h:IE adY ao x0 x1 x2 x3 x4 x5 x6 x7 x8 A0 A1 A2 A3 A4 A5 A6 A7 A8 A9 cm cZ gL gM v0 v1 v2 b0):aq adY 96 [.pp b0,.dv x1 x2,.agg (Sg x3 gL x4 x5 x6 gM x7 x8).toArray] [ak b0 true ([v0.v,v1.v,v2.v]),aB true 111 57 v0.v (ag x0) (aH (ag x0) [au .u8 1 A0,au .u8 1 A1,au .u8 1 A2,au .u8 16 A3,au .u8 1 A4,au .u8 1 A5,au .u8 1 A6,au .u8 32 A7,au .u32 1 A8,dI 1 (fun _=> .slice none 0 0),au .u8 1 A9])] ao:=
 rk (C:=cx) [.ptr 0 0,.agg [.int .u8 (.var 1),.int .u8 (.var 2)],.agg [.int .u8 (.var 3),.aX .u8 16 (.aw 12),.int .u8 (.var 4),.int .u8 (.var 5),.int .u8 (.var 6),.aX .u8 32 (.aw 13),.int .u32 (.var 7),.bT,.int .u8 (.var 8)]] [.row 0 true [.vv 0,.vv 1,.vv 2],.cc true 0 111 57 (.var 0) [⟨.int .u8,1,.aw 0⟩,⟨.int .u8,1,.aw 1⟩,⟨.int .u8,1,.aw 2⟩,⟨.int .u8,16,.aw 3⟩,⟨.int .u8,1,.aw 4⟩,⟨.int .u8,1,.aw 5⟩,⟨.int .u8,1,.aw 6⟩,⟨.int .u8,32,.aw 7⟩,⟨.int .u32,1,.aw 8⟩,⟨CK.bT,1,.lit 0⟩,⟨.int .u8,1,.aw 9⟩]] ⟨1,3,9,14,0,0,0⟩ ⟨[x0,x1,x2,x3,x4,x5,x6,x7,x8],[A0,A1,A2,A3,A4,A5,A6,A7,A8,A9,cm,cZ,gL,gM],[],[b0],[v0,v1,v2],[],[],[]⟩ Try.func96 (by kernel_rfl) h
def Ey(_:Program)(ao:Value→List HP→Prop)(x0 x1 x2 x3 x4 x5 x6 x7 x8 x9 aG aO aI aT bj et dV ef _ _ _ _ _ bF bA bG:Int)(A0 A1 A2 A3 A4 A5 A6 A7 A8 A9 cm cZ gL gM mc _ jz:Nat→Int)(v0 _ v2:V1)(b0 b1 b2:Nat):Prop:=
 ∀b3 b4:Nat,aM (0≤x0) (
 MJ ((x0+1)*72) (
 ∀v3:V1,ao (.tuple #[]) [ak b0 true ([v0.v,v3.v,v2.v]),aB true 76 56 v3.v (ag (x0+1)) (aH (ag (x0+1)) [au .u8 1 (aj A0 (ag x0) dV),au .u8 1 (aj A1 (ag x0) x1),au .u8 1 (aj A2 (ag x0) x2),au .u64 1 (aj A3 (ag x0) ef),au .u8 16 (aW A4 (ag (x0*16)) 16 cZ),au .u8 1 (aj A5 (ag x0) x5),au .u8 1 (aj A6 (ag x0) bF),au .u8 1 (aj A7 (ag x0) bA),au .u8 32 (aW A8 (ag (x0*32)) 32 jz),au .u8 1 (aj A9 (ag x0) bG)]),Mw b1 x1 x2 cm b2 x3 cZ (!(x4==0)) x5 x6 x7 gL gM mc (aC x8) (aC x9) aG aO aI aT bj et,ak b3 true (.int .u8 dV::(.int .u8 x1::(.int .u8 x2::(.int .u64 ef::(adH (al .u8 16 cZ) (.int .u8 x5::(.int .u8 bF::(.int .u8 bA::(adH (al .u8 32 jz) ([.int .u8 bG])))))))))),ak b4 true (.int .u8 dV::(.int .u8 x1::(.int .u8 x2::(.int .u64 ef::(adH (al .u8 16 cZ) (.int .u8 x5::(.int .u8 bF::(.int .u8 bA::(adH (al .u8 32 jz) ([.int .u8 bG]))))))))))]))
theorem Nc(ao:Value→List HP→Prop)(x0 x1 x2 x3 x4 x5 x6 x7 x8 x9 aG aO aI aT bj et dV ef ei e_ bz bP bU bF bA bG:Int)(A0 A1 A2 A3 A4 A5 A6 A7 A8 A9 cm cZ gL gM mc l7 jz:Nat→Int)(v0 v1 v2:V1)(b0 b1 b2:Nat)(h:Ey adY ao x0 x1 x2 x3 x4 x5 x6 x7 x8 x9 aG aO aI aT bj et dV ef ei e_ bz bP bU bF bA bG A0 A1 A2 A3 A4 A5 A6 A7 A8 A9 cm cZ gL gM mc l7 jz v0 v1 v2 b0 b1 b2):aq adY 85 [.pp b1,.pp b0,.int .u8 dV,.int .u64 ef,.agg (.int .u8 ei::(.int .u8 e_::(.int .u8 bz::(.int .u64 bP::(adH (al .u8 16 l7) (.int .u8 bU::(.int .u8 bF::(.int .u8 bA::(adH (al .u8 32 jz) ([.int .u8 bG])))))))))).toArray] [ak b0 true ([v0.v,v1.v,v2.v]),aB true 76 56 v1.v (ag x0) (aH (ag x0) [au .u8 1 A0,au .u8 1 A1,au .u8 1 A2,au .u64 1 A3,au .u8 16 A4,au .u8 1 A5,au .u8 1 A6,au .u8 1 A7,au .u8 32 A8,au .u8 1 A9]),Mw b1 x1 x2 cm b2 x3 cZ (!(x4==0)) x5 x6 x7 gL gM mc (aC x8) (aC x9) aG aO aI aT bj et] ao:=
 rk (C:=cx) [.ptr 1 0,.ptr 0 0,.int .u8 (.var 16),.int .u64 (.var 17),.agg [.int .u8 (.var 18),.int .u8 (.var 19),.int .u8 (.var 20),.int .u64 (.var 21),.aX .u8 16 (.aw 15),.int .u8 (.var 22),.int .u8 (.var 23),.int .u8 (.var 24),.aX .u8 32 (.aw 16),.int .u8 (.var 25)]] [.row 0 true [.vv 0,.vv 1,.vv 2],.cc true 1 76 56 (.var 0) [⟨.int .u8,1,.aw 0⟩,⟨.int .u8,1,.aw 1⟩,⟨.int .u8,1,.aw 2⟩,⟨.int .u64,1,.aw 3⟩,⟨.int .u8,16,.aw 4⟩,⟨.int .u8,1,.aw 5⟩,⟨.int .u8,1,.aw 6⟩,⟨.int .u8,1,.aw 7⟩,⟨.int .u8,32,.aw 8⟩,⟨.int .u8,1,.aw 9⟩],.row 1 true [.int .u8 (.var 1),.int .u8 (.var 2),.aX .u8 8 (.aw 10),.ptr 2 0,.int .u8 (.var 3),.aX .u8 16 (.aw 11),.bool (BE.nz (.var 4)),.int .u8 (.var 5),.int .u8 (.var 6),.int .u8 (.var 7),.aX .u8 32 (.aw 12),.aX .u8 32 (.aw 13),.aX .u8 32 (.aw 14),.cO (.var 8),.cO (.var 9),.int .u64 (.var 10),.int .u64 (.var 11),.int .u64 (.var 12),.int .u64 (.var 13),.int .u64 (.var 14),.int .u32 (.var 15)]] ⟨3,3,26,17,0,0,0⟩ ⟨[x0,x1,x2,x3,x4,x5,x6,x7,x8,x9,aG,aO,aI,aT,bj,et,dV,ef,ei,e_,bz,bP,bU,bF,bA,bG],[A0,A1,A2,A3,A4,A5,A6,A7,A8,A9,cm,cZ,gL,gM,mc,l7,jz],[],[b0,b1,b2],[v0,v1,v2],[],[],[]⟩ Try.func85 (by kernel_rfl) h
end Go.RX.Cs

namespace Go.Cp
structure Mg (K:Type) where
 k:Nat
 c:Nat
 f:Nat
 t:Nat
 key:K
structure Mc (K:Type) where
 ph:Nat
 c:Nat
 out:Bool
 peer:Nat
 own:K
 off:K
 dg:K
 aK:Nat
 since:Nat
 heard:Nat
 bD:Nat
structure Ev (K:Type) where
 k:Nat
 c:Nat
 peer:Nat
 key:K
structure Rs (K:Type) where
 m:Mc K
 o:List (Mg K)
 e:List (Ev K)
 r:List (Nat×Nat)
structure Or where
 has:Bool
 early:Bool
 less:Bool
 FR:Bool
 h_:Bool
 busy:Bool
 sub:List Nat
 xB:List Nat
variable {K:Type} (z:K) (F:Nat→K→K→Nat→Nat→K) (H:K→K)
def acc(i:Nat):Nat:=i/2
def Mc.has(m:Mc K)(c:Nat):Prop:=m.ph≠0∧m.c=c
instance (m:Mc K) (c:Nat):Decidable (m.has c):=inferInstanceAs (Decidable (_∧_))
def to(k c i:Nat)(l:List Nat):List (Mg K):=l.map fun j=>⟨k,c,i,j,z⟩
def gY(m:Mc K):Rs K:=⟨m,[],[],[]⟩
def leaves(i:Nat)(m:Mc K)(sub:List Nat):Rs K:=⟨{m with ph:=0},if m.ph=1 then to z 5 m.c i sub else [⟨5,m.c,i,m.peer,z⟩],[],[(m.c,m.aK)]⟩
def ends(m:Mc K):Rs K:=⟨{m with ph:=0},[],[],[(m.c,m.aK)]⟩
def rings(x:Mg K)(now:Nat):Mc K:=⟨2,x.c,false,x.f,z,x.key,z,now,now,0,0⟩
def answers(i:Nat)(m:Mc K)(key:K)(now:Nat):Rs K:=
 ⟨{m with ph:=3,own:=key,dg:=F m.c m.off key m.peer i,since:=now},[⟨2,m.c,i,m.peer,key⟩,⟨3,m.c,i,m.peer,z⟩],[⟨3,m.c,m.peer,z⟩],[]⟩
def dX(m:Mc K)(now:Nat):Mc K×Ev K:=({m with ph:=4,since:=now,heard:=now,bD:=now},⟨4,m.c,m.peer,H m.dg⟩)
def take(i:Nat)(m:Mc K)(x:Mg K)(now:Nat)(o:Or):Rs K:=
 if x.k=1 then
  if o.has then gY m
  else if m.ph=0 then⟨rings z x now,[],[],[]⟩
  else if m.c=x.c then gY m
  else if m.ph=1∧o.less=true then
   let a:=leaves z i m o.sub
   let b:=answers z F i (rings z x now) m.own now
   ⟨b.m,a.o++b.o,b.e,a.r⟩
  else if o.busy then gY m
  else⟨m,[⟨4,x.c,i,x.f,z⟩],[],[]⟩
 else if x.k=2 then
  if¬m.has x.c then⟨m,[⟨5,x.c,i,x.f,z⟩],[],[]⟩
  else if m.ph=1∧o.h_=true then
   let m1:Mc K:={m with ph:=3,dg:=F m.c m.own x.key i x.f,peer:=x.f,since:=now}
   let e1:Ev K:=⟨3,m.c,x.f,z⟩
   let outs:=⟨3,m.c,i,x.f,z⟩::to z 6 m.c i o.xB
   if o.early then let a:=dX H m1 now;⟨a.1,outs,[e1,a.2],[]⟩else⟨m1,outs,[e1],[]⟩
  else if m.ph≠1∧m.out=true∧x.f≠m.peer then⟨m,[⟨6,x.c,i,x.f,z⟩],[],[]⟩
  else gY m
 else if x.k=3 then
  if¬m.has x.c then⟨m,[⟨5,x.c,i,x.f,z⟩],[],[]⟩
  else if m.ph=1∨x.f≠m.peer then gY m
  else if m.ph=3 then let a:=dX H m now;⟨a.1,[],[a.2],[]⟩
  else if m.ph=4 then⟨{m with heard:=now},[],[],[]⟩
  else gY m
 else if x.k=4 then
  if m.has x.c∧m.ph=1∧o.FR=true then leaves z i m o.sub else gY m
 else if x.k=5 then
  if¬m.has x.c then gY m
  else if m.ph=1 then(if o.FR then leaves z i m o.sub else gY m)
  else if x.f≠m.peer then gY m
  else ends m
 else if x.k=6 then
  if m.has x.c∧x.f=m.peer∧m.out=false∧(m.ph=2∨m.ph=3)then ends m else gY m
 else gY m
def KA(a now:Nat):Nat:=max a now - a
def tick(i:Nat)(m:Mc K)(now:Nat)(o:Or):Rs K:=
 if(m.ph=1∨m.ph=2)∧60≤KA m.since now then leaves z i m o.sub
 else if m.ph=3∧30≤KA m.since now then leaves z i m o.sub
 else if m.ph=4∧30≤KA m.heard now then leaves z i m o.sub
 else if m.ph=4∧10≤KA m.bD now then⟨{m with bD:=now},[⟨3,m.c,i,m.peer,z⟩],[],[]⟩
 else gY m
def answer(i:Nat)(m:Mc K)(key:K)(now:Nat):Rs K:=if m.ph=2 then answers z F i m key now else gY m
def eQ(i:Nat)(m:Mc K):Rs K:=if m.ph=2 then⟨{m with ph:=0},[⟨5,m.c,i,m.peer,z⟩],[],[(m.c,m.aK)]⟩else gY m
def px(i:Nat)(m:Mc K)(o:Or):Rs K:=if m.ph=0∨m.ph=2 then gY m else leaves z i m o.sub
def others(i:Nat):List Nat:=[2*(1 - i/2),2*(1 - i/2)+1]
def dD(i c:Nat)(key:K)(now:Nat):Rs K:=
 ⟨⟨1,c,true,0,key,z,z,now,now,0,0⟩,(others i).map fun j=>⟨1,c,i,j,key⟩,[],[]⟩
structure Sy (K:Type) where
 now:Nat
 ms:Nat→Mc K
 bS:List (Mg K)
 dl:Nat
 bI:Nat→Option Nat
 pr:Nat→Option K
 done:Nat→Nat→Bool
 pC:Nat→Option Nat
 ok:Nat→K
 jT:Nat→Nat→Option K
def cV{α:Type}(f:Nat→α)(i:Nat)(a:α):Nat→α:=fun j=>if j=i then a else f j
def kZ{α:Type}(f:Nat→Nat→α)(i c:Nat)(a:α):Nat→Nat→α:=fun j e=>if j=i∧e=c then a else f j e
def Sy.jo(s:Sy K)(d c:Nat):Prop:=(s.ms d).has c∨s.done d c=true
structure Sy.Ms (s:Sy K) (i:Nat) (m:Mc K):Prop where
 ph:m.ph≤4
 nd:m.ph≠0→s.done i m.c=false∧m.aK≤s.now∧m.since≤s.now
 d1:m.ph=1→s.pC m.c=some i∧m.own=s.ok m.c∧s.bI m.c=none∧s.pr m.c=none∧m.out=true
 d2:m.ph=2→m.out=false∧m.off=s.ok m.c∧s.jT m.c i=none
 io:m.ph≠0→m.out=false→s.pC m.c=some m.peer∧acc m.peer≠acc i∧m.peer<4
 d3:3≤m.ph→m.out=true→s.pC m.c=some i∧s.bI m.c=some m.peer∧acc m.peer≠acc i∧m.peer<4∧∃k,s.jT m.c m.peer=some k∧m.dg=F m.c (s.ok m.c) k i m.peer
 d4:3≤m.ph→m.out=false→∃k,s.jT m.c i=some k∧m.dg=F m.c (s.ok m.c) k m.peer i
 d5:m.ph=4→m.out=false→s.bI m.c=some i
structure Sy.Inv (num:Nat→Nat) (s:Sy K):Prop where
 ms: ∀i,i<4→s.Ms F i (s.ms i)
 rt: ∀x∈s.bS,x.f<4∧x.t<4∧acc x.f≠acc x.t∧1≤x.k∧x.k≤6
 f1: ∀x∈s.bS,x.k=1→s.pC x.c=some x.f∧x.key=s.ok x.c∧s.done x.t x.c=false∧¬(s.ms x.t).has x.c∧s.jT x.c x.t=none
 once:s.bS.Pairwise fun a b=> ¬(a.k=1∧b.k=1∧a.c=b.c∧a.t=b.t)
 f2: ∀x∈s.bS,x.k=2→s.pC x.c=some x.t∧s.jT x.c x.f=some x.key
 f3: ∀x∈s.bS,x.k=3→(s.pC x.c=some x.f∧s.bI x.c=some x.t)∨(s.pC x.c=some x.t∧s.jo x.f x.c)
 f5: ∀x∈s.bS,x.k=5→s.done x.f x.c=true
 cl: ∀c i,s.pC c=some i→i<4∧num c≤s.dl∧s.jo i c
 an: ∀c d k,s.jT c d=some k→s.jo d c∧(∃i,s.pC c=some i∧acc i≠acc d)
 tk: ∀c p,s.bI c=some p→∃k,s.jT c p=some k
 ck: ∀c,s.bI c=none∨∃i,s.pC c=some i
 pr: ∀c h,s.pr c=some h→∃i p k,s.pC c=some i∧s.bI c=some p∧s.jT c p=some k∧h=H (F c (s.ok c) k i p)
 dn: ∀d c,s.done d c=true→∃i,s.pC c=some i
structure Wo (K:Type) where
 bI:Nat→Option Nat
 pr:Nat→Option K
 bad:Bool
def ku[DecidableEq K](i:Nat)(out:Bool)(w:Wo K)(e:Ev K):Wo K:=
 if e.k=3∧out=true then⟨cV w.bI e.c (some e.peer),w.pr,w.bad||(w.bI e.c).isSome⟩
 else if e.k=4 then⟨w.bI,cV w.pr e.c (some e.key),w.bad||(w.pr e.c).any (· ≠e.key)||(decide ((w.bI e.c).getD 0≠i)&& !out)⟩
 else w
def y_(i now:Nat)(w:(Nat→Nat→Bool)×Bool)(r:Nat×Nat):(Nat→Nat→Bool)×Bool:=(kZ w.1 i r.1 true,w.2||w.1 i r.1||decide (now<r.2))
structure kv [DecidableEq K] (s s':Sy K) (i:Nat) (r:Rs K):Prop where
 now:s'.now=s.now
 dl:s'.dl=s.dl
 ms:s'.ms=cV s.ms i r.m
 bS:s'.bS=s.bS++r.o
 ev:r.e.foldl (ku i r.m.out) ⟨s.bI,s.pr,false⟩=⟨s'.bI,s'.pr,false⟩
 rc:r.r.foldl (y_ i s.now) (s.done,false)=(s'.done,false)
structure Sy.Fact (s:Sy K) (x:Mg K):Prop where
 rt:x.f<4∧x.t<4∧acc x.f≠acc x.t∧1≤x.k∧x.k≤6
 f1:x.k=1→s.pC x.c=some x.f∧x.key=s.ok x.c∧s.done x.t x.c=false∧¬(s.ms x.t).has x.c∧s.jT x.c x.t=none
 no:x.k=1→∀y∈s.bS,y.k=1→¬(y.c=x.c∧y.t=x.t)
 f2:x.k=2→s.pC x.c=some x.t∧s.jT x.c x.f=some x.key
 f3:x.k=3→(s.pC x.c=some x.f∧s.bI x.c=some x.t)∨(s.pC x.c=some x.t∧s.jo x.f x.c)
 f5:x.k=5→s.done x.f x.c=true
end Go.Cp
