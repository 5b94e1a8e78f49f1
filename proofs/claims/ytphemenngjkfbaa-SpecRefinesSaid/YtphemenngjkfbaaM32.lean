/- The call machine. -/
import Derived.Test.YtphemenngjkfbaaM31
open Go.LoopState renaming exhausted → ag3
open Go.Proofs.Try renaming prog → agQ
open Int renaming toNat → ag
open List renaming append → agw, mem_map → ag9
namespace Go.RX.Cu
open Go.RX Go.Proofs
set_option maxRecDepth 100000
def Bb(P:Program)(aq:Value→List HP→Prop)(x0 x1 _ x3 x4 _ _ x7 x8 x9 aO _ aM aR aY _ _ _ _ _ aX bz bx _ _ _ _ _ _ _ _ _ _ _ _ _ _ _ _ _:Int)(A0 A1 A2 A3 A4 _ _ _ _ _:Nat→Int)(b0 b1 b2:Nat)(p0 _ _ p3:HP):Prop:=
 ∀b3:Nat,Cl P 85 [.pp b1,.pp b0,.int .u8 3,.int .u64 bx,.agg (.int .u8 0::(.int .u8 0::(.int .u8 0::(.int .u64 0::(agw (ak .u8 16 (fun _=>0)) (.int .u8 0::(.int .u8 aX::(.int .u8 bz::(agw (ak .u8 32 (fun _=>0)) ([.int .u8 0])))))))))).toArray] [p3,Mw b1 x0 x1 A0 b2 3 A1 (!(x3==0)) x4 aX bz A2 A3 A4 (aD x7) (aD x8) x9 aO bx aM aR aY] fun x hs _=> ∃p4:HP,x= .tuple #[]∧hs=[p4,Mw b1 x0 x1 A0 b2 3 A1 (!(x3==0)) x4 aX bz A2 A3 A4 (aD x7) (aD x8) x9 aO bx aM aR aY]∧
 aq (.tuple #[]) [p4,Mw b1 x0 x1 A0 b2 3 A1 (!(x3==0)) x4 aX bz A2 A3 A4 (aD x7) (aD x8) x9 aO bx aM aR aY,p0,Dw b3 aX bz]
theorem I6(aq:Value→List HP→Prop)(x0 x1 x2 x3 x4 x5 x6 x7 x8 x9 aO aQ aM aR aY bV cN cY cQ cP aX bz bx bM bH bL bX bZ bS fU cE cR jY gq gj fV iM fm nX nD:Int)(A0 A1 A2 A3 A4 A5 A6 A7 A8 A9:Nat→Int)(b0 b1 b2:Nat)(p0 p1 p2 p3:HP)(h:Bb agQ aq x0 x1 x2 x3 x4 x5 x6 x7 x8 x9 aO aQ aM aR aY bV cN cY cQ cP aX bz bx bM bH bL bX bZ bS fU cE cR jY gq gj fV iM fm nX nD A0 A1 A2 A3 A4 A5 A6 A7 A8 A9 b0 b1 b2 p0 p1 p2 p3):au agQ 117 [.pp b1,.pp b0,.dv aX bz,.int .u64 bx] [p3,Mw b1 x0 x1 A0 b2 x2 A1 (!(x3==0)) x4 x5 x6 A2 A3 A4 (aD x7) (aD x8) x9 aO aQ aM aR aY,p0] aq:=
 um (C:=cx) [.ptr 1 0,.ptr 0 0,.agg [.int .u8 (.var 20),.int .u8 (.var 21)],.int .u64 (.var 22)] [.abs 3,.row 1 true [.int .u8 (.var 0),.int .u8 (.var 1),.a_ .u8 8 (.aw 0),.ptr 2 0,.int .u8 (.var 2),.a_ .u8 16 (.aw 1),.bool (BE.nz (.var 3)),.int .u8 (.var 4),.int .u8 (.var 5),.int .u8 (.var 6),.a_ .u8 32 (.aw 2),.a_ .u8 32 (.aw 3),.a_ .u8 32 (.aw 4),.dh (.var 7),.dh (.var 8),.int .u64 (.var 9),.int .u64 (.var 10),.int .u64 (.var 11),.int .u64 (.var 12),.int .u64 (.var 13),.int .u32 (.var 14)],.abs 0] ⟨3,0,40,10,0,4,0⟩ ⟨[x0,x1,x2,x3,x4,x5,x6,x7,x8,x9,aO,aQ,aM,aR,aY,bV,cN,cY,cQ,cP,aX,bz,bx,bM,bH,bL,bX,bZ,bS,fU,cE,cR,jY,gq,gj,fV,iM,fm,nX,nD],[A0,A1,A2,A3,A4,A5,A6,A7,A8,A9],[],[b0,b1,b2],[],[],[p0,p1,p2,p3],[]⟩ Try.func117 (by kernel_rfl) h
def DL(P:Program)(aq:Value→List HP→Prop)(x0 x1 _ x3 x4 x5 x6 x7 x8 x9 _ _ _ _ _ _ _ _ _ _ _ _ bx _ _ _ _ _ _ _ _ _ _ _ _ _ _ _ _ _:Int)(A0 A1 A2 A3 A4 _ _ _ _ _:Nat→Int)(b0 b1 b2:Nat)(p0 _ _ p3:HP):Prop:=
 ∀b3:Nat,Cl P 78 [.slice (some ⟨b3,0,none⟩) 1 1] [ao b3 true ([.slice (some ⟨b1,96,none⟩) 32 32]),Mw b1 x0 x1 A0 b2 4 A1 (!(x3==0)) x4 x5 x6 A2 A3 A4 (aD x7) (aD x8) x9 bx bx bx bx 0] fun x hs l=> ∃bU:(Nat→Int),x= .sg 32 bU∧hs=l∧
 Cl P 85 [.pp b1,.pp b0,.int .u8 4,.int .u64 bx,.agg (.int .u8 0::(.int .u8 0::(.int .u8 0::(.int .u64 0::(agw (ak .u8 16 (fun _=>0)) (.int .u8 0::(.int .u8 x5::(.int .u8 x6::(agw (ak .u8 32 bU) ([.int .u8 0])))))))))).toArray] [p3,Mw b1 x0 x1 A0 b2 4 A1 (!(x3==0)) x4 x5 x6 A2 A3 A4 (aD x7) (aD x8) x9 bx bx bx bx 0] fun x hs _=> ∃p4:HP,x= .tuple #[]∧hs=[p4,Mw b1 x0 x1 A0 b2 4 A1 (!(x3==0)) x4 x5 x6 A2 A3 A4 (aD x7) (aD x8) x9 bx bx bx bx 0]∧
 aq (.tuple #[]) [p4,Mw b1 x0 x1 A0 b2 4 A1 (!(x3==0)) x4 x5 x6 A2 A3 A4 (aD x7) (aD x8) x9 bx bx bx bx 0,p0,ao b3 true ([.slice (some ⟨b1,96,none⟩) 32 32])]
theorem MP(aq:Value→List HP→Prop)(x0 x1 x2 x3 x4 x5 x6 x7 x8 x9 aO aQ aM aR aY bV cN cY cQ cP aX bz bx bM bH bL bX bZ bS fU cE cR jY gq gj fV iM fm nX nD:Int)(A0 A1 A2 A3 A4 A5 A6 A7 A8 A9:Nat→Int)(b0 b1 b2:Nat)(p0 p1 p2 p3:HP)(h:DL agQ aq x0 x1 x2 x3 x4 x5 x6 x7 x8 x9 aO aQ aM aR aY bV cN cY cQ cP aX bz bx bM bH bL bX bZ bS fU cE cR jY gq gj fV iM fm nX nD A0 A1 A2 A3 A4 A5 A6 A7 A8 A9 b0 b1 b2 p0 p1 p2 p3):au agQ 119 [.pp b1,.pp b0,.int .u64 bx] [p3,Mw b1 x0 x1 A0 b2 x2 A1 (!(x3==0)) x4 x5 x6 A2 A3 A4 (aD x7) (aD x8) x9 aO aQ aM aR aY,p0] aq:=
 um (C:=cx) [.ptr 1 0,.ptr 0 0,.int .u64 (.var 22)] [.abs 3,.row 1 true [.int .u8 (.var 0),.int .u8 (.var 1),.a_ .u8 8 (.aw 0),.ptr 2 0,.int .u8 (.var 2),.a_ .u8 16 (.aw 1),.bool (BE.nz (.var 3)),.int .u8 (.var 4),.int .u8 (.var 5),.int .u8 (.var 6),.a_ .u8 32 (.aw 2),.a_ .u8 32 (.aw 3),.a_ .u8 32 (.aw 4),.dh (.var 7),.dh (.var 8),.int .u64 (.var 9),.int .u64 (.var 10),.int .u64 (.var 11),.int .u64 (.var 12),.int .u64 (.var 13),.int .u32 (.var 14)],.abs 0] ⟨3,0,40,10,0,4,0⟩ ⟨[x0,x1,x2,x3,x4,x5,x6,x7,x8,x9,aO,aQ,aM,aR,aY,bV,cN,cY,cQ,cP,aX,bz,bx,bM,bH,bL,bX,bZ,bS,fU,cE,cR,jY,gq,gj,fV,iM,fm,nX,nD],[A0,A1,A2,A3,A4,A5,A6,A7,A8,A9],[],[b0,b1,b2],[],[],[p0,p1,p2,p3],[]⟩ Try.func119 (by kernel_rfl) h
def Bc(P:Program)(aq:Value→List HP→Prop)(x0 x1 _ x3 x4 x5 x6 x7 x8 x9 aO _ aM aR aY _ _ _ _ _ _ _ bx _ _ _ _ _ _ _ _ _ _ _ _ _ _ _ _ _:Int)(A0 A1 _ A3 _ A5 _ _ _ _:Nat→Int)(b0 b1 b2:Nat)(p0 _ _ p3:HP):Prop:=
 ∀b3:Nat,Cl P 44 [.sg 16 A1,.sg 32 A3,.sg 32 A5,.dv x5 x6,.dv x0 x1] [] fun x hs _=> ∃bU:(Nat→Int),x= .sg 32 bU∧hs=[]∧
 Cl P 96 [.pp b0,.dv x5 x6,.agg (Sg 2 A1 0 0 0 A5 0 0).toArray] [p3] fun x hs _=> ∃p4:HP,x= .tuple #[]∧hs=[p4]∧
 Cl P 96 [.pp b0,.dv x5 x6,.agg (Sg 3 A1 0 0 0 (fun _=>0) 1 0).toArray] [p4] fun x hs _=> ∃p5:HP,x= .tuple #[]∧hs=[p5]∧
 ∀b4:Nat,Cl P 85 [.pp b1,.pp b0,.int .u8 3,.int .u64 bx,.agg (.int .u8 0::(.int .u8 0::(.int .u8 0::(.int .u64 0::(agw (ak .u8 16 (fun _=>0)) (.int .u8 0::(.int .u8 x5::(.int .u8 x6::(agw (ak .u8 32 (fun _=>0)) ([.int .u8 0])))))))))).toArray] [p5,Mw b1 x0 x1 A0 b2 3 A1 (!(x3==0)) x4 x5 x6 A5 A3 bU (aD x7) (aD x8) x9 aO bx aM aR aY] fun x hs _=> ∃p6:HP,x= .tuple #[]∧hs=[p6,Mw b1 x0 x1 A0 b2 3 A1 (!(x3==0)) x4 x5 x6 A5 A3 bU (aD x7) (aD x8) x9 aO bx aM aR aY]∧
 aq (.tuple #[]) [p6,Mw b1 x0 x1 A0 b2 3 A1 (!(x3==0)) x4 x5 x6 A5 A3 bU (aD x7) (aD x8) x9 aO bx aM aR aY,p0,ao b3 true (agw (ak .u8 32 A5) ([])),Dw b4 x5 x6]
theorem I7(aq:Value→List HP→Prop)(x0 x1 x2 x3 x4 x5 x6 x7 x8 x9 aO aQ aM aR aY bV cN cY cQ cP aX bz bx bM bH bL bX bZ bS fU cE cR jY gq gj fV iM fm nX nD:Int)(A0 A1 A2 A3 A4 A5 A6 A7 A8 A9:Nat→Int)(b0 b1 b2:Nat)(p0 p1 p2 p3:HP)(h:Bc agQ aq x0 x1 x2 x3 x4 x5 x6 x7 x8 x9 aO aQ aM aR aY bV cN cY cQ cP aX bz bx bM bH bL bX bZ bS fU cE cR jY gq gj fV iM fm nX nD A0 A1 A2 A3 A4 A5 A6 A7 A8 A9 b0 b1 b2 p0 p1 p2 p3):au agQ 97 [.pp b1,.pp b0,.sg 32 A5,.int .u64 bx] [p3,Mw b1 x0 x1 A0 b2 x2 A1 (!(x3==0)) x4 x5 x6 A2 A3 A4 (aD x7) (aD x8) x9 aO aQ aM aR aY,p0] aq:=
 um (C:=cx) [.ptr 1 0,.ptr 0 0,.agg [.a_ .u8 32 (.aw 5)],.int .u64 (.var 22)] [.abs 3,.row 1 true [.int .u8 (.var 0),.int .u8 (.var 1),.a_ .u8 8 (.aw 0),.ptr 2 0,.int .u8 (.var 2),.a_ .u8 16 (.aw 1),.bool (BE.nz (.var 3)),.int .u8 (.var 4),.int .u8 (.var 5),.int .u8 (.var 6),.a_ .u8 32 (.aw 2),.a_ .u8 32 (.aw 3),.a_ .u8 32 (.aw 4),.dh (.var 7),.dh (.var 8),.int .u64 (.var 9),.int .u64 (.var 10),.int .u64 (.var 11),.int .u64 (.var 12),.int .u64 (.var 13),.int .u32 (.var 14)],.abs 0] ⟨3,0,40,10,0,4,0⟩ ⟨[x0,x1,x2,x3,x4,x5,x6,x7,x8,x9,aO,aQ,aM,aR,aY,bV,cN,cY,cQ,cP,aX,bz,bx,bM,bH,bL,bX,bZ,bS,fU,cE,cR,jY,gq,gj,fV,iM,fm,nX,nD],[A0,A1,A2,A3,A4,A5,A6,A7,A8,A9],[],[b0,b1,b2],[],[],[p0,p1,p2,p3],[]⟩ Try.func97 (by kernel_rfl) h
def GR(P:Program)(aq:Value→List HP→Prop)(x0 x1 _ _ _ _ _ x7 x8 _ _ _ _ _ _ _ _ _ _ _ _ _ bx bM bH bL bX bZ bS _ _ _ _ _ _ _ _ _ _ _:Int)(A0 _ _ _ _ A5 A6 _ _ _:Nat→Int)(b0 b1 b2:Nat)(p0 _ _ p3:HP):Prop:=
 ∀b3 b4:Nat,Cl P 85 [.pp b1,.pp b0,.int .u8 2,.int .u64 bx,.agg (.int .u8 0::(.int .u8 0::(.int .u8 0::(.int .u64 0::(agw (ak .u8 16 (fun _=>0)) (.int .u8 0::(.int .u8 0::(.int .u8 0::(agw (ak .u8 32 (fun _=>0)) ([.int .u8 0])))))))))).toArray] [p3,Mw b1 x0 x1 A0 b2 2 A5 false bH bH bL (fun _=>0) A6 (fun _=>0) (aD x7) (aD x8) bx 0 bx 0 0 0] fun x hs _=> ∃p4:HP,x= .tuple #[]∧hs=[p4,Mw b1 x0 x1 A0 b2 2 A5 false bH bH bL (fun _=>0) A6 (fun _=>0) (aD x7) (aD x8) bx 0 bx 0 0 0]∧
 aq (.tuple #[]) [p4,Mw b1 x0 x1 A0 b2 2 A5 false bH bH bL (fun _=>0) A6 (fun _=>0) (aD x7) (aD x8) bx 0 bx 0 0 0,p0,ao b3 true (Sg bM A5 bH bL bX A6 bZ bS),ao b4 true (agw (ak .u8 16 A5) ([]))]
theorem Pr(aq:Value→List HP→Prop)(x0 x1 x2 x3 x4 x5 x6 x7 x8 x9 aO aQ aM aR aY bV cN cY cQ cP aX bz bx bM bH bL bX bZ bS fU cE cR jY gq gj fV iM fm nX nD:Int)(A0 A1 A2 A3 A4 A5 A6 A7 A8 A9:Nat→Int)(b0 b1 b2:Nat)(p0 p1 p2 p3:HP)(h:GR agQ aq x0 x1 x2 x3 x4 x5 x6 x7 x8 x9 aO aQ aM aR aY bV cN cY cQ cP aX bz bx bM bH bL bX bZ bS fU cE cR jY gq gj fV iM fm nX nD A0 A1 A2 A3 A4 A5 A6 A7 A8 A9 b0 b1 b2 p0 p1 p2 p3):au agQ 115 [.pp b1,.pp b0,.agg (Sg bM A5 bH bL bX A6 bZ bS).toArray,.int .u64 bx] [p3,Mw b1 x0 x1 A0 b2 x2 A1 (!(x3==0)) x4 x5 x6 A2 A3 A4 (aD x7) (aD x8) x9 aO aQ aM aR aY,p0] aq:=
 um (C:=cx) [.ptr 1 0,.ptr 0 0,.agg [.int .u8 (.var 23),.a_ .u8 16 (.aw 5),.int .u8 (.var 24),.int .u8 (.var 25),.int .u8 (.var 26),.a_ .u8 32 (.aw 6),.int .u32 (.var 27),.bY,.int .u8 (.var 28)],.int .u64 (.var 22)] [.abs 3,.row 1 true [.int .u8 (.var 0),.int .u8 (.var 1),.a_ .u8 8 (.aw 0),.ptr 2 0,.int .u8 (.var 2),.a_ .u8 16 (.aw 1),.bool (BE.nz (.var 3)),.int .u8 (.var 4),.int .u8 (.var 5),.int .u8 (.var 6),.a_ .u8 32 (.aw 2),.a_ .u8 32 (.aw 3),.a_ .u8 32 (.aw 4),.dh (.var 7),.dh (.var 8),.int .u64 (.var 9),.int .u64 (.var 10),.int .u64 (.var 11),.int .u64 (.var 12),.int .u64 (.var 13),.int .u32 (.var 14)],.abs 0] ⟨3,0,40,10,0,4,0⟩ ⟨[x0,x1,x2,x3,x4,x5,x6,x7,x8,x9,aO,aQ,aM,aR,aY,bV,cN,cY,cQ,cP,aX,bz,bx,bM,bH,bL,bX,bZ,bS,fU,cE,cR,jY,gq,gj,fV,iM,fm,nX,nD],[A0,A1,A2,A3,A4,A5,A6,A7,A8,A9],[],[b0,b1,b2],[],[],[p0,p1,p2,p3],[]⟩ Try.func115 (by kernel_rfl) h
def Bd(P:Program)(aq:Value→List HP→Prop)(x0 x1 x2 x3 x4 x5 x6 x7 x8 x9 aO aQ aM aR aY _ _ _ _ _ aX bz bx _ _ _ _ _ _ _ _ _ _ _ _ _ _ _ _ _:Int)(A0 A1 A2 A3 A4 _ _ _ _ _:Nat→Int)(b0 b1 b2:Nat)(p0 _ _ p3:HP):Prop:=
 aK (x2=1) (
 ∀b3 b4 b5 b6 b7 b8:Nat,∀(_ l10:Nat) (r9:Loop),aK (x7=0) (
 Cl P 93 [.pp b1,.pp b0,.int .u8 bz,.int .u64 bx] [p3,Mw b1 x0 x1 A0 b2 x2 A1 (!(x3==0)) x4 x5 x6 A2 A3 A4 (aD x7) (aD x8) x9 aO aQ aM aR aY,p0] fun x hs _=> ∃p4:HP,x= .tuple #[]∧hs=[p4,Mw b1 x0 x1 A0 b2 0 A1 (!(x3==0)) x4 x5 x6 A2 A3 A4 (aD x7) (aD x8) x9 aO aQ aM aR aY,p0]∧
 aq (.tuple #[]) [p4,Mw b1 x0 x1 A0 b2 0 A1 (!(x3==0)) x4 x5 x6 A2 A3 A4 (aD x7) (aD x8) x9 aO aQ aM aR aY,p0,ao b3 true ([(aD x7)]),ao b4 true ([(aD x7)]),ao b5 true ([.func (.func 66) #[] #[.pp b3]]),ao b6 true (Sg 5 A1 0 0 0 (fun _=>0) 0 aX),ao b7 true ([.pp b0]),ao b8 true (Sg 5 A1 0 0 0 (fun _=>0) 0 aX),HP.emp,lC l10 {r9 with state:=ag3,pending:=none}]) (
 aE (x7≠0) (
 False))) (
 ∀b3:Nat,Cl P 96 [.pp b0,.dv x5 x6,.agg (Sg 5 A1 0 0 0 (fun _=>0) 0 aX).toArray] [p3] fun x hs _=> ∃p4:HP,x= .tuple #[]∧hs=[p4]∧
 Cl P 93 [.pp b1,.pp b0,.int .u8 bz,.int .u64 bx] [p4,Mw b1 x0 x1 A0 b2 x2 A1 (!(x3==0)) x4 x5 x6 A2 A3 A4 (aD x7) (aD x8) x9 aO aQ aM aR aY,p0] fun x hs _=> ∃p5:HP,x= .tuple #[]∧hs=[p5,Mw b1 x0 x1 A0 b2 0 A1 (!(x3==0)) x4 x5 x6 A2 A3 A4 (aD x7) (aD x8) x9 aO aQ aM aR aY,p0]∧
 aq (.tuple #[]) [p5,Mw b1 x0 x1 A0 b2 0 A1 (!(x3==0)) x4 x5 x6 A2 A3 A4 (aD x7) (aD x8) x9 aO aQ aM aR aY,p0,ao b3 true (Sg 5 A1 0 0 0 (fun _=>0) 0 aX)])
theorem I8(aq:Value→List HP→Prop)(x0 x1 x2 x3 x4 x5 x6 x7 x8 x9 aO aQ aM aR aY bV cN cY cQ cP aX bz bx bM bH bL bX bZ bS fU cE cR jY gq gj fV iM fm nX nD:Int)(A0 A1 A2 A3 A4 A5 A6 A7 A8 A9:Nat→Int)(b0 b1 b2:Nat)(p0 p1 p2 p3:HP)(h:Bd agQ aq x0 x1 x2 x3 x4 x5 x6 x7 x8 x9 aO aQ aM aR aY bV cN cY cQ cP aX bz bx bM bH bL bX bZ bS fU cE cR jY gq gj fV iM fm nX nD A0 A1 A2 A3 A4 A5 A6 A7 A8 A9 b0 b1 b2 p0 p1 p2 p3):au agQ 95 [.pp b1,.pp b0,.int .u8 aX,.int .u8 bz,.int .u64 bx] [p3,Mw b1 x0 x1 A0 b2 x2 A1 (!(x3==0)) x4 x5 x6 A2 A3 A4 (aD x7) (aD x8) x9 aO aQ aM aR aY,p0] aq:=
 um (C:=cx) [.ptr 1 0,.ptr 0 0,.int .u8 (.var 20),.int .u8 (.var 21),.int .u64 (.var 22)] [.abs 3,.row 1 true [.int .u8 (.var 0),.int .u8 (.var 1),.a_ .u8 8 (.aw 0),.ptr 2 0,.int .u8 (.var 2),.a_ .u8 16 (.aw 1),.bool (BE.nz (.var 3)),.int .u8 (.var 4),.int .u8 (.var 5),.int .u8 (.var 6),.a_ .u8 32 (.aw 2),.a_ .u8 32 (.aw 3),.a_ .u8 32 (.aw 4),.dh (.var 7),.dh (.var 8),.int .u64 (.var 9),.int .u64 (.var 10),.int .u64 (.var 11),.int .u64 (.var 12),.int .u64 (.var 13),.int .u32 (.var 14)],.abs 0] ⟨3,0,40,10,0,4,0⟩ ⟨[x0,x1,x2,x3,x4,x5,x6,x7,x8,x9,aO,aQ,aM,aR,aY,bV,cN,cY,cQ,cP,aX,bz,bx,bM,bH,bL,bX,bZ,bS,fU,cE,cR,jY,gq,gj,fV,iM,fm,nX,nD],[A0,A1,A2,A3,A4,A5,A6,A7,A8,A9],[],[b0,b1,b2],[],[],[p0,p1,p2,p3],[]⟩ Try.func95 (by kernel_rfl) h
end Go.RX.Cu

namespace Go.RX.Ct
open Go.RX Go.Proofs
noncomputable def cx:Ctx:={T:=TT,FT:=FT,calls:=Ma.calls}
open Go.RX Go.Proofs
set_option maxRecDepth 100000
def Ps(P:Program)(aq:Value→List HP→Prop)(x0 x1 x2 x3 _ x5 x6 x7 x8 x9 aO aQ aM aR aY bV cN cY cQ:Int)(A0 A1 A2 A3 A4 A5 A6 A7 A8 A9 bU cz dT dU eS eD dX dY dQ mA mB mo:Nat→Int)(v0 _ _:V1)(b0 b1 b2:Nat)(p0:HP):Prop:=
 ∀b3 b4:Nat,aE (0≤x0) (
 NL ((x0+1)*72) (
 ∀(v3:V1) (b5:Nat),aE (0≤x1) (
 NL ((x1+1)*48) (
 ∀v4:V1,Cl P 92 [.pp b2,.sg 16 dQ] [p0] fun x hs l=>x= .tuple #[]∧hs=l∧
 aq (.tuple #[]) [ao b0 true ([v0.v,v3.v,v4.v]),aC true 76 56 v3.v (ag (x0+1)) (aT (ag (x0+1)) [ax .u8 1 (aj A0 (ag x0) 5),ax .u8 1 (aj A1 (ag x0) x2),ax .u8 1 (aj A2 (ag x0) x3),ax .u64 1 (aj A3 (ag x0) cQ),ax .u8 16 (aG A4 (ag (x0*16)) 16 dQ),ax .u8 1 (aj A5 (ag x0) x6),ax .u8 1 (aj A6 (ag x0) 0),ax .u8 1 (aj A7 (ag x0) 0),ax .u8 32 (aG A8 (ag (x0*32)) 32 (fun _=>0)),ax .u8 1 (aj A9 (ag x0) cY)]),aC true 85 22 v4.v (ag (x1+1)) (aT (ag (x1+1)) [ax .u8 16 (aG bU (ag (x1*16)) 16 dQ),ax .u8 1 (aj cz (ag x1) x6),oh 1 (aj dT (ag x1) x5),ax .u8 1 (aj dU (ag x1) cY),ax .u64 1 (aj eS (ag x1) aQ),ax .u64 1 (aj eD (ag x1) aM),ax .u64 1 (aj dX (ag x1) cQ)]),Mw b1 x2 x3 dY b2 0 dQ (!(x5==0)) x6 x7 x8 mA mB mo (aD x9) (aD aO) aQ aM aR aY bV cN,p0,ao b3 true (.int .u8 5::(.int .u8 x2::(.int .u8 x3::(.int .u64 cQ::(agw (ak .u8 16 dQ) (.int .u8 x6::(.int .u8 0::(.int .u8 0::(agw (ak .u8 32 (fun _=>0)) ([.int .u8 cY])))))))))),ao b4 true (.int .u8 5::(.int .u8 x2::(.int .u8 x3::(.int .u64 cQ::(agw (ak .u8 16 dQ) (.int .u8 x6::(.int .u8 0::(.int .u8 0::(agw (ak .u8 32 (fun _=>0)) ([.int .u8 cY])))))))))),ao b5 true (agw (ak .u8 16 dQ) ([.int .u8 x6,.bool (!(x5==0)),.int .u8 cY,.int .u64 aQ,.int .u64 aM,.int .u64 cQ]))]))))
theorem VM(aq:Value→List HP→Prop)(x0 x1 x2 x3 x4 x5 x6 x7 x8 x9 aO aQ aM aR aY bV cN cY cQ:Int)(A0 A1 A2 A3 A4 A5 A6 A7 A8 A9 bU cz dT dU eS eD dX dY dQ mA mB mo:Nat→Int)(v0 v1 v2:V1)(b0 b1 b2:Nat)(p0:HP)(h:Ps agQ aq x0 x1 x2 x3 x4 x5 x6 x7 x8 x9 aO aQ aM aR aY bV cN cY cQ A0 A1 A2 A3 A4 A5 A6 A7 A8 A9 bU cz dT dU eS eD dX dY dQ mA mB mo v0 v1 v2 b0 b1 b2 p0):au agQ 93 [.pp b1,.pp b0,.int .u8 cY,.int .u64 cQ] [ao b0 true ([v0.v,v1.v,v2.v]),aC true 76 56 v1.v (ag x0) (aT (ag x0) [ax .u8 1 A0,ax .u8 1 A1,ax .u8 1 A2,ax .u64 1 A3,ax .u8 16 A4,ax .u8 1 A5,ax .u8 1 A6,ax .u8 1 A7,ax .u8 32 A8,ax .u8 1 A9]),aC true 85 22 v2.v (ag x1) (aT (ag x1) [ax .u8 16 bU,ax .u8 1 cz,oh 1 dT,ax .u8 1 dU,ax .u64 1 eS,ax .u64 1 eD,ax .u64 1 dX]),Mw b1 x2 x3 dY b2 x4 dQ (!(x5==0)) x6 x7 x8 mA mB mo (aD x9) (aD aO) aQ aM aR aY bV cN,p0] aq:=
 um (C:=cx) [.ptr 1 0,.ptr 0 0,.int .u8 (.var 17),.int .u64 (.var 18)] [.row 0 true [.vv 0,.vv 1,.vv 2],.cy true 1 76 56 (.var 0) [⟨.int .u8,1,.aw 0⟩,⟨.int .u8,1,.aw 1⟩,⟨.int .u8,1,.aw 2⟩,⟨.int .u64,1,.aw 3⟩,⟨.int .u8,16,.aw 4⟩,⟨.int .u8,1,.aw 5⟩,⟨.int .u8,1,.aw 6⟩,⟨.int .u8,1,.aw 7⟩,⟨.int .u8,32,.aw 8⟩,⟨.int .u8,1,.aw 9⟩],.cy true 2 85 22 (.var 1) [⟨.int .u8,16,.aw 10⟩,⟨.int .u8,1,.aw 11⟩,⟨CK.bool,1,.aw 12⟩,⟨.int .u8,1,.aw 13⟩,⟨.int .u64,1,.aw 14⟩,⟨.int .u64,1,.aw 15⟩,⟨.int .u64,1,.aw 16⟩],.row 1 true [.int .u8 (.var 2),.int .u8 (.var 3),.a_ .u8 8 (.aw 17),.ptr 2 0,.int .u8 (.var 4),.a_ .u8 16 (.aw 18),.bool (BE.nz (.var 5)),.int .u8 (.var 6),.int .u8 (.var 7),.int .u8 (.var 8),.a_ .u8 32 (.aw 19),.a_ .u8 32 (.aw 20),.a_ .u8 32 (.aw 21),.dh (.var 9),.dh (.var 10),.int .u64 (.var 11),.int .u64 (.var 12),.int .u64 (.var 13),.int .u64 (.var 14),.int .u64 (.var 15),.int .u32 (.var 16)],.abs 0] ⟨3,3,19,22,0,1,0⟩ ⟨[x0,x1,x2,x3,x4,x5,x6,x7,x8,x9,aO,aQ,aM,aR,aY,bV,cN,cY,cQ],[A0,A1,A2,A3,A4,A5,A6,A7,A8,A9,bU,cz,dT,dU,eS,eD,dX,dY,dQ,mA,mB,mo],[],[b0,b1,b2],[v0,v1,v2],[],[p0],[]⟩ Try.func93 (by kernel_rfl) h
end Go.RX.Ct

namespace Go.RX.Cs
open Go.RX Go.Proofs
noncomputable def cx:Ctx:={T:=TT,FT:=FT}
open Go.RX Go.Proofs
set_option maxRecDepth 100000
def KN(_:Program)(aq:Value→List HP→Prop)(x0 x1 x2 x3 x4 x5 x6 x7 x8:Int)(A0 A1 A2 A3 A4 A5 A6 A7 A8 A9 _ _ dT dU:Nat→Int)(_ v1 v2:V1)(b0:Nat):Prop:=
 ∀b1 b2 b3:Nat,aE (0≤x0) (
 NL ((x0+1)*96) (
 ∀v3:V1,aq (.tuple #[]) [ao b0 true ([v3.v,v1.v,v2.v]),aC true 111 57 v3.v (ag (x0+1)) (aT (ag (x0+1)) [ax .u8 1 (aj A0 (ag x0) x1),ax .u8 1 (aj A1 (ag x0) x2),ax .u8 1 (aj A2 (ag x0) x3),ax .u8 16 (aG A3 (ag (x0*16)) 16 dT),ax .u8 1 (aj A4 (ag x0) x4),ax .u8 1 (aj A5 (ag x0) x5),ax .u8 1 (aj A6 (ag x0) x6),ax .u8 32 (aG A7 (ag (x0*32)) 32 dU),ax .u32 1 (aj A8 (ag x0) x7),dC 1 (fun _=> .slice none 0 0),ax .u8 1 (aj A9 (ag x0) x8)]),Dw b1 x1 x2,ao b2 true (Sg x3 dT x4 x5 x6 dU x7 x8),ao b3 true (.int .u8 x1::(.int .u8 x2::(Sg x3 dT x4 x5 x6 dU x7 x8)))]))
theorem SP(aq:Value→List HP→Prop)(x0 x1 x2 x3 x4 x5 x6 x7 x8:Int)(A0 A1 A2 A3 A4 A5 A6 A7 A8 A9 bU cz dT dU:Nat→Int)(v0 v1 v2:V1)(b0:Nat)(h:KN agQ aq x0 x1 x2 x3 x4 x5 x6 x7 x8 A0 A1 A2 A3 A4 A5 A6 A7 A8 A9 bU cz dT dU v0 v1 v2 b0):au agQ 96 [.pp b0,.dv x1 x2,.agg (Sg x3 dT x4 x5 x6 dU x7 x8).toArray] [ao b0 true ([v0.v,v1.v,v2.v]),aC true 111 57 v0.v (ag x0) (aT (ag x0) [ax .u8 1 A0,ax .u8 1 A1,ax .u8 1 A2,ax .u8 16 A3,ax .u8 1 A4,ax .u8 1 A5,ax .u8 1 A6,ax .u8 32 A7,ax .u32 1 A8,dC 1 (fun _=> .slice none 0 0),ax .u8 1 A9])] aq:=
 um (C:=cx) [.ptr 0 0,.agg [.int .u8 (.var 1),.int .u8 (.var 2)],.agg [.int .u8 (.var 3),.a_ .u8 16 (.aw 12),.int .u8 (.var 4),.int .u8 (.var 5),.int .u8 (.var 6),.a_ .u8 32 (.aw 13),.int .u32 (.var 7),.bY,.int .u8 (.var 8)]] [.row 0 true [.vv 0,.vv 1,.vv 2],.cy true 0 111 57 (.var 0) [⟨.int .u8,1,.aw 0⟩,⟨.int .u8,1,.aw 1⟩,⟨.int .u8,1,.aw 2⟩,⟨.int .u8,16,.aw 3⟩,⟨.int .u8,1,.aw 4⟩,⟨.int .u8,1,.aw 5⟩,⟨.int .u8,1,.aw 6⟩,⟨.int .u8,32,.aw 7⟩,⟨.int .u32,1,.aw 8⟩,⟨CK.bY,1,.lit 0⟩,⟨.int .u8,1,.aw 9⟩]] ⟨1,3,9,14,0,0,0⟩ ⟨[x0,x1,x2,x3,x4,x5,x6,x7,x8],[A0,A1,A2,A3,A4,A5,A6,A7,A8,A9,bU,cz,dT,dU],[],[b0],[v0,v1,v2],[],[],[]⟩ Try.func96 (by kernel_rfl) h
def GS(_:Program)(aq:Value→List HP→Prop)(x0 x1 x2 x3 x4 x5 x6 x7 x8 x9 aO aQ aM aR aY bV cN cY _ _ _ _ _ bM bH bL:Int)(A0 A1 A2 A3 A4 A5 A6 A7 A8 A9 bU cz dT dU eS _ dX:Nat→Int)(v0 _ v2:V1)(b0 b1 b2:Nat):Prop:=
 ∀b3 b4:Nat,aE (0≤x0) (
 NL ((x0+1)*72) (
 ∀v3:V1,aq (.tuple #[]) [ao b0 true ([v0.v,v3.v,v2.v]),aC true 76 56 v3.v (ag (x0+1)) (aT (ag (x0+1)) [ax .u8 1 (aj A0 (ag x0) cN),ax .u8 1 (aj A1 (ag x0) x1),ax .u8 1 (aj A2 (ag x0) x2),ax .u64 1 (aj A3 (ag x0) cY),ax .u8 16 (aG A4 (ag (x0*16)) 16 cz),ax .u8 1 (aj A5 (ag x0) x5),ax .u8 1 (aj A6 (ag x0) bM),ax .u8 1 (aj A7 (ag x0) bH),ax .u8 32 (aG A8 (ag (x0*32)) 32 dX),ax .u8 1 (aj A9 (ag x0) bL)]),Mw b1 x1 x2 bU b2 x3 cz (!(x4==0)) x5 x6 x7 dT dU eS (aD x8) (aD x9) aO aQ aM aR aY bV,ao b3 true (.int .u8 cN::(.int .u8 x1::(.int .u8 x2::(.int .u64 cY::(agw (ak .u8 16 cz) (.int .u8 x5::(.int .u8 bM::(.int .u8 bH::(agw (ak .u8 32 dX) ([.int .u8 bL])))))))))),ao b4 true (.int .u8 cN::(.int .u8 x1::(.int .u8 x2::(.int .u64 cY::(agw (ak .u8 16 cz) (.int .u8 x5::(.int .u8 bM::(.int .u8 bH::(agw (ak .u8 32 dX) ([.int .u8 bL]))))))))))]))
theorem Pt(aq:Value→List HP→Prop)(x0 x1 x2 x3 x4 x5 x6 x7 x8 x9 aO aQ aM aR aY bV cN cY cQ cP aX bz bx bM bH bL:Int)(A0 A1 A2 A3 A4 A5 A6 A7 A8 A9 bU cz dT dU eS eD dX:Nat→Int)(v0 v1 v2:V1)(b0 b1 b2:Nat)(h:GS agQ aq x0 x1 x2 x3 x4 x5 x6 x7 x8 x9 aO aQ aM aR aY bV cN cY cQ cP aX bz bx bM bH bL A0 A1 A2 A3 A4 A5 A6 A7 A8 A9 bU cz dT dU eS eD dX v0 v1 v2 b0 b1 b2):au agQ 85 [.pp b1,.pp b0,.int .u8 cN,.int .u64 cY,.agg (.int .u8 cQ::(.int .u8 cP::(.int .u8 aX::(.int .u64 bz::(agw (ak .u8 16 eD) (.int .u8 bx::(.int .u8 bM::(.int .u8 bH::(agw (ak .u8 32 dX) ([.int .u8 bL])))))))))).toArray] [ao b0 true ([v0.v,v1.v,v2.v]),aC true 76 56 v1.v (ag x0) (aT (ag x0) [ax .u8 1 A0,ax .u8 1 A1,ax .u8 1 A2,ax .u64 1 A3,ax .u8 16 A4,ax .u8 1 A5,ax .u8 1 A6,ax .u8 1 A7,ax .u8 32 A8,ax .u8 1 A9]),Mw b1 x1 x2 bU b2 x3 cz (!(x4==0)) x5 x6 x7 dT dU eS (aD x8) (aD x9) aO aQ aM aR aY bV] aq:=
 um (C:=cx) [.ptr 1 0,.ptr 0 0,.int .u8 (.var 16),.int .u64 (.var 17),.agg [.int .u8 (.var 18),.int .u8 (.var 19),.int .u8 (.var 20),.int .u64 (.var 21),.a_ .u8 16 (.aw 15),.int .u8 (.var 22),.int .u8 (.var 23),.int .u8 (.var 24),.a_ .u8 32 (.aw 16),.int .u8 (.var 25)]] [.row 0 true [.vv 0,.vv 1,.vv 2],.cy true 1 76 56 (.var 0) [⟨.int .u8,1,.aw 0⟩,⟨.int .u8,1,.aw 1⟩,⟨.int .u8,1,.aw 2⟩,⟨.int .u64,1,.aw 3⟩,⟨.int .u8,16,.aw 4⟩,⟨.int .u8,1,.aw 5⟩,⟨.int .u8,1,.aw 6⟩,⟨.int .u8,1,.aw 7⟩,⟨.int .u8,32,.aw 8⟩,⟨.int .u8,1,.aw 9⟩],.row 1 true [.int .u8 (.var 1),.int .u8 (.var 2),.a_ .u8 8 (.aw 10),.ptr 2 0,.int .u8 (.var 3),.a_ .u8 16 (.aw 11),.bool (BE.nz (.var 4)),.int .u8 (.var 5),.int .u8 (.var 6),.int .u8 (.var 7),.a_ .u8 32 (.aw 12),.a_ .u8 32 (.aw 13),.a_ .u8 32 (.aw 14),.dh (.var 8),.dh (.var 9),.int .u64 (.var 10),.int .u64 (.var 11),.int .u64 (.var 12),.int .u64 (.var 13),.int .u64 (.var 14),.int .u32 (.var 15)]] ⟨3,3,26,17,0,0,0⟩ ⟨[x0,x1,x2,x3,x4,x5,x6,x7,x8,x9,aO,aQ,aM,aR,aY,bV,cN,cY,cQ,cP,aX,bz,bx,bM,bH,bL],[A0,A1,A2,A3,A4,A5,A6,A7,A8,A9,bU,cz,dT,dU,eS,eD,dX],[],[b0,b1,b2],[v0,v1,v2],[],[],[]⟩ Try.func85 (by kernel_rfl) h
end Go.RX.Cs

namespace Go.Cp
variable {K:Type} {z:K} {F:Nat→K→K→Nat→Nat→K} {H:K→K} {num:Nat→Nat} {s:Sy K} {B T:Nat}
theorem SQ{i:Nat}{m:Mc K}{now:Nat}{o:Or}:((tick z i m now o).m.ph=m.ph∧(tick z i m now o).m.c=m.c∧(tick z i m now o).m.peer=m.peer∧(tick z i m now o).m.since=m.since∧
   ((tick z i m now o).m.bO=m.bO∨(tick z i m now o).m.bO=now∧(tick z i m now o).o=[⟨3,m.c,i,m.peer,z,0⟩]))∨
  ((tick z i m now o).m.ph=0∧(m.ph=4→(tick z i m now o).o=[⟨5,m.c,i,m.peer,z,3⟩])):=by
 simp only [Cp.tick];split
 ·exact .inr ⟨rfl,fun e=>by simp [leaves,e]⟩
 split
 ·exact .inr ⟨rfl,fun e=>by simp [leaves,e]⟩
 split
 ·exact .inr ⟨rfl,fun e=>by simp [leaves,e]⟩
 split
 ·exact .inl ⟨rfl,rfl,rfl,rfl,.inr ⟨rfl,rfl⟩⟩
 ·exact .inl ⟨rfl,rfl,rfl,rfl,.inl rfl⟩
structure Or.Ok (o:Or) (i:Nat):Prop where
 sub: ∀j∈o.sub,j∈others i
 nI:o.sub.length≤2
 pg: ∀j∈o.pg,j∈others i
 YK:o.pg.length≤2
structure Good (z:K) (F:Nat→K→K→Nat→Nat→K) (H:K→K) (num:Nat→Nat) (B:Nat) (s:Sy K):Prop where
 inv:s.Inv F H num
 yg: ∀i,i<4→Yg s.now (s.ms i)
 ym:ym s≤B
 MQ:Cn z num s s.eG s.lY
theorem Good.more(h:Good z F H num B s){C:Nat}(hC:B≤C):Good z F H num C s:=⟨h.inv,h.yg,Nat.le_trans h.ym hC,h.MQ⟩
theorem Sy.Inv.note(h:s.Inv F H num)(e:List (Fe K))(r:Nat→List (Rc×Nat)):({s with eG:=e,lY:=r}).Inv F H num:=
 ⟨fun i hi=>⟨(h.ms i hi).ph,(h.ms i hi).nd,(h.ms i hi).d1,(h.ms i hi).d2,(h.ms i hi).io,(h.ms i hi).d3,(h.ms i hi).d4,(h.ms i hi).d5⟩,h.rt,h.f1,h.once,h.f2,h.f3,h.f5,h.cl,h.an,h.tk,h.ck,h.pr,h.dn⟩
theorem noted[DecidableEq K]{s':Sy K}{i:Nat}{r:Rs K}(h:s'.Inv F H num)(a:gP s s' i r)(g:Goes z num s s' i r s.eG s.lY):
  ∃t:Sy K,t.Inv F H num∧After s t i r∧Cn z num t t.eG t.lY:=by
 obtain⟨σ,DM⟩:=g;exact⟨{s' with eG:=s.eG++r.e.map fun v=>⟨i,s.now,v⟩,lY:=bP s.lY i (s.lY i++r.r.map fun v=>(v,s.now))},h.note _ _,⟨⟨a.now,a.dl,a.ms,a.bW,a.ev,a.rc⟩,rfl,rfl⟩,σ,DM.congr rfl rfl rfl rfl rfl rfl rfl⟩
theorem Good.len(h:Good z F H num B s):s.bW.length≤B:=by
 have:=EM s.bW;have:=h.ym;unfold Cp.ym at this;omega
theorem Good.step[DecidableEq K](h:Good z F H num B s){i:Nat}(hi:i<4){r:Rs K}{d:Nat}(k:ni F H num s i r)(hy:Yg s.now r.m)(hp:uM r.o+md r.m≤d+md (s.ms i))(hg: ∀s',gP s s' i r→Goes z num s s' i r s.eG s.lY): ∃s',Good z F H num (B+d) s'∧After s s' i r:=by
 obtain⟨t,h0,a0⟩:=k;obtain⟨s',h',a,hs⟩:=noted h0 a0 (hg t a0);refine⟨s',⟨h',fun j hj=>?_,?_,hs⟩,a⟩
 ·rw [a.now,a.ms];by_cases e:j=i
  ·subst e;rw [bj];exact hy
  ·rw [cg _ _ e];exact h.yg j hj
 ·have:=sn hi a.ms a.bW;have:=h.ym;omega
theorem MS{i:Nat}{m:Mc K}(key:K){now:Nat}(h:Yg now m):Yg now (answer z F i m key now).m:=by
 rw [Cp.answer];split
 ·exact⟨fun e=>by simp [answers]at e,fun e=>by simp [answers],fun e=>by simp [answers]at e⟩
 ·exact h
theorem I9{i:Nat}{m:Mc K}{now:Nat}(h:Yg now m):Yg now (dW z i m).m:=by
 rw [Cp.dW];split
 ·exact .idle rfl
 ·exact h
theorem SR{i:Nat}{m:Mc K}{o:Or}{now:Nat}(h:Yg now m):Yg now (ng z i m o).m:=by
 rw [Cp.ng];split
 ·exact h
 ·exact .idle rfl
theorem I_{i:Nat}{m:Mc K}(key:K){now:Nat}:uM (answer z F i m key now).o+md (answer z F i m key now).m≤20+md m:=by
 rw [Cp.answer];split
 ·have e1:wt 2=4:=rfl;have e2:wt 3=2:=rfl;simp [answers,fO,fq,md,e1,e2];omega
 ·simp [gG,fq]
theorem GU{i:Nat}{m:Mc K}:uM (dW z i m).o+md (dW z i m).m≤20+md m:=by
 rw [Cp.dW];split
 ·have e2:wt 5=1:=rfl;simp [fO,fq,md,e2];omega
 ·simp [gG,fq]
theorem Pu{i:Nat}{m:Mc K}{o:Or}(hs:o.sub.length≤2):uM (ng z i m o).o+md (ng z i m o).m≤20+md m:=by
 rw [Cp.ng];split
 ·simp [gG,fq]
 ·exact Nat.le_trans (ur (z:=z) i m o.sub hs _ _).1 (by omega)
theorem Good.answer[DecidableEq K](h:Good z F H num B s){i:Nat}(hi:i<4)(key:K): ∃s',Good z F H num (B+20) s'∧After s s' i (answer z F i (s.ms i) key s.now):=by
 obtain⟨σ,DM⟩:=h.MQ;exact h.step hi (h.inv.answer hi key) (MS key (h.yg i hi)) (I_ key) fun s' a=>DM.answer h.inv hi key a
theorem Good.dW[DecidableEq K](h:Good z F H num B s){i:Nat}(hi:i<4): ∃s',Good z F H num (B+20) s'∧After s s' i (dW z i (s.ms i)):=by
 obtain⟨σ,DM⟩:=h.MQ;exact h.step hi (h.inv.dW hi) (I9 (h.yg i hi)) GU fun s' a=>DM.dW h.inv hi a
theorem Good.ng[DecidableEq K](h:Good z F H num B s){i:Nat}(hi:i<4){o:Or}(ho:o.Ok i): ∃s',Good z F H num (B+20) s'∧After s s' i (ng z i (s.ms i) o):=by
 obtain⟨σ,DM⟩:=h.MQ;exact h.step hi (h.inv.ng hi ho.sub) (SR (h.yg i hi)) (Pu ho.nI) fun s' a=>DM.ng h.inv hi ho.sub a
theorem Good.dls(h:Good z F H num B s){d:Nat}(hd:s.dl≤d):Good z F H num B {s with dl:=d}:=⟨h.inv.time (Nat.le_refl _) hd,h.yg,h.ym,h.MQ.elim fun σ DM=>⟨σ,DM.time (Nat.le_refl _) hd⟩⟩
theorem iN.YL{eG:List (Fe K)}{r:Nat→List (Rc×Nat)}{σ:Ss K}(h:iN z num s eG r σ){n:Nat}{x:Mg K}(hx:s.bW[n]? =some x):EN {s with bW:=s.bW.eraseIdx n} σ x:=
 have g:=h.sent (List.mem_of_getElem? hx)
 ⟨g.f1,g.f2,g.f5,g.f6⟩
theorem Sy.Inv.fresh(h:s.Inv F H num){c:Nat}(hc:num c=s.dl+1):s.bb c=none∧s.pr c=none:=by
 have n1:s.gO c=none:=by
  cases e:s.gO c with
  | none=>rfl
  | some j=>
   have:=(h.cl _ _ e).2.1;omega
 constructor
 ·rcases h.ck c with q | ⟨i,q⟩
  ·exact q
  ·rw [n1]at q;cases q
 ·cases e:s.pr c with
  | none=>rfl
  | some p=>
   obtain⟨a,_,_,ha,_⟩:=h.pr _ _ e;rw [n1]at ha;cases ha
theorem iN.recs{eG:List (Fe K)}{r r':Nat→List (Rc×Nat)}{σ:Ss K}(h:iN z num s eG r σ)(e:r'=r):iN z num s eG r' σ:=e▸h
theorem Good.sQ[DecidableEq K](h:Good z F H num B s){i:Nat}(hi:i<4)(hp:(s.ms i).ph=0){c:Nat}(hc:num c=s.dl+1)(key:K):
  ∃s':Sy K,Good z F H num (B+20) s'∧s'.dl=s.dl+1∧After {s with dl:=s.dl+1} s' i (cG z i c key s.now):=by
 obtain⟨t,h0,b1,b2,b3,b4,b5,b6,b7⟩:=h.inv.sQ (z:=z) hi hp hc key;obtain⟨σ,DM⟩:=h.MQ;obtain⟨f1,f2⟩:=h.inv.fresh hc;obtain⟨nj,abk,C,c1,c2⟩:=DM.sQ (z:=z) hi hp hc f1 f2 key;have hs:=abk.nh (cG z i c key s.now).o fun x hx=>by
  obtain⟨j,hj,rfl⟩:=ag9.1 hx;exact⟨fun _=>⟨C,c1,c2⟩,fun e=>by simp at e,fun e=>by simp at e,fun e=>by simp at e⟩
 have a0:gP {s with dl:=s.dl+1} t i (cG z i c key s.now):=⟨b2,b1,b3,b4,by rw [b5,b6];rfl,by rw [b7];rfl⟩;obtain⟨s',h',a,ey⟩:=noted (z:=z) h0 a0 ⟨nj,(hs.congr b2 b3 b4 b1 b5 b6 b7).recs (by simp [cG,h_])⟩;have a1:s'.dl=s.dl+1:=a.dl;have a2:s'.now=s.now:=a.now;have a3:=a.ms;have a4:=a.bW;simp only at a3 a4;refine⟨s',⟨h',fun j hj=>?_,?_,ey⟩,a1,a⟩
 ·rw [a2,a3];by_cases e:j=i
  ·subst e;rw [bj];exact⟨fun e=>by simp [cG],fun e=>by simp [cG]at e,fun e=>by simp [cG]at e⟩
  ·rw [cg _ _ e];exact h.yg j hj
 ·have:=sn (s:=s) hi a3 a4;have:=h.ym;have e1:uM (cG z i c key s.now).o=18:=by
   have e2:wt 1=9:=rfl;simp [cG,others,fO,fq,e2]
  have e3:md (cG z i c key s.now).m=2:=rfl;have e4:md (s.ms i)=0:=by simp [md,hp]
  omega
theorem Good.drop(h:Good z F H num B s){n:Nat}{x:Mg K}(hx:s.bW[n]? =some x):Good z F H num B {s with bW:=s.bW.eraseIdx n}:=
 ⟨(h.inv.come hx).1,h.yg,by have:=GI hx;have:=h.ym;omega,h.MQ.elim fun σ DM=>⟨σ,DM.drop (List.eraseIdx_sublist _ _)⟩⟩
theorem Good.come[DecidableEq K](h:Good z F H num (B+1) s){n:Nat}{x:Mg K}(hx:s.bW[n]? =some x){o:Or}(ho:o.Ok x.t):
  ∃s',Good z F H num B s'∧After {s with bW:=s.bW.eraseIdx n} s' x.t (take z F H x.t (s.ms x.t) x s.now o):=by
 obtain⟨h1,h2⟩:=h.inv.come hx;obtain⟨t,h0,a0⟩:=h1.take (z:=z) h2 ho.sub ho.pg;obtain⟨σ,DM⟩:=h.MQ;obtain⟨s',h',a,hs⟩:=noted (z:=z) h0 a0 ((DM.drop (List.eraseIdx_sublist _ _)).take h1 h2 (DM.YL hx) ho.sub a0);refine⟨s',⟨h',fun j hj=>?_,?_,hs⟩,a⟩
 ·rw [a.now,a.ms];by_cases e:j=x.t
  ·subst e;rw [bj];exact SF _ x o (h.yg _ hj)
  ·rw [cg _ _ e];exact h.yg j hj
 ·have p1:=sn h2.rt.2.1 a.ms a.bW;have p2:=GI hx;have p3:=Pd (z:=z) (F:=F) (H:=H) x.t (s.ms x.t) x s.now o ho.nI ho.YK;have p4:=h.ym;simp only at p1;omega
structure GV (z:K) (F:Nat→K→K→Nat→Nat→K) (H:K→K) (num:Nat→Nat) (B j:Nat) (s:Sy K):Prop where
 inv:s.Inv F H num
 bt: ∀i,i<4→(s.ms i).ph=4→(s.ms i).bO≤s.now
 yg: ∀i,i<j→Yg s.now (s.ms i)
 ym:Cp.ym s≤B
 MQ:Cn z num s s.eG s.lY
theorem Good.time(h:Good z F H num B s)(n:Nat):GV z F H num B 0 {s with now:=s.now+n}:=
 ⟨h.inv.time (Nat.le_add_right _ _) (Nat.le_refl _),fun i hi hp=>Nat.le_add_right_of_le ((h.yg i hi).y4 hp).1,fun i hi=>by omega,h.ym,h.MQ.elim fun σ DM=>⟨σ,DM.time (Nat.le_add_right _ _) (Nat.le_refl _)⟩⟩
theorem GV.next[DecidableEq K]{j:Nat}(h:GV z F H num B j s)(hj:j<4){o:Or}(ho:o.Ok j): ∃s',GV z F H num (B+2) (j+1) s'∧After s s' j (tick z j (s.ms j) s.now o):=by
 obtain⟨t,h0,a0⟩:=h.inv.tick (z:=z) hj ho.sub;obtain⟨σ,DM⟩:=h.MQ;obtain⟨s',h',a,hs⟩:=noted (z:=z) h0 a0 (DM.tick h.inv hj ho.sub a0);refine⟨s',⟨h',fun i hi hp=>?_,fun i hi=>?_,?_,hs⟩,a⟩
 ·rw [a.now];rw [a.ms]at hp ⊢;by_cases e:i=j
  ·subst e;rw [bj]at hp ⊢;rcases SQ (z:=z) (i:=i) (m:=s.ms i) (now:=s.now) (o:=o)with⟨q1,q2,q3,q4,q5 | q5⟩ | q
   ·rw [q5];exact h.bt i hi (by omega)
   ·rw [q5.1];exact Nat.le_refl _
   ·omega
  ·rw [cg _ _ e]at hp ⊢;exact h.bt i hi hp
 ·rw [a.now,a.ms];by_cases e:i=j
  ·subst e;rw [bj];exact SE _ _ _ _ (h.bt i hj)
  ·rw [cg _ _ e];exact h.yg i (by omega)
 ·have:=sn hj a.ms a.bW;have:=h.ym;have:=Pe (z:=z) j (s.ms j) s.now o ho.nI;omega
theorem GV.good(h:GV z F H num B 4 s):Good z F H num B s:=⟨h.inv,h.yg,h.ym,h.MQ⟩
theorem Good.start(now:Nat)(ms:Nat→Mc K)(hm: ∀i,i<4→(ms i).ph=0)(ok:Nat→K):Good z F H num 0 ⟨now,ms,[],0,fun _=>none,fun _=>none,fun _ _=>false,fun _=>none,ok,fun _ _=>none,[],fun _=>[]⟩:=by
 refine⟨⟨fun i hi=>?_,by simp,by simp,.nil,by simp,by simp,by simp,by simp,by simp,by simp,fun _=> .inl rfl,by simp,by simp⟩,fun i hi=> .idle (hm i hi),?_,⟨Ss.start,.nil,Nat.zero_le _,fun i hi=>⟨(hm i hi).symm,fun e=>absurd (hm i hi) e,fun e=>absurd (show 3≤(ms i).ph from e) (by have:=hm i hi;omega),fun c=>?_,rfl⟩,fun c C e=>(nomatch e),fun i hi e=>absurd (hm i hi) e,fun x hx=>(nomatch hx),fun x hx=>(nomatch hx),fun x hx=>(nomatch hx),fun x hx=>(nomatch hx)⟩⟩
 ·have:=hm i hi;exact⟨by simp only;omega,fun e=>absurd this e,fun e=>by simp only at e;omega,fun e=>by simp only at e;omega,fun e=>absurd this e,fun e=>by simp only at e;omega,fun e=>by simp only at e;omega,fun e=>by simp only at e;omega⟩
 ·simp [Cp.ym,fq,md,hm]
 ·show false=true↔_;simp [Mc.has,hm i hi]
end Go.Cp
