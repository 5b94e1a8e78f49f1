/- The call machine's moves. -/
import Derived.Test.YtphemenngjkfbaaM33
open Decidable renaming not_not → agN
open Go.Proofs.Try renaming prog → agQ
open List renaming append → agw
namespace Go.RX.Cu
open Go.RX Go.Proofs Go.Cp Go.RX.Cs Go.RX.Ct
theorem leave{f:Nat}{args:List Value}{pre T:List HP}(h:au agQ f args pre fun rv hs=>rv= .tuple #[]∧∃y,hs=T++y):au agQ f args pre fun rv hs=>rv= .tuple #[]∧hs=T:=
 h.post fun _ _ ⟨h1,_,h2⟩=>⟨T,h2▸aB.sub (List.sublist_append_left _ _),h1,rfl⟩
abbrev fH(a d:Int):Nat:=(2*a+d).toNat
theorem Cq(b b1 i now:Nat)(m:MR)(o:List (Mg (List Int)))(e:List (Ev (List Int)))(r:List Rc)(hB:o.length≤900∧e.length≤900∧r.length≤900)(PB:0≤m.pa∧m.pa<2)(PC:0≤m.pd∧m.pd<2)(lG:m.st≠1)(hb:0≤m.aP∧0≤m.bF)(hm:Me i m)(why oc:Int)(hoc:0≤oc):
  au agQ 95 [.pointer (some ⟨b1,0,none⟩),.pointer (some ⟨b,0,none⟩),.int .u8 why,.int .u8 oc,.int .u64 (now:Int)] [aZ b i now o e r,cD b1 m,Mm.bJ m.dead 256]
   fun rv hs=>rv= .tuple #[]∧hs=[aZ b i now (o++[⟨5,bD m.id,i,fH m.pa m.pd,zK,why.toNat⟩]) (e++[Bg m oc]) (r++[Bh m oc]),cD b1 {m with st:=0},Mm.bJ m.dead 256]:=by
 refine leave ?_;refine I8 _ m.a m.d m.st m.out m.ac m.pa m.pd m.lO m.early m.aP m.bF m.since m.heard m.bO m.bA 0 0 0 0 0 why oc (now:Int) 0 0 0 0 0 0 0 0 0 0 0 0 0 0 0 0 0 m.dv m.id m.own m.off m.dM (fun _=>0) (fun _=>0) (fun _=>0) (fun _=>0) (fun _=>0) b b1 m.dead (Mm.bJ m.dead 256) (Mm.bJ m.dead 256) (Mm.bJ m.dead 256) (aZ b i now o e r) ?_;unfold Bd;refine⟨fun h=>absurd h lG,fun _=>fun b3=>⟨_,cA b i now o e r (by omega) m.pa m.pd 5 0 0 0 0 why m.id (fun _=>0) PB PC (by decide),?_⟩⟩;rintro x hs ⟨rfl,rfl⟩;refine⟨_,rfl,rfl,_,jD b b1 i now m _ e r (by omega) (by omega) oc hb hoc hm,?_⟩;rintro x hs ⟨rfl,rfl⟩;exact⟨_,rfl,rfl,rfl,_,rfl⟩
theorem Cr(b b1 i now:Nat)(m:MR)(o:List (Mg (List Int)))(e:List (Ev (List Int)))(r:List Rc)(hB:o.length≤900∧e.length≤900∧r.length≤900)(pa pd:Int)(PB:0≤pa∧pa<2)(PC:0≤pd∧pd<2)(hm:Me i m):
  au agQ 117 [.pointer (some ⟨b1,0,none⟩),.pointer (some ⟨b,0,none⟩),.agg #[.int .u8 pa,.int .u8 pd],.int .u64 (now:Int)] [aZ b i now o e r,cD b1 m,Mm.bJ m.dead 256]
   fun rv hs=>rv= .tuple #[]∧hs=[aZ b i now o (e++[⟨3,bD m.id,fH pa pd,zK,0⟩]) r,cD b1 {m with st:=3,since:=(now:Int),pa:=pa,pd:=pd},Mm.bJ m.dead 256]:=by
 refine leave ?_;refine I6 _ m.a m.d m.st m.out m.ac m.pa m.pd m.lO m.early m.aP m.bF m.since m.heard m.bO m.bA 0 0 0 0 0 pa pd (now:Int) 0 0 0 0 0 0 0 0 0 0 0 0 0 0 0 0 0 m.dv m.id m.own m.off m.dM (fun _=>0) (fun _=>0) (fun _=>0) (fun _=>0) (fun _=>0) b b1 m.dead (Mm.bJ m.dead 256) (Mm.bJ m.dead 256) (Mm.bJ m.dead 256) (aZ b i now o e r) ?_;unfold Bb;refine fun b3=>⟨_,lS b b1 i now {m with st:=3,since:=(now:Int),pa:=pa,pd:=pd} o e r (by omega) 3 0 0 0 0 0 pa pd 0 (fun _=>0) (fun _=>0) PB PC (by decide) (by decide) ⟨hm.a,hm.d,hm.ac⟩,?_⟩
 rintro x hs ⟨rfl,rfl⟩;exact⟨_,rfl,rfl,rfl,_,rfl⟩
theorem yu(b b1 i now:Nat)(m:MR)(o:List (Mg (List Int)))(e:List (Ev (List Int)))(r:List Rc)(hB:o.length≤900∧e.length≤900∧r.length≤900)(ha:m.a=((i/2:Nat):Int))(hd:m.d=((i%2:Nat):Int))(bM bH bL bX bZ bS:Int)(VQ:bH=gQ i)(A5 A6:Nat→Int):
  au agQ 115 [.pointer (some ⟨b1,0,none⟩),.pointer (some ⟨b,0,none⟩),.agg (.int .u8 bM::(agw (ak .u8 16 A5) (.int .u8 bH::(.int .u8 bL::(.int .u8 bX::(agw (ak .u8 32 A6) ([.int .u32 bZ,.slice none 0 0,.int .u8 bS]))))))).toArray,.int .u64 (now:Int)] [aZ b i now o e r,cD b1 m,Mm.bJ m.dead 256]
   fun rv hs=>rv= .tuple #[]∧hs=[aZ b i now o (e++[⟨2,bD A5,0,zK,0⟩]) r,cD b1 {m with st:=2,id:=A5,out:=0,ac:=bH,pa:=bH,pd:=bL,own:=fun _=>0,off:=A6,dM:=fun _=>0,aP:=(now:Int),bF:=0,since:=(now:Int),heard:=0,bO:=0,bA:=0},Mm.bJ m.dead 256]:=by
 refine leave ?_;refine Pr _ m.a m.d m.st m.out m.ac m.pa m.pd m.lO m.early m.aP m.bF m.since m.heard m.bO m.bA 0 0 0 0 0 0 0 (now:Int) bM bH bL bX bZ bS 0 0 0 0 0 0 0 0 0 0 0 m.dv m.id m.own m.off m.dM A5 A6 (fun _=>0) (fun _=>0) (fun _=>0) b b1 m.dead (Mm.bJ m.dead 256) (Mm.bJ m.dead 256) (Mm.bJ m.dead 256) (aZ b i now o e r) ?_;unfold GR;refine fun b3 b4=>⟨_,lS b b1 i now {m with st:=2,id:=A5,out:=0,ac:=bH,pa:=bH,pd:=bL,own:=fun _=>0,off:=A6,dM:=fun _=>0,aP:=(now:Int),bF:=0,since:=(now:Int),heard:=0,bO:=0,bA:=0} o e r (by omega) 2 0 0 0 0 0 0 0 0 (fun _=>0) (fun _=>0) (by decide) (by decide) (by decide) (by decide) ⟨ha,hd,VQ⟩,?_⟩
 rintro x hs ⟨rfl,rfl⟩;exact⟨_,rfl,rfl,rfl,_,rfl⟩
end Go.RX.Cu

namespace Go.RX.Cv
open Go.RX Go.Proofs Go.Cp Go.RX.Cs Go.RX.Ct Go.RX.Cu
abbrev YP(b3:Nat)(v0:V1)(ac cR:Int)(A9:Nat→Int):List HP:=[ao b3 true [.int .u8 ac,v0.v,.int .i64 cR],aC true 5 1 v0.v 2 (aT 2 [ax .u8 1 A9])]
theorem oH(b b1 i now:Nat)(m:MR)(o:List (Mg (List Int)))(e:List (Ev (List Int)))(r:List Rc)(hB:o.length≤900∧e.length≤900∧r.length≤900)(b3 b4:Nat)(v0:V1)(ac cR:Int)(A9:Nat→Int)(E:HP)(VQ:0≤ac∧ac<2)
  (h1:m.st=1) (h2:m.lO=(b3:Int)+1) (h3:m.early=(b4:Int)+1) (hb:0≤m.aP∧0≤m.bF) (hm:Me i m) (why oc:Int) (hoc:0≤oc):
  au agQ 95 [.pointer (some ⟨b1,0,none⟩),.pointer (some ⟨b,0,none⟩),.int .u8 why,.int .u8 oc,.int .u64 (now:Int)] ([aZ b i now o e r,cD b1 m,Mm.bJ m.dead 256,E]++YP b3 v0 ac cR A9)
   fun rv hs=>rv= .tuple #[]∧∃(o':List (Mg (List Int))) (sub:List Nat),o'=o++Cp.to zK 5 (bD m.id) i sub why.toNat∧(∀j∈sub,j=fH ac 0∨j=fH ac 1)∧sub.length≤2∧hs=[aZ b i now o' (e++[Bg m oc]) (r++[Bh m oc]),cD b1 {m with st:=0},Mm.bJ m.dead 256]:=by
 refine au.post (p:=fun rv hs=>rv= .tuple #[]∧∃(o':List (Mg (List Int))) (sub:List Nat) (y:List HP),o'=o++Cp.to zK 5 (bD m.id) i sub why.toNat∧(∀j∈sub,j=fH ac 0∨j=fH ac 1)∧sub.length≤2∧hs=[aZ b i now o' (e++[Bg m oc]) (r++[Bh m oc]),cD b1 {m with st:=0},Mm.bJ m.dead 256]++y) ?_ fun rv hs ⟨k1,o',sub,y,k2,k3,k4,k5⟩=>⟨_,k5▸aB.sub (List.sublist_append_left _ _),k1,o',sub,k2,k3,k4,rfl⟩
 obtain⟨a,d,dv,dead,st,id,out,my,pa,pd,own,off,dM,lO,early,aP,bF,since,heard,bO,bA⟩:=m;simp only at h1 h2 h3 hb;have hm:=hm;subst h1 h2 h3;have PD:=fun(o':List (Mg (List Int))) (_:o'.length≤1000)=>jD b b1 i now ⟨a,d,dv,dead,1,id,out,my,pa,pd,own,off,dM,(b3:Int)+1,(b4:Int)+1,aP,bF,since,heard,bO,bA⟩ o' e r (by omega) (by omega) oc hb hoc ⟨hm.a,hm.d,hm.ac⟩
 simp only [cD,fK]at PD ⊢;refine I5 _ a d 0 out my pa pd 0 0 aP bF since heard bO bA 0 0 0 0 0 why oc (now:Int) 0 0 0 0 0 0 0 ac cR 0 0 0 0 0 0 0 0 dv id own off dM (fun _=>0) (fun _=>0) (fun _=>0) (fun _=>0) A9 v0 b b1 dead b3 b4 (Mm.bJ dead 256) (Mm.bJ dead 256) E (aZ b i now o e r) ?_;unfold Ba;intro b5 b6 b7 b8 b9 jI _ _ _;refine⟨fun _=>fun qC=>⟨_,cA b i now o e r (by first | omega | (simp;omega)) ac 0 5 0 0 0 0 why id (fun _=>0) VQ (by decide) (by decide),?_⟩,fun _=>⟨fun _=>fun qC=>⟨_,cA b i now o e r (by first | omega | (simp;omega)) ac 1 5 0 0 0 0 why id (fun _=>0) VQ (by decide) (by decide),?_⟩,fun _=>?_⟩⟩
 ·rintro x hs ⟨rfl,rfl⟩;refine⟨_,rfl,rfl,fun _=>fun zo=>⟨_,cA b i now _ e r (by first | omega | (simp;omega)) ac 1 5 0 0 0 0 why id (fun _=>0) VQ (by decide) (by decide),?_⟩,fun _=>?_⟩
  ·rintro x hs ⟨rfl,rfl⟩;refine⟨_,rfl,rfl,?_⟩;refine⟨_,PD ((o++[⟨5,bD id,i,fH ac 0,zK,why.toNat⟩])++[⟨5,bD id,i,fH ac 1,zK,why.toNat⟩]) (by first | omega | (simp;omega)),?_⟩;rintro x hs ⟨rfl,rfl⟩;exact⟨_,rfl,rfl,rfl,_,[fH ac 0,fH ac 1],_,(by simp [Cp.to]),(by simp),(by simp),rfl⟩
  ·refine⟨_,PD (o++[⟨5,bD id,i,fH ac 0,zK,why.toNat⟩]) (by first | omega | (simp;omega)),?_⟩;rintro x hs ⟨rfl,rfl⟩;exact⟨_,rfl,rfl,rfl,_,[fH ac 0],_,(by simp [Cp.to]),(by simp),(by simp),rfl⟩
 ·rintro x hs ⟨rfl,rfl⟩;refine⟨_,rfl,rfl,?_⟩;refine⟨_,PD (o++[⟨5,bD id,i,fH ac 1,zK,why.toNat⟩]) (by first | omega | (simp;omega)),?_⟩;rintro x hs ⟨rfl,rfl⟩;exact⟨_,rfl,rfl,rfl,_,[fH ac 1],_,(by simp [Cp.to]),(by simp),(by simp),rfl⟩
 ·refine⟨_,PD o (by omega),?_⟩;rintro x hs ⟨rfl,rfl⟩;exact⟨_,rfl,rfl,rfl,_,[],_,(by simp [Cp.to]),(by simp),(by simp),rfl⟩
end Go.RX.Cv

namespace Go.RX.Cw
open Go.RX Go.Proofs
noncomputable def cx:Ctx:={T:=TT,FT:=FT,calls:=Cu.calls,dc:=GC}
open Go.RX Go.Proofs
set_option maxRecDepth 100000
def DN(P:Program)(aq:Value→List HP→Prop)(x0 x1 x2 x3 x4 x5 x6 x7 x8 x9 aO aQ aM aR aY _ _ _ _ _ aX bz bx bM bH bL bX bZ bS:Int)(A0 A1 A2 A3 A4 A5 A6 _ _ _:Nat→Int)(b0 b1 b2:Nat)(p0 _ _ p3:HP):Prop:=
 ∀b3 b4:Nat,aK (¬((¬((bH=aX)∧(bL=bz)))∨(¬(bX=x0)))) (
 Cl P 82 [.pp b2,.sg 16 A5] [p0] fun x hs l=> ∃q0:Bool,x= .bool q0∧hs=l∧
 aK (q0=true) (
 aq (.tuple #[]) [p3,Mw b1 x0 x1 A0 b2 x2 A1 (!(x3==0)) x4 x5 x6 A2 A3 A4 (aD x7) (aD x8) x9 aO aQ aM aR aY,p0,Dw b3 aX bz,ao b4 true (Sg bM A5 bH bL bX A6 bZ bS)]) (
 aK (x2=0) (
 Cl P 115 [.pp b1,.pp b0,.agg (Sg bM A5 bH bL bX A6 bZ bS).toArray,.int .u64 bx] [p3,Mw b1 x0 x1 A0 b2 x2 A1 (!(x3==0)) x4 x5 x6 A2 A3 A4 (aD x7) (aD x8) x9 aO aQ aM aR aY,p0] fun x hs _=> ∃(fU cE cR:Int) (bU cz:Nat→Int),∃p4:HP,x= .tuple #[]∧hs=[p4,Mw b1 x0 x1 A0 b2 2 bU false fU fU cE (fun _=>0) cz (fun _=>0) (aD x7) (aD x8) cR 0 cR 0 0 0,p0]∧
 aq (.tuple #[]) [p4,Mw b1 x0 x1 A0 b2 2 bU false fU fU cE (fun _=>0) cz (fun _=>0) (aD x7) (aD x8) cR 0 cR 0 0 0,p0,Dw b3 aX bz,ao b4 true (Sg bM A5 bH bL bX A6 bZ bS)]) (
 aK (∀j,j<16→A1 j=A5 j) (
 aq (.tuple #[]) [p3,Mw b1 x0 x1 A0 b2 x2 A1 (!(x3==0)) x4 x5 x6 A2 A3 A4 (aD x7) (aD x8) x9 aO aQ aM aR aY,p0,Dw b3 aX bz,ao b4 true (Sg bM A5 bH bL bX A6 bZ bS)]) (
 aK ((x2=1)∧(x4=aX)) (
 Cl P 116 [.slice (some ⟨b4,1,none⟩) 16 16,.slice (some ⟨b1,12,none⟩) 16 16] [ao b4 true (Sg bM A5 bH bL bX A6 bZ bS),Mw b1 x0 x1 A0 b2 x2 A1 (!(x3==0)) x4 x5 x6 A2 A3 A4 (aD x7) (aD x8) x9 aO aQ aM aR aY] fun x hs l=> ∃fU:Int,x= .int .i64 fU∧hs=l∧
 aK (fU<0) (
 ∀b5:Nat,Cl P 95 [.pp b1,.pp b0,.int .u8 4,.int .u8 7,.int .u64 bx] [p3,Mw b1 x0 x1 A0 b2 x2 A1 (!(x3==0)) x4 x5 x6 A2 A3 A4 (aD x7) (aD x8) x9 aO aQ aM aR aY,p0] fun x hs _=> ∃p4:HP,x= .tuple #[]∧hs=[p4,Mw b1 x0 x1 A0 b2 0 A1 (!(x3==0)) x4 x5 x6 A2 A3 A4 (aD x7) (aD x8) x9 aO aQ aM aR aY,p0]∧
 Cl P 115 [.pp b1,.pp b0,.agg (Sg bM A5 bH bL bX A6 bZ bS).toArray,.int .u64 bx] [p4,Mw b1 x0 x1 A0 b2 0 A1 (!(x3==0)) x4 x5 x6 A2 A3 A4 (aD x7) (aD x8) x9 aO aQ aM aR aY,p0] fun x hs _=> ∃(cE cR jY:Int) (bU cz:Nat→Int),∃p5:HP,x= .tuple #[]∧hs=[p5,Mw b1 x0 x1 A0 b2 2 bU false cE cE cR (fun _=>0) cz (fun _=>0) (aD x7) (aD x8) jY 0 jY 0 0 0,p0]∧
 Cl P 97 [.pp b1,.pp b0,.sg 32 A2,.int .u64 bx] [p5,Mw b1 x0 x1 A0 b2 2 bU false cE cE cR (fun _=>0) cz (fun _=>0) (aD x7) (aD x8) jY 0 jY 0 0 0,p0] fun x hs _=> ∃(gq:Int) (dT dU:Nat→Int),∃p6:HP,x= .tuple #[]∧hs=[p6,Mw b1 x0 x1 A0 b2 3 bU false cE cE cR dT cz dU (aD x7) (aD x8) jY 0 gq 0 0 0,p0]∧
 aq (.tuple #[]) [p6,Mw b1 x0 x1 A0 b2 3 bU false cE cE cR dT cz dU (aD x7) (aD x8) jY 0 gq 0 0 0,p0,Dw b3 aX bz,ao b4 true (Sg bM A5 bH bL bX A6 bZ bS),ao b5 true (agw (ak .u8 32 A2) ([]))]) (
 aq (.tuple #[]) [p3,Mw b1 x0 x1 A0 b2 x2 A1 (!(x3==0)) x4 x5 x6 A2 A3 A4 (aD x7) (aD x8) x9 aO aQ aM aR aY,p0,Dw b3 aX bz,ao b4 true (Sg bM A5 bH bL bX A6 bZ bS)])) (
 Cl P 96 [.pp b0,.dv aX bz,.agg (Sg 4 A5 0 0 0 (fun _=>0) 0 0).toArray] [p3] fun x hs _=> ∃p4:HP,x= .tuple #[]∧hs=[p4]∧
 aq (.tuple #[]) [p4,Mw b1 x0 x1 A0 b2 x2 A1 (!(x3==0)) x4 x5 x6 A2 A3 A4 (aD x7) (aD x8) x9 aO aQ aM aR aY,p0,Dw b3 aX bz,ao b4 true (Sg bM A5 bH bL bX A6 bZ bS)]))))) (
 aq (.tuple #[]) [p3,Mw b1 x0 x1 A0 b2 x2 A1 (!(x3==0)) x4 x5 x6 A2 A3 A4 (aD x7) (aD x8) x9 aO aQ aM aR aY,p0,Dw b3 aX bz,ao b4 true (Sg bM A5 bH bL bX A6 bZ bS)])
theorem MW(aq:Value→List HP→Prop)(x0 x1 x2 x3 x4 x5 x6 x7 x8 x9 aO aQ aM aR aY bV cN cY cQ cP aX bz bx bM bH bL bX bZ bS:Int)(A0 A1 A2 A3 A4 A5 A6 A7 A8 A9:Nat→Int)(b0 b1 b2:Nat)(p0 p1 p2 p3:HP)(h:DN agQ aq x0 x1 x2 x3 x4 x5 x6 x7 x8 x9 aO aQ aM aR aY bV cN cY cQ cP aX bz bx bM bH bL bX bZ bS A0 A1 A2 A3 A4 A5 A6 A7 A8 A9 b0 b1 b2 p0 p1 p2 p3):au agQ 87 [.pp b1,.pp b0,.dv aX bz,.agg (Sg bM A5 bH bL bX A6 bZ bS).toArray,.int .u64 bx] [p3,Mw b1 x0 x1 A0 b2 x2 A1 (!(x3==0)) x4 x5 x6 A2 A3 A4 (aD x7) (aD x8) x9 aO aQ aM aR aY,p0] aq:=
 um (C:=cx) [.ptr 1 0,.ptr 0 0,.agg [.int .u8 (.var 20),.int .u8 (.var 21)],.agg [.int .u8 (.var 23),.a_ .u8 16 (.aw 5),.int .u8 (.var 24),.int .u8 (.var 25),.int .u8 (.var 26),.a_ .u8 32 (.aw 6),.int .u32 (.var 27),.bY,.int .u8 (.var 28)],.int .u64 (.var 22)] [.abs 3,.row 1 true [.int .u8 (.var 0),.int .u8 (.var 1),.a_ .u8 8 (.aw 0),.ptr 2 0,.int .u8 (.var 2),.a_ .u8 16 (.aw 1),.bool (BE.nz (.var 3)),.int .u8 (.var 4),.int .u8 (.var 5),.int .u8 (.var 6),.a_ .u8 32 (.aw 2),.a_ .u8 32 (.aw 3),.a_ .u8 32 (.aw 4),.dh (.var 7),.dh (.var 8),.int .u64 (.var 9),.int .u64 (.var 10),.int .u64 (.var 11),.int .u64 (.var 12),.int .u64 (.var 13),.int .u32 (.var 14)],.abs 0] ⟨3,0,29,10,0,4,0⟩ ⟨[x0,x1,x2,x3,x4,x5,x6,x7,x8,x9,aO,aQ,aM,aR,aY,bV,cN,cY,cQ,cP,aX,bz,bx,bM,bH,bL,bX,bZ,bS],[A0,A1,A2,A3,A4,A5,A6,A7,A8,A9],[],[b0,b1,b2],[],[],[p0,p1,p2,p3],[]⟩ Try.func87 (by kernel_rfl) h
def Bi(P:Program)(aq:Value→List HP→Prop)(x0 x1 x2 x3 x4 x5 x6 x7 x8 x9 aO aQ aM aR aY _ _ _ _ _ aX bz _ bM bH bL bX bZ bS:Int)(A0 A1 A2 A3 A4 A5 A6 _ _ _:Nat→Int)(b0 b1 b2:Nat)(p0 _ _ p3:HP):Prop:=
 ∀b3 b4:Nat,aK ((x2=0)∨(¬(∀j,j<16→A1 j=A5 j))) (
 Cl P 96 [.pp b0,.dv aX bz,.agg (Sg 5 A5 0 0 0 (fun _=>0) 0 1).toArray] [p3] fun x hs _=> ∃p4:HP,x= .tuple #[]∧hs=[p4]∧
 aq (.tuple #[]) [p4,Mw b1 x0 x1 A0 b2 x2 A1 (!(x3==0)) x4 x5 x6 A2 A3 A4 (aD x7) (aD x8) x9 aO aQ aM aR aY,p0,Dw b3 aX bz,ao b4 true (Sg bM A5 bH bL bX A6 bZ bS)]) (
 aK (x2=1) (
 ∀b5:Nat,aK (x7=0) (
 aq (.tuple #[]) [p3,Mw b1 x0 x1 A0 b2 x2 A1 (!(x3==0)) x4 x5 x6 A2 A3 A4 (aD x7) (aD x8) x9 aO aQ aM aR aY,p0,Dw b3 aX bz,ao b4 true (Sg bM A5 bH bL bX A6 bZ bS),Dw b5 aX bz]) (
 ∀_:Nat,aE (x7≠0) (
 False))) (
 aK ((x3≠0)∧(¬((aX=x5)∧(bz=x6)))) (
 Cl P 96 [.pp b0,.dv aX bz,.agg (Sg 6 A1 0 0 0 (fun _=>0) 0 0).toArray] [p3] fun x hs _=> ∃p4:HP,x= .tuple #[]∧hs=[p4]∧
 aq (.tuple #[]) [p4,Mw b1 x0 x1 A0 b2 x2 A1 (!(x3==0)) x4 x5 x6 A2 A3 A4 (aD x7) (aD x8) x9 aO aQ aM aR aY,p0,Dw b3 aX bz,ao b4 true (Sg bM A5 bH bL bX A6 bZ bS)]) (
 aq (.tuple #[]) [p3,Mw b1 x0 x1 A0 b2 x2 A1 (!(x3==0)) x4 x5 x6 A2 A3 A4 (aD x7) (aD x8) x9 aO aQ aM aR aY,p0,Dw b3 aX bz,ao b4 true (Sg bM A5 bH bL bX A6 bZ bS)])))
theorem Jc(aq:Value→List HP→Prop)(x0 x1 x2 x3 x4 x5 x6 x7 x8 x9 aO aQ aM aR aY bV cN cY cQ cP aX bz bx bM bH bL bX bZ bS:Int)(A0 A1 A2 A3 A4 A5 A6 A7 A8 A9:Nat→Int)(b0 b1 b2:Nat)(p0 p1 p2 p3:HP)(h:Bi agQ aq x0 x1 x2 x3 x4 x5 x6 x7 x8 x9 aO aQ aM aR aY bV cN cY cQ cP aX bz bx bM bH bL bX bZ bS A0 A1 A2 A3 A4 A5 A6 A7 A8 A9 b0 b1 b2 p0 p1 p2 p3):au agQ 88 [.pp b1,.pp b0,.dv aX bz,.agg (Sg bM A5 bH bL bX A6 bZ bS).toArray,.int .u64 bx] [p3,Mw b1 x0 x1 A0 b2 x2 A1 (!(x3==0)) x4 x5 x6 A2 A3 A4 (aD x7) (aD x8) x9 aO aQ aM aR aY,p0] aq:=
 um (C:=cx) [.ptr 1 0,.ptr 0 0,.agg [.int .u8 (.var 20),.int .u8 (.var 21)],.agg [.int .u8 (.var 23),.a_ .u8 16 (.aw 5),.int .u8 (.var 24),.int .u8 (.var 25),.int .u8 (.var 26),.a_ .u8 32 (.aw 6),.int .u32 (.var 27),.bY,.int .u8 (.var 28)],.int .u64 (.var 22)] [.abs 3,.row 1 true [.int .u8 (.var 0),.int .u8 (.var 1),.a_ .u8 8 (.aw 0),.ptr 2 0,.int .u8 (.var 2),.a_ .u8 16 (.aw 1),.bool (BE.nz (.var 3)),.int .u8 (.var 4),.int .u8 (.var 5),.int .u8 (.var 6),.a_ .u8 32 (.aw 2),.a_ .u8 32 (.aw 3),.a_ .u8 32 (.aw 4),.dh (.var 7),.dh (.var 8),.int .u64 (.var 9),.int .u64 (.var 10),.int .u64 (.var 11),.int .u64 (.var 12),.int .u64 (.var 13),.int .u32 (.var 14)],.abs 0] ⟨3,0,29,10,0,4,0⟩ ⟨[x0,x1,x2,x3,x4,x5,x6,x7,x8,x9,aO,aQ,aM,aR,aY,bV,cN,cY,cQ,cP,aX,bz,bx,bM,bH,bL,bX,bZ,bS],[A0,A1,A2,A3,A4,A5,A6,A7,A8,A9],[],[b0,b1,b2],[],[],[p0,p1,p2,p3],[]⟩ Try.func88 (by kernel_rfl) h
def tn(P:Program)(aq:Value→List HP→Prop)(x0 x1 x2 x3 x4 x5 x6 x7 x8 x9 aO aQ aM aR aY _ _ _ _ _ aX bz bx bM bH bL bX bZ bS:Int)(A0 A1 A2 A3 A4 A5 A6 _ _ _:Nat→Int)(b0 b1 b2:Nat)(p0 _ _ p3:HP):Prop:=
 ∀b3 b4:Nat,aK ((x2=0)∨(¬(∀j,j<16→A1 j=A5 j))) (
 Cl P 96 [.pp b0,.dv aX bz,.agg (Sg 5 A5 0 0 0 (fun _=>0) 0 1).toArray] [p3] fun x hs _=> ∃p4:HP,x= .tuple #[]∧hs=[p4]∧
 aq (.tuple #[]) [p4,Mw b1 x0 x1 A0 b2 x2 A1 (!(x3==0)) x4 x5 x6 A2 A3 A4 (aD x7) (aD x8) x9 aO aQ aM aR aY,p0,Dw b3 aX bz,ao b4 true (Sg bM A5 bH bL bX A6 bZ bS)]) (
 aK (x2=1) (
 Cl P 120 [(aD x8),.dv aX bz] [] fun x hs _=>x= .tuple #[]∧hs=[]∧
 aq (.tuple #[]) [p3,Mw b1 x0 x1 A0 b2 x2 A1 (!(x3==0)) x4 x5 x6 A2 A3 A4 (aD x7) (aD x8) x9 aO aQ aM aR aY,p0,Dw b3 aX bz,ao b4 true (Sg bM A5 bH bL bX A6 bZ bS)]) (
 aK (¬((aX=x5)∧(bz=x6))) (
 aq (.tuple #[]) [p3,Mw b1 x0 x1 A0 b2 x2 A1 (!(x3==0)) x4 x5 x6 A2 A3 A4 (aD x7) (aD x8) x9 aO aQ aM aR aY,p0,Dw b3 aX bz,ao b4 true (Sg bM A5 bH bL bX A6 bZ bS)]) (
 aK (x2=3) (
 Cl P 119 [.pp b1,.pp b0,.int .u64 bx] [p3,Mw b1 x0 x1 A0 b2 x2 A1 (!(x3==0)) x4 x5 x6 A2 A3 A4 (aD x7) (aD x8) x9 aO aQ aM aR aY,p0] fun x hs _=> ∃fU:Int,∃p4:HP,x= .tuple #[]∧hs=[p4,Mw b1 x0 x1 A0 b2 4 A1 (!(x3==0)) x4 x5 x6 A2 A3 A4 (aD x7) (aD x8) x9 fU fU fU fU 0,p0]∧
 aq (.tuple #[]) [p4,Mw b1 x0 x1 A0 b2 4 A1 (!(x3==0)) x4 x5 x6 A2 A3 A4 (aD x7) (aD x8) x9 fU fU fU fU 0,p0,Dw b3 aX bz,ao b4 true (Sg bM A5 bH bL bX A6 bZ bS)]) (
 aK (x2=4) (
 aq (.tuple #[]) [p3,Mw b1 x0 x1 A0 b2 x2 A1 (!(x3==0)) x4 x5 x6 A2 A3 A4 (aD x7) (aD x8) x9 aO aQ bx aR aY,p0,Dw b3 aX bz,ao b4 true (Sg bM A5 bH bL bX A6 bZ bS)]) (
 aq (.tuple #[]) [p3,Mw b1 x0 x1 A0 b2 x2 A1 (!(x3==0)) x4 x5 x6 A2 A3 A4 (aD x7) (aD x8) x9 aO aQ aM aR aY,p0,Dw b3 aX bz,ao b4 true (Sg bM A5 bH bL bX A6 bZ bS)])))))
theorem CA(aq:Value→List HP→Prop)(x0 x1 x2 x3 x4 x5 x6 x7 x8 x9 aO aQ aM aR aY bV cN cY cQ cP aX bz bx bM bH bL bX bZ bS:Int)(A0 A1 A2 A3 A4 A5 A6 A7 A8 A9:Nat→Int)(b0 b1 b2:Nat)(p0 p1 p2 p3:HP)(h:tn agQ aq x0 x1 x2 x3 x4 x5 x6 x7 x8 x9 aO aQ aM aR aY bV cN cY cQ cP aX bz bx bM bH bL bX bZ bS A0 A1 A2 A3 A4 A5 A6 A7 A8 A9 b0 b1 b2 p0 p1 p2 p3):au agQ 89 [.pp b1,.pp b0,.dv aX bz,.agg (Sg bM A5 bH bL bX A6 bZ bS).toArray,.int .u64 bx] [p3,Mw b1 x0 x1 A0 b2 x2 A1 (!(x3==0)) x4 x5 x6 A2 A3 A4 (aD x7) (aD x8) x9 aO aQ aM aR aY,p0] aq:=
 um (C:=cx) [.ptr 1 0,.ptr 0 0,.agg [.int .u8 (.var 20),.int .u8 (.var 21)],.agg [.int .u8 (.var 23),.a_ .u8 16 (.aw 5),.int .u8 (.var 24),.int .u8 (.var 25),.int .u8 (.var 26),.a_ .u8 32 (.aw 6),.int .u32 (.var 27),.bY,.int .u8 (.var 28)],.int .u64 (.var 22)] [.abs 3,.row 1 true [.int .u8 (.var 0),.int .u8 (.var 1),.a_ .u8 8 (.aw 0),.ptr 2 0,.int .u8 (.var 2),.a_ .u8 16 (.aw 1),.bool (BE.nz (.var 3)),.int .u8 (.var 4),.int .u8 (.var 5),.int .u8 (.var 6),.a_ .u8 32 (.aw 2),.a_ .u8 32 (.aw 3),.a_ .u8 32 (.aw 4),.dh (.var 7),.dh (.var 8),.int .u64 (.var 9),.int .u64 (.var 10),.int .u64 (.var 11),.int .u64 (.var 12),.int .u64 (.var 13),.int .u32 (.var 14)],.abs 0] ⟨3,0,29,10,0,4,0⟩ ⟨[x0,x1,x2,x3,x4,x5,x6,x7,x8,x9,aO,aQ,aM,aR,aY,bV,cN,cY,cQ,cP,aX,bz,bx,bM,bH,bL,bX,bZ,bS],[A0,A1,A2,A3,A4,A5,A6,A7,A8,A9],[],[b0,b1,b2],[],[],[p0,p1,p2,p3],[]⟩ Try.func89 (by kernel_rfl) h
def G1(P:Program)(aq:Value→List HP→Prop)(x0 x1 x2 x3 x4 x5 x6 x7 x8 x9 aO aQ aM aR aY _ _ _ _ _ aX bz bx bM bH bL bX bZ bS:Int)(A0 A1 A2 A3 A4 A5 A6 _ _ _:Nat→Int)(b0 b1 b2:Nat)(p0 _ _ p3:HP):Prop:=
 ∀b3 b4:Nat,aK ((x2=0)∨(¬(∀j,j<16→A1 j=A5 j))) (
 Cl P 92 [.pp b2,.sg 16 A5] [p0] fun x hs l=>x= .tuple #[]∧hs=l∧
 aq (.tuple #[]) [p3,Mw b1 x0 x1 A0 b2 x2 A1 (!(x3==0)) x4 x5 x6 A2 A3 A4 (aD x7) (aD x8) x9 aO aQ aM aR aY,p0,Dw b3 aX bz,ao b4 true (Sg bM A5 bH bL bX A6 bZ bS)]) (
 aK (x2=1) (
 aK (bS=2) (
 ∀b5 b6:Nat,aK (x7=0) (
 aq (.tuple #[]) [p3,Mw b1 x0 x1 A0 b2 x2 A1 (!(x3==0)) x4 x5 x6 A2 A3 A4 (aD x7) (aD x8) x9 aO aQ aM aR aY,p0,Dw b3 aX bz,ao b4 true (Sg bM A5 bH bL bX A6 bZ bS),Dw b5 aX bz,Dw b6 aX bz]) (
 ∀_:Nat,aE (x7≠0) (
 False))) (
 ∀b5 b6:Nat,aK (x7=0) (
 aq (.tuple #[]) [p3,Mw b1 x0 x1 A0 b2 x2 A1 (!(x3==0)) x4 x5 x6 A2 A3 A4 (aD x7) (aD x8) x9 aO aQ aM aR aY,p0,Dw b3 aX bz,ao b4 true (Sg bM A5 bH bL bX A6 bZ bS),Dw b5 aX bz,Dw b6 aX bz]) (
 ∀_:Nat,aE (x7≠0) (
 False)))) (
 aK (¬((aX=x5)∧(bz=x6))) (
 aq (.tuple #[]) [p3,Mw b1 x0 x1 A0 b2 x2 A1 (!(x3==0)) x4 x5 x6 A2 A3 A4 (aD x7) (aD x8) x9 aO aQ aM aR aY,p0,Dw b3 aX bz,ao b4 true (Sg bM A5 bH bL bX A6 bZ bS)]) (
 aK ((x2=2)∧(bS=2)) (
 Cl P 93 [.pp b1,.pp b0,.int .u8 4,.int .u64 bx] [p3,Mw b1 x0 x1 A0 b2 x2 A1 (!(x3==0)) x4 x5 x6 A2 A3 A4 (aD x7) (aD x8) x9 aO aQ aM aR aY,p0] fun x hs _=> ∃p4:HP,x= .tuple #[]∧hs=[p4,Mw b1 x0 x1 A0 b2 0 A1 (!(x3==0)) x4 x5 x6 A2 A3 A4 (aD x7) (aD x8) x9 aO aQ aM aR aY,p0]∧
 aq (.tuple #[]) [p4,Mw b1 x0 x1 A0 b2 0 A1 (!(x3==0)) x4 x5 x6 A2 A3 A4 (aD x7) (aD x8) x9 aO aQ aM aR aY,p0,Dw b3 aX bz,ao b4 true (Sg bM A5 bH bL bX A6 bZ bS)]) (
 aK (x2=2) (
 Cl P 93 [.pp b1,.pp b0,.int .u8 3,.int .u64 bx] [p3,Mw b1 x0 x1 A0 b2 x2 A1 (!(x3==0)) x4 x5 x6 A2 A3 A4 (aD x7) (aD x8) x9 aO aQ aM aR aY,p0] fun x hs _=> ∃p4:HP,x= .tuple #[]∧hs=[p4,Mw b1 x0 x1 A0 b2 0 A1 (!(x3==0)) x4 x5 x6 A2 A3 A4 (aD x7) (aD x8) x9 aO aQ aM aR aY,p0]∧
 aq (.tuple #[]) [p4,Mw b1 x0 x1 A0 b2 0 A1 (!(x3==0)) x4 x5 x6 A2 A3 A4 (aD x7) (aD x8) x9 aO aQ aM aR aY,p0,Dw b3 aX bz,ao b4 true (Sg bM A5 bH bL bX A6 bZ bS)]) (
 aK (x2=3) (
 Cl P 93 [.pp b1,.pp b0,.int .u8 6,.int .u64 bx] [p3,Mw b1 x0 x1 A0 b2 x2 A1 (!(x3==0)) x4 x5 x6 A2 A3 A4 (aD x7) (aD x8) x9 aO aQ aM aR aY,p0] fun x hs _=> ∃p4:HP,x= .tuple #[]∧hs=[p4,Mw b1 x0 x1 A0 b2 0 A1 (!(x3==0)) x4 x5 x6 A2 A3 A4 (aD x7) (aD x8) x9 aO aQ aM aR aY,p0]∧
 aq (.tuple #[]) [p4,Mw b1 x0 x1 A0 b2 0 A1 (!(x3==0)) x4 x5 x6 A2 A3 A4 (aD x7) (aD x8) x9 aO aQ aM aR aY,p0,Dw b3 aX bz,ao b4 true (Sg bM A5 bH bL bX A6 bZ bS)]) (
 Cl P 93 [.pp b1,.pp b0,.int .u8 1,.int .u64 bx] [p3,Mw b1 x0 x1 A0 b2 x2 A1 (!(x3==0)) x4 x5 x6 A2 A3 A4 (aD x7) (aD x8) x9 aO aQ aM aR aY,p0] fun x hs _=> ∃p4:HP,x= .tuple #[]∧hs=[p4,Mw b1 x0 x1 A0 b2 0 A1 (!(x3==0)) x4 x5 x6 A2 A3 A4 (aD x7) (aD x8) x9 aO aQ aM aR aY,p0]∧
 aq (.tuple #[]) [p4,Mw b1 x0 x1 A0 b2 0 A1 (!(x3==0)) x4 x5 x6 A2 A3 A4 (aD x7) (aD x8) x9 aO aQ aM aR aY,p0,Dw b3 aX bz,ao b4 true (Sg bM A5 bH bL bX A6 bZ bS)]))))))
theorem PE(aq:Value→List HP→Prop)(x0 x1 x2 x3 x4 x5 x6 x7 x8 x9 aO aQ aM aR aY bV cN cY cQ cP aX bz bx bM bH bL bX bZ bS:Int)(A0 A1 A2 A3 A4 A5 A6 A7 A8 A9:Nat→Int)(b0 b1 b2:Nat)(p0 p1 p2 p3:HP)(h:G1 agQ aq x0 x1 x2 x3 x4 x5 x6 x7 x8 x9 aO aQ aM aR aY bV cN cY cQ cP aX bz bx bM bH bL bX bZ bS A0 A1 A2 A3 A4 A5 A6 A7 A8 A9 b0 b1 b2 p0 p1 p2 p3):au agQ 91 [.pp b1,.pp b0,.dv aX bz,.agg (Sg bM A5 bH bL bX A6 bZ bS).toArray,.int .u64 bx] [p3,Mw b1 x0 x1 A0 b2 x2 A1 (!(x3==0)) x4 x5 x6 A2 A3 A4 (aD x7) (aD x8) x9 aO aQ aM aR aY,p0] aq:=
 um (C:=cx) [.ptr 1 0,.ptr 0 0,.agg [.int .u8 (.var 20),.int .u8 (.var 21)],.agg [.int .u8 (.var 23),.a_ .u8 16 (.aw 5),.int .u8 (.var 24),.int .u8 (.var 25),.int .u8 (.var 26),.a_ .u8 32 (.aw 6),.int .u32 (.var 27),.bY,.int .u8 (.var 28)],.int .u64 (.var 22)] [.abs 3,.row 1 true [.int .u8 (.var 0),.int .u8 (.var 1),.a_ .u8 8 (.aw 0),.ptr 2 0,.int .u8 (.var 2),.a_ .u8 16 (.aw 1),.bool (BE.nz (.var 3)),.int .u8 (.var 4),.int .u8 (.var 5),.int .u8 (.var 6),.a_ .u8 32 (.aw 2),.a_ .u8 32 (.aw 3),.a_ .u8 32 (.aw 4),.dh (.var 7),.dh (.var 8),.int .u64 (.var 9),.int .u64 (.var 10),.int .u64 (.var 11),.int .u64 (.var 12),.int .u64 (.var 13),.int .u32 (.var 14)],.abs 0] ⟨3,0,29,10,0,4,0⟩ ⟨[x0,x1,x2,x3,x4,x5,x6,x7,x8,x9,aO,aQ,aM,aR,aY,bV,cN,cY,cQ,cP,aX,bz,bx,bM,bH,bL,bX,bZ,bS],[A0,A1,A2,A3,A4,A5,A6,A7,A8,A9],[],[b0,b1,b2],[],[],[p0,p1,p2,p3],[]⟩ Try.func91 (by kernel_rfl) h
end Go.RX.Cw

namespace Go.RX.Cu
open Go.RX Go.Proofs Go.Cp Go.RX.Cs Go.RX.Ct
theorem VR{f:Nat}{args:List Value}{pre:List HP}{Q:(Nat→Int)→Prop}{T:(Nat→Int)→List HP}(h:au agQ f args pre fun rv hs=>rv= .tuple #[]∧∃A y,Q A∧hs=T A++y):au agQ f args pre fun rv hs=>rv= .tuple #[]∧∃A,Q A∧hs=T A:=
 h.post fun _ _ ⟨h1,A,_,h3,h2⟩=>⟨T A,h2▸aB.sub (List.sublist_append_left _ _),h1,A,h3,rfl⟩
theorem tq(b b1 i now:Nat)(m:MR)(o:List (Mg (List Int)))(e:List (Ev (List Int)))(r:List Rc)(hB:o.length≤900∧e.length≤900∧r.length≤900)(PB:0≤m.pa∧m.pa<2)(PC:0≤m.pd∧m.pd<2)(Ca:Me i m)(A5:Nat→Int)(W:List Int)
  (hM:au agQ 44 [.agg (agw (ak .u8 16 m.id) ([])).toArray,.agg (agw (ak .u8 32 m.off) ([])).toArray,.agg (agw (ak .u8 32 A5) ([])).toArray,.agg #[.int .u8 m.pa,.int .u8 m.pd],.agg #[.int .u8 m.a,.int .u8 m.d]] [] fun rv hs=> ∃A:Nat→Int,rv= .agg (agw (ak .u8 32 A) ([])).toArray∧hs=[]∧aN A 0 32=W):
  au agQ 97 [.pointer (some ⟨b1,0,none⟩),.pointer (some ⟨b,0,none⟩),.agg (agw (ak .u8 32 A5) ([])).toArray,.int .u64 (now:Int)] [aZ b i now o e r,cD b1 m,Mm.bJ m.dead 256]
   fun rv hs=>rv= .tuple #[]∧∃A:Nat→Int,aN A 0 32=W∧hs=[aZ b i now ((o++[⟨2,bD m.id,i,fH m.pa m.pd,aN A5 0 32,0⟩])++[⟨3,bD m.id,i,fH m.pa m.pd,zK,0⟩]) (e++[⟨3,bD m.id,fH m.pa m.pd,zK,0⟩]) r,cD b1 {m with st:=3,own:=A5,dM:=A,since:=(now:Int)},Mm.bJ m.dead 256]:=by
 refine VR (Q:=fun A=>aN A 0 32=W) (T:=fun A=>[aZ b i now ((o++[⟨2,bD m.id,i,fH m.pa m.pd,aN A5 0 32,0⟩])++[⟨3,bD m.id,i,fH m.pa m.pd,zK,0⟩]) (e++[⟨3,bD m.id,fH m.pa m.pd,zK,0⟩]) r,cD b1 {m with st:=3,own:=A5,dM:=A,since:=(now:Int)},Mm.bJ m.dead 256]) ?_;refine I7 _ m.a m.d m.st m.out m.ac m.pa m.pd m.lO m.early m.aP m.bF m.since m.heard m.bO m.bA 0 0 0 0 0 0 0 (now:Int) 0 0 0 0 0 0 0 0 0 0 0 0 0 0 0 0 0 m.dv m.id m.own m.off m.dM A5 (fun _=>0) (fun _=>0) (fun _=>0) (fun _=>0) b b1 m.dead (Mm.bJ m.dead 256) (Mm.bJ m.dead 256) (Mm.bJ m.dead 256) (aZ b i now o e r) ?_;unfold Bc;refine fun b3=>⟨_,hM,?_⟩
 rintro x hs ⟨A,rfl,rfl,hW⟩;refine⟨A,rfl,rfl,_,cA b i now o e r (by omega) m.pa m.pd 2 0 0 0 0 0 m.id A5 PB PC (by decide),?_⟩;rintro x hs ⟨rfl,rfl⟩;refine⟨_,rfl,rfl,_,cA b i now _ e r (by simp;omega) m.pa m.pd 3 0 0 0 1 0 m.id (fun _=>0) PB PC (by decide),?_⟩;rintro x hs ⟨rfl,rfl⟩;refine⟨_,rfl,rfl,fun b4=>⟨_,lS b b1 i now {m with st:=3,own:=A5,dM:=A,since:=(now:Int)} _ e r (by omega) 3 0 0 0 0 0 m.pa m.pd 0 (fun _=>0) (fun _=>0) PB PC (by decide) (by decide) ⟨Ca.a,Ca.d,Ca.ac⟩,?_⟩⟩;rintro x hs ⟨rfl,rfl⟩;exact⟨_,rfl,rfl,rfl,A,_,hW,rfl⟩
theorem vK(b b1 i now:Nat)(m:MR)(o:List (Mg (List Int)))(e:List (Ev (List Int)))(r:List Rc)(hB:o.length≤900∧e.length≤900∧r.length≤900)(PB:0≤m.pa∧m.pa<2)(PC:0≤m.pd∧m.pd<2)(Ca:Me i m)(W:List Int)
  (hS: ∀b3:Nat,au agQ 78 [.slice (some ⟨b3,0,none⟩) 1 1] [ao b3 true [.slice (some ⟨b1,96,none⟩) 32 32],cD b1 {m with st:=4,since:=(now:Int),bF:=(now:Int),heard:=(now:Int),bO:=(now:Int),bA:=0}] fun rv hs=> ∃A:Nat→Int,rv= .agg (agw (ak .u8 32 A) ([])).toArray∧hs=[ao b3 true [.slice (some ⟨b1,96,none⟩) 32 32],cD b1 {m with st:=4,since:=(now:Int),bF:=(now:Int),heard:=(now:Int),bO:=(now:Int),bA:=0}]∧aN A 0 32=W):
  au agQ 119 [.pointer (some ⟨b1,0,none⟩),.pointer (some ⟨b,0,none⟩),.int .u64 (now:Int)] [aZ b i now o e r,cD b1 m,Mm.bJ m.dead 256]
   fun rv hs=>rv= .tuple #[]∧hs=[aZ b i now o (e++[⟨4,bD m.id,fH m.pa m.pd,W,0⟩]) r,cD b1 {m with st:=4,since:=(now:Int),bF:=(now:Int),heard:=(now:Int),bO:=(now:Int),bA:=0},Mm.bJ m.dead 256]:=by
 refine leave ?_;refine MP _ m.a m.d m.st m.out m.ac m.pa m.pd m.lO m.early m.aP m.bF m.since m.heard m.bO m.bA 0 0 0 0 0 0 0 (now:Int) 0 0 0 0 0 0 0 0 0 0 0 0 0 0 0 0 0 m.dv m.id m.own m.off m.dM (fun _=>0) (fun _=>0) (fun _=>0) (fun _=>0) (fun _=>0) b b1 m.dead (Mm.bJ m.dead 256) (Mm.bJ m.dead 256) (Mm.bJ m.dead 256) (aZ b i now o e r) ?_;unfold DL;refine fun b3=>⟨_,hS b3,?_⟩
 rintro x hs ⟨A,rfl,rfl,hW⟩;refine⟨A,rfl,rfl,_,lS b b1 i now {m with st:=4,since:=(now:Int),bF:=(now:Int),heard:=(now:Int),bO:=(now:Int),bA:=0} o e r (by omega) 4 0 0 0 0 0 m.pa m.pd 0 (fun _=>0) A PB PC (by decide) (by decide) ⟨Ca.a,Ca.d,Ca.ac⟩,?_⟩;rintro x hs ⟨rfl,rfl⟩;rw [hW];exact⟨_,rfl,rfl,rfl,_,rfl⟩
end Go.RX.Cu

namespace Go.RX.Cw
open Go.RX Go.Proofs Go.Cp Go.RX.Cs Go.RX.Ct Go.RX.Cu
set_option maxRecDepth 100000
abbrev nq(m:MR)(A5:Nat→Int):Prop:= ∀j,j<16→m.id j=A5 j
abbrev YQ(b1:Nat)(m:MR)(W:List Int):Prop:= ∀b3:Nat,au agQ 78 [.slice (some ⟨b3,0,none⟩) 1 1] [ao b3 true [.slice (some ⟨b1,96,none⟩) 32 32],cD b1 m] fun rv hs=> ∃A:Nat→Int,rv= .agg (agw (ak .u8 32 A) ([])).toArray∧hs=[ao b3 true [.slice (some ⟨b1,96,none⟩) 32 32],cD b1 m]∧aN A 0 32=W
theorem Jd{b b1 i now:Nat}{m:MR}{r:List Rc}{f:Nat}{args:List Value}{pre:List HP}{R:List (Mg (List Int))→List (Ev (List Int))→MR→Prop}
  (h:au agQ f args pre fun rv hs=>rv= .tuple #[]∧∃o' e' m' y,R o' e' m'∧hs=[aZ b i now o' e' r,cD b1 m',Mm.bJ m.dead 256]++y):au agQ f args pre fun rv hs=>rv= .tuple #[]∧∃o' e' m',R o' e' m'∧hs=[aZ b i now o' e' r,cD b1 m',Mm.bJ m.dead 256]:=
 h.post fun _ _ ⟨h1,o',e',m',_,h3,h2⟩=>⟨_,h2▸aB.sub (List.sublist_append_left _ _),h1,o',e',m',h3,rfl⟩
theorem G2(b b1 i now:Nat)(m:MR)(o:List (Mg (List Int)))(e:List (Ev (List Int)))(r:List Rc)(hB:o.length≤900∧e.length≤900∧r.length≤900)(PB:m.st≠0→0≤m.pa∧m.pa<2)(PC:m.st≠0→0≤m.pd∧m.pd<2)(lG:m.st≠1)(Ca:m.st≠0→Me i m)(W:List Int)(hS:m.st=3→YQ b1 {m with st:=4,since:=(now:Int),bF:=(now:Int),heard:=(now:Int),bO:=(now:Int),bA:=0} W)(f0 f1 bM bH bL bX bZ bS:Int)(A5 A6:Nat→Int)(tr:0≤f0∧f0<2)(uv:0≤f1∧f1<2):
  au agQ 89 [.pointer (some ⟨b1,0,none⟩),.pointer (some ⟨b,0,none⟩),.agg #[.int .u8 f0,.int .u8 f1],.agg (.int .u8 bM::(agw (ak .u8 16 A5) (.int .u8 bH::(.int .u8 bL::(.int .u8 bX::(agw (ak .u8 32 A6) ([.int .u32 bZ,.slice none 0 0,.int .u8 bS]))))))).toArray,.int .u64 (now:Int)] [aZ b i now o e r,cD b1 m,Mm.bJ m.dead 256]
   fun rv hs=>rv= .tuple #[]∧∃o' e' m',((m.st=0∨¬nq m A5)∧o'=o++[⟨5,bD A5,i,fH f0 f1,zK,1⟩]∧e'=e∧m'=m∨
    ¬(m.st=0∨¬nq m A5)∧(¬(f0=m.pa∧f1=m.pd)∧o'=o∧e'=e∧m'=m∨(f0=m.pa∧f1=m.pd)∧(m.st=3∧o'=o∧e'=e++[⟨4,bD m.id,fH m.pa m.pd,W,0⟩]∧m'={m with st:=4,since:=(now:Int),bF:=(now:Int),heard:=(now:Int),bO:=(now:Int),bA:=0}∨m.st=4∧o'=o∧e'=e∧m'={m with heard:=(now:Int)}∨m.st≠3∧m.st≠4∧o'=o∧e'=e∧m'=m)))∧
    hs=[aZ b i now o' e' r,cD b1 m',Mm.bJ m.dead 256]:=by
 refine Jd ?_;refine CA _ m.a m.d m.st m.out m.ac m.pa m.pd m.lO m.early m.aP m.bF m.since m.heard m.bO m.bA 0 0 0 0 0 f0 f1 (now:Int) bM bH bL bX bZ bS m.dv m.id m.own m.off m.dM A5 A6 (fun _=>0) (fun _=>0) (fun _=>0) b b1 m.dead (Mm.bJ m.dead 256) (Mm.bJ m.dead 256) (Mm.bJ m.dead 256) (aZ b i now o e r) ?_;unfold tn;intro b3 b4;refine⟨fun c1=>⟨_,cA b i now o e r (by omega) f0 f1 5 0 0 0 0 1 A5 (fun _=>0) tr uv (by decide),?_⟩,fun c1=>⟨fun c2=>absurd c2 lG,fun _=>⟨fun c3=>?_,fun c3=>⟨fun c4=>⟨_,vK b b1 i now m o e r hB (PB (by omega)) (PC (by omega)) (Ca (by omega)) W (hS c4),?_⟩,fun c4=>⟨fun c5=>?_,fun c5=>?_⟩⟩⟩⟩⟩
 ·rintro x hs ⟨rfl,rfl⟩;exact⟨_,rfl,rfl,rfl,_,_,_,_,.inl ⟨c1,rfl,rfl,rfl⟩,rfl⟩
 ·exact⟨rfl,_,_,_,_,.inr ⟨c1,.inl ⟨c3,rfl,rfl,rfl⟩⟩,rfl⟩
 ·rintro x hs ⟨rfl,rfl⟩;exact⟨_,_,rfl,rfl,rfl,_,_,_,_,.inr ⟨c1,.inr ⟨agN.1 c3,.inl ⟨c4,rfl,rfl,rfl⟩⟩⟩,rfl⟩
 ·exact⟨rfl,_,_,_,_,.inr ⟨c1,.inr ⟨agN.1 c3,.inr (.inl ⟨c5,rfl,rfl,rfl⟩)⟩⟩,rfl⟩
 ·exact⟨rfl,_,_,_,_,.inr ⟨c1,.inr ⟨agN.1 c3,.inr (.inr ⟨c4,c5,rfl,rfl,rfl⟩)⟩⟩,rfl⟩
theorem Je(b b1 i now:Nat)(m:MR)(o:List (Mg (List Int)))(e:List (Ev (List Int)))(r:List Rc)(hB:o.length≤900∧e.length≤900∧r.length≤900)(lG:m.st≠1)(f0 f1 bM bH bL bX bZ bS:Int)(A5 A6:Nat→Int)(tr:0≤f0∧f0<2)(uv:0≤f1∧f1<2):
  au agQ 88 [.pointer (some ⟨b1,0,none⟩),.pointer (some ⟨b,0,none⟩),.agg #[.int .u8 f0,.int .u8 f1],.agg (.int .u8 bM::(agw (ak .u8 16 A5) (.int .u8 bH::(.int .u8 bL::(.int .u8 bX::(agw (ak .u8 32 A6) ([.int .u32 bZ,.slice none 0 0,.int .u8 bS]))))))).toArray,.int .u64 (now:Int)] [aZ b i now o e r,cD b1 m,Mm.bJ m.dead 256]
   fun rv hs=>rv= .tuple #[]∧∃o' e' m',((m.st=0∨¬nq m A5)∧o'=o++[⟨5,bD A5,i,fH f0 f1,zK,1⟩]∧e'=e∧m'=m∨
    ¬(m.st=0∨¬nq m A5)∧((m.out≠0∧¬(f0=m.pa∧f1=m.pd))∧o'=o++[⟨6,bD m.id,i,fH f0 f1,zK,0⟩]∧e'=e∧m'=m∨¬(m.out≠0∧¬(f0=m.pa∧f1=m.pd))∧o'=o∧e'=e∧m'=m))∧
    hs=[aZ b i now o' e' r,cD b1 m',Mm.bJ m.dead 256]:=by
 refine Jd ?_;refine Jc _ m.a m.d m.st m.out m.ac m.pa m.pd m.lO m.early m.aP m.bF m.since m.heard m.bO m.bA 0 0 0 0 0 f0 f1 (now:Int) bM bH bL bX bZ bS m.dv m.id m.own m.off m.dM A5 A6 (fun _=>0) (fun _=>0) (fun _=>0) b b1 m.dead (Mm.bJ m.dead 256) (Mm.bJ m.dead 256) (Mm.bJ m.dead 256) (aZ b i now o e r) ?_;unfold Bi;intro b3 b4;refine⟨fun c1=>⟨_,cA b i now o e r (by omega) f0 f1 5 0 0 0 0 1 A5 (fun _=>0) tr uv (by decide),?_⟩,fun c1=>⟨fun c2=>absurd c2 lG,fun _=>⟨fun c3=>⟨_,cA b i now o e r (by omega) f0 f1 6 0 0 0 0 0 m.id (fun _=>0) tr uv (by decide),?_⟩,fun c3=>?_⟩⟩⟩
 ·rintro x hs ⟨rfl,rfl⟩;exact⟨_,rfl,rfl,rfl,_,_,_,_,.inl ⟨c1,rfl,rfl,rfl⟩,rfl⟩
 ·rintro x hs ⟨rfl,rfl⟩;exact⟨_,rfl,rfl,rfl,_,_,_,_,.inr ⟨c1,.inl ⟨c3,rfl,rfl,rfl⟩⟩,rfl⟩
 ·exact⟨rfl,_,_,_,_,.inr ⟨c1,.inr ⟨c3,rfl,rfl,rfl⟩⟩,rfl⟩
theorem Jf(b b1 i now:Nat)(m:MR)(o:List (Mg (List Int)))(e:List (Ev (List Int)))(r:List Rc)(hB:o.length≤900∧e.length≤900∧r.length≤900)(lG:m.st≠1)(f0 f1 bM bH bL bX bZ bS:Int)(A5 A6:Nat→Int)(tr:0≤f0∧f0<2)(uv:0≤f1∧f1<2)(ha:m.a=((i/2:Nat):Int))(hd:m.d=((i%2:Nat):Int))(VQ:f0=gQ i):
  au agQ 87 [.pointer (some ⟨b1,0,none⟩),.pointer (some ⟨b,0,none⟩),.agg #[.int .u8 f0,.int .u8 f1],.agg (.int .u8 bM::(agw (ak .u8 16 A5) (.int .u8 bH::(.int .u8 bL::(.int .u8 bX::(agw (ak .u8 32 A6) ([.int .u32 bZ,.slice none 0 0,.int .u8 bS]))))))).toArray,.int .u64 (now:Int)] [aZ b i now o e r,cD b1 m,Mm.bJ m.dead 256]
   fun rv hs=>rv= .tuple #[]∧∃o' e' m',(o'=o∧e'=e∧m'=m∨
    m.st=0∧o'=o∧e'=e++[⟨2,bD A5,0,zK,0⟩]∧m'={m with st:=2,id:=A5,out:=0,ac:=f0,pa:=f0,pd:=f1,own:=fun _=>0,off:=A6,dM:=fun _=>0,aP:=(now:Int),bF:=0,since:=(now:Int),heard:=0,bO:=0,bA:=0}∨
    m.st≠0∧¬nq m A5∧o'=o++[⟨4,bD A5,i,fH f0 f1,zK,0⟩]∧e'=e∧m'=m)∧
    hs=[aZ b i now o' e' r,cD b1 m',Mm.bJ m.dead 256]:=by
 refine Jd ?_;refine MW _ m.a m.d m.st m.out m.ac m.pa m.pd m.lO m.early m.aP m.bF m.since m.heard m.bO m.bA 0 0 0 0 0 f0 f1 (now:Int) bM bH bL bX bZ bS m.dv m.id m.own m.off m.dM A5 A6 (fun _=>0) (fun _=>0) (fun _=>0) b b1 m.dead (Mm.bJ m.dead 256) (Mm.bJ m.dead 256) (Mm.bJ m.dead 256) (aZ b i now o e r) ?_;unfold DN;intro b3 b4;refine⟨fun c1=>⟨_,Mm.uu m.dead 256 A5,?_⟩,fun c1=>⟨rfl,_,_,_,_,.inl ⟨rfl,rfl,rfl⟩,rfl⟩⟩;rintro x hs ⟨⟨q,rfl⟩,rfl⟩;refine⟨q,rfl,rfl,fun _=>⟨rfl,_,_,_,_,.inl ⟨rfl,rfl,rfl⟩,rfl⟩,fun _=>⟨fun c2=>⟨_,yu b b1 i now m o e r hB ha hd bM bH bL bX bZ bS ((agN.1 fun h=>c1 (.inl h):bH=f0∧bL=f1).1.trans VQ) A5 A6,?_⟩,fun c2=>⟨fun c3=>⟨rfl,_,_,_,_,.inl ⟨rfl,rfl,rfl⟩,rfl⟩,fun c3=>⟨fun c4=>absurd c4.1 lG,fun c4=>⟨_,cA b i now o e r (by omega) f0 f1 4 0 0 0 0 0 A5 (fun _=>0) tr uv (by decide),?_⟩⟩⟩⟩⟩
 ·rintro x hs ⟨rfl,rfl⟩;have c5:bH=f0∧bL=f1:=agN.1 fun h=>c1 (.inl h)
  obtain⟨rfl,rfl⟩:=c5;exact⟨_,_,_,_,_,_,rfl,rfl,rfl,_,_,_,_,.inr (.inl ⟨c2,rfl,rfl,rfl⟩),rfl⟩
 ·rintro x hs ⟨rfl,rfl⟩;exact⟨_,rfl,rfl,rfl,_,_,_,_,.inr (.inr ⟨c2,c3,rfl,rfl,rfl⟩),rfl⟩
def Bj(st why:Int):Int:=if st=2 then(if why=2 then 4 else 3)else if st=3 then 6 else 1
theorem G3(b b1 i now:Nat)(m:MR)(o:List (Mg (List Int)))(e:List (Ev (List Int)))(r:List Rc)(hB:o.length≤900∧e.length≤900∧r.length≤900)(lG:m.st≠1)(hb:m.st≠0→(0≤m.aP∧0≤m.bF)∧Me i m)(f0 f1 bM bH bL bX bZ bS:Int)(A5 A6:Nat→Int):
  au agQ 91 [.pointer (some ⟨b1,0,none⟩),.pointer (some ⟨b,0,none⟩),.agg #[.int .u8 f0,.int .u8 f1],.agg (.int .u8 bM::(agw (ak .u8 16 A5) (.int .u8 bH::(.int .u8 bL::(.int .u8 bX::(agw (ak .u8 32 A6) ([.int .u32 bZ,.slice none 0 0,.int .u8 bS]))))))).toArray,.int .u64 (now:Int)] [aZ b i now o e r,cD b1 m,Mm.bJ m.dead 256]
   fun rv hs=>rv= .tuple #[]∧∃e' r' m',((m.st=0∨¬nq m A5∨¬(f0=m.pa∧f1=m.pd))∧e'=e∧r'=r∧m'=m∨
    ¬(m.st=0∨¬nq m A5)∧(f0=m.pa∧f1=m.pd)∧e'=e++[Bg m (Bj m.st bS)]∧r'=r++[Bh m (Bj m.st bS)]∧m'={m with st:=0})∧
    hs=[aZ b i now o e' r',cD b1 m',Mm.bJ m.dead 256]:=by
 refine au.post (p:=fun rv hs=>rv= .tuple #[]∧∃e' r' m' y,((m.st=0∨¬nq m A5∨¬(f0=m.pa∧f1=m.pd))∧e'=e∧r'=r∧m'=m∨
    ¬(m.st=0∨¬nq m A5)∧(f0=m.pa∧f1=m.pd)∧e'=e++[Bg m (Bj m.st bS)]∧r'=r++[Bh m (Bj m.st bS)]∧m'={m with st:=0})∧
    hs=[aZ b i now o e' r',cD b1 m',Mm.bJ m.dead 256]++y) ?_ fun rv hs ⟨k1,e',r',m',y,k2,k3⟩=>⟨_,k3▸aB.sub (List.sublist_append_left _ _),k1,e',r',m',k2,rfl⟩
 refine PE _ m.a m.d m.st m.out m.ac m.pa m.pd m.lO m.early m.aP m.bF m.since m.heard m.bO m.bA 0 0 0 0 0 f0 f1 (now:Int) bM bH bL bX bZ bS m.dv m.id m.own m.off m.dM A5 A6 (fun _=>0) (fun _=>0) (fun _=>0) b b1 m.dead (Mm.bJ m.dead 256) (Mm.bJ m.dead 256) (Mm.bJ m.dead 256) (aZ b i now o e r) ?_;unfold G1;intro b3 b4;refine⟨fun c1=>⟨_,Mm.n8 m.dead 256 A5 (by decide) (by decide),?_⟩,fun c1=>⟨fun c2=>absurd c2 lG,fun _=>⟨fun c3=>⟨rfl,_,_,_,_,.inl ⟨.inr (.inr c3),rfl,rfl,rfl⟩,rfl⟩,fun c3=>?_⟩⟩⟩
 ·rintro x hs ⟨rfl,rfl⟩;exact⟨rfl,rfl,rfl,_,_,_,_,.inl ⟨c1.elim .inl fun h=> .inr (.inl h),rfl,rfl,rfl⟩,rfl⟩
 ·have c4:=agN.1 c3;refine⟨fun d1=>⟨_,jD b b1 i now m o e r (by omega) (by omega) 4 (hb fun h=>c1 (.inl h)).1 (by decide) (hb fun h=>c1 (.inl h)).2,?_⟩,fun d1=>⟨fun d2=>⟨_,jD b b1 i now m o e r (by omega) (by omega) 3 (hb fun h=>c1 (.inl h)).1 (by decide) (hb fun h=>c1 (.inl h)).2,?_⟩,fun d2=>⟨fun d3=>⟨_,jD b b1 i now m o e r (by omega) (by omega) 6 (hb fun h=>c1 (.inl h)).1 (by decide) (hb fun h=>c1 (.inl h)).2,?_⟩,fun d3=>⟨_,jD b b1 i now m o e r (by omega) (by omega) 1 (hb fun h=>c1 (.inl h)).1 (by decide) (hb fun h=>c1 (.inl h)).2,?_⟩⟩⟩⟩
  all_goals
   rintro x hs ⟨rfl,rfl⟩;refine⟨_,rfl,rfl,rfl,_,_,_,_,.inr ⟨c1,c4,?_,?_,rfl⟩,rfl⟩<;>unfold Bj<;>first | rw [if_pos d1.1,if_pos d1.2] | rw [if_pos d2,if_neg fun h=>d1 ⟨d2,h⟩] | rw [if_neg d2,if_pos d3] | rw [if_neg d2,if_neg d3]
end Go.RX.Cw
