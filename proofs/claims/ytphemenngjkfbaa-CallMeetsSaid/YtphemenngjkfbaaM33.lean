/- A call machine's step in memory. -/
import Derived.Test.YtphemenngjkfbaaM32
open Go.Proofs.Try renaming prog → adY
open Int renaming toNat → ag
open List renaming append → adH, getD_cons_zero → ah, mem_range → adU, range → aec
namespace Go.RX.Cs
open Go.RX Go.Proofs Go.Cp
def aJ(A:Nat→Int)(o n:Nat):List Int:=(aec n).map fun t=>A (o+t)
theorem nX{f g:Nat→Int}{k n:Nat}:aJ (aW f (k*n) n g) (k*n) n=aJ g 0 n:=by
 refine List.map_congr_left fun t ht=>?_
 have:=adU.1 ht;simp only [aW];rw [if_pos (by omega)];congr 1;omega
theorem qT{f g:Nat→Int}{j k n:Nat}(h:j<k):aJ (aW f (k*n) n g) (j*n) n=aJ f (j*n) n:=by
 refine List.map_congr_left fun t ht=>?_
 have:=adU.1 ht;have h2:(j+1)*n≤k*n:=Nat.mul_le_mul_right n h;rw [Nat.succ_mul]at h2;simp only [aW];rw [if_neg (by omega)]
abbrev dx:=Nat→Nat→Int
def EF(i:Nat)(A:dx)(j:Nat):Mg (List Int):=⟨(A 2 j).toNat,bM (aJ (A 3) (j*16) 16),i,(2*A 0 j+A 1 j).toNat,aJ (A 7) (j*32) 32⟩
def sF(A:dx)(j:Nat):Ev (List Int):=⟨(A 0 j).toNat,bM (aJ (A 4) (j*16) 16),(2*A 6 j+A 7 j).toNat,aJ (A 8) (j*32) 32⟩
def rp(A:dx)(j:Nat):Nat×Nat:=(bM (aJ (A 0) (j*16) 16),(A 4 j).toNat)
abbrev Vz(A:dx):List (Nat→List Value):=[au .u8 1 (A 0),au .u8 1 (A 1),au .u8 1 (A 2),au .u8 16 (A 3),au .u8 1 (A 4),au .u8 1 (A 5),au .u8 1 (A 6),au .u8 32 (A 7),au .u32 1 (A 8),dI 1 (fun _=> .slice none 0 0),au .u8 1 (A 9)]
abbrev KD(A:dx):List (Nat→List Value):=[au .u8 1 (A 0),au .u8 1 (A 1),au .u8 1 (A 2),au .u64 1 (A 3),au .u8 16 (A 4),au .u8 1 (A 5),au .u8 1 (A 6),au .u8 1 (A 7),au .u8 32 (A 8),au .u8 1 (A 9)]
abbrev KE(A:dx):List (Nat→List Value):=[au .u8 16 (A 0),au .u8 1 (A 1),ou 1 (A 2),au .u8 1 (A 3),au .u64 1 (A 4),au .u64 1 (A 5),au .u64 1 (A 6)]
def nw(A:dx)(n:Nat)(x:Nat→Int)(id key:Nat→Int):dx:=fun c=>if c=3 then aW (A 3) (n*16) 16 id else if c=7 then aW (A 7) (n*32) 32 key else aj (A c) n (x c)
def kN(A:dx)(n:Nat)(x:Nat→Int)(id key:Nat→Int):dx:=fun c=>if c=4 then aW (A 4) (n*16) 16 id else if c=8 then aW (A 8) (n*32) 32 key else aj (A c) n (x c)
theorem oQ{f:Nat→Int}{j n:Nat}{x:Int}(h:j<n):aj f n x j=f j:=if_neg (by omega)
theorem oR{f:Nat→Int}{n:Nat}{x:Int}:aj f n x n=x:=if_pos rfl
theorem Tg(i:Nat)(A:dx){n j:Nat}(x:Nat→Int)(id key:Nat→Int)(h:j<n):EF i (nw A n x id key) j=EF i A j:=by
 simp [EF,nw,qT h,oQ h]
theorem Th(i:Nat)(A:dx){n:Nat}(x:Nat→Int)(id key:Nat→Int):EF i (nw A n x id key) n=⟨(x 2).toNat,bM (aJ id 0 16),i,(2*x 0+x 1).toNat,aJ key 0 32⟩:=by
 simp [EF,nw,nX,oR]
theorem Ry(A:dx){n j:Nat}(x:Nat→Int)(id key:Nat→Int)(h:j<n):sF (kN A n x id key) j=sF A j:=by
 simp [sF,kN,qT h,oQ h]
theorem Rz(A:dx){n:Nat}(x:Nat→Int)(id key:Nat→Int):sF (kN A n x id key) n=⟨(x 0).toNat,bM (aJ id 0 16),(2*x 6+x 7).toNat,aJ key 0 32⟩:=by
 simp [sF,kN,nX,oR]
theorem map_push{α:Type}{f g:Nat→α}{n:Nat}{y:α}(h: ∀j,j<n→g j=f j)(e:g n=y):(aec (n+1)).map g=(aec n).map f++[y]:=by
 rw [List.range_succ,List.map_append,List.map_singleton,e];congr 1;exact List.map_congr_left fun j hj=>h j (adU.1 hj)
structure LJ (i now:Nat) (o:List (Mg (List Int))) (e:List (Ev (List Int))) (r:List (Nat×Nat)) where
 v0:V1
 v1:V1
 v2:V1
 Ao:dx
 Ae:dx
 Ar:dx
 ho:o=(aec o.length).map (EF i Ao)
 hd: ∀j,j<o.length→0≤Ao 0 j∧Ao 0 j<2∧0≤Ao 1 j∧Ao 1 j<2∧0≤Ao 2 j
 he:e=(aec e.length).map (sF Ae)
 hp: ∀j,j<e.length→0≤Ae 6 j∧Ae 6 j<2∧0≤Ae 7 j∧Ae 7 j<2∧0≤Ae 0 j
 hr:r=(aec r.length).map (rp Ar)
 hn: ∀j,j<r.length→Ar 6 j=now∧0≤Ar 4 j
abbrev nY(v:V1)(n:Nat)(A:dx):HP:=aB true 111 57 v.v n (aH n (Vz A))
abbrev u0(v:V1)(n:Nat)(A:dx):HP:=aB true 76 56 v.v n (aH n (KD A))
abbrev u3(v:V1)(n:Nat)(A:dx):HP:=aB true 85 22 v.v n (aH n (KE A))
variable {i now:Nat} {o:List (Mg (List Int))} {e:List (Ev (List Int))} {r:List (Nat×Nat)}
def KF(b:Nat)(x:LJ i now o e r):List HP:=[ak b true [x.v0.v,x.v1.v,x.v2.v],nY x.v0 o.length x.Ao,u0 x.v1 e.length x.Ae,u3 x.v2 r.length x.Ar]
theorem Ti(b:Nat)(x:LJ i now o e r): ∀h∈KF b x,h.wr=true:=by
 intro h hh;simp only [KF,List.mem_cons,List.not_mem_nil,or_false]at hh;rcases hh with rfl | rfl | rfl | rfl<;>rfl
def aY(b i now:Nat)(o:List (Mg (List Int)))(e:List (Ev (List Int)))(r:List (Nat×Nat)):HP:=HP.ex fun x:LJ i now o e r=>HP.star (KF b x)
theorem qU(b:Nat)(x:LJ i now o e r):aD (KF b x) [aY b i now o e r]:=aD.trans (aD.star (Ti b x)) (aD.ex (F:=fun x:LJ i now o e r=>HP.star (KF b x)) x rfl)
theorem cd(b i now:Nat)(o:List (Mg (List Int)))(e:List (Ev (List Int)))(r:List (Nat×Nat))(ho:o.length≤1000)(x1 x2 x3 x4 x5 x6 x7 x8:Int)(gL gM:Nat→Int)(h1:0≤x1∧x1<2)(h2:0≤x2∧x2<2)(h3:0≤x3):
  aq adY 96 [.pointer (some ⟨b,0,none⟩),.agg #[.int .u8 x1,.int .u8 x2],.agg (.int .u8 x3::(adH (al .u8 16 gL) (.int .u8 x4::(.int .u8 x5::(.int .u8 x6::(adH (al .u8 32 gM) ([.int .u32 x7,.slice none 0 0,.int .u8 x8]))))))).toArray]
   [aY b i now o e r] fun rv hs=>rv= .tuple #[]∧hs=[aY b i now (o++[⟨x3.toNat,bM (aJ gL 0 16),i,(2*x1+x2).toNat,aJ gM 0 32⟩]) e r]:=by
 refine aq.ex fun x=>aq.pre ?_ (aD.jl _)
 refine aq.post (p:=fun rv hs=> ∃gN,hs=gN++[u0 x.v1 e.length x.Ae,u3 x.v2 r.length x.Ar]∧rv= .tuple #[]∧∃(v:V1) (y:List HP),gN=[ak b true [v.v,x.v1.v,x.v2.v],nY v (o.length+1) (nw x.Ao o.length (fun c=>if c=0 then x1 else if c=1 then x2 else if c=2 then x3 else if c=4 then x4 else if c=5 then x5 else if c=6 then x6 else if c=8 then x7 else x8) gL gM)]++y) ?_ ?_
 ·have:=(Qn (fun rv gN=>rv= .tuple #[]∧∃(v:V1) (y:List HP),gN=[ak b true [v.v,x.v1.v,x.v2.v],nY v (o.length+1) (nw x.Ao o.length (fun c=>if c=0 then x1 else if c=1 then x2 else if c=2 then x3 else if c=4 then x4 else if c=5 then x5 else if c=6 then x6 else if c=8 then x7 else x8) gL gM)]++y) (o.length:Int) x1 x2 x3 x4 x5 x6 x7 x8
   (x.Ao 0) (x.Ao 1) (x.Ao 2) (x.Ao 3) (x.Ao 4) (x.Ao 5) (x.Ao 6) (x.Ao 7) (x.Ao 8) (x.Ao 9) (fun _=>0) (fun _=>0) gL gM x.v0 x.v1 x.v2 b (by
    unfold IE;intro b1 b2 b3;have e1:((o.length:Int)+1).toNat=o.length+1:=by omega
    have e2:((o.length:Int)*16).toNat=o.length*16:=by omega
    have e3:((o.length:Int)*32).toNat=o.length*32:=by omega
    rw [e1,e2,e3,Int.toNat_natCast];exact⟨by omega,fun _=>⟨by omega,fun _ v=>⟨rfl,v,_,rfl⟩⟩⟩)).frame [u0 x.v1 e.length x.Ae,u3 x.v2 r.length x.Ar]
  exact this
 ·rintro rv hs ⟨gN,rfl,h,v,y,rfl⟩;refine⟨_,?_,h,rfl⟩;refine aD.trans (b:=[ak b true [v.v,x.v1.v,x.v2.v],nY v (o.length+1) (nw x.Ao o.length (fun c=>if c=0 then x1 else if c=1 then x2 else if c=2 then x3 else if c=4 then x4 else if c=5 then x5 else if c=6 then x6 else if c=8 then x7 else x8) gL gM),u0 x.v1 e.length x.Ae,u3 x.v2 r.length x.Ar]) (aD.sub (by simp)) ?_;have hl:(o++[(⟨x3.toNat,bM (aJ gL 0 16),i,(2*x1+x2).toNat,aJ gM 0 32⟩:Mg (List Int))]).length=o.length+1:=by simp
  have:=qU b (i:=i) (now:=now) (e:=e) (r:=r) (o:=o++[⟨x3.toNat,bM (aJ gL 0 16),i,(2*x1+x2).toNat,aJ gM 0 32⟩]) ⟨v,x.v1,x.v2,nw x.Ao o.length (fun c=>if c=0 then x1 else if c=1 then x2 else if c=2 then x3 else if c=4 then x4 else if c=5 then x5 else if c=6 then x6 else if c=8 then x7 else x8) gL gM,x.Ae,x.Ar,?_,?_,x.he,x.hp,x.hr,x.hn⟩
  ·unfold KF at this;rw [hl]at this;exact this
  ·rw [hl,map_push (f:=EF i x.Ao) (fun j hj=>Tg i _ _ _ _ hj) (Th i _ _ _ _),←x.ho];simp
  ·intro j hj;rw [hl]at hj;by_cases Qt:j=o.length
   ·subst Qt;simp [nw,oR];omega
   ·have:=x.hd j (by omega);simpa [nw,oQ (show j<o.length by omega)] using this
open Go.RX Go.Proofs Go.Cp
theorem iX{a b:List HP}(idx:List Nat)(fY:idx.Nodup)(h:b.map some=idx.map (a[·]?)):aD a b:=by
 refine aD.YT idx fY fun j x hj=>?_
 have e:(b.map some)[j]? =some (some x):=by rw [List.getElem?_map,hj];rfl
 rw [h,List.getElem?_map]at e;cases hi:idx[j]? with
 | none=>rw [hi]at e;cases e
 | some i=>
  rw [hi]at e;exact⟨i,rfl,Option.some.inj e⟩
structure MR where
 a:Int
 d:Int
 dv:Nat→Int
 dead:Nat
 st:Int
 id:Nat→Int
 out:Int
 ac:Int
 pa:Int
 pd:Int
 own:Nat→Int
 off:Nat→Int
 dg:Nat→Int
 h_:Int
 early:Int
 aK:Int
 cf:Int
 since:Int
 heard:Int
 bD:Int
 bq:Int
abbrev cn(b:Nat)(m:MR):HP:=ak b true (.int .u8 m.a::(.int .u8 m.d::(adH (al .u8 8 m.dv) (.pointer (some ⟨m.dead,0,none⟩)::(.int .u8 m.st::(adH (al .u8 16 m.id) (.bool (!(m.out==0))::(.int .u8 m.ac::(.int .u8 m.pa::(.int .u8 m.pd::(adH (al .u8 32 m.own) (adH (al .u8 32 m.off) (adH (al .u8 32 m.dg) ([(aC m.h_),(aC m.early),.int .u64 m.aK,.int .u64 m.cf,.int .u64 m.since,.int .u64 m.heard,.int .u64 m.bD,.int .u32 m.bq]))))))))))))))
theorem kx(b b1 i now:Nat)(m:MR)(o:List (Mg (List Int)))(e:List (Ev (List Int)))(r:List (Nat×Nat))(he:e.length≤1000)(dV ef ei e_ bz bP bU bF bA bG:Int)(l7 jz:Nat→Int)(h1:0≤bF∧bF<2)(h2:0≤bA∧bA<2)(h3:0≤dV):
  aq adY 85 [.pointer (some ⟨b1,0,none⟩),.pointer (some ⟨b,0,none⟩),.int .u8 dV,.int .u64 ef,.agg (.int .u8 ei::(.int .u8 e_::(.int .u8 bz::(.int .u64 bP::(adH (al .u8 16 l7) (.int .u8 bU::(.int .u8 bF::(.int .u8 bA::(adH (al .u8 32 jz) ([.int .u8 bG])))))))))).toArray]
   [aY b i now o e r,cn b1 m] fun rv hs=>rv= .tuple #[]∧hs=[aY b i now o (e++[⟨dV.toNat,bM (aJ m.id 0 16),(2*bF+bA).toNat,aJ jz 0 32⟩]) r,cn b1 m]:=by
 refine aq.ex fun x=>aq.pre ?_ (aD.frame (aD.jl (KF b x)) [cn b1 m])
 let xs:Nat→Int:=fun c=>if c=0 then dV else if c=1 then m.a else if c=2 then m.d else if c=3 then ef else if c=5 then m.ac else if c=6 then bF else if c=7 then bA else bG
 refine aq.post (p:=fun rv hs=> ∃gN,hs=gN++[nY x.v0 o.length x.Ao,u3 x.v2 r.length x.Ar]∧rv= .tuple #[]∧∃(v:V1) (y:List HP),gN=[ak b true [x.v0.v,v.v,x.v2.v],u0 v (e.length+1) (kN x.Ae e.length xs m.id jz),cn b1 m]++y) ?_ ?_
 ·refine aq.pre (Gm:=([ak b true [x.v0.v,x.v1.v,x.v2.v],u0 x.v1 e.length x.Ae,cn b1 m]++[nY x.v0 o.length x.Ao,u3 x.v2 r.length x.Ar])) ?_ ?_
  ·exact(Nc (fun rv gN=>rv= .tuple #[]∧∃(v:V1) (y:List HP),gN=[ak b true [x.v0.v,v.v,x.v2.v],u0 v (e.length+1) (kN x.Ae e.length xs m.id jz),cn b1 m]++y) (e.length:Int) m.a m.d m.st m.out m.ac m.pa m.pd m.h_ m.early m.aK m.cf m.since m.heard m.bD m.bq dV ef ei e_ bz bP bU bF bA bG
    (x.Ae 0) (x.Ae 1) (x.Ae 2) (x.Ae 3) (x.Ae 4) (x.Ae 5) (x.Ae 6) (x.Ae 7) (x.Ae 8) (x.Ae 9) m.dv m.id m.own m.off m.dg l7 jz x.v0 x.v1 x.v2 b b1 m.dead (by
     unfold Ey;intro b3 b4;have e1:((e.length:Int)+1).toNat=e.length+1:=by omega
     have e2:((e.length:Int)*16).toNat=e.length*16:=by omega
     have e3:((e.length:Int)*32).toNat=e.length*32:=by omega
     rw [e1,e2,e3,Int.toNat_natCast];exact⟨by omega,fun _=>⟨by omega,fun _ v=>⟨rfl,v,_,rfl⟩⟩⟩)).frame [nY x.v0 o.length x.Ao,u3 x.v2 r.length x.Ar]
  ·exact iX [0,2,4,1,3] (by decide) rfl
 ·rintro rv hs ⟨gN,rfl,h,v,y,rfl⟩;refine⟨_,?_,h,rfl⟩;have hl:(e++[(⟨dV.toNat,bM (aJ m.id 0 16),(2*bF+bA).toNat,aJ jz 0 32⟩:Ev (List Int))]).length=e.length+1:=by simp
  have:=qU b (i:=i) (now:=now) (r:=r) (o:=o) (e:=e++[⟨dV.toNat,bM (aJ m.id 0 16),(2*bF+bA).toNat,aJ jz 0 32⟩]) ⟨x.v0,v,x.v2,x.Ao,kN x.Ae e.length xs m.id jz,x.Ar,x.ho,x.hd,?_,?_,x.hr,x.hn⟩
  ·unfold KF at this;rw [hl]at this;refine aD.trans ?_ (aD.frame this [cn b1 m]);refine aD.trans (b:=[ak b true [x.v0.v,v.v,x.v2.v],u0 v (e.length+1) (kN x.Ae e.length xs m.id jz),cn b1 m,nY x.v0 o.length x.Ao,u3 x.v2 r.length x.Ar]) (aD.sub ?_) (iX [0,3,1,4,2] (by decide) rfl);simp
  ·rw [hl,map_push (f:=sF x.Ae) (fun j hj=>Ry _ _ _ _ hj) (Rz _ _ _ _),←x.he];simp [xs]
  ·intro j hj;rw [hl]at hj;by_cases Qt:j=e.length
   ·subst Qt;simp [kN,oR,xs];omega
   ·have:=x.hp j (by omega);simpa [kN,oQ (show j<e.length by omega)] using this
end Go.RX.Cs

namespace Go.RX.Mm
open Go.RX
def loops(f id:Nat):Option mP:=
 match f,id with
 | 135,0=>some {inc:={i:=1},aV:=fun c=>[(8,.int .i64 (.var c.i))]}
 | 138,0=>some {inc:={i:=1},aV:=fun c=>[(8,.int .i64 (.var c.i))]}
 | _,_=>none
def row:Ck:= .row 0 true [.vv 0,.int .i64 (.var 0)]
def C1:List Ck:=[row,.cc true 0 30 2 (.var 1) [⟨.int .u8,1,.aw 0⟩,⟨.int .u8,1,.aw 1⟩]]
def aQ:cz:={b:=1,v:=1,i:=4,a:=3}
open Go.RX Go.Proofs
noncomputable def cx:Ctx:={T:=TT,FT:=FT,loops:=Mm.loops}
open Go.RX Go.Proofs
set_option maxRecDepth 100000
def IJ(_:Program)(ao:Value→List HP→Prop)(x0 x1 _ _:Int)(A0 _ A2:Nat→Int)(v0:V1)(b0:Nat):Prop:=
 ∀b1 b2 b3:Nat,aM (0≤x1) (
 ∃(fA:Ext→Prop) (iW:Ext→Nat),(∃x4:Int,x4=0∧fA ⟨[],[],[x4],[],[],[],[]⟩)∧
 ∀x4:Int,fA ⟨[],[],[x4],[],[],[],[]⟩→
 aU (x4<x1) (
 aM (0≤x4) (
 aU (∀j,j<16→A2 j=(aP A0 (ag (x4*16))) j) (
 ao (.bool true) [ak b0 true ([v0.v,.int .i64 x0]),aB true 72 16 v0.v (ag x1) (aH (ag x1) [au .u8 16 A0]),ak b1 true (adH (al .u8 16 A2) ([])),ak b2 true (adH (al .u8 16 A2) ([])),ak b3 true (adH (al .u8 16 A2) ([]))]) (
 ur (x4+1) ((
 ∃uX:Int,uX=(x4+1)∧fA ⟨[],[],[uX],[],[],[],[]⟩∧iW ⟨[],[],[uX],[],[],[],[]⟩<iW ⟨[],[],[x4],[],[],[],[]⟩))))) (
 ao (.bool false) [ak b0 true ([v0.v,.int .i64 x0]),aB true 72 16 v0.v (ag x1) (aH (ag x1) [au .u8 16 A0]),ak b1 true (adH (al .u8 16 A2) ([])),ak b2 true (adH (al .u8 16 A2) ([])),ak b3 true (adH (al .u8 16 A2) ([]))]))
theorem Qu(ao:Value→List HP→Prop)(x0 x1 x2 x3:Int)(A0 A1 A2:Nat→Int)(v0:V1)(b0:Nat)(h:IJ adY ao x0 x1 x2 x3 A0 A1 A2 v0 b0):aq adY 82 [.pp b0,.sg 16 A2] [ak b0 true ([v0.v,.int .i64 x0]),aB true 72 16 v0.v (ag x1) (aH (ag x1) [au .u8 16 A0])] ao:=
 rk (C:=cx) [.ptr 0 0,.agg [.aX .u8 16 (.aw 2)]] [.row 0 true [.vv 0,.int .i64 (.var 0)],.cc true 0 72 16 (.var 1) [⟨.int .u8,16,.aw 0⟩]] ⟨1,1,4,3,0,0,0⟩ ⟨[x0,x1,x2,x3],[A0,A1,A2],[],[b0],[v0],[],[],[]⟩ Try.func82 (by kernel_rfl) h
def EG(_:Program)(ao:Value→List HP→Prop)(x0 x1 _ _:Int)(A0 _ A2:Nat→Int)(v0:V1)(b0:Nat):Prop:=
 ∀b1 b2 b3 b4:Nat,aM (0≤x1) (
 ∃(fA:Ext→Prop) (iW:Ext→Nat),(∃x4:Int,x4=0∧fA ⟨[],[],[x4],[],[],[],[]⟩)∧
 ∀x4:Int,fA ⟨[],[],[x4],[],[],[],[]⟩→
 aU (x4<x1) (
 aM (0≤x4) (
 aU (∀j,j<16→A2 j=(aP A0 (ag (x4*16))) j) (
 ao (.tuple #[]) [ak b0 true ([v0.v,.int .i64 x0]),aB true 72 16 v0.v (ag x1) (aH (ag x1) [au .u8 16 A0]),ak b1 true (adH (al .u8 16 A2) ([])),ak b2 true (adH (al .u8 16 A2) ([])),ak b3 true (adH (al .u8 16 A2) ([])),ak b4 true (adH (al .u8 16 A2) ([]))]) (
 ur (x4+1) ((
 ∃uX:Int,uX=(x4+1)∧fA ⟨[],[],[uX],[],[],[],[]⟩∧iW ⟨[],[],[uX],[],[],[],[]⟩<iW ⟨[],[],[x4],[],[],[],[]⟩))))) (
 ∀b5:Nat,aM (0≤x1) (
 MJ ((x1+1)*16) (
 ∀v1:V1,aM (0≤(x1+1)) (
 ur ((x1+1) - x0) ((
 aU (0<((x1+1) - x0)) (
 aM (0≤((x1+1) - x0)) (
 aM (((x1+1) - x0)≤(x1+1)) (
 aU (0=((x1+1) - x0)) (
 ao (.tuple #[]) [ak b0 true ([v1.v,.int .i64 x0]),aB true 72 16 v1.v (ag (x1+1)) (aH (ag (x1+1)) [au .u8 16 (aW A0 (ag (x1*16)) 16 A2)]),ak b1 true (adH (al .u8 16 A2) ([])),ak b2 true (adH (al .u8 16 A2) ([])),ak b3 true (adH (al .u8 16 A2) ([])),ak b4 true (adH (al .u8 16 A2) ([])),ak b5 true (adH (al .u8 16 A2) ([]))]) (
 aM (0≤((x1+1) - ((x1+1) - x0))) (
 aM (0≤((x1+1) - ((x1+1) - x0))) (
 aM (((x1+1) - ((x1+1) - x0))≤(x1+1)) (
 aM (0≤((x1+1) - ((x1+1) - ((x1+1) - x0)))) (
 ao (.tuple #[]) [ak b0 true ([(bJ 16 v1.v 0 (ag ((x1+1) - ((x1+1) - x0))) none),.int .i64 x0]),aB true 72 16 v1.v (ag (x1+1)) (aH (ag (x1+1)) [au .u8 16 (aW (aW (aW A0 (ag (x1*16)) 16 A2) 0 (ag (((x1+1) - ((x1+1) - x0))*16)) (aP (aW A0 (ag (x1*16)) 16 A2) (ag (((x1+1) - x0)*16)))) (ag (((x1+1) - ((x1+1) - x0))*16)) (ag (((x1+1) - ((x1+1) - ((x1+1) - x0)))*16)) (fun _=>0))]),ak b1 true (adH (al .u8 16 A2) ([])),ak b2 true (adH (al .u8 16 A2) ([])),ak b3 true (adH (al .u8 16 A2) ([])),ak b4 true (adH (al .u8 16 A2) ([])),ak b5 true (adH (al .u8 16 A2) ([]))])))))))) (
 ao (.tuple #[]) [ak b0 true ([v1.v,.int .i64 x0]),aB true 72 16 v1.v (ag (x1+1)) (aH (ag (x1+1)) [au .u8 16 (aW A0 (ag (x1*16)) 16 A2)]),ak b1 true (adH (al .u8 16 A2) ([])),ak b2 true (adH (al .u8 16 A2) ([])),ak b3 true (adH (al .u8 16 A2) ([])),ak b4 true (adH (al .u8 16 A2) ([])),ak b5 true (adH (al .u8 16 A2) ([]))]))))))))
theorem Nk(ao:Value→List HP→Prop)(x0 x1 x2 x3:Int)(A0 A1 A2:Nat→Int)(v0:V1)(b0:Nat)(h:EG adY ao x0 x1 x2 x3 A0 A1 A2 v0 b0):aq adY 92 [.pp b0,.sg 16 A2] [ak b0 true ([v0.v,.int .i64 x0]),aB true 72 16 v0.v (ag x1) (aH (ag x1) [au .u8 16 A0])] ao:=
 rk (C:=cx) [.ptr 0 0,.agg [.aX .u8 16 (.aw 2)]] [.row 0 true [.vv 0,.int .i64 (.var 0)],.cc true 0 72 16 (.var 1) [⟨.int .u8,16,.aw 0⟩]] ⟨1,1,4,3,0,0,0⟩ ⟨[x0,x1,x2,x3],[A0,A1,A2],[],[b0],[v0],[],[],[]⟩ Try.func92 (by kernel_rfl) h
def IK(_:Program)(ao:Value→List HP→Prop)(x0 x1 x2 x3:Int)(A0 A1 _:Nat→Int)(v0:V1)(b0:Nat):Prop:=
 ∀b1 b2 b3:Nat,aM (0≤x1) (
 ∃(fA:Ext→Prop) (iW:Ext→Nat),(∃x4:Int,x4=0∧fA ⟨[],[],[x4],[],[],[],[]⟩)∧
 ∀x4:Int,fA ⟨[],[],[x4],[],[],[],[]⟩→
 aU (x4<x1) (
 aM (0≤x4) (
 aU ((x2=(A0 (ag x4)))∧(x3=(A1 (ag x4)))) (
 ao (.bool true) [ak b0 true ([v0.v,.int .i64 x0]),aB true 30 2 v0.v (ag x1) (aH (ag x1) [au .u8 1 A0,au .u8 1 A1]),Dw b1 x2 x3,Dw b2 x2 x3,Dw b3 x2 x3]) (
 ur (x4+1) ((
 ∃uX:Int,uX=(x4+1)∧fA ⟨[],[],[uX],[],[],[],[]⟩∧iW ⟨[],[],[uX],[],[],[],[]⟩<iW ⟨[],[],[x4],[],[],[],[]⟩))))) (
 ao (.bool false) [ak b0 true ([v0.v,.int .i64 x0]),aB true 30 2 v0.v (ag x1) (aH (ag x1) [au .u8 1 A0,au .u8 1 A1]),Dw b1 x2 x3,Dw b2 x2 x3,Dw b3 x2 x3]))
theorem Qv(ao:Value→List HP→Prop)(x0 x1 x2 x3:Int)(A0 A1 A2:Nat→Int)(v0:V1)(b0:Nat)(h:IK adY ao x0 x1 x2 x3 A0 A1 A2 v0 b0):aq adY 118 [.pp b0,.dv x2 x3] [ak b0 true ([v0.v,.int .i64 x0]),aB true 30 2 v0.v (ag x1) (aH (ag x1) [au .u8 1 A0,au .u8 1 A1])] ao:=
 rk (C:=cx) [.ptr 0 0,.agg [.int .u8 (.var 2),.int .u8 (.var 3)]] [.row 0 true [.vv 0,.int .i64 (.var 0)],.cc true 0 30 2 (.var 1) [⟨.int .u8,1,.aw 0⟩,⟨.int .u8,1,.aw 1⟩]] ⟨1,1,4,3,0,0,0⟩ ⟨[x0,x1,x2,x3],[A0,A1,A2],[],[b0],[v0],[],[],[]⟩ Try.func118 (by kernel_rfl) h
def EH(_:Program)(ao:Value→List HP→Prop)(x0 x1 x2 x3:Int)(A0 A1 _:Nat→Int)(v0:V1)(b0:Nat):Prop:=
 ∀b1 b2 b3 b4:Nat,aM (0≤x1) (
 ∃(fA:Ext→Prop) (iW:Ext→Nat),(∃x4:Int,x4=0∧fA ⟨[],[],[x4],[],[],[],[]⟩)∧
 ∀x4:Int,fA ⟨[],[],[x4],[],[],[],[]⟩→
 aU (x4<x1) (
 aM (0≤x4) (
 aU ((x2=(A0 (ag x4)))∧(x3=(A1 (ag x4)))) (
 ao (.tuple #[]) [ak b0 true ([v0.v,.int .i64 x0]),aB true 30 2 v0.v (ag x1) (aH (ag x1) [au .u8 1 A0,au .u8 1 A1]),Dw b1 x2 x3,Dw b2 x2 x3,Dw b3 x2 x3,Dw b4 x2 x3]) (
 ur (x4+1) ((
 ∃uX:Int,uX=(x4+1)∧fA ⟨[],[],[uX],[],[],[],[]⟩∧iW ⟨[],[],[uX],[],[],[],[]⟩<iW ⟨[],[],[x4],[],[],[],[]⟩))))) (
 ∀b5:Nat,aM (0≤x1) (
 MJ ((x1+1)*2) (
 ∀v1:V1,aM (0≤(x1+1)) (
 ur ((x1+1) - x0) ((
 aU (0<((x1+1) - x0)) (
 aM (0≤((x1+1) - x0)) (
 aM (((x1+1) - x0)≤(x1+1)) (
 aU (0=((x1+1) - x0)) (
 ao (.tuple #[]) [ak b0 true ([v1.v,.int .i64 x0]),aB true 30 2 v1.v (ag (x1+1)) (aH (ag (x1+1)) [au .u8 1 (aj A0 (ag x1) x2),au .u8 1 (aj A1 (ag x1) x3)]),Dw b1 x2 x3,Dw b2 x2 x3,Dw b3 x2 x3,Dw b4 x2 x3,Dw b5 x2 x3]) (
 aM (0≤((x1+1) - ((x1+1) - x0))) (
 aM (0≤((x1+1) - ((x1+1) - x0))) (
 aM (((x1+1) - ((x1+1) - x0))≤(x1+1)) (
 aM (0≤((x1+1) - ((x1+1) - ((x1+1) - x0)))) (
 ao (.tuple #[]) [ak b0 true ([(bJ 2 v1.v 0 (ag ((x1+1) - ((x1+1) - x0))) none),.int .i64 x0]),aB true 30 2 v1.v (ag (x1+1)) (aH (ag (x1+1)) [au .u8 1 (aW (aW (aj A0 (ag x1) x2) 0 (ag ((x1+1) - ((x1+1) - x0))) (aP (aj A0 (ag x1) x2) (ag ((x1+1) - x0)))) (ag ((x1+1) - ((x1+1) - x0))) (ag ((x1+1) - ((x1+1) - ((x1+1) - x0)))) (fun _=>0)),au .u8 1 (aW (aW (aj A1 (ag x1) x3) 0 (ag ((x1+1) - ((x1+1) - x0))) (aP (aj A1 (ag x1) x3) (ag ((x1+1) - x0)))) (ag ((x1+1) - ((x1+1) - x0))) (ag ((x1+1) - ((x1+1) - ((x1+1) - x0)))) (fun _=>0))]),Dw b1 x2 x3,Dw b2 x2 x3,Dw b3 x2 x3,Dw b4 x2 x3,Dw b5 x2 x3])))))))) (
 ao (.tuple #[]) [ak b0 true ([v1.v,.int .i64 x0]),aB true 30 2 v1.v (ag (x1+1)) (aH (ag (x1+1)) [au .u8 1 (aj A0 (ag x1) x2),au .u8 1 (aj A1 (ag x1) x3)]),Dw b1 x2 x3,Dw b2 x2 x3,Dw b3 x2 x3,Dw b4 x2 x3,Dw b5 x2 x3]))))))))
theorem Nl(ao:Value→List HP→Prop)(x0 x1 x2 x3:Int)(A0 A1 A2:Nat→Int)(v0:V1)(b0:Nat)(h:EH adY ao x0 x1 x2 x3 A0 A1 A2 v0 b0):aq adY 120 [.pp b0,.dv x2 x3] [ak b0 true ([v0.v,.int .i64 x0]),aB true 30 2 v0.v (ag x1) (aH (ag x1) [au .u8 1 A0,au .u8 1 A1])] ao:=
 rk (C:=cx) [.ptr 0 0,.agg [.int .u8 (.var 2),.int .u8 (.var 3)]] [.row 0 true [.vv 0,.int .i64 (.var 0)],.cc true 0 30 2 (.var 1) [⟨.int .u8,1,.aw 0⟩,⟨.int .u8,1,.aw 1⟩]] ⟨1,1,4,3,0,0,0⟩ ⟨[x0,x1,x2,x3],[A0,A1,A2],[],[b0],[v0],[],[],[]⟩ Try.func120 (by kernel_rfl) h
open Go.RX Go.Proofs
structure KG where
 v:V1
 n:Int
 A:Nat→Int
 h0:0≤n
 h1:n≤1000
def zb(b:Nat)(most:Int)(x:KG):List HP:=[ak b true [x.v.v,.int .i64 most],aB true 72 16 x.v.v x.n.toNat (aH x.n.toNat [au .u8 16 x.A])]
def bB(b:Nat)(most:Int):HP:=HP.ex fun x:KG=>HP.star (zb b most x)
theorem IL(b:Nat)(most:Int)(x:KG): ∀h∈zb b most x,h.wr=true:=by
 intro h hh;simp only [zb,List.mem_cons,List.not_mem_nil,or_false]at hh;rcases hh with rfl | rfl<;>rfl
theorem sG(b:Nat)(most:Int)(A2:Nat→Int):
  aq adY 82 [.pointer (some ⟨b,0,none⟩),.agg (adH (al .u8 16 A2) ([])).toArray] [bB b most] (fun r hs=>(∃q,r= .bool q)∧hs=[bB b most]):=by
 refine aq.ex fun x=>aq.pre ?_ (aD.jl _)
 refine aq.post (p:=fun r hs=>(∃q,r= .bool q)∧∃y,hs=zb b most x++y) ?_ fun r hs ⟨h1,y,h2⟩=>⟨_,?_,h1,rfl⟩
 ·refine Qu _ most x.n 0 0 x.A (fun _=>0) A2 x.v b ?_;unfold IJ;have h0:=x.h0;have h1:=x.h1
  intros
  refine⟨h0,fun _=>⟨fun e=>0≤e.i.getD 0 0,fun e=>(x.n - e.i.getD 0 0).toNat,⟨0,rfl,Int.le_refl _⟩,?_⟩⟩;intro i hi;simp only [ah]at hi;refine⟨fun cK=>⟨hi,fun _=>⟨fun _=>⟨⟨_,rfl⟩,_,rfl⟩,fun _=>⟨by omega,fun _=>⟨by omega,fun _=>⟨_,rfl,?_,?_⟩⟩⟩⟩⟩,fun _=>⟨⟨_,rfl⟩,_,rfl⟩⟩
  ·simp only [ah];omega
  ·simp only [ah];omega
 ·subst h2;exact aD.trans (aD.sub (List.sublist_append_left _ _)) (aD.trans (aD.star (IL b most x)) (aD.ex (F:=fun x:KG=>HP.star (zb b most x)) x rfl))
open Go.RX Go.Proofs
theorem G5(f:Nat→Int)(k n:Nat)(h:k≤n):(aH n [au .u8 16 f]).take (k*16)=aH k [au .u8 16 f]:=by
 have len: ∀m,(aH m [au .u8 16 f]).length=m*16:=by
  intro m;unfold aH
  induction m with
  | zero=>rfl
  | succ m ih=>rw [List.range_succ,List.flatMap_append,List.length_append,ih];simp [au,al];omega
 have sp:aH n [au .u8 16 f]=aH k [au .u8 16 f]++((aec (n - k)).map (k+ ·)).flatMap fun i=>[au .u8 16 f].flatMap fun c=>c i:=by
  have e:n=k+(n - k):=by omega
  unfold aH;rw [←List.flatMap_append,←List.range_add,←e]
 rw [sp,List.take_left' (len k)]
theorem qV(b:Nat)(most:Int)(z:KG)(y:List HP):aD (zb b most z++y) [bB b most]:=
 aD.trans (aD.sub (List.sublist_append_left _ _)) (aD.trans (aD.star (IL b most z)) (aD.ex (F:=fun x:KG=>HP.star (zb b most x)) z rfl))
theorem Nm(b:Nat)(most:Int)(v:V1)(n k:Nat)(A:Nat→Int)(h:k≤n)(hk:k≤1000)(y:List HP):
  aD (ak b true [bJ 16 v.v 0 k none,.int .i64 most]::aB true 72 16 v.v n (aH n [au .u8 16 A])::y) [bB b most]:=by
 refine aD.trans (aD.put 1 _ (aB true 72 16 (bJ 16 v.v 0 k none) k (aH k [au .u8 16 A])) rfl (fun _=>rfl) fun w S hp=>⟨S,fun _ h=>h,?_⟩) (qV b most ⟨⟨bJ 16 v.v 0 k none,om ..⟩,(k:Int),A,by omega,by omega⟩ y);have:=Ir hp (k:=k) (by omega);rw [G5 _ _ _ h]at this;exact this
theorem mT(b:Nat)(most:Int)(A2:Nat→Int)(JM:0≤most)(Yc:most≤500):
  aq adY 92 [.pointer (some ⟨b,0,none⟩),.agg (adH (al .u8 16 A2) ([])).toArray] [bB b most] (fun r hs=>r= .tuple #[]∧hs=[bB b most]):=by
 refine aq.ex fun x=>aq.pre ?_ (aD.jl _)
 refine aq.post (p:=fun r hs=>r= .tuple #[]∧aD hs [bB b most]) ?_ fun r hs ⟨h1,h2⟩=>⟨_,h2,h1,rfl⟩
 refine Nk _ most x.n 0 0 x.A (fun _=>0) A2 x.v b ?_;unfold EG;have h0:=x.h0;have h1:=x.h1
 intros
 refine⟨h0,fun _=>⟨fun e=>0≤e.i.getD 0 0,fun e=>(x.n - e.i.getD 0 0).toNat,⟨0,rfl,Int.le_refl _⟩,?_⟩⟩;intro i hi;simp only [ah]at hi;refine⟨fun cK=>⟨hi,fun _=>⟨fun _=>⟨rfl,qV b most x _⟩,fun _=>⟨by omega,fun _=>⟨by omega,fun _=>⟨_,rfl,?_,?_⟩⟩⟩⟩⟩,fun _=>?_⟩
 ·simp only [ah];omega
 ·simp only [ah];omega
 ·intro b5;refine⟨h0,fun _=>⟨by omega,fun _=>fun v1=>⟨by omega,fun _=>⟨by omega,fun _=>⟨by omega,fun _=>⟨fun U1=>⟨by omega,fun _=>⟨by omega,fun _=>⟨fun hz=>absurd hz (by omega),fun _=>⟨by omega,fun _=>⟨by omega,fun _=>⟨by omega,fun _=>⟨by omega,fun _=>⟨rfl,?_⟩⟩⟩⟩⟩⟩⟩⟩,fun Sv=>⟨rfl,?_⟩⟩⟩⟩⟩⟩⟩
  ·exact Nm b most v1 _ _ _ (by omega) (by omega) _
  ·exact qV b most ⟨v1,x.n+1,_,by omega,by omega⟩ _
open Go.RX Go.Proofs
structure Nn where
 v:V1
 n:Int
 A:Nat→Int
 B:Nat→Int
 h0:0≤n
 h1:n≤1000
def EI(b:Nat)(most:Int)(x:Nn):List HP:=[ak b true [x.v.v,.int .i64 most],aB true 30 2 x.v.v x.n.toNat (aH x.n.toNat [au .u8 1 x.A,au .u8 1 x.B])]
def nZ(b:Nat)(most:Int):HP:=HP.ex fun x:Nn=>HP.star (EI b most x)
theorem Qw(b:Nat)(most:Int)(x:Nn): ∀h∈EI b most x,h.wr=true:=by
 intro h hh;simp only [EI,List.mem_cons,List.not_mem_nil,or_false]at hh;rcases hh with rfl | rfl<;>rfl
theorem lx(b:Nat)(most:Int)(z:Nn)(y:List HP):aD (EI b most z++y) [nZ b most]:=
 aD.trans (aD.sub (List.sublist_append_left _ _)) (aD.trans (aD.star (Qw b most z)) (aD.ex (F:=fun x:Nn=>HP.star (EI b most x)) z rfl))
theorem KH(f g:Nat→Int)(k n:Nat)(h:k≤n):(aH n [au .u8 1 f,au .u8 1 g]).take (k*2)=aH k [au .u8 1 f,au .u8 1 g]:=by
 have len: ∀m,(aH m [au .u8 1 f,au .u8 1 g]).length=m*2:=by
  intro m;unfold aH
  induction m with
  | zero=>rfl
  | succ m ih=>rw [List.range_succ,List.flatMap_append,List.length_append,ih];simp [au,al];omega
 have sp:aH n [au .u8 1 f,au .u8 1 g]=aH k [au .u8 1 f,au .u8 1 g]++((aec (n - k)).map (k+ ·)).flatMap fun i=>[au .u8 1 f,au .u8 1 g].flatMap fun c=>c i:=by
  have e:n=k+(n - k):=by omega
  unfold aH;rw [←List.flatMap_append,←List.range_add,←e]
 rw [sp,List.take_left' (len k)]
theorem Np(b:Nat)(most:Int)(v:V1)(n k:Nat)(A B:Nat→Int)(h:k≤n)(hk:k≤1000)(y:List HP):
  aD (ak b true [bJ 2 v.v 0 k none,.int .i64 most]::aB true 30 2 v.v n (aH n [au .u8 1 A,au .u8 1 B])::y) [nZ b most]:=by
 refine aD.trans (aD.put 1 _ (aB true 30 2 (bJ 2 v.v 0 k none) k (aH k [au .u8 1 A,au .u8 1 B])) rfl (fun _=>rfl) fun w S hp=>⟨S,fun _ h=>h,?_⟩) (lx b most ⟨⟨bJ 2 v.v 0 k none,om ..⟩,(k:Int),A,B,by omega,by omega⟩ y);have:=Ir hp (k:=k) (by omega);rw [KH _ _ _ _ h]at this;exact this
theorem G6(b:Nat)(most x2 x3:Int):
  aq adY 118 [.pointer (some ⟨b,0,none⟩),.agg #[.int .u8 x2,.int .u8 x3]] [nZ b most] (fun r hs=>(∃q,r= .bool q)∧hs=[nZ b most]):=by
 refine aq.ex fun x=>aq.pre ?_ (aD.jl _)
 refine aq.post (p:=fun r hs=>(∃q,r= .bool q)∧aD hs [nZ b most]) ?_ fun r hs ⟨h1,h2⟩=>⟨_,h2,h1,rfl⟩
 refine Qv _ most x.n x2 x3 x.A x.B (fun _=>0) x.v b ?_;unfold IK;have h0:=x.h0;have h1:=x.h1
 intros
 refine⟨h0,fun _=>⟨fun e=>0≤e.i.getD 0 0,fun e=>(x.n - e.i.getD 0 0).toNat,⟨0,rfl,Int.le_refl _⟩,?_⟩⟩;intro i hi;simp only [ah]at hi;refine⟨fun cK=>⟨hi,fun _=>⟨fun _=>⟨⟨_,rfl⟩,lx b most x _⟩,fun _=>⟨by omega,fun _=>⟨by omega,fun _=>⟨_,rfl,?_,?_⟩⟩⟩⟩⟩,fun _=>⟨⟨_,rfl⟩,lx b most x _⟩⟩
 ·simp only [ah];omega
 ·simp only [ah];omega
theorem EJ(b:Nat)(most x2 x3:Int)(JM:0≤most)(Yc:most≤500):
  aq adY 120 [.pointer (some ⟨b,0,none⟩),.agg #[.int .u8 x2,.int .u8 x3]] [nZ b most] (fun r hs=>r= .tuple #[]∧hs=[nZ b most]):=by
 refine aq.ex fun x=>aq.pre ?_ (aD.jl _)
 refine aq.post (p:=fun r hs=>r= .tuple #[]∧aD hs [nZ b most]) ?_ fun r hs ⟨h1,h2⟩=>⟨_,h2,h1,rfl⟩
 refine Nl _ most x.n x2 x3 x.A x.B (fun _=>0) x.v b ?_;unfold EH;have h0:=x.h0;have h1:=x.h1
 intros
 refine⟨h0,fun _=>⟨fun e=>0≤e.i.getD 0 0,fun e=>(x.n - e.i.getD 0 0).toNat,⟨0,rfl,Int.le_refl _⟩,?_⟩⟩;intro i hi;simp only [ah]at hi;refine⟨fun cK=>⟨hi,fun _=>⟨fun _=>⟨rfl,lx b most x _⟩,fun _=>⟨by omega,fun _=>⟨by omega,fun _=>⟨_,rfl,?_,?_⟩⟩⟩⟩⟩,fun _=>?_⟩
 ·simp only [ah];omega
 ·simp only [ah];omega
 ·intro b5;refine⟨h0,fun _=>⟨by omega,fun _=>fun v1=>⟨by omega,fun _=>⟨by omega,fun _=>⟨by omega,fun _=>⟨fun U1=>⟨by omega,fun _=>⟨by omega,fun _=>⟨fun hz=>absurd hz (by omega),fun _=>⟨by omega,fun _=>⟨by omega,fun _=>⟨by omega,fun _=>⟨by omega,fun _=>⟨rfl,?_⟩⟩⟩⟩⟩⟩⟩⟩,fun Sv=>⟨rfl,?_⟩⟩⟩⟩⟩⟩⟩
  ·exact Np b most v1 _ _ _ _ (by omega) (by omega) _
  ·exact lx b most ⟨v1,x.n+1,_,_,by omega,by omega⟩ _
end Go.RX.Mm

namespace Go.RX.Ct
open Go.RX Go.Proofs Go.Cp Go.RX.Cs
def rL(A:dx)(n:Nat)(x:Nat→Int)(id:Nat→Int):dx:=fun c=>if c=0 then aW (A 0) (n*16) 16 id else aj (A c) n (x c)
theorem VA(A:dx){n j:Nat}(x:Nat→Int)(id:Nat→Int)(h:j<n):rp (rL A n x id) j=rp A j:=by
 simp [rp,rL,qT h,oQ h]
theorem VB(A:dx){n:Nat}(x:Nat→Int)(id:Nat→Int):rp (rL A n x id) n=(bM (aJ id 0 16),(x 4).toNat):=by
 simp [rp,rL,nX,oR]
abbrev a_(id:Nat→Int):Nat:=bM (aJ id 0 16)
def zK:List Int:=aJ (fun _=>0) 0 32
theorem iS(b b1 i now:Nat)(m:MR)(o:List (Mg (List Int)))(e:List (Ev (List Int)))(r:List (Nat×Nat))(he:e.length≤1000)(hr:r.length≤1000)(oc:Int)(hb:0≤m.aK):
  aq adY 93 [.pointer (some ⟨b1,0,none⟩),.pointer (some ⟨b,0,none⟩),.int .u8 oc,.int .u64 (now:Int)]
   [aY b i now o e r,cn b1 m,Mm.bB m.dead 256] fun rv hs=>rv= .tuple #[]∧hs=[aY b i now o (e++[⟨5,a_ m.id,0,zK⟩]) (r++[(a_ m.id,m.aK.toNat)]),cn b1 {m with st:=0},Mm.bB m.dead 256]:=by
 refine aq.ex fun x=>aq.pre ?_ (aD.frame (aD.jl (KF b x)) [cn b1 m,Mm.bB m.dead 256])
 let xs:Nat→Int:=fun c=>if c=0 then 5 else if c=1 then m.a else if c=2 then m.d else if c=3 then(now:Int)else if c=5 then m.ac else if c=6 then 0 else if c=7 then 0 else oc
 let ys:Nat→Int:=fun c=>if c=1 then m.ac else if c=2 then m.out else if c=3 then oc else if c=4 then m.aK else if c=5 then m.cf else(now:Int)
 refine aq.post (p:=fun rv hs=> ∃gN,hs=gN++[nY x.v0 o.length x.Ao]∧rv= .tuple #[]∧∃(v v':V1) (y:List HP),gN=[ak b true [x.v0.v,v.v,v'.v],u0 v (e.length+1) (kN x.Ae e.length xs m.id fun _=>0),u3 v' (r.length+1) (rL x.Ar r.length ys m.id),cn b1 {m with st:=0},Mm.bB m.dead 256]++y) ?_ ?_
 ·refine aq.pre (Gm:=([ak b true [x.v0.v,x.v1.v,x.v2.v],u0 x.v1 e.length x.Ae,u3 x.v2 r.length x.Ar,cn b1 m,Mm.bB m.dead 256]++[nY x.v0 o.length x.Ao])) ?_ ?_
  ·exact(S9 (fun rv gN=>rv= .tuple #[]∧∃(v v':V1) (y:List HP),gN=[ak b true [x.v0.v,v.v,v'.v],u0 v (e.length+1) (kN x.Ae e.length xs m.id fun _=>0),u3 v' (r.length+1) (rL x.Ar r.length ys m.id),cn b1 {m with st:=0},Mm.bB m.dead 256]++y)
    (e.length:Int) (r.length:Int) m.a m.d m.st m.out m.ac m.pa m.pd m.h_ m.early m.aK m.cf m.since m.heard m.bD m.bq oc (now:Int)
    (x.Ae 0) (x.Ae 1) (x.Ae 2) (x.Ae 3) (x.Ae 4) (x.Ae 5) (x.Ae 6) (x.Ae 7) (x.Ae 8) (x.Ae 9) (x.Ar 0) (x.Ar 1) (x.Ar 2) (x.Ar 3) (x.Ar 4) (x.Ar 5) (x.Ar 6) m.dv m.id m.own m.off m.dg x.v0 x.v1 x.v2 b b1 m.dead (Mm.bB m.dead 256) (by
     unfold Nb;intro b3 b4;have e1:((e.length:Int)+1).toNat=e.length+1:=by omega
     have e2:((e.length:Int)*16).toNat=e.length*16:=by omega
     have e3:((e.length:Int)*32).toNat=e.length*32:=by omega
     have e4:((r.length:Int)+1).toNat=r.length+1:=by omega
     have e5:((r.length:Int)*16).toNat=r.length*16:=by omega
     rw [e1,e2,e3,e4,e5,Int.toNat_natCast,Int.toNat_natCast];refine⟨by omega,fun _=>⟨by omega,fun _ v=>fun b5=>⟨by omega,fun _=>⟨by omega,fun _ v'=>⟨_,Mm.mT m.dead 256 m.id (by decide) (by decide),?_⟩⟩⟩⟩⟩;rintro q hs ⟨rfl,rfl⟩;exact⟨rfl,rfl,rfl,v,v',_,rfl⟩)).frame [nY x.v0 o.length x.Ao]
  ·exact iX [0,2,3,4,5,1] (by decide) rfl
 ·rintro rv hs ⟨gN,rfl,h,v,v',y,rfl⟩;refine⟨_,?_,h,rfl⟩;have hl:(e++[(⟨5,a_ m.id,0,zK⟩:Ev (List Int))]).length=e.length+1:=by simp
  have UK:(r++[(a_ m.id,m.aK.toNat)]).length=r.length+1:=by simp
  have:=qU b (i:=i) (now:=now) (r:=r++[(a_ m.id,m.aK.toNat)]) (o:=o) (e:=e++[⟨5,a_ m.id,0,zK⟩]) ⟨x.v0,v,v',x.Ao,kN x.Ae e.length xs m.id fun _=>0,rL x.Ar r.length ys m.id,x.ho,x.hd,?_,?_,?_,?_⟩
  ·unfold KF at this;rw [hl,UK]at this;refine aD.trans ?_ (aD.frame this [cn b1 {m with st:=0},Mm.bB m.dead 256]);refine aD.trans (b:=[ak b true [x.v0.v,v.v,v'.v],u0 v (e.length+1) (kN x.Ae e.length xs m.id fun _=>0),u3 v' (r.length+1) (rL x.Ar r.length ys m.id),cn b1 {m with st:=0},Mm.bB m.dead 256,nY x.v0 o.length x.Ao]) (aD.sub ?_) (iX [0,5,1,2,3,4] (by decide) rfl);simp
  ·rw [hl,map_push (f:=sF x.Ae) (fun j hj=>Ry _ _ _ _ hj) (Rz _ _ _ _),←x.he];simp [xs,zK]
  ·intro j hj;rw [hl]at hj;by_cases Qt:j=e.length
   ·subst Qt;simp [kN,oR,xs]
   ·have:=x.hp j (by omega);simpa [kN,oQ (show j<e.length by omega)] using this
  ·rw [UK,map_push (f:=rp x.Ar) (fun j hj=>VA _ _ _ hj) (VB _ _ _),←x.hr];simp [ys]
  ·intro j hj;rw [UK]at hj;by_cases Qt:j=r.length
   ·subst Qt;simp [rL,oR,ys,hb]
   ·have:=x.hn j (by omega);simpa [rL,oQ (show j<r.length by omega)] using this
end Go.RX.Ct

namespace Go.RX.Cu
open Go.RX Go.Proofs Go.Cp Go.RX.Cs Go.RX.Ct
theorem leave{f:Nat}{args:List Value}{pre T:List HP}(h:aq adY f args pre fun rv hs=>rv= .tuple #[]∧∃y,hs=T++y):aq adY f args pre fun rv hs=>rv= .tuple #[]∧hs=T:=
 h.post fun _ _ ⟨h1,_,h2⟩=>⟨T,h2▸aD.sub (List.sublist_append_left _ _),h1,rfl⟩
abbrev eh(a d:Int):Nat:=(2*a+d).toNat
theorem Aw(b b1 i now:Nat)(m:MR)(o:List (Mg (List Int)))(e:List (Ev (List Int)))(r:List (Nat×Nat))(hB:o.length≤900∧e.length≤900∧r.length≤900)(Nq:0≤m.pa∧m.pa<2)(Nr:0≤m.pd∧m.pd<2)(ow:m.st≠1)(hb:0≤m.aK)(EK oc:Int):
  aq adY 95 [.pointer (some ⟨b1,0,none⟩),.pointer (some ⟨b,0,none⟩),.int .u8 EK,.int .u8 oc,.int .u64 (now:Int)] [aY b i now o e r,cn b1 m,Mm.bB m.dead 256]
   fun rv hs=>rv= .tuple #[]∧hs=[aY b i now (o++[⟨5,a_ m.id,i,eh m.pa m.pd,zK⟩]) (e++[⟨5,a_ m.id,0,zK⟩]) (r++[(a_ m.id,m.aK.toNat)]),cn b1 {m with st:=0},Mm.bB m.dead 256]:=by
 refine leave ?_;refine G0 _ m.a m.d m.st m.out m.ac m.pa m.pd m.h_ m.early m.aK m.cf m.since m.heard m.bD m.bq 0 0 0 0 0 EK oc (now:Int) 0 0 0 0 0 0 0 0 0 0 0 0 0 0 0 0 0 m.dv m.id m.own m.off m.dg (fun _=>0) (fun _=>0) (fun _=>0) (fun _=>0) (fun _=>0) b b1 m.dead (Mm.bB m.dead 256) (Mm.bB m.dead 256) (Mm.bB m.dead 256) (aY b i now o e r) ?_;unfold y9;refine⟨fun h=>absurd h ow,fun _=>fun b3=>⟨_,cd b i now o e r (by omega) m.pa m.pd 5 0 0 0 0 EK m.id (fun _=>0) Nq Nr (by decide),?_⟩⟩;rintro x hs ⟨rfl,rfl⟩;refine⟨_,rfl,rfl,_,iS b b1 i now m _ e r (by omega) (by omega) oc hb,?_⟩;rintro x hs ⟨rfl,rfl⟩;exact⟨_,rfl,rfl,rfl,_,rfl⟩
theorem Ax(b b1 i now:Nat)(m:MR)(o:List (Mg (List Int)))(e:List (Ev (List Int)))(r:List (Nat×Nat))(hB:o.length≤900∧e.length≤900∧r.length≤900)(pa pd:Int)(Nq:0≤pa∧pa<2)(Nr:0≤pd∧pd<2):
  aq adY 117 [.pointer (some ⟨b1,0,none⟩),.pointer (some ⟨b,0,none⟩),.agg #[.int .u8 pa,.int .u8 pd],.int .u64 (now:Int)] [aY b i now o e r,cn b1 m,Mm.bB m.dead 256]
   fun rv hs=>rv= .tuple #[]∧hs=[aY b i now o (e++[⟨3,a_ m.id,eh pa pd,zK⟩]) r,cn b1 {m with st:=3,since:=(now:Int),pa:=pa,pd:=pd},Mm.bB m.dead 256]:=by
 refine leave ?_;refine GY _ m.a m.d m.st m.out m.ac m.pa m.pd m.h_ m.early m.aK m.cf m.since m.heard m.bD m.bq 0 0 0 0 0 pa pd (now:Int) 0 0 0 0 0 0 0 0 0 0 0 0 0 0 0 0 0 m.dv m.id m.own m.off m.dg (fun _=>0) (fun _=>0) (fun _=>0) (fun _=>0) (fun _=>0) b b1 m.dead (Mm.bB m.dead 256) (Mm.bB m.dead 256) (Mm.bB m.dead 256) (aY b i now o e r) ?_;unfold y7;refine fun b3=>⟨_,kx b b1 i now {m with st:=3,since:=(now:Int),pa:=pa,pd:=pd} o e r (by omega) 3 (now:Int) 0 0 0 0 0 pa pd 0 (fun _=>0) (fun _=>0) Nq Nr (by decide),?_⟩
 rintro x hs ⟨rfl,rfl⟩;exact⟨_,rfl,rfl,rfl,_,rfl⟩
theorem v_(b b1 i now:Nat)(m:MR)(o:List (Mg (List Int)))(e:List (Ev (List Int)))(r:List (Nat×Nat))(hB:o.length≤900∧e.length≤900∧r.length≤900)(bF bA bG bO bQ bN:Int)(A5 A6:Nat→Int):
  aq adY 115 [.pointer (some ⟨b1,0,none⟩),.pointer (some ⟨b,0,none⟩),.agg (.int .u8 bF::(adH (al .u8 16 A5) (.int .u8 bA::(.int .u8 bG::(.int .u8 bO::(adH (al .u8 32 A6) ([.int .u32 bQ,.slice none 0 0,.int .u8 bN]))))))).toArray,.int .u64 (now:Int)] [aY b i now o e r,cn b1 m,Mm.bB m.dead 256]
   fun rv hs=>rv= .tuple #[]∧hs=[aY b i now o (e++[⟨2,a_ A5,0,zK⟩]) r,cn b1 {m with st:=2,id:=A5,out:=0,ac:=bA,pa:=bA,pd:=bG,own:=fun _=>0,off:=A6,dg:=fun _=>0,aK:=(now:Int),cf:=0,since:=(now:Int),heard:=0,bD:=0,bq:=0},Mm.bB m.dead 256]:=by
 refine leave ?_;refine Na _ m.a m.d m.st m.out m.ac m.pa m.pd m.h_ m.early m.aK m.cf m.since m.heard m.bD m.bq 0 0 0 0 0 0 0 (now:Int) bF bA bG bO bQ bN 0 0 0 0 0 0 0 0 0 0 0 m.dv m.id m.own m.off m.dg A5 A6 (fun _=>0) (fun _=>0) (fun _=>0) b b1 m.dead (Mm.bB m.dead 256) (Mm.bB m.dead 256) (Mm.bB m.dead 256) (aY b i now o e r) ?_;unfold Ex;refine fun b3 b4=>⟨_,kx b b1 i now {m with st:=2,id:=A5,out:=0,ac:=bA,pa:=bA,pd:=bG,own:=fun _=>0,off:=A6,dg:=fun _=>0,aK:=(now:Int),cf:=0,since:=(now:Int),heard:=0,bD:=0,bq:=0} o e r (by omega) 2 (now:Int) 0 0 0 0 0 0 0 0 (fun _=>0) (fun _=>0) (by decide) (by decide) (by decide),?_⟩
 rintro x hs ⟨rfl,rfl⟩;exact⟨_,rfl,rfl,rfl,_,rfl⟩
end Go.RX.Cu
