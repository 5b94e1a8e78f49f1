/- A call machine's step in memory. -/
import Derived.Test.YtphemenngjkfbaaM32
open Go.Proofs.Try renaming prog → agQ
open Int renaming toNat → ag
open List renaming append → agw, getD_cons_zero → ah, map_congr_left → ag4, mem_range → agJ, range → ag5
namespace Go.RX.Cs
open Go.RX Go.Proofs Go.Cp
def aN(A:Nat→Int)(o n:Nat):List Int:=(ag5 n).map fun t=>A (o+t)
theorem ld{f g:Nat→Int}{k n:Nat}:aN (aG f (k*n) n g) (k*n) n=aN g 0 n:=by
 refine ag4 fun t ht=>?_
 have:=agJ.1 ht;simp only [aG];rw [if_pos (by omega)];congr 1;omega
theorem po{f g:Nat→Int}{j k n:Nat}(h:j<k):aN (aG f (k*n) n g) (j*n) n=aN f (j*n) n:=by
 refine ag4 fun t ht=>?_
 have:=agJ.1 ht;have h2:(j+1)*n≤k*n:=Nat.mul_le_mul_right n h;rw [Nat.succ_mul]at h2;simp only [aG];rw [if_neg (by omega)]
abbrev cI:=Nat→Nat→Int
def GW(i:Nat)(A:cI)(j:Nat):Mg (List Int):=⟨(A 2 j).toNat,bG (aN (A 3) (j*16) 16),i,(2*A 0 j+A 1 j).toNat,aN (A 7) (j*32) 32,(A 9 j).toNat⟩
def qe(A:cI)(j:Nat):Ev (List Int):=⟨(A 0 j).toNat,bG (aN (A 4) (j*16) 16),(2*A 6 j+A 7 j).toNat,aN (A 8) (j*32) 32,(A 9 j).toNat⟩
def nJ(A:cI)(j:Nat):Rc:=⟨bG (aN (A 0) (j*16) 16),(A 4 j).toNat,!(A 2 j==0),(A 3 j).toNat,(A 5 j).toNat⟩
abbrev gQ(i:Nat):Int:=((1 - i/2:Nat):Int)
abbrev YM(A:cI):List (Nat→List Value):=[ax .u8 1 (A 0),ax .u8 1 (A 1),ax .u8 1 (A 2),ax .u8 16 (A 3),ax .u8 1 (A 4),ax .u8 1 (A 5),ax .u8 1 (A 6),ax .u8 32 (A 7),ax .u32 1 (A 8),dC 1 (fun _=> .slice none 0 0),ax .u8 1 (A 9)]
abbrev ER(A:cI):List (Nat→List Value):=[ax .u8 1 (A 0),ax .u8 1 (A 1),ax .u8 1 (A 2),ax .u64 1 (A 3),ax .u8 16 (A 4),ax .u8 1 (A 5),ax .u8 1 (A 6),ax .u8 1 (A 7),ax .u8 32 (A 8),ax .u8 1 (A 9)]
abbrev yZ(A:cI):List (Nat→List Value):=[ax .u8 16 (A 0),ax .u8 1 (A 1),oh 1 (A 2),ax .u8 1 (A 3),ax .u64 1 (A 4),ax .u64 1 (A 5),ax .u64 1 (A 6)]
def oG(A:cI)(n:Nat)(x:Nat→Int)(id key:Nat→Int):cI:=fun c=>if c=3 then aG (A 3) (n*16) 16 id else if c=7 then aG (A 7) (n*32) 32 key else aj (A c) n (x c)
def mw(A:cI)(n:Nat)(x:Nat→Int)(id key:Nat→Int):cI:=fun c=>if c=4 then aG (A 4) (n*16) 16 id else if c=8 then aG (A 8) (n*32) 32 key else aj (A c) n (x c)
theorem lf{f:Nat→Int}{j n:Nat}{x:Int}(h:j<n):aj f n x j=f j:=if_neg (by omega)
theorem lg{f:Nat→Int}{n:Nat}{x:Int}:aj f n x n=x:=if_pos rfl
theorem VN(i:Nat)(A:cI){n j:Nat}(x:Nat→Int)(id key:Nat→Int)(h:j<n):GW i (oG A n x id key) j=GW i A j:=by
 simp [GW,oG,po h,lf h]
theorem VO(i:Nat)(A:cI){n:Nat}(x:Nat→Int)(id key:Nat→Int):GW i (oG A n x id key) n=⟨(x 2).toNat,bG (aN id 0 16),i,(2*x 0+x 1).toNat,aN key 0 32,(x 9).toNat⟩:=by
 simp [GW,oG,ld,lg]
theorem Un(A:cI){n j:Nat}(x:Nat→Int)(id key:Nat→Int)(h:j<n):qe (mw A n x id key) j=qe A j:=by
 simp [qe,mw,po h,lf h]
theorem Uo(A:cI){n:Nat}(x:Nat→Int)(id key:Nat→Int):qe (mw A n x id key) n=⟨(x 0).toNat,bG (aN id 0 16),(2*x 6+x 7).toNat,aN key 0 32,(x 9).toNat⟩:=by
 simp [qe,mw,ld,lg]
theorem map_push{α:Type}{f g:Nat→α}{n:Nat}{y:α}(h: ∀j,j<n→g j=f j)(e:g n=y):(ag5 (n+1)).map g=(ag5 n).map f++[y]:=by
 rw [List.range_succ,List.map_append,List.map_singleton,e];congr 1;exact ag4 fun j hj=>h j (agJ.1 hj)
structure KO (i now:Nat) (o:List (Mg (List Int))) (e:List (Ev (List Int))) (r:List Rc) where
 v0:V1
 v1:V1
 v2:V1
 Ao:cI
 Ae:cI
 Ar:cI
 ho:o=(ag5 o.length).map (GW i Ao)
 hd: ∀j,j<o.length→0≤Ao 0 j∧Ao 0 j<2∧0≤Ao 1 j∧Ao 1 j<2∧0≤Ao 2 j
 he:e=(ag5 e.length).map (qe Ae)
 hp: ∀j,j<e.length→0≤Ae 6 j∧Ae 6 j<2∧0≤Ae 7 j∧Ae 7 j<2∧0≤Ae 0 j∧Ae 1 j=((i/2:Nat):Int)∧Ae 2 j=((i%2:Nat):Int)∧Ae 3 j=now∧Ae 5 j=gQ i∧0≤Ae 9 j
 hr:r=(ag5 r.length).map (nJ Ar)
 hn: ∀j,j<r.length→Ar 6 j=now∧0≤Ar 4 j∧Ar 1 j=gQ i∧0≤Ar 3 j∧0≤Ar 5 j
abbrev pq(v:V1)(n:Nat)(A:cI):HP:=aC true 111 57 v.v n (aT n (YM A))
abbrev xk(v:V1)(n:Nat)(A:cI):HP:=aC true 76 56 v.v n (aT n (ER A))
abbrev xl(v:V1)(n:Nat)(A:cI):HP:=aC true 85 22 v.v n (aT n (yZ A))
variable {i now:Nat} {o:List (Mg (List Int))} {e:List (Ev (List Int))} {r:List Rc}
def MT(b:Nat)(x:KO i now o e r):List HP:=[ao b true [x.v0.v,x.v1.v,x.v2.v],pq x.v0 o.length x.Ao,xk x.v1 e.length x.Ae,xl x.v2 r.length x.Ar]
theorem VP(b:Nat)(x:KO i now o e r): ∀h∈MT b x,h.wr=true:=by
 intro h hh;simp only [MT,List.mem_cons,List.not_mem_nil,or_false]at hh;rcases hh with rfl | rfl | rfl | rfl<;>rfl
def aZ(b i now:Nat)(o:List (Mg (List Int)))(e:List (Ev (List Int)))(r:List Rc):HP:=HP.ex fun x:KO i now o e r=>HP.star (MT b x)
theorem sr(b:Nat)(x:KO i now o e r):aB (MT b x) [aZ b i now o e r]:=aB.trans (aB.star (VP b x)) (aB.ex (F:=fun x:KO i now o e r=>HP.star (MT b x)) x rfl)
theorem cA(b i now:Nat)(o:List (Mg (List Int)))(e:List (Ev (List Int)))(r:List Rc)(ho:o.length≤1000)(x1 x2 x3 x4 x5 x6 x7 x8:Int)(dT dU:Nat→Int)(h1:0≤x1∧x1<2)(h2:0≤x2∧x2<2)(h3:0≤x3):
  au agQ 96 [.pointer (some ⟨b,0,none⟩),.agg #[.int .u8 x1,.int .u8 x2],.agg (.int .u8 x3::(agw (ak .u8 16 dT) (.int .u8 x4::(.int .u8 x5::(.int .u8 x6::(agw (ak .u8 32 dU) ([.int .u32 x7,.slice none 0 0,.int .u8 x8]))))))).toArray]
   [aZ b i now o e r] fun rv hs=>rv= .tuple #[]∧hs=[aZ b i now (o++[⟨x3.toNat,bG (aN dT 0 16),i,(2*x1+x2).toNat,aN dU 0 32,x8.toNat⟩]) e r]:=by
 refine au.ex fun x=>au.pre ?_ (aB.eQ _)
 refine au.post (p:=fun rv hs=> ∃ey,hs=ey++[xk x.v1 e.length x.Ae,xl x.v2 r.length x.Ar]∧rv= .tuple #[]∧∃(v:V1) (y:List HP),ey=[ao b true [v.v,x.v1.v,x.v2.v],pq v (o.length+1) (oG x.Ao o.length (fun c=>if c=0 then x1 else if c=1 then x2 else if c=2 then x3 else if c=4 then x4 else if c=5 then x5 else if c=6 then x6 else if c=8 then x7 else x8) dT dU)]++y) ?_ ?_
 ·have:=(SP (fun rv ey=>rv= .tuple #[]∧∃(v:V1) (y:List HP),ey=[ao b true [v.v,x.v1.v,x.v2.v],pq v (o.length+1) (oG x.Ao o.length (fun c=>if c=0 then x1 else if c=1 then x2 else if c=2 then x3 else if c=4 then x4 else if c=5 then x5 else if c=6 then x6 else if c=8 then x7 else x8) dT dU)]++y) (o.length:Int) x1 x2 x3 x4 x5 x6 x7 x8
   (x.Ao 0) (x.Ao 1) (x.Ao 2) (x.Ao 3) (x.Ao 4) (x.Ao 5) (x.Ao 6) (x.Ao 7) (x.Ao 8) (x.Ao 9) (fun _=>0) (fun _=>0) dT dU x.v0 x.v1 x.v2 b (by
    unfold KN;intro b1 b2 b3;have e1:((o.length:Int)+1).toNat=o.length+1:=by omega
    have e2:((o.length:Int)*16).toNat=o.length*16:=by omega
    have e3:((o.length:Int)*32).toNat=o.length*32:=by omega
    rw [e1,e2,e3,Int.toNat_natCast];exact⟨by omega,fun _=>⟨by omega,fun _ v=>⟨rfl,v,_,rfl⟩⟩⟩)).frame [xk x.v1 e.length x.Ae,xl x.v2 r.length x.Ar]
  exact this
 ·rintro rv hs ⟨ey,rfl,h,v,y,rfl⟩;refine⟨_,?_,h,rfl⟩;refine aB.trans (b:=[ao b true [v.v,x.v1.v,x.v2.v],pq v (o.length+1) (oG x.Ao o.length (fun c=>if c=0 then x1 else if c=1 then x2 else if c=2 then x3 else if c=4 then x4 else if c=5 then x5 else if c=6 then x6 else if c=8 then x7 else x8) dT dU),xk x.v1 e.length x.Ae,xl x.v2 r.length x.Ar]) (aB.sub (by simp)) ?_;have hl:(o++[(⟨x3.toNat,bG (aN dT 0 16),i,(2*x1+x2).toNat,aN dU 0 32,x8.toNat⟩:Mg (List Int))]).length=o.length+1:=by simp
  have:=sr b (i:=i) (now:=now) (e:=e) (r:=r) (o:=o++[⟨x3.toNat,bG (aN dT 0 16),i,(2*x1+x2).toNat,aN dU 0 32,x8.toNat⟩]) ⟨v,x.v1,x.v2,oG x.Ao o.length (fun c=>if c=0 then x1 else if c=1 then x2 else if c=2 then x3 else if c=4 then x4 else if c=5 then x5 else if c=6 then x6 else if c=8 then x7 else x8) dT dU,x.Ae,x.Ar,?_,?_,x.he,x.hp,x.hr,x.hn⟩
  ·unfold MT at this;rw [hl]at this;exact this
  ·rw [hl,map_push (f:=GW i x.Ao) (fun j hj=>VN i _ _ _ _ hj) (VO i _ _ _ _),←x.ho];simp
  ·intro j hj;rw [hl]at hj;by_cases Pv:j=o.length
   ·subst Pv;simp [oG,lg];omega
   ·have:=x.hd j (by omega);simpa [oG,lf (show j<o.length by omega)] using this
open Go.RX Go.Proofs Go.Cp
theorem gW{a b:List HP}(idx:List Nat)(gE:idx.Nodup)(h:b.map some=idx.map (a[·]?)):aB a b:=by
 refine aB.Yh idx gE fun j x hj=>?_
 have e:(b.map some)[j]? =some (some x):=by rw [List.getElem?_map,hj];rfl
 rw [h,List.getElem?_map]at e;cases hi:idx[j]? with
 | none=>rw [hi]at e;cases e
 | some i=>
  rw [hi]at e;exact⟨i,rfl,Option.some.inj e⟩
structure MR where
 a:Int
 d:Int
 dv:Nat→Int
 dead:Nat
 st:Int
 id:Nat→Int
 out:Int
 ac:Int
 pa:Int
 pd:Int
 own:Nat→Int
 off:Nat→Int
 dM:Nat→Int
 lO:Int
 early:Int
 aP:Int
 bF:Int
 since:Int
 heard:Int
 bO:Int
 bA:Int
abbrev cD(b:Nat)(m:MR):HP:=ao b true (.int .u8 m.a::(.int .u8 m.d::(agw (ak .u8 8 m.dv) (.pointer (some ⟨m.dead,0,none⟩)::(.int .u8 m.st::(agw (ak .u8 16 m.id) (.bool (!(m.out==0))::(.int .u8 m.ac::(.int .u8 m.pa::(.int .u8 m.pd::(agw (ak .u8 32 m.own) (agw (ak .u8 32 m.off) (agw (ak .u8 32 m.dM) ([(aD m.lO),(aD m.early),.int .u64 m.aP,.int .u64 m.bF,.int .u64 m.since,.int .u64 m.heard,.int .u64 m.bO,.int .u32 m.bA]))))))))))))))
structure Me (i:Nat) (m:MR):Prop where
 a:m.a=((i/2:Nat):Int)
 d:m.d=((i%2:Nat):Int)
 ac:m.ac=gQ i
theorem lS(b b1 i now:Nat)(m:MR)(o:List (Mg (List Int)))(e:List (Ev (List Int)))(r:List Rc)(he:e.length≤1000)(cN cQ cP aX bz bx bM bH bL:Int)(eD dX:Nat→Int)(h1:0≤bM∧bM<2)(h2:0≤bH∧bH<2)(h3:0≤cN)(h4:0≤bL)(hm:Me i m):
  au agQ 85 [.pointer (some ⟨b1,0,none⟩),.pointer (some ⟨b,0,none⟩),.int .u8 cN,.int .u64 (now:Int),.agg (.int .u8 cQ::(.int .u8 cP::(.int .u8 aX::(.int .u64 bz::(agw (ak .u8 16 eD) (.int .u8 bx::(.int .u8 bM::(.int .u8 bH::(agw (ak .u8 32 dX) ([.int .u8 bL])))))))))).toArray]
   [aZ b i now o e r,cD b1 m] fun rv hs=>rv= .tuple #[]∧hs=[aZ b i now o (e++[⟨cN.toNat,bG (aN m.id 0 16),(2*bM+bH).toNat,aN dX 0 32,bL.toNat⟩]) r,cD b1 m]:=by
 refine au.ex fun x=>au.pre ?_ (aB.frame (aB.eQ (MT b x)) [cD b1 m])
 let xs:Nat→Int:=fun c=>if c=0 then cN else if c=1 then m.a else if c=2 then m.d else if c=3 then(now:Int)else if c=5 then m.ac else if c=6 then bM else if c=7 then bH else bL
 refine au.post (p:=fun rv hs=> ∃ey,hs=ey++[pq x.v0 o.length x.Ao,xl x.v2 r.length x.Ar]∧rv= .tuple #[]∧∃(v:V1) (y:List HP),ey=[ao b true [x.v0.v,v.v,x.v2.v],xk v (e.length+1) (mw x.Ae e.length xs m.id dX),cD b1 m]++y) ?_ ?_
 ·refine au.pre (Ik:=([ao b true [x.v0.v,x.v1.v,x.v2.v],xk x.v1 e.length x.Ae,cD b1 m]++[pq x.v0 o.length x.Ao,xl x.v2 r.length x.Ar])) ?_ ?_
  ·exact(Pt (fun rv ey=>rv= .tuple #[]∧∃(v:V1) (y:List HP),ey=[ao b true [x.v0.v,v.v,x.v2.v],xk v (e.length+1) (mw x.Ae e.length xs m.id dX),cD b1 m]++y) (e.length:Int) m.a m.d m.st m.out m.ac m.pa m.pd m.lO m.early m.aP m.bF m.since m.heard m.bO m.bA cN (now:Int) cQ cP aX bz bx bM bH bL
    (x.Ae 0) (x.Ae 1) (x.Ae 2) (x.Ae 3) (x.Ae 4) (x.Ae 5) (x.Ae 6) (x.Ae 7) (x.Ae 8) (x.Ae 9) m.dv m.id m.own m.off m.dM eD dX x.v0 x.v1 x.v2 b b1 m.dead (by
     unfold GS;intro b3 b4;have e1:((e.length:Int)+1).toNat=e.length+1:=by omega
     have e2:((e.length:Int)*16).toNat=e.length*16:=by omega
     have e3:((e.length:Int)*32).toNat=e.length*32:=by omega
     rw [e1,e2,e3,Int.toNat_natCast];exact⟨by omega,fun _=>⟨by omega,fun _ v=>⟨rfl,v,_,rfl⟩⟩⟩)).frame [pq x.v0 o.length x.Ao,xl x.v2 r.length x.Ar]
  ·exact gW [0,2,4,1,3] (by decide) rfl
 ·rintro rv hs ⟨ey,rfl,h,v,y,rfl⟩;refine⟨_,?_,h,rfl⟩;have hl:(e++[(⟨cN.toNat,bG (aN m.id 0 16),(2*bM+bH).toNat,aN dX 0 32,bL.toNat⟩:Ev (List Int))]).length=e.length+1:=by simp
  have:=sr b (i:=i) (now:=now) (r:=r) (o:=o) (e:=e++[⟨cN.toNat,bG (aN m.id 0 16),(2*bM+bH).toNat,aN dX 0 32,bL.toNat⟩]) ⟨x.v0,v,x.v2,x.Ao,mw x.Ae e.length xs m.id dX,x.Ar,x.ho,x.hd,?_,?_,x.hr,x.hn⟩
  ·unfold MT at this;rw [hl]at this;refine aB.trans ?_ (aB.frame this [cD b1 m]);refine aB.trans (b:=[ao b true [x.v0.v,v.v,x.v2.v],xk v (e.length+1) (mw x.Ae e.length xs m.id dX),cD b1 m,pq x.v0 o.length x.Ao,xl x.v2 r.length x.Ar]) (aB.sub ?_) (gW [0,3,1,4,2] (by decide) rfl);simp
  ·rw [hl,map_push (f:=qe x.Ae) (fun j hj=>Un _ _ _ _ hj) (Uo _ _ _ _),←x.he];simp [xs]
  ·intro j hj;rw [hl]at hj;by_cases Pv:j=e.length
   ·subst Pv;simp [mw,lg,xs,hm.a,hm.d,hm.ac,h4];omega
   ·have:=x.hp j (by omega);simpa [mw,lf (show j<e.length by omega)] using this
end Go.RX.Cs

namespace Go.RX.Mm
open Go.RX
def loops(f id:Nat):Option jg:=
 match f,id with
 | 135,0=>some {inc:={i:=1},slots:=fun c=>[(8,.int .i64 (.var c.i))]}
 | 138,0=>some {inc:={i:=1},slots:=fun c=>[(8,.int .i64 (.var c.i))]}
 | _,_=>none
def row:Ck:= .row 0 true [.vv 0,.int .i64 (.var 0)]
def FC:List Ck:=[row,.cy true 0 30 2 (.var 1) [⟨.int .u8,1,.aw 0⟩,⟨.int .u8,1,.aw 1⟩]]
def aS:cF:={b:=1,v:=1,i:=4,a:=3}
open Go.RX Go.Proofs
noncomputable def cx:Ctx:={T:=TT,FT:=FT,loops:=Mm.loops}
open Go.RX Go.Proofs
set_option maxRecDepth 100000
def KP(_:Program)(aq:Value→List HP→Prop)(x0 x1 _ _:Int)(A0 _ A2:Nat→Int)(v0:V1)(b0:Nat):Prop:=
 ∀b1 b2 b3:Nat,aE (0≤x1) (
 ∃(fY:Ext→Prop) (jM:Ext→Nat),(∃x4:Int,x4=0∧fY ⟨[],[],[x4],[],[],[],[]⟩)∧
 ∀x4:Int,fY ⟨[],[],[x4],[],[],[],[]⟩→
 aK (x4<x1) (
 aE (0≤x4) (
 aK (∀j,j<16→A2 j=(aJ A0 (ag (x4*16))) j) (
 aq (.bool true) [ao b0 true ([v0.v,.int .i64 x0]),aC true 72 16 v0.v (ag x1) (aT (ag x1) [ax .u8 16 A0]),ao b1 true (agw (ak .u8 16 A2) ([])),ao b2 true (agw (ak .u8 16 A2) ([])),ao b3 true (agw (ak .u8 16 A2) ([]))]) (
 sL (x4+1) ((
 ∃AO:Int,AO=(x4+1)∧fY ⟨[],[],[AO],[],[],[],[]⟩∧jM ⟨[],[],[AO],[],[],[],[]⟩<jM ⟨[],[],[x4],[],[],[],[]⟩))))) (
 aq (.bool false) [ao b0 true ([v0.v,.int .i64 x0]),aC true 72 16 v0.v (ag x1) (aT (ag x1) [ax .u8 16 A0]),ao b1 true (agw (ak .u8 16 A2) ([])),ao b2 true (agw (ak .u8 16 A2) ([])),ao b3 true (agw (ak .u8 16 A2) ([]))]))
theorem SS(aq:Value→List HP→Prop)(x0 x1 x2 x3:Int)(A0 A1 A2:Nat→Int)(v0:V1)(b0:Nat)(h:KP agQ aq x0 x1 x2 x3 A0 A1 A2 v0 b0):au agQ 82 [.pp b0,.sg 16 A2] [ao b0 true ([v0.v,.int .i64 x0]),aC true 72 16 v0.v (ag x1) (aT (ag x1) [ax .u8 16 A0])] aq:=
 um (C:=cx) [.ptr 0 0,.agg [.a_ .u8 16 (.aw 2)]] [.row 0 true [.vv 0,.int .i64 (.var 0)],.cy true 0 72 16 (.var 1) [⟨.int .u8,16,.aw 0⟩]] ⟨1,1,4,3,0,0,0⟩ ⟨[x0,x1,x2,x3],[A0,A1,A2],[],[b0],[v0],[],[],[]⟩ Try.func82 (by kernel_rfl) h
def GX(_:Program)(aq:Value→List HP→Prop)(x0 x1 _ _:Int)(A0 _ A2:Nat→Int)(v0:V1)(b0:Nat):Prop:=
 ∀b1 b2 b3 b4:Nat,aE (0≤x1) (
 ∃(fY:Ext→Prop) (jM:Ext→Nat),(∃x4:Int,x4=0∧fY ⟨[],[],[x4],[],[],[],[]⟩)∧
 ∀x4:Int,fY ⟨[],[],[x4],[],[],[],[]⟩→
 aK (x4<x1) (
 aE (0≤x4) (
 aK (∀j,j<16→A2 j=(aJ A0 (ag (x4*16))) j) (
 aq (.tuple #[]) [ao b0 true ([v0.v,.int .i64 x0]),aC true 72 16 v0.v (ag x1) (aT (ag x1) [ax .u8 16 A0]),ao b1 true (agw (ak .u8 16 A2) ([])),ao b2 true (agw (ak .u8 16 A2) ([])),ao b3 true (agw (ak .u8 16 A2) ([])),ao b4 true (agw (ak .u8 16 A2) ([]))]) (
 sL (x4+1) ((
 ∃AO:Int,AO=(x4+1)∧fY ⟨[],[],[AO],[],[],[],[]⟩∧jM ⟨[],[],[AO],[],[],[],[]⟩<jM ⟨[],[],[x4],[],[],[],[]⟩))))) (
 ∀b5:Nat,aE (0≤x1) (
 NL ((x1+1)*16) (
 ∀v1:V1,aE (0≤(x1+1)) (
 sL ((x1+1) - x0) ((
 aK (0<((x1+1) - x0)) (
 aE (0≤((x1+1) - x0)) (
 aE (((x1+1) - x0)≤(x1+1)) (
 aK (0=((x1+1) - x0)) (
 aq (.tuple #[]) [ao b0 true ([v1.v,.int .i64 x0]),aC true 72 16 v1.v (ag (x1+1)) (aT (ag (x1+1)) [ax .u8 16 (aG A0 (ag (x1*16)) 16 A2)]),ao b1 true (agw (ak .u8 16 A2) ([])),ao b2 true (agw (ak .u8 16 A2) ([])),ao b3 true (agw (ak .u8 16 A2) ([])),ao b4 true (agw (ak .u8 16 A2) ([])),ao b5 true (agw (ak .u8 16 A2) ([]))]) (
 aE (0≤((x1+1) - ((x1+1) - x0))) (
 aE (0≤((x1+1) - ((x1+1) - x0))) (
 aE (((x1+1) - ((x1+1) - x0))≤(x1+1)) (
 aE (0≤((x1+1) - ((x1+1) - ((x1+1) - x0)))) (
 aq (.tuple #[]) [ao b0 true ([(bT 16 v1.v 0 (ag ((x1+1) - ((x1+1) - x0))) none),.int .i64 x0]),aC true 72 16 v1.v (ag (x1+1)) (aT (ag (x1+1)) [ax .u8 16 (aG (aG (aG A0 (ag (x1*16)) 16 A2) 0 (ag (((x1+1) - ((x1+1) - x0))*16)) (aJ (aG A0 (ag (x1*16)) 16 A2) (ag (((x1+1) - x0)*16)))) (ag (((x1+1) - ((x1+1) - x0))*16)) (ag (((x1+1) - ((x1+1) - ((x1+1) - x0)))*16)) (fun _=>0))]),ao b1 true (agw (ak .u8 16 A2) ([])),ao b2 true (agw (ak .u8 16 A2) ([])),ao b3 true (agw (ak .u8 16 A2) ([])),ao b4 true (agw (ak .u8 16 A2) ([])),ao b5 true (agw (ak .u8 16 A2) ([]))])))))))) (
 aq (.tuple #[]) [ao b0 true ([v1.v,.int .i64 x0]),aC true 72 16 v1.v (ag (x1+1)) (aT (ag (x1+1)) [ax .u8 16 (aG A0 (ag (x1*16)) 16 A2)]),ao b1 true (agw (ak .u8 16 A2) ([])),ao b2 true (agw (ak .u8 16 A2) ([])),ao b3 true (agw (ak .u8 16 A2) ([])),ao b4 true (agw (ak .u8 16 A2) ([])),ao b5 true (agw (ak .u8 16 A2) ([]))]))))))))
theorem Pw(aq:Value→List HP→Prop)(x0 x1 x2 x3:Int)(A0 A1 A2:Nat→Int)(v0:V1)(b0:Nat)(h:GX agQ aq x0 x1 x2 x3 A0 A1 A2 v0 b0):au agQ 92 [.pp b0,.sg 16 A2] [ao b0 true ([v0.v,.int .i64 x0]),aC true 72 16 v0.v (ag x1) (aT (ag x1) [ax .u8 16 A0])] aq:=
 um (C:=cx) [.ptr 0 0,.agg [.a_ .u8 16 (.aw 2)]] [.row 0 true [.vv 0,.int .i64 (.var 0)],.cy true 0 72 16 (.var 1) [⟨.int .u8,16,.aw 0⟩]] ⟨1,1,4,3,0,0,0⟩ ⟨[x0,x1,x2,x3],[A0,A1,A2],[],[b0],[v0],[],[],[]⟩ Try.func92 (by kernel_rfl) h
def KQ(_:Program)(aq:Value→List HP→Prop)(x0 x1 x2 x3:Int)(A0 A1 _:Nat→Int)(v0:V1)(b0:Nat):Prop:=
 ∀b1 b2 b3:Nat,aE (0≤x1) (
 ∃(fY:Ext→Prop) (jM:Ext→Nat),(∃x4:Int,x4=0∧fY ⟨[],[],[x4],[],[],[],[]⟩)∧
 ∀x4:Int,fY ⟨[],[],[x4],[],[],[],[]⟩→
 aK (x4<x1) (
 aE (0≤x4) (
 aK ((x2=(A0 (ag x4)))∧(x3=(A1 (ag x4)))) (
 aq (.bool true) [ao b0 true ([v0.v,.int .i64 x0]),aC true 30 2 v0.v (ag x1) (aT (ag x1) [ax .u8 1 A0,ax .u8 1 A1]),Dw b1 x2 x3,Dw b2 x2 x3,Dw b3 x2 x3]) (
 sL (x4+1) ((
 ∃AO:Int,AO=(x4+1)∧fY ⟨[],[],[AO],[],[],[],[]⟩∧jM ⟨[],[],[AO],[],[],[],[]⟩<jM ⟨[],[],[x4],[],[],[],[]⟩))))) (
 aq (.bool false) [ao b0 true ([v0.v,.int .i64 x0]),aC true 30 2 v0.v (ag x1) (aT (ag x1) [ax .u8 1 A0,ax .u8 1 A1]),Dw b1 x2 x3,Dw b2 x2 x3,Dw b3 x2 x3]))
theorem SU(aq:Value→List HP→Prop)(x0 x1 x2 x3:Int)(A0 A1 A2:Nat→Int)(v0:V1)(b0:Nat)(h:KQ agQ aq x0 x1 x2 x3 A0 A1 A2 v0 b0):au agQ 118 [.pp b0,.dv x2 x3] [ao b0 true ([v0.v,.int .i64 x0]),aC true 30 2 v0.v (ag x1) (aT (ag x1) [ax .u8 1 A0,ax .u8 1 A1])] aq:=
 um (C:=cx) [.ptr 0 0,.agg [.int .u8 (.var 2),.int .u8 (.var 3)]] [.row 0 true [.vv 0,.int .i64 (.var 0)],.cy true 0 30 2 (.var 1) [⟨.int .u8,1,.aw 0⟩,⟨.int .u8,1,.aw 1⟩]] ⟨1,1,4,3,0,0,0⟩ ⟨[x0,x1,x2,x3],[A0,A1,A2],[],[b0],[v0],[],[],[]⟩ Try.func118 (by kernel_rfl) h
def GY(_:Program)(aq:Value→List HP→Prop)(x0 x1 x2 x3:Int)(A0 A1 _:Nat→Int)(v0:V1)(b0:Nat):Prop:=
 ∀b1 b2 b3 b4:Nat,aE (0≤x1) (
 ∃(fY:Ext→Prop) (jM:Ext→Nat),(∃x4:Int,x4=0∧fY ⟨[],[],[x4],[],[],[],[]⟩)∧
 ∀x4:Int,fY ⟨[],[],[x4],[],[],[],[]⟩→
 aK (x4<x1) (
 aE (0≤x4) (
 aK ((x2=(A0 (ag x4)))∧(x3=(A1 (ag x4)))) (
 aq (.tuple #[]) [ao b0 true ([v0.v,.int .i64 x0]),aC true 30 2 v0.v (ag x1) (aT (ag x1) [ax .u8 1 A0,ax .u8 1 A1]),Dw b1 x2 x3,Dw b2 x2 x3,Dw b3 x2 x3,Dw b4 x2 x3]) (
 sL (x4+1) ((
 ∃AO:Int,AO=(x4+1)∧fY ⟨[],[],[AO],[],[],[],[]⟩∧jM ⟨[],[],[AO],[],[],[],[]⟩<jM ⟨[],[],[x4],[],[],[],[]⟩))))) (
 ∀b5:Nat,aE (0≤x1) (
 NL ((x1+1)*2) (
 ∀v1:V1,aE (0≤(x1+1)) (
 sL ((x1+1) - x0) ((
 aK (0<((x1+1) - x0)) (
 aE (0≤((x1+1) - x0)) (
 aE (((x1+1) - x0)≤(x1+1)) (
 aK (0=((x1+1) - x0)) (
 aq (.tuple #[]) [ao b0 true ([v1.v,.int .i64 x0]),aC true 30 2 v1.v (ag (x1+1)) (aT (ag (x1+1)) [ax .u8 1 (aj A0 (ag x1) x2),ax .u8 1 (aj A1 (ag x1) x3)]),Dw b1 x2 x3,Dw b2 x2 x3,Dw b3 x2 x3,Dw b4 x2 x3,Dw b5 x2 x3]) (
 aE (0≤((x1+1) - ((x1+1) - x0))) (
 aE (0≤((x1+1) - ((x1+1) - x0))) (
 aE (((x1+1) - ((x1+1) - x0))≤(x1+1)) (
 aE (0≤((x1+1) - ((x1+1) - ((x1+1) - x0)))) (
 aq (.tuple #[]) [ao b0 true ([(bT 2 v1.v 0 (ag ((x1+1) - ((x1+1) - x0))) none),.int .i64 x0]),aC true 30 2 v1.v (ag (x1+1)) (aT (ag (x1+1)) [ax .u8 1 (aG (aG (aj A0 (ag x1) x2) 0 (ag ((x1+1) - ((x1+1) - x0))) (aJ (aj A0 (ag x1) x2) (ag ((x1+1) - x0)))) (ag ((x1+1) - ((x1+1) - x0))) (ag ((x1+1) - ((x1+1) - ((x1+1) - x0)))) (fun _=>0)),ax .u8 1 (aG (aG (aj A1 (ag x1) x3) 0 (ag ((x1+1) - ((x1+1) - x0))) (aJ (aj A1 (ag x1) x3) (ag ((x1+1) - x0)))) (ag ((x1+1) - ((x1+1) - x0))) (ag ((x1+1) - ((x1+1) - ((x1+1) - x0)))) (fun _=>0))]),Dw b1 x2 x3,Dw b2 x2 x3,Dw b3 x2 x3,Dw b4 x2 x3,Dw b5 x2 x3])))))))) (
 aq (.tuple #[]) [ao b0 true ([v1.v,.int .i64 x0]),aC true 30 2 v1.v (ag (x1+1)) (aT (ag (x1+1)) [ax .u8 1 (aj A0 (ag x1) x2),ax .u8 1 (aj A1 (ag x1) x3)]),Dw b1 x2 x3,Dw b2 x2 x3,Dw b3 x2 x3,Dw b4 x2 x3,Dw b5 x2 x3]))))))))
theorem Px(aq:Value→List HP→Prop)(x0 x1 x2 x3:Int)(A0 A1 A2:Nat→Int)(v0:V1)(b0:Nat)(h:GY agQ aq x0 x1 x2 x3 A0 A1 A2 v0 b0):au agQ 120 [.pp b0,.dv x2 x3] [ao b0 true ([v0.v,.int .i64 x0]),aC true 30 2 v0.v (ag x1) (aT (ag x1) [ax .u8 1 A0,ax .u8 1 A1])] aq:=
 um (C:=cx) [.ptr 0 0,.agg [.int .u8 (.var 2),.int .u8 (.var 3)]] [.row 0 true [.vv 0,.int .i64 (.var 0)],.cy true 0 30 2 (.var 1) [⟨.int .u8,1,.aw 0⟩,⟨.int .u8,1,.aw 1⟩]] ⟨1,1,4,3,0,0,0⟩ ⟨[x0,x1,x2,x3],[A0,A1,A2],[],[b0],[v0],[],[],[]⟩ Try.func120 (by kernel_rfl) h
open Go.RX Go.Proofs
structure MU where
 v:V1
 n:Int
 A:Nat→Int
 h0:0≤n
 h1:n≤1000
def Bf(b:Nat)(most:Int)(x:MU):List HP:=[ao b true [x.v.v,.int .i64 most],aC true 72 16 x.v.v x.n.toNat (aT x.n.toNat [ax .u8 16 x.A])]
def bJ(b:Nat)(most:Int):HP:=HP.ex fun x:MU=>HP.star (Bf b most x)
theorem KR(b:Nat)(most:Int)(x:MU): ∀h∈Bf b most x,h.wr=true:=by
 intro h hh;simp only [Bf,List.mem_cons,List.not_mem_nil,or_false]at hh;rcases hh with rfl | rfl<;>rfl
theorem uu(b:Nat)(most:Int)(A2:Nat→Int):
  au agQ 82 [.pointer (some ⟨b,0,none⟩),.agg (agw (ak .u8 16 A2) ([])).toArray] [bJ b most] (fun r hs=>(∃q,r= .bool q)∧hs=[bJ b most]):=by
 refine au.ex fun x=>au.pre ?_ (aB.eQ _)
 refine au.post (p:=fun r hs=>(∃q,r= .bool q)∧∃y,hs=Bf b most x++y) ?_ fun r hs ⟨h1,y,h2⟩=>⟨_,?_,h1,rfl⟩
 ·refine SS _ most x.n 0 0 x.A (fun _=>0) A2 x.v b ?_;unfold KP;have h0:=x.h0;have h1:=x.h1
  intros
  refine⟨h0,fun _=>⟨fun e=>0≤e.i.getD 0 0,fun e=>(x.n - e.i.getD 0 0).toNat,⟨0,rfl,Int.le_refl _⟩,?_⟩⟩;intro i hi;simp only [ah]at hi;refine⟨fun cZ=>⟨hi,fun _=>⟨fun _=>⟨⟨_,rfl⟩,_,rfl⟩,fun _=>⟨by omega,fun _=>⟨by omega,fun _=>⟨_,rfl,?_,?_⟩⟩⟩⟩⟩,fun _=>⟨⟨_,rfl⟩,_,rfl⟩⟩
  ·simp only [ah];omega
  ·simp only [ah];omega
 ·subst h2;exact aB.trans (aB.sub (List.sublist_append_left _ _)) (aB.trans (aB.star (KR b most x)) (aB.ex (F:=fun x:MU=>HP.star (Bf b most x)) x rfl))
open Go.RX Go.Proofs
theorem Ja(f:Nat→Int)(k n:Nat)(h:k≤n):(aT n [ax .u8 16 f]).take (k*16)=aT k [ax .u8 16 f]:=by
 have len: ∀m,(aT m [ax .u8 16 f]).length=m*16:=by
  intro m;unfold aT
  induction m with
  | zero=>rfl
  | succ m ih=>rw [List.range_succ,List.flatMap_append,List.length_append,ih];simp [ax,ak];omega
 have sp:aT n [ax .u8 16 f]=aT k [ax .u8 16 f]++((ag5 (n - k)).map (k+ ·)).flatMap fun i=>[ax .u8 16 f].flatMap fun c=>c i:=by
  have e:n=k+(n - k):=by omega
  unfold aT;rw [←List.flatMap_append,←List.range_add,←e]
 rw [sp,List.take_left' (len k)]
theorem sv(b:Nat)(most:Int)(z:MU)(y:List HP):aB (Bf b most z++y) [bJ b most]:=
 aB.trans (aB.sub (List.sublist_append_left _ _)) (aB.trans (aB.star (KR b most z)) (aB.ex (F:=fun x:MU=>HP.star (Bf b most x)) z rfl))
theorem Py(b:Nat)(most:Int)(v:V1)(n k:Nat)(A:Nat→Int)(h:k≤n)(hk:k≤1000)(y:List HP):
  aB (ao b true [bT 16 v.v 0 k none,.int .i64 most]::aC true 72 16 v.v n (aT n [ax .u8 16 A])::y) [bJ b most]:=by
 refine aB.trans (aB.put 1 _ (aC true 72 16 (bT 16 v.v 0 k none) k (aT k [ax .u8 16 A])) rfl (fun _=>rfl) fun w S hp=>⟨S,fun _ h=>h,?_⟩) (sv b most ⟨⟨bT 16 v.v 0 k none,pF ..⟩,(k:Int),A,by omega,by omega⟩ y);have:=Ky hp (k:=k) (by omega);rw [Ja _ _ _ h]at this;exact this
theorem n8(b:Nat)(most:Int)(A2:Nat→Int)(F7:0≤most)(Vf:most≤500):
  au agQ 92 [.pointer (some ⟨b,0,none⟩),.agg (agw (ak .u8 16 A2) ([])).toArray] [bJ b most] (fun r hs=>r= .tuple #[]∧hs=[bJ b most]):=by
 refine au.ex fun x=>au.pre ?_ (aB.eQ _)
 refine au.post (p:=fun r hs=>r= .tuple #[]∧aB hs [bJ b most]) ?_ fun r hs ⟨h1,h2⟩=>⟨_,h2,h1,rfl⟩
 refine Pw _ most x.n 0 0 x.A (fun _=>0) A2 x.v b ?_;unfold GX;have h0:=x.h0;have h1:=x.h1
 intros
 refine⟨h0,fun _=>⟨fun e=>0≤e.i.getD 0 0,fun e=>(x.n - e.i.getD 0 0).toNat,⟨0,rfl,Int.le_refl _⟩,?_⟩⟩;intro i hi;simp only [ah]at hi;refine⟨fun cZ=>⟨hi,fun _=>⟨fun _=>⟨rfl,sv b most x _⟩,fun _=>⟨by omega,fun _=>⟨by omega,fun _=>⟨_,rfl,?_,?_⟩⟩⟩⟩⟩,fun _=>?_⟩
 ·simp only [ah];omega
 ·simp only [ah];omega
 ·intro b5;refine⟨h0,fun _=>⟨by omega,fun _=>fun v1=>⟨by omega,fun _=>⟨by omega,fun _=>⟨by omega,fun _=>⟨fun Vk=>⟨by omega,fun _=>⟨by omega,fun _=>⟨fun hz=>absurd hz (by omega),fun _=>⟨by omega,fun _=>⟨by omega,fun _=>⟨by omega,fun _=>⟨by omega,fun _=>⟨rfl,?_⟩⟩⟩⟩⟩⟩⟩⟩,fun Ve=>⟨rfl,?_⟩⟩⟩⟩⟩⟩⟩
  ·exact Py b most v1 _ _ _ (by omega) (by omega) _
  ·exact sv b most ⟨v1,x.n+1,_,by omega,by omega⟩ _
open Go.RX Go.Proofs
structure Pz where
 v:V1
 n:Int
 A:Nat→Int
 B:Nat→Int
 h0:0≤n
 h1:n≤1000
def GZ(b:Nat)(most:Int)(x:Pz):List HP:=[ao b true [x.v.v,.int .i64 most],aC true 30 2 x.v.v x.n.toNat (aT x.n.toNat [ax .u8 1 x.A,ax .u8 1 x.B])]
def pw(b:Nat)(most:Int):HP:=HP.ex fun x:Pz=>HP.star (GZ b most x)
theorem SW(b:Nat)(most:Int)(x:Pz): ∀h∈GZ b most x,h.wr=true:=by
 intro h hh;simp only [GZ,List.mem_cons,List.not_mem_nil,or_false]at hh;rcases hh with rfl | rfl<;>rfl
theorem mT(b:Nat)(most:Int)(z:Pz)(y:List HP):aB (GZ b most z++y) [pw b most]:=
 aB.trans (aB.sub (List.sublist_append_left _ _)) (aB.trans (aB.star (SW b most z)) (aB.ex (F:=fun x:Pz=>HP.star (GZ b most x)) z rfl))
theorem MV(f g:Nat→Int)(k n:Nat)(h:k≤n):(aT n [ax .u8 1 f,ax .u8 1 g]).take (k*2)=aT k [ax .u8 1 f,ax .u8 1 g]:=by
 have len: ∀m,(aT m [ax .u8 1 f,ax .u8 1 g]).length=m*2:=by
  intro m;unfold aT
  induction m with
  | zero=>rfl
  | succ m ih=>rw [List.range_succ,List.flatMap_append,List.length_append,ih];simp [ax,ak];omega
 have sp:aT n [ax .u8 1 f,ax .u8 1 g]=aT k [ax .u8 1 f,ax .u8 1 g]++((ag5 (n - k)).map (k+ ·)).flatMap fun i=>[ax .u8 1 f,ax .u8 1 g].flatMap fun c=>c i:=by
  have e:n=k+(n - k):=by omega
  unfold aT;rw [←List.flatMap_append,←List.range_add,←e]
 rw [sp,List.take_left' (len k)]
theorem PA(b:Nat)(most:Int)(v:V1)(n k:Nat)(A B:Nat→Int)(h:k≤n)(hk:k≤1000)(y:List HP):
  aB (ao b true [bT 2 v.v 0 k none,.int .i64 most]::aC true 30 2 v.v n (aT n [ax .u8 1 A,ax .u8 1 B])::y) [pw b most]:=by
 refine aB.trans (aB.put 1 _ (aC true 30 2 (bT 2 v.v 0 k none) k (aT k [ax .u8 1 A,ax .u8 1 B])) rfl (fun _=>rfl) fun w S hp=>⟨S,fun _ h=>h,?_⟩) (mT b most ⟨⟨bT 2 v.v 0 k none,pF ..⟩,(k:Int),A,B,by omega,by omega⟩ y);have:=Ky hp (k:=k) (by omega);rw [MV _ _ _ _ h]at this;exact this
theorem Jb(b:Nat)(most x2 x3:Int):
  au agQ 118 [.pointer (some ⟨b,0,none⟩),.agg #[.int .u8 x2,.int .u8 x3]] [pw b most] (fun r hs=>(∃q,r= .bool q)∧hs=[pw b most]):=by
 refine au.ex fun x=>au.pre ?_ (aB.eQ _)
 refine au.post (p:=fun r hs=>(∃q,r= .bool q)∧aB hs [pw b most]) ?_ fun r hs ⟨h1,h2⟩=>⟨_,h2,h1,rfl⟩
 refine SU _ most x.n x2 x3 x.A x.B (fun _=>0) x.v b ?_;unfold KQ;have h0:=x.h0;have h1:=x.h1
 intros
 refine⟨h0,fun _=>⟨fun e=>0≤e.i.getD 0 0,fun e=>(x.n - e.i.getD 0 0).toNat,⟨0,rfl,Int.le_refl _⟩,?_⟩⟩;intro i hi;simp only [ah]at hi;refine⟨fun cZ=>⟨hi,fun _=>⟨fun _=>⟨⟨_,rfl⟩,mT b most x _⟩,fun _=>⟨by omega,fun _=>⟨by omega,fun _=>⟨_,rfl,?_,?_⟩⟩⟩⟩⟩,fun _=>⟨⟨_,rfl⟩,mT b most x _⟩⟩
 ·simp only [ah];omega
 ·simp only [ah];omega
theorem G0(b:Nat)(most x2 x3:Int)(F7:0≤most)(Vf:most≤500):
  au agQ 120 [.pointer (some ⟨b,0,none⟩),.agg #[.int .u8 x2,.int .u8 x3]] [pw b most] (fun r hs=>r= .tuple #[]∧hs=[pw b most]):=by
 refine au.ex fun x=>au.pre ?_ (aB.eQ _)
 refine au.post (p:=fun r hs=>r= .tuple #[]∧aB hs [pw b most]) ?_ fun r hs ⟨h1,h2⟩=>⟨_,h2,h1,rfl⟩
 refine Px _ most x.n x2 x3 x.A x.B (fun _=>0) x.v b ?_;unfold GY;have h0:=x.h0;have h1:=x.h1
 intros
 refine⟨h0,fun _=>⟨fun e=>0≤e.i.getD 0 0,fun e=>(x.n - e.i.getD 0 0).toNat,⟨0,rfl,Int.le_refl _⟩,?_⟩⟩;intro i hi;simp only [ah]at hi;refine⟨fun cZ=>⟨hi,fun _=>⟨fun _=>⟨rfl,mT b most x _⟩,fun _=>⟨by omega,fun _=>⟨by omega,fun _=>⟨_,rfl,?_,?_⟩⟩⟩⟩⟩,fun _=>?_⟩
 ·simp only [ah];omega
 ·simp only [ah];omega
 ·intro b5;refine⟨h0,fun _=>⟨by omega,fun _=>fun v1=>⟨by omega,fun _=>⟨by omega,fun _=>⟨by omega,fun _=>⟨fun Vk=>⟨by omega,fun _=>⟨by omega,fun _=>⟨fun hz=>absurd hz (by omega),fun _=>⟨by omega,fun _=>⟨by omega,fun _=>⟨by omega,fun _=>⟨by omega,fun _=>⟨rfl,?_⟩⟩⟩⟩⟩⟩⟩⟩,fun Ve=>⟨rfl,?_⟩⟩⟩⟩⟩⟩⟩
  ·exact PA b most v1 _ _ _ _ (by omega) (by omega) _
  ·exact mT b most ⟨v1,x.n+1,_,_,by omega,by omega⟩ _
end Go.RX.Mm

namespace Go.RX.Ct
open Go.RX Go.Proofs Go.Cp Go.RX.Cs
def tl(A:cI)(n:Nat)(x:Nat→Int)(id:Nat→Int):cI:=fun c=>if c=0 then aG (A 0) (n*16) 16 id else aj (A c) n (x c)
theorem YN(A:cI){n j:Nat}(x:Nat→Int)(id:Nat→Int)(h:j<n):nJ (tl A n x id) j=nJ A j:=by
 simp [nJ,tl,po h,lf h]
theorem YO(A:cI){n:Nat}(x:Nat→Int)(id:Nat→Int):nJ (tl A n x id) n=⟨bG (aN id 0 16),(x 4).toNat,!(x 2==0),(x 3).toNat,(x 5).toNat⟩:=by
 simp [nJ,tl,ld,lg]
abbrev bD(id:Nat→Int):Nat:=bG (aN id 0 16)
def zK:List Int:=aN (fun _=>0) 0 32
abbrev Bg(m:MR)(oc:Int):Ev (List Int):=⟨5,bD m.id,0,zK,oc.toNat⟩
abbrev Bh(m:MR)(oc:Int):Rc:=⟨bD m.id,m.aP.toNat,!(m.out==0),oc.toNat,m.bF.toNat⟩
theorem jD(b b1 i now:Nat)(m:MR)(o:List (Mg (List Int)))(e:List (Ev (List Int)))(r:List Rc)(he:e.length≤1000)(hr:r.length≤1000)(oc:Int)(hb:0≤m.aP∧0≤m.bF)(hoc:0≤oc)(hm:Me i m):
  au agQ 93 [.pointer (some ⟨b1,0,none⟩),.pointer (some ⟨b,0,none⟩),.int .u8 oc,.int .u64 (now:Int)]
   [aZ b i now o e r,cD b1 m,Mm.bJ m.dead 256] fun rv hs=>rv= .tuple #[]∧hs=[aZ b i now o (e++[Bg m oc]) (r++[Bh m oc]),cD b1 {m with st:=0},Mm.bJ m.dead 256]:=by
 refine au.ex fun x=>au.pre ?_ (aB.frame (aB.eQ (MT b x)) [cD b1 m,Mm.bJ m.dead 256])
 let xs:Nat→Int:=fun c=>if c=0 then 5 else if c=1 then m.a else if c=2 then m.d else if c=3 then(now:Int)else if c=5 then m.ac else if c=6 then 0 else if c=7 then 0 else oc
 let ys:Nat→Int:=fun c=>if c=1 then m.ac else if c=2 then m.out else if c=3 then oc else if c=4 then m.aP else if c=5 then m.bF else(now:Int)
 refine au.post (p:=fun rv hs=> ∃ey,hs=ey++[pq x.v0 o.length x.Ao]∧rv= .tuple #[]∧∃(v v':V1) (y:List HP),ey=[ao b true [x.v0.v,v.v,v'.v],xk v (e.length+1) (mw x.Ae e.length xs m.id fun _=>0),xl v' (r.length+1) (tl x.Ar r.length ys m.id),cD b1 {m with st:=0},Mm.bJ m.dead 256]++y) ?_ ?_
 ·refine au.pre (Ik:=([ao b true [x.v0.v,x.v1.v,x.v2.v],xk x.v1 e.length x.Ae,xl x.v2 r.length x.Ar,cD b1 m,Mm.bJ m.dead 256]++[pq x.v0 o.length x.Ao])) ?_ ?_
  ·exact(VM (fun rv ey=>rv= .tuple #[]∧∃(v v':V1) (y:List HP),ey=[ao b true [x.v0.v,v.v,v'.v],xk v (e.length+1) (mw x.Ae e.length xs m.id fun _=>0),xl v' (r.length+1) (tl x.Ar r.length ys m.id),cD b1 {m with st:=0},Mm.bJ m.dead 256]++y)
    (e.length:Int) (r.length:Int) m.a m.d m.st m.out m.ac m.pa m.pd m.lO m.early m.aP m.bF m.since m.heard m.bO m.bA oc (now:Int)
    (x.Ae 0) (x.Ae 1) (x.Ae 2) (x.Ae 3) (x.Ae 4) (x.Ae 5) (x.Ae 6) (x.Ae 7) (x.Ae 8) (x.Ae 9) (x.Ar 0) (x.Ar 1) (x.Ar 2) (x.Ar 3) (x.Ar 4) (x.Ar 5) (x.Ar 6) m.dv m.id m.own m.off m.dM x.v0 x.v1 x.v2 b b1 m.dead (Mm.bJ m.dead 256) (by
     unfold Ps;intro b3 b4;have e1:((e.length:Int)+1).toNat=e.length+1:=by omega
     have e2:((e.length:Int)*16).toNat=e.length*16:=by omega
     have e3:((e.length:Int)*32).toNat=e.length*32:=by omega
     have e4:((r.length:Int)+1).toNat=r.length+1:=by omega
     have e5:((r.length:Int)*16).toNat=r.length*16:=by omega
     rw [e1,e2,e3,e4,e5,Int.toNat_natCast,Int.toNat_natCast];refine⟨by omega,fun _=>⟨by omega,fun _ v=>fun b5=>⟨by omega,fun _=>⟨by omega,fun _ v'=>⟨_,Mm.n8 m.dead 256 m.id (by decide) (by decide),?_⟩⟩⟩⟩⟩;rintro q hs ⟨rfl,rfl⟩;exact⟨rfl,rfl,rfl,v,v',_,rfl⟩)).frame [pq x.v0 o.length x.Ao]
  ·exact gW [0,2,3,4,5,1] (by decide) rfl
 ·rintro rv hs ⟨ey,rfl,h,v,v',y,rfl⟩;refine⟨_,?_,h,rfl⟩;have hl:(e++[Bg m oc]).length=e.length+1:=by simp
  have Xx:(r++[Bh m oc]).length=r.length+1:=by simp
  have:=sr b (i:=i) (now:=now) (r:=r++[Bh m oc]) (o:=o) (e:=e++[Bg m oc]) ⟨x.v0,v,v',x.Ao,mw x.Ae e.length xs m.id fun _=>0,tl x.Ar r.length ys m.id,x.ho,x.hd,?_,?_,?_,?_⟩
  ·unfold MT at this;rw [hl,Xx]at this;refine aB.trans ?_ (aB.frame this [cD b1 {m with st:=0},Mm.bJ m.dead 256]);refine aB.trans (b:=[ao b true [x.v0.v,v.v,v'.v],xk v (e.length+1) (mw x.Ae e.length xs m.id fun _=>0),xl v' (r.length+1) (tl x.Ar r.length ys m.id),cD b1 {m with st:=0},Mm.bJ m.dead 256,pq x.v0 o.length x.Ao]) (aB.sub ?_) (gW [0,5,1,2,3,4] (by decide) rfl);simp
  ·rw [hl,map_push (f:=qe x.Ae) (fun j hj=>Un _ _ _ _ hj) (Uo _ _ _ _),←x.he];simp [xs,zK]
  ·intro j hj;rw [hl]at hj;by_cases Pv:j=e.length
   ·subst Pv;simp [mw,lg,xs,hm.a,hm.d,hm.ac,hoc]
   ·have:=x.hp j (by omega);simpa [mw,lf (show j<e.length by omega)] using this
  ·rw [Xx,map_push (f:=nJ x.Ar) (fun j hj=>YN _ _ _ hj) (YO _ _ _),←x.hr];simp [ys]
  ·intro j hj;rw [Xx]at hj;by_cases Pv:j=r.length
   ·subst Pv;simp [tl,lg,ys,hb.1,hb.2,hm.ac,hoc]
   ·have:=x.hn j (by omega);simpa [tl,lf (show j<r.length by omega)] using this
end Go.RX.Ct
