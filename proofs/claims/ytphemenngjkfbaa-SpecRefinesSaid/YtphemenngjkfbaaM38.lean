/- The call machine. -/
import Derived.Test.YtphemenngjkfbaaM37
open Go.Proofs.Try renaming prog → agQ
open Int renaming toNat → ag
open List renaming append → agw, getElem?_append_left → agC, getElem?_eq_getElem → ag6, getElem?_eq_some_iff → agx, map_congr_left → ag4, map_cons → agW, mem_cons_of_mem → agF, mem_cons_self → agA, mem_range → agJ, range → ag5
open List.cons renaming injEq → agO
open Option.some renaming injEq → agy
namespace Go.RX.Dh
open Go.RX Go.Proofs Go.Cp Go.RX.Cs Go.RX.Ct Go.RX.Cu Go.RX.Cv Go.RX.Cw Go.RX.Cx Go.RX.Cy Go.RX.Cz Go.RX.Da Go.RX.Db Go.RX.Dc Go.RX.Dd
set_option maxRecDepth 100000
variable (b1 i:Nat) (m:Mc LI)
theorem K1{L:List HP}{x:MR}(hx:Is i m x):aB (cD b1 x::Mm.bJ x.dead 256::fC i m x::L) [cJ b1 i m]:=
 aB.trans (aB.sub (b:=ES b1 i m x) (by simp [ES])) (zp hx)
theorem Jp:au agQ 57 [.pointer (some ⟨b1,0,none⟩)] [cJ b1 i m] fun rv hs=>(∃(A:Nat→Int) (p d:Int) (q:Bool),rv= .tuple #[.agg (agw (ak .u8 16 A) ([])).toArray,.agg #[.int .u8 p,.int .u8 d],.bool q]∧q=(decide (m.ph≠0)&&m.out)∧(m.ph≠0→bD A=m.c∧(0≤p∧p<2)∧(0≤d∧d<2)∧fH p d=m.peer))∧hs=[cJ b1 i m]:=by
 refine qf fun x hx=>au.post (p:=fun rv hs=>(∃(A:Nat→Int) (p d:Int) (q:Bool),rv= .tuple #[.agg (agw (ak .u8 16 A) ([])).toArray,.agg #[.int .u8 p,.int .u8 d],.bool q]∧q=(decide (m.ph≠0)&&m.out)∧(m.ph≠0→bD A=m.c∧(0≤p∧p<2)∧(0≤d∧d<2)∧fH p d=m.peer))∧aB hs [cJ b1 i m]) ?_ fun rv hs ⟨h1,h2⟩=>⟨_,h2,h1,rfl⟩
 have b0:Nat:=0;refine SI _ x.a x.d x.st x.out x.ac x.pa x.pd x.lO x.early x.aP x.bF x.since x.heard x.bO x.bA 0 0 0 0 0 0 0 0 0 0 0 0 0 0 0 0 0 0 0 0 0 0 0 0 0 x.dv x.id x.own x.off x.dM (fun _=>0) (fun _=>0) (fun _=>0) (fun _=>0) (fun _=>0) b0 b1 x.dead (Mm.bJ x.dead 256) (fC i m x) (fC i m x) ?_;unfold KG;intro b3 b4;refine⟨fun c=>⟨⟨_,_,_,_,rfl,?_,fun h=>absurd (hx.H4.1 c) h⟩,K1 b1 i m hx⟩,fun c=>?_⟩
 ·simp [hx.H4.1 c]
 ·have h0:m.ph≠0:=fun e=>c (hx.H4.2 e)
  have hc:=hx.call h0;exact⟨⟨_,_,_,_,rfl,by rw [hc.out];simp [h0],fun _=>⟨hc.c,hc.pa,hc.pd,hc.peer⟩⟩,K1 b1 i m hx⟩
def idle:Mc LI:=⟨0,0,false,0,zK,zK,zK,0,0,0,0,0,false⟩
abbrev dv2(j:Nat):Int:=if j<2 then 2 else 0
theorem PS(b9:Nat)(R:List HP):aB (ao b9 true [.slice none 0 0,.int .i64 256]::R) (Mm.bJ b9 256::R):=
 aB.trans (aB.frame (aB.rA 72 16) _) (aB.trans (aB.frame (gW (a:=[aC true 72 16 (.slice none 0 0) 0 [],ao b9 true [.slice none 0 0,.int .i64 256]]) (b:=[ao b9 true [.slice none 0 0,.int .i64 256],aC true 72 16 (.slice none 0 0) 0 []]) [1,0] (by decide) rfl) R) (aB.frame (Mm.sv b9 256 ⟨cC,0,fun _=>0,by decide,by decide⟩ []) R))
theorem gH:au agQ 47 [.agg #[.int .u8 ((i/2:Nat):Int),.int .u8 ((i%2:Nat):Int)],.agg #[.int .u8 2,.int .u8 2,.int .u8 0,.int .u8 0,.int .u8 0,.int .u8 0,.int .u8 0,.int .u8 0]] [] fun rv hs=> ∃b:Nat,rv= .pointer (some ⟨b,0,none⟩)∧hs=[cJ b i idle]:=by
 refine au.post (p:=fun rv hs=> ∃b:Nat,rv= .pointer (some ⟨b,0,none⟩)∧aB hs [cJ b i idle]) ?_ fun rv hs ⟨b,h1,h2⟩=>⟨_,h2,b,h1,rfl⟩
 refine VL _ ((i/2:Nat):Int) ((i%2:Nat):Int) ?_;unfold rB;intro b0 b1 b2 b3;refine⟨b3,rfl,?_⟩;refine aB.trans (gW (b:=[ao b2 true [.slice none 0 0,.int .i64 256],cD b3 ⟨((i/2:Nat):Int),((i%2:Nat):Int),dv2,b2,0,fun _=>0,0,0,0,0,fun _=>0,fun _=>0,fun _=>0,0,0,0,0,0,0,0,0⟩]) [2,3] (by decide) rfl) ?_;refine aB.trans (PS b2 _) (aB.trans (gW [1,0] (by decide) rfl) (vL (x:=⟨((i/2:Nat):Int),((i%2:Nat):Int),dv2,b2,0,fun _=>0,0,0,0,0,fun _=>0,fun _=>0,fun _=>0,0,0,0,0,0,0,0,0⟩) ⟨rfl,rfl,rfl,rfl,rfl,fun h=>absurd rfl h⟩ (by decide)))
end Go.RX.Dh

namespace Go.RX.Dg
open Go.RX Go.Proofs Go.Cp Go.RX.Cs Go.RX.Ct Go.RX.Cu Go.RX.Cy Go.RX.Cz Go.RX.Dc Go.RX.Df
theorem ib(f:Nat→Int)(s n:Nat):aN (aJ f s) 0 n=aN f s n:=by simp [aN,aJ]
theorem G9{f g:Nat→Int}{j k n:Nat}(h:j≠k):aN (aG f (k*n) n g) (j*n) n=aN f (j*n) n:=by
 refine ag4 fun t ht=>?_
 have:=agJ.1 ht;simp only [aG];rw [if_neg];rcases Nat.lt_or_gt_of_ne h with h2 | h2
 ·have h3:(j+1)*n≤k*n:=Nat.mul_le_mul_right n h2;rw [Nat.succ_mul]at h3;omega
 ·have h3:(k+1)*n≤j*n:=Nat.mul_le_mul_right n h2;rw [Nat.succ_mul]at h3;omega
theorem G_{f g:Nat→Int}{s t n:Nat}:aN f s n=aN g t n↔∀j,j<n→f (s+j)=g (t+j):=by
 constructor
 ·intro h j hj;have:=congrArg (fun l=>l[j]?) h;simpa [aN,hj] using this
 ·intro h;exact ag4 fun j hj=>h j (agJ.1 hj)
theorem vQ{α:Type}{l:List α}{g:Nat→α}(h:l=(ag5 l.length).map g){n:Nat}(hn:n<l.length):l.take (n+1)=l.take n++[g n]:=by
 have e:l[n]? =some (g n):=by rw [h];simp [hn]
 rw [List.take_add_one,e];rfl
abbrev rG(A:cI):List (Nat→List Value):=[ax .u8 1 (A 0),ax .u8 1 (A 1),ax .u8 1 (A 2),ax .u8 1 (A 3),ax .u8 1 (A 4),ax .u8 16 (A 5),ax .u8 1 (A 6),ax .u8 1 (A 7),ax .u8 1 (A 8),ax .u8 32 (A 9),ax .u32 1 (A 10),dC 1 (fun _=> .slice none 0 0),ax .u8 1 (A 11)]
def n_(A:cI)(j:Nat):Mg LI:=⟨(A 4 j).toNat,bG (aN (A 5) (j*16) 16),(2*A 0 j+A 1 j).toNat,(2*A 2 j+A 3 j).toNat,aN (A 9) (j*32) 32,(A 11 j).toNat⟩
structure fX (A:cI) (l:List (Mg LI)):Prop where
 e:l=(ag5 l.length).map (n_ A)
 f: ∀j,j<l.length→(0≤A 0 j∧A 0 j<2)∧(0≤A 1 j∧A 1 j<2)∧(0≤A 2 j∧A 2 j<2)∧(0≤A 3 j∧A 3 j<2)∧0≤A 4 j
theorem fX.congr{A B:cI}{l:List (Mg LI)}(h:fX A l)(h0:B 0=A 0)(h1:B 1=A 1)(h2:B 2=A 2)(h3:B 3=A 3)(h4:B 4=A 4)(h5:B 5=A 5)(h9:B 9=A 9)(W7:B 11=A 11):fX B l:=by
 refine⟨?_,?_⟩
 ·have:n_ B=n_ A:=by funext j;simp only [n_,h0,h1,h2,h3,h4,h5,h9,W7]
  rw [this];exact h.e
 ·rw [h0,h1,h2,h3,h4];exact h.f
theorem fX.push{A:cI}{l:List (Mg LI)}(h:fX A l){i:Nat}(hi:i<4){N:Nat}(hN:N=l.length)(a2 a3 a4 a11:Int)(id key:Nat→Int)(q2:0≤a2∧a2<2)(q3:0≤a3∧a3<2)(q4:0≤a4)
  {B:cI} (h0:B 0=aj (A 0) N ((i/2:Nat):Int)) (h1:B 1=aj (A 1) N ((i%2:Nat):Int)) (h2:B 2=aj (A 2) N a2) (h3:B 3=aj (A 3) N a3) (h4:B 4=aj (A 4) N a4) (h5:B 5=aG (A 5) (N*16) 16 id) (h9:B 9=aG (A 9) (N*32) 32 key) (W7:B 11=aj (A 11) N a11) {y:Mg LI} (hy:y=⟨a4.toNat,bG (aN id 0 16),i,(2*a2+a3).toNat,aN key 0 32,a11.toNat⟩):
  fX B (l++[y]):=by
 subst hN;have hl:(l++[y]).length=l.length+1:=by simp
 refine⟨?_,?_⟩
 ·have cZ: ∀j,j<l.length→n_ B j=n_ A j:=fun j hj=>by simp only [n_,h0,h1,h2,h3,h4,h5,h9,W7,lf hj,po hj]
  have heq:n_ B l.length=y:=by
   rw [hy];simp only [n_,h0,h1,h2,h3,h4,h5,h9,W7,lg,ld,Mg.mk.injEq,true_and,and_true];omega
  rw [hl,map_push cZ heq,←h.e]
 ·intro j hj;rw [hl]at hj;by_cases Pv:j=l.length
  ·subst Pv;rw [h0,h1,h2,h3,h4];simp only [lg];omega
  ·have:=h.f j (by omega);rw [h0,h1,h2,h3,h4];simpa only [lf (show j<l.length by omega)] using this
def df(v:V1)(l:List (Mg LI)):HP:=HP.ex fun A:{A:cI // fX A l}=>aC true 216 59 v.v l.length (aT l.length (rG A.1))
def Ha(A:cI)(j:Nat):Fe LI:=⟨(2*A 1 j+A 2 j).toNat,(A 3 j).toNat,qe A j⟩
structure abw (A:cI) (j:Nat):Prop where
 k:0≤A 0 j
 da:0≤A 1 j∧A 1 j<2
 dd:0≤A 2 j∧A 2 j<2
 w:0≤A 3 j
 ac:A 5 j=1 - A 1 j
 pa:0≤A 6 j∧A 6 j<2
 pd:0≤A 7 j∧A 7 j<2
 oc:0≤A 9 j
structure CF (A:cI) (l:List (Fe LI)):Prop where
 e:l=(ag5 l.length).map (Ha A)
 f: ∀j,j<l.length→abw A j
def Jq(A:cI)(j:Nat):Rc×Nat:=(nJ A j,(A 6 j).toNat)
structure mz (i:Nat) (A:cI) (l:List (Rc×Nat)):Prop where
 e:l=(ag5 l.length).map (Jq A)
 f: ∀j,j<l.length→A 1 j=gQ i∧0≤A 3 j∧0≤A 4 j∧0≤A 5 j∧0≤A 6 j
theorem ny{f g:Nat→Int}{n m j:Nat}(h:j<n):aG f n m g j=f j:=if_neg (by omega)
theorem nA{f g:Nat→Int}{n m j:Nat}(h:j<m):aG f n m g (n+j)=g j:=by
 simp only [aG];rw [if_pos (by omega)];congr 1;omega
theorem VX{f g:Nat→Int}{n m j w:Nat}(h:j<n):aN (aG f (n*w) (m*w) g) (j*w) w=aN f (j*w) w:=by
 refine ag4 fun t ht=>?_
 have:=agJ.1 ht;have h2:(j+1)*w≤n*w:=Nat.mul_le_mul_right w h;rw [Nat.succ_mul]at h2;exact ny (by omega)
theorem VY{f g:Nat→Int}{n m j w:Nat}(h:j<m):aN (aG f (n*w) (m*w) g) ((n+j)*w) w=aN g (j*w) w:=by
 refine ag4 fun t ht=>?_
 have:=agJ.1 ht;have h2:(j+1)*w≤m*w:=Nat.mul_le_mul_right w h;rw [Nat.succ_mul]at h2;rw [show(n+j)*w+t=n*w+(j*w+t) by rw [Nat.add_mul];omega];exact nA (by omega)
theorem CF.append{A B:cI}{l:List (Fe LI)}(h:CF A l){i now:Nat}(hi:i<4){o:List (Mg LI)}{e:List (Ev LI)}{r:List Rc}(x:KO i now o e r)
  (h0:B 0=aG (A 0) l.length e.length (x.Ae 0)) (h1:B 1=aG (A 1) l.length e.length (x.Ae 1)) (h2:B 2=aG (A 2) l.length e.length (x.Ae 2)) (h3:B 3=aG (A 3) l.length e.length (x.Ae 3)) (h4:B 4=aG (A 4) (l.length*16) (e.length*16) (x.Ae 4)) (h5:B 5=aG (A 5) l.length e.length (x.Ae 5))
  (h6:B 6=aG (A 6) l.length e.length (x.Ae 6)) (h7:B 7=aG (A 7) l.length e.length (x.Ae 7)) (h8:B 8=aG (A 8) (l.length*32) (e.length*32) (x.Ae 8)) (h9:B 9=aG (A 9) l.length e.length (x.Ae 9)):CF B (l++e.map fun v=>⟨i,now,v⟩):=by
 have hl:(l++e.map fun v=>(⟨i,now,v⟩:Fe LI)).length=l.length+e.length:=by simp
 have lo: ∀j,j<l.length→Ha B j=Ha A j:=fun j hj=>by simp only [Ha,qe,h0,h1,h2,h3,h4,h6,h7,h8,h9,ny hj,VX hj]
 have H5: ∀j,j<e.length→Ha B (l.length+j)=⟨i,now,qe x.Ae j⟩:=fun j hj=>by
  have q:=x.hp j hj;simp only [Ha,qe,h0,h1,h2,h3,h4,h6,h7,h8,h9,nA hj,VY hj,q.2.2.2.2.2.1,q.2.2.2.2.2.2.1,q.2.2.2.2.2.2.2.1,Int.toNat_natCast,Fe.mk.injEq,and_true];omega
 refine⟨?_,fun j hj=>?_⟩
 ·rw [hl,List.range_add,List.map_append,List.map_map];congr 1
  ·exact h.e.trans (ag4 fun j hj=>(lo j (agJ.1 hj)).symm)
  ·conv=>lhs;rw [x.he]
   rw [List.map_map];exact ag4 fun j hj=>(H5 j (agJ.1 hj)).symm
 ·rw [hl]at hj;by_cases Az:j<l.length
  ·obtain⟨k1,k2,k3,k4,k5,k6,k7,k8⟩:=h.f j Az;exact⟨by rw [h0,ny Az];exact k1,by rw [h1,ny Az];exact k2,by rw [h2,ny Az];exact k3,by rw [h3,ny Az];exact k4,by rw [h1,h5,ny Az,ny Az];exact k5,by rw [h6,ny Az];exact k6,by rw [h7,ny Az];exact k7,by rw [h9,ny Az];exact k8⟩
  ·obtain⟨t,rfl⟩: ∃t,j=l.length+t:=⟨j - l.length,by omega⟩;have ht:t<e.length:=by omega
   obtain⟨q1,q2,q3,q4,q5,q6,q7,q8,q9,q10⟩:=x.hp t ht;refine⟨by rw [h0,nA ht];exact q5,by rw [h1,nA ht];omega,by rw [h2,nA ht];omega,by rw [h3,nA ht];omega,by rw [h1,h5,nA ht,nA ht,q6,q9];unfold gQ;omega,by rw [h6,nA ht];exact⟨q1,q2⟩,by rw [h7,nA ht];exact⟨q3,q4⟩,by rw [h9,nA ht];exact q10⟩
theorem mz.push{A B:cI}{l:List (Rc×Nat)}{i now:Nat}(h:mz i A l){o:List (Mg LI)}{e:List (Ev LI)}{r:List Rc}(x:KO i now o e r){n N:Nat}(hn:n<r.length)(hN:N=l.length)
  (h0:B 0=aG (A 0) (N*16) 16 (aJ (x.Ar 0) (n*16))) (h1:B 1=aj (A 1) N (x.Ar 1 n)) (h2:B 2=aj (A 2) N (x.Ar 2 n)) (h3:B 3=aj (A 3) N (x.Ar 3 n)) (h4:B 4=aj (A 4) N (x.Ar 4 n)) (h5:B 5=aj (A 5) N (x.Ar 5 n)) (h6:B 6=aj (A 6) N (x.Ar 6 n)):mz i B (l++[(nJ x.Ar n,now)]):=by
 subst hN;obtain⟨q1,q2,q3,q4,q5⟩:=x.hn n hn;have hl:(l++[(nJ x.Ar n,now)]).length=l.length+1:=by simp
 refine⟨?_,fun j hj=>?_⟩
 ·have cZ: ∀j,j<l.length→Jq B j=Jq A j:=fun j hj=>by simp only [Jq,nJ,h0,h2,h3,h4,h5,h6,lf hj,po hj]
  have heq:Jq B l.length=(nJ x.Ar n,now):=by
   simp only [Jq,nJ,h0,h2,h3,h4,h5,h6,lg,ld,ib,q1,Int.toNat_natCast]
  rw [hl,map_push cZ heq,←h.e]
 ·rw [hl]at hj;by_cases Pv:j=l.length
  ·subst Pv;rw [h1,h3,h4,h5,h6];simp only [lg];exact⟨q3,q4,q2,q5,by omega⟩
  ·have:=h.f j (by omega);rw [h1,h3,h4,h5,h6];simpa only [lf (show j<l.length by omega)] using this
def rH(v:V1)(l:List (Fe LI))(B:Nat):HP:=HP.ex fun A:{A:cI // CF A l∧l.length≤B}=>aC true 76 56 v.v l.length (aT l.length (ER A.1))
def dF(v:V1)(i:Nat)(l:List (Rc×Nat))(B:Nat):HP:=HP.ex fun A:{A:cI // mz i A l∧l.length≤B}=>aC true 85 22 v.v l.length (aT l.length (yZ A.1))
abbrev oP:List IntKind:=[.u8,.u8,.u8,.u8,.u8,.u8,.u8,.u8,.u8,.u8,.u8,.u8,.u8,.u8,.u8,.u8]
structure rI (A B C:Nat→Int) (t:Nat→Option Nat):Prop where
 h: ∀c,A c≠0↔(t c).isSome=true
 b: ∀c,0≤B c∧B c<2
 c: ∀c,0≤C c∧C c<2
 v: ∀c,fH (B c) (C c)=(t c).getD 0
structure Hb (A B:Nat→Int) (p:Nat→Option LI):Prop where
 h: ∀c,A c≠0↔(p c).isSome=true
 v: ∀c k,p c=some k→aN B (c*32) 32=k
def qh(A:Nat→Int)(d:Nat→Bool):Prop:= ∀c,A c≠0↔d c=true
theorem rI.put{A B C:Nat→Int}{t:Nat→Option Nat}(h:rI A B C t)(c:Nat){p d:Int}(hp:0≤p∧p<2)(hd:0≤d∧d<2):rI (aj A c 1) (aj B c p) (aj C c d) (bP t c (some (fH p d))):=by
 refine⟨fun x=>?_,fun x=>?_,fun x=>?_,fun x=>?_⟩<;>by_cases e:x=c
 ·simp [aj,bP,e]
 ·simpa [aj,bP,e] using h.h x
 ·simpa [aj,e] using hp
 ·simpa [aj,e] using h.b x
 ·simpa [aj,e] using hd
 ·simpa [aj,e] using h.c x
 ·simp [aj,bP,e]
 ·simpa [aj,bP,e] using h.v x
theorem Hb.put{A B:Nat→Int}{p:Nat→Option LI}(h:Hb A B p)(c:Nat)(g:Nat→Int){k:LI}(hk:aN g 0 32=k):Hb (aj A c 1) (aG B (c*32) 32 g) (bP p c (some k)):=by
 refine⟨fun x=>?_,fun x y hy=>?_⟩<;>by_cases e:x=c
 ·simp [aj,bP,e]
 ·simpa [aj,bP,e] using h.h x
 ·subst e;rw [ld,hk];simpa [bP] using hy
 ·rw [G9 e];exact h.v x y (by simpa [bP,e] using hy)
theorem qh.put{A:Nat→Int}{d:Nat→Nat→Bool}{i:Nat}(h:qh A (d i))(c:Nat):qh (aj A c 1) (jZ d i c true i):=by
 intro x;by_cases e:x=c
 ·simp [aj,jZ,e]
 ·simpa [aj,jZ,e] using h x
def uz(b:Nat)(t:Nat→Option Nat):HP:=HP.ex fun x:{x:(Nat→Int)×(Nat→Int)×(Nat→Int) // rI x.1 x.2.1 x.2.2 t}=>bK b oP true true ([.int .u8 0,.int .u8 0]) (fun i=> !(x.1.1 i==0)) (cc [ax .u8 1 x.1.2.1,ax .u8 1 x.1.2.2])
def Jr(b:Nat)(p:Nat→Option LI):HP:=HP.ex fun x:{x:(Nat→Int)×(Nat→Int) // Hb x.1 x.2 p}=>bK b oP true true (agw (ak .u8 32 (fun _=>0)) ([])) (fun i=> !(x.1.1 i==0)) (cc [ax .u8 32 x.1.2])
def iP(b:Nat)(d:Nat→Bool):HP:=HP.ex fun x:{x:(Nat→Int)×(Nat→Int) // qh x.1 d}=>bK b oP true false ([.int .u8 0]) (fun i=> !(x.1.1 i==0)) (cc [ax .u8 1 x.1.2])
abbrev qi(b:Nat)(br:Nat→Nat):HP:=bK b [.u8,.u8] true false ([.map none]) (fun i=>BZ [18,84,162,660] i) (wA [(18,[.map (some (br 0))]),(84,[.map (some (br 1))]),(162,[.map (some (br 2))]),(660,[.map (some (br 3))])] ([.map none]))
abbrev gl(b0:Nat)(now dl:Int)(bm:Nat→Nat)(vf ve:V1)(b5 b6 b7 b8:Nat)(bad:Bool):HP:=ao b0 true ([.int .u64 now,.pointer (some ⟨bm 0,0,none⟩),.pointer (some ⟨bm 1,0,none⟩),.pointer (some ⟨bm 2,0,none⟩),.pointer (some ⟨bm 3,0,none⟩),vf.v,.int .u16 dl,.map (some b5),.map (some b6),ve.v,.map (some b7),.map (some b8),.bool bad])
theorem Bs{α:Type}{di:Nat}(hd:di<4)(f:Nat→α):s4 di (f 0) (f 1) (f 2) (f 3)=f di:=by
 match di,hd with
 | 0,_=>rfl
 | 1,_=>rfl
 | 2,_=>rfl
 | 3,_=>rfl
theorem PT{α:Type}{di:Nat}(hd:di<4)(f:Nat→α)(v:α):s4 di v (f 0) (f 0) (f 0)=bP f di v 0∧s4 di (f 1) v (f 1) (f 1)=bP f di v 1∧s4 di (f 2) (f 2) v (f 2)=bP f di v 2∧s4 di (f 3) (f 3) (f 3) v=bP f di v 3:=by
 match di,hd with
 | 0,_=>exact⟨rfl,rfl,rfl,rfl⟩
 | 1,_=>exact⟨rfl,rfl,rfl,rfl⟩
 | 2,_=>exact⟨rfl,rfl,rfl,rfl⟩
 | 3,_=>exact⟨rfl,rfl,rfl,rfl⟩
theorem EY{di:Nat}(hd:di<4):s4 di (0:Int) 0 1 1=((di/2:Nat):Int)∧s4 di (0:Int) 1 0 1=((di%2:Nat):Int)∧s4 di (0:Int) 1 2 3=(di:Int):=by
 match di,hd with
 | 0,_=>exact⟨rfl,rfl,rfl⟩
 | 1,_=>exact⟨rfl,rfl,rfl⟩
 | 2,_=>exact⟨rfl,rfl,rfl⟩
 | 3,_=>exact⟨rfl,rfl,rfl⟩
end Go.RX.Dg

namespace Go.RX.Eb
open Go.RX Go.Proofs Go.Cp Go.RX.Cs Go.RX.Ct Go.RX.Cu Go.RX.Cy
open Go.RX.So (DE CE qE oQ np dt)
theorem PU(A:Nat→Int):qE A=bD A:=by
 show bG _=bG _;exact congrArg bG (ag4 fun t _=>by rw [Nat.zero_add])
abbrev S6(i:Nat):Nat:=oQ ((i/2:Nat):Int) ((i%2:Nat):Int)
theorem K2{a d a' d':Int}(h:oQ a d=oQ a' d'):a=a'∧d=d':=by
 have:=jw (by simp) h;simp only [List.range_succ,List.range_zero,List.nil_append,agW,List.map_nil,List.singleton_append,agO,and_true]at this;simpa [aj] using this
theorem PV{i j:Nat}(h:j≠i):S6 j≠S6 i:=fun e=>h (by have:=K2 e;omega)
structure Uq (i:Nat) (d:So.Dv) (j:Nat) (q:Rc×Nat):Prop where
 c:bG (aN d.r0 (j*16) 16)=q.1.c
 ac:d.r1 j=gQ i
 out:d.r2 j≠0↔q.1.out=true
 oc:d.r3 j=(q.1.oc:Int)
 aP:d.r4 j=(q.1.aP:Int)
 bF:d.r5 j=(q.1.bF:Int)
 w:d.r6 j=(q.2:Int)
structure vR (i:Nat) (d:So.Dv) (D:Sd):Prop where
 st:d.st=(D.st:Int)
 c:D.st≠0→bD d.id=D.c
 out:D.st≠0→(d.out≠0↔D.out=true)
 acc:D.st≠0→d.acc=gQ i
 aP:D.st≠0→d.aP=(D.aP:Int)
 bF:D.st≠0→d.fo=(D.bF:Int)
 peer:D.st=3→(0≤d.pa∧d.pa<2)∧(0≤d.pd∧d.pd<2)∧fH d.pa d.pd=D.peer
 had: ∀c,d.had c≠0↔D.had c=true
 n:d.n=(D.log.length:Int)
 log: ∀j q,D.log[j]? =some q→Uq i d j q
structure Hc (y:So.Cl) (C:Sc LI):Prop where
 a:0≤y.ca∧y.ca<2
 d:0≤y.cd∧y.cd<2
 gO:fH y.ca y.cd=C.gO
 acc:y.acc=1 - y.ca
 n:y.n=(C.dj.length:Int)
 j: ∀j q,C.dj[j]? =some q→(0≤y.j0 j∧y.j0 j<2)∧(0≤y.j1 j∧y.j1 j<2)∧fH (y.j0 j) (y.j1 j)=q
 decl:y.lQ=C.decl
 K3:C.bb=none→y.bb=false
 Hd: ∀p,C.bb=some p→y.bb=true∧(0≤y.aa∧y.aa<2)∧(0≤y.ad∧y.ad<2)∧fH y.aa y.ad=p
 EZ:C.print=none→y.known=false
 E0: ∀k,C.print=some k→y.known=true∧aN y.print 0 32=k
structure He (e:So.Ev) (x:Fe LI):Prop where
 kind:e.kind=(x.e.k:Int)
 da:e.da=((x.i/2:Nat):Int)
 dd:e.dd=((x.i%2:Nat):Int)
 w:e.at_=(x.w:Int)
 c:bD e.id=x.e.c
 acc:e.acc=gQ x.i
 pa:0≤e.pa∧e.pa<2
 pd:0≤e.pd∧e.pd<2
 peer:fH e.pa e.pd=x.e.peer
 key:aN e.key 0 32=x.e.key
 oc:e.oc=(x.e.oc:Int)
structure Rel (σ:So.Sys) (p:Ss LI):Prop where
 wf:σ.Wf
 last:σ.s.last=(p.last:Int)
 dv:σ.s.dv 0=2∧σ.s.dv 1=2
 dev: ∀i,i<4→∃x∈σ.ds,x.k=S6 i∧vR i x.d (p.d i)
 Ur: ∀c,p.c c=none→∀y∈σ.cs,y.k≠c
 DT: ∀c C,p.c c=some C→∃y∈σ.cs,y.k=c∧Hc y.c C
theorem cm{α:Type}{l1 l2:List α}{x z:α}:z∈l1++x::l2↔z∈l1∨z=x∨z∈l2:=by simp
theorem PW{l1 l2:List DE}{x x':DE}(hk:x'.k=x.k)(h:(l1++x::l2).Pairwise fun a b=>a.k≠b.k):(l1++x'::l2).Pairwise fun a b=>a.k≠b.k:=by
 have h1:=(List.pairwise_map (f:=DE.k) (R:=fun a b=>a≠b)).2 h;refine(List.pairwise_map (f:=DE.k) (R:=fun a b=>a≠b)).1 ?_;simpa [hk] using h1
theorem VZ{l1 l2:List CE}{x x':CE}(hk:x'.k=x.k)(h:(l1++x::l2).Pairwise fun a b=>a.k≠b.k):(l1++x'::l2).Pairwise fun a b=>a.k≠b.k:=by
 have h1:=(List.pairwise_map (f:=CE.k) (R:=fun a b=>a≠b)).2 h;refine(List.pairwise_map (f:=CE.k) (R:=fun a b=>a≠b)).1 ?_;simpa [hk] using h1
theorem YT{l1 l2:List DE}{x:DE}(h:(l1++x::l2).Pairwise fun a b=>a.k≠b.k): ∀z∈l1++x::l2,z.k=x.k→z=x:=by
 intro z hz hk;rw [List.pairwise_append]at h;rcases cm.1 hz with q | q | q
 ·exact absurd hk (h.2.2 z q x agA)
 ·exact q
 ·exact absurd hk.symm ((List.pairwise_cons.1 h.2.1).1 z q)
theorem YU{l1 l2:List CE}{x:CE}(h:(l1++x::l2).Pairwise fun a b=>a.k≠b.k): ∀z∈l1++x::l2,z.k=x.k→z=x:=by
 intro z hz hk;rw [List.pairwise_append]at h;rcases cm.1 hz with q | q | q
 ·exact absurd hk (h.2.2 z q x agA)
 ·exact q
 ·exact absurd hk.symm ((List.pairwise_cons.1 h.2.1).1 z q)
theorem Rel.one{σ:So.Sys}{p:Ss LI}(h:Rel σ p){x x':DE}(hx:x∈σ.ds)(H3:x'∈σ.ds)(e:x'.k=x.k):x'=x:=by
 obtain⟨l1,l2,hl⟩:=List.append_of_mem hx;have:=h.wf.nd;rw [hl]at this H3;exact YT this x' H3 e
theorem Rel.V0{σ:So.Sys}{p:Ss LI}(h:Rel σ p){x x':CE}(hx:x∈σ.cs)(H3:x'∈σ.cs)(e:x'.k=x.k):x'=x:=by
 obtain⟨l1,l2,hl⟩:=List.append_of_mem hx;have:=h.wf.nc;rw [hl]at this H3;exact YU this x' H3 e
section
variable {b mc ma:Nat} {s:So.Sy} {l1 l2:List DE} {x:DE} {cs m1 m2:List CE} {y:CE} {p:Ss LI} {i c w:Nat} {D':Sd} {C':Sc LI} {d':So.Dv} {c':So.Cl} {v v':V1}
theorem Rel.old(h:Rel ⟨b,mc,ma,s,l1++x::l2,m1++y::m2⟩ p)(hi:i<4)(hk:x.k=S6 i)(hy:y.k=c)(hD:vR i d' D')(hC:Hc c' C'){at_:Int}(hw:at_=(w:Int)):
  Rel ⟨b,mc,ma,{s with last:=at_},l1++{x with v:=v,d:=d'}::l2,m1++{y with v:=v',c:=c'}::m2⟩ ⟨w,bP p.d i D',bP p.c c (some C')⟩:=by
 obtain⟨wf,h1,h2,h3,h4,h5⟩:=h;refine⟨⟨?_,?_,?_,?_,PW (x:=x) rfl wf.nd,VZ (x:=y) rfl wf.nc⟩,hw,h2,fun j hj=>?_,fun e he=>?_,fun e C he=>?_⟩
 ·intro z hz;rcases cm.1 hz with q | rfl | q
  ·exact wf.d1 z (cm.2 (.inl q))
  ·exact wf.d1 x (by simp)
  ·exact wf.d1 z (cm.2 (.inr (.inr q)))
 ·intro k jK;refine wf.d0 k fun z hz=>?_
  rcases cm.1 hz with q | rfl | q
  ·exact jK z (cm.2 (.inl q))
  ·exact jK {z with v:=v,d:=d'} (cm.2 (.inr (.inl rfl)))
  ·exact jK z (cm.2 (.inr (.inr q)))
 ·intro z hz;rcases cm.1 hz with q | rfl | q
  ·exact wf.c1 z (cm.2 (.inl q))
  ·exact wf.c1 y (by simp)
  ·exact wf.c1 z (cm.2 (.inr (.inr q)))
 ·intro k jK;refine wf.c0 k fun z hz=>?_
  rcases cm.1 hz with q | rfl | q
  ·exact jK z (cm.2 (.inl q))
  ·exact jK {z with v:=v',c:=c'} (cm.2 (.inr (.inl rfl)))
  ·exact jK z (cm.2 (.inr (.inr q)))
 ·by_cases e:j=i
  ·subst e;refine⟨{x with v:=v,d:=d'},cm.2 (.inr (.inl rfl)),hk,?_⟩;simp only [bj];exact hD
  ·obtain⟨z,hz,k1,k2⟩:=h3 j hj;refine⟨z,?_,k1,by simp only [cg _ _ e];exact k2⟩;rcases cm.1 hz with q | rfl | q
   ·exact cm.2 (.inl q)
   ·exact absurd (k1.symm.trans hk) (PV e)
   ·exact cm.2 (.inr (.inr q))
 ·have e1:e≠c:=fun q=>by subst q;simp [bP]at he
  simp only [cg _ _ e1]at he;intro z hz;rcases cm.1 hz with q | rfl | q
  ·exact h4 e he z (cm.2 (.inl q))
  ·exact h4 e he y (by simp)
  ·exact h4 e he z (cm.2 (.inr (.inr q)))
 ·by_cases e1:e=c
  ·subst e1;simp only [bj,agy]at he;subst he;exact⟨{y with v:=v',c:=c'},cm.2 (.inr (.inl rfl)),hy,hC⟩
  ·simp only [cg _ _ e1]at he;obtain⟨z,hz,k1,k2⟩:=h5 e C he;refine⟨z,?_,k1,k2⟩;rcases cm.1 hz with q | rfl | q
   ·exact cm.2 (.inl q)
   ·exact absurd (k1.symm.trans hy) e1
   ·exact cm.2 (.inr (.inr q))
theorem Rel.new(h:Rel ⟨b,mc,ma,s,l1++x::l2,cs⟩ p)(hi:i<4)(hk:x.k=S6 i){e:So.Ev}{bc:Nat}{v1:V1}(hc: ∀y∈cs,y.k≠qE e.id)(he:qE e.id=c)(hD:vR i d' D')(hC:Hc (So.Cl.new e) C')(hw:e.at_=(w:Int)):
  Rel ⟨b,mc,ma,{s.xh e 1 ((bc:Nat)+1)with last:=e.at_},l1++{x with d:=d'}::l2,⟨qE e.id,bc,v1,So.Cl.new e⟩::cs⟩ ⟨w,bP p.d i D',bP p.c c (some C')⟩:=by
 obtain⟨wf,h1,h2,h3,h4,h5⟩:=h;refine⟨⟨?_,?_,?_,?_,PW (x:=x) rfl wf.nd,List.Pairwise.cons (fun y hy=>(hc y hy).symm) wf.nc⟩,hw,h2,fun j hj=>?_,fun k jK=>?_,fun k C jK=>?_⟩
 ·intro z hz;rcases cm.1 hz with q | rfl | q
  ·exact wf.d1 z (cm.2 (.inl q))
  ·exact wf.d1 x (by simp)
  ·exact wf.d1 z (cm.2 (.inr (.inr q)))
 ·intro k jK;refine wf.d0 k fun z hz=>?_
  rcases cm.1 hz with q | rfl | q
  ·exact jK z (cm.2 (.inl q))
  ·exact jK {z with d:=d'} (cm.2 (.inr (.inl rfl)))
  ·exact jK z (cm.2 (.inr (.inr q)))
 ·intro y hy;show aj s.xe (qE e.id) 1 y.k=1∧aj s.xg (qE e.id) ((bc:Nat)+1) y.k=(y.b:Nat)+1;rcases List.mem_cons.1 hy with rfl | q
  ·simp [aj]
  ·rw [aj,if_neg (hc y q),aj,if_neg (hc y q)];exact wf.c1 y q
 ·intro k jK;show aj s.xe (qE e.id) 1 k=0∧aj s.xg (qE e.id) ((bc:Nat)+1) k=0;have:k≠qE e.id:=fun q=>jK _ agA q.symm
  rw [aj,if_neg this,aj,if_neg this];exact wf.c0 k fun y hy=>jK y (agF _ hy)
 ·by_cases e:j=i
  ·subst e;refine⟨{x with d:=d'},cm.2 (.inr (.inl rfl)),hk,?_⟩;simp only [bj];exact hD
  ·obtain⟨z,hz,k1,k2⟩:=h3 j hj;refine⟨z,?_,k1,by simp only [cg _ _ e];exact k2⟩;rcases cm.1 hz with q | rfl | q
   ·exact cm.2 (.inl q)
   ·exact absurd (k1.symm.trans hk) (PV e)
   ·exact cm.2 (.inr (.inr q))
 ·have e1:k≠c:=fun q=>by subst q;simp [bP]at jK
  simp only [cg _ _ e1]at jK;intro z hz;rcases List.mem_cons.1 hz with rfl | q
  ·exact fun q=>e1 (q.symm.trans he)
  ·exact h4 k jK z q
 ·by_cases e1:k=c
  ·subst e1;simp only [bj,agy]at jK;subst jK;exact⟨_,agA,he,hC⟩
  ·simp only [cg _ _ e1]at jK;obtain⟨z,hz,k1,k2⟩:=h5 k C jK;exact⟨z,agF _ hz,k1,k2⟩
end
end Go.RX.Eb

namespace Go.RX.Ec
open Go.RX Go.Proofs Go.Cp Go.RX.Cs Go.RX.Ct Go.RX.Cu Go.RX.Cy Go.RX.Eb
open Go.RX.So (DE CE qE oQ np dt)
variable {σ:So.Sys} {p:Ss LI} {e:So.Ev} {x:Fe LI} {d':So.Dv} {c':So.Cl} {D':Sd} {C C':Sc LI}
abbrev Ok(σ:So.Sys)(e:So.Ev)(p':Ss LI):Prop:=(∀nj,So.Steps σ e nj→nj.b=σ.b∧Rel nj p')∧¬So.KF σ e
theorem _root_.Go.RX.Eb.He.kd(h:He e x):oQ e.da e.dd=S6 x.i:=by rw [h.da,h.dd]
theorem _root_.Go.RX.Eb.He.ki(h:He e x):qE e.id=x.e.c:=by rw [PU,h.c]
theorem Bt(h:Rel σ p)(hi:x.i<4)(hE:He e x){X:DE}(hX:X∈σ.ds)(hk:X.k=S6 x.i){Y:CE}(hY:Y∈σ.cs)(Ru:Y.k=x.e.c)(hs:dt e σ.s.last X.d Y.c=some (d',c'))(hD:vR x.i d' D')(hC:Hc c' C'):
  Ok σ e ⟨x.w,bP p.d x.i D',bP p.c x.e.c (some C')⟩:=by
 refine⟨fun nj lG=>?_,fun hr=>?_⟩
 ·cases lG with
  | new l1 l2 x0 d0 bc v1 hd sP hc qG=>exact absurd (Ru.trans hE.ki.symm) (hc Y hY)
  | old l1 l2 x0 m1 m2 y0 d0 c0 w w1 hd sP l6 V2 qG=>
   have e1:x0=X:=h.one hX (by rw [hd];simp) (sP.trans (hE.kd.trans hk.symm));have e2:y0=Y:=h.V0 hY (by rw [l6];simp) (V2.trans (hE.ki.trans Ru.symm));subst e1 e2;rw [hs]at qG;cases qG;obtain⟨b,mc,ma,s,ds,cs⟩:=σ;simp only at hd l6;subst hd l6;exact⟨rfl,h.old hi hk Ru hD hC hE.w⟩
 ·cases hr with
  | device h1=>exact h1 X hX (hk.trans hE.kd.symm)
  | new x0 Us sP hc qG=>exact hc Y hY (Ru.trans hE.ki.symm)
  | old x0 Us sP y0 V2 HX qG=>
   have e1:x0=X:=h.one hX Us (sP.trans (hE.kd.trans hk.symm));have e2:y0=Y:=h.V0 hY V2 (HX.trans (hE.ki.trans Ru.symm));subst e1 e2;rw [hs]at qG;cases qG
theorem V3(h:Rel σ p)(hi:x.i<4)(hE:He e x){X:DE}(hX:X∈σ.ds)(hk:X.k=S6 x.i)(hn: ∀y∈σ.cs,y.k≠x.e.c)(hs:np e σ.s.dv σ.s.last X.d=some d')(hD:vR x.i d' D')(hC:Hc (So.Cl.new e) C'):
  Ok σ e ⟨x.w,bP p.d x.i D',bP p.c x.e.c (some C')⟩:=by
 refine⟨fun nj lG=>?_,fun hr=>?_⟩
 ·cases lG with
  | new l1 l2 x0 d0 bc v1 hd sP hc qG=>
   have e1:x0=X:=h.one hX (by rw [hd];simp) (sP.trans (hE.kd.trans hk.symm));subst e1;rw [hs]at qG;cases qG;obtain⟨b,mc,ma,s,ds,cs⟩:=σ;simp only at hd hc;subst hd;exact⟨rfl,h.new hi hk hc hE.ki hD hC hE.w⟩
  | old l1 l2 x0 m1 m2 y0 d0 c0 w w1 hd sP l6 V2 qG=>exact absurd (V2.trans hE.ki) (hn y0 (by rw [l6];simp))
 ·cases hr with
  | device h1=>exact h1 X hX (hk.trans hE.kd.symm)
  | new x0 Us sP hc qG=>
   have e1:x0=X:=h.one hX Us (sP.trans (hE.kd.trans hk.symm));subst e1;rw [hs]at qG;cases qG
  | old x0 Us sP y0 V2 HX qG=>exact hn y0 V2 (HX.trans hE.ki)
theorem YV(h:aN e.key 0 32=zK): ∀j,j<32→e.key j=0:=sx (B:=fun _=>0) h
theorem bare(hE:He e x)(hb:Bare zK p x):e.bare:=by
 have hp:=hE.pa;have hd:=hE.pd;have h1:=hE.peer;unfold fH at h1;refine⟨⟨?_,?_⟩,?_⟩
 ·rcases hb.peer with q | q | q
  ·exact .inl (.inl (by rw [hE.kind,q];rfl))
  ·exact .inl (.inr (by rw [hE.kind,q];rfl))
  ·exact .inr (by omega)
 ·rcases hb.key with q | q
  ·exact .inl (by rw [hE.kind,q];rfl)
  ·exact .inr (YV (hE.key.trans q))
 ·rcases hb.oc with q | q
  ·exact .inl (by rw [hE.kind,q];rfl)
  ·exact .inr (by rw [hE.oc,q];rfl)
theorem late(h:Rel σ p)(hE:He e x)(hb:Bare zK p x): ¬e.at_<σ.s.last:=by
 rw [h.last,hE.w];have:=hb.w;omega
theorem kinds(hE:He e x){k:Nat}:e.kind=(k:Int)↔x.e.k=k:=by rw [hE.kind];omega
theorem js(hE:He e x){d:So.Dv}{D:Sd}(h:vR x.i d D){st:Nat}(hs:st=1∨st=2):vR x.i (d.js e st) (D.js x st):=by
 have h1:((st:Int)=1)↔st=1:=by omega
 refine⟨rfl,fun _=>hE.c,fun _=>?_,fun _=>hE.acc,fun _=>hE.w,fun _=>rfl,fun q=>?_,fun c=>?_,h.n,fun j q hq=>?_⟩
 ·show(if(st:Int)=1 then(1:Int)else 0)≠0↔decide (st=1)=true;by_cases q:st=1<;>simp [q,h1]
 ·have q2:st=3:=q;omega
 ·show aj d.had (qE e.id) 1 c≠0↔bP D.had x.e.c true c=true;rw [hE.ki];by_cases q:c=x.e.c
  ·simp [aj,bP,q]
  ·simpa [aj,bP,q] using h.had c
 ·obtain⟨a,b,c,d,e,f,g⟩:=h.log j q hq;exact⟨a,b,c,d,e,f,g⟩
theorem ft(hE:He e x){d:So.Dv}{D:Sd}(h:vR x.i d D)(h0:D.st≠0):vR x.i (d.ft e) (D.ft x):=by
 refine⟨rfl,fun _=>h.c h0,fun _=>h.out h0,fun _=>h.acc h0,fun _=>h.aP h0,fun _=>h.bF h0,fun _=>⟨hE.pa,hE.pd,hE.peer⟩,h.had,h.n,fun j q hq=>?_⟩;obtain⟨a,b,c,d,e,f,g⟩:=h.log j q hq;exact⟨a,b,c,d,e,f,g⟩
theorem acts(hE:He e x){d:So.Dv}{D:Sd}(h:vR x.i d D)(h0:D.st≠0):vR x.i (d.active e) {D with st:=4,bF:=x.w}:=by
 refine⟨rfl,fun _=>h.c h0,fun _=>h.out h0,fun _=>h.acc h0,fun _=>h.aP h0,fun _=>hE.w,fun q=>absurd q (by simp),h.had,h.n,fun j q hq=>?_⟩;obtain⟨a,b,c,d,e,f,g⟩:=h.log j q hq;exact⟨a,b,c,d,e,f,g⟩
theorem sC{f:Nat→Int}{n:Nat}{x:Int}{j:Nat}(hj:j<n):So.wV f (n:Int) x j=f j:=by
 unfold So.wV aG;rw [if_neg (by omega)]
theorem sD{f:Nat→Int}{n:Nat}{x:Int}:So.wV f (n:Int) x n=x:=by
 unfold So.wV aG;rw [if_pos (by omega),show n - ag (n:Int)=0 by omega];rfl
theorem ends(hE:He e x){d:So.Dv}{D:Sd}(h:vR x.i d D)(h0:D.st≠0):vR x.i (d.ends e) (D.ends x):=by
 have hn:=h.n;refine⟨rfl,fun q=>absurd rfl q,fun q=>absurd rfl q,fun q=>absurd rfl q,fun q=>absurd rfl q,fun q=>absurd rfl q,fun q=>absurd q (by simp [Sd.ends]),h.had,?_,fun j q hq=>?_⟩
 ·show d.n+1=(((D.log++[_]).length:Nat):Int);rw [List.length_append,List.length_singleton];omega
 ·have DU:(D.log++[((⟨D.c,D.aP,D.out,x.e.oc,D.bF⟩:Rc),x.w)])[j]? =some q:=hq;have e0:ag ((D.log.length:Int)*16)=D.log.length*16:=by omega
  by_cases hj:j<D.log.length
  ·rw [agC hj]at DU;obtain⟨a1,a2,a3,a4,a5,a6,a7⟩:=h.log j q DU;refine⟨?_,?_,?_,?_,?_,?_,?_⟩<;>simp only [So.Dv.ends,hn,e0]
   ·rw [Dg.G9 (by omega)];exact a1
   ·rw [sC hj];exact a2
   ·rw [sC hj];exact a3
   ·rw [sC hj];exact a4
   ·rw [sC hj];exact a5
   ·rw [sC hj];exact a6
   ·rw [sC hj];exact a7
  ·have Az:j=D.log.length:=by
    have:=(agx.1 DU).1;simp at this;omega
   subst Az;simp at DU;subst DU;refine⟨?_,?_,?_,?_,?_,?_,?_⟩<;>simp only [So.Dv.ends,hn,e0]
   ·rw [ld,←h.c h0];refine congrArg bG (DP fun t ht=>?_);unfold aG;rw [if_pos (by omega)];rfl
   ·rw [sD];exact h.acc h0
   ·rw [sD];exact h.out h0
   ·rw [sD];exact hE.oc
   ·rw [sD];exact h.aP h0
   ·rw [sD];exact h.bF h0
   ·rw [sD];exact hE.w
theorem PX{A B:Nat→Int}(h:bD A=bD B): ∀j,j<16→A j=B j:=sx (jw (by simp [aN]) h)
theorem zv(hE:He e x){d:So.Dv}{D:Sd}(hD:vR x.i d D)(h0:D.st≠0)(he:D.c=x.e.c): ¬((d.st=0∨¬∀j,j<16→d.id j=e.id j)∨¬d.acc=e.acc):=by
 rintro ((q | q) | q)
 ·rw [hD.st]at q;omega
 ·exact q (PX (by rw [hD.c h0,he,hE.c]))
 ·exact q (by rw [hD.acc h0,hE.acc])
theorem K4{a b c d:Int}(ha:0≤a∧a<2)(hb:0≤b∧b<2)(hc:0≤c∧c<2)(hd:0≤d∧d<2)(h:fH a b=fH c d):a=c∧b=d:=(Jg ha hb hc hd).1 h
theorem S7(h:Rel σ p){p':Ss LI}(hs:Sp zK p x p')(hE:He e x):Ok σ e p':=by
 cases hs with
 | sQ hb hk hd hc=>
  obtain⟨X,hX,qI,oI⟩:=h.dev x.i hb.i;have Up:e.da=((x.i/2:Nat):Int):=hE.da;have hi:=hb.i;refine V3 h hi hE hX qI (fun y hy=>h.Ur _ hc y hy) (d':=X.d.js e 1) ?_ (js hE oI (.inl rfl)) ?_
  ·rw [np,if_neg (late h hE hb),if_neg (not_not_intro (bare hE hb)),if_pos];refine⟨(kinds hE).2 hk,by rw [oI.st,hd];rfl,?_,?_⟩
   ·rw [hE.acc];have:gQ x.i=0∨gQ x.i=1:=by unfold gQ;omega
    rcases this with q | q<;>rw [q]
    ·exact⟨by decide,by rw [show ag 0=0 from rfl,h.dv.1];decide,by rw [show ag 0=0 from rfl,h.dv.1];decide⟩
    ·exact⟨by decide,by rw [show ag 1=1 from rfl,h.dv.2];decide,by rw [show ag 1=1 from rfl,h.dv.2];decide⟩
   ·rw [hE.acc,Up];unfold gQ;omega
  ·refine⟨by show 0≤e.da∧e.da<2;rw [Up];omega,by show 0≤e.dd∧e.dd<2;rw [hE.dd];omega,?_,?_,rfl,fun j q hq=>by simp at hq,rfl,fun _=>rfl,fun p hp=>by simp at hp,fun _=>rfl,fun k hk=>by simp at hk⟩
   ·show fH e.da e.dd=x.i;rw [Up,hE.dd];unfold fH;omega
   ·show e.acc=1 - e.da;rw [hE.acc,Up];unfold gQ;omega
 | ring c hb hk hd hh hc ha=>
  obtain⟨X,hX,qI,oI⟩:=h.dev x.i hb.i;obtain⟨Y,hY,PY,jt⟩:=h.DT _ c hc;have hi:=hb.i;have hup:p.c=bP p.c x.e.c (some c):=by
   funext k;unfold bP;split
   ·next q=>rw [q,hc]
   ·rfl
  rw [hup];refine Bt h hi hE hX qI hY PY (d':=X.d.js e 2) (c':=Y.c) ?_ (js hE oI (.inr rfl)) jt;rw [dt,if_neg (late h hE hb),if_neg (not_not_intro (bare hE hb)),if_neg (fun q=>by have:=(kinds hE (k:=1)).1 q;omega),if_pos (show e.kind=2 from(kinds hE).2 hk),if_neg];have h1:=jt.a;have h2:=jt.d;have h3:=jt.gO;have h4:=ha.1;have h5:=hE.da;unfold fH at h3;unfold acc at h4;rintro (((q | q) | q) | q)
  ·exact q (by rw [oI.st,hd];rfl)
  ·rw [hE.ki]at q;have:=(oI.had _).1 q;rw [hh]at this;cases this
  ·rw [jt.acc]at q;omega
  ·rw [hE.acc]at q;unfold gQ at q;omega
 | takes c hb hk hd he hc ht hj=>
  obtain⟨X,hX,qI,oI⟩:=h.dev x.i hb.i;obtain⟨Y,hY,PY,jt⟩:=h.DT _ c hc;refine Bt h hb.i hE hX qI hY PY (d':=X.d.ft e) (c':=Y.c.takes e) ?_ (ft hE oI (by omega)) ?_
  ·rw [dt,if_neg (late h hE hb),if_neg (not_not_intro (bare hE hb)),if_neg (fun q=>by have:=(kinds hE (k:=1)).1 q;omega),if_neg (fun q=>by have:=(kinds hE (k:=2)).1 q;omega),if_neg (zv hE oI (by omega) he),if_pos (show e.kind=3 from(kinds hE).2 hk),if_pos];refine⟨⟨by rw [oI.st,hd];rfl,by rw [jt.K3 ht];decide⟩,?_⟩;obtain⟨j,hj1,W8⟩:=List.mem_iff_getElem.1 hj;obtain⟨k1,k2,k3⟩:=jt.j j x.e.peer (by rw [←W8];exact ag6 hj1);have:=K4 k1 k2 hE.pa hE.pd (k3.trans hE.peer.symm);exact⟨j,by rw [jt.n];omega,this.1,this.2⟩
  ·exact⟨jt.a,jt.d,jt.gO,jt.acc,jt.n,jt.j,jt.decl,fun q=>by simp at q,fun q hq=>by simp at hq;subst hq;exact⟨rfl,hE.pa,hE.pd,hE.peer⟩,jt.EZ,jt.E0⟩
 | iI c hb hk hd he hc hj=>
  obtain⟨X,hX,qI,oI⟩:=h.dev x.i hb.i;obtain⟨Y,hY,PY,jt⟩:=h.DT _ c hc;have hi:=hb.i;refine Bt h hi hE hX qI hY PY (d':=X.d.ft e) (c':=Y.c.iI e) ?_ (ft hE oI (by omega)) ?_
  ·rw [dt,if_neg (late h hE hb),if_neg (not_not_intro (bare hE hb)),if_neg (fun q=>by have:=(kinds hE (k:=1)).1 q;omega),if_neg (fun q=>by have:=(kinds hE (k:=2)).1 q;omega),if_neg (zv hE oI (by omega) he),if_pos (show e.kind=3 from(kinds hE).2 hk),if_neg (fun q=>by have:=q.1.1;rw [oI.st,hd]at this;exact absurd this (by decide)),if_pos];have:=K4 hE.pa hE.pd jt.a jt.d (hE.peer.trans (hj.trans jt.gO.symm));exact⟨by rw [oI.st,hd];rfl,this.1,this.2⟩
  ·refine⟨jt.a,jt.d,jt.gO,jt.acc,?_,fun j q hq=>?_,jt.decl,jt.K3,jt.Hd,jt.EZ,jt.E0⟩
   ·show Y.c.n+1=_;rw [jt.n];simp
   ·have DU:(c.dj++[x.i])[j]? =some q:=hq;have hn:ag Y.c.n=c.dj.length:=by rw [jt.n];omega
    simp only [So.Cl.iI,hn];by_cases Az:j<c.dj.length
    ·rw [agC Az]at DU;rw [lf Az,lf Az];exact jt.j j q DU
    ·have abx:j=c.dj.length:=by
      have:=(agx.1 DU).1;simp at this;omega
     subst abx;simp at DU;subst DU;rw [lg,lg,hE.da,hE.dd];unfold fH;omega
 | acts c hb hk hd he hc hp ht Rr=>
  obtain⟨X,hX,qI,oI⟩:=h.dev x.i hb.i;obtain⟨Y,hY,PY,jt⟩:=h.DT _ c hc;have hi:=hb.i;obtain⟨p1,p2,p3⟩:=oI.peer hd;have hpp:=K4 p1 p2 hE.pa hE.pd (p3.trans (hp.trans hE.peer.symm));obtain⟨t1,t2,t3,t4⟩:=jt.Hd _ ht;have lG:X.d.st=3:=by rw [oI.st,hd];rfl
  have Gd: ¬(Y.c.known=true∧¬∀j,j<32→Y.c.print j=e.key j):=by
   rintro ⟨q1,q2⟩;cases LW:c.print with
   | none=>rw [jt.EZ LW]at q1;cases q1
   | some k=>
    obtain⟨_,k2⟩:=jt.E0 k LW;exact q2 (sx (by rw [k2,Rr k LW,hE.key]))
  refine Bt h hi hE hX qI hY PY (d':=X.d.active e) (c':=Y.c.active e) ?_ (Ec.acts hE oI (by omega)) ?_
  ·rw [dt,if_neg (late h hE hb),if_neg (not_not_intro (bare hE hb)),if_neg (fun q=>by have:=(kinds hE (k:=1)).1 q;omega),if_neg (fun q=>by have:=(kinds hE (k:=2)).1 q;omega),if_neg (zv hE oI (by omega) he),if_neg (fun q=>by have:=(kinds hE (k:=3)).1 q;omega),if_pos (show e.kind=4 from(kinds hE).2 hk),if_pos];have ho:=oI.out (by omega);unfold So.pj;split
   ·next q=>
    rw [if_pos (ho.1 q)]at t4;have:=K4 t2 t3 hE.pa hE.pd (t4.trans hE.peer.symm);rintro ((((r | r) | r) | r) | r)
    ·exact r lG
    ·exact r hpp
    ·exact r t1
    ·exact r this
    ·exact Gd r
   ·next q=>
    rw [if_neg (fun r=>q (ho.2 r))]at t4;have h5:=hE.da;have h6:=hE.dd;have h7:Y.c.aa=e.da∧Y.c.ad=e.dd:=by
     unfold fH at t4;omega
    rintro ((((r | r) | r) | r) | r)
    ·exact r lG
    ·exact r hpp
    ·exact r t1
    ·exact r h7
    ·exact Gd r
  ·exact⟨jt.a,jt.d,jt.gO,jt.acc,jt.n,jt.j,jt.decl,jt.K3,jt.Hd,fun q=>by simp at q,fun k hk=>by simp at hk;subst hk;exact⟨rfl,hE.key⟩⟩
 | ends c hb hk he hc ho=>
  obtain⟨X,hX,qI,oI⟩:=h.dev x.i hb.i;obtain⟨Y,hY,PY,jt⟩:=h.DT _ c hc;have hi:=hb.i;have h0:(p.d x.i).st≠0:=by cases ho<;>omega
  have hou:=oI.out h0;have pg:c.pg x.i→Y.c.elsewhere e:=by
   rintro ⟨q,q1,q2⟩;obtain⟨t1,t2,t3,t4⟩:=jt.Hd _ q1;refine⟨t1,fun r=>q2 ?_⟩;rw [←t4,r.1,r.2,hE.da,hE.dd];unfold fH;omega
  refine Bt h hi hE hX qI hY PY (d':=X.d.ends e) (c':=Y.c.ends e X.d) ?_ (Ec.ends hE oI h0) ?_
  ·rw [dt,if_neg (late h hE hb),if_neg (not_not_intro (bare hE hb)),if_neg (fun q=>by have:=(kinds hE (k:=1)).1 q;omega),if_neg (fun q=>by have:=(kinds hE (k:=2)).1 q;omega),if_neg (zv hE oI h0 he),if_neg (fun q=>by have:=(kinds hE (k:=3)).1 q;omega),if_neg (fun q=>by have:=(kinds hE (k:=4)).1 q;omega),if_pos (show e.kind=5 from(kinds hE).2 hk),if_pos];have hoc:=hE.oc;have lG:=oI.st;unfold So.nk;cases ho with
   | sQ q ho=>
    rw [if_pos (by omega)];rcases ho with r | r | r | ⟨r,r2⟩
    ·exact .inl (.inl (.inl (by omega)))
    ·exact .inl (.inl (.inr (by omega)))
    ·exact .inl (.inr (by omega))
    ·exact .inr ⟨by omega,by rw [jt.decl];exact r2⟩
   | ring q ho=>
    rw [if_neg (by omega),if_pos (by omega)];rcases ho with r | r | ⟨r,r2⟩
    ·exact .inl (.inl (by omega))
    ·exact .inl (.inr (by omega))
    ·exact .inr ⟨by omega,pg r2⟩
   | conn q ho=>
    rw [if_neg (by omega),if_neg (by omega),if_pos (by omega)];rcases ho with r | r | ⟨r,r2,r3⟩
    ·exact .inl (.inl (by omega))
    ·exact .inl (.inr (by omega))
    ·exact .inr ⟨⟨by omega,pg r2⟩,fun s=>by have:=hou.1 s;rw [r3]at this;cases this⟩
   | act q ho=>
    rw [if_neg (by omega),if_neg (by omega),if_neg (by omega),if_pos (by omega)];omega
  ·refine⟨jt.a,jt.d,jt.gO,jt.acc,jt.n,jt.j,?_,jt.K3,jt.Hd,jt.EZ,jt.E0⟩;show(Y.c.lQ||((e.oc==4)&&(!(!(X.d.out==0)))))=(c.decl||(x.e.oc==4&& !(p.d x.i).out));rw [jt.decl,hE.oc];have h1:((x.e.oc:Int)==4)=(x.e.oc==4):=by rw [Bool.eq_iff_iff];simp;omega
   have h2:(!(X.d.out==0))=(p.d x.i).out:=by rw [Bool.eq_iff_iff,←hou];simp
   rw [h1,h2]
end Go.RX.Ec
