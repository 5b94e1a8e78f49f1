/- Sealed texts. -/
import Derived.Test.YtmgbbbmdbpbeeaaGreatM32
open Go.IntKind renaming wrap → ae
open Go.Proofs.Tryz renaming prog → ae0
open Int renaming natCast_add → afy, toNat → ag
open List renaming getD_cons_zero → ah
open List.cons renaming injEq → ae8
open Nat renaming mod_lt → afI
namespace Go.RX.Fk
open Go Go.RX Go.Proofs Go.Ae Go.RX.Sh Go.RX.Fe Go.RX.Fg Go.RX.Fi Go.RX.Fj Go.Gh
theorem Kq{S:Nat→Nat}{c:Nat→Bool}{i:Nat}(_:128≤i)(h2:i<256)(hc: ∀j,j<256→decide (S j%2=1)=c j)(hi:S i%2=1)(j:Nat)(hj:j<256):
  decide ((if j=i - 121 then S (i - 121)+1 else if j=i - 126 then S (i - 126)+1 else if j=i - 127 then S (i - 127)+1 else if j=i - 128 then S (i - 128)+1 else S j)%2=1)=vm i c j:=by
 unfold vm;have hci:c i=true:=by rw [←hc i h2];simp [hi]
 rw [hci,Bool.true_and];have one: ∀s:Nat,decide ((s+1)%2=1)=(decide (s%2=1) ^^ true):=fun s=>IF s true
 split
 ·rename_i e;have h:(decide (j=i - 128)||decide (j=i - 127)||decide (j=i - 126)||decide (j=i - 121))=true:=by rw [decide_eq_true e];simp only [Bool.or_true]
  rw [h,←e,one,hc _ hj]
 split
 ·rename_i e;have h:(decide (j=i - 128)||decide (j=i - 127)||decide (j=i - 126)||decide (j=i - 121))=true:=by rw [decide_eq_true e];simp only [Bool.or_true,Bool.true_or]
  rw [h,←e,one,hc _ hj]
 split
 ·rename_i e;have h:(decide (j=i - 128)||decide (j=i - 127)||decide (j=i - 126)||decide (j=i - 121))=true:=by rw [decide_eq_true e];simp only [Bool.or_true,Bool.true_or]
  rw [h,←e,one,hc _ hj]
 split
 ·rename_i e;have h:(decide (j=i - 128)||decide (j=i - 127)||decide (j=i - 126)||decide (j=i - 121))=true:=by rw [decide_eq_true e];simp only [Bool.true_or]
  rw [h,←e,one,hc _ hj]
 ·rename_i e1 e2 e3 e4;rw [hc j hj];simp [e1,e2,e3,e4]
theorem Q3(A:Nat→Int)(a b:Nat)(UD:a≠b):(aq A a (A a+1)) b=A b:=by
 unfold aq;rw [if_neg (Ne.symm UD)]
theorem Q4(A:Nat→Int)(a b c:Nat)(_:a≠b)(hac:a≠c)(hbc:b≠c):(aq (aq A a (A a+1)) b ((aq A a (A a+1)) b+1)) c=A c:=by
 unfold aq;rw [if_neg (Ne.symm hbc),if_neg (Ne.symm hac)]
theorem Q5(A:Nat→Int)(a b c d:Nat)(pW:a≠d)(YW:b≠d)(hcd:c≠d):(aq (aq (aq A a (A a+1)) b ((aq A a (A a+1)) b+1)) c ((aq (aq A a (A a+1)) b ((aq A a (A a+1)) b+1)) c+1)) d=A d:=by
 unfold aq;rw [if_neg (Ne.symm hcd),if_neg (Ne.symm YW),if_neg (Ne.symm pW)]
theorem Q6{t:Nat}(ht:t<128)(s:Nat):ae .u8 (ae .u8 (2*(t:Int))+ae .u8 (ak .rem .i64 (s:Int) 2))=((2*t+b1 (decide (s%2=1)):Nat):Int):=by
 have h1:ak .rem .i64 (s:Int) 2=((s%2:Nat):Int):=rfl;have h2:(2*(t:Int))=((2*t:Nat):Int):=by omega
 rw [h1,h2,wrap_u8,wrap_u8,←afy,wrap_u8];have h3:b1 (decide (s%2=1))=s%2:=by
  unfold b1;have:=afI s (show 0<2 by decide);by_cases h:s%2=1
  ·simp [h]
  ·have:s%2=0:=by omega
   simp [this]
 rw [h3];have:=afI s (show 0<2 by decide);congr 1;omega
set_option maxHeartbeats 1000000 in
theorem dZ(v0 v1:V1)(A B:Nat→Nat)(hA: ∀j,A j<256)(hB: ∀j,B j<256):aw ae0 144 [v0.v,v1.v] [aj false v0 16 A,aj false v1 16 B] fun r hs=> ∃o:V1,r=o.v∧hs=[aj true o 16 (bp (gm (pb A) (pb B)))]:=by
 refine aw.post (p:=fun r hs=> ∃o:V1,r=o.v∧hs[3]? =some (aj true o 16 (bp (gm (pb A) (pb B))))) ?_ ?_;rotate_left
 ·rintro r hs ⟨o,rfl,h⟩;exact⟨_,bX.lY 3 h,o,rfl,rfl⟩
 refine Ja _ (fun j=>(A j:Nat)) (fun j=>(B j:Nat)) v0 v1 ?_;unfold zO;intro v2;refine⟨fun e=> ∃i:Nat,i≤128∧e.i=[(i:Int)]∧∃S:Nat→Nat,(∀j,j<256→(e.a.getD 0 fun _=>0) j=(S j:Nat))∧(∀j,S j≤128*i)∧∀j,j<256→decide (S j%2=1)=pc (pb A) (pb B) i 0 j,
  fun e=>((128:Int) - e.i.getD 0 0).toNat,⟨0,_,rfl,fun _ _=>rfl,0,by omega,rfl,fun _=>0,fun _ _=>rfl,fun _=>Nat.zero_le _,fun _ _=>rfl⟩,?_⟩
 rintro x0 A2 ⟨i,hi,hx,S,hS,Zu,Zv⟩;simp only [ae8,and_true]at hx;subst hx;simp only [ah]at hS;refine⟨fun bU=>?_,fun iH=>?_⟩
 ·refine⟨_,AG (B:=[aj false v0 16 A]) v0.one A hA i (by omega) (au.get 0 rfl),?_⟩;rintro x hs ⟨rfl,rfl⟩;refine⟨_,rfl,rfl,?_,?_⟩
  ·intro h0;have hp:pb A i=false:=by
    cases hb:pb A i with
    | false=>rfl
    | true=>rw [hb]at h0;exact absurd h0 (by decide)
   refine⟨by omega,fun _=>⟨by omega,fun _=>⟨_,_,rfl,fun _ _=>rfl,⟨i+1,by omega,rfl,S,?_,fun j=>Nat.le_trans (Zu j) (by omega),fun j hj=>?_⟩,?_⟩⟩⟩
   ·simp only [ah];exact hS
   ·rw [Zv j hj,Q0 _ hp]
   ·simp only [ah];omega
  ·intro h0;have hp:pb A i=true:=by
    cases hb:pb A i with
    | true=>rfl
    | false=>rw [hb]at h0;exact absurd rfl h0
   refine⟨fun e=> ∃k:Nat,k≤128∧e.i=[(k:Int)]∧∃S:Nat→Nat,(∀j,j<256→(e.a.getD 0 fun _=>0) j=(S j:Nat))∧(∀j,S j≤128*i+k)∧∀j,j<256→decide (S j%2=1)=pc (pb A) (pb B) i k j,
    fun e=>((128:Int) - e.i.getD 0 0).toNat,⟨0,_,rfl,fun _ _=>rfl,0,by omega,rfl,S,?_,fun j=>Zu j,Zv⟩,?_⟩
   ·simp only [ah];exact hS
   rintro x2 A3 ⟨k,hk,hx,S1,Ed,zu,EH⟩;simp only [ae8,and_true]at hx;subst hx;simp only [ah]at Ed;refine⟨fun TH=>?_,fun Q7=>?_⟩
   ·have tk:ag ((i:Int)+(k:Int))=i+k:=by omega
    rw [tk];have yZ:=zu (i+k);have e0:=Ed (i+k) (by omega)
    iterate 4 refine⟨by omega,fun _=>?_⟩
    refine⟨_,AG (B:=[aj false v1 16 B]) v1.one B hB k (by omega) (au.get 0 rfl),?_⟩;rintro x hs ⟨rfl,rfl⟩;have wm:b1 (pb B k)≤1:=by unfold b1;split<;>omega
    refine⟨_,rfl,rfl,by omega,fun _=>⟨by omega,fun _=>⟨by omega,fun _=>⟨by omega,fun _=>⟨_,_,rfl,fun _ _=>rfl,⟨k+1,by omega,rfl,fun j=>if j=i+k then S1 (i+k)+b1 (pb B k)else S1 j,?_,?_,?_⟩,?_⟩⟩⟩⟩⟩
    ·intro j hj;simp only [ah];unfold aq;split
     ·rw [e0];omega
     ·exact Ed j hj
    ·intro j;dsimp only;have:=zu j;split<;>omega
    ·intro j hj;rw [Q1,hp,Bool.true_and];dsimp only;split
     ·rename_i e;rw [IF,EH _ (by omega),←e,decide_eq_true rfl,Bool.and_true]
     ·rename_i e;rw [EH j hj,decide_eq_false (fun h=>e h.symm),Bool.and_false,Bool.xor_false]
    ·simp only [ah];omega
   ·have Wz:k=128:=by omega
    subst Wz;refine⟨by omega,fun _=>⟨by omega,fun _=>⟨_,_,rfl,fun _ _=>rfl,⟨i+1,by omega,rfl,S1,?_,fun j=>Nat.le_trans (zu j) (by omega),fun j hj=>?_⟩,?_⟩⟩⟩
    ·simp only [ah];exact Ed
    ·rw [EH j hj,IE]
    ·simp only [ah];omega
 have WA:i=128:=by omega
 subst WA;refine⟨fun e=> ∃n:Nat,n≤128∧e.i=[((255 - n:Nat):Int)]∧∃S:Nat→Nat,(∀j,j<256→(e.a.getD 0 fun _=>0) j=(S j:Nat))∧(∀j,S j≤16384+n)∧∀j,j<256→decide (S j%2=1)=fold (conv (pb A) (pb B)) n j,
  fun e=>(e.i.getD 0 0:Int).toNat,⟨255,_,rfl,fun _ _=>rfl,0,by omega,rfl,S,?_,fun j=>Zu j,fun j hj=>?_⟩,?_⟩
 ·simp only [ah];exact hS
 ·rw [Zv j hj,TW];rfl
 rintro x1 A3 ⟨n,hn,hx,S1,Ed,zu,EH⟩;simp only [ae8,and_true]at hx;subst hx;simp only [ah]at Ed;refine⟨fun iH=>?_,fun bU=>?_⟩
 ·have t0:ag ((255 - n:Nat):Int)=255 - n:=by omega
  have t1:ag (((255 - n:Nat):Int) - 128)=255 - n - 128:=by omega
  have t2:ag (((255 - n:Nat):Int) - 127)=255 - n - 127:=by omega
  have t3:ag (((255 - n:Nat):Int) - 126)=255 - n - 126:=by omega
  have t4:ag (((255 - n:Nat):Int) - 121)=255 - n - 121:=by omega
  rw [t0,t1,t2,t3,t4];obtain⟨m,hm⟩: ∃m,m=255 - n:=⟨_,rfl⟩;rw [←hm];have XG:128≤m:=by omega
  have Tg:m<256:=by omega
  have e0:=Ed m Tg;have c1:=zu (m - 128);have c2:=zu (m - 127);have c3:=zu (m - 126);have c4:=zu (m - 121);have d1:=Ed (m - 128) (by omega);have d2:=Ed (m - 127) (by omega);have d3:=Ed (m - 126) (by omega);have d4:=Ed (m - 121) (by omega);have yg:ak .rem .i64 (A3 m) 2=((S1 m%2:Nat):Int):=by rw [e0];rfl
  rw [yg,Q5 A3 (m - 128) (m - 127) (m - 126) (m - 121) (by omega) (by omega) (by omega),Q4 A3 (m - 128) (m - 127) (m - 126) (by omega) (by omega) (by omega),Q3 A3 (m - 128) (m - 127) (by omega)];refine⟨by omega,fun _=>⟨by omega,fun _=>⟨fun adp=>?_,fun aaV=>?_⟩⟩⟩
  ·iterate 26 refine⟨by omega,fun _=>?_⟩
   refine⟨_,_,rfl,fun _ _=>rfl,⟨n+1,by omega,congrArg (fun z:Int=>[z]) (by omega),fun j=>if j=m - 121 then S1 (m - 121)+1 else if j=m - 126 then S1 (m - 126)+1 else if j=m - 127 then S1 (m - 127)+1 else if j=m - 128 then S1 (m - 128)+1 else S1 j,?_,?_,?_⟩,?_⟩
   ·intro j hj;simp only [ah];have ej:=Ed j hj;unfold aq;split
    ·rw [d4];omega
    split
    ·rw [d3];omega
    split
    ·rw [d2];omega
    split
    ·rw [d1];omega
    ·exact ej
   ·intro j;dsimp only;have:=zu j;split
    ·omega
    split
    ·omega
    split
    ·omega
    split
    ·omega
    ·omega
   ·intro j hj;have:=Kq (S:=S1) XG Tg EH (by omega) j hj;rw [fold,←hm];exact this
   ·simp only [ah];omega
  ·refine⟨by omega,fun _=>⟨by omega,fun _=>⟨_,_,rfl,fun _ _=>rfl,⟨n+1,by omega,congrArg (fun z:Int=>[z]) (by omega),S1,?_,fun j=>Nat.le_trans (zu j) (by omega),fun j hj=>?_⟩,?_⟩⟩⟩
   ·simp only [ah];exact Ed
   ·rw [EH j hj,fold,←hm];unfold vm;have:fold (conv (pb A) (pb B)) n m=false:=by
     rw [←EH m Tg];exact decide_eq_false (by omega)
    rw [this,Bool.false_and,Bool.xor_false]
   ·simp only [ah];omega
 have WB:n=128:=by omega
 subst WB;have hgm: ∀j,j<128→decide (S1 j%2=1)=gm (pb A) (pb B) j:=fun j hj=>by rw [EH j (by omega),QV _ _ j hj]
 generalize gm (pb A) (pb B)=G at hgm;intro v3;refine⟨fun e=> ∃i:Nat,i≤16∧e.i=[(i:Int)]∧∀j,j<16→(e.a.getD 0 fun _=>0) j=((if j<i then bp G j else 0:Nat):Int),
  fun e=>((16:Int) - e.i.getD 0 0).toNat,⟨0,_,rfl,fun _ _=>rfl,0,by omega,rfl,fun j _=>?_⟩,?_⟩
 ·simp only [ah];rw [if_neg (by omega)];rfl
 rintro x2 A4 ⟨i,hi,hx,FH⟩;simp only [ae8,and_true]at hx;subst hx;simp only [ah]at FH;refine⟨fun bU=>?_,fun iH=>?_⟩
 ·refine⟨fun e=> ∃k:Nat,k≤8∧e.i=[(k:Int)]∧∀j,j<16→(e.a.getD 0 fun _=>0) j=((if j<i then bp G j else if j=i then Kp G (8*i) k else 0:Nat):Int),
   fun e=>((8:Int) - e.i.getD 0 0).toNat,⟨0,_,rfl,fun _ _=>rfl,0,by omega,rfl,fun j hj=>?_⟩,?_⟩
  ·simp only [ah];rw [FH j hj];by_cases c:j<i
   ·rw [if_pos c,if_pos c]
   ·rw [if_neg c,if_neg c];split<;>rfl
  rintro x3 A5 ⟨k,hk,hx,Iu⟩;simp only [ae8,and_true]at hx;subst hx;simp only [ah]at Iu;refine⟨fun TH=>?_,fun Q7=>?_⟩
  ·have ti:ag (i:Int)=i:=rfl;have tk:ag (8*(i:Int)+(k:Int))=8*i+k:=by omega
   rw [ti,tk]
   iterate 10 refine⟨by omega,fun _=>?_⟩
   refine⟨_,_,rfl,fun _ _=>rfl,⟨k+1,by omega,rfl,fun j hj=>?_⟩,?_⟩
   ·simp only [ah];unfold aq;split
    ·rename_i e;subst e;rw [Iu j hj,Ed (8*j+k) (by omega),if_neg (by omega),if_pos rfl];have ht:=IG G (8*j) k;have:(2:Nat)^k≤2^7:=Nat.pow_le_pow_right (by decide) (by omega);rw [Q6 (by omega),hgm _ (by omega),if_neg (Nat.lt_irrefl j)];rfl
    ·rename_i e;rw [Iu j hj];by_cases c:j<i
     ·rw [if_pos c,if_pos c]
     ·rw [if_neg c,if_neg c,if_neg e]
   ·simp only [ah];omega
  ·have Gv:k=8:=by omega
   subst Gv;refine⟨by omega,fun _=>⟨by omega,fun _=>⟨_,_,rfl,fun _ _=>rfl,⟨i+1,by omega,rfl,fun j hj=>?_⟩,?_⟩⟩⟩
   ·simp only [ah];rw [Iu j hj];by_cases c:j<i
    ·rw [if_pos c,if_pos (by omega)]
    ·rw [if_neg c];by_cases e:j=i
     ·subst e;rw [if_pos rfl,if_pos (by omega),Q2]
     ·rw [if_neg e,if_neg (by omega)]
   ·simp only [ah];omega
 ·have Ey:i=16:=by omega
  subst Ey;refine⟨v3,rfl,?_⟩;show some (aE true 5 1 v3.v 16 (aQ 16 [aO .u8 1 A4]))=_;unfold aj;rw [aW fun j hj=>by rw [FH j hj,if_pos hj]]
theorem EI{X:List HP}{x y:Value}(hx:x.oneCell'=true)(hy:y.oneCell'=true)(A B:Nat→Nat)(hA: ∀j,A j<256)(hB: ∀j,B j<256)(h1:au X (aB x 16 A))(h2:au X (aB y 16 B)):
  aw ae0 144 [x,y] X fun r hs=> ∃o:V1,r=o.v∧hs=X++[aj true o 16 (bp (gm (pb A) (pb B)))]:=
 bJ (dZ ⟨x,hx⟩ ⟨y,hy⟩ A B hA hB) (EG h1 h2)
end Go.RX.Fk

namespace Go.Gc
open Go.Ae Go.Gh
def cA(N:Nat→Nat)(c j:Nat):Nat:=if j<12 then N j else if j=15 then c else 0
theorem f_{N:Nat→Nat}(hN: ∀j,N j<256){c:Nat}(hc:c<256)(j:Nat):cA N c j<256:=by
 unfold cA;split
 ·exact hN j
 split
 ·exact hc
 ·decide
def cg(n:Nat):Nat:=(16 - n%16)%16
theorem sX(n:Nat):cg n<16:=afI _ (by decide)
def Kr(n1 n2 k:Nat):Nat:=if k<8 then n1*8%2^64/2^(56 - 8*k)%256 else n2*8%2^64/2^(56 - 8*(k - 8))%256
theorem Q8(n1 n2 k:Nat):Kr n1 n2 k<256:=by
 unfold Kr;split<;>exact afI _ (by decide)
def y5(n1:Nat)(A:Nat→Nat)(n2:Nat)(T:Nat→Nat)(j:Nat):Nat:=
 if j<n1 then A j
 else if j<n1+cg n1 then 0
 else if j<n1+cg n1+n2 then T (j - (n1+cg n1))
 else if j<n1+cg n1+n2+cg n2 then 0
 else Kr n1 n2 (j - (n1+cg n1+n2+cg n2))
theorem Nq{n1 n2:Nat}{A T:Nat→Nat}(hA: ∀j,A j<256)(hT: ∀j,T j<256)(j:Nat):y5 n1 A n2 T j<256:=by
 unfold y5;split
 ·exact hA _
 split
 ·decide
 split
 ·exact hT _
 split
 ·decide
 ·exact Q8 _ _ _
def BU(n1 n2:Nat):Nat:=n1+cg n1+n2+cg n2+16
def iF(n:Nat)(K N:Nat→Nat)(n1:Nat)(A:Nat→Nat)(n2:Nat)(T:Nat→Nat):Nat→Nat:=
 cS n K (cA N 1) (j5 (enc n K fun _=>0) (y5 n1 A n2 T) (BU n1 n2))
theorem sR{n:Nat}{K B T:Nat→Nat}(hK: ∀j,K j<256)(hB: ∀j,B j<256)(hT: ∀j,T j<256)(j:Nat):cS n K B T j<256:=by
 unfold cS;exact Nat.xor_lt_two_pow (n:=8) (hT j) (rF n K _ hK (yi B hB _) _)
theorem wJ{n:Nat}{K N:Nat→Nat}(hK: ∀j,K j<256)(hN: ∀j,N j<256)(n1:Nat)(A:Nat→Nat)(n2:Nat)(T:Nat→Nat)(j:Nat):iF n K N n1 A n2 T j<256:=
 sR hK (f_ hN (by decide)) (yn _ _ _) j
def de(n:Nat)(K N T:Nat→Nat):Nat→Nat:=cS n K (nx (cA N 1)) T
theorem pL{n:Nat}{K N T:Nat→Nat}(hK: ∀j,K j<256)(hN: ∀j,N j<256)(hT: ∀j,T j<256)(j:Nat):de n K N T j<256:=sR hK (AD _ (f_ hN (by decide))) hT j
def gE(n:Nat)(K N:Nat→Nat)(n1:Nat)(A:Nat→Nat)(n2:Nat)(T:Nat→Nat)(j:Nat):Nat:=
 if j<n2 then de n K N T j else iF n K N n1 A n2 (de n K N T) (j - n2)
theorem Nr{n:Nat}{K N T:Nat→Nat}(hK: ∀j,K j<256)(hN: ∀j,N j<256)(hT: ∀j,T j<256)(n1:Nat)(A:Nat→Nat)(n2 j:Nat):gE n K N n1 A n2 T j<256:=by
 unfold gE;split
 ·exact pL hK hN hT j
 ·exact wJ hK hN _ _ _ _ _
end Go.Gc

namespace Go.RX.Fk
open Go Go.RX Go.Proofs Go.Ae Go.RX.Sh Go.RX.Fe Go.RX.Fg Go.RX.Fi Go.RX.Fj Go.Gh Go.Gc
theorem Ns(j:Nat):bp (fun _=>false) j=0:=by
 unfold bp;rfl
theorem Q9(g:Nat→Bool)(K:Nat→Nat):pb (fun j=>bp g j^^^K j)=add g (pb K):=by
 funext i;rw [TS,Wy];rfl
set_option maxHeartbeats 1000000 in
theorem rH(v0 v1:V1)(H T:Nat→Nat)(hH: ∀j,H j<256)(hT: ∀j,T j<256)(len:Nat)(hl:len≤140737488355328):aw ae0 125 [v0.v,v1.v] [aj false v0 16 H,aj false v1 len T] fun r hs=> ∃o:V1,r=o.v∧hs=[aj true o 16 (j5 H T len)]:=by
 refine aw.post (p:=fun r hs=> ∃o:V1,r=o.v∧hs[2]? =some (aj true o 16 (j5 H T len))) ?_ ?_;rotate_left
 ·rintro r hs ⟨o,rfl,h⟩;exact⟨_,bX.lY 2 h,o,rfl,rfl⟩
 refine Ln _ (len:Int) (fun j=>(H j:Nat)) (fun j=>(T j:Nat)) v0 v1 ?_;unfold CP;intro v2;refine⟨fun e=> ∃r:Nat,16*r<len+16∧e.i=[((16*r:Nat):Int)]∧∀j,j<16→(e.a.getD 0 fun _=>0) j=(bp (gh (pb H) T len r) j:Nat),
  fun e=>((len:Int) - e.i.getD 0 0).toNat,⟨v2,0,_,rfl,rfl,rfl,fun _ _=>rfl,0,by omega,rfl,fun j _=>?_⟩,?_⟩
 ·show(0:Int)=((bp (fun _=>false) j:Nat):Int);rw [Ns];rfl
 rintro v3 x1 A2 ⟨r,hr,hx,vj⟩;simp only [ae8,and_true]at hx;subst hx;simp only [ah]at vj;refine⟨by omega,fun _=>⟨fun bU=>?_,fun iH=>?_⟩⟩
 ·have hK:=Nn T hT len r;refine⟨fun e=> ∃k:Nat,k≤16∧16*r+k≤len∧e.i=[(k:Int)]∧∀j,j<16→(e.a.getD 0 fun _=>0) j=(bp (gh (pb H) T len r) j^^^(if j<k then T (16*r+j)else 0):Nat),
   fun e=>((16:Int) - e.i.getD 0 0).toNat,⟨0,_,rfl,fun _ _=>rfl,0,by omega,by omega,rfl,fun j hj=>?_⟩,?_⟩
  ·simp only [ah];rw [vj j hj,if_neg (by omega),Nat.xor_zero]
  rintro x2 A3 ⟨k,hk,CL,hx,R7⟩;simp only [ae8,and_true]at hx;subst hx;simp only [ah]at R7
  iterate 3 refine⟨by omega,fun _=>?_⟩
  refine⟨fun hc=>?_,fun hc=>?_⟩
  ·have tk:ag (((16*r:Nat):Int)+(k:Int))=16*r+k:=by omega
   have tk2:ag (k:Int)=k:=rfl;rw [tk,tk2]
   iterate 8 refine⟨by omega,fun _=>?_⟩
   refine⟨_,_,rfl,fun _ _=>rfl,⟨k+1,by omega,by omega,rfl,fun j hj=>?_⟩,?_⟩
   ·simp only [ah];unfold aq;split
    ·rename_i e;subst e;rw [R7 j hj,if_neg (by omega),if_pos (by omega),Nat.xor_zero,bP (Nm _ _) (hT _)]
    ·rename_i e;rw [R7 j hj];by_cases c:j<k
     ·rw [if_pos c,if_pos (by omega)]
     ·rw [if_neg c,if_neg (by omega)]
   ·simp only [ah];omega
  ·have eA:aE true 5 1 v3.v 16 (aQ 16 [aO .u8 1 A3])=aj true v3 16 (fun j=>bp (gh (pb H) T len r) j^^^mR T len r j):=by
    unfold aj;rw [aW fun j hj=>by rw [R7 j hj]];refine congrArg _ (aW fun j hj=>?_);congr 2;unfold mR;by_cases c:j<k
    ·rw [if_pos c,if_pos (by omega)]
    ·rw [if_neg c,if_neg (by omega)]
   refine⟨_,EI (X:=[aE true 5 1 v3.v 16 (aQ 16 [aO .u8 1 A3]),aj false v0 16 H]) v3.one v0.one (fun j=>bp (gh (pb H) T len r) j^^^mR T len r j) H (fun j=>aN (Nm _ j) (hK j)) hH (au.get 0 (by rw [eA];rfl)) (au.get 1 rfl),?_⟩;rintro x hs ⟨v4,rfl,rfl⟩;refine⟨v4,fun j=>(bp (gm (pb fun j=>bp (gh (pb H) T len r) j^^^mR T len r j) (pb H)) j:Nat),rfl,rfl,by omega,fun _=>⟨by omega,fun _=>⟨_,_,_,rfl,rfl,rfl,fun _ _=>rfl,⟨r+1,by omega,congrArg (fun z:Int=>[z]) (by omega),fun j hj=>?_⟩,?_⟩⟩⟩
   ·simp only [ah];rw [Q9];rfl
   ·simp only [ah];omega
 ·refine⟨v3,rfl,?_⟩;show some (aE true 5 1 v3.v 16 (aQ 16 [aO .u8 1 A2]))=_;unfold aj j5;rw [aW vj,show(len+15)/16=r by omega]
theorem Gy{B:List HP}{x y:Value}(hx:x.oneCell'=true)(hy:y.oneCell'=true)(H T:Nat→Nat)(hH: ∀j,H j<256)(hT: ∀j,T j<256)(len:Nat)(hl:len≤140737488355328)(h1:au B (aB x 16 H))(h2:au B (aB y len T)):
  aw ae0 125 [x,y] B fun r hs=> ∃o:V1,r=o.v∧hs=B++[aj true o 16 (j5 H T len)]:=bJ (rH ⟨x,hx⟩ ⟨y,hy⟩ H T hH hT len hl) (EG h1 h2)
def zv(n:Nat)(T:Nat→Nat)(j:Nat):Nat:=if j<n then T j else 0
theorem kK(v0:V1)(T:Nat→Nat)(n:Nat)(hl:n+64≤140737488355328):aw ae0 122 [v0.v] [aj false v0 n T] fun r hs=> ∃o:V1,r=o.v∧hs=[aj true o (n+cg n) (zv n T)]:=by
 refine aw.post (p:=fun r hs=> ∃o:V1,r=o.v∧hs[1]? =some (aj true o (n+cg n) (zv n T))) ?_ ?_;rotate_left
 ·rintro r hs ⟨o,rfl,h⟩;exact⟨_,bX.lY 1 h,o,rfl,rfl⟩
 refine Jb _ (n:Int) (fun j=>(T j:Nat)) v0 ?_;unfold zP;have hp:=sX n;intro v1
 iterate 3 refine⟨by omega,fun _=>?_⟩
 intro v2;refine⟨fun e=> ∃k:Nat,k≤cg n∧e.i=[((n+k:Nat):Int)]∧∀j,j<n+k→(e.a.getD 0 fun _=>0) j=(zv n T j:Nat),
  fun e=>(((n+cg n:Nat):Int) - e.i.getD 0 0).toNat,⟨v2,_,_,rfl,rfl,rfl,fun _ _=>rfl,0,by omega,rfl,fun j hj=>?_⟩,?_⟩
 ·simp only [ah];unfold zv;rw [if_pos (by omega)]
 rintro v3 x1 A1 ⟨k,hk,hx,hA⟩;simp only [ae8,and_true]at hx;subst hx;simp only [ah]at hA;have hr:ak .rem .i64 ((n+k:Nat):Int) 16=(((n+k)%16:Nat):Int):=rfl;rw [hr];have tk:ag ((n+k:Nat):Int)=n+k:=rfl;rw [tk];refine⟨by omega,fun _=>⟨fun hc=>?_,fun hc=>?_⟩⟩
 ·intro b0;have IC:k+1≤cg n:=by unfold cg at hk ⊢;omega
  refine⟨by omega,fun _=>?_⟩;intro v4;refine⟨v4,_,_,rfl,rfl,rfl,fun _ _=>rfl,⟨k+1,by omega,congrArg (fun z:Int=>[z]) (by omega),fun j hj=>?_⟩,?_⟩
  ·simp only [ah];unfold aq;split
   ·unfold zv;rw [if_neg (by omega)];rfl
   ·exact hA j (by omega)
  ·simp only [ah];omega
 ·have cX:k=cg n:=by unfold cg at hk ⊢;omega
  subst cX;refine⟨v3,rfl,?_⟩;show some (aE true 5 1 v3.v (n+cg n) (aQ (n+cg n) [aO .u8 1 A1]))=_;unfold aj;rw [aW hA]
theorem Gz{m:Nat}(h:m<2^63):ae .i64 (ak .quo .i64 (m:Int) 256)=((m/256:Nat):Int):=Nh m 256 h
theorem EJ(m:Nat):ae .u8 (ak .rem .i64 (m:Int) 256)=((m%256:Nat):Int):=by
 have h:ak .rem .i64 (m:Int) 256=((m%256:Nat):Int):=rfl;rw [h,wrap_u8];congr 1;omega
def cJ(m j:Nat):Nat:=m/256^(7 - j)%256
theorem wK(m j:Nat):cJ m j<256:=afI _ (by decide)
theorem EK{m:Nat}(hm:m<2^63)(j:Nat)(hj:j<8):
  (aq (aq (aq (aq (aq (aq (aq (aq (fun _=>0) 7 (ae .u8 (ak .rem .i64 (m:Int) 256))) 6 (ae .u8 (ak .rem .i64 (ae .i64 (ak .quo .i64 (m:Int) 256)) 256))) 5 (ae .u8 (ak .rem .i64 (ae .i64 (ak .quo .i64 (ae .i64 (ak .quo .i64 (m:Int) 256)) 256)) 256))) 4 (ae .u8 (ak .rem .i64 (ae .i64 (ak .quo .i64 (ae .i64 (ak .quo .i64 (ae .i64 (ak .quo .i64 (m:Int) 256)) 256)) 256)) 256))) 3 (ae .u8 (ak .rem .i64 (ae .i64 (ak .quo .i64 (ae .i64 (ak .quo .i64 (ae .i64 (ak .quo .i64 (ae .i64 (ak .quo .i64 (m:Int) 256)) 256)) 256)) 256)) 256))) 2 (ae .u8 (ak .rem .i64 (ae .i64 (ak .quo .i64 (ae .i64 (ak .quo .i64 (ae .i64 (ak .quo .i64 (ae .i64 (ak .quo .i64 (ae .i64 (ak .quo .i64 (m:Int) 256)) 256)) 256)) 256)) 256)) 256))) 1 (ae .u8 (ak .rem .i64 (ae .i64 (ak .quo .i64 (ae .i64 (ak .quo .i64 (ae .i64 (ak .quo .i64 (ae .i64 (ak .quo .i64 (ae .i64 (ak .quo .i64 (ae .i64 (ak .quo .i64 (m:Int) 256)) 256)) 256)) 256)) 256)) 256)) 256))) 0 (ae .u8 (ak .rem .i64 (ae .i64 (ak .quo .i64 (ae .i64 (ak .quo .i64 (ae .i64 (ak .quo .i64 (ae .i64 (ak .quo .i64 (ae .i64 (ak .quo .i64 (ae .i64 (ak .quo .i64 (ae .i64 (ak .quo .i64 (m:Int) 256)) 256)) 256)) 256)) 256)) 256)) 256)) 256))) j=(cJ m j:Nat):=by
 have l: ∀{k:Nat},k<2^63→k/256<2^63:=fun h=>Nat.lt_of_le_of_lt (Nat.div_le_self _ _) h
 rw [Gz hm,Gz (l hm),Gz (l (l hm)),Gz (l (l (l hm))),Gz (l (l (l (l hm)))),Gz (l (l (l (l (l hm))))),Gz (l (l (l (l (l (l hm))))))];rw [EJ,EJ,EJ,EJ,EJ,EJ,EJ,EJ];unfold cJ;have d: ∀k:Nat,m/256^k/256=m/256^(k+1):=fun k=>by rw [Nat.div_div_eq_div_mul,←Nat.pow_succ]
 have e1:m/256=m/256^1:=by rw [Nat.pow_one]
 rw [e1,d,d,d,d,d,d]
 match j,hj with
 | 0,_=>rfl
 | 1,_=>rfl
 | 2,_=>rfl
 | 3,_=>rfl
 | 4,_=>rfl
 | 5,_=>rfl
 | 6,_=>rfl
 | 7,_=>simp [aq]
 | j+8,h=>exact absurd h (by omega)
theorem vn(v0:V1)(T:Nat→Nat)(n:Nat)(hl:n≤140737488355328):aw ae0 123 [v0.v] [aj false v0 n T] fun r hs=> ∃o:V1,r=o.v∧hs=[aj true o 8 (cJ (n*8))]:=by
 refine aw.post (p:=fun r hs=> ∃o:V1,r=o.v∧hs[1]? =some (aj true o 8 (cJ (n*8)))) ?_ ?_;rotate_left
 ·rintro r hs ⟨o,rfl,h⟩;exact⟨_,bX.lY 1 h,o,rfl,rfl⟩
 refine Lp _ (n:Int) (fun j=>(T j:Nat)) v0 ?_;unfold CQ;have e:8*(n:Int)=((n*8:Nat):Int):=by omega
 rw [e];intro v1
 iterate 3 refine⟨by omega,fun _=>?_⟩
 refine⟨v1,rfl,?_⟩;refine congrArg some ?_;unfold aj;dsimp only [bo,bi,bn];rw [aW fun j hj=>EK (by omega) j hj]
end Go.RX.Fk

namespace Go.RX.Sh
def Zw:List Nat:=[4794697086780616226,8158064640168781261,13096744586834688815,16840607885511220156,4131703408338449720,6480981068601479193,10538285296894168987,12329834152419229976,15566598209576043074,1334009975649890238,2608012711638119052,6128411473006802146,8268148722764581231,9286055187155687089,11230858885718282805,13951009754708518548,16472876342353939154,17275323862435702243,1135362057144423861,2597628984639134821,3308224258029322869,5365058923640841347,6679025012923562964,8573033837759648693,10970295158949994411,12119686244451234320,12683024718118986047,13788192230050041572,14330467153632333762,15395433587784984357,489312712824947311,1452737877330783856,2861767655752347644,3322285676063803686,5560940570517711597,5996557281743188959,7280758554555802590,8532644243296465576,9350256976987008742,10552545826968843579,11727347734174303076,12113106623233404929,14000437183269869457,14369950271660146224,15101387698204529176,15463397548674623760,17586052441742319658,1182934255886127544,1847814050463011016,2177327727835720531,2830643537854262169,3796741975233480872,4115178125766777443,5681478168544905931,6601373596472566643,7507060721942968483,8399075790359081724,8693463985226723168,9568029438360202098,10144078919501101548,10430055236837252648,11840083180663258601,13761210420658862357,14299343276471374635,14566680578165727644,15097957966210449927,16922976911328602910,17689382322260857208,500013540394364858,748580250866718886,1242879168328830382,1977374033974150939,2944078676154940804,3659926193048069267,4368137639120453308,4836135668995329356,5532061633213252278,6448918945643986474,6902733635092675308,7801388544844847127]
def Zx:List Nat:=[7640891576956012808,13503953896175478587,4354685564936845355,11912009170470909681,5840696475078001361,11170449401992604703,2270897969802886507,6620516959819538809]
def K64(j:Nat):Nat:=Zw.getD j 0
def K0(j:Nat):Nat:=K64 j/2^32
def H0(j:Nat):Nat:=Zx.getD j 0/2^32
theorem WC(j:Nat)(hj:j<64):K0 j<2^32:=by
 have: ∀j,j<64→K0 j<2^32:=by decide+kernel
 exact this j hj
theorem WD(j:Nat)(hj:j<8):H0 j<2^32:=by
 have: ∀j,j<8→H0 j<2^32:=by decide+kernel
 exact this j hj
def bytesOf(C:Nat→Nat)(j:Nat):Nat:=C (j/4)/2^(24 - 8*(j%4))%256
theorem Nt(C:Nat→Nat)(j:Nat):bytesOf C j<256:=afI _ (by decide)
theorem bT(w s:Nat)(hs:s≤32):ae .u8 (ak .shr .u32 (w:Int) (s:Int))=((w/2^s%256:Nat):Int):=by
 rw [gg .u32 w s hs,wrap_u8,Nat.shiftRight_eq_div_pow]
end Go.RX.Sh
