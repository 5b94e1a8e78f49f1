/- AES. -/
import Derived.Test.YtmgbbbmdbpbeeaaGreatM30
open Go.IntKind renaming wrap → ae
open Go.Proofs.Tryz renaming prog → ae0
open Int renaming natCast_add → afy, toNat → ag, toNat_natCast → afe
open List renaming getD_cons_zero → ah
open List.cons renaming injEq → ae8
open Nat renaming mod_eq_of_lt → afp, mod_lt → afI, xor_comm → ae7
namespace Go.RX.Fj
open Go Go.RX Go.Proofs Go.Ae Go.RX.Sh Go.RX.Fe Go.RX.Fg Go.RX.Fi
def bs(y k:Nat):Nat:=y/2^k%2+y/2^((k+4)%8)%2+y/2^((k+5)%8)%2+y/2^((k+6)%8)%2+y/2^((k+7)%8)%2+99/2^k%2
def pt(y:Nat):Nat→Nat
 | 0=>0
 | k+1=>pt y k+(if bs y k%2=1 then 2^k else 0)
theorem Ng(y:Nat): ∀k,pt y k<2^k
 | 0=>by show 0<1;decide
 | k+1=>by
  have:=Ng y k;rw [pt,Nat.pow_succ];split<;>omega
theorem Wm: ∀j:Fin 256,pt (inv j.val) 8=sb j.val:=by decide+kernel
theorem Zn:pt 0 8=sb 0:=by decide+kernel
def d_(md:Bool)(v:V1):HP:=aj md v 256 sb
theorem ni:aw ae0 98 [] [] fun x hs=> ∃o:V1,x=o.v∧hs=[d_ true o]:=by
 refine Su _ ?_;unfold wQ;intro v0;refine⟨fun e=> ∃i:Nat,i≤255∧e.i=[(i:Int),(up i:Nat),(down i:Nat)]∧∀k,k<i→(e.a.getD 0 fun _=>0) (up k)=(down k:Nat),fun e=>((255:Int) - e.i.getD 0 0).toNat,⟨0,1,1,_,rfl,rfl,rfl,fun _ _=>rfl,0,by omega,by decide+kernel,fun k hk=>absurd hk (by omega)⟩,?_⟩;rintro x0 x1 x2 A0 ⟨i,hi,hx,hA⟩;simp only [ae8,and_true]at hx;obtain⟨rfl,rfl,rfl⟩:=hx;simp only [ah]at hA;have hr:=Es ⟨i,by omega⟩;simp only at hr;refine⟨fun bU=>?_,fun iH=>?_⟩
 ·have uE:=Ik ⟨i,by omega⟩;simp only at uE;refine⟨by omega,fun _=>⟨by omega,fun _=>?_⟩⟩;refine⟨_,dZ (up i) 3 hr.2.1 (by decide),?_⟩;rintro x hs ⟨rfl,rfl⟩;refine⟨_,rfl,rfl,?_⟩;refine⟨_,dZ (down i) 246 hr.2.2.2 (by decide),?_⟩;rintro x hs ⟨rfl,rfl⟩;refine⟨_,rfl,rfl,?_⟩;refine⟨by omega,fun _=>⟨by omega,fun _=>?_⟩⟩;refine⟨(i:Int)+1,_,_,_,rfl,rfl,rfl,fun _ _=>rfl,⟨i+1,by omega,by rw [uE.2.1,uE.2.2];rfl,fun k hk=>?_⟩,?_⟩
  ·simp only [ah];rw [afe];unfold aq;by_cases c:k=i
   ·rw [c,if_pos rfl]
   ·have h1:=(yf ⟨k,by omega⟩).1;have h2:=(yf ⟨i,by omega⟩).1;simp only at h1 h2;rw [if_neg (fun h=>c (by rw [←h1,←h2,h]))];exact hA k (by omega)
  ·simp only [ah];omega
 have Wn:i=255:=by omega
 subst Wn;have hinv: ∀j,j<256→j≠0→A0 j=(inv j:Nat):=by
  intro j hj h0;have h:=BK ⟨j,hj⟩;simp only at h;obtain⟨h1,_,_,h4⟩:=h;have h5:up (lg j)=j:=by rcases h4 with h4 | h4;exact absurd h4 h0;exact h4
  have h6:=(yf ⟨lg j,h1⟩).2;simp only at h6;have h7:=hA (lg j) h1;rw [h5]at h7 h6;rw [h7,h6]
 intro v1;refine⟨fun e=> ∃i:Nat,i≤256∧e.i=[(i:Int)]∧∀j,j<256→(e.a.getD 0 fun _=>0) j=((if j<i then sb j else 0:Nat):Int),fun e=>((256:Int) - e.i.getD 0 0).toNat,⟨0,_,rfl,fun _ _=>rfl,0,by omega,rfl,fun j _=>by rw [if_neg (by omega)];rfl⟩,?_⟩;rintro x3 A1 ⟨i,hi,hx,qP⟩;simp only [ae8,and_true]at hx;subst hx;simp only [ah]at qP;refine⟨fun bU=>⟨by omega,fun _=>⟨fun h0=>?_,fun h0=>?_⟩⟩,fun iH=>?_⟩
 ·have La:i=0:=by omega
  have hy:0<256:=by decide

  refine⟨fun e=> ∃k:Nat,k≤8∧e.i=[(k:Int)]∧∀j,j<256→(e.a.getD 0 fun _=>0) j=((if j<i then sb j else if j=i then pt 0 k else 0:Nat):Int),fun e=>((8:Int) - e.i.getD 0 0).toNat,⟨0,A1,rfl,fun _ _=>rfl,0,by omega,rfl,fun j hj=>?_⟩,?_⟩
  ·simp only [ah];rw [qP j hj];by_cases c:j<i
   ·rw [if_pos c,if_pos c]
   ·rw [if_neg c,if_neg c];split<;>rfl
  rintro x4 A2 ⟨k,hk,hx,vj⟩;simp only [ae8,and_true]at hx;subst hx;simp only [ah]at vj;have r4:ak .rem .i64 ((k:Int)+4) 8=(((k+4)%8:Nat):Int):=rfl;have r5:ak .rem .i64 ((k:Int)+5) 8=(((k+5)%8:Nat):Int):=rfl;have r6:ak .rem .i64 ((k:Int)+6) 8=(((k+6)%8:Nat):Int):=rfl;have r7:ak .rem .i64 ((k:Int)+7) 8=(((k+7)%8:Nat):Int):=rfl;refine⟨fun bU=>?_,fun iH=>?_⟩
  ·have Gv:k<8:=by omega
   have b0:0/2^k%2<2:=afI _ (by decide);have b4:0/2^((k+4)%8)%2<2:=afI _ (by decide);have b5:0/2^((k+5)%8)%2<2:=afI _ (by decide);have b6:0/2^((k+6)%8)%2<2:=afI _ (by decide);have b7:0/2^((k+7)%8)%2<2:=afI _ (by decide);have b9:99/2^k%2<2:=afI _ (by decide);have hpt:=Ng 0 k;have Zo:2^(k+1)≤2^8:=Nat.pow_le_pow_right (by decide) (by omega);rw [r4,r5,r6,r7];refine⟨_,dL 0 k hy Gv,?_⟩;rintro x hs ⟨rfl,rfl⟩;refine⟨_,rfl,rfl,by omega,fun _=>⟨by omega,fun _=>?_⟩⟩;refine⟨_,dL 0 ((k+4)%8) hy (afI _ (by decide)),?_⟩;rintro x hs ⟨rfl,rfl⟩;refine⟨_,rfl,rfl,by omega,fun _=>⟨by omega,fun _=>⟨by omega,fun _=>⟨by omega,fun _=>?_⟩⟩⟩⟩;refine⟨_,dL 0 ((k+5)%8) hy (afI _ (by decide)),?_⟩;rintro x hs ⟨rfl,rfl⟩;refine⟨_,rfl,rfl,by omega,fun _=>⟨by omega,fun _=>⟨by omega,fun _=>⟨by omega,fun _=>?_⟩⟩⟩⟩;refine⟨_,dL 0 ((k+6)%8) hy (afI _ (by decide)),?_⟩;rintro x hs ⟨rfl,rfl⟩;refine⟨_,rfl,rfl,by omega,fun _=>⟨by omega,fun _=>⟨by omega,fun _=>⟨by omega,fun _=>?_⟩⟩⟩⟩;refine⟨_,dL 0 ((k+7)%8) hy (afI _ (by decide)),?_⟩;rintro x hs ⟨rfl,rfl⟩;refine⟨_,rfl,rfl,by omega,fun _=>⟨by omega,fun _=>?_⟩⟩;refine⟨_,dL 99 k (by decide) Gv,?_⟩;rintro x hs ⟨rfl,rfl⟩;refine⟨_,rfl,rfl,by omega,fun _=>⟨by omega,fun _=>?_⟩⟩;have UP:ak .rem .i64 (((((((0/2^k%2:Nat):Int)+((0/2^((k+4)%8)%2:Nat):Int))+((0/2^((k+5)%8)%2:Nat):Int))+((0/2^((k+6)%8)%2:Nat):Int))+((0/2^((k+7)%8)%2:Nat):Int))+((99/2^k%2:Nat):Int)) 2=((bs 0 k%2:Nat):Int):=rfl;rw [UP];refine⟨fun h1=>?_,fun h1=>?_⟩
   ·refine⟨by omega,fun _=>⟨by omega,fun _=>?_⟩⟩;refine⟨_,jO k Gv,?_⟩;rintro x hs ⟨rfl,rfl⟩;refine⟨_,rfl,rfl,by omega,fun _=>⟨by omega,fun _=>?_⟩⟩;refine⟨(k:Int)+1,_,rfl,fun _ _=>rfl,⟨k+1,by omega,rfl,fun j hj=>?_⟩,?_⟩
    ·simp only [ah];have ti:ag (i:Int)=i:=rfl
     try rw [ti]
     unfold aq;by_cases c:j=i
     ·subst c;rw [if_pos rfl,vj j hj,if_neg (Nat.lt_irrefl _),if_pos rfl,if_neg (Nat.lt_irrefl _),if_pos rfl,pt,if_pos (by omega),←afy,wrap_u8,afp];rw [Nat.pow_succ]at Zo;omega
     ·rw [if_neg c,vj j hj];by_cases c2:j<i
      ·rw [if_pos c2,if_pos c2]
      ·rw [if_neg c2,if_neg c2,if_neg c,if_neg c]
    ·simp only [ah];omega
   ·refine⟨by omega,fun _=>⟨by omega,fun _=>?_⟩⟩;refine⟨(k:Int)+1,_,rfl,fun _ _=>rfl,⟨k+1,by omega,rfl,fun j hj=>?_⟩,?_⟩
    ·simp only [ah];rw [vj j hj,pt,if_neg (show¬bs 0 k%2=1 by omega),Nat.add_zero]
    ·simp only [ah];omega
  ·have Gv:k=8:=by omega
   subst Gv;refine⟨by omega,fun _=>⟨by omega,fun _=>?_⟩⟩;refine⟨(i:Int)+1,_,rfl,fun _ _=>rfl,⟨i+1,by omega,rfl,fun j hj=>?_⟩,?_⟩
   ·simp only [ah];rw [vj j hj];by_cases c:j<i
    ·rw [if_pos c,if_pos (by omega)]
    ·rw [if_neg c];by_cases c2:j=i
     ·rw [if_pos c2,if_pos (by omega),c2];exact congrArg _ (by rw [La];exact Zn)
     ·rw [if_neg c2,if_neg (by omega)]
   ·simp only [ah];omega
 ·have ti:ag (i:Int)=i:=rfl;rw [ti,hinv i (by omega) (by omega)];have hy:inv i<256:=(BK ⟨i,by omega⟩).2.1

  refine⟨fun e=> ∃k:Nat,k≤8∧e.i=[(k:Int)]∧∀j,j<256→(e.a.getD 0 fun _=>0) j=((if j<i then sb j else if j=i then pt (inv i) k else 0:Nat):Int),fun e=>((8:Int) - e.i.getD 0 0).toNat,⟨0,A1,rfl,fun _ _=>rfl,0,by omega,rfl,fun j hj=>?_⟩,?_⟩
  ·simp only [ah];rw [qP j hj];by_cases c:j<i
   ·rw [if_pos c,if_pos c]
   ·rw [if_neg c,if_neg c];split<;>rfl
  rintro x4 A2 ⟨k,hk,hx,vj⟩;simp only [ae8,and_true]at hx;subst hx;simp only [ah]at vj;have r4:ak .rem .i64 ((k:Int)+4) 8=(((k+4)%8:Nat):Int):=rfl;have r5:ak .rem .i64 ((k:Int)+5) 8=(((k+5)%8:Nat):Int):=rfl;have r6:ak .rem .i64 ((k:Int)+6) 8=(((k+6)%8:Nat):Int):=rfl;have r7:ak .rem .i64 ((k:Int)+7) 8=(((k+7)%8:Nat):Int):=rfl;refine⟨fun bU=>?_,fun iH=>?_⟩
  ·have Gv:k<8:=by omega
   have b0:(inv i)/2^k%2<2:=afI _ (by decide);have b4:(inv i)/2^((k+4)%8)%2<2:=afI _ (by decide);have b5:(inv i)/2^((k+5)%8)%2<2:=afI _ (by decide);have b6:(inv i)/2^((k+6)%8)%2<2:=afI _ (by decide);have b7:(inv i)/2^((k+7)%8)%2<2:=afI _ (by decide);have b9:99/2^k%2<2:=afI _ (by decide);have hpt:=Ng (inv i) k;have Zo:2^(k+1)≤2^8:=Nat.pow_le_pow_right (by decide) (by omega);rw [r4,r5,r6,r7];refine⟨_,dL (inv i) k hy Gv,?_⟩;rintro x hs ⟨rfl,rfl⟩;refine⟨_,rfl,rfl,by omega,fun _=>⟨by omega,fun _=>?_⟩⟩;refine⟨_,dL (inv i) ((k+4)%8) hy (afI _ (by decide)),?_⟩;rintro x hs ⟨rfl,rfl⟩;refine⟨_,rfl,rfl,by omega,fun _=>⟨by omega,fun _=>⟨by omega,fun _=>⟨by omega,fun _=>?_⟩⟩⟩⟩;refine⟨_,dL (inv i) ((k+5)%8) hy (afI _ (by decide)),?_⟩;rintro x hs ⟨rfl,rfl⟩;refine⟨_,rfl,rfl,by omega,fun _=>⟨by omega,fun _=>⟨by omega,fun _=>⟨by omega,fun _=>?_⟩⟩⟩⟩;refine⟨_,dL (inv i) ((k+6)%8) hy (afI _ (by decide)),?_⟩;rintro x hs ⟨rfl,rfl⟩;refine⟨_,rfl,rfl,by omega,fun _=>⟨by omega,fun _=>⟨by omega,fun _=>⟨by omega,fun _=>?_⟩⟩⟩⟩;refine⟨_,dL (inv i) ((k+7)%8) hy (afI _ (by decide)),?_⟩;rintro x hs ⟨rfl,rfl⟩;refine⟨_,rfl,rfl,by omega,fun _=>⟨by omega,fun _=>?_⟩⟩;refine⟨_,dL 99 k (by decide) Gv,?_⟩;rintro x hs ⟨rfl,rfl⟩;refine⟨_,rfl,rfl,by omega,fun _=>⟨by omega,fun _=>?_⟩⟩;have UP:ak .rem .i64 ((((((((inv i)/2^k%2:Nat):Int)+(((inv i)/2^((k+4)%8)%2:Nat):Int))+(((inv i)/2^((k+5)%8)%2:Nat):Int))+(((inv i)/2^((k+6)%8)%2:Nat):Int))+(((inv i)/2^((k+7)%8)%2:Nat):Int))+((99/2^k%2:Nat):Int)) 2=((bs (inv i) k%2:Nat):Int):=rfl;rw [UP];refine⟨fun h1=>?_,fun h1=>?_⟩
   ·refine⟨by omega,fun _=>⟨by omega,fun _=>?_⟩⟩;refine⟨_,jO k Gv,?_⟩;rintro x hs ⟨rfl,rfl⟩;refine⟨_,rfl,rfl,by omega,fun _=>⟨by omega,fun _=>?_⟩⟩;refine⟨(k:Int)+1,_,rfl,fun _ _=>rfl,⟨k+1,by omega,rfl,fun j hj=>?_⟩,?_⟩
    ·simp only [ah];have ti:ag (i:Int)=i:=rfl
     try rw [ti]
     unfold aq;by_cases c:j=i
     ·subst c;rw [if_pos rfl,vj j hj,if_neg (Nat.lt_irrefl _),if_pos rfl,if_neg (Nat.lt_irrefl _),if_pos rfl,pt,if_pos (by omega),←afy,wrap_u8,afp];rw [Nat.pow_succ]at Zo;omega
     ·rw [if_neg c,vj j hj];by_cases c2:j<i
      ·rw [if_pos c2,if_pos c2]
      ·rw [if_neg c2,if_neg c2,if_neg c,if_neg c]
    ·simp only [ah];omega
   ·refine⟨by omega,fun _=>⟨by omega,fun _=>?_⟩⟩;refine⟨(k:Int)+1,_,rfl,fun _ _=>rfl,⟨k+1,by omega,rfl,fun j hj=>?_⟩,?_⟩
    ·simp only [ah];rw [vj j hj,pt,if_neg (show¬bs (inv i) k%2=1 by omega),Nat.add_zero]
    ·simp only [ah];omega
  ·have Gv:k=8:=by omega
   subst Gv;refine⟨by omega,fun _=>⟨by omega,fun _=>?_⟩⟩;refine⟨(i:Int)+1,_,rfl,fun _ _=>rfl,⟨i+1,by omega,rfl,fun j hj=>?_⟩,?_⟩
   ·simp only [ah];rw [vj j hj];by_cases c:j<i
    ·rw [if_pos c,if_pos (by omega)]
    ·rw [if_neg c];by_cases c2:j=i
     ·rw [if_pos c2,if_pos (by omega),c2];exact congrArg _ (Wm ⟨i,by omega⟩)
     ·rw [if_neg c2,if_neg (by omega)]
   ·simp only [ah];omega
 ·refine⟨v1,rfl,?_⟩;unfold d_ aj;have:i=256:=by omega
  subst this;have e:aQ 256 [aO .u8 1 A1]=aQ 256 [aO .u8 1 fun j=>((sb j:Nat):Int)]:=aW fun j hj=>by rw [qP j hj,if_pos hj]
  dsimp only [bo,bi,bn];rw [e]
open Go Go.RX Go.Proofs Go.Ae Go.RX.Sh Go.RX.Fe Go.RX.Fg Go.RX.Fi
def wf(n:Nat)(K:Nat→Nat)(j:Nat):Nat:=W n K (j/4) (j%4)
def dy(md:Bool)(v:V1)(n:Nat)(K:Nat→Nat):HP:=aj md v (16*(n+7)) (wf n K)
theorem Wo(n:Nat)(K:Nat→Nat)(hK: ∀j,K j<256)(j:Nat):wf n K j<256:=Et n K hK _ _
theorem AE(n:Nat)(K:Nat→Nat)(i k:Nat)(h:k<4):wf n K (4*i+k)=W n K i k:=by
 unfold wf;rw [show(4*i+k)/4=i by omega,show(4*i+k)%4=k by omega]
theorem fv{n:Nat}(K:Nat→Nat){i:Nat}(hn:0<n)(hi:n≤i)(k:Nat):W n K i k=W n K (i - n) k^^^(if i%n=0 then sb (W n K (i - 1) ((k+1)%4))^^^(if k=0 then rc (i/n - 1)else 0)else if n=8∧i%8=4 then sb (W n K (i - 1) k)else W n K (i - 1) k):=by
 rw [W,dif_neg (by omega)]
theorem Ir{n:Nat}(K:Nat→Nat){i:Nat}(hi:i<n)(k:Nat):W n K i k=K (4*i+k):=by
 rw [W,dif_pos (.inl hi)]
theorem EA(A:Nat→Int)(x q:Nat)(hq:q+4≤x)(t0 t1 t2 t3:Int)(F:Int→Int→Int)(j:Nat):
  (aq (aq (aq (aq A x (F t0 (A q))) (x+1) (F t1 ((aq A x (F t0 (A q))) (q+1)))) (x+2) (F t2 ((aq (aq A x (F t0 (A q))) (x+1) (F t1 ((aq A x (F t0 (A q))) (q+1)))) (q+2)))) (x+3)
   (F t3 ((aq (aq (aq A x (F t0 (A q))) (x+1) (F t1 ((aq A x (F t0 (A q))) (q+1)))) (x+2) (F t2 ((aq (aq A x (F t0 (A q))) (x+1) (F t1 ((aq A x (F t0 (A q))) (q+1)))) (q+2)))) (q+3)))) j
  =if j=x+3 then F t3 (A (q+3))else if j=x+2 then F t2 (A (q+2))else if j=x+1 then F t1 (A (q+1))else if j=x then F t0 (A q)else A j:=by
 unfold aq;rw [if_neg (show¬q+1=x by omega),if_neg (show¬q+2=x+1 by omega),if_neg (show¬q+2=x by omega),if_neg (show¬q+3=x+2 by omega),if_neg (show¬q+3=x+1 by omega),if_neg (show¬q+3=x by omega)]
theorem sS{n:Nat}{K:Nat→Nat}{A:Nat→Int}{i:Nat}(hA: ∀j,j<4*i→A j=(wf n K j:Nat)){f0 f1 f2 f3:Int}(h0:f0=(W n K i 0:Nat))(h1:f1=(W n K i 1:Nat))(h2:f2=(W n K i 2:Nat))(h3:f3=(W n K i 3:Nat))(j:Nat)(hj:j<4*i+4):
  (if j=4*i+3 then f3 else if j=4*i+2 then f2 else if j=4*i+1 then f1 else if j=4*i then f0 else A j)=(wf n K j:Nat):=by
 split
 ·rename_i h;rw [h,AE n K i 3 (by decide)];exact h3
 split
 ·rename_i h;rw [h,AE n K i 2 (by decide)];exact h2
 split
 ·rename_i h;rw [h,AE n K i 1 (by decide)];exact h1
 split
 ·rename_i h;rw [h,show 4*i=4*i+0 from rfl,AE n K i 0 (by decide)];exact h0
 ·exact hA j (by omega)
set_option maxHeartbeats 2000000 in
theorem BP(v0 v1:V1)(K:Nat→Nat)(hK: ∀j,K j<256):aw ae0 99 [v0.v,v1.v] [d_ false v0,aj false v1 16 K] fun x hs=> ∃o:V1,x=o.v∧hs=[d_ false v0,aj false v1 16 K,dy true o 4 K]:=by
 refine I9 _ (fun j=>(sb j:Nat)) (fun j=>(K j:Nat)) v0 v1 ?_;unfold zM;intro v2 v3;refine⟨fun e=> ∃i:Nat,4≤i∧i≤44∧e.i=[(i:Int),(rc ((i - 1)/4):Nat),((4*i:Nat):Int)]∧∀j,j<4*i→(e.a.getD 0 fun _=>0) j=(wf 4 K j:Nat),fun e=>((44:Int) - e.i.getD 0 0).toNat,
  ⟨v3,4,1,16,_,rfl,rfl,rfl,rfl,rfl,fun _ _=>rfl,4,by omega,by omega,rfl,fun j hj=>?_⟩,?_⟩
 ·simp only [ah];unfold wf;rw [Ir K (by omega),show 4*(j/4)+j%4=j by omega]
 rintro v4 x0 x1 x2 A2 ⟨i,FG,Is,hx,hA⟩;simp only [ae8,and_true]at hx;obtain⟨rfl,rfl,rfl⟩:=hx;simp only [ah]at hA;have hl:=Et 4 K hK;refine⟨fun bU=>?_,fun iH=>?_⟩
 ·have hW: ∀i' k:Nat,i'<i→k<4→A2 (4*i'+k)=(W 4 K i' k:Nat):=fun i' k h1 h2=>by rw [hA _ (by omega),AE 4 K i' k h2]
  have e: ∀k:Nat,k<4→aA A2 (ag (4*(i:Int) - 4)) k=((W 4 K (i - 1) k:Nat):Int):=fun k hk=>by
   unfold aA;rw [show ag (4*(i:Int) - 4)=4*(i - 1) by omega,hW (i - 1) k (by omega) hk]
  simp only [e 0 (by decide),e 1 (by decide),e 2 (by decide),e 3 (by decide),afe];have l0:=hl (i - 1) 0;have l1:=hl (i - 1) 1;have l2:=hl (i - 1) 2;have l3:=hl (i - 1) 3;have yg:ak .rem .i64 (i:Int) 4=((i%4:Nat):Int):=rfl;rw [yg];intro v5
  repeat (first | (intro _) | (refine⟨by omega,fun _=>?_⟩))
  refine⟨fun h0=>?_,fun h0=>?_⟩
  ·have hr:i%4=0:=by omega
   repeat (first | (intro _) | (refine⟨by omega,fun _=>?_⟩))
   refine⟨_,dZ (rc ((i - 1)/4)) 2 (oC _) (by decide),?_⟩;rintro x hs ⟨rfl,rfl⟩;refine⟨_,rfl,rfl,?_⟩
   repeat (first | (intro _) | (refine⟨by omega,fun _=>?_⟩))
   refine⟨_,(i:Int)+1,_,((4*i+4:Nat):Int),_,rfl,rfl,rfl,rfl,by omega,fun _ _=>rfl,⟨i+1,by omega,by omega,by rw [(BL ⟨_,oC _⟩).1,show(i+1 - 1)/4=(i - 1)/4+1 by omega];rw [show 4*(i+1)=4*i+4 by omega];rfl,fun j hj=>?_⟩,?_⟩
   ·simp only [ah];have q1:ag ((((4*i:Nat):Int)+1))=4*i+1:=by omega
    have q2:ag ((((4*i:Nat):Int)+1)+1)=4*i+2:=by omega
    have q3:ag ((((4*i:Nat):Int)+1)+1+1)=4*i+3:=by omega
    have q4:ag (4*((i:Int) - 4))=4*(i - 4):=by omega
    have q5:ag (4*((i:Int) - 4)+1)=4*(i - 4)+1:=by omega
    have q6:ag (4*((i:Int) - 4)+2)=4*(i - 4)+2:=by omega
    have q7:ag (4*((i:Int) - 4)+3)=4*(i - 4)+3:=by omega
    simp only [q1,q2,q3,q4,q5,q6,q7];rw [EA A2 (4*i) (4*(i - 4)) (by omega) _ _ _ _ (ak .ay .u8)];rw [hW (i - 4) 1 (by omega) (by decide),hW (i - 4) 2 (by omega) (by decide),hW (i - 4) 3 (by omega) (by decide),show 4*(i - 4)=4*(i - 4)+0 from rfl,hW (i - 4) 0 (by omega) (by decide)];refine sS hA ?_ ?_ ?_ ?_ j (by omega)
    ·rw [bP (iu _ (hl (i - 1) 1)) (oC _),bP (aN (iu _ (hl (i - 1) 1)) (oC _)) (hl (i - 4) 0),fv K (i:=i) (by decide) (by omega) 0,if_pos hr,if_pos rfl,show i/4 - 1=(i - 1)/4 by omega,ae7]
    ·rw [bP (iu _ (hl (i - 1) 2)) (hl (i - 4) 1),fv K (i:=i) (by decide) (by omega) 1,if_pos hr,if_neg (by decide),Nat.xor_zero,ae7]
    ·rw [bP (iu _ (hl (i - 1) 3)) (hl (i - 4) 2),fv K (i:=i) (by decide) (by omega) 2,if_pos hr,if_neg (by decide),Nat.xor_zero,ae7]
    ·rw [bP (iu _ (hl (i - 1) 0)) (hl (i - 4) 3),fv K (i:=i) (by decide) (by omega) 3,if_pos hr,if_neg (by decide),Nat.xor_zero,ae7]
   ·simp only [ah];omega
  ·have hr: ¬i%4=0:=by omega
   repeat (first | (intro _) | (refine⟨by omega,fun _=>?_⟩))
   refine⟨_,(i:Int)+1,_,((4*i+4:Nat):Int),_,rfl,rfl,rfl,rfl,by omega,fun _ _=>rfl,⟨i+1,by omega,by omega,by rw [show(i+1 - 1)/4=(i - 1)/4 by omega,show 4*(i+1)=4*i+4 by omega];rfl,fun j hj=>?_⟩,?_⟩
   ·simp only [ah];have q1:ag ((((4*i:Nat):Int)+1))=4*i+1:=by omega
    have q2:ag ((((4*i:Nat):Int)+1)+1)=4*i+2:=by omega
    have q3:ag ((((4*i:Nat):Int)+1)+1+1)=4*i+3:=by omega
    have q4:ag (4*((i:Int) - 4))=4*(i - 4):=by omega
    have q5:ag (4*((i:Int) - 4)+1)=4*(i - 4)+1:=by omega
    have q6:ag (4*((i:Int) - 4)+2)=4*(i - 4)+2:=by omega
    have q7:ag (4*((i:Int) - 4)+3)=4*(i - 4)+3:=by omega
    simp only [q1,q2,q3,q4,q5,q6,q7];rw [EA A2 (4*i) (4*(i - 4)) (by omega) _ _ _ _ (ak .ay .u8)];rw [hW (i - 4) 1 (by omega) (by decide),hW (i - 4) 2 (by omega) (by decide),hW (i - 4) 3 (by omega) (by decide),show 4*(i - 4)=4*(i - 4)+0 from rfl,hW (i - 4) 0 (by omega) (by decide)];refine sS hA ?_ ?_ ?_ ?_ j (by omega)
    ·rw [bP (hl (i - 1) 0) (hl (i - 4) 0),fv K (i:=i) (by decide) (by omega) 0,if_neg hr,if_neg (by omega),ae7]
    ·rw [bP (hl (i - 1) 1) (hl (i - 4) 1),fv K (i:=i) (by decide) (by omega) 1,if_neg hr,if_neg (by omega),ae7]
    ·rw [bP (hl (i - 1) 2) (hl (i - 4) 2),fv K (i:=i) (by decide) (by omega) 2,if_neg hr,if_neg (by omega),ae7]
    ·rw [bP (hl (i - 1) 3) (hl (i - 4) 3),fv K (i:=i) (by decide) (by omega) 3,if_neg hr,if_neg (by omega),ae7]
   ·simp only [ah];omega
 ·have:i=44:=by omega
  subst this;refine⟨v4,rfl,?_⟩;have e2:aQ (ag ((4*44:Nat):Int)) [aO .u8 1 A2]=aQ (16*(4+7)) [aO .u8 1 fun j=>((wf 4 K j:Nat):Int)]:=aW fun j hj=>hA j hj
  dsimp only [bo,bi,bn];rw [e2];rfl
set_option maxHeartbeats 2000000 in
theorem BQ(v0 v1:V1)(K:Nat→Nat)(hK: ∀j,K j<256):aw ae0 99 [v0.v,v1.v] [d_ false v0,aj false v1 32 K] fun x hs=> ∃o:V1,x=o.v∧hs=[d_ false v0,aj false v1 32 K,dy true o 8 K]:=by
 refine I_ _ (fun j=>(sb j:Nat)) (fun j=>(K j:Nat)) v0 v1 ?_;unfold zN;intro v2 v3;refine⟨fun e=> ∃i:Nat,8≤i∧i≤60∧e.i=[(i:Int),(rc ((i - 1)/8):Nat),((4*i:Nat):Int)]∧∀j,j<4*i→(e.a.getD 0 fun _=>0) j=(wf 8 K j:Nat),fun e=>((60:Int) - e.i.getD 0 0).toNat,
  ⟨v3,8,1,32,_,rfl,rfl,rfl,rfl,rfl,fun _ _=>rfl,8,by omega,by omega,rfl,fun j hj=>?_⟩,?_⟩
 ·simp only [ah];unfold wf;rw [Ir K (by omega),show 4*(j/4)+j%4=j by omega]
 rintro v4 x0 x1 x2 A2 ⟨i,FG,Is,hx,hA⟩;simp only [ae8,and_true]at hx;obtain⟨rfl,rfl,rfl⟩:=hx;simp only [ah]at hA;have hl:=Et 8 K hK;refine⟨fun bU=>?_,fun iH=>?_⟩
 ·have hW: ∀i' k:Nat,i'<i→k<4→A2 (4*i'+k)=(W 8 K i' k:Nat):=fun i' k h1 h2=>by rw [hA _ (by omega),AE 8 K i' k h2]
  have e: ∀k:Nat,k<4→aA A2 (ag (4*(i:Int) - 4)) k=((W 8 K (i - 1) k:Nat):Int):=fun k hk=>by
   unfold aA;rw [show ag (4*(i:Int) - 4)=4*(i - 1) by omega,hW (i - 1) k (by omega) hk]
  simp only [e 0 (by decide),e 1 (by decide),e 2 (by decide),e 3 (by decide),afe];have l0:=hl (i - 1) 0;have l1:=hl (i - 1) 1;have l2:=hl (i - 1) 2;have l3:=hl (i - 1) 3;have yg:ak .rem .i64 (i:Int) 8=((i%8:Nat):Int):=rfl;rw [yg];have aaR:ak .rem .i64 (i:Int) 8=((i%8:Nat):Int):=rfl;intro v5
  repeat (first | (intro _) | (refine⟨by omega,fun _=>?_⟩))
  refine⟨fun h0=>?_,fun h0=>?_⟩
  ·have hr:i%8=0:=by omega
   repeat (first | (intro _) | (refine⟨by omega,fun _=>?_⟩))
   refine⟨_,dZ (rc ((i - 1)/8)) 2 (oC _) (by decide),?_⟩;rintro x hs ⟨rfl,rfl⟩;refine⟨_,rfl,rfl,?_⟩
   repeat (first | (intro _) | (refine⟨by omega,fun _=>?_⟩))
   refine⟨_,(i:Int)+1,_,((4*i+4:Nat):Int),_,rfl,rfl,rfl,rfl,by omega,fun _ _=>rfl,⟨i+1,by omega,by omega,by rw [(BL ⟨_,oC _⟩).1,show(i+1 - 1)/8=(i - 1)/8+1 by omega];rw [show 4*(i+1)=4*i+4 by omega];rfl,fun j hj=>?_⟩,?_⟩
   ·simp only [ah];have q1:ag ((((4*i:Nat):Int)+1))=4*i+1:=by omega
    have q2:ag ((((4*i:Nat):Int)+1)+1)=4*i+2:=by omega
    have q3:ag ((((4*i:Nat):Int)+1)+1+1)=4*i+3:=by omega
    have q4:ag (4*((i:Int) - 8))=4*(i - 8):=by omega
    have q5:ag (4*((i:Int) - 8)+1)=4*(i - 8)+1:=by omega
    have q6:ag (4*((i:Int) - 8)+2)=4*(i - 8)+2:=by omega
    have q7:ag (4*((i:Int) - 8)+3)=4*(i - 8)+3:=by omega
    simp only [q1,q2,q3,q4,q5,q6,q7];rw [EA A2 (4*i) (4*(i - 8)) (by omega) _ _ _ _ (ak .ay .u8)];rw [hW (i - 8) 1 (by omega) (by decide),hW (i - 8) 2 (by omega) (by decide),hW (i - 8) 3 (by omega) (by decide),show 4*(i - 8)=4*(i - 8)+0 from rfl,hW (i - 8) 0 (by omega) (by decide)];refine sS hA ?_ ?_ ?_ ?_ j (by omega)
    ·rw [bP (iu _ (hl (i - 1) 1)) (oC _),bP (aN (iu _ (hl (i - 1) 1)) (oC _)) (hl (i - 8) 0),fv K (i:=i) (by decide) (by omega) 0,if_pos hr,if_pos rfl,show i/8 - 1=(i - 1)/8 by omega,ae7]
    ·rw [bP (iu _ (hl (i - 1) 2)) (hl (i - 8) 1),fv K (i:=i) (by decide) (by omega) 1,if_pos hr,if_neg (by decide),Nat.xor_zero,ae7]
    ·rw [bP (iu _ (hl (i - 1) 3)) (hl (i - 8) 2),fv K (i:=i) (by decide) (by omega) 2,if_pos hr,if_neg (by decide),Nat.xor_zero,ae7]
    ·rw [bP (iu _ (hl (i - 1) 0)) (hl (i - 8) 3),fv K (i:=i) (by decide) (by omega) 3,if_pos hr,if_neg (by decide),Nat.xor_zero,ae7]
   ·simp only [ah];omega
  ·have hr: ¬i%8=0:=by omega
   refine⟨fun h40=>?_,fun h40=>?_⟩
   ·have h4:i%8=4:=by omega
    repeat (first | (intro _) | (refine⟨by omega,fun _=>?_⟩))
    refine⟨_,(i:Int)+1,_,((4*i+4:Nat):Int),_,rfl,rfl,rfl,rfl,by omega,fun _ _=>rfl,⟨i+1,by omega,by omega,by rw [show(i+1 - 1)/8=(i - 1)/8 by omega,show 4*(i+1)=4*i+4 by omega];rfl,fun j hj=>?_⟩,?_⟩
    ·simp only [ah];have q1:ag ((((4*i:Nat):Int)+1))=4*i+1:=by omega
     have q2:ag ((((4*i:Nat):Int)+1)+1)=4*i+2:=by omega
     have q3:ag ((((4*i:Nat):Int)+1)+1+1)=4*i+3:=by omega
     have q4:ag (4*((i:Int) - 8))=4*(i - 8):=by omega
     have q5:ag (4*((i:Int) - 8)+1)=4*(i - 8)+1:=by omega
     have q6:ag (4*((i:Int) - 8)+2)=4*(i - 8)+2:=by omega
     have q7:ag (4*((i:Int) - 8)+3)=4*(i - 8)+3:=by omega
     simp only [q1,q2,q3,q4,q5,q6,q7];rw [EA A2 (4*i) (4*(i - 8)) (by omega) _ _ _ _ (ak .ay .u8)];rw [hW (i - 8) 1 (by omega) (by decide),hW (i - 8) 2 (by omega) (by decide),hW (i - 8) 3 (by omega) (by decide),show 4*(i - 8)=4*(i - 8)+0 from rfl,hW (i - 8) 0 (by omega) (by decide)];refine sS hA ?_ ?_ ?_ ?_ j (by omega)
     ·rw [bP (iu _ (hl (i - 1) 0)) (hl (i - 8) 0),fv K (i:=i) (by decide) (by omega) 0,if_neg hr,if_pos ⟨rfl,h4⟩,ae7]
     ·rw [bP (iu _ (hl (i - 1) 1)) (hl (i - 8) 1),fv K (i:=i) (by decide) (by omega) 1,if_neg hr,if_pos ⟨rfl,h4⟩,ae7]
     ·rw [bP (iu _ (hl (i - 1) 2)) (hl (i - 8) 2),fv K (i:=i) (by decide) (by omega) 2,if_neg hr,if_pos ⟨rfl,h4⟩,ae7]
     ·rw [bP (iu _ (hl (i - 1) 3)) (hl (i - 8) 3),fv K (i:=i) (by decide) (by omega) 3,if_neg hr,if_pos ⟨rfl,h4⟩,ae7]
    ·simp only [ah];omega
   ·repeat (first | (intro _) | (refine⟨by omega,fun _=>?_⟩))
    refine⟨_,(i:Int)+1,_,((4*i+4:Nat):Int),_,rfl,rfl,rfl,rfl,by omega,fun _ _=>rfl,⟨i+1,by omega,by omega,by rw [show(i+1 - 1)/8=(i - 1)/8 by omega,show 4*(i+1)=4*i+4 by omega];rfl,fun j hj=>?_⟩,?_⟩
    ·simp only [ah];have q1:ag ((((4*i:Nat):Int)+1))=4*i+1:=by omega
     have q2:ag ((((4*i:Nat):Int)+1)+1)=4*i+2:=by omega
     have q3:ag ((((4*i:Nat):Int)+1)+1+1)=4*i+3:=by omega
     have q4:ag (4*((i:Int) - 8))=4*(i - 8):=by omega
     have q5:ag (4*((i:Int) - 8)+1)=4*(i - 8)+1:=by omega
     have q6:ag (4*((i:Int) - 8)+2)=4*(i - 8)+2:=by omega
     have q7:ag (4*((i:Int) - 8)+3)=4*(i - 8)+3:=by omega
     simp only [q1,q2,q3,q4,q5,q6,q7];rw [EA A2 (4*i) (4*(i - 8)) (by omega) _ _ _ _ (ak .ay .u8)];rw [hW (i - 8) 1 (by omega) (by decide),hW (i - 8) 2 (by omega) (by decide),hW (i - 8) 3 (by omega) (by decide),show 4*(i - 8)=4*(i - 8)+0 from rfl,hW (i - 8) 0 (by omega) (by decide)];refine sS hA ?_ ?_ ?_ ?_ j (by omega)
     ·rw [bP (hl (i - 1) 0) (hl (i - 8) 0),fv K (i:=i) (by decide) (by omega) 0,if_neg hr,if_neg (by omega),ae7]
     ·rw [bP (hl (i - 1) 1) (hl (i - 8) 1),fv K (i:=i) (by decide) (by omega) 1,if_neg hr,if_neg (by omega),ae7]
     ·rw [bP (hl (i - 1) 2) (hl (i - 8) 2),fv K (i:=i) (by decide) (by omega) 2,if_neg hr,if_neg (by omega),ae7]
     ·rw [bP (hl (i - 1) 3) (hl (i - 8) 3),fv K (i:=i) (by decide) (by omega) 3,if_neg hr,if_neg (by omega),ae7]
    ·simp only [ah];omega
 ·have:i=60:=by omega
  subst this;refine⟨v4,rfl,?_⟩;have e2:aQ (ag ((4*60:Nat):Int)) [aO .u8 1 A2]=aQ (16*(8+7)) [aO .u8 1 fun j=>((wf 8 K j:Nat):Int)]:=aW fun j hj=>hA j hj
  dsimp only [bo,bi,bn];rw [e2];rfl
open Go Go.RX Go.Proofs Go.Ae Go.RX.Sh Go.RX.Fe Go.RX.Fg Go.RX.Fi
theorem Nh(a b:Nat)(h:a<2^63):ae .i64 (ak .quo .i64 (a:Int) (b:Int))=((a/b:Nat):Int):=by
 have e:ak .quo .i64 (a:Int) (b:Int)=((a/b:Nat):Int):=rfl;have h2:a/b<2^63:=Nat.lt_of_le_of_lt (Nat.div_le_self a b) h;rw [e];generalize a/b=c at h2;simp only [ae,IntKind.signed,IntKind.bits];simp;omega
theorem EB(n:Nat)(K:Nat→Nat)(r i:Nat):wf n K (16*r+i)=W n K (4*r+i/4) (i%4):=by
 unfold wf;rw [show(16*r+i)/4=4*r+i/4 by omega,show(16*r+i)%4=i%4 by omega]
set_option maxHeartbeats 1000000 in
theorem od(v0 v1 v2:V1)(n:Nat)(hn:0<n)(oN:n<100)(K B:Nat→Nat)(hK: ∀j,K j<256)(hB: ∀j,B j<256):
  aw ae0 124 [v0.v,v1.v,v2.v] [d_ false v0,dy false v1 n K,aj false v2 16 B] fun x hs=> ∃o:V1,x=o.v∧hs=[aj true o 16 (enc n K B)]:=by
 refine aw.post (p:=fun x hs=> ∃(o:V1) (h2:HP),x=o.v∧hs=[h2,aj true o 16 (enc n K B)]) ?_ ?_;rotate_left
 ·rintro x hs ⟨o,h2,rfl,rfl⟩;exact⟨_,bX.sub (by repeat (first | exact List.Sublist.slnil | apply List.Sublist.cons_cons | apply List.Sublist.cons)),o,rfl,rfl⟩
 refine OZ _ ((16*(n+7):Nat):Int) (fun j=>(sb j:Nat)) (fun j=>(wf n K j:Nat)) (fun j=>(B j:Nat)) v0 v1 v2 ?_;unfold rV;have hq:ae .i64 (ak .quo .i64 ((16*(n+7):Nat):Int) 16)=((n+7:Nat):Int):=by
  have:=Nh (16*(n+7)) 16 (by omega);rw [show 16*(n+7)/16=n+7 by omega]at this;exact this
 rw [hq];have Zp:=Wo n K hK;have nC:=Il (W n K) (n+6) B (fun i k=>Et n K hK i k) hB
 iterate 3 refine⟨by omega,fun _=>?_⟩
 intro v3;refine⟨fun e=> ∃i:Nat,i≤16∧e.i=[(i:Int)]∧∀j,j<16→(e.a.getD 0 fun _=>0) j=((if j<i then rs (W n K) (n+6) B 0 j else 0:Nat):Int),fun e=>((16:Int) - e.i.getD 0 0).toNat,⟨0,_,rfl,fun _ _=>rfl,0,by omega,rfl,fun j _=>by rw [if_neg (by omega)];rfl⟩,?_⟩;rintro x1 A3 ⟨i,hi,hx,R7⟩;simp only [ae8,and_true]at hx;subst hx;simp only [ah]at R7;refine⟨fun bU=>⟨by omega,fun _=>⟨by omega,fun _=>⟨by omega,fun _=>⟨by omega,fun _=>?_⟩⟩⟩⟩,fun iH=>?_⟩
 ·refine⟨(i:Int)+1,_,rfl,fun _ _=>rfl,⟨i+1,by omega,rfl,fun j hj=>?_⟩,?_⟩
  ·simp only [ah];rw [afe];unfold aq;by_cases c:j=i
   ·subst c;rw [if_pos rfl,if_pos (by omega),bP (hB j) (Zp j)];rfl
   ·rw [if_neg c,R7 j hj];by_cases c2:j<i
    ·rw [if_pos c2,if_pos (by omega)]
    ·rw [if_neg c2,if_neg (by omega)]
  ·simp only [ah];omega
 have Ey:i=16:=by omega
 subst Ey;refine⟨fun e=> ∃r:Nat,1≤r∧r≤n+7∧e.i=[(r:Int)]∧∀j,j<16→(e.a.getD 0 fun _=>0) j=(rs (W n K) (n+6) B (r - 1) j:Nat),fun e=>(((n+7:Nat):Int) - e.i.getD 0 0).toNat,⟨1,_,rfl,fun _ _=>rfl,1,by omega,by omega,rfl,fun j hj=>by simp only [ah];rw [R7 j hj,if_pos hj]⟩,?_⟩;rintro x2 A4 ⟨r,hr1,XX,hx,FH⟩;simp only [ae8,and_true]at hx;subst hx;simp only [ah]at FH;refine⟨fun hle=>?_,fun XA=>?_⟩
 ·intro v4;refine⟨fun e=> ∃i:Nat,i≤16∧e.i=[(i:Int)]∧∀j,j<16→(e.a.getD 0 fun _=>0) j=((if j<i then Gq (rs (W n K) (n+6) B (r - 1)) j else 0:Nat):Int),fun e=>((16:Int) - e.i.getD 0 0).toNat,⟨0,_,rfl,fun _ _=>rfl,0,by omega,rfl,fun j _=>by rw [if_neg (by omega)];rfl⟩,?_⟩;rintro x3 A5 ⟨i,hi,hx,Iu⟩;simp only [ae8,and_true]at hx;subst hx;simp only [ah]at Iu;have m4:ak .rem .i64 (i:Int) 4=((i%4:Nat):Int):=rfl;have m16:ak .rem .i64 ((i:Int)+4*((i%4:Nat):Int)) 16=(((i+4*(i%4))%16:Nat):Int):=rfl;rw [m4,m16,afe,FH _ (afI _ (by decide))];have hs:=nC (r - 1) ((i+4*(i%4))%16);refine⟨fun bU=>?_,fun iH=>?_⟩
  ·repeat (first | (intro _) | (refine⟨by omega,fun _=>?_⟩))
   refine⟨(i:Int)+1,_,rfl,fun _ _=>rfl,⟨i+1,by omega,rfl,fun j hj=>?_⟩,?_⟩
   ·simp only [ah];rw [afe,afe];unfold aq;by_cases c:j=i
    ·subst c;rw [if_pos rfl,if_pos (by omega)];rfl
    ·rw [if_neg c,Iu j hj];by_cases c2:j<i
     ·rw [if_pos c2,if_pos (by omega)]
     ·rw [if_neg c2,if_neg (by omega)]
   ·simp only [ah];omega
  have Ey:i=16:=by omega
  subst Ey;have hT: ∀j,j<16→A5 j=(Gq (rs (W n K) (n+6) B (r - 1)) j:Nat):=fun j hj=>by rw [Iu j hj,if_pos hj]
  have tD: ∀j,Gq (rs (W n K) (n+6) B (r - 1)) j<256:=fun j=>iu _ (nC _ _)
  clear Iu;refine⟨fun e=> ∃i:Nat,i≤16∧e.i=[(i:Int)]∧∀j,j<16→(e.a.getD 0 fun _=>0) j=((if j<i then rs (W n K) (n+6) B r j else rs (W n K) (n+6) B (r - 1) j:Nat):Int),fun e=>((16:Int) - e.i.getD 0 0).toNat,⟨0,_,rfl,fun _ _=>rfl,0,by omega,rfl,fun j hj=>by simp only [ah];rw [if_neg (by omega)];exact FH j hj⟩,?_⟩;rintro x4 A6 ⟨i,hi,hx,TL⟩;simp only [ae8,and_true]at hx;subst hx;simp only [ah]at TL;have q4:ae .i64 (ak .quo .i64 (i:Int) 4)=((i/4:Nat):Int):=Nh i 4 (by omega);have m1:ak .rem .i64 ((i:Int)+1) 4=(((i+1)%4:Nat):Int):=rfl;have m2:ak .rem .i64 ((i:Int)+2) 4=(((i+2)%4:Nat):Int):=rfl;have m3:ak .rem .i64 ((i:Int)+3) 4=(((i+3)%4:Nat):Int):=rfl;have c1:((i/4:Nat):Int)*4+(((i+1)%4:Nat):Int)=((i/4*4+(i+1)%4:Nat):Int):=by omega
  have c2:((i/4:Nat):Int)*4+(((i+2)%4:Nat):Int)=((i/4*4+(i+2)%4:Nat):Int):=by omega
  have c3:((i/4:Nat):Int)*4+(((i+3)%4:Nat):Int)=((i/4*4+(i+3)%4:Nat):Int):=by omega
  rw [q4,m1,m2,m3,c1,c2,c3];simp only [afe];refine⟨fun bU=>?_,fun iH=>?_⟩
  ·have adf:i<16:=by omega
   rw [hT i (by omega),hT (i/4*4+(i+1)%4) (by omega),hT (i/4*4+(i+2)%4) (by omega),hT (i/4*4+(i+3)%4) (by omega)];have t1:ag (16*(r:Int)+(i:Int))=16*r+i:=by omega
   rw [t1]
   repeat (first | (intro _) | (refine⟨by omega,fun _=>?_⟩))
   have hr':r - 1+1=r:=by omega
   have R8:rs (W n K) (n+6) B r i=(if r<n+6 then Kk (Gq (rs (W n K) (n+6) B (r - 1))) i else Gq (rs (W n K) (n+6) B (r - 1)) i)^^^W n K (4*r+i/4) (i%4):=by
    conv=>lhs;rw [←hr',rs]
    rw [hr']
   have fin: ∀val:Int,val=(rs (W n K) (n+6) B r i:Nat)→∀j,j<16→aq A6 i val j=((if j<i+1 then rs (W n K) (n+6) B r j else rs (W n K) (n+6) B (r - 1) j:Nat):Int):=by
    intro val hv j hj;unfold aq;by_cases c:j=i
    ·subst c;rw [if_pos rfl,if_pos (by omega),hv]
    ·rw [if_neg c,TL j hj];by_cases c2:j<i
     ·rw [if_pos c2,if_pos (by omega)]
     ·rw [if_neg c2,if_neg (by omega)]
   refine⟨fun hrr=>?_,fun hrr=>?_⟩
   ·refine⟨_,dZ _ 2 (tD _) (by decide),?_⟩;rintro x hs ⟨rfl,rfl⟩;refine⟨_,rfl,rfl,?_⟩;refine⟨_,dZ _ 3 (tD _) (by decide),?_⟩;rintro x hs ⟨rfl,rfl⟩;refine⟨_,rfl,rfl,?_⟩
    repeat (first | (intro _) | (refine⟨by omega,fun _=>?_⟩))
    refine⟨(i:Int)+1,_,rfl,fun _ _=>rfl,⟨i+1,by omega,rfl,fin _ ?_⟩,?_⟩
    ·have ta:=(BL ⟨_,tD i⟩).1;have tb:=(BL ⟨_,tD (i/4*4+(i+1)%4)⟩).2;simp only at ta tb;have da:=mF ⟨_,tD i⟩;have db:=mF ⟨_,tD (i/4*4+(i+1)%4)⟩;simp only at da db;rw [ta,tb,bP da (aN (tD _) db),bP (aN da (aN (tD _) db)) (tD _),bP (aN (aN da (aN (tD _) db)) (tD _)) (tD _),bP (aN (aN (aN da (aN (tD _) db)) (tD _)) (tD _)) (Zp _),R8,if_pos (by omega),EB];rfl
    ·simp only [ah];omega
   ·repeat (first | (intro _) | (refine⟨by omega,fun _=>?_⟩))
    refine⟨(i:Int)+1,_,rfl,fun _ _=>rfl,⟨i+1,by omega,rfl,fin _ ?_⟩,?_⟩
    ·rw [bP (tD _) (Zp _),R8,if_neg (by omega),EB]
    ·simp only [ah];omega
  ·have Ey:i=16:=by omega
   subst Ey
   repeat (first | (intro _) | (refine⟨by omega,fun _=>?_⟩))
   refine⟨(r:Int)+1,_,rfl,fun _ _=>rfl,⟨r+1,by omega,by omega,rfl,fun j hj=>?_⟩,?_⟩
   ·simp only [ah];rw [TL j hj,if_pos hj,Nat.add_sub_cancel]
   ·simp only [ah];omega
 ·have:r=n+7:=by omega
  subst this;refine⟨v3,aj false v2 16 B,rfl,?_⟩;have e2:aQ 16 [aO .u8 1 A4]=aQ 16 [aO .u8 1 fun j=>((enc n K B j:Nat):Int)]:=aW fun j hj=>FH j hj
  dsimp only [bo,bi,bn];rw [e2];rfl
end Go.RX.Fj
