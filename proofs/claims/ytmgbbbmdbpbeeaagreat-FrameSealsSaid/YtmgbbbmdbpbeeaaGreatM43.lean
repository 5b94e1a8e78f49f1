/- Sums and MACs. -/
import Derived.Test.YtmgbbbmdbpbeeaaGreatM42
open Go.IntKind renaming wrap → ae
open Go.Proofs.Tryz renaming prog → ae0
open Int renaming natCast_add → afy, toNat → ag, toNat_natCast → afe
open List renaming append → aeU, getD_cons_zero → ah, getElem?_append_left → ae1, getElem?_append_right → ae2, getElem?_eq_getElem → afA, getElem?_eq_some_iff → aeV, mem_cons → afd, not_mem_nil → ae9
open List.cons renaming injEq → ae8
open Nat renaming lt_of_lt_of_le → ae_, mod_lt → afI
open Option.some renaming injEq → aeX
namespace Go.RX.Fn
open Go Go.RX Go.Proofs Go.RX.Sh Go.RX.Fg Go.RX.Fj Go.RX.Fk
theorem GY(v0:V1)(T:Nat→Nat)(hT: ∀j,T j<256)(n:Nat)(hl:n+300≤140737488355328):aw ae0 128 [.int .u8 1,v0.v] [aj false v0 n T] fun r hs=> ∃o:V1,r=o.v∧hs=[aj true o 32 (eV n T)]:=by
 refine LS _ (n:Int) (fun j=>(T j:Nat)) v0 ?_;unfold Dl;refine⟨_,GX (B:=[aj false v0 n T]) v0.one T hT n hl (au.get 0 rfl),?_⟩;rintro x hs ⟨v1,rfl,rfl⟩;exact⟨v1,fun j=>(eV n T j:Nat),rfl,rfl,v1,rfl,rfl⟩
theorem yv{B:List HP}{x:Value}(hx:x.oneCell'=true)(T:Nat→Nat)(hT: ∀j,T j<256)(n:Nat)(hl:n+300≤140737488355328)(h:au B (aB x n T)):aw ae0 128 [.int .u8 1,x] B fun r hs=> ∃o:V1,r=o.v∧hs=B++[aj true o 32 (eV n T)]:=
 bJ (GY ⟨x,hx⟩ T hT n hl) (pK h)
theorem um(v0:V1)(K:Nat→Nat)(hK: ∀j,K j<256)(kn:Nat)(zl:kn≤64)(w:Nat)(hw:w<256):aw ae0 129 [.int .u8 1,v0.v,.int .u8 (w:Int)] [aj false v0 kn K] fun r hs=> ∃o:V1,r=o.v∧hs=[aj true o 64 (fk kn K w)]:=by
 refine aw.post (p:=fun r hs=> ∃o:V1,r=o.v∧hs[1]? =some (aj true o 64 (fk kn K w))) ?_ ?_;rotate_left
 ·rintro r hs ⟨o,rfl,h⟩;exact⟨_,bX.lY 1 h,o,rfl,rfl⟩
 refine LU _ (kn:Int) (w:Int) (fun j=>(K j:Nat)) v0 ?_;unfold Dm;intro v1
 iterate 3 refine⟨by omega,fun _=>?_⟩
 intro v2;refine⟨fun h=>absurd h (by omega),fun _=>?_⟩;refine⟨fun e=> ∃k:Nat,kn≤k∧k≤64∧e.i=[(k:Int)]∧∀j,j<k→(e.a.getD 0 fun _=>0) j=((if j<kn then K j else 0:Nat):Int),fun e=>((64:Int) - e.i.getD 0 0).toNat,⟨v2,_,_,rfl,rfl,rfl,fun _ _=>rfl,kn,Nat.le_refl _,zl,rfl,fun j hj=>?_⟩,?_⟩
 ·simp only [ah];rw [if_pos hj]
 rintro v3 x2 A1 ⟨k,IC,Bb,hx,hA⟩;simp only [ae8,and_true]at hx;subst hx;simp only [ah]at hA;have tk:ag (k:Int)=k:=rfl;rw [tk];refine⟨by omega,fun _=>⟨fun bU=>?_,fun iH=>?_⟩⟩
 ·intro b0;refine⟨by omega,fun _=>?_⟩;intro v4;refine⟨v4,_,_,rfl,rfl,rfl,fun _ _=>rfl,⟨k+1,by omega,by omega,by rw [afy];rfl,fun j hj=>?_⟩,?_⟩
  ·simp only [ah];unfold aq;split
   ·rw [if_neg (by omega)];rfl
   ·exact hA j (by omega)
  ·simp only [ah];omega
 ·have WL:k=64:=by omega
  subst WL;refine⟨fun e=> ∃i:Nat,i≤64∧e.i=[(i:Int)]∧∀j,j<64→(e.a.getD 0 fun _=>0) j=((if j<i then fk kn K w j else if j<kn then K j else 0:Nat):Int),fun e=>((64:Int) - e.i.getD 0 0).toNat,⟨0,_,rfl,fun _ _=>rfl,0,by omega,rfl,fun j hj=>?_⟩,?_⟩
  ·simp only [ah];rw [if_neg (by omega)];exact hA j hj
  rintro x3 A2 ⟨i,hi,hx,vj⟩;simp only [ae8,and_true]at hx;subst hx;simp only [ah]at vj;refine⟨by omega,fun _=>⟨fun bU=>?_,fun Q7=>?_⟩⟩
  ·have adB:i<64:=by omega
   iterate 3 refine⟨by omega,fun _=>?_⟩
   refine⟨_,_,rfl,fun _ _=>rfl,⟨i+1,by omega,rfl,fun j hj=>?_⟩,?_⟩
   ·simp only [ah];rw [afe];unfold aq;split
    ·rename_i e;subst e;rw [vj j hj,if_neg (Nat.lt_irrefl j),if_pos (Nat.lt_succ_self j)];have hb:(if j<kn then K j else 0)<256:=by
      split
      ·exact hK _
      ·decide
     rw [Fe.bP hb hw];rfl
    ·rename_i e;rw [vj j hj];by_cases c:j<i
     ·rw [if_pos c,if_pos (show j<i+1 by omega)]
     ·rw [if_neg c,if_neg (show¬j<i+1 by omega)]
   ·simp only [ah];omega
  ·have WL:i=64:=by omega
   subst WL;refine⟨v3,rfl,?_⟩;show some (aE true 5 1 v3.v 64 (aQ 64 [aO .u8 1 A2]))=_;unfold aj;rw [aW fun j hj=>by rw [vj j hj,if_pos hj]]
theorem nq{B:List HP}{x:Value}(hx:x.oneCell'=true)(K:Nat→Nat)(hK: ∀j,K j<256)(kn:Nat)(zl:kn≤64)(w:Nat)(hw:w<256)(h:au B (aB x kn K)):aw ae0 129 [.int .u8 1,x,.int .u8 (w:Int)] B fun r hs=> ∃o:V1,r=o.v∧hs=B++[aj true o 64 (fk kn K w)]:=
 bJ (um ⟨x,hx⟩ K hK kn zl w hw) (pK h)
theorem kL(n m:Nat)(A B:Nat→Nat)(j:Nat)(hj:j<n+m):aI (fun j=>((A j:Nat):Int)) n m (fun j=>((B j:Nat):Int)) j=((cl n A B j:Nat):Int):=by
 unfold aI cl;by_cases c:j<n
 ·rw [if_neg (by omega),if_pos c]
 ·rw [if_pos (by omega),if_neg c]
set_option maxHeartbeats 1000000 in
theorem KC(v0 v1:V1)(K T:Nat→Nat)(hK: ∀j,K j<256)(hT: ∀j,T j<256)(kn:Nat)(zl:kn≤64)(n:Nat)(hl:n+500≤140737488355328):aw ae0 104 [.int .u8 1,v0.v,v1.v] [aj false v0 kn K,aj false v1 n T] fun r hs=> ∃o:V1,r=o.v∧hs=[aj true o 32 (vZ kn K n T)]:=by
 refine PA _ (kn:Int) (n:Int) (fun j=>(K j:Nat)) (fun j=>(T j:Nat)) v0 v1 ?_;unfold HH;have IC:=fun j=>sY hK (w:=54) (by decide) kn j
 have Bb:=fun j=>sY hK (w:=92) (by decide) kn j
 refine⟨_,nq (B:=[aj false v0 kn K]) v0.one K hK kn zl 54 (by decide) (au.get 0 rfl),?_⟩;rintro x hs ⟨v2,rfl,rfl⟩;refine⟨v2,fun j=>(fk kn K 54 j:Nat),rfl,rfl,?_⟩
 iterate 3 refine⟨by omega,fun _=>?_⟩
 intro v3;have tn:ag (n:Int)=n:=rfl;have t64:ag (64+(n:Int))=64+n:=by omega
 dsimp only [bo,bi,bn];rw [tn,t64];have e3:aE true 5 1 v3.v (64+n) (aQ (64+n) [aO .u8 1 (aI (fun j=>((fk kn K 54 j:Nat):Int)) 64 n fun j=>((T j:Nat):Int))])=aj true v3 (64+n) (cl 64 (fk kn K 54) T):=
  congrArg (aE true 5 1 v3.v (64+n)) (aW fun j hj=>kL 64 n _ _ j hj)
 rw [e3];refine⟨_,yv (B:=[aj true v3 (64+n) (cl 64 (fk kn K 54) T)]) v3.one _ (gS IC hT 64) (64+n) (by omega) (au.get 0 rfl),?_⟩;rintro x hs ⟨v4,rfl,rfl⟩;refine⟨v4,fun j=>(eV (64+n) (cl 64 (fk kn K 54) T) j:Nat),rfl,rfl,?_⟩;refine⟨_,nq (B:=[aj false v0 kn K]) v0.one K hK kn zl 92 (by decide) (au.get 0 rfl),?_⟩;rintro x hs ⟨v5,rfl,rfl⟩;refine⟨v5,fun j=>(fk kn K 92 j:Nat),rfl,rfl,?_⟩;intro v6;have e6:aE true 5 1 v6.v 96 (aQ 96 [aO .u8 1 (aI (fun j=>((fk kn K 92 j:Nat):Int)) 64 32 fun j=>((eV (64+n) (cl 64 (fk kn K 54) T) j:Nat):Int))])=aj true v6 96 (cl 64 (fk kn K 92) (eV (64+n) (cl 64 (fk kn K 54) T))):=
  congrArg (aE true 5 1 v6.v 96) (aW fun j hj=>kL 64 32 _ _ j hj)
 rw [e6];refine⟨_,yv (B:=[aj true v6 96 (cl 64 (fk kn K 92) (eV (64+n) (cl 64 (fk kn K 54) T)))]) v6.one _ (gS Bb (fun j=>BX _ _ j) 64) 96 (by decide) (au.get 0 rfl),?_⟩;rintro x hs ⟨v7,rfl,rfl⟩;exact⟨v7,fun j=>(vZ kn K n T j:Nat),rfl,rfl,v7,rfl,rfl⟩
theorem KD{B:List HP}{x y:Value}(hx:x.oneCell'=true)(hy:y.oneCell'=true)(K T:Nat→Nat)(hK: ∀j,K j<256)(hT: ∀j,T j<256)(kn:Nat)(zl:kn≤64)(n:Nat)(hl:n+500≤140737488355328)(h1:au B (aB x kn K))(h2:au B (aB y n T)):
  aw ae0 104 [.int .u8 1,x,y] B fun r hs=> ∃o:V1,r=o.v∧hs=B++[aj true o 32 (vZ kn K n T)]:=bJ (KC ⟨x,hx⟩ ⟨y,hy⟩ K T hK hT kn zl n hl) (EG h1 h2)
end Go.RX.Fn

namespace Go.RX
theorem bX.idx{a b:List HP}(idx:List Nat)(gn:idx.Nodup)(h: ∀(j:Nat) x,b[j]? =some x→∃i,idx[j]? =some i∧a[i]? =some x):bX a b:=by
 intro w Fs o;refine o.sI (fun j=>if j<b.length then idx[j]? else some (a.length+(j - b.length))) ?_ ?_
 ·intro j x hx;right;by_cases hj:j<b.length
  ·rw [ae1 hj]at hx;obtain⟨i,h1,h2⟩:=h j x hx;refine⟨i,by simp only [hj,if_true,h1],?_⟩;rw [ae1 (aeV.1 h2).1];exact h2
  ·rw [ae2 (by omega)]at hx;refine⟨_,by simp only [hj,if_false];rfl,?_⟩;rw [ae2 (by omega),Nat.add_sub_cancel_left];exact hx
 ·intro j j' i hj k9 _ _;by_cases h1:j<b.length
  ·have hx:b[j]? =some b[j]:=afA h1;obtain⟨i1,q1,q2⟩:=h j _ hx;have FG:=(aeV.1 q2).1;simp only [h1,if_true,q1,aeX]at hj;subst hj;by_cases h2:j'<b.length
   ·simp only [h2,if_true]at k9;obtain⟨l1,e1⟩:=aeV.1 q1;obtain⟨l2,e2⟩:=aeV.1 k9;exact(List.getElem_inj gn).1 (e1.trans e2.symm)
   ·simp only [h2,if_false,aeX]at k9;omega
  ·simp only [h1,if_false,aeX]at hj;by_cases h2:j'<b.length
   ·have hx:b[j']? =some b[j']:=afA h2;obtain⟨i1,q1,q2⟩:=h j' _ hx;have FG:=(aeV.1 q2).1;simp only [h2,if_true,q1,aeX]at k9;omega
   ·simp only [h2,if_false,aeX]at k9;omega
theorem bX.at3{a:List HP}{i j k:Nat}{x y z:HP}(hi:a[i]? =some x)(hj:a[j]? =some y)(hk:a[k]? =some z)(hn:[i,j,k].Nodup):bX a [x,y,z]:=by
 refine bX.idx [i,j,k] hn fun m u hu=>?_
 match m,hu with
 | 0,hu=>cases hu;exact⟨i,rfl,hi⟩
 | 1,hu=>cases hu;exact⟨j,rfl,hj⟩
 | 2,hu=>cases hu;exact⟨k,rfl,hk⟩
 | m+3,hu=>simp at hu
end Go.RX
namespace Go.RX.Fm
open Go Go.RX Go.Proofs Go.RX.Sh Go.RX.Fg Go.RX.Fj Go.RX.Fk
set_option maxRecDepth 100000 in
theorem s5:aw ae0 138 [] [] (fun r hs=> ∃b:Nat,∃vh vk:V1,∃A B:Nat→Int,r= .pointer (some ⟨b,0,none⟩)∧
  hs=[qR b vh vk,dM vh 8 A,dM vk 64 B]∧(∀j,j<8→A j=((H0 j:Nat):Int))∧∀j,j<64→B j=((K0 j:Nat):Int)):=by
 refine aw.post (p:=fun r hs=> ∃b:Nat,∃vh vk:V1,∃A B:Nat→Int,r= .pointer (some ⟨b,0,none⟩)∧hs[2]? =some (dM vh 8 A)∧hs[12]? =some (dM vk 64 B)∧
  hs[76]? =some (qR b vh vk)∧(∀j,j<8→A j=((H0 j:Nat):Int))∧∀j,j<64→B j=((K0 j:Nat):Int)) ?_ ?_
 rotate_left
 ·rintro r hs ⟨b,vh,vk,A,B,rfl,h1,h2,h3,h4,h5⟩;exact⟨_,bX.at3 h3 h1 h2 (by decide),b,vh,vk,A,B,rfl,rfl,h4,h5⟩
 refine Jj _ ?_;unfold zX
 intros
 exact⟨_,_,_,_,_,rfl,rfl,rfl,rfl,by decide+kernel,by decide+kernel⟩
theorem dF{B:List HP}{x:Value}(b:Nat)(vh vk:V1)(hx:x.oneCell'=true)(A0 A1:Nat→Int)(K H T:Nat→Nat)(tu: ∀j,j<8→A0 j=(H j:Nat))(hH: ∀j,j<8→H j<2^32)
  (qP: ∀j,j<64→A1 j=(K j:Nat)) (hT: ∀j,T j<256) (hb:au B (aB x 64 T)):
  aw ae0 151 [.pointer (some ⟨b,0,none⟩),x] ([qR b vh vk,dM vh 8 A0,dM vk 64 A1]++B)
   fun r hs=> ∃A:Nat→Int,r= .tuple #[]∧hs=[qR b vh vk,dM vh 8 A,dM vk 64 A1]++B∧∀j,j<8→A j=((comp K H T j:Nat):Int):=by
 have hm:aw ae0 151 [.pointer (some ⟨b,0,none⟩),x] ([qR b vh vk,dM vh 8 A0,dM vk 64 A1]++[aB x 64 T]) fun r hs=> ∃A:Nat→Int,r= .tuple #[]∧hs=[qR b vh vk,dM vh 8 A,dM vk 64 A1]∧∀j,j<8→A j=((comp K H T j:Nat):Int):=
  pO b vh vk ⟨x,hx⟩ A0 A1 (fun j=>(T j:Nat)) K H T tu hH qP (fun _ _=>rfl) (fun j _=>hT j)
 refine aw.post (aw.VZ hm ?_ (pK hb)) ?_
 ·rintro v hs ⟨A,_,rfl,_⟩ h hh;simp only [afd,ae9,or_false]at hh;rcases hh with rfl | rfl | rfl<;>rfl
 ·rintro v hs ⟨DS,⟨A,hr,rfl,hA⟩,rfl⟩;exact⟨_,bX.refl _,A,hr,rfl,hA⟩
theorem lE{z:V1}{r:Nat}{B:Nat→Int}{T:Nat→Nat}(h:64≤r)(hB: ∀j,j<r→B j=(T j:Nat)):au [aE true 5 1 z.v r (aQ r [aO .u8 1 B])] (aB (aD 1 z.v 0 64 none) 64 T):=by
 have e:aE true 5 1 z.v r (aQ r [aO .u8 1 B])=aj true z r T:=by
  unfold aj;rw [aW hB]
 rw [e];have:=au.part (lo:=0) (hi:=64) (mx:=none) (au.bytes (v:=z) (n:=r) (T:=T)) (by omega) h (fun _ h=>nomatch h);simpa using this
open Go Go.RX Go.Proofs Go.RX.Sh Go.RX.Fg Go.RX.Fj Go.RX.Fk Go.Hd Go.Gh
theorem ZL(i:Nat)(h:i≤7):2^(56 - 8*i)=256^(7 - i):=by
 have: ∀i,i<8→2^(56 - 8*i)=256^(7 - i):=by decide
 exact this i (by omega)
theorem bX.jG{t:Nat}:bX [] [aE true t 1 (.slice none 0 0) 0 []]:=by
 intro w Fs o;refine bK.add (a:=[]) o _ (fun _=>False) (Nat.le_refl _) (fun _ _=>rfl) ⟨?_,fun k=>by simp [Value.ownBlock]⟩ fun _ h=>h.elim
 simp only [if_true];exact js w t 1
theorem gT(n:Nat)(hn:n<18446744073709551616):aw ae0 54 [.int .u64 (n:Int)] [] fun r hs=> ∃o:V1,r=o.v∧hs=[aj true o (hb n) (be (hb n) n)]:=by
 refine aw.post (p:=fun r hs=>(n<8∧r= .slice none 0 0∧hs=[])∨(¬n<8∧∃o:V1,r=o.v∧hs=[aj true o (dg n) (be (dg n) n)])) ?_ ?_;rotate_left
 ·rintro r hs (⟨h,rfl,rfl⟩ | ⟨h,o,hr,rfl⟩)
  ·refine⟨_,bX.jG (t:=5),⟨.slice none 0 0,rfl⟩,rfl,?_⟩;rw [ey h];rfl
  ·refine⟨_,bX.refl _,o,hr,?_⟩;unfold hb;rw [if_neg h]
 refine Jp _ (n:Int) ?_;unfold Aa;refine⟨fun h=> .inl ⟨by omega,rfl,rfl⟩,fun h8=>?_⟩;refine⟨fun e=> ∃i:Nat,i≤8∧e.i=[(56:Int) - 8*(i:Int),(dg (n/256^(8 - i)):Nat)]∧∀j,j<dg (n/256^(8 - i))→(e.a.getD 0 fun _=>0) j=(be (dg (n/256^(8 - i))) (n/256^(8 - i)) j:Nat),fun e=>(e.i.getD 0 0+8:Int).toNat,⟨_,_,_,_,rfl,rfl,rfl,rfl,fun _ _=>rfl,0,by omega,?_,?_⟩,?_⟩
 ·rw [show n/256^(8 - 0)=0 from Nat.div_eq_of_lt (by exact hn)];rfl
 ·rw [show n/256^(8 - 0)=0 from Nat.div_eq_of_lt (by exact hn)];intro j hj;exact absurd hj (by rw [BY];omega)
 rintro v1 x1 x2 A0 ⟨i,hi,hx,hA⟩;simp only [ae8,and_true]at hx;obtain⟨rfl,rfl⟩:=hx;simp only [ah]at hA;have td:ag ((dg (n/256^(8 - i)):Nat):Int)=dg (n/256^(8 - i)):=rfl;rw [td];refine⟨fun iH=>?_,fun bU=>?_⟩
 ·have hi7:i≤7:=by omega
  have hc:ae .u8 (ak .shr .u64 (n:Int) ((56:Int) - 8*(i:Int)))=((n/256^(7 - i)%256:Nat):Int):=by
   rw [show(56:Int) - 8*(i:Int)=((56 - 8*i:Nat):Int) by omega,gg .u64 n _ (by show 56 - 8*i≤64;omega),wrap_u8,Nat.shiftRight_eq_div_pow,ZL i hi7]
  rw [hc];have hm:n/256^(8 - i)=n/256^(7 - i)/256:=by rw [Nat.div_div_eq_div_mul,←Nat.pow_succ,show(7 - i).succ=8 - i by omega]
  have WX:n/256^(8 - (i+1))=n/256^(7 - i):=by rw [show 8 - (i+1)=7 - i by omega]
  obtain⟨m',UL⟩: ∃m',m'=n/256^(7 - i):=⟨_,rfl⟩;rw [hm]at hA ⊢;rw [←UL]at hA ⊢ WX;have ZM:m'/256<72057594037927936:=by
   have:m'≤n:=by rw [UL];exact Nat.div_le_self _ _
   omega
  have OU:m'=m'/256*256+m'%256:=by omega
  refine⟨by omega,fun _=>⟨fun eZ=>?_,fun heq=>?_⟩⟩
  ·have JU:m'/256*256+m'%256≠0:=by
    intro h0;have h1:m'/256=0:=by omega
    rw [h1,BY]at eZ;omega
   have hs:=Rc (m'/256) (m'%256) (by omega) ZM JU;rw [←OU]at hs;intro b0;have:=IK (m'/256);refine⟨by omega,fun _=>⟨by omega,fun _=>?_⟩⟩;intro v2;refine⟨by omega,fun _=>⟨by omega,fun _=>⟨v2,_,_,_,rfl,rfl,rfl,rfl,fun _ _=>rfl,⟨i+1,by omega,?_,?_⟩,?_⟩⟩⟩
   ·rw [WX,hs];exact congrArg (fun z:Int=>[z,((dg (m'/256)+1:Nat):Int)]) (by omega)
   ·intro j hj;rw [WX,hs]at hj ⊢;simp only [ah];unfold aq;have UP:=IL (dg (m'/256)) (m'/256) (m'%256) j (by omega) hj;rw [←OU]at UP;rw [UP];split
    ·rename_i e;rw [if_neg (by omega)]
    ·rw [if_pos (by omega)];exact hA j (by omega)
   ·simp only [ah];omega
  ·have h1:m'/256=0:=by
    by_cases h:m'/256=0
    ·exact h
    ·have:=GF h;omega
   have h2:m'=0:=by omega
   refine⟨by omega,fun _=>⟨by omega,fun _=>⟨v1,_,_,_,rfl,rfl,rfl,rfl,fun _ _=>rfl,⟨i+1,by omega,?_,?_⟩,?_⟩⟩⟩
   ·rw [WX,h1,h2];exact congrArg (fun z:Int=>[z,((dg 0:Nat):Int)]) (by omega)
   ·intro j hj;rw [WX,h2,BY]at hj;omega
   ·simp only [ah];omega
 ·have hi8:i=8:=by omega
  subst hi8;rw [show n/256^(8 - 8)=n by simp]at hA ⊢;refine .inr ⟨by omega,v1,rfl,?_⟩;unfold aj;dsimp only [bo,bi,bn];rw [afe,aW hA]
theorem GZ: ∀n:Fin 8,ae .u8 (ak .aP .u64 ((n.val:Nat):Int) 7)=((n.val:Nat):Int):=by decide+kernel
theorem KE: ∀k:Fin 8,ak .bR .u8 8 (ae .u8 ((k.val:Nat):Int))=((8+k.val:Nat):Int):=by decide+kernel
theorem NW: ∀a b:Fin 16,ak .bR .u8 (ak .shl .u8 ((a.val:Nat):Int) 4) ((b.val:Nat):Int)=((a.val*16+b.val:Nat):Int):=by decide+kernel
theorem Uh{n:Nat}(h:0<hb n):ak .bR .u8 8 (ae .u8 (((hb n:Nat):Int) - 1))=((hU n:Nat):Int):=by
 have h8: ¬n<8:=fun h8=>by rw [ey h8]at h;omega
 have hl:=vo n;rw [show((hb n:Nat):Int) - 1=((hb n - 1:Nat):Int) by omega,KE ⟨hb n - 1,by omega⟩];have he:hb n=dg n:=by unfold hb;rw [if_neg h8]
 rw [he]at h;show((8+(hb n - 1):Nat):Int)=_;unfold hU;rw [if_neg h8,he];congr 1;omega
theorem Ui{n:Nat}(h:hb n=0)(hn:n<18446744073709551616):ae .u8 (ak .aP .u64 (n:Int) 7)=((hU n:Nat):Int):=by
 have h8:n<8:=by
  by_cases h8:n<8
  ·exact h8
  ·unfold hb at h;rw [if_neg h8]at h;have:=GF (n:=n) (by omega);omega
 rw [GZ ⟨n,h8⟩];unfold hU;rw [if_pos h8]
theorem ZN: ∀a:Fin 16,ak .bR .u8 0 ((a.val:Nat):Int)=((a.val:Nat):Int):=by decide+kernel
theorem G0(aU aS:Nat)(j:Nat)(hj:j<1+hb aU+hb aS):
  aI (aq (aI (fun _=>((hU aU:Nat):Int)) 1 (hb aU) fun j=>((be (hb aU) aU j:Nat):Int)) 0 ((hU aU*16+hU aS:Nat):Int)) (1+hb aU) (hb aS) (fun j=>((be (hb aS) aS j:Nat):Int)) j=((dx aU aS j:Nat):Int):=by
 unfold aI aq dx;by_cases h0:j=0
 ·rw [if_neg (by omega)];dsimp only;rw [if_pos h0,if_pos h0]
 by_cases h1:j<1+hb aU
 ·rw [if_neg (by omega)];dsimp only;rw [if_neg h0,if_neg h0,if_pos (by omega),if_pos h1]
 ·rw [if_pos (by omega)];dsimp only;rw [if_neg h0,if_neg h1]
set_option maxHeartbeats 1000000 in
theorem jF(aU aS:Nat)(hk:aU<18446744073709551616)(hc:aS<18446744073709551616):aw ae0 27 [.agg #[.int .u64 (aU:Int),.int .u64 (aS:Int)]] [] fun r hs=> ∃o:V1,r=o.v∧hs=[aj true o (bN aU aS) (dx aU aS)]:=by
 refine aw.post (p:=fun r hs=> ∃o:V1,r=o.v∧hs[1]? =some (aj true o (bN aU aS) (dx aU aS))) ?_ ?_;rotate_left
 ·rintro r hs ⟨o,rfl,h⟩;exact⟨_,bX.lY 1 h,o,rfl,rfl⟩
 refine Pu _ (aU:Int) (aS:Int) ?_;unfold HE;intro b0 b1;have l1:=vo aU;have l2:=vo aS;have n1:=pM aU;have n2:=pM aS;have hz:=ZN ⟨hU aU,n1⟩;have J2:=NW ⟨hU aU,n1⟩ ⟨hU aS,n2⟩;simp only at hz J2;have fin: ∀v3:V1,some (aE true 5 1 v3.v (1+hb aU+hb aS) (aQ (1+hb aU+hb aS) [aO .u8 1 (aI (aq (aI (fun _=>((hU aU:Nat):Int)) 1 (hb aU) fun j=>((be (hb aU) aU j:Nat):Int)) 0 ((hU aU*16+hU aS:Nat):Int)) (1+hb aU) (hb aS) (fun j=>((be (hb aS) aS j:Nat):Int)))]))=some (aj true v3 (bN aU aS) (dx aU aS)):=fun v3=>by
  unfold aj bN;rw [aW fun j hj=>G0 aU aS j hj]
 refine⟨_,gT aU hk,?_⟩;rintro x hs ⟨v0,rfl,rfl⟩;refine⟨v0,(hb aU:Nat),fun j=>(be (hb aU) aU j:Nat),rfl,rfl,by omega,fun _=>⟨fun h1=>?_,fun h1=>?_⟩⟩
 ·have e1:=Uh (n:=aU) (by omega)
  iterate 3 refine⟨by omega,fun _=>?_⟩
  intro v1;refine⟨_,gT aS hc,?_⟩;rintro x hs ⟨v2,rfl,rfl⟩;refine⟨v2,(hb aS:Nat),fun j=>(be (hb aS) aS j:Nat),rfl,rfl,by omega,fun _=>⟨fun h2=>?_,fun h2=>?_⟩⟩
  ·have e2:=Uh (n:=aS) (by omega)
   iterate 5 refine⟨by omega,fun _=>?_⟩
   intro v3;refine⟨v3,rfl,?_⟩;rw [e1,e2,hz,←fin v3];have t:ag ((1:Int)+((hb aU:Nat):Int)+((hb aS:Nat):Int))=1+hb aU+hb aS:=by omega
   have t1:ag ((1:Int)+((hb aU:Nat):Int))=1+hb aU:=by omega
   have sp:aI (fun _=>((hU aU:Nat):Int)) 1 (ag ((hb aU:Nat):Int)) (fun j=>((be (hb aU) aU j:Nat):Int)) 0=((hU aU:Nat):Int):=rfl;show some (aE true 5 1 v3.v (ag ((1:Int)+((hb aU:Nat):Int)+((hb aS:Nat):Int))) _)=_;rw [t,t1,sp,J2];rfl
  ·have e2:=Ui (n:=aS) (by omega) hc
   iterate 3 refine⟨by omega,fun _=>?_⟩
   intro v3;refine⟨v3,rfl,?_⟩;rw [e1,e2,hz,←fin v3];have t:ag ((1:Int)+((hb aU:Nat):Int)+((hb aS:Nat):Int))=1+hb aU+hb aS:=by omega
   have t1:ag ((1:Int)+((hb aU:Nat):Int))=1+hb aU:=by omega
   have sp:aI (fun _=>((hU aU:Nat):Int)) 1 (ag ((hb aU:Nat):Int)) (fun j=>((be (hb aU) aU j:Nat):Int)) 0=((hU aU:Nat):Int):=rfl;show some (aE true 5 1 v3.v (ag ((1:Int)+((hb aU:Nat):Int)+((hb aS:Nat):Int))) _)=_;rw [t,t1,sp,J2];rfl
 ·have e1:=Ui (n:=aU) (by omega) hk;refine⟨by omega,fun _=>?_⟩;intro v1;refine⟨_,gT aS hc,?_⟩;rintro x hs ⟨v2,rfl,rfl⟩;refine⟨v2,(hb aS:Nat),fun j=>(be (hb aS) aS j:Nat),rfl,rfl,by omega,fun _=>⟨fun h2=>?_,fun h2=>?_⟩⟩
  ·have e2:=Uh (n:=aS) (by omega)
   iterate 5 refine⟨by omega,fun _=>?_⟩
   intro v3;refine⟨v3,rfl,?_⟩;rw [e1,e2,hz,←fin v3];have t:ag ((1:Int)+((hb aU:Nat):Int)+((hb aS:Nat):Int))=1+hb aU+hb aS:=by omega
   have t1:ag ((1:Int)+((hb aU:Nat):Int))=1+hb aU:=by omega
   have sp:aI (fun _=>((hU aU:Nat):Int)) 1 (ag ((hb aU:Nat):Int)) (fun j=>((be (hb aU) aU j:Nat):Int)) 0=((hU aU:Nat):Int):=rfl;show some (aE true 5 1 v3.v (ag ((1:Int)+((hb aU:Nat):Int)+((hb aS:Nat):Int))) _)=_;rw [t,t1,sp,J2];rfl
  ·have e2:=Ui (n:=aS) (by omega) hc
   iterate 3 refine⟨by omega,fun _=>?_⟩
   intro v3;refine⟨v3,rfl,?_⟩;rw [e1,e2,hz,←fin v3];have t:ag ((1:Int)+((hb aU:Nat):Int)+((hb aS:Nat):Int))=1+hb aU+hb aS:=by omega
   have t1:ag ((1:Int)+((hb aU:Nat):Int))=1+hb aU:=by omega
   have sp:aI (fun _=>((hU aU:Nat):Int)) 1 (ag ((hb aU:Nat):Int)) (fun j=>((be (hb aU) aU j:Nat):Int)) 0=((hU aU:Nat):Int):=rfl;show some (aE true 5 1 v3.v (ag ((1:Int)+((hb aU:Nat):Int)+((hb aS:Nat):Int))) _)=_;rw [t,t1,sp,J2];rfl
theorem uk{B:List HP}(aU aS:Nat)(hk:aU<18446744073709551616)(hc:aS<18446744073709551616):aw ae0 27 [.agg #[.int .u64 (aU:Int),.int .u64 (aS:Int)]] B fun r hs=> ∃o:V1,r=o.v∧hs=B++[aj true o (bN aU aS) (dx aU aS)]:=
 bJ (jF aU aS hk hc) (by simp)
open Go Go.RX Go.Proofs Go.RX.Sh Go.RX.Fg Go.RX.Fi Go.RX.Fj Go.RX.Fk Go.Hd Go.Gh Go.RX.Fe
theorem Uj: ∀t:Fin 256,ak .aP .u8 ((t.val:Nat):Int) 15=((t.val%16:Nat):Int):=by decide+kernel
theorem ZO: ∀t:Fin 256,ak .shr .u8 ((t.val:Nat):Int) 4=((t.val/16:Nat):Int):=by decide+kernel
theorem NY{a:Nat}(h:8≤a)(h2:a<16):ae .u8 ((a:Int) - 8)=((a - 8:Nat):Int):=by
 rw [show(a:Int) - 8=((a - 8:Nat):Int) by omega,wrap_u8];congr 1;omega
def NZ(n:Nat)(T:Nat→Nat)(r:Value):Prop:=
 (nE n T∧r= .tuple #[.agg #[.int .u64 (bZ T:Nat),.int .u64 (bf T:Nat)],.int .i64 ((1+nk T+nc T:Nat):Int),.int .i64 0])∨
 (¬nE n T∧r= .tuple #[.agg #[.int .u64 0,.int .u64 0],.int .i64 0,.int .i64 9])
set_option maxHeartbeats 4000000 in
theorem rJ(v0:V1)(n:Nat)(T:Nat→Nat)(hT: ∀j,T j<256):aw ae0 34 [v0.v] [aj false v0 n T] fun r hs=>NZ n T r∧hs=[]:=by
 refine aw.post (p:=fun r _=>NZ n T r) ?_ fun v hs h=>⟨[],bX.sub (List.nil_sublist _),h,rfl⟩
 refine LG _ (n:Int) (fun j=>(T j:Nat)) v0 ?_;unfold C7;dsimp only;have yZ:=hT 0;have zC:=ZO ⟨T 0,yZ⟩;have WY:=Uj ⟨T 0,yZ⟩;dsimp only at zC WY;rw [zC,WY];obtain⟨a,ha⟩: ∃a,a=T 0/16:=⟨_,rfl⟩;obtain⟨c,hc⟩: ∃c,c=T 0%16:=⟨_,rfl⟩;rw [←ha,←hc];have Ub:a<16:=by omega
 have Uc:c<16:=by omega
 have wa:ae .u64 (a:Int)=(a:Int):=oD (by omega);have wc:ae .u64 (c:Int)=(c:Int):=oD (by omega);intro b0;refine⟨by omega,fun _=>⟨fun h0=> .inr ⟨fun h=>by have:=h.1;omega,rfl⟩,fun h0=>?_⟩⟩;intro b1;have US:0<n:=by omega
 refine⟨by omega,fun _=>⟨fun h8=>⟨fun c8=>?_,fun c8=>?_⟩,fun h8=>?_⟩⟩
 ·have k0:nk T=0:=by unfold nk;rw [if_pos (by omega)]
  have c0:nc T=0:=by unfold nc;rw [if_pos (by omega)]
  have e1:bZ T=a:=by unfold bZ;rw [if_pos (by omega),ha]
  have e2:bf T=c:=by unfold bf;rw [if_pos (by omega),hc]
  rw [wa,wc];refine .inl ⟨⟨by omega,by rw [e1,k0];exact ey (by omega),by rw [e2,c0];exact ey (by omega)⟩,?_⟩;rw [e1,e2,k0,c0];rfl
 ·have k0:nk T=0:=by unfold nk;rw [if_pos (by omega)]
  have c0:nc T=c - 7:=by unfold nc;rw [if_neg (by omega),hc]
  have e1:bZ T=a:=by unfold bZ;rw [if_pos (by omega),ha]
  have e2:bf T=mM (fun j=>T (1+j)) (c - 7):=by
   unfold bf;rw [if_neg (by omega),c0,k0]
  have hk:hb (bZ T)=nk T:=by rw [e1,k0];exact ey (by omega)
  have dH:=wZ hT;rw [NY (by omega) Uc,wa]
  iterate 6 refine⟨by omega,fun _=>?_⟩
  refine⟨fun bU=> .inr ⟨fun h=>by have:=h.1;omega,rfl⟩,fun iH=>?_⟩
  iterate 3 refine⟨by omega,fun _=>?_⟩
  refine⟨fun e=> ∃i:Nat,i≤c - 7∧e.i=[(i:Int)]∧(e.a.getD 0 fun _=>0) 0=(a:Int)∧(e.a.getD 0 fun _=>0) 1=(mM (fun j=>T (1+j)) i:Nat),fun e=>((16:Int) - e.i.getD 0 0).toNat,⟨0,_,rfl,fun _ _=>rfl,0,by omega,rfl,rfl,rfl⟩,?_⟩;rintro x1 A1 ⟨i,hi,hx,tu,qP⟩;simp only [ae8,and_true]at hx;subst hx;simp only [ah]at tu qP;refine⟨fun bU=>?_,fun Q7=>?_⟩
  ·have t1:ag (1+(i:Int))=1+i:=by omega
   rw [t1]
   iterate 7 refine⟨by omega,fun _=>?_⟩
   refine⟨_,_,rfl,fun _ _=>rfl,⟨i+1,by omega,rfl,?_,?_⟩,?_⟩
   ·show A1 0=_;exact tu
   ·show ak .bR .u64 (ak .shl .u64 (A1 1) 8) (ae .u64 ((T (1+i):Nat):Int))=_;have hw:mM (fun j=>T (1+j)) i<2^56:=ae_ (pJ _ (fun j=>hT _) i) (Nat.le_trans (Nat.pow_le_pow_right (by decide) (show i≤7 by omega)) (by decide));rw [qP,Fh.OW hw (hT _)];rfl
   ·simp only [ah];omega
  ·have DO:i=c - 7:=by omega
   subst DO;rw [←e2]at qP;rw [tu,qP];refine⟨_,gT (bf T) dH,?_⟩;rintro x hs ⟨v1,rfl,rfl⟩;have tB:=vo (bf T);refine⟨v1,(hb (bf T):Nat),fun j=>(be (hb (bf T)) (bf T) j:Nat),rfl,rfl,by omega,fun _=>⟨by omega,fun _=>⟨by omega,fun _=>⟨fun eZ=>?_,fun heq=>?_⟩⟩⟩⟩
   ·exact .inr ⟨fun h=>by have:=h.2.2;omega,rfl⟩
   ·refine .inl ⟨⟨by omega,hk,by omega⟩,?_⟩;rw [e1,k0,c0,show(1:Int)+((c - 8:Nat):Int)+1=((1+0+(c - 7):Nat):Int) by omega]
 ·have k0:nk T=a - 7:=by unfold nk;rw [if_neg (by omega),ha]
  have e1:bZ T=mM (fun j=>T (1+j)) (a - 7):=by
   unfold bZ;rw [if_neg (by omega),k0]
  have CL:=ND hT;have dH:=wZ hT;have adE:=NC T;rw [NY (by omega) Ub]
  iterate 6 refine⟨by omega,fun _=>?_⟩
  refine⟨fun bU=> .inr ⟨fun h=>by have:=h.1;omega,rfl⟩,fun iH=>?_⟩
  iterate 3 refine⟨by omega,fun _=>?_⟩
  refine⟨fun e=> ∃i:Nat,i≤a - 7∧e.i=[(i:Int)]∧(e.a.getD 0 fun _=>0) 0=(mM (fun j=>T (1+j)) i:Nat)∧(e.a.getD 0 fun _=>0) 1=0,fun e=>((16:Int) - e.i.getD 0 0).toNat,⟨0,_,rfl,fun _ _=>rfl,0,by omega,rfl,rfl,rfl⟩,?_⟩;rintro x1 A1 ⟨i,hi,hx,tu,qP⟩;simp only [ae8,and_true]at hx;subst hx;simp only [ah]at tu qP;refine⟨fun bU=>?_,fun Q7=>?_⟩
  ·have t1:ag (1+(i:Int))=1+i:=by omega
   rw [t1]
   iterate 7 refine⟨by omega,fun _=>?_⟩
   refine⟨_,_,rfl,fun _ _=>rfl,⟨i+1,by omega,rfl,?_,?_⟩,?_⟩
   ·show ak .bR .u64 (ak .shl .u64 (A1 0) 8) (ae .u64 ((T (1+i):Nat):Int))=_;have hw:mM (fun j=>T (1+j)) i<2^56:=ae_ (pJ _ (fun j=>hT _) i) (Nat.le_trans (Nat.pow_le_pow_right (by decide) (show i≤7 by omega)) (by decide));rw [tu,Fh.OW hw (hT _)];rfl
   ·show A1 1=0;exact qP
   ·simp only [ah];omega
  have DO:i=a - 7:=by omega
  subst DO;rw [←e1]at tu;rw [tu];refine⟨_,gT (bZ T) CL,?_⟩;rintro x hs ⟨v1,rfl,rfl⟩;have tB:=vo (bZ T);refine⟨v1,(hb (bZ T):Nat),fun j=>(be (hb (bZ T)) (bZ T) j:Nat),rfl,rfl,by omega,fun _=>⟨by omega,fun _=>⟨by omega,fun _=>⟨fun eZ=>?_,fun heq=>?_⟩⟩⟩⟩
  ·exact .inr ⟨fun h=>by have:=h.2.1;omega,rfl⟩
  have hk:hb (bZ T)=nk T:=by omega
  refine⟨fun c8=>?_,fun c8=>?_⟩
  ·have c0:nc T=0:=by unfold nc;rw [if_pos (by omega)]
   have e2:bf T=c:=by unfold bf;rw [if_pos (by omega),hc]
   rw [wc];refine .inl ⟨⟨by omega,hk,by rw [e2,c0];exact ey (by omega)⟩,?_⟩;rw [e2,k0,c0,show(1:Int)+((a - 8:Nat):Int)+1=((1+(a - 7)+0:Nat):Int) by omega]
  ·have c0:nc T=c - 7:=by unfold nc;rw [if_neg (by omega),hc]
   have e2:bf T=mM (fun j=>T (1+nk T+j)) (c - 7):=by
    unfold bf;rw [if_neg (by omega),c0]
   rw [NY (by omega) Uc]
   iterate 7 refine⟨by omega,fun _=>?_⟩
   refine⟨fun bU=> .inr ⟨fun h=>by have:=h.1;omega,rfl⟩,fun adF=>?_⟩
   iterate 4 refine⟨by omega,fun _=>?_⟩
   refine⟨fun e=> ∃i:Nat,i≤c - 7∧e.i=[(i:Int)]∧(e.a.getD 0 fun _=>0) 0=(bZ T:Nat)∧(e.a.getD 0 fun _=>0) 1=(mM (fun j=>T (1+nk T+j)) i:Nat),fun e=>((16:Int) - e.i.getD 0 0).toNat,⟨0,_,rfl,fun _ _=>rfl,0,by omega,rfl,tu,qP⟩,?_⟩;rintro x3 A3 ⟨i3,hi3,hx,ZP,X1⟩;simp only [ae8,and_true]at hx;subst hx;simp only [ah]at ZP X1;refine⟨fun bU=>?_,fun adG=>?_⟩
   ·have t1:ag ((1:Int)+((a - 8:Nat):Int)+1+(i3:Int))=1+nk T+i3:=by omega
    rw [t1]
    iterate 8 refine⟨by omega,fun _=>?_⟩
    refine⟨_,_,rfl,fun _ _=>rfl,⟨i3+1,by omega,rfl,?_,?_⟩,?_⟩
    ·show A3 0=_;exact ZP
    ·show ak .bR .u64 (ak .shl .u64 (A3 1) 8) (ae .u64 ((T (1+nk T+i3):Nat):Int))=_;have hw:mM (fun j=>T (1+nk T+j)) i3<2^56:=ae_ (pJ _ (fun j=>hT _) i3) (Nat.le_trans (Nat.pow_le_pow_right (by decide) (show i3≤7 by omega)) (by decide));rw [X1,Fh.OW hw (hT _)];rfl
    ·simp only [ah];omega
   ·have DO:i3=c - 7:=by omega
    subst DO;rw [←e2]at X1;rw [ZP,X1];refine⟨_,gT (bf T) dH,?_⟩;rintro x hs ⟨v2,rfl,rfl⟩;have adH:=vo (bf T);refine⟨v2,(hb (bf T):Nat),fun j=>(be (hb (bf T)) (bf T) j:Nat),rfl,rfl,by omega,fun _=>⟨by omega,fun _=>⟨by omega,fun _=>⟨fun adI=>?_,fun adJ=>?_⟩⟩⟩⟩
    ·exact .inr ⟨fun h=>by have:=h.2.2;omega,rfl⟩
    ·refine .inl ⟨⟨by omega,hk,by omega⟩,?_⟩;rw [k0,c0,show(1:Int)+((a - 8:Nat):Int)+1+((c - 8:Nat):Int)+1=((1+(a - 7)+(c - 7):Nat):Int) by omega]
theorem q8{B:List HP}{x:Value}(hx:x.oneCell'=true)(n:Nat)(T:Nat→Nat)(hT: ∀j,T j<256)(h:au B (aB x n T)):aw ae0 34 [x] B fun r hs=>NZ n T r∧hs=B:=
 j6 (rJ ⟨x,hx⟩ n T hT) (pK h)
theorem Rj{n:Nat}(s:Nat)(hs:s≤64):ae .u8 (ak .shr .u64 (n:Int) (s:Int))=((n/2^s%256:Nat):Int):=by
 rw [gg .u64 n s hs,wrap_u8,Nat.shiftRight_eq_div_pow]
set_option maxHeartbeats 1000000 in
theorem uF(su aU aS:Nat)(v0:V1)(S:Nat→Nat)(hS: ∀j,S j<256)(hc:aS<18446744073709551616):
  aw ae0 57 [.agg (.int .u16 (su:Int):: .int .u64 (aU:Int)::v0.v::(aeU (al .u8 12 fun j=>((S j:Nat):Int)) [])).toArray,.int .u64 (aS:Int)] [] fun r hs=>r=fb (aJ S aS)∧hs=[]:=by
 refine aw.post (p:=fun r _=>r=fb (aJ S aS)) ?_ fun v hs h=>⟨[],bX.sub (List.nil_sublist _),h,rfl⟩
 refine Jq _ (su:Int) (aU:Int) (aS:Int) (fun _=>0) (fun j=>(S j:Nat)) v0 ?_;unfold Ab;dsimp only;intro b0 b1 b2;have hx: ∀(j s p:Nat),s≤64→2^s=256^(11 - j)→p=s→ak .ay .u8 ((S j:Nat):Int) (ae .u8 (ak .shr .u64 (aS:Int) (p:Int)))=((aJ S aS j:Nat):Int):=by
  intro j s p hs hp e;subst e;rw [Rj p hs,bP (hS j) (afI _ (by decide)),hp];rfl
 have h0: ∀j,j<4→aJ S aS j=S j:=by
  intro j hj;unfold aJ;have h1:256^(11 - j)=256^(3 - j)*18446744073709551616:=by
   have: ∀j,j<4→256^(11 - j)=256^(3 - j)*18446744073709551616:=by decide
   exact this j hj
  have h2:aS/256^(11 - j)=0:=by
   refine Nat.div_eq_of_lt (ae_ hc ?_);rw [h1];exact Nat.le_mul_of_pos_left _ (Nat.pow_pos (by decide))
  rw [h2];exact Nat.xor_zero _
 have e4:ak .ay .u8 ((S 4:Nat):Int) (ae .u8 (ak .shr .u64 (aS:Int) 56))=((aJ S aS 4:Nat):Int):=hx 4 56 56 (by decide) (by decide) rfl;have e5:ak .ay .u8 ((S 5:Nat):Int) (ae .u8 (ak .shr .u64 (aS:Int) 48))=((aJ S aS 5:Nat):Int):=hx 5 48 48 (by decide) (by decide) rfl;have e6:ak .ay .u8 ((S 6:Nat):Int) (ae .u8 (ak .shr .u64 (aS:Int) 40))=((aJ S aS 6:Nat):Int):=hx 6 40 40 (by decide) (by decide) rfl;have e7:ak .ay .u8 ((S 7:Nat):Int) (ae .u8 (ak .shr .u64 (aS:Int) 32))=((aJ S aS 7:Nat):Int):=hx 7 32 32 (by decide) (by decide) rfl;have e8:ak .ay .u8 ((S 8:Nat):Int) (ae .u8 (ak .shr .u64 (aS:Int) 24))=((aJ S aS 8:Nat):Int):=hx 8 24 24 (by decide) (by decide) rfl;have e9:ak .ay .u8 ((S 9:Nat):Int) (ae .u8 (ak .shr .u64 (aS:Int) 16))=((aJ S aS 9:Nat):Int):=hx 9 16 16 (by decide) (by decide) rfl;have XO:ak .ay .u8 ((S 10:Nat):Int) (ae .u8 (ak .shr .u64 (aS:Int) 8))=((aJ S aS 10:Nat):Int):=hx 10 8 8 (by decide) (by decide) rfl;have XP:ak .ay .u8 ((S 11:Nat):Int) (ae .u8 (ak .shr .u64 (aS:Int) 0))=((aJ S aS 11:Nat):Int):=hx 11 0 0 (by decide) (by decide) rfl;unfold fb;congr 1;show List.toArray _=List.toArray _;congr 1;show [Value.int .u8 ((S 0:Nat):Int),Value.int .u8 ((S 1:Nat):Int),Value.int .u8 ((S 2:Nat):Int),Value.int .u8 ((S 3:Nat):Int),_,_,_,_,_,_,_,_]=[Value.int .u8 ((aJ S aS 0:Nat):Int),Value.int .u8 ((aJ S aS 1:Nat):Int),Value.int .u8 ((aJ S aS 2:Nat):Int),Value.int .u8 ((aJ S aS 3:Nat):Int),_,_,_,_,_,_,_,_];rw [h0 0 (by decide),h0 1 (by decide),h0 2 (by decide),h0 3 (by decide),e4,e5,e6,e7,e8,e9,XO,XP]
end Go.RX.Fm
