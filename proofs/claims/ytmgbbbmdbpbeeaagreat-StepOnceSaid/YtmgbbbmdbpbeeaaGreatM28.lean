/- Sums of however many texts in a row. -/
import Derived.Test.YtmgbbbmdbpbeeaaGreatM27
open Classical renaming axiomOfChoice → ajH
open Go.Extern.BytealgMakeNoZero renaming digits → aju
open Go.IntKind renaming wrap → ae
open Go.Proofs.Tryz renaming prog → aiT
open Int renaming toNat → ag, toNat_natCast → aiX
open List renaming append_assoc → ajs, append_eq → ajp, getD_cons_succ → aiS, getD_cons_zero → ah, getElem?_eq_getElem → ajk, getElem?_eq_none → ajz, getElem?_eq_some_iff → aiN, map_cons → ajb, mem_cons → ai0, mem_map → ai_, mem_of_getElem? → ajn, not_mem_nil → aiZ, range → ajw
open List.cons renaming injEq → ai5
open Nat renaming xor_comm → ajr
open Option renaming map_some → ajI
namespace Go.RX.Fu
open Go Go.RX Go.Proofs Go.RX.Sh Go.RX.Fg Go.RX.Fj Go.RX.Fk Go.RX.Fm Go.RX.Fq Go.RX.Fx
def iO(nn:Nat→Nat):Nat→Nat
 | 0=>0
 | i+1=>iO nn i+nn i
theorem tP(nn:Nat→Nat){i:Nat}: ∀{k:Nat},i≤k→iO nn i≤iO nn k
 | 0,h=>by
  have:i=0:=by omega
  subst this;exact Nat.le_refl _
 | k+1,h=>by
  by_cases hk:i=k+1
  ·subst hk;exact Nat.le_refl _
  ·exact Nat.le_trans (tP nn (by omega:i≤k)) (Nat.le_add_right _ _)
theorem qT(E:Nat→Int)(i:Nat):(fun j=>if j=i then bQ (E i)else bQ (E j))=fun j=>bQ (E j):=by
 funext j;by_cases h:j=i
 ·rw [if_pos h,h]
 ·rw [if_neg h]
abbrev vx(x:Value)(n:Nat)(A:Nat→Int):HP:=aG false 5 1 x n (aW n [bd .u8 1 A])
theorem O0{b n:Nat}{N:Nat→Int}(hn:n≤140737488355328):bL [al b true (aj .u8 n N)] [bn true ⟨.slice (some ⟨b,0,none⟩) n n,rfl⟩ n N]:=by
 rintro w Fs ⟨S,hS⟩;have h0:=(hS.at_ 0 _ rfl).1;have cI:=s8 (t:=5) h0 (by rw [aF];unfold maxLen;omega);rw [aF]at cI;refine bz.weaken (a:=[al b true (aj .u8 n N)]) hS 0 _ _ rfl (fun _=>rfl) (fun k=>k=b) (fun k hk=>?_) ⟨?_,fun k=>?_⟩
 ·exact(h0.1 k).2 hk
 ·simp only [if_true];rw [iH];exact cI
 ·simp [Value.ownBlock,eq_comm]
structure Tx where
 w:V1
 n:Nat
 T:Nat→Int
def Tx.hp(t:Tx):HP:=bn false t.w t.n t.T
def mo(ts:List Tx)(i:Nat):Tx:=ts.getD i ⟨V1.nil,0,fun _=>0⟩
theorem zu{ts:List Tx}{i:Nat}(hi:i<ts.length):ts[i]? =some (mo ts i):=by
 unfold mo;rw [List.getD_eq_getElem?_getD,ajk hi];rfl
theorem zv{f:Nat}{args:List Value}{R:HP}{B:List HP}{ts:List Tx}{p:Value→List HP→Prop}(hB: ∀t∈ts,ar B t.hp)(h: ∀E:Nat→Int,(∀i,i<ts.length→(mo ts i).w.v=bQ (E i))→ax aiT f args (R::B) p):ax aiT f args (R::B) p:=by
 intro w Fs o;have key: ∀i,∃e:Int,i<ts.length→(mo ts i).w.v=bQ e:=by
  intro i;by_cases hi:i<ts.length
  ·obtain⟨S,hS⟩:=o;have Yd:Sep B (fun i=>S (1+i)) w:=Sep.mid (A:=[R]) (B:=B) (C:=Fs) (by simpa using hS);obtain⟨S',hp,_⟩:=(hB _ (ajn (zu hi))).2 w _ Yd;obtain⟨ho,_⟩:((mo ts i).hp).p w S':=hp;simp only [Bool.false_eq_true,if_false]at ho;obtain⟨_,a,m,c,he,_⟩:=ho;obtain⟨e,he2⟩:=xG a m c;exact⟨e,fun _=>he.trans he2⟩
  ·exact⟨0,fun h=>absurd h hi⟩
 obtain⟨E,hE⟩:=ajH key;exact h E hE w Fs o
theorem JO{ts:List Tx}{E:Nat→Int}(hE: ∀i,i<ts.length→(mo ts i).w.v=bQ (E i)){i:Nat}(hi:i<ts.length):ar [flock (ts.map Tx.hp)] (vx (bQ (E i)) (mo ts i).n (mo ts i).T):=by
 have:=zh (l:=ts.map Tx.hp) (x:=(mo ts i).hp) (ai_.2 ⟨_,ajn (zu hi),rfl⟩) rfl;rw [←hE i hi];exact this
theorem O1{ts:List Tx}{E:Nat→Int}(hE: ∀i,i<ts.length→(mo ts i).w.v=bQ (E i)):aW ts.length [cJ 1 fun j=>bQ (E j)]=ts.map fun t=>t.w.v:=by
 have e:aW ts.length [cJ 1 fun j=>bQ (E j)]=(ajw ts.length).map fun j=>bQ (E j):=by
  unfold aW cJ;have h1:ajw 1=[0]:=rfl;simp only [h1,List.flatMap_cons,List.flatMap_nil,ajb,List.map_nil,List.append_nil];generalize ajw ts.length=l
  induction l with
  | nil=>rfl
  | cons a l ih=>
   rw [List.flatMap_cons,ih,Nat.mul_one];rfl
 rw [e];apply List.ext_getElem?;intro i;by_cases hi:i<ts.length
 ·rw [List.getElem?_map,List.getElem?_map,List.getElem?_range hi,zu hi];simp only [ajI];rw [hE i hi]
 ·rw [ajz (by simp;omega),ajz (by simp;omega)]
end Go.RX.Fu

namespace Go.RX.Fq
open Go Go.RX Go.Proofs Go.RX.Sh Go.RX.Fg Go.RX.Fj Go.RX.Fk Go.RX.Fm
set_option maxHeartbeats 2000000 in
theorem HR(b:Nat)(vh vk vb:V1)(A0 A1 A2:Nat→Int):
  ax aiT 151 [.pointer (some ⟨b,0,none⟩),vb.v] [qf b vh vk,dq vh 8 A0,dq vk 64 A1,bn false vb 64 A2] fun r hs=> ∃A:Nat→Int,r= .tuple #[]∧hs=[qf b vh vk,dq vh 8 A,dq vk 64 A1]∧∀j,j<8→A j=tN A1 A0 A2 j:=by
 refine Fm.Dm _ A0 A1 A2 vh vk vb b ?_;unfold Fm.np;intro v3;refine⟨fun e=> ∃a:Nat,a≤64∧e.i=[(a:Int)]∧∀j,j<64→e.a.getD 0 (fun _=>0) j=nU A2 a j,fun e=>(64 - e.i.getD 0 0).toNat,⟨0,fun _=>0,rfl,fun _ _=>rfl,0,by omega,rfl,fun j _=>rfl⟩,?_⟩;rintro x1 A3 ⟨a,ha,hx,hA⟩;simp only [ai5,and_true]at hx;subst hx;simp only [ah]at hA;have hq:=Fm.RH (x:=(a:Int)) (by omega) (by omega);refine⟨fun bX=>⟨by rw [hq];omega,fun _=>⟨by rw [hq];omega,fun _=>⟨by omega,fun _=>⟨by omega,fun _=>⟨by omega,fun _=>?_⟩⟩⟩⟩⟩,fun jI=>?_⟩
 ·refine⟨(a:Int)+1,_,rfl,fun _ _=>rfl,⟨a+1,by omega,rfl,fun j hj=>?_⟩,?_⟩
  ·simp only [ah];rw [hq,aiX,aiX,nU];unfold au;by_cases u4:j=a/4
   ·rw [if_pos u4,if_pos u4,hA _ (by omega)]
   ·rw [if_neg u4,if_neg u4];exact hA j hj
  ·simp only [ah];omega
 have haB:a=64:=by omega
 subst haB;refine⟨fun e=> ∃a:Nat,16≤a∧a≤64∧e.i=[(a:Int)]∧∀j,j<64→e.a.getD 0 (fun _=>0) j=Fb (nU A2 64) (a - 16) j,fun e=>(64 - e.i.getD 0 0).toNat,⟨16,A3,rfl,fun _ _=>rfl,16,by omega,by omega,rfl,fun j hj=>hA j hj⟩,?_⟩;rintro x2 A4 ⟨a,OX,ha,hx,HI⟩;simp only [ai5,and_true]at hx;subst hx;simp only [ah]at HI;refine⟨fun bX=>?_,fun jI=>?_⟩
 ·iterate 16 refine⟨by omega,fun _=>?_⟩
  intro b1 b2
  iterate 3 refine⟨by omega,fun _=>?_⟩
  refine⟨(a:Int)+1,_,rfl,fun _ _=>rfl,⟨a+1,by omega,by omega,rfl,fun j hj=>?_⟩,?_⟩
  ·simp only [ah];show au A4 (ag (a:Int)) (YS A4 (a:Int)) j=_;obtain⟨n,rfl⟩: ∃n,a=16+n:=⟨a - 16,by omega⟩;rw [show 16+n+1 - 16=n+1 by omega,Fb];rw [show 16+n - 16=n by omega]at HI;rw [aiX,LH HI (by omega)];unfold au;by_cases u4:j=16+n
   ·rw [if_pos u4,if_pos u4]
   ·rw [if_neg u4,if_neg u4];exact HI j hj
  ·simp only [ah];omega
 have Vs:a=64:=by omega
 subst Vs;intro u8;refine⟨fun e=> ∃a:Nat,a≤64∧e.i=OY (Fc A1 (Fb (nU A2 64) 48) A0 a) (a:Int),fun e=>(64 - e.i.getD 8 0).toNat,⟨_,_,_,_,_,_,_,_,0,rfl,rfl,rfl,rfl,rfl,rfl,rfl,rfl,rfl,0,by omega,rfl⟩,?_⟩;rintro x3 x4 x5 x6 x7 x8 x9 bP fm ⟨a,ha,hx⟩;simp only [OY,ai5,and_true]at hx;obtain⟨rfl,rfl,rfl,rfl,rfl,rfl,rfl,rfl,rfl⟩:=hx;refine⟨fun bX=>⟨by omega,fun _=>fun b2 b3=>⟨by omega,fun _=>⟨by omega,fun _=>?_⟩⟩⟩,fun jI=>?_⟩
 ·refine⟨_,_,_,_,_,_,_,_,(a:Int)+1,rfl,rfl,rfl,rfl,rfl,rfl,rfl,rfl,rfl,⟨a+1,by omega,?_⟩,?_⟩
  ·have hw:A4 (ag (a:Int))=Fb (nU A2 64) 48 a:=HI a (by omega);rw [hw];rfl
  ·simp only [ah,aiS];omega
 have Vs:a=64:=by omega
 subst Vs;obtain⟨R,hR⟩: ∃R:Nat→Int,R=Fc A1 (Fb (nU A2 64) 48) A0 64:=⟨_,rfl⟩;have hc: ∀j,tN A1 A0 A2 j=ae .u32 (A0 j+R j):=fun j=>by rw [hR];rfl
 rw [←hR];refine⟨fun e=> ∃a:Nat,a≤8∧e.i=[(a:Int)]∧(∀j,j<8→e.a.getD 1 (fun _=>0) j=R j)∧∀j,j<8→e.a.getD 0 (fun _=>0) j=if j<a then tN A1 A0 A2 j else A0 j,fun e=>(8 - e.i.getD 0 0).toNat,
  ⟨0,A0,_,rfl,fun _ _=>rfl,fun _ _=>rfl,0,by omega,rfl,fun j hj=>?_,fun j hj=>?_⟩,?_⟩
 ·simp only [ah,aiS];unfold au
  match j,hj with
  | 0,_=>rfl
  | 1,_=>rfl
  | 2,_=>rfl
  | 3,_=>rfl
  | 4,_=>rfl
  | 5,_=>rfl
  | 6,_=>rfl
  | 7,_=>rfl
 ·simp only [ah];rw [if_neg (by omega)]
 rintro c6 A5 A6 ⟨a,ha,hx,h6,h5⟩;simp only [ai5,and_true]at hx;subst hx;simp only [ah,aiS]at h6 h5;refine⟨fun bX=>⟨by omega,fun _=>⟨by omega,fun _=>⟨by omega,fun _=>?_⟩⟩⟩,fun jI=>?_⟩
 ·refine⟨(a:Int)+1,_,A6,rfl,fun _ _=>rfl,fun _ _=>rfl,⟨a+1,by omega,rfl,h6,fun j hj=>?_⟩,?_⟩
  ·simp only [ah];rw [aiX];unfold au;by_cases KR:j=a
   ·subst KR;rw [if_pos rfl,if_pos (by omega),h5 j hj,h6 j hj,if_neg (by omega),hc]
   ·rw [if_neg KR,h5 j hj];by_cases c:j<a
    ·rw [if_pos c,if_pos (by omega)]
    ·rw [if_neg c,if_neg (by omega)]
  ·simp only [ah];omega
 have YR:a=8:=by omega
 subst YR;exact⟨A5,rfl,rfl,fun j hj=>by rw [h5 j hj,if_pos hj]⟩
theorem zw{B:List HP}{x:Value}(b:Nat)(vh vk:V1)(hx:x.oneCell'=true)(A0 A1 T:Nat→Int)(hb:ar B (aG false 5 1 x 64 (aW 64 [bd .u8 1 T]))):
  ax aiT 151 [.pointer (some ⟨b,0,none⟩),x] ([qf b vh vk,dq vh 8 A0,dq vk 64 A1]++B)
   fun r hs=> ∃A:Nat→Int,r= .tuple #[]∧hs=[qf b vh vk,dq vh 8 A,dq vk 64 A1]++B∧∀j,j<8→A j=tN A1 A0 T j:=by
 have hm:ax aiT 151 [.pointer (some ⟨b,0,none⟩),x] ([qf b vh vk,dq vh 8 A0,dq vk 64 A1]++[aG false 5 1 x 64 (aW 64 [bd .u8 1 T])]) fun r hs=> ∃A:Nat→Int,r= .tuple #[]∧hs=[qf b vh vk,dq vh 8 A,dq vk 64 A1]∧∀j,j<8→A j=tN A1 A0 T j:=
  HR b vh vk ⟨x,hx⟩ A0 A1 T
 refine ax.post (ax.Hn hm ?_ (iB hb)) ?_
 ·rintro v hs ⟨A,_,rfl,_⟩ h hh;simp only [ai0,aiZ,or_false]at hh;rcases hh with rfl | rfl | rfl<;>rfl
 ·rintro v hs ⟨ym,⟨A,hr,rfl,hA⟩,rfl⟩;exact⟨_,bL.refl _,A,hr,rfl,hA⟩
open Go.RX Go.RX.Fm
set_option maxRecDepth 10000 in
theorem R6{F S:Nat→Int}(h: ∀i,i<8→F i=S i)(j:Nat)(hj:j<32):(au (au (au (au (au (au (au (au (au (au (au (au (au (au (au (au (au (au (au (au (au (au (au (au (au (au (au (au (au (au (au (au (fun _=>0) 0 (ae .u8 (ak .shr .u32 (F 0) 24))) 1 (ae .u8 (ak .shr .u32 (F 0) 16))) 2 (ae .u8 (ak .shr .u32 (F 0) 8))) 3 (ae .u8 (ak .shr .u32 (F 0) 0))) 4 (ae .u8 (ak .shr .u32 (F 1) 24))) 5 (ae .u8 (ak .shr .u32 (F 1) 16))) 6 (ae .u8 (ak .shr .u32 (F 1) 8))) 7 (ae .u8 (ak .shr .u32 (F 1) 0))) 8 (ae .u8 (ak .shr .u32 (F 2) 24))) 9 (ae .u8 (ak .shr .u32 (F 2) 16))) 10 (ae .u8 (ak .shr .u32 (F 2) 8))) 11 (ae .u8 (ak .shr .u32 (F 2) 0))) 12 (ae .u8 (ak .shr .u32 (F 3) 24))) 13 (ae .u8 (ak .shr .u32 (F 3) 16))) 14 (ae .u8 (ak .shr .u32 (F 3) 8))) 15 (ae .u8 (ak .shr .u32 (F 3) 0))) 16 (ae .u8 (ak .shr .u32 (F 4) 24))) 17 (ae .u8 (ak .shr .u32 (F 4) 16))) 18 (ae .u8 (ak .shr .u32 (F 4) 8))) 19 (ae .u8 (ak .shr .u32 (F 4) 0))) 20 (ae .u8 (ak .shr .u32 (F 5) 24))) 21 (ae .u8 (ak .shr .u32 (F 5) 16))) 22 (ae .u8 (ak .shr .u32 (F 5) 8))) 23 (ae .u8 (ak .shr .u32 (F 5) 0))) 24 (ae .u8 (ak .shr .u32 (F 6) 24))) 25 (ae .u8 (ak .shr .u32 (F 6) 16))) 26 (ae .u8 (ak .shr .u32 (F 6) 8))) 27 (ae .u8 (ak .shr .u32 (F 6) 0))) 28 (ae .u8 (ak .shr .u32 (F 7) 24))) 29 (ae .u8 (ak .shr .u32 (F 7) 16))) 30 (ae .u8 (ak .shr .u32 (F 7) 8))) 31 (ae .u8 (ak .shr .u32 (F 7) 0))) j=Vq S j:=by
 match j,hj with
 | 0,_=>exact congrArg (fun z=>ae .u8 (ak .shr .u32 z 24)) (h 0 (by decide))
 | 1,_=>exact congrArg (fun z=>ae .u8 (ak .shr .u32 z 16)) (h 0 (by decide))
 | 2,_=>exact congrArg (fun z=>ae .u8 (ak .shr .u32 z 8)) (h 0 (by decide))
 | 3,_=>exact congrArg (fun z=>ae .u8 (ak .shr .u32 z 0)) (h 0 (by decide))
 | 4,_=>exact congrArg (fun z=>ae .u8 (ak .shr .u32 z 24)) (h 1 (by decide))
 | 5,_=>exact congrArg (fun z=>ae .u8 (ak .shr .u32 z 16)) (h 1 (by decide))
 | 6,_=>exact congrArg (fun z=>ae .u8 (ak .shr .u32 z 8)) (h 1 (by decide))
 | 7,_=>exact congrArg (fun z=>ae .u8 (ak .shr .u32 z 0)) (h 1 (by decide))
 | 8,_=>exact congrArg (fun z=>ae .u8 (ak .shr .u32 z 24)) (h 2 (by decide))
 | 9,_=>exact congrArg (fun z=>ae .u8 (ak .shr .u32 z 16)) (h 2 (by decide))
 | 10,_=>exact congrArg (fun z=>ae .u8 (ak .shr .u32 z 8)) (h 2 (by decide))
 | 11,_=>exact congrArg (fun z=>ae .u8 (ak .shr .u32 z 0)) (h 2 (by decide))
 | 12,_=>exact congrArg (fun z=>ae .u8 (ak .shr .u32 z 24)) (h 3 (by decide))
 | 13,_=>exact congrArg (fun z=>ae .u8 (ak .shr .u32 z 16)) (h 3 (by decide))
 | 14,_=>exact congrArg (fun z=>ae .u8 (ak .shr .u32 z 8)) (h 3 (by decide))
 | 15,_=>exact congrArg (fun z=>ae .u8 (ak .shr .u32 z 0)) (h 3 (by decide))
 | 16,_=>exact congrArg (fun z=>ae .u8 (ak .shr .u32 z 24)) (h 4 (by decide))
 | 17,_=>exact congrArg (fun z=>ae .u8 (ak .shr .u32 z 16)) (h 4 (by decide))
 | 18,_=>exact congrArg (fun z=>ae .u8 (ak .shr .u32 z 8)) (h 4 (by decide))
 | 19,_=>exact congrArg (fun z=>ae .u8 (ak .shr .u32 z 0)) (h 4 (by decide))
 | 20,_=>exact congrArg (fun z=>ae .u8 (ak .shr .u32 z 24)) (h 5 (by decide))
 | 21,_=>exact congrArg (fun z=>ae .u8 (ak .shr .u32 z 16)) (h 5 (by decide))
 | 22,_=>exact congrArg (fun z=>ae .u8 (ak .shr .u32 z 8)) (h 5 (by decide))
 | 23,_=>exact congrArg (fun z=>ae .u8 (ak .shr .u32 z 0)) (h 5 (by decide))
 | 24,_=>exact congrArg (fun z=>ae .u8 (ak .shr .u32 z 24)) (h 6 (by decide))
 | 25,_=>exact congrArg (fun z=>ae .u8 (ak .shr .u32 z 16)) (h 6 (by decide))
 | 26,_=>exact congrArg (fun z=>ae .u8 (ak .shr .u32 z 8)) (h 6 (by decide))
 | 27,_=>exact congrArg (fun z=>ae .u8 (ak .shr .u32 z 0)) (h 6 (by decide))
 | 28,_=>exact congrArg (fun z=>ae .u8 (ak .shr .u32 z 24)) (h 7 (by decide))
 | 29,_=>exact congrArg (fun z=>ae .u8 (ak .shr .u32 z 16)) (h 7 (by decide))
 | 30,_=>exact congrArg (fun z=>ae .u8 (ak .shr .u32 z 8)) (h 7 (by decide))
 | 31,_=>exact congrArg (fun z=>ae .u8 (ak .shr .u32 z 0)) (h 7 (by decide))
 | n+32,hj=>exact absurd hj (by omega)
end Go.RX.Fq

namespace Go.RX.Fu
open Go Go.RX Go.Proofs Go.RX.Sh Go.RX.Fg Go.RX.Fj Go.RX.Fk Go.RX.Fm Go.RX.Fq Go.RX.Fx
set_option maxHeartbeats 4000000 in
theorem LO(b:Nat)(vh vk vl:V1)(k:Nat)(E:Nat→Int)(nn:Nat→Nat)(X:Nat→Nat→Int)(M A0 A1:Nat→Int)(p0:HP)(N:Nat)(hN:N=iO nn k)(hX: ∀i,i<k→∀j,j<nn i→X i j=M (iO nn i+j))(hw:p0.wr=false)(hb: ∀i,i<k→ar [p0] (vx (bQ (E i)) (nn i) (X i)))
  (wi: ∀j,j<8→A0 j=((Sh.H0 j:Nat):Int)) (Dk: ∀j,j<64→A1 j=K4 j) (hk:k≤1000) (hl:N+300≤140737488355328):
  ax aiT 139 [.pointer (some ⟨b,0,none⟩),vl.v] [qf b vh vk,dq vh 8 A0,dq vk 64 A1,aG false 24 1 vl.v k (aW k [cJ 1 (fun j=>bQ (E j))]),p0] fun r hs=> ∃o:V1,r=o.v∧hs=[bn true o 32 (oN N M)]:=by
 refine LK _ (k:Int) A0 A1 E vh vk vl b p0 ?_;unfold By;have M5: ∀j,j<N→iC N M j=M j:=fun j hj=>by unfold iC;rw [if_pos hj]
 have hq:tO N=64*((N+8)/64+1):=rfl;refine⟨by omega,fun _=>?_⟩;refine⟨fun e=> ∃i q r:Nat,i≤k∧64*q+r=iO nn i∧r<64∧e.i=[(r:Int),(iO nn i:Int),(i:Int)]∧(∀j,j<r→(e.a.getD 0 fun _=>0) j=iC N M (64*q+j))∧∀j,j<8→(e.a.getD 1 fun _=>0) j=Ff (iC N M) q j,fun e=>((k:Int) - e.i.getD 2 0).toNat,?_,?_⟩
 ·refine⟨_,0,0,0,fun _=>0,A0,rfl,rfl,rfl,fun _ _=>rfl,rfl,rfl,fun _ _=>rfl,0,0,0,by omega,rfl,by omega,rfl,fun j hj=>absurd hj (by omega),fun j hj=>?_⟩;exact wi j hj
 rintro z0 x1 x2 x3 B0 C0 ⟨i,q,r,IK,K9,hr,hx,hB,hH⟩;simp only [ai5,and_true]at hx;obtain⟨rfl,rfl,rfl⟩:=hx;simp only [ah,aiS]at hB hH;have tr: ∀x:Nat,ag (x:Int)=x:=fun _=>rfl
 have hoi:=tP nn IK;refine⟨fun bX=>?_,fun jI=>?_⟩
 ·have HS:i<k:=by omega
  have acs:iO nn i+nn i≤iO nn k:=tP nn (show i+1≤k from HS);rw [tr i];refine⟨fun e=>e.v=[⟨bQ (E i),dV _⟩]∧e.i=[(nn i:Int)]∧e.a=[X i],fun w Fs ho=>?_,?_⟩
  ·refine⟨⟨bQ (E i),dV _⟩,(nn i:Int),X i,?_,rfl,rfl,rfl⟩;rw [qT];exact bL.views (A:=[_]) (B:=[p0]) (L:=[p0,_]) (EY (ar.self hw) (hb i HS)) w Fs ho
  rintro v5 x4 A5 ⟨hv,yM,ha⟩;simp only [ai5,and_true]at hv yM ha;subst hv yM ha;refine⟨by omega,fun _=>?_⟩;refine⟨fun _=>True,fun w Fs ho=>⟨?_,trivial⟩,fun _=>?_⟩
  ·rw [qT]at ho;exact ho
  iterate 3 refine⟨by omega,fun _=>?_⟩
  intro u1;refine⟨fun e=> ∃q r:Nat,64*q+r=iO nn i+nn i∧e.i=[(r:Int)]∧(∀j,j<r→(e.a.getD 0 fun _=>0) j=iC N M (64*q+j))∧∀j,j<8→(e.a.getD 1 fun _=>0) j=Ff (iC N M) q j,fun e=>(e.i.getD 0 0:Int).toNat,?_,?_⟩
  ·refine⟨u1,_,_,_,rfl,fun _ _=>rfl,rfl,rfl,fun _ _=>rfl,q,r+nn i,by omega,by rw [Int.natCast_add],fun j hj=>?_,fun j hj=>?_⟩
   ·simp only [ah];rw [tr,tr];unfold ay;by_cases c:j<r
    ·rw [if_neg (by omega)];exact hB j c
    ·rw [if_pos (by omega)];rw [hX i HS _ (by omega),M5 _ (by omega)];congr 1;omega
   ·simp only [ah,aiS];exact hH j hj
  clear hB hH K9 hr;rintro z1 x B1 C1 ⟨q,r,K9,hx,hB,hH⟩;simp only [ai5,and_true]at hx;subst hx;simp only [ah,aiS]at hB hH;refine⟨by omega,fun _=>⟨fun jI=>?_,fun Rz=>?_⟩⟩
  ·refine⟨_,zw (B:=[bn true z1 r B1]) b vh vk (aX 1 z1.v 0 64 none) C1 A1 _ (qS 64 (by omega)),?_⟩;rintro x hs ⟨C,rfl,rfl,hC⟩;refine⟨C,rfl,rfl,by omega,fun _=>⟨by omega,fun _=>?_⟩⟩;intro u;refine⟨u,_,_,_,rfl,fun _ _=>rfl,rfl,rfl,fun _ _=>rfl,⟨q+1,r - 64,by omega,congrArg (fun z:Int=>[z]) (by omega),fun j hj=>?_,fun j hj=>?_⟩,?_⟩
   ·simp only [ah];unfold aI;rw [hB _ (by omega)];congr 1;omega
   ·simp only [ah,aiS];exact(hC j hj).trans (wk (K':=K4) (H':=Ff (iC N M) q) (B':=fun i=>iC N M (64*q+i)) Dk hH (fun i hi=>by rw [Nat.zero_add];exact hB i (by omega)) j hj)
   ·simp only [ah];omega
  refine⟨by omega,fun _=>⟨by omega,fun _=>?_⟩⟩;refine⟨fun _=>True,fun w Fs ho=>⟨bL.sub (List.nil_sublist _) w Fs ho,trivial⟩,fun _=>?_⟩;refine⟨z1,_,_,_,_,_,rfl,rfl,rfl,fun _ _=>rfl,rfl,rfl,fun _ _=>rfl,⟨i+1,q,r,by omega,K9,by omega,?_,hB,hH⟩,?_⟩
  ·simp only [qe (show nn i<2^64 by omega)];rw [←Int.natCast_add,qe (show iO nn i+nn i<2^64 by omega)];rfl
  ·simp only [ah,aiS];omega
 have wM:i=k:=by omega
 subst wM;rw [←hN]at K9 ⊢;refine⟨by omega,fun _=>?_⟩;intro b2;refine⟨by omega,fun _=>?_⟩;intro u8;have hqN:N=64*q+r:=by omega
 rw [tr r];refine⟨fun e=> ∃k:Nat,r+1≤k∧k+8+64*q≤tO N∧e.i=[(k:Int)]∧∀j,j<k→(e.a.getD 0 fun _=>0) j=iC N M (64*q+j),fun e=>((400:Int) - e.i.getD 0 0).toNat,⟨u8,_,_,rfl,rfl,rfl,fun _ _=>rfl,r+1,by omega,by omega,by rw [Int.natCast_add];rfl,fun j hj=>?_⟩,?_⟩
 ·simp only [ah];unfold ay;by_cases c:j<r
  ·rw [if_neg (by omega)];exact hB j c
  ·have:j=r:=by omega
   subst this;rw [if_pos (by omega),Nat.sub_self];unfold iC;rw [if_neg (by omega),if_pos (by omega)];rfl
 rintro z8 x D ⟨k,Lq,BC,hx,hD⟩;simp only [ai5,and_true]at hx;subst hx;simp only [ah]at hD;have Ow:ak .rem .i64 ((k:Int)+8) 64=(((k+8)%64:Nat):Int):=by rw [show(k:Int)+8=((k+8:Nat):Int) by omega];rfl
 rw [Ow,tr k]
 iterate 3 refine⟨by omega,fun _=>?_⟩
 refine⟨fun dI=>?_,fun heq=>?_⟩
 ·intro b3;refine⟨by omega,fun _=>?_⟩;intro u;refine⟨u,_,_,rfl,rfl,rfl,fun _ _=>rfl,⟨k+1,by omega,by omega,by rw [Int.natCast_add];rfl,fun j hj=>?_⟩,?_⟩
  ·simp only [ah];unfold au;split
   ·rename_i c;unfold iC;rw [if_neg (by omega),if_neg (by omega),if_pos (by omega)]
   ·exact hD j (by omega)
  ·simp only [ah];omega
 have hk:k+8+64*q=tO N:=by omega
 intro u9;refine⟨by omega,fun _=>?_⟩;intro u10;refine⟨fun e=> ∃p:Nat,64*p≤tO N∧e.i=[((tO N - 64*p:Nat):Int)]∧(∀j,j<tO N - 64*p→(e.a.getD 0 fun _=>0) j=iC N M (64*p+j))∧∀j,j<8→(e.a.getD 1 fun _=>0) j=Ff (iC N M) p j,fun e=>(e.i.getD 0 0:Int).toNat,⟨u10,_,_,_,rfl,fun _ _=>rfl,rfl,rfl,fun _ _=>rfl,q,by omega,congrArg (fun z:Int=>[z]) (by omega),fun j hj=>?_,fun j hj=>?_⟩,?_⟩
 ·simp only [ah];unfold ay;by_cases c:j<k
  ·rw [if_neg (by omega)];exact hD j c
  ·rw [if_pos (by omega)];unfold iC;rw [if_neg (by omega),if_neg (by omega),if_neg (by omega)];show Fo (N:Int) (j - k)=_;congr 1;omega
 ·simp only [ah,aiS];exact hH j hj
 rintro YW x E F ⟨p,hp,hx,hE,hF⟩;simp only [ai5,and_true]at hx;subst hx;simp only [ah,aiS]at hE hF;refine⟨by omega,fun _=>⟨fun od=>?_,fun wV=>?_⟩⟩
 ·refine⟨by omega,fun _=>?_⟩;refine⟨_,zw (B:=[bn true YW (tO N - 64*p) E]) b vh vk (aX 1 YW.v 0 64 none) F A1 _ (qS 64 (by omega)),?_⟩;rintro x hs ⟨C,rfl,rfl,hC⟩;refine⟨C,rfl,rfl,by omega,fun _=>⟨by omega,fun _=>?_⟩⟩;intro u;refine⟨u,_,_,_,rfl,fun _ _=>rfl,rfl,rfl,fun _ _=>rfl,⟨p+1,by omega,congrArg (fun z:Int=>[z]) (by omega),fun j hj=>?_,fun j hj=>?_⟩,?_⟩
  ·simp only [ah];unfold aI;rw [hE _ (by omega)];congr 1;omega
  ·simp only [ah,aiS];exact(hC j hj).trans (wk (K':=K4) (H':=Ff (iC N M) p) (B':=fun i=>iC N M (64*p+i)) Dk hF (fun i hi=>by rw [Nat.zero_add];exact hE i (by omega)) j hj)
  ·simp only [ah];omega
 ·have QV:p=(N+8)/64+1:=by omega
  intros
  refine⟨_,rfl,congrArg (fun z=>[z]) ?_⟩;unfold bn oN;rw [bJ (n:=32) (g:=Vq (Ff (iC N M) ((N+8)/64+1)))];intro j hj;rw [←QV];exact R6 hF j hj
theorem O2(vl:V1)(k:Nat)(E:Nat→Int)(nn:Nat→Nat)(X:Nat→Nat→Int)(M:Nat→Int)(p0:HP)(N:Nat)(hN:N=iO nn k)(hX: ∀i,i<k→∀j,j<nn i→X i j=M (iO nn i+j))(hw:p0.wr=false)(hb: ∀i,i<k→ar [p0] (vx (bQ (E i)) (nn i) (X i)))(hk:k≤1000)(hl:N+300≤140737488355328):
  ax aiT 115 [vl.v] [aG false 24 1 vl.v k (aW k [cJ 1 (fun j=>bQ (E j))]),p0] fun r hs=>r=(Value.agg (aj .u8 32 (oN N M)).toArray)∧hs=[]:=by
 refine LM _ (k:Int) E vl p0 ?_;unfold BA;intro b0;refine⟨_,Fm.CQ,?_⟩;rintro x hs ⟨b,vh,vk,A,B,rfl,rfl,hA,hB⟩;refine⟨b,vh,vk,A,B,rfl,rfl,?_⟩;refine⟨_,LO b vh vk vl k E nn X M A B p0 N hN hX hw hb hA hB hk hl,?_⟩;rintro x hs ⟨o,rfl,rfl⟩;exact⟨o,oN N M,rfl,rfl,by rw [ajp,List.append_nil],rfl⟩
theorem LP(vl:V1)(k:Nat)(E:Nat→Int)(nn:Nat→Nat)(X:Nat→Nat→Int)(M:Nat→Int)(p0:HP)(N:Nat)(hN:N=iO nn k)(hX: ∀i,i<k→∀j,j<nn i→X i j=M (iO nn i+j))(hw:p0.wr=false)(hb: ∀i,i<k→ar [p0] (vx (bQ (E i)) (nn i) (X i)))(hk:k≤1000)(hl:N+300≤140737488355328):
  ax aiT 96 [.int .u8 1,vl.v] [aG false 24 1 vl.v k (aW k [cJ 1 (fun j=>bQ (E j))]),p0] fun r hs=> ∃o:V1,r=o.v∧hs=[bn true o 32 (oN N M)]:=by
 refine ax.post (p:=fun r hs=> ∃b0:Nat,r= .slice (some ⟨b0,0,none⟩) 32 32∧hs=[al b0 true (aj .u8 32 (oN N M))]) ?_ ?_;rotate_left
 ·rintro r hs ⟨b0,rfl,rfl⟩;exact⟨_,O0 (by decide),⟨_,rfl⟩,rfl,rfl⟩
 refine HO _ (k:Int) E vl p0 ?_;unfold zq;refine⟨_,O2 vl k E nn X M p0 N hN hX hw hb hk hl,?_⟩;rintro x hs ⟨rfl,rfl⟩;refine⟨oN N M,by rw [ajp,List.append_nil],rfl,fun b0=>⟨b0,rfl,?_⟩⟩;rw [ajp,List.append_nil]
theorem nV{B:List HP}(vl:V1)(R:HP)(ts:List Tx)(hR:ar [R] (aG false 24 1 vl.v ts.length (ts.map fun t=>t.w.v)))(hB: ∀t∈ts,ar B t.hp)(M:Nat→Int)(N:Nat)(hN:N=iO (fun i=>(mo ts i).n) ts.length)(hM: ∀i,i<ts.length→∀j,j<(mo ts i).n→(mo ts i).T j=M (iO (fun i=>(mo ts i).n) i+j))(hk:ts.length≤1000)(hl:N+300≤140737488355328):
  ax aiT 96 [.int .u8 1,vl.v] (R::B) fun r hs=> ∃o:V1,r=o.v∧hs=(R::B)++[bn true o 32 (oN N M)]:=by
 refine zv hB fun E hE=>?_
 have g:=LP vl ts.length E (fun i=>(mo ts i).n) (fun i=>(mo ts i).T) M (flock (ts.map Tx.hp)) N hN hM rfl (fun i hi=>JO hE hi) hk hl;rw [O1 hE]at g;refine ax.post (ax.Hn (A:=[]) (L:=[_,flock (ts.map Tx.hp)]) (B:=R::B) g ?_ (EY (ar.left (B:=[R]) hR) (ar.right (A:=[R]) (mN fun x hx=>?_)))) ?_
 ·rintro r hs ⟨o,_,rfl⟩ h hh;simp only [ai0,aiZ,or_false]at hh;subst hh;rfl
 ·obtain⟨t,ht,rfl⟩:=ai_.1 hx;exact hB t ht
 ·rintro r hs ⟨ym,⟨o,rfl,rfl⟩,rfl⟩;exact⟨_,bL.perm List.perm_append_comm,o,rfl,rfl⟩
end Go.RX.Fu

namespace Go.RX.Fm
open Go Go.RX Go.Proofs Go.RX.Sh Go.RX.Fg Go.RX.Fj Go.RX.Fk
theorem AA(k:IntKind)(n:Nat)(c:Int)(A:Nat→Int):aj k (n+1) (fun j=>if j=0 then c else A (j - 1))= .int k c::aj k n A:=by
 unfold aj;rw [List.range_succ_eq_map,ajb,List.map_map];congr 1
theorem wm: ∀(n t:Nat) (acc:Array Value),∃A:Nat→Int,(aju n t acc).toList=acc.toList++aj .u8 n A
 | 0,_,acc=>⟨fun _=>0,by simp [aju,aj]⟩
 | n+1,t,acc=>by
  obtain⟨A,hA⟩:=wm n (t/256) (acc.push (.int .u8 (Int.ofNat (t%256))));refine⟨fun j=>if j=0 then Int.ofNat (t%256)else A (j - 1),?_⟩;rw [aju,hA,AA];simp
theorem Vt{P:Program}(w:World)(ps:Array TypeId)(t e:TypeId)(ht:P.underlying t=some (.slice e))(n:Nat)(hn:n≤140737488355328):
  ∃(m:Nat) (A:Nat→Int),(Extern.BytealgMakeNoZero.makeNoZero ps #[t] #[.int .i64 n]).run P w= .ok (.slice (some ⟨w.heap.size,0,none⟩) n m) (w.drew.drew.alloc (.cells (aj .u8 m A).toArray e))∧n≤m∧m≤maxLen:=by
 have Q2:Extern.BytealgMakeNoZero.makeNoZero ps #[t] #[.int .i64 n]=
   (do
    let .slice elem←underlying t | stuck "bytealg.MakeNoZero: slice type expected"
    if(n:Int)<0||(n:Int)>2^48 then runtimePanic (.error "makeslice: len out of range")
    let cap←choose (.appendCap (n:Int).toNat 0 elem)
    askRoom cap
    let bytes←choose (.extern "internal/bytealg.MakeNoZero.bytes" 0)
    let a←newRow elem (aju cap bytes #[])
    pure (.slice (some a) (n:Int).toNat cap)):=rfl
 obtain⟨A,hA⟩:=wm (grownCap w n 0 e) ((Question.extern "internal/bytealg.MakeNoZero.bytes" 0).cut (w.tape (w.drawn+1) (.extern "internal/bytealg.MakeNoZero.bytes" 0))) #[]
 have hA':aju (grownCap w n 0 e) ((Question.extern "internal/bytealg.MakeNoZero.bytes" 0).cut (w.tape (w.drawn+1) (.extern "internal/bytealg.MakeNoZero.bytes" 0))) #[]=(aj .u8 (grownCap w n 0 e) A).toArray:=by
  apply Array.ext';rw [hA];simp
 refine⟨grownCap w n 0 e,A,?_,grownCap_ge w n 0 e,grownCap_le_maxLen w n 0 e (by unfold maxLen;omega)⟩;rw [Q2];have h1: ¬(n:Int)<0:=by omega
 have h2: ¬(281474976710656:Int)<(n:Int):=by omega
 simp only [grownCap]at hA';simp [run_underlying ht,h1,h2,Question.forced,newRow,grownCap,hA']
theorem Fv(n:Nat)(hn:n≤140737488355328):BQ aiT 143 [.int .i64 (n:Int)] [] fun r hs=> ∃(v:V1) (A:Nat→Int),r=v.v∧hs=[aG true 5 1 v.v n (aW n [bd .u8 1 A])]:=by
 intro w Fs ho;have hu:Tryz.prog.underlying 24=some (.slice 5):=by kernel_rfl
 obtain⟨m,A,hr,To,hm⟩:=Vt (P:=aiT) w #[3] 24 5 hu n hn;refine⟨.slice (some ⟨w.heap.size,0,none⟩) n m,[aG true 5 1 (.slice (some ⟨w.heap.size,0,none⟩) n m) n (aW n [bd .u8 1 A])],w.drew.drew.alloc (.cells (aj .u8 m A).toArray 5),?_,⟨⟨_,rfl⟩,A,rfl,rfl⟩,?_,⟨rfl,rfl,rfl,by simp⟩⟩
 ·rw [run_callFunc_extern Tryz.func143 (by kernel_rfl) (by kernel_rfl) (by kernel_rfl) (e:=Extern.BytealgMakeNoZero.makeNoZero #[3] #[24]) (by kernel_rfl)];rw [show([Value.int .i64 (n:Int)].toArray)= #[.int .i64 (n:Int)]from rfl,hr];rfl
 ·have acv:(w.drew.drew.alloc (.cells (aj .u8 m A).toArray 5)).heap[w.heap.size]? =some (.cells (aj .u8 m A).toArray 5 (0,0)):=heap_alloc_new w.drew.drew _;refine bz.add (a:=[]) ho _ (fun k=>k=w.heap.size∧True) (by simp) (fun k hk=>heap_alloc_old w.drew.drew _ hk) ?_ ?_
  ·refine⟨?_,fun k=>?_⟩
   ·simp only [if_true];rw [iH];refine⟨by rw [aF,Nat.mul_one],.inr ⟨w.heap.size,0,m,_,rfl,⟨5,_,acv,.zero _⟩,To,hm,fun _=>by simp [aF],?_⟩⟩;rw [List.drop_zero,List.toList_toArray,Nat.mul_one,dv .u8 m n A To]
   ·simp [Value.ownBlock,eq_comm]
  ·rintro k ⟨rfl,_⟩;exact⟨Nat.le_refl _,by simp⟩
theorem bL.part{v:V1}{t n m:Nat}{mx:Option Nat}{cs:List Value}(h:m≤n)(Tm: ∀x,mx=some x→m≤x∧x≤n)(hm:0<m):bL [aG true t 1 v.v n cs] [aG true t 1 (aC 1 v.v 0 m mx) m (cs.take m)]:=by
 rintro w Fs ⟨S,hS⟩;have h0:=(hS.at_ 0 _ rfl).1;obtain⟨h1,h2⟩:=h0;simp only [if_true]at h1;obtain⟨hlen,hc⟩:=h1;rcases hc with⟨_,AX⟩ | ⟨g,o,cap,cur,hv,hg,Dg,P4,pL,Dh⟩
 ·omega
 have dB:aC 1 v.v 0 m mx= .slice (some ⟨g,o,none⟩) m (mx.getD cap):=by
  rw [hv];unfold aC;have dI: ¬mx.getD cap=0:=by
   cases mx with
   | none=>simp;omega
   | some x=>have:=Tm x rfl;simp;omega
  simp only [Nat.zero_mul,if_neg dI,ajI,Nat.sub_zero];rfl
 have acw:m≤mx.getD cap∧mx.getD cap≤cap:=by
  cases mx with
  | none=>simp;omega
  | some x=>have:=Tm x rfl;simp;omega
 refine bz.weaken (a:=[aG true t 1 v.v n cs]) hS 0 _ _ rfl (fun _=>rfl) (fun k=>k=g) (fun k hk=>?_) ⟨?_,fun k=>?_⟩
 ·exact(h2 k).2 ⟨by rw [hv,hk];rfl,.inl rfl⟩
 ·simp only [if_true];rw [dB];refine⟨by rw [List.length_take];omega,.inr ⟨g,o,mx.getD cap,cur,rfl,hg,acw.1,by omega,fun _=>by have:=pL (by omega);omega,?_⟩⟩;rw [←Dh,List.take_take,Nat.mul_one,Nat.mul_one,Nat.min_eq_left h]
 ·rw [dB];simp [Value.ownBlock,eq_comm]
theorem fk{A:Nat→Int}{x:Int}(n:Nat)(h: ∀j,j<n→A j=x)(j:Nat)(hj:j<n+n):ay A n n A j=x:=by
 unfold ay;split
 ·exact h _ (by omega)
 ·exact h j (by omega)
theorem FA(v0:V1)(A0:Nat→Int):ax aiT 118 [v0.v,.int .i64 64] [aG false 5 1 v0.v 1 (aW 1 [bd .u8 1 A0])] fun r hs=> ∃o:V1,r=o.v∧hs=[aG true 5 1 o.v 64 (aW 64 [bd .u8 1 fun _=>A0 0])]:=by
 refine ax.post (p:=fun r hs=> ∃(v:V1) (F:Nat→Int),r=aC 1 v.v 0 64 (some 64)∧hs=[aG true 5 1 v.v 64 (aW 64 [bd .u8 1 F])]∧∀j,j<64→F j=A0 0) ?_ ?_;rotate_left
 ·rintro r hs ⟨v,F,rfl,rfl,hF⟩;refine⟨_,bL.part (m:=64) (mx:=some 64) (Nat.le_refl _) (fun x hx=>by cases hx;omega) (by decide),⟨_,aX 1 v.v 0 64 (some 64)⟩,rfl,?_⟩;rw [bJ hF,iH,dv .u8 64 64 _ (Nat.le_refl _)]
 refine J_ _ A0 v0 ?_;unfold AH;refine⟨_,Fv 64 (by decide),?_⟩;rintro x hs ⟨v1,A1,rfl,rfl⟩;refine⟨v1,64,A1,rfl,rfl,by omega,fun _=>⟨v1,_,rfl,rfl,?_⟩⟩;refine fk 32 (fk 16 (fk 8 (fk 4 (fk 2 (fk 1 fun j hj=>?_)))));have:j=0:=by omega
 subst this;rfl
theorem tQ{B:List HP}{x:Value}(hx:x.oneCell'=true)(w:Nat)(h:ar B (aH x 1 fun _=>w)):ax aiT 118 [x,.int .i64 64] B fun r hs=> ∃o:V1,r=o.v∧hs=B++[aq true o 64 fun _=>w]:=
 kE (FA ⟨x,hx⟩ fun _=>(w:Int)) (iB h)
theorem LQ(v0:V1)(K:Nat→Nat)(hK: ∀j,K j<256)(w:Nat)(hw:w<256):ax aiT 97 [.int .u8 1,v0.v,.int .u8 (w:Int)] [aq false v0 32 K] fun r hs=> ∃o:V1,r=o.v∧hs=[aq true o 64 (kG 32 K w)]:=by
 refine GH _ (w:Int) (fun j=>(K j:Nat)) v0 ?_;unfold xw;intro b0;have hb:ar [al b0 true [.int .u8 (w:Int)]] (aH (.slice (some ⟨b0,0,none⟩) 1 1) 1 fun _=>w):=
  ar.block (b:=b0) (n:=1) (m:=1) (wr:=true) (A:=fun _=>(w:Int)) (T:=fun _=>w) (fun _ _=>rfl) (Nat.le_refl _)
 refine⟨_,tQ rfl w hb,?_⟩;rintro x hs ⟨v1,rfl,rfl⟩;refine⟨v1,64,fun _=>(w:Int),rfl,rfl,?_⟩;refine⟨fun e=> ∃i:Nat,i≤32∧e.i=[(i:Int)]∧∀j,j<64→(e.a.getD 0 fun _=>0) j=(kG i K w j:Nat),fun e=>((32:Int) - e.i.getD 0 0).toNat,⟨0,_,rfl,fun _ _=>rfl,0,by omega,rfl,fun j hj=>?_⟩,?_⟩
 ·simp only [ah];unfold kG;rw [if_neg (by omega),Nat.zero_xor]
 rintro x2 A2 ⟨i,hi,hx,hA⟩;simp only [ai5,and_true]at hx;subst hx;simp only [ah]at hA;refine⟨fun bX=>?_,fun jI=>?_⟩
 ·iterate 4 refine⟨by omega,fun _=>?_⟩
  refine⟨_,_,rfl,fun _ _=>rfl,⟨i+1,by omega,rfl,fun j hj=>?_⟩,?_⟩
  ·have hj:j<64:=hj;simp only [ah];rw [aiX];unfold au;split
   ·rename_i e;subst e;rw [hA j hj,Fe.cF (CO hK hw _ _) (hK _)];unfold kG;rw [if_neg (by omega),if_pos (by omega),Nat.zero_xor,ajr]
   ·rename_i e;rw [hA j hj];unfold kG;by_cases c:j<i
    ·rw [if_pos c,if_pos (by omega)]
    ·rw [if_neg c,if_neg (by omega)]
  ·simp only [ah];omega
 ·have h32:i=32:=by omega
  subst h32;refine⟨v1,rfl,?_⟩;show [aG true 5 1 v1.v 64 (aW 64 [bd .u8 1 A2])]=_;unfold aq;rw [bJ hA]
theorem BD{B:List HP}{x:Value}(hx:x.oneCell'=true)(K:Nat→Nat)(hK: ∀j,K j<256)(w:Nat)(hw:w<256)(h:ar B (aH x 32 K)):ax aiT 97 [.int .u8 1,x,.int .u8 (w:Int)] B fun r hs=> ∃o:V1,r=o.v∧hs=B++[aq true o 64 (kG 32 K w)]:=
 kE (LQ ⟨x,hx⟩ K hK w hw) (iB h)
theorem kH{n:Nat}(s:Nat)(hs:s≤64):ae .u8 (ak .shr .i64 (n:Int) (s:Int))=((n/2^s%256:Nat):Int):=by
 rw [fJ .i64 n s hs,wrap_u8,Nat.shiftRight_eq_div_pow]
theorem O3(n:Nat):ax aiT 65 [.int .i64 (n:Int)] [] fun r hs=> ∃o:V1,r=o.v∧hs=[aq true o 8 (fi n)]:=by
 refine ax.post (p:=fun r hs=> ∃o:V1,r=o.v∧hs[1]? =some (aq true o 8 (fi n))) ?_ ?_;rotate_left
 ·rintro r hs ⟨o,rfl,h⟩;exact⟨_,bL.JE 1 h,o,rfl,rfl⟩
 refine W6 _ (n:Int) ?_;unfold S8
 intros
 rename_i v7;refine⟨v7,rfl,congrArg some ?_⟩;unfold aq;refine congrArg (aG true 5 1 v7.v 8) (bJ fun j hj=>?_);unfold fi
 match j,hj with
 | 0,_=>exact kH 56 (by decide)
 | 1,_=>exact kH 48 (by decide)
 | 2,_=>exact kH 40 (by decide)
 | 3,_=>exact kH 32 (by decide)
 | 4,_=>exact kH 24 (by decide)
 | 5,_=>exact kH 16 (by decide)
 | 6,_=>exact kH 8 (by decide)
 | 7,_=>exact kH 0 (by decide)
 | j+8,h=>exact absurd h (by omega)
theorem jA{B:List HP}(n:Nat):ax aiT 65 [.int .i64 (n:Int)] B fun r hs=> ∃o:V1,r=o.v∧hs=B++[aq true o 8 (fi n)]:=
 kE (O3 n) (by simp)
open Go Go.RX Go.Proofs Go.RX.Sh Go.RX.Fg Go.RX.Fj Go.RX.Fk Go.RX.Fu
theorem bL.front{A a b:List HP}(h:bL a b):bL (A++a) (A++b):=by
 refine bL.trans (bL.perm List.perm_append_comm) (bL.trans ?_ (bL.perm List.perm_append_comm));intro w Fs o;rw [ajs]at o ⊢;exact h w (A++Fs) o
theorem CR{B:List HP}(b1:Nat){x0 x1:Value}(h0:x0.oneCell'=true)(h1:x1.oneCell'=true)(n0 n1:Nat)(T0 T1 M:Nat→Nat)(_: ∀j,M j<256)(Vu: ∀j,j<n0→T0 j=M (0+j))(Vv: ∀j,j<n1→T1 j=M (n0+j))(hl:n0+n1+300≤140737488355328)(g0:ar B (aH x0 n0 T0))(g1:ar B (aH x1 n1 T1)):
  ax aiT 96 [.int .u8 1,.slice (some ⟨b1,0,none⟩) 2 2] ([al b1 true [x0,x1]]++B) fun r hs=> ∃o:V1,r=o.v∧hs=[al b1 true [x0,x1]]++B++[aq true o 32 (qg (n0+n1) M)]:=by
 refine ax.post (nV (B:=B) ⟨.slice (some ⟨b1,0,none⟩) 2 2,rfl⟩ (al b1 true [x0,x1]) [⟨⟨x0,h0⟩,n0,fun j=>((T0 j:Nat):Int)⟩,⟨⟨x1,h1⟩,n1,fun j=>((T1 j:Nat):Int)⟩] (ar.row (lo:=0) (Nat.le_refl 2) (Nat.le_refl 2)) ?_ (fun j=>((M j:Nat):Int)) (n0+n1) ?_ ?_ (by simp) (by omega)) ?_
 ·intro t ht;simp only [ai0,aiZ,or_false]at ht;rcases ht with rfl | rfl
  ·exact g0
  ·exact g1
 ·show n0+n1=0+n0+n1;omega
 ·intro i hi j hj
  match i,hi,hj with
  | 0,_,hj=>exact congrArg (fun z:Nat=>(z:Int)) ((Vu j hj).trans (congrArg M (by show 0+j=0+j;omega)))
  | 1,_,hj=>exact congrArg (fun z:Nat=>(z:Int)) ((Vv j hj).trans (congrArg M (by show n0+j=0+n0+j;omega)))
  | i+2,hi,_=>exact absurd hi (by simp)
 ·rintro r hs ⟨o,hr,rfl⟩;refine⟨_,bL.refl _,o,hr,?_⟩;unfold aq;rw [Bx];rfl
theorem CS{B:List HP}(vl:V1){x0 x1 x2 x3 x4 x5 x6:Value}(h0:x0.oneCell'=true)(h1:x1.oneCell'=true)(h2:x2.oneCell'=true)(h3:x3.oneCell'=true)(h4:x4.oneCell'=true)(h5:x5.oneCell'=true)(h6:x6.oneCell'=true)(n0 n1 n2 n3 n4 n5 n6:Nat)(T0 T1 T2 T3 T4 T5 T6 M:Nat→Nat)(_: ∀j,M j<256)(Vu: ∀j,j<n0→T0 j=M (0+j))(Vv: ∀j,j<n1→T1 j=M (n0+j))(Vw: ∀j,j<n2→T2 j=M (n0+n1+j))(YX: ∀j,j<n3→T3 j=M (n0+n1+n2+j))(YY: ∀j,j<n4→T4 j=M (n0+n1+n2+n3+j))(YZ: ∀j,j<n5→T5 j=M (n0+n1+n2+n3+n4+j))(hT6: ∀j,j<n6→T6 j=M (n0+n1+n2+n3+n4+n5+j))(hl:n0+n1+n2+n3+n4+n5+n6+300≤140737488355328)(g0:ar B (aH x0 n0 T0))(g1:ar B (aH x1 n1 T1))(g2:ar B (aH x2 n2 T2))(g3:ar B (aH x3 n3 T3))(g4:ar B (aH x4 n4 T4))(g5:ar B (aH x5 n5 T5))(g6:ar B (aH x6 n6 T6)):
  ax aiT 96 [.int .u8 1,vl.v] ([aG true 24 1 vl.v 7 [x0,x1,x2,x3,x4,x5,x6]]++B) fun r hs=> ∃o:V1,r=o.v∧hs=[aG true 24 1 vl.v 7 [x0,x1,x2,x3,x4,x5,x6]]++B++[aq true o 32 (qg (n0+n1+n2+n3+n4+n5+n6) M)]:=by
 refine ax.post (nV (B:=B) vl (aG true 24 1 vl.v 7 [x0,x1,x2,x3,x4,x5,x6]) [⟨⟨x0,h0⟩,n0,fun j=>((T0 j:Nat):Int)⟩,⟨⟨x1,h1⟩,n1,fun j=>((T1 j:Nat):Int)⟩,⟨⟨x2,h2⟩,n2,fun j=>((T2 j:Nat):Int)⟩,⟨⟨x3,h3⟩,n3,fun j=>((T3 j:Nat):Int)⟩,⟨⟨x4,h4⟩,n4,fun j=>((T4 j:Nat):Int)⟩,⟨⟨x5,h5⟩,n5,fun j=>((T5 j:Nat):Int)⟩,⟨⟨x6,h6⟩,n6,fun j=>((T6 j:Nat):Int)⟩] ar.own ?_ (fun j=>((M j:Nat):Int)) (n0+n1+n2+n3+n4+n5+n6) ?_ ?_ (by simp) (by omega)) ?_
 ·intro t ht;simp only [ai0,aiZ,or_false]at ht;rcases ht with rfl | rfl | rfl | rfl | rfl | rfl | rfl
  ·exact g0
  ·exact g1
  ·exact g2
  ·exact g3
  ·exact g4
  ·exact g5
  ·exact g6
 ·show n0+n1+n2+n3+n4+n5+n6=0+n0+n1+n2+n3+n4+n5+n6;omega
 ·intro i hi j hj
  match i,hi,hj with
  | 0,_,hj=>exact congrArg (fun z:Nat=>(z:Int)) ((Vu j hj).trans (congrArg M (by show 0+j=0+j;omega)))
  | 1,_,hj=>exact congrArg (fun z:Nat=>(z:Int)) ((Vv j hj).trans (congrArg M (by show n0+j=0+n0+j;omega)))
  | 2,_,hj=>exact congrArg (fun z:Nat=>(z:Int)) ((Vw j hj).trans (congrArg M (by show n0+n1+j=0+n0+n1+j;omega)))
  | 3,_,hj=>exact congrArg (fun z:Nat=>(z:Int)) ((YX j hj).trans (congrArg M (by show n0+n1+n2+j=0+n0+n1+n2+j;omega)))
  | 4,_,hj=>exact congrArg (fun z:Nat=>(z:Int)) ((YY j hj).trans (congrArg M (by show n0+n1+n2+n3+j=0+n0+n1+n2+n3+j;omega)))
  | 5,_,hj=>exact congrArg (fun z:Nat=>(z:Int)) ((YZ j hj).trans (congrArg M (by show n0+n1+n2+n3+n4+j=0+n0+n1+n2+n3+n4+j;omega)))
  | 6,_,hj=>exact congrArg (fun z:Nat=>(z:Int)) ((hT6 j hj).trans (congrArg M (by show n0+n1+n2+n3+n4+n5+j=0+n0+n1+n2+n3+n4+n5+j;omega)))
  | i+7,hi,_=>exact absurd hi (by simp)
 ·rintro r hs ⟨o,hr,rfl⟩;refine⟨_,bL.refl _,o,hr,?_⟩;unfold aq;rw [Bx];rfl
set_option maxHeartbeats 1000000 in
theorem HT(b1:Nat)(w0 w1 w2 w3 w4 w5 vk:V1)(n0 n1 n2 n3 n4 n5:Nat)(T0 T1 T2 T3 T4 T5 M K:Nat→Nat)(hM: ∀j,M j<256)(hK: ∀j,K j<256)(Vu: ∀j,j<n0→T0 j=M (0+j))(Vv: ∀j,j<n1→T1 j=M (n0+j))(Vw: ∀j,j<n2→T2 j=M (n0+n1+j))(YX: ∀j,j<n3→T3 j=M (n0+n1+n2+j))(YY: ∀j,j<n4→T4 j=M (n0+n1+n2+n3+j))(YZ: ∀j,j<n5→T5 j=M (n0+n1+n2+n3+n4+j))(hl:n0+n1+n2+n3+n4+n5+500≤140737488355328):
  ax aiT 64 [.int .u8 1,vk.v,.slice (some ⟨b1,0,none⟩) 6 6] [al b1 true [w0.v,w1.v,w2.v,w3.v,w4.v,w5.v],aq false w0 n0 T0,aq false w1 n1 T1,aq false w2 n2 T2,aq false w3 n3 T3,aq false w4 n4 T4,aq false w5 n5 T5,aq false vk 32 K] fun r hs=> ∃o:V1,r=o.v∧hs=[al b1 true [w0.v,w1.v,w2.v,w3.v,w4.v,w5.v],aq true o 32 (CP 32 K (n0+n1+n2+n3+n4+n5) M)]:=by
 refine Qf _ (n0:Int) (n1:Int) (n2:Int) (n3:Int) (n4:Int) (n5:Int) (fun j=>(T0 j:Nat)) (fun j=>(T1 j:Nat)) (fun j=>(T2 j:Nat)) (fun j=>(T3 j:Nat)) (fun j=>(T4 j:Nat)) (fun j=>(T5 j:Nat)) (fun j=>(K j:Nat)) w0 w1 w2 w3 w4 w5 vk b1 ?_;unfold IA;have Lq:=fun j=>CO hK (w:=54) (by decide) 32 j
 have BC:=fun j=>CO hK (w:=92) (by decide) 32 j
 refine⟨_,BD (B:=[aq false vk 32 K]) vk.one K hK 54 (by decide) (ar.get 0 rfl),?_⟩;rintro x hs ⟨v7,rfl,rfl⟩;refine⟨v7,64,fun j=>(kG 32 K 54 j:Nat),rfl,rfl,?_⟩;intro b2 v8;have e1:qg (64+n0+n1+n2+n3+n4+n5) (fu 64 (kG 32 K 54) M)=qg (64+(n0+n1+n2+n3+n4+n5)) (fu 64 (kG 32 K 54) M):=by rw [show 64+n0+n1+n2+n3+n4+n5=64+(n0+n1+n2+n3+n4+n5) by omega]
 refine⟨_,CS (B:=[aq true v7 64 (kG 32 K 54),aq false w0 n0 T0,aq false w1 n1 T1,aq false w2 n2 T2,aq false w3 n3 T3,aq false w4 n4 T4,aq false w5 n5 T5]) v8 v7.one w0.one w1.one w2.one w3.one w4.one w5.one 64 n0 n1 n2 n3 n4 n5 (kG 32 K 54) T0 T1 T2 T3 T4 T5 (fu 64 (kG 32 K 54) M) (jz Lq hM 64) (fun j hj=>by rw [Nat.zero_add,i_ hj]) (fun j hj=>by rw [Vu j hj];rw [show 64+j=64+(0+j) by omega,bO]) (fun j hj=>by rw [Vv j hj];rw [show 64+n0+j=64+(n0+j) by omega,bO]) (fun j hj=>by rw [Vw j hj];rw [show 64+n0+n1+j=64+(n0+n1+j) by omega,bO]) (fun j hj=>by rw [YX j hj];rw [show 64+n0+n1+n2+j=64+(n0+n1+n2+j) by omega,bO]) (fun j hj=>by rw [YY j hj];rw [show 64+n0+n1+n2+n3+j=64+(n0+n1+n2+n3+j) by omega,bO]) (fun j hj=>by rw [YZ j hj];rw [show 64+n0+n1+n2+n3+n4+j=64+(n0+n1+n2+n3+n4+j) by omega,bO]) (by omega) (ar.get 0 rfl) (ar.get 1 rfl) (ar.get 2 rfl) (ar.get 3 rfl) (ar.get 4 rfl) (ar.get 5 rfl) (ar.get 6 rfl),?_⟩;rintro x hs ⟨v9,rfl,rfl⟩;rw [e1];refine⟨v9,32,fun j=>(qg (64+(n0+n1+n2+n3+n4+n5)) (fu 64 (kG 32 K 54) M) j:Nat),rfl,rfl,?_⟩;refine⟨_,BD (B:=[aq false vk 32 K]) vk.one K hK 92 (by decide) (ar.get 0 rfl),?_⟩;rintro x hs ⟨v10,rfl,rfl⟩;refine⟨v10,64,fun j=>(kG 32 K 92 j:Nat),rfl,rfl,?_⟩;intro b3;refine⟨_,CR (B:=[aq true v10 64 (kG 32 K 92),aq true v9 32 (qg (64+(n0+n1+n2+n3+n4+n5)) (fu 64 (kG 32 K 54) M))]) b3 v10.one v9.one 64 32 (kG 32 K 92) (qg (64+(n0+n1+n2+n3+n4+n5)) (fu 64 (kG 32 K 54) M)) (fu 64 (kG 32 K 92) (qg (64+(n0+n1+n2+n3+n4+n5)) (fu 64 (kG 32 K 54) M))) (jz BC (fun j=>JL _ _ j) 64) (fun j hj=>by rw [Nat.zero_add,i_ hj]) (fun j hj=>by rw [bO]) (by omega) (ar.get 0 rfl) (ar.get 1 rfl),?_⟩;rintro x hs ⟨v11,rfl,rfl⟩;exact⟨v11,32,fun j=>(CP 32 K (n0+n1+n2+n3+n4+n5) M j:Nat),rfl,rfl,v11,rfl,rfl⟩
theorem HU{B:List HP}(b1:Nat){x0 x1 x2 x3 x4 x5 xk:Value}(h0:x0.oneCell'=true)(h1:x1.oneCell'=true)(h2:x2.oneCell'=true)(h3:x3.oneCell'=true)(h4:x4.oneCell'=true)(h5:x5.oneCell'=true)(hk:xk.oneCell'=true)(n0 n1 n2 n3 n4 n5:Nat)(T0 T1 T2 T3 T4 T5 M K:Nat→Nat)(hM: ∀j,M j<256)(hK: ∀j,K j<256)(Vu: ∀j,j<n0→T0 j=M (0+j))(Vv: ∀j,j<n1→T1 j=M (n0+j))(Vw: ∀j,j<n2→T2 j=M (n0+n1+j))(YX: ∀j,j<n3→T3 j=M (n0+n1+n2+j))(YY: ∀j,j<n4→T4 j=M (n0+n1+n2+n3+j))(YZ: ∀j,j<n5→T5 j=M (n0+n1+n2+n3+n4+j))(hl:n0+n1+n2+n3+n4+n5+500≤140737488355328)(g0:ar B (aH x0 n0 T0))(g1:ar B (aH x1 n1 T1))(g2:ar B (aH x2 n2 T2))(g3:ar B (aH x3 n3 T3))(g4:ar B (aH x4 n4 T4))(g5:ar B (aH x5 n5 T5))(gk:ar B (aH xk 32 K)):
  ax aiT 64 [.int .u8 1,xk,.slice (some ⟨b1,0,none⟩) 6 6] ([al b1 true [x0,x1,x2,x3,x4,x5]]++B) fun r hs=> ∃o:V1,r=o.v∧hs=[al b1 true [x0,x1,x2,x3,x4,x5]]++B++[aq true o 32 (CP 32 K (n0+n1+n2+n3+n4+n5) M)]:=by
 have hm:ax aiT 64 [.int .u8 1,xk,.slice (some ⟨b1,0,none⟩) 6 6] ([al b1 true [x0,x1,x2,x3,x4,x5]]++[aH x0 n0 T0,aH x1 n1 T1,aH x2 n2 T2,aH x3 n3 T3,aH x4 n4 T4,aH x5 n5 T5,aH xk 32 K]) fun r hs=> ∃nw,(∃o:V1,r=o.v∧nw=[aq true o 32 (CP 32 K (n0+n1+n2+n3+n4+n5) M)])∧hs=[al b1 true [x0,x1,x2,x3,x4,x5]]++nw:=by
  refine ax.post (HT b1 ⟨x0,h0⟩ ⟨x1,h1⟩ ⟨x2,h2⟩ ⟨x3,h3⟩ ⟨x4,h4⟩ ⟨x5,h5⟩ ⟨xk,hk⟩ n0 n1 n2 n3 n4 n5 T0 T1 T2 T3 T4 T5 M K hM hK Vu Vv Vw YX YY YZ hl) ?_;rintro r hs ⟨o,hr,rfl⟩;exact⟨_,bL.refl _,_,⟨o,hr,rfl⟩,rfl⟩
 refine ax.post (ax.kX hm ?_ ?_ ?_) ?_
 ·intro h hh;simp only [ai0,aiZ,or_false]at hh;subst hh;rfl
 ·rintro v nw ⟨o,_,rfl⟩ h hh;simp only [ai0,aiZ,or_false]at hh;subst hh;rfl
 ·intro h hh;simp only [ai0,aiZ,or_false]at hh;rcases hh with rfl | rfl | rfl | rfl | rfl | rfl | rfl
  ·exact g0
  ·exact g1
  ·exact g2
  ·exact g3
  ·exact g4
  ·exact g5
  ·exact gk
 ·rintro r hs ⟨nw,⟨o,hr,rfl⟩,rfl⟩;exact⟨_,bL.refl _,o,hr,rfl⟩
end Go.RX.Fm

namespace Go.RX.Fq
open Go Go.RX Go.Proofs Go.RX.Sh Go.RX.Fg Go.RX.Fj Go.RX.Fk Go.RX.Fm
theorem BF{b n:Nat}{N:Nat→Int}(hn:n≤140737488355328):bL [al b true (aj .u64 n N)] [eo ⟨.slice (some ⟨b,0,none⟩) n n,rfl⟩ n N]:=by
 rintro w Fs ⟨S,hS⟩;have h0:=(hS.at_ 0 _ rfl).1;have cI:=s8 (t:=24) h0 (by rw [aF];unfold maxLen;omega);rw [aF]at cI;refine bz.weaken (a:=[al b true (aj .u64 n N)]) hS 0 _ _ rfl (fun _=>rfl) (fun k=>k=b) (fun k hk=>?_) ⟨?_,fun k=>?_⟩
 ·exact(h0.1 k).2 hk
 ·simp only [if_true];rw [iH];exact cI
 ·simp [Value.ownBlock,eq_comm]
def BG:List Int:=[7640891576956012808,13503953896175478587,4354685564936845355,11912009170470909681,5840696475078001361,11170449401992604703,2270897969802886507,6620516959819538809]
def CT:List Int:=[4794697086780616226,8158064640168781261,13096744586834688815,16840607885511220156,4131703408338449720,6480981068601479193,10538285296894168987,12329834152419229976,15566598209576043074,1334009975649890238,2608012711638119052,6128411473006802146,8268148722764581231,9286055187155687089,11230858885718282805,13951009754708518548,16472876342353939154,17275323862435702243,1135362057144423861,2597628984639134821,3308224258029322869,5365058923640841347,6679025012923562964,8573033837759648693,10970295158949994411,12119686244451234320,12683024718118986047,13788192230050041572,14330467153632333762,15395433587784984357,489312712824947311,1452737877330783856,2861767655752347644,3322285676063803686,5560940570517711597,5996557281743188959,7280758554555802590,8532644243296465576,9350256976987008742,10552545826968843579,11727347734174303076,12113106623233404929,14000437183269869457,14369950271660146224,15101387698204529176,15463397548674623760,17586052441742319658,1182934255886127544,1847814050463011016,2177327727835720531,2830643537854262169,3796741975233480872,4115178125766777443,5681478168544905931,6601373596472566643,7507060721942968483,8399075790359081724,8693463985226723168,9568029438360202098,10144078919501101548,10430055236837252648,11840083180663258601,13761210420658862357,14299343276471374635,14566680578165727644,15097957966210449927,16922976911328602910,17689382322260857208,500013540394364858,748580250866718886,1242879168328830382,1977374033974150939,2944078676154940804,3659926193048069267,4368137639120453308,4836135668995329356,5532061633213252278,6448918945643986474,6902733635092675308,7801388544844847127]
open Go Go.RX Go.Proofs Go.RX.Sh Go.RX.Fg Go.RX.Fj Go.RX.Fk Go.RX.Fm
abbrev vw(x:Value)(n:Nat)(T:Nat→Int):HP:=aG false 5 1 x n (aW n [bd .u8 1 T])
theorem ar.dD{B:List HP}{md:Bool}{v:V1}{n:Nat}{T:Nat→Int}(i:Nat)(h:B[i]? =some (bn md v n T)):ar B (vw v.v n T):=by
 obtain⟨hl,he⟩:=aiN.1 h;have e:B=B.take i++[bn md v n T]++B.drop (i+1):=by
  rw [ajs,←he];simp
 rw [e];refine ar.mid ?_;cases md
 ·exact ar.self rfl
 ·exact ar.own
section
variable {f:Nat} {args:List Value} {A L B:List HP} {n:Nat} {Q:(Nat→Int)→Prop}
theorem zx(hm:ax aiT f args (A++L) fun r hs=> ∃(o:V1) (N:Nat→Int),Q N∧r=o.v∧hs=A++[bn true o n N])(hA: ∀h∈A,h.wr=true)(hL: ∀h∈L,ar B h):
  ax aiT f args (A++B) fun r hs=> ∃(o:V1) (N:Nat→Int),Q N∧r=o.v∧hs=A++B++[bn true o n N]:=by
 have h:ax aiT f args (A++L) fun r hs=> ∃nw,(∃(o:V1) (N:Nat→Int),Q N∧r=o.v∧nw=[bn true o n N])∧hs=A++nw:=by
  refine ax.post hm ?_;rintro r hs ⟨o,N,hq,hr,rfl⟩;exact⟨_,bL.refl _,_,⟨o,N,hq,hr,rfl⟩,rfl⟩
 refine ax.post (ax.kX h hA ?_ hL) ?_
 ·rintro v nw ⟨o,N,_,_,rfl⟩ h hh;simp only [ai0,aiZ,or_false]at hh;subst hh;rfl
 ·rintro r hs ⟨nw,⟨o,N,hq,hr,rfl⟩,rfl⟩;exact⟨_,bL.refl _,o,N,hq,hr,rfl⟩
theorem CU(hm:ax aiT f args L fun r hs=> ∃(o:V1) (N:Nat→Int),Q N∧r=o.v∧hs=[bn true o n N])(hL: ∀h∈L,ar B h):
  ax aiT f args B fun r hs=> ∃(o:V1) (N:Nat→Int),Q N∧r=o.v∧hs=B++[bn true o n N]:=zx (A:=[]) hm (by simp) hL
end
open Go.RX
def Y0(X:Nat→Int)(t:Int):Int:=(ae .u64 ((ae .u64 ((ae .u64 ((ak .aB .u64 (ak .aB .u64 (ak .bC .u64 (ak .shr .u64 (X (ag (t - 2))) 19) (ak .shl .u64 (X (ag (t - 2))) 45)) (ak .bC .u64 (ak .shr .u64 (X (ag (t - 2))) 61) (ak .shl .u64 (X (ag (t - 2))) 3))) (ak .shr .u64 (X (ag (t - 2))) 6))+(X (ag (t - 7)))))+(ak .aB .u64 (ak .aB .u64 (ak .bC .u64 (ak .shr .u64 (X (ag (t - 15))) 1) (ak .shl .u64 (X (ag (t - 15))) 63)) (ak .bC .u64 (ak .shr .u64 (X (ag (t - 15))) 8) (ak .shl .u64 (X (ag (t - 15))) 56))) (ak .shr .u64 (X (ag (t - 15))) 7))))+(X (ag (t - 16)))))
def nW(B:Nat→Int):Nat→Nat→Int
 | 0=>fun _=>0
 | i+1=>au (nW B i) (i/8) (ak .bC .u64 (ak .shl .u64 (nW B i (i/8)) 8) (ae .u64 (B i)))
def FC(A:Nat→Int):Nat→Nat→Int
 | 0=>A
 | n+1=>au (FC A n) (16+n) (Y0 (FC A n) ((16+n:Nat):Int))
def up5(k w:Int)(v:Nat→Int)(j:Nat):Int:=
 if j=0 then(ae .u64 ((ae .u64 ((ae .u64 ((ae .u64 ((ae .u64 ((v 7)+(ak .aB .u64 (ak .aB .u64 (ak .bC .u64 (ak .shr .u64 (v 4) 14) (ak .shl .u64 (v 4) 50)) (ak .bC .u64 (ak .shr .u64 (v 4) 18) (ak .shl .u64 (v 4) 46))) (ak .bC .u64 (ak .shr .u64 (v 4) 41) (ak .shl .u64 (v 4) 23)))))+(ak .aB .u64 (ak .aM .u64 (v 4) (v 5)) (ak .aM .u64 (ak .aB .u64 18446744073709551615 (v 4)) (v 6)))))+k))+w))+(ae .u64 ((ak .aB .u64 (ak .aB .u64 (ak .bC .u64 (ak .shr .u64 (v 0) 28) (ak .shl .u64 (v 0) 36)) (ak .bC .u64 (ak .shr .u64 (v 0) 34) (ak .shl .u64 (v 0) 30))) (ak .bC .u64 (ak .shr .u64 (v 0) 39) (ak .shl .u64 (v 0) 25)))+(ak .aB .u64 (ak .aB .u64 (ak .aM .u64 (v 0) (v 1)) (ak .aM .u64 (v 0) (v 2))) (ak .aM .u64 (v 1) (v 2)))))))
 else if j=4 then(ae .u64 ((v 3)+(ae .u64 ((ae .u64 ((ae .u64 ((ae .u64 ((v 7)+(ak .aB .u64 (ak .aB .u64 (ak .bC .u64 (ak .shr .u64 (v 4) 14) (ak .shl .u64 (v 4) 50)) (ak .bC .u64 (ak .shr .u64 (v 4) 18) (ak .shl .u64 (v 4) 46))) (ak .bC .u64 (ak .shr .u64 (v 4) 41) (ak .shl .u64 (v 4) 23)))))+(ak .aB .u64 (ak .aM .u64 (v 4) (v 5)) (ak .aM .u64 (ak .aB .u64 18446744073709551615 (v 4)) (v 6)))))+k))+w))))
 else v (j - 1)
def FD(K W v:Nat→Int):Nat→Nat→Int
 | 0=>v
 | a+1=>up5 (K a) (W a) (FD K W v a)
def tR(K H B:Nat→Int)(j:Nat):Int:=ae .u64 (H j+FD K (FC (nW B 128) 64) H 80 j)
def O4(v:Nat→Int)(a:Int):List Int:=[v 0,v 1,v 2,v 3,v 4,v 5,v 6,v 7,a]
theorem LR{X Y:Nat→Int}(h: ∀j,j<80→X j=Y j){n:Nat}(hn:n<80):Y0 X (n:Int)=Y0 Y (n:Int):=by
 unfold Y0;rw [h (ag ((n:Int) - 2)) (by omega),h (ag ((n:Int) - 7)) (by omega),h (ag ((n:Int) - 15)) (by omega),h (ag ((n:Int) - 16)) (by omega)]
theorem wo{B B':Nat→Int}: ∀a,(∀i,i<a→B i=B' i)→nW B a=nW B' a
 | 0,_=>rfl
 | a+1,h=>by rw [nW,nW,wo a fun i hi=>h i (by omega),h a (by omega)]
theorem LS{k w:Int}{v v':Nat→Int}(h: ∀j,j<8→v j=v' j)(j:Nat)(hj:j<8):up5 k w v j=up5 k w v' j:=by
 unfold up5;rw [h 0 (by decide),h 1 (by decide),h 2 (by decide),h 3 (by decide),h 4 (by decide),h 5 (by decide),h 6 (by decide),h 7 (by decide),h (j - 1) (by omega)]
theorem zy{K K' W v v':Nat→Int}(hv: ∀j,j<8→v j=v' j): ∀a,(∀i,i<a→K i=K' i)→∀j,j<8→FD K W v a j=FD K' W v' a j
 | 0,_=>hv
 | a+1,h=>fun j hj=>by
  rw [FD,FD,h a (by omega)];exact LS (zy hv a fun i hi=>h i (by omega)) j hj
theorem wq{K K' H H' B B':Nat→Int}(hK: ∀j,j<80→K j=K' j)(hH: ∀j,j<8→H j=H' j)(hB: ∀j,j<128→B j=B' j)(j:Nat)(hj:j<8):tR K H B j=tR K' H' B' j:=by
 unfold tR;rw [wo 128 hB,hH j hj,zy hH 80 hK j hj]
end Go.RX.Fq
