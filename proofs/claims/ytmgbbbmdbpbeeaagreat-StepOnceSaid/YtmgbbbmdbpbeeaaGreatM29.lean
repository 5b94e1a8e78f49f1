/- A block taken in. -/
import Derived.Test.YtmgbbbmdbpbeeaaGreatM28
open Go.IntKind renaming wrap → ae
open Go.Proofs.Tryz renaming prog → aiT
open Int renaming toNat → ag, toNat_natCast → aiX
open List renaming append_eq → ajp, getD_cons_succ → aiS, getD_cons_zero → ah, mem_cons → ai0, mem_map → ai_, not_mem_nil → aiZ
open List.cons renaming injEq → ai5
namespace Go.RX.Fq
open Go Go.RX Go.Proofs Go.RX.Sh Go.RX.Fg Go.RX.Fj Go.RX.Fk Go.RX.Fm
set_option maxHeartbeats 2000000 in
theorem HV(b:Nat)(vh vk vb:V1)(A0 A1 A2:Nat→Int):
  ax aiT 152 [.pointer (some ⟨b,0,none⟩),vb.v] [qh b vh vk,eo vh 8 A0,eo vk 80 A1,bn false vb 128 A2] fun r hs=> ∃A:Nat→Int,r= .tuple #[]∧hs=[qh b vh vk,eo vh 8 A,eo vk 80 A1]∧∀j,j<8→A j=tR A1 A0 A2 j:=by
 refine HG _ A0 A1 A2 vh vk vb b ?_;unfold zl;intro v3;refine⟨fun e=> ∃a:Nat,a≤128∧e.i=[(a:Int)]∧∀j,j<80→e.a.getD 0 (fun _=>0) j=nW A2 a j,fun e=>(128 - e.i.getD 0 0).toNat,⟨0,fun _=>0,rfl,fun _ _=>rfl,0,by omega,rfl,fun j _=>rfl⟩,?_⟩;rintro x1 A3 ⟨a,ha,hx,hA⟩;simp only [ai5,and_true]at hx;subst hx;simp only [ah]at hA;have hq:=acq (x:=(a:Int)) (by omega) (by omega);refine⟨fun bX=>⟨by rw [hq];omega,fun _=>⟨by rw [hq];omega,fun _=>⟨by omega,fun _=>⟨by omega,fun _=>⟨by omega,fun _=>?_⟩⟩⟩⟩⟩,fun jI=>?_⟩
 ·refine⟨(a:Int)+1,_,rfl,fun _ _=>rfl,⟨a+1,by omega,rfl,fun j hj=>?_⟩,?_⟩
  ·simp only [ah];rw [hq,aiX,aiX,nW];unfold au;by_cases u4:j=a/8
   ·rw [if_pos u4,if_pos u4,hA _ (by omega)]
   ·rw [if_neg u4,if_neg u4];exact hA j hj
  ·simp only [ah];omega
 have haB:a=128:=by omega
 subst haB;refine⟨fun e=> ∃a:Nat,16≤a∧a≤80∧e.i=[(a:Int)]∧∀j,j<80→e.a.getD 0 (fun _=>0) j=FC (nW A2 128) (a - 16) j,fun e=>(80 - e.i.getD 0 0).toNat,⟨16,A3,rfl,fun _ _=>rfl,16,by omega,by omega,rfl,fun j hj=>hA j hj⟩,?_⟩;rintro x2 A4 ⟨a,OX,ha,hx,HI⟩;simp only [ai5,and_true]at hx;subst hx;simp only [ah]at HI;refine⟨fun bX=>?_,fun jI=>?_⟩
 ·iterate 16 refine⟨by omega,fun _=>?_⟩
  intro b1 b2
  iterate 3 refine⟨by omega,fun _=>?_⟩
  refine⟨(a:Int)+1,_,rfl,fun _ _=>rfl,⟨a+1,by omega,by omega,rfl,fun j hj=>?_⟩,?_⟩
  ·simp only [ah];show au A4 (ag (a:Int)) (Y0 A4 (a:Int)) j=_;obtain⟨n,rfl⟩: ∃n,a=16+n:=⟨a - 16,by omega⟩;rw [show 16+n+1 - 16=n+1 by omega,FC];rw [show 16+n - 16=n by omega]at HI;rw [aiX,LR HI (by omega)];unfold au;by_cases u4:j=16+n
   ·rw [if_pos u4,if_pos u4]
   ·rw [if_neg u4,if_neg u4];exact HI j hj
  ·simp only [ah];omega
 have Vs:a=80:=by omega
 subst Vs;intro u8;refine⟨fun e=> ∃a:Nat,a≤80∧e.i=O4 (FD A1 (FC (nW A2 128) 64) A0 a) (a:Int),fun e=>(80 - e.i.getD 8 0).toNat,⟨_,_,_,_,_,_,_,_,0,rfl,rfl,rfl,rfl,rfl,rfl,rfl,rfl,rfl,0,by omega,rfl⟩,?_⟩;rintro x3 x4 x5 x6 x7 x8 x9 bP fm ⟨a,ha,hx⟩;simp only [O4,ai5,and_true]at hx;obtain⟨rfl,rfl,rfl,rfl,rfl,rfl,rfl,rfl,rfl⟩:=hx;refine⟨fun bX=>⟨by omega,fun _=>fun b2 b3=>⟨by omega,fun _=>⟨by omega,fun _=>?_⟩⟩⟩,fun jI=>?_⟩
 ·refine⟨_,_,_,_,_,_,_,_,(a:Int)+1,rfl,rfl,rfl,rfl,rfl,rfl,rfl,rfl,rfl,⟨a+1,by omega,?_⟩,?_⟩
  ·have hw:A4 (ag (a:Int))=FC (nW A2 128) 64 a:=HI a (by omega);rw [hw];rfl
  ·simp only [ah,aiS];omega
 have Vs:a=80:=by omega
 subst Vs;obtain⟨R,hR⟩: ∃R:Nat→Int,R=FD A1 (FC (nW A2 128) 64) A0 80:=⟨_,rfl⟩;have hc: ∀j,tR A1 A0 A2 j=ae .u64 (A0 j+R j):=fun j=>by rw [hR];rfl
 rw [←hR];refine⟨fun e=> ∃a:Nat,a≤8∧e.i=[(a:Int)]∧(∀j,j<8→e.a.getD 1 (fun _=>0) j=R j)∧∀j,j<8→e.a.getD 0 (fun _=>0) j=if j<a then tR A1 A0 A2 j else A0 j,fun e=>(8 - e.i.getD 0 0).toNat,
  ⟨0,A0,_,rfl,fun _ _=>rfl,fun _ _=>rfl,0,by omega,rfl,fun j hj=>?_,fun j hj=>?_⟩,?_⟩
 ·simp only [ah,aiS];unfold au
  match j,hj with
  | 0,_=>rfl
  | 1,_=>rfl
  | 2,_=>rfl
  | 3,_=>rfl
  | 4,_=>rfl
  | 5,_=>rfl
  | 6,_=>rfl
  | 7,_=>rfl
 ·simp only [ah];rw [if_neg (by omega)]
 rintro c6 A5 A6 ⟨a,ha,hx,h6,h5⟩;simp only [ai5,and_true]at hx;subst hx;simp only [ah,aiS]at h6 h5;refine⟨fun bX=>⟨by omega,fun _=>⟨by omega,fun _=>⟨by omega,fun _=>?_⟩⟩⟩,fun jI=>?_⟩
 ·refine⟨(a:Int)+1,_,A6,rfl,fun _ _=>rfl,fun _ _=>rfl,⟨a+1,by omega,rfl,h6,fun j hj=>?_⟩,?_⟩
  ·simp only [ah];rw [aiX];unfold au;by_cases KR:j=a
   ·subst KR;rw [if_pos rfl,if_pos (by omega),h5 j hj,h6 j hj,if_neg (by omega),hc]
   ·rw [if_neg KR,h5 j hj];by_cases c:j<a
    ·rw [if_pos c,if_pos (by omega)]
    ·rw [if_neg c,if_neg (by omega)]
  ·simp only [ah];omega
 have YR:a=8:=by omega
 subst YR;exact⟨A5,rfl,rfl,fun j hj=>by rw [h5 j hj,if_pos hj]⟩
theorem zz{B:List HP}{x:Value}(b:Nat)(vh vk:V1)(hx:x.oneCell'=true)(A0 A1 T:Nat→Int)(hb:ar B (aG false 5 1 x 128 (aW 128 [bd .u8 1 T]))):
  ax aiT 152 [.pointer (some ⟨b,0,none⟩),x] ([qh b vh vk,eo vh 8 A0,eo vk 80 A1]++B)
   fun r hs=> ∃A:Nat→Int,r= .tuple #[]∧hs=[qh b vh vk,eo vh 8 A,eo vk 80 A1]++B∧∀j,j<8→A j=tR A1 A0 T j:=by
 have hm:ax aiT 152 [.pointer (some ⟨b,0,none⟩),x] ([qh b vh vk,eo vh 8 A0,eo vk 80 A1]++[aG false 5 1 x 128 (aW 128 [bd .u8 1 T])]) fun r hs=> ∃A:Nat→Int,r= .tuple #[]∧hs=[qh b vh vk,eo vh 8 A,eo vk 80 A1]∧∀j,j<8→A j=tR A1 A0 T j:=
  HV b vh vk ⟨x,hx⟩ A0 A1 T
 refine ax.post (ax.Hn hm ?_ (iB hb)) ?_
 ·rintro v hs ⟨A,_,rfl,_⟩ h hh;simp only [ai0,aiZ,or_false]at hh;rcases hh with rfl | rfl | rfl<;>rfl
 ·rintro v hs ⟨ym,⟨A,hr,rfl,hA⟩,rfl⟩;exact⟨_,bL.refl _,A,hr,rfl,hA⟩
open Go.RX Go.RX.Fm
def K5(j:Nat):Int:=CT.getD j 0
def FE(M:Nat→Int):Nat→Nat→Int
 | 0=>fun j=>BG.getD j 0
 | q+1=>tR K5 (FE M q) fun i=>M (128*q+i)
def Y1(x:Int):Nat→Int:=(au (au (au (au (au (au (au (au (fun _=>0) 15 (ae .u8 (ak .shr .u64 (ak .shl .u64 x 3) 0))) 14 (ae .u8 (ak .shr .u64 (ak .shl .u64 x 3) 8))) 13 (ae .u8 (ak .shr .u64 (ak .shl .u64 x 3) 16))) 12 (ae .u8 (ak .shr .u64 (ak .shl .u64 x 3) 24))) 11 (ae .u8 (ak .shr .u64 (ak .shl .u64 x 3) 32))) 10 (ae .u8 (ak .shr .u64 (ak .shl .u64 x 3) 40))) 9 (ae .u8 (ak .shr .u64 (ak .shl .u64 x 3) 48))) 8 (ae .u8 (ak .shr .u64 (ak .shl .u64 x 3) 56)))
def tS(n:Nat):Nat:=128*((n+16)/128+1)
def iD(n:Nat)(M:Nat→Int)(j:Nat):Int:=if j<n then M j else if j=n then 128 else if j<tS n - 16 then 0 else Y1 (n:Int) (j - (tS n - 16))
def Vx(S:Nat→Int)(j:Nat):Int:=ae .u8 (ak .shr .u64 (S (j/8)) (56 - 8*((j%8:Nat):Int)))
def qi(n:Nat)(M:Nat→Int):Nat→Int:=Vx (FE (iD n M) ((n+16)/128+1))
theorem O5(n:Nat)(M:Nat→Int):WV (qi n M):=fun _=>qR _
theorem FF{n:Nat}{M M':Nat→Int}(h: ∀j,j<n→M j=M' j):iD n M=iD n M':=by
 funext j;unfold iD;split
 ·rename_i c;exact h j c
 ·rfl
theorem HX{n:Nat}{M M':Nat→Int}(h: ∀j,j<n→M j=M' j):qi n M=qi n M':=by
 unfold qi;rw [FF h]
set_option maxRecDepth 10000 in
theorem R7{F S:Nat→Int}(h: ∀i,i<8→F i=S i)(j:Nat)(hj:j<64):(au (au (au (au (au (au (au (au (au (au (au (au (au (au (au (au (au (au (au (au (au (au (au (au (au (au (au (au (au (au (au (au (au (au (au (au (au (au (au (au (au (au (au (au (au (au (au (au (au (au (au (au (au (au (au (au (au (au (au (au (au (au (au (au (fun _=>0) 0 (ae .u8 (ak .shr .u64 (F 0) 56))) 1 (ae .u8 (ak .shr .u64 (F 0) 48))) 2 (ae .u8 (ak .shr .u64 (F 0) 40))) 3 (ae .u8 (ak .shr .u64 (F 0) 32))) 4 (ae .u8 (ak .shr .u64 (F 0) 24))) 5 (ae .u8 (ak .shr .u64 (F 0) 16))) 6 (ae .u8 (ak .shr .u64 (F 0) 8))) 7 (ae .u8 (ak .shr .u64 (F 0) 0))) 8 (ae .u8 (ak .shr .u64 (F 1) 56))) 9 (ae .u8 (ak .shr .u64 (F 1) 48))) 10 (ae .u8 (ak .shr .u64 (F 1) 40))) 11 (ae .u8 (ak .shr .u64 (F 1) 32))) 12 (ae .u8 (ak .shr .u64 (F 1) 24))) 13 (ae .u8 (ak .shr .u64 (F 1) 16))) 14 (ae .u8 (ak .shr .u64 (F 1) 8))) 15 (ae .u8 (ak .shr .u64 (F 1) 0))) 16 (ae .u8 (ak .shr .u64 (F 2) 56))) 17 (ae .u8 (ak .shr .u64 (F 2) 48))) 18 (ae .u8 (ak .shr .u64 (F 2) 40))) 19 (ae .u8 (ak .shr .u64 (F 2) 32))) 20 (ae .u8 (ak .shr .u64 (F 2) 24))) 21 (ae .u8 (ak .shr .u64 (F 2) 16))) 22 (ae .u8 (ak .shr .u64 (F 2) 8))) 23 (ae .u8 (ak .shr .u64 (F 2) 0))) 24 (ae .u8 (ak .shr .u64 (F 3) 56))) 25 (ae .u8 (ak .shr .u64 (F 3) 48))) 26 (ae .u8 (ak .shr .u64 (F 3) 40))) 27 (ae .u8 (ak .shr .u64 (F 3) 32))) 28 (ae .u8 (ak .shr .u64 (F 3) 24))) 29 (ae .u8 (ak .shr .u64 (F 3) 16))) 30 (ae .u8 (ak .shr .u64 (F 3) 8))) 31 (ae .u8 (ak .shr .u64 (F 3) 0))) 32 (ae .u8 (ak .shr .u64 (F 4) 56))) 33 (ae .u8 (ak .shr .u64 (F 4) 48))) 34 (ae .u8 (ak .shr .u64 (F 4) 40))) 35 (ae .u8 (ak .shr .u64 (F 4) 32))) 36 (ae .u8 (ak .shr .u64 (F 4) 24))) 37 (ae .u8 (ak .shr .u64 (F 4) 16))) 38 (ae .u8 (ak .shr .u64 (F 4) 8))) 39 (ae .u8 (ak .shr .u64 (F 4) 0))) 40 (ae .u8 (ak .shr .u64 (F 5) 56))) 41 (ae .u8 (ak .shr .u64 (F 5) 48))) 42 (ae .u8 (ak .shr .u64 (F 5) 40))) 43 (ae .u8 (ak .shr .u64 (F 5) 32))) 44 (ae .u8 (ak .shr .u64 (F 5) 24))) 45 (ae .u8 (ak .shr .u64 (F 5) 16))) 46 (ae .u8 (ak .shr .u64 (F 5) 8))) 47 (ae .u8 (ak .shr .u64 (F 5) 0))) 48 (ae .u8 (ak .shr .u64 (F 6) 56))) 49 (ae .u8 (ak .shr .u64 (F 6) 48))) 50 (ae .u8 (ak .shr .u64 (F 6) 40))) 51 (ae .u8 (ak .shr .u64 (F 6) 32))) 52 (ae .u8 (ak .shr .u64 (F 6) 24))) 53 (ae .u8 (ak .shr .u64 (F 6) 16))) 54 (ae .u8 (ak .shr .u64 (F 6) 8))) 55 (ae .u8 (ak .shr .u64 (F 6) 0))) 56 (ae .u8 (ak .shr .u64 (F 7) 56))) 57 (ae .u8 (ak .shr .u64 (F 7) 48))) 58 (ae .u8 (ak .shr .u64 (F 7) 40))) 59 (ae .u8 (ak .shr .u64 (F 7) 32))) 60 (ae .u8 (ak .shr .u64 (F 7) 24))) 61 (ae .u8 (ak .shr .u64 (F 7) 16))) 62 (ae .u8 (ak .shr .u64 (F 7) 8))) 63 (ae .u8 (ak .shr .u64 (F 7) 0))) j=Vx S j:=by
 match j,hj with
 | 0,_=>exact congrArg (fun z=>ae .u8 (ak .shr .u64 z 56)) (h 0 (by decide))
 | 1,_=>exact congrArg (fun z=>ae .u8 (ak .shr .u64 z 48)) (h 0 (by decide))
 | 2,_=>exact congrArg (fun z=>ae .u8 (ak .shr .u64 z 40)) (h 0 (by decide))
 | 3,_=>exact congrArg (fun z=>ae .u8 (ak .shr .u64 z 32)) (h 0 (by decide))
 | 4,_=>exact congrArg (fun z=>ae .u8 (ak .shr .u64 z 24)) (h 0 (by decide))
 | 5,_=>exact congrArg (fun z=>ae .u8 (ak .shr .u64 z 16)) (h 0 (by decide))
 | 6,_=>exact congrArg (fun z=>ae .u8 (ak .shr .u64 z 8)) (h 0 (by decide))
 | 7,_=>exact congrArg (fun z=>ae .u8 (ak .shr .u64 z 0)) (h 0 (by decide))
 | 8,_=>exact congrArg (fun z=>ae .u8 (ak .shr .u64 z 56)) (h 1 (by decide))
 | 9,_=>exact congrArg (fun z=>ae .u8 (ak .shr .u64 z 48)) (h 1 (by decide))
 | 10,_=>exact congrArg (fun z=>ae .u8 (ak .shr .u64 z 40)) (h 1 (by decide))
 | 11,_=>exact congrArg (fun z=>ae .u8 (ak .shr .u64 z 32)) (h 1 (by decide))
 | 12,_=>exact congrArg (fun z=>ae .u8 (ak .shr .u64 z 24)) (h 1 (by decide))
 | 13,_=>exact congrArg (fun z=>ae .u8 (ak .shr .u64 z 16)) (h 1 (by decide))
 | 14,_=>exact congrArg (fun z=>ae .u8 (ak .shr .u64 z 8)) (h 1 (by decide))
 | 15,_=>exact congrArg (fun z=>ae .u8 (ak .shr .u64 z 0)) (h 1 (by decide))
 | 16,_=>exact congrArg (fun z=>ae .u8 (ak .shr .u64 z 56)) (h 2 (by decide))
 | 17,_=>exact congrArg (fun z=>ae .u8 (ak .shr .u64 z 48)) (h 2 (by decide))
 | 18,_=>exact congrArg (fun z=>ae .u8 (ak .shr .u64 z 40)) (h 2 (by decide))
 | 19,_=>exact congrArg (fun z=>ae .u8 (ak .shr .u64 z 32)) (h 2 (by decide))
 | 20,_=>exact congrArg (fun z=>ae .u8 (ak .shr .u64 z 24)) (h 2 (by decide))
 | 21,_=>exact congrArg (fun z=>ae .u8 (ak .shr .u64 z 16)) (h 2 (by decide))
 | 22,_=>exact congrArg (fun z=>ae .u8 (ak .shr .u64 z 8)) (h 2 (by decide))
 | 23,_=>exact congrArg (fun z=>ae .u8 (ak .shr .u64 z 0)) (h 2 (by decide))
 | 24,_=>exact congrArg (fun z=>ae .u8 (ak .shr .u64 z 56)) (h 3 (by decide))
 | 25,_=>exact congrArg (fun z=>ae .u8 (ak .shr .u64 z 48)) (h 3 (by decide))
 | 26,_=>exact congrArg (fun z=>ae .u8 (ak .shr .u64 z 40)) (h 3 (by decide))
 | 27,_=>exact congrArg (fun z=>ae .u8 (ak .shr .u64 z 32)) (h 3 (by decide))
 | 28,_=>exact congrArg (fun z=>ae .u8 (ak .shr .u64 z 24)) (h 3 (by decide))
 | 29,_=>exact congrArg (fun z=>ae .u8 (ak .shr .u64 z 16)) (h 3 (by decide))
 | 30,_=>exact congrArg (fun z=>ae .u8 (ak .shr .u64 z 8)) (h 3 (by decide))
 | 31,_=>exact congrArg (fun z=>ae .u8 (ak .shr .u64 z 0)) (h 3 (by decide))
 | 32,_=>exact congrArg (fun z=>ae .u8 (ak .shr .u64 z 56)) (h 4 (by decide))
 | 33,_=>exact congrArg (fun z=>ae .u8 (ak .shr .u64 z 48)) (h 4 (by decide))
 | 34,_=>exact congrArg (fun z=>ae .u8 (ak .shr .u64 z 40)) (h 4 (by decide))
 | 35,_=>exact congrArg (fun z=>ae .u8 (ak .shr .u64 z 32)) (h 4 (by decide))
 | 36,_=>exact congrArg (fun z=>ae .u8 (ak .shr .u64 z 24)) (h 4 (by decide))
 | 37,_=>exact congrArg (fun z=>ae .u8 (ak .shr .u64 z 16)) (h 4 (by decide))
 | 38,_=>exact congrArg (fun z=>ae .u8 (ak .shr .u64 z 8)) (h 4 (by decide))
 | 39,_=>exact congrArg (fun z=>ae .u8 (ak .shr .u64 z 0)) (h 4 (by decide))
 | 40,_=>exact congrArg (fun z=>ae .u8 (ak .shr .u64 z 56)) (h 5 (by decide))
 | 41,_=>exact congrArg (fun z=>ae .u8 (ak .shr .u64 z 48)) (h 5 (by decide))
 | 42,_=>exact congrArg (fun z=>ae .u8 (ak .shr .u64 z 40)) (h 5 (by decide))
 | 43,_=>exact congrArg (fun z=>ae .u8 (ak .shr .u64 z 32)) (h 5 (by decide))
 | 44,_=>exact congrArg (fun z=>ae .u8 (ak .shr .u64 z 24)) (h 5 (by decide))
 | 45,_=>exact congrArg (fun z=>ae .u8 (ak .shr .u64 z 16)) (h 5 (by decide))
 | 46,_=>exact congrArg (fun z=>ae .u8 (ak .shr .u64 z 8)) (h 5 (by decide))
 | 47,_=>exact congrArg (fun z=>ae .u8 (ak .shr .u64 z 0)) (h 5 (by decide))
 | 48,_=>exact congrArg (fun z=>ae .u8 (ak .shr .u64 z 56)) (h 6 (by decide))
 | 49,_=>exact congrArg (fun z=>ae .u8 (ak .shr .u64 z 48)) (h 6 (by decide))
 | 50,_=>exact congrArg (fun z=>ae .u8 (ak .shr .u64 z 40)) (h 6 (by decide))
 | 51,_=>exact congrArg (fun z=>ae .u8 (ak .shr .u64 z 32)) (h 6 (by decide))
 | 52,_=>exact congrArg (fun z=>ae .u8 (ak .shr .u64 z 24)) (h 6 (by decide))
 | 53,_=>exact congrArg (fun z=>ae .u8 (ak .shr .u64 z 16)) (h 6 (by decide))
 | 54,_=>exact congrArg (fun z=>ae .u8 (ak .shr .u64 z 8)) (h 6 (by decide))
 | 55,_=>exact congrArg (fun z=>ae .u8 (ak .shr .u64 z 0)) (h 6 (by decide))
 | 56,_=>exact congrArg (fun z=>ae .u8 (ak .shr .u64 z 56)) (h 7 (by decide))
 | 57,_=>exact congrArg (fun z=>ae .u8 (ak .shr .u64 z 48)) (h 7 (by decide))
 | 58,_=>exact congrArg (fun z=>ae .u8 (ak .shr .u64 z 40)) (h 7 (by decide))
 | 59,_=>exact congrArg (fun z=>ae .u8 (ak .shr .u64 z 32)) (h 7 (by decide))
 | 60,_=>exact congrArg (fun z=>ae .u8 (ak .shr .u64 z 24)) (h 7 (by decide))
 | 61,_=>exact congrArg (fun z=>ae .u8 (ak .shr .u64 z 16)) (h 7 (by decide))
 | 62,_=>exact congrArg (fun z=>ae .u8 (ak .shr .u64 z 8)) (h 7 (by decide))
 | 63,_=>exact congrArg (fun z=>ae .u8 (ak .shr .u64 z 0)) (h 7 (by decide))
 | n+64,hj=>exact absurd hj (by omega)
end Go.RX.Fq

namespace Go.RX.Fu
open Go Go.RX Go.Proofs Go.RX.Sh Go.RX.Fg Go.RX.Fj Go.RX.Fk Go.RX.Fm Go.RX.Fq Go.RX.Fx
theorem Vy:ax aiT 140 [] [] fun r hs=> ∃(b:Nat) (vh vk:V1) (A B:Nat→Int),r= .pointer (some ⟨b,0,none⟩)∧hs=[qh b vh vk,eo vh 8 A,eo vk 80 B]∧(∀j,j<8→A j=BG.getD j 0)∧∀j,j<80→B j=K5 j:=by
 refine ax.post (p:=fun r hs=> ∃b0 b1 b2:Nat,r= .pointer (some ⟨b2,0,none⟩)∧hs=[al b0 true (aj .u64 8 fun j=>BG.getD j 0),al b1 true (aj .u64 80 fun j=>CT.getD j 0),qh b2 ⟨.slice (some ⟨b0,0,none⟩) 8 8,rfl⟩ ⟨.slice (some ⟨b1,0,none⟩) 80 80,rfl⟩]) ?_ ?_;rotate_left
 ·rintro r hs ⟨b0,b1,b2,rfl,rfl⟩;refine⟨_,?_,b2,⟨.slice (some ⟨b0,0,none⟩) 8 8,rfl⟩,⟨.slice (some ⟨b1,0,none⟩) 80 80,rfl⟩,fun j=>BG.getD j 0,fun j=>CT.getD j 0,rfl,rfl,fun _ _=>rfl,fun _ _=>rfl⟩;refine bL.trans (bL.perm (List.reverse_perm _).symm) ?_;refine bL.trans (bL.front (A:=[qh b2 ⟨.slice (some ⟨b0,0,none⟩) 8 8,rfl⟩ ⟨.slice (some ⟨b1,0,none⟩) 80 80,rfl⟩,al b1 true (aj .u64 80 fun j=>CT.getD j 0)]) (BF (by decide))) ?_;refine bL.trans (bL.perm (List.Perm.cons _ (List.Perm.swap _ _ _))) ?_;exact bL.front (A:=[qh b2 ⟨.slice (some ⟨b0,0,none⟩) 8 8,rfl⟩ ⟨.slice (some ⟨b1,0,none⟩) 80 80,rfl⟩,eo ⟨.slice (some ⟨b0,0,none⟩) 8 8,rfl⟩ 8 fun j=>BG.getD j 0]) (BF (by decide))
 refine RZ _ ?_;unfold JK;intro b0 b1 b2;exact⟨b0,b1,b2,rfl,by kernel_rfl⟩
set_option maxHeartbeats 4000000 in
theorem LU(b:Nat)(vh vk vl:V1)(k:Nat)(E:Nat→Int)(nn:Nat→Nat)(X:Nat→Nat→Int)(M A0 A1:Nat→Int)(p0:HP)(N:Nat)(hN:N=iO nn k)(hX: ∀i,i<k→∀j,j<nn i→X i j=M (iO nn i+j))(hw:p0.wr=false)(hb: ∀i,i<k→ar [p0] (vx (bQ (E i)) (nn i) (X i)))
  (wi: ∀j,j<8→A0 j=BG.getD j 0) (Dk: ∀j,j<80→A1 j=K5 j) (hk:k≤1000) (hl:N+600≤140737488355328):
  ax aiT 141 [.pointer (some ⟨b,0,none⟩),vl.v] [qh b vh vk,eo vh 8 A0,eo vk 80 A1,aG false 24 1 vl.v k (aW k [cJ 1 (fun j=>bQ (E j))]),p0] fun r hs=> ∃o:V1,r=o.v∧hs=[bn true o 64 (qi N M)]:=by
 refine LL _ (k:Int) A0 A1 E vh vk vl b p0 ?_;unfold Bz;have M5: ∀j,j<N→iD N M j=M j:=fun j hj=>by unfold iD;rw [if_pos hj]
 have hq:tS N=128*((N+16)/128+1):=rfl;refine⟨by omega,fun _=>?_⟩;refine⟨fun e=> ∃i q r:Nat,i≤k∧128*q+r=iO nn i∧r<128∧e.i=[(r:Int),(iO nn i:Int),(i:Int)]∧(∀j,j<r→(e.a.getD 0 fun _=>0) j=iD N M (128*q+j))∧∀j,j<8→(e.a.getD 1 fun _=>0) j=FE (iD N M) q j,fun e=>((k:Int) - e.i.getD 2 0).toNat,?_,?_⟩
 ·refine⟨_,0,0,0,fun _=>0,A0,rfl,rfl,rfl,fun _ _=>rfl,rfl,rfl,fun _ _=>rfl,0,0,0,by omega,rfl,by omega,rfl,fun j hj=>absurd hj (by omega),fun j hj=>?_⟩;exact wi j hj
 rintro z0 x1 x2 x3 B0 C0 ⟨i,q,r,IK,K9,hr,hx,hB,hH⟩;simp only [ai5,and_true]at hx;obtain⟨rfl,rfl,rfl⟩:=hx;simp only [ah,aiS]at hB hH;have tr: ∀x:Nat,ag (x:Int)=x:=fun _=>rfl
 have hoi:=tP nn IK;refine⟨fun bX=>?_,fun jI=>?_⟩
 ·have HS:i<k:=by omega
  have acs:iO nn i+nn i≤iO nn k:=tP nn (show i+1≤k from HS);rw [tr i];refine⟨fun e=>e.v=[⟨bQ (E i),dV _⟩]∧e.i=[(nn i:Int)]∧e.a=[X i],fun w Fs ho=>?_,?_⟩
  ·refine⟨⟨bQ (E i),dV _⟩,(nn i:Int),X i,?_,rfl,rfl,rfl⟩;rw [qT];exact bL.views (A:=[_]) (B:=[p0]) (L:=[p0,_]) (EY (ar.self hw) (hb i HS)) w Fs ho
  rintro v5 x4 A5 ⟨hv,yM,ha⟩;simp only [ai5,and_true]at hv yM ha;subst hv yM ha;refine⟨by omega,fun _=>?_⟩;refine⟨fun _=>True,fun w Fs ho=>⟨?_,trivial⟩,fun _=>?_⟩
  ·rw [qT]at ho;exact ho
  iterate 3 refine⟨by omega,fun _=>?_⟩
  intro u1;refine⟨fun e=> ∃q r:Nat,128*q+r=iO nn i+nn i∧e.i=[(r:Int)]∧(∀j,j<r→(e.a.getD 0 fun _=>0) j=iD N M (128*q+j))∧∀j,j<8→(e.a.getD 1 fun _=>0) j=FE (iD N M) q j,fun e=>(e.i.getD 0 0:Int).toNat,?_,?_⟩
  ·refine⟨u1,_,_,_,rfl,fun _ _=>rfl,rfl,rfl,fun _ _=>rfl,q,r+nn i,by omega,by rw [Int.natCast_add],fun j hj=>?_,fun j hj=>?_⟩
   ·simp only [ah];rw [tr,tr];unfold ay;by_cases c:j<r
    ·rw [if_neg (by omega)];exact hB j c
    ·rw [if_pos (by omega)];rw [hX i HS _ (by omega),M5 _ (by omega)];congr 1;omega
   ·simp only [ah,aiS];exact hH j hj
  clear hB hH K9 hr;rintro z1 x B1 C1 ⟨q,r,K9,hx,hB,hH⟩;simp only [ai5,and_true]at hx;subst hx;simp only [ah,aiS]at hB hH;refine⟨by omega,fun _=>⟨fun jI=>?_,fun Rz=>?_⟩⟩
  ·refine⟨_,zz (B:=[bn true z1 r B1]) b vh vk (aX 1 z1.v 0 128 none) C1 A1 _ (qS 128 (by omega)),?_⟩;rintro x hs ⟨C,rfl,rfl,hC⟩;refine⟨C,rfl,rfl,by omega,fun _=>⟨by omega,fun _=>?_⟩⟩;intro u;refine⟨u,_,_,_,rfl,fun _ _=>rfl,rfl,rfl,fun _ _=>rfl,⟨q+1,r - 128,by omega,congrArg (fun z:Int=>[z]) (by omega),fun j hj=>?_,fun j hj=>?_⟩,?_⟩
   ·simp only [ah];unfold aI;rw [hB _ (by omega)];congr 1;omega
   ·simp only [ah,aiS];exact(hC j hj).trans (wq (K':=K5) (H':=FE (iD N M) q) (B':=fun i=>iD N M (128*q+i)) Dk hH (fun i hi=>by rw [Nat.zero_add];exact hB i (by omega)) j hj)
   ·simp only [ah];omega
  refine⟨by omega,fun _=>⟨by omega,fun _=>?_⟩⟩;refine⟨fun _=>True,fun w Fs ho=>⟨bL.sub (List.nil_sublist _) w Fs ho,trivial⟩,fun _=>?_⟩;refine⟨z1,_,_,_,_,_,rfl,rfl,rfl,fun _ _=>rfl,rfl,rfl,fun _ _=>rfl,⟨i+1,q,r,by omega,K9,by omega,?_,hB,hH⟩,?_⟩
  ·simp only [qe (show nn i<2^64 by omega)];rw [←Int.natCast_add,qe (show iO nn i+nn i<2^64 by omega)];rfl
  ·simp only [ah,aiS];omega
 have wM:i=k:=by omega
 subst wM;rw [←hN]at K9 ⊢;refine⟨by omega,fun _=>?_⟩;intro b2;refine⟨by omega,fun _=>?_⟩;intro u8;have hqN:N=128*q+r:=by omega
 rw [tr r];refine⟨fun e=> ∃k:Nat,r+1≤k∧k+16+128*q≤tS N∧e.i=[(k:Int)]∧∀j,j<k→(e.a.getD 0 fun _=>0) j=iD N M (128*q+j),fun e=>((400:Int) - e.i.getD 0 0).toNat,⟨u8,_,_,rfl,rfl,rfl,fun _ _=>rfl,r+1,by omega,by omega,by rw [Int.natCast_add];rfl,fun j hj=>?_⟩,?_⟩
 ·simp only [ah];unfold ay;by_cases c:j<r
  ·rw [if_neg (by omega)];exact hB j c
  ·have:j=r:=by omega
   subst this;rw [if_pos (by omega),Nat.sub_self];unfold iD;rw [if_neg (by omega),if_pos (by omega)];rfl
 rintro z8 x D ⟨k,Lq,BC,hx,hD⟩;simp only [ai5,and_true]at hx;subst hx;simp only [ah]at hD;have Ow:ak .rem .i64 ((k:Int)+16) 128=(((k+16)%128:Nat):Int):=by rw [show(k:Int)+16=((k+16:Nat):Int) by omega];rfl
 rw [Ow,tr k]
 iterate 3 refine⟨by omega,fun _=>?_⟩
 refine⟨fun dI=>?_,fun heq=>?_⟩
 ·intro b3;refine⟨by omega,fun _=>?_⟩;intro u;refine⟨u,_,_,rfl,rfl,rfl,fun _ _=>rfl,⟨k+1,by omega,by omega,by rw [Int.natCast_add];rfl,fun j hj=>?_⟩,?_⟩
  ·simp only [ah];unfold au;split
   ·rename_i c;unfold iD;rw [if_neg (by omega),if_neg (by omega),if_pos (by omega)]
   ·exact hD j (by omega)
  ·simp only [ah];omega
 have hk:k+16+128*q=tS N:=by omega
 intro u9;refine⟨by omega,fun _=>?_⟩;intro u10;refine⟨fun e=> ∃p:Nat,128*p≤tS N∧e.i=[((tS N - 128*p:Nat):Int)]∧(∀j,j<tS N - 128*p→(e.a.getD 0 fun _=>0) j=iD N M (128*p+j))∧∀j,j<8→(e.a.getD 1 fun _=>0) j=FE (iD N M) p j,fun e=>(e.i.getD 0 0:Int).toNat,⟨u10,_,_,_,rfl,fun _ _=>rfl,rfl,rfl,fun _ _=>rfl,q,by omega,congrArg (fun z:Int=>[z]) (by omega),fun j hj=>?_,fun j hj=>?_⟩,?_⟩
 ·simp only [ah];unfold ay;by_cases c:j<k
  ·rw [if_neg (by omega)];exact hD j c
  ·rw [if_pos (by omega)];unfold iD;rw [if_neg (by omega),if_neg (by omega),if_neg (by omega)];show Y1 (N:Int) (j - k)=_;congr 1;omega
 ·simp only [ah,aiS];exact hH j hj
 rintro YW x E F ⟨p,hp,hx,hE,hF⟩;simp only [ai5,and_true]at hx;subst hx;simp only [ah,aiS]at hE hF;refine⟨by omega,fun _=>⟨fun od=>?_,fun wV=>?_⟩⟩
 ·refine⟨by omega,fun _=>?_⟩;refine⟨_,zz (B:=[bn true YW (tS N - 128*p) E]) b vh vk (aX 1 YW.v 0 128 none) F A1 _ (qS 128 (by omega)),?_⟩;rintro x hs ⟨C,rfl,rfl,hC⟩;refine⟨C,rfl,rfl,by omega,fun _=>⟨by omega,fun _=>?_⟩⟩;intro u;refine⟨u,_,_,_,rfl,fun _ _=>rfl,rfl,rfl,fun _ _=>rfl,⟨p+1,by omega,congrArg (fun z:Int=>[z]) (by omega),fun j hj=>?_,fun j hj=>?_⟩,?_⟩
  ·simp only [ah];unfold aI;rw [hE _ (by omega)];congr 1;omega
  ·simp only [ah,aiS];exact(hC j hj).trans (wq (K':=K5) (H':=FE (iD N M) p) (B':=fun i=>iD N M (128*p+i)) Dk hF (fun i hi=>by rw [Nat.zero_add];exact hE i (by omega)) j hj)
  ·simp only [ah];omega
 ·have QV:p=(N+16)/128+1:=by omega
  intros
  refine⟨_,rfl,congrArg (fun z=>[z]) ?_⟩;unfold bn qi;rw [bJ (n:=64) (g:=Vx (FE (iD N M) ((N+16)/128+1)))];intro j hj;rw [←QV];exact R7 hF j hj
theorem O6(vl:V1)(k:Nat)(E:Nat→Int)(nn:Nat→Nat)(X:Nat→Nat→Int)(M:Nat→Int)(p0:HP)(N:Nat)(hN:N=iO nn k)(hX: ∀i,i<k→∀j,j<nn i→X i j=M (iO nn i+j))(hw:p0.wr=false)(hb: ∀i,i<k→ar [p0] (vx (bQ (E i)) (nn i) (X i)))(hk:k≤1000)(hl:N+600≤140737488355328):
  ax aiT 116 [vl.v] [aG false 24 1 vl.v k (aW k [cJ 1 (fun j=>bQ (E j))]),p0] fun r hs=>r=(Value.agg (aj .u8 64 (qi N M)).toArray)∧hs=[]:=by
 refine LN _ (k:Int) E vl p0 ?_;unfold BB;intro b0;refine⟨_,Vy,?_⟩;rintro x hs ⟨b,vh,vk,A,B,rfl,rfl,hA,hB⟩;refine⟨b,vh,vk,A,B,rfl,rfl,?_⟩;refine⟨_,LU b vh vk vl k E nn X M A B p0 N hN hX hw hb hA hB hk hl,?_⟩;rintro x hs ⟨o,rfl,rfl⟩;exact⟨o,qi N M,rfl,rfl,by rw [ajp,List.append_nil],rfl⟩
theorem LV(vl:V1)(k:Nat)(E:Nat→Int)(nn:Nat→Nat)(X:Nat→Nat→Int)(M:Nat→Int)(p0:HP)(N:Nat)(hN:N=iO nn k)(hX: ∀i,i<k→∀j,j<nn i→X i j=M (iO nn i+j))(hw:p0.wr=false)(hb: ∀i,i<k→ar [p0] (vx (bQ (E i)) (nn i) (X i)))(hk:k≤1000)(hl:N+600≤140737488355328):
  ax aiT 96 [.int .u8 2,vl.v] [aG false 24 1 vl.v k (aW k [cJ 1 (fun j=>bQ (E j))]),p0] fun r hs=> ∃o:V1,r=o.v∧hs=[bn true o 64 (qi N M)]:=by
 refine ax.post (p:=fun r hs=> ∃b0:Nat,r= .slice (some ⟨b0,0,none⟩) 64 64∧hs=[al b0 true (aj .u8 64 (qi N M))]) ?_ ?_;rotate_left
 ·rintro r hs ⟨b0,rfl,rfl⟩;exact⟨_,O0 (by decide),⟨_,rfl⟩,rfl,rfl⟩
 refine HQ _ (k:Int) E vl p0 ?_;unfold zt;refine⟨_,O6 vl k E nn X M p0 N hN hX hw hb hk hl,?_⟩;rintro x hs ⟨rfl,rfl⟩;refine⟨qi N M,by rw [ajp,List.append_nil],rfl,fun b0=>⟨b0,rfl,?_⟩⟩;rw [ajp,List.append_nil]
theorem u5{B:List HP}(vl:V1)(R:HP)(ts:List Tx)(hR:ar [R] (aG false 24 1 vl.v ts.length (ts.map fun t=>t.w.v)))(hB: ∀t∈ts,ar B t.hp)(M:Nat→Int)(N:Nat)(hN:N=iO (fun i=>(mo ts i).n) ts.length)(hM: ∀i,i<ts.length→∀j,j<(mo ts i).n→(mo ts i).T j=M (iO (fun i=>(mo ts i).n) i+j))(hk:ts.length≤1000)(hl:N+600≤140737488355328):
  ax aiT 96 [.int .u8 2,vl.v] (R::B) fun r hs=> ∃o:V1,r=o.v∧hs=(R::B)++[bn true o 64 (qi N M)]:=by
 refine zv hB fun E hE=>?_
 have g:=LV vl ts.length E (fun i=>(mo ts i).n) (fun i=>(mo ts i).T) M (flock (ts.map Tx.hp)) N hN hM rfl (fun i hi=>JO hE hi) hk hl;rw [O1 hE]at g;refine ax.post (ax.Hn (A:=[]) (L:=[_,flock (ts.map Tx.hp)]) (B:=R::B) g ?_ (EY (ar.left (B:=[R]) hR) (ar.right (A:=[R]) (mN fun x hx=>?_)))) ?_
 ·rintro r hs ⟨o,_,rfl⟩ h hh;simp only [ai0,aiZ,or_false]at hh;subst hh;rfl
 ·obtain⟨t,ht,rfl⟩:=ai_.1 hx;exact hB t ht
 ·rintro r hs ⟨ym,⟨o,rfl,rfl⟩,rfl⟩;exact⟨_,bL.perm List.perm_append_comm,o,rfl,rfl⟩
end Go.RX.Fu

namespace Go.RX.Fq
open Go Go.RX Go.Proofs Go.RX.Sh Go.RX.Fg Go.RX.Fj Go.RX.Fk Go.RX.Fm Go.RX.Fu
def cf(n:Nat)(A B:Nat→Int)(j:Nat):Int:=if j<n then A j else B (j - n)
theorem fW{n:Nat}{A B:Nat→Int}{j:Nat}(h:j<n):cf n A B j=A j:=by unfold cf;rw [if_pos h]
theorem cL(n:Nat)(A B:Nat→Int)(j:Nat):cf n A B (n+j)=B j:=by unfold cf;rw [if_neg (by omega),Nat.add_sub_cancel_left]
theorem wu{B:List HP}(b1:Nat){x0 x1:Value}(h0:x0.oneCell'=true)(h1:x1.oneCell'=true)(n0 n1:Nat)(T0 T1:Nat→Int)(hl:n0+n1+600≤140737488355328)(g0:ar B (vw x0 n0 T0))(g1:ar B (vw x1 n1 T1)):ax aiT 96 [.int .u8 1,.slice (some ⟨b1,0,none⟩) 2 2] ([al b1 true [x0,x1]]++B) fun r hs=> ∃(o:V1) (N:Nat→Int),N=oN (n0+n1) (cf n0 T0 T1)∧r=o.v∧hs=[al b1 true [x0,x1]]++B++[bn true o 32 N]:=by
 refine ax.post (nV (B:=B) ⟨.slice (some ⟨b1,0,none⟩) 2 2,rfl⟩ (al b1 true [x0,x1]) [⟨⟨x0,h0⟩,n0,T0⟩,⟨⟨x1,h1⟩,n1,T1⟩] (ar.row (lo:=0) (Nat.le_refl 2) (Nat.le_refl 2)) ?_ (cf n0 T0 T1) (n0+n1) ?_ ?_ (by simp) (by omega)) ?_
 ·intro t ht;simp only [ai0,aiZ,or_false]at ht;rcases ht with rfl | rfl
  ·exact g0
  ·exact g1
 ·show n0+n1=0+n0+n1;omega
 ·intro i hi j hj
  match i,hi,hj with
  | 0,_,hj=>
   have hj:j<n0:=hj;show T0 j=(cf n0 T0 T1) (0+j);rw [show 0+j=j by omega,fW hj]
  | 1,_,hj=>
   have hj:j<n1:=hj;show T1 j=(cf n0 T0 T1) (0+n0+j);rw [show 0+n0+j=n0+j by omega,cL]
  | i+2,hi,_=>exact absurd hi (by simp)
 ·rintro r hs ⟨o,hr,rfl⟩;exact⟨_,bL.refl _,o,_,rfl,hr,rfl⟩
theorem FG{B:List HP}(vl:V1){x0 x1:Value}(h0:x0.oneCell'=true)(h1:x1.oneCell'=true)(n0 n1:Nat)(T0 T1:Nat→Int)(hl:n0+n1+600≤140737488355328)(g0:ar B (vw x0 n0 T0))(g1:ar B (vw x1 n1 T1)):ax aiT 96 [.int .u8 1,vl.v] ([aG true 24 1 vl.v 2 [x0,x1]]++B) fun r hs=> ∃(o:V1) (N:Nat→Int),N=oN (n0+n1) (cf n0 T0 T1)∧r=o.v∧hs=[aG true 24 1 vl.v 2 [x0,x1]]++B++[bn true o 32 N]:=by
 refine ax.post (nV (B:=B) vl (aG true 24 1 vl.v 2 [x0,x1]) [⟨⟨x0,h0⟩,n0,T0⟩,⟨⟨x1,h1⟩,n1,T1⟩] ar.own ?_ (cf n0 T0 T1) (n0+n1) ?_ ?_ (by simp) (by omega)) ?_
 ·intro t ht;simp only [ai0,aiZ,or_false]at ht;rcases ht with rfl | rfl
  ·exact g0
  ·exact g1
 ·show n0+n1=0+n0+n1;omega
 ·intro i hi j hj
  match i,hi,hj with
  | 0,_,hj=>
   have hj:j<n0:=hj;show T0 j=(cf n0 T0 T1) (0+j);rw [show 0+j=j by omega,fW hj]
  | 1,_,hj=>
   have hj:j<n1:=hj;show T1 j=(cf n0 T0 T1) (0+n0+j);rw [show 0+n0+j=n0+j by omega,cL]
  | i+2,hi,_=>exact absurd hi (by simp)
 ·rintro r hs ⟨o,hr,rfl⟩;exact⟨_,bL.refl _,o,_,rfl,hr,rfl⟩
theorem FH{B:List HP}(vl:V1){x0 x1 x2 x3:Value}(h0:x0.oneCell'=true)(h1:x1.oneCell'=true)(h2:x2.oneCell'=true)(h3:x3.oneCell'=true)(n0 n1 n2 n3:Nat)(T0 T1 T2 T3:Nat→Int)(hl:n0+n1+n2+n3+600≤140737488355328)(g0:ar B (vw x0 n0 T0))(g1:ar B (vw x1 n1 T1))(g2:ar B (vw x2 n2 T2))(g3:ar B (vw x3 n3 T3)):ax aiT 96 [.int .u8 1,vl.v] ([aG true 24 1 vl.v 4 [x0,x1,x2,x3]]++B) fun r hs=> ∃(o:V1) (N:Nat→Int),N=oN (n0+n1+n2+n3) (cf n0 T0 (cf n1 T1 (cf n2 T2 T3)))∧r=o.v∧hs=[aG true 24 1 vl.v 4 [x0,x1,x2,x3]]++B++[bn true o 32 N]:=by
 refine ax.post (nV (B:=B) vl (aG true 24 1 vl.v 4 [x0,x1,x2,x3]) [⟨⟨x0,h0⟩,n0,T0⟩,⟨⟨x1,h1⟩,n1,T1⟩,⟨⟨x2,h2⟩,n2,T2⟩,⟨⟨x3,h3⟩,n3,T3⟩] ar.own ?_ (cf n0 T0 (cf n1 T1 (cf n2 T2 T3))) (n0+n1+n2+n3) ?_ ?_ (by simp) (by omega)) ?_
 ·intro t ht;simp only [ai0,aiZ,or_false]at ht;rcases ht with rfl | rfl | rfl | rfl
  ·exact g0
  ·exact g1
  ·exact g2
  ·exact g3
 ·show n0+n1+n2+n3=0+n0+n1+n2+n3;omega
 ·intro i hi j hj
  match i,hi,hj with
  | 0,_,hj=>
   have hj:j<n0:=hj;show T0 j=(cf n0 T0 (cf n1 T1 (cf n2 T2 T3))) (0+j);rw [show 0+j=j by omega,fW hj]
  | 1,_,hj=>
   have hj:j<n1:=hj;show T1 j=(cf n0 T0 (cf n1 T1 (cf n2 T2 T3))) (0+n0+j);rw [show 0+n0+j=n0+j by omega,cL,fW hj]
  | 2,_,hj=>
   have hj:j<n2:=hj;show T2 j=(cf n0 T0 (cf n1 T1 (cf n2 T2 T3))) (0+n0+n1+j);rw [show 0+n0+n1+j=n0+(n1+j) by omega,cL,cL,fW hj]
  | 3,_,hj=>
   have hj:j<n3:=hj;show T3 j=(cf n0 T0 (cf n1 T1 (cf n2 T2 T3))) (0+n0+n1+n2+j);rw [show 0+n0+n1+n2+j=n0+(n1+(n2+j)) by omega,cL,cL,cL]
  | i+4,hi,_=>exact absurd hi (by simp)
 ·rintro r hs ⟨o,hr,rfl⟩;exact⟨_,bL.refl _,o,_,rfl,hr,rfl⟩
theorem wv{B:List HP}(b1:Nat){x0 x1:Value}(h0:x0.oneCell'=true)(h1:x1.oneCell'=true)(n0 n1:Nat)(T0 T1:Nat→Int)(hl:n0+n1+600≤140737488355328)(g0:ar B (vw x0 n0 T0))(g1:ar B (vw x1 n1 T1)):ax aiT 96 [.int .u8 2,.slice (some ⟨b1,0,none⟩) 2 2] ([al b1 true [x0,x1]]++B) fun r hs=> ∃(o:V1) (N:Nat→Int),N=qi (n0+n1) (cf n0 T0 T1)∧r=o.v∧hs=[al b1 true [x0,x1]]++B++[bn true o 64 N]:=by
 refine ax.post (u5 (B:=B) ⟨.slice (some ⟨b1,0,none⟩) 2 2,rfl⟩ (al b1 true [x0,x1]) [⟨⟨x0,h0⟩,n0,T0⟩,⟨⟨x1,h1⟩,n1,T1⟩] (ar.row (lo:=0) (Nat.le_refl 2) (Nat.le_refl 2)) ?_ (cf n0 T0 T1) (n0+n1) ?_ ?_ (by simp) (by omega)) ?_
 ·intro t ht;simp only [ai0,aiZ,or_false]at ht;rcases ht with rfl | rfl
  ·exact g0
  ·exact g1
 ·show n0+n1=0+n0+n1;omega
 ·intro i hi j hj
  match i,hi,hj with
  | 0,_,hj=>
   have hj:j<n0:=hj;show T0 j=(cf n0 T0 T1) (0+j);rw [show 0+j=j by omega,fW hj]
  | 1,_,hj=>
   have hj:j<n1:=hj;show T1 j=(cf n0 T0 T1) (0+n0+j);rw [show 0+n0+j=n0+j by omega,cL]
  | i+2,hi,_=>exact absurd hi (by simp)
 ·rintro r hs ⟨o,hr,rfl⟩;exact⟨_,bL.refl _,o,_,rfl,hr,rfl⟩
theorem FI{B:List HP}(vl:V1){x0 x1:Value}(h0:x0.oneCell'=true)(h1:x1.oneCell'=true)(n0 n1:Nat)(T0 T1:Nat→Int)(hl:n0+n1+600≤140737488355328)(g0:ar B (vw x0 n0 T0))(g1:ar B (vw x1 n1 T1)):ax aiT 96 [.int .u8 2,vl.v] ([aG true 24 1 vl.v 2 [x0,x1]]++B) fun r hs=> ∃(o:V1) (N:Nat→Int),N=qi (n0+n1) (cf n0 T0 T1)∧r=o.v∧hs=[aG true 24 1 vl.v 2 [x0,x1]]++B++[bn true o 64 N]:=by
 refine ax.post (u5 (B:=B) vl (aG true 24 1 vl.v 2 [x0,x1]) [⟨⟨x0,h0⟩,n0,T0⟩,⟨⟨x1,h1⟩,n1,T1⟩] ar.own ?_ (cf n0 T0 T1) (n0+n1) ?_ ?_ (by simp) (by omega)) ?_
 ·intro t ht;simp only [ai0,aiZ,or_false]at ht;rcases ht with rfl | rfl
  ·exact g0
  ·exact g1
 ·show n0+n1=0+n0+n1;omega
 ·intro i hi j hj
  match i,hi,hj with
  | 0,_,hj=>
   have hj:j<n0:=hj;show T0 j=(cf n0 T0 T1) (0+j);rw [show 0+j=j by omega,fW hj]
  | 1,_,hj=>
   have hj:j<n1:=hj;show T1 j=(cf n0 T0 T1) (0+n0+j);rw [show 0+n0+j=n0+j by omega,cL]
  | i+2,hi,_=>exact absurd hi (by simp)
 ·rintro r hs ⟨o,hr,rfl⟩;exact⟨_,bL.refl _,o,_,rfl,hr,rfl⟩
theorem FJ{B:List HP}(vl:V1){x0 x1 x2 x3:Value}(h0:x0.oneCell'=true)(h1:x1.oneCell'=true)(h2:x2.oneCell'=true)(h3:x3.oneCell'=true)(n0 n1 n2 n3:Nat)(T0 T1 T2 T3:Nat→Int)(hl:n0+n1+n2+n3+600≤140737488355328)(g0:ar B (vw x0 n0 T0))(g1:ar B (vw x1 n1 T1))(g2:ar B (vw x2 n2 T2))(g3:ar B (vw x3 n3 T3)):ax aiT 96 [.int .u8 2,vl.v] ([aG true 24 1 vl.v 4 [x0,x1,x2,x3]]++B) fun r hs=> ∃(o:V1) (N:Nat→Int),N=qi (n0+n1+n2+n3) (cf n0 T0 (cf n1 T1 (cf n2 T2 T3)))∧r=o.v∧hs=[aG true 24 1 vl.v 4 [x0,x1,x2,x3]]++B++[bn true o 64 N]:=by
 refine ax.post (u5 (B:=B) vl (aG true 24 1 vl.v 4 [x0,x1,x2,x3]) [⟨⟨x0,h0⟩,n0,T0⟩,⟨⟨x1,h1⟩,n1,T1⟩,⟨⟨x2,h2⟩,n2,T2⟩,⟨⟨x3,h3⟩,n3,T3⟩] ar.own ?_ (cf n0 T0 (cf n1 T1 (cf n2 T2 T3))) (n0+n1+n2+n3) ?_ ?_ (by simp) (by omega)) ?_
 ·intro t ht;simp only [ai0,aiZ,or_false]at ht;rcases ht with rfl | rfl | rfl | rfl
  ·exact g0
  ·exact g1
  ·exact g2
  ·exact g3
 ·show n0+n1+n2+n3=0+n0+n1+n2+n3;omega
 ·intro i hi j hj
  match i,hi,hj with
  | 0,_,hj=>
   have hj:j<n0:=hj;show T0 j=(cf n0 T0 (cf n1 T1 (cf n2 T2 T3))) (0+j);rw [show 0+j=j by omega,fW hj]
  | 1,_,hj=>
   have hj:j<n1:=hj;show T1 j=(cf n0 T0 (cf n1 T1 (cf n2 T2 T3))) (0+n0+j);rw [show 0+n0+j=n0+j by omega,cL,fW hj]
  | 2,_,hj=>
   have hj:j<n2:=hj;show T2 j=(cf n0 T0 (cf n1 T1 (cf n2 T2 T3))) (0+n0+n1+j);rw [show 0+n0+n1+j=n0+(n1+j) by omega,cL,cL,fW hj]
  | 3,_,hj=>
   have hj:j<n3:=hj;show T3 j=(cf n0 T0 (cf n1 T1 (cf n2 T2 T3))) (0+n0+n1+n2+j);rw [show 0+n0+n1+n2+j=n0+(n1+(n2+j)) by omega,cL,cL,cL]
  | i+4,hi,_=>exact absurd hi (by simp)
 ·rintro r hs ⟨o,hr,rfl⟩;exact⟨_,bL.refl _,o,_,rfl,hr,rfl⟩
end Go.RX.Fq
