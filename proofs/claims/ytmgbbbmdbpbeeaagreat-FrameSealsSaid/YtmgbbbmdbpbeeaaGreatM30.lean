/- AES. -/
import Derived.Test.YtmgbbbmdbpbeeaaGreatM29
import Derived.Test.YtmgbbbmdbpbeeaaGreatFjF
open Classical renaming not_not → ae6
open Go.IntKind renaming wrap → ae
open Go.Proofs.Tryz renaming prog → ae0
open Int renaming toNat → ag, toNat_natCast → afe
open List renaming append → aeU, append_eq → afq, getD_cons_succ → aeW, getD_cons_zero → ah, getElem?_append_left → ae1, getElem?_append_right → ae2, getElem?_eq_none → afz, getElem?_eq_some_iff → aeV, mem_cons → afd, mem_range → afg, not_mem_nil → ae9
open List.cons renaming injEq → ae8
open Nat renaming eq_of_testBit_eq → afx, lt_of_lt_of_le → ae_, mod_eq_of_lt → afp, mod_lt → afI
namespace Go.RX.Fe
open Go Go.RX Go.Proofs Go.Ae Go.RX.Sh
theorem QL{a b:Nat}(ha:a<256)(hb:b<256):ak .ay .u8 (ak .shl .u8 (ak .ay .u8 (a:Int) (b:Int)) 1) (ae .u8 ((ak .shr .u8 (ak .ay .u8 (a:Int) (b:Int)) 7)*27))=((qO a^^^qO b:Nat):Int):=by
 rw [bP ha hb,BM (aN ha hb),QD a b ha hb]
theorem Wg(a b c d p q:Nat):(a^^^(((a^^^b)^^^c)^^^d))^^^(p^^^q)=p^^^(b^^^q)^^^c^^^d:=by
 refine afx fun i=>?_
 simp only [Nat.testBit_xor];generalize a.testBit i=a,b.testBit i=b,c.testBit i=c,d.testBit i=d,p.testBit i=p,q.testBit i=q
 revert a b c d p q
 decide
theorem QM{a b c d w:Nat}(ha:a<256)(hb:b<256)(hc:c<256)(hd:d<256)(hw:w<256):
  ak .ay .u8 (ak .ay .u8 (ak .ay .u8 (a:Int) (ak .ay .u8 (ak .ay .u8 (ak .ay .u8 (a:Int) (b:Int)) (c:Int)) (d:Int))) (ak .ay .u8 (ak .shl .u8 (ak .ay .u8 (a:Int) (b:Int)) 1) (ae .u8 ((ak .shr .u8 (ak .ay .u8 (a:Int) (b:Int)) 7)*27)))) (w:Int)=(((qO a^^^(b^^^qO b)^^^c^^^d)^^^w:Nat):Int):=by
 have hl:=fun(x:Nat) (h:x<256)=>mF ⟨x,h⟩
 rw [QL ha hb,bP ha hb,bP (aN ha hb) hc,bP (aN (aN ha hb) hc) hd,bP ha (aN (aN (aN ha hb) hc) hd),bP (aN ha (aN (aN (aN ha hb) hc) hd)) (aN (hl _ ha) (hl _ hb)),Wg];exact bP (aN (aN (aN (hl _ ha) (aN hb (hl _ hb))) hc) hd) hw
theorem Wh(a b c d p q:Nat):(b^^^(((a^^^b)^^^c)^^^d))^^^(p^^^q)=p^^^(c^^^q)^^^d^^^a:=by
 refine afx fun i=>?_
 simp only [Nat.testBit_xor];generalize a.testBit i=a,b.testBit i=b,c.testBit i=c,d.testBit i=d,p.testBit i=p,q.testBit i=q
 revert a b c d p q
 decide
theorem QN{a b c d w:Nat}(ha:a<256)(hb:b<256)(hc:c<256)(hd:d<256)(hw:w<256):
  ak .ay .u8 (ak .ay .u8 (ak .ay .u8 (b:Int) (ak .ay .u8 (ak .ay .u8 (ak .ay .u8 (a:Int) (b:Int)) (c:Int)) (d:Int))) (ak .ay .u8 (ak .shl .u8 (ak .ay .u8 (b:Int) (c:Int)) 1) (ae .u8 ((ak .shr .u8 (ak .ay .u8 (b:Int) (c:Int)) 7)*27)))) (w:Int)=(((qO b^^^(c^^^qO c)^^^d^^^a)^^^w:Nat):Int):=by
 have hl:=fun(x:Nat) (h:x<256)=>mF ⟨x,h⟩
 rw [QL hb hc,bP ha hb,bP (aN ha hb) hc,bP (aN (aN ha hb) hc) hd,bP hb (aN (aN (aN ha hb) hc) hd),bP (aN hb (aN (aN (aN ha hb) hc) hd)) (aN (hl _ hb) (hl _ hc)),Wh];exact bP (aN (aN (aN (hl _ hb) (aN hc (hl _ hc))) hd) ha) hw
theorem Wi(a b c d p q:Nat):(c^^^(((a^^^b)^^^c)^^^d))^^^(p^^^q)=p^^^(d^^^q)^^^a^^^b:=by
 refine afx fun i=>?_
 simp only [Nat.testBit_xor];generalize a.testBit i=a,b.testBit i=b,c.testBit i=c,d.testBit i=d,p.testBit i=p,q.testBit i=q
 revert a b c d p q
 decide
theorem QO{a b c d w:Nat}(ha:a<256)(hb:b<256)(hc:c<256)(hd:d<256)(hw:w<256):
  ak .ay .u8 (ak .ay .u8 (ak .ay .u8 (c:Int) (ak .ay .u8 (ak .ay .u8 (ak .ay .u8 (a:Int) (b:Int)) (c:Int)) (d:Int))) (ak .ay .u8 (ak .shl .u8 (ak .ay .u8 (c:Int) (d:Int)) 1) (ae .u8 ((ak .shr .u8 (ak .ay .u8 (c:Int) (d:Int)) 7)*27)))) (w:Int)=(((qO c^^^(d^^^qO d)^^^a^^^b)^^^w:Nat):Int):=by
 have hl:=fun(x:Nat) (h:x<256)=>mF ⟨x,h⟩
 rw [QL hc hd,bP ha hb,bP (aN ha hb) hc,bP (aN (aN ha hb) hc) hd,bP hc (aN (aN (aN ha hb) hc) hd),bP (aN hc (aN (aN (aN ha hb) hc) hd)) (aN (hl _ hc) (hl _ hd)),Wi];exact bP (aN (aN (aN (hl _ hc) (aN hd (hl _ hd))) ha) hb) hw
theorem Wj(a b c d p q:Nat):(d^^^(((a^^^b)^^^c)^^^d))^^^(p^^^q)=p^^^(a^^^q)^^^b^^^c:=by
 refine afx fun i=>?_
 simp only [Nat.testBit_xor];generalize a.testBit i=a,b.testBit i=b,c.testBit i=c,d.testBit i=d,p.testBit i=p,q.testBit i=q
 revert a b c d p q
 decide
theorem QP{a b c d w:Nat}(ha:a<256)(hb:b<256)(hc:c<256)(hd:d<256)(hw:w<256):
  ak .ay .u8 (ak .ay .u8 (ak .ay .u8 (d:Int) (ak .ay .u8 (ak .ay .u8 (ak .ay .u8 (a:Int) (b:Int)) (c:Int)) (d:Int))) (ak .ay .u8 (ak .shl .u8 (ak .ay .u8 (d:Int) (a:Int)) 1) (ae .u8 ((ak .shr .u8 (ak .ay .u8 (d:Int) (a:Int)) 7)*27)))) (w:Int)=(((qO d^^^(a^^^qO a)^^^b^^^c)^^^w:Nat):Int):=by
 have hl:=fun(x:Nat) (h:x<256)=>mF ⟨x,h⟩
 rw [QL hd ha,bP ha hb,bP (aN ha hb) hc,bP (aN (aN ha hb) hc) hd,bP hd (aN (aN (aN ha hb) hc) hd),bP (aN hd (aN (aN (aN ha hb) hc) hd)) (aN (hl _ hd) (hl _ ha)),Wj];exact bP (aN (aN (aN (hl _ hd) (aN ha (hl _ ha))) hb) hc) hw
theorem BO(w:Nat→Int)(e0 e1 e2 e3 e4 e5 e6 e7 e8 e9 XO XP XQ e13 e14 e15:Int)(f:Nat→Nat)(h0:e0=(f 0:Nat))(h1:e1=(f 1:Nat))(h2:e2=(f 2:Nat))(h3:e3=(f 3:Nat))(h4:e4=(f 4:Nat))(h5:e5=(f 5:Nat))(h6:e6=(f 6:Nat))(h7:e7=(f 7:Nat))(h8:e8=(f 8:Nat))(h9:e9=(f 9:Nat))(h10:XO=(f 10:Nat))(h11:XP=(f 11:Nat))(XR:XQ=(f 12:Nat))(XS:e13=(f 13:Nat))(XT:e14=(f 14:Nat))(XU:e15=(f 15:Nat)): ∀k,k<16→aq (aq (aq (aq (aq (aq (aq (aq (aq (aq (aq (aq (aq (aq (aq (aq (w) 0 e0) 1 e1) 2 e2) 3 e3) 4 e4) 5 e5) 6 e6) 7 e7) 8 e8) 9 e9) 10 XO) 11 XP) 12 XQ) 13 e13) 14 e14) 15 e15 k=(f k:Nat):=by
 intro k hk;have:k=0∨k=1∨k=2∨k=3∨k=4∨k=5∨k=6∨k=7∨k=8∨k=9∨k=10∨k=11∨k=12∨k=13∨k=14∨k=15:=by omega
 rcases this with rfl | rfl | rfl | rfl | rfl | rfl | rfl | rfl | rfl | rfl | rfl | rfl | rfl | rfl | rfl | rfl
 ·exact h0
 ·exact h1
 ·exact h2
 ·exact h3
 ·exact h4
 ·exact h5
 ·exact h6
 ·exact h7
 ·exact h8
 ·exact h9
 ·exact h10
 ·exact h11
 ·exact XR
 ·exact XS
 ·exact XT
 ·exact XU
theorem Ip(i n:Nat):ak .quo .i64 (i:Int) (n:Int)=((i/n:Nat):Int):=by
 simp only [ak];rw [Int.tdiv_eq_ediv_of_nonneg (by omega)];omega
theorem TJ(n:Nat)(hn:n<100):ae .i64 (ak .quo .i64 (Int.ofNat (4*(n+7))) 4) - 1=((n+6:Nat):Int):=by
 have:=Ip (4*(n+7)) 4;rw [show ak .quo .i64 (Int.ofNat (4*(n+7))) 4=((n+7:Nat):Int) by rw [show(Int.ofNat (4*(n+7)):Int)=((4*(n+7):Nat):Int)from rfl,show(4:Int)=((4:Nat):Int)from rfl,Ip];omega];rw [tJ .i64 _ (by show(-9223372036854775808:Int)≤_;omega) (by show _≤(9223372036854775807:Int);omega)];omega
theorem ky(n:Nat)(K:Nat→Nat)(r i k:Nat)(hk:k<4):aA (cw n K) (ag ((4*(r:Int)+(i:Int))*4)) k=(W n K (4*r+i) k:Nat):=by
 unfold aA cw;rw [show ag ((4*(r:Int)+(i:Int))*4)=4*(4*r+i) by omega,show(4*(4*r+i)+k)/4=4*r+i by omega,show(4*(4*r+i)+k)%4=k by omega]
theorem Ew(n:Nat)(K:Nat→Nat)(r k:Nat)(hk:k<4):aA (cw n K) (ag ((4*(r:Int))*4)) k=(W n K (4*r) k:Nat):=by
 have:=ky n K r 0 k hk;rw [Int.natCast_zero,Int.add_zero]at this;exact this
theorem Zh(A:Nat→Int)(f:Nat→Nat)(hA: ∀j,j<16→A j=(f j:Nat)): ∀j,j<16→aI (aI (aI (aI (fun _=>0) 0 4 A) 4 4 (aA A 4)) 8 4 (aA A 8)) 12 4 (aA A 12) j=(f j:Nat):=by
 intro j hj;simp only [aI,aA]
 repeat' split
 all_goals (try rw [hA _ (by omega)])
 all_goals (try (congr 2))
 all_goals omega
def Ex(n:Nat)(K B:Nat→Nat)(b:Nat)(v:V1)(x:Value)(hs:List HP):Prop:=x= .agg (al .u8 16 fun j=>(enc n K B j:Nat)).toArray∧hs=[dz b v,gZ v n K]
theorem od(b:Nat)(v:V1)(n:Nat)(hn:0<n)(oN:n<100)(K B:Nat→Nat)(hK: ∀j,K j<256)(hB: ∀j,B j<256):
  aw ae0 112 [.pointer (some ⟨b,0,none⟩),.agg (al .u8 16 fun j=>(B j:Nat)).toArray] [dz b v,gZ v n K] (Ex n K B b v):=by
 have h:=aw.kJ (C:=cx) (bd:={i:=1,a:=3,v:=1,b:=1}) (ρ:={iv:=[Int.ofNat (4*(n+7))],av:=[fun j=>(sb j:Nat),cw n K,fun j=>(B j:Nat)],bv:=[b],vv:=[v]}) FE qz FF Tryz.func112 (by constructor<;>rfl)
  (ar:=fun x hs=>Ex n K B b v x (hs.take 2)) (args:=[.ptr 0 0,.agg [.cE .u8 16 (.aL 2)]]) (hp:=Ia) Na
  (QC ae0 (Ex n K B b v) (Int.ofNat (4*(n+7))) (fun j=>(sb j:Nat)) (cw n K) (fun j=>(B j:Nat)) v b (fun _=>LC.none)) ?_
 ·have hv:SV.vals {iv:=[Int.ofNat (4*(n+7))],av:=[fun j=>(sb j:Nat),cw n K,fun j=>(B j:Nat)],bv:=[b],vv:=[v]} [.ptr 0 0,.agg [.cE .u8 16 (.aL 2)]]=[.pointer (some ⟨b,0,none⟩),.agg (al .u8 16 fun j=>(B j:Nat)).toArray]:=by
   show [_,Value.agg (aeU (al .u8 16 fun j=>(B j:Nat)) []).toArray]=_;rw [afq,List.append_nil];rfl
  rw [hv]at h;exact aw.post h fun x hs hq=>⟨hs.take 2,bX.sub (List.take_sublist 2 hs),hq⟩
 unfold rV;rw [TJ n oN];generalize hx:Int.ofNat (4*(n+7))=x0;have R4:x0=4*((n:Int)+7):=by rw [←hx];show((4*(n+7):Nat):Int)=_;omega
 have hW:=Et n K hK
 repeat (first | (intro _) | (refine⟨by omega,fun _=>?_⟩))
 have x1: ∀i j,i<256→j<256→ak .ay .u8 ((i:Nat):Int) ((j:Nat):Int)=((i^^^j:Nat):Int):=fun i j hi hj=>bP hi hj
 refine⟨fun e=> ∃r:Nat,r<n+7∧e.i.getD 0 0=((r+1:Nat):Int)∧∀j,j<16→(e.a.getD 0 fun _=>0) j=(rs (W n K) (n+6) B r j:Nat),fun e=>((n:Int)+8 - e.i.getD 0 0).toNat,⟨_,_,1,_,rfl,fun _ _=>rfl,rfl,rfl,rfl,rfl,0,by omega,rfl,?_⟩,?_⟩
 ·show∀j,j<16→_;refine BO _ _ _ _ _ _ _ _ _ _ _ _ _ _ _ _ _ _ ?_ ?_ ?_ ?_ ?_ ?_ ?_ ?_ ?_ ?_ ?_ ?_ ?_ ?_ ?_ ?_<;>exact bP (hB _) (hW _ _)
 rintro yX OG x1 A3 ⟨r,hr,h0,hA⟩;simp only [ah]at h0 hA;subst h0;have hs:=Il (W n K) (n+6) B hW hB r;generalize hS:rs (W n K) (n+6) B r=S at*

 have a0:A3 0=(S 0:Nat):=hA 0 (by decide);have l0:=hs 0;have a1:A3 1=(S 1:Nat):=hA 1 (by decide);have l1:=hs 1;have a2:A3 2=(S 2:Nat):=hA 2 (by decide);have l2:=hs 2;have a3:A3 3=(S 3:Nat):=hA 3 (by decide);have l3:=hs 3;have a4:A3 4=(S 4:Nat):=hA 4 (by decide);have l4:=hs 4;have a5:A3 5=(S 5:Nat):=hA 5 (by decide);have l5:=hs 5;have a6:A3 6=(S 6:Nat):=hA 6 (by decide);have l6:=hs 6;have a7:A3 7=(S 7:Nat):=hA 7 (by decide);have l7:=hs 7;have a8:A3 8=(S 8:Nat):=hA 8 (by decide);have l8:=hs 8;have a9:A3 9=(S 9:Nat):=hA 9 (by decide);have l9:=hs 9;have a10:A3 10=(S 10:Nat):=hA 10 (by decide);have l10:=hs 10;have a11:A3 11=(S 11:Nat):=hA 11 (by decide);have l11:=hs 11;have a12:A3 12=(S 12:Nat):=hA 12 (by decide);have l12:=hs 12;have a13:A3 13=(S 13:Nat):=hA 13 (by decide);have l13:=hs 13;have a14:A3 14=(S 14:Nat):=hA 14 (by decide);have l14:=hs 14;have a15:A3 15=(S 15:Nat):=hA 15 (by decide);have l15:=hs 15;have sl: ∀j,sb (S j)<256:=fun j=>iu _ (hs j)
 simp only [a0,a1,a2,a3,a4,a5,a6,a7,a8,a9,a10,a11,a12,a13,a14,a15,afe]
 iterate 3 refine⟨by omega,fun _=>?_⟩
 refine⟨fun bU=>?_,fun bU=>?_⟩
 ·repeat (first | (intro _) | (refine⟨by omega,fun _=>?_⟩))
  refine⟨fun hm=>?_,fun hm=>?_⟩
  ·repeat (first | (intro _) | (refine⟨by omega,fun _=>?_⟩))
   refine⟨_,_,_,_,rfl,fun _ _=>rfl,rfl,rfl,rfl,rfl,⟨r+1,by omega,rfl,?_⟩,?_⟩
   ·show∀j,j<16→_;have nC: ∀i,rs (W n K) (n+6) B (r+1) i=Kk (Gq S) i^^^W n K (4*(r+1)+i/4) (i%4):=fun i=>by rw [rs];simp only [];rw [if_pos (by omega),hS]
    refine BO _ _ _ _ _ _ _ _ _ _ _ _ _ _ _ _ _ _ ?_ ?_ ?_ ?_ ?_ ?_ ?_ ?_ ?_ ?_ ?_ ?_ ?_ ?_ ?_ ?_
    ·rw [nC];rw [Ew n K (r+1) 0 (by decide)];exact QM (sl _) (sl _) (sl _) (sl _) (hW _ _)
    ·rw [nC];rw [Ew n K (r+1) 1 (by decide)];exact QN (sl _) (sl _) (sl _) (sl _) (hW _ _)
    ·rw [nC];rw [Ew n K (r+1) 2 (by decide)];exact QO (sl _) (sl _) (sl _) (sl _) (hW _ _)
    ·rw [nC];rw [Ew n K (r+1) 3 (by decide)];exact QP (sl _) (sl _) (sl _) (sl _) (hW _ _)
    ·rw [nC];rw [show(1:Int)=((1:Nat):Int)from rfl,ky n K (r+1) 1 0 (by decide)];exact QM (sl _) (sl _) (sl _) (sl _) (hW _ _)
    ·rw [nC];rw [show(1:Int)=((1:Nat):Int)from rfl,ky n K (r+1) 1 1 (by decide)];exact QN (sl _) (sl _) (sl _) (sl _) (hW _ _)
    ·rw [nC];rw [show(1:Int)=((1:Nat):Int)from rfl,ky n K (r+1) 1 2 (by decide)];exact QO (sl _) (sl _) (sl _) (sl _) (hW _ _)
    ·rw [nC];rw [show(1:Int)=((1:Nat):Int)from rfl,ky n K (r+1) 1 3 (by decide)];exact QP (sl _) (sl _) (sl _) (sl _) (hW _ _)
    ·rw [nC];rw [show(2:Int)=((2:Nat):Int)from rfl,ky n K (r+1) 2 0 (by decide)];exact QM (sl _) (sl _) (sl _) (sl _) (hW _ _)
    ·rw [nC];rw [show(2:Int)=((2:Nat):Int)from rfl,ky n K (r+1) 2 1 (by decide)];exact QN (sl _) (sl _) (sl _) (sl _) (hW _ _)
    ·rw [nC];rw [show(2:Int)=((2:Nat):Int)from rfl,ky n K (r+1) 2 2 (by decide)];exact QO (sl _) (sl _) (sl _) (sl _) (hW _ _)
    ·rw [nC];rw [show(2:Int)=((2:Nat):Int)from rfl,ky n K (r+1) 2 3 (by decide)];exact QP (sl _) (sl _) (sl _) (sl _) (hW _ _)
    ·rw [nC];rw [show(3:Int)=((3:Nat):Int)from rfl,ky n K (r+1) 3 0 (by decide)];exact QM (sl _) (sl _) (sl _) (sl _) (hW _ _)
    ·rw [nC];rw [show(3:Int)=((3:Nat):Int)from rfl,ky n K (r+1) 3 1 (by decide)];exact QN (sl _) (sl _) (sl _) (sl _) (hW _ _)
    ·rw [nC];rw [show(3:Int)=((3:Nat):Int)from rfl,ky n K (r+1) 3 2 (by decide)];exact QO (sl _) (sl _) (sl _) (sl _) (hW _ _)
    ·rw [nC];rw [show(3:Int)=((3:Nat):Int)from rfl,ky n K (r+1) 3 3 (by decide)];exact QP (sl _) (sl _) (sl _) (sl _) (hW _ _)
   ·simp only [ah];omega
  ·repeat (first | (intro _) | (refine⟨by omega,fun _=>?_⟩))
   refine⟨_,_,_,_,rfl,fun _ _=>rfl,rfl,rfl,rfl,rfl,⟨r+1,by omega,rfl,?_⟩,?_⟩
   ·show∀j,j<16→_;have nC: ∀i,rs (W n K) (n+6) B (r+1) i=Gq S i^^^W n K (4*(r+1)+i/4) (i%4):=fun i=>by rw [rs];simp only [];rw [if_neg (by omega),hS]
    refine BO _ _ _ _ _ _ _ _ _ _ _ _ _ _ _ _ _ _ ?_ ?_ ?_ ?_ ?_ ?_ ?_ ?_ ?_ ?_ ?_ ?_ ?_ ?_ ?_ ?_
    ·rw [nC];rw [Ew n K (r+1) 0 (by decide)];exact bP (sl _) (hW _ _)
    ·rw [nC];rw [Ew n K (r+1) 1 (by decide)];exact bP (sl _) (hW _ _)
    ·rw [nC];rw [Ew n K (r+1) 2 (by decide)];exact bP (sl _) (hW _ _)
    ·rw [nC];rw [Ew n K (r+1) 3 (by decide)];exact bP (sl _) (hW _ _)
    ·rw [nC];rw [show(1:Int)=((1:Nat):Int)from rfl,ky n K (r+1) 1 0 (by decide)];exact bP (sl _) (hW _ _)
    ·rw [nC];rw [show(1:Int)=((1:Nat):Int)from rfl,ky n K (r+1) 1 1 (by decide)];exact bP (sl _) (hW _ _)
    ·rw [nC];rw [show(1:Int)=((1:Nat):Int)from rfl,ky n K (r+1) 1 2 (by decide)];exact bP (sl _) (hW _ _)
    ·rw [nC];rw [show(1:Int)=((1:Nat):Int)from rfl,ky n K (r+1) 1 3 (by decide)];exact bP (sl _) (hW _ _)
    ·rw [nC];rw [show(2:Int)=((2:Nat):Int)from rfl,ky n K (r+1) 2 0 (by decide)];exact bP (sl _) (hW _ _)
    ·rw [nC];rw [show(2:Int)=((2:Nat):Int)from rfl,ky n K (r+1) 2 1 (by decide)];exact bP (sl _) (hW _ _)
    ·rw [nC];rw [show(2:Int)=((2:Nat):Int)from rfl,ky n K (r+1) 2 2 (by decide)];exact bP (sl _) (hW _ _)
    ·rw [nC];rw [show(2:Int)=((2:Nat):Int)from rfl,ky n K (r+1) 2 3 (by decide)];exact bP (sl _) (hW _ _)
    ·rw [nC];rw [show(3:Int)=((3:Nat):Int)from rfl,ky n K (r+1) 3 0 (by decide)];exact bP (sl _) (hW _ _)
    ·rw [nC];rw [show(3:Int)=((3:Nat):Int)from rfl,ky n K (r+1) 3 1 (by decide)];exact bP (sl _) (hW _ _)
    ·rw [nC];rw [show(3:Int)=((3:Nat):Int)from rfl,ky n K (r+1) 3 2 (by decide)];exact bP (sl _) (hW _ _)
    ·rw [nC];rw [show(3:Int)=((3:Nat):Int)from rfl,ky n K (r+1) 3 3 (by decide)];exact bP (sl _) (hW _ _)
   ·simp only [ah];omega
 ·intro _ _ _ _;obtain rfl:r=n+6:=by omega
  refine⟨?_,?_⟩
  ·rw [bF .u8 16 (Zh A3 S hA),afq,List.append_nil,←hS];rfl
  ·rw [←hx];rfl
end Go.RX.Fe

namespace Go.Ae
def vX(B:Nat→Nat):Nat:=B 12*16777216+B 13*65536+B 14*256+B 15
def nx(B:Nat→Nat)(j:Nat):Nat:=if j<12 then B j else(vX B+1)%4294967296/256^(15 - j)%256
def CO(B:Nat→Nat):Nat→(Nat→Nat)
 | 0=>B
 | r+1=>nx (CO B r)
def cS(n:Nat)(K B T:Nat→Nat)(j:Nat):Nat:=T j^^^enc n K (CO B (j/16)) (j%16)
theorem AD(B:Nat→Nat)(hB: ∀j,B j<256)(j:Nat):nx B j<256:=by
 unfold nx;split
 ·exact hB j
 ·exact afI _ (by decide)
theorem yi(B:Nat→Nat)(hB: ∀j,B j<256): ∀r j,CO B r j<256
 | 0,j=>hB j
 | r+1,j=>AD _ (yi B hB r) j
theorem sR(n:Nat)(K B T:Nat→Nat)(hK: ∀j,K j<256)(hB: ∀j,B j<256)(hT: ∀j,T j<256)(j:Nat):cS n K B T j<256:=
 aN (hT j) (rF n K _ hK (yi B hB _) _)
theorem vi(n:Nat)(K B:Nat→Nat){T T':Nat→Nat}{j:Nat}(h:T j=T' j):cS n K B T j=cS n K B T' j:=by
 unfold cS;rw [h]
end Go.Ae

namespace Go.RX.Fg
open Go Go.RX Go.Proofs Go.Ae Go.RX.Sh Go.RX.Fe
theorem iE(k:IntKind)(n:Nat)(f:Nat→Int):al k (n+1) f=al k n f++[.int k (f n)]:=by
 apply List.ext_getElem?;intro j;rw [bu];by_cases h:j<n
 ·rw [if_pos (by omega),ae1 (by rw [aG];exact h),bu,if_pos h]
 ·rw [ae2 (by rw [aG];omega),aG];by_cases h2:j=n
  ·subst h2;rw [if_pos (by omega),Nat.sub_self];rfl
  ·rw [if_neg (by omega),afz (by simp;omega)]
def cb(B:Nat→Nat):Value:= .agg (al .u8 16 fun j=>(B j:Nat)).toArray
theorem QQ(b:Nat)(_:b<256):ae .u8 ((b:Int)+1)=(((b+1)%256:Nat):Int):=by
 rw [show((b:Int)+1)=((b+1:Nat):Int)from rfl,wrap_u8]
theorem R5(B:Nat→Nat):nx B 12=(vX B+1)%4294967296/16777216%256∧nx B 13=(vX B+1)%4294967296/65536%256∧nx B 14=(vX B+1)%4294967296/256%256∧nx B 15=(vX B+1)%4294967296/1%256:=by
 refine⟨?_,?_,?_,?_⟩<;>(unfold nx;rw [if_neg (by decide)])<;>rw [show(256:Nat)^_=_ from by decide]
theorem carry(a b c d n:Nat)(ha:a<256)(hb:b<256)(hc:c<256)(hd:d<256)(hn:n=a*16777216+b*65536+c*256+d):
  (d+1)%256=(n+1)%4294967296/1%256∧
  (¬(d+1)%256=0→c=(n+1)%4294967296/256%256)∧((d+1)%256=0→(c+1)%256=(n+1)%4294967296/256%256)∧
  (¬((d+1)%256=0∧(c+1)%256=0)→b=(n+1)%4294967296/65536%256)∧((d+1)%256=0→(c+1)%256=0→(b+1)%256=(n+1)%4294967296/65536%256)∧
  (¬((d+1)%256=0∧(c+1)%256=0∧(b+1)%256=0)→a=(n+1)%4294967296/16777216%256)∧((d+1)%256=0→(c+1)%256=0→(b+1)%256=0→(a+1)%256=(n+1)%4294967296/16777216%256):=by
 subst hn;refine⟨by omega,by omega,by omega,by omega,by omega,by omega,by omega⟩
theorem eu(B:Nat→Nat)(hB: ∀j,B j<256):aw ae0 87 [cb B] [] fun x hs=>x=cb (nx B)∧hs=[]:=by
 have h:=aw.oa (C:=cx) (bd:={a:=1}) (ρ:={av:=[fun j=>(B j:Nat)]}) FE qz FF Tryz.func87 (by constructor<;>rfl) (fun x=>x=cb (nx B))
  (args:=[.agg [.cE .u8 16 (.aL 0)]]) M5 (Qy ae0 (fun x _=>x=cb (nx B)) (fun j=>(B j:Nat)) (fun _=>LC.none)) ?_
 ·have hv:SV.vals {av:=[fun j=>(B j:Nat)]} [.agg [.cE .u8 16 (.aL 0)]]=[cb B]:=by
   show [Value.agg (aeU (al .u8 16 fun j=>(B j:Nat)) []).toArray]=_;rw [afq,List.append_nil];rfl
  rw [hv]at h;exact h
 unfold rW;have XR:=hB 12;have XS:=hB 13;have XT:=hB 14;have XU:=hB 15;obtain⟨n12,n13,n14,n15⟩:=R5 B;have lo:vX B=B 12*16777216+B 13*65536+B 14*256+B 15:=rfl;have nlo: ∀j,j<12→nx B j=B j:=fun j hj=>by unfold nx;rw [if_pos hj]
 have Zi: ∀j,j<12→((B j:Nat):Int)=(nx B j:Nat):=fun j hj=>by rw [nlo j hj]
 have XQ:al .u8 12 (fun j=>((B j:Nat):Int))=al .u8 12 fun j=>(nx B j:Nat):=bF .u8 12 Zi
 intro _ _;rw [QQ _ XU,QQ _ XT,QQ _ XS,QQ _ XR];have fin: ∀a b c d:Nat,a=nx B 12→b=nx B 13→c=nx B 14→d=nx B 15→Value.agg (aeU (al .u8 12 fun j=>((B j:Nat):Int)) [.int .u8 (a:Int),.int .u8 (b:Int),.int .u8 (c:Int),.int .u8 (d:Int)]).toArray=cb (nx B):=by
  intro a b c d ha hb hc hd;subst ha hb hc hd;unfold cb;rw [XQ,iE .u8 15,iE .u8 14,iE .u8 13,iE .u8 12];simp
 have s13:al .u8 13 (fun j=>((B j:Nat):Int))=al .u8 12 (fun j=>((B j:Nat):Int))++[.int .u8 (B 12:Nat)]:=iE .u8 12 _;have s14:al .u8 14 (fun j=>((B j:Nat):Int))=al .u8 12 (fun j=>((B j:Nat):Int))++[.int .u8 (B 12:Nat),.int .u8 (B 13:Nat)]:=by rw [iE .u8 13,s13];simp
 have s15:al .u8 15 (fun j=>((B j:Nat):Int))=al .u8 12 (fun j=>((B j:Nat):Int))++[.int .u8 (B 12:Nat),.int .u8 (B 13:Nat),.int .u8 (B 14:Nat)]:=by rw [iE .u8 14,s14];simp
 obtain⟨UN,k14,Wk,Zj,XV,UO,Zk⟩:=carry _ _ _ _ _ XR XS XT XU lo;rw [←n12]at UO Zk;rw [←n13]at Zj XV;rw [←n14]at k14 Wk;rw [←n15]at UN;have z: ∀m:Nat,((m:Nat):Int)=0→m=0:=fun m h=>Int.ofNat.inj h
 have zn: ∀m:Nat,¬¬((m:Nat):Int)=0→m=0:=fun m h=>z m (ae6.1 h)
 have nz: ∀m:Nat,¬((m:Nat):Int)=0→¬m=0:=fun m h e=>h (by rw [e];rfl)
 refine⟨fun h0=>?_,fun h0=>⟨fun h1=>?_,fun h1=>⟨fun h2=>?_,fun h2=>⟨fun h3=>?_,fun h3=>?_⟩⟩⟩⟩
 ·rw [s15,afq,List.append_assoc];exact fin _ _ _ _ (UO fun h=>nz _ h0 h.1) (Zj fun h=>nz _ h0 h.1) (k14 (nz _ h0)) UN
 ·rw [s14,afq,List.append_assoc];exact fin _ _ _ _ (UO fun h=>nz _ h1 h.2.1) (Zj fun h=>nz _ h1 h.2) (Wk (zn _ h0)) UN
 ·rw [s13,afq,List.append_assoc];exact fin _ _ _ _ (UO fun h=>nz _ h2 h.2.2) (XV (zn _ h0) (zn _ h1)) (Wk (zn _ h0)) UN
 ·exact fin _ _ _ _ (Zk (zn _ h0) (zn _ h1) (zn _ h2)) (XV (zn _ h0) (zn _ h1)) (Wk (zn _ h0)) UN
 ·exact fin _ _ _ _ (Zk (zn _ h0) (zn _ h1) (zn _ h2)) (XV (zn _ h0) (zn _ h1)) (Wk (zn _ h0)) UN
open Go Go.RX Go.Proofs Go.Ae Go.RX.Sh Go.RX.Fe
def aj(md:Bool)(v:V1)(n:Nat)(T:Nat→Nat):HP:=aE md 5 1 v.v n (aQ n [aO .u8 1 fun j=>(T j:Nat)])
theorem aW{n:Nat}{f g:Nat→Int}(h: ∀j,j<n→f j=g j):aQ n [aO .u8 1 f]=aQ n [aO .u8 1 g]:=by
 unfold aQ;have: ∀i∈List.range n,([aO .u8 1 f].flatMap fun c=>c i)=([aO .u8 1 g].flatMap fun c=>c i):=by
  intro i hi;rw [afg]at hi;simp only [List.flatMap_cons,List.flatMap_nil,List.append_nil,aO];exact bF .u8 1 fun j hj=>h (i*1+j) (by omega)
 rw [List.flatMap_def,List.flatMap_def,List.map_congr_left this]
theorem ew{A:Nat→Int}{B:Nat→Nat}(h: ∀j,j<16→A j=(B j:Nat)):Value.agg (aeU (al .u8 16 A) []).toArray=cb B:=by
 unfold cb;rw [afq,List.append_nil,bF .u8 16 h]
theorem Km(n:Nat)(K B B':Nat→Nat)(h: ∀j,j<16→B j=B' j)(i:Nat)(hi:i<16):enc n K B i=enc n K B' i:=by
 have: ∀r i,i<16→rs (W n K) (n+6) B r i=rs (W n K) (n+6) B' r i:=by
  intro r
  induction r with
  | zero=>
   intro i hi;show B i^^^_=B' i^^^_;rw [h i hi]
  | succ r ih=>
   intro i hi;have hs: ∀i,i<16→Gq (rs (W n K) (n+6) B r) i=Gq (rs (W n K) (n+6) B' r) i:=fun i hi=>by unfold Gq;rw [ih _ (afI _ (by decide))]
   rw [rs,rs];have hm:Kk (Gq (rs (W n K) (n+6) B r)) i=Kk (Gq (rs (W n K) (n+6) B' r)) i:=by
    unfold Kk;rw [hs i hi,hs (i/4*4+(i+1)%4) (by omega),hs (i/4*4+(i+2)%4) (by omega),hs (i/4*4+(i+3)%4) (by omega)]
   simp only [];rw [hm,hs i hi]
 exact this _ i hi
def Wl(b lb:Nat)(v tv:V1)(n:Nat)(K B T:Nat→Nat)(len:Nat)(x:Value)(hs:List HP):Prop:=
 ∃o:V1,x= .tuple #[o.v,.int .i64 0]∧hs=[dz b v,gZ v n K,ax lb true [tv.v],aj false tv len T,aj true o len (cS n K B T)]
theorem rG(b lb:Nat)(v tv:V1)(n:Nat)(hn:0<n)(oN:n<100)(K B T:Nat→Nat)(hK: ∀j,K j<256)(hB: ∀j,B j<256)(hT: ∀j,T j<256)(len:Nat)(hl:len≤140737488355328):
  aw ae0 62 [.pointer (some ⟨b,0,none⟩),cb B,.slice (some ⟨lb,0,none⟩) 1 1] [dz b v,gZ v n K,ax lb true [tv.v],aj false tv len T] (Wl b lb v tv n K B T len):=by
 have h:=aw.kJ (C:=cx) (bd:={i:=2,a:=4,v:=2,b:=2}) (ρ:={iv:=[Int.ofNat (4*(n+7)),Int.ofNat len],av:=[fun j=>(sb j:Nat),cw n K,fun j=>(B j:Nat),fun j=>(T j:Nat)],bv:=[b,lb],vv:=[v,tv]}) FE qz FF Tryz.func62 (by constructor<;>rfl)
  (ar:=fun x hs=> ∃(o:V1) (r1 r2:HP),x= .tuple #[o.v,.int .i64 0]∧hs.take 7=[dz b v,gZ v n K,ax lb true [tv.v],aj false tv len T,r1,r2,aj true o len (cS n K B T)])
  (args:=[.ptr 0 0,.agg [.cE .u8 16 (.aL 2)],.sl 1 (.lit 0) 1 (.lit 1) (.lit 1)]) (hp:=Tw) M6
  (Qz ae0 (fun x hs=> ∃(o:V1) (r1 r2:HP),x= .tuple #[o.v,.int .i64 0]∧hs=[dz b v,gZ v n K,ax lb true [tv.v],aj false tv len T,r1,r2,aj true o len (cS n K B T)]) (Int.ofNat (4*(n+7))) (Int.ofNat len) (fun j=>(sb j:Nat)) (cw n K) (fun j=>(B j:Nat)) (fun j=>(T j:Nat)) v tv b lb (fun _=>LC.none)) ?_
 ·have hv:SV.vals {iv:=[Int.ofNat (4*(n+7)),Int.ofNat len],av:=[fun j=>(sb j:Nat),cw n K,fun j=>(B j:Nat),fun j=>(T j:Nat)],bv:=[b,lb],vv:=[v,tv]} [.ptr 0 0,.agg [.cE .u8 16 (.aL 2)],.sl 1 (.lit 0) 1 (.lit 1) (.lit 1)]=[.pointer (some ⟨b,0,none⟩),cb B,.slice (some ⟨lb,0,none⟩) 1 1]:=by
   show [_,Value.agg (aeU (al .u8 16 fun j=>(B j:Nat)) []).toArray,_]=_;rw [afq,List.append_nil];rfl
  rw [hv]at h;refine aw.post h fun x hs hq=>?_
  obtain⟨o,r1,r2,hx,hh⟩:=hq;refine⟨[dz b v,gZ v n K,ax lb true [tv.v],aj false tv len T,aj true o len (cS n K B T)],?_,o,hx,rfl⟩;refine bX.trans (bX.sub (List.take_sublist 7 hs)) ?_;rw [hh];exact bX.sub (by repeat (first | exact List.Sublist.slnil | apply List.Sublist.cons_cons | apply List.Sublist.cons))
 unfold rX;generalize hx:Int.ofNat (4*(n+7))=x0;have hlen:Int.ofNat len=(len:Int):=rfl;rw [hlen];intro b2 b3
 iterate 3 refine⟨by omega,fun _=>?_⟩
 intro v2 _ _ _ _ _ _;refine⟨fun e=> ∃r:Nat,(r=0∨16*r<len)∧e.i.getD 0 0=((16*r:Nat):Int)∧(∀j,j<16→(e.a.getD 0 fun _=>0) j=(CO B r j:Nat))∧∀j,j<len→(e.a.getD 1 fun _=>0) j=((if j<16*r then cS n K B T j else T j:Nat):Int),
  fun e=>((len:Int)+1 - e.i.getD 0 0).toNat,⟨0,_,_,fun _ _=>rfl,rfl,fun _ _=>rfl,0,.inl rfl,rfl,fun _ _=>rfl,fun j hj=>?_⟩,?_⟩
 ·simp
 rintro x2 A4 A5 ⟨r,hr,h0,hA,hC⟩;simp only [ah,aeW]at h0 hA hC;subst h0;have hN:=yi B hB r;refine⟨Ex n K (CO B r) b v,?_,?_⟩
 ·rw [ew hA,←hx];exact od b v n hn oN K _ hK hN
 rintro x hs ⟨rfl,rfl⟩;have hE:=rF n K (CO B r) hK hN;refine⟨fun j=>(enc n K (CO B r) j:Nat),by rw [afq,List.append_nil],by rw [←hx];rfl,?_⟩;intro _;refine⟨fun e=> ∃i:Nat,i≤16∧16*r+i≤len∧e.i.getD 0 0=(i:Int)∧e.i.getD 1 0=((16*r+i:Nat):Int)∧∀j,j<len→(e.a.getD 0 fun _=>0) j=((if j<16*r+i then cS n K B T j else T j:Nat):Int),
  fun e=>((16:Int) - e.i.getD 0 0).toNat,⟨0,_,_,rfl,fun _ _=>rfl,rfl,0,by omega,by omega,rfl,rfl,hC⟩,?_⟩
 rintro x3 x4 A7 ⟨i,hi,By,h3,h4,hD⟩;simp only [ah,aeW]at h3 h4 hD;subst h3 h4;have tn:ag (len:Int)=len:=rfl;have ti:ag (i:Int)=i:=rfl;have tr:ag ((16*r+i:Nat):Int)=16*r+i:=rfl;refine⟨by omega,fun _=>⟨fun bU=>?_,fun iH=>?_⟩⟩
 ·repeat (first | (intro _) | (refine⟨by omega,fun _=>?_⟩))
  have Ey:i<16:=by omega
  have Te:16*r+i<len:=by omega
  refine⟨((i+1:Nat):Int),((16*r+(i+1):Nat):Int),_,by omega,fun _ _=>rfl,by omega,⟨i+1,by omega,by omega,rfl,rfl,?_⟩,?_⟩
  ·intro j hj;simp only [ah];rw [tr,ti,hD _ Te,if_neg (by omega)];unfold aq;split
   ·rename_i e;subst e;rw [if_pos (by omega),bP (hT _) (hE _)];unfold cS;rw [show(16*r+i)/16=r by omega,show(16*r+i)%16=i by omega]
   ·rename_i e;rw [hD j hj];by_cases OS:j<16*r+i
    ·rw [if_pos OS,if_pos (by omega)]
    ·rw [if_neg OS,if_neg (by omega)]
  ·simp only [ah];omega
 ·refine⟨by omega,fun _=>⟨fun he=>?_,fun eZ=>?_⟩⟩
  ·refine⟨v2,ax b2 true ((al .u8 16 fun j=>((B j:Nat):Int)).append []),ax b3 true [v2.v],rfl,?_⟩;have e1:aQ (ag (len:Int)) [aO .u8 1 A7]=aQ len [aO .u8 1 fun j=>(cS n K B T j:Nat)]:=aW fun j hj=>by rw [hD j hj,if_pos (by omega)]
   rw [e1,←hx];rfl
  ·refine⟨fun x hs=>x=cb (nx (CO B r))∧hs=[],?_,?_⟩
   ·rw [ew hA];exact eu _ hN
   rintro x hs ⟨rfl,rfl⟩;have h16:i=16:=by omega
   subst h16;refine⟨fun j=>(nx (CO B r) j:Nat),by unfold cb;rw [afq,List.append_nil],rfl,((16*(r+1):Nat):Int),_,_,fun _ _=>rfl,by omega,fun _ _=>rfl,⟨r+1,.inr (by omega),rfl,fun _ _=>rfl,fun j hj=>?_⟩,?_⟩
   ·simp only [ah,aeW];rw [hD j hj,show 16*r+16=16*(r+1) by omega]
   ·simp only [ah];omega
open Go Go.RX Go.Proofs Go.Ae
theorem or8{a b:Nat}(ha:a<256)(hb:b<256):ak .bR .u8 (a:Int) (b:Int)=((a|||b:Nat):Int):=by
 show ae .u8 ((BitVec.ofInt 8 (a:Int)|||BitVec.ofInt 8 (b:Int)).toNat:Int)=_;rw [Sh.wrap_u8,BitVec.toNat_or,Sh.cu,Sh.cu,afp ha,afp hb,afp (Nat.or_lt_two_pow (n:=8) ha hb)]
theorem bX.lY{a:List HP}{x:HP}(i:Nat)(h:a[i]? =some x):bX a [x]:=by
 obtain⟨hl,he⟩:=aeV.1 h;refine bX.sub ?_;rw [List.singleton_sublist];exact he▸List.getElem_mem hl
def aB(x:Value)(n:Nat)(T:Nat→Nat):HP:=aE false 5 1 x n (aQ n [aO .u8 1 fun j=>(T j:Nat)])
theorem au.bytes{v:V1}{n:Nat}{T:Nat→Nat}:au [aj true v n T] (aB v.v n T):=au.own
theorem au.view{v:V1}{n:Nat}{T:Nat→Nat}:au [aj false v n T] (aB v.v n T):=au.self rfl
theorem Nf(k:IntKind)(n lo m:Nat)(f:Nat→Int)(h:lo+m≤n):((aQ n [aO k 1 f]).drop (lo*1)).take (m*1)=aQ m [aO k 1 fun j=>f (lo+j)]:=by
 rw [je,je,Nat.mul_one,Nat.mul_one,qD,dX k (n - lo) m _ (by omega)]
theorem au.part{B:List HP}{x:Value}{n lo hi:Nat}{mx:Option Nat}{T:Nat→Nat}(hb:au B (aB x n T))(h1:lo≤hi)(h2:hi≤n)(h3: ∀m,mx=some m→hi≤m):
  au B (aB (aD 1 x lo hi mx) (hi - lo) fun j=>T (lo+j)):=by
 have:=au.sub (lo:=lo) (hi:=hi) (mx:=mx) hb h1 h2 h3;rw [Nf .u8 n lo (hi - lo) _ (by omega)]at this;exact this
theorem nF{x:Value}{n:Nat}{T T':Nat→Nat}(h: ∀j,j<n→T j=T' j):aB x n T=aB x n T':=by
 unfold aB;rw [aW fun j hj=>by rw [h j hj]]
theorem Ez{md:Bool}{v:V1}{n:Nat}{T T':Nat→Nat}(h: ∀j,j<n→T j=T' j):aj md v n T=aj md v n T':=by
 unfold aj;rw [aW fun j hj=>by rw [h j hj]]
theorem au.block{b n m:Nat}{wr:Bool}{A:Nat→Int}{T:Nat→Nat}(hA: ∀j,j<n→A j=(T j:Nat))(hm:n≤m):au [ax b wr (al .u8 n A)] (aB (.slice (some ⟨b,0,none⟩) n m) n T):=by
 have:=au.row (t:=5) (b:=b) (wr:=wr) (lo:=0) (n:=n) (m:=m) (cs:=al .u8 n A) (by simp [aG]) hm;rw [List.drop_zero,dX .u8 n n _ (Nat.le_refl _)]at this;unfold aB;rw [je,bF .u8 n fun j hj=>(hA j hj).symm];exact this
theorem dO{B:List HP}{x:Value}(hx:x.oneCell'=true)(b lb:Nat)(v:V1)(n:Nat)(hn:0<n)(oN:n<100)(K C T:Nat→Nat)(hK: ∀j,K j<256)(hC: ∀j,C j<256)(hT: ∀j,T j<256)(len:Nat)(hl:len≤140737488355328)(hb:au B (aB x len T)):
  aw ae0 62 [.pointer (some ⟨b,0,none⟩),cb C,.slice (some ⟨lb,0,none⟩) 1 1] ([Fe.dz b v,Fe.gZ v n K,ax lb true [x]]++B) fun r hs=> ∃o:V1,r= .tuple #[o.v,.int .i64 0]∧hs=[Fe.dz b v,Fe.gZ v n K,ax lb true [x]]++B++[aj true o len (cS n K C T)]:=by
 have h:=rG b lb v ⟨x,hx⟩ n hn oN K C T hK hC hT len hl;have h2:aw ae0 62 [.pointer (some ⟨b,0,none⟩),cb C,.slice (some ⟨lb,0,none⟩) 1 1] ([Fe.dz b v,Fe.gZ v n K,ax lb true [x]]++[aB x len T]) fun r hs=> ∃nw,(∃o:V1,r= .tuple #[o.v,.int .i64 0]∧nw=[aj true o len (cS n K C T)])∧hs=[Fe.dz b v,Fe.gZ v n K,ax lb true [x]]++nw:=by
  refine aw.post h ?_;rintro r hs ⟨o,hr,rfl⟩;exact⟨_,bX.sub (by repeat (first | exact List.Sublist.slnil | apply List.Sublist.cons_cons | apply List.Sublist.cons)),_,⟨o,hr,rfl⟩,rfl⟩
 refine aw.post (aw.fp h2 ?_ ?_ ?_) ?_
 ·intro h hh;simp only [afd,ae9,or_false]at hh;rcases hh with rfl | rfl | rfl<;>rfl
 ·rintro v nw ⟨o,_,rfl⟩ h hh;simp only [afd,ae9,or_false]at hh;subst hh;rfl
 ·intro h hh;simp only [afd,ae9,or_false]at hh;subst hh;exact hb
 ·rintro r hs ⟨nw,⟨o,hr,rfl⟩,rfl⟩;exact⟨_,bX.refl _,o,hr,rfl⟩
end Go.RX.Fg

namespace Go.RX.Fj
open Go Go.RX Go.Proofs Go.Ae Go.RX.Sh Go.RX.Fe Go.RX.Fg Go.RX.Fi
theorem QR{a b:Nat}(ha:a<256):ae .u8 (ak .quo .u8 (a:Int) (b:Int))=((a/b:Nat):Int):=by
 have h:ak .quo .u8 (a:Int) (b:Int)=((a/b:Nat):Int):=rfl;rw [h,wrap_u8,afp (Nat.lt_of_le_of_lt (Nat.div_le_self a b) ha)]
theorem Zl{a:Nat}(h:a<256):(if 128≤a then ak .ay .u8 (ae .u8 (2*(a:Int))) 27 else ae .u8 (2*(a:Int)))=((qO a:Nat):Int):=by
 have: ∀a:Fin 256,(if 128≤a.val then ak .ay .u8 (ae .u8 (2*(a.val:Int))) 27 else ae .u8 (2*(a.val:Int)))=((qO a.val:Nat):Int):=by decide+kernel
 exact this ⟨a,h⟩
theorem Iq: ∀(n a:Nat),tm n a 0=0
 | 0,_=>rfl
 | n+1,a=>by rw [tm,show 0/2=0 from rfl,Iq n,if_neg (by decide)];rfl
theorem dZ(a b:Nat)(ha:a<256)(hb:b<256):aw ae0 119 [.int .u8 (a:Int),.int .u8 (b:Int)] [] fun x hs=>x= .int .u8 (tm 8 a b:Nat)∧hs=[]:=by
 refine Lj _ (a:Int) (b:Int) ?_;unfold oP;refine⟨fun e=> ∃n o p q:Nat,n≤8∧o<256∧p<256∧q<2^n∧e.i=[(o:Int),(p:Int),(q:Int)]∧tm 8 a b=o^^^tm n p q,fun e=>(e.i.getD 2 0).toNat,⟨0,_,_,rfl,rfl,rfl,8,0,a,b,by omega,by decide,ha,hb,rfl,by rw [Nat.zero_xor]⟩,?_⟩;rintro x2 x3 x4 ⟨n,o,p,q,hn,ho,hp,hq,hx,ht⟩;simp only [ae8,and_true]at hx;obtain⟨rfl,rfl,rfl⟩:=hx;refine⟨fun qx=>?_,fun hz=>?_⟩
 ·have Zm:0<q:=by omega
  match n,hn,hq,ht with
  | 0,_,hq,_=>omega
  | n+1,hn,hq,ht=>
   have hq8:q<256:=ae_ hq (Nat.pow_le_pow_right (by decide) hn);have hr:ak .rem .u8 (q:Int) 2=((q%2:Nat):Int):=rfl;have hd:ae .u8 (ak .quo .u8 (q:Int) 2)=((q/2:Nat):Int):=QR (b:=2) hq8;rw [hr,hd];have R6:=Zl hp;have XW:=mF ⟨p,hp⟩;have Kn:q/2<2^n:=by rw [Nat.pow_succ]at hq;omega
   have hxo:ak .ay .u8 (o:Int) (p:Int)=((o^^^p:Nat):Int):=bP ho hp;rw [show tm (n+1) p q=(if q%2=1 then p else 0)^^^tm n (qO p) (q/2)from rfl]at ht;refine⟨fun h1=>⟨fun h2=>?_,fun h2=>?_⟩,fun h1=>⟨fun h2=>?_,fun h2=>?_⟩⟩
   ·rw [if_pos (by omega)]at R6;refine⟨_,_,_,hxo.symm,R6.symm,rfl,⟨n,o^^^p,qO p,q/2,by omega,aN ho hp,XW,Kn,rfl,?_⟩,?_⟩
    ·rw [ht,if_pos (by omega),Nat.xor_assoc]
    ·simp only [ah,aeW];omega
   ·rw [if_neg (by omega)]at R6;refine⟨_,_,_,hxo.symm,R6.symm,rfl,⟨n,o^^^p,qO p,q/2,by omega,aN ho hp,XW,Kn,rfl,?_⟩,?_⟩
    ·rw [ht,if_pos (by omega),Nat.xor_assoc]
    ·simp only [ah,aeW];omega
   ·rw [if_pos (by omega)]at R6;refine⟨_,_,_,rfl,R6.symm,rfl,⟨n,o,qO p,q/2,by omega,ho,XW,Kn,rfl,?_⟩,?_⟩
    ·rw [ht,if_neg (by omega),Nat.zero_xor]
    ·simp only [ah,aeW];omega
   ·rw [if_neg (by omega)]at R6;refine⟨_,_,_,rfl,R6.symm,rfl,⟨n,o,qO p,q/2,by omega,ho,XW,Kn,rfl,?_⟩,?_⟩
    ·rw [ht,if_neg (by omega),Nat.zero_xor]
    ·simp only [ah,aeW];omega
 ·have:q=0:=by omega
  subst this;refine⟨?_,rfl⟩;rw [ht,Iq,Nat.xor_zero]
theorem jO(n:Nat)(h:n<8):aw ae0 121 [.int .i64 (n:Int)] [] fun x hs=>x= .int .u8 (2^n:Nat)∧hs=[]:=by
 refine wP _ (n:Int) ?_;unfold oQ;refine⟨fun e=> ∃i:Nat,i≤n∧e.i=[(i:Int),((2^i:Nat):Int)],fun e=>(n - e.i.getD 0 0).toNat,⟨0,1,rfl,rfl,0,by omega,rfl⟩,?_⟩;rintro x1 x2 ⟨i,hi,hx⟩;simp only [ae8,and_true]at hx;obtain⟨rfl,rfl⟩:=hx;refine⟨fun bU=>⟨by omega,fun _=>⟨by omega,fun _=>?_⟩⟩,fun iH=>?_⟩
 ·refine⟨(i:Int)+1,_,rfl,rfl,⟨i+1,by omega,?_⟩,?_⟩
  ·have h2:(2:Int)*((2^i:Nat):Int)=((2^(i+1):Nat):Int):=by rw [Nat.pow_succ,Nat.mul_comm];rfl
   have h3:2^(i+1)<2^8:=Nat.pow_lt_pow_right (by decide) (by omega);rw [h2,wrap_u8,afp h3];rfl
  ·simp only [ah];omega
 ·have:i=n:=by omega
  subst this;exact⟨rfl,rfl⟩
theorem dL(b n:Nat)(hb:b<256)(h:n<8):aw ae0 120 [.int .u8 (b:Int),.int .i64 (n:Int)] [] fun x hs=>x= .int .i64 (b/2^n%2:Nat)∧hs=[]:=by
 refine Ss _ (b:Int) (n:Int) ?_;unfold Lk;refine⟨_,jO n h,?_⟩;rintro x hs ⟨rfl,rfl⟩;refine⟨_,rfl,rfl,?_⟩;have hp:0<2^n:=Nat.two_pow_pos n;rw [QR hb,show ak .rem .u8 ((b/2^n:Nat):Int) 2=((b/2^n%2:Nat):Int)from rfl]
 iterate 3 refine⟨by omega,fun _=>?_⟩
 refine⟨rfl,rfl⟩
end Go.RX.Fj
