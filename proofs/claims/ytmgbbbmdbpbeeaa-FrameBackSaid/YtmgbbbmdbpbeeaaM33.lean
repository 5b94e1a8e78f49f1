/- AES. -/
import Derived.Test.YtmgbbbmdbpbeeaaM32
import Derived.Test.YtmgbbbmdbpbeeaaM30
open Classical renaming not_not → adJ
open Go.IntKind renaming wrap → ae
open Go.Proofs.Try renaming prog → adE
open Int renaming toNat → ag
open List renaming append → ads, append_eq → adG, getD_cons_succ → adx, getD_cons_zero → ah, getElem?_append_left → adz, getElem?_append_right → adA, getElem?_eq_none → aef, mem_range → adZ
open Nat renaming eq_of_testBit_eq → aei
namespace Go.RX.Fe
open Go Go.RX Go.Proofs Go.Ae Go.RX.Sh
theorem PR{a b:Nat}(ha:a<256)(hb:b<256):ak .aD .u8 (ak .shl .u8 (ak .aD .u8 (a:Int) (b:Int)) 1) (ae .u8 ((ak .shr .u8 (ak .aD .u8 (a:Int) (b:Int)) 7)*27))=((yp a^^^yp b:Nat):Int):=by
 rw [cz ha hb,Cd (aS ha hb),PM a b ha hb]
theorem U9(a b c d p q:Nat):(a^^^(((a^^^b)^^^c)^^^d))^^^(p^^^q)=p^^^(b^^^q)^^^c^^^d:=by
 refine aei fun i=>?_
 simp only [Nat.testBit_xor];generalize a.testBit i=a,b.testBit i=b,c.testBit i=c,d.testBit i=d,p.testBit i=p,q.testBit i=q
 revert a b c d p q
 decide
theorem PS{a b c d w:Nat}(ha:a<256)(hb:b<256)(hc:c<256)(hd:d<256)(hw:w<256):
  ak .aD .u8 (ak .aD .u8 (ak .aD .u8 (a:Int) (ak .aD .u8 (ak .aD .u8 (ak .aD .u8 (a:Int) (b:Int)) (c:Int)) (d:Int))) (ak .aD .u8 (ak .shl .u8 (ak .aD .u8 (a:Int) (b:Int)) 1) (ae .u8 ((ak .shr .u8 (ak .aD .u8 (a:Int) (b:Int)) 7)*27)))) (w:Int)=(((yp a^^^(b^^^yp b)^^^c^^^d)^^^w:Nat):Int):=by
 have hl:=fun(x:Nat) (h:x<256)=>rp ⟨x,h⟩
 rw [PR ha hb,cz ha hb,cz (aS ha hb) hc,cz (aS (aS ha hb) hc) hd,cz ha (aS (aS (aS ha hb) hc) hd),cz (aS ha (aS (aS (aS ha hb) hc) hd)) (aS (hl _ ha) (hl _ hb)),U9];exact cz (aS (aS (aS (hl _ ha) (aS hb (hl _ hb))) hc) hd) hw
theorem U_(a b c d p q:Nat):(b^^^(((a^^^b)^^^c)^^^d))^^^(p^^^q)=p^^^(c^^^q)^^^d^^^a:=by
 refine aei fun i=>?_
 simp only [Nat.testBit_xor];generalize a.testBit i=a,b.testBit i=b,c.testBit i=c,d.testBit i=d,p.testBit i=p,q.testBit i=q
 revert a b c d p q
 decide
theorem PU{a b c d w:Nat}(ha:a<256)(hb:b<256)(hc:c<256)(hd:d<256)(hw:w<256):
  ak .aD .u8 (ak .aD .u8 (ak .aD .u8 (b:Int) (ak .aD .u8 (ak .aD .u8 (ak .aD .u8 (a:Int) (b:Int)) (c:Int)) (d:Int))) (ak .aD .u8 (ak .shl .u8 (ak .aD .u8 (b:Int) (c:Int)) 1) (ae .u8 ((ak .shr .u8 (ak .aD .u8 (b:Int) (c:Int)) 7)*27)))) (w:Int)=(((yp b^^^(c^^^yp c)^^^d^^^a)^^^w:Nat):Int):=by
 have hl:=fun(x:Nat) (h:x<256)=>rp ⟨x,h⟩
 rw [PR hb hc,cz ha hb,cz (aS ha hb) hc,cz (aS (aS ha hb) hc) hd,cz hb (aS (aS (aS ha hb) hc) hd),cz (aS hb (aS (aS (aS ha hb) hc) hd)) (aS (hl _ hb) (hl _ hc)),U_];exact cz (aS (aS (aS (hl _ hb) (aS hc (hl _ hc))) hd) ha) hw
theorem Va(a b c d p q:Nat):(c^^^(((a^^^b)^^^c)^^^d))^^^(p^^^q)=p^^^(d^^^q)^^^a^^^b:=by
 refine aei fun i=>?_
 simp only [Nat.testBit_xor];generalize a.testBit i=a,b.testBit i=b,c.testBit i=c,d.testBit i=d,p.testBit i=p,q.testBit i=q
 revert a b c d p q
 decide
theorem PV{a b c d w:Nat}(ha:a<256)(hb:b<256)(hc:c<256)(hd:d<256)(hw:w<256):
  ak .aD .u8 (ak .aD .u8 (ak .aD .u8 (c:Int) (ak .aD .u8 (ak .aD .u8 (ak .aD .u8 (a:Int) (b:Int)) (c:Int)) (d:Int))) (ak .aD .u8 (ak .shl .u8 (ak .aD .u8 (c:Int) (d:Int)) 1) (ae .u8 ((ak .shr .u8 (ak .aD .u8 (c:Int) (d:Int)) 7)*27)))) (w:Int)=(((yp c^^^(d^^^yp d)^^^a^^^b)^^^w:Nat):Int):=by
 have hl:=fun(x:Nat) (h:x<256)=>rp ⟨x,h⟩
 rw [PR hc hd,cz ha hb,cz (aS ha hb) hc,cz (aS (aS ha hb) hc) hd,cz hc (aS (aS (aS ha hb) hc) hd),cz (aS hc (aS (aS (aS ha hb) hc) hd)) (aS (hl _ hc) (hl _ hd)),Va];exact cz (aS (aS (aS (hl _ hc) (aS hd (hl _ hd))) ha) hb) hw
theorem Vb(a b c d p q:Nat):(d^^^(((a^^^b)^^^c)^^^d))^^^(p^^^q)=p^^^(a^^^q)^^^b^^^c:=by
 refine aei fun i=>?_
 simp only [Nat.testBit_xor];generalize a.testBit i=a,b.testBit i=b,c.testBit i=c,d.testBit i=d,p.testBit i=p,q.testBit i=q
 revert a b c d p q
 decide
theorem PW{a b c d w:Nat}(ha:a<256)(hb:b<256)(hc:c<256)(hd:d<256)(hw:w<256):
  ak .aD .u8 (ak .aD .u8 (ak .aD .u8 (d:Int) (ak .aD .u8 (ak .aD .u8 (ak .aD .u8 (a:Int) (b:Int)) (c:Int)) (d:Int))) (ak .aD .u8 (ak .shl .u8 (ak .aD .u8 (d:Int) (a:Int)) 1) (ae .u8 ((ak .shr .u8 (ak .aD .u8 (d:Int) (a:Int)) 7)*27)))) (w:Int)=(((yp d^^^(a^^^yp a)^^^b^^^c)^^^w:Nat):Int):=by
 have hl:=fun(x:Nat) (h:x<256)=>rp ⟨x,h⟩
 rw [PR hd ha,cz ha hb,cz (aS ha hb) hc,cz (aS (aS ha hb) hc) hd,cz hd (aS (aS (aS ha hb) hc) hd),cz (aS hd (aS (aS (aS ha hb) hc) hd)) (aS (hl _ hd) (hl _ ha)),Vb];exact cz (aS (aS (aS (hl _ hd) (aS ha (hl _ ha))) hb) hc) hw
theorem Cf(w:Nat→Int)(e0 e1 e2 e3 e4 e5 e6 e7 e8 e9 Wv Ww Wx ZA ZB ZC:Int)(f:Nat→Nat)(h0:e0=(f 0:Nat))(h1:e1=(f 1:Nat))(h2:e2=(f 2:Nat))(h3:e3=(f 3:Nat))(h4:e4=(f 4:Nat))(h5:e5=(f 5:Nat))(h6:e6=(f 6:Nat))(h7:e7=(f 7:Nat))(h8:e8=(f 8:Nat))(h9:e9=(f 9:Nat))(h10:Wv=(f 10:Nat))(h11:Ww=(f 11:Nat))(Wy:Wx=(f 12:Nat))(Wz:ZA=(f 13:Nat))(WA:ZB=(f 14:Nat))(WB:ZC=(f 15:Nat)): ∀k,k<16→ao (ao (ao (ao (ao (ao (ao (ao (ao (ao (ao (ao (ao (ao (ao (ao (w) 0 e0) 1 e1) 2 e2) 3 e3) 4 e4) 5 e5) 6 e6) 7 e7) 8 e8) 9 e9) 10 Wv) 11 Ww) 12 Wx) 13 ZA) 14 ZB) 15 ZC k=(f k:Nat):=by
 intro k hk;have:k=0∨k=1∨k=2∨k=3∨k=4∨k=5∨k=6∨k=7∨k=8∨k=9∨k=10∨k=11∨k=12∨k=13∨k=14∨k=15:=by omega
 rcases this with rfl | rfl | rfl | rfl | rfl | rfl | rfl | rfl | rfl | rfl | rfl | rfl | rfl | rfl | rfl | rfl
 ·exact h0
 ·exact h1
 ·exact h2
 ·exact h3
 ·exact h4
 ·exact h5
 ·exact h6
 ·exact h7
 ·exact h8
 ·exact h9
 ·exact h10
 ·exact h11
 ·exact Wy
 ·exact Wz
 ·exact WA
 ·exact WB
theorem Il(i n:Nat):ak .quo .i64 (i:Int) (n:Int)=((i/n:Nat):Int):=by
 simp only [ak];rw [Int.tdiv_eq_ediv_of_nonneg (by omega)];omega
theorem PX(n:Nat)(hn:n<100):ae .i64 (ak .quo .i64 (Int.ofNat (4*(n+7))) 4) - 1=((n+6:Nat):Int):=by
 have:=Il (4*(n+7)) 4;rw [show ak .quo .i64 (Int.ofNat (4*(n+7))) 4=((n+7:Nat):Int) by rw [show(Int.ofNat (4*(n+7)):Int)=((4*(n+7):Nat):Int)from rfl,show(4:Int)=((4:Nat):Int)from rfl,Il];omega];rw [tB .i64 _ (by show(-9223372036854775808:Int)≤_;omega) (by show _≤(9223372036854775807:Int);omega)];omega
theorem kp(n:Nat)(K:Nat→Nat)(r i k:Nat)(hk:k<4):aE (cw n K) (ag ((4*(r:Int)+(i:Int))*4)) k=(W n K (4*r+i) k:Nat):=by
 unfold aE cw;rw [show ag ((4*(r:Int)+(i:Int))*4)=4*(4*r+i) by omega,show(4*(4*r+i)+k)/4=4*r+i by omega,show(4*(4*r+i)+k)%4=k by omega]
theorem EH(n:Nat)(K:Nat→Nat)(r k:Nat)(hk:k<4):aE (cw n K) (ag ((4*(r:Int))*4)) k=(W n K (4*r) k:Nat):=by
 have:=kp n K r 0 k hk;rw [Int.natCast_zero,Int.add_zero]at this;exact this
theorem XX(A:Nat→Int)(f:Nat→Nat)(hA: ∀j,j<16→A j=(f j:Nat)): ∀j,j<16→aA (aA (aA (aA (fun _=>0) 0 4 A) 4 4 (aE A 4)) 8 4 (aE A 8)) 12 4 (aE A 12) j=(f j:Nat):=by
 intro j hj;simp only [aA,aE]
 repeat' split
 all_goals (try rw [hA _ (by omega)])
 all_goals (try (congr 2))
 all_goals omega
def EI(n:Nat)(K B:Nat→Nat)(b:Nat)(v:V1)(x:Value)(hs:List HP):Prop:=x= .agg (aj .u8 16 fun j=>(enc n K B j:Nat)).toArray∧hs=[ct b v,eH v n K]
theorem rq(b:Nat)(v:V1)(n:Nat)(hn:0<n)(KX:n<100)(K B:Nat→Nat)(hK: ∀j,K j<256)(hB: ∀j,B j<256):
  ar adE 11 [.pointer (some ⟨b,0,none⟩),.agg (aj .u8 16 fun j=>(B j:Nat)).toArray] [ct b v,eH v n K] (EI n K B b v):=by
 have h:=ar.kH (C:=cx) (aX:={i:=1,a:=3,v:=1,b:=1}) (ρ:={iv:=[Int.ofNat (4*(n+7))],av:=[fun j=>(sb j:Nat),cw n K,fun j=>(B j:Nat)],bv:=[b],vv:=[v]}) FN qv FO Try.func11 (by constructor<;>rfl)
  (ax:=fun x hs=>EI n K B b v x (hs.take 2)) (args:=[.ptr 0 0,.agg [.cD .u8 16 (.aO 2)]]) (hp:=H7) K6
  (Oh adE (EI n K B b v) (Int.ofNat (4*(n+7))) (fun j=>(sb j:Nat)) (cw n K) (fun j=>(B j:Nat)) v b (fun _=>LC.none)) ?_
 ·have hv:SV.vals {iv:=[Int.ofNat (4*(n+7))],av:=[fun j=>(sb j:Nat),cw n K,fun j=>(B j:Nat)],bv:=[b],vv:=[v]} [.ptr 0 0,.agg [.cD .u8 16 (.aO 2)]]=[.pointer (some ⟨b,0,none⟩),.agg (aj .u8 16 fun j=>(B j:Nat)).toArray]:=by
   show [_,Value.agg (ads (aj .u8 16 fun j=>(B j:Nat)) []).toArray]=_;rw [adG,List.append_nil];rfl
  rw [hv]at h;exact ar.post h fun x hs hq=>⟨hs.take 2,bU.sub (List.take_sublist 2 hs),hq⟩
 unfold HF;rw [PX n KX];generalize hx:Int.ofNat (4*(n+7))=x0;have Rb:x0=4*((n:Int)+7):=by rw [←hx];show((4*(n+7):Nat):Int)=_;omega
 have hW:=PN n K hK
 repeat (first | (intro _) | (refine⟨by omega,fun _=>?_⟩))
 have x1: ∀i j,i<256→j<256→ak .aD .u8 ((i:Nat):Int) ((j:Nat):Int)=((i^^^j:Nat):Int):=fun i j hi hj=>cz hi hj
 refine⟨fun e=> ∃r:Nat,r<n+7∧e.i.getD 0 0=((r+1:Nat):Int)∧∀j,j<16→(e.a.getD 0 fun _=>0) j=(rs (W n K) (n+6) B r j:Nat),fun e=>((n:Int)+8 - e.i.getD 0 0).toNat,⟨_,_,1,_,rfl,fun _ _=>rfl,rfl,rfl,rfl,rfl,0,by omega,rfl,?_⟩,?_⟩
 ·show∀j,j<16→_;refine Cf _ _ _ _ _ _ _ _ _ _ _ _ _ _ _ _ _ _ ?_ ?_ ?_ ?_ ?_ ?_ ?_ ?_ ?_ ?_ ?_ ?_ ?_ ?_ ?_ ?_<;>exact cz (hB _) (hW _ _)
 rintro zd NP x1 A3 ⟨r,hr,h0,hA⟩;simp only [ah]at h0 hA;subst h0;have hs:=MJ (W n K) (n+6) B hW hB r;generalize hS:rs (W n K) (n+6) B r=S at*

 have a0:A3 0=(S 0:Nat):=hA 0 (by decide);have l0:=hs 0;have a1:A3 1=(S 1:Nat):=hA 1 (by decide);have l1:=hs 1;have a2:A3 2=(S 2:Nat):=hA 2 (by decide);have l2:=hs 2;have a3:A3 3=(S 3:Nat):=hA 3 (by decide);have l3:=hs 3;have a4:A3 4=(S 4:Nat):=hA 4 (by decide);have l4:=hs 4;have a5:A3 5=(S 5:Nat):=hA 5 (by decide);have l5:=hs 5;have a6:A3 6=(S 6:Nat):=hA 6 (by decide);have l6:=hs 6;have a7:A3 7=(S 7:Nat):=hA 7 (by decide);have l7:=hs 7;have a8:A3 8=(S 8:Nat):=hA 8 (by decide);have l8:=hs 8;have a9:A3 9=(S 9:Nat):=hA 9 (by decide);have l9:=hs 9;have a10:A3 10=(S 10:Nat):=hA 10 (by decide);have l10:=hs 10;have a11:A3 11=(S 11:Nat):=hA 11 (by decide);have l11:=hs 11;have a12:A3 12=(S 12:Nat):=hA 12 (by decide);have l12:=hs 12;have a13:A3 13=(S 13:Nat):=hA 13 (by decide);have l13:=hs 13;have a14:A3 14=(S 14:Nat):=hA 14 (by decide);have l14:=hs 14;have a15:A3 15=(S 15:Nat):=hA 15 (by decide);have l15:=hs 15;have sl: ∀j,sb (S j)<256:=fun j=>AI _ (hs j)
 simp only [a0,a1,a2,a3,a4,a5,a6,a7,a8,a9,a10,a11,a12,a13,a14,a15,Int.toNat_natCast]
 iterate 3 refine⟨by omega,fun _=>?_⟩
 refine⟨fun bP=>?_,fun bP=>?_⟩
 ·repeat (first | (intro _) | (refine⟨by omega,fun _=>?_⟩))
  refine⟨fun hm=>?_,fun hm=>?_⟩
  ·repeat (first | (intro _) | (refine⟨by omega,fun _=>?_⟩))
   refine⟨_,_,_,_,rfl,fun _ _=>rfl,rfl,rfl,rfl,rfl,⟨r+1,by omega,rfl,?_⟩,?_⟩
   ·show∀j,j<16→_;have oD: ∀i,rs (W n K) (n+6) B (r+1) i=U8 (U7 S) i^^^W n K (4*(r+1)+i/4) (i%4):=fun i=>by rw [rs];simp only [];rw [if_pos (by omega),hS]
    refine Cf _ _ _ _ _ _ _ _ _ _ _ _ _ _ _ _ _ _ ?_ ?_ ?_ ?_ ?_ ?_ ?_ ?_ ?_ ?_ ?_ ?_ ?_ ?_ ?_ ?_
    ·rw [oD];rw [EH n K (r+1) 0 (by decide)];exact PS (sl _) (sl _) (sl _) (sl _) (hW _ _)
    ·rw [oD];rw [EH n K (r+1) 1 (by decide)];exact PU (sl _) (sl _) (sl _) (sl _) (hW _ _)
    ·rw [oD];rw [EH n K (r+1) 2 (by decide)];exact PV (sl _) (sl _) (sl _) (sl _) (hW _ _)
    ·rw [oD];rw [EH n K (r+1) 3 (by decide)];exact PW (sl _) (sl _) (sl _) (sl _) (hW _ _)
    ·rw [oD];rw [show(1:Int)=((1:Nat):Int)from rfl,kp n K (r+1) 1 0 (by decide)];exact PS (sl _) (sl _) (sl _) (sl _) (hW _ _)
    ·rw [oD];rw [show(1:Int)=((1:Nat):Int)from rfl,kp n K (r+1) 1 1 (by decide)];exact PU (sl _) (sl _) (sl _) (sl _) (hW _ _)
    ·rw [oD];rw [show(1:Int)=((1:Nat):Int)from rfl,kp n K (r+1) 1 2 (by decide)];exact PV (sl _) (sl _) (sl _) (sl _) (hW _ _)
    ·rw [oD];rw [show(1:Int)=((1:Nat):Int)from rfl,kp n K (r+1) 1 3 (by decide)];exact PW (sl _) (sl _) (sl _) (sl _) (hW _ _)
    ·rw [oD];rw [show(2:Int)=((2:Nat):Int)from rfl,kp n K (r+1) 2 0 (by decide)];exact PS (sl _) (sl _) (sl _) (sl _) (hW _ _)
    ·rw [oD];rw [show(2:Int)=((2:Nat):Int)from rfl,kp n K (r+1) 2 1 (by decide)];exact PU (sl _) (sl _) (sl _) (sl _) (hW _ _)
    ·rw [oD];rw [show(2:Int)=((2:Nat):Int)from rfl,kp n K (r+1) 2 2 (by decide)];exact PV (sl _) (sl _) (sl _) (sl _) (hW _ _)
    ·rw [oD];rw [show(2:Int)=((2:Nat):Int)from rfl,kp n K (r+1) 2 3 (by decide)];exact PW (sl _) (sl _) (sl _) (sl _) (hW _ _)
    ·rw [oD];rw [show(3:Int)=((3:Nat):Int)from rfl,kp n K (r+1) 3 0 (by decide)];exact PS (sl _) (sl _) (sl _) (sl _) (hW _ _)
    ·rw [oD];rw [show(3:Int)=((3:Nat):Int)from rfl,kp n K (r+1) 3 1 (by decide)];exact PU (sl _) (sl _) (sl _) (sl _) (hW _ _)
    ·rw [oD];rw [show(3:Int)=((3:Nat):Int)from rfl,kp n K (r+1) 3 2 (by decide)];exact PV (sl _) (sl _) (sl _) (sl _) (hW _ _)
    ·rw [oD];rw [show(3:Int)=((3:Nat):Int)from rfl,kp n K (r+1) 3 3 (by decide)];exact PW (sl _) (sl _) (sl _) (sl _) (hW _ _)
   ·simp only [ah];omega
  ·repeat (first | (intro _) | (refine⟨by omega,fun _=>?_⟩))
   refine⟨_,_,_,_,rfl,fun _ _=>rfl,rfl,rfl,rfl,rfl,⟨r+1,by omega,rfl,?_⟩,?_⟩
   ·show∀j,j<16→_;have oD: ∀i,rs (W n K) (n+6) B (r+1) i=U7 S i^^^W n K (4*(r+1)+i/4) (i%4):=fun i=>by rw [rs];simp only [];rw [if_neg (by omega),hS]
    refine Cf _ _ _ _ _ _ _ _ _ _ _ _ _ _ _ _ _ _ ?_ ?_ ?_ ?_ ?_ ?_ ?_ ?_ ?_ ?_ ?_ ?_ ?_ ?_ ?_ ?_
    ·rw [oD];rw [EH n K (r+1) 0 (by decide)];exact cz (sl _) (hW _ _)
    ·rw [oD];rw [EH n K (r+1) 1 (by decide)];exact cz (sl _) (hW _ _)
    ·rw [oD];rw [EH n K (r+1) 2 (by decide)];exact cz (sl _) (hW _ _)
    ·rw [oD];rw [EH n K (r+1) 3 (by decide)];exact cz (sl _) (hW _ _)
    ·rw [oD];rw [show(1:Int)=((1:Nat):Int)from rfl,kp n K (r+1) 1 0 (by decide)];exact cz (sl _) (hW _ _)
    ·rw [oD];rw [show(1:Int)=((1:Nat):Int)from rfl,kp n K (r+1) 1 1 (by decide)];exact cz (sl _) (hW _ _)
    ·rw [oD];rw [show(1:Int)=((1:Nat):Int)from rfl,kp n K (r+1) 1 2 (by decide)];exact cz (sl _) (hW _ _)
    ·rw [oD];rw [show(1:Int)=((1:Nat):Int)from rfl,kp n K (r+1) 1 3 (by decide)];exact cz (sl _) (hW _ _)
    ·rw [oD];rw [show(2:Int)=((2:Nat):Int)from rfl,kp n K (r+1) 2 0 (by decide)];exact cz (sl _) (hW _ _)
    ·rw [oD];rw [show(2:Int)=((2:Nat):Int)from rfl,kp n K (r+1) 2 1 (by decide)];exact cz (sl _) (hW _ _)
    ·rw [oD];rw [show(2:Int)=((2:Nat):Int)from rfl,kp n K (r+1) 2 2 (by decide)];exact cz (sl _) (hW _ _)
    ·rw [oD];rw [show(2:Int)=((2:Nat):Int)from rfl,kp n K (r+1) 2 3 (by decide)];exact cz (sl _) (hW _ _)
    ·rw [oD];rw [show(3:Int)=((3:Nat):Int)from rfl,kp n K (r+1) 3 0 (by decide)];exact cz (sl _) (hW _ _)
    ·rw [oD];rw [show(3:Int)=((3:Nat):Int)from rfl,kp n K (r+1) 3 1 (by decide)];exact cz (sl _) (hW _ _)
    ·rw [oD];rw [show(3:Int)=((3:Nat):Int)from rfl,kp n K (r+1) 3 2 (by decide)];exact cz (sl _) (hW _ _)
    ·rw [oD];rw [show(3:Int)=((3:Nat):Int)from rfl,kp n K (r+1) 3 3 (by decide)];exact cz (sl _) (hW _ _)
   ·simp only [ah];omega
 ·intro _ _ _ _;obtain rfl:r=n+6:=by omega
  refine⟨?_,?_⟩
  ·rw [bA .u8 16 (XX A3 S hA),adG,List.append_nil,←hS];rfl
  ·rw [←hx];rfl
end Go.RX.Fe

namespace Go.Ae
def J6(B:Nat→Nat):Nat:=B 12*16777216+B 13*65536+B 14*256+B 15
def nx(B:Nat→Nat)(j:Nat):Nat:=if j<12 then B j else(J6 B+1)%4294967296/256^(15 - j)%256
def N_(B:Nat→Nat):Nat→(Nat→Nat)
 | 0=>B
 | r+1=>nx (N_ B r)
def eu(n:Nat)(K B T:Nat→Nat)(j:Nat):Nat:=T j^^^enc n K (N_ B (j/16)) (j%16)
theorem AK(B:Nat→Nat)(hB: ∀j,B j<256)(j:Nat):nx B j<256:=by
 unfold nx;split
 ·exact hB j
 ·exact Nat.mod_lt _ (by decide)
theorem Cg(B:Nat→Nat)(hB: ∀j,B j<256): ∀r j,N_ B r j<256
 | 0,j=>hB j
 | r+1,j=>AK _ (Cg B hB r) j
theorem sG(n:Nat)(K B T:Nat→Nat)(hK: ∀j,K j<256)(hB: ∀j,B j<256)(hT: ∀j,T j<256)(j:Nat):eu n K B T j<256:=
 aS (hT j) (yq n K _ hK (Cg B hB _) _)
theorem AL(n:Nat)(K B T:Nat→Nat)(j:Nat):eu n K B (eu n K B T) j=T j:=by
 unfold eu;rw [Nat.xor_assoc,Nat.xor_self,Nat.xor_zero]
theorem vg(n:Nat)(K B:Nat→Nat){T T':Nat→Nat}{j:Nat}(h:T j=T' j):eu n K B T j=eu n K B T' j:=by
 unfold eu;rw [h]
end Go.Ae

namespace Go.RX.Fg
open Go Go.RX Go.Proofs Go.Ae Go.RX.Sh Go.RX.Fe
theorem h_(k:IntKind)(n:Nat)(f:Nat→Int):aj k (n+1) f=aj k n f++[.int k (f n)]:=by
 apply List.ext_getElem?;intro j;rw [bd];by_cases h:j<n
 ·rw [if_pos (by omega),adz (by rw [aF];exact h),bd,if_pos h]
 ·rw [adA (by rw [aF];omega),aF];by_cases h2:j=n
  ·subst h2;rw [if_pos (by omega),Nat.sub_self];rfl
  ·rw [if_neg (by omega),aef (by simp;omega)]
def bW(B:Nat→Nat):Value:= .agg (aj .u8 16 fun j=>(B j:Nat)).toArray
theorem PY(b:Nat)(_:b<256):ae .u8 ((b:Int)+1)=(((b+1)%256:Nat):Int):=by
 rw [show((b:Int)+1)=((b+1:Nat):Int)from rfl,wrap_u8]
theorem Vc(B:Nat→Nat):nx B 12=(J6 B+1)%4294967296/16777216%256∧nx B 13=(J6 B+1)%4294967296/65536%256∧nx B 14=(J6 B+1)%4294967296/256%256∧nx B 15=(J6 B+1)%4294967296/1%256:=by
 refine⟨?_,?_,?_,?_⟩<;>(unfold nx;rw [if_neg (by decide)])<;>rw [show(256:Nat)^_=_ from by decide]
theorem carry(a b c d n:Nat)(ha:a<256)(hb:b<256)(hc:c<256)(hd:d<256)(hn:n=a*16777216+b*65536+c*256+d):
  (d+1)%256=(n+1)%4294967296/1%256∧
  (¬(d+1)%256=0→c=(n+1)%4294967296/256%256)∧((d+1)%256=0→(c+1)%256=(n+1)%4294967296/256%256)∧
  (¬((d+1)%256=0∧(c+1)%256=0)→b=(n+1)%4294967296/65536%256)∧((d+1)%256=0→(c+1)%256=0→(b+1)%256=(n+1)%4294967296/65536%256)∧
  (¬((d+1)%256=0∧(c+1)%256=0∧(b+1)%256=0)→a=(n+1)%4294967296/16777216%256)∧((d+1)%256=0→(c+1)%256=0→(b+1)%256=0→(a+1)%256=(n+1)%4294967296/16777216%256):=by
 subst hn;refine⟨by omega,by omega,by omega,by omega,by omega,by omega,by omega⟩
theorem fi(B:Nat→Nat)(hB: ∀j,B j<256):ar adE 50 [bW B] [] fun x hs=>x=bW (nx B)∧hs=[]:=by
 have h:=ar.nW (C:=cx) (aX:={a:=1}) (ρ:={av:=[fun j=>(B j:Nat)]}) FN qv FO Try.func50 (by constructor<;>rfl) (fun x=>x=bW (nx B))
  (args:=[.agg [.cD .u8 16 (.aO 0)]]) ME (PJ adE (fun x _=>x=bW (nx B)) (fun j=>(B j:Nat)) (fun _=>LC.none)) ?_
 ·have hv:SV.vals {av:=[fun j=>(B j:Nat)]} [.agg [.cD .u8 16 (.aO 0)]]=[bW B]:=by
   show [Value.agg (ads (aj .u8 16 fun j=>(B j:Nat)) []).toArray]=_;rw [adG,List.append_nil];rfl
  rw [hv]at h;exact h
 unfold Ig;have Wy:=hB 12;have Wz:=hB 13;have WA:=hB 14;have WB:=hB 15;obtain⟨n12,n13,n14,n15⟩:=Vc B;have lo:J6 B=B 12*16777216+B 13*65536+B 14*256+B 15:=rfl;have nlo: ∀j,j<12→nx B j=B j:=fun j hj=>by unfold nx;rw [if_pos hj]
 have XY: ∀j,j<12→((B j:Nat):Int)=(nx B j:Nat):=fun j hj=>by rw [nlo j hj]
 have Wx:aj .u8 12 (fun j=>((B j:Nat):Int))=aj .u8 12 fun j=>(nx B j:Nat):=bA .u8 12 XY
 intro _ _;rw [PY _ WB,PY _ WA,PY _ Wz,PY _ Wy];have fin: ∀a b c d:Nat,a=nx B 12→b=nx B 13→c=nx B 14→d=nx B 15→Value.agg (ads (aj .u8 12 fun j=>((B j:Nat):Int)) [.int .u8 (a:Int),.int .u8 (b:Int),.int .u8 (c:Int),.int .u8 (d:Int)]).toArray=bW (nx B):=by
  intro a b c d ha hb hc hd;subst ha hb hc hd;unfold bW;rw [Wx,h_ .u8 15,h_ .u8 14,h_ .u8 13,h_ .u8 12];simp
 have ZD:aj .u8 13 (fun j=>((B j:Nat):Int))=aj .u8 12 (fun j=>((B j:Nat):Int))++[.int .u8 (B 12:Nat)]:=h_ .u8 12 _;have ZE:aj .u8 14 (fun j=>((B j:Nat):Int))=aj .u8 12 (fun j=>((B j:Nat):Int))++[.int .u8 (B 12:Nat),.int .u8 (B 13:Nat)]:=by rw [h_ .u8 13,ZD];simp
 have s15:aj .u8 15 (fun j=>((B j:Nat):Int))=aj .u8 12 (fun j=>((B j:Nat):Int))++[.int .u8 (B 12:Nat),.int .u8 (B 13:Nat),.int .u8 (B 14:Nat)]:=by rw [h_ .u8 14,ZE];simp
 obtain⟨TB,ZF,Vd,XZ,WC,TC,X0⟩:=carry _ _ _ _ _ Wy Wz WA WB lo;rw [←n12]at TC X0;rw [←n13]at XZ WC;rw [←n14]at ZF Vd;rw [←n15]at TB;have z: ∀m:Nat,((m:Nat):Int)=0→m=0:=fun m h=>Int.ofNat.inj h
 have zn: ∀m:Nat,¬¬((m:Nat):Int)=0→m=0:=fun m h=>z m (adJ.1 h)
 have nz: ∀m:Nat,¬((m:Nat):Int)=0→¬m=0:=fun m h e=>h (by rw [e];rfl)
 refine⟨fun h0=>?_,fun h0=>⟨fun h1=>?_,fun h1=>⟨fun h2=>?_,fun h2=>⟨fun h3=>?_,fun h3=>?_⟩⟩⟩⟩
 ·rw [s15,adG,List.append_assoc];exact fin _ _ _ _ (TC fun h=>nz _ h0 h.1) (XZ fun h=>nz _ h0 h.1) (ZF (nz _ h0)) TB
 ·rw [ZE,adG,List.append_assoc];exact fin _ _ _ _ (TC fun h=>nz _ h1 h.2.1) (XZ fun h=>nz _ h1 h.2) (Vd (zn _ h0)) TB
 ·rw [ZD,adG,List.append_assoc];exact fin _ _ _ _ (TC fun h=>nz _ h2 h.2.2) (WC (zn _ h0) (zn _ h1)) (Vd (zn _ h0)) TB
 ·exact fin _ _ _ _ (X0 (zn _ h0) (zn _ h1) (zn _ h2)) (WC (zn _ h0) (zn _ h1)) (Vd (zn _ h0)) TB
 ·exact fin _ _ _ _ (X0 (zn _ h0) (zn _ h1) (zn _ h2)) (WC (zn _ h0) (zn _ h1)) (Vd (zn _ h0)) TB
open Go Go.RX Go.Proofs Go.Ae Go.RX.Sh Go.RX.Fe
def al(md:Bool)(v:V1)(n:Nat)(T:Nat→Nat):HP:=au md 5 1 v.v n (aK n [aJ .u8 1 fun j=>(T j:Nat)])
theorem cm{n:Nat}{f g:Nat→Int}(h: ∀j,j<n→f j=g j):aK n [aJ .u8 1 f]=aK n [aJ .u8 1 g]:=by
 unfold aK;have: ∀i∈List.range n,([aJ .u8 1 f].flatMap fun c=>c i)=([aJ .u8 1 g].flatMap fun c=>c i):=by
  intro i hi;rw [adZ]at hi;simp only [List.flatMap_cons,List.flatMap_nil,List.append_nil,aJ];exact bA .u8 1 fun j hj=>h (i*1+j) (by omega)
 rw [List.flatMap_def,List.flatMap_def,List.map_congr_left this]
theorem dN{A:Nat→Int}{B:Nat→Nat}(h: ∀j,j<16→A j=(B j:Nat)):Value.agg (ads (aj .u8 16 A) []).toArray=bW B:=by
 unfold bW;rw [adG,List.append_nil,bA .u8 16 h]
def Ve(b lb:Nat)(v tv:V1)(n:Nat)(K B T:Nat→Nat)(len:Nat)(x:Value)(hs:List HP):Prop:=
 ∃o:V1,x= .tuple #[o.v,.int .i64 0]∧hs=[ct b v,eH v n K,aq lb true [tv.v],al false tv len T,al true o len (eu n K B T)]
theorem GL(b lb:Nat)(v tv:V1)(n:Nat)(hn:0<n)(KX:n<100)(K B T:Nat→Nat)(hK: ∀j,K j<256)(hB: ∀j,B j<256)(hT: ∀j,T j<256)(len:Nat)(hl:len≤140737488355328):
  ar adE 39 [.pointer (some ⟨b,0,none⟩),bW B,.slice (some ⟨lb,0,none⟩) 1 1] [ct b v,eH v n K,aq lb true [tv.v],al false tv len T] (Ve b lb v tv n K B T len):=by
 have h:=ar.kH (C:=cx) (aX:={i:=2,a:=4,v:=2,b:=2}) (ρ:={iv:=[Int.ofNat (4*(n+7)),Int.ofNat len],av:=[fun j=>(sb j:Nat),cw n K,fun j=>(B j:Nat),fun j=>(T j:Nat)],bv:=[b,lb],vv:=[v,tv]}) FN qv FO Try.func39 (by constructor<;>rfl)
  (ax:=fun x hs=> ∃(o:V1) (r1 r2:HP),x= .tuple #[o.v,.int .i64 0]∧hs.take 7=[ct b v,eH v n K,aq lb true [tv.v],al false tv len T,r1,r2,al true o len (eu n K B T)])
  (args:=[.ptr 0 0,.agg [.cD .u8 16 (.aO 2)],.sl 1 (.lit 0) 1 (.lit 1) (.lit 1)]) (hp:=Sl) MF
  (PK adE (fun x hs=> ∃(o:V1) (r1 r2:HP),x= .tuple #[o.v,.int .i64 0]∧hs=[ct b v,eH v n K,aq lb true [tv.v],al false tv len T,r1,r2,al true o len (eu n K B T)]) (Int.ofNat (4*(n+7))) (Int.ofNat len) (fun j=>(sb j:Nat)) (cw n K) (fun j=>(B j:Nat)) (fun j=>(T j:Nat)) v tv b lb (fun _=>LC.none)) ?_
 ·have hv:SV.vals {iv:=[Int.ofNat (4*(n+7)),Int.ofNat len],av:=[fun j=>(sb j:Nat),cw n K,fun j=>(B j:Nat),fun j=>(T j:Nat)],bv:=[b,lb],vv:=[v,tv]} [.ptr 0 0,.agg [.cD .u8 16 (.aO 2)],.sl 1 (.lit 0) 1 (.lit 1) (.lit 1)]=[.pointer (some ⟨b,0,none⟩),bW B,.slice (some ⟨lb,0,none⟩) 1 1]:=by
   show [_,Value.agg (ads (aj .u8 16 fun j=>(B j:Nat)) []).toArray,_]=_;rw [adG,List.append_nil];rfl
  rw [hv]at h;refine ar.post h fun x hs hq=>?_
  obtain⟨o,r1,r2,hx,hh⟩:=hq;refine⟨[ct b v,eH v n K,aq lb true [tv.v],al false tv len T,al true o len (eu n K B T)],?_,o,hx,rfl⟩;refine bU.trans (bU.sub (List.take_sublist 7 hs)) ?_;rw [hh];exact bU.sub (by repeat (first | exact List.Sublist.slnil | apply List.Sublist.cons_cons | apply List.Sublist.cons))
 unfold Ii;generalize hx:Int.ofNat (4*(n+7))=x0;have hlen:Int.ofNat len=(len:Int):=rfl;rw [hlen];intro b2 b3
 iterate 3 refine⟨by omega,fun _=>?_⟩
 intro v2 _ _ _ _ _ _;refine⟨fun e=> ∃r:Nat,(r=0∨16*r<len)∧e.i.getD 0 0=((16*r:Nat):Int)∧(∀j,j<16→(e.a.getD 0 fun _=>0) j=(N_ B r j:Nat))∧∀j,j<len→(e.a.getD 1 fun _=>0) j=((if j<16*r then eu n K B T j else T j:Nat):Int),
  fun e=>((len:Int)+1 - e.i.getD 0 0).toNat,⟨0,_,_,fun _ _=>rfl,rfl,fun _ _=>rfl,0,.inl rfl,rfl,fun _ _=>rfl,fun j hj=>?_⟩,?_⟩
 ·simp
 rintro x2 A4 A5 ⟨r,hr,h0,hA,hC⟩;simp only [ah,adx]at h0 hA hC;subst h0;have hN:=Cg B hB r;refine⟨EI n K (N_ B r) b v,?_,?_⟩
 ·rw [dN hA,←hx];exact rq b v n hn KX K _ hK hN
 rintro x hs ⟨rfl,rfl⟩;have hE:=yq n K (N_ B r) hK hN;refine⟨fun j=>(enc n K (N_ B r) j:Nat),by rw [adG,List.append_nil],by rw [←hx];rfl,?_⟩;intro _;refine⟨fun e=> ∃i:Nat,i≤16∧16*r+i≤len∧e.i.getD 0 0=(i:Int)∧e.i.getD 1 0=((16*r+i:Nat):Int)∧∀j,j<len→(e.a.getD 0 fun _=>0) j=((if j<16*r+i then eu n K B T j else T j:Nat):Int),
  fun e=>((16:Int) - e.i.getD 0 0).toNat,⟨0,_,_,rfl,fun _ _=>rfl,rfl,0,by omega,by omega,rfl,rfl,hC⟩,?_⟩
 rintro x3 x4 A7 ⟨i,hi,Da,h3,h4,hD⟩;simp only [ah,adx]at h3 h4 hD;subst h3 h4;have tn:ag (len:Int)=len:=rfl;have ti:ag (i:Int)=i:=rfl;have tr:ag ((16*r+i:Nat):Int)=16*r+i:=rfl;refine⟨by omega,fun _=>⟨fun bP=>?_,fun ig=>?_⟩⟩
 ·repeat (first | (intro _) | (refine⟨by omega,fun _=>?_⟩))
  have abP:i<16:=by omega
  have R5:16*r+i<len:=by omega
  refine⟨((i+1:Nat):Int),((16*r+(i+1):Nat):Int),_,by omega,fun _ _=>rfl,by omega,⟨i+1,by omega,by omega,rfl,rfl,?_⟩,?_⟩
  ·intro j hj;simp only [ah];rw [tr,ti,hD _ R5,if_neg (by omega)];unfold ao;split
   ·rename_i e;subst e;rw [if_pos (by omega),cz (hT _) (hE _)];unfold eu;rw [show(16*r+i)/16=r by omega,show(16*r+i)%16=i by omega]
   ·rename_i e;rw [hD j hj];by_cases N0:j<16*r+i
    ·rw [if_pos N0,if_pos (by omega)]
    ·rw [if_neg N0,if_neg (by omega)]
  ·simp only [ah];omega
 ·refine⟨by omega,fun _=>⟨fun he=>?_,fun dR=>?_⟩⟩
  ·refine⟨v2,aq b2 true ((aj .u8 16 fun j=>((B j:Nat):Int)).append []),aq b3 true [v2.v],rfl,?_⟩;have e1:aK (ag (len:Int)) [aJ .u8 1 A7]=aK len [aJ .u8 1 fun j=>(eu n K B T j:Nat)]:=cm fun j hj=>by rw [hD j hj,if_pos (by omega)]
   rw [e1,←hx];rfl
  ·refine⟨fun x hs=>x=bW (nx (N_ B r))∧hs=[],?_,?_⟩
   ·rw [dN hA];exact fi _ hN
   rintro x hs ⟨rfl,rfl⟩;have SA:i=16:=by omega
   subst SA;refine⟨fun j=>(nx (N_ B r) j:Nat),by unfold bW;rw [adG,List.append_nil],rfl,((16*(r+1):Nat):Int),_,_,fun _ _=>rfl,by omega,fun _ _=>rfl,⟨r+1,.inr (by omega),rfl,fun _ _=>rfl,fun j hj=>?_⟩,?_⟩
   ·simp only [ah,adx];rw [hD j hj,show 16*r+16=16*(r+1) by omega]
   ·simp only [ah];omega
end Go.RX.Fg

namespace Go.Gh
def xs:Nat→(Nat→Bool)→Bool
 | 0,_=>false
 | n+1,f=>xs n f ^^ f n
theorem bF{n:Nat}{f g:Nat→Bool}(h: ∀j,j<n→f j=g j):xs n f=xs n g:=by
 induction n with
 | zero=>rfl
 | succ n ih=>rw [xs,xs,ih fun j hj=>h j (by omega),h n (by omega)]
theorem yu(n:Nat)(f g:Nat→Bool):xs n (fun j=>f j ^^ g j)=(xs n f ^^ xs n g):=by
 induction n with
 | zero=>rfl
 | succ n ih=>
  rw [xs,xs,xs,ih];cases xs n f<;>cases xs n g<;>cases f n<;>cases g n<;>rfl
theorem ru(n:Nat)(b:Bool)(f:Nat→Bool):xs n (fun j=>b&&f j)=(b&&xs n f):=by
 induction n with
 | zero=>cases b<;>rfl
 | succ n ih=>rw [xs,xs,ih];cases b<;>simp
theorem pB(n:Nat):xs n (fun _=>false)=false:=by
 induction n with
 | zero=>rfl
 | succ n ih=>rw [xs,ih];rfl
theorem wF(n m:Nat)(f:Nat→Nat→Bool):xs n (fun a=>xs m (f a))=xs m (fun b=>xs n fun a=>f a b):=by
 induction n with
 | zero=>exact(pB m).symm
 | succ n ih=>
  rw [xs,ih,←yu];exact bF fun b _=>rfl
theorem SB(n k:Nat)(hk:k<n)(b:Bool):xs n (fun j=>b&&decide (j=k))=b:=by
 induction n with
 | zero=>omega
 | succ n ih=>
  rw [xs];by_cases h:k=n
  ·subst h;rw [bF (g:=fun _=>false) (fun j hj=>by have: ¬j=k:=(by omega);simp [this]),pB];simp
  ·have: ¬n=k:=fun h'=>h h'.symm
   rw [ih (by omega)];simp [this]
theorem wG(n k:Nat)(hk:k<n)(f:Nat→Bool):xs n (fun j=>f j&&decide (j=k))=f k:=by
 rw [←SB n k hk (f k)];refine bF fun j _=>?_
 by_cases h:j=k
 ·subst h;rfl
 ·simp [h]
def xt(f:Nat→Bool):Nat→Bool:=fun i=>if i=0 then f 127 else f (i - 1) ^^ (f 127&&(decide (i=1)||decide (i=2)||decide (i=7)))
def mA:Nat→(Nat→Bool)→(Nat→Bool)
 | 0,f=>f
 | n+1,f=>xt (mA n f)
def add(f g:Nat→Bool):Nat→Bool:=fun i=>f i ^^ g i
theorem SC(f g:Nat→Bool):xt (add f g)=add (xt f) (xt g):=by
 funext i;unfold xt add;by_cases h:i=0
 ·simp [h]
 ·simp only [h,if_false];generalize (decide (i=1)||decide (i=2)||decide (i=7))=w;cases f (i - 1)<;>cases g (i - 1)<;>cases f 127<;>cases g 127<;>cases w<;>rfl
theorem jK(n:Nat)(f g:Nat→Bool):mA n (add f g)=add (mA n f) (mA n g):=by
 induction n with
 | zero=>rfl
 | succ n ih=>rw [mA,ih,SC];rfl
theorem Im{f g:Nat→Bool}(h: ∀i,i<128→f i=g i): ∀i,i<128→xt f i=xt g i:=by
 intro i hi;unfold xt;rw [h 127 (by omega)];split
 ·rfl
 ·rw [h (i - 1) (by omega)]
theorem pC(n:Nat){f g:Nat→Bool}(h: ∀i,i<128→f i=g i): ∀i,i<128→mA n f i=mA n g i:=by
 induction n with
 | zero=>exact h
 | succ n ih=>exact Im ih
theorem sH(a b:Nat)(f:Nat→Bool):mA a (mA b f)=mA (a+b) f:=by
 induction a with
 | zero=>rw [Nat.zero_add];rfl
 | succ a ih=>rw [mA,ih,show a+1+b=(a+b)+1 by omega];rfl
def e(k:Nat):Nat→Bool:=fun i=>decide (i=k)
def R(k:Nat):Nat→Bool:=mA k (e 0)
theorem X1(k:Nat)(hk:k<127):xt (e k)=e (k+1):=by
 funext i;unfold xt e;by_cases h:i=0
 ·subst h;simp;omega
 ·simp only [h,if_false];have h1:decide (127=k)=false:=by simp;omega
  rw [h1];simp;omega
theorem SD(k:Nat)(hk:k<128):R k=e k:=by
 induction k with
 | zero=>rfl
 | succ k ih=>
  show xt (R k)=_;rw [ih (by omega),X1 k (by omega)]
theorem pD(a b:Nat):mA a (R b)=R (a+b):=sH a b (e 0)
theorem X2: ∀i:Fin 128,R 128 i.val=(R 0 i.val ^^ R 1 i.val ^^ R 2 i.val ^^ R 7 i.val):=by
 intro i;show xt (R 127) i.val=_;rw [SD 127 (by decide),SD 0 (by decide),SD 1 (by decide),SD 2 (by decide),SD 7 (by decide)];unfold xt e;have hi:=i.isLt;by_cases h:i.val=0
 ·simp [h]
 ·simp only [h,if_false];have h1:decide (i.val - 1=127)=false:=by simp;omega
  rw [h1];by_cases h2:i.val=1
  ·simp [h2]
  ·by_cases h3:i.val=2
   ·simp [h3]
   ·simp [h2,h3]
theorem SE(k i:Nat)(hi:i<128):R (k+128) i=(R k i ^^ R (k+1) i ^^ R (k+2) i ^^ R (k+7) i):=by
 have h0: ∀i,i<128→R 128 i=add (add (add (R 0) (R 1)) (R 2)) (R 7) i:=fun i hi=>X2 ⟨i,hi⟩
 have:=pC k h0 i hi;rw [jK,jK,jK,pD,pD,pD,pD,pD]at this;exact this
theorem MO(f:Nat→Bool)(i:Nat)(hi:i<128):f i=xs 128 (fun b=>f b&&R b i):=by
 rw [←wG 128 i hi f];refine bF fun b hb=>?_
 rw [SD b hb];unfold e;by_cases h:b=i
 ·simp [h]
 ·have: ¬i=b:=fun h'=>h h'.symm
  simp [h,this]
theorem Ch(a n:Nat)(c:Nat→Bool)(g:Nat→Nat→Bool)(i:Nat):mA a (fun i=>xs n fun b=>c b&&g b i) i=xs n (fun b=>c b&&mA a (g b) i):=by
 induction n with
 | zero=>
  show mA a (fun _=>false) i=false;have: ∀a,mA a (fun _=>false)=fun _=>false:=by
   intro a
   induction a with
   | zero=>rfl
   | succ a ih=>rw [mA,ih];funext j;unfold xt;split<;>simp
  rw [this]
 | succ n ih=>
  have e1:(fun i=>xs (n+1) fun b=>c b&&g b i)=add (fun i=>xs n fun b=>c b&&g b i) (fun i=>c n&&g n i):=rfl;rw [e1,jK];unfold add;rw [ih,xs];congr 1;cases c n
  ·have: ∀a,mA a (fun _=>false)=fun _=>false:=by
    intro a
    induction a with
    | zero=>rfl
    | succ a ih=>rw [mA,ih];funext j;unfold xt;split<;>simp
   simp [this]
  ·simp
theorem yv(a:Nat)(q:Nat→Bool)(i:Nat)(hi:i<128):mA a q i=xs 128 (fun b=>q b&&R (a+b) i):=by
 have h: ∀i,i<128→q i=(fun i=>xs 128 fun b=>q b&&R b i) i:=fun i hi=>MO q i hi
 rw [pC a h i hi,Ch a 128 q R i];exact bF fun b _=>by rw [pD]
def gm(p q:Nat→Bool):Nat→Bool:=fun i=>xs 128 fun a=>xs 128 fun b=>(p a&&q b)&&R (a+b) i
def ns(p q:Nat→Bool):Nat→(Nat→Bool)
 | 0=>fun _=>false
 | k+1=>fun i=>xt (ns p q k) i ^^ (p (127 - k)&&q i)
theorem Io(p q:Nat→Bool): ∀(k:Nat),k≤128→∀i,i<128→ns p q k i=xs k (fun j=>p (128 - k+j)&&mA j q i)
 | 0,_,i,_=>rfl
 | k+1,hk,i,hi=>by
  have ih:=Io p q k (by omega);have h1:xt (ns p q k) i=xs k (fun j=>p (128 - k+j)&&mA (j+1) q i):=by
   rw [Im (f:=ns p q k) (g:=fun i=>xs k fun j=>p (128 - k+j)&&mA j q i) ih i hi];exact Ch 1 k (fun j=>p (128 - k+j)) (fun j=>mA j q) i
  show(xt (ns p q k) i ^^ (p (127 - k)&&q i))=_;rw [h1];clear ih h1;have h2: ∀(n:Nat) (f:Nat→Bool),xs (n+1) f=(f 0 ^^ xs n fun j=>f (j+1)):=by
   intro n f
   induction n with
   | zero=>simp [xs]
   | succ n ih=>rw [xs,ih,xs];cases f 0<;>simp
  rw [h2,show 128 - (k+1)+0=127 - k by omega,Bool.xor_comm];congr 1;refine bF fun j _=>?_
  rw [show 128 - (k+1)+(j+1)=128 - k+j by omega]
theorem SF(p q:Nat→Bool)(i:Nat)(hi:i<128):ns p q 128 i=gm p q i:=by
 rw [Io p q 128 (Nat.le_refl _) i hi];refine bF fun a _=>?_
 rw [show 128 - 128+a=a by omega,yv a q i hi,←ru];refine bF fun b _=>?_
 cases p a<;>cases q b<;>simp
def conv(p q:Nat→Bool):Nat→Bool:=fun k=>xs 128 fun a=>xs 128 fun b=>(p a&&q b)&&decide (a+b=k)
end Go.Gh
