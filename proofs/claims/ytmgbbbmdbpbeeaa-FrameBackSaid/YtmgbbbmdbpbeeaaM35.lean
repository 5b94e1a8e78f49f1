/- Sealed texts. -/
import Derived.Test.YtmgbbbmdbpbeeaaM34
open Go.IntKind renaming wrap → ae
open Go.Proofs.Try renaming prog → adE
open Int renaming toNat → ag
open List renaming append → ads, append_eq → adG, getD_cons_zero → ah, getElem?_eq_some_iff → adu, mem_cons → adW, not_mem_nil → adP
open List.cons renaming injEq → adF
open Nat renaming mod_eq_of_lt → adQ
namespace Go.RX.Fi
open Go Go.RX Go.Proofs Go.Ae Go.RX.Sh Go.RX.Fe Go.RX.Fg Go.RX.Fh Go.Gh Go.Gc
def eF(N:Nat→Nat):Value:= .agg (ads (aj .u8 12 fun j=>(N j:Nat)) []).toArray
theorem eU(N:Nat→Nat):ar adE 51 [eF N] [] fun x hs=>x=bW (dT N 1)∧hs=[]:=by
 refine Mx _ (fun j=>(N j:Nat)) ?_;unfold ED;intro _ _ _;refine⟨?_,rfl⟩;unfold bW;congr 2
def m8(n m:Nat)(A B:Nat→Nat):Bool:=decide (n=m∧∀j,j<n→A j=B j)
def diff(A B:Nat→Nat):Nat→Nat
 | 0=>0
 | n+1=>diff A B n|||(A n^^^B n)
theorem xor_zero{a b:Nat}:a^^^b=0↔a=b:=by
 constructor
 ·intro h;have:=congrArg (· ^^^b) h;simp only [Nat.xor_assoc,Nat.xor_self,Nat.xor_zero,Nat.zero_xor]at this;exact this
 ·rintro rfl;exact Nat.xor_self a
theorem AM(A B:Nat→Nat): ∀n,diff A B n=0↔∀j,j<n→A j=B j
 | 0=>by simp [diff]
 | n+1=>by
  rw [diff,Nat.or_eq_zero_iff,AM A B n,xor_zero];constructor
  ·rintro ⟨h1,h2⟩ j hj;rcases Nat.lt_succ_iff_lt_or_eq.1 hj with h | rfl
   ·exact h1 j h
   ·exact h2
  ·intro h;exact⟨fun j hj=>h j (by omega),h n (by omega)⟩
theorem Iv{A B:Nat→Nat}(hA: ∀j,A j<256)(hB: ∀j,B j<256): ∀n,diff A B n<256
 | 0=>by simp [diff]
 | n+1=>Nat.or_lt_two_pow (n:=8) (Iv hA hB n) (Nat.xor_lt_two_pow (n:=8) (hA n) (hB n))
theorem GR(v1 v2:V1)(n m:Nat)(A B:Nat→Nat)(hA: ∀j,A j<256)(hB: ∀j,B j<256)(hn:n≤140737488355328):
  ar adE 44 [v1.v,v2.v] [al false v1 n A,al false v2 m B] fun x hs=>x= .bool (m8 n m A B)∧hs=[]:=by
 refine HH _ (n:Int) (m:Int) (fun j=>(A j:Nat)) (fun j=>(B j:Nat)) v1 v2 ?_;unfold wj;refine⟨by omega,fun _=>⟨by omega,fun _=>⟨fun dR=>?_,fun heq=>?_⟩⟩⟩
 ·refine⟨?_,rfl⟩;congr 1;unfold m8;rw [decide_eq_false];omega
 ·have Re:n=m:=by omega
  subst Re;refine⟨fun e=> ∃i:Nat,i≤n∧e.i=[(i:Int),(diff A B i:Nat)],fun e=>(n - e.i.getD 0 0).toNat,⟨0,0,rfl,rfl,0,by omega,rfl⟩,?_⟩;rintro x2 x3 ⟨i,hi,hx⟩;simp only [adF,and_true]at hx;obtain⟨rfl,rfl⟩:=hx;refine⟨fun bP=>?_,fun ig=>?_⟩
  ·iterate 4 refine⟨by omega,fun _=>?_⟩
   refine⟨(i:Int)+1,(diff A B (i+1):Nat),rfl,?_,⟨i+1,by omega,rfl⟩,?_⟩
   ·rw [Int.toNat_natCast,cz (hA i) (hB i),or8 (Iv hA hB i) (Nat.xor_lt_two_pow (n:=8) (hA i) (hB i))];rfl
   ·simp only [ah];omega
  ·have:i=n:=by omega
   subst this;refine⟨?_,rfl⟩;congr 1;unfold m8;rw [Bool.eq_iff_iff];simp only [beq_iff_eq,decide_eq_true_eq,true_and];rw [←AM];omega
open Go Go.RX Go.Proofs Go.Ae Go.RX.Sh Go.RX.Fe Go.RX.Fg Go.RX.Fh Go.Gh Go.Gc
theorem wE(k:IntKind)(a b:Nat):ak .rem k (a:Int) (b:Int)=((a%b:Nat):Int):=rfl
theorem Iw(n:Nat):ak .rem .i64 (16 - ak .rem .i64 (n:Int) 16) 16=((eE n:Nat):Int):=by
 have h:ak .rem .i64 (n:Int) 16=((n%16:Nat):Int):=rfl;rw [h,show(16:Int) - ((n%16:Nat):Int)=((16 - n%16:Nat):Int) by omega];rfl
theorem MU(n s:Nat)(hs:s≤64):ae .u8 (ak .shr .u64 (ak .shl .u64 (ae .u64 (n:Int)) 3) (s:Int))=((n*8%2^64/2^s%256:Nat):Int):=by
 have h:ak .shl .u64 (ae .u64 (n:Int)) 3=((n*8%2^64:Nat):Int):=by
  rw [wrap_u64];have:=yw (n%2^64) 3 (by decide);rw [show((3:Nat):Int)=3 from rfl]at this;rw [this];congr 1;omega
 rw [h,fM .u64 _ s (by exact hs),wrap_u8,Nat.shiftRight_eq_div_pow]
theorem J9(n1 n2:Nat)(j:Nat)(hj:j<16):(ao (ao (ao (ao (ao (ao (ao (ao (ao (ao (ao (ao (ao (ao (ao (ao (fun _=>0) 0 (ae .u8 (ak .shr .u64 (ak .shl .u64 (ae .u64 (n1:Int)) 3) 56))) 1 (ae .u8 (ak .shr .u64 (ak .shl .u64 (ae .u64 (n1:Int)) 3) 48))) 2 (ae .u8 (ak .shr .u64 (ak .shl .u64 (ae .u64 (n1:Int)) 3) 40))) 3 (ae .u8 (ak .shr .u64 (ak .shl .u64 (ae .u64 (n1:Int)) 3) 32))) 4 (ae .u8 (ak .shr .u64 (ak .shl .u64 (ae .u64 (n1:Int)) 3) 24))) 5 (ae .u8 (ak .shr .u64 (ak .shl .u64 (ae .u64 (n1:Int)) 3) 16))) 6 (ae .u8 (ak .shr .u64 (ak .shl .u64 (ae .u64 (n1:Int)) 3) 8))) 7 (ae .u8 (ak .shr .u64 (ak .shl .u64 (ae .u64 (n1:Int)) 3) 0))) 8 (ae .u8 (ak .shr .u64 (ak .shl .u64 (ae .u64 (n2:Int)) 3) 56))) 9 (ae .u8 (ak .shr .u64 (ak .shl .u64 (ae .u64 (n2:Int)) 3) 48))) 10 (ae .u8 (ak .shr .u64 (ak .shl .u64 (ae .u64 (n2:Int)) 3) 40))) 11 (ae .u8 (ak .shr .u64 (ak .shl .u64 (ae .u64 (n2:Int)) 3) 32))) 12 (ae .u8 (ak .shr .u64 (ak .shl .u64 (ae .u64 (n2:Int)) 3) 24))) 13 (ae .u8 (ak .shr .u64 (ak .shl .u64 (ae .u64 (n2:Int)) 3) 16))) 14 (ae .u8 (ak .shr .u64 (ak .shl .u64 (ae .u64 (n2:Int)) 3) 8))) 15 (ae .u8 (ak .shr .u64 (ak .shl .u64 (ae .u64 (n2:Int)) 3) 0))) j=((P3 n1 n2 j:Nat):Int):=by
 have e:=fun(n s:Nat) (hs:s≤64)=>MU n s hs
 match j,hj with
 | 0,_=>exact e n1 56 (by decide)
 | 1,_=>exact e n1 48 (by decide)
 | 2,_=>exact e n1 40 (by decide)
 | 3,_=>exact e n1 32 (by decide)
 | 4,_=>exact e n1 24 (by decide)
 | 5,_=>exact e n1 16 (by decide)
 | 6,_=>exact e n1 8 (by decide)
 | 7,_=>exact e n1 0 (by decide)
 | 8,_=>exact e n2 56 (by decide)
 | 9,_=>exact e n2 48 (by decide)
 | 10,_=>exact e n2 40 (by decide)
 | 11,_=>exact e n2 32 (by decide)
 | 12,_=>exact e n2 24 (by decide)
 | 13,_=>exact e n2 16 (by decide)
 | 14,_=>exact e n2 8 (by decide)
 | 15,_=>exact e n2 0 (by decide)
 | j+16,h=>exact absurd h (by omega)
def SO(b:Nat)(v:V1)(n:Nat)(K N:Nat→Nat)(n1:Nat)(A:Nat→Nat)(n2:Nat)(T:Nat→Nat)(x:Value)(hs:List HP):Prop:=
 ∃o:V1,x=o.v∧hs=[ct b v,eH v n K,al true o 16 (jl n K N n1 A n2 T)]
set_option maxHeartbeats 1000000 in
theorem J_(b:Nat)(v v1 v2:V1)(n:Nat)(hn:0<n)(KX:n<100)(K N A T:Nat→Nat)(hK: ∀j,K j<256)(hN: ∀j,N j<256)(hA: ∀j,A j<256)(hT: ∀j,T j<256)(n1 n2:Nat)(hl:n1+n2+64≤140737488355328):
  ar adE 52 [.pointer (some ⟨b,0,none⟩),eF N,v1.v,v2.v] [ct b v,eH v n K,al false v1 n1 A,al false v2 n2 T] (SO b v n K N n1 A n2 T):=by
 refine Su (SO b v n K N n1 A n2 T) (Int.ofNat (4*(n+7))) (n1:Int) (n2:Int) (fun j=>(sb j:Nat)) (cw n K) (fun j=>(N j:Nat)) (fun j=>(A j:Nat)) (fun j=>(T j:Nat)) v v1 v2 b ?_;unfold My;generalize hx:Int.ofNat (4*(n+7))=x0;rw [Iw n1,Iw n2];have hp1:=Iu n1;have hp2:=Iu n2;have X8:ak .rem .i64 (n1:Int) 16=((n1%16:Nat):Int):=rfl;have Vp:ak .rem .i64 (n2:Int) 16=((n2%16:Nat):Int):=rfl;rw [X8,Vp];intro b1 b2
 repeat (first | (intro _) | (refine⟨by omega,fun _=>?_⟩))
 have hz: ∀j:Nat,(fun _:Nat=>0) j<256:=fun _=>(by show 0<256;decide)
 refine⟨EI n K (fun _=>0) b v,?_,?_⟩
 ·rw [dN (A:=fun _=>0) (B:=fun _=>0) fun _ _=>rfl,←hx];exact rq b v n hn KX K _ hK hz
 rintro x hs ⟨rfl,rfl⟩;refine⟨fun j=>(enc n K (fun _=>0) j:Nat),by rw [adG,List.append_nil],by rw [←hx];rfl,?_⟩
 repeat (first | (intro _) | (refine⟨by omega,fun _=>?_⟩))
 have hE:=yq n K (fun _=>0) hK hz;rename_i FJ;refine⟨fun x hs=>x=bW (ku (enc n K fun _=>0) (vX n1 A n2 T) (J8 n1 n2))∧hs=[],?_,?_⟩
 ·have hm:=GQ FJ (enc n K fun _=>0) (vX n1 A n2 T) hE (SN hA hT) (J8 n1 n2);have e:al true FJ (J8 n1 n2) (vX n1 A n2 T)=au true 5 1 FJ.v (ag ((((n1:Int)+(eE n1:Nat))+n2)+(eE n2:Nat)+16)) (aK (ag ((((n1:Int)+(eE n1:Nat))+n2)+(eE n2:Nat)+16)) [aJ .u8 1 fun j=>(vX n1 A n2 T j:Nat)]):=by
   unfold al J8;rw [show ag ((((n1:Int)+(eE n1:Nat))+n2)+(eE n2:Nat)+16)=n1+eE n1+n2+eE n2+16 by omega]
  rw [dN (B:=enc n K fun _=>0) fun _ _=>rfl];rw [e]at hm;dsimp only [bo,bi,bn];rw [cm (g:=fun j=>(vX n1 A n2 T j:Nat))]
  ·exact hm
  ·intro j hj;have q1:ag (n1:Int)=n1:=rfl;have q2:ag (n2:Int)=n2:=rfl;have q3:ag ((eE n1:Nat):Int)=eE n1:=rfl;have q4:ag ((eE n2:Nat):Int)=eE n2:=rfl;have q5:ag ((n1:Int)+(eE n1:Nat))=n1+eE n1:=by omega
   have q6:ag ((n1:Int)+(eE n1:Nat)+n2)=n1+eE n1+n2:=by omega
   have q7:ag ((n1:Int)+(eE n1:Nat)+n2+(eE n2:Nat))=n1+eE n1+n2+eE n2:=by omega
   rw [q1,q2,q3,q4,q5,q6,q7];have kz:j<n1+eE n1+n2+eE n2+16:=by omega
   unfold aA vX;by_cases c1:j<n1
   ·rw [if_neg (by omega),if_neg (by omega),if_neg (by omega),if_neg (by omega),if_pos c1]
   rw [if_neg c1];by_cases c2:j<n1+eE n1
   ·rw [if_neg (by omega),if_neg (by omega),if_neg (by omega),if_pos (by omega),if_pos c2];rfl
   rw [if_neg c2];by_cases c3:j<n1+eE n1+n2
   ·rw [if_neg (by omega),if_neg (by omega),if_pos (by omega),if_pos c3]
   rw [if_neg c3];by_cases c4:j<n1+eE n1+n2+eE n2
   ·rw [if_neg (by omega),if_pos (by omega),if_pos c4];rfl
   ·rw [if_pos (by omega),if_neg c4];exact J9 n1 n2 _ (by omega)
 rintro x hs ⟨rfl,rfl⟩;have hH:=EM (enc n K fun _=>0) (vX n1 A n2 T) (J8 n1 n2);generalize hh:ku (enc n K fun _=>0) (vX n1 A n2 T) (J8 n1 n2)=H at hH ⊢;refine⟨fun j=>(H j:Nat),by unfold bW;rw [adG,List.append_nil],rfl,?_⟩;intro CX;have hC:=iX hN (c:=1) (by decide);have hB:ay [aq CX true (ads (aj .u8 16 fun j=>(H j:Nat)) [])] (aL (.slice (some ⟨CX,0,none⟩) 16 16) 16 H):=by
  rw [adG,List.append_nil];exact ay.block (fun _ _=>rfl) (Nat.le_refl _)
 have qK:=fun zd=>fY (B:=[aq CX true (ads (aj .u8 16 fun j=>(H j:Nat)) [])]) (x:= .slice (some ⟨CX,0,none⟩) 16 16) rfl b zd v n hn KX K (dT N 1) H hK hC hH 16 (by decide) hB
 have fin: ∀o:V1,SO b v n K N n1 A n2 T o.v [ct b v,eH v n K,al true o 16 (eu n K (dT N 1) H)]:=fun o=>⟨o,rfl,by rw [←hh];rfl⟩
 constructor
 ·refine⟨_,eU N,?_⟩;rintro x hs ⟨rfl,rfl⟩;refine⟨fun j=>(dT N 1 j:Nat),by unfold bW;rw [adG,List.append_nil],rfl,?_⟩;intro zd;refine⟨_,by rw [dN (B:=dT N 1) fun _ _=>rfl,←hx];exact qK zd,?_⟩;rintro x hs ⟨o,rfl,rfl⟩;exact⟨o,fun j=>(eu n K (dT N 1) H j:Nat),rfl,by rw [←hx];rfl,by rw [←hx];exact fin o⟩
 ·intro zd;refine⟨_,eU N,?_⟩;rintro x hs ⟨rfl,rfl⟩;refine⟨fun j=>(dT N 1 j:Nat),by unfold bW;rw [adG,List.append_nil],rfl,?_⟩;refine⟨_,by rw [dN (B:=dT N 1) fun _ _=>rfl,←hx];exact qK zd,?_⟩;rintro x hs ⟨o,rfl,rfl⟩;exact⟨o,fun j=>(eu n K (dT N 1) H j:Nat),rfl,by rw [←hx];rfl,by rw [←hx];exact fin o⟩
open Go Go.RX Go.Proofs Go.Ae Go.RX.Sh Go.RX.Fe Go.RX.Fg Go.RX.Fh Go.Gh Go.Gc
theorem qf{B:List HP}{x1 x2:Value}(h1:x1.oneCell'=true)(h2:x2.oneCell'=true)(b:Nat)(v:V1)(n:Nat)(hn:0<n)(KX:n<100)(K N A T:Nat→Nat)(hK: ∀j,K j<256)(hN: ∀j,N j<256)(hA: ∀j,A j<256)(hT: ∀j,T j<256)(n1 n2:Nat)(hl:n1+n2+64≤140737488355328)
  (BN:ay B (aL x1 n1 A)) (C_:ay B (aL x2 n2 T)):
  ar adE 52 [.pointer (some ⟨b,0,none⟩),eF N,x1,x2] ([ct b v,eH v n K]++B) fun r hs=> ∃o:V1,r=o.v∧hs=[ct b v,eH v n K]++B++[al true o 16 (jl n K N n1 A n2 T)]:=by
 have h:ar adE 52 [.pointer (some ⟨b,0,none⟩),eF N,x1,x2] ([ct b v,eH v n K]++[aL x1 n1 A,aL x2 n2 T]) fun r hs=> ∃nw,(∃o:V1,r=o.v∧nw=[al true o 16 (jl n K N n1 A n2 T)])∧hs=[ct b v,eH v n K]++nw:=by
  refine ar.post (J_ b v ⟨x1,h1⟩ ⟨x2,h2⟩ n hn KX K N A T hK hN hA hT n1 n2 hl) ?_;rintro r hs ⟨o,hr,rfl⟩;exact⟨_,bU.refl _,_,⟨o,hr,rfl⟩,rfl⟩
 refine ar.post (ar.iV h ?_ ?_ ?_) ?_
 ·intro h hh;simp only [adW,adP,or_false]at hh;rcases hh with rfl | rfl<;>rfl
 ·rintro v nw ⟨o,_,rfl⟩ h hh;simp only [adW,adP,or_false]at hh;subst hh;rfl
 ·intro h hh;simp only [adW,adP,or_false]at hh;rcases hh with rfl | rfl
  ·exact BN
  ·exact C_
 ·rintro r hs ⟨nw,⟨o,hr,rfl⟩,rfl⟩;exact⟨_,bU.refl _,o,hr,rfl⟩
theorem n_{B:List HP}{x1 x2:Value}(h1:x1.oneCell'=true)(h2:x2.oneCell'=true)(n m:Nat)(S T:Nat→Nat)(hA: ∀j,S j<256)(hB: ∀j,T j<256)(hn:n≤140737488355328)(BN:ay B (aL x1 n S))(C_:ay B (aL x2 m T)):
  ar adE 44 [x1,x2] B fun r hs=>r= .bool (m8 n m S T)∧hs=B:=by
 have h:ar adE 44 [x1,x2] ([]++[aL x1 n S,aL x2 m T]) fun r hs=> ∃nw,(r= .bool (m8 n m S T)∧nw=[])∧hs=[]++nw:=by
  refine ar.post (GR ⟨x1,h1⟩ ⟨x2,h2⟩ n m S T hA hB hn) ?_;rintro r hs ⟨hr,rfl⟩;exact⟨[],bU.refl _,[],⟨hr,rfl⟩,rfl⟩
 refine ar.post (ar.iV h (by simp) ?_ ?_) ?_
 ·rintro v nw ⟨_,rfl⟩ h hh;simp at hh
 ·intro h hh;simp only [adW,adP,or_false]at hh;rcases hh with rfl | rfl
  ·exact BN
  ·exact C_
 ·rintro r hs ⟨nw,⟨hr,rfl⟩,rfl⟩;exact⟨B,by simpa using bU.refl B,hr,rfl⟩
def opens(n:Nat)(K N:Nat→Nat)(n1:Nat)(A:Nat→Nat)(m:Nat)(T:Nat→Nat):Prop:=16≤m∧∀j,j<16→jl n K N n1 A (m - 16) T j=T (m - 16+j)
def pG(n:Nat)(K N:Nat→Nat)(n1:Nat)(A:Nat→Nat)(m:Nat)(T:Nat→Nat)(r:Value)(nw:List HP):Prop:=
 (opens n K N n1 A m T∧∃o:V1,r= .tuple #[o.v,.int .i64 0]∧nw=[al true o (m - 16) (df n K N T)])∨(¬opens n K N n1 A m T∧r= .tuple #[.slice none 0 0,.int .i64 140]∧nw=[])
set_option maxHeartbeats 1000000 in
theorem zF(v0 v1 v2:V1)(K N A T:Nat→Nat)(hK: ∀j,K j<256)(hN: ∀j,N j<256)(hA: ∀j,A j<256)(hT: ∀j,T j<256)(n1 n2:Nat)(hl:n1+n2+100≤140737488355328):
  ar adE 34 [v0.v,eF N,v1.v,v2.v] [al false v0 16 K,al false v1 n1 A,al false v2 n2 T] fun r hs=> ∃o:V1,r= .tuple #[o.v,.int .i64 0]∧hs=[al true o (n2+16) (iY 4 K N n1 A n2 T)]:=by
 refine ar.post (p:=fun r hs=> ∃(o:V1) (h2:HP),r= .tuple #[o.v,.int .i64 0]∧hs=[al true o (n2+16) (iY 4 K N n1 A n2 T),h2]) ?_ ?_;rotate_left
 ·rintro r hs ⟨o,h2,hr,rfl⟩;exact⟨_,bU.sub (by repeat (first | exact List.Sublist.slnil | apply List.Sublist.cons_cons | apply List.Sublist.cons)),o,hr,rfl⟩
 refine JZ _ (n1:Int) (n2:Int) (fun j=>(K j:Nat)) (fun j=>(N j:Nat)) (fun j=>(A j:Nat)) (fun j=>(T j:Nat)) v0 v1 v2 ?_;unfold AE;intro b0;refine⟨_,pz v0 K hK,?_⟩;rintro x hs ⟨b1,v3,rfl,rfl⟩;refine⟨b1,v3,fun j=>(sb j:Nat),cw 4 K,rfl,rfl,?_⟩;refine⟨_,eU N,?_⟩;rintro x hs ⟨rfl,rfl⟩;refine⟨fun j=>(dT N 1 j:Nat),by unfold bW;rw [adG,List.append_nil],rfl,?_⟩;have hC:=iX hN (c:=1) (by decide);refine⟨_,by rw [dN (B:=dT N 1) fun _ _=>rfl];exact fi _ hC,?_⟩;rintro x hs ⟨rfl,rfl⟩;refine⟨fun j=>(nx (dT N 1) j:Nat),by unfold bW;rw [adG,List.append_nil],rfl,?_⟩;have hX:=AK _ hC;intro b2;refine⟨_,by rw [dN (B:=nx (dT N 1)) fun _ _=>rfl];exact fY (B:=[al false v2 n2 T]) v2.one b1 b2 v3 4 (by decide) (by decide) K (nx (dT N 1)) T hK hX hT n2 (by omega) ay.view,?_⟩;rintro x hs ⟨v4,rfl,rfl⟩;refine⟨v4,fun j=>(df 4 K N T j:Nat),rfl,rfl,?_⟩;have hY:=sK (n:=4) hK hN hT;refine⟨_,qf (B:=[al false v1 n1 A,al true v4 n2 (df 4 K N T)]) v1.one v4.one b1 v3 4 (by decide) (by decide) K N A (df 4 K N T) hK hN hA hY n1 n2 (by omega) (ay.left (C:=[al true v4 n2 (df 4 K N T)]) ay.view) (ay.right (A:=[al false v1 n1 A]) ay.bytes),?_⟩;rintro x hs ⟨v5,rfl,rfl⟩;refine⟨v5,fun j=>(jl 4 K N n1 A n2 (df 4 K N T) j:Nat),rfl,rfl,?_⟩;refine⟨by omega,fun _=>⟨by omega,fun _=>?_⟩⟩;intro v6;refine⟨v6,al true v5 16 (jl 4 K N n1 A n2 (df 4 K N T)),rfl,?_⟩;congr 1;unfold al;dsimp only [bo,bi,bn];rw [show ag ((n2:Int)+16)=n2+16 by omega,Int.toNat_natCast];congr 1;refine cm fun j hj=>?_
 unfold aA iY;by_cases c:j<n2
 ·rw [if_neg (by omega),if_pos c]
 ·rw [if_pos (by omega),if_neg c]
theorem zG{B:List HP}{x0 x1 x2:Value}(h0:x0.oneCell'=true)(h1:x1.oneCell'=true)(h2:x2.oneCell'=true)(K N A T:Nat→Nat)(hK: ∀j,K j<256)(hN: ∀j,N j<256)(hA: ∀j,A j<256)(hT: ∀j,T j<256)(n1 n2:Nat)(hl:n1+n2+100≤140737488355328)
  (Ka:ay B (aL x0 16 K)) (BN:ay B (aL x1 n1 A)) (C_:ay B (aL x2 n2 T)):
  ar adE 34 [x0,eF N,x1,x2] B fun r hs=> ∃o:V1,r= .tuple #[o.v,.int .i64 0]∧hs=B++[al true o (n2+16) (iY 4 K N n1 A n2 T)]:=by
 have h:ar adE 34 [x0,eF N,x1,x2] ([]++[aL x0 16 K,aL x1 n1 A,aL x2 n2 T]) fun r hs=> ∃nw,(∃o:V1,r= .tuple #[o.v,.int .i64 0]∧nw=[al true o (n2+16) (iY 4 K N n1 A n2 T)])∧hs=[]++nw:=by
  refine ar.post (zF ⟨x0,h0⟩ ⟨x1,h1⟩ ⟨x2,h2⟩ K N A T hK hN hA hT n1 n2 hl) ?_;rintro r hs ⟨o,hr,rfl⟩;exact⟨_,bU.refl _,_,⟨o,hr,rfl⟩,rfl⟩
 refine ar.post (ar.iV h (by simp) ?_ ?_) ?_
 ·rintro v nw ⟨o,_,rfl⟩ h hh;simp only [adW,adP,or_false]at hh;subst hh;rfl
 ·intro h hh;simp only [adW,adP,or_false]at hh;rcases hh with rfl | rfl | rfl
  ·exact Ka
  ·exact BN
  ·exact C_
 ·rintro r hs ⟨nw,⟨o,hr,rfl⟩,rfl⟩;exact⟨_,bU.refl _,o,hr,rfl⟩
set_option maxHeartbeats 2000000 in
theorem zH(v0 v1 v2:V1)(K N A T:Nat→Nat)(hK: ∀j,K j<256)(hN: ∀j,N j<256)(hA: ∀j,A j<256)(hT: ∀j,T j<256)(n1 m:Nat)(hl:n1+m+100≤140737488355328):
  ar adE 37 [v0.v,eF N,v1.v,v2.v] [al false v0 16 K,al false v1 n1 A,al false v2 m T] (pG 4 K N n1 A m T):=by
 refine ar.post (p:=fun r hs=> ∃nC,bU hs nC∧pG 4 K N n1 A m T r nC) ?_ fun v hs h=>h
 refine J1 _ (n1:Int) (m:Int) (fun j=>(K j:Nat)) (fun j=>(N j:Nat)) (fun j=>(A j:Nat)) (fun j=>(T j:Nat)) v0 v1 v2 ?_;unfold AG;intro b0;refine⟨_,pz v0 K hK,?_⟩;rintro x hs ⟨b1,v3,rfl,rfl⟩;refine⟨b1,v3,fun j=>(sb j:Nat),cw 4 K,rfl,rfl,?_⟩;have hC:=iX hN (c:=1) (by decide);have hX:=AK _ hC
 iterate 7 refine⟨by omega,fun _=>?_⟩
 refine⟨fun ig=>?_,fun bP=>?_⟩
 ·have hm:16≤m:=by omega
  have t1:ag ((m:Int) - 16)=m - 16:=by omega
  have t2:ag (m:Int)=m:=rfl;dsimp only [bo,bi,bn];rw [t1,t2];have An:ay [al false v2 m T] (aL (aC 1 v2.v 0 (m - 16) none) (m - 16) T):=by
   have:=ay.part (lo:=0) (hi:=m - 16) (mx:=none) (ay.view (v:=v2) (n:=m) (T:=T)) (by omega) (by omega) (by simp);rw [Nat.sub_zero]at this;rw [n9 (T':=fun j=>T (0+j)) fun j _=>by rw [Nat.zero_add]];exact this
  have X9:ay [al false v2 m T] (aL (aC 1 v2.v (m - 16) m none) 16 fun j=>T (m - 16+j)):=by
   have:=ay.part (lo:=m - 16) (hi:=m) (mx:=none) (ay.view (v:=v2) (n:=m) (T:=T)) (by omega) (by omega) (by simp);rw [show m - (m - 16)=16 by omega]at this;exact this
  refine⟨_,qf (B:=[al false v1 n1 A,al false v2 m T]) v1.one (aI ..) b1 v3 4 (by decide) (by decide) K N A T hK hN hA hT n1 (m - 16) (by omega) (ay.left (C:=[al false v2 m T]) ay.view) (ay.right (A:=[al false v1 n1 A]) An),?_⟩;rintro x hs ⟨v4,rfl,rfl⟩;refine⟨v4,fun j=>(jl 4 K N n1 A (m - 16) T j:Nat),rfl,rfl,?_⟩;have hG:=Cn hK hN n1 A (m - 16) T (n:=4);rw [if_pos (show(!decide ((m:Int) - 16<0))=true by rw [decide_eq_false (by omega)];rfl)];refine⟨_,n_ (B:=[al true v4 16 (jl 4 K N n1 A (m - 16) T),al false v2 m T]) v4.one (aI ..) 16 16 (jl 4 K N n1 A (m - 16) T) (fun j=>T (m - 16+j)) hG (fun j=>hT _) (by decide) (ay.left (C:=[al false v2 m T]) ay.bytes) (ay.right (A:=[al true v4 16 (jl 4 K N n1 A (m - 16) T)]) X9),?_⟩;rintro x hs ⟨rfl,rfl⟩;refine⟨_,rfl,rfl,?_⟩;have m9:m8 16 16 (jl 4 K N n1 A (m - 16) T) (fun j=>T (m - 16+j))=true↔opens 4 K N n1 A m T:=by
   unfold m8 opens;simp [hm]
  refine⟨fun dR=>?_,fun heq=>?_⟩
  ·exact⟨[],bU.sub (List.nil_sublist _),.inr ⟨fun h=>dR (m9.2 h),rfl,rfl⟩⟩
  ·have hop:opens 4 K N n1 A m T:=m9.1 (by simpa using heq);refine⟨by omega,fun _=>⟨by omega,fun _=>?_⟩⟩;have fin: ∀o:V1,∃nC,bU [al true o (m - 16) (df 4 K N T)] nC∧pG 4 K N n1 A m T (.tuple #[o.v,.int .i64 0]) nC:=fun o=>⟨_,bU.refl _,.inl ⟨hop,o,rfl,rfl⟩⟩
   have qK:=fun b2=>fY (B:=[al false v2 m T]) (x:=aC 1 v2.v 0 (m - 16) none) (aI ..) b1 b2 v3 4 (by decide) (by decide) K (nx (dT N 1)) T hK hX hT (m - 16) (by omega) An
   have s_: ∀{C:Nat→Nat},Value.agg (ads (aj .u8 16 fun j=>(C j:Nat)) []).toArray=bW C:=dN fun _ _=>rfl
   refine⟨⟨_,eU N,?_⟩,?_⟩
   ·rintro x hs ⟨rfl,rfl⟩;refine⟨fun j=>(dT N 1 j:Nat),s_.symm,rfl,⟨_,by rw [s_];exact fi _ hC,?_⟩,fun b2=>⟨_,by rw [s_];exact fi _ hC,?_⟩⟩
    ·rintro x hs ⟨rfl,rfl⟩;refine⟨fun j=>(nx (dT N 1) j:Nat),s_.symm,rfl,fun b2=>⟨_,by rw [s_];exact qK b2,?_⟩⟩;rintro x hs ⟨o,rfl,rfl⟩;exact⟨o,fun j=>(df 4 K N T j:Nat),rfl,rfl,fin o⟩
    ·rintro x hs ⟨rfl,rfl⟩;refine⟨fun j=>(nx (dT N 1) j:Nat),s_.symm,rfl,⟨_,by rw [s_];exact qK b2,?_⟩⟩;rintro x hs ⟨o,rfl,rfl⟩;exact⟨o,fun j=>(df 4 K N T j:Nat),rfl,rfl,fin o⟩
   ·intro b2;refine⟨_,eU N,?_⟩;rintro x hs ⟨rfl,rfl⟩;refine⟨fun j=>(dT N 1 j:Nat),s_.symm,rfl,⟨_,by rw [s_];exact fi _ hC,?_⟩⟩;rintro x hs ⟨rfl,rfl⟩;refine⟨fun j=>(nx (dT N 1) j:Nat),s_.symm,rfl,⟨_,by rw [s_];exact qK b2,?_⟩⟩;rintro x hs ⟨o,rfl,rfl⟩;exact⟨o,fun j=>(df 4 K N T j:Nat),rfl,rfl,fin o⟩
 ·exact⟨[],bU.sub (List.nil_sublist _),.inr ⟨fun h=>absurd h.1 (by omega),rfl,rfl⟩⟩
theorem zI{B:List HP}{x0 x1 x2:Value}(h0:x0.oneCell'=true)(h1:x1.oneCell'=true)(h2:x2.oneCell'=true)(K N A T:Nat→Nat)(hK: ∀j,K j<256)(hN: ∀j,N j<256)(hA: ∀j,A j<256)(hT: ∀j,T j<256)(n1 m:Nat)(hl:n1+m+100≤140737488355328)
  (Ka:ay B (aL x0 16 K)) (BN:ay B (aL x1 n1 A)) (C_:ay B (aL x2 m T)):
  ar adE 37 [x0,eF N,x1,x2] B fun r hs=> ∃nw,pG 4 K N n1 A m T r nw∧hs=B++nw:=by
 have h:ar adE 37 [x0,eF N,x1,x2] ([]++[aL x0 16 K,aL x1 n1 A,aL x2 m T]) fun r hs=> ∃nw,pG 4 K N n1 A m T r nw∧hs=[]++nw:=by
  refine ar.post (zH ⟨x0,h0⟩ ⟨x1,h1⟩ ⟨x2,h2⟩ K N A T hK hN hA hT n1 m hl) ?_;intro r hs hq;exact⟨_,bU.refl _,hs,hq,rfl⟩
 refine ar.post (ar.iV h (by simp) ?_ ?_) ?_
 ·rintro v nw (⟨_,o,_,rfl⟩ | ⟨_,_,rfl⟩) h hh
  ·simp only [adW,adP,or_false]at hh;subst hh;rfl
  ·simp at hh
 ·intro h hh;simp only [adW,adP,or_false]at hh;rcases hh with rfl | rfl | rfl
  ·exact Ka
  ·exact BN
  ·exact C_
 ·rintro r hs ⟨nw,hq,rfl⟩;exact⟨_,bU.refl _,nw,hq,rfl⟩
set_option maxHeartbeats 1000000 in
theorem zJ(v0 v1 v2:V1)(K N A T:Nat→Nat)(hK: ∀j,K j<256)(hN: ∀j,N j<256)(hA: ∀j,A j<256)(hT: ∀j,T j<256)(n1 n2:Nat)(hl:n1+n2+100≤140737488355328):
  ar adE 34 [v0.v,eF N,v1.v,v2.v] [al false v0 32 K,al false v1 n1 A,al false v2 n2 T] fun r hs=> ∃o:V1,r= .tuple #[o.v,.int .i64 0]∧hs=[al true o (n2+16) (iY 8 K N n1 A n2 T)]:=by
 refine ar.post (p:=fun r hs=> ∃(o:V1) (h2:HP),r= .tuple #[o.v,.int .i64 0]∧hs=[al true o (n2+16) (iY 8 K N n1 A n2 T),h2]) ?_ ?_;rotate_left
 ·rintro r hs ⟨o,h2,hr,rfl⟩;exact⟨_,bU.sub (by repeat (first | exact List.Sublist.slnil | apply List.Sublist.cons_cons | apply List.Sublist.cons)),o,hr,rfl⟩
 refine J0 _ (n1:Int) (n2:Int) (fun j=>(K j:Nat)) (fun j=>(N j:Nat)) (fun j=>(A j:Nat)) (fun j=>(T j:Nat)) v0 v1 v2 ?_;unfold AF;intro b0;refine⟨_,pA v0 K hK,?_⟩;rintro x hs ⟨b1,v3,rfl,rfl⟩;refine⟨b1,v3,fun j=>(sb j:Nat),cw 8 K,rfl,rfl,?_⟩;refine⟨_,eU N,?_⟩;rintro x hs ⟨rfl,rfl⟩;refine⟨fun j=>(dT N 1 j:Nat),by unfold bW;rw [adG,List.append_nil],rfl,?_⟩;have hC:=iX hN (c:=1) (by decide);refine⟨_,by rw [dN (B:=dT N 1) fun _ _=>rfl];exact fi _ hC,?_⟩;rintro x hs ⟨rfl,rfl⟩;refine⟨fun j=>(nx (dT N 1) j:Nat),by unfold bW;rw [adG,List.append_nil],rfl,?_⟩;have hX:=AK _ hC;intro b2;refine⟨_,by rw [dN (B:=nx (dT N 1)) fun _ _=>rfl];exact fY (B:=[al false v2 n2 T]) v2.one b1 b2 v3 8 (by decide) (by decide) K (nx (dT N 1)) T hK hX hT n2 (by omega) ay.view,?_⟩;rintro x hs ⟨v4,rfl,rfl⟩;refine⟨v4,fun j=>(df 8 K N T j:Nat),rfl,rfl,?_⟩;have hY:=sK (n:=8) hK hN hT;refine⟨_,qf (B:=[al false v1 n1 A,al true v4 n2 (df 8 K N T)]) v1.one v4.one b1 v3 8 (by decide) (by decide) K N A (df 8 K N T) hK hN hA hY n1 n2 (by omega) (ay.left (C:=[al true v4 n2 (df 8 K N T)]) ay.view) (ay.right (A:=[al false v1 n1 A]) ay.bytes),?_⟩;rintro x hs ⟨v5,rfl,rfl⟩;refine⟨v5,fun j=>(jl 8 K N n1 A n2 (df 8 K N T) j:Nat),rfl,rfl,?_⟩;refine⟨by omega,fun _=>⟨by omega,fun _=>?_⟩⟩;intro v6;refine⟨v6,al true v5 16 (jl 8 K N n1 A n2 (df 8 K N T)),rfl,?_⟩;congr 1;unfold al;dsimp only [bo,bi,bn];rw [show ag ((n2:Int)+16)=n2+16 by omega,Int.toNat_natCast];congr 1;refine cm fun j hj=>?_
 unfold aA iY;by_cases c:j<n2
 ·rw [if_neg (by omega),if_pos c]
 ·rw [if_pos (by omega),if_neg c]
theorem zK{B:List HP}{x0 x1 x2:Value}(h0:x0.oneCell'=true)(h1:x1.oneCell'=true)(h2:x2.oneCell'=true)(K N A T:Nat→Nat)(hK: ∀j,K j<256)(hN: ∀j,N j<256)(hA: ∀j,A j<256)(hT: ∀j,T j<256)(n1 n2:Nat)(hl:n1+n2+100≤140737488355328)
  (Ka:ay B (aL x0 32 K)) (BN:ay B (aL x1 n1 A)) (C_:ay B (aL x2 n2 T)):
  ar adE 34 [x0,eF N,x1,x2] B fun r hs=> ∃o:V1,r= .tuple #[o.v,.int .i64 0]∧hs=B++[al true o (n2+16) (iY 8 K N n1 A n2 T)]:=by
 have h:ar adE 34 [x0,eF N,x1,x2] ([]++[aL x0 32 K,aL x1 n1 A,aL x2 n2 T]) fun r hs=> ∃nw,(∃o:V1,r= .tuple #[o.v,.int .i64 0]∧nw=[al true o (n2+16) (iY 8 K N n1 A n2 T)])∧hs=[]++nw:=by
  refine ar.post (zJ ⟨x0,h0⟩ ⟨x1,h1⟩ ⟨x2,h2⟩ K N A T hK hN hA hT n1 n2 hl) ?_;rintro r hs ⟨o,hr,rfl⟩;exact⟨_,bU.refl _,_,⟨o,hr,rfl⟩,rfl⟩
 refine ar.post (ar.iV h (by simp) ?_ ?_) ?_
 ·rintro v nw ⟨o,_,rfl⟩ h hh;simp only [adW,adP,or_false]at hh;subst hh;rfl
 ·intro h hh;simp only [adW,adP,or_false]at hh;rcases hh with rfl | rfl | rfl
  ·exact Ka
  ·exact BN
  ·exact C_
 ·rintro r hs ⟨nw,⟨o,hr,rfl⟩,rfl⟩;exact⟨_,bU.refl _,o,hr,rfl⟩
set_option maxHeartbeats 2000000 in
theorem zL(v0 v1 v2:V1)(K N A T:Nat→Nat)(hK: ∀j,K j<256)(hN: ∀j,N j<256)(hA: ∀j,A j<256)(hT: ∀j,T j<256)(n1 m:Nat)(hl:n1+m+100≤140737488355328):
  ar adE 37 [v0.v,eF N,v1.v,v2.v] [al false v0 32 K,al false v1 n1 A,al false v2 m T] (pG 8 K N n1 A m T):=by
 refine ar.post (p:=fun r hs=> ∃nC,bU hs nC∧pG 8 K N n1 A m T r nC) ?_ fun v hs h=>h
 refine J2 _ (n1:Int) (m:Int) (fun j=>(K j:Nat)) (fun j=>(N j:Nat)) (fun j=>(A j:Nat)) (fun j=>(T j:Nat)) v0 v1 v2 ?_;unfold AH;intro b0;refine⟨_,pA v0 K hK,?_⟩;rintro x hs ⟨b1,v3,rfl,rfl⟩;refine⟨b1,v3,fun j=>(sb j:Nat),cw 8 K,rfl,rfl,?_⟩;have hC:=iX hN (c:=1) (by decide);have hX:=AK _ hC
 iterate 7 refine⟨by omega,fun _=>?_⟩
 refine⟨fun ig=>?_,fun bP=>?_⟩
 ·have hm:16≤m:=by omega
  have t1:ag ((m:Int) - 16)=m - 16:=by omega
  have t2:ag (m:Int)=m:=rfl;dsimp only [bo,bi,bn];rw [t1,t2];have An:ay [al false v2 m T] (aL (aC 1 v2.v 0 (m - 16) none) (m - 16) T):=by
   have:=ay.part (lo:=0) (hi:=m - 16) (mx:=none) (ay.view (v:=v2) (n:=m) (T:=T)) (by omega) (by omega) (by simp);rw [Nat.sub_zero]at this;rw [n9 (T':=fun j=>T (0+j)) fun j _=>by rw [Nat.zero_add]];exact this
  have X9:ay [al false v2 m T] (aL (aC 1 v2.v (m - 16) m none) 16 fun j=>T (m - 16+j)):=by
   have:=ay.part (lo:=m - 16) (hi:=m) (mx:=none) (ay.view (v:=v2) (n:=m) (T:=T)) (by omega) (by omega) (by simp);rw [show m - (m - 16)=16 by omega]at this;exact this
  refine⟨_,qf (B:=[al false v1 n1 A,al false v2 m T]) v1.one (aI ..) b1 v3 8 (by decide) (by decide) K N A T hK hN hA hT n1 (m - 16) (by omega) (ay.left (C:=[al false v2 m T]) ay.view) (ay.right (A:=[al false v1 n1 A]) An),?_⟩;rintro x hs ⟨v4,rfl,rfl⟩;refine⟨v4,fun j=>(jl 8 K N n1 A (m - 16) T j:Nat),rfl,rfl,?_⟩;have hG:=Cn hK hN n1 A (m - 16) T (n:=8);rw [if_pos (show(!decide ((m:Int) - 16<0))=true by rw [decide_eq_false (by omega)];rfl)];refine⟨_,n_ (B:=[al true v4 16 (jl 8 K N n1 A (m - 16) T),al false v2 m T]) v4.one (aI ..) 16 16 (jl 8 K N n1 A (m - 16) T) (fun j=>T (m - 16+j)) hG (fun j=>hT _) (by decide) (ay.left (C:=[al false v2 m T]) ay.bytes) (ay.right (A:=[al true v4 16 (jl 8 K N n1 A (m - 16) T)]) X9),?_⟩;rintro x hs ⟨rfl,rfl⟩;refine⟨_,rfl,rfl,?_⟩;have m9:m8 16 16 (jl 8 K N n1 A (m - 16) T) (fun j=>T (m - 16+j))=true↔opens 8 K N n1 A m T:=by
   unfold m8 opens;simp [hm]
  refine⟨fun dR=>?_,fun heq=>?_⟩
  ·exact⟨[],bU.sub (List.nil_sublist _),.inr ⟨fun h=>dR (m9.2 h),rfl,rfl⟩⟩
  ·have hop:opens 8 K N n1 A m T:=m9.1 (by simpa using heq);refine⟨by omega,fun _=>⟨by omega,fun _=>?_⟩⟩;have fin: ∀o:V1,∃nC,bU [al true o (m - 16) (df 8 K N T)] nC∧pG 8 K N n1 A m T (.tuple #[o.v,.int .i64 0]) nC:=fun o=>⟨_,bU.refl _,.inl ⟨hop,o,rfl,rfl⟩⟩
   have qK:=fun b2=>fY (B:=[al false v2 m T]) (x:=aC 1 v2.v 0 (m - 16) none) (aI ..) b1 b2 v3 8 (by decide) (by decide) K (nx (dT N 1)) T hK hX hT (m - 16) (by omega) An
   have s_: ∀{C:Nat→Nat},Value.agg (ads (aj .u8 16 fun j=>(C j:Nat)) []).toArray=bW C:=dN fun _ _=>rfl
   refine⟨⟨_,eU N,?_⟩,?_⟩
   ·rintro x hs ⟨rfl,rfl⟩;refine⟨fun j=>(dT N 1 j:Nat),s_.symm,rfl,⟨_,by rw [s_];exact fi _ hC,?_⟩,fun b2=>⟨_,by rw [s_];exact fi _ hC,?_⟩⟩
    ·rintro x hs ⟨rfl,rfl⟩;refine⟨fun j=>(nx (dT N 1) j:Nat),s_.symm,rfl,fun b2=>⟨_,by rw [s_];exact qK b2,?_⟩⟩;rintro x hs ⟨o,rfl,rfl⟩;exact⟨o,fun j=>(df 8 K N T j:Nat),rfl,rfl,fin o⟩
    ·rintro x hs ⟨rfl,rfl⟩;refine⟨fun j=>(nx (dT N 1) j:Nat),s_.symm,rfl,⟨_,by rw [s_];exact qK b2,?_⟩⟩;rintro x hs ⟨o,rfl,rfl⟩;exact⟨o,fun j=>(df 8 K N T j:Nat),rfl,rfl,fin o⟩
   ·intro b2;refine⟨_,eU N,?_⟩;rintro x hs ⟨rfl,rfl⟩;refine⟨fun j=>(dT N 1 j:Nat),s_.symm,rfl,⟨_,by rw [s_];exact fi _ hC,?_⟩⟩;rintro x hs ⟨rfl,rfl⟩;refine⟨fun j=>(nx (dT N 1) j:Nat),s_.symm,rfl,⟨_,by rw [s_];exact qK b2,?_⟩⟩;rintro x hs ⟨o,rfl,rfl⟩;exact⟨o,fun j=>(df 8 K N T j:Nat),rfl,rfl,fin o⟩
 ·exact⟨[],bU.sub (List.nil_sublist _),.inr ⟨fun h=>absurd h.1 (by omega),rfl,rfl⟩⟩
theorem zM{B:List HP}{x0 x1 x2:Value}(h0:x0.oneCell'=true)(h1:x1.oneCell'=true)(h2:x2.oneCell'=true)(K N A T:Nat→Nat)(hK: ∀j,K j<256)(hN: ∀j,N j<256)(hA: ∀j,A j<256)(hT: ∀j,T j<256)(n1 m:Nat)(hl:n1+m+100≤140737488355328)
  (Ka:ay B (aL x0 32 K)) (BN:ay B (aL x1 n1 A)) (C_:ay B (aL x2 m T)):
  ar adE 37 [x0,eF N,x1,x2] B fun r hs=> ∃nw,pG 8 K N n1 A m T r nw∧hs=B++nw:=by
 have h:ar adE 37 [x0,eF N,x1,x2] ([]++[aL x0 32 K,aL x1 n1 A,aL x2 m T]) fun r hs=> ∃nw,pG 8 K N n1 A m T r nw∧hs=[]++nw:=by
  refine ar.post (zL ⟨x0,h0⟩ ⟨x1,h1⟩ ⟨x2,h2⟩ K N A T hK hN hA hT n1 m hl) ?_;intro r hs hq;exact⟨_,bU.refl _,hs,hq,rfl⟩
 refine ar.post (ar.iV h (by simp) ?_ ?_) ?_
 ·rintro v nw (⟨_,o,_,rfl⟩ | ⟨_,_,rfl⟩) h hh
  ·simp only [adW,adP,or_false]at hh;subst hh;rfl
  ·simp at hh
 ·intro h hh;simp only [adW,adP,or_false]at hh;rcases hh with rfl | rfl | rfl
  ·exact Ka
  ·exact BN
  ·exact C_
 ·rintro r hs ⟨nw,hq,rfl⟩;exact⟨_,bU.refl _,nw,hq,rfl⟩
end Go.RX.Fi

namespace Go.RX.Fk
open Go Go.RX Go.Proofs Go.Ae Go.RX.Sh Go.RX.Fe Go.RX.Fg Go.RX.Fi Go.RX.Fj Go.Gh
theorem j5{f:Nat}{args:List Value}{L B:List HP}{n:Nat}{T:Nat→Nat}(hm:ar adE f args L fun r hs=> ∃o:V1,r=o.v∧hs=[al true o n T])(hL: ∀h∈L,ay B h):
  ar adE f args B fun r hs=> ∃o:V1,r=o.v∧hs=B++[al true o n T]:=by
 have h:ar adE f args ([]++L) fun r hs=> ∃nw,(∃o:V1,r=o.v∧nw=[al true o n T])∧hs=[]++nw:=by
  refine ar.post hm ?_;rintro r hs ⟨o,hr,rfl⟩;exact⟨_,bU.refl _,_,⟨o,hr,rfl⟩,rfl⟩
 refine ar.post (ar.iV h (by simp) ?_ hL) ?_
 ·rintro v nw ⟨o,_,rfl⟩ h hh;simp only [adW,adP,or_false]at hh;subst hh;rfl
 ·rintro r hs ⟨nw,⟨o,hr,rfl⟩,rfl⟩;exact⟨_,bU.refl _,o,hr,rfl⟩
theorem pH{f:Nat}{args:List Value}{L B:List HP}{Q:Value→Prop}(hm:ar adE f args L fun r hs=>Q r∧hs=[])(hL: ∀h∈L,ay B h):
  ar adE f args B fun r hs=>Q r∧hs=B:=by
 have h:ar adE f args ([]++L) fun r hs=> ∃nw,(Q r∧nw=[])∧hs=[]++nw:=by
  refine ar.post hm ?_;rintro r hs ⟨hr,rfl⟩;exact⟨[],bU.refl _,[],⟨hr,rfl⟩,rfl⟩
 refine ar.post (ar.iV h (by simp) ?_ hL) ?_
 ·rintro v nw ⟨_,rfl⟩ h hh;cases hh
 ·rintro r hs ⟨nw,⟨hr,rfl⟩,rfl⟩;exact⟨B,by simpa using bU.refl B,hr,rfl⟩
theorem iZ{p:HP→Prop}{a:HP}(h:p a): ∀x∈[a],p x:=by simpa using h
theorem Kb{p:HP→Prop}{a b:HP}(h:p a)(h2:p b): ∀x∈[a,b],p x:=by simpa using ⟨h,h2⟩
theorem Vq{p:HP→Prop}{a b c:HP}(h:p a)(h2:p b)(h3:p c): ∀x∈[a,b,c],p x:=by simpa using ⟨h,h2,h3⟩
theorem P5{p:HP→Prop}{a b c d:HP}(h:p a)(h2:p b)(h3:p c)(h4:p d): ∀x∈[a,b,c,d],p x:=by simpa using ⟨h,h2,h3,h4⟩
theorem Co{a:Nat}(h:a<2^64):ae .u64 (a:Int)=(a:Int):=by rw [wrap_u64,adQ h]
def ew(m j:Nat):Nat:=m/256^(7 - j)%256
theorem wH(m j:Nat):ew m j<256:=Nat.mod_lt _ (by decide)
theorem ay.get{B:List HP}{md:Bool}{v:V1}{n:Nat}{T:Nat→Nat}(i:Nat)(h:B[i]? =some (al md v n T)):ay B (aL v.v n T):=by
 obtain⟨hl,he⟩:=adu.1 h;have e:B=B.take i++[al md v n T]++B.drop (i+1):=by
  rw [List.append_assoc,←he];simp
 rw [e];refine ay.mid ?_;cases md
 ·exact ay.view
 ·exact ay.bytes
end Go.RX.Fk
