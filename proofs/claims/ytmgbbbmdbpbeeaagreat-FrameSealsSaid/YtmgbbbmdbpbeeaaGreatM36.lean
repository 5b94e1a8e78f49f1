/- Sealed texts. -/
import Derived.Test.YtmgbbbmdbpbeeaaGreatM35
open Classical renaming not_not → ae6
open Go.IntKind renaming wrap → ae
open Go.Proofs.Tryz renaming prog → ae0
open Int renaming toNat → ag, toNat_natCast → afe
open List renaming append → aeU, append_eq → afq, mem_cons → afd, not_mem_nil → ae9
namespace Go.RX.Fi
open Go Go.RX Go.Proofs Go.Ae Go.RX.Sh Go.RX.Fe Go.RX.Fg Go.RX.Fh Go.Gh Go.Gc
theorem wH(k:IntKind)(a b:Nat):ak .rem k (a:Int) (b:Int)=((a%b:Nat):Int):=rfl
theorem IQ(n:Nat):ak .rem .i64 (16 - ak .rem .i64 (n:Int) 16) 16=((cg n:Nat):Int):=by
 have h:ak .rem .i64 (n:Int) 16=((n%16:Nat):Int):=rfl;rw [h,show(16:Int) - ((n%16:Nat):Int)=((16 - n%16:Nat):Int) by omega];rfl
theorem NJ(n s:Nat)(hs:s≤64):ae .u8 (ak .shr .u64 (ak .shl .u64 (ae .u64 (n:Int)) 3) (s:Int))=((n*8%2^64/2^s%256:Nat):Int):=by
 have h:ak .shl .u64 (ae .u64 (n:Int)) 3=((n*8%2^64:Nat):Int):=by
  rw [wrap_u64];have:=yp (n%2^64) 3 (by decide);rw [show((3:Nat):Int)=3 from rfl]at this;rw [this];congr 1;omega
 rw [h,gg .u64 _ s (by exact hs),wrap_u8,Nat.shiftRight_eq_div_pow]
theorem Kz(n1 n2:Nat)(j:Nat)(hj:j<16):(aq (aq (aq (aq (aq (aq (aq (aq (aq (aq (aq (aq (aq (aq (aq (aq (fun _=>0) 0 (ae .u8 (ak .shr .u64 (ak .shl .u64 (ae .u64 (n1:Int)) 3) 56))) 1 (ae .u8 (ak .shr .u64 (ak .shl .u64 (ae .u64 (n1:Int)) 3) 48))) 2 (ae .u8 (ak .shr .u64 (ak .shl .u64 (ae .u64 (n1:Int)) 3) 40))) 3 (ae .u8 (ak .shr .u64 (ak .shl .u64 (ae .u64 (n1:Int)) 3) 32))) 4 (ae .u8 (ak .shr .u64 (ak .shl .u64 (ae .u64 (n1:Int)) 3) 24))) 5 (ae .u8 (ak .shr .u64 (ak .shl .u64 (ae .u64 (n1:Int)) 3) 16))) 6 (ae .u8 (ak .shr .u64 (ak .shl .u64 (ae .u64 (n1:Int)) 3) 8))) 7 (ae .u8 (ak .shr .u64 (ak .shl .u64 (ae .u64 (n1:Int)) 3) 0))) 8 (ae .u8 (ak .shr .u64 (ak .shl .u64 (ae .u64 (n2:Int)) 3) 56))) 9 (ae .u8 (ak .shr .u64 (ak .shl .u64 (ae .u64 (n2:Int)) 3) 48))) 10 (ae .u8 (ak .shr .u64 (ak .shl .u64 (ae .u64 (n2:Int)) 3) 40))) 11 (ae .u8 (ak .shr .u64 (ak .shl .u64 (ae .u64 (n2:Int)) 3) 32))) 12 (ae .u8 (ak .shr .u64 (ak .shl .u64 (ae .u64 (n2:Int)) 3) 24))) 13 (ae .u8 (ak .shr .u64 (ak .shl .u64 (ae .u64 (n2:Int)) 3) 16))) 14 (ae .u8 (ak .shr .u64 (ak .shl .u64 (ae .u64 (n2:Int)) 3) 8))) 15 (ae .u8 (ak .shr .u64 (ak .shl .u64 (ae .u64 (n2:Int)) 3) 0))) j=((Kr n1 n2 j:Nat):Int):=by
 have e:=fun(n s:Nat) (hs:s≤64)=>NJ n s hs
 match j,hj with
 | 0,_=>exact e n1 56 (by decide)
 | 1,_=>exact e n1 48 (by decide)
 | 2,_=>exact e n1 40 (by decide)
 | 3,_=>exact e n1 32 (by decide)
 | 4,_=>exact e n1 24 (by decide)
 | 5,_=>exact e n1 16 (by decide)
 | 6,_=>exact e n1 8 (by decide)
 | 7,_=>exact e n1 0 (by decide)
 | 8,_=>exact e n2 56 (by decide)
 | 9,_=>exact e n2 48 (by decide)
 | 10,_=>exact e n2 40 (by decide)
 | 11,_=>exact e n2 32 (by decide)
 | 12,_=>exact e n2 24 (by decide)
 | 13,_=>exact e n2 16 (by decide)
 | 14,_=>exact e n2 8 (by decide)
 | 15,_=>exact e n2 0 (by decide)
 | j+16,h=>exact absurd h (by omega)
def T9(b:Nat)(v:V1)(n:Nat)(K N:Nat→Nat)(n1:Nat)(A:Nat→Nat)(n2:Nat)(T:Nat→Nat)(x:Value)(hs:List HP):Prop:=
 ∃o:V1,x=o.v∧hs=[dz b v,gZ v n K,aj true o 16 (iF n K N n1 A n2 T)]
set_option maxHeartbeats 1000000 in
theorem ui(b:Nat)(v v1 v2:V1)(n:Nat)(hn:0<n)(oN:n<100)(K N A T:Nat→Nat)(hK: ∀j,K j<256)(hN: ∀j,N j<256)(hA: ∀j,A j<256)(hT: ∀j,T j<256)(n1 n2:Nat)(hl:n1+n2+64≤140737488355328):
  aw ae0 89 [.pointer (some ⟨b,0,none⟩),fb N,v1.v,v2.v] [dz b v,gZ v n K,aj false v1 n1 A,aj false v2 n2 T] (T9 b v n K N n1 A n2 T):=by
 refine TZ (T9 b v n K N n1 A n2 T) (Int.ofNat (4*(n+7))) (n1:Int) (n2:Int) (fun j=>(sb j:Nat)) (cw n K) (fun j=>(N j:Nat)) (fun j=>(A j:Nat)) (fun j=>(T j:Nat)) v v1 v2 b ?_;unfold NH;generalize hx:Int.ofNat (4*(n+7))=x0;rw [IQ n1,IQ n2];have hp1:=sX n1;have hp2:=sX n2;have hr1:ak .rem .i64 (n1:Int) 16=((n1%16:Nat):Int):=rfl;have XX:ak .rem .i64 (n2:Int) 16=((n2%16:Nat):Int):=rfl;rw [hr1,XX];intro b1 b2
 repeat (first | (intro _) | (refine⟨by omega,fun _=>?_⟩))
 have hz: ∀j:Nat,(fun _:Nat=>0) j<256:=fun _=>(by show 0<256;decide)
 refine⟨Ex n K (fun _=>0) b v,?_,?_⟩
 ·rw [ew (A:=fun _=>0) (B:=fun _=>0) fun _ _=>rfl,←hx];exact od b v n hn oN K _ hK hz
 rintro x hs ⟨rfl,rfl⟩;refine⟨fun j=>(enc n K (fun _=>0) j:Nat),by rw [afq,List.append_nil],by rw [←hx];rfl,?_⟩
 repeat (first | (intro _) | (refine⟨by omega,fun _=>?_⟩))
 have hE:=rF n K (fun _=>0) hK hz;rename_i Fy;refine⟨fun x hs=>x=cb (j5 (enc n K fun _=>0) (y5 n1 A n2 T) (BU n1 n2))∧hs=[],?_,?_⟩
 ·have hm:=rH Fy (enc n K fun _=>0) (y5 n1 A n2 T) hE (Nq hA hT) (BU n1 n2);have e:aj true Fy (BU n1 n2) (y5 n1 A n2 T)=aE true 5 1 Fy.v (ag ((((n1:Int)+(cg n1:Nat))+n2)+(cg n2:Nat)+16)) (aQ (ag ((((n1:Int)+(cg n1:Nat))+n2)+(cg n2:Nat)+16)) [aO .u8 1 fun j=>(y5 n1 A n2 T j:Nat)]):=by
   unfold aj BU;rw [show ag ((((n1:Int)+(cg n1:Nat))+n2)+(cg n2:Nat)+16)=n1+cg n1+n2+cg n2+16 by omega]
  rw [ew (B:=enc n K fun _=>0) fun _ _=>rfl];rw [e]at hm;dsimp only [bo,bi,bn];rw [aW (g:=fun j=>(y5 n1 A n2 T j:Nat))]
  ·exact hm
  ·intro j hj;have q1:ag (n1:Int)=n1:=rfl;have q2:ag (n2:Int)=n2:=rfl;have q3:ag ((cg n1:Nat):Int)=cg n1:=rfl;have q4:ag ((cg n2:Nat):Int)=cg n2:=rfl;have q5:ag ((n1:Int)+(cg n1:Nat))=n1+cg n1:=by omega
   have q6:ag ((n1:Int)+(cg n1:Nat)+n2)=n1+cg n1+n2:=by omega
   have q7:ag ((n1:Int)+(cg n1:Nat)+n2+(cg n2:Nat))=n1+cg n1+n2+cg n2:=by omega
   rw [q1,q2,q3,q4,q5,q6,q7];have k9:j<n1+cg n1+n2+cg n2+16:=by omega
   unfold aI y5;by_cases c1:j<n1
   ·rw [if_neg (by omega),if_neg (by omega),if_neg (by omega),if_neg (by omega),if_pos c1]
   rw [if_neg c1];by_cases c2:j<n1+cg n1
   ·rw [if_neg (by omega),if_neg (by omega),if_neg (by omega),if_pos (by omega),if_pos c2];rfl
   rw [if_neg c2];by_cases c3:j<n1+cg n1+n2
   ·rw [if_neg (by omega),if_neg (by omega),if_pos (by omega),if_pos c3]
   rw [if_neg c3];by_cases c4:j<n1+cg n1+n2+cg n2
   ·rw [if_neg (by omega),if_pos (by omega),if_pos c4];rfl
   ·rw [if_pos (by omega),if_neg c4];exact Kz n1 n2 _ (by omega)
 rintro x hs ⟨rfl,rfl⟩;have hH:=yn (enc n K fun _=>0) (y5 n1 A n2 T) (BU n1 n2);generalize hh:j5 (enc n K fun _=>0) (y5 n1 A n2 T) (BU n1 n2)=H at hH ⊢;refine⟨fun j=>(H j:Nat),by unfold cb;rw [afq,List.append_nil],rfl,?_⟩;intro CH;have hC:=f_ hN (c:=1) (by decide);have hB:au [ax CH true (aeU (al .u8 16 fun j=>(H j:Nat)) [])] (aB (.slice (some ⟨CH,0,none⟩) 16 16) 16 H):=by
  rw [afq,List.append_nil];exact au.block (fun _ _=>rfl) (Nat.le_refl _)
 have qQ:=fun yX=>dO (B:=[ax CH true (aeU (al .u8 16 fun j=>(H j:Nat)) [])]) (x:= .slice (some ⟨CH,0,none⟩) 16 16) rfl b yX v n hn oN K (cA N 1) H hK hC hH 16 (by decide) hB
 have fin: ∀o:V1,T9 b v n K N n1 A n2 T o.v [dz b v,gZ v n K,aj true o 16 (cS n K (cA N 1) H)]:=fun o=>⟨o,rfl,by rw [←hh];rfl⟩
 constructor
 ·refine⟨_,fC N,?_⟩;rintro x hs ⟨rfl,rfl⟩;refine⟨fun j=>(cA N 1 j:Nat),by unfold cb;rw [afq,List.append_nil],rfl,?_⟩;intro yX;refine⟨_,by rw [ew (B:=cA N 1) fun _ _=>rfl,←hx];exact qQ yX,?_⟩;rintro x hs ⟨o,rfl,rfl⟩;exact⟨o,fun j=>(cS n K (cA N 1) H j:Nat),rfl,by rw [←hx];rfl,by rw [←hx];exact fin o⟩
 ·intro yX;refine⟨_,fC N,?_⟩;rintro x hs ⟨rfl,rfl⟩;refine⟨fun j=>(cA N 1 j:Nat),by unfold cb;rw [afq,List.append_nil],rfl,?_⟩;refine⟨_,by rw [ew (B:=cA N 1) fun _ _=>rfl,←hx];exact qQ yX,?_⟩;rintro x hs ⟨o,rfl,rfl⟩;exact⟨o,fun j=>(cS n K (cA N 1) H j:Nat),rfl,by rw [←hx];rfl,by rw [←hx];exact fin o⟩
open Go Go.RX Go.Proofs Go.Ae Go.RX.Sh Go.RX.Fe Go.RX.Fg Go.RX.Fh Go.Gh Go.Gc
theorem jE{B:List HP}{x1 x2:Value}(h1:x1.oneCell'=true)(h2:x2.oneCell'=true)(b:Nat)(v:V1)(n:Nat)(hn:0<n)(oN:n<100)(K N A T:Nat→Nat)(hK: ∀j,K j<256)(hN: ∀j,N j<256)(hA: ∀j,A j<256)(hT: ∀j,T j<256)(n1 n2:Nat)(hl:n1+n2+64≤140737488355328)
  (wm:au B (aB x1 n1 A)) (y4:au B (aB x2 n2 T)):
  aw ae0 89 [.pointer (some ⟨b,0,none⟩),fb N,x1,x2] ([dz b v,gZ v n K]++B) fun r hs=> ∃o:V1,r=o.v∧hs=[dz b v,gZ v n K]++B++[aj true o 16 (iF n K N n1 A n2 T)]:=by
 have h:aw ae0 89 [.pointer (some ⟨b,0,none⟩),fb N,x1,x2] ([dz b v,gZ v n K]++[aB x1 n1 A,aB x2 n2 T]) fun r hs=> ∃nw,(∃o:V1,r=o.v∧nw=[aj true o 16 (iF n K N n1 A n2 T)])∧hs=[dz b v,gZ v n K]++nw:=by
  refine aw.post (ui b v ⟨x1,h1⟩ ⟨x2,h2⟩ n hn oN K N A T hK hN hA hT n1 n2 hl) ?_;rintro r hs ⟨o,hr,rfl⟩;exact⟨_,bX.refl _,_,⟨o,hr,rfl⟩,rfl⟩
 refine aw.post (aw.fp h ?_ ?_ ?_) ?_
 ·intro h hh;simp only [afd,ae9,or_false]at hh;rcases hh with rfl | rfl<;>rfl
 ·rintro v nw ⟨o,_,rfl⟩ h hh;simp only [afd,ae9,or_false]at hh;subst hh;rfl
 ·intro h hh;simp only [afd,ae9,or_false]at hh;rcases hh with rfl | rfl
  ·exact wm
  ·exact y4
 ·rintro r hs ⟨nw,⟨o,hr,rfl⟩,rfl⟩;exact⟨_,bX.refl _,o,hr,rfl⟩
theorem nG{B:List HP}{x1 x2:Value}(h1:x1.oneCell'=true)(h2:x2.oneCell'=true)(n m:Nat)(S T:Nat→Nat)(hA: ∀j,S j<256)(hB: ∀j,T j<256)(hn:n≤140737488355328)(wm:au B (aB x1 n S))(y4:au B (aB x2 m T)):
  aw ae0 68 [x1,x2] B fun r hs=>r= .bool (mQ n m S T)∧hs=B:=by
 have h:aw ae0 68 [x1,x2] ([]++[aB x1 n S,aB x2 m T]) fun r hs=> ∃nw,(r= .bool (mQ n m S T)∧nw=[])∧hs=[]++nw:=by
  refine aw.post (GI ⟨x1,h1⟩ ⟨x2,h2⟩ n m S T hA hB hn) ?_;rintro r hs ⟨hr,rfl⟩;exact⟨[],bX.refl _,[],⟨hr,rfl⟩,rfl⟩
 refine aw.post (aw.fp h (by simp) ?_ ?_) ?_
 ·rintro v nw ⟨_,rfl⟩ h hh;simp at hh
 ·intro h hh;simp only [afd,ae9,or_false]at hh;rcases hh with rfl | rfl
  ·exact wm
  ·exact y4
 ·rintro r hs ⟨nw,⟨hr,rfl⟩,rfl⟩;exact⟨B,by simpa using bX.refl B,hr,rfl⟩
def opens(n:Nat)(K N:Nat→Nat)(n1:Nat)(A:Nat→Nat)(m:Nat)(T:Nat→Nat):Prop:=16≤m∧∀j,j<16→iF n K N n1 A (m - 16) T j=T (m - 16+j)
def oX(n:Nat)(K N:Nat→Nat)(n1:Nat)(A:Nat→Nat)(m:Nat)(T:Nat→Nat)(r:Value)(nw:List HP):Prop:=
 (opens n K N n1 A m T∧∃o:V1,r= .tuple #[o.v,.int .i64 0]∧nw=[aj true o (m - 16) (de n K N T)])∨(¬opens n K N n1 A m T∧r= .tuple #[.slice none 0 0,.int .i64 140]∧nw=[])
set_option maxHeartbeats 1000000 in
theorem zw(v0 v1 v2:V1)(K N A T:Nat→Nat)(hK: ∀j,K j<256)(hN: ∀j,N j<256)(hA: ∀j,A j<256)(hT: ∀j,T j<256)(n1 n2:Nat)(hl:n1+n2+100≤140737488355328):
  aw ae0 56 [v0.v,fb N,v1.v,v2.v] [aj false v0 16 K,aj false v1 n1 A,aj false v2 n2 T] fun r hs=> ∃o:V1,r= .tuple #[o.v,.int .i64 0]∧hs=[aj true o (n2+16) (gE 4 K N n1 A n2 T)]:=by
 refine aw.post (p:=fun r hs=> ∃(o:V1) (h2:HP),r= .tuple #[o.v,.int .i64 0]∧hs=[aj true o (n2+16) (gE 4 K N n1 A n2 T),h2]) ?_ ?_;rotate_left
 ·rintro r hs ⟨o,h2,hr,rfl⟩;exact⟨_,bX.sub (by repeat (first | exact List.Sublist.slnil | apply List.Sublist.cons_cons | apply List.Sublist.cons)),o,hr,rfl⟩
 refine Ku _ (n1:Int) (n2:Int) (fun j=>(K j:Nat)) (fun j=>(N j:Nat)) (fun j=>(A j:Nat)) (fun j=>(T j:Nat)) v0 v1 v2 ?_;unfold AH;intro b0;refine⟨_,pI v0 K hK,?_⟩;rintro x hs ⟨b1,v3,rfl,rfl⟩;refine⟨b1,v3,fun j=>(sb j:Nat),cw 4 K,rfl,rfl,?_⟩;refine⟨_,fC N,?_⟩;rintro x hs ⟨rfl,rfl⟩;refine⟨fun j=>(cA N 1 j:Nat),by unfold cb;rw [afq,List.append_nil],rfl,?_⟩;have hC:=f_ hN (c:=1) (by decide);refine⟨_,by rw [ew (B:=cA N 1) fun _ _=>rfl];exact eu _ hC,?_⟩;rintro x hs ⟨rfl,rfl⟩;refine⟨fun j=>(nx (cA N 1) j:Nat),by unfold cb;rw [afq,List.append_nil],rfl,?_⟩;have hX:=AD _ hC;intro b2;refine⟨_,by rw [ew (B:=nx (cA N 1)) fun _ _=>rfl];exact dO (B:=[aj false v2 n2 T]) v2.one b1 b2 v3 4 (by decide) (by decide) K (nx (cA N 1)) T hK hX hT n2 (by omega) au.view,?_⟩;rintro x hs ⟨v4,rfl,rfl⟩;refine⟨v4,fun j=>(de 4 K N T j:Nat),rfl,rfl,?_⟩;have hY:=pL (n:=4) hK hN hT;refine⟨_,jE (B:=[aj false v1 n1 A,aj true v4 n2 (de 4 K N T)]) v1.one v4.one b1 v3 4 (by decide) (by decide) K N A (de 4 K N T) hK hN hA hY n1 n2 (by omega) (au.left (C:=[aj true v4 n2 (de 4 K N T)]) au.view) (au.right (A:=[aj false v1 n1 A]) au.bytes),?_⟩;rintro x hs ⟨v5,rfl,rfl⟩;refine⟨v5,fun j=>(iF 4 K N n1 A n2 (de 4 K N T) j:Nat),rfl,rfl,?_⟩;refine⟨by omega,fun _=>⟨by omega,fun _=>?_⟩⟩;intro v6;refine⟨v6,aj true v5 16 (iF 4 K N n1 A n2 (de 4 K N T)),rfl,?_⟩;congr 1;unfold aj;dsimp only [bo,bi,bn];rw [show ag ((n2:Int)+16)=n2+16 by omega,afe];congr 1;refine aW fun j hj=>?_
 unfold aI gE;by_cases c:j<n2
 ·rw [if_neg (by omega),if_pos c]
 ·rw [if_pos (by omega),if_neg c]
theorem zx{B:List HP}{x0 x1 x2:Value}(h0:x0.oneCell'=true)(h1:x1.oneCell'=true)(h2:x2.oneCell'=true)(K N A T:Nat→Nat)(hK: ∀j,K j<256)(hN: ∀j,N j<256)(hA: ∀j,A j<256)(hT: ∀j,T j<256)(n1 n2:Nat)(hl:n1+n2+100≤140737488355328)
  (yZ:au B (aB x0 16 K)) (wm:au B (aB x1 n1 A)) (y4:au B (aB x2 n2 T)):
  aw ae0 56 [x0,fb N,x1,x2] B fun r hs=> ∃o:V1,r= .tuple #[o.v,.int .i64 0]∧hs=B++[aj true o (n2+16) (gE 4 K N n1 A n2 T)]:=by
 have h:aw ae0 56 [x0,fb N,x1,x2] ([]++[aB x0 16 K,aB x1 n1 A,aB x2 n2 T]) fun r hs=> ∃nw,(∃o:V1,r= .tuple #[o.v,.int .i64 0]∧nw=[aj true o (n2+16) (gE 4 K N n1 A n2 T)])∧hs=[]++nw:=by
  refine aw.post (zw ⟨x0,h0⟩ ⟨x1,h1⟩ ⟨x2,h2⟩ K N A T hK hN hA hT n1 n2 hl) ?_;rintro r hs ⟨o,hr,rfl⟩;exact⟨_,bX.refl _,_,⟨o,hr,rfl⟩,rfl⟩
 refine aw.post (aw.fp h (by simp) ?_ ?_) ?_
 ·rintro v nw ⟨o,_,rfl⟩ h hh;simp only [afd,ae9,or_false]at hh;subst hh;rfl
 ·intro h hh;simp only [afd,ae9,or_false]at hh;rcases hh with rfl | rfl | rfl
  ·exact yZ
  ·exact wm
  ·exact y4
 ·rintro r hs ⟨nw,⟨o,hr,rfl⟩,rfl⟩;exact⟨_,bX.refl _,o,hr,rfl⟩
set_option maxHeartbeats 2000000 in
theorem zy(v0 v1 v2:V1)(K N A T:Nat→Nat)(hK: ∀j,K j<256)(hN: ∀j,N j<256)(hA: ∀j,A j<256)(hT: ∀j,T j<256)(n1 m:Nat)(hl:n1+m+100≤140737488355328):
  aw ae0 59 [v0.v,fb N,v1.v,v2.v] [aj false v0 16 K,aj false v1 n1 A,aj false v2 m T] (oX 4 K N n1 A m T):=by
 refine aw.post (p:=fun r hs=> ∃nI,bX hs nI∧oX 4 K N n1 A m T r nI) ?_ fun v hs h=>h
 refine Kw _ (n1:Int) (m:Int) (fun j=>(K j:Nat)) (fun j=>(N j:Nat)) (fun j=>(A j:Nat)) (fun j=>(T j:Nat)) v0 v1 v2 ?_;unfold AJ;intro b0;refine⟨_,pI v0 K hK,?_⟩;rintro x hs ⟨b1,v3,rfl,rfl⟩;refine⟨b1,v3,fun j=>(sb j:Nat),cw 4 K,rfl,rfl,?_⟩;have hC:=f_ hN (c:=1) (by decide);have hX:=AD _ hC
 iterate 7 refine⟨by omega,fun _=>?_⟩
 refine⟨fun iH=>?_,fun bU=>?_⟩
 ·have hm:16≤m:=by omega
  have t1:ag ((m:Int) - 16)=m - 16:=by omega
  have t2:ag (m:Int)=m:=rfl;dsimp only [bo,bi,bn];rw [t1,t2];have Al:au [aj false v2 m T] (aB (aD 1 v2.v 0 (m - 16) none) (m - 16) T):=by
   have:=au.part (lo:=0) (hi:=m - 16) (mx:=none) (au.view (v:=v2) (n:=m) (T:=T)) (by omega) (by omega) (by simp);rw [Nat.sub_zero]at this;rw [nF (T':=fun j=>T (0+j)) fun j _=>by rw [Nat.zero_add]];exact this
  have ZC:au [aj false v2 m T] (aB (aD 1 v2.v (m - 16) m none) 16 fun j=>T (m - 16+j)):=by
   have:=au.part (lo:=m - 16) (hi:=m) (mx:=none) (au.view (v:=v2) (n:=m) (T:=T)) (by omega) (by omega) (by simp);rw [show m - (m - 16)=16 by omega]at this;exact this
  refine⟨_,jE (B:=[aj false v1 n1 A,aj false v2 m T]) v1.one (aK ..) b1 v3 4 (by decide) (by decide) K N A T hK hN hA hT n1 (m - 16) (by omega) (au.left (C:=[aj false v2 m T]) au.view) (au.right (A:=[aj false v1 n1 A]) Al),?_⟩;rintro x hs ⟨v4,rfl,rfl⟩;refine⟨v4,fun j=>(iF 4 K N n1 A (m - 16) T j:Nat),rfl,rfl,?_⟩;have hG:=wJ hK hN n1 A (m - 16) T (n:=4);rw [if_pos (show(!decide ((m:Int) - 16<0))=true by rw [decide_eq_false (by omega)];rfl)];refine⟨_,nG (B:=[aj true v4 16 (iF 4 K N n1 A (m - 16) T),aj false v2 m T]) v4.one (aK ..) 16 16 (iF 4 K N n1 A (m - 16) T) (fun j=>T (m - 16+j)) hG (fun j=>hT _) (by decide) (au.left (C:=[aj false v2 m T]) au.bytes) (au.right (A:=[aj true v4 16 (iF 4 K N n1 A (m - 16) T)]) ZC),?_⟩;rintro x hs ⟨rfl,rfl⟩;refine⟨_,rfl,rfl,?_⟩;have nj:mQ 16 16 (iF 4 K N n1 A (m - 16) T) (fun j=>T (m - 16+j))=true↔opens 4 K N n1 A m T:=by
   unfold mQ opens;simp [hm]
  refine⟨fun eZ=>?_,fun heq=>?_⟩
  ·exact⟨[],bX.sub (List.nil_sublist _),.inr ⟨fun h=>eZ (nj.2 h),rfl,rfl⟩⟩
  ·have hop:opens 4 K N n1 A m T:=nj.1 (by simpa using heq);refine⟨by omega,fun _=>⟨by omega,fun _=>?_⟩⟩;have fin: ∀o:V1,∃nI,bX [aj true o (m - 16) (de 4 K N T)] nI∧oX 4 K N n1 A m T (.tuple #[o.v,.int .i64 0]) nI:=fun o=>⟨_,bX.refl _,.inl ⟨hop,o,rfl,rfl⟩⟩
   have qQ:=fun b2=>dO (B:=[aj false v2 m T]) (x:=aD 1 v2.v 0 (m - 16) none) (aK ..) b1 b2 v3 4 (by decide) (by decide) K (nx (cA N 1)) T hK hX hT (m - 16) (by omega) Al
   have tB: ∀{C:Nat→Nat},Value.agg (aeU (al .u8 16 fun j=>(C j:Nat)) []).toArray=cb C:=ew fun _ _=>rfl
   refine⟨⟨_,fC N,?_⟩,?_⟩
   ·rintro x hs ⟨rfl,rfl⟩;refine⟨fun j=>(cA N 1 j:Nat),tB.symm,rfl,⟨_,by rw [tB];exact eu _ hC,?_⟩,fun b2=>⟨_,by rw [tB];exact eu _ hC,?_⟩⟩
    ·rintro x hs ⟨rfl,rfl⟩;refine⟨fun j=>(nx (cA N 1) j:Nat),tB.symm,rfl,fun b2=>⟨_,by rw [tB];exact qQ b2,?_⟩⟩;rintro x hs ⟨o,rfl,rfl⟩;exact⟨o,fun j=>(de 4 K N T j:Nat),rfl,rfl,fin o⟩
    ·rintro x hs ⟨rfl,rfl⟩;refine⟨fun j=>(nx (cA N 1) j:Nat),tB.symm,rfl,⟨_,by rw [tB];exact qQ b2,?_⟩⟩;rintro x hs ⟨o,rfl,rfl⟩;exact⟨o,fun j=>(de 4 K N T j:Nat),rfl,rfl,fin o⟩
   ·intro b2;refine⟨_,fC N,?_⟩;rintro x hs ⟨rfl,rfl⟩;refine⟨fun j=>(cA N 1 j:Nat),tB.symm,rfl,⟨_,by rw [tB];exact eu _ hC,?_⟩⟩;rintro x hs ⟨rfl,rfl⟩;refine⟨fun j=>(nx (cA N 1) j:Nat),tB.symm,rfl,⟨_,by rw [tB];exact qQ b2,?_⟩⟩;rintro x hs ⟨o,rfl,rfl⟩;exact⟨o,fun j=>(de 4 K N T j:Nat),rfl,rfl,fin o⟩
 ·exact⟨[],bX.sub (List.nil_sublist _),.inr ⟨fun h=>absurd h.1 (by omega),rfl,rfl⟩⟩
theorem y8{B:List HP}{x0 x1 x2:Value}(h0:x0.oneCell'=true)(h1:x1.oneCell'=true)(h2:x2.oneCell'=true)(K N A T:Nat→Nat)(hK: ∀j,K j<256)(hN: ∀j,N j<256)(hA: ∀j,A j<256)(hT: ∀j,T j<256)(n1 m:Nat)(hl:n1+m+100≤140737488355328)
  (yZ:au B (aB x0 16 K)) (wm:au B (aB x1 n1 A)) (y4:au B (aB x2 m T)):
  aw ae0 59 [x0,fb N,x1,x2] B fun r hs=> ∃nw,oX 4 K N n1 A m T r nw∧hs=B++nw:=by
 have h:aw ae0 59 [x0,fb N,x1,x2] ([]++[aB x0 16 K,aB x1 n1 A,aB x2 m T]) fun r hs=> ∃nw,oX 4 K N n1 A m T r nw∧hs=[]++nw:=by
  refine aw.post (zy ⟨x0,h0⟩ ⟨x1,h1⟩ ⟨x2,h2⟩ K N A T hK hN hA hT n1 m hl) ?_;intro r hs hq;exact⟨_,bX.refl _,hs,hq,rfl⟩
 refine aw.post (aw.fp h (by simp) ?_ ?_) ?_
 ·rintro v nw (⟨_,o,_,rfl⟩ | ⟨_,_,rfl⟩) h hh
  ·simp only [afd,ae9,or_false]at hh;subst hh;rfl
  ·simp at hh
 ·intro h hh;simp only [afd,ae9,or_false]at hh;rcases hh with rfl | rfl | rfl
  ·exact yZ
  ·exact wm
  ·exact y4
 ·rintro r hs ⟨nw,hq,rfl⟩;exact⟨_,bX.refl _,nw,hq,rfl⟩
set_option maxHeartbeats 1000000 in
theorem zz(v0 v1 v2:V1)(K N A T:Nat→Nat)(hK: ∀j,K j<256)(hN: ∀j,N j<256)(hA: ∀j,A j<256)(hT: ∀j,T j<256)(n1 n2:Nat)(hl:n1+n2+100≤140737488355328):
  aw ae0 56 [v0.v,fb N,v1.v,v2.v] [aj false v0 32 K,aj false v1 n1 A,aj false v2 n2 T] fun r hs=> ∃o:V1,r= .tuple #[o.v,.int .i64 0]∧hs=[aj true o (n2+16) (gE 8 K N n1 A n2 T)]:=by
 refine aw.post (p:=fun r hs=> ∃(o:V1) (h2:HP),r= .tuple #[o.v,.int .i64 0]∧hs=[aj true o (n2+16) (gE 8 K N n1 A n2 T),h2]) ?_ ?_;rotate_left
 ·rintro r hs ⟨o,h2,hr,rfl⟩;exact⟨_,bX.sub (by repeat (first | exact List.Sublist.slnil | apply List.Sublist.cons_cons | apply List.Sublist.cons)),o,hr,rfl⟩
 refine Kv _ (n1:Int) (n2:Int) (fun j=>(K j:Nat)) (fun j=>(N j:Nat)) (fun j=>(A j:Nat)) (fun j=>(T j:Nat)) v0 v1 v2 ?_;unfold AI;intro b0;refine⟨_,vg v0 K hK,?_⟩;rintro x hs ⟨b1,v3,rfl,rfl⟩;refine⟨b1,v3,fun j=>(sb j:Nat),cw 8 K,rfl,rfl,?_⟩;refine⟨_,fC N,?_⟩;rintro x hs ⟨rfl,rfl⟩;refine⟨fun j=>(cA N 1 j:Nat),by unfold cb;rw [afq,List.append_nil],rfl,?_⟩;have hC:=f_ hN (c:=1) (by decide);refine⟨_,by rw [ew (B:=cA N 1) fun _ _=>rfl];exact eu _ hC,?_⟩;rintro x hs ⟨rfl,rfl⟩;refine⟨fun j=>(nx (cA N 1) j:Nat),by unfold cb;rw [afq,List.append_nil],rfl,?_⟩;have hX:=AD _ hC;intro b2;refine⟨_,by rw [ew (B:=nx (cA N 1)) fun _ _=>rfl];exact dO (B:=[aj false v2 n2 T]) v2.one b1 b2 v3 8 (by decide) (by decide) K (nx (cA N 1)) T hK hX hT n2 (by omega) au.view,?_⟩;rintro x hs ⟨v4,rfl,rfl⟩;refine⟨v4,fun j=>(de 8 K N T j:Nat),rfl,rfl,?_⟩;have hY:=pL (n:=8) hK hN hT;refine⟨_,jE (B:=[aj false v1 n1 A,aj true v4 n2 (de 8 K N T)]) v1.one v4.one b1 v3 8 (by decide) (by decide) K N A (de 8 K N T) hK hN hA hY n1 n2 (by omega) (au.left (C:=[aj true v4 n2 (de 8 K N T)]) au.view) (au.right (A:=[aj false v1 n1 A]) au.bytes),?_⟩;rintro x hs ⟨v5,rfl,rfl⟩;refine⟨v5,fun j=>(iF 8 K N n1 A n2 (de 8 K N T) j:Nat),rfl,rfl,?_⟩;refine⟨by omega,fun _=>⟨by omega,fun _=>?_⟩⟩;intro v6;refine⟨v6,aj true v5 16 (iF 8 K N n1 A n2 (de 8 K N T)),rfl,?_⟩;congr 1;unfold aj;dsimp only [bo,bi,bn];rw [show ag ((n2:Int)+16)=n2+16 by omega,afe];congr 1;refine aW fun j hj=>?_
 unfold aI gE;by_cases c:j<n2
 ·rw [if_neg (by omega),if_pos c]
 ·rw [if_pos (by omega),if_neg c]
theorem zA{B:List HP}{x0 x1 x2:Value}(h0:x0.oneCell'=true)(h1:x1.oneCell'=true)(h2:x2.oneCell'=true)(K N A T:Nat→Nat)(hK: ∀j,K j<256)(hN: ∀j,N j<256)(hA: ∀j,A j<256)(hT: ∀j,T j<256)(n1 n2:Nat)(hl:n1+n2+100≤140737488355328)
  (yZ:au B (aB x0 32 K)) (wm:au B (aB x1 n1 A)) (y4:au B (aB x2 n2 T)):
  aw ae0 56 [x0,fb N,x1,x2] B fun r hs=> ∃o:V1,r= .tuple #[o.v,.int .i64 0]∧hs=B++[aj true o (n2+16) (gE 8 K N n1 A n2 T)]:=by
 have h:aw ae0 56 [x0,fb N,x1,x2] ([]++[aB x0 32 K,aB x1 n1 A,aB x2 n2 T]) fun r hs=> ∃nw,(∃o:V1,r= .tuple #[o.v,.int .i64 0]∧nw=[aj true o (n2+16) (gE 8 K N n1 A n2 T)])∧hs=[]++nw:=by
  refine aw.post (zz ⟨x0,h0⟩ ⟨x1,h1⟩ ⟨x2,h2⟩ K N A T hK hN hA hT n1 n2 hl) ?_;rintro r hs ⟨o,hr,rfl⟩;exact⟨_,bX.refl _,_,⟨o,hr,rfl⟩,rfl⟩
 refine aw.post (aw.fp h (by simp) ?_ ?_) ?_
 ·rintro v nw ⟨o,_,rfl⟩ h hh;simp only [afd,ae9,or_false]at hh;subst hh;rfl
 ·intro h hh;simp only [afd,ae9,or_false]at hh;rcases hh with rfl | rfl | rfl
  ·exact yZ
  ·exact wm
  ·exact y4
 ·rintro r hs ⟨nw,⟨o,hr,rfl⟩,rfl⟩;exact⟨_,bX.refl _,o,hr,rfl⟩
set_option maxHeartbeats 2000000 in
theorem zB(v0 v1 v2:V1)(K N A T:Nat→Nat)(hK: ∀j,K j<256)(hN: ∀j,N j<256)(hA: ∀j,A j<256)(hT: ∀j,T j<256)(n1 m:Nat)(hl:n1+m+100≤140737488355328):
  aw ae0 59 [v0.v,fb N,v1.v,v2.v] [aj false v0 32 K,aj false v1 n1 A,aj false v2 m T] (oX 8 K N n1 A m T):=by
 refine aw.post (p:=fun r hs=> ∃nI,bX hs nI∧oX 8 K N n1 A m T r nI) ?_ fun v hs h=>h
 refine Kx _ (n1:Int) (m:Int) (fun j=>(K j:Nat)) (fun j=>(N j:Nat)) (fun j=>(A j:Nat)) (fun j=>(T j:Nat)) v0 v1 v2 ?_;unfold AK;intro b0;refine⟨_,vg v0 K hK,?_⟩;rintro x hs ⟨b1,v3,rfl,rfl⟩;refine⟨b1,v3,fun j=>(sb j:Nat),cw 8 K,rfl,rfl,?_⟩;have hC:=f_ hN (c:=1) (by decide);have hX:=AD _ hC
 iterate 7 refine⟨by omega,fun _=>?_⟩
 refine⟨fun iH=>?_,fun bU=>?_⟩
 ·have hm:16≤m:=by omega
  have t1:ag ((m:Int) - 16)=m - 16:=by omega
  have t2:ag (m:Int)=m:=rfl;dsimp only [bo,bi,bn];rw [t1,t2];have Al:au [aj false v2 m T] (aB (aD 1 v2.v 0 (m - 16) none) (m - 16) T):=by
   have:=au.part (lo:=0) (hi:=m - 16) (mx:=none) (au.view (v:=v2) (n:=m) (T:=T)) (by omega) (by omega) (by simp);rw [Nat.sub_zero]at this;rw [nF (T':=fun j=>T (0+j)) fun j _=>by rw [Nat.zero_add]];exact this
  have ZC:au [aj false v2 m T] (aB (aD 1 v2.v (m - 16) m none) 16 fun j=>T (m - 16+j)):=by
   have:=au.part (lo:=m - 16) (hi:=m) (mx:=none) (au.view (v:=v2) (n:=m) (T:=T)) (by omega) (by omega) (by simp);rw [show m - (m - 16)=16 by omega]at this;exact this
  refine⟨_,jE (B:=[aj false v1 n1 A,aj false v2 m T]) v1.one (aK ..) b1 v3 8 (by decide) (by decide) K N A T hK hN hA hT n1 (m - 16) (by omega) (au.left (C:=[aj false v2 m T]) au.view) (au.right (A:=[aj false v1 n1 A]) Al),?_⟩;rintro x hs ⟨v4,rfl,rfl⟩;refine⟨v4,fun j=>(iF 8 K N n1 A (m - 16) T j:Nat),rfl,rfl,?_⟩;have hG:=wJ hK hN n1 A (m - 16) T (n:=8);rw [if_pos (show(!decide ((m:Int) - 16<0))=true by rw [decide_eq_false (by omega)];rfl)];refine⟨_,nG (B:=[aj true v4 16 (iF 8 K N n1 A (m - 16) T),aj false v2 m T]) v4.one (aK ..) 16 16 (iF 8 K N n1 A (m - 16) T) (fun j=>T (m - 16+j)) hG (fun j=>hT _) (by decide) (au.left (C:=[aj false v2 m T]) au.bytes) (au.right (A:=[aj true v4 16 (iF 8 K N n1 A (m - 16) T)]) ZC),?_⟩;rintro x hs ⟨rfl,rfl⟩;refine⟨_,rfl,rfl,?_⟩;have nj:mQ 16 16 (iF 8 K N n1 A (m - 16) T) (fun j=>T (m - 16+j))=true↔opens 8 K N n1 A m T:=by
   unfold mQ opens;simp [hm]
  refine⟨fun eZ=>?_,fun heq=>?_⟩
  ·exact⟨[],bX.sub (List.nil_sublist _),.inr ⟨fun h=>eZ (nj.2 h),rfl,rfl⟩⟩
  ·have hop:opens 8 K N n1 A m T:=nj.1 (by simpa using heq);refine⟨by omega,fun _=>⟨by omega,fun _=>?_⟩⟩;have fin: ∀o:V1,∃nI,bX [aj true o (m - 16) (de 8 K N T)] nI∧oX 8 K N n1 A m T (.tuple #[o.v,.int .i64 0]) nI:=fun o=>⟨_,bX.refl _,.inl ⟨hop,o,rfl,rfl⟩⟩
   have qQ:=fun b2=>dO (B:=[aj false v2 m T]) (x:=aD 1 v2.v 0 (m - 16) none) (aK ..) b1 b2 v3 8 (by decide) (by decide) K (nx (cA N 1)) T hK hX hT (m - 16) (by omega) Al
   have tB: ∀{C:Nat→Nat},Value.agg (aeU (al .u8 16 fun j=>(C j:Nat)) []).toArray=cb C:=ew fun _ _=>rfl
   refine⟨⟨_,fC N,?_⟩,?_⟩
   ·rintro x hs ⟨rfl,rfl⟩;refine⟨fun j=>(cA N 1 j:Nat),tB.symm,rfl,⟨_,by rw [tB];exact eu _ hC,?_⟩,fun b2=>⟨_,by rw [tB];exact eu _ hC,?_⟩⟩
    ·rintro x hs ⟨rfl,rfl⟩;refine⟨fun j=>(nx (cA N 1) j:Nat),tB.symm,rfl,fun b2=>⟨_,by rw [tB];exact qQ b2,?_⟩⟩;rintro x hs ⟨o,rfl,rfl⟩;exact⟨o,fun j=>(de 8 K N T j:Nat),rfl,rfl,fin o⟩
    ·rintro x hs ⟨rfl,rfl⟩;refine⟨fun j=>(nx (cA N 1) j:Nat),tB.symm,rfl,⟨_,by rw [tB];exact qQ b2,?_⟩⟩;rintro x hs ⟨o,rfl,rfl⟩;exact⟨o,fun j=>(de 8 K N T j:Nat),rfl,rfl,fin o⟩
   ·intro b2;refine⟨_,fC N,?_⟩;rintro x hs ⟨rfl,rfl⟩;refine⟨fun j=>(cA N 1 j:Nat),tB.symm,rfl,⟨_,by rw [tB];exact eu _ hC,?_⟩⟩;rintro x hs ⟨rfl,rfl⟩;refine⟨fun j=>(nx (cA N 1) j:Nat),tB.symm,rfl,⟨_,by rw [tB];exact qQ b2,?_⟩⟩;rintro x hs ⟨o,rfl,rfl⟩;exact⟨o,fun j=>(de 8 K N T j:Nat),rfl,rfl,fin o⟩
 ·exact⟨[],bX.sub (List.nil_sublist _),.inr ⟨fun h=>absurd h.1 (by omega),rfl,rfl⟩⟩
theorem y7{B:List HP}{x0 x1 x2:Value}(h0:x0.oneCell'=true)(h1:x1.oneCell'=true)(h2:x2.oneCell'=true)(K N A T:Nat→Nat)(hK: ∀j,K j<256)(hN: ∀j,N j<256)(hA: ∀j,A j<256)(hT: ∀j,T j<256)(n1 m:Nat)(hl:n1+m+100≤140737488355328)
  (yZ:au B (aB x0 32 K)) (wm:au B (aB x1 n1 A)) (y4:au B (aB x2 m T)):
  aw ae0 59 [x0,fb N,x1,x2] B fun r hs=> ∃nw,oX 8 K N n1 A m T r nw∧hs=B++nw:=by
 have h:aw ae0 59 [x0,fb N,x1,x2] ([]++[aB x0 32 K,aB x1 n1 A,aB x2 m T]) fun r hs=> ∃nw,oX 8 K N n1 A m T r nw∧hs=[]++nw:=by
  refine aw.post (zB ⟨x0,h0⟩ ⟨x1,h1⟩ ⟨x2,h2⟩ K N A T hK hN hA hT n1 m hl) ?_;intro r hs hq;exact⟨_,bX.refl _,hs,hq,rfl⟩
 refine aw.post (aw.fp h (by simp) ?_ ?_) ?_
 ·rintro v nw (⟨_,o,_,rfl⟩ | ⟨_,_,rfl⟩) h hh
  ·simp only [afd,ae9,or_false]at hh;subst hh;rfl
  ·simp at hh
 ·intro h hh;simp only [afd,ae9,or_false]at hh;rcases hh with rfl | rfl | rfl
  ·exact yZ
  ·exact wm
  ·exact y4
 ·rintro r hs ⟨nw,hq,rfl⟩;exact⟨_,bX.refl _,nw,hq,rfl⟩
end Go.RX.Fi

namespace Go.Se
open Go.Hd Go.Gh Go.Gc Go.Ae Go.RX Go.RX.Sh Go.RX.Fk Go.RX.Fi
def nm(s:Nat)(N:Nat→Nat)(na:Nat)(A:Nat→Nat)(nt:Nat)(Y:Nat→Nat):Nat→Nat:=
 cl 8 (cJ na) (cl 8 (cJ nt) (cl 8 (cJ (aY s)) (cl 12 N (cl na A Y))))
theorem IU{s:Nat}{N A Y:Nat→Nat}(hN: ∀j,N j<256)(hA: ∀j,A j<256)(hY: ∀j,Y j<256)(na nt:Nat): ∀j,nm s N na A nt Y j<256:=
 gS (wK _) (gS (wK _) (gS (wK _) (gS hN (gS hA hY _) _) _) _) _
def dW(s:Nat)(K N:Nat→Nat)(na:Nat)(A:Nat→Nat)(nt:Nat)(Y:Nat→Nat):Nat→Nat:=
 vZ 32 (fun j=>K (16+j)) (8+8+8+12+na+nt) (nm s N na A nt Y)
theorem rZ(s:Nat)(K N:Nat→Nat)(na:Nat)(A:Nat→Nat)(nt:Nat)(Y:Nat→Nat)(j:Nat):dW s K N na A nt Y j<256:=Rb _ _ _ _ j
theorem GJ{s:Nat}{N A A':Nat→Nat}{na nt:Nat}{Y Y':Nat→Nat}(hA: ∀j,j<na→A j=A' j)(hY: ∀j,j<nt→Y j=Y' j):
  ∀j,j<8+8+8+12+na+nt→nm s N na A nt Y j=nm s N na A' nt Y' j:=by
 intro j hj;unfold nm cl;split
 ·rfl
 split
 ·rfl
 split
 ·rfl
 split
 ·rfl
 split
 ·rename_i c;exact hA _ c
 ·exact hY _ (by omega)
theorem ER{s:Nat}{K N A A':Nat→Nat}{na nt:Nat}{Y Y':Nat→Nat}(hA: ∀j,j<na→A j=A' j)(hY: ∀j,j<nt→Y j=Y' j):dW s K N na A nt Y=dW s K N na A' nt Y':=
 GD (GJ hA hY)
def lF(s:Nat):Nat:=if s=5 then 8 else 4
def eg(s:Nat)(K N T:Nat→Nat):Nat→Nat:=if 4≤s then de (lF s) K N T else cS 4 K (cA N 0) T
theorem yq{s:Nat}{K N T:Nat→Nat}(hK: ∀j,K j<256)(hN: ∀j,N j<256)(hT: ∀j,T j<256)(j:Nat):eg s K N T j<256:=by
 unfold eg;split
 ·exact pL hK hN hT j
 ·exact Ae.sR 4 K _ _ hK (f_ hN (by decide)) hT j
def og(s:Nat)(K N:Nat→Nat)(na:Nat)(A:Nat→Nat)(nt:Nat)(T:Nat→Nat):Nat→Nat:=
 if 4≤s then gE (lF s) K N na A nt T else cl nt (eg s K N T) (dW s K N na A nt (eg s K N T))
theorem Rf{s:Nat}{K N T:Nat→Nat}(hK: ∀j,K j<256)(hN: ∀j,N j<256)(hT: ∀j,T j<256)(na:Nat)(A:Nat→Nat)(nt j:Nat):og s K N na A nt T j<256:=by
 unfold og;split
 ·exact Nr hK hN hT _ _ _ _
 ·exact gS (yq hK hN hT) (rZ _ _ _ _ _ _ _) _ _
def w9(s:Nat)(K N:Nat→Nat)(na:Nat)(A:Nat→Nat)(m:Nat)(T:Nat→Nat):Prop:=
 aY s≤m∧(if 4≤s then∀j,j<16→iF (lF s) K N na A (m - 16) T j=T (m - 16+j)else∀j,j<aY s→dW s K N na A (m - aY s) T j=T (m - aY s+j))
theorem w7{s:Nat}(_:isS s)(h4:4≤s)(K N:Nat→Nat)(na:Nat)(A:Nat→Nat)(m:Nat)(T:Nat→Nat):w9 s K N na A m T↔opens (lF s) K N na A m T:=by
 have ht:aY s=16:=by
  unfold aY;rw [if_neg (by omega),if_neg (by omega),if_neg (by omega)]
 unfold w9 opens;rw [if_pos h4,ht]
open Classical in
noncomputable def eW(s kn na nt:Nat):Nat:=if¬isS s then 130 else if kn≠gj s then 2 else if 1024<na then 3 else if 65536<nt then 3 else 0
noncomputable def np(s kn aU aS na nt:Nat):Nat:=if eW s kn na nt=0 then bN aU aS+(nt+aY s)else 0
def BZ(aU aS:Nat)(A:Nat→Nat):Nat→Nat:=cl (bN aU aS) (dx aU aS) A
theorem NK{A:Nat→Nat}(aU aS:Nat)(hA: ∀j,A j<256)(j:Nat):BZ aU aS A j<256:=gS (pN aU aS) hA _ j
def eX(s:Nat)(K S:Nat→Nat)(aU aS na:Nat)(A:Nat→Nat)(nt:Nat)(T:Nat→Nat):Nat→Nat:=
 cl (bN aU aS) (dx aU aS) (og s K (aJ S aS) (bN aU aS+na) (BZ aU aS A) nt T)
theorem NL{s:Nat}{K S T:Nat→Nat}(hK: ∀j,K j<256)(hS: ∀j,S j<256)(hT: ∀j,T j<256)(aU aS na:Nat)(A:Nat→Nat)(nt j:Nat):eX s K S aU aS na A nt T j<256:=
 gS (pN aU aS) (Rf hK (mO hS aS) hT _ _ _) _ j
def hlen(F:Nat→Nat):Nat:=1+nk F+nc F
theorem HF{F:Nat→Nat}(hF: ∀j,F j<256):hlen F≤17:=by
 have:=Sa (hF 0);have:=NC F;unfold hlen;omega
def cz(F:Nat→Nat):Nat→Nat:=fun j=>F (hlen F+j)
def oH(F A:Nat→Nat):Nat→Nat:=cl (hlen F) F A
theorem LK{F A:Nat→Nat}(hF: ∀j,F j<256)(hA: ∀j,A j<256)(j:Nat):oH F A j<256:=gS hF hA _ j
def iB(s:Nat)(K S:Nat→Nat)(na:Nat)(A:Nat→Nat)(m:Nat)(F:Nat→Nat):Prop:=
 w9 s K (aJ S (bf F)) (hlen F+na) (oH F A) (m - hlen F) (cz F)
open Classical in
noncomputable def cN(s kn aU:Nat)(K S:Nat→Nat)(na:Nat)(A:Nat→Nat)(m:Nat)(F:Nat→Nat):Nat:=
 if¬isS s then 130 else if kn≠gj s then 2 else if 1024<na then 3 else if¬nE m F then 9 else if bZ F≠aU then 4 else if 65536+aY s<m - hlen F then 3 else
 if iB s K S na A m F then 0 else 140
noncomputable def wY(s kn aU:Nat)(K S:Nat→Nat)(na:Nat)(A:Nat→Nat)(m:Nat)(F:Nat→Nat):Nat:=if cN s kn aU K S na A m F=0 then m - hlen F - aY s else 0
def rY(s:Nat)(K S F:Nat→Nat):Nat→Nat:=eg s K (aJ S (bf F)) (cz F)
noncomputable def uB(s kn aU:Nat)(K S:Nat→Nat)(na:Nat)(A:Nat→Nat)(m:Nat)(F:Nat→Nat):Nat:=if cN s kn aU K S na A m F=0 then bf F else 0
theorem Rg{s kn na nt:Nat}(h:eW s kn na nt=0):isS s∧kn=gj s∧na≤1024∧nt≤65536:=by
 unfold eW at h;split at h
 ·exact absurd h (by decide)
 rename_i c1;split at h
 ·exact absurd h (by decide)
 rename_i c2;split at h
 ·exact absurd h (by decide)
 split at h
 ·exact absurd h (by decide)
 exact⟨ae6.1 c1,by omega,by omega,by omega⟩
end Go.Se
