/- Headers taken. -/
import Derived.Test.YtmgbbbmdbpbeeaaM42
open Go.IntKind renaming wrap → ae
open Go.Proofs.Try renaming prog → adE
open Int renaming toNat → ag
open List renaming append → ads, getD_cons_succ → adx, getD_cons_zero → ah, mem_cons → adW, not_mem_nil → adP
open List.cons renaming injEq → adF
open Nat renaming lt_of_lt_of_le → adI
namespace Go.RX.Fm
open Go Go.RX Go.Proofs Go.RX.Sh Go.RX.Fg Go.RX.Fi Go.RX.Fj Go.RX.Fk Go.Hd Go.Gh Go.RX.Fe
theorem SY: ∀t:Fin 256,ak .aQ .u8 ((t.val:Nat):Int) 15=((t.val%16:Nat):Int):=by decide+kernel
theorem Yh: ∀t:Fin 256,ak .shr .u8 ((t.val:Nat):Int) 4=((t.val/16:Nat):Int):=by decide+kernel
theorem M8{a:Nat}(h:8≤a)(h2:a<16):ae .u8 ((a:Int) - 8)=((a - 8:Nat):Int):=by
 rw [show(a:Int) - 8=((a - 8:Nat):Int) by omega,wrap_u8];congr 1;omega
def M9(n:Nat)(T:Nat→Nat)(r:Value):Prop:=
 (yG n T∧r= .tuple #[.agg #[.int .u64 (fZ T:Nat),.int .u64 (bM T:Nat)],.int .i64 ((1+nk T+nc T:Nat):Int),.int .i64 0])∨
 (¬yG n T∧r= .tuple #[.agg #[.int .u64 0,.int .u64 0],.int .i64 0,.int .i64 9])
set_option maxHeartbeats 4000000 in
theorem G7(v0:V1)(n:Nat)(T:Nat→Nat)(hT: ∀j,T j<256):ar adE 20 [v0.v] [al false v0 n T] fun r hs=>M9 n T r∧hs=[]:=by
 refine ar.post (p:=fun r _=>M9 n T r) ?_ fun v hs h=>⟨[],bU.sub (List.nil_sublist _),h,rfl⟩
 refine Lc _ (n:Int) (fun j=>(T j:Nat)) v0 ?_;unfold Dj;dsimp only;have Ka:=hT 0;have zO:=Yh ⟨T 0,Ka⟩;have Vt:=SY ⟨T 0,Ka⟩;dsimp only at zO Vt;rw [zO,Vt];obtain⟨a,ha⟩: ∃a,a=T 0/16:=⟨_,rfl⟩;obtain⟨c,hc⟩: ∃c,c=T 0%16:=⟨_,rfl⟩;rw [←ha,←hc];have P8:a<16:=by omega
 have Vu:c<16:=by omega
 have wa:ae .u64 (a:Int)=(a:Int):=Co (by omega);have wc:ae .u64 (c:Int)=(c:Int):=Co (by omega);intro b0;refine⟨by omega,fun _=>⟨fun h0=> .inr ⟨fun h=>by have:=h.1;omega,rfl⟩,fun h0=>?_⟩⟩;intro b1;have TD:0<n:=by omega
 refine⟨by omega,fun _=>⟨fun h8=>⟨fun c8=>?_,fun c8=>?_⟩,fun h8=>?_⟩⟩
 ·have k0:nk T=0:=by unfold nk;rw [if_pos (by omega)]
  have c0:nc T=0:=by unfold nc;rw [if_pos (by omega)]
  have e1:fZ T=a:=by unfold fZ;rw [if_pos (by omega),ha]
  have e2:bM T=c:=by unfold bM;rw [if_pos (by omega),hc]
  rw [wa,wc];refine .inl ⟨⟨by omega,by rw [e1,k0];exact f_ (by omega),by rw [e2,c0];exact f_ (by omega)⟩,?_⟩;rw [e1,e2,k0,c0];rfl
 ·have k0:nk T=0:=by unfold nk;rw [if_pos (by omega)]
  have c0:nc T=c - 7:=by unfold nc;rw [if_neg (by omega),hc]
  have e1:fZ T=a:=by unfold fZ;rw [if_pos (by omega),ha]
  have e2:bM T=sJ (fun j=>T (1+j)) (c - 7):=by
   unfold bM;rw [if_neg (by omega),c0,k0]
  have hk:hb (fZ T)=nk T:=by rw [e1,k0];exact f_ (by omega)
  have dF:=G4 hT;rw [M8 (by omega) Vu,wa]
  iterate 6 refine⟨by omega,fun _=>?_⟩
  refine⟨fun bP=> .inr ⟨fun h=>by have:=h.1;omega,rfl⟩,fun ig=>?_⟩
  iterate 3 refine⟨by omega,fun _=>?_⟩
  refine⟨fun e=> ∃i:Nat,i≤c - 7∧e.i=[(i:Int)]∧(e.a.getD 0 fun _=>0) 0=(a:Int)∧(e.a.getD 0 fun _=>0) 1=(sJ (fun j=>T (1+j)) i:Nat),fun e=>((16:Int) - e.i.getD 0 0).toNat,⟨0,_,rfl,fun _ _=>rfl,0,by omega,rfl,rfl,rfl⟩,?_⟩;rintro x1 A1 ⟨i,hi,hx,s6,tZ⟩;simp only [adF,and_true]at hx;subst hx;simp only [ah]at s6 tZ;refine⟨fun bP=>?_,fun Yi=>?_⟩
  ·have t1:ag (1+(i:Int))=1+i:=by omega
   rw [t1]
   iterate 7 refine⟨by omega,fun _=>?_⟩
   refine⟨_,_,rfl,fun _ _=>rfl,⟨i+1,by omega,rfl,?_,?_⟩,?_⟩
   ·show A1 0=_;exact s6
   ·show ak .bJ .u64 (ak .shl .u64 (A1 1) 8) (ae .u64 ((T (1+i):Nat):Int))=_;have hw:sJ (fun j=>T (1+j)) i<2^56:=adI (ry _ (fun j=>hT _) i) (Nat.le_trans (Nat.pow_le_pow_right (by decide) (show i≤7 by omega)) (by decide));rw [tZ,Fh.Oa hw (hT _)];rfl
   ·simp only [ah];omega
  ·have Gn:i=c - 7:=by omega
   subst Gn;rw [←e2]at tZ;rw [s6,tZ];refine⟨_,gG (bM T) dF,?_⟩;rintro x hs ⟨v1,rfl,rfl⟩;have s_:=qL (bM T);refine⟨v1,(hb (bM T):Nat),fun j=>(be (hb (bM T)) (bM T) j:Nat),rfl,rfl,by omega,fun _=>⟨by omega,fun _=>⟨by omega,fun _=>⟨fun dR=>?_,fun heq=>?_⟩⟩⟩⟩
   ·exact .inr ⟨fun h=>by have:=h.2.2;omega,rfl⟩
   ·refine .inl ⟨⟨by omega,hk,by omega⟩,?_⟩;rw [e1,k0,c0,show(1:Int)+((c - 8:Nat):Int)+1=((1+0+(c - 7):Nat):Int) by omega]
 ·have k0:nk T=a - 7:=by unfold nk;rw [if_neg (by omega),ha]
  have e1:fZ T=sJ (fun j=>T (1+j)) (a - 7):=by
   unfold fZ;rw [if_neg (by omega),k0]
  have KP:=SU hT;have dF:=G4 hT;have ab1:=M6 T;rw [M8 (by omega) P8]
  iterate 6 refine⟨by omega,fun _=>?_⟩
  refine⟨fun bP=> .inr ⟨fun h=>by have:=h.1;omega,rfl⟩,fun ig=>?_⟩
  iterate 3 refine⟨by omega,fun _=>?_⟩
  refine⟨fun e=> ∃i:Nat,i≤a - 7∧e.i=[(i:Int)]∧(e.a.getD 0 fun _=>0) 0=(sJ (fun j=>T (1+j)) i:Nat)∧(e.a.getD 0 fun _=>0) 1=0,fun e=>((16:Int) - e.i.getD 0 0).toNat,⟨0,_,rfl,fun _ _=>rfl,0,by omega,rfl,rfl,rfl⟩,?_⟩;rintro x1 A1 ⟨i,hi,hx,s6,tZ⟩;simp only [adF,and_true]at hx;subst hx;simp only [ah]at s6 tZ;refine⟨fun bP=>?_,fun Yi=>?_⟩
  ·have t1:ag (1+(i:Int))=1+i:=by omega
   rw [t1]
   iterate 7 refine⟨by omega,fun _=>?_⟩
   refine⟨_,_,rfl,fun _ _=>rfl,⟨i+1,by omega,rfl,?_,?_⟩,?_⟩
   ·show ak .bJ .u64 (ak .shl .u64 (A1 0) 8) (ae .u64 ((T (1+i):Nat):Int))=_;have hw:sJ (fun j=>T (1+j)) i<2^56:=adI (ry _ (fun j=>hT _) i) (Nat.le_trans (Nat.pow_le_pow_right (by decide) (show i≤7 by omega)) (by decide));rw [s6,Fh.Oa hw (hT _)];rfl
   ·show A1 1=0;exact tZ
   ·simp only [ah];omega
  have Gn:i=a - 7:=by omega
  subst Gn;rw [←e1]at s6;rw [s6];refine⟨_,gG (fZ T) KP,?_⟩;rintro x hs ⟨v1,rfl,rfl⟩;have s_:=qL (fZ T);refine⟨v1,(hb (fZ T):Nat),fun j=>(be (hb (fZ T)) (fZ T) j:Nat),rfl,rfl,by omega,fun _=>⟨by omega,fun _=>⟨by omega,fun _=>⟨fun dR=>?_,fun heq=>?_⟩⟩⟩⟩
  ·exact .inr ⟨fun h=>by have:=h.2.1;omega,rfl⟩
  have hk:hb (fZ T)=nk T:=by omega
  refine⟨fun c8=>?_,fun c8=>?_⟩
  ·have c0:nc T=0:=by unfold nc;rw [if_pos (by omega)]
   have e2:bM T=c:=by unfold bM;rw [if_pos (by omega),hc]
   rw [wc];refine .inl ⟨⟨by omega,hk,by rw [e2,c0];exact f_ (by omega)⟩,?_⟩;rw [e2,k0,c0,show(1:Int)+((a - 8:Nat):Int)+1=((1+(a - 7)+0:Nat):Int) by omega]
  ·have c0:nc T=c - 7:=by unfold nc;rw [if_neg (by omega),hc]
   have e2:bM T=sJ (fun j=>T (1+nk T+j)) (c - 7):=by
    unfold bM;rw [if_neg (by omega),c0]
   rw [M8 (by omega) Vu]
   iterate 7 refine⟨by omega,fun _=>?_⟩
   refine⟨fun bP=> .inr ⟨fun h=>by have:=h.1;omega,rfl⟩,fun ab2=>?_⟩
   iterate 4 refine⟨by omega,fun _=>?_⟩
   refine⟨fun e=> ∃i:Nat,i≤c - 7∧e.i=[(i:Int)]∧(e.a.getD 0 fun _=>0) 0=(fZ T:Nat)∧(e.a.getD 0 fun _=>0) 1=(sJ (fun j=>T (1+nk T+j)) i:Nat),fun e=>((16:Int) - e.i.getD 0 0).toNat,⟨0,_,rfl,fun _ _=>rfl,0,by omega,rfl,s6,tZ⟩,?_⟩;rintro x3 A3 ⟨i3,ZN,hx,Yj,WE⟩;simp only [adF,and_true]at hx;subst hx;simp only [ah]at Yj WE;refine⟨fun bP=>?_,fun ab3=>?_⟩
   ·have t1:ag ((1:Int)+((a - 8:Nat):Int)+1+(i3:Int))=1+nk T+i3:=by omega
    rw [t1]
    iterate 8 refine⟨by omega,fun _=>?_⟩
    refine⟨_,_,rfl,fun _ _=>rfl,⟨i3+1,by omega,rfl,?_,?_⟩,?_⟩
    ·show A3 0=_;exact Yj
    ·show ak .bJ .u64 (ak .shl .u64 (A3 1) 8) (ae .u64 ((T (1+nk T+i3):Nat):Int))=_;have hw:sJ (fun j=>T (1+nk T+j)) i3<2^56:=adI (ry _ (fun j=>hT _) i3) (Nat.le_trans (Nat.pow_le_pow_right (by decide) (show i3≤7 by omega)) (by decide));rw [WE,Fh.Oa hw (hT _)];rfl
    ·simp only [ah];omega
   ·have Gn:i3=c - 7:=by omega
    subst Gn;rw [←e2]at WE;rw [Yj,WE];refine⟨_,gG (bM T) dF,?_⟩;rintro x hs ⟨v2,rfl,rfl⟩;have ab4:=qL (bM T);refine⟨v2,(hb (bM T):Nat),fun j=>(be (hb (bM T)) (bM T) j:Nat),rfl,rfl,by omega,fun _=>⟨by omega,fun _=>⟨by omega,fun _=>⟨fun ab5=>?_,fun ab6=>?_⟩⟩⟩⟩
    ·exact .inr ⟨fun h=>by have:=h.2.2;omega,rfl⟩
    ·refine .inl ⟨⟨by omega,hk,by omega⟩,?_⟩;rw [k0,c0,show(1:Int)+((a - 8:Nat):Int)+1+((c - 8:Nat):Int)+1=((1+(a - 7)+(c - 7):Nat):Int) by omega]
theorem G8{B:List HP}{x:Value}(hx:x.oneCell'=true)(n:Nat)(T:Nat→Nat)(hT: ∀j,T j<256)(h:ay B (aL x n T)):ar adE 20 [x] B fun r hs=>M9 n T r∧hs=B:=
 pH (G7 ⟨x,hx⟩ n T hT) (iZ h)
theorem Qc{n:Nat}(s:Nat)(hs:s≤64):ae .u8 (ak .shr .u64 (n:Int) (s:Int))=((n/2^s%256:Nat):Int):=by
 rw [fM .u64 n s hs,wrap_u8,Nat.shiftRight_eq_div_pow]
set_option maxHeartbeats 1000000 in
theorem vr(su aM aP:Nat)(v0:V1)(S:Nat→Nat)(hS: ∀j,S j<256)(hc:aP<18446744073709551616):
  ar adE 35 [.agg (.int .u16 (su:Int):: .int .u64 (aM:Int)::v0.v::(ads (aj .u8 12 fun j=>((S j:Nat):Int)) [])).toArray,.int .u64 (aP:Int)] [] fun r hs=>r=eF (aW S aP)∧hs=[]:=by
 refine ar.post (p:=fun r _=>r=eF (aW S aP)) ?_ fun v hs h=>⟨[],bU.sub (List.nil_sublist _),h,rfl⟩
 refine Ja _ (su:Int) (aM:Int) (aP:Int) (fun _=>0) (fun j=>(S j:Nat)) v0 ?_;unfold Ad;dsimp only;intro b0 b1 b2;have hx: ∀(j s p:Nat),s≤64→2^s=256^(11 - j)→p=s→ak .aD .u8 ((S j:Nat):Int) (ae .u8 (ak .shr .u64 (aP:Int) (p:Int)))=((aW S aP j:Nat):Int):=by
  intro j s p hs hp e;subst e;rw [Qc p hs,cz (hS j) (Nat.mod_lt _ (by decide)),hp];rfl
 have h0: ∀j,j<4→aW S aP j=S j:=by
  intro j hj;unfold aW;have h1:256^(11 - j)=256^(3 - j)*18446744073709551616:=by
   have: ∀j,j<4→256^(11 - j)=256^(3 - j)*18446744073709551616:=by decide
   exact this j hj
  have h2:aP/256^(11 - j)=0:=by
   refine Nat.div_eq_of_lt (adI hc ?_);rw [h1];exact Nat.le_mul_of_pos_left _ (Nat.pow_pos (by decide))
  rw [h2];exact Nat.xor_zero _
 have e4:ak .aD .u8 ((S 4:Nat):Int) (ae .u8 (ak .shr .u64 (aP:Int) 56))=((aW S aP 4:Nat):Int):=hx 4 56 56 (by decide) (by decide) rfl;have e5:ak .aD .u8 ((S 5:Nat):Int) (ae .u8 (ak .shr .u64 (aP:Int) 48))=((aW S aP 5:Nat):Int):=hx 5 48 48 (by decide) (by decide) rfl;have e6:ak .aD .u8 ((S 6:Nat):Int) (ae .u8 (ak .shr .u64 (aP:Int) 40))=((aW S aP 6:Nat):Int):=hx 6 40 40 (by decide) (by decide) rfl;have e7:ak .aD .u8 ((S 7:Nat):Int) (ae .u8 (ak .shr .u64 (aP:Int) 32))=((aW S aP 7:Nat):Int):=hx 7 32 32 (by decide) (by decide) rfl;have e8:ak .aD .u8 ((S 8:Nat):Int) (ae .u8 (ak .shr .u64 (aP:Int) 24))=((aW S aP 8:Nat):Int):=hx 8 24 24 (by decide) (by decide) rfl;have e9:ak .aD .u8 ((S 9:Nat):Int) (ae .u8 (ak .shr .u64 (aP:Int) 16))=((aW S aP 9:Nat):Int):=hx 9 16 16 (by decide) (by decide) rfl;have Wv:ak .aD .u8 ((S 10:Nat):Int) (ae .u8 (ak .shr .u64 (aP:Int) 8))=((aW S aP 10:Nat):Int):=hx 10 8 8 (by decide) (by decide) rfl;have Ww:ak .aD .u8 ((S 11:Nat):Int) (ae .u8 (ak .shr .u64 (aP:Int) 0))=((aW S aP 11:Nat):Int):=hx 11 0 0 (by decide) (by decide) rfl;unfold eF;congr 1;show List.toArray _=List.toArray _;congr 1;show [Value.int .u8 ((S 0:Nat):Int),Value.int .u8 ((S 1:Nat):Int),Value.int .u8 ((S 2:Nat):Int),Value.int .u8 ((S 3:Nat):Int),_,_,_,_,_,_,_,_]=[Value.int .u8 ((aW S aP 0:Nat):Int),Value.int .u8 ((aW S aP 1:Nat):Int),Value.int .u8 ((aW S aP 2:Nat):Int),Value.int .u8 ((aW S aP 3:Nat):Int),_,_,_,_,_,_,_,_];rw [h0 0 (by decide),h0 1 (by decide),h0 2 (by decide),h0 3 (by decide),e4,e5,e6,e7,e8,e9,Wv,Ww]
open Go Go.RX Go.Proofs Go.RX.Sh Go.RX.Fg Go.RX.Fj Go.RX.Fk Go.Hd Go.Gh Go.RX.Fe
def G9(s:Nat)(r:Value):Prop:=
 (isS s∧r= .tuple #[.agg #[.int .u8 (qM s:Nat),.int .i64 (db s:Nat),.int .i64 (yH s:Nat),.int .i64 (bw s:Nat),.int .i64 (pK s:Nat)],.int .i64 0])∨
 (¬isS s∧r= .tuple #[.agg #[.int .u8 0,.int .i64 0,.int .i64 0,.int .i64 0,.int .i64 0],.int .i64 130])
theorem E1{s n:Nat}(h:s≠n):ag ((cI ((List.range 1).map (fun _=>(s:Int))):Nat):Int)≠cI [(n:Int)]:=by
 intro e;have:=AQ (l:=[(s:Int)]) (m:=[(n:Int)]) rfl e;simp only [adF,and_true]at this;omega
theorem lT(s:Nat):ar adE 5 [.int .u16 (s:Int)] [] fun r hs=>G9 s r∧hs=[]:=by
 refine ar.post (p:=fun r _=>G9 s r) ?_ fun v hs h=>⟨[],bU.sub (List.nil_sublist _),h,rfl⟩
 refine FV _ (s:Int) ?_;unfold wX;intro b0 b1 b2;have k1:cI [((1:Nat):Int)]=20:=by decide+kernel
 have k2:cI [((2:Nat):Int)]=72:=by decide+kernel
 have k3:cI [((3:Nat):Int)]=104:=by decide+kernel
 have k4:cI [((4:Nat):Int)]=272:=by decide+kernel
 have k5:cI [((5:Nat):Int)]=336:=by decide+kernel
 by_cases h1:s=1
 ·subst h1;have e:ag ((cI ((List.range 1).map (fun _=>((1:Nat):Int))):Nat):Int)=20:=k1;rw [e];exact⟨fun _=> .inl ⟨.inl rfl,rfl⟩,fun h=>absurd h (by decide)⟩
 by_cases h2:s=2
 ·subst h2;have e:ag ((cI ((List.range 1).map (fun _=>((2:Nat):Int))):Nat):Int)=72:=k2;rw [e];exact⟨fun _=> .inl ⟨.inr (.inl rfl),rfl⟩,fun h=>absurd h (by decide)⟩
 by_cases h3:s=3
 ·subst h3;have e:ag ((cI ((List.range 1).map (fun _=>((3:Nat):Int))):Nat):Int)=104:=k3;rw [e];exact⟨fun _=> .inl ⟨.inr (.inr (.inl rfl)),rfl⟩,fun h=>absurd h (by decide)⟩
 by_cases h4:s=4
 ·subst h4;have e:ag ((cI ((List.range 1).map (fun _=>((4:Nat):Int))):Nat):Int)=272:=k4;rw [e];exact⟨fun _=> .inl ⟨.inr (.inr (.inr (.inl rfl))),rfl⟩,fun h=>absurd h (by decide)⟩
 by_cases h5:s=5
 ·subst h5;have e:ag ((cI ((List.range 1).map (fun _=>((5:Nat):Int))):Nat):Int)=336:=k5;rw [e];exact⟨fun _=> .inl ⟨.inr (.inr (.inr (.inr rfl))),rfl⟩,fun h=>absurd h (by decide)⟩
 have n1:=E1 h1;have n2:=E1 h2;have n3:=E1 h3;have n4:=E1 h4;have n5:=E1 h5;rw [k1]at n1;rw [k2]at n2;rw [k3]at n3;rw [k4]at n4;rw [k5]at n5;have z:ao (ao (ao (ao (ao (fun _=>0) 20 1) 72 1) 104 1) 272 1) 336 1 (ag ((cI ((List.range 1).map (fun _=>(s:Int))):Nat):Int))=0:=by
  unfold ao;rw [if_neg n5,if_neg n4,if_neg n3,if_neg n2,if_neg n1]
 refine⟨fun h=>absurd z h,fun _=> .inr ⟨fun h=>?_,rfl⟩⟩;rcases h with h | h | h | h | h
 ·exact h1 h
 ·exact h2 h
 ·exact h3 h
 ·exact h4 h
 ·exact h5 h
theorem vu{B:List HP}(s:Nat):ar adE 5 [.int .u16 (s:Int)] B fun r hs=>G9 s r∧hs=B:=
 pH (lT s) (by simp)
theorem zP(b:Nat)(v0 v1:V1)(n0 n1:Nat)(T0 T1:Nat→Nat)(hl:n0+n1≤140737488355328):
  ar adE 19 [.slice (some ⟨b,0,none⟩) 2 2] [aq b true [v0.v,v1.v],al false v0 n0 T0,al false v1 n1 T1] fun r hs=> ∃o:V1,r=o.v∧hs=[aq b true [v0.v,v1.v],al true o (n0+n1) (ey n0 T0 T1)]:=by
 have fin: ∀o:V1,[aq b true [v0.v,v1.v],au true 5 1 o.v (ag ((n0:Int)+(n1:Int))) (aK (ag ((n0:Int)+(n1:Int))) [aJ .u8 1 (aA (fun j=>((T0 j:Nat):Int)) (ag (n0:Int)) (ag (n1:Int)) fun j=>((T1 j:Nat):Int))])]=[aq b true [v0.v,v1.v],al true o (n0+n1) (ey n0 T0 T1)]:=by
  intro o;unfold al;rw [show ag ((n0:Int)+(n1:Int))=n0+n1 by omega,Int.toNat_natCast,Int.toNat_natCast];congr 3;refine cm fun j hj=>?_
  unfold aA ey;by_cases c:j<n0
  ·rw [if_neg (by omega),if_pos c]
  ·rw [if_pos (by omega),if_neg c]
 refine FX _ (n0:Int) (n1:Int) (fun j=>(T0 j:Nat)) (fun j=>(T1 j:Nat)) v0 v1 b ?_;unfold wY
 iterate 3 refine⟨by omega,fun _=>?_⟩
 refine⟨fun h=>by omega,fun _=>⟨by omega,fun _=>⟨by omega,fun _=>⟨by omega,fun _=>⟨fun h=>by omega,fun _=>⟨fun h=>?_,fun h=>?_⟩⟩⟩⟩⟩⟩
 ·refine⟨by omega,fun _=>⟨by omega,fun _ v2=>⟨by omega,fun _ v3 v4=>⟨v4,rfl,?_⟩⟩⟩⟩;exact fin v4
 ·refine⟨by omega,fun _ v2=>⟨by omega,fun _ v3=>⟨v3,rfl,?_⟩⟩⟩;exact fin v3
theorem fC{B:List HP}(b:Nat){x0 x1:Value}(h0:x0.oneCell'=true)(h1:x1.oneCell'=true)(n0 n1:Nat)(T0 T1:Nat→Nat)(hl:n0+n1≤140737488355328)(g0:ay B (aL x0 n0 T0))(g1:ay B (aL x1 n1 T1)):
  ar adE 19 [.slice (some ⟨b,0,none⟩) 2 2] ([aq b true [x0,x1]]++B) fun r hs=> ∃o:V1,r=o.v∧hs=[aq b true [x0,x1]]++B++[al true o (n0+n1) (ey n0 T0 T1)]:=by
 have hm:ar adE 19 [.slice (some ⟨b,0,none⟩) 2 2] ([aq b true [x0,x1]]++[aL x0 n0 T0,aL x1 n1 T1]) fun r hs=> ∃nw,(∃o:V1,r=o.v∧nw=[al true o (n0+n1) (ey n0 T0 T1)])∧hs=[aq b true [x0,x1]]++nw:=by
  refine ar.post (zP b ⟨x0,h0⟩ ⟨x1,h1⟩ n0 n1 T0 T1 hl) ?_;rintro r hs ⟨o,hr,rfl⟩;exact⟨_,bU.refl _,_,⟨o,hr,rfl⟩,rfl⟩
 refine ar.post (ar.iV hm ?_ ?_ (Kb g0 g1)) ?_
 ·intro h hh;simp only [adW,adP,or_false]at hh;subst hh;rfl
 ·rintro v nw ⟨o,_,rfl⟩ h hh;simp only [adW,adP,or_false]at hh;subst hh;rfl
 ·rintro r hs ⟨nw,⟨o,hr,rfl⟩,rfl⟩;exact⟨_,bU.refl _,o,hr,rfl⟩
theorem lU{B:List HP}{x:Value}(hx:x.oneCell'=true)(K:Nat→Nat)(hK: ∀j,K j<256)(hb:ay B (aL x 16 K)):
  ar adE 10 [x] B fun r hs=> ∃(b:Nat) (w:V1),r= .tuple #[.pointer (some ⟨b,0,none⟩),.int .i64 0]∧hs=B++[ct b w,eH w 4 K]:=by
 have h:ar adE 10 [x] ([]++[aL x 16 K]) fun r hs=> ∃nw,(∃(b:Nat) (w:V1),r= .tuple #[.pointer (some ⟨b,0,none⟩),.int .i64 0]∧nw=[ct b w,eH w 4 K])∧hs=[]++nw:=by
  refine ar.post (pz ⟨x,hx⟩ K hK) ?_;rintro r hs ⟨b,w,hr,rfl⟩;exact⟨_,bU.sub (List.sublist_cons_self _ _),_,⟨b,w,hr,rfl⟩,rfl⟩
 refine ar.post (ar.iV h (by simp) ?_ (iZ hb)) ?_
 ·rintro v nw ⟨b,w,_,rfl⟩ h hh;simp only [adW,adP,or_false]at hh;rcases hh with rfl | rfl<;>rfl
 ·rintro r hs ⟨nw,⟨b,w,hr,rfl⟩,rfl⟩;exact⟨B++[ct b w,eH w 4 K],by simpa using bU.refl _,b,w,hr,rfl⟩
end Go.RX.Fm

namespace Go.RX.Fq
open Go Go.RX Go.Proofs Go.RX.Sh Go.RX.Fg Go.RX.Fj Go.RX.Fk Go.RX.Fm Go.Hd
def HW(h w:Nat):Prop:=(h=1∧w=32)∨(h=2∧w=64)
theorem E2{h w:Nat}(hh:HW h w)(v0:V1)(n:Nat)(T:Nat→Int)(hl:n≤1024):ar adE 29 [.int .u8 (h:Int),.slice none 0 0,v0.v] [bn false v0 n T] fun r hs=> ∃(o:V1) (N:Nat→Int),fD N∧r=o.v∧hs=[bn true o w N]:=by
 refine F5 _ (h:Int) (n:Int) T v0 ?_;unfold xh;intro b0;rcases hh with⟨rfl,rfl⟩ | ⟨rfl,rfl⟩
 ·refine⟨_,CA (B:=[bn false v0 n T]) b0 v0.one n T (by omega) (ay.fw 0 rfl),?_⟩;rintro x hs ⟨o,N,hN,rfl,rfl⟩;exact⟨o,32,N,rfl,rfl,o,N,hN,rfl,rfl⟩
 ·refine⟨_,CB (B:=[bn false v0 n T]) b0 v0.one n T (by omega) (ay.fw 0 rfl),?_⟩;rintro x hs ⟨o,N,hN,rfl,rfl⟩;exact⟨o,64,N,rfl,rfl,o,N,hN,rfl,rfl⟩
theorem zQ{B:List HP}{h w:Nat}(hh:HW h w){x:Value}(hx:x.oneCell'=true)(n:Nat)(T:Nat→Int)(hl:n≤1024)(hb:ay B (vw x n T)):ar adE 29 [.int .u8 (h:Int),.slice none 0 0,x] B fun r hs=> ∃(o:V1) (N:Nat→Int),fD N∧r=o.v∧hs=B++[bn true o w N]:=
 Cz (E2 hh ⟨x,hx⟩ n T hl) (iZ hb)
theorem AR{f:Nat}{args:List Value}{a k:HP}{B:List HP}{n:Nat}(hm:ar adE f args ([a]++k::B) fun r hs=> ∃(o:V1) (N:Nat→Int),fD N∧r=o.v∧hs=[a]++k::B++[bn true o n N]):
  ar adE f args (k::a::B) fun r hs=> ∃(o:V1) (N:Nat→Int),fD N∧r=o.v∧hs=k::a::B++[bn true o n N]:=by
 refine ar.post (ar.pre hm (bU.perm (List.Perm.swap _ _ _))) ?_;rintro r hs ⟨o,N,hN,hr,rfl⟩;exact⟨_,bU.perm (List.Perm.swap _ _ _),o,N,hN,hr,rfl⟩
theorem bU.M_{v:V1}{L n:Nat}{A:Nat→Int}(h:n≤L)(hn:0<n)(hA: ∀j,j<L→0≤A j∧A j<256): ∃N,fD N∧bU [bn true v L A] [bn true ⟨aC 1 v.v 0 n (some n),aI 1 v.v 0 n (some n)⟩ n N]:=by
 refine⟨fun j=>if j<n then A j else 0,fun j=>?_,?_⟩
 ·dsimp only;split
  ·exact hA j (by omega)
  ·omega
 have e:=bU.part (v:=v) (t:=5) (n:=L) (m:=n) (mx:=some n) (cs:=aK L [aJ .u8 1 A]) h (fun x hx=>by cases hx;omega) hn;have key:(aK L [aJ .u8 1 A]).take n=aK n [aJ .u8 1 fun j=>if j<n then A j else 0]:=by
  rw [gl,gl,dq .u8 L n _ h];exact bA .u8 n fun j hj=>by rw [if_pos hj]
 rw [key]at e;exact e
set_option maxHeartbeats 1000000 in
theorem CD(v0 v1:V1)(n0 n1 n2:Nat)(h0:n0≤64)(h1:n1≤1000)(hp:1≤n2)(h2:n2≤64)(T0 T1:Nat→Int):ar adE 14 [.int .u8 1,v0.v,v1.v,.int .i64 (n2:Int)] [bn false v0 n0 T0,bn false v1 n1 T1] fun r hs=> ∃(o:V1) (N:Nat→Int),fD N∧r= .tuple #[o.v,.int .i64 0]∧hs=[bn true o n2 N]:=by
 refine ar.post (p:=fun r hs=> ∃(v:V1) (L:Nat) (A:Nat→Int) (y:HP),n2≤L∧(∀j,j<L→0≤A j∧A j<256)∧r= .tuple #[aC 1 v.v 0 n2 (some n2),.int .i64 0]∧hs=[bn true v L A,y]) ?_ ?_;rotate_left
 ·rintro r hs ⟨v,L,A,y,hL,hA,rfl,rfl⟩;obtain⟨N,hN,he⟩:=bU.M_ (v:=v) hL (by omega) hA;exact⟨_,bU.trans (bU.sub (List.Sublist.cons_cons _ (List.nil_sublist _))) he,_,N,hN,rfl,rfl⟩
 refine Dw _ (n0:Int) (n1:Int) (n2:Int) T0 T1 v0 v1 ?_;unfold uF;refine⟨fun _=>?_,fun h=>absurd h (by omega)⟩;refine⟨fun h=>absurd h (by omega),fun _=>?_⟩;refine⟨fun e=> ∃i m:Nat,m≤64∧32*i<n2+32∧e.i=[(i:Int)+1,((32*i:Nat):Int),(m:Int)]∧∀j,j<32*i→0≤(e.a.getD 0 fun _=>0) j∧(e.a.getD 0 fun _=>0) j<256,fun e=>(200 - e.i.getD 1 0).toNat,
  ⟨⟨.slice none 0 0,rfl⟩,⟨.slice none 0 0,rfl⟩,1,0,0,_,_,rfl,rfl,rfl,rfl,rfl,fun _ _=>rfl,rfl,rfl,fun _ _=>rfl,0,0,by omega,by omega,rfl,fun j hj=>absurd hj (by omega)⟩,?_⟩
 rintro v4 v5 x3 x4 x5 A2 A3 ⟨i,m,hm,hi,hx,hA⟩;simp only [adF,and_true]at hx;obtain⟨rfl,rfl,rfl⟩:=hx;simp only [ah]at hA;refine⟨by omega,fun _=>⟨fun bP=>?_,fun ig=>?_⟩⟩
 ·intro b0 b1;have hz:=t_ ((i:Int)+1);have gz:ay [bn false v0 n0 T0,bn true v5 m A3,bn false v1 n1 T1,aq b0 true [.int .u8 (ae .u8 ((i:Int)+1))]] (vw (.slice (some ⟨b0,0,none⟩) 1 1) 1 fun _=>(((ae .u8 ((i:Int)+1)).toNat:Nat):Int)):=
   ay.right (A:=[bn false v0 n0 T0,bn true v5 m A3,bn false v1 n1 T1]) (ay.block (b:=b0) (n:=1) (m:=1) (wr:=true) (A:=fun _=>ae .u8 ((i:Int)+1)) (T:=fun _=>(ae .u8 ((i:Int)+1)).toNat) (fun _ _=>by omega) (Nat.le_refl _))
  refine⟨_,AR (EZ (B:=[bn false v0 n0 T0,bn true v5 m A3,bn false v1 n1 T1,aq b0 true [.int .u8 (ae .u8 ((i:Int)+1))]]) b1 v5.one v1.one rfl v0.one m n1 1 n0 A3 T1 _ T0 (by omega) (by omega) (ay.fw 1 rfl) (ay.fw 2 rfl) gz (ay.fw 0 rfl)),?_⟩;rintro x hs ⟨v6,N,hN,rfl,rfl⟩;refine⟨v6,32,N,rfl,rfl,by omega,fun _=>⟨by omega,fun _=>⟨by omega,fun _=>?_⟩⟩⟩;intro v7;refine⟨by omega,fun _=>⟨by omega,fun _=>?_⟩⟩;refine⟨v7,v6,_,_,_,_,_,rfl,rfl,rfl,rfl,rfl,fun _ _=>rfl,rfl,rfl,fun _ _=>rfl,⟨i+1,32,by omega,by omega,?_,fun j hj=>?_⟩,?_⟩
  ·simp only [adF,and_true];omega
  ·simp only [ah];unfold aA;split
   ·exact hN _
   ·exact hA j (by omega)
  ·simp only [ah,adx];omega
 ·refine⟨by omega,fun _=>⟨by omega,fun _=>?_⟩⟩;exact⟨v4,32*i,A2,_,by omega,hA,rfl,rfl⟩
set_option maxHeartbeats 1000000 in
theorem CE(v0 v1:V1)(n0 n1 n2:Nat)(h0:n0≤64)(h1:n1≤1000)(hp:1≤n2)(h2:n2≤64)(T0 T1:Nat→Int):ar adE 14 [.int .u8 2,v0.v,v1.v,.int .i64 (n2:Int)] [bn false v0 n0 T0,bn false v1 n1 T1] fun r hs=> ∃(o:V1) (N:Nat→Int),fD N∧r= .tuple #[o.v,.int .i64 0]∧hs=[bn true o n2 N]:=by
 refine ar.post (p:=fun r hs=> ∃(v:V1) (L:Nat) (A:Nat→Int) (y:HP),n2≤L∧(∀j,j<L→0≤A j∧A j<256)∧r= .tuple #[aC 1 v.v 0 n2 (some n2),.int .i64 0]∧hs=[bn true v L A,y]) ?_ ?_;rotate_left
 ·rintro r hs ⟨v,L,A,y,hL,hA,rfl,rfl⟩;obtain⟨N,hN,he⟩:=bU.M_ (v:=v) hL (by omega) hA;exact⟨_,bU.trans (bU.sub (List.Sublist.cons_cons _ (List.nil_sublist _))) he,_,N,hN,rfl,rfl⟩
 refine Dx _ (n0:Int) (n1:Int) (n2:Int) T0 T1 v0 v1 ?_;unfold uG;refine⟨fun _=>?_,fun h=>absurd h (by omega)⟩;refine⟨fun h=>absurd h (by omega),fun _=>?_⟩;refine⟨fun e=> ∃i m:Nat,m≤64∧64*i<n2+64∧e.i=[(i:Int)+1,((64*i:Nat):Int),(m:Int)]∧∀j,j<64*i→0≤(e.a.getD 0 fun _=>0) j∧(e.a.getD 0 fun _=>0) j<256,fun e=>(200 - e.i.getD 1 0).toNat,
  ⟨⟨.slice none 0 0,rfl⟩,⟨.slice none 0 0,rfl⟩,1,0,0,_,_,rfl,rfl,rfl,rfl,rfl,fun _ _=>rfl,rfl,rfl,fun _ _=>rfl,0,0,by omega,by omega,rfl,fun j hj=>absurd hj (by omega)⟩,?_⟩
 rintro v4 v5 x3 x4 x5 A2 A3 ⟨i,m,hm,hi,hx,hA⟩;simp only [adF,and_true]at hx;obtain⟨rfl,rfl,rfl⟩:=hx;simp only [ah]at hA;refine⟨by omega,fun _=>⟨fun bP=>?_,fun ig=>?_⟩⟩
 ·intro b0 b1;have hz:=t_ ((i:Int)+1);have gz:ay [bn false v0 n0 T0,bn true v5 m A3,bn false v1 n1 T1,aq b0 true [.int .u8 (ae .u8 ((i:Int)+1))]] (vw (.slice (some ⟨b0,0,none⟩) 1 1) 1 fun _=>(((ae .u8 ((i:Int)+1)).toNat:Nat):Int)):=
   ay.right (A:=[bn false v0 n0 T0,bn true v5 m A3,bn false v1 n1 T1]) (ay.block (b:=b0) (n:=1) (m:=1) (wr:=true) (A:=fun _=>ae .u8 ((i:Int)+1)) (T:=fun _=>(ae .u8 ((i:Int)+1)).toNat) (fun _ _=>by omega) (Nat.le_refl _))
  refine⟨_,AR (E0 (B:=[bn false v0 n0 T0,bn true v5 m A3,bn false v1 n1 T1,aq b0 true [.int .u8 (ae .u8 ((i:Int)+1))]]) b1 v5.one v1.one rfl v0.one m n1 1 n0 A3 T1 _ T0 (by omega) (by omega) (ay.fw 1 rfl) (ay.fw 2 rfl) gz (ay.fw 0 rfl)),?_⟩;rintro x hs ⟨v6,N,hN,rfl,rfl⟩;refine⟨v6,64,N,rfl,rfl,by omega,fun _=>⟨by omega,fun _=>⟨by omega,fun _=>?_⟩⟩⟩;intro v7;refine⟨by omega,fun _=>⟨by omega,fun _=>?_⟩⟩;refine⟨v7,v6,_,_,_,_,_,rfl,rfl,rfl,rfl,rfl,fun _ _=>rfl,rfl,rfl,fun _ _=>rfl,⟨i+1,64,by omega,by omega,?_,fun j hj=>?_⟩,?_⟩
  ·simp only [adF,and_true];omega
  ·simp only [ah];unfold aA;split
   ·exact hN _
   ·exact hA j (by omega)
  ·simp only [ah,adx];omega
 ·refine⟨by omega,fun _=>⟨by omega,fun _=>?_⟩⟩;exact⟨v4,64*i,A2,_,by omega,hA,rfl,rfl⟩
theorem G_{h w:Nat}(hh:HW h w)(v0 v1:V1)(n0 n1 n2:Nat)(h0:n0≤64)(h1:n1≤1000)(hp:1≤n2)(h2:n2≤64)(T0 T1:Nat→Int):ar adE 14 [.int .u8 (h:Int),v0.v,v1.v,.int .i64 (n2:Int)] [bn false v0 n0 T0,bn false v1 n1 T1] fun r hs=> ∃(o:V1) (N:Nat→Int),fD N∧r= .tuple #[o.v,.int .i64 0]∧hs=[bn true o n2 N]:=by
 rcases hh with⟨rfl,rfl⟩ | ⟨rfl,rfl⟩
 ·exact CD v0 v1 n0 n1 n2 h0 h1 hp h2 T0 T1
 ·exact CE v0 v1 n0 n1 n2 h0 h1 hp h2 T0 T1
theorem lz{f:Nat}{args:List Value}{L B:List HP}{Q:Value→List HP→Prop}(hm:ar adE f args L Q)(hQ: ∀v nw,Q v nw→∀h∈nw,h.wr=true)(hL: ∀h∈L,ay B h):
  ar adE f args B fun r hs=> ∃nw,Q r nw∧hs=B++nw:=by
 have h:ar adE f args ([]++L) fun r hs=> ∃nw,Q r nw∧hs=[]++nw:=ar.post hm fun r hs hq=>⟨hs,bU.refl _,hs,hq,rfl⟩
 exact ar.iV h (by simp) hQ hL
theorem sO{B:List HP}{h w:Nat}(hh:HW h w){x0 x1:Value}(hx0:x0.oneCell'=true)(Gi:x1.oneCell'=true)(n0 n1 n2:Nat)(h0:n0≤64)(h1:n1≤1000)(hp:1≤n2)(h2:n2≤64)(T0 T1:Nat→Int)(g0:ay B (vw x0 n0 T0))(g1:ay B (vw x1 n1 T1)):
  ar adE 14 [.int .u8 (h:Int),x0,x1,.int .i64 (n2:Int)] B fun r hs=> ∃nw,(∃(o:V1) (N:Nat→Int),fD N∧r= .tuple #[o.v,.int .i64 0]∧nw=[bn true o n2 N])∧hs=B++nw:=by
 refine lz (G_ hh ⟨x0,hx0⟩ ⟨x1,Gi⟩ n0 n1 n2 h0 h1 hp h2 T0 T1) ?_ (Kb g0 g1);rintro v nw ⟨o,N,_,_,rfl⟩ h hh;simp only [adW,adP,or_false]at hh;subst hh;rfl
theorem Ki(x0 x1:Int):ar adE 15 [.string ⟨#[83,70,114,97,109,101,32,49,46,48,32,83,101,99,114,101,116,32,107,101,121,32]⟩,.int .u64 x0,.int .u16 x1] [] fun r hs=> ∃(o:V1) (N:Nat→Int),True∧r=o.v∧hs=[bn true o 32 N]:=by
 refine ar.post (p:=fun r hs=> ∃(o:V1) (N:Nat→Int) (y:HP),r=o.v∧hs=[bn true o 32 N,y]) ?_ ?_;rotate_left
 ·rintro r hs ⟨o,N,y,rfl,rfl⟩;exact⟨_,bU.sub (List.Sublist.cons_cons _ (List.nil_sublist _)),o,N,trivial,rfl,rfl⟩
 refine Li _ x0 x1 ?_;unfold Dy;intro v0;refine⟨fun e=> ∃i:Nat,i≤8∧e.i=[7 - (i:Int),((22+i:Nat):Int)],fun e=>(e.i.getD 0 0+1).toNat,⟨v0,7,22,_,rfl,rfl,rfl,rfl,fun _ _=>rfl,0,by omega,rfl⟩,?_⟩;rintro v1 x2 x3 A0 ⟨i,hi,hx⟩;simp only [adF,and_true]at hx;obtain⟨rfl,rfl⟩:=hx;refine⟨fun ig=>?_,fun bP=>?_⟩
 ·iterate 3 refine⟨by omega,fun _=>?_⟩
  intro b0
  iterate 2 refine⟨by omega,fun _=>?_⟩
  intro v2
  iterate 2 refine⟨by omega,fun _=>?_⟩
  refine⟨v2,_,_,_,rfl,rfl,rfl,rfl,fun _ _=>rfl,⟨i+1,by omega,?_⟩,?_⟩
  ·simp only [adF,and_true];omega
  ·simp only [ah];omega
 ·intro b0
  iterate 2 refine⟨by omega,fun _=>?_⟩
  intro v2;have:i=8:=by omega
  subst this;exact⟨v2,_,_,rfl,rfl⟩
theorem Kj(x0 x1:Int):ar adE 15 [.string ⟨#[83,70,114,97,109,101,32,49,46,48,32,83,101,99,114,101,116,32,115,97,108,116,32]⟩,.int .u64 x0,.int .u16 x1] [] fun r hs=> ∃(o:V1) (N:Nat→Int),True∧r=o.v∧hs=[bn true o 33 N]:=by
 refine ar.post (p:=fun r hs=> ∃(o:V1) (N:Nat→Int) (y:HP),r=o.v∧hs=[bn true o 33 N,y]) ?_ ?_;rotate_left
 ·rintro r hs ⟨o,N,y,rfl,rfl⟩;exact⟨_,bU.sub (List.Sublist.cons_cons _ (List.nil_sublist _)),o,N,trivial,rfl,rfl⟩
 refine Lj _ x0 x1 ?_;unfold Dz;intro v0;refine⟨fun e=> ∃i:Nat,i≤8∧e.i=[7 - (i:Int),((23+i:Nat):Int)],fun e=>(e.i.getD 0 0+1).toNat,⟨v0,7,23,_,rfl,rfl,rfl,rfl,fun _ _=>rfl,0,by omega,rfl⟩,?_⟩;rintro v1 x2 x3 A0 ⟨i,hi,hx⟩;simp only [adF,and_true]at hx;obtain⟨rfl,rfl⟩:=hx;refine⟨fun ig=>?_,fun bP=>?_⟩
 ·iterate 3 refine⟨by omega,fun _=>?_⟩
  intro b0
  iterate 2 refine⟨by omega,fun _=>?_⟩
  intro v2
  iterate 2 refine⟨by omega,fun _=>?_⟩
  refine⟨v2,_,_,_,rfl,rfl,rfl,rfl,fun _ _=>rfl,⟨i+1,by omega,?_⟩,?_⟩
  ·simp only [adF,and_true];omega
  ·simp only [ah];omega
 ·intro b0
  iterate 2 refine⟨by omega,fun _=>?_⟩
  intro v2;have:i=8:=by omega
  subst this;exact⟨v2,_,_,rfl,rfl⟩
abbrev Rh(s:Nat):Value:= .agg #[.int .u8 (qM s:Nat),.int .i64 (db s:Nat),.int .i64 (yH s:Nat),.int .i64 (bw s:Nat),.int .i64 (pK s:Nat)]
abbrev vz:V1:=⟨.slice none 0 0,rfl⟩
theorem Na{s:Nat}(_:isS s):HW (qM s) (pK s):=by
 unfold HW qM pK;split
 ·exact .inr ⟨rfl,rfl⟩
 ·exact .inl ⟨rfl,rfl⟩
def Yk(s _:Nat)(r:Value)(hs:List HP):Prop:=
 (isS s∧∃(o:V1) (N:Nat→Int),fD N∧r= .tuple #[Rh s,o.v,.int .i64 0]∧hs=[bn true o (pK s) N])∨
 (∃a b c d e f:Int,¬f=0∧r= .tuple #[.agg #[.int .u8 a,.int .i64 b,.int .i64 c,.int .i64 d,.int .i64 e],.slice none 0 0,.int .i64 f]∧hs=[bn true vz 0 fun _=>0])
theorem Ha(s:Nat)(v0:V1)(n:Nat)(T:Nat→Int):ar adE 13 [.int .u16 (s:Int),v0.v] [bn false v0 n T] (Yk s n):=by
 refine ar.post (p:=fun r hs=>(isS s∧∃(o:V1) (N:Nat→Int),fD N∧r= .tuple #[Rh s,o.v,.int .i64 0]∧hs=[bn true o (pK s) N])∨
  (∃a b c d e f:Int,¬f=0∧r= .tuple #[.agg #[.int .u8 a,.int .i64 b,.int .i64 c,.int .i64 d,.int .i64 e],.slice none 0 0,.int .i64 f])) ?_ ?_
 rotate_left
 ·rintro r hs (h | ⟨a,b,c,d,e,f,hf,rfl⟩)
  ·exact⟨_,bU.refl _,.inl h⟩
  ·exact⟨_,bU.trans (bU.sub (List.nil_sublist _)) bU.oa,.inr ⟨a,b,c,d,e,f,hf,rfl,rfl⟩⟩
 refine Jd _ (s:Int) (n:Int) T v0 ?_;unfold Ah;intro b0;refine⟨_,lT s,?_⟩;rintro x hs ⟨hr,rfl⟩;rcases hr with⟨gj,rfl⟩ | ⟨_,rfl⟩
 ·refine⟨_,_,_,_,_,_,rfl,rfl,fun b1=>⟨fun h=>absurd rfl h,fun _=>?_⟩⟩;refine⟨by omega,fun _=>⟨by omega,fun _=>⟨fun _=>?_,fun hn=>?_⟩⟩⟩
  ·exact .inr ⟨_,_,_,_,_,2,by decide,rfl⟩
  ·refine⟨_,zQ (B:=[bn false v0 n T]) (Na gj) v0.one n T (by omega) (ay.fw 0 rfl),?_⟩;rintro x hs ⟨o,N,hN,rfl,rfl⟩;exact⟨o,(pK s:Nat),N,rfl,rfl,.inl ⟨gj,o,N,hN,rfl,rfl⟩⟩
 ·refine⟨_,_,_,_,_,_,rfl,rfl,fun b1=>⟨fun h=>?_,fun h=>absurd (by decide) h⟩⟩;exact .inr ⟨_,_,_,_,_,_,h,rfl⟩
abbrev IC(s aM:Nat)(o:V1)(S:Nat→Nat):Value:= .agg (.int .u16 (s:Int)::(.int .u64 (aM:Int)::(o.v::(ads (aj .u8 12 fun j=>((S j:Nat):Int)) [])))).toArray
def Vv(s aM:Nat)(r:Value)(hs:List HP):Prop:=
 (isS s∧∃(o:V1) (K S:Nat→Nat),(∀j,K j<256)∧(∀j,S j<256)∧r= .tuple #[IC s aM o S,.int .i64 0]∧hs=[al true o (db s) K])∨
 (∃e:Int,¬e=0∧r= .tuple #[IC 0 0 vz fun _=>0,.int .i64 e]∧hs=[bn true vz 0 fun _=>0])
theorem rA(s aM:Nat)(v0:V1)(n:Nat)(T:Nat→Int):ar adE 6 [.int .u16 (s:Int),v0.v,.int .u64 (aM:Int)] [bn false v0 n T] (Vv s aM):=by
 refine ar.post (p:=fun r hs=>(isS s∧∃(o:V1) (K S:Nat→Nat),(∀j,K j<256)∧(∀j,S j<256)∧r= .tuple #[IC s aM o S,.int .i64 0]∧hs[6]? =some (al true o (db s) K))∨
  (∃e:Int,¬e=0∧r= .tuple #[IC 0 0 vz fun _=>0,.int .i64 e])) ?_ ?_
 rotate_left
 ·rintro r hs (⟨gj,o,K,S,hK,hS,rfl,h6⟩ | ⟨e,he,rfl⟩)
  ·refine⟨_,bU.idx [6] (by decide) ?_,.inl ⟨gj,o,K,S,hK,hS,rfl,rfl⟩⟩;intro m u hu
   match m,hu with
   | 0,hu=>cases hu;exact⟨6,rfl,h6⟩
   | m+1,hu=>simp at hu
  ·exact⟨_,bU.trans (bU.sub (List.nil_sublist _)) bU.oa,.inr ⟨e,he,rfl,rfl⟩⟩
 refine Je _ (s:Int) (n:Int) (aM:Int) T v0 ?_;unfold Ai;intro b0;refine⟨_,lz (B:=[bn false v0 n T]) (Ha s v0 n T) ?_ (iZ (ay.fw 0 rfl)),?_⟩
 ·rintro v nw (⟨_,o,N,_,_,rfl⟩ | ⟨_,_,_,_,_,_,_,_,rfl⟩) h hh
  ·simp only [adW,adP,or_false]at hh;subst hh;rfl
  ·simp only [adW,adP,or_false]at hh;subst hh;rfl
 rintro x hs ⟨nw,(⟨gj,o,N,hN,rfl,rfl⟩ | ⟨a,b,c,d,e,f,hf,rfl,rfl⟩),rfl⟩
 ·refine⟨o,_,_,_,_,_,_,(pK s:Nat),N,rfl,rfl,fun b1=>⟨fun h=>absurd rfl h,fun _=>?_⟩⟩;have sm:pK s≤64:=by unfold pK;split<;>omega
  have Kk:1≤db s∧db s≤64:=by unfold db;split<;>(try split)<;>omega
  intro b2;refine⟨_,Ki (aM:Int) (s:Int),?_⟩;rintro x hs ⟨v2,N2,_,rfl,rfl⟩;refine⟨v2,32,N2,rfl,rfl,?_⟩;refine⟨_,sO (B:=[bn true o (pK s) N,bn true v2 32 N2]) (Na gj) o.one v2.one (pK s) 32 (db s) sm (by omega) Kk.1 Kk.2 N N2 (ay.fw 0 rfl) (ay.fw 1 rfl),?_⟩;rintro x hs ⟨nw,⟨v3,N3,h3,rfl,rfl⟩,rfl⟩;refine⟨v3,(db s:Nat),N3,rfl,rfl,?_⟩;refine⟨_,Kj (aM:Int) (s:Int),?_⟩;rintro x hs ⟨v4,N4,_,rfl,rfl⟩;refine⟨v4,33,N4,rfl,rfl,?_⟩;refine⟨_,sO (B:=[bn true o (pK s) N,bn true v4 33 N4]) (Na gj) o.one v4.one (pK s) 33 12 sm (by omega) (by decide) (by decide) N N4 (ay.fw 0 rfl) (ay.fw 1 rfl),?_⟩;rintro x hs ⟨nw,⟨v5,N5,h5,rfl,rfl⟩,rfl⟩;refine⟨v5,N5,rfl,rfl,?_⟩;obtain⟨K,hK,rfl⟩:=Iz h3;obtain⟨S,hS,rfl⟩:=Iz h5;exact .inl ⟨gj,v3,K,S,hK,hS,rfl,rfl⟩
 ·refine⟨vz,_,_,_,_,_,_,0,fun _=>0,rfl,rfl,fun b1=>⟨fun _=>?_,fun h=>absurd hf h⟩⟩;exact .inr ⟨f,hf,rfl⟩
end Go.RX.Fq
