/- What a receiver does. -/
import Derived.Test.YtmgbbbmdbpbeeaaGreatM32
open Go.Proofs.Tryz renaming prog → aiT
open Int renaming toNat_natCast → aiX
open List renaming append → aiL, append_assoc → ajs, getD_cons_zero → ah, getElem?_append_left → aiR, getElem?_append_right → aiW, getElem?_eq_some_iff → aiN, mem_append → ajt, mem_cons → ai0, mem_of_getElem? → ajn, not_mem_nil → aiZ, range → ajw
open List.cons renaming injEq → ai5
open Nat renaming mod_eq_of_lt → ajm
open Option.some renaming injEq → aiP
namespace Go.RX.Fx
open Go Go.RX Go.Proofs Go.RX.Sh Go.RX.Fg Go.RX.Fh Go.RX.Fi Go.RX.Fj Go.RX.Fk Go.Hd Go.Gh Go.Gc Go.Ae Go.RX.Fe Go.Se Go.RX.Fq Go.RX.Fw Go.Wn
variable {s n p bits:Nat} {T:Nat→Int}
structure Wd where
 so:Bool
 top:Nat
 W:Nat→Nat
structure Wd.Ok (w:Wd):Prop where
 t:w.top<2^64
 W: ∀j,w.W j<2^64
def Wd.z:Wd:=⟨false,0,fun _=>0⟩
theorem Wd.Ss:Wd.z.Ok:=⟨by decide,fun _=>(by decide:0<2^64)⟩
def Wd.WW(w:Wd)(c:Nat):Nat:=ft w.so w.top w.W c
def Wd.note(w:Wd)(c:Nat):Wd:=⟨true,fw w.so w.top c,eO w.so w.top w.W c⟩
theorem Wd.C4{w:Wd}(h:w.Ok){c:Nat}(hc:c<2^64):(w.note c).Ok:=by
 refine⟨?_,fun j=>OF h.W _ _ _ _⟩;show fw w.so w.top c<2^64;have:=h.t;unfold fw o9;split<;>omega
structure Rc where
 g0:Nat
 w0:Wd
 s1:Int
 p1:Int
 b1:Int
 g1:Nat
 w1:Wd
 two:Bool
 n1:Nat
 T1:Nat→Int
structure Rc.Ok (R:Rc) (s n p bits:Nat) (T:Nat→Int):Prop where
 g0:R.g0<2^bits
 w0:R.w0.Ok
 w1:R.w1.Ok
 l1:R.two=true→R.s1=(s:Int)∧R.p1=(p:Int)∧R.b1=(bits:Int)∧R.g1<2^bits∧R.n1=gN s n R.g1∧R.T1=gT s n T R.g1
abbrev jC(s p bits b:Nat)(R:Rc)(v0 v1:V1):HP:=al b true (fj (s:Int) (p:Int) (bits:Int) (R.g0:Int) v0 (j5 R.w0.so (R.w0.top:Int) (cR R.w0.W) (fj R.s1 R.p1 R.b1 (R.g1:Int) v1 (j5 R.w1.so (R.w1.top:Int) (cR R.w1.W) [.bool R.two]))))
def dN(R:Rc)(g c:Nat):Nat:=if g=R.g0 then R.w0.WW c else if R.two=true∧g=R.g1 then R.w1.WW c else if g<R.g0 then 241 else if 64<g - R.g0 then 5 else 0
def jD(s n p bits:Nat)(T:Nat→Int)(R:Rc)(g c:Nat):Rc:=
 if g=R.g0 then {R with w0:=R.w0.note c}else if R.two=true∧g=R.g1 then {R with w1:=R.w1.note c}else⟨g,Wd.z.note c,(s:Int),(p:Int),(bits:Int),R.g0,R.w0,true,gN s n R.g0,gT s n T R.g0⟩
def TY(s n p bits:Nat)(T:Nat→Int)(b:Nat)(R:Rc)(v0 v1:V1)(g c nt:Nat)(X:Nat→Nat)(r:Value)(hs:List HP):Prop:=
 (dN R g c=0∧∃o VN rj:V1,r= .tuple #[o.v,.agg #[.int .u64 (eg p bits g:Nat),.int .u64 (c:Int)],.int .i64 0]∧hs=[jC s p bits b (jD s n p bits T R g c) VN rj,bb s n T (jD s n p bits T R g c).g0 VN,bn false rj (jD s n p bits T R g c).n1 (jD s n p bits T R g c).T1,aq true o nt X])∨
 (dN R g c≠0∧r= .tuple #[.slice none 0 0,.agg #[.int .u64 0,.int .u64 0],.int .i64 (dN R g c:Nat)]∧hs=[jC s p bits b R v0 v1,bb s n T R.g0 v0,bn false v1 R.n1 R.T1])
theorem zI{R:Rc}(hR:R.Ok s n p bits T){g c:Nat}(hg:g<2^bits)(hc:c<2^64):(jD s n p bits T R g c).Ok s n p bits T:=by
 unfold jD;split
 ·exact⟨hR.g0,Wd.C4 hR.w0 hc,hR.w1,hR.l1⟩
 ·split
  ·exact⟨hR.g0,hR.w0,Wd.C4 hR.w1 hc,hR.l1⟩
  ·exact⟨hg,Wd.C4 Wd.Ss hc,hR.w0,fun _=>⟨rfl,rfl,rfl,hR.g0,rfl,rfl⟩⟩
theorem e3{a b c d e f g:HP}:bL [a,b,c,d,e,f,g] [a,b,c]:=bL.sub (by simp)
theorem e4{a b c d e f g:HP}:bL [a,b,c,d,e,f,g] [a,b,c,g]:=bL.sub (by simp)
theorem e5{a b c d e f g:HP}:bL [a,b,c,d,e,f,g] [a,b,f,g]:=bL.sub (.cons_cons _ (.cons_cons _ (.cons _ (.cons _ (.cons _ (.cons_cons _ (.cons_cons _ .slnil)))))))
theorem e6{a b c d e f g:HP}:bL [a,b,c,d,e,f,g] [a,f,c]:=bL.trans (b:=[a,c,f]) (bL.sub (.cons_cons _ (.cons _ (.cons_cons _ (.cons _ (.cons _ (.cons_cons _ (.cons _ .slnil)))))))) (bL.perm (List.Perm.cons _ (List.Perm.swap _ _ _)))
theorem Su(h:Ln s n p bits){g:Nat}(hg:g<2^bits):ak .shr .u64 (eg p bits g:Int) (bits:Int)=(p:Int):=by
 have hb:=h.b;rw [fJ .u64 _ bits (by show bits≤64;omega),Nat.shiftRight_eq_div_pow];unfold eg;rw [Nat.mul_comm,Nat.mul_add_div (Nat.two_pow_pos bits),Nat.div_eq_of_lt hg];rfl
theorem Sv(h:Ln s n p bits){g:Nat}(hg:g<2^bits):ak .aM .u64 (eg p bits g:Int) ((2^bits - 1:Nat):Int)=(g:Int):=by
 have hk:=h.aY hg;have hp:=h.pow;rw [Jt hk (by omega),Nat.and_two_pow_sub_one_eq_mod];unfold eg;rw [Nat.mul_comm,Nat.mul_add_mod,ajm hg]
theorem sm(h:Ln s n p bits){g c nt:Nat}(hg:g<2^bits)(hc:c<2^64)(tx:nt≤65536)(X:Nat→Nat){x1 x2 x3:V1}{B:List HP}(hX: ∀j,X j<256)
  (b0:ar B (aH x1.v (dH s) (gK s n p bits T g))) (b1:ar B (aH x2.v 0 fun _=>0)) (b2:ar B (aH x3.v (FL s p bits g c nt) (FB s n p bits T g c nt X))):
  ax aiT 10 [Pw s n p bits T g x1,x2.v,x3.v] B fun r hs=> ∃o:V1,r= .tuple #[o.v,.int .u64 (c:Int),.int .i64 0]∧hs=B++[aq true o nt X]:=by
 have hk:=h.aY hg;have acH:bS (eg p bits g) c≤17:=zC _ _;have Pp:bA s≤16:=by unfold bA;split<;>(try split)<;>(try split)<;>omega
 have c0:jc s (dH s) 0 nt=0:=Fm.zG h.is rfl (by omega) (by omega);have hz: ∀j:Nat,(fun _=>0:Nat→Nat) j<256:=fun _=>(by decide:0<256)
 have o0:fT s (dH s) (eg p bits g) (gK s n p bits T g) (gS s n p bits T g) 0 (fun _=>0) (FL s p bits g c nt) (FB s n p bits T g c nt X)=0:=by
  have:=Ic (K:=gK s n p bits T g) (S:=gS s n p bits T g) (A:=fun _=>0) (T:=X) c0 hk hc (eg p bits g);rw [if_pos rfl]at this;exact this
 obtain⟨_,h2,h3,_⟩:=lF (s:=s) (K:=gK s n p bits T g) (S:=gS s n p bits T g) (na:=0) (A:=fun _=>0) (nt:=nt) (T:=X) hk hc;have oT:F2 s (dH s) (eg p bits g) (gK s n p bits T g) (gS s n p bits T g) 0 (fun _=>0) (FL s p bits g c nt) (FB s n p bits T g c nt X)=c:=by
  unfold F2;rw [if_pos o0];exact h2
 have oL:F1 s (dH s) (eg p bits g) (gK s n p bits T g) (gS s n p bits T g) 0 (fun _=>0) (FL s p bits g c nt) (FB s n p bits T g c nt X)=nt:=by
  unfold F1;rw [if_pos o0];unfold FB FL;rw [h3];omega
 refine ax.post (Fm.F6 (B:=B) x1.one x2.one x3.one s (eg p bits g) (dH s) 0 (FL s p bits g c nt) (gK s n p bits T g) (gS s n p bits T g) (fun _=>0) (FB s n p bits T g c nt X) (Pu g) (Pv g) hz (Py hX g c nt) (by unfold FL;omega) b0 b1 b2) ?_;rintro r hs ⟨nw,⟨o,rfl,rfl⟩,rfl⟩;rw [o0,oT,oL];refine⟨_,bL.refl _,o,rfl,?_⟩;congr 2;unfold aq;congr 1;refine bJ fun j hj=>?_
 exact congrArg (fun z:Nat=>(z:Int)) (Ie (T:=X) hk hc j hj)
set_option maxHeartbeats 2000000 in
theorem Sw(h:Ln s n p bits)(b:Nat){R:Rc}(hR:R.Ok s n p bits T)(v0 v1 v2 v3:V1){g c nt:Nat}(hg:g<2^bits)(hc:c<2^64)(tx:nt≤65536)(X:Nat→Nat)(hX: ∀j,X j<256):
  ax aiT 25 [.pointer (some ⟨b,0,none⟩),v2.v,v3.v] [jC s p bits b R v0 v1,bb s n T R.g0 v0,bn false v1 R.n1 R.T1,aq false v2 0 fun _=>0,aq false v3 (FL s p bits g c nt) (FB s n p bits T g c nt X),bb s n T R.g0 v0] (TY s n p bits T b R v0 v1 g c nt X):=by
 obtain⟨g0,⟨Ms,t0,W0⟩,s1,p1,b1,g1,⟨nj,t1,W1⟩,two,n1,T1⟩:=R;obtain⟨hg0,⟨ht0,hW0⟩,⟨ht1,hW1⟩,Uw⟩:=hR;simp only at hg0 ht0 hW0 ht1 hW1 Uw;have hk:=h.aY hg;have hp:=h.pow;have acH:bS (eg p bits g) c≤17:=zC _ _;refine ax.post (p:=fun r hs=> ∃nf,bL hs nf∧TY s n p bits T b ⟨g0,⟨Ms,t0,W0⟩,s1,p1,b1,g1,⟨nj,t1,W1⟩,two,n1,T1⟩ v0 v1 g c nt X r nf) ?_ fun r hs h=>h
 refine MF _ (s:Int) (p:Int) (bits:Int) (g0:Int) (t0:Int) s1 p1 b1 (g1:Int) (t1:Int) (gN s n g0:Int) (n1:Int) 0 (FL s p bits g c nt:Int) (cR W0) (cR W1) (gT s n T g0) T1 (fun _=>0) (fun j=>(FB s n p bits T g c nt X j:Nat)) Ms nj two v0 v1 v2 v3 b ?_;unfold DA;intro _ _ _ _;have hF:=Py (s:=s) (n:=n) (p:=p) (bits:=bits) (T:=T) hX g c nt;refine⟨_,Fm.sh (B:=[aq false v3 (FL s p bits g c nt) (FB s n p bits T g c nt X)]) v3.one (FL s p bits g c nt) (FB s n p bits T g c nt X) hF ar.view,?_⟩;obtain⟨Lq,BC,TA,Ll⟩:=lF (s:=s) (K:=gK s n p bits T g) (S:=gS s n p bits T g) (na:=0) (A:=fun _=>0) (nt:=nt) (T:=X) hk hc;rintro x hs ⟨⟨_,rfl⟩ | ⟨hn,_⟩,rfl⟩;rotate_left
 ·exact absurd (Ll _ (by unfold FL;omega)) hn
 have e1:bV (FB s n p bits T g c nt X)=eg p bits g:=Lq;have e2:aZ (FB s n p bits T g c nt X)=c:=BC;rw [e1,e2];refine⟨_,_,_,0,rfl,rfl,fun h=>absurd rfl h,fun _=>?_⟩;refine⟨_,Ps h (g0:Int) v0,?_⟩;rintro x hs ⟨rfl,rfl⟩;refine⟨_,rfl,rfl,by omega,fun _=>?_⟩;rw [Su h hg,Sv h hg];refine⟨fun dI=>absurd rfl dI,fun _=>⟨fun hgg b5=>?_,fun hgg=>⟨?_,fun Sx=>⟨fun bX b5=>?_,fun bX=>⟨fun YP b5=>?_,fun YP b5=>?_⟩⟩⟩⟩⟩
 ·
  have acM:g=g0:=by omega
  subst acM;have hE:dN ⟨g,⟨Ms,t0,W0⟩,s1,p1,b1,g1,⟨nj,t1,W1⟩,two,n1,T1⟩ g c=ft Ms t0 W0 c:=by unfold dN;rw [if_pos rfl];rfl
  refine⟨_,zf b s p bits g v0 s1 p1 b1 g1 v1 nj t1 (cR W1) two Ms t0 c W0 ht0 hc hW0,?_⟩;rintro x hs ⟨rfl,rfl⟩;refine⟨_,rfl,rfl,fun he b6=>⟨_,e3,.inr ⟨by rw [hE];omega,by rw [hE],rfl⟩⟩,fun he=>?_⟩;refine⟨_,CZ h hg v0,?_⟩;rintro x hs ⟨o,rfl,rfl⟩;refine⟨o,_,_,(dH s:Nat),_,_,rfl,rfl,?_⟩;refine⟨_,sm h hg hc tx X (B:=[aq true o (dH s) (gK s n p bits T g),aq false v2 0 fun _=>0,aq false v3 (FL s p bits g c nt) (FB s n p bits T g c nt X)]) hX (ar.get 0 rfl) (ar.get 1 rfl) (ar.get 2 rfl),?_⟩;rintro x hs ⟨o2,rfl,rfl⟩;refine⟨o2,(nt:Nat),_,0,_,rfl,rfl,fun h=>absurd rfl h,fun _=>?_⟩;refine⟨_,E0 b s p bits g v0 s1 p1 b1 g1 v1 nj t1 (cR W1) two Ms t0 c W0 ht0 hc hW0,?_⟩;rintro x hs ⟨zW,t2,W2,(⟨_,rfl,rfl,rfl⟩ | ⟨dI,_⟩),rfl,rfl⟩
  ·refine⟨_,_,_,_,_,_,_,rfl,rfl,_,e4,.inl ⟨by rw [hE];omega,o2,v0,v1,rfl,?_⟩⟩;unfold jD;rw [if_pos rfl];rfl
  ·exact absurd (by omega) dI
 ·
  rintro ⟨VO,Sx⟩ b5;have Za:g=g1:=by omega
  subst Za;obtain⟨rfl,rfl,rfl,_,rfl,rfl⟩:=Uw VO;have hE:dN ⟨g0,⟨Ms,t0,W0⟩,(s:Int),(p:Int),(bits:Int),g,⟨nj,t1,W1⟩,two,gN s n g,gT s n T g⟩ g c=ft nj t1 W1 c:=by
   unfold dN;rw [if_neg (by show¬g=g0;omega),if_pos ⟨VO,rfl⟩];rfl
  refine⟨_,zg b s p bits g v1 s p bits g0 v0 Ms t0 (cR W0) two nj t1 c W1 ht1 hc hW1,?_⟩;rintro x hs ⟨rfl,rfl⟩;refine⟨_,rfl,rfl,fun he b6=>⟨_,e3,.inr ⟨by rw [hE];omega,by rw [hE],rfl⟩⟩,fun he=>?_⟩;refine⟨_,CZ h hg v1,?_⟩;rintro x hs ⟨o,rfl,rfl⟩;refine⟨o,_,_,(dH s:Nat),_,_,rfl,rfl,?_⟩;refine⟨_,sm h hg hc tx X (B:=[aq true o (dH s) (gK s n p bits T g),aq false v2 0 fun _=>0,aq false v3 (FL s p bits g c nt) (FB s n p bits T g c nt X)]) hX (ar.get 0 rfl) (ar.get 1 rfl) (ar.get 2 rfl),?_⟩;rintro x hs ⟨o2,rfl,rfl⟩;refine⟨o2,(nt:Nat),_,0,_,rfl,rfl,fun h=>absurd rfl h,fun _=>?_⟩;refine⟨_,E1 b s p bits g v1 s p bits g0 v0 Ms t0 (cR W0) two nj t1 c W1 ht1 hc hW1,?_⟩;rintro x hs ⟨zW,t2,W2,(⟨_,rfl,rfl,rfl⟩ | ⟨dI,_⟩),rfl,rfl⟩
  ·refine⟨_,_,_,_,_,_,_,rfl,rfl,_,e4,.inl ⟨by rw [hE];omega,o2,v0,v1,rfl,?_⟩⟩;unfold jD;rw [if_neg (by show¬g=g0;omega),if_pos ⟨VO,rfl⟩];rfl
  ·exact absurd (by omega) dI
 ·have hE:dN ⟨g0,⟨Ms,t0,W0⟩,s1,p1,b1,g1,⟨nj,t1,W1⟩,two,n1,T1⟩ g c=241:=by
   unfold dN;rw [if_neg (by show¬g=g0;omega),if_neg (by rintro ⟨ha,hb⟩;exact Sx ⟨ha,by rw [hb]⟩),if_pos (by show g<g0;omega)]
  exact⟨_,e3,.inr ⟨by rw [hE];decide,by rw [hE];rfl,rfl⟩⟩
 ·rw [show(g:Int) - (g0:Int)=((g - g0:Nat):Int) by omega,qe (by omega)]at YP;have hE:dN ⟨g0,⟨Ms,t0,W0⟩,s1,p1,b1,g1,⟨nj,t1,W1⟩,two,n1,T1⟩ g c=5:=by
   unfold dN;rw [if_neg (by show¬g=g0;omega),if_neg (by rintro ⟨ha,hb⟩;exact Sx ⟨ha,by rw [hb]⟩),if_neg (by show¬g<g0;omega),if_pos (by show 64<g - g0;omega)]
  exact⟨_,e3,.inr ⟨by rw [hE];decide,by rw [hE];rfl,rfl⟩⟩
 ·rw [show(g:Int) - (g0:Int)=((g - g0:Nat):Int) by omega,qe (by omega)]at YP;have Lm: ¬(two=true∧g=g1):=by rintro ⟨ha,hb⟩;exact Sx ⟨ha,by rw [hb]⟩
  have hE:dN ⟨g0,⟨Ms,t0,W0⟩,s1,p1,b1,g1,⟨nj,t1,W1⟩,two,n1,T1⟩ g c=0:=by
   unfold dN;rw [if_neg (by show¬g=g0;omega),if_neg Lm,if_neg (by show¬g<g0;omega),if_neg (by show¬64<g - g0;omega)]
  refine⟨by omega,fun _ v4=>?_⟩;refine⟨fun e=> ∃k:Nat,g0≤k∧k≤g∧e.i=[(k:Int),(gN s n k:Int)]∧∀j,j<gN s n k→(e.a.getD 0 fun _=>0) j=gT s n T k j,fun e=>(g - e.i.getD 0 0).toNat,⟨v4,_,_,gT s n T g0,rfl,rfl,fun _ _=>rfl,rfl,rfl,g0,by omega,by omega,rfl,fun _ _=>rfl⟩,?_⟩;rintro v5 um wZ A6 ⟨k,Lq,BC,hx,hA⟩;simp only [ai5,and_true]at hx;obtain⟨rfl,rfl⟩:=hx;simp only [ah]at hA;have eA:bi v5 (gN s n k:Int) A6=bb s n T k v5:=by
   show aG false 5 1 v5.v _ _=_;rw [aiX];show _=aG false 5 1 v5.v _ _;rw [bJ hA]
  rw [eA];refine⟨fun Rz=>?_,fun jI b6=>?_⟩
  ·refine⟨_,Px h (g:=k) (by omega) v5,?_⟩;rintro x hs ⟨o,rfl,rfl⟩;refine⟨o,_,_,_,_,(gN s n (k+1):Nat),_,rfl,rfl,?_⟩;refine⟨o,_,_,gT s n T (k+1),rfl,rfl,fun _ _=>rfl,rfl,rfl,rfl,rfl,rfl,⟨k+1,by omega,by omega,rfl,fun _ _=>rfl⟩,?_⟩;simp only [ah];omega
  ·have:k=g:=by omega
   subst this;refine⟨_,ze b5 s p bits k v5 false 0 c (fun _=>0) (by decide) hc fun _=>(by decide:0<2^64),?_⟩;rintro x hs ⟨rfl,rfl⟩;refine⟨_,rfl,rfl,fun he=>absurd rfl he,fun _=>?_⟩;refine⟨_,CZ h hg v5,?_⟩;rintro x hs ⟨o,rfl,rfl⟩;refine⟨o,_,_,(dH s:Nat),_,_,rfl,rfl,?_⟩;refine⟨_,sm h hg hc tx X (B:=[aq true o (dH s) (gK s n p bits T k),aq false v2 0 fun _=>0,aq false v3 (FL s p bits k c nt) (FB s n p bits T k c nt X)]) hX (ar.get 0 rfl) (ar.get 1 rfl) (ar.get 2 rfl),?_⟩;rintro x hs ⟨o2,rfl,rfl⟩;refine⟨o2,(nt:Nat),_,0,_,rfl,rfl,fun h=>absurd rfl h,fun _=>?_⟩;refine⟨_,EZ b5 s p bits k v5 false 0 c (fun _=>0) (by decide) hc fun _=>(by decide:0<2^64),?_⟩;rintro x hs ⟨zW,t2,W2,(⟨_,rfl,rfl,rfl⟩ | ⟨dI,_⟩),rfl,rfl⟩
   ·refine⟨_,0,_,_,fun _=>0,_,false,rfl,rfl,_,e5,.inl ⟨hE,o2,v5,v0,rfl,?_⟩⟩;unfold jD;rw [if_neg (by show¬k=g0;omega),if_neg Lm];rfl
   ·exact absurd rfl dI
open Go Go.RX Go.Proofs Go.RX.Sh Go.RX.Fg Go.RX.Fh Go.RX.Fi Go.RX.Fj Go.RX.Fk Go.Hd Go.Gh Go.Gc Go.Ae Go.RX.Fe Go.Se Go.RX.Fq Go.RX.Fw Go.Wn
variable {s n p bits:Nat} {T:Nat→Int}
theorem F9{B:List HP}(h:Ln s n p bits){g:Nat}(hg:g<2^bits)(b:Nat)(v:V1){x2:Value}(h2:x2.oneCell'=true)(c nt:Nat)(hc:c<2^64)(tx:nt≤65536)(X:Nat→Nat)(hX: ∀j,X j<256)(hb:ar B (aH x2 nt X)):
  ax aiT 18 [.pointer (some ⟨b,0,none⟩),.slice none 0 0,x2] (dj s p bits b g v c false::bb s n T g v::B) fun r hs=> ∃o:V1,r= .tuple #[o.v,.int .i64 0]∧hs=dj s p bits b g v ((c+1)%2^64) (decide (c+1=2^64))::bb s n T g v::(B++[aq true o (FL s p bits g c nt) (FB s n p bits T g c nt X)]):=by
 have h1:ax aiT 18 [.pointer (some ⟨b,0,none⟩),.slice none 0 0,x2] ([dj s p bits b g v c false]++[bb s n T g v,aH (.slice none 0 0) 0 fun _=>0,aH x2 nt X]) fun r hs=> ∃o:V1,r= .tuple #[o.v,.int .i64 0]∧hs=[dj s p bits b g v ((c+1)%2^64) (decide (c+1=2^64)),aq true o (FL s p bits g c nt) (FB s n p bits T g c nt X)]:=by
  refine ax.post (PA h hg b v eQ ⟨x2,h2⟩ c nt hc tx X hX) ?_;rintro r hs ⟨o,rfl,rfl⟩;exact⟨_,bL.sub (.cons_cons _ (.cons _ (.cons_cons _ .slnil))),o,rfl,rfl⟩
 have h3:=ax.Hn (B:=bb s n T g v::B) h1 ?_ ?_
 ·refine ax.post h3 ?_;rintro r hs ⟨ym,⟨o,rfl,rfl⟩,rfl⟩;refine⟨_,bL.perm ?_,o,rfl,rfl⟩;refine List.Perm.cons _ ?_;refine List.Perm.trans (List.perm_append_comm (l₁:=[_]) (l₂:=bb s n T g v::B)) ?_;exact List.Perm.refl _
 ·rintro r hs ⟨o,_,rfl⟩ h hh;simp only [ai0,aiZ,or_false]at hh;rcases hh with rfl | rfl<;>rfl
 ·exact OM (ar.left (B:=[bb s n T g v]) (C:=B) (ar.self rfl)) ar.nil (ar.right (A:=[bb s n T g v]) hb)
theorem F_{B:List HP}(b g:Nat)(v:V1){x2:Value}(h2:x2.oneCell'=true)(c nt:Nat)(X:Nat→Nat)(hb:ar B (aH x2 nt X)):
  ax aiT 18 [.pointer (some ⟨b,0,none⟩),.slice none 0 0,x2] (dj s p bits b g v c true::bb s n T g v::B) fun r hs=>r= .tuple #[.slice none 0 0,.int .i64 150]∧hs=dj s p bits b g v c true::bb s n T g v::B:=by
 have h1:ax aiT 18 [.pointer (some ⟨b,0,none⟩),.slice none 0 0,x2] ([dj s p bits b g v c true]++[bb s n T g v,aH (.slice none 0 0) 0 fun _=>0,aH x2 nt X]) fun r hs=>r= .tuple #[.slice none 0 0,.int .i64 150]∧hs=[dj s p bits b g v c true]:=by
  refine ax.post (Pz (s:=s) (n:=n) (p:=p) (bits:=bits) (T:=T) b g v eQ ⟨x2,h2⟩ c 0 nt (fun _=>0) (fun j=>(X j:Nat))) ?_;rintro r hs ⟨rfl,rfl⟩;exact⟨_,bL.sub (.cons_cons _ (.cons _ .slnil)),rfl,rfl⟩
 have h3:=ax.Hn (B:=bb s n T g v::B) h1 ?_ ?_
 ·refine ax.post h3 ?_;rintro r hs ⟨ym,⟨rfl,rfl⟩,rfl⟩;exact⟨_,bL.refl _,rfl,rfl⟩
 ·rintro r hs ⟨_,rfl⟩ h hh;simp only [ai0,aiZ,or_false]at hh;subst hh;rfl
 ·exact OM (ar.left (B:=[bb s n T g v]) (C:=B) (ar.self rfl)) ar.nil (ar.right (A:=[bb s n T g v]) hb)
def Zb(s n p bits:Nat)(T:Nat→Int)(b:Nat)(R:Rc)(v0 v1:V1)(g c nt:Nat)(X:Nat→Nat)(B:List HP)(r:Value)(hs:List HP):Prop:=
 (dN R g c=0∧∃o VN rj:V1,r= .tuple #[o.v,.agg #[.int .u64 (eg p bits g:Nat),.int .u64 (c:Int)],.int .i64 0]∧hs=jC s p bits b (jD s n p bits T R g c) VN rj::bb s n T (jD s n p bits T R g c).g0 VN::bn false rj (jD s n p bits T R g c).n1 (jD s n p bits T R g c).T1::(B++[aq true o nt X]))∨
 (dN R g c≠0∧r= .tuple #[.slice none 0 0,.agg #[.int .u64 0,.int .u64 0],.int .i64 (dN R g c:Nat)]∧hs=jC s p bits b R v0 v1::bb s n T R.g0 v0::bn false v1 R.n1 R.T1::(B++[bn true eQ 0 fun _=>0]))
theorem qm{B:List HP}(hB: ∀h∈B,h.wr=false)(h:Ln s n p bits)(b:Nat){R:Rc}(hR:R.Ok s n p bits T)(v0 v1:V1){x3:Value}(h3:x3.oneCell'=true){g c nt:Nat}(hg:g<2^bits)(hc:c<2^64)(tx:nt≤65536)(X:Nat→Nat)(hX: ∀j,X j<256)(hb:ar B (aH x3 (FL s p bits g c nt) (FB s n p bits T g c nt X))):
  ax aiT 25 [.pointer (some ⟨b,0,none⟩),.slice none 0 0,x3] (jC s p bits b R v0 v1::bb s n T R.g0 v0::bn false v1 R.n1 R.T1::B) (Zb s n p bits T b R v0 v1 g c nt X B):=by
 have e:bL ([jC s p bits b R v0 v1]++(bb s n T R.g0 v0::bn false v1 R.n1 R.T1::B)) ([jC s p bits b R v0 v1]++([bb s n T R.g0 v0,bn false v1 R.n1 R.T1,aH (.slice none 0 0) 0 fun _=>0,aH x3 (FL s p bits g c nt) (FB s n p bits T g c nt X),bb s n T R.g0 v0]++B)):=by
  refine bL.views fun y hy=>?_
  rcases ajt.1 hy with hy | hy
  ·simp only [ai0,aiZ,or_false]at hy;rcases hy with rfl | rfl | rfl | rfl | rfl
   ·exact ar.left (B:=[bb s n T R.g0 v0]) (ar.self rfl)
   ·exact ar.mid (A:=[bb s n T R.g0 v0]) (B:=[bn false v1 R.n1 R.T1]) (C:=B) (ar.self rfl)
   ·exact ar.nil
   ·exact ar.right (A:=[bb s n T R.g0 v0,bn false v1 R.n1 R.T1]) hb
   ·exact ar.left (B:=[bb s n T R.g0 v0]) (ar.self rfl)
  ·obtain⟨l1,l2,rfl⟩:=List.append_of_mem hy;have:=ar.mid (A:=bb s n T R.g0 v0::bn false v1 R.n1 R.T1::l1) (B:=[y]) (C:=l2) (ar.self (hB y hy));simpa using this
 refine ax.post (ax.pre (ax.frame (Sw h b hR v0 v1 eQ ⟨x3,h3⟩ hg hc tx X hX) B) e) ?_;rintro r hs ⟨ym,rfl,(⟨hE,o,VN,rj,rfl,rfl⟩ | ⟨hE,rfl,rfl⟩)⟩
 ·refine⟨_,bL.perm ?_,.inl ⟨hE,o,VN,rj,rfl,rfl⟩⟩;exact List.Perm.cons _ (List.Perm.cons _ (List.Perm.cons _ (List.perm_append_comm (l₁:=[_]) (l₂:=B))))
 ·refine⟨_,?_,.inr ⟨hE,rfl,rfl⟩⟩;have e:=Fm.bL.front (A:=jC s p bits b R v0 v1::bb s n T R.g0 v0::bn false v1 R.n1 R.T1::B) (a:=[]) (Fm.bL.mO (t:=5));rw [List.append_nil]at e;exact e
def Ig(s:Nat):Int:=if 1≤s∧s≤5 then 2 else 130
def Can(s n p:Nat)(bi:Int):Prop:= ∃bits:Nat,bi=(bits:Int)∧Ln s n p bits
def Sy(s n p:Nat)(bi:Int)(H:Nat→Nat→V1→List HP)(B:List HP)(r:Value)(hs:List HP):Prop:=
 (¬Can s n p bi∧r= .tuple #[.pointer none,.int .i64 (Ig s)]∧hs=B)∨(∃(bits b:Nat) (v:V1),bi=(bits:Int)∧Ln s n p bits∧r= .tuple #[.pointer (some ⟨b,0,none⟩),.int .i64 0]∧hs=B++H bits b v)
theorem JX{s aY n:Nat}{T:Nat→Int}{B:List HP}{x:Value}{hs:List HP}(h: ∃nw,Sj s aY n T x nw∧hs=B++nw):
  ∃(v1:V1) (x4 x5 x6:Int) (x7:Nat) (A1 A2:Nat→Int),x= .tuple #[.agg (.int .u16 x4::(.int .u64 x5::(v1.v::(aiL (aj .u8 12 A2) ([]))))).toArray,.int .i64 x6]∧hs=B++[bn true v1 x7 A1]∧((x6=0∧oU s∧1≤n∧n≤1024)∨(x6≠0∧x6=Ig s∧(¬oU s∨n=0∨1024<n))):=by
 obtain⟨nw,(⟨gQ,h1,h2,o,rfl,rfl⟩ | ⟨hb,e,he,rfl,rfl⟩),rfl⟩:=h
 ·exact⟨o,_,_,_,dH s,_,_,rfl,rfl,.inl ⟨rfl,gQ,h1,h2⟩⟩
 ·refine⟨eQ,_,_,e,0,_,_,rfl,rfl,.inr ⟨?_,he,hb⟩⟩;rw [he];split<;>decide
theorem Ga{s n p:Nat}{bi:Int}(gQ:oU s)(hc:(bi<0∨16<bi)∨ak .shr .u64 18446744073709551615 bi<(p:Int)): ¬Can s n p bi∧Ig s=2:=by
 refine⟨?_,if_pos ((CX s).1 gQ)⟩;rintro ⟨bits,rfl,hl⟩;have hb:=hl.b;rcases hc with hc | hc
 ·omega
 ·rw [show(18446744073709551615:Int)=((18446744073709551615:Nat):Int)from rfl,fJ .u64 18446744073709551615 bits (by show bits≤64;omega),Nat.shiftRight_eq_div_pow]at hc;have h2:18446744073709551615/2^bits<p:=by omega
  have h3:18446744073709551615<p*2^bits:=(Nat.div_lt_iff_lt_mul (Nat.two_pow_pos bits)).1 h2;have:=hl.p;rw [Nat.add_mul,Nat.one_mul]at this;have:=Nat.two_pow_pos bits;omega
theorem JY{s n p:Nat}{bi:Int}(h: ¬oU s∨n=0∨1024<n): ¬Can s n p bi:=by
 rintro ⟨bits,_,hl⟩;have h1:=hl.n1;have h2:=hl.n2;rcases h with h | h | h
 ·exact h hl.is
 ·omega
 ·omega
theorem JZ{f:Nat}{args:List Value}{B:List HP}{v0:V1}{s n p:Nat}{bi:Int}{T:Nat→Int}{R:Nat→Nat→V1→HP}(hR: ∀a b v,(R a b v).wr=true)(hb:ar B (vw v0.v n T))
  (hm:ax aiT f args [bn false v0 n T] fun r hs=>(¬Can s n p bi∧r= .tuple #[.pointer none,.int .i64 (Ig s)])∨(∃(bits b:Nat) (v:V1) (y0 y1 y2 y3 y4:HP),bi=(bits:Int)∧Ln s n p bits∧r= .tuple #[.pointer (some ⟨b,0,none⟩),.int .i64 0]∧hs=[y0,y1,y2,y3,bn true v n T,y4,R bits b v])):
  ax aiT f args B (Sy s n p bi (fun bits b v=>[R bits b v,bb s n T 0 v]) B):=by
 have h1:ax aiT f args [bn false v0 n T] fun r hs=>(¬Can s n p bi∧r= .tuple #[.pointer none,.int .i64 (Ig s)]∧hs=[])∨(∃(bits b:Nat) (v:V1),bi=(bits:Int)∧Ln s n p bits∧r= .tuple #[.pointer (some ⟨b,0,none⟩),.int .i64 0]∧hs=[R bits b v,bn true v n T]):=by
  refine ax.post hm ?_;rintro r hs (⟨h1,rfl⟩ | ⟨bits,b,v,y0,y1,y2,y3,y4,hb,hl,rfl,rfl⟩)
  ·exact⟨[],bL.sub (List.nil_sublist _),.inl ⟨h1,rfl,rfl⟩⟩
  ·exact⟨_,bL.trans (b:=[bn true v n T,R bits b v]) (bL.sub (.cons _ (.cons _ (.cons _ (.cons _ (.cons_cons _ (.cons _ (.cons_cons _ .slnil)))))))) (bL.perm (List.Perm.swap _ _ _)),.inr ⟨bits,b,v,hb,hl,rfl,rfl⟩⟩
 refine ax.post (iP h1 ?_ (iB hb)) ?_
 ·rintro r nw (⟨_,_,rfl⟩ | ⟨bits,b,v,_,_,_,rfl⟩) h hh
  ·cases hh
  ·simp only [ai0,aiZ,or_false]at hh;rcases hh with rfl | rfl
   ·exact hR _ _ _
   ·rfl
 ·rintro r hs ⟨nw,(⟨h1,rfl,rfl⟩ | ⟨bits,b,v,hb,hl,rfl,rfl⟩),rfl⟩
  ·exact⟨B,by rw [List.append_nil];exact bL.refl _,.inl ⟨h1,rfl,rfl⟩⟩
  ·refine⟨B++[R bits b v,bb s n T 0 v],?_,.inr ⟨bits,b,v,hb,hl,rfl,rfl⟩⟩;have:=Fm.bL.front (A:=B++[R bits b v]) (bL.looks (v:=v) (n:=n) (A:=T));rw [ajs,ajs]at this;exact this
theorem xp{B:List HP}(s n p:Nat)(bi:Int)(T:Nat→Int)(v0:V1)(hb:ar B (vw v0.v n T)):ax aiT 14 [.int .u16 (s:Int),v0.v,.int .u64 (p:Int),.int .i64 bi] B (Sy s n p bi (fun bits b v=>[dj s p bits b 0 v 0 false,bb s n T 0 v]) B):=by
 refine JZ (R:=fun bits b v=>dj s p bits b 0 v 0 false) (fun _ _ _=>rfl) hb ?_;refine BS _ (s:Int) (p:Int) bi (n:Int) T v0 ?_;unfold sC;intro b0;refine⟨_,PB (B:=[bn false v0 n T]) s 0 v0 n T (ar.dD 0 rfl),?_⟩;intro x hs hx;obtain⟨v1,x4,x5,x6,x7,A1,A2,rfl,rfl,hd⟩:=JX hx;refine⟨v1,x4,x5,x6,(x7:Nat),A1,A2,rfl,rfl,fun b1=>⟨fun he b2=> .inl ?_,fun he=>?_⟩⟩
 ·rcases hd with⟨h0,_⟩ | ⟨_,rfl,h2⟩
  ·exact absurd h0 he
  ·exact⟨JY h2,rfl⟩
 have XD:x6=0:=by omega
 rcases hd with⟨_,gQ,h1,h2⟩ | ⟨dI,_⟩
 rotate_left
 ·exact absurd XD dI
 refine⟨by omega,fun _=>⟨fun hc b2=> .inl ?_,fun hc=>?_⟩⟩
 ·obtain⟨ha,hb⟩:=Ga (n:=n) gQ hc;exact⟨ha,by rw [hb]⟩
 obtain⟨bits,rfl,hl⟩:=TX gQ h1 h2 hc;refine⟨by omega,fun _=>⟨by omega,fun _=>⟨by omega,fun _ v2 b2 b3=>?_⟩⟩⟩;exact .inr ⟨bits,b3,v2,_,_,_,_,_,rfl,hl,rfl,rfl⟩
def Rc.new:Rc:=⟨0,Wd.z,0,0,0,0,Wd.z,false,0,fun _=>0⟩
theorem Rc.Ih(s n p bits:Nat)(T:Nat→Int):Rc.new.Ok s n p bits T:=⟨Nat.two_pow_pos _,Wd.Ss,Wd.Ss,fun h=>by cases h⟩
theorem xq{B:List HP}(s n p:Nat)(bi:Int)(T:Nat→Int)(v0:V1)(hb:ar B (vw v0.v n T)):ax aiT 15 [.int .u16 (s:Int),v0.v,.int .u64 (p:Int),.int .i64 bi] B (Sy s n p bi (fun bits b v=>[jC s p bits b Rc.new v eQ,bb s n T 0 v,bn false eQ 0 fun _=>0]) B):=by
 have h0:ax aiT 15 [.int .u16 (s:Int),v0.v,.int .u64 (p:Int),.int .i64 bi] B (Sy s n p bi (fun bits b v=>[jC s p bits b Rc.new v eQ,bb s n T 0 v]) B):=by
  refine JZ (R:=fun bits b v=>jC s p bits b Rc.new v eQ) (fun _ _ _=>rfl) hb ?_;refine xD _ (s:Int) (p:Int) bi (n:Int) T v0 ?_;unfold pj;intro b0;refine⟨_,PB (B:=[bn false v0 n T]) s 0 v0 n T (ar.dD 0 rfl),?_⟩;intro x hs hx;obtain⟨v1,x4,x5,x6,x7,A1,A2,rfl,rfl,hd⟩:=JX hx;refine⟨v1,x4,x5,x6,(x7:Nat),A1,A2,rfl,rfl,fun b1=>⟨fun he b2=> .inl ?_,fun he=>?_⟩⟩
  ·rcases hd with⟨h0,_⟩ | ⟨_,rfl,h2⟩
   ·exact absurd h0 he
   ·exact⟨JY h2,rfl⟩
  have XD:x6=0:=by omega
  rcases hd with⟨_,gQ,h1,h2⟩ | ⟨dI,_⟩
  rotate_left
  ·exact absurd XD dI
  refine⟨by omega,fun _=>⟨fun hc b2=> .inl ?_,fun hc=>?_⟩⟩
  ·obtain⟨ha,hb⟩:=Ga (n:=n) gQ hc;exact⟨ha,by rw [hb]⟩
  obtain⟨bits,rfl,hl⟩:=TX gQ h1 h2 hc;refine⟨by omega,fun _=>⟨by omega,fun _=>⟨by omega,fun _ v2 b2 b3=>?_⟩⟩⟩;exact .inr ⟨bits,b3,v2,_,_,_,_,_,rfl,hl,rfl,rfl⟩
 refine ax.post h0 ?_;rintro r hs (⟨h1,rfl,rfl⟩ | ⟨bits,b,v,hb,hl,rfl,rfl⟩)
 ·exact⟨_,bL.refl _,.inl ⟨h1,rfl,rfl⟩⟩
 ·refine⟨B++[jC s p bits b Rc.new v eQ,bb s n T 0 v,bn false eQ 0 fun _=>0],?_,.inr ⟨bits,b,v,hb,hl,rfl,rfl⟩⟩;have:=bL.views (A:=B++[jC s p bits b Rc.new v eQ]) (B:=[bb s n T 0 v]) (L:=[bb s n T 0 v,bn false eQ 0 fun _=>0]) (EY (ar.self rfl) ar.nil);simpa using this
end Go.RX.Fx

namespace Go.RX.Fy
open Go Go.RX Go.Proofs Go.RX.Sh Go.RX.Fg Go.RX.Fh Go.RX.Fi Go.RX.Fj Go.RX.Fk Go.Hd Go.Gh Go.Gc Go.Ae Go.RX.Fe Go.Se Go.RX.Fq Go.RX.Fw Go.Wn Go.RX.Fx
structure Fr where
 g:Nat
 c:Nat
 nt:Nat
 X:Nat→Nat
 e:Int
def Zc(s n p bits:Nat)(T:Nat→Int)(f:Fr):HP:=aH (bQ f.e) (FL s p bits f.g f.c f.nt) (FB s n p bits T f.g f.c f.nt f.X)
def jQ(s n p bits:Nat)(T:Nat→Int)(L:List Fr):HP:=flock (L.map (Zc s n p bits T))
def Fr.key(p bits:Nat)(f:Fr):List Int:=[(eg p bits f.g:Int),(f.c:Int)]
structure ri (bits:Nat) (L:List Fr) (g c:Nat) (sp:Bool):Prop where
 gb:g<2^bits
 cb:c<2^64
 ok: ∀f∈L,f.g<2^bits∧f.c<2^64∧f.nt≤65536∧∀j,f.X j<256
 low: ∀f∈L,f.g<g∨(f.g=g∧(sp=true∨f.c<c))
 one: ∀(i j:Nat) (f h:Fr),L[i]? =some f→L[j]? =some h→f.g=h.g→f.c=h.c→i=j
theorem ri.nil(bits:Nat):ri bits [] 0 0 false:=⟨Nat.two_pow_pos _,by decide,fun _ h=>(nomatch h),fun _ h=>(nomatch h),fun _ _ _ _ h=>(nomatch h)⟩
theorem ri.step{bits:Nat}{L:List Fr}{g c:Nat}{sp:Bool}(h:ri bits L g c sp)(hg:g+1<2^bits):ri bits L (g+1) 0 false:=
 ⟨hg,by decide,h.ok,fun f hf=> .inl (by rcases h.low f hf with h | ⟨h,_⟩<;>omega),h.one⟩
theorem ri.skip{bits:Nat}{L:List Fr}{g c d:Nat}{sp:Bool}(h:ri bits L g c sp)(hd:d<2^64)(hc:c≤d):ri bits L g d sp:=
 ⟨h.gb,hd,h.ok,fun f hf=>by
  rcases h.low f hf with h | ⟨h,h2 | h2⟩
  ·exact .inl h
  ·exact .inr ⟨h,.inl h2⟩
  ·exact .inr ⟨h,.inr (by omega)⟩,h.one⟩
theorem oP{α:Type}{L:List α}{f x:α}{i:Nat}(h:(L++[f])[i]? =some x):L[i]? =some x∨(i=L.length∧x=f):=by
 by_cases hi:i<L.length
 ·rw [aiR hi]at h;exact .inl h
 ·rw [aiW (by omega)]at h;cases hk:i - L.length with
  | zero=>
   rw [hk]at h;simp only [List.getElem?_cons_zero,aiP]at h;exact .inr ⟨by omega,h.symm⟩
  | succ k=>rw [hk]at h;cases h
theorem VP{α:Type}{L:List α}{f x:α}{i:Nat}(h:L[i]? =some x):(L++[f])[i]? =some x:=by
 rw [aiR (aiN.1 h).1];exact h
theorem VQ{α:Type}{L:List α}{f:α}:(L++[f])[L.length]? =some f:=by
 rw [aiW (Nat.le_refl _),Nat.sub_self];rfl
theorem ri.fresh{bits:Nat}{L:List Fr}{g c:Nat}(h:ri bits L g c false){f:Fr}(hf:f∈L): ¬(f.g=g∧f.c=c):=by
 rintro ⟨h1,h2⟩;rcases h.low f hf with h | ⟨_,h3 | h3⟩
 ·omega
 ·cases h3
 ·omega
theorem ri.seal{bits:Nat}{L:List Fr}{g c:Nat}(h:ri bits L g c false){nt:Nat}(tx:nt≤65536){X:Nat→Nat}(hX: ∀j,X j<256)(e:Int):ri bits (L++[⟨g,c,nt,X,e⟩]) g ((c+1)%2^64) (decide (c+1=2^64)):=by
 have hc:=h.cb;refine⟨h.gb,Nat.mod_lt _ (by decide),fun f hf=>?_,fun f hf=>?_,fun i j f k hi hj hg Qa=>?_⟩
 ·rcases ajt.1 hf with hf | hf
  ·exact h.ok f hf
  ·simp only [ai0,aiZ,or_false]at hf;subst hf;exact⟨h.gb,hc,tx,hX⟩
 ·have Zd:c+1=2^64∨(c+1)%2^64=c+1:=by omega
  have key: ∀d,d≤c→decide (c+1=2^64)=true∨d<(c+1)%2^64:=by
   intro d hd;rcases Zd with hl | hl
   ·exact .inl (decide_eq_true hl)
   ·exact .inr (by omega)
  rcases ajt.1 hf with hf | hf
  ·rcases h.low f hf with h1 | ⟨h1,h2 | h2⟩
   ·exact .inl h1
   ·cases h2
   ·exact .inr ⟨h1,key _ (by omega)⟩
  ·simp only [ai0,aiZ,or_false]at hf;subst hf;exact .inr ⟨rfl,key _ (Nat.le_refl _)⟩
 ·rcases oP hi with hi | ⟨rfl,rfl⟩
  ·rcases oP hj with hj | ⟨rfl,rfl⟩
   ·exact h.one i j f k hi hj hg Qa
   ·exact absurd ⟨hg,Qa⟩ (h.fresh (ajn hi))
  ·rcases oP hj with hj | ⟨rfl,rfl⟩
   ·exact absurd ⟨hg.symm,Qa.symm⟩ (h.fresh (ajn hj))
   ·rfl
theorem key_inj{p bits:Nat}{f h:Fr}(he:bG (f.key p bits)=bG (h.key p bits)):f.g=h.g∧f.c=h.c:=by
 have:=qH (by rfl) he;unfold Fr.key eg at this;simp only [ai5,and_true]at this;omega
structure Told (p bits:Nat) (L:List Fr) (M I:Nat→Int):Prop where
 has: ∀q:Nat,M q≠0↔∃(i:Nat) (f:Fr),L[i]? =some f∧q=bG (f.key p bits)
 at_: ∀(i:Nat) (f:Fr),L[i]? =some f→I (bG (f.key p bits))=(i:Int)
theorem Told.nil(p bits:Nat):Told p bits [] (fun _=>0) fun _=>0:=⟨fun _=>⟨fun h=>absurd rfl h,fun⟨_,_,h,_⟩=>(nomatch h)⟩,fun _ _ h=>(nomatch h)⟩
theorem Told.seal{p bits:Nat}{L:List Fr}{M I:Nat→Int}(h:Told p bits L M I){g c:Nat}(hs:ri bits L g c false)(f:Fr)(hf:f.g=g∧f.c=c):
  ¬(M (bG (f.key p bits))≠0)∧Told p bits (L++[f]) (au M (bG (f.key p bits)) 1) (au I (bG (f.key p bits)) (L.length:Int)):=by
 have Dj: ¬(M (bG (f.key p bits))≠0):=by
  intro hm;obtain⟨i,k,hi,he⟩:=(h.has _).1 hm;have:=key_inj he;exact hs.fresh (ajn hi) ⟨by omega,by omega⟩
 refine⟨Dj,fun q=>?_,fun i k hi=>?_⟩
 ·unfold au;by_cases hq:q=bG (f.key p bits)
  ·rw [if_pos hq];exact⟨fun _=>⟨_,f,VQ,hq⟩,fun _=>by decide⟩
  ·rw [if_neg hq,h.has];constructor
   ·rintro ⟨i,k,hi,he⟩;exact⟨i,k,VP hi,he⟩
   ·rintro ⟨i,k,hi,he⟩;rcases oP hi with hi | ⟨rfl,rfl⟩
    ·exact⟨i,k,hi,he⟩
    ·exact absurd he hq
 ·unfold au;rcases oP hi with hi | ⟨rfl,rfl⟩
  ·by_cases hq:bG (k.key p bits)=bG (f.key p bits)
   ·exact absurd ((h.has _).2 ⟨i,k,hi,rfl⟩) (by rw [hq];exact Dj)
   ·rw [if_neg hq];exact h.at_ i k hi
  ·rw [if_pos rfl]
theorem j8{so:Bool}{top:Nat}{W:Nat→Nat}{P Q:Nat→Prop}(h:Inv so top W P)(hpq: ∀e,Q e↔P e):Inv so top W Q:=by
 have:Q=P:=funext fun e=>propext (hpq e)
 rw [this];exact h
def Gb(L:List Fr)(O:Nat→Prop)(g e:Nat):Prop:= ∃(i:Nat) (f:Fr),L[i]? =some f∧O i∧f.g=g∧f.c=e
structure PC (L:List Fr) (O:Nat→Prop) (R:Rc):Prop where
 w0:Inv R.w0.so R.w0.top R.w0.W (Gb L O R.g0)
 w1:R.two=true→Inv R.w1.so R.w1.top R.w1.W (Gb L O R.g1)
 lt:R.two=true→R.g1<R.g0
 le: ∀(i:Nat) (f:Fr),L[i]? =some f→O i→f.g≤R.g0
theorem PC.new(L:List Fr):PC L (fun _=>False) Rc.new:=
 ⟨j8 inv_zero fun _=>⟨fun⟨_,_,_,h,_⟩=>h,fun h=>(nomatch h)⟩,fun h=>(nomatch h),fun h=>(nomatch h),fun _ _ _ h=>(nomatch h)⟩
theorem Gd(R:Rc)(g c:Nat):dN R g c=0∨dN R g c=160∨dN R g c=161∨dN R g c=241∨dN R g c=5:=by
 have hs: ∀w:Wd,w.WW c=0∨w.WW c=160∨w.WW c=161:=by
  intro w;unfold Wd.WW ft;split
  ·exact .inl rfl
  ·split
   ·exact .inr (.inr rfl)
   ·split
    ·exact .inr (.inl rfl)
    ·exact .inl rfl
 unfold dN;split
 ·rcases hs R.w0 with h | h | h<;>rw [h]<;>decide
 ·split
  ·rcases hs R.w1 with h | h | h<;>rw [h]<;>decide
  ·split
   ·decide
   ·split<;>decide
variable {L:List Fr} {O:Nat→Prop} {R:Rc}
theorem PC.not(h:PC L O R){i:Nat}{f:Fr}(hi:L[i]? =some f)(h0:dN R f.g f.c=0): ¬O i:=by
 intro ho;have hle:=h.le i f hi ho;unfold dN at h0;by_cases h1:f.g=R.g0
 ·rw [if_pos h1]at h0;exact OG h.w0 h0 ⟨i,f,hi,ho,h1,rfl⟩
 rw [if_neg h1]at h0;by_cases h2:R.two=true∧f.g=R.g1
 ·rw [if_pos h2]at h0;exact OG (h.w1 h2.1) h0 ⟨i,f,hi,ho,h2.2,rfl⟩
 rw [if_neg h2,if_pos (by omega)]at h0;exact absurd h0 (by decide)
theorem PC.Ze(h:PC L O R)(iz: ∀(i j:Nat) (f h:Fr),L[i]? =some f→L[j]? =some h→f.g=h.g→f.c=h.c→i=j){i:Nat}{f:Fr}(hi:L[i]? =some f)(h0:dN R f.g f.c=160):O i:=by
 have fin:Gb L O f.g f.c→O i:=by
  rintro ⟨j,k,hj,ho,hg,hc⟩;rw [←iz j i k f hj hi hg hc];exact ho
 unfold dN at h0;by_cases h1:f.g=R.g0
 ·rw [if_pos h1]at h0;exact fin (by rw [h1];exact zb h.w0 h0)
 rw [if_neg h1]at h0;by_cases h2:R.two=true∧f.g=R.g1
 ·rw [if_pos h2]at h0;exact fin (by rw [h2.2];exact zb (h.w1 h2.1) h0)
 rw [if_neg h2]at h0;split at h0
 ·exact absurd h0 (by decide)
 ·split at h0<;>exact absurd h0 (by decide)
theorem vd{i:Nat}{f:Fr}(hi:L[i]? =some f){g:Nat}(hg:f.g=g)(e:Nat):Gb L (fun j=>O j∨j=i) g e↔Gb L O g e∨e=f.c:=by
 constructor
 ·rintro ⟨j,k,hj,ho | rfl,h1,h2⟩
  ·exact .inl ⟨j,k,hj,ho,h1,h2⟩
  ·rw [hi]at hj;cases hj;exact .inr h2.symm
 ·rintro (⟨j,k,hj,ho,h1,h2⟩ | rfl)
  ·exact⟨j,k,hj,.inl ho,h1,h2⟩
  ·exact⟨i,f,hi,.inr rfl,hg,rfl⟩
theorem sq{i:Nat}{f:Fr}(hi:L[i]? =some f){g:Nat}(hg:f.g≠g)(e:Nat):Gb L (fun j=>O j∨j=i) g e↔Gb L O g e:=by
 constructor
 ·rintro ⟨j,k,hj,ho | rfl,h1,h2⟩
  ·exact⟨j,k,hj,ho,h1,h2⟩
  ·rw [hi]at hj;cases hj;exact absurd h1 hg
 ·rintro ⟨j,k,hj,ho,h1,h2⟩;exact⟨j,k,hj,.inl ho,h1,h2⟩
variable {s n p bits:Nat} {T:Nat→Int}
theorem PC.opened(h:PC L O R)(hR:R.Ok s n p bits T){i:Nat}{f:Fr}(hi:L[i]? =some f)(h0:dN R f.g f.c=0):PC L (fun j=>O j∨j=i) (jD s n p bits T R f.g f.c):=by
 unfold dN at h0;unfold jD;by_cases h1:f.g=R.g0
 ·rw [if_pos h1]at h0 ⊢;refine⟨j8 (zd hR.w0.W h.w0 h0) (vd hi h1),fun ht=>j8 (h.w1 ht) (sq hi ?_),h.lt,fun j k hj ho=>?_⟩
  ·have:=h.lt ht;show f.g≠R.g1;omega
  ·rcases ho with ho | rfl
   ·exact h.le j k hj ho
   ·rw [hi]at hj;cases hj;exact Nat.le_of_eq h1
 rw [if_neg h1]at h0 ⊢;by_cases h2:R.two=true∧f.g=R.g1
 ·rw [if_pos h2]at h0 ⊢;have bX:=h.lt h2.1;refine⟨j8 h.w0 (sq hi h1),fun ht=>j8 (zd hR.w1.W (h.w1 ht) h0) (vd hi h2.2),h.lt,fun j k hj ho=>?_⟩;rcases ho with ho | rfl
  ·exact h.le j k hj ho
  ·rw [hi]at hj;cases hj;show f.g≤R.g0;omega
 rw [if_neg h2]at h0 ⊢;have h3: ¬f.g<R.g0:=by
  intro h3;rw [if_pos h3]at h0;exact absurd h0 (by decide)
 have Dj: ∀e,¬Gb L O f.g e:=by
  rintro e ⟨j,k,hj,ho,hg,_⟩;have:=h.le j k hj ho;omega
 refine⟨j8 (zd Wd.Ss.W inv_zero (c:=f.c) rfl) fun e=>?_,fun _=>j8 h.w0 (sq hi h1),fun _=>by show R.g0<f.g;omega,fun j k hj ho=>?_⟩
 ·rw [vd hi rfl];exact or_congr (iff_false_intro (Dj e)) Iff.rfl
 ·rcases ho with ho | rfl
  ·have:=h.le j k hj ho;show k.g≤f.g;omega
  ·rw [hi]at hj;cases hj;exact Nat.le_refl _
open Go.RX Go.RX.Fe Go.RX.Fg Go.RX.Fi Go.RX.Fj Go.RX.Fk Go.RX.Fl
def zJ(hp:List Ck)(az:List SV):List Nat:=(az.flatMap fun x=>match x with
 | .ptr b 0=>(match findAt hp b with
  | some (j,.row _ _ cs)=>j::cs.flatMap fun y=>(match y with
   | .vv v=>(match cG hp v with | some (i,_)=>[i] | none=>[])
   | _=>[])
  | _=>[])
 | _=>[]).eraseDups
def LJ(hp:List Ck):List Nat:=(ajw hp.length).filter fun j=>match hp[j]? with | some (.abs _)=>true | _=>false
def VR(hp:List Ck):List Nat:=((LJ hp).reverse).take 1
def PD(hp:List Ck):List Nat:=(LJ hp).take 1
def vw(v:Nat)(n:E)(a:Nat):Ck:= .bK false v 5 1 n (cB a)
def acN(c:cz):List Ck:=[.row c.b true [.int .u16 (.var c.i),.int .u64 (.var (c.i+1)),.int .i64 (.var (c.i+2)),.int .u64 (.var (c.i+3)),.vv c.v,.int .u64 (.var (c.i+4)),.bool (.var c.bo)],vw c.v (.var (c.i+5)) c.a]
def ED(b i v bo a:Nat):List Ck:=[.row b true [.int .u16 (.var i),.int .u64 (.var (i+1)),.int .i64 (.var (i+2)),.int .u64 (.var (i+3)),.vv v,.bool (.var bo),.int .u64 (.var (i+4)),.b_ .u64 16 (.aN a),.int .u16 (.var (i+5)),.int .u64 (.var (i+6)),.int .i64 (.var (i+7)),.int .u64 (.var (i+8)),.vv (v+1),.bool (.var (bo+1)),.int .u64 (.var (i+9)),.b_ .u64 16 (.aN (a+1)),.bool (.var (bo+2))],vw v (.var (i+10)) (a+2),vw (v+1) (.var (i+11)) (a+3)]
def Ge:aL:={use:=fun az hp=>roots hp az,inc:={i:=6,a:=1,v:=1,b:=1,bo:=1},val:=fun c=> .mu [.ptr c.b 0,.int .i64 (.lit 0)],new:=fun c h=>h++acN c}
def Gf:aL:={use:=fun az hp=>roots hp az,inc:={i:=12,a:=4,v:=2,b:=1,bo:=3},val:=fun c=> .mu [.ptr c.b 0,.int .i64 (.lit 0)],new:=fun c h=>h++ED c.b c.i c.v c.bo c.a}
def Cw(e:Int):aL:={use:=fun az hp=>roots hp az,val:=fun _=> .mu [.gx,.int .i64 (.lit e)],new:=fun _ h=>h}
def fh:aL:={use:=fun az hp=>zJ hp az++LJ hp,inc:={i:=3,bo:=1,p:=1},val:=fun c=> .mu [.Kg (.var c.i),.int .i64 (.var (c.i+1))],new:=fun c h=>match h with | [.row b wr [s,p,n,g,v,_,_],base,kept,_]=>[.row b wr [s,p,n,g,v,.int .u64 (.var (c.i+2)),.bool (.var c.bo)],base,kept,.abs c.p] | _=>h}
def qn:aL:={use:=fun az hp=>zJ hp az,inc:={i:=4,a:=1,v:=1,bo:=1},val:=fun c=> .int .i64 (.var c.i),new:=fun c h=>match h with | [.row b wr [s,p,n,_,_,_,_],_]=>[.row b wr [s,p,n,.int .u64 (.var (c.i+1)),.vv c.v,.int .u64 (.var (c.i+2)),.bool (.var c.bo)],vw c.v (.var (c.i+3)) c.a] | _=>h}
def zK:aL:={use:=fun az hp=>zJ hp az,inc:={i:=2},val:=fun c=> .int .i64 (.var c.i),new:=fun c h=>match h with | [.row b wr [s,p,n,g,v,_,x],base]=>[.row b wr [s,p,n,g,v,.int .u64 (.var (c.i+1)),x],base] | _=>h}
def EB:aL:={use:=fun _ hp=>VR hp,inc:={i:=3},val:=fun c=> .mu [.agg [.int .u64 (.var c.i),.int .u64 (.var (c.i+1))],.int .i64 (.var (c.i+2))],new:=fun _ h=>h}
def p8:aL:={use:=fun az hp=>zJ hp az++VR hp,inc:={i:=16,a:=5,v:=3,bo:=3},val:=fun c=> .mu [.vv (c.v+2),.agg [.int .u64 (.var (c.i+12)),.int .u64 (.var (c.i+13))],.int .i64 (.var (c.i+14))],new:=fun c h=>match h with | [.row b wr (s::p::n::_),_,_,set]=>(match ED b c.i c.v c.bo c.a with | [.row _ _ (_::_::_::r),x,y]=>[.row b wr (s::p::n::r),x,y,set,.bK true (c.v+2) 5 1 (.var (c.i+15)) (cB (c.a+4))] | _=>h) | _=>h}
def Ma:aL:={use:=fun az hp=>(roots hp az++PD hp).eraseDups,inc:={bo:=1},val:=fun c=> .bool (.var c.bo),new:=fun _ h=>h}
def Mb:aL:={use:=fun _ _=>[],val:=fun _=> .bool (.lit true),new:=fun _ h=>h}
def Gg(f:Nat):Option aL:=
 match f with
 | 12=>some Mb
 | 13=>some Ma
 | 18=>some fh
 | 20=>some qn
 | 21=>some zK
 | 24=>some EB
 | 25=>some p8
 | _=>none
def bB(f:Nat):Option aL:=
 match f with
 | 14=>some Ge
 | 15=>some Gf
 | f=>Gg f
def Gi(e:Int)(f:Nat):Option aL:=
 match f with
 | 14=>some (Cw e)
 | 15=>some (Cw e)
 | f=>Gg f
def hpS(c:cz)(h:List Ck):List Ck:=
 let rec go (k:Nat):List Ck→List Ck
  | []=>[]
  | .row b wr [s,p,n,_,_,_,_]::_::r=> .row b wr [s,p,n,.int .u64 (.var (c.i+1)),.vv c.v,.int .u64 (.var (c.i+2)),.bool (.var c.bo)]::vw c.v (.var (c.i+3)) c.a::go k r
  | .map b kl ka va z _ [⟨x,w,_⟩]::r=> .map b kl ka va z (.aN (c.a+1)) [⟨x,w,.aN (c.a+2)⟩]::go k r
  | .bK true _ 24 1 _ _::r=> .bK true (c.v+1+k) 24 1 (.var (c.i+4)) [⟨.cv,1,.aN (c.a+3+k)⟩]::go (k+1) r
  | x::r=>x::go k r
 let l:=go 0 h
 match (VR l)with
 | [j]=>l.set j (.abs c.p)
 | _=>l
def hpR(c:cz)(h:List Ck):List Ck:=
 let rec go:List Ck→List Ck
  | []=>[]
  | .row b wr (s::p::n::x1::x2::x3::x4::x5::x6::rest)::y1::y2::r=>
   (match ED b c.i c.v c.bo c.a with
   | [.row _ _ (_::_::_::q),z1,z2]=> .row b wr (s::p::n::q)::z1::z2::go r
   | _=> .row b wr (s::p::n::x1::x2::x3::x4::x5::x6::rest)::y1::y2::go r)
  | .map b [.i64] ka va z _ aD::r=> .map b [.i64] ka va z (.aN (c.a+4)) aD::go r
  | x::r=>x::go r
 go h
def loops(f id:Nat):Option dO:=
 match f,id with
 | 5,0=>some {pre:=[.slot 15 24,.slot 16 24],inc:={i:=5,a:=5,v:=3,bo:=1,p:=1},aO:=fun c=>[(70,.int .i64 (.var c.i)),(15,.vv (c.v+1)),(16,.vv (c.v+2))],hp:=hpS}
 | 5,3=>some {inc:={i:=13,a:=5,v:=2,bo:=3},aO:=fun c=>[(126,.int .i64 (.var (c.i+12)))],hp:=hpR}
 | 13,0=>some {inc:={i:=2},aO:=fun c=>[(10,.int .i64 (.var c.i)),(5,.int .i64 (.var (c.i+1)))]}
 | _,_=>none
def HL(st:St):Option dR:=
 match st.fr.lookup 155,st.fr.lookup 16,st.fr.lookup 29 with
 | some (.bool b),some (.vv vt),some (.int _ e)=>
  if st.known.contains b then
   match cG st.hp vt,PD st.hp with
   | some (j,.bK _ _ t s n [⟨_,_,a⟩]),[k]=>some {use:=[j,k],inc:={i:=1,a:=1,v:=1},new:=[.bK true vt t s n [⟨.pt e st.aV.v,1,a⟩],st.hp.getD k .emp,vw st.aV.v (.var st.aV.i) st.aV.a]}
   | _,_=>none
  else if st.known.contains (iI b)then none else some {split:=some b}
 | _,_,_=>none
def HM(st:St):Option dR:=
 match st.fr.lookup 16 with
 | some (.vv vt)=>
  match cG st.hp vt with
  | some (j,.bK _ _ t s n [⟨.pt _ v,_,a⟩])=>
   (match cG st.hp v with
   | some (i,_)=>some {use:=[j,i],new:=[.bK true vt t s n [⟨.cv,1,a⟩]]}
   | none=>none)
  | _=>none
 | _=>none
def VS(st:St):Option dR:=
 match st.fr.lookup 7,PD st.hp with
 | some (.ptr b 0),[k]=>
  (match findAt st.hp b with
  | some (j,.row _ wr [x0,_,_,x3,x4])=>some {use:=[j,k],inc:={i:=2,a:=2,v:=2},new:=[.row b wr [x0,.vv st.aV.v,.vv (st.aV.v+1),x3,x4],st.hp.getD k .emp,vw st.aV.v (.var st.aV.i) st.aV.a,vw (st.aV.v+1) (.var (st.aV.i+1)) (st.aV.a+1)]}
  | _=>none)
 | _,_=>none
def kQ(f r:Nat):Option (St→Option dR):=
 match f,r with
 | 5,38=>some HL
 | 5,41=>some HM
 | 13,4=>some VS
 | _,_=>none
end Go.RX.Fy
