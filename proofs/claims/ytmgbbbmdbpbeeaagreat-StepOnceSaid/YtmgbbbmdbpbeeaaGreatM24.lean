/- Windows. -/
import Derived.Test.YtmgbbbmdbpbeeaaGreatFwF
import Derived.Test.YtmgbbbmdbpbeeaaGreatM23
open Classical renaming axiomOfChoice → ajH, not_not → ai4
open Go.IntKind renaming wrap → ae
open Go.Proofs.Tryz renaming prog → aiT
open Int renaming toNat_natCast → aiX
open List renaming append → aiL, getD_cons_succ → aiS, getD_cons_zero → ah, getElem?_append_left → aiR, getElem?_append_right → aiW, getElem?_eq_getElem → ajk, getElem?_eq_some_iff → aiN, mem_of_getElem? → ajn
open List.cons renaming injEq → ai5
open Nat renaming mod_eq_of_lt → ajm, not_lt → ajG
namespace Go.RX.Fw
open Go Go.RX Go.Proofs Go.RX.Sh Go.RX.Fg Go.RX.Fh Go.RX.Fk Go.Wn
def cR(W:Nat→Nat):Nat→Int:=fun j=>((W j:Nat):Int)
abbrev fj(s p n g:Int)(v:V1)(r:List Value):List Value:= .int .u16 s:: .int .u64 p:: .int .i64 n:: .int .u64 g::v.v::r
abbrev j5(so:Bool)(top:Int)(A:Nat→Int)(r:List Value):List Value:= .bool so:: .int .u64 top::aiL (aj .u64 16 A) r
theorem ma(d:Nat)(_:d<2^64):ae .u64 (ak .quo .u64 (ak .rem .u64 (d:Int) 1024) 64)=((d%1024/64:Nat):Int):=by
 show ae .u64 ((d%1024/64:Nat):Int)=_;exact qe (by omega)
theorem iN(d:Nat):ak .rem .u64 (d:Int) 64=((d%64:Nat):Int):=rfl
theorem JJ(b:Nat)(hb:b<64):ak .shl .u64 1 (b:Int)=((2^b:Nat):Int):=by
 have:=tJ 1 b (by omega);rw [Nat.one_mul,ajm (Nat.pow_lt_pow_right (by decide) hb)]at this;exact this
theorem Ly{x b:Nat}:ak .kY .u64 (x:Int) ((2^b:Nat):Int)=((clear x b:Nat):Int):=by
 show ae .u64 ((BitVec.ofInt 64 (x:Int) &&& ~~~ BitVec.ofInt 64 ((2^b:Nat):Int)).toNat:Int)=_;rw [wrap_u64,ajm (BitVec.isLt _),BitVec.ofInt_natCast,BitVec.ofInt_natCast];rfl
theorem ON(a b:Nat):ak .jJ .u64 (a:Int) (b:Int)=((min a b:Nat):Int):=by
 show(if(b:Int)<(a:Int)then(b:Int)else(a:Int))=_;split<;>omega
theorem u2(a b:Nat):ak .imax .u64 (a:Int) (b:Int)=((max a b:Nat):Int):=by
 show(if(a:Int)<(b:Int)then(b:Int)else(a:Int))=_;split<;>omega
theorem nR{W:Nat→Nat}{A:Nat→Int}(hA: ∀j,j<16→A j=(W j:Nat))(d j:Nat)(hj:j<16):au A (d%1024/64) (ak .kY .u64 (A (d%1024/64)) (ak .shl .u64 1 ((d%64:Nat):Int))) j=((Hz W d j:Nat):Int):=by
 rw [JJ _ (Nat.mod_lt _ (by decide)),hA _ (by omega),Ly];unfold au Hz;by_cases e:j=d%1024/64
 ·rw [if_pos e,if_pos e,e]
 ·rw [if_neg e,if_neg e,hA j hj]
theorem nS{W:Nat→Nat}(hW: ∀j,W j<2^64){A:Nat→Int}(hA: ∀j,j<16→A j=(W j:Nat))(d j:Nat)(hj:j<16):au A (d%1024/64) (ak .bC .u64 (A (d%1024/64)) (ak .shl .u64 1 ((d%64:Nat):Int))) j=((u0 W d j:Nat):Int):=by
 rw [JJ _ (Nat.mod_lt _ (by decide)),hA _ (by omega),Hx (hW _) (Nat.pow_lt_pow_right (by decide) (Nat.mod_lt _ (by decide)))];unfold au u0;by_cases e:j=d%1024/64
 ·rw [if_pos e,if_pos e,e]
 ·rw [if_neg e,if_neg e,hA j hj]
theorem u3{c n k:Nat}(hn:n≤c)(hk:k<n)(hc:c<2^64):ae .u64 ((ae .u64 ((c:Int) - ((n - k:Nat):Int)))+1)=((c - (n - k)+1:Nat):Int):=by
 rw [show(c:Int) - ((n - k:Nat):Int)=((c - (n - k):Nat):Int) by omega,qe (by omega),show((c - (n - k):Nat):Int)+1=((c - (n - k)+1:Nat):Int) by omega,qe (by omega)]
theorem qQ(so:Bool)(top c:Nat):nP so top c≤c:=by unfold nP;omega
theorem nT(c t:Nat)(hc:c<2^64):ak .jJ .u64 (ae .u64 ((c:Int) - (ak .jJ .u64 (c:Int) (t:Int)))) 1024=((min (c - min c t) 1024:Nat):Int):=by
 rw [ON,show(c:Int) - ((min c t:Nat):Int)=((c - min c t:Nat):Int) by omega,qe (by omega)];exact ON _ 1024
theorem ze(b:Nat)(s p n g:Int)(v:V1)(so:Bool)(top c:Nat)(W:Nat→Nat)(ht:top<2^64)(hc:c<2^64)(hW: ∀j,W j<2^64):ax aiT 51 [.pointer (some ⟨b,5,none⟩),.int .u64 (c:Int)] [al b true (fj s p n g v (j5 so (top:Int) (cR W) []))] fun r hs=>r= .int .i64 (ft so top W c:Nat)∧hs=[al b true (fj s p n g v (j5 so (top:Int) (cR W) []))]:=by
 refine Qj _ s p n g (top:Int) (c:Int) (cR W) so v b ?_;unfold IF ft;refine⟨fun h=>⟨?_,rfl⟩,fun h=>?_⟩
 ·rw [if_pos (h.elim (fun h=> .inl (by simpa using h)) fun h=> .inr (by omega))];rfl
 have h': ¬(so=false∨top<c):=by
  rintro (h2 | h2)
  ·exact h (.inl (by simp [h2]))
  ·exact h (.inr (by omega))
 rw [if_neg h',show(top:Int) - (c:Int)=((top - c:Nat):Int) by omega,qe (by omega),ma c hc,iN c];refine⟨fun h2=>⟨?_,rfl⟩,fun h2=>?_⟩
 ·rw [if_pos (by omega)];rfl
 rw [if_neg (by omega)]
 iterate 3 refine⟨by omega,fun _=>?_⟩
 rw [aiX];have hb:=Fh.OC (W (c%1024/64)) (c%64) (hW _) (by omega);refine⟨fun h3=>⟨?_,rfl⟩,fun h3=>⟨?_,rfl⟩⟩
 ·rw [if_pos (by unfold bit;exact hb.1 h3)];rfl
 ·rw [if_neg (by unfold bit;exact fun h4=>h3 (hb.2 h4))];rfl
set_option maxHeartbeats 1000000 in
theorem EZ(b:Nat)(s p n g:Int)(v:V1)(so:Bool)(top c:Nat)(W:Nat→Nat)(ht:top<2^64)(hc:c<2^64)(hW: ∀j,W j<2^64):ax aiT 52 [.pointer (some ⟨b,5,none⟩),.int .u64 (c:Int)] [al b true (fj s p n g v (j5 so (top:Int) (cR W) []))]
  fun r hs=> ∃(nj:Bool) (t1:Nat) (W1:Nat→Nat),((ft so top W c=0∧nj=true∧t1=fw so top c∧W1=eO so top W c)∨(ft so top W c≠0∧nj=so∧t1=top∧W1=W))∧r= .int .i64 (ft so top W c:Nat)∧hs=[al b true (fj s p n g v (j5 nj (t1:Int) (cR W1) []))]:=by
 refine ax.post (p:=fun r hs=> ∃(nj:Bool) (t1:Nat) (W1:Nat→Nat) (y:List HP),((ft so top W c=0∧nj=true∧t1=fw so top c∧W1=eO so top W c)∨(ft so top W c≠0∧nj=so∧t1=top∧W1=W))∧r= .int .i64 (ft so top W c:Nat)∧hs=al b true (fj s p n g v (j5 nj (t1:Int) (cR W1) []))::y) ?_ ?_;rotate_left
 ·rintro r hs ⟨nj,t1,W1,y,h,rfl,rfl⟩;exact⟨_,bL.sub (List.Sublist.cons_cons _ (List.nil_sublist _)),nj,t1,W1,h,rfl,rfl⟩
 refine MA _ s p n g (top:Int) (c:Int) (cR W) so v b ?_;unfold Du;intro b1;refine⟨_,ze b s p n g v so top c W ht hc hW,?_⟩;rintro x hs ⟨rfl,rfl⟩;refine⟨(ft so top W c:Nat),rfl,rfl,fun h=>?_,fun h=>?_⟩
 ·exact⟨so,top,W,_,.inr ⟨fun h2=>h (by rw [h2];rfl),rfl,rfl,rfl⟩,rfl,rfl⟩
 have h0:ft so top W c=0:=by
  have:=ai4.1 h;omega
 rw [h0];refine⟨fun hs=>?_,fun hs=>?_⟩
 ·have AS:so=false:=by simpa using hs
  intro b2 b3 D4 l5 r4;obtain⟨m,hn⟩: ∃m,m=nP so top c:=⟨_,rfl⟩;have ng:m≤c:=by rw [hn];exact qQ so top c
  have AX:m=min (c - min c c) 1024:=by rw [hn];unfold nP o9;rw [AS];simp
  have OO:eO so top W c=u0 (cl W c m m) c:=by rw [hn];rfl
  refine⟨fun e=> ∃k:Nat,k≤m∧e.i=[((m - k:Nat):Int)]∧(∀j,j<16→(e.a.getD 0 fun _=>0) j=(cl W c m k j:Nat)),fun e=>(e.i.getD 0 0).toNat,?_,?_⟩
  ·rw [AX];refine⟨_,_,fun _=>0,(nT c c hc).symm,fun _ _=>rfl,0,by omega,rfl,fun j _=>rfl⟩
  rintro x B2 B3 ⟨k,hk,hx,hA⟩;simp only [ai5,and_true]at hx;subst hx;simp only [ah]at hA;refine⟨fun bX=>?_,fun jI=>?_⟩
  ·rw [u3 ng (by omega) hc,ma _ (by omega),iN,aiX]
   iterate 3 refine⟨by omega,fun _=>?_⟩
   refine⟨_,_,B3,rfl,fun _ _=>rfl,⟨k+1,by omega,?_,fun j hj=>?_⟩,?_⟩
   ·rw [show((m - k:Nat):Int) - 1=((m - (k+1):Nat):Int) by omega,qe (by omega)]
   ·simp only [ah];exact nR hA _ j hj
   ·rw [show((m - k:Nat):Int) - 1=((m - (k+1):Nat):Int) by omega,qe (by omega)];simp only [ah];omega
  have r9:k=m:=by omega
  subst r9;rw [ma c hc,iN c,aiX]
  iterate 3 refine⟨by omega,fun _=>?_⟩
  rw [show aj .u64 16 (au B2 (c%1024/64) (ak .bC .u64 (B2 (c%1024/64)) (ak .shl .u64 1 ((c%64:Nat):Int))))=aj .u64 16 (cR (eO so top W c))from(aP .u64 16 fun j hj=>nS (tK hW c _ _) hA c j hj).trans (by rw [OO];rfl)];rw [u2];exact⟨true,fw so top c,eO so top W c,_,.inl ⟨rfl,rfl,rfl,rfl⟩,rfl,by unfold fw o9;rw [AS];rfl⟩
 ·have AS:so=true:=ai4.1 hs;intro b2 b3 D4 l5 r4;obtain⟨m,hn⟩: ∃m,m=nP so top c:=⟨_,rfl⟩;have ng:m≤c:=by rw [hn];exact qQ so top c
  have AX:m=min (c - min c top) 1024:=by rw [hn];unfold nP o9;rw [AS];simp
  have OO:eO so top W c=u0 (cl W c m m) c:=by rw [hn];rfl
  refine⟨fun e=> ∃k:Nat,k≤m∧e.i=[((m - k:Nat):Int)]∧(∀j,j<16→(e.a.getD 0 fun _=>0) j=(cl W c m k j:Nat)),fun e=>(e.i.getD 0 0).toNat,?_,?_⟩
  ·rw [AX];refine⟨_,_,fun _=>0,(nT c top hc).symm,fun _ _=>rfl,0,by omega,rfl,fun j _=>rfl⟩
  rintro x B2 B3 ⟨k,hk,hx,hA⟩;simp only [ai5,and_true]at hx;subst hx;simp only [ah]at hA;refine⟨fun bX=>?_,fun jI=>?_⟩
  ·rw [u3 ng (by omega) hc,ma _ (by omega),iN,aiX]
   iterate 3 refine⟨by omega,fun _=>?_⟩
   refine⟨_,_,B3,rfl,fun _ _=>rfl,⟨k+1,by omega,?_,fun j hj=>?_⟩,?_⟩
   ·rw [show((m - k:Nat):Int) - 1=((m - (k+1):Nat):Int) by omega,qe (by omega)]
   ·simp only [ah];exact nR hA _ j hj
   ·rw [show((m - k:Nat):Int) - 1=((m - (k+1):Nat):Int) by omega,qe (by omega)];simp only [ah];omega
  have r9:k=m:=by omega
  subst r9;rw [ma c hc,iN c,aiX]
  iterate 3 refine⟨by omega,fun _=>?_⟩
  rw [show aj .u64 16 (au B2 (c%1024/64) (ak .bC .u64 (B2 (c%1024/64)) (ak .shl .u64 1 ((c%64:Nat):Int))))=aj .u64 16 (cR (eO so top W c))from(aP .u64 16 fun j hj=>nS (tK hW c _ _) hA c j hj).trans (by rw [OO];rfl)];rw [u2];exact⟨true,fw so top c,eO so top W c,_,.inl ⟨rfl,rfl,rfl,rfl⟩,rfl,by unfold fw o9;rw [AS];rfl⟩
theorem zf(b:Nat)(s p n g:Int)(v:V1)(s2 p2 n2 g2:Int)(v2:V1)(zW:Bool)(t2:Int)(A2:Nat→Int)(two:Bool)(so:Bool)(top c:Nat)(W:Nat→Nat)(ht:top<2^64)(hc:c<2^64)(hW: ∀j,W j<2^64):ax aiT 51 [.pointer (some ⟨b,5,none⟩),.int .u64 (c:Int)] [al b true (fj s p n g v (j5 so (top:Int) (cR W) (fj s2 p2 n2 g2 v2 (j5 zW t2 A2 [.bool two]))))] fun r hs=>r= .int .i64 (ft so top W c:Nat)∧hs=[al b true (fj s p n g v (j5 so (top:Int) (cR W) (fj s2 p2 n2 g2 v2 (j5 zW t2 A2 [.bool two]))))]:=by
 refine Qh _ s p n g (top:Int) s2 p2 n2 g2 t2 (c:Int) (cR W) A2 so zW two v v2 b ?_;unfold ID ft;refine⟨fun h=>⟨?_,rfl⟩,fun h=>?_⟩
 ·rw [if_pos (h.elim (fun h=> .inl (by simpa using h)) fun h=> .inr (by omega))];rfl
 have h': ¬(so=false∨top<c):=by
  rintro (h2 | h2)
  ·exact h (.inl (by simp [h2]))
  ·exact h (.inr (by omega))
 rw [if_neg h',show(top:Int) - (c:Int)=((top - c:Nat):Int) by omega,qe (by omega),ma c hc,iN c];refine⟨fun h2=>⟨?_,rfl⟩,fun h2=>?_⟩
 ·rw [if_pos (by omega)];rfl
 rw [if_neg (by omega)]
 iterate 3 refine⟨by omega,fun _=>?_⟩
 rw [aiX];have hb:=Fh.OC (W (c%1024/64)) (c%64) (hW _) (by omega);refine⟨fun h3=>⟨?_,rfl⟩,fun h3=>⟨?_,rfl⟩⟩
 ·rw [if_pos (by unfold bit;exact hb.1 h3)];rfl
 ·rw [if_neg (by unfold bit;exact fun h4=>h3 (hb.2 h4))];rfl
set_option maxHeartbeats 1000000 in
theorem E0(b:Nat)(s p n g:Int)(v:V1)(s2 p2 n2 g2:Int)(v2:V1)(zW:Bool)(t2:Int)(A2:Nat→Int)(two:Bool)(so:Bool)(top c:Nat)(W:Nat→Nat)(ht:top<2^64)(hc:c<2^64)(hW: ∀j,W j<2^64):ax aiT 52 [.pointer (some ⟨b,5,none⟩),.int .u64 (c:Int)] [al b true (fj s p n g v (j5 so (top:Int) (cR W) (fj s2 p2 n2 g2 v2 (j5 zW t2 A2 [.bool two]))))]
  fun r hs=> ∃(nj:Bool) (t1:Nat) (W1:Nat→Nat),((ft so top W c=0∧nj=true∧t1=fw so top c∧W1=eO so top W c)∨(ft so top W c≠0∧nj=so∧t1=top∧W1=W))∧r= .int .i64 (ft so top W c:Nat)∧hs=[al b true (fj s p n g v (j5 nj (t1:Int) (cR W1) (fj s2 p2 n2 g2 v2 (j5 zW t2 A2 [.bool two]))))]:=by
 refine ax.post (p:=fun r hs=> ∃(nj:Bool) (t1:Nat) (W1:Nat→Nat) (y:List HP),((ft so top W c=0∧nj=true∧t1=fw so top c∧W1=eO so top W c)∨(ft so top W c≠0∧nj=so∧t1=top∧W1=W))∧r= .int .i64 (ft so top W c:Nat)∧hs=al b true (fj s p n g v (j5 nj (t1:Int) (cR W1) (fj s2 p2 n2 g2 v2 (j5 zW t2 A2 [.bool two]))))::y) ?_ ?_;rotate_left
 ·rintro r hs ⟨nj,t1,W1,y,h,rfl,rfl⟩;exact⟨_,bL.sub (List.Sublist.cons_cons _ (List.nil_sublist _)),nj,t1,W1,h,rfl,rfl⟩
 refine My _ s p n g (top:Int) s2 p2 n2 g2 t2 (c:Int) (cR W) A2 so zW two v v2 b ?_;unfold Ds;intro b1;refine⟨_,zf b s p n g v s2 p2 n2 g2 v2 zW t2 A2 two so top c W ht hc hW,?_⟩;rintro x hs ⟨rfl,rfl⟩;refine⟨(ft so top W c:Nat),rfl,rfl,fun h=>?_,fun h=>?_⟩
 ·exact⟨so,top,W,_,.inr ⟨fun h2=>h (by rw [h2];rfl),rfl,rfl,rfl⟩,rfl,rfl⟩
 have h0:ft so top W c=0:=by
  have:=ai4.1 h;omega
 rw [h0];refine⟨fun hs=>?_,fun hs=>?_⟩
 ·have AS:so=false:=by simpa using hs
  intro b2 b3 D4 l5 r4;obtain⟨m,hn⟩: ∃m,m=nP so top c:=⟨_,rfl⟩;have ng:m≤c:=by rw [hn];exact qQ so top c
  have AX:m=min (c - min c c) 1024:=by rw [hn];unfold nP o9;rw [AS];simp
  have OO:eO so top W c=u0 (cl W c m m) c:=by rw [hn];rfl
  refine⟨fun e=> ∃k:Nat,k≤m∧e.i=[((m - k:Nat):Int)]∧(∀j,j<16→(e.a.getD 0 fun _=>0) j=(cl W c m k j:Nat))∧∀j,j<16→(e.a.getD 1 fun _=>0) j=A2 j,fun e=>(e.i.getD 0 0).toNat,?_,?_⟩
  ·rw [AX];refine⟨_,_,_,(nT c c hc).symm,fun _ _=>rfl,fun _ _=>rfl,0,by omega,rfl,fun j _=>rfl,fun j _=>rfl⟩
  rintro x B2 B3 ⟨k,hk,hx,hA,hO⟩;simp only [ai5,and_true]at hx;subst hx;simp only [ah,aiS]at hA hO;refine⟨fun bX=>?_,fun jI=>?_⟩
  ·rw [u3 ng (by omega) hc,ma _ (by omega),iN,aiX]
   iterate 3 refine⟨by omega,fun _=>?_⟩
   refine⟨_,_,_,rfl,fun _ _=>rfl,fun _ _=>rfl,⟨k+1,by omega,?_,fun j hj=>?_,fun j hj=>?_⟩,?_⟩
   ·rw [show((m - k:Nat):Int) - 1=((m - (k+1):Nat):Int) by omega,qe (by omega)]
   ·simp only [ah];exact nR hA _ j hj
   ·simp only [ah,aiS];exact hO j hj
   ·rw [show((m - k:Nat):Int) - 1=((m - (k+1):Nat):Int) by omega,qe (by omega)];simp only [ah];omega
  have r9:k=m:=by omega
  subst r9;rw [ma c hc,iN c,aiX]
  iterate 3 refine⟨by omega,fun _=>?_⟩
  rw [show aj .u64 16 (au B2 (c%1024/64) (ak .bC .u64 (B2 (c%1024/64)) (ak .shl .u64 1 ((c%64:Nat):Int))))=aj .u64 16 (cR (eO so top W c))from(aP .u64 16 fun j hj=>nS (tK hW c _ _) hA c j hj).trans (by rw [OO];rfl)];rw [show aj .u64 16 B3=aj .u64 16 A2 from aP .u64 16 hO];rw [u2];exact⟨true,fw so top c,eO so top W c,_,.inl ⟨rfl,rfl,rfl,rfl⟩,rfl,by unfold fw o9;rw [AS];rfl⟩
 ·have AS:so=true:=ai4.1 hs;intro b2 b3 D4 l5 r4;obtain⟨m,hn⟩: ∃m,m=nP so top c:=⟨_,rfl⟩;have ng:m≤c:=by rw [hn];exact qQ so top c
  have AX:m=min (c - min c top) 1024:=by rw [hn];unfold nP o9;rw [AS];simp
  have OO:eO so top W c=u0 (cl W c m m) c:=by rw [hn];rfl
  refine⟨fun e=> ∃k:Nat,k≤m∧e.i=[((m - k:Nat):Int)]∧(∀j,j<16→(e.a.getD 0 fun _=>0) j=(cl W c m k j:Nat))∧∀j,j<16→(e.a.getD 1 fun _=>0) j=A2 j,fun e=>(e.i.getD 0 0).toNat,?_,?_⟩
  ·rw [AX];refine⟨_,_,_,(nT c top hc).symm,fun _ _=>rfl,fun _ _=>rfl,0,by omega,rfl,fun j _=>rfl,fun j _=>rfl⟩
  rintro x B2 B3 ⟨k,hk,hx,hA,hO⟩;simp only [ai5,and_true]at hx;subst hx;simp only [ah,aiS]at hA hO;refine⟨fun bX=>?_,fun jI=>?_⟩
  ·rw [u3 ng (by omega) hc,ma _ (by omega),iN,aiX]
   iterate 3 refine⟨by omega,fun _=>?_⟩
   refine⟨_,_,_,rfl,fun _ _=>rfl,fun _ _=>rfl,⟨k+1,by omega,?_,fun j hj=>?_,fun j hj=>?_⟩,?_⟩
   ·rw [show((m - k:Nat):Int) - 1=((m - (k+1):Nat):Int) by omega,qe (by omega)]
   ·simp only [ah];exact nR hA _ j hj
   ·simp only [ah,aiS];exact hO j hj
   ·rw [show((m - k:Nat):Int) - 1=((m - (k+1):Nat):Int) by omega,qe (by omega)];simp only [ah];omega
  have r9:k=m:=by omega
  subst r9;rw [ma c hc,iN c,aiX]
  iterate 3 refine⟨by omega,fun _=>?_⟩
  rw [show aj .u64 16 (au B2 (c%1024/64) (ak .bC .u64 (B2 (c%1024/64)) (ak .shl .u64 1 ((c%64:Nat):Int))))=aj .u64 16 (cR (eO so top W c))from(aP .u64 16 fun j hj=>nS (tK hW c _ _) hA c j hj).trans (by rw [OO];rfl)];rw [show aj .u64 16 B3=aj .u64 16 A2 from aP .u64 16 hO];rw [u2];exact⟨true,fw so top c,eO so top W c,_,.inl ⟨rfl,rfl,rfl,rfl⟩,rfl,by unfold fw o9;rw [AS];rfl⟩
theorem zg(b:Nat)(s p n g:Int)(v:V1)(s2 p2 n2 g2:Int)(v2:V1)(zW:Bool)(t2:Int)(A2:Nat→Int)(two:Bool)(so:Bool)(top c:Nat)(W:Nat→Nat)(ht:top<2^64)(hc:c<2^64)(hW: ∀j,W j<2^64):ax aiT 51 [.pointer (some ⟨b,28,none⟩),.int .u64 (c:Int)] [al b true (fj s2 p2 n2 g2 v2 (j5 zW t2 A2 (fj s p n g v (j5 so (top:Int) (cR W) [.bool two]))))] fun r hs=>r= .int .i64 (ft so top W c:Nat)∧hs=[al b true (fj s2 p2 n2 g2 v2 (j5 zW t2 A2 (fj s p n g v (j5 so (top:Int) (cR W) [.bool two]))))]:=by
 refine Qi _ s2 p2 n2 g2 t2 s p n g (top:Int) (c:Int) A2 (cR W) zW so two v2 v b ?_;unfold IE ft;refine⟨fun h=>⟨?_,rfl⟩,fun h=>?_⟩
 ·rw [if_pos (h.elim (fun h=> .inl (by simpa using h)) fun h=> .inr (by omega))];rfl
 have h': ¬(so=false∨top<c):=by
  rintro (h2 | h2)
  ·exact h (.inl (by simp [h2]))
  ·exact h (.inr (by omega))
 rw [if_neg h',show(top:Int) - (c:Int)=((top - c:Nat):Int) by omega,qe (by omega),ma c hc,iN c];refine⟨fun h2=>⟨?_,rfl⟩,fun h2=>?_⟩
 ·rw [if_pos (by omega)];rfl
 rw [if_neg (by omega)]
 iterate 3 refine⟨by omega,fun _=>?_⟩
 rw [aiX];have hb:=Fh.OC (W (c%1024/64)) (c%64) (hW _) (by omega);refine⟨fun h3=>⟨?_,rfl⟩,fun h3=>⟨?_,rfl⟩⟩
 ·rw [if_pos (by unfold bit;exact hb.1 h3)];rfl
 ·rw [if_neg (by unfold bit;exact fun h4=>h3 (hb.2 h4))];rfl
set_option maxHeartbeats 1000000 in
theorem E1(b:Nat)(s p n g:Int)(v:V1)(s2 p2 n2 g2:Int)(v2:V1)(zW:Bool)(t2:Int)(A2:Nat→Int)(two:Bool)(so:Bool)(top c:Nat)(W:Nat→Nat)(ht:top<2^64)(hc:c<2^64)(hW: ∀j,W j<2^64):ax aiT 52 [.pointer (some ⟨b,28,none⟩),.int .u64 (c:Int)] [al b true (fj s2 p2 n2 g2 v2 (j5 zW t2 A2 (fj s p n g v (j5 so (top:Int) (cR W) [.bool two]))))]
  fun r hs=> ∃(nj:Bool) (t1:Nat) (W1:Nat→Nat),((ft so top W c=0∧nj=true∧t1=fw so top c∧W1=eO so top W c)∨(ft so top W c≠0∧nj=so∧t1=top∧W1=W))∧r= .int .i64 (ft so top W c:Nat)∧hs=[al b true (fj s2 p2 n2 g2 v2 (j5 zW t2 A2 (fj s p n g v (j5 nj (t1:Int) (cR W1) [.bool two]))))]:=by
 refine ax.post (p:=fun r hs=> ∃(nj:Bool) (t1:Nat) (W1:Nat→Nat) (y:List HP),((ft so top W c=0∧nj=true∧t1=fw so top c∧W1=eO so top W c)∨(ft so top W c≠0∧nj=so∧t1=top∧W1=W))∧r= .int .i64 (ft so top W c:Nat)∧hs=al b true (fj s2 p2 n2 g2 v2 (j5 zW t2 A2 (fj s p n g v (j5 nj (t1:Int) (cR W1) [.bool two]))))::y) ?_ ?_;rotate_left
 ·rintro r hs ⟨nj,t1,W1,y,h,rfl,rfl⟩;exact⟨_,bL.sub (List.Sublist.cons_cons _ (List.nil_sublist _)),nj,t1,W1,h,rfl,rfl⟩
 refine Mz _ s2 p2 n2 g2 t2 s p n g (top:Int) (c:Int) A2 (cR W) zW so two v2 v b ?_;unfold Dt;intro b1;refine⟨_,zg b s p n g v s2 p2 n2 g2 v2 zW t2 A2 two so top c W ht hc hW,?_⟩;rintro x hs ⟨rfl,rfl⟩;refine⟨(ft so top W c:Nat),rfl,rfl,fun h=>?_,fun h=>?_⟩
 ·exact⟨so,top,W,_,.inr ⟨fun h2=>h (by rw [h2];rfl),rfl,rfl,rfl⟩,rfl,rfl⟩
 have h0:ft so top W c=0:=by
  have:=ai4.1 h;omega
 rw [h0];refine⟨fun hs=>?_,fun hs=>?_⟩
 ·have AS:so=false:=by simpa using hs
  intro b2 b3 D4 l5 r4;obtain⟨m,hn⟩: ∃m,m=nP so top c:=⟨_,rfl⟩;have ng:m≤c:=by rw [hn];exact qQ so top c
  have AX:m=min (c - min c c) 1024:=by rw [hn];unfold nP o9;rw [AS];simp
  have OO:eO so top W c=u0 (cl W c m m) c:=by rw [hn];rfl
  refine⟨fun e=> ∃k:Nat,k≤m∧e.i=[((m - k:Nat):Int)]∧(∀j,j<16→(e.a.getD 1 fun _=>0) j=(cl W c m k j:Nat))∧∀j,j<16→(e.a.getD 0 fun _=>0) j=A2 j,fun e=>(e.i.getD 0 0).toNat,?_,?_⟩
  ·rw [AX];refine⟨_,_,_,(nT c c hc).symm,fun _ _=>rfl,fun _ _=>rfl,0,by omega,rfl,fun j _=>rfl,fun j _=>rfl⟩
  rintro x B2 B3 ⟨k,hk,hx,hA,hO⟩;simp only [ai5,and_true]at hx;subst hx;simp only [ah,aiS]at hA hO;refine⟨fun bX=>?_,fun jI=>?_⟩
  ·rw [u3 ng (by omega) hc,ma _ (by omega),iN,aiX]
   iterate 3 refine⟨by omega,fun _=>?_⟩
   refine⟨_,_,_,rfl,fun _ _=>rfl,fun _ _=>rfl,⟨k+1,by omega,?_,fun j hj=>?_,fun j hj=>?_⟩,?_⟩
   ·rw [show((m - k:Nat):Int) - 1=((m - (k+1):Nat):Int) by omega,qe (by omega)]
   ·simp only [ah,aiS];exact nR hA _ j hj
   ·simp only [ah];exact hO j hj
   ·rw [show((m - k:Nat):Int) - 1=((m - (k+1):Nat):Int) by omega,qe (by omega)];simp only [ah];omega
  have r9:k=m:=by omega
  subst r9;rw [ma c hc,iN c,aiX]
  iterate 3 refine⟨by omega,fun _=>?_⟩
  rw [show aj .u64 16 (au B3 (c%1024/64) (ak .bC .u64 (B3 (c%1024/64)) (ak .shl .u64 1 ((c%64:Nat):Int))))=aj .u64 16 (cR (eO so top W c))from(aP .u64 16 fun j hj=>nS (tK hW c _ _) hA c j hj).trans (by rw [OO];rfl)];rw [show aj .u64 16 B2=aj .u64 16 A2 from aP .u64 16 hO];rw [u2];exact⟨true,fw so top c,eO so top W c,_,.inl ⟨rfl,rfl,rfl,rfl⟩,rfl,by unfold fw o9;rw [AS];rfl⟩
 ·have AS:so=true:=ai4.1 hs;intro b2 b3 D4 l5 r4;obtain⟨m,hn⟩: ∃m,m=nP so top c:=⟨_,rfl⟩;have ng:m≤c:=by rw [hn];exact qQ so top c
  have AX:m=min (c - min c top) 1024:=by rw [hn];unfold nP o9;rw [AS];simp
  have OO:eO so top W c=u0 (cl W c m m) c:=by rw [hn];rfl
  refine⟨fun e=> ∃k:Nat,k≤m∧e.i=[((m - k:Nat):Int)]∧(∀j,j<16→(e.a.getD 1 fun _=>0) j=(cl W c m k j:Nat))∧∀j,j<16→(e.a.getD 0 fun _=>0) j=A2 j,fun e=>(e.i.getD 0 0).toNat,?_,?_⟩
  ·rw [AX];refine⟨_,_,_,(nT c top hc).symm,fun _ _=>rfl,fun _ _=>rfl,0,by omega,rfl,fun j _=>rfl,fun j _=>rfl⟩
  rintro x B2 B3 ⟨k,hk,hx,hA,hO⟩;simp only [ai5,and_true]at hx;subst hx;simp only [ah,aiS]at hA hO;refine⟨fun bX=>?_,fun jI=>?_⟩
  ·rw [u3 ng (by omega) hc,ma _ (by omega),iN,aiX]
   iterate 3 refine⟨by omega,fun _=>?_⟩
   refine⟨_,_,_,rfl,fun _ _=>rfl,fun _ _=>rfl,⟨k+1,by omega,?_,fun j hj=>?_,fun j hj=>?_⟩,?_⟩
   ·rw [show((m - k:Nat):Int) - 1=((m - (k+1):Nat):Int) by omega,qe (by omega)]
   ·simp only [ah,aiS];exact nR hA _ j hj
   ·simp only [ah];exact hO j hj
   ·rw [show((m - k:Nat):Int) - 1=((m - (k+1):Nat):Int) by omega,qe (by omega)];simp only [ah];omega
  have r9:k=m:=by omega
  subst r9;rw [ma c hc,iN c,aiX]
  iterate 3 refine⟨by omega,fun _=>?_⟩
  rw [show aj .u64 16 (au B3 (c%1024/64) (ak .bC .u64 (B3 (c%1024/64)) (ak .shl .u64 1 ((c%64:Nat):Int))))=aj .u64 16 (cR (eO so top W c))from(aP .u64 16 fun j hj=>nS (tK hW c _ _) hA c j hj).trans (by rw [OO];rfl)];rw [show aj .u64 16 B2=aj .u64 16 A2 from aP .u64 16 hO];rw [u2];exact⟨true,fw so top c,eO so top W c,_,.inl ⟨rfl,rfl,rfl,rfl⟩,rfl,by unfold fw o9;rw [AS];rfl⟩
end Go.RX.Fw

namespace Go.RX.Fx
open Go Go.RX Go.RX.Fk
theorem bL.views{A B L:List HP}(hL: ∀h∈L,ar B h):bL (A++B) (A++L):=by
 intro w Fs ⟨S,hS⟩;have gA: ∀(i:Nat) x,A[i]? =some x→(A++B++Fs)[i]? =some x:=by
  intro i x hx;have hl:i<A.length:=(aiN.1 hx).1;rw [aiR (by simp;omega),aiR hl,hx]
 have gF: ∀(i:Nat) x,Fs[i]? =some x→(A++B++Fs)[A.length+B.length+i]? =some x:=by
  intro i x hx;rw [aiW (by simp),List.length_append,Nat.add_sub_cancel_left,hx]
 have gB: ∀(i:Nat),i<B.length→∃x,(A++B++Fs)[A.length+i]? =some x:=by
  intro i hi;refine⟨B[i],?_⟩;rw [aiR (by simp;omega),aiW (by omega),Nat.add_sub_cancel_left,ajk hi]
 have Yd:Sep B (fun i=>S (A.length+i)) w:=Sep.mid hS;have hc: ∀i:Nat,∃S':Nat→Prop,∀x,L[i]? =some x→x.p w S'∧∀k,S' k→∃j,j<B.length∧S (A.length+j) k:=by
  intro i;cases hi:L[i]? with
  | none=>exact⟨fun _=>False,fun x hx=>nomatch hx⟩
  | some y=>
   obtain⟨S',KE⟩:=(hL y (ajn hi)).2 w _ Yd;exact⟨S',fun x hx=>by cases hx;exact KE⟩
 obtain⟨S1,Ye⟩:=ajH hc;have rl: ∀(i:Nat) x,(A++L++Fs)[i]? =some x→(i<A.length∧A[i]? =some x)∨(A.length≤i∧i<A.length+L.length∧L[i - A.length]? =some x)∨(A.length+L.length≤i∧Fs[i - (A.length+L.length)]? =some x):=by
  intro i x hx;by_cases h1:i<A.length
  ·rw [aiR (by simp;omega),aiR h1]at hx;exact .inl ⟨h1,hx⟩
  ·by_cases h2:i<A.length+L.length
   ·rw [aiR (by simp;omega),aiW (by omega)]at hx;exact .inr (.inl ⟨by omega,h2,hx⟩)
   ·rw [aiW (by simp;omega),List.length_append]at hx;exact .inr (.inr ⟨by omega,hx⟩)
 refine⟨fun i k=>if i<A.length then S i k else if i<A.length+L.length then S1 (i - A.length) k else S (i - L.length+B.length) k,?_,?_⟩
 ·intro i x hx;rcases rl i x hx with⟨h1,h2⟩ | ⟨h1,h2,h3⟩ | ⟨h1,h2⟩
  ·simp only [if_pos h1];exact hS.at_ i x (gA i x h2)
  ·simp only [if_neg (ajG.2 h1),if_pos h2];obtain⟨hp,hk⟩:=Ye _ x h3;refine⟨hp,fun k ku=>?_⟩;obtain⟨j,hj,hs⟩:=hk k ku;obtain⟨y,hy⟩:=gB j hj;exact(hS.at_ _ y hy).2 k hs
  ·simp only [if_neg (show¬i<A.length by omega),if_neg (show¬i<A.length+L.length by omega)];have:=hS.at_ _ x (gF _ x h2)
   rwa [show A.length+B.length+(i - (A.length+L.length))=i - L.length+B.length by omega]at this
 ·have wrL: ∀(i:Nat) x,L[i]? =some x→x.wr=false:=fun i x hx=>(hL x (ajn hx)).1
  have half: ∀(i j:Nat) (x y:HP),i≠j→(A++L++Fs)[i]? =some x→(A++L++Fs)[j]? =some y→x.wr=true→∀k,(if i<A.length then S i k else if i<A.length+L.length then S1 (i - A.length) k else S (i - L.length+B.length) k)→¬(if j<A.length then S j k else if j<A.length+L.length then S1 (j - A.length) k else S (j - L.length+B.length) k):=by
   intro i j x y pR hx hy hw k hk ku;obtain⟨i',mv,Ta,hsi⟩: ∃i',(A++B++Fs)[i']? =some x∧S i' k∧((i<A.length∧i'=i)∨(A.length+L.length≤i∧i'=i - L.length+B.length)):=by
    rcases rl i x hx with⟨h1,h2⟩ | ⟨h1,h2,h3⟩ | ⟨h1,h2⟩
    ·rw [if_pos h1]at hk;exact⟨i,gA i x h2,hk,.inl ⟨h1,rfl⟩⟩
    ·rw [wrL _ x h3]at hw;cases hw
    ·rw [if_neg (show¬i<A.length by omega),if_neg (show¬i<A.length+L.length by omega)]at hk;have:=gF _ x h2;rw [show A.length+B.length+(i - (A.length+L.length))=i - L.length+B.length by omega]at this;exact⟨_,this,hk,.inr ⟨h1,rfl⟩⟩
   rcases rl j y hy with⟨h1,h2⟩ | ⟨h1,h2,h3⟩ | ⟨h1,h2⟩
   ·rw [if_pos h1]at ku;exact hS.apart i' j x y (by omega) mv (gA j y h2) (.inl hw) k Ta ku
   ·rw [if_neg (show¬j<A.length by omega),if_pos h2]at ku;obtain⟨m,hm,hs⟩:=(Ye _ y h3).2 k ku;obtain⟨z,hz⟩:=gB m hm;exact hS.apart i' (A.length+m) x z (by omega) mv hz (.inl hw) k Ta hs
   ·rw [if_neg (show¬j<A.length by omega),if_neg (show¬j<A.length+L.length by omega)]at ku;have:=gF _ y h2;rw [show A.length+B.length+(j - (A.length+L.length))=j - L.length+B.length by omega]at this;exact hS.apart i' _ x y (by omega) mv this (.inl hw) k Ta ku
  intro i j x y pR hx hy hw k hk ku;rcases hw with hw | hw
  ·exact half i j x y pR hx hy hw k hk ku
  ·exact half j i y x (Ne.symm pR) hy hx hw k ku hk
def flock(l:List HP):HP where
 wr:=false
 p w S:= ∀h∈l,∃S':Nat→Prop,h.p w S'∧∀k,S' k→S k
 fy w w' S hp hk h hm:=by
  obtain⟨S',h1,h2⟩:=hp h hm;exact⟨S',h.fy w w' S' h1 fun k hs=>hk k (h2 k hs),h2⟩
theorem mN{B l:List HP}(h: ∀x∈l,ar B x):ar B (flock l):=by
 refine⟨rfl,fun w S hS=>⟨fun k=> ∃i,i<B.length∧S i k,fun x hx=>?_,fun k hk=>hk⟩⟩;obtain⟨S',h1,h2⟩:=(h x hx).2 w S hS;exact⟨S',h1,h2⟩
theorem zh{l:List HP}{x:HP}(hx:x∈l)(hw:x.wr=false):ar [flock l] x:=by
 refine⟨hw,fun w S hS=>?_⟩;obtain⟨S',h1,h2⟩:=(hS.at_ 0 _ rfl).1 x hx;exact⟨S',h1,fun k hk=>⟨0,by simp,h2 k hk⟩⟩
theorem Lz(a:List HP):bL a (a++[flock []]):=by
 have e:=bL.views (A:=a) (B:=[]) (L:=[flock []]) (iB (mN fun _ h=>(nomatch h)))
 rwa [List.append_nil]at e
open Go.RX
def bB(f:Nat):Option aL:=
 match f with
 | 81=>some Fw.y8
 | f=>Fq.bB f
def OP(f:Nat):Option aL:=Fq.bB f
def loops(_ _:Nat):Option dO:=none
open Go.RX Go.Proofs Go.RX.Fe Go.RX.Fg
noncomputable def cx:Ctx:={T:=TT,FT:=FT,loops:=Fx.loops,bB:=Fx.bB}
set_option maxRecDepth 100000
noncomputable def cxB:Ctx:={T:=TT,FT:=FT,loops:=Fx.loops,bB:=Fx.OP}
def tE(ao:PT)(x0 x1 x2 x3 x4:Int)(A0:Nat→Int)(v0:V1):Prop:=
 ∀b0 b1:Nat,Cl 81 [.int .u16 x0,v0.v] [bi v0 x4 A0] fun x hs l=> ∃(v1:V1) (x5 x6:Int) (A1:Nat→Int),x= .tuple #[v1.v,.int .i64 x6]∧hs=l++[bo v1 x5 A1]∧
 ao (.agg #[.int .u16 x0,.int .u64 x1,.int .i64 x2,.int .u64 (ae .u64 (x3+1)),v1.v]) [bi v0 x4 A0,al b0 true ([.int .u16 x0,.int .u64 x1,.int .i64 x2,.int .u64 (ae .u64 (x3+1)),v1.v]),al b1 true ([.int .u16 x0,.int .u64 x1,.int .i64 x2,.int .u64 (ae .u64 (x3+1)),v1.v]),bo v1 x5 A1]
theorem RY(ao:PT)(x0 x1 x2 x3 x4:Int)(A0:Nat→Int)(v0:V1)(h:tE ao x0 x1 x2 x3 x4 A0 v0):gq 46 [.agg [.int .u16 (.var 0),.int .u64 (.var 1),.int .i64 (.var 2),.int .u64 (.var 3),.vv 0]] [.bK false 0 5 1 (.var 4) [⟨.int .u8,1,.aN 0⟩]] ⟨[x0,x1,x2,x3,x4],[A0],[],[],[v0],[],[],[]⟩ ao:=
 Gr (C:=Fx.cx) _ _ ⟨0,1,5,1,0,0,0⟩ _ Tryz.func46 (by kernel_rfl) h
def Bs(ao:PT)(x0 x1:Int)(A0:Nat→Int)(v0:V1):Prop:=
 Cl 105 [.int .u16 x0,v0.v] [bi v0 x1 A0] fun x hs l=> ∃(v1:V1) (x2 x3 x4 x5 x6 x7 x8:Int) (A1:Nat→Int),x= .tuple #[.agg #[.int .u8 x2,.int .i64 x3,.int .i64 x4,.int .i64 x5,.int .i64 x6],v1.v,.int .i64 x7]∧hs=l++[bo v1 x8 A1]∧
 ∀b0:Nat,aJ (¬(x7=0)) (
 ao (.tuple #[.slice none 0 0,.int .i64 x7]) [al b0 true ([.int .u8 x2,.int .i64 x3,.int .i64 x4,.int .i64 x5,.int .i64 x6])]) (
 ∀b1:Nat,Cl 106 [.int .u8 x2,v1.v,.slice (some ⟨b1,0,none⟩) 18 18,.int .i64 x6] [bo v1 x8 A1,al b1 false ([.int .u8 83,.int .u8 70,.int .u8 114,.int .u8 97,.int .u8 109,.int .u8 101,.int .u8 32,.int .u8 49,.int .u8 46,.int .u8 48,.int .u8 32,.int .u8 82,.int .u8 97,.int .u8 116,.int .u8 99,.int .u8 104,.int .u8 101,.int .u8 116])] fun x hs l=> ∃(v2:V1) (x9:Int) (A2:Nat→Int),x= .tuple #[v2.v,.int .i64 0]∧hs=l++[bo v2 x9 A2]∧
 ao (.tuple #[v2.v,.int .i64 0]) [bo v2 x9 A2])
theorem LA(ao:PT)(x0 x1:Int)(A0:Nat→Int)(v0:V1)(h:Bs ao x0 x1 A0 v0):gq 81 [.int .u16 (.var 0),.vv 0] [.bK false 0 5 1 (.var 1) [⟨.int .u8,1,.aN 0⟩]] ⟨[x0,x1],[A0],[],[],[v0],[],[],[]⟩ ao:=
 qX (C:=Fx.cxB) _ _ ⟨0,1,2,1,0,0,0⟩ _ 0 1 Tryz.func81 (by kernel_rfl) h
end Go.RX.Fx

namespace Go.RX.Fq
open Go.RX Go.Proofs
noncomputable def cx:Ctx:={T:=TT,FT:=FT,loops:=Fq.loops,bB:=Fq.bB,calls:=Fq.calls}
end Go.RX.Fq
