/- Executor. -/
import Derived.Test.YtllcdnkfbeokhaaGreatM24
import Derived.OpenShut
open Go.Proofs.Tryz renaming prog → auN
open Int renaming toNat → ag
open List renaming append → aul, getElem?_append_left → auu, getElem?_append_right → auv, getElem?_eq_getElem → auU, getElem?_eq_none → au0, getElem?_eq_some_iff → aup, mem_append → auE, mem_of_getElem? → auM
open Nat renaming lt_of_lt_of_le → auB, not_lt → au6
open Option renaming map_eq_some_iff → aus
namespace Go.RX
def bc(B:List HP)(h:HP):Prop:=h.wr=false∧∀(w:World) (S:Nat→Nat→Prop),Sep B S w→∃S':Nat→Prop,h.p w S'∧∀k,S' k→∃i,i<B.length∧S i k
theorem Sep.mid{A B C:List HP}{S:Nat→Nat→Prop}{w:World}(h:Sep (A++B++C) S w):Sep B (fun i=>S (A.length+i)) w:=by
 have key: ∀(i:Nat) x,B[i]? =some x→(A++B++C)[A.length+i]? =some x:=by
  intro i x hx;have hl:i<B.length:=(aup.1 hx).1;rw [auu (by simp;omega),auv (by omega),Nat.add_sub_cancel_left,hx]
 exact⟨fun i x hx=>h.at_ _ x (key i x hx),fun i j x y nR hx hy hw=>h.apart _ _ x y (by omega) (key i x hx) (key j y hy) hw⟩
def qn(w0:World)(U:Nat→Prop):HP where
 wr:=false
 p w T:=(∀k,T k↔U k)∧∀k,U k→w.heap[k]? =w0.heap[k]?
 fh _ _ _ h hk:=⟨h.1,fun k hu=>(hk k ((h.1 k).2 hu)).trans (h.2 k hu)⟩
theorem aq.Co{P:Program}{f:Nat}{args:List Value}{A B L:List HP}{Q:Value→List HP→Prop}(hm:aq P f args (A++L) Q)(hQ: ∀v hs,Q v hs→∀h∈hs,h.wr=true)(hL: ∀h∈L,bc B h):
  aq P f args (A++B) fun v hs=> ∃yS,Q v yS∧hs=yS++B:=by
 intro w Fs ⟨S,hS⟩;have gA: ∀(i:Nat) x,A[i]? =some x→(A++B++Fs)[i]? =some x:=by
  intro i x hx;have hl:i<A.length:=(aup.1 hx).1;rw [auu (by simp;omega),auu hl,hx]
 have gB: ∀(i:Nat) x,B[i]? =some x→(A++B++Fs)[A.length+i]? =some x:=by
  intro i x hx;have hl:i<B.length:=(aup.1 hx).1;rw [auu (by simp;omega),auv (by omega),Nat.add_sub_cancel_left,hx]
 have gR: ∀(i:Nat) x,(B++Fs)[i]? =some x→(A++B++Fs)[A.length+i]? =some x:=by
  intro i x hx;rw [List.append_assoc,auv (by omega),Nat.add_sub_cancel_left,hx]
 have hSB:Sep B (fun i=>S (A.length+i)) w:=Sep.mid hS
 let U:Nat→Prop:=fun k=>k<w.heap.size∧∀i x,A[i]? =some x→x.wr=true→¬S i k
 have hc: ∀i:Nat,∃S':Nat→Prop,∀x,L[i]? =some x→x.p w S'∧∀k,S' k→∃j,j<B.length∧S (A.length+j) k:=by
  intro i;cases hi:L[i]? with
  | none=>exact⟨fun _=>False,fun x hx=>nomatch hx⟩
  | some y=>
   obtain⟨S',MI⟩:=(hL y (auM hi)).2 w _ hSB;exact⟨S',fun x hx=>by cases hx;exact MI⟩
 obtain⟨S1,hS1⟩:=Classical.axiomOfChoice hc;have wrL: ∀(i:Nat) x,L[i]? =some x→x.wr=false:=fun i x hx=>(hL x (auM hx)).1
 have o1:bz (A++L++[qn w U]) w:=by
  have jI: ∀(i:Nat) x,(A++L++[qn w U])[i]? =some x→(i<A.length∧A[i]? =some x)∨(A.length≤i∧i<A.length+L.length∧L[i - A.length]? =some x)∨(i=A.length+L.length∧x=qn w U):=by
   intro i x hx;by_cases h1:i<A.length
   ·rw [auu (by simp;omega),auu h1]at hx;exact .inl ⟨h1,hx⟩
   ·by_cases h2:i<A.length+L.length
    ·rw [auu (by simp;omega),auv (by omega)]at hx;exact .inr (.inl ⟨by omega,h2,hx⟩)
    ·rw [auv (by simp;omega)]at hx;have:i - (A++L).length=0:=by
      rcases Nat.eq_zero_or_pos (i - (A++L).length)with h | h
      ·exact h
      ·rw [au0 (by simp at h ⊢;omega)]at hx;cases hx
     rw [this]at hx;cases hx;simp at this;exact .inr (.inr ⟨by omega,rfl⟩)
  refine⟨fun i=>if i<A.length then S i else if i<A.length+L.length then S1 (i - A.length)else U,⟨?_,?_⟩⟩
  ·intro i x hx;rcases jI i x hx with⟨h,hx⟩ | ⟨h,h',hx⟩ | ⟨h,rfl⟩
   ·simp only [if_pos h];exact hS.at_ i x (gA i x hx)
   ·simp only [if_neg (au6.2 h),if_pos h'];obtain⟨hp,hs⟩:=hS1 _ x hx;refine⟨hp,fun k hk=>?_⟩;obtain⟨j,hj,UX⟩:=hs k hk;exact(hS.at_ _ _ (gB j _ (auU hj))).2 k UX
   ·subst h;simp only [if_neg (show¬A.length+L.length<A.length by omega),if_neg (Nat.lt_irrefl _)];exact⟨⟨fun _=>Iff.rfl,fun _ _=>rfl⟩,fun k hk=>hk.1⟩
  ·have half: ∀i j x y,i≠j→(A++L++[qn w U])[i]? =some x→(A++L++[qn w U])[j]? =some y→x.wr=true→∀k,(if i<A.length then S i else if i<A.length+L.length then S1 (i - A.length)else U) k→¬(if j<A.length then S j else if j<A.length+L.length then S1 (j - A.length)else U) k:=by
    intro i j x y nR hx hy hw k;rcases jI i x hx with⟨h,hx⟩ | ⟨h,h',hx⟩ | ⟨h,rfl⟩
    ·simp only [if_pos h];rcases jI j y hy with⟨g,hy⟩ | ⟨g,g',hy⟩ | ⟨g,rfl⟩
     ·simp only [if_pos g];exact hS.apart i j x y nR (gA i x hx) (gA j y hy) (.inl hw) k
     ·simp only [if_neg (au6.2 g),if_pos g'];intro hk kY;obtain⟨m,hm,UX⟩:=(hS1 _ y hy).2 k kY;exact hS.apart i (A.length+m) x _ (by omega) (gA i x hx) (gB m _ (auU hm)) (.inl hw) k hk UX
     ·subst g;simp only [if_neg (show¬A.length+L.length<A.length by omega),if_neg (Nat.lt_irrefl _)];exact fun hk hu=>hu.2 i x hx hw hk
    ·rw [wrL _ x hx]at hw;cases hw
    ·cases hw
   intro i j x y nR hx hy hw k hk kY;rcases hw with hw | hw
   ·exact half i j x y nR hx hy hw k hk kY
   ·exact half j i y x (Ne.symm nR) hy hx hw k kY hk
 refine(hm w _ o1).mono ?_;rintro e w' ⟨v,hs,rfl,hq,⟨S2,hS2⟩,uu⟩;refine⟨v,hs++B,rfl,⟨hs,hq,rfl⟩,?_,uu⟩;have hK:=hS2.at_ hs.length (qn w U) (by simp);have wr2:=hQ v hs hq;have g2: ∀(i:Nat) x,hs[i]? =some x→(hs++[qn w U])[i]? =some x:=fun i x hx=>by
  rw [auu (aup.1 hx).1,hx]
 have inU: ∀(j:Nat) y,(B++Fs)[j]? =some y→∀k,S (A.length+j) k→U k:=by
  intro j y hy k hk;refine⟨(hS.at_ _ y (gR j y hy)).2 k hk,fun i x hx hw kY=>?_⟩;have hl:i<A.length:=(aup.1 hx).1;exact hS.apart i (A.length+j) x y (by omega) (gA i x hx) (gR j y hy) (.inl hw) k kY hk
 have jI: ∀(i:Nat) x,(hs++B++Fs)[i]? =some x→(i<hs.length∧hs[i]? =some x)∨(hs.length≤i∧(B++Fs)[i - hs.length]? =some x):=by
  intro i x hx;rw [List.append_assoc]at hx;by_cases h1:i<hs.length
  ·rw [auu h1]at hx;exact .inl ⟨h1,hx⟩
  ·rw [auv (by omega)]at hx;exact .inr ⟨by omega,hx⟩
 refine⟨fun i=>if i<hs.length then S2 i else S (A.length+(i - hs.length)),⟨?_,?_⟩⟩
 ·intro i x hx;rcases jI i x hx with⟨h,hx⟩ | ⟨h,hx⟩
  ·simp only [if_pos h];exact hS2.at_ i x (g2 i x hx)
  ·simp only [if_neg (au6.2 h)];obtain⟨hp,hb⟩:=hS.at_ _ x (gR _ x hx);refine⟨x.fh _ _ _ hp fun k hk=>?_,fun k hk=>auB (hb k hk) uu.size⟩;exact hK.1.2 k (inU _ x hx k hk)
 ·have half: ∀i j x y,i≠j→(hs++B++Fs)[i]? =some x→(hs++B++Fs)[j]? =some y→x.wr=true→∀k,(if i<hs.length then S2 i else S (A.length+(i - hs.length))) k→¬(if j<hs.length then S2 j else S (A.length+(j - hs.length))) k:=by
   intro i j x y nR hx hy hw k;rcases jI i x hx with⟨h,hx⟩ | ⟨h,hx⟩
   ·simp only [if_pos h];rcases jI j y hy with⟨g,hy⟩ | ⟨g,hy⟩
    ·simp only [if_pos g];exact hS2.apart i j x y nR (g2 i x hx) (g2 j y hy) (.inl hw) k
    ·simp only [if_neg (au6.2 g)];intro hk kY;exact hS2.apart i hs.length x (qn w U) (by omega) (g2 i x hx) (by simp) (.inl hw) k hk ((hK.1.1 k).2 (inU _ y hy k kY))
   ·simp only [if_neg (au6.2 h)];rcases jI j y hy with⟨g,hy⟩ | ⟨g,hy⟩
    ·simp only [if_pos g];intro hk kY;exact hS2.apart j hs.length y (qn w U) (by omega) (g2 j y hy) (by simp) (.inl (wr2 y (auM hy))) k kY ((hK.1.1 k).2 (inU _ x hx k hk))
    ·simp only [if_neg (au6.2 g)];exact hS.apart _ _ x y (by omega) (gR _ x hx) (gR _ y hy) (.inl hw) k
  intro i j x y nR hx hy hw k hk kY;rcases hw with hw | hw
  ·exact half i j x y nR hx hy hw k hk kY
  ·exact half j i y x (Ne.symm nR) hy hx hw k kY hk
theorem bc.own{t s n:Nat}{v:Value}{cs:List Value}:bc [aB true t s v n cs] (aB false t s v n cs):=by
 refine⟨rfl,fun w S h=>?_⟩;exact⟨_,Az (h.at_ 0 _ rfl).1,fun k hk=>⟨0,by simp,hk.1⟩⟩
theorem bc.self{h:HP}(hw:h.wr=false):bc [h] h:=⟨hw,fun _ _ hS=>⟨_,(hS.at_ 0 _ rfl).1,fun _ hk=>⟨0,by simp,hk⟩⟩⟩
theorem bc.mid{A B C:List HP}{h:HP}(hb:bc B h):bc (A++B++C) h:=by
 refine⟨hb.1,fun w S hS=>?_⟩;obtain⟨S',hp,hs⟩:=hb.2 w _ (Sep.mid hS);refine⟨S',hp,fun k hk=>?_⟩;obtain⟨i,hi,hk⟩:=hs k hk;exact⟨A.length+i,by simp;omega,hk⟩
theorem bc.left{B C:List HP}{h:HP}(hb:bc B h):bc (B++C) h:=bc.mid (A:=[]) hb
theorem bc.right{A B:List HP}{h:HP}(hb:bc B h):bc (A++B) h:=by
 have:=bc.mid (A:=A) (C:=[]) hb
 rwa [List.append_nil]at this
theorem bc.map{B:List HP}{h h':HP}(hb:bc B h)(hw:h'.wr=false)(hp: ∀w S,h.p w S→∃S':Nat→Prop,h'.p w S'∧∀k,S' k→S k):bc B h':=by
 refine⟨hw,fun w S hS=>?_⟩;obtain⟨S1,h1,h2⟩:=hb.2 w S hS;obtain⟨S2,h3,h4⟩:=hp w S1 h1;exact⟨S2,h3,fun k hk=>h2 k (h4 k hk)⟩
theorem Gk{w:World}{t s n lo hi:Nat}{mx:Option Nat}{v:Value}{cs:List Value}{S:Nat→Prop}(h:(aB false t s v n cs).p w S)(h1:lo≤hi)(h2:hi≤n)(h3: ∀m,mx=some m→hi≤m):
  ∃S':Nat→Prop,(aB false t s (aF s v lo hi mx) (hi - lo) ((cs.drop (lo*s)).take ((hi - lo)*s))).p w S'∧∀k,S' k→S k:=by
 obtain⟨h0,hS⟩:=h;simp only [Bool.false_eq_true,if_false]at h0;obtain⟨hlen,a,m,c,rfl,rfl,Us,hn,hv⟩:=h0;refine⟨fun k=>(aF s (.slice a m c) lo hi mx).ownBlock=some k∧0<hi - lo,⟨?_,fun k=>by simp⟩,?_⟩
 ·simp only [Bool.false_eq_true,if_false];have hm3:(hi - lo)*s=hi*s - lo*s:=by rw [Nat.sub_mul]
  have hm1:hi*s≤m*s:=Nat.mul_le_mul_right s h2;have hm2:lo*s≤hi*s:=Nat.mul_le_mul_right s h1;refine⟨by rw [List.length_take,List.length_drop,hlen];omega,_,_,_,rfl,rfl,?_,?_,?_⟩
  ·cases mx with
   | none=>simp;omega
   | some x=>have:=h3 x rfl;simp;omega
  ·intro he;split at he
   ·have:=hn he;omega
   ·rw [Option.map_eq_none_iff]at he;have:=hn he;omega
  ·intro ad he;by_cases M6:lo=hi
   ·subst M6;refine⟨by omega,?_⟩;simp
   ·have cF:mx.getD c≠lo:=by
     cases mx with
     | none=>simp;omega
     | some x=>have:=h3 x rfl;simp;omega
    rw [if_neg cF,aus]at he;obtain⟨ad0,rfl,rfl⟩:=he;obtain⟨g1,g2⟩:=hv ad0 rfl;refine⟨fun _=>?_,fun j u hu=>?_⟩
    ·have:=g1 (by omega);unfold Addr.add;split
     ·exact this
     ·rfl
    ·rw [List.getElem?_take]at hu;split at hu
     ·rw [List.getElem?_drop]at hu;have:=g2 _ _ hu;rw [←this,dM]
     ·cases hu
 ·rintro k ⟨hk,t_⟩;refine(hS k).2 ⟨?_,.inr (by omega)⟩;unfold aF at hk;simp only [Value.ownBlock]at hk ⊢;cases a with
  | none=>have:=hn rfl;omega
  | some ad=>
   have hb:(ad.add (lo*s)).block=ad.block:=by unfold Addr.add;split<;>rfl
   by_cases hc:mx.getD c=lo
   ·rw [if_pos hc]at hk;exact hk
   ·rw [if_neg hc]at hk;simp only [Option.map_some,hb]at hk;exact hk
theorem bc.sub{B:List HP}{t s n lo hi:Nat}{mx:Option Nat}{v:Value}{cs:List Value}(hb:bc B (aB false t s v n cs))(h1:lo≤hi)(h2:hi≤n)(h3: ∀m,mx=some m→hi≤m):
  bc B (aB false t s (aF s v lo hi mx) (hi - lo) ((cs.drop (lo*s)).take ((hi - lo)*s))):=hb.map rfl fun _ _ h=>Gk h h1 h2 h3
theorem bc.row{b t lo n m:Nat}{wr:Bool}{cs:List Value}(h1:lo+n≤cs.length)(h2:n≤m):
  bc [ak b wr cs] (aB false t 1 (.slice (some ⟨b,lo,none⟩) n m) n ((cs.drop lo).take n)):=by
 refine⟨rfl,fun w S h=>?_⟩;obtain⟨⟨hs,ty,fz,hb,_⟩,_⟩:=h.at_ 0 _ rfl;refine⟨fun k=>k=b∧0<n,⟨?_,fun k=>?_⟩,fun k hk=>⟨0,by simp,(hs k).2 hk.1⟩⟩
 ·simp only [Bool.false_eq_true,if_false];refine⟨by rw [List.length_take,List.length_drop];omega,_,_,_,rfl,rfl,h2,by simp,?_⟩;intro ad he;cases he;refine⟨fun _=>rfl,fun j u hu=>?_⟩;rw [List.getElem?_take]at hu;split at hu
  ·rw [List.getElem?_drop]at hu;have hx:=hu;have hA:(⟨b,lo,none⟩:Addr).add j=⟨b,lo+j,none⟩:=by
    unfold Addr.add;by_cases h0:j=0
    ·rw [if_pos h0,h0];rfl
    ·rw [if_neg h0]
   rw [hA];simp only [World.cell?,hb];simpa using hx
  ·cases hu
 ·simp [Value.ownBlock,eq_comm]
def ends(k m:Nat)(hs:List HP):List HP:=hs.take k++(hs.drop k).drop ((hs.drop k).length - m)
theorem Qq(k m:Nat)(hs:List HP):(ends k m hs).Sublist hs:=by
 unfold ends
 conv=>rhs;rw [←List.take_append_drop k hs]
 exact List.Sublist.append (List.Sublist.refl _) (List.drop_sublist _ _)
theorem bc.nil{B:List HP}{t s:Nat}:bc B (aB false t s (.slice none 0 0) 0 []):=by
 refine⟨rfl,fun w S _=>⟨fun _=>False,⟨?_,fun k=>by simp⟩,fun _ h=>h.elim⟩⟩;simp only [Bool.false_eq_true,if_false];refine⟨by simp,none,0,0,rfl,rfl,Nat.le_refl _,fun _=>rfl,?_⟩;intro ad h;cases h
theorem aq.XM{P:Program}{f:Nat}{args:List Value}{A B L:List HP}{Q:Value→List HP→Prop}(hm:aq P f args (A++L) fun v hs=> ∃nw,Q v nw∧hs=A++nw)(hA: ∀h∈A,h.wr=true)(hQ: ∀v nw,Q v nw→∀h∈nw,h.wr=true)(hL: ∀h∈L,bc B h):
  aq P f args (A++B) fun v hs=> ∃nw,Q v nw∧hs=A++B++nw:=by
 refine aq.post (aq.Co hm ?_ hL) ?_
 ·rintro v hs ⟨nw,hq,rfl⟩ h hh;rcases auE.1 hh with hh | hh
  ·exact hA h hh
  ·exact hQ v nw hq h hh
 ·rintro v hs ⟨yS,⟨nw,hq,rfl⟩,rfl⟩;refine⟨A++B++nw,bI.perm ?_,nw,hq,rfl⟩;rw [List.append_assoc,List.append_assoc];exact List.Perm.append_left A List.perm_append_comm
open Go.Proofs
section
variable {C:Ctx} {f:Nat} {fd:Func} (args:List SV) (hp:List Ck) (a_:cG) (ρ:Env) {al:Value→List HP→Prop} {s:Prop}
theorem mtB(hf:Tryz.prog.funcs[f]? =some fd)(hv:VC auN (fun v _=>al v []) (nZ C f args hp a_ fd) ρ (fun _=>LC.none)=s)(h:s)(hT:bB auN C.T=true:=by exact YW)(B5:aJ auN C.FT:=by exact I0)(hl:iG ρ a_:=by constructor<;>rfl)
  (D2:gW auN C:=by exact gW.none rfl):aq auN f (SV.bH ρ args) (hp.map (Ck.den ρ)) al:=
 aq.post (aq.sQ (C:=C) hT B5 YX hf hl rfl hv h D2) fun _ hs hq=>⟨_,bI.sub (List.nil_sublist hs),hq⟩
theorem mtE(k m:Nat)(hf:Tryz.prog.funcs[f]? =some fd)(hv:VC auN (fun v hs=>al v (ends k m hs)) (nZ C f args hp a_ fd) ρ (fun _=>LC.none)=s)(h:s)(hT:bB auN C.T=true:=by exact YW)(B5:aJ auN C.FT:=by exact I0)(hl:iG ρ a_:=by constructor<;>rfl)
  (D2:gW auN C:=by exact gW.none rfl):aq auN f (SV.bH ρ args) (hp.map (Ck.den ρ)) al:=
 aq.post (aq.sQ (C:=C) hT B5 YX hf hl rfl hv h D2) fun _ hs hq=>⟨_,bI.sub (Qq k m hs),hq⟩
theorem s8(k:Nat)(hf:Tryz.prog.funcs[f]? =some fd)(hv:VC auN (fun v hs=>al v (hs.take k)) (nZ C f args hp a_ fd) ρ (fun _=>LC.none)=s)(h:s)(hT:bB auN C.T=true:=by exact YW)(B5:aJ auN C.FT:=by exact I0)(hl:iG ρ a_:=by constructor<;>rfl)
  (D2:gW auN C:=by exact gW.none rfl):aq auN f (SV.bH ρ args) (hp.map (Ck.den ρ)) al:=
 aq.post (aq.sQ (C:=C) hT B5 YX hf hl rfl hv h D2) fun _ hs hq=>⟨_,bI.sub (List.take_sublist k hs),hq⟩
theorem yM(hf:Tryz.prog.funcs[f]? =some fd)(hv:VC auN al (nZ C f args hp a_ fd) ρ (fun _=>LC.none)=s)(h:s)(hT:bB auN C.T=true:=by exact YW)(B5:aJ auN C.FT:=by exact I0)(hl:iG ρ a_:=by constructor<;>rfl)
  (D2:gW auN C:=by exact gW.none rfl):aq auN f (SV.bH ρ args) (hp.map (Ck.den ρ)) al:=
 aq.sQ (C:=C) hT B5 YX hf hl rfl hv h D2
end
abbrev bo(v:V1)(n:Int)(A:Nat→Int):HP:=aB true 5 1 v.v n.toNat (aM n.toNat [ay .u8 1 A])
abbrev bi(v:V1)(n:Int)(A:Nat→Int):HP:=aB false 5 1 v.v n.toNat (aM n.toNat [ay .u8 1 A])
abbrev bn(md:Bool)(v:V1)(n:Nat)(A:Nat→Int):HP:=aB md 5 1 v.v n (aM n [ay .u8 1 A])
abbrev PT:=Value→List HP→Prop
abbrev Cl(f:Nat)(a:List Value)(L:List HP)(K:Value→List HP→List HP→Prop):Prop:= ∃post,aq auN f a L post∧∀x hs,post x hs→K x hs L
abbrev gS(x:Int)(p:Prop):Prop:=ax (-9223372036854775808≤x) (ax (x≤9223372036854775807) p)
abbrev lp(x:Int)(p:Prop):Prop:=ax (x≤140737488355328) p
def XO(P:Program)(g:TypeId→Option (List (Option IntKind))):List Field→Nat→Option (List (Option IntKind))
 | [],_=>some []
 | f::r,off=>match g f.type,XO P g r (off+P.cellsOf f.type)with
  | some ks,some l=>if f.offset=off∧P.cellsOf f.type=ks.length then some (ks++l)else none
  | _,_=>none
def flat(P:Program):Nat→TypeId→Option (List (Option IntKind))
 | 0,_=>none
 | n+1,t=>match P.underlying t with
  | some (.int k)=>some [some k]
  | some .bool=>some [none]
  | some (.struct fs)=>XO P (flat P n) fs.toList 0
  | _=>none
section
variable {H:Type} {enc:TypeId×Value→H} {P:Program} {w:World} {base:Nat} {spare:Nat→Bool} {held:Bool}
end
section
variable {H:Type} {enc:TypeId×Value→H} {P:Program} {w:World} {base:Nat} {spare:Nat→Bool} {held:Bool}
end
abbrev Qr(l:List (Nat→List Value))(i:Nat):List Value:=l.flatMap fun c=>c i
end Go.RX

namespace Go.RX.Vb
open Go.RX
def u8(i:Nat):SV:= .int .u8 (.var i)
def u32(i:Nat):SV:= .int .u32 (.var i)
def u64(i:Nat):SV:= .int .u64 (.var i)
def wH(a:Nat):List bP:=[⟨.int .u8,1,.cU a⟩]
def Qs:List Ck:=[.row 0 true [.bool (.lit true),.vv 0,.bool (.lit false)],.cC true 0 5 1 (.var 0) (wH 0)]
def UY:List Ck:=[.row 0 true [.bool (.lit false),.vv 0,.bool (.lit false)],.cC false 0 5 1 (.var 0) (wH 0)]
def KM:List Ck:=[.row 0 true [.bool (.lit false),.vv 0,.bool (.lit true)]]
def AA:cG:={b:=1,v:=1,i:=2,a:=1}
def D5(k:Nat):List SV:=[.ptr 0 0,u64 1,.int .i64 (.lit k)]
def XP:List SV:=[.ptr 0 0,.int .i64 (.var 1)]
end Go.RX.Vb

namespace Go.RX.Vc
open Go.RX Go.RX.Vb
def rS(b:Nat):Ck→Bool
 | .row b' .. =>b'==b
 | _=>false
def jB(v:Nat):Ck→Bool
 | .cC _ v' .. =>v'==v
 | _=>false
def M7(b:Nat)(hp:List Ck):List Nat:=
 match hp.findIdx? (rS b)with
 | some i=>match hp[i]? with
  | some (.row _ _ [_,.vv v,_])=>match hp.findIdx? (jB v)with
   | some j=>[i,j]
   | none=>[i]
  | _=>[i]
 | none=>[]
def YY(az:List SV)(hp:List Ck):List Nat:=
 match az with
 | .ptr b _::_=>M7 b hp
 | _=>[]
def D6(v n bo a:Nat):List Ck→List Ck
 | [.row b wr [.bool (.lit true),_,m],.cC md _ t s _ _]=>[.row b wr [.bool (.lit true),.vv v,m],.cC md v t s (.var n) (wH a)]
 | [.row b wr [.bool (.lit false),_,_],.cC md _ t s _ _]=>[.row b wr [.bool (.lit false),.vv v,.bool (.var bo)],.cC md v t s (.var n) (wH a)]
 | l=>l
def ov:aK:={use:=YY,inc:={v:=1,i:=2,a:=1,bo:=1},val:=fun c=> .int .u64 (.var c.i),new:=fun c h=>D6 c.v (c.i+1) c.bo c.a h}
def AB:aK:={use:=YY,inc:={v:=2,i:=2,a:=2,bo:=1},val:=fun c=> .vv (c.v+1),new:=fun c h=>D6 c.v c.i c.bo c.a h++[.cC false (c.v+1) 5 1 (.var (c.i+1)) (wH (c.a+1))]}
def iU(b:Nat)(hp:List Ck):List Nat:=(hp.findIdx? (rS b)).toList
def M8(b:Nat)(hp:List Ck):List Nat:=
 match hp.findIdx? (rS b)with
 | some i=>match hp[i]? with
  | some (.row _ _ (.ptr d _::_))=>iU d hp
  | _=>[]
 | none=>[]
def ahN(az:List SV)(hp:List Ck):List Nat:=
 YY az hp++match az with
 | [_,.sl b ..]=>M8 b hp++iU b hp
 | _=>[]
def newF(v n bo a:Nat):List Ck→List Ck
 | x::y::r=>D6 v n bo a [x,y]++r
 | l=>l
def AD:aK:={use:=ahN,inc:={v:=1,i:=1,a:=1,bo:=1},val:=fun _=> .oL [],new:=fun c h=>newF c.v c.i c.bo c.a h}
def rT(f:Nat):Option aK:=
 match f with
 | 21=>some ov
 | 58=>some AD
 | _=>none
def br(f:Nat):Option aK:=
 match f with
 | 21=>some ov
 | 45=>some AB
 | _=>none
def ado:List Ck→Option Nat
 | .row 0 _ [_,.vv v,_]::_=>some v
 | _::r=>ado r
 | []=>none
def adp(o v n bo a:Nat):Ck→Ck
 | .row 0 wr [.bool (.lit true),_,m]=> .row 0 wr [.bool (.lit true),.vv v,m]
 | .row 0 wr [.bool (.lit false),_,_]=> .row 0 wr [.bool (.lit false),.vv v,.bool (.var bo)]
 | .cC md v' t s n' cs=>if v'=o then .cC md v t s (.var n) (wH a)else .cC md v' t s n' cs
 | c=>c
def zu(v n bo a:Nat)(hp:List Ck):List Ck:=
 match ado hp with
 | some o=>hp.map (adp o v n bo a)
 | none=>hp
def dV(a:Nat):List bP:=[⟨.int .u8,32,.cU a⟩,⟨.int .u32,1,.cU (a+1)⟩,⟨.int .u8,32,.cU (a+2)⟩]
def D7(b i v t s n:Nat)(cs:List bP):List Ck→List Ck
 | .row b' wr c::r=>if b'=b then .row b' wr (c.set i (.vv v))::r.map (xi v)else .row b' wr c::D7 b i v t s n cs r
 | x::r=>xi v x::D7 b i v t s n cs r
 | []=>[]
 where xi (v:Nat):Ck→Ck
 | .cC true v' t' s' n' ra=>if t'=t∧s'=s then .cC true v t s (.var n) cs else .cC true v' t' s' n' ra
 | x=>x
def Qt(f id:Nat):Option ey:=
 match f,id with
 | 187,0=>some {inc:={i:=2,v:=1,a:=1,bo:=1},aX:=fun c=>[(25,.int .i64 (.var c.i))],hp:=fun c h=>zu c.v (c.i+1) c.bo c.a h}
 | 187,2=>some {pre:=[.cell 2 13 245],inc:={i:=3,v:=2,a:=4,bo:=1},aX:=fun c=>[(6,.int .u64 (.var c.i))],hp:=fun c h=>D7 1 13 (c.v+1) 245 65 (c.i+2) (dV (c.a+1)) (zu c.v (c.i+1) c.bo c.a h)}
 | _,_=>none
def key(a:Nat):SV:= .dg .u8 32 (.cU a)
def Gl:SV:= .dg .u8 32 (.lit 0)
def bl(i:Nat):SV:= .bool (.nz (.var i))
def UZ:SV:= .bool (.lit false)
def Qu:SV:= .int .u32 (.lit 0)
def Qv:List SV:=[Gl,Gl,Gl,Gl,UZ,UZ,UZ,UZ,Gl,Qu,Gl,Qu,Qu,.bx,Gl,Gl,UZ,Qu,UZ,UZ]
def U0(i a v:Nat):List SV:=[key a,key (a+1),key (a+2),key (a+3),bl i,bl (i+1),bl (i+2),bl (i+3),key (a+4),u32 (i+4),key (a+5),u32 (i+5),u32 (i+6),.vv v,key (a+6),key (a+7),bl (i+7),u32 (i+8),bl (i+9),bl (i+10)]
def wIn:List Ck:=[.row 0 true [.bool (.lit false),.vv 0,.bool (.var 0)],.cC false 0 5 1 (.var 0) (wH 0)]
def Gm:List Ck:=[.row 0 true [.bool (.lit true),.vv 0,.bool (.lit false)],.cC true 0 5 1 (.var 0) (wH 0)]
def adq:List SV:=[.ptr 0 0,.ptr 1 0]
def ahO:List Ck:=wIn++[.row 1 true Qv]
def adr:cG:={b:=2,v:=1,i:=1,a:=1,bo:=1}
def ahP:List Ck:=Gm++[.row 1 true (U0 2 1 1),.cC false 1 245 65 (.var 1) (dV 9)]
def ads:cG:={b:=2,v:=2,i:=13,a:=12,bo:=0}
end Go.RX.Vc

namespace Go.RX.Vd
open Go.RX Go.RX.Vb Go.RX.Vc
def M9:aK:={use:=fun az hp=>match az with | [.vv v]=>(hp.findIdx? (jB v)).toList | _=>[],inc:={v:=1,i:=1,a:=1},val:=fun c=> .vv c.v,new:=fun c h=>h++[.cC true c.v 5 1 (.var c.i) (wH c.a)]}
def mB(hp:List Ck):List Nat:=(hp.findIdx? fun c=>match c with | .abs _=>true | _=>false).toList
def KN(az:List SV)(hp:List Ck):List Nat:=
 M7 0 hp++(match az with | .ptr b _::_=>iU b hp | _=>[])++(match az with | [_,.ptr b _]=>iU b hp | _=>[])++mB hp
def Qw(c:cG):List Ck→List Ck
 | x::y:: .row b w _::box::_=>D6 c.v (c.i+3) c.bo c.a [x,y]++[.row b w [.int .u8 (.var c.i),.int .u8 (.var (c.i+1)),.Ku (.var (c.i+2))],box,.abs c.p]
 | l=>l
def M_:aK:={use:=KN,inc:={v:=1,i:=4,a:=1,bo:=1,p:=1},val:=fun _=> .oL [],new:=Qw}
def Gn(c:cG):List Ck→List Ck
 | x::y::r=>D6 c.v c.i c.bo c.a [x,y]++r
 | l=>l
def Na:aK:={use:=KN,inc:={v:=1,i:=1,a:=1,bo:=1},val:=fun _=> .oL [],new:=Gn}
def U1(az:List SV)(hp:List Ck):List Nat:=
 M7 0 hp++(match az with | .ptr b _::_=>iU b hp | _=>[])++(match az with | [_,.ptr b _]=>iU b hp | _=>[])
def Qx(c:cG):List Ck→List Ck
 | x::y:: .row b w _::r=>D6 c.v (c.i+3) c.bo c.a [x,y]++ .row b w [.dg .u8 16 (.cU (c.a+1)),.int .u8 (.var c.i),.bool (.nz (.var (c.i+1))),.int .u64 (.var (c.i+2))]::r
 | l=>l
def Nb:aK:={use:=U1,inc:={v:=1,i:=4,a:=2,bo:=1},val:=fun _=> .oL [],new:=Qx}
def AE(f:Nat):Option aK:=
 match f with
 | 21=>some ov
 | 45=>some AB
 | 111=>some M9
 | 102=>some M_
 | 55=>some Nb
 | _=>none
def rT(f:Nat):Option aK:=
 match f with
 | 21=>some ov
 | 58=>some AD
 | 102=>some Na
 | _=>none
def dN(a:Nat):List bP:=[⟨.int .u32,1,.cU a⟩,⟨.int .u8,32,.cU (a+1)⟩]
def bM(a:Nat):List bP:=[⟨.int .u8,1,.cU a⟩,⟨.int .u8,1,.cU (a+1)⟩,⟨.cv,1,.cU (a+2)⟩]
def idC(a:Nat):List bP:=[⟨.int .u8,16,.cU a⟩]
def gM(a:Nat):List bP:=[⟨.int .u8,1,.cU a⟩,⟨.int .u8,1,.cU (a+1)⟩]
def dW(a:Nat):List bP:=[⟨.int .u8,16,.cU a⟩,⟨.int .u8,1,.cU (a+1)⟩,⟨.bool,1,.cU (a+2)⟩,⟨.int .u64,1,.cU (a+3)⟩]
def adu(p:Nat)(hp:List Ck):List Ck:=hp.map fun c=>match c with | .abs _=> .abs p | c=>c
def C8(i t s:Nat)(cs:Nat→List bP)(na:Nat)(p:Bool):ey:=
 {pre:=[.cell 2 i t],inc:={i:=3,v:=2,a:=1+na,bo:=1,p:=if p then 1 else 0},aX:=fun c=>[(6,.int .u64 (.var c.i))],hp:=fun c h=>D7 1 i (c.v+1) t s (c.i+2) (cs (c.a+1)) (zu c.v (c.i+1) c.bo c.a (if p then adu c.p h else h))}
def qN:ey:={inc:={i:=2,v:=1,a:=1,bo:=1},aX:=fun c=>[(25,.int .i64 (.var c.i))],hp:=fun c h=>zu c.v (c.i+1) c.bo c.a h}
def loops(f id:Nat):Option ey:=
 match f,id with
 | 152,0=>some qN
 | 101,0=>some qN
 | 106,0=>some qN
 | 108,0=>some qN
 | 54,0=>some qN
 | 152,2=>some (C8 6 93 33 dN 2 false)
 | 101,2=>some (C8 8 68 3 bM 3 true)
 | 106,2=>some (C8 12 36 16 idC 1 false)
 | 108,2=>some (C8 24 26 2 gM 2 false)
 | 54,2=>some (C8 32 98 19 dW 4 false)
 | _,_=>none
def Qy:SV:= .int .u8 (.lit 0)
def I1:SV:= .int .u64 (.lit 0)
def adv:SV:= .int .i64 (.lit 0)
def sg(n:Nat)(a:Nat):SV:= .dg .u8 n (.cU a)
def U2(n:Nat):SV:= .dg .u8 n (.lit 0)
def TR:List SV:=[U2 32,I1,Qy,Qy,U2 32,U2 32,.bx,adv,.bx,Qy,Qy,U2 8,.bx,Qy,U2 16,UZ,Qy,Qy,Qy,U2 32,U2 32,U2 32,.bx,adv,.bx,I1,I1,I1,I1,I1,Qu,.bx,.bx]
def i64(i:Nat):SV:= .int .i64 (.var i)
def TS(i a v:Nat):List SV:=[sg 32 a,u64 i,u8 (i+1),u8 (i+2),sg 32 (a+1),sg 32 (a+2),.vv v,i64 (i+3),.vv (v+1),u8 (i+4),u8 (i+5),sg 8 (a+3),.vv (v+2),u8 (i+6),sg 16 (a+4),bl (i+7),u8 (i+8),u8 (i+9),u8 (i+10),sg 32 (a+5),sg 32 (a+6),sg 32 (a+7),.vv (v+3),i64 (i+11),.vv (v+4),u64 (i+12),u64 (i+13),u64 (i+14),u64 (i+15),u64 (i+16),u32 (i+17),.vv (v+5),.vv (v+6)]
def stC(md:Bool)(i a v:Nat):List Ck:=[.cC md v 93 33 (.var i) (dN a),.cC md (v+1) 68 3 (.var (i+1)) (bM (a+2)),.cC md (v+2) 36 16 (.var (i+2)) (idC (a+5)),.cC md (v+3) 5 1 (.var (i+3)) (wH (a+6)),.cC md (v+4) 26 2 (.var (i+4)) (gM (a+7)),.cC md (v+5) 5 1 (.var (i+5)) (wH (a+9)),.cC md (v+6) 98 19 (.var (i+6)) (dW (a+10))]
def stA:List SV:=[.ptr 0 0,.ptr 1 0]
def hpI:List Ck:=wIn++[.row 1 true TR,.abs 0]
def Nc:cG:={b:=2,v:=1,i:=1,a:=1,bo:=1,p:=1}
def hpO:List Ck:=Gm++[.row 1 true (TS 1 1 1)]++stC false 19 9 1++[.abs 0]
def YZ:cG:={b:=2,v:=8,i:=26,a:=23,bo:=0,p:=1}
end Go.RX.Vd

namespace Go.RX.Ve
open Go.RX Go.RX.Vb Go.RX.Vc Go.RX.Vd
def ahR(i a:Nat):List SV:=[key a,key (a+1),key (a+2),key (a+3),bl i,bl (i+1),bl (i+2),bl (i+3),key (a+4),u32 (i+4),key (a+5),u32 (i+5),u32 (i+6),.Ku (.var (i+7)),key (a+6),key (a+7),bl (i+8),u32 (i+9),bl (i+10),bl (i+11)]
def kC(a:Nat):bP:=⟨.int .u8,32,.cU a⟩
def bC(a:Nat):bP:=⟨.bool,1,.cU a⟩
def nC(a:Nat):bP:=⟨.int .u32,1,.cU a⟩
def bS(a:Nat):List bP:=[kC a,kC (a+1),kC (a+2),kC (a+3),bC (a+4),bC (a+5),bC (a+6),bC (a+7),kC (a+8),nC (a+9),kC (a+10),nC (a+11),nC (a+12),⟨.cv,1,.cU (a+13)⟩,kC (a+14),kC (a+15),bC (a+16),nC (a+17),bC (a+18),bC (a+19)]
def Qz(az:List SV)(hp:List Ck):List Nat:=
 M7 0 hp++(match az with | [_,.ptr b _]=>iU b hp | _=>[])++mB hp
def U3(c:cG):List Ck→List Ck
 | x::y:: .row b w _::_=>D6 c.v (c.i+12) c.bo c.a [x,y]++[.row b w (ahR c.i (c.a+1)),.abs c.p]
 | l=>l
def QA:aK:={use:=Qz,inc:={v:=1,i:=13,a:=9,bo:=1,p:=1},val:=fun _=> .oL [],new:=U3}
def QB:aK:={use:=Qz,inc:={v:=1,i:=1,a:=1,bo:=1},val:=fun _=> .oL [],new:=Gn}
def AE(f:Nat):Option aK:=
 match f with
 | 21=>some ov
 | 45=>some AB
 | 105=>some QA
 | _=>none
def rT(f:Nat):Option aK:=
 match f with
 | 21=>some ov
 | 58=>some AD
 | 105=>some QB
 | _=>none
def loops(f id:Nat):Option ey:=
 match f,id with
 | 104,0=>some qN
 | 104,2=>some (C8 2 77 268 bS 20 true)
 | _,_=>none
def QC:List SV:=[.ptr 1 0,.ptr 2 0]
def hpI:List Ck:=wIn++[.row 1 true [Qy,Qy,.bx],.row 2 true [.ptr 0 0],.abs 0]
def Nc:cG:={b:=3,v:=1,i:=1,a:=1,bo:=1,p:=1}
def hpO:List Ck:=Gm++[.row 1 true [u8 1,u8 2,.vv 1],.row 2 true [.ptr 0 0],.cC false 1 77 268 (.var 3) (bS 1),.abs 0]
def YZ:cG:={b:=3,v:=2,i:=4,a:=21,bo:=0,p:=1}
def hpR:List Ck:=wIn++[.row 1 true [U2 16,Qy,UZ,I1],.row 2 true [.ptr 0 0]]
def ahS:cG:={b:=3,v:=1,i:=1,a:=1,bo:=1}
end Go.RX.Ve

namespace Go.RX.Vb
open Go Go.RX Go.Proofs
abbrev pp(b:Nat):Value:= .pointer (some ⟨b,0,none⟩)
def flS(k:Nat):List SV:=[.ptr 0 0,.sl 2 (.lit 0) 1 (.lit k) (.lit k)]
def flP(l:List Nat):Ck:= .row 2 true (l.map fun i=> .ptr 1 i)
abbrev bh(a0:V1)(a1:Int)(a2:Nat→Int):HP:=aB false 5 1 a0.v (ag a1) (aM (ag a1) [ay .u8 1 a2])
abbrev bq(a0:V1)(a1:Int)(a2:Nat→Int):HP:=aB true 5 1 a0.v (ag a1) (aM (ag a1) [ay .u8 1 a2])
abbrev s9(a0:Nat)(a1 a2 a3 a4:Nat→Int)(a5 a6 a7 a8:Bool)(a9:Nat→Int)(Gp:Int)(D8:Nat→Int)(Nd Nf:Int)(Ng:V1)(Nh Ni:Nat→Int)(Nj:Bool)(Nk:Int)(Nl Nm:Bool):HP:=ak a0 true (aul (aj .u8 32 a1) (aul (aj .u8 32 a2) (aul (aj .u8 32 a3) (aul (aj .u8 32 a4) (.bool a5::(.bool a6::(.bool a7::(.bool a8::(aul (aj .u8 32 a9) (.int .u32 Gp::(aul (aj .u8 32 D8) (.int .u32 Nd::(.int .u32 Nf::(Ng.v::(aul (aj .u8 32 Nh) (aul (aj .u8 32 Ni) ([.bool Nj,.int .u32 Nk,.bool Nl,.bool Nm])))))))))))))))))
abbrev wI(a0:Nat→Int)(a1 a2 a3:Int)(a4 a5:Nat→Int)(a6:V1)(a7:Int)(a8:V1)(a9 Gp:Int)(D8:Nat→Int)(Nd:V1)(Nf:Int)(Ng:Nat→Int)(Nh:Bool)(Ni Nj Nk:Int)(Nl Nm QD:Nat→Int)(Y0:V1)(Y1:Int)(a24:V1)(a25 a26 a27 a28 a29 a30:Int)(a31 a32:V1):Value:= .agg (aul (aj .u8 32 a0) (.int .u64 a1::(.int .u8 a2::(.int .u8 a3::(aul (aj .u8 32 a4) (aul (aj .u8 32 a5) (a6.v::(.int .i64 a7::(a8.v::(.int .u8 a9::(.int .u8 Gp::(aul (aj .u8 8 D8) (Nd.v::(.int .u8 Nf::(aul (aj .u8 16 Ng) (.bool Nh::(.int .u8 Ni::(.int .u8 Nj::(.int .u8 Nk::(aul (aj .u8 32 Nl) (aul (aj .u8 32 Nm) (aul (aj .u8 32 QD) ([Y0.v,.int .i64 Y1,a24.v,.int .u64 a25,.int .u64 a26,.int .u64 a27,.int .u64 a28,.int .u64 a29,.int .u32 a30,a31.v,a32.v]))))))))))))))))))))))).toArray
abbrev XQ(a0:Nat):HP:=ak a0 true (aul (aj .u8 32 (fun _=>0)) (.int .u64 0::(.int .u8 0::(.int .u8 0::(aul (aj .u8 32 (fun _=>0)) (aul (aj .u8 32 (fun _=>0)) (.slice none 0 0::(.int .i64 0::(.slice none 0 0::(.int .u8 0::(.int .u8 0::(aul (aj .u8 8 (fun _=>0)) (.slice none 0 0::(.int .u8 0::(aul (aj .u8 16 (fun _=>0)) (.bool false::(.int .u8 0::(.int .u8 0::(.int .u8 0::(aul (aj .u8 32 (fun _=>0)) (aul (aj .u8 32 (fun _=>0)) (aul (aj .u8 32 (fun _=>0)) ([.slice none 0 0,.int .i64 0,.slice none 0 0,.int .u64 0,.int .u64 0,.int .u64 0,.int .u64 0,.int .u64 0,.int .u32 0,.slice none 0 0,.slice none 0 0])))))))))))))))))))))))
abbrev cO(a0:Nat)(a1:V1)(a2:Bool):HP:=ak a0 true ([.bool false,a1.v,.bool a2])
abbrev dt(a0:Nat)(a1:V1):HP:=ak a0 true ([.bool true,a1.v,.bool false])
abbrev TU(a0:Nat)(a1:Nat→Int)(a2 a3 a4:Int)(a5 a6:Nat→Int)(a7:V1)(a8:Int)(a9:V1)(Gp D8:Int)(Nd:Nat→Int)(Nf:V1)(Ng:Int)(Nh:Nat→Int)(Ni:Bool)(Nj Nk Nl:Int)(Nm QD Y0:Nat→Int)(Y1:V1)(a24:Int)(a25:V1)(a26 a27 a28 a29 a30 a31:Int)(a32 a33:V1):HP:=ak a0 true (aul (aj .u8 32 a1) (.int .u64 a2::(.int .u8 a3::(.int .u8 a4::(aul (aj .u8 32 a5) (aul (aj .u8 32 a6) (a7.v::(.int .i64 a8::(a9.v::(.int .u8 Gp::(.int .u8 D8::(aul (aj .u8 8 Nd) (Nf.v::(.int .u8 Ng::(aul (aj .u8 16 Nh) (.bool Ni::(.int .u8 Nj::(.int .u8 Nk::(.int .u8 Nl::(aul (aj .u8 32 Nm) (aul (aj .u8 32 QD) (aul (aj .u8 32 Y0) ([Y1.v,.int .i64 a24,a25.v,.int .u64 a26,.int .u64 a27,.int .u64 a28,.int .u64 a29,.int .u64 a30,.int .u32 a31,a32.v,a33.v])))))))))))))))))))))))
abbrev zv1:Value:= .agg (aul (aj .u8 32 (fun _=>0)) (.int .u64 0::(.int .u8 0::(.int .u8 0::(aul (aj .u8 32 (fun _=>0)) (aul (aj .u8 32 (fun _=>0)) (.slice none 0 0::(.int .i64 0::(.slice none 0 0::(.int .u8 0::(.int .u8 0::(aul (aj .u8 8 (fun _=>0)) (.slice none 0 0::(.int .u8 0::(aul (aj .u8 16 (fun _=>0)) (.bool false::(.int .u8 0::(.int .u8 0::(.int .u8 0::(aul (aj .u8 32 (fun _=>0)) (aul (aj .u8 32 (fun _=>0)) (aul (aj .u8 32 (fun _=>0)) ([.slice none 0 0,.int .i64 0,.slice none 0 0,.int .u64 0,.int .u64 0,.int .u64 0,.int .u64 0,.int .u64 0,.int .u32 0,.slice none 0 0,.slice none 0 0]))))))))))))))))))))))).toArray
abbrev fT(a0:Nat)(a1:V1)(a2:Bool):HP:=ak a0 true ([.bool true,a1.v,.bool a2])
abbrev C9(a0 a1:Nat):HP:=ak a0 true ([.pointer (some ⟨a1,128,none⟩),.pointer (some ⟨a1,129,none⟩),.pointer (some ⟨a1,130,none⟩),.pointer (some ⟨a1,131,none⟩)])
abbrev D_(a0:V1)(a1:Int)(a2 a3 a4:Nat→Int):HP:=aB true 68 3 a0.v (ag a1) (aM (ag a1) [ay .u8 1 a2,ay .u8 1 a3,eA 1 (fun j=>cc (a4 j))])
abbrev qo(a0:V1)(a1:Int)(a2 a3 a4 a5:Nat→Int):HP:=aB true 98 19 a0.v (ag a1) (aM (ag a1) [ay .u8 16 a2,ay .u8 1 a3,cY 1 a4,ay .u64 1 a5])
abbrev qp(a0:V1)(a1:Int)(a2 a3:Nat→Int):HP:=aB true 93 33 a0.v (ag a1) (aM (ag a1) [ay .u32 1 a2,ay .u8 32 a3])
abbrev qs(a0:V1)(a1:Int)(a2 a3:Nat→Int):HP:=aB true 26 2 a0.v (ag a1) (aM (ag a1) [ay .u8 1 a2,ay .u8 1 a3])
abbrev TV:Value:= .agg (aul (aj .u8 16 (fun _=>0)) ([.int .u8 0,.bool false,.int .u8 0,.int .u64 0,.int .u64 0,.int .u64 0])).toArray
abbrev qt(a0:V1)(a1:Int)(a2:Nat→Int):HP:=aB true 36 16 a0.v (ag a1) (aM (ag a1) [ay .u8 16 a2])
abbrev oW(a0:V1)(a1:Int)(a2 a3:Nat→Int):HP:=aB false 93 33 a0.v (ag a1) (aM (ag a1) [ay .u32 1 a2,ay .u8 32 a3])
abbrev qu(a0:V1)(a1:Int)(a2 a3 a4:Nat→Int):HP:=aB false 68 3 a0.v (ag a1) (aM (ag a1) [ay .u8 1 a2,ay .u8 1 a3,eA 1 (fun j=>cc (a4 j))])
abbrev pC(a0:V1)(a1:Int)(a2 a3:Nat→Int):HP:=aB false 26 2 a0.v (ag a1) (aM (ag a1) [ay .u8 1 a2,ay .u8 1 a3])
abbrev s_(a0:V1)(a1:Int)(a2 a3 a4 a5:Nat→Int):HP:=aB false 98 19 a0.v (ag a1) (aM (ag a1) [ay .u8 16 a2,ay .u8 1 a3,cY 1 a4,ay .u64 1 a5])
abbrev pD(a0:V1)(a1:Int)(a2:Nat→Int):HP:=aB false 36 16 a0.v (ag a1) (aM (ag a1) [ay .u8 16 a2])
abbrev I2(a0:Nat)(a1 a2:Nat→Int):HP:=oN a0 [.u8,.u8,.u8,.u8,.u8,.u8,.u8,.u8,.u8,.u8,.u8,.u8,.u8,.u8,.u8,.u8] true false ([.pointer none]) a1 (Qr [vg 1 a2])
abbrev U4(a0:Nat)(a1 a2:Int)(a3:Nat→Int)(a4 a5 a6 a7:Int)(a8:Nat):HP:=ak a0 true (.int .u8 a1::(.int .u8 a2::(.nilIface::(aul (aj .u8 32 a3) (.int .u64 a4::((cN a5)::((cN a6)::((cN a7)::(.map (some a8)::(aul (aj .u8 16 (fun _=>0)) ([])))))))))))
abbrev adG(a0:Nat):HP:=ak a0 true (aul (aj .u8 32 (fun _=>0)) (aul (aj .u8 32 (fun _=>0)) (aul (aj .u8 32 (fun _=>0)) (aul (aj .u8 32 (fun _=>0)) (.bool false::(.bool false::(.bool false::(.bool false::(aul (aj .u8 32 (fun _=>0)) (.int .u32 0::(aul (aj .u8 32 (fun _=>0)) (.int .u32 0::(.int .u32 0::(.slice none 0 0::(aul (aj .u8 32 (fun _=>0)) (aul (aj .u8 32 (fun _=>0)) ([.bool false,.int .u32 0,.bool false,.bool false])))))))))))))))))
abbrev U5(a0:Nat)(a1 a2:Int)(a3:Nat→Int)(a4 a5 a6 a7:Int)(a8:Nat)(a9:Nat→Int):HP:=ak a0 true (.int .u8 a1::(.int .u8 a2::(.nilIface::(aul (aj .u8 32 a3) (.int .u64 a4::((cN a5)::((cN a6)::((cN a7)::(.map (some a8)::(aul (aj .u8 16 a9) ([])))))))))))
abbrev Cp(a0:V1)(a1:Int)(a2 a3 a4 a5 a6 a7 a8 a9 Gp D8 Nd Nf Ng Nh Ni Nj Nk Nl Nm QD:Nat→Int):HP:=aB false 77 268 a0.v (ag a1) (aM (ag a1) [ay .u8 32 a2,ay .u8 32 a3,ay .u8 32 a4,ay .u8 32 a5,cY 1 a6,cY 1 a7,cY 1 a8,cY 1 a9,ay .u8 32 Gp,ay .u32 1 D8,ay .u8 32 Nd,ay .u32 1 Nf,ay .u32 1 Ng,eA 1 (fun j=>cc (Nh j)),ay .u8 32 Ni,ay .u8 32 Nj,cY 1 Nk,ay .u32 1 Nl,cY 1 Nm,cY 1 QD])
abbrev I3(a0 a1:Nat):HP:=ak a0 true ([.pointer (some ⟨a1,266,none⟩),.pointer (some ⟨a1,267,none⟩)])
abbrev uw(a0:Nat)(a1:V1):HP:=ak a0 true ([.bool false,a1.v,.bool true])
abbrev Gq(a0:Nat)(a1:Nat→Int)(a2:Int)(a3:Bool)(a4:Int):HP:=ak a0 true (aul (aj .u8 16 a1) ([.int .u8 a2,.bool a3,.int .u64 a4]))
abbrev zv3(a0:Nat→Int)(a1 a2 a3:Int)(a4 a5:Nat→Int)(a6:V1)(a7:Int)(a8:V1)(a9:Nat→Int)(Gp:V1)(D8:Int)(Nd:Nat→Int)(Nf:Bool)(Ng Nh Ni:Int)(Nj Nk Nl:Nat→Int)(Nm:V1)(QD:Int)(Y0:V1)(Y1 a24 a25 a26 a27 a28:Int)(a29 a30:V1):Value:= .agg (aul (aj .u8 32 a0) (.int .u64 a1::(.int .u8 a2::(.int .u8 a3::(aul (aj .u8 32 a4) (aul (aj .u8 32 a5) (a6.v::(.int .i64 a7::(a8.v::(.int .u8 0::(.int .u8 0::(aul (aj .u8 8 a9) (Gp.v::(.int .u8 D8::(aul (aj .u8 16 Nd) (.bool Nf::(.int .u8 Ng::(.int .u8 Nh::(.int .u8 Ni::(aul (aj .u8 32 Nj) (aul (aj .u8 32 Nk) (aul (aj .u8 32 Nl) ([Nm.v,.int .i64 QD,Y0.v,.int .u64 Y1,.int .u64 a24,.int .u64 a25,.int .u64 a26,.int .u64 a27,.int .u32 a28,a29.v,a30.v]))))))))))))))))))))))).toArray
abbrev Y2(a0:Nat)(a1 a2 a3 a4:Nat→Int)(a5 a6 a7 a8:Bool)(a9:Nat→Int)(Gp:Int)(D8:Nat→Int)(Nd Nf:Int)(Ng:Nat→Int)(Nh:Int)(Ni Nj:Nat→Int)(Nk:Bool)(Nl:Int)(Nm QD:Bool):HP:=ak a0 true (aul (aj .u8 32 a1) (aul (aj .u8 32 a2) (aul (aj .u8 32 a3) (aul (aj .u8 32 a4) (.bool a5::(.bool a6::(.bool a7::(.bool a8::(aul (aj .u8 32 a9) (.int .u32 Gp::(aul (aj .u8 32 D8) (.int .u32 Nd::(.int .u32 Nf::((cc (Ng (ag Nh)))::(aul (aj .u8 32 Ni) (aul (aj .u8 32 Nj) ([.bool Nk,.int .u32 Nl,.bool Nm,.bool QD])))))))))))))))))
abbrev Gr(a0:Nat)(a1:V1):HP:=ak a0 true ([.bool false,a1.v,.bool false])
abbrev oX(a0 a1:Nat):HP:=ak a0 true ([pp a1])
abbrev I4(a0 a1:Nat):HP:=ak a0 true ([.pointer (some ⟨a1,130,none⟩)])
abbrev QE(a0:Nat):HP:=ak a0 false ([.int .u8 72,.int .u8 76,.int .u8 83,.int .u8 84,.int .u8 0,.int .u8 1])
open Go.RX Go.Proofs
noncomputable def cx:Ctx:={T:=TT,FT:=FT}
noncomputable def cxF:Ctx:={T:=TT,FT:=FT,br:=fun f=>if f=21 then some Vc.ov else none}
noncomputable def ahV:Ctx:={T:=TT,FT:=FT,loops:=Vc.Qt,br:=Vc.br}
noncomputable def ahW:Ctx:={T:=TT,FT:=FT,loops:=Vc.Qt,br:=Vc.rT}
noncomputable def adI:Ctx:={T:=TT,FT:=FT,loops:=Ve.loops,br:=Ve.AE}
noncomputable def ahX:Ctx:={T:=TT,FT:=FT,loops:=Ve.loops,br:=Ve.rT}
noncomputable def ahY:Ctx:={T:=TT,FT:=FT,loops:=Vd.loops,br:=Vd.AE}
noncomputable def ahZ:Ctx:={T:=TT,FT:=FT,loops:=Vd.loops,br:=Vd.rT}
end Go.RX.Vb
