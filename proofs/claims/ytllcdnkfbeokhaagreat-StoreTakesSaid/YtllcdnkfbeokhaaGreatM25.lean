/- Executor. -/
import Derived.Test.YtllcdnkfbeokhaaGreatM24
import Derived.OpenShut
open Go.Proofs.Tryz renaming prog → aqQ
open Int renaming toNat → ag
open List renaming append → aqk, getElem?_append_left → aqs, getElem?_append_right → aqt, getElem?_eq_none → aq3, getElem?_eq_some_iff → aqo, mem_append → aqC, mem_of_getElem? → aqG
open Nat renaming lt_of_lt_of_le → aqz, not_lt → aq1
open Option renaming map_eq_some_iff → aqq
namespace Go.RX
def bc(B:List HP)(h:HP):Prop:=h.wr=false∧∀(w:World) (S:Nat→Nat→Prop),Sep B S w→∃S':Nat→Prop,h.p w S'∧∀k,S' k→∃i,i<B.length∧S i k
theorem Sep.mid{A B C:List HP}{S:Nat→Nat→Prop}{w:World}(h:Sep (A++B++C) S w):Sep B (fun i=>S (A.length+i)) w:=by
 have key: ∀(i:Nat) x,B[i]? =some x→(A++B++C)[A.length+i]? =some x:=by
  intro i x hx;have hl:i<B.length:=(aqo.1 hx).1;rw [aqs (by simp;omega),aqt (by omega),Nat.add_sub_cancel_left,hx]
 exact⟨fun i x hx=>h.at_ _ x (key i x hx),fun i j x y m8 hx hy hw=>h.apart _ _ x y (by omega) (key i x hx) (key j y hy) hw⟩
def pr(w0:World)(U:Nat→Prop):HP where
 wr:=false
 p w T:=(∀k,T k↔U k)∧∀k,U k→w.heap[k]? =w0.heap[k]?
 eY _ _ _ h hk:=⟨h.1,fun k hu=>(hk k ((h.1 k).2 hu)).trans (h.2 k hu)⟩
theorem aq.Cg{P:Program}{f:Nat}{args:List Value}{A B L:List HP}{Q:Value→List HP→Prop}(hm:aq P f args (A++L) Q)(hQ: ∀v hs,Q v hs→∀h∈hs,h.wr=true)(hL: ∀h∈L,bc B h):
  aq P f args (A++B) fun v hs=> ∃xQ,Q v xQ∧hs=xQ++B:=by
 intro w Fs ⟨S,hS⟩;have gA: ∀(i:Nat) x,A[i]? =some x→(A++B++Fs)[i]? =some x:=by
  intro i x hx;have hl:i<A.length:=(aqo.1 hx).1;rw [aqs (by simp;omega),aqs hl,hx]
 have gB: ∀(i:Nat) x,B[i]? =some x→(A++B++Fs)[A.length+i]? =some x:=by
  intro i x hx;have hl:i<B.length:=(aqo.1 hx).1;rw [aqs (by simp;omega),aqt (by omega),Nat.add_sub_cancel_left,hx]
 have gR: ∀(i:Nat) x,(B++Fs)[i]? =some x→(A++B++Fs)[A.length+i]? =some x:=by
  intro i x hx;rw [List.append_assoc,aqt (by omega),Nat.add_sub_cancel_left,hx]
 have hSB:Sep B (fun i=>S (A.length+i)) w:=Sep.mid hS
 let U:Nat→Prop:=fun k=>k<w.heap.size∧∀i x,A[i]? =some x→x.wr=true→¬S i k
 have hc: ∀i:Nat,∃S':Nat→Prop,∀x,L[i]? =some x→x.p w S'∧∀k,S' k→∃j,j<B.length∧S (A.length+j) k:=by
  intro i;cases hi:L[i]? with
  | none=>exact⟨fun _=>False,fun x hx=>nomatch hx⟩
  | some y=>
   obtain⟨S',JQ⟩:=(hL y (aqG hi)).2 w _ hSB;exact⟨S',fun x hx=>by cases hx;exact JQ⟩
 obtain⟨S1,Zz⟩:=Classical.axiomOfChoice hc;have wrL: ∀(i:Nat) x,L[i]? =some x→x.wr=false:=fun i x hx=>(hL x (aqG hx)).1
 have o1:bG (A++L++[pr w U]) w:=by
  have jl: ∀(i:Nat) x,(A++L++[pr w U])[i]? =some x→(i<A.length∧A[i]? =some x)∨(A.length≤i∧i<A.length+L.length∧L[i - A.length]? =some x)∨(i=A.length+L.length∧x=pr w U):=by
   intro i x hx;by_cases h1:i<A.length
   ·rw [aqs (by simp;omega),aqs h1]at hx;exact .inl ⟨h1,hx⟩
   ·by_cases h2:i<A.length+L.length
    ·rw [aqs (by simp;omega),aqt (by omega)]at hx;exact .inr (.inl ⟨by omega,h2,hx⟩)
    ·rw [aqt (by simp;omega)]at hx;have:i - (A++L).length=0:=by
      rcases Nat.eq_zero_or_pos (i - (A++L).length)with h | h
      ·exact h
      ·rw [aq3 (by simp at h ⊢;omega)]at hx;cases hx
     rw [this]at hx;cases hx;simp at this;exact .inr (.inr ⟨by omega,rfl⟩)
  refine⟨fun i=>if i<A.length then S i else if i<A.length+L.length then S1 (i - A.length)else U,⟨?_,?_⟩⟩
  ·intro i x hx;rcases jl i x hx with⟨h,hx⟩ | ⟨h,h',hx⟩ | ⟨h,rfl⟩
   ·simp only [if_pos h];exact hS.at_ i x (gA i x hx)
   ·simp only [if_neg (aq1.2 h),if_pos h'];obtain⟨hp,hs⟩:=Zz _ x hx;refine⟨hp,fun k hk=>?_⟩;obtain⟨j,hj,X_⟩:=hs k hk;exact(hS.at_ _ _ (gB j _ (List.getElem?_eq_getElem hj))).2 k X_
   ·subst h;simp only [if_neg (show¬A.length+L.length<A.length by omega),if_neg (Nat.lt_irrefl _)];exact⟨⟨fun _=>Iff.rfl,fun _ _=>rfl⟩,fun k hk=>hk.1⟩
  ·have half: ∀i j x y,i≠j→(A++L++[pr w U])[i]? =some x→(A++L++[pr w U])[j]? =some y→x.wr=true→∀k,(if i<A.length then S i else if i<A.length+L.length then S1 (i - A.length)else U) k→¬(if j<A.length then S j else if j<A.length+L.length then S1 (j - A.length)else U) k:=by
    intro i j x y m8 hx hy hw k;rcases jl i x hx with⟨h,hx⟩ | ⟨h,h',hx⟩ | ⟨h,rfl⟩
    ·simp only [if_pos h];rcases jl j y hy with⟨g,hy⟩ | ⟨g,g',hy⟩ | ⟨g,rfl⟩
     ·simp only [if_pos g];exact hS.apart i j x y m8 (gA i x hx) (gA j y hy) (.inl hw) k
     ·simp only [if_neg (aq1.2 g),if_pos g'];intro hk kv;obtain⟨m,hm,X_⟩:=(Zz _ y hy).2 k kv;exact hS.apart i (A.length+m) x _ (by omega) (gA i x hx) (gB m _ (List.getElem?_eq_getElem hm)) (.inl hw) k hk X_
     ·subst g;simp only [if_neg (show¬A.length+L.length<A.length by omega),if_neg (Nat.lt_irrefl _)];exact fun hk hu=>hu.2 i x hx hw hk
    ·rw [wrL _ x hx]at hw;cases hw
    ·cases hw
   intro i j x y m8 hx hy hw k hk kv;rcases hw with hw | hw
   ·exact half i j x y m8 hx hy hw k hk kv
   ·exact half j i y x (Ne.symm m8) hy hx hw k kv hk
 refine(hm w _ o1).mono ?_;rintro e w' ⟨v,hs,rfl,hq,⟨S2,ZA⟩,sU⟩;refine⟨v,hs++B,rfl,⟨hs,hq,rfl⟩,?_,sU⟩;have hK:=ZA.at_ hs.length (pr w U) (by simp);have wr2:=hQ v hs hq;have g2: ∀(i:Nat) x,hs[i]? =some x→(hs++[pr w U])[i]? =some x:=fun i x hx=>by
  rw [aqs (aqo.1 hx).1,hx]
 have inU: ∀(j:Nat) y,(B++Fs)[j]? =some y→∀k,S (A.length+j) k→U k:=by
  intro j y hy k hk;refine⟨(hS.at_ _ y (gR j y hy)).2 k hk,fun i x hx hw kv=>?_⟩;have hl:i<A.length:=(aqo.1 hx).1;exact hS.apart i (A.length+j) x y (by omega) (gA i x hx) (gR j y hy) (.inl hw) k kv hk
 have jl: ∀(i:Nat) x,(hs++B++Fs)[i]? =some x→(i<hs.length∧hs[i]? =some x)∨(hs.length≤i∧(B++Fs)[i - hs.length]? =some x):=by
  intro i x hx;rw [List.append_assoc]at hx;by_cases h1:i<hs.length
  ·rw [aqs h1]at hx;exact .inl ⟨h1,hx⟩
  ·rw [aqt (by omega)]at hx;exact .inr ⟨by omega,hx⟩
 refine⟨fun i=>if i<hs.length then S2 i else S (A.length+(i - hs.length)),⟨?_,?_⟩⟩
 ·intro i x hx;rcases jl i x hx with⟨h,hx⟩ | ⟨h,hx⟩
  ·simp only [if_pos h];exact ZA.at_ i x (g2 i x hx)
  ·simp only [if_neg (aq1.2 h)];obtain⟨hp,hb⟩:=hS.at_ _ x (gR _ x hx);refine⟨x.eY _ _ _ hp fun k hk=>?_,fun k hk=>aqz (hb k hk) sU.size⟩;exact hK.1.2 k (inU _ x hx k hk)
 ·have half: ∀i j x y,i≠j→(hs++B++Fs)[i]? =some x→(hs++B++Fs)[j]? =some y→x.wr=true→∀k,(if i<hs.length then S2 i else S (A.length+(i - hs.length))) k→¬(if j<hs.length then S2 j else S (A.length+(j - hs.length))) k:=by
   intro i j x y m8 hx hy hw k;rcases jl i x hx with⟨h,hx⟩ | ⟨h,hx⟩
   ·simp only [if_pos h];rcases jl j y hy with⟨g,hy⟩ | ⟨g,hy⟩
    ·simp only [if_pos g];exact ZA.apart i j x y m8 (g2 i x hx) (g2 j y hy) (.inl hw) k
    ·simp only [if_neg (aq1.2 g)];intro hk kv;exact ZA.apart i hs.length x (pr w U) (by omega) (g2 i x hx) (by simp) (.inl hw) k hk ((hK.1.1 k).2 (inU _ y hy k kv))
   ·simp only [if_neg (aq1.2 h)];rcases jl j y hy with⟨g,hy⟩ | ⟨g,hy⟩
    ·simp only [if_pos g];intro hk kv;exact ZA.apart j hs.length y (pr w U) (by omega) (g2 j y hy) (by simp) (.inl (wr2 y (aqG hy))) k kv ((hK.1.1 k).2 (inU _ x hx k hk))
    ·simp only [if_neg (aq1.2 g)];exact hS.apart _ _ x y (by omega) (gR _ x hx) (gR _ y hy) (.inl hw) k
  intro i j x y m8 hx hy hw k hk kv;rcases hw with hw | hw
  ·exact half i j x y m8 hx hy hw k hk kv
  ·exact half j i y x (Ne.symm m8) hy hx hw k kv hk
theorem bc.own{t s n:Nat}{v:Value}{cs:List Value}:bc [aB true t s v n cs] (aB false t s v n cs):=by
 refine⟨rfl,fun w S h=>?_⟩;exact⟨_,y9 (h.at_ 0 _ rfl).1,fun k hk=>⟨0,by simp,hk.1⟩⟩
theorem bc.self{h:HP}(hw:h.wr=false):bc [h] h:=⟨hw,fun _ _ hS=>⟨_,(hS.at_ 0 _ rfl).1,fun _ hk=>⟨0,by simp,hk⟩⟩⟩
theorem bc.mid{A B C:List HP}{h:HP}(hb:bc B h):bc (A++B++C) h:=by
 refine⟨hb.1,fun w S hS=>?_⟩;obtain⟨S',hp,hs⟩:=hb.2 w _ (Sep.mid hS);refine⟨S',hp,fun k hk=>?_⟩;obtain⟨i,hi,hk⟩:=hs k hk;exact⟨A.length+i,by simp;omega,hk⟩
theorem bc.left{B C:List HP}{h:HP}(hb:bc B h):bc (B++C) h:=bc.mid (A:=[]) hb
theorem bc.right{A B:List HP}{h:HP}(hb:bc B h):bc (A++B) h:=by
 have:=bc.mid (A:=A) (C:=[]) hb
 rwa [List.append_nil]at this
theorem bc.map{B:List HP}{h h':HP}(hb:bc B h)(hw:h'.wr=false)(hp: ∀w S,h.p w S→∃S':Nat→Prop,h'.p w S'∧∀k,S' k→S k):bc B h':=by
 refine⟨hw,fun w S hS=>?_⟩;obtain⟨S1,h1,h2⟩:=hb.2 w S hS;obtain⟨S2,h3,h4⟩:=hp w S1 h1;exact⟨S2,h3,fun k hk=>h2 k (h4 k hk)⟩
theorem Ed{w:World}{t s n lo hi:Nat}{mx:Option Nat}{v:Value}{cs:List Value}{S:Nat→Prop}(h:(aB false t s v n cs).p w S)(h1:lo≤hi)(h2:hi≤n)(h3: ∀m,mx=some m→hi≤m):
  ∃S':Nat→Prop,(aB false t s (aE s v lo hi mx) (hi - lo) ((cs.drop (lo*s)).take ((hi - lo)*s))).p w S'∧∀k,S' k→S k:=by
 obtain⟨h0,hS⟩:=h;simp only [Bool.false_eq_true,if_false]at h0;obtain⟨hlen,a,m,c,rfl,rfl,QY,hn,hv⟩:=h0;refine⟨fun k=>(aE s (.slice a m c) lo hi mx).ownBlock=some k∧0<hi - lo,⟨?_,fun k=>by simp⟩,?_⟩
 ·simp only [Bool.false_eq_true,if_false];have hm3:(hi - lo)*s=hi*s - lo*s:=by rw [Nat.sub_mul]
  have hm1:hi*s≤m*s:=Nat.mul_le_mul_right s h2;have Zs:lo*s≤hi*s:=Nat.mul_le_mul_right s h1;refine⟨by rw [List.length_take,List.length_drop,hlen];omega,_,_,_,rfl,rfl,?_,?_,?_⟩
  ·cases mx with
   | none=>simp;omega
   | some x=>have:=h3 x rfl;simp;omega
  ·intro he;split at he
   ·have:=hn he;omega
   ·rw [Option.map_eq_none_iff]at he;have:=hn he;omega
  ·intro ad he;by_cases JS:lo=hi
   ·subst JS;refine⟨by omega,?_⟩;simp
   ·have cq:mx.getD c≠lo:=by
     cases mx with
     | none=>simp;omega
     | some x=>have:=h3 x rfl;simp;omega
    rw [if_neg cq,aqq]at he;obtain⟨ZB,rfl,rfl⟩:=he;obtain⟨g1,g2⟩:=hv ZB rfl;refine⟨fun _=>?_,fun j u hu=>?_⟩
    ·have:=g1 (by omega);unfold Addr.add;split
     ·exact this
     ·rfl
    ·rw [List.getElem?_take]at hu;split at hu
     ·rw [List.getElem?_drop]at hu;have:=g2 _ _ hu;rw [←this,dv]
     ·cases hu
 ·rintro k ⟨hk,u_⟩;refine(hS k).2 ⟨?_,.inr (by omega)⟩;unfold aE at hk;simp only [Value.ownBlock]at hk ⊢;cases a with
  | none=>have:=hn rfl;omega
  | some ad=>
   have hb:(ad.add (lo*s)).block=ad.block:=by unfold Addr.add;split<;>rfl
   by_cases hc:mx.getD c=lo
   ·rw [if_pos hc]at hk;exact hk
   ·rw [if_neg hc]at hk;simp only [Option.map_some,hb]at hk;exact hk
theorem bc.sub{B:List HP}{t s n lo hi:Nat}{mx:Option Nat}{v:Value}{cs:List Value}(hb:bc B (aB false t s v n cs))(h1:lo≤hi)(h2:hi≤n)(h3: ∀m,mx=some m→hi≤m):
  bc B (aB false t s (aE s v lo hi mx) (hi - lo) ((cs.drop (lo*s)).take ((hi - lo)*s))):=hb.map rfl fun _ _ h=>Ed h h1 h2 h3
theorem bc.row{b t lo n m:Nat}{wr:Bool}{cs:List Value}(h1:lo+n≤cs.length)(h2:n≤m):
  bc [ak b wr cs] (aB false t 1 (.slice (some ⟨b,lo,none⟩) n m) n ((cs.drop lo).take n)):=by
 refine⟨rfl,fun w S h=>?_⟩;obtain⟨⟨hs,ty,fz,hb,_⟩,_⟩:=h.at_ 0 _ rfl;refine⟨fun k=>k=b∧0<n,⟨?_,fun k=>?_⟩,fun k hk=>⟨0,by simp,(hs k).2 hk.1⟩⟩
 ·simp only [Bool.false_eq_true,if_false];refine⟨by rw [List.length_take,List.length_drop];omega,_,_,_,rfl,rfl,h2,by simp,?_⟩;intro ad he;cases he;refine⟨fun _=>rfl,fun j u hu=>?_⟩;rw [List.getElem?_take]at hu;split at hu
  ·rw [List.getElem?_drop]at hu;have hx:=hu;have hA:(⟨b,lo,none⟩:Addr).add j=⟨b,lo+j,none⟩:=by
    unfold Addr.add;by_cases h0:j=0
    ·rw [if_pos h0,h0];rfl
    ·rw [if_neg h0]
   rw [hA];simp only [World.cell?,hb];simpa using hx
  ·cases hu
 ·simp [Value.ownBlock,eq_comm]
def ends(k m:Nat)(hs:List HP):List HP:=hs.take k++(hs.drop k).drop ((hs.drop k).length - m)
theorem M4(k m:Nat)(hs:List HP):(ends k m hs).Sublist hs:=by
 unfold ends
 conv=>rhs;rw [←List.take_append_drop k hs]
 exact List.Sublist.append (List.Sublist.refl _) (List.drop_sublist _ _)
theorem bc.nil{B:List HP}{t s:Nat}:bc B (aB false t s (.slice none 0 0) 0 []):=by
 refine⟨rfl,fun w S _=>⟨fun _=>False,⟨?_,fun k=>by simp⟩,fun _ h=>h.elim⟩⟩;simp only [Bool.false_eq_true,if_false];refine⟨by simp,none,0,0,rfl,rfl,Nat.le_refl _,fun _=>rfl,?_⟩;intro ad h;cases h
theorem aq.TX{P:Program}{f:Nat}{args:List Value}{A B L:List HP}{Q:Value→List HP→Prop}(hm:aq P f args (A++L) fun v hs=> ∃nw,Q v nw∧hs=A++nw)(hA: ∀h∈A,h.wr=true)(hQ: ∀v nw,Q v nw→∀h∈nw,h.wr=true)(hL: ∀h∈L,bc B h):
  aq P f args (A++B) fun v hs=> ∃nw,Q v nw∧hs=A++B++nw:=by
 refine aq.post (aq.Cg hm ?_ hL) ?_
 ·rintro v hs ⟨nw,hq,rfl⟩ h hh;rcases aqC.1 hh with hh | hh
  ·exact hA h hh
  ·exact hQ v nw hq h hh
 ·rintro v hs ⟨xQ,⟨nw,hq,rfl⟩,rfl⟩;refine⟨A++B++nw,bJ.perm ?_,nw,hq,rfl⟩;rw [List.append_assoc,List.append_assoc];exact List.Perm.append_left A List.perm_append_comm
open Go.Proofs
section
variable {C:Ctx} {f:Nat} {fd:Func} (args:List SV) (hp:List Ck) (aW:ct) (ρ:Env) {al:Value→List HP→Prop} {s:Prop}
theorem mtB(hf:Tryz.prog.funcs[f]? =some fd)(hv:VC aqQ (fun v _=>al v []) (nZ C f args hp aW fd) ρ (fun _=>LC.none)=s)(h:s)(hT:bx aqQ C.T=true:=by exact U7)(Bo:aH aqQ C.FT:=by exact GD)(hl:hG ρ aW:=by constructor<;>rfl)
  (D_:iu aqQ C:=by exact iu.none rfl):aq aqQ f (SV.bD ρ args) (hp.map (Ck.den ρ)) al:=
 aq.post (aq.rA (C:=C) hT Bo U8 hf hl rfl hv h D_) fun _ hs hq=>⟨_,bJ.sub (List.nil_sublist hs),hq⟩
theorem mtE(k m:Nat)(hf:Tryz.prog.funcs[f]? =some fd)(hv:VC aqQ (fun v hs=>al v (ends k m hs)) (nZ C f args hp aW fd) ρ (fun _=>LC.none)=s)(h:s)(hT:bx aqQ C.T=true:=by exact U7)(Bo:aH aqQ C.FT:=by exact GD)(hl:hG ρ aW:=by constructor<;>rfl)
  (D_:iu aqQ C:=by exact iu.none rfl):aq aqQ f (SV.bD ρ args) (hp.map (Ck.den ρ)) al:=
 aq.post (aq.rA (C:=C) hT Bo U8 hf hl rfl hv h D_) fun _ hs hq=>⟨_,bJ.sub (M4 k m hs),hq⟩
theorem sW(k:Nat)(hf:Tryz.prog.funcs[f]? =some fd)(hv:VC aqQ (fun v hs=>al v (hs.take k)) (nZ C f args hp aW fd) ρ (fun _=>LC.none)=s)(h:s)(hT:bx aqQ C.T=true:=by exact U7)(Bo:aH aqQ C.FT:=by exact GD)(hl:hG ρ aW:=by constructor<;>rfl)
  (D_:iu aqQ C:=by exact iu.none rfl):aq aqQ f (SV.bD ρ args) (hp.map (Ck.den ρ)) al:=
 aq.post (aq.rA (C:=C) hT Bo U8 hf hl rfl hv h D_) fun _ hs hq=>⟨_,bJ.sub (List.take_sublist k hs),hq⟩
theorem xp(hf:Tryz.prog.funcs[f]? =some fd)(hv:VC aqQ al (nZ C f args hp aW fd) ρ (fun _=>LC.none)=s)(h:s)(hT:bx aqQ C.T=true:=by exact U7)(Bo:aH aqQ C.FT:=by exact GD)(hl:hG ρ aW:=by constructor<;>rfl)
  (D_:iu aqQ C:=by exact iu.none rfl):aq aqQ f (SV.bD ρ args) (hp.map (Ck.den ρ)) al:=
 aq.rA (C:=C) hT Bo U8 hf hl rfl hv h D_
end
abbrev bo(v:V1)(n:Int)(A:Nat→Int):HP:=aB true 5 1 v.v n.toNat (aK n.toNat [aC .u8 1 A])
abbrev bi(v:V1)(n:Int)(A:Nat→Int):HP:=aB false 5 1 v.v n.toNat (aK n.toNat [aC .u8 1 A])
abbrev bn(md:Bool)(v:V1)(n:Nat)(A:Nat→Int):HP:=aB md 5 1 v.v n (aK n [aC .u8 1 A])
abbrev PT:=Value→List HP→Prop
abbrev Cl(f:Nat)(a:List Value)(L:List HP)(K:Value→List HP→List HP→Prop):Prop:= ∃post,aq aqQ f a L post∧∀x hs,post x hs→K x hs L
abbrev iQ(x:Int)(p:Prop):Prop:=ax (-9223372036854775808≤x) (ax (x≤9223372036854775807) p)
abbrev kE(x:Int)(p:Prop):Prop:=ax (x≤140737488355328) p
section
variable {H:Type} {enc:TypeId×Value→H} {P:Program} {w:World} {base:Nat} {spare:Nat→Bool} {held:Bool}
end
abbrev M5(l:List (Nat→List Value))(i:Nat):List Value:=l.flatMap fun c=>c i
end Go.RX

namespace Go.RX.Vb
open Go.RX
def u8(i:Nat):SV:= .int .u8 (.var i)
def u32(i:Nat):SV:= .int .u32 (.var i)
def u64(i:Nat):SV:= .int .u64 (.var i)
def uU(a:Nat):List bL:=[⟨.int .u8,1,.cI a⟩]
def M6:List Ck:=[.row 0 true [.bool (.lit true),.vv 0,.bool (.lit false)],.cr true 0 5 1 (.var 0) (uU 0)]
def Rr:List Ck:=[.row 0 true [.bool (.lit false),.vv 0,.bool (.lit false)],.cr false 0 5 1 (.var 0) (uU 0)]
def Iu:List Ck:=[.row 0 true [.bool (.lit false),.vv 0,.bool (.lit true)]]
def y_:ct:={b:=1,v:=1,i:=2,a:=1}
def Ch(k:Nat):List SV:=[.ptr 0 0,u64 1,.int .i64 (.lit k)]
def TY:List SV:=[.ptr 0 0,.int .i64 (.var 1)]
end Go.RX.Vb

namespace Go.RX.Vc
open Go.RX Go.RX.Vb
def qE(b:Nat):Ck→Bool
 | .row b' .. =>b'==b
 | _=>false
def kb(v:Nat):Ck→Bool
 | .cr _ v' .. =>v'==v
 | _=>false
def Kb(b:Nat)(hp:List Ck):List Nat:=
 match hp.findIdx? (qE b)with
 | some i=>match hp[i]? with
  | some (.row _ _ [_,.vv v,_])=>match hp.findIdx? (kb v)with
   | some j=>[i,j]
   | none=>[i]
  | _=>[i]
 | none=>[]
def U9(az:List SV)(hp:List Ck):List Nat:=
 match az with
 | .ptr b _::_=>Kb b hp
 | _=>[]
def Ci(v n bo a:Nat):List Ck→List Ck
 | [.row b wr [.bool (.lit true),_,m],.cr md _ t s _ _]=>[.row b wr [.bool (.lit true),.vv v,m],.cr md v t s (.var n) (uU a)]
 | [.row b wr [.bool (.lit false),_,_],.cr md _ t s _ _]=>[.row b wr [.bool (.lit false),.vv v,.bool (.var bo)],.cr md v t s (.var n) (uU a)]
 | l=>l
def nE:aI:={use:=U9,inc:={v:=1,i:=2,a:=1,bo:=1},val:=fun c=> .int .u64 (.var c.i),new:=fun c h=>Ci c.v (c.i+1) c.bo c.a h}
def za:aI:={use:=U9,inc:={v:=2,i:=2,a:=2,bo:=1},val:=fun c=> .vv (c.v+1),new:=fun c h=>Ci c.v c.i c.bo c.a h++[.cr false (c.v+1) 5 1 (.var (c.i+1)) (uU (c.a+1))]}
def iy(b:Nat)(hp:List Ck):List Nat:=(hp.findIdx? (qE b)).toList
def Kc(b:Nat)(hp:List Ck):List Nat:=
 match hp.findIdx? (qE b)with
 | some i=>match hp[i]? with
  | some (.row _ _ (.ptr d _::_))=>iy d hp
  | _=>[]
 | none=>[]
def ad4(az:List SV)(hp:List Ck):List Nat:=
 U9 az hp++match az with
 | [_,.sl b ..]=>Kc b hp++iy b hp
 | _=>[]
def newF(v n bo a:Nat):List Ck→List Ck
 | x::y::r=>Ci v n bo a [x,y]++r
 | l=>l
def zb:aI:={use:=ad4,inc:={v:=1,i:=1,a:=1,bo:=1},val:=fun _=> .nO [],new:=fun c h=>newF c.v c.i c.bo c.a h}
def qF(f:Nat):Option aI:=
 match f with
 | 21=>some nE
 | 58=>some zb
 | _=>none
def bj(f:Nat):Option aI:=
 match f with
 | 21=>some nE
 | 45=>some za
 | _=>none
def ZC:List Ck→Option Nat
 | .row 0 _ [_,.vv v,_]::_=>some v
 | _::r=>ZC r
 | []=>none
def ZD(o v n bo a:Nat):Ck→Ck
 | .row 0 wr [.bool (.lit true),_,m]=> .row 0 wr [.bool (.lit true),.vv v,m]
 | .row 0 wr [.bool (.lit false),_,_]=> .row 0 wr [.bool (.lit false),.vv v,.bool (.var bo)]
 | .cr md v' t s n' cs=>if v'=o then .cr md v t s (.var n) (uU a)else .cr md v' t s n' cs
 | c=>c
def xX(v n bo a:Nat)(hp:List Ck):List Ck:=
 match ZC hp with
 | some o=>hp.map (ZD o v n bo a)
 | none=>hp
def dU(a:Nat):List bL:=[⟨.int .u8,32,.cI a⟩,⟨.int .u32,1,.cI (a+1)⟩,⟨.int .u8,32,.cI (a+2)⟩]
def Cj(b i v t s n:Nat)(cs:List bL):List Ck→List Ck
 | .row b' wr c::r=>if b'=b then .row b' wr (c.set i (.vv v))::r.map (xE v)else .row b' wr c::Cj b i v t s n cs r
 | x::r=>xE v x::Cj b i v t s n cs r
 | []=>[]
 where xE (v:Nat):Ck→Ck
 | .cr true v' t' s' n' tI=>if t'=t∧s'=s then .cr true v t s (.var n) cs else .cr true v' t' s' n' tI
 | x=>x
def M7(f id:Nat):Option ei:=
 match f,id with
 | 187,0=>some {inc:={i:=2,v:=1,a:=1,bo:=1},aU:=fun c=>[(25,.int .i64 (.var c.i))],hp:=fun c h=>xX c.v (c.i+1) c.bo c.a h}
 | 187,2=>some {pre:=[.cell 2 13 245],inc:={i:=3,v:=2,a:=4,bo:=1},aU:=fun c=>[(6,.int .u64 (.var c.i))],hp:=fun c h=>Cj 1 13 (c.v+1) 245 65 (c.i+2) (dU (c.a+1)) (xX c.v (c.i+1) c.bo c.a h)}
 | _,_=>none
def key(a:Nat):SV:= .cQ .u8 32 (.cI a)
def Ee:SV:= .cQ .u8 32 (.lit 0)
def bl(i:Nat):SV:= .bool (.nz (.var i))
def Rs:SV:= .bool (.lit false)
def M8:SV:= .int .u32 (.lit 0)
def M9:List SV:=[Ee,Ee,Ee,Ee,Rs,Rs,Rs,Rs,Ee,M8,Ee,M8,M8,.bu,Ee,Ee,Rs,M8,Rs,Rs]
def Ru(i a v:Nat):List SV:=[key a,key (a+1),key (a+2),key (a+3),bl i,bl (i+1),bl (i+2),bl (i+3),key (a+4),u32 (i+4),key (a+5),u32 (i+5),u32 (i+6),.vv v,key (a+6),key (a+7),bl (i+7),u32 (i+8),bl (i+9),bl (i+10)]
def wIn:List Ck:=[.row 0 true [.bool (.lit false),.vv 0,.bool (.var 0)],.cr false 0 5 1 (.var 0) (uU 0)]
def Ef:List Ck:=[.row 0 true [.bool (.lit true),.vv 0,.bool (.lit false)],.cr true 0 5 1 (.var 0) (uU 0)]
def ZE:List SV:=[.ptr 0 0,.ptr 1 0]
def ad5:List Ck:=wIn++[.row 1 true M9]
def ZF:ct:={b:=2,v:=1,i:=1,a:=1,bo:=1}
def ad6:List Ck:=Ef++[.row 1 true (Ru 2 1 1),.cr false 1 245 65 (.var 1) (dU 9)]
def ZG:ct:={b:=2,v:=2,i:=13,a:=12,bo:=0}
end Go.RX.Vc

namespace Go.RX.Vd
open Go.RX Go.RX.Vb Go.RX.Vc
def Kd:aI:={use:=fun az hp=>match az with | [.vv v]=>(hp.findIdx? (kb v)).toList | _=>[],inc:={v:=1,i:=1,a:=1},val:=fun c=> .vv c.v,new:=fun c h=>h++[.cr true c.v 5 1 (.var c.i) (uU c.a)]}
def mP(hp:List Ck):List Nat:=(hp.findIdx? fun c=>match c with | .abs _=>true | _=>false).toList
def Iv(az:List SV)(hp:List Ck):List Nat:=
 Kb 0 hp++(match az with | .ptr b _::_=>iy b hp | _=>[])++(match az with | [_,.ptr b _]=>iy b hp | _=>[])++mP hp
def M_(c:ct):List Ck→List Ck
 | x::y:: .row b w _::box::_=>Ci c.v (c.i+3) c.bo c.a [x,y]++[.row b w [.int .u8 (.var c.i),.int .u8 (.var (c.i+1)),.Ia (.var (c.i+2))],box,.abs c.p]
 | l=>l
def Ke:aI:={use:=Iv,inc:={v:=1,i:=4,a:=1,bo:=1,p:=1},val:=fun _=> .nO [],new:=M_}
def Eg(c:ct):List Ck→List Ck
 | x::y::r=>Ci c.v c.i c.bo c.a [x,y]++r
 | l=>l
def Kf:aI:={use:=Iv,inc:={v:=1,i:=1,a:=1,bo:=1},val:=fun _=> .nO [],new:=Eg}
def Rv(az:List SV)(hp:List Ck):List Nat:=
 Kb 0 hp++(match az with | .ptr b _::_=>iy b hp | _=>[])++(match az with | [_,.ptr b _]=>iy b hp | _=>[])
def Na(c:ct):List Ck→List Ck
 | x::y:: .row b w _::r=>Ci c.v (c.i+3) c.bo c.a [x,y]++ .row b w [.cQ .u8 16 (.cI (c.a+1)),.int .u8 (.var c.i),.bool (.nz (.var (c.i+1))),.int .u64 (.var (c.i+2))]::r
 | l=>l
def Kg:aI:={use:=Rv,inc:={v:=1,i:=4,a:=2,bo:=1},val:=fun _=> .nO [],new:=Na}
def zd(f:Nat):Option aI:=
 match f with
 | 21=>some nE
 | 45=>some za
 | 111=>some Kd
 | 102=>some Ke
 | 55=>some Kg
 | _=>none
def qF(f:Nat):Option aI:=
 match f with
 | 21=>some nE
 | 58=>some zb
 | 102=>some Kf
 | _=>none
def dG(a:Nat):List bL:=[⟨.int .u32,1,.cI a⟩,⟨.int .u8,32,.cI (a+1)⟩]
def bO(a:Nat):List bL:=[⟨.int .u8,1,.cI a⟩,⟨.int .u8,1,.cI (a+1)⟩,⟨.cv,1,.cI (a+2)⟩]
def ZH(a:Nat):List bL:=[⟨.int .u8,16,.cI a⟩]
def gu(a:Nat):List bL:=[⟨.int .u8,1,.cI a⟩,⟨.int .u8,1,.cI (a+1)⟩]
def dQ(a:Nat):List bL:=[⟨.int .u8,16,.cI a⟩,⟨.int .u8,1,.cI (a+1)⟩,⟨.bool,1,.cI (a+2)⟩,⟨.int .u64,1,.cI (a+3)⟩]
def ZI(p:Nat)(hp:List Ck):List Ck:=hp.map fun c=>match c with | .abs _=> .abs p | c=>c
def Br(i t s:Nat)(cs:Nat→List bL)(na:Nat)(p:Bool):ei:=
 {pre:=[.cell 2 i t],inc:={i:=3,v:=2,a:=1+na,bo:=1,p:=if p then 1 else 0},aU:=fun c=>[(6,.int .u64 (.var c.i))],hp:=fun c h=>Cj 1 i (c.v+1) t s (c.i+2) (cs (c.a+1)) (xX c.v (c.i+1) c.bo c.a (if p then ZI c.p h else h))}
def pO:ei:={inc:={i:=2,v:=1,a:=1,bo:=1},aU:=fun c=>[(25,.int .i64 (.var c.i))],hp:=fun c h=>xX c.v (c.i+1) c.bo c.a h}
def loops(f id:Nat):Option ei:=
 match f,id with
 | 152,0=>some pO
 | 101,0=>some pO
 | 106,0=>some pO
 | 108,0=>some pO
 | 54,0=>some pO
 | 152,2=>some (Br 6 93 33 dG 2 false)
 | 101,2=>some (Br 8 68 3 bO 3 true)
 | 106,2=>some (Br 12 36 16 ZH 1 false)
 | 108,2=>some (Br 24 26 2 gu 2 false)
 | 54,2=>some (Br 32 98 19 dQ 4 false)
 | _,_=>none
def Nb:SV:= .int .u8 (.lit 0)
def GG:SV:= .int .u64 (.lit 0)
def ZJ:SV:= .int .i64 (.lit 0)
def sg(n:Nat)(a:Nat):SV:= .cQ .u8 n (.cI a)
def Rw(n:Nat):SV:= .cQ .u8 n (.lit 0)
def Rx:List SV:=[Rw 32,GG,Nb,Nb,Rw 32,Rw 32,.bu,ZJ,.bu,Nb,Nb,Rw 8,.bu,Nb,Rw 16,Rs,Nb,Nb,Nb,Rw 32,Rw 32,Rw 32,.bu,ZJ,.bu,GG,GG,GG,GG,GG,M8,.bu,.bu]
def i64(i:Nat):SV:= .int .i64 (.var i)
def TZ(i a v:Nat):List SV:=[sg 32 a,u64 i,u8 (i+1),u8 (i+2),sg 32 (a+1),sg 32 (a+2),.vv v,i64 (i+3),.vv (v+1),u8 (i+4),u8 (i+5),sg 8 (a+3),.vv (v+2),u8 (i+6),sg 16 (a+4),bl (i+7),u8 (i+8),u8 (i+9),u8 (i+10),sg 32 (a+5),sg 32 (a+6),sg 32 (a+7),.vv (v+3),i64 (i+11),.vv (v+4),u64 (i+12),u64 (i+13),u64 (i+14),u64 (i+15),u64 (i+16),u32 (i+17),.vv (v+5),.vv (v+6)]
def ZK(md:Bool)(i a v:Nat):List Ck:=[.cr md v 93 33 (.var i) (dG a),.cr md (v+1) 68 3 (.var (i+1)) (bO (a+2)),.cr md (v+2) 36 16 (.var (i+2)) (ZH (a+5)),.cr md (v+3) 5 1 (.var (i+3)) (uU (a+6)),.cr md (v+4) 26 2 (.var (i+4)) (gu (a+7)),.cr md (v+5) 5 1 (.var (i+5)) (uU (a+9)),.cr md (v+6) 98 19 (.var (i+6)) (dQ (a+10))]
def stA:List SV:=[.ptr 0 0,.ptr 1 0]
def ZL:List Ck:=wIn++[.row 1 true Rx,.abs 0]
def Kh:ct:={b:=2,v:=1,i:=1,a:=1,bo:=1,p:=1}
def hpO:List Ck:=Ef++[.row 1 true (TZ 1 1 1)]++ZK false 19 9 1++[.abs 0]
def U_:ct:={b:=2,v:=8,i:=26,a:=23,bo:=0,p:=1}
end Go.RX.Vd

namespace Go.RX.Ve
open Go.RX Go.RX.Vb Go.RX.Vc Go.RX.Vd
def ad8(i a:Nat):List SV:=[key a,key (a+1),key (a+2),key (a+3),bl i,bl (i+1),bl (i+2),bl (i+3),key (a+4),u32 (i+4),key (a+5),u32 (i+5),u32 (i+6),.Ia (.var (i+7)),key (a+6),key (a+7),bl (i+8),u32 (i+9),bl (i+10),bl (i+11)]
def kC(a:Nat):bL:=⟨.int .u8,32,.cI a⟩
def bC(a:Nat):bL:=⟨.bool,1,.cI a⟩
def nC(a:Nat):bL:=⟨.int .u32,1,.cI a⟩
def bR(a:Nat):List bL:=[kC a,kC (a+1),kC (a+2),kC (a+3),bC (a+4),bC (a+5),bC (a+6),bC (a+7),kC (a+8),nC (a+9),kC (a+10),nC (a+11),nC (a+12),⟨.cv,1,.cI (a+13)⟩,kC (a+14),kC (a+15),bC (a+16),nC (a+17),bC (a+18),bC (a+19)]
def Nc(az:List SV)(hp:List Ck):List Nat:=
 Kb 0 hp++(match az with | [_,.ptr b _]=>iy b hp | _=>[])++mP hp
def Ry(c:ct):List Ck→List Ck
 | x::y:: .row b w _::_=>Ci c.v (c.i+12) c.bo c.a [x,y]++[.row b w (ad8 c.i (c.a+1)),.abs c.p]
 | l=>l
def Nd:aI:={use:=Nc,inc:={v:=1,i:=13,a:=9,bo:=1,p:=1},val:=fun _=> .nO [],new:=Ry}
def Nf:aI:={use:=Nc,inc:={v:=1,i:=1,a:=1,bo:=1},val:=fun _=> .nO [],new:=Eg}
def zd(f:Nat):Option aI:=
 match f with
 | 21=>some nE
 | 45=>some za
 | 105=>some Nd
 | _=>none
def qF(f:Nat):Option aI:=
 match f with
 | 21=>some nE
 | 58=>some zb
 | 105=>some Nf
 | _=>none
def loops(f id:Nat):Option ei:=
 match f,id with
 | 104,0=>some pO
 | 104,2=>some (Br 2 77 268 bR 20 true)
 | _,_=>none
def Ng:List SV:=[.ptr 1 0,.ptr 2 0]
def ZL:List Ck:=wIn++[.row 1 true [Nb,Nb,.bu],.row 2 true [.ptr 0 0],.abs 0]
def Kh:ct:={b:=3,v:=1,i:=1,a:=1,bo:=1,p:=1}
def hpO:List Ck:=Ef++[.row 1 true [u8 1,u8 2,.vv 1],.row 2 true [.ptr 0 0],.cr false 1 77 268 (.var 3) (bR 1),.abs 0]
def U_:ct:={b:=3,v:=2,i:=4,a:=21,bo:=0,p:=1}
def hpR:List Ck:=wIn++[.row 1 true [Rw 16,Nb,Rs,GG],.row 2 true [.ptr 0 0]]
def ad9:ct:={b:=3,v:=1,i:=1,a:=1,bo:=1}
end Go.RX.Ve

namespace Go.RX.Vb
open Go Go.RX Go.Proofs
abbrev pp(b:Nat):Value:= .pointer (some ⟨b,0,none⟩)
def ZM(k:Nat):List SV:=[.ptr 0 0,.sl 2 (.lit 0) 1 (.lit k) (.lit k)]
def ZN(l:List Nat):Ck:= .row 2 true (l.map fun i=> .ptr 1 i)
abbrev bf(a0:V1)(a1:Int)(a2:Nat→Int):HP:=aB false 5 1 a0.v (ag a1) (aK (ag a1) [aC .u8 1 a2])
abbrev bp(a0:V1)(a1:Int)(a2:Nat→Int):HP:=aB true 5 1 a0.v (ag a1) (aK (ag a1) [aC .u8 1 a2])
abbrev rN(a0:Nat)(a1 a2 a3 a4:Nat→Int)(a5 a6 a7 a8:Bool)(a9:Nat→Int)(GH:Int)(Eh:Nat→Int)(Nh Ni:Int)(Nj:V1)(Nk Nl:Nat→Int)(Nm:Bool)(Nn:Int)(Np Nq:Bool):HP:=ak a0 true (aqk (aj .u8 32 a1) (aqk (aj .u8 32 a2) (aqk (aj .u8 32 a3) (aqk (aj .u8 32 a4) (.bool a5::(.bool a6::(.bool a7::(.bool a8::(aqk (aj .u8 32 a9) (.int .u32 GH::(aqk (aj .u8 32 Eh) (.int .u32 Nh::(.int .u32 Ni::(Nj.v::(aqk (aj .u8 32 Nk) (aqk (aj .u8 32 Nl) ([.bool Nm,.int .u32 Nn,.bool Np,.bool Nq])))))))))))))))))
abbrev Ap(a0:Nat→Int)(a1 a2 a3:Int)(a4 a5:Nat→Int)(a6:V1)(a7:Int)(a8:V1)(a9 GH:Int)(Eh:Nat→Int)(Nh:V1)(Ni:Int)(Nj:Nat→Int)(Nk:Bool)(Nl Nm Nn:Int)(Np Nq Rz:Nat→Int)(ZO:V1)(ZP:Int)(ZQ:V1)(ZR ZS ZT ZU ZV ZW:Int)(a31 a32:V1):Value:= .agg (aqk (aj .u8 32 a0) (.int .u64 a1::(.int .u8 a2::(.int .u8 a3::(aqk (aj .u8 32 a4) (aqk (aj .u8 32 a5) (a6.v::(.int .i64 a7::(a8.v::(.int .u8 a9::(.int .u8 GH::(aqk (aj .u8 8 Eh) (Nh.v::(.int .u8 Ni::(aqk (aj .u8 16 Nj) (.bool Nk::(.int .u8 Nl::(.int .u8 Nm::(.int .u8 Nn::(aqk (aj .u8 32 Np) (aqk (aj .u8 32 Nq) (aqk (aj .u8 32 Rz) ([ZO.v,.int .i64 ZP,ZQ.v,.int .u64 ZR,.int .u64 ZS,.int .u64 ZT,.int .u64 ZU,.int .u64 ZV,.int .u32 ZW,a31.v,a32.v]))))))))))))))))))))))).toArray
abbrev T1(a0:Nat):HP:=ak a0 true (aqk (aj .u8 32 (fun _=>0)) (.int .u64 0::(.int .u8 0::(.int .u8 0::(aqk (aj .u8 32 (fun _=>0)) (aqk (aj .u8 32 (fun _=>0)) (.slice none 0 0::(.int .i64 0::(.slice none 0 0::(.int .u8 0::(.int .u8 0::(aqk (aj .u8 8 (fun _=>0)) (.slice none 0 0::(.int .u8 0::(aqk (aj .u8 16 (fun _=>0)) (.bool false::(.int .u8 0::(.int .u8 0::(.int .u8 0::(aqk (aj .u8 32 (fun _=>0)) (aqk (aj .u8 32 (fun _=>0)) (aqk (aj .u8 32 (fun _=>0)) ([.slice none 0 0,.int .i64 0,.slice none 0 0,.int .u64 0,.int .u64 0,.int .u64 0,.int .u64 0,.int .u64 0,.int .u32 0,.slice none 0 0,.slice none 0 0])))))))))))))))))))))))
abbrev cC(a0:Nat)(a1:V1)(a2:Bool):HP:=ak a0 true ([.bool false,a1.v,.bool a2])
abbrev cV(a0:Nat)(a1:V1):HP:=ak a0 true ([.bool true,a1.v,.bool false])
abbrev Qr(a0:Nat)(a1:Nat→Int)(a2 a3 a4:Int)(a5 a6:Nat→Int)(a7:V1)(a8:Int)(a9:V1)(GH Eh:Int)(Nh:Nat→Int)(Ni:V1)(Nj:Int)(Nk:Nat→Int)(Nl:Bool)(Nm Nn Np:Int)(Nq Rz ZO:Nat→Int)(ZP:V1)(ZQ:Int)(ZR:V1)(ZS ZT ZU ZV ZW a31:Int)(a32 a33:V1):HP:=ak a0 true (aqk (aj .u8 32 a1) (.int .u64 a2::(.int .u8 a3::(.int .u8 a4::(aqk (aj .u8 32 a5) (aqk (aj .u8 32 a6) (a7.v::(.int .i64 a8::(a9.v::(.int .u8 GH::(.int .u8 Eh::(aqk (aj .u8 8 Nh) (Ni.v::(.int .u8 Nj::(aqk (aj .u8 16 Nk) (.bool Nl::(.int .u8 Nm::(.int .u8 Nn::(.int .u8 Np::(aqk (aj .u8 32 Nq) (aqk (aj .u8 32 Rz) (aqk (aj .u8 32 ZO) ([ZP.v,.int .i64 ZQ,ZR.v,.int .u64 ZS,.int .u64 ZT,.int .u64 ZU,.int .u64 ZV,.int .u64 ZW,.int .u32 a31,a32.v,a33.v])))))))))))))))))))))))
abbrev Ya:Value:= .agg (aqk (aj .u8 32 (fun _=>0)) (.int .u64 0::(.int .u8 0::(.int .u8 0::(aqk (aj .u8 32 (fun _=>0)) (aqk (aj .u8 32 (fun _=>0)) (.slice none 0 0::(.int .i64 0::(.slice none 0 0::(.int .u8 0::(.int .u8 0::(aqk (aj .u8 8 (fun _=>0)) (.slice none 0 0::(.int .u8 0::(aqk (aj .u8 16 (fun _=>0)) (.bool false::(.int .u8 0::(.int .u8 0::(.int .u8 0::(aqk (aj .u8 32 (fun _=>0)) (aqk (aj .u8 32 (fun _=>0)) (aqk (aj .u8 32 (fun _=>0)) ([.slice none 0 0,.int .i64 0,.slice none 0 0,.int .u64 0,.int .u64 0,.int .u64 0,.int .u64 0,.int .u64 0,.int .u32 0,.slice none 0 0,.slice none 0 0]))))))))))))))))))))))).toArray
abbrev fu(a0:Nat)(a1:V1)(a2:Bool):HP:=ak a0 true ([.bool true,a1.v,.bool a2])
abbrev Bs(a0 a1:Nat):HP:=ak a0 true ([.pointer (some ⟨a1,128,none⟩),.pointer (some ⟨a1,129,none⟩),.pointer (some ⟨a1,130,none⟩),.pointer (some ⟨a1,131,none⟩)])
abbrev De(a0:V1)(a1:Int)(a2 a3 a4:Nat→Int):HP:=aB true 68 3 a0.v (ag a1) (aK (ag a1) [aC .u8 1 a2,aC .u8 1 a3,fN 1 (fun j=>cX (a4 j))])
abbrev pZ(a0:V1)(a1:Int)(a2 a3 a4 a5:Nat→Int):HP:=aB true 98 19 a0.v (ag a1) (aK (ag a1) [aC .u8 16 a2,aC .u8 1 a3,ij 1 a4,aC .u64 1 a5])
abbrev p5(a0:V1)(a1:Int)(a2 a3:Nat→Int):HP:=aB true 93 33 a0.v (ag a1) (aK (ag a1) [aC .u32 1 a2,aC .u8 32 a3])
abbrev p6(a0:V1)(a1:Int)(a2 a3:Nat→Int):HP:=aB true 26 2 a0.v (ag a1) (aK (ag a1) [aC .u8 1 a2,aC .u8 1 a3])
abbrev Qs:Value:= .agg (aqk (aj .u8 16 (fun _=>0)) ([.int .u8 0,.bool false,.int .u8 0,.int .u64 0,.int .u64 0,.int .u64 0])).toArray
abbrev p7(a0:V1)(a1:Int)(a2:Nat→Int):HP:=aB true 36 16 a0.v (ag a1) (aK (ag a1) [aC .u8 16 a2])
abbrev rO(a0:V1)(a1:Int)(a2 a3:Nat→Int):HP:=aB false 93 33 a0.v (ag a1) (aK (ag a1) [aC .u32 1 a2,aC .u8 32 a3])
abbrev xF(a0:V1)(a1:Int)(a2 a3 a4:Nat→Int):HP:=aB false 68 3 a0.v (ag a1) (aK (ag a1) [aC .u8 1 a2,aC .u8 1 a3,fN 1 (fun j=>cX (a4 j))])
abbrev sX(a0:V1)(a1:Int)(a2 a3:Nat→Int):HP:=aB false 26 2 a0.v (ag a1) (aK (ag a1) [aC .u8 1 a2,aC .u8 1 a3])
abbrev ze(a0:V1)(a1:Int)(a2 a3 a4 a5:Nat→Int):HP:=aB false 98 19 a0.v (ag a1) (aK (ag a1) [aC .u8 16 a2,aC .u8 1 a3,ij 1 a4,aC .u64 1 a5])
abbrev sY(a0:V1)(a1:Int)(a2:Nat→Int):HP:=aB false 36 16 a0.v (ag a1) (aK (ag a1) [aC .u8 16 a2])
abbrev GI(a0:Nat)(a1 a2:Nat→Int):HP:=nQ a0 [.u8,.u8,.u8,.u8,.u8,.u8,.u8,.u8,.u8,.u8,.u8,.u8,.u8,.u8,.u8,.u8] true false ([.pointer none]) a1 (M5 [tH 1 a2])
abbrev RA(a0:Nat)(a1 a2:Int)(a3:Nat→Int)(a4 a5 a6 a7:Int)(a8:Nat):HP:=ak a0 true (.int .u8 a1::(.int .u8 a2::(.nilIface::(aqk (aj .u8 32 a3) (.int .u64 a4::((cA a5)::((cA a6)::((cA a7)::(.map (some a8)::(aqk (aj .u8 16 (fun _=>0)) ([])))))))))))
abbrev ZX(a0:Nat):HP:=ak a0 true (aqk (aj .u8 32 (fun _=>0)) (aqk (aj .u8 32 (fun _=>0)) (aqk (aj .u8 32 (fun _=>0)) (aqk (aj .u8 32 (fun _=>0)) (.bool false::(.bool false::(.bool false::(.bool false::(aqk (aj .u8 32 (fun _=>0)) (.int .u32 0::(aqk (aj .u8 32 (fun _=>0)) (.int .u32 0::(.int .u32 0::(.slice none 0 0::(aqk (aj .u8 32 (fun _=>0)) (aqk (aj .u8 32 (fun _=>0)) ([.bool false,.int .u32 0,.bool false,.bool false])))))))))))))))))
abbrev RB(a0:Nat)(a1 a2:Int)(a3:Nat→Int)(a4 a5 a6 a7:Int)(a8:Nat)(a9:Nat→Int):HP:=ak a0 true (.int .u8 a1::(.int .u8 a2::(.nilIface::(aqk (aj .u8 32 a3) (.int .u64 a4::((cA a5)::((cA a6)::((cA a7)::(.map (some a8)::(aqk (aj .u8 16 a9) ([])))))))))))
abbrev RC(a0:V1)(a1:Int)(a2 a3 a4 a5 a6 a7 a8 a9 GH Eh Nh Ni Nj Nk Nl Nm Nn Np Nq Rz:Nat→Int):HP:=aB false 77 268 a0.v (ag a1) (aK (ag a1) [aC .u8 32 a2,aC .u8 32 a3,aC .u8 32 a4,aC .u8 32 a5,ij 1 a6,ij 1 a7,ij 1 a8,ij 1 a9,aC .u8 32 GH,aC .u32 1 Eh,aC .u8 32 Nh,aC .u32 1 Ni,aC .u32 1 Nj,fN 1 (fun j=>cX (Nk j)),aC .u8 32 Nl,aC .u8 32 Nm,ij 1 Nn,aC .u32 1 Np,ij 1 Nq,ij 1 Rz])
abbrev GJ(a0 a1:Nat):HP:=ak a0 true ([.pointer (some ⟨a1,266,none⟩),.pointer (some ⟨a1,267,none⟩)])
abbrev sZ(a0:Nat)(a1:V1):HP:=ak a0 true ([.bool false,a1.v,.bool true])
abbrev Ei(a0:Nat)(a1:Nat→Int)(a2:Int)(a3:Bool)(a4:Int):HP:=ak a0 true (aqk (aj .u8 16 a1) ([.int .u8 a2,.bool a3,.int .u64 a4]))
abbrev zv3(a0:Nat→Int)(a1 a2 a3:Int)(a4 a5:Nat→Int)(a6:V1)(a7:Int)(a8:V1)(a9:Nat→Int)(GH:V1)(Eh:Int)(Nh:Nat→Int)(Ni:Bool)(Nj Nk Nl:Int)(Nm Nn Np:Nat→Int)(Nq:V1)(Rz:Int)(ZO:V1)(ZP ZQ ZR ZS ZT ZU:Int)(ZV ZW:V1):Value:= .agg (aqk (aj .u8 32 a0) (.int .u64 a1::(.int .u8 a2::(.int .u8 a3::(aqk (aj .u8 32 a4) (aqk (aj .u8 32 a5) (a6.v::(.int .i64 a7::(a8.v::(.int .u8 0::(.int .u8 0::(aqk (aj .u8 8 a9) (GH.v::(.int .u8 Eh::(aqk (aj .u8 16 Nh) (.bool Ni::(.int .u8 Nj::(.int .u8 Nk::(.int .u8 Nl::(aqk (aj .u8 32 Nm) (aqk (aj .u8 32 Nn) (aqk (aj .u8 32 Np) ([Nq.v,.int .i64 Rz,ZO.v,.int .u64 ZP,.int .u64 ZQ,.int .u64 ZR,.int .u64 ZS,.int .u64 ZT,.int .u32 ZU,ZV.v,ZW.v]))))))))))))))))))))))).toArray
abbrev Va(a0:Nat)(a1 a2 a3 a4:Nat→Int)(a5 a6 a7 a8:Bool)(a9:Nat→Int)(GH:Int)(Eh:Nat→Int)(Nh Ni:Int)(Nj:Nat→Int)(Nk:Int)(Nl Nm:Nat→Int)(Nn:Bool)(Np:Int)(Nq Rz:Bool):HP:=ak a0 true (aqk (aj .u8 32 a1) (aqk (aj .u8 32 a2) (aqk (aj .u8 32 a3) (aqk (aj .u8 32 a4) (.bool a5::(.bool a6::(.bool a7::(.bool a8::(aqk (aj .u8 32 a9) (.int .u32 GH::(aqk (aj .u8 32 Eh) (.int .u32 Nh::(.int .u32 Ni::((cX (Nj (ag Nk)))::(aqk (aj .u8 32 Nl) (aqk (aj .u8 32 Nm) ([.bool Nn,.int .u32 Np,.bool Nq,.bool Rz])))))))))))))))))
abbrev Ej(a0:Nat)(a1:V1):HP:=ak a0 true ([.bool false,a1.v,.bool false])
abbrev n_(a0 a1:Nat):HP:=ak a0 true ([pp a1])
abbrev GK(a0 a1:Nat):HP:=ak a0 true ([.pointer (some ⟨a1,130,none⟩)])
abbrev Nr(a0:Nat):HP:=ak a0 false ([.int .u8 72,.int .u8 76,.int .u8 83,.int .u8 84,.int .u8 0,.int .u8 1])
end Go.RX.Vb
