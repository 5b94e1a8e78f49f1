/- A reflective symbolic executor. -/
import Derived.Test.YtllcdnkfbeokhaaGreatM21
import Derived.OpenShut
open Go.Proofs.Tryz renaming prog -> ax8
open Int renaming toNat -> ag
open List renaming append -> axQ, append_assoc -> ayl, getElem?_append_left -> axX, getElem?_append_right -> axY, getElem?_eq_getElem -> ays, getElem?_eq_some_iff -> axT, mem_append -> ax_, mem_of_getElem? -> ayh
open Nat renaming lt_of_lt_of_le -> ax7, not_lt -> ayF
open Option renaming map_eq_some_iff -> axV
namespace Go.RX
theorem aU.dup{h:HP}{hs:List HP}{w:World}(hw:h.wr=false)(ho:aU (h::hs) w):aU (h::h::hs) w:=by
 obtain⟨S,hS⟩:=ho;refine⟨λi=>S (i - 1),⟨?_,?_⟩⟩
 .intro i x hx;cases i with
  | zero=>
   simp at hx;subst hx;exact hS.at_ 0 _ rfl
  | succ i=>exact hS.at_ i x (by simpa using hx)
 .intro i j x y oJ hx hy vn;cases i with
  | zero=>
   cases j with
   | zero=>exact absurd rfl oJ
   | succ j=>
    simp at hx;subst hx;cases j with
    | zero=>
     simp at hy;subst hy;simp[hw]at vn
    | succ j=>exact hS.apart 0 (j+1) _ y (by omega) rfl (by simpa using hy) vn
  | succ i=>
   cases j with
   | zero=>
    simp at hy;subst hy;cases i with
    | zero=>
     simp at hx;subst hx;simp[hw]at vn
    | succ i=>exact hS.apart (i+1) 0 x _ (by omega) (by simpa using hx) rfl vn
   | succ j=>exact hS.apart i j x y (by omega) (by simpa using hx) (by simpa using hy) vn
theorem ao.look{P:Program}{f:Nat}{args:List Value}{h:HP}{Q:Value->Prop}(hw:h.wr=false)(hm:ao P f args [h] λv _=>Q v):ao P f args [h] λv hs=>Q v/\hs=[h]:=by
 intro w Fs ho;refine(hm w (h::Fs) (aU.dup hw ho)).mono ?_;rintro e w' ⟨v,hs,rfl,hq,Jd,uP⟩;exact⟨v,[h],rfl,⟨hq,rfl⟩,aU.sub Jd (List.sublist_append_right _ _),uP⟩
theorem ao.know{P:Program}{f:Nat}{args:List Value}{pre:List HP}{p Q:Value->List HP->Prop}(h:ao P f args pre p)(hq: ∀v hs,p v hs->∀(w:World) (Fs:List HP),aU (hs++Fs) w->Q v hs):
  ao P f args pre λv hs=>p v hs/\Q v hs:=by
 intro w Fs o;refine(h w Fs o).mono ?_;rintro e w' ⟨v,hs,he,hp,ho,lU⟩;exact⟨v,hs,he,⟨hp,hq v hs hp _ _ ho⟩,ho,lU⟩
theorem GZ{t s n:Nat}{v:Value}{cs:List Value}{Fs:List HP}{w:World}(h:aU (aA true t s v n cs::Fs) w): ∃e:Int,v=bg e:=by
 obtain⟨S,hS⟩:=h;obtain⟨⟨ho,_⟩,_⟩:=hS.at_ 0 _ rfl;simp only[if_true]at ho;rcases ho.2 with⟨rfl,_⟩ | ⟨g,o,cap,cur,rfl,_⟩
 .exact⟨0,rfl⟩
 .exact⟨VK g o n cap,(Dr g o n cap).symm⟩
def aZ(B:List HP)(h:HP):Prop:=h.wr=false/\∀(w:World) (S:Nat->Nat->Prop),Sep B S w->∃S':Nat->Prop,h.p w S'/\∀k,S' k->∃i,i<B.length/\S i k
theorem Sep.mid{A B C:List HP}{S:Nat->Nat->Prop}{w:World}(h:Sep (A++B++C) S w):Sep B (λi=>S (A.length+i)) w:=by
 have key: ∀(i:Nat) x,B[i]? =some x->(A++B++C)[A.length+i]? =some x:=by
  intro i x hx;have hl:i<B.length:=(axT.1 hx).1;rw[axX (by simp;omega),axY (by omega),Nat.add_sub_cancel_left,hx]
 exact⟨λi x hx=>h.at_ _ x (key i x hx),λi j x y oJ hx hy hw=>h.apart _ _ x y (by omega) (key i x hx) (key j y hy) hw⟩
def rb(w0:World)(U:Nat->Prop):HP where
 wr:=false
 p w T:=(∀k,T k↔U k)/\∀k,U k->w.heap[k]? =w0.heap[k]?
 eU _ _ _ h hk:=⟨h.1,λk hu=>(hk k ((h.1 k).2 hu)).trans (h.2 k hu)⟩
theorem ao.C3{P:Program}{f:Nat}{args:List Value}{A B L:List HP}{Q:Value->List HP->Prop}(hm:ao P f args (A++L) Q)(hQ: ∀v hs,Q v hs->∀h∈hs,h.wr=true)(hL: ∀h∈L,aZ B h):
  ao P f args (A++B) λv hs=> ∃zF,Q v zF/\hs=zF++B:=by
 intro w Fs ⟨S,hS⟩;have gA: ∀(i:Nat) x,A[i]? =some x->(A++B++Fs)[i]? =some x:=by
  intro i x hx;have hl:i<A.length:=(axT.1 hx).1;rw[axX (by simp;omega),axX hl,hx]
 have gB: ∀(i:Nat) x,B[i]? =some x->(A++B++Fs)[A.length+i]? =some x:=by
  intro i x hx;have hl:i<B.length:=(axT.1 hx).1;rw[axX (by simp;omega),axY (by omega),Nat.add_sub_cancel_left,hx]
 have gR: ∀(i:Nat) x,(B++Fs)[i]? =some x->(A++B++Fs)[A.length+i]? =some x:=by
  intro i x hx;rw[ayl,axY (by omega),Nat.add_sub_cancel_left,hx]
 have hSB:Sep B (λi=>S (A.length+i)) w:=Sep.mid hS
 let U:Nat->Prop:=λk=>k<w.heap.size/\∀i x,A[i]? =some x->x.wr=true->¬S i k
 have hc: ∀i:Nat,∃S':Nat->Prop,∀x,L[i]? =some x->x.p w S'/\∀k,S' k->∃j,j<B.length/\S (A.length+j) k:=by
  intro i;cases hi:L[i]? with
  | none=>exact⟨λ_=>False,λx hx=>nomatch hx⟩
  | some y=>
   obtain⟨S',Z8⟩:=(hL y (ayh hi)).2 w _ hSB;exact⟨S',λx hx=>by cases hx;exact Z8⟩
 obtain⟨S1,hS1⟩:=Classical.axiomOfChoice hc;have wrL: ∀(i:Nat) x,L[i]? =some x->x.wr=false:=λi x hx=>(hL x (ayh hx)).1
 have o1:aU (A++L++[rb w U]) w:=by
  have jA: ∀(i:Nat) x,(A++L++[rb w U])[i]? =some x->(i<A.length/\A[i]? =some x)\/(A.length<=i/\i<A.length+L.length/\L[i - A.length]? =some x)\/(i=A.length+L.length/\x=rb w U):=by
   intro i x hx;by_cases h1:i<A.length
   .rw [axX (by simp;omega),axX h1]at hx;exact .inl ⟨h1,hx⟩
   .by_cases h2:i<A.length+L.length
    .rw [axX (by simp;omega),axY (by omega)]at hx;exact .inr (.inl ⟨by omega,h2,hx⟩)
    .rw [axY (by simp;omega)]at hx;have:i - (A++L).length=0:=by
      rcases Nat.eq_zero_or_pos (i - (A++L).length)with h | h
      .exact h
      .rw [List.getElem?_eq_none (by simp at h ⊢;omega)]at hx;cases hx
     rw[this]at hx;cases hx;simp at this;exact .inr (.inr ⟨by omega,rfl⟩)
  refine⟨λi=>if i<A.length then S i else if i<A.length+L.length then S1 (i - A.length)else U,⟨?_,?_⟩⟩
  .intro i x hx;rcases jA i x hx with⟨h,hx⟩ | ⟨h,h',hx⟩ | ⟨h,rfl⟩
   .simp only[if_pos h];exact hS.at_ i x (gA i x hx)
   .simp only[if_neg (ayF.2 h),if_pos h'];obtain⟨hp,hs⟩:=hS1 _ x hx;refine⟨hp,λk hk=>?_⟩;obtain⟨j,hj,Wj⟩:=hs k hk;exact(hS.at_ _ _ (gB j _ (ays hj))).2 k Wj
   .subst h;simp only[if_neg (show¬A.length+L.length<A.length by omega),if_neg (Nat.lt_irrefl _)];exact⟨⟨λ_=>Iff.rfl,λ_ _=>rfl⟩,λk hk=>hk.1⟩
  .have half: ∀i j x y,i≠j->(A++L++[rb w U])[i]? =some x->(A++L++[rb w U])[j]? =some y->x.wr=true->∀k,(if i<A.length then S i else if i<A.length+L.length then S1 (i - A.length)else U) k->¬(if j<A.length then S j else if j<A.length+L.length then S1 (j - A.length)else U) k:=by
    intro i j x y oJ hx hy hw k;rcases jA i x hx with⟨h,hx⟩ | ⟨h,h',hx⟩ | ⟨h,rfl⟩
    .simp only[if_pos h];rcases jA j y hy with⟨g,hy⟩ | ⟨g,g',hy⟩ | ⟨g,rfl⟩
     .simp only[if_pos g];exact hS.apart i j x y oJ (gA i x hx) (gA j y hy) (.inl hw) k
     .simp only[if_neg (ayF.2 g),if_pos g'];intro hk kX;obtain⟨m,hm,Wj⟩:=(hS1 _ y hy).2 k kX;exact hS.apart i (A.length+m) x _ (by omega) (gA i x hx) (gB m _ (ays hm)) (.inl hw) k hk Wj
     .subst g;simp only[if_neg (show¬A.length+L.length<A.length by omega),if_neg (Nat.lt_irrefl _)];exact λhk hu=>hu.2 i x hx hw hk
    .rw [wrL _ x hx]at hw;cases hw
    .cases hw
   intro i j x y oJ hx hy hw k hk kX;rcases hw with hw | hw
   .exact half i j x y oJ hx hy hw k hk kX
   .exact half j i y x (Ne.symm oJ) hy hx hw k kX hk
 refine(hm w _ o1).mono ?_;rintro e w' ⟨v,hs,rfl,hq,⟨S2,hS2⟩,uP⟩;refine⟨v,hs++B,rfl,⟨hs,hq,rfl⟩,?_,uP⟩;have hK:=hS2.at_ hs.length (rb w U) (by simp);have wr2:=hQ v hs hq;have g2: ∀(i:Nat) x,hs[i]? =some x->(hs++[rb w U])[i]? =some x:=λi x hx=>by
  rw[axX (axT.1 hx).1,hx]
 have inU: ∀(j:Nat) y,(B++Fs)[j]? =some y->∀k,S (A.length+j) k->U k:=by
  intro j y hy k hk;refine⟨(hS.at_ _ y (gR j y hy)).2 k hk,λi x hx hw kX=>?_⟩;have hl:i<A.length:=(axT.1 hx).1;exact hS.apart i (A.length+j) x y (by omega) (gA i x hx) (gR j y hy) (.inl hw) k kX hk
 have jA: ∀(i:Nat) x,(hs++B++Fs)[i]? =some x->(i<hs.length/\hs[i]? =some x)\/(hs.length<=i/\(B++Fs)[i - hs.length]? =some x):=by
  intro i x hx;rw[ayl]at hx;by_cases h1:i<hs.length
  .rw [axX h1]at hx;exact .inl ⟨h1,hx⟩
  .rw [axY (by omega)]at hx;exact .inr ⟨by omega,hx⟩
 refine⟨λi=>if i<hs.length then S2 i else S (A.length+(i - hs.length)),⟨?_,?_⟩⟩
 .intro i x hx;rcases jA i x hx with⟨h,hx⟩ | ⟨h,hx⟩
  .simp only[if_pos h];exact hS2.at_ i x (g2 i x hx)
  .simp only[if_neg (ayF.2 h)];obtain⟨hp,hb⟩:=hS.at_ _ x (gR _ x hx);refine⟨x.eU _ _ _ hp λk hk=>?_,λk hk=>ax7 (hb k hk) uP.size⟩;exact hK.1.2 k (inU _ x hx k hk)
 .have half: ∀i j x y,i≠j->(hs++B++Fs)[i]? =some x->(hs++B++Fs)[j]? =some y->x.wr=true->∀k,(if i<hs.length then S2 i else S (A.length+(i - hs.length))) k->¬(if j<hs.length then S2 j else S (A.length+(j - hs.length))) k:=by
   intro i j x y oJ hx hy hw k;rcases jA i x hx with⟨h,hx⟩ | ⟨h,hx⟩
   .simp only[if_pos h];rcases jA j y hy with⟨g,hy⟩ | ⟨g,hy⟩
    .simp only[if_pos g];exact hS2.apart i j x y oJ (g2 i x hx) (g2 j y hy) (.inl hw) k
    .simp only[if_neg (ayF.2 g)];intro hk kX;exact hS2.apart i hs.length x (rb w U) (by omega) (g2 i x hx) (by simp) (.inl hw) k hk ((hK.1.1 k).2 (inU _ y hy k kX))
   .simp only[if_neg (ayF.2 h)];rcases jA j y hy with⟨g,hy⟩ | ⟨g,hy⟩
    .simp only[if_pos g];intro hk kX;exact hS2.apart j hs.length y (rb w U) (by omega) (g2 j y hy) (by simp) (.inl (wr2 y (ayh hy))) k kX ((hK.1.1 k).2 (inU _ x hx k hk))
    .simp only[if_neg (ayF.2 g)];exact hS.apart _ _ x y (by omega) (gR _ x hx) (gR _ y hy) (.inl hw) k
  intro i j x y oJ hx hy hw k hk kX;rcases hw with hw | hw
  .exact half i j x y oJ hx hy hw k hk kX
  .exact half j i y x (Ne.symm oJ) hy hx hw k kX hk
theorem aZ.own{t s n:Nat}{v:Value}{cs:List Value}:aZ [aA true t s v n cs] (aA false t s v n cs):=by
 refine⟨rfl,λw S h=>?_⟩;exact⟨_,Br (h.at_ 0 _ rfl).1,λk hk=>⟨0,by simp,hk.1⟩⟩
theorem aZ.self{h:HP}(hw:h.wr=false):aZ [h] h:=⟨hw,λ_ _ hS=>⟨_,(hS.at_ 0 _ rfl).1,λ_ hk=>⟨0,by simp,hk⟩⟩⟩
theorem aZ.mid{A B C:List HP}{h:HP}(hb:aZ B h):aZ (A++B++C) h:=by
 refine⟨hb.1,λw S hS=>?_⟩;obtain⟨S',hp,hs⟩:=hb.2 w _ (Sep.mid hS);refine⟨S',hp,λk hk=>?_⟩;obtain⟨i,hi,hk⟩:=hs k hk;exact⟨A.length+i,by simp;omega,hk⟩
theorem aZ.left{B C:List HP}{h:HP}(hb:aZ B h):aZ (B++C) h:=aZ.mid (A:=[]) hb
theorem aZ.right{A B:List HP}{h:HP}(hb:aZ B h):aZ (A++B) h:=by
 have:=aZ.mid (A:=A) (C:=[]) hb
 rwa[List.append_nil]at this
theorem aZ.map{B:List HP}{h h':HP}(hb:aZ B h)(hw:h'.wr=false)(hp: ∀w S,h.p w S->∃S':Nat->Prop,h'.p w S'/\∀k,S' k->S k):aZ B h':=by
 refine⟨hw,λw S hS=>?_⟩;obtain⟨S1,h1,h2⟩:=hb.2 w S hS;obtain⟨S2,h3,h4⟩:=hp w S1 h1;exact⟨S2,h3,λk hk=>h2 k (h4 k hk)⟩
theorem G0{w:World}{t s n lo hi:Nat}{mx:Option Nat}{v:Value}{cs:List Value}{S:Nat->Prop}(h:(aA false t s v n cs).p w S)(h1:lo<=hi)(h2:hi<=n)(h3: ∀m,mx=some m->hi<=m):
  ∃S':Nat->Prop,(aA false t s (aK s v lo hi mx) (hi - lo) ((cs.drop (lo*s)).take ((hi - lo)*s))).p w S'/\∀k,S' k->S k:=by
 obtain⟨h0,hS⟩:=h;simp only[Bool.false_eq_true,if_false]at h0;obtain⟨hlen,a,m,c,rfl,rfl,VM,hn,hv⟩:=h0;refine⟨λk=>(aK s (.slice a m c) lo hi mx).ownBlock=some k/\0<hi - lo,⟨?_,λk=>by simp⟩,?_⟩
 .simp only[Bool.false_eq_true,if_false];have hm3:(hi - lo)*s=hi*s - lo*s:=by rw[Nat.sub_mul]
  have hm1:hi*s<=m*s:=Nat.mul_le_mul_right s h2;have hm2:lo*s<=hi*s:=Nat.mul_le_mul_right s h1;refine⟨by rw[List.length_take,List.length_drop,hlen];omega,_,_,_,rfl,rfl,?_,?_,?_⟩
  .cases mx with
   | none=>simp;omega
   | some x=>have:=h3 x rfl;simp;omega
  .intro he;split at he
   .have:=hn he;omega
   .rw [Option.map_eq_none_iff]at he;have:=hn he;omega
  .intro ad he;by_cases NN:lo=hi
   .subst NN;refine⟨by omega,?_⟩;simp
   .have cC:mx.getD c≠lo:=by
     cases mx with
     | none=>simp;omega
     | some x=>have:=h3 x rfl;simp;omega
    rw[if_neg cC,axV]at he;obtain⟨ad0,rfl,rfl⟩:=he;obtain⟨g1,g2⟩:=hv ad0 rfl;refine⟨λ_=>?_,λj u hu=>?_⟩
    .have:=g1 (by omega);unfold Addr.add;split
     .exact this
     .rfl
    .rw [List.getElem?_take]at hu;split at hu
     .rw [List.getElem?_drop]at hu;have:=g2 _ _ hu;rw[<-this,dS]
     .cases hu
 .rintro k ⟨hk,uC⟩;refine(hS k).2 ⟨?_,.inr (by omega)⟩;unfold aK at hk;simp only[Value.ownBlock]at hk ⊢;cases a with
  | none=>have:=hn rfl;omega
  | some ad=>
   have hb:(ad.add (lo*s)).block=ad.block:=by unfold Addr.add;split<;>rfl
   by_cases hc:mx.getD c=lo
   .rw [if_pos hc]at hk;exact hk
   .rw [if_neg hc]at hk;simp only[Option.map_some,hb]at hk;exact hk
theorem aZ.sub{B:List HP}{t s n lo hi:Nat}{mx:Option Nat}{v:Value}{cs:List Value}(hb:aZ B (aA false t s v n cs))(h1:lo<=hi)(h2:hi<=n)(h3: ∀m,mx=some m->hi<=m):
  aZ B (aA false t s (aK s v lo hi mx) (hi - lo) ((cs.drop (lo*s)).take ((hi - lo)*s))):=hb.map rfl λ_ _ h=>G0 h h1 h2 h3
theorem aZ.row{b t lo n m:Nat}{wr:Bool}{cs:List Value}(h1:lo+n<=cs.length)(h2:n<=m):
  aZ [ak b wr cs] (aA false t 1 (.slice (some ⟨b,lo,none⟩) n m) n ((cs.drop lo).take n)):=by
 refine⟨rfl,λw S h=>?_⟩;obtain⟨⟨hs,ty,fz,hb,_⟩,_⟩:=h.at_ 0 _ rfl;refine⟨λk=>k=b/\0<n,⟨?_,λk=>?_⟩,λk hk=>⟨0,by simp,(hs k).2 hk.1⟩⟩
 .simp only[Bool.false_eq_true,if_false];refine⟨by rw[List.length_take,List.length_drop];omega,_,_,_,rfl,rfl,h2,by simp,?_⟩;intro ad he;cases he;refine⟨λ_=>rfl,λj u hu=>?_⟩;rw[List.getElem?_take]at hu;split at hu
  .rw [List.getElem?_drop]at hu;have hx:=hu;have hA:(⟨b,lo,none⟩:Addr).add j=⟨b,lo+j,none⟩:=by
    unfold Addr.add;by_cases h0:j=0
    .rw [if_pos h0,h0];rfl
    .rw [if_neg h0]
   rw[hA];simp only[World.cell?,hb];simpa using hx
  .cases hu
 .simp [Value.ownBlock,eq_comm]
def ends(k m:Nat)(hs:List HP):List HP:=hs.take k++(hs.drop k).drop ((hs.drop k).length - m)
theorem Rc(k m:Nat)(hs:List HP):(ends k m hs).Sublist hs:=by
 unfold ends
 conv=>rhs;rw[<-List.take_append_drop k hs]
 exact List.Sublist.append (List.Sublist.refl _) (List.drop_sublist _ _)
theorem aZ.nil{B:List HP}{t s:Nat}:aZ B (aA false t s (.slice none 0 0) 0 []):=by
 refine⟨rfl,λw S _=>⟨λ_=>False,⟨?_,λk=>by simp⟩,λ_ h=>h.elim⟩⟩;simp only[Bool.false_eq_true,if_false];refine⟨by simp,none,0,0,rfl,rfl,Nat.le_refl _,λ_=>rfl,?_⟩;intro ad h;cases h
theorem ao.Y3{P:Program}{f:Nat}{args:List Value}{A B L:List HP}{Q:Value->List HP->Prop}(hm:ao P f args (A++L) λv hs=> ∃nw,Q v nw/\hs=A++nw)(hA: ∀h∈A,h.wr=true)(hQ: ∀v nw,Q v nw->∀h∈nw,h.wr=true)(hL: ∀h∈L,aZ B h):
  ao P f args (A++B) λv hs=> ∃nw,Q v nw/\hs=A++B++nw:=by
 refine ao.post (ao.C3 hm ?_ hL) ?_
 .rintro v hs ⟨nw,hq,rfl⟩ h hh;rcases ax_.1 hh with hh | hh
  .exact hA h hh
  .exact hQ v nw hq h hh
 .rintro v hs ⟨zF,⟨nw,hq,rfl⟩,rfl⟩;refine⟨A++B++nw,bq.perm ?_,nw,hq,rfl⟩;rw[ayl,ayl];exact List.Perm.append_left A List.perm_append_comm
open Go.Proofs
section
variable {C:Ctx} {f:Nat} {fd:Func} (args:List SV) (hp:List Ck) (aY:cI) (ρ:Env) {al:Value->List HP->Prop} {s:Prop}
theorem mtB(hf:Tryz.prog.funcs[f]? =some fd)(hv:VC ax8 (λv _=>al v []) (oR C f args hp aY fd) ρ (λ_=>LC.none)=s)(h:s)(hT:bD ax8 C.T=true:=by exact okT)(CL:qu ax8 C.FT:=by exact JQ)(hl:iZ ρ aY:=by constructor<;>rfl)
  (EL:im ax8 C:=by exact im.none rfl):ao ax8 f (SV.bF ρ args) (hp.map (Ck.den ρ)) al:=
 ao.post (ao.tn (C:=C) hT CL okM hf hl rfl hv h EL) λ_ hs hq=>⟨_,bq.sub (List.nil_sublist hs),hq⟩
theorem mtE(k m:Nat)(hf:Tryz.prog.funcs[f]? =some fd)(hv:VC ax8 (λv hs=>al v (ends k m hs)) (oR C f args hp aY fd) ρ (λ_=>LC.none)=s)(h:s)(hT:bD ax8 C.T=true:=by exact okT)(CL:qu ax8 C.FT:=by exact JQ)(hl:iZ ρ aY:=by constructor<;>rfl)
  (EL:im ax8 C:=by exact im.none rfl):ao ax8 f (SV.bF ρ args) (hp.map (Ck.den ρ)) al:=
 ao.post (ao.tn (C:=C) hT CL okM hf hl rfl hv h EL) λ_ hs hq=>⟨_,bq.sub (Rc k m hs),hq⟩
theorem qv(k:Nat)(hf:Tryz.prog.funcs[f]? =some fd)(hv:VC ax8 (λv hs=>al v (hs.take k)) (oR C f args hp aY fd) ρ (λ_=>LC.none)=s)(h:s)(hT:bD ax8 C.T=true:=by exact okT)(CL:qu ax8 C.FT:=by exact JQ)(hl:iZ ρ aY:=by constructor<;>rfl)
  (EL:im ax8 C:=by exact im.none rfl):ao ax8 f (SV.bF ρ args) (hp.map (Ck.den ρ)) al:=
 ao.post (ao.tn (C:=C) hT CL okM hf hl rfl hv h EL) λ_ hs hq=>⟨_,bq.sub (List.take_sublist k hs),hq⟩
theorem vm(hf:Tryz.prog.funcs[f]? =some fd)(hv:VC ax8 al (oR C f args hp aY fd) ρ (λ_=>LC.none)=s)(h:s)(hT:bD ax8 C.T=true:=by exact okT)(CL:qu ax8 C.FT:=by exact JQ)(hl:iZ ρ aY:=by constructor<;>rfl)
  (EL:im ax8 C:=by exact im.none rfl):ao ax8 f (SV.bF ρ args) (hp.map (Ck.den ρ)) al:=
 ao.tn (C:=C) hT CL okM hf hl rfl hv h EL
end
abbrev bo(v:V1)(n:Int)(A:Nat->Int):HP:=aA true 5 1 v.v n.toNat (aG n.toNat [ax .u8 1 A])
abbrev bi(v:V1)(n:Int)(A:Nat->Int):HP:=aA false 5 1 v.v n.toNat (aG n.toNat [ax .u8 1 A])
abbrev bn(md:Bool)(v:V1)(n:Nat)(A:Nat->Int):HP:=aA md 5 1 v.v n (aG n [ax .u8 1 A])
abbrev PT:=Value->List HP->Prop
abbrev cG(n:Int)(A B:Nat->Int):Prop:= ∀j,j<ag n->A j=B j
abbrev Dn(I:Ext->Prop)(m:Ext->Nat)(e f:Ext):Prop:=I e/\m e<m f
abbrev Cl(f:Nat)(a:List Value)(L:List HP)(K:Value->List HP->List HP->Prop):Prop:= ∃post,ao ax8 f a L post/\∀x hs,post x hs->K x hs L
abbrev fj(x:Int)(p:Prop):Prop:=ay (-9223372036854775808<=x) (ay (x<=9223372036854775807) p)
abbrev j8(x:Int)(p:Prop):Prop:=ay (x<=140737488355328) p
def Y4(P:Program)(g:TypeId->Option (List (Option IntKind))):List Field->Nat->Option (List (Option IntKind))
 | [],_=>some []
 | f::r,off=>match g f.type,Y4 P g r (off+P.cellsOf f.type)with
  | some ks,some l=>if f.offset=off/\P.cellsOf f.type=ks.length then some (ks++l)else none
  | _,_=>none
def flat(P:Program):Nat->TypeId->Option (List (Option IntKind))
 | 0,_=>none
 | n+1,t=>match P.underlying t with
  | some (.int k)=>some [some k]
  | some .bool=>some [none]
  | some (.struct fs)=>Y4 P (flat P n) fs.toList 0
  | _=>none
section
variable {H:Type} {enc:TypeId×Value->H} {P:Program} {w:World} {base:Nat} {spare:Nat->Bool} {held:Bool}
end
section
variable {H:Type} {enc:TypeId×Value->H} {P:Program} {w:World} {base:Nat} {spare:Nat->Bool} {held:Bool}
end
abbrev Rd(l:List (Nat->List Value))(i:Nat):List Value:=l.flatMap λc=>c i
end Go.RX

namespace Go.RX.Vb
open Go.RX
def u8(i:Nat):SV:= .int .u8 (.var i)
def u32(i:Nat):SV:= .int .u32 (.var i)
def u64(i:Nat):SV:= .int .u64 (.var i)
def uQ(a:Nat):List bU:=[⟨.int .u8,1,.cM a⟩]
def Re:List Ck:=[.row 0 true [.bool (.lit true),.vv 0,.bool (.lit false)],.cF true 0 5 1 (.var 0) (uQ 0)]
def Wk:List Ck:=[.row 0 true [.bool (.lit false),.vv 0,.bool (.lit false)],.cF false 0 5 1 (.var 0) (uQ 0)]
def LI:List Ck:=[.row 0 true [.bool (.lit false),.vv 0,.bool (.lit true)]]
def Bs:cI:={b:=1,v:=1,i:=2,a:=1}
def EO(k:Nat):List SV:=[.ptr 0 0,u64 1,.int .i64 (.lit k)]
def Y5:List SV:=[.ptr 0 0,.int .i64 (.var 1)]
end Go.RX.Vb

namespace Go.RX.Vc
open Go.RX Go.RX.Vb
def rG(b:Nat):Ck->Bool
 | .row b' .. =>b'==b
 | _=>false
def iF(v:Nat):Ck->Bool
 | .cF _ v' .. =>v'==v
 | _=>false
def N_(b:Nat)(hp:List Ck):List Nat:=
 match hp.findIdx? (rG b)with
 | some i=>match hp[i]? with
  | some (.row _ _ [_,.vv v,_])=>match hp.findIdx? (iF v)with
   | some j=>[i,j]
   | none=>[i]
  | _=>[i]
 | none=>[]
def aaq(az:List SV)(hp:List Ck):List Nat:=
 match az with
 | .ptr b _::_=>N_ b hp
 | _=>[]
def EP(v n bo a:Nat):List Ck->List Ck
 | [.row b wr [.bool (.lit true),_,m],.cF md _ t s _ _]=>[.row b wr [.bool (.lit true),.vv v,m],.cF md v t s (.var n) (uQ a)]
 | [.row b wr [.bool (.lit false),_,_],.cF md _ t s _ _]=>[.row b wr [.bool (.lit false),.vv v,.bool (.var bo)],.cF md v t s (.var n) (uQ a)]
 | l=>l
def o_:aI:={use:=aaq,inc:={v:=1,i:=2,a:=1,bo:=1},val:=λc=> .int .u64 (.var c.i),new:=λc h=>EP c.v (c.i+1) c.bo c.a h}
def Bt:aI:={use:=aaq,inc:={v:=2,i:=2,a:=2,bo:=1},val:=λc=> .vv (c.v+1),new:=λc h=>EP c.v c.i c.bo c.a h++[.cF false (c.v+1) 5 1 (.var (c.i+1)) (uQ (c.a+1))]}
def jr(b:Nat)(hp:List Ck):List Nat:=(hp.findIdx? (rG b)).toList
def Oa(b:Nat)(hp:List Ck):List Nat:=
 match hp.findIdx? (rG b)with
 | some i=>match hp[i]? with
  | some (.row _ _ (.ptr d _::_))=>jr d hp
  | _=>[]
 | none=>[]
def aku(az:List SV)(hp:List Ck):List Nat:=
 aaq az hp++match az with
 | [_,.sl b ..]=>Oa b hp++jr b hp
 | _=>[]
def newF(v n bo a:Nat):List Ck->List Ck
 | x::y::r=>EP v n bo a [x,y]++r
 | l=>l
def Bu:aI:={use:=aku,inc:={v:=1,i:=1,a:=1,bo:=1},val:=λ_=> .oH [],new:=λc h=>newF c.v c.i c.bo c.a h}
def sF(f:Nat):Option aI:=
 match f with
 | 21=>some o_
 | 58=>some Bu
 | _=>none
def bj(f:Nat):Option aI:=
 match f with
 | 21=>some o_
 | 45=>some Bt
 | _=>none
def afi:List Ck->Option Nat
 | .row 0 _ [_,.vv v,_]::_=>some v
 | _::r=>afi r
 | []=>none
def afj(o v n bo a:Nat):Ck->Ck
 | .row 0 wr [.bool (.lit true),_,m]=> .row 0 wr [.bool (.lit true),.vv v,m]
 | .row 0 wr [.bool (.lit false),_,_]=> .row 0 wr [.bool (.lit false),.vv v,.bool (.var bo)]
 | .cF md v' t s n' cs=>if v'=o then .cF md v t s (.var n) (uQ a)else .cF md v' t s n' cs
 | c=>c
def Ad(v n bo a:Nat)(hp:List Ck):List Ck:=
 match afi hp with
 | some o=>hp.map (afj o v n bo a)
 | none=>hp
def dv(a:Nat):List bU:=[⟨.int .u8,32,.cM a⟩,⟨.int .u32,1,.cM (a+1)⟩,⟨.int .u8,32,.cM (a+2)⟩]
def ER(b i v t s n:Nat)(cs:List bU):List Ck->List Ck
 | .row b' wr c::r=>if b'=b then .row b' wr (c.set i (.vv v))::r.map (wj v)else .row b' wr c::ER b i v t s n cs r
 | x::r=>wj v x::ER b i v t s n cs r
 | []=>[]
 where wj (v:Nat):Ck->Ck
 | .cF true v' t' s' n' qE=>if t'=t/\s'=s then .cF true v t s (.var n) cs else .cF true v' t' s' n' qE
 | x=>x
def Rf(f id:Nat):Option dA:=
 match f,id with
 | 187,0=>some {inc:={i:=2,v:=1,a:=1,bo:=1},aQ:=λc=>[(25,.int .i64 (.var c.i))],hp:=λc h=>Ad c.v (c.i+1) c.bo c.a h}
 | 187,2=>some {pre:=[.cell 2 13 245],inc:={i:=3,v:=2,a:=4,bo:=1},aQ:=λc=>[(6,.int .u64 (.var c.i))],hp:=λc h=>ER 1 13 (c.v+1) 245 65 (c.i+2) (dv (c.a+1)) (Ad c.v (c.i+1) c.bo c.a h)}
 | _,_=>none
def key(a:Nat):SV:= .jD .u8 32 (.cM a)
def G5:SV:= .jD .u8 32 (.lit 0)
def bl(i:Nat):SV:= .bool (.nz (.var i))
def Wl:SV:= .bool (.lit false)
def Rg:SV:= .int .u32 (.lit 0)
def Rh:List SV:=[G5,G5,G5,G5,Wl,Wl,Wl,Wl,G5,Rg,G5,Rg,Rg,.bW,G5,G5,Wl,Rg,Wl,Wl]
def Ri(i a v:Nat):List SV:=[key a,key (a+1),key (a+2),key (a+3),bl i,bl (i+1),bl (i+2),bl (i+3),key (a+4),u32 (i+4),key (a+5),u32 (i+5),u32 (i+6),.vv v,key (a+6),key (a+7),bl (i+7),u32 (i+8),bl (i+9),bl (i+10)]
def wIn:List Ck:=[.row 0 true [.bool (.lit false),.vv 0,.bool (.var 0)],.cF false 0 5 1 (.var 0) (uQ 0)]
def G6:List Ck:=[.row 0 true [.bool (.lit true),.vv 0,.bool (.lit false)],.cF true 0 5 1 (.var 0) (uQ 0)]
def Wn:List SV:=[.ptr 0 0,.ptr 1 0]
def akv:List Ck:=wIn++[.row 1 true Rh]
def afk:cI:={b:=2,v:=1,i:=1,a:=1,bo:=1}
def akw:List Ck:=G6++[.row 1 true (Ri 2 1 1),.cF false 1 245 65 (.var 1) (dv 9)]
def afl:cI:={b:=2,v:=2,i:=13,a:=12,bo:=0}
end Go.RX.Vc

namespace Go.RX.Vd
open Go.RX Go.RX.Vb Go.RX.Vc
def Ob:aI:={use:=λaz hp=>match az with | [.vv v]=>(hp.findIdx? (iF v)).toList | _=>[],inc:={v:=1,i:=1,a:=1},val:=λc=> .vv c.v,new:=λc h=>h++[.cF true c.v 5 1 (.var c.i) (uQ c.a)]}
def kT(hp:List Ck):List Nat:=(hp.findIdx? λc=>match c with | .abs _=>true | _=>false).toList
def LJ(az:List SV)(hp:List Ck):List Nat:=
 N_ 0 hp++(match az with | .ptr b _::_=>jr b hp | _=>[])++(match az with | [_,.ptr b _]=>jr b hp | _=>[])++kT hp
def Rj(c:cI):List Ck->List Ck
 | x::y:: .row b w _::box::_=>EP c.v (c.i+3) c.bo c.a [x,y]++[.row b w [.int .u8 (.var c.i),.int .u8 (.var (c.i+1)),.Jq (.var (c.i+2))],box,.abs c.p]
 | l=>l
def Oc:aI:={use:=LJ,inc:={v:=1,i:=4,a:=1,bo:=1,p:=1},val:=λ_=> .oH [],new:=Rj}
def G7(c:cI):List Ck->List Ck
 | x::y::r=>EP c.v c.i c.bo c.a [x,y]++r
 | l=>l
def Od:aI:={use:=LJ,inc:={v:=1,i:=1,a:=1,bo:=1},val:=λ_=> .oH [],new:=G7}
def Wo(az:List SV)(hp:List Ck):List Nat:=
 N_ 0 hp++(match az with | .ptr b _::_=>jr b hp | _=>[])++(match az with | [_,.ptr b _]=>jr b hp | _=>[])
def Rk(c:cI):List Ck->List Ck
 | x::y:: .row b w _::r=>EP c.v (c.i+3) c.bo c.a [x,y]++ .row b w [.jD .u8 16 (.cM (c.a+1)),.int .u8 (.var c.i),.bool (.nz (.var (c.i+1))),.int .u64 (.var (c.i+2))]::r
 | l=>l
def Oe:aI:={use:=Wo,inc:={v:=1,i:=4,a:=2,bo:=1},val:=λ_=> .oH [],new:=Rk}
def Bv(f:Nat):Option aI:=
 match f with
 | 21=>some o_
 | 45=>some Bt
 | 111=>some Ob
 | 102=>some Oc
 | 55=>some Oe
 | _=>none
def sF(f:Nat):Option aI:=
 match f with
 | 21=>some o_
 | 58=>some Bu
 | 102=>some Od
 | _=>none
def dE(a:Nat):List bU:=[⟨.int .u32,1,.cM a⟩,⟨.int .u8,32,.cM (a+1)⟩]
def bI(a:Nat):List bU:=[⟨.int .u8,1,.cM a⟩,⟨.int .u8,1,.cM (a+1)⟩,⟨.cv,1,.cM (a+2)⟩]
def idC(a:Nat):List bU:=[⟨.int .u8,16,.cM a⟩]
def gq(a:Nat):List bU:=[⟨.int .u8,1,.cM a⟩,⟨.int .u8,1,.cM (a+1)⟩]
def dJ(a:Nat):List bU:=[⟨.int .u8,16,.cM a⟩,⟨.int .u8,1,.cM (a+1)⟩,⟨.bool,1,.cM (a+2)⟩,⟨.int .u64,1,.cM (a+3)⟩]
def afn(p:Nat)(hp:List Ck):List Ck:=hp.map λc=>match c with | .abs _=> .abs p | c=>c
def DO(i t s:Nat)(cs:Nat->List bU)(na:Nat)(p:Bool):dA:=
 {pre:=[.cell 2 i t],inc:={i:=3,v:=2,a:=1+na,bo:=1,p:=if p then 1 else 0},aQ:=λc=>[(6,.int .u64 (.var c.i))],hp:=λc h=>ER 1 i (c.v+1) t s (c.i+2) (cs (c.a+1)) (Ad c.v (c.i+1) c.bo c.a (if p then afn c.p h else h))}
def rH:dA:={inc:={i:=2,v:=1,a:=1,bo:=1},aQ:=λc=>[(25,.int .i64 (.var c.i))],hp:=λc h=>Ad c.v (c.i+1) c.bo c.a h}
def loops(f id:Nat):Option dA:=
 match f,id with
 | 152,0=>some rH
 | 101,0=>some rH
 | 106,0=>some rH
 | 108,0=>some rH
 | 54,0=>some rH
 | 152,2=>some (DO 6 93 33 dE 2 false)
 | 101,2=>some (DO 8 68 3 bI 3 true)
 | 106,2=>some (DO 12 36 16 idC 1 false)
 | 108,2=>some (DO 24 26 2 gq 2 false)
 | 54,2=>some (DO 32 98 19 dJ 4 false)
 | _,_=>none
def Rl:SV:= .int .u8 (.lit 0)
def JR:SV:= .int .u64 (.lit 0)
def afo:SV:= .int .i64 (.lit 0)
def sg(n:Nat)(a:Nat):SV:= .jD .u8 n (.cM a)
def Wp(n:Nat):SV:= .jD .u8 n (.lit 0)
def Vm:List SV:=[Wp 32,JR,Rl,Rl,Wp 32,Wp 32,.bW,afo,.bW,Rl,Rl,Wp 8,.bW,Rl,Wp 16,Wl,Rl,Rl,Rl,Wp 32,Wp 32,Wp 32,.bW,afo,.bW,JR,JR,JR,JR,JR,Rg,.bW,.bW]
def i64(i:Nat):SV:= .int .i64 (.var i)
def Rm(i a v:Nat):List SV:=[sg 32 a,u64 i,u8 (i+1),u8 (i+2),sg 32 (a+1),sg 32 (a+2),.vv v,i64 (i+3),.vv (v+1),u8 (i+4),u8 (i+5),sg 8 (a+3),.vv (v+2),u8 (i+6),sg 16 (a+4),bl (i+7),u8 (i+8),u8 (i+9),u8 (i+10),sg 32 (a+5),sg 32 (a+6),sg 32 (a+7),.vv (v+3),i64 (i+11),.vv (v+4),u64 (i+12),u64 (i+13),u64 (i+14),u64 (i+15),u64 (i+16),u32 (i+17),.vv (v+5),.vv (v+6)]
def stC(md:Bool)(i a v:Nat):List Ck:=[.cF md v 93 33 (.var i) (dE a),.cF md (v+1) 68 3 (.var (i+1)) (bI (a+2)),.cF md (v+2) 36 16 (.var (i+2)) (idC (a+5)),.cF md (v+3) 5 1 (.var (i+3)) (uQ (a+6)),.cF md (v+4) 26 2 (.var (i+4)) (gq (a+7)),.cF md (v+5) 5 1 (.var (i+5)) (uQ (a+9)),.cF md (v+6) 98 19 (.var (i+6)) (dJ (a+10))]
def stA:List SV:=[.ptr 0 0,.ptr 1 0]
def hpI:List Ck:=wIn++[.row 1 true Vm,.abs 0]
def Og:cI:={b:=2,v:=1,i:=1,a:=1,bo:=1,p:=1}
def hpO:List Ck:=G6++[.row 1 true (Rm 1 1 1)]++stC false 19 9 1++[.abs 0]
def aas:cI:={b:=2,v:=8,i:=26,a:=23,bo:=0,p:=1}
end Go.RX.Vd

namespace Go.RX.Ve
open Go.RX Go.RX.Vb Go.RX.Vc Go.RX.Vd
def aky(i a:Nat):List SV:=[key a,key (a+1),key (a+2),key (a+3),bl i,bl (i+1),bl (i+2),bl (i+3),key (a+4),u32 (i+4),key (a+5),u32 (i+5),u32 (i+6),.Jq (.var (i+7)),key (a+6),key (a+7),bl (i+8),u32 (i+9),bl (i+10),bl (i+11)]
def kC(a:Nat):bU:=⟨.int .u8,32,.cM a⟩
def bC(a:Nat):bU:=⟨.bool,1,.cM a⟩
def nC(a:Nat):bU:=⟨.int .u32,1,.cM a⟩
def bS(a:Nat):List bU:=[kC a,kC (a+1),kC (a+2),kC (a+3),bC (a+4),bC (a+5),bC (a+6),bC (a+7),kC (a+8),nC (a+9),kC (a+10),nC (a+11),nC (a+12),⟨.cv,1,.cM (a+13)⟩,kC (a+14),kC (a+15),bC (a+16),nC (a+17),bC (a+18),bC (a+19)]
def Rn(az:List SV)(hp:List Ck):List Nat:=
 N_ 0 hp++(match az with | [_,.ptr b _]=>jr b hp | _=>[])++kT hp
def Wq(c:cI):List Ck->List Ck
 | x::y:: .row b w _::_=>EP c.v (c.i+12) c.bo c.a [x,y]++[.row b w (aky c.i (c.a+1)),.abs c.p]
 | l=>l
def Ro:aI:={use:=Rn,inc:={v:=1,i:=13,a:=9,bo:=1,p:=1},val:=λ_=> .oH [],new:=Wq}
def Rp:aI:={use:=Rn,inc:={v:=1,i:=1,a:=1,bo:=1},val:=λ_=> .oH [],new:=G7}
def Bv(f:Nat):Option aI:=
 match f with
 | 21=>some o_
 | 45=>some Bt
 | 105=>some Ro
 | _=>none
def sF(f:Nat):Option aI:=
 match f with
 | 21=>some o_
 | 58=>some Bu
 | 105=>some Rp
 | _=>none
def loops(f id:Nat):Option dA:=
 match f,id with
 | 104,0=>some rH
 | 104,2=>some (DO 2 77 268 bS 20 true)
 | _,_=>none
def Rq:List SV:=[.ptr 1 0,.ptr 2 0]
def hpI:List Ck:=wIn++[.row 1 true [Rl,Rl,.bW],.row 2 true [.ptr 0 0],.abs 0]
def Og:cI:={b:=3,v:=1,i:=1,a:=1,bo:=1,p:=1}
def hpO:List Ck:=G6++[.row 1 true [u8 1,u8 2,.vv 1],.row 2 true [.ptr 0 0],.cF false 1 77 268 (.var 3) (bS 1),.abs 0]
def aas:cI:={b:=3,v:=2,i:=4,a:=21,bo:=0,p:=1}
def hpR:List Ck:=wIn++[.row 1 true [Wp 16,Rl,Wl,JR],.row 2 true [.ptr 0 0]]
def akz:cI:={b:=3,v:=1,i:=1,a:=1,bo:=1}
end Go.RX.Ve

namespace Go.RX.Vb
open Go Go.RX Go.Proofs
abbrev pp(b:Nat):Value:= .pointer (some ⟨b,0,none⟩)
def flS(k:Nat):List SV:=[.ptr 0 0,.sl 2 (.lit 0) 1 (.lit k) (.lit k)]
def flP(l:List Nat):Ck:= .row 2 true (l.map λi=> .ptr 1 i)
abbrev bQ(a0:V1)(a1:Int)(a2:Nat->Int):HP:=aA false 5 1 a0.v (ag a1) (aG (ag a1) [ax .u8 1 a2])
abbrev cr(a0:V1)(a1:Int)(a2:Nat->Int):HP:=aA true 5 1 a0.v (ag a1) (aG (ag a1) [ax .u8 1 a2])
abbrev tK(a0:Nat)(a1 a2 a3 a4:Nat->Int)(a5 a6 a7 a8:Bool)(a9:Nat->Int)(ES:Int)(C4:Nat->Int)(JS JT:Int)(Oh:V1)(Oi Oj:Nat->Int)(Ol:Bool)(Om:Int)(On Oo:Bool):HP:=ak a0 true (axQ (aj .u8 32 a1) (axQ (aj .u8 32 a2) (axQ (aj .u8 32 a3) (axQ (aj .u8 32 a4) (.bool a5::(.bool a6::(.bool a7::(.bool a8::(axQ (aj .u8 32 a9) (.int .u32 ES::(axQ (aj .u8 32 C4) (.int .u32 JS::(.int .u32 JT::(Oh.v::(axQ (aj .u8 32 Oi) (axQ (aj .u8 32 Oj) ([.bool Ol,.int .u32 Om,.bool On,.bool Oo])))))))))))))))))
abbrev yW(a0:Nat->Int)(a1 a2 a3:Int)(a4 a5:Nat->Int)(a6:V1)(a7:Int)(a8:V1)(a9 ES:Int)(C4:Nat->Int)(JS:V1)(JT:Int)(Oh:Nat->Int)(Oi:Bool)(Oj Ol Om:Int)(On Oo Rr:Nat->Int)(a22:V1)(a23:Int)(a24:V1)(a25 a26 a27 a28 a29 a30:Int)(a31 a32:V1):Value:= .agg (axQ (aj .u8 32 a0) (.int .u64 a1::(.int .u8 a2::(.int .u8 a3::(axQ (aj .u8 32 a4) (axQ (aj .u8 32 a5) (a6.v::(.int .i64 a7::(a8.v::(.int .u8 a9::(.int .u8 ES::(axQ (aj .u8 8 C4) (JS.v::(.int .u8 JT::(axQ (aj .u8 16 Oh) (.bool Oi::(.int .u8 Oj::(.int .u8 Ol::(.int .u8 Om::(axQ (aj .u8 32 On) (axQ (aj .u8 32 Oo) (axQ (aj .u8 32 Rr) ([a22.v,.int .i64 a23,a24.v,.int .u64 a25,.int .u64 a26,.int .u64 a27,.int .u64 a28,.int .u64 a29,.int .u32 a30,a31.v,a32.v]))))))))))))))))))))))).toArray
abbrev Y6(a0:Nat):HP:=ak a0 true (axQ (aj .u8 32 (λ_=>0)) (.int .u64 0::(.int .u8 0::(.int .u8 0::(axQ (aj .u8 32 (λ_=>0)) (axQ (aj .u8 32 (λ_=>0)) (.slice none 0 0::(.int .i64 0::(.slice none 0 0::(.int .u8 0::(.int .u8 0::(axQ (aj .u8 8 (λ_=>0)) (.slice none 0 0::(.int .u8 0::(axQ (aj .u8 16 (λ_=>0)) (.bool false::(.int .u8 0::(.int .u8 0::(.int .u8 0::(axQ (aj .u8 32 (λ_=>0)) (axQ (aj .u8 32 (λ_=>0)) (axQ (aj .u8 32 (λ_=>0)) ([.slice none 0 0,.int .i64 0,.slice none 0 0,.int .u64 0,.int .u64 0,.int .u64 0,.int .u64 0,.int .u64 0,.int .u32 0,.slice none 0 0,.slice none 0 0])))))))))))))))))))))))
abbrev gV(a0:Nat)(a1:V1)(a2:Bool):HP:=ak a0 true ([.bool false,a1.v,.bool a2])
abbrev gu(a0:Nat)(a1:V1):HP:=ak a0 true ([.bool true,a1.v,.bool false])
abbrev Rs(a0:Nat)(a1:Nat->Int)(a2 a3 a4:Int)(a5 a6:Nat->Int)(a7:V1)(a8:Int)(a9:V1)(ES C4:Int)(JS:Nat->Int)(JT:V1)(Oh:Int)(Oi:Nat->Int)(Oj:Bool)(Ol Om On:Int)(Oo Rr a22:Nat->Int)(a23:V1)(a24:Int)(a25:V1)(a26 a27 a28 a29 a30 a31:Int)(a32 a33:V1):HP:=ak a0 true (axQ (aj .u8 32 a1) (.int .u64 a2::(.int .u8 a3::(.int .u8 a4::(axQ (aj .u8 32 a5) (axQ (aj .u8 32 a6) (a7.v::(.int .i64 a8::(a9.v::(.int .u8 ES::(.int .u8 C4::(axQ (aj .u8 8 JS) (JT.v::(.int .u8 Oh::(axQ (aj .u8 16 Oi) (.bool Oj::(.int .u8 Ol::(.int .u8 Om::(.int .u8 On::(axQ (aj .u8 32 Oo) (axQ (aj .u8 32 Rr) (axQ (aj .u8 32 a22) ([a23.v,.int .i64 a24,a25.v,.int .u64 a26,.int .u64 a27,.int .u64 a28,.int .u64 a29,.int .u64 a30,.int .u32 a31,a32.v,a33.v])))))))))))))))))))))))
abbrev zv1:Value:= .agg (axQ (aj .u8 32 (λ_=>0)) (.int .u64 0::(.int .u8 0::(.int .u8 0::(axQ (aj .u8 32 (λ_=>0)) (axQ (aj .u8 32 (λ_=>0)) (.slice none 0 0::(.int .i64 0::(.slice none 0 0::(.int .u8 0::(.int .u8 0::(axQ (aj .u8 8 (λ_=>0)) (.slice none 0 0::(.int .u8 0::(axQ (aj .u8 16 (λ_=>0)) (.bool false::(.int .u8 0::(.int .u8 0::(.int .u8 0::(axQ (aj .u8 32 (λ_=>0)) (axQ (aj .u8 32 (λ_=>0)) (axQ (aj .u8 32 (λ_=>0)) ([.slice none 0 0,.int .i64 0,.slice none 0 0,.int .u64 0,.int .u64 0,.int .u64 0,.int .u64 0,.int .u64 0,.int .u32 0,.slice none 0 0,.slice none 0 0]))))))))))))))))))))))).toArray
abbrev lB(a0:Nat)(a1:V1)(a2:Bool):HP:=ak a0 true ([.bool true,a1.v,.bool a2])
abbrev DP(a0 a1:Nat):HP:=ak a0 true ([.pointer (some ⟨a1,128,none⟩),.pointer (some ⟨a1,129,none⟩),.pointer (some ⟨a1,130,none⟩),.pointer (some ⟨a1,131,none⟩)])
abbrev LK(a0:V1)(a1:Int)(a2 a3 a4:Nat->Int):HP:=aA true 68 3 a0.v (ag a1) (aG (ag a1) [ax .u8 1 a2,ax .u8 1 a3,cV 1 (λj=>bg (a4 j))])
abbrev wk(a0:V1)(a1:Int)(a2 a3 a4 a5:Nat->Int):HP:=aA true 98 19 a0.v (ag a1) (aG (ag a1) [ax .u8 16 a2,ax .u8 1 a3,cR 1 a4,ax .u64 1 a5])
abbrev wm(a0:V1)(a1:Int)(a2 a3:Nat->Int):HP:=aA true 93 33 a0.v (ag a1) (aG (ag a1) [ax .u32 1 a2,ax .u8 32 a3])
abbrev wo(a0:V1)(a1:Int)(a2 a3:Nat->Int):HP:=aA true 26 2 a0.v (ag a1) (aG (ag a1) [ax .u8 1 a2,ax .u8 1 a3])
abbrev Vu:Value:= .agg (axQ (aj .u8 16 (λ_=>0)) ([.int .u8 0,.bool false,.int .u8 0,.int .u64 0,.int .u64 0,.int .u64 0])).toArray
abbrev wq(a0:V1)(a1:Int)(a2:Nat->Int):HP:=aA true 36 16 a0.v (ag a1) (aG (ag a1) [ax .u8 16 a2])
abbrev m8(a0:V1)(a1:Int)(a2 a3:Nat->Int):HP:=aA false 93 33 a0.v (ag a1) (aG (ag a1) [ax .u32 1 a2,ax .u8 32 a3])
abbrev m9(a0:V1)(a1:Int)(a2 a3 a4:Nat->Int):HP:=aA false 68 3 a0.v (ag a1) (aG (ag a1) [ax .u8 1 a2,ax .u8 1 a3,cV 1 (λj=>bg (a4 j))])
abbrev mr(a0:V1)(a1:Int)(a2 a3:Nat->Int):HP:=aA false 26 2 a0.v (ag a1) (aG (ag a1) [ax .u8 1 a2,ax .u8 1 a3])
abbrev qw(a0:V1)(a1:Int)(a2 a3 a4 a5:Nat->Int):HP:=aA false 98 19 a0.v (ag a1) (aG (ag a1) [ax .u8 16 a2,ax .u8 1 a3,cR 1 a4,ax .u64 1 a5])
abbrev mu(a0:V1)(a1:Int)(a2:Nat->Int):HP:=aA false 36 16 a0.v (ag a1) (aG (ag a1) [ax .u8 16 a2])
abbrev JU(a0:Nat)(a1 a2:Nat->Int):HP:=pA a0 [.u8,.u8,.u8,.u8,.u8,.u8,.u8,.u8,.u8,.u8,.u8,.u8,.u8,.u8,.u8,.u8] true false ([.pointer none]) a1 (Rd [vF 1 a2])
abbrev Ws(a0:Nat)(a1 a2:Int)(a3:Nat->Int)(a4 a5 a6 a7:Int)(a8:Nat):HP:=ak a0 true (.int .u8 a1::(.int .u8 a2::(.nilIface::(axQ (aj .u8 32 a3) (.int .u64 a4::((dr a5)::((dr a6)::((dr a7)::(.map (some a8)::(axQ (aj .u8 16 (λ_=>0)) ([])))))))))))
abbrev afA(a0:Nat):HP:=ak a0 true (axQ (aj .u8 32 (λ_=>0)) (axQ (aj .u8 32 (λ_=>0)) (axQ (aj .u8 32 (λ_=>0)) (axQ (aj .u8 32 (λ_=>0)) (.bool false::(.bool false::(.bool false::(.bool false::(axQ (aj .u8 32 (λ_=>0)) (.int .u32 0::(axQ (aj .u8 32 (λ_=>0)) (.int .u32 0::(.int .u32 0::(.slice none 0 0::(axQ (aj .u8 32 (λ_=>0)) (axQ (aj .u8 32 (λ_=>0)) ([.bool false,.int .u32 0,.bool false,.bool false])))))))))))))))))
abbrev Wt(a0:Nat)(a1 a2:Int)(a3:Nat->Int)(a4 a5 a6 a7:Int)(a8:Nat)(a9:Nat->Int):HP:=ak a0 true (.int .u8 a1::(.int .u8 a2::(.nilIface::(axQ (aj .u8 32 a3) (.int .u64 a4::((dr a5)::((dr a6)::((dr a7)::(.map (some a8)::(axQ (aj .u8 16 a9) ([])))))))))))
abbrev wu(a0:V1)(a1:Int)(a2 a3 a4 a5 a6 a7 a8 a9 ES C4 JS JT Oh Oi Oj Ol Om On Oo Rr:Nat->Int):HP:=aA false 77 268 a0.v (ag a1) (aG (ag a1) [ax .u8 32 a2,ax .u8 32 a3,ax .u8 32 a4,ax .u8 32 a5,cR 1 a6,cR 1 a7,cR 1 a8,cR 1 a9,ax .u8 32 ES,ax .u32 1 C4,ax .u8 32 JS,ax .u32 1 JT,ax .u32 1 Oh,cV 1 (λj=>bg (Oi j)),ax .u8 32 Oj,ax .u8 32 Ol,cR 1 Om,ax .u32 1 On,cR 1 Oo,cR 1 Rr])
abbrev JV(a0 a1:Nat):HP:=ak a0 true ([.pointer (some ⟨a1,266,none⟩),.pointer (some ⟨a1,267,none⟩)])
abbrev uR(a0:Nat)(a1:V1):HP:=ak a0 true ([.bool false,a1.v,.bool true])
abbrev G8(a0:Nat)(a1:Nat->Int)(a2:Int)(a3:Bool)(a4:Int):HP:=ak a0 true (axQ (aj .u8 16 a1) ([.int .u8 a2,.bool a3,.int .u64 a4]))
abbrev zv3(a0:Nat->Int)(a1 a2 a3:Int)(a4 a5:Nat->Int)(a6:V1)(a7:Int)(a8:V1)(a9:Nat->Int)(ES:V1)(C4:Int)(JS:Nat->Int)(JT:Bool)(Oh Oi Oj:Int)(Ol Om On:Nat->Int)(Oo:V1)(Rr:Int)(a22:V1)(a23 a24 a25 a26 a27 a28:Int)(a29 a30:V1):Value:= .agg (axQ (aj .u8 32 a0) (.int .u64 a1::(.int .u8 a2::(.int .u8 a3::(axQ (aj .u8 32 a4) (axQ (aj .u8 32 a5) (a6.v::(.int .i64 a7::(a8.v::(.int .u8 0::(.int .u8 0::(axQ (aj .u8 8 a9) (ES.v::(.int .u8 C4::(axQ (aj .u8 16 JS) (.bool JT::(.int .u8 Oh::(.int .u8 Oi::(.int .u8 Oj::(axQ (aj .u8 32 Ol) (axQ (aj .u8 32 Om) (axQ (aj .u8 32 On) ([Oo.v,.int .i64 Rr,a22.v,.int .u64 a23,.int .u64 a24,.int .u64 a25,.int .u64 a26,.int .u64 a27,.int .u32 a28,a29.v,a30.v]))))))))))))))))))))))).toArray
abbrev aav(a0:Nat)(a1 a2 a3 a4:Nat->Int)(a5 a6 a7 a8:Bool)(a9:Nat->Int)(ES:Int)(C4:Nat->Int)(JS JT:Int)(Oh:Nat->Int)(Oi:Int)(Oj Ol:Nat->Int)(Om:Bool)(On:Int)(Oo Rr:Bool):HP:=ak a0 true (axQ (aj .u8 32 a1) (axQ (aj .u8 32 a2) (axQ (aj .u8 32 a3) (axQ (aj .u8 32 a4) (.bool a5::(.bool a6::(.bool a7::(.bool a8::(axQ (aj .u8 32 a9) (.int .u32 ES::(axQ (aj .u8 32 C4) (.int .u32 JS::(.int .u32 JT::((bg (Oh (ag Oi)))::(axQ (aj .u8 32 Oj) (axQ (aj .u8 32 Ol) ([.bool Om,.int .u32 On,.bool Oo,.bool Rr])))))))))))))))))
abbrev G9(a0:Nat)(a1:V1):HP:=ak a0 true ([.bool false,a1.v,.bool false])
abbrev pJ(a0 a1:Nat):HP:=ak a0 true ([pp a1])
abbrev JW(a0 a1:Nat):HP:=ak a0 true ([.pointer (some ⟨a1,130,none⟩)])
abbrev Ru(a0:Nat):HP:=ak a0 false ([.int .u8 72,.int .u8 76,.int .u8 83,.int .u8 84,.int .u8 0,.int .u8 1])
abbrev mN(K:HP->Prop):Value->List HP->List HP->Prop:=λx hs _=> ∃p0:HP,x= .tuple #[]/\hs=[p0]/\K p0
abbrev nV(b4:Nat)(K:V1->Int->Int->(Nat->Int)->Bool->Prop):Value->List HP->List HP->Prop:=λx hs _=> ∃(v0:V1) (x1 x2:Int) (A3:Nat->Int) (u1:Bool),x= .int .u64 x1/\hs=[gu b4 v0,cr v0 x2 A3]/\K v0 x1 x2 A3 u1
abbrev nj(b5:Nat)(K:V1->Int->Int->(Nat->Int)->Bool->Prop):Value->List HP->List HP->Prop:=λx hs _=> ∃(v0:V1) (x1 x2:Int) (A3:Nat->Int) (q4:Bool),x= .int .u64 x1/\hs=[gV b5 v0 q4,bQ v0 x2 A3]/\K v0 x1 x2 A3 q4
abbrev Bw(b7:Nat)(K:V1->V1->Int->Int->(Nat->Int)->(Nat->Int)->Bool->Prop):Value->List HP->List HP->Prop:=λx hs _=> ∃(v0 v1:V1) (x2 x3:Int) (A4 A5:Nat->Int) (q6:Bool),x=v1.v/\hs=[gV b7 v0 q6,bQ v0 x2 A4,bQ v1 x3 A5]/\K v0 v1 x2 x3 A4 A5 q6
abbrev Je(b4:Nat)(x5:Int)(x6:Int)(x7:Int)(K:V1->Int->Int->(Nat->Int)->Bool->Prop):Value->List HP->List HP->Prop:=λx hs _=> ∃(v0:V1) (x1 x2:Int) (A3:Nat->Int) (u1:Bool),x= .int .u64 x1/\hs=[lB b4 v0 (((decide (1<x5))||(decide (1<x6)))||(decide (1<x7))),cr v0 x2 A3]/\K v0 x1 x2 A3 u1
abbrev Y7(b4:Nat)(x5:Int)(K:V1->Int->Int->(Nat->Int)->Bool->Prop):Value->List HP->List HP->Prop:=λx hs _=> ∃(v0:V1) (x1 x2:Int) (A3:Nat->Int) (u1:Bool),x= .int .u64 x1/\hs=[lB b4 v0 (decide (1<x5)),cr v0 x2 A3]/\K v0 x1 x2 A3 u1
abbrev Y8(b4:Nat)(x5:Int)(x6:Int)(K:V1->Int->Int->(Nat->Int)->Bool->Prop):Value->List HP->List HP->Prop:=λx hs _=> ∃(v0:V1) (x1 x2:Int) (A3:Nat->Int) (u1:Bool),x= .int .u64 x1/\hs=[lB b4 v0 ((decide (1<x5))||(decide (1<x6))),cr v0 x2 A3]/\K v0 x1 x2 A3 u1
abbrev Y9(K:V1->Int->(Nat->Int)->Prop):Value->List HP->List HP->Prop:=λx hs l=> ∃(v0:V1) (x1:Int) (A2:Nat->Int),x=v0.v/\hs=l++[cr v0 x1 A2]/\K v0 x1 A2
abbrev hd8(K:Bool->Prop):Value->List HP->List HP->Prop:=λx hs l=> ∃q0:Bool,x= .bool q0/\hs=l/\K q0
abbrev hd9(K:Int->Int->Prop):Value->List HP->List HP->Prop:=λx hs l=> ∃x0 x1:Int,x= .tuple #[(dr x0),.int .i64 x1]/\hs=l/\K x0 x1
abbrev Rv(K:V1->Int->(Nat->Int)->Prop):Value->List HP->List HP->Prop:=λx hs _=> ∃(v0:V1) (x1:Int) (A2:Nat->Int),x=v0.v/\hs=[cr v0 x1 A2]/\K v0 x1 A2
abbrev arG(K:Int->Prop):Value->List HP->List HP->Prop:=λx hs _=> ∃x0:Int,x= .int .u64 x0/\hs=[]/\K x0
abbrev aax(K:V1->Int->Int->(Nat->Int)->Prop):Value->List HP->List HP->Prop:=λx hs l=> ∃(v0:V1) (x1 x2:Int) (A3:Nat->Int),x= .tuple #[v0.v,.int .i64 x1]/\hs=l++[cr v0 x2 A3]/\K v0 x1 x2 A3
end Go.RX.Vb
