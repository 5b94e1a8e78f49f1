/- The store's walker. -/
import Derived.Test.YtllcdnkfbeokhaaGreatM31
import Derived.Test.YtllcdnkfbeokhaaGreatM33
open Go.IntKind renaming wrap → ae
open Go.Proofs.Tryz renaming prog → auN
open Int renaming toNat → ag, toNat_natCast → auD
open List renaming append → aul, getD_cons_zero → ah, getD_eq_getElem?_getD → auO, getElem?_append_left → auu, getElem?_append_right → auv, getElem?_eq_getElem → auU, getElem?_eq_some_iff → aup, getLast?_eq_some_iff → au9, length_append → aum, length_singleton → aun, map_cons → auK, mem_append → auE, mem_of_getElem? → auM, mem_range → auG, mem_singleton → auz
open Nat renaming not_lt → au6
namespace Go.RX
theorem bI.views{A B L:List HP}(hL: ∀h∈L,bc B h):bI (A++B) (A++L):=by
 intro w Fs ⟨S,hS⟩;have gA: ∀(i:Nat) x,A[i]? =some x→(A++B++Fs)[i]? =some x:=by
  intro i x hx;have hl:i<A.length:=(aup.1 hx).1;rw [auu (by simp;omega),auu hl,hx]
 have gF: ∀(i:Nat) x,Fs[i]? =some x→(A++B++Fs)[A.length+B.length+i]? =some x:=by
  intro i x hx;rw [auv (by simp),aum,Nat.add_sub_cancel_left,hx]
 have gB: ∀(i:Nat),i<B.length→∃x,(A++B++Fs)[A.length+i]? =some x:=by
  intro i hi;refine⟨B[i],?_⟩;rw [auu (by simp;omega),auv (by omega),Nat.add_sub_cancel_left,auU hi]
 have hSB:Sep B (fun i=>S (A.length+i)) w:=Sep.mid hS;have hc: ∀i:Nat,∃S':Nat→Prop,∀x,L[i]? =some x→x.p w S'∧∀k,S' k→∃j,j<B.length∧S (A.length+j) k:=by
  intro i;cases hi:L[i]? with
  | none=>exact⟨fun _=>False,fun x hx=>nomatch hx⟩
  | some y=>
   obtain⟨S',MI⟩:=(hL y (auM hi)).2 w _ hSB;exact⟨S',fun x hx=>by cases hx;exact MI⟩
 obtain⟨S1,hS1⟩:=Classical.axiomOfChoice hc;have jI: ∀(i:Nat) x,(A++L++Fs)[i]? =some x→(i<A.length∧A[i]? =some x)∨(A.length≤i∧i<A.length+L.length∧L[i - A.length]? =some x)∨(A.length+L.length≤i∧Fs[i - (A.length+L.length)]? =some x):=by
  intro i x hx;by_cases h1:i<A.length
  ·rw [auu (by simp;omega),auu h1]at hx;exact .inl ⟨h1,hx⟩
  ·by_cases h2:i<A.length+L.length
   ·rw [auu (by simp;omega),auv (by omega)]at hx;exact .inr (.inl ⟨by omega,h2,hx⟩)
   ·rw [auv (by simp;omega),aum]at hx;exact .inr (.inr ⟨by omega,hx⟩)
 refine⟨fun i k=>if i<A.length then S i k else if i<A.length+L.length then S1 (i - A.length) k else S (i - L.length+B.length) k,?_,?_⟩
 ·intro i x hx;rcases jI i x hx with⟨h1,h2⟩ | ⟨h1,h2,h3⟩ | ⟨h1,h2⟩
  ·simp only [if_pos h1];exact hS.at_ i x (gA i x h2)
  ·simp only [if_neg (au6.2 h1),if_pos h2];obtain⟨hp,hk⟩:=hS1 _ x h3;refine⟨hp,fun k kY=>?_⟩;obtain⟨j,hj,hs⟩:=hk k kY;obtain⟨y,hy⟩:=gB j hj;exact(hS.at_ _ y hy).2 k hs
  ·simp only [if_neg (show¬i<A.length by omega),if_neg (show¬i<A.length+L.length by omega)];have:=hS.at_ _ x (gF _ x h2)
   rwa [show A.length+B.length+(i - (A.length+L.length))=i - L.length+B.length by omega]at this
 ·have wrL: ∀(i:Nat) x,L[i]? =some x→x.wr=false:=fun i x hx=>(hL x (auM hx)).1
  have half: ∀(i j:Nat) (x y:HP),i≠j→(A++L++Fs)[i]? =some x→(A++L++Fs)[j]? =some y→x.wr=true→∀k,(if i<A.length then S i k else if i<A.length+L.length then S1 (i - A.length) k else S (i - L.length+B.length) k)→¬(if j<A.length then S j k else if j<A.length+L.length then S1 (j - A.length) k else S (j - L.length+B.length) k):=by
   intro i j x y nR hx hy hw k hk kY;obtain⟨i',cD,Xw,hsi⟩: ∃i',(A++B++Fs)[i']? =some x∧S i' k∧((i<A.length∧i'=i)∨(A.length+L.length≤i∧i'=i - L.length+B.length)):=by
    rcases jI i x hx with⟨h1,h2⟩ | ⟨h1,h2,h3⟩ | ⟨h1,h2⟩
    ·rw [if_pos h1]at hk;exact⟨i,gA i x h2,hk,.inl ⟨h1,rfl⟩⟩
    ·rw [wrL _ x h3]at hw;cases hw
    ·rw [if_neg (show¬i<A.length by omega),if_neg (show¬i<A.length+L.length by omega)]at hk;have:=gF _ x h2;rw [show A.length+B.length+(i - (A.length+L.length))=i - L.length+B.length by omega]at this;exact⟨_,this,hk,.inr ⟨h1,rfl⟩⟩
   rcases jI j y hy with⟨h1,h2⟩ | ⟨h1,h2,h3⟩ | ⟨h1,h2⟩
   ·rw [if_pos h1]at kY;exact hS.apart i' j x y (by omega) cD (gA j y h2) (.inl hw) k Xw kY
   ·rw [if_neg (show¬j<A.length by omega),if_pos h2]at kY;obtain⟨m,hm,hs⟩:=(hS1 _ y h3).2 k kY;obtain⟨z,hz⟩:=gB m hm;exact hS.apart i' (A.length+m) x z (by omega) cD hz (.inl hw) k Xw hs
   ·rw [if_neg (show¬j<A.length by omega),if_neg (show¬j<A.length+L.length by omega)]at kY;have:=gF _ y h2;rw [show A.length+B.length+(j - (A.length+L.length))=j - L.length+B.length by omega]at this;exact hS.apart i' _ x y (by omega) cD this (.inl hw) k Xw kY
  intro i j x y nR hx hy hw k hk kY;rcases hw with hw | hw
  ·exact half i j x y nR hx hy hw k hk kY
  ·exact half j i y x (Ne.symm nR) hy hx hw k kY hk
def HP.two(a b:HP):HP where
 wr:=true
 p w S:=(∃S':Nat→Prop,a.p w S'∧∀k,S' k→S k)∧∃S':Nat→Prop,b.p w S'∧∀k,S' k→S k
 fh w w' S hp hk:=by
  obtain⟨⟨S1,h1,h2⟩,S2,h3,h4⟩:=hp;exact⟨⟨S1,a.fh w w' S1 h1 fun k hs=>hk k (h2 k hs),h2⟩,S2,b.fh w w' S2 h3 fun k hs=>hk k (h4 k hs),h4⟩
theorem bI.two{a b:HP}(ha:a.wr=true)(hb:b.wr=true):bI [a,b] [HP.two a b]:=by
 intro w Fs ⟨S,hS⟩;have ga:([a,b]++Fs)[0]? =some a:=rfl;have gb:([a,b]++Fs)[1]? =some b:=rfl;refine⟨fun i=>match i with | 0=>fun k=>S 0 k∨S 1 k | i+1=>S (i+2),⟨?_,?_⟩⟩
 ·intro i x hx
  match i,hx with
  | 0,hx=>
   simp at hx;subst hx;exact⟨⟨⟨S 0,(hS.at_ 0 a ga).1,fun k h=> .inl h⟩,S 1,(hS.at_ 1 b gb).1,fun k h=> .inr h⟩,fun k h=>h.elim ((hS.at_ 0 a ga).2 k) ((hS.at_ 1 b gb).2 k)⟩
  | i+1,hx=>exact hS.at_ (i+2) x (by simpa using hx)
 ·intro i j x y fy hx hy hw k
  match i,j,fy,hx,hy with
  | 0,0,fy,_,_=>exact absurd rfl fy
  | 0,j+1,_,_,hy=>
   intro h1 h2;rcases h1 with h1 | h1
   ·exact hS.apart 0 (j+2) a y (by omega) ga (by simpa using hy) (.inl ha) k h1 h2
   ·exact hS.apart 1 (j+2) b y (by omega) gb (by simpa using hy) (.inl hb) k h1 h2
  | i+1,0,_,hx,_=>
   intro h1 h2;rcases h2 with h2 | h2
   ·exact hS.apart (i+2) 0 x a (by omega) (by simpa using hx) ga (.inr ha) k h1 h2
   ·exact hS.apart (i+2) 1 x b (by omega) (by simpa using hx) gb (.inr hb) k h1 h2
  | i+1,j+1,fy,hx,hy=>exact hS.apart (i+2) (j+2) x y (by omega) (by simpa using hx) (by simpa using hy) hw k
end Go.RX
namespace Go.RX.Vb
open Go Go.RX Go.Proofs Go.Vs
def gl(H G:HP):Prop:= ∀w S,H.p w S→∃S':Nat→Prop,(∀k,S' k→S k)∧G.p w S'
theorem gl.refl{H:HP}:gl H H:=fun _ S hp=>⟨S,fun _ hk=>hk,hp⟩
theorem gl.then{H G h:HP}(a:gl H G)(b:gl G h):gl H h:=fun w S hp=>by
 obtain⟨S1,k1,h1⟩:=a w S hp;obtain⟨S2,k2,h2⟩:=b w S1 h1;exact⟨S2,fun k hk=>k1 k (k2 k hk),h2⟩
theorem gl.trans{H G h:HP}(a:gl H G)(b:gZ G h):gZ H h:=⟨b.1,gl.then a b.2⟩
theorem gl.one{a b:HP}:gl (HP.two a b) a:=fun _ _ hp=>by
 obtain⟨⟨S,h1,h2⟩,_⟩:=hp;exact⟨S,h2,h1⟩
theorem gZ.other{a:HP}{t s n:Nat}{v:Value}{cs:List Value}:gZ (HP.two a (aB true t s v n cs)) (aB false t s v n cs):=⟨rfl,fun _ _ hp=>by
 obtain⟨_,S,h1,h2⟩:=hp;exact⟨_,fun k hk=>h2 k hk.1,Az h1⟩⟩
abbrev laid(n:Int)(k:Nat)(A:Nat→Int):Nat→Int:=bX (fun _=>0) 0 (ag (ar .iO .i64 n (k:Int))) A
theorem R9(k:Nat)(hk:0<k)(o:sR):((raw k).bD o).2=(mK k o).2∧∀j,j<k→laid ((mK k o).1.length:Int) k (aI (mK k o).1) j=aI ((raw k).bD o).1 j:=by
 have hz: ∀j,j<k→laid (([]:List Nat).length:Int) k (aI []) j=aI (List.replicate k 0) j:=by
  intro j hj;have h1:aI (List.replicate k 0) j=0:=by simp [aI,auO,hj]
  rw [h1];simp only [laid,bX,ar,List.length_nil];split
  ·rename_i h;exfalso;simp at h;omega
  ·rfl
 cases o with
 | none=>exact⟨rfl,hz⟩
 | some b=>
  by_cases h:k≤b.length
  ·have e1:(raw k).bD (some b)=(b.take k,some (b.drop k)):=by simp only [raw,take,h,if_true];rfl
   have e2:mK k (some b)=(b.take k,some (b.drop k)):=by simp only [mK,take,h,if_true];rfl
   rw [e1,e2];refine⟨rfl,fun j hj=>?_⟩;have hl:(b.take k).length=k:=List.length_take_of_le h;simp only [laid,bX,ar,hl];rw [if_pos ⟨by omega,by simp;omega⟩,Nat.sub_zero]
  ·have e1:(raw k).bD (some b)=(List.replicate k 0,none):=by simp only [raw,take,h,if_false];rfl
   have e2:mK k (some b)=([],none):=by simp only [mK,take,h,if_false];rfl
   rw [e1,e2];exact⟨rfl,hz⟩
theorem fo(k:Nat)(o:sR):((raw k).bD o).1.length=k:=by
 cases o with
 | none=>simp [raw,take]
 | some b=>
  by_cases h:k≤b.length
  ·have e1:(raw k).bD (some b)=(b.take k,some (b.drop k)):=by simp only [raw,take,h,if_true];rfl
   rw [e1];exact List.length_take_of_le h
  ·have e1:(raw k).bD (some b)=(List.replicate k 0,none):=by simp only [raw,take,h,if_false];rfl
   rw [e1];simp
theorem Wm{q:Bool}{l:List Nat}(h:fL l): ∀b,cg q l=some b→fL b:=by
 intro b hb;cases q with
 | true=>cases hb
 | false=>cases hb;exact h
theorem R_(k:Nat){q:Bool}{l:List Nat}(h:fL l):((num k).bD (cg q l)).1<256^k:=by
 cases q with
 | true=>exact Nat.pow_pos (by decide)
 | false=>
  by_cases hk:k≤l.length
  ·have e1:(num k).bD (cg false l)=(jd (l.take k),some (l.drop k)):=by simp only [num,cg,take,hk,Bool.false_eq_true,if_false,if_true];rfl
   rw [e1];exact(Ea k (l.take k) (List.length_take_of_le hk) (h.take k).b).2
  ·have e1:(num k).bD (cg false l)=(0,none):=by simp only [num,cg,take,hk,Bool.false_eq_true,if_false];rfl
   rw [e1];exact Nat.pow_pos (by decide)
theorem cS{b:Nat}{v:V1}{q:Bool}{l:List Nat}{A:Nat→Int}{n:Int}{o:sR}(k:Nat){K:Int}(hK:K=(k:Int))(hk:0<k)(ho:cg q l=o)(hl:fL l)(hA:cj A l)(hn:n=(l.length:Int)){R:V1→V1→Int→Int→(Nat→Int)→(Nat→Int)→Bool→Prop}
  (h: ∀(v' v2:V1) (n2:Int) (A2:Nat→Int) (q':Bool) (l':List Nat),fL l'→cg q' l'=((raw k).bD o).2→0≤n2→(∀j,j<k→laid n2 k A2 j=aI ((raw k).bD o).1 j)→R v' v2 (l'.length:Int) n2 (aI l') A2 q'):
  ∃post,aq auN 45 [.pointer (some ⟨b,0,none⟩),.int .i64 K] [ak b true ([.bool false,v.v,.bool q]),aB false 5 1 v.v (ag n) (aM (ag n) [ay .u8 1 A])] post∧
   ∀x hs,post x hs→∃v1:V1,∃v2:V1,∃x1:Int,∃x2:Int,∃A1:(Nat→Int),∃A2:(Nat→Int),∃q1:Bool,x=v2.v∧hs=[ak b true ([.bool false,v1.v,.bool q1]),aB false 5 1 v1.v (ag x1) (aM (ag x1) [ay .u8 1 A1]),aB false 5 1 v2.v (ag x2) (aM (ag x2) [ay .u8 1 A2])]∧R v1 v2 x1 x2 A1 A2 q1:=by
 subst hn ho hK;rw [auD,hA.xi];refine⟨_,ym b v q l hl k,?_⟩;rintro x hs ⟨o',v',q',l',m,rfl,rfl,he,OX,hm⟩;obtain⟨e1,e2⟩:=R9 k hk (cg q l);have em:m=(mK k (cg q l)).1:=by rw [←he]
 have eo:cg q' l'=(mK k (cg q l)).2:=by rw [←he]
 refine⟨v',o',_,_,_,_,q',rfl,rfl,h v' o' _ _ q' l' OX (by rw [e1];exact eo) (Int.natCast_nonneg m.length) ?_⟩;rw [em];exact e2
theorem bp{b:Nat}{v:V1}{q:Bool}{l:List Nat}{A:Nat→Int}{n X:Int}{o:sR}(k:Nat){K:Int}(hk:k=1∧K=1∨k=4∧K=4∨k=8∧K=8)(ho:cg q l=o)(hl:fL l)(hA:cj A l)(hn:n=(l.length:Int)){R:V1→Int→Int→(Nat→Int)→Bool→Prop}
  (h: ∀(v':V1) (q':Bool) (l':List Nat),fL l'→cg q' l'=((num k).bD o).2→((num k).bD o).1<256^k→R v' (((num k).bD o).1:Int) (l'.length:Int) (aI l') q'):
  ∃post,aq auN 21 [.pointer (some ⟨b,0,none⟩),.int .u64 X,.int .i64 K] [ak b true ([.bool false,v.v,.bool q]),aB false 5 1 v.v (ag n) (aM (ag n) [ay .u8 1 A])] post∧
   ∀x hs,post x hs→∃v1:V1,∃x1:Int,∃x2:Int,∃A1:(Nat→Int),∃q1:Bool,x= .int .u64 x1∧hs=[ak b true ([.bool false,v1.v,.bool q1]),aB false 5 1 v1.v (ag x2) (aM (ag x2) [ay .u8 1 A1])]∧R v1 x1 x2 A1 q1:=by
 subst hn ho;rw [auD,hA.xi];have key: ∀(y:Value) (hs:List HP),(y= .int .u64 (((num k).bD (cg q l)).1:Int)∧∃(v':V1) (q':Bool) (l':List Nat),hs=[dy b false v'.v q',aR false v'.v l']∧cg q' l'=((num k).bD (cg q l)).2∧fL l')→
   ∃v1:V1,∃x1:Int,∃x2:Int,∃A1:(Nat→Int),∃q1:Bool,y= .int .u64 x1∧hs=[ak b true ([.bool false,v1.v,.bool q1]),aB false 5 1 v1.v (ag x2) (aM (ag x2) [ay .u8 1 A1])]∧R v1 x1 x2 A1 q1:=by
  rintro y hs ⟨rfl,v',q',l',rfl,e,OX⟩;exact⟨v',_,_,_,q',rfl,rfl,h v' q' l' OX e (R_ k hl)⟩
 rcases hk with⟨rfl,rfl⟩ | ⟨rfl,rfl⟩ | ⟨rfl,rfl⟩
 ·exact⟨_,GF b v q l hl X,key⟩
 ·exact⟨_,GG b v q l hl X,key⟩
 ·exact⟨_,GH b v q l hl X,key⟩
theorem ky{b:Nat}{v:V1}{q:Bool}{l:List Nat}{A:Nat→Int}{n X:Int}{o:sR}(ho:cg q l=o)(hl:fL l)(hA:cj A l)(hn:n=(l.length:Int)){R:V1→Int→Int→(Nat→Int)→Bool→Prop}
  (h: ∀(v':V1) (q':Bool) (l':List Nat) (N:Nat) (O:sR),fL l'→cg q' l'=O→N<256^4→N=((num 4).bD o).1→O=((num 4).bD o).2→R v' (N:Int) (l'.length:Int) (aI l') q'):
  ∃post,aq auN 21 [.pointer (some ⟨b,0,none⟩),.int .u64 X,.int .i64 4] [ak b true ([.bool false,v.v,.bool q]),aB false 5 1 v.v (ag n) (aM (ag n) [ay .u8 1 A])] post∧
   ∀x hs,post x hs→∃v1:V1,∃x1:Int,∃x2:Int,∃A1:(Nat→Int),∃q1:Bool,x= .int .u64 x1∧hs=[ak b true ([.bool false,v1.v,.bool q1]),aB false 5 1 v1.v (ag x2) (aM (ag x2) [ay .u8 1 A1])]∧R v1 x1 x2 A1 q1:=
 bp 4 (.inr (.inl ⟨rfl,rfl⟩)) ho hl hA hn fun v' q' l' OX Ii hb=>h v' q' l' _ _ OX Ii hb rfl rfl
theorem mT{q:Bool}{l:List Nat}{o:sR}(h:cg q l=((num 1).bD o).2):cg (q||decide (1<(((num 1).bD o).1:Int))) l=(flag.bD o).2:=by
 have e:(flag.bD o).2=if((num 1).bD o).1≤1 then((num 1).bD o).2 else none:=rfl
 rw [e,←h];by_cases hx:((num 1).bD o).1≤1
 ·rw [if_pos hx,show decide (1<(((num 1).bD o).1:Int))=false by simp;omega,Bool.or_false]
 ·rw [if_neg hx,show decide (1<(((num 1).bD o).1:Int))=true by simp;omega,Bool.or_true];rfl
theorem jy(o:sR):((((num 1).bD o).1:Int)==1)=(!(bi (flag.bD o).1==0)):=by
 have e:(flag.bD o).1=(((num 1).bD o).1==1):=rfl;rw [vO,e];generalize ((num 1).bD o).1=x;rw [Bool.eq_iff_iff];simp;omega
theorem fR{n:Nat}{A B:Nat→Int}(h: ∀j,j<n→A j=B j):aj .u8 n A=aj .u8 n B:=by
 unfold aj;refine List.map_congr_left fun j hj=>?_
 rw [h j (auG.1 hj)]
theorem Sa{α:Type}(f:α→List Nat)(w:Nat)(s:List α)(hs: ∀y∈s,(f y).length=w):(s.flatMap f).length=s.length*w:=by
 induction s with
 | nil=>simp
 | cons a s ih=>rw [List.flatMap_cons,aum,ih (fun y hy=>hs y (by simp [hy])),hs a (by simp),List.length_cons,Nat.succ_mul];omega
theorem AV{α:Type}(f:α→List Nat)(w:Nat)(s:List α)(x:α){B:Nat→Int}(hs: ∀y∈s,(f y).length=w)(_:(f x).length=w)(hB: ∀j,j<w→B j=aI (f x) j):
  ∀j,j<ag (((s++[x]).length:Int)*(w:Int))→cq f (s++[x]) j=bX (cq f s) (ag ((s.length:Int)*(w:Int))) w B j:=by
 have hl:=Sa f w s hs;intro j hj;rw [←Int.natCast_mul,auD]at hj ⊢;rw [aum,aun,Nat.succ_mul]at hj;simp only [bX,cq,aI,List.flatMap_append,List.flatMap_cons,List.flatMap_nil,List.append_nil,auO];split
 ·rename_i h;rw [hB _ (by omega),auv (by omega),hl];simp [aI]
 ·rename_i h;rw [auu (by omega)]
theorem mG{α:Type}(f:α→Nat)(s:List α)(x:α){z:Int}(hz:z=(f x:Int)): ∀j,j<ag (((s++[x]).length:Int))→bN f (s++[x]) j=aw (bN f s) (ag (s.length:Int)) z j:=by
 subst hz;intro j hj;rw [auD]at hj ⊢;rw [aum,aun]at hj;simp only [aw,bN,List.map_append,auK,List.map_nil,auO];split
 ·rename_i h;subst h;rw [auv (by simp)];simp
 ·rename_i h;rw [auu (by simp;omega)]
theorem r8{α:Type}(f:α→Bool)(s:List α)(x:α){z:Int}(hz:z=bi (f x)): ∀j,j<ag (((s++[x]).length:Int))→er f (s++[x]) j=aw (er f s) (ag (s.length:Int)) z j:=by
 subst hz;intro j hj;rw [auD]at hj ⊢;rw [aum,aun]at hj;simp only [aw,er,List.map_append,auK,List.map_nil,auO];split
 ·rename_i h;subst h;rw [auv (by simp)];simp
 ·rename_i h;rw [auu (by simp;omega)]
theorem nJ{α:Type}(c:rb α){n:Nat}{q:Bool}{l:List Nat}{acc:List α}(h: ¬(0<(n:Int)∧¬q=true)):ml c n (cg q l) acc=(acc,cg q l):=by
 cases q with
 | true=>exact vM c n acc
 | false=>
  have:n=0:=by
   simp at h;exact h
  subst this;rfl
theorem nK{α:Type}(c:rb α){n:Nat}{q:Bool}{l:List Nat}{acc:List α}(h:0<(n:Int)∧¬q=true): ∃m,n=m+1∧q=false∧ml c n (cg q l) acc=ml c m (c.bD (cg q l)).2 (acc++[(c.bD (cg q l)).1]):=by
 obtain⟨h1,h2⟩:=h;have:q=false:=by cases q<;>simp_all
 subst this;obtain⟨m,rfl⟩: ∃m,n=m+1:=⟨n - 1,by omega⟩;exact⟨m,rfl,rfl,rfl⟩
open Go Go.RX Go.Proofs Go.Vs
structure aas (x:gX):Prop where
 dh:x.dh.length=32
 n:x.n<256^4
 msg:x.msg.length=32
theorem AW{m:Nat}(h:m+1≤256^4):(m:Int)=ae .u64 (((m+1:Nat):Int) - 1):=by
 have:ae .u64 (((m+1:Nat):Int) - 1)=(((m+1:Nat):Int) - 1)%18446744073709551616:=rfl;omega
abbrev Qv:List Value:=aul (aj .u8 32 (fun _=>0)) (aul (aj .u8 32 (fun _=>0)) (aul (aj .u8 32 (fun _=>0)) (aul (aj .u8 32 (fun _=>0)) (.bool false::(.bool false::(.bool false::(.bool false::(aul (aj .u8 32 (fun _=>0)) (.int .u32 0::(aul (aj .u8 32 (fun _=>0)) (.int .u32 0::(.int .u32 0::(.slice none 0 0::(aul (aj .u8 32 (fun _=>0)) (aul (aj .u8 32 (fun _=>0)) ([.bool false,.int .u32 0,.bool false,.bool false]))))))))))))))))
theorem NR{e:cf}{v:Value}{A0 A1 A2 A3 A4 A5 A6 A7:Nat→Int}{b0 b1 b2 b3 b4 b5 b6:Bool}{x0 x1 x2 x3:Int}(h0: ∀j,j<32→A0 j=aI e.s.root j)(h1: ∀j,j<32→A1 j=aI e.s.bind j)(h2: ∀j,j<32→A2 j=aI e.s.own j)(h3: ∀j,j<32→A3 j=aI e.s.ej j)(h4: ∀j,j<32→A4 j=aI e.s.send.key j)(h5: ∀j,j<32→A5 j=aI e.s.recv.key j)(h6: ∀j,j<32→A6 j=aI e.ident j)(h7: ∀j,j<32→A7 j=aI e.ux j)
  (c0:b0= !(bi e.s.jO==0)) (c1:b1= !(bi e.s.jP==0)) (c2:b2= !(bi e.s.jQ==0)) (c3:b3= !(bi e.s.eD==0)) (d0:x0=(e.s.send.n:Int)) (d1:x1=(e.s.recv.n:Int)) (d2:x2=(e.s.prev:Int)) (c4:b4= !(bi e.ek==0)) (d3:x3=(e.eW:Int)) (c5:b5= !(bi e.own==0)) (c6:b6= !(bi e.current==0)):
  aul (aj .u8 32 A0) (aul (aj .u8 32 A1) (aul (aj .u8 32 A2) (aul (aj .u8 32 A3) (.bool b0::(.bool b1::(.bool b2::(.bool b3::(aul (aj .u8 32 A4) (.int .u32 x0::(aul (aj .u8 32 A5) (.int .u32 x1::(.int .u32 x2::(v::(aul (aj .u8 32 A6) (aul (aj .u8 32 A7) ([.bool b4,.int .u32 x3,.bool b5,.bool b6]))))))))))))))))=lL e v:=by
 rw [fR h0,fR h1,fR h2,fR h3,fR h4,fR h5,fR h6,fR h7,c0,c1,c2,c3,c4,c5,c6,d0,d1,d2,d3]
theorem aat{a b d a' b':HP}{k:Nat}{r r':List Value}{L:List HP}(h1:a=a')(h2:b=b')(h3:r=r')(h4:L.getLast? =some d): ∃mid,a::b::ak k true r::L=[a',b',ak k true r']++mid++[d]:=by
 subst h1 h2 h3;obtain⟨hn,hl⟩:=au9.1 h4;exact⟨hn,by rw [hl];rfl⟩
set_option maxRecDepth 100000 in
set_option maxHeartbeats 4000000 in
theorem aau(b b1:Nat)(v:V1)(q:Bool)(l:List Nat)(hl:fL l):aq auN 105 [wP b,wP b1] [dy b false v.v q,aR false v.v l,ak b1 true Qv]
  fun r hs=>r= .tuple #[]∧∃(v' u:V1) (q':Bool) (l':List Nat),hs=[pF true u.v (bS.bD (cg q l)).1.s.aN,dy b false v'.v q',aR false v'.v l',ak b1 true (lL (bS.bD (cg q l)).1 u.v)]∧cg q' l'=(bS.bD (cg q l)).2∧fL l':=by
 refine aq.post (Wl (fun r hs=>r= .tuple #[]∧∃(v' u:V1) (q':Bool) (l':List Nat),(∃mid,hs=[dy b false v'.v q',aR false v'.v l',ak b1 true (lL (bS.bD (cg q l)).1 u.v)]++mid++[pF true u.v (bS.bD (cg q l)).1.s.aN])∧cg q' l'=(bS.bD (cg q l)).2∧fL l') (l.length:Int) (aI l) q v b b1 ?_) ?_;rotate_left
 ·rintro r hs ⟨rfl,v',u,q',l',⟨mid,rfl⟩,h1,h2⟩;exact⟨_,bI.trans (bI.perm List.perm_append_comm) (bI.sub (List.Sublist.append (List.Sublist.refl _) (List.sublist_append_left _ _))),rfl,v',u,q',l',rfl,h1,h2⟩
 unfold Lg;intro _ _;refine cS 32 rfl (by decide) rfl hl cj.rfl rfl fun v0 w0 n0 A0 q0 l0 yP ho0 Da vV=>?_
 refine⟨Da,fun _=>⟨Da,fun _=>?_⟩⟩;refine cS 32 rfl (by decide) ho0 yP cj.rfl rfl fun v1 w1 n1 A1 q1 l1 IK ho1 hn1 X4=>?_
 refine⟨hn1,fun _=>⟨hn1,fun _=>?_⟩⟩;refine cS 32 rfl (by decide) ho1 IK cj.rfl rfl fun v2 w2 n2 A2 q2 l2 MC MW hn2 hA2=>?_
 refine⟨hn2,fun _=>⟨hn2,fun _=>?_⟩⟩;refine cS 32 rfl (by decide) MW MC cj.rfl rfl fun v3 w3 n3 A3 q3 l3 YJ ho3 hn3 hA3=>?_
 refine⟨hn3,fun _=>⟨hn3,fun _=>?_⟩⟩;intro _;refine bp 1 (.inl ⟨rfl,rfl⟩) ho3 YJ cj.rfl rfl fun v4 q4 l4 hl4 ho4 hb4=>?_
 have hf4:=mT ho4;refine bp 1 (.inl ⟨rfl,rfl⟩) hf4 hl4 cj.rfl rfl fun v5 q5 l5 hl5 ho5 hb5=>?_
 have hf5:=mT ho5;refine bp 1 (.inl ⟨rfl,rfl⟩) hf5 hl5 cj.rfl rfl fun v6 q6 l6 hl6 ho6 hb6=>?_
 have hf6:=mT ho6;refine bp 1 (.inl ⟨rfl,rfl⟩) hf6 hl6 cj.rfl rfl fun v7 q7 l7 hl7 ho7 hb7=>?_
 have hf7:=mT ho7;intro _;refine cS 32 rfl (by decide) hf7 hl7 cj.rfl rfl fun v8 w8 n8 A8 q8 l8 hl8 ho8 hn8 hA8=>?_
 refine⟨hn8,fun _=>⟨hn8,fun _=>?_⟩⟩;intro _;refine bp 4 (.inr (.inl ⟨rfl,rfl⟩)) ho8 hl8 cj.rfl rfl fun v9 q9 l9 hl9 ho9 hb9=>?_
 intro _;refine cS 32 rfl (by decide) ho9 hl9 cj.rfl rfl fun v10 w10 n10 dX Uf l10 aay aaz aeg ai9=>?_
 refine⟨aeg,fun _=>⟨aeg,fun _=>?_⟩⟩;intro _;refine bp 4 (.inr (.inl ⟨rfl,rfl⟩)) aaz aay cj.rfl rfl fun v11 Fu l11 aaA aaB ai_=>?_
 intro _;refine bp 4 (.inr (.inl ⟨rfl,rfl⟩)) aaB aaA cj.rfl rfl fun qY Pj l12 aaC aaD aeh=>?_
 refine bp 4 (.inr (.inl ⟨rfl,rfl⟩)) aaD aaC cj.rfl rfl fun pP Ug l13 aaE Wn aaF=>?_
 generalize hN:((num 4).bD _).1=N at aaF ⊢;generalize hO:cg Ug l13=O at Wn;refine⟨fun x=> ∃(w w2:V1) (n:Nat) (q:Bool) (l:List Nat) (acc:List gX),x=⟨[],[w,w2],[(n:Int),(l.length:Int),(acc.length:Int)],[aI l,cq gX.dh acc,bN gX.n acc,cq gX.msg acc],[q],[],[]⟩∧fL l∧acc.length+n=N∧(∀y∈acc,aas y)∧ml dV n (cg q l) acc=ml dV N O [],fun x=>(x.i.getD 0 0).toNat,?_,?_⟩
 ·exact⟨pP,⟨.slice none 0 0,rfl⟩,_,_,0,_,cq gX.dh [],bN gX.n [],cq gX.msg [],Ug,rfl,rfl,rfl,rfl,rfl,fun _ _=>rfl,rfl,rfl,rfl,fun _ h=>absurd h (by simp),fun _ h=>absurd h (by simp),fun _ h=>absurd h (by simp),pP,_,N,Ug,l13,[],rfl,aaE,by simp,by simp,by rw [hO]⟩
 rintro w w2 oY nS im B21 B22 B23 B24 qq ⟨w,w2,n,qq,ll,acc,hx,hll,hn,Wo,Wp⟩;simp only [Ext.mk.injEq,List.cons.injEq,and_true,true_and]at hx;obtain⟨⟨rfl,rfl⟩,⟨rfl,rfl,rfl⟩,⟨rfl,rfl,rfl,rfl⟩,rfl⟩:=hx;refine⟨fun cF=>?_,fun mn=>?_⟩
 ·obtain⟨m,rfl,rfl,qH⟩:=nK dV cF;intro _ _;refine cS 32 rfl (by decide) rfl hll cj.rfl rfl fun va0 wa0 na0 Aa0 qa0 la0 aaG aaH aei ajb=>?_
  refine⟨aei,fun _=>⟨aei,fun _=>?_⟩⟩;intro _;refine bp 4 (.inr (.inl ⟨rfl,rfl⟩)) aaH aaG cj.rfl rfl fun va1 qa1 la1 aaI aaJ aej=>?_
  intro _;refine cS 32 rfl (by decide) aaJ aaI cj.rfl rfl fun zD wa2 na2 Aa2 qa2 la2 aje ajf aek ajg=>?_
  refine⟨aek,fun _=>⟨aek,fun _=>?_⟩⟩;intro _;have hx:aas (dV.bD (cg false ll)).1:=⟨fo 32 _,aej,fo 32 _⟩;refine⟨by omega,fun _=>⟨by omega,fun _=>fun w3=>?_⟩⟩;refine⟨zD,w3,(m:Int),_,((acc++[(dV.bD (cg false ll)).1]).length:Int),_,cq gX.dh (acc++[(dV.bD (cg false ll)).1]),bN gX.n (acc++[(dV.bD (cg false ll)).1]),cq gX.msg (acc++[(dV.bD (cg false ll)).1]),qa2,AW (by omega),rfl,rfl,rfl,rfl,fun _ _=>rfl,rfl,rfl,by simp,?_,?_,?_,⟨zD,w3,m,qa2,la2,_,rfl,aje,by simp;omega,?_,?_⟩,?_⟩
  ·exact AV gX.dh 32 acc _ (fun y hy=>(Wo y hy).dh) (fo 32 _) ajb
  ·exact mG gX.n acc _ (AG aej)
  ·exact AV gX.msg 32 acc _ (fun y hy=>(Wo y hy).msg) (fo 32 _) ajg
  ·intro y hy;rcases auE.1 hy with hy | hy
   ·exact Wo y hy
   ·rw [auz.1 hy];exact hx
  ·rw [ajf,←Wp,qH];rfl
  ·simp only [ah];omega
 ·rw [nJ dV mn]at Wp;have X5:cg qq ll=(ml dV N O []).2:=by rw [←Wp]
  have hg1:acc=(ml dV N O []).1:=by rw [←Wp]
  intro _;refine cS 32 rfl (by decide) X5 hll cj.rfl rfl fun vz0 wz0 nz0 Az0 qz0 lz0 ajh aji ael ajj=>?_
  refine⟨ael,fun _=>⟨ael,fun _=>?_⟩⟩;refine cS 32 rfl (by decide) aji ajh cj.rfl rfl fun vz1 wz1 nz1 Az1 qz1 lz1 ajk ajl aem ajm=>?_
  refine⟨aem,fun _=>⟨aem,fun _=>?_⟩⟩;intro _;refine bp 1 (.inl ⟨rfl,rfl⟩) ajl ajk cj.rfl rfl fun vz2 qz2 lz2 ajn ajo apG=>?_
  have ajp:=mT ajo;intro _;refine bp 4 (.inr (.inl ⟨rfl,rfl⟩)) ajp ajn cj.rfl rfl fun vz3 qz3 lz3 ajq ajr ajs=>?_
  intro _;refine bp 1 (.inl ⟨rfl,rfl⟩) ajr ajq cj.rfl rfl fun vz4 qz4 lz4 ajt aju apH=>?_
  have ajv:=mT aju;refine bp 1 (.inl ⟨rfl,rfl⟩) ajv ajt cj.rfl rfl fun vz5 qz5 lz5 ajw ajx apK=>?_
  have ajy:=mT ajx;subst hg1 hN Wn;refine⟨rfl,vz5,w2,_,lz5,?_,ajy,ajw⟩;refine aat rfl rfl (NR (e:=(bS.bD (cg q l)).1) (v:=w2.v) vV X4 hA2 hA3 hA8 ai9 ajj ajm (jy _) (jy _) (jy _) (jy _) (AG hb9) (AG ai_) (AG aeh) (jy _) (AG ajs) (jy _) (jy _)) rfl
open Go Go.RX Go.Proofs Go.Vs
def Cw(o:sR):Prop:= ∀b,o=some b→fL b
theorem Cw.st{q:Bool}{l:List Nat}(h:fL l):Cw (cg q l):=Wm h
theorem Cw.bD{α:Type}(c:rb α){o:sR}(h:Cw o):Cw (c.bD o).2:=by
 intro b hb;cases o with
 | none=>rw [c.bad]at hb;cases hb
 | some l=>
  have e:=(c.bwd l _ b (h l rfl).b (Prod.ext rfl hb)).1;exact⟨zw (h l rfl).b e,Nat.le_trans (by rw [e,aum];omega) (h l rfl).n⟩
theorem Cw.ml{α:Type}(c:rb α)(n:Nat){o:sR}(acc:List α)(h:Cw o):Cw (ml c n o acc).2:=by
 induction n generalizing o acc with
 | zero=>exact h
 | succ n ih=>
  cases o with
  | none=>exact h
  | some b=>exact ih _ (h.bD c)
theorem Wq{α:Type}(c:rb α)(P:α→Prop)(hc: ∀o,Cw o→P (c.bD o).1)(n:Nat){o:sR}(acc:List α)(h:Cw o)(ha: ∀y∈acc,P y): ∀y∈(Go.Vs.ml c n o acc).1,P y:=by
 induction n generalizing o acc with
 | zero=>exact ha
 | succ n ih=>
  cases o with
  | none=>exact ha
  | some b=>
   refine ih _ (h.bD c) fun y hy=>?_
   rcases auE.1 hy with hy | hy
   ·exact ha y hy
   ·rw [auz.1 hy];exact hc _ h
theorem Ws{α:Type}(c:rb α)(n:Nat)(o:sR)(acc:List α):(Go.Vs.ml c n o acc).1.length≤acc.length+n:=by
 induction n generalizing o acc with
 | zero=>simp [Go.Vs.ml]
 | succ n ih=>
  cases o with
  | none=>simp [Go.Vs.ml]
  | some b=>
   have:=ih (c.bD (some b)).2 (acc++[(c.bD (some b)).1]);rw [aum,aun]at this;simp only [Go.Vs.ml];omega
theorem qz(k:Nat){o:sR}(h:Cw o):((num k).bD o).1<256^k:=by
 cases o with
 | none=>exact Nat.pow_pos (by decide)
 | some l=>exact R_ (q:=false) k (h l rfl)
theorem G1{α:Type}(c:rb α){o:sR}(h:Cw o):((Go.Vs.list c).bD o).1.length<256^4:=by
 have h1:=Ws c ((num 4).bD o).1 ((num 4).bD o).2 [];have h2:=qz 4 h;rw [List.length_nil]at h1;exact Nat.lt_of_le_of_lt h1 (by omega)
theorem vX{α:Type}(c:rb α)(P:α→Prop)(hc: ∀o,Cw o→P (c.bD o).1){o:sR}(h:Cw o): ∀y∈((Go.Vs.list c).bD o).1,P y:=
 Wq c P hc _ [] (h.bD (num 4)) (by simp)
theorem AX{o:sR}(h:Cw o):aas (dV.bD o).1:=⟨fo 32 _,qz 4 (h.bD (raw 32)),fo 32 _⟩
set_option maxHeartbeats 4000000 in
theorem Dh{o:sR}(h:Cw o):qO (bS.bD o).1:=by
 have h4:Cw _:=(((h.bD (raw 32)).bD (raw 32)).bD (raw 32)).bD (raw 32);have h8:Cw _:=(((h4.bD flag).bD flag).bD flag).bD flag;have h9:=h8.bD (raw 32);have h10:=h9.bD (num 4);have Y_:=h10.bD (raw 32);have h12:=Y_.bD (num 4);have U9:=h12.bD (num 4);have h14:=U9.bD (Go.Vs.list dV);have h17:=((h14.bD (raw 32)).bD (raw 32)).bD flag;exact⟨fo 32 _,fo 32 _,fo 32 _,fo 32 _,fo 32 _,qz 4 h9,fo 32 _,qz 4 Y_,qz 4 h12,G1 dV U9,vX dV (fun x=>x.dh.length=32) (fun _ h=>(AX h).dh) U9,vX dV (fun x=>x.n<256^4) (fun _ h=>(AX h).n) U9,vX dV (fun x=>x.msg.length=32) (fun _ h=>(AX h).msg) U9,fo 32 _,fo 32 _,qz 4 h17⟩
theorem Ev{o:sR}(h:Cw o):((num 1).bD o).1<256:=qz 1 h
theorem Jq{o:sR}(h:Cw o):kb (bM.bD o).1:=
 ⟨Ev h,Ev (h.bD (num 1)),G1 bS ((h.bD (num 1)).bD (num 1)),vX bS qO (fun _ h=>Dh h) ((h.bD (num 1)).bD (num 1))⟩
theorem Jr(b b1:Nat)(v:V1)(q:Bool)(l:List Nat)(hl:fL l):aq auN 105 [wP b,wP b1] [dy b false v.v q,aR false v.v l,ak b1 true Qv]
  fun r hs=>r= .tuple #[]∧∃(v':V1) (c:Int) (q':Bool) (l':List Nat),hs=[pF true (cc c) (bS.bD (cg q l)).1.s.aN,dy b false v'.v q',aR false v'.v l',ak b1 true (lL (bS.bD (cg q l)).1 (cc c))]∧cg q' l'=(bS.bD (cg q l)).2∧fL l':=by
 refine aq.post (aq.know (Q:=fun r hs=>r= .tuple #[]∧∃(v':V1) (c:Int) (q':Bool) (l':List Nat),hs=[pF true (cc c) (bS.bD (cg q l)).1.s.aN,dy b false v'.v q',aR false v'.v l',ak b1 true (lL (bS.bD (cg q l)).1 (cc c))]∧cg q' l'=(bS.bD (cg q l)).2∧fL l') (aau b b1 v q l hl) ?_) fun _ _ h=>⟨_,bI.refl _,h.2⟩
 rintro r hs ⟨rfl,v',u,q',l',rfl,h1,h2⟩ w Fs ho;obtain⟨c,hc⟩:=Gj ho;rw [hc];exact⟨rfl,v',c,q',l',rfl,h1,h2⟩
theorem NS{b b5:Nat}{v:V1}{q:Bool}{l:List Nat}{A:Nat→Int}{n:Int}{o:sR}{H:HP}(hH:H.wr=true)(ho:cg q l=o)(hl:fL l)(hA:cj A l)(hn:n=(l.length:Int))
  {R:V1→Int→Int→Int→Int→Int→Int→Int→Int→Int→Int→Int→Int→Int→(Nat→Int)→(Nat→Int)→(Nat→Int)→(Nat→Int)→(Nat→Int)→(Nat→Int)→(Nat→Int)→(Nat→Int)→(Nat→Int)→Bool→HP→Prop}
  (h: ∀(v':V1) (c:Int) (q':Bool) (l':List Nat) (H':HP),fL l'→cg q' l'=(bS.bD o).2→qO (bS.bD o).1→H'.wr=true→gl H' H→gZ H' (pF false (cc c) (bS.bD o).1.s.aN)→
   R v' (bi (bS.bD o).1.s.jO) (bi (bS.bD o).1.s.jP) (bi (bS.bD o).1.s.jQ) (bi (bS.bD o).1.s.eD) ((bS.bD o).1.s.send.n:Int) ((bS.bD o).1.s.recv.n:Int) ((bS.bD o).1.s.prev:Int) c (bi (bS.bD o).1.ek) ((bS.bD o).1.eW:Int) (bi (bS.bD o).1.own) (bi (bS.bD o).1.current) (l'.length:Int)
    (aI l') (aI (bS.bD o).1.s.root) (aI (bS.bD o).1.s.bind) (aI (bS.bD o).1.s.own) (aI (bS.bD o).1.s.ej) (aI (bS.bD o).1.s.send.key) (aI (bS.bD o).1.s.recv.key) (aI (bS.bD o).1.ident) (aI (bS.bD o).1.ux) q' H'):
  ∃post,aq auN 105 [.pointer (some ⟨b,0,none⟩),.pointer (some ⟨b5,0,none⟩)] [ak b true ([.bool false,v.v,.bool q]),aB false 5 1 v.v (ag n) (aM (ag n) [ay .u8 1 A]),ak b5 true Qv,H] post∧
   ∀x hs,post x hs→∃v7:V1,∃bE:Int,∃bO:Int,∃bT:Int,∃bL:Int,∃dR:Int,∃bW:Int,∃dF:Int,∃cr:Int,∃dB:Int,∃cI:Int,∃dz:Int,∃gQ:Int,∃fc:Int,∃k_:(Nat→Int),∃n_:(Nat→Int),∃nj:(Nat→Int),∃o_:(Nat→Int),∃q_:(Nat→Int),∃qP:(Nat→Int),∃ri:(Nat→Int),∃tc:(Nat→Int),∃uQ:(Nat→Int),∃q5:Bool,∃p2:HP,x= .tuple #[]∧
    hs=[ak b true ([.bool false,v7.v,.bool q5]),aB false 5 1 v7.v (ag fc) (aM (ag fc) [ay .u8 1 k_]),ak b5 true (aul (aj .u8 32 n_) (aul (aj .u8 32 nj) (aul (aj .u8 32 o_) (aul (aj .u8 32 q_) (.bool (!(bE==0))::(.bool (!(bO==0))::(.bool (!(bT==0))::(.bool (!(bL==0))::(aul (aj .u8 32 qP) (.int .u32 dR::(aul (aj .u8 32 ri) (.int .u32 bW::(.int .u32 dF::((cc cr)::(aul (aj .u8 32 tc) (aul (aj .u8 32 uQ) ([.bool (!(dB==0)),.int .u32 cI,.bool (!(dz==0)),.bool (!(gQ==0))]))))))))))))))))),p2]∧
    R v7 bE bO bT bL dR bW dF cr dB cI dz gQ fc k_ n_ nj o_ q_ qP ri tc uQ q5 p2:=by
 subst hn ho;rw [auD,hA.xi];refine⟨fun r hs=>r= .tuple #[]∧∃(v':V1) (c:Int) (q':Bool) (l':List Nat) (H':HP),hs=[dy b false v'.v q',aR false v'.v l',ak b5 true (lL (bS.bD (cg q l)).1 (cc c)),H']∧cg q' l'=(bS.bD (cg q l)).2∧fL l'∧H'.wr=true∧gl H' H∧gZ H' (pF false (cc c) (bS.bD (cg q l)).1.s.aN),?_,?_⟩
 ·refine(aq.frame (Jr b b5 v q l hl) [H]).post ?_;rintro r hs ⟨lP,rfl,rfl,v',c,q',l',rfl,h1,h2⟩;refine⟨_,?_,rfl,v',c,q',l',HP.two H (pF true (cc c) (bS.bD (cg q l)).1.s.aN),rfl,h1,h2,rfl,gl.one,gZ.other⟩;refine bI.trans (bI.perm (List.perm_append_comm (l₁:=[pF true (cc c) (bS.bD (cg q l)).1.s.aN]) (l₂:=[dy b false v'.v q',aR false v'.v l',ak b5 true (lL (bS.bD (cg q l)).1 (cc c)),H]))) ?_;exact bI.front (A:=[dy b false v'.v q',aR false v'.v l',ak b5 true (lL (bS.bD (cg q l)).1 (cc c))]) (bI.two hH rfl)
 ·rintro x hs ⟨rfl,v',c,q',l',H',rfl,h1,h2,h3,h4,h5⟩;exact⟨v',_,_,_,_,_,_,_,c,_,_,_,_,_,_,_,_,_,_,_,_,_,_,q',H',rfl,rfl,h v' c q' l' H' h2 h1 (Dh (.st hl)) h3 h4 h5⟩
end Go.RX.Vb

namespace Go.Vs
def qA(s:Nat×Nat×Bool)(e:cf):Option (Nat×Nat×Bool):=
 if 64<e.s.aN.length∨(e.current=true∧s.2.2=true)∨(e.own=false∧0<s.1)then none
 else some (if e.own then s.1+1 else s.1,if e.own then s.2.1 else s.2.1+1,s.2.2||e.current)
def Sb(l:List cf):Option (Nat×Nat×Bool):=l.foldlM qA (0,0,false)
def G2(p:ez):Bool:=
 match Sb p.l with
 | some (nb,na,c)=>c&&decide (max nb na≤4)
 | none=>false
def place(d:jl):Nat:=d.a*256+d.d
def mU(kd:jl)(last:Int)(p:ez):Option Int:=
 if G2 p=false∨(place p.dev:Int)≤last∨p.dev=kd then none else some (place p.dev:Int)
def Js(kd:jl)(l:List ez):Option Int:=l.foldlM (mU kd) (-1)
def vY(kd:jl)(l:List ez)(most:Int):Bool:=(Js kd l).isSome&&decide ((l.length:Int)≤max most 0)
theorem kz{α β:Type}(f:β→α→Option β)(l:List α)(a:α)(s:β):(l++[a]).foldlM f s=(l.foldlM f s).bind fun s'=>f s' a:=by
 rw [List.foldlM_append];cases l.foldlM f s with
 | none=>rfl
 | some s'=>simp
theorem r_{α β:Type}(f:β→α→Option β)(l:List α)(i:Nat)(s:β)(h:(l.take i).foldlM f s=none):l.foldlM f s=none:=by
 have e:l.foldlM f s=(l.take i++l.drop i).foldlM f s:=by rw [List.take_append_drop]
 rw [e,List.foldlM_append,h];rfl
theorem iN{α:Type}(l:List α)(i:Nat)(h:i<l.length):l.take (i+1)=l.take i++[l[i]]:=by
 rw [List.take_add_one,auU h];rfl
structure Rec where
 id:List Nat
 peer:Nat
 out:Bool
 outcome:Nat
 eO:Nat
 bV:Nat
 ended:Nat
def vZ(m:List Nat):Rec:=⟨m.take 16,m.getD 16 0,m.getD 17 0==1,m.getD 18 0,jd ((m.drop 19).take 8),jd ((m.drop 27).take 8),jd ((m.drop 35).take 8)⟩
def xl(r:Rec):Prop:=r.peer<8∧1≤r.outcome∧r.outcome≤7∧r.eO≤r.ended∧(r.bV=0∨(r.eO≤r.bV∧r.bV≤r.ended))
instance (r:Rec):Decidable (xl r):=by unfold xl;infer_instance
def mV(m:List Nat):Option Rec:=if m.length=43∧m.getD 17 0≤1∧xl (vZ m)then some (vZ m)else none
def ow:Nat→List Nat→List Rec→Option (List Rec)
 | 0,b,acc=>if b=[]then some acc else none
 | n+1,b,acc=>
  if b=[]then some acc else
  match mV (b.take 43)with
  | some r=>if r.id∈acc.map (·.id)then none else ow n (b.drop 43) (acc++[r])
  | none=>none
def yq(b:List Nat):Bool:=decide (b.length≤176128)&&(ow b.length b []).isSome
def sf(aP:Nat)(marks:List Nat)(cM:Int):Bool:=
 decide (aP<8)&&decide (1≤marks.length)&&decide (marks.length≤4)&&decide (-1≤cM)&&decide (cM<(marks.length:Int))&&marks.all fun m=>decide (1≤m)&&decide (m≤4)
def xm(c:Call)(cM:Int):Bool:=
 decide (c.dead.length≤256)&&decide (c.state≤4)&&(!(c.state==1)||(sf c.aP c.marks cM&&decide (c.early.length≤4)))
def tI:List Nat→List Nat→Bool
 | [],[]=>false
 | [],_::_=>true
 | _::_,[]=>false
 | a::r,b::s=>if a<b then true else if b<a then false else tI r s
def mh(last:Option (List Nat))(x:Room):Option (Option (List Nat)):=
 if(∃l,last=some l∧tI l x.id=false)∨8≤x.aP then none else some (some x.id)
def qB(l:List Room):Bool:=decide (l.length≤8)&&(l.foldlM mh none).isSome
def v_(s:State)(most cM:Int):Bool:=
 vY s.table.keys.dev s.table.aL most&&xm s.call cM&&yq s.log&&decide (s.call.me=s.table.keys.dev)&&qB s.aH
end Go.Vs
