/- Executor. -/
import Derived.Test.YtllcdnkfbeokhaaGreatM13
import Derived.Sort.LoopGhostIn
open Bool renaming and_eq_true -> ai
open List renaming all_eq_true -> axS, append_assoc -> ayl, getD_eq_getElem?_getD -> ayk, getElem?_append_left -> axX, getElem?_append_right -> axY, getElem?_eq_some_iff -> axT, getElem?_set_ne -> ayq, length_append -> axP, length_cons -> ax5, length_nil -> aya, map_cons -> ayr, mem_cons_of_mem -> axZ, mem_cons_self -> axW
open Nat renaming blt_eq -> ayb, le_succ -> ayC, lt_of_lt_of_le -> ax7
open Option.some renaming injEq -> axU
namespace Go.RX
theorem aU.vW{hs lU:List HP}{w:World}(h:aU hs w)(f:Nat->Option Nat)
  (he: ∀(j:Nat) x,lU[j]? =some x->(f j=none/\x=HP.emp)\/∃i,f j=some i/\hs[i]? =some x)
  (hinj: ∀(j j' i:Nat),f j=some i->f j'=some i->j<lU.length->j'<lU.length->j=j'):aU lU w:=by
 obtain⟨S,hS⟩:=h;refine⟨λj k=>match f j with | some i=>S i k | none=>False,⟨?_,?_⟩⟩
 .intro j x hx;rcases he j x hx with⟨hf,rfl⟩ | ⟨i,hf,hi⟩
  .simp only[hf];exact⟨λk hk=>hk,λk hk=>hk.elim⟩
  .simp only[hf];exact hS.at_ i x hi
 .intro j j' x y fL hx hy hw k;rcases he j x hx with⟨hf,rfl⟩ | ⟨i,hf,hi⟩
  .simp only[hf];exact λh=>h.elim
  .rcases he j' y hy with⟨GG,rfl⟩ | ⟨i',GG,cj⟩
   .simp only[GG];exact λ_ h=>h
   .simp only[hf,GG];refine hS.apart i i' x y ?_ hi cj hw k;intro e;subst e;exact fL (hinj j j' i hf GG (axT.1 hx).1 (axT.1 hy).1)
theorem aU.Lz{a b:List HP}{w:World}(h:aU (a++b) w):aU (a++[HP.emp]++b) w:=by
 refine h.vW (λj=>if j<a.length then some j else if j=a.length then none else some (j - 1)) ?_ ?_
 .intro j x hx;by_cases h1:j<a.length
  .right;refine⟨j,by simp[h1],?_⟩;rw[ayl,axX h1]at hx;rw[axX h1];exact hx
  .by_cases h2:j=a.length
   .left;subst h2;refine⟨by simp,?_⟩;simp at hx;exact hx.symm
   .right;refine⟨j - 1,by simp[h1,h2],?_⟩;rw[axY (by simp;omega)]at hx;rw[axY (by omega)];simp only[axP,ax5,aya]at hx;rw[show j - 1 - a.length=j - (a.length+(0+1)) by omega];exact hx
 .intro j j' i hj eF _ _;split at hj<;>split at eF
  .simp_all
  .split at eF
   .cases eF
   .simp only[axU]at hj eF;omega
  .split at hj
   .cases hj
   .simp only[axU]at hj eF;omega
  .split at hj
   .cases hj
   .split at eF
    .cases eF
    .simp only[axU]at hj eF;omega
theorem V5{α:Type}(a b:List α)(x y:α):(a++[x]++b).set a.length y=a++[y]++b:=by
 simp
theorem aU.add{a b:List HP}{w w':World}(h:aU (a++b) w)(h':HP)(S':Nat->Prop)(fY:w.heap.size<=w'.heap.size)
  (vz: ∀k,k<w.heap.size->w'.heap[k]? =w.heap[k]?) (hp:h'.p w' S') (fx: ∀k,S' k->w.heap.size<=k/\k<w'.heap.size):aU (a++[h']++b) w':=by
 obtain⟨S,hS⟩:=h.Lz;have:=hS.new a.length h' (by simp) S' fY vz hp fx;rw[V5]at this;exact⟨_,this⟩
theorem aU.step{a b:List HP}{w w':World}{S:Nat->Nat->Prop}(h:Sep (a++b) S w)(i:Nat)(h0 h':HP)(hi:a[i]? =some h0)(hw:h0.wr=true)
  (S':Nat->Prop) (fY:w.heap.size<=w'.heap.size) (vz: ∀k,k<w.heap.size->¬S i k->w'.heap[k]? =w.heap[k]?)
  (hp:h'.p w' S') (fx: ∀k,S' k->S i k\/(w.heap.size<=k/\k<w'.heap.size)):aU (a.set i h'++b) w':=by
 have cC:i<a.length:=(axT.1 hi).1;have:=h.step i h0 h' (by rw[axX cC];exact hi) hw S' fY vz hp fx;rw[List.set_append_left _ _ cC]at this;exact⟨_,this⟩
theorem aU.aeX{acc hp Fs:List HP}{w:World}(h:aU (acc++(hp++Fs)) w)(i:Nat)(c:HP)(hi:hp[i]? =some c):
  aU ((acc++[c])++(hp.set i HP.emp++Fs)) w:=by
 have cC:i<hp.length:=(axT.1 hi).1;refine h.vW (λj=>if j<acc.length then some j else if j=acc.length then some (acc.length+i)else if j=acc.length+1+i then none else some (j - 1)) ?_ ?_
 .intro j x hx;by_cases h1:j<acc.length
  .right;refine⟨j,by simp[h1],?_⟩;rw[ayl,axX h1]at hx;rw[axX h1];exact hx
  .by_cases h2:j=acc.length
   .right;subst h2;refine⟨acc.length+i,by simp,?_⟩;rw[ayl,axY (Nat.le_refl _),Nat.sub_self]at hx;simp only[List.cons_append,List.nil_append,List.getElem?_cons_zero,axU]at hx;subst hx;rw[axY (by omega),axX (by omega)];rw[show acc.length+i - acc.length=i by omega];exact hi
   .rw [axY (by simp;omega)]at hx;simp only[axP,ax5,aya]at hx;by_cases h3:j=acc.length+1+i
    .left;subst h3;refine⟨by simp[h1,h2],?_⟩;rw[axX (by simp;omega),show acc.length+1+i - (acc.length+(0+1))=i by omega,List.getElem?_set_self cC]at hx;cases hx;rfl
    .right;refine⟨j - 1,by simp[h1,h2,h3],?_⟩;rw[axY (by omega)];rw[List.getElem?_append]at hx ⊢;simp only[List.length_set]at hx;rw[show j - 1 - acc.length=j - (acc.length+(0+1)) by omega];split at hx
     .rename_i h4;rw[ayq (by omega)]at hx;rw[if_pos h4];exact hx
     .rename_i h4;rw[if_neg h4];exact hx
 .intro j j' k hj eF hl PU;have key: ∀j,(if j<acc.length then some j else if j=acc.length then some (acc.length+i)else if j=acc.length+1+i then none else some (j - 1))=some k->
    (j<acc.length/\k=j)\/(j=acc.length/\k=acc.length+i)\/(acc.length<j/\j≠acc.length+1+i/\k=j - 1):=by
   intro j h;split at h
   .left;simp at h;omega
   .split at h
    .right;left;simp at h;omega
    .split at h
     .cases h
     .right;right;simp at h;omega
  rcases key j hj with h | h | h<;>rcases key j' eF with h' | h' | h'<;>omega
theorem aU.aeY{new hp Fs:List HP}{c:HP}{w:World}(h:aU ((c::new)++(hp++Fs)) w)(i:Nat)(hi:i<hp.length):
  aU (new++(hp.set i c++Fs)) w:=by
 refine h.vW (λj=>if j=new.length+i then some 0 else some (j+1)) ?_ ?_
 .intro j x hx;right;by_cases h1:j=new.length+i
  .refine⟨0,by simp[h1],?_⟩;subst h1;rw[axY (by omega),show new.length+i - new.length=i by omega,axX (by simpa using hi),List.getElem?_set_self hi]at hx;simpa using hx
  .refine⟨j+1,by simp[h1],?_⟩;rw[List.cons_append,List.getElem?_cons_succ];rw[List.getElem?_append]at hx ⊢;split at hx
   .rename_i h2;rw[if_pos h2];exact hx
   .rename_i h2;rw[if_neg h2];rw[List.getElem?_append]at hx ⊢;simp only[List.length_set]at hx;split at hx
    .rename_i h3;rw[ayq (by omega)]at hx;rw[if_pos h3];exact hx
    .rename_i h3;rw[if_neg h3];exact hx
 .intro j j' k hj eF _ _;split at hj<;>split at eF<;>simp only[axU]at hj eF<;>omega
theorem aU.rot{new hp Fs:List HP}{w:World}(h:aU (new++(hp++Fs)) w):aU ((hp++new)++Fs) w:=by
 refine h.vW (λj=>if j<hp.length then some (new.length+j)else if j<hp.length+new.length then some (j - hp.length)else some j) ?_ ?_
 .intro j x hx;right;by_cases h1:j<hp.length
  .refine⟨new.length+j,by simp[h1],?_⟩;rw[ayl,axX h1]at hx;rw[axY (by omega),show new.length+j - new.length=j by omega,axX h1];exact hx
  .by_cases h2:j<hp.length+new.length
   .refine⟨j - hp.length,by simp[h1,h2],?_⟩;rw[ayl,axY (by omega),axX (by omega)]at hx;rw[axX (by omega)];exact hx
   .refine⟨j,by simp[h1,h2],?_⟩;rw[ayl,axY (by omega),axY (by omega)]at hx;rw[axY (by omega),axY (by omega),show j - new.length - hp.length=j - hp.length - new.length by omega];exact hx
 .intro j j' k hj eF _ _;have key: ∀j,(if j<hp.length then some (new.length+j)else if j<hp.length+new.length then some (j - hp.length)else some j)=some k->
    (j<hp.length/\k=new.length+j)\/(hp.length<=j/\j<hp.length+new.length/\k=j - hp.length)\/(hp.length+new.length<=j/\k=j):=by
   intro j h;split at h
   .left;simp at h;omega
   .split at h
    .right;left;simp at h;omega
    .right;right;simp at h;omega
  rcases key j hj with h | h | h<;>rcases key j' eF with h' | h' | h'<;>omega
def blank(hp:List HP)(use:List Nat):List HP:=use.foldl (λh i=>h.set i HP.emp) hp
theorem nE(use:List Nat): ∀hp:List HP,(blank hp use).length=hp.length:=by
 induction use with
 | nil=>intro hp;rfl
 | cons i r ih=>intro hp;show(blank (hp.set i HP.emp) r).length=_;rw[ih];simp
theorem DC(use:List Nat): ∀(hp:List HP) (i:Nat) (c:HP),i ∉ use->blank (hp.set i c) use=(blank hp use).set i c:=by
 induction use with
 | nil=>intro hp i c _;rfl
 | cons j r ih=>
  intro hp i c hi;simp only[List.mem_cons,not_or]at hi;show blank ((hp.set i c).set j HP.emp) r=(blank (hp.set j HP.emp) r).set i c;rw[List.set_comm _ _ hi.1,ih _ _ _ hi.2]
theorem aU.vX: ∀{use:List Nat} {acc hp Fs:List HP} {w:World},aU (acc++(hp++Fs)) w->use.Nodup->(∀i∈use,i<hp.length)->
  aU ((acc++use.map (λi=>hp.getD i HP.emp))++(blank hp use++Fs)) w
 | [],acc,hp,Fs,w,h,_,_=>by simpa[blank] using h
 | i::r,acc,hp,Fs,w,h,iT,cC=>by
  have hi:=cC i axW;rw[List.nodup_cons]at iT;have h1:=h.aeX i (hp.getD i HP.emp) (by rw[ayk];simp[hi]);have h2:=aU.vX (use:=r) h1 iT.2 (λj hj=>by simpa using cC j (axZ _ hj));have e:r.map (λj=>(hp.set i HP.emp).getD j HP.emp)=r.map (λj=>hp.getD j HP.emp):=by
   refine List.map_congr_left λj hj=>?_
   rw[ayk,ayk,ayq];rintro rfl;exact iT.1 hj
  rw[e,ayl acc]at h2;exact h2
theorem lh: ∀(use:List Nat) (hp new:List HP),use.Nodup->mK HP.emp hp use new=mK HP.emp (blank hp use) use new
 | [],hp,new,_=>rfl
 | i::r,hp,c::cs,iT=>by
  rw[List.nodup_cons]at iT;show mK HP.emp (hp.set i c) r cs=mK HP.emp ((blank (hp.set i HP.emp) r).set i c) r cs;rw[<-DC r _ _ _ iT.1,List.set_set];exact lh r _ _ iT.2
 | i::r,hp,[],iT=>by
  rw[List.nodup_cons]at iT;show mK HP.emp (hp.set i HP.emp) r []=mK HP.emp ((blank (hp.set i HP.emp) r).set i HP.emp) r [];rw[<-DC r _ _ _ iT.1,List.set_set];exact lh r _ _ iT.2
theorem aU.m6: ∀{use:List Nat} {new hp Fs:List HP} {w:World},aU (new++(hp++Fs)) w->(∀i∈use,i<hp.length)->(∀i∈use,hp[i]? =some HP.emp\/True)->
  aU (mK HP.emp hp use new++Fs) w
 | [],new,hp,Fs,w,h,_,_=>h.rot
 | i::r,c::cs,hp,Fs,w,h,cC,_=>by
  have hi:=cC i axW;exact aU.m6 (use:=r) (h.aeY i hi) (λj hj=>by simpa using cC j (axZ _ hj)) λ_ _=> .inr trivial
 | i::r,[],hp,Fs,w,h,cC,_=>by
  have hi:=cC i axW;have h1:=(aU.Lz (a:=[]) h);exact aU.m6 (use:=r) (new:=[]) (aU.aeY (new:=[]) h1 i hi) (λj hj=>by simpa using cC j (axZ _ hj)) λ_ _=> .inr trivial
theorem nT{α β:Type}(f:α->β)(e:α): ∀(use:List Nat) (hp new:List α),(mK e hp use new).map f=mK (f e) (hp.map f) use (new.map f)
 | [],hp,new=>by simp[mK]
 | i::r,hp,c::cs=>by simp only[mK,ayr];rw[nT f e r,List.map_set]
 | i::r,hp,[]=>by simp only[mK,List.map_nil];rw[nT f e r,List.map_set];rfl
structure cI.le (c d:cI):Prop where
 b:c.b<=d.b
 v:c.v<=d.v
 i:c.i<=d.i
 a:c.a<=d.a
 bo:c.bo<=d.bo
 p:c.p<=d.p
 r:c.r<=d.r
theorem cI.mn(c d:cI):c.le (c.add d):=by constructor<;>simp[cI.add]
theorem cI.le_refl(c:cI):c.le c:=by constructor<;>exact Nat.le_refl _
section
variable {c d:cI}
theorem E.bp(h:c.le d){e:E}(hs:e.sc c=true):e.sc d=true:=by
 induction e with
 | lit n=>rfl
 | var i=>simp only[E.sc,ayb]at*;exact ax7 hs h.i
 | cM i=>simp only[E.sc,ayb]at*;exact ax7 hs h.a
 | Vh a i mU JJ=>simp only[E.sc,ai]at*;exact⟨mU hs.1,JJ hs.2⟩
 | bin o k a b mU rR=>simp only[E.sc,ai]at*;exact⟨mU hs.1,rR hs.2⟩
 | wrap k a ih=>simp only[E.sc]at*;exact ih hs
 | oL a i v mU JJ ihv=>simp only[E.sc,ai]at*;exact⟨⟨mU hs.1.1,JJ hs.1.2⟩,ihv hs.2⟩
 | shift a o mU iho=>simp only[E.sc,ai]at*;exact⟨mU hs.1,iho hs.2⟩
 | jA a o n b mU iho ihn rR=>simp only[E.sc,ai]at*;exact⟨⟨⟨mU hs.1.1.1,iho hs.1.1.2⟩,ihn hs.1.2⟩,rR hs.2⟩
 | kc n a ih=>simp only[E.sc]at*;exact ih hs
 | uv b=>simp only[E.sc,ayb]at*;exact ax7 hs h.b
 | tH l=>rfl
 | VI a i mU JJ=>simp only[E.sc,ai]at*;exact⟨mU hs.1,JJ hs.2⟩
 | rQ a i s mU JJ ihs=>simp only[E.sc,ai]at*;exact⟨⟨mU hs.1.1,JJ hs.1.2⟩,ihs hs.2⟩
 | YC s ih=>simp only[E.sc]at*;exact ih hs
theorem BE.bp(h:c.le d){b:BE}(hs:b.sc c=true):b.sc d=true:=by
 induction b with
 | lit n=>rfl
 | var i=>simp only[BE.sc,ayb]at*;exact ax7 hs h.bo
 | eq a b=>simp only[BE.sc,ai]at*;exact⟨E.bp h hs.1,E.bp h hs.2⟩
 | lt a b=>simp only[BE.sc,ai]at*;exact⟨E.bp h hs.1,E.bp h hs.2⟩
 | le a b=>simp only[BE.sc,ai]at*;exact⟨E.bp h hs.1,E.bp h hs.2⟩
 | nz a=>simp only[BE.sc]at*;exact E.bp h hs
 | YD n a b=>simp only[BE.sc,ai]at*;exact⟨E.bp h hs.1,E.bp h hs.2⟩
 | not a ih=>simp only[BE.sc]at*;exact ih hs
 | and a b mU rR=>simp only[BE.sc,ai]at*;exact⟨mU hs.1,rR hs.2⟩
 | or a b mU rR=>simp only[BE.sc,ai]at*;exact⟨mU hs.1,rR hs.2⟩
 | ite x t e ihx I6 I7=>simp only[BE.sc,ai]at*;exact⟨⟨ihx hs.1.1,I6 hs.1.2⟩,I7 hs.2⟩
 | seq a b=>simp only[BE.sc,ai]at*;exact⟨E.bp h hs.1,E.bp h hs.2⟩
 | Eg i=>simp only[BE.sc,ayb]at*;exact ax7 hs h.v
theorem NR(h:c.le d){cs:List Cut}(hs:cs.all (Cut.sc c)=true):cs.all (Cut.sc d)=true:=by
 refine axS.2 λk hk=>?_
 have:=axS.1 hs k hk;simp only[Cut.sc,ai]at this ⊢;refine⟨⟨E.bp h this.1.1,E.bp h this.1.2⟩,?_⟩;cases hm:k.mx with
 | none=>rfl
 | some m=>rw[hm]at this;exact E.bp h this.2
mutual
theorem SV.bp(h:c.le d): ∀{v:SV},v.sc c=true->v.sc d=true
 | .int k e,hs=>by simp only[SV.sc]at*;exact E.bp h hs
 | .bool b,hs=>by simp only[SV.sc]at*;exact BE.bp h hs
 | .iy,_=>rfl
 | .bW,_=>rfl
 | .qK,_=>rfl
 | .pT,_=>rfl
 | .oM,_=>rfl
 | .undef,_=>rfl
 | .ptr b n,hs=>by simp only[SV.sc,ayb]at*;exact ax7 hs h.b
 | .rL b i s n,hs=>by simp only[SV.sc,ayb,ai]at*;exact⟨ax7 hs.1 h.b,E.bp h hs.2⟩
 | .pv v i s n,hs=>by simp only[SV.sc,ayb,ai]at*;exact⟨ax7 hs.1 h.v,E.bp h hs.2⟩
 | .sl b i s n m,hs=>by simp only[SV.sc,ayb,ai]at*;exact⟨⟨⟨ax7 hs.1.1.1 h.b,E.bp h hs.1.1.2⟩,E.bp h hs.1.2⟩,E.bp h hs.2⟩
 | .vv i,hs=>by simp only[SV.sc,ayb]at*;exact ax7 hs h.v
 | .str l,_=>rfl
 | .fn f jL,hs=>by simp only[SV.sc]at*;exact SV.gf h hs
 | .fm f jL,hs=>by simp only[SV.sc]at*;exact SV.gf h hs
 | .agg cs,hs=>by simp only[SV.sc]at*;exact SV.gf h hs
 | .jD k n a,hs=>by simp only[SV.sc]at*;exact E.bp h hs
 | .oH vs,hs=>by simp only[SV.sc]at*;exact SV.gf h hs
 | .opt b v,hs=>by simp only[SV.sc,ai]at*;exact⟨BE.bp h hs.1,SV.bp h hs.2⟩
 | .Gb a i,hs=>by simp only[SV.sc]at*;exact E.bp h hs
 | .Nk l,hs=>by simp only[SV.sc,ayb]at*;exact ax7 hs h.b
 | .mp l,hs=>by simp only[SV.sc,ayb]at*;exact ax7 hs h.b
 | .j9 e,hs=>by simp only[SV.sc]at*;exact E.bp h hs
 | .Jq e,hs=>by simp only[SV.sc]at*;exact E.bp h hs
 | .nX e,hs=>by simp only[SV.sc]at*;exact E.bp h hs
 | .Qs t k e,hs=>by simp only[SV.sc]at*;exact E.bp h hs
 | .VJ t l k,hs=>by simp only[SV.sc,ayb]at*;exact ax7 hs h.b
 | .Qt v i s c' n,hs=>by simp only[SV.sc,ai,ayb]at*;exact⟨ax7 hs.1 h.v,E.bp h hs.2⟩
 | .Jp b v,hs=>by simp only[SV.sc,ai,ayb]at*;exact⟨BE.bp h hs.1,ax7 hs.2 h.v⟩
 | .kj v cs s,hs=>by simp only[SV.sc,ayb,ai]at*;exact⟨ax7 hs.1 h.v,NR h hs.2⟩
theorem SV.gf(h:c.le d): ∀{l:List SV},SV.rF c l=true->SV.rF d l=true
 | [],_=>rfl
 | v::r,hs=>by simp only[SV.rF,ai]at*;exact⟨SV.bp h hs.1,SV.gf h hs.2⟩
end
theorem bU.bp(h:c.le d){k:bU}(hs:k.sc c=true):k.sc d=true:=by
 simp only[bU.sc,ai]at hs ⊢;refine⟨E.bp h hs.1,?_⟩;have h2:=hs.2;unfold CK.sc at h2 ⊢;split
 .rename_i l hl;rw[hl]at h2;exact axS.2 λn hn=>by
   have:=axS.1 h2 n hn;simp only[ayb]at this ⊢;exact ax7 this h.v
 .rename_i q v hl;rw[hl]at h2;simp only[ai,ayb]at h2 ⊢;exact⟨E.bp h h2.1,ax7 h2.2 h.v⟩
 .rfl
theorem lp(h:c.le d){aB:List bU}(hs:aB.all (bU.sc c)=true):aB.all (bU.sc d)=true:=
 axS.2 λk hk=>bU.bp h (axS.1 hs k hk)
theorem Ck.bp(h:c.le d){k:Ck}(hs:k.sc c=true):k.sc d=true:=by
 cases k with
 | emp=>rfl
 | row b w cs=>simp only[Ck.sc,ayb,ai]at*;exact⟨ax7 hs.1 h.b,SV.gf h hs.2⟩
 | cF md v t s n aB=>simp only[Ck.sc,ayb,ai]at*;exact⟨⟨ax7 hs.1.1 h.v,E.bp h hs.1.2⟩,lp h hs.2⟩
 | abs i=>simp only[Ck.sc,ayb]at*;exact ax7 hs h.p
 | mY l r s j=>simp only[Ck.sc,ai,ayb]at*;exact⟨ax7 hs.1 h.b,ax7 hs.2 h.r⟩
 | NP b=>simp only[Ck.sc,ayb]at*;exact ax7 hs h.b
 | vT b=>simp only[Ck.sc,ayb]at*;exact ax7 hs h.b
 | map b kl ka va z has aB=>simp only[Ck.sc,ai,ayb]at*;exact⟨⟨⟨ax7 hs.1.1.1 h.b,SV.gf h hs.1.1.2⟩,E.bp h hs.1.2⟩,lp h hs.2⟩
 | PY b l p=>simp only[Ck.sc,ayb]at*;exact ax7 hs h.b
 | QN b m=>simp only[Ck.sc,ai,ayb]at*;exact⟨ax7 hs.1 h.b,ax7 hs.2 h.b⟩
 | Lq b t e n a=>simp only[Ck.sc,ayb,ai]at*;exact⟨⟨ax7 hs.1.1 h.b,E.bp h hs.1.2⟩,E.bp h hs.2⟩
 | vK b kl ka va z es=>simp only[Ck.sc,ai,ayb]at*;exact⟨⟨ax7 hs.1.1 h.b,SV.gf h hs.1.2⟩,axS.2 λe he=>SV.gf h (axS.1 hs.2 e he)⟩
theorem ky(h:c.le d){hp:List Ck}(hs:hp.all (Ck.sc c)=true):hp.all (Ck.sc d)=true:=
 axS.2 λk hk=>Ck.bp h (axS.1 hs k hk)
theorem dz(h:c.le d){fr:List (Nat×SV)}(hs:nF c fr=true):nF d fr=true:=
 axS.2 λk hk=>SV.bp h (axS.1 hs k hk)
theorem ik(h:c.le d){l:List BE}(hs:l.all (BE.sc c)=true):l.all (BE.sc d)=true:=
 axS.2 λk hk=>BE.bp h (axS.1 hs k hk)
end
theorem EE{c:cI}{fr:List (Nat×SV)}(hs:nF c fr=true){s:Nat}{v:SV}(h:look fr s=some v):v.sc c=true:=by
 induction fr with
 | nil=>cases h
 | cons x r ih=>
  obtain⟨t,u⟩:=x;simp only[nF,List.all_cons,ai]at hs;unfold look at h;split at h
  .cases h;exact hs.1
  .exact ih hs.2 h
theorem ey{c d:cI}(h:c.le d){ds:List MK}(hs:ds.all (MK.sc c)=true):ds.all (MK.sc d)=true:=
 axS.2 λk hk=>by
  have:=axS.1 hs k hk;cases k<;>simp only[MK.sc,ayb]at* <;>exact ax7 this h.b
structure HW (Fs:List HP) (w0:World) (st:St) (ρ:Env) (w:World):Prop where
 lens:iZ ρ st.aY
 m7:nF st.aY st.fr=true
 iu:st.hp.all (Ck.sc st.aY)=true
 qF:st.known.all (BE.sc st.aY)=true
 kn: ∀b∈st.known,b.prop ρ
 own:aU (st.hp.map (Ck.den ρ)++Fs) w
 same:jm w0 w
 oq:st.nt.ds.all (MK.sc st.aY)=true
noncomputable def MK.blocks(ρ:Env):MK->List Nat
 | .one b=>[ρ.bv.getD b 0]
 | .many b=>rS (ρ.bv.getD b 0)
noncomputable def marks(ρ:Env)(ds:List MK):List Deferred:=(ds.flatMap (MK.blocks ρ)).map λb=>{target:= .collected b,args:= #[]}
structure HA (fr:List (Nat×SV)) (nt:NT) (ρ:Env) (a:Act):Prop where
 defers:a.defers=marks ρ nt.ds
 size:nt.n<=a.tmps.size
 aQ: ∀s v,look fr s=some v->a.tmps.getD s undef=v.val ρ
def resume:Exit->List KI->Option (List KI)
 | .normal,k=>some k
 | .exit id,k=>eh id k
 | .ret,k=>jq k
 | _,_=>none
section
variable (P:Program) (C:Ctx) (al:Value->List HP->Prop) (Fs:List HP) (w0:World)
def At(n:Nat)(k:List KI)(LA:Env)(Lb:Nat->LC)(a:Act)(w:World):Prop:=
 ∃m,m<n/\∃st ρ L,Env.Le LA ρ/\(∀j,j<nl k->L j=Lb j)/\HW Fs w0 st ρ w/\HA st.fr st.nt ρ a/\VC P al (run C m k st) ρ L
def QK(n:Nat)(k:List KI)(LA:Env)(Lb:Nat->LC)(e:Exit)(a:Act)(w:World):Prop:=
 ∃k',resume e k=some k'/\At P C al Fs w0 n k' LA Lb a w
end
theorem jJ: ∀{id:Nat} {k k':List KI},eh id k=some k'->nl k'<=nl k
 | id,[],k',h=>by simp[eh]at h
 | id,.uv i::k,k',h=>by
  unfold eh at h;split at h
  .cases h;exact Nat.le_refl _
  .exact jJ (k:=k) h
 | id,.code _::k,k',h=>jJ (k:=k) h
 | id,.gh _::k,k',h=>jJ (k:=k) h
 | id,.again _::k,k',h=>jJ (k:=k) h
 | id,.ops .. ::k,k',h=>jJ (k:=k) h
 | id,.loop .. ::k,k',h=>Nat.le_trans (jJ (k:=k) h) (ayC _)
 | id,.jn i up nt c0 inc fr hp pre::k,k',h=>by
  simp only[eh]at h;split at h
  .cases h;exact Nat.le_refl _
  .exact Nat.le_trans (jJ (k:=k) h) (ayC _)
 | id,.uL .. ::k,k',h=>by simp[eh]at h
 | id,.call .. ::k,k',h=>by simp[eh]at h
 | id,.top .. ::k,k',h=>by simp[eh]at h
 | id,.rf .. ::k,k',h=>by simp[eh]at h
 | id,.begin .. ::k,k',h=>by simp[eh]at h
 | id,.ot .. ::k,k',h=>by simp[eh]at h
 | id,.round .. ::k,k',h=>by simp only[eh]at h;cases h;exact Nat.le_refl _
theorem lq: ∀{k k':List KI},jq k=some k'->nl k'<=nl k
 | [],k',h=>by simp[jq]at h
 | .uv i::k,k',h=>lq (k:=k) h
 | .code _::k,k',h=>lq (k:=k) h
 | .gh _::k,k',h=>lq (k:=k) h
 | .again _::k,k',h=>lq (k:=k) h
 | .ops .. ::k,k',h=>lq (k:=k) h
 | .loop .. ::k,k',h=>Nat.le_trans (lq (k:=k) h) (ayC _)
 | .jn .. ::k,k',h=>Nat.le_trans (lq (k:=k) h) (ayC _)
 | .uL .. ::k,k',h=>by simp[jq]at h
 | .call .. ::k,k',h=>by simp only[jq]at h;cases h;exact Nat.le_refl _
 | .top .. ::k,k',h=>by simp only[jq]at h;cases h;exact Nat.le_refl _
 | .rf .. ::k,k',h=>by simp only[jq]at h;cases h;exact Nat.le_refl _
 | .round .. ::k,k',h=>by simp only[jq]at h;cases h;exact Nat.le_refl _
 | .begin .. ::k,k',h=>by simp[jq]at h
 | .ot .. ::k,k',h=>by simp[jq]at h
theorem DE{e:Exit}{k k':List KI}(h:resume e k=some k'):nl k'<=nl k:=by
 cases e with
 | normal=>cases h;exact Nat.le_refl _
 | exit id=>exact jJ h
 | ret=>exact lq h
 | goto l=>cases h
 | panic c=>cases h
 | outgrown=>cases h
section
variable {P:Program} {C:Ctx} {al:Value->List HP->Prop} {Fs:List HP} {w0:World}
theorem At.mono{n n':Nat}{k:List KI}{ρ bG:Env}{L L':Nat->LC}{a:Act}{w:World}(h:At P C al Fs w0 n k bG L' a w)(hn:n<=n')(hρ:Env.Le ρ bG)
  (hL: ∀j,j<nl k->L' j=L j):At P C al Fs w0 n' k ρ L a w:=by
 obtain⟨m,hm,st,r,L2,h1,h2,h3⟩:=h;exact⟨m,ax7 hm hn,st,r,L2,hρ.trans h1,λj hj=>(h2 j hj).trans (hL j hj),h3⟩
theorem QK.mono{n n':Nat}{k:List KI}{ρ bG:Env}{L L':Nat->LC}{e:Exit}{a:Act}{w:World}(h:QK P C al Fs w0 n k bG L' e a w)(hn:n<=n')(hρ:Env.Le ρ bG)
  (hL: ∀j,j<nl k->L' j=L j):QK P C al Fs w0 n' k ρ L e a w:=by
 obtain⟨k',hk,h⟩:=h;exact⟨k',hk,h.mono hn hρ λj hj=>hL j (ax7 hj (DE hk))⟩
theorem QK.move{n:Nat}{k k2:List KI}{ρ:Env}{L L2:Nat->LC}{e:Exit}{a:Act}{w:World}(h:QK P C al Fs w0 n k2 ρ L2 e a w)(hk:resume e k2=resume e k)
  (hL: ∀j,j<nl k->L2 j=L j):QK P C al Fs w0 n k ρ L e a w:=by
 obtain⟨k',h1,h⟩:=h;rw[hk]at h1;exact⟨k',h1,h.mono (Nat.le_refl _) (Env.Le.refl _) λj hj=>hL j (ax7 hj (DE h1))⟩
variable {F:Fence} {n:Nat} {ops:Array Oper}
theorem Oper.Bh{o:Oper}{a:Act}{w:World}{K K':Act->World->Prop}{Q Q':Exit->Act->World->Prop}(h: ∀a w,K a w->K' a w)(hq: ∀e a w,Q e a w->Q' e a w)
  (hh:o.wpIn F n P a w K Q):o.wpIn F n P a w K' Q':=by
 unfold Oper.wpIn at*;refine⟨hh.1,?_⟩;have hh:=hh.2;have aeZ:LetsOut Q->LetsOut Q':=λ⟨a,w,h⟩=>⟨a,w,hq _ _ _ h⟩
 generalize (o.semAt F.round a.eval).run P w=r at*;cases r with
 | ok x w'=>
  cases x<;>simp only[Oper.uponIn]at hh ⊢ <;>
   first
    | exact h _ _ hh
    | exact⟨hh.1,CallsIn.mono hh.2 (λe w'' he=>by cases e<;>first | exact h _ _ he | exact hq _ _ _ he | exact aeZ he)⟩
    | exact⟨hh.1,RowsIn.mono hh.2 (λ_ _ he=>h _ _ he)⟩
    | exact⟨hh.1,RoundIn.mono hh.2 (λe w'' he=>by cases e<;>first | exact h _ _ he | exact hq _ _ _ he | exact aeZ he)⟩
 | halt x w'=>cases x<;>simp only[Oper.uponIn]at hh ⊢ <;>first | exact hq _ _ _ hh | exact hh
theorem gU{Q Q':Exit->Act->World->Prop}(hq: ∀e a w,Q e a w->Q' e a w): ∀{l:List Oper} {a:Act} {w:World},wpListIn F n P ops Q l a w->wpListIn F n P ops Q' l a w
 | [],a,w,h=>hq _ _ _ h
 | o::r,a,w,h=>by
  unfold wpListIn at*;split
  .rename_i hw;rw[if_pos hw]at h;exact Oper.Bh (λa w=>gU hq) hq h
  .rename_i hw;rw[if_neg hw]at h;exact⟨h.1,gU hq h.2⟩
end
end Go.RX
