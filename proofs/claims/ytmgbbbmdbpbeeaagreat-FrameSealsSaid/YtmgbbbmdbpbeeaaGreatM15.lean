/- Executor. -/
import Derived.Test.YtmgbbbmdbpbeeaaGreatM14
import Derived.Sort.LoopGhostIn
open Bool renaming and_eq_true → ai
open List renaming all_eq_true → aeT, getElem?_append_left → ae1, getElem?_append_right → ae2, getElem?_eq_some_iff → aeV, getElem?_set_ne → afn, map_cons → afj, mem_cons → afd, mem_cons_of_mem → ae4, mem_cons_self → aeZ
open Nat renaming blt_eq → afb, le_succ → afE, lt_of_lt_of_le → ae_
open Option.some renaming injEq → aeX
namespace Go.RX
theorem bK.sI{hs nI:List HP}{w:World}(h:bK hs w)(f:Nat→Option Nat)
  (he: ∀(j:Nat) x,nI[j]? =some x→(f j=none∧x=HP.emp)∨∃i,f j=some i∧hs[i]? =some x)
  (hinj: ∀(j j' i:Nat),f j=some i→f j'=some i→j<nI.length→j'<nI.length→j=j'):bK nI w:=by
 obtain⟨S,hS⟩:=h;refine⟨fun j k=>match f j with | some i=>S i k | none=>False,⟨?_,?_⟩⟩
 ·intro j x hx;rcases he j x hx with⟨hf,rfl⟩ | ⟨i,hf,hi⟩
  ·simp only [hf];exact⟨fun k hk=>hk,fun k hk=>hk.elim⟩
  ·simp only [hf];exact hS.at_ i x hi
 ·intro j j' x y eZ hx hy hw k;rcases he j x hx with⟨hf,rfl⟩ | ⟨i,hf,hi⟩
  ·simp only [hf];exact fun h=>h.elim
  ·rcases he j' y hy with⟨Lg,rfl⟩ | ⟨i',Lg,mi⟩
   ·simp only [Lg];exact fun _ h=>h
   ·simp only [hf,Lg];refine hS.apart i i' x y ?_ hi mi hw k;intro e;subst e;exact eZ (hinj j j' i hf Lg (aeV.1 hx).1 (aeV.1 hy).1)
theorem bK.H2{a b:List HP}{w:World}(h:bK (a++b) w):bK (a++[HP.emp]++b) w:=by
 refine h.sI (fun j=>if j<a.length then some j else if j=a.length then none else some (j - 1)) ?_ ?_
 ·intro j x hx;by_cases h1:j<a.length
  ·right;refine⟨j,by simp [h1],?_⟩;rw [List.append_assoc,ae1 h1]at hx;rw [ae1 h1];exact hx
  ·by_cases h2:j=a.length
   ·left;subst h2;refine⟨by simp,?_⟩;simp at hx;exact hx.symm
   ·right;refine⟨j - 1,by simp [h1,h2],?_⟩;rw [ae2 (by simp;omega)]at hx;rw [ae2 (by omega)];simp only [List.length_append,List.length_cons,List.length_nil]at hx;rw [show j - 1 - a.length=j - (a.length+(0+1)) by omega];exact hx
 ·intro j j' i hj k9 _ _;split at hj<;>split at k9
  ·simp_all
  ·split at k9
   ·cases k9
   ·simp only [aeX]at hj k9;omega
  ·split at hj
   ·cases hj
   ·simp only [aeX]at hj k9;omega
  ·split at hj
   ·cases hj
   ·split at k9
    ·cases k9
    ·simp only [aeX]at hj k9;omega
theorem P9{α:Type}(a b:List α)(x y:α):(a++[x]++b).set a.length y=a++[y]++b:=by
 simp
theorem bK.add{a b:List HP}{w w':World}(h:bK (a++b) w)(h':HP)(S':Nat→Prop)(iW:w.heap.size≤w'.heap.size)
  (sg: ∀k,k<w.heap.size→w'.heap[k]? =w.heap[k]?) (hp:h'.p w' S') (dI: ∀k,S' k→w.heap.size≤k∧k<w'.heap.size):bK (a++[h']++b) w':=by
 obtain⟨S,hS⟩:=h.H2;have:=hS.new a.length h' (by simp) S' iW sg hp dI;rw [P9]at this;exact⟨_,this⟩
theorem bK.step{a b:List HP}{w w':World}{S:Nat→Nat→Prop}(h:Sep (a++b) S w)(i:Nat)(h0 h':HP)(hi:a[i]? =some h0)(hw:h0.wr=true)
  (S':Nat→Prop) (iW:w.heap.size≤w'.heap.size) (sg: ∀k,k<w.heap.size→¬S i k→w'.heap[k]? =w.heap[k]?)
  (hp:h'.p w' S') (dI: ∀k,S' k→S i k∨(w.heap.size≤k∧k<w'.heap.size)):bK (a.set i h'++b) w':=by
 have bU:i<a.length:=(aeV.1 hi).1;have:=h.step i h0 h' (by rw [ae1 bU];exact hi) hw S' iW sg hp dI;rw [List.set_append_left _ _ bU]at this;exact⟨_,this⟩
theorem bK.VI{acc hp Fs:List HP}{w:World}(h:bK (acc++(hp++Fs)) w)(i:Nat)(c:HP)(hi:hp[i]? =some c):
  bK ((acc++[c])++(hp.set i HP.emp++Fs)) w:=by
 have bU:i<hp.length:=(aeV.1 hi).1;refine h.sI (fun j=>if j<acc.length then some j else if j=acc.length then some (acc.length+i)else if j=acc.length+1+i then none else some (j - 1)) ?_ ?_
 ·intro j x hx;by_cases h1:j<acc.length
  ·right;refine⟨j,by simp [h1],?_⟩;rw [List.append_assoc,ae1 h1]at hx;rw [ae1 h1];exact hx
  ·by_cases h2:j=acc.length
   ·right;subst h2;refine⟨acc.length+i,by simp,?_⟩;rw [List.append_assoc,ae2 (Nat.le_refl _),Nat.sub_self]at hx;simp only [List.cons_append,List.nil_append,List.getElem?_cons_zero,aeX]at hx;subst hx;rw [ae2 (by omega),ae1 (by omega)];rw [show acc.length+i - acc.length=i by omega];exact hi
   ·rw [ae2 (by simp;omega)]at hx;simp only [List.length_append,List.length_cons,List.length_nil]at hx;by_cases h3:j=acc.length+1+i
    ·left;subst h3;refine⟨by simp [h1,h2],?_⟩;rw [ae1 (by simp;omega),show acc.length+1+i - (acc.length+(0+1))=i by omega,List.getElem?_set_self bU]at hx;cases hx;rfl
    ·right;refine⟨j - 1,by simp [h1,h2,h3],?_⟩;rw [ae2 (by omega)];rw [List.getElem?_append]at hx ⊢;simp only [List.length_set]at hx;rw [show j - 1 - acc.length=j - (acc.length+(0+1)) by omega];split at hx
     ·rename_i h4;rw [afn (by omega)]at hx;rw [if_pos h4];exact hx
     ·rename_i h4;rw [if_neg h4];exact hx
 ·intro j j' k hj k9 hl XB;have key: ∀j,(if j<acc.length then some j else if j=acc.length then some (acc.length+i)else if j=acc.length+1+i then none else some (j - 1))=some k→
    (j<acc.length∧k=j)∨(j=acc.length∧k=acc.length+i)∨(acc.length<j∧j≠acc.length+1+i∧k=j - 1):=by
   intro j h;split at h
   ·left;simp at h;omega
   ·split at h
    ·right;left;simp at h;omega
    ·split at h
     ·cases h
     ·right;right;simp at h;omega
  rcases key j hj with h | h | h<;>rcases key j' k9 with h' | h' | h'<;>omega
theorem bK.VJ{new hp Fs:List HP}{c:HP}{w:World}(h:bK ((c::new)++(hp++Fs)) w)(i:Nat)(hi:i<hp.length):
  bK (new++(hp.set i c++Fs)) w:=by
 refine h.sI (fun j=>if j=new.length+i then some 0 else some (j+1)) ?_ ?_
 ·intro j x hx;right;by_cases h1:j=new.length+i
  ·refine⟨0,by simp [h1],?_⟩;subst h1;rw [ae2 (by omega),show new.length+i - new.length=i by omega,ae1 (by simpa using hi),List.getElem?_set_self hi]at hx;simpa using hx
  ·refine⟨j+1,by simp [h1],?_⟩;rw [List.cons_append,List.getElem?_cons_succ];rw [List.getElem?_append]at hx ⊢;split at hx
   ·rename_i h2;rw [if_pos h2];exact hx
   ·rename_i h2;rw [if_neg h2];rw [List.getElem?_append]at hx ⊢;simp only [List.length_set]at hx;split at hx
    ·rename_i h3;rw [afn (by omega)]at hx;rw [if_pos h3];exact hx
    ·rename_i h3;rw [if_neg h3];exact hx
 ·intro j j' k hj k9 _ _;split at hj<;>split at k9<;>simp only [aeX]at hj k9<;>omega
theorem bK.rot{new hp Fs:List HP}{w:World}(h:bK (new++(hp++Fs)) w):bK ((hp++new)++Fs) w:=by
 refine h.sI (fun j=>if j<hp.length then some (new.length+j)else if j<hp.length+new.length then some (j - hp.length)else some j) ?_ ?_
 ·intro j x hx;right;by_cases h1:j<hp.length
  ·refine⟨new.length+j,by simp [h1],?_⟩;rw [List.append_assoc,ae1 h1]at hx;rw [ae2 (by omega),show new.length+j - new.length=j by omega,ae1 h1];exact hx
  ·by_cases h2:j<hp.length+new.length
   ·refine⟨j - hp.length,by simp [h1,h2],?_⟩;rw [List.append_assoc,ae2 (by omega),ae1 (by omega)]at hx;rw [ae1 (by omega)];exact hx
   ·refine⟨j,by simp [h1,h2],?_⟩;rw [List.append_assoc,ae2 (by omega),ae2 (by omega)]at hx;rw [ae2 (by omega),ae2 (by omega),show j - new.length - hp.length=j - hp.length - new.length by omega];exact hx
 ·intro j j' k hj k9 _ _;have key: ∀j,(if j<hp.length then some (new.length+j)else if j<hp.length+new.length then some (j - hp.length)else some j)=some k→
    (j<hp.length∧k=new.length+j)∨(hp.length≤j∧j<hp.length+new.length∧k=j - hp.length)∨(hp.length+new.length≤j∧k=j):=by
   intro j h;split at h
   ·left;simp at h;omega
   ·split at h
    ·right;left;simp at h;omega
    ·right;right;simp at h;omega
  rcases key j hj with h | h | h<;>rcases key j' k9 with h' | h' | h'<;>omega
def blank(hp:List HP)(use:List Nat):List HP:=use.foldl (fun h i=>h.set i HP.emp) hp
theorem kG(use:List Nat): ∀hp:List HP,(blank hp use).length=hp.length:=by
 induction use with
 | nil=>intro hp;rfl
 | cons i r ih=>intro hp;show(blank (hp.set i HP.emp) r).length=_;rw [ih];simp
theorem Aq(use:List Nat): ∀(hp:List HP) (i:Nat) (c:HP),i ∉ use→blank (hp.set i c) use=(blank hp use).set i c:=by
 induction use with
 | nil=>intro hp i c _;rfl
 | cons j r ih=>
  intro hp i c hi;simp only [afd,not_or]at hi;show blank ((hp.set i c).set j HP.emp) r=(blank (hp.set j HP.emp) r).set i c;rw [List.set_comm _ _ hi.1,ih _ _ _ hi.2]
theorem bK.sJ: ∀{use:List Nat} {acc hp Fs:List HP} {w:World},bK (acc++(hp++Fs)) w→use.Nodup→(∀i∈use,i<hp.length)→
  bK ((acc++use.map (fun i=>hp.getD i HP.emp))++(blank hp use++Fs)) w
 | [],acc,hp,Fs,w,h,_,_=>by simpa [blank] using h
 | i::r,acc,hp,Fs,w,h,gn,bU=>by
  have hi:=bU i aeZ;rw [List.nodup_cons]at gn;have h1:=h.VI i (hp.getD i HP.emp) (by rw [List.getD_eq_getElem?_getD];simp [hi]);have h2:=bK.sJ (use:=r) h1 gn.2 (fun j hj=>by simpa using bU j (ae4 _ hj));have e:r.map (fun j=>(hp.set i HP.emp).getD j HP.emp)=r.map (fun j=>hp.getD j HP.emp):=by
   refine List.map_congr_left fun j hj=>?_
   rw [List.getD_eq_getElem?_getD,List.getD_eq_getElem?_getD,afn];rintro rfl;exact gn.1 hj
  rw [e,List.append_assoc acc]at h2;exact h2
theorem iL: ∀(use:List Nat) (hp new:List HP),use.Nodup→jY HP.emp hp use new=jY HP.emp (blank hp use) use new
 | [],hp,new,_=>rfl
 | i::r,hp,c::cs,gn=>by
  rw [List.nodup_cons]at gn;show jY HP.emp (hp.set i c) r cs=jY HP.emp ((blank (hp.set i HP.emp) r).set i c) r cs;rw [←Aq r _ _ _ gn.1,List.set_set];exact iL r _ _ gn.2
 | i::r,hp,[],gn=>by
  rw [List.nodup_cons]at gn;show jY HP.emp (hp.set i HP.emp) r []=jY HP.emp ((blank (hp.set i HP.emp) r).set i HP.emp) r [];rw [←Aq r _ _ _ gn.1,List.set_set];exact iL r _ _ gn.2
theorem bK.kx: ∀{use:List Nat} {new hp Fs:List HP} {w:World},bK (new++(hp++Fs)) w→(∀i∈use,i<hp.length)→(∀i∈use,hp[i]? =some HP.emp∨True)→
  bK (jY HP.emp hp use new++Fs) w
 | [],new,hp,Fs,w,h,_,_=>h.rot
 | i::r,c::cs,hp,Fs,w,h,bU,_=>by
  have hi:=bU i aeZ;exact bK.kx (use:=r) (h.VJ i hi) (fun j hj=>by simpa using bU j (ae4 _ hj)) fun _ _=> .inr trivial
 | i::r,[],hp,Fs,w,h,bU,_=>by
  have hi:=bU i aeZ;have h1:=(bK.H2 (a:=[]) h);exact bK.kx (use:=r) (new:=[]) (bK.VJ (new:=[]) h1 i hi) (fun j hj=>by simpa using bU j (ae4 _ hj)) fun _ _=> .inr trivial
theorem kR{α β:Type}(f:α→β)(e:α): ∀(use:List Nat) (hp new:List α),(jY e hp use new).map f=jY (f e) (hp.map f) use (new.map f)
 | [],hp,new=>by simp [jY]
 | i::r,hp,c::cs=>by simp only [jY,afj];rw [kR f e r,List.map_set]
 | i::r,hp,[]=>by simp only [jY,List.map_nil];rw [kR f e r,List.map_set];rfl
structure cP.le (c d:cP):Prop where
 b:c.b≤d.b
 v:c.v≤d.v
 i:c.i≤d.i
 a:c.a≤d.a
 bo:c.bo≤d.bo
 p:c.p≤d.p
 r:c.r≤d.r
theorem cP.jC(c d:cP):c.le (c.add d):=by constructor<;>simp [cP.add]
theorem cP.le_refl(c:cP):c.le c:=by constructor<;>exact Nat.le_refl _
section
variable {c d:cP}
theorem E.bA(h:c.le d){e:E}(hs:e.sc c=true):e.sc d=true:=by
 induction e with
 | lit n=>rfl
 | var i=>simp only [E.sc,afb]at*;exact ae_ hs h.i
 | aL i=>simp only [E.sc,afb]at*;exact ae_ hs h.a
 | OL a i lG Ge=>simp only [E.sc,ai]at*;exact⟨lG hs.1,Ge hs.2⟩
 | bin o k a b lG r_=>simp only [E.sc,ai]at*;exact⟨lG hs.1,r_ hs.2⟩
 | wrap k a ih=>simp only [E.sc]at*;exact ih hs
 | r9 a i v lG Ge Xw=>simp only [E.sc,ai]at*;exact⟨⟨lG hs.1.1,Ge hs.1.2⟩,Xw hs.2⟩
 | shift a o lG Tk=>simp only [E.sc,ai]at*;exact⟨lG hs.1,Tk hs.2⟩
 | tw a o n b lG Tk YN r_=>simp only [E.sc,ai]at*;exact⟨⟨⟨lG hs.1.1.1,Tk hs.1.1.2⟩,YN hs.1.2⟩,r_ hs.2⟩
 | kc n a ih=>simp only [E.sc]at*;exact ih hs
 | mR b=>simp only [E.sc,afb]at*;exact ae_ hs h.b
 | qt l=>rfl
 | PI a i lG Ge=>simp only [E.sc,ai]at*;exact⟨lG hs.1,Ge hs.2⟩
 | o4 a i s lG Ge Xx=>simp only [E.sc,ai]at*;exact⟨⟨lG hs.1.1,Ge hs.1.2⟩,Xx hs.2⟩
 | RF s ih=>simp only [E.sc]at*;exact ih hs
theorem BE.bA(h:c.le d){b:BE}(hs:b.sc c=true):b.sc d=true:=by
 induction b with
 | lit n=>rfl
 | var i=>simp only [BE.sc,afb]at*;exact ae_ hs h.bo
 | eq a b=>simp only [BE.sc,ai]at*;exact⟨E.bA h hs.1,E.bA h hs.2⟩
 | lt a b=>simp only [BE.sc,ai]at*;exact⟨E.bA h hs.1,E.bA h hs.2⟩
 | le a b=>simp only [BE.sc,ai]at*;exact⟨E.bA h hs.1,E.bA h hs.2⟩
 | nz a=>simp only [BE.sc]at*;exact E.bA h hs
 | RG n a b=>simp only [BE.sc,ai]at*;exact⟨E.bA h hs.1,E.bA h hs.2⟩
 | not a ih=>simp only [BE.sc]at*;exact ih hs
 | and a b lG r_=>simp only [BE.sc,ai]at*;exact⟨lG hs.1,r_ hs.2⟩
 | or a b lG r_=>simp only [BE.sc,ai]at*;exact⟨lG hs.1,r_ hs.2⟩
 | ite x t e Vf S3 S4=>simp only [BE.sc,ai]at*;exact⟨⟨Vf hs.1.1,S3 hs.1.2⟩,S4 hs.2⟩
 | seq a b=>simp only [BE.sc,ai]at*;exact⟨E.bA h hs.1,E.bA h hs.2⟩
theorem J3(h:c.le d){cs:List Cut}(hs:cs.all (Cut.sc c)=true):cs.all (Cut.sc d)=true:=by
 refine aeT.2 fun k hk=>?_
 have:=aeT.1 hs k hk;simp only [Cut.sc,ai]at this ⊢;refine⟨⟨E.bA h this.1.1,E.bA h this.1.2⟩,?_⟩;cases hm:k.mx with
 | none=>rfl
 | some m=>rw [hm]at this;exact E.bA h this.2
mutual
theorem SV.bA(h:c.le d): ∀{v:SV},v.sc c=true→v.sc d=true
 | .int k e,hs=>by simp only [SV.sc]at*;exact E.bA h hs
 | .bool b,hs=>by simp only [SV.sc]at*;exact BE.bA h hs
 | .gI,_=>rfl
 | .b_,_=>rfl
 | .lH,_=>rfl
 | .sd,_=>rfl
 | .qu,_=>rfl
 | .undef,_=>rfl
 | .ptr b n,hs=>by simp only [SV.sc,afb]at*;exact ae_ hs h.b
 | .oJ b i s n,hs=>by simp only [SV.sc,afb,ai]at*;exact⟨ae_ hs.1 h.b,E.bA h hs.2⟩
 | .pv v i s n,hs=>by simp only [SV.sc,afb,ai]at*;exact⟨ae_ hs.1 h.v,E.bA h hs.2⟩
 | .sl b i s n m,hs=>by simp only [SV.sc,afb,ai]at*;exact⟨⟨⟨ae_ hs.1.1.1 h.b,E.bA h hs.1.1.2⟩,E.bA h hs.1.2⟩,E.bA h hs.2⟩
 | .vv i,hs=>by simp only [SV.sc,afb]at*;exact ae_ hs h.v
 | .str l,_=>rfl
 | .fn f caps,hs=>by simp only [SV.sc]at*;exact SV.eS h hs
 | .agg cs,hs=>by simp only [SV.sc]at*;exact SV.eS h hs
 | .cE k n a,hs=>by simp only [SV.sc]at*;exact E.bA h hs
 | .rR vs,hs=>by simp only [SV.sc]at*;exact SV.eS h hs
 | .opt b v,hs=>by simp only [SV.sc,ai]at*;exact⟨BE.bA h hs.1,SV.bA h hs.2⟩
 | .Dw a i,hs=>by simp only [SV.sc]at*;exact E.bA h hs
 | .Jz l,hs=>by simp only [SV.sc,afb]at*;exact ae_ hs h.b
 | .mp l,hs=>by simp only [SV.sc,afb]at*;exact ae_ hs h.b
 | .nH e,hs=>by simp only [SV.sc]at*;exact E.bA h hs
 | .K9 e,hs=>by simp only [SV.sc]at*;exact E.bA h hs
 | .kg e,hs=>by simp only [SV.sc]at*;exact E.bA h hs
 | .L6 t k e,hs=>by simp only [SV.sc]at*;exact E.bA h hs
 | .FZ b v,hs=>by simp only [SV.sc,ai,afb]at*;exact⟨BE.bA h hs.1,ae_ hs.2 h.v⟩
 | .jP v cs s,hs=>by simp only [SV.sc,afb,ai]at*;exact⟨ae_ hs.1 h.v,J3 h hs.2⟩
theorem SV.eS(h:c.le d): ∀{l:List SV},SV.oK c l=true→SV.oK d l=true
 | [],_=>rfl
 | v::r,hs=>by simp only [SV.oK,ai]at*;exact⟨SV.bA h hs.1,SV.eS h hs.2⟩
end
theorem bV.bA(h:c.le d){k:bV}(hs:k.sc c=true):k.sc d=true:=by
 simp only [bV.sc,ai]at hs ⊢;refine⟨E.bA h hs.1,?_⟩;have h2:=hs.2;unfold CK.sc at h2 ⊢;split
 ·rename_i l hl;rw [hl]at h2;exact aeT.2 fun n hn=>by
   have:=aeT.1 h2 n hn;simp only [afb]at this ⊢;exact ae_ this h.v
 ·rfl
theorem iM(h:c.le d){aF:List bV}(hs:aF.all (bV.sc c)=true):aF.all (bV.sc d)=true:=
 aeT.2 fun k hk=>bV.bA h (aeT.1 hs k hk)
theorem Ck.bA(h:c.le d){k:Ck}(hs:k.sc c=true):k.sc d=true:=by
 cases k with
 | emp=>rfl
 | row b w cs=>simp only [Ck.sc,afb,ai]at*;exact⟨ae_ hs.1 h.b,SV.eS h hs.2⟩
 | bC md v t s n aF=>simp only [Ck.sc,afb,ai]at*;exact⟨⟨ae_ hs.1.1 h.v,E.bA h hs.1.2⟩,iM h hs.2⟩
 | abs i=>simp only [Ck.sc,afb]at*;exact ae_ hs h.p
 | kr l r s j=>simp only [Ck.sc,ai,afb]at*;exact⟨ae_ hs.1 h.b,ae_ hs.2 h.r⟩
 | J1 b=>simp only [Ck.sc,afb]at*;exact ae_ hs h.b
 | qy b=>simp only [Ck.sc,afb]at*;exact ae_ hs h.b
 | map b kl ka va z has aF=>simp only [Ck.sc,ai,afb]at*;exact⟨⟨⟨ae_ hs.1.1.1 h.b,SV.eS h hs.1.1.2⟩,E.bA h hs.1.2⟩,iM h hs.2⟩
 | RQ b l p=>simp only [Ck.sc,afb]at*;exact ae_ hs h.b
 | HR b t e n a=>simp only [Ck.sc,afb,ai]at*;exact⟨⟨ae_ hs.1.1 h.b,E.bA h hs.1.2⟩,E.bA h hs.2⟩
 | sq b kl ka va z es=>simp only [Ck.sc,ai,afb]at*;exact⟨⟨ae_ hs.1.1 h.b,SV.eS h hs.1.2⟩,aeT.2 fun e he=>SV.eS h (aeT.1 hs.2 e he)⟩
theorem ik(h:c.le d){hp:List Ck}(hs:hp.all (Ck.sc c)=true):hp.all (Ck.sc d)=true:=
 aeT.2 fun k hk=>Ck.bA h (aeT.1 hs k hk)
theorem cF(h:c.le d){fr:List (Nat×SV)}(hs:kH c fr=true):kH d fr=true:=
 aeT.2 fun k hk=>SV.bA h (aeT.1 hs k hk)
theorem eT(h:c.le d){l:List BE}(hs:l.all (BE.sc c)=true):l.all (BE.sc d)=true:=
 aeT.2 fun k hk=>BE.bA h (aeT.1 hs k hk)
end
theorem Bx{c:cP}{fr:List (Nat×SV)}(hs:kH c fr=true){s:Nat}{v:SV}(h:look fr s=some v):v.sc c=true:=by
 induction fr with
 | nil=>cases h
 | cons x r ih=>
  obtain⟨t,u⟩:=x;simp only [kH,List.all_cons,ai]at hs;unfold look at h;split at h
  ·cases h;exact hs.1
  ·exact ih hs.2 h
theorem c6{c d:cP}(h:c.le d){ds:List MK}(hs:ds.all (MK.sc c)=true):ds.all (MK.sc d)=true:=
 aeT.2 fun k hk=>by
  have:=aeT.1 hs k hk;cases k<;>simp only [MK.sc,afb]at* <;>exact ae_ this h.b
structure HW (Fs:List HP) (w0:World) (st:St) (ρ:Env) (w:World):Prop where
 lens:fJ ρ st.bd
 kd:kH st.bd st.fr=true
 fm:st.hp.all (Ck.sc st.bd)=true
 mL:st.known.all (BE.sc st.bd)=true
 kn: ∀b∈st.known,b.prop ρ
 own:bK (st.hp.map (Ck.den ρ)++Fs) w
 same:fV w0 w
 kS:st.nt.ds.all (MK.sc st.bd)=true
noncomputable def MK.blocks(ρ:Env):MK→List Nat
 | .one b=>[ρ.bv.getD b 0]
 | .many b=>o5 (ρ.bv.getD b 0)
noncomputable def marks(ρ:Env)(ds:List MK):List Deferred:=(ds.flatMap (MK.blocks ρ)).map fun b=>{target:= .collected b,args:= #[]}
structure HA (fr:List (Nat×SV)) (nt:NT) (ρ:Env) (a:Act):Prop where
 defers:a.defers=marks ρ nt.ds
 size:nt.n≤a.tmps.size
 aT: ∀s v,look fr s=some v→a.tmps.getD s undef=v.val ρ
def resume:Exit→List KI→Option (List KI)
 | .normal,k=>some k
 | .exit id,k=>c9 id k
 | .ret,k=>fY k
 | _,_=>none
section
variable (P:Program) (C:Ctx) (ar:Value→List HP→Prop) (Fs:List HP) (w0:World)
def At(n:Nat)(k:List KI)(H3:Env)(Lb:Nat→LC)(a:Act)(w:World):Prop:=
 ∃m,m<n∧∃st ρ L,Env.Le H3 ρ∧(∀j,j<nl k→L j=Lb j)∧HW Fs w0 st ρ w∧HA st.fr st.nt ρ a∧VC P ar (run C m k st) ρ L
def QK(n:Nat)(k:List KI)(H3:Env)(Lb:Nat→LC)(e:Exit)(a:Act)(w:World):Prop:=
 ∃k',resume e k=some k'∧At P C ar Fs w0 n k' H3 Lb a w
end
theorem gD: ∀{id:Nat} {k k':List KI},c9 id k=some k'→nl k'≤nl k
 | id,[],k',h=>by simp [c9]at h
 | id,.mR i::k,k',h=>by
  unfold c9 at h;split at h
  ·cases h;exact Nat.le_refl _
  ·exact gD (k:=k) h
 | id,.code _::k,k',h=>gD (k:=k) h
 | id,.gh _::k,k',h=>gD (k:=k) h
 | id,.again _::k,k',h=>gD (k:=k) h
 | id,.ops .. ::k,k',h=>gD (k:=k) h
 | id,.loop .. ::k,k',h=>Nat.le_trans (gD (k:=k) h) (afE _)
 | id,.jn i up nt c0 inc fr hp pre::k,k',h=>by
  simp only [c9]at h;split at h
  ·cases h;exact Nat.le_refl _
  ·exact Nat.le_trans (gD (k:=k) h) (afE _)
 | id,.rC .. ::k,k',h=>by simp [c9]at h
 | id,.call .. ::k,k',h=>by simp [c9]at h
 | id,.top .. ::k,k',h=>by simp [c9]at h
 | id,.rf .. ::k,k',h=>by simp [c9]at h
 | id,.begin .. ::k,k',h=>by simp [c9]at h
 | id,.lv .. ::k,k',h=>by simp [c9]at h
 | id,.round .. ::k,k',h=>by simp only [c9]at h;cases h;exact Nat.le_refl _
theorem iN: ∀{k k':List KI},fY k=some k'→nl k'≤nl k
 | [],k',h=>by simp [fY]at h
 | .mR i::k,k',h=>iN (k:=k) h
 | .code _::k,k',h=>iN (k:=k) h
 | .gh _::k,k',h=>iN (k:=k) h
 | .again _::k,k',h=>iN (k:=k) h
 | .ops .. ::k,k',h=>iN (k:=k) h
 | .loop .. ::k,k',h=>Nat.le_trans (iN (k:=k) h) (afE _)
 | .jn .. ::k,k',h=>Nat.le_trans (iN (k:=k) h) (afE _)
 | .rC .. ::k,k',h=>by simp [fY]at h
 | .call .. ::k,k',h=>by simp only [fY]at h;cases h;exact Nat.le_refl _
 | .top .. ::k,k',h=>by simp only [fY]at h;cases h;exact Nat.le_refl _
 | .rf .. ::k,k',h=>by simp only [fY]at h;cases h;exact Nat.le_refl _
 | .round .. ::k,k',h=>by simp only [fY]at h;cases h;exact Nat.le_refl _
 | .begin .. ::k,k',h=>by simp [fY]at h
 | .lv .. ::k,k',h=>by simp [fY]at h
theorem Ar{e:Exit}{k k':List KI}(h:resume e k=some k'):nl k'≤nl k:=by
 cases e with
 | normal=>cases h;exact Nat.le_refl _
 | exit id=>exact gD h
 | ret=>exact iN h
 | goto l=>cases h
 | panic c=>cases h
 | outgrown=>cases h
section
variable {P:Program} {C:Ctx} {ar:Value→List HP→Prop} {Fs:List HP} {w0:World}
theorem At.mono{n n':Nat}{k:List KI}{ρ bI:Env}{L L':Nat→LC}{a:Act}{w:World}(h:At P C ar Fs w0 n k bI L' a w)(hn:n≤n')(YQ:Env.Le ρ bI)
  (hL: ∀j,j<nl k→L' j=L j):At P C ar Fs w0 n' k ρ L a w:=by
 obtain⟨m,hm,st,r,L2,h1,h2,h3⟩:=h;exact⟨m,ae_ hm hn,st,r,L2,YQ.trans h1,fun j hj=>(h2 j hj).trans (hL j hj),h3⟩
theorem QK.mono{n n':Nat}{k:List KI}{ρ bI:Env}{L L':Nat→LC}{e:Exit}{a:Act}{w:World}(h:QK P C ar Fs w0 n k bI L' e a w)(hn:n≤n')(YQ:Env.Le ρ bI)
  (hL: ∀j,j<nl k→L' j=L j):QK P C ar Fs w0 n' k ρ L e a w:=by
 obtain⟨k',hk,h⟩:=h;exact⟨k',hk,h.mono hn YQ fun j hj=>hL j (ae_ hj (Ar hk))⟩
theorem QK.move{n:Nat}{k k2:List KI}{ρ:Env}{L L2:Nat→LC}{e:Exit}{a:Act}{w:World}(h:QK P C ar Fs w0 n k2 ρ L2 e a w)(hk:resume e k2=resume e k)
  (hL: ∀j,j<nl k→L2 j=L j):QK P C ar Fs w0 n k ρ L e a w:=by
 obtain⟨k',h1,h⟩:=h;rw [hk]at h1;exact⟨k',h1,h.mono (Nat.le_refl _) (Env.Le.refl _) fun j hj=>hL j (ae_ hj (Ar h1))⟩
variable {F:Fence} {n:Nat} {ops:Array Oper}
theorem Oper.xS{o:Oper}{a:Act}{w:World}{K K':Act→World→Prop}{Q Q':Exit→Act→World→Prop}(h: ∀a w,K a w→K' a w)(hq: ∀e a w,Q e a w→Q' e a w)
  (hh:o.wpIn F n P a w K Q):o.wpIn F n P a w K' Q':=by
 unfold Oper.wpIn at*;refine⟨hh.1,?_⟩;have hh:=hh.2;have VK:LetsOut Q→LetsOut Q':=fun⟨a,w,h⟩=>⟨a,w,hq _ _ _ h⟩
 generalize (o.semAt F.round a.eval).run P w=r at*;cases r with
 | ok x w'=>
  cases x<;>simp only [Oper.uponIn]at hh ⊢ <;>
   first
    | exact h _ _ hh
    | exact⟨hh.1,CallsIn.mono hh.2 (fun e VL he=>by cases e<;>first | exact h _ _ he | exact hq _ _ _ he | exact VK he)⟩
    | exact⟨hh.1,RowsIn.mono hh.2 (fun _ _ he=>h _ _ he)⟩
    | exact⟨hh.1,RoundIn.mono hh.2 (fun e VL he=>by cases e<;>first | exact h _ _ he | exact hq _ _ _ he | exact VK he)⟩
 | halt x w'=>cases x<;>simp only [Oper.uponIn]at hh ⊢ <;>first | exact hq _ _ _ hh | exact hh
theorem fh{Q Q':Exit→Act→World→Prop}(hq: ∀e a w,Q e a w→Q' e a w): ∀{l:List Oper} {a:Act} {w:World},wpListIn F n P ops Q l a w→wpListIn F n P ops Q' l a w
 | [],a,w,h=>hq _ _ _ h
 | o::r,a,w,h=>by
  unfold wpListIn at*;split
  ·rename_i hw;rw [if_pos hw]at h;exact Oper.xS (fun a w=>fh hq) hq h
  ·rename_i hw;rw [if_neg hw]at h;exact⟨h.1,fh hq h.2⟩
end
end Go.RX
