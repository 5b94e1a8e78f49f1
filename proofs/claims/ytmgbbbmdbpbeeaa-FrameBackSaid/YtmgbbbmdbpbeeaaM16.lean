/- Executor. -/
import Derived.Test.YtmgbbbmdbpbeeaaM15
import Derived.Sort.LoopGhostIn
open Bool renaming and_eq_true → ai
open List renaming all_eq_true → adt, getElem?_append_left → adz, getElem?_append_right → adA, getElem?_eq_some_iff → adu, getElem?_set_ne → adY, map_cons → adT, mem_cons → adW, mem_cons_of_mem → adB, mem_cons_self → ady
open Nat renaming blt_eq → adK, le_succ → aec, lt_of_lt_of_le → adI
open Option.some renaming injEq → adv
namespace Go.RX
theorem bG.ss{hs nC:List HP}{w:World}(h:bG hs w)(f:Nat→Option Nat)
  (he: ∀(j:Nat) x,nC[j]? =some x→(f j=none∧x=HP.emp)∨∃i,f j=some i∧hs[i]? =some x)
  (hinj: ∀(j j' i:Nat),f j=some i→f j'=some i→j<nC.length→j'<nC.length→j=j'):bG nC w:=by
 obtain⟨S,hS⟩:=h;refine⟨fun j k=>match f j with | some i=>S i k | none=>False,⟨?_,?_⟩⟩
 ·intro j x hx;rcases he j x hx with⟨hf,rfl⟩ | ⟨i,hf,hi⟩
  ·simp only [hf];exact⟨fun k hk=>hk,fun k hk=>hk.elim⟩
  ·simp only [hf];exact hS.at_ i x hi
 ·intro j j' x y dR hx hy hw k;rcases he j x hx with⟨hf,rfl⟩ | ⟨i,hf,hi⟩
  ·simp only [hf];exact fun h=>h.elim
  ·rcases he j' y hy with⟨Q0,rfl⟩ | ⟨i',Q0,mF⟩
   ·simp only [Q0];exact fun _ h=>h
   ·simp only [hf,Q0];refine hS.apart i i' x y ?_ hi mF hw k;intro e;subst e;exact dR (hinj j j' i hf Q0 (adu.1 hx).1 (adu.1 hy).1)
theorem bG.HV{a b:List HP}{w:World}(h:bG (a++b) w):bG (a++[HP.emp]++b) w:=by
 refine h.ss (fun j=>if j<a.length then some j else if j=a.length then none else some (j - 1)) ?_ ?_
 ·intro j x hx;by_cases h1:j<a.length
  ·right;refine⟨j,by simp [h1],?_⟩;rw [List.append_assoc,adz h1]at hx;rw [adz h1];exact hx
  ·by_cases h2:j=a.length
   ·left;subst h2;refine⟨by simp,?_⟩;simp at hx;exact hx.symm
   ·right;refine⟨j - 1,by simp [h1,h2],?_⟩;rw [adA (by simp;omega)]at hx;rw [adA (by omega)];simp only [List.length_append,List.length_cons,List.length_nil]at hx;rw [show j - 1 - a.length=j - (a.length+(0+1)) by omega];exact hx
 ·intro j j' i hj kz _ _;split at hj<;>split at kz
  ·simp_all
  ·split at kz
   ·cases kz
   ·simp only [adv]at hj kz;omega
  ·split at hj
   ·cases hj
   ·simp only [adv]at hj kz;omega
  ·split at hj
   ·cases hj
   ·split at kz
    ·cases kz
    ·simp only [adv]at hj kz;omega
theorem O_{α:Type}(a b:List α)(x y:α):(a++[x]++b).set a.length y=a++[y]++b:=by
 simp
theorem bG.add{a b:List HP}{w w':World}(h:bG (a++b) w)(h':HP)(S':Nat→Prop)(iL:w.heap.size≤w'.heap.size)
  (rU: ∀k,k<w.heap.size→w'.heap[k]? =w.heap[k]?) (hp:h'.p w' S') (dz: ∀k,S' k→w.heap.size≤k∧k<w'.heap.size):bG (a++[h']++b) w':=by
 obtain⟨S,hS⟩:=h.HV;have:=hS.new a.length h' (by simp) S' iL rU hp dz;rw [O_]at this;exact⟨_,this⟩
theorem bG.step{a b:List HP}{w w':World}{S:Nat→Nat→Prop}(h:Sep (a++b) S w)(i:Nat)(h0 h':HP)(hi:a[i]? =some h0)(hw:h0.wr=true)
  (S':Nat→Prop) (iL:w.heap.size≤w'.heap.size) (rU: ∀k,k<w.heap.size→¬S i k→w'.heap[k]? =w.heap[k]?)
  (hp:h'.p w' S') (dz: ∀k,S' k→S i k∨(w.heap.size≤k∧k<w'.heap.size)):bG (a.set i h'++b) w':=by
 have bP:i<a.length:=(adu.1 hi).1;have:=h.step i h0 h' (by rw [adz bP];exact hi) hw S' iL rU hp dz;rw [List.set_append_left _ _ bP]at this;exact⟨_,this⟩
theorem bG.Uu{acc hp Fs:List HP}{w:World}(h:bG (acc++(hp++Fs)) w)(i:Nat)(c:HP)(hi:hp[i]? =some c):
  bG ((acc++[c])++(hp.set i HP.emp++Fs)) w:=by
 have bP:i<hp.length:=(adu.1 hi).1;refine h.ss (fun j=>if j<acc.length then some j else if j=acc.length then some (acc.length+i)else if j=acc.length+1+i then none else some (j - 1)) ?_ ?_
 ·intro j x hx;by_cases h1:j<acc.length
  ·right;refine⟨j,by simp [h1],?_⟩;rw [List.append_assoc,adz h1]at hx;rw [adz h1];exact hx
  ·by_cases h2:j=acc.length
   ·right;subst h2;refine⟨acc.length+i,by simp,?_⟩;rw [List.append_assoc,adA (Nat.le_refl _),Nat.sub_self]at hx;simp only [List.cons_append,List.nil_append,List.getElem?_cons_zero,adv]at hx;subst hx;rw [adA (by omega),adz (by omega)];rw [show acc.length+i - acc.length=i by omega];exact hi
   ·rw [adA (by simp;omega)]at hx;simp only [List.length_append,List.length_cons,List.length_nil]at hx;by_cases h3:j=acc.length+1+i
    ·left;subst h3;refine⟨by simp [h1,h2],?_⟩;rw [adz (by simp;omega),show acc.length+1+i - (acc.length+(0+1))=i by omega,List.getElem?_set_self bP]at hx;cases hx;rfl
    ·right;refine⟨j - 1,by simp [h1,h2,h3],?_⟩;rw [adA (by omega)];rw [List.getElem?_append]at hx ⊢;simp only [List.length_set]at hx;rw [show j - 1 - acc.length=j - (acc.length+(0+1)) by omega];split at hx
     ·rename_i h4;rw [adY (by omega)]at hx;rw [if_pos h4];exact hx
     ·rename_i h4;rw [if_neg h4];exact hx
 ·intro j j' k hj kz hl Wi;have key: ∀j,(if j<acc.length then some j else if j=acc.length then some (acc.length+i)else if j=acc.length+1+i then none else some (j - 1))=some k→
    (j<acc.length∧k=j)∨(j=acc.length∧k=acc.length+i)∨(acc.length<j∧j≠acc.length+1+i∧k=j - 1):=by
   intro j h;split at h
   ·left;simp at h;omega
   ·split at h
    ·right;left;simp at h;omega
    ·split at h
     ·cases h
     ·right;right;simp at h;omega
  rcases key j hj with h | h | h<;>rcases key j' kz with h' | h' | h'<;>omega
theorem bG.Uv{new hp Fs:List HP}{c:HP}{w:World}(h:bG ((c::new)++(hp++Fs)) w)(i:Nat)(hi:i<hp.length):
  bG (new++(hp.set i c++Fs)) w:=by
 refine h.ss (fun j=>if j=new.length+i then some 0 else some (j+1)) ?_ ?_
 ·intro j x hx;right;by_cases h1:j=new.length+i
  ·refine⟨0,by simp [h1],?_⟩;subst h1;rw [adA (by omega),show new.length+i - new.length=i by omega,adz (by simpa using hi),List.getElem?_set_self hi]at hx;simpa using hx
  ·refine⟨j+1,by simp [h1],?_⟩;rw [List.cons_append,List.getElem?_cons_succ];rw [List.getElem?_append]at hx ⊢;split at hx
   ·rename_i h2;rw [if_pos h2];exact hx
   ·rename_i h2;rw [if_neg h2];rw [List.getElem?_append]at hx ⊢;simp only [List.length_set]at hx;split at hx
    ·rename_i h3;rw [adY (by omega)]at hx;rw [if_pos h3];exact hx
    ·rename_i h3;rw [if_neg h3];exact hx
 ·intro j j' k hj kz _ _;split at hj<;>split at kz<;>simp only [adv]at hj kz<;>omega
theorem bG.rot{new hp Fs:List HP}{w:World}(h:bG (new++(hp++Fs)) w):bG ((hp++new)++Fs) w:=by
 refine h.ss (fun j=>if j<hp.length then some (new.length+j)else if j<hp.length+new.length then some (j - hp.length)else some j) ?_ ?_
 ·intro j x hx;right;by_cases h1:j<hp.length
  ·refine⟨new.length+j,by simp [h1],?_⟩;rw [List.append_assoc,adz h1]at hx;rw [adA (by omega),show new.length+j - new.length=j by omega,adz h1];exact hx
  ·by_cases h2:j<hp.length+new.length
   ·refine⟨j - hp.length,by simp [h1,h2],?_⟩;rw [List.append_assoc,adA (by omega),adz (by omega)]at hx;rw [adz (by omega)];exact hx
   ·refine⟨j,by simp [h1,h2],?_⟩;rw [List.append_assoc,adA (by omega),adA (by omega)]at hx;rw [adA (by omega),adA (by omega),show j - new.length - hp.length=j - hp.length - new.length by omega];exact hx
 ·intro j j' k hj kz _ _;have key: ∀j,(if j<hp.length then some (new.length+j)else if j<hp.length+new.length then some (j - hp.length)else some j)=some k→
    (j<hp.length∧k=new.length+j)∨(hp.length≤j∧j<hp.length+new.length∧k=j - hp.length)∨(hp.length+new.length≤j∧k=j):=by
   intro j h;split at h
   ·left;simp at h;omega
   ·split at h
    ·right;left;simp at h;omega
    ·right;right;simp at h;omega
  rcases key j hj with h | h | h<;>rcases key j' kz with h' | h' | h'<;>omega
def blank(hp:List HP)(use:List Nat):List HP:=use.foldl (fun h i=>h.set i HP.emp) hp
theorem kE(use:List Nat): ∀hp:List HP,(blank hp use).length=hp.length:=by
 induction use with
 | nil=>intro hp;rfl
 | cons i r ih=>intro hp;show(blank (hp.set i HP.emp) r).length=_;rw [ih];simp
theorem As(use:List Nat): ∀(hp:List HP) (i:Nat) (c:HP),i ∉ use→blank (hp.set i c) use=(blank hp use).set i c:=by
 induction use with
 | nil=>intro hp i c _;rfl
 | cons j r ih=>
  intro hp i c hi;simp only [adW,not_or]at hi;show blank ((hp.set i c).set j HP.emp) r=(blank (hp.set j HP.emp) r).set i c;rw [List.set_comm _ _ hi.1,ih _ _ _ hi.2]
theorem bG.sv: ∀{use:List Nat} {acc hp Fs:List HP} {w:World},bG (acc++(hp++Fs)) w→use.Nodup→(∀i∈use,i<hp.length)→
  bG ((acc++use.map (fun i=>hp.getD i HP.emp))++(blank hp use++Fs)) w
 | [],acc,hp,Fs,w,h,_,_=>by simpa [blank] using h
 | i::r,acc,hp,Fs,w,h,fQ,bP=>by
  have hi:=bP i ady;rw [List.nodup_cons]at fQ;have h1:=h.Uu i (hp.getD i HP.emp) (by rw [List.getD_eq_getElem?_getD];simp [hi]);have h2:=bG.sv (use:=r) h1 fQ.2 (fun j hj=>by simpa using bP j (adB _ hj));have e:r.map (fun j=>(hp.set i HP.emp).getD j HP.emp)=r.map (fun j=>hp.getD j HP.emp):=by
   refine List.map_congr_left fun j hj=>?_
   rw [List.getD_eq_getElem?_getD,List.getD_eq_getElem?_getD,adY];rintro rfl;exact fQ.1 hj
  rw [e,List.append_assoc acc]at h2;exact h2
theorem iq: ∀(use:List Nat) (hp new:List HP),use.Nodup→jY HP.emp hp use new=jY HP.emp (blank hp use) use new
 | [],hp,new,_=>rfl
 | i::r,hp,c::cs,fQ=>by
  rw [List.nodup_cons]at fQ;show jY HP.emp (hp.set i c) r cs=jY HP.emp ((blank (hp.set i HP.emp) r).set i c) r cs;rw [←As r _ _ _ fQ.1,List.set_set];exact iq r _ _ fQ.2
 | i::r,hp,[],fQ=>by
  rw [List.nodup_cons]at fQ;show jY HP.emp (hp.set i HP.emp) r []=jY HP.emp ((blank (hp.set i HP.emp) r).set i HP.emp) r [];rw [←As r _ _ _ fQ.1,List.set_set];exact iq r _ _ fQ.2
theorem bG.ko: ∀{use:List Nat} {new hp Fs:List HP} {w:World},bG (new++(hp++Fs)) w→(∀i∈use,i<hp.length)→(∀i∈use,hp[i]? =some HP.emp∨True)→
  bG (jY HP.emp hp use new++Fs) w
 | [],new,hp,Fs,w,h,_,_=>h.rot
 | i::r,c::cs,hp,Fs,w,h,bP,_=>by
  have hi:=bP i ady;exact bG.ko (use:=r) (h.Uv i hi) (fun j hj=>by simpa using bP j (adB _ hj)) fun _ _=> .inr trivial
 | i::r,[],hp,Fs,w,h,bP,_=>by
  have hi:=bP i ady;have h1:=(bG.HV (a:=[]) h);exact bG.ko (use:=r) (new:=[]) (bG.Uv (new:=[]) h1 i hi) (fun j hj=>by simpa using bP j (adB _ hj)) fun _ _=> .inr trivial
theorem kO{α β:Type}(f:α→β)(e:α): ∀(use:List Nat) (hp new:List α),(jY e hp use new).map f=jY (f e) (hp.map f) use (new.map f)
 | [],hp,new=>by simp [jY]
 | i::r,hp,c::cs=>by simp only [jY,adT];rw [kO f e r,List.map_set]
 | i::r,hp,[]=>by simp only [jY,List.map_nil];rw [kO f e r,List.map_set];rfl
structure cG.le (c d:cG):Prop where
 b:c.b≤d.b
 v:c.v≤d.v
 i:c.i≤d.i
 a:c.a≤d.a
 bo:c.bo≤d.bo
 p:c.p≤d.p
 r:c.r≤d.r
theorem cG.jD(c d:cG):c.le (c.add d):=by constructor<;>simp [cG.add]
theorem cG.le_refl(c:cG):c.le c:=by constructor<;>exact Nat.le_refl _
section
variable {c d:cG}
theorem E.bj(h:c.le d){e:E}(hs:e.sc c=true):e.sc d=true:=by
 induction e with
 | lit n=>rfl
 | var i=>simp only [E.sc,adK]at*;exact adI hs h.i
 | aO i=>simp only [E.sc,adK]at*;exact adI hs h.a
 | NV a i lB Gt=>simp only [E.sc,ai]at*;exact⟨lB hs.1,Gt hs.2⟩
 | bin o k a b lB rP=>simp only [E.sc,ai]at*;exact⟨lB hs.1,rP hs.2⟩
 | wrap k a ih=>simp only [E.sc]at*;exact ih hs
 | rO a i v lB Gt Wf=>simp only [E.sc,ai]at*;exact⟨⟨lB hs.1.1,Gt hs.1.2⟩,Wf hs.2⟩
 | shift a o lB R_=>simp only [E.sc,ai]at*;exact⟨lB hs.1,R_ hs.2⟩
 | s7 a o n b lB R_ Xm rP=>simp only [E.sc,ai]at*;exact⟨⟨⟨lB hs.1.1.1,R_ hs.1.1.2⟩,Xm hs.1.2⟩,rP hs.2⟩
 | kc n a ih=>simp only [E.sc]at*;exact ih hs
 | ky b=>simp only [E.sc,adK]at*;exact adI hs h.b
 | oz l=>rfl
 | OO a i lB Gt=>simp only [E.sc,ai]at*;exact⟨lB hs.1,Gt hs.2⟩
 | oR a i s lB Gt Wg=>simp only [E.sc,ai]at*;exact⟨⟨lB hs.1.1,Gt hs.1.2⟩,Wg hs.2⟩
 | QN s ih=>simp only [E.sc]at*;exact ih hs
theorem BE.bj(h:c.le d){b:BE}(hs:b.sc c=true):b.sc d=true:=by
 induction b with
 | lit n=>rfl
 | var i=>simp only [BE.sc,adK]at*;exact adI hs h.bo
 | eq a b=>simp only [BE.sc,ai]at*;exact⟨E.bj h hs.1,E.bj h hs.2⟩
 | lt a b=>simp only [BE.sc,ai]at*;exact⟨E.bj h hs.1,E.bj h hs.2⟩
 | le a b=>simp only [BE.sc,ai]at*;exact⟨E.bj h hs.1,E.bj h hs.2⟩
 | nz a=>simp only [BE.sc]at*;exact E.bj h hs
 | QO n a b=>simp only [BE.sc,ai]at*;exact⟨E.bj h hs.1,E.bj h hs.2⟩
 | not a ih=>simp only [BE.sc]at*;exact ih hs
 | and a b lB rP=>simp only [BE.sc,ai]at*;exact⟨lB hs.1,rP hs.2⟩
 | or a b lB rP=>simp only [BE.sc,ai]at*;exact⟨lB hs.1,rP hs.2⟩
 | ite x t e T8 RQ RR=>simp only [BE.sc,ai]at*;exact⟨⟨T8 hs.1.1,RQ hs.1.2⟩,RR hs.2⟩
 | seq a b=>simp only [BE.sc,ai]at*;exact⟨E.bj h hs.1,E.bj h hs.2⟩
theorem JJ(h:c.le d){cs:List Cut}(hs:cs.all (Cut.sc c)=true):cs.all (Cut.sc d)=true:=by
 refine adt.2 fun k hk=>?_
 have:=adt.1 hs k hk;simp only [Cut.sc,ai]at this ⊢;refine⟨⟨E.bj h this.1.1,E.bj h this.1.2⟩,?_⟩;cases hm:k.mx with
 | none=>rfl
 | some m=>rw [hm]at this;exact E.bj h this.2
mutual
theorem SV.bj(h:c.le d): ∀{v:SV},v.sc c=true→v.sc d=true
 | .int k e,hs=>by simp only [SV.sc]at*;exact E.bj h hs
 | .bool b,hs=>by simp only [SV.sc]at*;exact BE.bj h hs
 | .iK,_=>rfl
 | .cC,_=>rfl
 | .mc,_=>rfl
 | .rQ,_=>rfl
 | .rR,_=>rfl
 | .undef,_=>rfl
 | .ptr b n,hs=>by simp only [SV.sc,adK]at*;exact adI hs h.b
 | .oB b i s n,hs=>by simp only [SV.sc,adK,ai]at*;exact⟨adI hs.1 h.b,E.bj h hs.2⟩
 | .pv v i s n,hs=>by simp only [SV.sc,adK,ai]at*;exact⟨adI hs.1 h.v,E.bj h hs.2⟩
 | .sl b i s n m,hs=>by simp only [SV.sc,adK,ai]at*;exact⟨⟨⟨adI hs.1.1.1 h.b,E.bj h hs.1.1.2⟩,E.bj h hs.1.2⟩,E.bj h hs.2⟩
 | .vv i,hs=>by simp only [SV.sc,adK]at*;exact adI hs h.v
 | .str l,_=>rfl
 | .fn f caps,hs=>by simp only [SV.sc]at*;exact SV.ep h hs
 | .agg cs,hs=>by simp only [SV.sc]at*;exact SV.ep h hs
 | .cD k n a,hs=>by simp only [SV.sc]at*;exact E.bj h hs
 | .oJ vs,hs=>by simp only [SV.sc]at*;exact SV.ep h hs
 | .opt b v,hs=>by simp only [SV.sc,ai]at*;exact⟨BE.bj h hs.1,SV.bj h hs.2⟩
 | .DK a i,hs=>by simp only [SV.sc]at*;exact E.bj h hs
 | .Jj l,hs=>by simp only [SV.sc,adK]at*;exact adI hs h.b
 | .mp l,hs=>by simp only [SV.sc,adK]at*;exact adI hs h.b
 | .nB e,hs=>by simp only [SV.sc]at*;exact E.bj h hs
 | .KN e,hs=>by simp only [SV.sc]at*;exact E.bj h hs
 | .kb e,hs=>by simp only [SV.sc]at*;exact E.bj h hs
 | .Ln t k e,hs=>by simp only [SV.sc]at*;exact E.bj h hs
 | .F_ b v,hs=>by simp only [SV.sc,ai,adK]at*;exact⟨BE.bj h hs.1,adI hs.2 h.v⟩
 | .jP v cs s,hs=>by simp only [SV.sc,adK,ai]at*;exact⟨adI hs.1 h.v,JJ h hs.2⟩
theorem SV.ep(h:c.le d): ∀{l:List SV},SV.oE c l=true→SV.oE d l=true
 | [],_=>rfl
 | v::r,hs=>by simp only [SV.oE,ai]at*;exact⟨SV.bj h hs.1,SV.ep h hs.2⟩
end
theorem bS.bj(h:c.le d){k:bS}(hs:k.sc c=true):k.sc d=true:=by
 simp only [bS.sc,ai]at hs ⊢;refine⟨E.bj h hs.1,?_⟩;have h2:=hs.2;unfold CK.sc at h2 ⊢;split
 ·rename_i l hl;rw [hl]at h2;exact adt.2 fun n hn=>by
   have:=adt.1 h2 n hn;simp only [adK]at this ⊢;exact adI this h.v
 ·rfl
theorem iu(h:c.le d){aH:List bS}(hs:aH.all (bS.sc c)=true):aH.all (bS.sc d)=true:=
 adt.2 fun k hk=>bS.bj h (adt.1 hs k hk)
theorem Ck.bj(h:c.le d){k:Ck}(hs:k.sc c=true):k.sc d=true:=by
 cases k with
 | emp=>rfl
 | row b w cs=>simp only [Ck.sc,adK,ai]at*;exact⟨adI hs.1 h.b,SV.ep h hs.2⟩
 | bu md v t s n aH=>simp only [Ck.sc,adK,ai]at*;exact⟨⟨adI hs.1.1 h.v,E.bj h hs.1.2⟩,iu h hs.2⟩
 | abs i=>simp only [Ck.sc,adK]at*;exact adI hs h.p
 | kg l r s j=>simp only [Ck.sc,ai,adK]at*;exact⟨adI hs.1 h.b,adI hs.2 h.r⟩
 | JH b=>simp only [Ck.sc,adK]at*;exact adI hs h.b
 | qu b=>simp only [Ck.sc,adK]at*;exact adI hs h.b
 | map b kl ka va z has aH=>simp only [Ck.sc,ai,adK]at*;exact⟨⟨⟨adI hs.1.1.1 h.b,SV.ep h hs.1.1.2⟩,E.bj h hs.1.2⟩,iu h hs.2⟩
 | KR b l p=>simp only [Ck.sc,adK]at*;exact adI hs h.b
 | HO b t e n a=>simp only [Ck.sc,adK,ai]at*;exact⟨⟨adI hs.1.1 h.b,E.bj h hs.1.2⟩,E.bj h hs.2⟩
 | r8 b kl ka va z es=>simp only [Ck.sc,ai,adK]at*;exact⟨⟨adI hs.1.1 h.b,SV.ep h hs.1.2⟩,adt.2 fun e he=>SV.ep h (adt.1 hs.2 e he)⟩
theorem g9(h:c.le d){hp:List Ck}(hs:hp.all (Ck.sc c)=true):hp.all (Ck.sc d)=true:=
 adt.2 fun k hk=>Ck.bj h (adt.1 hs k hk)
theorem cq(h:c.le d){fr:List (Nat×SV)}(hs:kF c fr=true):kF d fr=true:=
 adt.2 fun k hk=>SV.bj h (adt.1 hs k hk)
theorem er(h:c.le d){l:List BE}(hs:l.all (BE.sc c)=true):l.all (BE.sc d)=true:=
 adt.2 fun k hk=>BE.bj h (adt.1 hs k hk)
end
theorem BW{c:cG}{fr:List (Nat×SV)}(hs:kF c fr=true){s:Nat}{v:SV}(h:look fr s=some v):v.sc c=true:=by
 induction fr with
 | nil=>cases h
 | cons x r ih=>
  obtain⟨t,u⟩:=x;simp only [kF,List.all_cons,ai]at hs;unfold look at h;split at h
  ·cases h;exact hs.1
  ·exact ih hs.2 h
theorem cP{c d:cG}(h:c.le d){ds:List MK}(hs:ds.all (MK.sc c)=true):ds.all (MK.sc d)=true:=
 adt.2 fun k hk=>by
  have:=adt.1 hs k hk;cases k<;>simp only [MK.sc,adK]at* <;>exact adI this h.b
structure HW (Fs:List HP) (w0:World) (st:St) (ρ:Env) (w:World):Prop where
 lens:fg ρ st.aX
 j9:kF st.aX st.fr=true
 fy:st.hp.all (Ck.sc st.aX)=true
 mH:st.known.all (BE.sc st.aX)=true
 kn: ∀b∈st.known,b.prop ρ
 own:bG (st.hp.map (Ck.den ρ)++Fs) w
 same:fE w0 w
 kP:st.nt.ds.all (MK.sc st.aX)=true
noncomputable def MK.blocks(ρ:Env):MK→List Nat
 | .one b=>[ρ.bv.getD b 0]
 | .many b=>oS (ρ.bv.getD b 0)
noncomputable def marks(ρ:Env)(ds:List MK):List Deferred:=(ds.flatMap (MK.blocks ρ)).map fun b=>{target:= .collected b,args:= #[]}
structure HA (fr:List (Nat×SV)) (nt:NT) (ρ:Env) (a:Act):Prop where
 defers:a.defers=marks ρ nt.ds
 size:nt.n≤a.tmps.size
 aV: ∀s v,look fr s=some v→a.tmps.getD s undef=v.val ρ
def resume:Exit→List KI→Option (List KI)
 | .normal,k=>some k
 | .exit id,k=>cS id k
 | .ret,k=>fH k
 | _,_=>none
section
variable (P:Program) (C:Ctx) (ax:Value→List HP→Prop) (Fs:List HP) (w0:World)
def At(n:Nat)(k:List KI)(HX:Env)(Lb:Nat→LC)(a:Act)(w:World):Prop:=
 ∃m,m<n∧∃st ρ L,Env.Le HX ρ∧(∀j,j<nl k→L j=Lb j)∧HW Fs w0 st ρ w∧HA st.fr st.nt ρ a∧VC P ax (run C m k st) ρ L
def QK(n:Nat)(k:List KI)(HX:Env)(Lb:Nat→LC)(e:Exit)(a:Act)(w:World):Prop:=
 ∃k',resume e k=some k'∧At P C ax Fs w0 n k' HX Lb a w
end
theorem fW: ∀{id:Nat} {k k':List KI},cS id k=some k'→nl k'≤nl k
 | id,[],k',h=>by simp [cS]at h
 | id,.ky i::k,k',h=>by
  unfold cS at h;split at h
  ·cases h;exact Nat.le_refl _
  ·exact fW (k:=k) h
 | id,.code _::k,k',h=>fW (k:=k) h
 | id,.gh _::k,k',h=>fW (k:=k) h
 | id,.again _::k,k',h=>fW (k:=k) h
 | id,.ops .. ::k,k',h=>fW (k:=k) h
 | id,.loop .. ::k,k',h=>Nat.le_trans (fW (k:=k) h) (aec _)
 | id,.jn i up nt c0 inc fr hp pre::k,k',h=>by
  simp only [cS]at h;split at h
  ·cases h;exact Nat.le_refl _
  ·exact Nat.le_trans (fW (k:=k) h) (aec _)
 | id,.rl .. ::k,k',h=>by simp [cS]at h
 | id,.call .. ::k,k',h=>by simp [cS]at h
 | id,.top .. ::k,k',h=>by simp [cS]at h
 | id,.rf .. ::k,k',h=>by simp [cS]at h
 | id,.begin .. ::k,k',h=>by simp [cS]at h
 | id,.lf .. ::k,k',h=>by simp [cS]at h
 | id,.round .. ::k,k',h=>by simp only [cS]at h;cases h;exact Nat.le_refl _
theorem iy: ∀{k k':List KI},fH k=some k'→nl k'≤nl k
 | [],k',h=>by simp [fH]at h
 | .ky i::k,k',h=>iy (k:=k) h
 | .code _::k,k',h=>iy (k:=k) h
 | .gh _::k,k',h=>iy (k:=k) h
 | .again _::k,k',h=>iy (k:=k) h
 | .ops .. ::k,k',h=>iy (k:=k) h
 | .loop .. ::k,k',h=>Nat.le_trans (iy (k:=k) h) (aec _)
 | .jn .. ::k,k',h=>Nat.le_trans (iy (k:=k) h) (aec _)
 | .rl .. ::k,k',h=>by simp [fH]at h
 | .call .. ::k,k',h=>by simp only [fH]at h;cases h;exact Nat.le_refl _
 | .top .. ::k,k',h=>by simp only [fH]at h;cases h;exact Nat.le_refl _
 | .rf .. ::k,k',h=>by simp only [fH]at h;cases h;exact Nat.le_refl _
 | .round .. ::k,k',h=>by simp only [fH]at h;cases h;exact Nat.le_refl _
 | .begin .. ::k,k',h=>by simp [fH]at h
 | .lf .. ::k,k',h=>by simp [fH]at h
theorem Au{e:Exit}{k k':List KI}(h:resume e k=some k'):nl k'≤nl k:=by
 cases e with
 | normal=>cases h;exact Nat.le_refl _
 | exit id=>exact fW h
 | ret=>exact iy h
 | goto l=>cases h
 | panic c=>cases h
 | outgrown=>cases h
section
variable {P:Program} {C:Ctx} {ax:Value→List HP→Prop} {Fs:List HP} {w0:World}
theorem At.mono{n n':Nat}{k:List KI}{ρ bE:Env}{L L':Nat→LC}{a:Act}{w:World}(h:At P C ax Fs w0 n k bE L' a w)(hn:n≤n')(Xp:Env.Le ρ bE)
  (hL: ∀j,j<nl k→L' j=L j):At P C ax Fs w0 n' k ρ L a w:=by
 obtain⟨m,hm,st,r,L2,h1,h2,h3⟩:=h;exact⟨m,adI hm hn,st,r,L2,Xp.trans h1,fun j hj=>(h2 j hj).trans (hL j hj),h3⟩
theorem QK.mono{n n':Nat}{k:List KI}{ρ bE:Env}{L L':Nat→LC}{e:Exit}{a:Act}{w:World}(h:QK P C ax Fs w0 n k bE L' e a w)(hn:n≤n')(Xp:Env.Le ρ bE)
  (hL: ∀j,j<nl k→L' j=L j):QK P C ax Fs w0 n' k ρ L e a w:=by
 obtain⟨k',hk,h⟩:=h;exact⟨k',hk,h.mono hn Xp fun j hj=>hL j (adI hj (Au hk))⟩
theorem QK.move{n:Nat}{k k2:List KI}{ρ:Env}{L L2:Nat→LC}{e:Exit}{a:Act}{w:World}(h:QK P C ax Fs w0 n k2 ρ L2 e a w)(hk:resume e k2=resume e k)
  (hL: ∀j,j<nl k→L2 j=L j):QK P C ax Fs w0 n k ρ L e a w:=by
 obtain⟨k',h1,h⟩:=h;rw [hk]at h1;exact⟨k',h1,h.mono (Nat.le_refl _) (Env.Le.refl _) fun j hj=>hL j (adI hj (Au h1))⟩
variable {F:Fence} {n:Nat} {ops:Array Oper}
theorem Oper.xX{o:Oper}{a:Act}{w:World}{K K':Act→World→Prop}{Q Q':Exit→Act→World→Prop}(h: ∀a w,K a w→K' a w)(hq: ∀e a w,Q e a w→Q' e a w)
  (hh:o.wpIn F n P a w K Q):o.wpIn F n P a w K' Q':=by
 unfold Oper.wpIn at*;refine⟨hh.1,?_⟩;have hh:=hh.2;have Uw:LetsOut Q→LetsOut Q':=fun⟨a,w,h⟩=>⟨a,w,hq _ _ _ h⟩
 generalize (o.semAt F.round a.eval).run P w=r at*;cases r with
 | ok x w'=>
  cases x<;>simp only [Oper.uponIn]at hh ⊢ <;>
   first
    | exact h _ _ hh
    | exact⟨hh.1,CallsIn.mono hh.2 (fun e Ux he=>by cases e<;>first | exact h _ _ he | exact hq _ _ _ he | exact Uw he)⟩
    | exact⟨hh.1,RowsIn.mono hh.2 (fun _ _ he=>h _ _ he)⟩
    | exact⟨hh.1,RoundIn.mono hh.2 (fun e Ux he=>by cases e<;>first | exact h _ _ he | exact hq _ _ _ he | exact Uw he)⟩
 | halt x w'=>cases x<;>simp only [Oper.uponIn]at hh ⊢ <;>first | exact hq _ _ _ hh | exact hh
theorem eD{Q Q':Exit→Act→World→Prop}(hq: ∀e a w,Q e a w→Q' e a w): ∀{l:List Oper} {a:Act} {w:World},wpListIn F n P ops Q l a w→wpListIn F n P ops Q' l a w
 | [],a,w,h=>hq _ _ _ h
 | o::r,a,w,h=>by
  unfold wpListIn at*;split
  ·rename_i hw;rw [if_pos hw]at h;exact Oper.xX (fun a w=>eD hq) hq h
  ·rename_i hw;rw [if_neg hw]at h;exact⟨h.1,eD hq h.2⟩
end
end Go.RX
