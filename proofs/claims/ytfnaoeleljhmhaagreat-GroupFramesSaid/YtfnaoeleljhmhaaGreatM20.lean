/- A reflective symbolic executor, part 19: ownership, step by step. · A reflective symbolic executor, part 20: what holds along a run; monotony. -/
import Derived.Test.YtfnaoeleljhmhaaGreatRxR
import Derived.Sort.LoopGhostIn

namespace Go.RX
theorem Owns.pick'{hs hs':List HP}{w:World}(h:Owns hs w)(f:Nat→Option Nat)
  (he: ∀(j:Nat) x,hs'[j]? =some x→(f j=none∧x=HP.emp)∨∃i,f j=some i∧hs[i]? =some x)
  (hinj: ∀(j j' i:Nat),f j=some i→f j'=some i→j<hs'.length→j'<hs'.length→j=j'):Owns hs' w:=by
 obtain⟨S,hS⟩:=h;refine⟨fun j k=>match f j with | some i=>S i k | none=>False,⟨?_,?_⟩⟩
 ·intro j x hx;rcases he j x hx with⟨hf,rfl⟩ | ⟨i,hf,hi⟩
  ·simp only [hf];exact⟨fun k hk=>hk,fun k hk=>hk.elim⟩
  ·simp only [hf];exact hS.at_ i x hi
 ·intro j j' x y hne hx hy hw k;rcases he j x hx with⟨hf,rfl⟩ | ⟨i,hf,hi⟩
  ·simp only [hf];exact fun h=>h.elim
  ·rcases he j' y hy with⟨hf',rfl⟩ | ⟨i',hf',hi'⟩
   ·simp only [hf'];exact fun _ h=>h
   ·simp only [hf,hf'];refine hS.apart i i' x y ?_ hi hi' hw k;intro e;subst e;exact hne (hinj j j' i hf hf' (List.getElem?_eq_some_iff.1 hx).1 (List.getElem?_eq_some_iff.1 hy).1)
theorem Owns.emp_mid{a b:List HP}{w:World}(h:Owns (a++b) w):Owns (a++[HP.emp]++b) w:=by
 refine h.pick' (fun j=>if j<a.length then some j else if j=a.length then none else some (j - 1)) ?_ ?_
 ·intro j x hx;by_cases h1:j<a.length
  ·right;refine⟨j,by simp [h1],?_⟩;rw [List.append_assoc,List.getElem?_append_left h1]at hx;rw [List.getElem?_append_left h1];exact hx
  ·by_cases h2:j=a.length
   ·left;subst h2;refine⟨by simp,?_⟩;simp at hx;exact hx.symm
   ·right;refine⟨j - 1,by simp [h1,h2],?_⟩;rw [List.getElem?_append_right (by simp;omega)]at hx;rw [List.getElem?_append_right (by omega)];simp only [List.length_append,List.length_cons,List.length_nil]at hx;rw [show j - 1 - a.length=j - (a.length+(0+1)) by omega];exact hx
 ·intro j j' i hj hj' _ _;split at hj<;>split at hj'
  ·simp_all
  ·split at hj'
   ·cases hj'
   ·simp only [Option.some.injEq]at hj hj';omega
  ·split at hj
   ·cases hj
   ·simp only [Option.some.injEq]at hj hj';omega
  ·split at hj
   ·cases hj
   ·split at hj'
    ·cases hj'
    ·simp only [Option.some.injEq]at hj hj';omega
theorem set_mid{α:Type}(a b:List α)(x y:α):(a++[x]++b).set a.length y=a++[y]++b:=by
 simp
theorem Owns.add{a b:List HP}{w w':World}(h:Owns (a++b) w)(h':HP)(S':Nat→Prop)(hsize:w.heap.size≤w'.heap.size)
  (hkeep: ∀k,k<w.heap.size→w'.heap[k]? =w.heap[k]?) (hp:h'.p w' S') (hsub: ∀k,S' k→w.heap.size≤k∧k<w'.heap.size):Owns (a++[h']++b) w':=by
 obtain⟨S,hS⟩:=h.emp_mid;have:=hS.new a.length h' (by simp) S' hsize hkeep hp hsub;rw [set_mid]at this;exact⟨_,this⟩
theorem Owns.step{a b:List HP}{w w':World}{S:Nat→Nat→Prop}(h:Sep (a++b) S w)(i:Nat)(h0 h':HP)(hi:a[i]? =some h0)(hw:h0.wr=true)
  (S':Nat→Prop) (hsize:w.heap.size≤w'.heap.size) (hkeep: ∀k,k<w.heap.size→¬S i k→w'.heap[k]? =w.heap[k]?)
  (hp:h'.p w' S') (hsub: ∀k,S' k→S i k∨(w.heap.size≤k∧k<w'.heap.size)):Owns (a.set i h'++b) w':=by
 have hlt:i<a.length:=(List.getElem?_eq_some_iff.1 hi).1;have:=h.step i h0 h' (by rw [List.getElem?_append_left hlt];exact hi) hw S' hsize hkeep hp hsub;rw [List.set_append_left _ _ hlt]at this;exact⟨_,this⟩
theorem Owns.take1{acc hp Fs:List HP}{w:World}(h:Owns (acc++(hp++Fs)) w)(i:Nat)(c:HP)(hi:hp[i]? =some c):
  Owns ((acc++[c])++(hp.set i HP.emp++Fs)) w:=by
 have hlt:i<hp.length:=(List.getElem?_eq_some_iff.1 hi).1;refine h.pick' (fun j=>if j<acc.length then some j else if j=acc.length then some (acc.length+i)else if j=acc.length+1+i then none else some (j - 1)) ?_ ?_
 ·intro j x hx;by_cases h1:j<acc.length
  ·right;refine⟨j,by simp [h1],?_⟩;rw [List.append_assoc,List.getElem?_append_left h1]at hx;rw [List.getElem?_append_left h1];exact hx
  ·by_cases h2:j=acc.length
   ·right;subst h2;refine⟨acc.length+i,by simp,?_⟩;rw [List.append_assoc,List.getElem?_append_right (Nat.le_refl _),Nat.sub_self]at hx;simp only [List.cons_append,List.nil_append,List.getElem?_cons_zero,Option.some.injEq]at hx;subst hx;rw [List.getElem?_append_right (by omega),List.getElem?_append_left (by omega)];rw [show acc.length+i - acc.length=i by omega];exact hi
   ·rw [List.getElem?_append_right (by simp;omega)]at hx;simp only [List.length_append,List.length_cons,List.length_nil]at hx;by_cases h3:j=acc.length+1+i
    ·left;subst h3;refine⟨by simp [h1,h2],?_⟩;rw [List.getElem?_append_left (by simp;omega),show acc.length+1+i - (acc.length+(0+1))=i by omega,List.getElem?_set_self hlt]at hx;cases hx;rfl
    ·right;refine⟨j - 1,by simp [h1,h2,h3],?_⟩;rw [List.getElem?_append_right (by omega)];rw [List.getElem?_append]at hx ⊢;simp only [List.length_set]at hx;rw [show j - 1 - acc.length=j - (acc.length+(0+1)) by omega];split at hx
     ·rename_i h4;rw [List.getElem?_set_ne (by omega)]at hx;rw [if_pos h4];exact hx
     ·rename_i h4;rw [if_neg h4];exact hx
 ·intro j j' k hj hj' hl hl';have key: ∀j,(if j<acc.length then some j else if j=acc.length then some (acc.length+i)else if j=acc.length+1+i then none else some (j - 1))=some k→
    (j<acc.length∧k=j)∨(j=acc.length∧k=acc.length+i)∨(acc.length<j∧j≠acc.length+1+i∧k=j - 1):=by
   intro j h;split at h
   ·left;simp at h;omega
   ·split at h
    ·right;left;simp at h;omega
    ·split at h
     ·cases h
     ·right;right;simp at h;omega
  rcases key j hj with h | h | h<;>rcases key j' hj' with h' | h' | h'<;>omega
theorem Owns.put1{new hp Fs:List HP}{c:HP}{w:World}(h:Owns ((c::new)++(hp++Fs)) w)(i:Nat)(hi:i<hp.length):
  Owns (new++(hp.set i c++Fs)) w:=by
 refine h.pick' (fun j=>if j=new.length+i then some 0 else some (j+1)) ?_ ?_
 ·intro j x hx;right;by_cases h1:j=new.length+i
  ·refine⟨0,by simp [h1],?_⟩;subst h1;rw [List.getElem?_append_right (by omega),show new.length+i - new.length=i by omega,List.getElem?_append_left (by simpa using hi),List.getElem?_set_self hi]at hx;simpa using hx
  ·refine⟨j+1,by simp [h1],?_⟩;rw [List.cons_append,List.getElem?_cons_succ];rw [List.getElem?_append]at hx ⊢;split at hx
   ·rename_i h2;rw [if_pos h2];exact hx
   ·rename_i h2;rw [if_neg h2];rw [List.getElem?_append]at hx ⊢;simp only [List.length_set]at hx;split at hx
    ·rename_i h3;rw [List.getElem?_set_ne (by omega)]at hx;rw [if_pos h3];exact hx
    ·rename_i h3;rw [if_neg h3];exact hx
 ·intro j j' k hj hj' _ _;split at hj<;>split at hj'<;>simp only [Option.some.injEq]at hj hj'<;>omega
theorem Owns.rot{new hp Fs:List HP}{w:World}(h:Owns (new++(hp++Fs)) w):Owns ((hp++new)++Fs) w:=by
 refine h.pick' (fun j=>if j<hp.length then some (new.length+j)else if j<hp.length+new.length then some (j - hp.length)else some j) ?_ ?_
 ·intro j x hx;right;by_cases h1:j<hp.length
  ·refine⟨new.length+j,by simp [h1],?_⟩;rw [List.append_assoc,List.getElem?_append_left h1]at hx;rw [List.getElem?_append_right (by omega),show new.length+j - new.length=j by omega,List.getElem?_append_left h1];exact hx
  ·by_cases h2:j<hp.length+new.length
   ·refine⟨j - hp.length,by simp [h1,h2],?_⟩;rw [List.append_assoc,List.getElem?_append_right (by omega),List.getElem?_append_left (by omega)]at hx;rw [List.getElem?_append_left (by omega)];exact hx
   ·refine⟨j,by simp [h1,h2],?_⟩;rw [List.append_assoc,List.getElem?_append_right (by omega),List.getElem?_append_right (by omega)]at hx;rw [List.getElem?_append_right (by omega),List.getElem?_append_right (by omega),show j - new.length - hp.length=j - hp.length - new.length by omega];exact hx
 ·intro j j' k hj hj' _ _;have key: ∀j,(if j<hp.length then some (new.length+j)else if j<hp.length+new.length then some (j - hp.length)else some j)=some k→
    (j<hp.length∧k=new.length+j)∨(hp.length≤j∧j<hp.length+new.length∧k=j - hp.length)∨(hp.length+new.length≤j∧k=j):=by
   intro j h;split at h
   ·left;simp at h;omega
   ·split at h
    ·right;left;simp at h;omega
    ·right;right;simp at h;omega
  rcases key j hj with h | h | h<;>rcases key j' hj' with h' | h' | h'<;>omega
def blank(hp:List HP)(use:List Nat):List HP:=use.foldl (fun h i=>h.set i HP.emp) hp
theorem blank_length(use:List Nat): ∀hp:List HP,(blank hp use).length=hp.length:=by
 induction use with
 | nil=>intro hp;rfl
 | cons i r ih=>intro hp;show(blank (hp.set i HP.emp) r).length=_;rw [ih];simp
theorem blank_set(use:List Nat): ∀(hp:List HP) (i:Nat) (c:HP),i ∉ use→blank (hp.set i c) use=(blank hp use).set i c:=by
 induction use with
 | nil=>intro hp i c _;rfl
 | cons j r ih=>
  intro hp i c hi;simp only [List.mem_cons,not_or]at hi;show blank ((hp.set i c).set j HP.emp) r=(blank (hp.set j HP.emp) r).set i c;rw [List.set_comm _ _ hi.1,ih _ _ _ hi.2]
theorem Owns.takeAll: ∀{use:List Nat} {acc hp Fs:List HP} {w:World},Owns (acc++(hp++Fs)) w→use.Nodup→(∀i∈use,i<hp.length)→
  Owns ((acc++use.map (fun i=>hp.getD i HP.emp))++(blank hp use++Fs)) w
 | [],acc,hp,Fs,w,h,_,_=>by simpa [blank] using h
 | i::r,acc,hp,Fs,w,h,hnd,hlt=>by
  have hi:=hlt i List.mem_cons_self;rw [List.nodup_cons]at hnd;have h1:=h.take1 i (hp.getD i HP.emp) (by rw [List.getD_eq_getElem?_getD];simp [hi]);have h2:=Owns.takeAll (use:=r) h1 hnd.2 (fun j hj=>by simpa using hlt j (List.mem_cons_of_mem _ hj));have e:r.map (fun j=>(hp.set i HP.emp).getD j HP.emp)=r.map (fun j=>hp.getD j HP.emp):=by
   refine List.map_congr_left fun j hj=>?_
   rw [List.getD_eq_getElem?_getD,List.getD_eq_getElem?_getD,List.getElem?_set_ne];rintro rfl;exact hnd.1 hj
  rw [e,List.append_assoc acc]at h2;exact h2
theorem replL_blank: ∀(use:List Nat) (hp new:List HP),use.Nodup→replL HP.emp hp use new=replL HP.emp (blank hp use) use new
 | [],hp,new,_=>rfl
 | i::r,hp,c::cs,hnd=>by
  rw [List.nodup_cons]at hnd;show replL HP.emp (hp.set i c) r cs=replL HP.emp ((blank (hp.set i HP.emp) r).set i c) r cs;rw [←blank_set r _ _ _ hnd.1,List.set_set];exact replL_blank r _ _ hnd.2
 | i::r,hp,[],hnd=>by
  rw [List.nodup_cons]at hnd;show replL HP.emp (hp.set i HP.emp) r []=replL HP.emp ((blank (hp.set i HP.emp) r).set i HP.emp) r [];rw [←blank_set r _ _ _ hnd.1,List.set_set];exact replL_blank r _ _ hnd.2
theorem Owns.putAll: ∀{use:List Nat} {new hp Fs:List HP} {w:World},Owns (new++(hp++Fs)) w→(∀i∈use,i<hp.length)→(∀i∈use,hp[i]? =some HP.emp∨True)→
  Owns (replL HP.emp hp use new++Fs) w
 | [],new,hp,Fs,w,h,_,_=>h.rot
 | i::r,c::cs,hp,Fs,w,h,hlt,_=>by
  have hi:=hlt i List.mem_cons_self;exact Owns.putAll (use:=r) (h.put1 i hi) (fun j hj=>by simpa using hlt j (List.mem_cons_of_mem _ hj)) fun _ _=> .inr trivial
 | i::r,[],hp,Fs,w,h,hlt,_=>by
  have hi:=hlt i List.mem_cons_self;have h1:=(Owns.emp_mid (a:=[]) h);exact Owns.putAll (use:=r) (new:=[]) (Owns.put1 (new:=[]) h1 i hi) (fun j hj=>by simpa using hlt j (List.mem_cons_of_mem _ hj)) fun _ _=> .inr trivial
theorem map_replL{α β:Type}(f:α→β)(e:α): ∀(use:List Nat) (hp new:List α),(replL e hp use new).map f=replL (f e) (hp.map f) use (new.map f)
 | [],hp,new=>by simp [replL]
 | i::r,hp,c::cs=>by simp only [replL,List.map_cons];rw [map_replL f e r,List.map_set]
 | i::r,hp,[]=>by simp only [replL,List.map_nil];rw [map_replL f e r,List.map_set];rfl
end Go.RX

namespace Go.RX
structure Cnt.le (c d:Cnt):Prop where
 b:c.b≤d.b
 v:c.v≤d.v
 i:c.i≤d.i
 a:c.a≤d.a
 bo:c.bo≤d.bo
 p:c.p≤d.p
 r:c.r≤d.r
theorem Cnt.le_add(c d:Cnt):c.le (c.add d):=by constructor<;>simp [Cnt.add]
theorem Cnt.le_refl(c:Cnt):c.le c:=by constructor<;>exact Nat.le_refl _
section
variable {c d:Cnt}
theorem E.sc_mono(h:c.le d){e:E}(hs:e.sc c=true):e.sc d=true:=by
 induction e with
 | lit n=>rfl
 | var i=>simp only [E.sc,Nat.blt_eq]at*;exact Nat.lt_of_lt_of_le hs h.i
 | avar i=>simp only [E.sc,Nat.blt_eq]at*;exact Nat.lt_of_lt_of_le hs h.a
 | sel a i iha ihi=>simp only [E.sc,Bool.and_eq_true]at*;exact⟨iha hs.1,ihi hs.2⟩
 | bin o k a b iha ihb=>simp only [E.sc,Bool.and_eq_true]at*;exact⟨iha hs.1,ihb hs.2⟩
 | wrap k a ih=>simp only [E.sc]at*;exact ih hs
 | upd a i v iha ihi ihv=>simp only [E.sc,Bool.and_eq_true]at*;exact⟨⟨iha hs.1.1,ihi hs.1.2⟩,ihv hs.2⟩
 | shift a o iha iho=>simp only [E.sc,Bool.and_eq_true]at*;exact⟨iha hs.1,iho hs.2⟩
 | spl a o n b iha iho ihn ihb=>simp only [E.sc,Bool.and_eq_true]at*;exact⟨⟨⟨iha hs.1.1.1,iho hs.1.1.2⟩,ihn hs.1.2⟩,ihb hs.2⟩
 | kc n a ih=>simp only [E.sc]at*;exact ih hs
 | blk b=>simp only [E.sc,Nat.blt_eq]at*;exact Nat.lt_of_lt_of_le hs h.b
 | rowl l=>rfl
 | at2 a i iha ihi=>simp only [E.sc,Bool.and_eq_true]at*;exact⟨iha hs.1,ihi hs.2⟩
 | put2 a i s iha ihi ihs=>simp only [E.sc,Bool.and_eq_true]at*;exact⟨⟨iha hs.1.1,ihi hs.1.2⟩,ihs hs.2⟩
 | sby s ih=>simp only [E.sc]at*;exact ih hs
 | srow s ih=>simp only [E.sc]at*;exact ih hs
 | scd s ih=>simp only [E.sc]at*;exact ih hs
theorem BE.sc_mono(h:c.le d){b:BE}(hs:b.sc c=true):b.sc d=true:=by
 induction b with
 | lit n=>rfl
 | var i=>simp only [BE.sc,Nat.blt_eq]at*;exact Nat.lt_of_lt_of_le hs h.bo
 | eq a b=>simp only [BE.sc,Bool.and_eq_true]at*;exact⟨E.sc_mono h hs.1,E.sc_mono h hs.2⟩
 | lt a b=>simp only [BE.sc,Bool.and_eq_true]at*;exact⟨E.sc_mono h hs.1,E.sc_mono h hs.2⟩
 | le a b=>simp only [BE.sc,Bool.and_eq_true]at*;exact⟨E.sc_mono h hs.1,E.sc_mono h hs.2⟩
 | nz a=>simp only [BE.sc]at*;exact E.sc_mono h hs
 | aeq n a b=>simp only [BE.sc,Bool.and_eq_true]at*;exact⟨E.sc_mono h hs.1,E.sc_mono h hs.2⟩
 | not a ih=>simp only [BE.sc]at*;exact ih hs
 | and a b iha ihb=>simp only [BE.sc,Bool.and_eq_true]at*;exact⟨iha hs.1,ihb hs.2⟩
 | or a b iha ihb=>simp only [BE.sc,Bool.and_eq_true]at*;exact⟨iha hs.1,ihb hs.2⟩
 | ite x t e ihx iht ihe=>simp only [BE.sc,Bool.and_eq_true]at*;exact⟨⟨ihx hs.1.1,iht hs.1.2⟩,ihe hs.2⟩
 | seq a b=>simp only [BE.sc,Bool.and_eq_true]at*;exact⟨E.sc_mono h hs.1,E.sc_mono h hs.2⟩
 | vnil i=>simp only [BE.sc,Nat.blt_eq]at*;exact Nat.lt_of_lt_of_le hs h.v
theorem cuts_mono(h:c.le d){cs:List Cut}(hs:cs.all (Cut.sc c)=true):cs.all (Cut.sc d)=true:=by
 refine List.all_eq_true.2 fun k hk=>?_
 have:=List.all_eq_true.1 hs k hk;simp only [Cut.sc,Bool.and_eq_true]at this ⊢;refine⟨⟨E.sc_mono h this.1.1,E.sc_mono h this.1.2⟩,?_⟩;cases hm:k.mx with
 | none=>rfl
 | some m=>rw [hm]at this;exact E.sc_mono h this.2
mutual
theorem SV.sc_mono(h:c.le d): ∀{v:SV},v.sc c=true→v.sc d=true
 | .int k e,hs=>by simp only [SV.sc]at*;exact E.sc_mono h hs
 | .bool b,hs=>by simp only [SV.sc]at*;exact BE.sc_mono h hs
 | .nilp,_=>rfl
 | .nils,_=>rfl
 | .nilf,_=>rfl
 | .nili,_=>rfl
 | .nilm,_=>rfl
 | .undef,_=>rfl
 | .ptr b n,hs=>by simp only [SV.sc,Nat.blt_eq]at*;exact Nat.lt_of_lt_of_le hs h.b
 | .ptri b i s n,hs=>by simp only [SV.sc,Nat.blt_eq,Bool.and_eq_true]at*;exact⟨Nat.lt_of_lt_of_le hs.1 h.b,E.sc_mono h hs.2⟩
 | .pv v i s n,hs=>by simp only [SV.sc,Nat.blt_eq,Bool.and_eq_true]at*;exact⟨Nat.lt_of_lt_of_le hs.1 h.v,E.sc_mono h hs.2⟩
 | .sl b i s n m,hs=>by simp only [SV.sc,Nat.blt_eq,Bool.and_eq_true]at*;exact⟨⟨⟨Nat.lt_of_lt_of_le hs.1.1.1 h.b,E.sc_mono h hs.1.1.2⟩,E.sc_mono h hs.1.2⟩,E.sc_mono h hs.2⟩
 | .vv i,hs=>by simp only [SV.sc,Nat.blt_eq]at*;exact Nat.lt_of_lt_of_le hs h.v
 | .str l,_=>rfl
 | .fn f caps,hs=>by simp only [SV.sc]at*;exact SV.scL_mono h hs
 | .fm f caps,hs=>by simp only [SV.sc]at*;exact SV.scL_mono h hs
 | .fmi n t l k,hs=>by simp only [SV.sc,Nat.blt_eq]at*;exact Nat.lt_of_lt_of_le hs h.b
 | .agg cs,hs=>by simp only [SV.sc]at*;exact SV.scL_mono h hs
 | .seg k n a,hs=>by simp only [SV.sc]at*;exact E.sc_mono h hs
 | .tup vs,hs=>by simp only [SV.sc]at*;exact SV.scL_mono h hs
 | .opt b v,hs=>by simp only [SV.sc,Bool.and_eq_true]at*;exact⟨BE.sc_mono h hs.1,SV.sc_mono h hs.2⟩
 | .vsel a i,hs=>by simp only [SV.sc]at*;exact E.sc_mono h hs
 | .yld l,hs=>by simp only [SV.sc,Nat.blt_eq]at*;exact Nat.lt_of_lt_of_le hs h.b
 | .mp l,hs=>by simp only [SV.sc,Nat.blt_eq]at*;exact Nat.lt_of_lt_of_le hs h.b
 | .ptrE e,hs=>by simp only [SV.sc]at*;exact E.sc_mono h hs
 | .cvE e,hs=>by simp only [SV.sc]at*;exact E.sc_mono h hs
 | .strE e,hs=>by simp only [SV.sc]at*;exact E.sc_mono h hs
 | .ifl t k e,hs=>by simp only [SV.sc]at*;exact E.sc_mono h hs
 | .ifp t l k,hs=>by simp only [SV.sc,Nat.blt_eq]at*;exact Nat.lt_of_lt_of_le hs h.b
 | .asl v i s c' n,hs=>by simp only [SV.sc,Bool.and_eq_true,Nat.blt_eq]at*;exact⟨Nat.lt_of_lt_of_le hs.1 h.v,E.sc_mono h hs.2⟩
 | .ifv b v,hs=>by simp only [SV.sc,Bool.and_eq_true,Nat.blt_eq]at*;exact⟨BE.sc_mono h hs.1,Nat.lt_of_lt_of_le hs.2 h.v⟩
 | .vsub v cs s,hs=>by simp only [SV.sc,Nat.blt_eq,Bool.and_eq_true]at*;exact⟨Nat.lt_of_lt_of_le hs.1 h.v,cuts_mono h hs.2⟩
theorem SV.scL_mono(h:c.le d): ∀{l:List SV},SV.scL c l=true→SV.scL d l=true
 | [],_=>rfl
 | v::r,hs=>by simp only [SV.scL,Bool.and_eq_true]at*;exact⟨SV.sc_mono h hs.1,SV.scL_mono h hs.2⟩
end
theorem Col.sc_mono(h:c.le d){k:Col}(hs:k.sc c=true):k.sc d=true:=by
 simp only [Col.sc,Bool.and_eq_true]at hs ⊢;refine⟨E.sc_mono h hs.1,?_⟩;have h2:=hs.2;unfold CK.sc at h2 ⊢;split
 ·rename_i l hl;rw [hl]at h2;exact List.all_eq_true.2 fun n hn=>by
   have:=List.all_eq_true.1 h2 n hn;simp only [Nat.blt_eq]at this ⊢;exact Nat.lt_of_lt_of_le this h.v
 ·rename_i q v hl;rw [hl]at h2;simp only [Bool.and_eq_true,Nat.blt_eq]at h2 ⊢;exact⟨E.sc_mono h h2.1,Nat.lt_of_lt_of_le h2.2 h.v⟩
 ·rfl
theorem cols_mono(h:c.le d){cols:List Col}(hs:cols.all (Col.sc c)=true):cols.all (Col.sc d)=true:=
 List.all_eq_true.2 fun k hk=>Col.sc_mono h (List.all_eq_true.1 hs k hk)
theorem Ck.sc_mono(h:c.le d){k:Ck}(hs:k.sc c=true):k.sc d=true:=by
 cases k with
 | emp=>rfl
 | row b w cs=>simp only [Ck.sc,Nat.blt_eq,Bool.and_eq_true]at*;exact⟨Nat.lt_of_lt_of_le hs.1 h.b,SV.scL_mono h hs.2⟩
 | sli md v t s n cols=>simp only [Ck.sc,Nat.blt_eq,Bool.and_eq_true]at*;exact⟨⟨Nat.lt_of_lt_of_le hs.1.1 h.v,E.sc_mono h hs.1.2⟩,cols_mono h hs.2⟩
 | abs i=>simp only [Ck.sc,Nat.blt_eq]at*;exact Nat.lt_of_lt_of_le hs h.p
 | lrec l r s j=>simp only [Ck.sc,Bool.and_eq_true,Nat.blt_eq]at*;exact⟨Nat.lt_of_lt_of_le hs.1 h.b,Nat.lt_of_lt_of_le hs.2 h.r⟩
 | dfr b=>simp only [Ck.sc,Nat.blt_eq]at*;exact Nat.lt_of_lt_of_le hs h.b
 | dfrs b=>simp only [Ck.sc,Nat.blt_eq]at*;exact Nat.lt_of_lt_of_le hs h.b
 | map b kl ka va z has cols=>simp only [Ck.sc,Bool.and_eq_true,Nat.blt_eq]at*;exact⟨⟨⟨Nat.lt_of_lt_of_le hs.1.1.1 h.b,SV.scL_mono h hs.1.1.2⟩,E.sc_mono h hs.1.2⟩,cols_mono h hs.2⟩
 | sit b l p=>simp only [Ck.sc,Nat.blt_eq]at*;exact Nat.lt_of_lt_of_le hs h.b
 | mit b m=>simp only [Ck.sc,Bool.and_eq_true,Nat.blt_eq]at*;exact⟨Nat.lt_of_lt_of_le hs.1 h.b,Nat.lt_of_lt_of_le hs.2 h.b⟩
 | bld b t e n a=>simp only [Ck.sc,Nat.blt_eq,Bool.and_eq_true]at*;exact⟨⟨Nat.lt_of_lt_of_le hs.1.1 h.b,E.sc_mono h hs.1.2⟩,E.sc_mono h hs.2⟩
 | mapl b kl ka va z es=>simp only [Ck.sc,Bool.and_eq_true,Nat.blt_eq]at*;exact⟨⟨Nat.lt_of_lt_of_le hs.1.1 h.b,SV.scL_mono h hs.1.2⟩,List.all_eq_true.2 fun e he=>SV.scL_mono h (List.all_eq_true.1 hs.2 e he)⟩
theorem Cks_mono(h:c.le d){hp:List Ck}(hs:hp.all (Ck.sc c)=true):hp.all (Ck.sc d)=true:=
 List.all_eq_true.2 fun k hk=>Ck.sc_mono h (List.all_eq_true.1 hs k hk)
theorem frSc_mono(h:c.le d){fr:List (Nat×SV)}(hs:frSc c fr=true):frSc d fr=true:=
 List.all_eq_true.2 fun k hk=>SV.sc_mono h (List.all_eq_true.1 hs k hk)
theorem BEs_mono(h:c.le d){l:List BE}(hs:l.all (BE.sc c)=true):l.all (BE.sc d)=true:=
 List.all_eq_true.2 fun k hk=>BE.sc_mono h (List.all_eq_true.1 hs k hk)
end
theorem look_sc{c:Cnt}{fr:List (Nat×SV)}(hs:frSc c fr=true){s:Nat}{v:SV}(h:look fr s=some v):v.sc c=true:=by
 induction fr with
 | nil=>cases h
 | cons x r ih=>
  obtain⟨t,u⟩:=x;simp only [frSc,List.all_cons,Bool.and_eq_true]at hs;unfold look at h;split at h
  ·cases h;exact hs.1
  ·exact ih hs.2 h
theorem dsc_mono{c d:Cnt}(h:c.le d){ds:List MK}(hs:ds.all (MK.sc c)=true):ds.all (MK.sc d)=true:=
 List.all_eq_true.2 fun k hk=>by
  have:=List.all_eq_true.1 hs k hk;cases k<;>simp only [MK.sc,Nat.blt_eq]at* <;>exact Nat.lt_of_lt_of_le this h.b
structure HW (Fs:List HP) (w0:World) (st:St) (ρ:Env) (w:World):Prop where
 lens:Lens ρ st.cnt
 scf:frSc st.cnt st.fr=true
 sch:st.hp.all (Ck.sc st.cnt)=true
 sck:st.known.all (BE.sc st.cnt)=true
 kn: ∀b∈st.known,b.prop ρ
 own:Owns (st.hp.map (Ck.den ρ)++Fs) w
 same:Same w0 w
 scd:st.nt.ds.all (MK.sc st.cnt)=true
noncomputable def MK.blocks(ρ:Env):MK→List Nat
 | .one b=>[ρ.bv.getD b 0]
 | .many b=>listOf (ρ.bv.getD b 0)
noncomputable def marks(ρ:Env)(ds:List MK):List Deferred:=(ds.flatMap (MK.blocks ρ)).map fun b=>{target:= .collected b,args:= #[]}
structure HA (fr:List (Nat×SV)) (nt:NT) (ρ:Env) (a:Act):Prop where
 defers:a.defers=marks ρ nt.ds
 size:nt.n≤a.tmps.size
 slots: ∀s v,look fr s=some v→a.tmps.getD s undef=v.val ρ
def resume:Exit→List KI→Option (List KI)
 | .normal,k=>some k
 | .exit id,k=>popExit id k
 | .ret,k=>popRet k
 | _,_=>none
section
variable (P:Program) (C:Ctx) (Post:Value→List HP→Prop) (Fs:List HP) (w0:World)
def At(n:Nat)(k:List KI)(ρb:Env)(Lb:Nat→LC)(a:Act)(w:World):Prop:=
 ∃m,m<n∧∃st ρ L,Env.Le ρb ρ∧(∀j,j<nl k→L j=Lb j)∧HW Fs w0 st ρ w∧HA st.fr st.nt ρ a∧VC P Post (run C m k st) ρ L
def QK(n:Nat)(k:List KI)(ρb:Env)(Lb:Nat→LC)(e:Exit)(a:Act)(w:World):Prop:=
 ∃k',resume e k=some k'∧At P C Post Fs w0 n k' ρb Lb a w
end
theorem popExit_nl: ∀{id:Nat} {k k':List KI},popExit id k=some k'→nl k'≤nl k
 | id,[],k',h=>by simp [popExit]at h
 | id,.blk i::k,k',h=>by
  unfold popExit at h;split at h
  ·cases h;exact Nat.le_refl _
  ·exact popExit_nl (k:=k) h
 | id,.code _::k,k',h=>popExit_nl (k:=k) h
 | id,.gh _::k,k',h=>popExit_nl (k:=k) h
 | id,.again _::k,k',h=>popExit_nl (k:=k) h
 | id,.ops .. ::k,k',h=>popExit_nl (k:=k) h
 | id,.loop .. ::k,k',h=>Nat.le_trans (popExit_nl (k:=k) h) (Nat.le_succ _)
 | id,.jn i up nt c0 inc fr hp pre::k,k',h=>by
  simp only [popExit]at h;split at h
  ·cases h;exact Nat.le_refl _
  ·exact Nat.le_trans (popExit_nl (k:=k) h) (Nat.le_succ _)
 | id,.dops .. ::k,k',h=>by simp [popExit]at h
 | id,.call .. ::k,k',h=>by simp [popExit]at h
 | id,.top .. ::k,k',h=>by simp [popExit]at h
 | id,.rf .. ::k,k',h=>by simp [popExit]at h
 | id,.begin .. ::k,k',h=>by simp [popExit]at h
 | id,.roundEnd .. ::k,k',h=>by simp [popExit]at h
 | id,.round .. ::k,k',h=>by simp only [popExit]at h;cases h;exact Nat.le_refl _
theorem popRet_nl: ∀{k k':List KI},popRet k=some k'→nl k'≤nl k
 | [],k',h=>by simp [popRet]at h
 | .blk i::k,k',h=>popRet_nl (k:=k) h
 | .code _::k,k',h=>popRet_nl (k:=k) h
 | .gh _::k,k',h=>popRet_nl (k:=k) h
 | .again _::k,k',h=>popRet_nl (k:=k) h
 | .ops .. ::k,k',h=>popRet_nl (k:=k) h
 | .loop .. ::k,k',h=>Nat.le_trans (popRet_nl (k:=k) h) (Nat.le_succ _)
 | .jn .. ::k,k',h=>Nat.le_trans (popRet_nl (k:=k) h) (Nat.le_succ _)
 | .dops .. ::k,k',h=>by simp [popRet]at h
 | .call .. ::k,k',h=>by simp only [popRet]at h;cases h;exact Nat.le_refl _
 | .top .. ::k,k',h=>by simp only [popRet]at h;cases h;exact Nat.le_refl _
 | .rf .. ::k,k',h=>by simp only [popRet]at h;cases h;exact Nat.le_refl _
 | .round .. ::k,k',h=>by simp only [popRet]at h;cases h;exact Nat.le_refl _
 | .begin .. ::k,k',h=>by simp [popRet]at h
 | .roundEnd .. ::k,k',h=>by simp [popRet]at h
theorem resume_nl{e:Exit}{k k':List KI}(h:resume e k=some k'):nl k'≤nl k:=by
 cases e with
 | normal=>cases h;exact Nat.le_refl _
 | exit id=>exact popExit_nl h
 | ret=>exact popRet_nl h
 | goto l=>cases h
 | panic c=>cases h
 | outgrown=>cases h
section
variable {P:Program} {C:Ctx} {Post:Value→List HP→Prop} {Fs:List HP} {w0:World}
theorem At.mono{n n':Nat}{k:List KI}{ρ ρ':Env}{L L':Nat→LC}{a:Act}{w:World}(h:At P C Post Fs w0 n k ρ' L' a w)(hn:n≤n')(hρ:Env.Le ρ ρ')
  (hL: ∀j,j<nl k→L' j=L j):At P C Post Fs w0 n' k ρ L a w:=by
 obtain⟨m,hm,st,r,L2,h1,h2,h3⟩:=h;exact⟨m,Nat.lt_of_lt_of_le hm hn,st,r,L2,hρ.trans h1,fun j hj=>(h2 j hj).trans (hL j hj),h3⟩
theorem QK.mono{n n':Nat}{k:List KI}{ρ ρ':Env}{L L':Nat→LC}{e:Exit}{a:Act}{w:World}(h:QK P C Post Fs w0 n k ρ' L' e a w)(hn:n≤n')(hρ:Env.Le ρ ρ')
  (hL: ∀j,j<nl k→L' j=L j):QK P C Post Fs w0 n' k ρ L e a w:=by
 obtain⟨k',hk,h⟩:=h;exact⟨k',hk,h.mono hn hρ fun j hj=>hL j (Nat.lt_of_lt_of_le hj (resume_nl hk))⟩
theorem QK.move{n:Nat}{k k2:List KI}{ρ:Env}{L L2:Nat→LC}{e:Exit}{a:Act}{w:World}(h:QK P C Post Fs w0 n k2 ρ L2 e a w)(hk:resume e k2=resume e k)
  (hL: ∀j,j<nl k→L2 j=L j):QK P C Post Fs w0 n k ρ L e a w:=by
 obtain⟨k',h1,h⟩:=h;rw [hk]at h1;exact⟨k',h1,h.mono (Nat.le_refl _) (Env.Le.refl _) fun j hj=>hL j (Nat.lt_of_lt_of_le hj (resume_nl h1))⟩
variable {F:Fence} {n:Nat} {ops:Array Oper}
theorem Oper.wpIn_mono2{o:Oper}{a:Act}{w:World}{K K':Act→World→Prop}{Q Q':Exit→Act→World→Prop}(h: ∀a w,K a w→K' a w)(hq: ∀e a w,Q e a w→Q' e a w)
  (hh:o.wpIn F n P a w K Q):o.wpIn F n P a w K' Q':=by
 unfold Oper.wpIn at*;refine⟨hh.1,?_⟩;have hh:=hh.2;have hout:LetsOut Q→LetsOut Q':=fun⟨a,w,h⟩=>⟨a,w,hq _ _ _ h⟩
 generalize (o.semAt F.round a.eval).run P w=r at*;cases r with
 | ok x w'=>
  cases x<;>simp only [Oper.uponIn]at hh ⊢ <;>
   first
    | exact h _ _ hh
    | exact⟨hh.1,CallsIn.mono hh.2 (fun e w'' he=>by cases e<;>first | exact h _ _ he | exact hq _ _ _ he | exact hout he)⟩
    | exact⟨hh.1,RowsIn.mono hh.2 (fun _ _ he=>h _ _ he)⟩
    | exact⟨hh.1,RoundIn.mono hh.2 (fun e w'' he=>by cases e<;>first | exact h _ _ he | exact hq _ _ _ he | exact hout he)⟩
 | halt x w'=>cases x<;>simp only [Oper.uponIn]at hh ⊢ <;>first | exact hq _ _ _ hh | exact hh
theorem wpListIn_mono{Q Q':Exit→Act→World→Prop}(hq: ∀e a w,Q e a w→Q' e a w): ∀{l:List Oper} {a:Act} {w:World},wpListIn F n P ops Q l a w→wpListIn F n P ops Q' l a w
 | [],a,w,h=>hq _ _ _ h
 | o::r,a,w,h=>by
  unfold wpListIn at*;split
  ·rename_i hw;rw [if_pos hw]at h;exact Oper.wpIn_mono2 (fun a w=>wpListIn_mono hq) hq h
  ·rename_i hw;rw [if_neg hw]at h;exact⟨h.1,wpListIn_mono hq h.2⟩
end
end Go.RX
