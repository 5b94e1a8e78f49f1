/- Executor. -/
import Derived.Test.YtphemenngjkfbaaM14
import Derived.Sort.LoopGhostIn
open Bool renaming and_eq_true → ai
open List renaming all_eq_true → adI, getElem?_append_left → adO, getElem?_append_right → adQ, getElem?_eq_some_iff → adJ, getElem?_set_ne → ad_, map_cons → ad1, mem_cons_of_mem → adP, mem_cons_self → adN
open Nat renaming blt_eq → adX, lt_of_lt_of_le → adT
open Option.some renaming injEq → adK
namespace Go.RX
theorem bd.rI{hs gN:List HP}{w:World}(h:bd hs w)(f:Nat→Option Nat)
  (he: ∀(j:Nat) x,gN[j]? =some x→(f j=none∧x=HP.emp)∨∃i,f j=some i∧hs[i]? =some x)
  (Yx: ∀(j j' i:Nat),f j=some i→f j'=some i→j<gN.length→j'<gN.length→j=j'):bd gN w:=by
 obtain⟨S,hS⟩:=h;refine⟨fun j k=>match f j with | some i=>S i k | none=>False,⟨?_,?_⟩⟩
 ·intro j x hx;rcases he j x hx with⟨hf,rfl⟩ | ⟨i,hf,hi⟩
  ·simp only [hf];exact⟨fun k hk=>hk,fun k hk=>hk.elim⟩
  ·simp only [hf];exact hS.at_ i x hi
 ·intro j j' x y fc hx hy hw k;rcases he j x hx with⟨hf,rfl⟩ | ⟨i,hf,hi⟩
  ·simp only [hf];exact fun h=>h.elim
  ·rcases he j' y hy with⟨D0,rfl⟩ | ⟨i',D0,nH⟩
   ·simp only [D0];exact fun _ h=>h
   ·simp only [hf,D0];refine hS.apart i i' x y ?_ hi nH hw k;intro e;subst e;exact fc (Yx j j' i hf D0 (adJ.1 hx).1 (adJ.1 hy).1)
theorem bd.Ij{a b:List HP}{w:World}(h:bd (a++b) w):bd (a++[HP.emp]++b) w:=by
 refine h.rI (fun j=>if j<a.length then some j else if j=a.length then none else some (j - 1)) ?_ ?_
 ·intro j x hx;by_cases h1:j<a.length
  ·right;refine⟨j,by simp [h1],?_⟩;rw [List.append_assoc,adO h1]at hx;rw [adO h1];exact hx
  ·by_cases h2:j=a.length
   ·left;subst h2;refine⟨by simp,?_⟩;simp at hx;exact hx.symm
   ·right;refine⟨j - 1,by simp [h1,h2],?_⟩;rw [adQ (by simp;omega)]at hx;rw [adQ (by omega)];simp only [List.length_append,List.length_cons,List.length_nil]at hx;rw [show j - 1 - a.length=j - (a.length+(0+1)) by omega];exact hx
 ·intro j j' i hj ky _ _;split at hj<;>split at ky
  ·simp_all
  ·split at ky
   ·cases ky
   ·simp only [adK]at hj ky;omega
  ·split at hj
   ·cases hj
   ·simp only [adK]at hj ky;omega
  ·split at hj
   ·cases hj
   ·split at ky
    ·cases ky
    ·simp only [adK]at hj ky;omega
theorem PN{α:Type}(a b:List α)(x y:α):(a++[x]++b).set a.length y=a++[y]++b:=by
 simp
theorem bd.add{a b:List HP}{w w':World}(h:bd (a++b) w)(h':HP)(S':Nat→Prop)(iZ:w.heap.size≤w'.heap.size)
  (s9: ∀k,k<w.heap.size→w'.heap[k]? =w.heap[k]?) (hp:h'.p w' S') (dL: ∀k,S' k→w.heap.size≤k∧k<w'.heap.size):bd (a++[h']++b) w':=by
 obtain⟨S,hS⟩:=h.Ij;have:=hS.new a.length h' (by simp) S' iZ s9 hp dL;rw [PN]at this;exact⟨_,this⟩
theorem bd.step{a b:List HP}{w w':World}{S:Nat→Nat→Prop}(h:Sep (a++b) S w)(i:Nat)(h0 h':HP)(hi:a[i]? =some h0)(hw:h0.wr=true)
  (S':Nat→Prop) (iZ:w.heap.size≤w'.heap.size) (s9: ∀k,k<w.heap.size→¬S i k→w'.heap[k]? =w.heap[k]?)
  (hp:h'.p w' S') (dL: ∀k,S' k→S i k∨(w.heap.size≤k∧k<w'.heap.size)):bd (a.set i h'++b) w':=by
 have cK:i<a.length:=(adJ.1 hi).1;have:=h.step i h0 h' (by rw [adO cK];exact hi) hw S' iZ s9 hp dL;rw [List.set_append_left _ _ cK]at this;exact⟨_,this⟩
theorem bd.U6{acc hp Fs:List HP}{w:World}(h:bd (acc++(hp++Fs)) w)(i:Nat)(c:HP)(hi:hp[i]? =some c):
  bd ((acc++[c])++(hp.set i HP.emp++Fs)) w:=by
 have cK:i<hp.length:=(adJ.1 hi).1;refine h.rI (fun j=>if j<acc.length then some j else if j=acc.length then some (acc.length+i)else if j=acc.length+1+i then none else some (j - 1)) ?_ ?_
 ·intro j x hx;by_cases h1:j<acc.length
  ·right;refine⟨j,by simp [h1],?_⟩;rw [List.append_assoc,adO h1]at hx;rw [adO h1];exact hx
  ·by_cases h2:j=acc.length
   ·right;subst h2;refine⟨acc.length+i,by simp,?_⟩;rw [List.append_assoc,adQ (Nat.le_refl _),Nat.sub_self]at hx;simp only [List.cons_append,List.nil_append,List.getElem?_cons_zero,adK]at hx;subst hx;rw [adQ (by omega),adO (by omega)];rw [show acc.length+i - acc.length=i by omega];exact hi
   ·rw [adQ (by simp;omega)]at hx;simp only [List.length_append,List.length_cons,List.length_nil]at hx;by_cases h3:j=acc.length+1+i
    ·left;subst h3;refine⟨by simp [h1,h2],?_⟩;rw [adO (by simp;omega),show acc.length+1+i - (acc.length+(0+1))=i by omega,List.getElem?_set_self cK]at hx;cases hx;rfl
    ·right;refine⟨j - 1,by simp [h1,h2,h3],?_⟩;rw [adQ (by omega)];rw [List.getElem?_append]at hx ⊢;simp only [List.length_set]at hx;rw [show j - 1 - acc.length=j - (acc.length+(0+1)) by omega];split at hx
     ·rename_i h4;rw [ad_ (by omega)]at hx;rw [if_pos h4];exact hx
     ·rename_i h4;rw [if_neg h4];exact hx
 ·intro j j' k hj ky hl hl';have key: ∀j,(if j<acc.length then some j else if j=acc.length then some (acc.length+i)else if j=acc.length+1+i then none else some (j - 1))=some k→
    (j<acc.length∧k=j)∨(j=acc.length∧k=acc.length+i)∨(acc.length<j∧j≠acc.length+1+i∧k=j - 1):=by
   intro j h;split at h
   ·left;simp at h;omega
   ·split at h
    ·right;left;simp at h;omega
    ·split at h
     ·cases h
     ·right;right;simp at h;omega
  rcases key j hj with h | h | h<;>rcases key j' ky with h' | h' | h'<;>omega
theorem bd.U7{new hp Fs:List HP}{c:HP}{w:World}(h:bd ((c::new)++(hp++Fs)) w)(i:Nat)(hi:i<hp.length):
  bd (new++(hp.set i c++Fs)) w:=by
 refine h.rI (fun j=>if j=new.length+i then some 0 else some (j+1)) ?_ ?_
 ·intro j x hx;right;by_cases h1:j=new.length+i
  ·refine⟨0,by simp [h1],?_⟩;subst h1;rw [adQ (by omega),show new.length+i - new.length=i by omega,adO (by simpa using hi),List.getElem?_set_self hi]at hx;simpa using hx
  ·refine⟨j+1,by simp [h1],?_⟩;rw [List.cons_append,List.getElem?_cons_succ];rw [List.getElem?_append]at hx ⊢;split at hx
   ·rename_i h2;rw [if_pos h2];exact hx
   ·rename_i h2;rw [if_neg h2];rw [List.getElem?_append]at hx ⊢;simp only [List.length_set]at hx;split at hx
    ·rename_i h3;rw [ad_ (by omega)]at hx;rw [if_pos h3];exact hx
    ·rename_i h3;rw [if_neg h3];exact hx
 ·intro j j' k hj ky _ _;split at hj<;>split at ky<;>simp only [adK]at hj ky<;>omega
theorem bd.rot{new hp Fs:List HP}{w:World}(h:bd (new++(hp++Fs)) w):bd ((hp++new)++Fs) w:=by
 refine h.rI (fun j=>if j<hp.length then some (new.length+j)else if j<hp.length+new.length then some (j - hp.length)else some j) ?_ ?_
 ·intro j x hx;right;by_cases h1:j<hp.length
  ·refine⟨new.length+j,by simp [h1],?_⟩;rw [List.append_assoc,adO h1]at hx;rw [adQ (by omega),show new.length+j - new.length=j by omega,adO h1];exact hx
  ·by_cases h2:j<hp.length+new.length
   ·refine⟨j - hp.length,by simp [h1,h2],?_⟩;rw [List.append_assoc,adQ (by omega),adO (by omega)]at hx;rw [adO (by omega)];exact hx
   ·refine⟨j,by simp [h1,h2],?_⟩;rw [List.append_assoc,adQ (by omega),adQ (by omega)]at hx;rw [adQ (by omega),adQ (by omega),show j - new.length - hp.length=j - hp.length - new.length by omega];exact hx
 ·intro j j' k hj ky _ _;have key: ∀j,(if j<hp.length then some (new.length+j)else if j<hp.length+new.length then some (j - hp.length)else some j)=some k→
    (j<hp.length∧k=new.length+j)∨(hp.length≤j∧j<hp.length+new.length∧k=j - hp.length)∨(hp.length+new.length≤j∧k=j):=by
   intro j h;split at h
   ·left;simp at h;omega
   ·split at h
    ·right;left;simp at h;omega
    ·right;right;simp at h;omega
  rcases key j hj with h | h | h<;>rcases key j' ky with h' | h' | h'<;>omega
def blank(hp:List HP)(use:List Nat):List HP:=use.foldl (fun h i=>h.set i HP.emp) hp
theorem kV(use:List Nat): ∀hp:List HP,(blank hp use).length=hp.length:=by
 induction use with
 | nil=>intro hp;rfl
 | cons i r ih=>intro hp;show(blank (hp.set i HP.emp) r).length=_;rw [ih];simp
theorem AT(use:List Nat): ∀(hp:List HP) (i:Nat) (c:HP),i ∉ use→blank (hp.set i c) use=(blank hp use).set i c:=by
 induction use with
 | nil=>intro hp i c _;rfl
 | cons j r ih=>
  intro hp i c hi;simp only [List.mem_cons,not_or]at hi;show blank ((hp.set i c).set j HP.emp) r=(blank (hp.set j HP.emp) r).set i c;rw [List.set_comm _ _ hi.1,ih _ _ _ hi.2]
theorem bd.tF: ∀{use:List Nat} {acc hp Fs:List HP} {w:World},bd (acc++(hp++Fs)) w→use.Nodup→(∀i∈use,i<hp.length)→
  bd ((acc++use.map (fun i=>hp.getD i HP.emp))++(blank hp use++Fs)) w
 | [],acc,hp,Fs,w,h,_,_=>by simpa [blank] using h
 | i::r,acc,hp,Fs,w,h,fY,cK=>by
  have hi:=cK i adN;rw [List.nodup_cons]at fY;have h1:=h.U6 i (hp.getD i HP.emp) (by rw [List.getD_eq_getElem?_getD];simp [hi]);have h2:=bd.tF (use:=r) h1 fY.2 (fun j hj=>by simpa using cK j (adP _ hj));have e:r.map (fun j=>(hp.set i HP.emp).getD j HP.emp)=r.map (fun j=>hp.getD j HP.emp):=by
   refine List.map_congr_left fun j hj=>?_
   rw [List.getD_eq_getElem?_getD,List.getD_eq_getElem?_getD,ad_];rintro rfl;exact fY.1 hj
  rw [e,List.append_assoc acc]at h2;exact h2
theorem iO: ∀(use:List Nat) (hp new:List HP),use.Nodup→ko HP.emp hp use new=ko HP.emp (blank hp use) use new
 | [],hp,new,_=>rfl
 | i::r,hp,c::cs,fY=>by
  rw [List.nodup_cons]at fY;show ko HP.emp (hp.set i c) r cs=ko HP.emp ((blank (hp.set i HP.emp) r).set i c) r cs;rw [←AT r _ _ _ fY.1,List.set_set];exact iO r _ _ fY.2
 | i::r,hp,[],fY=>by
  rw [List.nodup_cons]at fY;show ko HP.emp (hp.set i HP.emp) r []=ko HP.emp ((blank (hp.set i HP.emp) r).set i HP.emp) r [];rw [←AT r _ _ _ fY.1,List.set_set];exact iO r _ _ fY.2
theorem bd.kK: ∀{use:List Nat} {new hp Fs:List HP} {w:World},bd (new++(hp++Fs)) w→(∀i∈use,i<hp.length)→(∀i∈use,hp[i]? =some HP.emp∨True)→
  bd (ko HP.emp hp use new++Fs) w
 | [],new,hp,Fs,w,h,_,_=>h.rot
 | i::r,c::cs,hp,Fs,w,h,cK,_=>by
  have hi:=cK i adN;exact bd.kK (use:=r) (h.U7 i hi) (fun j hj=>by simpa using cK j (adP _ hj)) fun _ _=> .inr trivial
 | i::r,[],hp,Fs,w,h,cK,_=>by
  have hi:=cK i adN;have h1:=(bd.Ij (a:=[]) h);exact bd.kK (use:=r) (new:=[]) (bd.U7 (new:=[]) h1 i hi) (fun j hj=>by simpa using cK j (adP _ hj)) fun _ _=> .inr trivial
theorem lq{α β:Type}(f:α→β)(e:α): ∀(use:List Nat) (hp new:List α),(ko e hp use new).map f=ko (f e) (hp.map f) use (new.map f)
 | [],hp,new=>by simp [ko]
 | i::r,hp,c::cs=>by simp only [ko,ad1];rw [lq f e r,List.map_set]
 | i::r,hp,[]=>by simp only [ko,List.map_nil];rw [lq f e r,List.map_set];rfl
structure cz.le (c d:cz):Prop where
 b:c.b≤d.b
 v:c.v≤d.v
 i:c.i≤d.i
 a:c.a≤d.a
 bo:c.bo≤d.bo
 p:c.p≤d.p
 r:c.r≤d.r
theorem cz.jS(c d:cz):c.le (c.add d):=by constructor<;>simp [cz.add]
theorem cz.le_refl(c:cz):c.le c:=by constructor<;>exact Nat.le_refl _
section
variable {c d:cz}
theorem E.bg(h:c.le d){e:E}(hs:e.sc c=true):e.sc d=true:=by
 induction e with
 | lit n=>rfl
 | var i=>simp only [E.sc,adX]at*;exact adT hs h.i
 | aw i=>simp only [E.sc,adX]at*;exact adT hs h.a
 | iX a i lF Gz=>simp only [E.sc,ai]at*;exact⟨lF hs.1,Gz hs.2⟩
 | bin o k a b lF rU=>simp only [E.sc,ai]at*;exact⟨lF hs.1,rU hs.2⟩
 | wrap k a ih=>simp only [E.sc]at*;exact ih hs
 | cV a i v lF Gz Xa=>simp only [E.sc,ai]at*;exact⟨⟨lF hs.1.1,Gz hs.1.2⟩,Xa hs.2⟩
 | shift a o lF SB=>simp only [E.sc,ai]at*;exact⟨lF hs.1,SB hs.2⟩
 | BD a o n b lF SB Yv rU=>simp only [E.sc,ai]at*;exact⟨⟨⟨lF hs.1.1.1,SB hs.1.1.2⟩,Yv hs.1.2⟩,rU hs.2⟩
 | kc n a ih=>simp only [E.sc]at*;exact ih hs
 | s5 b=>simp only [E.sc,adX]at*;exact adT hs h.b
 | pk l=>rfl
 | Pl a i lF Gz=>simp only [E.sc,ai]at*;exact⟨lF hs.1,Gz hs.2⟩
 | pF a i s lF Gz Xb=>simp only [E.sc,ai]at*;exact⟨⟨lF hs.1.1,Gz hs.1.2⟩,Xb hs.2⟩
 | Q6 s ih=>simp only [E.sc]at*;exact ih hs
theorem BE.bg(h:c.le d){b:BE}(hs:b.sc c=true):b.sc d=true:=by
 induction b with
 | lit n=>rfl
 | var i=>simp only [BE.sc,adX]at*;exact adT hs h.bo
 | eq a b=>simp only [BE.sc,ai]at*;exact⟨E.bg h hs.1,E.bg h hs.2⟩
 | lt a b=>simp only [BE.sc,ai]at*;exact⟨E.bg h hs.1,E.bg h hs.2⟩
 | le a b=>simp only [BE.sc,ai]at*;exact⟨E.bg h hs.1,E.bg h hs.2⟩
 | nz a=>simp only [BE.sc]at*;exact E.bg h hs
 | Q7 n a b=>simp only [BE.sc,ai]at*;exact⟨E.bg h hs.1,E.bg h hs.2⟩
 | not a ih=>simp only [BE.sc]at*;exact ih hs
 | and a b lF rU=>simp only [BE.sc,ai]at*;exact⟨lF hs.1,rU hs.2⟩
 | or a b lF rU=>simp only [BE.sc,ai]at*;exact⟨lF hs.1,rU hs.2⟩
 | ite x t e Ux O2 O3=>simp only [BE.sc,ai]at*;exact⟨⟨Ux hs.1.1,O2 hs.1.2⟩,O3 hs.2⟩
 | seq a b=>simp only [BE.sc,ai]at*;exact⟨E.bg h hs.1,E.bg h hs.2⟩
theorem JV(h:c.le d){cs:List Cut}(hs:cs.all (Cut.sc c)=true):cs.all (Cut.sc d)=true:=by
 refine adI.2 fun k hk=>?_
 have:=adI.1 hs k hk;simp only [Cut.sc,ai]at this ⊢;refine⟨⟨E.bg h this.1.1,E.bg h this.1.2⟩,?_⟩;cases hm:k.mx with
 | none=>rfl
 | some m=>rw [hm]at this;exact E.bg h this.2
mutual
theorem SV.bg(h:c.le d): ∀{v:SV},v.sc c=true→v.sc d=true
 | .int k e,hs=>by simp only [SV.sc]at*;exact E.bg h hs
 | .bool b,hs=>by simp only [SV.sc]at*;exact BE.bg h hs
 | .dT,_=>rfl
 | .bT,_=>rfl
 | .oh,_=>rfl
 | .s6,_=>rfl
 | .hU,_=>rfl
 | .undef,_=>rfl
 | .ptr b n,hs=>by simp only [SV.sc,adX]at*;exact adT hs h.b
 | .pq b i s n,hs=>by simp only [SV.sc,adX,ai]at*;exact⟨adT hs.1 h.b,E.bg h hs.2⟩
 | .pv v i s n,hs=>by simp only [SV.sc,adX,ai]at*;exact⟨adT hs.1 h.v,E.bg h hs.2⟩
 | .sl b i s n m,hs=>by simp only [SV.sc,adX,ai]at*;exact⟨⟨⟨adT hs.1.1.1 h.b,E.bg h hs.1.1.2⟩,E.bg h hs.1.2⟩,E.bg h hs.2⟩
 | .vv i,hs=>by simp only [SV.sc,adX]at*;exact adT hs h.v
 | .str l,_=>rfl
 | .fn f jB,hs=>by simp only [SV.sc]at*;exact SV.eN h hs
 | .agg cs,hs=>by simp only [SV.sc]at*;exact SV.eN h hs
 | .aX k n a,hs=>by simp only [SV.sc]at*;exact E.bg h hs
 | .j7 vs,hs=>by simp only [SV.sc]at*;exact SV.eN h hs
 | .opt b v,hs=>by simp only [SV.sc,ai]at*;exact⟨BE.bg h hs.1,SV.bg h hs.2⟩
 | .C8 a i,hs=>by simp only [SV.sc]at*;exact E.bg h hs
 | .Jp l,hs=>by simp only [SV.sc,adX]at*;exact adT hs h.b
 | .mp l,hs=>by simp only [SV.sc,adX]at*;exact adT hs h.b
 | .cO e,hs=>by simp only [SV.sc]at*;exact E.bg h hs
 | .Lv e,hs=>by simp only [SV.sc]at*;exact E.bg h hs
 | .kE e,hs=>by simp only [SV.sc]at*;exact E.bg h hs
 | .LV t k e,hs=>by simp only [SV.sc]at*;exact E.bg h hs
 | .Ge b v,hs=>by simp only [SV.sc,ai,adX]at*;exact⟨BE.bg h hs.1,adT hs.2 h.v⟩
 | .iC v cs s,hs=>by simp only [SV.sc,adX,ai]at*;exact⟨adT hs.1 h.v,JV h hs.2⟩
theorem SV.eN(h:c.le d): ∀{l:List SV},SV.pw c l=true→SV.pw d l=true
 | [],_=>rfl
 | v::r,hs=>by simp only [SV.pw,ai]at*;exact⟨SV.bg h hs.1,SV.eN h hs.2⟩
end
theorem bV.bg(h:c.le d){k:bV}(hs:k.sc c=true):k.sc d=true:=by
 simp only [bV.sc,ai]at hs ⊢;refine⟨E.bg h hs.1,?_⟩;have h2:=hs.2;unfold CK.sc at h2 ⊢;split
 ·rename_i l hl;rw [hl]at h2;exact adI.2 fun n hn=>by
   have:=adI.1 h2 n hn;simp only [adX]at this ⊢;exact adT this h.v
 ·rename_i q v hl;rw [hl]at h2;simp only [ai,adX]at h2 ⊢;exact⟨E.bg h h2.1,adT h2.2 h.v⟩
 ·rfl
theorem iP(h:c.le d){aA:List bV}(hs:aA.all (bV.sc c)=true):aA.all (bV.sc d)=true:=
 adI.2 fun k hk=>bV.bg h (adI.1 hs k hk)
theorem Ck.bg(h:c.le d){k:Ck}(hs:k.sc c=true):k.sc d=true:=by
 cases k with
 | emp=>rfl
 | row b w cs=>simp only [Ck.sc,adX,ai]at*;exact⟨adT hs.1 h.b,SV.eN h hs.2⟩
 | cc md v t s n aA=>simp only [Ck.sc,adX,ai]at*;exact⟨⟨adT hs.1.1 h.v,E.bg h hs.1.2⟩,iP h hs.2⟩
 | abs i=>simp only [Ck.sc,adX]at*;exact adT hs h.p
 | kI l r s j=>simp only [Ck.sc,ai,adX]at*;exact⟨adT hs.1 h.b,adT hs.2 h.r⟩
 | JT b=>simp only [Ck.sc,adX]at*;exact adT hs h.b
 | rj b=>simp only [Ck.sc,adX]at*;exact adT hs h.b
 | map b kl ka va z has aA=>simp only [Ck.sc,ai,adX]at*;exact⟨⟨⟨adT hs.1.1.1 h.b,SV.eN h hs.1.1.2⟩,E.bg h hs.1.2⟩,iP h hs.2⟩
 | Ly b l p=>simp only [Ck.sc,adX]at*;exact adT hs h.b
 | H7 b t e n a=>simp only [Ck.sc,adX,ai]at*;exact⟨⟨adT hs.1.1 h.b,E.bg h hs.1.2⟩,E.bg h hs.2⟩
 | ni b kl ka va z es=>simp only [Ck.sc,ai,adX]at*;exact⟨⟨adT hs.1.1 h.b,SV.eN h hs.1.2⟩,adI.2 fun e he=>SV.eN h (adI.1 hs.2 e he)⟩
theorem im(h:c.le d){hp:List Ck}(hs:hp.all (Ck.sc c)=true):hp.all (Ck.sc d)=true:=
 adI.2 fun k hk=>Ck.bg h (adI.1 hs k hk)
theorem cD(h:c.le d){fr:List (Nat×SV)}(hs:kW c fr=true):kW d fr=true:=
 adI.2 fun k hk=>SV.bg h (adI.1 hs k hk)
theorem eO(h:c.le d){l:List BE}(hs:l.all (BE.sc c)=true):l.all (BE.sc d)=true:=
 adI.2 fun k hk=>BE.bg h (adI.1 hs k hk)
end
theorem BW{c:cz}{fr:List (Nat×SV)}(hs:kW c fr=true){s:Nat}{v:SV}(h:look fr s=some v):v.sc c=true:=by
 induction fr with
 | nil=>cases h
 | cons x r ih=>
  obtain⟨t,u⟩:=x;simp only [kW,List.all_cons,ai]at hs;unfold look at h;split at h
  ·cases h;exact hs.1
  ·exact ih hs.2 h
theorem c_{c d:cz}(h:c.le d){ds:List MK}(hs:ds.all (MK.sc c)=true):ds.all (MK.sc d)=true:=
 adI.2 fun k hk=>by
  have:=adI.1 hs k hk;cases k<;>simp only [MK.sc,adX]at* <;>exact adT this h.b
structure HW (Fs:List HP) (w0:World) (st:St) (ρ:Env) (w:World):Prop where
 lens:gg ρ st.aQ
 kz:kW st.aQ st.fr=true
 fg:st.hp.all (Ck.sc st.aQ)=true
 nE:st.known.all (BE.sc st.aQ)=true
 kn: ∀b∈st.known,b.prop ρ
 own:bd (st.hp.map (Ck.den ρ)++Fs) w
 same:fQ w0 w
 lu:st.nt.ds.all (MK.sc st.aQ)=true
noncomputable def MK.blocks(ρ:Env):MK→List Nat
 | .one b=>[ρ.bv.getD b 0]
 | .many b=>pG (ρ.bv.getD b 0)
noncomputable def marks(ρ:Env)(ds:List MK):List Deferred:=(ds.flatMap (MK.blocks ρ)).map fun b=>{target:= .collected b,args:= #[]}
structure HA (fr:List (Nat×SV)) (nt:NT) (ρ:Env) (a:Act):Prop where
 defers:a.defers=marks ρ nt.ds
 size:nt.n≤a.tmps.size
 aV: ∀s v,look fr s=some v→a.tmps.getD s undef=v.val ρ
def resume:Exit→List KI→Option (List KI)
 | .normal,k=>some k
 | .exit id,k=>dc id k
 | .ret,k=>gj k
 | _,_=>none
section
variable (P:Program) (C:Ctx) (ao:Value→List HP→Prop) (Fs:List HP) (w0:World)
def At(n:Nat)(k:List KI)(Ik:Env)(Lb:Nat→LC)(a:Act)(w:World):Prop:=
 ∃m,m<n∧∃st ρ L,Env.Le Ik ρ∧(∀j,j<nl k→L j=Lb j)∧HW Fs w0 st ρ w∧HA st.fr st.nt ρ a∧VC P ao (run C m k st) ρ L
def QK(n:Nat)(k:List KI)(Ik:Env)(Lb:Nat→LC)(e:Exit)(a:Act)(w:World):Prop:=
 ∃k',resume e k=some k'∧At P C ao Fs w0 n k' Ik Lb a w
end
theorem gD: ∀{id:Nat} {k k':List KI},dc id k=some k'→nl k'≤nl k
 | id,[],k',h=>by simp [dc]at h
 | id,.s5 i::k,k',h=>by
  unfold dc at h;split at h
  ·cases h;exact Nat.le_refl _
  ·exact gD (k:=k) h
 | id,.code _::k,k',h=>gD (k:=k) h
 | id,.gh _::k,k',h=>gD (k:=k) h
 | id,.again _::k,k',h=>gD (k:=k) h
 | id,.ops .. ::k,k',h=>gD (k:=k) h
 | id,.loop .. ::k,k',h=>Nat.le_trans (gD (k:=k) h) (Nat.le_succ _)
 | id,.jn i up nt c0 inc fr hp pre::k,k',h=>by
  simp only [dc]at h;split at h
  ·cases h;exact Nat.le_refl _
  ·exact Nat.le_trans (gD (k:=k) h) (Nat.le_succ _)
 | id,.sn .. ::k,k',h=>by simp [dc]at h
 | id,.call .. ::k,k',h=>by simp [dc]at h
 | id,.top .. ::k,k',h=>by simp [dc]at h
 | id,.rf .. ::k,k',h=>by simp [dc]at h
 | id,.begin .. ::k,k',h=>by simp [dc]at h
 | id,.lO .. ::k,k',h=>by simp [dc]at h
 | id,.round .. ::k,k',h=>by simp only [dc]at h;cases h;exact Nat.le_refl _
theorem iQ: ∀{k k':List KI},gj k=some k'→nl k'≤nl k
 | [],k',h=>by simp [gj]at h
 | .s5 i::k,k',h=>iQ (k:=k) h
 | .code _::k,k',h=>iQ (k:=k) h
 | .gh _::k,k',h=>iQ (k:=k) h
 | .again _::k,k',h=>iQ (k:=k) h
 | .ops .. ::k,k',h=>iQ (k:=k) h
 | .loop .. ::k,k',h=>Nat.le_trans (iQ (k:=k) h) (Nat.le_succ _)
 | .jn .. ::k,k',h=>Nat.le_trans (iQ (k:=k) h) (Nat.le_succ _)
 | .sn .. ::k,k',h=>by simp [gj]at h
 | .call .. ::k,k',h=>by simp only [gj]at h;cases h;exact Nat.le_refl _
 | .top .. ::k,k',h=>by simp only [gj]at h;cases h;exact Nat.le_refl _
 | .rf .. ::k,k',h=>by simp only [gj]at h;cases h;exact Nat.le_refl _
 | .round .. ::k,k',h=>by simp only [gj]at h;cases h;exact Nat.le_refl _
 | .begin .. ::k,k',h=>by simp [gj]at h
 | .lO .. ::k,k',h=>by simp [gj]at h
theorem AU{e:Exit}{k k':List KI}(h:resume e k=some k'):nl k'≤nl k:=by
 cases e with
 | normal=>cases h;exact Nat.le_refl _
 | exit id=>exact gD h
 | ret=>exact iQ h
 | goto l=>cases h
 | panic c=>cases h
 | outgrown=>cases h
section
variable {P:Program} {C:Ctx} {ao:Value→List HP→Prop} {Fs:List HP} {w0:World}
theorem At.mono{n n':Nat}{k:List KI}{ρ bC:Env}{L L':Nat→LC}{a:Act}{w:World}(h:At P C ao Fs w0 n k bC L' a w)(hn:n≤n')(Yy:Env.Le ρ bC)
  (hL: ∀j,j<nl k→L' j=L j):At P C ao Fs w0 n' k ρ L a w:=by
 obtain⟨m,hm,st,r,L2,h1,h2,h3⟩:=h;exact⟨m,adT hm hn,st,r,L2,Yy.trans h1,fun j hj=>(h2 j hj).trans (hL j hj),h3⟩
theorem QK.mono{n n':Nat}{k:List KI}{ρ bC:Env}{L L':Nat→LC}{e:Exit}{a:Act}{w:World}(h:QK P C ao Fs w0 n k bC L' e a w)(hn:n≤n')(Yy:Env.Le ρ bC)
  (hL: ∀j,j<nl k→L' j=L j):QK P C ao Fs w0 n' k ρ L e a w:=by
 obtain⟨k',hk,h⟩:=h;exact⟨k',hk,h.mono hn Yy fun j hj=>hL j (adT hj (AU hk))⟩
theorem QK.move{n:Nat}{k k2:List KI}{ρ:Env}{L L2:Nat→LC}{e:Exit}{a:Act}{w:World}(h:QK P C ao Fs w0 n k2 ρ L2 e a w)(hk:resume e k2=resume e k)
  (hL: ∀j,j<nl k→L2 j=L j):QK P C ao Fs w0 n k ρ L e a w:=by
 obtain⟨k',h1,h⟩:=h;rw [hk]at h1;exact⟨k',h1,h.mono (Nat.le_refl _) (Env.Le.refl _) fun j hj=>hL j (adT hj (AU h1))⟩
variable {F:Fence} {n:Nat} {ops:Array Oper}
theorem Oper.yC{o:Oper}{a:Act}{w:World}{K K':Act→World→Prop}{Q Q':Exit→Act→World→Prop}(h: ∀a w,K a w→K' a w)(hq: ∀e a w,Q e a w→Q' e a w)
  (hh:o.wpIn F n P a w K Q):o.wpIn F n P a w K' Q':=by
 unfold Oper.wpIn at*;refine⟨hh.1,?_⟩;have hh:=hh.2;have JW:LetsOut Q→LetsOut Q':=fun⟨a,w,h⟩=>⟨a,w,hq _ _ _ h⟩
 generalize (o.semAt F.round a.eval).run P w=r at*;cases r with
 | ok x w'=>
  cases x<;>simp only [Oper.uponIn]at hh ⊢ <;>
   first
    | exact h _ _ hh
    | exact⟨hh.1,CallsIn.mono hh.2 (fun e U8 he=>by cases e<;>first | exact h _ _ he | exact hq _ _ _ he | exact JW he)⟩
    | exact⟨hh.1,RowsIn.mono hh.2 (fun _ _ he=>h _ _ he)⟩
    | exact⟨hh.1,RoundIn.mono hh.2 (fun e U8 he=>by cases e<;>first | exact h _ _ he | exact hq _ _ _ he | exact JW he)⟩
 | halt x w'=>cases x<;>simp only [Oper.uponIn]at hh ⊢ <;>first | exact hq _ _ _ hh | exact hh
theorem eY{Q Q':Exit→Act→World→Prop}(hq: ∀e a w,Q e a w→Q' e a w): ∀{l:List Oper} {a:Act} {w:World},wpListIn F n P ops Q l a w→wpListIn F n P ops Q' l a w
 | [],a,w,h=>hq _ _ _ h
 | o::r,a,w,h=>by
  unfold wpListIn at*;split
  ·rename_i hw;rw [if_pos hw]at h;exact Oper.yC (fun a w=>eY hq) hq h
  ·rename_i hw;rw [if_neg hw]at h;exact⟨h.1,eY hq h.2⟩
end
end Go.RX
