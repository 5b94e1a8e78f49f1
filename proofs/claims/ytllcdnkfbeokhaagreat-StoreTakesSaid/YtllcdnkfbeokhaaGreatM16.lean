/- Executor. -/
import Derived.Test.YtllcdnkfbeokhaaGreatM15
import Derived.Sort.LoopGhostIn
open Bool renaming and_eq_true → ai
open List renaming all_eq_true → aqn, getD_eq_getElem?_getD → aqN, getElem?_append_left → aqs, getElem?_append_right → aqt, getElem?_eq_some_iff → aqo, getElem?_set_ne → aqO, length_append → aql, map_cons → aqP, mem_cons_of_mem → aqv, mem_cons_self → aqr
open Nat renaming blt_eq → aqB, le_succ → aqZ, lt_of_lt_of_le → aqz
open Option.some renaming injEq → aqp
namespace Go.RX
theorem bG.ue{hs kT:List HP}{w:World}(h:bG hs w)(f:Nat→Option Nat)
  (he: ∀(j:Nat) x,kT[j]? =some x→(f j=none∧x=HP.emp)∨∃i,f j=some i∧hs[i]? =some x)
  (hinj: ∀(j j' i:Nat),f j=some i→f j'=some i→j<kT.length→j'<kT.length→j=j'):bG kT w:=by
 obtain⟨S,hS⟩:=h;refine⟨fun j k=>match f j with | some i=>S i k | none=>False,⟨?_,?_⟩⟩
 ·intro j x hx;rcases he j x hx with⟨hf,rfl⟩ | ⟨i,hf,hi⟩
  ·simp only [hf];exact⟨fun k hk=>hk,fun k hk=>hk.elim⟩
  ·simp only [hf];exact hS.at_ i x hi
 ·intro j j' x y fg hx hy hw k;rcases he j x hx with⟨hf,rfl⟩ | ⟨i,hf,hi⟩
  ·simp only [hf];exact fun h=>h.elim
  ·rcases he j' y hy with⟨DY,rfl⟩ | ⟨i',DY,dy⟩
   ·simp only [DY];exact fun _ h=>h
   ·simp only [hf,DY];refine hS.apart i i' x y ?_ hi dy hw k;intro e;subst e;exact fg (hinj j j' i hf DY (aqo.1 hx).1 (aqo.1 hy).1)
theorem bG.Il{a b:List HP}{w:World}(h:bG (a++b) w):bG (a++[HP.emp]++b) w:=by
 refine h.ue (fun j=>if j<a.length then some j else if j=a.length then none else some (j - 1)) ?_ ?_
 ·intro j x hx;by_cases h1:j<a.length
  ·right;refine⟨j,by simp [h1],?_⟩;rw [List.append_assoc,aqs h1]at hx;rw [aqs h1];exact hx
  ·by_cases h2:j=a.length
   ·left;subst h2;refine⟨by simp,?_⟩;simp at hx;exact hx.symm
   ·right;refine⟨j - 1,by simp [h1,h2],?_⟩;rw [aqt (by simp;omega)]at hx;rw [aqt (by omega)];simp only [aql,List.length_cons,List.length_nil]at hx;rw [show j - 1 - a.length=j - (a.length+(0+1)) by omega];exact hx
 ·intro j j' i hj lO _ _;split at hj<;>split at lO
  ·simp_all
  ·split at lO
   ·cases lO
   ·simp only [aqp]at hj lO;omega
  ·split at hj
   ·cases hj
   ·simp only [aqp]at hj lO;omega
  ·split at hj
   ·cases hj
   ·split at lO
    ·cases lO
    ·simp only [aqp]at hj lO;omega
theorem Rh{α:Type}(a b:List α)(x y:α):(a++[x]++b).set a.length y=a++[y]++b:=by
 simp
theorem bG.add{a b:List HP}{w w':World}(h:bG (a++b) w)(h':HP)(S':Nat→Prop)(jY:w.heap.size≤w'.heap.size)
  (tB: ∀k,k<w.heap.size→w'.heap[k]? =w.heap[k]?) (hp:h'.p w' S') (eJ: ∀k,S' k→w.heap.size≤k∧k<w'.heap.size):bG (a++[h']++b) w':=by
 obtain⟨S,hS⟩:=h.Il;have:=hS.new a.length h' (by simp) S' jY tB hp eJ;rw [Rh]at this;exact⟨_,this⟩
theorem bG.step{a b:List HP}{w w':World}{S:Nat→Nat→Prop}(h:Sep (a++b) S w)(i:Nat)(h0 h':HP)(hi:a[i]? =some h0)(hw:h0.wr=true)
  (S':Nat→Prop) (jY:w.heap.size≤w'.heap.size) (tB: ∀k,k<w.heap.size→¬S i k→w'.heap[k]? =w.heap[k]?)
  (hp:h'.p w' S') (eJ: ∀k,S' k→S i k∨(w.heap.size≤k∧k<w'.heap.size)):bG (a.set i h'++b) w':=by
 have cq:i<a.length:=(aqo.1 hi).1;have:=h.step i h0 h' (by rw [aqs cq];exact hi) hw S' jY tB hp eJ;rw [List.set_append_left _ _ cq]at this;exact⟨_,this⟩
theorem bG.Zg{acc hp Fs:List HP}{w:World}(h:bG (acc++(hp++Fs)) w)(i:Nat)(c:HP)(hi:hp[i]? =some c):
  bG ((acc++[c])++(hp.set i HP.emp++Fs)) w:=by
 have cq:i<hp.length:=(aqo.1 hi).1;refine h.ue (fun j=>if j<acc.length then some j else if j=acc.length then some (acc.length+i)else if j=acc.length+1+i then none else some (j - 1)) ?_ ?_
 ·intro j x hx;by_cases h1:j<acc.length
  ·right;refine⟨j,by simp [h1],?_⟩;rw [List.append_assoc,aqs h1]at hx;rw [aqs h1];exact hx
  ·by_cases h2:j=acc.length
   ·right;subst h2;refine⟨acc.length+i,by simp,?_⟩;rw [List.append_assoc,aqt (Nat.le_refl _),Nat.sub_self]at hx;simp only [List.cons_append,List.nil_append,List.getElem?_cons_zero,aqp]at hx;subst hx;rw [aqt (by omega),aqs (by omega)];rw [show acc.length+i - acc.length=i by omega];exact hi
   ·rw [aqt (by simp;omega)]at hx;simp only [aql,List.length_cons,List.length_nil]at hx;by_cases h3:j=acc.length+1+i
    ·left;subst h3;refine⟨by simp [h1,h2],?_⟩;rw [aqs (by simp;omega),show acc.length+1+i - (acc.length+(0+1))=i by omega,List.getElem?_set_self cq]at hx;cases hx;rfl
    ·right;refine⟨j - 1,by simp [h1,h2,h3],?_⟩;rw [aqt (by omega)];rw [List.getElem?_append]at hx ⊢;simp only [List.length_set]at hx;rw [show j - 1 - acc.length=j - (acc.length+(0+1)) by omega];split at hx
     ·rename_i h4;rw [aqO (by omega)]at hx;rw [if_pos h4];exact hx
     ·rename_i h4;rw [if_neg h4];exact hx
 ·intro j j' k hj lO hl LD;have key: ∀j,(if j<acc.length then some j else if j=acc.length then some (acc.length+i)else if j=acc.length+1+i then none else some (j - 1))=some k→
    (j<acc.length∧k=j)∨(j=acc.length∧k=acc.length+i)∨(acc.length<j∧j≠acc.length+1+i∧k=j - 1):=by
   intro j h;split at h
   ·left;simp at h;omega
   ·split at h
    ·right;left;simp at h;omega
    ·split at h
     ·cases h
     ·right;right;simp at h;omega
  rcases key j hj with h | h | h<;>rcases key j' lO with h' | h' | h'<;>omega
theorem bG.Zh{new hp Fs:List HP}{c:HP}{w:World}(h:bG ((c::new)++(hp++Fs)) w)(i:Nat)(hi:i<hp.length):
  bG (new++(hp.set i c++Fs)) w:=by
 refine h.ue (fun j=>if j=new.length+i then some 0 else some (j+1)) ?_ ?_
 ·intro j x hx;right;by_cases h1:j=new.length+i
  ·refine⟨0,by simp [h1],?_⟩;subst h1;rw [aqt (by omega),show new.length+i - new.length=i by omega,aqs (by simpa using hi),List.getElem?_set_self hi]at hx;simpa using hx
  ·refine⟨j+1,by simp [h1],?_⟩;rw [List.cons_append,List.getElem?_cons_succ];rw [List.getElem?_append]at hx ⊢;split at hx
   ·rename_i h2;rw [if_pos h2];exact hx
   ·rename_i h2;rw [if_neg h2];rw [List.getElem?_append]at hx ⊢;simp only [List.length_set]at hx;split at hx
    ·rename_i h3;rw [aqO (by omega)]at hx;rw [if_pos h3];exact hx
    ·rename_i h3;rw [if_neg h3];exact hx
 ·intro j j' k hj lO _ _;split at hj<;>split at lO<;>simp only [aqp]at hj lO<;>omega
theorem bG.rot{new hp Fs:List HP}{w:World}(h:bG (new++(hp++Fs)) w):bG ((hp++new)++Fs) w:=by
 refine h.ue (fun j=>if j<hp.length then some (new.length+j)else if j<hp.length+new.length then some (j - hp.length)else some j) ?_ ?_
 ·intro j x hx;right;by_cases h1:j<hp.length
  ·refine⟨new.length+j,by simp [h1],?_⟩;rw [List.append_assoc,aqs h1]at hx;rw [aqt (by omega),show new.length+j - new.length=j by omega,aqs h1];exact hx
  ·by_cases h2:j<hp.length+new.length
   ·refine⟨j - hp.length,by simp [h1,h2],?_⟩;rw [List.append_assoc,aqt (by omega),aqs (by omega)]at hx;rw [aqs (by omega)];exact hx
   ·refine⟨j,by simp [h1,h2],?_⟩;rw [List.append_assoc,aqt (by omega),aqt (by omega)]at hx;rw [aqt (by omega),aqt (by omega),show j - new.length - hp.length=j - hp.length - new.length by omega];exact hx
 ·intro j j' k hj lO _ _;have key: ∀j,(if j<hp.length then some (new.length+j)else if j<hp.length+new.length then some (j - hp.length)else some j)=some k→
    (j<hp.length∧k=new.length+j)∨(hp.length≤j∧j<hp.length+new.length∧k=j - hp.length)∨(hp.length+new.length≤j∧k=j):=by
   intro j h;split at h
   ·left;simp at h;omega
   ·split at h
    ·right;left;simp at h;omega
    ·right;right;simp at h;omega
  rcases key j hj with h | h | h<;>rcases key j' lO with h' | h' | h'<;>omega
def blank(hp:List HP)(use:List Nat):List HP:=use.foldl (fun h i=>h.set i HP.emp) hp
theorem lV(use:List Nat): ∀hp:List HP,(blank hp use).length=hp.length:=by
 induction use with
 | nil=>intro hp;rfl
 | cons i r ih=>intro hp;show(blank (hp.set i HP.emp) r).length=_;rw [ih];simp
theorem Bf(use:List Nat): ∀(hp:List HP) (i:Nat) (c:HP),i ∉ use→blank (hp.set i c) use=(blank hp use).set i c:=by
 induction use with
 | nil=>intro hp i c _;rfl
 | cons j r ih=>
  intro hp i c hi;simp only [List.mem_cons,not_or]at hi;show blank ((hp.set i c).set j HP.emp) r=(blank (hp.set j HP.emp) r).set i c;rw [List.set_comm _ _ hi.1,ih _ _ _ hi.2]
theorem bG.ug: ∀{use:List Nat} {acc hp Fs:List HP} {w:World},bG (acc++(hp++Fs)) w→use.Nodup→(∀i∈use,i<hp.length)→
  bG ((acc++use.map (fun i=>hp.getD i HP.emp))++(blank hp use++Fs)) w
 | [],acc,hp,Fs,w,h,_,_=>by simpa [blank] using h
 | i::r,acc,hp,Fs,w,h,gV,cq=>by
  have hi:=cq i aqr;rw [List.nodup_cons]at gV;have h1:=h.Zg i (hp.getD i HP.emp) (by rw [aqN];simp [hi]);have h2:=bG.ug (use:=r) h1 gV.2 (fun j hj=>by simpa using cq j (aqv _ hj));have e:r.map (fun j=>(hp.set i HP.emp).getD j HP.emp)=r.map (fun j=>hp.getD j HP.emp):=by
   refine List.map_congr_left fun j hj=>?_
   rw [aqN,aqN,aqO];rintro rfl;exact gV.1 hj
  rw [e,List.append_assoc acc]at h2;exact h2
theorem jK: ∀(use:List Nat) (hp new:List HP),use.Nodup→lp HP.emp hp use new=lp HP.emp (blank hp use) use new
 | [],hp,new,_=>rfl
 | i::r,hp,c::cs,gV=>by
  rw [List.nodup_cons]at gV;show lp HP.emp (hp.set i c) r cs=lp HP.emp ((blank (hp.set i HP.emp) r).set i c) r cs;rw [←Bf r _ _ _ gV.1,List.set_set];exact jK r _ _ gV.2
 | i::r,hp,[],gV=>by
  rw [List.nodup_cons]at gV;show lp HP.emp (hp.set i HP.emp) r []=lp HP.emp ((blank (hp.set i HP.emp) r).set i HP.emp) r [];rw [←Bf r _ _ _ gV.1,List.set_set];exact jK r _ _ gV.2
theorem bG.lI: ∀{use:List Nat} {new hp Fs:List HP} {w:World},bG (new++(hp++Fs)) w→(∀i∈use,i<hp.length)→(∀i∈use,hp[i]? =some HP.emp∨True)→
  bG (lp HP.emp hp use new++Fs) w
 | [],new,hp,Fs,w,h,_,_=>h.rot
 | i::r,c::cs,hp,Fs,w,h,cq,_=>by
  have hi:=cq i aqr;exact bG.lI (use:=r) (h.Zh i hi) (fun j hj=>by simpa using cq j (aqv _ hj)) fun _ _=> .inr trivial
 | i::r,[],hp,Fs,w,h,cq,_=>by
  have hi:=cq i aqr;have h1:=(bG.Il (a:=[]) h);exact bG.lI (use:=r) (new:=[]) (bG.Zh (new:=[]) h1 i hi) (fun j hj=>by simpa using cq j (aqv _ hj)) fun _ _=> .inr trivial
theorem mv{α β:Type}(f:α→β)(e:α): ∀(use:List Nat) (hp new:List α),(lp e hp use new).map f=lp (f e) (hp.map f) use (new.map f)
 | [],hp,new=>by simp [lp]
 | i::r,hp,c::cs=>by simp only [lp,aqP];rw [mv f e r,List.map_set]
 | i::r,hp,[]=>by simp only [lp,List.map_nil];rw [mv f e r,List.map_set];rfl
structure ct.le (c d:ct):Prop where
 b:c.b≤d.b
 v:c.v≤d.v
 i:c.i≤d.i
 a:c.a≤d.a
 bo:c.bo≤d.bo
 p:c.p≤d.p
 r:c.r≤d.r
theorem ct.kO(c d:ct):c.le (c.add d):=by constructor<;>simp [ct.add]
theorem ct.le_refl(c:ct):c.le c:=by constructor<;>exact Nat.le_refl _
section
variable {c d:ct}
theorem E.a_(h:c.le d){e:E}(hs:e.sc c=true):e.sc d=true:=by
 induction e with
 | lit n=>rfl
 | var i=>simp only [E.sc,aqB]at*;exact aqz hs h.i
 | cI i=>simp only [E.sc,aqB]at*;exact aqz hs h.a
 | Qk a i lC Gu=>simp only [E.sc,ai]at*;exact⟨lC hs.1,Gu hs.2⟩
 | bin o k a b lC qj=>simp only [E.sc,ai]at*;exact⟨lC hs.1,qj hs.2⟩
 | wrap k a ih=>simp only [E.sc]at*;exact ih hs
 | m7 a i v lC Gu ihv=>simp only [E.sc,ai]at*;exact⟨⟨lC hs.1.1,Gu hs.1.2⟩,ihv hs.2⟩
 | shift a o lC UX=>simp only [E.sc,ai]at*;exact⟨lC hs.1,UX hs.2⟩
 | jl a o n b lC UX ihn qj=>simp only [E.sc,ai]at*;exact⟨⟨⟨lC hs.1.1.1,UX hs.1.1.2⟩,ihn hs.1.2⟩,qj hs.2⟩
 | kc n a ih=>simp only [E.sc]at*;exact ih hs
 | sA b=>simp only [E.sc,aqB]at*;exact aqz hs h.b
 | pV l=>rfl
 | QU a i lC Gu=>simp only [E.sc,ai]at*;exact⟨lC hs.1,Gu hs.2⟩
 | qi a i s lC Gu ihs=>simp only [E.sc,ai]at*;exact⟨⟨lC hs.1.1,Gu hs.1.2⟩,ihs hs.2⟩
 | TB s ih=>simp only [E.sc]at*;exact ih hs
theorem BE.a_(h:c.le d){b:BE}(hs:b.sc c=true):b.sc d=true:=by
 induction b with
 | lit n=>rfl
 | var i=>simp only [BE.sc,aqB]at*;exact aqz hs h.bo
 | eq a b=>simp only [BE.sc,ai]at*;exact⟨E.a_ h hs.1,E.a_ h hs.2⟩
 | lt a b=>simp only [BE.sc,ai]at*;exact⟨E.a_ h hs.1,E.a_ h hs.2⟩
 | le a b=>simp only [BE.sc,ai]at*;exact⟨E.a_ h hs.1,E.a_ h hs.2⟩
 | nz a=>simp only [BE.sc]at*;exact E.a_ h hs
 | TC n a b=>simp only [BE.sc,ai]at*;exact⟨E.a_ h hs.1,E.a_ h hs.2⟩
 | not a ih=>simp only [BE.sc]at*;exact ih hs
 | and a b lC qj=>simp only [BE.sc,ai]at*;exact⟨lC hs.1,qj hs.2⟩
 | or a b lC qj=>simp only [BE.sc,ai]at*;exact⟨lC hs.1,qj hs.2⟩
 | ite x t e YP FL FM=>simp only [BE.sc,ai]at*;exact⟨⟨YP hs.1.1,FL hs.1.2⟩,FM hs.2⟩
 | seq a b=>simp only [BE.sc,ai]at*;exact⟨E.a_ h hs.1,E.a_ h hs.2⟩
 | BP i=>simp only [BE.sc,aqB]at*;exact aqz hs h.v
theorem JX(h:c.le d){cs:List Cut}(hs:cs.all (Cut.sc c)=true):cs.all (Cut.sc d)=true:=by
 refine aqn.2 fun k hk=>?_
 have:=aqn.1 hs k hk;simp only [Cut.sc,ai]at this ⊢;refine⟨⟨E.a_ h this.1.1,E.a_ h this.1.2⟩,?_⟩;cases hm:k.mx with
 | none=>rfl
 | some m=>rw [hm]at this;exact E.a_ h this.2
mutual
theorem SV.a_(h:c.le d): ∀{v:SV},v.sc c=true→v.sc d=true
 | .int k e,hs=>by simp only [SV.sc]at*;exact E.a_ h hs
 | .bool b,hs=>by simp only [SV.sc]at*;exact BE.a_ h hs
 | .cg,_=>rfl
 | .bu,_=>rfl
 | .jS,_=>rfl
 | .ov,_=>rfl
 | .m9,_=>rfl
 | .undef,_=>rfl
 | .ptr b n,hs=>by simp only [SV.sc,aqB]at*;exact aqz hs h.b
 | .pX b i s n,hs=>by simp only [SV.sc,aqB,ai]at*;exact⟨aqz hs.1 h.b,E.a_ h hs.2⟩
 | .pv v i s n,hs=>by simp only [SV.sc,aqB,ai]at*;exact⟨aqz hs.1 h.v,E.a_ h hs.2⟩
 | .sl b i s n m,hs=>by simp only [SV.sc,aqB,ai]at*;exact⟨⟨⟨aqz hs.1.1.1 h.b,E.a_ h hs.1.1.2⟩,E.a_ h hs.1.2⟩,E.a_ h hs.2⟩
 | .vv i,hs=>by simp only [SV.sc,aqB]at*;exact aqz hs h.v
 | .str l,_=>rfl
 | .fn f iR,hs=>by simp only [SV.sc]at*;exact SV.fb h hs
 | .fm f iR,hs=>by simp only [SV.sc]at*;exact SV.fb h hs
 | .agg cs,hs=>by simp only [SV.sc]at*;exact SV.fb h hs
 | .cQ k n a,hs=>by simp only [SV.sc]at*;exact E.a_ h hs
 | .nO vs,hs=>by simp only [SV.sc]at*;exact SV.fb h hs
 | .opt b v,hs=>by simp only [SV.sc,ai]at*;exact⟨BE.a_ h hs.1,SV.a_ h hs.2⟩
 | .Dx a i,hs=>by simp only [SV.sc]at*;exact E.a_ h hs
 | .Jq l,hs=>by simp only [SV.sc,aqB]at*;exact aqz hs h.b
 | .mp l,hs=>by simp only [SV.sc,aqB]at*;exact aqz hs h.b
 | .ji e,hs=>by simp only [SV.sc]at*;exact E.a_ h hs
 | .Ia e,hs=>by simp only [SV.sc]at*;exact E.a_ h hs
 | .lD e,hs=>by simp only [SV.sc]at*;exact E.a_ h hs
 | .Mk t k e,hs=>by simp only [SV.sc]at*;exact E.a_ h hs
 | .QV t l k,hs=>by simp only [SV.sc,aqB]at*;exact aqz hs h.b
 | .Ml v i s c' n,hs=>by simp only [SV.sc,ai,aqB]at*;exact⟨aqz hs.1 h.v,E.a_ h hs.2⟩
 | .Ga b v,hs=>by simp only [SV.sc,ai,aqB]at*;exact⟨BE.a_ h hs.1,aqz hs.2 h.v⟩
 | .jo v cs s,hs=>by simp only [SV.sc,aqB,ai]at*;exact⟨aqz hs.1 h.v,JX h hs.2⟩
theorem SV.fb(h:c.le d): ∀{l:List SV},SV.pN c l=true→SV.pN d l=true
 | [],_=>rfl
 | v::r,hs=>by simp only [SV.pN,ai]at*;exact⟨SV.a_ h hs.1,SV.fb h hs.2⟩
end
theorem bL.a_(h:c.le d){k:bL}(hs:k.sc c=true):k.sc d=true:=by
 simp only [bL.sc,ai]at hs ⊢;refine⟨E.a_ h hs.1,?_⟩;have h2:=hs.2;unfold CK.sc at h2 ⊢;split
 ·rename_i l hl;rw [hl]at h2;exact aqn.2 fun n hn=>by
   have:=aqn.1 h2 n hn;simp only [aqB]at this ⊢;exact aqz this h.v
 ·rename_i q v hl;rw [hl]at h2;simp only [ai,aqB]at h2 ⊢;exact⟨E.a_ h h2.1,aqz h2.2 h.v⟩
 ·rfl
theorem jL(h:c.le d){ay:List bL}(hs:ay.all (bL.sc c)=true):ay.all (bL.sc d)=true:=
 aqn.2 fun k hk=>bL.a_ h (aqn.1 hs k hk)
theorem Ck.a_(h:c.le d){k:Ck}(hs:k.sc c=true):k.sc d=true:=by
 cases k with
 | emp=>rfl
 | row b w cs=>simp only [Ck.sc,aqB,ai]at*;exact⟨aqz hs.1 h.b,SV.fb h hs.2⟩
 | cr md v t s n ay=>simp only [Ck.sc,aqB,ai]at*;exact⟨⟨aqz hs.1.1 h.v,E.a_ h hs.1.2⟩,jL h hs.2⟩
 | abs i=>simp only [Ck.sc,aqB]at*;exact aqz hs h.p
 | lG l r s j=>simp only [Ck.sc,ai,aqB]at*;exact⟨aqz hs.1 h.b,aqz hs.2 h.r⟩
 | JV b=>simp only [Ck.sc,aqB]at*;exact aqz hs h.b
 | tY b=>simp only [Ck.sc,aqB]at*;exact aqz hs h.b
 | map b kl ka va z has ay=>simp only [Ck.sc,ai,aqB]at*;exact⟨⟨⟨aqz hs.1.1.1 h.b,SV.fb h hs.1.1.2⟩,E.a_ h hs.1.2⟩,jL h hs.2⟩
 | LH b l p=>simp only [Ck.sc,aqB]at*;exact aqz hs h.b
 | ME b m=>simp only [Ck.sc,ai,aqB]at*;exact⟨aqz hs.1 h.b,aqz hs.2 h.b⟩
 | Ih b t e n a=>simp only [Ck.sc,aqB,ai]at*;exact⟨⟨aqz hs.1.1 h.b,E.a_ h hs.1.2⟩,E.a_ h hs.2⟩
 | tM b kl ka va z es=>simp only [Ck.sc,ai,aqB]at*;exact⟨⟨aqz hs.1.1 h.b,SV.fb h hs.1.2⟩,aqn.2 fun e he=>SV.fb h (aqn.1 hs.2 e he)⟩
theorem ju(h:c.le d){hp:List Ck}(hs:hp.all (Ck.sc c)=true):hp.all (Ck.sc d)=true:=
 aqn.2 fun k hk=>Ck.a_ h (aqn.1 hs k hk)
theorem cP(h:c.le d){fr:List (Nat×SV)}(hs:lW c fr=true):lW d fr=true:=
 aqn.2 fun k hk=>SV.a_ h (aqn.1 hs k hk)
theorem fF(h:c.le d){l:List BE}(hs:l.all (BE.sc c)=true):l.all (BE.sc d)=true:=
 aqn.2 fun k hk=>BE.a_ h (aqn.1 hs k hk)
end
theorem B8{c:ct}{fr:List (Nat×SV)}(hs:lW c fr=true){s:Nat}{v:SV}(h:look fr s=some v):v.sc c=true:=by
 induction fr with
 | nil=>cases h
 | cons x r ih=>
  obtain⟨t,u⟩:=x;simp only [lW,List.all_cons,ai]at hs;unfold look at h;split at h
  ·cases h;exact hs.1
  ·exact ih hs.2 h
theorem dF{c d:ct}(h:c.le d){ds:List MK}(hs:ds.all (MK.sc c)=true):ds.all (MK.sc d)=true:=
 aqn.2 fun k hk=>by
  have:=aqn.1 hs k hk;cases k<;>simp only [MK.sc,aqB]at* <;>exact aqz this h.b
structure HW (Fs:List HP) (w0:World) (st:St) (ρ:Env) (w:World):Prop where
 lens:hG ρ st.aW
 lx:lW st.aW st.fr=true
 gj:st.hp.all (Ck.sc st.aW)=true
 ot:st.known.all (BE.sc st.aW)=true
 kn: ∀b∈st.known,b.prop ρ
 own:bG (st.hp.map (Ck.den ρ)++Fs) w
 same:ic w0 w
 mw:st.nt.ds.all (MK.sc st.aW)=true
noncomputable def MK.blocks(ρ:Env):MK→List Nat
 | .one b=>[ρ.bv.getD b 0]
 | .many b=>qk (ρ.bv.getD b 0)
noncomputable def marks(ρ:Env)(ds:List MK):List Deferred:=(ds.flatMap (MK.blocks ρ)).map fun b=>{target:= .collected b,args:= #[]}
structure HA (fr:List (Nat×SV)) (nt:NT) (ρ:Env) (a:Act):Prop where
 defers:a.defers=marks ρ nt.ds
 size:nt.n≤a.tmps.size
 aU: ∀s v,look fr s=some v→a.tmps.getD s undef=v.val ρ
def resume:Exit→List KI→Option (List KI)
 | .normal,k=>some k
 | .exit id,k=>dL id k
 | .ret,k=>iq k
 | _,_=>none
section
variable (P:Program) (C:Ctx) (al:Value→List HP→Prop) (Fs:List HP) (w0:World)
def At(n:Nat)(k:List KI)(Im:Env)(Lb:Nat→LC)(a:Act)(w:World):Prop:=
 ∃m,m<n∧∃st ρ L,Env.Le Im ρ∧(∀j,j<nl k→L j=Lb j)∧HW Fs w0 st ρ w∧HA st.fr st.nt ρ a∧VC P al (run C m k st) ρ L
def QK(n:Nat)(k:List KI)(Im:Env)(Lb:Nat→LC)(e:Exit)(a:Act)(w:World):Prop:=
 ∃k',resume e k=some k'∧At P C al Fs w0 n k' Im Lb a w
end
theorem iN: ∀{id:Nat} {k k':List KI},dL id k=some k'→nl k'≤nl k
 | id,[],k',h=>by simp [dL]at h
 | id,.sA i::k,k',h=>by
  unfold dL at h;split at h
  ·cases h;exact Nat.le_refl _
  ·exact iN (k:=k) h
 | id,.code _::k,k',h=>iN (k:=k) h
 | id,.gh _::k,k',h=>iN (k:=k) h
 | id,.again _::k,k',h=>iN (k:=k) h
 | id,.ops .. ::k,k',h=>iN (k:=k) h
 | id,.loop .. ::k,k',h=>Nat.le_trans (iN (k:=k) h) (aqZ _)
 | id,.jn i up nt c0 inc fr hp pre::k,k',h=>by
  simp only [dL]at h;split at h
  ·cases h;exact Nat.le_refl _
  ·exact Nat.le_trans (iN (k:=k) h) (aqZ _)
 | id,.sP .. ::k,k',h=>by simp [dL]at h
 | id,.call .. ::k,k',h=>by simp [dL]at h
 | id,.top .. ::k,k',h=>by simp [dL]at h
 | id,.rf .. ::k,k',h=>by simp [dL]at h
 | id,.begin .. ::k,k',h=>by simp [dL]at h
 | id,.mL .. ::k,k',h=>by simp [dL]at h
 | id,.round .. ::k,k',h=>by simp only [dL]at h;cases h;exact Nat.le_refl _
theorem jM: ∀{k k':List KI},iq k=some k'→nl k'≤nl k
 | [],k',h=>by simp [iq]at h
 | .sA i::k,k',h=>jM (k:=k) h
 | .code _::k,k',h=>jM (k:=k) h
 | .gh _::k,k',h=>jM (k:=k) h
 | .again _::k,k',h=>jM (k:=k) h
 | .ops .. ::k,k',h=>jM (k:=k) h
 | .loop .. ::k,k',h=>Nat.le_trans (jM (k:=k) h) (aqZ _)
 | .jn .. ::k,k',h=>Nat.le_trans (jM (k:=k) h) (aqZ _)
 | .sP .. ::k,k',h=>by simp [iq]at h
 | .call .. ::k,k',h=>by simp only [iq]at h;cases h;exact Nat.le_refl _
 | .top .. ::k,k',h=>by simp only [iq]at h;cases h;exact Nat.le_refl _
 | .rf .. ::k,k',h=>by simp only [iq]at h;cases h;exact Nat.le_refl _
 | .round .. ::k,k',h=>by simp only [iq]at h;cases h;exact Nat.le_refl _
 | .begin .. ::k,k',h=>by simp [iq]at h
 | .mL .. ::k,k',h=>by simp [iq]at h
theorem Bg{e:Exit}{k k':List KI}(h:resume e k=some k'):nl k'≤nl k:=by
 cases e with
 | normal=>cases h;exact Nat.le_refl _
 | exit id=>exact iN h
 | ret=>exact jM h
 | goto l=>cases h
 | panic c=>cases h
 | outgrown=>cases h
section
variable {P:Program} {C:Ctx} {al:Value→List HP→Prop} {Fs:List HP} {w0:World}
theorem At.mono{n n':Nat}{k:List KI}{ρ bF:Env}{L L':Nat→LC}{a:Act}{w:World}(h:At P C al Fs w0 n k bF L' a w)(hn:n≤n')(hρ:Env.Le ρ bF)
  (hL: ∀j,j<nl k→L' j=L j):At P C al Fs w0 n' k ρ L a w:=by
 obtain⟨m,hm,st,r,L2,h1,h2,h3⟩:=h;exact⟨m,aqz hm hn,st,r,L2,hρ.trans h1,fun j hj=>(h2 j hj).trans (hL j hj),h3⟩
theorem QK.mono{n n':Nat}{k:List KI}{ρ bF:Env}{L L':Nat→LC}{e:Exit}{a:Act}{w:World}(h:QK P C al Fs w0 n k bF L' e a w)(hn:n≤n')(hρ:Env.Le ρ bF)
  (hL: ∀j,j<nl k→L' j=L j):QK P C al Fs w0 n' k ρ L e a w:=by
 obtain⟨k',hk,h⟩:=h;exact⟨k',hk,h.mono hn hρ fun j hj=>hL j (aqz hj (Bg hk))⟩
theorem QK.move{n:Nat}{k k2:List KI}{ρ:Env}{L L2:Nat→LC}{e:Exit}{a:Act}{w:World}(h:QK P C al Fs w0 n k2 ρ L2 e a w)(hk:resume e k2=resume e k)
  (hL: ∀j,j<nl k→L2 j=L j):QK P C al Fs w0 n k ρ L e a w:=by
 obtain⟨k',h1,h⟩:=h;rw [hk]at h1;exact⟨k',h1,h.mono (Nat.le_refl _) (Env.Le.refl _) fun j hj=>hL j (aqz hj (Bg h1))⟩
variable {F:Fence} {n:Nat} {ops:Array Oper}
theorem Oper.yV{o:Oper}{a:Act}{w:World}{K K':Act→World→Prop}{Q Q':Exit→Act→World→Prop}(h: ∀a w,K a w→K' a w)(hq: ∀e a w,Q e a w→Q' e a w)
  (hh:o.wpIn F n P a w K Q):o.wpIn F n P a w K' Q':=by
 unfold Oper.wpIn at*;refine⟨hh.1,?_⟩;have hh:=hh.2;have Zi:LetsOut Q→LetsOut Q':=fun⟨a,w,h⟩=>⟨a,w,hq _ _ _ h⟩
 generalize (o.semAt F.round a.eval).run P w=r at*;cases r with
 | ok x w'=>
  cases x<;>simp only [Oper.uponIn]at hh ⊢ <;>
   first
    | exact h _ _ hh
    | exact⟨hh.1,CallsIn.mono hh.2 (fun e Zj he=>by cases e<;>first | exact h _ _ he | exact hq _ _ _ he | exact Zi he)⟩
    | exact⟨hh.1,RowsIn.mono hh.2 (fun _ _ he=>h _ _ he)⟩
    | exact⟨hh.1,RoundIn.mono hh.2 (fun e Zj he=>by cases e<;>first | exact h _ _ he | exact hq _ _ _ he | exact Zi he)⟩
 | halt x w'=>cases x<;>simp only [Oper.uponIn]at hh ⊢ <;>first | exact hq _ _ _ hh | exact hh
theorem fT{Q Q':Exit→Act→World→Prop}(hq: ∀e a w,Q e a w→Q' e a w): ∀{l:List Oper} {a:Act} {w:World},wpListIn F n P ops Q l a w→wpListIn F n P ops Q' l a w
 | [],a,w,h=>hq _ _ _ h
 | o::r,a,w,h=>by
  unfold wpListIn at*;split
  ·rename_i hw;rw [if_pos hw]at h;exact Oper.yV (fun a w=>fT hq) hq h
  ·rename_i hw;rw [if_neg hw]at h;exact⟨h.1,fT hq h.2⟩
end
end Go.RX
