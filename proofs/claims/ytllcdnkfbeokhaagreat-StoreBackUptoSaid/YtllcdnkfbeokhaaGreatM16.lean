/- Executor. -/
import Derived.Test.YtllcdnkfbeokhaaGreatM15
import Derived.Sort.LoopGhostIn
open Bool renaming and_eq_true → ai
open List renaming all_eq_true → auo, getD_eq_getElem?_getD → auO, getElem?_append_left → auu, getElem?_append_right → auv, getElem?_eq_some_iff → aup, getElem?_set_ne → auV, length_append → aum, map_cons → auK, mem_cons_of_mem → auw, mem_cons_self → aur
open Nat renaming blt_eq → auF, le_succ → au4, lt_of_lt_of_le → auB
open Option.some renaming injEq → auq
namespace Go.RX
theorem bz.vE{hs lP:List HP}{w:World}(h:bz hs w)(f:Nat→Option Nat)
  (he: ∀(j:Nat) x,lP[j]? =some x→(f j=none∧x=HP.emp)∨∃i,f j=some i∧hs[i]? =some x)
  (hinj: ∀(j j' i:Nat),f j=some i→f j'=some i→j<lP.length→j'<lP.length→j=j'):bz lP w:=by
 obtain⟨S,hS⟩:=h;refine⟨fun j k=>match f j with | some i=>S i k | none=>False,⟨?_,?_⟩⟩
 ·intro j x hx;rcases he j x hx with⟨hf,rfl⟩ | ⟨i,hf,hi⟩
  ·simp only [hf];exact⟨fun k hk=>hk,fun k hk=>hk.elim⟩
  ·simp only [hf];exact hS.at_ i x hi
 ·intro j j' x y fy hx hy hw k;rcases he j x hx with⟨hf,rfl⟩ | ⟨i,hf,hi⟩
  ·simp only [hf];exact fun h=>h.elim
  ·rcases he j' y hy with⟨F6,rfl⟩ | ⟨i',F6,cD⟩
   ·simp only [F6];exact fun _ h=>h
   ·simp only [hf,F6];refine hS.apart i i' x y ?_ hi cD hw k;intro e;subst e;exact fy (hinj j j' i hf F6 (aup.1 hx).1 (aup.1 hy).1)
theorem bz.KE{a b:List HP}{w:World}(h:bz (a++b) w):bz (a++[HP.emp]++b) w:=by
 refine h.vE (fun j=>if j<a.length then some j else if j=a.length then none else some (j - 1)) ?_ ?_
 ·intro j x hx;by_cases h1:j<a.length
  ·right;refine⟨j,by simp [h1],?_⟩;rw [List.append_assoc,auu h1]at hx;rw [auu h1];exact hx
  ·by_cases h2:j=a.length
   ·left;subst h2;refine⟨by simp,?_⟩;simp at hx;exact hx.symm
   ·right;refine⟨j - 1,by simp [h1,h2],?_⟩;rw [auv (by simp;omega)]at hx;rw [auv (by omega)];simp only [aum,List.length_cons,List.length_nil]at hx;rw [show j - 1 - a.length=j - (a.length+(0+1)) by omega];exact hx
 ·intro j j' i hj lq _ _;split at hj<;>split at lq
  ·simp_all
  ·split at lq
   ·cases lq
   ·simp only [auq]at hj lq;omega
  ·split at hj
   ·cases hj
   ·simp only [auq]at hj lq;omega
  ·split at hj
   ·cases hj
   ·split at lq
    ·cases lq
    ·simp only [auq]at hj lq;omega
theorem UM{α:Type}(a b:List α)(x y:α):(a++[x]++b).set a.length y=a++[y]++b:=by
 simp
theorem bz.add{a b:List HP}{w w':World}(h:bz (a++b) w)(h':HP)(S':Nat→Prop)(eZ:w.heap.size≤w'.heap.size)
  (uX: ∀k,k<w.heap.size→w'.heap[k]? =w.heap[k]?) (hp:h'.p w' S') (fi: ∀k,S' k→w.heap.size≤k∧k<w'.heap.size):bz (a++[h']++b) w':=by
 obtain⟨S,hS⟩:=h.KE;have:=hS.new a.length h' (by simp) S' eZ uX hp fi;rw [UM]at this;exact⟨_,this⟩
theorem bz.step{a b:List HP}{w w':World}{S:Nat→Nat→Prop}(h:Sep (a++b) S w)(i:Nat)(h0 h':HP)(hi:a[i]? =some h0)(hw:h0.wr=true)
  (S':Nat→Prop) (eZ:w.heap.size≤w'.heap.size) (uX: ∀k,k<w.heap.size→¬S i k→w'.heap[k]? =w.heap[k]?)
  (hp:h'.p w' S') (fi: ∀k,S' k→S i k∨(w.heap.size≤k∧k<w'.heap.size)):bz (a.set i h'++b) w':=by
 have cF:i<a.length:=(aup.1 hi).1;have:=h.step i h0 h' (by rw [auu cF];exact hi) hw S' eZ uX hp fi;rw [List.set_append_left _ _ cF]at this;exact⟨_,this⟩
theorem bz.acZ{acc hp Fs:List HP}{w:World}(h:bz (acc++(hp++Fs)) w)(i:Nat)(c:HP)(hi:hp[i]? =some c):
  bz ((acc++[c])++(hp.set i HP.emp++Fs)) w:=by
 have cF:i<hp.length:=(aup.1 hi).1;refine h.vE (fun j=>if j<acc.length then some j else if j=acc.length then some (acc.length+i)else if j=acc.length+1+i then none else some (j - 1)) ?_ ?_
 ·intro j x hx;by_cases h1:j<acc.length
  ·right;refine⟨j,by simp [h1],?_⟩;rw [List.append_assoc,auu h1]at hx;rw [auu h1];exact hx
  ·by_cases h2:j=acc.length
   ·right;subst h2;refine⟨acc.length+i,by simp,?_⟩;rw [List.append_assoc,auv (Nat.le_refl _),Nat.sub_self]at hx;simp only [List.cons_append,List.nil_append,List.getElem?_cons_zero,auq]at hx;subst hx;rw [auv (by omega),auu (by omega)];rw [show acc.length+i - acc.length=i by omega];exact hi
   ·rw [auv (by simp;omega)]at hx;simp only [aum,List.length_cons,List.length_nil]at hx;by_cases h3:j=acc.length+1+i
    ·left;subst h3;refine⟨by simp [h1,h2],?_⟩;rw [auu (by simp;omega),show acc.length+1+i - (acc.length+(0+1))=i by omega,List.getElem?_set_self cF]at hx;cases hx;rfl
    ·right;refine⟨j - 1,by simp [h1,h2,h3],?_⟩;rw [auv (by omega)];rw [List.getElem?_append]at hx ⊢;simp only [List.length_set]at hx;rw [show j - 1 - acc.length=j - (acc.length+(0+1)) by omega];split at hx
     ·rename_i h4;rw [auV (by omega)]at hx;rw [if_pos h4];exact hx
     ·rename_i h4;rw [if_neg h4];exact hx
 ·intro j j' k hj lq hl OX;have key: ∀j,(if j<acc.length then some j else if j=acc.length then some (acc.length+i)else if j=acc.length+1+i then none else some (j - 1))=some k→
    (j<acc.length∧k=j)∨(j=acc.length∧k=acc.length+i)∨(acc.length<j∧j≠acc.length+1+i∧k=j - 1):=by
   intro j h;split at h
   ·left;simp at h;omega
   ·split at h
    ·right;left;simp at h;omega
    ·split at h
     ·cases h
     ·right;right;simp at h;omega
  rcases key j hj with h | h | h<;>rcases key j' lq with h' | h' | h'<;>omega
theorem bz.ac0{new hp Fs:List HP}{c:HP}{w:World}(h:bz ((c::new)++(hp++Fs)) w)(i:Nat)(hi:i<hp.length):
  bz (new++(hp.set i c++Fs)) w:=by
 refine h.vE (fun j=>if j=new.length+i then some 0 else some (j+1)) ?_ ?_
 ·intro j x hx;right;by_cases h1:j=new.length+i
  ·refine⟨0,by simp [h1],?_⟩;subst h1;rw [auv (by omega),show new.length+i - new.length=i by omega,auu (by simpa using hi),List.getElem?_set_self hi]at hx;simpa using hx
  ·refine⟨j+1,by simp [h1],?_⟩;rw [List.cons_append,List.getElem?_cons_succ];rw [List.getElem?_append]at hx ⊢;split at hx
   ·rename_i h2;rw [if_pos h2];exact hx
   ·rename_i h2;rw [if_neg h2];rw [List.getElem?_append]at hx ⊢;simp only [List.length_set]at hx;split at hx
    ·rename_i h3;rw [auV (by omega)]at hx;rw [if_pos h3];exact hx
    ·rename_i h3;rw [if_neg h3];exact hx
 ·intro j j' k hj lq _ _;split at hj<;>split at lq<;>simp only [auq]at hj lq<;>omega
theorem bz.rot{new hp Fs:List HP}{w:World}(h:bz (new++(hp++Fs)) w):bz ((hp++new)++Fs) w:=by
 refine h.vE (fun j=>if j<hp.length then some (new.length+j)else if j<hp.length+new.length then some (j - hp.length)else some j) ?_ ?_
 ·intro j x hx;right;by_cases h1:j<hp.length
  ·refine⟨new.length+j,by simp [h1],?_⟩;rw [List.append_assoc,auu h1]at hx;rw [auv (by omega),show new.length+j - new.length=j by omega,auu h1];exact hx
  ·by_cases h2:j<hp.length+new.length
   ·refine⟨j - hp.length,by simp [h1,h2],?_⟩;rw [List.append_assoc,auv (by omega),auu (by omega)]at hx;rw [auu (by omega)];exact hx
   ·refine⟨j,by simp [h1,h2],?_⟩;rw [List.append_assoc,auv (by omega),auv (by omega)]at hx;rw [auv (by omega),auv (by omega),show j - new.length - hp.length=j - hp.length - new.length by omega];exact hx
 ·intro j j' k hj lq _ _;have key: ∀j,(if j<hp.length then some (new.length+j)else if j<hp.length+new.length then some (j - hp.length)else some j)=some k→
    (j<hp.length∧k=new.length+j)∨(hp.length≤j∧j<hp.length+new.length∧k=j - hp.length)∨(hp.length+new.length≤j∧k=j):=by
   intro j h;split at h
   ·left;simp at h;omega
   ·split at h
    ·right;left;simp at h;omega
    ·right;right;simp at h;omega
  rcases key j hj with h | h | h<;>rcases key j' lq with h' | h' | h'<;>omega
def blank(hp:List HP)(use:List Nat):List HP:=use.foldl (fun h i=>h.set i HP.emp) hp
theorem mO(use:List Nat): ∀hp:List HP,(blank hp use).length=hp.length:=by
 induction use with
 | nil=>intro hp;rfl
 | cons i r ih=>intro hp;show(blank (hp.set i HP.emp) r).length=_;rw [ih];simp
theorem CV(use:List Nat): ∀(hp:List HP) (i:Nat) (c:HP),i ∉ use→blank (hp.set i c) use=(blank hp use).set i c:=by
 induction use with
 | nil=>intro hp i c _;rfl
 | cons j r ih=>
  intro hp i c hi;simp only [List.mem_cons,not_or]at hi;show blank ((hp.set i c).set j HP.emp) r=(blank (hp.set j HP.emp) r).set i c;rw [List.set_comm _ _ hi.1,ih _ _ _ hi.2]
theorem bz.vF: ∀{use:List Nat} {acc hp Fs:List HP} {w:World},bz (acc++(hp++Fs)) w→use.Nodup→(∀i∈use,i<hp.length)→
  bz ((acc++use.map (fun i=>hp.getD i HP.emp))++(blank hp use++Fs)) w
 | [],acc,hp,Fs,w,h,_,_=>by simpa [blank] using h
 | i::r,acc,hp,Fs,w,h,iy,cF=>by
  have hi:=cF i aur;rw [List.nodup_cons]at iy;have h1:=h.acZ i (hp.getD i HP.emp) (by rw [auO];simp [hi]);have h2:=bz.vF (use:=r) h1 iy.2 (fun j hj=>by simpa using cF j (auw _ hj));have e:r.map (fun j=>(hp.set i HP.emp).getD j HP.emp)=r.map (fun j=>hp.getD j HP.emp):=by
   refine List.map_congr_left fun j hj=>?_
   rw [auO,auO,auV];rintro rfl;exact iy.1 hj
  rw [e,List.append_assoc acc]at h2;exact h2
theorem kr: ∀(use:List Nat) (hp new:List HP),use.Nodup→mb HP.emp hp use new=mb HP.emp (blank hp use) use new
 | [],hp,new,_=>rfl
 | i::r,hp,c::cs,iy=>by
  rw [List.nodup_cons]at iy;show mb HP.emp (hp.set i c) r cs=mb HP.emp ((blank (hp.set i HP.emp) r).set i c) r cs;rw [←CV r _ _ _ iy.1,List.set_set];exact kr r _ _ iy.2
 | i::r,hp,[],iy=>by
  rw [List.nodup_cons]at iy;show mb HP.emp (hp.set i HP.emp) r []=mb HP.emp ((blank (hp.set i HP.emp) r).set i HP.emp) r [];rw [←CV r _ _ _ iy.1,List.set_set];exact kr r _ _ iy.2
theorem bz.mA: ∀{use:List Nat} {new hp Fs:List HP} {w:World},bz (new++(hp++Fs)) w→(∀i∈use,i<hp.length)→(∀i∈use,hp[i]? =some HP.emp∨True)→
  bz (mb HP.emp hp use new++Fs) w
 | [],new,hp,Fs,w,h,_,_=>h.rot
 | i::r,c::cs,hp,Fs,w,h,cF,_=>by
  have hi:=cF i aur;exact bz.mA (use:=r) (h.ac0 i hi) (fun j hj=>by simpa using cF j (auw _ hj)) fun _ _=> .inr trivial
 | i::r,[],hp,Fs,w,h,cF,_=>by
  have hi:=cF i aur;have h1:=(bz.KE (a:=[]) h);exact bz.mA (use:=r) (new:=[]) (bz.ac0 (new:=[]) h1 i hi) (fun j hj=>by simpa using cF j (auw _ hj)) fun _ _=> .inr trivial
theorem m_{α β:Type}(f:α→β)(e:α): ∀(use:List Nat) (hp new:List α),(mb e hp use new).map f=mb (f e) (hp.map f) use (new.map f)
 | [],hp,new=>by simp [mb]
 | i::r,hp,c::cs=>by simp only [mb,auK];rw [m_ f e r,List.map_set]
 | i::r,hp,[]=>by simp only [mb,List.map_nil];rw [m_ f e r,List.map_set];rfl
structure cG.le (c d:cG):Prop where
 b:c.b≤d.b
 v:c.v≤d.v
 i:c.i≤d.i
 a:c.a≤d.a
 bo:c.bo≤d.bo
 p:c.p≤d.p
 r:c.r≤d.r
theorem cG.lI(c d:cG):c.le (c.add d):=by constructor<;>simp [cG.add]
theorem cG.le_refl(c:cG):c.le c:=by constructor<;>exact Nat.le_refl _
section
variable {c d:cG}
theorem E.bg(h:c.le d){e:E}(hs:e.sc c=true):e.sc d=true:=by
 induction e with
 | lit n=>rfl
 | var i=>simp only [E.sc,auF]at*;exact auB hs h.i
 | cU i=>simp only [E.sc,auF]at*;exact auB hs h.a
 | TN a i mr IS=>simp only [E.sc,ai]at*;exact⟨mr hs.1,IS hs.2⟩
 | bin o k a b mr rz=>simp only [E.sc,ai]at*;exact⟨mr hs.1,rz hs.2⟩
 | wrap k a ih=>simp only [E.sc]at*;exact ih hs
 | nm a i v mr IS ihv=>simp only [E.sc,ai]at*;exact⟨⟨mr hs.1.1,IS hs.1.2⟩,ihv hs.2⟩
 | shift a o mr YM=>simp only [E.sc,ai]at*;exact⟨mr hs.1,YM hs.2⟩
 | jI a o n b mr YM ihn rz=>simp only [E.sc,ai]at*;exact⟨⟨⟨mr hs.1.1.1,YM hs.1.1.2⟩,ihn hs.1.2⟩,rz hs.2⟩
 | kc n a ih=>simp only [E.sc]at*;exact ih hs
 | tS b=>simp only [E.sc,auF]at*;exact auB hs h.b
 | qV l=>rfl
 | Un a i mr IS=>simp only [E.sc,ai]at*;exact⟨mr hs.1,IS hs.2⟩
 | ry a i s mr IS ihs=>simp only [E.sc,ai]at*;exact⟨⟨mr hs.1.1,IS hs.1.2⟩,ihs hs.2⟩
 | Xu s ih=>simp only [E.sc]at*;exact ih hs
theorem BE.bg(h:c.le d){b:BE}(hs:b.sc c=true):b.sc d=true:=by
 induction b with
 | lit n=>rfl
 | var i=>simp only [BE.sc,auF]at*;exact auB hs h.bo
 | eq a b=>simp only [BE.sc,ai]at*;exact⟨E.bg h hs.1,E.bg h hs.2⟩
 | lt a b=>simp only [BE.sc,ai]at*;exact⟨E.bg h hs.1,E.bg h hs.2⟩
 | le a b=>simp only [BE.sc,ai]at*;exact⟨E.bg h hs.1,E.bg h hs.2⟩
 | nz a=>simp only [BE.sc]at*;exact E.bg h hs
 | Xv n a b=>simp only [BE.sc,ai]at*;exact⟨E.bg h hs.1,E.bg h hs.2⟩
 | not a ih=>simp only [BE.sc]at*;exact ih hs
 | and a b mr rz=>simp only [BE.sc,ai]at*;exact⟨mr hs.1,rz hs.2⟩
 | or a b mr rz=>simp only [BE.sc,ai]at*;exact⟨mr hs.1,rz hs.2⟩
 | ite x t e ihx H9 H_=>simp only [BE.sc,ai]at*;exact⟨⟨ihx hs.1.1,H9 hs.1.2⟩,H_ hs.2⟩
 | seq a b=>simp only [BE.sc,ai]at*;exact⟨E.bg h hs.1,E.bg h hs.2⟩
 | DA i=>simp only [BE.sc,auF]at*;exact auB hs h.v
theorem MQ(h:c.le d){cs:List Cut}(hs:cs.all (Cut.sc c)=true):cs.all (Cut.sc d)=true:=by
 refine auo.2 fun k hk=>?_
 have:=auo.1 hs k hk;simp only [Cut.sc,ai]at this ⊢;refine⟨⟨E.bg h this.1.1,E.bg h this.1.2⟩,?_⟩;cases hm:k.mx with
 | none=>rfl
 | some m=>rw [hm]at this;exact E.bg h this.2
mutual
theorem SV.bg(h:c.le d): ∀{v:SV},v.sc c=true→v.sc d=true
 | .int k e,hs=>by simp only [SV.sc]at*;exact E.bg h hs
 | .bool b,hs=>by simp only [SV.sc]at*;exact BE.bg h hs
 | .cu,_=>rfl
 | .bx,_=>rfl
 | .kD,_=>rfl
 | .pf,_=>rfl
 | .nT,_=>rfl
 | .undef,_=>rfl
 | .ptr b n,hs=>by simp only [SV.sc,auF]at*;exact auB hs h.b
 | .qX b i s n,hs=>by simp only [SV.sc,auF,ai]at*;exact⟨auB hs.1 h.b,E.bg h hs.2⟩
 | .pv v i s n,hs=>by simp only [SV.sc,auF,ai]at*;exact⟨auB hs.1 h.v,E.bg h hs.2⟩
 | .sl b i s n m,hs=>by simp only [SV.sc,auF,ai]at*;exact⟨⟨⟨auB hs.1.1.1 h.b,E.bg h hs.1.1.2⟩,E.bg h hs.1.2⟩,E.bg h hs.2⟩
 | .vv i,hs=>by simp only [SV.sc,auF]at*;exact auB hs h.v
 | .str l,_=>rfl
 | .fn f jq,hs=>by simp only [SV.sc]at*;exact SV.fH h hs
 | .fm f jq,hs=>by simp only [SV.sc]at*;exact SV.fH h hs
 | .agg cs,hs=>by simp only [SV.sc]at*;exact SV.fH h hs
 | .dg k n a,hs=>by simp only [SV.sc]at*;exact E.bg h hs
 | .oL vs,hs=>by simp only [SV.sc]at*;exact SV.fH h hs
 | .opt b v,hs=>by simp only [SV.sc,ai]at*;exact⟨BE.bg h hs.1,SV.bg h hs.2⟩
 | .FJ a i,hs=>by simp only [SV.sc]at*;exact E.bg h hs
 | .Mk l,hs=>by simp only [SV.sc,auF]at*;exact auB hs h.b
 | .mp l,hs=>by simp only [SV.sc,auF]at*;exact auB hs h.b
 | .jE e,hs=>by simp only [SV.sc]at*;exact E.bg h hs
 | .Ku e,hs=>by simp only [SV.sc]at*;exact E.bg h hs
 | .mu e,hs=>by simp only [SV.sc]at*;exact E.bg h hs
 | .PF t k e,hs=>by simp only [SV.sc]at*;exact E.bg h hs
 | .Uo t l k,hs=>by simp only [SV.sc,auF]at*;exact auB hs h.b
 | .PG v i s c' n,hs=>by simp only [SV.sc,ai,auF]at*;exact⟨auB hs.1 h.v,E.bg h hs.2⟩
 | .Ix b v,hs=>by simp only [SV.sc,ai,auF]at*;exact⟨BE.bg h hs.1,auB hs.2 h.v⟩
 | .jJ v cs s,hs=>by simp only [SV.sc,auF,ai]at*;exact⟨auB hs.1 h.v,MQ h hs.2⟩
theorem SV.fH(h:c.le d): ∀{l:List SV},SV.qM c l=true→SV.qM d l=true
 | [],_=>rfl
 | v::r,hs=>by simp only [SV.qM,ai]at*;exact⟨SV.bg h hs.1,SV.fH h hs.2⟩
end
theorem bP.bg(h:c.le d){k:bP}(hs:k.sc c=true):k.sc d=true:=by
 simp only [bP.sc,ai]at hs ⊢;refine⟨E.bg h hs.1,?_⟩;have h2:=hs.2;unfold CK.sc at h2 ⊢;split
 ·rename_i l hl;rw [hl]at h2;exact auo.2 fun n hn=>by
   have:=auo.1 h2 n hn;simp only [auF]at this ⊢;exact auB this h.v
 ·rename_i q v hl;rw [hl]at h2;simp only [ai,auF]at h2 ⊢;exact⟨E.bg h h2.1,auB h2.2 h.v⟩
 ·rfl
theorem ku(h:c.le d){aA:List bP}(hs:aA.all (bP.sc c)=true):aA.all (bP.sc d)=true:=
 auo.2 fun k hk=>bP.bg h (auo.1 hs k hk)
theorem Ck.bg(h:c.le d){k:Ck}(hs:k.sc c=true):k.sc d=true:=by
 cases k with
 | emp=>rfl
 | row b w cs=>simp only [Ck.sc,auF,ai]at*;exact⟨auB hs.1 h.b,SV.fH h hs.2⟩
 | cC md v t s n aA=>simp only [Ck.sc,auF,ai]at*;exact⟨⟨auB hs.1.1 h.v,E.bg h hs.1.2⟩,ku h hs.2⟩
 | abs i=>simp only [Ck.sc,auF]at*;exact auB hs h.p
 | my l r s j=>simp only [Ck.sc,ai,auF]at*;exact⟨auB hs.1 h.b,auB hs.2 h.r⟩
 | MO b=>simp only [Ck.sc,auF]at*;exact auB hs h.b
 | vB b=>simp only [Ck.sc,auF]at*;exact auB hs h.b
 | map b kl ka va z has aA=>simp only [Ck.sc,ai,auF]at*;exact⟨⟨⟨auB hs.1.1.1 h.b,SV.fH h hs.1.1.2⟩,E.bg h hs.1.2⟩,ku h hs.2⟩
 | O0 b l p=>simp only [Ck.sc,auF]at*;exact auB hs h.b
 | P4 b m=>simp only [Ck.sc,ai,auF]at*;exact⟨auB hs.1 h.b,auB hs.2 h.b⟩
 | KA b t e n a=>simp only [Ck.sc,auF,ai]at*;exact⟨⟨auB hs.1.1 h.b,E.bg h hs.1.2⟩,E.bg h hs.2⟩
 | vn b kl ka va z es=>simp only [Ck.sc,ai,auF]at*;exact⟨⟨auB hs.1.1 h.b,SV.fH h hs.1.2⟩,auo.2 fun e he=>SV.fH h (auo.1 hs.2 e he)⟩
theorem jN(h:c.le d){hp:List Ck}(hs:hp.all (Ck.sc c)=true):hp.all (Ck.sc d)=true:=
 auo.2 fun k hk=>Ck.bg h (auo.1 hs k hk)
theorem de(h:c.le d){fr:List (Nat×SV)}(hs:mP c fr=true):mP d fr=true:=
 auo.2 fun k hk=>SV.bg h (auo.1 hs k hk)
theorem gg(h:c.le d){l:List BE}(hs:l.all (BE.sc c)=true):l.all (BE.sc d)=true:=
 auo.2 fun k hk=>BE.bg h (auo.1 hs k hk)
end
theorem DU{c:cG}{fr:List (Nat×SV)}(hs:mP c fr=true){s:Nat}{v:SV}(h:look fr s=some v):v.sc c=true:=by
 induction fr with
 | nil=>cases h
 | cons x r ih=>
  obtain⟨t,u⟩:=x;simp only [mP,List.all_cons,ai]at hs;unfold look at h;split at h
  ·cases h;exact hs.1
  ·exact ih hs.2 h
theorem dU{c d:cG}(h:c.le d){ds:List MK}(hs:ds.all (MK.sc c)=true):ds.all (MK.sc d)=true:=
 auo.2 fun k hk=>by
  have:=auo.1 hs k hk;cases k<;>simp only [MK.sc,auF]at* <;>exact auB this h.b
structure HW (Fs:List HP) (w0:World) (st:St) (ρ:Env) (w:World):Prop where
 lens:iG ρ st.a_
 mj:mP st.a_ st.fr=true
 gP:st.hp.all (Ck.sc st.a_)=true
 o9:st.known.all (BE.sc st.a_)=true
 kn: ∀b∈st.known,b.prop ρ
 own:bz (st.hp.map (Ck.den ρ)++Fs) w
 same:iP w0 w
 ng:st.nt.ds.all (MK.sc st.a_)=true
noncomputable def MK.blocks(ρ:Env):MK→List Nat
 | .one b=>[ρ.bv.getD b 0]
 | .many b=>rA (ρ.bv.getD b 0)
noncomputable def marks(ρ:Env)(ds:List MK):List Deferred:=(ds.flatMap (MK.blocks ρ)).map fun b=>{target:= .collected b,args:= #[]}
structure HA (fr:List (Nat×SV)) (nt:NT) (ρ:Env) (a:Act):Prop where
 defers:a.defers=marks ρ nt.ds
 size:nt.n≤a.tmps.size
 aX: ∀s v,look fr s=some v→a.tmps.getD s undef=v.val ρ
def resume:Exit→List KI→Option (List KI)
 | .normal,k=>some k
 | .exit id,k=>dZ id k
 | .ret,k=>iT k
 | _,_=>none
section
variable (P:Program) (C:Ctx) (al:Value→List HP→Prop) (Fs:List HP) (w0:World)
def At(n:Nat)(k:List KI)(KF:Env)(Lb:Nat→LC)(a:Act)(w:World):Prop:=
 ∃m,m<n∧∃st ρ L,Env.Le KF ρ∧(∀j,j<nl k→L j=Lb j)∧HW Fs w0 st ρ w∧HA st.fr st.nt ρ a∧VC P al (run C m k st) ρ L
def QK(n:Nat)(k:List KI)(KF:Env)(Lb:Nat→LC)(e:Exit)(a:Act)(w:World):Prop:=
 ∃k',resume e k=some k'∧At P C al Fs w0 n k' KF Lb a w
end
theorem jk: ∀{id:Nat} {k k':List KI},dZ id k=some k'→nl k'≤nl k
 | id,[],k',h=>by simp [dZ]at h
 | id,.tS i::k,k',h=>by
  unfold dZ at h;split at h
  ·cases h;exact Nat.le_refl _
  ·exact jk (k:=k) h
 | id,.code _::k,k',h=>jk (k:=k) h
 | id,.gh _::k,k',h=>jk (k:=k) h
 | id,.again _::k,k',h=>jk (k:=k) h
 | id,.ops .. ::k,k',h=>jk (k:=k) h
 | id,.loop .. ::k,k',h=>Nat.le_trans (jk (k:=k) h) (au4 _)
 | id,.jn i up nt c0 inc fr hp pre::k,k',h=>by
  simp only [dZ]at h;split at h
  ·cases h;exact Nat.le_refl _
  ·exact Nat.le_trans (jk (k:=k) h) (au4 _)
 | id,.um .. ::k,k',h=>by simp [dZ]at h
 | id,.call .. ::k,k',h=>by simp [dZ]at h
 | id,.top .. ::k,k',h=>by simp [dZ]at h
 | id,.rf .. ::k,k',h=>by simp [dZ]at h
 | id,.begin .. ::k,k',h=>by simp [dZ]at h
 | id,.nE .. ::k,k',h=>by simp [dZ]at h
 | id,.round .. ::k,k',h=>by simp only [dZ]at h;cases h;exact Nat.le_refl _
theorem kv: ∀{k k':List KI},iT k=some k'→nl k'≤nl k
 | [],k',h=>by simp [iT]at h
 | .tS i::k,k',h=>kv (k:=k) h
 | .code _::k,k',h=>kv (k:=k) h
 | .gh _::k,k',h=>kv (k:=k) h
 | .again _::k,k',h=>kv (k:=k) h
 | .ops .. ::k,k',h=>kv (k:=k) h
 | .loop .. ::k,k',h=>Nat.le_trans (kv (k:=k) h) (au4 _)
 | .jn .. ::k,k',h=>Nat.le_trans (kv (k:=k) h) (au4 _)
 | .um .. ::k,k',h=>by simp [iT]at h
 | .call .. ::k,k',h=>by simp only [iT]at h;cases h;exact Nat.le_refl _
 | .top .. ::k,k',h=>by simp only [iT]at h;cases h;exact Nat.le_refl _
 | .rf .. ::k,k',h=>by simp only [iT]at h;cases h;exact Nat.le_refl _
 | .round .. ::k,k',h=>by simp only [iT]at h;cases h;exact Nat.le_refl _
 | .begin .. ::k,k',h=>by simp [iT]at h
 | .nE .. ::k,k',h=>by simp [iT]at h
theorem CW{e:Exit}{k k':List KI}(h:resume e k=some k'):nl k'≤nl k:=by
 cases e with
 | normal=>cases h;exact Nat.le_refl _
 | exit id=>exact jk h
 | ret=>exact kv h
 | goto l=>cases h
 | panic c=>cases h
 | outgrown=>cases h
section
variable {P:Program} {C:Ctx} {al:Value→List HP→Prop} {Fs:List HP} {w0:World}
theorem At.mono{n n':Nat}{k:List KI}{ρ bJ:Env}{L L':Nat→LC}{a:Act}{w:World}(h:At P C al Fs w0 n k bJ L' a w)(hn:n≤n')(hρ:Env.Le ρ bJ)
  (hL: ∀j,j<nl k→L' j=L j):At P C al Fs w0 n' k ρ L a w:=by
 obtain⟨m,hm,st,r,L2,h1,h2,h3⟩:=h;exact⟨m,auB hm hn,st,r,L2,hρ.trans h1,fun j hj=>(h2 j hj).trans (hL j hj),h3⟩
theorem QK.mono{n n':Nat}{k:List KI}{ρ bJ:Env}{L L':Nat→LC}{e:Exit}{a:Act}{w:World}(h:QK P C al Fs w0 n k bJ L' e a w)(hn:n≤n')(hρ:Env.Le ρ bJ)
  (hL: ∀j,j<nl k→L' j=L j):QK P C al Fs w0 n' k ρ L e a w:=by
 obtain⟨k',hk,h⟩:=h;exact⟨k',hk,h.mono hn hρ fun j hj=>hL j (auB hj (CW hk))⟩
theorem QK.move{n:Nat}{k k2:List KI}{ρ:Env}{L L2:Nat→LC}{e:Exit}{a:Act}{w:World}(h:QK P C al Fs w0 n k2 ρ L2 e a w)(hk:resume e k2=resume e k)
  (hL: ∀j,j<nl k→L2 j=L j):QK P C al Fs w0 n k ρ L e a w:=by
 obtain⟨k',h1,h⟩:=h;rw [hk]at h1;exact⟨k',h1,h.mono (Nat.le_refl _) (Env.Le.refl _) fun j hj=>hL j (auB hj (CW h1))⟩
variable {F:Fence} {n:Nat} {ops:Array Oper}
theorem Oper.An{o:Oper}{a:Act}{w:World}{K K':Act→World→Prop}{Q Q':Exit→Act→World→Prop}(h: ∀a w,K a w→K' a w)(hq: ∀e a w,Q e a w→Q' e a w)
  (hh:o.wpIn F n P a w K Q):o.wpIn F n P a w K' Q':=by
 unfold Oper.wpIn at*;refine⟨hh.1,?_⟩;have hh:=hh.2;have ac1:LetsOut Q→LetsOut Q':=fun⟨a,w,h⟩=>⟨a,w,hq _ _ _ h⟩
 generalize (o.semAt F.round a.eval).run P w=r at*;cases r with
 | ok x w'=>
  cases x<;>simp only [Oper.uponIn]at hh ⊢ <;>
   first
    | exact h _ _ hh
    | exact⟨hh.1,CallsIn.mono hh.2 (fun e w'' he=>by cases e<;>first | exact h _ _ he | exact hq _ _ _ he | exact ac1 he)⟩
    | exact⟨hh.1,RowsIn.mono hh.2 (fun _ _ he=>h _ _ he)⟩
    | exact⟨hh.1,RoundIn.mono hh.2 (fun e w'' he=>by cases e<;>first | exact h _ _ he | exact hq _ _ _ he | exact ac1 he)⟩
 | halt x w'=>cases x<;>simp only [Oper.uponIn]at hh ⊢ <;>first | exact hq _ _ _ hh | exact hh
theorem gH{Q Q':Exit→Act→World→Prop}(hq: ∀e a w,Q e a w→Q' e a w): ∀{l:List Oper} {a:Act} {w:World},wpListIn F n P ops Q l a w→wpListIn F n P ops Q' l a w
 | [],a,w,h=>hq _ _ _ h
 | o::r,a,w,h=>by
  unfold wpListIn at*;split
  ·rename_i hw;rw [if_pos hw]at h;exact Oper.An (fun a w=>gH hq) hq h
  ·rename_i hw;rw [if_neg hw]at h;exact⟨h.1,gH hq h.2⟩
end
end Go.RX
