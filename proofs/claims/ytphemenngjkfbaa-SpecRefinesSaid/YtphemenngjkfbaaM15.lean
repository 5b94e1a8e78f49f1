/- Executor. -/
import Derived.Test.YtphemenngjkfbaaM14
import Derived.Sort.LoopGhostIn
open Bool renaming and_eq_true → ai
open List renaming all_eq_true → agv, append_assoc → ahf, getElem?_append_left → agC, getElem?_append_right → agD, getElem?_eq_some_iff → agx, getElem?_set_ne → agX, map_congr_left → ag4, map_cons → agW, mem_cons_of_mem → agF, mem_cons_self → agA
open Nat renaming blt_eq → agM, lt_of_lt_of_le → agI
open Option.some renaming injEq → agy
namespace Go.RX
theorem aU.tf{hs ey:List HP}{w:World}(h:aU hs w)(f:Nat→Option Nat)
  (he: ∀(j:Nat) x,ey[j]? =some x→(f j=none∧x=HP.emp)∨∃i,f j=some i∧hs[i]? =some x)
  (aaT: ∀(j j' i:Nat),f j=some i→f j'=some i→j<ey.length→j'<ey.length→j=j'):aU ey w:=by
 obtain⟨S,hS⟩:=h;refine⟨fun j k=>match f j with | some i=>S i k | none=>False,⟨?_,?_⟩⟩
 ·intro j x hx;rcases he j x hx with⟨hf,rfl⟩ | ⟨i,hf,hi⟩
  ·simp only [hf];exact⟨fun k hk=>hk,fun k hk=>hk.elim⟩
  ·simp only [hf];exact hS.at_ i x hi
 ·intro j j' x y eJ hx hy hw k;rcases he j x hx with⟨hf,rfl⟩ | ⟨i,hf,hi⟩
  ·simp only [hf];exact fun h=>h.elim
  ·rcases he j' y hy with⟨Gf,rfl⟩ | ⟨i',Gf,oq⟩
   ·simp only [Gf];exact fun _ h=>h
   ·simp only [hf,Gf];refine hS.apart i i' x y ?_ hi oq hw k;intro e;subst e;exact eJ (aaT j j' i hf Gf (agx.1 hx).1 (agx.1 hy).1)
theorem aU.Kq{a b:List HP}{w:World}(h:aU (a++b) w):aU (a++[HP.emp]++b) w:=by
 refine h.tf (fun j=>if j<a.length then some j else if j=a.length then none else some (j - 1)) ?_ ?_
 ·intro j x hx;by_cases h1:j<a.length
  ·right;refine⟨j,by simp [h1],?_⟩;rw [ahf,agC h1]at hx;rw [agC h1];exact hx
  ·by_cases h2:j=a.length
   ·left;subst h2;refine⟨by simp,?_⟩;simp at hx;exact hx.symm
   ·right;refine⟨j - 1,by simp [h1,h2],?_⟩;rw [agD (by simp;omega)]at hx;rw [agD (by omega)];simp only [List.length_append,List.length_cons,List.length_nil]at hx;rw [show j - 1 - a.length=j - (a.length+(0+1)) by omega];exact hx
 ·intro j j' i hj lW _ _;split at hj<;>split at lW
  ·simp_all
  ·split at lW
   ·cases lW
   ·simp only [agy]at hj lW;omega
  ·split at hj
   ·cases hj
   ·simp only [agy]at hj lW;omega
  ·split at hj
   ·cases hj
   ·split at lW
    ·cases lW
    ·simp only [agy]at hj lW;omega
theorem R9{α:Type}(a b:List α)(x y:α):(a++[x]++b).set a.length y=a++[y]++b:=by
 simp
theorem aU.add{a b:List HP}{w w':World}(h:aU (a++b) w)(h':HP)(S':Nat→Prop)(jP:w.heap.size≤w'.heap.size)
  (uT: ∀k,k<w.heap.size→w'.heap[k]? =w.heap[k]?) (hp:h'.p w' S') (eu: ∀k,S' k→w.heap.size≤k∧k<w'.heap.size):aU (a++[h']++b) w':=by
 obtain⟨S,hS⟩:=h.Kq;have:=hS.new a.length h' (by simp) S' jP uT hp eu;rw [R9]at this;exact⟨_,this⟩
theorem aU.step{a b:List HP}{w w':World}{S:Nat→Nat→Prop}(h:Sep (a++b) S w)(i:Nat)(h0 h':HP)(hi:a[i]? =some h0)(hw:h0.wr=true)
  (S':Nat→Prop) (jP:w.heap.size≤w'.heap.size) (uT: ∀k,k<w.heap.size→¬S i k→w'.heap[k]? =w.heap[k]?)
  (hp:h'.p w' S') (eu: ∀k,S' k→S i k∨(w.heap.size≤k∧k<w'.heap.size)):aU (a.set i h'++b) w':=by
 have cZ:i<a.length:=(agx.1 hi).1;have:=h.step i h0 h' (by rw [agC cZ];exact hi) hw S' jP uT hp eu;rw [List.set_append_left _ _ cZ]at this;exact⟨_,this⟩
theorem aU.XR{acc hp Fs:List HP}{w:World}(h:aU (acc++(hp++Fs)) w)(i:Nat)(c:HP)(hi:hp[i]? =some c):
  aU ((acc++[c])++(hp.set i HP.emp++Fs)) w:=by
 have cZ:i<hp.length:=(agx.1 hi).1;refine h.tf (fun j=>if j<acc.length then some j else if j=acc.length then some (acc.length+i)else if j=acc.length+1+i then none else some (j - 1)) ?_ ?_
 ·intro j x hx;by_cases h1:j<acc.length
  ·right;refine⟨j,by simp [h1],?_⟩;rw [ahf,agC h1]at hx;rw [agC h1];exact hx
  ·by_cases h2:j=acc.length
   ·right;subst h2;refine⟨acc.length+i,by simp,?_⟩;rw [ahf,agD (Nat.le_refl _),Nat.sub_self]at hx;simp only [List.cons_append,List.nil_append,List.getElem?_cons_zero,agy]at hx;subst hx;rw [agD (by omega),agC (by omega)];rw [show acc.length+i - acc.length=i by omega];exact hi
   ·rw [agD (by simp;omega)]at hx;simp only [List.length_append,List.length_cons,List.length_nil]at hx;by_cases h3:j=acc.length+1+i
    ·left;subst h3;refine⟨by simp [h1,h2],?_⟩;rw [agC (by simp;omega),show acc.length+1+i - (acc.length+(0+1))=i by omega,List.getElem?_set_self cZ]at hx;cases hx;rfl
    ·right;refine⟨j - 1,by simp [h1,h2,h3],?_⟩;rw [agD (by omega)];rw [List.getElem?_append]at hx ⊢;simp only [List.length_set]at hx;rw [show j - 1 - acc.length=j - (acc.length+(0+1)) by omega];split at hx
     ·rename_i h4;rw [agX (by omega)]at hx;rw [if_pos h4];exact hx
     ·rename_i h4;rw [if_neg h4];exact hx
 ·intro j j' k hj lW hl hl';have key: ∀j,(if j<acc.length then some j else if j=acc.length then some (acc.length+i)else if j=acc.length+1+i then none else some (j - 1))=some k→
    (j<acc.length∧k=j)∨(j=acc.length∧k=acc.length+i)∨(acc.length<j∧j≠acc.length+1+i∧k=j - 1):=by
   intro j h;split at h
   ·left;simp at h;omega
   ·split at h
    ·right;left;simp at h;omega
    ·split at h
     ·cases h
     ·right;right;simp at h;omega
  rcases key j hj with h | h | h<;>rcases key j' lW with h' | h' | h'<;>omega
theorem aU.wV{new hp Fs:List HP}{c:HP}{w:World}(h:aU ((c::new)++(hp++Fs)) w)(i:Nat)(hi:i<hp.length):
  aU (new++(hp.set i c++Fs)) w:=by
 refine h.tf (fun j=>if j=new.length+i then some 0 else some (j+1)) ?_ ?_
 ·intro j x hx;right;by_cases h1:j=new.length+i
  ·refine⟨0,by simp [h1],?_⟩;subst h1;rw [agD (by omega),show new.length+i - new.length=i by omega,agC (by simpa using hi),List.getElem?_set_self hi]at hx;simpa using hx
  ·refine⟨j+1,by simp [h1],?_⟩;rw [List.cons_append,List.getElem?_cons_succ];rw [List.getElem?_append]at hx ⊢;split at hx
   ·rename_i h2;rw [if_pos h2];exact hx
   ·rename_i h2;rw [if_neg h2];rw [List.getElem?_append]at hx ⊢;simp only [List.length_set]at hx;split at hx
    ·rename_i h3;rw [agX (by omega)]at hx;rw [if_pos h3];exact hx
    ·rename_i h3;rw [if_neg h3];exact hx
 ·intro j j' k hj lW _ _;split at hj<;>split at lW<;>simp only [agy]at hj lW<;>omega
theorem aU.rot{new hp Fs:List HP}{w:World}(h:aU (new++(hp++Fs)) w):aU ((hp++new)++Fs) w:=by
 refine h.tf (fun j=>if j<hp.length then some (new.length+j)else if j<hp.length+new.length then some (j - hp.length)else some j) ?_ ?_
 ·intro j x hx;right;by_cases h1:j<hp.length
  ·refine⟨new.length+j,by simp [h1],?_⟩;rw [ahf,agC h1]at hx;rw [agD (by omega),show new.length+j - new.length=j by omega,agC h1];exact hx
  ·by_cases h2:j<hp.length+new.length
   ·refine⟨j - hp.length,by simp [h1,h2],?_⟩;rw [ahf,agD (by omega),agC (by omega)]at hx;rw [agC (by omega)];exact hx
   ·refine⟨j,by simp [h1,h2],?_⟩;rw [ahf,agD (by omega),agD (by omega)]at hx;rw [agD (by omega),agD (by omega),show j - new.length - hp.length=j - hp.length - new.length by omega];exact hx
 ·intro j j' k hj lW _ _;have key: ∀j,(if j<hp.length then some (new.length+j)else if j<hp.length+new.length then some (j - hp.length)else some j)=some k→
    (j<hp.length∧k=new.length+j)∨(hp.length≤j∧j<hp.length+new.length∧k=j - hp.length)∨(hp.length+new.length≤j∧k=j):=by
   intro j h;split at h
   ·left;simp at h;omega
   ·split at h
    ·right;left;simp at h;omega
    ·right;right;simp at h;omega
  rcases key j hj with h | h | h<;>rcases key j' lW with h' | h' | h'<;>omega
def blank(hp:List HP)(use:List Nat):List HP:=use.foldl (fun h i=>h.set i HP.emp) hp
theorem mG(use:List Nat): ∀hp:List HP,(blank hp use).length=hp.length:=by
 induction use with
 | nil=>intro hp;rfl
 | cons i r ih=>intro hp;show(blank (hp.set i HP.emp) r).length=_;rw [ih];simp
theorem C7(use:List Nat): ∀(hp:List HP) (i:Nat) (c:HP),i ∉ use→blank (hp.set i c) use=(blank hp use).set i c:=by
 induction use with
 | nil=>intro hp i c _;rfl
 | cons j r ih=>
  intro hp i c hi;simp only [List.mem_cons,not_or]at hi;show blank ((hp.set i c).set j HP.emp) r=(blank (hp.set j HP.emp) r).set i c;rw [List.set_comm _ _ hi.1,ih _ _ _ hi.2]
theorem aU.vm: ∀{use:List Nat} {acc hp Fs:List HP} {w:World},aU (acc++(hp++Fs)) w→use.Nodup→(∀i∈use,i<hp.length)→
  aU ((acc++use.map (fun i=>hp.getD i HP.emp))++(blank hp use++Fs)) w
 | [],acc,hp,Fs,w,h,_,_=>by simpa [blank] using h
 | i::r,acc,hp,Fs,w,h,gE,cZ=>by
  have hi:=cZ i agA;rw [List.nodup_cons]at gE;have h1:=h.XR i (hp.getD i HP.emp) (by rw [List.getD_eq_getElem?_getD];simp [hi]);have h2:=aU.vm (use:=r) h1 gE.2 (fun j hj=>by simpa using cZ j (agF _ hj));have e:r.map (fun j=>(hp.set i HP.emp).getD j HP.emp)=r.map (fun j=>hp.getD j HP.emp):=by
   refine ag4 fun j hj=>?_
   rw [List.getD_eq_getElem?_getD,List.getD_eq_getElem?_getD,agX];rintro rfl;exact gE.1 hj
  rw [e,ahf acc]at h2;exact h2
theorem jz: ∀(use:List Nat) (hp new:List HP),use.Nodup→lL HP.emp hp use new=lL HP.emp (blank hp use) use new
 | [],hp,new,_=>rfl
 | i::r,hp,c::cs,gE=>by
  rw [List.nodup_cons]at gE;show lL HP.emp (hp.set i c) r cs=lL HP.emp ((blank (hp.set i HP.emp) r).set i c) r cs;rw [←C7 r _ _ _ gE.1,List.set_set];exact jz r _ _ gE.2
 | i::r,hp,[],gE=>by
  rw [List.nodup_cons]at gE;show lL HP.emp (hp.set i HP.emp) r []=lL HP.emp ((blank (hp.set i HP.emp) r).set i HP.emp) r [];rw [←C7 r _ _ _ gE.1,List.set_set];exact jz r _ _ gE.2
theorem aU.mj: ∀{use:List Nat} {new hp Fs:List HP} {w:World},aU (new++(hp++Fs)) w→(∀i∈use,i<hp.length)→(∀i∈use,hp[i]? =some HP.emp∨True)→
  aU (lL HP.emp hp use new++Fs) w
 | [],new,hp,Fs,w,h,_,_=>h.rot
 | i::r,c::cs,hp,Fs,w,h,cZ,_=>by
  have hi:=cZ i agA;exact aU.mj (use:=r) (h.wV i hi) (fun j hj=>by simpa using cZ j (agF _ hj)) fun _ _=> .inr trivial
 | i::r,[],hp,Fs,w,h,cZ,_=>by
  have hi:=cZ i agA;have h1:=(aU.Kq (a:=[]) h);exact aU.mj (use:=r) (new:=[]) (aU.wV (new:=[]) h1 i hi) (fun j hj=>by simpa using cZ j (agF _ hj)) fun _ _=> .inr trivial
theorem mO{α β:Type}(f:α→β)(e:α): ∀(use:List Nat) (hp new:List α),(lL e hp use new).map f=lL (f e) (hp.map f) use (new.map f)
 | [],hp,new=>by simp [lL]
 | i::r,hp,c::cs=>by simp only [lL,agW];rw [mO f e r,List.map_set]
 | i::r,hp,[]=>by simp only [lL,List.map_nil];rw [mO f e r,List.map_set];rfl
structure cF.le (c d:cF):Prop where
 b:c.b≤d.b
 v:c.v≤d.v
 i:c.i≤d.i
 a:c.a≤d.a
 bo:c.bo≤d.bo
 p:c.p≤d.p
 r:c.r≤d.r
theorem cF.k9(c d:cF):c.le (c.add d):=by constructor<;>simp [cF.add]
theorem cF.le_refl(c:cF):c.le c:=by constructor<;>exact Nat.le_refl _
section
variable {c d:cF}
theorem E.bu(h:c.le d){e:E}(hs:e.sc c=true):e.sc d=true:=by
 induction e with
 | lit n=>rfl
 | var i=>simp only [E.sc,agM]at*;exact agI hs h.i
 | aw i=>simp only [E.sc,agM]at*;exact agI hs h.a
 | gW a i mV IA=>simp only [E.sc,ai]at*;exact⟨mV hs.1,IA hs.2⟩
 | bin o k a b mV tS=>simp only [E.sc,ai]at*;exact⟨mV hs.1,tS hs.2⟩
 | wrap k a ih=>simp only [E.sc]at*;exact ih hs
 | bP a i v mV IA ZC=>simp only [E.sc,ai]at*;exact⟨⟨mV hs.1.1,IA hs.1.2⟩,ZC hs.2⟩
 | shift a o mV Vl=>simp only [E.sc,ai]at*;exact⟨mV hs.1,Vl hs.2⟩
 | Eg a o n b mV Vl ihn tS=>simp only [E.sc,ai]at*;exact⟨⟨⟨mV hs.1.1.1,Vl hs.1.1.2⟩,ihn hs.1.2⟩,tS hs.2⟩
 | kc n a ih=>simp only [E.sc]at*;exact ih hs
 | rT b=>simp only [E.sc,agM]at*;exact agI hs h.b
 | qw l=>rfl
 | RG a i mV IA=>simp only [E.sc,ai]at*;exact⟨mV hs.1,IA hs.2⟩
 | qJ a i s mV IA ZD=>simp only [E.sc,ai]at*;exact⟨⟨mV hs.1.1,IA hs.1.2⟩,ZD hs.2⟩
 | TJ s ih=>simp only [E.sc]at*;exact ih hs
theorem BE.bu(h:c.le d){b:BE}(hs:b.sc c=true):b.sc d=true:=by
 induction b with
 | lit n=>rfl
 | var i=>simp only [BE.sc,agM]at*;exact agI hs h.bo
 | eq a b=>simp only [BE.sc,ai]at*;exact⟨E.bu h hs.1,E.bu h hs.2⟩
 | lt a b=>simp only [BE.sc,ai]at*;exact⟨E.bu h hs.1,E.bu h hs.2⟩
 | le a b=>simp only [BE.sc,ai]at*;exact⟨E.bu h hs.1,E.bu h hs.2⟩
 | nz a=>simp only [BE.sc]at*;exact E.bu h hs
 | TL n a b=>simp only [BE.sc,ai]at*;exact⟨E.bu h hs.1,E.bu h hs.2⟩
 | not a ih=>simp only [BE.sc]at*;exact ih hs
 | and a b mV tS=>simp only [BE.sc,ai]at*;exact⟨mV hs.1,tS hs.2⟩
 | or a b mV tS=>simp only [BE.sc,ai]at*;exact⟨mV hs.1,tS hs.2⟩
 | ite x t e Xk Q_ Rb=>simp only [BE.sc,ai]at*;exact⟨⟨Xk hs.1.1,Q_ hs.1.2⟩,Rb hs.2⟩
 | seq a b=>simp only [BE.sc,ai]at*;exact⟨E.bu h hs.1,E.bu h hs.2⟩
theorem Mh(h:c.le d){cs:List Cut}(hs:cs.all (Cut.sc c)=true):cs.all (Cut.sc d)=true:=by
 refine agv.2 fun k hk=>?_
 have:=agv.1 hs k hk;simp only [Cut.sc,ai]at this ⊢;refine⟨⟨E.bu h this.1.1,E.bu h this.1.2⟩,?_⟩;cases hm:k.mx with
 | none=>rfl
 | some m=>rw [hm]at this;exact E.bu h this.2
mutual
theorem SV.bu(h:c.le d): ∀{v:SV},v.sc c=true→v.sc d=true
 | .int k e,hs=>by simp only [SV.sc]at*;exact E.bu h hs
 | .bool b,hs=>by simp only [SV.sc]at*;exact BE.bu h hs
 | .dR,_=>rfl
 | .bY,_=>rfl
 | .pE,_=>rfl
 | .uQ,_=>rfl
 | .iJ,_=>rfl
 | .undef,_=>rfl
 | .ptr b n,hs=>by simp only [SV.sc,agM]at*;exact agI hs h.b
 | .qy b i s n,hs=>by simp only [SV.sc,agM,ai]at*;exact⟨agI hs.1 h.b,E.bu h hs.2⟩
 | .pv v i s n,hs=>by simp only [SV.sc,agM,ai]at*;exact⟨agI hs.1 h.v,E.bu h hs.2⟩
 | .sl b i s n m,hs=>by simp only [SV.sc,agM,ai]at*;exact⟨⟨⟨agI hs.1.1.1 h.b,E.bu h hs.1.1.2⟩,E.bu h hs.1.2⟩,E.bu h hs.2⟩
 | .vv i,hs=>by simp only [SV.sc,agM]at*;exact agI hs h.v
 | .str l,_=>rfl
 | .fn f kp,hs=>by simp only [SV.sc]at*;exact SV.fj h hs
 | .agg cs,hs=>by simp only [SV.sc]at*;exact SV.fj h hs
 | .a_ k n a,hs=>by simp only [SV.sc]at*;exact E.bu h hs
 | .lp vs,hs=>by simp only [SV.sc]at*;exact SV.fj h hs
 | .opt b v,hs=>by simp only [SV.sc,ai]at*;exact⟨BE.bu h hs.1,SV.bu h hs.2⟩
 | .FI a i,hs=>by simp only [SV.sc]at*;exact E.bu h hs
 | .LB l,hs=>by simp only [SV.sc,agM]at*;exact agI hs h.b
 | .mp l,hs=>by simp only [SV.sc,agM]at*;exact agI hs h.b
 | .dh e,hs=>by simp only [SV.sc]at*;exact E.bu h hs
 | .Ny e,hs=>by simp only [SV.sc]at*;exact E.bu h hs
 | .lZ e,hs=>by simp only [SV.sc]at*;exact E.bu h hs
 | .NP t k e,hs=>by simp only [SV.sc]at*;exact E.bu h hs
 | .Ia b v,hs=>by simp only [SV.sc,ai,agM]at*;exact⟨BE.bu h hs.1,agI hs.2 h.v⟩
 | .ji v cs s,hs=>by simp only [SV.sc,agM,ai]at*;exact⟨agI hs.1 h.v,Mh h hs.2⟩
theorem SV.fj(h:c.le d): ∀{l:List SV},SV.qz c l=true→SV.qz d l=true
 | [],_=>rfl
 | v::r,hs=>by simp only [SV.qz,ai]at*;exact⟨SV.bu h hs.1,SV.fj h hs.2⟩
end
theorem cb.bu(h:c.le d){k:cb}(hs:k.sc c=true):k.sc d=true:=by
 simp only [cb.sc,ai]at hs ⊢;refine⟨E.bu h hs.1,?_⟩;have h2:=hs.2;unfold CK.sc at h2 ⊢;split
 ·rename_i l hl;rw [hl]at h2;exact agv.2 fun n hn=>by
   have:=agv.1 h2 n hn;simp only [agM]at this ⊢;exact agI this h.v
 ·rename_i q v hl;rw [hl]at h2;simp only [ai,agM]at h2 ⊢;exact⟨E.bu h h2.1,agI h2.2 h.v⟩
 ·rfl
theorem jA(h:c.le d){aA:List cb}(hs:aA.all (cb.sc c)=true):aA.all (cb.sc d)=true:=
 agv.2 fun k hk=>cb.bu h (agv.1 hs k hk)
theorem Ck.bu(h:c.le d){k:Ck}(hs:k.sc c=true):k.sc d=true:=by
 cases k with
 | emp=>rfl
 | row b w cs=>simp only [Ck.sc,agM,ai]at*;exact⟨agI hs.1 h.b,SV.fj h hs.2⟩
 | cy md v t s n aA=>simp only [Ck.sc,agM,ai]at*;exact⟨⟨agI hs.1.1 h.v,E.bu h hs.1.2⟩,jA h hs.2⟩
 | abs i=>simp only [Ck.sc,agM]at*;exact agI hs h.p
 | mg l r s j=>simp only [Ck.sc,ai,agM]at*;exact⟨agI hs.1 h.b,agI hs.2 h.r⟩
 | Mb b=>simp only [Ck.sc,agM]at*;exact agI hs h.b
 | qA b=>simp only [Ck.sc,agM]at*;exact agI hs h.b
 | map b kl ka va z has aA=>simp only [Ck.sc,ai,agM]at*;exact⟨⟨⟨agI hs.1.1.1 h.b,SV.fj h hs.1.1.2⟩,E.bu h hs.1.2⟩,jA h hs.2⟩
 | NA b l p=>simp only [Ck.sc,agM]at*;exact agI hs h.b
 | Kf b t e n a=>simp only [Ck.sc,agM,ai]at*;exact⟨⟨agI hs.1.1 h.b,E.bu h hs.1.2⟩,E.bu h hs.2⟩
 | ow b kl ka va z es=>simp only [Ck.sc,ai,agM]at*;exact⟨⟨agI hs.1.1 h.b,SV.fj h hs.1.2⟩,agv.2 fun e he=>SV.fj h (agv.1 hs.2 e he)⟩
theorem i_(h:c.le d){hp:List Ck}(hs:hp.all (Ck.sc c)=true):hp.all (Ck.sc d)=true:=
 agv.2 fun k hk=>Ck.bu h (agv.1 hs k hk)
theorem cO(h:c.le d){fr:List (Nat×SV)}(hs:mH c fr=true):mH d fr=true:=
 agv.2 fun k hk=>SV.bu h (agv.1 hs k hk)
theorem fk(h:c.le d){l:List BE}(hs:l.all (BE.sc c)=true):l.all (BE.sc d)=true:=
 agv.2 fun k hk=>BE.bu h (agv.1 hs k hk)
end
theorem EB{c:cF}{fr:List (Nat×SV)}(hs:mH c fr=true){s:Nat}{v:SV}(h:look fr s=some v):v.sc c=true:=by
 induction fr with
 | nil=>cases h
 | cons x r ih=>
  obtain⟨t,u⟩:=x;simp only [mH,List.all_cons,ai]at hs;unfold look at h;split at h
  ·cases h;exact hs.1
  ·exact ih hs.2 h
theorem dz{c d:cF}(h:c.le d){ds:List MK}(hs:ds.all (MK.sc c)=true):ds.all (MK.sc d)=true:=
 agv.2 fun k hk=>by
  have:=agv.1 hs k hk;cases k<;>simp only [MK.sc,agM]at* <;>exact agI this h.b
structure HW (Fs:List HP) (w0:World) (st:St) (ρ:Env) (w:World):Prop where
 lens:gK ρ st.aS
 lX:mH st.aS st.fr=true
 gF:st.hp.all (Ck.sc st.aS)=true
 oO:st.known.all (BE.sc st.aS)=true
 kn: ∀b∈st.known,b.prop ρ
 own:aU (st.hp.map (Ck.den ρ)++Fs) w
 same:gu w0 w
 mP:st.nt.ds.all (MK.sc st.aS)=true
noncomputable def MK.blocks(ρ:Env):MK→List Nat
 | .one b=>[ρ.bv.getD b 0]
 | .many b=>qK (ρ.bv.getD b 0)
noncomputable def marks(ρ:Env)(ds:List MK):List Deferred:=(ds.flatMap (MK.blocks ρ)).map fun b=>{target:= .collected b,args:= #[]}
structure HA (fr:List (Nat×SV)) (nt:NT) (ρ:Env) (a:Act):Prop where
 defers:a.defers=marks ρ nt.ds
 size:nt.n≤a.tmps.size
 slots: ∀s v,look fr s=some v→a.tmps.getD s undef=v.val ρ
def resume:Exit→List KI→Option (List KI)
 | .normal,k=>some k
 | .exit id,k=>dB id k
 | .ret,k=>gM k
 | _,_=>none
section
variable (P:Program) (C:Ctx) (aq:Value→List HP→Prop) (Fs:List HP) (w0:World)
def At(n:Nat)(k:List KI)(Kr:Env)(Lb:Nat→LC)(a:Act)(w:World):Prop:=
 ∃m,m<n∧∃st ρ L,Env.Le Kr ρ∧(∀j,j<nl k→L j=Lb j)∧HW Fs w0 st ρ w∧HA st.fr st.nt ρ a∧VC P aq (run C m k st) ρ L
def QK(n:Nat)(k:List KI)(Kr:Env)(Lb:Nat→LC)(e:Exit)(a:Act)(w:World):Prop:=
 ∃k',resume e k=some k'∧At P C aq Fs w0 n k' Kr Lb a w
end
theorem hU: ∀{id:Nat} {k k':List KI},dB id k=some k'→nl k'≤nl k
 | id,[],k',h=>by simp [dB]at h
 | id,.rT i::k,k',h=>by
  unfold dB at h;split at h
  ·cases h;exact Nat.le_refl _
  ·exact hU (k:=k) h
 | id,.code _::k,k',h=>hU (k:=k) h
 | id,.gh _::k,k',h=>hU (k:=k) h
 | id,.again _::k,k',h=>hU (k:=k) h
 | id,.ops .. ::k,k',h=>hU (k:=k) h
 | id,.loop .. ::k,k',h=>Nat.le_trans (hU (k:=k) h) (Nat.le_succ _)
 | id,.jn i up nt c0 inc fr hp pre::k,k',h=>by
  simp only [dB]at h;split at h
  ·cases h;exact Nat.le_refl _
  ·exact Nat.le_trans (hU (k:=k) h) (Nat.le_succ _)
 | id,.ug .. ::k,k',h=>by simp [dB]at h
 | id,.call .. ::k,k',h=>by simp [dB]at h
 | id,.top .. ::k,k',h=>by simp [dB]at h
 | id,.rf .. ::k,k',h=>by simp [dB]at h
 | id,.begin .. ::k,k',h=>by simp [dB]at h
 | id,.m9 .. ::k,k',h=>by simp [dB]at h
 | id,.round .. ::k,k',h=>by simp only [dB]at h;cases h;exact Nat.le_refl _
theorem jB: ∀{k k':List KI},gM k=some k'→nl k'≤nl k
 | [],k',h=>by simp [gM]at h
 | .rT i::k,k',h=>jB (k:=k) h
 | .code _::k,k',h=>jB (k:=k) h
 | .gh _::k,k',h=>jB (k:=k) h
 | .again _::k,k',h=>jB (k:=k) h
 | .ops .. ::k,k',h=>jB (k:=k) h
 | .loop .. ::k,k',h=>Nat.le_trans (jB (k:=k) h) (Nat.le_succ _)
 | .jn .. ::k,k',h=>Nat.le_trans (jB (k:=k) h) (Nat.le_succ _)
 | .ug .. ::k,k',h=>by simp [gM]at h
 | .call .. ::k,k',h=>by simp only [gM]at h;cases h;exact Nat.le_refl _
 | .top .. ::k,k',h=>by simp only [gM]at h;cases h;exact Nat.le_refl _
 | .rf .. ::k,k',h=>by simp only [gM]at h;cases h;exact Nat.le_refl _
 | .round .. ::k,k',h=>by simp only [gM]at h;cases h;exact Nat.le_refl _
 | .begin .. ::k,k',h=>by simp [gM]at h
 | .m9 .. ::k,k',h=>by simp [gM]at h
theorem C8{e:Exit}{k k':List KI}(h:resume e k=some k'):nl k'≤nl k:=by
 cases e with
 | normal=>cases h;exact Nat.le_refl _
 | exit id=>exact hU h
 | ret=>exact jB h
 | goto l=>cases h
 | panic c=>cases h
 | outgrown=>cases h
section
variable {P:Program} {C:Ctx} {aq:Value→List HP→Prop} {Fs:List HP} {w0:World}
theorem At.mono{n n':Nat}{k:List KI}{ρ bI:Env}{L L':Nat→LC}{a:Act}{w:World}(h:At P C aq Fs w0 n k bI L' a w)(hn:n≤n')(hρ:Env.Le ρ bI)
  (hL: ∀j,j<nl k→L' j=L j):At P C aq Fs w0 n' k ρ L a w:=by
 obtain⟨m,hm,st,r,L2,h1,h2,h3⟩:=h;exact⟨m,agI hm hn,st,r,L2,hρ.trans h1,fun j hj=>(h2 j hj).trans (hL j hj),h3⟩
theorem QK.mono{n n':Nat}{k:List KI}{ρ bI:Env}{L L':Nat→LC}{e:Exit}{a:Act}{w:World}(h:QK P C aq Fs w0 n k bI L' e a w)(hn:n≤n')(hρ:Env.Le ρ bI)
  (hL: ∀j,j<nl k→L' j=L j):QK P C aq Fs w0 n' k ρ L e a w:=by
 obtain⟨k',hk,h⟩:=h;exact⟨k',hk,h.mono hn hρ fun j hj=>hL j (agI hj (C8 hk))⟩
theorem QK.move{n:Nat}{k k2:List KI}{ρ:Env}{L L2:Nat→LC}{e:Exit}{a:Act}{w:World}(h:QK P C aq Fs w0 n k2 ρ L2 e a w)(hk:resume e k2=resume e k)
  (hL: ∀j,j<nl k→L2 j=L j):QK P C aq Fs w0 n k ρ L e a w:=by
 obtain⟨k',h1,h⟩:=h;rw [hk]at h1;exact⟨k',h1,h.mono (Nat.le_refl _) (Env.Le.refl _) fun j hj=>hL j (agI hj (C8 h1))⟩
variable {F:Fence} {n:Nat} {ops:Array Oper}
theorem Oper.Aw{o:Oper}{a:Act}{w:World}{K K':Act→World→Prop}{Q Q':Exit→Act→World→Prop}(h: ∀a w,K a w→K' a w)(hq: ∀e a w,Q e a w→Q' e a w)
  (hh:o.wpIn F n P a w K Q):o.wpIn F n P a w K' Q':=by
 unfold Oper.wpIn at*;refine⟨hh.1,?_⟩;have hh:=hh.2;have Mi:LetsOut Q→LetsOut Q':=fun⟨a,w,h⟩=>⟨a,w,hq _ _ _ h⟩
 generalize (o.semAt F.round a.eval).run P w=r at*;cases r with
 | ok x w'=>
  cases x<;>simp only [Oper.uponIn]at hh ⊢ <;>
   first
    | exact h _ _ hh
    | exact⟨hh.1,CallsIn.mono hh.2 (fun e XS he=>by cases e<;>first | exact h _ _ he | exact hq _ _ _ he | exact Mi he)⟩
    | exact⟨hh.1,RowsIn.mono hh.2 (fun _ _ he=>h _ _ he)⟩
    | exact⟨hh.1,RoundIn.mono hh.2 (fun e XS he=>by cases e<;>first | exact h _ _ he | exact hq _ _ _ he | exact Mi he)⟩
 | halt x w'=>cases x<;>simp only [Oper.uponIn]at hh ⊢ <;>first | exact hq _ _ _ hh | exact hh
theorem fB{Q Q':Exit→Act→World→Prop}(hq: ∀e a w,Q e a w→Q' e a w): ∀{l:List Oper} {a:Act} {w:World},wpListIn F n P ops Q l a w→wpListIn F n P ops Q' l a w
 | [],a,w,h=>hq _ _ _ h
 | o::r,a,w,h=>by
  unfold wpListIn at*;split
  ·rename_i hw;rw [if_pos hw]at h;exact Oper.Aw (fun a w=>fB hq) hq h
  ·rename_i hw;rw [if_neg hw]at h;exact⟨h.1,fB hq h.2⟩
end
end Go.RX
