/- The abstract call system. -/
import Derived.Test.YtphemenngjkfbaaM26
open Decidable renaming not_not → agN
open Go.IntKind renaming u8 → agu
open Int renaming toNat → ag
open List renaming append_assoc → ahf, append_nil → agL, getElem?_eq_getElem → ag6, mem_filter → agP, mem_map → ag9, mem_singleton → agZ
open Option.some renaming injEq → agy
namespace Go.Cp
variable {K:Type} {z:K} {F:Nat→K→K→Nat→Nat→K} {H:K→K} {num:Nat→Nat} {s s':Sy K} {eG:List (Fe K)} {recs:Nat→List (Rc×Nat)} {σ:Ss K}
theorem KD{α:Type}(f:Nat→Nat→α)(i c:Nat)(a:α):jZ f i c a=bP f i (bP (f i) c a):=by
 funext j e;by_cases h:j=i
 ·subst h;by_cases k:e=c<;>simp [jZ,bP,k]
 ·simp [jZ,bP,h]
theorem iN.one(h:iN z num s eG recs σ){x:Fe K}{nj:Ss K}(hs:Sp z σ x nj):Runs z (eG++[x]) nj:= .snoc _ _ _ _ h.run hs
theorem iN.gone(h:iN z num s eG recs σ){i:Nat}(hi:i<4)(hp:(s.ms i).ph≠0){C:Sc K}(hC:σ.c (s.ms i).c=some C){oc:Nat}(ho:DG (σ.d i) C i oc):
  iN z num {s with ms:=bP s.ms i {s.ms i with ph:=0},done:=jZ s.done i (s.ms i).c true} (eG++[⟨i,s.now,lP z (s.ms i) oc⟩]) (bP recs i (recs i++[(uq (s.ms i) oc,s.now)]))
   ⟨s.now,bP σ.d i ((σ.d i).ends ⟨i,s.now,lP z (s.ms i) oc⟩),bP σ.c (s.ms i).c (some {C with decl:=C.decl||(oc==4&& !(s.ms i).out)})⟩:=by
 have hd:=h.d i hi;obtain⟨d1,d2,d3,d4⟩:=hd.c hp;have hr:=h.one (.ends (x:=⟨i,s.now,lP z (s.ms i) oc⟩) C ⟨hi,h.last,.inr (.inr rfl),.inr rfl,.inl rfl⟩ rfl d1 hC ho);have e0:(⟨i,s.now,lP z (s.ms i) oc⟩:Fe K).e.c=(s.ms i).c:=rfl;have e1:(⟨i,s.now,lP z (s.ms i) oc⟩:Fe K).e.oc=oc:=rfl;rw [e0,e1,d2]at hr;have mono: ∀{P:Sc K→Prop},(∀b,P C→P {C with decl:=C.decl||b})→∀{c:Nat},(∃C,σ.c c=some C∧P C)→∃C',bP σ.c (s.ms i).c (some {C with decl:=C.decl||(oc==4&& !(s.ms i).out)}) c=some C'∧P C':=fun hP _ hx=>fP hC (hP _) hx
 refine⟨hr,Nat.le_refl _,fun j hj=>?_,fun c C' hc=>?_,fun j hj hq=>?_,fun x hx hk=>?_,fun x hx hk=>?_,fun x hx hk hw=>?_,h.f6⟩
 ·by_cases e:j=i
  ·subst e;simp only [bj,KD];refine⟨rfl,fun e=>absurd rfl e,fun e=>absurd e (by simp),fun c=>?_,?_⟩
   ·show(σ.d j).had c=true↔_;rw [hd.had c];by_cases k:c=(s.ms j).c
    ·subst k;simp [Mc.has,hp,bP]
    ·simp [Mc.has,bP,k,Ne.symm k]
   ·show(σ.d j).log++[(⟨(σ.d j).c,(σ.d j).aP,(σ.d j).out,oc,(σ.d j).bF⟩,s.now)]=_;rw [hd.log,d1,d2,d3,d4];rfl
  ·simp only [cg _ _ e,KD];exact h.d j hj
 ·by_cases e:c=(s.ms i).c
  ·subst e;simp only [bj,agy]at hc;subst hc;exact h.ck _ C hC
  ·simp only [cg _ _ e]at hc;exact h.ck c C' hc
 ·by_cases e:j=i
  ·subst e;simp [bP]at hq
  ·simp only [cg _ _ e]at hq ⊢;exact mono (P:=fun C=>((s.ms j).out=false→C.gO=(s.ms j).peer)∧((s.ms j).out=true→C.gO=j)∧((s.ms j).ph=1→(s.ms j).dec=true→C.decl=true)) (fun b ⟨h1,h2,h3⟩=>⟨h1,h2,fun p q=>by simp [h3 p q]⟩) (h.ms j hj hq)
 ·exact mono (P:=fun C=>C.gO=x.f) (fun _ p=>p) (h.f1 x hx hk)
 ·exact mono (P:=fun C=>x.f∈C.dj) (fun _ p=>p) (h.f2 x hx hk)
 ·exact mono (P:=fun C=>C.gO=x.t→C.decl=true) (fun b p q=>by simp [p q]) (h.f5 x hx hk hw)
theorem iN.ring(h:iN z num s eG recs σ){i:Nat}(hi:i<4)(hp:(s.ms i).ph=0){x:Mg K}{C:Sc K}(hC:σ.c x.c=some C)(hf:C.gO=x.f)(ha:acc x.f≠acc i∧x.f<4)(hd:s.done i x.c=false):
  Cn z num {s with ms:=bP s.ms i (rings z x s.now)} (eG++[⟨i,s.now,nZ z x⟩]) recs:=by
 have hx:=h.d i hi;have hh:(σ.d i).had x.c=false:=by
  cases e:(σ.d i).had x.c with
  | false=>rfl
  | true=>
   rcases(hx.had _).1 e with k | k
   ·exact absurd hp k.1
   ·rw [hd]at k;cases k
 have hr:=h.one (.ring (x:=⟨i,s.now,nZ z x⟩) C ⟨hi,h.last,.inr (.inr rfl),.inr rfl,.inr rfl⟩ rfl (hx.st.trans hp) hh hC ⟨by rw [hf];exact ha.1,by rw [hf];exact ha.2⟩);refine⟨_,hr,Nat.le_refl _,fun j hj=>?_,h.ck,fun j hj hq=>?_,h.f1,h.f2,h.f5,h.f6⟩
 ·by_cases e:j=i
  ·subst e;simp only [bj];refine⟨rfl,fun _=>⟨rfl,rfl,rfl,rfl⟩,fun e=>absurd e (by simp [rings]),fun c=>?_,hx.log⟩;show bP (σ.d j).had x.c true c=true↔_;by_cases k:c=x.c
   ·subst k;simp [Mc.has,rings,bP]
   ·rw [cg _ _ k,hx.had c];simp [Mc.has,rings,hp,Ne.symm k]
  ·simp only [cg _ _ e];exact h.d j hj
 ·by_cases e:j=i
  ·subst e;simp only [bj];exact⟨C,hC,fun _=>hf,fun e=>absurd e (by simp [rings]),fun e=>absurd e (by simp [rings])⟩
  ·simp only [cg _ _ e]at hq ⊢;exact h.ms j hj hq
theorem iN.bF(h:iN z num s eG recs σ){i:Nat}(hi:i<4)(hp:(s.ms i).ph=2)(ho:(s.ms i).out=false)(key:K):
  ∃nj,iN z num {s with ms:=bP s.ms i (answers z F i (s.ms i) key s.now).m} (eG++(answers z F i (s.ms i) key s.now).e.map (⟨i,s.now, ·⟩)) recs nj∧∃C,nj.c (s.ms i).c=some C∧i∈C.dj:=by
 have hx:=h.d i hi;obtain⟨C,c1,c2,c3,c4⟩:=h.ms i hi (by omega);obtain⟨d1,d2,d3,d4⟩:=hx.c (by omega);have hr:=h.one (.iI (x:=⟨i,s.now,⟨3,(s.ms i).c,(s.ms i).peer,z,0⟩⟩) C ⟨hi,h.last,.inl rfl,.inr rfl,.inr rfl⟩ rfl (hx.st.trans hp) d1 c1 (c2 ho).symm);refine⟨_,⟨hr,Nat.le_refl _,fun j hj=>?_,fun c C' hc=>?_,fun j hj hq=>?_,fun x hx hk=>?_,fun x hx hk=>?_,fun x hx hk hw=>?_,h.f6⟩,_,bj _ _ _,by simp⟩
 ·by_cases e:j=i
  ·subst e;simp only [bj];refine⟨rfl,fun _=>⟨d1,d2,d3,d4⟩,fun _=>rfl,fun c=>?_,hx.log⟩;show(σ.d j).had c=true↔_;rw [hx.had c];simp [Mc.has,answers,hp]
  ·simp only [cg _ _ e];exact h.d j hj
 ·by_cases e:c=(s.ms i).c
  ·subst e;simp only [bj,agy]at hc;subst hc;exact h.ck _ C c1
  ·simp only [cg _ _ e]at hc;exact h.ck c C' hc
 ·by_cases e:j=i
  ·subst e;simp only [bj];exact⟨_,bj σ.c _ _,fun _=>c2 ho,fun e=>by simp [answers,ho]at e,fun e=>by simp [answers]at e⟩
  ·simp only [cg _ _ e]at hq ⊢;exact fP (P:=fun C=>((s.ms j).out=false→C.gO=(s.ms j).peer)∧((s.ms j).out=true→C.gO=j)∧((s.ms j).ph=1→(s.ms j).dec=true→C.decl=true)) (C1:={C with dj:=C.dj++[i]}) c1 (fun p=>p) (h.ms j hj hq)
 ·exact fP (P:=fun C=>C.gO=x.f) (C1:={C with dj:=C.dj++[i]}) c1 (fun p=>p) (h.f1 x hx hk)
 ·exact fP (P:=fun C=>x.f∈C.dj) c1 (fun p=>by simp [p]) (h.f2 x hx hk)
 ·exact fP (P:=fun C=>C.gO=x.t→C.decl=true) (C1:={C with dj:=C.dj++[i]}) c1 (fun p=>p) (h.f5 x hx hk hw)
theorem iN.conn(h:iN z num s eG recs σ){i f:Nat}(hi:i<4)(hp:(s.ms i).ph=1)(ho:(s.ms i).out=true)(ht:s.bb (s.ms i).c=none)(hj: ∃C,σ.c (s.ms i).c=some C∧f∈C.dj)(dM:K):
  Cn z num {s with ms:=bP s.ms i {s.ms i with ph:=3,dM:=dM,peer:=f,since:=s.now},bb:=bP s.bb (s.ms i).c (some f)} (eG++[⟨i,s.now,⟨3,(s.ms i).c,f,z,0⟩⟩]) recs:=by
 have hx:=h.d i hi;obtain⟨C,c1,c2,c3,c4⟩:=h.ms i hi (by omega);obtain⟨C2,e1,e2⟩:=hj;rw [c1]at e1;cases e1;obtain⟨d1,d2,d3,d4⟩:=hx.c (by omega);have hr:=h.one (.takes (x:=⟨i,s.now,⟨3,(s.ms i).c,f,z,0⟩⟩) C ⟨hi,h.last,.inl rfl,.inr rfl,.inr rfl⟩ rfl (hx.st.trans hp) d1 c1 ((h.ck _ C c1).1.trans ht) e2);refine⟨_,hr,Nat.le_refl _,fun j hj=>?_,fun c C' hc=>?_,fun j hj hq=>?_,fun x hx hk=>?_,fun x hx hk=>?_,fun x hx hk hw=>?_,fun x hx hk=>?_⟩
 ·by_cases e:j=i
  ·subst e;simp only [bj];refine⟨rfl,fun _=>⟨d1,d2,d3,d4⟩,fun _=>rfl,fun c=>?_,hx.log⟩;show(σ.d j).had c=true↔_;rw [hx.had c];simp [Mc.has,hp]
  ·simp only [cg _ _ e];exact h.d j hj
 ·by_cases e:c=(s.ms i).c
  ·subst e;simp only [bj,agy]at hc ⊢;subst hc;exact⟨rfl,(h.ck _ C c1).2⟩
  ·simp only [cg _ _ e]at hc ⊢;exact h.ck c C' hc
 ·by_cases e:j=i
  ·subst e;simp only [bj];exact⟨_,rfl,fun e=>by simp [ho]at e,fun _=>c3 ho,fun e=>by simp at e⟩
  ·simp only [cg _ _ e]at hq ⊢;exact fP (P:=fun C=>((s.ms j).out=false→C.gO=(s.ms j).peer)∧((s.ms j).out=true→C.gO=j)∧((s.ms j).ph=1→(s.ms j).dec=true→C.decl=true)) (C1:={C with bb:=some f}) c1 (fun p=>p) (h.ms j hj hq)
 ·exact fP (P:=fun C=>C.gO=x.f) (C1:={C with bb:=some f}) c1 (fun p=>p) (h.f1 x hx hk)
 ·exact fP (P:=fun C=>x.f∈C.dj) (C1:={C with bb:=some f}) c1 (fun p=>p) (h.f2 x hx hk)
 ·exact fP (P:=fun C=>C.gO=x.t→C.decl=true) (C1:={C with bb:=some f}) c1 (fun p=>p) (h.f5 x hx hk hw)
 ·obtain⟨p,k1,k2⟩:=h.f6 x hx hk;refine⟨p,?_,k2⟩;simp only [bP];rw [if_neg (fun e=>by rw [e,ht]at k1;cases k1)];exact k1
theorem iN.act(h:iN z num s eG recs σ){i:Nat}(hi:i<4)(hp:(s.ms i).ph=3)(ht:s.bb (s.ms i).c=some (if(s.ms i).out then(s.ms i).peer else i))(hk: ∀k,s.pr (s.ms i).c=some k→k=H (s.ms i).dM):
  Cn z num {s with ms:=bP s.ms i (active H (s.ms i) s.now).1,pr:=bP s.pr (s.ms i).c (some (H (s.ms i).dM))} (eG++[⟨i,s.now,(active H (s.ms i) s.now).2⟩]) recs:=by
 have hx:=h.d i hi;obtain⟨C,c1,c2,c3,c4⟩:=h.ms i hi (by omega);obtain⟨d1,d2,d3,d4⟩:=hx.c (by omega);have d5:=hx.peer (by omega);have hr:=h.one (.acts (x:=⟨i,s.now,(active H (s.ms i) s.now).2⟩) C ⟨hi,h.last,.inr (.inl rfl),.inl rfl,.inr rfl⟩ rfl (hx.st.trans hp) d1 c1 d5 (by rw [d2];exact(h.ck _ C c1).1.trans ht) (fun k e=>hk k ((h.ck _ C c1).2.1▸e)));refine⟨_,hr,Nat.le_refl _,fun j hj=>?_,fun c C' hc=>?_,fun j hj hq=>?_,fun x hx hk=>?_,fun x hx hk=>?_,fun x hx hk hw=>?_,h.f6⟩
 ·by_cases e:j=i
  ·subst e;simp only [bj];refine⟨rfl,fun _=>⟨d1,d2,d3,rfl⟩,fun _=>d5,fun c=>?_,hx.log⟩;show(σ.d j).had c=true↔_;rw [hx.had c];simp [Mc.has,hp,active]
  ·simp only [cg _ _ e];exact h.d j hj
 ·by_cases e:c=(s.ms i).c
  ·subst e;have RJ:some _=some C':=(bj σ.c _ _).symm.trans hc;simp only [agy]at RJ;subst RJ;simp only [bj];exact⟨(h.ck _ C c1).1,rfl,(h.ck _ C c1).2.2⟩
  ·have RJ:σ.c c=some C':=(cg σ.c _ e).symm.trans hc;simp only [cg _ _ e];exact h.ck c C' RJ
 ·by_cases e:j=i
  ·subst e;simp only [bj];exact⟨_,bj σ.c _ _,c2,c3,fun e=>by simp [active]at e⟩
  ·simp only [cg _ _ e]at hq ⊢;exact fP (P:=fun C=>((s.ms j).out=false→C.gO=(s.ms j).peer)∧((s.ms j).out=true→C.gO=j)∧((s.ms j).ph=1→(s.ms j).dec=true→C.decl=true)) (C1:={C with print:=some (H (s.ms i).dM)}) c1 (fun p=>p) (h.ms j hj hq)
 ·exact fP (P:=fun C=>C.gO=x.f) (C1:={C with print:=some (H (s.ms i).dM)}) c1 (fun p=>p) (h.f1 x hx hk)
 ·exact fP (P:=fun C=>x.f∈C.dj) (C1:={C with print:=some (H (s.ms i).dM)}) c1 (fun p=>p) (h.f2 x hx hk)
 ·exact fP (P:=fun C=>C.gO=x.t→C.decl=true) (C1:={C with print:=some (H (s.ms i).dM)}) c1 (fun p=>p) (h.f5 x hx hk hw)
theorem iN.sQ(h:iN z num s eG recs σ){i:Nat}(hi:i<4)(hp:(s.ms i).ph=0){c:Nat}(hc:num c=s.dl+1)(ht:s.bb c=none)(hq:s.pr c=none)(key:K):
  ∃nj,iN z num {s with ms:=bP s.ms i (cG z i c key s.now).m,dl:=s.dl+1} (eG++(cG z i c key s.now).e.map (⟨i,s.now, ·⟩)) recs nj∧∃C,nj.c c=some C∧C.gO=i:=by
 have hx:=h.d i hi;have h0:σ.c c=none:=by
  cases e:σ.c c with
  | none=>rfl
  | some C=>
   have:=(h.ck c C e).2.2;omega
 have eJ: ∀{P:Sc K→Prop} {C0:Sc K} {e:Nat},(∃C,σ.c e=some C∧P C)→∃C,bP σ.c c (some C0) e=some C∧P C:=by
  rintro P C0 e ⟨C,h1,h2⟩;refine⟨C,(cg _ _ ?_).trans h1,h2⟩;rintro rfl;rw [h0]at h1;cases h1
 have hr:=h.one (.sQ (x:=⟨i,s.now,⟨1,c,0,z,0⟩⟩) ⟨hi,h.last,.inr (.inr rfl),.inr rfl,.inr rfl⟩ rfl (hx.st.trans hp) h0);refine⟨_,⟨hr,Nat.le_refl _,fun j hj=>?_,fun e C' he=>?_,fun j hj hq=>?_,fun x hx hk=>eJ (h.f1 x hx hk),fun x hx hk=>eJ (h.f2 x hx hk),fun x hx hk hw=>eJ (h.f5 x hx hk hw),h.f6⟩,_,bj _ _ _,rfl⟩
 ·by_cases e:j=i
  ·subst e;simp only [bj];refine⟨rfl,fun _=>⟨rfl,rfl,rfl,rfl⟩,fun e=>absurd e (by simp [cG]),fun e=>?_,hx.log⟩;show bP (σ.d j).had c true e=true↔_;by_cases k:e=c
   ·subst k;simp [Mc.has,cG,bP]
   ·rw [cg _ _ k,hx.had e];simp [Mc.has,cG,hp,Ne.symm k]
  ·simp only [cg _ _ e];exact h.d j hj
 ·by_cases k:e=c
  ·subst k;simp only [bj,agy]at he;subst he;exact⟨ht.symm,hq.symm,Nat.le_of_eq hc⟩
  ·simp only [cg _ _ k]at he;exact⟨(h.ck e C' he).1,(h.ck e C' he).2.1,Nat.le_succ_of_le (h.ck e C' he).2.2⟩
 ·by_cases e:j=i
  ·subst e;simp only [bj];exact⟨_,bj σ.c _ _,fun e=>by simp [cG]at e,fun _=>rfl,fun _ e=>by simp [cG]at e⟩
  ·simp only [cg _ _ e]at hq ⊢;exact eJ (h.ms j hj hq)
variable {K:Type} {z:K} {F:Nat→K→K→Nat→Nat→K} {H:K→K} {num:Nat→Nat} {s s':Sy K} {eG:List (Fe K)} {recs:Nat→List (Rc×Nat)} {σ:Ss K}
theorem iN.YG(h:iN z num s eG recs σ){i:Nat}:Cn z num s (eG++([]:List (Ev K)).map fun v=>⟨i,s.now,v⟩) (bP recs i (recs i++([]:List Rc).map fun v=>(v,s.now))):=by
 simp only [List.map_nil,agL,h_];exact⟨σ,h⟩
theorem MF(i:Nat)(m:Mc K)(sub:List Nat)(why oc:Nat):leaves z i m sub why oc=⟨{m with ph:=0},(leaves z i m sub why oc).o,[lP z m oc],[uq m oc]⟩:=rfl
theorem Pf.ph{m:Mc K}{done:Nat→Bool}{l:List (Rc×Nat)}{d:Sd}(h:Pf m done l d){k:Nat}(e:m.ph=k):d.st=k:=h.st.trans e
theorem yn{i:Nat}{m:Mc K}(hC: ∃C,σ.c m.c=some C∧i∈C.dj){key:K}: ∀x∈[(⟨2,m.c,i,m.peer,key,0⟩:Mg K),⟨3,m.c,i,m.peer,z,0⟩],EN s σ x:=by
 intro x hx;rcases List.mem_cons.1 hx with rfl | hx
 ·exact⟨fun e=>by simp at e,fun _=>hC,fun e=>by simp at e,fun e=>by simp at e⟩
 ·rw [agZ]at hx;subst hx;exact .plain (.inl rfl)
variable [DecidableEq K]
abbrev Goes(z:K)(num:Nat→Nat)(s s':Sy K)(i:Nat)(r:Rs K)(eG:List (Fe K))(recs:Nat→List (Rc×Nat)):Prop:=
 Cn z num s' (eG++r.e.map fun v=>⟨i,s.now,v⟩) (bP recs i (recs i++r.r.map fun v=>(v,s.now)))
theorem AV{i:Nat}{r:Rs K}(a:gP s s' i r)(t:Sy K)(h:Cn z num t (eG++r.e.map fun v=>⟨i,s.now,v⟩) (bP recs i (recs i++r.r.map fun v=>(v,s.now))))(h1:t.now=s.now)(h2:t.ms=bP s.ms i r.m)(h3:t.bW=s.bW++r.o)(h4:t.dl=s.dl)
  (h5:(r.e.foldl (eM i r.m.out) ⟨s.bb,s.pr,false⟩).bb=t.bb) (h6:(r.e.foldl (eM i r.m.out) ⟨s.bb,s.pr,false⟩).pr=t.pr) (h7:(r.r.foldl (vF i s.now) (s.done,false)).1=t.done):Goes z num s s' i r eG recs:=by
 obtain⟨σ,h⟩:=h;rw [a.ev]at h5 h6;rw [a.rc]at h7;exact⟨σ,h.congr (a.now.trans h1.symm) (a.ms.trans h2.symm) (a.bW.trans h3.symm) (a.dl.trans h4.symm) h5 h6 h7⟩
theorem Uk{i:Nat}{r:Rs K}(a:gP s s' i r){t:Sy K}{YF:List (Fe K)}{Ul:Nat→List (Rc×Nat)}(h:iN z num t YF Ul σ)(he:YF=eG++r.e.map fun v=>⟨i,s.now,v⟩)(hr:Ul=bP recs i (recs i++r.r.map fun v=>(v,s.now)))(h1:t.now=s.now)(h2:t.ms=bP s.ms i r.m)(h3:t.bW=s.bW++r.o)(h4:t.dl=s.dl)
  (h5:(r.e.foldl (eM i r.m.out) ⟨s.bb,s.pr,false⟩).bb=t.bb) (h6:(r.e.foldl (eM i r.m.out) ⟨s.bb,s.pr,false⟩).pr=t.pr) (h7:(r.r.foldl (vF i s.now) (s.done,false)).1=t.done):Goes z num s s' i r eG recs:=
 AV a t ⟨σ,he▸hr▸h⟩ h1 h2 h3 h4 h5 h6 h7
theorem iN.jr(h:iN z num s eG recs σ){i:Nat}(a:gP s s' i (gG (s.ms i))):Goes z num s s' i (gG (s.ms i)) eG recs:=
 AV a s h.YG rfl (h_ _ _).symm (by simp [gG]) rfl rfl rfl rfl
theorem iN.outs(h:iN z num s eG recs σ){i:Nat}{l:List (Mg K)}(hl: ∀x∈l,EN s σ x)(a:gP s s' i ⟨s.ms i,l,[],[]⟩):Goes z num s s' i ⟨s.ms i,l,[],[]⟩ eG recs:=
 AV a {s with bW:=s.bW++l} (h.nh l hl).YG rfl (h_ _ _).symm rfl rfl rfl rfl rfl
theorem iN.left(h:iN z num s eG recs σ){i:Nat}(hi:i<4)(hp:(s.ms i).ph≠0){C:Sc K}(hC:σ.c (s.ms i).c=some C){oc:Nat}(ho:DG (σ.d i) C i oc){l:List (Mg K)}
  (hl: ∀x∈l,x.k=5∧(x.why=2→x.c=(s.ms i).c∧(C.gO=x.t→(C.decl||(oc==4&& !(s.ms i).out))=true))) (a:gP s s' i ⟨{s.ms i with ph:=0},l,[lP z (s.ms i) oc],[uq (s.ms i) oc]⟩):
  Goes z num s s' i ⟨{s.ms i with ph:=0},l,[lP z (s.ms i) oc],[uq (s.ms i) oc]⟩ eG recs:=by
 have g:=h.gone (z:=z) hi hp hC ho;refine AV a _ ⟨_,g.nh l fun x hx=>?_⟩ rfl rfl rfl rfl rfl rfl rfl;obtain⟨h1,h2⟩:=hl x hx;refine⟨fun e=>by omega,fun e=>by omega,fun _ e=>?_,fun e=>by omega⟩;obtain⟨k1,k2⟩:=h2 e;exact⟨_,by rw [k1];exact bj _ _ _,k2⟩
theorem iN.leave(h:iN z num s eG recs σ)(hI:s.Inv F H num){i:Nat}(hi:i<4)(hp:(s.ms i).ph≠0){sub:List Nat}(hs: ∀j∈sub,j∈others i){why oc:Nat}(hw:(s.ms i).ph≠1→why≠2)(ho: ∀C,σ.c (s.ms i).c=some C→DG (σ.d i) C i oc)
  (a:gP s s' i (leaves z i (s.ms i) sub why oc)):Goes z num s s' i (leaves z i (s.ms i) sub why oc) eG recs:=by
 obtain⟨C,c1,c2,c3,c4⟩:=h.ms i hi hp;rw [MF]at a ⊢;refine h.left hi hp c1 (ho C c1) (fun x hx=>?_) a;simp only [leaves]at hx;split at hx
 ·next h1=>
  obtain⟨j,hj,rfl⟩:=ag9.1 hx;refine⟨rfl,fun _=>⟨rfl,fun e=>?_⟩⟩;have:=lb hi (hs j hj);have h2:=(hI.ms i hi).d1 h1;rw [c3 h2.2.2.2.2]at e;exact absurd (congrArg acc e).symm this.2
 ·next h1=>
  rw [agZ]at hx;subst hx;exact⟨rfl,fun e=>absurd e (hw h1)⟩
theorem iN.end_(h:iN z num s eG recs σ){i:Nat}(hi:i<4)(hp:(s.ms i).ph≠0){oc:Nat}(ho: ∀C,σ.c (s.ms i).c=some C→DG (σ.d i) C i oc)(a:gP s s' i (ends z (s.ms i) oc)):Goes z num s s' i (ends z (s.ms i) oc) eG recs:=by
 obtain⟨C,c1,c2,c3,c4⟩:=h.ms i hi hp;exact h.left hi hp c1 (ho C c1) (fun x hx=>by simp at hx) a
theorem iN.tick(h:iN z num s eG recs σ)(hI:s.Inv F H num){i:Nat}(hi:i<4){o:Or}(hs: ∀j∈o.sub,j∈others i)(a:gP s s' i (tick z i (s.ms i) s.now o)):Goes z num s s' i (tick z i (s.ms i) s.now o) eG recs:=by
 have hd:=h.d i hi
 revert a
 simp only [Cp.tick];split
 ·next c=>
  intro a;refine h.leave hI hi (by omega) hs (fun _=>by decide) (fun C _=>?_) a;rcases c.1 with e | e
  ·exact .sQ (hd.ph e) (.inl rfl)
  ·exact .ring (hd.ph e) (.inl rfl)
 split
 ·next c=>exact fun a=>h.leave hI hi (by omega) hs (fun _=>by decide) (fun C _=> .conn (hd.ph c.1) (.inl rfl)) a
 split
 ·next c=>exact fun a=>h.leave hI hi (by omega) hs (fun _=>by decide) (fun C _=> .act (hd.ph c.1) rfl) a
 split
 ·next c=>
  intro a;refine AV a _ ((h.AT hi (s.ms i).heard s.now (s.ms i).dec fun e=>by omega).nh [⟨3,(s.ms i).c,i,(s.ms i).peer,z,0⟩] fun x hx=>?_).YG rfl rfl rfl rfl rfl rfl rfl;rw [agZ]at hx;subst hx;exact .plain (.inl rfl)
 ·exact fun a=>h.jr a
theorem iN.ng(h:iN z num s eG recs σ)(hI:s.Inv F H num){i:Nat}(hi:i<4){o:Or}(hs: ∀j∈o.sub,j∈others i)(a:gP s s' i (ng z i (s.ms i) o)):Goes z num s s' i (ng z i (s.ms i) o) eG recs:=by
 have hd:=h.d i hi;have h4:=(hI.ms i hi).ph
 revert a
 simp only [Cp.ng];split
 ·exact fun a=>h.jr a
 ·next c=>
  intro a;refine h.leave hI hi (by omega) hs (fun _=>by decide) (fun C _=>?_) a;have:(s.ms i).ph=1∨(s.ms i).ph=3∨(s.ms i).ph=4:=by omega
  rcases this with e | e | e
  ·rw [if_neg (by omega)];exact .sQ (hd.ph e) (.inr (.inr (.inl rfl)))
  ·rw [if_neg (by omega)];exact .conn (hd.ph e) (.inr (.inl rfl))
  ·rw [if_pos e];exact .act (hd.ph e) rfl
theorem iN.dW(h:iN z num s eG recs σ)(hI:s.Inv F H num){i:Nat}(hi:i<4)(a:gP s s' i (dW z i (s.ms i))):Goes z num s s' i (dW z i (s.ms i)) eG recs:=by
 have hd:=h.d i hi
 revert a
 simp only [Cp.dW];split
 ·next c=>
  intro a;obtain⟨C,c1,c2,c3,c4⟩:=h.ms i hi (by omega);refine h.left hi (by omega) c1 (.ring (hd.ph c) (.inr (.inl rfl))) (fun x hx=>?_) a;rw [agZ]at hx;subst hx;have:=((hI.ms i hi).d2 c).1;exact⟨rfl,fun _=>⟨rfl,fun _=>by simp [this]⟩⟩
 ·exact fun a=>h.jr a
theorem iN.answer(h:iN z num s eG recs σ)(hI:s.Inv F H num){i:Nat}(hi:i<4)(key:K)(a:gP s s' i (answer z F i (s.ms i) key s.now)):Goes z num s s' i (answer z F i (s.ms i) key s.now) eG recs:=by
 revert a
 simp only [Cp.answer];split
 ·next c=>
  intro a;have ho:=((hI.ms i hi).d2 c).1;obtain⟨nj,h',hC⟩:=h.bF (F:=F) hi c ho key;have h2:=h'.nh (answers z F i (s.ms i) key s.now).o (yn (z:=z) hC);have e:recs=bP recs i (recs i++([]:List Rc).map fun v=>(v,s.now)):=by simp [h_]
  refine AV a _ ⟨nj,Eq.subst (motive:=fun q=>iN z num _ _ q nj) e h2⟩ rfl rfl rfl rfl ?_ ?_ rfl
  ·simp [answers,eM,ho]
  ·simp [answers,eM,ho]
 ·exact fun a=>h.jr a
theorem iN.take(h:iN z num s eG recs σ)(hI:s.Inv F H num){x:Mg K}(hx:s.Fact x)(hS:EN s σ x){o:Or}(hs: ∀j∈o.sub,j∈others x.t)(a:gP s s' x.t (take z F H x.t (s.ms x.t) x s.now o)):Goes z num s s' x.t (take z F H x.t (s.ms x.t) x s.now o) eG recs:=by
 obtain⟨r1,r2,r3,r4,r5⟩:=hx.rt;have hd:=h.d x.t r2;have one: ∀{y:Mg K},(y.k=3∨y.k=4∨y.k=5∧y.why≠2)→gP s s' x.t ⟨s.ms x.t,[y],[],[]⟩→Goes z num s s' x.t ⟨s.ms x.t,[y],[],[]⟩ eG recs:=by
  intro y hy a;refine h.outs (fun w hw=>?_) a;rw [agZ]at hw;subst hw;exact .plain hy
 have nr:recs=bP recs x.t (recs x.t++([]:List Rc).map fun v=>(v,s.now)):=by simp [h_]
 revert a
 simp only [Cp.take];by_cases k1:x.k=1
 ·rw [if_pos k1];obtain⟨C,c1,c2⟩:=hS.f1 k1;obtain⟨q1,q2,q3,q4,q5⟩:=hx.f1 k1;split
  ·exact fun a=>h.jr a
  split
  ·next p0=>
   intro a;obtain⟨nj,h'⟩:=h.ring (z:=z) r2 p0 c1 c2 ⟨r3,r1⟩ q3;exact AV a _ ⟨nj,Eq.subst (motive:=fun q=>iN z num _ _ q nj) nr h'⟩ rfl rfl (by simp) rfl rfl rfl rfl
  split
  ·exact fun a=>h.jr a
  next ne=>
  split
  ·next g=>
   intro a;have W5:=(hI.ms x.t r2).d1 g.1;obtain⟨D,e1,e2,e3,e4⟩:=h.ms x.t r2 (by omega);have g1:=h.gone (z:=z) r2 (by omega) e1 (oc:=7) (.sQ (hd.ph g.1) (.inr (.inr (.inl rfl))));have g2:=g1.nh (leaves z x.t (s.ms x.t) o.sub 4 7).o (by
    intro y hy;simp only [leaves,if_pos g.1]at hy;obtain⟨j,hj,rfl⟩:=ag9.1 hy;exact .plain (.inr (.inr ⟨rfl,by simp⟩)))
   obtain⟨σ2,g3⟩:=g2.ring (z:=z) (i:=x.t) r2 (by simp [bP]) (x:=x) (C:=C) ((cg _ _ (Ne.symm ne)).trans c1) c2 ⟨r3,r1⟩ (by
    simp only [jZ];rw [if_neg (fun e=>ne e.2.symm)];exact q3)
   obtain⟨σ3,g4,hC⟩:=g3.bF (F:=F) (i:=x.t) r2 (by simp [bP,rings]) (by simp [bP,rings]) (s.ms x.t).own;simp only [bj,zn]at g4 hC;have g5:=g4.nh (answers z F x.t (rings z x s.now) (s.ms x.t).own s.now).o (yn (z:=z) (m:=rings z x s.now) hC);refine Uk a g5 ?_ rfl rfl rfl ?_ rfl ?_ ?_ rfl
   ·simp [answers,rings,leaves]
   ·exact(ahf _ _ _)
   ·simp [answers,eM,rings,leaves,lP,nZ]
   ·simp [answers,eM,rings,leaves,lP,nZ]
  split
  ·exact fun a=>h.jr a
  ·exact one (.inr (.inl rfl))
 rw [if_neg k1];by_cases k2:x.k=2
 ·rw [if_pos k2];split
  ·exact one (.inr (.inr ⟨rfl,by simp⟩))
  next hh=>
  have hh:=agN.1 hh;split
  ·next g=>
   have W5:=(hI.ms x.t r2).d1 g.1;obtain⟨o1,o2,o3,o4,o5⟩:=W5;obtain⟨σ1,g1⟩:=h.conn (z:=z) (f:=x.f) r2 g.1 o5 o3 (by rw [hh.2];exact hS.f2 k2) (F (s.ms x.t).c (s.ms x.t).own x.key x.t x.f);have g2:=g1.nh (⟨3,(s.ms x.t).c,x.t,x.f,z,0⟩::to z 6 (s.ms x.t).c x.t (o.pg.filter (· ≠x.f)) 0) (by
    intro y hy;rcases List.mem_cons.1 hy with rfl | hy
    ·exact .plain (.inl rfl)
    ·obtain⟨j,hj,rfl⟩:=ag9.1 hy;refine⟨fun e=>by simp at e,fun e=>by simp at e,fun e=>by simp at e,fun _=>⟨x.f,bj _ _ _,?_⟩⟩;have:=(agP.1 hj).2;simp at this;exact Ne.symm this)
   split
   ·intro a;obtain⟨σ2,g3⟩:=g2.act (H:=H) (i:=x.t) r2 (by simp [bP]) (by simp [bP,o5]) (by simp [bP,o4]);simp only [bj,zn]at g3;refine Uk a g3 ?_ nr rfl rfl rfl rfl ?_ ?_ rfl
    ·simp
    ·simp [eM,active,o5]
    ·simp [eM,active,o5]
   ·intro a;refine AV a _ ⟨σ1,Eq.subst (motive:=fun q=>iN z num _ _ q σ1) nr g2⟩ rfl rfl rfl rfl ?_ ?_ rfl
    ·simp [eM,o5]
    ·simp [eM,o5]
  split
  ·next g=>
   refine fun a=>h.outs (fun w hw=>?_) a
   rw [agZ]at hw;subst hw;have h4:=(hI.ms x.t r2).d2;have ph:3≤(s.ms x.t).ph:=by
    have h0:=hh.1;have h1:=g.1;have h2:(s.ms x.t).ph≠2:=fun e=>by have:=(h4 e).1;rw [g.2.1]at this;cases this
    omega
   exact⟨fun e=>by simp at e,fun e=>by simp at e,fun e=>by simp at e,fun _=>⟨_,by rw [←hh.2];exact((hI.ms x.t r2).d3 ph g.2.1).2.1,fun e=>g.2.2 e.symm⟩⟩
  ·exact fun a=>h.jr a
 rw [if_neg k2];by_cases k3:x.k=3
 ·rw [if_pos k3];split
  ·exact one (.inr (.inr ⟨rfl,by simp⟩))
  next hh=>
  have hh:=agN.1 hh;split
  ·exact fun a=>h.jr a
  next hn=>
  split
  ·next p3=>
   intro a;have ht:(s.ms x.t).out=false→s.bb (s.ms x.t).c=some x.t:=by
    intro ho;rw [hh.2];rcases hx.f3 k3 with q | q
    ·exact q.2
    ·have:=(hI.ms x.t r2).io hh.1 ho;rw [hh.2,q.1]at this;exact absurd (congrArg acc (Option.some.inj this.1).symm) this.2.1
   obtain⟨nj,h'⟩:=h.act (H:=H) r2 p3 (by
    cases ho:(s.ms x.t).out with
    | true=>exact((hI.ms x.t r2).d3 (by omega) ho).2.1
    | false=>exact ht ho) (fun k hk=>hI.told r2 (by omega) ht hk)
   refine AV a _ ⟨nj,Eq.subst (motive:=fun q=>iN z num _ _ q nj) nr h'⟩ rfl rfl (by simp) rfl ?_ ?_ rfl
   ·simp [eM,active]
   ·simp [eM,active]
  split
  ·next p4=>
   exact fun a=>AV a _ (h.AT r2 s.now (s.ms x.t).bO (s.ms x.t).dec fun e=>by omega).YG rfl rfl (by simp) rfl rfl rfl rfl
  ·exact fun a=>h.jr a
 rw [if_neg k3];have ov: ∀(C:Sc K) (d:Bool) (k:Nat),(s.ms x.t).ph=1→(d=true→C.decl=true)→DG (σ.d x.t) C x.t (VH d k):=by
  intro C d k p1 W5;refine .sQ (hd.ph p1) ?_;unfold VH;split
  ·exact .inl rfl
  split
  ·exact .inr (.inl rfl)
  split
  ·next e=>exact .inr (.inr (.inr ⟨rfl,W5 e⟩))
  ·exact .inl rfl
 by_cases k4:x.k=4
 ·rw [if_pos k4];split
  ·next g=>
   refine fun a=>h.leave hI r2 (by omega) hs (fun e=>absurd g.2.1 e) (fun C c1=>ov C _ _ g.2.1 fun hq=>?_) a
   obtain⟨D,e1,e2,e3,e4⟩:=h.ms x.t r2 (by omega);rw [c1]at e1;cases e1;exact e4 g.2.1 hq
  ·exact fun a=>h.jr a
 rw [if_neg k4];by_cases k5:x.k=5
 ·rw [if_pos k5];split
  ·exact fun a=>h.jr a
  next hh=>
  have hh:=agN.1 hh;split
  ·next p1=>
   obtain⟨D,e1,e2,e3,e4⟩:=h.ms x.t r2 (by omega);have YH:((s.ms x.t).dec||x.why==2)=true→D.decl=true:=by
    intro e;rcases Bool.or_eq_true_iff.1 e with e | e
    ·exact e4 p1 e
    ·obtain⟨C,c1,c2⟩:=hS.f5 k5 (by simpa using e);rw [←hh.2,e1]at c1;cases c1;exact c2 (e3 ((hI.ms x.t r2).d1 p1).2.2.2.2)
   split
   ·refine fun a=>h.leave hI r2 (by omega) hs (fun e=>absurd p1 e) (fun C c1=>?_) a
    rw [e1]at c1;cases c1;exact ov D _ _ p1 YH
   ·exact fun a=>AV a _ (h.AT r2 (s.ms x.t).heard (s.ms x.t).bO ((s.ms x.t).dec||x.why==2) fun _ e=>⟨D,e1,YH e⟩).YG rfl rfl (by simp [gG]) rfl rfl rfl rfl
  next p1=>
  split
  ·exact fun a=>h.jr a
  ·refine fun a=>h.end_ r2 hh.1 (fun C _=>?_) a
   have h4:=(hI.ms x.t r2).ph;have h0:=hh.1;unfold AS;split
   ·next p2=>
    refine .ring (hd.ph p2) ?_;split
    ·exact .inr (.inl rfl)
    ·exact .inl rfl
   split
   ·next p3=>exact .conn (hd.ph p3) (.inl rfl)
   ·exact .act (hd.ph (by omega)) rfl
 rw [if_neg k5];split
 ·next k6=>
  split
  ·next g=>
   obtain⟨p,q1,q2⟩:=hS.f6 k6;refine fun a=>h.end_ r2 g.1.1 (fun C c1=>?_) a
   have W3:C.pg x.t:=⟨p,by rw [(h.ck _ C c1).1,g.1.2];exact q1,q2⟩;rcases g.2.2.2 with e | e
   ·exact .ring (hd.ph e) (.inr (.inr ⟨rfl,W3⟩))
   ·exact .conn (hd.ph e) (.inr (.inr ⟨rfl,W3,(hd.c g.1.1).2.1.trans g.2.2.1⟩))
  ·exact fun a=>h.jr a
 ·exact fun a=>h.jr a
variable {K:Type} {z:K} {σ nj:Ss K} {x:Fe K} {n:Nat}
structure Small (σ:Ss K) (n:Nat):Prop where
 d: ∀i,(σ.d i).log.length≤n
 c: ∀c C,σ.c c=some C→C.dj.length≤n
theorem Small.start:Small (Ss.start:Ss K) 0:=⟨fun _=>Nat.le_refl _,fun _ _ h=>(nomatch h)⟩
theorem sq{f:Nat→Sd}{i:Nat}{d:Sd}(h: ∀i,(f i).log.length≤n)(hd:d.log.length≤n+1)(j:Nat):(bP f i d j).log.length≤n+1:=by
 unfold bP;split
 ·exact hd
 ·exact Nat.le_succ_of_le (h j)
theorem vG{f:Nat→Option (Sc K)}{e:Nat}{D:Sc K}(h: ∀c C,f c=some C→C.dj.length≤n)(hD:D.dj.length≤n+1)(c:Nat)(C:Sc K)(hC:bP f e (some D) c=some C):C.dj.length≤n+1:=by
 unfold bP at hC;split at hC
 ·cases hC;exact hD
 ·exact Nat.le_succ_of_le (h c C hC)
theorem Small.step(h:Small σ n)(hs:Sp z σ x nj):Small nj (n+1):=by
 have l: ∀i,(σ.d i).log.length≤n+1:=fun i=>Nat.le_succ_of_le (h.d i)
 have j: ∀{c C},σ.c c=some C→C.dj.length≤n+1:=fun hC=>Nat.le_succ_of_le (h.c _ _ hC)
 cases hs with
 | sQ hb hk hd hc=>exact⟨sq h.d (l _),vG h.c (Nat.zero_le _)⟩
 | ring c hb hk hd hh hc ha=>exact⟨sq h.d (l _),fun c C hC=>j hC⟩
 | takes c hb hk hd he hc ht hj=>exact⟨sq h.d (l _),vG h.c (D:={c with bb:=some x.e.peer}) (show c.dj.length≤n+1 from j hc)⟩
 | iI c hb hk hd he hc hj=>exact⟨sq h.d (l _),vG h.c (by have:=h.c _ _ hc;simp;omega)⟩
 | acts c hb hk hd he hc hp ht Rr=>exact⟨sq h.d (d:={σ.d x.i with st:=4,bF:=x.w}) (l _),vG h.c (D:={c with print:=some x.e.key}) (show c.dj.length≤n+1 from j hc)⟩
 | ends c hb hk he hc ho=>exact⟨sq h.d (by have:=h.d x.i;simp [Sd.ends];omega),vG h.c (D:={c with decl:=c.decl||(x.e.oc==4&& !(σ.d x.i).out)}) (show c.dj.length≤n+1 from j hc)⟩
theorem Pg{l:List (Fe K)}{f:Nat→Ss K}(h0:f 0=Ss.start)(hs: ∀(n:Nat) (x:Fe K),l[n]? =some x→Sp z (f n) x (f (n+1))): ∀n,n≤l.length→Small (f n) n:=by
 intro n
 induction n with
 | zero=>exact fun _=>h0▸Small.start
 | succ n ih=>exact fun hn=>(ih (by omega)).step (hs n l[n] (ag6 (by omega)))
end Go.Cp

namespace Go.RX.So
open Go.RX
def yp(l:List SV)(hp:List Ck):List Nat:=
 match l with
 | .vv v::_=>match ef hp v with
  | some (j,_)=>[j]
  | none=>[]
 | _=>[]
def contains:bp:={use:=yp,inc:={bo:=1},val:=fun c=> .bool (.var c.bo),new:=fun _ h=>h}
def calls(f s:Nat):Option bp:=
 match f,s with
 | 108,27=>some contains
 | 122,7=>some {use:=yp,inc:={i:=1},val:=fun c=> .int .i64 (.var c.i),new:=fun _ h=>h}
 | _,_=>none
def loops(f id:Nat):Option jg:=
 match f,id with
 | 138,0=>some {inc:={i:=1},slots:=fun c=>[(8,.int .i64 (.var c.i))]}
 | _,_=>none
def u8(i:Nat):SV:= .int .u8 (.var i)
def Vv:SV:= .agg [u8 0,u8 1,u8 2,.int .u64 (.var 3),.a_ .u8 16 (.aw 0),u8 4,u8 5,u8 6,.a_ .u8 32 (.aw 1),u8 7]
def MG:E:= .kc 2 (.bP (.bP (.lit 0) (.lit 0) (.var 1)) (.lit 1) (.var 2))
def SG:E:= .kc 16 (.aw 0)
def oP:List IntKind:=List.replicate 16 .u8
def I2:Ck:= .row 0 true [.a_ .u8 8 (.aw 2),.mp 1,.mp 2,.int .u64 (.var 8)]
def VJ(has ptr:E):Ck:= .map 1 oP true false [.dR] has [⟨.ptr,1,ptr⟩]
def AW(has ptr:E):Ck:= .map 2 [.u8,.u8] true false [.dR] has [⟨.ptr,1,ptr⟩]
def jX(o:Nat):List cb:=[⟨.int .u8,16,.aw o⟩,⟨.int .u8,1,.aw (o+1)⟩,⟨.bool,1,.aw (o+2)⟩,⟨.int .u8,1,.aw (o+3)⟩,⟨.int .u64,1,.aw (o+4)⟩,⟨.int .u64,1,.aw (o+5)⟩,⟨.int .u64,1,.aw (o+6)⟩]
def Um:List Ck:=[
 .row 3 true [u8 9,.a_ .u8 16 (.aw 3),.bool (.nz (.var 22)),u8 10,u8 11,u8 12,.int .u64 (.var 13),.int .u64 (.var 14),.mp 4,.vv 0],
 .map 4 oP true true [] (.aw 4) [],
 .cy true 0 85 22 (.var 15) (jX 5)]
def VK:List Ck:=[
 .row 5 true [u8 16,u8 17,u8 18,.vv 1,.bool (.var 1),.bool (.var 2),u8 20,u8 21,.bool (.var 3),.a_ .u8 32 (.aw 14)],
 .cy true 1 30 2 (.var 19) [⟨.int .u8,1,.aw 12⟩,⟨.int .u8,1,.aw 13⟩]]
def T9:List Ck:=[I2,VJ (.aw 15) (.aw 16),AW (.bP (.aw 17) MG (.lit 0)) (.bP (.aw 18) MG (.lit 0))]
def T7:List Ck:=[I2,VJ (.bP (.aw 15) SG (.lit 0)) (.bP (.aw 16) SG (.lit 0)),AW (.bP (.aw 17) MG (.lit 1)) (.bP (.aw 18) MG (.rT 3))]++Um
def hp1:List Ck:=[I2,VJ (.bP (.aw 15) SG (.lit 1)) (.bP (.aw 16) SG (.rT 5)),AW (.bP (.aw 17) MG (.lit 1)) (.bP (.aw 18) MG (.rT 3))]++Um++VK
def MH:cF:={b:=6,v:=2,i:=23,a:=19,bo:=4}
open Go.RX Go.Proofs
noncomputable def cx:Ctx:={T:=TT,FT:=FT,loops:=loops,calls:=calls}
open Go.RX Go.Proofs
set_option maxRecDepth 100000
def GJ(_:Program)(aq:Value→List HP→Prop)(x0 x1 x2 x3 x4 x5 x6 x7 x8 _ _ _ _ _ _ _ _ _ _ _ _ _ _:Int)(A0 A1 A2 _ _ _ _ _ _ _ _ _ _ _ _ eD dX dY dQ:Nat→Int)(_ _ _ _:Bool)(_ _:V1)(b0 b1 b2 _ _ _:Nat):Prop:=
 ∀b6:Nat,aq (.int .i64 6) [Yw b0 A2 b1 b2 x8,Kw b1 eD dX,Gw b2 (aj dY (kD x1 x2) 0) (aj dQ (kD x1 x2) 0),Ew b6 x0 x1 x2 x3 A0 x4 x5 x6 A1 x7]
theorem Ph(P:Program)(aq:Value→List HP→Prop)(x0 x1 x2 x3 x4 x5 x6 x7 x8 x9 aO aQ aM aR aY bV cN cY cQ cP aX bz bx:Int)(A0 A1 A2 A3 A4 A5 A6 A7 A8 A9 bU cz dT dU eS eD dX dY dQ:Nat→Int)(q0 q1 q2 q3:Bool)(v0 v1:V1)(b0 b1 b2 b3 b4 b5:Nat)(L:Nat→LC):VC P aq (eE cx 36 [.ptr 0 0,Vv] T9 MH Try.f36) {iv:=[x0,x1,x2,x3,x4,x5,x6,x7,x8,x9,aO,aQ,aM,aR,aY,bV,cN,cY,cQ,cP,aX,bz,bx],av:=[A0,A1,A2,A3,A4,A5,A6,A7,A8,A9,bU,cz,dT,dU,eS,eD,dX,dY,dQ],bo:=[q0,q1,q2,q3],bv:=[b0,b1,b2,b3,b4,b5],vv:=[v0,v1]} L=GJ P aq x0 x1 x2 x3 x4 x5 x6 x7 x8 x9 aO aQ aM aR aY bV cN cY cQ cP aX bz bx A0 A1 A2 A3 A4 A5 A6 A7 A8 A9 bU cz dT dU eS eD dX dY dQ q0 q1 q2 q3 v0 v1 b0 b1 b2 b3 b4 b5:=by kernel_rfl
def GK(_:Program)(aq:Value→List HP→Prop)(x0 x1 x2 x3 x4 x5 x6 x7 x8 x9 aO aQ aM aR aY bV _ _ _ _ _ _ bx:Int)(A0 A1 A2 A3 A4 A5 A6 A7 A8 A9 bU cz _ _ _ eD dX dY dQ:Nat→Int)(_ _ _ _:Bool)(v0 _:V1)(b0 b1 b2 b3 b4 _:Nat):Prop:=
 ∀b6:Nat,aK (¬(x3<x8)) (
 ∀b7:Nat,aK (((((x0=3)∨(x0=4))∨((x5=0)∧(x6=0)))∧((x0=4)∨(∀j,j<32→A1 j=(fun _=>0) j)))∧((x0=5)∨(x7=0))) (
 ∀b8:Nat,aK (x0=1) (
 aK (x9=0) (
 aE ((-9223372036854775808)≤x4) (
 aE (x4≤9223372036854775807) (
 aE ((¬(x4<8))∨(0≤x4)) (
 aE ((¬(x4<8))∨(x4<8)) (
 aE ((¬(x4<8))∨(0≤x4)) (
 aE ((¬(x4<8))∨(x4<8)) (
 aE ((¬((x4<8)∧(0<(A2 (ag x4)))))∨(0≤x4)) (
 aE ((¬((x4<8)∧(0<(A2 (ag x4)))))∨(x4<8)) (
 aE ((¬((x4<8)∧(0<(A2 (ag x4)))))∨(0≤x4)) (
 aE ((¬((x4<8)∧(0<(A2 (ag x4)))))∨(x4<8)) (
 aK ((¬(((x4<8)∧(0<(A2 (ag x4))))∧((A2 (ag x4))≤4)))∨(x4=x1)) (
 aq (.int .i64 6) [Yw b0 A2 b1 b2 x8,Kw b1 (aj eD (kI A0) 0) (aj dX (kI A0) 0),Gw b2 (aj dY (kD x1 x2) 1) (aj dQ (kD x1 x2) ((b3:Nat)+1:Int)),Vw b3 x9 A3 (!(bx==0)) aO aQ aM aR aY b4 v0.v,Jw b4 A4,Rw v0 bV A5 A6 A7 A8 A9 bU cz,Ew b6 x0 x1 x2 x3 A0 x4 x5 x6 A1 x7,Ew b7 x0 x1 x2 x3 A0 x4 x5 x6 A1 x7,Ew b8 x0 x1 x2 x3 A0 x4 x5 x6 A1 x7]) (
 ∀b9:Nat,∀jI:Nat,aq (.int .i64 0) [Yw b0 A2 b1 b2 x3,Kw b1 (aj (aj eD (kI A0) 0) (kI A0) 1) (aj (aj dX (kI A0) 0) (kI A0) ((b9:Nat)+1:Int)),Gw b2 (aj dY (kD x1 x2) 1) (aj dQ (kD x1 x2) ((b3:Nat)+1:Int)),Vw b3 1 A0 true x4 0 0 x3 0 b4 v0.v,Jw b4 (aj A4 (kI A0) 1),Rw v0 bV A5 A6 A7 A8 A9 bU cz,Ew b6 x0 x1 x2 x3 A0 x4 x5 x6 A1 x7,Ew b7 x0 x1 x2 x3 A0 x4 x5 x6 A1 x7,Ew b8 x0 x1 x2 x3 A0 x4 x5 x6 A1 x7,Cw b9 x1 x2 x4 (.slice none 0 0) false false 0 0 false (fun _=>0),Ew jI x0 x1 x2 x3 A0 x4 x5 x6 A1 x7])))))))))))) (
 aq (.int .i64 6) [Yw b0 A2 b1 b2 x8,Kw b1 (aj eD (kI A0) 0) (aj dX (kI A0) 0),Gw b2 (aj dY (kD x1 x2) 1) (aj dQ (kD x1 x2) ((b3:Nat)+1:Int)),Vw b3 x9 A3 (!(bx==0)) aO aQ aM aR aY b4 v0.v,Jw b4 A4,Rw v0 bV A5 A6 A7 A8 A9 bU cz,Ew b6 x0 x1 x2 x3 A0 x4 x5 x6 A1 x7,Ew b7 x0 x1 x2 x3 A0 x4 x5 x6 A1 x7,Ew b8 x0 x1 x2 x3 A0 x4 x5 x6 A1 x7])) (
 aq (.int .i64 6) [Yw b0 A2 b1 b2 x8,Kw b1 (aj eD (kI A0) 0) (aj dX (kI A0) 0),Gw b2 (aj dY (kD x1 x2) 1) (aj dQ (kD x1 x2) ((b3:Nat)+1:Int)),Vw b3 x9 A3 (!(bx==0)) aO aQ aM aR aY b4 v0.v,Jw b4 A4,Rw v0 bV A5 A6 A7 A8 A9 bU cz,Ew b6 x0 x1 x2 x3 A0 x4 x5 x6 A1 x7,Ew b7 x0 x1 x2 x3 A0 x4 x5 x6 A1 x7,Ew b8 x0 x1 x2 x3 A0 x4 x5 x6 A1 x7])) (
 aq (.int .i64 6) [Yw b0 A2 b1 b2 x8,Kw b1 (aj eD (kI A0) 0) (aj dX (kI A0) 0),Gw b2 (aj dY (kD x1 x2) 1) (aj dQ (kD x1 x2) ((b3:Nat)+1:Int)),Vw b3 x9 A3 (!(bx==0)) aO aQ aM aR aY b4 v0.v,Jw b4 A4,Rw v0 bV A5 A6 A7 A8 A9 bU cz,Ew b6 x0 x1 x2 x3 A0 x4 x5 x6 A1 x7,Ew b7 x0 x1 x2 x3 A0 x4 x5 x6 A1 x7])) (
 aq (.int .i64 6) [Yw b0 A2 b1 b2 x8,Kw b1 (aj eD (kI A0) 0) (aj dX (kI A0) 0),Gw b2 (aj dY (kD x1 x2) 1) (aj dQ (kD x1 x2) ((b3:Nat)+1:Int)),Vw b3 x9 A3 (!(bx==0)) aO aQ aM aR aY b4 v0.v,Jw b4 A4,Rw v0 bV A5 A6 A7 A8 A9 bU cz,Ew b6 x0 x1 x2 x3 A0 x4 x5 x6 A1 x7])
theorem Pj(P:Program)(aq:Value→List HP→Prop)(x0 x1 x2 x3 x4 x5 x6 x7 x8 x9 aO aQ aM aR aY bV cN cY cQ cP aX bz bx:Int)(A0 A1 A2 A3 A4 A5 A6 A7 A8 A9 bU cz dT dU eS eD dX dY dQ:Nat→Int)(q0 q1 q2 q3:Bool)(v0 v1:V1)(b0 b1 b2 b3 b4 b5:Nat)(L:Nat→LC):VC P aq (eE cx 36 [.ptr 0 0,Vv] T7 MH Try.f36) {iv:=[x0,x1,x2,x3,x4,x5,x6,x7,x8,x9,aO,aQ,aM,aR,aY,bV,cN,cY,cQ,cP,aX,bz,bx],av:=[A0,A1,A2,A3,A4,A5,A6,A7,A8,A9,bU,cz,dT,dU,eS,eD,dX,dY,dQ],bo:=[q0,q1,q2,q3],bv:=[b0,b1,b2,b3,b4,b5],vv:=[v0,v1]} L=GK P aq x0 x1 x2 x3 x4 x5 x6 x7 x8 x9 aO aQ aM aR aY bV cN cY cQ cP aX bz bx A0 A1 A2 A3 A4 A5 A6 A7 A8 A9 bU cz dT dU eS eD dX dY dQ q0 q1 q2 q3 v0 v1 b0 b1 b2 b3 b4 b5:=by kernel_rfl
noncomputable def yq:F:=eE cx 122 ([SV.vv 0,SV.agg [SV.int (agu) (E.var 0),SV.int (agu) (E.var 1)]]) ([Ck.cy true 0 30 2 (E.var 2) [{ck:=CK.int (agu),w:=1,a:=E.aw 0},{ck:=CK.int (agu),w:=1,a:=E.aw 1}]]) ({b:=0,v:=1,i:=3,a:=2,bo:=0,p:=0,r:=0}) Try.f122
def yr(P:Program)(aq:Value→List HP→Prop)(x0 x1 x2:Int)(A0 A1:Nat→Int)(v0:V1):Prop:=
 ∀b0:Nat,∃post,au P 138 [v0.v,.agg #[.int .u8 x0,.int .u8 x1]] [Iw v0 x2 A0 A1] post∧
 ∀x hs,post x hs→∃x3:Int,x= .int .i64 x3∧hs=[Iw v0 x2 A0 A1]∧
 aq (.bool (decide (0≤x3))) [Iw v0 x2 A0 A1,ao b0 true ([.int .u8 x0,.int .u8 x1])]
theorem GL(P:Program)(aq:Value→List HP→Prop)(x0 x1 x2:Int)(A0 A1:Nat→Int)(v0:V1)(L:Nat→LC):VC P aq yq {iv:=[x0,x1,x2],av:=[A0,A1],bo:=[],bv:=[],vv:=[v0]} L=yr P aq x0 x1 x2 A0 A1 v0:=by kernel_rfl
theorem EO:eE cx 122 ([SV.vv 0,SV.agg [SV.int (agu) (E.var 0),SV.int (agu) (E.var 1)]]) ([Ck.cy true 0 30 2 (E.var 2) [{ck:=CK.int (agu),w:=1,a:=E.aw 0},{ck:=CK.int (agu),w:=1,a:=E.aw 1}]]) ({b:=0,v:=1,i:=3,a:=2,bo:=0,p:=0,r:=0}) Try.f122=yq:=rfl
noncomputable def ry:F:=eE cx 138 ([SV.vv 0,SV.agg [SV.int (agu) (E.var 0),SV.int (agu) (E.var 1)]]) ([Ck.cy true 0 30 2 (E.var 2) [{ck:=CK.int (agu),w:=1,a:=E.aw 0},{ck:=CK.int (agu),w:=1,a:=E.aw 1}]]) ({b:=0,v:=1,i:=3,a:=2,bo:=0,p:=0,r:=0}) Try.f138
def rz(_:Program)(aq:Value→List HP→Prop)(x0 x1 x2:Int)(A0 A1:Nat→Int)(v0:V1):Prop:=
 ∀b0:Nat,aE (0≤x2) (
 ∃(fY:Ext→Prop) (jM:Ext→Nat),(∃x3:Int,x3=0∧fY ⟨[],[],[x3],[],[],[],[]⟩)∧
 ∀x3:Int,fY ⟨[],[],[x3],[],[],[],[]⟩→
 aK (x3<x2) (
 aE (0≤x3) (
 aK ((x0=(A0 (ag x3)))∧(x1=(A1 (ag x3)))) (
 aq (.int .i64 x3) [Iw v0 x2 A0 A1,ao b0 true ([.int .u8 x0,.int .u8 x1])]) (
 aE ((-9223372036854775808)≤(x3+1)) (
 aE ((x3+1)≤9223372036854775807) (
 ∃OU:Int,OU=(x3+1)∧fY ⟨[],[],[OU],[],[],[],[]⟩∧jM ⟨[],[],[OU],[],[],[],[]⟩<jM ⟨[],[],[x3],[],[],[],[]⟩))))) (
 aq (.int .i64 (-1)) [Iw v0 x2 A0 A1,ao b0 true ([.int .u8 x0,.int .u8 x1])]))
theorem AX(P:Program)(aq:Value→List HP→Prop)(x0 x1 x2:Int)(A0 A1:Nat→Int)(v0:V1)(L:Nat→LC):VC P aq ry {iv:=[x0,x1,x2],av:=[A0,A1],bo:=[],bv:=[],vv:=[v0]} L=rz P aq x0 x1 x2 A0 A1 v0:=by kernel_rfl
theorem xd:eE cx 138 ([SV.vv 0,SV.agg [SV.int (agu) (E.var 0),SV.int (agu) (E.var 1)]]) ([Ck.cy true 0 30 2 (E.var 2) [{ck:=CK.int (agu),w:=1,a:=E.aw 0},{ck:=CK.int (agu),w:=1,a:=E.aw 1}]]) ({b:=0,v:=1,i:=3,a:=2,bo:=0,p:=0,r:=0}) Try.f138=ry:=rfl
end Go.RX.So
