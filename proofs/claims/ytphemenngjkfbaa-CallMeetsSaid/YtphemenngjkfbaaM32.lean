/- Four call machines plainly. -/
import Derived.Test.YtphemenngjkfbaaM31
open List renaming getElem?_eq_some_iff → adJ, map_cons → ad1, mem_append → aea, mem_eraseIdx_iff_getElem → aeo, mem_map → aeu, mem_singleton → aei
open Option.some renaming injEq → adK
namespace Go.Cp
variable {K:Type} {z:K} {F:Nat→K→K→Nat→Nat→K} {H:K→K} {num:Nat→Nat} {s:Sy K}
theorem Sy.Inv.Ta(h:s.Inv F H num){i:Nat}(hi:i<4)(hp:(s.ms i).ph=0){c:Nat}(hc:num c=s.dl+1)(key:K):
  ∃s':Sy K,s'.Inv F H num∧s'.dl=s.dl+1∧s'.now=s.now∧s'.ms=cV s.ms i (dD z i c key s.now).m∧s'.bS=s.bS++(dD z i c key s.now).o∧s'.bI=s.bI∧s'.pr=s.pr∧s'.done=s.done:=by
 have n1:s.pC c=none:=by
  cases e:s.pC c with
  | none=>rfl
  | some j=>
   have:=(h.cl _ _ e).2.1;omega
 have n2: ∀j,s.jT c j=none:=by
  intro j;cases e:s.jT c j with
  | none=>rfl
  | some k=>
   obtain⟨_,a,ha,_⟩:=h.an _ _ _ e;rw [n1]at ha;cases ha
 have n3:s.bI c=none:=by
  cases e:s.bI c with
  | none=>rfl
  | some p=>
   obtain⟨k,hk⟩:=h.tk _ _ e;rw [n2]at hk;cases hk
 have n4:s.pr c=none:=by
  cases e:s.pr c with
  | none=>rfl
  | some p=>
   obtain⟨a,_,_,ha,_⟩:=h.pr _ _ e;rw [n1]at ha;cases ha
 have n5: ∀j,s.done j c=false:=by
  intro j;cases e:s.done j c with
  | false=>rfl
  | true=>
   obtain⟨a,ha⟩:=h.dn _ _ e;rw [n1]at ha;cases ha
 have n6: ∀j,j<4→(s.ms j).ph≠0→(s.ms j).c≠c:=by
  intro j hj hq e;obtain⟨a,ha⟩:=h.called hj hq;rw [e,n1]at ha;cases ha
 have n7: ∀e j,s.pC e=some j→e≠c:=by
  rintro e j he rfl;rw [n1]at he;cases he
 let s':Sy K:={s with ms:=cV s.ms i (dD z i c key s.now).m,dl:=s.dl+1,bS:=s.bS++(dD z i c key s.now).o,pC:=cV s.pC c (some i),ok:=cV s.ok c key}
 have gE: ∀d e,s.jo d e→s'.jo d e:=by
  intro d e hb;simp only [s',Sy.jo,Mc.has,cV,dD]at hb ⊢
  grind
 have u1: ∀e j,s.pC e=some j→s'.pC e=some j:=fun e j he=>by rw [←he];exact fK _ _ (n7 e j he)
 have u2: ∀e j,s.pC e=some j→s'.ok e=s.ok e:=fun e j he=>fK _ _ (n7 e j he)
 have KB: ∀x∈(dD z i c key s.now).o,x.k=1∧x.c=c∧x.f=i∧x.key=key∧x.t∈others i:=by
  intro x hx;obtain⟨j,hj,rfl⟩:=aeu.1 hx;exact⟨rfl,rfl,rfl,rfl,hj⟩
 have hm: ∀{p:Mg K→Prop},(∀x∈s.bS,p x)→(∀x∈(dD z i c key s.now).o,p x)→∀x∈s'.bS,p x:=by
  intro p h1 h2 x hx;rcases aea.1 hx with hx | hx
  ·exact h1 x hx
  ·exact h2 x hx
 refine⟨s',⟨fun j hj=>?_,hm h.rt fun x hx=>?_,hm (fun y hy hk=>?_) fun x hx _=>?_,?_,hm (fun y hy hk=>?_) fun x hx hk=>?_,hm (fun y hy hk=>?_) fun x hx hk=>?_,hm h.f5 fun x hx hk=>?_,fun e k he=>?_,fun e d k he=>?_,h.tk,fun e=>?_,fun e k he=>?_,fun d e he=>?_⟩,rfl,rfl,rfl,rfl,rfl,rfl,rfl⟩
 ·obtain⟨k1,k2,k3,k4,k5,k6,k7,k8⟩:=h.ms j hj;by_cases rY:j=i
  ·subst rY;simp only [s',du,dD];exact⟨by simp,fun _=>⟨n5 _,Nat.le_refl _,Nat.le_refl _⟩,fun _=>⟨by simp [cV],by simp [cV],n3,n4,rfl⟩,fun h=>absurd h (by simp),fun _ h=>absurd h (by simp),fun h=>absurd h (by simp),fun h=>absurd h (by simp),fun h=>absurd h (by simp)⟩
  ·simp only [s',fK _ _ rY];refine⟨k1,k2,fun hq=>?_,fun hq=>?_,fun hq ho=>?_,fun hq ho=>?_,fun hq ho=>?_,k8⟩
   ·obtain⟨q1,q2,q3⟩:=k3 hq;exact⟨u1 _ _ q1,q2.trans (u2 _ _ q1).symm,q3⟩
   ·obtain⟨a,ha⟩:=h.called hj (by omega);obtain⟨q1,q2,q3⟩:=k4 hq;exact⟨q1,q2.trans (u2 _ _ ha).symm,q3⟩
   ·obtain⟨q1,q2⟩:=k5 hq ho;exact⟨u1 _ _ q1,q2⟩
   ·obtain⟨q1,q2,q3,q4,k,q5,q6⟩:=k6 hq ho;exact⟨u1 _ _ q1,q2,q3,q4,k,q5,by rw [show _=s.ok _ from u2 _ _ q1];exact q6⟩
   ·obtain⟨a,ha⟩:=h.called hj (by omega);obtain⟨k,q5,q6⟩:=k7 hq ho;exact⟨k,q5,by rw [show _=s.ok _ from u2 _ _ ha];exact q6⟩
 ·obtain⟨e1,e2,e3,e4,e5⟩:=KB x hx;have:=lU hi e5;exact⟨by omega,this.1,by rw [e3];exact fun e=>this.2 e.symm,by omega,by omega⟩
 ·obtain⟨q1,q2,q3,q4,q5⟩:=h.f1 y hy hk;refine⟨u1 _ _ q1,by rw [u2 _ _ q1];exact q2,q3,?_,q5⟩;have:=n7 _ _ q1;simp only [s',Mc.has,cV,dD]at q4 ⊢
  grind
 ·obtain⟨e1,e2,e3,e4,e5⟩:=KB x hx;have:=lU hi e5;refine⟨by simp [s',cV,e2,e3],by simp [s',cV,e2,e4],by rw [e2];exact n5 _,?_,by rw [e2];exact n2 _⟩;have ne:x.t≠i:=fun e=>this.2 (by rw [e])
  simp only [s',fK _ _ ne,Mc.has,e2];exact fun⟨g1,g2⟩=>n6 _ this.1 g1 g2
 ·refine List.pairwise_append.2 ⟨h.once,?_,?_⟩
  ·simp [dD,others]
  ·rintro a ha b hb ⟨g1,_,g3,_⟩;rw [(KB b hb).2.1]at g3;exact n7 _ _ (h.f1 a ha g1).1 g3
 ·exact⟨u1 _ _ (h.f2 y hy hk).1,(h.f2 y hy hk).2⟩
 ·have:=(KB x hx).1;omega
 ·rcases h.f3 y hy hk with q | q
  ·exact .inl ⟨u1 _ _ q.1,q.2⟩
  ·exact .inr ⟨u1 _ _ q.1,gE _ _ q.2⟩
 ·have:=(KB x hx).1;omega
 ·have:=(KB x hx).1;omega
 ·by_cases e:e=c
  ·subst e;simp only [s',du,adK]at he;subst he;exact⟨hi,by simp only [s'];omega,.inl (by simp [s',Mc.has,cV,dD])⟩
  ·simp only [s',fK _ _ e]at he;obtain⟨q1,q2,q3⟩:=h.cl _ _ he;exact⟨q1,Nat.le_succ_of_le q2,gE _ _ q3⟩
 ·obtain⟨q1,a,q2,q3⟩:=h.an _ _ _ he;exact⟨gE _ _ q1,a,u1 _ _ q2,q3⟩
 ·rcases h.ck e with q | ⟨a,q⟩
  ·exact .inl q
  ·exact .inr ⟨a,u1 _ _ q⟩
 ·obtain⟨a,p,k2,q1,q2,q3,q4⟩:=h.pr _ _ he;exact⟨a,p,k2,u1 _ _ q1,q2,q3,by rw [u2 _ _ q1];exact q4⟩
 ·obtain⟨a,q⟩:=h.dn _ _ he;exact⟨a,u1 _ _ q⟩
def wt(k:Nat):Nat:=if k=1 then 9 else if k=2 then 4 else if k=3 then 2 else 1
def sY(l:List (Mg K)):Nat:=(l.map fun x=>wt x.k).sum
def md(m:Mc K):Nat:=if m.ph=1 then 2 else 0
theorem za(a b:List (Mg K)):sY (a++b)=sY a+sY b:=by simp [sY]
theorem fo(x:Mg K)(b:List (Mg K)):sY (x::b)=wt x.k+sY b:=by simp [sY]
theorem eR:sY ([]:List (Mg K))=0:=rfl
theorem G1{k c i:Nat}{l:List Nat}:sY (to z k c i l)=wt k*l.length:=by
 induction l with
 | nil=>simp [to,sY]
 | cons j l ih=>
  simp only [to,ad1,fo,List.length_cons,Nat.mul_succ]at ih ⊢;omega
theorem B9(l:List (Mg K)):l.length≤sY l:=by
 induction l with
 | nil=>simp
 | cons x l ih=>
  rw [fo,List.length_cons];have:1≤wt x.k:=by
   unfold wt
   repeat' split
   all_goals omega
  omega
theorem sE(i:Nat)(m:Mc K)(sub:List Nat)(hs:sub.length≤2):sY (leaves z i m sub).o+md (leaves z i m sub).m≤1+md m∧(m.ph=1→sY (leaves z i m sub).o+md (leaves z i m sub).m≤md m):=by
 by_cases hp:m.ph=1
 ·simp [leaves,hp,G1,md,wt];omega
 ·simp [leaves,hp,fo,eR,md,wt]
theorem Ng(i:Nat)(m:Mc K)(x:Mg K)(now:Nat)(o:Or)(hs:o.sub.length≤2)(he:o.xB.length≤2):sY (take z F H i m x now o).o+md (take z F H i m x now o).m+1≤wt x.k+md m:=by
 have hl:=(sE (z:=z) i m o.sub hs).2;have hw:1≤wt x.k:=by
  unfold wt
  repeat' split
  all_goals omega
 have hn:sY (gY m).o+md (gY m).m+1≤wt x.k+md m:=by
  simp [gY,eR];omega
 have Xg:sY (ends m).o+md (ends m).m+1≤wt x.k+md m:=by
  simp [ends,eR,md];omega
 have hb: ∀k c f t,4≤k→2≤wt x.k→sY (⟨m,[⟨k,c,f,t,z⟩],[],[]⟩:Rs K).o+md (⟨m,[⟨k,c,f,t,z⟩],[],[]⟩:Rs K).m+1≤wt x.k+md m:=by
  intro k c f t h4 h2;have:wt k=1:=by
   unfold wt;rw [if_neg (by omega),if_neg (by omega),if_neg (by omega)]
  simp [fo,eR,this];omega
 have hv:m.ph=1→sY (leaves z i m o.sub).o+md (leaves z i m o.sub).m+1≤wt x.k+md m:=by
  intro h;have:=hl h;omega
 simp only [Cp.take];by_cases k1:x.k=1
 ·have w:wt x.k=9:=by simp [wt,k1]
  rw [if_pos k1]
  repeat' split
  ·exact hn
  ·simp [eR,md,rings];omega
  ·exact hn
  ·next h1=>
   have:=hl h1.1;simp only [za,answers,fo,eR,md]at this ⊢;have e1:wt 2=4:=rfl;have e2:wt 3=2:=rfl;simp [h1.1,e1,e2,w]at this ⊢;omega
  ·exact hn
  ·exact hb _ _ _ _ (by simp) (by omega)
 rw [if_neg k1];by_cases k2:x.k=2
 ·have w:wt x.k=4:=by simp [wt,k2]
  rw [if_pos k2]
  repeat' split
  ·exact hb _ _ _ _ (by simp) (by omega)
  ·next h1 _=>
   have e1:wt 3=2:=rfl;have e2:wt 6=1:=rfl;simp [fo,G1,dX,md,h1.1,e1,e2,w];omega
  ·next h1 _=>
   have e1:wt 3=2:=rfl;have e2:wt 6=1:=rfl;simp [fo,G1,md,h1.1,e1,e2,w];omega
  ·exact hb _ _ _ _ (by simp) (by omega)
  ·exact hn
 rw [if_neg k2];by_cases k3:x.k=3
 ·have w:wt x.k=2:=by simp [wt,k3]
  rw [if_pos k3]
  repeat' split
  ·exact hb _ _ _ _ (by simp) (by omega)
  ·exact hn
  ·simp [eR,dX,md];omega
  ·simp [eR,md];omega
  ·exact hn
 rw [if_neg k3];by_cases k4:x.k=4
 ·rw [if_pos k4];split
  ·next c=>exact hv c.2.1
  ·exact hn
 rw [if_neg k4];by_cases k5:x.k=5
 ·rw [if_pos k5]
  repeat' split
  ·exact hn
  ·next c _=>exact hv c
  ·exact hn
  ·exact hn
  ·exact Xg
 rw [if_neg k5]
 repeat' split
 ·exact Xg
 ·exact hn
 ·exact hn
theorem Nh(i:Nat)(m:Mc K)(now:Nat)(o:Or)(hs:o.sub.length≤2):sY (tick z i m now o).o+md (tick z i m now o).m≤2+md m:=by
 have:=(sE (z:=z) i m o.sub hs).1;simp only [Cp.tick]
 repeat' split
 ·omega
 ·omega
 ·omega
 ·have e1:wt 3=2:=rfl;simp [fo,eR,md,e1]
 ·simp [gY,eR]
def vZ(s:Sy K):Nat:=sY s.bS+md (s.ms 0)+md (s.ms 1)+md (s.ms 2)+md (s.ms 3)
theorem qS{s s':Sy K}{i:Nat}{r:Rs K}(hi:i<4)(hm:s'.ms=cV s.ms i r.m)(hf:s'.bS=s.bS++r.o):vZ s'+md (s.ms i)=vZ s+sY r.o+md r.m:=by
 simp only [vZ,hm,hf,za];have:i=0∨i=1∨i=2∨i=3:=by omega
 rcases this with rfl | rfl | rfl | rfl<;>simp [cV]<;>omega
theorem EB{s:Sy K}{n:Nat}{x:Mg K}(hx:s.bS[n]? =some x):vZ {s with bS:=s.bS.eraseIdx n}+wt x.k=vZ s:=by
 have:sY (s.bS.eraseIdx n)+wt x.k=sY s.bS:=by
  have hg: ∀(l:List (Mg K)) n,l[n]? =some x→sY (l.eraseIdx n)+wt x.k=sY l:=by
   intro l
   induction l with
   | nil=>intro n h;simp at h
   | cons y l ih=>
    intro n h;cases n with
    | zero=>
     simp at h;simp [fo,h];omega
    | succ n=>
     have:=ih n (by simpa using h);simp [fo];omega
  exact hg _ _ hx
 simp only [vZ];omega
structure Yg (now:Nat) (m:Mc K):Prop where
 y1:m.ph=1∨m.ph=2→now<m.since+60
 y3:m.ph=3→now<m.since+30
 y4:m.ph=4→m.bD≤now∧now<m.bD+10
theorem Yg.idle{now:Nat}{m:Mc K}(h:m.ph=0):Yg now m:=⟨fun e=>by omega,fun e=>by omega,fun e=>by omega⟩
theorem Qo(i:Nat)(m:Mc K)(now:Nat)(o:Or)(hb:m.ph=4→m.bD≤now):Yg now (tick z i m now o).m:=by
 simp only [Cp.tick];split
 ·exact .idle rfl
 split
 ·exact .idle rfl
 split
 ·exact .idle rfl
 split
 ·exact⟨fun e=>by simp_all,fun e=>by simp_all,fun _=>by simp⟩
 simp only [KA]at*;refine⟨fun e=>?_,fun e=>?_,fun e=>?_⟩<;>simp only [gY]at* <;>omega
theorem Qp(i:Nat){m:Mc K}(x:Mg K){now:Nat}(o:Or)(h:Yg now m):Yg now (take z F H i m x now o).m:=by
 simp only [Cp.take]
 repeat' split
 all_goals first
  | exact h
  | exact .idle rfl
  | exact⟨h.y1,h.y3,h.y4⟩
  | (refine⟨fun e=>?_,fun e=>?_,fun e=>?_⟩<;>simp [rings,answers,dX]at e ⊢)
variable {K:Type} {z:K} {F:Nat→K→K→Nat→Nat→K} {H:K→K} {num:Nat→Nat} {s s':Sy K} {T:Nat}
def Kept(T:Nat)(s:Sy K)(i:Nat):Prop:=
 (s.ms (s.ms i).peer).has (s.ms i).c∨(∃y∈s.bS,y.k=5∧y.c=(s.ms i).c∧y.f=(s.ms i).peer∧y.t=i)∨
  (∃y∈s.bS,y.k=3∧y.c=(s.ms i).c∧y.f=i∧y.t=(s.ms i).peer)∨(s.ms i).bD≤T+95
structure Live (T:Nat) (s:Sy K):Prop where
 l0:T≤s.now
 l1: ∀i,i<4→(s.ms i).ph=1∨(s.ms i).ph=2→(s.ms i).since≤T
 l3: ∀i,i<4→(s.ms i).ph=3→(s.ms i).since<T+60
 lo:T<s.now→∀x∈s.bS,x.k≠1
 l4:T+95<s.now→∀i,i<4→(s.ms i).ph=0∨(s.ms i).ph=4
 l5: ∀i,i<4→(s.ms i).ph=4→(s.ms i).bD≤s.now
 lA: ∀i,i<4→(s.ms i).ph=4→Kept T s i
theorem Live.begin(hy: ∀i,i<4→Yg s.now (s.ms i))(h:s.Inv F H num):Live s.now s:=
 ⟨Nat.le_refl _,fun i hi hp=>((h.ms i hi).nd (by omega)).2.2,fun i hi hp=>by have:=((h.ms i hi).nd (by omega)).2.2;omega,fun h=>by omega,fun h=>by omega,
  fun i hi hp=>((hy i hi).y4 hp).1,fun i hi hp=> .inr (.inr (.inr (by have:=((hy i hi).y4 hp).1;omega)))⟩
theorem Sy.Inv.mutual(h:s.Inv F H num){i:Nat}(hi:i<4)(hp:(s.ms i).ph=4)(hq:(s.ms (s.ms i).peer).ph=4)(hc:(s.ms (s.ms i).peer).c=(s.ms i).c):
  (s.ms (s.ms i).peer).peer=i∧(s.ms (s.ms i).peer).dg=(s.ms i).dg:=by
 have rn:=h.peer hi (by omega);obtain⟨g1,g2,g3,g4,g5,g6,g7,g8⟩:=h.ms i hi;obtain⟨k1,k2,k3,k4,k5,k6,k7,k8⟩:=h.ms _ rn.1;rw [hc]at k5 k6 k7 k8;cases ho:(s.ms i).out with
 | true=>
  obtain⟨q1,q2,q3,q4,k,q5,q6⟩:=g6 (by omega) ho;cases hr:(s.ms (s.ms i).peer).out with
  | true=>
   have:=(k6 (by omega) hr).1;rw [q1]at this;injection this with this
   exact absurd (congrArg acc this.symm) rn.2
  | false=>
   have e:=(k5 (by omega) hr).1;rw [q1]at e;injection e with e
   obtain⟨k',r1,r2⟩:=k7 (by omega) hr;rw [q5]at r1;injection r1 with r1
   exact⟨e.symm,by rw [r2,q6,←e,r1]⟩
 | false=>
  have q1:=(g5 (by omega) ho).1;obtain⟨k,q5,q6⟩:=g7 (by omega) ho;cases hr:(s.ms (s.ms i).peer).out with
  | true=>
   obtain⟨r1,r2,r3,r4,k',r5,r6⟩:=k6 (by omega) hr;rw [g8 hp ho]at r2;injection r2 with r2
   rw [←r2,q5]at r5;injection r5 with r5
   exact⟨r2.symm,by rw [r6,q6,←r2,r5]⟩
  | false=>
   obtain⟨e1,e2,e3⟩:=k5 (by omega) hr;rw [q1]at e1;injection e1 with e1
   exact absurd (congrArg acc e1.symm) e2
theorem Tc{i:Nat}{m:Mc K}{x:Mg K}{now:Nat}{o:Or}(h:(take z F H i m x now o).m.ph=1∨(take z F H i m x now o).m.ph=2):
  ((take z F H i m x now o).m.since=m.since∧(m.ph=1∨m.ph=2))∨(x.k=1∧(take z F H i m x now o).m.since=now):=by
 revert h
 simp only [Cp.take]
 repeat' split
 all_goals intro h
 all_goals first
  | exact .inl ⟨rfl,h⟩
  | (simp [answers,dX,leaves,ends]at h;done)
  | exact .inr ⟨by assumption,rfl⟩
  | (exfalso;simp at h;omega)
theorem Td{i:Nat}{m:Mc K}{x:Mg K}{now:Nat}{o:Or}(h:(take z F H i m x now o).m.ph=3):
  ((take z F H i m x now o).m.since=m.since∧m.ph=3)∨((x.k=1∨m.ph=1)∧(take z F H i m x now o).m.since=now):=by
 revert h
 simp only [Cp.take]
 repeat' split
 all_goals intro h
 all_goals first
  | exact .inl ⟨rfl,h⟩
  | (simp [rings,dX,leaves,ends]at h;done)
  | exact .inr ⟨.inl (by assumption),rfl⟩
  | exact .inr ⟨.inr (And.left (by assumption)),rfl⟩
  | (exfalso;simp at h;omega)
theorem Te{i:Nat}{m:Mc K}{x:Mg K}{now:Nat}{o:Or}(h:(take z F H i m x now o).m.ph=4):
  ((take z F H i m x now o).m.bD=m.bD∧m.ph=4)∨(take z F H i m x now o).m.bD=now:=by
 revert h
 simp only [Cp.take]
 repeat' split
 all_goals intro h
 all_goals first
  | exact .inl ⟨rfl,h⟩
  | (simp [rings,answers,leaves,ends]at h;done)
  | exact .inr rfl
theorem Ni{i:Nat}{m:Mc K}{x:Mg K}{now:Nat}{o:Or}(hk:x.k≠1)(hm:m.ph=0∨m.ph=4):
  ((take z F H i m x now o).m.ph=m.ph∧(take z F H i m x now o).m.c=m.c∧(take z F H i m x now o).m.peer=m.peer∧(take z F H i m x now o).m.bD=m.bD∧¬(x.k=5∧m.has x.c∧x.f=m.peer))∨
   (x.k=5∧m.has x.c∧x.f=m.peer∧(take z F H i m x now o).m.ph=0):=by
 simp only [Cp.take,if_neg hk]
 repeat' split
 all_goals first
  | (refine .inl ⟨rfl,rfl,rfl,rfl,?_⟩;rintro ⟨e1,e2,e3⟩;first | omega | contradiction)
  | (exfalso;omega)
  | (refine .inr ⟨by assumption,?_,?_,rfl⟩<;>simp_all)
theorem uZ{i:Nat}{m:Mc K}{sub:List Nat}: ∀y∈(leaves z i m sub).o,y.k≠1:=by
 intro y hy;simp only [leaves]at hy;split at hy
 ·obtain⟨j,_,rfl⟩:=aeu.1 hy;simp
 ·rw [aei]at hy;simp [hy]
theorem G2{i:Nat}{m:Mc K}{key:K}{now:Nat}: ∀y∈(answers z F i m key now).o,y.k≠1:=by
 intro y hy;simp only [answers,List.mem_cons,List.not_mem_nil,or_false]at hy;rcases hy with rfl | rfl<;>simp
theorem Vv{k c i:Nat}{l:List Nat}(hk:k≠1): ∀y∈to z k c i l,y.k≠1:=by
 intro y hy;obtain⟨j,_,rfl⟩:=aeu.1 hy;exact hk
theorem Qq{i:Nat}{m:Mc K}{x:Mg K}{now:Nat}{o:Or}: ∀y∈(take z F H i m x now o).o,y.k≠1:=by
 intro y;simp only [Cp.take]
 repeat' split
 all_goals intro h
 all_goals first
  | exact uZ y h
  | (rcases aea.1 h with h | h;exact uZ y h;exact G2 y h)
  | (rcases List.mem_cons.1 h with rfl | h;simp;exact Vv (by simp) y h)
  | (simp [gY,ends]at h;done)
  | (simp at h;simp [h])
theorem Qr{i:Nat}{m:Mc K}{now:Nat}{o:Or}: ∀y∈(tick z i m now o).o,y.k≠1:=by
 intro y;simp only [Cp.tick]
 repeat' split
 all_goals intro h
 all_goals first
  | exact uZ y h
  | (simp [gY]at h;done)
  | (simp at h;simp [h])
theorem Live.take[DecidableEq K](l:Live T s)(h:s.Inv F H num)(hy: ∀i,i<4→Yg s.now (s.ms i)){n:Nat}{x:Mg K}(hx:s.bS[n]? =some x){o:Or}
  (a:kv {s with bS:=s.bS.eraseIdx n} s' x.t (take z F H x.t (s.ms x.t) x s.now o)):Live T s':=by
 obtain⟨a1,a2,a3,a4,a5,a6⟩:=a;simp only at a1 a2 a3 a4;have hm:=List.mem_of_getElem? hx;obtain⟨r1,r2,r3,r4,r5⟩:=h.rt x hm;have FP:s'.ms x.t=(Cp.take z F H x.t (s.ms x.t) x s.now o).m:=by rw [a3,du]
 have EC: ∀j,j≠x.t→s'.ms j=s.ms j:=fun j hj=>by rw [a3,fK _ _ hj]
 have uv: ∀y∈s.bS,y=x∨y∈s'.bS:=by
  intro y hy;obtain⟨m,Sw,rfl⟩:=List.getElem_of_mem hy;obtain⟨hn,hx⟩:=adJ.1 hx;by_cases e:m=n
  ·subst e;exact .inl hx
  ·refine .inr ?_;rw [a4];exact List.mem_append_left _ (aeo.2 ⟨m,Sw,e,rfl⟩)
 have cK:x.k=1→s.now≤T:=fun e=>Nat.le_of_not_lt fun lt=>l.lo lt x hm e
 have b5: ∀i,i<4→(s'.ms i).ph=4→(s'.ms i).bD≤s'.now:=by
  intro i hi hp;by_cases e:i=x.t
  ·subst e;rw [FP]at hp ⊢;rcases Te hp with q | q
   ·rw [q.1,a1];exact l.l5 _ hi q.2
   ·rw [q,a1];exact Nat.le_refl _
  ·rw [EC i e]at hp ⊢;rw [a1];exact l.l5 i hi hp
 refine⟨by rw [a1];exact l.l0,fun i hi hp=>?_,fun i hi hp=>?_,fun ht y hy=>?_,fun ht i hi=>?_,b5,fun i hi hp=>?_⟩
 ·by_cases e:i=x.t
  ·subst e;rw [FP]at hp ⊢;rcases Tc hp with q | q
   ·rw [q.1];exact l.l1 _ hi q.2
   ·rw [q.2];exact cK q.1
  ·rw [EC i e]at hp ⊢;exact l.l1 i hi hp
 ·by_cases e:i=x.t
  ·subst e;rw [FP]at hp ⊢;rcases Td hp with q | q
   ·rw [q.1];exact l.l3 _ hi q.2
   ·rw [q.2];rcases q.1 with q | q
    ·have:=cK q;omega
    ·have:=(hy _ hi).y1 (.inl q);have:=l.l1 _ hi (.inl q);omega
  ·rw [EC i e]at hp ⊢;exact l.l3 i hi hp
 ·rw [a4]at hy;rcases aea.1 hy with q | q
  ·exact l.lo (a1▸ht) y (List.mem_of_mem_eraseIdx q)
  ·exact Qq y q
 ·rw [a1]at ht;have hk:x.k≠1:=l.lo (by omega) x hm;by_cases e:i=x.t
  ·subst e;rw [FP];rcases Ni (z:=z) (F:=F) (H:=H) (i:=x.t) (now:=s.now) (o:=o) hk (l.l4 ht _ hi)with q | q
   ·rw [q.1];exact l.l4 ht _ hi
   ·exact .inl q.2.2.2
  ·rw [EC i e];exact l.l4 ht i hi
 ·by_cases ht:s'.now≤T+95
  ·exact .inr (.inr (.inr (by have:=b5 i hi hp;omega)))
  rw [a1]at ht;have hk:x.k≠1:=l.lo (by omega) x hm;have Tf:=l.l4 (by omega);have t4:=Ni (z:=z) (F:=F) (H:=H) (i:=x.t) (now:=s.now) (o:=o) hk (Tf _ r2);by_cases e:i=x.t
  ·subst e;rw [FP]at hp;rcases t4 with⟨q1,q2,q3,q4,q5⟩ | q
   ·have Vn:(s.ms x.t).ph=4:=by omega
    have rn:=h.peer hi (by omega);have Xv:(s.ms x.t).peer≠x.t:=fun e=>rn.2 (by rw [e])
    unfold Kept;rw [FP,q2,q3,q4,EC _ Xv];rcases l.lA x.t hi Vn with k | ⟨y,k1,k2,k3,k4,k5⟩ | ⟨y,k1,k2,k3,k4,k5⟩ | k
    ·exact .inl k
    ·rcases uv y k1 with rfl | k1
     ·exact absurd ⟨k2,⟨by omega,k3.symm⟩,k4⟩ q5
     ·exact .inr (.inl ⟨y,k1,k2,k3,k4,k5⟩)
    ·rcases uv y k1 with rfl | k1
     ·exact absurd k5.symm Xv
     ·exact .inr (.inr (.inl ⟨y,k1,k2,k3,k4,k5⟩))
    ·exact .inr (.inr (.inr k))
   ·omega
  ·rw [EC i e]at hp;have rn:=h.peer hi (by omega);unfold Kept;rw [EC i e];rcases l.lA i hi hp with k | ⟨y,k1,k2,k3,k4,k5⟩ | ⟨y,k1,k2,k3,k4,k5⟩ | k
   ·by_cases ep:(s.ms i).peer=x.t
    ·rw [ep,FP];rw [ep]at k;rcases t4 with⟨q1,q2,q3,q4,q5⟩ | q
     ·refine .inl ⟨by rw [q1];exact k.1,by rw [q2];exact k.2⟩
     ·have mu:=h.mutual hi hp (by rw [ep];have:=Tf _ r2;have:=k.1;omega) (by rw [ep];exact k.2);have d:=h.f5 x hm q.1;rw [q.2.2.1,←ep,mu.1,←q.2.1.2,k.2,((h.ms i hi).nd (by omega)).1]at d;cases d
    ·rw [EC _ ep];exact .inl k
   ·rcases uv y k1 with rfl | k1
    ·exact absurd k5.symm e
    ·exact .inr (.inl ⟨y,k1,k2,k3,k4,k5⟩)
   ·rcases uv y k1 with rfl | k1
    ·rw [←k5];by_cases hh:(s.ms y.t).has y.c
     ·rcases t4 with⟨q1,q2,q3,q4,q5⟩ | q
      ·refine .inl ?_;rw [FP,←k3];exact⟨by rw [q1];exact hh.1,by rw [q2];exact hh.2⟩
      ·omega
     ·refine .inr (.inl ⟨⟨5,y.c,y.t,y.f,z⟩,?_,rfl,k3,rfl,k4⟩);rw [a4];refine List.mem_append_right _ ?_;simp [Cp.take,k2,hh]
    ·exact .inr (.inr (.inl ⟨y,k1,k2,k3,k4,k5⟩))
   ·exact .inr (.inr (.inr k))
theorem II{i:Nat}{m:Mc K}{now:Nat}{o:Or}:((tick z i m now o).m.ph=m.ph∧(tick z i m now o).m.c=m.c∧(tick z i m now o).m.peer=m.peer∧(tick z i m now o).m.since=m.since∧
   ((tick z i m now o).m.bD=m.bD∨(tick z i m now o).m.bD=now∧(tick z i m now o).o=[⟨3,m.c,i,m.peer,z⟩]))∨
  ((tick z i m now o).m.ph=0∧(m.ph=4→(tick z i m now o).o=[⟨5,m.c,i,m.peer,z⟩])):=by
 simp only [Cp.tick];split
 ·exact .inr ⟨rfl,fun e=>by simp [leaves,e]⟩
 split
 ·exact .inr ⟨rfl,fun e=>by simp [leaves,e]⟩
 split
 ·exact .inr ⟨rfl,fun e=>by simp [leaves,e]⟩
 split
 ·exact .inl ⟨rfl,rfl,rfl,rfl,.inr ⟨rfl,rfl⟩⟩
 ·exact .inl ⟨rfl,rfl,rfl,rfl,.inl rfl⟩
theorem Live.tick[DecidableEq K](l:Live T s)(h:s.Inv F H num){i:Nat}(hi:i<4){o:Or}(a:kv s s' i (tick z i (s.ms i) s.now o)):Live T s':=by
 obtain⟨a1,a2,a3,a4,a5,a6⟩:=a;have FP:s'.ms i=(Cp.tick z i (s.ms i) s.now o).m:=by rw [a3,du]
 have EC: ∀j,j≠i→s'.ms j=s.ms j:=fun j hj=>by rw [a3,fK _ _ hj]
 have tk:=II (z:=z) (i:=i) (m:=s.ms i) (now:=s.now) (o:=o);have Vw: ∀y∈s.bS,y∈s'.bS:=fun y hy=>by rw [a4];exact List.mem_append_left _ hy
 have b5: ∀j,j<4→(s'.ms j).ph=4→(s'.ms j).bD≤s'.now:=by
  intro j hj hp;rw [a1];by_cases e:j=i
  ·subst e;rw [FP]at hp ⊢;rcases tk with⟨q1,q2,q3,q4,q5 | q5⟩ | q
   ·rw [q5];exact l.l5 _ hi (by omega)
   ·rw [q5.1];exact Nat.le_refl _
   ·omega
  ·rw [EC j e]at hp ⊢;exact l.l5 j hj hp
 refine⟨by rw [a1];exact l.l0,fun j hj hp=>?_,fun j hj hp=>?_,fun ht y hy=>?_,fun ht j hj=>?_,b5,fun j hj hp=>?_⟩
 ·by_cases e:j=i
  ·subst e;rw [FP]at hp ⊢;rcases tk with⟨q1,q2,q3,q4,q5⟩ | q
   ·rw [q4];exact l.l1 _ hi (by omega)
   ·omega
  ·rw [EC j e]at hp ⊢;exact l.l1 j hj hp
 ·by_cases e:j=i
  ·subst e;rw [FP]at hp ⊢;rcases tk with⟨q1,q2,q3,q4,q5⟩ | q
   ·rw [q4];exact l.l3 _ hi (by omega)
   ·omega
  ·rw [EC j e]at hp ⊢;exact l.l3 j hj hp
 ·rw [a4]at hy;rcases aea.1 hy with q | q
  ·exact l.lo (a1▸ht) y q
  ·exact Qr y q
 ·rw [a1]at ht;by_cases e:j=i
  ·subst e;rw [FP];rcases tk with⟨q1,q2,q3,q4,q5⟩ | q
   ·rw [q1];exact l.l4 ht _ hi
   ·exact .inl q.1
  ·rw [EC j e];exact l.l4 ht j hj
 ·by_cases ht:s'.now≤T+95
  ·exact .inr (.inr (.inr (by have:=b5 j hj hp;omega)))
  rw [a1]at ht;have Tf:=l.l4 (by omega);by_cases e:j=i
  ·subst e;rw [FP]at hp;rcases tk with⟨q1,q2,q3,q4,q5⟩ | q
   ·have Vn:(s.ms j).ph=4:=by omega
    have rn:=h.peer hi (by omega);have Xv:(s.ms j).peer≠j:=fun e=>rn.2 (by rw [e])
    unfold Kept;rw [FP,q2,q3,EC _ Xv];rcases q5 with q5 | q5
    ·rw [q5];rcases l.lA j hi Vn with k | ⟨y,k1,k2⟩ | ⟨y,k1,k2⟩ | k
     ·exact .inl k
     ·exact .inr (.inl ⟨y,Vw y k1,k2⟩)
     ·exact .inr (.inr (.inl ⟨y,Vw y k1,k2⟩))
     ·exact .inr (.inr (.inr k))
    ·refine .inr (.inr (.inl ⟨⟨3,(s.ms j).c,j,(s.ms j).peer,z⟩,?_,rfl,rfl,rfl,rfl⟩));rw [a4,q5.2];simp
   ·omega
  ·rw [EC j e]at hp;have rn:=h.peer hj (by omega);unfold Kept;rw [EC j e];rcases l.lA j hj hp with k | ⟨y,k1,k2⟩ | ⟨y,k1,k2⟩ | k
   ·by_cases ep:(s.ms j).peer=i
    ·rw [ep,FP];rw [ep]at k;have h4:(s.ms i).ph=4:=by
      have:=Tf i hi;have:=k.1;omega
     rcases tk with⟨q1,q2,q3,q4,q5⟩ | q
     ·exact .inl ⟨by rw [q1];exact k.1,by rw [q2];exact k.2⟩
     ·have mu:=h.mutual hj hp (by rw [ep];exact h4) (by rw [ep];exact k.2);refine .inr (.inl ⟨⟨5,(s.ms i).c,i,(s.ms i).peer,z⟩,?_,rfl,k.2,rfl,?_⟩)
      ·rw [a4,q.2 h4];simp
      ·rw [←ep];exact mu.1
    ·rw [EC _ ep];exact .inl k
   ·exact .inr (.inl ⟨y,Vw y k1,k2⟩)
   ·exact .inr (.inr (.inl ⟨y,Vw y k1,k2⟩))
   ·exact .inr (.inr (.inr k))
theorem Live.time(l:Live T s)(h:s.Inv F H num)(hy: ∀i,i<4→Yg s.now (s.ms i))(hf:s.bS=[]){d:Nat}(hd:d≤5):Live T {s with now:=s.now+d}:=by
 refine⟨Nat.le_add_right_of_le l.l0,l.l1,l.l3,fun _ x hx=>?_,fun ht i hi=>?_,fun i hi hp=>Nat.le_add_right_of_le (l.l5 i hi hp),l.lA⟩
 ·rw [show({s with now:=s.now+d}:Sy K).bS=s.bS from rfl,hf]at hx;cases hx
 ·have ht:T+95<s.now+d:=ht;have p:=(h.ms i hi).ph;have h1: ¬((s.ms i).ph=1∨(s.ms i).ph=2):=fun e=>by
   have:=l.l1 i hi e;have:=(hy i hi).y1 e;omega
  have h3: ¬(s.ms i).ph=3:=fun e=>by
   have:=l.l3 i hi e;have:=(hy i hi).y3 e;omega
  show(s.ms i).ph=0∨(s.ms i).ph=4;omega
theorem Live.FR(l:Live T s)(h:s.Inv F H num)(hy: ∀i,i<4→Yg s.now (s.ms i))(hf:s.bS=[])(ht:T+105≤s.now){i:Nat}(hi:i<4):(s.ms i).ph=0∨
  ((s.ms i).ph=4∧(s.ms i).peer<4∧(s.ms (s.ms i).peer).ph=4∧(s.ms (s.ms i).peer).c=(s.ms i).c∧(s.ms (s.ms i).peer).peer=i∧(s.ms (s.ms i).peer).dg=(s.ms i).dg):=by
 have Tf:=l.l4 (by omega);rcases Tf i hi with p | p
 ·exact .inl p
 ·refine .inr ⟨p,?_⟩;have rn:=h.peer hi (by omega);rcases l.lA i hi p with k | ⟨y,k1,_⟩ | ⟨y,k1,_⟩ | k
  ·have q4:(s.ms (s.ms i).peer).ph=4:=by
    have:=Tf _ rn.1;have:=k.1;omega
   obtain⟨m1,m2⟩:=h.mutual hi p q4 k.2;exact⟨rn.1,q4,k.2,m1,m2⟩
  ·rw [hf]at k1;cases k1
  ·rw [hf]at k1;cases k1
  ·have:=((hy i hi).y4 p).2;omega
variable {K:Type} {z:K} {F:Nat→K→K→Nat→Nat→K} {H:K→K} {num:Nat→Nat} {s:Sy K} {B T:Nat}
structure Or.Ok (o:Or) (i:Nat):Prop where
 sub: ∀j∈o.sub,j∈others i
 mC:o.sub.length≤2
 xB: ∀j∈o.xB,j∈others i
 Vx:o.xB.length≤2
structure Good (F:Nat→K→K→Nat→Nat→K) (H:K→K) (num:Nat→Nat) (B:Nat) (s:Sy K):Prop where
 inv:s.Inv F H num
 yg: ∀i,i<4→Yg s.now (s.ms i)
 vZ:vZ s≤B
theorem Good.more(h:Good F H num B s){C:Nat}(hC:B≤C):Good F H num C s:=⟨h.inv,h.yg,Nat.le_trans h.vZ hC⟩
theorem Good.len(h:Good F H num B s):s.bS.length≤B:=by
 have:=B9 s.bS;have:=h.vZ;unfold Cp.vZ at this;omega
theorem Good.step[DecidableEq K](h:Good F H num B s){i:Nat}(hi:i<4){r:Rs K}{d:Nat}(k:lV F H num s i r)(hy:Yg s.now r.m)(hp:sY r.o+md r.m≤d+md (s.ms i)): ∃s',Good F H num (B+d) s'∧kv s s' i r:=by
 obtain⟨s',h',a⟩:=k;refine⟨s',⟨h',fun j hj=>?_,?_⟩,a⟩
 ·rw [a.now,a.ms];by_cases e:j=i
  ·subst e;rw [du];exact hy
  ·rw [fK _ _ e];exact h.yg j hj
 ·have:=qS hi a.ms a.bS;have:=h.vZ;omega
theorem KC{i:Nat}{m:Mc K}(key:K){now:Nat}(h:Yg now m):Yg now (answer z F i m key now).m:=by
 rw [Cp.answer];split
 ·exact⟨fun e=>by simp [answers]at e,fun e=>by simp [answers],fun e=>by simp [answers]at e⟩
 ·exact h
theorem G3{i:Nat}{m:Mc K}{now:Nat}(h:Yg now m):Yg now (eQ z i m).m:=by
 rw [Cp.eQ];split
 ·exact .idle rfl
 ·exact h
theorem Qs{i:Nat}{m:Mc K}{o:Or}{now:Nat}(h:Yg now m):Yg now (px z i m o).m:=by
 rw [Cp.px];split
 ·exact h
 ·exact .idle rfl
theorem G4{i:Nat}{m:Mc K}(key:K){now:Nat}:sY (answer z F i m key now).o+md (answer z F i m key now).m≤20+md m:=by
 rw [Cp.answer];split
 ·have e1:wt 2=4:=rfl;have e2:wt 3=2:=rfl;simp [answers,fo,eR,md,e1,e2];omega
 ·simp [gY,eR]
theorem ED{i:Nat}{m:Mc K}:sY (eQ z i m).o+md (eQ z i m).m≤20+md m:=by
 rw [Cp.eQ];split
 ·have e2:wt 5=1:=rfl;simp [fo,eR,md,e2];omega
 ·simp [gY,eR]
theorem Nj{i:Nat}{m:Mc K}{o:Or}(hs:o.sub.length≤2):sY (px z i m o).o+md (px z i m o).m≤20+md m:=by
 rw [Cp.px];split
 ·simp [gY,eR]
 ·have:=(sE (z:=z) i m o.sub hs).1;omega
theorem Good.answer[DecidableEq K](h:Good F H num B s){i:Nat}(hi:i<4)(key:K): ∃s',Good F H num (B+20) s'∧kv s s' i (answer z F i (s.ms i) key s.now):=
 h.step hi (h.inv.answer hi key) (KC key (h.yg i hi)) (G4 key)
theorem Good.eQ[DecidableEq K](h:Good F H num B s){i:Nat}(hi:i<4): ∃s',Good F H num (B+20) s'∧kv s s' i (eQ z i (s.ms i)):=
 h.step hi (h.inv.eQ hi) (G3 (h.yg i hi)) ED
theorem Good.px[DecidableEq K](h:Good F H num B s){i:Nat}(hi:i<4){o:Or}(ho:o.Ok i): ∃s',Good F H num (B+20) s'∧kv s s' i (px z i (s.ms i) o):=
 h.step hi (h.inv.px hi ho.sub) (Qs (h.yg i hi)) (Nj ho.mC)
theorem Good.dls(h:Good F H num B s){d:Nat}(hd:s.dl≤d):Good F H num B {s with dl:=d}:=⟨h.inv.time (Nat.le_refl _) hd,h.yg,h.vZ⟩
theorem Good.Ta(h:Good F H num B s){i:Nat}(hi:i<4)(hp:(s.ms i).ph=0){c:Nat}(hc:num c=s.dl+1)(key:K):
  ∃s':Sy K,Good F H num (B+20) s'∧s'.dl=s.dl+1∧s'.now=s.now∧s'.ms=cV s.ms i (dD z i c key s.now).m∧s'.bS=s.bS++(dD z i c key s.now).o∧s'.bI=s.bI∧s'.pr=s.pr∧s'.done=s.done:=by
 obtain⟨s',h',a1,a2,a3,a4,a5,a6,a7⟩:=h.inv.Ta (z:=z) hi hp hc key;refine⟨s',⟨h',fun j hj=>?_,?_⟩,a1,a2,a3,a4,a5,a6,a7⟩
 ·rw [a2,a3];by_cases e:j=i
  ·subst e;rw [du];exact⟨fun e=>by simp [dD],fun e=>by simp [dD]at e,fun e=>by simp [dD]at e⟩
  ·rw [fK _ _ e];exact h.yg j hj
 ·have:=qS hi a3 a4;have:=h.vZ;have e1:sY (dD z i c key s.now).o=18:=by
   have e2:wt 1=9:=rfl;simp [dD,others,fo,eR,e2]
  have e3:md (dD z i c key s.now).m=2:=rfl;have e4:md (s.ms i)=0:=by simp [md,hp]
  omega
theorem Good.drop(h:Good F H num B s){n:Nat}{x:Mg K}(hx:s.bS[n]? =some x):Good F H num B {s with bS:=s.bS.eraseIdx n}:=
 ⟨(h.inv.Nf hx).1,h.yg,by have:=EB hx;have:=h.vZ;omega⟩
theorem Good.Nf[DecidableEq K](h:Good F H num (B+1) s){n:Nat}{x:Mg K}(hx:s.bS[n]? =some x){o:Or}(ho:o.Ok x.t):
  ∃s',Good F H num B s'∧kv {s with bS:=s.bS.eraseIdx n} s' x.t (take z F H x.t (s.ms x.t) x s.now o):=by
 obtain⟨h1,h2⟩:=h.inv.Nf hx;obtain⟨s',h',a⟩:=h1.take (z:=z) h2 ho.sub ho.xB;refine⟨s',⟨h',fun j hj=>?_,?_⟩,a⟩
 ·rw [a.now,a.ms];by_cases e:j=x.t
  ·subst e;rw [du];exact Qp _ x o (h.yg _ hj)
  ·rw [fK _ _ e];exact h.yg j hj
 ·have p1:=qS h2.rt.2.1 a.ms a.bS;have p2:=EB hx;have p3:=Ng (z:=z) (F:=F) (H:=H) x.t (s.ms x.t) x s.now o ho.mC ho.Vx;have p4:=h.vZ;simp only at p1;omega
structure EE (F:Nat→K→K→Nat→Nat→K) (H:K→K) (num:Nat→Nat) (B j:Nat) (s:Sy K):Prop where
 inv:s.Inv F H num
 bt: ∀i,i<4→(s.ms i).ph=4→(s.ms i).bD≤s.now
 yg: ∀i,i<j→Yg s.now (s.ms i)
 vZ:Cp.vZ s≤B
theorem Good.time(h:Good F H num B s)(n:Nat):EE F H num B 0 {s with now:=s.now+n}:=
 ⟨h.inv.time (Nat.le_add_right _ _) (Nat.le_refl _),fun i hi hp=>Nat.le_add_right_of_le ((h.yg i hi).y4 hp).1,fun i hi=>by omega,h.vZ⟩
theorem EE.next[DecidableEq K]{j:Nat}(h:EE F H num B j s)(hj:j<4){o:Or}(ho:o.Ok j): ∃s',EE F H num (B+2) (j+1) s'∧kv s s' j (tick z j (s.ms j) s.now o):=by
 obtain⟨s',h',a⟩:=h.inv.tick (z:=z) hj ho.sub;refine⟨s',⟨h',fun i hi hp=>?_,fun i hi=>?_,?_⟩,a⟩
 ·rw [a.now];rw [a.ms]at hp ⊢;by_cases e:i=j
  ·subst e;rw [du]at hp ⊢;rcases II (z:=z) (i:=i) (m:=s.ms i) (now:=s.now) (o:=o)with⟨q1,q2,q3,q4,q5 | q5⟩ | q
   ·rw [q5];exact h.bt i hi (by omega)
   ·rw [q5.1];exact Nat.le_refl _
   ·omega
  ·rw [fK _ _ e]at hp ⊢;exact h.bt i hi hp
 ·rw [a.now,a.ms];by_cases e:i=j
  ·subst e;rw [du];exact Qo _ _ _ _ (h.bt i hj)
  ·rw [fK _ _ e];exact h.yg i (by omega)
 ·have:=qS hj a.ms a.bS;have:=h.vZ;have:=Nh (z:=z) j (s.ms j) s.now o ho.mC;omega
theorem EE.Vy(h:EE F H num B 4 s):Good F H num B s:=⟨h.inv,h.yg,h.vZ⟩
theorem Good.start(now:Nat)(ms:Nat→Mc K)(hm: ∀i,i<4→(ms i).ph=0)(ok:Nat→K):Good F H num 0 ⟨now,ms,[],0,fun _=>none,fun _=>none,fun _ _=>false,fun _=>none,ok,fun _ _=>none⟩:=by
 refine⟨⟨fun i hi=>?_,by simp,by simp,.nil,by simp,by simp,by simp,by simp,by simp,by simp,fun _=> .inl rfl,by simp,by simp⟩,fun i hi=> .idle (hm i hi),?_⟩
 ·have:=hm i hi;exact⟨by simp only;omega,fun e=>absurd this e,fun e=>by simp only at e;omega,fun e=>by simp only at e;omega,fun e=>absurd this e,fun e=>by simp only at e;omega,fun e=>by simp only at e;omega,fun e=>by simp only at e;omega⟩
 ·simp [Cp.vZ,eR,md,hm]
end Go.Cp
