/- Four call machines plainly. -/
import Derived.Test.YtphemenngjkfbaaM30
open List renaming getElem?_eq_some_iff → adJ, mem_append → aea, mem_eraseIdx_iff_getElem → aeo, mem_map → aeu, mem_singleton → aei, pairwise_iff_getElem → aej
namespace Go.Cp
variable {K:Type} {z:K} {F:Nat→K→K→Nat→Nat→K} {H:K→K} {num:Nat→Nat} {s:Sy K}
theorem du{α:Type}(f:Nat→α)(i:Nat)(a:α):cV f i a i=a:=if_pos rfl
theorem fK{α:Type}(f:Nat→α){i j:Nat}(a:α)(h:j≠i):cV f i a j=f j:=if_neg h
theorem Sy.Inv.drop(h:s.Inv F H num){l:List (Mg K)}(hl:l.Sublist s.bS):({s with bS:=l}).Inv F H num:=by
 have hm: ∀x∈l,x∈s.bS:=fun x hx=>hl.subset hx
 exact⟨fun i hi=>⟨(h.ms i hi).ph,(h.ms i hi).nd,(h.ms i hi).d1,(h.ms i hi).d2,(h.ms i hi).io,(h.ms i hi).d3,(h.ms i hi).d4,(h.ms i hi).d5⟩,
  fun x hx=>h.rt x (hm x hx),fun x hx=>h.f1 x (hm x hx),h.once.sublist hl,fun x hx=>h.f2 x (hm x hx),fun x hx=>h.f3 x (hm x hx),fun x hx=>h.f5 x (hm x hx),h.cl,h.an,h.tk,h.ck,h.pr,h.dn⟩
theorem Sy.Inv.send(h:s.Inv F H num){y:Mg K}(hr:y.f<4∧y.t<4∧acc y.f≠acc y.t∧2≤y.k∧y.k≤6)(h2:y.k=2→s.pC y.c=some y.t∧s.jT y.c y.f=some y.key)
  (h3:y.k=3→(s.pC y.c=some y.f∧s.bI y.c=some y.t)∨(s.pC y.c=some y.t∧s.jo y.f y.c)) (h5:y.k=5→s.done y.f y.c=true):({s with bS:=s.bS++[y]}).Inv F H num:=by
 have hm: ∀{p:Mg K→Prop},(∀x∈s.bS,p x)→p y→∀x∈s.bS++[y],p x:=by
  intro p h1 h2 x hx;rcases aea.1 hx with hx | hx
  ·exact h1 x hx
  ·rw [aei]at hx;exact hx▸h2
 refine⟨fun i hi=>⟨(h.ms i hi).ph,(h.ms i hi).nd,(h.ms i hi).d1,(h.ms i hi).d2,(h.ms i hi).io,(h.ms i hi).d3,(h.ms i hi).d4,(h.ms i hi).d5⟩,
  hm h.rt ⟨hr.1,hr.2.1,hr.2.2.1,by omega,hr.2.2.2.2⟩,hm h.f1 fun h=>by omega,?_,hm h.f2 h2,hm h.f3 h3,hm h.f5 h5,h.cl,h.an,h.tk,h.ck,h.pr,h.dn⟩
 refine List.pairwise_append.2 ⟨h.once,List.pairwise_singleton _ _,fun a _ b hb hc=>?_⟩;rw [aei]at hb;subst hb;omega
theorem Sy.Inv.gone(h:s.Inv F H num){i:Nat}(hi:i<4)(hp:(s.ms i).ph≠0):({s with ms:=cV s.ms i {s.ms i with ph:=0},done:=kZ s.done i (s.ms i).c true}).Inv F H num:=by
 have gE: ∀d c,s.jo d c→({s with ms:=cV s.ms i {s.ms i with ph:=0},done:=kZ s.done i (s.ms i).c true}:Sy K).jo d c:=by
  intro d c hb;simp only [Sy.jo,Mc.has,cV,kZ]at hb ⊢
  grind
 obtain⟨g1,g2,g3,g4,g5,g6,g7,g8⟩:=h.ms i hi;refine⟨fun j hj=>?_,h.rt,fun x hx hk=>?_,h.once,h.f2,fun x hx hk=>?_,fun x hx hk=>?_,fun c k hc=>?_,fun c d k hc=>?_,h.tk,h.ck,h.pr,fun d c hd=>?_⟩
 ·obtain⟨k1,k2,k3,k4,k5,k6,k7,k8⟩:=h.ms j hj;by_cases rY:j=i
  ·subst rY;simp only [du];exact⟨by simp,fun h=>absurd rfl h,fun h=>by simp at h,fun h=>by simp at h,fun h=>absurd rfl h,fun h=>by simp at h,fun h=>by simp at h,fun h=>by simp at h⟩
  ·simp only [fK _ _ rY];refine⟨k1,fun hq=>?_,k3,k4,k5,k6,k7,k8⟩;refine⟨?_,(k2 hq).2⟩;simp only [kZ];rw [if_neg (fun h=>rY h.1)];exact(k2 hq).1
 ·obtain⟨q1,q2,q3,q4,q5⟩:=h.f1 x hx hk;refine⟨q1,q2,?_,?_,q5⟩<;>simp only [Mc.has,cV,kZ]at q4 ⊢ <;>grind
 ·rcases h.f3 x hx hk with q | ⟨q1,q2⟩
  ·exact .inl q
  ·exact .inr ⟨q1,gE _ _ q2⟩
 ·have:=h.f5 x hx hk;simp only [kZ]
  grind
 ·obtain⟨q1,q2,q3⟩:=h.cl c k hc;exact⟨q1,q2,gE _ _ q3⟩
 ·obtain⟨q1,q2⟩:=h.an c d k hc;exact⟨gE _ _ q1,q2⟩
 ·simp only [kZ]at hd;by_cases Xm:d=i∧c=(s.ms i).c
  ·obtain⟨rfl,rfl⟩:=Xm
   ·cases ho:(s.ms d).out with
    | false=>exact⟨_,(g5 hp ho).1⟩
    | true=>
     have S_:(s.ms d).ph=1∨(s.ms d).ph=2∨3≤(s.ms d).ph:=by omega
     rcases S_ with e | e | e
     ·exact⟨_,(g3 e).1⟩
     ·have:=(g4 e).1;rw [ho]at this;cases this
     ·exact⟨_,(g6 e ho).1⟩
  ·rw [if_neg Xm]at hd;exact h.dn d c hd
theorem Sy.Inv.called(h:s.Inv F H num){i:Nat}(hi:i<4)(hp:(s.ms i).ph≠0): ∃j,s.pC (s.ms i).c=some j:=by
 obtain⟨g1,g2,g3,g4,g5,g6,g7,g8⟩:=h.ms i hi;cases ho:(s.ms i).out with
 | false=>exact⟨_,(g5 hp ho).1⟩
 | true=>
  have S_:(s.ms i).ph=1∨(s.ms i).ph=2∨3≤(s.ms i).ph:=by omega
  rcases S_ with e | e | e
  ·exact⟨_,(g3 e).1⟩
  ·have:=(g4 e).1;rw [ho]at this;cases this
  ·exact⟨_,(g6 e ho).1⟩
theorem Sy.Inv.ring(h:s.Inv F H num){i:Nat}(hi:i<4)(hp:(s.ms i).ph=0){x:Mg K}(hf:x.f<4∧acc x.f≠acc i)(hc:s.pC x.c=some x.f)(hk:x.key=s.ok x.c)(hd:s.done i x.c=false)(ha:s.jT x.c i=none)
  (ho: ∀y∈s.bS,y.k=1→¬(y.c=x.c∧y.t=i)):({s with ms:=cV s.ms i (rings z x s.now)}).Inv F H num:=by
 have gE: ∀d c,s.jo d c→({s with ms:=cV s.ms i (rings z x s.now)}:Sy K).jo d c:=by
  intro d c hb;simp only [Sy.jo,Mc.has,cV]at hb ⊢
  grind
 refine⟨fun j hj=>?_,h.rt,fun y hy hk=>?_,h.once,h.f2,fun y hy hk=>?_,h.f5,fun c k hc=>?_,fun c d k hc=>?_,h.tk,h.ck,h.pr,h.dn⟩
 ·obtain⟨k1,k2,k3,k4,k5,k6,k7,k8⟩:=h.ms j hj;by_cases rY:j=i
  ·subst rY;simp only [du,rings];exact⟨by simp,fun _=>⟨hd,Nat.le_refl _,Nat.le_refl _⟩,fun h=>absurd h (by simp),fun _=>⟨rfl,hk,ha⟩,fun _ _=>⟨hc,hf.2,hf.1⟩,fun h=>absurd h (by simp),fun h=>absurd h (by simp),fun h=>absurd h (by simp)⟩
  ·simp only [fK _ _ rY];exact⟨k1,k2,k3,k4,k5,k6,k7,k8⟩
 ·obtain⟨q1,q2,q3,q4,q5⟩:=h.f1 y hy hk;have:=ho y hy hk;refine⟨q1,q2,q3,?_,q5⟩;simp only [Mc.has,cV,rings]at q4 ⊢
  grind
 ·rcases h.f3 y hy hk with q | ⟨q1,q2⟩
  ·exact .inl q
  ·exact .inr ⟨q1,gE _ _ q2⟩
 ·obtain⟨q1,q2,q3⟩:=h.cl c k hc;exact⟨q1,q2,gE _ _ q3⟩
 ·obtain⟨q1,q2⟩:=h.an c d k hc;exact⟨gE _ _ q1,q2⟩
theorem Sy.Inv.cf(h:s.Inv F H num){i:Nat}(hi:i<4)(hp:(s.ms i).ph=2)(key:K):
  ({s with ms:=cV s.ms i (answers z F i (s.ms i) key s.now).m,jT:=kZ s.jT (s.ms i).c i (some key)}).Inv F H num:=by
 obtain⟨g1,g2,g3,g4,g5,g6,g7,g8⟩:=h.ms i hi;obtain⟨o1,o2,o3⟩:=g4 hp;obtain⟨n1,n2,n3⟩:=g2 (by omega);obtain⟨p1,p2,p3⟩:=g5 (by omega) o1;have gE: ∀d c,s.jo d c→({s with ms:=cV s.ms i (answers z F i (s.ms i) key s.now).m,jT:=kZ s.jT (s.ms i).c i (some key)}:Sy K).jo d c:=by
  intro d c hb;simp only [Sy.jo,Mc.has,cV,answers]at hb ⊢
  grind
 have Nd: ∀c d k,s.jT c d=some k→kZ s.jT (s.ms i).c i (some key) c d=some k:=by
  intro c d k hk;simp only [kZ];rw [if_neg (by rintro ⟨rfl,rfl⟩;rw [o3]at hk;cases hk)];exact hk
 refine⟨fun j hj=>?_,h.rt,fun y hy hk=>?_,h.once,fun y hy hk=>⟨(h.f2 y hy hk).1,Nd _ _ _ (h.f2 y hy hk).2⟩,fun y hy hk=>?_,h.f5,fun c k hc=>?_,fun c d k hc=>?_,fun c p hc=>?_,h.ck,fun c k hc=>?_,h.dn⟩
 ·obtain⟨k1,k2,k3,k4,k5,k6,k7,k8⟩:=h.ms j hj;by_cases rY:j=i
  ·subst rY;simp only [du,answers];refine⟨by simp,fun _=>⟨n1,n2,Nat.le_refl _⟩,fun h=>absurd h (by simp),fun h=>absurd h (by simp),fun _ _=>⟨p1,p2,p3⟩,fun _ h=>(by rw [o1]at h;cases h),fun _ _=>⟨key,?_,?_⟩,fun h=>absurd h (by simp)⟩
   ·simp [kZ]
   ·show F _ _ _ _ _=F _ _ _ _ _;rw [o2]
  ·simp only [fK _ _ rY];refine⟨k1,k2,k3,fun hq=>?_,k5,fun hq ho=>?_,fun hq ho=>?_,k8⟩
   ·obtain⟨q1,q2,q3⟩:=k4 hq;refine⟨q1,q2,?_⟩;simp only [kZ];rw [if_neg (fun h=>rY h.2)];exact q3
   ·obtain⟨q1,q2,q3,q4,k,q5,q6⟩:=k6 hq ho;exact⟨q1,q2,q3,q4,k,Nd _ _ _ q5,q6⟩
   ·obtain⟨k,q5,q6⟩:=k7 hq ho;exact⟨k,Nd _ _ _ q5,q6⟩
 ·obtain⟨q1,q2,q3,q4,q5⟩:=h.f1 y hy hk;refine⟨q1,q2,q3,?_,?_⟩
  ·simp only [Mc.has,cV,answers]at q4 ⊢
   grind
  ·simp only [kZ];rw [if_neg (fun hh=>q4 ?_)]
   ·exact q5
   ·rw [hh.2,hh.1];exact⟨by omega,rfl⟩
 ·rcases h.f3 y hy hk with q | ⟨q1,q2⟩
  ·exact .inl q
  ·exact .inr ⟨q1,gE _ _ q2⟩
 ·obtain⟨q1,q2,q3⟩:=h.cl c k hc;exact⟨q1,q2,gE _ _ q3⟩
 ·simp only [kZ]at hc;by_cases hh:c=(s.ms i).c∧d=i
  ·obtain⟨rfl,rfl⟩:=hh;refine⟨.inl ?_,_,p1,p2⟩;simp only [Mc.has,cV,answers];simp
  ·rw [if_neg hh]at hc;obtain⟨q1,q2⟩:=h.an c d k hc;exact⟨gE _ _ q1,q2⟩
 ·obtain⟨k,hk⟩:=h.tk c p hc;exact⟨k,Nd _ _ _ hk⟩
 ·obtain⟨i,p,k2,q1,q2,q3,q4⟩:=h.pr c k hc;exact⟨i,p,k2,q1,q2,Nd _ _ _ q3,q4⟩
theorem Sy.Inv.conn(h:s.Inv F H num){i f:Nat}(hi:i<4)(hp:(s.ms i).ph=1)(hf:f<4∧acc f≠acc i){key:K}(ha:s.jT (s.ms i).c f=some key):
  ({s with ms:=cV s.ms i {s.ms i with ph:=3,dg:=F (s.ms i).c (s.ms i).own key i f,peer:=f,since:=s.now},bI:=cV s.bI (s.ms i).c (some f)}).Inv F H num:=by
 obtain⟨g1,g2,g3,g4,g5,g6,g7,g8⟩:=h.ms i hi;obtain⟨o1,o2,o3,o4,o5⟩:=g3 hp;obtain⟨n1,n2,n3⟩:=g2 (by omega);have gE: ∀d c,s.jo d c→({s with ms:=cV s.ms i {s.ms i with ph:=3,dg:=F (s.ms i).c (s.ms i).own key i f,peer:=f,since:=s.now},bI:=cV s.bI (s.ms i).c (some f)}:Sy K).jo d c:=by
  intro d c hb;simp only [Sy.jo,Mc.has,cV]at hb ⊢
  grind
 have zZ: ∀c p,s.bI c=some p→cV s.bI (s.ms i).c (some f) c=some p:=by
  intro c p hk;simp only [cV];rw [if_neg (by rintro rfl;rw [o3]at hk;cases hk)];exact hk
 refine⟨fun j hj=>?_,h.rt,fun y hy hk=>?_,h.once,h.f2,fun y hy hk=>?_,h.f5,fun c k hc=>?_,fun c d k hc=>?_,fun c p hc=>?_,fun c=>?_,fun c k hc=>?_,h.dn⟩
 ·obtain⟨k1,k2,k3,k4,k5,k6,k7,k8⟩:=h.ms j hj;by_cases rY:j=i
  ·subst rY;simp only [du];refine⟨by simp,fun _=>⟨n1,n2,Nat.le_refl _⟩,fun h=>absurd h (by simp),fun h=>absurd h (by simp),fun _ h=>(by rw [o5]at h;cases h),fun _ _=>⟨o1,by simp [cV],hf.2,hf.1,key,ha,?_⟩,fun _ h=>(by rw [o5]at h;cases h),fun h=>absurd h (by simp)⟩;rw [o2]
  ·simp only [fK _ _ rY];refine⟨k1,k2,fun hq=>?_,k4,k5,fun hq ho=>?_,k7,fun hq ho=>zZ _ _ (k8 hq ho)⟩
   ·obtain⟨q1,q2,q3,q4,q5⟩:=k3 hq;refine⟨q1,q2,?_,q4,q5⟩;simp only [cV];rw [if_neg]
    ·exact q3
    ·intro e;rw [e,o1]at q1;cases q1;exact rY rfl
   ·obtain⟨q1,q2,q3⟩:=k6 hq ho;exact⟨q1,zZ _ _ q2,q3⟩
 ·obtain⟨q1,q2,q3,q4,q5⟩:=h.f1 y hy hk;refine⟨q1,q2,q3,?_,q5⟩;simp only [Mc.has,cV]at q4 ⊢
  grind
 ·rcases h.f3 y hy hk with⟨q1,q2⟩ | ⟨q1,q2⟩
  ·exact .inl ⟨q1,zZ _ _ q2⟩
  ·exact .inr ⟨q1,gE _ _ q2⟩
 ·obtain⟨q1,q2,q3⟩:=h.cl c k hc;exact⟨q1,q2,gE _ _ q3⟩
 ·obtain⟨q1,q2⟩:=h.an c d k hc;exact⟨gE _ _ q1,q2⟩
 ·simp only [cV]at hc;by_cases hh:c=(s.ms i).c
  ·subst hh;rw [if_pos rfl]at hc;cases hc;exact⟨_,ha⟩
  ·rw [if_neg hh]at hc;exact h.tk c p hc
 ·by_cases hh:c=(s.ms i).c
  ·subst hh;exact .inr ⟨i,o1⟩
  ·rcases h.ck c with q | q
   ·refine .inl ?_;simp only [cV];rw [if_neg hh];exact q
   ·exact .inr q
 ·obtain⟨i,p,k2,q1,q2,q3,q4⟩:=h.pr c k hc;exact⟨i,p,k2,q1,zZ _ _ q2,q3,q4⟩
theorem Sy.Inv.same(h:s.Inv F H num){i:Nat}(hi:i<4)(hp:3≤(s.ms i).ph)(ht:(s.ms i).out=false→s.bI (s.ms i).c=some i):
  ∃a p k,s.pC (s.ms i).c=some a∧s.bI (s.ms i).c=some p∧s.jT (s.ms i).c p=some k∧(s.ms i).dg=F (s.ms i).c (s.ok (s.ms i).c) k a p:=by
 obtain⟨g1,g2,g3,g4,g5,g6,g7,g8⟩:=h.ms i hi;cases ho:(s.ms i).out with
 | true=>
  obtain⟨q1,q2,q3,q4,k,q5,q6⟩:=g6 hp ho;exact⟨i,_,k,q1,q2,q5,q6⟩
 | false=>
  obtain⟨k,q5,q6⟩:=g7 hp ho;exact⟨_,i,k,(g5 (by omega) ho).1,ht ho,q5,q6⟩
theorem Sy.Inv.told(h:s.Inv F H num){i:Nat}(hi:i<4)(hp:3≤(s.ms i).ph)(ht:(s.ms i).out=false→s.bI (s.ms i).c=some i){k:K}(hk:s.pr (s.ms i).c=some k):k=H (s.ms i).dg:=by
 obtain⟨a,p,k1,q1,q2,q3,q4⟩:=h.same hi hp ht;obtain⟨a2,p2,k2,r1,r2,r3,r4⟩:=h.pr _ _ hk;rw [q1]at r1;rw [q2]at r2;cases r1;cases r2;rw [q3]at r3;cases r3;rw [r4,q4]
theorem Sy.Inv.act(h:s.Inv F H num){i:Nat}(hi:i<4)(hp:(s.ms i).ph=3)(ht:(s.ms i).out=false→s.bI (s.ms i).c=some i):
  ({s with ms:=cV s.ms i (dX H (s.ms i) s.now).1,pr:=cV s.pr (s.ms i).c (some (H (s.ms i).dg))}).Inv F H num:=by
 obtain⟨g1,g2,g3,g4,g5,g6,g7,g8⟩:=h.ms i hi;obtain⟨n1,n2,n3⟩:=g2 (by omega);obtain⟨a,p,k1,w1,w2,w3,w4⟩:=h.same hi (by omega) ht;have gE: ∀d c,s.jo d c→({s with ms:=cV s.ms i (dX H (s.ms i) s.now).1,pr:=cV s.pr (s.ms i).c (some (H (s.ms i).dg))}:Sy K).jo d c:=by
  intro d c hb;simp only [Sy.jo,Mc.has,cV,dX]at hb ⊢
  grind
 refine⟨fun j hj=>?_,h.rt,fun y hy hk=>?_,h.once,h.f2,fun y hy hk=>?_,h.f5,fun c k hc=>?_,fun c d k hc=>?_,h.tk,h.ck,fun c k hc=>?_,h.dn⟩
 ·obtain⟨k1,k2,k3,k4,k5,k6,k7,k8⟩:=h.ms j hj;by_cases rY:j=i
  ·subst rY;simp only [du,dX];exact⟨by simp,fun _=>⟨n1,n2,Nat.le_refl _⟩,fun h=>absurd h (by simp),fun h=>absurd h (by simp),fun _=>k5 (by omega),fun _=>k6 (by omega),fun _=>k7 (by omega),fun _ ho=>ht ho⟩
  ·simp only [fK _ _ rY];refine⟨k1,k2,fun hq=>?_,k4,k5,k6,k7,k8⟩;obtain⟨q1,q2,q3,q4,q5⟩:=k3 hq;refine⟨q1,q2,q3,?_,q5⟩;simp only [cV];rw [if_neg]
   ·exact q4
   ·intro e;rw [e,w2]at q3;cases q3
 ·obtain⟨q1,q2,q3,q4,q5⟩:=h.f1 y hy hk;refine⟨q1,q2,q3,?_,q5⟩;simp only [Mc.has,cV,dX]at q4 ⊢
  grind
 ·rcases h.f3 y hy hk with q | ⟨q1,q2⟩
  ·exact .inl q
  ·exact .inr ⟨q1,gE _ _ q2⟩
 ·obtain⟨q1,q2,q3⟩:=h.cl c k hc;exact⟨q1,q2,gE _ _ q3⟩
 ·obtain⟨q1,q2⟩:=h.an c d k hc;exact⟨gE _ _ q1,q2⟩
 ·simp only [cV]at hc;by_cases hh:c=(s.ms i).c
  ·subst hh;rw [if_pos rfl]at hc;cases hc;exact⟨a,p,k1,w1,w2,w3,by rw [w4]⟩
  ·rw [if_neg hh]at hc;exact h.pr c k hc
variable {K:Type} {z:K} {F:Nat→K→K→Nat→Nat→K} {H:K→K} {num:Nat→Nat} {s:Sy K}
theorem Ez{α:Type}(f:Nat→α)(i:Nat):cV f i (f i)=f:=by
 funext j;simp only [cV];split<;>simp_all
theorem IF{α:Type}(f:Nat→α)(i:Nat)(a b:α):cV (cV f i a) i b=cV f i b:=by
 funext j;simp only [cV];split<;>rfl
theorem Sy.Inv.Bg(h:s.Inv F H num)(l:List (Mg K))(hl: ∀y∈l,(y.f<4∧y.t<4∧acc y.f≠acc y.t∧2≤y.k∧y.k≤6)∧(y.k=2→s.pC y.c=some y.t∧s.jT y.c y.f=some y.key)∧
  (y.k=3→(s.pC y.c=some y.f∧s.bI y.c=some y.t)∨(s.pC y.c=some y.t∧s.jo y.f y.c))∧(y.k=5→s.done y.f y.c=true)):({s with bS:=s.bS++l}).Inv F H num:=by
 induction l generalizing s with
 | nil=>simpa using h
 | cons y l ih=>
  obtain⟨h1,h2,h3,h4⟩:=hl y (.head _);have:=ih (h.send h1 h2 h3 h4) fun x hx=>hl x (.tail _ hx)
  simpa using this
theorem Sy.Inv.Rx(h:s.Inv F H num){i:Nat}(a b:Nat):({s with ms:=cV s.ms i {s.ms i with heard:=a,bD:=b}}).Inv F H num:=by
 have hb: ∀d c,s.jo d c→({s with ms:=cV s.ms i {s.ms i with heard:=a,bD:=b}}:Sy K).jo d c:=by
  intro d c hb;simp only [Sy.jo,Mc.has,cV]at hb ⊢
  grind
 refine⟨fun j hj=>?_,h.rt,fun y hy hk=>?_,h.once,h.f2,fun y hy hk=>?_,h.f5,fun c k hc=>?_,fun c d k hc=>?_,h.tk,h.ck,h.pr,h.dn⟩
 ·obtain⟨k1,k2,k3,k4,k5,k6,k7,k8⟩:=h.ms j hj;by_cases rY:j=i
  ·subst rY;simp only [du];exact⟨k1,k2,k3,k4,k5,k6,k7,k8⟩
  ·simp only [fK _ _ rY];exact⟨k1,k2,k3,k4,k5,k6,k7,k8⟩
 ·obtain⟨q1,q2,q3,q4,q5⟩:=h.f1 y hy hk;refine⟨q1,q2,q3,?_,q5⟩;simp only [Mc.has,cV]at q4 ⊢
  grind
 ·rcases h.f3 y hy hk with q | ⟨q1,q2⟩
  ·exact .inl q
  ·exact .inr ⟨q1,hb _ _ q2⟩
 ·obtain⟨q1,q2,q3⟩:=h.cl c k hc;exact⟨q1,q2,hb _ _ q3⟩
 ·obtain⟨q1,q2⟩:=h.an c d k hc;exact⟨hb _ _ q1,q2⟩
theorem Sy.Inv.time(h:s.Inv F H num){n d:Nat}(hn:s.now≤n)(hd:s.dl≤d):({s with now:=n,dl:=d}).Inv F H num:=
 ⟨fun i hi=>⟨(h.ms i hi).ph,fun hp=>⟨((h.ms i hi).nd hp).1,Nat.le_trans ((h.ms i hi).nd hp).2.1 hn,Nat.le_trans ((h.ms i hi).nd hp).2.2 hn⟩,(h.ms i hi).d1,(h.ms i hi).d2,(h.ms i hi).io,(h.ms i hi).d3,(h.ms i hi).d4,(h.ms i hi).d5⟩,
  h.rt,h.f1,h.once,h.f2,h.f3,h.f5,fun c i hc=>⟨(h.cl c i hc).1,Nat.le_trans (h.cl c i hc).2.1 hd,(h.cl c i hc).2.2⟩,h.an,h.tk,h.ck,h.pr,h.dn⟩
theorem Sy.Inv.peer(h:s.Inv F H num){i:Nat}(hi:i<4)(hp:2≤(s.ms i).ph):(s.ms i).peer<4∧acc (s.ms i).peer≠acc i:=by
 obtain⟨g1,g2,g3,g4,g5,g6,g7,g8⟩:=h.ms i hi;cases ho:(s.ms i).out with
 | false=>exact⟨(g5 (by omega) ho).2.2,(g5 (by omega) ho).2.1⟩
 | true=>
  have S_:(s.ms i).ph=2∨3≤(s.ms i).ph:=by omega
  rcases S_ with e | e
  ·have:=(g4 e).1;rw [ho]at this;cases this
  ·exact⟨(g6 e ho).2.2.2.1,(g6 e ho).2.2.1⟩
theorem lU{i j:Nat}(hi:i<4)(h:j∈others i):j<4∧acc j≠acc i:=by
 simp only [others,acc,List.mem_cons,List.not_mem_nil,or_false]at h ⊢;omega
def lV[DecidableEq K](F:Nat→K→K→Nat→Nat→K)(H:K→K)(num:Nat→Nat)(s:Sy K)(i:Nat)(r:Rs K):Prop:= ∃s',s'.Inv F H num∧kv s s' i r
theorem Sy.Inv.rm[DecidableEq K](h:s.Inv F H num)(i:Nat):lV F H num s i (gY (s.ms i)):=
 ⟨s,h,rfl,rfl,(Ez _ _).symm,by simp [gY],rfl,rfl⟩
theorem Sy.Inv.YV[DecidableEq K](h:s.Inv F H num){i:Nat}{l:List (Mg K)}(hl: ∀y∈l,(y.f<4∧y.t<4∧acc y.f≠acc y.t∧2≤y.k∧y.k≤6)∧(y.k=2→s.pC y.c=some y.t∧s.jT y.c y.f=some y.key)∧
  (y.k=3→(s.pC y.c=some y.f∧s.bI y.c=some y.t)∨(s.pC y.c=some y.t∧s.jo y.f y.c))∧(y.k=5→s.done y.f y.c=true)):lV F H num s i ⟨s.ms i,l,[],[]⟩:=
 ⟨_,h.Bg l hl,rfl,rfl,(Ez _ _).symm,rfl,rfl,rfl⟩
theorem Sy.Inv.left[DecidableEq K](h:s.Inv F H num){i:Nat}(hi:i<4)(hp:(s.ms i).ph≠0){l:List (Mg K)}(hl: ∀y∈l,y.k=5∧y.c=(s.ms i).c∧y.f=i∧y.t<4∧acc i≠acc y.t):
  lV F H num s i ⟨{s.ms i with ph:=0},l,[],[((s.ms i).c,(s.ms i).aK)]⟩:=by
 obtain⟨n1,n2,n3⟩:=(h.ms i hi).nd hp;refine⟨_,(h.gone hi hp).Bg l ?_,rfl,rfl,rfl,rfl,rfl,?_⟩
 ·intro y hy;obtain⟨h1,h2,h3,h4,h5⟩:=hl y hy;refine⟨⟨by omega,h4,by rw [h3];exact h5,by omega,by omega⟩,fun e=>by omega,fun e=>by omega,fun _=>?_⟩;simp [kZ,h2,h3]
 ·simp [y_,n1,n2]
theorem Sy.Inv.leave[DecidableEq K](h:s.Inv F H num){i:Nat}(hi:i<4)(hp:(s.ms i).ph≠0){sub:List Nat}(hs: ∀j∈sub,j∈others i):lV F H num s i (leaves z i (s.ms i) sub):=by
 refine h.left hi hp fun y hy=>?_
 by_cases hd:(s.ms i).ph=1
 ·rw [if_pos hd]at hy;obtain⟨j,hj,rfl⟩:=aeu.1 hy;have:=lU hi (hs j hj);exact⟨rfl,rfl,rfl,this.1,fun e=>this.2 e.symm⟩
 ·rw [if_neg hd]at hy;rw [aei]at hy;subst hy;have:=h.peer hi (by omega);exact⟨rfl,rfl,rfl,this.1,fun e=>this.2 e.symm⟩
theorem Sy.Inv.end_[DecidableEq K](h:s.Inv F H num){i:Nat}(hi:i<4)(hp:(s.ms i).ph≠0):lV F H num s i (ends (s.ms i)):=
 h.left hi hp fun y hy=>by simp at hy
theorem Sy.Inv.EA(h:s.Inv F H num){i:Nat}(hi:i<4)(hp:(s.ms i).ph=2)(key:K):
  ∃s':Sy K,s'.Inv F H num∧s'.now=s.now∧s'.dl=s.dl∧s'.ms=cV s.ms i (answers z F i (s.ms i) key s.now).m∧s'.bS=s.bS++(answers z F i (s.ms i) key s.now).o∧s'.bI=s.bI∧s'.pr=s.pr∧s'.done=s.done:=by
 obtain⟨g1,g2,g3,g4,g5,g6,g7,g8⟩:=h.ms i hi;obtain⟨o1,o2,o3⟩:=g4 hp;obtain⟨p1,p2,p3⟩:=g5 (by omega) o1;refine⟨_,(h.cf (z:=z) hi hp key).Bg (answers z F i (s.ms i) key s.now).o ?_,rfl,rfl,rfl,rfl,rfl,rfl,rfl⟩;intro y hy;simp only [answers,List.mem_cons,List.not_mem_nil,or_false]at hy;rcases hy with rfl | rfl
 ·exact⟨⟨hi,p3,fun e=>p2 e.symm,by simp,by simp⟩,fun _=>⟨p1,by simp [kZ]⟩,fun e=>by simp at e,fun e=>by simp at e⟩
 ·exact⟨⟨hi,p3,fun e=>p2 e.symm,by simp,by simp⟩,fun e=>by simp at e,fun _=> .inr ⟨p1,.inl (by simp [Mc.has,cV,answers])⟩,fun e=>by simp at e⟩
theorem Sy.Inv.answer[DecidableEq K](h:s.Inv F H num){i:Nat}(hi:i<4)(key:K):lV F H num s i (answer z F i (s.ms i) key s.now):=by
 by_cases hp:(s.ms i).ph=2
 ·rw [Cp.answer,if_pos hp];obtain⟨s',h',a1,a2,a3,a4,a5,a6,a7⟩:=h.EA (z:=z) hi hp key;have o1:=((h.ms i hi).d2 hp).1;refine⟨s',h',a1,a2,a3,a4,?_,?_⟩
  ·rw [a5,a6];simp [answers,ku,o1]
  ·rw [a7];rfl
 ·rw [Cp.answer,if_neg hp];exact h.rm i
theorem Sy.Inv.eQ[DecidableEq K](h:s.Inv F H num){i:Nat}(hi:i<4):lV F H num s i (eQ z i (s.ms i)):=by
 rw [Cp.eQ];by_cases hp:(s.ms i).ph=2
 ·rw [if_pos hp];refine h.left hi (by omega) fun y hy=>?_
  rw [aei]at hy;subst hy;have:=h.peer hi (by omega);exact⟨rfl,rfl,rfl,this.1,fun e=>this.2 e.symm⟩
 ·rw [if_neg hp];exact h.rm i
theorem Sy.Inv.px[DecidableEq K](h:s.Inv F H num){i:Nat}(hi:i<4){o:Or}(ho: ∀j∈o.sub,j∈others i):lV F H num s i (px z i (s.ms i) o):=by
 rw [Cp.px];by_cases hp:(s.ms i).ph=0∨(s.ms i).ph=2
 ·rw [if_pos hp];exact h.rm i
 ·rw [if_neg hp];exact h.leave hi (by omega) ho
theorem Sy.Inv.tick[DecidableEq K](h:s.Inv F H num){i:Nat}(hi:i<4){o:Or}(ho: ∀j∈o.sub,j∈others i):lV F H num s i (tick z i (s.ms i) s.now o):=by
 simp only [Cp.tick];split
 ·exact h.leave hi (by omega) ho
 ·split
  ·exact h.leave hi (by omega) ho
  ·split
   ·exact h.leave hi (by omega) ho
   ·split
    ·next h4=>
     have Pz:=h.peer hi (by omega);refine⟨_,(h.Rx (i:=i) (s.ms i).heard s.now).Bg [⟨3,(s.ms i).c,i,(s.ms i).peer,z⟩] ?_,rfl,rfl,rfl,rfl,rfl,rfl⟩;intro y hy;rw [aei]at hy;subst hy;refine⟨⟨hi,Pz.1,fun e=>Pz.2 e.symm,by simp,by simp⟩,fun e=>by simp at e,fun _=>?_,fun e=>by simp at e⟩;obtain⟨g1,g2,g3,g4,g5,g6,g7,g8⟩:=h.ms i hi;cases JW:(s.ms i).out with
     | true=>exact .inl ⟨(g6 (by omega) JW).1,(g6 (by omega) JW).2.1⟩
     | false=>
      refine .inr ⟨(g5 (by omega) JW).1,.inl ?_⟩;simp only [Mc.has,du];exact⟨by omega,trivial⟩
    ·exact h.rm i
theorem Sy.Inv.IG[DecidableEq K](h:s.Inv F H num){i:Nat}(hi:i<4)(hp:(s.ms i).ph=3)(ht:(s.ms i).out=false→s.bI (s.ms i).c=some i):
  lV F H num s i ⟨(dX H (s.ms i) s.now).1,[],[(dX H (s.ms i) s.now).2],[]⟩:=by
 refine⟨_,h.act hi hp ht,rfl,rfl,rfl,by simp,?_,rfl⟩;have h1:((s.pr (s.ms i).c).any fun x=>decide (x≠H (s.ms i).dg))=false:=by
  cases hk:s.pr (s.ms i).c with
  | none=>rfl
  | some k=>simp [h.told hi (by omega) ht hk]
 cases ho:(s.ms i).out with
 | true=>simpa [dX,ku,ho] using h1
 | false=>simpa [dX,ku,ho,ht ho] using h1
variable {K:Type} {z:K} {F:Nat→K→K→Nat→Nat→K} {H:K→K} {num:Nat→Nat} {s:Sy K}
theorem Sy.Inv.Nf(h:s.Inv F H num){n:Nat}{x:Mg K}(hx:s.bS[n]? =some x):({s with bS:=s.bS.eraseIdx n}).Inv F H num∧({s with bS:=s.bS.eraseIdx n}).Fact x:=by
 have hm:=List.mem_of_getElem? hx;refine⟨h.drop (List.eraseIdx_sublist _ _),h.rt x hm,h.f1 x hm,fun hk y hy Lx=>?_,h.f2 x hm,h.f3 x hm,h.f5 x hm⟩;rintro ⟨e1,e2⟩;obtain⟨m,Sw,fc,rfl⟩:=aeo.1 hy;obtain⟨hn,hx⟩:=adJ.1 hx;rcases Nat.lt_or_gt_of_ne fc with l | l
 ·exact aej.1 h.once m n Sw hn l ⟨Lx,by rw [hx];exact hk,by rw [hx];exact e1,by rw [hx];exact e2⟩
 ·exact aej.1 h.once n m hn Sw l ⟨by rw [hx];exact hk,Lx,by rw [hx];exact e1.symm,by rw [hx];exact e2.symm⟩
theorem Sy.Inv.Vt[DecidableEq K](h:s.Inv F H num){i:Nat}(hi:i<4)(hp:(s.ms i).ph=1){x:Mg K}(hx:s.Fact x)(ht:x.t=i)(hk:x.k=1)(hc:(s.ms i).c≠x.c){sub:List Nat}(hs: ∀j∈sub,j∈others i)(key:K):
  lV F H num s i ⟨(answers z F i (rings z x s.now) key s.now).m,(leaves z i (s.ms i) sub).o++(answers z F i (rings z x s.now) key s.now).o,(answers z F i (rings z x s.now) key s.now).e,(leaves z i (s.ms i) sub).r⟩:=by
 subst ht;obtain⟨q1,q2,q3,q4,q5⟩:=hx.f1 hk;obtain⟨n1,n2,n3⟩:=(h.ms x.t hi).nd (by omega);have hl: ∀y∈(leaves z x.t (s.ms x.t) sub).o,y.k=5∧y.c=(s.ms x.t).c∧y.f=x.t∧y.t<4∧acc x.t≠acc y.t:=by
  intro y hy;simp only [leaves,if_pos hp]at hy;obtain⟨j,hj,rfl⟩:=aeu.1 hy;have:=lU hi (hs j hj);exact⟨rfl,rfl,rfl,this.1,fun e=>this.2 e.symm⟩
 have h1:=(h.gone hi (by omega)).Bg (leaves z x.t (s.ms x.t) sub).o (by
  intro y hy;obtain⟨h1,h2,h3,h4,h5⟩:=hl y hy;refine⟨⟨by omega,h4,by rw [h3];exact h5,by omega,by omega⟩,fun e=>by omega,fun e=>by omega,fun _=>?_⟩;simp [kZ,h2,h3])
 have h2:=h1.ring (z:=z) (i:=x.t) hi (by simp [cV]) (x:=x) ⟨hx.rt.1,hx.rt.2.2.1⟩ q1 q2 (by
  simp only [kZ];rw [if_neg]
  ·exact q3
  ·exact fun e=>hc e.2.symm) q5 (by
  intro y hy Pa;rcases aea.1 hy with hy | hy
  ·exact hx.no hk y hy Pa
  ·have:=(hl y hy).1;omega)
 obtain⟨s',h3,b1,b2,b3,b4,b5,b6,b7⟩:=h2.EA (z:=z) (i:=x.t) hi (by simp [cV,rings]) key;simp only [du,IF]at b1 b2 b3 b4 b5 b6 b7;refine⟨s',h3,b1,b2,b3,?_,?_,?_⟩
 ·rw [b4];simp
 ·rw [b5,b6];simp [answers,ku,rings]
 ·rw [b7];simp [leaves,y_,n1,n2]
theorem Sy.Inv.YW[DecidableEq K](h:s.Inv F H num){i:Nat}(hi:i<4)(hp:(s.ms i).ph=0){x:Mg K}(hx:s.Fact x)(ht:x.t=i)(hk:x.k=1):lV F H num s i ⟨rings z x s.now,[],[],[]⟩:=by
 subst ht;obtain⟨q1,q2,q3,q4,q5⟩:=hx.f1 hk;exact⟨_,h.ring (z:=z) hi hp ⟨hx.rt.1,hx.rt.2.2.1⟩ q1 q2 q3 q5 (hx.no hk),rfl,rfl,rfl,by simp,rfl,rfl⟩
theorem Sy.Inv.one[DecidableEq K](h:s.Inv F H num){i:Nat}{y:Mg K}(hr:y.f<4∧y.t<4∧acc y.f≠acc y.t∧4≤y.k∧y.k≤6)(h5:y.k=5→s.done y.f y.c=true):lV F H num s i ⟨s.ms i,[y],[],[]⟩:=
 h.YV fun x hx=>by
  rw [aei]at hx;subst hx;exact⟨⟨hr.1,hr.2.1,hr.2.2.1,by omega,hr.2.2.2.2⟩,fun e=>by omega,fun e=>by omega,h5⟩
theorem Sy.Inv.Vu(h:s.Inv F H num){i:Nat}(hi:i<4)(hp:(s.ms i).ph=1){x:Mg K}(hx:s.Fact x)(ht:x.t=i)(hk:x.k=2)(hc:x.c=(s.ms i).c){xB:List Nat}(he: ∀j∈xB,j∈others i):
  ∃s':Sy K,s'.Inv F H num∧s'.now=s.now∧s'.dl=s.dl∧s'.ms=cV s.ms i {s.ms i with ph:=3,dg:=F (s.ms i).c (s.ms i).own x.key i x.f,peer:=x.f,since:=s.now}∧
   s'.bS=s.bS++(⟨3,(s.ms i).c,i,x.f,z⟩::to z 6 (s.ms i).c i xB)∧s'.bI=cV s.bI (s.ms i).c (some x.f)∧s'.pr=s.pr∧s'.done=s.done:=by
 subst ht;obtain⟨r1,r2,r3,r4,r5⟩:=hx.rt;refine⟨_,(h.conn hi hp ⟨r1,r3⟩ (key:=x.key) (hc▸(hx.f2 hk).2)).Bg (⟨3,(s.ms x.t).c,x.t,x.f,z⟩::to z 6 (s.ms x.t).c x.t xB) ?_,rfl,rfl,rfl,rfl,rfl,rfl,rfl⟩;intro y hy;rcases List.mem_cons.1 hy with rfl | hy
 ·exact⟨⟨r2,r1,fun e=>r3 e.symm,by simp,by simp⟩,fun e=>by simp at e,fun _=> .inl ⟨((h.ms x.t hi).d1 hp).1,by simp [cV]⟩,fun e=>by simp at e⟩
 ·obtain⟨j,hj,rfl⟩:=aeu.1 hy;have:=lU hi (he j hj);exact⟨⟨r2,this.1,fun e=>this.2 e.symm,by simp,by simp⟩,fun e=>by simp at e,fun e=>by simp at e,fun e=>by simp at e⟩
theorem Sy.Inv.take[DecidableEq K](h:s.Inv F H num){x:Mg K}(hx:s.Fact x){o:Or}(hs: ∀j∈o.sub,j∈others x.t)(he: ∀j∈o.xB,j∈others x.t):lV F H num s x.t (take z F H x.t (s.ms x.t) x s.now o):=by
 obtain⟨r1,r2,r3,r4,r5⟩:=hx.rt;have LH:x.t<4∧x.f<4∧acc x.t≠acc x.f:=⟨r2,r1,fun e=>r3 e.symm⟩;simp only [Cp.take];by_cases k1:x.k=1
 ·rw [if_pos k1];by_cases c1:o.has=true
  ·rw [if_pos c1];exact h.rm _
  rw [if_neg c1];by_cases c2:(s.ms x.t).ph=0
  ·rw [if_pos c2];exact h.YW r2 c2 hx rfl k1
  rw [if_neg c2];by_cases c3:(s.ms x.t).c=x.c
  ·rw [if_pos c3];exact h.rm _
  rw [if_neg c3];by_cases c4:(s.ms x.t).ph=1∧o.less=true
  ·rw [if_pos c4];exact h.Vt r2 c4.1 hx rfl k1 c3 hs _
  rw [if_neg c4];by_cases c5:o.busy=true
  ·rw [if_pos c5];exact h.rm _
  ·rw [if_neg c5];exact h.one ⟨LH.1,LH.2.1,LH.2.2,by simp,by simp⟩ (by simp)
 rw [if_neg k1];have gone:s.jo x.t x.c→¬(s.ms x.t).has x.c→s.done x.t x.c=true:=fun b n=>b.resolve_left n
 by_cases k2:x.k=2
 ·rw [if_pos k2];by_cases c1:(s.ms x.t).has x.c
  ·rw [if_neg (not_not_intro c1)];by_cases c2:(s.ms x.t).ph=1∧o.h_=true
   ·rw [if_pos c2]
    replace c2:=c2.1
    obtain⟨s',h',b1,b2,b3,b4,b5,b6,b7⟩:=h.Vu (z:=z) r2 c2 hx rfl k2 c1.2.symm he;obtain⟨o1,o2,o3,o4,o5⟩:=(h.ms x.t r2).d1 c2;by_cases c3:o.early=true
    ·rw [if_pos c3];have e1:s'.ms x.t={s.ms x.t with ph:=3,dg:=F (s.ms x.t).c (s.ms x.t).own x.key x.t x.f,peer:=x.f,since:=s.now}:=by rw [b3,du]
     obtain⟨s2,h2,d1,d2,d3,d4,d5,d6⟩:=h'.IG (i:=x.t) r2 (by rw [e1]) (by rw [e1];intro e;simp [o5]at e);rw [e1]at d3 d5;refine⟨s2,h2,by rw [d1,b1],by rw [d2,b2],by rw [d3,b3,IF,b1],by rw [d4,b4];simp,?_,?_⟩
     ·rw [b5,b6,b1]at d5;rw [b1]at*;simpa [ku,dX,o5,o3] using d5
     ·rw [b7]at d6;simpa using d6
    ·rw [if_neg c3];refine⟨s',h',b1,b2,b3,b4,?_,?_⟩
     ·rw [b5,b6];simp [ku,o5,o3]
     ·rw [b7];rfl
   rw [if_neg c2];split
   ·exact h.one ⟨LH.1,LH.2.1,LH.2.2,by simp,by simp⟩ (by simp)
   ·exact h.rm _
  ·rw [if_pos c1];exact h.one ⟨LH.1,LH.2.1,LH.2.2,by simp,by simp⟩ fun _=>gone (h.cl _ _ (hx.f2 k2).1).2.2 c1
 rw [if_neg k2];by_cases k3:x.k=3
 ·rw [if_pos k3];by_cases c1:(s.ms x.t).has x.c
  ·rw [if_neg (not_not_intro c1)];split
   ·exact h.rm _
   next c2=>
   by_cases c3:(s.ms x.t).ph=3
   ·rw [if_pos c3];refine h.IG r2 c3 fun ho=>?_
    rw [c1.2];rcases hx.f3 k3 with q | q
    ·exact q.2
    ·have:=(h.ms x.t r2).io c1.1 ho;rw [c1.2,q.1]at this;exact absurd (congrArg acc (Option.some.inj this.1).symm) this.2.1
   rw [if_neg c3];split
   ·exact⟨_,h.Rx (i:=x.t) s.now (s.ms x.t).bD,rfl,rfl,rfl,by simp,rfl,rfl⟩
   ·exact h.rm _
  ·rw [if_pos c1];refine h.one ⟨LH.1,LH.2.1,LH.2.2,by simp,by simp⟩ fun _=>gone ?_ c1
   rcases hx.f3 k3 with q | q
   ·obtain⟨k,hk⟩:=h.tk _ _ q.2;exact(h.an _ _ _ hk).1
   ·exact(h.cl _ _ q.1).2.2
 rw [if_neg k3];by_cases k4:x.k=4
 ·rw [if_pos k4];split
  ·next c=>exact h.leave r2 (by omega) hs
  ·exact h.rm _
 rw [if_neg k4];by_cases k5:x.k=5
 ·rw [if_pos k5];by_cases c1:(s.ms x.t).has x.c
  ·rw [if_neg (not_not_intro c1)];split
   ·split
    ·exact h.leave r2 c1.1 hs
    ·exact h.rm _
   ·split
    ·exact h.rm _
    ·exact h.end_ r2 c1.1
  ·rw [if_pos c1];exact h.rm _
 rw [if_neg k5];split
 ·split
  ·next c=>exact h.end_ r2 (c.1.1)
  ·exact h.rm _
 ·exact h.rm _
end Go.Cp
