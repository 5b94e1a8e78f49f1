/- Four call machines plainly. -/
import Derived.Test.YtphemenngjkfbaaM25
open List renaming getElem?_append_left → agC, getElem?_eq_some_iff → agx, map_cons → agW, mem_filter → agP, mem_map → ag9, mem_singleton → agZ, pairwise_iff_getElem → ag8
open Option.some renaming injEq → agy
namespace Go.Cp
variable {K:Type} {z:K} {F:Nat→K→K→Nat→Nat→K} {H:K→K} {num:Nat→Nat} {s:Sy K}
theorem h_{α:Type}(f:Nat→α)(i:Nat):bP f i (f i)=f:=by
 funext j;simp only [bP];split<;>simp_all
theorem zn{α:Type}(f:Nat→α)(i:Nat)(a b:α):bP (bP f i a) i b=bP f i b:=by
 funext j;simp only [bP];split<;>rfl
theorem Sy.Inv.nh(h:s.Inv F H num)(l:List (Mg K))(hl: ∀y∈l,(y.f<4∧y.t<4∧acc y.f≠acc y.t∧2≤y.k∧y.k≤6)∧(y.k=2→s.gO y.c=some y.t∧s.k_ y.c y.f=some y.key)∧
  (y.k=3→(s.gO y.c=some y.f∧s.bb y.c=some y.t)∨(s.gO y.c=some y.t∧s.been y.f y.c))∧(y.k=5→s.done y.f y.c=true)):({s with bW:=s.bW++l}).Inv F H num:=by
 induction l generalizing s with
 | nil=>simpa using h
 | cons y l ih=>
  obtain⟨h1,h2,h3,h4⟩:=hl y (.head _);have:=ih (h.send h1 h2 h3 h4) fun x hx=>hl x (.tail _ hx)
  simpa using this
theorem Sy.Inv.AT(h:s.Inv F H num){i:Nat}(a b:Nat)(d:Bool):({s with ms:=bP s.ms i {s.ms i with heard:=a,bO:=b,dec:=d}}).Inv F H num:=by
 have hb: ∀e c,s.been e c→({s with ms:=bP s.ms i {s.ms i with heard:=a,bO:=b,dec:=d}}:Sy K).been e c:=by
  intro e c hb;simp only [Sy.been,Mc.has,bP]at hb ⊢
  grind
 refine⟨fun j hj=>?_,h.rt,fun y hy hk=>?_,h.once,h.f2,fun y hy hk=>?_,h.f5,fun c k hc=>?_,fun c d k hc=>?_,h.tk,h.ck,h.pr,h.dn⟩
 ·obtain⟨k1,k2,k3,k4,k5,k6,k7,k8⟩:=h.ms j hj;by_cases sM:j=i
  ·subst sM;simp only [bj];exact⟨k1,k2,k3,k4,k5,k6,k7,k8⟩
  ·simp only [cg _ _ sM];exact⟨k1,k2,k3,k4,k5,k6,k7,k8⟩
 ·obtain⟨q1,q2,q3,q4,q5⟩:=h.f1 y hy hk;refine⟨q1,q2,q3,?_,q5⟩;simp only [Mc.has,bP]at q4 ⊢
  grind
 ·rcases h.f3 y hy hk with q | ⟨q1,q2⟩
  ·exact .inl q
  ·exact .inr ⟨q1,hb _ _ q2⟩
 ·obtain⟨q1,q2,q3⟩:=h.cl c k hc;exact⟨q1,q2,hb _ _ q3⟩
 ·obtain⟨q1,q2⟩:=h.an c d k hc;exact⟨hb _ _ q1,q2⟩
theorem Sy.Inv.time(h:s.Inv F H num){n d:Nat}(hn:s.now≤n)(hd:s.dl≤d):({s with now:=n,dl:=d}).Inv F H num:=
 ⟨fun i hi=>⟨(h.ms i hi).ph,fun hp=>⟨((h.ms i hi).nd hp).1,Nat.le_trans ((h.ms i hi).nd hp).2.1 hn,Nat.le_trans ((h.ms i hi).nd hp).2.2 hn⟩,(h.ms i hi).d1,(h.ms i hi).d2,(h.ms i hi).io,(h.ms i hi).d3,(h.ms i hi).d4,(h.ms i hi).d5⟩,
  h.rt,h.f1,h.once,h.f2,h.f3,h.f5,fun c i hc=>⟨(h.cl c i hc).1,Nat.le_trans (h.cl c i hc).2.1 hd,(h.cl c i hc).2.2⟩,h.an,h.tk,h.ck,h.pr,h.dn⟩
theorem Sy.Inv.peer(h:s.Inv F H num){i:Nat}(hi:i<4)(hp:2≤(s.ms i).ph):(s.ms i).peer<4∧acc (s.ms i).peer≠acc i:=by
 obtain⟨g1,g2,g3,g4,g5,g6,g7,g8⟩:=h.ms i hi;cases ho:(s.ms i).out with
 | false=>exact⟨(g5 (by omega) ho).2.2,(g5 (by omega) ho).2.1⟩
 | true=>
  have VI:(s.ms i).ph=2∨3≤(s.ms i).ph:=by omega
  rcases VI with e | e
  ·have:=(g4 e).1;rw [ho]at this;cases this
  ·exact⟨(g6 e ho).2.2.2.1,(g6 e ho).2.2.1⟩
theorem lb{i j:Nat}(hi:i<4)(h:j∈others i):j<4∧acc j≠acc i:=by
 simp only [others,acc,List.mem_cons,List.not_mem_nil,or_false]at h ⊢;omega
def ni[DecidableEq K](F:Nat→K→K→Nat→Nat→K)(H:K→K)(num:Nat→Nat)(s:Sy K)(i:Nat)(r:Rs K):Prop:= ∃s',s'.Inv F H num∧gP s s' i r
theorem Sy.Inv.jr[DecidableEq K](h:s.Inv F H num)(i:Nat):ni F H num s i (gG (s.ms i)):=
 ⟨s,h,rfl,rfl,(h_ _ _).symm,by simp [gG],rfl,rfl⟩
theorem Sy.Inv.sent[DecidableEq K](h:s.Inv F H num){i:Nat}{l:List (Mg K)}(hl: ∀y∈l,(y.f<4∧y.t<4∧acc y.f≠acc y.t∧2≤y.k∧y.k≤6)∧(y.k=2→s.gO y.c=some y.t∧s.k_ y.c y.f=some y.key)∧
  (y.k=3→(s.gO y.c=some y.f∧s.bb y.c=some y.t)∨(s.gO y.c=some y.t∧s.been y.f y.c))∧(y.k=5→s.done y.f y.c=true)):ni F H num s i ⟨s.ms i,l,[],[]⟩:=
 ⟨_,h.nh l hl,rfl,rfl,(h_ _ _).symm,rfl,rfl,rfl⟩
theorem Sy.Inv.left[DecidableEq K](h:s.Inv F H num){i:Nat}(hi:i<4)(hp:(s.ms i).ph≠0){l:List (Mg K)}(hl: ∀y∈l,y.k=5∧y.c=(s.ms i).c∧y.f=i∧y.t<4∧acc i≠acc y.t)(oc:Nat):
  ni F H num s i ⟨{s.ms i with ph:=0},l,[lP z (s.ms i) oc],[uq (s.ms i) oc]⟩:=by
 obtain⟨n1,n2,n3⟩:=(h.ms i hi).nd hp;refine⟨_,(h.gone hi hp).nh l ?_,rfl,rfl,rfl,rfl,rfl,?_⟩
 ·intro y hy;obtain⟨h1,h2,h3,h4,h5⟩:=hl y hy;refine⟨⟨by omega,h4,by rw [h3];exact h5,by omega,by omega⟩,fun e=>by omega,fun e=>by omega,fun _=>?_⟩;simp [jZ,h2,h3]
 ·simp [vF,uq,n1,n2]
theorem Sy.Inv.leave[DecidableEq K](h:s.Inv F H num){i:Nat}(hi:i<4)(hp:(s.ms i).ph≠0){sub:List Nat}(hs: ∀j∈sub,j∈others i)(why oc:Nat):ni F H num s i (leaves z i (s.ms i) sub why oc):=by
 refine h.left hi hp (fun y hy=>?_) oc;by_cases hd:(s.ms i).ph=1
 ·rw [if_pos hd]at hy;obtain⟨j,hj,rfl⟩:=ag9.1 hy;have:=lb hi (hs j hj);exact⟨rfl,rfl,rfl,this.1,fun e=>this.2 e.symm⟩
 ·rw [if_neg hd]at hy;rw [agZ]at hy;subst hy;have:=h.peer hi (by omega);exact⟨rfl,rfl,rfl,this.1,fun e=>this.2 e.symm⟩
theorem Sy.Inv.end_[DecidableEq K](h:s.Inv F H num){i:Nat}(hi:i<4)(hp:(s.ms i).ph≠0)(oc:Nat):ni F H num s i (ends z (s.ms i) oc):=
 h.left hi hp (fun y hy=>by simp at hy) oc
theorem Sy.Inv.fo(h:s.Inv F H num){i:Nat}(hi:i<4)(hp:(s.ms i).ph=2)(key:K):
  ∃s':Sy K,s'.Inv F H num∧s'.now=s.now∧s'.dl=s.dl∧s'.ms=bP s.ms i (answers z F i (s.ms i) key s.now).m∧s'.bW=s.bW++(answers z F i (s.ms i) key s.now).o∧s'.bb=s.bb∧s'.pr=s.pr∧s'.done=s.done:=by
 obtain⟨g1,g2,g3,g4,g5,g6,g7,g8⟩:=h.ms i hi;obtain⟨o1,o2,o3⟩:=g4 hp;obtain⟨p1,p2,p3⟩:=g5 (by omega) o1;refine⟨_,(h.bF (z:=z) hi hp key).nh (answers z F i (s.ms i) key s.now).o ?_,rfl,rfl,rfl,rfl,rfl,rfl,rfl⟩;intro y hy;simp only [answers,List.mem_cons,List.not_mem_nil,or_false]at hy;rcases hy with rfl | rfl
 ·exact⟨⟨hi,p3,fun e=>p2 e.symm,by simp,by simp⟩,fun _=>⟨p1,by simp [jZ]⟩,fun e=>by simp at e,fun e=>by simp at e⟩
 ·exact⟨⟨hi,p3,fun e=>p2 e.symm,by simp,by simp⟩,fun e=>by simp at e,fun _=> .inr ⟨p1,.inl (by simp [Mc.has,bP,answers])⟩,fun e=>by simp at e⟩
theorem Sy.Inv.answer[DecidableEq K](h:s.Inv F H num){i:Nat}(hi:i<4)(key:K):ni F H num s i (answer z F i (s.ms i) key s.now):=by
 by_cases hp:(s.ms i).ph=2
 ·rw [Cp.answer,if_pos hp];obtain⟨s',h',a1,a2,a3,a4,a5,a6,a7⟩:=h.fo (z:=z) hi hp key;have o1:=((h.ms i hi).d2 hp).1;refine⟨s',h',a1,a2,a3,a4,?_,?_⟩
  ·rw [a5,a6];simp [answers,eM,o1]
  ·rw [a7];rfl
 ·rw [Cp.answer,if_neg hp];exact h.jr i
theorem Sy.Inv.dW[DecidableEq K](h:s.Inv F H num){i:Nat}(hi:i<4):ni F H num s i (dW z i (s.ms i)):=by
 rw [Cp.dW];by_cases hp:(s.ms i).ph=2
 ·rw [if_pos hp];refine h.left hi (by omega) (fun y hy=>?_) 4;rw [agZ]at hy;subst hy;have:=h.peer hi (by omega);exact⟨rfl,rfl,rfl,this.1,fun e=>this.2 e.symm⟩
 ·rw [if_neg hp];exact h.jr i
theorem Sy.Inv.ng[DecidableEq K](h:s.Inv F H num){i:Nat}(hi:i<4){o:Or}(ho: ∀j∈o.sub,j∈others i):ni F H num s i (ng z i (s.ms i) o):=by
 rw [Cp.ng];by_cases hp:(s.ms i).ph=0∨(s.ms i).ph=2
 ·rw [if_pos hp];exact h.jr i
 ·rw [if_neg hp];exact h.leave hi (by omega) ho _ _
theorem Sy.Inv.tick[DecidableEq K](h:s.Inv F H num){i:Nat}(hi:i<4){o:Or}(ho: ∀j∈o.sub,j∈others i):ni F H num s i (tick z i (s.ms i) s.now o):=by
 simp only [Cp.tick];split
 ·exact h.leave hi (by omega) ho _ _
 ·split
  ·exact h.leave hi (by omega) ho _ _
  ·split
   ·exact h.leave hi (by omega) ho _ _
   ·split
    ·next h4=>
     have LW:=h.peer hi (by omega);refine⟨_,(h.AT (i:=i) (s.ms i).heard s.now (s.ms i).dec).nh [⟨3,(s.ms i).c,i,(s.ms i).peer,z,0⟩] ?_,rfl,rfl,rfl,rfl,rfl,rfl⟩;intro y hy;rw [agZ]at hy;subst hy;refine⟨⟨hi,LW.1,fun e=>LW.2 e.symm,by simp,by simp⟩,fun e=>by simp at e,fun _=>?_,fun e=>by simp at e⟩;obtain⟨g1,g2,g3,g4,g5,g6,g7,g8⟩:=h.ms i hi;cases Mi:(s.ms i).out with
     | true=>exact .inl ⟨(g6 (by omega) Mi).1,(g6 (by omega) Mi).2.1⟩
     | false=>
      refine .inr ⟨(g5 (by omega) Mi).1,.inl ?_⟩;simp only [Mc.has,bj];exact⟨by omega,trivial⟩
    ·exact h.jr i
theorem Sy.Inv.KC[DecidableEq K](h:s.Inv F H num){i:Nat}(hi:i<4)(hp:(s.ms i).ph=3)(ht:(s.ms i).out=false→s.bb (s.ms i).c=some i):
  ni F H num s i ⟨(active H (s.ms i) s.now).1,[],[(active H (s.ms i) s.now).2],[]⟩:=by
 refine⟨_,h.act hi hp ht,rfl,rfl,rfl,by simp,?_,rfl⟩;have h1:((s.pr (s.ms i).c).any fun x=>decide (x≠H (s.ms i).dM))=false:=by
  cases hk:s.pr (s.ms i).c with
  | none=>rfl
  | some k=>simp [h.told hi (by omega) ht hk]
 cases ho:(s.ms i).out with
 | true=>simpa [active,eM,ho] using h1
 | false=>simpa [active,eM,ho,ht ho] using h1
variable {K:Type} {z:K} {F:Nat→K→K→Nat→Nat→K} {H:K→K} {num:Nat→Nat} {s:Sy K}
theorem Sy.Inv.come(h:s.Inv F H num){n:Nat}{x:Mg K}(hx:s.bW[n]? =some x):({s with bW:=s.bW.eraseIdx n}).Inv F H num∧({s with bW:=s.bW.eraseIdx n}).Fact x:=by
 have hm:=List.mem_of_getElem? hx;refine⟨h.drop (List.eraseIdx_sublist _ _),h.rt x hm,h.f1 x hm,fun hk y hy HX=>?_,h.f2 x hm,h.f3 x hm,h.f5 x hm⟩;rintro ⟨e1,e2⟩;obtain⟨m,XE,eJ,rfl⟩:=List.mem_eraseIdx_iff_getElem.1 hy;obtain⟨hn,hx⟩:=agx.1 hx;rcases Nat.lt_or_gt_of_ne eJ with l | l
 ·exact ag8.1 h.once m n XE hn l ⟨HX,by rw [hx];exact hk,by rw [hx];exact e1,by rw [hx];exact e2⟩
 ·exact ag8.1 h.once n m hn XE l ⟨by rw [hx];exact hk,HX,by rw [hx];exact e1.symm,by rw [hx];exact e2.symm⟩
theorem Sy.Inv.YD[DecidableEq K](h:s.Inv F H num){i:Nat}(hi:i<4)(hp:(s.ms i).ph=1){x:Mg K}(hx:s.Fact x)(ht:x.t=i)(hk:x.k=1)(hc:(s.ms i).c≠x.c){sub:List Nat}(hs: ∀j∈sub,j∈others i)(key:K):
  ni F H num s i ⟨(answers z F i (rings z x s.now) key s.now).m,(leaves z i (s.ms i) sub 4 7).o++(answers z F i (rings z x s.now) key s.now).o,(leaves z i (s.ms i) sub 4 7).e++(nZ z x::(answers z F i (rings z x s.now) key s.now).e),(leaves z i (s.ms i) sub 4 7).r⟩:=by
 subst ht;obtain⟨q1,q2,q3,q4,q5⟩:=hx.f1 hk;obtain⟨n1,n2,n3⟩:=(h.ms x.t hi).nd (by omega);have hl: ∀y∈(leaves z x.t (s.ms x.t) sub 4 7).o,y.k=5∧y.c=(s.ms x.t).c∧y.f=x.t∧y.t<4∧acc x.t≠acc y.t:=by
  intro y hy;simp only [leaves,if_pos hp]at hy;obtain⟨j,hj,rfl⟩:=ag9.1 hy;have:=lb hi (hs j hj);exact⟨rfl,rfl,rfl,this.1,fun e=>this.2 e.symm⟩
 have h1:=(h.gone hi (by omega)).nh (leaves z x.t (s.ms x.t) sub 4 7).o (by
  intro y hy;obtain⟨h1,h2,h3,h4,h5⟩:=hl y hy;refine⟨⟨by omega,h4,by rw [h3];exact h5,by omega,by omega⟩,fun e=>by omega,fun e=>by omega,fun _=>?_⟩;simp [jZ,h2,h3])
 have h2:=h1.ring (z:=z) (i:=x.t) hi (by simp [bP]) (x:=x) ⟨hx.rt.1,hx.rt.2.2.1⟩ q1 q2 (by
  simp only [jZ];rw [if_neg]
  ·exact q3
  ·exact fun e=>hc e.2.symm) q5 (by
  intro y hy Rq;rcases List.mem_append.1 hy with hy | hy
  ·exact hx.no hk y hy Rq
  ·have:=(hl y hy).1;omega)
 obtain⟨s',h3,b1,b2,b3,b4,b5,b6,b7⟩:=h2.fo (z:=z) (i:=x.t) hi (by simp [bP,rings]) key;simp only [bj,zn]at b1 b2 b3 b4 b5 b6 b7;refine⟨s',h3,b1,b2,b3,?_,?_,?_⟩
 ·rw [b4];simp
 ·rw [b5,b6];simp [answers,eM,rings,leaves,lP,nZ]
 ·rw [b7];simp [leaves,uq,vF,n1,n2]
theorem Sy.Inv.abh[DecidableEq K](h:s.Inv F H num){i:Nat}(hi:i<4)(hp:(s.ms i).ph=0){x:Mg K}(hx:s.Fact x)(ht:x.t=i)(hk:x.k=1):ni F H num s i ⟨rings z x s.now,[],[nZ z x],[]⟩:=by
 subst ht;obtain⟨q1,q2,q3,q4,q5⟩:=hx.f1 hk;exact⟨_,h.ring (z:=z) hi hp ⟨hx.rt.1,hx.rt.2.2.1⟩ q1 q2 q3 q5 (hx.no hk),rfl,rfl,rfl,by simp,rfl,rfl⟩
theorem Sy.Inv.one[DecidableEq K](h:s.Inv F H num){i:Nat}{y:Mg K}(hr:y.f<4∧y.t<4∧acc y.f≠acc y.t∧4≤y.k∧y.k≤6)(h5:y.k=5→s.done y.f y.c=true):ni F H num s i ⟨s.ms i,[y],[],[]⟩:=
 h.sent fun x hx=>by
  rw [agZ]at hx;subst hx;exact⟨⟨hr.1,hr.2.1,hr.2.2.1,by omega,hr.2.2.2.2⟩,fun e=>by omega,fun e=>by omega,h5⟩
theorem Sy.Inv.YE(h:s.Inv F H num){i:Nat}(hi:i<4)(hp:(s.ms i).ph=1){x:Mg K}(hx:s.Fact x)(ht:x.t=i)(hk:x.k=2)(hc:x.c=(s.ms i).c){pg:List Nat}(he: ∀j∈pg,j∈others i):
  ∃s':Sy K,s'.Inv F H num∧s'.now=s.now∧s'.dl=s.dl∧s'.ms=bP s.ms i {s.ms i with ph:=3,dM:=F (s.ms i).c (s.ms i).own x.key i x.f,peer:=x.f,since:=s.now}∧
   s'.bW=s.bW++(⟨3,(s.ms i).c,i,x.f,z,0⟩::to z 6 (s.ms i).c i pg 0)∧s'.bb=bP s.bb (s.ms i).c (some x.f)∧s'.pr=s.pr∧s'.done=s.done:=by
 subst ht;obtain⟨r1,r2,r3,r4,r5⟩:=hx.rt;refine⟨_,(h.conn hi hp ⟨r1,r3⟩ (key:=x.key) (hc▸(hx.f2 hk).2)).nh (⟨3,(s.ms x.t).c,x.t,x.f,z,0⟩::to z 6 (s.ms x.t).c x.t pg 0) ?_,rfl,rfl,rfl,rfl,rfl,rfl,rfl⟩;intro y hy;rcases List.mem_cons.1 hy with rfl | hy
 ·exact⟨⟨r2,r1,fun e=>r3 e.symm,by simp,by simp⟩,fun e=>by simp at e,fun _=> .inl ⟨((h.ms x.t hi).d1 hp).1,by simp [bP]⟩,fun e=>by simp at e⟩
 ·obtain⟨j,hj,rfl⟩:=ag9.1 hy;have:=lb hi (he j hj);exact⟨⟨r2,this.1,fun e=>this.2 e.symm,by simp,by simp⟩,fun e=>by simp at e,fun e=>by simp at e,fun e=>by simp at e⟩
theorem Sy.Inv.take[DecidableEq K](h:s.Inv F H num){x:Mg K}(hx:s.Fact x){o:Or}(hs: ∀j∈o.sub,j∈others x.t)(he: ∀j∈o.pg,j∈others x.t):ni F H num s x.t (take z F H x.t (s.ms x.t) x s.now o):=by
 obtain⟨r1,r2,r3,r4,r5⟩:=hx.rt;have far:x.t<4∧x.f<4∧acc x.t≠acc x.f:=⟨r2,r1,fun e=>r3 e.symm⟩;simp only [Cp.take];by_cases k1:x.k=1
 ·rw [if_pos k1];by_cases c1:o.has=true
  ·rw [if_pos c1];exact h.jr _
  rw [if_neg c1];by_cases c2:(s.ms x.t).ph=0
  ·rw [if_pos c2];exact h.abh r2 c2 hx rfl k1
  rw [if_neg c2];by_cases c3:(s.ms x.t).c=x.c
  ·rw [if_pos c3];exact h.jr _
  rw [if_neg c3];by_cases c4:(s.ms x.t).ph=1∧o.less=true
  ·rw [if_pos c4];exact h.YD r2 c4.1 hx rfl k1 c3 hs _
  rw [if_neg c4];by_cases c5:o.busy=true
  ·rw [if_pos c5];exact h.jr _
  ·rw [if_neg c5];exact h.one ⟨far.1,far.2.1,far.2.2,by simp,by simp⟩ (by simp)
 rw [if_neg k1];have gone:s.been x.t x.c→¬(s.ms x.t).has x.c→s.done x.t x.c=true:=fun b n=>b.resolve_left n
 by_cases k2:x.k=2
 ·rw [if_pos k2];by_cases c1:(s.ms x.t).has x.c
  ·rw [if_neg (not_not_intro c1)];by_cases c2:(s.ms x.t).ph=1∧o.lO=true
   ·rw [if_pos c2]
    replace c2:=c2.1
    obtain⟨s',h',b1,b2,b3,b4,b5,b6,b7⟩:=h.YE (z:=z) r2 c2 hx rfl k2 c1.2.symm (pg:=o.pg.filter (· ≠x.f)) fun j hj=>he j (agP.1 hj).1
    obtain⟨o1,o2,o3,o4,o5⟩:=(h.ms x.t r2).d1 c2;by_cases c3:o.early=true
    ·rw [if_pos c3];have e1:s'.ms x.t={s.ms x.t with ph:=3,dM:=F (s.ms x.t).c (s.ms x.t).own x.key x.t x.f,peer:=x.f,since:=s.now}:=by rw [b3,bj]
     obtain⟨s2,h2,d1,d2,d3,d4,d5,d6⟩:=h'.KC (i:=x.t) r2 (by rw [e1]) (by rw [e1];intro e;simp [o5]at e);rw [e1]at d3 d5;refine⟨s2,h2,by rw [d1,b1],by rw [d2,b2],by rw [d3,b3,zn,b1],by rw [d4,b4];simp,?_,?_⟩
     ·rw [b5,b6,b1]at d5;rw [b1]at*;simpa [eM,active,o5,o3] using d5
     ·rw [b7]at d6;simpa using d6
    ·rw [if_neg c3];refine⟨s',h',b1,b2,b3,b4,?_,?_⟩
     ·rw [b5,b6];simp [eM,o5,o3]
     ·rw [b7];rfl
   rw [if_neg c2];split
   ·exact h.one ⟨far.1,far.2.1,far.2.2,by simp,by simp⟩ (by simp)
   ·exact h.jr _
  ·rw [if_pos c1];exact h.one ⟨far.1,far.2.1,far.2.2,by simp,by simp⟩ fun _=>gone (h.cl _ _ (hx.f2 k2).1).2.2 c1
 rw [if_neg k2];by_cases k3:x.k=3
 ·rw [if_pos k3];by_cases c1:(s.ms x.t).has x.c
  ·rw [if_neg (not_not_intro c1)];split
   ·exact h.jr _
   next c2=>
   by_cases c3:(s.ms x.t).ph=3
   ·rw [if_pos c3];refine h.KC r2 c3 fun ho=>?_
    rw [c1.2];rcases hx.f3 k3 with q | q
    ·exact q.2
    ·have:=(h.ms x.t r2).io c1.1 ho;rw [c1.2,q.1]at this;exact absurd (congrArg acc (Option.some.inj this.1).symm) this.2.1
   rw [if_neg c3];split
   ·exact⟨_,h.AT (i:=x.t) s.now (s.ms x.t).bO (s.ms x.t).dec,rfl,rfl,rfl,by simp,rfl,rfl⟩
   ·exact h.jr _
  ·rw [if_pos c1];refine h.one ⟨far.1,far.2.1,far.2.2,by simp,by simp⟩ fun _=>gone ?_ c1
   rcases hx.f3 k3 with q | q
   ·obtain⟨k,hk⟩:=h.tk _ _ q.2;exact(h.an _ _ _ hk).1
   ·exact(h.cl _ _ q.1).2.2
 rw [if_neg k3];by_cases k4:x.k=4
 ·rw [if_pos k4];split
  ·next c=>exact h.leave r2 (by omega) hs _ _
  ·exact h.jr _
 rw [if_neg k4];by_cases k5:x.k=5
 ·rw [if_pos k5];by_cases c1:(s.ms x.t).has x.c
  ·rw [if_neg (not_not_intro c1)];split
   ·split
    ·exact h.leave r2 c1.1 hs _ _
    ·exact⟨_,h.AT (i:=x.t) (s.ms x.t).heard (s.ms x.t).bO ((s.ms x.t).dec||x.why==2),rfl,rfl,rfl,by simp [gG],rfl,rfl⟩
   ·split
    ·exact h.jr _
    ·exact h.end_ r2 c1.1 _
  ·rw [if_pos c1];exact h.jr _
 rw [if_neg k5];split
 ·split
  ·next c=>exact h.end_ r2 (c.1.1) _
  ·exact h.jr _
 ·exact h.jr _
variable {K:Type} {z:K} {F:Nat→K→K→Nat→Nat→K} {H:K→K} {num:Nat→Nat} {s:Sy K}
theorem Sy.Inv.sQ(h:s.Inv F H num){i:Nat}(hi:i<4)(hp:(s.ms i).ph=0){c:Nat}(hc:num c=s.dl+1)(key:K):
  ∃s':Sy K,s'.Inv F H num∧s'.dl=s.dl+1∧s'.now=s.now∧s'.ms=bP s.ms i (cG z i c key s.now).m∧s'.bW=s.bW++(cG z i c key s.now).o∧s'.bb=s.bb∧s'.pr=s.pr∧s'.done=s.done:=by
 have n1:s.gO c=none:=by
  cases e:s.gO c with
  | none=>rfl
  | some j=>
   have:=(h.cl _ _ e).2.1;omega
 have n2: ∀j,s.k_ c j=none:=by
  intro j;cases e:s.k_ c j with
  | none=>rfl
  | some k=>
   obtain⟨_,a,ha,_⟩:=h.an _ _ _ e;rw [n1]at ha;cases ha
 have n3:s.bb c=none:=by
  cases e:s.bb c with
  | none=>rfl
  | some p=>
   obtain⟨k,hk⟩:=h.tk _ _ e;rw [n2]at hk;cases hk
 have n4:s.pr c=none:=by
  cases e:s.pr c with
  | none=>rfl
  | some p=>
   obtain⟨a,_,_,ha,_⟩:=h.pr _ _ e;rw [n1]at ha;cases ha
 have n5: ∀j,s.done j c=false:=by
  intro j;cases e:s.done j c with
  | false=>rfl
  | true=>
   obtain⟨a,ha⟩:=h.dn _ _ e;rw [n1]at ha;cases ha
 have n6: ∀j,j<4→(s.ms j).ph≠0→(s.ms j).c≠c:=by
  intro j hj hq e;obtain⟨a,ha⟩:=h.called hj hq;rw [e,n1]at ha;cases ha
 have n7: ∀e j,s.gO e=some j→e≠c:=by
  rintro e j he rfl;rw [n1]at he;cases he
 let s':Sy K:={s with ms:=bP s.ms i (cG z i c key s.now).m,dl:=s.dl+1,bW:=s.bW++(cG z i c key s.now).o,gO:=bP s.gO c (some i),ok:=bP s.ok c key}
 have hZ: ∀d e,s.been d e→s'.been d e:=by
  intro d e hb;simp only [s',Sy.been,Mc.has,bP,cG]at hb ⊢
  grind
 have u1: ∀e j,s.gO e=some j→s'.gO e=some j:=fun e j he=>by rw [←he];exact cg _ _ (n7 e j he)
 have u2: ∀e j,s.gO e=some j→s'.ok e=s.ok e:=fun e j he=>cg _ _ (n7 e j he)
 have ME: ∀x∈(cG z i c key s.now).o,x.k=1∧x.c=c∧x.f=i∧x.key=key∧x.t∈others i:=by
  intro x hx;obtain⟨j,hj,rfl⟩:=ag9.1 hx;exact⟨rfl,rfl,rfl,rfl,hj⟩
 have hm: ∀{p:Mg K→Prop},(∀x∈s.bW,p x)→(∀x∈(cG z i c key s.now).o,p x)→∀x∈s'.bW,p x:=by
  intro p h1 h2 x hx;rcases List.mem_append.1 hx with hx | hx
  ·exact h1 x hx
  ·exact h2 x hx
 refine⟨s',⟨fun j hj=>?_,hm h.rt fun x hx=>?_,hm (fun y hy hk=>?_) fun x hx _=>?_,?_,hm (fun y hy hk=>?_) fun x hx hk=>?_,hm (fun y hy hk=>?_) fun x hx hk=>?_,hm h.f5 fun x hx hk=>?_,fun e k he=>?_,fun e d k he=>?_,h.tk,fun e=>?_,fun e k he=>?_,fun d e he=>?_⟩,rfl,rfl,rfl,rfl,rfl,rfl,rfl⟩
 ·obtain⟨k1,k2,k3,k4,k5,k6,k7,k8⟩:=h.ms j hj;by_cases sM:j=i
  ·subst sM;simp only [s',bj,cG];exact⟨by simp,fun _=>⟨n5 _,Nat.le_refl _,Nat.le_refl _⟩,fun _=>⟨by simp [bP],by simp [bP],n3,n4,rfl⟩,fun h=>absurd h (by simp),fun _ h=>absurd h (by simp),fun h=>absurd h (by simp),fun h=>absurd h (by simp),fun h=>absurd h (by simp)⟩
  ·simp only [s',cg _ _ sM];refine⟨k1,k2,fun hq=>?_,fun hq=>?_,fun hq ho=>?_,fun hq ho=>?_,fun hq ho=>?_,k8⟩
   ·obtain⟨q1,q2,q3⟩:=k3 hq;exact⟨u1 _ _ q1,q2.trans (u2 _ _ q1).symm,q3⟩
   ·obtain⟨a,ha⟩:=h.called hj (by omega);obtain⟨q1,q2,q3⟩:=k4 hq;exact⟨q1,q2.trans (u2 _ _ ha).symm,q3⟩
   ·obtain⟨q1,q2⟩:=k5 hq ho;exact⟨u1 _ _ q1,q2⟩
   ·obtain⟨q1,q2,q3,q4,k,q5,q6⟩:=k6 hq ho;exact⟨u1 _ _ q1,q2,q3,q4,k,q5,by rw [show _=s.ok _ from u2 _ _ q1];exact q6⟩
   ·obtain⟨a,ha⟩:=h.called hj (by omega);obtain⟨k,q5,q6⟩:=k7 hq ho;exact⟨k,q5,by rw [show _=s.ok _ from u2 _ _ ha];exact q6⟩
 ·obtain⟨e1,e2,e3,e4,e5⟩:=ME x hx;have:=lb hi e5;exact⟨by omega,this.1,by rw [e3];exact fun e=>this.2 e.symm,by omega,by omega⟩
 ·obtain⟨q1,q2,q3,q4,q5⟩:=h.f1 y hy hk;refine⟨u1 _ _ q1,by rw [u2 _ _ q1];exact q2,q3,?_,q5⟩;have:=n7 _ _ q1;simp only [s',Mc.has,bP,cG]at q4 ⊢
  grind
 ·obtain⟨e1,e2,e3,e4,e5⟩:=ME x hx;have:=lb hi e5;refine⟨by simp [s',bP,e2,e3],by simp [s',bP,e2,e4],by rw [e2];exact n5 _,?_,by rw [e2];exact n2 _⟩;have ne:x.t≠i:=fun e=>this.2 (by rw [e])
  simp only [s',cg _ _ ne,Mc.has,e2];exact fun⟨g1,g2⟩=>n6 _ this.1 g1 g2
 ·refine List.pairwise_append.2 ⟨h.once,?_,?_⟩
  ·simp [cG,others]
  ·rintro a ha b hb ⟨g1,_,g3,_⟩;rw [(ME b hb).2.1]at g3;exact n7 _ _ (h.f1 a ha g1).1 g3
 ·exact⟨u1 _ _ (h.f2 y hy hk).1,(h.f2 y hy hk).2⟩
 ·have:=(ME x hx).1;omega
 ·rcases h.f3 y hy hk with q | q
  ·exact .inl ⟨u1 _ _ q.1,q.2⟩
  ·exact .inr ⟨u1 _ _ q.1,hZ _ _ q.2⟩
 ·have:=(ME x hx).1;omega
 ·have:=(ME x hx).1;omega
 ·by_cases e:e=c
  ·subst e;simp only [s',bj,agy]at he;subst he;exact⟨hi,by simp only [s'];omega,.inl (by simp [s',Mc.has,bP,cG])⟩
  ·simp only [s',cg _ _ e]at he;obtain⟨q1,q2,q3⟩:=h.cl _ _ he;exact⟨q1,Nat.le_succ_of_le q2,hZ _ _ q3⟩
 ·obtain⟨q1,a,q2,q3⟩:=h.an _ _ _ he;exact⟨hZ _ _ q1,a,u1 _ _ q2,q3⟩
 ·rcases h.ck e with q | ⟨a,q⟩
  ·exact .inl q
  ·exact .inr ⟨a,u1 _ _ q⟩
 ·obtain⟨a,p,k2,q1,q2,q3,q4⟩:=h.pr _ _ he;exact⟨a,p,k2,u1 _ _ q1,q2,q3,by rw [u2 _ _ q1];exact q4⟩
 ·obtain⟨a,q⟩:=h.dn _ _ he;exact⟨a,u1 _ _ q⟩
def wt(k:Nat):Nat:=if k=1 then 9 else if k=2 then 4 else if k=3 then 2 else 1
def uM(l:List (Mg K)):Nat:=(l.map fun x=>wt x.k).sum
def md(m:Mc K):Nat:=if m.ph=1 then 2 else 0
theorem AU(a b:List (Mg K)):uM (a++b)=uM a+uM b:=by simp [uM]
theorem fO(x:Mg K)(b:List (Mg K)):uM (x::b)=wt x.k+uM b:=by simp [uM]
theorem fq:uM ([]:List (Mg K))=0:=rfl
theorem I1{k c i w:Nat}{l:List Nat}:uM (to z k c i l w)=wt k*l.length:=by
 induction l with
 | nil=>simp [to,uM]
 | cons j l ih=>
  simp only [to,agW,fO,List.length_cons,Nat.mul_succ]at ih ⊢;omega
theorem EM(l:List (Mg K)):l.length≤uM l:=by
 induction l with
 | nil=>simp
 | cons x l ih=>
  rw [fO,List.length_cons];have:1≤wt x.k:=by
   unfold wt
   repeat' split
   all_goals omega
  omega
theorem ur(i:Nat)(m:Mc K)(sub:List Nat)(hs:sub.length≤2)(w oc:Nat):uM (leaves z i m sub w oc).o+md (leaves z i m sub w oc).m≤1+md m∧(m.ph=1→uM (leaves z i m sub w oc).o+md (leaves z i m sub w oc).m≤md m):=by
 by_cases hp:m.ph=1
 ·simp [leaves,hp,I1,md,wt];omega
 ·simp [leaves,hp,fO,fq,md,wt]
theorem Pd(i:Nat)(m:Mc K)(x:Mg K)(now:Nat)(o:Or)(hs:o.sub.length≤2)(he:o.pg.length≤2):uM (take z F H i m x now o).o+md (take z F H i m x now o).m+1≤wt x.k+md m:=by
 have hl:=fun w oc=>(ur (z:=z) i m o.sub hs w oc).2
 have hw:1≤wt x.k:=by
  unfold wt
  repeat' split
  all_goals omega
 have hn:uM (gG m).o+md (gG m).m+1≤wt x.k+md m:=by
  simp [gG,fq];omega
 have ZI: ∀oc,uM (ends z m oc).o+md (ends z m oc).m+1≤wt x.k+md m:=by
  intro oc;simp [ends,fq,md];omega
 have hb: ∀k c f t w,4≤k→2≤wt x.k→uM (⟨m,[⟨k,c,f,t,z,w⟩],[],[]⟩:Rs K).o+md (⟨m,[⟨k,c,f,t,z,w⟩],[],[]⟩:Rs K).m+1≤wt x.k+md m:=by
  intro k c f t w h4 h2;have:wt k=1:=by
   unfold wt;rw [if_neg (by omega),if_neg (by omega),if_neg (by omega)]
  simp [fO,fq,this];omega
 have hv:m.ph=1→∀w oc,uM (leaves z i m o.sub w oc).o+md (leaves z i m o.sub w oc).m+1≤wt x.k+md m:=by
  intro h w oc;have:=hl w oc h;omega
 simp only [Cp.take];by_cases k1:x.k=1
 ·have w:wt x.k=9:=by simp [wt,k1]
  rw [if_pos k1]
  repeat' split
  ·exact hn
  ·simp [fq,md,rings];omega
  ·exact hn
  ·next h1=>
   have:=hl 4 7 h1.1;simp only [AU,answers,fO,fq,md]at this ⊢;have e1:wt 2=4:=rfl;have e2:wt 3=2:=rfl;simp [h1.1,e1,e2,w]at this ⊢;omega
  ·exact hn
  ·exact hb _ _ _ _ _ (by simp) (by omega)
 rw [if_neg k1];by_cases k2:x.k=2
 ·have w:wt x.k=4:=by simp [wt,k2]
  rw [if_pos k2]
  repeat' split
  ·exact hb _ _ _ _ _ (by simp) (by omega)
  ·next h1 _=>
   have e1:wt 3=2:=rfl;have e2:wt 6=1:=rfl;have hf:=List.length_filter_le (fun y=> !decide (y=x.f)) o.pg;simp [fO,I1,active,md,h1.1,e1,e2,w];omega
  ·next h1 _=>
   have e1:wt 3=2:=rfl;have e2:wt 6=1:=rfl;have hf:=List.length_filter_le (fun y=> !decide (y=x.f)) o.pg;simp [fO,I1,md,h1.1,e1,e2,w];omega
  ·exact hb _ _ _ _ _ (by simp) (by omega)
  ·exact hn
 rw [if_neg k2];by_cases k3:x.k=3
 ·have w:wt x.k=2:=by simp [wt,k3]
  rw [if_pos k3]
  repeat' split
  ·exact hb _ _ _ _ _ (by simp) (by omega)
  ·exact hn
  ·simp [fq,active,md];omega
  ·simp [fq,md];omega
  ·exact hn
 rw [if_neg k3];by_cases k4:x.k=4
 ·rw [if_pos k4];split
  ·next c=>exact hv c.2.1 _ _
  ·exact hn
 rw [if_neg k4];by_cases k5:x.k=5
 ·rw [if_pos k5]
  repeat' split
  ·exact hn
  ·next c _=>exact hv c _ _
  ·exact hn
  ·exact hn
  ·exact ZI _
 rw [if_neg k5]
 repeat' split
 ·exact ZI _
 ·exact hn
 ·exact hn
theorem Pe(i:Nat)(m:Mc K)(now:Nat)(o:Or)(hs:o.sub.length≤2):uM (tick z i m now o).o+md (tick z i m now o).m≤2+md m:=by
 have:=fun w oc=>(ur (z:=z) i m o.sub hs w oc).1
 simp only [Cp.tick]
 repeat' split
 ·exact Nat.le_trans (this _ _) (by omega)
 ·exact Nat.le_trans (this _ _) (by omega)
 ·exact Nat.le_trans (this _ _) (by omega)
 ·have e1:wt 3=2:=rfl;simp [fO,fq,md,e1]
 ·simp [gG,fq]
def ym(s:Sy K):Nat:=uM s.bW+md (s.ms 0)+md (s.ms 1)+md (s.ms 2)+md (s.ms 3)
theorem sn{s s':Sy K}{i:Nat}{r:Rs K}(hi:i<4)(hm:s'.ms=bP s.ms i r.m)(hf:s'.bW=s.bW++r.o):ym s'+md (s.ms i)=ym s+uM r.o+md r.m:=by
 simp only [ym,hm,hf,AU];have:i=0∨i=1∨i=2∨i=3:=by omega
 rcases this with rfl | rfl | rfl | rfl<;>simp [bP]<;>omega
theorem GI{s:Sy K}{n:Nat}{x:Mg K}(hx:s.bW[n]? =some x):ym {s with bW:=s.bW.eraseIdx n}+wt x.k=ym s:=by
 have:uM (s.bW.eraseIdx n)+wt x.k=uM s.bW:=by
  have hg: ∀(l:List (Mg K)) n,l[n]? =some x→uM (l.eraseIdx n)+wt x.k=uM l:=by
   intro l
   induction l with
   | nil=>intro n h;simp at h
   | cons y l ih=>
    intro n h;cases n with
    | zero=>
     simp at h;simp [fO,h];omega
    | succ n=>
     have:=ih n (by simpa using h);simp [fO];omega
  exact hg _ _ hx
 simp only [ym];omega
structure Yg (now:Nat) (m:Mc K):Prop where
 y1:m.ph=1∨m.ph=2→now<m.since+60
 y3:m.ph=3→now<m.since+30
 y4:m.ph=4→m.bO≤now∧now<m.bO+10
theorem Yg.idle{now:Nat}{m:Mc K}(h:m.ph=0):Yg now m:=⟨fun e=>by omega,fun e=>by omega,fun e=>by omega⟩
theorem SE(i:Nat)(m:Mc K)(now:Nat)(o:Or)(hb:m.ph=4→m.bO≤now):Yg now (tick z i m now o).m:=by
 simp only [Cp.tick];split
 ·exact .idle rfl
 split
 ·exact .idle rfl
 split
 ·exact .idle rfl
 split
 ·exact⟨fun e=>by simp_all,fun e=>by simp_all,fun _=>by simp⟩
 simp only [MD]at*;refine⟨fun e=>?_,fun e=>?_,fun e=>?_⟩<;>simp only [gG]at* <;>omega
theorem SF(i:Nat){m:Mc K}(x:Mg K){now:Nat}(o:Or)(h:Yg now m):Yg now (take z F H i m x now o).m:=by
 simp only [Cp.take]
 repeat' split
 all_goals first
  | exact h
  | exact .idle rfl
  | exact⟨h.y1,h.y3,h.y4⟩
  | (refine⟨fun e=>?_,fun e=>?_,fun e=>?_⟩<;>simp [rings,answers,active]at e ⊢)
variable {K:Type}
structure Sd where
 st:Nat
 c:Nat
 out:Bool
 peer:Nat
 aP:Nat
 bF:Nat
 had:Nat→Bool
 log:List (Rc×Nat)
structure Sc (K:Type) where
 gO:Nat
 dj:List Nat
 decl:Bool
 bb:Option Nat
 print:Option K
structure Ss (K:Type) where
 last:Nat
 d:Nat→Sd
 c:Nat→Option (Sc K)
def Sd.js(d:Sd)(x:Fe K)(st:Nat):Sd:={d with st:=st,c:=x.e.c,out:=decide (st=1),peer:=0,aP:=x.w,bF:=0,had:=bP d.had x.e.c true}
def Sd.ft(d:Sd)(x:Fe K):Sd:={d with st:=3,peer:=x.e.peer}
def Sd.ends(d:Sd)(x:Fe K):Sd:={d with st:=0,log:=d.log++[(⟨d.c,d.aP,d.out,x.e.oc,d.bF⟩,x.w)]}
def Sc.pg(c:Sc K)(i:Nat):Prop:= ∃p,c.bb=some p∧p≠i
inductive DG (d:Sd) (c:Sc K) (i oc:Nat):Prop where
 | sQ (h:d.st=1) (ho:oc=3∨oc=5∨oc=7∨oc=4∧c.decl=true)
 | ring (h:d.st=2) (ho:oc=3∨oc=4∨oc=2∧c.pg i)
 | conn (h:d.st=3) (ho:oc=6∨oc=7∨oc=2∧c.pg i∧d.out=false)
 | act (h:d.st=4) (ho:oc=1)
structure Bare (z:K) (σ:Ss K) (x:Fe K):Prop where
 i:x.i<4
 w:σ.last≤x.w
 peer:x.e.k=3∨x.e.k=4∨x.e.peer=0
 key:x.e.k=4∨x.e.key=z
 oc:x.e.k=5∨x.e.oc=0
inductive Sp (z:K) (σ:Ss K) (x:Fe K):Ss K→Prop where
 | sQ (hb:Bare z σ x) (hk:x.e.k=1) (hd:(σ.d x.i).st=0) (hc:σ.c x.e.c=none):Sp z σ x ⟨x.w,bP σ.d x.i ((σ.d x.i).js x 1),bP σ.c x.e.c (some ⟨x.i,[],false,none,none⟩)⟩
 | ring (c:Sc K) (hb:Bare z σ x) (hk:x.e.k=2) (hd:(σ.d x.i).st=0) (hh:(σ.d x.i).had x.e.c=false) (hc:σ.c x.e.c=some c) (ha:acc c.gO≠acc x.i∧c.gO<4):Sp z σ x ⟨x.w,bP σ.d x.i ((σ.d x.i).js x 2),σ.c⟩
 | takes (c:Sc K) (hb:Bare z σ x) (hk:x.e.k=3) (hd:(σ.d x.i).st=1) (he:(σ.d x.i).c=x.e.c) (hc:σ.c x.e.c=some c) (ht:c.bb=none) (hj:x.e.peer∈c.dj):
   Sp z σ x ⟨x.w,bP σ.d x.i ((σ.d x.i).ft x),bP σ.c x.e.c (some {c with bb:=some x.e.peer})⟩
 | iI (c:Sc K) (hb:Bare z σ x) (hk:x.e.k=3) (hd:(σ.d x.i).st=2) (he:(σ.d x.i).c=x.e.c) (hc:σ.c x.e.c=some c) (hj:x.e.peer=c.gO):
   Sp z σ x ⟨x.w,bP σ.d x.i ((σ.d x.i).ft x),bP σ.c x.e.c (some {c with dj:=c.dj++[x.i]})⟩
 | acts (c:Sc K) (hb:Bare z σ x) (hk:x.e.k=4) (hd:(σ.d x.i).st=3) (he:(σ.d x.i).c=x.e.c) (hc:σ.c x.e.c=some c) (hp:(σ.d x.i).peer=x.e.peer) (ht:c.bb=some (if(σ.d x.i).out then x.e.peer else x.i)) (Rr: ∀k,c.print=some k→k=x.e.key):
   Sp z σ x ⟨x.w,bP σ.d x.i {σ.d x.i with st:=4,bF:=x.w},bP σ.c x.e.c (some {c with print:=some x.e.key})⟩
 | ends (c:Sc K) (hb:Bare z σ x) (hk:x.e.k=5) (he:(σ.d x.i).c=x.e.c) (hc:σ.c x.e.c=some c) (ho:DG (σ.d x.i) c x.i x.e.oc):
   Sp z σ x ⟨x.w,bP σ.d x.i ((σ.d x.i).ends x),bP σ.c x.e.c (some {c with decl:=c.decl||(x.e.oc==4&& !(σ.d x.i).out)})⟩
def Ss.start:Ss K:=⟨0,fun _=>⟨0,0,false,0,0,0,fun _=>false,[]⟩,fun _=>none⟩
inductive Runs (z:K):List (Fe K)→Ss K→Prop where
 | nil:Runs z [] Ss.start
 | snoc (l:List (Fe K)) (x:Fe K) (σ nj:Ss K) (h:Runs z l σ) (hs:Sp z σ x nj):Runs z (l++[x]) nj
theorem Runs.at_{z:K}{l:List (Fe K)}{σ:Ss K}(h:Runs z l σ): ∃f:Nat→Ss K,f 0=Ss.start∧f l.length=σ∧∀(n:Nat) (x:Fe K),l[n]? =some x→Sp z (f n) x (f (n+1)):=by
 induction h with
 | nil=>exact⟨fun _=>Ss.start,rfl,rfl,fun n x hx=>by simp at hx⟩
 | snoc l x σ nj _ hs ih=>
  obtain⟨f,h0,h1,h2⟩:=ih;refine⟨fun n=>if n≤l.length then f n else nj,by simp [h0],by simp [show¬l.length+1≤l.length by omega],fun n y hy=>?_⟩;by_cases hn:n<l.length
  ·rw [agC hn]at hy;simp only [show n≤l.length by omega,show n+1≤l.length by omega,if_true];exact h2 n y hy
  ·have hl:n=l.length:=by
    have:=(agx.1 hy).1;simp at this;omega
   subst hl;simp at hy;subst hy;simp [h1,hs,show¬l.length+1≤l.length by omega]
structure Pf (m:Mc K) (done:Nat→Bool) (recs:List (Rc×Nat)) (d:Sd):Prop where
 st:d.st=m.ph
 c:m.ph≠0→d.c=m.c∧d.out=m.out∧d.aP=m.aP∧d.bF=m.bF
 peer:3≤m.ph→d.peer=m.peer
 had: ∀c,d.had c=true↔(m.has c∨done c=true)
 log:d.log=recs
structure iN (z:K) (num:Nat→Nat) (s:Sy K) (eG:List (Fe K)) (recs:Nat→List (Rc×Nat)) (σ:Ss K):Prop where
 run:Runs z eG σ
 last:σ.last≤s.now
 d: ∀i,i<4→Pf (s.ms i) (s.done i) (recs i) (σ.d i)
 ck: ∀c C,σ.c c=some C→C.bb=s.bb c∧C.print=s.pr c∧num c≤s.dl
 ms: ∀i,i<4→(s.ms i).ph≠0→∃C,σ.c (s.ms i).c=some C∧((s.ms i).out=false→C.gO=(s.ms i).peer)∧((s.ms i).out=true→C.gO=i)∧((s.ms i).ph=1→(s.ms i).dec=true→C.decl=true)
 f1: ∀x∈s.bW,x.k=1→∃C,σ.c x.c=some C∧C.gO=x.f
 f2: ∀x∈s.bW,x.k=2→∃C,σ.c x.c=some C∧x.f∈C.dj
 f5: ∀x∈s.bW,x.k=5→x.why=2→∃C,σ.c x.c=some C∧(C.gO=x.t→C.decl=true)
 f6: ∀x∈s.bW,x.k=6→∃p,s.bb x.c=some p∧p≠x.t
abbrev Cn(z:K)(num:Nat→Nat)(s:Sy K)(eG:List (Fe K))(recs:Nat→List (Rc×Nat)):Prop:= ∃σ,iN z num s eG recs σ
variable {z:K} {F:Nat→K→K→Nat→Nat→K} {H:K→K} {num:Nat→Nat} {s s':Sy K} {eG:List (Fe K)} {recs:Nat→List (Rc×Nat)} {σ:Ss K}
theorem iN.congr(h:iN z num s eG recs σ)(h1:s'.now=s.now)(h2:s'.ms=s.ms)(h3:s'.bW=s.bW)(h4:s'.dl=s.dl)(h5:s'.bb=s.bb)(h6:s'.pr=s.pr)(h7:s'.done=s.done):iN z num s' eG recs σ:=
 ⟨h.run,h1▸h.last,h2▸h7▸h.d,h5▸h6▸h4▸h.ck,h2▸h.ms,h3▸h.f1,h3▸h.f2,h3▸h.f5,h3▸h5▸h.f6⟩
theorem iN.drop(h:iN z num s eG recs σ){l:List (Mg K)}(hl:l.Sublist s.bW):iN z num {s with bW:=l} eG recs σ:=by
 have hm: ∀x∈l,x∈s.bW:=fun x hx=>hl.subset hx
 exact⟨h.run,h.last,h.d,h.ck,h.ms,fun x hx=>h.f1 x (hm x hx),fun x hx=>h.f2 x (hm x hx),fun x hx=>h.f5 x (hm x hx),fun x hx=>h.f6 x (hm x hx)⟩
structure EN (s:Sy K) (σ:Ss K) (x:Mg K):Prop where
 f1:x.k=1→∃C,σ.c x.c=some C∧C.gO=x.f
 f2:x.k=2→∃C,σ.c x.c=some C∧x.f∈C.dj
 f5:x.k=5→x.why=2→∃C,σ.c x.c=some C∧(C.gO=x.t→C.decl=true)
 f6:x.k=6→∃p,s.bb x.c=some p∧p≠x.t
theorem iN.sent(h:iN z num s eG recs σ){x:Mg K}(hx:x∈s.bW):EN s σ x:=⟨h.f1 x hx,h.f2 x hx,h.f5 x hx,h.f6 x hx⟩
theorem iN.nh(h:iN z num s eG recs σ)(l:List (Mg K))(hl: ∀x∈l,EN s σ x):iN z num {s with bW:=s.bW++l} eG recs σ:=by
 have hm: ∀x∈s.bW++l,EN s σ x:=fun x hx=>(List.mem_append.1 hx).elim (fun h1=>h.sent h1) (hl x)
 exact⟨h.run,h.last,h.d,h.ck,h.ms,fun x hx=>(hm x hx).f1,fun x hx=>(hm x hx).f2,fun x hx=>(hm x hx).f5,fun x hx=>(hm x hx).f6⟩
theorem EN.plain{x:Mg K}(h:x.k=3∨x.k=4∨x.k=5∧x.why≠2):EN s σ x:=⟨fun e=>by omega,fun e=>by omega,fun e e2=>by omega,fun e=>by omega⟩
theorem iN.time(h:iN z num s eG recs σ){n d:Nat}(hn:s.now≤n)(hd:s.dl≤d):iN z num {s with now:=n,dl:=d} eG recs σ:=
 ⟨h.run,Nat.le_trans h.last hn,h.d,fun c C hc=>⟨(h.ck c C hc).1,(h.ck c C hc).2.1,Nat.le_trans (h.ck c C hc).2.2 hd⟩,h.ms,h.f1,h.f2,h.f5,h.f6⟩
theorem iN.AT(h:iN z num s eG recs σ){i:Nat}(hi:i<4)(a b:Nat)(d:Bool)(hd:(s.ms i).ph=1→d=true→∃C,σ.c (s.ms i).c=some C∧C.decl=true):
  iN z num {s with ms:=bP s.ms i {s.ms i with heard:=a,bO:=b,dec:=d}} eG recs σ:=by
 refine⟨h.run,h.last,fun j hj=>?_,h.ck,fun j hj hp=>?_,h.f1,h.f2,h.f5,h.f6⟩
 ·have:=h.d j hj;by_cases e:j=i
  ·subst e;simp only [bj];exact⟨this.st,this.c,this.peer,this.had,this.log⟩
  ·simp only [cg _ _ e];exact this
 ·by_cases e:j=i
  ·subst e;simp only [bj]at hp ⊢;obtain⟨C,h1,h2,h3,h4⟩:=h.ms j hj hp;refine⟨C,h1,h2,h3,fun p q=>?_⟩;obtain⟨C2,k1,k2⟩:=hd p q;rw [h1]at k1;cases k1;exact k2
  ·simp only [cg _ _ e]at hp ⊢;exact h.ms j hj hp
theorem fP{f:Nat→Option (Sc K)}{c0:Nat}{C0 C1:Sc K}{P:Sc K→Prop}(h0:f c0=some C0)(hP:P C0→P C1){c:Nat}(h: ∃C,f c=some C∧P C): ∃C,bP f c0 (some C1) c=some C∧P C:=by
 obtain⟨C,h1,h2⟩:=h;by_cases e:c=c0
 ·subst e;rw [h0]at h1;cases h1;exact⟨C1,bj _ _ _,hP h2⟩
 ·exact⟨C,(cg _ _ e).trans h1,h2⟩
end Go.Cp
