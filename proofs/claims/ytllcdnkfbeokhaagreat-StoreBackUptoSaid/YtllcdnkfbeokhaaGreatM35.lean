/- 'May a state be stored'. -/
import Derived.Test.YtllcdnkfbeokhaaGreatM34
open Go.IntKind renaming wrap → ae
open Go.Proofs.Tryz renaming prog → auN
open Int renaming toNat → ag, toNat_natCast → auD
open List renaming append → aul, getD_eq_getElem?_getD → auO, getElem?_eq_getElem → auU, getElem?_eq_none → au0, getElem?_eq_some_iff → aup, mem_append → auE, mem_singleton → auz
open Option.some renaming injEq → auq
namespace Go.RX.Vb
open Go Go.RX Go.Proofs Go.Vs
theorem Sc{x1 x2 x3 x4 x5 x6 x7 c:Int}{A0 A1 A2 A3 A4 A5:Nat→Int}{H:HP}(sk:List gX)(hH:H.wr=false)(hg:gZ H (pF false (cc c) sk)){R:Int→Int→Prop}(h1:64<sk.length→R 0 2)(h2:sk.length≤64→∀b:Nat,R ((b:Nat)+1) 0):
  ∃post,aq auN 113 [.agg (aul (aj .u8 32 A0) (aul (aj .u8 32 A1) (aul (aj .u8 32 A2) (aul (aj .u8 32 A3) (.bool (!(x1==0))::(.bool (!(x2==0))::(.bool (!(x3==0))::(.bool (!(x4==0))::(aul (aj .u8 32 A4) (.int .u32 x5::(aul (aj .u8 32 A5) ([.int .u32 x6,.int .u32 x7,cc c])))))))))))).toArray] [H] post∧
   ∀x hs,post x hs→∃y1:Int,∃y2:Int,x= .tuple #[(cN y1),.int .i64 y2]∧hs=[H]∧R y1 y2:=by
 refine⟨fun r hs=>hs=[H]∧((64<sk.length∧r= .tuple #[.pointer none,.int .i64 2])∨(sk.length≤64∧∃b:Nat,r= .tuple #[.pointer (some ⟨b,0,none⟩),.int .i64 0])),?_,?_⟩
 ·have hm:=aan (fun r hs=>hs=[]∧((64<sk.length∧r= .tuple #[.pointer none,.int .i64 2])∨(sk.length≤64∧∃b:Nat,r= .tuple #[.pointer (some ⟨b,0,none⟩),.int .i64 0]))) (sk.length:Int) x1 x2 x3 x4 x5 x6 x7 A0 A1 A2 A3 A4 A5 (aI (sk.flatMap gX.dh)) (bN gX.n sk) (aI (sk.flatMap gX.msg)) ⟨cc c,kG c⟩ (by
   unfold R5;intro b0;refine⟨by omega,fun _=>⟨fun h=>⟨rfl,.inl ⟨by omega,rfl⟩⟩,fun h=>⟨fun _=>fun b1=>⟨rfl,.inr ⟨by omega,b1,rfl⟩⟩,fun _=>fun v1=>⟨by omega,fun _=>fun v2=>fun b1=>⟨rfl,.inr ⟨by omega,b1,rfl⟩⟩⟩⟩⟩⟩)
  refine(aq.pre (aq.frame hm [H]) (gZ.X2 hH hg)).post ?_;rintro r hs ⟨lP,rfl,rfl,h⟩;exact⟨_,bI.refl _,rfl,h⟩
 ·rintro x hs ⟨rfl,⟨h,rfl⟩ | ⟨h,b,rfl⟩⟩
  ·exact⟨0,2,rfl,rfl,h1 h⟩
  ·exact⟨(b:Nat)+1,0,by rw [eY],rfl,h2 h b⟩
theorem uC(s:Nat×Nat×Bool)(e:cf):qA s e=if 64<e.s.aN.length∨(e.current=true∧s.2.2=true)∨(e.own=false∧0<s.1)then none else some (if e.own then s.1+1 else s.1,if e.own then s.2.1 else s.2.1+1,s.2.2||e.current):=rfl
theorem G3(c:Bool):(bi c≠0)↔c=true:=by cases c<;>simp [bi]
set_option maxHeartbeats 1000000 in
theorem NU(p:ez)(v:V1)(C:Nat→Int)(H:HP)(hH:H.wr=false)(hS:vT H p.l C)(hl:p.l.length<256^4):
  aq auN 67 [.agg #[.int .u8 (p.dev.a:Int),.int .u8 (p.dev.d:Int),v.v]] [eX false v.v p.l C,H] fun r hs=>hs=[]∧∃a:Int,r= .tuple #[cN a,.bool (G2 p)]:=by
 refine aap _ (p.dev.a:Int) (p.dev.d:Int) (p.l.length:Int) (cq (·.s.root) p.l) (cq (·.s.bind) p.l) (cq (·.s.own) p.l) (cq (·.s.ej) p.l) (er (·.s.jO) p.l) (er (·.s.jP) p.l) (er (·.s.jQ) p.l) (er (·.s.eD) p.l) (cq (·.s.send.key) p.l) (bN (·.s.send.n) p.l) (cq (·.s.recv.key) p.l) (bN (·.s.recv.n) p.l) (bN (·.s.prev) p.l) C (cq (·.ident) p.l) (cq (·.ux) p.l) (er (·.ek) p.l) (bN (·.eW) p.l) (er (·.own) p.l) (er (·.current) p.l) v H ?_;unfold R7;intro b0 b1;refine⟨by omega,fun _=>?_⟩;refine⟨fun x=> ∃(i nb na:Nat) (c:Bool) (v3 v4:V1) (x4:Int) (A B:Nat→Int),x=⟨[],[v3,v4],[(i:Int),x4,(nb:Int),(na:Int)],[A,B],[],[],[]⟩∧i≤p.l.length∧(p.l.take i).foldlM qA (0,0,false)=some (nb,na,c)∧nb+na=i∧(c=true↔x4≠0),fun x=>p.l.length - (x.i.getD 0 0).toNat,?_,?_⟩
 ·exact⟨⟨.slice none 0 0,rfl⟩,⟨.slice none 0 0,rfl⟩,_,_,_,_,fun _=>0,fun _=>0,rfl,rfl,rfl,rfl,rfl,rfl,fun _ _=>rfl,rfl,rfl,fun _ _=>rfl,0,0,0,false,_,_,0,_,_,rfl,by omega,rfl,rfl,by simp⟩
 rintro v3 v4 x3 x4 x5 x6 A B ⟨i,nb,na,c,v3,v4,x4,A,B,hx,hi,hr,hn,hc⟩;simp only [Ext.mk.injEq,List.cons.injEq,and_true,true_and]at hx;obtain⟨⟨rfl,rfl⟩,⟨rfl,rfl,rfl,rfl⟩,rfl,rfl⟩:=hx;have Ew: ∀e,qA (nb,na,c) e=none→p.l[i]? =some e→G2 p=false:=by
  intro e he hg;obtain⟨cD,mn⟩:=aup.1 hg;have:(p.l.take (i+1)).foldlM qA (0,0,false)=none:=by
   rw [iN _ _ cD,kz,hr,mn];exact he
  have:=r_ _ _ _ _ this;unfold G2 Sb;rw [this]
 refine⟨fun cF=>?_,fun mn=>?_⟩
 ·have cD:i<p.l.length:=by omega
  have hgi:p.l[i]? =some p.l[i]:=auU cD;refine⟨by omega,fun _=>fun b2=>?_⟩;simp only [auD];rw [mF (·.own) p.l i cD,mF (·.current) p.l i cD];have Sd: ∀(hh: ¬(64<p.l[i].s.aN.length∨(p.l[i].current=true∧c=true)∨(p.l[i].own=false∧0<nb))),(p.l.take (i+1)).foldlM qA (0,0,false)=some (if p.l[i].own then nb+1 else nb,if p.l[i].own then na else na+1,c||p.l[i].current):=by
   intro hh;rw [iN _ _ cD,kz,hr];show qA (nb,na,c) p.l[i]=_;rw [uC,if_neg hh]
  refine Sc p.l[i].s.aN hH (hS i cD) ?_ ?_
  ·intro UX;refine⟨by omega,fun _=>⟨fun _=>⟨trivial,0,?_⟩,fun h=>absurd (.inl (.inl (by decide))) h⟩⟩;rw [Ew _ (by rw [uC,if_pos (.inl UX)]) hgi];rfl
  ·intro UX b;refine⟨by omega,fun _=>⟨fun hb=>⟨trivial,0,?_⟩,fun hb=>?_⟩⟩
   ·rw [Ew _ ?_ hgi]
    ·rfl
    ·rw [uC,if_pos];rcases hb with(h | ⟨h1,h2⟩) | ⟨h1,h2⟩
     ·exact absurd rfl h
     ·exact .inr (.inl ⟨(G3 _).1 h1,hc.2 h2⟩)
     ·refine .inr (.inr ⟨?_,by simpa using h2⟩);rw [G3]at h1;simpa using h1
   ·have Ij: ¬(64<p.l[i].s.aN.length∨(p.l[i].current=true∧c=true)∨(p.l[i].own=false∧0<nb)):=by
     rintro (h | ⟨h1,h2⟩ | ⟨h1,h2⟩)
     ·omega
     ·exact hb (.inl (.inr ⟨(G3 _).2 h1,hc.1 h2⟩))
     ·refine hb (.inr ⟨?_,by omega⟩);rw [G3,h1];decide
    have hs:=Sd Ij;intro b3;refine⟨fun PZ=>⟨fun du=>?_,fun du=>?_⟩,fun PZ=>⟨fun du=>?_,fun du=>?_⟩⟩
    all_goals rw [G3]at du PZ
    all_goals simp only [du,PZ,if_true,Bool.or_true,Bool.or_false,Bool.false_eq_true,if_false]at hs
    all_goals refine fun b4=>⟨by omega,fun _=>⟨by omega,fun _=>fun v5=>⟨by omega,fun _=>⟨by omega,fun _=>?_⟩⟩⟩⟩
    ·exact⟨v5,v4,((i+1:Nat):Int),_,((nb+1:Nat):Int),(na:Int),_,B,by simp,rfl,rfl,rfl,rfl,by simp,fun _ _=>rfl,rfl,rfl,fun _ _=>rfl,⟨i+1,nb+1,na,true,v5,v4,_,_,B,rfl,by omega,hs,by omega,by simp;omega⟩,by simp;omega⟩
    ·exact⟨v3,v5,((i+1:Nat):Int),_,(nb:Int),((na+1:Nat):Int),A,_,by simp,rfl,rfl,rfl,rfl,rfl,fun _ _=>rfl,rfl,by simp,fun _ _=>rfl,⟨i+1,nb,na+1,true,v3,v5,_,A,_,rfl,by omega,hs,by omega,by simp;omega⟩,by simp;omega⟩
    ·exact⟨v5,v4,((i+1:Nat):Int),_,((nb+1:Nat):Int),(na:Int),_,B,by simp,rfl,rfl,rfl,rfl,by simp,fun _ _=>rfl,rfl,rfl,fun _ _=>rfl,⟨i+1,nb+1,na,c,v5,v4,_,_,B,rfl,by omega,hs,by omega,hc⟩,by simp;omega⟩
    ·exact⟨v3,v5,((i+1:Nat):Int),_,(nb:Int),((na+1:Nat):Int),A,_,by simp,rfl,rfl,rfl,rfl,rfl,fun _ _=>rfl,rfl,by simp,fun _ _=>rfl,⟨i+1,nb,na+1,c,v3,v5,_,A,_,rfl,by omega,hs,by omega,hc⟩,by simp;omega⟩
 ·have cD:i=p.l.length:=by omega
  subst cD;rw [List.take_length]at hr;refine⟨.inr (by omega),fun _=>⟨.inr (by omega),fun _=>⟨rfl,(b1:Nat)+1,?_⟩⟩⟩;have Ir:G2 p=(c&&decide (max nb na≤4)):=by unfold G2 Sb;rw [hr]
  rw [Ir,eY];have e1:(!(x4==0))=c:=by
   by_cases h0:x4=0
   ·subst h0;cases c<;>simp_all
   ·have:=hc.2 h0;rw [this];simp [h0]
  have e2:decide (ar .imax .i64 (nb:Int) (na:Int)≤4)=decide (max nb na≤4):=by
   have:ar .imax .i64 (nb:Int) (na:Int)=if(nb:Int)<na then(na:Int)else nb:=rfl
   rw [this];congr 1;split<;>(apply propext;omega)
  rw [e1,e2]
open Go Go.RX Go.Proofs Go.Vs
theorem Se{c:Int}{xa xd:Int}{H:HP}(p:ez)(hH:H.wr=false)(hb: ∃D:Nat→Int,gZ H (eX false (cc c) p.l D)∧vT H p.l D)(hl:p.l.length<256^4)(ha:xa=(p.dev.a:Int))(hd:xd=(p.dev.d:Int)){R:Int→Bool→Prop}(h: ∀a:Int,R a (G2 p)):
  ∃post,aq auN 67 [.agg #[.int .u8 xa,.int .u8 xd,cc c]] [H] post∧∀x hs,post x hs→∃y1:Int,∃q:Bool,x= .tuple #[(cN y1),.bool q]∧hs=[H]∧R y1 q:=by
 subst ha hd;obtain⟨D,hD,hS⟩:=hb;refine⟨fun r hs=>hs=[H]∧∃a:Int,r= .tuple #[cN a,.bool (G2 p)],?_,?_⟩
 ·have hm:=aq.frame (NU p ⟨cc c,kG c⟩ D H hH hS hl) [H];refine(aq.pre hm ?_).post ?_
  ·exact bI.trans (gZ.X2 hH hD) (bI.front (A:=[eX false (cc c) p.l D]) (bI.dup hH []))
  ·rintro r hs ⟨lP,rfl,rfl,a,rfl⟩;exact⟨_,bI.refl _,rfl,a,rfl⟩
 ·rintro x hs ⟨rfl,a,rfl⟩;exact⟨a,_,rfl,rfl,h a⟩
theorem Sf{v:V1}{n:Int}{A0 A1:Nat→Int}{R:V1→Prop}(h0:0≤n)(h1:n≤256^4)(h: ∀o:V1,R o):
  ∃post,aq auN 81 [v.v] [aB false 93 33 v.v (ag n) (aM (ag n) [ay .u32 1 A0,ay .u8 32 A1])] post∧
   ∀x hs,post x hs→∃v2:V1,x=v2.v∧hs=[aB false 93 33 v.v (ag n) (aM (ag n) [ay .u32 1 A0,ay .u8 32 A1])]∧R v2:=by
 refine⟨fun r hs=> ∃o:V1,r=o.v∧hs=[aB false 93 33 v.v (ag n) (aM (ag n) [ay .u32 1 A0,ay .u8 32 A1])],?_,?_⟩
 ·refine aao _ n A0 A1 v ?_;unfold R6;exact⟨fun _=>⟨⟨.slice none 0 0,rfl⟩,rfl,rfl⟩,fun _=>fun v1=>⟨h0,fun _=>⟨h0,fun _=>⟨by omega,fun _=>fun v2=>⟨v2,rfl,rfl⟩⟩⟩⟩⟩
 ·rintro x hs ⟨o,rfl,rfl⟩;exact⟨o,rfl,rfl,h o⟩
theorem Sg{n:Nat}(h:n<9223372036854775808):ae .i64 (n:Int)=(n:Int):=by
 have e:ae .i64 (n:Int)=if(true&&decide ((n:Int)%18446744073709551616≥9223372036854775808))=true then(n:Int)%18446744073709551616 - 18446744073709551616 else(n:Int)%18446744073709551616:=rfl
 have hm:(n:Int)%18446744073709551616=n:=by omega
 rw [e,hm,if_neg];simp;omega
theorem aen{a d:Nat}(ha:a<256)(hd:d<256):ar .cK .i64 (ar .shl .i64 (a:Int) 8) (d:Int)=((a*256+d:Nat):Int):=by
 have e1:ar .shl .i64 (a:Int) 8=ae .i64 ((a:Int)*((256:Nat):Int)):=by
  show ae .i64 ((a:Int)*2^(min 8 64))=_;rfl
 rw [e1,←Int.natCast_mul,Sg (by omega)];show ae .i64 ((BitVec.ofInt 64 ((a*256:Nat):Int)|||BitVec.ofInt 64 (d:Int)).toNat:Int)=_;have h3:a*256+d<9223372036854775808:=by omega
 have h1:a*256<2^64:=Nat.lt_trans (Nat.lt_of_le_of_lt (Nat.le_add_right _ d) h3) (by decide);have h2:d<2^64:=Nat.lt_trans hd (by decide);rw [BitVec.toNat_or,ofI,ofI,Nat.mod_eq_of_lt h1,Nat.mod_eq_of_lt h2,adO hd];exact Sg h3
theorem aeo(x y:Int):(List.range 2).map (aw (aw (fun _=>0) 0 x) 1 y)=[x,y]:=rfl
set_option maxHeartbeats 1000000 in
theorem NV(kd:jl)(ident signed:Nat→Int)(most:Int)(v0 v1:V1)(on:List cV)(ps:List ez)(C:Nat→Int)(H:HP)(hH:H.wr=false)(hP:lg H ps C)(hon:on.length<256^4)(M1:ps.length<256^4)(Ir: ∀p∈ps,kb p):
  aq auN 34 [.agg (.int .u8 (kd.a:Int)::(.int .u8 (kd.d:Int)::(aul (aj .u8 32 ident) (aul (aj .u8 32 signed) ([v0.v,.int .i64 most,v1.v]))))).toArray] [Cv false v0.v on,za false v1.v ps C,H]
   fun r hs=>hs=[]∧∃a:Int,r= .tuple #[cN a,.int .i64 (if vY kd ps most then 0 else 2)]:=by
 refine aaq _ (kd.a:Int) (kd.d:Int) most (on.length:Int) (ps.length:Int) ident signed (bN cV.id on) (cq cV.cP on) (bN (·.dev.a) ps) (bN (·.dev.d) ps) C v0 v1 H ?_;unfold R8;intro b0 b1;refine Sf (by omega) (by omega) fun v2=>?_
 intro b2 b3;refine⟨by omega,fun _=>?_⟩;refine⟨fun x=> ∃(i:Nat) (last:Int) (A B:Nat→Int),x=⟨[],[],[(i:Int),last],[A,B],[],[],[]⟩∧i≤ps.length∧(ps.take i).foldlM (mU kd) (-1)=some last∧A 0=(i:Int)∧∀a d:Nat,a<256→d<256→A (aW [(a:Int),(d:Int)])≠0→((a*256+d:Nat):Int)≤last,fun x=>ps.length - (x.i.getD 0 0).toNat,?_,?_⟩
 ·exact⟨_,_,_,_,rfl,rfl,rfl,rfl,0, -1,_,_,rfl,by omega,rfl,rfl,fun a d _ _ h=>absurd rfl h⟩
 rintro x5 last A B ⟨i,last,A,B,hx,hi,hr,vV,hAk⟩;simp only [Ext.mk.injEq,List.cons.injEq,and_true,true_and]at hx;obtain⟨⟨rfl,rfl⟩,rfl,rfl⟩:=hx;refine⟨fun cF=>?_,fun mn=>?_⟩
 ·have cD:i<ps.length:=by omega
  have hp:=Ir _ (List.getElem_mem cD);have Ew:mU kd last ps[i]=none→vY kd ps most=false:=by
   intro he;have:(ps.take (i+1)).foldlM (mU kd) (-1)=none:=by
    rw [iN _ _ cD,kz,hr];exact he
   have:=r_ _ _ _ _ this;unfold vY Js;rw [this];rfl
  refine⟨by omega,fun _=>fun b4=>?_⟩;simp only [auD];rw [jG (·.dev.a) ps i cD,jG (·.dev.d) ps i cD];refine Se ps[i] hH (hP i cD) hp.many rfl rfl fun y=>?_
  have h1:=hp.a;have h2:=hp.d;refine⟨fun iz=>?_,fun Ij=>⟨trivial,0,?_⟩⟩
  ·intro b5
   iterate 4 refine⟨by omega,fun _=>?_⟩
   rw [aen h1 h2,aeo];refine⟨fun hb=>⟨trivial,0,?_⟩,fun hb=>?_⟩
   ·rw [Ew]
    ·rfl
    ·unfold mU;rw [if_pos];rcases hb with hb | ⟨zl,DO⟩
     ·exact .inr (.inl hb)
     ·refine .inr (.inr ?_);have e1:ps[i].dev.a=kd.a:=by omega
      have e2:ps[i].dev.d=kd.d:=by omega
      cases hdv:ps[i].dev;cases kd;rw [hdv]at e1 e2;simp only at e1 e2;rw [e1,e2]
   ·have zl: ¬(((ps[i].dev.a*256+ps[i].dev.d:Nat):Int)≤last):=fun h=>hb (.inl h)
    have DO: ¬ps[i].dev=kd:=by
     intro h;refine hb (.inr ⟨?_,?_⟩)<;>rw [h]
    have hs:(ps.take (i+1)).foldlM (mU kd) (-1)=some (place ps[i].dev:Int):=by
     rw [iN _ _ cD,kz,hr];show mU kd last ps[i]=_;unfold mU;rw [if_neg];rintro (h | h | h)
     ·rw [iz]at h;cases h
     ·exact zl h
     ·exact DO h
    have Is:A (aW [(ps[i].dev.a:Int),(ps[i].dev.d:Int)])=0:=by
     refine Decidable.byContradiction fun h=>zl (hAk _ _ h1 h2 h)
    have hkp:aW [(ps[i].dev.a:Int),(ps[i].dev.d:Int)]≠0:=Nat.ne_of_gt (lN (by simp));intro b6;refine⟨by simpa using Is,fun _=>⟨by omega,fun _=>⟨by omega,fun _=>⟨by omega,fun _=>?_⟩⟩⟩⟩;refine⟨((i+1:Nat):Int),_,_,_,by simp,rfl,rfl,rfl,⟨i+1,(place ps[i].dev:Int),_,_,rfl,by omega,hs,?_,?_⟩,by simp;omega⟩
    ·simp only [aw];rw [if_neg (fun e=>hkp e.symm),if_pos trivial,vV];simp
    ·intro a d ha hd fy;simp only [aw]at fy;by_cases he:aW [(a:Int),(d:Int)]=aW [(ps[i].dev.a:Int),(ps[i].dev.d:Int)]
     ·have:=pH (by rfl) he;simp only [List.cons.injEq,and_true]at this;unfold place;omega
     ·rw [if_neg he,if_neg (Nat.ne_of_gt (lN (by simp)))]at fy;have:=hAk a d ha hd fy;unfold place;omega
  ·rw [Ew]
   ·rfl
   ·unfold mU;rw [if_pos (.inl (by simpa using Ij))]
 ·have cD:i=ps.length:=by omega
  subst cD;rw [List.take_length]at hr;have hto:vY kd ps most=decide ((ps.length:Int)≤max most 0):=by
   unfold vY Js;rw [hr];rfl
  have em:ar .imax .i64 most 0=max most 0:=by
   have:ar .imax .i64 most 0=if most<0 then 0 else most:=rfl
   rw [this];split<;>omega
  rw [em,hto,vV];refine⟨fun h=>⟨rfl,0,?_⟩,fun h=>⟨rfl,(b3:Nat)+1,?_⟩⟩
  ·rw [decide_eq_false (by omega)];rfl
  ·rw [decide_eq_true (by omega),eY];rfl
open Go Go.RX Go.Proofs Go.Vs
abbrev Si(r:Rec):List Value:=aul (aj .u8 16 (aI r.id)) ([.int .u8 (r.peer:Int),.bool (!(bi r.out==0)),.int .u8 (r.outcome:Int),.int .u64 (r.eO:Int),.int .u64 (r.bV:Int),.int .u64 (r.ended:Int)])
theorem Jt(c0 c1 c2 c3 c4 c5 c6 c7:Nat):jd [c0,c1,c2,c3,c4,c5,c6,c7]=((((((c0*256+c1)*256+c2)*256+c3)*256+c4)*256+c5)*256+c6)*256+c7:=by
 simp [jd]
theorem Ju{m:List Nat}(hm:fL m){k0 k1 k2 k3 k4 k5 k6 k7:Nat}(h:k0+8≤m.length)(e1:k1=k0+1)(e2:k2=k0+2)(e3:k3=k0+3)(e4:k4=k0+4)(e5:k5=k0+5)(e6:k6=k0+6)(e7:k7=k0+7):
  ar .cK .u64 (ar .shl .u64 (ar .cK .u64 (ar .shl .u64 (ar .cK .u64 (ar .shl .u64 (ar .cK .u64 (ar .shl .u64 (ar .cK .u64 (ar .shl .u64 (ar .cK .u64 (ar .shl .u64 (ar .cK .u64 (ar .shl .u64 (ar .cK .u64 0 (ae .u64 (aI m k0))) 8) (ae .u64 (aI m k1))) 8) (ae .u64 (aI m k2))) 8) (ae .u64 (aI m k3))) 8) (ae .u64 (aI m k4))) 8) (ae .u64 (aI m k5))) 8) (ae .u64 (aI m k6))) 8) (ae .u64 (aI m k7))=(jd ((m.drop k0).take 8):Nat):=by
 subst e1 e2 e3 e4 e5 e6 e7;have hc: ∀j,j<m.length→m.getD j 0<256:=by
  intro j hj;rw [auO,auU hj];exact hm.b _ (List.getElem_mem hj)
 have hd:(m.drop k0).take 8=[m.getD k0 0,m.getD (k0+1) 0,m.getD (k0+2) 0,m.getD (k0+3) 0,m.getD (k0+4) 0,m.getD (k0+5) 0,m.getD (k0+6) 0,m.getD (k0+7) 0]:=by
  refine List.ext_getElem? fun j=>?_
  by_cases hj:j<8
  ·rw [List.getElem?_take_of_lt hj,List.getElem?_drop,auU (by omega)];have hg: ∀i,i<m.length→m.getD i 0=m[i]?.getD 0:=fun i _=>auO ..
   match j,hj with
   | 0,_ | 1,_ | 2,_ | 3,_ | 4,_ | 5,_ | 6,_ | 7,_=>simp only [List.getElem?_cons_zero,List.getElem?_cons_succ,Nat.add_zero];rw [auO,auU (by omega)];rfl
  ·rw [au0 (by simp;omega),au0 (by simp;omega)]
 rw [hd,Jt];unfold aI;have g0:=hc k0 (by omega);have g1:=hc (k0+1) (by omega);have g2:=hc (k0+2) (by omega);have g3:=hc (k0+3) (by omega);have g4:=hc (k0+4) (by omega);have g5:=hc (k0+5) (by omega);have g6:=hc (k0+6) (by omega);have g7:=hc (k0+7) (by omega);generalize m.getD k0 0=c0 at*;generalize m.getD (k0+1) 0=c1 at*;generalize m.getD (k0+2) 0=c2 at*;generalize m.getD (k0+3) 0=c3 at*;generalize m.getD (k0+4) 0=c4 at*;generalize m.getD (k0+5) 0=c5 at*;generalize m.getD (k0+6) 0=c6 at*;generalize m.getD (k0+7) 0=c7 at*;rw [GD g0,lz (by omega) g1,lz (by omega) g2,lz (by omega) g3,lz (by omega) g4,lz (by omega) g5,lz (by omega) g6,lz (by omega) g7]
abbrev aep:List Value:=aul (aj .u8 16 (fun _=>0)) ([.int .u8 0,.bool false,.int .u8 0,.int .u64 0,.int .u64 0,.int .u64 0])
def Sj(m:List Nat)(r:Value):Prop:=(∃x,mV m=some x∧r= .tuple #[.agg (Si x).toArray,.int .i64 0])∨(mV m=none∧r= .tuple #[.agg aep.toArray,.int .i64 9])
theorem Sk{m:List Nat}(hm:fL m){k:Nat}(h:k<m.length):ar .cK .u64 0 (ae .u64 (aI m k))=((m.getD k 0:Nat):Int):=by
 refine GD ?_;rw [auO,auU h];exact hm.b _ (List.getElem_mem h)
theorem Sl{m:List Nat}(hm:fL m){k:Nat}(h:k<m.length):m.getD k 0<256:=by
 rw [auO,auU h];exact hm.b _ (List.getElem_mem h)
set_option maxRecDepth 10000 in
theorem NW(v:V1)(m:List Nat)(hm:fL m):aq auN 75 [v.v] [aR false v.v m] fun r hs=>hs=[aR false v.v m]∧Sj m r:=by
 have hn:=hm.n;have bad: ∀(h: ¬(m.length=43∧m.getD 17 0≤1∧xl (vZ m))),[aR false v.v m]=[aR false v.v m]∧Sj m (.tuple #[.agg aep.toArray,.int .i64 9]):=fun h=>⟨rfl,.inr ⟨by unfold mV;rw [if_neg h],rfl⟩⟩
 refine aal _ (m.length:Int) (aI m) v ?_;unfold R2;intro b0 b1 v1
 iterate 3 refine⟨by omega,fun _=>?_⟩
 intro v2 b2;refine⟨fun h=>bad (by omega),fun h16=>⟨by omega,fun _=>⟨by omega,fun _=>?_⟩⟩⟩;refine⟨fun h=>bad (by omega),fun h17=>⟨by omega,fun _=>⟨by omega,fun _=>⟨by omega,fun _=>⟨by omega,fun _=>⟨by omega,fun _=>?_⟩⟩⟩⟩⟩⟩;refine⟨fun h=>bad (by omega),fun h18=>⟨by omega,fun _=>⟨by omega,fun _=>⟨by omega,fun _=>⟨by omega,fun _=>?_⟩⟩⟩⟩⟩;rw [Sk hm (k:=17) (by omega)];refine⟨fun h=>bad (by omega),fun hfl=>⟨by omega,fun _=>?_⟩⟩;refine⟨fun h=>bad (by omega),fun h19=>⟨by omega,fun _=>⟨by omega,fun _=>⟨by omega,fun _=>⟨by omega,fun _=>⟨by omega,fun _=>?_⟩⟩⟩⟩⟩⟩;refine⟨fun h=>bad (by omega),fun h27=>⟨by omega,fun _=>⟨by omega,fun _=>⟨by omega,fun _=>⟨by omega,fun _=>⟨by omega,fun _=>⟨by omega,fun _=>⟨by omega,fun _=>⟨by omega,fun _=>⟨by omega,fun _=>⟨by omega,fun _=>⟨by omega,fun _=>⟨by omega,fun _=>?_⟩⟩⟩⟩⟩⟩⟩⟩⟩⟩⟩⟩⟩;refine⟨fun h=>bad (by omega),fun h35=>⟨by omega,fun _=>⟨by omega,fun _=>⟨by omega,fun _=>⟨by omega,fun _=>⟨by omega,fun _=>⟨by omega,fun _=>⟨by omega,fun _=>⟨by omega,fun _=>⟨by omega,fun _=>⟨by omega,fun _=>⟨by omega,fun _=>⟨by omega,fun _=>?_⟩⟩⟩⟩⟩⟩⟩⟩⟩⟩⟩⟩⟩;refine⟨fun h=>bad (by omega),fun h43=>⟨by omega,fun _=>⟨by omega,fun _=>⟨by omega,fun _=>⟨by omega,fun _=>⟨by omega,fun _=>⟨by omega,fun _=>⟨by omega,fun _=>⟨by omega,fun _=>⟨by omega,fun _=>⟨by omega,fun _=>⟨by omega,fun _=>⟨by omega,fun _=>?_⟩⟩⟩⟩⟩⟩⟩⟩⟩⟩⟩⟩⟩;refine⟨fun h=>bad (by omega),fun hl=>?_⟩;intro b3;have hlen:m.length=43:=by omega
 rw [Ju hm (k0:=19) (by omega) rfl rfl rfl rfl rfl rfl rfl,Ju hm (k0:=27) (by omega) rfl rfl rfl rfl rfl rfl rfl,Ju hm (k0:=35) (by omega) rfl rfl rfl rfl rfl rfl rfl,Sk hm (k:=16) (by omega),Sk hm (k:=18) (by omega),V9 (Sl hm (by omega)),V9 (Sl hm (by omega))];have jT:xl (vZ m)↔(((((m.getD 16 0:Nat):Int)<8∧(1:Int)≤((m.getD 18 0:Nat):Int))∧((m.getD 18 0:Nat):Int)≤7)∧((jd ((m.drop 19).take 8):Nat):Int)≤((jd ((m.drop 35).take 8):Nat):Int))∧(((jd ((m.drop 27).take 8):Nat):Int)=0∨(((jd ((m.drop 19).take 8):Nat):Int)≤((jd ((m.drop 27).take 8):Nat):Int)∧((jd ((m.drop 27).take 8):Nat):Int)≤((jd ((m.drop 35).take 8):Nat):Int))):=by
  simp only [xl,vZ];omega
 refine⟨fun h=>bad fun hh=>h (jT.1 hh.2.2),fun h=>⟨rfl,.inl ⟨vZ m,?_,?_⟩⟩⟩
 ·unfold mV;rw [if_pos ⟨hlen,by omega,jT.2 (Decidable.not_not.1 h)⟩]
 ·have e1:aj .u8 16 (aI m)=aj .u8 16 (aI (vZ m).id):=fR fun j hj=>by
   show((m.getD j 0:Nat):Int)=(((m.take 16).getD j 0:Nat):Int);rw [auO,auO,List.getElem?_take_of_lt hj]
  have e2:(((m.getD 17 0:Nat):Int)==1)=(!(bi (vZ m).out==0)):=by
   rw [vO];show _=(m.getD 17 0==1);generalize m.getD 17 0=c;rw [Bool.eq_iff_iff];simp;omega
  rw [e1,e2];rfl
open Go Go.RX Go.Proofs Go.Vs
def kL(l:List Nat):List Int:=(List.range 16).map (aI l)
theorem aaK{a b:List Nat}(ha:a.length=16)(hb:b.length=16)(h:kL a=kL b):a=b:=by
 refine List.ext_getElem (by omega) fun j h1 h2=>?_
 have:=congrArg (fun l=>l[j]?) h;simp only [kL,List.getElem?_map,List.getElem?_range (show j<16 by omega),Option.map_some,auq]at this;rw [gj h1,gj h2]at this;omega
theorem Lh{a b:List Nat}(ha:a.length=16)(hb:b.length=16)(h:aW (kL a)=aW (kL b)):a=b:=aaK ha hb (pH (by simp [kL]) h)
theorem Jv(a:List Nat):aW (kL a)≠0:=Nat.ne_of_gt (lN (by simp [kL]))
theorem NY{v:V1}{b:List Nat}(hb:fL b){i:Nat}{n lo hi:Int}(hn:n=(b.length:Int))(cD:i≤b.length)(M6:lo=(i:Int))(hhi:hi=((i+min 43 (b.length - i):Nat):Int)){R:Int→Int→Int→Int→Int→Int→Int→(Nat→Int)→Prop}
  (h1: ∀r,mV ((b.drop i).take 43)=some r→R (r.peer:Int) (bi r.out) (r.outcome:Int) (r.eO:Int) (r.bV:Int) (r.ended:Int) 0 (aI r.id)) (h2:mV ((b.drop i).take 43)=none→R 0 0 0 0 0 0 9 (fun _=>0)):
  ∃post,aq auN 75 [(aF 1 v.v (ag lo) (ag hi) (some (ag hi)))] [aB false 5 1 v.v (ag n) (aM (ag n) [ay .u8 1 (aI b)])] post∧
   ∀x hs,post x hs→∃x3:Int,∃x4:Int,∃x5:Int,∃x6:Int,∃x7:Int,∃x8:Int,∃x9:Int,∃A9:(Nat→Int),x= .tuple #[.agg (aul (aj .u8 16 A9) ([.int .u8 x3,.bool (!(x4==0)),.int .u8 x5,.int .u64 x6,.int .u64 x7,.int .u64 x8])).toArray,.int .i64 x9]∧hs=[aB false 5 1 v.v (ag n) (aM (ag n) [ay .u8 1 (aI b)])]∧R x3 x4 x5 x6 x7 x8 x9 A9:=by
 subst hn M6 hhi;simp only [auD];have em:(b.drop i).take 43=(b.drop i).take (i+min 43 (b.length - i) - i):=by
  rw [List.take_eq_take_iff,List.length_drop];omega
 refine⟨fun r hs=>hs=[aR false v.v b]∧Sj ((b.drop i).take 43) r,?_,?_⟩
 ·have hm:=NW ⟨aF 1 v.v i (i+min 43 (b.length - i)) (some (i+min 43 (b.length - i))),bR ..⟩ ((b.drop i).take 43) ((hb.drop i).take 43);refine aq.post (aq.pre (aq.frame hm [aR false v.v b]) ?_) ?_
  ·exact bI.trans (bI.dup rfl []) (bI.view (by omega) (by omega) (fun m h=>by cases h;omega) em _ 0 rfl)
  ·rintro r hs ⟨lP,rfl,rfl,h⟩;exact⟨_,bI.sub (List.sublist_append_right [_] [aR false v.v b]),rfl,h⟩
 ·rintro x hs ⟨rfl,⟨r,hr,rfl⟩ | ⟨hr,rfl⟩⟩
  ·exact⟨_,_,_,_,_,_,0,_,rfl,rfl,h1 r hr⟩
  ·exact⟨0,0,0,0,0,0,9,_,rfl,rfl,h2 hr⟩
theorem Jw{m:List Nat}{r:Rec}(h:mV m=some r):r.id.length=16∧m.length=43:=by
 unfold mV at h;split at h
 ·rename_i hh;cases h;exact⟨by simp [vZ];omega,hh.1⟩
 ·cases h
set_option maxHeartbeats 1000000 in
theorem NZ(v:V1)(b:List Nat)(hb:fL b):aq auN 36 [v.v] [aR false v.v b] fun r hs=>hs=[]∧∃a e:Int,r= .tuple #[cN a,.int .i64 e]∧(e=0↔yq b=true):=by
 refine aam _ (b.length:Int) (aI b) v ?_;unfold R3;intro b0 b1;refine⟨by omega,fun _=>⟨fun h=>⟨rfl,0,3,rfl,?_⟩,fun hlen=>?_⟩⟩
 ·have:yq b=false:=by
   unfold yq;rw [decide_eq_false (by omega)];rfl
  rw [this];decide
 intro b2 b3 b4 b5 b6 b7 b8 D9 l10 r9;have iz:yq b=(ow b.length b []).isSome:=by
  unfold yq;rw [decide_eq_true (by omega)];rfl
 refine⟨fun x=> ∃(i n:Nat) (acc:List Rec) (v2:V1) (A1 A2 A3 A4 A5 A6 A7 A8:Nat→Int),x=⟨[],[v2],[(i:Int),(acc.length:Int)],[A1,A2,A3,A4,A5,A6,A7,A8],[],[],[]⟩∧i≤b.length∧ow n (b.drop i) acc=ow b.length b []∧b.length - i≤n∧acc.length*43=i∧
  (∀l:List Nat,l.length=16→(A1 (aW (kL l))≠0↔l∈acc.map (·.id)))∧∀r∈acc,r.id.length=16,fun x=>b.length - (x.i.getD 0 0).toNat,?_,?_⟩
 ·exact⟨⟨.slice none 0 0,rfl⟩,_,_,_,fun _=>0,fun _=>0,fun _=>0,fun _=>0,fun _=>0,fun _=>0,fun _=>0,rfl,rfl,rfl,rfl,rfl,fun _ _=>rfl,fun _ _=>rfl,fun _ _=>rfl,fun _ _=>rfl,fun _ _=>rfl,fun _ _=>rfl,fun _ _=>rfl,
   0,b.length,[],_,_,_,_,_,_,_,_,_,rfl,by omega,rfl,by omega,rfl,fun l _=>by simp,by simp⟩
 rintro v2 x1 x2 A1 A2 A3 A4 A5 A6 A7 A8 ⟨i,n,acc,v2,A1,A2,A3,A4,A5,A6,A7,A8,hx,hi,Wp,hn,Wo,hA,ajz⟩;simp only [Ext.mk.injEq,List.cons.injEq,and_true,true_and]at hx;obtain⟨rfl,⟨rfl,rfl⟩,rfl,rfl,rfl,rfl,rfl,rfl,rfl,rfl⟩:=hx;have ajA:ar .iO .i64 43 ((b.length:Int) - (i:Int))=((min 43 (b.length - i):Nat):Int):=by
  have:ar .iO .i64 43 ((b.length:Int) - (i:Int))=if(b.length:Int) - (i:Int)<43 then(b.length:Int) - (i:Int)else 43:=rfl
  rw [this];split<;>omega
 rw [ajA];refine⟨by omega,fun _=>⟨fun cF=>?_,fun mn=>?_⟩⟩
 ·iterate 7 refine⟨by omega,fun _=>?_⟩
  have fy:b.drop i≠[]:=by
   intro h;have:=congrArg List.length h;rw [List.length_drop,List.length_nil]at this;omega
  obtain⟨n,rfl⟩: ∃n',n=n'+1:=⟨n - 1,by omega⟩;refine NY hb rfl hi rfl (by omega) ?_ ?_
  ·intro r hr;obtain⟨Wt,ajB⟩:=Jw hr;have mn:i+43≤b.length:=by
    rw [List.length_take,List.length_drop]at ajB;omega
   intro KR Ue;have Cx:((List.range 16).map (aI r.id))=kL r.id:=rfl;rw [Cx];simp only [auD];refine⟨fun h=>⟨trivial,0,9,rfl,?_⟩,fun h=>?_⟩
   ·have DZ:r.id∈acc.map (·.id):=by
     rcases h with h | h
     ·exact absurd trivial h
     ·exact(hA r.id Wt).1 h
    have:ow b.length b []=none:=by
     rw [←Wp];unfold ow;rw [if_neg fy,hr];simp only;rw [if_pos DZ]
    rw [iz,this];decide
   ·have hnm:r.id ∉ acc.map (·.id):=fun hm=>h (.inr ((hA r.id Wt).2 hm))
    have Sd:ow n (b.drop (i+43)) (acc++[r])=ow b.length b []:=by
     rw [←Wp]
     conv=>rhs;unfold ow
     rw [if_neg fy,hr];simp only;rw [if_neg hnm,List.drop_drop]
    intro O9;refine⟨by omega,fun _=>⟨by omega,fun _=>fun v3=>⟨by omega,fun _=>⟨by omega,fun _=>?_⟩⟩⟩⟩;refine⟨v3,((i+43:Nat):Int),(((acc++[r]).length:Nat):Int),_,_,_,_,_,_,_,_,by simp,rfl,rfl,rfl,by simp,fun _ _=>rfl,fun _ _=>rfl,fun _ _=>rfl,fun _ _=>rfl,fun _ _=>rfl,fun _ _=>rfl,fun _ _=>rfl,
     ⟨i+43,n,acc++[r],v3,_,_,_,_,_,_,_,_,rfl,mn,Sd,by omega,by simp;omega,?_,?_⟩,by simp;omega⟩
    ·intro l hl;simp only [aw];by_cases he:l=r.id
     ·subst he;simp
     ·have hc:aW (kL l)≠aW (kL r.id):=fun hc=>he (Lh hl Wt hc)
      rw [if_neg hc,if_neg (Jv l),hA l hl];simp [he]
    ·intro x hx;rcases auE.1 hx with hx | hx
     ·exact ajz x hx
     ·rw [auz.1 hx];exact Wt
  ·intro hr;intro KR Ue;refine⟨fun _=>⟨rfl,0,9,rfl,?_⟩,fun h=>absurd (.inl (by decide)) h⟩;have:ow b.length b []=none:=by
    rw [←Wp];unfold ow;rw [if_neg fy,hr]
   rw [iz,this];decide
 ·refine⟨rfl,(b3:Nat)+1,0,by rw [eY],?_⟩;have kI:b.drop i=[]:=List.drop_eq_nil_of_le (by omega);have:ow b.length b []=some acc:=by
   rw [←Wp,kI];cases n<;>(unfold ow;rw [if_pos rfl])
  rw [iz,this];exact⟨fun _=>rfl,fun _=>rfl⟩
end Go.RX.Vb
