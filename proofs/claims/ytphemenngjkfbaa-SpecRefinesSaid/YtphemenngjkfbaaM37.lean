/- The call machine. -/
import Derived.Test.YtphemenngjkfbaaM36
open Decidable renaming not_not → agN
open Go.IntKind renaming wrap → ae
open Go.Proofs.Try renaming prog → agQ
open Int renaming toNat → ag
open List renaming append → agw, append_nil → agL
namespace Go.RX.Da
open Go.RX Go.Proofs Go.Cp Go.RX.Cs Go.RX.Ct Go.RX.Cu Go.RX.Cv Go.RX.Cw Go.RX.Cx Go.RX.Cy Go.RX.Cz
set_option maxRecDepth 100000
variable {b b1 i now:Nat} {m:Mc LI} {x:MR} {o:List (Mg LI)} {e:List (Ev LI)} {r:List Rc}
theorem two{f:Nat}{args:List Value}{aq:Value→List HP→Prop}(hN:m.ph≠1→au agQ f args [aZ b i now o e r,cD b1 x,Mm.bJ x.dead 256] aq)
  (hD:m.ph=1→∀y:DX,MX m x y→au agQ f args ([aZ b i now o e r,cD b1 x,Mm.bJ x.dead 256]++kH i y) aq):
  au agQ f args (aZ b i now o e r::ES b1 i m x) aq:=by
 by_cases h:m.ph=1
 ·exact au.pre (M0 (pre:=[aZ b i now o e r,cD b1 x,Mm.bJ x.dead 256]) h fun y hy=>au.pre (hD h y hy) (gW [3,4,5,0,1,2] (by decide) rfl)) (gW [3,0,1,2] (by decide) rfl)
 ·exact au.pre (hN h) (aB.sub (by simp))
theorem vN(hx:Is i m x){A5:Nat→Int}{X:Mg LI}(hc:X.c=bD A5):m.has X.c↔¬(x.st=0∨¬nq x A5):=by
 have h0:x.st=0↔m.ph=0:=hx.H4;unfold Mc.has;by_cases h:m.ph=0
 ·simp [h,h0.2 h]
 ·have:=px hx h A5;rw [hc,←this];simp [h,mt h0.1 h]
theorem nu(hx:Is i m x)(h:m.ph≠0){f0 f1:Int}(tr:0≤f0∧f0<2)(uv:0≤f1∧f1<2){X:Mg LI}(hf:X.f=fH f0 f1):X.f=m.peer↔f0=x.pa∧f1=x.pd:=by
 rw [hf,←(hx.call h).peer];exact Jg tr uv (hx.call h).pa (hx.call h).pd
theorem G8(hx:Is i m x)(h:m.ph≠1):x.st≠1:=fun e=>h (hx.H4.1 e)
theorem abq(hx:Is i m x):x.st≠0→0≤x.pa∧x.pa<2:=fun h=>(hx.call fun e=>h (by rw [hx.st,e];rfl)).pa
theorem abr(hx:Is i m x):x.st≠0→0≤x.pd∧x.pd<2:=fun h=>(hx.call fun e=>h (by rw [hx.st,e];rfl)).pd
theorem abt(hx:Is i m x):x.st≠0→Me i x:=fun h=>hx.me fun e=>h (by rw [hx.st,e];rfl)
theorem KY(hx:Is i m x){w:Int}{v:Nat}(h:w=2↔v=2):(Bj x.st w).toNat=AS m.ph v:=by
 have h2:=hx.H4 (k:=2);have h3:=hx.H4 (k:=3);simp only [Bj,AS,h,show x.st=2↔m.ph=2 from h2,show x.st=3↔m.ph=3 from h3]
 repeat' split
 all_goals rfl
theorem dZ:Tl e e []:=⟨[],(agL _).symm,Nat.zero_le _,rfl⟩
abbrev q0:Or:=⟨false,false,false,false,false,false,[],[],0⟩
theorem gU:q0.Ok i:=ia cr cr
abbrev sgV(A5 A6:Nat→Int)(bM bH bL bX bZ bS:Int):Value:= .agg (.int .u8 bM::(agw (ak .u8 16 A5) (.int .u8 bH::(.int .u8 bL::(.int .u8 bX::(agw (ak .u8 32 A6) ([.int .u32 bZ,.slice none 0 0,.int .u8 bS]))))))).toArray
abbrev KZ(b b1 now:Nat)(f0 f1:Int)(A5 A6:Nat→Int)(bM bH bL bX bZ bS:Int):List Value:=[.pointer (some ⟨b1,0,none⟩),.pointer (some ⟨b,0,none⟩),.agg #[.int .u8 f0,.int .u8 f1],sgV A5 A6 bM bH bL bX bZ bS,.int .u64 (now:Int)]
structure Pre (i:Nat) (m:Mc LI) (x:MR) (o:List (Mg LI)) (e:List (Ev LI)) (r:List Rc):Prop where
 hi:i<4
 x:Is i m x
 b:o.length≤800∧e.length≤800∧r.length≤800
 k:KM m
structure W6 (f0 f1:Int):Prop where
 a:0≤f0∧f0<2
 d:0≤f1∧f1<2
structure xq (F:Nat→LI→LI→Nat→Nat→LI) (H:LI→LI):Prop where
 nW:zq F
 sum:KX H
 ok: ∀c k k' a d,yv (F c k k' a d)
variable {F:Nat→LI→LI→Nat→Nat→LI} {H:LI→LI}
theorem vO(hp:Pre i m x o e r)(h0:m.ph≠0)(why oc:Int)(hoc:0≤oc):
  au agQ 95 [.pointer (some ⟨b1,0,none⟩),.pointer (some ⟨b,0,none⟩),.int .u8 why,.int .u8 oc,.int .u64 (now:Int)] (aZ b i now o e r::ES b1 i m x) (Does (fun s=> ∃sub,Bm i sub∧s=leaves zK i m sub why.toNat oc.toNat) b b1 i now o e r):=by
 have hx:=hp.x;have hc:=hx.call h0;refine two (fun h=>?_) fun h y hy=>?_
 ·refine jh ((Cq b b1 i now x o e r ⟨by have:=hp.b.1;omega,by have:=hp.b.2.1;omega,by have:=hp.b.2.2;omega⟩ hc.pa hc.pd (G8 hx h) (hx.ba h0) (hx.me h0) why oc hoc).post fun rv hs ⟨h1,h2⟩=>⟨hs,aB.refl _,h1,?_⟩);subst h2;exact⟨leaves zK i m [] why.toNat oc.toNat,_,⟨[],cr,rfl⟩,⟨[_],rfl,(by simp),Bp hx h0 [] 0 oc⟩,ej hx.idle (by simp [leaves]) (by simp [leaves,h,hc.c,hc.peer]) (congrArg (r++ ·) (vM hx h0 [] 0 oc))⟩
 ·refine jh ((oH b b1 i now x o e r ⟨by have:=hp.b.1;omega,by have:=hp.b.2.1;omega,by have:=hp.b.2.2;omega⟩ y.b3 y.b4 y.v0 (gQ i) y.cR y.A9 (Mm.pw y.b4 4) rC (hx.H4.2 h) hy.b3 hy.b4 (hx.ba h0) (hx.me h0) why oc hoc).post fun rv hs ⟨h1,o',sub,h2,h3,h4,h5⟩=>⟨hs,aB.refl _,h1,?_⟩);subst h5 h2;exact⟨leaves zK i m sub why.toNat oc.toNat,_,⟨sub,⟨sy hp.hi h3,h4⟩,rfl⟩,⟨[_],rfl,(by simp),Bp hx h0 sub 0 oc⟩,ej hx.idle (by simp [leaves]) (congrArg (o++ ·) (Bo hx h sub why.toNat oc.toNat)) (congrArg (r++ ·) (vM hx h0 sub 0 oc))⟩
section
variable {f0 f1 bM bH bL bX bZ bS:Int} {A5 A6:Nat→Int} {X:Mg LI}
theorem uw(hp:Pre i m x o e r)(hf:W6 f0 f1)(hS:xq F H)(hX:Bq X 3 f0 f1 A5 A6):au agQ 89 (KZ b b1 now f0 f1 A5 A6 bM bH bL bX bZ bS) (aZ b i now o e r::ES b1 i m x) (Does (rD F H i m X now) b b1 i now o e r):=by
 have hx:=hp.x;have hh:=vN hx hX.c;refine two (fun h=>?_) fun h y hy=>Cz.uw b b1 i now hp.hi m x hx h y hy o e r hp.b f0 f1 hf.a hf.d bM bH bL bX bZ bS A5 A6 F H X hX
 refine jh ((G2 b b1 i now x o e r ⟨by have:=hp.b.1;omega,by have:=hp.b.2.1;omega,by have:=hp.b.2.2;omega⟩ (abq hx) (abr hx) (G8 hx h) (abt hx) (H (aN x.dM 0 32)) (fun h3=>hS.sum b1 _ ?_) f0 f1 bM bH bL bX bZ bS A5 A6 hf.a hf.d).post fun rv hs ⟨h1,o',e',m',hc,h2⟩=>⟨hs,aB.refl _,h1,?_⟩)
 ·have:=hx.H4.1 (show x.st=((3:Nat):Int)from h3);simp only;rw [(hx.call (by omega)).dM];exact hp.k.dM (by omega)
 subst h2;rcases hc with⟨c1,rfl,rfl,rfl⟩ | ⟨c1,⟨c2,rfl,rfl,rfl⟩ | ⟨c2,hc⟩⟩
 ·exact⟨⟨m,[⟨5,X.c,i,X.f,zK,1⟩],[],[]⟩,_,⟨q0,gU,by simp [take,hX.k,(show¬m.has X.c from fun h=>hh.1 h c1)]⟩,dZ,ej hx h (by rw [hX.c,hX.f]) (agL _).symm⟩
 ·have c3:=hh.2 c1;have c4:=mt (nu hx c3.1 hf.a hf.d hX.f).1 c2;exact⟨gG m,_,⟨q0,gU,by simp [take,hX.k,c3,c4]⟩,dZ,ej hx h (agL _).symm (agL _).symm⟩
 ·have c3:=hh.2 c1;have c4:=(nu hx c3.1 hf.a hf.d hX.f).2 c2;have hi:=hx.call c3.1;rcases hc with⟨c5,rfl,rfl,rfl⟩ | ⟨c5,rfl,rfl,rfl⟩ | ⟨c5,c6,rfl,rfl,rfl⟩
  ·have c6:m.ph=3:=hx.H4.1 c5;refine⟨⟨(active H m now).1,[],[(active H m now).2],[]⟩,_,⟨q0,gU,by simp [take,hX.k,c3,c4,c6]⟩,⟨[_],rfl,(by simp),?_⟩,ej ⟨hx.a,hx.d,hx.wv,hx.NI,rfl,fun _=>⟨hi.c,hi.out,hi.pa,hi.pd,hi.peer,hi.own,hi.off,hi.dM,hi.aP,rfl,rfl,rfl,rfl,hi.ac⟩⟩ (by simp [active]) (agL _).symm (agL _).symm⟩;simp [active,hi.c,hi.peer,hi.dM]
  ·have c6:m.ph=4:=hx.H4.1 c5;exact⟨⟨{m with heard:=now},[],[],[]⟩,_,⟨q0,gU,by simp [take,hX.k,c3,c4,c6]⟩,dZ,ej ⟨hx.a,hx.d,hx.wv,hx.NI,hx.st,fun _=>⟨hi.c,hi.out,hi.pa,hi.pd,hi.peer,hi.own,hi.off,hi.dM,hi.aP,hi.since,rfl,hi.bO,hi.bF,hi.ac⟩⟩ h (agL _).symm (agL _).symm⟩
  ·have d3:m.ph≠3:=fun e=>c5 (hx.H4.2 e)
   have d4:m.ph≠4:=fun e=>c6 (hx.H4.2 e)
   exact⟨gG m,_,⟨q0,gU,by simp [take,hX.k,c3,c4,d3,d4]⟩,dZ,ej hx h (agL _).symm (agL _).symm⟩
theorem gk(hp:Pre i m x o e r)(hf:W6 f0 f1)(hS:xq F H)(hK:KS X)(hX:Bq X 2 f0 f1 A5 A6):au agQ 88 (KZ b b1 now f0 f1 A5 A6 bM bH bL bX bZ bS) (aZ b i now o e r::ES b1 i m x) (Does (rD F H i m X now) b b1 i now o e r):=by
 have hx:=hp.x;have hh:=vN hx hX.c;refine two (fun h=>?_) fun h y hy=>Cz.gk b b1 i now hp.hi m x hx h y hy o e r hp.b f0 f1 hf.a hf.d bM bH bL bX bZ bS A5 A6 F H X hX hS.nW hS.ok hS.sum hp.k hK
 refine jh ((Je b b1 i now x o e r ⟨by have:=hp.b.1;omega,by have:=hp.b.2.1;omega,by have:=hp.b.2.2;omega⟩ (G8 hx h) f0 f1 bM bH bL bX bZ bS A5 A6 hf.a hf.d).post fun rv hs ⟨h1,o',e',m',hc,h2⟩=>⟨hs,aB.refl _,h1,?_⟩);subst h2;rcases hc with⟨c1,rfl,rfl,rfl⟩ | ⟨c1,hc⟩
 ·exact⟨⟨m,[⟨5,X.c,i,X.f,zK,1⟩],[],[]⟩,_,⟨q0,gU,by simp [take,hX.k,(show¬m.has X.c from fun h=>hh.1 h c1)]⟩,dZ,ej hx h (by rw [hX.c,hX.f]) (agL _).symm⟩
 have c3:=hh.2 c1;have hi:=hx.call c3.1;have c5:x.out≠0↔m.out=true:=by rw [←hi.out];simp
 have c6:=nu hx c3.1 hf.a hf.d hX.f;rcases hc with⟨c2,rfl,rfl,rfl⟩ | ⟨c2,rfl,rfl,rfl⟩
 ·exact⟨⟨m,[⟨6,X.c,i,X.f,zK,0⟩],[],[]⟩,_,⟨q0,gU,by simp [take,hX.k,c3,h,c5.1 c2.1,mt c6.1 c2.2]⟩,dZ,ej hx h (by rw [hX.f,←c3.2,←hi.c]) (agL _).symm⟩
 ·have c7: ¬(m.ph≠1∧m.out=true∧X.f≠m.peer):=fun hn=>c2 ⟨c5.2 hn.2.1,mt c6.2 hn.2.2⟩
  exact⟨gG m,_,⟨q0,gU,by rw [take,if_neg (by rw [hX.k];decide),if_pos hX.k,if_neg (not_not_intro c3),if_neg (fun hn=>h hn.1),if_neg c7]⟩,dZ,ej hx h (agL _).symm (agL _).symm⟩
theorem rE(hp:Pre i m x o e r)(hf:W6 f0 f1)(hS:xq F H)(hK:KS X)(hX:Bq X 1 f0 f1 A5 A6)(S5:f0=gQ i):au agQ 87 (KZ b b1 now f0 f1 A5 A6 bM bH bL bX bZ bS) (aZ b i now o e r::ES b1 i m x) (Does (rD F H i m X now) b b1 i now o e r):=by
 have hx:=hp.x;have hh:=vN hx hX.c;refine two (fun h=>?_) fun h y hy=>Cz.rE b b1 i now hp.hi m x hx h y hy o e r hp.b f0 f1 hf.a hf.d bM bH bL bX bZ bS A5 A6 F H X hX hS.nW hp.k hK S5
 refine jh ((Jf b b1 i now x o e r ⟨by have:=hp.b.1;omega,by have:=hp.b.2.1;omega,by have:=hp.b.2.2;omega⟩ (G8 hx h) f0 f1 bM bH bL bX bZ bS A5 A6 hf.a hf.d hx.a hx.d S5).post fun rv hs ⟨h1,o',e',m',hc,h2⟩=>⟨hs,aB.refl _,h1,?_⟩);subst h2;rcases hc with⟨rfl,rfl,rfl⟩ | ⟨c1,rfl,rfl,rfl⟩ | ⟨c1,c2,rfl,rfl,rfl⟩
 ·exact⟨gG m,_,⟨{q0 with has:=true},ia cr cr,by simp [take,hX.k]⟩,dZ,ej hx h (agL _).symm (agL _).symm⟩
 ·have c3:m.ph=0:=hx.H4.1 c1;refine⟨⟨rings zK X now,[],[nZ zK X],[]⟩,_,⟨q0,gU,by simp [take,hX.k,c3]⟩,⟨[_],rfl,(by simp),by simp [nZ,hX.c]⟩,ej ⟨hx.a,hx.d,hx.wv,hx.NI,rfl,fun _=>⟨hX.c.symm,rfl,hf.a,hf.d,hX.f.symm,rfl,hX.key.symm,rfl,rfl,rfl,rfl,rfl,rfl,S5⟩⟩ (by simp [rings]) (agL _).symm (agL _).symm⟩
 ·have c3:m.ph≠0:=fun e=>c1 (hx.H4.2 e)
  have c4: ¬m.c=X.c:=fun e=>c2 ((px hx c3 A5).2 (by rw [e,hX.c]))
  exact⟨⟨m,[⟨4,X.c,i,X.f,zK,0⟩],[],[]⟩,_,⟨q0,gU,by simp [take,hX.k,c3,c4]⟩,dZ,ej hx h (by rw [hX.c,hX.f]) (agL _).symm⟩
theorem ux(hp:Pre i m x o e r)(hf:W6 f0 f1)(hX:Bq X 5 f0 f1 A5 A6)(hw:bS=2↔X.why=2):au agQ 91 (KZ b b1 now f0 f1 A5 A6 bM bH bL bX bZ bS) (aZ b i now o e r::ES b1 i m x) (Does (rD F H i m X now) b b1 i now o e r):=by
 have hx:=hp.x;have hh:=vN hx hX.c;refine two (fun h=>?_) fun h y hy=>Cz.ux b b1 i now hp.hi m x hx h y hy o e r hp.b f0 f1 hf.a hf.d bM bH bL bX bZ bS A5 A6 F H X hX hw
 refine jh ((G3 b b1 i now x o e r ⟨by have:=hp.b.1;omega,by have:=hp.b.2.1;omega,by have:=hp.b.2.2;omega⟩ (G8 hx h) (fun h0=>have h1:m.ph≠0:=fun e=>h0 (by rw [hx.st,e];rfl);⟨hx.ba h1,hx.me h1⟩) f0 f1 bM bH bL bX bZ bS A5 A6).post fun rv hs ⟨h1,o',e',m',hc,h2⟩=>⟨hs,aB.refl _,h1,?_⟩);subst h2;rcases hc with⟨c1,rfl,rfl,rfl⟩ | ⟨c1,c2,rfl,rfl,rfl⟩
 ·refine⟨gG m,_,⟨q0,gU,?_⟩,dZ,ej hx h (agL _).symm (agL _).symm⟩;by_cases c3:m.has X.c
  ·have c4: ¬X.f=m.peer:=fun e=>(not_or.1 (hh.1 c3)).2 (c1.resolve_left (not_or.1 (hh.1 c3)).1 |>.resolve_right fun hn=>hn ((nu hx c3.1 hf.a hf.d hX.f).1 e))
   simp [take,hX.k,c3,h,c4]
  ·simp [take,hX.k,c3]
 ·have c3:=hh.2 c1;have c4:=(nu hx c3.1 hf.a hf.d hX.f).2 c2;have hi:=hx.call c3.1;exact⟨ends zK m (AS m.ph X.why),_,⟨q0,gU,by simp [take,hX.k,c3,h,c4]⟩,⟨[_],rfl,(by simp),by rw [EX hx c3.1,KY hx hw];rfl⟩,ej hx.idle (by simp [ends]) (agL _).symm (by rw [EW hx c3.1,KY hx hw];rfl)⟩
end
end Go.RX.Da

namespace Go.RX
theorem aU.uy{α:Type}{F:α→HP}{R:List HP}{w:World}(h:aU (HP.ex F::R) w): ∃a,aU (F a::R) w:=by
 obtain⟨S,hS⟩:=h;obtain⟨⟨a,ha⟩,hb⟩:=hS.at_ 0 (HP.ex F) rfl;refine⟨a,S,⟨fun i x hx=>?_,fun i j x y eJ hx hy hw=>?_⟩⟩
 ·match i,hx with
  | 0,hx=>simp at hx;subst hx;exact⟨ha,hb⟩
  | i+1,hx=>exact hS.at_ (i+1) x (by simpa using hx)
 ·match i,j,eJ,hx,hy with
  | 0,0,eJ,_,_=>exact absurd rfl eJ
  | 0,j+1,_,_,hy=>exact hS.apart 0 (j+1) (HP.ex F) y (by omega) rfl (by simpa using hy) (.inl rfl)
  | i+1,0,_,hx,_=>exact hS.apart (i+1) 0 x (HP.ex F) (by omega) (by simpa using hx) rfl (.inr rfl)
  | i+1,j+1,eJ,hx,hy=>exact hS.apart (i+1) (j+1) x y eJ (by simpa using hx) (by simpa using hy) hw
theorem aB.uy{α:Type}{F:α→HP}{R T:List HP}(h: ∀a,aB (F a::R) T):aB (HP.ex F::R) T:=fun w Fs o=>by
 obtain⟨a,ha⟩:=aU.uy (R:=R++Fs) o;exact h a w Fs ha
theorem au.uy{α:Type}{F:α→HP}{P:Program}{f:Nat}{args:List Value}{pre:List HP}{Q:Value→List HP→Prop}(h:au P f args pre fun v hs=> ∃R,hs=HP.ex F::R∧Q v R):
  au P f args pre fun v hs=> ∃a R,hs=F a::R∧Q v R:=by
 intro w Fs o;refine(h w Fs o).mono ?_;rintro e w' ⟨v,hs,he,⟨R,rfl,hq⟩,ho,ey⟩;obtain⟨a,ha⟩:=aU.uy (R:=R++Fs) ho;exact⟨v,_,he,⟨a,R,rfl,hq⟩,ha,ey⟩
theorem aB.rA(t s:Nat):aB [] [aC true t s (.slice none 0 0) 0 []]:=by
 intro w Fs ⟨S,hS⟩;refine⟨fun i=>match i with | 0=>fun _=>False | i+1=>S i,⟨?_,?_⟩⟩
 ·intro i x hx
  match i,hx with
  | 0,hx=>
   simp at hx;subst hx;exact⟨⟨by simp only [if_true];exact kO w t s,fun k=>⟨False.elim,fun h=>by simp [Value.ownBlock]at h⟩⟩,fun k h=>h.elim⟩
  | i+1,hx=>exact hS.at_ i x (by simpa using hx)
 ·intro i j x y eJ hx hy hw k
  match i,j,eJ,hx,hy with
  | 0,_,_,_,_=>exact fun h=>h.elim
  | i+1,0,_,_,_=>exact fun _ h=>h
  | i+1,j+1,eJ,hx,hy=>exact hS.apart i j x y (by omega) (by simpa using hx) (by simpa using hy) hw k
end Go.RX
namespace Go.RX.Dc
open Go.RX Go.Proofs Go.Cp Go.RX.Cs Go.RX.Ct Go.RX.Cu Go.RX.Cy Go.RX.Cz Go.RX.Da
abbrev cC:V1:=⟨.slice none 0 0,rfl⟩
abbrev n9(b:Nat)(v0 v1 v2:V1):HP:=ao b true [v0.v,v1.v,v2.v]
variable {b b1 i now:Nat} {o:List (Mg LI)} {e:List (Ev LI)} {r:List Rc} {v0 v1 v2:V1}
abbrev jb(x:KO i now o e r):List HP:=[pq x.v0 o.length x.Ao,xk x.v1 e.length x.Ae,xl x.v2 r.length x.Ar]
def eX(v0 v1 v2:V1)(i now:Nat)(o:List (Mg LI))(e:List (Ev LI))(r:List Rc):HP:=HP.ex fun x:{x:KO i now o e r // x.v0=v0∧x.v1=v1∧x.v2=v2}=>HP.star (jb x.1)
theorem PO(x:KO i now o e r): ∀h∈jb x,h.wr=true:=by
 intro h hh;simp only [jb,List.mem_cons,List.not_mem_nil,or_false]at hh;rcases hh with rfl | rfl | rfl<;>rfl
theorem DS(x:KO i now o e r):aB (jb x) [eX x.v0 x.v1 x.v2 i now o e r]:=
 aB.trans (aB.star (PO x)) (aB.ex (F:=fun y:{y:KO i now o e r // y.v0=x.v0∧y.v1=x.v1∧y.v2=x.v2}=>HP.star (jb y.1)) ⟨x,rfl,rfl,rfl⟩ rfl)
theorem zt(R:List HP):aB (n9 b v0 v1 v2::eX v0 v1 v2 i now o e r::R) (aZ b i now o e r::R):=by
 refine aB.trans (aB.frame (gW (a:=[n9 b v0 v1 v2,eX v0 v1 v2 i now o e r]) (b:=[eX v0 v1 v2 i now o e r,n9 b v0 v1 v2]) [1,0] (by decide) rfl) R) ?_;refine aB.uy fun x=>?_
 obtain⟨x,rfl,rfl,rfl⟩:=x;exact aB.trans (aB.frame (aB.eQ (jb x)) (n9 b x.v0 x.v1 x.v2::R)) (aB.trans (aB.frame (gW (a:=jb x++[n9 b x.v0 x.v1 x.v2]) (b:=MT b x) [3,0,1,2] (by decide) rfl) R) (aB.frame (sr b x) R))
def abu:KO i now [] [] []:=⟨cC,cC,cC,fun _ _=>0,fun _ _=>0,fun _ _=>0,rfl,(fun _ h=>by simp at h),rfl,(fun _ h=>by simp at h),rfl,fun _ h=>by simp at h⟩
theorem vP:aB [] [eX cC cC cC i now [] [] []]:=by
 refine aB.trans ?_ (DS (i:=i) (now:=now) abu);exact aB.trans (aB.rA 85 22) (aB.trans (aB.frame (aB.rA 76 56) [_]) (aB.frame (aB.rA 111 57) [_,_]))
theorem rF(R:List HP):aB (ao b true [.slice none 0 0,.slice none 0 0,.slice none 0 0]::R) (aZ b i now [] [] []::R):=
 aB.trans (aB.trans (aB.frame (vP (i:=i) (now:=now)) _) (aB.frame (gW (a:=[eX cC cC cC i now [] [] [],n9 b cC cC cC]) (b:=[n9 b cC cC cC,eX cC cC cC i now [] [] []]) [1,0] (by decide) rfl) R)) (zt R)
theorem Br{f:Nat}{args:List Value}{pre:List HP}{Q:Value→List (Mg LI)→List (Ev LI)→List Rc→List HP→Prop}(h:au agQ f args pre fun rv hs=> ∃o e r R,hs=aZ b i now o e r::R∧Q rv o e r R):
  au agQ f args pre fun rv hs=> ∃v0 v1 v2 o e r R,hs=n9 b v0 v1 v2::eX v0 v1 v2 i now o e r::R∧Q rv o e r R:=by
 intro w Fs own;refine(h w Fs own).mono ?_;rintro en w' ⟨v,hs,he,⟨o,e,r,R,rfl,hq⟩,ho,ey⟩;obtain⟨x,hx⟩:=aU.uy (R:=R++Fs) ho;have h1:aU (n9 b x.v0 x.v1 x.v2::eX x.v0 x.v1 x.v2 i now o e r::(R++Fs)) w':=
  aB.trans (aB.eQ (MT b x)) (aB.trans (gW (a:=MT b x) (b:=jb x++[n9 b x.v0 x.v1 x.v2]) [1,2,3,0] (by decide) rfl) (aB.trans (aB.frame (DS x) _) (gW (a:=[eX x.v0 x.v1 x.v2 i now o e r,n9 b x.v0 x.v1 x.v2]) (b:=[n9 b x.v0 x.v1 x.v2,eX x.v0 x.v1 x.v2 i now o e r]) [1,0] (by decide) rfl))) w' (R++Fs) hx
 exact⟨v,_,he,⟨x.v0,x.v1,x.v2,o,e,r,R,rfl,hq⟩,h1,ey⟩
end Go.RX.Dc

namespace Go.RX.Dd
open Go.RX Go.Proofs Go.Cp Go.RX.Cs Go.RX.Ct Go.RX.Cu Go.RX.Cv Go.RX.Cw Go.RX.Cx Go.RX.Cy Go.RX.Cz Go.RX.Da Go.RX.Db Go.RX.Dc
set_option maxRecDepth 100000
abbrev StV(v0 v1 v2:V1):Value:= .agg #[v0.v,v1.v,v2.v]
abbrev yz(W:Value→Rs LI→Value→Prop)(b1 i now:Nat)(rv:Value)(hs:List HP):Prop:= ∃(v0 v1 v2:V1) (s:Rs LI) (e':List (Ev LI)),W (StV v0 v1 v2) s rv∧Tl [] e' s.e∧hs=[eX v0 v1 v2 i now s.o e' s.r,cJ b1 i s.m]
section
variable {b b1 i now f:Nat} {m:Mc LI} {x:MR} {o o':List (Mg LI)} {e e':List (Ev LI)} {r r':List Rc} {args:List Value} {pre R R' L:List HP}
theorem sB{W:Value→Rs LI→Value→Prop}(h:au agQ f args pre fun rv hs=> ∃(v0 v1 v2:V1) (s:Rs LI) (e':List (Ev LI)),W (StV v0 v1 v2) s rv∧Tl [] e' s.e∧aB hs [eX v0 v1 v2 i now s.o e' s.r,cJ b1 i s.m]):
  au agQ f args pre (yz W b1 i now):=
 h.post fun _ _ ⟨v0,v1,v2,s,e',h1,h2,h3⟩=>⟨_,h3,v0,v1,v2,s,e',h1,h2,rfl⟩
theorem nw(h:au agQ f args (aZ b i now o e r::R) fun rv hs=>rv= .tuple #[]∧hs=aZ b i now o' e' r'::R')(hp:aB pre (aZ b i now o e r::R)):
  au agQ f args pre fun rv hs=>rv= .tuple #[]∧∃v0 v1 v2,hs=n9 b v0 v1 v2::eX v0 v1 v2 i now o' e' r'::R':=by
 have h1:=Br (b:=b) (i:=i) (now:=now) (Q:=fun rv o1 e1 r1 R1=>rv= .tuple #[]∧o1=o'∧e1=e'∧r1=r'∧R1=R') ((au.pre h hp).post fun rv hs ⟨h1,h2⟩=>⟨hs,aB.refl _,o',e',r',R',h2,h1,rfl,rfl,rfl,rfl⟩);refine h1.post ?_;rintro rv hs ⟨v0,v1,v2,o1,e1,r1,R1,rfl,h2,rfl,rfl,rfl,rfl⟩;exact⟨_,aB.refl _,h2,v0,v1,v2,rfl⟩
theorem jF{Q:Rs LI→Prop}(h:au agQ f args (aZ b i now [] [] []::R) (Does Q b b1 i now [] [] [])):
  au agQ f args (ao b true [.slice none 0 0,.slice none 0 0,.slice none 0 0]::R) fun rv hs=>rv= .tuple #[]∧∃v0 v1 v2 s e',Q s∧Tl [] e' s.e∧hs=[n9 b v0 v1 v2,eX v0 v1 v2 i now s.o e' s.r,cJ b1 i s.m]:=by
 have h1:=Br (b:=b) (i:=i) (now:=now) (Q:=fun rv o1 e1 r1 R1=>rv= .tuple #[]∧∃s,Q s∧Tl [] e1 s.e∧o1=s.o∧r1=s.r∧R1=[cJ b1 i s.m]) ((au.pre h (rF R)).post fun rv hs ⟨h1,s,e',h2,h3,h4⟩=>⟨hs,aB.refl _,s.o,e',s.r,[cJ b1 i s.m],h4,h1,s,h2,h3,rfl,rfl,rfl⟩);refine h1.post ?_;rintro rv hs ⟨v0,v1,v2,o1,e1,r1,R1,rfl,h2,s,h3,h4,rfl,rfl,rfl⟩;exact⟨_,aB.refl _,h2,v0,v1,v2,s,e1,h3,h4,rfl⟩
theorem fu(hx:Is i m x):aB (cD b1 x::Mm.bJ x.dead 256::fC i m x::L) [eX cC cC cC i now [] [] [],cJ b1 i m]:=by
 refine aB.trans (aB.sub (b:=ES b1 i m x) ?_) (aB.trans (zp hx) (aB.frame vP [_]));simp [ES]
theorem zu{m:Mc LI}(hi:i<4)(hx:Is i m x)(hk:KM m):Pre i m x [] [] []:=⟨hi,hx,by simp,hk⟩
theorem PQ{h1 h2 h3 hm:HP}(h:aB [h1,h2] [hm]):aB [h1,h2,h3] [h3,hm]:=aB.trans (aB.frame h [h3]) (gW [1,0] (by decide) rfl)
theorem nI{h1 h2:HP}:aB (h1::h2::L) [h1,h2]:=aB.sub (by simp)
end
theorem Jl{a n:Nat}(hn:n<2^63):ae .u64 ((aF .imax .u64 (a:Int) (n:Int)) - (a:Int))=((MD a n:Nat):Int):=by
 have h:aF .imax .u64 (a:Int) (n:Int)=((max a n:Nat):Int):=by
  unfold aF;dsimp only;split<;>omega
 rw [h,show((max a n:Nat):Int) - (a:Int)=((MD a n:Nat):Int) by unfold MD;omega];have h2:MD a n<2^64:=by unfold MD;omega
 have h3: ∀k:Nat,ae .u64 (k:Int)=((k%2^64:Nat):Int):=fun k=>by simp [ae,IntKind.bits,IntKind.signed]
 rw [h3,Nat.mod_eq_of_lt h2]
theorem qg(b1 i now:Nat)(hi:i<4)(m:Mc LI)(hk:KM m)(hn:now<2^63):au agQ 53 [.pointer (some ⟨b1,0,none⟩),.int .u64 (now:Int)] [cJ b1 i m] (yz (fun v s rv=>rv=v∧∃q:Or,q.Ok i∧s=tick zK i m now q) b1 i now):=by
 refine qf fun x hx=>sB ?_
 have BW:=fun(b:Nat) (h0:m.ph≠0) (why oc:Int) (hoc:0≤oc)=>jF (vO (b:=b) (b1:=b1) (now:=now) (zu hi hx hk) h0 why oc hoc)
 have lG:x.st=(m.ph:Int):=hx.st;have b0:Nat:=0;refine SK _ x.a x.d x.st x.out x.ac x.pa x.pd x.lO x.early x.aP x.bF x.since x.heard x.bO x.bA 0 0 0 0 0 0 0 (now:Int) 0 0 0 0 0 0 0 0 0 0 0 0 0 0 0 0 0 x.dv x.id x.own x.off x.dM (fun _=>0) (fun _=>0) (fun _=>0) (fun _=>0) (fun _=>0) b0 b1 x.dead (Mm.bJ x.dead 256) (fC i m x) (fC i m x) ?_;unfold KJ;intro b3 b4;have hh:m.ph≠0→x.since=(m.since:Int):=fun h=>(hx.call h).since
 by_cases c0:m.ph=0
 ·have e0:x.st=0:=hx.H4.2 c0;refine⟨fun c=>absurd c.1 (by omega),fun _=>⟨fun c=>absurd c.1 (by omega),fun _=>⟨fun c=>absurd c.1 (by omega),fun _=>⟨fun c=>absurd c (by omega),fun _=>?_⟩⟩⟩⟩;exact⟨cC,cC,cC,gG m,[],⟨rfl,q0,gU,by simp [tick,c0]⟩,dZ,fu hx⟩
 have hc:=hx.call c0;have a1:ae .u64 ((aF .imax .u64 x.since (now:Int)) - x.since)=((MD m.since now:Nat):Int):=by rw [hc.since,Jl hn]
 have a2:ae .u64 ((aF .imax .u64 x.heard (now:Int)) - x.heard)=((MD m.heard now:Nat):Int):=by rw [hc.heard,Jl hn]
 have a3:ae .u64 ((aF .imax .u64 x.bO (now:Int)) - x.bO)=((MD m.bO now:Nat):Int):=by rw [hc.bO,Jl hn]
 rw [a1,a2,a3];refine⟨fun c=>⟨_,BW b4 c0 3 3 (by decide),?_⟩,fun c1=>⟨fun c=>⟨_,BW b4 c0 3 3 (by decide),?_⟩,fun c2=>⟨fun c=>⟨_,BW b4 c0 3 6 (by decide),?_⟩,fun c3=>⟨fun c4=>⟨fun c=>⟨_,BW b4 c0 3 1 (by decide),?_⟩,fun c5=>⟨fun c=>⟨_,nw (cA b4 i now [] [] [] (by simp) x.pa x.pd 3 0 0 0 (ae .u32 (1+(ae .u32 (x.bA+1)))) 0 x.id (fun _=>0) hc.pa hc.pd (by decide)) (rF []),?_⟩,fun c6=>?_⟩⟩,fun c4=>?_⟩⟩⟩⟩
 ·rintro v hs ⟨rfl,v0,v1,v2,s,e',⟨sub,h1,rfl⟩,ht,rfl⟩;exact⟨v0,v1,v2,_,_,rfl,rfl,v0,v1,v2,_,e',⟨rfl,{q0 with sub:=sub},ia h1 cr,by rw [tick,if_pos ⟨.inl (by omega),by omega⟩]<;>rfl⟩,ht,nI⟩
 ·rintro v hs ⟨rfl,v0,v1,v2,s,e',⟨sub,h1,rfl⟩,ht,rfl⟩;exact⟨v0,v1,v2,_,_,rfl,rfl,v0,v1,v2,_,e',⟨rfl,{q0 with sub:=sub},ia h1 cr,by rw [tick,if_pos ⟨.inr (by omega),by omega⟩]<;>rfl⟩,ht,nI⟩
 ·rintro v hs ⟨rfl,v0,v1,v2,s,e',⟨sub,h1,rfl⟩,ht,rfl⟩;exact⟨v0,v1,v2,_,_,rfl,rfl,v0,v1,v2,_,e',⟨rfl,{q0 with sub:=sub},ia h1 cr,by rw [tick,if_neg (by omega),if_pos ⟨by omega,by omega⟩]<;>rfl⟩,ht,nI⟩
 ·rintro v hs ⟨rfl,v0,v1,v2,s,e',⟨sub,h1,rfl⟩,ht,rfl⟩;exact⟨v0,v1,v2,_,_,rfl,rfl,v0,v1,v2,_,e',⟨rfl,{q0 with sub:=sub},ia h1 cr,by rw [tick,if_neg (by omega),if_neg (by omega),if_pos ⟨by omega,by omega⟩]<;>rfl⟩,ht,nI⟩
 ·rintro v hs ⟨rfl,v0,v1,v2,rfl⟩;have d4:m.ph=4:=by omega
  refine⟨v0,v1,v2,_,rfl,rfl,v0,v1,v2,⟨{m with bO:=now},[⟨3,m.c,i,m.peer,zK,0⟩],[],[]⟩,[],⟨rfl,q0,gU,by rw [tick,if_neg (by omega),if_neg (by omega),if_neg (by omega),if_pos ⟨by omega,by omega⟩]⟩,dZ,?_⟩;refine aB.trans (gW (b:=[cD b1 {x with bO:=(now:Int),bA:=ae .u32 (x.bA+1)},Mm.bJ x.dead 256,eX v0 v1 v2 i now [⟨3,m.c,i,m.peer,zK,0⟩] [] []]) [0,1,5] (by decide) (by rw [←hc.c,←hc.peer];rfl)) (PQ (vL (x:={x with bO:=(now:Int),bA:=ae .u32 (x.bA+1)}) (m:={m with bO:=now}) ⟨hx.a,hx.d,hx.wv,hx.NI,hx.st,fun _=>⟨hc.c,hc.out,hc.pa,hc.pd,hc.peer,hc.own,hc.off,hc.dM,hc.aP,hc.since,hc.heard,rfl,hc.bF,hc.ac⟩⟩ (by simp only;omega)))
 ·exact⟨cC,cC,cC,gG m,[],⟨rfl,q0,gU,by rw [tick,if_neg (by omega),if_neg (by omega),if_neg (by omega),if_neg (by omega)]⟩,dZ,fu hx⟩
 ·exact⟨cC,cC,cC,gG m,[],⟨rfl,q0,gU,by rw [tick,if_neg (by omega),if_neg (by omega),if_neg (by omega),if_neg (by omega)]⟩,dZ,fu hx⟩
theorem Jm(b1 i now:Nat)(hi:i<4)(m:Mc LI)(hk:KM m):au agQ 56 [.pointer (some ⟨b1,0,none⟩),.int .u64 (now:Int)] [cJ b1 i m] (yz (fun v s rv=>(∃k:Int,rv= .tuple #[v,.int .i64 k])∧∃q:Or,q.Ok i∧s=ng zK i m q) b1 i now):=by
 refine qf fun x hx=>sB ?_
 have BW:=fun(b:Nat) (h0:m.ph≠0) (why oc:Int) (hoc:0≤oc)=>jF (vO (b:=b) (b1:=b1) (now:=now) (zu hi hx hk) h0 why oc hoc)
 have lG:x.st=(m.ph:Int):=hx.st;have b0:Nat:=0;refine SL _ x.a x.d x.st x.out x.ac x.pa x.pd x.lO x.early x.aP x.bF x.since x.heard x.bO x.bA 0 0 0 0 0 0 0 (now:Int) 0 0 0 0 0 0 0 0 0 0 0 0 0 0 0 0 0 x.dv x.id x.own x.off x.dM (fun _=>0) (fun _=>0) (fun _=>0) (fun _=>0) (fun _=>0) b0 b1 x.dead (Mm.bJ x.dead 256) (fC i m x) (fC i m x) ?_;unfold KK;intro b3 b4;refine⟨fun c=>?_,fun c1=>⟨fun c=>?_,fun c2=>⟨fun c=>⟨_,BW b4 (by omega) 1 1 (by decide),?_⟩,fun c=>⟨_,BW b4 (by omega) 1 7 (by decide),?_⟩⟩⟩⟩
 ·exact⟨cC,cC,cC,gG m,[],⟨⟨_,rfl⟩,q0,gU,by rw [ng,if_pos (.inl (by omega))]⟩,dZ,fu hx⟩
 ·exact⟨cC,cC,cC,gG m,[],⟨⟨_,rfl⟩,q0,gU,by rw [ng,if_pos (.inr (by omega))]⟩,dZ,fu hx⟩
 all_goals
  rintro v hs ⟨rfl,v0,v1,v2,s,e',⟨sub,h1,rfl⟩,ht,rfl⟩;exact⟨v0,v1,v2,_,_,rfl,rfl,v0,v1,v2,_,e',⟨⟨_,rfl⟩,{q0 with sub:=sub},ia h1 cr,by rw [ng,if_neg (by omega)];first | (rw [if_pos (by omega)];rfl) | (rw [if_neg (by omega)];rfl)⟩,ht,nI⟩
theorem CD(b1 i now:Nat)(_:i<4)(m:Mc LI)(_:KM m):au agQ 55 [.pointer (some ⟨b1,0,none⟩),.int .u64 (now:Int)] [cJ b1 i m] (yz (fun v s rv=>(∃k:Int,rv= .tuple #[v,.int .i64 k])∧s=dW zK i m) b1 i now):=by
 refine qf fun x hx=>sB ?_
 have lG:x.st=(m.ph:Int):=hx.st;have b0:Nat:=0;refine I3 _ x.a x.d x.st x.out x.ac x.pa x.pd x.lO x.early x.aP x.bF x.since x.heard x.bO x.bA 0 0 0 0 0 0 0 (now:Int) 0 0 0 0 0 0 0 0 0 0 0 0 0 0 0 0 0 x.dv x.id x.own x.off x.dM (fun _=>0) (fun _=>0) (fun _=>0) (fun _=>0) (fun _=>0) b0 b1 x.dead (Mm.bJ x.dead 256) (fC i m x) (fC i m x) ?_;unfold AZ;intro b3 b4;refine⟨fun c=>?_,fun c=>fun b5=>?_⟩
 ·exact⟨cC,cC,cC,gG m,[],⟨⟨_,rfl⟩,by rw [dW,if_neg (by omega)]⟩,dZ,fu hx⟩
 have c2:m.ph=2:=by omega
 have hc:=hx.call (by omega);refine⟨_,nw (cA b4 i now [] [] [] (by simp) x.pa x.pd 5 0 0 0 0 2 x.id (fun _=>0) hc.pa hc.pd (by decide)) (rF []),?_⟩;rintro v hs ⟨rfl,v0,v1,v2,rfl⟩;refine⟨v0,v1,v2,_,rfl,rfl,_,nw (jD b4 b1 i now x _ [] [] (by simp) (by simp) 4 (hx.ba (by omega)) (by decide) (hx.me (by omega))) (zt _),?_⟩;rintro v hs ⟨rfl,v3,v4,v5,rfl⟩;refine⟨v3,v4,v5,_,rfl,rfl,v3,v4,v5,⟨{m with ph:=0},[⟨5,m.c,i,m.peer,zK,2⟩],[lP zK m 4],[uq m 4]⟩,[lP zK m 4],⟨⟨_,rfl⟩,by rw [dW,if_pos c2]⟩,⟨_,rfl,by simp,rfl⟩,?_⟩;have e3:=EX hx (by omega) 4;have e4:=EW hx (by omega) 4;exact aB.trans (gW (b:=[cD b1 {x with st:=0},Mm.bJ x.dead 256,eX v3 v4 v5 i now [⟨5,m.c,i,m.peer,zK,2⟩] [lP zK m 4] [uq m 4]]) [0,1,6] (by decide) (by rw [e3,e4,←hc.c,←hc.peer];rfl)) (PQ (vL hx.idle (by simp)))
theorem M4{b b1 i now:Nat}{m:Mc LI}{x:MR}{o:List (Mg LI)}{e:List (Ev LI)}{r:List Rc}{F:Nat→LI→LI→Nat→Nat→LI}{H:LI→LI}(hp:Pre i m x o e r)(hS:xq F H)(h2:m.ph=2)(A6:Nat→Int)(hA:yv (aN A6 0 32)):
  au agQ 97 [.pointer (some ⟨b1,0,none⟩),.pointer (some ⟨b,0,none⟩),.agg (agw (ak .u8 32 A6) ([])).toArray,.int .u64 (now:Int)] (aZ b i now o e r::ES b1 i m x) (Does (fun s=>s=answers zK F i m (aN A6 0 32) now) b b1 i now o e r):=by
 have hx:=hp.x;have hi:=hp.hi;have hc:=hx.call (by omega);refine Da.two (fun h=>?_) fun h=>absurd h (by omega)
 refine jh ((tq b b1 i now x o e r ⟨by have:=hp.b.1;omega,by have:=hp.b.2.1;omega,by have:=hp.b.2.2;omega⟩ hc.pa hc.pd (hx.me (by omega)) A6 _ (hS.nW x.id x.off A6 x.pa x.pd x.a x.d (PL (hc.c▸hp.k.c (by omega))) (hc.off▸hp.k.off (by omega)) hA hc.pa hc.pd (by have:=hx.a;omega) (by have:=hx.d;omega))).post fun rv hs ⟨h1,A,hA,h2⟩=>⟨hs,aB.refl _,h1,?_⟩);subst h2;have Up:fH x.a x.d=i:=by
  rw [hx.a,hx.d];simp only [fH];omega
 rw [Up,hc.c,hc.off,hc.peer]at hA;refine⟨_,_,rfl,⟨[_],rfl,(by simp),?_⟩,ej ⟨hx.a,hx.d,hx.wv,hx.NI,rfl,fun _=>⟨hc.c,hc.out,hc.pa,hc.pd,hc.peer,rfl,hc.off,hA,hc.aP,rfl,hc.heard,hc.bO,hc.bF,hc.ac⟩⟩ (by simp [answers]) (by simp [answers,hc.c,hc.peer]) (agL _).symm⟩;simp [answers,hc.c,hc.peer]
theorem gk(b1 i now:Nat)(hi:i<4)(m:Mc LI)(hk:KM m){F:Nat→LI→LI→Nat→Nat→LI}{H:LI→LI}(hS:xq F H)(A6:Nat→Int)(hA:yv (aN A6 0 32)):au agQ 54 [.pointer (some ⟨b1,0,none⟩),.agg (agw (ak .u8 32 A6) ([])).toArray,.int .u64 (now:Int)] [cJ b1 i m] (yz (fun v s rv=>(∃k:Int,rv= .tuple #[v,.int .i64 k])∧s=answer zK F i m (aN A6 0 32) now) b1 i now):=by
 refine qf fun x hx=>sB ?_
 have lG:x.st=(m.ph:Int):=hx.st;have b0:Nat:=0;refine ML _ x.a x.d x.st x.out x.ac x.pa x.pd x.lO x.early x.aP x.bF x.since x.heard x.bO x.bA 0 0 0 0 0 0 0 (now:Int) 0 0 0 0 0 0 0 0 0 0 0 0 0 0 0 0 0 x.dv x.id x.own x.off x.dM (fun _=>0) A6 (fun _=>0) (fun _=>0) (fun _=>0) b0 b1 x.dead (Mm.bJ x.dead 256) (fC i m x) (fC i m x) ?_;unfold pk;intro b3 b4 b5;refine⟨fun c=>?_,fun c=>⟨_,jF (M4 (zu hi hx hk) hS (by omega) A6 hA),?_⟩⟩
 ·exact⟨cC,cC,cC,gG m,[],⟨⟨_,rfl⟩,by rw [answer,if_neg (by omega)]⟩,dZ,fu hx⟩
 ·rintro v hs ⟨rfl,v0,v1,v2,s,e',rfl,ht,rfl⟩;exact⟨v0,v1,v2,_,_,rfl,rfl,v0,v1,v2,_,e',⟨⟨_,rfl⟩,by rw [answer,if_pos (by omega)]⟩,ht,nI⟩
end Go.RX.Dd

namespace Go.RX.De
open Go.RX Go.Proofs Go.Cp Go.RX.Cs Go.RX.Ct Go.RX.Cu Go.RX.Cv Go.RX.Cw Go.RX.Cx Go.RX.Cy Go.RX.Cz Go.RX.Da Go.RX.Db Go.RX.Dc Go.RX.Dd
set_option maxRecDepth 100000
theorem VW{b b1 i now:Nat}{m:Mc LI}{x:MR}{o:List (Mg LI)}{e:List (Ev LI)}{r:List Rc}{f0 f1:Int}(hp:Pre i m x o e r)(hf:W6 f0 f1)(h1:m.ph=1)(how:Int)(dq:Bool)(YS:how=3→dq=true):
  au agQ 90 [.pointer (some ⟨b1,0,none⟩),.pointer (some ⟨b,0,none⟩),.agg #[.int .u8 f0,.int .u8 f1],.int .u8 how,.int .u64 (now:Int)] (aZ b i now o e r::ES b1 i m x) (Does (PM i m dq) b b1 i now o e r):=
 Da.two (fun h=>absurd h1 h) fun h y hy=>Cz.yy b b1 i now hp.hi m x hp.x h y hy o e r hp.b f0 f1 hf.a hf.d how dq YS
theorem Jn(b1 i now:Nat)(hi:i<4)(m:Mc LI)(hk:KM m){F:Nat→LI→LI→Nat→Nat→LI}{H:LI→LI}(hS:xq F H){f0 f1 bM bH bL bX bZ bS:Int}{A5 A6:Nat→Int}{X:Mg LI}(hf:W6 f0 f1)(eJ:f0≠((i/2:Nat):Int))(hK:KS X)(hX:Bq X X.k f0 f1 A5 A6)(h23:bM=(X.k:Int))(hw:bS=2↔X.why=2):
  au agQ 51 [.pointer (some ⟨b1,0,none⟩),.agg #[.int .u8 f0,.int .u8 f1],sgV A5 A6 bM bH bL bX bZ bS,.int .u64 (now:Int)] [cJ b1 i m] (yz (fun v s rv=>rv=v∧rD F H i m X now s) b1 i now):=by
 refine qf fun x hx=>sB ?_
 have lG:x.st=(m.ph:Int):=hx.st;have hh:=vN hx hX.c;have hp:=zu hi hx hk;have b0:Nat:=0;have S5:=VV hi hf.a eJ;have sg: ∀k:Nat,X.k=k→Bq X k f0 f1 A5 A6:=fun k h=>⟨h,hX.c,hX.f,hX.key⟩
 refine SJ _ x.a x.d x.st x.out x.ac x.pa x.pd x.lO x.early x.aP x.bF x.since x.heard x.bO x.bA 0 0 0 0 0 f0 f1 (now:Int) bM bH bL bX bZ bS 0 0 0 0 0 0 0 0 0 0 0 x.dv x.id x.own x.off x.dM A5 A6 (fun _=>0) (fun _=>0) (fun _=>0) b0 b1 x.dead (Mm.bJ x.dead 256) (fC i m x) (fC i m x) ?_;unfold KH;intro b3 b4 b5 b6;refine⟨fun c=>absurd c (by rw [hx.a];exact eJ),fun _=>⟨fun c=>⟨_,jF (rE hp hf hS hK (sg 1 (by omega)) S5),?_⟩,fun c1=>⟨fun c=>⟨_,jF (gk hp hf hS hK (sg 2 (by omega))),?_⟩,fun c2=>⟨fun c=>⟨_,jF (uw hp hf hS (sg 3 (by omega))),?_⟩,fun c3=>⟨fun c4=>⟨fun c=>?_,fun c=>?_⟩,fun c4=>⟨fun c=>⟨_,jF (ux (F:=F) (H:=H) hp hf (sg 5 (by omega)) hw),?_⟩,fun c5=>⟨fun c6=>⟨fun c=>?_,fun c=>⟨fun d=>?_,fun d=>?_⟩⟩,fun c6=>?_⟩⟩⟩⟩⟩⟩⟩
 ·rintro v hs ⟨rfl,v0,v1,v2,s,e',hq,ht,rfl⟩;exact⟨v0,v1,v2,_,_,rfl,rfl,v0,v1,v2,s,e',⟨rfl,hq⟩,ht,nI⟩
 ·rintro v hs ⟨rfl,v0,v1,v2,s,e',hq,ht,rfl⟩;exact⟨v0,v1,v2,_,_,rfl,rfl,v0,v1,v2,s,e',⟨rfl,hq⟩,ht,nI⟩
 ·rintro v hs ⟨rfl,v0,v1,v2,s,e',hq,ht,rfl⟩;exact⟨v0,v1,v2,_,_,rfl,rfl,v0,v1,v2,s,e',⟨rfl,hq⟩,ht,nI⟩
 ·have d1:m.ph=1:=by omega
  have d2:m.has X.c:=hh.2 (by rintro (h | h);exact c.1.1 h;exact h c.1.2);have d3:X.k=4:=by omega
  refine⟨_,jF (VW hp hf d1 2 false fun h=>absurd h (by decide)),?_⟩;rintro v hs ⟨rfl,v0,v1,v2,s,e',rfl | ⟨sub,k,h1,rfl⟩,ht,rfl⟩
  ·exact⟨v0,v1,v2,_,_,rfl,rfl,v0,v1,v2,_,e',⟨rfl,q0,gU,by simp [take,d3]⟩,ht,nI⟩
  ·exact⟨v0,v1,v2,_,_,rfl,rfl,v0,v1,v2,_,e',⟨rfl,{q0 with over:=true,sub:=sub,oc:=k},ia h1 cr,by simp [take,d3,d2,d1]⟩,ht,nI⟩
 ·have d3:X.k=4:=by omega
  exact⟨cC,cC,cC,gG m,[],⟨rfl,q0,gU,by simp [take,d3]⟩,dZ,fu hx⟩
 ·rintro v hs ⟨rfl,v0,v1,v2,s,e',hq,ht,rfl⟩;exact⟨v0,v1,v2,_,_,rfl,rfl,v0,v1,v2,s,e',⟨rfl,hq⟩,ht,nI⟩
 ·have d3:X.k=6:=by omega
  have d2: ¬m.has X.c:=fun h=>c ⟨fun e=>hh.1 h (.inl e),Classical.byContradiction fun e=>hh.1 h (.inr e)⟩
  refine⟨_,Mm.n8 x.dead 256 A5 (by decide) (by decide),?_⟩;rintro v hs ⟨rfl,rfl⟩;exact⟨rfl,rfl,⟨cC,cC,cC,gG m,[],⟨rfl,q0,gU,by simp [take,d3,d2]⟩,dZ,fu hx⟩⟩
 ·have d3:X.k=6:=by omega
  have d2:m.has X.c:=hh.2 (by have c:=agN.1 c;rintro (h | h);exact c.1 h;exact h c.2);have hc:=hx.call d2.1;have d4:X.f=m.peer:=(nu hx d2.1 hf.a hf.d hX.f).2 d.1.1;have d5:m.out=false:=by rw [←hc.out,agN.1 d.1.2];rfl
  have d6:m.ph=2∨m.ph=3:=by omega
  refine⟨_,nw (jD b6 b1 i now x [] [] [] (by simp) (by simp) 2 (hx.ba (by omega)) (by decide) (hx.me (by omega))) (rF _),?_⟩;rintro v hs ⟨rfl,v0,v1,v2,rfl⟩;have e3:=EX hx (by omega) 2;have e4:=EW hx (by omega) 2;refine⟨v0,v1,v2,_,rfl,rfl,v0,v1,v2,ends zK m 2,[lP zK m 2],⟨rfl,q0,gU,by simp [take,d3,d2,d4,d5,d6]⟩,⟨_,rfl,by simp,rfl⟩,?_⟩;exact aB.trans (gW (b:=[cD b1 {x with st:=0},Mm.bJ x.dead 256,eX v0 v1 v2 i now [] [lP zK m 2] [uq m 2]]) [1,7,0] (by decide) (by rw [e3,e4];rfl)) (PQ (vL hx.idle (show¬(0:Nat)=1 by decide)))
 ·have d3:X.k=6:=by omega
  have hn: ¬(m.has X.c∧X.f=m.peer∧m.out=false∧(m.ph=2∨m.ph=3)):=fun⟨h1,h2,h3,h4⟩=>d ⟨⟨(nu hx h1.1 hf.a hf.d hX.f).1 h2,by rw [←(hx.call h1.1).out]at h3;simpa using h3⟩,by omega⟩
  exact⟨cC,cC,cC,gG m,[],⟨rfl,q0,gU,by rw [take,if_neg (by omega),if_neg (by omega),if_neg (by omega),if_neg (by omega),if_neg (by omega),if_pos d3,if_neg hn]⟩,dZ,fu hx⟩
 ·exact⟨cC,cC,cC,gG m,[],⟨rfl,q0,gU,by rw [take,if_neg (by omega),if_neg (by omega),if_neg (by omega),if_neg (by omega),if_neg (by omega),if_neg (by omega)]⟩,dZ,fu hx⟩
theorem PR(b9:Nat)(R:List HP):aB (ao b9 true [.slice none 0 0,.int .i64 4]::R) (Mm.pw b9 4::R):=
 aB.trans (aB.frame (aB.rA 30 2) _) (aB.trans (aB.frame (gW (a:=[aC true 30 2 (.slice none 0 0) 0 [],ao b9 true [.slice none 0 0,.int .i64 4]]) (b:=[ao b9 true [.slice none 0 0,.int .i64 4],aC true 30 2 (.slice none 0 0) 0 []]) [1,0] (by decide) rfl) R) (aB.frame (Mm.mT b9 4 ⟨cC,0,fun _=>0,fun _=>0,by decide,by decide⟩ []) R))
theorem Jo(b1 i now:Nat)(hi:i<4)(m:Mc LI)(_:KM m)(A5 A6:Nat→Int):au agQ 50 [.pointer (some ⟨b1,0,none⟩),.int .u8 (gQ i),.agg (agw (ak .u8 16 A5) ([])).toArray,.agg (agw (ak .u8 32 A6) ([])).toArray,.int .u64 (now:Int)] [cJ b1 i m]
  (yz (fun v s rv=> ∃k:Int,rv= .tuple #[v,.int .i64 k]∧(k≠0∧s=gG m∨k=0∧m.ph=0∧s=cG zK i (bD A5) (aN A6 0 32) now)) b1 i now):=by
 refine qf fun x hx=>sB ?_
 have lG:x.st=(m.ph:Int):=hx.st;have b0:Nat:=0;have ho:=rC (i:=i);refine SM _ x.a x.d x.st x.out x.ac x.pa x.pd x.lO x.early x.aP x.bF x.since x.heard x.bO x.bA 0 0 0 0 0 (gQ i) 0 (now:Int) 0 0 0 0 0 0 0 0 0 0 0 0 0 0 0 0 0 x.dv x.id x.own x.off x.dM A5 A6 (fun _=>0) (fun _=>0) (fun _=>0) b0 b1 x.dead (Mm.bJ x.dead 256) (fC i m x) (fC i m x) ?_;unfold KL;intro b3 b4 b5 b6;have hdv:x.dv (ag (gQ i))=2:=by
  have:gQ i=0∨gQ i=1:=by omega
  rcases this with h | h<;>rw [h]
  ·exact hx.wv
  ·exact hx.NI
 refine⟨fun c=>?_,fun c0=>⟨.inr (by omega),fun _=>⟨.inr (by omega),fun _=>⟨fun c1=>⟨_,Mm.uu x.dead 256 A5,?_⟩,fun c1=>?_⟩⟩⟩⟩
 ·exact⟨cC,cC,cC,gG m,[],⟨6,rfl,.inl ⟨by decide,rfl⟩⟩,dZ,fu hx⟩
 ·rintro v hs ⟨⟨q,rfl⟩,rfl⟩;refine⟨q,rfl,rfl,fun _=>⟨cC,cC,cC,gG m,[],⟨2,rfl,.inl ⟨by decide,rfl⟩⟩,dZ,fu hx⟩,fun _=>⟨ho.1,fun _=>⟨by omega,fun _=>?_⟩⟩⟩;rw [hdv];refine⟨by decide,fun _=>⟨by decide,fun _=>⟨_,Rg.gH (gQ i) 2 (by omega) (by decide) (by decide),?_⟩⟩⟩;rintro v hs ⟨b7,v0,bU,rfl,rfl,Z3⟩;refine⟨b7,v0,gQ i,bU,rfl,rfl,?_⟩;intro b8 b9;have ZP:=nw (b:=b6) (lS b6 b1 i now {a:=x.a,d:=x.d,dv:=x.dv,dead:=x.dead,st:=1,id:=A5,out:=1,ac:=gQ i,pa:=0,pd:=0,own:=A6,off:=fun _=>0,dM:=fun _=>0,lO:=(b7:Int)+1,early:=(b9:Int)+1,aP:=(now:Int),bF:=0,since:=(now:Int),heard:=0,bO:=0,bA:=0} [] [] [] (by simp) 1 0 0 0 0 0 0 0 0 (fun _=>0) (fun _=>0) (by decide) (by decide) (by decide) (by decide) ⟨hx.a,hx.d,rfl⟩) (rF _);simp only [cD,fK,show(!((1:Int)==0))=true from rfl]at ZP;refine⟨_,ZP,?_⟩;rintro v hs ⟨rfl,v1,v2,v3,rfl⟩;refine⟨v1,v2,v3,_,rfl,rfl,?_⟩;intro jI lV mr qC D14 l15 r14 BX;refine⟨_,nw (cA b6 i now [] _ [] (by simp) (gQ i) 0 1 x.a x.d (gQ i) 0 0 A5 A6 ho (by decide) (by decide)) (zt _),?_⟩;rintro v hs ⟨rfl,v4,v5,v6,rfl⟩;refine⟨v4,v5,v6,_,rfl,rfl,?_⟩;intro Rv;refine⟨_,nw (cA b6 i now _ _ [] (by simp) (gQ i) 1 1 x.a x.d (gQ i) 0 0 A5 A6 ho (by decide) (by decide)) (zt _),?_⟩;rintro v hs ⟨rfl,v7,v8,v9,rfl⟩;refine⟨v7,v8,v9,_,rfl,rfl,v7,v8,v9,cG zK i (bD A5) (aN A6 0 32) now,[⟨1,bD A5,0,zK,0⟩],⟨0,rfl,.inr ⟨rfl,by omega,rfl⟩⟩,⟨[⟨1,bD A5,0,zK,0⟩],rfl,by simp,rfl⟩,?_⟩
  ·have e1:(cG zK i (bD A5) (aN A6 0 32) now).o=([]++[⟨(1:Int).toNat,bG (aN A5 0 16),i,(2*gQ i+0).toNat,aN A6 0 32,0⟩])++[⟨(1:Int).toNat,bG (aN A5 0 16),i,(2*gQ i+1).toNat,aN A6 0 32,0⟩]:=by
    rw [show(2*gQ i+0).toNat=2*(1 - i/2) by unfold gQ;omega,show(2*gQ i+1).toNat=2*(1 - i/2)+1 by unfold gQ;omega];rfl
   rw [e1];refine aB.trans (gW (b:=[ao b9 true [.slice none 0 0,.int .i64 4],ao b7 true [.int .u8 (gQ i),v0.v,.int .i64 (-1)],aC true 5 1 v0.v 2 (aT 2 [ax .u8 1 bU]),Cz.S2 b1 {a:=x.a,d:=x.d,dv:=x.dv,dead:=x.dead,st:=1,id:=A5,out:=1,ac:=gQ i,pa:=0,pd:=0,own:=A6,off:=fun _=>0,dM:=fun _=>0,lO:=(b7:Int)+1,early:=(b9:Int)+1,aP:=(now:Int),bF:=0,since:=(now:Int),heard:=0,bO:=0,bA:=0} b7 b9,Mm.bJ x.dead 256,_]) [10,7,8,11,1,0] (by decide) rfl) (aB.trans (PR b9 _) ?_);have hm:=KT (b1:=b1) (i:=i) (m:=(cG zK i (bD A5) (aN A6 0 32) now).m) (x:={a:=x.a,d:=x.d,dv:=x.dv,dead:=x.dead,st:=1,id:=A5,out:=1,ac:=gQ i,pa:=0,pd:=0,own:=A6,off:=fun _=>0,dM:=fun _=>0,lO:=(b7:Int)+1,early:=(b9:Int)+1,aP:=(now:Int),bF:=0,since:=(now:Int),heard:=0,bO:=0,bA:=0}) ⟨hx.a,hx.d,hx.wv,hx.NI,rfl,fun _=>⟨rfl,rfl,⟨Int.le_refl 0,(show(0:Int)<2 by decide)⟩,⟨Int.le_refl 0,(show(0:Int)<2 by decide)⟩,rfl,rfl,rfl,rfl,rfl,rfl,rfl,rfl,rfl,rfl⟩⟩ rfl ⟨b7,b9,v0, -1,bU⟩ ⟨rfl,rfl,fun h=>absurd h (by have h0:=Z3 0 (by decide);have h1:=Z3 1 (by decide);simp only;omega)⟩;rw [Cz.G7 (b3:=b7) (b4:=b9) rfl rfl]at hm;exact aB.trans (aB.frame hm [_]) (gW (a:=[_,_]) (b:=[_,_]) [1,0] (by decide) rfl)
 ·exact⟨cC,cC,cC,gG m,[],⟨2,rfl,.inl ⟨by decide,rfl⟩⟩,dZ,fu hx⟩
end Go.RX.De
