/- The call machine. -/
import Derived.Test.YtphemenngjkfbaaM36
open Decidable renaming not_not → ad5
open Go.IntKind renaming wrap → ae
open Go.Proofs.Try renaming prog → adY
open Int renaming toNat → ag
open List renaming append → adH, append_nil → adW
namespace Go.RX.Da
open Go.RX Go.Proofs Go.Cp Go.RX.Cs Go.RX.Ct Go.RX.Cu Go.RX.Cv Go.RX.Cw Go.RX.Cx Go.RX.Cy Go.RX.Cz
set_option maxRecDepth 100000
variable {b b1 i now:Nat} {m:Mc LI} {x:MR} {o:List (Mg LI)} {e:List (Ev LI)} {r:List (Nat×Nat)}
theorem two{f:Nat}{args:List Value}{ao:Value→List HP→Prop}(hN:m.ph≠1→aq adY f args [aY b i now o e r,cn b1 x,Mm.bB x.dead 256] ao)
  (hD:m.ph=1→∀y:DX,x.h_=(y.b3:Int)+1∧x.early=(y.b4:Int)+1→aq adY f args ([aY b i now o e r,cn b1 x,Mm.bB x.dead 256]++jF i y) ao):
  aq adY f args (aY b i now o e r::B_ b1 i m x) ao:=by
 by_cases h:m.ph=1
 ·exact aq.pre (KN (pre:=[aY b i now o e r,cn b1 x,Mm.bB x.dead 256]) h fun y hy=>aq.pre (hD h y hy) (iX [3,4,5,0,1,2] (by decide) rfl)) (iX [3,0,1,2] (by decide) rfl)
 ·exact aq.pre (hN h) (aD.sub (by simp))
theorem tU(hx:Is i m x){A5:Nat→Int}{X:Mg LI}(hc:X.c=a_ A5):m.has X.c↔¬(x.st=0∨¬lW x A5):=by
 have h0:x.st=0↔m.ph=0:=hx.Ha;unfold Mc.has;by_cases h:m.ph=0
 ·simp [h,h0.2 h]
 ·have:=n8 hx h A5;rw [hc,←this];simp [h,mt h0.1 h]
theorem lX(hx:Is i m x)(h:m.ph≠0){f0 f1:Int}(sH:0≤f0∧f0<2)(sZ:0≤f1∧f1<2){X:Mg LI}(hf:X.f=eh f0 f1):X.f=m.peer↔f0=x.pa∧f1=x.pd:=by
 rw [hf,←(hx.call h).peer];exact Tn sH sZ (hx.call h).pa (hx.call h).pd
theorem EW(hx:Is i m x)(h:m.ph≠1):x.st≠1:=fun e=>h (hx.Ha.1 e)
theorem Y3(hx:Is i m x):x.st≠0→0≤x.pa∧x.pa<2:=fun h=>(hx.call fun e=>h (by rw [hx.st,e];rfl)).pa
theorem Y4(hx:Is i m x):x.st≠0→0≤x.pd∧x.pd<2:=fun h=>(hx.call fun e=>h (by rw [hx.st,e];rfl)).pd
theorem dE:Tl e e []:=⟨[],(adW _).symm,Nat.zero_le _,rfl⟩
abbrev q0:Or:=⟨false,false,false,false,false,false,[],[]⟩
theorem gp:q0.Ok i:=gF bZ bZ
abbrev sgV(A5 A6:Nat→Int)(bF bA bG bO bQ bN:Int):Value:= .agg (.int .u8 bF::(adH (al .u8 16 A5) (.int .u8 bA::(.int .u8 bG::(.int .u8 bO::(adH (al .u8 32 A6) ([.int .u32 bQ,.slice none 0 0,.int .u8 bN]))))))).toArray
abbrev IT(b b1 now:Nat)(f0 f1:Int)(A5 A6:Nat→Int)(bF bA bG bO bQ bN:Int):List Value:=[.pointer (some ⟨b1,0,none⟩),.pointer (some ⟨b,0,none⟩),.agg #[.int .u8 f0,.int .u8 f1],sgV A5 A6 bF bA bG bO bQ bN,.int .u64 (now:Int)]
structure RA (i:Nat) (m:Mc LI) (x:MR) (o:List (Mg LI)) (e:List (Ev LI)) (r:List (Nat×Nat)):Prop where
 hi:i<4
 x:Is i m x
 b:o.length≤800∧e.length≤800∧r.length≤800
 k:KM m
structure Uj (f0 f1:Int):Prop where
 a:0≤f0∧f0<2
 d:0≤f1∧f1<2
structure u6 (F:Nat→LI→LI→Nat→Nat→LI) (H:LI→LI):Prop where
 mQ:xD F
 sum:IS H
 ok: ∀c k k' a d,wa (F c k k' a d)
variable {F:Nat→LI→LI→Nat→Nat→LI} {H:LI→LI}
theorem tV(hp:RA i m x o e r)(h0:m.ph≠0)(EK oc:Int):
  aq adY 95 [.pointer (some ⟨b1,0,none⟩),.pointer (some ⟨b,0,none⟩),.int .u8 EK,.int .u8 oc,.int .u64 (now:Int)] (aY b i now o e r::B_ b1 i m x) (tS (fun s=> ∃sub,zf i sub∧s=leaves zK i m sub) b b1 i now o e r):=by
 have hx:=hp.x;have hc:=hx.call h0;refine two (fun h=>?_) fun h y hy=>?_
 ·refine iB ((Aw b b1 i now x o e r ⟨by have:=hp.b.1;omega,by have:=hp.b.2.1;omega,by have:=hp.b.2.2;omega⟩ hc.pa hc.pd (EW hx h) (hc.aK▸Int.natCast_nonneg _) EK oc).post fun rv hs ⟨h1,h2⟩=>⟨hs,aD.refl _,h1,?_⟩);subst h2;exact⟨leaves zK i m [],_,⟨[],bZ,rfl⟩,⟨[_],rfl,(by simp),rfl⟩,dJ hx.idle (by simp [leaves]) (by simp [leaves,h,hc.c,hc.peer]) (congrArg (r++ ·) (tT hx h0 []))⟩
 ·refine iB ((ny b b1 i now x o e r ⟨by have:=hp.b.1;omega,by have:=hp.b.2.1;omega,by have:=hp.b.2.2;omega⟩ y.b3 y.b4 y.v0 (k9 i) y.cQ y.A9 (Mm.nZ y.b4 4) sI (hx.Ha.2 h) hy.1 hy.2 (hc.aK▸Int.natCast_nonneg _) EK oc).post fun rv hs ⟨h1,o',sub,h2,h3,h4,h5⟩=>⟨hs,aD.refl _,h1,?_⟩);subst h5 h2;exact⟨leaves zK i m sub,_,⟨sub,⟨qW hp.hi h3,h4⟩,rfl⟩,⟨[_],rfl,(by simp),rfl⟩,dJ hx.idle (by simp [leaves]) (congrArg (o++ ·) (zh hx h sub)) (congrArg (r++ ·) (tT hx h0 sub))⟩
section
variable {f0 f1 bF bA bG bO bQ bN:Int} {A5 A6:Nat→Int} {X:Mg LI}
theorem sJ(hp:RA i m x o e r)(hf:Uj f0 f1)(hS:u6 F H)(hX:zi X 3 f0 f1 A5 A6):aq adY 89 (IT b b1 now f0 f1 A5 A6 bF bA bG bO bQ bN) (aY b i now o e r::B_ b1 i m x) (tS (ql F H i m X now) b b1 i now o e r):=by
 have hx:=hp.x;have hh:=tU hx hX.c;refine two (fun h=>?_) fun h y hy=>Cz.sJ b b1 i now hp.hi m x hx h y hy o e r hp.b f0 f1 hf.a hf.d bF bA bG bO bQ bN A5 A6 F H X hX
 refine iB ((EM b b1 i now x o e r ⟨by have:=hp.b.1;omega,by have:=hp.b.2.1;omega,by have:=hp.b.2.2;omega⟩ (Y3 hx) (Y4 hx) (EW hx h) (H (aJ x.dg 0 32)) (fun h3=>hS.sum b1 _ ?_) f0 f1 bF bA bG bO bQ bN A5 A6 hf.a hf.d).post fun rv hs ⟨h1,o',e',m',hc,h2⟩=>⟨hs,aD.refl _,h1,?_⟩)
 ·have:=hx.Ha.1 (show x.st=((3:Nat):Int)from h3);simp only;rw [(hx.call (by omega)).dg];exact hp.k.dg (by omega)
 subst h2;rcases hc with⟨c1,rfl,rfl,rfl⟩ | ⟨c1,⟨c2,rfl,rfl,rfl⟩ | ⟨c2,hc⟩⟩
 ·exact⟨⟨m,[⟨5,X.c,i,X.f,zK⟩],[],[]⟩,_,⟨q0,gp,by simp [take,hX.k,(show¬m.has X.c from fun h=>hh.1 h c1)]⟩,dE,dJ hx h (by rw [hX.c,hX.f]) (adW _).symm⟩
 ·have c3:=hh.2 c1;have c4:=mt (lX hx c3.1 hf.a hf.d hX.f).1 c2;exact⟨gY m,_,⟨q0,gp,by simp [take,hX.k,c3,c4]⟩,dE,dJ hx h (adW _).symm (adW _).symm⟩
 ·have c3:=hh.2 c1;have c4:=(lX hx c3.1 hf.a hf.d hX.f).2 c2;have hi:=hx.call c3.1;rcases hc with⟨c5,rfl,rfl,rfl⟩ | ⟨c5,rfl,rfl,rfl⟩ | ⟨c5,c6,rfl,rfl,rfl⟩
  ·have c6:m.ph=3:=hx.Ha.1 c5;refine⟨⟨(dX H m now).1,[],[(dX H m now).2],[]⟩,_,⟨q0,gp,by simp [take,hX.k,c3,c4,c6]⟩,⟨[_],rfl,(by simp),?_⟩,dJ ⟨hx.a,hx.d,hx.Nu,hx.Nv,rfl,fun _=>⟨hi.c,hi.out,hi.pa,hi.pd,hi.peer,hi.own,hi.off,hi.dg,hi.aK,rfl,rfl,rfl⟩⟩ (by simp [dX]) (adW _).symm (adW _).symm⟩;simp [told,dX,hi.c,hi.peer,hi.dg]
  ·have c6:m.ph=4:=hx.Ha.1 c5;exact⟨⟨{m with heard:=now},[],[],[]⟩,_,⟨q0,gp,by simp [take,hX.k,c3,c4,c6]⟩,dE,dJ ⟨hx.a,hx.d,hx.Nu,hx.Nv,hx.st,fun _=>⟨hi.c,hi.out,hi.pa,hi.pd,hi.peer,hi.own,hi.off,hi.dg,hi.aK,hi.since,rfl,hi.bD⟩⟩ h (adW _).symm (adW _).symm⟩
  ·have d3:m.ph≠3:=fun e=>c5 (hx.Ha.2 e)
   have d4:m.ph≠4:=fun e=>c6 (hx.Ha.2 e)
   exact⟨gY m,_,⟨q0,gp,by simp [take,hX.k,c3,c4,d3,d4]⟩,dE,dJ hx h (adW _).symm (adW _).symm⟩
theorem fL(hp:RA i m x o e r)(hf:Uj f0 f1)(hS:u6 F H)(hK:KS X)(hX:zi X 2 f0 f1 A5 A6):aq adY 88 (IT b b1 now f0 f1 A5 A6 bF bA bG bO bQ bN) (aY b i now o e r::B_ b1 i m x) (tS (ql F H i m X now) b b1 i now o e r):=by
 have hx:=hp.x;have hh:=tU hx hX.c;refine two (fun h=>?_) fun h y hy=>Cz.fL b b1 i now hp.hi m x hx h y hy o e r hp.b f0 f1 hf.a hf.d bF bA bG bO bQ bN A5 A6 F H X hX hS.mQ hS.ok hS.sum hp.k hK
 refine iB ((G9 b b1 i now x o e r ⟨by have:=hp.b.1;omega,by have:=hp.b.2.1;omega,by have:=hp.b.2.2;omega⟩ (EW hx h) f0 f1 bF bA bG bO bQ bN A5 A6 hf.a hf.d).post fun rv hs ⟨h1,o',e',m',hc,h2⟩=>⟨hs,aD.refl _,h1,?_⟩);subst h2;rcases hc with⟨c1,rfl,rfl,rfl⟩ | ⟨c1,hc⟩
 ·exact⟨⟨m,[⟨5,X.c,i,X.f,zK⟩],[],[]⟩,_,⟨q0,gp,by simp [take,hX.k,(show¬m.has X.c from fun h=>hh.1 h c1)]⟩,dE,dJ hx h (by rw [hX.c,hX.f]) (adW _).symm⟩
 have c3:=hh.2 c1;have hi:=hx.call c3.1;have c5:x.out≠0↔m.out=true:=by rw [←hi.out];simp
 have c6:=lX hx c3.1 hf.a hf.d hX.f;rcases hc with⟨c2,rfl,rfl,rfl⟩ | ⟨c2,rfl,rfl,rfl⟩
 ·exact⟨⟨m,[⟨6,X.c,i,X.f,zK⟩],[],[]⟩,_,⟨q0,gp,by simp [take,hX.k,c3,h,c5.1 c2.1,mt c6.1 c2.2]⟩,dE,dJ hx h (by rw [hX.f,←c3.2,←hi.c]) (adW _).symm⟩
 ·have c7: ¬(m.ph≠1∧m.out=true∧X.f≠m.peer):=fun hn=>c2 ⟨c5.2 hn.2.1,mt c6.2 hn.2.2⟩
  exact⟨gY m,_,⟨q0,gp,by rw [take,if_neg (by rw [hX.k];decide),if_pos hX.k,if_neg (not_not_intro c3),if_neg (fun hn=>h hn.1),if_neg c7]⟩,dE,dJ hx h (adW _).symm (adW _).symm⟩
theorem qm(hp:RA i m x o e r)(hf:Uj f0 f1)(hS:u6 F H)(hK:KS X)(hX:zi X 1 f0 f1 A5 A6):aq adY 87 (IT b b1 now f0 f1 A5 A6 bF bA bG bO bQ bN) (aY b i now o e r::B_ b1 i m x) (tS (ql F H i m X now) b b1 i now o e r):=by
 have hx:=hp.x;have hh:=tU hx hX.c;refine two (fun h=>?_) fun h y hy=>Cz.qm b b1 i now hp.hi m x hx h y hy o e r hp.b f0 f1 hf.a hf.d bF bA bG bO bQ bN A5 A6 F H X hX hS.mQ hp.k hK
 refine iB ((G_ b b1 i now x o e r ⟨by have:=hp.b.1;omega,by have:=hp.b.2.1;omega,by have:=hp.b.2.2;omega⟩ (EW hx h) f0 f1 bF bA bG bO bQ bN A5 A6 hf.a hf.d).post fun rv hs ⟨h1,o',e',m',hc,h2⟩=>⟨hs,aD.refl _,h1,?_⟩);subst h2;rcases hc with⟨rfl,rfl,rfl⟩ | ⟨c1,rfl,rfl,rfl⟩ | ⟨c1,c2,rfl,rfl,rfl⟩
 ·exact⟨gY m,_,⟨{q0 with has:=true},gF bZ bZ,by simp [take,hX.k]⟩,dE,dJ hx h (adW _).symm (adW _).symm⟩
 ·have c3:m.ph=0:=hx.Ha.1 c1;refine⟨⟨rings zK X now,[],[],[]⟩,_,⟨q0,gp,by simp [take,hX.k,c3]⟩,⟨[_],rfl,(by simp),rfl⟩,dJ ⟨hx.a,hx.d,hx.Nu,hx.Nv,rfl,fun _=>⟨hX.c.symm,rfl,hf.a,hf.d,hX.f.symm,rfl,hX.key.symm,rfl,rfl,rfl,rfl,rfl⟩⟩ (by simp [rings]) (adW _).symm (adW _).symm⟩
 ·have c3:m.ph≠0:=fun e=>c1 (hx.Ha.2 e)
  have c4: ¬m.c=X.c:=fun e=>c2 ((n8 hx c3 A5).2 (by rw [e,hX.c]))
  exact⟨⟨m,[⟨4,X.c,i,X.f,zK⟩],[],[]⟩,_,⟨q0,gp,by simp [take,hX.k,c3,c4]⟩,dE,dJ hx h (by rw [hX.c,hX.f]) (adW _).symm⟩
theorem sK(hp:RA i m x o e r)(hf:Uj f0 f1)(hX:zi X 5 f0 f1 A5 A6):aq adY 91 (IT b b1 now f0 f1 A5 A6 bF bA bG bO bQ bN) (aY b i now o e r::B_ b1 i m x) (tS (ql F H i m X now) b b1 i now o e r):=by
 have hx:=hp.x;have hh:=tU hx hX.c;refine two (fun h=>?_) fun h y hy=>Cz.sK b b1 i now hp.hi m x hx h y hy o e r hp.b f0 f1 hf.a hf.d bF bA bG bO bQ bN A5 A6 F H X hX
 refine iB ((EN b b1 i now x o e r ⟨by have:=hp.b.1;omega,by have:=hp.b.2.1;omega,by have:=hp.b.2.2;omega⟩ (EW hx h) (fun h0=>(hx.call fun e=>h0 (by rw [hx.st,e];rfl)).aK▸Int.natCast_nonneg _) f0 f1 bF bA bG bO bQ bN A5 A6).post fun rv hs ⟨h1,o',e',m',hc,h2⟩=>⟨hs,aD.refl _,h1,?_⟩);subst h2;rcases hc with⟨c1,rfl,rfl,rfl⟩ | ⟨c1,c2,rfl,rfl,rfl⟩
 ·refine⟨gY m,_,⟨q0,gp,?_⟩,dE,dJ hx h (adW _).symm (adW _).symm⟩;by_cases c3:m.has X.c
  ·have c4: ¬X.f=m.peer:=fun e=>(not_or.1 (hh.1 c3)).2 (c1.resolve_left (not_or.1 (hh.1 c3)).1 |>.resolve_right fun hn=>hn ((lX hx c3.1 hf.a hf.d hX.f).1 e))
   simp [take,hX.k,c3,h,c4]
  ·simp [take,hX.k,c3]
 ·have c3:=hh.2 c1;have c4:=(lX hx c3.1 hf.a hf.d hX.f).2 c2;have hi:=hx.call c3.1;exact⟨ends m,_,⟨q0,gp,by simp [take,hX.k,c3,h,c4]⟩,⟨[_],rfl,(by simp),rfl⟩,dJ hx.idle (by simp [ends]) (adW _).symm (by rw [hi.c,hi.aK];rfl)⟩
end
end Go.RX.Da

namespace Go.RX
theorem bd.zj{α:Type}{F:α→HP}{R:List HP}{w:World}(h:bd (HP.ex F::R) w): ∃a,bd (F a::R) w:=by
 obtain⟨S,hS⟩:=h;obtain⟨⟨a,ha⟩,hb⟩:=hS.at_ 0 (HP.ex F) rfl;refine⟨a,S,⟨fun i x hx=>?_,fun i j x y fc hx hy hw=>?_⟩⟩
 ·match i,hx with
  | 0,hx=>simp at hx;subst hx;exact⟨ha,hb⟩
  | i+1,hx=>exact hS.at_ (i+1) x (by simpa using hx)
 ·match i,j,fc,hx,hy with
  | 0,0,fc,_,_=>exact absurd rfl fc
  | 0,j+1,_,_,hy=>exact hS.apart 0 (j+1) (HP.ex F) y (by omega) rfl (by simpa using hy) (.inl rfl)
  | i+1,0,_,hx,_=>exact hS.apart (i+1) 0 x (HP.ex F) (by omega) (by simpa using hx) rfl (.inr rfl)
  | i+1,j+1,fc,hx,hy=>exact hS.apart (i+1) (j+1) x y fc (by simpa using hx) (by simpa using hy) hw
theorem aD.zj{α:Type}{F:α→HP}{R T:List HP}(h: ∀a,aD (F a::R) T):aD (HP.ex F::R) T:=fun w Fs o=>by
 obtain⟨a,ha⟩:=bd.zj (R:=R++Fs) o;exact h a w Fs ha
theorem aq.zj{α:Type}{F:α→HP}{P:Program}{f:Nat}{args:List Value}{pre:List HP}{Q:Value→List HP→Prop}(h:aq P f args pre fun v hs=> ∃R,hs=HP.ex F::R∧Q v R):
  aq P f args pre fun v hs=> ∃a R,hs=F a::R∧Q v R:=by
 intro w Fs o;refine(h w Fs o).mono ?_;rintro e w' ⟨v,hs,he,⟨R,rfl,hq⟩,ho,gN⟩;obtain⟨a,ha⟩:=bd.zj (R:=R++Fs) ho;exact⟨v,_,he,⟨a,R,rfl,hq⟩,ha,gN⟩
theorem aD.EX(t s:Nat):aD [] [aB true t s (.slice none 0 0) 0 []]:=by
 intro w Fs ⟨S,hS⟩;refine⟨fun i=>match i with | 0=>fun _=>False | i+1=>S i,⟨?_,?_⟩⟩
 ·intro i x hx
  match i,hx with
  | 0,hx=>
   simp at hx;subst hx;exact⟨⟨by simp only [if_true];exact lG w t s,fun k=>⟨False.elim,fun h=>by simp [Value.ownBlock]at h⟩⟩,fun k h=>h.elim⟩
  | i+1,hx=>exact hS.at_ i x (by simpa using hx)
 ·intro i j x y fc hx hy hw k
  match i,j,fc,hx,hy with
  | 0,_,_,_,_=>exact fun h=>h.elim
  | i+1,0,_,_,_=>exact fun _ h=>h
  | i+1,j+1,fc,hx,hy=>exact hS.apart i j x y (by omega) (by simpa using hx) (by simpa using hy) hw k
end Go.RX
namespace Go.RX.Dc
open Go.RX Go.Proofs Go.Cp Go.RX.Cs Go.RX.Ct Go.RX.Cu Go.RX.Cy Go.RX.Cz Go.RX.Da
abbrev cg:V1:=⟨.slice none 0 0,rfl⟩
abbrev mV(b:Nat)(v0 v1 v2:V1):HP:=ak b true [v0.v,v1.v,v2.v]
variable {b b1 i now:Nat} {o:List (Mg LI)} {e:List (Ev LI)} {r:List (Nat×Nat)} {v0 v1 v2:V1}
abbrev iu(x:LJ i now o e r):List HP:=[nY x.v0 o.length x.Ao,u0 x.v1 e.length x.Ae,u3 x.v2 r.length x.Ar]
def eB(v0 v1 v2:V1)(i now:Nat)(o:List (Mg LI))(e:List (Ev LI))(r:List (Nat×Nat)):HP:=HP.ex fun x:{x:LJ i now o e r // x.v0=v0∧x.v1=v1∧x.v2=v2}=>HP.star (iu x.1)
theorem NH(x:LJ i now o e r): ∀h∈iu x,h.wr=true:=by
 intro h hh;simp only [iu,List.mem_cons,List.not_mem_nil,or_false]at hh;rcases hh with rfl | rfl | rfl<;>rfl
theorem Bl(x:LJ i now o e r):aD (iu x) [eB x.v0 x.v1 x.v2 i now o e r]:=
 aD.trans (aD.star (NH x)) (aD.ex (F:=fun y:{y:LJ i now o e r // y.v0=x.v0∧y.v1=x.v1∧y.v2=x.v2}=>HP.star (iu y.1)) ⟨x,rfl,rfl,rfl⟩ rfl)
theorem xE(R:List HP):aD (mV b v0 v1 v2::eB v0 v1 v2 i now o e r::R) (aY b i now o e r::R):=by
 refine aD.trans (aD.frame (iX (a:=[mV b v0 v1 v2,eB v0 v1 v2 i now o e r]) (b:=[eB v0 v1 v2 i now o e r,mV b v0 v1 v2]) [1,0] (by decide) rfl) R) ?_;refine aD.zj fun x=>?_
 obtain⟨x,rfl,rfl,rfl⟩:=x;exact aD.trans (aD.frame (aD.jl (iu x)) (mV b x.v0 x.v1 x.v2::R)) (aD.trans (aD.frame (iX (a:=iu x++[mV b x.v0 x.v1 x.v2]) (b:=KF b x) [3,0,1,2] (by decide) rfl) R) (aD.frame (qU b x) R))
def Y5:LJ i now [] [] []:=⟨cg,cg,cg,fun _ _=>0,fun _ _=>0,fun _ _=>0,rfl,(fun _ h=>by simp at h),rfl,(fun _ h=>by simp at h),rfl,fun _ h=>by simp at h⟩
theorem tW:aD [] [eB cg cg cg i now [] [] []]:=by
 refine aD.trans ?_ (Bl (i:=i) (now:=now) Y5);exact aD.trans (aD.EX 85 22) (aD.trans (aD.frame (aD.EX 76 56) [_]) (aD.frame (aD.EX 111 57) [_,_]))
theorem qn(R:List HP):aD (ak b true [.slice none 0 0,.slice none 0 0,.slice none 0 0]::R) (aY b i now [] [] []::R):=
 aD.trans (aD.trans (aD.frame (tW (i:=i) (now:=now)) _) (aD.frame (iX (a:=[eB cg cg cg i now [] [] [],mV b cg cg cg]) (b:=[mV b cg cg cg,eB cg cg cg i now [] [] []]) [1,0] (by decide) rfl) R)) (xE R)
theorem zk{f:Nat}{args:List Value}{pre:List HP}{Q:Value→List (Mg LI)→List (Ev LI)→List (Nat×Nat)→List HP→Prop}(h:aq adY f args pre fun rv hs=> ∃o e r R,hs=aY b i now o e r::R∧Q rv o e r R):
  aq adY f args pre fun rv hs=> ∃v0 v1 v2 o e r R,hs=mV b v0 v1 v2::eB v0 v1 v2 i now o e r::R∧Q rv o e r R:=by
 intro w Fs own;refine(h w Fs own).mono ?_;rintro en w' ⟨v,hs,he,⟨o,e,r,R,rfl,hq⟩,ho,gN⟩;obtain⟨x,hx⟩:=bd.zj (R:=R++Fs) ho;have h1:bd (mV b x.v0 x.v1 x.v2::eB x.v0 x.v1 x.v2 i now o e r::(R++Fs)) w':=
  aD.trans (aD.jl (KF b x)) (aD.trans (iX (a:=KF b x) (b:=iu x++[mV b x.v0 x.v1 x.v2]) [1,2,3,0] (by decide) rfl) (aD.trans (aD.frame (Bl x) _) (iX (a:=[eB x.v0 x.v1 x.v2 i now o e r,mV b x.v0 x.v1 x.v2]) (b:=[mV b x.v0 x.v1 x.v2,eB x.v0 x.v1 x.v2 i now o e r]) [1,0] (by decide) rfl))) w' (R++Fs) hx
 exact⟨v,_,he,⟨x.v0,x.v1,x.v2,o,e,r,R,rfl,hq⟩,h1,gN⟩
end Go.RX.Dc

namespace Go.RX.Dd
open Go.RX Go.Proofs Go.Cp Go.RX.Cs Go.RX.Ct Go.RX.Cu Go.RX.Cv Go.RX.Cw Go.RX.Cx Go.RX.Cy Go.RX.Cz Go.RX.Da Go.RX.Db Go.RX.Dc
set_option maxRecDepth 100000
abbrev Y6(v0 v1 v2:V1):Value:= .agg #[v0.v,v1.v,v2.v]
abbrev wh(W:Value→Rs LI→Value→Prop)(b1 i now:Nat)(rv:Value)(hs:List HP):Prop:= ∃(v0 v1 v2:V1) (s:Rs LI) (e':List (Ev LI)),W (Y6 v0 v1 v2) s rv∧Tl [] e' s.e∧hs=[eB v0 v1 v2 i now s.o e' s.r,cq b1 i s.m]
section
variable {b b1 i now f:Nat} {m:Mc LI} {x:MR} {o o':List (Mg LI)} {e e':List (Ev LI)} {r r':List (Nat×Nat)} {args:List Value} {pre R R' L:List HP}
theorem qX{W:Value→Rs LI→Value→Prop}(h:aq adY f args pre fun rv hs=> ∃(v0 v1 v2:V1) (s:Rs LI) (e':List (Ev LI)),W (Y6 v0 v1 v2) s rv∧Tl [] e' s.e∧aD hs [eB v0 v1 v2 i now s.o e' s.r,cq b1 i s.m]):
  aq adY f args pre (wh W b1 i now):=
 h.post fun _ _ ⟨v0,v1,v2,s,e',h1,h2,h3⟩=>⟨_,h3,v0,v1,v2,s,e',h1,h2,rfl⟩
theorem lY(h:aq adY f args (aY b i now o e r::R) fun rv hs=>rv= .tuple #[]∧hs=aY b i now o' e' r'::R')(hp:aD pre (aY b i now o e r::R)):
  aq adY f args pre fun rv hs=>rv= .tuple #[]∧∃v0 v1 v2,hs=mV b v0 v1 v2::eB v0 v1 v2 i now o' e' r'::R':=by
 have h1:=zk (b:=b) (i:=i) (now:=now) (Q:=fun rv o1 e1 r1 R1=>rv= .tuple #[]∧o1=o'∧e1=e'∧r1=r'∧R1=R') ((aq.pre h hp).post fun rv hs ⟨h1,h2⟩=>⟨hs,aD.refl _,o',e',r',R',h2,h1,rfl,rfl,rfl,rfl⟩);refine h1.post ?_;rintro rv hs ⟨v0,v1,v2,o1,e1,r1,R1,rfl,h2,rfl,rfl,rfl,rfl⟩;exact⟨_,aD.refl _,h2,v0,v1,v2,rfl⟩
theorem iT{Q:Rs LI→Prop}(h:aq adY f args (aY b i now [] [] []::R) (tS Q b b1 i now [] [] [])):
  aq adY f args (ak b true [.slice none 0 0,.slice none 0 0,.slice none 0 0]::R) fun rv hs=>rv= .tuple #[]∧∃v0 v1 v2 s e',Q s∧Tl [] e' s.e∧hs=[mV b v0 v1 v2,eB v0 v1 v2 i now s.o e' s.r,cq b1 i s.m]:=by
 have h1:=zk (b:=b) (i:=i) (now:=now) (Q:=fun rv o1 e1 r1 R1=>rv= .tuple #[]∧∃s,Q s∧Tl [] e1 s.e∧o1=s.o∧r1=s.r∧R1=[cq b1 i s.m]) ((aq.pre h (qn R)).post fun rv hs ⟨h1,s,e',h2,h3,h4⟩=>⟨hs,aD.refl _,s.o,e',s.r,[cq b1 i s.m],h4,h1,s,h2,h3,rfl,rfl,rfl⟩);refine h1.post ?_;rintro rv hs ⟨v0,v1,v2,o1,e1,r1,R1,rfl,h2,s,h3,h4,rfl,rfl,rfl⟩;exact⟨_,aD.refl _,h2,v0,v1,v2,s,e1,h3,h4,rfl⟩
theorem eS(hx:Is i m x):aD (cn b1 x::Mm.bB x.dead 256::dS i m x::L) [eB cg cg cg i now [] [] [],cq b1 i m]:=by
 refine aD.trans (aD.sub (b:=B_ b1 i m x) ?_) (aD.trans (xC hx) (aD.frame tW [_]));simp [B_]
theorem xF{m:Mc LI}(hi:i<4)(hx:Is i m x)(hk:KM m):RA i m x [] [] []:=⟨hi,hx,by simp,hk⟩
theorem NI{h1 h2 h3 hm:HP}(h:aD [h1,h2] [hm]):aD [h1,h2,h3] [h3,hm]:=aD.trans (aD.frame h [h3]) (iX [1,0] (by decide) rfl)
theorem mC{h1 h2:HP}:aD (h1::h2::L) [h1,h2]:=aD.sub (by simp)
end
theorem He{a n:Nat}(hn:n<2^63):ae .u64 ((ax .imax .u64 (a:Int) (n:Int)) - (a:Int))=((KA a n:Nat):Int):=by
 have h:ax .imax .u64 (a:Int) (n:Int)=((max a n:Nat):Int):=by
  unfold ax;dsimp only;split<;>omega
 rw [h,show((max a n:Nat):Int) - (a:Int)=((KA a n:Nat):Int) by unfold KA;omega];have h2:KA a n<2^64:=by unfold KA;omega
 have h3: ∀k:Nat,ae .u64 (k:Int)=((k%2^64:Nat):Int):=fun k=>by simp [ae,IntKind.bits,IntKind.signed]
 rw [h3,Nat.mod_eq_of_lt h2]
theorem oS(b1 i now:Nat)(hi:i<4)(m:Mc LI)(hk:KM m)(hn:now<2^63):aq adY 53 [.pointer (some ⟨b1,0,none⟩),.int .u64 (now:Int)] [cq b1 i m] (wh (fun v s rv=>rv=v∧∃q:Or,q.Ok i∧s=tick zK i m now q) b1 i now):=by
 refine k_ fun x hx=>qX ?_
 have zY:=fun(b:Nat) (h0:m.ph≠0) (EK oc:Int)=>iT (tV (b:=b) (b1:=b1) (now:=now) (xF hi hx hk) h0 EK oc)
 have ow:x.st=(m.ph:Int):=hx.st;have b0:Nat:=0;refine Qi _ x.a x.d x.st x.out x.ac x.pa x.pd x.h_ x.early x.aK x.cf x.since x.heard x.bD x.bq 0 0 0 0 0 0 0 (now:Int) 0 0 0 0 0 0 0 0 0 0 0 0 0 0 0 0 0 x.dv x.id x.own x.off x.dg (fun _=>0) (fun _=>0) (fun _=>0) (fun _=>0) (fun _=>0) b0 b1 x.dead (Mm.bB x.dead 256) (dS i m x) (dS i m x) ?_;unfold IA;intro b3 b4;have hh:m.ph≠0→x.since=(m.since:Int):=fun h=>(hx.call h).since
 by_cases c0:m.ph=0
 ·have e0:x.st=0:=hx.Ha.2 c0;refine⟨fun c=>absurd c.1 (by omega),fun _=>⟨fun c=>absurd c.1 (by omega),fun _=>⟨fun c=>absurd c.1 (by omega),fun _=>⟨fun c=>absurd c (by omega),fun _=>?_⟩⟩⟩⟩;exact⟨cg,cg,cg,gY m,[],⟨rfl,q0,gp,by simp [tick,c0]⟩,dE,eS hx⟩
 have hc:=hx.call c0;have a1:ae .u64 ((ax .imax .u64 x.since (now:Int)) - x.since)=((KA m.since now:Nat):Int):=by rw [hc.since,He hn]
 have a2:ae .u64 ((ax .imax .u64 x.heard (now:Int)) - x.heard)=((KA m.heard now:Nat):Int):=by rw [hc.heard,He hn]
 have a3:ae .u64 ((ax .imax .u64 x.bD (now:Int)) - x.bD)=((KA m.bD now:Nat):Int):=by rw [hc.bD,He hn]
 rw [a1,a2,a3];refine⟨fun c=>⟨_,zY b4 c0 3 3,?_⟩,fun c1=>⟨fun c=>⟨_,zY b4 c0 3 3,?_⟩,fun c2=>⟨fun c=>⟨_,zY b4 c0 3 6,?_⟩,fun c3=>⟨fun c4=>⟨fun c=>⟨_,zY b4 c0 3 1,?_⟩,fun c5=>⟨fun c=>⟨_,lY (cd b4 i now [] [] [] (by simp) x.pa x.pd 3 0 0 0 (ae .u32 (1+(ae .u32 (x.bq+1)))) 0 x.id (fun _=>0) hc.pa hc.pd (by decide)) (qn []),?_⟩,fun c6=>?_⟩⟩,fun c4=>?_⟩⟩⟩⟩
 ·rintro v hs ⟨rfl,v0,v1,v2,s,e',⟨sub,h1,rfl⟩,ht,rfl⟩;exact⟨v0,v1,v2,_,_,rfl,rfl,v0,v1,v2,_,e',⟨rfl,{q0 with sub:=sub},gF h1 bZ,by rw [tick,if_pos ⟨.inl (by omega),by omega⟩]⟩,ht,mC⟩
 ·rintro v hs ⟨rfl,v0,v1,v2,s,e',⟨sub,h1,rfl⟩,ht,rfl⟩;exact⟨v0,v1,v2,_,_,rfl,rfl,v0,v1,v2,_,e',⟨rfl,{q0 with sub:=sub},gF h1 bZ,by rw [tick,if_pos ⟨.inr (by omega),by omega⟩]⟩,ht,mC⟩
 ·rintro v hs ⟨rfl,v0,v1,v2,s,e',⟨sub,h1,rfl⟩,ht,rfl⟩;exact⟨v0,v1,v2,_,_,rfl,rfl,v0,v1,v2,_,e',⟨rfl,{q0 with sub:=sub},gF h1 bZ,by rw [tick,if_neg (by omega),if_pos ⟨by omega,by omega⟩]⟩,ht,mC⟩
 ·rintro v hs ⟨rfl,v0,v1,v2,s,e',⟨sub,h1,rfl⟩,ht,rfl⟩;exact⟨v0,v1,v2,_,_,rfl,rfl,v0,v1,v2,_,e',⟨rfl,{q0 with sub:=sub},gF h1 bZ,by rw [tick,if_neg (by omega),if_neg (by omega),if_pos ⟨by omega,by omega⟩]⟩,ht,mC⟩
 ·rintro v hs ⟨rfl,v0,v1,v2,rfl⟩;have d4:m.ph=4:=by omega
  refine⟨v0,v1,v2,_,rfl,rfl,v0,v1,v2,⟨{m with bD:=now},[⟨3,m.c,i,m.peer,zK⟩],[],[]⟩,[],⟨rfl,q0,gp,by rw [tick,if_neg (by omega),if_neg (by omega),if_neg (by omega),if_pos ⟨by omega,by omega⟩]⟩,dE,?_⟩;refine aD.trans (iX (b:=[cn b1 {x with bD:=(now:Int),bq:=ae .u32 (x.bq+1)},Mm.bB x.dead 256,eB v0 v1 v2 i now [⟨3,m.c,i,m.peer,zK⟩] [] []]) [0,1,5] (by decide) (by rw [←hc.c,←hc.peer];rfl)) (NI (tR (x:={x with bD:=(now:Int),bq:=ae .u32 (x.bq+1)}) (m:={m with bD:=now}) ⟨hx.a,hx.d,hx.Nu,hx.Nv,hx.st,fun _=>⟨hc.c,hc.out,hc.pa,hc.pd,hc.peer,hc.own,hc.off,hc.dg,hc.aK,hc.since,hc.heard,rfl⟩⟩ (by simp only;omega)))
 ·exact⟨cg,cg,cg,gY m,[],⟨rfl,q0,gp,by rw [tick,if_neg (by omega),if_neg (by omega),if_neg (by omega),if_neg (by omega)]⟩,dE,eS hx⟩
 ·exact⟨cg,cg,cg,gY m,[],⟨rfl,q0,gp,by rw [tick,if_neg (by omega),if_neg (by omega),if_neg (by omega),if_neg (by omega)]⟩,dE,eS hx⟩
theorem Hf(b1 i now:Nat)(hi:i<4)(m:Mc LI)(hk:KM m):aq adY 56 [.pointer (some ⟨b1,0,none⟩),.int .u64 (now:Int)] [cq b1 i m] (wh (fun v s rv=>(∃k:Int,rv= .tuple #[v,.int .i64 k])∧∃q:Or,q.Ok i∧s=px zK i m q) b1 i now):=by
 refine k_ fun x hx=>qX ?_
 have zY:=fun(b:Nat) (h0:m.ph≠0) (EK oc:Int)=>iT (tV (b:=b) (b1:=b1) (now:=now) (xF hi hx hk) h0 EK oc)
 have ow:x.st=(m.ph:Int):=hx.st;have b0:Nat:=0;refine Qj _ x.a x.d x.st x.out x.ac x.pa x.pd x.h_ x.early x.aK x.cf x.since x.heard x.bD x.bq 0 0 0 0 0 0 0 (now:Int) 0 0 0 0 0 0 0 0 0 0 0 0 0 0 0 0 0 x.dv x.id x.own x.off x.dg (fun _=>0) (fun _=>0) (fun _=>0) (fun _=>0) (fun _=>0) b0 b1 x.dead (Mm.bB x.dead 256) (dS i m x) (dS i m x) ?_;unfold IB;intro b3 b4;refine⟨fun c=>?_,fun c1=>⟨fun c=>?_,fun c2=>⟨fun c=>⟨_,zY b4 (by omega) 1 1,?_⟩,fun c=>⟨_,zY b4 (by omega) 1 7,?_⟩⟩⟩⟩
 ·exact⟨cg,cg,cg,gY m,[],⟨⟨_,rfl⟩,q0,gp,by rw [px,if_pos (.inl (by omega))]⟩,dE,eS hx⟩
 ·exact⟨cg,cg,cg,gY m,[],⟨⟨_,rfl⟩,q0,gp,by rw [px,if_pos (.inr (by omega))]⟩,dE,eS hx⟩
 all_goals
  rintro v hs ⟨rfl,v0,v1,v2,s,e',⟨sub,h1,rfl⟩,ht,rfl⟩;exact⟨v0,v1,v2,_,_,rfl,rfl,v0,v1,v2,_,e',⟨⟨_,rfl⟩,{q0 with sub:=sub},gF h1 bZ,by rw [px,if_neg (by omega)]⟩,ht,mC⟩
theorem AD(b1 i now:Nat)(_:i<4)(m:Mc LI)(_:KM m):aq adY 55 [.pointer (some ⟨b1,0,none⟩),.int .u64 (now:Int)] [cq b1 i m] (wh (fun v s rv=>(∃k:Int,rv= .tuple #[v,.int .i64 k])∧s=eQ zK i m) b1 i now):=by
 refine k_ fun x hx=>qX ?_
 have ow:x.st=(m.ph:Int):=hx.st;have b0:Nat:=0;refine GV _ x.a x.d x.st x.out x.ac x.pa x.pd x.h_ x.early x.aK x.cf x.since x.heard x.bD x.bq 0 0 0 0 0 0 0 (now:Int) 0 0 0 0 0 0 0 0 0 0 0 0 0 0 0 0 0 x.dv x.id x.own x.off x.dg (fun _=>0) (fun _=>0) (fun _=>0) (fun _=>0) (fun _=>0) b0 b1 x.dead (Mm.bB x.dead 256) (dS i m x) (dS i m x) ?_;unfold y2;intro b3 b4;refine⟨fun c=>?_,fun c=>fun b5=>?_⟩
 ·exact⟨cg,cg,cg,gY m,[],⟨⟨_,rfl⟩,by rw [eQ,if_neg (by omega)]⟩,dE,eS hx⟩
 have c2:m.ph=2:=by omega
 have hc:=hx.call (by omega);refine⟨_,lY (cd b4 i now [] [] [] (by simp) x.pa x.pd 5 0 0 0 0 2 x.id (fun _=>0) hc.pa hc.pd (by decide)) (qn []),?_⟩;rintro v hs ⟨rfl,v0,v1,v2,rfl⟩;refine⟨v0,v1,v2,_,rfl,rfl,_,lY (iS b4 b1 i now x _ [] [] (by simp) (by simp) 4 (hc.aK▸Int.natCast_nonneg _)) (xE _),?_⟩;rintro v hs ⟨rfl,v3,v4,v5,rfl⟩;refine⟨v3,v4,v5,_,rfl,rfl,v3,v4,v5,⟨{m with ph:=0},[⟨5,m.c,i,m.peer,zK⟩],[],[(m.c,m.aK)]⟩,[⟨5,a_ x.id,0,zK⟩],⟨⟨_,rfl⟩,by rw [eQ,if_pos c2]⟩,⟨_,rfl,by simp,rfl⟩,?_⟩;have e3:m.aK=x.aK.toNat:=by rw [hc.aK];rfl
 exact aD.trans (iX (b:=[cn b1 {x with st:=0},Mm.bB x.dead 256,eB v3 v4 v5 i now [⟨5,m.c,i,m.peer,zK⟩] [⟨5,a_ x.id,0,zK⟩] [(m.c,m.aK)]]) [0,1,6] (by decide) (by rw [←hc.c,←hc.peer,e3];rfl)) (NI (tR hx.idle (by simp)))
theorem KU{b b1 i now:Nat}{m:Mc LI}{x:MR}{o:List (Mg LI)}{e:List (Ev LI)}{r:List (Nat×Nat)}{F:Nat→LI→LI→Nat→Nat→LI}{H:LI→LI}(hp:RA i m x o e r)(hS:u6 F H)(h2:m.ph=2)(A6:Nat→Int)(hA:wa (aJ A6 0 32)):
  aq adY 97 [.pointer (some ⟨b1,0,none⟩),.pointer (some ⟨b,0,none⟩),.agg (adH (al .u8 32 A6) ([])).toArray,.int .u64 (now:Int)] (aY b i now o e r::B_ b1 i m x) (tS (fun s=>s=answers zK F i m (aJ A6 0 32) now) b b1 i now o e r):=by
 have hx:=hp.x;have hi:=hp.hi;have hc:=hx.call (by omega);refine Da.two (fun h=>?_) fun h=>absurd h (by omega)
 refine iB ((rN b b1 i now x o e r ⟨by have:=hp.b.1;omega,by have:=hp.b.2.1;omega,by have:=hp.b.2.2;omega⟩ hc.pa hc.pd A6 _ (hS.mQ x.id x.off A6 x.pa x.pd x.a x.d (ND (hc.c▸hp.k.c (by omega))) (hc.off▸hp.k.off (by omega)) hA hc.pa hc.pd (by have:=hx.a;omega) (by have:=hx.d;omega))).post fun rv hs ⟨h1,A,hA,h2⟩=>⟨hs,aD.refl _,h1,?_⟩);subst h2;have Y2:eh x.a x.d=i:=by
  rw [hx.a,hx.d];simp only [eh];omega
 rw [Y2,hc.c,hc.off,hc.peer]at hA;refine⟨_,_,rfl,⟨[_],rfl,(by simp),?_⟩,dJ ⟨hx.a,hx.d,hx.Nu,hx.Nv,rfl,fun _=>⟨hc.c,hc.out,hc.pa,hc.pd,hc.peer,rfl,hc.off,hA,hc.aK,rfl,hc.heard,hc.bD⟩⟩ (by simp [answers]) (by simp [answers,hc.c,hc.peer]) (adW _).symm⟩;simp [told,answers,hc.c,hc.peer]
theorem fL(b1 i now:Nat)(hi:i<4)(m:Mc LI)(hk:KM m){F:Nat→LI→LI→Nat→Nat→LI}{H:LI→LI}(hS:u6 F H)(A6:Nat→Int)(hA:wa (aJ A6 0 32)):aq adY 54 [.pointer (some ⟨b1,0,none⟩),.agg (adH (al .u8 32 A6) ([])).toArray,.int .u64 (now:Int)] [cq b1 i m] (wh (fun v s rv=>(∃k:Int,rv= .tuple #[v,.int .i64 k])∧s=answer zK F i m (aJ A6 0 32) now) b1 i now):=by
 refine k_ fun x hx=>qX ?_
 have ow:x.st=(m.ph:Int):=hx.st;have b0:Nat:=0;refine Kw _ x.a x.d x.st x.out x.ac x.pa x.pd x.h_ x.early x.aK x.cf x.since x.heard x.bD x.bq 0 0 0 0 0 0 0 (now:Int) 0 0 0 0 0 0 0 0 0 0 0 0 0 0 0 0 0 x.dv x.id x.own x.off x.dg (fun _=>0) A6 (fun _=>0) (fun _=>0) (fun _=>0) b0 b1 x.dead (Mm.bB x.dead 256) (dS i m x) (dS i m x) ?_;unfold nW;intro b3 b4 b5;refine⟨fun c=>?_,fun c=>⟨_,iT (KU (xF hi hx hk) hS (by omega) A6 hA),?_⟩⟩
 ·exact⟨cg,cg,cg,gY m,[],⟨⟨_,rfl⟩,by rw [answer,if_neg (by omega)]⟩,dE,eS hx⟩
 ·rintro v hs ⟨rfl,v0,v1,v2,s,e',rfl,ht,rfl⟩;exact⟨v0,v1,v2,_,_,rfl,rfl,v0,v1,v2,_,e',⟨⟨_,rfl⟩,by rw [answer,if_pos (by omega)]⟩,ht,mC⟩
end Go.RX.Dd

namespace Go.RX.De
open Go.RX Go.Proofs Go.Cp Go.RX.Cs Go.RX.Ct Go.RX.Cu Go.RX.Cv Go.RX.Cw Go.RX.Cx Go.RX.Cy Go.RX.Cz Go.RX.Da Go.RX.Db Go.RX.Dc Go.RX.Dd
set_option maxRecDepth 100000
theorem Tq{b b1 i now:Nat}{m:Mc LI}{x:MR}{o:List (Mg LI)}{e:List (Ev LI)}{r:List (Nat×Nat)}{f0 f1:Int}(hp:RA i m x o e r)(hf:Uj f0 f1)(h1:m.ph=1)(how:Int):
  aq adY 90 [.pointer (some ⟨b1,0,none⟩),.pointer (some ⟨b,0,none⟩),.agg #[.int .u8 f0,.int .u8 f1],.int .u8 how,.int .u64 (now:Int)] (aY b i now o e r::B_ b1 i m x) (tS (NF i m) b b1 i now o e r):=
 Da.two (fun h=>absurd h1 h) fun h y hy=>Cz.wg b b1 i now hp.hi m x hp.x h y hy o e r hp.b f0 f1 hf.a hf.d how
theorem Hg(b1 i now:Nat)(hi:i<4)(m:Mc LI)(hk:KM m){F:Nat→LI→LI→Nat→Nat→LI}{H:LI→LI}(hS:u6 F H){f0 f1 bF bA bG bO bQ bN:Int}{A5 A6:Nat→Int}{X:Mg LI}(hf:Uj f0 f1)(fc:f0≠((i/2:Nat):Int))(hK:KS X)(hX:zi X X.k f0 f1 A5 A6)(h23:bF=(X.k:Int)):
  aq adY 51 [.pointer (some ⟨b1,0,none⟩),.agg #[.int .u8 f0,.int .u8 f1],sgV A5 A6 bF bA bG bO bQ bN,.int .u64 (now:Int)] [cq b1 i m] (wh (fun v s rv=>rv=v∧ql F H i m X now s) b1 i now):=by
 refine k_ fun x hx=>qX ?_
 have ow:x.st=(m.ph:Int):=hx.st;have hh:=tU hx hX.c;have hp:=xF hi hx hk;have b0:Nat:=0;have sg: ∀k:Nat,X.k=k→zi X k f0 f1 A5 A6:=fun k h=>⟨h,hX.c,hX.f,hX.key⟩
 refine Qh _ x.a x.d x.st x.out x.ac x.pa x.pd x.h_ x.early x.aK x.cf x.since x.heard x.bD x.bq 0 0 0 0 0 f0 f1 (now:Int) bF bA bG bO bQ bN 0 0 0 0 0 0 0 0 0 0 0 x.dv x.id x.own x.off x.dg A5 A6 (fun _=>0) (fun _=>0) (fun _=>0) b0 b1 x.dead (Mm.bB x.dead 256) (dS i m x) (dS i m x) ?_;unfold Iz;intro b3 b4 b5 b6;refine⟨fun c=>absurd c (by rw [hx.a];exact fc),fun _=>⟨fun c=>⟨_,iT (qm hp hf hS hK (sg 1 (by omega))),?_⟩,fun c1=>⟨fun c=>⟨_,iT (fL hp hf hS hK (sg 2 (by omega))),?_⟩,fun c2=>⟨fun c=>⟨_,iT (sJ hp hf hS (sg 3 (by omega))),?_⟩,fun c3=>⟨fun c4=>⟨fun c=>?_,fun c=>?_⟩,fun c4=>⟨fun c=>⟨_,iT (sK (F:=F) (H:=H) hp hf (sg 5 (by omega))),?_⟩,fun c5=>⟨fun c6=>⟨fun c=>?_,fun c=>⟨fun d=>?_,fun d=>?_⟩⟩,fun c6=>?_⟩⟩⟩⟩⟩⟩⟩
 ·rintro v hs ⟨rfl,v0,v1,v2,s,e',hq,ht,rfl⟩;exact⟨v0,v1,v2,_,_,rfl,rfl,v0,v1,v2,s,e',⟨rfl,hq⟩,ht,mC⟩
 ·rintro v hs ⟨rfl,v0,v1,v2,s,e',hq,ht,rfl⟩;exact⟨v0,v1,v2,_,_,rfl,rfl,v0,v1,v2,s,e',⟨rfl,hq⟩,ht,mC⟩
 ·rintro v hs ⟨rfl,v0,v1,v2,s,e',hq,ht,rfl⟩;exact⟨v0,v1,v2,_,_,rfl,rfl,v0,v1,v2,s,e',⟨rfl,hq⟩,ht,mC⟩
 ·have d1:m.ph=1:=by omega
  have d2:m.has X.c:=hh.2 (by rintro (h | h);exact c.1.1 h;exact h c.1.2);have d3:X.k=4:=by omega
  refine⟨_,iT (Tq hp hf d1 2),?_⟩;rintro v hs ⟨rfl,v0,v1,v2,s,e',rfl | ⟨sub,h1,rfl⟩,ht,rfl⟩
  ·exact⟨v0,v1,v2,_,_,rfl,rfl,v0,v1,v2,_,e',⟨rfl,q0,gp,by simp [take,d3]⟩,ht,mC⟩
  ·exact⟨v0,v1,v2,_,_,rfl,rfl,v0,v1,v2,_,e',⟨rfl,{q0 with FR:=true,sub:=sub},gF h1 bZ,by simp [take,d3,d2,d1]⟩,ht,mC⟩
 ·have d3:X.k=4:=by omega
  exact⟨cg,cg,cg,gY m,[],⟨rfl,q0,gp,by simp [take,d3]⟩,dE,eS hx⟩
 ·rintro v hs ⟨rfl,v0,v1,v2,s,e',hq,ht,rfl⟩;exact⟨v0,v1,v2,_,_,rfl,rfl,v0,v1,v2,s,e',⟨rfl,hq⟩,ht,mC⟩
 ·have d3:X.k=6:=by omega
  have d2: ¬m.has X.c:=fun h=>c ⟨fun e=>hh.1 h (.inl e),Classical.byContradiction fun e=>hh.1 h (.inr e)⟩
  refine⟨_,Mm.mT x.dead 256 A5 (by decide) (by decide),?_⟩;rintro v hs ⟨rfl,rfl⟩;exact⟨rfl,rfl,⟨cg,cg,cg,gY m,[],⟨rfl,q0,gp,by simp [take,d3,d2]⟩,dE,eS hx⟩⟩
 ·have d3:X.k=6:=by omega
  have d2:m.has X.c:=hh.2 (by have c:=ad5.1 c;rintro (h | h);exact c.1 h;exact h c.2);have hc:=hx.call d2.1;have d4:X.f=m.peer:=(lX hx d2.1 hf.a hf.d hX.f).2 d.1.1;have d5:m.out=false:=by rw [←hc.out,ad5.1 d.1.2];rfl
  have d6:m.ph=2∨m.ph=3:=by omega
  refine⟨_,lY (iS b6 b1 i now x [] [] [] (by simp) (by simp) 2 (hc.aK▸Int.natCast_nonneg _)) (qn _),?_⟩;rintro v hs ⟨rfl,v0,v1,v2,rfl⟩;have e3:m.aK=x.aK.toNat:=by rw [hc.aK];rfl
  refine⟨v0,v1,v2,_,rfl,rfl,v0,v1,v2,ends m,[⟨5,a_ x.id,0,zK⟩],⟨rfl,q0,gp,by simp [take,d3,d2,d4,d5,d6]⟩,⟨_,rfl,by simp,rfl⟩,?_⟩;exact aD.trans (iX (b:=[cn b1 {x with st:=0},Mm.bB x.dead 256,eB v0 v1 v2 i now [] [⟨5,a_ x.id,0,zK⟩] [(m.c,m.aK)]]) [1,7,0] (by decide) (by rw [←hc.c,e3];rfl)) (NI (tR hx.idle (show¬(0:Nat)=1 by decide)))
 ·have d3:X.k=6:=by omega
  have hn: ¬(m.has X.c∧X.f=m.peer∧m.out=false∧(m.ph=2∨m.ph=3)):=fun⟨h1,h2,h3,h4⟩=>d ⟨⟨(lX hx h1.1 hf.a hf.d hX.f).1 h2,by rw [←(hx.call h1.1).out]at h3;simpa using h3⟩,by omega⟩
  exact⟨cg,cg,cg,gY m,[],⟨rfl,q0,gp,by rw [take,if_neg (by omega),if_neg (by omega),if_neg (by omega),if_neg (by omega),if_neg (by omega),if_pos d3,if_neg hn]⟩,dE,eS hx⟩
 ·exact⟨cg,cg,cg,gY m,[],⟨rfl,q0,gp,by rw [take,if_neg (by omega),if_neg (by omega),if_neg (by omega),if_neg (by omega),if_neg (by omega),if_neg (by omega)]⟩,dE,eS hx⟩
theorem NJ(b9:Nat)(R:List HP):aD (ak b9 true [.slice none 0 0,.int .i64 4]::R) (Mm.nZ b9 4::R):=
 aD.trans (aD.frame (aD.EX 30 2) _) (aD.trans (aD.frame (iX (a:=[aB true 30 2 (.slice none 0 0) 0 [],ak b9 true [.slice none 0 0,.int .i64 4]]) (b:=[ak b9 true [.slice none 0 0,.int .i64 4],aB true 30 2 (.slice none 0 0) 0 []]) [1,0] (by decide) rfl) R) (aD.frame (Mm.lx b9 4 ⟨cg,0,fun _=>0,fun _=>0,by decide,by decide⟩ []) R))
theorem Hh(b1 i now:Nat)(hi:i<4)(m:Mc LI)(_:KM m)(A5 A6:Nat→Int):aq adY 50 [.pointer (some ⟨b1,0,none⟩),.int .u8 (k9 i),.agg (adH (al .u8 16 A5) ([])).toArray,.agg (adH (al .u8 32 A6) ([])).toArray,.int .u64 (now:Int)] [cq b1 i m]
  (wh (fun v s rv=> ∃k:Int,rv= .tuple #[v,.int .i64 k]∧(k≠0∧s=gY m∨k=0∧m.ph=0∧s=dD zK i (a_ A5) (aJ A6 0 32) now)) b1 i now):=by
 refine k_ fun x hx=>qX ?_
 have ow:x.st=(m.ph:Int):=hx.st;have b0:Nat:=0;have ho:=sI (i:=i);refine Qk _ x.a x.d x.st x.out x.ac x.pa x.pd x.h_ x.early x.aK x.cf x.since x.heard x.bD x.bq 0 0 0 0 0 (k9 i) 0 (now:Int) 0 0 0 0 0 0 0 0 0 0 0 0 0 0 0 0 0 x.dv x.id x.own x.off x.dg A5 A6 (fun _=>0) (fun _=>0) (fun _=>0) b0 b1 x.dead (Mm.bB x.dead 256) (dS i m x) (dS i m x) ?_;unfold IC;intro b3 b4 b5 b6;have hdv:x.dv (ag (k9 i))=2:=by
  have:k9 i=0∨k9 i=1:=by omega
  rcases this with h | h<;>rw [h]
  ·exact hx.Nu
  ·exact hx.Nv
 refine⟨fun c=>?_,fun c0=>⟨.inr (by omega),fun _=>⟨.inr (by omega),fun _=>⟨fun c1=>⟨_,Mm.sG x.dead 256 A5,?_⟩,fun c1=>?_⟩⟩⟩⟩
 ·exact⟨cg,cg,cg,gY m,[],⟨6,rfl,.inl ⟨by decide,rfl⟩⟩,dE,eS hx⟩
 ·rintro v hs ⟨⟨q,rfl⟩,rfl⟩;refine⟨q,rfl,rfl,fun _=>⟨cg,cg,cg,gY m,[],⟨2,rfl,.inl ⟨by decide,rfl⟩⟩,dE,eS hx⟩,fun _=>⟨ho.1,fun _=>⟨by omega,fun _=>?_⟩⟩⟩;rw [hdv];refine⟨by decide,fun _=>⟨by decide,fun _=>⟨_,Rg.lz (k9 i) 2 (by omega) (by decide) (by decide),?_⟩⟩⟩;rintro v hs ⟨b7,v0,cm,rfl,rfl, -⟩;refine⟨b7,v0,k9 i,cm,rfl,rfl,?_⟩;intro b8 b9;have Xn:=lY (b:=b6) (kx b6 b1 i now {a:=x.a,d:=x.d,dv:=x.dv,dead:=x.dead,st:=1,id:=A5,out:=1,ac:=k9 i,pa:=0,pd:=0,own:=A6,off:=fun _=>0,dg:=fun _=>0,h_:=(b7:Int)+1,early:=(b9:Int)+1,aK:=(now:Int),cf:=0,since:=(now:Int),heard:=0,bD:=0,bq:=0} [] [] [] (by simp) 1 (now:Int) 0 0 0 0 0 0 0 0 (fun _=>0) (fun _=>0) (by decide) (by decide) (by decide)) (qn _);simp only [cn,fj,show(!((1:Int)==0))=true from rfl]at Xn;refine⟨_,Xn,?_⟩;rintro v hs ⟨rfl,v1,v2,v3,rfl⟩;refine⟨v1,v2,v3,_,rfl,rfl,?_⟩;intro fh kA mB C2 D14 l15 r14 Aq;refine⟨_,lY (cd b6 i now [] _ [] (by simp) (k9 i) 0 1 x.a x.d (k9 i) 0 0 A5 A6 ho (by decide) (by decide)) (xE _),?_⟩;rintro v hs ⟨rfl,v4,v5,v6,rfl⟩;refine⟨v4,v5,v6,_,rfl,rfl,?_⟩;intro ID;refine⟨_,lY (cd b6 i now _ _ [] (by simp) (k9 i) 1 1 x.a x.d (k9 i) 0 0 A5 A6 ho (by decide) (by decide)) (xE _),?_⟩;rintro v hs ⟨rfl,v7,v8,v9,rfl⟩;refine⟨v7,v8,v9,_,rfl,rfl,v7,v8,v9,dD zK i (a_ A5) (aJ A6 0 32) now,[⟨1,a_ A5,0,zK⟩],⟨0,rfl,.inr ⟨rfl,by omega,rfl⟩⟩,⟨[⟨1,a_ A5,0,zK⟩],rfl,by simp,rfl⟩,?_⟩
  ·have e1:(dD zK i (a_ A5) (aJ A6 0 32) now).o=([]++[⟨(1:Int).toNat,bM (aJ A5 0 16),i,(2*k9 i+0).toNat,aJ A6 0 32⟩])++[⟨(1:Int).toNat,bM (aJ A5 0 16),i,(2*k9 i+1).toNat,aJ A6 0 32⟩]:=by
    rw [show(2*k9 i+0).toNat=2*(1 - i/2) by unfold k9;omega,show(2*k9 i+1).toNat=2*(1 - i/2)+1 by unfold k9;omega];rfl
   rw [e1];refine aD.trans (iX (b:=[ak b9 true [.slice none 0 0,.int .i64 4],ak b7 true [.int .u8 (k9 i),v0.v,.int .i64 (-1)],aB true 5 1 v0.v 2 (aH 2 [au .u8 1 cm]),Cz.QB b1 {a:=x.a,d:=x.d,dv:=x.dv,dead:=x.dead,st:=1,id:=A5,out:=1,ac:=k9 i,pa:=0,pd:=0,own:=A6,off:=fun _=>0,dg:=fun _=>0,h_:=(b7:Int)+1,early:=(b9:Int)+1,aK:=(now:Int),cf:=0,since:=(now:Int),heard:=0,bD:=0,bq:=0} b7 b9,Mm.bB x.dead 256,_]) [10,7,8,11,1,0] (by decide) rfl) (aD.trans (NJ b9 _) ?_);have hm:=IM (b1:=b1) (i:=i) (m:=(dD zK i (a_ A5) (aJ A6 0 32) now).m) (x:={a:=x.a,d:=x.d,dv:=x.dv,dead:=x.dead,st:=1,id:=A5,out:=1,ac:=k9 i,pa:=0,pd:=0,own:=A6,off:=fun _=>0,dg:=fun _=>0,h_:=(b7:Int)+1,early:=(b9:Int)+1,aK:=(now:Int),cf:=0,since:=(now:Int),heard:=0,bD:=0,bq:=0}) ⟨hx.a,hx.d,hx.Nu,hx.Nv,rfl,fun _=>⟨rfl,rfl,⟨Int.le_refl 0,(show(0:Int)<2 by decide)⟩,⟨Int.le_refl 0,(show(0:Int)<2 by decide)⟩,rfl,rfl,rfl,rfl,rfl,rfl,rfl,rfl⟩⟩ rfl ⟨b7,b9,v0, -1,cm⟩ ⟨rfl,rfl⟩;rw [Cz.EV (b3:=b7) (b4:=b9) rfl rfl]at hm;exact aD.trans (aD.frame hm [_]) (iX (a:=[_,_]) (b:=[_,_]) [1,0] (by decide) rfl)
 ·exact⟨cg,cg,cg,gY m,[],⟨2,rfl,.inl ⟨by decide,rfl⟩⟩,dE,eS hx⟩
end Go.RX.De
