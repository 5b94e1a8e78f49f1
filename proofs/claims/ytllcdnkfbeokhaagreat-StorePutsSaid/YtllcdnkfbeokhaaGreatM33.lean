/- The store's walker. -/
import Derived.Test.YtllcdnkfbeokhaaGreatM32
open Go.IntKind renaming wrap -> ae
open Go.Proofs.Tryz renaming prog -> ax8
open Int renaming toNat -> ag, toNat_natCast -> ax3
open List renaming append -> axQ, eq_nil_of_length_eq_zero -> aye, getD_cons_zero -> ah, getLast?_eq_some_iff -> ayJ, length_append -> axP, length_singleton -> axR, mem_append -> ax_, mem_singleton -> ax2
namespace Go.RX.Vb
open Go Go.RX Go.Proofs Go.Vs
theorem OX{H1 H2:HP}{acc:List bX}{C:Nat->Int}{x:bX}{c:Int}(h:wG H1 acc C)(hg:ek H2 H1)(hx:cX H2 (nI false (bg c) x.s.aC)):wG H2 (acc++[x]) (au C acc.length c):=by
 intro i hi;rw[axP,axR]at hi;by_cases he:i=acc.length
 .subst he;rw[show au C acc.length c acc.length=c from if_pos rfl];simpa using hx
 .rw [show au C acc.length c i=C i from if_neg he,List.getElem_append_left (by omega)];exact hg.trans (h i (by omega))
theorem OY{n:Nat}(h:n<256^1):ae .u8 (n:Int)=(n:Int):=CQ h
theorem wO{α:Type}(f:α->List Nat)(w:Nat)(s:List α)(x:α)(hs: ∀y∈s,(f y).length=w)(hx:(f x).length=w): ∀j,j<ag (((s++[x]).length:Int)*(w:Int))->cb f (s++[x]) j=bV (cb f s) (ag ((s.length:Int)*(w:Int))) w (aJ (f x)) j:=BN f w s x hs hx λ_ _=>rfl
theorem XA{a b c e d a' b':HP}{k:Nat}{r r':List Value}{L:List HP}(h1:a=a')(h2:b=b')(h3:r=r')(h4:L.getLast? =some d): ∃mid,a::b::ak k true r::c::e::L=[a',b',ak k true r',c,e]++mid++[d]:=by
 subst h1 h2 h3;obtain⟨hn,hl⟩:=ayJ.1 h4;exact⟨hn,by rw[hl];rfl⟩
set_option maxRecDepth 100000 in
set_option maxHeartbeats 8000000 in
theorem agK(b b1 b2:Nat)(v:V1)(q:Bool)(l:List Nat)(hl:hZ l)(H:HP)(hH:H.wr=true):ao ax8 102 [wP b1,wP b2] [dB b false v.v q,aN false v.v l,ak b1 true [.int .u8 0,.int .u8 0,.slice none 0 0],ak b2 true [wP b],H]
  λr hs=>r= .tuple #[]/\∃(v' u:V1) (q':Bool) (l':List Nat) (C:Nat->Int) (H':HP),hs=[ez true u.v (bI.bB (ct q l)).1.l C,dB b false v'.v q',aN false v'.v l',ak b1 true (sK (bI.bB (ct q l)).1 u.v),ak b2 true [wP b],H']/\ct q' l'=(bI.bB (ct q l)).2/\hZ l'/\H'.wr=true/\ek H' H/\wG H' (bI.bB (ct q l)).1.l C:=by
 refine ao.post (acp (λr hs=>r= .tuple #[]/\∃(v' u:V1) (q':Bool) (l':List Nat) (C:Nat->Int) (H':HP),(∃mid,hs=[dB b false v'.v q',aN false v'.v l',ak b1 true (sK (bI.bB (ct q l)).1 u.v),ak b2 true [wP b],H']++mid++[ez true u.v (bI.bB (ct q l)).1.l C])/\ct q' l'=(bI.bB (ct q l)).2/\hZ l'/\H'.wr=true/\ek H' H/\wG H' (bI.bB (ct q l)).1.l C) (l.length:Int) (aJ l) q v b b1 b2 H ?_) ?_;rotate_left
 .rintro r hs ⟨rfl,v',u,q',l',C,H',⟨mid,rfl⟩,h1⟩;exact⟨_,bq.trans (bq.perm List.perm_append_comm) (bq.sub (List.Sublist.append (List.Sublist.refl _) (List.sublist_append_left _ _))),rfl,v',u,q',l',C,H',rfl,h1⟩
 unfold Tj;intro _ _;refine bt 1 (.inl ⟨rfl,rfl⟩) rfl hl cu.rfl rfl λv0 q0 l0 zB ho0 YR=>?_
 refine bt 1 (.inl ⟨rfl,rfl⟩) ho0 zB cu.rfl rfl λv1 q1 l1 JC ho1 CJ=>?_
 refine lv ho1 JC cu.rfl rfl λv2 q2 l2 N2 O2 NF C1 FX eN2 eO2=>?_
 refine⟨λx=> ∃(w w2:V1) (n:Nat) (q:Bool) (l:List Nat) (acc:List bX) (C:Nat->Int) (H1:HP),x=⟨[],[w,w2],[(n:Int),(l.length:Int),(acc.length:Int)],[aJ l,cb (λ(x:bX)=>x.s.root) acc,cb (λ(x:bX)=>x.s.bind) acc,cb (λ(x:bX)=>x.s.own) acc,cb (λ(x:bX)=>x.s.cJ) acc,dK (λ(x:bX)=>x.s.gi) acc,dK (λ(x:bX)=>x.s.gj) acc,dK (λ(x:bX)=>x.s.gk) acc,dK (λ(x:bX)=>x.s.cS) acc,cb (λ(x:bX)=>x.s.send.key) acc,bu (λ(x:bX)=>x.s.send.n) acc,cb (λ(x:bX)=>x.s.recv.key) acc,bu (λ(x:bX)=>x.s.recv.n) acc,bu (λ(x:bX)=>x.s.prev) acc,C,cb (λ(x:bX)=>x.ident) acc,cb (λ(x:bX)=>x.qG) acc,dK (λ(x:bX)=>x.cZ) acc,bu (λ(x:bX)=>x.dH) acc,dK (λ(x:bX)=>x.own) acc,dK (λ(x:bX)=>x.current) acc],[q],[H1],[]⟩/\hZ l/\acc.length+n=N2/\(∀y∈acc,mO y)/\mS bS n (ct q l) acc=mS bS N2 O2 []/\H1.wr=true/\ek H1 H/\wG H1 acc C,λx=>(x.i.getD 0 0).toNat,?_,?_⟩
 .exact⟨v2,⟨.slice none 0 0,rfl⟩,_,_,0,_,cb (λ(x:bX)=>x.s.root) [],cb (λ(x:bX)=>x.s.bind) [],cb (λ(x:bX)=>x.s.own) [],cb (λ(x:bX)=>x.s.cJ) [],dK (λ(x:bX)=>x.s.gi) [],dK (λ(x:bX)=>x.s.gj) [],dK (λ(x:bX)=>x.s.gk) [],dK (λ(x:bX)=>x.s.cS) [],cb (λ(x:bX)=>x.s.send.key) [],bu (λ(x:bX)=>x.s.send.n) [],cb (λ(x:bX)=>x.s.recv.key) [],bu (λ(x:bX)=>x.s.recv.n) [],bu (λ(x:bX)=>x.s.prev) [],λ_=>0,cb (λ(x:bX)=>x.ident) [],cb (λ(x:bX)=>x.qG) [],dK (λ(x:bX)=>x.cZ) [],bu (λ(x:bX)=>x.dH) [],dK (λ(x:bX)=>x.own) [],dK (λ(x:bX)=>x.current) [],q2,H,rfl,rfl,rfl,rfl,rfl,λ_ _=>rfl,rfl,rfl,rfl,rfl,λ_ h=>absurd h (by simp),λ_ h=>absurd h (by simp),λ_ h=>absurd h (by simp),λ_ h=>absurd h (by simp),λ_ h=>absurd h (by simp),λ_ h=>absurd h (by simp),λ_ h=>absurd h (by simp),λ_ h=>absurd h (by simp),λ_ h=>absurd h (by simp),λ_ h=>absurd h (by simp),λ_ h=>absurd h (by simp),λ_ h=>absurd h (by simp),λ_ h=>absurd h (by simp),λ_ h=>absurd h (by simp),λ_ h=>absurd h (by simp),λ_ h=>absurd h (by simp),λ_ h=>absurd h (by simp),λ_ h=>absurd h (by simp),λ_ h=>absurd h (by simp),λ_ h=>absurd h (by simp),v2,_,N2,q2,l2,[],λ_=>0,H,rfl,NF,by simp,by simp,by rw[C1],hH,ek.refl,λ_ h=>absurd h (by simp)⟩
 rintro wa ua _ _ _ _ _ _ _ _ _ _ _ _ _ _ _ _ _ Ca _ _ _ _ _ _ qa Ha ⟨wa,ua,na,qa,la,fW,Ca,Ha,I8,hla,hna,rI,E1,hwa,hga,hea⟩;simp only[Ext.mk.injEq,List.cons.injEq,and_true,true_and]at I8;obtain⟨⟨rfl,rfl⟩,⟨rfl,rfl,rfl⟩,⟨rfl,rfl,rfl,rfl,rfl,rfl,rfl,rfl,rfl,rfl,rfl,rfl,rfl,rfl,rfl,rfl,rfl,rfl,rfl,rfl,rfl⟩,⟨rfl,rfl⟩⟩:=I8;refine⟨λcC=>?_,λlS=>?_⟩
 .obtain⟨m,rfl,rfl,rY⟩:=oA bS cC;intro _;refine OM hwa rfl hla cu.rfl rfl λve c qe le He hle V6 iW hwe Ts Tt=>?_
  intro _;have hx:mO (bS.bB (ct false la)).1:=iW;refine⟨by omega,λ_=>⟨by omega,λ_=>λw3=>?_⟩⟩;refine⟨ve,w3,(m:Int),_,((fW++[(bS.bB (ct false la)).1]).length:Int),_,cb (λ(x:bX)=>x.s.root) (fW++[(bS.bB (ct false la)).1]),cb (λ(x:bX)=>x.s.bind) (fW++[(bS.bB (ct false la)).1]),cb (λ(x:bX)=>x.s.own) (fW++[(bS.bB (ct false la)).1]),cb (λ(x:bX)=>x.s.cJ) (fW++[(bS.bB (ct false la)).1]),dK (λ(x:bX)=>x.s.gi) (fW++[(bS.bB (ct false la)).1]),dK (λ(x:bX)=>x.s.gj) (fW++[(bS.bB (ct false la)).1]),dK (λ(x:bX)=>x.s.gk) (fW++[(bS.bB (ct false la)).1]),dK (λ(x:bX)=>x.s.cS) (fW++[(bS.bB (ct false la)).1]),cb (λ(x:bX)=>x.s.send.key) (fW++[(bS.bB (ct false la)).1]),bu (λ(x:bX)=>x.s.send.n) (fW++[(bS.bB (ct false la)).1]),cb (λ(x:bX)=>x.s.recv.key) (fW++[(bS.bB (ct false la)).1]),bu (λ(x:bX)=>x.s.recv.n) (fW++[(bS.bB (ct false la)).1]),bu (λ(x:bX)=>x.s.prev) (fW++[(bS.bB (ct false la)).1]),au Ca fW.length c,cb (λ(x:bX)=>x.ident) (fW++[(bS.bB (ct false la)).1]),cb (λ(x:bX)=>x.qG) (fW++[(bS.bB (ct false la)).1]),dK (λ(x:bX)=>x.cZ) (fW++[(bS.bB (ct false la)).1]),bu (λ(x:bX)=>x.dH) (fW++[(bS.bB (ct false la)).1]),dK (λ(x:bX)=>x.own) (fW++[(bS.bB (ct false la)).1]),dK (λ(x:bX)=>x.current) (fW++[(bS.bB (ct false la)).1]),qe,He,BO (by omega),rfl,rfl,rfl,rfl,λ_ _=>rfl,rfl,rfl,rfl,by simp,?_,?_,?_,?_,?_,?_,?_,?_,?_,?_,?_,?_,?_,λ_ _=>rfl,?_,?_,?_,?_,?_,?_,⟨ve,w3,m,qe,le,_,_,He,rfl,hle,by simp;omega,?_,?_,hwe,Ts.then hga,OX hea Ts Tt⟩,?_⟩
  .exact wO (λ(x:bX)=>x.s.root) 32 fW _ (λy hy=>(rI y hy).root) iW.root
  .exact wO (λ(x:bX)=>x.s.bind) 32 fW _ (λy hy=>(rI y hy).bind) iW.bind
  .exact wO (λ(x:bX)=>x.s.own) 32 fW _ (λy hy=>(rI y hy).own) iW.own
  .exact wO (λ(x:bX)=>x.s.cJ) 32 fW _ (λy hy=>(rI y hy).cJ) iW.cJ
  .exact sN (λ(x:bX)=>x.s.gi) fW _ rfl
  .exact sN (λ(x:bX)=>x.s.gj) fW _ rfl
  .exact sN (λ(x:bX)=>x.s.gk) fW _ rfl
  .exact sN (λ(x:bX)=>x.s.cS) fW _ rfl
  .exact wO (λ(x:bX)=>x.s.send.key) 32 fW _ (λy hy=>(rI y hy).sk) iW.sk
  .exact m_ (λ(x:bX)=>x.s.send.n) fW _ rfl
  .exact wO (λ(x:bX)=>x.s.recv.key) 32 fW _ (λy hy=>(rI y hy).rk) iW.rk
  .exact m_ (λ(x:bX)=>x.s.recv.n) fW _ rfl
  .exact m_ (λ(x:bX)=>x.s.prev) fW _ rfl
  .exact wO (λ(x:bX)=>x.ident) 32 fW _ (λy hy=>(rI y hy).ident) iW.ident
  .exact wO (λ(x:bX)=>x.qG) 32 fW _ (λy hy=>(rI y hy).qG) iW.qG
  .exact sN (λ(x:bX)=>x.cZ) fW _ rfl
  .exact m_ (λ(x:bX)=>x.dH) fW _ rfl
  .exact sN (λ(x:bX)=>x.own) fW _ rfl
  .exact sN (λ(x:bX)=>x.current) fW _ rfl
  .intro y hy;rcases ax_.1 hy with hy | hy
   .exact rI y hy
   .rw [ax2.1 hy];exact hx
  .exact(congrArg (λz=>Go.Vs.mS bS m z _) V6).trans (rY.symm.trans E1)
  .simp only[ah];omega
 .rw [oz bS lS]at E1;have hsa:ct qa la=(mS bS N2 O2 []).2:=by rw[<-E1]
  have haa:fW=(mS bS N2 O2 []).1:=by rw[<-E1]
  subst haa eN2 eO2;refine⟨rfl,wa,ua,_,la,Ca,Ha,XA rfl rfl ?_ rfl,hsa,hla,hwa,hga,hea⟩;rw[OY YR,OY CJ];rfl
theorem Tu{a b d:HP}{k:Nat}{r r':List Value}(h:r=r'):[a,b,ak k true r,d]=[a,b,ak k true r',d]:=by rw[h]
theorem OZ(b b1 b2:Nat)(v:V1)(q:Bool)(l:List Nat)(hl:hZ l):ao ax8 55 [wP b1,wP b2] [dB b false v.v q,aN false v.v l,ak b1 true (axQ (aj .u8 16 (λ_=>0)) [.int .u8 0,.bool false,.int .u64 0]),ak b2 true [wP b]]
  λr hs=>r= .tuple #[]/\∃(v':V1) (q':Bool) (l':List Nat),hs=[dB b false v'.v q',aN false v'.v l',ak b1 true (axQ (aj .u8 16 (aJ (dJ.bB (ct q l)).1.id)) [.int .u8 ((dJ.bB (ct q l)).1.aM:Int),.bool (!(bi (dJ.bB (ct q l)).1.out==0)),.int .u64 ((dJ.bB (ct q l)).1.since:Int)]),ak b2 true [wP b]]/\ct q' l'=(dJ.bB (ct q l)).2/\hZ l':=by
 refine acq _ (l.length:Int) (aJ l) q v b b1 b2 ?_;unfold Tr;refine df 16 rfl (by decide) rfl hl cu.rfl rfl λv0 w0 n0 A0 q0 l0 zB ho0 DS wI=>?_
 refine⟨DS,λ_=>⟨DS,λ_=>?_⟩⟩;intro _;refine bt 1 (.inl ⟨rfl,rfl⟩) ho0 zB cu.rfl rfl λv1 q1 l1 JC ho1 CJ=>?_
 intro _;refine bt 1 (.inl ⟨rfl,rfl⟩) ho1 JC cu.rfl rfl λv2 q2 l2 NF C1 FX=>?_
 have VD:=nJ C1;intro _;refine bt 8 (.inr (.inr ⟨rfl,rfl⟩)) VD NF cu.rfl rfl λv3 q3 l3 Z4 Xs hb3=>?_
 refine⟨rfl,v3,_,l3,Tu ?_,Xs,Z4⟩;rw[OY CJ,jZ];exact congrArg (λx=>axQ x _) (gy wI)
open Go.RX Go.Proofs
set_option maxRecDepth 100000
def HU(al:PT)(x0:Int)(A0:Nat->Int)(v0:V1):Prop:=
 bf (yB v0.v=true) (
 al (.slice none 0 0) [bQ v0 x0 A0]) (
 ∀_:V1,ay (0<=x0) (
 ay (0<=x0) (
 j8 x0 (
 ∀v2:V1,al (v2.v) [bQ v0 x0 A0,cr v2 x0 A0]))))
theorem Tv(al:PT)(x0:Int)(A0:Nat->Int)(v0:V1)(h:HU al x0 A0 v0):ao ax8 111 [v0.v] [bQ v0 x0 A0] al:=
 vm (C:=cx) [.vv 0] [.cF false 0 5 1 (.var 0) [⟨.int .u8,1,.cM 0⟩]] ⟨0,1,1,1,0,0,0⟩ ⟨[x0],[A0],[],[],[v0],[],[],[]⟩ Tryz.func111 (by kernel_rfl) h
end Go.RX.Vb

namespace Go.RX
theorem ao.tell{P:Program}{f:Nat}{args:List Value}{pre:List HP}{post:Value->List HP->Prop}{p:Prop}(hp: ∀(w:World) (Fs:List HP),aU (pre++Fs) w->p)(h:p->ao P f args pre post):ao P f args pre post:=
 λw Fs o=>h (hp w Fs o) w Fs o
theorem aml{a b c c':HP}{l L:List HP}(h:c'=c)(hl:l.Sublist L):(a::b::c::l).Sublist (a::b::c'::L):=by
 subst h;exact((hl.cons_cons _).cons_cons _).cons_cons _
end Go.RX
namespace Go.RX.Vb
open Go Go.RX Go.Proofs Go.Vs
theorem HV(v:V1)(m:List Nat)(hm:hZ m):ao ax8 111 [v.v] [aN false v.v m] λr hs=> ∃o:V1,r=o.v/\hs=[aN false v.v m,aN true o.v m]:=by
 refine ao.tell (p:=yB v.v=true->m=[]) ?_ λhn=>?_
 .intro w Fs ⟨S,hS⟩ hn;obtain⟨_,hv⟩:=(hS.at_ 0 _ rfl).1.1;obtain⟨a,n,c,e,h1,_,h2,_⟩:=hv;rw[e]at hn;cases a with
  | some a=>cases hn
  | none=>exact aye (h2 rfl)
 .refine ao.post (Tv (λr hs=>(yB v.v=true/\r= .slice none 0 0/\hs=[aN false v.v m])\/∃o:V1,r=o.v/\hs=[aN false v.v m,aN true o.v m]) (m.length:Int) (aJ m) v ?_) ?_
  .unfold HU;have:=hm.n;exact⟨λh=> .inl ⟨h,rfl,rfl⟩,λ_=>λv1=>⟨by omega,λ_=>⟨by omega,λ_=>⟨by omega,λ_=>λv2=> .inr ⟨v2,rfl,rfl⟩⟩⟩⟩⟩
  .rintro r hs (⟨h,rfl,rfl⟩ | h)
   .refine⟨_,bq.front (A:=[aN false v.v m]) (bq.tN 5 1),⟨.slice none 0 0,rfl⟩,rfl,?_⟩;rw[hn h];rfl
   .exact⟨_,bq.refl _,h⟩
theorem BS{v:V1}{m:List Nat}{n:Int}{A:Nat->Int}(hm:hZ m)(hA:cu A m)(hn:n=(m.length:Int)){R:V1->Int->(Nat->Int)->Prop}(h: ∀o:V1,R o (m.length:Int) (aJ m)):
  ∃post,ao ax8 111 [v.v] [aA false 5 1 v.v (ag n) (aG (ag n) [ax .u8 1 A])] post/\
   ∀x hs,post x hs->∃v1:V1,∃x1:Int,∃A1:(Nat->Int),x=v1.v/\hs=[aA false 5 1 v.v (ag n) (aG (ag n) [ax .u8 1 A]),aA true 5 1 v1.v (ag x1) (aG (ag x1) [ax .u8 1 A1])]/\R v1 x1 A1:=by
 subst hn;rw[ax3,hA.wj];refine⟨_,HV v m hm,?_⟩;rintro x hs ⟨o,rfl,rfl⟩;exact⟨o,_,_,rfl,rfl,h o⟩
theorem BT{b:Nat}{v:V1}{q:Bool}{l:List Nat}{A:Nat->Int}{n X:Int}{o:tq}(k:Nat)(hX:X=(k:Int))(ho:ct q l=o)(hl:hZ l)(hA:cu A l)(hn:n=(l.length:Int)){R:V1->V1->Int->Int->(Nat->Int)->(Nat->Int)->Bool->Prop}
  (h: ∀(v' v2:V1) (q':Bool) (l' m:List Nat),hZ l'->hZ m->ct q' l'=(nk k o).2->m=(nk k o).1->R v' v2 (l'.length:Int) (m.length:Int) (aJ l') (aJ m) q'):
  ∃post,ao ax8 45 [.pointer (some ⟨b,0,none⟩),.int .i64 X] [ak b true ([.bool false,v.v,.bool q]),aA false 5 1 v.v (ag n) (aG (ag n) [ax .u8 1 A])] post/\
   ∀x hs,post x hs->∃v1:V1,∃v2:V1,∃x1:Int,∃x2:Int,∃A1:(Nat->Int),∃A2:(Nat->Int),∃q1:Bool,x=v2.v/\hs=[ak b true ([.bool false,v1.v,.bool q1]),aA false 5 1 v1.v (ag x1) (aG (ag x1) [ax .u8 1 A1]),aA false 5 1 v2.v (ag x2) (aG (ag x2) [ax .u8 1 A2])]/\R v1 v2 x1 x2 A1 A2 q1:=by
 subst hn ho hX;rw[ax3,hA.wj];refine⟨_,yY b v q l hl k,?_⟩;rintro x hs ⟨o',v',q',l',m,rfl,rfl,he,PU,hm⟩;exact⟨v',o',_,_,_,_,q',rfl,rfl,h v' o' q' l' m PU hm (by rw[<-he]) (by rw[<-he])⟩
theorem Tw{b b1 b2:Nat}{v:V1}{q:Bool}{l:List Nat}{A:Nat->Int}{n:Int}{o:tq}{H:HP}(hH:H.wr=true)(ho:ct q l=o)(hl:hZ l)(hA:cu A l)(hn:n=(l.length:Int)){R:V1->Int->Int->Int->Int->(Nat->Int)->Bool->HP->Prop}
  (h: ∀(v':V1) (c:Int) (q':Bool) (l':List Nat) (H':HP),hZ l'->ct q' l'=(bI.bB o).2->kb (bI.bB o).1->H'.wr=true->ek H' H->(∃D:Nat->Int,cX H' (ez false (bg c) (bI.bB o).1.l D)/\wG H' (bI.bB o).1.l D)->
   R v' ((bI.bB o).1.dev.a:Int) ((bI.bB o).1.dev.d:Int) c (l'.length:Int) (aJ l') q' H'):
  ∃post,ao ax8 102 [.pointer (some ⟨b1,0,none⟩),.pointer (some ⟨b2,0,none⟩)] [ak b true ([.bool false,v.v,.bool q]),aA false 5 1 v.v (ag n) (aG (ag n) [ax .u8 1 A]),ak b1 true ([.int .u8 0,.int .u8 0,.slice none 0 0]),ak b2 true ([.pointer (some ⟨b,0,none⟩)]),H] post/\
   ∀x hs,post x hs->∃v1:V1,∃x1:Int,∃x2:Int,∃x3:Int,∃x4:Int,∃A1:(Nat->Int),∃q1:Bool,∃p2:HP,x= .tuple #[]/\hs=[ak b true ([.bool false,v1.v,.bool q1]),aA false 5 1 v1.v (ag x4) (aG (ag x4) [ax .u8 1 A1]),ak b1 true ([.int .u8 x1,.int .u8 x2,(bg x3)]),ak b2 true ([.pointer (some ⟨b,0,none⟩)]),p2]/\R v1 x1 x2 x3 x4 A1 q1 p2:=by
 subst hn ho;rw[ax3,hA.wj];refine⟨λr hs=>r= .tuple #[]/\∃(v':V1) (c:Int) (q':Bool) (l':List Nat) (H':HP),hs=[dB b false v'.v q',aN false v'.v l',ak b1 true (sK (bI.bB (ct q l)).1 (bg c)),ak b2 true [wP b],H']/\ct q' l'=(bI.bB (ct q l)).2/\hZ l'/\H'.wr=true/\ek H' H/\∃D:Nat->Int,cX H' (ez false (bg c) (bI.bB (ct q l)).1.l D)/\wG H' (bI.bB (ct q l)).1.l D,?_,?_⟩
 .refine ao.post (ao.know (Q:=λr hs=>r= .tuple #[]/\∃(v':V1) (c:Int) (q':Bool) (l':List Nat) (C:Nat->Int) (H':HP),hs=[ez true (bg c) (bI.bB (ct q l)).1.l C,dB b false v'.v q',aN false v'.v l',ak b1 true (sK (bI.bB (ct q l)).1 (bg c)),ak b2 true [wP b],H']/\ct q' l'=(bI.bB (ct q l)).2/\hZ l'/\H'.wr=true/\ek H' H/\wG H' (bI.bB (ct q l)).1.l C) (agK b b1 b2 v q l hl H hH) ?_) ?_
  .rintro r hs ⟨rfl,v',u,q',l',C,H',rfl,h1⟩ w Fs ho;obtain⟨c,hc⟩:=GZ ho;rw[hc];exact⟨rfl,v',c,q',l',C,H',rfl,h1⟩
  .rintro r hs ⟨_,rfl,v',c,q',l',C,H',rfl,h1,h2,h3,h4,h5⟩;refine⟨_,?_,rfl,v',c,q',l',HP.two H' (ez true (bg c) (bI.bB (ct q l)).1.l C),rfl,h1,h2,rfl,ek.one.then h4,C,cX.other,λi hi=>ek.one.trans (h5 i hi)⟩;refine bq.trans (bq.perm (List.perm_append_comm (l₁:=[ez true (bg c) (bI.bB (ct q l)).1.l C]) (l₂:=[dB b false v'.v q',aN false v'.v l',ak b1 true (sK (bI.bB (ct q l)).1 (bg c)),ak b2 true [wP b],H']))) ?_;exact bq.front (A:=[dB b false v'.v q',aN false v'.v l',ak b1 true (sK (bI.bB (ct q l)).1 (bg c)),ak b2 true [wP b]]) (bq.two h3 rfl)
 .rintro x hs ⟨rfl,v',c,q',l',H',rfl,h1,h2,h3,h4,h5⟩;exact⟨v',_,_,c,_,_,q',H',rfl,rfl,h v' c q' l' H' h2 h1 (Kj (.st hl)) h3 h4 h5⟩
structure E2 (x:Room):Prop where
 id:x.id.length=16
 aM:x.aM<256
theorem Kq{o:tq}(h:C9 o):E2 (dJ.bB o).1:=⟨fI 16 _,E0 (h.bB (raw 16))⟩
theorem Tx{b b1 b2:Nat}{v:V1}{q:Bool}{l:List Nat}{A:Nat->Int}{n:Int}{o:tq}(ho:ct q l=o)(hl:hZ l)(hA:cu A l)(hn:n=(l.length:Int)){R:V1->Int->Int->Int->Int->(Nat->Int)->(Nat->Int)->Bool->Prop}
  (h: ∀(v':V1) (q':Bool) (l':List Nat),hZ l'->ct q' l'=(dJ.bB o).2->E2 (dJ.bB o).1->R v' ((dJ.bB o).1.aM:Int) (bi (dJ.bB o).1.out) ((dJ.bB o).1.since:Int) (l'.length:Int) (aJ l') (aJ (dJ.bB o).1.id) q'):
  ∃post,ao ax8 55 [.pointer (some ⟨b1,0,none⟩),.pointer (some ⟨b2,0,none⟩)] [ak b true ([.bool false,v.v,.bool q]),aA false 5 1 v.v (ag n) (aG (ag n) [ax .u8 1 A]),ak b1 true (axQ (aj .u8 16 (λ_=>0)) ([.int .u8 0,.bool false,.int .u64 0])),ak b2 true ([.pointer (some ⟨b,0,none⟩)])] post/\
   ∀x hs,post x hs->∃v1:V1,∃x1:Int,∃x2:Int,∃x3:Int,∃x4:Int,∃A1:(Nat->Int),∃A2:(Nat->Int),∃q1:Bool,x= .tuple #[]/\hs=[ak b true ([.bool false,v1.v,.bool q1]),aA false 5 1 v1.v (ag x4) (aG (ag x4) [ax .u8 1 A1]),ak b1 true (axQ (aj .u8 16 A2) ([.int .u8 x1,.bool (!(x2==0)),.int .u64 x3])),ak b2 true ([.pointer (some ⟨b,0,none⟩)])]/\R v1 x1 x2 x3 x4 A1 A2 q1:=by
 subst hn ho;rw[ax3,hA.wj];refine⟨_,OZ b b1 b2 v q l hl,?_⟩;rintro x hs ⟨rfl,v',q',l',rfl,h1,h2⟩;exact⟨v',_,_,_,_,_,_,q',rfl,rfl,h v' q' l' h2 h1 (Kq (.st hl))⟩
open Go.RX Go.Proofs
set_option maxRecDepth 100000
set_option maxHeartbeats 4000000
def Ty(al:PT)(x0:Int)(A0:Nat->Int)(q0:Bool)(v0:V1)(b0 b1:Nat)(p0:HP):Prop:=
 ∀b2 b3:Nat,Cl 45 [pp b0,.int .i64 32] [gV b0 v0 q0,bQ v0 x0 A0] <| Bw b0 λv1 v2 x1 x2 A1 A2 q1=>
 ay (0<=x2) (
 ay (0<=x2) (
 ∀b4:Nat,Cl 21 [pp b0,.int .u64 0,.int .i64 8] [gV b0 v1 q1,bQ v1 x1 A1] <| nj b0 λv3 x3 x4 A3 q2=>
 ∀b5 b6 b7 b8:Nat,Cl 21 [pp b0,.int .u64 0,.int .i64 1] [gV b0 v3 q2,bQ v3 x4 A3] λx hs _=> ∃(v4:V1) (x5 x6:Int) (A4:Nat->Int) (q3:Bool),x= .int .u64 x5/\hs=[gV b0 v4 q3,bQ v4 x6 A4]/\
 Cl 21 [pp b0,.int .u64 0,.int .i64 1] [gV b0 v4 q3,bQ v4 x6 A4] λx hs _=> ∃(v5:V1) (x7 x8:Int) (A5:Nat->Int) (q4:Bool),x= .int .u64 x7/\hs=[gV b0 v5 q4,bQ v5 x8 A5]/\
 ∀b9:Nat,Cl 45 [pp b0,.int .i64 32] [gV b0 v5 q4,bQ v5 x8 A5] λx hs _=> ∃(v6 v7:V1) (x9 bA:Int) (A6 A7:Nat->Int) (q5:Bool),x=v7.v/\hs=[gV b0 v6 q5,bQ v6 x9 A6,bQ v7 bA A7]/\
 ay (0<=bA) (
 ay (0<=bA) (
 Cl 45 [pp b0,.int .i64 32] [gV b0 v6 q5,bQ v6 x9 A6] <| Bw b0 λv8 v9 bH bR A8 A9 q6=>
 ay (0<=bR) (
 ay (0<=bR) (
 Cl 21 [pp b0,.int .u64 0,.int .i64 4] [gV b0 v8 q6,bQ v8 bH A8] <| nj b0 λv10 bN dP dM q7=>
 ∃(bO:Ext->Prop) (dG:Ext->Nat),(∃(xj tL:V1) (b_ dD cq:Int) (dx dC fH:Nat->Int) (q8:Bool),b_=bN/\xj=v10/\q8=q7/\xj=v10/\dD=dP/\cG dD dx dM/\tL=(⟨.slice none 0 0,rfl⟩:V1)/\tL=(⟨.slice none 0 0,rfl⟩:V1)/\cq=0/\cG cq dC (λ_=>0)/\cG (cq*32) fH (λ_=>0)/\bO ⟨[],[xj,tL],[b_,dD,cq],[dx,dC,fH],[q8],[],[]⟩)/\
 ∀(xj tL:V1) (b_ dD cq:Int) (dx dC fH:Nat->Int) (q8:Bool),bO ⟨[],[xj,tL],[b_,dD,cq],[dx,dC,fH],[q8],[],[]⟩->
 bf ((0<b_)/\(¬(q8=true))) (
 ∀_ _:Nat,Cl 21 [pp b0,.int .u64 0,.int .i64 4] [gV b0 xj q8,bQ xj dD dx] <| nj b0 λCM dt cO gw q9=>
 ∀_:Nat,Cl 45 [pp b0,.int .i64 32] [gV b0 CM q9,bQ CM cO gw] λx hs _=> ∃(xk By:V1) (d_ gN:Int) (gx fw:Nat->Int) (q10:Bool),x=By.v/\hs=[gV b0 xk q10,bQ xk d_ gx,bQ By gN fw]/\
 ay (0<=gN) (
 ay (0<=gN) (
 ∀_:Nat,ay (0<=cq) (
 j8 ((cq+1)*36) (
 ∀tM:V1,∃(acr JX:V1) (agL acs Kr:Int) (Tk Tl Tm:Nat->Int) (q8':Bool),agL=(ae .u64 (b_ - 1))/\acr=xk/\q8'=q10/\acr=xk/\acs=d_/\cG acs Tk gx/\JX=tM/\JX=tM/\Kr=(cq+1)/\cG Kr Tl (au dC (ag cq) (ae .u32 dt))/\cG (Kr*32) Tm (bV fH (ag (cq*32)) 32 (bV (λ_=>0) 0 (ag (ar .jl .i64 gN 32)) fw))/\Dn bO dG ⟨[],[acr,JX],[agL,acs,Kr],[Tk,Tl,Tm],[q8'],[],[]⟩ ⟨[],[xj,tL],[b_,dD,cq],[dx,dC,fH],[q8],[],[]⟩))))) (
 Cl 21 [pp b0,.int .u64 0,.int .i64 4] [gV b0 xj q8,bQ xj dD dx] <| nj b0 λCM dt cO gw q9=>
 fj dt ((
 Cl 21 [pp b0,.int .u64 0,.int .i64 4] [gV b0 CM q9,bQ CM cO gw] <| nj b0 λxk d_ gN gx q10=>
 ∃(mc:Ext->Prop) (xp:Ext->Nat),(∃(tM tw:V1) (eT ff e9:Int) (fw eY eQ fb:Nat->Int) (HI:Bool),∃p1:HP,eT=d_/\tM=xk/\HI=q10/\tM=xk/\ff=gN/\cG ff fw gx/\tw=(⟨.slice none 0 0,rfl⟩:V1)/\p1=p0/\tw=(⟨.slice none 0 0,rfl⟩:V1)/\e9=0/\cG e9 eY (λ_=>0)/\cG e9 eQ (λ_=>0)/\cG e9 fb (λ_=>0)/\mc ⟨[],[tM,tw],[eT,ff,e9],[fw,eY,eQ,fb],[HI],[p1],[]⟩)/\
 ∀(tM tw:V1) (eT ff e9:Int) (fw eY eQ fb:Nat->Int) (HI:Bool),∀p1:HP,mc ⟨[],[tM,tw],[eT,ff,e9],[fw,eY,eQ,fb],[HI],[p1],[]⟩->
 bf ((0<eT)/\(¬(HI=true))) (
 ∀y4:Nat,Cl 102 [pp y4,pp b5] [gV b0 tM HI,bQ tM ff fw,ak y4 true ([.int .u8 0,.int .u8 0,.slice none 0 0]),pJ b5 b0,p1] λx hs _=> ∃(yZ:V1) (i_ ki iM jY:Int) (fg:Nat->Int) (VB:Bool),∃p2:HP,x= .tuple #[]/\hs=[gV b0 yZ VB,bQ yZ jY fg,ak y4 true ([.int .u8 i_,.int .u8 ki,(bg iM)]),pJ b5 b0,p2]/\
 ∀_:Nat,ay (0<=e9) (
 j8 ((e9+1)*32) (
 ∀v20:V1,∃(acu J7:V1) (RM JY Tz:Int) (Tn Hs Tp Tq:Nat->Int) (Xc:Bool),∃Zq:HP,RM=(ae .u64 (eT - 1))/\acu=yZ/\Xc=VB/\acu=yZ/\JY=jY/\cG JY Tn fg/\J7=v20/\Zq=p2/\J7=v20/\Tz=(e9+1)/\cG Tz Hs (au eY (ag e9) i_)/\cG Tz Tp (au eQ (ag e9) ki)/\cG Tz Tq (au fb (ag e9) iM)/\Dn mc xp ⟨[],[acu,J7],[RM,JY,Tz],[Tn,Hs,Tp,Tq],[Xc],[Zq],[]⟩ ⟨[],[tM,tw],[eT,ff,e9],[fw,eY,eQ,fb],[HI],[p1],[]⟩))) (
 ∀y4 DR Mb:Nat,Cl 21 [pp b0,.int .u64 0,.int .i64 1] [gV b0 tM HI,bQ tM ff fw] <| nj b0 λyZ i_ ki fg VB=>
 Cl 21 [pp b0,.int .u64 0,.int .i64 1] [gV b0 yZ VB,bQ yZ ki fg] λx hs _=> ∃(v20:V1) (iM jY:Int) (fR:Nat->Int) (Zn:Bool),x= .int .u64 iM/\hs=[gV b0 v20 Zn,bQ v20 jY fR]/\
 Cl 45 [pp b0,.int .i64 8] [gV b0 v20 Zn,bQ v20 jY fR] λx hs _=> ∃(W5 DX:V1) (rj pR:Int) (iB jk:Nat->Int) (q14:Bool),x=DX.v/\hs=[gV b0 W5 q14,bQ W5 rj iB,bQ DX pR jk]/\
 ay (0<=pR) (
 ay (0<=pR) (
 Cl 21 [pp b0,.int .u64 0,.int .i64 4] [gV b0 W5 q14,bQ W5 rj iB] <| nj b0 λzQ jw LX iG Qe=>
 ∃(kz:Ext->Prop) (tO:Ext->Nat),(∃(CN Aj:V1) (Ah uV uW:Int) (kH mT:Nat->Int) (OK:Bool),Ah=jw/\CN=zQ/\OK=Qe/\CN=zQ/\uV=LX/\cG uV kH iG/\Aj=(⟨.slice none 0 0,rfl⟩:V1)/\Aj=(⟨.slice none 0 0,rfl⟩:V1)/\uW=0/\cG (uW*16) mT (λ_=>0)/\kz ⟨[],[CN,Aj],[Ah,uV,uW],[kH,mT],[OK],[],[]⟩)/\
 ∀(CN Aj:V1) (Ah uV uW:Int) (kH mT:Nat->Int) (OK:Bool),kz ⟨[],[CN,Aj],[Ah,uV,uW],[kH,mT],[OK],[],[]⟩->
 bf ((0<Ah)/\(¬(OK=true))) (
 ∀_:Nat,Cl 45 [pp b0,.int .i64 16] [gV b0 CN OK,bQ CN uV kH] <| Bw b0 λHH _ Jh C6 mQ oS Zo=>
 ay (0<=C6) (
 ay (0<=C6) (
 ∀_:Nat,ay (0<=uW) (
 j8 ((uW+1)*16) (
 ∀Ji:V1,∃(acv acw:V1) (agM OB J6:Int) (agN agO:Nat->Int) (agP:Bool),agM=(ae .u64 (Ah - 1))/\acv=HH/\agP=Zo/\acv=HH/\OB=Jh/\cG OB agN mQ/\acw=Ji/\acw=Ji/\J6=(uW+1)/\cG (J6*16) agO (bV mT (ag (uW*16)) 16 (bV (λ_=>0) 0 (ag (ar .jl .i64 C6 16)) oS))/\Dn kz tO ⟨[],[acv,acw],[agM,OB,J6],[agN,agO],[agP],[],[]⟩ ⟨[],[CN,Aj],[Ah,uV,uW],[kH,mT],[OK],[],[]⟩))))) (
 ∀Jf:Nat,Cl 21 [pp b0,.int .u64 0,.int .i64 1] [gV b0 CN OK,bQ CN uV kH] <| nj b0 λHH Jh C6 mQ Zo=>
 Cl 45 [pp b0,.int .i64 16] [gV b0 HH Zo,bQ HH C6 mQ] λx hs _=> ∃(J4 Ji:V1) (x38 Su:Int) (oS qH:Nat->Int) (q18:Bool),x=Ji.v/\hs=[gV b0 J4 q18,bQ J4 x38 oS,bQ Ji Su qH]/\
 ay (0<=Su) (
 ay (0<=Su) (
 ∀Xd:Nat,Cl 21 [pp b0,.int .u64 0,.int .i64 1] [gV b0 J4 q18,bQ J4 x38 oS] <| nj b0 λv30 Ai J2 pK q19=>
 ∀b15:Nat,Cl 21 [pp b0,.int .u64 0,.int .i64 1] [gV b0 v30 (q19||(decide (1<Ai))),bQ v30 J2 pK] λx hs _=> ∃(v31:V1) (OA Zg:Int) (qI:Nat->Int) (Xe:Bool),x= .int .u64 OA/\hs=[gV b0 v31 Xe,bQ v31 Zg qI]/\
 ∀b16 b17:Nat,Cl 21 [pp b0,.int .u64 0,.int .i64 1] [gV b0 v31 Xe,bQ v31 Zg qI] λx hs _=> ∃(v32:V1) (x44 W3:Int) (rO:Nat->Int) (q21:Bool),x= .int .u64 x44/\hs=[gV b0 v32 q21,bQ v32 W3 rO]/\
 Cl 21 [pp b0,.int .u64 0,.int .i64 1] [gV b0 v32 q21,bQ v32 W3 rO] λx hs _=> ∃(v33:V1) (x46 x47:Int) (sH:Nat->Int) (q22:Bool),x= .int .u64 x46/\hs=[gV b0 v33 q22,bQ v33 x47 sH]/\
 ∀b18:Nat,Cl 45 [pp b0,.int .i64 32] [gV b0 v33 q22,bQ v33 x47 sH] λx hs _=> ∃(Zi v35:V1) (J3 EY:Int) (sI vo:Nat->Int) (q23:Bool),x=v35.v/\hs=[gV b0 Zi q23,bQ Zi J3 sI,bQ v35 EY vo]/\
 ay (0<=EY) (
 ay (0<=EY) (
 Cl 45 [pp b0,.int .i64 32] [gV b0 Zi q23,bQ Zi J3 sI] <| Bw b0 λv36 OC x50 P8 vp uU q24=>
 ay (0<=P8) (
 ay (0<=P8) (
 Cl 45 [pp b0,.int .i64 32] [gV b0 v36 q24,bQ v36 x50 vp] <| Bw b0 λVy SA W4 x53 wD vq q25=>
 ay (0<=x53) (
 ay (0<=x53) (
 Cl 21 [pp b0,.int .u64 0,.int .i64 4] [gV b0 Vy q25,bQ Vy W4 wD] <| nj b0 λv40 x54 x55 wE q26=>
 fj x54 ((
 Cl 45 [pp b0,.int .i64 x54] [gV b0 v40 q26,bQ v40 x55 wE] <| Bw b0 λXf v42 x56 x57 wF Jg q27=>
 Cl 111 [v42.v] [bQ v42 x57 Jg] λx hs l=> ∃(v43:V1) (LY:Int) (C5:Nat->Int),x=v43.v/\hs=l++[cr v43 LY C5]/\
 Cl 21 [pp b0,.int .u64 1,.int .i64 1] [gV b0 Xf q27,bQ Xf x56 wF] λx hs _=> ∃(v44:V1) (x59 Zh:Int) (HE:Nat->Int) (q28:Bool),x= .int .u64 x59/\hs=[gV b0 v44 q28,bQ v44 Zh HE]/\
 fj x59 ((
 fj (x59 - 1) ((
 Cl 21 [pp b0,.int .u64 0,.int .i64 4] [gV b0 v44 q28,bQ v44 Zh HE] <| nj b0 λv45 x61 x62 A45 q29=>
 ∃(sJ:Ext->Prop) (HJ:Ext->Nat),(∃(C7 Qd:V1) (Vv P9 x_:Int) (Sv P_ Sw:Nat->Int) (XB:Bool),Vv=x61/\C7=v45/\XB=q29/\C7=v45/\P9=x62/\cG P9 Sv A45/\Qd=(⟨.slice none 0 0,rfl⟩:V1)/\Qd=(⟨.slice none 0 0,rfl⟩:V1)/\x_=0/\cG x_ P_ (λ_=>0)/\cG x_ Sw (λ_=>0)/\sJ ⟨[],[C7,Qd],[Vv,P9,x_],[Sv,P_,Sw],[XB],[],[]⟩)/\
 ∀(C7 Qd:V1) (Vv P9 x_:Int) (Sv P_ Sw:Nat->Int) (XB:Bool),sJ ⟨[],[C7,Qd],[Vv,P9,x_],[Sv,P_,Sw],[XB],[],[]⟩->
 bf ((0<Vv)/\(¬(XB=true))) (
 ∀_ _ _:Nat,Cl 21 [pp b0,.int .u64 0,.int .i64 1] [gV b0 C7 XB,bQ C7 P9 Sv] <| nj b0 λXg LZ x67 A49 q31=>
 Cl 21 [pp b0,.int .u64 0,.int .i64 1] [gV b0 Xg q31,bQ Xg x67 A49] λx hs _=> ∃(SC:V1) (W6 x69:Int) (A50:Nat->Int) (q32:Bool),x= .int .u64 W6/\hs=[gV b0 SC q32,bQ SC x69 A50]/\
 ∀_:Nat,ay (0<=x_) (
 j8 ((x_+1)*2) (
 ∀SD:V1,∃(J_ acx:V1) (agQ acy J9:Int) (agR agS agT:Nat->Int) (agU:Bool),agQ=(ae .u64 (Vv - 1))/\J_=SC/\agU=q32/\J_=SC/\acy=x69/\cG acy agR A50/\acx=SD/\acx=SD/\J9=(x_+1)/\cG J9 agS (au P_ (ag x_) (ae .u8 LZ))/\cG J9 agT (au Sw (ag x_) (ae .u8 W6))/\Dn sJ HJ ⟨[],[J_,acx],[agQ,acy,J9],[agR,agS,agT],[agU],[],[]⟩ ⟨[],[C7,Qd],[Vv,P9,x_],[Sv,P_,Sw],[XB],[],[]⟩))) (
 ∀b19:Nat,Cl 21 [pp b0,.int .u64 0,.int .i64 8] [gV b0 C7 XB,bQ C7 P9 Sv] <| nj b0 λXg LZ x67 A49 q31=>
 Cl 21 [pp b0,.int .u64 0,.int .i64 8] [gV b0 Xg q31,bQ Xg x67 A49] λx hs _=> ∃(SC:V1) (W6 x69:Int) (A50:Nat->Int) (q32:Bool),x= .int .u64 W6/\hs=[gV b0 SC q32,bQ SC x69 A50]/\
 Cl 21 [pp b0,.int .u64 0,.int .i64 8] [gV b0 SC q32,bQ SC x69 A50] λx hs _=> ∃(SD:V1) (x70 x71:Int) (A51:Nat->Int) (q33:Bool),x= .int .u64 x70/\hs=[gV b0 SD q33,bQ SD x71 A51]/\
 Cl 21 [pp b0,.int .u64 0,.int .i64 8] [gV b0 SD q33,bQ SD x71 A51] λx hs _=> ∃(v52:V1) (x72 x73:Int) (Sx:Nat->Int) (q34:Bool),x= .int .u64 x72/\hs=[gV b0 v52 q34,bQ v52 x73 Sx]/\
 Cl 21 [pp b0,.int .u64 0,.int .i64 8] [gV b0 v52 q34,bQ v52 x73 Sx] λx hs _=> ∃(v53:V1) (x74 x75:Int) (A53:Nat->Int) (q35:Bool),x= .int .u64 x74/\hs=[gV b0 v53 q35,bQ v53 x75 A53]/\
 ∀b20:Nat,Cl 21 [pp b0,.int .u64 0,.int .i64 4] [gV b0 v53 q35,bQ v53 x75 A53] λx hs _=> ∃(v54:V1) (x76 x77:Int) (A54:Nat->Int) (q36:Bool),x= .int .u64 x76/\hs=[gV b0 v54 q36,bQ v54 x77 A54]/\
 Cl 21 [pp b0,.int .u64 0,.int .i64 4] [gV b0 v54 q36,bQ v54 x77 A54] λx hs _=> ∃(v55:V1) (x78 x79:Int) (A55:Nat->Int) (q37:Bool),x= .int .u64 x78/\hs=[gV b0 v55 q37,bQ v55 x79 A55]/\
 fj x78 ((
 Cl 45 [pp b0,.int .i64 x78] [gV b0 v55 q37,bQ v55 x79 A55] <| Bw b0 λv56 v57 W7 x81 A56 A57 q38=>
 Cl 111 [v57.v] [bQ v57 x81 A57] λx hs l=> ∃(v58:V1) (x82:Int) (A58:Nat->Int),x=v58.v/\hs=l++[cr v58 x82 A58]/\
 Cl 21 [pp b0,.int .u64 0,.int .i64 4] [gV b0 v56 q38,bQ v56 W7 A56] λx hs _=> ∃(v59:V1) (CO J5:Int) (A59:Nat->Int) (q39:Bool),x= .int .u64 CO/\hs=[gV b0 v59 q39,bQ v59 J5 A59]/\
 ∃(BH:Ext->Prop) (SB:Ext->Nat),(∃(VE Zr:V1) (Qa Qb CP:Int) (W8 W9 W_ Xa Xb:Nat->Int) (Zs:Bool),Qa=CO/\VE=v59/\Zs=q39/\VE=v59/\Qb=J5/\cG Qb W8 A59/\Zr=(⟨.slice none 0 0,rfl⟩:V1)/\Zr=(⟨.slice none 0 0,rfl⟩:V1)/\CP=0/\cG (CP*16) W9 (λ_=>0)/\cG CP W_ (λ_=>0)/\cG CP Xa (λ_=>0)/\cG CP Xb (λ_=>0)/\BH ⟨[],[VE,Zr],[Qa,Qb,CP],[W8,W9,W_,Xa,Xb],[Zs],[],[]⟩)/\
 ∀(VE Zr:V1) (Qa Qb CP:Int) (W8 W9 W_ Xa Xb:Nat->Int) (Zs:Bool),BH ⟨[],[VE,Zr],[Qa,Qb,CP],[W8,W9,W_,Xa,Xb],[Zs],[],[]⟩->
 bf ((0<Qa)/\(¬(Zs=true))) (
 ∀Qc:Nat,Cl 55 [pp Qc,pp b2] [gV b0 VE Zs,bQ VE Qb W8,ak Qc true (axQ (aj .u8 16 (λ_=>0)) ([.int .u8 0,.bool false,.int .u64 0])),pJ b2 b0] λx hs _=> ∃(v63:V1) (x88 x89 x90 x91:Int) (A65 A66:Nat->Int) (q41:Bool),x= .tuple #[]/\hs=[gV b0 v63 q41,bQ v63 x91 A65,G8 Qc A66 x88 (!(x89==0)) x90,pJ b2 b0]/\
 ∀_:Nat,ay (0<=CP) (
 j8 ((CP+1)*32) (
 ∀v64:V1,∃(acz acA:V1) (agV acB O0:Int) (agW agX agY agZ ag0:Nat->Int) (ag1:Bool),agV=(ae .u64 (Qa - 1))/\acz=v63/\ag1=q41/\acz=v63/\acB=x91/\cG acB agW A65/\acA=v64/\acA=v64/\O0=(CP+1)/\cG (O0*16) agX (bV W9 (ag (CP*16)) 16 A66)/\cG O0 agY (au W_ (ag CP) x88)/\cG O0 agZ (au Xa (ag CP) x89)/\cG O0 ag0 (au Xb (ag CP) x90)/\Dn BH SB ⟨[],[acz,acA],[agV,acB,O0],[agW,agX,agY,agZ,ag0],[ag1],[],[]⟩ ⟨[],[VE,Zr],[Qa,Qb,CP],[W8,W9,W_,Xa,Xb],[Zs],[],[]⟩))) (
 al (.tuple #[]) [gV b0 VE Zs,bQ VE Qb W8,ak b1 true (axQ (aj .u8 32 (bV (λ_=>0) 0 (ag (ar .jl .i64 x2 32)) A2)) (.int .u64 x3::(.int .u8 (ae .u8 x5)::(.int .u8 (ae .u8 x7)::(axQ (aj .u8 32 (bV (λ_=>0) 0 (ag (ar .jl .i64 bA 32)) A7)) (axQ (aj .u8 32 (bV (λ_=>0) 0 (ag (ar .jl .i64 bR 32)) A9)) (tL.v::(.int .i64 dt::(tw.v::(.int .u8 (ae .u8 i_)::(.int .u8 (ae .u8 iM)::(axQ (aj .u8 8 (bV (λ_=>0) 0 (ag (ar .jl .i64 pR 8)) jk)) (Aj.v::(.int .u8 (ae .u8 Jh)::(axQ (aj .u8 16 (bV (λ_=>0) 0 (ag (ar .jl .i64 Su 16)) qH)) (.bool (Ai==1)::(.int .u8 (ae .u8 OA)::(.int .u8 (ae .u8 x44)::(.int .u8 (ae .u8 x46)::(axQ (aj .u8 32 (bV (λ_=>0) 0 (ag (ar .jl .i64 EY 32)) vo)) (axQ (aj .u8 32 (bV (λ_=>0) 0 (ag (ar .jl .i64 P8 32)) uU)) (axQ (aj .u8 32 (bV (λ_=>0) 0 (ag (ar .jl .i64 x53 32)) vq)) ([v43.v,.int .i64 (x59 - 1),Qd.v,.int .u64 LZ,.int .u64 W6,.int .u64 x70,.int .u64 x72,.int .u64 x74,.int .u32 (ae .u32 x76),v58.v,Zr.v]))))))))))))))))))))))),p1,pJ b2 b0,pJ b3 b1,bQ v2 x2 A2,ak b4 true ([.pointer (some ⟨b1,32,none⟩)]),pJ b5 b0,pJ b6 b0,ak b7 true ([.pointer (some ⟨b1,33,none⟩)]),ak b8 true ([.pointer (some ⟨b1,33,none⟩),.pointer (some ⟨b1,34,none⟩)]),ak b9 true ([.pointer (some ⟨b1,35,none⟩),.pointer (some ⟨b1,67,none⟩)]),bQ v7 bA A7,bQ v9 bR A9,wm tL cq dC fH,LK tw e9 eY eQ fb,pJ y4 b0,ak DR true ([.pointer (some ⟨b1,102,none⟩)]),ak Mb true ([.pointer (some ⟨b1,102,none⟩),.pointer (some ⟨b1,103,none⟩)]),bQ DX pR jk,wq Aj uW mT,ak Jf true ([.pointer (some ⟨b1,113,none⟩)]),bQ Ji Su qH,JW Xd b1,ak b15 true ([.pointer (some ⟨b1,131,none⟩)]),ak b16 true ([.pointer (some ⟨b1,132,none⟩)]),ak b17 true ([.pointer (some ⟨b1,132,none⟩),.pointer (some ⟨b1,133,none⟩)]),ak b18 true ([.pointer (some ⟨b1,134,none⟩),.pointer (some ⟨b1,166,none⟩),.pointer (some ⟨b1,198,none⟩)]),bQ v35 EY vo,bQ OC P8 uU,bQ SA x53 vq,bQ v42 x57 Jg,cr v43 LY C5,wo Qd x_ P_ Sw,ak b19 true ([.pointer (some ⟨b1,233,none⟩),.pointer (some ⟨b1,234,none⟩),.pointer (some ⟨b1,235,none⟩),.pointer (some ⟨b1,236,none⟩),.pointer (some ⟨b1,237,none⟩)]),ak b20 true ([.pointer (some ⟨b1,238,none⟩)]),bQ v57 x81 A57,cr v58 x82 A58,wk Zr CP W9 W_ Xa Xb])))))))))))))))))))))))))))))))
theorem acC(al:PT)(x0:Int)(A0:Nat->Int)(q0:Bool)(v0:V1)(b0 b1:Nat)(p0:HP)(h:Ty al x0 A0 q0 v0 b0 b1 p0):ao ax8 32 [pp b0,pp b1] [gV b0 v0 q0,bQ v0 x0 A0,Y6 b1,p0] al:=
 vm (C:=akF) Vd.stA Vd.hpI Vd.Og ⟨[x0],[A0],[q0],[b0,b1],[v0],[],[p0],[]⟩ Tryz.func32 (by kernel_rfl) h
end Go.RX.Vb
