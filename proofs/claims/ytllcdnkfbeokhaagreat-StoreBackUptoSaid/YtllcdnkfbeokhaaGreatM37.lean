/- The store's walker. -/
import Derived.Test.YtllcdnkfbeokhaaGreatM36
open Go.IntKind renaming wrap → ae
open Go.Proofs.Tryz renaming prog → auN
open Int renaming toNat → ag, toNat_natCast → auD
open List renaming append → aul, eq_nil_of_length_eq_zero → auH
namespace Go.RX.Vb
open Go.RX Go.Proofs
set_option maxRecDepth 100000
def G7(al:PT)(x0:Int)(A0:Nat→Int)(v0:V1):Prop:=
 bt (xQ v0.v=true) (
 al (.slice none 0 0) [bh v0 x0 A0]) (
 ∀_:V1,ax (0≤x0) (
 ax (0≤x0) (
 lp x0 (
 ∀v2:V1,al (v2.v) [bh v0 x0 A0,bq v2 x0 A0]))))
theorem Ss(al:PT)(x0:Int)(A0:Nat→Int)(v0:V1)(h:G7 al x0 A0 v0):aq auN 111 [v0.v] [bh v0 x0 A0] al:=
 yM (C:=cx) [.vv 0] [.cC false 0 5 1 (.var 0) [⟨.int .u8,1,.cU 0⟩]] ⟨0,1,1,1,0,0,0⟩ ⟨[x0],[A0],[],[],[v0],[],[],[]⟩ Tryz.func111 (by kernel_rfl) h
end Go.RX.Vb

namespace Go.RX
theorem aq.tell{P:Program}{f:Nat}{args:List Value}{pre:List HP}{post:Value→List HP→Prop}{p:Prop}(hp: ∀(w:World) (Fs:List HP),bz (pre++Fs) w→p)(h:p→aq P f args pre post):aq P f args pre post:=
 fun w Fs o=>h (hp w Fs o) w Fs o
theorem ajI{a b c c':HP}{l L:List HP}(h:c'=c)(hl:l.Sublist L):(a::b::c::l).Sublist (a::b::c'::L):=by
 subst h;exact((hl.cons_cons _).cons_cons _).cons_cons _
end Go.RX
namespace Go.RX.Vb
open Go Go.RX Go.Proofs Go.Vs
theorem G8(v:V1)(m:List Nat)(hm:fL m):aq auN 111 [v.v] [aR false v.v m] fun r hs=> ∃o:V1,r=o.v∧hs=[aR false v.v m,aR true o.v m]:=by
 refine aq.tell (p:=xQ v.v=true→m=[]) ?_ fun hn=>?_
 ·intro w Fs ⟨S,hS⟩ hn;obtain⟨_,hv⟩:=(hS.at_ 0 _ rfl).1.1;obtain⟨a,n,c,e,h1,_,h2,_⟩:=hv;rw [e]at hn;cases a with
  | some a=>cases hn
  | none=>exact auH (h2 rfl)
 ·refine aq.post (Ss (fun r hs=>(xQ v.v=true∧r= .slice none 0 0∧hs=[aR false v.v m])∨∃o:V1,r=o.v∧hs=[aR false v.v m,aR true o.v m]) (m.length:Int) (aI m) v ?_) ?_
  ·unfold G7;have:=hm.n;exact⟨fun h=> .inl ⟨h,rfl,rfl⟩,fun _=>fun v1=>⟨by omega,fun _=>⟨by omega,fun _=>⟨by omega,fun _=>fun v2=> .inr ⟨v2,rfl,rfl⟩⟩⟩⟩⟩
  ·rintro r hs (⟨h,rfl,rfl⟩ | h)
   ·refine⟨_,bI.front (A:=[aR false v.v m]) (bI.uy 5 1),⟨.slice none 0 0,rfl⟩,rfl,?_⟩;rw [hn h];rfl
   ·exact⟨_,bI.refl _,h⟩
theorem AZ{v:V1}{m:List Nat}{n:Int}{A:Nat→Int}(hm:fL m)(hA:cj A m)(hn:n=(m.length:Int)){R:V1→Int→(Nat→Int)→Prop}(h: ∀o:V1,R o (m.length:Int) (aI m)):
  ∃post,aq auN 111 [v.v] [aB false 5 1 v.v (ag n) (aM (ag n) [ay .u8 1 A])] post∧
   ∀x hs,post x hs→∃v1:V1,∃x1:Int,∃A1:(Nat→Int),x=v1.v∧hs=[aB false 5 1 v.v (ag n) (aM (ag n) [ay .u8 1 A]),aB true 5 1 v1.v (ag x1) (aM (ag x1) [ay .u8 1 A1])]∧R v1 x1 A1:=by
 subst hn;rw [auD,hA.xi];refine⟨_,G8 v m hm,?_⟩;rintro x hs ⟨o,rfl,rfl⟩;exact⟨o,_,_,rfl,rfl,h o⟩
theorem A_{b:Nat}{v:V1}{q:Bool}{l:List Nat}{A:Nat→Int}{n X:Int}{o:sR}(k:Nat)(hX:X=(k:Int))(ho:cg q l=o)(hl:fL l)(hA:cj A l)(hn:n=(l.length:Int)){R:V1→V1→Int→Int→(Nat→Int)→(Nat→Int)→Bool→Prop}
  (h: ∀(v' v2:V1) (q':Bool) (l' m:List Nat),fL l'→fL m→cg q' l'=(mK k o).2→m=(mK k o).1→R v' v2 (l'.length:Int) (m.length:Int) (aI l') (aI m) q'):
  ∃post,aq auN 45 [.pointer (some ⟨b,0,none⟩),.int .i64 X] [ak b true ([.bool false,v.v,.bool q]),aB false 5 1 v.v (ag n) (aM (ag n) [ay .u8 1 A])] post∧
   ∀x hs,post x hs→∃v1:V1,∃v2:V1,∃x1:Int,∃x2:Int,∃A1:(Nat→Int),∃A2:(Nat→Int),∃q1:Bool,x=v2.v∧hs=[ak b true ([.bool false,v1.v,.bool q1]),aB false 5 1 v1.v (ag x1) (aM (ag x1) [ay .u8 1 A1]),aB false 5 1 v2.v (ag x2) (aM (ag x2) [ay .u8 1 A2])]∧R v1 v2 x1 x2 A1 A2 q1:=by
 subst hn ho hX;rw [auD,hA.xi];refine⟨_,ym b v q l hl k,?_⟩;rintro x hs ⟨o',v',q',l',m,rfl,rfl,he,OX,hm⟩;exact⟨v',o',_,_,_,_,q',rfl,rfl,h v' o' q' l' m OX hm (by rw [←he]) (by rw [←he])⟩
theorem Su{b b1 b2:Nat}{v:V1}{q:Bool}{l:List Nat}{A:Nat→Int}{n:Int}{o:sR}{H:HP}(hH:H.wr=true)(ho:cg q l=o)(hl:fL l)(hA:cj A l)(hn:n=(l.length:Int)){R:V1→Int→Int→Int→Int→(Nat→Int)→Bool→HP→Prop}
  (h: ∀(v':V1) (c:Int) (q':Bool) (l':List Nat) (H':HP),fL l'→cg q' l'=(bM.bD o).2→kb (bM.bD o).1→H'.wr=true→gl H' H→(∃D:Nat→Int,gZ H' (eX false (cc c) (bM.bD o).1.l D)∧vT H' (bM.bD o).1.l D)→
   R v' ((bM.bD o).1.dev.a:Int) ((bM.bD o).1.dev.d:Int) c (l'.length:Int) (aI l') q' H'):
  ∃post,aq auN 102 [.pointer (some ⟨b1,0,none⟩),.pointer (some ⟨b2,0,none⟩)] [ak b true ([.bool false,v.v,.bool q]),aB false 5 1 v.v (ag n) (aM (ag n) [ay .u8 1 A]),ak b1 true ([.int .u8 0,.int .u8 0,.slice none 0 0]),ak b2 true ([.pointer (some ⟨b,0,none⟩)]),H] post∧
   ∀x hs,post x hs→∃v1:V1,∃x1:Int,∃x2:Int,∃x3:Int,∃x4:Int,∃A1:(Nat→Int),∃q1:Bool,∃p2:HP,x= .tuple #[]∧hs=[ak b true ([.bool false,v1.v,.bool q1]),aB false 5 1 v1.v (ag x4) (aM (ag x4) [ay .u8 1 A1]),ak b1 true ([.int .u8 x1,.int .u8 x2,(cc x3)]),ak b2 true ([.pointer (some ⟨b,0,none⟩)]),p2]∧R v1 x1 x2 x3 x4 A1 q1 p2:=by
 subst hn ho;rw [auD,hA.xi];refine⟨fun r hs=>r= .tuple #[]∧∃(v':V1) (c:Int) (q':Bool) (l':List Nat) (H':HP),hs=[dy b false v'.v q',aR false v'.v l',ak b1 true (rZ (bM.bD (cg q l)).1 (cc c)),ak b2 true [wP b],H']∧cg q' l'=(bM.bD (cg q l)).2∧fL l'∧H'.wr=true∧gl H' H∧∃D:Nat→Int,gZ H' (eX false (cc c) (bM.bD (cg q l)).1.l D)∧vT H' (bM.bD (cg q l)).1.l D,?_,?_⟩
 ·refine aq.post (aq.know (Q:=fun r hs=>r= .tuple #[]∧∃(v':V1) (c:Int) (q':Bool) (l':List Nat) (C:Nat→Int) (H':HP),hs=[eX true (cc c) (bM.bD (cg q l)).1.l C,dy b false v'.v q',aR false v'.v l',ak b1 true (rZ (bM.bD (cg q l)).1 (cc c)),ak b2 true [wP b],H']∧cg q' l'=(bM.bD (cg q l)).2∧fL l'∧H'.wr=true∧gl H' H∧vT H' (bM.bD (cg q l)).1.l C) (aes b b1 b2 v q l hl H hH) ?_) ?_
  ·rintro r hs ⟨rfl,v',u,q',l',C,H',rfl,h1⟩ w Fs ho;obtain⟨c,hc⟩:=Gj ho;rw [hc];exact⟨rfl,v',c,q',l',C,H',rfl,h1⟩
  ·rintro r hs ⟨_,rfl,v',c,q',l',C,H',rfl,h1,h2,h3,h4,h5⟩;refine⟨_,?_,rfl,v',c,q',l',HP.two H' (eX true (cc c) (bM.bD (cg q l)).1.l C),rfl,h1,h2,rfl,gl.one.then h4,C,gZ.other,fun i hi=>gl.one.trans (h5 i hi)⟩;refine bI.trans (bI.perm (List.perm_append_comm (l₁:=[eX true (cc c) (bM.bD (cg q l)).1.l C]) (l₂:=[dy b false v'.v q',aR false v'.v l',ak b1 true (rZ (bM.bD (cg q l)).1 (cc c)),ak b2 true [wP b],H']))) ?_;exact bI.front (A:=[dy b false v'.v q',aR false v'.v l',ak b1 true (rZ (bM.bD (cg q l)).1 (cc c)),ak b2 true [wP b]]) (bI.two h3 rfl)
 ·rintro x hs ⟨rfl,v',c,q',l',H',rfl,h1,h2,h3,h4,h5⟩;exact⟨v',_,_,c,_,_,q',H',rfl,rfl,h v' c q' l' H' h2 h1 (Jq (.st hl)) h3 h4 h5⟩
structure Ey (x:Room):Prop where
 id:x.id.length=16
 aP:x.aP<256
theorem JD{o:sR}(h:Cw o):Ey (dW.bD o).1:=⟨fo 16 _,Ev (h.bD (raw 16))⟩
theorem Sv{b b1 b2:Nat}{v:V1}{q:Bool}{l:List Nat}{A:Nat→Int}{n:Int}{o:sR}(ho:cg q l=o)(hl:fL l)(hA:cj A l)(hn:n=(l.length:Int)){R:V1→Int→Int→Int→Int→(Nat→Int)→(Nat→Int)→Bool→Prop}
  (h: ∀(v':V1) (q':Bool) (l':List Nat),fL l'→cg q' l'=(dW.bD o).2→Ey (dW.bD o).1→R v' ((dW.bD o).1.aP:Int) (bi (dW.bD o).1.out) ((dW.bD o).1.since:Int) (l'.length:Int) (aI l') (aI (dW.bD o).1.id) q'):
  ∃post,aq auN 55 [.pointer (some ⟨b1,0,none⟩),.pointer (some ⟨b2,0,none⟩)] [ak b true ([.bool false,v.v,.bool q]),aB false 5 1 v.v (ag n) (aM (ag n) [ay .u8 1 A]),ak b1 true (aul (aj .u8 16 (fun _=>0)) ([.int .u8 0,.bool false,.int .u64 0])),ak b2 true ([.pointer (some ⟨b,0,none⟩)])] post∧
   ∀x hs,post x hs→∃v1:V1,∃x1:Int,∃x2:Int,∃x3:Int,∃x4:Int,∃A1:(Nat→Int),∃A2:(Nat→Int),∃q1:Bool,x= .tuple #[]∧hs=[ak b true ([.bool false,v1.v,.bool q1]),aB false 5 1 v1.v (ag x4) (aM (ag x4) [ay .u8 1 A1]),ak b1 true (aul (aj .u8 16 A2) ([.int .u8 x1,.bool (!(x2==0)),.int .u64 x3])),ak b2 true ([.pointer (some ⟨b,0,none⟩)])]∧R v1 x1 x2 x3 x4 A1 A2 q1:=by
 subst hn ho;rw [auD,hA.xi];refine⟨_,N_ b b1 b2 v q l hl,?_⟩;rintro x hs ⟨rfl,v',q',l',rfl,h1,h2⟩;exact⟨v',_,_,_,_,_,_,q',rfl,rfl,h v' q' l' h2 h1 (JD (.st hl))⟩
open Go.RX Go.Proofs
set_option maxRecDepth 100000
set_option maxHeartbeats 4000000
def Sw(al:PT)(x0:Int)(A0:Nat→Int)(q0:Bool)(v0:V1)(b0 b1:Nat)(p0:HP):Prop:=
 ∀b2 b3:Nat,Cl 45 [pp b0,.int .i64 32] [cO b0 v0 q0,bh v0 x0 A0] fun x hs _=> ∃(v1 v2:V1) (x1 x2:Int) (A1 A2:Nat→Int) (q1:Bool),x=v2.v∧hs=[cO b0 v1 q1,bh v1 x1 A1,bh v2 x2 A2]∧
 ax (0≤x2) (
 ax (0≤x2) (
 ∀b4:Nat,Cl 21 [pp b0,.int .u64 0,.int .i64 8] [cO b0 v1 q1,bh v1 x1 A1] fun x hs _=> ∃(v3:V1) (x3 x4:Int) (A3:Nat→Int) (q2:Bool),x= .int .u64 x3∧hs=[cO b0 v3 q2,bh v3 x4 A3]∧
 ∀b5 b6 b7 b8:Nat,Cl 21 [pp b0,.int .u64 0,.int .i64 1] [cO b0 v3 q2,bh v3 x4 A3] fun x hs _=> ∃(v4:V1) (x5 x6:Int) (A4:Nat→Int) (q3:Bool),x= .int .u64 x5∧hs=[cO b0 v4 q3,bh v4 x6 A4]∧
 Cl 21 [pp b0,.int .u64 0,.int .i64 1] [cO b0 v4 q3,bh v4 x6 A4] fun x hs _=> ∃(v5:V1) (x7 x8:Int) (A5:Nat→Int) (q4:Bool),x= .int .u64 x7∧hs=[cO b0 v5 q4,bh v5 x8 A5]∧
 ∀b9:Nat,Cl 45 [pp b0,.int .i64 32] [cO b0 v5 q4,bh v5 x8 A5] fun x hs _=> ∃(v6 v7:V1) (x9 bE:Int) (A6 A7:Nat→Int) (q5:Bool),x=v7.v∧hs=[cO b0 v6 q5,bh v6 x9 A6,bh v7 bE A7]∧
 ax (0≤bE) (
 ax (0≤bE) (
 Cl 45 [pp b0,.int .i64 32] [cO b0 v6 q5,bh v6 x9 A6] fun x hs _=> ∃(v8 v9:V1) (bO bT:Int) (A8 A9:Nat→Int) (q6:Bool),x=v9.v∧hs=[cO b0 v8 q6,bh v8 bO A8,bh v9 bT A9]∧
 ax (0≤bT) (
 ax (0≤bT) (
 Cl 21 [pp b0,.int .u64 0,.int .i64 4] [cO b0 v8 q6,bh v8 bO A8] fun x hs _=> ∃(v10:V1) (bL dR:Int) (dX:Nat→Int) (q7:Bool),x= .int .u64 bL∧hs=[cO b0 v10 q7,bh v10 dR dX]∧
 ∃(cH:Ext→Prop) (dp:Ext→Nat),(∃(qY pP:V1) (bW dF cr:Int) (dA df fN:Nat→Int) (q8:Bool),bW=bL∧qY=v10∧q8=q7∧qY=v10∧dF=dR∧(∀j,j<(ag dF)→dA j=dX j)∧pP=(⟨.slice none 0 0,rfl⟩:V1)∧pP=(⟨.slice none 0 0,rfl⟩:V1)∧cr=0∧(∀j,j<(ag cr)→df j=(fun _=>0) j)∧(∀j,j<(ag (cr*32))→fN j=(fun _=>0) j)∧cH ⟨[],[qY,pP],[bW,dF,cr],[dA,df,fN],[q8],[],[]⟩)∧
 ∀(qY pP:V1) (bW dF cr:Int) (dA df fN:Nat→Int) (q8:Bool),cH ⟨[],[qY,pP],[bW,dF,cr],[dA,df,fN],[q8],[],[]⟩→
 bt ((0<bW)∧(¬(q8=true))) (
 ∀_ _:Nat,Cl 21 [pp b0,.int .u64 0,.int .i64 4] [cO b0 qY q8,bh qY dF dA] fun x hs _=> ∃(rU:V1) (dB cI:Int) (gk:Nat→Int) (q9:Bool),x= .int .u64 dB∧hs=[cO b0 rU q9,bh rU cI gk]∧
 ∀_:Nat,Cl 45 [pp b0,.int .i64 32] [cO b0 rU q9,bh rU cI gk] fun x hs _=> ∃(pE rh:V1) (dz gQ:Int) (gn fJ:Nat→Int) (Uf:Bool),x=rh.v∧hs=[cO b0 pE Uf,bh pE dz gn,bh rh gQ fJ]∧
 ax (0≤gQ) (
 ax (0≤gQ) (
 ∀_:Nat,ax (0≤cr) (
 lp ((cr+1)*36) (
 ∀pQ:V1,∃(Wy Eb:V1) (aaR Wz Sx:Int) (Jx Jy Jz:Nat→Int) (q8':Bool),aaR=(ae .u64 (bW - 1))∧Wy=pE∧q8'=Uf∧Wy=pE∧Wz=dz∧(∀j,j<(ag Wz)→Jx j=gn j)∧Eb=pQ∧Eb=pQ∧Sx=(cr+1)∧(∀j,j<(ag Sx)→Jy j=(aw df (ag cr) (ae .u32 dB)) j)∧(∀j,j<(ag (Sx*32))→Jz j=(bX fN (ag (cr*32)) 32 (bX (fun _=>0) 0 (ag (ar .iO .i64 gQ 32)) fJ)) j)∧cH ⟨[],[Wy,Eb],[aaR,Wz,Sx],[Jx,Jy,Jz],[q8'],[],[]⟩∧dp ⟨[],[Wy,Eb],[aaR,Wz,Sx],[Jx,Jy,Jz],[q8'],[],[]⟩<dp ⟨[],[qY,pP],[bW,dF,cr],[dA,df,fN],[q8],[],[]⟩))))) (
 Cl 21 [pp b0,.int .u64 0,.int .i64 4] [cO b0 qY q8,bh qY dF dA] fun x hs _=> ∃(rU:V1) (dB cI:Int) (gk:Nat→Int) (q9:Bool),x= .int .u64 dB∧hs=[cO b0 rU q9,bh rU cI gk]∧
 gS dB ((
 Cl 21 [pp b0,.int .u64 0,.int .i64 4] [cO b0 rU q9,bh rU cI gk] fun x hs _=> ∃(pE:V1) (dz gQ:Int) (gn:Nat→Int) (Uf:Bool),x= .int .u64 dz∧hs=[cO b0 pE Uf,bh pE gQ gn]∧
 ∃(pT:Ext→Prop) (uV:Ext→Nat),(∃(pQ mJ:V1) (fc fw fl:Int) (fJ ff eQ fe:Nat→Int) (Fu:Bool),∃p1:HP,fc=dz∧pQ=pE∧Fu=Uf∧pQ=pE∧fw=gQ∧(∀j,j<(ag fw)→fJ j=gn j)∧mJ=(⟨.slice none 0 0,rfl⟩:V1)∧p1=p0∧mJ=(⟨.slice none 0 0,rfl⟩:V1)∧fl=0∧(∀j,j<(ag fl)→ff j=(fun _=>0) j)∧(∀j,j<(ag fl)→eQ j=(fun _=>0) j)∧(∀j,j<(ag fl)→fe j=(fun _=>0) j)∧pT ⟨[],[pQ,mJ],[fc,fw,fl],[fJ,ff,eQ,fe],[Fu],[p1],[]⟩)∧
 ∀(pQ mJ:V1) (fc fw fl:Int) (fJ ff eQ fe:Nat→Int) (Fu:Bool),∀p1:HP,pT ⟨[],[pQ,mJ],[fc,fw,fl],[fJ,ff,eQ,fe],[Fu],[p1],[]⟩→
 bt ((0<fc)∧(¬(Fu=true))) (
 ∀Ip:Nat,Cl 102 [pp Ip,pp b5] [cO b0 pQ Fu,bh pQ fw fJ,ak Ip true ([.int .u8 0,.int .u8 0,.slice none 0 0]),oX b5 b0,p1] fun x hs _=> ∃(tg:V1) (fU jR kV jC:Int) (fg:Nat→Int) (Pj:Bool),∃p2:HP,x= .tuple #[]∧hs=[cO b0 tg Pj,bh tg jC fg,ak Ip true ([.int .u8 fU,.int .u8 jR,(cc kV)]),oX b5 b0,p2]∧
 ∀_:Nat,ax (0≤fl) (
 lp ((fl+1)*32) (
 ∀v20:V1,∃(WA Eo:V1) (I5 Ec Ob:Int) (JA AF JB JC:Nat→Int) (NI:Bool),∃p1':HP,I5=(ae .u64 (fc - 1))∧WA=tg∧NI=Pj∧WA=tg∧Ec=jC∧(∀j,j<(ag Ec)→JA j=fg j)∧Eo=v20∧p1'=p2∧Eo=v20∧Ob=(fl+1)∧(∀j,j<(ag Ob)→AF j=(aw ff (ag fl) fU) j)∧(∀j,j<(ag Ob)→JB j=(aw eQ (ag fl) jR) j)∧(∀j,j<(ag Ob)→JC j=(aw fe (ag fl) kV) j)∧pT ⟨[],[WA,Eo],[I5,Ec,Ob],[JA,AF,JB,JC],[NI],[p1'],[]⟩∧uV ⟨[],[WA,Eo],[I5,Ec,Ob],[JA,AF,JB,JC],[NI],[p1'],[]⟩<uV ⟨[],[pQ,mJ],[fc,fw,fl],[fJ,ff,eQ,fe],[Fu],[p1],[]⟩))) (
 ∀Ip KR Ue:Nat,Cl 21 [pp b0,.int .u64 0,.int .i64 1] [cO b0 pQ Fu,bh pQ fw fJ] fun x hs _=> ∃(tg:V1) (fU jR:Int) (fg:Nat→Int) (Pj:Bool),x= .int .u64 fU∧hs=[cO b0 tg Pj,bh tg jR fg]∧
 Cl 21 [pp b0,.int .u64 0,.int .i64 1] [cO b0 tg Pj,bh tg jR fg] fun x hs _=> ∃(v20:V1) (kV jC:Int) (fO:Nat→Int) (Ug:Bool),x= .int .u64 kV∧hs=[cO b0 v20 Ug,bh v20 jC fO]∧
 Cl 45 [pp b0,.int .i64 8] [cO b0 v20 Ug,bh v20 jC fO] fun x hs _=> ∃(Ct vS:V1) (oY nS:Int) (iH jW:Nat→Int) (q14:Bool),x=vS.v∧hs=[cO b0 Ct q14,bh Ct oY iH,bh vS nS jW]∧
 ax (0≤nS) (
 ax (0≤nS) (
 Cl 21 [pp b0,.int .u64 0,.int .i64 4] [cO b0 Ct q14,bh Ct oY iH] fun x hs _=> ∃(tF:V1) (im Cr:Int) (jX:Nat→Int) (NN:Bool),x= .int .u64 im∧hs=[cO b0 tF NN,bh tF Cr jX]∧
 ∃(mR:Ext→Prop) (qx:Ext→Nat),(∃(uz tf:V1) (uR rj rl:Int) (k_ n_:Nat→Int) (Jp:Bool),uR=im∧uz=tF∧Jp=NN∧uz=tF∧rj=Cr∧(∀j,j<(ag rj)→k_ j=jX j)∧tf=(⟨.slice none 0 0,rfl⟩:V1)∧tf=(⟨.slice none 0 0,rfl⟩:V1)∧rl=0∧(∀j,j<(ag (rl*16))→n_ j=(fun _=>0) j)∧mR ⟨[],[uz,tf],[uR,rj,rl],[k_,n_],[Jp],[],[]⟩)∧
 ∀(uz tf:V1) (uR rj rl:Int) (k_ n_:Nat→Int) (Jp:Bool),mR ⟨[],[uz,tf],[uR,rj,rl],[k_,n_],[Jp],[],[]⟩→
 bt ((0<uR)∧(¬(Jp=true))) (
 ∀_:Nat,Cl 45 [pp b0,.int .i64 16] [cO b0 uz Jp,bh uz rj k_] fun x hs _=> ∃(tG uT:V1) (y_ uS:Int) (nj o_:Nat→Int) (Pk:Bool),x=uT.v∧hs=[cO b0 tG Pk,bh tG y_ nj,bh uT uS o_]∧
 ax (0≤uS) (
 ax (0≤uS) (
 ∀_:Nat,ax (0≤rl) (
 lp ((rl+1)*16) (
 ∀xj:V1,∃(WB WC:V1) (aaS GX En:Int) (aaT aaU:Nat→Int) (aaV:Bool),aaS=(ae .u64 (uR - 1))∧WB=tG∧aaV=Pk∧WB=tG∧GX=y_∧(∀j,j<(ag GX)→aaT j=nj j)∧WC=xj∧WC=xj∧En=(rl+1)∧(∀j,j<(ag (En*16))→aaU j=(bX n_ (ag (rl*16)) 16 (bX (fun _=>0) 0 (ag (ar .iO .i64 uS 16)) o_)) j)∧mR ⟨[],[WB,WC],[aaS,GX,En],[aaT,aaU],[aaV],[],[]⟩∧qx ⟨[],[WB,WC],[aaS,GX,En],[aaT,aaU],[aaV],[],[]⟩<qx ⟨[],[uz,tf],[uR,rj,rl],[k_,n_],[Jp],[],[]⟩))))) (
 ∀O9:Nat,Cl 21 [pp b0,.int .u64 0,.int .i64 1] [cO b0 uz Jp,bh uz rj k_] fun x hs _=> ∃(tG:V1) (y_ uS:Int) (nj:Nat→Int) (Pk:Bool),x= .int .u64 y_∧hs=[cO b0 tG Pk,bh tG uS nj]∧
 Cl 45 [pp b0,.int .i64 16] [cO b0 tG Pk,bh tG uS nj] fun x hs _=> ∃(uT xj:V1) (Nx GQ:Int) (o_ q_:Nat→Int) (Uc:Bool),x=xj.v∧hs=[cO b0 uT Uc,bh uT Nx o_,bh xj GQ q_]∧
 ax (0≤GQ) (
 ax (0≤GQ) (
 ∀V3:Nat,Cl 21 [pp b0,.int .u64 0,.int .i64 1] [cO b0 uT Uc,bh uT Nx o_] fun x hs _=> ∃(v30:V1) (vR Df:Int) (qP:Nat→Int) (q19:Bool),x= .int .u64 vR∧hs=[cO b0 v30 q19,bh v30 Df qP]∧
 ∀b15:Nat,Cl 21 [pp b0,.int .u64 0,.int .i64 1] [cO b0 v30 (q19||(decide (1<vR))),bh v30 Df qP] fun x hs _=> ∃(NH:V1) (Ei K2:Int) (ri:Nat→Int) (RJ:Bool),x= .int .u64 Ei∧hs=[cO b0 NH RJ,bh NH K2 ri]∧
 ∀b16 b17:Nat,Cl 21 [pp b0,.int .u64 0,.int .i64 1] [cO b0 NH RJ,bh NH K2 ri] fun x hs _=> ∃(XZ:V1) (O_ K3:Int) (tc:Nat→Int) (q21:Bool),x= .int .u64 O_∧hs=[cO b0 XZ q21,bh XZ K3 tc]∧
 Cl 21 [pp b0,.int .u64 0,.int .i64 1] [cO b0 XZ q21,bh XZ K3 tc] fun x hs _=> ∃(V4:V1) (TW RC:Int) (uQ:Nat→Int) (q22:Bool),x= .int .u64 TW∧hs=[cO b0 V4 q22,bh V4 RC uQ]∧
 ∀b18:Nat,Cl 45 [pp b0,.int .i64 32] [cO b0 V4 q22,bh V4 RC uQ] fun x hs _=> ∃(T9 V5:V1) (Ej AM:Int) (vQ yZ:Nat→Int) (q23:Bool),x=V5.v∧hs=[cO b0 T9 q23,bh T9 Ej vQ,bh V5 AM yZ]∧
 ax (0≤AM) (
 ax (0≤AM) (
 Cl 45 [pp b0,.int .i64 32] [cO b0 T9 q23,bh T9 Ej vQ] fun x hs _=> ∃(T_ Jb:V1) (Pa GR:Int) (zz yn:Nat→Int) (q24:Bool),x=Jb.v∧hs=[cO b0 T_ q24,bh T_ Pa zz,bh Jb GR yn]∧
 ax (0≤GR) (
 ax (0≤GR) (
 Cl 45 [pp b0,.int .i64 32] [cO b0 T_ q24,bh T_ Pa zz] fun x hs _=> ∃(Iq GY:V1) (Ny Nz:Int) (zA y8:Nat→Int) (q25:Bool),x=GY.v∧hs=[cO b0 Iq q25,bh Iq Ny zA,bh GY Nz y8]∧
 ax (0≤Nz) (
 ax (0≤Nz) (
 Cl 21 [pp b0,.int .u64 0,.int .i64 4] [cO b0 Iq q25,bh Iq Ny zA] fun x hs _=> ∃(Ua:V1) (NA VR:Int) (zB:Nat→Int) (q26:Bool),x= .int .u64 NA∧hs=[cO b0 Ua q26,bh Ua VR zB]∧
 gS NA ((
 Cl 45 [pp b0,.int .i64 NA] [cO b0 Ua q26,bh Ua VR zB] fun x hs _=> ∃(NJ RK:V1) (TX RD:Int) (zC Cq:Nat→Int) (q27:Bool),x=RK.v∧hs=[cO b0 NJ q27,bh NJ TX zC,bh RK RD Cq]∧
 Cl 111 [RK.v] [bh RK RD Cq] fun x hs l=> ∃(Ub:V1) (Ek:Int) (y9:Nat→Int),x=Ub.v∧hs=l++[bq Ub Ek y9]∧
 Cl 21 [pp b0,.int .u64 1,.int .i64 1] [cO b0 NJ q27,bh NJ TX zC] fun x hs _=> ∃(X0:V1) (RE NB:Int) (AL:Nat→Int) (q28:Bool),x= .int .u64 RE∧hs=[cO b0 X0 q28,bh X0 NB AL]∧
 gS RE ((
 gS (RE - 1) ((
 Cl 21 [pp b0,.int .u64 0,.int .i64 4] [cO b0 X0 q28,bh X0 NB AL] fun x hs _=> ∃(ZY:V1) (RF TY:Int) (K4:Nat→Int) (X1:Bool),x= .int .u64 RF∧hs=[cO b0 ZY X1,bh ZY TY K4]∧
 ∃(rX:Ext→Prop) (yp:Ext→Nat),(∃(Cu Ph:V1) (K5 Il uU:Int) (Ik GU I_:Nat→Int) (WD:Bool),K5=RF∧Cu=ZY∧WD=X1∧Cu=ZY∧Il=TY∧(∀j,j<(ag Il)→Ik j=K4 j)∧Ph=(⟨.slice none 0 0,rfl⟩:V1)∧Ph=(⟨.slice none 0 0,rfl⟩:V1)∧uU=0∧(∀j,j<(ag uU)→GU j=(fun _=>0) j)∧(∀j,j<(ag uU)→I_ j=(fun _=>0) j)∧rX ⟨[],[Cu,Ph],[K5,Il,uU],[Ik,GU,I_],[WD],[],[]⟩)∧
 ∀(Cu Ph:V1) (K5 Il uU:Int) (Ik GU I_:Nat→Int) (WD:Bool),rX ⟨[],[Cu,Ph],[K5,Il,uU],[Ik,GU,I_],[WD],[],[]⟩→
 bt ((0<K5)∧(¬(WD=true))) (
 ∀_ _ _:Nat,Cl 21 [pp b0,.int .u64 0,.int .i64 1] [cO b0 Cu WD,bh Cu Il Ik] fun x hs _=> ∃(Jc:V1) (El K6:Int) (ND:Nat→Int) (q31:Bool),x= .int .u64 El∧hs=[cO b0 Jc q31,bh Jc K6 ND]∧
 Cl 21 [pp b0,.int .u64 0,.int .i64 1] [cO b0 Jc q31,bh Jc K6 ND] fun x hs _=> ∃(Jd:V1) (Im K7:Int) (NF:Nat→Int) (q32:Bool),x= .int .u64 Im∧hs=[cO b0 Jd q32,bh Jd K7 NF]∧
 ∀_:Nat,ax (0≤uU) (
 lp ((uU+1)*2) (
 ∀Je:V1,∃(Es WE:V1) (aaW WG Er:Int) (aaX aaY aaZ:Nat→Int) (aa0:Bool),aaW=(ae .u64 (K5 - 1))∧Es=Jd∧aa0=q32∧Es=Jd∧WG=K7∧(∀j,j<(ag WG)→aaX j=NF j)∧WE=Je∧WE=Je∧Er=(uU+1)∧(∀j,j<(ag Er)→aaY j=(aw GU (ag uU) (ae .u8 El)) j)∧(∀j,j<(ag Er)→aaZ j=(aw I_ (ag uU) (ae .u8 Im)) j)∧rX ⟨[],[Es,WE],[aaW,WG,Er],[aaX,aaY,aaZ],[aa0],[],[]⟩∧yp ⟨[],[Es,WE],[aaW,WG,Er],[aaX,aaY,aaZ],[aa0],[],[]⟩<yp ⟨[],[Cu,Ph],[K5,Il,uU],[Ik,GU,I_],[WD],[],[]⟩))) (
 ∀b19:Nat,Cl 21 [pp b0,.int .u64 0,.int .i64 8] [cO b0 Cu WD,bh Cu Il Ik] fun x hs _=> ∃(Jc:V1) (El K6:Int) (ND:Nat→Int) (q31:Bool),x= .int .u64 El∧hs=[cO b0 Jc q31,bh Jc K6 ND]∧
 Cl 21 [pp b0,.int .u64 0,.int .i64 8] [cO b0 Jc q31,bh Jc K6 ND] fun x hs _=> ∃(Jd:V1) (Im K7:Int) (NF:Nat→Int) (q32:Bool),x= .int .u64 Im∧hs=[cO b0 Jd q32,bh Jd K7 NF]∧
 Cl 21 [pp b0,.int .u64 0,.int .i64 8] [cO b0 Jd q32,bh Jd K7 NF] fun x hs _=> ∃(Je:V1) (NC VS:Int) (T5:Nat→Int) (q33:Bool),x= .int .u64 NC∧hs=[cO b0 Je q33,bh Je VS T5]∧
 Cl 21 [pp b0,.int .u64 0,.int .i64 8] [cO b0 Je q33,bh Je VS T5] fun x hs _=> ∃(v52:V1) (TZ VT:Int) (Ja:Nat→Int) (q34:Bool),x= .int .u64 TZ∧hs=[cO b0 v52 q34,bh v52 VT Ja]∧
 Cl 21 [pp b0,.int .u64 0,.int .i64 8] [cO b0 v52 q34,bh v52 VT Ja] fun x hs _=> ∃(v53:V1) (T1 VU:Int) (T6:Nat→Int) (q35:Bool),x= .int .u64 T1∧hs=[cO b0 v53 q35,bh v53 VU T6]∧
 ∀b20:Nat,Cl 21 [pp b0,.int .u64 0,.int .i64 4] [cO b0 v53 q35,bh v53 VU T6] fun x hs _=> ∃(v54:V1) (T2 VV:Int) (T7:Nat→Int) (q36:Bool),x= .int .u64 T2∧hs=[cO b0 v54 q36,bh v54 VV T7]∧
 Cl 21 [pp b0,.int .u64 0,.int .i64 4] [cO b0 v54 q36,bh v54 VV T7] fun x hs _=> ∃(v55:V1) (RG VW:Int) (T8:Nat→Int) (q37:Bool),x= .int .u64 RG∧hs=[cO b0 v55 q37,bh v55 VW T8]∧
 gS RG ((
 Cl 45 [pp b0,.int .i64 RG] [cO b0 v55 q37,bh v55 VW T8] fun x hs _=> ∃(v56 v57:V1) (K8 T3:Int) (ZM XY:Nat→Int) (q38:Bool),x=v57.v∧hs=[cO b0 v56 q38,bh v56 K8 ZM,bh v57 T3 XY]∧
 Cl 111 [v57.v] [bh v57 T3 XY] fun x hs l=> ∃(v58:V1) (T4:Int) (ZN:Nat→Int),x=v58.v∧hs=l++[bq v58 T4 ZN]∧
 Cl 21 [pp b0,.int .u64 0,.int .i64 4] [cO b0 v56 q38,bh v56 K8 ZM] fun x hs _=> ∃(v59:V1) (xk Em:Int) (ZO:Nat→Int) (q39:Bool),x= .int .u64 xk∧hs=[cO b0 v59 q39,bh v59 Em ZO]∧
 ∃(AN:Ext→Prop) (GZ:Ext→Nat),(∃(Uh X8:V1) (Io NG B6:Int) (Pb Pc Pd Pe Pf:Nat→Int) (X9:Bool),Io=xk∧Uh=v59∧X9=q39∧Uh=v59∧NG=Em∧(∀j,j<(ag NG)→Pb j=ZO j)∧X8=(⟨.slice none 0 0,rfl⟩:V1)∧X8=(⟨.slice none 0 0,rfl⟩:V1)∧B6=0∧(∀j,j<(ag (B6*16))→Pc j=(fun _=>0) j)∧(∀j,j<(ag B6)→Pd j=(fun _=>0) j)∧(∀j,j<(ag B6)→Pe j=(fun _=>0) j)∧(∀j,j<(ag B6)→Pf j=(fun _=>0) j)∧AN ⟨[],[Uh,X8],[Io,NG,B6],[Pb,Pc,Pd,Pe,Pf],[X9],[],[]⟩)∧
 ∀(Uh X8:V1) (Io NG B6:Int) (Pb Pc Pd Pe Pf:Nat→Int) (X9:Bool),AN ⟨[],[Uh,X8],[Io,NG,B6],[Pb,Pc,Pd,Pe,Pf],[X9],[],[]⟩→
 bt ((0<Io)∧(¬(X9=true))) (
 ∀Pg:Nat,Cl 55 [pp Pg,pp b2] [cO b0 Uh X9,bh Uh NG Pb,ak Pg true (aul (aj .u8 16 (fun _=>0)) ([.int .u8 0,.bool false,.int .u64 0])),oX b2 b0] fun x hs _=> ∃(v63:V1) (x88 ZR x90 x91:Int) (ZP ZQ:Nat→Int) (q41:Bool),x= .tuple #[]∧hs=[cO b0 v63 q41,bh v63 x91 ZP,Gq Pg ZQ x88 (!(ZR==0)) x90,oX b2 b0]∧
 ∀_:Nat,ax (0≤B6) (
 lp ((B6+1)*32) (
 ∀v64:V1,∃(WH WI:V1) (aa1 WJ JE:Int) (aa2 aa3 aa4 aa5 aa6:Nat→Int) (aa7:Bool),aa1=(ae .u64 (Io - 1))∧WH=v63∧aa7=q41∧WH=v63∧WJ=x91∧(∀j,j<(ag WJ)→aa2 j=ZP j)∧WI=v64∧WI=v64∧JE=(B6+1)∧(∀j,j<(ag (JE*16))→aa3 j=(bX Pc (ag (B6*16)) 16 ZQ) j)∧(∀j,j<(ag JE)→aa4 j=(aw Pd (ag B6) x88) j)∧(∀j,j<(ag JE)→aa5 j=(aw Pe (ag B6) ZR) j)∧(∀j,j<(ag JE)→aa6 j=(aw Pf (ag B6) x90) j)∧AN ⟨[],[WH,WI],[aa1,WJ,JE],[aa2,aa3,aa4,aa5,aa6],[aa7],[],[]⟩∧GZ ⟨[],[WH,WI],[aa1,WJ,JE],[aa2,aa3,aa4,aa5,aa6],[aa7],[],[]⟩<GZ ⟨[],[Uh,X8],[Io,NG,B6],[Pb,Pc,Pd,Pe,Pf],[X9],[],[]⟩))) (
 al (.tuple #[]) [cO b0 Uh X9,bh Uh NG Pb,ak b1 true (aul (aj .u8 32 (bX (fun _=>0) 0 (ag (ar .iO .i64 x2 32)) A2)) (.int .u64 x3::(.int .u8 (ae .u8 x5)::(.int .u8 (ae .u8 x7)::(aul (aj .u8 32 (bX (fun _=>0) 0 (ag (ar .iO .i64 bE 32)) A7)) (aul (aj .u8 32 (bX (fun _=>0) 0 (ag (ar .iO .i64 bT 32)) A9)) (pP.v::(.int .i64 dB::(mJ.v::(.int .u8 (ae .u8 fU)::(.int .u8 (ae .u8 kV)::(aul (aj .u8 8 (bX (fun _=>0) 0 (ag (ar .iO .i64 nS 8)) jW)) (tf.v::(.int .u8 (ae .u8 y_)::(aul (aj .u8 16 (bX (fun _=>0) 0 (ag (ar .iO .i64 GQ 16)) q_)) (.bool (vR==1)::(.int .u8 (ae .u8 Ei)::(.int .u8 (ae .u8 O_)::(.int .u8 (ae .u8 TW)::(aul (aj .u8 32 (bX (fun _=>0) 0 (ag (ar .iO .i64 AM 32)) yZ)) (aul (aj .u8 32 (bX (fun _=>0) 0 (ag (ar .iO .i64 GR 32)) yn)) (aul (aj .u8 32 (bX (fun _=>0) 0 (ag (ar .iO .i64 Nz 32)) y8)) ([Ub.v,.int .i64 (RE - 1),Ph.v,.int .u64 El,.int .u64 Im,.int .u64 NC,.int .u64 TZ,.int .u64 T1,.int .u32 (ae .u32 T2),v58.v,X8.v]))))))))))))))))))))))),p1,oX b2 b0,oX b3 b1,bh v2 x2 A2,ak b4 true ([.pointer (some ⟨b1,32,none⟩)]),oX b5 b0,oX b6 b0,ak b7 true ([.pointer (some ⟨b1,33,none⟩)]),ak b8 true ([.pointer (some ⟨b1,33,none⟩),.pointer (some ⟨b1,34,none⟩)]),ak b9 true ([.pointer (some ⟨b1,35,none⟩),.pointer (some ⟨b1,67,none⟩)]),bh v7 bE A7,bh v9 bT A9,qp pP cr df fN,D_ mJ fl ff eQ fe,oX Ip b0,ak KR true ([.pointer (some ⟨b1,102,none⟩)]),ak Ue true ([.pointer (some ⟨b1,102,none⟩),.pointer (some ⟨b1,103,none⟩)]),bh vS nS jW,qt tf rl n_,ak O9 true ([.pointer (some ⟨b1,113,none⟩)]),bh xj GQ q_,I4 V3 b1,ak b15 true ([.pointer (some ⟨b1,131,none⟩)]),ak b16 true ([.pointer (some ⟨b1,132,none⟩)]),ak b17 true ([.pointer (some ⟨b1,132,none⟩),.pointer (some ⟨b1,133,none⟩)]),ak b18 true ([.pointer (some ⟨b1,134,none⟩),.pointer (some ⟨b1,166,none⟩),.pointer (some ⟨b1,198,none⟩)]),bh V5 AM yZ,bh Jb GR yn,bh GY Nz y8,bh RK RD Cq,bq Ub Ek y9,qs Ph uU GU I_,ak b19 true ([.pointer (some ⟨b1,233,none⟩),.pointer (some ⟨b1,234,none⟩),.pointer (some ⟨b1,235,none⟩),.pointer (some ⟨b1,236,none⟩),.pointer (some ⟨b1,237,none⟩)]),ak b20 true ([.pointer (some ⟨b1,238,none⟩)]),bh v57 T3 XY,bq v58 T4 ZN,qo X8 B6 Pc Pd Pe Pf])))))))))))))))))))))))))))))))
theorem aa8(al:PT)(x0:Int)(A0:Nat→Int)(q0:Bool)(v0:V1)(b0 b1:Nat)(p0:HP)(h:Sw al x0 A0 q0 v0 b0 b1 p0):aq auN 32 [pp b0,pp b1] [cO b0 v0 q0,bh v0 x0 A0,XQ b1,p0] al:=
 yM (C:=ahY) Vd.stA Vd.hpI Vd.Nc ⟨[x0],[A0],[q0],[b0,b1],[v0],[],[p0],[]⟩ Tryz.func32 (by kernel_rfl) h
end Go.RX.Vb
