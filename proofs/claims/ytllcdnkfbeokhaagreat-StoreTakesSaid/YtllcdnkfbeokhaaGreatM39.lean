/- The store's walker. -/
import Derived.Test.YtllcdnkfbeokhaaGreatM37
import Derived.Test.YtllcdnkfbeokhaaGreatVlF
import Derived.Test.YtllcdnkfbeokhaaGreatM36
open Go.Proofs.Tryz renaming prog → aqQ
open Int renaming toNat → ag, toNat_natCast → aqD
open List renaming append → aqk, getD_cons_zero → ah, length_append → aql, length_singleton → aqm, mem_append → aqC, mem_singleton → aqx
namespace Go.RX.Vb
open Go Go.RX Go.Proofs Go.Vs
theorem Pn{s:Vs.State}{v1 v2 v3 v4 v5 v6 v7:Value}{A0:Nat→Int}{z1:Int}{z2:Int}{z3:Int}{A4:Nat→Int}{A5:Nat→Int}{z6:Int}{z7:Int}{z8:Int}{A9:Nat→Int}{z10:Int}{dN:Nat→Int}{z12:Bool}{z13:Int}{z14:Int}{z15:Int}{f_:Nat→Int}{fl:Nat→Int}{fe:Nat→Int}{z19:Int}{z20:Int}{z21:Int}{z22:Int}{z23:Int}{z24:Int}{z25:Int}
  (uy: ∀j,j<32→A0 j=aL s.oN j) (hz1:z1=(s.drawn:Int)) (hz2:z2=(s.table.keys.dev.a:Int)) (hz3:z3=(s.table.keys.dev.d:Int)) (Xi: ∀j,j<32→A4 j=aL s.table.keys.ident j) (hA5: ∀j,j<32→A5 j=aL s.table.keys.signed j) (hz6:z6=(s.table.most:Int)) (hz7:z7=(s.call.me.a:Int)) (hz8:z8=(s.call.me.d:Int)) (hA9: ∀j,j<8→A9 j=aL s.call.d_ j) (afV:z10=(s.call.state:Int)) (Xj: ∀j,j<16→dN j=aL s.call.id j) (afW:z12= !(bi s.call.out==0)) (afX:z13=(s.call.aX:Int)) (afY:z14=(s.call.peer.a:Int)) (afZ:z15=(s.call.peer.d:Int)) (Po: ∀j,j<32→f_ j=aL s.call.own j) (af0: ∀j,j<32→fl j=aL s.call.ef j) (Wp: ∀j,j<32→fe j=aL s.call.jg j) (af1:z19=((s.call.hJ:Int) - 1)) (af2:z20=(s.call.fi:Int)) (af3:z21=(s.call.cc:Int)) (af4:z22=(s.call.since:Int)) (af5:z23=(s.call.heard:Int)) (af6:z24=(s.call.oa:Int)) (af7:z25=(s.call.jh:Int)):
  aqk (aj .u8 32 A0) (.int .u64 z1::(.int .u8 z2::(.int .u8 z3::(aqk (aj .u8 32 A4) (aqk (aj .u8 32 A5) (v1::(.int .i64 z6::(v2::(.int .u8 z7::(.int .u8 z8::(aqk (aj .u8 8 A9) (v3::(.int .u8 z10::(aqk (aj .u8 16 dN) (.bool z12::(.int .u8 z13::(.int .u8 z14::(.int .u8 z15::(aqk (aj .u8 32 f_) (aqk (aj .u8 32 fl) (aqk (aj .u8 32 fe) ([v4,.int .i64 z19,v5,.int .u64 z20,.int .u64 z21,.int .u64 z22,.int .u64 z23,.int .u64 z24,.int .u32 z25,v6,v7]))))))))))))))))))))))=jO s v1 v2 v3 v4 v5 v6 v7:=by
 rw [fq uy,hz1,hz2,hz3,fq Xi,fq hA5,hz6,hz7,hz8,fq hA9,afV,fq Xj,afW,afX,afY,afZ,fq Po,fq af0,fq Wp,af1,af2,af3,af4,af5,af6,af7]
abbrev Rx:List Value:=aqk (aj .u8 32 (fun _=>0)) (.int .u64 0::(.int .u8 0::(.int .u8 0::(aqk (aj .u8 32 (fun _=>0)) (aqk (aj .u8 32 (fun _=>0)) (.slice none 0 0::(.int .i64 0::(.slice none 0 0::(.int .u8 0::(.int .u8 0::(aqk (aj .u8 8 (fun _=>0)) (.slice none 0 0::(.int .u8 0::(aqk (aj .u8 16 (fun _=>0)) (.bool false::(.int .u8 0::(.int .u8 0::(.int .u8 0::(aqk (aj .u8 32 (fun _=>0)) (aqk (aj .u8 32 (fun _=>0)) (aqk (aj .u8 32 (fun _=>0)) ([.slice none 0 0,.int .i64 0,.slice none 0 0,.int .u64 0,.int .u64 0,.int .u64 0,.int .u64 0,.int .u64 0,.int .u32 0,.slice none 0 0,.slice none 0 0]))))))))))))))))))))))
theorem K2{H1 H2:HP}{acc:List fp}{C:Nat→Int}{x:fp}{c:Int}(h:ob H1 acc C)(hg:fI H2 H1)(hx: ∃D:Nat→Int,iG H2 (jF false (cX c) x.l D)∧ux H2 x.l D):ob H2 (acc++[x]) (aw C acc.length c):=by
 intro i hi;rw [aql,aqm]at hi;by_cases he:i=acc.length
 ·subst he;rw [show aw C acc.length c acc.length=c from if_pos rfl];simpa using hx
 ·rw [show aw C acc.length c i=C i from if_neg he,List.getElem_append_left (by omega)];obtain⟨D,h1,h2⟩:=h i (by omega);exact⟨D,hg.trans h1,fun j hj=>hg.trans (h2 j hj)⟩
structure aaP (x:dx):Prop where
 id:x.id<256^4
 dY:x.dY.length=32
structure aaQ (x:List Nat):Prop where
 l:x.length=16
structure aaR (x:jW):Prop where
 a:x.a<256
 d:x.d<256
abbrev fj(md:Bool)(s:Vs.State)(C:Nat→Int)(u1 u2 u3 u4 u5 u6 u7:Value):List HP:=[CC md u1 s.table.keys.once,KG md u2 s.table.bA C,By md u3 s.call.dead,aT md u4 s.call.marks,Bz md u5 s.call.early,aT md u6 s.log,uz md u7 s.aO]
set_option maxRecDepth 100000 in
set_option maxHeartbeats 20000000 in
theorem aaS(b b1:Nat)(v:V1)(q:Bool)(l:List Nat)(hl:fX l)(H:HP)(hH:H.wr=true)(S:Vs.State)(hS:S=(bq.bz (bZ q l)).1):aq aqQ 32 [wP b,wP b1] [cZ b false v.v q,aT false v.v l,ak b1 true Rx,H]
  fun r hs=>r= .tuple #[]∧∃(v' u1 u2 u3 u4 u5 u6 u7:V1) (q':Bool) (l':List Nat) (C:Nat→Int) (H':HP),hs=[cZ b false v'.v q',aT false v'.v l',ak b1 true (jO S u1.v u2.v u3.v u4.v u5.v u6.v u7.v),H']++fj true S C u1.v u2.v u3.v u4.v u5.v u6.v u7.v∧bZ q' l'=(bq.bz (bZ q l)).2∧fX l'∧H'.wr=true∧fI H' H∧ob H' S.table.bA C:=by
 refine aq.post (Xk (fun r hs=>r= .tuple #[]∧∃(v' u1 u2 u3 u4 u5 u6 u7:V1) (q':Bool) (l':List Nat) (C:Nat→Int) (H':HP),List.Sublist ([cZ b false v'.v q',aT false v'.v l',ak b1 true (jO S u1.v u2.v u3.v u4.v u5.v u6.v u7.v),H']++fj true S C u1.v u2.v u3.v u4.v u5.v u6.v u7.v) hs∧bZ q' l'=(bq.bz (bZ q l)).2∧fX l'∧H'.wr=true∧fI H' H∧ob H' S.table.bA C) (l.length:Int) (aL l) q v b b1 H ?_) ?_;rotate_left
 ·rintro r hs ⟨rfl,v',u1,u2,u3,u4,u5,u6,u7,q',l',C,H',kT,h1⟩;exact⟨_,bJ.sub kT,rfl,v',u1,u2,u3,u4,u5,u6,u7,q',l',C,H',rfl,h1⟩
 unfold Pp;intro _ _;refine cG 32 rfl (by decide) rfl hl cd.rfl rfl fun v0 w0 n0 A0 q0 l0 An WU Bx uy=>?_
 refine⟨Bx,fun _=>⟨Bx,fun _=>?_⟩⟩;intro _;refine bd 8 (.inr (.inr ⟨rfl,rfl⟩)) WU An cd.rfl rfl fun v1 q1 l1 LG WV Ao=>?_
 intro _ _ _ _;refine bd 1 (.inl ⟨rfl,rfl⟩) WV LG cd.rfl rfl fun v2 q2 l2 Qo J3 DS=>?_
 refine bd 1 (.inl ⟨rfl,rfl⟩) J3 Qo cd.rfl rfl fun v3 q3 l3 UR ho3 Yp=>?_
 intro _;refine cG 32 rfl (by decide) ho3 UR cd.rfl rfl fun v4 w4 n4 A4 q4 l4 hl4 ho4 hn4 Xi=>?_
 refine⟨hn4,fun _=>⟨hn4,fun _=>?_⟩⟩;refine cG 32 rfl (by decide) ho4 hl4 cd.rfl rfl fun v5 w5 n5 A5 q5 l5 hl5 ho5 hn5 hA5=>?_
 refine⟨hn5,fun _=>⟨hn5,fun _=>?_⟩⟩;refine jP ho5 hl5 cd.rfl rfl fun v6 q6 l6 N6 O6 hl6 ho6 hb6 eN6 eO6=>?_
 refine⟨fun x=> ∃(w w2:V1) (n:Nat) (q:Bool) (l:List Nat) (acc:List dx),x=⟨[],[w,w2],[(n:Int),(l.length:Int),(acc.length:Int)],[aL l,cu dx.id acc,dV dx.dY acc],[q],[],[]⟩∧fX l∧acc.length+n=N6∧(∀y∈acc,aaP y)∧lA dG n (bZ q l) acc=lA dG N6 O6 [],fun x=>(x.i.getD 0 0).toNat,?_,?_⟩
 ·exact⟨v6,⟨.slice none 0 0,rfl⟩,_,_,0,_,cu dx.id [],dV dx.dY [],q6,rfl,rfl,rfl,rfl,rfl,fun _ _=>rfl,rfl,rfl,rfl,fun _ h=>absurd h (by simp),fun _ h=>absurd h (by simp),v6,_,N6,q6,l6,[],rfl,hl6,by simp,by simp,by rw [ho6]⟩
 rintro wa ua _ _ _ _ _ _ qa ⟨wa,ua,na,qa,la,eW,FN,Yq,hna,pQ,CF⟩;simp only [Ext.mk.injEq,List.cons.injEq,and_true,true_and]at FN;obtain⟨⟨rfl,rfl⟩,⟨rfl,rfl,rfl⟩,⟨rfl,rfl,rfl⟩,rfl⟩:=FN;refine⟨fun cq=>?_,fun lN=>?_⟩
 ·obtain⟨m,rfl,rfl,qs⟩:=mY dG cq;intro _ _;refine bd 4 (.inr (.inl ⟨rfl,rfl⟩)) rfl Yq cd.rfl rfl fun va0 qa0 la0 W7 W8 aaT=>?_
  intro _;refine cG 32 rfl (by decide) W8 W7 cd.rfl rfl fun va1 wa1 na1 Aa1 qa1 la1 W9 W_ aaU af8=>?_
  refine⟨aaU,fun _=>⟨aaU,fun _=>?_⟩⟩;intro _;have hx:aaP (dG.bz (bZ false la)).1:=⟨aaT,eO 32 _⟩;refine⟨by omega,fun _=>⟨by omega,fun _=>fun w3=>?_⟩⟩;refine⟨va1,w3,(m:Int),_,((eW++[(dG.bz (bZ false la)).1]).length:Int),_,cu dx.id (eW++[(dG.bz (bZ false la)).1]),dV dx.dY (eW++[(dG.bz (bZ false la)).1]),qa1,zq (by omega),rfl,rfl,rfl,rfl,fun _ _=>rfl,rfl,rfl,by simp,?_,?_,⟨va1,w3,m,qa1,la1,_,rfl,W9,by simp;omega,?_,?_⟩,?_⟩
  ·exact lK dx.id eW _ (zm aaT)
  ·exact zp dx.dY 32 eW _ (fun y hy=>(pQ y hy).dY) (eO 32 _) af8
  ·intro y hy;rcases aqC.1 hy with hy | hy
   ·exact pQ y hy
   ·rw [aqx.1 hy];exact hx
  ·exact(congrArg (fun z=>Go.Vs.lA dG m z _) W_).trans (qs.symm.trans CF)
  ·simp only [ah];omega
 ·rw [mX dG lN]at CF;have Yr:bZ qa la=(lA dG N6 O6 []).2:=by rw [←CF]
  have haa:eW=(lA dG N6 O6 []).1:=by rw [←CF]
  refine bd 4 (.inr (.inl ⟨rfl,rfl⟩)) Yr Yq cd.rfl rfl fun v7 q7 l7 hl7 ho7 hb7=>?_
  refine⟨by omega,fun _=>⟨by omega,fun _=>?_⟩⟩;refine jP ho7 hl7 cd.rfl rfl fun v8 q8 l8 N8 O8 hl8 ho8 hb8 eN8 eO8=>?_
  refine⟨fun x=> ∃(w w2:V1) (n:Nat) (q:Bool) (l:List Nat) (acc:List fp) (C:Nat→Int) (H1:HP),x=⟨[],[w,w2],[(n:Int),(l.length:Int),(acc.length:Int)],[aL l,cu (fun(x:fp)=>x.dev.a) acc,cu (fun(x:fp)=>x.dev.d) acc,C],[q],[H1],[]⟩∧fX l∧acc.length+n=N8∧(∀y∈acc,mV y)∧lA bO n (bZ q l) acc=lA bO N8 O8 []∧H1.wr=true∧fI H1 H∧ob H1 acc C,fun x=>(x.i.getD 0 0).toNat,?_,?_⟩
  ·exact⟨v8,⟨.slice none 0 0,rfl⟩,_,_,0,_,cu (fun(x:fp)=>x.dev.a) [],cu (fun(x:fp)=>x.dev.d) [],fun _=>0,q8,H,rfl,rfl,rfl,rfl,rfl,fun _ _=>rfl,rfl,rfl,rfl,rfl,fun _ h=>absurd h (by simp),fun _ h=>absurd h (by simp),fun _ h=>absurd h (by simp),v8,_,N8,q8,l8,[],fun _=>0,H,rfl,hl8,by simp,by simp,by rw [ho8],hH,fI.refl,fun _ h=>absurd h (by simp)⟩
  rintro wb ub _ _ _ _ _ _ Cb qb Hb ⟨wb,ub,nb,qb,lb,Hn,Cb,Hb,Jt,Xl,BZ,aaV,SO,hwb,hgb,heb⟩;simp only [Ext.mk.injEq,List.cons.injEq,and_true,true_and]at Jt;obtain⟨⟨rfl,rfl⟩,⟨rfl,rfl,rfl⟩,⟨rfl,rfl,rfl,rfl⟩,⟨rfl,rfl⟩⟩:=Jt;refine⟨fun cq=>?_,fun lN=>?_⟩
  ·obtain⟨m,rfl,rfl,qs⟩:=mY bO cq;intro _;refine Pl hwb rfl Xl cd.rfl rfl fun ve c qe le He hle Ri jf hwe Ph Xh=>?_
   intro _;have hx:mV (bO.bz (bZ false lb)).1:=jf;refine⟨by omega,fun _=>⟨by omega,fun _=>fun w3=>?_⟩⟩;refine⟨ve,w3,(m:Int),_,((Hn++[(bO.bz (bZ false lb)).1]).length:Int),_,cu (fun(x:fp)=>x.dev.a) (Hn++[(bO.bz (bZ false lb)).1]),cu (fun(x:fp)=>x.dev.d) (Hn++[(bO.bz (bZ false lb)).1]),aw Cb Hn.length c,qe,He,zq (by omega),rfl,rfl,rfl,rfl,fun _ _=>rfl,rfl,rfl,rfl,by simp,?_,?_,fun _ _=>rfl,⟨ve,w3,m,qe,le,_,_,He,rfl,hle,by simp;omega,?_,?_,hwe,Ph.then hgb,K2 heb Ph Xh⟩,?_⟩
   ·exact lK (fun(x:fp)=>x.dev.a) Hn _ rfl
   ·exact lK (fun(x:fp)=>x.dev.d) Hn _ rfl
   ·intro y hy;rcases aqC.1 hy with hy | hy
    ·exact aaV y hy
    ·rw [aqx.1 hy];exact hx
   ·exact(congrArg (fun z=>Go.Vs.lA bO m z _) Ri).trans (qs.symm.trans SO)
   ·simp only [ah];omega
  ·rw [mX bO lN]at SO;have hsb:bZ qb lb=(lA bO N8 O8 []).2:=by rw [←SO]
   have YV:Hn=(lA bO N8 O8 []).1:=by rw [←SO]
   intro _ _ _;refine bd 1 (.inl ⟨rfl,rfl⟩) hsb Xl cd.rfl rfl fun v9 q9 l9 hl9 ho9 hb9=>?_
   refine bd 1 (.inl ⟨rfl,rfl⟩) ho9 hl9 cd.rfl rfl fun v10 QI l10 WX WY af9=>?_
   refine cG 8 rfl (by decide) WY WX cd.rfl rfl fun v11 w11 n11 dN Dg l11 WZ W0 aaW Xj=>?_
   refine⟨aaW,fun _=>⟨aaW,fun _=>?_⟩⟩;refine jP W0 WZ cd.rfl rfl fun qG LS l12 N12 O12 W3 W4 aaC aga agb=>?_
   refine⟨fun x=> ∃(w w2:V1) (n:Nat) (q:Bool) (l:List Nat) (acc:List (List Nat)),x=⟨[],[w,w2],[(n:Int),(l.length:Int),(acc.length:Int)],[aL l,dV (fun(x:List Nat)=>x) acc],[q],[],[]⟩∧fX l∧acc.length+n=N12∧(∀y∈acc,aaQ y)∧lA (raw 16) n (bZ q l) acc=lA (raw 16) N12 O12 [],fun x=>(x.i.getD 0 0).toNat,?_,?_⟩
   ·exact⟨qG,⟨.slice none 0 0,rfl⟩,_,_,0,_,dV (fun(x:List Nat)=>x) [],LS,rfl,rfl,rfl,rfl,rfl,fun _ _=>rfl,rfl,rfl,rfl,fun _ h=>absurd h (by simp),qG,_,N12,LS,l12,[],rfl,W3,by simp,by simp,by rw [W4]⟩
   rintro wc uc _ _ _ _ _ qc ⟨wc,uc,nc,qc,lc,SP,hxc,hlc,Dc,Ul,SQ⟩;simp only [Ext.mk.injEq,List.cons.injEq,and_true,true_and]at hxc;obtain⟨⟨rfl,rfl⟩,⟨rfl,rfl,rfl⟩,⟨rfl,rfl⟩,rfl⟩:=hxc;refine⟨fun cq=>?_,fun lN=>?_⟩
   ·obtain⟨m,rfl,rfl,qs⟩:=mY (raw 16) cq;intro _;refine cG 16 rfl (by decide) rfl hlc cd.rfl rfl fun vc0 wc0 nc0 Ac0 qc0 lc0 agc agd aaY age=>?_
    refine⟨aaY,fun _=>⟨aaY,fun _=>?_⟩⟩;intro _;have hx:aaQ ((raw 16).bz (bZ false lc)).1:=⟨eO 16 _⟩;refine⟨by omega,fun _=>⟨by omega,fun _=>fun w3=>?_⟩⟩;refine⟨vc0,w3,(m:Int),_,((SP++[((raw 16).bz (bZ false lc)).1]).length:Int),_,dV (fun(x:List Nat)=>x) (SP++[((raw 16).bz (bZ false lc)).1]),qc0,zq (by omega),rfl,rfl,rfl,rfl,fun _ _=>rfl,rfl,rfl,by simp,?_,⟨vc0,w3,m,qc0,lc0,_,rfl,agc,by simp;omega,?_,?_⟩,?_⟩
    ·exact zp (fun(x:List Nat)=>x) 16 SP _ (fun y hy=>(Ul y hy).l) (eO 16 _) age
    ·intro y hy;rcases aqC.1 hy with hy | hy
     ·exact Ul y hy
     ·rw [aqx.1 hy];exact hx
    ·exact(congrArg (fun z=>Go.Vs.lA (raw 16) m z _) agd).trans (qs.symm.trans SQ)
    ·simp only [ah];omega
   ·rw [mX (raw 16) lN]at SQ;have jt:bZ qc lc=(lA (raw 16) N12 O12 []).2:=by rw [←SQ]
    have hac:SP=(lA (raw 16) N12 O12 []).1:=by rw [←SQ]
    intro _;refine bd 1 (.inl ⟨rfl,rfl⟩) jt hlc cd.rfl rfl fun qH QJ l13 W5 SE W6=>?_
    refine cG 16 rfl (by decide) SE W5 cd.rfl rfl fun tw w14 n14 gG Yl l14 agf agh aaZ agi=>?_
    refine⟨aaZ,fun _=>⟨aaZ,fun _=>?_⟩⟩;intro _;refine bd 1 (.inl ⟨rfl,rfl⟩) agh agf cd.rfl rfl fun pP KJ l15 agj agk amj=>?_
    have agl:=mb agk;intro _;refine bd 1 (.inl ⟨rfl,rfl⟩) agl agj cd.rfl rfl fun rS G6 l16 agm agn ago=>?_
    intro _ _;refine bd 1 (.inl ⟨rfl,rfl⟩) agn agm cd.rfl rfl fun px LU l17 agp agq agr=>?_
    refine bd 1 (.inl ⟨rfl,rfl⟩) agq agp cd.rfl rfl fun p8 QF l18 ags agt agu=>?_
    intro _;refine cG 32 rfl (by decide) agt ags cd.rfl rfl fun so w19 n19 fh Ym l19 agv agw aa0 agx=>?_
    refine⟨aa0,fun _=>⟨aa0,fun _=>?_⟩⟩;refine cG 32 rfl (by decide) agw agv cd.rfl rfl fun v20 w20 n20 fo N0 l20 agy agz aa1 agA=>?_
    refine⟨aa1,fun _=>⟨aa1,fun _=>?_⟩⟩;refine cG 32 rfl (by decide) agz agy cd.rfl rfl fun NR w21 n21 gl Yn l21 agB agC aa2 agD=>?_
    refine⟨aa2,fun _=>⟨aa2,fun _=>?_⟩⟩;refine jP agC agB cd.rfl rfl fun xZ q22 l22 N22 O22 agF agG amk agH agI=>?_
    refine⟨by omega,fun _=>⟨by omega,fun _=>?_⟩⟩;refine zx _ rfl agG agF cd.rfl rfl fun vF w23 q23 l23 m23 agJ agK agL agM=>?_
    refine zw agK cd.rfl rfl fun u23=>?_
    refine bd 1 (.inl ⟨rfl,rfl⟩) agL agJ cd.rfl rfl fun zg q24 l24 agO agP amm=>?_
    iterate 4 refine⟨by omega,fun _=>?_⟩
    refine jP agP agO cd.rfl rfl fun wV q25 l25 N25 O25 agR agS amo agT agU=>?_
    refine⟨fun x=> ∃(w w2:V1) (n:Nat) (q:Bool) (l:List Nat) (acc:List jW),x=⟨[],[w,w2],[(n:Int),(l.length:Int),(acc.length:Int)],[aL l,cu jW.a acc,cu jW.d acc],[q],[],[]⟩∧fX l∧acc.length+n=N25∧(∀y∈acc,aaR y)∧lA gu n (bZ q l) acc=lA gu N25 O25 [],fun x=>(x.i.getD 0 0).toNat,?_,?_⟩
    ·exact⟨wV,⟨.slice none 0 0,rfl⟩,_,_,0,_,cu jW.a [],cu jW.d [],q25,rfl,rfl,rfl,rfl,rfl,fun _ _=>rfl,rfl,rfl,rfl,fun _ h=>absurd h (by simp),fun _ h=>absurd h (by simp),wV,_,N25,q25,l25,[],rfl,agR,by simp,by simp,by rw [agS]⟩
    rintro wd ud _ _ _ _ _ _ qd ⟨wd,ud,nd,qd,ld,K3,hxd,hld,gV,aa5,SR⟩;simp only [Ext.mk.injEq,List.cons.injEq,and_true,true_and]at hxd;obtain⟨⟨rfl,rfl⟩,⟨rfl,rfl,rfl⟩,⟨rfl,rfl,rfl⟩,rfl⟩:=hxd;refine⟨fun cq=>?_,fun lN=>?_⟩
    ·obtain⟨m,rfl,rfl,qs⟩:=mY gu cq;intro _ _ _;refine bd 1 (.inl ⟨rfl,rfl⟩) rfl hld cd.rfl rfl fun vd0 qd0 ld0 agV agW aa6=>?_
     refine bd 1 (.inl ⟨rfl,rfl⟩) agW agV cd.rfl rfl fun vd1 qd1 ld1 agX agY aa7=>?_
     intro _;have hx:aaR (gu.bz (bZ false ld)).1:=⟨aa6,aa7⟩;refine⟨by omega,fun _=>⟨by omega,fun _=>fun w3=>?_⟩⟩;refine⟨vd1,w3,(m:Int),_,((K3++[(gu.bz (bZ false ld)).1]).length:Int),_,cu jW.a (K3++[(gu.bz (bZ false ld)).1]),cu jW.d (K3++[(gu.bz (bZ false ld)).1]),qd1,zq (by omega),rfl,rfl,rfl,rfl,fun _ _=>rfl,rfl,rfl,by simp,?_,?_,⟨vd1,w3,m,qd1,ld1,_,rfl,agX,by simp;omega,?_,?_⟩,?_⟩
     ·exact lK jW.a K3 _ (KZ aa6)
     ·exact lK jW.d K3 _ (KZ aa7)
     ·intro y hy;rcases aqC.1 hy with hy | hy
      ·exact aa5 y hy
      ·rw [aqx.1 hy];exact hx
     ·exact(congrArg (fun z=>Go.Vs.lA gu m z _) agY).trans (qs.symm.trans SR)
     ·simp only [ah];omega
    ·rw [mX gu lN]at SR;have QM:bZ qd ld=(lA gu N25 O25 []).2:=by rw [←SR]
     have had:K3=(lA gu N25 O25 []).1:=by rw [←SR]
     intro _;refine bd 8 (.inr (.inr ⟨rfl,rfl⟩)) QM hld cd.rfl rfl fun uV q26 l26 ag0 ag1 amq=>?_
     refine bd 8 (.inr (.inr ⟨rfl,rfl⟩)) ag1 ag0 cd.rfl rfl fun vH q27 l27 ag3 ag4 amr=>?_
     refine bd 8 (.inr (.inr ⟨rfl,rfl⟩)) ag4 ag3 cd.rfl rfl fun xG q28 l28 ag6 ag7 ams=>?_
     refine bd 8 (.inr (.inr ⟨rfl,rfl⟩)) ag7 ag6 cd.rfl rfl fun As Ue l29 ag8 ag9 amt=>?_
     refine bd 8 (.inr (.inr ⟨rfl,rfl⟩)) ag9 ag8 cd.rfl rfl fun v30 SS l30 ag_ aha amu=>?_
     intro _;refine bd 4 (.inr (.inl ⟨rfl,rfl⟩)) aha ag_ cd.rfl rfl fun Ku Ys l31 ahb ahc ahd=>?_
     refine jP ahc ahb cd.rfl rfl fun Uc Yt l32 N32 O32 ahe ahf amv ahg ahh=>?_
     refine⟨by omega,fun _=>⟨by omega,fun _=>?_⟩⟩;refine zx _ rfl ahf ahe cd.rfl rfl fun Sg w33 q33 l33 m33 ahj ahk ahl ahm=>?_
     refine zw ahk cd.rfl rfl fun u33=>?_
     refine jP ahl ahj cd.rfl rfl fun QB q34 l34 N34 O34 aho ahp amy ahq ahr=>?_
     refine⟨fun x=> ∃(w w2:V1) (n:Nat) (q:Bool) (l:List Nat) (acc:List Room),x=⟨[],[w,w2],[(n:Int),(l.length:Int),(acc.length:Int)],[aL l,dV Room.id acc,cu Room.aX acc,jm Room.out acc,cu Room.since acc],[q],[],[]⟩∧fX l∧acc.length+n=N34∧(∀y∈acc,CG y)∧lA dQ n (bZ q l) acc=lA dQ N34 O34 [],fun x=>(x.i.getD 0 0).toNat,?_,?_⟩
     ·exact⟨QB,⟨.slice none 0 0,rfl⟩,_,_,0,_,dV Room.id [],cu Room.aX [],jm Room.out [],cu Room.since [],q34,rfl,rfl,rfl,rfl,rfl,fun _ _=>rfl,rfl,rfl,rfl,fun _ h=>absurd h (by simp),fun _ h=>absurd h (by simp),fun _ h=>absurd h (by simp),fun _ h=>absurd h (by simp),QB,_,N34,q34,l34,[],rfl,aho,by simp,by simp,by rw [ahp]⟩
     rintro wf uf _ _ _ _ _ _ _ _ qf ⟨wf,uf,nf,qf,lf,AN,hxf,hlf,hnf,Um,SU⟩;simp only [Ext.mk.injEq,List.cons.injEq,and_true,true_and]at hxf;obtain⟨⟨rfl,rfl⟩,⟨rfl,rfl,rfl⟩,⟨rfl,rfl,rfl,rfl,rfl⟩,rfl⟩:=hxf;refine⟨fun cq=>?_,fun lN=>?_⟩
     ·obtain⟨m,rfl,rfl,qs⟩:=mY dQ cq;intro _;refine Pm rfl hlf cd.rfl rfl fun ve qe le hle Ri jf=>?_
      intro _;have hx:CG (dQ.bz (bZ false lf)).1:=jf;refine⟨by omega,fun _=>⟨by omega,fun _=>fun w3=>?_⟩⟩;refine⟨ve,w3,(m:Int),_,((AN++[(dQ.bz (bZ false lf)).1]).length:Int),_,dV Room.id (AN++[(dQ.bz (bZ false lf)).1]),cu Room.aX (AN++[(dQ.bz (bZ false lf)).1]),jm Room.out (AN++[(dQ.bz (bZ false lf)).1]),cu Room.since (AN++[(dQ.bz (bZ false lf)).1]),qe,zq (by omega),rfl,rfl,rfl,rfl,fun _ _=>rfl,rfl,rfl,by simp,?_,?_,?_,?_,⟨ve,w3,m,qe,le,_,rfl,hle,by simp;omega,?_,?_⟩,?_⟩
      ·exact uF Room.id 16 AN _ (fun y hy=>(Um y hy).id) jf.id
      ·exact lK Room.aX AN _ rfl
      ·exact qM Room.out AN _ rfl
      ·exact lK Room.since AN _ rfl
      ·intro y hy;rcases aqC.1 hy with hy | hy
       ·exact Um y hy
       ·rw [aqx.1 hy];exact hx
      ·exact(congrArg (fun z=>Go.Vs.lA dQ m z _) Ri).trans (qs.symm.trans SU)
      ·simp only [ah];omega
     ·rw [mX dQ lN]at SU;have hsf:bZ qf lf=(lA dQ N34 O34 []).2:=by rw [←SU]
      have haf:AN=(lA dQ N34 O34 []).1:=by rw [←SU]
      subst haa eN6 eO6;subst YV eN8 eO8;subst hac aga agb;subst had agT agU;subst haf ahq ahr agH agI ahg ahh agM ahm;subst hS;refine⟨rfl,wf,ua,ub,uc,u23,ud,u33,uf,_,lf,Cb,Hb,?_,hsf,hlf,hwb,hgb,heb⟩;refine afT (congrArg (ak b1 true) (Pn (s:=(bq.bz (bZ q l)).1) uy rfl (KZ DS) (KZ Yp) Xi hA5 rfl (KZ hb9) (KZ af9) Xj (KZ W6) agi (jc _) (KZ ago) (KZ agr) (KZ agu) agx agA agD rfl rfl rfl rfl rfl rfl (zm ahd))) ?_;exact .cons_cons _ (.cons _ (.cons _ (.cons _ (.cons _ (.cons _ (.cons _ (.cons _ (.cons _ (.cons _ (.cons _ (.cons _ (.cons_cons _ (.cons_cons _ (.cons _ (.cons _ (.cons _ (.cons _ (.cons_cons _ (.cons _ (.cons _ (.cons _ (.cons _ (.cons _ (.cons _ (.cons _ (.cons _ (.cons _ (.cons _ (.cons _ (.cons_cons _ (.cons_cons _ (.cons _ (.cons _ (.cons _ (.cons_cons _ (.cons_cons _ (.slnil)))))))))))))))))))))))))))))))))))))
open Go Go.RX Go.Proofs Go.Vs
abbrev rD(s:Vs.State)(most dP:Int)(v1 v2 v3 v4 v5 v6 v7:Value):List Value:=aqk (aj .u8 32 (aL s.oN)) (.int .u64 (s.drawn:Int)::(.int .u8 (s.table.keys.dev.a:Int)::(.int .u8 (s.table.keys.dev.d:Int)::(aqk (aj .u8 32 (aL s.table.keys.ident)) (aqk (aj .u8 32 (aL s.table.keys.signed)) (v1::(.int .i64 most::(v2::(.int .u8 (s.call.me.a:Int)::(.int .u8 (s.call.me.d:Int)::(aqk (aj .u8 8 (aL s.call.d_)) (v3::(.int .u8 (s.call.state:Int)::(aqk (aj .u8 16 (aL s.call.id)) (.bool (!(bi s.call.out==0))::(.int .u8 (s.call.aX:Int)::(.int .u8 (s.call.peer.a:Int)::(.int .u8 (s.call.peer.d:Int)::(aqk (aj .u8 32 (aL s.call.own)) (aqk (aj .u8 32 (aL s.call.ef)) (aqk (aj .u8 32 (aL s.call.jg)) ([v4,.int .i64 dP,v5,.int .u64 (s.call.fi:Int),.int .u64 (s.call.cc:Int),.int .u64 (s.call.since:Int),.int .u64 (s.call.heard:Int),.int .u64 (s.call.oa:Int),.int .u32 (s.call.jh:Int),v6,v7]))))))))))))))))))))))
structure BD (s:Vs.State):Prop where
 once:s.table.keys.once.length<256^4
 bA:s.table.bA.length<256^4
 peer: ∀p∈s.table.bA,mV p
 dead:s.call.dead.length<256^4
 marks:s.call.marks.length<256^4
 early:s.call.early.length<256^4
 log:fX s.log
 aO:s.aO.length<256^4
 Ug: ∀x∈s.aO,x.id.length=16
theorem lookW{md:Bool}(h:md=false){s:Vs.State}{C:Nat→Int}{u1 u2 u3 u4 u5 u6 u7:Value}: ∀h∈fj md s C u1 u2 u3 u4 u5 u6 u7,h.wr=false:=by
 subst h;intro h hh;simp only [List.mem_cons,List.not_mem_nil,or_false]at hh;rcases hh with rfl | rfl | rfl | rfl | rfl | rfl | rfl<;>rfl
theorem Pq{kd:jW}{ident signed:Nat→Int}{most:Int}{v0 v1:V1}{on:List dx}{ps:List fp}{C:Nat→Int}{H:HP}(hH:H.wr=false)(hP:ob H ps C)(hon:on.length<256^4)(J8:ps.length<256^4)(F5: ∀p∈ps,mV p){R:Int→Int→Prop}(h: ∀a e:Int,(e=0↔uC kd ps most=true)→R a e):
  ∃post,aq aqQ 34 [.agg (.int .u8 (kd.a:Int)::(.int .u8 (kd.d:Int)::(aqk (aj .u8 32 ident) (aqk (aj .u8 32 signed) ([v0.v,.int .i64 most,v1.v]))))).toArray] [CC false v0.v on,KG false v1.v ps C,H] post∧
   ∀x hs,post x hs→∃y1:Int,∃y2:Int,x= .tuple #[(cA y1),.int .i64 y2]∧hs=[CC false v0.v on,KG false v1.v ps C,H]∧R y1 y2:=by
 refine⟨_,aq.looks (KQ kd ident signed most v0 v1 on ps C H hH hP hon J8 F5) (by simp [hH];exact⟨rfl,rfl⟩),?_⟩;rintro x hs ⟨rfl,a,rfl⟩;refine⟨a,_,rfl,rfl,h a _ ?_⟩;cases uC kd ps most<;>simp
theorem Pr{c:Vs.Call}{dP:Int}{v0 v1 v2:V1}(h0:c.dead.length<256^4)(h1:c.marks.length<256^4)(h2:c.early.length<256^4){R:Int→Int→Prop}(h: ∀a e:Int,(e=0↔vL c dP=true)→R a e):
  ∃post,aq aqQ 35 [.agg (EP c dP v0.v v1.v v2.v).toArray] [By false v0.v c.dead,aT false v1.v c.marks,Bz false v2.v c.early] post∧
   ∀x hs,post x hs→∃y1:Int,∃y2:Int,x= .tuple #[(cA y1),.int .i64 y2]∧hs=[By false v0.v c.dead,aT false v1.v c.marks,Bz false v2.v c.early]∧R y1 y2:=by
 refine⟨_,aq.looks (KW c dP v0 v1 v2 h0 h1 h2) (by simp;exact⟨rfl,rfl,rfl⟩),?_⟩;rintro x hs ⟨rfl,a,e,rfl,he⟩;exact⟨a,e,rfl,rfl,h a e he⟩
theorem Ps{v:V1}{b:List Nat}(hb:fX b){R:Int→Int→Prop}(h: ∀a e:Int,(e=0↔wY b=true)→R a e):
  ∃post,aq aqQ 36 [v.v] [aT false v.v b] post∧∀x hs,post x hs→∃y1:Int,∃y2:Int,x= .tuple #[(cA y1),.int .i64 y2]∧hs=[aT false v.v b]∧R y1 y2:=by
 refine⟨_,aq.looks (KT v b hb) (by simp;rfl),?_⟩;rintro x hs ⟨rfl,a,e,rfl,he⟩;exact⟨a,e,rfl,rfl,h a e he⟩
theorem EV{α:Type}(f:Nat→List α)(w:Nat)(hw: ∀i,(f i).length=w){m:Nat}(hm:m≤w): ∀(l:List Nat) (j:Nat) (h:j<l.length),((l.flatMap f).drop (j*w)).take m=(f l[j]).take m
 | [],j,h=>absurd h (by simp)
 | x::l,0,_=>by
  rw [Nat.zero_mul,List.drop_zero,List.flatMap_cons,List.getElem_cons_zero];exact List.take_append_of_le_length (by rw [hw];exact hm)
 | x::l,j+1,h=>by
  rw [List.flatMap_cons,List.getElem_cons_succ,Nat.succ_mul,Nat.add_comm,show w+j*w=(f x).length+j*w by rw [hw],←List.drop_drop,List.drop_left];exact EV f w hw hm l j (by simpa using h)
theorem Pt{v6:V1}{rs:List Room}{n:Int}{b3 j i:Nat}{x:Int}{row:List Value}{A:Nat→Int}(_:n=(rs.length:Int))(hj:j<rs.length)(hi:i<rs.length)(hrI: ∀x∈rs,x.id.length=16)(hx:x=(j:Int))(hA: ∀k,k<16→A k=aL rs[i].id k){R:Int→Prop}(h: ∀c:Int,(0≤c↔sq rs[j].id rs[i].id=false)→R c):
  ∃post,aq aqQ 37 [(yr v6.v ((ag x)*19+0) 16),.slice (some ⟨b3,0,none⟩) 16 16] [uz false v6.v rs,ak b3 true (aqk (aj .u8 16 A) row)] post∧
   ∀y hs,post y hs→∃c:Int,y= .int .i64 c∧hs=[uz false v6.v rs,ak b3 true (aqk (aj .u8 16 A) row)]∧R c:=by
 subst hx;rw [aqD];have l1:=hrI _ (List.getElem_mem hj);have l2:=hrI _ (List.getElem_mem hi);have e1:aj .u8 16 A=aj .u8 16 (aL rs[i].id):=fq hA;rw [e1];have hm:=KX ⟨yr v6.v (j*19+0) 16,by unfold yr;split<;>rfl⟩ ⟨.slice (some ⟨b3,0,none⟩) 16 16,rfl⟩ rs[j].id rs[i].id (by omega);refine⟨fun y hs=>hs=[uz false v6.v rs,ak b3 true (aqk (aj .u8 16 (aL rs[i].id)) row)]∧∃c:Int,y= .int .i64 c∧(0≤c↔sq rs[j].id rs[i].id=false),?_,?_⟩
 ·have b1:bc [uz false v6.v rs,ak b3 true (aqk (aj .u8 16 (aL rs[i].id)) row)] (aT false (yr v6.v (j*19+0) 16) rs[j].id):=by
   have:=bc.left (C:=[ak b3 true (aqk (aj .u8 16 (aL rs[i].id)) row)]) (bc.Ml (t:=98) (s:=19) (n:=rs.length) (i:=j) (c:=0) (m:=16) (v:=v6.v) (cs:=aK rs.length [aC .u8 16 (dV Room.id rs),aC .u8 1 (cu Room.aX rs),ij 1 (jm Room.out rs),aC .u64 1 (cu Room.since rs)]) hj (by omega));have et:((aK rs.length [aC .u8 16 (dV Room.id rs),aC .u8 1 (cu Room.aX rs),ij 1 (jm Room.out rs),aC .u64 1 (cu Room.since rs)]).drop (j*19+0)).take 16=aK rs[j].id.length [aC .u8 1 (aL rs[j].id)]:=by
    rw [Nat.add_zero,uu,l1];unfold aK;rw [EV _ 19 (fun i=>by simp [aC,ij,aj]) (by omega) (List.range rs.length) j (by simpa using hj),List.getElem_range];simp only [List.flatMap_cons];rw [List.take_append_of_le_length (by simp [aC,aj]),List.take_of_length_le (by simp [aC,aj])];unfold aC;refine fq fun k hk=>?_
    exact l_ Room.id 16 rs hrI j k hj hk
   rw [et]at this;show bc _ (aB false 5 1 _ rs[j].id.length _);rw [l1]at this ⊢;exact this
  have b2:bc [uz false v6.v rs,ak b3 true (aqk (aj .u8 16 (aL rs[i].id)) row)] (aT false (.slice (some ⟨b3,0,none⟩) 16 16) rs[i].id):=by
   have:=bc.right (A:=[uz false v6.v rs]) (bc.row (b:=b3) (t:=5) (lo:=0) (n:=16) (m:=16) (wr:=true) (cs:=aqk (aj .u8 16 (aL rs[i].id)) row) (by simp [aj]) (by omega));have et:((aqk (aj .u8 16 (aL rs[i].id)) row).drop 0).take 16=aK rs[i].id.length [aC .u8 1 (aL rs[i].id)]:=by
    rw [List.drop_zero,uu,l2];exact List.take_left' (by simp [aj])
   rw [et]at this;show bc _ (aB false 5 1 _ rs[i].id.length _);rw [l2]at this ⊢;exact this
  refine nH (Q:=fun y=> ∃c:Int,y= .int .i64 c∧(0≤c↔sq rs[j].id rs[i].id=false)) (aq.post hm ?_) (by simpa using ⟨b1,b2⟩);rintro y hs ⟨rfl,h⟩;exact⟨[],bJ.sub (List.nil_sublist _),rfl,h⟩
 ·rintro y hs ⟨rfl,c,rfl,hc⟩;exact⟨c,rfl,rfl,h c hc⟩
end Go.RX.Vb
