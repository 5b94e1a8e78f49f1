/- The store's walker. -/
import Derived.Test.YtllcdnkfbeokhaaGreatM33
open Go.Proofs.Tryz renaming prog -> ax8
open Int renaming toNat -> ag, toNat_natCast -> ax3
open List renaming append -> axQ, flatMap_cons -> ayn, getD_cons_zero -> ah, getElem?_eq_getElem -> ays, length_append -> axP, length_singleton -> axR, mem_append -> ax_, mem_singleton -> ax2
namespace Go.RX.Vb
open Go Go.RX Go.Proofs Go.Vs
theorem TA{s:Vs.State}{v1 v2 v3 v4 v5 v6 v7:Value}{A0:Nat->Int}{z1:Int}{z2:Int}{z3:Int}{A4:Nat->Int}{A5:Nat->Int}{z6:Int}{z7:Int}{z8:Int}{A9:Nat->Int}{z10:Int}{dx:Nat->Int}{z12:Bool}{z13:Int}{z14:Int}{z15:Int}{fw:Nat->Int}{eY:Nat->Int}{eQ:Nat->Int}{z19:Int}{z20:Int}{z21:Int}{z22:Int}{z23:Int}{z24:Int}{z25:Int}
  (wI: ∀j,j<32->A0 j=aJ s.lW j) (hz1:z1=(s.drawn:Int)) (hz2:z2=(s.table.keys.dev.a:Int)) (hz3:z3=(s.table.keys.dev.d:Int)) (hA4: ∀j,j<32->A4 j=aJ s.table.keys.ident j) (hA5: ∀j,j<32->A5 j=aJ s.table.keys.signed j) (hz6:z6=(s.table.most:Int)) (hz7:z7=(s.call.me.a:Int)) (hz8:z8=(s.call.me.d:Int)) (hA9: ∀j,j<8->A9 j=aJ s.call.bE j) (ams:z10=(s.call.state:Int)) (acE: ∀j,j<16->dx j=aJ s.call.id j) (amt:z12= !(bi s.call.out==0)) (amu:z13=(s.call.aM:Int)) (amv:z14=(s.call.peer.a:Int)) (amw:z15=(s.call.peer.d:Int)) (TB: ∀j,j<32->fw j=aJ s.call.own j) (amx: ∀j,j<32->eY j=aJ s.call.cH j) (abD: ∀j,j<32->eQ j=aJ s.call.fi j) (amy:z19=((s.call.fu:Int) - 1)) (amz:z20=(s.call.eD:Int)) (amA:z21=(s.call.bP:Int)) (amB:z22=(s.call.since:Int)) (amC:z23=(s.call.heard:Int)) (amD:z24=(s.call.lJ:Int)) (amE:z25=(s.call.fQ:Int)):
  axQ (aj .u8 32 A0) (.int .u64 z1::(.int .u8 z2::(.int .u8 z3::(axQ (aj .u8 32 A4) (axQ (aj .u8 32 A5) (v1::(.int .i64 z6::(v2::(.int .u8 z7::(.int .u8 z8::(axQ (aj .u8 8 A9) (v3::(.int .u8 z10::(axQ (aj .u8 16 dx) (.bool z12::(.int .u8 z13::(.int .u8 z14::(.int .u8 z15::(axQ (aj .u8 32 fw) (axQ (aj .u8 32 eY) (axQ (aj .u8 32 eQ) ([v4,.int .i64 z19,v5,.int .u64 z20,.int .u64 z21,.int .u64 z22,.int .u64 z23,.int .u64 z24,.int .u32 z25,v6,v7]))))))))))))))))))))))=j7 s v1 v2 v3 v4 v5 v6 v7:=by
 rw[gy wI,hz1,hz2,hz3,gy hA4,gy hA5,hz6,hz7,hz8,gy hA9,ams,gy acE,amt,amu,amv,amw,gy TB,gy amx,gy abD,amy,amz,amA,amB,amC,amD,amE]
abbrev Vm:List Value:=axQ (aj .u8 32 (λ_=>0)) (.int .u64 0::(.int .u8 0::(.int .u8 0::(axQ (aj .u8 32 (λ_=>0)) (axQ (aj .u8 32 (λ_=>0)) (.slice none 0 0::(.int .i64 0::(.slice none 0 0::(.int .u8 0::(.int .u8 0::(axQ (aj .u8 8 (λ_=>0)) (.slice none 0 0::(.int .u8 0::(axQ (aj .u8 16 (λ_=>0)) (.bool false::(.int .u8 0::(.int .u8 0::(.int .u8 0::(axQ (aj .u8 32 (λ_=>0)) (axQ (aj .u8 32 (λ_=>0)) (axQ (aj .u8 32 (λ_=>0)) ([.slice none 0 0,.int .i64 0,.slice none 0 0,.int .u64 0,.int .u64 0,.int .u64 0,.int .u64 0,.int .u64 0,.int .u32 0,.slice none 0 0,.slice none 0 0]))))))))))))))))))))))
theorem O1{H1 H2:HP}{acc:List eu}{C:Nat->Int}{x:eu}{c:Int}(h:lK H1 acc C)(hg:ek H2 H1)(hx: ∃D:Nat->Int,cX H2 (ez false (bg c) x.l D)/\wG H2 x.l D):lK H2 (acc++[x]) (au C acc.length c):=by
 intro i hi;rw[axP,axR]at hi;by_cases he:i=acc.length
 .subst he;rw[show au C acc.length c acc.length=c from if_pos rfl];simpa using hx
 .rw [show au C acc.length c i=C i from if_neg he,List.getElem_append_left (by omega)];obtain⟨D,h1,h2⟩:=h i (by omega);exact⟨D,hg.trans h1,λj hj=>hg.trans (h2 j hj)⟩
structure ag3 (x:dj):Prop where
 id:x.id<256^4
 cT:x.cT.length=32
structure ag4 (x:List Nat):Prop where
 l:x.length=16
structure ag5 (x:js):Prop where
 a:x.a<256
 d:x.d<256
abbrev ef(md:Bool)(s:Vs.State)(C:Nat->Int)(u1 u2 u3 u4 u5 u6 u7:Value):List HP:=[C8 md u1 s.table.keys.once,sL md u2 s.table.aD C,y5 md u3 s.call.dead,aN md u4 s.call.marks,y6 md u5 s.call.early,aN md u6 s.log,ue md u7 s.aF]
set_option maxRecDepth 100000 in
set_option maxHeartbeats 20000000 in
theorem ag6(b b1:Nat)(v:V1)(q:Bool)(l:List Nat)(hl:hZ l)(H:HP)(hH:H.wr=true)(S:Vs.State)(hS:S=(aX.bB (ct q l)).1):ao ax8 32 [wP b,wP b1] [dB b false v.v q,aN false v.v l,ak b1 true Vm,H]
  λr hs=>r= .tuple #[]/\∃(v' u1 u2 u3 u4 u5 u6 u7:V1) (q':Bool) (l':List Nat) (C:Nat->Int) (H':HP),hs=[dB b false v'.v q',aN false v'.v l',ak b1 true (j7 S u1.v u2.v u3.v u4.v u5.v u6.v u7.v),H']++ef true S C u1.v u2.v u3.v u4.v u5.v u6.v u7.v/\ct q' l'=(aX.bB (ct q l)).2/\hZ l'/\H'.wr=true/\ek H' H/\lK H' S.table.aD C:=by
 refine ao.post (acC (λr hs=>r= .tuple #[]/\∃(v' u1 u2 u3 u4 u5 u6 u7:V1) (q':Bool) (l':List Nat) (C:Nat->Int) (H':HP),List.Sublist ([dB b false v'.v q',aN false v'.v l',ak b1 true (j7 S u1.v u2.v u3.v u4.v u5.v u6.v u7.v),H']++ef true S C u1.v u2.v u3.v u4.v u5.v u6.v u7.v) hs/\ct q' l'=(aX.bB (ct q l)).2/\hZ l'/\H'.wr=true/\ek H' H/\lK H' S.table.aD C) (l.length:Int) (aJ l) q v b b1 H ?_) ?_;rotate_left
 .rintro r hs ⟨rfl,v',u1,u2,u3,u4,u5,u6,u7,q',l',C,H',lU,h1⟩;exact⟨_,bq.sub lU,rfl,v',u1,u2,u3,u4,u5,u6,u7,q',l',C,H',rfl,h1⟩
 unfold Ty;intro _ _;refine df 32 rfl (by decide) rfl hl cu.rfl rfl λv0 w0 n0 A0 q0 l0 zB ho0 DS wI=>?_
 refine⟨DS,λ_=>⟨DS,λ_=>?_⟩⟩;intro _;refine bt 8 (.inr (.inr ⟨rfl,rfl⟩)) ho0 zB cu.rfl rfl λv1 q1 l1 JC ho1 CJ=>?_
 intro _ _ _ _;refine bt 1 (.inl ⟨rfl,rfl⟩) ho1 JC cu.rfl rfl λv2 q2 l2 NF C1 FX=>?_
 refine bt 1 (.inl ⟨rfl,rfl⟩) C1 NF cu.rfl rfl λv3 q3 l3 Z4 Xs hb3=>?_
 intro _;refine df 32 rfl (by decide) Xs Z4 cu.rfl rfl λv4 w4 n4 A4 q4 l4 hl4 ho4 hn4 hA4=>?_
 refine⟨hn4,λ_=>⟨hn4,λ_=>?_⟩⟩;refine df 32 rfl (by decide) ho4 hl4 cu.rfl rfl λv5 w5 n5 A5 q5 l5 hl5 ho5 hn5 hA5=>?_
 refine⟨hn5,λ_=>⟨hn5,λ_=>?_⟩⟩;refine lv ho5 hl5 cu.rfl rfl λv6 q6 l6 N6 O6 hl6 ho6 hb6 eN6 eO6=>?_
 refine⟨λx=> ∃(w w2:V1) (n:Nat) (q:Bool) (l:List Nat) (acc:List dj),x=⟨[],[w,w2],[(n:Int),(l.length:Int),(acc.length:Int)],[aJ l,bu dj.id acc,cb dj.cT acc],[q],[],[]⟩/\hZ l/\acc.length+n=N6/\(∀y∈acc,ag3 y)/\mS dE n (ct q l) acc=mS dE N6 O6 [],λx=>(x.i.getD 0 0).toNat,?_,?_⟩
 .exact⟨v6,⟨.slice none 0 0,rfl⟩,_,_,0,_,bu dj.id [],cb dj.cT [],q6,rfl,rfl,rfl,rfl,rfl,λ_ _=>rfl,rfl,rfl,rfl,λ_ h=>absurd h (by simp),λ_ h=>absurd h (by simp),v6,_,N6,q6,l6,[],rfl,hl6,by simp,by simp,by rw[ho6]⟩
 rintro wa ua _ _ _ _ _ _ qa ⟨wa,ua,na,qa,la,fW,I8,hla,hna,rI,E1⟩;simp only[Ext.mk.injEq,List.cons.injEq,and_true,true_and]at I8;obtain⟨⟨rfl,rfl⟩,⟨rfl,rfl,rfl⟩,⟨rfl,rfl,rfl⟩,rfl⟩:=I8;refine⟨λcC=>?_,λlS=>?_⟩
 .obtain⟨m,rfl,rfl,rY⟩:=oA dE cC;intro _ _;refine bt 4 (.inr (.inl ⟨rfl,rfl⟩)) rfl hla cu.rfl rfl λva0 qa0 la0 aci acj ag7=>?_
  intro _;refine df 32 rfl (by decide) acj aci cu.rfl rfl λva1 wa1 na1 Aa1 qa1 la1 ack acm ag8 amF=>?_
  refine⟨ag8,λ_=>⟨ag8,λ_=>?_⟩⟩;intro _;have hx:ag3 (dE.bB (ct false la)).1:=⟨ag7,fI 32 _⟩;refine⟨by omega,λ_=>⟨by omega,λ_=>λw3=>?_⟩⟩;refine⟨va1,w3,(m:Int),_,((fW++[(dE.bB (ct false la)).1]).length:Int),_,bu dj.id (fW++[(dE.bB (ct false la)).1]),cb dj.cT (fW++[(dE.bB (ct false la)).1]),qa1,BO (by omega),rfl,rfl,rfl,rfl,λ_ _=>rfl,rfl,rfl,by simp,?_,?_,⟨va1,w3,m,qa1,la1,_,rfl,ack,by simp;omega,?_,?_⟩,?_⟩
  .exact m_ dj.id fW _ (Bz ag7)
  .exact BN dj.cT 32 fW _ (λy hy=>(rI y hy).cT) (fI 32 _) amF
  .intro y hy;rcases ax_.1 hy with hy | hy
   .exact rI y hy
   .rw [ax2.1 hy];exact hx
  .exact(congrArg (λz=>Go.Vs.mS dE m z _) acm).trans (rY.symm.trans E1)
  .simp only[ah];omega
 .rw [oz dE lS]at E1;have hsa:ct qa la=(mS dE N6 O6 []).2:=by rw[<-E1]
  have haa:fW=(mS dE N6 O6 []).1:=by rw[<-E1]
  refine bt 4 (.inr (.inl ⟨rfl,rfl⟩)) hsa hla cu.rfl rfl λv7 q7 l7 hl7 ho7 hb7=>?_
  refine⟨by omega,λ_=>⟨by omega,λ_=>?_⟩⟩;refine lv ho7 hl7 cu.rfl rfl λv8 q8 l8 N8 O8 hl8 ho8 hb8 eN8 eO8=>?_
  refine⟨λx=> ∃(w w2:V1) (n:Nat) (q:Bool) (l:List Nat) (acc:List eu) (C:Nat->Int) (H1:HP),x=⟨[],[w,w2],[(n:Int),(l.length:Int),(acc.length:Int)],[aJ l,bu (λ(x:eu)=>x.dev.a) acc,bu (λ(x:eu)=>x.dev.d) acc,C],[q],[H1],[]⟩/\hZ l/\acc.length+n=N8/\(∀y∈acc,kb y)/\mS bI n (ct q l) acc=mS bI N8 O8 []/\H1.wr=true/\ek H1 H/\lK H1 acc C,λx=>(x.i.getD 0 0).toNat,?_,?_⟩
  .exact⟨v8,⟨.slice none 0 0,rfl⟩,_,_,0,_,bu (λ(x:eu)=>x.dev.a) [],bu (λ(x:eu)=>x.dev.d) [],λ_=>0,q8,H,rfl,rfl,rfl,rfl,rfl,λ_ _=>rfl,rfl,rfl,rfl,rfl,λ_ h=>absurd h (by simp),λ_ h=>absurd h (by simp),λ_ h=>absurd h (by simp),v8,_,N8,q8,l8,[],λ_=>0,H,rfl,hl8,by simp,by simp,by rw[ho8],hH,ek.refl,λ_ h=>absurd h (by simp)⟩
  rintro wb ub _ _ _ _ _ _ Cb qb Hb ⟨wb,ub,nb,qb,lb,Ks,Cb,Hb,Nl,hlb,Er,ag9,XC,hwb,hgb,heb⟩;simp only[Ext.mk.injEq,List.cons.injEq,and_true,true_and]at Nl;obtain⟨⟨rfl,rfl⟩,⟨rfl,rfl,rfl⟩,⟨rfl,rfl,rfl,rfl⟩,⟨rfl,rfl⟩⟩:=Nl;refine⟨λcC=>?_,λlS=>?_⟩
  .obtain⟨m,rfl,rfl,rY⟩:=oA bI cC;intro _;refine Tw hwb rfl hlb cu.rfl rfl λve c qe le He hle V6 iW hwe Ts Tt=>?_
   intro _;have hx:kb (bI.bB (ct false lb)).1:=iW;refine⟨by omega,λ_=>⟨by omega,λ_=>λw3=>?_⟩⟩;refine⟨ve,w3,(m:Int),_,((Ks++[(bI.bB (ct false lb)).1]).length:Int),_,bu (λ(x:eu)=>x.dev.a) (Ks++[(bI.bB (ct false lb)).1]),bu (λ(x:eu)=>x.dev.d) (Ks++[(bI.bB (ct false lb)).1]),au Cb Ks.length c,qe,He,BO (by omega),rfl,rfl,rfl,rfl,λ_ _=>rfl,rfl,rfl,rfl,by simp,?_,?_,λ_ _=>rfl,⟨ve,w3,m,qe,le,_,_,He,rfl,hle,by simp;omega,?_,?_,hwe,Ts.then hgb,O1 heb Ts Tt⟩,?_⟩
   .exact m_ (λ(x:eu)=>x.dev.a) Ks _ rfl
   .exact m_ (λ(x:eu)=>x.dev.d) Ks _ rfl
   .intro y hy;rcases ax_.1 hy with hy | hy
    .exact ag9 y hy
    .rw [ax2.1 hy];exact hx
   .exact(congrArg (λz=>Go.Vs.mS bI m z _) V6).trans (rY.symm.trans XC)
   .simp only[ah];omega
  .rw [oz bI lS]at XC;have hsb:ct qb lb=(mS bI N8 O8 []).2:=by rw[<-XC]
   have hab:Ks=(mS bI N8 O8 []).1:=by rw[<-XC]
   intro _ _ _;refine bt 1 (.inl ⟨rfl,rfl⟩) hsb hlb cu.rfl rfl λv9 q9 l9 hl9 ho9 hb9=>?_
   refine bt 1 (.inl ⟨rfl,rfl⟩) ho9 hl9 cu.rfl rfl λv10 q10 l10 ab_ aca amG=>?_
   refine df 8 rfl (by decide) aca ab_ cu.rfl rfl λv11 w11 n11 dx HI l11 acb acd ag_ acE=>?_
   refine⟨ag_,λ_=>⟨ag_,λ_=>?_⟩⟩;refine lv acd acb cu.rfl rfl λxj VB l12 N12 O12 ace acf agw amI amJ=>?_
   refine⟨λx=> ∃(w w2:V1) (n:Nat) (q:Bool) (l:List Nat) (acc:List (List Nat)),x=⟨[],[w,w2],[(n:Int),(l.length:Int),(acc.length:Int)],[aJ l,cb (λ(x:List Nat)=>x) acc],[q],[],[]⟩/\hZ l/\acc.length+n=N12/\(∀y∈acc,ag4 y)/\mS (raw 16) n (ct q l) acc=mS (raw 16) N12 O12 [],λx=>(x.i.getD 0 0).toNat,?_,?_⟩
   .exact⟨xj,⟨.slice none 0 0,rfl⟩,_,_,0,_,cb (λ(x:List Nat)=>x) [],VB,rfl,rfl,rfl,rfl,rfl,λ_ _=>rfl,rfl,rfl,rfl,λ_ h=>absurd h (by simp),xj,_,N12,VB,l12,[],rfl,ace,by simp,by simp,by rw[acf]⟩
   rintro wc uc _ _ _ _ _ qc ⟨wc,uc,nc,qc,lc,XD,hxc,hlc,Jr,Zt,XE⟩;simp only[Ext.mk.injEq,List.cons.injEq,and_true,true_and]at hxc;obtain⟨⟨rfl,rfl⟩,⟨rfl,rfl,rfl⟩,⟨rfl,rfl⟩,rfl⟩:=hxc;refine⟨λcC=>?_,λlS=>?_⟩
   .obtain⟨m,rfl,rfl,rY⟩:=oA (raw 16) cC;intro _;refine df 16 rfl (by decide) rfl hlc cu.rfl rfl λvc0 wc0 nc0 Ac0 qc0 lc0 amK amL ahb amM=>?_
    refine⟨ahb,λ_=>⟨ahb,λ_=>?_⟩⟩;intro _;have hx:ag4 ((raw 16).bB (ct false lc)).1:=⟨fI 16 _⟩;refine⟨by omega,λ_=>⟨by omega,λ_=>λw3=>?_⟩⟩;refine⟨vc0,w3,(m:Int),_,((XD++[((raw 16).bB (ct false lc)).1]).length:Int),_,cb (λ(x:List Nat)=>x) (XD++[((raw 16).bB (ct false lc)).1]),qc0,BO (by omega),rfl,rfl,rfl,rfl,λ_ _=>rfl,rfl,rfl,by simp,?_,⟨vc0,w3,m,qc0,lc0,_,rfl,amK,by simp;omega,?_,?_⟩,?_⟩
    .exact BN (λ(x:List Nat)=>x) 16 XD _ (λy hy=>(Zt y hy).l) (fI 16 _) amM
    .intro y hy;rcases ax_.1 hy with hy | hy
     .exact Zt y hy
     .rw [ax2.1 hy];exact hx
    .exact(congrArg (λz=>Go.Vs.mS (raw 16) m z _) amL).trans (rY.symm.trans XE)
    .simp only[ah];omega
   .rw [oz (raw 16) lS]at XE;have kS:ct qc lc=(mS (raw 16) N12 O12 []).2:=by rw[<-XE]
    have hac:XD=(mS (raw 16) N12 O12 []).1:=by rw[<-XE]
    intro _;refine bt 1 (.inl ⟨rfl,rfl⟩) kS hlc cu.rfl rfl λtL Zn l13 acg Xt ach=>?_
    refine df 16 rfl (by decide) Xt acg cu.rfl rfl λCM w14 n14 gw q14 l14 amN amO ahc amP=>?_
    refine⟨ahc,λ_=>⟨ahc,λ_=>?_⟩⟩;intro _;refine bt 1 (.inl ⟨rfl,rfl⟩) amO amN cu.rfl rfl λxk Qe l15 amQ amR atu=>?_
    have amS:=nJ amR;intro _;refine bt 1 (.inl ⟨rfl,rfl⟩) amS amQ cu.rfl rfl λBy OK l16 amT amU amV=>?_
    intro _ _;refine bt 1 (.inl ⟨rfl,rfl⟩) amU amT cu.rfl rfl λtM Zo l17 amW amX amY=>?_
    refine bt 1 (.inl ⟨rfl,rfl⟩) amX amW cu.rfl rfl λtw q18 l18 amZ am0 am1=>?_
    intro _;refine df 32 rfl (by decide) am0 amZ cu.rfl rfl λyZ w19 n19 fb q19 l19 am2 am3 ahd am4=>?_
    refine⟨ahd,λ_=>⟨ahd,λ_=>?_⟩⟩;refine df 32 rfl (by decide) am3 am2 cu.rfl rfl λv20 w20 n20 fg Xe l20 am5 am6 ahe am7=>?_
    refine⟨ahe,λ_=>⟨ahe,λ_=>?_⟩⟩;refine df 32 rfl (by decide) am6 am5 cu.rfl rfl λW5 w21 n21 fR q21 l21 am8 am9 ahf am_=>?_
    refine⟨ahf,λ_=>⟨ahf,λ_=>?_⟩⟩;refine lv am9 am8 cu.rfl rfl λDX q22 l22 N22 O22 ana anb atv anc ane=>?_
    refine⟨by omega,λ_=>⟨by omega,λ_=>?_⟩⟩;refine BT _ rfl anb ana cu.rfl rfl λzQ w23 q23 l23 m23 anf ang anh ani=>?_
    refine BS ang cu.rfl rfl λu23=>?_
    refine bt 1 (.inl ⟨rfl,rfl⟩) anh anf cu.rfl rfl λHG q24 l24 anj ank atx=>?_
    iterate 4 refine⟨by omega,λ_=>?_⟩
    refine lv ank anj cu.rfl rfl λCN q25 l25 N25 O25 anm ann atz ano anp=>?_
    refine⟨λx=> ∃(w w2:V1) (n:Nat) (q:Bool) (l:List Nat) (acc:List js),x=⟨[],[w,w2],[(n:Int),(l.length:Int),(acc.length:Int)],[aJ l,bu js.a acc,bu js.d acc],[q],[],[]⟩/\hZ l/\acc.length+n=N25/\(∀y∈acc,ag5 y)/\mS gq n (ct q l) acc=mS gq N25 O25 [],λx=>(x.i.getD 0 0).toNat,?_,?_⟩
    .exact⟨CN,⟨.slice none 0 0,rfl⟩,_,_,0,_,bu js.a [],bu js.d [],q25,rfl,rfl,rfl,rfl,rfl,λ_ _=>rfl,rfl,rfl,rfl,λ_ h=>absurd h (by simp),λ_ h=>absurd h (by simp),CN,_,N25,q25,l25,[],rfl,anm,by simp,by simp,by rw[ann]⟩
    rintro wd ud _ _ _ _ _ _ qd ⟨wd,ud,nd,qd,ld,O3,hxd,hld,iT,ahh,XF⟩;simp only[Ext.mk.injEq,List.cons.injEq,and_true,true_and]at hxd;obtain⟨⟨rfl,rfl⟩,⟨rfl,rfl,rfl⟩,⟨rfl,rfl,rfl⟩,rfl⟩:=hxd;refine⟨λcC=>?_,λlS=>?_⟩
    .obtain⟨m,rfl,rfl,rY⟩:=oA gq cC;intro _ _ _;refine bt 1 (.inl ⟨rfl,rfl⟩) rfl hld cu.rfl rfl λvd0 qd0 ld0 anq anr ahi=>?_
     refine bt 1 (.inl ⟨rfl,rfl⟩) anr anq cu.rfl rfl λvd1 qd1 ld1 ant anu ahj=>?_
     intro _;have hx:ag5 (gq.bB (ct false ld)).1:=⟨ahi,ahj⟩;refine⟨by omega,λ_=>⟨by omega,λ_=>λw3=>?_⟩⟩;refine⟨vd1,w3,(m:Int),_,((O3++[(gq.bB (ct false ld)).1]).length:Int),_,bu js.a (O3++[(gq.bB (ct false ld)).1]),bu js.d (O3++[(gq.bB (ct false ld)).1]),qd1,BO (by omega),rfl,rfl,rfl,rfl,λ_ _=>rfl,rfl,rfl,by simp,?_,?_,⟨vd1,w3,m,qd1,ld1,_,rfl,ant,by simp;omega,?_,?_⟩,?_⟩
     .exact m_ js.a O3 _ (OY ahi)
     .exact m_ js.d O3 _ (OY ahj)
     .intro y hy;rcases ax_.1 hy with hy | hy
      .exact ahh y hy
      .rw [ax2.1 hy];exact hx
     .exact(congrArg (λz=>Go.Vs.mS gq m z _) anu).trans (rY.symm.trans XF)
     .simp only[ah];omega
    .rw [oz gq lS]at XF;have O4:ct qd ld=(mS gq N25 O25 []).2:=by rw[<-XF]
     have had:O3=(mS gq N25 O25 []).1:=by rw[<-XF]
     intro _;refine bt 8 (.inr (.inr ⟨rfl,rfl⟩)) O4 hld cu.rfl rfl λAj q26 l26 anv anw atB=>?_
     refine bt 8 (.inr (.inr ⟨rfl,rfl⟩)) anw anv cu.rfl rfl λHH q27 l27 anx anz atC=>?_
     refine bt 8 (.inr (.inr ⟨rfl,rfl⟩)) anz anx cu.rfl rfl λJ4 q28 l28 anA anB atD=>?_
     refine bt 8 (.inr (.inr ⟨rfl,rfl⟩)) anB anA cu.rfl rfl λJi q29 l29 anC anD atE=>?_
     refine bt 8 (.inr (.inr ⟨rfl,rfl⟩)) anD anC cu.rfl rfl λv30 XB l30 anE anF atF=>?_
     intro _;refine bt 4 (.inr (.inl ⟨rfl,rfl⟩)) anF anE cu.rfl rfl λv31 q31 l31 anG anH anI=>?_
     refine lv anH anG cu.rfl rfl λv32 q32 l32 N32 O32 anJ anK atG anL anM=>?_
     refine⟨by omega,λ_=>⟨by omega,λ_=>?_⟩⟩;refine BT _ rfl anK anJ cu.rfl rfl λv33 w33 q33 l33 m33 anN anO anP anQ=>?_
     refine BS anO cu.rfl rfl λu33=>?_
     refine lv anP anN cu.rfl rfl λZi q34 l34 N34 O34 anS anT atJ anU anV=>?_
     refine⟨λx=> ∃(w w2:V1) (n:Nat) (q:Bool) (l:List Nat) (acc:List Room),x=⟨[],[w,w2],[(n:Int),(l.length:Int),(acc.length:Int)],[aJ l,cb Room.id acc,bu Room.aM acc,dK Room.out acc,bu Room.since acc],[q],[],[]⟩/\hZ l/\acc.length+n=N34/\(∀y∈acc,E2 y)/\mS dJ n (ct q l) acc=mS dJ N34 O34 [],λx=>(x.i.getD 0 0).toNat,?_,?_⟩
     .exact⟨Zi,⟨.slice none 0 0,rfl⟩,_,_,0,_,cb Room.id [],bu Room.aM [],dK Room.out [],bu Room.since [],q34,rfl,rfl,rfl,rfl,rfl,λ_ _=>rfl,rfl,rfl,rfl,λ_ h=>absurd h (by simp),λ_ h=>absurd h (by simp),λ_ h=>absurd h (by simp),λ_ h=>absurd h (by simp),Zi,_,N34,q34,l34,[],rfl,anS,by simp,by simp,by rw[anT]⟩
     rintro wf uf _ _ _ _ _ _ _ _ qf ⟨wf,uf,nf,qf,lf,C_,hxf,hlf,hnf,Zu,XG⟩;simp only[Ext.mk.injEq,List.cons.injEq,and_true,true_and]at hxf;obtain⟨⟨rfl,rfl⟩,⟨rfl,rfl,rfl⟩,⟨rfl,rfl,rfl,rfl,rfl⟩,rfl⟩:=hxf;refine⟨λcC=>?_,λlS=>?_⟩
     .obtain⟨m,rfl,rfl,rY⟩:=oA dJ cC;intro _;refine Tx rfl hlf cu.rfl rfl λve qe le hle V6 iW=>?_
      intro _;have hx:E2 (dJ.bB (ct false lf)).1:=iW;refine⟨by omega,λ_=>⟨by omega,λ_=>λw3=>?_⟩⟩;refine⟨ve,w3,(m:Int),_,((C_++[(dJ.bB (ct false lf)).1]).length:Int),_,cb Room.id (C_++[(dJ.bB (ct false lf)).1]),bu Room.aM (C_++[(dJ.bB (ct false lf)).1]),dK Room.out (C_++[(dJ.bB (ct false lf)).1]),bu Room.since (C_++[(dJ.bB (ct false lf)).1]),qe,BO (by omega),rfl,rfl,rfl,rfl,λ_ _=>rfl,rfl,rfl,by simp,?_,?_,?_,?_,⟨ve,w3,m,qe,le,_,rfl,hle,by simp;omega,?_,?_⟩,?_⟩
      .exact wO Room.id 16 C_ _ (λy hy=>(Zu y hy).id) iW.id
      .exact m_ Room.aM C_ _ rfl
      .exact sN Room.out C_ _ rfl
      .exact m_ Room.since C_ _ rfl
      .intro y hy;rcases ax_.1 hy with hy | hy
       .exact Zu y hy
       .rw [ax2.1 hy];exact hx
      .exact(congrArg (λz=>Go.Vs.mS dJ m z _) V6).trans (rY.symm.trans XG)
      .simp only[ah];omega
     .rw [oz dJ lS]at XG;have hsf:ct qf lf=(mS dJ N34 O34 []).2:=by rw[<-XG]
      have haf:C_=(mS dJ N34 O34 []).1:=by rw[<-XG]
      subst haa eN6 eO6;subst hab eN8 eO8;subst hac amI amJ;subst had ano anp;subst haf anU anV anc ane anL anM ani anQ;subst hS;refine⟨rfl,wf,ua,ub,uc,u23,ud,u33,uf,_,lf,Cb,Hb,?_,hsf,hlf,hwb,hgb,heb⟩;refine aml (congrArg (ak b1 true) (TA (s:=(aX.bB (ct q l)).1) wI rfl (OY FX) (OY hb3) hA4 hA5 rfl (OY hb9) (OY amG) acE (OY ach) amP (jZ _) (OY amV) (OY amY) (OY am1) am4 am7 am_ rfl rfl rfl rfl rfl rfl (Bz anI))) ?_;exact .cons_cons _ (.cons _ (.cons _ (.cons _ (.cons _ (.cons _ (.cons _ (.cons _ (.cons _ (.cons _ (.cons _ (.cons _ (.cons_cons _ (.cons_cons _ (.cons _ (.cons _ (.cons _ (.cons _ (.cons_cons _ (.cons _ (.cons _ (.cons _ (.cons _ (.cons _ (.cons _ (.cons _ (.cons _ (.cons _ (.cons _ (.cons _ (.cons_cons _ (.cons_cons _ (.cons _ (.cons _ (.cons _ (.cons_cons _ (.cons_cons _ (.slnil)))))))))))))))))))))))))))))))))))))
open Go Go.RX Go.Proofs Go.Vs
abbrev kI(s:Vs.State)(most cP:Int)(v1 v2 v3 v4 v5 v6 v7:Value):List Value:=axQ (aj .u8 32 (aJ s.lW)) (.int .u64 (s.drawn:Int)::(.int .u8 (s.table.keys.dev.a:Int)::(.int .u8 (s.table.keys.dev.d:Int)::(axQ (aj .u8 32 (aJ s.table.keys.ident)) (axQ (aj .u8 32 (aJ s.table.keys.signed)) (v1::(.int .i64 most::(v2::(.int .u8 (s.call.me.a:Int)::(.int .u8 (s.call.me.d:Int)::(axQ (aj .u8 8 (aJ s.call.bE)) (v3::(.int .u8 (s.call.state:Int)::(axQ (aj .u8 16 (aJ s.call.id)) (.bool (!(bi s.call.out==0))::(.int .u8 (s.call.aM:Int)::(.int .u8 (s.call.peer.a:Int)::(.int .u8 (s.call.peer.d:Int)::(axQ (aj .u8 32 (aJ s.call.own)) (axQ (aj .u8 32 (aJ s.call.cH)) (axQ (aj .u8 32 (aJ s.call.fi)) ([v4,.int .i64 cP,v5,.int .u64 (s.call.eD:Int),.int .u64 (s.call.bP:Int),.int .u64 (s.call.since:Int),.int .u64 (s.call.heard:Int),.int .u64 (s.call.lJ:Int),.int .u32 (s.call.fQ:Int),v6,v7]))))))))))))))))))))))
structure sQ (s:Vs.State):Prop where
 once:s.table.keys.once.length<256^4
 aD:s.table.aD.length<256^4
 peer: ∀p∈s.table.aD,kb p
 dead:s.call.dead.length<256^4
 marks:s.call.marks.length<256^4
 early:s.call.early.length<256^4
 log:hZ s.log
 aF:s.aF.length<256^4
 HL: ∀x∈s.aF,x.id.length=16
theorem lookW{md:Bool}(h:md=false){s:Vs.State}{C:Nat->Int}{u1 u2 u3 u4 u5 u6 u7:Value}: ∀h∈ef md s C u1 u2 u3 u4 u5 u6 u7,h.wr=false:=by
 subst h;intro h hh;simp only[List.mem_cons,List.not_mem_nil,or_false]at hh;rcases hh with rfl | rfl | rfl | rfl | rfl | rfl | rfl<;>rfl
theorem TC{kd:js}{ident signed:Nat->Int}{most:Int}{v0 v1:V1}{on:List dj}{ps:List eu}{C:Nat->Int}{H:HP}(hH:H.wr=false)(hP:lK H ps C)(hon:on.length<256^4)(N4:ps.length<256^4)(Jj: ∀p∈ps,kb p){R:Int->Int->Prop}(h: ∀a e:Int,(e=0↔wL kd ps most=true)->R a e):
  ∃post,ao ax8 34 [.agg (.int .u8 (kd.a:Int)::(.int .u8 (kd.d:Int)::(axQ (aj .u8 32 ident) (axQ (aj .u8 32 signed) ([v0.v,.int .i64 most,v1.v]))))).toArray] [C8 false v0.v on,sL false v1.v ps C,H] post/\
   ∀x hs,post x hs->∃y1:Int,∃y2:Int,x= .tuple #[(dr y1),.int .i64 y2]/\hs=[C8 false v0.v on,sL false v1.v ps C,H]/\R y1 y2:=by
 refine⟨_,ao.looks (OO kd ident signed most v0 v1 on ps C H hH hP hon N4 Jj) (by simp[hH];exact⟨rfl,rfl⟩),?_⟩;rintro x hs ⟨rfl,a,rfl⟩;refine⟨a,_,rfl,rfl,h a _ ?_⟩;cases wL kd ps most<;>simp
theorem TD{c:Vs.Call}{cP:Int}{v0 v1 v2:V1}(h0:c.dead.length<256^4)(h1:c.marks.length<256^4)(h2:c.early.length<256^4){R:Int->Int->Prop}(h: ∀a e:Int,(e=0↔yd c cP=true)->R a e):
  ∃post,ao ax8 35 [.agg (HR c cP v0.v v1.v v2.v).toArray] [y5 false v0.v c.dead,aN false v1.v c.marks,y6 false v2.v c.early] post/\
   ∀x hs,post x hs->∃y1:Int,∃y2:Int,x= .tuple #[(dr y1),.int .i64 y2]/\hs=[y5 false v0.v c.dead,aN false v1.v c.marks,y6 false v2.v c.early]/\R y1 y2:=by
 refine⟨_,ao.looks (OU c cP v0 v1 v2 h0 h1 h2) (by simp;exact⟨rfl,rfl,rfl⟩),?_⟩;rintro x hs ⟨rfl,a,e,rfl,he⟩;exact⟨a,e,rfl,rfl,h a e he⟩
theorem TE{v:V1}{b:List Nat}(hb:hZ b){R:Int->Int->Prop}(h: ∀a e:Int,(e=0↔y8 b=true)->R a e):
  ∃post,ao ax8 36 [v.v] [aN false v.v b] post/\∀x hs,post x hs->∃y1:Int,∃y2:Int,x= .tuple #[(dr y1),.int .i64 y2]/\hs=[aN false v.v b]/\R y1 y2:=by
 refine⟨_,ao.looks (OR v b hb) (by simp;rfl),?_⟩;rintro x hs ⟨rfl,a,e,rfl,he⟩;exact⟨a,e,rfl,rfl,h a e he⟩
theorem HX{α:Type}(f:Nat->List α)(w:Nat)(hw: ∀i,(f i).length=w){m:Nat}(hm:m<=w): ∀(l:List Nat) (j:Nat) (h:j<l.length),((l.flatMap f).drop (j*w)).take m=(f l[j]).take m
 | [],j,h=>absurd h (by simp)
 | x::l,0,_=>by
  rw[Nat.zero_mul,List.drop_zero,ayn,List.getElem_cons_zero];exact List.take_append_of_le_length (by rw[hw];exact hm)
 | x::l,j+1,h=>by
  rw[ayn,List.getElem_cons_succ,Nat.succ_mul,Nat.add_comm,show w+j*w=(f x).length+j*w by rw[hw],<-List.drop_drop,List.drop_left];exact HX f w hw hm l j (by simpa using h)
theorem TF{v6:V1}{rs:List Room}{n:Int}{b3 j i:Nat}{x:Int}{row:List Value}{A:Nat->Int}(_:n=(rs.length:Int))(hj:j<rs.length)(hi:i<rs.length)(hrI: ∀x∈rs,x.id.length=16)(hx:x=(j:Int))(hA: ∀k,k<16->A k=aJ rs[i].id k){R:Int->Prop}(h: ∀c:Int,(0<=c↔ug rs[j].id rs[i].id=false)->R c):
  ∃post,ao ax8 37 [(Ay v6.v ((ag x)*19+0) 16),.slice (some ⟨b3,0,none⟩) 16 16] [ue false v6.v rs,ak b3 true (axQ (aj .u8 16 A) row)] post/\
   ∀y hs,post y hs->∃c:Int,y= .int .i64 c/\hs=[ue false v6.v rs,ak b3 true (axQ (aj .u8 16 A) row)]/\R c:=by
 subst hx;rw[ax3];have l1:=hrI _ (List.getElem_mem hj);have l2:=hrI _ (List.getElem_mem hi);have e1:aj .u8 16 A=aj .u8 16 (aJ rs[i].id):=gy hA;rw[e1];have hm:=OW ⟨Ay v6.v (j*19+0) 16,by unfold Ay;split<;>rfl⟩ ⟨.slice (some ⟨b3,0,none⟩) 16 16,rfl⟩ rs[j].id rs[i].id (by omega);refine⟨λy hs=>hs=[ue false v6.v rs,ak b3 true (axQ (aj .u8 16 (aJ rs[i].id)) row)]/\∃c:Int,y= .int .i64 c/\(0<=c↔ug rs[j].id rs[i].id=false),?_,?_⟩
 .have b1:aZ [ue false v6.v rs,ak b3 true (axQ (aj .u8 16 (aJ rs[i].id)) row)] (aN false (Ay v6.v (j*19+0) 16) rs[j].id):=by
   have:=aZ.left (C:=[ak b3 true (axQ (aj .u8 16 (aJ rs[i].id)) row)]) (aZ.Qt (t:=98) (s:=19) (n:=rs.length) (i:=j) (c:=0) (m:=16) (v:=v6.v) (cs:=aG rs.length [ax .u8 16 (cb Room.id rs),ax .u8 1 (bu Room.aM rs),cR 1 (dK Room.out rs),ax .u64 1 (bu Room.since rs)]) hj (by omega));have et:((aG rs.length [ax .u8 16 (cb Room.id rs),ax .u8 1 (bu Room.aM rs),cR 1 (dK Room.out rs),ax .u64 1 (bu Room.since rs)]).drop (j*19+0)).take 16=aG rs[j].id.length [ax .u8 1 (aJ rs[j].id)]:=by
    rw[Nat.add_zero,wz,l1];unfold aG;rw[HX _ 19 (λi=>by simp[ax,cR,aj]) (by omega) (List.range rs.length) j (by simpa using hj),List.getElem_range];simp only[ayn];rw[List.take_append_of_le_length (by simp[ax,aj]),List.take_of_length_le (by simp[ax,aj])];unfold ax;refine gy λk hk=>?_
    exact jX Room.id 16 rs hrI j k hj hk
   rw[et]at this;show aZ _ (aA false 5 1 _ rs[j].id.length _);rw[l1]at this ⊢;exact this
  have b2:aZ [ue false v6.v rs,ak b3 true (axQ (aj .u8 16 (aJ rs[i].id)) row)] (aN false (.slice (some ⟨b3,0,none⟩) 16 16) rs[i].id):=by
   have:=aZ.right (A:=[ue false v6.v rs]) (aZ.row (b:=b3) (t:=5) (lo:=0) (n:=16) (m:=16) (wr:=true) (cs:=axQ (aj .u8 16 (aJ rs[i].id)) row) (by simp[aj]) (by omega));have et:((axQ (aj .u8 16 (aJ rs[i].id)) row).drop 0).take 16=aG rs[i].id.length [ax .u8 1 (aJ rs[i].id)]:=by
    rw[List.drop_zero,wz,l2];exact List.take_left' (by simp[aj])
   rw[et]at this;show aZ _ (aA false 5 1 _ rs[i].id.length _);rw[l2]at this ⊢;exact this
  refine pf (Q:=λy=> ∃c:Int,y= .int .i64 c/\(0<=c↔ug rs[j].id rs[i].id=false)) (ao.post hm ?_) (by simpa using ⟨b1,b2⟩);rintro y hs ⟨rfl,h⟩;exact⟨[],bq.sub (List.nil_sublist _),rfl,h⟩
 .rintro y hs ⟨rfl,c,rfl,hc⟩;exact⟨c,rfl,rfl,h c hc⟩
open Go Go.RX Go.Proofs Go.Vs
def BU(rs:List Room)(i:Nat):Option (List Nat):=if i=0 then none else(rs[i - 1]?).map (·.id)
structure O5 (rs:List Room) (i:Nat) (A B:Nat->Int):Prop where
 run:(rs.take i).foldlM mR none=some (BU rs i)
 n:A 0=(i:Int)
 no: ∀l:List Nat,l.length=16->(∀(j:Nat) (h:j<rs.length),j<i->rs[j].id≠l)->A (aT (kL l))=0/\B (aT (kL l))=0
 up: ∀(j k:Nat) (hj:j<rs.length) (hk:k<rs.length),j<k->k<i->ug rs[j].id rs[k].id=true
theorem Da{rs:List Room}{i:Nat}(hi:i<rs.length)(h1:i=0\/∃h:i - 1<rs.length,ug rs[i - 1].id rs[i].id=true)(h2:rs[i].aM<8):mR (BU rs i) rs[i]=some (some rs[i].id):=by
 unfold mR;rw[if_neg];rintro (⟨l,hl,cC⟩ | h)
 .rcases h1 with rfl | ⟨h,h1⟩
  .cases hl
  .unfold BU at hl;split at hl
   .cases hl
   .rw [ays h]at hl;cases hl;rw[h1]at cC;cases cC
 .omega
theorem O5.next{rs:List Room}{i:Nat}{A B:Nat->Int}(h:O5 rs i A B)(hrI: ∀x∈rs,x.id.length=16)(hi:i<rs.length)(h1:i=0\/∃h:i - 1<rs.length,ug rs[i - 1].id rs[i].id=true)(h2:rs[i].aM<8):
  (∀j,j<i->∀hj:j<rs.length,rs[j].id≠rs[i].id)/\∀z:Int,O5 rs (i+1) (au (au A 0 (A 0+1)) (aT (kL rs[i].id)) 1) (au B (aT (kL rs[i].id)) z):=by
 have cC: ∀j,j<i->∀hj:j<rs.length,ug rs[j].id rs[i].id=true:=by
  intro j Nw hj;rcases h1 with rfl | ⟨hp,h1⟩
  .omega
  .by_cases hjp:j=i - 1
   .subst hjp;exact h1
   .exact D0 _ _ _ (h.up j (i - 1) hj hp (by omega) (by omega)) h1
 have fL: ∀j,j<i->∀hj:j<rs.length,rs[j].id≠rs[i].id:=by
  intro j Nw hj he;have:=cC j Nw hj;rw[he,Mg]at this;cases this
 have l1:=hrI _ (List.getElem_mem hi);refine⟨fL,λz=>⟨?_,?_,?_,?_⟩⟩
 .rw [du _ _ hi,lx,h.run];show mR (BU rs i) rs[i]=_;rw[Da hi h1 h2];unfold BU;rw[if_neg (by omega),Nat.add_sub_cancel,ays hi];rfl
 .simp only[au];rw[if_neg (λe=>Ko _ e.symm),if_pos trivial,h.n];simp
 .intro l hl oO;have acG:l≠rs[i].id:=λe=>oO i hi (by omega) e.symm
  have hk:aT (kL l)≠aT (kL rs[i].id):=λe=>acG (Mf hl l1 e)
  simp only[au];rw[if_neg hk,if_neg hk,if_neg (Ko l)];exact h.no l hl λj hj Nw=>oO j hj (by omega)
 .intro j k hj hk hjk hki;by_cases he:k=i
  .subst he;exact cC j hjk hj
  .exact h.up j k hj hk hjk (by omega)
theorem D1{rs:List Room}{i:Nat}{A B:Nat->Int}(h:O5 rs i A B)(hi:i<rs.length)(hb:(∃h:i - 1<rs.length,0<i/\ug rs[i - 1].id rs[i].id=false)\/8<=rs[i].aM):rq rs=false:=by
 have:(rs.take (i+1)).foldlM mR none=none:=by
  rw[du _ _ hi,lx,h.run];show mR (BU rs i) rs[i]=none;unfold mR;rw[if_pos];rcases hb with⟨hp,h0,hb⟩ | hb
  .refine .inl ⟨_,?_,hb⟩;unfold BU;rw[if_neg (by omega),ays hp];rfl
  .exact .inr hb
 have:=sO _ _ _ _ this;unfold rq;rw[this];simp
theorem tz(s:Vs.State)(most cP:Int):wN s most cP=true↔wL s.table.keys.dev s.table.aD most=true/\yd s.call cP=true/\y8 s.log=true/\s.call.me=s.table.keys.dev/\rq s.aF=true:=by
 simp[wN,and_assoc]
theorem acH{a b:js}:(((a.a:Nat):Int)=((b.a:Nat):Int)/\((a.d:Nat):Int)=((b.d:Nat):Int))↔a=b:=by
 cases a;cases b;simp;omega
set_option maxHeartbeats 2000000 in
theorem O7(s:Vs.State)(most cP:Int)(u1 u2 u3 u4 u5 u6 u7:V1)(C:Nat->Int)(H:HP)(hH:H.wr=false)(hP:lK H s.table.aD C)(hs:sQ s):
  ao ax8 15 [.agg (kI s most cP u1.v u2.v u3.v u4.v u5.v u6.v u7.v).toArray,.nilIface] (ef false s C u1.v u2.v u3.v u4.v u5.v u6.v u7.v++[H]) λr hs=>hs=[]/\∃a e:Int,r= .tuple #[dr a,.int .i64 e]/\(e=0↔wN s most cP=true):=by
 obtain⟨k1,k2,k3,k4,k5,k6,k7,k8,k9⟩:=hs;have no: ∀(e:Int) (_: ¬e=0) (_: ¬wN s most cP=true),([]:List HP)=[]/\∃a e':Int,Value.tuple #[.pointer none,.int .i64 e]= .tuple #[dr a,.int .i64 e']/\(e'=0↔wN s most cP=true):=
  λe h1 h2=>⟨rfl,0,e,rfl,λh=>absurd h h1,λh=>absurd h h2⟩
 refine abO _ (s.drawn:Int) (s.table.keys.dev.a:Int) (s.table.keys.dev.d:Int) most (s.call.me.a:Int) (s.call.me.d:Int) (s.call.state:Int) (bi s.call.out) (s.call.aM:Int) (s.call.peer.a:Int) (s.call.peer.d:Int) cP (s.call.eD:Int) (s.call.bP:Int) (s.call.since:Int) (s.call.heard:Int) (s.call.lJ:Int) (s.call.fQ:Int)
  (s.table.keys.once.length:Int) (s.table.aD.length:Int) (s.call.dead.length:Int) (s.call.marks.length:Int) (s.call.early.length:Int) (s.log.length:Int) (s.aF.length:Int)
  (aJ s.lW) (aJ s.table.keys.ident) (aJ s.table.keys.signed) (aJ s.call.bE) (aJ s.call.id) (aJ s.call.own) (aJ s.call.cH) (aJ s.call.fi) (bu dj.id s.table.keys.once) (cb dj.cT s.table.keys.once) (bu (·.dev.a) s.table.aD) (bu (·.dev.d) s.table.aD) C (cb (λx=>x) s.call.dead) (aJ s.call.marks) (bu js.a s.call.early) (bu js.d s.call.early) (aJ s.log) (cb Room.id s.aF) (bu Room.aM s.aF) (dK Room.out s.aF) (bu Room.since s.aF) u1 u2 u3 u4 u5 u6 u7 H ?_
 unfold SM;intro b0;refine TC hH hP k1 k2 k3 λa1 e1 h1=>?_
 refine⟨λhb=>no e1 hb λh=>hb (h1.2 ((tz ..).1 h).1),λhb=>?_⟩;refine TD k4 k5 k6 λa2 e2 h2=>?_
 refine⟨λhb=>no e2 hb λh=>hb (h2.2 ((tz ..).1 h).2.1),λFX=>?_⟩;refine TE k7 λa3 e3 h3=>?_
 refine⟨λhb=>no e3 hb λh=>hb (h3.2 ((tz ..).1 h).2.2.1),λhb3=>?_⟩;rw[acH];refine⟨.inr (by omega),λ_=>⟨λhb=>no 2 (by decide) λh=>?_,λhb4=>?_⟩⟩
 .obtain⟨_,_,_,g1,g2⟩:=(tz ..).1 h;rcases hb with hb | hb
  .exact hb g1
  .unfold rq at g2;simp at g2;omega
 have h1:=h1.1 (Decidable.not_not.1 hb);have h2:=h2.1 (Decidable.not_not.1 FX);have h3:=h3.1 (Decidable.not_not.1 hb3);have hme:s.call.me=s.table.keys.dev:=Decidable.byContradiction λh=>hb4 (.inl h)
 have hr8:s.aF.length<=8:=by
  rcases Nat.lt_or_ge 8 s.aF.length with h | h
  .exact absurd (.inr (by omega)) hb4
  .exact h
 have kA:wN s most cP=rq s.aF:=by
  unfold wN;rw[h1,h2,h3,hme];simp
 intro b1 b2;refine⟨by omega,λ_=>?_⟩;refine⟨λx=> ∃(i:Nat) (A B:Nat->Int),x=⟨[],[],[(i:Int)],[A,B],[],[],[]⟩/\i<=s.aF.length/\O5 s.aF i A B,λx=>s.aF.length - (x.i.getD 0 0).toNat,?_,?_⟩
 .exact⟨_,_,_,rfl,rfl,rfl,0,_,_,rfl,by omega,⟨rfl,rfl,λ_ _ _=>⟨rfl,rfl⟩,λj k _ _ _ h=>absurd h (by omega)⟩⟩
 rintro jw A B ⟨i,A,B,hx,hi,hI⟩;simp only[Ext.mk.injEq,List.cons.injEq,and_true,true_and]at hx;obtain⟨rfl,rfl,rfl⟩:=hx;refine⟨λcC=>?_,λlS=>?_⟩
 .have cj:i<s.aF.length:=by omega
  have TB: ∀k,k<16->bx (cb Room.id s.aF) (ag ((i:Int)*16)) k=aJ s.aF[i].id k:=by
   intro k hk;show aJ _ (_+k)=_;rw[show(((i:Int)*16).toNat+k)=i*16+k by omega];exact jX Room.id 16 _ k9 i k cj hk
  refine⟨by omega,λ_=>λb3=>⟨by omega,λ_=>⟨by omega,λ_=>⟨by omega,λ_=>⟨by omega,λ_=>⟨by omega,λ_=>⟨by omega,λ_=>⟨by omega,λ_=>⟨by omega,λ_=>?_⟩⟩⟩⟩⟩⟩⟩⟩⟩;have ahm:bu Room.aM s.aF (ag (i:Int))=(s.aF[i].aM:Nat):=by rw[ax3];exact ej _ _ _ cj
  have ahn:dK Room.out s.aF (ag (i:Int))=bi s.aF[i].out:=by rw[ax3];exact gW _ _ _ cj
  have aho: ∀(h1:i=0\/∃h:i - 1<s.aF.length,ug s.aF[i - 1].id s.aF[i].id=true) (h2:s.aF[i].aM<8),(A (aT (kL s.aF[i].id))=0/\B (aT (kL s.aF[i].id))=0)/\A 0<8/\∀z:Int,O5 s.aF (i+1) (au (au A 0 (A 0+1)) (aT (kL s.aF[i].id)) 1) (au B (aT (kL s.aF[i].id)) z):=by
   intro h1 h2;obtain⟨g1,g2⟩:=hI.next k9 cj h1 h2;refine⟨hI.no _ (k9 _ (List.getElem_mem cj)) λj hj Nw=>g1 j Nw hj,by rw[hI.n];omega,g2⟩
  refine⟨λuC=>?_,λhz=>?_⟩
  .refine TF (j:=i - 1) (i:=i) rfl (by omega) cj k9 (by omega) TB λc hc=>?_
   rw[ahm];refine⟨λhb=>no 2 (by decide) λh=>?_,λhb=>?_⟩
   .rw [kA,D1 hI cj]at h
    .cases h
    .rcases hb with hb | hb
     .exact .inl ⟨by omega,by omega,hc.1 hb⟩
     .exact .inr (by omega)
   .have g1:ug s.aF[i - 1].id s.aF[i].id=true:=by
     cases hh:ug s.aF[i - 1].id s.aF[i].id with
     | true=>rfl
     | false=>exact absurd (.inl (hc.2 hh)) hb
    obtain⟨⟨z1,z2⟩,z3,z4⟩:=aho (.inr ⟨by omega,g1⟩) (by omega);refine HT ahn s.aF[i].id TB z1 z2 z3 λb y1 y2=>?_
    exact⟨by omega,λ_=>⟨by omega,λ_=>⟨((i+1:Nat):Int),_,_,by simp,rfl,rfl,⟨i+1,_,_,rfl,by omega,z4 _⟩,by simp;omega⟩⟩⟩
  .rw [ahm];refine⟨λhb=>no 2 (by decide) λh=>?_,λhb=>?_⟩
   .rw [kA,D1 hI cj (.inr (by omega))]at h;cases h
   .obtain⟨⟨z1,z2⟩,z3,z4⟩:=aho (.inl (by omega)) (by omega);refine HT ahn s.aF[i].id TB z1 z2 z3 λb y1 y2=>?_
    exact⟨by omega,λ_=>⟨by omega,λ_=>⟨((i+1:Nat):Int),_,_,by simp,rfl,rfl,⟨i+1,_,_,rfl,by omega,z4 _⟩,by simp;omega⟩⟩⟩
 .refine⟨rfl,(b2:Nat)+1,0,by rw[fq],λ_=>?_,λ_=>rfl⟩;have:i=s.aF.length:=by omega
  subst this;have hr:=hI.run;rw[List.take_length]at hr;rw[kA];unfold rq;rw[hr];simp[hr8]
def lL(s:Vs.State)(most cP:Int):Bool:=decide (0<=most)&&decide (most<=2147483647)&&decide (-1<=cP)&&decide (cP<=254)&&wN s most cP
set_option maxHeartbeats 4000000 in
theorem tA(s:Vs.State)(most cP:Int)(u1 u2 u3 u4 u5 u6 u7:V1)(C:Nat->Int)(H:HP)(hH:H.wr=false)(hP:lK H s.table.aD C)(hs:sQ s):
  ao ax8 10 [.agg (kI s most cP u1.v u2.v u3.v u4.v u5.v u6.v u7.v).toArray] (ef false s C u1.v u2.v u3.v u4.v u5.v u6.v u7.v++[H]) λr hs=>hs=[]/\r= .bool (lL s most cP):=by
 refine abQ _ (s.drawn:Int) (s.table.keys.dev.a:Int) (s.table.keys.dev.d:Int) most (s.call.me.a:Int) (s.call.me.d:Int) (s.call.state:Int) (bi s.call.out) (s.call.aM:Int) (s.call.peer.a:Int) (s.call.peer.d:Int) cP (s.call.eD:Int) (s.call.bP:Int) (s.call.since:Int) (s.call.heard:Int) (s.call.lJ:Int) (s.call.fQ:Int)
  (s.table.keys.once.length:Int) (s.table.aD.length:Int) (s.call.dead.length:Int) (s.call.marks.length:Int) (s.call.early.length:Int) (s.log.length:Int) (s.aF.length:Int)
  (aJ s.lW) (aJ s.table.keys.ident) (aJ s.table.keys.signed) (aJ s.call.bE) (aJ s.call.id) (aJ s.call.own) (aJ s.call.cH) (aJ s.call.fi) (bu dj.id s.table.keys.once) (cb dj.cT s.table.keys.once) (bu (·.dev.a) s.table.aD) (bu (·.dev.d) s.table.aD) C (cb (λx=>x) s.call.dead) (aJ s.call.marks) (bu js.a s.call.early) (bu js.d s.call.early) (aJ s.log) (cb Room.id s.aF) (bu Room.aM s.aF) (dK Room.out s.aF) (bu Room.since s.aF) u1 u2 u3 u4 u5 u6 u7 H ?_
 unfold SO;intro b0;have hi:lL s most cP=true↔0<=most/\most<=2147483647/\ -1<=cP/\cP<=254/\wN s most cP=true:=by simp[lL,and_assoc]
 refine⟨λhb=>⟨rfl,?_⟩,λhb=>?_⟩
 .have:lL s most cP=false:=by
   cases h:lL s most cP with
   | false=>rfl
   | true=>have:=hi.1 h;omega
  rw[this]
 .have hw: ∀h∈ef false s C u1.v u2.v u3.v u4.v u5.v u6.v u7.v++[H],h.wr=false:=by
   intro h hh;rcases ax_.1 hh with hh | hh
   .exact lookW rfl h hh
   .rw [ax2.1 hh];exact hH
  refine⟨_,ao.looks (O7 s most cP u1 u2 u3 u4 u5 u6 u7 C H hH hP hs) hw,?_⟩;rintro x lU ⟨rfl,a,e,rfl,he⟩;refine⟨a,e,rfl,rfl,rfl,?_⟩;have:lL s most cP=(e==0):=by
   rw[Bool.eq_iff_iff,hi,<-he];simp;omega
  rw[this]
open Go Go.RX Go.Proofs Go.Vs
theorem bq.aa2{b:Nat}{x z:Value}:bq [ak b true [x,.slice none 0 0,z]] [ak b true [x,(⟨.slice none 0 0,rfl⟩:V1).v,z],aA true 5 1 (⟨.slice none 0 0,rfl⟩:V1).v 0 []]:=
 bq.front (A:=[ak b true [x,.slice none 0 0,z]]) (bq.tN 5 1)
set_option maxRecDepth 100000 in
set_option maxHeartbeats 4000000 in
theorem uY(s:Vs.State)(u1 u2 u3 u4 u5 u6 u7:V1)(C:Nat->Int)(H:HP)(hH:H.wr=false)(hP:lK H s.table.aD C)(hs:zR s)(hl:(aX.enc s).length<=140737488355328):
  ao ax8 13 [.agg (j7 s u1.v u2.v u3.v u4.v u5.v u6.v u7.v).toArray] (ef false s C u1.v u2.v u3.v u4.v u5.v u6.v u7.v++[H]) λr hs=> ∃o:V1,r=o.v/\hs=[aN true o.v (aX.enc s)]:=by
 refine ao.post (Xn (λr hs=> ∃o:V1,r=o.v/\List.Sublist [aN true o.v (aX.enc s)] hs) (s.drawn:Int) (s.table.keys.dev.a:Int) (s.table.keys.dev.d:Int) (s.table.most:Int) (s.call.me.a:Int) (s.call.me.d:Int) (s.call.state:Int) (bi s.call.out) (s.call.aM:Int) (s.call.peer.a:Int) (s.call.peer.d:Int) ((s.call.fu:Int) - 1) (s.call.eD:Int) (s.call.bP:Int) (s.call.since:Int) (s.call.heard:Int) (s.call.lJ:Int) (s.call.fQ:Int)
  (s.table.keys.once.length:Int) (s.table.aD.length:Int) (s.call.dead.length:Int) (s.call.marks.length:Int) (s.call.early.length:Int) (s.log.length:Int) (s.aF.length:Int)
  (aJ s.lW) (aJ s.table.keys.ident) (aJ s.table.keys.signed) (aJ s.call.bE) (aJ s.call.id) (aJ s.call.own) (aJ s.call.cH) (aJ s.call.fi) (bu dj.id s.table.keys.once) (cb dj.cT s.table.keys.once) (bu (λp:eu=>p.dev.a) s.table.aD) (bu (λp:eu=>p.dev.d) s.table.aD) C (cb (λx=>x) s.call.dead) (aJ s.call.marks) (bu js.a s.call.early) (bu js.d s.call.early) (aJ s.log) (cb Room.id s.aF) (bu Room.aM s.aF) (dK Room.out s.aF) (bu Room.since s.aF) u1 u2 u3 u4 u5 u6 u7 H ?_) ?_
 rotate_left
 .rintro r hs ⟨o,rfl,h⟩;exact⟨_,bq.sub h,o,rfl,rfl⟩
 unfold Ma;intro b0 b1;refine⟨λe=>e=⟨[],[⟨.slice none 0 0,rfl⟩],[],[],[],[],[]⟩,λw Fs h=>⟨⟨.slice none 0 0,rfl⟩,bq.aa2 w Fs h,rfl⟩,λv7 h7=>?_⟩;refine⟨_,OF b1 b0 v7 u1 u2 u3 u4 u5 u6 u7 [] s C H hH hP hs (by simpa using hl),?_⟩;rintro x lU ⟨rfl,v',rfl⟩;refine⟨v',((aX.enc s).length:Int),aJ (aX.enc s),rfl,rfl,v',rfl,?_⟩
 iterate 10 refine List.Sublist.cons _ ?_
 exact List.Sublist.refl _
end Go.RX.Vb
