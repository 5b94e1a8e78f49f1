/- The store's walker. -/
import Derived.Test.YtllcdnkfbeokhaaGreatM37
open Go.Proofs.Tryz renaming prog → auN
open Int renaming toNat → ag, toNat_natCast → auD
open List renaming append → aul, getD_cons_zero → ah, getElem?_eq_getElem → auU, length_append → aum, length_singleton → aun, mem_append → auE, mem_singleton → auz
namespace Go.RX.Vb
open Go Go.RX Go.Proofs Go.Vs
theorem Sy{s:Vs.State}{v1 v2 v3 v4 v5 v6 v7:Value}{A0:Nat→Int}{z1:Int}{z2:Int}{z3:Int}{A4:Nat→Int}{A5:Nat→Int}{z6:Int}{z7:Int}{z8:Int}{A9:Nat→Int}{z10:Int}{dA:Nat→Int}{z12:Bool}{z13:Int}{z14:Int}{z15:Int}{fJ:Nat→Int}{ff:Nat→Int}{eQ:Nat→Int}{z19:Int}{z20:Int}{z21:Int}{z22:Int}{z23:Int}{z24:Int}{z25:Int}
  (vV: ∀j,j<32→A0 j=aI s.mD j) (hz1:z1=(s.drawn:Int)) (hz2:z2=(s.table.keys.dev.a:Int)) (hz3:z3=(s.table.keys.dev.d:Int)) (hA4: ∀j,j<32→A4 j=aI s.table.keys.ident j) (hA5: ∀j,j<32→A5 j=aI s.table.keys.signed j) (hz6:z6=(s.table.most:Int)) (hz7:z7=(s.call.me.a:Int)) (hz8:z8=(s.call.me.d:Int)) (hA9: ∀j,j<8→A9 j=aI s.call.dv j) (ajV:z10=(s.call.state:Int)) (aa_: ∀j,j<16→dA j=aI s.call.id j) (ajW:z12= !(bi s.call.out==0)) (ajX:z13=(s.call.aP:Int)) (ajY:z14=(s.call.peer.a:Int)) (ajZ:z15=(s.call.peer.d:Int)) (Sz: ∀j,j<32→fJ j=aI s.call.own j) (aj0: ∀j,j<32→ff j=aI s.call.dx j) (Z3: ∀j,j<32→eQ j=aI s.call.gY j) (aj1:z19=((s.call.fQ:Int) - 1)) (aj2:z20=(s.call.eO:Int)) (aj3:z21=(s.call.bV:Int)) (aj4:z22=(s.call.since:Int)) (aj5:z23=(s.call.heard:Int)) (aj6:z24=(s.call.mC:Int)) (aj7:z25=(s.call.hZ:Int)):
  aul (aj .u8 32 A0) (.int .u64 z1::(.int .u8 z2::(.int .u8 z3::(aul (aj .u8 32 A4) (aul (aj .u8 32 A5) (v1::(.int .i64 z6::(v2::(.int .u8 z7::(.int .u8 z8::(aul (aj .u8 8 A9) (v3::(.int .u8 z10::(aul (aj .u8 16 dA) (.bool z12::(.int .u8 z13::(.int .u8 z14::(.int .u8 z15::(aul (aj .u8 32 fJ) (aul (aj .u8 32 ff) (aul (aj .u8 32 eQ) ([v4,.int .i64 z19,v5,.int .u64 z20,.int .u64 z21,.int .u64 z22,.int .u64 z23,.int .u64 z24,.int .u32 z25,v6,v7]))))))))))))))))))))))=jS s v1 v2 v3 v4 v5 v6 v7:=by
 rw [fR vV,hz1,hz2,hz3,fR hA4,fR hA5,hz6,hz7,hz8,fR hA9,ajV,fR aa_,ajW,ajX,ajY,ajZ,fR Sz,fR aj0,fR Z3,aj1,aj2,aj3,aj4,aj5,aj6,aj7]
abbrev TR:List Value:=aul (aj .u8 32 (fun _=>0)) (.int .u64 0::(.int .u8 0::(.int .u8 0::(aul (aj .u8 32 (fun _=>0)) (aul (aj .u8 32 (fun _=>0)) (.slice none 0 0::(.int .i64 0::(.slice none 0 0::(.int .u8 0::(.int .u8 0::(aul (aj .u8 8 (fun _=>0)) (.slice none 0 0::(.int .u8 0::(aul (aj .u8 16 (fun _=>0)) (.bool false::(.int .u8 0::(.int .u8 0::(.int .u8 0::(aul (aj .u8 32 (fun _=>0)) (aul (aj .u8 32 (fun _=>0)) (aul (aj .u8 32 (fun _=>0)) ([.slice none 0 0,.int .i64 0,.slice none 0 0,.int .u64 0,.int .u64 0,.int .u64 0,.int .u64 0,.int .u64 0,.int .u32 0,.slice none 0 0,.slice none 0 0]))))))))))))))))))))))
theorem Oc{H1 H2:HP}{acc:List ez}{C:Nat→Int}{x:ez}{c:Int}(h:lg H1 acc C)(hg:gl H2 H1)(hx: ∃D:Nat→Int,gZ H2 (eX false (cc c) x.l D)∧vT H2 x.l D):lg H2 (acc++[x]) (aw C acc.length c):=by
 intro i hi;rw [aum,aun]at hi;by_cases he:i=acc.length
 ·subst he;rw [show aw C acc.length c acc.length=c from if_pos rfl];simpa using hx
 ·rw [show aw C acc.length c i=C i from if_neg he,List.getElem_append_left (by omega)];obtain⟨D,h1,h2⟩:=h i (by omega);exact⟨D,hg.trans h1,fun j hj=>hg.trans (h2 j hj)⟩
structure aey (x:cV):Prop where
 id:x.id<256^4
 cP:x.cP.length=32
structure aez (x:List Nat):Prop where
 l:x.length=16
structure aeA (x:jl):Prop where
 a:x.a<256
 d:x.d<256
abbrev ef(md:Bool)(s:Vs.State)(C:Nat→Int)(u1 u2 u3 u4 u5 u6 u7:Value):List HP:=[Cv md u1 s.table.keys.once,za md u2 s.table.aL C,AS md u3 s.call.dead,aR md u4 s.call.marks,AT md u5 s.call.early,aR md u6 s.log,tH md u7 s.aH]
set_option maxRecDepth 100000 in
set_option maxHeartbeats 20000000 in
theorem aeB(b b1:Nat)(v:V1)(q:Bool)(l:List Nat)(hl:fL l)(H:HP)(hH:H.wr=true)(S:Vs.State)(hS:S=(aZ.bD (cg q l)).1):aq auN 32 [wP b,wP b1] [dy b false v.v q,aR false v.v l,ak b1 true TR,H]
  fun r hs=>r= .tuple #[]∧∃(v' u1 u2 u3 u4 u5 u6 u7:V1) (q':Bool) (l':List Nat) (C:Nat→Int) (H':HP),hs=[dy b false v'.v q',aR false v'.v l',ak b1 true (jS S u1.v u2.v u3.v u4.v u5.v u6.v u7.v),H']++ef true S C u1.v u2.v u3.v u4.v u5.v u6.v u7.v∧cg q' l'=(aZ.bD (cg q l)).2∧fL l'∧H'.wr=true∧gl H' H∧lg H' S.table.aL C:=by
 refine aq.post (aa8 (fun r hs=>r= .tuple #[]∧∃(v' u1 u2 u3 u4 u5 u6 u7:V1) (q':Bool) (l':List Nat) (C:Nat→Int) (H':HP),List.Sublist ([dy b false v'.v q',aR false v'.v l',ak b1 true (jS S u1.v u2.v u3.v u4.v u5.v u6.v u7.v),H']++ef true S C u1.v u2.v u3.v u4.v u5.v u6.v u7.v) hs∧cg q' l'=(aZ.bD (cg q l)).2∧fL l'∧H'.wr=true∧gl H' H∧lg H' S.table.aL C) (l.length:Int) (aI l) q v b b1 H ?_) ?_;rotate_left
 ·rintro r hs ⟨rfl,v',u1,u2,u3,u4,u5,u6,u7,q',l',C,H',lP,h1⟩;exact⟨_,bI.sub lP,rfl,v',u1,u2,u3,u4,u5,u6,u7,q',l',C,H',rfl,h1⟩
 unfold Sw;intro _ _;refine cS 32 rfl (by decide) rfl hl cj.rfl rfl fun v0 w0 n0 A0 q0 l0 yP ho0 Da vV=>?_
 refine⟨Da,fun _=>⟨Da,fun _=>?_⟩⟩;intro _;refine bp 8 (.inr (.inr ⟨rfl,rfl⟩)) ho0 yP cj.rfl rfl fun v1 q1 l1 IK ho1 zl=>?_
 intro _ _ _ _;refine bp 1 (.inl ⟨rfl,rfl⟩) ho1 IK cj.rfl rfl fun v2 q2 l2 MC MW DO=>?_
 refine bp 1 (.inl ⟨rfl,rfl⟩) MW MC cj.rfl rfl fun v3 q3 l3 YJ ho3 Zf=>?_
 intro _;refine cS 32 rfl (by decide) ho3 YJ cj.rfl rfl fun v4 w4 n4 A4 q4 l4 hl4 ho4 hn4 hA4=>?_
 refine⟨hn4,fun _=>⟨hn4,fun _=>?_⟩⟩;refine cS 32 rfl (by decide) ho4 hl4 cj.rfl rfl fun v5 w5 n5 A5 q5 l5 hl5 ho5 hn5 hA5=>?_
 refine⟨hn5,fun _=>⟨hn5,fun _=>?_⟩⟩;refine ky ho5 hl5 cj.rfl rfl fun v6 q6 l6 N6 O6 hl6 ho6 hb6 eN6 eO6=>?_
 refine⟨fun x=> ∃(w w2:V1) (n:Nat) (q:Bool) (l:List Nat) (acc:List cV),x=⟨[],[w,w2],[(n:Int),(l.length:Int),(acc.length:Int)],[aI l,bN cV.id acc,cq cV.cP acc],[q],[],[]⟩∧fL l∧acc.length+n=N6∧(∀y∈acc,aey y)∧ml dN n (cg q l) acc=ml dN N6 O6 [],fun x=>(x.i.getD 0 0).toNat,?_,?_⟩
 ·exact⟨v6,⟨.slice none 0 0,rfl⟩,_,_,0,_,bN cV.id [],cq cV.cP [],q6,rfl,rfl,rfl,rfl,rfl,fun _ _=>rfl,rfl,rfl,rfl,fun _ h=>absurd h (by simp),fun _ h=>absurd h (by simp),v6,_,N6,q6,l6,[],rfl,hl6,by simp,by simp,by rw [ho6]⟩
 rintro wa ua _ _ _ _ _ _ qa ⟨wa,ua,na,qa,la,fC,Ia,hla,hna,qQ,Ex⟩;simp only [Ext.mk.injEq,List.cons.injEq,and_true,true_and]at Ia;obtain⟨⟨rfl,rfl⟩,⟨rfl,rfl,rfl⟩,⟨rfl,rfl,rfl⟩,rfl⟩:=Ia;refine⟨fun cF=>?_,fun mn=>?_⟩
 ·obtain⟨m,rfl,rfl,qH⟩:=nK dN cF;intro _ _;refine bp 4 (.inr (.inl ⟨rfl,rfl⟩)) rfl hla cj.rfl rfl fun va0 qa0 la0 aaG aaH aeC=>?_
  intro _;refine cS 32 rfl (by decide) aaH aaG cj.rfl rfl fun va1 wa1 na1 Aa1 qa1 la1 aaI aaJ aeD aj8=>?_
  refine⟨aeD,fun _=>⟨aeD,fun _=>?_⟩⟩;intro _;have hx:aey (dN.bD (cg false la)).1:=⟨aeC,fo 32 _⟩;refine⟨by omega,fun _=>⟨by omega,fun _=>fun w3=>?_⟩⟩;refine⟨va1,w3,(m:Int),_,((fC++[(dN.bD (cg false la)).1]).length:Int),_,bN cV.id (fC++[(dN.bD (cg false la)).1]),cq cV.cP (fC++[(dN.bD (cg false la)).1]),qa1,AW (by omega),rfl,rfl,rfl,rfl,fun _ _=>rfl,rfl,rfl,by simp,?_,?_,⟨va1,w3,m,qa1,la1,_,rfl,aaI,by simp;omega,?_,?_⟩,?_⟩
  ·exact mG cV.id fC _ (AG aeC)
  ·exact AV cV.cP 32 fC _ (fun y hy=>(qQ y hy).cP) (fo 32 _) aj8
  ·intro y hy;rcases auE.1 hy with hy | hy
   ·exact qQ y hy
   ·rw [auz.1 hy];exact hx
  ·exact(congrArg (fun z=>Go.Vs.ml dN m z _) aaJ).trans (qH.symm.trans Ex)
  ·simp only [ah];omega
 ·rw [nJ dN mn]at Ex;have hsa:cg qa la=(ml dN N6 O6 []).2:=by rw [←Ex]
  have haa:fC=(ml dN N6 O6 []).1:=by rw [←Ex]
  refine bp 4 (.inr (.inl ⟨rfl,rfl⟩)) hsa hla cj.rfl rfl fun v7 q7 l7 hl7 ho7 hb7=>?_
  refine⟨by omega,fun _=>⟨by omega,fun _=>?_⟩⟩;refine ky ho7 hl7 cj.rfl rfl fun v8 q8 l8 N8 O8 hl8 ho8 hb8 eN8 eO8=>?_
  refine⟨fun x=> ∃(w w2:V1) (n:Nat) (q:Bool) (l:List Nat) (acc:List ez) (C:Nat→Int) (H1:HP),x=⟨[],[w,w2],[(n:Int),(l.length:Int),(acc.length:Int)],[aI l,bN (fun(x:ez)=>x.dev.a) acc,bN (fun(x:ez)=>x.dev.d) acc,C],[q],[H1],[]⟩∧fL l∧acc.length+n=N8∧(∀y∈acc,kb y)∧ml bM n (cg q l) acc=ml bM N8 O8 []∧H1.wr=true∧gl H1 H∧lg H1 acc C,fun x=>(x.i.getD 0 0).toNat,?_,?_⟩
  ·exact⟨v8,⟨.slice none 0 0,rfl⟩,_,_,0,_,bN (fun(x:ez)=>x.dev.a) [],bN (fun(x:ez)=>x.dev.d) [],fun _=>0,q8,H,rfl,rfl,rfl,rfl,rfl,fun _ _=>rfl,rfl,rfl,rfl,rfl,fun _ h=>absurd h (by simp),fun _ h=>absurd h (by simp),fun _ h=>absurd h (by simp),v8,_,N8,q8,l8,[],fun _=>0,H,rfl,hl8,by simp,by simp,by rw [ho8],hH,gl.refl,fun _ h=>absurd h (by simp)⟩
  rintro wb ub _ _ _ _ _ _ Cb qb Hb ⟨wb,ub,nb,qb,lb,JF,Cb,Hb,Ml,hlb,DM,aeE,WK,hwb,hgb,heb⟩;simp only [Ext.mk.injEq,List.cons.injEq,and_true,true_and]at Ml;obtain⟨⟨rfl,rfl⟩,⟨rfl,rfl,rfl⟩,⟨rfl,rfl,rfl,rfl⟩,⟨rfl,rfl⟩⟩:=Ml;refine⟨fun cF=>?_,fun mn=>?_⟩
  ·obtain⟨m,rfl,rfl,qH⟩:=nK bM cF;intro _;refine Su hwb rfl hlb cj.rfl rfl fun ve c qe le He hle UN iz hwe Sq Wx=>?_
   intro _;have hx:kb (bM.bD (cg false lb)).1:=iz;refine⟨by omega,fun _=>⟨by omega,fun _=>fun w3=>?_⟩⟩;refine⟨ve,w3,(m:Int),_,((JF++[(bM.bD (cg false lb)).1]).length:Int),_,bN (fun(x:ez)=>x.dev.a) (JF++[(bM.bD (cg false lb)).1]),bN (fun(x:ez)=>x.dev.d) (JF++[(bM.bD (cg false lb)).1]),aw Cb JF.length c,qe,He,AW (by omega),rfl,rfl,rfl,rfl,fun _ _=>rfl,rfl,rfl,rfl,by simp,?_,?_,fun _ _=>rfl,⟨ve,w3,m,qe,le,_,_,He,rfl,hle,by simp;omega,?_,?_,hwe,Sq.then hgb,Oc heb Sq Wx⟩,?_⟩
   ·exact mG (fun(x:ez)=>x.dev.a) JF _ rfl
   ·exact mG (fun(x:ez)=>x.dev.d) JF _ rfl
   ·intro y hy;rcases auE.1 hy with hy | hy
    ·exact aeE y hy
    ·rw [auz.1 hy];exact hx
   ·exact(congrArg (fun z=>Go.Vs.ml bM m z _) UN).trans (qH.symm.trans WK)
   ·simp only [ah];omega
  ·rw [nJ bM mn]at WK;have hsb:cg qb lb=(ml bM N8 O8 []).2:=by rw [←WK]
   have hab:JF=(ml bM N8 O8 []).1:=by rw [←WK]
   intro _ _ _;refine bp 1 (.inl ⟨rfl,rfl⟩) hsb hlb cj.rfl rfl fun v9 q9 l9 hl9 ho9 hb9=>?_
   refine bp 1 (.inl ⟨rfl,rfl⟩) ho9 hl9 cj.rfl rfl fun v10 Uf l10 aay aaz aj9=>?_
   refine cS 8 rfl (by decide) aaz aay cj.rfl rfl fun v11 w11 n11 dA Fu l11 aaA aaB aeF aa_=>?_
   refine⟨aeF,fun _=>⟨aeF,fun _=>?_⟩⟩;refine ky aaB aaA cj.rfl rfl fun qY Pj l12 N12 O12 aaC aaD aeh aka akb=>?_
   refine⟨fun x=> ∃(w w2:V1) (n:Nat) (q:Bool) (l:List Nat) (acc:List (List Nat)),x=⟨[],[w,w2],[(n:Int),(l.length:Int),(acc.length:Int)],[aI l,cq (fun(x:List Nat)=>x) acc],[q],[],[]⟩∧fL l∧acc.length+n=N12∧(∀y∈acc,aez y)∧ml (raw 16) n (cg q l) acc=ml (raw 16) N12 O12 [],fun x=>(x.i.getD 0 0).toNat,?_,?_⟩
   ·exact⟨qY,⟨.slice none 0 0,rfl⟩,_,_,0,_,cq (fun(x:List Nat)=>x) [],Pj,rfl,rfl,rfl,rfl,rfl,fun _ _=>rfl,rfl,rfl,rfl,fun _ h=>absurd h (by simp),qY,_,N12,Pj,l12,[],rfl,aaC,by simp,by simp,by rw [aaD]⟩
   rintro wc uc _ _ _ _ _ qc ⟨wc,uc,nc,qc,lc,WL,hxc,hlc,Fp,X_,WM⟩;simp only [Ext.mk.injEq,List.cons.injEq,and_true,true_and]at hxc;obtain⟨⟨rfl,rfl⟩,⟨rfl,rfl,rfl⟩,⟨rfl,rfl⟩,rfl⟩:=hxc;refine⟨fun cF=>?_,fun mn=>?_⟩
   ·obtain⟨m,rfl,rfl,qH⟩:=nK (raw 16) cF;intro _;refine cS 16 rfl (by decide) rfl hlc cj.rfl rfl fun vc0 wc0 nc0 Ac0 qc0 lc0 akc akd aeH ake=>?_
    refine⟨aeH,fun _=>⟨aeH,fun _=>?_⟩⟩;intro _;have hx:aez ((raw 16).bD (cg false lc)).1:=⟨fo 16 _⟩;refine⟨by omega,fun _=>⟨by omega,fun _=>fun w3=>?_⟩⟩;refine⟨vc0,w3,(m:Int),_,((WL++[((raw 16).bD (cg false lc)).1]).length:Int),_,cq (fun(x:List Nat)=>x) (WL++[((raw 16).bD (cg false lc)).1]),qc0,AW (by omega),rfl,rfl,rfl,rfl,fun _ _=>rfl,rfl,rfl,by simp,?_,⟨vc0,w3,m,qc0,lc0,_,rfl,akc,by simp;omega,?_,?_⟩,?_⟩
    ·exact AV (fun(x:List Nat)=>x) 16 WL _ (fun y hy=>(X_ y hy).l) (fo 16 _) ake
    ·intro y hy;rcases auE.1 hy with hy | hy
     ·exact X_ y hy
     ·rw [auz.1 hy];exact hx
    ·exact(congrArg (fun z=>Go.Vs.ml (raw 16) m z _) akd).trans (qH.symm.trans WM)
    ·simp only [ah];omega
   ·rw [nJ (raw 16) mn]at WM;have jM:cg qc lc=(ml (raw 16) N12 O12 []).2:=by rw [←WM]
    have hac:WL=(ml (raw 16) N12 O12 []).1:=by rw [←WM]
    intro _;refine bp 1 (.inl ⟨rfl,rfl⟩) jM hlc cj.rfl rfl fun pP Ug l13 aaE Wn aaF=>?_
    refine cS 16 rfl (by decide) Wn aaE cj.rfl rfl fun rU w14 n14 gk q14 l14 akf akg aeI akh=>?_
    refine⟨aeI,fun _=>⟨aeI,fun _=>?_⟩⟩;intro _;refine bp 1 (.inl ⟨rfl,rfl⟩) akg akf cj.rfl rfl fun pE NN l15 aki akj ap7=>?_
    have akk:=mT akj;intro _;refine bp 1 (.inl ⟨rfl,rfl⟩) akk aki cj.rfl rfl fun rh Jp l16 akl akm akn=>?_
    intro _ _;refine bp 1 (.inl ⟨rfl,rfl⟩) akm akl cj.rfl rfl fun pQ Pk l17 ako akp akq=>?_
    refine bp 1 (.inl ⟨rfl,rfl⟩) akp ako cj.rfl rfl fun mJ Uc l18 akr aks akt=>?_
    intro _;refine cS 32 rfl (by decide) aks akr cj.rfl rfl fun tg w19 n19 fe q19 l19 aku akv aeJ akw=>?_
    refine⟨aeJ,fun _=>⟨aeJ,fun _=>?_⟩⟩;refine cS 32 rfl (by decide) akv aku cj.rfl rfl fun v20 w20 n20 fg RJ l20 akx aky aeK akz=>?_
    refine⟨aeK,fun _=>⟨aeK,fun _=>?_⟩⟩;refine cS 32 rfl (by decide) aky akx cj.rfl rfl fun Ct w21 n21 fO q21 l21 akA akB aeL akC=>?_
    refine⟨aeL,fun _=>⟨aeL,fun _=>?_⟩⟩;refine ky akB akA cj.rfl rfl fun vS q22 l22 N22 O22 akD akE ap8 akF akG=>?_
    refine⟨by omega,fun _=>⟨by omega,fun _=>?_⟩⟩;refine A_ _ rfl akE akD cj.rfl rfl fun tF w23 q23 l23 m23 akH akI akJ akK=>?_
    refine AZ akI cj.rfl rfl fun u23=>?_
    refine bp 1 (.inl ⟨rfl,rfl⟩) akJ akH cj.rfl rfl fun wJ q24 l24 akL akM ap_=>?_
    iterate 4 refine⟨by omega,fun _=>?_⟩
    refine ky akM akL cj.rfl rfl fun uz q25 l25 N25 O25 akO akP aqb akQ akR=>?_
    refine⟨fun x=> ∃(w w2:V1) (n:Nat) (q:Bool) (l:List Nat) (acc:List jl),x=⟨[],[w,w2],[(n:Int),(l.length:Int),(acc.length:Int)],[aI l,bN jl.a acc,bN jl.d acc],[q],[],[]⟩∧fL l∧acc.length+n=N25∧(∀y∈acc,aeA y)∧ml gM n (cg q l) acc=ml gM N25 O25 [],fun x=>(x.i.getD 0 0).toNat,?_,?_⟩
    ·exact⟨uz,⟨.slice none 0 0,rfl⟩,_,_,0,_,bN jl.a [],bN jl.d [],q25,rfl,rfl,rfl,rfl,rfl,fun _ _=>rfl,rfl,rfl,rfl,fun _ h=>absurd h (by simp),fun _ h=>absurd h (by simp),uz,_,N25,q25,l25,[],rfl,akO,by simp,by simp,by rw [akP]⟩
    rintro wd ud _ _ _ _ _ _ qd ⟨wd,ud,nd,qd,ld,Od,hxd,hld,iy,aeN,WN⟩;simp only [Ext.mk.injEq,List.cons.injEq,and_true,true_and]at hxd;obtain⟨⟨rfl,rfl⟩,⟨rfl,rfl,rfl⟩,⟨rfl,rfl,rfl⟩,rfl⟩:=hxd;refine⟨fun cF=>?_,fun mn=>?_⟩
    ·obtain⟨m,rfl,rfl,qH⟩:=nK gM cF;intro _ _ _;refine bp 1 (.inl ⟨rfl,rfl⟩) rfl hld cj.rfl rfl fun vd0 qd0 ld0 akS akT aeO=>?_
     refine bp 1 (.inl ⟨rfl,rfl⟩) akT akS cj.rfl rfl fun vd1 qd1 ld1 akU akV aeP=>?_
     intro _;have hx:aeA (gM.bD (cg false ld)).1:=⟨aeO,aeP⟩;refine⟨by omega,fun _=>⟨by omega,fun _=>fun w3=>?_⟩⟩;refine⟨vd1,w3,(m:Int),_,((Od++[(gM.bD (cg false ld)).1]).length:Int),_,bN jl.a (Od++[(gM.bD (cg false ld)).1]),bN jl.d (Od++[(gM.bD (cg false ld)).1]),qd1,AW (by omega),rfl,rfl,rfl,rfl,fun _ _=>rfl,rfl,rfl,by simp,?_,?_,⟨vd1,w3,m,qd1,ld1,_,rfl,akU,by simp;omega,?_,?_⟩,?_⟩
     ·exact mG jl.a Od _ (N9 aeO)
     ·exact mG jl.d Od _ (N9 aeP)
     ·intro y hy;rcases auE.1 hy with hy | hy
      ·exact aeN y hy
      ·rw [auz.1 hy];exact hx
     ·exact(congrArg (fun z=>Go.Vs.ml gM m z _) akV).trans (qH.symm.trans WN)
     ·simp only [ah];omega
    ·rw [nJ gM mn]at WN;have Oe:cg qd ld=(ml gM N25 O25 []).2:=by rw [←WN]
     have had:Od=(ml gM N25 O25 []).1:=by rw [←WN]
     intro _;refine bp 8 (.inr (.inr ⟨rfl,rfl⟩)) Oe hld cj.rfl rfl fun tf q26 l26 akW akX aqd=>?_
     refine bp 8 (.inr (.inr ⟨rfl,rfl⟩)) akX akW cj.rfl rfl fun tG q27 l27 akY akZ aqe=>?_
     refine bp 8 (.inr (.inr ⟨rfl,rfl⟩)) akZ akY cj.rfl rfl fun uT q28 l28 ak0 ak1 aqf=>?_
     refine bp 8 (.inr (.inr ⟨rfl,rfl⟩)) ak1 ak0 cj.rfl rfl fun xj X1 l29 ak2 ak3 aqg=>?_
     refine bp 8 (.inr (.inr ⟨rfl,rfl⟩)) ak3 ak2 cj.rfl rfl fun v30 WD l30 ak4 ak5 aqh=>?_
     intro _;refine bp 4 (.inr (.inl ⟨rfl,rfl⟩)) ak5 ak4 cj.rfl rfl fun NH q31 l31 ak6 ak7 ak8=>?_
     refine ky ak7 ak6 cj.rfl rfl fun XZ q32 l32 N32 O32 ak9 ak_ aqi ala alb=>?_
     refine⟨by omega,fun _=>⟨by omega,fun _=>?_⟩⟩;refine A_ _ rfl ak_ ak9 cj.rfl rfl fun V4 w33 q33 l33 m33 alc ald ale alf=>?_
     refine AZ ald cj.rfl rfl fun u33=>?_
     refine ky ale alc cj.rfl rfl fun T9 q34 l34 N34 O34 alh ali aql alj alk=>?_
     refine⟨fun x=> ∃(w w2:V1) (n:Nat) (q:Bool) (l:List Nat) (acc:List Room),x=⟨[],[w,w2],[(n:Int),(l.length:Int),(acc.length:Int)],[aI l,cq Room.id acc,bN Room.aP acc,er Room.out acc,bN Room.since acc],[q],[],[]⟩∧fL l∧acc.length+n=N34∧(∀y∈acc,Ey y)∧ml dW n (cg q l) acc=ml dW N34 O34 [],fun x=>(x.i.getD 0 0).toNat,?_,?_⟩
     ·exact⟨T9,⟨.slice none 0 0,rfl⟩,_,_,0,_,cq Room.id [],bN Room.aP [],er Room.out [],bN Room.since [],q34,rfl,rfl,rfl,rfl,rfl,fun _ _=>rfl,rfl,rfl,rfl,fun _ h=>absurd h (by simp),fun _ h=>absurd h (by simp),fun _ h=>absurd h (by simp),fun _ h=>absurd h (by simp),T9,_,N34,q34,l34,[],rfl,alh,by simp,by simp,by rw [ali]⟩
     rintro wf uf _ _ _ _ _ _ _ _ qf ⟨wf,uf,nf,qf,lf,Cy,hxf,hlf,hnf,Ya,WO⟩;simp only [Ext.mk.injEq,List.cons.injEq,and_true,true_and]at hxf;obtain⟨⟨rfl,rfl⟩,⟨rfl,rfl,rfl⟩,⟨rfl,rfl,rfl,rfl,rfl⟩,rfl⟩:=hxf;refine⟨fun cF=>?_,fun mn=>?_⟩
     ·obtain⟨m,rfl,rfl,qH⟩:=nK dW cF;intro _;refine Sv rfl hlf cj.rfl rfl fun ve qe le hle UN iz=>?_
      intro _;have hx:Ey (dW.bD (cg false lf)).1:=iz;refine⟨by omega,fun _=>⟨by omega,fun _=>fun w3=>?_⟩⟩;refine⟨ve,w3,(m:Int),_,((Cy++[(dW.bD (cg false lf)).1]).length:Int),_,cq Room.id (Cy++[(dW.bD (cg false lf)).1]),bN Room.aP (Cy++[(dW.bD (cg false lf)).1]),er Room.out (Cy++[(dW.bD (cg false lf)).1]),bN Room.since (Cy++[(dW.bD (cg false lf)).1]),qe,AW (by omega),rfl,rfl,rfl,rfl,fun _ _=>rfl,rfl,rfl,by simp,?_,?_,?_,?_,⟨ve,w3,m,qe,le,_,rfl,hle,by simp;omega,?_,?_⟩,?_⟩
      ·exact wg Room.id 16 Cy _ (fun y hy=>(Ya y hy).id) iz.id
      ·exact mG Room.aP Cy _ rfl
      ·exact r8 Room.out Cy _ rfl
      ·exact mG Room.since Cy _ rfl
      ·intro y hy;rcases auE.1 hy with hy | hy
       ·exact Ya y hy
       ·rw [auz.1 hy];exact hx
      ·exact(congrArg (fun z=>Go.Vs.ml dW m z _) UN).trans (qH.symm.trans WO)
      ·simp only [ah];omega
     ·rw [nJ dW mn]at WO;have hsf:cg qf lf=(ml dW N34 O34 []).2:=by rw [←WO]
      have haf:Cy=(ml dW N34 O34 []).1:=by rw [←WO]
      subst haa eN6 eO6;subst hab eN8 eO8;subst hac aka akb;subst had akQ akR;subst haf alj alk akF akG ala alb akK alf;subst hS;refine⟨rfl,wf,ua,ub,uc,u23,ud,u33,uf,_,lf,Cb,Hb,?_,hsf,hlf,hwb,hgb,heb⟩;refine ajI (congrArg (ak b1 true) (Sy (s:=(aZ.bD (cg q l)).1) vV rfl (N9 DO) (N9 Zf) hA4 hA5 rfl (N9 hb9) (N9 aj9) aa_ (N9 aaF) akh (jy _) (N9 akn) (N9 akq) (N9 akt) akw akz akC rfl rfl rfl rfl rfl rfl (AG ak8))) ?_;exact .cons_cons _ (.cons _ (.cons _ (.cons _ (.cons _ (.cons _ (.cons _ (.cons _ (.cons _ (.cons _ (.cons _ (.cons _ (.cons_cons _ (.cons_cons _ (.cons _ (.cons _ (.cons _ (.cons _ (.cons_cons _ (.cons _ (.cons _ (.cons _ (.cons _ (.cons _ (.cons _ (.cons _ (.cons _ (.cons _ (.cons _ (.cons _ (.cons_cons _ (.cons_cons _ (.cons _ (.cons _ (.cons _ (.cons_cons _ (.cons_cons _ (.slnil)))))))))))))))))))))))))))))))))))))
open Go Go.RX Go.Proofs Go.Vs
abbrev jY(s:Vs.State)(most cM:Int)(v1 v2 v3 v4 v5 v6 v7:Value):List Value:=aul (aj .u8 32 (aI s.mD)) (.int .u64 (s.drawn:Int)::(.int .u8 (s.table.keys.dev.a:Int)::(.int .u8 (s.table.keys.dev.d:Int)::(aul (aj .u8 32 (aI s.table.keys.ident)) (aul (aj .u8 32 (aI s.table.keys.signed)) (v1::(.int .i64 most::(v2::(.int .u8 (s.call.me.a:Int)::(.int .u8 (s.call.me.d:Int)::(aul (aj .u8 8 (aI s.call.dv)) (v3::(.int .u8 (s.call.state:Int)::(aul (aj .u8 16 (aI s.call.id)) (.bool (!(bi s.call.out==0))::(.int .u8 (s.call.aP:Int)::(.int .u8 (s.call.peer.a:Int)::(.int .u8 (s.call.peer.d:Int)::(aul (aj .u8 32 (aI s.call.own)) (aul (aj .u8 32 (aI s.call.dx)) (aul (aj .u8 32 (aI s.call.gY)) ([v4,.int .i64 cM,v5,.int .u64 (s.call.eO:Int),.int .u64 (s.call.bV:Int),.int .u64 (s.call.since:Int),.int .u64 (s.call.heard:Int),.int .u64 (s.call.mC:Int),.int .u32 (s.call.hZ:Int),v6,v7]))))))))))))))))))))))
structure si (s:Vs.State):Prop where
 once:s.table.keys.once.length<256^4
 aL:s.table.aL.length<256^4
 peer: ∀p∈s.table.aL,kb p
 dead:s.call.dead.length<256^4
 marks:s.call.marks.length<256^4
 early:s.call.early.length<256^4
 log:fL s.log
 aH:s.aH.length<256^4
 RM: ∀x∈s.aH,x.id.length=16
theorem lookW{md:Bool}(h:md=false){s:Vs.State}{C:Nat→Int}{u1 u2 u3 u4 u5 u6 u7:Value}: ∀h∈ef md s C u1 u2 u3 u4 u5 u6 u7,h.wr=false:=by
 subst h;intro h hh;simp only [List.mem_cons,List.not_mem_nil,or_false]at hh;rcases hh with rfl | rfl | rfl | rfl | rfl | rfl | rfl<;>rfl
theorem SA{kd:jl}{ident signed:Nat→Int}{most:Int}{v0 v1:V1}{on:List cV}{ps:List ez}{C:Nat→Int}{H:HP}(hH:H.wr=false)(hP:lg H ps C)(hon:on.length<256^4)(M1:ps.length<256^4)(Ir: ∀p∈ps,kb p){R:Int→Int→Prop}(h: ∀a e:Int,(e=0↔vY kd ps most=true)→R a e):
  ∃post,aq auN 34 [.agg (.int .u8 (kd.a:Int)::(.int .u8 (kd.d:Int)::(aul (aj .u8 32 ident) (aul (aj .u8 32 signed) ([v0.v,.int .i64 most,v1.v]))))).toArray] [Cv false v0.v on,za false v1.v ps C,H] post∧
   ∀x hs,post x hs→∃y1:Int,∃y2:Int,x= .tuple #[(cN y1),.int .i64 y2]∧hs=[Cv false v0.v on,za false v1.v ps C,H]∧R y1 y2:=by
 refine⟨_,aq.looks (NV kd ident signed most v0 v1 on ps C H hH hP hon M1 Ir) (by simp [hH];exact⟨rfl,rfl⟩),?_⟩;rintro x hs ⟨rfl,a,rfl⟩;refine⟨a,_,rfl,rfl,h a _ ?_⟩;cases vY kd ps most<;>simp
theorem SB{c:Vs.Call}{cM:Int}{v0 v1 v2:V1}(h0:c.dead.length<256^4)(h1:c.marks.length<256^4)(h2:c.early.length<256^4){R:Int→Int→Prop}(h: ∀a e:Int,(e=0↔xm c cM=true)→R a e):
  ∃post,aq auN 35 [.agg (G4 c cM v0.v v1.v v2.v).toArray] [AS false v0.v c.dead,aR false v1.v c.marks,AT false v2.v c.early] post∧
   ∀x hs,post x hs→∃y1:Int,∃y2:Int,x= .tuple #[(cN y1),.int .i64 y2]∧hs=[AS false v0.v c.dead,aR false v1.v c.marks,AT false v2.v c.early]∧R y1 y2:=by
 refine⟨_,aq.looks (N3 c cM v0 v1 v2 h0 h1 h2) (by simp;exact⟨rfl,rfl,rfl⟩),?_⟩;rintro x hs ⟨rfl,a,e,rfl,he⟩;exact⟨a,e,rfl,rfl,h a e he⟩
theorem SC{v:V1}{b:List Nat}(hb:fL b){R:Int→Int→Prop}(h: ∀a e:Int,(e=0↔yq b=true)→R a e):
  ∃post,aq auN 36 [v.v] [aR false v.v b] post∧∀x hs,post x hs→∃y1:Int,∃y2:Int,x= .tuple #[(cN y1),.int .i64 y2]∧hs=[aR false v.v b]∧R y1 y2:=by
 refine⟨_,aq.looks (NZ v b hb) (by simp;rfl),?_⟩;rintro x hs ⟨rfl,a,e,rfl,he⟩;exact⟨a,e,rfl,rfl,h a e he⟩
theorem G9{α:Type}(f:Nat→List α)(w:Nat)(hw: ∀i,(f i).length=w){m:Nat}(hm:m≤w): ∀(l:List Nat) (j:Nat) (h:j<l.length),((l.flatMap f).drop (j*w)).take m=(f l[j]).take m
 | [],j,h=>absurd h (by simp)
 | x::l,0,_=>by
  rw [Nat.zero_mul,List.drop_zero,List.flatMap_cons,List.getElem_cons_zero];exact List.take_append_of_le_length (by rw [hw];exact hm)
 | x::l,j+1,h=>by
  rw [List.flatMap_cons,List.getElem_cons_succ,Nat.succ_mul,Nat.add_comm,show w+j*w=(f x).length+j*w by rw [hw],←List.drop_drop,List.drop_left];exact G9 f w hw hm l j (by simpa using h)
theorem SD{v6:V1}{rs:List Room}{n:Int}{b3 j i:Nat}{x:Int}{row:List Value}{A:Nat→Int}(_:n=(rs.length:Int))(hj:j<rs.length)(hi:i<rs.length)(hrI: ∀x∈rs,x.id.length=16)(hx:x=(j:Int))(hA: ∀k,k<16→A k=aI rs[i].id k){R:Int→Prop}(h: ∀c:Int,(0≤c↔tI rs[j].id rs[i].id=false)→R c):
  ∃post,aq auN 37 [(zP v6.v ((ag x)*19+0) 16),.slice (some ⟨b3,0,none⟩) 16 16] [tH false v6.v rs,ak b3 true (aul (aj .u8 16 A) row)] post∧
   ∀y hs,post y hs→∃c:Int,y= .int .i64 c∧hs=[tH false v6.v rs,ak b3 true (aul (aj .u8 16 A) row)]∧R c:=by
 subst hx;rw [auD];have l1:=hrI _ (List.getElem_mem hj);have l2:=hrI _ (List.getElem_mem hi);have e1:aj .u8 16 A=aj .u8 16 (aI rs[i].id):=fR hA;rw [e1];have hm:=N5 ⟨zP v6.v (j*19+0) 16,by unfold zP;split<;>rfl⟩ ⟨.slice (some ⟨b3,0,none⟩) 16 16,rfl⟩ rs[j].id rs[i].id (by omega);refine⟨fun y hs=>hs=[tH false v6.v rs,ak b3 true (aul (aj .u8 16 (aI rs[i].id)) row)]∧∃c:Int,y= .int .i64 c∧(0≤c↔tI rs[j].id rs[i].id=false),?_,?_⟩
 ·have b1:bc [tH false v6.v rs,ak b3 true (aul (aj .u8 16 (aI rs[i].id)) row)] (aR false (zP v6.v (j*19+0) 16) rs[j].id):=by
   have:=bc.left (C:=[ak b3 true (aul (aj .u8 16 (aI rs[i].id)) row)]) (bc.PG (t:=98) (s:=19) (n:=rs.length) (i:=j) (c:=0) (m:=16) (v:=v6.v) (cs:=aM rs.length [ay .u8 16 (cq Room.id rs),ay .u8 1 (bN Room.aP rs),cY 1 (er Room.out rs),ay .u64 1 (bN Room.since rs)]) hj (by omega));have et:((aM rs.length [ay .u8 16 (cq Room.id rs),ay .u8 1 (bN Room.aP rs),cY 1 (er Room.out rs),ay .u64 1 (bN Room.since rs)]).drop (j*19+0)).take 16=aM rs[j].id.length [ay .u8 1 (aI rs[j].id)]:=by
    rw [Nat.add_zero,vN,l1];unfold aM;rw [G9 _ 19 (fun i=>by simp [ay,cY,aj]) (by omega) (List.range rs.length) j (by simpa using hj),List.getElem_range];simp only [List.flatMap_cons];rw [List.take_append_of_le_length (by simp [ay,aj]),List.take_of_length_le (by simp [ay,aj])];unfold ay;refine fR fun k hk=>?_
    exact lT Room.id 16 rs hrI j k hj hk
   rw [et]at this;show bc _ (aB false 5 1 _ rs[j].id.length _);rw [l1]at this ⊢;exact this
  have b2:bc [tH false v6.v rs,ak b3 true (aul (aj .u8 16 (aI rs[i].id)) row)] (aR false (.slice (some ⟨b3,0,none⟩) 16 16) rs[i].id):=by
   have:=bc.right (A:=[tH false v6.v rs]) (bc.row (b:=b3) (t:=5) (lo:=0) (n:=16) (m:=16) (wr:=true) (cs:=aul (aj .u8 16 (aI rs[i].id)) row) (by simp [aj]) (by omega));have et:((aul (aj .u8 16 (aI rs[i].id)) row).drop 0).take 16=aM rs[i].id.length [ay .u8 1 (aI rs[i].id)]:=by
    rw [List.drop_zero,vN,l2];exact List.take_left' (by simp [aj])
   rw [et]at this;show bc _ (aB false 5 1 _ rs[i].id.length _);rw [l2]at this ⊢;exact this
  refine mi (Q:=fun y=> ∃c:Int,y= .int .i64 c∧(0≤c↔tI rs[j].id rs[i].id=false)) (aq.post hm ?_) (by simpa using ⟨b1,b2⟩);rintro y hs ⟨rfl,h⟩;exact⟨[],bI.sub (List.nil_sublist _),rfl,h⟩
 ·rintro y hs ⟨rfl,c,rfl,hc⟩;exact⟨c,rfl,rfl,h c hc⟩
open Go Go.RX Go.Proofs Go.Vs
def Ba(rs:List Room)(i:Nat):Option (List Nat):=if i=0 then none else(rs[i - 1]?).map (·.id)
structure Og (rs:List Room) (i:Nat) (A B:Nat→Int):Prop where
 run:(rs.take i).foldlM mh none=some (Ba rs i)
 n:A 0=(i:Int)
 no: ∀l:List Nat,l.length=16→(∀(j:Nat) (h:j<rs.length),j<i→rs[j].id≠l)→A (aW (kL l))=0∧B (aW (kL l))=0
 up: ∀(j k:Nat) (hj:j<rs.length) (hk:k<rs.length),j<k→k<i→tI rs[j].id rs[k].id=true
theorem Cz{rs:List Room}{i:Nat}(hi:i<rs.length)(h1:i=0∨∃h:i - 1<rs.length,tI rs[i - 1].id rs[i].id=true)(h2:rs[i].aP<8):mh (Ba rs i) rs[i]=some (some rs[i].id):=by
 unfold mh;rw [if_neg];rintro (⟨l,hl,cF⟩ | h)
 ·rcases h1 with rfl | ⟨h,h1⟩
  ·cases hl
  ·unfold Ba at hl;split at hl
   ·cases hl
   ·rw [auU h]at hl;cases hl;rw [h1]at cF;cases cF
 ·omega
theorem Og.next{rs:List Room}{i:Nat}{A B:Nat→Int}(h:Og rs i A B)(hrI: ∀x∈rs,x.id.length=16)(hi:i<rs.length)(h1:i=0∨∃h:i - 1<rs.length,tI rs[i - 1].id rs[i].id=true)(h2:rs[i].aP<8):
  (∀j,j<i→∀hj:j<rs.length,rs[j].id≠rs[i].id)∧∀z:Int,Og rs (i+1) (aw (aw A 0 (A 0+1)) (aW (kL rs[i].id)) 1) (aw B (aW (kL rs[i].id)) z):=by
 have cF: ∀j,j<i→∀hj:j<rs.length,tI rs[j].id rs[i].id=true:=by
  intro j Fq hj;rcases h1 with rfl | ⟨hp,h1⟩
  ·omega
  ·by_cases hjp:j=i - 1
   ·subst hjp;exact h1
   ·exact Di _ _ _ (h.up j (i - 1) hj hp (by omega) (by omega)) h1
 have fy: ∀j,j<i→∀hj:j<rs.length,rs[j].id≠rs[i].id:=by
  intro j Fq hj he;have:=cF j Fq hj;rw [he,Li]at this;cases this
 have l1:=hrI _ (List.getElem_mem hi);refine⟨fy,fun z=>⟨?_,?_,?_,?_⟩⟩
 ·rw [iN _ _ hi,kz,h.run];show mh (Ba rs i) rs[i]=_;rw [Cz hi h1 h2];unfold Ba;rw [if_neg (by omega),Nat.add_sub_cancel,auU hi];rfl
 ·simp only [aw];rw [if_neg (fun e=>Jv _ e.symm),if_pos trivial,h.n];simp
 ·intro l hl nW;have abd:l≠rs[i].id:=fun e=>nW i hi (by omega) e.symm
  have hk:aW (kL l)≠aW (kL rs[i].id):=fun e=>abd (Lh hl l1 e)
  simp only [aw];rw [if_neg hk,if_neg hk,if_neg (Jv l)];exact h.no l hl fun j hj Fq=>nW j hj (by omega)
 ·intro j k hj hk hjk hki;by_cases he:k=i
  ·subst he;exact cF j hjk hj
  ·exact h.up j k hj hk hjk (by omega)
theorem Dj{rs:List Room}{i:Nat}{A B:Nat→Int}(h:Og rs i A B)(hi:i<rs.length)(hb:(∃h:i - 1<rs.length,0<i∧tI rs[i - 1].id rs[i].id=false)∨8≤rs[i].aP):qB rs=false:=by
 have:(rs.take (i+1)).foldlM mh none=none:=by
  rw [iN _ _ hi,kz,h.run];show mh (Ba rs i) rs[i]=none;unfold mh;rw [if_pos];rcases hb with⟨hp,h0,hb⟩ | hb
  ·refine .inl ⟨_,?_,hb⟩;unfold Ba;rw [if_neg (by omega),auU hp];rfl
  ·exact .inr hb
 have:=r_ _ _ _ _ this;unfold qB;rw [this];simp
theorem sU(s:Vs.State)(most cM:Int):v_ s most cM=true↔vY s.table.keys.dev s.table.aL most=true∧xm s.call cM=true∧yq s.log=true∧s.call.me=s.table.keys.dev∧qB s.aH=true:=by
 simp [v_,and_assoc]
theorem abe{a b:jl}:(((a.a:Nat):Int)=((b.a:Nat):Int)∧((a.d:Nat):Int)=((b.d:Nat):Int))↔a=b:=by
 cases a;cases b;simp;omega
set_option maxHeartbeats 2000000 in
theorem Oh(s:Vs.State)(most cM:Int)(u1 u2 u3 u4 u5 u6 u7:V1)(C:Nat→Int)(H:HP)(hH:H.wr=false)(hP:lg H s.table.aL C)(hs:si s):
  aq auN 15 [.agg (jY s most cM u1.v u2.v u3.v u4.v u5.v u6.v u7.v).toArray,.nilIface] (ef false s C u1.v u2.v u3.v u4.v u5.v u6.v u7.v++[H]) fun r hs=>hs=[]∧∃a e:Int,r= .tuple #[cN a,.int .i64 e]∧(e=0↔v_ s most cM=true):=by
 obtain⟨k1,k2,k3,k4,k5,k6,k7,k8,k9⟩:=hs;have no: ∀(e:Int) (_: ¬e=0) (_: ¬v_ s most cM=true),([]:List HP)=[]∧∃a e':Int,Value.tuple #[.pointer none,.int .i64 e]= .tuple #[cN a,.int .i64 e']∧(e'=0↔v_ s most cM=true):=
  fun e h1 h2=>⟨rfl,0,e,rfl,fun h=>absurd h h1,fun h=>absurd h h2⟩
 refine aaf _ (s.drawn:Int) (s.table.keys.dev.a:Int) (s.table.keys.dev.d:Int) most (s.call.me.a:Int) (s.call.me.d:Int) (s.call.state:Int) (bi s.call.out) (s.call.aP:Int) (s.call.peer.a:Int) (s.call.peer.d:Int) cM (s.call.eO:Int) (s.call.bV:Int) (s.call.since:Int) (s.call.heard:Int) (s.call.mC:Int) (s.call.hZ:Int)
  (s.table.keys.once.length:Int) (s.table.aL.length:Int) (s.call.dead.length:Int) (s.call.marks.length:Int) (s.call.early.length:Int) (s.log.length:Int) (s.aH.length:Int)
  (aI s.mD) (aI s.table.keys.ident) (aI s.table.keys.signed) (aI s.call.dv) (aI s.call.id) (aI s.call.own) (aI s.call.dx) (aI s.call.gY) (bN cV.id s.table.keys.once) (cq cV.cP s.table.keys.once) (bN (·.dev.a) s.table.aL) (bN (·.dev.d) s.table.aL) C (cq (fun x=>x) s.call.dead) (aI s.call.marks) (bN jl.a s.call.early) (bN jl.d s.call.early) (aI s.log) (cq Room.id s.aH) (bN Room.aP s.aH) (er Room.out s.aH) (bN Room.since s.aH) u1 u2 u3 u4 u5 u6 u7 H ?_
 unfold RU;intro b0;refine SA hH hP k1 k2 k3 fun a1 e1 h1=>?_
 refine⟨fun hb=>no e1 hb fun h=>hb (h1.2 ((sU ..).1 h).1),fun hb=>?_⟩;refine SB k4 k5 k6 fun a2 e2 h2=>?_
 refine⟨fun hb=>no e2 hb fun h=>hb (h2.2 ((sU ..).1 h).2.1),fun DO=>?_⟩;refine SC k7 fun a3 e3 h3=>?_
 refine⟨fun hb=>no e3 hb fun h=>hb (h3.2 ((sU ..).1 h).2.2.1),fun Zf=>?_⟩;rw [abe];refine⟨.inr (by omega),fun _=>⟨fun hb=>no 2 (by decide) fun h=>?_,fun hb4=>?_⟩⟩
 ·obtain⟨_,_,_,g1,g2⟩:=(sU ..).1 h;rcases hb with hb | hb
  ·exact hb g1
  ·unfold qB at g2;simp at g2;omega
 have h1:=h1.1 (Decidable.not_not.1 hb);have h2:=h2.1 (Decidable.not_not.1 DO);have h3:=h3.1 (Decidable.not_not.1 Zf);have hme:s.call.me=s.table.keys.dev:=Decidable.byContradiction fun h=>hb4 (.inl h)
 have hr8:s.aH.length≤8:=by
  rcases Nat.lt_or_ge 8 s.aH.length with h | h
  ·exact absurd (.inr (by omega)) hb4
  ·exact h
 have jT:v_ s most cM=qB s.aH:=by
  unfold v_;rw [h1,h2,h3,hme];simp
 intro b1 b2;refine⟨by omega,fun _=>?_⟩;refine⟨fun x=> ∃(i:Nat) (A B:Nat→Int),x=⟨[],[],[(i:Int)],[A,B],[],[],[]⟩∧i≤s.aH.length∧Og s.aH i A B,fun x=>s.aH.length - (x.i.getD 0 0).toNat,?_,?_⟩
 ·exact⟨_,_,_,rfl,rfl,rfl,0,_,_,rfl,by omega,⟨rfl,rfl,fun _ _ _=>⟨rfl,rfl⟩,fun j k _ _ _ h=>absurd h (by omega)⟩⟩
 rintro im A B ⟨i,A,B,hx,hi,hI⟩;simp only [Ext.mk.injEq,List.cons.injEq,and_true,true_and]at hx;obtain⟨rfl,rfl,rfl⟩:=hx;refine⟨fun cF=>?_,fun mn=>?_⟩
 ·have cD:i<s.aH.length:=by omega
  have Sz: ∀k,k<16→bY (cq Room.id s.aH) (ag ((i:Int)*16)) k=aI s.aH[i].id k:=by
   intro k hk;show aI _ (_+k)=_;rw [show(((i:Int)*16).toNat+k)=i*16+k by omega];exact lT Room.id 16 _ k9 i k cD hk
  refine⟨by omega,fun _=>fun b3=>⟨by omega,fun _=>⟨by omega,fun _=>⟨by omega,fun _=>⟨by omega,fun _=>⟨by omega,fun _=>⟨by omega,fun _=>⟨by omega,fun _=>⟨by omega,fun _=>?_⟩⟩⟩⟩⟩⟩⟩⟩⟩;have aeS:bN Room.aP s.aH (ag (i:Int))=(s.aH[i].aP:Nat):=by rw [auD];exact jG _ _ _ cD
  have aeT:er Room.out s.aH (ag (i:Int))=bi s.aH[i].out:=by rw [auD];exact mF _ _ _ cD
  have aeU: ∀(h1:i=0∨∃h:i - 1<s.aH.length,tI s.aH[i - 1].id s.aH[i].id=true) (h2:s.aH[i].aP<8),(A (aW (kL s.aH[i].id))=0∧B (aW (kL s.aH[i].id))=0)∧A 0<8∧∀z:Int,Og s.aH (i+1) (aw (aw A 0 (A 0+1)) (aW (kL s.aH[i].id)) 1) (aw B (aW (kL s.aH[i].id)) z):=by
   intro h1 h2;obtain⟨g1,g2⟩:=hI.next k9 cD h1 h2;refine⟨hI.no _ (k9 _ (List.getElem_mem cD)) fun j hj Fq=>g1 j Fq hj,by rw [hI.n];omega,g2⟩
  refine⟨fun t_=>?_,fun hz=>?_⟩
  ·refine SD (j:=i - 1) (i:=i) rfl (by omega) cD k9 (by omega) Sz fun c hc=>?_
   rw [aeS];refine⟨fun hb=>no 2 (by decide) fun h=>?_,fun hb=>?_⟩
   ·rw [jT,Dj hI cD]at h
    ·cases h
    ·rcases hb with hb | hb
     ·exact .inl ⟨by omega,by omega,hc.1 hb⟩
     ·exact .inr (by omega)
   ·have g1:tI s.aH[i - 1].id s.aH[i].id=true:=by
     cases hh:tI s.aH[i - 1].id s.aH[i].id with
     | true=>rfl
     | false=>exact absurd (.inl (hc.2 hh)) hb
    obtain⟨⟨z1,z2⟩,z3,z4⟩:=aeU (.inr ⟨by omega,g1⟩) (by omega);refine G6 aeT s.aH[i].id Sz z1 z2 z3 fun b y1 y2=>?_
    exact⟨by omega,fun _=>⟨by omega,fun _=>⟨((i+1:Nat):Int),_,_,by simp,rfl,rfl,⟨i+1,_,_,rfl,by omega,z4 _⟩,by simp;omega⟩⟩⟩
  ·rw [aeS];refine⟨fun hb=>no 2 (by decide) fun h=>?_,fun hb=>?_⟩
   ·rw [jT,Dj hI cD (.inr (by omega))]at h;cases h
   ·obtain⟨⟨z1,z2⟩,z3,z4⟩:=aeU (.inl (by omega)) (by omega);refine G6 aeT s.aH[i].id Sz z1 z2 z3 fun b y1 y2=>?_
    exact⟨by omega,fun _=>⟨by omega,fun _=>⟨((i+1:Nat):Int),_,_,by simp,rfl,rfl,⟨i+1,_,_,rfl,by omega,z4 _⟩,by simp;omega⟩⟩⟩
 ·refine⟨rfl,(b2:Nat)+1,0,by rw [eY],fun _=>?_,fun _=>rfl⟩;have:i=s.aH.length:=by omega
  subst this;have hr:=hI.run;rw [List.take_length]at hr;rw [jT];unfold qB;rw [hr];simp [hr8]
def kf(s:Vs.State)(most cM:Int):Bool:=decide (0≤most)&&decide (most≤2147483647)&&decide (-1≤cM)&&decide (cM≤254)&&v_ s most cM
set_option maxHeartbeats 4000000 in
theorem xp(s:Vs.State)(most cM:Int)(u1 u2 u3 u4 u5 u6 u7:V1)(C:Nat→Int)(H:HP)(hH:H.wr=false)(hP:lg H s.table.aL C)(hs:si s):
  aq auN 10 [.agg (jY s most cM u1.v u2.v u3.v u4.v u5.v u6.v u7.v).toArray] (ef false s C u1.v u2.v u3.v u4.v u5.v u6.v u7.v++[H]) fun r hs=>hs=[]∧r= .bool (kf s most cM):=by
 refine aah _ (s.drawn:Int) (s.table.keys.dev.a:Int) (s.table.keys.dev.d:Int) most (s.call.me.a:Int) (s.call.me.d:Int) (s.call.state:Int) (bi s.call.out) (s.call.aP:Int) (s.call.peer.a:Int) (s.call.peer.d:Int) cM (s.call.eO:Int) (s.call.bV:Int) (s.call.since:Int) (s.call.heard:Int) (s.call.mC:Int) (s.call.hZ:Int)
  (s.table.keys.once.length:Int) (s.table.aL.length:Int) (s.call.dead.length:Int) (s.call.marks.length:Int) (s.call.early.length:Int) (s.log.length:Int) (s.aH.length:Int)
  (aI s.mD) (aI s.table.keys.ident) (aI s.table.keys.signed) (aI s.call.dv) (aI s.call.id) (aI s.call.own) (aI s.call.dx) (aI s.call.gY) (bN cV.id s.table.keys.once) (cq cV.cP s.table.keys.once) (bN (·.dev.a) s.table.aL) (bN (·.dev.d) s.table.aL) C (cq (fun x=>x) s.call.dead) (aI s.call.marks) (bN jl.a s.call.early) (bN jl.d s.call.early) (aI s.log) (cq Room.id s.aH) (bN Room.aP s.aH) (er Room.out s.aH) (bN Room.since s.aH) u1 u2 u3 u4 u5 u6 u7 H ?_
 unfold RW;intro b0;have hi:kf s most cM=true↔0≤most∧most≤2147483647∧ -1≤cM∧cM≤254∧v_ s most cM=true:=by simp [kf,and_assoc]
 refine⟨fun hb=>⟨rfl,?_⟩,fun hb=>?_⟩
 ·have:kf s most cM=false:=by
   cases h:kf s most cM with
   | false=>rfl
   | true=>have:=hi.1 h;omega
  rw [this]
 ·have hw: ∀h∈ef false s C u1.v u2.v u3.v u4.v u5.v u6.v u7.v++[H],h.wr=false:=by
   intro h hh;rcases auE.1 hh with hh | hh
   ·exact lookW rfl h hh
   ·rw [auz.1 hh];exact hH
  refine⟨_,aq.looks (Oh s most cM u1 u2 u3 u4 u5 u6 u7 C H hH hP hs) hw,?_⟩;rintro x lP ⟨rfl,a,e,rfl,he⟩;refine⟨a,e,rfl,rfl,rfl,?_⟩;have:kf s most cM=(e==0):=by
   rw [Bool.eq_iff_iff,hi,←he];simp;omega
  rw [this]
end Go.RX.Vb
