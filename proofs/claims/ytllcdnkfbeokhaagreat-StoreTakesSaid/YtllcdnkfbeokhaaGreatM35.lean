/- The store's walker. -/
import Derived.Test.YtllcdnkfbeokhaaGreatM34
import Derived.Test.YtllcdnkfbeokhaaGreatM32
open Go.IntKind renaming wrap → ae
open Go.Proofs.Tryz renaming prog → aqQ
open Int renaming toNat → ag, toNat_natCast → aqD
open List renaming append → aqk, getD_cons_zero → ah, getElem?_eq_some_iff → aqo, getLast?_eq_some_iff → aq2, length_append → aql, length_singleton → aqm, mem_append → aqC, mem_singleton → aqx
namespace Go.RX.Vb
open Go Go.RX Go.Proofs Go.Vs
structure WR (x:jD):Prop where
 dh:x.dh.length=32
 n:x.n<256^4
 msg:x.msg.length=32
theorem zq{m:Nat}(h:m+1≤256^4):(m:Int)=ae .u64 (((m+1:Nat):Int) - 1):=by
 have:ae .u64 (((m+1:Nat):Int) - 1)=(((m+1:Nat):Int) - 1)%18446744073709551616:=rfl;omega
abbrev M9:List Value:=aqk (aj .u8 32 (fun _=>0)) (aqk (aj .u8 32 (fun _=>0)) (aqk (aj .u8 32 (fun _=>0)) (aqk (aj .u8 32 (fun _=>0)) (.bool false::(.bool false::(.bool false::(.bool false::(aqk (aj .u8 32 (fun _=>0)) (.int .u32 0::(aqk (aj .u8 32 (fun _=>0)) (.int .u32 0::(.int .u32 0::(.slice none 0 0::(aqk (aj .u8 32 (fun _=>0)) (aqk (aj .u8 32 (fun _=>0)) ([.bool false,.int .u32 0,.bool false,.bool false]))))))))))))))))
theorem KN{e:b_}{v:Value}{A0 A1 A2 A3 A4 A5 A6 A7:Nat→Int}{b0 b1 b2 b3 b4 b5 b6:Bool}{x0 x1 x2 x3:Int}(h0: ∀j,j<32→A0 j=aL e.s.root j)(h1: ∀j,j<32→A1 j=aL e.s.bind j)(h2: ∀j,j<32→A2 j=aL e.s.own j)(h3: ∀j,j<32→A3 j=aL e.s.fW j)(h4: ∀j,j<32→A4 j=aL e.s.send.key j)(h5: ∀j,j<32→A5 j=aL e.s.recv.key j)(h6: ∀j,j<32→A6 j=aL e.ident j)(h7: ∀j,j<32→A7 j=aL e.zl j)
  (c0:b0= !(bi e.s.mR==0)) (c1:b1= !(bi e.s.mS==0)) (c2:b2= !(bi e.s.mT==0)) (c3:b3= !(bi e.s.gQ==0)) (d0:x0=(e.s.send.n:Int)) (d1:x1=(e.s.recv.n:Int)) (d2:x2=(e.s.prev:Int)) (c4:b4= !(bi e.fG==0)) (d3:x3=(e.gS:Int)) (c5:b5= !(bi e.own==0)) (c6:b6= !(bi e.current==0)):
  aqk (aj .u8 32 A0) (aqk (aj .u8 32 A1) (aqk (aj .u8 32 A2) (aqk (aj .u8 32 A3) (.bool b0::(.bool b1::(.bool b2::(.bool b3::(aqk (aj .u8 32 A4) (.int .u32 x0::(aqk (aj .u8 32 A5) (.int .u32 x1::(.int .u32 x2::(v::(aqk (aj .u8 32 A6) (aqk (aj .u8 32 A7) ([.bool b4,.int .u32 x3,.bool b5,.bool b6]))))))))))))))))=kR e v:=by
 rw [fq h0,fq h1,fq h2,fq h3,fq h4,fq h5,fq h6,fq h7,c0,c1,c2,c3,c4,c5,c6,d0,d1,d2,d3]
theorem WS{a b d a' b':HP}{k:Nat}{r r':List Value}{L:List HP}(h1:a=a')(h2:b=b')(h3:r=r')(h4:L.getLast? =some d): ∃mid,a::b::ak k true r::L=[a',b',ak k true r']++mid++[d]:=by
 subst h1 h2 h3;obtain⟨hn,hl⟩:=aq2.1 h4;exact⟨hn,by rw [hl];rfl⟩
set_option maxRecDepth 100000 in
set_option maxHeartbeats 4000000 in
theorem WT(b b1:Nat)(v:V1)(q:Bool)(l:List Nat)(hl:fX l):aq aqQ 105 [wP b,wP b1] [cZ b false v.v q,aT false v.v l,ak b1 true M9]
  fun r hs=>r= .tuple #[]∧∃(v' u:V1) (q':Bool) (l':List Nat),hs=[uv true u.v (bR.bz (bZ q l)).1.s.aV,cZ b false v'.v q',aT false v'.v l',ak b1 true (kR (bR.bz (bZ q l)).1 u.v)]∧bZ q' l'=(bR.bz (bZ q l)).2∧fX l':=by
 refine aq.post (SC (fun r hs=>r= .tuple #[]∧∃(v' u:V1) (q':Bool) (l':List Nat),(∃mid,hs=[cZ b false v'.v q',aT false v'.v l',ak b1 true (kR (bR.bz (bZ q l)).1 u.v)]++mid++[uv true u.v (bR.bz (bZ q l)).1.s.aV])∧bZ q' l'=(bR.bz (bZ q l)).2∧fX l') (l.length:Int) (aL l) q v b b1 ?_) ?_;rotate_left
 ·rintro r hs ⟨rfl,v',u,q',l',⟨mid,rfl⟩,h1,h2⟩;exact⟨_,bJ.trans (bJ.perm List.perm_append_comm) (bJ.sub (List.Sublist.append (List.Sublist.refl _) (List.sublist_append_left _ _))),rfl,v',u,q',l',rfl,h1,h2⟩
 unfold IQ;intro _ _;refine cG 32 rfl (by decide) rfl hl cd.rfl rfl fun v0 w0 n0 A0 q0 l0 An WU Bx uy=>?_
 refine⟨Bx,fun _=>⟨Bx,fun _=>?_⟩⟩;refine cG 32 rfl (by decide) WU An cd.rfl rfl fun v1 w1 n1 A1 q1 l1 LG WV hn1 Ui=>?_
 refine⟨hn1,fun _=>⟨hn1,fun _=>?_⟩⟩;refine cG 32 rfl (by decide) WV LG cd.rfl rfl fun v2 w2 n2 A2 q2 l2 Qo J3 hn2 WW=>?_
 refine⟨hn2,fun _=>⟨hn2,fun _=>?_⟩⟩;refine cG 32 rfl (by decide) J3 Qo cd.rfl rfl fun v3 w3 n3 A3 q3 l3 UR ho3 hn3 hA3=>?_
 refine⟨hn3,fun _=>⟨hn3,fun _=>?_⟩⟩;intro _;refine bd 1 (.inl ⟨rfl,rfl⟩) ho3 UR cd.rfl rfl fun v4 q4 l4 hl4 ho4 hb4=>?_
 have hf4:=mb ho4;refine bd 1 (.inl ⟨rfl,rfl⟩) hf4 hl4 cd.rfl rfl fun v5 q5 l5 hl5 ho5 hb5=>?_
 have hf5:=mb ho5;refine bd 1 (.inl ⟨rfl,rfl⟩) hf5 hl5 cd.rfl rfl fun v6 q6 l6 hl6 ho6 hb6=>?_
 have hf6:=mb ho6;refine bd 1 (.inl ⟨rfl,rfl⟩) hf6 hl6 cd.rfl rfl fun v7 q7 l7 hl7 ho7 hb7=>?_
 have hf7:=mb ho7;intro _;refine cG 32 rfl (by decide) hf7 hl7 cd.rfl rfl fun v8 w8 n8 A8 q8 l8 hl8 ho8 hn8 hA8=>?_
 refine⟨hn8,fun _=>⟨hn8,fun _=>?_⟩⟩;intro _;refine bd 4 (.inr (.inl ⟨rfl,rfl⟩)) ho8 hl8 cd.rfl rfl fun v9 q9 l9 hl9 ho9 hb9=>?_
 intro _;refine cG 32 rfl (by decide) ho9 hl9 cd.rfl rfl fun v10 w10 n10 eg QI l10 WX WY aaB afj=>?_
 refine⟨aaB,fun _=>⟨aaB,fun _=>?_⟩⟩;intro _;refine bd 4 (.inr (.inl ⟨rfl,rfl⟩)) WY WX cd.rfl rfl fun v11 Dg l11 WZ W0 afk=>?_
 intro _;refine bd 4 (.inr (.inl ⟨rfl,rfl⟩)) W0 WZ cd.rfl rfl fun qG LS l12 W3 W4 aaC=>?_
 refine bd 4 (.inr (.inl ⟨rfl,rfl⟩)) W4 W3 cd.rfl rfl fun qH QJ l13 W5 SE W6=>?_
 generalize hN:((num 4).bz _).1=N at W6 ⊢;generalize hO:bZ QJ l13=O at SE;refine⟨fun x=> ∃(w w2:V1) (n:Nat) (q:Bool) (l:List Nat) (acc:List jD),x=⟨[],[w,w2],[(n:Int),(l.length:Int),(acc.length:Int)],[aL l,dV jD.dh acc,cu jD.n acc,dV jD.msg acc],[q],[],[]⟩∧fX l∧acc.length+n=N∧(∀y∈acc,WR y)∧lA dU n (bZ q l) acc=lA dU N O [],fun x=>(x.i.getD 0 0).toNat,?_,?_⟩
 ·exact⟨qH,⟨.slice none 0 0,rfl⟩,_,_,0,_,dV jD.dh [],cu jD.n [],dV jD.msg [],QJ,rfl,rfl,rfl,rfl,rfl,fun _ _=>rfl,rfl,rfl,rfl,fun _ h=>absurd h (by simp),fun _ h=>absurd h (by simp),fun _ h=>absurd h (by simp),qH,_,N,QJ,l13,[],rfl,W5,by simp,by simp,by rw [hO]⟩
 rintro w w2 tu rP ia B21 B22 B23 B24 qq ⟨w,w2,n,qq,ll,acc,hx,hll,hn,SF,SG⟩;simp only [Ext.mk.injEq,List.cons.injEq,and_true,true_and]at hx;obtain⟨⟨rfl,rfl⟩,⟨rfl,rfl,rfl⟩,⟨rfl,rfl,rfl,rfl⟩,rfl⟩:=hx;refine⟨fun cq=>?_,fun lN=>?_⟩
 ·obtain⟨m,rfl,rfl,qs⟩:=mY dU cq;intro _ _;refine cG 32 rfl (by decide) rfl hll cd.rfl rfl fun va0 wa0 na0 Aa0 qa0 la0 W7 W8 aaD afm=>?_
  refine⟨aaD,fun _=>⟨aaD,fun _=>?_⟩⟩;intro _;refine bd 4 (.inr (.inl ⟨rfl,rfl⟩)) W8 W7 cd.rfl rfl fun va1 qa1 la1 W9 W_ aaE=>?_
  intro _;refine cG 32 rfl (by decide) W_ W9 cd.rfl rfl fun yd wa2 na2 Aa2 qa2 la2 afp afq aaF afr=>?_
  refine⟨aaF,fun _=>⟨aaF,fun _=>?_⟩⟩;intro _;have hx:WR (dU.bz (bZ false ll)).1:=⟨eO 32 _,aaE,eO 32 _⟩;refine⟨by omega,fun _=>⟨by omega,fun _=>fun w3=>?_⟩⟩;refine⟨yd,w3,(m:Int),_,((acc++[(dU.bz (bZ false ll)).1]).length:Int),_,dV jD.dh (acc++[(dU.bz (bZ false ll)).1]),cu jD.n (acc++[(dU.bz (bZ false ll)).1]),dV jD.msg (acc++[(dU.bz (bZ false ll)).1]),qa2,zq (by omega),rfl,rfl,rfl,rfl,fun _ _=>rfl,rfl,rfl,by simp,?_,?_,?_,⟨yd,w3,m,qa2,la2,_,rfl,afp,by simp;omega,?_,?_⟩,?_⟩
  ·exact zp jD.dh 32 acc _ (fun y hy=>(SF y hy).dh) (eO 32 _) afm
  ·exact lK jD.n acc _ (zm aaE)
  ·exact zp jD.msg 32 acc _ (fun y hy=>(SF y hy).msg) (eO 32 _) afr
  ·intro y hy;rcases aqC.1 hy with hy | hy
   ·exact SF y hy
   ·rw [aqx.1 hy];exact hx
  ·rw [afq,←SG,qs];rfl
  ·simp only [ah];omega
 ·rw [mX dU lN]at SG;have hg2:bZ qq ll=(lA dU N O []).2:=by rw [←SG]
  have hg1:acc=(lA dU N O []).1:=by rw [←SG]
  intro _;refine cG 32 rfl (by decide) hg2 hll cd.rfl rfl fun vz0 wz0 nz0 Az0 qz0 lz0 afs afu aaG afv=>?_
  refine⟨aaG,fun _=>⟨aaG,fun _=>?_⟩⟩;refine cG 32 rfl (by decide) afu afs cd.rfl rfl fun vz1 wz1 nz1 Az1 qz1 lz1 afw afx aaH afy=>?_
  refine⟨aaH,fun _=>⟨aaH,fun _=>?_⟩⟩;intro _;refine bd 1 (.inl ⟨rfl,rfl⟩) afx afw cd.rfl rfl fun vz2 qz2 lz2 afz afA alS=>?_
  have afB:=mb afA;intro _;refine bd 4 (.inr (.inl ⟨rfl,rfl⟩)) afB afz cd.rfl rfl fun vz3 qz3 lz3 afC afD afE=>?_
  intro _;refine bd 1 (.inl ⟨rfl,rfl⟩) afD afC cd.rfl rfl fun vz4 qz4 lz4 afF afG alT=>?_
  have afH:=mb afG;refine bd 1 (.inl ⟨rfl,rfl⟩) afH afF cd.rfl rfl fun vz5 qz5 lz5 afI afJ alW=>?_
  have afK:=mb afJ;subst hg1 hN SE;refine⟨rfl,vz5,w2,_,lz5,?_,afK,afI⟩;refine WS rfl rfl (KN (e:=(bR.bz (bZ q l)).1) (v:=w2.v) uy Ui WW hA3 hA8 afj afv afy (jc _) (jc _) (jc _) (jc _) (zm hb9) (zm afk) (zm aaC) (jc _) (zm afE) (jc _) (jc _)) rfl
open Go Go.RX Go.Proofs Go.Vs
def AL(o:rB):Prop:= ∀b,o=some b→fX b
theorem AL.st{q:Bool}{l:List Nat}(h:fX l):AL (bZ q l):=SD h
theorem AL.bz{α:Type}(c:p9 α){o:rB}(h:AL o):AL (c.bz o).2:=by
 intro b hb;cases o with
 | none=>rw [c.bad]at hb;cases hb
 | some l=>
  have e:=(c.bwd l _ b (h l rfl).b (Prod.ext rfl hb)).1;exact⟨x_ (h l rfl).b e,Nat.le_trans (by rw [e,aql];omega) (h l rfl).n⟩
theorem AL.lA{α:Type}(c:p9 α)(n:Nat){o:rB}(acc:List α)(h:AL o):AL (lA c n o acc).2:=by
 induction n generalizing o acc with
 | zero=>exact h
 | succ n ih=>
  cases o with
  | none=>exact h
  | some b=>exact ih _ (h.bz c)
theorem SH{α:Type}(c:p9 α)(P:α→Prop)(hc: ∀o,AL o→P (c.bz o).1)(n:Nat){o:rB}(acc:List α)(h:AL o)(ha: ∀y∈acc,P y): ∀y∈(Go.Vs.lA c n o acc).1,P y:=by
 induction n generalizing o acc with
 | zero=>exact ha
 | succ n ih=>
  cases o with
  | none=>exact ha
  | some b=>
   refine ih _ (h.bz c) fun y hy=>?_
   rcases aqC.1 hy with hy | hy
   ·exact ha y hy
   ·rw [aqx.1 hy];exact hc _ h
theorem SI{α:Type}(c:p9 α)(n:Nat)(o:rB)(acc:List α):(Go.Vs.lA c n o acc).1.length≤acc.length+n:=by
 induction n generalizing o acc with
 | zero=>simp [Go.Vs.lA]
 | succ n ih=>
  cases o with
  | none=>simp [Go.Vs.lA]
  | some b=>
   have:=ih (c.bz (some b)).2 (acc++[(c.bz (some b)).1]);rw [aql,aqm]at this;simp only [Go.Vs.lA];omega
theorem pA(k:Nat){o:rB}(h:AL o):((num k).bz o).1<256^k:=by
 cases o with
 | none=>exact Nat.pow_pos (by decide)
 | some l=>exact OY (q:=false) k (h l rfl)
theorem EM{α:Type}(c:p9 α){o:rB}(h:AL o):((Go.Vs.list c).bz o).1.length<256^4:=by
 have h1:=SI c ((num 4).bz o).1 ((num 4).bz o).2 [];have h2:=pA 4 h;rw [List.length_nil]at h1;exact Nat.lt_of_le_of_lt h1 (by omega)
theorem uB{α:Type}(c:p9 α)(P:α→Prop)(hc: ∀o,AL o→P (c.bz o).1){o:rB}(h:AL o): ∀y∈((Go.Vs.list c).bz o).1,P y:=
 SH c P hc _ [] (h.bz (num 4)) (by simp)
theorem zt{o:rB}(h:AL o):WR (dU.bz o).1:=⟨eO 32 _,pA 4 (h.bz (raw 32)),eO 32 _⟩
set_option maxHeartbeats 4000000 in
theorem BB{o:rB}(h:AL o):uw (bR.bz o).1:=by
 have h4:AL _:=(((h.bz (raw 32)).bz (raw 32)).bz (raw 32)).bz (raw 32);have h8:AL _:=(((h4.bz flag).bz flag).bz flag).bz flag;have h9:=h8.bz (raw 32);have h10:=h9.bz (num 4);have Wm:=h10.bz (raw 32);have Yk:=Wm.bz (num 4);have Sp:=Yk.bz (num 4);have h14:=Sp.bz (Go.Vs.list dU);have h17:=((h14.bz (raw 32)).bz (raw 32)).bz flag;exact⟨eO 32 _,eO 32 _,eO 32 _,eO 32 _,eO 32 _,pA 4 h9,eO 32 _,pA 4 Wm,pA 4 Yk,EM dU Sp,uB dU (fun x=>x.dh.length=32) (fun _ h=>(zt h).dh) Sp,uB dU (fun x=>x.n<256^4) (fun _ h=>(zt h).n) Sp,uB dU (fun x=>x.msg.length=32) (fun _ h=>(zt h).msg) Sp,eO 32 _,eO 32 _,pA 4 h17⟩
theorem CE{o:rB}(h:AL o):((num 1).bz o).1<256:=pA 1 h
theorem G7{o:rB}(h:AL o):mV (bO.bz o).1:=
 ⟨CE h,CE (h.bz (num 1)),EM bR ((h.bz (num 1)).bz (num 1)),uB bR uw (fun _ h=>BB h) ((h.bz (num 1)).bz (num 1))⟩
theorem G8(b b1:Nat)(v:V1)(q:Bool)(l:List Nat)(hl:fX l):aq aqQ 105 [wP b,wP b1] [cZ b false v.v q,aT false v.v l,ak b1 true M9]
  fun r hs=>r= .tuple #[]∧∃(v':V1) (c:Int) (q':Bool) (l':List Nat),hs=[uv true (cX c) (bR.bz (bZ q l)).1.s.aV,cZ b false v'.v q',aT false v'.v l',ak b1 true (kR (bR.bz (bZ q l)).1 (cX c))]∧bZ q' l'=(bR.bz (bZ q l)).2∧fX l':=by
 refine aq.post (aq.know (Q:=fun r hs=>r= .tuple #[]∧∃(v':V1) (c:Int) (q':Bool) (l':List Nat),hs=[uv true (cX c) (bR.bz (bZ q l)).1.s.aV,cZ b false v'.v q',aT false v'.v l',ak b1 true (kR (bR.bz (bZ q l)).1 (cX c))]∧bZ q' l'=(bR.bz (bZ q l)).2∧fX l') (WT b b1 v q l hl) ?_) fun _ _ h=>⟨_,bJ.refl _,h.2⟩
 rintro r hs ⟨rfl,v',u,q',l',rfl,h1,h2⟩ w Fs ho;obtain⟨c,hc⟩:=Ec ho;rw [hc];exact⟨rfl,v',c,q',l',rfl,h1,h2⟩
theorem KO{b b5:Nat}{v:V1}{q:Bool}{l:List Nat}{A:Nat→Int}{n:Int}{o:rB}{H:HP}(hH:H.wr=true)(ho:bZ q l=o)(hl:fX l)(hA:cd A l)(hn:n=(l.length:Int))
  {R:V1→Int→Int→Int→Int→Int→Int→Int→Int→Int→Int→Int→Int→Int→(Nat→Int)→(Nat→Int)→(Nat→Int)→(Nat→Int)→(Nat→Int)→(Nat→Int)→(Nat→Int)→(Nat→Int)→(Nat→Int)→Bool→HP→Prop}
  (h: ∀(v':V1) (c:Int) (q':Bool) (l':List Nat) (H':HP),fX l'→bZ q' l'=(bR.bz o).2→uw (bR.bz o).1→H'.wr=true→fI H' H→iG H' (uv false (cX c) (bR.bz o).1.s.aV)→
   R v' (bi (bR.bz o).1.s.mR) (bi (bR.bz o).1.s.mS) (bi (bR.bz o).1.s.mT) (bi (bR.bz o).1.s.gQ) ((bR.bz o).1.s.send.n:Int) ((bR.bz o).1.s.recv.n:Int) ((bR.bz o).1.s.prev:Int) c (bi (bR.bz o).1.fG) ((bR.bz o).1.gS:Int) (bi (bR.bz o).1.own) (bi (bR.bz o).1.current) (l'.length:Int)
    (aL l') (aL (bR.bz o).1.s.root) (aL (bR.bz o).1.s.bind) (aL (bR.bz o).1.s.own) (aL (bR.bz o).1.s.fW) (aL (bR.bz o).1.s.send.key) (aL (bR.bz o).1.s.recv.key) (aL (bR.bz o).1.ident) (aL (bR.bz o).1.zl) q' H'):
  ∃post,aq aqQ 105 [.pointer (some ⟨b,0,none⟩),.pointer (some ⟨b5,0,none⟩)] [ak b true ([.bool false,v.v,.bool q]),aB false 5 1 v.v (ag n) (aK (ag n) [aC .u8 1 A]),ak b5 true M9,H] post∧
   ∀x hs,post x hs→∃v7:V1,∃bE:Int,∃bM:Int,∃bP:Int,∃bI:Int,∃dW:Int,∃bV:Int,∃dI:Int,∃cj:Int,∃dM:Int,∃cU:Int,∃dz:Int,∃i_:Int,∃fU:Int,∃nF:(Nat→Int),∃uq:(Nat→Int),∃sm:(Nat→Int),∃wU:(Nat→Int),∃AJ:(Nat→Int),∃Ar:(Nat→Int),∃Bv:(Nat→Int),∃Eo:(Nat→Int),∃ID:(Nat→Int),∃q5:Bool,∃p2:HP,x= .tuple #[]∧
    hs=[ak b true ([.bool false,v7.v,.bool q5]),aB false 5 1 v7.v (ag fU) (aK (ag fU) [aC .u8 1 nF]),ak b5 true (aqk (aj .u8 32 uq) (aqk (aj .u8 32 sm) (aqk (aj .u8 32 wU) (aqk (aj .u8 32 AJ) (.bool (!(bE==0))::(.bool (!(bM==0))::(.bool (!(bP==0))::(.bool (!(bI==0))::(aqk (aj .u8 32 Ar) (.int .u32 dW::(aqk (aj .u8 32 Bv) (.int .u32 bV::(.int .u32 dI::((cX cj)::(aqk (aj .u8 32 Eo) (aqk (aj .u8 32 ID) ([.bool (!(dM==0)),.int .u32 cU,.bool (!(dz==0)),.bool (!(i_==0))]))))))))))))))))),p2]∧
    R v7 bE bM bP bI dW bV dI cj dM cU dz i_ fU nF uq sm wU AJ Ar Bv Eo ID q5 p2:=by
 subst hn ho;rw [aqD,hA.xE];refine⟨fun r hs=>r= .tuple #[]∧∃(v':V1) (c:Int) (q':Bool) (l':List Nat) (H':HP),hs=[cZ b false v'.v q',aT false v'.v l',ak b5 true (kR (bR.bz (bZ q l)).1 (cX c)),H']∧bZ q' l'=(bR.bz (bZ q l)).2∧fX l'∧H'.wr=true∧fI H' H∧iG H' (uv false (cX c) (bR.bz (bZ q l)).1.s.aV),?_,?_⟩
 ·refine(aq.frame (G8 b b5 v q l hl) [H]).post ?_;rintro r hs ⟨kT,rfl,rfl,v',c,q',l',rfl,h1,h2⟩;refine⟨_,?_,rfl,v',c,q',l',HP.two H (uv true (cX c) (bR.bz (bZ q l)).1.s.aV),rfl,h1,h2,rfl,fI.one,iG.other⟩;refine bJ.trans (bJ.perm (List.perm_append_comm (l₁:=[uv true (cX c) (bR.bz (bZ q l)).1.s.aV]) (l₂:=[cZ b false v'.v q',aT false v'.v l',ak b5 true (kR (bR.bz (bZ q l)).1 (cX c)),H]))) ?_;exact bJ.front (A:=[cZ b false v'.v q',aT false v'.v l',ak b5 true (kR (bR.bz (bZ q l)).1 (cX c))]) (bJ.two hH rfl)
 ·rintro x hs ⟨rfl,v',c,q',l',H',rfl,h1,h2,h3,h4,h5⟩;exact⟨v',_,_,_,_,_,_,_,c,_,_,_,_,_,_,_,_,_,_,_,_,_,_,q',H',rfl,rfl,h v' c q' l' H' h2 h1 (BB (.st hl)) h3 h4 h5⟩
end Go.RX.Vb

namespace Go.Vs
def pB(s:Nat×Nat×Bool)(e:b_):Option (Nat×Nat×Bool):=
 if 64<e.s.aV.length∨(e.current=true∧s.2.2=true)∨(e.own=false∧0<s.1)then none
 else some (if e.own then s.1+1 else s.1,if e.own then s.2.1 else s.2.1+1,s.2.2||e.current)
def O0(l:List b_):Option (Nat×Nat×Bool):=l.foldlM pB (0,0,false)
def EN(p:fp):Bool:=
 match O0 p.l with
 | some (nb,na,c)=>c&&decide (max nb na≤4)
 | none=>false
def place(d:jW):Nat:=d.a*256+d.d
def mc(kd:jW)(last:Int)(p:fp):Option Int:=
 if EN p=false∨(place p.dev:Int)≤last∨p.dev=kd then none else some (place p.dev:Int)
def G9(kd:jW)(l:List fp):Option Int:=l.foldlM (mc kd) (-1)
def uC(kd:jW)(l:List fp)(most:Int):Bool:=(G9 kd l).isSome&&decide ((l.length:Int)≤max most 0)
theorem jQ{α β:Type}(f:β→α→Option β)(l:List α)(a:α)(s:β):(l++[a]).foldlM f s=(l.foldlM f s).bind fun s'=>f s' a:=by
 rw [List.foldlM_append];cases l.foldlM f s with
 | none=>rfl
 | some s'=>simp
theorem qN{α β:Type}(f:β→α→Option β)(l:List α)(i:Nat)(s:β)(h:(l.take i).foldlM f s=none):l.foldlM f s=none:=by
 have e:l.foldlM f s=(l.take i++l.drop i).foldlM f s:=by rw [List.take_append_drop]
 rw [e,List.foldlM_append,h];rfl
theorem jd{α:Type}(l:List α)(i:Nat)(h:i<l.length):l.take (i+1)=l.take i++[l[i]]:=by
 rw [List.take_add_one,List.getElem?_eq_getElem h];rfl
structure Rec where
 id:List Nat
 peer:Nat
 out:Bool
 outcome:Nat
 fi:Nat
 cc:Nat
 ended:Nat
def uD(m:List Nat):Rec:=⟨m.take 16,m.getD 16 0,m.getD 17 0==1,m.getD 18 0,iI ((m.drop 19).take 8),iI ((m.drop 27).take 8),iI ((m.drop 35).take 8)⟩
def vK(r:Rec):Prop:=r.peer<8∧1≤r.outcome∧r.outcome≤7∧r.fi≤r.ended∧(r.cc=0∨(r.fi≤r.cc∧r.cc≤r.ended))
instance (r:Rec):Decidable (vK r):=by unfold vK;infer_instance
def mf(m:List Nat):Option Rec:=if m.length=43∧m.getD 17 0≤1∧vK (uD m)then some (uD m)else none
def nG:Nat→List Nat→List Rec→Option (List Rec)
 | 0,b,acc=>if b=[]then some acc else none
 | n+1,b,acc=>
  if b=[]then some acc else
  match mf (b.take 43)with
  | some r=>if r.id∈acc.map (·.id)then none else nG n (b.drop 43) (acc++[r])
  | none=>none
def wY(b:List Nat):Bool:=decide (b.length≤176128)&&(nG b.length b []).isSome
def qO(aX:Nat)(marks:List Nat)(dP:Int):Bool:=
 decide (aX<8)&&decide (1≤marks.length)&&decide (marks.length≤4)&&decide (-1≤dP)&&decide (dP<(marks.length:Int))&&marks.all fun m=>decide (1≤m)&&decide (m≤4)
def vL(c:Call)(dP:Int):Bool:=
 decide (c.dead.length≤256)&&decide (c.state≤4)&&(!(c.state==1)||(qO c.aX c.marks dP&&decide (c.early.length≤4)))
def sq:List Nat→List Nat→Bool
 | [],[]=>false
 | [],_::_=>true
 | _::_,[]=>false
 | a::r,b::s=>if a<b then true else if b<a then false else sq r s
def lv(last:Option (List Nat))(x:Room):Option (Option (List Nat)):=
 if(∃l,last=some l∧sq l x.id=false)∨8≤x.aX then none else some (some x.id)
def pC(l:List Room):Bool:=decide (l.length≤8)&&(l.foldlM lv none).isSome
def uE(s:State)(most dP:Int):Bool:=
 uC s.table.keys.dev s.table.bA most&&vL s.call dP&&wY s.log&&decide (s.call.me=s.table.keys.dev)&&pC s.aO
end Go.Vs

namespace Go.RX.Vb
open Go Go.RX Go.Proofs Go.Vs
theorem O1{x1 x2 x3 x4 x5 x6 x7 c:Int}{A0 A1 A2 A3 A4 A5:Nat→Int}{H:HP}(sk:List jD)(hH:H.wr=false)(hg:iG H (uv false (cX c) sk)){R:Int→Int→Prop}(h1:64<sk.length→R 0 2)(h2:sk.length≤64→∀b:Nat,R ((b:Nat)+1) 0):
  ∃post,aq aqQ 113 [.agg (aqk (aj .u8 32 A0) (aqk (aj .u8 32 A1) (aqk (aj .u8 32 A2) (aqk (aj .u8 32 A3) (.bool (!(x1==0))::(.bool (!(x2==0))::(.bool (!(x3==0))::(.bool (!(x4==0))::(aqk (aj .u8 32 A4) (.int .u32 x5::(aqk (aj .u8 32 A5) ([.int .u32 x6,.int .u32 x7,cX c])))))))))))).toArray] [H] post∧
   ∀x hs,post x hs→∃y1:Int,∃y2:Int,x= .tuple #[(cA y1),.int .i64 y2]∧hs=[H]∧R y1 y2:=by
 refine⟨fun r hs=>hs=[H]∧((64<sk.length∧r= .tuple #[.pointer none,.int .i64 2])∨(sk.length≤64∧∃b:Nat,r= .tuple #[.pointer (some ⟨b,0,none⟩),.int .i64 0])),?_,?_⟩
 ·have hm:=WK (fun r hs=>hs=[]∧((64<sk.length∧r= .tuple #[.pointer none,.int .i64 2])∨(sk.length≤64∧∃b:Nat,r= .tuple #[.pointer (some ⟨b,0,none⟩),.int .i64 0]))) (sk.length:Int) x1 x2 x3 x4 x5 x6 x7 A0 A1 A2 A3 A4 A5 (aL (sk.flatMap jD.dh)) (cu jD.n sk) (aL (sk.flatMap jD.msg)) ⟨cX c,mA c⟩ (by
   unfold OT;intro b0;refine⟨by omega,fun _=>⟨fun h=>⟨rfl,.inl ⟨by omega,rfl⟩⟩,fun h=>⟨fun _=>fun b1=>⟨rfl,.inr ⟨by omega,b1,rfl⟩⟩,fun _=>fun v1=>⟨by omega,fun _=>fun v2=>fun b1=>⟨rfl,.inr ⟨by omega,b1,rfl⟩⟩⟩⟩⟩⟩)
  refine(aq.pre (aq.frame hm [H]) (iG.ent hH hg)).post ?_;rintro r hs ⟨kT,rfl,rfl,h⟩;exact⟨_,bJ.refl _,rfl,h⟩
 ·rintro x hs ⟨rfl,⟨h,rfl⟩ | ⟨h,b,rfl⟩⟩
  ·exact⟨0,2,rfl,rfl,h1 h⟩
  ·exact⟨(b:Nat)+1,0,by rw [eF],rfl,h2 h b⟩
theorem s8(s:Nat×Nat×Bool)(e:b_):pB s e=if 64<e.s.aV.length∨(e.current=true∧s.2.2=true)∨(e.own=false∧0<s.1)then none else some (if e.own then s.1+1 else s.1,if e.own then s.2.1 else s.2.1+1,s.2.2||e.current):=rfl
theorem EO(c:Bool):(bi c≠0)↔c=true:=by cases c<;>simp [bi]
set_option maxHeartbeats 1000000 in
theorem KP(p:fp)(v:V1)(C:Nat→Int)(H:HP)(hH:H.wr=false)(hS:ux H p.l C)(hl:p.l.length<256^4):
  aq aqQ 67 [.agg #[.int .u8 (p.dev.a:Int),.int .u8 (p.dev.d:Int),v.v]] [jF false v.v p.l C,H] fun r hs=>hs=[]∧∃a:Int,r= .tuple #[cA a,.bool (EN p)]:=by
 refine WM _ (p.dev.a:Int) (p.dev.d:Int) (p.l.length:Int) (dV (·.s.root) p.l) (dV (·.s.bind) p.l) (dV (·.s.own) p.l) (dV (·.s.fW) p.l) (jm (·.s.mR) p.l) (jm (·.s.mS) p.l) (jm (·.s.mT) p.l) (jm (·.s.gQ) p.l) (dV (·.s.send.key) p.l) (cu (·.s.send.n) p.l) (dV (·.s.recv.key) p.l) (cu (·.s.recv.n) p.l) (cu (·.s.prev) p.l) C (dV (·.ident) p.l) (dV (·.zl) p.l) (jm (·.fG) p.l) (cu (·.gS) p.l) (jm (·.own) p.l) (jm (·.current) p.l) v H ?_;unfold OV;intro b0 b1;refine⟨by omega,fun _=>?_⟩;refine⟨fun x=> ∃(i nb na:Nat) (c:Bool) (v3 v4:V1) (x4:Int) (A B:Nat→Int),x=⟨[],[v3,v4],[(i:Int),x4,(nb:Int),(na:Int)],[A,B],[],[],[]⟩∧i≤p.l.length∧(p.l.take i).foldlM pB (0,0,false)=some (nb,na,c)∧nb+na=i∧(c=true↔x4≠0),fun x=>p.l.length - (x.i.getD 0 0).toNat,?_,?_⟩
 ·exact⟨⟨.slice none 0 0,rfl⟩,⟨.slice none 0 0,rfl⟩,_,_,_,_,fun _=>0,fun _=>0,rfl,rfl,rfl,rfl,rfl,rfl,fun _ _=>rfl,rfl,rfl,fun _ _=>rfl,0,0,0,false,_,_,0,_,_,rfl,by omega,rfl,rfl,by simp⟩
 rintro v3 v4 x3 x4 x5 x6 A B ⟨i,nb,na,c,v3,v4,x4,A,B,hx,hi,hr,hn,hc⟩;simp only [Ext.mk.injEq,List.cons.injEq,and_true,true_and]at hx;obtain⟨⟨rfl,rfl⟩,⟨rfl,rfl,rfl,rfl⟩,rfl,rfl⟩:=hx;have O3: ∀e,pB (nb,na,c) e=none→p.l[i]? =some e→EN p=false:=by
  intro e he hg;obtain⟨dy,lN⟩:=aqo.1 hg;have:(p.l.take (i+1)).foldlM pB (0,0,false)=none:=by
   rw [jd _ _ dy,jQ,hr,lN];exact he
  have:=qN _ _ _ _ this;unfold EN O0;rw [this]
 refine⟨fun cq=>?_,fun lN=>?_⟩
 ·have dy:i<p.l.length:=by omega
  have hgi:p.l[i]? =some p.l[i]:=List.getElem?_eq_getElem dy;refine⟨by omega,fun _=>fun b2=>?_⟩;simp only [aqD];rw [mU (·.own) p.l i dy,mU (·.current) p.l i dy];have O4: ∀(hh: ¬(64<p.l[i].s.aV.length∨(p.l[i].current=true∧c=true)∨(p.l[i].own=false∧0<nb))),(p.l.take (i+1)).foldlM pB (0,0,false)=some (if p.l[i].own then nb+1 else nb,if p.l[i].own then na else na+1,c||p.l[i].current):=by
   intro hh;rw [jd _ _ dy,jQ,hr];show pB (nb,na,c) p.l[i]=_;rw [s8,if_neg hh]
  refine O1 p.l[i].s.aV hH (hS i dy) ?_ ?_
  ·intro X_;refine⟨by omega,fun _=>⟨fun _=>⟨trivial,0,?_⟩,fun h=>absurd (.inl (.inl (by decide))) h⟩⟩;rw [O3 _ (by rw [s8,if_pos (.inl X_)]) hgi];rfl
  ·intro X_ b;refine⟨by omega,fun _=>⟨fun hb=>⟨trivial,0,?_⟩,fun hb=>?_⟩⟩
   ·rw [O3 _ ?_ hgi]
    ·rfl
    ·rw [s8,if_pos];rcases hb with(h | ⟨h1,h2⟩) | ⟨h1,h2⟩
     ·exact absurd rfl h
     ·exact .inr (.inl ⟨(EO _).1 h1,hc.2 h2⟩)
     ·refine .inr (.inr ⟨?_,by simpa using h2⟩);rw [EO]at h1;simpa using h1
   ·have FX: ¬(64<p.l[i].s.aV.length∨(p.l[i].current=true∧c=true)∨(p.l[i].own=false∧0<nb)):=by
     rintro (h | ⟨h1,h2⟩ | ⟨h1,h2⟩)
     ·omega
     ·exact hb (.inl (.inr ⟨(EO _).2 h1,hc.1 h2⟩))
     ·refine hb (.inr ⟨?_,by omega⟩);rw [EO,h1];decide
    have hs:=O4 FX;intro b3;refine⟨fun MA=>⟨fun cY=>?_,fun cY=>?_⟩,fun MA=>⟨fun cY=>?_,fun cY=>?_⟩⟩
    all_goals rw [EO]at cY MA
    all_goals simp only [cY,MA,if_true,Bool.or_true,Bool.or_false,Bool.false_eq_true,if_false]at hs
    all_goals refine fun b4=>⟨by omega,fun _=>⟨by omega,fun _=>fun v5=>⟨by omega,fun _=>⟨by omega,fun _=>?_⟩⟩⟩⟩
    ·exact⟨v5,v4,((i+1:Nat):Int),_,((nb+1:Nat):Int),(na:Int),_,B,by simp,rfl,rfl,rfl,rfl,by simp,fun _ _=>rfl,rfl,rfl,fun _ _=>rfl,⟨i+1,nb+1,na,true,v5,v4,_,_,B,rfl,by omega,hs,by omega,by simp;omega⟩,by simp;omega⟩
    ·exact⟨v3,v5,((i+1:Nat):Int),_,(nb:Int),((na+1:Nat):Int),A,_,by simp,rfl,rfl,rfl,rfl,rfl,fun _ _=>rfl,rfl,by simp,fun _ _=>rfl,⟨i+1,nb,na+1,true,v3,v5,_,A,_,rfl,by omega,hs,by omega,by simp;omega⟩,by simp;omega⟩
    ·exact⟨v5,v4,((i+1:Nat):Int),_,((nb+1:Nat):Int),(na:Int),_,B,by simp,rfl,rfl,rfl,rfl,by simp,fun _ _=>rfl,rfl,rfl,fun _ _=>rfl,⟨i+1,nb+1,na,c,v5,v4,_,_,B,rfl,by omega,hs,by omega,hc⟩,by simp;omega⟩
    ·exact⟨v3,v5,((i+1:Nat):Int),_,(nb:Int),((na+1:Nat):Int),A,_,by simp,rfl,rfl,rfl,rfl,rfl,fun _ _=>rfl,rfl,by simp,fun _ _=>rfl,⟨i+1,nb,na+1,c,v3,v5,_,A,_,rfl,by omega,hs,by omega,hc⟩,by simp;omega⟩
 ·have dy:i=p.l.length:=by omega
  subst dy;rw [List.take_length]at hr;refine⟨.inr (by omega),fun _=>⟨.inr (by omega),fun _=>⟨rfl,(b1:Nat)+1,?_⟩⟩⟩;have F5:EN p=(c&&decide (max nb na≤4)):=by unfold EN O0;rw [hr]
  rw [F5,eF];have e1:(!(x4==0))=c:=by
   by_cases h0:x4=0
   ·subst h0;cases c<;>simp_all
   ·have:=hc.2 h0;rw [this];simp [h0]
  have e2:decide (ar .imax .i64 (nb:Int) (na:Int)≤4)=decide (max nb na≤4):=by
   have:ar .imax .i64 (nb:Int) (na:Int)=if(nb:Int)<na then(na:Int)else nb:=rfl
   rw [this];congr 1;split<;>(apply propext;omega)
  rw [e1,e2]
open Go Go.RX Go.Proofs Go.Vs
theorem O5{c:Int}{xa xd:Int}{H:HP}(p:fp)(hH:H.wr=false)(hb: ∃D:Nat→Int,iG H (jF false (cX c) p.l D)∧ux H p.l D)(hl:p.l.length<256^4)(ha:xa=(p.dev.a:Int))(hd:xd=(p.dev.d:Int)){R:Int→Bool→Prop}(h: ∀a:Int,R a (EN p)):
  ∃post,aq aqQ 67 [.agg #[.int .u8 xa,.int .u8 xd,cX c]] [H] post∧∀x hs,post x hs→∃y1:Int,∃q:Bool,x= .tuple #[(cA y1),.bool q]∧hs=[H]∧R y1 q:=by
 subst ha hd;obtain⟨D,hD,hS⟩:=hb;refine⟨fun r hs=>hs=[H]∧∃a:Int,r= .tuple #[cA a,.bool (EN p)],?_,?_⟩
 ·have hm:=aq.frame (KP p ⟨cX c,mA c⟩ D H hH hS hl) [H];refine(aq.pre hm ?_).post ?_
  ·exact bJ.trans (iG.ent hH hD) (bJ.front (A:=[jF false (cX c) p.l D]) (bJ.dup hH []))
  ·rintro r hs ⟨kT,rfl,rfl,a,rfl⟩;exact⟨_,bJ.refl _,rfl,a,rfl⟩
 ·rintro x hs ⟨rfl,a,rfl⟩;exact⟨a,_,rfl,rfl,h a⟩
theorem O7{v:V1}{n:Int}{A0 A1:Nat→Int}{R:V1→Prop}(h0:0≤n)(h1:n≤256^4)(h: ∀o:V1,R o):
  ∃post,aq aqQ 81 [v.v] [aB false 93 33 v.v (ag n) (aK (ag n) [aC .u32 1 A0,aC .u8 32 A1])] post∧
   ∀x hs,post x hs→∃v2:V1,x=v2.v∧hs=[aB false 93 33 v.v (ag n) (aK (ag n) [aC .u32 1 A0,aC .u8 32 A1])]∧R v2:=by
 refine⟨fun r hs=> ∃o:V1,r=o.v∧hs=[aB false 93 33 v.v (ag n) (aK (ag n) [aC .u32 1 A0,aC .u8 32 A1])],?_,?_⟩
 ·refine WL _ n A0 A1 v ?_;unfold OU;exact⟨fun _=>⟨⟨.slice none 0 0,rfl⟩,rfl,rfl⟩,fun _=>fun v1=>⟨h0,fun _=>⟨h0,fun _=>⟨by omega,fun _=>fun v2=>⟨v2,rfl,rfl⟩⟩⟩⟩⟩
 ·rintro x hs ⟨o,rfl,rfl⟩;exact⟨o,rfl,rfl,h o⟩
theorem O9{n:Nat}(h:n<9223372036854775808):ae .i64 (n:Int)=(n:Int):=by
 have e:ae .i64 (n:Int)=if(true&&decide ((n:Int)%18446744073709551616≥9223372036854775808))=true then(n:Int)%18446744073709551616 - 18446744073709551616 else(n:Int)%18446744073709551616:=rfl
 have hm:(n:Int)%18446744073709551616=n:=by omega
 rw [e,hm,if_neg];simp;omega
theorem aaI{a d:Nat}(ha:a<256)(hd:d<256):ar .cz .i64 (ar .shl .i64 (a:Int) 8) (d:Int)=((a*256+d:Nat):Int):=by
 have e1:ar .shl .i64 (a:Int) 8=ae .i64 ((a:Int)*((256:Nat):Int)):=by
  show ae .i64 ((a:Int)*2^(min 8 64))=_;rfl
 rw [e1,←Int.natCast_mul,O9 (by omega)];show ae .i64 ((BitVec.ofInt 64 ((a*256:Nat):Int)|||BitVec.ofInt 64 (d:Int)).toNat:Int)=_;have h3:a*256+d<9223372036854775808:=by omega
 have h1:a*256<2^64:=Nat.lt_trans (Nat.lt_of_le_of_lt (Nat.le_add_right _ d) h3) (by decide);have h2:d<2^64:=Nat.lt_trans hd (by decide);rw [BitVec.toNat_or,ofI,ofI,Nat.mod_eq_of_lt h1,Nat.mod_eq_of_lt h2,aav hd];exact O9 h3
theorem aaJ(x y:Int):(List.range 2).map (aw (aw (fun _=>0) 0 x) 1 y)=[x,y]:=rfl
set_option maxHeartbeats 1000000 in
theorem KQ(kd:jW)(ident signed:Nat→Int)(most:Int)(v0 v1:V1)(on:List dx)(ps:List fp)(C:Nat→Int)(H:HP)(hH:H.wr=false)(hP:ob H ps C)(hon:on.length<256^4)(J8:ps.length<256^4)(F5: ∀p∈ps,mV p):
  aq aqQ 34 [.agg (.int .u8 (kd.a:Int)::(.int .u8 (kd.d:Int)::(aqk (aj .u8 32 ident) (aqk (aj .u8 32 signed) ([v0.v,.int .i64 most,v1.v]))))).toArray] [CC false v0.v on,KG false v1.v ps C,H]
   fun r hs=>hs=[]∧∃a:Int,r= .tuple #[cA a,.int .i64 (if uC kd ps most then 0 else 2)]:=by
 refine WN _ (kd.a:Int) (kd.d:Int) most (on.length:Int) (ps.length:Int) ident signed (cu dx.id on) (dV dx.dY on) (cu (·.dev.a) ps) (cu (·.dev.d) ps) C v0 v1 H ?_;unfold OW;intro b0 b1;refine O7 (by omega) (by omega) fun v2=>?_
 intro b2 b3;refine⟨by omega,fun _=>?_⟩;refine⟨fun x=> ∃(i:Nat) (last:Int) (A B:Nat→Int),x=⟨[],[],[(i:Int),last],[A,B],[],[],[]⟩∧i≤ps.length∧(ps.take i).foldlM (mc kd) (-1)=some last∧A 0=(i:Int)∧∀a d:Nat,a<256→d<256→A (aS [(a:Int),(d:Int)])≠0→((a*256+d:Nat):Int)≤last,fun x=>ps.length - (x.i.getD 0 0).toNat,?_,?_⟩
 ·exact⟨_,_,_,_,rfl,rfl,rfl,rfl,0, -1,_,_,rfl,by omega,rfl,rfl,fun a d _ _ h=>absurd rfl h⟩
 rintro x5 last A B ⟨i,last,A,B,hx,hi,hr,uy,hAk⟩;simp only [Ext.mk.injEq,List.cons.injEq,and_true,true_and]at hx;obtain⟨⟨rfl,rfl⟩,rfl,rfl⟩:=hx;refine⟨fun cq=>?_,fun lN=>?_⟩
 ·have dy:i<ps.length:=by omega
  have hp:=F5 _ (List.getElem_mem dy);have O3:mc kd last ps[i]=none→uC kd ps most=false:=by
   intro he;have:(ps.take (i+1)).foldlM (mc kd) (-1)=none:=by
    rw [jd _ _ dy,jQ,hr];exact he
   have:=qN _ _ _ _ this;unfold uC G9;rw [this];rfl
  refine⟨by omega,fun _=>fun b4=>?_⟩;simp only [aqD];rw [jE (·.dev.a) ps i dy,jE (·.dev.d) ps i dy];refine O5 ps[i] hH (hP i dy) hp.many rfl rfl fun y=>?_
  have h1:=hp.a;have h2:=hp.d;refine⟨fun jf=>?_,fun FX=>⟨trivial,0,?_⟩⟩
  ·intro b5
   iterate 4 refine⟨by omega,fun _=>?_⟩
   rw [aaI h1 h2,aaJ];refine⟨fun hb=>⟨trivial,0,?_⟩,fun hb=>?_⟩
   ·rw [O3]
    ·rfl
    ·unfold mc;rw [if_pos];rcases hb with hb | ⟨Ao,DS⟩
     ·exact .inr (.inl hb)
     ·refine .inr (.inr ?_);have e1:ps[i].dev.a=kd.a:=by omega
      have e2:ps[i].dev.d=kd.d:=by omega
      cases hdv:ps[i].dev;cases kd;rw [hdv]at e1 e2;simp only at e1 e2;rw [e1,e2]
   ·have Ao: ¬(((ps[i].dev.a*256+ps[i].dev.d:Nat):Int)≤last):=fun h=>hb (.inl h)
    have DS: ¬ps[i].dev=kd:=by
     intro h;refine hb (.inr ⟨?_,?_⟩)<;>rw [h]
    have hs:(ps.take (i+1)).foldlM (mc kd) (-1)=some (place ps[i].dev:Int):=by
     rw [jd _ _ dy,jQ,hr];show mc kd last ps[i]=_;unfold mc;rw [if_neg];rintro (h | h | h)
     ·rw [jf]at h;cases h
     ·exact Ao h
     ·exact DS h
    have F6:A (aS [(ps[i].dev.a:Int),(ps[i].dev.d:Int)])=0:=by
     refine Decidable.byContradiction fun h=>Ao (hAk _ _ h1 h2 h)
    have hkp:aS [(ps[i].dev.a:Int),(ps[i].dev.d:Int)]≠0:=Nat.ne_of_gt (kS (by simp));intro b6;refine⟨by simpa using F6,fun _=>⟨by omega,fun _=>⟨by omega,fun _=>⟨by omega,fun _=>?_⟩⟩⟩⟩;refine⟨((i+1:Nat):Int),_,_,_,by simp,rfl,rfl,rfl,⟨i+1,(place ps[i].dev:Int),_,_,rfl,by omega,hs,?_,?_⟩,by simp;omega⟩
    ·simp only [aw];rw [if_neg (fun e=>hkp e.symm),if_pos trivial,uy];simp
    ·intro a d ha hd fg;simp only [aw]at fg;by_cases he:aS [(a:Int),(d:Int)]=aS [(ps[i].dev.a:Int),(ps[i].dev.d:Int)]
     ·have:=oO (by rfl) he;simp only [List.cons.injEq,and_true]at this;unfold place;omega
     ·rw [if_neg he,if_neg (Nat.ne_of_gt (kS (by simp)))]at fg;have:=hAk a d ha hd fg;unfold place;omega
  ·rw [O3]
   ·rfl
   ·unfold mc;rw [if_pos (.inl (by simpa using FX))]
 ·have dy:i=ps.length:=by omega
  subst dy;rw [List.take_length]at hr;have hto:uC kd ps most=decide ((ps.length:Int)≤max most 0):=by
   unfold uC G9;rw [hr];rfl
  have em:ar .imax .i64 most 0=max most 0:=by
   have:ar .imax .i64 most 0=if most<0 then 0 else most:=rfl
   rw [this];split<;>omega
  rw [em,hto,uy];refine⟨fun h=>⟨rfl,0,?_⟩,fun h=>⟨rfl,(b3:Nat)+1,?_⟩⟩
  ·rw [decide_eq_false (by omega)];rfl
  ·rw [decide_eq_true (by omega),eF];rfl
end Go.RX.Vb
