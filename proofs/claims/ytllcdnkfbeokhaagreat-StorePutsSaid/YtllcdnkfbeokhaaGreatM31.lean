/- The store's walker. -/
import Derived.Test.YtllcdnkfbeokhaaGreatM30
import Derived.Test.YtllcdnkfbeokhaaGreatM29
open Go.IntKind renaming wrap -> ae
open Go.Proofs.Tryz renaming prog -> ax8
open Int renaming toNat -> ag, toNat_natCast -> ax3
open List renaming append -> axQ, getD_cons_zero -> ah, getD_eq_getElem?_getD -> ayk, getElem?_eq_getElem -> ays, getElem?_eq_some_iff -> axT, getLast?_eq_some_iff -> ayJ, length_append -> axP, length_nil -> aya, length_singleton -> axR, mem_append -> ax_, mem_singleton -> ax2
namespace Go.RX.Vb
open Go Go.RX Go.Proofs Go.Vs
structure ab4 (x:fe):Prop where
 dh:x.dh.length=32
 n:x.n<256^4
 msg:x.msg.length=32
theorem BO{m:Nat}(h:m+1<=256^4):(m:Int)=ae .u64 (((m+1:Nat):Int) - 1):=by
 have:ae .u64 (((m+1:Nat):Int) - 1)=(((m+1:Nat):Int) - 1)%18446744073709551616:=rfl;omega
abbrev Rh:List Value:=axQ (aj .u8 32 (λ_=>0)) (axQ (aj .u8 32 (λ_=>0)) (axQ (aj .u8 32 (λ_=>0)) (axQ (aj .u8 32 (λ_=>0)) (.bool false::(.bool false::(.bool false::(.bool false::(axQ (aj .u8 32 (λ_=>0)) (.int .u32 0::(axQ (aj .u8 32 (λ_=>0)) (.int .u32 0::(.int .u32 0::(.slice none 0 0::(axQ (aj .u8 32 (λ_=>0)) (axQ (aj .u8 32 (λ_=>0)) ([.bool false,.int .u32 0,.bool false,.bool false]))))))))))))))))
theorem OL{e:bX}{v:Value}{A0 A1 A2 A3 A4 A5 A6 A7:Nat->Int}{b0 b1 b2 b3 b4 b5 b6:Bool}{x0 x1 x2 x3:Int}(h0: ∀j,j<32->A0 j=aJ e.s.root j)(h1: ∀j,j<32->A1 j=aJ e.s.bind j)(h2: ∀j,j<32->A2 j=aJ e.s.own j)(h3: ∀j,j<32->A3 j=aJ e.s.cJ j)(h4: ∀j,j<32->A4 j=aJ e.s.send.key j)(h5: ∀j,j<32->A5 j=aJ e.s.recv.key j)(h6: ∀j,j<32->A6 j=aJ e.ident j)(h7: ∀j,j<32->A7 j=aJ e.qG j)
  (c0:b0= !(bi e.s.gi==0)) (c1:b1= !(bi e.s.gj==0)) (c2:b2= !(bi e.s.gk==0)) (c3:b3= !(bi e.s.cS==0)) (d0:x0=(e.s.send.n:Int)) (d1:x1=(e.s.recv.n:Int)) (d2:x2=(e.s.prev:Int)) (c4:b4= !(bi e.cZ==0)) (d3:x3=(e.dH:Int)) (c5:b5= !(bi e.own==0)) (c6:b6= !(bi e.current==0)):
  axQ (aj .u8 32 A0) (axQ (aj .u8 32 A1) (axQ (aj .u8 32 A2) (axQ (aj .u8 32 A3) (.bool b0::(.bool b1::(.bool b2::(.bool b3::(axQ (aj .u8 32 A4) (.int .u32 x0::(axQ (aj .u8 32 A5) (.int .u32 x1::(.int .u32 x2::(v::(axQ (aj .u8 32 A6) (axQ (aj .u8 32 A7) ([.bool b4,.int .u32 x3,.bool b5,.bool b6]))))))))))))))))=j_ e v:=by
 rw[gy h0,gy h1,gy h2,gy h3,gy h4,gy h5,gy h6,gy h7,c0,c1,c2,c3,c4,c5,c6,d0,d1,d2,d3]
theorem ab5{a b d a' b':HP}{k:Nat}{r r':List Value}{L:List HP}(h1:a=a')(h2:b=b')(h3:r=r')(h4:L.getLast? =some d): ∃mid,a::b::ak k true r::L=[a',b',ak k true r']++mid++[d]:=by
 subst h1 h2 h3;obtain⟨hn,hl⟩:=ayJ.1 h4;exact⟨hn,by rw[hl];rfl⟩
set_option maxRecDepth 100000 in
set_option maxHeartbeats 4000000 in
theorem ab6(b b1:Nat)(v:V1)(q:Bool)(l:List Nat)(hl:hZ l):ao ax8 105 [wP b,wP b1] [dB b false v.v q,aN false v.v l,ak b1 true Rh]
  λr hs=>r= .tuple #[]/\∃(v' u:V1) (q':Bool) (l':List Nat),hs=[nI true u.v (bS.bB (ct q l)).1.s.aC,dB b false v'.v q',aN false v'.v l',ak b1 true (j_ (bS.bB (ct q l)).1 u.v)]/\ct q' l'=(bS.bB (ct q l)).2/\hZ l':=by
 refine ao.post (Xq (λr hs=>r= .tuple #[]/\∃(v' u:V1) (q':Bool) (l':List Nat),(∃mid,hs=[dB b false v'.v q',aN false v'.v l',ak b1 true (j_ (bS.bB (ct q l)).1 u.v)]++mid++[nI true u.v (bS.bB (ct q l)).1.s.aC])/\ct q' l'=(bS.bB (ct q l)).2/\hZ l') (l.length:Int) (aJ l) q v b b1 ?_) ?_;rotate_left
 .rintro r hs ⟨rfl,v',u,q',l',⟨mid,rfl⟩,h1,h2⟩;exact⟨_,bq.trans (bq.perm List.perm_append_comm) (bq.sub (List.Sublist.append (List.Sublist.refl _) (List.sublist_append_left _ _))),rfl,v',u,q',l',rfl,h1,h2⟩
 unfold Me;intro _ _;refine df 32 rfl (by decide) rfl hl cu.rfl rfl λv0 w0 n0 A0 q0 l0 zB ho0 DS wI=>?_
 refine⟨DS,λ_=>⟨DS,λ_=>?_⟩⟩;refine df 32 rfl (by decide) ho0 zB cu.rfl rfl λv1 w1 n1 A1 q1 l1 JC ho1 hn1 Zp=>?_
 refine⟨hn1,λ_=>⟨hn1,λ_=>?_⟩⟩;refine df 32 rfl (by decide) ho1 JC cu.rfl rfl λv2 w2 n2 A2 q2 l2 NF C1 hn2 hA2=>?_
 refine⟨hn2,λ_=>⟨hn2,λ_=>?_⟩⟩;refine df 32 rfl (by decide) C1 NF cu.rfl rfl λv3 w3 n3 A3 q3 l3 Z4 Xs hn3 hA3=>?_
 refine⟨hn3,λ_=>⟨hn3,λ_=>?_⟩⟩;intro _;refine bt 1 (.inl ⟨rfl,rfl⟩) Xs Z4 cu.rfl rfl λv4 q4 l4 hl4 ho4 hb4=>?_
 have hf4:=nJ ho4;refine bt 1 (.inl ⟨rfl,rfl⟩) hf4 hl4 cu.rfl rfl λv5 q5 l5 hl5 ho5 hb5=>?_
 have hf5:=nJ ho5;refine bt 1 (.inl ⟨rfl,rfl⟩) hf5 hl5 cu.rfl rfl λv6 q6 l6 hl6 ho6 hb6=>?_
 have hf6:=nJ ho6;refine bt 1 (.inl ⟨rfl,rfl⟩) hf6 hl6 cu.rfl rfl λv7 q7 l7 hl7 ho7 hb7=>?_
 have hf7:=nJ ho7;intro _;refine df 32 rfl (by decide) hf7 hl7 cu.rfl rfl λv8 w8 n8 A8 q8 l8 hl8 ho8 hn8 hA8=>?_
 refine⟨hn8,λ_=>⟨hn8,λ_=>?_⟩⟩;intro _;refine bt 4 (.inr (.inl ⟨rfl,rfl⟩)) ho8 hl8 cu.rfl rfl λv9 q9 l9 hl9 ho9 hb9=>?_
 intro _;refine df 32 rfl (by decide) ho9 hl9 cu.rfl rfl λv10 w10 n10 dM q10 l10 ab_ aca agv alN=>?_
 refine⟨agv,λ_=>⟨agv,λ_=>?_⟩⟩;intro _;refine bt 4 (.inr (.inl ⟨rfl,rfl⟩)) aca ab_ cu.rfl rfl λv11 HI l11 acb acd alO=>?_
 intro _;refine bt 4 (.inr (.inl ⟨rfl,rfl⟩)) acd acb cu.rfl rfl λxj VB l12 ace acf agw=>?_
 refine bt 4 (.inr (.inl ⟨rfl,rfl⟩)) acf ace cu.rfl rfl λtL Zn l13 acg Xt ach=>?_
 generalize hN:((num 4).bB _).1=N at ach ⊢;generalize hO:ct Zn l13=O at Xt;refine⟨λx=> ∃(w w2:V1) (n:Nat) (q:Bool) (l:List Nat) (acc:List fe),x=⟨[],[w,w2],[(n:Int),(l.length:Int),(acc.length:Int)],[aJ l,cb fe.dh acc,bu fe.n acc,cb fe.msg acc],[q],[],[]⟩/\hZ l/\acc.length+n=N/\(∀y∈acc,ab4 y)/\mS dv n (ct q l) acc=mS dv N O [],λx=>(x.i.getD 0 0).toNat,?_,?_⟩
 .exact⟨tL,⟨.slice none 0 0,rfl⟩,_,_,0,_,cb fe.dh [],bu fe.n [],cb fe.msg [],Zn,rfl,rfl,rfl,rfl,rfl,λ_ _=>rfl,rfl,rfl,rfl,λ_ h=>absurd h (by simp),λ_ h=>absurd h (by simp),λ_ h=>absurd h (by simp),tL,_,N,Zn,l13,[],rfl,acg,by simp,by simp,by rw[hO]⟩
 rintro w w2 rj pR jw B21 B22 B23 B24 qq ⟨w,w2,n,qq,ll,acc,hx,hll,hn,Xu,Xv⟩;simp only[Ext.mk.injEq,List.cons.injEq,and_true,true_and]at hx;obtain⟨⟨rfl,rfl⟩,⟨rfl,rfl,rfl⟩,⟨rfl,rfl,rfl,rfl⟩,rfl⟩:=hx;refine⟨λcC=>?_,λlS=>?_⟩
 .obtain⟨m,rfl,rfl,rY⟩:=oA dv cC;intro _ _;refine df 32 rfl (by decide) rfl hll cu.rfl rfl λva0 wa0 na0 Aa0 qa0 la0 aci acj agx alQ=>?_
  refine⟨agx,λ_=>⟨agx,λ_=>?_⟩⟩;intro _;refine bt 4 (.inr (.inl ⟨rfl,rfl⟩)) acj aci cu.rfl rfl λva1 qa1 la1 ack acm agy=>?_
  intro _;refine df 32 rfl (by decide) acm ack cu.rfl rfl λz_ wa2 na2 Aa2 qa2 la2 alT alU agz alV=>?_
  refine⟨agz,λ_=>⟨agz,λ_=>?_⟩⟩;intro _;have hx:ab4 (dv.bB (ct false ll)).1:=⟨fI 32 _,agy,fI 32 _⟩;refine⟨by omega,λ_=>⟨by omega,λ_=>λw3=>?_⟩⟩;refine⟨z_,w3,(m:Int),_,((acc++[(dv.bB (ct false ll)).1]).length:Int),_,cb fe.dh (acc++[(dv.bB (ct false ll)).1]),bu fe.n (acc++[(dv.bB (ct false ll)).1]),cb fe.msg (acc++[(dv.bB (ct false ll)).1]),qa2,BO (by omega),rfl,rfl,rfl,rfl,λ_ _=>rfl,rfl,rfl,by simp,?_,?_,?_,⟨z_,w3,m,qa2,la2,_,rfl,alT,by simp;omega,?_,?_⟩,?_⟩
  .exact BN fe.dh 32 acc _ (λy hy=>(Xu y hy).dh) (fI 32 _) alQ
  .exact m_ fe.n acc _ (Bz agy)
  .exact BN fe.msg 32 acc _ (λy hy=>(Xu y hy).msg) (fI 32 _) alV
  .intro y hy;rcases ax_.1 hy with hy | hy
   .exact Xu y hy
   .rw [ax2.1 hy];exact hx
  .rw [alU,<-Xv,rY];rfl
  .simp only[ah];omega
 .rw [oz dv lS]at Xv;have YS:ct qq ll=(mS dv N O []).2:=by rw[<-Xv]
  have hg1:acc=(mS dv N O []).1:=by rw[<-Xv]
  intro _;refine df 32 rfl (by decide) YS hll cu.rfl rfl λvz0 wz0 nz0 Az0 qz0 lz0 alW alX agA alY=>?_
  refine⟨agA,λ_=>⟨agA,λ_=>?_⟩⟩;refine df 32 rfl (by decide) alX alW cu.rfl rfl λvz1 wz1 nz1 Az1 qz1 lz1 alZ al0 agB al1=>?_
  refine⟨agB,λ_=>⟨agB,λ_=>?_⟩⟩;intro _;refine bt 1 (.inl ⟨rfl,rfl⟩) al0 alZ cu.rfl rfl λvz2 qz2 lz2 al2 al3 asY=>?_
  have al4:=nJ al3;intro _;refine bt 4 (.inr (.inl ⟨rfl,rfl⟩)) al4 al2 cu.rfl rfl λvz3 qz3 lz3 al5 al6 al7=>?_
  intro _;refine bt 1 (.inl ⟨rfl,rfl⟩) al6 al5 cu.rfl rfl λvz4 qz4 lz4 al8 al9 asZ=>?_
  have al_:=nJ al9;refine bt 1 (.inl ⟨rfl,rfl⟩) al_ al8 cu.rfl rfl λvz5 qz5 lz5 ama amb as3=>?_
  have amc:=nJ amb;subst hg1 hN Xt;refine⟨rfl,vz5,w2,_,lz5,?_,amc,ama⟩;refine ab5 rfl rfl (OL (e:=(bS.bB (ct q l)).1) (v:=w2.v) wI Zp hA2 hA3 hA8 alN alY al1 (jZ _) (jZ _) (jZ _) (jZ _) (Bz hb9) (Bz alO) (Bz agw) (jZ _) (Bz al7) (jZ _) (jZ _)) rfl
open Go Go.RX Go.Proofs Go.Vs
def C9(o:tq):Prop:= ∀b,o=some b->hZ b
theorem C9.st{q:Bool}{l:List Nat}(h:hZ l):C9 (ct q l):=Xr h
theorem C9.bB{α:Type}(c:rP α){o:tq}(h:C9 o):C9 (c.bB o).2:=by
 intro b hb;cases o with
 | none=>rw[c.bad]at hb;cases hb
 | some l=>
  have e:=(c.bwd l _ b (h l rfl).b (Prod.ext rfl hb)).1;exact⟨Af (h l rfl).b e,Nat.le_trans (by rw[e,axP];omega) (h l rfl).n⟩
theorem C9.mS{α:Type}(c:rP α)(n:Nat){o:tq}(acc:List α)(h:C9 o):C9 (mS c n o acc).2:=by
 induction n generalizing o acc with
 | zero=>exact h
 | succ n ih=>
  cases o with
  | none=>exact h
  | some b=>exact ih _ (h.bB c)
theorem Xw{α:Type}(c:rP α)(P:α->Prop)(hc: ∀o,C9 o->P (c.bB o).1)(n:Nat){o:tq}(acc:List α)(h:C9 o)(ha: ∀y∈acc,P y): ∀y∈(Go.Vs.mS c n o acc).1,P y:=by
 induction n generalizing o acc with
 | zero=>exact ha
 | succ n ih=>
  cases o with
  | none=>exact ha
  | some b=>
   refine ih _ (h.bB c) λy hy=>?_
   rcases ax_.1 hy with hy | hy
   .exact ha y hy
   .rw [ax2.1 hy];exact hc _ h
theorem Xx{α:Type}(c:rP α)(n:Nat)(o:tq)(acc:List α):(Go.Vs.mS c n o acc).1.length<=acc.length+n:=by
 induction n generalizing o acc with
 | zero=>simp[Go.Vs.mS]
 | succ n ih=>
  cases o with
  | none=>simp[Go.Vs.mS]
  | some b=>
   have:=ih (c.bB (some b)).2 (acc++[(c.bB (some b)).1]);rw[axP,axR]at this;simp only[Go.Vs.mS];omega
theorem rl(k:Nat){o:tq}(h:C9 o):((num k).bB o).1<256^k:=by
 cases o with
 | none=>exact Nat.pow_pos (by decide)
 | some l=>exact S4 (q:=false) k (h l rfl)
theorem HO{α:Type}(c:rP α){o:tq}(h:C9 o):((Go.Vs.list c).bB o).1.length<256^4:=by
 have h1:=Xx c ((num 4).bB o).1 ((num 4).bB o).2 [];have h2:=rl 4 h;rw[aya]at h1;exact Nat.lt_of_le_of_lt h1 (by omega)
theorem wK{α:Type}(c:rP α)(P:α->Prop)(hc: ∀o,C9 o->P (c.bB o).1){o:tq}(h:C9 o): ∀y∈((Go.Vs.list c).bB o).1,P y:=
 Xw c P hc _ [] (h.bB (num 4)) (by simp)
theorem BP{o:tq}(h:C9 o):ab4 (dv.bB o).1:=⟨fI 32 _,rl 4 (h.bB (raw 32)),fI 32 _⟩
set_option maxHeartbeats 4000000 in
theorem DZ{o:tq}(h:C9 o):mO (bS.bB o).1:=by
 have h4:C9 _:=(((h.bB (raw 32)).bB (raw 32)).bB (raw 32)).bB (raw 32);have h8:C9 _:=(((h4.bB flag).bB flag).bB flag).bB flag;have h9:=h8.bB (raw 32);have h10:=h9.bB (num 4);have h11:=h10.bB (raw 32);have h12:=h11.bB (num 4);have Wx:=h12.bB (num 4);have h14:=Wx.bB (Go.Vs.list dv);have h17:=((h14.bB (raw 32)).bB (raw 32)).bB flag;exact⟨fI 32 _,fI 32 _,fI 32 _,fI 32 _,fI 32 _,rl 4 h9,fI 32 _,rl 4 h11,rl 4 h12,HO dv Wx,wK dv (λx=>x.dh.length=32) (λ_ h=>(BP h).dh) Wx,wK dv (λx=>x.n<256^4) (λ_ h=>(BP h).n) Wx,wK dv (λx=>x.msg.length=32) (λ_ h=>(BP h).msg) Wx,fI 32 _,fI 32 _,rl 4 h17⟩
theorem E0{o:tq}(h:C9 o):((num 1).bB o).1<256:=rl 1 h
theorem Kj{o:tq}(h:C9 o):kb (bI.bB o).1:=
 ⟨E0 h,E0 (h.bB (num 1)),HO bS ((h.bB (num 1)).bB (num 1)),wK bS mO (λ_ h=>DZ h) ((h.bB (num 1)).bB (num 1))⟩
theorem Kk(b b1:Nat)(v:V1)(q:Bool)(l:List Nat)(hl:hZ l):ao ax8 105 [wP b,wP b1] [dB b false v.v q,aN false v.v l,ak b1 true Rh]
  λr hs=>r= .tuple #[]/\∃(v':V1) (c:Int) (q':Bool) (l':List Nat),hs=[nI true (bg c) (bS.bB (ct q l)).1.s.aC,dB b false v'.v q',aN false v'.v l',ak b1 true (j_ (bS.bB (ct q l)).1 (bg c))]/\ct q' l'=(bS.bB (ct q l)).2/\hZ l':=by
 refine ao.post (ao.know (Q:=λr hs=>r= .tuple #[]/\∃(v':V1) (c:Int) (q':Bool) (l':List Nat),hs=[nI true (bg c) (bS.bB (ct q l)).1.s.aC,dB b false v'.v q',aN false v'.v l',ak b1 true (j_ (bS.bB (ct q l)).1 (bg c))]/\ct q' l'=(bS.bB (ct q l)).2/\hZ l') (ab6 b b1 v q l hl) ?_) λ_ _ h=>⟨_,bq.refl _,h.2⟩
 rintro r hs ⟨rfl,v',u,q',l',rfl,h1,h2⟩ w Fs ho;obtain⟨c,hc⟩:=GZ ho;rw[hc];exact⟨rfl,v',c,q',l',rfl,h1,h2⟩
theorem OM{b b5:Nat}{v:V1}{q:Bool}{l:List Nat}{A:Nat->Int}{n:Int}{o:tq}{H:HP}(hH:H.wr=true)(ho:ct q l=o)(hl:hZ l)(hA:cu A l)(hn:n=(l.length:Int))
  {R:V1->Int->Int->Int->Int->Int->Int->Int->Int->Int->Int->Int->Int->Int->(Nat->Int)->(Nat->Int)->(Nat->Int)->(Nat->Int)->(Nat->Int)->(Nat->Int)->(Nat->Int)->(Nat->Int)->(Nat->Int)->Bool->HP->Prop}
  (h: ∀(v':V1) (c:Int) (q':Bool) (l':List Nat) (H':HP),hZ l'->ct q' l'=(bS.bB o).2->mO (bS.bB o).1->H'.wr=true->ek H' H->cX H' (nI false (bg c) (bS.bB o).1.s.aC)->
   R v' (bi (bS.bB o).1.s.gi) (bi (bS.bB o).1.s.gj) (bi (bS.bB o).1.s.gk) (bi (bS.bB o).1.s.cS) ((bS.bB o).1.s.send.n:Int) ((bS.bB o).1.s.recv.n:Int) ((bS.bB o).1.s.prev:Int) c (bi (bS.bB o).1.cZ) ((bS.bB o).1.dH:Int) (bi (bS.bB o).1.own) (bi (bS.bB o).1.current) (l'.length:Int)
    (aJ l') (aJ (bS.bB o).1.s.root) (aJ (bS.bB o).1.s.bind) (aJ (bS.bB o).1.s.own) (aJ (bS.bB o).1.s.cJ) (aJ (bS.bB o).1.s.send.key) (aJ (bS.bB o).1.s.recv.key) (aJ (bS.bB o).1.ident) (aJ (bS.bB o).1.qG) q' H'):
  ∃post,ao ax8 105 [.pointer (some ⟨b,0,none⟩),.pointer (some ⟨b5,0,none⟩)] [ak b true ([.bool false,v.v,.bool q]),aA false 5 1 v.v (ag n) (aG (ag n) [ax .u8 1 A]),ak b5 true Rh,H] post/\
   ∀x hs,post x hs->∃v7:V1,∃bA:Int,∃bH:Int,∃bR:Int,∃bN:Int,∃dP:Int,∃b_:Int,∃dD:Int,∃cq:Int,∃dt:Int,∃cO:Int,∃d_:Int,∃gN:Int,∃eT:Int,∃kH:(Nat->Int),∃mT:(Nat->Int),∃mQ:(Nat->Int),∃oS:(Nat->Int),∃qH:(Nat->Int),∃pK:(Nat->Int),∃qI:(Nat->Int),∃rO:(Nat->Int),∃sH:(Nat->Int),∃q5:Bool,∃p2:HP,x= .tuple #[]/\
    hs=[ak b true ([.bool false,v7.v,.bool q5]),aA false 5 1 v7.v (ag eT) (aG (ag eT) [ax .u8 1 kH]),ak b5 true (axQ (aj .u8 32 mT) (axQ (aj .u8 32 mQ) (axQ (aj .u8 32 oS) (axQ (aj .u8 32 qH) (.bool (!(bA==0))::(.bool (!(bH==0))::(.bool (!(bR==0))::(.bool (!(bN==0))::(axQ (aj .u8 32 pK) (.int .u32 dP::(axQ (aj .u8 32 qI) (.int .u32 b_::(.int .u32 dD::((bg cq)::(axQ (aj .u8 32 rO) (axQ (aj .u8 32 sH) ([.bool (!(dt==0)),.int .u32 cO,.bool (!(d_==0)),.bool (!(gN==0))]))))))))))))))))),p2]/\
    R v7 bA bH bR bN dP b_ dD cq dt cO d_ gN eT kH mT mQ oS qH pK qI rO sH q5 p2:=by
 subst hn ho;rw[ax3,hA.wj];refine⟨λr hs=>r= .tuple #[]/\∃(v':V1) (c:Int) (q':Bool) (l':List Nat) (H':HP),hs=[dB b false v'.v q',aN false v'.v l',ak b5 true (j_ (bS.bB (ct q l)).1 (bg c)),H']/\ct q' l'=(bS.bB (ct q l)).2/\hZ l'/\H'.wr=true/\ek H' H/\cX H' (nI false (bg c) (bS.bB (ct q l)).1.s.aC),?_,?_⟩
 .refine(ao.frame (Kk b b5 v q l hl) [H]).post ?_;rintro r hs ⟨lU,rfl,rfl,v',c,q',l',rfl,h1,h2⟩;refine⟨_,?_,rfl,v',c,q',l',HP.two H (nI true (bg c) (bS.bB (ct q l)).1.s.aC),rfl,h1,h2,rfl,ek.one,cX.other⟩;refine bq.trans (bq.perm (List.perm_append_comm (l₁:=[nI true (bg c) (bS.bB (ct q l)).1.s.aC]) (l₂:=[dB b false v'.v q',aN false v'.v l',ak b5 true (j_ (bS.bB (ct q l)).1 (bg c)),H]))) ?_;exact bq.front (A:=[dB b false v'.v q',aN false v'.v l',ak b5 true (j_ (bS.bB (ct q l)).1 (bg c))]) (bq.two hH rfl)
 .rintro x hs ⟨rfl,v',c,q',l',H',rfl,h1,h2,h3,h4,h5⟩;exact⟨v',_,_,_,_,_,_,_,c,_,_,_,_,_,_,_,_,_,_,_,_,_,_,q',H',rfl,rfl,h v' c q' l' H' h2 h1 (DZ (.st hl)) h3 h4 h5⟩
end Go.RX.Vb

namespace Go.Vs
def rm(s:Nat×Nat×Bool)(e:bX):Option (Nat×Nat×Bool):=
 if 64<e.s.aC.length\/(e.current=true/\s.2.2=true)\/(e.own=false/\0<s.1)then none
 else some (if e.own then s.1+1 else s.1,if e.own then s.2.1 else s.2.1+1,s.2.2||e.current)
def S6(l:List bX):Option (Nat×Nat×Bool):=l.foldlM rm (0,0,false)
def HQ(p:eu):Bool:=
 match S6 p.l with
 | some (nb,na,c)=>c&&decide (max nb na<=4)
 | none=>false
def place(d:js):Nat:=d.a*256+d.d
def nK(kd:js)(last:Int)(p:eu):Option Int:=
 if HQ p=false\/(place p.dev:Int)<=last\/p.dev=kd then none else some (place p.dev:Int)
def Kl(kd:js)(l:List eu):Option Int:=l.foldlM (nK kd) (-1)
def wL(kd:js)(l:List eu)(most:Int):Bool:=(Kl kd l).isSome&&decide ((l.length:Int)<=max most 0)
theorem lx{α β:Type}(f:β->α->Option β)(l:List α)(a:α)(s:β):(l++[a]).foldlM f s=(l.foldlM f s).bind λs'=>f s' a:=by
 rw[List.foldlM_append];cases l.foldlM f s with
 | none=>rfl
 | some s'=>simp
theorem sO{α β:Type}(f:β->α->Option β)(l:List α)(i:Nat)(s:β)(h:(l.take i).foldlM f s=none):l.foldlM f s=none:=by
 have e:l.foldlM f s=(l.take i++l.drop i).foldlM f s:=by rw[List.take_append_drop]
 rw[e,List.foldlM_append,h];rfl
theorem du{α:Type}(l:List α)(i:Nat)(h:i<l.length):l.take (i+1)=l.take i++[l[i]]:=by
 rw[List.take_add_one,ays h];rfl
structure Rec where
 id:List Nat
 peer:Nat
 out:Bool
 outcome:Nat
 eD:Nat
 bP:Nat
 ended:Nat
def wM(m:List Nat):Rec:=⟨m.take 16,m.getD 16 0,m.getD 17 0==1,m.getD 18 0,jC ((m.drop 19).take 8),jC ((m.drop 27).take 8),jC ((m.drop 35).take 8)⟩
def yb(r:Rec):Prop:=r.peer<8/\1<=r.outcome/\r.outcome<=7/\r.eD<=r.ended/\(r.bP=0\/(r.eD<=r.bP/\r.bP<=r.ended))
instance (r:Rec):Decidable (yb r):=by unfold yb;infer_instance
def nL(m:List Nat):Option Rec:=if m.length=43/\m.getD 17 0<=1/\yb (wM m)then some (wM m)else none
def pc:Nat->List Nat->List Rec->Option (List Rec)
 | 0,b,acc=>if b=[]then some acc else none
 | n+1,b,acc=>
  if b=[]then some acc else
  match nL (b.take 43)with
  | some r=>if r.id∈acc.map (·.id)then none else pc n (b.drop 43) (acc++[r])
  | none=>none
def y8(b:List Nat):Bool:=decide (b.length<=176128)&&(pc b.length b []).isSome
def sP(aM:Nat)(marks:List Nat)(cP:Int):Bool:=
 decide (aM<8)&&decide (1<=marks.length)&&decide (marks.length<=4)&&decide (-1<=cP)&&decide (cP<(marks.length:Int))&&marks.all λm=>decide (1<=m)&&decide (m<=4)
def yd(c:Call)(cP:Int):Bool:=
 decide (c.dead.length<=256)&&decide (c.state<=4)&&(!(c.state==1)||(sP c.aM c.marks cP&&decide (c.early.length<=4)))
def ug:List Nat->List Nat->Bool
 | [],[]=>false
 | [],_::_=>true
 | _::_,[]=>false
 | a::r,b::s=>if a<b then true else if b<a then false else ug r s
def mR(last:Option (List Nat))(x:Room):Option (Option (List Nat)):=
 if(∃l,last=some l/\ug l x.id=false)\/8<=x.aM then none else some (some x.id)
def rq(l:List Room):Bool:=decide (l.length<=8)&&(l.foldlM mR none).isSome
def wN(s:State)(most cP:Int):Bool:=
 wL s.table.keys.dev s.table.aD most&&yd s.call cP&&y8 s.log&&decide (s.call.me=s.table.keys.dev)&&rq s.aF
end Go.Vs

namespace Go.RX.Vb
open Go Go.RX Go.Proofs Go.Vs
theorem S7{x1 x2 x3 x4 x5 x6 x7 c:Int}{A0 A1 A2 A3 A4 A5:Nat->Int}{H:HP}(sk:List fe)(hH:H.wr=false)(hg:cX H (nI false (bg c) sk)){R:Int->Int->Prop}(h1:64<sk.length->R 0 2)(h2:sk.length<=64->∀b:Nat,R ((b:Nat)+1) 0):
  ∃post,ao ax8 113 [.agg (axQ (aj .u8 32 A0) (axQ (aj .u8 32 A1) (axQ (aj .u8 32 A2) (axQ (aj .u8 32 A3) (.bool (!(x1==0))::(.bool (!(x2==0))::(.bool (!(x3==0))::(.bool (!(x4==0))::(axQ (aj .u8 32 A4) (.int .u32 x5::(axQ (aj .u8 32 A5) ([.int .u32 x6,.int .u32 x7,bg c])))))))))))).toArray] [H] post/\
   ∀x hs,post x hs->∃y1:Int,∃y2:Int,x= .tuple #[(dr y1),.int .i64 y2]/\hs=[H]/\R y1 y2:=by
 refine⟨λr hs=>hs=[H]/\((64<sk.length/\r= .tuple #[.pointer none,.int .i64 2])\/(sk.length<=64/\∃b:Nat,r= .tuple #[.pointer (some ⟨b,0,none⟩),.int .i64 0])),?_,?_⟩
 .have hm:=abX (λr hs=>hs=[]/\((64<sk.length/\r= .tuple #[.pointer none,.int .i64 2])\/(sk.length<=64/\∃b:Nat,r= .tuple #[.pointer (some ⟨b,0,none⟩),.int .i64 0]))) (sk.length:Int) x1 x2 x3 x4 x5 x6 x7 A0 A1 A2 A3 A4 A5 (aJ (sk.flatMap fe.dh)) (bu fe.n sk) (aJ (sk.flatMap fe.msg)) ⟨bg c,iU c⟩ (by
   unfold SW;intro b0;refine⟨by omega,λ_=>⟨λh=>⟨rfl,.inl ⟨by omega,rfl⟩⟩,λh=>⟨λ_=>λb1=>⟨rfl,.inr ⟨by omega,b1,rfl⟩⟩,λ_=>λv1=>⟨by omega,λ_=>λv2=>λb1=>⟨rfl,.inr ⟨by omega,b1,rfl⟩⟩⟩⟩⟩⟩)
  refine(ao.pre (ao.frame hm [H]) (cX.SF hH hg)).post ?_;rintro r hs ⟨lU,rfl,rfl,h⟩;exact⟨_,bq.refl _,rfl,h⟩
 .rintro x hs ⟨rfl,⟨h,rfl⟩ | ⟨h,b,rfl⟩⟩
  .exact⟨0,2,rfl,rfl,h1 h⟩
  .exact⟨(b:Nat)+1,0,by rw[fq],rfl,h2 h b⟩
theorem uX(s:Nat×Nat×Bool)(e:bX):rm s e=if 64<e.s.aC.length\/(e.current=true/\s.2.2=true)\/(e.own=false/\0<s.1)then none else some (if e.own then s.1+1 else s.1,if e.own then s.2.1 else s.2.1+1,s.2.2||e.current):=rfl
theorem BQ(c:Bool):(bi c≠0)↔c=true:=by cases c<;>simp[bi]
set_option maxHeartbeats 1000000 in
theorem ON(p:eu)(v:V1)(C:Nat->Int)(H:HP)(hH:H.wr=false)(hS:wG H p.l C)(hl:p.l.length<256^4):
  ao ax8 67 [.agg #[.int .u8 (p.dev.a:Int),.int .u8 (p.dev.d:Int),v.v]] [ez false v.v p.l C,H] λr hs=>hs=[]/\∃a:Int,r= .tuple #[dr a,.bool (HQ p)]:=by
 refine abZ _ (p.dev.a:Int) (p.dev.d:Int) (p.l.length:Int) (cb (·.s.root) p.l) (cb (·.s.bind) p.l) (cb (·.s.own) p.l) (cb (·.s.cJ) p.l) (dK (·.s.gi) p.l) (dK (·.s.gj) p.l) (dK (·.s.gk) p.l) (dK (·.s.cS) p.l) (cb (·.s.send.key) p.l) (bu (·.s.send.n) p.l) (cb (·.s.recv.key) p.l) (bu (·.s.recv.n) p.l) (bu (·.s.prev) p.l) C (cb (·.ident) p.l) (cb (·.qG) p.l) (dK (·.cZ) p.l) (bu (·.dH) p.l) (dK (·.own) p.l) (dK (·.current) p.l) v H ?_;unfold SY;intro b0 b1;refine⟨by omega,λ_=>?_⟩;refine⟨λx=> ∃(i nb na:Nat) (c:Bool) (v3 v4:V1) (x4:Int) (A B:Nat->Int),x=⟨[],[v3,v4],[(i:Int),x4,(nb:Int),(na:Int)],[A,B],[],[],[]⟩/\i<=p.l.length/\(p.l.take i).foldlM rm (0,0,false)=some (nb,na,c)/\nb+na=i/\(c=true↔x4≠0),λx=>p.l.length - (x.i.getD 0 0).toNat,?_,?_⟩
 .exact⟨⟨.slice none 0 0,rfl⟩,⟨.slice none 0 0,rfl⟩,_,_,_,_,λ_=>0,λ_=>0,rfl,rfl,rfl,rfl,rfl,rfl,λ_ _=>rfl,rfl,rfl,λ_ _=>rfl,0,0,0,false,_,_,0,_,_,rfl,by omega,rfl,rfl,by simp⟩
 rintro v3 v4 x3 x4 x5 x6 A B ⟨i,nb,na,c,v3,v4,x4,A,B,hx,hi,hr,hn,hc⟩;simp only[Ext.mk.injEq,List.cons.injEq,and_true,true_and]at hx;obtain⟨⟨rfl,rfl⟩,⟨rfl,rfl,rfl,rfl⟩,rfl,rfl⟩:=hx;have S8: ∀e,rm (nb,na,c) e=none->p.l[i]? =some e->HQ p=false:=by
  intro e he hg;obtain⟨cj,lS⟩:=axT.1 hg;have:(p.l.take (i+1)).foldlM rm (0,0,false)=none:=by
   rw[du _ _ cj,lx,hr,lS];exact he
  have:=sO _ _ _ _ this;unfold HQ S6;rw[this]
 refine⟨λcC=>?_,λlS=>?_⟩
 .have cj:i<p.l.length:=by omega
  have hgi:p.l[i]? =some p.l[i]:=ays cj;refine⟨by omega,λ_=>λb2=>?_⟩;simp only[ax3];rw[gW (·.own) p.l i cj,gW (·.current) p.l i cj];have S9: ∀(hh: ¬(64<p.l[i].s.aC.length\/(p.l[i].current=true/\c=true)\/(p.l[i].own=false/\0<nb))),(p.l.take (i+1)).foldlM rm (0,0,false)=some (if p.l[i].own then nb+1 else nb,if p.l[i].own then na else na+1,c||p.l[i].current):=by
   intro hh;rw[du _ _ cj,lx,hr];show rm (nb,na,c) p.l[i]=_;rw[uX,if_neg hh]
  refine S7 p.l[i].s.aC hH (hS i cj) ?_ ?_
  .intro Wj;refine⟨by omega,λ_=>⟨λ_=>⟨trivial,0,?_⟩,λh=>absurd (.inl (.inl (by decide))) h⟩⟩;rw[S8 _ (by rw[uX,if_pos (.inl Wj)]) hgi];rfl
  .intro Wj b;refine⟨by omega,λ_=>⟨λhb=>⟨trivial,0,?_⟩,λhb=>?_⟩⟩
   .rw [S8 _ ?_ hgi]
    .rfl
    .rw [uX,if_pos];rcases hb with(h | ⟨h1,h2⟩) | ⟨h1,h2⟩
     .exact absurd rfl h
     .exact .inr (.inl ⟨(BQ _).1 h1,hc.2 h2⟩)
     .refine .inr (.inr ⟨?_,by simpa using h2⟩);rw[BQ]at h1;simpa using h1
   .have FY: ¬(64<p.l[i].s.aC.length\/(p.l[i].current=true/\c=true)\/(p.l[i].own=false/\0<nb)):=by
     rintro (h | ⟨h1,h2⟩ | ⟨h1,h2⟩)
     .omega
     .exact hb (.inl (.inr ⟨(BQ _).2 h1,hc.1 h2⟩))
     .refine hb (.inr ⟨?_,by omega⟩);rw[BQ,h1];decide
    have hs:=S9 FY;intro b3;refine⟨λQI=>⟨λeX=>?_,λeX=>?_⟩,λQI=>⟨λeX=>?_,λeX=>?_⟩⟩
    all_goals rw[BQ]at eX QI
    all_goals simp only[eX,QI,if_true,Bool.or_true,Bool.or_false,Bool.false_eq_true,if_false]at hs
    all_goals refine λb4=>⟨by omega,λ_=>⟨by omega,λ_=>λv5=>⟨by omega,λ_=>⟨by omega,λ_=>?_⟩⟩⟩⟩
    .exact⟨v5,v4,((i+1:Nat):Int),_,((nb+1:Nat):Int),(na:Int),_,B,by simp,rfl,rfl,rfl,rfl,by simp,λ_ _=>rfl,rfl,rfl,λ_ _=>rfl,⟨i+1,nb+1,na,true,v5,v4,_,_,B,rfl,by omega,hs,by omega,by simp;omega⟩,by simp;omega⟩
    .exact⟨v3,v5,((i+1:Nat):Int),_,(nb:Int),((na+1:Nat):Int),A,_,by simp,rfl,rfl,rfl,rfl,rfl,λ_ _=>rfl,rfl,by simp,λ_ _=>rfl,⟨i+1,nb,na+1,true,v3,v5,_,A,_,rfl,by omega,hs,by omega,by simp;omega⟩,by simp;omega⟩
    .exact⟨v5,v4,((i+1:Nat):Int),_,((nb+1:Nat):Int),(na:Int),_,B,by simp,rfl,rfl,rfl,rfl,by simp,λ_ _=>rfl,rfl,rfl,λ_ _=>rfl,⟨i+1,nb+1,na,c,v5,v4,_,_,B,rfl,by omega,hs,by omega,hc⟩,by simp;omega⟩
    .exact⟨v3,v5,((i+1:Nat):Int),_,(nb:Int),((na+1:Nat):Int),A,_,by simp,rfl,rfl,rfl,rfl,rfl,λ_ _=>rfl,rfl,by simp,λ_ _=>rfl,⟨i+1,nb,na+1,c,v3,v5,_,A,_,rfl,by omega,hs,by omega,hc⟩,by simp;omega⟩
 .have cj:i=p.l.length:=by omega
  subst cj;rw[List.take_length]at hr;refine⟨.inr (by omega),λ_=>⟨.inr (by omega),λ_=>⟨rfl,(b1:Nat)+1,?_⟩⟩⟩;have Jj:HQ p=(c&&decide (max nb na<=4)):=by unfold HQ S6;rw[hr]
  rw[Jj,fq];have e1:(!(x4==0))=c:=by
   by_cases h0:x4=0
   .subst h0;cases c<;>simp_all
   .have:=hc.2 h0;rw[this];simp[h0]
  have e2:decide (ar .imax .i64 (nb:Int) (na:Int)<=4)=decide (max nb na<=4):=by
   have:ar .imax .i64 (nb:Int) (na:Int)=if(nb:Int)<na then(na:Int)else nb:=rfl
   rw[this];congr 1;split<;>(apply propext;omega)
  rw[e1,e2]
open Go Go.RX Go.Proofs Go.Vs
theorem S_{c:Int}{xa xd:Int}{H:HP}(p:eu)(hH:H.wr=false)(hb: ∃D:Nat->Int,cX H (ez false (bg c) p.l D)/\wG H p.l D)(hl:p.l.length<256^4)(ha:xa=(p.dev.a:Int))(hd:xd=(p.dev.d:Int)){R:Int->Bool->Prop}(h: ∀a:Int,R a (HQ p)):
  ∃post,ao ax8 67 [.agg #[.int .u8 xa,.int .u8 xd,bg c]] [H] post/\∀x hs,post x hs->∃y1:Int,∃q:Bool,x= .tuple #[(dr y1),.bool q]/\hs=[H]/\R y1 q:=by
 subst ha hd;obtain⟨D,hD,hS⟩:=hb;refine⟨λr hs=>hs=[H]/\∃a:Int,r= .tuple #[dr a,.bool (HQ p)],?_,?_⟩
 .have hm:=ao.frame (ON p ⟨bg c,iU c⟩ D H hH hS hl) [H];refine(ao.pre hm ?_).post ?_
  .exact bq.trans (cX.SF hH hD) (bq.front (A:=[ez false (bg c) p.l D]) (bq.dup hH []))
  .rintro r hs ⟨lU,rfl,rfl,a,rfl⟩;exact⟨_,bq.refl _,rfl,a,rfl⟩
 .rintro x hs ⟨rfl,a,rfl⟩;exact⟨a,_,rfl,rfl,h a⟩
theorem Ta{v:V1}{n:Int}{A0 A1:Nat->Int}{R:V1->Prop}(h0:0<=n)(h1:n<=256^4)(h: ∀o:V1,R o):
  ∃post,ao ax8 81 [v.v] [aA false 93 33 v.v (ag n) (aG (ag n) [ax .u32 1 A0,ax .u8 32 A1])] post/\
   ∀x hs,post x hs->∃v2:V1,x=v2.v/\hs=[aA false 93 33 v.v (ag n) (aG (ag n) [ax .u32 1 A0,ax .u8 32 A1])]/\R v2:=by
 refine⟨λr hs=> ∃o:V1,r=o.v/\hs=[aA false 93 33 v.v (ag n) (aG (ag n) [ax .u32 1 A0,ax .u8 32 A1])],?_,?_⟩
 .refine abY _ n A0 A1 v ?_;unfold SX;exact⟨λ_=>⟨⟨.slice none 0 0,rfl⟩,rfl,rfl⟩,λ_=>λv1=>⟨h0,λ_=>⟨h0,λ_=>⟨by omega,λ_=>λv2=>⟨v2,rfl,rfl⟩⟩⟩⟩⟩
 .rintro x hs ⟨o,rfl,rfl⟩;exact⟨o,rfl,rfl,h o⟩
theorem Tb{n:Nat}(h:n<9223372036854775808):ae .i64 (n:Int)=(n:Int):=by
 have e:ae .i64 (n:Int)=if(true&&decide ((n:Int)%18446744073709551616>=9223372036854775808))=true then(n:Int)%18446744073709551616 - 18446744073709551616 else(n:Int)%18446744073709551616:=rfl
 have hm:(n:Int)%18446744073709551616=n:=by omega
 rw[e,hm,if_neg];simp;omega
theorem agC{a d:Nat}(ha:a<256)(hd:d<256):ar .cU .i64 (ar .shl .i64 (a:Int) 8) (d:Int)=((a*256+d:Nat):Int):=by
 have e1:ar .shl .i64 (a:Int) 8=ae .i64 ((a:Int)*((256:Nat):Int)):=by
  show ae .i64 ((a:Int)*2^(min 8 64))=_;rfl
 rw[e1,<-Int.natCast_mul,Tb (by omega)];show ae .i64 ((BitVec.ofInt 64 ((a*256:Nat):Int)|||BitVec.ofInt 64 (d:Int)).toNat:Int)=_;have h3:a*256+d<9223372036854775808:=by omega
 have h1:a*256<2^64:=Nat.lt_trans (Nat.lt_of_le_of_lt (Nat.le_add_right _ d) h3) (by decide);have h2:d<2^64:=Nat.lt_trans hd (by decide);rw[BitVec.toNat_or,ofI,ofI,Nat.mod_eq_of_lt h1,Nat.mod_eq_of_lt h2,afH hd];exact Tb h3
theorem agD(x y:Int):(List.range 2).map (au (au (λ_=>0) 0 x) 1 y)=[x,y]:=rfl
set_option maxHeartbeats 1000000 in
theorem OO(kd:js)(ident signed:Nat->Int)(most:Int)(v0 v1:V1)(on:List dj)(ps:List eu)(C:Nat->Int)(H:HP)(hH:H.wr=false)(hP:lK H ps C)(hon:on.length<256^4)(N4:ps.length<256^4)(Jj: ∀p∈ps,kb p):
  ao ax8 34 [.agg (.int .u8 (kd.a:Int)::(.int .u8 (kd.d:Int)::(axQ (aj .u8 32 ident) (axQ (aj .u8 32 signed) ([v0.v,.int .i64 most,v1.v]))))).toArray] [C8 false v0.v on,sL false v1.v ps C,H]
   λr hs=>hs=[]/\∃a:Int,r= .tuple #[dr a,.int .i64 (if wL kd ps most then 0 else 2)]:=by
 refine ab0 _ (kd.a:Int) (kd.d:Int) most (on.length:Int) (ps.length:Int) ident signed (bu dj.id on) (cb dj.cT on) (bu (·.dev.a) ps) (bu (·.dev.d) ps) C v0 v1 H ?_;unfold SZ;intro b0 b1;refine Ta (by omega) (by omega) λv2=>?_
 intro b2 b3;refine⟨by omega,λ_=>?_⟩;refine⟨λx=> ∃(i:Nat) (last:Int) (A B:Nat->Int),x=⟨[],[],[(i:Int),last],[A,B],[],[],[]⟩/\i<=ps.length/\(ps.take i).foldlM (nK kd) (-1)=some last/\A 0=(i:Int)/\∀a d:Nat,a<256->d<256->A (aT [(a:Int),(d:Int)])≠0->((a*256+d:Nat):Int)<=last,λx=>ps.length - (x.i.getD 0 0).toNat,?_,?_⟩
 .exact⟨_,_,_,_,rfl,rfl,rfl,rfl,0, -1,_,_,rfl,by omega,rfl,rfl,λa d _ _ h=>absurd rfl h⟩
 rintro x5 last A B ⟨i,last,A,B,hx,hi,hr,wI,hAk⟩;simp only[Ext.mk.injEq,List.cons.injEq,and_true,true_and]at hx;obtain⟨⟨rfl,rfl⟩,rfl,rfl⟩:=hx;refine⟨λcC=>?_,λlS=>?_⟩
 .have cj:i<ps.length:=by omega
  have hp:=Jj _ (List.getElem_mem cj);have S8:nK kd last ps[i]=none->wL kd ps most=false:=by
   intro he;have:(ps.take (i+1)).foldlM (nK kd) (-1)=none:=by
    rw[du _ _ cj,lx,hr];exact he
   have:=sO _ _ _ _ this;unfold wL Kl;rw[this];rfl
  refine⟨by omega,λ_=>λb4=>?_⟩;simp only[ax3];rw[ej (·.dev.a) ps i cj,ej (·.dev.d) ps i cj];refine S_ ps[i] hH (hP i cj) hp.many rfl rfl λy=>?_
  have h1:=hp.a;have h2:=hp.d;refine⟨λiW=>?_,λFY=>⟨trivial,0,?_⟩⟩
  .intro b5
   iterate 4 refine⟨by omega,λ_=>?_⟩
   rw[agC h1 h2,agD];refine⟨λhb=>⟨trivial,0,?_⟩,λhb=>?_⟩
   .rw [S8]
    .rfl
    .unfold nK;rw[if_pos];rcases hb with hb | ⟨CJ,FX⟩
     .exact .inr (.inl hb)
     .refine .inr (.inr ?_);have e1:ps[i].dev.a=kd.a:=by omega
      have e2:ps[i].dev.d=kd.d:=by omega
      cases hdv:ps[i].dev;cases kd;rw[hdv]at e1 e2;simp only at e1 e2;rw[e1,e2]
   .have CJ: ¬(((ps[i].dev.a*256+ps[i].dev.d:Nat):Int)<=last):=λh=>hb (.inl h)
    have FX: ¬ps[i].dev=kd:=by
     intro h;refine hb (.inr ⟨?_,?_⟩)<;>rw[h]
    have hs:(ps.take (i+1)).foldlM (nK kd) (-1)=some (place ps[i].dev:Int):=by
     rw[du _ _ cj,lx,hr];show nK kd last ps[i]=_;unfold nK;rw[if_neg];rintro (h | h | h)
     .rw [iW]at h;cases h
     .exact CJ h
     .exact FX h
    have Jb:A (aT [(ps[i].dev.a:Int),(ps[i].dev.d:Int)])=0:=by
     refine Decidable.byContradiction λh=>CJ (hAk _ _ h1 h2 h)
    have hkp:aT [(ps[i].dev.a:Int),(ps[i].dev.d:Int)]≠0:=Nat.ne_of_gt (mi (by simp));intro b6;refine⟨by simpa using Jb,λ_=>⟨by omega,λ_=>⟨by omega,λ_=>⟨by omega,λ_=>?_⟩⟩⟩⟩;refine⟨((i+1:Nat):Int),_,_,_,by simp,rfl,rfl,rfl,⟨i+1,(place ps[i].dev:Int),_,_,rfl,by omega,hs,?_,?_⟩,by simp;omega⟩
    .simp only[au];rw[if_neg (λe=>hkp e.symm),if_pos trivial,wI];simp
    .intro a d ha hd fL;simp only[au]at fL;by_cases he:aT [(a:Int),(d:Int)]=aT [(ps[i].dev.a:Int),(ps[i].dev.d:Int)]
     .have:=qs (by rfl) he;simp only[List.cons.injEq,and_true]at this;unfold place;omega
     .rw [if_neg he,if_neg (Nat.ne_of_gt (mi (by simp)))]at fL;have:=hAk a d ha hd fL;unfold place;omega
  .rw [S8]
   .rfl
   .unfold nK;rw[if_pos (.inl (by simpa using FY))]
 .have cj:i=ps.length:=by omega
  subst cj;rw[List.take_length]at hr;have hto:wL kd ps most=decide ((ps.length:Int)<=max most 0):=by
   unfold wL Kl;rw[hr];rfl
  have em:ar .imax .i64 most 0=max most 0:=by
   have:ar .imax .i64 most 0=if most<0 then 0 else most:=rfl
   rw[this];split<;>omega
  rw[em,hto,wI];refine⟨λh=>⟨rfl,0,?_⟩,λh=>⟨rfl,(b3:Nat)+1,?_⟩⟩
  .rw [decide_eq_false (by omega)];rfl
  .rw [decide_eq_true (by omega),fq];rfl
open Go Go.RX Go.Proofs Go.Vs
abbrev Tc(r:Rec):List Value:=axQ (aj .u8 16 (aJ r.id)) ([.int .u8 (r.peer:Int),.bool (!(bi r.out==0)),.int .u8 (r.outcome:Int),.int .u64 (r.eD:Int),.int .u64 (r.bP:Int),.int .u64 (r.ended:Int)])
theorem Km(c0 c1 c2 c3 c4 c5 c6 c7:Nat):jC [c0,c1,c2,c3,c4,c5,c6,c7]=((((((c0*256+c1)*256+c2)*256+c3)*256+c4)*256+c5)*256+c6)*256+c7:=by
 simp[jC]
theorem Kn{m:List Nat}(hm:hZ m){k0 k1 k2 k3 k4 k5 k6 k7:Nat}(h:k0+8<=m.length)(e1:k1=k0+1)(e2:k2=k0+2)(e3:k3=k0+3)(e4:k4=k0+4)(e5:k5=k0+5)(e6:k6=k0+6)(e7:k7=k0+7):
  ar .cU .u64 (ar .shl .u64 (ar .cU .u64 (ar .shl .u64 (ar .cU .u64 (ar .shl .u64 (ar .cU .u64 (ar .shl .u64 (ar .cU .u64 (ar .shl .u64 (ar .cU .u64 (ar .shl .u64 (ar .cU .u64 (ar .shl .u64 (ar .cU .u64 0 (ae .u64 (aJ m k0))) 8) (ae .u64 (aJ m k1))) 8) (ae .u64 (aJ m k2))) 8) (ae .u64 (aJ m k3))) 8) (ae .u64 (aJ m k4))) 8) (ae .u64 (aJ m k5))) 8) (ae .u64 (aJ m k6))) 8) (ae .u64 (aJ m k7))=(jC ((m.drop k0).take 8):Nat):=by
 subst e1 e2 e3 e4 e5 e6 e7;have hc: ∀j,j<m.length->m.getD j 0<256:=by
  intro j hj;rw[ayk,ays hj];exact hm.b _ (List.getElem_mem hj)
 have hd:(m.drop k0).take 8=[m.getD k0 0,m.getD (k0+1) 0,m.getD (k0+2) 0,m.getD (k0+3) 0,m.getD (k0+4) 0,m.getD (k0+5) 0,m.getD (k0+6) 0,m.getD (k0+7) 0]:=by
  refine List.ext_getElem? λj=>?_
  by_cases hj:j<8
  .rw [List.getElem?_take_of_lt hj,List.getElem?_drop,ays (by omega)];have hg: ∀i,i<m.length->m.getD i 0=m[i]?.getD 0:=λi _=>ayk ..
   match j,hj with
   | 0,_ | 1,_ | 2,_ | 3,_ | 4,_ | 5,_ | 6,_ | 7,_=>simp only[List.getElem?_cons_zero,List.getElem?_cons_succ,Nat.add_zero];rw[ayk,ays (by omega)];rfl
  .rw [List.getElem?_eq_none (by simp;omega),List.getElem?_eq_none (by simp;omega)]
 rw[hd,Km];unfold aJ;have g0:=hc k0 (by omega);have g1:=hc (k0+1) (by omega);have g2:=hc (k0+2) (by omega);have g3:=hc (k0+3) (by omega);have g4:=hc (k0+4) (by omega);have g5:=hc (k0+5) (by omega);have g6:=hc (k0+6) (by omega);have g7:=hc (k0+7) (by omega);generalize m.getD k0 0=c0 at*;generalize m.getD (k0+1) 0=c1 at*;generalize m.getD (k0+2) 0=c2 at*;generalize m.getD (k0+3) 0=c3 at*;generalize m.getD (k0+4) 0=c4 at*;generalize m.getD (k0+5) 0=c5 at*;generalize m.getD (k0+6) 0=c6 at*;generalize m.getD (k0+7) 0=c7 at*;rw[Ho g0,mb (by omega) g1,mb (by omega) g2,mb (by omega) g3,mb (by omega) g4,mb (by omega) g5,mb (by omega) g6,mb (by omega) g7]
abbrev agE:List Value:=axQ (aj .u8 16 (λ_=>0)) ([.int .u8 0,.bool false,.int .u8 0,.int .u64 0,.int .u64 0,.int .u64 0])
def Td(m:List Nat)(r:Value):Prop:=(∃x,nL m=some x/\r= .tuple #[.agg (Tc x).toArray,.int .i64 0])\/(nL m=none/\r= .tuple #[.agg agE.toArray,.int .i64 9])
theorem Te{m:List Nat}(hm:hZ m){k:Nat}(h:k<m.length):ar .cU .u64 0 (ae .u64 (aJ m k))=((m.getD k 0:Nat):Int):=by
 refine Ho ?_;rw[ayk,ays h];exact hm.b _ (List.getElem_mem h)
theorem Tf{m:List Nat}(hm:hZ m){k:Nat}(h:k<m.length):m.getD k 0<256:=by
 rw[ayk,ays h];exact hm.b _ (List.getElem_mem h)
set_option maxRecDepth 10000 in
theorem OP(v:V1)(m:List Nat)(hm:hZ m):ao ax8 75 [v.v] [aN false v.v m] λr hs=>hs=[aN false v.v m]/\Td m r:=by
 have hn:=hm.n;have bad: ∀(h: ¬(m.length=43/\m.getD 17 0<=1/\yb (wM m))),[aN false v.v m]=[aN false v.v m]/\Td m (.tuple #[.agg agE.toArray,.int .i64 9]):=λh=>⟨rfl,.inr ⟨by unfold nL;rw[if_neg h],rfl⟩⟩
 refine abV _ (m.length:Int) (aJ m) v ?_;unfold SS;intro b0 b1 v1
 iterate 3 refine⟨by omega,λ_=>?_⟩
 intro v2 b2;refine⟨λh=>bad (by omega),λh16=>⟨by omega,λ_=>⟨by omega,λ_=>?_⟩⟩⟩;refine⟨λh=>bad (by omega),λh17=>⟨by omega,λ_=>⟨by omega,λ_=>⟨by omega,λ_=>⟨by omega,λ_=>⟨by omega,λ_=>?_⟩⟩⟩⟩⟩⟩;refine⟨λh=>bad (by omega),λh18=>⟨by omega,λ_=>⟨by omega,λ_=>⟨by omega,λ_=>⟨by omega,λ_=>?_⟩⟩⟩⟩⟩;rw[Te hm (k:=17) (by omega)];refine⟨λh=>bad (by omega),λhfl=>⟨by omega,λ_=>?_⟩⟩;refine⟨λh=>bad (by omega),λh19=>⟨by omega,λ_=>⟨by omega,λ_=>⟨by omega,λ_=>⟨by omega,λ_=>⟨by omega,λ_=>?_⟩⟩⟩⟩⟩⟩;refine⟨λh=>bad (by omega),λh27=>⟨by omega,λ_=>⟨by omega,λ_=>⟨by omega,λ_=>⟨by omega,λ_=>⟨by omega,λ_=>⟨by omega,λ_=>⟨by omega,λ_=>⟨by omega,λ_=>⟨by omega,λ_=>⟨by omega,λ_=>⟨by omega,λ_=>⟨by omega,λ_=>?_⟩⟩⟩⟩⟩⟩⟩⟩⟩⟩⟩⟩⟩;refine⟨λh=>bad (by omega),λh35=>⟨by omega,λ_=>⟨by omega,λ_=>⟨by omega,λ_=>⟨by omega,λ_=>⟨by omega,λ_=>⟨by omega,λ_=>⟨by omega,λ_=>⟨by omega,λ_=>⟨by omega,λ_=>⟨by omega,λ_=>⟨by omega,λ_=>⟨by omega,λ_=>?_⟩⟩⟩⟩⟩⟩⟩⟩⟩⟩⟩⟩⟩;refine⟨λh=>bad (by omega),λh43=>⟨by omega,λ_=>⟨by omega,λ_=>⟨by omega,λ_=>⟨by omega,λ_=>⟨by omega,λ_=>⟨by omega,λ_=>⟨by omega,λ_=>⟨by omega,λ_=>⟨by omega,λ_=>⟨by omega,λ_=>⟨by omega,λ_=>⟨by omega,λ_=>?_⟩⟩⟩⟩⟩⟩⟩⟩⟩⟩⟩⟩⟩;refine⟨λh=>bad (by omega),λhl=>?_⟩;intro b3;have hlen:m.length=43:=by omega
 rw[Kn hm (k0:=19) (by omega) rfl rfl rfl rfl rfl rfl rfl,Kn hm (k0:=27) (by omega) rfl rfl rfl rfl rfl rfl rfl,Kn hm (k0:=35) (by omega) rfl rfl rfl rfl rfl rfl rfl,Te hm (k:=16) (by omega),Te hm (k:=18) (by omega),CQ (Tf hm (by omega)),CQ (Tf hm (by omega))];have kA:yb (wM m)↔(((((m.getD 16 0:Nat):Int)<8/\(1:Int)<=((m.getD 18 0:Nat):Int))/\((m.getD 18 0:Nat):Int)<=7)/\((jC ((m.drop 19).take 8):Nat):Int)<=((jC ((m.drop 35).take 8):Nat):Int))/\(((jC ((m.drop 27).take 8):Nat):Int)=0\/(((jC ((m.drop 19).take 8):Nat):Int)<=((jC ((m.drop 27).take 8):Nat):Int)/\((jC ((m.drop 27).take 8):Nat):Int)<=((jC ((m.drop 35).take 8):Nat):Int))):=by
  simp only[yb,wM];omega
 refine⟨λh=>bad λhh=>h (kA.1 hh.2.2),λh=>⟨rfl,.inl ⟨wM m,?_,?_⟩⟩⟩
 .unfold nL;rw[if_pos ⟨hlen,by omega,kA.2 (Decidable.not_not.1 h)⟩]
 .have e1:aj .u8 16 (aJ m)=aj .u8 16 (aJ (wM m).id):=gy λj hj=>by
   show((m.getD j 0:Nat):Int)=(((m.take 16).getD j 0:Nat):Int);rw[ayk,ayk,List.getElem?_take_of_lt hj]
  have e2:(((m.getD 17 0:Nat):Int)==1)=(!(bi (wM m).out==0)):=by
   rw[jv];show _=(m.getD 17 0==1);generalize m.getD 17 0=c;rw[Bool.eq_iff_iff];simp;omega
  rw[e1,e2];rfl
end Go.RX.Vb
