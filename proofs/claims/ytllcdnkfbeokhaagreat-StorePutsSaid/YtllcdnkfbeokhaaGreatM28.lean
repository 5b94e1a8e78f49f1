/- The store's walker. -/
import Derived.Test.YtllcdnkfbeokhaaGreatM27
open Bool renaming and_eq_true -> ai
open Go.IntKind renaming wrap -> ae
open Go.Proofs.Tryz renaming prog -> ax8
open Int renaming toNat -> ag, toNat_natCast -> ax3
open List renaming append -> axQ, append_assoc -> ayl, length_append -> axP, length_singleton -> axR
open Option.some renaming injEq -> axU
namespace Go.RX.Vb
open Go Go.RX Go.Proofs Go.Vs
structure zR (s:Vs.State):Prop where
 lW:s.lW.length=32
 drawn:s.drawn<256^8
 kda:s.table.keys.dev.a<256
 kdd:s.table.keys.dev.d<256
 abz:s.table.keys.ident.length=32
 Xi:s.table.keys.signed.length=32
 once:s.table.keys.once.length<256^4
 dH: ∀x∈s.table.keys.once,x.id<256^4
 Zj: ∀x∈s.table.keys.once,x.cT.length=32
 most:s.table.most<256^4
 aD:s.table.aD.length<256^4
 peer: ∀p∈s.table.aD,kb p
 mea:s.call.me.a<256
 med:s.call.me.d<256
 bE:s.call.bE.length=8
 dead:s.call.dead.length<256^4
 agp: ∀x∈s.call.dead,x.length=16
 state:s.call.state<256
 id:s.call.id.length=16
 aM:s.call.aM<256
 pa:s.call.peer.a<256
 pd:s.call.peer.d<256
 own:s.call.own.length=32
 cH:s.call.cH.length=32
 fi:s.call.fi.length=32
 marks:s.call.marks.length<256^4
 cP:s.call.fu<256
 early:s.call.early.length<256^4
 abA: ∀x∈s.call.early,x.a<256
 abB: ∀x∈s.call.early,x.d<256
 fQ:s.call.fQ<256^4
 log:s.log.length<256^4
 aF:s.aF.length<256^4
 HL: ∀x∈s.aF,x.id.length=16
 agq: ∀x∈s.aF,x.aM<256
theorem BI(x:dj):dE.enc x=be 4 x.id++x.cT:=rfl
theorem L0(x:js):gq.enc x=be 1 x.a++be 1 x.d:=rfl
theorem EZ(x:List Nat):(raw 16).enc x=x:=rfl
theorem HM(x:Room):dJ.enc x=x.id++(be 1 x.aM++([if x.out then 1 else 0]++be 8 x.since)):=rfl
theorem qy(s:Vs.State):aX.enc s=s.lW++(be 8 s.drawn++((((be 1 s.table.keys.dev.a++be 1 s.table.keys.dev.d)++(s.table.keys.ident++(s.table.keys.signed++(be 4 s.table.keys.once.length++s.table.keys.once.flatMap dE.enc))))++(be 4 s.table.most++(be 4 s.table.aD.length++s.table.aD.flatMap bI.enc)))++
  (((be 1 s.call.me.a++be 1 s.call.me.d)++(s.call.bE++((be 4 s.call.dead.length++s.call.dead.flatMap (raw 16).enc)++(be 1 s.call.state++(s.call.id++([if s.call.out then 1 else 0]++(be 1 s.call.aM++((be 1 s.call.peer.a++be 1 s.call.peer.d)++(s.call.own++(s.call.cH++(s.call.fi++((be 4 s.call.marks.length++s.call.marks)++(be 1 s.call.fu++((be 4 s.call.early.length++s.call.early.flatMap gq.enc)++(be 8 s.call.eD++(be 8 s.call.bP++(be 8 s.call.since++(be 8 s.call.heard++(be 8 s.call.lJ++be 4 s.call.fQ)))))))))))))))))))++((be 4 s.log.length++s.log)++(be 4 s.aF.length++s.aF.flatMap dJ.enc))))):=rfl
abbrev j7(s:Vs.State)(v1 v2 v3 v4 v5 v6 v7:Value):List Value:=axQ (aj .u8 32 (aJ s.lW)) (.int .u64 (s.drawn:Int)::(.int .u8 (s.table.keys.dev.a:Int)::(.int .u8 (s.table.keys.dev.d:Int)::(axQ (aj .u8 32 (aJ s.table.keys.ident)) (axQ (aj .u8 32 (aJ s.table.keys.signed)) (v1::(.int .i64 (s.table.most:Int)::(v2::(.int .u8 (s.call.me.a:Int)::(.int .u8 (s.call.me.d:Int)::(axQ (aj .u8 8 (aJ s.call.bE)) (v3::(.int .u8 (s.call.state:Int)::(axQ (aj .u8 16 (aJ s.call.id)) (.bool (!(bi s.call.out==0))::(.int .u8 (s.call.aM:Int)::(.int .u8 (s.call.peer.a:Int)::(.int .u8 (s.call.peer.d:Int)::(axQ (aj .u8 32 (aJ s.call.own)) (axQ (aj .u8 32 (aJ s.call.cH)) (axQ (aj .u8 32 (aJ s.call.fi)) ([v4,.int .i64 ((s.call.fu:Int) - 1),v5,.int .u64 (s.call.eD:Int),.int .u64 (s.call.bP:Int),.int .u64 (s.call.since:Int),.int .u64 (s.call.heard:Int),.int .u64 (s.call.lJ:Int),.int .u32 (s.call.fQ:Int),v6,v7]))))))))))))))))))))))
abbrev C8(md:Bool)(v:Value)(s:List dj):HP:=aA md 93 33 v s.length (aG s.length [ax .u32 1 (bu dj.id s),ax .u8 32 (cb dj.cT s)])
abbrev sL(md:Bool)(v:Value)(s:List eu)(C:Nat->Int):HP:=aA md 68 3 v s.length (aG s.length [ax .u8 1 (bu (·.dev.a) s),ax .u8 1 (bu (·.dev.d) s),cV 1 (λj=>bg (C j))])
abbrev y5(md:Bool)(v:Value)(s:List (List Nat)):HP:=aA md 36 16 v s.length (aG s.length [ax .u8 16 (cb (λx=>x) s)])
abbrev y6(md:Bool)(v:Value)(s:List js):HP:=aA md 26 2 v s.length (aG s.length [ax .u8 1 (bu js.a s),ax .u8 1 (bu js.d s)])
abbrev ue(md:Bool)(v:Value)(s:List Room):HP:=aA md 98 19 v s.length (aG s.length [ax .u8 16 (cb Room.id s),ax .u8 1 (bu Room.aM s),cR 1 (dK Room.out s),ax .u64 1 (bu Room.since s)])
def lK(H:HP)(s:List eu)(C:Nat->Int):Prop:= ∀(i:Nat) (h:i<s.length),∃D:Nat->Int,cX H (ez false (bg (C i)) s[i].l D)/\wG H s[i].l D
theorem SG{b b1 b2:Nat}{v5:V1}{l:List Nat}{p:eu}{n c:Int}{A:Nat->Int}{H:HP}{row:List Value}{R:V1->Int->(Nat->Int)->Bool->Prop}(rM:row=sK p (bg c))(hH:H.wr=false)(hb: ∃D:Nat->Int,cX H (ez false (bg c) p.l D)/\wG H p.l D)(hp:kb p)
  (hA:cu A l) (hn:n=(l.length:Int)) (hl:l.length+(bI.enc p).length<=140737488355328) (h: ∀v':V1,R v' (((l++bI.enc p).length:Nat):Int) (aJ (l++bI.enc p)) false):
  ∃post,ao ax8 102 [.pointer (some ⟨b1,0,none⟩),.pointer (some ⟨b2,0,none⟩)] [ak b true ([.bool true,v5.v,.bool false]),aA true 5 1 v5.v (ag n) (aG (ag n) [ax .u8 1 A]),ak b1 true row,ak b2 true ([.pointer (some ⟨b,0,none⟩)]),H] post/\
   ∀y hs,post y hs->∃w1:V1,∃y1:Int,∃A':(Nat->Int),∃q:Bool,y= .tuple #[]/\hs=[ak b true ([.bool true,w1.v,.bool false]),aA true 5 1 w1.v (ag y1) (aG (ag y1) [ax .u8 1 A']),ak b1 true row,ak b2 true ([.pointer (some ⟨b,0,none⟩)]),H]/\R w1 y1 A' q:=by
 subst rM hn;rw[ax3,hA.wj];obtain⟨D,hD,hS⟩:=hb;have hm:=OE b b1 b2 v5 ⟨bg c,iU c⟩ l p D H hH hS hp hl;refine⟨λr hs=>r= .tuple #[]/\∃v':V1,hs=[dB b true v'.v false,aN true v'.v (l++bI.enc p),ak b1 true (sK p (bg c)),ak b2 true [wP b],H],?_,?_⟩
 .refine(ao.pre hm (bq.front (A:=[dB b true v5.v false,aN true v5.v l,ak b1 true (sK p (bg c)),ak b2 true [wP b]]) (cX.SF hH hD))).post ?_;rintro r hs ⟨rfl,v',rfl⟩;exact⟨_,bq.sub (((((List.Sublist.refl _).cons _).cons_cons _).cons_cons _).cons_cons _ |>.cons_cons _),rfl,v',rfl⟩
 .rintro y hs ⟨rfl,v',rfl⟩;exact⟨v',_,_,false,rfl,rfl,h v'⟩
set_option maxRecDepth 100000 in
set_option maxHeartbeats 4000000 in
theorem OF(b b1:Nat)(v u1 u2 u3 u4 u5 u6 u7:V1)(l:List Nat)(s:Vs.State)(C:Nat->Int)(H:HP)(hH:H.wr=false)(hP:lK H s.table.aD C)(hs:zR s)(hl:l.length+(aX.enc s).length<=140737488355328):
  ao ax8 32 [wP b,wP b1] [dB b true v.v false,aN true v.v l,ak b1 true (j7 s u1.v u2.v u3.v u4.v u5.v u6.v u7.v),C8 false u1.v s.table.keys.once,sL false u2.v s.table.aD C,y5 false u3.v s.call.dead,aN false u4.v s.call.marks,y6 false u5.v s.call.early,aN false u6.v s.log,ue false u7.v s.aF,H]
   λr hs=>r= .tuple #[]/\∃v':V1,hs=[dB b true v'.v false,aN true v'.v (l++aX.enc s)]:=by
 obtain⟨h1,h2,h3,h4,h5,h6,h7,h8,h9,h10,h11,h12,Wx,h14,h15,h16,h17,h18,h19,h20,h21,h22,h23,h24,h25,h26,h27,h28,h29,h30,h31,h32,h33,h34,h35⟩:=hs;have hL:(aX.enc s).length=110+(s.table.keys.once.flatMap dE.enc).length+8+(s.table.aD.flatMap bI.enc).length+14+(s.call.dead.flatMap (raw 16).enc).length+117+4+s.call.marks.length+1+4+(s.call.early.flatMap gq.enc).length+44+4+s.log.length+4+(s.aF.flatMap dJ.enc).length:=by
  rw[qy];simp only[axP,aw,axR];omega
 rw[hL]at hl;refine abx _ (l.length:Int) (s.drawn:Int) (s.table.keys.dev.a:Int) (s.table.keys.dev.d:Int) (s.table.most:Int) (s.call.me.a:Int) (s.call.me.d:Int) (s.call.state:Int) (bi s.call.out) (s.call.aM:Int) (s.call.peer.a:Int) (s.call.peer.d:Int) ((s.call.fu:Int) - 1) (s.call.eD:Int) (s.call.bP:Int) (s.call.since:Int) (s.call.heard:Int) (s.call.lJ:Int) (s.call.fQ:Int)
  (s.table.keys.once.length:Int) (s.table.aD.length:Int) (s.call.dead.length:Int) (s.call.marks.length:Int) (s.call.early.length:Int) (s.log.length:Int) (s.aF.length:Int)
  (aJ l) (aJ s.lW) (aJ s.table.keys.ident) (aJ s.table.keys.signed) (aJ s.call.bE) (aJ s.call.id) (aJ s.call.own) (aJ s.call.cH) (aJ s.call.fi) (bu dj.id s.table.keys.once) (cb dj.cT s.table.keys.once) (bu (·.dev.a) s.table.aD) (bu (·.dev.d) s.table.aD) C (cb (λx=>x) s.call.dead) (aJ s.call.marks) (bu js.a s.call.early) (bu js.d s.call.early) (aJ s.log) (cb Room.id s.aF) (bu Room.aM s.aF) (dK Room.out s.aF) (bu Room.since s.aF) v u1 u2 u3 u4 u5 u6 u7 b b1 H ?_
 unfold Sz;dsimp only[cr,G8,pJ,JW,gu,Rs];intro _ _;refine⟨by omega,λ_=>⟨by omega,λ_ _ _=>?_⟩⟩;refine aO (kn:=8) (x:=s.drawn) (l:=l++s.lW) (.inr (.inr ⟨rfl,rfl⟩)) rfl (cu.rfl.jA (by omega) (by omega) λ_ _=>rfl) (by first | omega | (simp only[axP];omega)) rfl (by first | omega | (simp only[axP];omega)) λv9=>?_
 obtain⟨L1,hL1⟩: ∃L,L=l++s.lW++be 8 s.drawn:=⟨_,rfl⟩;have n1:L1.length=l.length+40:=by rw[hL1];simp only[axP,aw];omega
 rw[<-hL1];intro _ _ _ _;refine aO (kn:=1) (x:=s.table.keys.dev.a) (l:=L1) (.inl ⟨rfl,rfl⟩) (jb (by omega)) cu.rfl rfl rfl (by first | omega | (simp only[axP,aw,axR];omega)) λv10=>?_
 refine aO (kn:=1) (x:=s.table.keys.dev.d) (l:=L1++be 1 s.table.keys.dev.a) (.inl ⟨rfl,rfl⟩) (jb (by omega)) cu.rfl rfl rfl (by first | omega | (simp only[axP,aw];omega)) λv11=>?_
 obtain⟨L2,hL2⟩: ∃L,L=L1++be 1 s.table.keys.dev.a++be 1 s.table.keys.dev.d:=⟨_,rfl⟩;have n2:L2.length=l.length+42:=by rw[hL2];simp only[axP,aw];omega
 rw[<-hL2];intro _;refine⟨by omega,λ_=>⟨by omega,λ_ _=>⟨by omega,λ_=>⟨by omega,λ_ _=>⟨by omega,λ_=>?_⟩⟩⟩⟩⟩;refine aO (kn:=4) (x:=s.table.keys.once.length) (l:=L2++s.table.keys.ident++s.table.keys.signed) (.inr (.inl ⟨rfl,rfl⟩)) (jb h7) ((cu.rfl.jA (by omega) (by omega) λ_ _=>rfl).jA (by first | omega | (simp only[axP];omega)) (by omega) λ_ _=>rfl) (by first | omega | (simp only[axP];omega)) rfl (by first | omega | (simp only[axP];omega)) λCM=>?_
 obtain⟨L3,RZ⟩: ∃L,L=L2++s.table.keys.ident++s.table.keys.signed++be 4 s.table.keys.once.length:=⟨_,rfl⟩;have n3:L3.length=l.length+110:=by rw[RZ];simp only[axP,aw];omega
 rw[<-RZ];refine rH s.table.keys.once dE.enc L3 rfl cu.rfl rfl ?_ ?_
 .intro I m i hi w A q hA Xj hle;have hm:=List.getElem_mem hi;have d1:=h8 _ hm;have d2:=h9 _ hm;simp only[BI,axP,aw,d2]at hle;refine⟨by omega,λ_ _ _=>?_⟩;refine aO (kn:=4) (x:=s.table.keys.once[i].id) (l:=L3++(s.table.keys.once.take i).flatMap dE.enc) (.inr (.inl ⟨rfl,rfl⟩)) (by rw[ax3,ej _ _ _ hi];exact jb d1) hA rfl rfl (by first | omega | (simp only[axP];omega)) λBy=>?_
  intro _;refine⟨by omega,λ_=>⟨by first | omega | (simp only[axP,aw];omega),λ_ tM=>⟨by omega,λ_=>⟨by omega,λ_=>?_⟩⟩⟩⟩;have hk:cu (bV (aJ (L3++(s.table.keys.once.take i).flatMap dE.enc++be 4 s.table.keys.once[i].id)) (ag ((L3++(s.table.keys.once.take i).flatMap dE.enc++be 4 s.table.keys.once[i].id).length:Int)) 32 (bx (cb dj.cT s.table.keys.once) (ag ((i:Int)*32)))) (L3++(s.table.keys.once.take i).flatMap dE.enc++dE.enc s.table.keys.once[i]):=by
   rw[BI,<-ayl];refine cu.rfl.jA (by omega) (by omega) λj hj=>?_
   show aJ _ (_+j)=_;rw[show(((i:Int)*32).toNat+j)=i*32+j by omega];exact jX dj.cT 32 _ h9 i j hi hj
  exact⟨tM,_,_,_,false,rfl,rfl,rfl,rfl,λ_ _=>rfl,Xj tM _ false _ _ rfl (by rw[BI];simp only[axP,aw,d2];omega) hk⟩
 intro xk gx Qe alg;refine aO (kn:=4) (x:=s.table.most) (l:=L3++s.table.keys.once.flatMap dE.enc) (.inr (.inl ⟨rfl,rfl⟩)) (jb h10) alg rfl rfl (by first | omega | (simp only[axP];omega)) λBy=>?_
 iterate 3 refine⟨by omega,λ_=>?_⟩
 refine aO (kn:=4) (x:=s.table.aD.length) (l:=L3++s.table.keys.once.flatMap dE.enc++be 4 s.table.most) (.inr (.inl ⟨rfl,rfl⟩)) (jb h11) cu.rfl rfl rfl (by first | omega | (simp only[axP,aw];omega)) λtM=>?_
 obtain⟨L5,hL5⟩: ∃L,L=L3++s.table.keys.once.flatMap dE.enc++be 4 s.table.most++be 4 s.table.aD.length:=⟨_,rfl⟩;have n5:L5.length=l.length+118+(s.table.keys.once.flatMap dE.enc).length:=by rw[hL5];simp only[axP,aw];omega
 rw[<-hL5];refine rH s.table.aD bI.enc L5 rfl cu.rfl rfl ?_ ?_
 .intro I m i hi w A q hA Xj hle;refine⟨by omega,λ_ y4=>?_⟩;refine SG (p:=s.table.aD[i]) (c:=C i) (l:=L5++(s.table.aD.take i).flatMap bI.enc) (by simp only[ax3];rw[ej (·.dev.a) _ _ hi,ej (·.dev.d) _ _ hi]) hH (hP i hi) (h12 _ (List.getElem_mem hi)) hA rfl (by simp only[axP]at hle ⊢;omega) λyZ=>?_
  exact⟨by omega,λ_=>⟨by omega,λ_=>⟨yZ,_,_,_,false,rfl,rfl,rfl,rfl,λ_ _=>rfl,Xj yZ _ false _ _ rfl rfl cu.rfl⟩⟩⟩
 intro tw eQ q18 abD;intro _ _ _;refine aO (kn:=1) (x:=s.call.me.a) (l:=L5++s.table.aD.flatMap bI.enc) (.inl ⟨rfl,rfl⟩) (jb (by omega)) abD rfl rfl (by first | omega | (simp only[axP];omega)) λyZ=>?_
 refine aO (kn:=1) (x:=s.call.me.d) (l:=L5++s.table.aD.flatMap bI.enc++be 1 s.call.me.a) (.inl ⟨rfl,rfl⟩) (jb (by omega)) cu.rfl rfl rfl (by first | omega | (simp only[axP,aw];omega)) λv20=>?_
 obtain⟨L6,hL6⟩: ∃L,L=L5++s.table.aD.flatMap bI.enc++be 1 s.call.me.a++be 1 s.call.me.d:=⟨_,rfl⟩;have n6:L6.length=l.length+120+(s.table.keys.once.flatMap dE.enc).length+(s.table.aD.flatMap bI.enc).length:=by rw[hL6];simp only[axP,aw];omega
 rw[<-hL6];refine⟨by omega,λ_=>⟨by first | omega | (simp only[axP,aw,axR];omega),λ_ _=>⟨by omega,λ_=>?_⟩⟩⟩;refine aO (kn:=4) (x:=s.call.dead.length) (l:=L6++s.call.bE) (.inr (.inl ⟨rfl,rfl⟩)) (jb h16) (cu.rfl.jA (by omega) (by omega) λ_ _=>rfl) (by first | omega | (simp only[axP];omega)) rfl (by first | omega | (simp only[axP];omega)) λDX=>?_
 obtain⟨L7,hL7⟩: ∃L,L=L6++s.call.bE++be 4 s.call.dead.length:=⟨_,rfl⟩;have n7:L7.length=l.length+132+(s.table.keys.once.flatMap dE.enc).length+(s.table.aD.flatMap bI.enc).length:=by rw[hL7];simp only[axP,aw];omega
 rw[<-hL7];refine rH s.call.dead (raw 16).enc L7 rfl cu.rfl rfl ?_ ?_
 .intro I m i hi w A q hA Xj hle;have d1:=h17 _ (List.getElem_mem hi);rw[EZ,d1]at hle;simp only[axP]at hle;refine⟨by omega,λ_ _=>⟨by omega,λ_=>⟨by first | omega | (simp only[axP];omega),λ_ HG=>⟨by omega,λ_=>⟨by omega,λ_=>?_⟩⟩⟩⟩⟩;have hk:cu (bV A (ag ((L7++(s.call.dead.take i).flatMap (raw 16).enc).length:Int)) 16 (bx (cb (λx=>x) s.call.dead) (ag ((i:Int)*16)))) (L7++(s.call.dead.take i).flatMap (raw 16).enc++(raw 16).enc s.call.dead[i]):=by
   rw[EZ];refine hA.jA (by omega) (by omega) λj hj=>?_
   show aJ _ (_+j)=_;rw[show(((i:Int)*16).toNat+j)=i*16+j by omega];exact jX (λx=>x) 16 _ h17 i j hi hj
  exact⟨HG,_,_,_,false,rfl,rfl,rfl,rfl,λ_ _=>rfl,Xj HG _ false _ _ rfl (by rw[EZ];simp only[axP,d1];omega) hk⟩
 intro zQ jk q23 alm;intro _;refine aO (kn:=1) (x:=s.call.state) (l:=L7++s.call.dead.flatMap (raw 16).enc) (.inl ⟨rfl,rfl⟩) (jb (by omega)) alm rfl rfl (by first | omega | (simp only[axP];omega)) λHG=>?_
 obtain⟨L8,hL8⟩: ∃L,L=L7++s.call.dead.flatMap (raw 16).enc++be 1 s.call.state:=⟨_,rfl⟩;have n8:L8.length=l.length+133+(s.table.keys.once.flatMap dE.enc).length+(s.table.aD.flatMap bI.enc).length+(s.call.dead.flatMap (raw 16).enc).length:=by rw[hL8];simp only[axP,aw];omega
 rw[<-hL8];refine⟨by omega,λ_=>⟨by first | omega | (simp only[axP,aw,axR];omega),λ_ CN Xd=>?_⟩⟩;refine RW (l:=L8++s.call.id) (cu.rfl.jA (by omega) (by omega) λ_ _=>rfl) (by first | omega | (simp only[axP];omega)) rfl (by first | omega | (simp only[axP];omega)) λAj=>?_
 obtain⟨L9,hL9⟩: ∃L,L=L8++s.call.id++[if s.call.out then 1 else 0]:=⟨_,rfl⟩;have n9:L9.length=l.length+150+(s.table.keys.once.flatMap dE.enc).length+(s.table.aD.flatMap bI.enc).length+(s.call.dead.flatMap (raw 16).enc).length:=by rw[hL9];simp only[axP,axR];omega
 rw[<-hL9];intro _;refine aO (kn:=1) (x:=s.call.aM) (l:=L9) (.inl ⟨rfl,rfl⟩) (jb (by omega)) cu.rfl rfl rfl (by first | omega | (simp only[axP,aw,axR];omega)) λHH=>?_
 intro _ _;refine aO (kn:=1) (x:=s.call.peer.a) (l:=L9++be 1 s.call.aM) (.inl ⟨rfl,rfl⟩) (jb (by omega)) cu.rfl rfl rfl (by first | omega | (simp only[axP,aw];omega)) λJ4=>?_
 refine aO (kn:=1) (x:=s.call.peer.d) (l:=L9++be 1 s.call.aM++be 1 s.call.peer.a) (.inl ⟨rfl,rfl⟩) (jb (by omega)) cu.rfl rfl rfl (by first | omega | (simp only[axP,aw];omega)) λJi=>?_
 obtain⟨L10,abE⟩: ∃L,L=L9++be 1 s.call.aM++be 1 s.call.peer.a++be 1 s.call.peer.d:=⟨_,rfl⟩;have n10:L10.length=l.length+153+(s.table.keys.once.flatMap dE.enc).length+(s.table.aD.flatMap bI.enc).length+(s.call.dead.flatMap (raw 16).enc).length:=by rw[abE];simp only[axP,aw];omega
 rw[<-abE];intro _;refine⟨by omega,λ_=>⟨by first | omega | (simp only[axP,aw,axR];omega),λ_ _=>⟨by omega,λ_=>⟨by first | omega | (simp only[axP,aw,axR];omega),λ_ _=>⟨by omega,λ_=>⟨by first | omega | (simp only[axP,aw,axR];omega),λ_ _=>⟨by omega,λ_=>?_⟩⟩⟩⟩⟩⟩⟩;refine aO (kn:=4) (x:=s.call.marks.length) (l:=L10++s.call.own++s.call.cH++s.call.fi) (.inr (.inl ⟨rfl,rfl⟩)) (jb h26) (((cu.rfl.jA (by omega) (by omega) λ_ _=>rfl).jA (by first | omega | (simp only[axP];omega)) (by omega) λ_ _=>rfl).jA (by first | omega | (simp only[axP];omega)) (by omega) λ_ _=>rfl) (by first | omega | (simp only[axP];omega)) rfl (by first | omega | (simp only[axP];omega)) λv33=>?_
 obtain⟨L11,abF⟩: ∃L,L=L10++s.call.own++s.call.cH++s.call.fi++be 4 s.call.marks.length:=⟨_,rfl⟩;have n11:L11.length=l.length+253+(s.table.keys.once.flatMap dE.enc).length+(s.table.aD.flatMap bI.enc).length+(s.call.dead.flatMap (raw 16).enc).length:=by rw[abF];simp only[axP,aw];omega
 rw[<-abF];refine⟨by omega,λ_=>⟨by first | omega | (simp only[axP,aw,axR];omega),λ_ _=>⟨by omega,λ_=>⟨by omega,λ_=>?_⟩⟩⟩⟩;refine aO (kn:=1) (x:=s.call.fu) (l:=L11++s.call.marks) (.inl ⟨rfl,rfl⟩) (by rw[Int.sub_add_cancel];exact jb (by omega)) (cu.rfl.jA (by omega) (by omega) λ_ _=>rfl) (by first | omega | (simp only[axP];omega)) rfl (by first | omega | (simp only[axP];omega)) λv35=>?_
 obtain⟨L12,abG⟩: ∃L,L=L11++s.call.marks++be 1 s.call.fu:=⟨_,rfl⟩;have n12:L12.length=l.length+254+s.call.marks.length+(s.table.keys.once.flatMap dE.enc).length+(s.table.aD.flatMap bI.enc).length+(s.call.dead.flatMap (raw 16).enc).length:=by rw[abG];simp only[axP,aw];omega
 rw[<-abG]
 iterate 5 refine⟨by omega,λ_=>?_⟩
 refine aO (kn:=4) (x:=s.call.early.length) (l:=L12) (.inr (.inl ⟨rfl,rfl⟩)) (jb h28) cu.rfl rfl rfl (by first | omega | (simp only[axP,aw,axR];omega)) λv36=>?_
 obtain⟨OG,abH⟩: ∃L,L=L12++be 4 s.call.early.length:=⟨_,rfl⟩;have n13:OG.length=l.length+258+s.call.marks.length+(s.table.keys.once.flatMap dE.enc).length+(s.table.aD.flatMap bI.enc).length+(s.call.dead.flatMap (raw 16).enc).length:=by rw[abH];simp only[axP,aw];omega
 rw[<-abH];refine rH s.call.early gq.enc OG rfl cu.rfl rfl ?_ ?_
 .intro I m i hi w A q hA Xj hle;have hm:=List.getElem_mem hi;have d1:=h29 _ hm;have d2:=h30 _ hm;simp only[L0,axP,aw]at hle;refine⟨by omega,λ_ _ _ _=>?_⟩;refine aO (kn:=1) (x:=s.call.early[i].a) (l:=OG++(s.call.early.take i).flatMap gq.enc) (.inl ⟨rfl,rfl⟩) (by rw[ax3,ej _ _ _ hi];exact jb (by omega)) hA rfl rfl (by first | omega | (simp only[axP];omega)) λVy=>?_
  refine aO (kn:=1) (x:=s.call.early[i].d) (l:=OG++(s.call.early.take i).flatMap gq.enc++be 1 s.call.early[i].a) (.inl ⟨rfl,rfl⟩) (by rw[ax3,ej _ _ _ hi];exact jb (by omega)) cu.rfl rfl rfl (by first | omega | (simp only[axP,aw];omega)) λSA=>?_
  have hk:OG++(s.call.early.take i).flatMap gq.enc++be 1 s.call.early[i].a++be 1 s.call.early[i].d=OG++(s.call.early.take i).flatMap gq.enc++gq.enc s.call.early[i]:=by rw[L0,ayl _ (be 1 _)]
  rw[hk];exact⟨by omega,λ_=>⟨by omega,λ_=>⟨SA,_,_,_,false,rfl,rfl,rfl,rfl,λ_ _=>rfl,Xj SA _ false _ _ rfl rfl cu.rfl⟩⟩⟩
 intro OC uU q37 als;intro _;refine aO (kn:=8) (x:=s.call.eD) (l:=OG++s.call.early.flatMap gq.enc) (.inr (.inr ⟨rfl,rfl⟩)) rfl als rfl rfl (by first | omega | (simp only[axP];omega)) λVy=>?_
 refine aO (kn:=8) (x:=s.call.bP) (l:=OG++s.call.early.flatMap gq.enc++be 8 s.call.eD) (.inr (.inr ⟨rfl,rfl⟩)) rfl cu.rfl rfl rfl (by first | omega | (simp only[axP,aw];omega)) λSA=>?_
 refine aO (kn:=8) (x:=s.call.since) (l:=OG++s.call.early.flatMap gq.enc++be 8 s.call.eD++be 8 s.call.bP) (.inr (.inr ⟨rfl,rfl⟩)) rfl cu.rfl rfl rfl (by first | omega | (simp only[axP,aw];omega)) λv40=>?_
 refine aO (kn:=8) (x:=s.call.heard) (l:=OG++s.call.early.flatMap gq.enc++be 8 s.call.eD++be 8 s.call.bP++be 8 s.call.since) (.inr (.inr ⟨rfl,rfl⟩)) rfl cu.rfl rfl rfl (by first | omega | (simp only[axP,aw];omega)) λXf=>?_
 refine aO (kn:=8) (x:=s.call.lJ) (l:=OG++s.call.early.flatMap gq.enc++be 8 s.call.eD++be 8 s.call.bP++be 8 s.call.since++be 8 s.call.heard) (.inr (.inr ⟨rfl,rfl⟩)) rfl cu.rfl rfl rfl (by first | omega | (simp only[axP,aw];omega)) λv42=>?_
 intro _;refine aO (kn:=4) (x:=s.call.fQ) (l:=OG++s.call.early.flatMap gq.enc++be 8 s.call.eD++be 8 s.call.bP++be 8 s.call.since++be 8 s.call.heard++be 8 s.call.lJ) (.inr (.inl ⟨rfl,rfl⟩)) (jb h31) cu.rfl rfl rfl (by first | omega | (simp only[axP,aw];omega)) λv43=>?_
 obtain⟨L14,abI⟩: ∃L,L=OG++s.call.early.flatMap gq.enc++be 8 s.call.eD++be 8 s.call.bP++be 8 s.call.since++be 8 s.call.heard++be 8 s.call.lJ++be 4 s.call.fQ:=⟨_,rfl⟩;have n14:L14.length=l.length+302+s.call.marks.length+(s.call.early.flatMap gq.enc).length+(s.table.keys.once.flatMap dE.enc).length+(s.table.aD.flatMap bI.enc).length+(s.call.dead.flatMap (raw 16).enc).length:=by rw[abI];simp only[axP,aw];omega
 rw[<-abI];refine⟨by omega,λ_=>?_⟩;refine aO (kn:=4) (x:=s.log.length) (l:=L14) (.inr (.inl ⟨rfl,rfl⟩)) (jb h32) cu.rfl rfl rfl (by first | omega | (simp only[axP,aw,axR];omega)) λv44=>?_
 obtain⟨L15,abJ⟩: ∃L,L=L14++be 4 s.log.length:=⟨_,rfl⟩;have n15:L15.length=l.length+306+s.call.marks.length+(s.call.early.flatMap gq.enc).length+(s.table.keys.once.flatMap dE.enc).length+(s.table.aD.flatMap bI.enc).length+(s.call.dead.flatMap (raw 16).enc).length:=by rw[abJ];simp only[axP,aw];omega
 rw[<-abJ];refine⟨by omega,λ_=>⟨by first | omega | (simp only[axP,aw,axR];omega),λ_ _=>⟨by omega,λ_=>?_⟩⟩⟩;refine aO (kn:=4) (x:=s.aF.length) (l:=L15++s.log) (.inr (.inl ⟨rfl,rfl⟩)) (jb h33) (cu.rfl.jA (by omega) (by omega) λ_ _=>rfl) (by first | omega | (simp only[axP];omega)) rfl (by first | omega | (simp only[axP];omega)) λv46=>?_
 obtain⟨Zk,abK⟩: ∃L,L=L15++s.log++be 4 s.aF.length:=⟨_,rfl⟩;have n16:Zk.length=l.length+310+s.log.length+s.call.marks.length+(s.call.early.flatMap gq.enc).length+(s.table.keys.once.flatMap dE.enc).length+(s.table.aD.flatMap bI.enc).length+(s.call.dead.flatMap (raw 16).enc).length:=by rw[abK];simp only[axP,aw];omega
 rw[<-abK];refine rH s.aF dJ.enc Zk rfl cu.rfl rfl ?_ ?_
 .intro I m i hi w A q hA Xj hle;have hm:=List.getElem_mem hi;have d1:=h34 _ hm;have d2:=h35 _ hm;have Ka:=hle;simp only[HM,axP,aw,axR,d1]at Ka;refine⟨by omega,λ_ _=>⟨by omega,λ_=>⟨by first | omega | (simp only[axP];omega),λ_ Qd _=>?_⟩⟩⟩;refine aO (kn:=1) (x:=s.aF[i].aM) (l:=Zk++(s.aF.take i).flatMap dJ.enc++s.aF[i].id) (.inl ⟨rfl,rfl⟩) (by rw[ax3,ej _ _ _ hi];exact jb (by omega)) (hA.jA (by omega) (by omega) λj hj=>?_) (by first | omega | (simp only[axP];omega)) rfl (by first | omega | (simp only[axP];omega)) λXg=>?_
  .show aJ _ (_+j)=_;rw[show(((i:Int)*16).toNat+j)=i*16+j by omega];exact jX Room.id 16 _ h34 i j hi hj
  intro b23;rw[show dK Room.out s.aF (ag (i:Int))=bi s.aF[i].out by rw[ax3];exact gW _ _ _ hi];refine RT (l:=Zk++(s.aF.take i).flatMap dJ.enc++s.aF[i].id++be 1 s.aF[i].aM) cu.rfl rfl rfl (by first | omega | (simp only[axP,aw];omega)) λSC=>?_
  intro _;refine aO (kn:=8) (x:=s.aF[i].since) (l:=Zk++(s.aF.take i).flatMap dJ.enc++s.aF[i].id++be 1 s.aF[i].aM++[if s.aF[i].out then 1 else 0]) (.inr (.inr ⟨rfl,rfl⟩)) (by rw[ax3,ej _ _ _ hi]) cu.rfl rfl rfl (by first | omega | (simp only[axP,aw,axR];omega)) λSD=>?_
  have hk:Zk++(s.aF.take i).flatMap dJ.enc++s.aF[i].id++be 1 s.aF[i].aM++[if s.aF[i].out then 1 else 0]++be 8 s.aF[i].since=Zk++(s.aF.take i).flatMap dJ.enc++dJ.enc s.aF[i]:=by rw[HM];simp only[ayl]
  rw[hk];exact⟨by omega,λ_=>⟨by omega,λ_=>⟨SD,_,_,_,false,rfl,rfl,rfl,rfl,λ_ _=>rfl,Xj SD _ false _ _ rfl rfl cu.rfl⟩⟩⟩
 intro C7 P_ q47 ags;have R0:Zk++s.aF.flatMap dJ.enc=l++aX.enc s:=by
  rw[abK,abJ,abI,abH,abG,abF,abE,hL9,hL8,hL7,hL6,hL5,RZ,hL2,hL1,qy];simp only[ayl]
 rw[R0]at ags ⊢;rw[ax3,ags.wj];exact⟨rfl,C7,rfl⟩
end Go.RX.Vb

namespace Go.RX
def F.leaf(ok:SV->List Ck->Bool):F->List Bool->Bool
 | .vc b r,p=>b.sure&&r.leaf ok p
 | .fork c t e,p=>match c.uO with
  | some true=>t.leaf ok p
  | some false=>e.leaf ok p
  | none=>match p with
   | []=>t.leaf ok []&&e.leaf ok []
   | false::p=>t.leaf ok p
   | true::p=>e.leaf ok p
 | .ret u hp,_=>ok u hp
 | .Eh r,p=>r.leaf ok p
 | .xw r,p=>r.leaf ok p
 | .Js r,p=>r.leaf ok p
 | .qP _ r,p=>r.leaf ok p
 | .both a b,p=>match p with
  | []=>a.leaf ok []&&b.leaf ok []
  | false::p=>a.leaf ok p
  | true::p=>b.leaf ok p
 | _,_=>false
theorem F.kU{ok:SV->List Ck->Bool}(f:F): ∀(p:List Bool),f.leaf ok (p++[false])=true->f.leaf ok (p++[true])=true->f.leaf ok p=true:=by
 induction f with
 | vc b r ih=>
  intro p h1 h2;simp only[F.leaf,ai]at h1 h2 ⊢;exact⟨h1.1,ih p h1.2 h2.2⟩
 | fork c t e I6 I7=>
  intro p h1 h2;simp only[F.leaf]at h1 h2 ⊢;cases hc:c.uO with
  | some b=>cases b with
   | true=>simp only[hc]at h1 h2 ⊢;exact I6 p h1 h2
   | false=>simp only[hc]at h1 h2 ⊢;exact I7 p h1 h2
  | none=>
   simp only[hc]at h1 h2 ⊢;cases p with
   | nil=>simp only[List.nil_append]at h1 h2;simp only[h1,h2,Bool.and_self]
   | cons x p=>cases x with
    | false=>exact I6 p h1 h2
    | true=>exact I7 p h1 h2
 | ret u hp=>intro p h1 _;exact h1
 | Eh r ih=>intro p h1 h2;exact ih p h1 h2
 | xw r ih=>intro p h1 h2;exact ih p h1 h2
 | Js r ih=>intro p h1 h2;exact ih p h1 h2
 | qP b r ih=>intro p h1 h2;exact ih p h1 h2
 | both a b mU rR=>
  intro p h1 h2;cases p with
  | nil=>simp only[F.leaf,List.nil_append]at h1 h2 ⊢;simp only[h1,h2,Bool.and_self]
  | cons x p=>cases x with
   | false=>exact mU p h1 h2
   | true=>exact rR p h1 h2
 | fail=>intro p h1;simp[F.leaf]at h1
 | call=>intro p h1;simp[F.leaf]at h1
 | ext=>intro p h1;simp[F.leaf]at h1
 | loop=>intro p h1;simp[F.leaf]at h1
 | back=>intro p h1;simp[F.leaf]at h1
 | join=>intro p h1;simp[F.leaf]at h1
 | meet=>intro p h1;simp[F.leaf]at h1
 | ghost=>intro p h1;simp[F.leaf]at h1
theorem F.Kb{P:Program}{f:F}{ok:SV->List Ck->Bool}{Q:Value->List HP->Prop}(hq: ∀u hp ρ,ok u hp=true->Q (u.val ρ) (hp.map (Ck.den ρ)))(ρ:Env)(L:Nat->LC)(h:f.leaf ok []=true):VC P Q f ρ L:=by
 induction f generalizing ρ L with
 | vc b r ih=>
  simp only[F.leaf,ai]at h;exact⟨(BE.bY ρ b).1 (xX h.1 ρ),λ_=>ih ρ L h.2⟩
 | fork c t e I6 I7=>
  simp only[F.leaf]at h;split at h
  .rename_i hc;unfold BE.uO at hc;split at hc
   .rename_i hs;simp only[axU]at hc;exact⟨λ_=>I6 ρ L h,λhn=>absurd ((BE.bY ρ c).1 (by rw[mo hs];exact hc)) hn⟩
   .cases hc
  .rename_i hc;unfold BE.uO at hc;split at hc
   .rename_i hs;simp only[axU]at hc;refine⟨λhn=>?_,λ_=>I7 ρ L h⟩;have:=(BE.bY ρ c).2 hn;rw[mo hs,hc]at this;cases this
   .cases hc
  .simp only[ai]at h;exact⟨λ_=>I6 ρ L h.1,λ_=>I7 ρ L h.2⟩
 | ret u hp=>exact hq u hp ρ h
 | Eh r ih=>exact λ_=>ih _ L h
 | xw r ih=>exact λ_=>ih _ L h
 | Js r ih=>exact ih _ L h
 | qP b r ih=>cases b with
  | true=>exact λ_ _ _=>ih _ L h
  | false=>exact λ_ _=>ih _ L h
 | fail=>simp[F.leaf]at h
 | call=>simp[F.leaf]at h
 | ext=>simp[F.leaf]at h
 | loop=>simp[F.leaf]at h
 | back=>simp[F.leaf]at h
 | join=>simp[F.leaf]at h
 | meet=>simp[F.leaf]at h
 | ghost=>simp[F.leaf]at h
 | both a b mU rR=>
  simp only[F.leaf,ai]at h;exact⟨mU ρ L h.1,rR ρ L h.2⟩
end Go.RX
namespace Go.RX.Vb
open Go Go.RX Go.Proofs Go.Vs
noncomputable def VA:Ctx:={T:=TT,FT:=FT,iN:=Vx.iN}
def z8(n:Nat):List SV:=List.replicate n (.int .u8 (.lit 0))
def b8(n:Int):SV:= .int .u8 (.lit n)
def plA:List SV:=b8 5::z8 31++[.int .u64 (.lit 0),b8 1,b8 2]++(b8 1::z8 31)++(b8 2::z8 31)
def plB:List SV:=[.int .i64 (.lit 31),.bW,b8 1,b8 2,b8 1,b8 4]++z8 6++[.bW,b8 0]++z8 16++[.bool (.lit false),b8 0,b8 0,b8 0]++z8 32++z8 32++z8 32++[.bW,.int .i64 (.lit (-1)),.bW,.int .u64 (.lit 0),.int .u64 (.lit 0),.int .u64 (.lit 0),.int .u64 (.lit 0),.int .u64 (.lit 0),.int .u32 (.lit 0),.bW,.bW]
def Xk:List Nat:=List.replicate 32 0
def jc:List dj:=[⟨3,4::List.replicate 31 0⟩]
def plain(o:List dj):Vs.State:=⟨5::List.replicate 31 0,0,⟨⟨⟨1,2⟩,1::List.replicate 31 0,2::List.replicate 31 0,o⟩,31,[]⟩,⟨⟨1,2⟩,[1,4,0,0,0,0,0,0],[],0,List.replicate 16 0,false,0,⟨0,0⟩,Xk,Xk,Xk,[],0,[],0,0,0,0,0,0⟩,[],[]⟩
abbrev bh:V1:=⟨.slice none 0 0,rfl⟩
def Kc(cs:List bU):Bool:=match cs with
 | [⟨.int .u32,1,a⟩,⟨.int .u8,32,b⟩]=>iH (fc a (.lit 0))==some 3&&(List.range 32).all λj=>iH (fc b (.lit j))==some (if j=0 then 4 else 0)
 | _=>false
def BJ(u:SV)(hp:List Ck):Bool:=match u with
 | .agg cs=>fh ((iI cs).take 99) plA&&fh ((iI cs).drop 100) plB&&(match ((iI cs)[99]? :Option SV)with
  | some .bW=>true
  | some (.vv k)=>(match hp with
   | [_,.cF true k' 93 33 n aB]=>k==k'&&iH n==some 1&&Kc aB
   | _=>false)
  | _=>false)
 | _=>false
set_option maxRecDepth 100000 in
theorem DY(ρ:Env)(o:List dj)(v:Value):SV.aq ρ plA++v::SV.aq ρ plB=j7 (plain o) v bh.v bh.v bh.v bh.v bh.v bh.v:=by rfl
open Go Go.RX Go.Proofs Go.Vs
theorem SH:(oR VA 20 [] [] {} Tryz.f20).leaf BJ [true,false]=true:=by kernel_rfl
theorem SI:(oR VA 20 [] [] {} Tryz.f20).leaf BJ [true,true]=true:=by kernel_rfl
theorem OH:(oR VA 20 [] [] {} Tryz.f20).leaf BJ [false,true,false]=true:=by kernel_rfl
theorem OI:(oR VA 20 [] [] {} Tryz.f20).leaf BJ [false,true,true]=true:=by kernel_rfl
open Go Go.RX Go.Proofs Go.Vs
theorem Kd:(oR VA 20 [] [] {} Tryz.f20).leaf BJ [false,false,false,false]=true:=by kernel_rfl
theorem Ke:(oR VA 20 [] [] {} Tryz.f20).leaf BJ [false,false,false,true]=true:=by kernel_rfl
theorem Kf:(oR VA 20 [] [] {} Tryz.f20).leaf BJ [false,false,true,false]=true:=by kernel_rfl
theorem Kg:(oR VA 20 [] [] {} Tryz.f20).leaf BJ [false,false,true,true]=true:=by kernel_rfl
open Go.RX Go.Proofs
noncomputable def cxT:Ctx:={T:=TT,FT:=FT,bj:=Vt.bj,iN:=Vt.iN}
open Go.RX Go.Proofs
set_option maxRecDepth 100000
def L4(al:PT)(x0:Int)(A0:Nat->Int)(v0:V1):Prop:=
 ∀b0 b1:Nat,ay (0<=x0) (
 fj (x0 - 8) ((
 bf (4194304<x0) (
 al (.tuple #[zv1,.int .i64 3]) [Y6 b0]) (
 ay (((x0 - 8)<10)\/(6<=x0)) (
 ay (((x0 - 8)<10)\/(6<=x0)) (
 bf (((x0 - 8)<10)\/(¬(eB (xY A0 6)=eB (QA [6,72,76,83,84,0,1])))) (
 al (.tuple #[zv1,.int .i64 9]) [Y6 b0]) (
 ay (10<=x0) (
 ∀b2:Nat,∃HD:Ext->Prop,(∀(w:World) (Fs:List HP),aU ([ak b2 true ([.bool false,(aK 1 v0.v 6 10 none),.bool false]),bQ v0 x0 A0]++Fs) w->∃(v1:V1) (x1:Int) (A1:Nat->Int),∃p0:HP,aU ([G9 b2 v1,bQ v0 x0 A0,bQ v1 x1 A1]++Fs) w/\HD ⟨[],[v1],[x1],[A1],[],[p0],[]⟩)/\
 (∀(v1:V1) (x1:Int) (A1:Nat->Int),∀p0:HP,HD ⟨[],[v1],[x1],[A1],[],[p0],[]⟩->
 ay (0<=(x0 - 8)) (
 ay ((x0 - 8)<=x0) (
 ∀b3:Nat,Cl 22 [.slice (some ⟨b3,0,none⟩) 1 1] [ak b3 true ([(aK 1 v0.v 0 (ag (x0 - 8)) none)]),bQ v0 x0 A0] λx hs l=> ∃A2:(Nat->Int),x= .agg (axQ (aj .u8 32 A2) ([])).toArray/\hs=l/\
 ∀b4:Nat,fj ((x0 - 8) - 10) ((
 Cl 21 [pp b2,.int .u64 0,.int .i64 4] [G9 b2 v1,bQ v1 x1 A1] <| nj b2 λ_ x2 _ _ _=>
 ay ((¬(x2=(ae .u64 ((x0 - 8) - 10))))\/(0<=(x0 - 8))) (
 ay ((¬(x2=(ae .u64 ((x0 - 8) - 10))))\/((x0 - 8)<=x0)) (
 bf (x2=(ae .u64 ((x0 - 8) - 10))) (
 Cl 43 [.slice (some ⟨b4,0,none⟩) 8 32,(aK 1 v0.v (ag (x0 - 8)) (ag x0) none)] [ak b4 true (axQ (aj .u8 32 A2) ([])),bQ v0 x0 A0] <| hd8 λq1=>
 bf (¬(q1=true)) (
 al (.tuple #[zv1,.int .i64 9]) [Y6 b0]) (
 ay (10<=(x0 - 8)) (
 ∀b5:Nat,∃BG:Ext->Prop,(∀(w:World) (Fs:List HP),aU ([ak b5 true ([.bool false,(aK 1 v0.v 10 (ag (x0 - 8)) none),.bool false]),bQ v0 x0 A0]++Fs) w->∃(v3:V1) (x4:Int) (A4:Nat->Int),∃p1:HP,aU ([G9 b5 v3,bQ v0 x0 A0,bQ v3 x4 A4,p1]++Fs) w/\BG ⟨[],[v3],[x4],[A4],[],[p1],[]⟩)/\
 (∀(v3:V1) (x4:Int) (A4:Nat->Int),∀p1:HP,BG ⟨[],[v3],[x4],[A4],[],[p1],[]⟩->
 Cl 32 [pp b5,pp b1] [G9 b5 v3,bQ v3 x4 A4,Y6 b1,p1] λx hs _=> ∃(v4 v5 v6 v7 v8 v9 v10 v11:V1) (x5 x6 x7 x8 x9 bA bH bR bN dP b_ dD cq dt cO d_ gN eT ff e9 i_ ki iM jY rj pR:Int) (A5 A6 A7 A8 A9 dM dx dC fH gw gx fw eY eQ fb fg fR iB jk iG kH mT mQ:Nat->Int) (q2:Bool),∃p2:HP,x= .tuple #[]/\hs=[gV b5 v4 q2,bQ v4 x5 A5,Rs b1 A6 x6 x7 x8 A7 A8 v5 x9 v6 bA bH A9 v7 bR dM (!(bN==0)) dP b_ dD dx dC fH v8 cq v9 dt cO d_ gN eT ff v10 v11,p2,wm v5 e9 gw gx,LK v6 i_ fw eY eQ,wq v7 ki fb,cr v8 iM fg,wo v9 jY fR iB,cr v10 rj jk,wk v11 pR iG kH mT mQ]/\
 ay ((q2=true)\/(0<=x5)) (
 bf (¬((q2=true)\/(0<x5))) (
 Cl 10 [yW A6 x6 x7 x8 A7 A8 v5 x9 v6 bA bH A9 v7 bR dM (!(bN==0)) dP b_ dD dx dC fH v8 cq v9 dt cO d_ gN eT ff v10 v11] [wm v5 e9 gw gx,LK v6 i_ fw eY eQ,wq v7 ki fb,cr v8 iM fg,wo v9 jY fR iB,cr v10 rj jk,wk v11 pR iG kH mT mQ,p2] <| hd8 λq3=>
 bf (¬(q3=true)) (
 al (.tuple #[zv1,.int .i64 9]) [Y6 b0]) (
 al (.tuple #[yW A6 x6 x7 x8 A7 A8 v5 x9 v6 bA bH A9 v7 bR dM (!(bN==0)) dP b_ dD dx dC fH v8 cq v9 dt cO d_ gN eT ff v10 v11,.int .i64 0]) [Rs b0 A6 x6 x7 x8 A7 A8 v5 x9 v6 bA bH A9 v7 bR dM (!(bN==0)) dP b_ dD dx dC fH v8 cq v9 dt cO d_ gN eT ff v10 v11,p2,wm v5 e9 gw gx,LK v6 i_ fw eY eQ,wq v7 ki fb,cr v8 iM fg,wo v9 jY fR iB,cr v10 rj jk,wk v11 pR iG kH mT mQ])) (
 al (.tuple #[zv1,.int .i64 9]) [Y6 b0])))))) (
 al (.tuple #[zv1,.int .i64 9]) [Y6 b0]))))))))))))))))
theorem Xl(al:PT)(x0:Int)(A0:Nat->Int)(v0:V1)(h:L4 al x0 A0 v0):ao ax8 17 [v0.v] [bQ v0 x0 A0] al:=
 vm (C:=cxT) Vt.Zf Vt.Sd Vt.LW ⟨[x0],[A0],[],[],[v0],[],[],[]⟩ Tryz.func17 (by kernel_rfl) h
def SJ(al:PT)(x0 x1:Int)(A0 A1:Nat->Int)(v0 v1:V1):Prop:=
 al (.bool (eB (xY A0 x0)==eB (xY A1 x1))) [bQ v0 x0 A0,bQ v1 x1 A1]
theorem abL(al:PT)(x0 x1:Int)(A0 A1:Nat->Int)(v0 v1:V1)(h:SJ al x0 x1 A0 A1 v0 v1):ao ax8 43 [v0.v,v1.v] [bQ v0 x0 A0,bQ v1 x1 A1] al:=
 vm (C:=cx) Vt.eqA Vt.ak0 Vt.afX ⟨[x0,x1],[A0,A1],[],[],[v0,v1],[],[],[]⟩ Tryz.func43 (by kernel_rfl) h
open Go.RX Go.Proofs
noncomputable def alw:Ctx:={T:=TT,FT:=FT,bj:=Vr.BD,iN:=Vr.EU}
noncomputable def alx:Ctx:={T:=TT,FT:=FT,bj:=Vr.Sb,iN:=Vr.WW}
end Go.RX.Vb
