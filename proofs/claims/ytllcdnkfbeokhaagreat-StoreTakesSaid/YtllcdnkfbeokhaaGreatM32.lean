/- The store's walker. -/
import Derived.Test.YtllcdnkfbeokhaaGreatM31
open Bool renaming and_eq_true → ai
open Go.IntKind renaming wrap → ae
open Go.Proofs.Tryz renaming prog → aqQ
open Int renaming toNat → ag, toNat_natCast → aqD
open List renaming append → aqk, length_append → aql, length_singleton → aqm
open Option.some renaming injEq → aqp
namespace Go.RX.Vb
open Go Go.RX Go.Proofs Go.Vs
structure CA (s:Vs.State):Prop where
 oN:s.oN.length=32
 drawn:s.drawn<256^8
 kda:s.table.keys.dev.a<256
 kdd:s.table.keys.dev.d<256
 aeL:s.table.keys.ident.length=32
 acE:s.table.keys.signed.length=32
 once:s.table.keys.once.length<256^4
 gS: ∀x∈s.table.keys.once,x.id<256^4
 aiU: ∀x∈s.table.keys.once,x.dY.length=32
 most:s.table.most<256^4
 bA:s.table.bA.length<256^4
 peer: ∀p∈s.table.bA,mV p
 mea:s.call.me.a<256
 med:s.call.me.d<256
 d_:s.call.d_.length=8
 dead:s.call.dead.length<256^4
 aiV: ∀x∈s.call.dead,x.length=16
 state:s.call.state<256
 id:s.call.id.length=16
 aX:s.call.aX<256
 pa:s.call.peer.a<256
 pd:s.call.peer.d<256
 own:s.call.own.length=32
 ef:s.call.ef.length=32
 jg:s.call.jg.length=32
 marks:s.call.marks.length<256^4
 dP:s.call.hJ<256
 early:s.call.early.length<256^4
 aeM: ∀x∈s.call.early,x.a<256
 aeN: ∀x∈s.call.early,x.d<256
 jh:s.call.jh<256^4
 log:s.log.length<256^4
 aO:s.aO.length<256^4
 Ug: ∀x∈s.aO,x.id.length=16
 aiW: ∀x∈s.aO,x.aX<256
theorem zn(x:dx):dG.enc x=be 4 x.id++x.dY:=rfl
theorem IJ(x:jW):gu.enc x=be 1 x.a++be 1 x.d:=rfl
theorem CB(x:List Nat):(raw 16).enc x=x:=rfl
theorem EL(x:Room):dQ.enc x=x.id++(be 1 x.aX++([if x.out then 1 else 0]++be 8 x.since)):=rfl
theorem vJ(s:Vs.State):bq.enc s=s.oN++(be 8 s.drawn++((((be 1 s.table.keys.dev.a++be 1 s.table.keys.dev.d)++(s.table.keys.ident++(s.table.keys.signed++(be 4 s.table.keys.once.length++s.table.keys.once.flatMap dG.enc))))++(be 4 s.table.most++(be 4 s.table.bA.length++s.table.bA.flatMap bO.enc)))++
  (((be 1 s.call.me.a++be 1 s.call.me.d)++(s.call.d_++((be 4 s.call.dead.length++s.call.dead.flatMap (raw 16).enc)++(be 1 s.call.state++(s.call.id++([if s.call.out then 1 else 0]++(be 1 s.call.aX++((be 1 s.call.peer.a++be 1 s.call.peer.d)++(s.call.own++(s.call.ef++(s.call.jg++((be 4 s.call.marks.length++s.call.marks)++(be 1 s.call.hJ++((be 4 s.call.early.length++s.call.early.flatMap gu.enc)++(be 8 s.call.fi++(be 8 s.call.cc++(be 8 s.call.since++(be 8 s.call.heard++(be 8 s.call.oa++be 4 s.call.jh)))))))))))))))))))++((be 4 s.log.length++s.log)++(be 4 s.aO.length++s.aO.flatMap dQ.enc))))):=rfl
abbrev jO(s:Vs.State)(v1 v2 v3 v4 v5 v6 v7:Value):List Value:=aqk (aj .u8 32 (aL s.oN)) (.int .u64 (s.drawn:Int)::(.int .u8 (s.table.keys.dev.a:Int)::(.int .u8 (s.table.keys.dev.d:Int)::(aqk (aj .u8 32 (aL s.table.keys.ident)) (aqk (aj .u8 32 (aL s.table.keys.signed)) (v1::(.int .i64 (s.table.most:Int)::(v2::(.int .u8 (s.call.me.a:Int)::(.int .u8 (s.call.me.d:Int)::(aqk (aj .u8 8 (aL s.call.d_)) (v3::(.int .u8 (s.call.state:Int)::(aqk (aj .u8 16 (aL s.call.id)) (.bool (!(bi s.call.out==0))::(.int .u8 (s.call.aX:Int)::(.int .u8 (s.call.peer.a:Int)::(.int .u8 (s.call.peer.d:Int)::(aqk (aj .u8 32 (aL s.call.own)) (aqk (aj .u8 32 (aL s.call.ef)) (aqk (aj .u8 32 (aL s.call.jg)) ([v4,.int .i64 ((s.call.hJ:Int) - 1),v5,.int .u64 (s.call.fi:Int),.int .u64 (s.call.cc:Int),.int .u64 (s.call.since:Int),.int .u64 (s.call.heard:Int),.int .u64 (s.call.oa:Int),.int .u32 (s.call.jh:Int),v6,v7]))))))))))))))))))))))
abbrev CC(md:Bool)(v:Value)(s:List dx):HP:=aB md 93 33 v s.length (aK s.length [aC .u32 1 (cu dx.id s),aC .u8 32 (dV dx.dY s)])
abbrev KG(md:Bool)(v:Value)(s:List fp)(C:Nat→Int):HP:=aB md 68 3 v s.length (aK s.length [aC .u8 1 (cu (·.dev.a) s),aC .u8 1 (cu (·.dev.d) s),fN 1 (fun j=>cX (C j))])
abbrev By(md:Bool)(v:Value)(s:List (List Nat)):HP:=aB md 36 16 v s.length (aK s.length [aC .u8 16 (dV (fun x=>x) s)])
abbrev Bz(md:Bool)(v:Value)(s:List jW):HP:=aB md 26 2 v s.length (aK s.length [aC .u8 1 (cu jW.a s),aC .u8 1 (cu jW.d s)])
abbrev uz(md:Bool)(v:Value)(s:List Room):HP:=aB md 98 19 v s.length (aK s.length [aC .u8 16 (dV Room.id s),aC .u8 1 (cu Room.aX s),ij 1 (jm Room.out s),aC .u64 1 (cu Room.since s)])
def ob(H:HP)(s:List fp)(C:Nat→Int):Prop:= ∀(i:Nat) (h:i<s.length),∃D:Nat→Int,iG H (jF false (cX (C i)) s[i].l D)∧ux H s[i].l D
theorem OD{b b1 b2:Nat}{v5:V1}{l:List Nat}{p:fp}{n c:Int}{A:Nat→Int}{H:HP}{row:List Value}{R:V1→Int→(Nat→Int)→Bool→Prop}(rL:row=qK p (cX c))(hH:H.wr=false)(hb: ∃D:Nat→Int,iG H (jF false (cX c) p.l D)∧ux H p.l D)(hp:mV p)
  (hA:cd A l) (hn:n=(l.length:Int)) (hl:l.length+(bO.enc p).length≤140737488355328) (h: ∀v':V1,R v' (((l++bO.enc p).length:Nat):Int) (aL (l++bO.enc p)) false):
  ∃post,aq aqQ 102 [.pointer (some ⟨b1,0,none⟩),.pointer (some ⟨b2,0,none⟩)] [ak b true ([.bool true,v5.v,.bool false]),aB true 5 1 v5.v (ag n) (aK (ag n) [aC .u8 1 A]),ak b1 true row,ak b2 true ([.pointer (some ⟨b,0,none⟩)]),H] post∧
   ∀y hs,post y hs→∃w1:V1,∃y1:Int,∃A':(Nat→Int),∃q:Bool,y= .tuple #[]∧hs=[ak b true ([.bool true,w1.v,.bool false]),aB true 5 1 w1.v (ag y1) (aK (ag y1) [aC .u8 1 A']),ak b1 true row,ak b2 true ([.pointer (some ⟨b,0,none⟩)]),H]∧R w1 y1 A' q:=by
 subst rL hn;rw [aqD,hA.xE];obtain⟨D,hD,hS⟩:=hb;have hm:=KF b b1 b2 v5 ⟨cX c,mA c⟩ l p D H hH hS hp hl;refine⟨fun r hs=>r= .tuple #[]∧∃v':V1,hs=[cZ b true v'.v false,aT true v'.v (l++bO.enc p),ak b1 true (qK p (cX c)),ak b2 true [wP b],H],?_,?_⟩
 ·refine(aq.pre hm (bJ.front (A:=[cZ b true v5.v false,aT true v5.v l,ak b1 true (qK p (cX c)),ak b2 true [wP b]]) (iG.ent hH hD))).post ?_;rintro r hs ⟨rfl,v',rfl⟩;exact⟨_,bJ.sub (((((List.Sublist.refl _).cons _).cons_cons _).cons_cons _).cons_cons _ |>.cons_cons _),rfl,v',rfl⟩
 ·rintro y hs ⟨rfl,v',rfl⟩;exact⟨v',_,_,false,rfl,rfl,h v'⟩
set_option maxRecDepth 100000 in
set_option maxHeartbeats 4000000 in
theorem KH(b b1:Nat)(v u1 u2 u3 u4 u5 u6 u7:V1)(l:List Nat)(s:Vs.State)(C:Nat→Int)(H:HP)(hH:H.wr=false)(hP:ob H s.table.bA C)(hs:CA s)(hl:l.length+(bq.enc s).length≤140737488355328):
  aq aqQ 32 [wP b,wP b1] [cZ b true v.v false,aT true v.v l,ak b1 true (jO s u1.v u2.v u3.v u4.v u5.v u6.v u7.v),CC false u1.v s.table.keys.once,KG false u2.v s.table.bA C,By false u3.v s.call.dead,aT false u4.v s.call.marks,Bz false u5.v s.call.early,aT false u6.v s.log,uz false u7.v s.aO,H]
   fun r hs=>r= .tuple #[]∧∃v':V1,hs=[cZ b true v'.v false,aT true v'.v (l++bq.enc s)]:=by
 obtain⟨h1,h2,h3,h4,h5,h6,h7,h8,h9,h10,Wm,Yk,Sp,h14,h15,h16,h17,h18,h19,h20,h21,h22,h23,h24,h25,h26,h27,h28,h29,h30,h31,h32,h33,h34,h35⟩:=hs;have hL:(bq.enc s).length=110+(s.table.keys.once.flatMap dG.enc).length+8+(s.table.bA.flatMap bO.enc).length+14+(s.call.dead.flatMap (raw 16).enc).length+117+4+s.call.marks.length+1+4+(s.call.early.flatMap gu.enc).length+44+4+s.log.length+4+(s.aO.flatMap dQ.enc).length:=by
  rw [vJ];simp only [aql,au,aqm];omega
 rw [hL]at hl;refine We _ (l.length:Int) (s.drawn:Int) (s.table.keys.dev.a:Int) (s.table.keys.dev.d:Int) (s.table.most:Int) (s.call.me.a:Int) (s.call.me.d:Int) (s.call.state:Int) (bi s.call.out) (s.call.aX:Int) (s.call.peer.a:Int) (s.call.peer.d:Int) ((s.call.hJ:Int) - 1) (s.call.fi:Int) (s.call.cc:Int) (s.call.since:Int) (s.call.heard:Int) (s.call.oa:Int) (s.call.jh:Int)
  (s.table.keys.once.length:Int) (s.table.bA.length:Int) (s.call.dead.length:Int) (s.call.marks.length:Int) (s.call.early.length:Int) (s.log.length:Int) (s.aO.length:Int)
  (aL l) (aL s.oN) (aL s.table.keys.ident) (aL s.table.keys.signed) (aL s.call.d_) (aL s.call.id) (aL s.call.own) (aL s.call.ef) (aL s.call.jg) (cu dx.id s.table.keys.once) (dV dx.dY s.table.keys.once) (cu (·.dev.a) s.table.bA) (cu (·.dev.d) s.table.bA) C (dV (fun x=>x) s.call.dead) (aL s.call.marks) (cu jW.a s.call.early) (cu jW.d s.call.early) (aL s.log) (dV Room.id s.aO) (cu Room.aX s.aO) (jm Room.out s.aO) (cu Room.since s.aO) v u1 u2 u3 u4 u5 u6 u7 b b1 H ?_
 unfold NZ;dsimp only [bp,Ei,n_,GK,cV,Qr];intro _ _;refine⟨by omega,fun _=>⟨by omega,fun _ _ _=>?_⟩⟩;refine aJ (kn:=8) (x:=s.drawn) (l:=l++s.oN) (.inr (.inr ⟨rfl,rfl⟩)) rfl (cd.rfl.jl (by omega) (by omega) fun _ _=>rfl) (by first | omega | (simp only [aql];omega)) rfl (by first | omega | (simp only [aql];omega)) fun v9=>?_
 obtain⟨L1,Wn⟩: ∃L,L=l++s.oN++be 8 s.drawn:=⟨_,rfl⟩;have n1:L1.length=l.length+40:=by rw [Wn];simp only [aql,au];omega
 rw [←Wn];intro _ _ _ _;refine aJ (kn:=1) (x:=s.table.keys.dev.a) (l:=L1) (.inl ⟨rfl,rfl⟩) (iz (by omega)) cd.rfl rfl rfl (by first | omega | (simp only [aql,au,aqm];omega)) fun v10=>?_
 refine aJ (kn:=1) (x:=s.table.keys.dev.d) (l:=L1++be 1 s.table.keys.dev.a) (.inl ⟨rfl,rfl⟩) (iz (by omega)) cd.rfl rfl rfl (by first | omega | (simp only [aql,au];omega)) fun v11=>?_
 obtain⟨L2,Wo⟩: ∃L,L=L1++be 1 s.table.keys.dev.a++be 1 s.table.keys.dev.d:=⟨_,rfl⟩;have n2:L2.length=l.length+42:=by rw [Wo];simp only [aql,au];omega
 rw [←Wo];intro _;refine⟨by omega,fun _=>⟨by omega,fun _ _=>⟨by omega,fun _=>⟨by omega,fun _ _=>⟨by omega,fun _=>?_⟩⟩⟩⟩⟩;refine aJ (kn:=4) (x:=s.table.keys.once.length) (l:=L2++s.table.keys.ident++s.table.keys.signed) (.inr (.inl ⟨rfl,rfl⟩)) (iz h7) ((cd.rfl.jl (by omega) (by omega) fun _ _=>rfl).jl (by first | omega | (simp only [aql];omega)) (by omega) fun _ _=>rfl) (by first | omega | (simp only [aql];omega)) rfl (by first | omega | (simp only [aql];omega)) fun tw=>?_
 obtain⟨L3,OB⟩: ∃L,L=L2++s.table.keys.ident++s.table.keys.signed++be 4 s.table.keys.once.length:=⟨_,rfl⟩;have n3:L3.length=l.length+110:=by rw [OB];simp only [aql,au];omega
 rw [←OB];refine pO s.table.keys.once dG.enc L3 rfl cd.rfl rfl ?_ ?_
 ·intro I m i hi w A q hA Ss hle;have hm:=List.getElem_mem hi;have d1:=h8 _ hm;have d2:=h9 _ hm;simp only [zn,aql,au,d2]at hle;refine⟨by omega,fun _ _ _=>?_⟩;refine aJ (kn:=4) (x:=s.table.keys.once[i].id) (l:=L3++(s.table.keys.once.take i).flatMap dG.enc) (.inr (.inl ⟨rfl,rfl⟩)) (by rw [aqD,jE _ _ _ hi];exact iz d1) hA rfl rfl (by first | omega | (simp only [aql];omega)) fun rS=>?_
  intro _;refine⟨by omega,fun _=>⟨by first | omega | (simp only [aql,au];omega),fun _ px=>⟨by omega,fun _=>⟨by omega,fun _=>?_⟩⟩⟩⟩;have hk:cd (bQ (aL (L3++(s.table.keys.once.take i).flatMap dG.enc++be 4 s.table.keys.once[i].id)) (ag ((L3++(s.table.keys.once.take i).flatMap dG.enc++be 4 s.table.keys.once[i].id).length:Int)) 32 (bS (dV dx.dY s.table.keys.once) (ag ((i:Int)*32)))) (L3++(s.table.keys.once.take i).flatMap dG.enc++dG.enc s.table.keys.once[i]):=by
   rw [zn,←List.append_assoc];refine cd.rfl.jl (by omega) (by omega) fun j hj=>?_
   show aL _ (_+j)=_;rw [show(((i:Int)*32).toNat+j)=i*32+j by omega];exact l_ dx.dY 32 _ h9 i j hi hj
  exact⟨px,_,_,_,false,rfl,rfl,rfl,rfl,fun _ _=>rfl,Ss px _ false _ _ rfl (by rw [zn];simp only [aql,au,d2];omega) hk⟩
 intro pP gP KJ aeO;refine aJ (kn:=4) (x:=s.table.most) (l:=L3++s.table.keys.once.flatMap dG.enc) (.inr (.inl ⟨rfl,rfl⟩)) (iz h10) aeO rfl rfl (by first | omega | (simp only [aql];omega)) fun rS=>?_
 iterate 3 refine⟨by omega,fun _=>?_⟩
 refine aJ (kn:=4) (x:=s.table.bA.length) (l:=L3++s.table.keys.once.flatMap dG.enc++be 4 s.table.most) (.inr (.inl ⟨rfl,rfl⟩)) (iz Wm) cd.rfl rfl rfl (by first | omega | (simp only [aql,au];omega)) fun px=>?_
 obtain⟨L5,hL5⟩: ∃L,L=L3++s.table.keys.once.flatMap dG.enc++be 4 s.table.most++be 4 s.table.bA.length:=⟨_,rfl⟩;have n5:L5.length=l.length+118+(s.table.keys.once.flatMap dG.enc).length:=by rw [hL5];simp only [aql,au];omega
 rw [←hL5];refine pO s.table.bA bO.enc L5 rfl cd.rfl rfl ?_ ?_
 ·intro I m i hi w A q hA Ss hle;refine⟨by omega,fun _ F3=>?_⟩;refine OD (p:=s.table.bA[i]) (c:=C i) (l:=L5++(s.table.bA.take i).flatMap bO.enc) (by simp only [aqD];rw [jE (·.dev.a) _ _ hi,jE (·.dev.d) _ _ hi]) hH (hP i hi) (Yk _ (List.getElem_mem hi)) hA rfl (by simp only [aql]at hle ⊢;omega) fun so=>?_
  exact⟨by omega,fun _=>⟨by omega,fun _=>⟨so,_,_,_,false,rfl,rfl,rfl,rfl,fun _ _=>rfl,Ss so _ false _ _ rfl rfl cd.rfl⟩⟩⟩
 intro p8 fe QF Wp;intro _ _ _;refine aJ (kn:=1) (x:=s.call.me.a) (l:=L5++s.table.bA.flatMap bO.enc) (.inl ⟨rfl,rfl⟩) (iz (by omega)) Wp rfl rfl (by first | omega | (simp only [aql];omega)) fun so=>?_
 refine aJ (kn:=1) (x:=s.call.me.d) (l:=L5++s.table.bA.flatMap bO.enc++be 1 s.call.me.a) (.inl ⟨rfl,rfl⟩) (iz (by omega)) cd.rfl rfl rfl (by first | omega | (simp only [aql,au];omega)) fun v20=>?_
 obtain⟨L6,hL6⟩: ∃L,L=L5++s.table.bA.flatMap bO.enc++be 1 s.call.me.a++be 1 s.call.me.d:=⟨_,rfl⟩;have n6:L6.length=l.length+120+(s.table.keys.once.flatMap dG.enc).length+(s.table.bA.flatMap bO.enc).length:=by rw [hL6];simp only [aql,au];omega
 rw [←hL6];refine⟨by omega,fun _=>⟨by first | omega | (simp only [aql,au,aqm];omega),fun _ _=>⟨by omega,fun _=>?_⟩⟩⟩;refine aJ (kn:=4) (x:=s.call.dead.length) (l:=L6++s.call.d_) (.inr (.inl ⟨rfl,rfl⟩)) (iz h16) (cd.rfl.jl (by omega) (by omega) fun _ _=>rfl) (by first | omega | (simp only [aql];omega)) rfl (by first | omega | (simp only [aql];omega)) fun xZ=>?_
 obtain⟨L7,hL7⟩: ∃L,L=L6++s.call.d_++be 4 s.call.dead.length:=⟨_,rfl⟩;have n7:L7.length=l.length+132+(s.table.keys.once.flatMap dG.enc).length+(s.table.bA.flatMap bO.enc).length:=by rw [hL7];simp only [aql,au];omega
 rw [←hL7];refine pO s.call.dead (raw 16).enc L7 rfl cd.rfl rfl ?_ ?_
 ·intro I m i hi w A q hA Ss hle;have d1:=h17 _ (List.getElem_mem hi);rw [CB,d1]at hle;simp only [aql]at hle;refine⟨by omega,fun _ _=>⟨by omega,fun _=>⟨by first | omega | (simp only [aql];omega),fun _ zg=>⟨by omega,fun _=>⟨by omega,fun _=>?_⟩⟩⟩⟩⟩;have hk:cd (bQ A (ag ((L7++(s.call.dead.take i).flatMap (raw 16).enc).length:Int)) 16 (bS (dV (fun x=>x) s.call.dead) (ag ((i:Int)*16)))) (L7++(s.call.dead.take i).flatMap (raw 16).enc++(raw 16).enc s.call.dead[i]):=by
   rw [CB];refine hA.jl (by omega) (by omega) fun j hj=>?_
   show aL _ (_+j)=_;rw [show(((i:Int)*16).toNat+j)=i*16+j by omega];exact l_ (fun x=>x) 16 _ h17 i j hi hj
  exact⟨zg,_,_,_,false,rfl,rfl,rfl,rfl,fun _ _=>rfl,Ss zg _ false _ _ rfl (by rw [CB];simp only [aql,d1];omega) hk⟩
 intro vF lY q23 aeS;intro _;refine aJ (kn:=1) (x:=s.call.state) (l:=L7++s.call.dead.flatMap (raw 16).enc) (.inl ⟨rfl,rfl⟩) (iz (by omega)) aeS rfl rfl (by first | omega | (simp only [aql];omega)) fun zg=>?_
 obtain⟨L8,hL8⟩: ∃L,L=L7++s.call.dead.flatMap (raw 16).enc++be 1 s.call.state:=⟨_,rfl⟩;have n8:L8.length=l.length+133+(s.table.keys.once.flatMap dG.enc).length+(s.table.bA.flatMap bO.enc).length+(s.call.dead.flatMap (raw 16).enc).length:=by rw [hL8];simp only [aql,au];omega
 rw [←hL8];refine⟨by omega,fun _=>⟨by first | omega | (simp only [aql,au,aqm];omega),fun _ wV Sf=>?_⟩⟩;refine Oz (l:=L8++s.call.id) (cd.rfl.jl (by omega) (by omega) fun _ _=>rfl) (by first | omega | (simp only [aql];omega)) rfl (by first | omega | (simp only [aql];omega)) fun uV=>?_
 obtain⟨L9,hL9⟩: ∃L,L=L8++s.call.id++[if s.call.out then 1 else 0]:=⟨_,rfl⟩;have n9:L9.length=l.length+150+(s.table.keys.once.flatMap dG.enc).length+(s.table.bA.flatMap bO.enc).length+(s.call.dead.flatMap (raw 16).enc).length:=by rw [hL9];simp only [aql,aqm];omega
 rw [←hL9];intro _;refine aJ (kn:=1) (x:=s.call.aX) (l:=L9) (.inl ⟨rfl,rfl⟩) (iz (by omega)) cd.rfl rfl rfl (by first | omega | (simp only [aql,au,aqm];omega)) fun vH=>?_
 intro _ _;refine aJ (kn:=1) (x:=s.call.peer.a) (l:=L9++be 1 s.call.aX) (.inl ⟨rfl,rfl⟩) (iz (by omega)) cd.rfl rfl rfl (by first | omega | (simp only [aql,au];omega)) fun xG=>?_
 refine aJ (kn:=1) (x:=s.call.peer.d) (l:=L9++be 1 s.call.aX++be 1 s.call.peer.a) (.inl ⟨rfl,rfl⟩) (iz (by omega)) cd.rfl rfl rfl (by first | omega | (simp only [aql,au];omega)) fun As=>?_
 obtain⟨L10,Wq⟩: ∃L,L=L9++be 1 s.call.aX++be 1 s.call.peer.a++be 1 s.call.peer.d:=⟨_,rfl⟩;have n10:L10.length=l.length+153+(s.table.keys.once.flatMap dG.enc).length+(s.table.bA.flatMap bO.enc).length+(s.call.dead.flatMap (raw 16).enc).length:=by rw [Wq];simp only [aql,au];omega
 rw [←Wq];intro _;refine⟨by omega,fun _=>⟨by first | omega | (simp only [aql,au,aqm];omega),fun _ _=>⟨by omega,fun _=>⟨by first | omega | (simp only [aql,au,aqm];omega),fun _ _=>⟨by omega,fun _=>⟨by first | omega | (simp only [aql,au,aqm];omega),fun _ _=>⟨by omega,fun _=>?_⟩⟩⟩⟩⟩⟩⟩;refine aJ (kn:=4) (x:=s.call.marks.length) (l:=L10++s.call.own++s.call.ef++s.call.jg) (.inr (.inl ⟨rfl,rfl⟩)) (iz h26) (((cd.rfl.jl (by omega) (by omega) fun _ _=>rfl).jl (by first | omega | (simp only [aql];omega)) (by omega) fun _ _=>rfl).jl (by first | omega | (simp only [aql];omega)) (by omega) fun _ _=>rfl) (by first | omega | (simp only [aql];omega)) rfl (by first | omega | (simp only [aql];omega)) fun Sg=>?_
 obtain⟨L11,Ws⟩: ∃L,L=L10++s.call.own++s.call.ef++s.call.jg++be 4 s.call.marks.length:=⟨_,rfl⟩;have n11:L11.length=l.length+253+(s.table.keys.once.flatMap dG.enc).length+(s.table.bA.flatMap bO.enc).length+(s.call.dead.flatMap (raw 16).enc).length:=by rw [Ws];simp only [aql,au];omega
 rw [←Ws];refine⟨by omega,fun _=>⟨by first | omega | (simp only [aql,au,aqm];omega),fun _ _=>⟨by omega,fun _=>⟨by omega,fun _=>?_⟩⟩⟩⟩;refine aJ (kn:=1) (x:=s.call.hJ) (l:=L11++s.call.marks) (.inl ⟨rfl,rfl⟩) (by rw [Int.sub_add_cancel];exact iz (by omega)) (cd.rfl.jl (by omega) (by omega) fun _ _=>rfl) (by first | omega | (simp only [aql];omega)) rfl (by first | omega | (simp only [aql];omega)) fun Si=>?_
 obtain⟨L12,Wt⟩: ∃L,L=L11++s.call.marks++be 1 s.call.hJ:=⟨_,rfl⟩;have n12:L12.length=l.length+254+s.call.marks.length+(s.table.keys.once.flatMap dG.enc).length+(s.table.bA.flatMap bO.enc).length+(s.call.dead.flatMap (raw 16).enc).length:=by rw [Wt];simp only [aql,au];omega
 rw [←Wt]
 iterate 5 refine⟨by omega,fun _=>?_⟩
 refine aJ (kn:=4) (x:=s.call.early.length) (l:=L12) (.inr (.inl ⟨rfl,rfl⟩)) (iz h28) cd.rfl rfl rfl (by first | omega | (simp only [aql,au,aqm];omega)) fun QC=>?_
 obtain⟨KK,Wu⟩: ∃L,L=L12++be 4 s.call.early.length:=⟨_,rfl⟩;have n13:KK.length=l.length+258+s.call.marks.length+(s.table.keys.once.flatMap dG.enc).length+(s.table.bA.flatMap bO.enc).length+(s.call.dead.flatMap (raw 16).enc).length:=by rw [Wu];simp only [aql,au];omega
 rw [←Wu];refine pO s.call.early gu.enc KK rfl cd.rfl rfl ?_ ?_
 ·intro I m i hi w A q hA Ss hle;have hm:=List.getElem_mem hi;have d1:=h29 _ hm;have d2:=h30 _ hm;simp only [IJ,aql,au]at hle;refine⟨by omega,fun _ _ _ _=>?_⟩;refine aJ (kn:=1) (x:=s.call.early[i].a) (l:=KK++(s.call.early.take i).flatMap gu.enc) (.inl ⟨rfl,rfl⟩) (by rw [aqD,jE _ _ _ hi];exact iz (by omega)) hA rfl rfl (by first | omega | (simp only [aql];omega)) fun F4=>?_
  refine aJ (kn:=1) (x:=s.call.early[i].d) (l:=KK++(s.call.early.take i).flatMap gu.enc++be 1 s.call.early[i].a) (.inl ⟨rfl,rfl⟩) (by rw [aqD,jE _ _ _ hi];exact iz (by omega)) cd.rfl rfl rfl (by first | omega | (simp only [aql,au];omega)) fun Er=>?_
  have hk:KK++(s.call.early.take i).flatMap gu.enc++be 1 s.call.early[i].a++be 1 s.call.early[i].d=KK++(s.call.early.take i).flatMap gu.enc++gu.enc s.call.early[i]:=by rw [IJ,List.append_assoc _ (be 1 _)]
  rw [hk];exact⟨by omega,fun _=>⟨by omega,fun _=>⟨Er,_,_,_,false,rfl,rfl,rfl,rfl,fun _ _=>rfl,Ss Er _ false _ _ rfl rfl cd.rfl⟩⟩⟩
 intro GM Qv q37 aeZ;intro _;refine aJ (kn:=8) (x:=s.call.fi) (l:=KK++s.call.early.flatMap gu.enc) (.inr (.inr ⟨rfl,rfl⟩)) rfl aeZ rfl rfl (by first | omega | (simp only [aql];omega)) fun F4=>?_
 refine aJ (kn:=8) (x:=s.call.cc) (l:=KK++s.call.early.flatMap gu.enc++be 8 s.call.fi) (.inr (.inr ⟨rfl,rfl⟩)) rfl cd.rfl rfl rfl (by first | omega | (simp only [aql,au];omega)) fun Er=>?_
 refine aJ (kn:=8) (x:=s.call.since) (l:=KK++s.call.early.flatMap gu.enc++be 8 s.call.fi++be 8 s.call.cc) (.inr (.inr ⟨rfl,rfl⟩)) rfl cd.rfl rfl rfl (by first | omega | (simp only [aql,au];omega)) fun QD=>?_
 refine aJ (kn:=8) (x:=s.call.heard) (l:=KK++s.call.early.flatMap gu.enc++be 8 s.call.fi++be 8 s.call.cc++be 8 s.call.since) (.inr (.inr ⟨rfl,rfl⟩)) rfl cd.rfl rfl rfl (by first | omega | (simp only [aql,au];omega)) fun Kw=>?_
 refine aJ (kn:=8) (x:=s.call.oa) (l:=KK++s.call.early.flatMap gu.enc++be 8 s.call.fi++be 8 s.call.cc++be 8 s.call.since++be 8 s.call.heard) (.inr (.inr ⟨rfl,rfl⟩)) rfl cd.rfl rfl rfl (by first | omega | (simp only [aql,au];omega)) fun N1=>?_
 intro _;refine aJ (kn:=4) (x:=s.call.jh) (l:=KK++s.call.early.flatMap gu.enc++be 8 s.call.fi++be 8 s.call.cc++be 8 s.call.since++be 8 s.call.heard++be 8 s.call.oa) (.inr (.inl ⟨rfl,rfl⟩)) (iz h31) cd.rfl rfl rfl (by first | omega | (simp only [aql,au];omega)) fun QE=>?_
 obtain⟨L14,Wv⟩: ∃L,L=KK++s.call.early.flatMap gu.enc++be 8 s.call.fi++be 8 s.call.cc++be 8 s.call.since++be 8 s.call.heard++be 8 s.call.oa++be 4 s.call.jh:=⟨_,rfl⟩;have n14:L14.length=l.length+302+s.call.marks.length+(s.call.early.flatMap gu.enc).length+(s.table.keys.once.flatMap dG.enc).length+(s.table.bA.flatMap bO.enc).length+(s.call.dead.flatMap (raw 16).enc).length:=by rw [Wv];simp only [aql,au];omega
 rw [←Wv];refine⟨by omega,fun _=>?_⟩;refine aJ (kn:=4) (x:=s.log.length) (l:=L14) (.inr (.inl ⟨rfl,rfl⟩)) (iz h32) cd.rfl rfl rfl (by first | omega | (simp only [aql,au,aqm];omega)) fun Ud=>?_
 obtain⟨L15,Ww⟩: ∃L,L=L14++be 4 s.log.length:=⟨_,rfl⟩;have n15:L15.length=l.length+306+s.call.marks.length+(s.call.early.flatMap gu.enc).length+(s.table.keys.once.flatMap dG.enc).length+(s.table.bA.flatMap bO.enc).length+(s.call.dead.flatMap (raw 16).enc).length:=by rw [Ww];simp only [aql,au];omega
 rw [←Ww];refine⟨by omega,fun _=>⟨by first | omega | (simp only [aql,au,aqm];omega),fun _ _=>⟨by omega,fun _=>?_⟩⟩⟩;refine aJ (kn:=4) (x:=s.aO.length) (l:=L15++s.log) (.inr (.inl ⟨rfl,rfl⟩)) (iz h33) (cd.rfl.jl (by omega) (by omega) fun _ _=>rfl) (by first | omega | (simp only [aql];omega)) rfl (by first | omega | (simp only [aql];omega)) fun v46=>?_
 obtain⟨Uh,Wx⟩: ∃L,L=L15++s.log++be 4 s.aO.length:=⟨_,rfl⟩;have n16:Uh.length=l.length+310+s.log.length+s.call.marks.length+(s.call.early.flatMap gu.enc).length+(s.table.keys.once.flatMap dG.enc).length+(s.table.bA.flatMap bO.enc).length+(s.call.dead.flatMap (raw 16).enc).length:=by rw [Wx];simp only [aql,au];omega
 rw [←Wx];refine pO s.aO dQ.enc Uh rfl cd.rfl rfl ?_ ?_
 ·intro I m i hi w A q hA Ss hle;have hm:=List.getElem_mem hi;have d1:=h34 _ hm;have d2:=h35 _ hm;have GV:=hle;simp only [EL,aql,au,aqm,d1]at GV;refine⟨by omega,fun _ _=>⟨by omega,fun _=>⟨by first | omega | (simp only [aql];omega),fun _ LP _=>?_⟩⟩⟩;refine aJ (kn:=1) (x:=s.aO[i].aX) (l:=Uh++(s.aO.take i).flatMap dQ.enc++s.aO[i].id) (.inl ⟨rfl,rfl⟩) (by rw [aqD,jE _ _ _ hi];exact iz (by omega)) (hA.jl (by omega) (by omega) fun j hj=>?_) (by first | omega | (simp only [aql];omega)) rfl (by first | omega | (simp only [aql];omega)) fun GN=>?_
  ·show aL _ (_+j)=_;rw [show(((i:Int)*16).toNat+j)=i*16+j by omega];exact l_ Room.id 16 _ h34 i j hi hj
  intro Yj;rw [show jm Room.out s.aO (ag (i:Int))=bi s.aO[i].out by rw [aqD];exact mU _ _ _ hi];refine Ow (l:=Uh++(s.aO.take i).flatMap dQ.enc++s.aO[i].id++be 1 s.aO[i].aX) cd.rfl rfl rfl (by first | omega | (simp only [aql,au];omega)) fun GO=>?_
  intro _;refine aJ (kn:=8) (x:=s.aO[i].since) (l:=Uh++(s.aO.take i).flatMap dQ.enc++s.aO[i].id++be 1 s.aO[i].aX++[if s.aO[i].out then 1 else 0]) (.inr (.inr ⟨rfl,rfl⟩)) (by rw [aqD,jE _ _ _ hi]) cd.rfl rfl rfl (by first | omega | (simp only [aql,au,aqm];omega)) fun GQ=>?_
  have hk:Uh++(s.aO.take i).flatMap dQ.enc++s.aO[i].id++be 1 s.aO[i].aX++[if s.aO[i].out then 1 else 0]++be 8 s.aO[i].since=Uh++(s.aO.take i).flatMap dQ.enc++dQ.enc s.aO[i]:=by rw [EL];simp only [List.append_assoc]
  rw [hk];exact⟨by omega,fun _=>⟨by omega,fun _=>⟨GQ,_,_,_,false,rfl,rfl,rfl,rfl,fun _ _=>rfl,Ss GQ _ false _ _ rfl rfl cd.rfl⟩⟩⟩
 intro AK Kr q47 aaz;have OC:Uh++s.aO.flatMap dQ.enc=l++bq.enc s:=by
  rw [Wx,Ww,Wv,Wu,Wt,Ws,Wq,hL9,hL8,hL7,hL6,hL5,OB,Wo,Wn,vJ];simp only [List.append_assoc]
 rw [OC]at aaz ⊢;rw [aqD,aaz.xE];exact⟨rfl,AK,rfl⟩
end Go.RX.Vb

namespace Go.RX
def F.leaf(ok:SV→List Ck→Bool):F→List Bool→Bool
 | .vc b r,p=>b.sure&&r.leaf ok p
 | .fork c t e,p=>match c.sS with
  | some true=>t.leaf ok p
  | some false=>e.leaf ok p
  | none=>match p with
   | []=>t.leaf ok []&&e.leaf ok []
   | false::p=>t.leaf ok p
   | true::p=>e.leaf ok p
 | .ret u hp,_=>ok u hp
 | .BQ r,p=>r.leaf ok p
 | .uY r,p=>r.leaf ok p
 | .Gb r,p=>r.leaf ok p
 | .oZ _ r,p=>r.leaf ok p
 | .both a b,p=>match p with
  | []=>a.leaf ok []&&b.leaf ok []
  | false::p=>a.leaf ok p
  | true::p=>b.leaf ok p
 | _,_=>false
theorem F.jG{ok:SV→List Ck→Bool}(f:F): ∀(p:List Bool),f.leaf ok (p++[false])=true→f.leaf ok (p++[true])=true→f.leaf ok p=true:=by
 induction f with
 | vc b r ih=>
  intro p h1 h2;simp only [F.leaf,ai]at h1 h2 ⊢;exact⟨h1.1,ih p h1.2 h2.2⟩
 | fork c t e FL FM=>
  intro p h1 h2;simp only [F.leaf]at h1 h2 ⊢;cases hc:c.sS with
  | some b=>cases b with
   | true=>simp only [hc]at h1 h2 ⊢;exact FL p h1 h2
   | false=>simp only [hc]at h1 h2 ⊢;exact FM p h1 h2
  | none=>
   simp only [hc]at h1 h2 ⊢;cases p with
   | nil=>simp only [List.nil_append]at h1 h2;simp only [h1,h2,Bool.and_self]
   | cons x p=>cases x with
    | false=>exact FL p h1 h2
    | true=>exact FM p h1 h2
 | ret u hp=>intro p h1 _;exact h1
 | BQ r ih=>intro p h1 h2;exact ih p h1 h2
 | uY r ih=>intro p h1 h2;exact ih p h1 h2
 | Gb r ih=>intro p h1 h2;exact ih p h1 h2
 | oZ b r ih=>intro p h1 h2;exact ih p h1 h2
 | both a b lC qj=>
  intro p h1 h2;cases p with
  | nil=>simp only [F.leaf,List.nil_append]at h1 h2 ⊢;simp only [h1,h2,Bool.and_self]
  | cons x p=>cases x with
   | false=>exact lC p h1 h2
   | true=>exact qj p h1 h2
 | fail=>intro p h1;simp [F.leaf]at h1
 | call=>intro p h1;simp [F.leaf]at h1
 | ext=>intro p h1;simp [F.leaf]at h1
 | loop=>intro p h1;simp [F.leaf]at h1
 | back=>intro p h1;simp [F.leaf]at h1
 | join=>intro p h1;simp [F.leaf]at h1
 | meet=>intro p h1;simp [F.leaf]at h1
 | ghost=>intro p h1;simp [F.leaf]at h1
theorem F.GX{P:Program}{f:F}{ok:SV→List Ck→Bool}{Q:Value→List HP→Prop}(hq: ∀u hp ρ,ok u hp=true→Q (u.val ρ) (hp.map (Ck.den ρ)))(ρ:Env)(L:Nat→LC)(h:f.leaf ok []=true):VC P Q f ρ L:=by
 induction f generalizing ρ L with
 | vc b r ih=>
  simp only [F.leaf,ai]at h;exact⟨(BE.bK ρ b).1 (vC h.1 ρ),fun _=>ih ρ L h.2⟩
 | fork c t e FL FM=>
  simp only [F.leaf]at h;split at h
  ·rename_i hc;unfold BE.sS at hc;split at hc
   ·rename_i hs;simp only [aqp]at hc;exact⟨fun _=>FL ρ L h,fun hn=>absurd ((BE.bK ρ c).1 (by rw [kP hs];exact hc)) hn⟩
   ·cases hc
  ·rename_i hc;unfold BE.sS at hc;split at hc
   ·rename_i hs;simp only [aqp]at hc;refine⟨fun hn=>?_,fun _=>FM ρ L h⟩;have:=(BE.bK ρ c).2 hn;rw [kP hs,hc]at this;cases this
   ·cases hc
  ·simp only [ai]at h;exact⟨fun _=>FL ρ L h.1,fun _=>FM ρ L h.2⟩
 | ret u hp=>exact hq u hp ρ h
 | BQ r ih=>exact fun _=>ih _ L h
 | uY r ih=>exact fun _=>ih _ L h
 | Gb r ih=>exact ih _ L h
 | oZ b r ih=>cases b with
  | true=>exact fun _ _ _=>ih _ L h
  | false=>exact fun _ _=>ih _ L h
 | fail=>simp [F.leaf]at h
 | call=>simp [F.leaf]at h
 | ext=>simp [F.leaf]at h
 | loop=>simp [F.leaf]at h
 | back=>simp [F.leaf]at h
 | join=>simp [F.leaf]at h
 | meet=>simp [F.leaf]at h
 | ghost=>simp [F.leaf]at h
 | both a b lC qj=>
  simp only [F.leaf,ai]at h;exact⟨lC ρ L h.1,qj ρ L h.2⟩
end Go.RX
namespace Go.RX.Vb
open Go Go.RX Go.Proofs Go.Vs
noncomputable def QG:Ctx:={T:=TT,FT:=FT,mQ:=Vx.mQ}
def z8(n:Nat):List SV:=List.replicate n (.int .u8 (.lit 0))
def b8(n:Int):SV:= .int .u8 (.lit n)
def plA:List SV:=b8 5::z8 31++[.int .u64 (.lit 0),b8 1,b8 2]++(b8 1::z8 31)++(b8 2::z8 31)
def plB:List SV:=[.int .i64 (.lit 31),.bu,b8 1,b8 2,b8 1,b8 4]++z8 6++[.bu,b8 0]++z8 16++[.bool (.lit false),b8 0,b8 0,b8 0]++z8 32++z8 32++z8 32++[.bu,.int .i64 (.lit (-1)),.bu,.int .u64 (.lit 0),.int .u64 (.lit 0),.int .u64 (.lit 0),.int .u64 (.lit 0),.int .u64 (.lit 0),.int .u32 (.lit 0),.bu,.bu]
def Su:List Nat:=List.replicate 32 0
def hU:List dx:=[⟨3,4::List.replicate 31 0⟩]
def plain(o:List dx):Vs.State:=⟨5::List.replicate 31 0,0,⟨⟨⟨1,2⟩,1::List.replicate 31 0,2::List.replicate 31 0,o⟩,31,[]⟩,⟨⟨1,2⟩,[1,4,0,0,0,0,0,0],[],0,List.replicate 16 0,false,0,⟨0,0⟩,Su,Su,Su,[],0,[],0,0,0,0,0,0⟩,[],[]⟩
abbrev bg:V1:=⟨.slice none 0 0,rfl⟩
def GY(cs:List bL):Bool:=match cs with
 | [⟨.int .u32,1,a⟩,⟨.int .u8,32,b⟩]=>eD (eu a (.lit 0))==some 3&&(List.range 32).all fun j=>eD (eu b (.lit j))==some (if j=0 then 4 else 0)
 | _=>false
def zo(u:SV)(hp:List Ck):Bool:=match u with
 | .agg cs=>ez ((gK cs).take 99) plA&&ez ((gK cs).drop 100) plB&&(match ((gK cs)[99]? :Option SV)with
  | some .bu=>true
  | some (.vv k)=>(match hp with
   | [_,.cr true k' 93 33 n ay]=>k==k'&&eD n==some 1&&GY ay
   | _=>false)
  | _=>false)
 | _=>false
set_option maxRecDepth 100000 in
theorem BA(ρ:Env)(o:List dx)(v:Value):SV.ao ρ plA++v::SV.ao ρ plB=jO (plain o) v bg.v bg.v bg.v bg.v bg.v bg.v:=by rfl
open Go Go.RX Go.Proofs Go.Vs
theorem OE:(nZ QG 20 [] [] {} Tryz.f20).leaf zo [true,false]=true:=by kernel_rfl
theorem OF:(nZ QG 20 [] [] {} Tryz.f20).leaf zo [true,true]=true:=by kernel_rfl
theorem KL:(nZ QG 20 [] [] {} Tryz.f20).leaf zo [false,true,false]=true:=by kernel_rfl
theorem KM:(nZ QG 20 [] [] {} Tryz.f20).leaf zo [false,true,true]=true:=by kernel_rfl
open Go Go.RX Go.Proofs Go.Vs
theorem GZ:(nZ QG 20 [] [] {} Tryz.f20).leaf zo [false,false,false,false]=true:=by kernel_rfl
theorem G0:(nZ QG 20 [] [] {} Tryz.f20).leaf zo [false,false,false,true]=true:=by kernel_rfl
theorem G1:(nZ QG 20 [] [] {} Tryz.f20).leaf zo [false,false,true,false]=true:=by kernel_rfl
theorem G2:(nZ QG 20 [] [] {} Tryz.f20).leaf zo [false,false,true,true]=true:=by kernel_rfl
open Go.RX Go.Proofs
noncomputable def cxT:Ctx:={T:=TT,FT:=FT,bj:=Vt.bj,mQ:=Vt.mQ}
open Go.RX Go.Proofs
set_option maxRecDepth 100000
def IK(al:PT)(x0:Int)(A0:Nat→Int)(v0:V1):Prop:=
 ∀b0 b1:Nat,ax (0≤x0) (
 iQ (x0 - 8) ((
 br (4194304<x0) (
 al (.tuple #[Ya,.int .i64 3]) [T1 b0]) (
 ax (((x0 - 8)<10)∨(6≤x0)) (
 ax (((x0 - 8)<10)∨(6≤x0)) (
 br (((x0 - 8)<10)∨(¬(dc (sV A0 6)=dc (Mr [6,72,76,83,84,0,1])))) (
 al (.tuple #[Ya,.int .i64 9]) [T1 b0]) (
 ax (10≤x0) (
 ∀b2:Nat,∃Ig4:Ext→Prop,(∀(w:World) (Fs:List HP),bG ([ak b2 true ([.bool false,(aE 1 v0.v 6 10 none),.bool false]),bf v0 x0 A0]++Fs) w→∃(v1:V1) (x1:Int) (A1:Nat→Int),∃p0:HP,bG ([Ej b2 v1,bf v0 x0 A0,bf v1 x1 A1]++Fs) w∧Ig4 ⟨[],[v1],[x1],[A1],[],[p0],[]⟩)∧
 (∀(v1:V1) (x1:Int) (A1:Nat→Int),∀p0:HP,Ig4 ⟨[],[v1],[x1],[A1],[],[p0],[]⟩→
 ax (0≤(x0 - 8)) (
 ax ((x0 - 8)≤x0) (
 ∀b3:Nat,Cl 22 [.slice (some ⟨b3,0,none⟩) 1 1] [ak b3 true ([(aE 1 v0.v 0 (ag (x0 - 8)) none)]),bf v0 x0 A0] fun x hs l=> ∃A2:(Nat→Int),x= .agg (aqk (aj .u8 32 A2) ([])).toArray∧hs=l∧
 ∀b4:Nat,iQ ((x0 - 8) - 10) ((
 Cl 21 [pp b2,.int .u64 0,.int .i64 4] [Ej b2 v1,bf v1 x1 A1] fun x hs _=> ∃(v2:V1) (x2 x3:Int) (A3:Nat→Int) (q0:Bool),x= .int .u64 x2∧hs=[cC b2 v2 q0,bf v2 x3 A3]∧
 ax ((¬(x2=(ae .u64 ((x0 - 8) - 10))))∨(0≤(x0 - 8))) (
 ax ((¬(x2=(ae .u64 ((x0 - 8) - 10))))∨((x0 - 8)≤x0)) (
 br (x2=(ae .u64 ((x0 - 8) - 10))) (
 Cl 43 [.slice (some ⟨b4,0,none⟩) 8 32,(aE 1 v0.v (ag (x0 - 8)) (ag x0) none)] [ak b4 true (aqk (aj .u8 32 A2) ([])),bf v0 x0 A0] fun x hs l=> ∃q1:Bool,x= .bool q1∧hs=l∧
 br (¬(q1=true)) (
 al (.tuple #[Ya,.int .i64 9]) [T1 b0]) (
 ax (10≤(x0 - 8)) (
 ∀b5:Nat,∃Ig8:Ext→Prop,(∀(w:World) (Fs:List HP),bG ([ak b5 true ([.bool false,(aE 1 v0.v 10 (ag (x0 - 8)) none),.bool false]),bf v0 x0 A0]++Fs) w→∃(v3:V1) (x4:Int) (A4:Nat→Int),∃p1:HP,bG ([Ej b5 v3,bf v0 x0 A0,bf v3 x4 A4,p1]++Fs) w∧Ig8 ⟨[],[v3],[x4],[A4],[],[p1],[]⟩)∧
 (∀(v3:V1) (x4:Int) (A4:Nat→Int),∀p1:HP,Ig8 ⟨[],[v3],[x4],[A4],[],[p1],[]⟩→
 Cl 32 [pp b5,pp b1] [Ej b5 v3,bf v3 x4 A4,T1 b1,p1] fun x hs _=> ∃(v4 v5 v6 v7 v8 v9 v10 v11:V1) (x5 x6 x7 x8 x9 bE bM bP bI dW bV dI cj dM cU dz i_ fU gC fV jb lz oM wS tu rP:Int) (A5 A6 A7 A8 A9 eg dN dq gk gG gP f_ fl fe fh fo gl kq lY lJ nF uq sm:Nat→Int) (q2:Bool),∃p2:HP,x= .tuple #[]∧hs=[cC b5 v4 q2,bf v4 x5 A5,Qr b1 A6 x6 x7 x8 A7 A8 v5 x9 v6 bE bM A9 v7 bP eg (!(bI==0)) dW bV dI dN dq gk v8 cj v9 dM cU dz i_ fU gC v10 v11,p2,p5 v5 fV gG gP,De v6 jb f_ fl fe,p7 v7 lz fh,bp v8 oM fo,p6 v9 wS gl kq,bp v10 tu lY,pZ v11 rP lJ nF uq sm]∧
 ax ((q2=true)∨(0≤x5)) (
 br (¬((q2=true)∨(0<x5))) (
 Cl 10 [Ap A6 x6 x7 x8 A7 A8 v5 x9 v6 bE bM A9 v7 bP eg (!(bI==0)) dW bV dI dN dq gk v8 cj v9 dM cU dz i_ fU gC v10 v11] [p5 v5 fV gG gP,De v6 jb f_ fl fe,p7 v7 lz fh,bp v8 oM fo,p6 v9 wS gl kq,bp v10 tu lY,pZ v11 rP lJ nF uq sm,p2] fun x hs l=> ∃q3:Bool,x= .bool q3∧hs=l∧
 br (¬(q3=true)) (
 al (.tuple #[Ya,.int .i64 9]) [T1 b0]) (
 al (.tuple #[Ap A6 x6 x7 x8 A7 A8 v5 x9 v6 bE bM A9 v7 bP eg (!(bI==0)) dW bV dI dN dq gk v8 cj v9 dM cU dz i_ fU gC v10 v11,.int .i64 0]) [Qr b0 A6 x6 x7 x8 A7 A8 v5 x9 v6 bE bM A9 v7 bP eg (!(bI==0)) dW bV dI dN dq gk v8 cj v9 dM cU dz i_ fU gC v10 v11,p2,p5 v5 fV gG gP,De v6 jb f_ fl fe,p7 v7 lz fh,bp v8 oM fo,p6 v9 wS gl kq,bp v10 tu lY,pZ v11 rP lJ nF uq sm])) (
 al (.tuple #[Ya,.int .i64 9]) [T1 b0])))))) (
 al (.tuple #[Ya,.int .i64 9]) [T1 b0]))))))))))))))))
theorem Sv(al:PT)(x0:Int)(A0:Nat→Int)(v0:V1)(h:IK al x0 A0 v0):aq aqQ 17 [v0.v] [bf v0 x0 A0] al:=
 xp (C:=cxT) Vt.NG Vt.GL Vt.Co ⟨[x0],[A0],[],[],[v0],[],[],[]⟩ Tryz.func17 (by kernel_rfl) h
def OG(al:PT)(x0 x1:Int)(A0 A1:Nat→Int)(v0 v1:V1):Prop:=
 al (.bool (dc (sV A0 x0)==dc (sV A1 x1))) [bf v0 x0 A0,bf v1 x1 A1]
theorem Wy(al:PT)(x0 x1:Int)(A0 A1:Nat→Int)(v0 v1:V1)(h:OG al x0 x1 A0 A1 v0 v1):aq aqQ 43 [v0.v,v1.v] [bf v0 x0 A0,bf v1 x1 A1] al:=
 xp (C:=cx) Vt.eqA Vt.aeA Vt.aae ⟨[x0,x1],[A0,A1],[],[],[v0,v1],[],[],[]⟩ Tryz.func43 (by kernel_rfl) h
end Go.RX.Vb
