/- The store's walker. -/
import Derived.Test.YtllcdnkfbeokhaaGreatM35
open Go.IntKind renaming wrap → ae
open Go.Proofs.Tryz renaming prog → aqQ
open Int renaming toNat → ag, toNat_natCast → aqD
open List renaming append → aqk, eq_nil_of_length_eq_zero → aqF, getD_cons_zero → ah, getLast?_eq_some_iff → aq2, length_append → aql, length_singleton → aqm, mem_append → aqC, mem_singleton → aqx
namespace Go.RX.Vb
open Go.RX Go.Proofs
set_option maxRecDepth 100000
def Pf(al:PT)(x0:Int)(A0:Nat→Int)(q0:Bool)(v0:V1)(b0 b1 b2:Nat)(p0:HP):Prop:=
 ∀b3 b4:Nat,Cl 21 [pp b0,.int .u64 0,.int .i64 1] [cC b0 v0 q0,bf v0 x0 A0] fun x hs _=> ∃(v1:V1) (x1 x2:Int) (A1:Nat→Int) (q1:Bool),x= .int .u64 x1∧hs=[cC b0 v1 q1,bf v1 x2 A1]∧
 Cl 21 [pp b0,.int .u64 0,.int .i64 1] [cC b0 v1 q1,bf v1 x2 A1] fun x hs _=> ∃(v2:V1) (x3 x4:Int) (A2:Nat→Int) (q2:Bool),x= .int .u64 x3∧hs=[cC b0 v2 q2,bf v2 x4 A2]∧
 Cl 21 [pp b0,.int .u64 0,.int .i64 4] [cC b0 v2 q2,bf v2 x4 A2] fun x hs _=> ∃(v3:V1) (x5 x6:Int) (A3:Nat→Int) (q3:Bool),x= .int .u64 x5∧hs=[cC b0 v3 q3,bf v3 x6 A3]∧
 ∃(cE:Ext→Prop) (db:Ext→Nat),(∃(v5 v6:V1) (x7 x8 x9:Int) (A4 A5 A6 A7 A8 A9 eg dN dq gk gG gP f_ fl fe fh fo gl kq lY lJ:Nat→Int) (q4:Bool),∃p1:HP,x7=x5∧v5=v3∧q4=q3∧v5=v3∧x8=x6∧(∀j,j<(ag x8)→A4 j=A3 j)∧v6=(⟨.slice none 0 0,rfl⟩:V1)∧p1=p0∧v6=(⟨.slice none 0 0,rfl⟩:V1)∧x9=0∧(∀j,j<(ag (x9*32))→A5 j=(fun _=>0) j)∧(∀j,j<(ag (x9*32))→A6 j=(fun _=>0) j)∧(∀j,j<(ag (x9*32))→A7 j=(fun _=>0) j)∧(∀j,j<(ag (x9*32))→A8 j=(fun _=>0) j)∧(∀j,j<(ag x9)→A9 j=(fun _=>0) j)∧(∀j,j<(ag x9)→eg j=(fun _=>0) j)∧(∀j,j<(ag x9)→dN j=(fun _=>0) j)∧(∀j,j<(ag x9)→dq j=(fun _=>0) j)∧(∀j,j<(ag (x9*32))→gk j=(fun _=>0) j)∧(∀j,j<(ag x9)→gG j=(fun _=>0) j)∧(∀j,j<(ag (x9*32))→gP j=(fun _=>0) j)∧(∀j,j<(ag x9)→f_ j=(fun _=>0) j)∧(∀j,j<(ag x9)→fl j=(fun _=>0) j)∧(∀j,j<(ag x9)→fe j=(fun _=>0) j)∧(∀j,j<(ag (x9*32))→fh j=(fun _=>0) j)∧(∀j,j<(ag (x9*32))→fo j=(fun _=>0) j)∧(∀j,j<(ag x9)→gl j=(fun _=>0) j)∧(∀j,j<(ag x9)→kq j=(fun _=>0) j)∧(∀j,j<(ag x9)→lY j=(fun _=>0) j)∧(∀j,j<(ag x9)→lJ j=(fun _=>0) j)∧cE ⟨[],[v5,v6],[x7,x8,x9],[A4,A5,A6,A7,A8,A9,eg,dN,dq,gk,gG,gP,f_,fl,fe,fh,fo,gl,kq,lY,lJ],[q4],[p1],[]⟩)∧
 ∀(v5 v6:V1) (x7 x8 x9:Int) (A4 A5 A6 A7 A8 A9 eg dN dq gk gG gP f_ fl fe fh fo gl kq lY lJ:Nat→Int) (q4:Bool),∀p1:HP,cE ⟨[],[v5,v6],[x7,x8,x9],[A4,A5,A6,A7,A8,A9,eg,dN,dq,gk,gG,gP,f_,fl,fe,fh,fo,gl,kq,lY,lJ],[q4],[p1],[]⟩→
 br ((0<x7)∧(¬(q4=true))) (
 ∀b5:Nat,Cl 105 [pp b0,pp b5] [cC b0 v5 q4,bf v5 x8 A4,ZX b5,p1] fun x hs _=> ∃(v7:V1) (bE bM bP bI dW bV dI cj dM cU dz i_ fU:Int) (nF uq sm wU AJ Ar Bv Eo ID:Nat→Int) (q5:Bool),∃p2:HP,x= .tuple #[]∧hs=[cC b0 v7 q5,bf v7 fU nF,ak b5 true (aqk (aj .u8 32 uq) (aqk (aj .u8 32 sm) (aqk (aj .u8 32 wU) (aqk (aj .u8 32 AJ) (.bool (!(bE==0))::(.bool (!(bM==0))::(.bool (!(bP==0))::(.bool (!(bI==0))::(aqk (aj .u8 32 Ar) (.int .u32 dW::(aqk (aj .u8 32 Bv) (.int .u32 bV::(.int .u32 dI::((cX cj)::(aqk (aj .u8 32 Eo) (aqk (aj .u8 32 ID) ([.bool (!(dM==0)),.int .u32 cU,.bool (!(dz==0)),.bool (!(i_==0))]))))))))))))))))),p2]∧
 ∀_:Nat,ax (0≤x9) (
 kE ((x9+1)*312) (
 ∀v8:V1,∃(H8 SM:V1) (Mc LA sy:Int) (yn BM G4 G5 OS A9' Xb Hg Hh Hi Xc Xd Hj zk Hk Hl pz mW s6 s7 zj:Nat→Int) (Yi:Bool),∃Xe:HP,Mc=(ae .u64 (x7 - 1))∧H8=v7∧Yi=q5∧H8=v7∧LA=fU∧(∀j,j<(ag LA)→yn j=nF j)∧SM=v8∧Xe=p2∧SM=v8∧sy=(x9+1)∧(∀j,j<(ag (sy*32))→BM j=(bQ A5 (ag (x9*32)) 32 uq) j)∧(∀j,j<(ag (sy*32))→G4 j=(bQ A6 (ag (x9*32)) 32 sm) j)∧(∀j,j<(ag (sy*32))→G5 j=(bQ A7 (ag (x9*32)) 32 wU) j)∧(∀j,j<(ag (sy*32))→OS j=(bQ A8 (ag (x9*32)) 32 AJ) j)∧(∀j,j<(ag sy)→A9' j=(aw A9 (ag x9) bE) j)∧(∀j,j<(ag sy)→Xb j=(aw eg (ag x9) bM) j)∧(∀j,j<(ag sy)→Hg j=(aw dN (ag x9) bP) j)∧(∀j,j<(ag sy)→Hh j=(aw dq (ag x9) bI) j)∧(∀j,j<(ag (sy*32))→Hi j=(bQ gk (ag (x9*32)) 32 Ar) j)∧(∀j,j<(ag sy)→Xc j=(aw gG (ag x9) dW) j)∧(∀j,j<(ag (sy*32))→Xd j=(bQ gP (ag (x9*32)) 32 Bv) j)∧(∀j,j<(ag sy)→Hj j=(aw f_ (ag x9) bV) j)∧(∀j,j<(ag sy)→zk j=(aw fl (ag x9) dI) j)∧(∀j,j<(ag sy)→Hk j=(aw fe (ag x9) cj) j)∧(∀j,j<(ag (sy*32))→Hl j=(bQ fh (ag (x9*32)) 32 Eo) j)∧(∀j,j<(ag (sy*32))→pz j=(bQ fo (ag (x9*32)) 32 ID) j)∧(∀j,j<(ag sy)→mW j=(aw gl (ag x9) dM) j)∧(∀j,j<(ag sy)→s6 j=(aw kq (ag x9) cU) j)∧(∀j,j<(ag sy)→s7 j=(aw lY (ag x9) dz) j)∧(∀j,j<(ag sy)→zj j=(aw lJ (ag x9) i_) j)∧cE ⟨[],[H8,SM],[Mc,LA,sy],[yn,BM,G4,G5,OS,A9',Xb,Hg,Hh,Hi,Xc,Xd,Hj,zk,Hk,Hl,pz,mW,s6,s7,zj],[Yi],[Xe],[]⟩∧db ⟨[],[H8,SM],[Mc,LA,sy],[yn,BM,G4,G5,OS,A9',Xb,Hg,Hh,Hi,Xc,Xd,Hj,zk,Hk,Hl,pz,mW,s6,s7,zj],[Yi],[Xe],[]⟩<db ⟨[],[v5,v6],[x7,x8,x9],[A4,A5,A6,A7,A8,A9,eg,dN,dq,gk,gG,gP,f_,fl,fe,fh,fo,gl,kq,lY,lJ],[q4],[p1],[]⟩))) (
 al (.tuple #[]) [cC b0 v5 q4,bf v5 x8 A4,ak b1 true ([.int .u8 (ae .u8 x1),.int .u8 (ae .u8 x3),v6.v]),n_ b2 b0,p1,n_ b3 b1,ak b4 true ([pp b1,.pointer (some ⟨b1,1,none⟩)]),aB true 77 268 v6.v (ag x9) (aK (ag x9) [aC .u8 32 A5,aC .u8 32 A6,aC .u8 32 A7,aC .u8 32 A8,ij 1 A9,ij 1 eg,ij 1 dN,ij 1 dq,aC .u8 32 gk,aC .u32 1 gG,aC .u8 32 gP,aC .u32 1 f_,aC .u32 1 fl,fN 1 (fun j=>cX (fe j)),aC .u8 32 fh,aC .u8 32 fo,ij 1 gl,aC .u32 1 kq,ij 1 lY,ij 1 lJ])])
theorem Xf(al:PT)(x0:Int)(A0:Nat→Int)(q0:Bool)(v0:V1)(b0 b1 b2:Nat)(p0:HP)(h:Pf al x0 A0 q0 v0 b0 b1 b2 p0):aq aqQ 102 [pp b1,pp b2] [cC b0 v0 q0,bf v0 x0 A0,ak b1 true ([.int .u8 0,.int .u8 0,.slice none 0 0]),n_ b2 b0,p0] al:=
 sW (C:=ZZ) Ve.Ng Ve.ZL Ve.Kh ⟨[x0],[A0],[q0],[b0,b1,b2],[v0],[],[p0],[]⟩ 8 Tryz.func102 (by kernel_rfl) h
def Pg(al:PT)(x0:Int)(A0:Nat→Int)(q0:Bool)(v0:V1)(b0 b1 b2:Nat):Prop:=
 Cl 45 [pp b0,.int .i64 16] [cC b0 v0 q0,bf v0 x0 A0] fun x hs _=> ∃(v1 v2:V1) (x1 x2:Int) (A1 A2:Nat→Int) (q1:Bool),x=v2.v∧hs=[cC b0 v1 q1,bf v1 x1 A1,bf v2 x2 A2]∧
 ax (0≤x2) (
 ax (0≤x2) (
 ∀_:Nat,Cl 21 [pp b0,.int .u64 0,.int .i64 1] [cC b0 v1 q1,bf v1 x1 A1] fun x hs _=> ∃(v3:V1) (x3 x4:Int) (A3:Nat→Int) (q2:Bool),x= .int .u64 x3∧hs=[cC b0 v3 q2,bf v3 x4 A3]∧
 ∀_:Nat,Cl 21 [pp b0,.int .u64 0,.int .i64 1] [cC b0 v3 q2,bf v3 x4 A3] fun x hs _=> ∃(v4:V1) (x5 x6:Int) (A4:Nat→Int) (q3:Bool),x= .int .u64 x5∧hs=[cC b0 v4 q3,bf v4 x6 A4]∧
 ∀_:Nat,Cl 21 [pp b0,.int .u64 0,.int .i64 8] [cC b0 v4 (q3||(decide (1<x5))),bf v4 x6 A4] fun x hs _=> ∃(v5:V1) (x7 x8:Int) (A5:Nat→Int) (q4:Bool),x= .int .u64 x7∧hs=[cC b0 v5 q4,bf v5 x8 A5]∧
 al (.tuple #[]) [cC b0 v5 q4,bf v5 x8 A5,ak b1 true (aqk (aj .u8 16 (bQ (fun _=>0) 0 (ag (ar .ib .i64 x2 16)) A2)) ([.int .u8 (ae .u8 x3),.bool (x5==1),.int .u64 x7])),n_ b2 b0]))
theorem Xg(al:PT)(x0:Int)(A0:Nat→Int)(q0:Bool)(v0:V1)(b0 b1 b2:Nat)(h:Pg al x0 A0 q0 v0 b0 b1 b2):aq aqQ 55 [pp b1,pp b2] [cC b0 v0 q0,bf v0 x0 A0,ak b1 true (aqk (aj .u8 16 (fun _=>0)) ([.int .u8 0,.bool false,.int .u64 0])),n_ b2 b0] al:=
 sW (C:=ZZ) Ve.Ng Ve.hpR Ve.ad9 ⟨[x0],[A0],[q0],[b0,b1,b2],[v0],[],[],[]⟩ 4 Tryz.func55 (by kernel_rfl) h
open Go Go.RX Go.Proofs Go.Vs
theorem KY{H1 H2:HP}{acc:List b_}{C:Nat→Int}{x:b_}{c:Int}(h:ux H1 acc C)(hg:fI H2 H1)(hx:iG H2 (uv false (cX c) x.s.aV)):ux H2 (acc++[x]) (aw C acc.length c):=by
 intro i hi;rw [aql,aqm]at hi;by_cases he:i=acc.length
 ·subst he;rw [show aw C acc.length c acc.length=c from if_pos rfl];simpa using hx
 ·rw [show aw C acc.length c i=C i from if_neg he,List.getElem_append_left (by omega)];exact hg.trans (h i (by omega))
theorem KZ{n:Nat}(h:n<256^1):ae .u8 (n:Int)=(n:Int):=Sq h
theorem uF{α:Type}(f:α→List Nat)(w:Nat)(s:List α)(x:α)(hs: ∀y∈s,(f y).length=w)(hx:(f x).length=w): ∀j,j<ag (((s++[x]).length:Int)*(w:Int))→dV f (s++[x]) j=bQ (dV f s) (ag ((s.length:Int)*(w:Int))) w (aL (f x)) j:=zp f w s x hs hx fun _ _=>rfl
theorem SN{a b c e d a' b':HP}{k:Nat}{r r':List Value}{L:List HP}(h1:a=a')(h2:b=b')(h3:r=r')(h4:L.getLast? =some d): ∃mid,a::b::ak k true r::c::e::L=[a',b',ak k true r',c,e]++mid++[d]:=by
 subst h1 h2 h3;obtain⟨hn,hl⟩:=aq2.1 h4;exact⟨hn,by rw [hl];rfl⟩
set_option maxRecDepth 100000 in
set_option maxHeartbeats 8000000 in
theorem aaM(b b1 b2:Nat)(v:V1)(q:Bool)(l:List Nat)(hl:fX l)(H:HP)(hH:H.wr=true):aq aqQ 102 [wP b1,wP b2] [cZ b false v.v q,aT false v.v l,ak b1 true [.int .u8 0,.int .u8 0,.slice none 0 0],ak b2 true [wP b],H]
  fun r hs=>r= .tuple #[]∧∃(v' u:V1) (q':Bool) (l':List Nat) (C:Nat→Int) (H':HP),hs=[jF true u.v (bO.bz (bZ q l)).1.l C,cZ b false v'.v q',aT false v'.v l',ak b1 true (qK (bO.bz (bZ q l)).1 u.v),ak b2 true [wP b],H']∧bZ q' l'=(bO.bz (bZ q l)).2∧fX l'∧H'.wr=true∧fI H' H∧ux H' (bO.bz (bZ q l)).1.l C:=by
 refine aq.post (Xf (fun r hs=>r= .tuple #[]∧∃(v' u:V1) (q':Bool) (l':List Nat) (C:Nat→Int) (H':HP),(∃mid,hs=[cZ b false v'.v q',aT false v'.v l',ak b1 true (qK (bO.bz (bZ q l)).1 u.v),ak b2 true [wP b],H']++mid++[jF true u.v (bO.bz (bZ q l)).1.l C])∧bZ q' l'=(bO.bz (bZ q l)).2∧fX l'∧H'.wr=true∧fI H' H∧ux H' (bO.bz (bZ q l)).1.l C) (l.length:Int) (aL l) q v b b1 b2 H ?_) ?_;rotate_left
 ·rintro r hs ⟨rfl,v',u,q',l',C,H',⟨mid,rfl⟩,h1⟩;exact⟨_,bJ.trans (bJ.perm List.perm_append_comm) (bJ.sub (List.Sublist.append (List.Sublist.refl _) (List.sublist_append_left _ _))),rfl,v',u,q',l',C,H',rfl,h1⟩
 unfold Pf;intro _ _;refine bd 1 (.inl ⟨rfl,rfl⟩) rfl hl cd.rfl rfl fun v0 q0 l0 An WU Uk=>?_
 refine bd 1 (.inl ⟨rfl,rfl⟩) WU An cd.rfl rfl fun v1 q1 l1 LG WV Ao=>?_
 refine jP WV LG cd.rfl rfl fun v2 q2 l2 N2 O2 Qo J3 DS eN2 eO2=>?_
 refine⟨fun x=> ∃(w w2:V1) (n:Nat) (q:Bool) (l:List Nat) (acc:List b_) (C:Nat→Int) (H1:HP),x=⟨[],[w,w2],[(n:Int),(l.length:Int),(acc.length:Int)],[aL l,dV (fun(x:b_)=>x.s.root) acc,dV (fun(x:b_)=>x.s.bind) acc,dV (fun(x:b_)=>x.s.own) acc,dV (fun(x:b_)=>x.s.fW) acc,jm (fun(x:b_)=>x.s.mR) acc,jm (fun(x:b_)=>x.s.mS) acc,jm (fun(x:b_)=>x.s.mT) acc,jm (fun(x:b_)=>x.s.gQ) acc,dV (fun(x:b_)=>x.s.send.key) acc,cu (fun(x:b_)=>x.s.send.n) acc,dV (fun(x:b_)=>x.s.recv.key) acc,cu (fun(x:b_)=>x.s.recv.n) acc,cu (fun(x:b_)=>x.s.prev) acc,C,dV (fun(x:b_)=>x.ident) acc,dV (fun(x:b_)=>x.zl) acc,jm (fun(x:b_)=>x.fG) acc,cu (fun(x:b_)=>x.gS) acc,jm (fun(x:b_)=>x.own) acc,jm (fun(x:b_)=>x.current) acc],[q],[H1],[]⟩∧fX l∧acc.length+n=N2∧(∀y∈acc,uw y)∧lA bR n (bZ q l) acc=lA bR N2 O2 []∧H1.wr=true∧fI H1 H∧ux H1 acc C,fun x=>(x.i.getD 0 0).toNat,?_,?_⟩
 ·exact⟨v2,⟨.slice none 0 0,rfl⟩,_,_,0,_,dV (fun(x:b_)=>x.s.root) [],dV (fun(x:b_)=>x.s.bind) [],dV (fun(x:b_)=>x.s.own) [],dV (fun(x:b_)=>x.s.fW) [],jm (fun(x:b_)=>x.s.mR) [],jm (fun(x:b_)=>x.s.mS) [],jm (fun(x:b_)=>x.s.mT) [],jm (fun(x:b_)=>x.s.gQ) [],dV (fun(x:b_)=>x.s.send.key) [],cu (fun(x:b_)=>x.s.send.n) [],dV (fun(x:b_)=>x.s.recv.key) [],cu (fun(x:b_)=>x.s.recv.n) [],cu (fun(x:b_)=>x.s.prev) [],fun _=>0,dV (fun(x:b_)=>x.ident) [],dV (fun(x:b_)=>x.zl) [],jm (fun(x:b_)=>x.fG) [],cu (fun(x:b_)=>x.gS) [],jm (fun(x:b_)=>x.own) [],jm (fun(x:b_)=>x.current) [],q2,H,rfl,rfl,rfl,rfl,rfl,fun _ _=>rfl,rfl,rfl,rfl,rfl,fun _ h=>absurd h (by simp),fun _ h=>absurd h (by simp),fun _ h=>absurd h (by simp),fun _ h=>absurd h (by simp),fun _ h=>absurd h (by simp),fun _ h=>absurd h (by simp),fun _ h=>absurd h (by simp),fun _ h=>absurd h (by simp),fun _ h=>absurd h (by simp),fun _ h=>absurd h (by simp),fun _ h=>absurd h (by simp),fun _ h=>absurd h (by simp),fun _ h=>absurd h (by simp),fun _ h=>absurd h (by simp),fun _ h=>absurd h (by simp),fun _ h=>absurd h (by simp),fun _ h=>absurd h (by simp),fun _ h=>absurd h (by simp),fun _ h=>absurd h (by simp),fun _ h=>absurd h (by simp),v2,_,N2,q2,l2,[],fun _=>0,H,rfl,Qo,by simp,by simp,by rw [J3],hH,fI.refl,fun _ h=>absurd h (by simp)⟩
 rintro wa ua _ _ _ _ _ _ _ _ _ _ _ _ _ _ _ _ _ Ca _ _ _ _ _ _ qa Ha ⟨wa,ua,na,qa,la,eW,Ca,Ha,FN,Yq,hna,pQ,CF,hwa,hga,hea⟩;simp only [Ext.mk.injEq,List.cons.injEq,and_true,true_and]at FN;obtain⟨⟨rfl,rfl⟩,⟨rfl,rfl,rfl⟩,⟨rfl,rfl,rfl,rfl,rfl,rfl,rfl,rfl,rfl,rfl,rfl,rfl,rfl,rfl,rfl,rfl,rfl,rfl,rfl,rfl,rfl⟩,⟨rfl,rfl⟩⟩:=FN;refine⟨fun cq=>?_,fun lN=>?_⟩
 ·obtain⟨m,rfl,rfl,qs⟩:=mY bR cq;intro _;refine KO hwa rfl Yq cd.rfl rfl fun ve c qe le He hle Ri jf hwe Ph Xh=>?_
  intro _;have hx:uw (bR.bz (bZ false la)).1:=jf;refine⟨by omega,fun _=>⟨by omega,fun _=>fun w3=>?_⟩⟩;refine⟨ve,w3,(m:Int),_,((eW++[(bR.bz (bZ false la)).1]).length:Int),_,dV (fun(x:b_)=>x.s.root) (eW++[(bR.bz (bZ false la)).1]),dV (fun(x:b_)=>x.s.bind) (eW++[(bR.bz (bZ false la)).1]),dV (fun(x:b_)=>x.s.own) (eW++[(bR.bz (bZ false la)).1]),dV (fun(x:b_)=>x.s.fW) (eW++[(bR.bz (bZ false la)).1]),jm (fun(x:b_)=>x.s.mR) (eW++[(bR.bz (bZ false la)).1]),jm (fun(x:b_)=>x.s.mS) (eW++[(bR.bz (bZ false la)).1]),jm (fun(x:b_)=>x.s.mT) (eW++[(bR.bz (bZ false la)).1]),jm (fun(x:b_)=>x.s.gQ) (eW++[(bR.bz (bZ false la)).1]),dV (fun(x:b_)=>x.s.send.key) (eW++[(bR.bz (bZ false la)).1]),cu (fun(x:b_)=>x.s.send.n) (eW++[(bR.bz (bZ false la)).1]),dV (fun(x:b_)=>x.s.recv.key) (eW++[(bR.bz (bZ false la)).1]),cu (fun(x:b_)=>x.s.recv.n) (eW++[(bR.bz (bZ false la)).1]),cu (fun(x:b_)=>x.s.prev) (eW++[(bR.bz (bZ false la)).1]),aw Ca eW.length c,dV (fun(x:b_)=>x.ident) (eW++[(bR.bz (bZ false la)).1]),dV (fun(x:b_)=>x.zl) (eW++[(bR.bz (bZ false la)).1]),jm (fun(x:b_)=>x.fG) (eW++[(bR.bz (bZ false la)).1]),cu (fun(x:b_)=>x.gS) (eW++[(bR.bz (bZ false la)).1]),jm (fun(x:b_)=>x.own) (eW++[(bR.bz (bZ false la)).1]),jm (fun(x:b_)=>x.current) (eW++[(bR.bz (bZ false la)).1]),qe,He,zq (by omega),rfl,rfl,rfl,rfl,fun _ _=>rfl,rfl,rfl,rfl,by simp,?_,?_,?_,?_,?_,?_,?_,?_,?_,?_,?_,?_,?_,fun _ _=>rfl,?_,?_,?_,?_,?_,?_,⟨ve,w3,m,qe,le,_,_,He,rfl,hle,by simp;omega,?_,?_,hwe,Ph.then hga,KY hea Ph Xh⟩,?_⟩
  ·exact uF (fun(x:b_)=>x.s.root) 32 eW _ (fun y hy=>(pQ y hy).root) jf.root
  ·exact uF (fun(x:b_)=>x.s.bind) 32 eW _ (fun y hy=>(pQ y hy).bind) jf.bind
  ·exact uF (fun(x:b_)=>x.s.own) 32 eW _ (fun y hy=>(pQ y hy).own) jf.own
  ·exact uF (fun(x:b_)=>x.s.fW) 32 eW _ (fun y hy=>(pQ y hy).fW) jf.fW
  ·exact qM (fun(x:b_)=>x.s.mR) eW _ rfl
  ·exact qM (fun(x:b_)=>x.s.mS) eW _ rfl
  ·exact qM (fun(x:b_)=>x.s.mT) eW _ rfl
  ·exact qM (fun(x:b_)=>x.s.gQ) eW _ rfl
  ·exact uF (fun(x:b_)=>x.s.send.key) 32 eW _ (fun y hy=>(pQ y hy).sk) jf.sk
  ·exact lK (fun(x:b_)=>x.s.send.n) eW _ rfl
  ·exact uF (fun(x:b_)=>x.s.recv.key) 32 eW _ (fun y hy=>(pQ y hy).rk) jf.rk
  ·exact lK (fun(x:b_)=>x.s.recv.n) eW _ rfl
  ·exact lK (fun(x:b_)=>x.s.prev) eW _ rfl
  ·exact uF (fun(x:b_)=>x.ident) 32 eW _ (fun y hy=>(pQ y hy).ident) jf.ident
  ·exact uF (fun(x:b_)=>x.zl) 32 eW _ (fun y hy=>(pQ y hy).zl) jf.zl
  ·exact qM (fun(x:b_)=>x.fG) eW _ rfl
  ·exact lK (fun(x:b_)=>x.gS) eW _ rfl
  ·exact qM (fun(x:b_)=>x.own) eW _ rfl
  ·exact qM (fun(x:b_)=>x.current) eW _ rfl
  ·intro y hy;rcases aqC.1 hy with hy | hy
   ·exact pQ y hy
   ·rw [aqx.1 hy];exact hx
  ·exact(congrArg (fun z=>Go.Vs.lA bR m z _) Ri).trans (qs.symm.trans CF)
  ·simp only [ah];omega
 ·rw [mX bR lN]at CF;have Yr:bZ qa la=(lA bR N2 O2 []).2:=by rw [←CF]
  have haa:eW=(lA bR N2 O2 []).1:=by rw [←CF]
  subst haa eN2 eO2;refine⟨rfl,wa,ua,_,la,Ca,Ha,SN rfl rfl ?_ rfl,Yr,Yq,hwa,hga,hea⟩;rw [KZ Uk,KZ Ao];rfl
theorem Pj{a b d:HP}{k:Nat}{r r':List Value}(h:r=r'):[a,b,ak k true r,d]=[a,b,ak k true r',d]:=by rw [h]
theorem K1(b b1 b2:Nat)(v:V1)(q:Bool)(l:List Nat)(hl:fX l):aq aqQ 55 [wP b1,wP b2] [cZ b false v.v q,aT false v.v l,ak b1 true (aqk (aj .u8 16 (fun _=>0)) [.int .u8 0,.bool false,.int .u64 0]),ak b2 true [wP b]]
  fun r hs=>r= .tuple #[]∧∃(v':V1) (q':Bool) (l':List Nat),hs=[cZ b false v'.v q',aT false v'.v l',ak b1 true (aqk (aj .u8 16 (aL (dQ.bz (bZ q l)).1.id)) [.int .u8 ((dQ.bz (bZ q l)).1.aX:Int),.bool (!(bi (dQ.bz (bZ q l)).1.out==0)),.int .u64 ((dQ.bz (bZ q l)).1.since:Int)]),ak b2 true [wP b]]∧bZ q' l'=(dQ.bz (bZ q l)).2∧fX l':=by
 refine Xg _ (l.length:Int) (aL l) q v b b1 b2 ?_;unfold Pg;refine cG 16 rfl (by decide) rfl hl cd.rfl rfl fun v0 w0 n0 A0 q0 l0 An WU Bx uy=>?_
 refine⟨Bx,fun _=>⟨Bx,fun _=>?_⟩⟩;intro _;refine bd 1 (.inl ⟨rfl,rfl⟩) WU An cd.rfl rfl fun v1 q1 l1 LG WV Ao=>?_
 intro _;refine bd 1 (.inl ⟨rfl,rfl⟩) WV LG cd.rfl rfl fun v2 q2 l2 Qo J3 DS=>?_
 have QL:=mb J3;intro _;refine bd 8 (.inr (.inr ⟨rfl,rfl⟩)) QL Qo cd.rfl rfl fun v3 q3 l3 UR ho3 Yp=>?_
 refine⟨rfl,v3,_,l3,Pj ?_,ho3,UR⟩;rw [KZ Ao,jc];exact congrArg (fun x=>aqk x _) (fq uy)
open Go.RX Go.Proofs
set_option maxRecDepth 100000
def ET(al:PT)(x0:Int)(A0:Nat→Int)(v0:V1):Prop:=
 br (wu v0.v=true) (
 al (.slice none 0 0) [bf v0 x0 A0]) (
 ∀_:V1,ax (0≤x0) (
 ax (0≤x0) (
 kE x0 (
 ∀v2:V1,al (v2.v) [bf v0 x0 A0,bp v2 x0 A0]))))
theorem Pk(al:PT)(x0:Int)(A0:Nat→Int)(v0:V1)(h:ET al x0 A0 v0):aq aqQ 111 [v0.v] [bf v0 x0 A0] al:=
 xp (C:=cx) [.vv 0] [.cr false 0 5 1 (.var 0) [⟨.int .u8,1,.cI 0⟩]] ⟨0,1,1,1,0,0,0⟩ ⟨[x0],[A0],[],[],[v0],[],[],[]⟩ Tryz.func111 (by kernel_rfl) h
end Go.RX.Vb

namespace Go.RX
theorem aq.tell{P:Program}{f:Nat}{args:List Value}{pre:List HP}{post:Value→List HP→Prop}{p:Prop}(hp: ∀(w:World) (Fs:List HP),bG (pre++Fs) w→p)(h:p→aq P f args pre post):aq P f args pre post:=
 fun w Fs o=>h (hp w Fs o) w Fs o
theorem afT{a b c c':HP}{l L:List HP}(h:c'=c)(hl:l.Sublist L):(a::b::c::l).Sublist (a::b::c'::L):=by
 subst h;exact((hl.cons_cons _).cons_cons _).cons_cons _
end Go.RX
namespace Go.RX.Vb
open Go Go.RX Go.Proofs Go.Vs
theorem EU(v:V1)(m:List Nat)(hm:fX m):aq aqQ 111 [v.v] [aT false v.v m] fun r hs=> ∃o:V1,r=o.v∧hs=[aT false v.v m,aT true o.v m]:=by
 refine aq.tell (p:=wu v.v=true→m=[]) ?_ fun hn=>?_
 ·intro w Fs ⟨S,hS⟩ hn;obtain⟨_,hv⟩:=(hS.at_ 0 _ rfl).1.1;obtain⟨a,n,c,e,h1,_,h2,_⟩:=hv;rw [e]at hn;cases a with
  | some a=>cases hn
  | none=>exact aqF (h2 rfl)
 ·refine aq.post (Pk (fun r hs=>(wu v.v=true∧r= .slice none 0 0∧hs=[aT false v.v m])∨∃o:V1,r=o.v∧hs=[aT false v.v m,aT true o.v m]) (m.length:Int) (aL m) v ?_) ?_
  ·unfold ET;have:=hm.n;exact⟨fun h=> .inl ⟨h,rfl,rfl⟩,fun _=>fun v1=>⟨by omega,fun _=>⟨by omega,fun _=>⟨by omega,fun _=>fun v2=> .inr ⟨v2,rfl,rfl⟩⟩⟩⟩⟩
  ·rintro r hs (⟨h,rfl,rfl⟩ | h)
   ·refine⟨_,bJ.front (A:=[aT false v.v m]) (bJ.vI 5 1),⟨.slice none 0 0,rfl⟩,rfl,?_⟩;rw [hn h];rfl
   ·exact⟨_,bJ.refl _,h⟩
theorem zw{v:V1}{m:List Nat}{n:Int}{A:Nat→Int}(hm:fX m)(hA:cd A m)(hn:n=(m.length:Int)){R:V1→Int→(Nat→Int)→Prop}(h: ∀o:V1,R o (m.length:Int) (aL m)):
  ∃post,aq aqQ 111 [v.v] [aB false 5 1 v.v (ag n) (aK (ag n) [aC .u8 1 A])] post∧
   ∀x hs,post x hs→∃v1:V1,∃x1:Int,∃A1:(Nat→Int),x=v1.v∧hs=[aB false 5 1 v.v (ag n) (aK (ag n) [aC .u8 1 A]),aB true 5 1 v1.v (ag x1) (aK (ag x1) [aC .u8 1 A1])]∧R v1 x1 A1:=by
 subst hn;rw [aqD,hA.xE];refine⟨_,EU v m hm,?_⟩;rintro x hs ⟨o,rfl,rfl⟩;exact⟨o,_,_,rfl,rfl,h o⟩
theorem zx{b:Nat}{v:V1}{q:Bool}{l:List Nat}{A:Nat→Int}{n X:Int}{o:rB}(k:Nat)(hX:X=(k:Int))(ho:bZ q l=o)(hl:fX l)(hA:cd A l)(hn:n=(l.length:Int)){R:V1→V1→Int→Int→(Nat→Int)→(Nat→Int)→Bool→Prop}
  (h: ∀(v' v2:V1) (q':Bool) (l' m:List Nat),fX l'→fX m→bZ q' l'=(lQ k o).2→m=(lQ k o).1→R v' v2 (l'.length:Int) (m.length:Int) (aL l') (aL m) q'):
  ∃post,aq aqQ 45 [.pointer (some ⟨b,0,none⟩),.int .i64 X] [ak b true ([.bool false,v.v,.bool q]),aB false 5 1 v.v (ag n) (aK (ag n) [aC .u8 1 A])] post∧
   ∀x hs,post x hs→∃v1:V1,∃v2:V1,∃x1:Int,∃x2:Int,∃A1:(Nat→Int),∃A2:(Nat→Int),∃q1:Bool,x=v2.v∧hs=[ak b true ([.bool false,v1.v,.bool q1]),aB false 5 1 v1.v (ag x1) (aK (ag x1) [aC .u8 1 A1]),aB false 5 1 v2.v (ag x2) (aK (ag x2) [aC .u8 1 A2])]∧R v1 v2 x1 x2 A1 A2 q1:=by
 subst hn ho hX;rw [aqD,hA.xE];refine⟨_,wX b v q l hl k,?_⟩;rintro x hs ⟨o',v',q',l',m,rfl,rfl,he,LD,hm⟩;exact⟨v',o',_,_,_,_,q',rfl,rfl,h v' o' q' l' m LD hm (by rw [←he]) (by rw [←he])⟩
theorem Pl{b b1 b2:Nat}{v:V1}{q:Bool}{l:List Nat}{A:Nat→Int}{n:Int}{o:rB}{H:HP}(hH:H.wr=true)(ho:bZ q l=o)(hl:fX l)(hA:cd A l)(hn:n=(l.length:Int)){R:V1→Int→Int→Int→Int→(Nat→Int)→Bool→HP→Prop}
  (h: ∀(v':V1) (c:Int) (q':Bool) (l':List Nat) (H':HP),fX l'→bZ q' l'=(bO.bz o).2→mV (bO.bz o).1→H'.wr=true→fI H' H→(∃D:Nat→Int,iG H' (jF false (cX c) (bO.bz o).1.l D)∧ux H' (bO.bz o).1.l D)→
   R v' ((bO.bz o).1.dev.a:Int) ((bO.bz o).1.dev.d:Int) c (l'.length:Int) (aL l') q' H'):
  ∃post,aq aqQ 102 [.pointer (some ⟨b1,0,none⟩),.pointer (some ⟨b2,0,none⟩)] [ak b true ([.bool false,v.v,.bool q]),aB false 5 1 v.v (ag n) (aK (ag n) [aC .u8 1 A]),ak b1 true ([.int .u8 0,.int .u8 0,.slice none 0 0]),ak b2 true ([.pointer (some ⟨b,0,none⟩)]),H] post∧
   ∀x hs,post x hs→∃v1:V1,∃x1:Int,∃x2:Int,∃x3:Int,∃x4:Int,∃A1:(Nat→Int),∃q1:Bool,∃p2:HP,x= .tuple #[]∧hs=[ak b true ([.bool false,v1.v,.bool q1]),aB false 5 1 v1.v (ag x4) (aK (ag x4) [aC .u8 1 A1]),ak b1 true ([.int .u8 x1,.int .u8 x2,(cX x3)]),ak b2 true ([.pointer (some ⟨b,0,none⟩)]),p2]∧R v1 x1 x2 x3 x4 A1 q1 p2:=by
 subst hn ho;rw [aqD,hA.xE];refine⟨fun r hs=>r= .tuple #[]∧∃(v':V1) (c:Int) (q':Bool) (l':List Nat) (H':HP),hs=[cZ b false v'.v q',aT false v'.v l',ak b1 true (qK (bO.bz (bZ q l)).1 (cX c)),ak b2 true [wP b],H']∧bZ q' l'=(bO.bz (bZ q l)).2∧fX l'∧H'.wr=true∧fI H' H∧∃D:Nat→Int,iG H' (jF false (cX c) (bO.bz (bZ q l)).1.l D)∧ux H' (bO.bz (bZ q l)).1.l D,?_,?_⟩
 ·refine aq.post (aq.know (Q:=fun r hs=>r= .tuple #[]∧∃(v':V1) (c:Int) (q':Bool) (l':List Nat) (C:Nat→Int) (H':HP),hs=[jF true (cX c) (bO.bz (bZ q l)).1.l C,cZ b false v'.v q',aT false v'.v l',ak b1 true (qK (bO.bz (bZ q l)).1 (cX c)),ak b2 true [wP b],H']∧bZ q' l'=(bO.bz (bZ q l)).2∧fX l'∧H'.wr=true∧fI H' H∧ux H' (bO.bz (bZ q l)).1.l C) (aaM b b1 b2 v q l hl H hH) ?_) ?_
  ·rintro r hs ⟨rfl,v',u,q',l',C,H',rfl,h1⟩ w Fs ho;obtain⟨c,hc⟩:=Ec ho;rw [hc];exact⟨rfl,v',c,q',l',C,H',rfl,h1⟩
  ·rintro r hs ⟨_,rfl,v',c,q',l',C,H',rfl,h1,h2,h3,h4,h5⟩;refine⟨_,?_,rfl,v',c,q',l',HP.two H' (jF true (cX c) (bO.bz (bZ q l)).1.l C),rfl,h1,h2,rfl,fI.one.then h4,C,iG.other,fun i hi=>fI.one.trans (h5 i hi)⟩;refine bJ.trans (bJ.perm (List.perm_append_comm (l₁:=[jF true (cX c) (bO.bz (bZ q l)).1.l C]) (l₂:=[cZ b false v'.v q',aT false v'.v l',ak b1 true (qK (bO.bz (bZ q l)).1 (cX c)),ak b2 true [wP b],H']))) ?_;exact bJ.front (A:=[cZ b false v'.v q',aT false v'.v l',ak b1 true (qK (bO.bz (bZ q l)).1 (cX c)),ak b2 true [wP b]]) (bJ.two h3 rfl)
 ·rintro x hs ⟨rfl,v',c,q',l',H',rfl,h1,h2,h3,h4,h5⟩;exact⟨v',_,_,c,_,_,q',H',rfl,rfl,h v' c q' l' H' h2 h1 (G7 (.st hl)) h3 h4 h5⟩
structure CG (x:Room):Prop where
 id:x.id.length=16
 aX:x.aX<256
theorem Hm{o:rB}(h:AL o):CG (dQ.bz o).1:=⟨eO 16 _,CE (h.bz (raw 16))⟩
theorem Pm{b b1 b2:Nat}{v:V1}{q:Bool}{l:List Nat}{A:Nat→Int}{n:Int}{o:rB}(ho:bZ q l=o)(hl:fX l)(hA:cd A l)(hn:n=(l.length:Int)){R:V1→Int→Int→Int→Int→(Nat→Int)→(Nat→Int)→Bool→Prop}
  (h: ∀(v':V1) (q':Bool) (l':List Nat),fX l'→bZ q' l'=(dQ.bz o).2→CG (dQ.bz o).1→R v' ((dQ.bz o).1.aX:Int) (bi (dQ.bz o).1.out) ((dQ.bz o).1.since:Int) (l'.length:Int) (aL l') (aL (dQ.bz o).1.id) q'):
  ∃post,aq aqQ 55 [.pointer (some ⟨b1,0,none⟩),.pointer (some ⟨b2,0,none⟩)] [ak b true ([.bool false,v.v,.bool q]),aB false 5 1 v.v (ag n) (aK (ag n) [aC .u8 1 A]),ak b1 true (aqk (aj .u8 16 (fun _=>0)) ([.int .u8 0,.bool false,.int .u64 0])),ak b2 true ([.pointer (some ⟨b,0,none⟩)])] post∧
   ∀x hs,post x hs→∃v1:V1,∃x1:Int,∃x2:Int,∃x3:Int,∃x4:Int,∃A1:(Nat→Int),∃A2:(Nat→Int),∃q1:Bool,x= .tuple #[]∧hs=[ak b true ([.bool false,v1.v,.bool q1]),aB false 5 1 v1.v (ag x4) (aK (ag x4) [aC .u8 1 A1]),ak b1 true (aqk (aj .u8 16 A2) ([.int .u8 x1,.bool (!(x2==0)),.int .u64 x3])),ak b2 true ([.pointer (some ⟨b,0,none⟩)])]∧R v1 x1 x2 x3 x4 A1 A2 q1:=by
 subst hn ho;rw [aqD,hA.xE];refine⟨_,K1 b b1 b2 v q l hl,?_⟩;rintro x hs ⟨rfl,v',q',l',rfl,h1,h2⟩;exact⟨v',_,_,_,_,_,_,q',rfl,rfl,h v' q' l' h2 h1 (Hm (.st hl))⟩
end Go.RX.Vb
