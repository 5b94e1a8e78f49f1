/- The store's walker. -/
import Derived.Test.YtllcdnkfbeokhaaGreatM30
open Go.IntKind renaming wrap → ae
open Go.Proofs.Tryz renaming prog → auN
open Int renaming toNat → ag, toNat_natCast → auD
open List renaming append → aul, getD_cons_zero → ah, getD_eq_getElem?_getD → auO, getElem?_eq_getElem → auU, length_append → aum, length_singleton → aun, mem_range → auG
namespace Go.RX.Vb
open Go Go.RX Go.Proofs Go.Vs
def gZ(H h:HP):Prop:=h.wr=false∧∀w S,H.p w S→∃S':Nat→Prop,(∀k,S' k→S k)∧h.p w S'
theorem gZ.X2{H h:HP}(hw:H.wr=false)(hg:gZ H h):bI [H] [h,H]:=
 bI.trans (bI.dup hw []) (bI.put 0 H h rfl (fun hh=>by rw [hg.1]at hh;cases hh) hg.2)
def er{α:Type}(f:α→Bool)(s:List α):Nat→Int:=fun j=>bi ((s.map f).getD j false)
theorem mF{α:Type}(f:α→Bool)(s:List α)(i:Nat)(h:i<s.length):er f s i=bi (f s[i]):=by
 simp [er,auO,h]
abbrev cq{α:Type}(f:α→List Nat)(s:List α):Nat→Int:=aI (s.flatMap f)
theorem rY{α:Type}(f:α→List Nat)(n:Nat)(s:List α)(hs: ∀x∈s,(f x).length=n)(i:Nat)(h:i<s.length):aj .u8 n (bY (cq f s) (ag ((i:Int)*(n:Int))))=aj .u8 n (aI (f s[i])):=by
 unfold aj;refine List.map_congr_left fun j hj=>?_
 have hj:=auG.1 hj;show Value.int _ (aI _ (_+j))=_;rw [show ag ((i:Int)*(n:Int))=i*n by rw [←Int.natCast_mul,auD],lT f n s hs i j h hj]
abbrev eX(md:Bool)(v:Value)(s:List cf)(C:Nat→Int):HP:=aB md 77 268 v s.length (aM s.length [ay .u8 32 (cq (·.s.root) s),ay .u8 32 (cq (·.s.bind) s),ay .u8 32 (cq (·.s.own) s),ay .u8 32 (cq (·.s.ej) s),cY 1 (er (·.s.jO) s),cY 1 (er (·.s.jP) s),cY 1 (er (·.s.jQ) s),cY 1 (er (·.s.eD) s),ay .u8 32 (cq (·.s.send.key) s),ay .u32 1 (bN (·.s.send.n) s),ay .u8 32 (cq (·.s.recv.key) s),ay .u32 1 (bN (·.s.recv.n) s),ay .u32 1 (bN (·.s.prev) s),eA 1 (fun j=>cc (C j)),ay .u8 32 (cq (·.ident) s),ay .u8 32 (cq (·.ux) s),cY 1 (er (·.ek) s),ay .u32 1 (bN (·.eW) s),cY 1 (er (·.own) s),cY 1 (er (·.current) s)])
def vT(H:HP)(s:List cf)(C:Nat→Int):Prop:= ∀(i:Nat) (h:i<s.length),gZ H (pF false (cc (C i)) s[i].s.aN)
theorem NK{b b5:Nat}{v5:V1}{l:List Nat}{e:cf}{n c:Int}{A:Nat→Int}{H:HP}{row:List Value}{R:V1→Int→(Nat→Int)→Bool→Prop}(s6:row=lL e (cc c))(hH:H.wr=false)(hb:gZ H (pF false (cc c) e.s.aN))(he:qO e)
  (hA:cj A l) (hn:n=(l.length:Int)) (hl:l.length+(bS.enc e).length≤140737488355328) (h: ∀v':V1,R v' (((l++bS.enc e).length:Nat):Int) (aI (l++bS.enc e)) false):
  ∃post,aq auN 105 [.pointer (some ⟨b,0,none⟩),.pointer (some ⟨b5,0,none⟩)] [ak b true ([.bool true,v5.v,.bool false]),aB true 5 1 v5.v (ag n) (aM (ag n) [ay .u8 1 A]),ak b5 true row,H] post∧
   ∀y hs,post y hs→∃w1:V1,∃y1:Int,∃A':(Nat→Int),∃q:Bool,y= .tuple #[]∧hs=[ak b true ([.bool true,w1.v,.bool false]),aB true 5 1 w1.v (ag y1) (aM (ag y1) [ay .u8 1 A']),ak b5 true row,H]∧R w1 y1 A' q:=by
 subst s6 hn;rw [auD,hA.xi];have hm:=I6 b b5 v5 ⟨cc c,kG c⟩ l e he hl;refine⟨fun r hs=>r= .tuple #[]∧∃v':V1,hs=[dy b true v'.v false,aR true v'.v (l++bS.enc e),ak b5 true (lL e (cc c)),H],?_,?_⟩
 ·refine(aq.pre (aq.frame hm [H]) (bI.front (A:=[dy b true v5.v false,aR true v5.v l,ak b5 true (lL e (cc c))]) (gZ.X2 hH hb))).post ?_;rintro r hs ⟨lP,rfl,rfl,v',rfl⟩;exact⟨_,bI.sub (((((List.Sublist.refl _).cons _).cons_cons _).cons_cons _).cons_cons _),rfl,v',rfl⟩
 ·rintro y hs ⟨rfl,v',rfl⟩;exact⟨v',_,_,false,rfl,rfl,h v'⟩
structure kb (p:ez):Prop where
 a:p.dev.a<256
 d:p.dev.d<256
 many:p.l.length<256^4
 AP: ∀e∈p.l,qO e
theorem V9{n:Nat}(h:n<256):ae .u8 (n:Int)=(n:Int):=by
 rw [w8,Nat.mod_eq_of_lt h]
theorem vU(p:ez):bM.enc p=(be 1 p.dev.a++be 1 p.dev.d)++(be 4 p.l.length++p.l.flatMap bS.enc):=rfl
abbrev rZ(p:ez)(v:Value):List Value:=[.int .u8 (p.dev.a:Int),.int .u8 (p.dev.d:Int),v]
set_option maxHeartbeats 2000000 in
theorem NL(b b1 b2:Nat)(v vs:V1)(l:List Nat)(p:ez)(C:Nat→Int)(H:HP)(hH:H.wr=false)(hS:vT H p.l C)(hp:kb p)(hl:l.length+(bM.enc p).length≤140737488355328):
  aq auN 102 [wP b1,wP b2] [dy b true v.v false,aR true v.v l,ak b1 true (rZ p vs.v),ak b2 true [wP b],eX false vs.v p.l C,H]
   fun r hs=>r= .tuple #[]∧∃v':V1,hs=[dy b true v'.v false,aR true v'.v (l++bM.enc p),ak b1 true (rZ p vs.v),ak b2 true [wP b],eX false vs.v p.l C,H]:=by
 have h1:=hp.a;have h2:=hp.d;have h3:=hp.many;have hL:(bM.enc p).length=6+(p.l.flatMap bS.enc).length:=by
  rw [vU];simp only [aum,au];omega
 rw [hL]at hl;refine Z2 _ (l.length:Int) (p.dev.a:Int) (p.dev.d:Int) (p.l.length:Int) (aI l) (cq (·.s.root) p.l) (cq (·.s.bind) p.l) (cq (·.s.own) p.l) (cq (·.s.ej) p.l) (er (·.s.jO) p.l) (er (·.s.jP) p.l) (er (·.s.jQ) p.l) (er (·.s.eD) p.l) (cq (·.s.send.key) p.l) (bN (·.s.send.n) p.l) (cq (·.s.recv.key) p.l) (bN (·.s.recv.n) p.l) (bN (·.s.prev) p.l) C (cq (·.ident) p.l) (cq (·.ux) p.l) (er (·.ek) p.l) (bN (·.eW) p.l) (er (·.own) p.l) (er (·.current) p.l) v vs b b1 b2 H ?_;unfold RL;dsimp only [bq,Cp,Y2,oX,dt];intro _ _;refine aO (kn:=1) (x:=p.dev.a) (l:=l) (.inl ⟨rfl,rfl⟩) (iV (by omega)) cj.rfl rfl rfl (by omega) fun v2=>?_
 refine aO (kn:=1) (x:=p.dev.d) (l:=l++be 1 p.dev.a) (.inl ⟨rfl,rfl⟩) (iV (by omega)) cj.rfl rfl rfl (by simp only [aum,au];omega) fun v3=>?_
 refine⟨by omega,fun _=>?_⟩;refine aO (kn:=4) (x:=p.l.length) (l:=l++be 1 p.dev.a++be 1 p.dev.d) (.inr (.inl ⟨rfl,rfl⟩)) (iV h3) cj.rfl rfl rfl (by simp only [aum,au];omega) fun v4=>?_
 obtain⟨L3,Q6⟩: ∃L,L=l++be 1 p.dev.a++be 1 p.dev.d++be 4 p.l.length:=⟨_,rfl⟩;have n3:L3.length=l.length+6:=by rw [Q6];(simp only [aum,au])<;>omega
 rw [←Q6];refine⟨fun x=> ∃(i:Nat) (w:V1) (A:Nat→Int) (q:Bool),x=⟨[],[w],[(i:Int),((L3++(p.l.take i).flatMap bS.enc).length:Int)],[A],[q],[],[]⟩∧i≤p.l.length∧cj A (L3++(p.l.take i).flatMap bS.enc),fun x=>p.l.length - (x.i.getD 0 0).toNat,?_,?_⟩
 ·exact⟨v4,0,(L3.length:Int),aI L3,false,rfl,rfl,rfl,rfl,fun _ _=>rfl,0,v4,aI L3,false,by simp,by omega,by simpa using cj.rfl⟩
 rintro pP fc fw ff q5 ⟨i,w,A,q,hx,hi,hA⟩;simp only [Ext.mk.injEq,List.cons.injEq,and_true,true_and]at hx;obtain⟨rfl,⟨rfl,rfl⟩,rfl,rfl⟩:=hx;have ln:(((p.l.take i).flatMap bS.enc).length)+((p.l.drop i).flatMap bS.enc).length=(p.l.flatMap bS.enc).length:=by
  rw [←aum,←List.flatMap_append,List.take_append_drop]
 refine⟨fun cF=>?_,fun mn=>?_⟩
 ·have cD:i<p.l.length:=by omega
  have GK:p.l.drop i=p.l[i]::p.l.drop (i+1):=(List.getElem_cons_drop cD).symm;have uY:p.l.take (i+1)=p.l.take i++[p.l[i]]:=by rw [List.take_add_one,auU cD];rfl
  rw [GK,List.flatMap_cons,aum]at ln;refine⟨by omega,fun _ b5=>?_⟩;refine NK (e:=p.l[i]) (c:=C i) (l:=L3++(p.l.take i).flatMap bS.enc) ?_ hH (hS i cD) (hp.AP _ (List.getElem_mem cD)) hA rfl (by simp only [aum];omega) fun v6=>?_
  ·have e32: ∀n:Nat,(i:Int)*32=(i:Int)*((32:Nat):Int):=fun _=>rfl
   rw [e32 0,rY (·.s.root) 32 p.l (fun x hx=>by have h:=hp.AP x hx;exact h.root) i cD,rY (·.s.bind) 32 p.l (fun x hx=>by have h:=hp.AP x hx;exact h.bind) i cD,rY (·.s.own) 32 p.l (fun x hx=>by have h:=hp.AP x hx;exact h.own) i cD,rY (·.s.ej) 32 p.l (fun x hx=>by have h:=hp.AP x hx;exact h.ej) i cD,rY (·.s.send.key) 32 p.l (fun x hx=>by have h:=hp.AP x hx;exact h.sk) i cD,rY (·.s.recv.key) 32 p.l (fun x hx=>by have h:=hp.AP x hx;exact h.rk) i cD,rY (·.ident) 32 p.l (fun x hx=>by have h:=hp.AP x hx;exact h.ident) i cD,rY (·.ux) 32 p.l (fun x hx=>by have h:=hp.AP x hx;exact h.ux) i cD];simp only [auD];rw [mF (·.s.jO) p.l i cD,mF (·.s.jP) p.l i cD,mF (·.s.jQ) p.l i cD,mF (·.s.eD) p.l i cD,mF (·.ek) p.l i cD,mF (·.own) p.l i cD,mF (·.current) p.l i cD,jG (·.s.send.n) p.l i cD,jG (·.s.recv.n) p.l i cD,jG (·.s.prev) p.l i cD,jG (·.eW) p.l i cD]
  have tb:L3++(p.l.take (i+1)).flatMap bS.enc=L3++(p.l.take i).flatMap bS.enc++bS.enc p.l[i]:=by
   rw [uY,List.flatMap_append,List.flatMap_cons,List.flatMap_nil,List.append_nil,List.append_assoc]
  refine⟨by omega,fun _=>⟨by omega,fun _=>?_⟩⟩;refine⟨v6,_,_,_,false,rfl,rfl,rfl,rfl,fun _ _=>rfl,⟨i+1,v6,aI (L3++(p.l.take i).flatMap bS.enc++bS.enc p.l[i]),false,?_,by omega,?_⟩,?_⟩
  ·rw [tb];simp only [Ext.mk.injEq,List.cons.injEq,and_true,true_and];omega
  ·rw [tb];exact cj.rfl
  ·simp only [ah];omega
 ·have cD:i=p.l.length:=by omega
  subst cD;rw [List.take_length]at hA ⊢;have Q7:L3++p.l.flatMap bS.enc=l++bM.enc p:=by
   rw [Q6,vU];simp only [List.append_assoc]
  rw [Q7]at hA ⊢;rw [V9 h1,V9 h2,auD,hA.xi];exact⟨rfl,pP,rfl⟩
open Go Go.RX Go.Proofs Go.Vs
theorem qN{α:Type}(s:List α)(enc:α→List Nat)(L:List Nat){v0:V1}{n0 xn:Int}{A0:Nat→Int}{B:(Ext→Prop)→(Ext→Nat)→V1→Int→Int→(Nat→Int)→Bool→Prop}{R:V1→Int→Int→(Nat→Int)→Bool→Prop}
  (hn:xn=(s.length:Int)) (vV:cj A0 L) (Da:n0=(L.length:Int))
  (hb: ∀(I:Ext→Prop) (m:Ext→Nat) (i:Nat) (hi:i<s.length) (v:V1) (A:Nat→Int) (q:Bool),cj A (L++(s.take i).flatMap enc)→
   (∀(v':V1) (A':Nat→Int) (q':Bool) (x' n':Int),x'=(i:Int)+1→n'=((L++(s.take i).flatMap enc++enc s[i]).length:Int)→cj A' (L++(s.take i).flatMap enc++enc s[i])→
    I ⟨[],[v'],[x',n'],[A'],[q'],[],[]⟩∧m ⟨[],[v'],[x',n'],[A'],[q'],[],[]⟩<m ⟨[],[v],[(i:Int),((L++(s.take i).flatMap enc).length:Int)],[A],[q],[],[]⟩)→
   (L++(s.take i).flatMap enc).length+(enc s[i]).length≤(L++s.flatMap enc).length→
   B I m v (i:Int) ((L++(s.take i).flatMap enc).length:Int) A q)
  (hr: ∀(v:V1) (A:Nat→Int) (q:Bool),cj A (L++s.flatMap enc)→R v (s.length:Int) ((L++s.flatMap enc).length:Int) A q):
  ∃(I:Ext→Prop) (m:Ext→Nat),(∃v:V1,∃x:Int,∃n:Int,∃A:(Nat→Int),∃q:Bool,x=0∧v=v0∧v=v0∧n=n0∧(∀j,j<(ag n)→A j=A0 j)∧I ⟨[],[v],[x,n],[A],[q],[],[]⟩)∧
   ∀v:V1,∀x:Int,∀n:Int,∀A:(Nat→Int),∀q:Bool,I ⟨[],[v],[x,n],[A],[q],[],[]⟩→bt (x<xn) (B I m v x n A q) (R v x n A q):=by
 refine⟨fun x=> ∃(i:Nat) (w:V1) (A:Nat→Int) (q:Bool),x=⟨[],[w],[(i:Int),((L++(s.take i).flatMap enc).length:Int)],[A],[q],[],[]⟩∧i≤s.length∧cj A (L++(s.take i).flatMap enc),fun x=>s.length - (x.i.getD 0 0).toNat,?_,?_⟩
 ·exact⟨v0,0,n0,A0,false,rfl,rfl,rfl,rfl,fun _ _=>rfl,0,v0,A0,false,by simp [Da],by omega,by simpa using vV⟩
 rintro v x n A q ⟨i,w,A',q',hx,hi,hA⟩;simp only [Ext.mk.injEq,List.cons.injEq,and_true,true_and]at hx;obtain⟨rfl,⟨rfl,rfl⟩,rfl,rfl⟩:=hx;refine⟨fun cF=>?_,fun mn=>?_⟩
 ·have cD:i<s.length:=by omega
  have uY:s.take (i+1)=s.take i++[s[i]]:=by rw [List.take_add_one,auU cD];rfl
  have tb:L++(s.take (i+1)).flatMap enc=L++(s.take i).flatMap enc++enc s[i]:=by
   rw [uY,List.flatMap_append,List.flatMap_cons,List.flatMap_nil,List.append_nil,List.append_assoc]
  refine hb _ _ i cD v A q hA ?_ ?_
  ·intro v' A' q' x' n' V_ UI hA';refine⟨⟨i+1,v',A',q',?_,by omega,by rw [tb];exact hA'⟩,?_⟩
   ·rw [tb,V_,UI];simp only [Ext.mk.injEq,List.cons.injEq,and_true,true_and];omega
   ·simp only [ah];omega
  ·have GK:s.drop i=s[i]::s.drop (i+1):=(List.getElem_cons_drop cD).symm;have ln:((s.take i).flatMap enc).length+((s.drop i).flatMap enc).length=(s.flatMap enc).length:=by
    rw [←aum,←List.flatMap_append,List.take_append_drop]
   rw [GK,List.flatMap_cons,aum]at ln;rw [aum,aum];omega
 ·have cD:i=s.length:=by omega
  subst cD;rw [List.take_length]at hA ⊢;exact hr v A q hA
open Go Go.RX Go.Proofs Go.Vs
structure AQ (s:Vs.State):Prop where
 mD:s.mD.length=32
 drawn:s.drawn<256^8
 kda:s.table.keys.dev.a<256
 kdd:s.table.keys.dev.d<256
 aiA:s.table.keys.ident.length=32
 agp:s.table.keys.signed.length=32
 once:s.table.keys.once.length<256^4
 eW: ∀x∈s.table.keys.once,x.id<256^4
 amI: ∀x∈s.table.keys.once,x.cP.length=32
 most:s.table.most<256^4
 aL:s.table.aL.length<256^4
 peer: ∀p∈s.table.aL,kb p
 mea:s.call.me.a<256
 med:s.call.me.d<256
 dv:s.call.dv.length=8
 dead:s.call.dead.length<256^4
 amJ: ∀x∈s.call.dead,x.length=16
 state:s.call.state<256
 id:s.call.id.length=16
 aP:s.call.aP<256
 pa:s.call.peer.a<256
 pd:s.call.peer.d<256
 own:s.call.own.length=32
 dx:s.call.dx.length=32
 gY:s.call.gY.length=32
 marks:s.call.marks.length<256^4
 cM:s.call.fQ<256
 early:s.call.early.length<256^4
 aiB: ∀x∈s.call.early,x.a<256
 aiC: ∀x∈s.call.early,x.d<256
 hZ:s.call.hZ<256^4
 log:s.log.length<256^4
 aH:s.aH.length<256^4
 RM: ∀x∈s.aH,x.id.length=16
 amK: ∀x∈s.aH,x.aP<256
theorem AR(x:cV):dN.enc x=be 4 x.id++x.cP:=rfl
theorem K9(x:jl):gM.enc x=be 1 x.a++be 1 x.d:=rfl
theorem Et(x:List Nat):(raw 16).enc x=x:=rfl
theorem G0(x:Room):dW.enc x=x.id++(be 1 x.aP++([if x.out then 1 else 0]++be 8 x.since)):=rfl
theorem pG(s:Vs.State):aZ.enc s=s.mD++(be 8 s.drawn++((((be 1 s.table.keys.dev.a++be 1 s.table.keys.dev.d)++(s.table.keys.ident++(s.table.keys.signed++(be 4 s.table.keys.once.length++s.table.keys.once.flatMap dN.enc))))++(be 4 s.table.most++(be 4 s.table.aL.length++s.table.aL.flatMap bM.enc)))++
  (((be 1 s.call.me.a++be 1 s.call.me.d)++(s.call.dv++((be 4 s.call.dead.length++s.call.dead.flatMap (raw 16).enc)++(be 1 s.call.state++(s.call.id++([if s.call.out then 1 else 0]++(be 1 s.call.aP++((be 1 s.call.peer.a++be 1 s.call.peer.d)++(s.call.own++(s.call.dx++(s.call.gY++((be 4 s.call.marks.length++s.call.marks)++(be 1 s.call.fQ++((be 4 s.call.early.length++s.call.early.flatMap gM.enc)++(be 8 s.call.eO++(be 8 s.call.bV++(be 8 s.call.since++(be 8 s.call.heard++(be 8 s.call.mC++be 4 s.call.hZ)))))))))))))))))))++((be 4 s.log.length++s.log)++(be 4 s.aH.length++s.aH.flatMap dW.enc))))):=rfl
abbrev jS(s:Vs.State)(v1 v2 v3 v4 v5 v6 v7:Value):List Value:=aul (aj .u8 32 (aI s.mD)) (.int .u64 (s.drawn:Int)::(.int .u8 (s.table.keys.dev.a:Int)::(.int .u8 (s.table.keys.dev.d:Int)::(aul (aj .u8 32 (aI s.table.keys.ident)) (aul (aj .u8 32 (aI s.table.keys.signed)) (v1::(.int .i64 (s.table.most:Int)::(v2::(.int .u8 (s.call.me.a:Int)::(.int .u8 (s.call.me.d:Int)::(aul (aj .u8 8 (aI s.call.dv)) (v3::(.int .u8 (s.call.state:Int)::(aul (aj .u8 16 (aI s.call.id)) (.bool (!(bi s.call.out==0))::(.int .u8 (s.call.aP:Int)::(.int .u8 (s.call.peer.a:Int)::(.int .u8 (s.call.peer.d:Int)::(aul (aj .u8 32 (aI s.call.own)) (aul (aj .u8 32 (aI s.call.dx)) (aul (aj .u8 32 (aI s.call.gY)) ([v4,.int .i64 ((s.call.fQ:Int) - 1),v5,.int .u64 (s.call.eO:Int),.int .u64 (s.call.bV:Int),.int .u64 (s.call.since:Int),.int .u64 (s.call.heard:Int),.int .u64 (s.call.mC:Int),.int .u32 (s.call.hZ:Int),v6,v7]))))))))))))))))))))))
abbrev Cv(md:Bool)(v:Value)(s:List cV):HP:=aB md 93 33 v s.length (aM s.length [ay .u32 1 (bN cV.id s),ay .u8 32 (cq cV.cP s)])
abbrev za(md:Bool)(v:Value)(s:List ez)(C:Nat→Int):HP:=aB md 68 3 v s.length (aM s.length [ay .u8 1 (bN (·.dev.a) s),ay .u8 1 (bN (·.dev.d) s),eA 1 (fun j=>cc (C j))])
abbrev AS(md:Bool)(v:Value)(s:List (List Nat)):HP:=aB md 36 16 v s.length (aM s.length [ay .u8 16 (cq (fun x=>x) s)])
abbrev AT(md:Bool)(v:Value)(s:List jl):HP:=aB md 26 2 v s.length (aM s.length [ay .u8 1 (bN jl.a s),ay .u8 1 (bN jl.d s)])
abbrev tH(md:Bool)(v:Value)(s:List Room):HP:=aB md 98 19 v s.length (aM s.length [ay .u8 16 (cq Room.id s),ay .u8 1 (bN Room.aP s),cY 1 (er Room.out s),ay .u64 1 (bN Room.since s)])
def lg(H:HP)(s:List ez)(C:Nat→Int):Prop:= ∀(i:Nat) (h:i<s.length),∃D:Nat→Int,gZ H (eX false (cc (C i)) s[i].l D)∧vT H s[i].l D
theorem RN{b b1 b2:Nat}{v5:V1}{l:List Nat}{p:ez}{n c:Int}{A:Nat→Int}{H:HP}{row:List Value}{R:V1→Int→(Nat→Int)→Bool→Prop}(s6:row=rZ p (cc c))(hH:H.wr=false)(hb: ∃D:Nat→Int,gZ H (eX false (cc c) p.l D)∧vT H p.l D)(hp:kb p)
  (hA:cj A l) (hn:n=(l.length:Int)) (hl:l.length+(bM.enc p).length≤140737488355328) (h: ∀v':V1,R v' (((l++bM.enc p).length:Nat):Int) (aI (l++bM.enc p)) false):
  ∃post,aq auN 102 [.pointer (some ⟨b1,0,none⟩),.pointer (some ⟨b2,0,none⟩)] [ak b true ([.bool true,v5.v,.bool false]),aB true 5 1 v5.v (ag n) (aM (ag n) [ay .u8 1 A]),ak b1 true row,ak b2 true ([.pointer (some ⟨b,0,none⟩)]),H] post∧
   ∀y hs,post y hs→∃w1:V1,∃y1:Int,∃A':(Nat→Int),∃q:Bool,y= .tuple #[]∧hs=[ak b true ([.bool true,w1.v,.bool false]),aB true 5 1 w1.v (ag y1) (aM (ag y1) [ay .u8 1 A']),ak b1 true row,ak b2 true ([.pointer (some ⟨b,0,none⟩)]),H]∧R w1 y1 A' q:=by
 subst s6 hn;rw [auD,hA.xi];obtain⟨D,hD,hS⟩:=hb;have hm:=NL b b1 b2 v5 ⟨cc c,kG c⟩ l p D H hH hS hp hl;refine⟨fun r hs=>r= .tuple #[]∧∃v':V1,hs=[dy b true v'.v false,aR true v'.v (l++bM.enc p),ak b1 true (rZ p (cc c)),ak b2 true [wP b],H],?_,?_⟩
 ·refine(aq.pre hm (bI.front (A:=[dy b true v5.v false,aR true v5.v l,ak b1 true (rZ p (cc c)),ak b2 true [wP b]]) (gZ.X2 hH hD))).post ?_;rintro r hs ⟨rfl,v',rfl⟩;exact⟨_,bI.sub (((((List.Sublist.refl _).cons _).cons_cons _).cons_cons _).cons_cons _ |>.cons_cons _),rfl,v',rfl⟩
 ·rintro y hs ⟨rfl,v',rfl⟩;exact⟨v',_,_,false,rfl,rfl,h v'⟩
set_option maxRecDepth 100000 in
set_option maxHeartbeats 4000000 in
theorem NM(b b1:Nat)(v u1 u2 u3 u4 u5 u6 u7:V1)(l:List Nat)(s:Vs.State)(C:Nat→Int)(H:HP)(hH:H.wr=false)(hP:lg H s.table.aL C)(hs:AQ s)(hl:l.length+(aZ.enc s).length≤140737488355328):
  aq auN 32 [wP b,wP b1] [dy b true v.v false,aR true v.v l,ak b1 true (jS s u1.v u2.v u3.v u4.v u5.v u6.v u7.v),Cv false u1.v s.table.keys.once,za false u2.v s.table.aL C,AS false u3.v s.call.dead,aR false u4.v s.call.marks,AT false u5.v s.call.early,aR false u6.v s.log,tH false u7.v s.aH,H]
   fun r hs=>r= .tuple #[]∧∃v':V1,hs=[dy b true v'.v false,aR true v'.v (l++aZ.enc s)]:=by
 obtain⟨h1,h2,h3,h4,h5,h6,h7,h8,h9,h10,Y_,h12,U9,h14,h15,h16,h17,h18,h19,h20,h21,h22,h23,h24,h25,h26,h27,h28,h29,h30,h31,h32,h33,h34,h35⟩:=hs;have hL:(aZ.enc s).length=110+(s.table.keys.once.flatMap dN.enc).length+8+(s.table.aL.flatMap bM.enc).length+14+(s.call.dead.flatMap (raw 16).enc).length+117+4+s.call.marks.length+1+4+(s.call.early.flatMap gM.enc).length+44+4+s.log.length+4+(s.aH.flatMap dW.enc).length:=by
  rw [pG];simp only [aum,au,aun];omega
 rw [hL]at hl;refine Z1 _ (l.length:Int) (s.drawn:Int) (s.table.keys.dev.a:Int) (s.table.keys.dev.d:Int) (s.table.most:Int) (s.call.me.a:Int) (s.call.me.d:Int) (s.call.state:Int) (bi s.call.out) (s.call.aP:Int) (s.call.peer.a:Int) (s.call.peer.d:Int) ((s.call.fQ:Int) - 1) (s.call.eO:Int) (s.call.bV:Int) (s.call.since:Int) (s.call.heard:Int) (s.call.mC:Int) (s.call.hZ:Int)
  (s.table.keys.once.length:Int) (s.table.aL.length:Int) (s.call.dead.length:Int) (s.call.marks.length:Int) (s.call.early.length:Int) (s.log.length:Int) (s.aH.length:Int)
  (aI l) (aI s.mD) (aI s.table.keys.ident) (aI s.table.keys.signed) (aI s.call.dv) (aI s.call.id) (aI s.call.own) (aI s.call.dx) (aI s.call.gY) (bN cV.id s.table.keys.once) (cq cV.cP s.table.keys.once) (bN (·.dev.a) s.table.aL) (bN (·.dev.d) s.table.aL) C (cq (fun x=>x) s.call.dead) (aI s.call.marks) (bN jl.a s.call.early) (bN jl.d s.call.early) (aI s.log) (cq Room.id s.aH) (bN Room.aP s.aH) (er Room.out s.aH) (bN Room.since s.aH) v u1 u2 u3 u4 u5 u6 u7 b b1 H ?_
 unfold RI;dsimp only [bq,Gq,oX,I4,dt,TU];intro _ _;refine⟨by omega,fun _=>⟨by omega,fun _ _ _=>?_⟩⟩;refine aO (kn:=8) (x:=s.drawn) (l:=l++s.mD) (.inr (.inr ⟨rfl,rfl⟩)) rfl (cj.rfl.jI (by omega) (by omega) fun _ _=>rfl) (by first | omega | (simp only [aum];omega)) rfl (by first | omega | (simp only [aum];omega)) fun v9=>?_
 obtain⟨L1,Za⟩: ∃L,L=l++s.mD++be 8 s.drawn:=⟨_,rfl⟩;have n1:L1.length=l.length+40:=by rw [Za];simp only [aum,au];omega
 rw [←Za];intro _ _ _ _;refine aO (kn:=1) (x:=s.table.keys.dev.a) (l:=L1) (.inl ⟨rfl,rfl⟩) (iV (by omega)) cj.rfl rfl rfl (by first | omega | (simp only [aum,au,aun];omega)) fun v10=>?_
 refine aO (kn:=1) (x:=s.table.keys.dev.d) (l:=L1++be 1 s.table.keys.dev.a) (.inl ⟨rfl,rfl⟩) (iV (by omega)) cj.rfl rfl rfl (by first | omega | (simp only [aum,au];omega)) fun v11=>?_
 obtain⟨L2,Zb⟩: ∃L,L=L1++be 1 s.table.keys.dev.a++be 1 s.table.keys.dev.d:=⟨_,rfl⟩;have n2:L2.length=l.length+42:=by rw [Zb];simp only [aum,au];omega
 rw [←Zb];intro _;refine⟨by omega,fun _=>⟨by omega,fun _ _=>⟨by omega,fun _=>⟨by omega,fun _ _=>⟨by omega,fun _=>?_⟩⟩⟩⟩⟩;refine aO (kn:=4) (x:=s.table.keys.once.length) (l:=L2++s.table.keys.ident++s.table.keys.signed) (.inr (.inl ⟨rfl,rfl⟩)) (iV h7) ((cj.rfl.jI (by omega) (by omega) fun _ _=>rfl).jI (by first | omega | (simp only [aum];omega)) (by omega) fun _ _=>rfl) (by first | omega | (simp only [aum];omega)) rfl (by first | omega | (simp only [aum];omega)) fun rU=>?_
 obtain⟨L3,Q6⟩: ∃L,L=L2++s.table.keys.ident++s.table.keys.signed++be 4 s.table.keys.once.length:=⟨_,rfl⟩;have n3:L3.length=l.length+110:=by rw [Q6];simp only [aum,au];omega
 rw [←Q6];refine qN s.table.keys.once dN.enc L3 rfl cj.rfl rfl ?_ ?_
 ·intro I m i hi w A q hA Wb hle;have hm:=List.getElem_mem hi;have d1:=h8 _ hm;have d2:=h9 _ hm;simp only [AR,aum,au,d2]at hle;refine⟨by omega,fun _ _ _=>?_⟩;refine aO (kn:=4) (x:=s.table.keys.once[i].id) (l:=L3++(s.table.keys.once.take i).flatMap dN.enc) (.inr (.inl ⟨rfl,rfl⟩)) (by rw [auD,jG _ _ _ hi];exact iV d1) hA rfl rfl (by first | omega | (simp only [aum];omega)) fun rh=>?_
  intro _;refine⟨by omega,fun _=>⟨by first | omega | (simp only [aum,au];omega),fun _ pQ=>⟨by omega,fun _=>⟨by omega,fun _=>?_⟩⟩⟩⟩;have hk:cj (bX (aI (L3++(s.table.keys.once.take i).flatMap dN.enc++be 4 s.table.keys.once[i].id)) (ag ((L3++(s.table.keys.once.take i).flatMap dN.enc++be 4 s.table.keys.once[i].id).length:Int)) 32 (bY (cq cV.cP s.table.keys.once) (ag ((i:Int)*32)))) (L3++(s.table.keys.once.take i).flatMap dN.enc++dN.enc s.table.keys.once[i]):=by
   rw [AR,←List.append_assoc];refine cj.rfl.jI (by omega) (by omega) fun j hj=>?_
   show aI _ (_+j)=_;rw [show(((i:Int)*32).toNat+j)=i*32+j by omega];exact lT cV.cP 32 _ h9 i j hi hj
  exact⟨pQ,_,_,_,false,rfl,rfl,rfl,rfl,fun _ _=>rfl,Wb pQ _ false _ _ rfl (by rw [AR];simp only [aum,au,d2];omega) hk⟩
 intro pE gn NN aiD;refine aO (kn:=4) (x:=s.table.most) (l:=L3++s.table.keys.once.flatMap dN.enc) (.inr (.inl ⟨rfl,rfl⟩)) (iV h10) aiD rfl rfl (by first | omega | (simp only [aum];omega)) fun rh=>?_
 iterate 3 refine⟨by omega,fun _=>?_⟩
 refine aO (kn:=4) (x:=s.table.aL.length) (l:=L3++s.table.keys.once.flatMap dN.enc++be 4 s.table.most) (.inr (.inl ⟨rfl,rfl⟩)) (iV Y_) cj.rfl rfl rfl (by first | omega | (simp only [aum,au];omega)) fun pQ=>?_
 obtain⟨L5,hL5⟩: ∃L,L=L3++s.table.keys.once.flatMap dN.enc++be 4 s.table.most++be 4 s.table.aL.length:=⟨_,rfl⟩;have n5:L5.length=l.length+118+(s.table.keys.once.flatMap dN.enc).length:=by rw [hL5];simp only [aum,au];omega
 rw [←hL5];refine qN s.table.aL bM.enc L5 rfl cj.rfl rfl ?_ ?_
 ·intro I m i hi w A q hA Wb hle;refine⟨by omega,fun _ Ip=>?_⟩;refine RN (p:=s.table.aL[i]) (c:=C i) (l:=L5++(s.table.aL.take i).flatMap bM.enc) (by simp only [auD];rw [jG (·.dev.a) _ _ hi,jG (·.dev.d) _ _ hi]) hH (hP i hi) (h12 _ (List.getElem_mem hi)) hA rfl (by simp only [aum]at hle ⊢;omega) fun tg=>?_
  exact⟨by omega,fun _=>⟨by omega,fun _=>⟨tg,_,_,_,false,rfl,rfl,rfl,rfl,fun _ _=>rfl,Wb tg _ false _ _ rfl rfl cj.rfl⟩⟩⟩
 intro mJ eQ Uc Z3;intro _ _ _;refine aO (kn:=1) (x:=s.call.me.a) (l:=L5++s.table.aL.flatMap bM.enc) (.inl ⟨rfl,rfl⟩) (iV (by omega)) Z3 rfl rfl (by first | omega | (simp only [aum];omega)) fun tg=>?_
 refine aO (kn:=1) (x:=s.call.me.d) (l:=L5++s.table.aL.flatMap bM.enc++be 1 s.call.me.a) (.inl ⟨rfl,rfl⟩) (iV (by omega)) cj.rfl rfl rfl (by first | omega | (simp only [aum,au];omega)) fun v20=>?_
 obtain⟨L6,hL6⟩: ∃L,L=L5++s.table.aL.flatMap bM.enc++be 1 s.call.me.a++be 1 s.call.me.d:=⟨_,rfl⟩;have n6:L6.length=l.length+120+(s.table.keys.once.flatMap dN.enc).length+(s.table.aL.flatMap bM.enc).length:=by rw [hL6];simp only [aum,au];omega
 rw [←hL6];refine⟨by omega,fun _=>⟨by first | omega | (simp only [aum,au,aun];omega),fun _ _=>⟨by omega,fun _=>?_⟩⟩⟩;refine aO (kn:=4) (x:=s.call.dead.length) (l:=L6++s.call.dv) (.inr (.inl ⟨rfl,rfl⟩)) (iV h16) (cj.rfl.jI (by omega) (by omega) fun _ _=>rfl) (by first | omega | (simp only [aum];omega)) rfl (by first | omega | (simp only [aum];omega)) fun vS=>?_
 obtain⟨L7,hL7⟩: ∃L,L=L6++s.call.dv++be 4 s.call.dead.length:=⟨_,rfl⟩;have n7:L7.length=l.length+132+(s.table.keys.once.flatMap dN.enc).length+(s.table.aL.flatMap bM.enc).length:=by rw [hL7];simp only [aum,au];omega
 rw [←hL7];refine qN s.call.dead (raw 16).enc L7 rfl cj.rfl rfl ?_ ?_
 ·intro I m i hi w A q hA Wb hle;have d1:=h17 _ (List.getElem_mem hi);rw [Et,d1]at hle;simp only [aum]at hle;refine⟨by omega,fun _ _=>⟨by omega,fun _=>⟨by first | omega | (simp only [aum];omega),fun _ wJ=>⟨by omega,fun _=>⟨by omega,fun _=>?_⟩⟩⟩⟩⟩;have hk:cj (bX A (ag ((L7++(s.call.dead.take i).flatMap (raw 16).enc).length:Int)) 16 (bY (cq (fun x=>x) s.call.dead) (ag ((i:Int)*16)))) (L7++(s.call.dead.take i).flatMap (raw 16).enc++(raw 16).enc s.call.dead[i]):=by
   rw [Et];refine hA.jI (by omega) (by omega) fun j hj=>?_
   show aI _ (_+j)=_;rw [show(((i:Int)*16).toNat+j)=i*16+j by omega];exact lT (fun x=>x) 16 _ h17 i j hi hj
  exact⟨wJ,_,_,_,false,rfl,rfl,rfl,rfl,fun _ _=>rfl,Wb wJ _ false _ _ rfl (by rw [Et];simp only [aum,d1];omega) hk⟩
 intro tF jW q23 aiH;intro _;refine aO (kn:=1) (x:=s.call.state) (l:=L7++s.call.dead.flatMap (raw 16).enc) (.inl ⟨rfl,rfl⟩) (iV (by omega)) aiH rfl rfl (by first | omega | (simp only [aum];omega)) fun wJ=>?_
 obtain⟨L8,hL8⟩: ∃L,L=L7++s.call.dead.flatMap (raw 16).enc++be 1 s.call.state:=⟨_,rfl⟩;have n8:L8.length=l.length+133+(s.table.keys.once.flatMap dN.enc).length+(s.table.aL.flatMap bM.enc).length+(s.call.dead.flatMap (raw 16).enc).length:=by rw [hL8];simp only [aum,au];omega
 rw [←hL8];refine⟨by omega,fun _=>⟨by first | omega | (simp only [aum,au,aun];omega),fun _ uz V3=>?_⟩⟩;refine Q4 (l:=L8++s.call.id) (cj.rfl.jI (by omega) (by omega) fun _ _=>rfl) (by first | omega | (simp only [aum];omega)) rfl (by first | omega | (simp only [aum];omega)) fun tf=>?_
 obtain⟨L9,hL9⟩: ∃L,L=L8++s.call.id++[if s.call.out then 1 else 0]:=⟨_,rfl⟩;have n9:L9.length=l.length+150+(s.table.keys.once.flatMap dN.enc).length+(s.table.aL.flatMap bM.enc).length+(s.call.dead.flatMap (raw 16).enc).length:=by rw [hL9];simp only [aum,aun];omega
 rw [←hL9];intro _;refine aO (kn:=1) (x:=s.call.aP) (l:=L9) (.inl ⟨rfl,rfl⟩) (iV (by omega)) cj.rfl rfl rfl (by first | omega | (simp only [aum,au,aun];omega)) fun tG=>?_
 intro _ _;refine aO (kn:=1) (x:=s.call.peer.a) (l:=L9++be 1 s.call.aP) (.inl ⟨rfl,rfl⟩) (iV (by omega)) cj.rfl rfl rfl (by first | omega | (simp only [aum,au];omega)) fun uT=>?_
 refine aO (kn:=1) (x:=s.call.peer.d) (l:=L9++be 1 s.call.aP++be 1 s.call.peer.a) (.inl ⟨rfl,rfl⟩) (iV (by omega)) cj.rfl rfl rfl (by first | omega | (simp only [aum,au];omega)) fun xj=>?_
 obtain⟨L10,Z4⟩: ∃L,L=L9++be 1 s.call.aP++be 1 s.call.peer.a++be 1 s.call.peer.d:=⟨_,rfl⟩;have n10:L10.length=l.length+153+(s.table.keys.once.flatMap dN.enc).length+(s.table.aL.flatMap bM.enc).length+(s.call.dead.flatMap (raw 16).enc).length:=by rw [Z4];simp only [aum,au];omega
 rw [←Z4];intro _;refine⟨by omega,fun _=>⟨by first | omega | (simp only [aum,au,aun];omega),fun _ _=>⟨by omega,fun _=>⟨by first | omega | (simp only [aum,au,aun];omega),fun _ _=>⟨by omega,fun _=>⟨by first | omega | (simp only [aum,au,aun];omega),fun _ _=>⟨by omega,fun _=>?_⟩⟩⟩⟩⟩⟩⟩;refine aO (kn:=4) (x:=s.call.marks.length) (l:=L10++s.call.own++s.call.dx++s.call.gY) (.inr (.inl ⟨rfl,rfl⟩)) (iV h26) (((cj.rfl.jI (by omega) (by omega) fun _ _=>rfl).jI (by first | omega | (simp only [aum];omega)) (by omega) fun _ _=>rfl).jI (by first | omega | (simp only [aum];omega)) (by omega) fun _ _=>rfl) (by first | omega | (simp only [aum];omega)) rfl (by first | omega | (simp only [aum];omega)) fun V4=>?_
 obtain⟨L11,Z5⟩: ∃L,L=L10++s.call.own++s.call.dx++s.call.gY++be 4 s.call.marks.length:=⟨_,rfl⟩;have n11:L11.length=l.length+253+(s.table.keys.once.flatMap dN.enc).length+(s.table.aL.flatMap bM.enc).length+(s.call.dead.flatMap (raw 16).enc).length:=by rw [Z5];simp only [aum,au];omega
 rw [←Z5];refine⟨by omega,fun _=>⟨by first | omega | (simp only [aum,au,aun];omega),fun _ _=>⟨by omega,fun _=>⟨by omega,fun _=>?_⟩⟩⟩⟩;refine aO (kn:=1) (x:=s.call.fQ) (l:=L11++s.call.marks) (.inl ⟨rfl,rfl⟩) (by rw [Int.sub_add_cancel];exact iV (by omega)) (cj.rfl.jI (by omega) (by omega) fun _ _=>rfl) (by first | omega | (simp only [aum];omega)) rfl (by first | omega | (simp only [aum];omega)) fun V5=>?_
 obtain⟨L12,Z6⟩: ∃L,L=L11++s.call.marks++be 1 s.call.fQ:=⟨_,rfl⟩;have n12:L12.length=l.length+254+s.call.marks.length+(s.table.keys.once.flatMap dN.enc).length+(s.table.aL.flatMap bM.enc).length+(s.call.dead.flatMap (raw 16).enc).length:=by rw [Z6];simp only [aum,au];omega
 rw [←Z6]
 iterate 5 refine⟨by omega,fun _=>?_⟩
 refine aO (kn:=4) (x:=s.call.early.length) (l:=L12) (.inr (.inl ⟨rfl,rfl⟩)) (iV h28) cj.rfl rfl rfl (by first | omega | (simp only [aum,au,aun];omega)) fun T_=>?_
 obtain⟨NO,Z7⟩: ∃L,L=L12++be 4 s.call.early.length:=⟨_,rfl⟩;have n13:NO.length=l.length+258+s.call.marks.length+(s.table.keys.once.flatMap dN.enc).length+(s.table.aL.flatMap bM.enc).length+(s.call.dead.flatMap (raw 16).enc).length:=by rw [Z7];simp only [aum,au];omega
 rw [←Z7];refine qN s.call.early gM.enc NO rfl cj.rfl rfl ?_ ?_
 ·intro I m i hi w A q hA Wb hle;have hm:=List.getElem_mem hi;have d1:=h29 _ hm;have d2:=h30 _ hm;simp only [K9,aum,au]at hle;refine⟨by omega,fun _ _ _ _=>?_⟩;refine aO (kn:=1) (x:=s.call.early[i].a) (l:=NO++(s.call.early.take i).flatMap gM.enc) (.inl ⟨rfl,rfl⟩) (by rw [auD,jG _ _ _ hi];exact iV (by omega)) hA rfl rfl (by first | omega | (simp only [aum];omega)) fun Iq=>?_
  refine aO (kn:=1) (x:=s.call.early[i].d) (l:=NO++(s.call.early.take i).flatMap gM.enc++be 1 s.call.early[i].a) (.inl ⟨rfl,rfl⟩) (by rw [auD,jG _ _ _ hi];exact iV (by omega)) cj.rfl rfl rfl (by first | omega | (simp only [aum,au];omega)) fun GY=>?_
  have hk:NO++(s.call.early.take i).flatMap gM.enc++be 1 s.call.early[i].a++be 1 s.call.early[i].d=NO++(s.call.early.take i).flatMap gM.enc++gM.enc s.call.early[i]:=by rw [K9,List.append_assoc _ (be 1 _)]
  rw [hk];exact⟨by omega,fun _=>⟨by omega,fun _=>⟨GY,_,_,_,false,rfl,rfl,rfl,rfl,fun _ _=>rfl,Wb GY _ false _ _ rfl rfl cj.rfl⟩⟩⟩
 intro Jb yn q37 aiO;intro _;refine aO (kn:=8) (x:=s.call.eO) (l:=NO++s.call.early.flatMap gM.enc) (.inr (.inr ⟨rfl,rfl⟩)) rfl aiO rfl rfl (by first | omega | (simp only [aum];omega)) fun Iq=>?_
 refine aO (kn:=8) (x:=s.call.bV) (l:=NO++s.call.early.flatMap gM.enc++be 8 s.call.eO) (.inr (.inr ⟨rfl,rfl⟩)) rfl cj.rfl rfl rfl (by first | omega | (simp only [aum,au];omega)) fun GY=>?_
 refine aO (kn:=8) (x:=s.call.since) (l:=NO++s.call.early.flatMap gM.enc++be 8 s.call.eO++be 8 s.call.bV) (.inr (.inr ⟨rfl,rfl⟩)) rfl cj.rfl rfl rfl (by first | omega | (simp only [aum,au];omega)) fun Ua=>?_
 refine aO (kn:=8) (x:=s.call.heard) (l:=NO++s.call.early.flatMap gM.enc++be 8 s.call.eO++be 8 s.call.bV++be 8 s.call.since) (.inr (.inr ⟨rfl,rfl⟩)) rfl cj.rfl rfl rfl (by first | omega | (simp only [aum,au];omega)) fun NJ=>?_
 refine aO (kn:=8) (x:=s.call.mC) (l:=NO++s.call.early.flatMap gM.enc++be 8 s.call.eO++be 8 s.call.bV++be 8 s.call.since++be 8 s.call.heard) (.inr (.inr ⟨rfl,rfl⟩)) rfl cj.rfl rfl rfl (by first | omega | (simp only [aum,au];omega)) fun RK=>?_
 intro _;refine aO (kn:=4) (x:=s.call.hZ) (l:=NO++s.call.early.flatMap gM.enc++be 8 s.call.eO++be 8 s.call.bV++be 8 s.call.since++be 8 s.call.heard++be 8 s.call.mC) (.inr (.inl ⟨rfl,rfl⟩)) (iV h31) cj.rfl rfl rfl (by first | omega | (simp only [aum,au];omega)) fun Ub=>?_
 obtain⟨L14,Z8⟩: ∃L,L=NO++s.call.early.flatMap gM.enc++be 8 s.call.eO++be 8 s.call.bV++be 8 s.call.since++be 8 s.call.heard++be 8 s.call.mC++be 4 s.call.hZ:=⟨_,rfl⟩;have n14:L14.length=l.length+302+s.call.marks.length+(s.call.early.flatMap gM.enc).length+(s.table.keys.once.flatMap dN.enc).length+(s.table.aL.flatMap bM.enc).length+(s.call.dead.flatMap (raw 16).enc).length:=by rw [Z8];simp only [aum,au];omega
 rw [←Z8];refine⟨by omega,fun _=>?_⟩;refine aO (kn:=4) (x:=s.log.length) (l:=L14) (.inr (.inl ⟨rfl,rfl⟩)) (iV h32) cj.rfl rfl rfl (by first | omega | (simp only [aum,au,aun];omega)) fun X0=>?_
 obtain⟨L15,Z9⟩: ∃L,L=L14++be 4 s.log.length:=⟨_,rfl⟩;have n15:L15.length=l.length+306+s.call.marks.length+(s.call.early.flatMap gM.enc).length+(s.table.keys.once.flatMap dN.enc).length+(s.table.aL.flatMap bM.enc).length+(s.call.dead.flatMap (raw 16).enc).length:=by rw [Z9];simp only [aum,au];omega
 rw [←Z9];refine⟨by omega,fun _=>⟨by first | omega | (simp only [aum,au,aun];omega),fun _ _=>⟨by omega,fun _=>?_⟩⟩⟩;refine aO (kn:=4) (x:=s.aH.length) (l:=L15++s.log) (.inr (.inl ⟨rfl,rfl⟩)) (iV h33) (cj.rfl.jI (by omega) (by omega) fun _ _=>rfl) (by first | omega | (simp only [aum];omega)) rfl (by first | omega | (simp only [aum];omega)) fun v46=>?_
 obtain⟨X3,Z_⟩: ∃L,L=L15++s.log++be 4 s.aH.length:=⟨_,rfl⟩;have n16:X3.length=l.length+310+s.log.length+s.call.marks.length+(s.call.early.flatMap gM.enc).length+(s.table.keys.once.flatMap dN.enc).length+(s.table.aL.flatMap bM.enc).length+(s.call.dead.flatMap (raw 16).enc).length:=by rw [Z_];simp only [aum,au];omega
 rw [←Z_];refine qN s.aH dW.enc X3 rfl cj.rfl rfl ?_ ?_
 ·intro I m i hi w A q hA Wb hle;have hm:=List.getElem_mem hi;have d1:=h34 _ hm;have d2:=h35 _ hm;have Jf:=hle;simp only [G0,aum,au,aun,d1]at Jf;refine⟨by omega,fun _ _=>⟨by omega,fun _=>⟨by first | omega | (simp only [aum];omega),fun _ Ph _=>?_⟩⟩⟩;refine aO (kn:=1) (x:=s.aH[i].aP) (l:=X3++(s.aH.take i).flatMap dW.enc++s.aH[i].id) (.inl ⟨rfl,rfl⟩) (by rw [auD,jG _ _ _ hi];exact iV (by omega)) (hA.jI (by omega) (by omega) fun j hj=>?_) (by first | omega | (simp only [aum];omega)) rfl (by first | omega | (simp only [aum];omega)) fun Jc=>?_
  ·show aI _ (_+j)=_;rw [show(((i:Int)*16).toNat+j)=i*16+j by omega];exact lT Room.id 16 _ h34 i j hi hj
  intro b23;rw [show er Room.out s.aH (ag (i:Int))=bi s.aH[i].out by rw [auD];exact mF _ _ _ hi];refine Q1 (l:=X3++(s.aH.take i).flatMap dW.enc++s.aH[i].id++be 1 s.aH[i].aP) cj.rfl rfl rfl (by first | omega | (simp only [aum,au];omega)) fun Jd=>?_
  intro _;refine aO (kn:=8) (x:=s.aH[i].since) (l:=X3++(s.aH.take i).flatMap dW.enc++s.aH[i].id++be 1 s.aH[i].aP++[if s.aH[i].out then 1 else 0]) (.inr (.inr ⟨rfl,rfl⟩)) (by rw [auD,jG _ _ _ hi]) cj.rfl rfl rfl (by first | omega | (simp only [aum,au,aun];omega)) fun Je=>?_
  have hk:X3++(s.aH.take i).flatMap dW.enc++s.aH[i].id++be 1 s.aH[i].aP++[if s.aH[i].out then 1 else 0]++be 8 s.aH[i].since=X3++(s.aH.take i).flatMap dW.enc++dW.enc s.aH[i]:=by rw [G0];simp only [List.append_assoc]
  rw [hk];exact⟨by omega,fun _=>⟨by omega,fun _=>⟨Je,_,_,_,false,rfl,rfl,rfl,rfl,fun _ _=>rfl,Wb Je _ false _ _ rfl rfl cj.rfl⟩⟩⟩
 intro Cu GU q47 aee;have Q7:X3++s.aH.flatMap dW.enc=l++aZ.enc s:=by
  rw [Z_,Z9,Z8,Z7,Z6,Z5,Z4,hL9,hL8,hL7,hL6,hL5,Q6,Zb,Za,pG];simp only [List.append_assoc]
 rw [Q7]at aee ⊢;rw [auD,aee.xi];exact⟨rfl,Cu,rfl⟩
end Go.RX.Vb
