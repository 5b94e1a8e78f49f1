/- The store's walker. -/
import Derived.Test.YtllcdnkfbeokhaaGreatM30
open Go.IntKind renaming wrap → ae
open Go.Proofs.Tryz renaming prog → aqQ
open Int renaming toNat → ag, toNat_natCast → aqD
open List renaming getD_cons_zero → ah, getD_eq_getElem?_getD → aqN, length_append → aql, length_singleton → aqm, mem_range → aqE
namespace Go.RX.Vb
open Go Go.RX Go.Proofs Go.Vs
def iG(H h:HP):Prop:=h.wr=false∧∀w S,H.p w S→∃S':Nat→Prop,(∀k,S' k→S k)∧h.p w S'
theorem iG.ent{H h:HP}(hw:H.wr=false)(hg:iG H h):bJ [H] [h,H]:=
 bJ.trans (bJ.dup hw []) (bJ.put 0 H h rfl (fun hh=>by rw [hg.1]at hh;cases hh) hg.2)
def jm{α:Type}(f:α→Bool)(s:List α):Nat→Int:=fun j=>bi ((s.map f).getD j false)
theorem mU{α:Type}(f:α→Bool)(s:List α)(i:Nat)(h:i<s.length):jm f s i=bi (f s[i]):=by
 simp [jm,aqN,h]
abbrev dV{α:Type}(f:α→List Nat)(s:List α):Nat→Int:=aL (s.flatMap f)
theorem qJ{α:Type}(f:α→List Nat)(n:Nat)(s:List α)(hs: ∀x∈s,(f x).length=n)(i:Nat)(h:i<s.length):aj .u8 n (bS (dV f s) (ag ((i:Int)*(n:Int))))=aj .u8 n (aL (f s[i])):=by
 unfold aj;refine List.map_congr_left fun j hj=>?_
 have hj:=aqE.1 hj;show Value.int _ (aL _ (_+j))=_;rw [show ag ((i:Int)*(n:Int))=i*n by rw [←Int.natCast_mul,aqD],l_ f n s hs i j h hj]
abbrev jF(md:Bool)(v:Value)(s:List b_)(C:Nat→Int):HP:=aB md 77 268 v s.length (aK s.length [aC .u8 32 (dV (·.s.root) s),aC .u8 32 (dV (·.s.bind) s),aC .u8 32 (dV (·.s.own) s),aC .u8 32 (dV (·.s.fW) s),ij 1 (jm (·.s.mR) s),ij 1 (jm (·.s.mS) s),ij 1 (jm (·.s.mT) s),ij 1 (jm (·.s.gQ) s),aC .u8 32 (dV (·.s.send.key) s),aC .u32 1 (cu (·.s.send.n) s),aC .u8 32 (dV (·.s.recv.key) s),aC .u32 1 (cu (·.s.recv.n) s),aC .u32 1 (cu (·.s.prev) s),fN 1 (fun j=>cX (C j)),aC .u8 32 (dV (·.ident) s),aC .u8 32 (dV (·.zl) s),ij 1 (jm (·.fG) s),aC .u32 1 (cu (·.gS) s),ij 1 (jm (·.own) s),ij 1 (jm (·.current) s)])
def ux(H:HP)(s:List b_)(C:Nat→Int):Prop:= ∀(i:Nat) (h:i<s.length),iG H (uv false (cX (C i)) s[i].s.aV)
theorem KE{b b5:Nat}{v5:V1}{l:List Nat}{e:b_}{n c:Int}{A:Nat→Int}{H:HP}{row:List Value}{R:V1→Int→(Nat→Int)→Bool→Prop}(rL:row=kR e (cX c))(hH:H.wr=false)(hb:iG H (uv false (cX c) e.s.aV))(he:uw e)
  (hA:cd A l) (hn:n=(l.length:Int)) (hl:l.length+(bR.enc e).length≤140737488355328) (h: ∀v':V1,R v' (((l++bR.enc e).length:Nat):Int) (aL (l++bR.enc e)) false):
  ∃post,aq aqQ 105 [.pointer (some ⟨b,0,none⟩),.pointer (some ⟨b5,0,none⟩)] [ak b true ([.bool true,v5.v,.bool false]),aB true 5 1 v5.v (ag n) (aK (ag n) [aC .u8 1 A]),ak b5 true row,H] post∧
   ∀y hs,post y hs→∃w1:V1,∃y1:Int,∃A':(Nat→Int),∃q:Bool,y= .tuple #[]∧hs=[ak b true ([.bool true,w1.v,.bool false]),aB true 5 1 w1.v (ag y1) (aK (ag y1) [aC .u8 1 A']),ak b5 true row,H]∧R w1 y1 A' q:=by
 subst rL hn;rw [aqD,hA.xE];have hm:=GU b b5 v5 ⟨cX c,mA c⟩ l e he hl;refine⟨fun r hs=>r= .tuple #[]∧∃v':V1,hs=[cZ b true v'.v false,aT true v'.v (l++bR.enc e),ak b5 true (kR e (cX c)),H],?_,?_⟩
 ·refine(aq.pre (aq.frame hm [H]) (bJ.front (A:=[cZ b true v5.v false,aT true v5.v l,ak b5 true (kR e (cX c))]) (iG.ent hH hb))).post ?_;rintro r hs ⟨kT,rfl,rfl,v',rfl⟩;exact⟨_,bJ.sub (((((List.Sublist.refl _).cons _).cons_cons _).cons_cons _).cons_cons _),rfl,v',rfl⟩
 ·rintro y hs ⟨rfl,v',rfl⟩;exact⟨v',_,_,false,rfl,rfl,h v'⟩
structure mV (p:fp):Prop where
 a:p.dev.a<256
 d:p.dev.d<256
 many:p.l.length<256^4
 Cz: ∀e∈p.l,uw e
theorem Sq{n:Nat}(h:n<256):ae .u8 (n:Int)=(n:Int):=by
 rw [w8,Nat.mod_eq_of_lt h]
theorem EK(p:fp):bO.enc p=(be 1 p.dev.a++be 1 p.dev.d)++(be 4 p.l.length++p.l.flatMap bR.enc):=rfl
abbrev qK(p:fp)(v:Value):List Value:=[.int .u8 (p.dev.a:Int),.int .u8 (p.dev.d:Int),v]
set_option maxHeartbeats 2000000 in
theorem KF(b b1 b2:Nat)(v vs:V1)(l:List Nat)(p:fp)(C:Nat→Int)(H:HP)(hH:H.wr=false)(hS:ux H p.l C)(hp:mV p)(hl:l.length+(bO.enc p).length≤140737488355328):
  aq aqQ 102 [wP b1,wP b2] [cZ b true v.v false,aT true v.v l,ak b1 true (qK p vs.v),ak b2 true [wP b],jF false vs.v p.l C,H]
   fun r hs=>r= .tuple #[]∧∃v':V1,hs=[cZ b true v'.v false,aT true v'.v (l++bO.enc p),ak b1 true (qK p vs.v),ak b2 true [wP b],jF false vs.v p.l C,H]:=by
 have h1:=hp.a;have h2:=hp.d;have h3:=hp.many;have hL:(bO.enc p).length=6+(p.l.flatMap bR.enc).length:=by
  rw [EK];simp only [aql,au];omega
 rw [hL]at hl;refine Wf _ (l.length:Int) (p.dev.a:Int) (p.dev.d:Int) (p.l.length:Int) (aL l) (dV (·.s.root) p.l) (dV (·.s.bind) p.l) (dV (·.s.own) p.l) (dV (·.s.fW) p.l) (jm (·.s.mR) p.l) (jm (·.s.mS) p.l) (jm (·.s.mT) p.l) (jm (·.s.gQ) p.l) (dV (·.s.send.key) p.l) (cu (·.s.send.n) p.l) (dV (·.s.recv.key) p.l) (cu (·.s.recv.n) p.l) (cu (·.s.prev) p.l) C (dV (·.ident) p.l) (dV (·.zl) p.l) (jm (·.fG) p.l) (cu (·.gS) p.l) (jm (·.own) p.l) (jm (·.current) p.l) v vs b b1 b2 H ?_;unfold N3;dsimp only [bp,RC,Va,n_,cV];intro _ _;refine aJ (kn:=1) (x:=p.dev.a) (l:=l) (.inl ⟨rfl,rfl⟩) (iz (by omega)) cd.rfl rfl rfl (by omega) fun v2=>?_
 refine aJ (kn:=1) (x:=p.dev.d) (l:=l++be 1 p.dev.a) (.inl ⟨rfl,rfl⟩) (iz (by omega)) cd.rfl rfl rfl (by simp only [aql,au];omega) fun v3=>?_
 refine⟨by omega,fun _=>?_⟩;refine aJ (kn:=4) (x:=p.l.length) (l:=l++be 1 p.dev.a++be 1 p.dev.d) (.inr (.inl ⟨rfl,rfl⟩)) (iz h3) cd.rfl rfl rfl (by simp only [aql,au];omega) fun v4=>?_
 obtain⟨L3,OB⟩: ∃L,L=l++be 1 p.dev.a++be 1 p.dev.d++be 4 p.l.length:=⟨_,rfl⟩;have n3:L3.length=l.length+6:=by rw [OB];(simp only [aql,au])<;>omega
 rw [←OB];refine⟨fun x=> ∃(i:Nat) (w:V1) (A:Nat→Int) (q:Bool),x=⟨[],[w],[(i:Int),((L3++(p.l.take i).flatMap bR.enc).length:Int)],[A],[q],[],[]⟩∧i≤p.l.length∧cd A (L3++(p.l.take i).flatMap bR.enc),fun x=>p.l.length - (x.i.getD 0 0).toNat,?_,?_⟩
 ·exact⟨v4,0,(L3.length:Int),aL L3,false,rfl,rfl,rfl,rfl,fun _ _=>rfl,0,v4,aL L3,false,by simp,by omega,by simpa using cd.rfl⟩
 rintro qH fU gC fl q5 ⟨i,w,A,q,hx,hi,hA⟩;simp only [Ext.mk.injEq,List.cons.injEq,and_true,true_and]at hx;obtain⟨rfl,⟨rfl,rfl⟩,rfl,rfl⟩:=hx;have ln:(((p.l.take i).flatMap bR.enc).length)+((p.l.drop i).flatMap bR.enc).length=(p.l.flatMap bR.enc).length:=by
  rw [←aql,←List.flatMap_append,List.take_append_drop]
 refine⟨fun cq=>?_,fun lN=>?_⟩
 ·have dy:i<p.l.length:=by omega
  have EJ:p.l.drop i=p.l[i]::p.l.drop (i+1):=(List.getElem_cons_drop dy).symm;have tC:p.l.take (i+1)=p.l.take i++[p.l[i]]:=by rw [List.take_add_one,List.getElem?_eq_getElem dy];rfl
  rw [EJ,List.flatMap_cons,aql]at ln;refine⟨by omega,fun _ b5=>?_⟩;refine KE (e:=p.l[i]) (c:=C i) (l:=L3++(p.l.take i).flatMap bR.enc) ?_ hH (hS i dy) (hp.Cz _ (List.getElem_mem dy)) hA rfl (by simp only [aql];omega) fun v6=>?_
  ·have e32: ∀n:Nat,(i:Int)*32=(i:Int)*((32:Nat):Int):=fun _=>rfl
   rw [e32 0,qJ (·.s.root) 32 p.l (fun x hx=>by have h:=hp.Cz x hx;exact h.root) i dy,qJ (·.s.bind) 32 p.l (fun x hx=>by have h:=hp.Cz x hx;exact h.bind) i dy,qJ (·.s.own) 32 p.l (fun x hx=>by have h:=hp.Cz x hx;exact h.own) i dy,qJ (·.s.fW) 32 p.l (fun x hx=>by have h:=hp.Cz x hx;exact h.fW) i dy,qJ (·.s.send.key) 32 p.l (fun x hx=>by have h:=hp.Cz x hx;exact h.sk) i dy,qJ (·.s.recv.key) 32 p.l (fun x hx=>by have h:=hp.Cz x hx;exact h.rk) i dy,qJ (·.ident) 32 p.l (fun x hx=>by have h:=hp.Cz x hx;exact h.ident) i dy,qJ (·.zl) 32 p.l (fun x hx=>by have h:=hp.Cz x hx;exact h.zl) i dy];simp only [aqD];rw [mU (·.s.mR) p.l i dy,mU (·.s.mS) p.l i dy,mU (·.s.mT) p.l i dy,mU (·.s.gQ) p.l i dy,mU (·.fG) p.l i dy,mU (·.own) p.l i dy,mU (·.current) p.l i dy,jE (·.s.send.n) p.l i dy,jE (·.s.recv.n) p.l i dy,jE (·.s.prev) p.l i dy,jE (·.gS) p.l i dy]
  have rT:L3++(p.l.take (i+1)).flatMap bR.enc=L3++(p.l.take i).flatMap bR.enc++bR.enc p.l[i]:=by
   rw [tC,List.flatMap_append,List.flatMap_cons,List.flatMap_nil,List.append_nil,List.append_assoc]
  refine⟨by omega,fun _=>⟨by omega,fun _=>?_⟩⟩;refine⟨v6,_,_,_,false,rfl,rfl,rfl,rfl,fun _ _=>rfl,⟨i+1,v6,aL (L3++(p.l.take i).flatMap bR.enc++bR.enc p.l[i]),false,?_,by omega,?_⟩,?_⟩
  ·rw [rT];simp only [Ext.mk.injEq,List.cons.injEq,and_true,true_and];omega
  ·rw [rT];exact cd.rfl
  ·simp only [ah];omega
 ·have dy:i=p.l.length:=by omega
  subst dy;rw [List.take_length]at hA ⊢;have OC:L3++p.l.flatMap bR.enc=l++bO.enc p:=by
   rw [OB,EK];simp only [List.append_assoc]
  rw [OC]at hA ⊢;rw [Sq h1,Sq h2,aqD,hA.xE];exact⟨rfl,qH,rfl⟩
open Go Go.RX Go.Proofs Go.Vs
theorem pO{α:Type}(s:List α)(enc:α→List Nat)(L:List Nat){v0:V1}{n0 xn:Int}{A0:Nat→Int}{B:(Ext→Prop)→(Ext→Nat)→V1→Int→Int→(Nat→Int)→Bool→Prop}{R:V1→Int→Int→(Nat→Int)→Bool→Prop}
  (hn:xn=(s.length:Int)) (uy:cd A0 L) (Bx:n0=(L.length:Int))
  (hb: ∀(I:Ext→Prop) (m:Ext→Nat) (i:Nat) (hi:i<s.length) (v:V1) (A:Nat→Int) (q:Bool),cd A (L++(s.take i).flatMap enc)→
   (∀(v':V1) (A':Nat→Int) (q':Bool) (x' n':Int),x'=(i:Int)+1→n'=((L++(s.take i).flatMap enc++enc s[i]).length:Int)→cd A' (L++(s.take i).flatMap enc++enc s[i])→
    I ⟨[],[v'],[x',n'],[A'],[q'],[],[]⟩∧m ⟨[],[v'],[x',n'],[A'],[q'],[],[]⟩<m ⟨[],[v],[(i:Int),((L++(s.take i).flatMap enc).length:Int)],[A],[q],[],[]⟩)→
   (L++(s.take i).flatMap enc).length+(enc s[i]).length≤(L++s.flatMap enc).length→
   B I m v (i:Int) ((L++(s.take i).flatMap enc).length:Int) A q)
  (hr: ∀(v:V1) (A:Nat→Int) (q:Bool),cd A (L++s.flatMap enc)→R v (s.length:Int) ((L++s.flatMap enc).length:Int) A q):
  ∃(I:Ext→Prop) (m:Ext→Nat),(∃v:V1,∃x:Int,∃n:Int,∃A:(Nat→Int),∃q:Bool,x=0∧v=v0∧v=v0∧n=n0∧(∀j,j<(ag n)→A j=A0 j)∧I ⟨[],[v],[x,n],[A],[q],[],[]⟩)∧
   ∀v:V1,∀x:Int,∀n:Int,∀A:(Nat→Int),∀q:Bool,I ⟨[],[v],[x,n],[A],[q],[],[]⟩→br (x<xn) (B I m v x n A q) (R v x n A q):=by
 refine⟨fun x=> ∃(i:Nat) (w:V1) (A:Nat→Int) (q:Bool),x=⟨[],[w],[(i:Int),((L++(s.take i).flatMap enc).length:Int)],[A],[q],[],[]⟩∧i≤s.length∧cd A (L++(s.take i).flatMap enc),fun x=>s.length - (x.i.getD 0 0).toNat,?_,?_⟩
 ·exact⟨v0,0,n0,A0,false,rfl,rfl,rfl,rfl,fun _ _=>rfl,0,v0,A0,false,by simp [Bx],by omega,by simpa using uy⟩
 rintro v x n A q ⟨i,w,A',q',hx,hi,hA⟩;simp only [Ext.mk.injEq,List.cons.injEq,and_true,true_and]at hx;obtain⟨rfl,⟨rfl,rfl⟩,rfl,rfl⟩:=hx;refine⟨fun cq=>?_,fun lN=>?_⟩
 ·have dy:i<s.length:=by omega
  have tC:s.take (i+1)=s.take i++[s[i]]:=by rw [List.take_add_one,List.getElem?_eq_getElem dy];rfl
  have rT:L++(s.take (i+1)).flatMap enc=L++(s.take i).flatMap enc++enc s[i]:=by
   rw [tC,List.flatMap_append,List.flatMap_cons,List.flatMap_nil,List.append_nil,List.append_assoc]
  refine hb _ _ i dy v A q hA ?_ ?_
  ·intro v' A' q' x' n' Sr Rd hA';refine⟨⟨i+1,v',A',q',?_,by omega,by rw [rT];exact hA'⟩,?_⟩
   ·rw [rT,Sr,Rd];simp only [Ext.mk.injEq,List.cons.injEq,and_true,true_and];omega
   ·simp only [ah];omega
  ·have EJ:s.drop i=s[i]::s.drop (i+1):=(List.getElem_cons_drop dy).symm;have ln:((s.take i).flatMap enc).length+((s.drop i).flatMap enc).length=(s.flatMap enc).length:=by
    rw [←aql,←List.flatMap_append,List.take_append_drop]
   rw [EJ,List.flatMap_cons,aql]at ln;rw [aql,aql];omega
 ·have dy:i=s.length:=by omega
  subst dy;rw [List.take_length]at hA ⊢;exact hr v A q hA
end Go.RX.Vb
