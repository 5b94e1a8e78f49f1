/- Executor. -/
import Derived.Test.YtllcdnkfbeokhaaGreatRxD
open Bool renaming and_eq_true → ai
open Int renaming toNat_natCast → auD
open List renaming all_eq_true → auo, getElem?_append_left → auu, getElem?_append_right → auv, getElem?_eq_getElem → auU, getElem?_eq_none → au0, length_append → aum, mem_append → auE, mem_map → auL, mem_range → auG, mem_singleton → auz
open Option renaming getD_some → au8, map_eq_some_iff → aus
open Option.some renaming injEq → auq
namespace Go.RX
def aq(P:Program)(f:Nat)(args:List Value)(pre:List HP)(post:Value→List HP→Prop):Prop:=
 ∀(w:World) (Fs:List HP),bz (pre++Fs) w→
  Calls P f args.toArray w fun e w'=> ∃v hs,e= .returned v∧post v hs∧bz (hs++Fs) w'∧iP w w'
def YC(P:Program)(f:Nat)(args:List Value)(pre:List HP)(post:Value→List HP→Prop):Prop:=
 ∀(w:World) (Fs:List HP),bz (pre++Fs) w→
  ∃v hs w',(callFunc f args.toArray).run P w= .ok (.value v) w'∧post v hs∧bz (hs++Fs) w'∧iP w w'
structure Ext where
 b:List Nat
 v:List V1
 i:List Int
 a:List (Nat→Int)
 bo:List Bool
 p:List HP
 r:List Loop
def zR{α:Type}:Nat→(List α→Prop)→Prop
 | 0,f=>f []
 | n+1,f=> ∀x,zR n fun xs=>f (x::xs)
def PN{α:Type}:Nat→(List α→Prop)→Prop
 | 0,f=>f []
 | n+1,f=> ∃x,PN n fun xs=>f (x::xs)
def zS(c:cG)(f:Ext→Prop):Prop:=
 zR c.b fun b=>zR c.v fun v=>zR c.i fun i=>zR c.a fun a=>zR c.bo fun bo=>zR c.p fun p=>zR c.r fun r=>f ⟨b,v,i,a,bo,p,r⟩
def xR(c:cG)(f:Ext→Prop):Prop:=
 PN c.b fun b=>PN c.v fun v=>PN c.i fun i=>PN c.a fun a=>PN c.bo fun bo=>PN c.p fun p=>PN c.r fun r=>f ⟨b,v,i,a,bo,p,r⟩
def Env.ext(ρ:Env)(x:Ext):Env:=
 {ρ with bv:=ρ.bv++x.b,vv:=ρ.vv++x.v,iv:=ρ.iv++x.i,av:=ρ.av++x.a,bo:=ρ.bo++x.bo,pv:=ρ.pv++x.p,lr:=ρ.lr++x.r}
def Env.take(ρ:Env)(c:cG):Env:=
 {ρ with bv:=ρ.bv.take c.b,vv:=ρ.vv.take c.v,iv:=ρ.iv.take c.i,av:=ρ.av.take c.a,bo:=ρ.bo.take c.bo,pv:=ρ.pv.take c.p,lr:=ρ.lr.take c.r}
def Env.nV(ρ:Env)(b:Nat):Env:={ρ with bv:=ρ.bv++[b]}
def Env.iQ(ρ:Env)(v:V1):Env:={ρ with vv:=ρ.vv++[v]}
def g_.holds(ρ bJ:Env):g_→Prop
 | .e x y=>x.den ρ 0=y.den bJ 0
 | .a n x y=> ∀j,j<(n.den ρ 0).toNat→x.den ρ j=y.den bJ j
 | .b x y=>x.den ρ=y.den bJ
 | .af x y=>x.den ρ=y.den bJ
 | .v i j=>ρ.vv.getD i V1.nil=bJ.vv.getD j V1.nil
 | .p i j=>ρ.pv.getD i HP.emp=bJ.pv.getD j HP.emp
 | .bl i j=>ρ.bv.getD i 0=bJ.bv.getD j 0
 | .rc i j=>ρ.lr.getD i jA=bJ.lr.getD j jA
def XB(ρ bJ:Env):List g_→Prop→Prop
 | [],q=>q
 | x::r,q=>x.holds ρ bJ∧XB ρ bJ r q
structure LC where
 I:Ext→Prop
 μ:Ext→Nat
 cur:Ext
def LC.none:LC:=⟨fun _=>False,fun _=>0,⟨[],[],[],[],[],[],[]⟩⟩
def wM(L:Nat→LC)(i:Nat)(l:LC):Nat→LC:=fun j=>if j=i then l else L j
def ax(b r:Prop):Prop:=b∧(b→r)
def bt(c t e:Prop):Prop:=(c→t)∧(¬c→e)
def VC(P:Program)(al:Value→List HP→Prop):F→Env→(Nat→LC)→Prop
 | .fail _ _,_,_=>False
 | .vc b r,ρ,L=>ax (b.prop ρ) (VC P al r ρ L)
 | .fork c t e,ρ,L=>bt (c.prop ρ) (VC P al t ρ L) (VC P al e ρ L)
 | .ret v hp,ρ,_=>al (v.val ρ) (hp.map (Ck.den ρ))
 | .DB r,ρ,L=> ∀b,VC P al r (ρ.nV b) L
 | .wN r,ρ,L=> ∀v,VC P al r (ρ.iQ v) L
 | .pX true r,ρ,L=> ∀d l c,VC P al r (ρ.ext ⟨[d,l],[],[],[],[],[],[c]⟩) L
 | .pX false r,ρ,L=> ∀l c,VC P al r (ρ.ext ⟨[l],[],[],[],[],[],[c]⟩) L
 | .Iy r,ρ,L=>VC P al r (ρ.iQ ⟨.slice none 0 0,rfl⟩) L
 | .call f args use inc v new r,ρ,L=>
  ∃post,aq P f (SV.bH ρ args) (use.map (Ck.den ρ)) post∧
   ∀x hs,post x hs→xR inc fun e=>x=v.val (ρ.ext e)∧hs=new.map (Ck.den (ρ.ext e))∧VC P al r (ρ.ext e) L
 | .ext f args use inc v new r,ρ,L=>
  ∃post,YC P f (SV.bH ρ args) (use.map (Ck.den ρ)) post∧
   ∀x hs,post x hs→xR inc fun e=>x=v.val (ρ.ext e)∧hs=new.map (Ck.den (ρ.ext e))∧VC P al r (ρ.ext e) L
 | .loop up inc eqs body,ρ,L=>
  ∃(I:Ext→Prop) (μ:Ext→Nat),(xR inc fun e=>XB (ρ.ext e) ρ eqs (I e))∧
   zS inc fun e=>I e→VC P al body (ρ.ext e) (wM L up ⟨I,μ,e⟩)
 | .back up c0 inc eqs,ρ,L=>
  xR inc fun e=>XB ((ρ.take c0).ext e) ρ eqs ((L up).I e∧(L up).μ e<(L up).μ (L up).cur)
 | .join up inc body r,ρ,L=>
  ∃I:Ext→Prop,VC P al body ρ (wM L up ⟨I,fun _=>0,⟨[],[],[],[],[],[],[]⟩⟩)∧zS inc fun e=>I e→VC P al r (ρ.ext e) L
 | .meet up c0 inc eqs,ρ,L=>
  xR inc fun e=>XB ((ρ.take c0).ext e) ρ eqs ((L up).I e)
 | .both a b,ρ,L=>VC P al a ρ L∧VC P al b ρ L
 | .ghost use inc eqs new r,ρ,L=>
  ∃I:Ext→Prop,(∀w Fs,bz (use.map (Ck.den ρ)++Fs) w→xR inc fun e=>XB (ρ.ext e) ρ eqs (bz (new.map (Ck.den (ρ.ext e))++Fs) w∧I e))∧
   zS inc fun e=>I e→VC P al r (ρ.ext e) L
def aw(f:Nat→Int)(i:Nat)(v:Int):Nat→Int:=fun j=>if j=i then v else f j
def PO(l:List Int):Nat→Int:=fun j=>l.getD j 0
def bY(f:Nat→Int)(o:Nat):Nat→Int:=fun j=>f (o+j)
def bX(f:Nat→Int)(o n:Nat)(g:Nat→Int):Nat→Int:=fun j=>if o≤j∧j<o+n then g (j - o)else f j
section
variable (ρ:Env)
theorem bG(a b:E):(dP a b).den ρ 0=a.den ρ 0+b.den ρ 0:=by
 unfold dP;split<;>simp_all [E.den,ar]
theorem fE(a b:E):(tU a b).den ρ 0=a.den ρ 0 - b.den ρ 0:=by
 unfold tU;split<;>simp_all [E.den,ar]
theorem iA(a b:E):(rB a b).den ρ 0=a.den ρ 0*b.den ρ 0:=by
 unfold rB;split<;>simp_all [E.den,ar]
theorem eT(a o:E)(j:Nat):(lA a o).den ρ j=a.den ρ ((o.den ρ 0).toNat+j):=by
 unfold lA;split<;>simp_all [E.den]
theorem zT(v:E)(j:Nat):(DC v).den ρ j=v.den ρ 0:=by
 unfold DC;split
 ·rename_i h;cases v<;>first | rfl | (simp [E.acw]at h;done)
 ·simp [E.den]
theorem cX(a i:E)(j:Nat):(eJ a i).den ρ j=a.den ρ (i.den ρ 0).toNat:=by
 induction a generalizing i j with
 | lit n=>unfold eJ;rfl
 | nm b i' v rz _ ihv=>
  unfold eJ;split
  ·rename_i h;cases h
  ·rename_i h;cases h
  ·rename_i jj ii h;cases h;split
   ·rename_i he;simp only [E.den,he,if_true];exact zT ρ v j
   ·rename_i he;rw [rz];exact(if_neg he).symm
  ·rename_i h;cases h
  ·rename_i h;cases h
  ·rename_i heq _;cases heq;split
   ·rename_i he;subst he;simp only [E.den,if_true];exact zT ρ _ j
   ·rfl
  ·rfl
 | shift b o rz _=>
  unfold eJ;split
  ·rename_i h;cases h
  ·rename_i h;cases h
  ·rename_i h;cases h
  ·rename_i h;cases h;rw [rz];simp only [E.den,auD]
  ·rename_i h;cases h
  ·rename_i heq _;cases heq
  ·rfl
 | jI b o n x rz _ _ ihx=>
  unfold eJ;split
  ·rename_i h;cases h
  ·rename_i h;cases h
  ·rename_i h;cases h
  ·rename_i h;cases h
  ·rename_i h;cases h;split
   ·rename_i hc;rw [ihx];simp only [E.den,auD];exact(if_pos hc).symm
   ·rename_i hc;rw [rz];exact(if_neg hc).symm
  ·rename_i heq _;cases heq
  ·rfl
 | var n=>unfold eJ;rfl
 | cU n=>unfold eJ;rfl
 | TN a b _ _=>unfold eJ;rfl
 | bin o k a b _ _=>unfold eJ;rfl
 | wrap k a _=>unfold eJ;rfl
 | kc n a _=>unfold eJ;rfl
 | tS b=>unfold eJ;rfl
 | Un a i _ _=>unfold eJ;rfl
 | ry a i s _ _ _=>unfold eJ;rfl
 | Xu s _=>unfold eJ;rfl
 | qV l=>
  unfold eJ;split
  ·rename_i h;cases h
  ·rename_i h;cases h;rfl
  ·rename_i h;cases h
  ·rename_i h;cases h
  ·rename_i h;cases h
  ·rename_i h _;cases h
  ·rfl
theorem dj(n:Int)(j:Nat):(E.lit n).den ρ j=n:=rfl
theorem u_(a i v:E)(j:Nat):(E.nm a i v).den ρ j=if j=(i.den ρ 0).toNat then v.den ρ 0 else a.den ρ j:=rfl
theorem Kw(a o n b:E)(j:Nat):(E.jI a o n b).den ρ j=if(o.den ρ 0).toNat≤j∧j<(o.den ρ 0).toNat+(n.den ρ 0).toNat then b.den ρ (j - (o.den ρ 0).toNat)else a.den ρ j:=rfl
theorem kJ(a i s:E):(E.ry a i s).den ρ=FI (a.den ρ) (i.den ρ 0).toNat (s.den ρ):=rfl
theorem Kx(a i:E):(E.Un a i).den ρ=qW (a.den ρ) (i.den ρ 0).toNat:=rfl
theorem Mn(a i:E)(k:Nat):(DE a i).den ρ k=qW (a.den ρ) (i.den ρ 0).toNat k:=by
 induction a generalizing k with
 | ry a jj s mr ihj ihs=>
  rw [kJ,kF];unfold DE;split
  ·rename_i heq;cases heq
  ·rename_i heq;cases heq;split
   ·rename_i he;rw [dj,dj,if_pos he]
   ·rename_i he;rw [mr,dj,dj,if_neg he]
  ·rename_i heq _;cases heq;split
   ·rename_i he;subst he;rw [if_pos rfl]
   ·rw [Kx,kJ,kF]
  ·rw [Kx,kJ,kF]
 | lit n=>unfold DE;rfl
 | _=>unfold DE;rfl
theorem zU(a i:E):(DE a i).den ρ=qW (a.den ρ) (i.den ρ 0).toNat:=funext (Mn ρ a i)
theorem nq(l:List UInt8):(B9 l).den ρ=Mi l:=by
 funext j;cases j with
 | zero=>simp [B9,E.den,Mi]
 | succ j=>
  simp only [B9,E.den,Mi,List.getD_cons_succ];by_cases h:j<l.length
  ·simp [List.getD,auU h]
  ·simp [List.getD,au0 (Nat.le_of_not_lt h)]
theorem Iz(f:Nat→Int){j:Nat}(h:j<(f 0).toNat):(dC f)[j]? =some (UInt8.ofNat (f (j+1)).toNat):=by
 simp [dC,List.getElem?_range h]
theorem IA(l:List UInt8)(j:Nat):(E.qV (l.map fun b=>((b.toNat:Nat):Int))).den ρ j=((l.getD j 0).toNat:Nat):=by
 simp only [E.den];by_cases h:j<l.length
 ·simp [List.getD,auU h]
 ·simp [List.getD,au0 (Nat.le_of_not_lt h)]
theorem FL(s:E):(Mo s).den ρ=Mj (s.den ρ):=by
 unfold Mo;split
 ·rename_i n l;split
  ·rename_i h;funext j;simp only [E.den,Mj,List.getD_cons_succ];by_cases hj:j<l.length
   ·have:=auo.1 h l[j] (List.getElem_mem hj);simp only [ai,decide_eq_true_eq]at this;simp only [List.getD,auU hj,au8];have h2:(UInt8.ofNat l[j].toNat).toNat=l[j].toNat:=by
     rw [UInt8.toNat_ofNat'];omega
    rw [h2];omega
   ·simp [List.getD,au0 (Nat.le_of_not_lt hj)]
  ·rfl
 ·rfl
theorem CP(s:E):(∃l,mkStr s= .str l∧l=dC (s.den ρ))∨mkStr s= .mu s:=by
 unfold mkStr;split
 ·rename_i n l;split
  ·rename_i h;simp only [ai,beq_iff_eq]at h;obtain⟨rfl,h⟩:=h;left;refine⟨_,rfl,?_⟩;apply List.ext_getElem?;intro j;by_cases hj:j<l.length
   ·rw [Iz _ (by simpa [E.den] using hj),List.getElem?_map,auU hj];simp [E.den,List.getD,auU hj]
   ·rw [au0 (by simp;omega),au0 (by rw [dq];simp [E.den];omega)]
  ·exact .inr rfl
 ·exact .inr rfl
theorem FM(s:E):SV.cells ρ (mkStr s)=[.string ⟨(dC (s.den ρ)).toArray⟩]:=by
 rcases CP ρ s with⟨l,h,rfl⟩ | h<;>rw [h]<;>rfl
theorem ph(s:E):(mkStr s).val ρ= .string ⟨(dC (s.den ρ)).toArray⟩:=by
 rcases CP ρ s with⟨l,h,rfl⟩ | h<;>rw [h]<;>rfl
theorem iB(s:E):(lU s).den ρ 0=s.den ρ 0:=by rw [lU,cX];rfl
theorem Mp(s:E):((dC (s.den ρ)).length:Int)=max 0 ((lU s).den ρ 0):=by rw [dq,iB];omega
theorem tV{v:SV}{s:E}(h:rC v=some s):v.val ρ= .string ⟨(dC (s.den ρ)).toArray⟩:=by
 unfold rC at h;split at h
 ·cases h;rw [nq,pc];rfl
 ·cases h;rfl
 ·cases h
theorem lB(f:Nat→Int){j:Nat}(h:j<(f 0).toNat):(dC f)[j]? =some (UInt8.ofNat (f (j+1)).toNat):=by
 simp [dC,List.getElem?_range h]
theorem tW(a n:E):dC ((tX a n).den ρ)=(List.range (n.den ρ 0).toNat).map fun j=>UInt8.ofNat (a.den ρ j).toNat:=by
 unfold dC;have h0:(tX a n).den ρ 0=n.den ρ 0:=by simp [tX,E.den]
 rw [h0];refine List.map_congr_left fun j hj=>?_
 have hj:=auG.1 hj;have:(tX a n).den ρ (j+1)=a.den ρ j:=by
  rw [tX,u_,dj,if_neg (by simp),Kw,dj,if_pos (by simp;omega)];congr 1
 rw [this]
theorem Mq(s lo hi:E)(hl:0≤lo.den ρ 0)(hlh:lo.den ρ 0≤hi.den ρ 0)(hh:hi.den ρ 0≤s.den ρ 0):
  dC ((CQ s lo hi).den ρ)=((dC (s.den ρ)).take (hi.den ρ 0).toNat).drop (lo.den ρ 0).toNat:=by
 have h0:(CQ s lo hi).den ρ 0=hi.den ρ 0 - lo.den ρ 0:=by
  unfold CQ;split<;>simp [E.den,fE]
 have hj: ∀j,(CQ s lo hi).den ρ (j+1)=s.den ρ ((lo.den ρ 0).toNat+j+1):=by
  intro j;unfold CQ;split
  ·rw [u_,dj,if_neg (by simp),eT,u_,dj,if_neg (by simp)];congr 1
  ·rw [u_,dj,if_neg (by simp),eT];congr 1
 apply List.ext_getElem?;intro j;rw [List.getElem?_drop,List.getElem?_take];by_cases hc:j<(hi.den ρ 0 - lo.den ρ 0).toNat
 ·rw [lB _ (by rw [h0];exact hc),if_pos (by omega),lB _ (by omega),hj]
 ·rw [au0 (by rw [dq,h0];omega),if_neg (by omega)]
theorem PQ(s t:E)(hs:0≤s.den ρ 0)(ht:0≤t.den ρ 0):dC ((Mr s t).den ρ)=dC (s.den ρ)++dC (t.den ρ):=by
 have h0:(Mr s t).den ρ 0=s.den ρ 0+t.den ρ 0:=by simp [Mr,E.den,bG,iB]
 have hj: ∀j,(Mr s t).den ρ (j+1)=if(s.den ρ 0).toNat≤j∧j<(s.den ρ 0).toNat+(t.den ρ 0).toNat then t.den ρ (j - (s.den ρ 0).toNat+1)else s.den ρ (j+1):=by
  intro j;rw [Mr,u_,dj,if_neg (by simp),Kw];simp only [bG,iB,dj,eT];have e:(s.den ρ 0+1).toNat=(s.den ρ 0).toNat+1:=by omega
  rw [e];by_cases hc:(s.den ρ 0).toNat≤j∧j<(s.den ρ 0).toNat+(t.den ρ 0).toNat
  ·rw [if_pos (by omega),if_pos hc];congr 1;simp only [show(1:Int).toNat=1 from rfl];omega
  ·rw [if_neg (by omega),if_neg hc]
 apply List.ext_getElem?;intro j;by_cases hc:j<(s.den ρ 0+t.den ρ 0).toNat
 ·rw [lB _ (by rw [h0];exact hc),hj];by_cases hc2:j<(s.den ρ 0).toNat
  ·rw [if_neg (by omega),auu (by rw [dq];exact hc2),lB _ hc2]
  ·rw [if_pos (by omega),auv (by rw [dq];omega),dq,lB _ (by omega)]
 ·rw [au0 (by rw [dq,h0];omega),au0 (by rw [aum,dq,dq];omega)]
theorem FN(a b:E):(Ut a b).den ρ=(dC (a.den ρ)==dC (b.den ρ)):=by
 unfold Ut;by_cases h:a=b
 ·rw [if_pos h,h];simp [BE.den]
 ·rw [if_neg h];rfl
theorem lV(o:IOp)(k:IntKind)(a b:E):(tY o k a b).den ρ 0=ar o k (a.den ρ 0) (b.den ρ 0):=by
 unfold tY;split<;>rfl
theorem Ms(k:IntKind)(a:E):(PR k a).den ρ 0=k.wrap (a.den ρ 0):=by
 unfold PR;split<;>rfl
theorem zh(a:E):(Uu a).den ρ= !(a.den ρ 0==0):=by
 unfold Uu;split<;>rfl
theorem oc(a b:E):(TO a b).den ρ=(a.den ρ 0==b.den ρ 0):=by
 unfold TO;split
 ·rfl
 ·split<;>simp_all [BE.den]
theorem vd(a b:E):(IB a b).den ρ=decide (a.den ρ 0<b.den ρ 0):=by
 unfold IB;split<;>rfl
theorem iX(a b:E):(xS a b).den ρ=decide (a.den ρ 0≤b.den ρ 0):=by
 unfold xS;split<;>rfl
theorem dT(b:BE):(j5 b).den ρ= !b.den ρ:=by
 unfold j5;split<;>simp [BE.den]
theorem pj(a b:BE):(B_ a b).den ρ=(a.den ρ&&b.den ρ):=by
 unfold B_;split<;>simp [BE.den]
theorem Ky(a b:BE):(bOr a b).den ρ=(a.den ρ||b.den ρ):=by
 unfold bOr;split<;>simp [BE.den]
theorem pk(c a b:BE):(FO c a b).den ρ=if c.den ρ then a.den ρ else b.den ρ:=by
 unfold FO;split
 ·simp [BE.den]
 ·simp [BE.den]
 ·rw [Ky];simp [BE.den]
 ·rw [pj];simp [BE.den]
 ·rfl
theorem aE(k:IntKind)(n:Nat)(f:Nat→Int):(aj k n f).length=n:=by simp [aj]
theorem bF(k:IntKind)(n:Nat)(f:Nat→Int)(j:Nat):(aj k n f)[j]? =if j<n then some (.int k (f j))else none:=by
 unfold aj;rw [List.getElem?_map];by_cases h:j<n
 ·rw [List.getElem?_range h,if_pos h];rfl
 ·rw [au0 (by simp;omega),if_neg h];rfl
theorem cE(k:IntKind)(n:Nat){f g:Nat→Int}(h: ∀j,j<n→f j=g j):aj k n f=aj k n g:=by
 unfold aj;exact List.map_congr_left fun j hj=>by rw [h j (auG.1 hj)]
theorem gw(k:IntKind)(n m:Nat)(f:Nat→Int)(h:m≤n):(aj k n f).take m=aj k m f:=by
 unfold aj;rw [←List.map_take,List.take_range,Nat.min_eq_left h]
theorem tm(k:IntKind)(n m:Nat)(f:Nat→Int):(aj k n f).drop m=aj k (n - m) fun j=>f (m+j):=by
 apply List.ext_getElem?;intro j;rw [List.getElem?_drop,bF,bF];by_cases h:m+j<n
 ·rw [if_pos h,if_pos (by omega)]
 ·rw [if_neg h,if_neg (by omega)]
mutual
theorem vf: ∀v:SV,(SV.cells ρ v).length=v.width
 | .agg cs=>by simp only [SV.cells,SV.width];exact bu cs
 | .dg k n a=>by simp [SV.cells,SV.width,aE]
 | .int .. =>rfl
 | .bool _=>rfl
 | .cu=>rfl
 | .bx=>rfl
 | .kD=>rfl
 | .pf=>rfl
 | .nT=>rfl
 | .undef=>rfl
 | .ptr .. =>rfl
 | .qX .. =>rfl
 | .pv .. =>rfl
 | .sl .. =>rfl
 | .vv _=>rfl
 | .str _=>rfl
 | .fn .. =>rfl
 | .fm .. =>rfl
 | .oL _=>rfl
 | .opt .. =>rfl
 | .FJ .. =>rfl
 | .Mk _=>rfl
 | .mp _=>rfl
 | .jJ .. =>rfl
 | .jE _=>rfl
 | .mu _=>rfl
 | .Ix .. =>rfl
 | .PF .. =>rfl
 | .Uo .. =>rfl
 | .PG .. =>rfl
 | .Ku _=>rfl
theorem bu: ∀l:List SV,(SV.ao ρ l).length=SV.pY l
 | []=>rfl
 | v::r=>by simp only [SV.ao,SV.pY,aum];rw [vf v,bu r]
end
theorem iK(a b:List SV):SV.ao ρ (a++b)=SV.ao ρ a++SV.ao ρ b:=by
 induction a with
 | nil=>rfl
 | cons v r ih=>simp only [List.cons_append,SV.ao,ih,List.append_assoc]
def SV.plain:SV→Bool
 | .agg _=>false
 | .dg .. =>false
 | _=>true
theorem jg{v:SV}(h:v.plain=true):SV.cells ρ v=[v.val ρ]:=by
 cases v<;>simp_all [SV.plain,SV.cells,SV.val]
theorem Cc(d:Nat){v:SV}(h:v.plain=true)(r:List SV):gN (d+1) (v::r)=gN d r:=by
 cases v<;>simp_all [SV.plain,gN]
theorem Cd(d:Nat){v:SV}(h:v.plain=true)(r:List SV):js (d+1) (v::r)=(js d r).map (v:: ·):=by
 cases v<;>simp_all [SV.plain,js]
theorem ft: ∀(cs:List SV) (d:Nat) (r:List SV),gN d cs=some r→SV.ao ρ r=(SV.ao ρ cs).drop d
 | cs,0,r,h=>by simp [gN]at h;subst h;rfl
 | [],d+1,r,h=>by simp [gN]at h;subst h;simp [SV.ao]
 | v::cs,d+1,r,h=>by
  by_cases hp:v.plain=true
  ·rw [Cc d hp]at h;rw [ft cs d r h];simp [SV.ao,jg ρ hp]
  ·cases v with
   | agg x=>simp [gN]at h
   | dg k n a=>
    simp only [gN]at h;simp only [SV.ao,SV.cells];split at h
    ·rename_i cF;simp only [auq]at h;subst h;simp only [SV.ao,SV.cells];rw [List.drop_append_of_le_length (by rw [aE];omega),tm];congr 1;apply cE;intro j _;rw [eT];rfl
    ·rename_i mn;rw [ft cs _ r h,List.drop_append,aE,List.drop_of_length_le (l:=aj k n _) (by rw [aE];omega)];rfl
   | _=>simp [SV.plain]at hp
theorem jK: ∀(cs:List SV) (d:Nat) (r:List SV),js d cs=some r→SV.ao ρ r=(SV.ao ρ cs).take d
 | cs,0,r,h=>by simp [js]at h;subst h;simp [SV.ao]
 | [],d+1,r,h=>by simp [js]at h;subst h;simp [SV.ao]
 | v::cs,d+1,r,h=>by
  by_cases hp:v.plain=true
  ·rw [Cd d hp,aus]at h;obtain⟨x,hx,rfl⟩:=h;simp [SV.ao,jg ρ hp,jK cs d x hx]
  ·cases v with
   | agg x=>simp [js]at h
   | dg k n a=>
    simp only [js]at h;simp only [SV.ao,SV.cells];split at h
    ·rename_i hle;simp only [auq]at h;subst h;simp only [SV.ao,SV.cells,List.append_nil];rw [List.take_append_of_le_length (by rw [aE];omega),gw _ _ _ _ hle]
    ·rename_i hgt;rw [aus]at h;obtain⟨x,hx,rfl⟩:=h;simp only [SV.ao,SV.cells];rw [jK cs _ x hx,List.take_append,aE,List.take_of_length_le (l:=aj k n _) (by rw [aE];omega)]
   | _=>simp [SV.plain]at hp
theorem fj{c size:Nat}{cs r:List SV}(h:j6 c size cs=some r):
  SV.ao ρ r=((SV.ao ρ cs).drop c).take size∧c+size≤(SV.ao ρ cs).length:=by
 unfold j6 at h;split at h
 ·rename_i hle;split at h
  ·rename_i x hx;exact⟨by rw [jK ρ _ _ _ h,ft ρ _ _ _ hx],by rw [bu];exact hle⟩
  ·cases h
 ·cases h
theorem mL{c:Nat}{vs cs r:List SV}(h:wO c vs cs=some r):
  SV.ao ρ r=(SV.ao ρ cs).take c++SV.ao ρ vs++(SV.ao ρ cs).drop (c+(SV.ao ρ vs).length)∧
   c+(SV.ao ρ vs).length≤(SV.ao ρ cs).length:=by
 unfold wO at h;split at h
 ·rename_i hle;split at h
  ·rename_i x y hx hy;simp only [auq]at h;subst h;rw [iK,iK,jK ρ _ _ _ hx,ft ρ _ _ _ hy,bu,bu];exact⟨rfl,hle⟩
  ·cases h
 ·cases h
theorem od{agg:Bool}{cs:List SV}{v:SV}(h:jt agg cs=some v):
  (agg=true→v.val ρ= .agg (SV.ao ρ cs).toArray)∧(agg=false→SV.ao ρ cs=[v.val ρ]):=by
 unfold jt at h;split at h
 ·rename_i ha;simp only [auq]at h;subst h;simp [ha,SV.val]
 ·rename_i ha;refine⟨fun hc=>absurd hc ha,fun _=>?_⟩;split at h
  ·simp only [auq]at h;subst h;simp [SV.ao,SV.cells,SV.val,aj,cX,E.den]
  ·cases h
  ·cases h
  ·rename_i v' h1 h2 h3;simp only [auq]at h;subst h;have hp:v'.plain=true:=by
    cases v' with
    | agg cs=>exact absurd rfl (h3 cs)
    | dg k n a=>exact absurd rfl (h2 k n a)
    | _=>rfl
   simp [SV.ao,jg ρ hp]
  ·cases h
structure Env.Ok (ρ:Env):Prop where
theorem Env.ok(ρ:Env):ρ.Ok:=⟨⟩
theorem Env.Ok.vvD{ρ:Env}(_:ρ.Ok)(i:Nat):(ρ.vv.getD i V1.nil).v.oneCell'=true:=(ρ.vv.getD i V1.nil).one
theorem Env.Ok.vaD{ρ:Env}(_:ρ.Ok)(i j:Nat):((ρ.va.getD i fun _=>V1.nil) j).v.oneCell'=true:=((ρ.va.getD i fun _=>V1.nil) j).one
theorem DF{v:Value}(h:v.oneCell'=true):v.cells= #[v]:=by
 cases v<;>simp_all [Value.oneCell',Value.cells]
theorem Kz{v:SV}(h:v.one=true)(hs:v.plain=true)(iz:ρ.Ok):(v.val ρ).oneCell'=true:=by
 cases v with
 | vv i=>simp only [SV.val];exact iz.vvD i
 | FJ a i=>simp only [SV.val];exact iz.vaD a _
 | jE e=>simp only [SV.val];exact FK _
 | Ku e=>simp only [SV.val];exact kG _
 | pv v i s c=>simp only [SV.val,fS];split<;>rfl
 | PG v i s c n=>simp only [SV.val,zP];split<;>rfl
 | jJ v cs s=>simp only [SV.val];exact oM _ _ _ _ (ρ.vv.getD v V1.nil).one
 | Ix c v=>simp only [SV.val];split<;>first | rfl | (unfold uW;split<;>rfl)
 | _=>first | rfl | simp_all [SV.one,SV.plain]
theorem Mt{v:SV}(h:v.one=true)(iz:ρ.Ok): ∀u∈SV.cells ρ v,u.oneCell'=true:=by
 by_cases hs:v.plain=true
 ·rw [jg ρ hs];intro u hu;rw [auz]at hu;subst hu;exact Kz ρ h hs iz
 ·cases v with
  | agg x=>simp [SV.one]at h
  | dg k n a=>
   intro u hu;simp only [SV.cells,aj,auL]at hu;obtain⟨j,_,rfl⟩:=hu;rfl
  | _=>simp [SV.plain]at hs
theorem nr{l:List SV}(h:l.all SV.one=true)(iz:ρ.Ok): ∀u∈SV.ao ρ l,u.oneCell'=true:=by
 induction l with
 | nil=>intro u hu;cases hu
 | cons v r ih=>
  rw [List.all_cons,ai]at h;intro u hu;simp only [SV.ao,auE]at hu;exact hu.elim (Mt ρ h.1 iz u) (ih h.2 u)
theorem jL{v:SV}{cs:List SV}(h:fk v=some cs)(iz:ρ.Ok):
  (v.val ρ).cells.toList=SV.ao ρ cs∧∀u∈SV.ao ρ cs,u.oneCell'=true:=by
 by_cases hs:v.plain=true
 ·have h1:v.one=true∧cs=[v]:=by
   cases v<;>simp_all [fk,SV.plain]
  obtain⟨h1,rfl⟩:=h1;have h2:=Kz ρ h1 hs iz;refine⟨?_,nr ρ (by simp [h1]) iz⟩;rw [DF h2];simp [SV.ao,jg ρ hs]
 ·cases v with
  | agg x=>
   simp only [fk]at h;split at h
   ·rename_i ha;simp only [auq]at h;subst h;exact⟨by simp [SV.val,Value.cells],nr ρ ha iz⟩
   ·cases h
  | dg k n a=>
   simp only [fk,SV.one,if_true,auq]at h;subst h;exact⟨by simp [SV.val,Value.cells,SV.ao,SV.cells],nr ρ (by simp [SV.one]) iz⟩
  | _=>simp [SV.plain]at hs
theorem Ce(v:Value)(x:SV)(h:ofValue v=some x)(hn: ∀l,v≠ .agg l):x.plain=true:=by
 unfold ofValue at h;split at h<;>simp_all<;>(subst h;rfl)
mutual
theorem rD: ∀(v:Value) (x:SV),ofValue v=some x→x.val ρ=v
 | .int k n,x,h=>by simp [ofValue]at h;subst h;rfl
 | .bool b,x,h=>by simp [ofValue]at h;subst h;rfl
 | .pointer none,x,h=>by simp [ofValue]at h;subst h;rfl
 | .pointer (some _),x,h=>by simp [ofValue]at h
 | .slice none 0 0,x,h=>by simp [ofValue]at h;subst h;rfl
 | .slice none (_+1) _,x,h=>by simp [ofValue]at h
 | .slice none 0 (_+1),x,h=>by simp [ofValue]at h
 | .slice (some _) _ _,x,h=>by simp [ofValue]at h
 | .nilFunc,x,h=>by simp [ofValue]at h;subst h;rfl
 | .nilIface,x,h=>by simp [ofValue]at h;subst h;rfl
 | .map none,x,h=>by simp [ofValue]at h;subst h;rfl
 | .map (some _),x,h=>by simp [ofValue]at h
 | .string ⟨⟨l⟩⟩,x,h=>by simp [ofValue]at h;subst h;rfl
 | .tuple ⟨[]⟩,x,h=>by simp [ofValue]at h;subst h;rfl
 | .tuple ⟨_::_⟩,x,h=>by simp [ofValue]at h
 | .agg ⟨l⟩,x,h=>by
  simp only [ofValue,aus]at h;obtain⟨y,hy,rfl⟩:=h;simp only [SV.val];rw [rE l y hy]
 | .float ..,x,h=>by simp [ofValue]at h
 | .complex ..,x,h=>by simp [ofValue]at h
 | .chan _,x,h=>by simp [ofValue]at h
 | .func ..,x,h=>by simp [ofValue]at h
 | .iface ..,x,h=>by simp [ofValue]at h
theorem rE: ∀(l:List Value) (xs:List SV),ofValues l=some xs→SV.ao ρ xs=l
 | [],xs,h=>by simp [ofValues]at h;subst h;rfl
 | v::r,xs,h=>by
  unfold ofValues at h;split at h
  ·rename_i heq;cases heq
  ·cases h
  ·rename_i v' r' hn heq;cases heq;split at h
   ·rename_i x xs' hx IC;simp only [auq]at h;subst h;have hp:=Ce v x hx (fun l e=>hn l e);simp only [SV.ao,jg ρ hp,rD v x hx,rE r xs' IC];rfl
   ·cases h
end
end
def ju:Option TypeDesc→TK→Bool
 | some (.int k),.int k'=>k==k'
 | some .bool,.bool=>true
 | some .string,.str=>true
 | some (.pointer e),.ptr e'=>e==e'
 | some (.slice e),.slice e'=>e==e'
 | some (.array n e),.arr n' e'=>n==n'&&e==e'
 | some (.struct fs),.struct l=>fs.toList.map (fun f=>(f.type,f.offset))==l
 | some (.struct fs),.KA l _=>fs.toList.map (fun f=>(f.type,f.offset))==l
 | some (.map k e),.map k' e'=>k==k'&&e==e'
 | some (.func ..),.func=>true
 | some (.interface _),.iface=>true
 | _,_=>false
def isInt(k:IntKind)(m:Int):Value→Bool
 | .int k' n=>k==k'&&n==m
 | _=>false
def PS(x:SV)(vs:List Value):Option (List Value):=
 match x with
 | .dg k n (.lit m)=>if n≤vs.length∧(vs.take n).all (isInt k m)=true then some (vs.drop n)else none
 | x=>match vs with
  | v::r=>match ofValue v with
   | some y=>match x,y with
    | .int k (.lit m),.int k' (.lit m')=>if k=k'∧m=m' then some r else none
    | .bool (.lit b),.bool (.lit b')=>if b=b' then some r else none
    | .cu,.cu=>some r
    | .bx,.bx=>some r
    | .kD,.kD=>some r
    | .pf,.pf=>some r
    | .nT,.nT=>some r
    | .str l,.str l'=>if l=l' then some r else none
    | _,_=>none
   | none=>none
  | []=>none
def FP:List Value→List SV→Bool
 | vs,[]=>vs.isEmpty
 | vs,x::r=>match PS x vs with
  | some Ib=>FP Ib r
  | none=>false
theorem PU{k:IntKind}{m:Int}{v:Value}(h:isInt k m v=true):v= .int k m:=by
 cases v<;>simp_all [isInt]
theorem FQ(ρ:Env){x:SV}{vs Ib:List Value}(h:PS x vs=some Ib):vs=SV.cells ρ x++Ib:=by
 unfold PS at h;split at h
 ·rename_i k n m;split at h
  ·rename_i hc;simp only [auq]at h;subst h;have:aj k n (E.den ρ (.lit m))=vs.take n:=by
    apply List.ext_getElem?;intro j;rw [bF];by_cases hj:j<n
    ·rw [if_pos hj,List.getElem?_take_of_lt hj];have cF:j<vs.length:=by omega
     rw [auU cF];have:=auo.1 hc.2 vs[j] (by
      rw [←List.getElem_take (xs:=vs) (j:=n) (h:=by simp;omega)];exact List.getElem_mem _)
     rw [PU this];rfl
    ·rw [if_neg hj,au0 (by simp;omega)]
   simp only [SV.cells,this,List.take_append_drop]
  ·cases h
 ·split at h
  ·rename_i v r;split at h
   ·rename_i y hy;have hv:=rD ρ v y hy;subst hv;split at h
    all_goals first
     | (simp only [auq]at h;subst h;rfl)
     | (
       split at h
       ·rename_i hc;simp only [auq]at h;subst h
        first | (obtain⟨rfl,rfl⟩:=hc;rfl) | (subst hc;rfl)
       ·cases h)
     | cases h
   ·cases h
  ·cases h
theorem xT(ρ:Env): ∀(l:List SV) (vs:List Value),FP vs l=true→SV.ao ρ l=vs
 | [],vs,h=>by
  cases vs with
  | nil=>rfl
  | cons v r=>simp [FP]at h
 | x::r,vs,h=>by
  unfold FP at h;split at h
  ·rename_i Ib hz;rw [FQ ρ hz,SV.ao,xT ρ r Ib h]
  ·cases h
def lC(P:Program)(f:TypeId→Option (List iY)):List Field→Nat→Option (List iY)
 | [],_=>some []
 | fd::r,off=>
  if fd.name== "_" ||fd.offset != off then none else
  match f fd.type with
  | some l=>if P.cellsOf fd.type==l.length then(lC P f r (off+l.length)).map (l++ ·)else none
  | none=>none
def gI(P:Program):Nat→TypeId→Option (List iY)
 | 0,_=>none
 | d+1,t=>
  match P.underlying t with
  | some (.int k)=>some [some k]
  | some .bool=>some [none]
  | some (.array n e)=>match gI P d e with
   | some l=>if P.cellsOf e==l.length then some (List.replicate n l).flatten else none
   | none=>none
  | some (.struct fs)=>if P.stoodInHeld t then none else lC P (gI P d) fs.toList 0
  | _=>none
def XC(P:Program)(ti:TI):Bool:=
 ti.lay.isEmpty||(gI P 12 ti.t==some (lW ti.lay)&& !P.eqGuardType P.depth ti.t)
def YD(P:Program)(ti:TI):Bool:=
 ju (P.underlying ti.t) ti.k&&XC P ti&&SV.pY ti.zero==ti.size&&
 match P.info? ti.t with
 | some i=>i.size==ti.size&&i.bytes==ti.bytes&&ti.zero.all SV.one&&
  match i.zero with
  | some z=>FP z.cells.toList ti.zero&&(match z with | .agg _=>ti.k.agg | _=> !ti.k.agg)
  | none=>false
 | none=>false
def bB(P:Program)(T:List TI):Bool:=T.all (YD P)
structure lu (P:Program) (ti:TI):Prop where
 kind:ju (P.underlying ti.t) ti.k=true
 lay:ti.lay.isEmpty=true∨(gI P 12 ti.t=some (lW ti.lay)∧P.eqGuardType P.depth ti.t=false)
 one:ti.zero.all SV.one=true
 Cf:SV.pY ti.zero=ti.size
 zag: ∀i z,P.info? ti.t=some i→i.zero=some z→(match z with | .agg _=>ti.k.agg | _=> !ti.k.agg)=true
 info: ∃i,P.info? ti.t=some i∧i.size=ti.size∧i.bytes=ti.bytes∧∃z,i.zero=some z∧∀ρ,SV.ao ρ ti.zero=z.cells.toList
theorem Mu{P:Program}{ti:TI}(h:YD P ti=true):lu P ti:=by
 unfold YD at h;rw [ai,ai,ai,beq_iff_eq]at h;obtain⟨⟨⟨hk,hl⟩,YE⟩,h⟩:=h;have OX:ti.lay.isEmpty=true∨(gI P 12 ti.t=some (lW ti.lay)∧P.eqGuardType P.depth ti.t=false):=by
  unfold XC at hl;rw [Bool.or_eq_true,ai,beq_iff_eq,Bool.not_eq_true']at hl;exact hl
 split at h
 ·rename_i i hi;simp only [ai,beq_iff_eq]at h;obtain⟨⟨⟨h1,h2⟩,h4⟩,h3⟩:=h;split at h3
  ·rename_i z hz;rw [ai]at h3;exact⟨hk,OX,h4,YE,fun i' z' cD ID=>by rw [hi]at cD;cases cD;rw [hz]at ID;cases ID;exact h3.2,i,hi,h1,h2,z,hz,fun ρ=>xT ρ _ _ h3.1⟩
  ·cases h3
 ·cases h
theorem aC{P:Program}{T:List TI}(hT:bB P T=true){t:Nat}{ti:TI}(h:aU T t=some ti):ti.t=t∧lu P ti:=by
 unfold aU at h;have hm:=List.mem_of_find?_eq_some h;have ht:=List.find?_some h;simp only [beq_iff_eq]at ht;exact⟨ht,Mu (auo.1 hT ti hm)⟩
section
variable {P:Program} (w:World)
theorem lu.sizeOf{ti:TI}(h:lu P ti):(sizeOf ti.t).run P w= .ok ti.size w:=by
 obtain⟨i,hi,hs,_⟩:=h.info;simp [Go.sizeOf,typeInfo,hi,hs]
theorem lu.isAgg{ti:TI}(h:lu P ti):(isAgg ti.t).run P w= .ok ti.k.agg w:=by
 have hk:=h.kind;unfold ju at hk;split at hk<;>first | (cases hk;done) | skip
 all_goals (rename_i h1 h2;simp [Go.isAgg,run_underlying h1,h2,TK.agg])
theorem lu.zero{ti:TI}(h:lu P ti): ∃z,(zeroValue ti.t).run P w= .ok z w∧∀ρ,SV.ao ρ ti.zero=z.cells.toList:=by
 obtain⟨i,hi,_,_,z,hz,hc⟩:=h.info;exact⟨z,by simp [zeroValue,typeInfo,hi,hz],hc⟩
end
end Go.RX
