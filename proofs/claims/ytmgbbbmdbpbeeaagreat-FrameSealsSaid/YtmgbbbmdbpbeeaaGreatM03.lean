/- Executor. -/
import Derived.Test.YtmgbbbmdbpbeeaaGreatRxD
open Bool renaming and_eq_true → ai
open Int renaming toNat_natCast → afe
open List renaming all_eq_true → aeT, getD_cons_succ → aeW, getElem?_append_left → ae1, getElem?_append_right → ae2, getElem?_eq_getElem → afA, getElem?_eq_none → afz, mem_range → afg, mem_singleton → afC
open Option renaming getD_some → afG, map_eq_some_iff → aeY
open Option.some renaming injEq → aeX
namespace Go.RX
def aw(P:Program)(f:Nat)(args:List Value)(pre:List HP)(post:Value→List HP→Prop):Prop:=
 ∀(w:World) (Fs:List HP),bK (pre++Fs) w→
  Calls P f args.toArray w fun e w'=> ∃v hs,e= .returned v∧post v hs∧bK (hs++Fs) w'∧fV w w'
def FO(P:Program)(f:Nat)(args:List Value)(pre:List HP)(post:Value→List HP→Prop):Prop:=
 ∀(w:World) (Fs:List HP),bK (pre++Fs) w→
  ∃v hs w',(callFunc f args.toArray).run P w= .ok (.value v) w'∧post v hs∧bK (hs++Fs) w'∧fV w w'
structure Ext where
 b:List Nat
 v:List V1
 i:List Int
 a:List (Nat→Int)
 bo:List Bool
 p:List HP
 r:List Loop
def xh{α:Type}:Nat→(List α→Prop)→Prop
 | 0,f=>f []
 | n+1,f=> ∀x,xh n fun xs=>f (x::xs)
def Ma{α:Type}:Nat→(List α→Prop)→Prop
 | 0,f=>f []
 | n+1,f=> ∃x,Ma n fun xs=>f (x::xs)
def xi(c:cP)(f:Ext→Prop):Prop:=
 xh c.b fun b=>xh c.v fun v=>xh c.i fun i=>xh c.a fun a=>xh c.bo fun bo=>xh c.p fun p=>xh c.r fun r=>f ⟨b,v,i,a,bo,p,r⟩
def uJ(c:cP)(f:Ext→Prop):Prop:=
 Ma c.b fun b=>Ma c.v fun v=>Ma c.i fun i=>Ma c.a fun a=>Ma c.bo fun bo=>Ma c.p fun p=>Ma c.r fun r=>f ⟨b,v,i,a,bo,p,r⟩
def Env.ext(ρ:Env)(x:Ext):Env:=
 {ρ with bv:=ρ.bv++x.b,vv:=ρ.vv++x.v,iv:=ρ.iv++x.i,av:=ρ.av++x.a,bo:=ρ.bo++x.bo,pv:=ρ.pv++x.p,lr:=ρ.lr++x.r}
def Env.take(ρ:Env)(c:cP):Env:=
 {ρ with bv:=ρ.bv.take c.b,vv:=ρ.vv.take c.v,iv:=ρ.iv.take c.i,av:=ρ.av.take c.a,bo:=ρ.bo.take c.bo,pv:=ρ.pv.take c.p,lr:=ρ.lr.take c.r}
def Env.lI(ρ:Env)(b:Nat):Env:={ρ with bv:=ρ.bv++[b]}
def Env.fW(ρ:Env)(v:V1):Env:={ρ with vv:=ρ.vv++[v]}
def fD.holds(ρ bI:Env):fD→Prop
 | .e x y=>x.den ρ 0=y.den bI 0
 | .a n x y=> ∀j,j<(n.den ρ 0).toNat→x.den ρ j=y.den bI j
 | .b x y=>x.den ρ=y.den bI
 | .af x y=>x.den ρ=y.den bI
 | .v i j=>ρ.vv.getD i V1.nil=bI.vv.getD j V1.nil
 | .p i j=>ρ.pv.getD i HP.emp=bI.pv.getD j HP.emp
 | .bl i j=>ρ.bv.getD i 0=bI.bv.getD j 0
 | .rc i j=>ρ.lr.getD i gW=bI.lr.getD j gW
def RK(ρ bI:Env):List fD→Prop→Prop
 | [],q=>q
 | x::r,q=>x.holds ρ bI∧RK ρ bI r q
structure LC where
 I:Ext→Prop
 μ:Ext→Nat
 cur:Ext
def LC.none:LC:=⟨fun _=>False,fun _=>0,⟨[],[],[],[],[],[],[]⟩⟩
def tG(L:Nat→LC)(i:Nat)(l:LC):Nat→LC:=fun j=>if j=i then l else L j
def ao(b r:Prop):Prop:=b∧(b→r)
def aR(c t e:Prop):Prop:=(c→t)∧(¬c→e)
def VC(P:Program)(ar:Value→List HP→Prop):F→Env→(Nat→LC)→Prop
 | .fail _ _,_,_=>False
 | .vc b r,ρ,L=>ao (b.prop ρ) (VC P ar r ρ L)
 | .fork c t e,ρ,L=>aR (c.prop ρ) (VC P ar t ρ L) (VC P ar e ρ L)
 | .ret v hp,ρ,_=>ar (v.val ρ) (hp.map (Ck.den ρ))
 | .PL r,ρ,L=> ∀b,VC P ar r (ρ.lI b) L
 | .Dz r,ρ,L=> ∀v,VC P ar r (ρ.fW v) L
 | .Bg true r,ρ,L=> ∀d l c,VC P ar r (ρ.ext ⟨[d,l],[],[],[],[],[],[c]⟩) L
 | .Bg false r,ρ,L=> ∀l c,VC P ar r (ρ.ext ⟨[l],[],[],[],[],[],[c]⟩) L
 | .Vd r,ρ,L=>VC P ar r (ρ.fW ⟨.slice none 0 0,rfl⟩) L
 | .call f args use inc v new r,ρ,L=>
  ∃post,aw P f (SV.vals ρ args) (use.map (Ck.den ρ)) post∧
   ∀x hs,post x hs→uJ inc fun e=>x=v.val (ρ.ext e)∧hs=new.map (Ck.den (ρ.ext e))∧VC P ar r (ρ.ext e) L
 | .ext f args use inc v new r,ρ,L=>
  ∃post,FO P f (SV.vals ρ args) (use.map (Ck.den ρ)) post∧
   ∀x hs,post x hs→uJ inc fun e=>x=v.val (ρ.ext e)∧hs=new.map (Ck.den (ρ.ext e))∧VC P ar r (ρ.ext e) L
 | .loop up inc eqs body,ρ,L=>
  ∃(I:Ext→Prop) (μ:Ext→Nat),(uJ inc fun e=>RK (ρ.ext e) ρ eqs (I e))∧
   xi inc fun e=>I e→VC P ar body (ρ.ext e) (tG L up ⟨I,μ,e⟩)
 | .back up c0 inc eqs,ρ,L=>
  uJ inc fun e=>RK ((ρ.take c0).ext e) ρ eqs ((L up).I e∧(L up).μ e<(L up).μ (L up).cur)
 | .join up inc body r,ρ,L=>
  ∃I:Ext→Prop,VC P ar body ρ (tG L up ⟨I,fun _=>0,⟨[],[],[],[],[],[],[]⟩⟩)∧xi inc fun e=>I e→VC P ar r (ρ.ext e) L
 | .meet up c0 inc eqs,ρ,L=>
  uJ inc fun e=>RK ((ρ.take c0).ext e) ρ eqs ((L up).I e)
 | .both a b,ρ,L=>VC P ar a ρ L∧VC P ar b ρ L
 | .ghost use inc eqs new r,ρ,L=>
  ∃I:Ext→Prop,(∀w Fs,bK (use.map (Ck.den ρ)++Fs) w→uJ inc fun e=>RK (ρ.ext e) ρ eqs (bK (new.map (Ck.den (ρ.ext e))++Fs) w∧I e))∧
   xi inc fun e=>I e→VC P ar r (ρ.ext e) L
def aq(f:Nat→Int)(i:Nat)(v:Int):Nat→Int:=fun j=>if j=i then v else f j
def aA(f:Nat→Int)(o:Nat):Nat→Int:=fun j=>f (o+j)
def aI(f:Nat→Int)(o n:Nat)(g:Nat→Int):Nat→Int:=fun j=>if o≤j∧j<o+n then g (j - o)else f j
section
variable (ρ:Env)
theorem bM(a b:E):(dB a b).den ρ 0=a.den ρ 0+b.den ρ 0:=by
 unfold dB;split<;>simp_all [E.den,ak]
theorem eJ(a b:E):(tH a b).den ρ 0=a.den ρ 0 - b.den ρ 0:=by
 unfold tH;split<;>simp_all [E.den,ak]
theorem fN(a b:E):(o6 a b).den ρ 0=a.den ρ 0*b.den ρ 0:=by
 unfold o6;split<;>simp_all [E.den,ak]
theorem dP(a o:E)(j:Nat):(jt a o).den ρ j=a.den ρ ((o.den ρ 0).toNat+j):=by
 unfold jt;split<;>simp_all [E.den]
theorem xj(v:E)(j:Nat):(Bh v).den ρ j=v.den ρ 0:=by
 unfold Bh;split
 ·rename_i h;cases v<;>first | rfl | (simp [E.Ve]at h;done)
 ·simp [E.den]
theorem ei(a i:E)(j:Nat):(gl a i).den ρ j=a.den ρ (i.den ρ 0).toNat:=by
 induction a generalizing i j with
 | lit n=>unfold gl;rfl
 | r9 b i' v r_ _ Xw=>
  unfold gl;split
  ·rename_i h;cases h
  ·rename_i h;cases h
  ·rename_i jj ii h;cases h;split
   ·rename_i he;simp only [E.den,he,if_true];exact xj ρ v j
   ·rename_i he;rw [r_];exact(if_neg he).symm
  ·rename_i h;cases h
  ·rename_i h;cases h
  ·rename_i heq _;cases heq;split
   ·rename_i he;subst he;simp only [E.den,if_true];exact xj ρ _ j
   ·rfl
  ·rfl
 | shift b o r_ _=>
  unfold gl;split
  ·rename_i h;cases h
  ·rename_i h;cases h
  ·rename_i h;cases h
  ·rename_i h;cases h;rw [r_];simp only [E.den,afe]
  ·rename_i h;cases h
  ·rename_i heq _;cases heq
  ·rfl
 | tw b o n x r_ _ _ Vf=>
  unfold gl;split
  ·rename_i h;cases h
  ·rename_i h;cases h
  ·rename_i h;cases h
  ·rename_i h;cases h
  ·rename_i h;cases h;split
   ·rename_i hc;rw [Vf];simp only [E.den,afe];exact(if_pos hc).symm
   ·rename_i hc;rw [r_];exact(if_neg hc).symm
  ·rename_i heq _;cases heq
  ·rfl
 | var n=>unfold gl;rfl
 | aL n=>unfold gl;rfl
 | OL a b _ _=>unfold gl;rfl
 | bin o k a b _ _=>unfold gl;rfl
 | wrap k a _=>unfold gl;rfl
 | kc n a _=>unfold gl;rfl
 | mR b=>unfold gl;rfl
 | PI a i _ _=>unfold gl;rfl
 | o4 a i s _ _ _=>unfold gl;rfl
 | RF s _=>unfold gl;rfl
 | qt l=>
  unfold gl;split
  ·rename_i h;cases h
  ·rename_i h;cases h;rfl
  ·rename_i h;cases h
  ·rename_i h;cases h
  ·rename_i h;cases h
  ·rename_i h _;cases h
  ·rfl
theorem cK(n:Int)(j:Nat):(E.lit n).den ρ j=n:=rfl
theorem sh(a i v:E)(j:Nat):(E.r9 a i v).den ρ j=if j=(i.den ρ 0).toNat then v.den ρ 0 else a.den ρ j:=rfl
theorem HM(a o n b:E)(j:Nat):(E.tw a o n b).den ρ j=if(o.den ρ 0).toNat≤j∧j<(o.den ρ 0).toNat+(n.den ρ 0).toNat then b.den ρ (j - (o.den ρ 0).toNat)else a.den ρ j:=rfl
theorem iY(a i s:E):(E.o4 a i s).den ρ=Dv (a.den ρ) (i.den ρ 0).toNat (s.den ρ):=rfl
theorem HN(a i:E):(E.PI a i).den ρ=oI (a.den ρ) (i.den ρ 0).toNat:=rfl
theorem JB(a i:E)(k:Nat):(Bi a i).den ρ k=oI (a.den ρ) (i.den ρ 0).toNat k:=by
 induction a generalizing k with
 | o4 a jj s lG ihj Xx=>
  rw [iY,iV];unfold Bi;split
  ·rename_i heq;cases heq
  ·rename_i heq;cases heq;split
   ·rename_i he;rw [cK,cK,if_pos he]
   ·rename_i he;rw [lG,cK,cK,if_neg he]
  ·rename_i heq _;cases heq;split
   ·rename_i he;subst he;rw [if_pos rfl]
   ·rw [HN,iY,iV]
  ·rw [HN,iY,iV]
 | lit n=>unfold Bi;rfl
 | _=>unfold Bi;rfl
theorem xl(a i:E):(Bi a i).den ρ=oI (a.den ρ) (i.den ρ 0).toNat:=funext (JB ρ a i)
theorem k_(l:List UInt8):(y9 l).den ρ=Jx l:=by
 funext j;cases j with
 | zero=>simp [y9,E.den,Jx]
 | succ j=>
  simp only [y9,E.den,Jx,aeW];by_cases h:j<l.length
  ·simp [List.getD,afA h]
  ·simp [List.getD,afz (Nat.le_of_not_lt h)]
theorem F0(f:Nat→Int){j:Nat}(h:j<(f 0).toNat):(cj f)[j]? =some (UInt8.ofNat (f (j+1)).toNat):=by
 simp [cj,List.getElem?_range h]
theorem F1(l:List UInt8)(j:Nat):(E.qt (l.map fun b=>((b.toNat:Nat):Int))).den ρ j=((l.getD j 0).toNat:Nat):=by
 simp only [E.den];by_cases h:j<l.length
 ·simp [List.getD,afA h]
 ·simp [List.getD,afz (Nat.le_of_not_lt h)]
theorem DA(s:E):(JC s).den ρ=Jy (s.den ρ):=by
 unfold JC;split
 ·rename_i n l;split
  ·rename_i h;funext j;simp only [E.den,Jy,aeW];by_cases hj:j<l.length
   ·have:=aeT.1 h l[j] (List.getElem_mem hj);simp only [ai,decide_eq_true_eq]at this;simp only [List.getD,afA hj,afG];have h2:(UInt8.ofNat l[j].toNat).toNat=l[j].toNat:=by
     rw [UInt8.toNat_ofNat'];omega
    rw [h2];omega
   ·simp [List.getD,afz (Nat.le_of_not_lt hj)]
  ·rfl
 ·rfl
theorem Ai(s:E):(∃l,mkStr s= .str l∧l=cj (s.den ρ))∨mkStr s= .kg s:=by
 unfold mkStr;split
 ·rename_i n l;split
  ·rename_i h;simp only [ai,beq_iff_eq]at h;obtain⟨rfl,h⟩:=h;left;refine⟨_,rfl,?_⟩;apply List.ext_getElem?;intro j;by_cases hj:j<l.length
   ·rw [F0 _ (by simpa [E.den] using hj),List.getElem?_map,afA hj];simp [E.den,List.getD,afA hj]
   ·rw [afz (by simp;omega),afz (by rw [cG];simp [E.den];omega)]
  ·exact .inr rfl
 ·exact .inr rfl
theorem DB(s:E):SV.cells ρ (mkStr s)=[.string ⟨(cj (s.den ρ)).toArray⟩]:=by
 rcases Ai ρ s with⟨l,h,rfl⟩ | h<;>rw [h]<;>rfl
theorem mV(s:E):(mkStr s).val ρ= .string ⟨(cj (s.den ρ)).toArray⟩:=by
 rcases Ai ρ s with⟨l,h,rfl⟩ | h<;>rw [h]<;>rfl
theorem fO(s:E):(jQ s).den ρ 0=s.den ρ 0:=by rw [jQ,ei];rfl
theorem JD(s:E):((cj (s.den ρ)).length:Int)=max 0 ((jQ s).den ρ 0):=by rw [cG,fO];omega
theorem rh{v:SV}{s:E}(h:o7 v=some s):v.val ρ= .string ⟨(cj (s.den ρ)).toArray⟩:=by
 unfold o7 at h;split at h
 ·cases h;rw [k_,mS];rfl
 ·cases h;rfl
 ·cases h
theorem ju(f:Nat→Int){j:Nat}(h:j<(f 0).toNat):(cj f)[j]? =some (UInt8.ofNat (f (j+1)).toNat):=by
 simp [cj,List.getElem?_range h]
theorem ri(a n:E):cj ((rj a n).den ρ)=(List.range (n.den ρ 0).toNat).map fun j=>UInt8.ofNat (a.den ρ j).toNat:=by
 unfold cj;have h0:(rj a n).den ρ 0=n.den ρ 0:=by simp [rj,E.den]
 rw [h0];refine List.map_congr_left fun j hj=>?_
 have hj:=afg.1 hj;have:(rj a n).den ρ (j+1)=a.den ρ j:=by
  rw [rj,sh,cK,if_neg (by simp),HM,cK,if_pos (by simp;omega)];congr 1
 rw [this]
theorem JE(s lo hi:E)(hl:0≤lo.den ρ 0)(hlh:lo.den ρ 0≤hi.den ρ 0)(hh:hi.den ρ 0≤s.den ρ 0):
  cj ((Aj s lo hi).den ρ)=((cj (s.den ρ)).take (hi.den ρ 0).toNat).drop (lo.den ρ 0).toNat:=by
 have h0:(Aj s lo hi).den ρ 0=hi.den ρ 0 - lo.den ρ 0:=by
  unfold Aj;split<;>simp [E.den,eJ]
 have hj: ∀j,(Aj s lo hi).den ρ (j+1)=s.den ρ ((lo.den ρ 0).toNat+j+1):=by
  intro j;unfold Aj;split
  ·rw [sh,cK,if_neg (by simp),dP,sh,cK,if_neg (by simp)];congr 1
  ·rw [sh,cK,if_neg (by simp),dP];congr 1
 apply List.ext_getElem?;intro j;rw [List.getElem?_drop,List.getElem?_take];by_cases hc:j<(hi.den ρ 0 - lo.den ρ 0).toNat
 ·rw [ju _ (by rw [h0];exact hc),if_pos (by omega),ju _ (by omega),hj]
 ·rw [afz (by rw [cG,h0];omega),if_neg (by omega)]
theorem Mb(s t:E)(hs:0≤s.den ρ 0)(ht:0≤t.den ρ 0):cj ((JF s t).den ρ)=cj (s.den ρ)++cj (t.den ρ):=by
 have h0:(JF s t).den ρ 0=s.den ρ 0+t.den ρ 0:=by simp [JF,E.den,bM,fO]
 have hj: ∀j,(JF s t).den ρ (j+1)=if(s.den ρ 0).toNat≤j∧j<(s.den ρ 0).toNat+(t.den ρ 0).toNat then t.den ρ (j - (s.den ρ 0).toNat+1)else s.den ρ (j+1):=by
  intro j;rw [JF,sh,cK,if_neg (by simp),HM];simp only [bM,fO,cK,dP];have e:(s.den ρ 0+1).toNat=(s.den ρ 0).toNat+1:=by omega
  rw [e];by_cases hc:(s.den ρ 0).toNat≤j∧j<(s.den ρ 0).toNat+(t.den ρ 0).toNat
  ·rw [if_pos (by omega),if_pos hc];congr 1;simp only [show(1:Int).toNat=1 from rfl];omega
  ·rw [if_neg (by omega),if_neg hc]
 apply List.ext_getElem?;intro j;by_cases hc:j<(s.den ρ 0+t.den ρ 0).toNat
 ·rw [ju _ (by rw [h0];exact hc),hj];by_cases Xy:j<(s.den ρ 0).toNat
  ·rw [if_neg (by omega),ae1 (by rw [cG];exact Xy),ju _ Xy]
  ·rw [if_pos (by omega),ae2 (by rw [cG];omega),cG,ju _ (by omega)]
 ·rw [afz (by rw [cG,h0];omega),afz (by rw [List.length_append,cG,cG];omega)]
theorem DC(a b:E):(PM a b).den ρ=(cj (a.den ρ)==cj (b.den ρ)):=by
 unfold PM;by_cases h:a=b
 ·rw [if_pos h,h];simp [BE.den]
 ·rw [if_neg h];rfl
theorem ld(o:Vb)(k:IntKind)(a b:E):(tI o k a b).den ρ 0=ak o k (a.den ρ 0) (b.den ρ 0):=by
 unfold tI;split<;>rfl
theorem JG(k:IntKind)(a:E):(Mc k a).den ρ 0=k.wrap (a.den ρ 0):=by
 unfold Mc;split<;>rfl
theorem wo(a:E):(PN a).den ρ= !(a.den ρ 0==0):=by
 unfold PN;split<;>rfl
theorem pX(a b:E):(S6 a b).den ρ=(a.den ρ 0==b.den ρ 0):=by
 unfold S6;split
 ·rfl
 ·split<;>simp_all [BE.den]
theorem si(a b:E):(F2 a b).den ρ=decide (a.den ρ 0<b.den ρ 0):=by
 unfold F2;split<;>rfl
theorem gK(a b:E):(wq a b).den ρ=decide (a.den ρ 0≤b.den ρ 0):=by
 unfold wq;split<;>rfl
theorem df(b:BE):(iZ b).den ρ= !b.den ρ:=by
 unfold iZ;split<;>simp [BE.den]
theorem mW(a b:BE):(y_ a b).den ρ=(a.den ρ&&b.den ρ):=by
 unfold y_;split<;>simp [BE.den]
theorem HO(a b:BE):(Xz a b).den ρ=(a.den ρ||b.den ρ):=by
 unfold Xz;split<;>simp [BE.den]
theorem mX(c a b:BE):(DD c a b).den ρ=if c.den ρ then a.den ρ else b.den ρ:=by
 unfold DD;split
 ·simp [BE.den]
 ·simp [BE.den]
 ·rw [HO];simp [BE.den]
 ·rw [mW];simp [BE.den]
 ·rfl
theorem aG(k:IntKind)(n:Nat)(f:Nat→Int):(al k n f).length=n:=by simp [al]
theorem bu(k:IntKind)(n:Nat)(f:Nat→Int)(j:Nat):(al k n f)[j]? =if j<n then some (.int k (f j))else none:=by
 unfold al;rw [List.getElem?_map];by_cases h:j<n
 ·rw [List.getElem?_range h,if_pos h];rfl
 ·rw [afz (by simp;omega),if_neg h];rfl
theorem bF(k:IntKind)(n:Nat){f g:Nat→Int}(h: ∀j,j<n→f j=g j):al k n f=al k n g:=by
 unfold al;exact List.map_congr_left fun j hj=>by rw [h j (afg.1 hj)]
theorem dX(k:IntKind)(n m:Nat)(f:Nat→Int)(h:m≤n):(al k n f).take m=al k m f:=by
 unfold al;rw [←List.map_take,List.take_range,Nat.min_eq_left h]
theorem qD(k:IntKind)(n m:Nat)(f:Nat→Int):(al k n f).drop m=al k (n - m) fun j=>f (m+j):=by
 apply List.ext_getElem?;intro j;rw [List.getElem?_drop,bu,bu];by_cases h:m+j<n
 ·rw [if_pos h,if_pos (by omega)]
 ·rw [if_neg h,if_neg (by omega)]
mutual
theorem sj: ∀v:SV,(SV.cells ρ v).length=v.width
 | .agg cs=>by simp only [SV.cells,SV.width];exact bB cs
 | .cE k n a=>by simp [SV.cells,SV.width,aG]
 | .int .. =>rfl
 | .bool _=>rfl
 | .gI=>rfl
 | .b_=>rfl
 | .lH=>rfl
 | .sd=>rfl
 | .qu=>rfl
 | .undef=>rfl
 | .ptr .. =>rfl
 | .oJ .. =>rfl
 | .pv .. =>rfl
 | .sl .. =>rfl
 | .vv _=>rfl
 | .str _=>rfl
 | .fn .. =>rfl
 | .rR _=>rfl
 | .opt .. =>rfl
 | .Dw .. =>rfl
 | .Jz _=>rfl
 | .mp _=>rfl
 | .jP .. =>rfl
 | .nH _=>rfl
 | .kg _=>rfl
 | .FZ .. =>rfl
 | .L6 .. =>rfl
 | .K9 _=>rfl
theorem bB: ∀l:List SV,(SV.aC ρ l).length=SV.nL l
 | []=>rfl
 | v::r=>by simp only [SV.aC,SV.nL,List.length_append];rw [sj v,bB r]
end
theorem h_(a b:List SV):SV.aC ρ (a++b)=SV.aC ρ a++SV.aC ρ b:=by
 induction a with
 | nil=>rfl
 | cons v r ih=>simp only [List.cons_append,SV.aC,ih,List.append_assoc]
def SV.plain:SV→Bool
 | .agg _=>false
 | .cE .. =>false
 | _=>true
theorem gu{v:SV}(h:v.plain=true):SV.cells ρ v=[v.val ρ]:=by
 cases v<;>simp_all [SV.plain,SV.cells,SV.val]
theorem za(d:Nat){v:SV}(h:v.plain=true)(r:List SV):fl (d+1) (v::r)=fl d r:=by
 cases v<;>simp_all [SV.plain,fl]
theorem zb(d:Nat){v:SV}(h:v.plain=true)(r:List SV):gM (d+1) (v::r)=(gM d r).map (v:: ·):=by
 cases v<;>simp_all [SV.plain,gM]
theorem dY: ∀(cs:List SV) (d:Nat) (r:List SV),fl d cs=some r→SV.aC ρ r=(SV.aC ρ cs).drop d
 | cs,0,r,h=>by simp [fl]at h;subst h;rfl
 | [],d+1,r,h=>by simp [fl]at h;subst h;simp [SV.aC]
 | v::cs,d+1,r,h=>by
  by_cases hp:v.plain=true
  ·rw [za d hp]at h;rw [dY cs d r h];simp [SV.aC,gu ρ hp]
  ·cases v with
   | agg x=>simp [fl]at h
   | cE k n a=>
    simp only [fl]at h;simp only [SV.aC,SV.cells];split at h
    ·rename_i bU;simp only [aeX]at h;subst h;simp only [SV.aC,SV.cells];rw [List.drop_append_of_le_length (by rw [aG];omega),qD];congr 1;apply bF;intro j _;rw [dP];rfl
    ·rename_i iH;rw [dY cs _ r h,List.drop_append,aG,List.drop_of_length_le (l:=al k n _) (by rw [aG];omega)];rfl
   | _=>simp [SV.plain]at hp
theorem ia: ∀(cs:List SV) (d:Nat) (r:List SV),gM d cs=some r→SV.aC ρ r=(SV.aC ρ cs).take d
 | cs,0,r,h=>by simp [gM]at h;subst h;simp [SV.aC]
 | [],d+1,r,h=>by simp [gM]at h;subst h;simp [SV.aC]
 | v::cs,d+1,r,h=>by
  by_cases hp:v.plain=true
  ·rw [zb d hp,aeY]at h;obtain⟨x,hx,rfl⟩:=h;simp [SV.aC,gu ρ hp,ia cs d x hx]
  ·cases v with
   | agg x=>simp [gM]at h
   | cE k n a=>
    simp only [gM]at h;simp only [SV.aC,SV.cells];split at h
    ·rename_i hle;simp only [aeX]at h;subst h;simp only [SV.aC,SV.cells,List.append_nil];rw [List.take_append_of_le_length (by rw [aG];omega),dX _ _ _ _ hle]
    ·rename_i XA;rw [aeY]at h;obtain⟨x,hx,rfl⟩:=h;simp only [SV.aC,SV.cells];rw [ia cs _ x hx,List.take_append,aG,List.take_of_length_le (l:=al k n _) (by rw [aG];omega)]
   | _=>simp [SV.plain]at hp
theorem eK{c size:Nat}{cs r:List SV}(h:i_ c size cs=some r):
  SV.aC ρ r=((SV.aC ρ cs).drop c).take size∧c+size≤(SV.aC ρ cs).length:=by
 unfold i_ at h;split at h
 ·rename_i hle;split at h
  ·rename_i x hx;exact⟨by rw [ia ρ _ _ _ h,dY ρ _ _ _ hx],by rw [bB];exact hle⟩
  ·cases h
 ·cases h
theorem nM{c:Nat}{vs cs r:List SV}(h:xm c vs cs=some r):
  SV.aC ρ r=(SV.aC ρ cs).take c++SV.aC ρ vs++(SV.aC ρ cs).drop (c+(SV.aC ρ vs).length)∧
   c+(SV.aC ρ vs).length≤(SV.aC ρ cs).length:=by
 unfold xm at h;split at h
 ·rename_i hle;split at h
  ·rename_i x y hx hy;simp only [aeX]at h;subst h;rw [h_,h_,ia ρ _ _ _ hx,dY ρ _ _ _ hy,bB,bB];exact⟨rfl,hle⟩
  ·cases h
 ·cases h
theorem lN{agg:Bool}{cs:List SV}{v:SV}(h:iz agg cs=some v):
  (agg=true→v.val ρ= .agg (SV.aC ρ cs).toArray)∧(agg=false→SV.aC ρ cs=[v.val ρ]):=by
 unfold iz at h;split at h
 ·rename_i ha;simp only [aeX]at h;subst h;simp [ha,SV.val]
 ·rename_i ha;refine⟨fun hc=>absurd hc ha,fun _=>?_⟩;split at h
  ·simp only [aeX]at h;subst h;simp [SV.aC,SV.cells,SV.val,al,ei,E.den]
  ·cases h
  ·cases h
  ·rename_i v' h1 h2 h3;simp only [aeX]at h;subst h;have hp:v'.plain=true:=by
    cases v' with
    | agg cs=>exact absurd rfl (h3 cs)
    | cE k n a=>exact absurd rfl (h2 k n a)
    | _=>rfl
   simp [SV.aC,gu ρ hp]
  ·cases h
structure Env.Ok (ρ:Env):Prop where
theorem Env.ok(ρ:Env):ρ.Ok:=⟨⟩
theorem Env.Ok.vvD{ρ:Env}(_:ρ.Ok)(i:Nat):(ρ.vv.getD i V1.nil).v.oneCell'=true:=(ρ.vv.getD i V1.nil).one
theorem Env.Ok.vaD{ρ:Env}(_:ρ.Ok)(i j:Nat):((ρ.va.getD i fun _=>V1.nil) j).v.oneCell'=true:=((ρ.va.getD i fun _=>V1.nil) j).one
theorem Bj{v:Value}(h:v.oneCell'=true):v.cells= #[v]:=by
 cases v<;>simp_all [Value.oneCell',Value.cells]
theorem HQ{v:SV}(h:v.one=true)(hs:v.plain=true)(j9:ρ.Ok):(v.val ρ).oneCell'=true:=by
 cases v with
 | vv i=>simp only [SV.val];exact j9.vvD i
 | Dw a i=>simp only [SV.val];exact j9.vaD a _
 | nH e=>simp only [SV.val];exact Dx _
 | K9 e=>simp only [SV.val];exact Dy _
 | pv v i s c=>simp only [SV.val,eG];split<;>rfl
 | jP v cs s=>simp only [SV.val];exact mh _ _ _ _ (ρ.vv.getD v V1.nil).one
 | FZ c v=>simp only [SV.val];split<;>first | rfl | (unfold sf;split<;>rfl)
 | _=>first | rfl | simp_all [SV.one,SV.plain]
theorem JH{v:SV}(h:v.one=true)(j9:ρ.Ok): ∀u∈SV.cells ρ v,u.oneCell'=true:=by
 by_cases hs:v.plain=true
 ·rw [gu ρ hs];intro u hu;rw [afC]at hu;subst hu;exact HQ ρ h hs j9
 ·cases v with
  | agg x=>simp [SV.one]at h
  | cE k n a=>
   intro u hu;simp only [SV.cells,al,List.mem_map]at hu;obtain⟨j,_,rfl⟩:=hu;rfl
  | _=>simp [SV.plain]at hs
theorem lf{l:List SV}(h:l.all SV.one=true)(j9:ρ.Ok): ∀u∈SV.aC ρ l,u.oneCell'=true:=by
 induction l with
 | nil=>intro u hu;cases hu
 | cons v r ih=>
  rw [List.all_cons,ai]at h;intro u hu;simp only [SV.aC,List.mem_append]at hu;exact hu.elim (JH ρ h.1 j9 u) (ih h.2 u)
theorem ib{v:SV}{cs:List SV}(h:ez v=some cs)(j9:ρ.Ok):
  (v.val ρ).cells.toList=SV.aC ρ cs∧∀u∈SV.aC ρ cs,u.oneCell'=true:=by
 by_cases hs:v.plain=true
 ·have h1:v.one=true∧cs=[v]:=by
   cases v<;>simp_all [ez,SV.plain]
  obtain⟨h1,rfl⟩:=h1;have h2:=HQ ρ h1 hs j9;refine⟨?_,lf ρ (by simp [h1]) j9⟩;rw [Bj h2];simp [SV.aC,gu ρ hs]
 ·cases v with
  | agg x=>
   simp only [ez]at h;split at h
   ·rename_i ha;simp only [aeX]at h;subst h;exact⟨by simp [SV.val,Value.cells],lf ρ ha j9⟩
   ·cases h
  | cE k n a=>
   simp only [ez,SV.one,if_true,aeX]at h;subst h;exact⟨by simp [SV.val,Value.cells,SV.aC,SV.cells],lf ρ (by simp [SV.one]) j9⟩
  | _=>simp [SV.plain]at hs
theorem zd(v:Value)(x:SV)(h:ofValue v=some x)(hn: ∀l,v≠ .agg l):x.plain=true:=by
 unfold ofValue at h;split at h<;>simp_all<;>(subst h;rfl)
mutual
theorem o9: ∀(v:Value) (x:SV),ofValue v=some x→x.val ρ=v
 | .int k n,x,h=>by simp [ofValue]at h;subst h;rfl
 | .bool b,x,h=>by simp [ofValue]at h;subst h;rfl
 | .pointer none,x,h=>by simp [ofValue]at h;subst h;rfl
 | .pointer (some _),x,h=>by simp [ofValue]at h
 | .slice none 0 0,x,h=>by simp [ofValue]at h;subst h;rfl
 | .slice none (_+1) _,x,h=>by simp [ofValue]at h
 | .slice none 0 (_+1),x,h=>by simp [ofValue]at h
 | .slice (some _) _ _,x,h=>by simp [ofValue]at h
 | .nilFunc,x,h=>by simp [ofValue]at h;subst h;rfl
 | .nilIface,x,h=>by simp [ofValue]at h;subst h;rfl
 | .map none,x,h=>by simp [ofValue]at h;subst h;rfl
 | .map (some _),x,h=>by simp [ofValue]at h
 | .string ⟨⟨l⟩⟩,x,h=>by simp [ofValue]at h;subst h;rfl
 | .tuple ⟨[]⟩,x,h=>by simp [ofValue]at h;subst h;rfl
 | .tuple ⟨_::_⟩,x,h=>by simp [ofValue]at h
 | .agg ⟨l⟩,x,h=>by
  simp only [ofValue,aeY]at h;obtain⟨y,hy,rfl⟩:=h;simp only [SV.val];rw [o_ l y hy]
 | .float ..,x,h=>by simp [ofValue]at h
 | .complex ..,x,h=>by simp [ofValue]at h
 | .chan _,x,h=>by simp [ofValue]at h
 | .func ..,x,h=>by simp [ofValue]at h
 | .iface ..,x,h=>by simp [ofValue]at h
theorem o_: ∀(l:List Value) (xs:List SV),ofValues l=some xs→SV.aC ρ xs=l
 | [],xs,h=>by simp [ofValues]at h;subst h;rfl
 | v::r,xs,h=>by
  unfold ofValues at h;split at h
  ·rename_i heq;cases heq
  ·cases h
  ·rename_i v' r' hn heq;cases heq;split at h
   ·rename_i x xs' hx F3;simp only [aeX]at h;subst h;have hp:=zd v x hx (fun l e=>hn l e);simp only [SV.aC,gu ρ hp,o9 v x hx,o_ r xs' F3];rfl
   ·cases h
end
end
def hJ:Option TypeDesc→TK→Bool
 | some (.int k),.int k'=>k==k'
 | some .bool,.bool=>true
 | some .string,.str=>true
 | some (.pointer e),.ptr e'=>e==e'
 | some (.slice e),.slice e'=>e==e'
 | some (.array n e),.arr n' e'=>n==n'&&e==e'
 | some (.struct fs),.struct l=>fs.toList.map (fun f=>(f.type,f.offset))==l
 | some (.struct fs),.HR l _=>fs.toList.map (fun f=>(f.type,f.offset))==l
 | some (.map k e),.map k' e'=>k==k'&&e==e'
 | some (.func ..),.func=>true
 | some (.interface _),.iface=>true
 | _,_=>false
def isInt(k:IntKind)(m:Int):Value→Bool
 | .int k' n=>k==k'&&n==m
 | _=>false
def Md(x:SV)(vs:List Value):Option (List Value):=
 match x with
 | .cE k n (.lit m)=>if n≤vs.length∧(vs.take n).all (isInt k m)=true then some (vs.drop n)else none
 | x=>match vs with
  | v::r=>match ofValue v with
   | some y=>match x,y with
    | .int k (.lit m),.int k' (.lit m')=>if k=k'∧m=m' then some r else none
    | .bool (.lit b),.bool (.lit b')=>if b=b' then some r else none
    | .gI,.gI=>some r
    | .b_,.b_=>some r
    | .lH,.lH=>some r
    | .sd,.sd=>some r
    | .qu,.qu=>some r
    | .str l,.str l'=>if l=l' then some r else none
    | _,_=>none
   | none=>none
  | []=>none
def DE:List Value→List SV→Bool
 | vs,[]=>vs.isEmpty
 | vs,x::r=>match Md x vs with
  | some Fz=>DE Fz r
  | none=>false
theorem Me{k:IntKind}{m:Int}{v:Value}(h:isInt k m v=true):v= .int k m:=by
 cases v<;>simp_all [isInt]
theorem DF(ρ:Env){x:SV}{vs Fz:List Value}(h:Md x vs=some Fz):vs=SV.cells ρ x++Fz:=by
 unfold Md at h;split at h
 ·rename_i k n m;split at h
  ·rename_i hc;simp only [aeX]at h;subst h;have:al k n (E.den ρ (.lit m))=vs.take n:=by
    apply List.ext_getElem?;intro j;rw [bu];by_cases hj:j<n
    ·rw [if_pos hj,List.getElem?_take_of_lt hj];have bU:j<vs.length:=by omega
     rw [afA bU];have:=aeT.1 hc.2 vs[j] (by
      rw [←List.getElem_take (xs:=vs) (j:=n) (h:=by simp;omega)];exact List.getElem_mem _)
     rw [Me this];rfl
    ·rw [if_neg hj,afz (by simp;omega)]
   simp only [SV.cells,this,List.take_append_drop]
  ·cases h
 ·split at h
  ·rename_i v r;split at h
   ·rename_i y hy;have hv:=o9 ρ v y hy;subst hv;split at h
    all_goals first
     | (simp only [aeX]at h;subst h;rfl)
     | (
       split at h
       ·rename_i hc;simp only [aeX]at h;subst h
        first | (obtain⟨rfl,rfl⟩:=hc;rfl) | (subst hc;rfl)
       ·cases h)
     | cases h
   ·cases h
  ·cases h
theorem uK(ρ:Env): ∀(l:List SV) (vs:List Value),DE vs l=true→SV.aC ρ l=vs
 | [],vs,h=>by
  cases vs with
  | nil=>rfl
  | cons v r=>simp [DE]at h
 | x::r,vs,h=>by
  unfold DE at h;split at h
  ·rename_i Fz hz;rw [DF ρ hz,SV.aC,uK ρ r Fz h]
  ·cases h
def jv(P:Program)(f:TypeId→Option (List gb)):List Field→Nat→Option (List gb)
 | [],_=>some []
 | fd::r,off=>
  if fd.name== "_" ||fd.offset != off then none else
  match f fd.type with
  | some l=>if P.cellsOf fd.type==l.length then(jv P f r (off+l.length)).map (l++ ·)else none
  | none=>none
def fi(P:Program):Nat→TypeId→Option (List gb)
 | 0,_=>none
 | d+1,t=>
  match P.underlying t with
  | some (.int k)=>some [some k]
  | some .bool=>some [none]
  | some (.array n e)=>match fi P d e with
   | some l=>if P.cellsOf e==l.length then some (List.replicate n l).flatten else none
   | none=>none
  | some (.struct fs)=>if P.stoodInHeld t then none else jv P (fi P d) fs.toList 0
  | _=>none
def RL(P:Program)(ti:TI):Bool:=
 ti.lay.isEmpty||(fi P 12 ti.t==some (jR ti.lay)&& !P.eqGuardType P.depth ti.t)
def S7(P:Program)(ti:TI):Bool:=
 hJ (P.underlying ti.t) ti.k&&RL P ti&&SV.nL ti.zero==ti.size&&
 match P.info? ti.t with
 | some i=>i.size==ti.size&&i.bytes==ti.bytes&&ti.zero.all SV.one&&
  match i.zero with
  | some z=>DE z.cells.toList ti.zero&&(match z with | .agg _=>ti.k.agg | _=> !ti.k.agg)
  | none=>false
 | none=>false
def bG(P:Program)(T:List TI):Bool:=T.all (S7 P)
structure jS (P:Program) (ti:TI):Prop where
 kind:hJ (P.underlying ti.t) ti.k=true
 lay:ti.lay.isEmpty=true∨(fi P 12 ti.t=some (jR ti.lay)∧P.eqGuardType P.depth ti.t=false)
 one:ti.zero.all SV.one=true
 ze:SV.nL ti.zero=ti.size
 zag: ∀i z,P.info? ti.t=some i→i.zero=some z→(match z with | .agg _=>ti.k.agg | _=> !ti.k.agg)=true
 info: ∃i,P.info? ti.t=some i∧i.size=ti.size∧i.bytes=ti.bytes∧∃z,i.zero=some z∧∀ρ,SV.aC ρ ti.zero=z.cells.toList
theorem JI{P:Program}{ti:TI}(h:S7 P ti=true):jS P ti:=by
 unfold S7 at h;rw [ai,ai,ai,beq_iff_eq]at h;obtain⟨⟨⟨hk,hl⟩,S8⟩,h⟩:=h;have XB:ti.lay.isEmpty=true∨(fi P 12 ti.t=some (jR ti.lay)∧P.eqGuardType P.depth ti.t=false):=by
  unfold RL at hl;rw [Bool.or_eq_true,ai,beq_iff_eq,Bool.not_eq_true']at hl;exact hl
 split at h
 ·rename_i i hi;simp only [ai,beq_iff_eq]at h;obtain⟨⟨⟨h1,h2⟩,h4⟩,h3⟩:=h;split at h3
  ·rename_i z hz;rw [ai]at h3;exact⟨hk,XB,h4,S8,fun i' z' mi OQ=>by rw [hi]at mi;cases mi;rw [hz]at OQ;cases OQ;exact h3.2,i,hi,h1,h2,z,hz,fun ρ=>uK ρ _ _ h3.1⟩
  ·cases h3
 ·cases h
theorem aH{P:Program}{T:List TI}(hT:bG P T=true){t:Nat}{ti:TI}(h:a_ T t=some ti):ti.t=t∧jS P ti:=by
 unfold a_ at h;have hm:=List.mem_of_find?_eq_some h;have ht:=List.find?_some h;simp only [beq_iff_eq]at ht;exact⟨ht,JI (aeT.1 hT ti hm)⟩
section
variable {P:Program} (w:World)
theorem jS.sizeOf{ti:TI}(h:jS P ti):(sizeOf ti.t).run P w= .ok ti.size w:=by
 obtain⟨i,hi,hs,_⟩:=h.info;simp [Go.sizeOf,typeInfo,hi,hs]
theorem jS.isAgg{ti:TI}(h:jS P ti):(isAgg ti.t).run P w= .ok ti.k.agg w:=by
 have hk:=h.kind;unfold hJ at hk;split at hk<;>first | (cases hk;done) | skip
 all_goals (rename_i h1 h2;simp [Go.isAgg,run_underlying h1,h2,TK.agg])
theorem jS.zero{ti:TI}(h:jS P ti): ∃z,(zeroValue ti.t).run P w= .ok z w∧∀ρ,SV.aC ρ ti.zero=z.cells.toList:=by
 obtain⟨i,hi,_,_,z,hz,hc⟩:=h.info;exact⟨z,by simp [zeroValue,typeInfo,hi,hz],hc⟩
end
end Go.RX
