/- Executor. -/
import Derived.Test.YtphemenngjkfbaaRxD
open Bool renaming and_eq_true → ai
open List renaming all_eq_true → adI, append_nil → adW, getD_cons_succ → aeg, getElem?_append_left → adO, getElem?_append_right → adQ, getElem?_eq_getElem → ad9, getElem?_eq_none → aeh, mem_append → aea, mem_map → aeu, mem_range → adU, mem_singleton → aei, range → aec
open Option renaming getD_some → aes, map_eq_some_iff → adM
open Option.some renaming injEq → adK
namespace Go.RX
def aq(P:Program)(f:Nat)(args:List Value)(pre:List HP)(post:Value→List HP→Prop):Prop:=
 ∀(w:World) (Fs:List HP),bd (pre++Fs) w→
  Calls P f args.toArray w fun e w'=> ∃v hs,e= .returned v∧post v hs∧bd (hs++Fs) w'∧fQ w w'
def Si(P:Program)(f:Nat)(args:List Value)(pre:List HP)(post:Value→List HP→Prop):Prop:=
 ∀(w:World) (Fs:List HP),bd (pre++Fs) w→
  ∃v hs w',(callFunc f args.toArray).run P w= .ok (.value v) w'∧post v hs∧bd (hs++Fs) w'∧fQ w w'
structure Ext where
 b:List Nat
 v:List V1
 i:List Int
 a:List (Nat→Int)
 bo:List Bool
 p:List HP
 r:List Loop
def xQ{α:Type}:Nat→(List α→Prop)→Prop
 | 0,f=>f []
 | n+1,f=> ∀x,xQ n fun xs=>f (x::xs)
def LY{α:Type}:Nat→(List α→Prop)→Prop
 | 0,f=>f []
 | n+1,f=> ∃x,LY n fun xs=>f (x::xs)
def xR(c:cz)(f:Ext→Prop):Prop:=
 xQ c.b fun b=>xQ c.v fun v=>xQ c.i fun i=>xQ c.a fun a=>xQ c.bo fun bo=>xQ c.p fun p=>xQ c.r fun r=>f ⟨b,v,i,a,bo,p,r⟩
def vE(c:cz)(f:Ext→Prop):Prop:=
 LY c.b fun b=>LY c.v fun v=>LY c.i fun i=>LY c.a fun a=>LY c.bo fun bo=>LY c.p fun p=>LY c.r fun r=>f ⟨b,v,i,a,bo,p,r⟩
def Env.ext(ρ:Env)(x:Ext):Env:=
 {ρ with bv:=ρ.bv++x.b,vv:=ρ.vv++x.v,iv:=ρ.iv++x.i,av:=ρ.av++x.a,bo:=ρ.bo++x.bo,pv:=ρ.pv++x.p,lr:=ρ.lr++x.r}
def Env.take(ρ:Env)(c:cz):Env:=
 {ρ with bv:=ρ.bv.take c.b,vv:=ρ.vv.take c.v,iv:=ρ.iv.take c.i,av:=ρ.av.take c.a,bo:=ρ.bo.take c.bo,pv:=ρ.pv.take c.p,lr:=ρ.lr.take c.r}
def Env.mz(ρ:Env)(b:Nat):Env:={ρ with bv:=ρ.bv++[b]}
def Env.gb(ρ:Env)(v:V1):Env:={ρ with vv:=ρ.vv++[v]}
def eu.holds(ρ bC:Env):eu→Prop
 | .e x y=>x.den ρ 0=y.den bC 0
 | .a n x y=> ∀j,j<(n.den ρ 0).toNat→x.den ρ j=y.den bC j
 | .b x y=>x.den ρ=y.den bC
 | .af x y=>x.den ρ=y.den bC
 | .v i j=>ρ.vv.getD i V1.nil=bC.vv.getD j V1.nil
 | .p i j=>ρ.pv.getD i HP.emp=bC.pv.getD j HP.emp
 | .bl i j=>ρ.bv.getD i 0=bC.bv.getD j 0
 | .rc i j=>ρ.lr.getD i g_=bC.lr.getD j g_
def Rb(ρ bC:Env):List eu→Prop→Prop
 | [],q=>q
 | x::r,q=>x.holds ρ bC∧Rb ρ bC r q
structure LC where
 I:Ext→Prop
 μ:Ext→Nat
 cur:Ext
def LC.none:LC:=⟨fun _=>False,fun _=>0,⟨[],[],[],[],[],[],[]⟩⟩
def uz(L:Nat→LC)(i:Nat)(l:LC):Nat→LC:=fun j=>if j=i then l else L j
def aM(b r:Prop):Prop:=b∧(b→r)
def aU(c t e:Prop):Prop:=(c→t)∧(¬c→e)
def VC(P:Program)(ao:Value→List HP→Prop):F→Env→(Nat→LC)→Prop
 | .fail _ _,_,_=>False
 | .vc b r,ρ,L=>aM (b.prop ρ) (VC P ao r ρ L)
 | .fork c t e,ρ,L=>aU (c.prop ρ) (VC P ao t ρ L) (VC P ao e ρ L)
 | .ret v hp,ρ,_=>ao (v.val ρ) (hp.map (Ck.den ρ))
 | .wD r,ρ,L=> ∀b,VC P ao r (ρ.mz b) L
 | .xS r,ρ,L=> ∀v,VC P ao r (ρ.gb v) L
 | .uA true r,ρ,L=> ∀d l c,VC P ao r (ρ.ext ⟨[d,l],[],[],[],[],[],[c]⟩) L
 | .uA false r,ρ,L=> ∀l c,VC P ao r (ρ.ext ⟨[l],[],[],[],[],[],[c]⟩) L
 | .cg r,ρ,L=>VC P ao r (ρ.gb ⟨.slice none 0 0,rfl⟩) L
 | .call f args use inc v new r,ρ,L=>
  ∃post,aq P f (SV.bK ρ args) (use.map (Ck.den ρ)) post∧
   ∀x hs,post x hs→vE inc fun e=>x=v.val (ρ.ext e)∧hs=new.map (Ck.den (ρ.ext e))∧VC P ao r (ρ.ext e) L
 | .ext f args use inc v new r,ρ,L=>
  ∃post,Si P f (SV.bK ρ args) (use.map (Ck.den ρ)) post∧
   ∀x hs,post x hs→vE inc fun e=>x=v.val (ρ.ext e)∧hs=new.map (Ck.den (ρ.ext e))∧VC P ao r (ρ.ext e) L
 | .loop up inc eqs body,ρ,L=>
  ∃(I:Ext→Prop) (μ:Ext→Nat),(vE inc fun e=>Rb (ρ.ext e) ρ eqs (I e))∧
   xR inc fun e=>I e→VC P ao body (ρ.ext e) (uz L up ⟨I,μ,e⟩)
 | .back up c0 inc eqs,ρ,L=>
  vE inc fun e=>Rb ((ρ.take c0).ext e) ρ eqs ((L up).I e∧(L up).μ e<(L up).μ (L up).cur)
 | .join up inc body r,ρ,L=>
  ∃I:Ext→Prop,VC P ao body ρ (uz L up ⟨I,fun _=>0,⟨[],[],[],[],[],[],[]⟩⟩)∧xR inc fun e=>I e→VC P ao r (ρ.ext e) L
 | .meet up c0 inc eqs,ρ,L=>
  vE inc fun e=>Rb ((ρ.take c0).ext e) ρ eqs ((L up).I e)
 | .both a b,ρ,L=>VC P ao a ρ L∧VC P ao b ρ L
 | .ghost use inc eqs new r,ρ,L=>
  ∃I:Ext→Prop,(∀w Fs,bd (use.map (Ck.den ρ)++Fs) w→vE inc fun e=>Rb (ρ.ext e) ρ eqs (bd (new.map (Ck.den (ρ.ext e))++Fs) w∧I e))∧
   xR inc fun e=>I e→VC P ao r (ρ.ext e) L
def aj(f:Nat→Int)(i:Nat)(v:Int):Nat→Int:=fun j=>if j=i then v else f j
def aP(f:Nat→Int)(o:Nat):Nat→Int:=fun j=>f (o+j)
def aW(f:Nat→Int)(o n:Nat)(g:Nat→Int):Nat→Int:=fun j=>if o≤j∧j<o+n then g (j - o)else f j
section
variable (ρ:Env)
theorem bH(a b:E):(dC a b).den ρ 0=a.den ρ 0+b.den ρ 0:=by
 unfold dC;split<;>simp_all [E.den,ax]
theorem eE(a b:E):(rV a b).den ρ 0=a.den ρ 0 - b.den ρ 0:=by
 unfold rV;split<;>simp_all [E.den,ax]
theorem fR(a b:E):(pI a b).den ρ 0=a.den ρ 0*b.den ρ 0:=by
 unfold pI;split<;>simp_all [E.den,ax]
theorem dQ(a o:E)(j:Nat):(jI a o).den ρ j=a.den ρ ((o.den ρ 0).toNat+j):=by
 unfold jI;split<;>simp_all [E.den]
theorem xT(v:E)(j:Nat):(BG v).den ρ j=v.den ρ 0:=by
 unfold BG;split
 ·rename_i h;cases v<;>first | rfl | (simp [E.Uv]at h;done)
 ·simp [E.den]
theorem ej(a i:E)(j:Nat):(gv a i).den ρ j=a.den ρ (i.den ρ 0).toNat:=by
 induction a generalizing i j with
 | lit n=>unfold gv;rfl
 | cV b i' v rU _ Xa=>
  unfold gv;split
  ·rename_i h;cases h
  ·rename_i h;cases h
  ·rename_i jj ii h;cases h;split
   ·rename_i he;simp only [E.den,he,if_true];exact xT ρ v j
   ·rename_i he;rw [rU];exact(if_neg he).symm
  ·rename_i h;cases h
  ·rename_i h;cases h
  ·rename_i heq _;cases heq;split
   ·rename_i he;subst he;simp only [E.den,if_true];exact xT ρ _ j
   ·rfl
  ·rfl
 | shift b o rU _=>
  unfold gv;split
  ·rename_i h;cases h
  ·rename_i h;cases h
  ·rename_i h;cases h
  ·rename_i h;cases h;rw [rU];simp only [E.den,Int.toNat_natCast]
  ·rename_i h;cases h
  ·rename_i heq _;cases heq
  ·rfl
 | BD b o n x rU _ _ Ux=>
  unfold gv;split
  ·rename_i h;cases h
  ·rename_i h;cases h
  ·rename_i h;cases h
  ·rename_i h;cases h
  ·rename_i h;cases h;split
   ·rename_i hc;rw [Ux];simp only [E.den,Int.toNat_natCast];exact(if_pos hc).symm
   ·rename_i hc;rw [rU];exact(if_neg hc).symm
  ·rename_i heq _;cases heq
  ·rfl
 | var n=>unfold gv;rfl
 | aw n=>unfold gv;rfl
 | iX a b _ _=>unfold gv;rfl
 | bin o k a b _ _=>unfold gv;rfl
 | wrap k a _=>unfold gv;rfl
 | kc n a _=>unfold gv;rfl
 | s5 b=>unfold gv;rfl
 | Pl a i _ _=>unfold gv;rfl
 | pF a i s _ _ _=>unfold gv;rfl
 | Q6 s _=>unfold gv;rfl
 | pk l=>
  unfold gv;split
  ·rename_i h;cases h
  ·rename_i h;cases h;rfl
  ·rename_i h;cases h
  ·rename_i h;cases h
  ·rename_i h;cases h
  ·rename_i h _;cases h
  ·rfl
theorem cM(n:Int)(j:Nat):(E.lit n).den ρ j=n:=rfl
theorem s_(a i v:E)(j:Nat):(E.cV a i v).den ρ j=if j=(i.den ρ 0).toNat then v.den ρ 0 else a.den ρ j:=rfl
theorem H3(a o n b:E)(j:Nat):(E.BD a o n b).den ρ j=if(o.den ρ 0).toNat≤j∧j<(o.den ρ 0).toNat+(n.den ρ 0).toNat then b.den ρ (j - (o.den ρ 0).toNat)else a.den ρ j:=rfl
theorem jb(a i s:E):(E.pF a i s).den ρ=C7 (a.den ρ) (i.den ρ 0).toNat (s.den ρ):=rfl
theorem H4(a i:E):(E.Pl a i).den ρ=po (a.den ρ) (i.den ρ 0).toNat:=rfl
theorem Jt(a i:E)(k:Nat):(BH a i).den ρ k=po (a.den ρ) (i.den ρ 0).toNat k:=by
 induction a generalizing k with
 | pF a jj s lF ihj Xb=>
  rw [jb,iY];unfold BH;split
  ·rename_i heq;cases heq
  ·rename_i heq;cases heq;split
   ·rename_i he;rw [cM,cM,if_pos he]
   ·rename_i he;rw [lF,cM,cM,if_neg he]
  ·rename_i heq _;cases heq;split
   ·rename_i he;subst he;rw [if_pos rfl]
   ·rw [H4,jb,iY]
  ·rw [H4,jb,iY]
 | lit n=>unfold BH;rfl
 | _=>unfold BH;rfl
theorem xU(a i:E):(BH a i).den ρ=po (a.den ρ) (i.den ρ 0).toNat:=funext (Jt ρ a i)
theorem lH(l:List UInt8):(iD l).den ρ=Jn l:=by
 funext j;cases j with
 | zero=>simp [iD,E.den,Jn]
 | succ j=>
  simp only [iD,E.den,Jn,aeg];by_cases h:j<l.length
  ·simp [List.getD,ad9 h]
  ·simp [List.getD,aeh (Nat.le_of_not_lt h)]
theorem Gf(f:Nat→Int){j:Nat}(h:j<(f 0).toNat):(dW f)[j]? =some (UInt8.ofNat (f (j+1)).toNat):=by
 simp [dW,List.getElem?_range h]
theorem Gg(l:List UInt8)(j:Nat):(E.pk (l.map fun b=>((b.toNat:Nat):Int))).den ρ j=((l.getD j 0).toNat:Nat):=by
 simp only [E.den];by_cases h:j<l.length
 ·simp [List.getD,ad9 h]
 ·simp [List.getD,aeh (Nat.le_of_not_lt h)]
theorem Dx(s:E):(Ju s).den ρ=Jo (s.den ρ):=by
 unfold Ju;split
 ·rename_i n l;split
  ·rename_i h;funext j;simp only [E.den,Jo,aeg];by_cases hj:j<l.length
   ·have:=adI.1 h l[j] (List.getElem_mem hj);simp only [ai,decide_eq_true_eq]at this;simp only [List.getD,ad9 hj,aes];have h2:(UInt8.ofNat l[j].toNat).toNat=l[j].toNat:=by
     rw [UInt8.toNat_ofNat'];omega
    rw [h2];omega
   ·simp [List.getD,aeh (Nat.le_of_not_lt hj)]
  ·rfl
 ·rfl
theorem AM(s:E):(∃l,mkStr s= .str l∧l=dW (s.den ρ))∨mkStr s= .kE s:=by
 unfold mkStr;split
 ·rename_i n l;split
  ·rename_i h;simp only [ai,beq_iff_eq]at h;obtain⟨rfl,h⟩:=h;left;refine⟨_,rfl,?_⟩;apply List.ext_getElem?;intro j;by_cases hj:j<l.length
   ·rw [Gf _ (by simpa [E.den] using hj),List.getElem?_map,ad9 hj];simp [E.den,List.getD,ad9 hj]
   ·rw [aeh (by simp;omega),aeh (by rw [cF];simp [E.den];omega)]
  ·exact .inr rfl
 ·exact .inr rfl
theorem Dy(s:E):SV.cells ρ (mkStr s)=[.string ⟨(dW (s.den ρ)).toArray⟩]:=by
 rcases AM ρ s with⟨l,h,rfl⟩ | h<;>rw [h]<;>rfl
theorem nI(s:E):(mkStr s).val ρ= .string ⟨(dW (s.den ρ)).toArray⟩:=by
 rcases AM ρ s with⟨l,h,rfl⟩ | h<;>rw [h]<;>rfl
theorem fS(s:E):(j9 s).den ρ 0=s.den ρ 0:=by rw [j9,ej];rfl
theorem Jv(s:E):((dW (s.den ρ)).length:Int)=max 0 ((j9 s).den ρ 0):=by rw [cF,fS];omega
theorem rW{v:SV}{s:E}(h:pJ v=some s):v.val ρ= .string ⟨(dW (s.den ρ)).toArray⟩:=by
 unfold pJ at h;split at h
 ·cases h;rw [lH,nF];rfl
 ·cases h;rfl
 ·cases h
theorem jJ(f:Nat→Int){j:Nat}(h:j<(f 0).toNat):(dW f)[j]? =some (UInt8.ofNat (f (j+1)).toNat):=by
 simp [dW,List.getElem?_range h]
theorem xV(a n:E):dW ((rX a n).den ρ)=(aec (n.den ρ 0).toNat).map fun j=>UInt8.ofNat (a.den ρ j).toNat:=by
 unfold dW;have h0:(rX a n).den ρ 0=n.den ρ 0:=by simp [rX,E.den]
 rw [h0];refine List.map_congr_left fun j hj=>?_
 have hj:=adU.1 hj;have:(rX a n).den ρ (j+1)=a.den ρ j:=by
  rw [rX,s_,cM,if_neg (by simp),H3,cM,if_pos (by simp;omega)];congr 1
 rw [this]
theorem Jw(s lo hi:E)(hl:0≤lo.den ρ 0)(hlh:lo.den ρ 0≤hi.den ρ 0)(hh:hi.den ρ 0≤s.den ρ 0):
  dW ((AN s lo hi).den ρ)=((dW (s.den ρ)).take (hi.den ρ 0).toNat).drop (lo.den ρ 0).toNat:=by
 have h0:(AN s lo hi).den ρ 0=hi.den ρ 0 - lo.den ρ 0:=by
  unfold AN;split<;>simp [E.den,eE]
 have hj: ∀j,(AN s lo hi).den ρ (j+1)=s.den ρ ((lo.den ρ 0).toNat+j+1):=by
  intro j;unfold AN;split
  ·rw [s_,cM,if_neg (by simp),dQ,s_,cM,if_neg (by simp)];congr 1
  ·rw [s_,cM,if_neg (by simp),dQ];congr 1
 apply List.ext_getElem?;intro j;rw [List.getElem?_drop,List.getElem?_take];by_cases hc:j<(hi.den ρ 0 - lo.den ρ 0).toNat
 ·rw [jJ _ (by rw [h0];exact hc),if_pos (by omega),jJ _ (by omega),hj]
 ·rw [aeh (by rw [cF,h0];omega),if_neg (by omega)]
theorem LZ(s t:E)(hs:0≤s.den ρ 0)(ht:0≤t.den ρ 0):dW ((Jx s t).den ρ)=dW (s.den ρ)++dW (t.den ρ):=by
 have h0:(Jx s t).den ρ 0=s.den ρ 0+t.den ρ 0:=by simp [Jx,E.den,bH,fS]
 have hj: ∀j,(Jx s t).den ρ (j+1)=if(s.den ρ 0).toNat≤j∧j<(s.den ρ 0).toNat+(t.den ρ 0).toNat then t.den ρ (j - (s.den ρ 0).toNat+1)else s.den ρ (j+1):=by
  intro j;rw [Jx,s_,cM,if_neg (by simp),H3];simp only [bH,fS,cM,dQ];have e:(s.den ρ 0+1).toNat=(s.den ρ 0).toNat+1:=by omega
  rw [e];by_cases hc:(s.den ρ 0).toNat≤j∧j<(s.den ρ 0).toNat+(t.den ρ 0).toNat
  ·rw [if_pos (by omega),if_pos hc];congr 1;simp only [show(1:Int).toNat=1 from rfl];omega
  ·rw [if_neg (by omega),if_neg hc]
 apply List.ext_getElem?;intro j;by_cases hc:j<(s.den ρ 0+t.den ρ 0).toNat
 ·rw [jJ _ (by rw [h0];exact hc),hj];by_cases Xc:j<(s.den ρ 0).toNat
  ·rw [if_neg (by omega),adO (by rw [cF];exact Xc),jJ _ Xc]
  ·rw [if_pos (by omega),adQ (by rw [cF];omega),cF,jJ _ (by omega)]
 ·rw [aeh (by rw [cF,h0];omega),aeh (by rw [List.length_append,cF,cF];omega)]
theorem Dz(a b:E):(Po a b).den ρ=(dW (a.den ρ)==dW (b.den ρ)):=by
 unfold Po;by_cases h:a=b
 ·rw [if_pos h,h];simp [BE.den]
 ·rw [if_neg h];rfl
theorem lI(o:H2)(k:IntKind)(a b:E):(uB o k a b).den ρ 0=ax o k (a.den ρ 0) (b.den ρ 0):=by
 unfold uB;split<;>rfl
theorem Jy(k:IntKind)(a:E):(L0 k a).den ρ 0=k.wrap (a.den ρ 0):=by
 unfold L0;split<;>rfl
theorem wX(a:E):(Pp a).den ρ= !(a.den ρ 0==0):=by
 unfold Pp;split<;>rfl
theorem qB(a b:E):(Sj a b).den ρ=(a.den ρ 0==b.den ρ 0):=by
 unfold Sj;split
 ·rfl
 ·split<;>simp_all [BE.den]
theorem tb(a b:E):(Gh a b).den ρ=decide (a.den ρ 0<b.den ρ 0):=by
 unfold Gh;split<;>rfl
theorem gP(a b:E):(wF a b).den ρ=decide (a.den ρ 0≤b.den ρ 0):=by
 unfold wF;split<;>rfl
theorem dh(b:BE):(iE b).den ρ= !b.den ρ:=by
 unfold iE;split<;>simp [BE.den]
theorem nJ(a b:BE):(z4 a b).den ρ=(a.den ρ&&b.den ρ):=by
 unfold z4;split<;>simp [BE.den]
theorem H5(a b:BE):(Xd a b).den ρ=(a.den ρ||b.den ρ):=by
 unfold Xd;split<;>simp [BE.den]
theorem nK(c a b:BE):(DA c a b).den ρ=if c.den ρ then a.den ρ else b.den ρ:=by
 unfold DA;split
 ·simp [BE.den]
 ·simp [BE.den]
 ·rw [H5];simp [BE.den]
 ·rw [nJ];simp [BE.den]
 ·rfl
theorem aE(k:IntKind)(n:Nat)(f:Nat→Int):(al k n f).length=n:=by simp [al]
theorem bx(k:IntKind)(n:Nat)(f:Nat→Int)(j:Nat):(al k n f)[j]? =if j<n then some (.int k (f j))else none:=by
 unfold al;rw [List.getElem?_map];by_cases h:j<n
 ·rw [List.getElem?_range h,if_pos h];rfl
 ·rw [aeh (by simp;omega),if_neg h];rfl
theorem cG(k:IntKind)(n:Nat){f g:Nat→Int}(h: ∀j,j<n→f j=g j):al k n f=al k n g:=by
 unfold al;exact List.map_congr_left fun j hj=>by rw [h j (adU.1 hj)]
theorem nf(k:IntKind)(n m:Nat)(f:Nat→Int)(h:m≤n):(al k n f).take m=al k m f:=by
 unfold al;rw [←List.map_take,List.take_range,Nat.min_eq_left h]
theorem z5(k:IntKind)(n m:Nat)(f:Nat→Int):(al k n f).drop m=al k (n - m) fun j=>f (m+j):=by
 apply List.ext_getElem?;intro j;rw [List.getElem?_drop,bx,bx];by_cases h:m+j<n
 ·rw [if_pos h,if_pos (by omega)]
 ·rw [if_neg h,if_neg (by omega)]
mutual
theorem tc: ∀v:SV,(SV.cells ρ v).length=v.width
 | .agg cs=>by simp only [SV.cells,SV.width];exact bp cs
 | .aX k n a=>by simp [SV.cells,SV.width,aE]
 | .int .. =>rfl
 | .bool _=>rfl
 | .dT=>rfl
 | .bT=>rfl
 | .oh=>rfl
 | .s6=>rfl
 | .hU=>rfl
 | .undef=>rfl
 | .ptr .. =>rfl
 | .pq .. =>rfl
 | .pv .. =>rfl
 | .sl .. =>rfl
 | .vv _=>rfl
 | .str _=>rfl
 | .fn .. =>rfl
 | .j7 _=>rfl
 | .opt .. =>rfl
 | .C8 .. =>rfl
 | .Jp _=>rfl
 | .mp _=>rfl
 | .iC .. =>rfl
 | .cO _=>rfl
 | .kE _=>rfl
 | .Ge .. =>rfl
 | .LV .. =>rfl
 | .Lv _=>rfl
theorem bp: ∀l:List SV,(SV.ar ρ l).length=SV.pK l
 | []=>rfl
 | v::r=>by simp only [SV.ar,SV.pK,List.length_append];rw [tc v,bp r]
end
theorem ib(a b:List SV):SV.ar ρ (a++b)=SV.ar ρ a++SV.ar ρ b:=by
 induction a with
 | nil=>rfl
 | cons v r ih=>simp only [List.cons_append,SV.ar,ih,List.append_assoc]
def SV.plain:SV→Bool
 | .agg _=>false
 | .aX .. =>false
 | _=>true
theorem gx{v:SV}(h:v.plain=true):SV.cells ρ v=[v.val ρ]:=by
 cases v<;>simp_all [SV.plain,SV.cells,SV.val]
theorem z6(d:Nat){v:SV}(h:v.plain=true)(r:List SV):fe (d+1) (v::r)=fe d r:=by
 cases v<;>simp_all [SV.plain,fe]
theorem z7(d:Nat){v:SV}(h:v.plain=true)(r:List SV):gQ (d+1) (v::r)=(gQ d r).map (v:: ·):=by
 cases v<;>simp_all [SV.plain,gQ]
theorem dY: ∀(cs:List SV) (d:Nat) (r:List SV),fe d cs=some r→SV.ar ρ r=(SV.ar ρ cs).drop d
 | cs,0,r,h=>by simp [fe]at h;subst h;rfl
 | [],d+1,r,h=>by simp [fe]at h;subst h;simp [SV.ar]
 | v::cs,d+1,r,h=>by
  by_cases hp:v.plain=true
  ·rw [z6 d hp]at h;rw [dY cs d r h];simp [SV.ar,gx ρ hp]
  ·cases v with
   | agg x=>simp [fe]at h
   | aX k n a=>
    simp only [fe]at h;simp only [SV.ar,SV.cells];split at h
    ·rename_i cK;simp only [adK]at h;subst h;simp only [SV.ar,SV.cells];rw [List.drop_append_of_le_length (by rw [aE];omega),z5];congr 1;apply cG;intro j _;rw [dQ];rfl
    ·rename_i wG;rw [dY cs _ r h,List.drop_append,aE,List.drop_of_length_le (l:=al k n _) (by rw [aE];omega)];rfl
   | _=>simp [SV.plain]at hp
theorem ic: ∀(cs:List SV) (d:Nat) (r:List SV),gQ d cs=some r→SV.ar ρ r=(SV.ar ρ cs).take d
 | cs,0,r,h=>by simp [gQ]at h;subst h;simp [SV.ar]
 | [],d+1,r,h=>by simp [gQ]at h;subst h;simp [SV.ar]
 | v::cs,d+1,r,h=>by
  by_cases hp:v.plain=true
  ·rw [z7 d hp,adM]at h;obtain⟨x,hx,rfl⟩:=h;simp [SV.ar,gx ρ hp,ic cs d x hx]
  ·cases v with
   | agg x=>simp [gQ]at h
   | aX k n a=>
    simp only [gQ]at h;simp only [SV.ar,SV.cells];split at h
    ·rename_i hle;simp only [adK]at h;subst h;simp only [SV.ar,SV.cells,adW];rw [List.take_append_of_le_length (by rw [aE];omega),nf _ _ _ _ hle]
    ·rename_i XS;rw [adM]at h;obtain⟨x,hx,rfl⟩:=h;simp only [SV.ar,SV.cells];rw [ic cs _ x hx,List.take_append,aE,List.take_of_length_le (l:=al k n _) (by rw [aE];omega)]
   | _=>simp [SV.plain]at hp
theorem eF{c size:Nat}{cs r:List SV}(h:jc c size cs=some r):
  SV.ar ρ r=((SV.ar ρ cs).drop c).take size∧c+size≤(SV.ar ρ cs).length:=by
 unfold jc at h;split at h
 ·rename_i hle;split at h
  ·rename_i x hx;exact⟨by rw [ic ρ _ _ _ h,dY ρ _ _ _ hx],by rw [bp];exact hle⟩
  ·cases h
 ·cases h
theorem ot{c:Nat}{vs cs r:List SV}(h:xW c vs cs=some r):
  SV.ar ρ r=(SV.ar ρ cs).take c++SV.ar ρ vs++(SV.ar ρ cs).drop (c+(SV.ar ρ vs).length)∧
   c+(SV.ar ρ vs).length≤(SV.ar ρ cs).length:=by
 unfold xW at h;split at h
 ·rename_i hle;split at h
  ·rename_i x y hx hy;simp only [adK]at h;subst h;rw [ib,ib,ic ρ _ _ _ hx,dY ρ _ _ _ hy,bp,bp];exact⟨rfl,hle⟩
  ·cases h
 ·cases h
theorem mH{agg:Bool}{cs:List SV}{v:SV}(h:iz agg cs=some v):
  (agg=true→v.val ρ= .agg (SV.ar ρ cs).toArray)∧(agg=false→SV.ar ρ cs=[v.val ρ]):=by
 unfold iz at h;split at h
 ·rename_i ha;simp only [adK]at h;subst h;simp [ha,SV.val]
 ·rename_i ha;refine⟨fun hc=>absurd hc ha,fun _=>?_⟩;split at h
  ·simp only [adK]at h;subst h;simp [SV.ar,SV.cells,SV.val,al,ej,E.den]
  ·cases h
  ·cases h
  ·rename_i v' h1 h2 h3;simp only [adK]at h;subst h;have hp:v'.plain=true:=by
    cases v' with
    | agg cs=>exact absurd rfl (h3 cs)
    | aX k n a=>exact absurd rfl (h2 k n a)
    | _=>rfl
   simp [SV.ar,gx ρ hp]
  ·cases h
structure Env.Ok (ρ:Env):Prop where
theorem Env.ok(ρ:Env):ρ.Ok:=⟨⟩
theorem Env.Ok.vvD{ρ:Env}(_:ρ.Ok)(i:Nat):(ρ.vv.getD i V1.nil).v.oneCell'=true:=(ρ.vv.getD i V1.nil).one
theorem Env.Ok.vaD{ρ:Env}(_:ρ.Ok)(i j:Nat):((ρ.va.getD i fun _=>V1.nil) j).v.oneCell'=true:=((ρ.va.getD i fun _=>V1.nil) j).one
theorem BI{v:Value}(h:v.oneCell'=true):v.cells= #[v]:=by
 cases v<;>simp_all [Value.oneCell',Value.cells]
theorem H6{v:SV}(h:v.one=true)(hs:v.plain=true)(ng:ρ.Ok):(v.val ρ).oneCell'=true:=by
 cases v with
 | vv i=>simp only [SV.val];exact ng.vvD i
 | C8 a i=>simp only [SV.val];exact ng.vaD a _
 | cO e=>simp only [SV.val];exact C9 _
 | Lv e=>simp only [SV.val];exact s7 _
 | pv v i s c=>simp only [SV.val,eC];split<;>rfl
 | iC v cs s=>simp only [SV.val];exact nc _ _ _ _ (ρ.vv.getD v V1.nil).one
 | Ge c v=>simp only [SV.val];split<;>first | rfl | (unfold s8;split<;>rfl)
 | _=>first | rfl | simp_all [SV.one,SV.plain]
theorem Jz{v:SV}(h:v.one=true)(ng:ρ.Ok): ∀u∈SV.cells ρ v,u.oneCell'=true:=by
 by_cases hs:v.plain=true
 ·rw [gx ρ hs];intro u hu;rw [aei]at hu;subst hu;exact H6 ρ h hs ng
 ·cases v with
  | agg x=>simp [SV.one]at h
  | aX k n a=>
   intro u hu;simp only [SV.cells,al,aeu]at hu;obtain⟨j,_,rfl⟩:=hu;rfl
  | _=>simp [SV.plain]at hs
theorem lJ{l:List SV}(h:l.all SV.one=true)(ng:ρ.Ok): ∀u∈SV.ar ρ l,u.oneCell'=true:=by
 induction l with
 | nil=>intro u hu;cases hu
 | cons v r ih=>
  rw [List.all_cons,ai]at h;intro u hu;simp only [SV.ar,aea]at hu;exact hu.elim (Jz ρ h.1 ng u) (ih h.2 u)
theorem ig{v:SV}{cs:List SV}(h:er v=some cs)(ng:ρ.Ok):
  (v.val ρ).cells.toList=SV.ar ρ cs∧∀u∈SV.ar ρ cs,u.oneCell'=true:=by
 by_cases hs:v.plain=true
 ·have h1:v.one=true∧cs=[v]:=by
   cases v<;>simp_all [er,SV.plain]
  obtain⟨h1,rfl⟩:=h1;have h2:=H6 ρ h1 hs ng;refine⟨?_,lJ ρ (by simp [h1]) ng⟩;rw [BI h2];simp [SV.ar,gx ρ hs]
 ·cases v with
  | agg x=>
   simp only [er]at h;split at h
   ·rename_i ha;simp only [adK]at h;subst h;exact⟨by simp [SV.val,Value.cells],lJ ρ ha ng⟩
   ·cases h
  | aX k n a=>
   simp only [er,SV.one,if_true,adK]at h;subst h;exact⟨by simp [SV.val,Value.cells,SV.ar,SV.cells],lJ ρ (by simp [SV.one]) ng⟩
  | _=>simp [SV.plain]at hs
theorem z_(v:Value)(x:SV)(h:ofValue v=some x)(hn: ∀l,v≠ .agg l):x.plain=true:=by
 unfold ofValue at h;split at h<;>simp_all<;>(subst h;rfl)
mutual
theorem pM: ∀(v:Value) (x:SV),ofValue v=some x→x.val ρ=v
 | .int k n,x,h=>by simp [ofValue]at h;subst h;rfl
 | .bool b,x,h=>by simp [ofValue]at h;subst h;rfl
 | .pointer none,x,h=>by simp [ofValue]at h;subst h;rfl
 | .pointer (some _),x,h=>by simp [ofValue]at h
 | .slice none 0 0,x,h=>by simp [ofValue]at h;subst h;rfl
 | .slice none (_+1) _,x,h=>by simp [ofValue]at h
 | .slice none 0 (_+1),x,h=>by simp [ofValue]at h
 | .slice (some _) _ _,x,h=>by simp [ofValue]at h
 | .nilFunc,x,h=>by simp [ofValue]at h;subst h;rfl
 | .nilIface,x,h=>by simp [ofValue]at h;subst h;rfl
 | .map none,x,h=>by simp [ofValue]at h;subst h;rfl
 | .map (some _),x,h=>by simp [ofValue]at h
 | .string ⟨⟨l⟩⟩,x,h=>by simp [ofValue]at h;subst h;rfl
 | .tuple ⟨[]⟩,x,h=>by simp [ofValue]at h;subst h;rfl
 | .tuple ⟨_::_⟩,x,h=>by simp [ofValue]at h
 | .agg ⟨l⟩,x,h=>by
  simp only [ofValue,adM]at h;obtain⟨y,hy,rfl⟩:=h;simp only [SV.val];rw [pN l y hy]
 | .float ..,x,h=>by simp [ofValue]at h
 | .complex ..,x,h=>by simp [ofValue]at h
 | .chan _,x,h=>by simp [ofValue]at h
 | .func ..,x,h=>by simp [ofValue]at h
 | .iface ..,x,h=>by simp [ofValue]at h
theorem pN: ∀(l:List Value) (xs:List SV),ofValues l=some xs→SV.ar ρ xs=l
 | [],xs,h=>by simp [ofValues]at h;subst h;rfl
 | v::r,xs,h=>by
  unfold ofValues at h;split at h
  ·rename_i heq;cases heq
  ·cases h
  ·rename_i v' r' hn heq;cases heq;split at h
   ·rename_i x xs' hx Gi;simp only [adK]at h;subst h;have hp:=z_ v x hx (fun l e=>hn l e);simp only [SV.ar,gx ρ hp,pM v x hx,pN r xs' Gi];rfl
   ·cases h
end
end
def gR:Option TypeDesc→TK→Bool
 | some (.int k),.int k'=>k==k'
 | some .bool,.bool=>true
 | some .string,.str=>true
 | some (.pointer e),.ptr e'=>e==e'
 | some (.slice e),.slice e'=>e==e'
 | some (.array n e),.arr n' e'=>n==n'&&e==e'
 | some (.struct fs),.struct l=>fs.toList.map (fun f=>(f.type,f.offset))==l
 | some (.struct fs),.H7 l _=>fs.toList.map (fun f=>(f.type,f.offset))==l
 | some (.map k e),.map k' e'=>k==k'&&e==e'
 | some (.func ..),.func=>true
 | some (.interface _),.iface=>true
 | _,_=>false
def isInt(k:IntKind)(m:Int):Value→Bool
 | .int k' n=>k==k'&&n==m
 | _=>false
def L4(x:SV)(vs:List Value):Option (List Value):=
 match x with
 | .aX k n (.lit m)=>if n≤vs.length∧(vs.take n).all (isInt k m)=true then some (vs.drop n)else none
 | x=>match vs with
  | v::r=>match ofValue v with
   | some y=>match x,y with
    | .int k (.lit m),.int k' (.lit m')=>if k=k'∧m=m' then some r else none
    | .bool (.lit b),.bool (.lit b')=>if b=b' then some r else none
    | .dT,.dT=>some r
    | .bT,.bT=>some r
    | .oh,.oh=>some r
    | .s6,.s6=>some r
    | .hU,.hU=>some r
    | .str l,.str l'=>if l=l' then some r else none
    | _,_=>none
   | none=>none
  | []=>none
def DB:List Value→List SV→Bool
 | vs,[]=>vs.isEmpty
 | vs,x::r=>match L4 x vs with
  | some FJ=>DB FJ r
  | none=>false
theorem L5{k:IntKind}{m:Int}{v:Value}(h:isInt k m v=true):v= .int k m:=by
 cases v<;>simp_all [isInt]
theorem DC(ρ:Env){x:SV}{vs FJ:List Value}(h:L4 x vs=some FJ):vs=SV.cells ρ x++FJ:=by
 unfold L4 at h;split at h
 ·rename_i k n m;split at h
  ·rename_i hc;simp only [adK]at h;subst h;have:al k n (E.den ρ (.lit m))=vs.take n:=by
    apply List.ext_getElem?;intro j;rw [bx];by_cases hj:j<n
    ·rw [if_pos hj,List.getElem?_take_of_lt hj];have cK:j<vs.length:=by omega
     rw [ad9 cK];have:=adI.1 hc.2 vs[j] (by
      rw [←List.getElem_take (xs:=vs) (j:=n) (h:=by simp;omega)];exact List.getElem_mem _)
     rw [L5 this];rfl
    ·rw [if_neg hj,aeh (by simp;omega)]
   simp only [SV.cells,this,List.take_append_drop]
  ·cases h
 ·split at h
  ·rename_i v r;split at h
   ·rename_i y hy;have hv:=pM ρ v y hy;subst hv;split at h
    all_goals first
     | (simp only [adK]at h;subst h;rfl)
     | (
       split at h
       ·rename_i hc;simp only [adK]at h;subst h
        first | (obtain⟨rfl,rfl⟩:=hc;rfl) | (subst hc;rfl)
       ·cases h)
     | cases h
   ·cases h
  ·cases h
theorem vF(ρ:Env): ∀(l:List SV) (vs:List Value),DB vs l=true→SV.ar ρ l=vs
 | [],vs,h=>by
  cases vs with
  | nil=>rfl
  | cons v r=>simp [DB]at h
 | x::r,vs,h=>by
  unfold DB at h;split at h
  ·rename_i FJ hz;rw [DC ρ hz,SV.ar,vF ρ r FJ h]
  ·cases h
def jK(P:Program)(f:TypeId→Option (List gl)):List Field→Nat→Option (List gl)
 | [],_=>some []
 | fd::r,off=>
  if fd.name== "_" ||fd.offset != off then none else
  match f fd.type with
  | some l=>if P.cellsOf fd.type==l.length then(jK P f r (off+l.length)).map (l++ ·)else none
  | none=>none
def e9(P:Program):Nat→TypeId→Option (List gl)
 | 0,_=>none
 | d+1,t=>
  match P.underlying t with
  | some (.int k)=>some [some k]
  | some .bool=>some [none]
  | some (.array n e)=>match e9 P d e with
   | some l=>if P.cellsOf e==l.length then some (List.replicate n l).flatten else none
   | none=>none
  | some (.struct fs)=>if P.stoodInHeld t then none else jK P (e9 P d) fs.toList 0
  | _=>none
def Rc(P:Program)(ti:TI):Bool:=
 ti.lay.isEmpty||(e9 P 12 ti.t==some (j_ ti.lay)&& !P.eqGuardType P.depth ti.t)
def Sk(P:Program)(ti:TI):Bool:=
 gR (P.underlying ti.t) ti.k&&Rc P ti&&SV.pK ti.zero==ti.size&&
 match P.info? ti.t with
 | some i=>i.size==ti.size&&i.bytes==ti.bytes&&ti.zero.all SV.one&&
  match i.zero with
  | some z=>DB z.cells.toList ti.zero&&(match z with | .agg _=>ti.k.agg | _=> !ti.k.agg)
  | none=>false
 | none=>false
def bw(P:Program)(T:List TI):Bool:=T.all (Sk P)
structure kb (P:Program) (ti:TI):Prop where
 kind:gR (P.underlying ti.t) ti.k=true
 lay:ti.lay.isEmpty=true∨(e9 P 12 ti.t=some (j_ ti.lay)∧P.eqGuardType P.depth ti.t=false)
 one:ti.zero.all SV.one=true
 Aa:SV.pK ti.zero=ti.size
 zag: ∀i z,P.info? ti.t=some i→i.zero=some z→(match z with | .agg _=>ti.k.agg | _=> !ti.k.agg)=true
 info: ∃i,P.info? ti.t=some i∧i.size=ti.size∧i.bytes=ti.bytes∧∃z,i.zero=some z∧∀ρ,SV.ar ρ ti.zero=z.cells.toList
theorem JA{P:Program}{ti:TI}(h:Sk P ti=true):kb P ti:=by
 unfold Sk at h;rw [ai,ai,ai,beq_iff_eq]at h;obtain⟨⟨⟨hk,hl⟩,Sl⟩,h⟩:=h;have hl':ti.lay.isEmpty=true∨(e9 P 12 ti.t=some (j_ ti.lay)∧P.eqGuardType P.depth ti.t=false):=by
  unfold Rc at hl;rw [Bool.or_eq_true,ai,beq_iff_eq,Bool.not_eq_true']at hl;exact hl
 split at h
 ·rename_i i hi;simp only [ai,beq_iff_eq]at h;obtain⟨⟨⟨h1,h2⟩,h4⟩,h3⟩:=h;split at h3
  ·rename_i z hz;rw [ai]at h3;exact⟨hk,hl',h4,Sl,fun i' z' nH Gj=>by rw [hi]at nH;cases nH;rw [hz]at Gj;cases Gj;exact h3.2,i,hi,h1,h2,z,hz,fun ρ=>vF ρ _ _ h3.1⟩
  ·cases h3
 ·cases h
theorem ay{P:Program}{T:List TI}(hT:bw P T=true){t:Nat}{ti:TI}(h:aS T t=some ti):ti.t=t∧kb P ti:=by
 unfold aS at h;have hm:=List.mem_of_find?_eq_some h;have ht:=List.find?_some h;simp only [beq_iff_eq]at ht;exact⟨ht,JA (adI.1 hT ti hm)⟩
section
variable {P:Program} (w:World)
theorem kb.sizeOf{ti:TI}(h:kb P ti):(sizeOf ti.t).run P w= .ok ti.size w:=by
 obtain⟨i,hi,hs,_⟩:=h.info;simp [Go.sizeOf,typeInfo,hi,hs]
theorem kb.isAgg{ti:TI}(h:kb P ti):(isAgg ti.t).run P w= .ok ti.k.agg w:=by
 have hk:=h.kind;unfold gR at hk;split at hk<;>first | (cases hk;done) | skip
 all_goals (rename_i h1 h2;simp [Go.isAgg,run_underlying h1,h2,TK.agg])
theorem kb.zero{ti:TI}(h:kb P ti): ∃z,(zeroValue ti.t).run P w= .ok z w∧∀ρ,SV.ar ρ ti.zero=z.cells.toList:=by
 obtain⟨i,hi,_,_,z,hz,hc⟩:=h.info;exact⟨z,by simp [zeroValue,typeInfo,hi,hz],hc⟩
end
end Go.RX
