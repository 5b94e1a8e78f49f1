/- Executor. -/
import Derived.Test.YtmgbbbmdbpbeeaaRxD
open Bool renaming and_eq_true → ai
open List renaming all_eq_true → adt, getD_cons_succ → adx, getElem?_append_left → adz, getElem?_append_right → adA, getElem?_eq_getElem → ad8, getElem?_eq_none → aef, mem_range → adZ, mem_singleton → aea
open Option renaming getD_some → aee, map_eq_some_iff → adw
open Option.some renaming injEq → adv
namespace Go.RX
def ar(P:Program)(f:Nat)(args:List Value)(pre:List HP)(post:Value→List HP→Prop):Prop:=
 ∀(w:World) (Fs:List HP),bG (pre++Fs) w→
  Calls P f args.toArray w fun e w'=> ∃v hs,e= .returned v∧post v hs∧bG (hs++Fs) w'∧fE w w'
def Bj(P:Program)(f:Nat)(args:List Value)(pre:List HP)(post:Value→List HP→Prop):Prop:=
 ∀(w:World) (Fs:List HP),bG (pre++Fs) w→
  ∃v hs w',(callFunc f args.toArray).run P w= .ok (.value v) w'∧post v hs∧bG (hs++Fs) w'∧fE w w'
structure Ext where
 b:List Nat
 v:List V1
 i:List Int
 a:List (Nat→Int)
 bo:List Bool
 p:List HP
 r:List Loop
def xn{α:Type}:Nat→(List α→Prop)→Prop
 | 0,f=>f []
 | n+1,f=> ∀x,xn n fun xs=>f (x::xs)
def Lt{α:Type}:Nat→(List α→Prop)→Prop
 | 0,f=>f []
 | n+1,f=> ∃x,Lt n fun xs=>f (x::xs)
def xp(c:cG)(f:Ext→Prop):Prop:=
 xn c.b fun b=>xn c.v fun v=>xn c.i fun i=>xn c.a fun a=>xn c.bo fun bo=>xn c.p fun p=>xn c.r fun r=>f ⟨b,v,i,a,bo,p,r⟩
def uK(c:cG)(f:Ext→Prop):Prop:=
 Lt c.b fun b=>Lt c.v fun v=>Lt c.i fun i=>Lt c.a fun a=>Lt c.bo fun bo=>Lt c.p fun p=>Lt c.r fun r=>f ⟨b,v,i,a,bo,p,r⟩
def Env.ext(ρ:Env)(x:Ext):Env:=
 {ρ with bv:=ρ.bv++x.b,vv:=ρ.vv++x.v,iv:=ρ.iv++x.i,av:=ρ.av++x.a,bo:=ρ.bo++x.bo,pv:=ρ.pv++x.p,lr:=ρ.lr++x.r}
def Env.take(ρ:Env)(c:cG):Env:=
 {ρ with bv:=ρ.bv.take c.b,vv:=ρ.vv.take c.v,iv:=ρ.iv.take c.i,av:=ρ.av.take c.a,bo:=ρ.bo.take c.bo,pv:=ρ.pv.take c.p,lr:=ρ.lr.take c.r}
def Env.lC(ρ:Env)(b:Nat):Env:={ρ with bv:=ρ.bv++[b]}
def Env.fF(ρ:Env)(v:V1):Env:={ρ with vv:=ρ.vv++[v]}
def eX.holds(ρ bE:Env):eX→Prop
 | .e x y=>x.den ρ 0=y.den bE 0
 | .a n x y=> ∀j,j<(n.den ρ 0).toNat→x.den ρ j=y.den bE j
 | .b x y=>x.den ρ=y.den bE
 | .af x y=>x.den ρ=y.den bE
 | .v i j=>ρ.vv.getD i V1.nil=bE.vv.getD j V1.nil
 | .p i j=>ρ.pv.getD i HP.emp=bE.pv.getD j HP.emp
 | .bl i j=>ρ.bv.getD i 0=bE.bv.getD j 0
 | .rc i j=>ρ.lr.getD i gJ=bE.lr.getD j gJ
def QS(ρ bE:Env):List eX→Prop→Prop
 | [],q=>q
 | x::r,q=>x.holds ρ bE∧QS ρ bE r q
structure LC where
 I:Ext→Prop
 μ:Ext→Nat
 cur:Ext
def LC.none:LC:=⟨fun _=>False,fun _=>0,⟨[],[],[],[],[],[],[]⟩⟩
def tx(L:Nat→LC)(i:Nat)(l:LC):Nat→LC:=fun j=>if j=i then l else L j
def aw(b r:Prop):Prop:=b∧(b→r)
def aZ(c t e:Prop):Prop:=(c→t)∧(¬c→e)
def VC(P:Program)(ax:Value→List HP→Prop):F→Env→(Nat→LC)→Prop
 | .fail _ _,_,_=>False
 | .vc b r,ρ,L=>aw (b.prop ρ) (VC P ax r ρ L)
 | .fork c t e,ρ,L=>aZ (c.prop ρ) (VC P ax t ρ L) (VC P ax e ρ L)
 | .ret v hp,ρ,_=>ax (v.val ρ) (hp.map (Ck.den ρ))
 | .OS r,ρ,L=> ∀b,VC P ax r (ρ.lC b) L
 | .DN r,ρ,L=> ∀v,VC P ax r (ρ.fF v) L
 | .BA true r,ρ,L=> ∀d l c,VC P ax r (ρ.ext ⟨[d,l],[],[],[],[],[],[c]⟩) L
 | .BA false r,ρ,L=> ∀l c,VC P ax r (ρ.ext ⟨[l],[],[],[],[],[],[c]⟩) L
 | .TZ r,ρ,L=>VC P ax r (ρ.fF ⟨.slice none 0 0,rfl⟩) L
 | .call f args use inc v new r,ρ,L=>
  ∃post,ar P f (SV.vals ρ args) (use.map (Ck.den ρ)) post∧
   ∀x hs,post x hs→uK inc fun e=>x=v.val (ρ.ext e)∧hs=new.map (Ck.den (ρ.ext e))∧VC P ax r (ρ.ext e) L
 | .ext f args use inc v new r,ρ,L=>
  ∃post,Bj P f (SV.vals ρ args) (use.map (Ck.den ρ)) post∧
   ∀x hs,post x hs→uK inc fun e=>x=v.val (ρ.ext e)∧hs=new.map (Ck.den (ρ.ext e))∧VC P ax r (ρ.ext e) L
 | .loop up inc eqs body,ρ,L=>
  ∃(I:Ext→Prop) (μ:Ext→Nat),(uK inc fun e=>QS (ρ.ext e) ρ eqs (I e))∧
   xp inc fun e=>I e→VC P ax body (ρ.ext e) (tx L up ⟨I,μ,e⟩)
 | .back up c0 inc eqs,ρ,L=>
  uK inc fun e=>QS ((ρ.take c0).ext e) ρ eqs ((L up).I e∧(L up).μ e<(L up).μ (L up).cur)
 | .join up inc body r,ρ,L=>
  ∃I:Ext→Prop,VC P ax body ρ (tx L up ⟨I,fun _=>0,⟨[],[],[],[],[],[],[]⟩⟩)∧xp inc fun e=>I e→VC P ax r (ρ.ext e) L
 | .meet up c0 inc eqs,ρ,L=>
  uK inc fun e=>QS ((ρ.take c0).ext e) ρ eqs ((L up).I e)
 | .both a b,ρ,L=>VC P ax a ρ L∧VC P ax b ρ L
 | .ghost use inc eqs new r,ρ,L=>
  ∃I:Ext→Prop,(∀w Fs,bG (use.map (Ck.den ρ)++Fs) w→uK inc fun e=>QS (ρ.ext e) ρ eqs (bG (new.map (Ck.den (ρ.ext e))++Fs) w∧I e))∧
   xp inc fun e=>I e→VC P ax r (ρ.ext e) L
def ao(f:Nat→Int)(i:Nat)(v:Int):Nat→Int:=fun j=>if j=i then v else f j
def QL(l:List Int):Nat→Int:=fun j=>l.getD j 0
def aE(f:Nat→Int)(o:Nat):Nat→Int:=fun j=>f (o+j)
def aA(f:Nat→Int)(o n:Nat)(g:Nat→Int):Nat→Int:=fun j=>if o≤j∧j<o+n then g (j - o)else f j
section
variable (ρ:Env)
theorem bH(a b:E):(dp a b).den ρ 0=a.den ρ 0+b.den ρ 0:=by
 unfold dp;split<;>simp_all [E.den,ak]
theorem dX(a b:E):(tz a b).den ρ 0=a.den ρ 0 - b.den ρ 0:=by
 unfold tz;split<;>simp_all [E.den,ak]
theorem fl(a b:E):(oU a b).den ρ 0=a.den ρ 0*b.den ρ 0:=by
 unfold oU;split<;>simp_all [E.den,ak]
theorem dC(a o:E)(j:Nat):(jt a o).den ρ j=a.den ρ ((o.den ρ 0).toNat+j):=by
 unfold jt;split<;>simp_all [E.den]
theorem xq(v:E)(j:Nat):(BC v).den ρ j=v.den ρ 0:=by
 unfold BC;split
 ·rename_i h;cases v<;>first | rfl | (simp [E.T7]at h;done)
 ·simp [E.den]
theorem dL(a i:E)(j:Nat):(fP a i).den ρ j=a.den ρ (i.den ρ 0).toNat:=by
 induction a generalizing i j with
 | lit n=>unfold fP;rfl
 | rO b i' v rP _ Wf=>
  unfold fP;split
  ·rename_i h;cases h
  ·rename_i h;cases h
  ·rename_i jj ii h;cases h;split
   ·rename_i he;simp only [E.den,he,if_true];exact xq ρ v j
   ·rename_i he;rw [rP];exact(if_neg he).symm
  ·rename_i h;cases h
  ·rename_i h;cases h
  ·rename_i heq _;cases heq;split
   ·rename_i he;subst he;simp only [E.den,if_true];exact xq ρ _ j
   ·rfl
  ·rfl
 | shift b o rP _=>
  unfold fP;split
  ·rename_i h;cases h
  ·rename_i h;cases h
  ·rename_i h;cases h
  ·rename_i h;cases h;rw [rP];simp only [E.den,Int.toNat_natCast]
  ·rename_i h;cases h
  ·rename_i heq _;cases heq
  ·rfl
 | s7 b o n x rP _ _ T8=>
  unfold fP;split
  ·rename_i h;cases h
  ·rename_i h;cases h
  ·rename_i h;cases h
  ·rename_i h;cases h
  ·rename_i h;cases h;split
   ·rename_i hc;rw [T8];simp only [E.den,Int.toNat_natCast];exact(if_pos hc).symm
   ·rename_i hc;rw [rP];exact(if_neg hc).symm
  ·rename_i heq _;cases heq
  ·rfl
 | var n=>unfold fP;rfl
 | aO n=>unfold fP;rfl
 | NV a b _ _=>unfold fP;rfl
 | bin o k a b _ _=>unfold fP;rfl
 | wrap k a _=>unfold fP;rfl
 | kc n a _=>unfold fP;rfl
 | ky b=>unfold fP;rfl
 | OO a i _ _=>unfold fP;rfl
 | oR a i s _ _ _=>unfold fP;rfl
 | QN s _=>unfold fP;rfl
 | oz l=>
  unfold fP;split
  ·rename_i h;cases h
  ·rename_i h;cases h;rfl
  ·rename_i h;cases h
  ·rename_i h;cases h
  ·rename_i h;cases h
  ·rename_i h _;cases h
  ·rfl
theorem cE(n:Int)(j:Nat):(E.lit n).den ρ j=n:=rfl
theorem rV(a i v:E)(j:Nat):(E.rO a i v).den ρ j=if j=(i.den ρ 0).toNat then v.den ρ 0 else a.den ρ j:=rfl
theorem HK(a o n b:E)(j:Nat):(E.s7 a o n b).den ρ j=if(o.den ρ 0).toNat≤j∧j<(o.den ρ 0).toNat+(n.den ρ 0).toNat then b.den ρ (j - (o.den ρ 0).toNat)else a.den ρ j:=rfl
theorem iN(a i s:E):(E.oR a i s).den ρ=DJ (a.den ρ) (i.den ρ 0).toNat (s.den ρ):=rfl
theorem HL(a i:E):(E.OO a i).den ρ=oA (a.den ρ) (i.den ρ 0).toNat:=rfl
theorem Jl(a i:E)(k:Nat):(BD a i).den ρ k=oA (a.den ρ) (i.den ρ 0).toNat k:=by
 induction a generalizing k with
 | oR a jj s lB ihj Wg=>
  rw [iN,iJ];unfold BD;split
  ·rename_i heq;cases heq
  ·rename_i heq;cases heq;split
   ·rename_i he;rw [cE,cE,if_pos he]
   ·rename_i he;rw [lB,cE,cE,if_neg he]
  ·rename_i heq _;cases heq;split
   ·rename_i he;subst he;rw [if_pos rfl]
   ·rw [HL,iN,iJ]
  ·rw [HL,iN,iJ]
 | lit n=>unfold BD;rfl
 | _=>unfold BD;rfl
theorem xr(a i:E):(BD a i).den ρ=oA (a.den ρ) (i.den ρ 0).toNat:=funext (Jl ρ a i)
theorem kU(l:List UInt8):(zl l).den ρ=Jh l:=by
 funext j;cases j with
 | zero=>simp [zl,E.den,Jh]
 | succ j=>
  simp only [zl,E.den,Jh,adx];by_cases h:j<l.length
  ·simp [List.getD,ad8 h]
  ·simp [List.getD,aef (Nat.le_of_not_lt h)]
theorem Ga(f:Nat→Int){j:Nat}(h:j<(f 0).toNat):(bZ f)[j]? =some (UInt8.ofNat (f (j+1)).toNat):=by
 simp [bZ,List.getElem?_range h]
theorem Gb(l:List UInt8)(j:Nat):(E.oz (l.map fun b=>((b.toNat:Nat):Int))).den ρ j=((l.getD j 0).toNat:Nat):=by
 simp only [E.den];by_cases h:j<l.length
 ·simp [List.getD,ad8 h]
 ·simp [List.getD,aef (Nat.le_of_not_lt h)]
theorem DO(s:E):(Jm s).den ρ=Ji (s.den ρ):=by
 unfold Jm;split
 ·rename_i n l;split
  ·rename_i h;funext j;simp only [E.den,Ji,adx];by_cases hj:j<l.length
   ·have:=adt.1 h l[j] (List.getElem_mem hj);simp only [ai,decide_eq_true_eq]at this;simp only [List.getD,ad8 hj,aee];have h2:(UInt8.ofNat l[j].toNat).toNat=l[j].toNat:=by
     rw [UInt8.toNat_ofNat'];omega
    rw [h2];omega
   ·simp [List.getD,aef (Nat.le_of_not_lt hj)]
  ·rfl
 ·rfl
theorem Ak(s:E):(∃l,mkStr s= .str l∧l=bZ (s.den ρ))∨mkStr s= .kb s:=by
 unfold mkStr;split
 ·rename_i n l;split
  ·rename_i h;simp only [ai,beq_iff_eq]at h;obtain⟨rfl,h⟩:=h;left;refine⟨_,rfl,?_⟩;apply List.ext_getElem?;intro j;by_cases hj:j<l.length
   ·rw [Ga _ (by simpa [E.den] using hj),List.getElem?_map,ad8 hj];simp [E.den,List.getD,ad8 hj]
   ·rw [aef (by simp;omega),aef (by rw [cu];simp [E.den];omega)]
  ·exact .inr rfl
 ·exact .inr rfl
theorem DP(s:E):SV.cells ρ (mkStr s)=[.string ⟨(bZ (s.den ρ)).toArray⟩]:=by
 rcases Ak ρ s with⟨l,h,rfl⟩ | h<;>rw [h]<;>rfl
theorem mN(s:E):(mkStr s).val ρ= .string ⟨(bZ (s.den ρ)).toArray⟩:=by
 rcases Ak ρ s with⟨l,h,rfl⟩ | h<;>rw [h]<;>rfl
theorem fm(s:E):(jQ s).den ρ 0=s.den ρ 0:=by rw [jQ,dL];rfl
theorem Jn(s:E):((bZ (s.den ρ)).length:Int)=max 0 ((jQ s).den ρ 0):=by rw [cu,fm];omega
theorem qW{v:SV}{s:E}(h:oV v=some s):v.val ρ= .string ⟨(bZ (s.den ρ)).toArray⟩:=by
 unfold oV at h;split at h
 ·cases h;rw [kU,mK];rfl
 ·cases h;rfl
 ·cases h
theorem ju(f:Nat→Int){j:Nat}(h:j<(f 0).toNat):(bZ f)[j]? =some (UInt8.ofNat (f (j+1)).toNat):=by
 simp [bZ,List.getElem?_range h]
theorem xu(a n:E):bZ ((qX a n).den ρ)=(List.range (n.den ρ 0).toNat).map fun j=>UInt8.ofNat (a.den ρ j).toNat:=by
 unfold bZ;have h0:(qX a n).den ρ 0=n.den ρ 0:=by simp [qX,E.den]
 rw [h0];refine List.map_congr_left fun j hj=>?_
 have hj:=adZ.1 hj;have:(qX a n).den ρ (j+1)=a.den ρ j:=by
  rw [qX,rV,cE,if_neg (by simp),HK,cE,if_pos (by simp;omega)];congr 1
 rw [this]
theorem Jo(s lo hi:E)(hl:0≤lo.den ρ 0)(hlh:lo.den ρ 0≤hi.den ρ 0)(hh:hi.den ρ 0≤s.den ρ 0):
  bZ ((Al s lo hi).den ρ)=((bZ (s.den ρ)).take (hi.den ρ 0).toNat).drop (lo.den ρ 0).toNat:=by
 have h0:(Al s lo hi).den ρ 0=hi.den ρ 0 - lo.den ρ 0:=by
  unfold Al;split<;>simp [E.den,dX]
 have hj: ∀j,(Al s lo hi).den ρ (j+1)=s.den ρ ((lo.den ρ 0).toNat+j+1):=by
  intro j;unfold Al;split
  ·rw [rV,cE,if_neg (by simp),dC,rV,cE,if_neg (by simp)];congr 1
  ·rw [rV,cE,if_neg (by simp),dC];congr 1
 apply List.ext_getElem?;intro j;rw [List.getElem?_drop,List.getElem?_take];by_cases hc:j<(hi.den ρ 0 - lo.den ρ 0).toNat
 ·rw [ju _ (by rw [h0];exact hc),if_pos (by omega),ju _ (by omega),hj]
 ·rw [aef (by rw [cu,h0];omega),if_neg (by omega)]
theorem Lu(s t:E)(hs:0≤s.den ρ 0)(ht:0≤t.den ρ 0):bZ ((Jp s t).den ρ)=bZ (s.den ρ)++bZ (t.den ρ):=by
 have h0:(Jp s t).den ρ 0=s.den ρ 0+t.den ρ 0:=by simp [Jp,E.den,bH,fm]
 have hj: ∀j,(Jp s t).den ρ (j+1)=if(s.den ρ 0).toNat≤j∧j<(s.den ρ 0).toNat+(t.den ρ 0).toNat then t.den ρ (j - (s.den ρ 0).toNat+1)else s.den ρ (j+1):=by
  intro j;rw [Jp,rV,cE,if_neg (by simp),HK];simp only [bH,fm,cE,dC];have e:(s.den ρ 0+1).toNat=(s.den ρ 0).toNat+1:=by omega
  rw [e];by_cases hc:(s.den ρ 0).toNat≤j∧j<(s.den ρ 0).toNat+(t.den ρ 0).toNat
  ·rw [if_pos (by omega),if_pos hc];congr 1;simp only [show(1:Int).toNat=1 from rfl];omega
  ·rw [if_neg (by omega),if_neg hc]
 apply List.ext_getElem?;intro j;by_cases hc:j<(s.den ρ 0+t.den ρ 0).toNat
 ·rw [ju _ (by rw [h0];exact hc),hj];by_cases WQ:j<(s.den ρ 0).toNat
  ·rw [if_neg (by omega),adz (by rw [cu];exact WQ),ju _ WQ]
  ·rw [if_pos (by omega),adA (by rw [cu];omega),cu,ju _ (by omega)]
 ·rw [aef (by rw [cu,h0];omega),aef (by rw [List.length_append,cu,cu];omega)]
theorem DQ(a b:E):(OT a b).den ρ=(bZ (a.den ρ)==bZ (b.den ρ)):=by
 unfold OT;by_cases h:a=b
 ·rw [if_pos h,h];simp [BE.den]
 ·rw [if_neg h];rfl
theorem kV(o:TX)(k:IntKind)(a b:E):(tA o k a b).den ρ 0=ak o k (a.den ρ 0) (b.den ρ 0):=by
 unfold tA;split<;>rfl
theorem Jq(k:IntKind)(a:E):(Lv k a).den ρ 0=k.wrap (a.den ρ 0):=by
 unfold Lv;split<;>rfl
theorem wm(a:E):(OU a).den ρ= !(a.den ρ 0==0):=by
 unfold OU;split<;>rfl
theorem pT(a b:E):(RU a b).den ρ=(a.den ρ 0==b.den ρ 0):=by
 unfold RU;split
 ·rfl
 ·split<;>simp_all [BE.den]
theorem rW(a b:E):(Gd a b).den ρ=decide (a.den ρ 0<b.den ρ 0):=by
 unfold Gd;split<;>rfl
theorem gp(a b:E):(wo a b).den ρ=decide (a.den ρ 0≤b.den ρ 0):=by
 unfold wo;split<;>rfl
theorem cX(b:BE):(iO b).den ρ= !b.den ρ:=by
 unfold iO;split<;>simp [BE.den]
theorem mO(a b:BE):(zm a b).den ρ=(a.den ρ&&b.den ρ):=by
 unfold zm;split<;>simp [BE.den]
theorem HM(a b:BE):(Wh a b).den ρ=(a.den ρ||b.den ρ):=by
 unfold Wh;split<;>simp [BE.den]
theorem mP(c a b:BE):(DR c a b).den ρ=if c.den ρ then a.den ρ else b.den ρ:=by
 unfold DR;split
 ·simp [BE.den]
 ·simp [BE.den]
 ·rw [HM];simp [BE.den]
 ·rw [mO];simp [BE.den]
 ·rfl
theorem aF(k:IntKind)(n:Nat)(f:Nat→Int):(aj k n f).length=n:=by simp [aj]
theorem bd(k:IntKind)(n:Nat)(f:Nat→Int)(j:Nat):(aj k n f)[j]? =if j<n then some (.int k (f j))else none:=by
 unfold aj;rw [List.getElem?_map];by_cases h:j<n
 ·rw [List.getElem?_range h,if_pos h];rfl
 ·rw [aef (by simp;omega),if_neg h];rfl
theorem bA(k:IntKind)(n:Nat){f g:Nat→Int}(h: ∀j,j<n→f j=g j):aj k n f=aj k n g:=by
 unfold aj;exact List.map_congr_left fun j hj=>by rw [h j (adZ.1 hj)]
theorem dq(k:IntKind)(n m:Nat)(f:Nat→Int)(h:m≤n):(aj k n f).take m=aj k m f:=by
 unfold aj;rw [←List.map_take,List.take_range,Nat.min_eq_left h]
theorem qA(k:IntKind)(n m:Nat)(f:Nat→Int):(aj k n f).drop m=aj k (n - m) fun j=>f (m+j):=by
 apply List.ext_getElem?;intro j;rw [List.getElem?_drop,bd,bd];by_cases h:m+j<n
 ·rw [if_pos h,if_pos (by omega)]
 ·rw [if_neg h,if_neg (by omega)]
mutual
theorem rX: ∀v:SV,(SV.cells ρ v).length=v.width
 | .agg cs=>by simp only [SV.cells,SV.width];exact bz cs
 | .cD k n a=>by simp [SV.cells,SV.width,aF]
 | .int .. =>rfl
 | .bool _=>rfl
 | .iK=>rfl
 | .cC=>rfl
 | .mc=>rfl
 | .rQ=>rfl
 | .rR=>rfl
 | .undef=>rfl
 | .ptr .. =>rfl
 | .oB .. =>rfl
 | .pv .. =>rfl
 | .sl .. =>rfl
 | .vv _=>rfl
 | .str _=>rfl
 | .fn .. =>rfl
 | .oJ _=>rfl
 | .opt .. =>rfl
 | .DK .. =>rfl
 | .Jj _=>rfl
 | .mp _=>rfl
 | .jP .. =>rfl
 | .nB _=>rfl
 | .kb _=>rfl
 | .F_ .. =>rfl
 | .Ln .. =>rfl
 | .KN _=>rfl
theorem bz: ∀l:List SV,(SV.aB ρ l).length=SV.oW l
 | []=>rfl
 | v::r=>by simp only [SV.aB,SV.oW,List.length_append];rw [rX v,bz r]
end
theorem gU(a b:List SV):SV.aB ρ (a++b)=SV.aB ρ a++SV.aB ρ b:=by
 induction a with
 | nil=>rfl
 | cons v r ih=>simp only [List.cons_append,SV.aB,ih,List.append_assoc]
def SV.plain:SV→Bool
 | .agg _=>false
 | .cD .. =>false
 | _=>true
theorem fR{v:SV}(h:v.plain=true):SV.cells ρ v=[v.val ρ]:=by
 cases v<;>simp_all [SV.plain,SV.cells,SV.val]
theorem zo(d:Nat){v:SV}(h:v.plain=true)(r:List SV):eM (d+1) (v::r)=eM d r:=by
 cases v<;>simp_all [SV.plain,eM]
theorem zp(d:Nat){v:SV}(h:v.plain=true)(r:List SV):gq (d+1) (v::r)=(gq d r).map (v:: ·):=by
 cases v<;>simp_all [SV.plain,gq]
theorem dJ: ∀(cs:List SV) (d:Nat) (r:List SV),eM d cs=some r→SV.aB ρ r=(SV.aB ρ cs).drop d
 | cs,0,r,h=>by simp [eM]at h;subst h;rfl
 | [],d+1,r,h=>by simp [eM]at h;subst h;simp [SV.aB]
 | v::cs,d+1,r,h=>by
  by_cases hp:v.plain=true
  ·rw [zo d hp]at h;rw [dJ cs d r h];simp [SV.aB,fR ρ hp]
  ·cases v with
   | agg x=>simp [eM]at h
   | cD k n a=>
    simp only [eM]at h;simp only [SV.aB,SV.cells];split at h
    ·rename_i bP;simp only [adv]at h;subst h;simp only [SV.aB,SV.cells];rw [List.drop_append_of_le_length (by rw [aF];omega),qA];congr 1;apply bA;intro j _;rw [dC];rfl
    ·rename_i ig;rw [dJ cs _ r h,List.drop_append,aF,List.drop_of_length_le (l:=aj k n _) (by rw [aF];omega)];rfl
   | _=>simp [SV.plain]at hp
theorem gV: ∀(cs:List SV) (d:Nat) (r:List SV),gq d cs=some r→SV.aB ρ r=(SV.aB ρ cs).take d
 | cs,0,r,h=>by simp [gq]at h;subst h;simp [SV.aB]
 | [],d+1,r,h=>by simp [gq]at h;subst h;simp [SV.aB]
 | v::cs,d+1,r,h=>by
  by_cases hp:v.plain=true
  ·rw [zp d hp,adw]at h;obtain⟨x,hx,rfl⟩:=h;simp [SV.aB,fR ρ hp,gV cs d x hx]
  ·cases v with
   | agg x=>simp [gq]at h
   | cD k n a=>
    simp only [gq]at h;simp only [SV.aB,SV.cells];split at h
    ·rename_i hle;simp only [adv]at h;subst h;simp only [SV.aB,SV.cells,List.append_nil];rw [List.take_append_of_le_length (by rw [aF];omega),dq _ _ _ _ hle]
    ·rename_i WU;rw [adw]at h;obtain⟨x,hx,rfl⟩:=h;simp only [SV.aB,SV.cells];rw [gV cs _ x hx,List.take_append,aF,List.take_of_length_le (l:=aj k n _) (by rw [aF];omega)]
   | _=>simp [SV.plain]at hp
theorem dY{c size:Nat}{cs r:List SV}(h:iP c size cs=some r):
  SV.aB ρ r=((SV.aB ρ cs).drop c).take size∧c+size≤(SV.aB ρ cs).length:=by
 unfold iP at h;split at h
 ·rename_i hle;split at h
  ·rename_i x hx;exact⟨by rw [gV ρ _ _ _ h,dJ ρ _ _ _ hx],by rw [bz];exact hle⟩
  ·cases h
 ·cases h
theorem nF{c:Nat}{vs cs r:List SV}(h:xw c vs cs=some r):
  SV.aB ρ r=(SV.aB ρ cs).take c++SV.aB ρ vs++(SV.aB ρ cs).drop (c+(SV.aB ρ vs).length)∧
   c+(SV.aB ρ vs).length≤(SV.aB ρ cs).length:=by
 unfold xw at h;split at h
 ·rename_i hle;split at h
  ·rename_i x y hx hy;simp only [adv]at h;subst h;rw [gU,gU,gV ρ _ _ _ hx,dJ ρ _ _ _ hy,bz,bz];exact⟨rfl,hle⟩
  ·cases h
 ·cases h
theorem lH{agg:Bool}{cs:List SV}{v:SV}(h:hJ agg cs=some v):
  (agg=true→v.val ρ= .agg (SV.aB ρ cs).toArray)∧(agg=false→SV.aB ρ cs=[v.val ρ]):=by
 unfold hJ at h;split at h
 ·rename_i ha;simp only [adv]at h;subst h;simp [ha,SV.val]
 ·rename_i ha;refine⟨fun hc=>absurd hc ha,fun _=>?_⟩;split at h
  ·simp only [adv]at h;subst h;simp [SV.aB,SV.cells,SV.val,aj,dL,E.den]
  ·cases h
  ·cases h
  ·rename_i v' h1 h2 h3;simp only [adv]at h;subst h;have hp:v'.plain=true:=by
    cases v' with
    | agg cs=>exact absurd rfl (h3 cs)
    | cD k n a=>exact absurd rfl (h2 k n a)
    | _=>rfl
   simp [SV.aB,fR ρ hp]
  ·cases h
structure Env.Ok (ρ:Env):Prop where
theorem Env.ok(ρ:Env):ρ.Ok:=⟨⟩
theorem Env.Ok.Ze{ρ:Env}(_:ρ.Ok)(i:Nat):(ρ.vv.getD i V1.nil).v.oneCell'=true:=(ρ.vv.getD i V1.nil).one
theorem Env.Ok.vaD{ρ:Env}(_:ρ.Ok)(i j:Nat):((ρ.va.getD i fun _=>V1.nil) j).v.oneCell'=true:=((ρ.va.getD i fun _=>V1.nil) j).one
theorem BF{v:Value}(h:v.oneCell'=true):v.cells= #[v]:=by
 cases v<;>simp_all [Value.oneCell',Value.cells]
theorem HN{v:SV}(h:v.one=true)(hs:v.plain=true)(nr:ρ.Ok):(v.val ρ).oneCell'=true:=by
 cases v with
 | vv i=>simp only [SV.val];exact nr.Ze i
 | DK a i=>simp only [SV.val];exact nr.vaD a _
 | nB e=>simp only [SV.val];exact DL _
 | KN e=>simp only [SV.val];exact DM _
 | pv v i s c=>simp only [SV.val,dU];split<;>rfl
 | jP v cs s=>simp only [SV.val];exact mf _ _ _ _ (ρ.vv.getD v V1.nil).one
 | F_ c v=>simp only [SV.val];split<;>first | rfl | (unfold rT;split<;>rfl)
 | _=>first | rfl | simp_all [SV.one,SV.plain]
theorem Jr{v:SV}(h:v.one=true)(nr:ρ.Ok): ∀u∈SV.cells ρ v,u.oneCell'=true:=by
 by_cases hs:v.plain=true
 ·rw [fR ρ hs];intro u hu;rw [aea]at hu;subst hu;exact HN ρ h hs nr
 ·cases v with
  | agg x=>simp [SV.one]at h
  | cD k n a=>
   intro u hu;simp only [SV.cells,aj,List.mem_map]at hu;obtain⟨j,_,rfl⟩:=hu;rfl
  | _=>simp [SV.plain]at hs
theorem kW{l:List SV}(h:l.all SV.one=true)(nr:ρ.Ok): ∀u∈SV.aB ρ l,u.oneCell'=true:=by
 induction l with
 | nil=>intro u hu;cases hu
 | cons v r ih=>
  rw [List.all_cons,ai]at h;intro u hu;simp only [SV.aB,List.mem_append]at hu;exact hu.elim (Jr ρ h.1 nr u) (ih h.2 u)
theorem gW{v:SV}{cs:List SV}(h:dO v=some cs)(nr:ρ.Ok):
  (v.val ρ).cells.toList=SV.aB ρ cs∧∀u∈SV.aB ρ cs,u.oneCell'=true:=by
 by_cases hs:v.plain=true
 ·have h1:v.one=true∧cs=[v]:=by
   cases v<;>simp_all [dO,SV.plain]
  obtain⟨h1,rfl⟩:=h1;have h2:=HN ρ h1 hs nr;refine⟨?_,kW ρ (by simp [h1]) nr⟩;rw [BF h2];simp [SV.aB,fR ρ hs]
 ·cases v with
  | agg x=>
   simp only [dO]at h;split at h
   ·rename_i ha;simp only [adv]at h;subst h;exact⟨by simp [SV.val,Value.cells],kW ρ ha nr⟩
   ·cases h
  | cD k n a=>
   simp only [dO,SV.one,if_true,adv]at h;subst h;exact⟨by simp [SV.val,Value.cells,SV.aB,SV.cells],kW ρ (by simp [SV.one]) nr⟩
  | _=>simp [SV.plain]at hs
theorem zq(v:Value)(x:SV)(h:ofValue v=some x)(hn: ∀l,v≠ .agg l):x.plain=true:=by
 unfold ofValue at h;split at h<;>simp_all<;>(subst h;rfl)
mutual
theorem oX: ∀(v:Value) (x:SV),ofValue v=some x→x.val ρ=v
 | .int k n,x,h=>by simp [ofValue]at h;subst h;rfl
 | .bool b,x,h=>by simp [ofValue]at h;subst h;rfl
 | .pointer none,x,h=>by simp [ofValue]at h;subst h;rfl
 | .pointer (some _),x,h=>by simp [ofValue]at h
 | .slice none 0 0,x,h=>by simp [ofValue]at h;subst h;rfl
 | .slice none (_+1) _,x,h=>by simp [ofValue]at h
 | .slice none 0 (_+1),x,h=>by simp [ofValue]at h
 | .slice (some _) _ _,x,h=>by simp [ofValue]at h
 | .nilFunc,x,h=>by simp [ofValue]at h;subst h;rfl
 | .nilIface,x,h=>by simp [ofValue]at h;subst h;rfl
 | .map none,x,h=>by simp [ofValue]at h;subst h;rfl
 | .map (some _),x,h=>by simp [ofValue]at h
 | .string ⟨⟨l⟩⟩,x,h=>by simp [ofValue]at h;subst h;rfl
 | .tuple ⟨[]⟩,x,h=>by simp [ofValue]at h;subst h;rfl
 | .tuple ⟨_::_⟩,x,h=>by simp [ofValue]at h
 | .agg ⟨l⟩,x,h=>by
  simp only [ofValue,adw]at h;obtain⟨y,hy,rfl⟩:=h;simp only [SV.val];rw [oY l y hy]
 | .float ..,x,h=>by simp [ofValue]at h
 | .complex ..,x,h=>by simp [ofValue]at h
 | .chan _,x,h=>by simp [ofValue]at h
 | .func ..,x,h=>by simp [ofValue]at h
 | .iface ..,x,h=>by simp [ofValue]at h
theorem oY: ∀(l:List Value) (xs:List SV),ofValues l=some xs→SV.aB ρ xs=l
 | [],xs,h=>by simp [ofValues]at h;subst h;rfl
 | v::r,xs,h=>by
  unfold ofValues at h;split at h
  ·rename_i heq;cases heq
  ·cases h
  ·rename_i v' r' hn heq;cases heq;split at h
   ·rename_i x xs' hx Ge;simp only [adv]at h;subst h;have hp:=zq v x hx (fun l e=>hn l e);simp only [SV.aB,fR ρ hp,oX v x hx,oY r xs' Ge];rfl
   ·cases h
end
end
def gu:Option TypeDesc→TK→Bool
 | some (.int k),.int k'=>k==k'
 | some .bool,.bool=>true
 | some .string,.str=>true
 | some (.pointer e),.ptr e'=>e==e'
 | some (.slice e),.slice e'=>e==e'
 | some (.array n e),.arr n' e'=>n==n'&&e==e'
 | some (.struct fs),.struct l=>fs.toList.map (fun f=>(f.type,f.offset))==l
 | some (.struct fs),.HO l _=>fs.toList.map (fun f=>(f.type,f.offset))==l
 | some (.map k e),.map k' e'=>k==k'&&e==e'
 | some (.func ..),.func=>true
 | some (.interface _),.iface=>true
 | _,_=>false
def isInt(k:IntKind)(m:Int):Value→Bool
 | .int k' n=>k==k'&&n==m
 | _=>false
def Lw(x:SV)(vs:List Value):Option (List Value):=
 match x with
 | .cD k n (.lit m)=>if n≤vs.length∧(vs.take n).all (isInt k m)=true then some (vs.drop n)else none
 | x=>match vs with
  | v::r=>match ofValue v with
   | some y=>match x,y with
    | .int k (.lit m),.int k' (.lit m')=>if k=k'∧m=m' then some r else none
    | .bool (.lit b),.bool (.lit b')=>if b=b' then some r else none
    | .iK,.iK=>some r
    | .cC,.cC=>some r
    | .mc,.mc=>some r
    | .rQ,.rQ=>some r
    | .rR,.rR=>some r
    | .str l,.str l'=>if l=l' then some r else none
    | _,_=>none
   | none=>none
  | []=>none
def DS:List Value→List SV→Bool
 | vs,[]=>vs.isEmpty
 | vs,x::r=>match Lw x vs with
  | some FK=>DS FK r
  | none=>false
theorem Lx{k:IntKind}{m:Int}{v:Value}(h:isInt k m v=true):v= .int k m:=by
 cases v<;>simp_all [isInt]
theorem DT(ρ:Env){x:SV}{vs FK:List Value}(h:Lw x vs=some FK):vs=SV.cells ρ x++FK:=by
 unfold Lw at h;split at h
 ·rename_i k n m;split at h
  ·rename_i hc;simp only [adv]at h;subst h;have:aj k n (E.den ρ (.lit m))=vs.take n:=by
    apply List.ext_getElem?;intro j;rw [bd];by_cases hj:j<n
    ·rw [if_pos hj,List.getElem?_take_of_lt hj];have bP:j<vs.length:=by omega
     rw [ad8 bP];have:=adt.1 hc.2 vs[j] (by
      rw [←List.getElem_take (xs:=vs) (j:=n) (h:=by simp;omega)];exact List.getElem_mem _)
     rw [Lx this];rfl
    ·rw [if_neg hj,aef (by simp;omega)]
   simp only [SV.cells,this,List.take_append_drop]
  ·cases h
 ·split at h
  ·rename_i v r;split at h
   ·rename_i y hy;have hv:=oX ρ v y hy;subst hv;split at h
    all_goals first
     | (simp only [adv]at h;subst h;rfl)
     | (
       split at h
       ·rename_i hc;simp only [adv]at h;subst h
        first | (obtain⟨rfl,rfl⟩:=hc;rfl) | (subst hc;rfl)
       ·cases h)
     | cases h
   ·cases h
  ·cases h
theorem uL(ρ:Env): ∀(l:List SV) (vs:List Value),DS vs l=true→SV.aB ρ l=vs
 | [],vs,h=>by
  cases vs with
  | nil=>rfl
  | cons v r=>simp [DS]at h
 | x::r,vs,h=>by
  unfold DS at h;split at h
  ·rename_i FK hz;rw [DT ρ hz,SV.aB,uL ρ r FK h]
  ·cases h
def jv(P:Program)(f:TypeId→Option (List fJ)):List Field→Nat→Option (List fJ)
 | [],_=>some []
 | fd::r,off=>
  if fd.name== "_" ||fd.offset != off then none else
  match f fd.type with
  | some l=>if P.cellsOf fd.type==l.length then(jv P f r (off+l.length)).map (l++ ·)else none
  | none=>none
def eG(P:Program):Nat→TypeId→Option (List fJ)
 | 0,_=>none
 | d+1,t=>
  match P.underlying t with
  | some (.int k)=>some [some k]
  | some .bool=>some [none]
  | some (.array n e)=>match eG P d e with
   | some l=>if P.cellsOf e==l.length then some (List.replicate n l).flatten else none
   | none=>none
  | some (.struct fs)=>if P.stoodInHeld t then none else jv P (eG P d) fs.toList 0
  | _=>none
def QT(P:Program)(ti:TI):Bool:=
 ti.lay.isEmpty||(eG P 12 ti.t==some (jR ti.lay)&& !P.eqGuardType P.depth ti.t)
def RV(P:Program)(ti:TI):Bool:=
 gu (P.underlying ti.t) ti.k&&QT P ti&&SV.oW ti.zero==ti.size&&
 match P.info? ti.t with
 | some i=>i.size==ti.size&&i.bytes==ti.bytes&&ti.zero.all SV.one&&
  match i.zero with
  | some z=>DS z.cells.toList ti.zero&&(match z with | .agg _=>ti.k.agg | _=> !ti.k.agg)
  | none=>false
 | none=>false
def bC(P:Program)(T:List TI):Bool:=T.all (RV P)
structure jS (P:Program) (ti:TI):Prop where
 kind:gu (P.underlying ti.t) ti.k=true
 lay:ti.lay.isEmpty=true∨(eG P 12 ti.t=some (jR ti.lay)∧P.eqGuardType P.depth ti.t=false)
 one:ti.zero.all SV.one=true
 zt:SV.oW ti.zero=ti.size
 zag: ∀i z,P.info? ti.t=some i→i.zero=some z→(match z with | .agg _=>ti.k.agg | _=> !ti.k.agg)=true
 info: ∃i,P.info? ti.t=some i∧i.size=ti.size∧i.bytes=ti.bytes∧∃z,i.zero=some z∧∀ρ,SV.aB ρ ti.zero=z.cells.toList
theorem Js{P:Program}{ti:TI}(h:RV P ti=true):jS P ti:=by
 unfold RV at h;rw [ai,ai,ai,beq_iff_eq]at h;obtain⟨⟨⟨hk,hl⟩,RW⟩,h⟩:=h;have Wi:ti.lay.isEmpty=true∨(eG P 12 ti.t=some (jR ti.lay)∧P.eqGuardType P.depth ti.t=false):=by
  unfold QT at hl;rw [Bool.or_eq_true,ai,beq_iff_eq,Bool.not_eq_true']at hl;exact hl
 split at h
 ·rename_i i hi;simp only [ai,beq_iff_eq]at h;obtain⟨⟨⟨h1,h2⟩,h4⟩,h3⟩:=h;split at h3
  ·rename_i z hz;rw [ai]at h3;exact⟨hk,Wi,h4,RW,fun i' z' mF Gf=>by rw [hi]at mF;cases mF;rw [hz]at Gf;cases Gf;exact h3.2,i,hi,h1,h2,z,hz,fun ρ=>uL ρ _ _ h3.1⟩
  ·cases h3
 ·cases h
theorem aG{P:Program}{T:List TI}(hT:bC P T=true){t:Nat}{ti:TI}(h:aU T t=some ti):ti.t=t∧jS P ti:=by
 unfold aU at h;have hm:=List.mem_of_find?_eq_some h;have ht:=List.find?_some h;simp only [beq_iff_eq]at ht;exact⟨ht,Js (adt.1 hT ti hm)⟩
section
variable {P:Program} (w:World)
theorem jS.sizeOf{ti:TI}(h:jS P ti):(sizeOf ti.t).run P w= .ok ti.size w:=by
 obtain⟨i,hi,hs,_⟩:=h.info;simp [Go.sizeOf,typeInfo,hi,hs]
theorem jS.isAgg{ti:TI}(h:jS P ti):(isAgg ti.t).run P w= .ok ti.k.agg w:=by
 have hk:=h.kind;unfold gu at hk;split at hk<;>first | (cases hk;done) | skip
 all_goals (rename_i h1 h2;simp [Go.isAgg,run_underlying h1,h2,TK.agg])
theorem jS.zero{ti:TI}(h:jS P ti): ∃z,(zeroValue ti.t).run P w= .ok z w∧∀ρ,SV.aB ρ ti.zero=z.cells.toList:=by
 obtain⟨i,hi,_,_,z,hz,hc⟩:=h.info;exact⟨z,by simp [zeroValue,typeInfo,hi,hz],hc⟩
end
end Go.RX
