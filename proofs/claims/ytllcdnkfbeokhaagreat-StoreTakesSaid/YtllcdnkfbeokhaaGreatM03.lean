/- Executor. -/
import Derived.Test.YtllcdnkfbeokhaaGreatRxD
open Bool renaming and_eq_true → ai
open Int renaming toNat_natCast → aqD
open List renaming all_eq_true → aqn, getElem?_append_left → aqs, getElem?_append_right → aqt, getElem?_eq_none → aq3, length_append → aql, mem_append → aqC, mem_map → aqV, mem_range → aqE, mem_singleton → aqx
open Option renaming map_eq_some_iff → aqq
open Option.some renaming injEq → aqp
namespace Go.RX
def aq(P:Program)(f:Nat)(args:List Value)(pre:List HP)(post:Value→List HP→Prop):Prop:=
 ∀(w:World) (Fs:List HP),bG (pre++Fs) w→
  Calls P f args.toArray w fun e w'=> ∃v hs,e= .returned v∧post v hs∧bG (hs++Fs) w'∧ic w w'
def UM(P:Program)(f:Nat)(args:List Value)(pre:List HP)(post:Value→List HP→Prop):Prop:=
 ∀(w:World) (Fs:List HP),bG (pre++Fs) w→
  ∃v hs w',(callFunc f args.toArray).run P w= .ok (.value v) w'∧post v hs∧bG (hs++Fs) w'∧ic w w'
structure Ext where
 b:List Nat
 v:List V1
 i:List Int
 a:List (Nat→Int)
 bo:List Bool
 p:List HP
 r:List Loop
def yw{α:Type}:Nat→(List α→Prop)→Prop
 | 0,f=>f []
 | n+1,f=> ∀x,yw n fun xs=>f (x::xs)
def Mq{α:Type}:Nat→(List α→Prop)→Prop
 | 0,f=>f []
 | n+1,f=> ∃x,Mq n fun xs=>f (x::xs)
def yx(c:ct)(f:Ext→Prop):Prop:=
 yw c.b fun b=>yw c.v fun v=>yw c.i fun i=>yw c.a fun a=>yw c.bo fun bo=>yw c.p fun p=>yw c.r fun r=>f ⟨b,v,i,a,bo,p,r⟩
def wv(c:ct)(f:Ext→Prop):Prop:=
 Mq c.b fun b=>Mq c.v fun v=>Mq c.i fun i=>Mq c.a fun a=>Mq c.bo fun bo=>Mq c.p fun p=>Mq c.r fun r=>f ⟨b,v,i,a,bo,p,r⟩
def Env.ext(ρ:Env)(x:Ext):Env:=
 {ρ with bv:=ρ.bv++x.b,vv:=ρ.vv++x.v,iv:=ρ.iv++x.i,av:=ρ.av++x.a,bo:=ρ.bo++x.bo,pv:=ρ.pv++x.p,lr:=ρ.lr++x.r}
def Env.take(ρ:Env)(c:ct):Env:=
 {ρ with bv:=ρ.bv.take c.b,vv:=ρ.vv.take c.v,iv:=ρ.iv.take c.i,av:=ρ.av.take c.a,bo:=ρ.bo.take c.bo,pv:=ρ.pv.take c.p,lr:=ρ.lr.take c.r}
def Env.m_(ρ:Env)(b:Nat):Env:={ρ with bv:=ρ.bv++[b]}
def Env.ig(ρ:Env)(v:V1):Env:={ρ with vv:=ρ.vv++[v]}
def gx.holds(ρ bF:Env):gx→Prop
 | .e x y=>x.den ρ 0=y.den bF 0
 | .a n x y=> ∀j,j<(n.den ρ 0).toNat→x.den ρ j=y.den bF j
 | .b x y=>x.den ρ=y.den bF
 | .af x y=>x.den ρ=y.den bF
 | .v i j=>ρ.vv.getD i V1.nil=bF.vv.getD j V1.nil
 | .p i j=>ρ.pv.getD i HP.emp=bF.pv.getD j HP.emp
 | .bl i j=>ρ.bv.getD i 0=bF.bv.getD j 0
 | .rc i j=>ρ.lr.getD i je=bF.lr.getD j je
def TJ(ρ bF:Env):List gx→Prop→Prop
 | [],q=>q
 | x::r,q=>x.holds ρ bF∧TJ ρ bF r q
structure LC where
 I:Ext→Prop
 μ:Ext→Nat
 cur:Ext
def LC.none:LC:=⟨fun _=>False,fun _=>0,⟨[],[],[],[],[],[],[]⟩⟩
def uX(L:Nat→LC)(i:Nat)(l:LC):Nat→LC:=fun j=>if j=i then l else L j
def ax(b r:Prop):Prop:=b∧(b→r)
def br(c t e:Prop):Prop:=(c→t)∧(¬c→e)
def VC(P:Program)(al:Value→List HP→Prop):F→Env→(Nat→LC)→Prop
 | .fail _ _,_,_=>False
 | .vc b r,ρ,L=>ax (b.prop ρ) (VC P al r ρ L)
 | .fork c t e,ρ,L=>br (c.prop ρ) (VC P al t ρ L) (VC P al e ρ L)
 | .ret v hp,ρ,_=>al (v.val ρ) (hp.map (Ck.den ρ))
 | .BQ r,ρ,L=> ∀b,VC P al r (ρ.m_ b) L
 | .uY r,ρ,L=> ∀v,VC P al r (ρ.ig v) L
 | .oZ true r,ρ,L=> ∀d l c,VC P al r (ρ.ext ⟨[d,l],[],[],[],[],[],[c]⟩) L
 | .oZ false r,ρ,L=> ∀l c,VC P al r (ρ.ext ⟨[l],[],[],[],[],[],[c]⟩) L
 | .Gb r,ρ,L=>VC P al r (ρ.ig ⟨.slice none 0 0,rfl⟩) L
 | .call f args use inc v new r,ρ,L=>
  ∃post,aq P f (SV.bD ρ args) (use.map (Ck.den ρ)) post∧
   ∀x hs,post x hs→wv inc fun e=>x=v.val (ρ.ext e)∧hs=new.map (Ck.den (ρ.ext e))∧VC P al r (ρ.ext e) L
 | .ext f args use inc v new r,ρ,L=>
  ∃post,UM P f (SV.bD ρ args) (use.map (Ck.den ρ)) post∧
   ∀x hs,post x hs→wv inc fun e=>x=v.val (ρ.ext e)∧hs=new.map (Ck.den (ρ.ext e))∧VC P al r (ρ.ext e) L
 | .loop up inc eqs body,ρ,L=>
  ∃(I:Ext→Prop) (μ:Ext→Nat),(wv inc fun e=>TJ (ρ.ext e) ρ eqs (I e))∧
   yx inc fun e=>I e→VC P al body (ρ.ext e) (uX L up ⟨I,μ,e⟩)
 | .back up c0 inc eqs,ρ,L=>
  wv inc fun e=>TJ ((ρ.take c0).ext e) ρ eqs ((L up).I e∧(L up).μ e<(L up).μ (L up).cur)
 | .join up inc body r,ρ,L=>
  ∃I:Ext→Prop,VC P al body ρ (uX L up ⟨I,fun _=>0,⟨[],[],[],[],[],[],[]⟩⟩)∧yx inc fun e=>I e→VC P al r (ρ.ext e) L
 | .meet up c0 inc eqs,ρ,L=>
  wv inc fun e=>TJ ((ρ.take c0).ext e) ρ eqs ((L up).I e)
 | .both a b,ρ,L=>VC P al a ρ L∧VC P al b ρ L
 | .ghost use inc eqs new r,ρ,L=>
  ∃I:Ext→Prop,(∀w Fs,bG (use.map (Ck.den ρ)++Fs) w→wv inc fun e=>TJ (ρ.ext e) ρ eqs (bG (new.map (Ck.den (ρ.ext e))++Fs) w∧I e))∧
   yx inc fun e=>I e→VC P al r (ρ.ext e) L
def aw(f:Nat→Int)(i:Nat)(v:Int):Nat→Int:=fun j=>if j=i then v else f j
def Mr(l:List Int):Nat→Int:=fun j=>l.getD j 0
def bS(f:Nat→Int)(o:Nat):Nat→Int:=fun j=>f (o+j)
def bQ(f:Nat→Int)(o n:Nat)(g:Nat→Int):Nat→Int:=fun j=>if o≤j∧j<o+n then g (j - o)else f j
section
variable (ρ:Env)
theorem bB(a b:E):(dB a b).den ρ 0=a.den ρ 0+b.den ρ 0:=by
 unfold dB;split<;>simp_all [E.den,ar]
theorem eZ(a b:E):(sC a b).den ρ 0=a.den ρ 0 - b.den ρ 0:=by
 unfold sC;split<;>simp_all [E.den,ar]
theorem gW(a b:E):(ql a b).den ρ 0=a.den ρ 0*b.den ρ 0:=by
 unfold ql;split<;>simp_all [E.den,ar]
theorem eB(a o:E)(j:Nat):(kF a o).den ρ j=a.den ρ ((o.den ρ 0).toNat+j):=by
 unfold kF;split<;>simp_all [E.den]
theorem yy(v:E)(j:Nat):(BR v).den ρ j=v.den ρ 0:=by
 unfold BR;split
 ·rename_i h;cases v<;>first | rfl | (simp [E.YO]at h;done)
 ·simp [E.den]
theorem cJ(a i:E)(j:Nat):(eu a i).den ρ j=a.den ρ (i.den ρ 0).toNat:=by
 induction a generalizing i j with
 | lit n=>unfold eu;rfl
 | m7 b i' v qj _ ihv=>
  unfold eu;split
  ·rename_i h;cases h
  ·rename_i h;cases h
  ·rename_i jj ii h;cases h;split
   ·rename_i he;simp only [E.den,he,if_true];exact yy ρ v j
   ·rename_i he;rw [qj];exact(if_neg he).symm
  ·rename_i h;cases h
  ·rename_i h;cases h
  ·rename_i heq _;cases heq;split
   ·rename_i he;subst he;simp only [E.den,if_true];exact yy ρ _ j
   ·rfl
  ·rfl
 | shift b o qj _=>
  unfold eu;split
  ·rename_i h;cases h
  ·rename_i h;cases h
  ·rename_i h;cases h
  ·rename_i h;cases h;rw [qj];simp only [E.den,aqD]
  ·rename_i h;cases h
  ·rename_i heq _;cases heq
  ·rfl
 | jl b o n x qj _ _ YP=>
  unfold eu;split
  ·rename_i h;cases h
  ·rename_i h;cases h
  ·rename_i h;cases h
  ·rename_i h;cases h
  ·rename_i h;cases h;split
   ·rename_i hc;rw [YP];simp only [E.den,aqD];exact(if_pos hc).symm
   ·rename_i hc;rw [qj];exact(if_neg hc).symm
  ·rename_i heq _;cases heq
  ·rfl
 | var n=>unfold eu;rfl
 | cI n=>unfold eu;rfl
 | Qk a b _ _=>unfold eu;rfl
 | bin o k a b _ _=>unfold eu;rfl
 | wrap k a _=>unfold eu;rfl
 | kc n a _=>unfold eu;rfl
 | sA b=>unfold eu;rfl
 | QU a i _ _=>unfold eu;rfl
 | qi a i s _ _ _=>unfold eu;rfl
 | TB s _=>unfold eu;rfl
 | pV l=>
  unfold eu;split
  ·rename_i h;cases h
  ·rename_i h;cases h;rfl
  ·rename_i h;cases h
  ·rename_i h;cases h
  ·rename_i h;cases h
  ·rename_i h _;cases h
  ·rfl
theorem cR(n:Int)(j:Nat):(E.lit n).den ρ j=n:=rfl
theorem tE(a i v:E)(j:Nat):(E.m7 a i v).den ρ j=if j=(i.den ρ 0).toNat then v.den ρ 0 else a.den ρ j:=rfl
theorem Ib(a o n b:E)(j:Nat):(E.jl a o n b).den ρ j=if(o.den ρ 0).toNat≤j∧j<(o.den ρ 0).toNat+(n.den ρ 0).toNat then b.den ρ (j - (o.den ρ 0).toNat)else a.den ρ j:=rfl
theorem j5(a i s:E):(E.qi a i s).den ρ=Dw (a.den ρ) (i.den ρ 0).toNat (s.den ρ):=rfl
theorem Ic(a i:E):(E.QU a i).den ρ=pW (a.den ρ) (i.den ρ 0).toNat:=rfl
theorem Jv(a i:E)(k:Nat):(BS a i).den ρ k=pW (a.den ρ) (i.den ρ 0).toNat k:=by
 induction a generalizing k with
 | qi a jj s lC ihj ihs=>
  rw [j5,jX];unfold BS;split
  ·rename_i heq;cases heq
  ·rename_i heq;cases heq;split
   ·rename_i he;rw [cR,cR,if_pos he]
   ·rename_i he;rw [lC,cR,cR,if_neg he]
  ·rename_i heq _;cases heq;split
   ·rename_i he;subst he;rw [if_pos rfl]
   ·rw [Ic,j5,jX]
  ·rw [Ic,j5,jX]
 | lit n=>unfold BS;rfl
 | _=>unfold BS;rfl
theorem yz(a i:E):(BS a i).den ρ=pW (a.den ρ) (i.den ρ 0).toNat:=funext (Jv ρ a i)
theorem mD(l:List UInt8):(Aw l).den ρ=Jo l:=by
 funext j;cases j with
 | zero=>simp [Aw,E.den,Jo]
 | succ j=>
  simp only [Aw,E.den,Jo,List.getD_cons_succ];by_cases h:j<l.length
  ·simp [List.getD,List.getElem?_eq_getElem h]
  ·simp [List.getD,aq3 (Nat.le_of_not_lt h)]
theorem Gd(f:Nat→Int){j:Nat}(h:j<(f 0).toNat):(dc f)[j]? =some (UInt8.ofNat (f (j+1)).toNat):=by
 simp [dc,List.getElem?_range h]
theorem Ge(l:List UInt8)(j:Nat):(E.pV (l.map fun b=>((b.toNat:Nat):Int))).den ρ j=((l.getD j 0).toNat:Nat):=by
 simp only [E.den];by_cases h:j<l.length
 ·simp [List.getD,List.getElem?_eq_getElem h]
 ·simp [List.getD,aq3 (Nat.le_of_not_lt h)]
theorem Dz(s:E):(Jw s).den ρ=Jp (s.den ρ):=by
 unfold Jw;split
 ·rename_i n l;split
  ·rename_i h;funext j;simp only [E.den,Jp,List.getD_cons_succ];by_cases hj:j<l.length
   ·have:=aqn.1 h l[j] (List.getElem_mem hj);simp only [ai,decide_eq_true_eq]at this;simp only [List.getD,List.getElem?_eq_getElem hj,Option.getD_some];have h2:(UInt8.ofNat l[j].toNat).toNat=l[j].toNat:=by
     rw [UInt8.toNat_ofNat'];omega
    rw [h2];omega
   ·simp [List.getD,aq3 (Nat.le_of_not_lt hj)]
  ·rfl
 ·rfl
theorem AZ(s:E):(∃l,mkStr s= .str l∧l=dc (s.den ρ))∨mkStr s= .lD s:=by
 unfold mkStr;split
 ·rename_i n l;split
  ·rename_i h;simp only [ai,beq_iff_eq]at h;obtain⟨rfl,h⟩:=h;left;refine⟨_,rfl,?_⟩;apply List.ext_getElem?;intro j;by_cases hj:j<l.length
   ·rw [Gd _ (by simpa [E.den] using hj),List.getElem?_map,List.getElem?_eq_getElem hj];simp [E.den,List.getD,List.getElem?_eq_getElem hj]
   ·rw [aq3 (by simp;omega),aq3 (by rw [cS];simp [E.den];omega)]
  ·exact .inr rfl
 ·exact .inr rfl
theorem DA(s:E):SV.cells ρ (mkStr s)=[.string ⟨(dc (s.den ρ)).toArray⟩]:=by
 rcases AZ ρ s with⟨l,h,rfl⟩ | h<;>rw [h]<;>rfl
theorem oz(s:E):(mkStr s).val ρ= .string ⟨(dc (s.den ρ)).toArray⟩:=by
 rcases AZ ρ s with⟨l,h,rfl⟩ | h<;>rw [h]<;>rfl
theorem gX(s:E):(kX s).den ρ 0=s.den ρ 0:=by rw [kX,cJ];rfl
theorem Jx(s:E):((dc (s.den ρ)).length:Int)=max 0 ((kX s).den ρ 0):=by rw [cS,gX];omega
theorem sD{v:SV}{s:E}(h:qm v=some s):v.val ρ= .string ⟨(dc (s.den ρ)).toArray⟩:=by
 unfold qm at h;split at h
 ·cases h;rw [mD,ou];rfl
 ·cases h;rfl
 ·cases h
theorem kG(f:Nat→Int){j:Nat}(h:j<(f 0).toNat):(dc f)[j]? =some (UInt8.ofNat (f (j+1)).toNat):=by
 simp [dc,List.getElem?_range h]
theorem sE(a n:E):dc ((sF a n).den ρ)=(List.range (n.den ρ 0).toNat).map fun j=>UInt8.ofNat (a.den ρ j).toNat:=by
 unfold dc;have h0:(sF a n).den ρ 0=n.den ρ 0:=by simp [sF,E.den]
 rw [h0];refine List.map_congr_left fun j hj=>?_
 have hj:=aqE.1 hj;have:(sF a n).den ρ (j+1)=a.den ρ j:=by
  rw [sF,tE,cR,if_neg (by simp),Ib,cR,if_pos (by simp;omega)];congr 1
 rw [this]
theorem Jy(s lo hi:E)(hl:0≤lo.den ρ 0)(hlh:lo.den ρ 0≤hi.den ρ 0)(hh:hi.den ρ 0≤s.den ρ 0):
  dc ((A_ s lo hi).den ρ)=((dc (s.den ρ)).take (hi.den ρ 0).toNat).drop (lo.den ρ 0).toNat:=by
 have h0:(A_ s lo hi).den ρ 0=hi.den ρ 0 - lo.den ρ 0:=by
  unfold A_;split<;>simp [E.den,eZ]
 have hj: ∀j,(A_ s lo hi).den ρ (j+1)=s.den ρ ((lo.den ρ 0).toNat+j+1):=by
  intro j;unfold A_;split
  ·rw [tE,cR,if_neg (by simp),eB,tE,cR,if_neg (by simp)];congr 1
  ·rw [tE,cR,if_neg (by simp),eB];congr 1
 apply List.ext_getElem?;intro j;rw [List.getElem?_drop,List.getElem?_take];by_cases hc:j<(hi.den ρ 0 - lo.den ρ 0).toNat
 ·rw [kG _ (by rw [h0];exact hc),if_pos (by omega),kG _ (by omega),hj]
 ·rw [aq3 (by rw [cS,h0];omega),if_neg (by omega)]
theorem Ms(s t:E)(hs:0≤s.den ρ 0)(ht:0≤t.den ρ 0):dc ((Jz s t).den ρ)=dc (s.den ρ)++dc (t.den ρ):=by
 have h0:(Jz s t).den ρ 0=s.den ρ 0+t.den ρ 0:=by simp [Jz,E.den,bB,gX]
 have hj: ∀j,(Jz s t).den ρ (j+1)=if(s.den ρ 0).toNat≤j∧j<(s.den ρ 0).toNat+(t.den ρ 0).toNat then t.den ρ (j - (s.den ρ 0).toNat+1)else s.den ρ (j+1):=by
  intro j;rw [Jz,tE,cR,if_neg (by simp),Ib];simp only [bB,gX,cR,eB];have e:(s.den ρ 0+1).toNat=(s.den ρ 0).toNat+1:=by omega
  rw [e];by_cases hc:(s.den ρ 0).toNat≤j∧j<(s.den ρ 0).toNat+(t.den ρ 0).toNat
  ·rw [if_pos (by omega),if_pos hc];congr 1;simp only [show(1:Int).toNat=1 from rfl];omega
  ·rw [if_neg (by omega),if_neg hc]
 apply List.ext_getElem?;intro j;by_cases hc:j<(s.den ρ 0+t.den ρ 0).toNat
 ·rw [kG _ (by rw [h0];exact hc),hj];by_cases hc2:j<(s.den ρ 0).toNat
  ·rw [if_neg (by omega),aqs (by rw [cS];exact hc2),kG _ hc2]
  ·rw [if_pos (by omega),aqt (by rw [cS];omega),cS,kG _ (by omega)]
 ·rw [aq3 (by rw [cS,h0];omega),aq3 (by rw [aql,cS,cS];omega)]
theorem DB(a b:E):(QZ a b).den ρ=(dc (a.den ρ)==dc (b.den ρ)):=by
 unfold QZ;by_cases h:a=b
 ·rw [if_pos h,h];simp [BE.den]
 ·rw [if_neg h];rfl
theorem kY(o:YM)(k:IntKind)(a b:E):(sG o k a b).den ρ 0=ar o k (a.den ρ 0) (b.den ρ 0):=by
 unfold sG;split<;>rfl
theorem JA(k:IntKind)(a:E):(Mt k a).den ρ 0=k.wrap (a.den ρ 0):=by
 unfold Mt;split<;>rfl
theorem xM(a:E):(Q0 a).den ρ= !(a.den ρ 0==0):=by
 unfold Q0;split<;>rfl
theorem nm(a b:E):(Ql a b).den ρ=(a.den ρ 0==b.den ρ 0):=by
 unfold Ql;split
 ·rfl
 ·split<;>simp_all [BE.den]
theorem tF(a b:E):(Gf a b).den ρ=decide (a.den ρ 0<b.den ρ 0):=by
 unfold Gf;split<;>rfl
theorem iA(a b:E):(wz a b).den ρ=decide (a.den ρ 0≤b.den ρ 0):=by
 unfold wz;split<;>rfl
theorem dE(b:BE):(jT b).den ρ= !b.den ρ:=by
 unfold jT;split<;>simp [BE.den]
theorem oA(a b:BE):(Ax a b).den ρ=(a.den ρ&&b.den ρ):=by
 unfold Ax;split<;>simp [BE.den]
theorem Ie(a b:BE):(bOr a b).den ρ=(a.den ρ||b.den ρ):=by
 unfold bOr;split<;>simp [BE.den]
theorem oB(c a b:BE):(DC c a b).den ρ=if c.den ρ then a.den ρ else b.den ρ:=by
 unfold DC;split
 ·simp [BE.den]
 ·simp [BE.den]
 ·rw [Ie];simp [BE.den]
 ·rw [oA];simp [BE.den]
 ·rfl
theorem aD(k:IntKind)(n:Nat)(f:Nat→Int):(aj k n f).length=n:=by simp [aj]
theorem bt(k:IntKind)(n:Nat)(f:Nat→Int)(j:Nat):(aj k n f)[j]? =if j<n then some (.int k (f j))else none:=by
 unfold aj;rw [List.getElem?_map];by_cases h:j<n
 ·rw [List.getElem?_range h,if_pos h];rfl
 ·rw [aq3 (by simp;omega),if_neg h];rfl
theorem cn(k:IntKind)(n:Nat){f g:Nat→Int}(h: ∀j,j<n→f j=g j):aj k n f=aj k n g:=by
 unfold aj;exact List.map_congr_left fun j hj=>by rw [h j (aqE.1 hj)]
theorem fM(k:IntKind)(n m:Nat)(f:Nat→Int)(h:m≤n):(aj k n f).take m=aj k m f:=by
 unfold aj;rw [←List.map_take,List.take_range,Nat.min_eq_left h]
theorem rW(k:IntKind)(n m:Nat)(f:Nat→Int):(aj k n f).drop m=aj k (n - m) fun j=>f (m+j):=by
 apply List.ext_getElem?;intro j;rw [List.getElem?_drop,bt,bt];by_cases h:m+j<n
 ·rw [if_pos h,if_pos (by omega)]
 ·rw [if_neg h,if_neg (by omega)]
mutual
theorem tG: ∀v:SV,(SV.cells ρ v).length=v.width
 | .agg cs=>by simp only [SV.cells,SV.width];exact bh cs
 | .cQ k n a=>by simp [SV.cells,SV.width,aD]
 | .int .. =>rfl
 | .bool _=>rfl
 | .cg=>rfl
 | .bu=>rfl
 | .jS=>rfl
 | .ov=>rfl
 | .m9=>rfl
 | .undef=>rfl
 | .ptr .. =>rfl
 | .pX .. =>rfl
 | .pv .. =>rfl
 | .sl .. =>rfl
 | .vv _=>rfl
 | .str _=>rfl
 | .fn .. =>rfl
 | .fm .. =>rfl
 | .nO _=>rfl
 | .opt .. =>rfl
 | .Dx .. =>rfl
 | .Jq _=>rfl
 | .mp _=>rfl
 | .jo .. =>rfl
 | .ji _=>rfl
 | .lD _=>rfl
 | .Ga .. =>rfl
 | .Mk .. =>rfl
 | .QV .. =>rfl
 | .Ml .. =>rfl
 | .Ia _=>rfl
theorem bh: ∀l:List SV,(SV.ao ρ l).length=SV.o3 l
 | []=>rfl
 | v::r=>by simp only [SV.ao,SV.o3,aql];rw [tG v,bh r]
end
theorem hY(a b:List SV):SV.ao ρ (a++b)=SV.ao ρ a++SV.ao ρ b:=by
 induction a with
 | nil=>rfl
 | cons v r ih=>simp only [List.cons_append,SV.ao,ih,List.append_assoc]
def SV.plain:SV→Bool
 | .agg _=>false
 | .cQ .. =>false
 | _=>true
theorem iK{v:SV}(h:v.plain=true):SV.cells ρ v=[v.val ρ]:=by
 cases v<;>simp_all [SV.plain,SV.cells,SV.val]
theorem Ay(d:Nat){v:SV}(h:v.plain=true)(r:List SV):gg (d+1) (v::r)=gg d r:=by
 cases v<;>simp_all [SV.plain,gg]
theorem Az(d:Nat){v:SV}(h:v.plain=true)(r:List SV):iT (d+1) (v::r)=(iT d r).map (v:: ·):=by
 cases v<;>simp_all [SV.plain,iT]
theorem eR: ∀(cs:List SV) (d:Nat) (r:List SV),gg d cs=some r→SV.ao ρ r=(SV.ao ρ cs).drop d
 | cs,0,r,h=>by simp [gg]at h;subst h;rfl
 | [],d+1,r,h=>by simp [gg]at h;subst h;simp [SV.ao]
 | v::cs,d+1,r,h=>by
  by_cases hp:v.plain=true
  ·rw [Ay d hp]at h;rw [eR cs d r h];simp [SV.ao,iK ρ hp]
  ·cases v with
   | agg x=>simp [gg]at h
   | cQ k n a=>
    simp only [gg]at h;simp only [SV.ao,SV.cells];split at h
    ·rename_i cq;simp only [aqp]at h;subst h;simp only [SV.ao,SV.cells];rw [List.drop_append_of_le_length (by rw [aD];omega),rW];congr 1;apply cn;intro j _;rw [eB];rfl
    ·rename_i lN;rw [eR cs _ r h,List.drop_append,aD,List.drop_of_length_le (l:=aj k n _) (by rw [aD];omega)];rfl
   | _=>simp [SV.plain]at hp
theorem jq: ∀(cs:List SV) (d:Nat) (r:List SV),iT d cs=some r→SV.ao ρ r=(SV.ao ρ cs).take d
 | cs,0,r,h=>by simp [iT]at h;subst h;simp [SV.ao]
 | [],d+1,r,h=>by simp [iT]at h;subst h;simp [SV.ao]
 | v::cs,d+1,r,h=>by
  by_cases hp:v.plain=true
  ·rw [Az d hp,aqq]at h;obtain⟨x,hx,rfl⟩:=h;simp [SV.ao,iK ρ hp,jq cs d x hx]
  ·cases v with
   | agg x=>simp [iT]at h
   | cQ k n a=>
    simp only [iT]at h;simp only [SV.ao,SV.cells];split at h
    ·rename_i hle;simp only [aqp]at h;subst h;simp only [SV.ao,SV.cells,List.append_nil];rw [List.take_append_of_le_length (by rw [aD];omega),fM _ _ _ _ hle]
    ·rename_i hgt;rw [aqq]at h;obtain⟨x,hx,rfl⟩:=h;simp only [SV.ao,SV.cells];rw [jq cs _ x hx,List.take_append,aD,List.take_of_length_le (l:=aj k n _) (by rw [aD];omega)]
   | _=>simp [SV.plain]at hp
theorem eK{c size:Nat}{cs r:List SV}(h:jy c size cs=some r):
  SV.ao ρ r=((SV.ao ρ cs).drop c).take size∧c+size≤(SV.ao ρ cs).length:=by
 unfold jy at h;split at h
 ·rename_i hle;split at h
  ·rename_i x hx;exact⟨by rw [jq ρ _ _ _ h,eR ρ _ _ _ hx],by rw [bh];exact hle⟩
  ·cases h
 ·cases h
theorem lS{c:Nat}{vs cs r:List SV}(h:uZ c vs cs=some r):
  SV.ao ρ r=(SV.ao ρ cs).take c++SV.ao ρ vs++(SV.ao ρ cs).drop (c+(SV.ao ρ vs).length)∧
   c+(SV.ao ρ vs).length≤(SV.ao ρ cs).length:=by
 unfold uZ at h;split at h
 ·rename_i hle;split at h
  ·rename_i x y hx hy;simp only [aqp]at h;subst h;rw [hY,hY,jq ρ _ _ _ hx,eR ρ _ _ _ hy,bh,bh];exact⟨rfl,hle⟩
  ·cases h
 ·cases h
theorem np{agg:Bool}{cs:List SV}{v:SV}(h:iU agg cs=some v):
  (agg=true→v.val ρ= .agg (SV.ao ρ cs).toArray)∧(agg=false→SV.ao ρ cs=[v.val ρ]):=by
 unfold iU at h;split at h
 ·rename_i ha;simp only [aqp]at h;subst h;simp [ha,SV.val]
 ·rename_i ha;refine⟨fun hc=>absurd hc ha,fun _=>?_⟩;split at h
  ·simp only [aqp]at h;subst h;simp [SV.ao,SV.cells,SV.val,aj,cJ,E.den]
  ·cases h
  ·cases h
  ·rename_i v' h1 h2 h3;simp only [aqp]at h;subst h;have hp:v'.plain=true:=by
    cases v' with
    | agg cs=>exact absurd rfl (h3 cs)
    | cQ k n a=>exact absurd rfl (h2 k n a)
    | _=>rfl
   simp [SV.ao,iK ρ hp]
  ·cases h
structure Env.Ok (ρ:Env):Prop where
theorem Env.ok(ρ:Env):ρ.Ok:=⟨⟩
theorem Env.Ok.vvD{ρ:Env}(_:ρ.Ok)(i:Nat):(ρ.vv.getD i V1.nil).v.oneCell'=true:=(ρ.vv.getD i V1.nil).one
theorem Env.Ok.vaD{ρ:Env}(_:ρ.Ok)(i j:Nat):((ρ.va.getD i fun _=>V1.nil) j).v.oneCell'=true:=((ρ.va.getD i fun _=>V1.nil) j).one
theorem BT{v:Value}(h:v.oneCell'=true):v.cells= #[v]:=by
 cases v<;>simp_all [Value.oneCell',Value.cells]
theorem Ig{v:SV}(h:v.one=true)(hs:v.plain=true)(jf:ρ.Ok):(v.val ρ).oneCell'=true:=by
 cases v with
 | vv i=>simp only [SV.val];exact jf.vvD i
 | Dx a i=>simp only [SV.val];exact jf.vaD a _
 | ji e=>simp only [SV.val];exact Dy _
 | Ia e=>simp only [SV.val];exact mA _
 | pv v i s c=>simp only [SV.val,ft];split<;>rfl
 | Ml v i s c n=>simp only [SV.val,yr];split<;>rfl
 | jo v cs s=>simp only [SV.val];exact nP _ _ _ _ (ρ.vv.getD v V1.nil).one
 | Ga c v=>simp only [SV.val];split<;>first | rfl | (unfold tA;split<;>rfl)
 | _=>first | rfl | simp_all [SV.one,SV.plain]
theorem JB{v:SV}(h:v.one=true)(jf:ρ.Ok): ∀u∈SV.cells ρ v,u.oneCell'=true:=by
 by_cases hs:v.plain=true
 ·rw [iK ρ hs];intro u hu;rw [aqx]at hu;subst hu;exact Ig ρ h hs jf
 ·cases v with
  | agg x=>simp [SV.one]at h
  | cQ k n a=>
   intro u hu;simp only [SV.cells,aj,aqV]at hu;obtain⟨j,_,rfl⟩:=hu;rfl
  | _=>simp [SV.plain]at hs
theorem mE{l:List SV}(h:l.all SV.one=true)(jf:ρ.Ok): ∀u∈SV.ao ρ l,u.oneCell'=true:=by
 induction l with
 | nil=>intro u hu;cases hu
 | cons v r ih=>
  rw [List.all_cons,ai]at h;intro u hu;simp only [SV.ao,aqC]at hu;exact hu.elim (JB ρ h.1 jf u) (ih h.2 u)
theorem jr{v:SV}{cs:List SV}(h:eM v=some cs)(jf:ρ.Ok):
  (v.val ρ).cells.toList=SV.ao ρ cs∧∀u∈SV.ao ρ cs,u.oneCell'=true:=by
 by_cases hs:v.plain=true
 ·have h1:v.one=true∧cs=[v]:=by
   cases v<;>simp_all [eM,SV.plain]
  obtain⟨h1,rfl⟩:=h1;have h2:=Ig ρ h1 hs jf;refine⟨?_,mE ρ (by simp [h1]) jf⟩;rw [BT h2];simp [SV.ao,iK ρ hs]
 ·cases v with
  | agg x=>
   simp only [eM]at h;split at h
   ·rename_i ha;simp only [aqp]at h;subst h;exact⟨by simp [SV.val,Value.cells],mE ρ ha jf⟩
   ·cases h
  | cQ k n a=>
   simp only [eM,SV.one,if_true,aqp]at h;subst h;exact⟨by simp [SV.val,Value.cells,SV.ao,SV.cells],mE ρ (by simp [SV.one]) jf⟩
  | _=>simp [SV.plain]at hs
theorem AA(v:Value)(x:SV)(h:ofValue v=some x)(hn: ∀l,v≠ .agg l):x.plain=true:=by
 unfold ofValue at h;split at h<;>simp_all<;>(subst h;rfl)
mutual
theorem qn: ∀(v:Value) (x:SV),ofValue v=some x→x.val ρ=v
 | .int k n,x,h=>by simp [ofValue]at h;subst h;rfl
 | .bool b,x,h=>by simp [ofValue]at h;subst h;rfl
 | .pointer none,x,h=>by simp [ofValue]at h;subst h;rfl
 | .pointer (some _),x,h=>by simp [ofValue]at h
 | .slice none 0 0,x,h=>by simp [ofValue]at h;subst h;rfl
 | .slice none (_+1) _,x,h=>by simp [ofValue]at h
 | .slice none 0 (_+1),x,h=>by simp [ofValue]at h
 | .slice (some _) _ _,x,h=>by simp [ofValue]at h
 | .nilFunc,x,h=>by simp [ofValue]at h;subst h;rfl
 | .nilIface,x,h=>by simp [ofValue]at h;subst h;rfl
 | .map none,x,h=>by simp [ofValue]at h;subst h;rfl
 | .map (some _),x,h=>by simp [ofValue]at h
 | .string ⟨⟨l⟩⟩,x,h=>by simp [ofValue]at h;subst h;rfl
 | .tuple ⟨[]⟩,x,h=>by simp [ofValue]at h;subst h;rfl
 | .tuple ⟨_::_⟩,x,h=>by simp [ofValue]at h
 | .agg ⟨l⟩,x,h=>by
  simp only [ofValue,aqq]at h;obtain⟨y,hy,rfl⟩:=h;simp only [SV.val];rw [qo l y hy]
 | .float ..,x,h=>by simp [ofValue]at h
 | .complex ..,x,h=>by simp [ofValue]at h
 | .chan _,x,h=>by simp [ofValue]at h
 | .func ..,x,h=>by simp [ofValue]at h
 | .iface ..,x,h=>by simp [ofValue]at h
theorem qo: ∀(l:List Value) (xs:List SV),ofValues l=some xs→SV.ao ρ xs=l
 | [],xs,h=>by simp [ofValues]at h;subst h;rfl
 | v::r,xs,h=>by
  unfold ofValues at h;split at h
  ·rename_i heq;cases heq
  ·cases h
  ·rename_i v' r' hn heq;cases heq;split at h
   ·rename_i x xs' hx Gg;simp only [aqp]at h;subst h;have hp:=AA v x hx (fun l e=>hn l e);simp only [SV.ao,iK ρ hp,qn v x hx,qo r xs' Gg];rfl
   ·cases h
end
end
def iV:Option TypeDesc→TK→Bool
 | some (.int k),.int k'=>k==k'
 | some .bool,.bool=>true
 | some .string,.str=>true
 | some (.pointer e),.ptr e'=>e==e'
 | some (.slice e),.slice e'=>e==e'
 | some (.array n e),.arr n' e'=>n==n'&&e==e'
 | some (.struct fs),.struct l=>fs.toList.map (fun f=>(f.type,f.offset))==l
 | some (.struct fs),.Ih l _=>fs.toList.map (fun f=>(f.type,f.offset))==l
 | some (.map k e),.map k' e'=>k==k'&&e==e'
 | some (.func ..),.func=>true
 | some (.interface _),.iface=>true
 | _,_=>false
def isInt(k:IntKind)(m:Int):Value→Bool
 | .int k' n=>k==k'&&n==m
 | _=>false
def Mu(x:SV)(vs:List Value):Option (List Value):=
 match x with
 | .cQ k n (.lit m)=>if n≤vs.length∧(vs.take n).all (isInt k m)=true then some (vs.drop n)else none
 | x=>match vs with
  | v::r=>match ofValue v with
   | some y=>match x,y with
    | .int k (.lit m),.int k' (.lit m')=>if k=k'∧m=m' then some r else none
    | .bool (.lit b),.bool (.lit b')=>if b=b' then some r else none
    | .cg,.cg=>some r
    | .bu,.bu=>some r
    | .jS,.jS=>some r
    | .ov,.ov=>some r
    | .m9,.m9=>some r
    | .str l,.str l'=>if l=l' then some r else none
    | _,_=>none
   | none=>none
  | []=>none
def DE:List Value→List SV→Bool
 | vs,[]=>vs.isEmpty
 | vs,x::r=>match Mu x vs with
  | some FO=>DE FO r
  | none=>false
theorem Mv{k:IntKind}{m:Int}{v:Value}(h:isInt k m v=true):v= .int k m:=by
 cases v<;>simp_all [isInt]
theorem DF(ρ:Env){x:SV}{vs FO:List Value}(h:Mu x vs=some FO):vs=SV.cells ρ x++FO:=by
 unfold Mu at h;split at h
 ·rename_i k n m;split at h
  ·rename_i hc;simp only [aqp]at h;subst h;have:aj k n (E.den ρ (.lit m))=vs.take n:=by
    apply List.ext_getElem?;intro j;rw [bt];by_cases hj:j<n
    ·rw [if_pos hj,List.getElem?_take_of_lt hj];have cq:j<vs.length:=by omega
     rw [List.getElem?_eq_getElem cq];have:=aqn.1 hc.2 vs[j] (by
      rw [←List.getElem_take (xs:=vs) (j:=n) (h:=by simp;omega)];exact List.getElem_mem _)
     rw [Mv this];rfl
    ·rw [if_neg hj,aq3 (by simp;omega)]
   simp only [SV.cells,this,List.take_append_drop]
  ·cases h
 ·split at h
  ·rename_i v r;split at h
   ·rename_i y hy;have hv:=qn ρ v y hy;subst hv;split at h
    all_goals first
     | (simp only [aqp]at h;subst h;rfl)
     | (
       split at h
       ·rename_i hc;simp only [aqp]at h;subst h
        first | (obtain⟨rfl,rfl⟩:=hc;rfl) | (subst hc;rfl)
       ·cases h)
     | cases h
   ·cases h
  ·cases h
theorem wA(ρ:Env): ∀(l:List SV) (vs:List Value),DE vs l=true→SV.ao ρ l=vs
 | [],vs,h=>by
  cases vs with
  | nil=>rfl
  | cons v r=>simp [DE]at h
 | x::r,vs,h=>by
  unfold DE at h;split at h
  ·rename_i FO hz;rw [DF ρ hz,SV.ao,wA ρ r FO h]
  ·cases h
def kH(P:Program)(f:TypeId→Option (List iB)):List Field→Nat→Option (List iB)
 | [],_=>some []
 | fd::r,off=>
  if fd.name== "_" ||fd.offset != off then none else
  match f fd.type with
  | some l=>if P.cellsOf fd.type==l.length then(kH P f r (off+l.length)).map (l++ ·)else none
  | none=>none
def fY(P:Program):Nat→TypeId→Option (List iB)
 | 0,_=>none
 | d+1,t=>
  match P.underlying t with
  | some (.int k)=>some [some k]
  | some .bool=>some [none]
  | some (.array n e)=>match fY P d e with
   | some l=>if P.cellsOf e==l.length then some (List.replicate n l).flatten else none
   | none=>none
  | some (.struct fs)=>if P.stoodInHeld t then none else kH P (fY P d) fs.toList 0
  | _=>none
def TL(P:Program)(ti:TI):Bool:=
 ti.lay.isEmpty||(fY P 12 ti.t==some (kZ ti.lay)&& !P.eqGuardType P.depth ti.t)
def UN(P:Program)(ti:TI):Bool:=
 iV (P.underlying ti.t) ti.k&&TL P ti&&SV.o3 ti.zero==ti.size&&
 match P.info? ti.t with
 | some i=>i.size==ti.size&&i.bytes==ti.bytes&&ti.zero.all SV.one&&
  match i.zero with
  | some z=>DE z.cells.toList ti.zero&&(match z with | .agg _=>ti.k.agg | _=> !ti.k.agg)
  | none=>false
 | none=>false
def bx(P:Program)(T:List TI):Bool:=T.all (UN P)
structure kz (P:Program) (ti:TI):Prop where
 kind:iV (P.underlying ti.t) ti.k=true
 lay:ti.lay.isEmpty=true∨(fY P 12 ti.t=some (kZ ti.lay)∧P.eqGuardType P.depth ti.t=false)
 one:ti.zero.all SV.one=true
 AB:SV.o3 ti.zero=ti.size
 zag: ∀i z,P.info? ti.t=some i→i.zero=some z→(match z with | .agg _=>ti.k.agg | _=> !ti.k.agg)=true
 info: ∃i,P.info? ti.t=some i∧i.size=ti.size∧i.bytes=ti.bytes∧∃z,i.zero=some z∧∀ρ,SV.ao ρ ti.zero=z.cells.toList
theorem JC{P:Program}{ti:TI}(h:UN P ti=true):kz P ti:=by
 unfold UN at h;rw [ai,ai,ai,beq_iff_eq]at h;obtain⟨⟨⟨hk,hl⟩,Qm⟩,h⟩:=h;have LD:ti.lay.isEmpty=true∨(fY P 12 ti.t=some (kZ ti.lay)∧P.eqGuardType P.depth ti.t=false):=by
  unfold TL at hl;rw [Bool.or_eq_true,ai,beq_iff_eq,Bool.not_eq_true']at hl;exact hl
 split at h
 ·rename_i i hi;simp only [ai,beq_iff_eq]at h;obtain⟨⟨⟨h1,h2⟩,h4⟩,h3⟩:=h;split at h3
  ·rename_i z hz;rw [ai]at h3;exact⟨hk,LD,h4,Qm,fun i' z' dy Gi=>by rw [hi]at dy;cases dy;rw [hz]at Gi;cases Gi;exact h3.2,i,hi,h1,h2,z,hz,fun ρ=>wA ρ _ _ h3.1⟩
  ·cases h3
 ·cases h
theorem aA{P:Program}{T:List TI}(hT:bx P T=true){t:Nat}{ti:TI}(h:aP T t=some ti):ti.t=t∧kz P ti:=by
 unfold aP at h;have hm:=List.mem_of_find?_eq_some h;have ht:=List.find?_some h;simp only [beq_iff_eq]at ht;exact⟨ht,JC (aqn.1 hT ti hm)⟩
section
variable {P:Program} (w:World)
theorem kz.sizeOf{ti:TI}(h:kz P ti):(sizeOf ti.t).run P w= .ok ti.size w:=by
 obtain⟨i,hi,hs,_⟩:=h.info;simp [Go.sizeOf,typeInfo,hi,hs]
theorem kz.isAgg{ti:TI}(h:kz P ti):(isAgg ti.t).run P w= .ok ti.k.agg w:=by
 have hk:=h.kind;unfold iV at hk;split at hk<;>first | (cases hk;done) | skip
 all_goals (rename_i h1 h2;simp [Go.isAgg,run_underlying h1,h2,TK.agg])
theorem kz.zero{ti:TI}(h:kz P ti): ∃z,(zeroValue ti.t).run P w= .ok z w∧∀ρ,SV.ao ρ ti.zero=z.cells.toList:=by
 obtain⟨i,hi,_,_,z,hz,hc⟩:=h.info;exact⟨z,by simp [zeroValue,typeInfo,hi,hz],hc⟩
end
end Go.RX
