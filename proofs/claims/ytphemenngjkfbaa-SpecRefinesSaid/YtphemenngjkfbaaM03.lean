/- Executor. -/
import Derived.Test.YtphemenngjkfbaaRxD
open Bool renaming and_eq_true → ai
open List renaming all_eq_true → agv, append_assoc → ahf, append_nil → agL, getD_cons_succ → agY, getElem?_append_left → agC, getElem?_append_right → agD, getElem?_eq_getElem → ag6, getElem?_eq_none → ag7, map_congr_left → ag4, mem_map → ag9, mem_range → agJ, mem_singleton → agZ, range → ag5
open Option renaming getD_some → ahe, map_eq_some_iff → agz
open Option.some renaming injEq → agy
namespace Go.RX
def au(P:Program)(f:Nat)(args:List Value)(pre:List HP)(post:Value→List HP→Prop):Prop:=
 ∀(w:World) (Fs:List HP),aU (pre++Fs) w→
  Calls P f args.toArray w fun e w'=> ∃v hs,e= .returned v∧post v hs∧aU (hs++Fs) w'∧gu w w'
def U3(P:Program)(f:Nat)(args:List Value)(pre:List HP)(post:Value→List HP→Prop):Prop:=
 ∀(w:World) (Fs:List HP),aU (pre++Fs) w→
  ∃v hs w',(callFunc f args.toArray).run P w= .ok (.value v) w'∧post v hs∧aU (hs++Fs) w'∧gu w w'
structure Ext where
 b:List Nat
 v:List V1
 i:List Int
 a:List (Nat→Int)
 bo:List Bool
 p:List HP
 r:List Loop
def zP{α:Type}:Nat→(List α→Prop)→Prop
 | 0,f=>f []
 | n+1,f=> ∀x,zP n fun xs=>f (x::xs)
def NS{α:Type}:Nat→(List α→Prop)→Prop
 | 0,f=>f []
 | n+1,f=> ∃x,NS n fun xs=>f (x::xs)
def zQ(c:cF)(f:Ext→Prop):Prop:=
 zP c.b fun b=>zP c.v fun v=>zP c.i fun i=>zP c.a fun a=>zP c.bo fun bo=>zP c.p fun p=>zP c.r fun r=>f ⟨b,v,i,a,bo,p,r⟩
def xK(c:cF)(f:Ext→Prop):Prop:=
 NS c.b fun b=>NS c.v fun v=>NS c.i fun i=>NS c.a fun a=>NS c.bo fun bo=>NS c.p fun p=>NS c.r fun r=>f ⟨b,v,i,a,bo,p,r⟩
def Env.ext(ρ:Env)(x:Ext):Env:=
 {ρ with bv:=ρ.bv++x.b,vv:=ρ.vv++x.v,iv:=ρ.iv++x.i,av:=ρ.av++x.a,bo:=ρ.bo++x.bo,pv:=ρ.pv++x.p,lr:=ρ.lr++x.r}
def Env.take(ρ:Env)(c:cF):Env:=
 {ρ with bv:=ρ.bv.take c.b,vv:=ρ.vv.take c.v,iv:=ρ.iv.take c.i,av:=ρ.av.take c.a,bo:=ρ.bo.take c.bo,pv:=ρ.pv.take c.p,lr:=ρ.lr.take c.r}
def Env.nG(ρ:Env)(b:Nat):Env:={ρ with bv:=ρ.bv++[b]}
def Env.gI(ρ:Env)(v:V1):Env:={ρ with vv:=ρ.vv++[v]}
def eT.holds(ρ bI:Env):eT→Prop
 | .e x y=>x.den ρ 0=y.den bI 0
 | .a n x y=> ∀j,j<(n.den ρ 0).toNat→x.den ρ j=y.den bI j
 | .b x y=>x.den ρ=y.den bI
 | .af x y=>x.den ρ=y.den bI
 | .v i j=>ρ.vv.getD i V1.nil=bI.vv.getD j V1.nil
 | .p i j=>ρ.pv.getD i HP.emp=bI.pv.getD j HP.emp
 | .bl i j=>ρ.bv.getD i 0=bI.bv.getD j 0
 | .rc i j=>ρ.lr.getD i iG=bI.lr.getD j iG
def TP(ρ bI:Env):List eT→Prop→Prop
 | [],q=>q
 | x::r,q=>x.holds ρ bI∧TP ρ bI r q
structure LC where
 I:Ext→Prop
 μ:Ext→Nat
 cur:Ext
def LC.none:LC:=⟨fun _=>False,fun _=>0,⟨[],[],[],[],[],[],[]⟩⟩
def wC(L:Nat→LC)(i:Nat)(l:LC):Nat→LC:=fun j=>if j=i then l else L j
def aE(b r:Prop):Prop:=b∧(b→r)
def aK(c t e:Prop):Prop:=(c→t)∧(¬c→e)
def VC(P:Program)(aq:Value→List HP→Prop):F→Env→(Nat→LC)→Prop
 | .fail _ _,_,_=>False
 | .vc b r,ρ,L=>aE (b.prop ρ) (VC P aq r ρ L)
 | .fork c t e,ρ,L=>aK (c.prop ρ) (VC P aq t ρ L) (VC P aq e ρ L)
 | .ret v hp,ρ,_=>aq (v.val ρ) (hp.map (Ck.den ρ))
 | .yL r,ρ,L=> ∀b,VC P aq r (ρ.nG b) L
 | .zR r,ρ,L=> ∀v,VC P aq r (ρ.gI v) L
 | .wD true r,ρ,L=> ∀d l c,VC P aq r (ρ.ext ⟨[d,l],[],[],[],[],[],[c]⟩) L
 | .wD false r,ρ,L=> ∀l c,VC P aq r (ρ.ext ⟨[l],[],[],[],[],[],[c]⟩) L
 | .cC r,ρ,L=>VC P aq r (ρ.gI ⟨.slice none 0 0,rfl⟩) L
 | .call f args use inc v new r,ρ,L=>
  ∃post,au P f (SV.bQ ρ args) (use.map (Ck.den ρ)) post∧
   ∀x hs,post x hs→xK inc fun e=>x=v.val (ρ.ext e)∧hs=new.map (Ck.den (ρ.ext e))∧VC P aq r (ρ.ext e) L
 | .ext f args use inc v new r,ρ,L=>
  ∃post,U3 P f (SV.bQ ρ args) (use.map (Ck.den ρ)) post∧
   ∀x hs,post x hs→xK inc fun e=>x=v.val (ρ.ext e)∧hs=new.map (Ck.den (ρ.ext e))∧VC P aq r (ρ.ext e) L
 | .loop up inc eqs body,ρ,L=>
  ∃(I:Ext→Prop) (μ:Ext→Nat),(xK inc fun e=>TP (ρ.ext e) ρ eqs (I e))∧
   zQ inc fun e=>I e→VC P aq body (ρ.ext e) (wC L up ⟨I,μ,e⟩)
 | .back up c0 inc eqs,ρ,L=>
  xK inc fun e=>TP ((ρ.take c0).ext e) ρ eqs ((L up).I e∧(L up).μ e<(L up).μ (L up).cur)
 | .join up inc body r,ρ,L=>
  ∃I:Ext→Prop,VC P aq body ρ (wC L up ⟨I,fun _=>0,⟨[],[],[],[],[],[],[]⟩⟩)∧zQ inc fun e=>I e→VC P aq r (ρ.ext e) L
 | .meet up c0 inc eqs,ρ,L=>
  xK inc fun e=>TP ((ρ.take c0).ext e) ρ eqs ((L up).I e)
 | .both a b,ρ,L=>VC P aq a ρ L∧VC P aq b ρ L
 | .ghost use inc eqs new r,ρ,L=>
  ∃I:Ext→Prop,(∀w Fs,aU (use.map (Ck.den ρ)++Fs) w→xK inc fun e=>TP (ρ.ext e) ρ eqs (aU (new.map (Ck.den (ρ.ext e))++Fs) w∧I e))∧
   zQ inc fun e=>I e→VC P aq r (ρ.ext e) L
def aj(f:Nat→Int)(i:Nat)(v:Int):Nat→Int:=fun j=>if j=i then v else f j
def aJ(f:Nat→Int)(o:Nat):Nat→Int:=fun j=>f (o+j)
def aG(f:Nat→Int)(o n:Nat)(g:Nat→Int):Nat→Int:=fun j=>if o≤j∧j<o+n then g (j - o)else f j
section
variable (ρ:Env)
theorem bN(a b:E):(dV a b).den ρ 0=a.den ρ 0+b.den ρ 0:=by
 unfold dV;split<;>simp_all [E.den,aF]
theorem e8(a b:E):(tT a b).den ρ 0=a.den ρ 0 - b.den ρ 0:=by
 unfold tT;split<;>simp_all [E.den,aF]
theorem gv(a b:E):(qL a b).den ρ 0=a.den ρ 0*b.den ρ 0:=by
 unfold qL;split<;>simp_all [E.den,aF]
theorem eB(a o:E)(j:Nat):(kQ a o).den ρ j=a.den ρ ((o.den ρ 0).toNat+j):=by
 unfold kQ;split<;>simp_all [E.den]
theorem zS(v:E)(j:Nat):(Ei v).den ρ j=v.den ρ 0:=by
 unfold Ei;split
 ·rename_i h;cases v<;>first | rfl | (simp [E.Xj]at h;done)
 ·simp [E.den]
theorem eO(a i:E)(j:Nat):(gX a i).den ρ j=a.den ρ (i.den ρ 0).toNat:=by
 induction a generalizing i j with
 | lit n=>unfold gX;rfl
 | bP b i' v tS _ ZC=>
  unfold gX;split
  ·rename_i h;cases h
  ·rename_i h;cases h
  ·rename_i jj ii h;cases h;split
   ·rename_i he;simp only [E.den,he,if_true];exact zS ρ v j
   ·rename_i he;rw [tS];exact(if_neg he).symm
  ·rename_i h;cases h
  ·rename_i h;cases h
  ·rename_i heq _;cases heq;split
   ·rename_i he;subst he;simp only [E.den,if_true];exact zS ρ _ j
   ·rfl
  ·rfl
 | shift b o tS _=>
  unfold gX;split
  ·rename_i h;cases h
  ·rename_i h;cases h
  ·rename_i h;cases h
  ·rename_i h;cases h;rw [tS];simp only [E.den,Int.toNat_natCast]
  ·rename_i h;cases h
  ·rename_i heq _;cases heq
  ·rfl
 | Eg b o n x tS _ _ Xk=>
  unfold gX;split
  ·rename_i h;cases h
  ·rename_i h;cases h
  ·rename_i h;cases h
  ·rename_i h;cases h
  ·rename_i h;cases h;split
   ·rename_i hc;rw [Xk];simp only [E.den,Int.toNat_natCast];exact(if_pos hc).symm
   ·rename_i hc;rw [tS];exact(if_neg hc).symm
  ·rename_i heq _;cases heq
  ·rfl
 | var n=>unfold gX;rfl
 | aw n=>unfold gX;rfl
 | gW a b _ _=>unfold gX;rfl
 | bin o k a b _ _=>unfold gX;rfl
 | wrap k a _=>unfold gX;rfl
 | kc n a _=>unfold gX;rfl
 | rT b=>unfold gX;rfl
 | RG a i _ _=>unfold gX;rfl
 | qJ a i s _ _ _=>unfold gX;rfl
 | TJ s _=>unfold gX;rfl
 | qw l=>
  unfold gX;split
  ·rename_i h;cases h
  ·rename_i h;cases h;rfl
  ·rename_i h;cases h
  ·rename_i h;cases h
  ·rename_i h;cases h
  ·rename_i h _;cases h
  ·rfl
theorem c8(n:Int)(j:Nat):(E.lit n).den ρ j=n:=rfl
theorem uU(a i v:E)(j:Nat):(E.bP a i v).den ρ j=if j=(i.den ρ 0).toNat then v.den ρ 0 else a.den ρ j:=rfl
theorem Kb(a o n b:E)(j:Nat):(E.Eg a o n b).den ρ j=if(o.den ρ 0).toNat≤j∧j<(o.den ρ 0).toNat+(n.den ρ 0).toNat then b.den ρ (j - (o.den ρ 0).toNat)else a.den ρ j:=rfl
theorem jR(a i s:E):(E.qJ a i s).den ρ=FH (a.den ρ) (i.den ρ 0).toNat (s.den ρ):=rfl
theorem Kc(a i:E):(E.RG a i).den ρ=qx (a.den ρ) (i.den ρ 0).toNat:=rfl
theorem LH(a i:E)(k:Nat):(Ej a i).den ρ k=qx (a.den ρ) (i.den ρ 0).toNat k:=by
 induction a generalizing k with
 | qJ a jj s mV ihj ZD=>
  rw [jR,jO];unfold Ej;split
  ·rename_i heq;cases heq
  ·rename_i heq;cases heq;split
   ·rename_i he;rw [c8,c8,if_pos he]
   ·rename_i he;rw [mV,c8,c8,if_neg he]
  ·rename_i heq _;cases heq;split
   ·rename_i he;subst he;rw [if_pos rfl]
   ·rw [Kc,jR,jO]
  ·rw [Kc,jR,jO]
 | lit n=>unfold Ej;rfl
 | _=>unfold Ej;rfl
theorem zT(a i:E):(Ej a i).den ρ=qx (a.den ρ) (i.den ρ 0).toNat:=funext (LH ρ a i)
theorem mW(l:List UInt8):(fZ l).den ρ=Lz l:=by
 funext j;cases j with
 | zero=>simp [fZ,E.den,Lz]
 | succ j=>
  simp only [fZ,E.den,Lz,agY];by_cases h:j<l.length
  ·simp [List.getD,ag6 h]
  ·simp [List.getD,ag7 (Nat.le_of_not_lt h)]
theorem Ib(f:Nat→Int){j:Nat}(h:j<(f 0).toNat):(eI f)[j]? =some (UInt8.ofNat (f (j+1)).toNat):=by
 simp [eI,List.getElem?_range h]
theorem Ic(l:List UInt8)(j:Nat):(E.qw (l.map fun b=>((b.toNat:Nat):Int))).den ρ j=((l.getD j 0).toNat:Nat):=by
 simp only [E.den];by_cases h:j<l.length
 ·simp [List.getD,ag6 h]
 ·simp [List.getD,ag7 (Nat.le_of_not_lt h)]
theorem FM(s:E):(LJ s).den ρ=LA (s.den ρ):=by
 unfold LJ;split
 ·rename_i n l;split
  ·rename_i h;funext j;simp only [E.den,LA,agY];by_cases hj:j<l.length
   ·have:=agv.1 h l[j] (List.getElem_mem hj);simp only [ai,decide_eq_true_eq]at this;simp only [List.getD,ag6 hj,ahe];have h2:(UInt8.ofNat l[j].toNat).toNat=l[j].toNat:=by
     rw [UInt8.toNat_ofNat'];omega
    rw [h2];omega
   ·simp [List.getD,ag7 (Nat.le_of_not_lt hj)]
  ·rfl
 ·rfl
theorem CW(s:E):(∃l,mkStr s= .str l∧l=eI (s.den ρ))∨mkStr s= .lZ s:=by
 unfold mkStr;split
 ·rename_i n l;split
  ·rename_i h;simp only [ai,beq_iff_eq]at h;obtain⟨rfl,h⟩:=h;left;refine⟨_,rfl,?_⟩;apply List.ext_getElem?;intro j;by_cases hj:j<l.length
   ·rw [Ib _ (by simpa [E.den] using hj),List.getElem?_map,ag6 hj];simp [E.den,List.getD,ag6 hj]
   ·rw [ag7 (by simp;omega),ag7 (by rw [cS];simp [E.den];omega)]
  ·exact .inr rfl
 ·exact .inr rfl
theorem FN(s:E):SV.cells ρ (mkStr s)=[.string ⟨(eI (s.den ρ)).toArray⟩]:=by
 rcases CW ρ s with⟨l,h,rfl⟩ | h<;>rw [h]<;>rfl
theorem oW(s:E):(mkStr s).val ρ= .string ⟨(eI (s.den ρ)).toArray⟩:=by
 rcases CW ρ s with⟨l,h,rfl⟩ | h<;>rw [h]<;>rfl
theorem gw(s:E):(lD s).den ρ 0=s.den ρ 0:=by rw [lD,eO];rfl
theorem LK(s:E):((eI (s.den ρ)).length:Int)=max 0 ((lD s).den ρ 0):=by rw [cS,gw];omega
theorem tU{v:SV}{s:E}(h:qM v=some s):v.val ρ= .string ⟨(eI (s.den ρ)).toArray⟩:=by
 unfold qM at h;split at h
 ·cases h;rw [mW,oU];rfl
 ·cases h;rfl
 ·cases h
theorem kR(f:Nat→Int){j:Nat}(h:j<(f 0).toNat):(eI f)[j]? =some (UInt8.ofNat (f (j+1)).toNat):=by
 simp [eI,List.getElem?_range h]
theorem zU(a n:E):eI ((tV a n).den ρ)=(ag5 (n.den ρ 0).toNat).map fun j=>UInt8.ofNat (a.den ρ j).toNat:=by
 unfold eI;have h0:(tV a n).den ρ 0=n.den ρ 0:=by simp [tV,E.den]
 rw [h0];refine ag4 fun j hj=>?_
 have hj:=agJ.1 hj;have:(tV a n).den ρ (j+1)=a.den ρ j:=by
  rw [tV,uU,c8,if_neg (by simp),Kb,c8,if_pos (by simp;omega)];congr 1
 rw [this]
theorem LL(s lo hi:E)(hl:0≤lo.den ρ 0)(hlh:lo.den ρ 0≤hi.den ρ 0)(hh:hi.den ρ 0≤s.den ρ 0):
  eI ((CX s lo hi).den ρ)=((eI (s.den ρ)).take (hi.den ρ 0).toNat).drop (lo.den ρ 0).toNat:=by
 have h0:(CX s lo hi).den ρ 0=hi.den ρ 0 - lo.den ρ 0:=by
  unfold CX;split<;>simp [E.den,e8]
 have hj: ∀j,(CX s lo hi).den ρ (j+1)=s.den ρ ((lo.den ρ 0).toNat+j+1):=by
  intro j;unfold CX;split
  ·rw [uU,c8,if_neg (by simp),eB,uU,c8,if_neg (by simp)];congr 1
  ·rw [uU,c8,if_neg (by simp),eB];congr 1
 apply List.ext_getElem?;intro j;rw [List.getElem?_drop,List.getElem?_take];by_cases hc:j<(hi.den ρ 0 - lo.den ρ 0).toNat
 ·rw [kR _ (by rw [h0];exact hc),if_pos (by omega),kR _ (by omega),hj]
 ·rw [ag7 (by rw [cS,h0];omega),if_neg (by omega)]
theorem NU(s t:E)(hs:0≤s.den ρ 0)(ht:0≤t.den ρ 0):eI ((LM s t).den ρ)=eI (s.den ρ)++eI (t.den ρ):=by
 have h0:(LM s t).den ρ 0=s.den ρ 0+t.den ρ 0:=by simp [LM,E.den,bN,gw]
 have hj: ∀j,(LM s t).den ρ (j+1)=if(s.den ρ 0).toNat≤j∧j<(s.den ρ 0).toNat+(t.den ρ 0).toNat then t.den ρ (j - (s.den ρ 0).toNat+1)else s.den ρ (j+1):=by
  intro j;rw [LM,uU,c8,if_neg (by simp),Kb];simp only [bN,gw,c8,eB];have e:(s.den ρ 0+1).toNat=(s.den ρ 0).toNat+1:=by omega
  rw [e];by_cases hc:(s.den ρ 0).toNat≤j∧j<(s.den ρ 0).toNat+(t.den ρ 0).toNat
  ·rw [if_pos (by omega),if_pos hc];congr 1;simp only [show(1:Int).toNat=1 from rfl];omega
  ·rw [if_neg (by omega),if_neg hc]
 apply List.ext_getElem?;intro j;by_cases hc:j<(s.den ρ 0+t.den ρ 0).toNat
 ·rw [kR _ (by rw [h0];exact hc),hj];by_cases RJ:j<(s.den ρ 0).toNat
  ·rw [if_neg (by omega),agC (by rw [cS];exact RJ),kR _ RJ]
  ·rw [if_pos (by omega),agD (by rw [cS];omega),cS,kR _ (by omega)]
 ·rw [ag7 (by rw [cS,h0];omega),ag7 (by rw [List.length_append,cS,cS];omega)]
theorem FO(a b:E):(RK a b).den ρ=(eI (a.den ρ)==eI (b.den ρ)):=by
 unfold RK;by_cases h:a=b
 ·rw [if_pos h,h];simp [BE.den]
 ·rw [if_neg h];rfl
theorem mX(o:Ka)(k:IntKind)(a b:E):(wF o k a b).den ρ 0=aF o k (a.den ρ 0) (b.den ρ 0):=by
 unfold wF;split<;>rfl
theorem LN(k:IntKind)(a:E):(NV k a).den ρ 0=k.wrap (a.den ρ 0):=by
 unfold NV;split<;>rfl
theorem za(a:E):(RL a).den ρ= !(a.den ρ 0==0):=by
 unfold RL;split<;>rfl
theorem rU(a b:E):(U4 a b).den ρ=(a.den ρ 0==b.den ρ 0):=by
 unfold U4;split
 ·rfl
 ·split<;>simp_all [BE.den]
theorem uV(a b:E):(Ie a b).den ρ=decide (a.den ρ 0<b.den ρ 0):=by
 unfold Ie;split<;>rfl
theorem iy(a b:E):(yM a b).den ρ=decide (a.den ρ 0≤b.den ρ 0):=by
 unfold yM;split<;>rfl
theorem dG(b:BE):(iT b).den ρ= !b.den ρ:=by
 unfold iT;split<;>simp [BE.den]
theorem oX(a b:BE):(B1 a b).den ρ=(a.den ρ&&b.den ρ):=by
 unfold B1;split<;>simp [BE.den]
theorem Kd(a b:BE):(ZE a b).den ρ=(a.den ρ||b.den ρ):=by
 unfold ZE;split<;>simp [BE.den]
theorem oY(c a b:BE):(FP c a b).den ρ=if c.den ρ then a.den ρ else b.den ρ:=by
 unfold FP;split
 ·simp [BE.den]
 ·simp [BE.den]
 ·rw [Kd];simp [BE.den]
 ·rw [oX];simp [BE.den]
 ·rfl
theorem aH(k:IntKind)(n:Nat)(f:Nat→Int):(ak k n f).length=n:=by simp [ak]
theorem bE(k:IntKind)(n:Nat)(f:Nat→Int)(j:Nat):(ak k n f)[j]? =if j<n then some (.int k (f j))else none:=by
 unfold ak;rw [List.getElem?_map];by_cases h:j<n
 ·rw [List.getElem?_range h,if_pos h];rfl
 ·rw [ag7 (by simp;omega),if_neg h];rfl
theorem cT(k:IntKind)(n:Nat){f g:Nat→Int}(h: ∀j,j<n→f j=g j):ak k n f=ak k n g:=by
 unfold ak;exact ag4 fun j hj=>by rw [h j (agJ.1 hj)]
theorem ot(k:IntKind)(n m:Nat)(f:Nat→Int)(h:m≤n):(ak k n f).take m=ak k m f:=by
 unfold ak;rw [←List.map_take,List.take_range,Nat.min_eq_left h]
theorem B2(k:IntKind)(n m:Nat)(f:Nat→Int):(ak k n f).drop m=ak k (n - m) fun j=>f (m+j):=by
 apply List.ext_getElem?;intro j;rw [List.getElem?_drop,bE,bE];by_cases h:m+j<n
 ·rw [if_pos h,if_pos (by omega)]
 ·rw [if_neg h,if_neg (by omega)]
mutual
theorem uW: ∀v:SV,(SV.cells ρ v).length=v.width
 | .agg cs=>by simp only [SV.cells,SV.width];exact bw cs
 | .a_ k n a=>by simp [SV.cells,SV.width,aH]
 | .int .. =>rfl
 | .bool _=>rfl
 | .dR=>rfl
 | .bY=>rfl
 | .pE=>rfl
 | .uQ=>rfl
 | .iJ=>rfl
 | .undef=>rfl
 | .ptr .. =>rfl
 | .qy .. =>rfl
 | .pv .. =>rfl
 | .sl .. =>rfl
 | .vv _=>rfl
 | .str _=>rfl
 | .fn .. =>rfl
 | .lp _=>rfl
 | .opt .. =>rfl
 | .FI .. =>rfl
 | .LB _=>rfl
 | .mp _=>rfl
 | .ji .. =>rfl
 | .dh _=>rfl
 | .lZ _=>rfl
 | .Ia .. =>rfl
 | .NP .. =>rfl
 | .Ny _=>rfl
theorem bw: ∀l:List SV,(SV.ar ρ l).length=SV.qN l
 | []=>rfl
 | v::r=>by simp only [SV.ar,SV.qN,List.length_append];rw [uW v,bw r]
end
theorem iU(a b:List SV):SV.ar ρ (a++b)=SV.ar ρ a++SV.ar ρ b:=by
 induction a with
 | nil=>rfl
 | cons v r ih=>simp only [List.cons_append,SV.ar,ih,ahf]
def SV.plain:SV→Bool
 | .agg _=>false
 | .a_ .. =>false
 | _=>true
theorem gY{v:SV}(h:v.plain=true):SV.cells ρ v=[v.val ρ]:=by
 cases v<;>simp_all [SV.plain,SV.cells,SV.val]
theorem B3(d:Nat){v:SV}(h:v.plain=true)(r:List SV):fF (d+1) (v::r)=fF d r:=by
 cases v<;>simp_all [SV.plain,fF]
theorem B4(d:Nat){v:SV}(h:v.plain=true)(r:List SV):iz (d+1) (v::r)=(iz d r).map (v:: ·):=by
 cases v<;>simp_all [SV.plain,iz]
theorem eK: ∀(cs:List SV) (d:Nat) (r:List SV),fF d cs=some r→SV.ar ρ r=(SV.ar ρ cs).drop d
 | cs,0,r,h=>by simp [fF]at h;subst h;rfl
 | [],d+1,r,h=>by simp [fF]at h;subst h;simp [SV.ar]
 | v::cs,d+1,r,h=>by
  by_cases hp:v.plain=true
  ·rw [B3 d hp]at h;rw [eK cs d r h];simp [SV.ar,gY ρ hp]
  ·cases v with
   | agg x=>simp [fF]at h
   | a_ k n a=>
    simp only [fF]at h;simp only [SV.ar,SV.cells];split at h
    ·rename_i cZ;simp only [agy]at h;subst h;simp only [SV.ar,SV.cells];rw [List.drop_append_of_le_length (by rw [aH];omega),B2];congr 1;apply cT;intro j _;rw [eB];rfl
    ·rename_i uJ;rw [eK cs _ r h,List.drop_append,aH,List.drop_of_length_le (l:=ak k n _) (by rw [aH];omega)];rfl
   | _=>simp [SV.plain]at hp
theorem iV: ∀(cs:List SV) (d:Nat) (r:List SV),iz d cs=some r→SV.ar ρ r=(SV.ar ρ cs).take d
 | cs,0,r,h=>by simp [iz]at h;subst h;simp [SV.ar]
 | [],d+1,r,h=>by simp [iz]at h;subst h;simp [SV.ar]
 | v::cs,d+1,r,h=>by
  by_cases hp:v.plain=true
  ·rw [B4 d hp,agz]at h;obtain⟨x,hx,rfl⟩:=h;simp [SV.ar,gY ρ hp,iV cs d x hx]
  ·cases v with
   | agg x=>simp [iz]at h
   | a_ k n a=>
    simp only [iz]at h;simp only [SV.ar,SV.cells];split at h
    ·rename_i hle;simp only [agy]at h;subst h;simp only [SV.ar,SV.cells,agL];rw [List.take_append_of_le_length (by rw [aH];omega),ot _ _ _ _ hle]
    ·rename_i hgt;rw [agz]at h;obtain⟨x,hx,rfl⟩:=h;simp only [SV.ar,SV.cells];rw [iV cs _ x hx,List.take_append,aH,List.take_of_length_le (l:=ak k n _) (by rw [aH];omega)]
   | _=>simp [SV.plain]at hp
theorem e9{c size:Nat}{cs r:List SV}(h:jS c size cs=some r):
  SV.ar ρ r=((SV.ar ρ cs).drop c).take size∧c+size≤(SV.ar ρ cs).length:=by
 unfold jS at h;split at h
 ·rename_i hle;split at h
  ·rename_i x hx;exact⟨by rw [iV ρ _ _ _ h,eK ρ _ _ _ hx],by rw [bw];exact hle⟩
  ·cases h
 ·cases h
theorem pI{c:Nat}{vs cs r:List SV}(h:zV c vs cs=some r):
  SV.ar ρ r=(SV.ar ρ cs).take c++SV.ar ρ vs++(SV.ar ρ cs).drop (c+(SV.ar ρ vs).length)∧
   c+(SV.ar ρ vs).length≤(SV.ar ρ cs).length:=by
 unfold zV at h;split at h
 ·rename_i hle;split at h
  ·rename_i x y hx hy;simp only [agy]at h;subst h;rw [iU,iU,iV ρ _ _ _ hx,eK ρ _ _ _ hy,bw,bw];exact⟨rfl,hle⟩
  ·cases h
 ·cases h
theorem nO{agg:Bool}{cs:List SV}{v:SV}(h:je agg cs=some v):
  (agg=true→v.val ρ= .agg (SV.ar ρ cs).toArray)∧(agg=false→SV.ar ρ cs=[v.val ρ]):=by
 unfold je at h;split at h
 ·rename_i ha;simp only [agy]at h;subst h;simp [ha,SV.val]
 ·rename_i ha;refine⟨fun hc=>absurd hc ha,fun _=>?_⟩;split at h
  ·simp only [agy]at h;subst h;simp [SV.ar,SV.cells,SV.val,ak,eO,E.den]
  ·cases h
  ·cases h
  ·rename_i v' h1 h2 h3;simp only [agy]at h;subst h;have hp:v'.plain=true:=by
    cases v' with
    | agg cs=>exact absurd rfl (h3 cs)
    | a_ k n a=>exact absurd rfl (h2 k n a)
    | _=>rfl
   simp [SV.ar,gY ρ hp]
  ·cases h
structure Env.Ok (ρ:Env):Prop where
theorem Env.ok(ρ:Env):ρ.Ok:=⟨⟩
theorem Env.Ok.vvD{ρ:Env}(_:ρ.Ok)(i:Nat):(ρ.vv.getD i V1.nil).v.oneCell'=true:=(ρ.vv.getD i V1.nil).one
theorem Env.Ok.vaD{ρ:Env}(_:ρ.Ok)(i j:Nat):((ρ.va.getD i fun _=>V1.nil) j).v.oneCell'=true:=((ρ.va.getD i fun _=>V1.nil) j).one
theorem Ek{v:Value}(h:v.oneCell'=true):v.cells= #[v]:=by
 cases v<;>simp_all [Value.oneCell',Value.cells]
theorem Ke{v:SV}(h:v.one=true)(hs:v.plain=true)(mY:ρ.Ok):(v.val ρ).oneCell'=true:=by
 cases v with
 | vv i=>simp only [SV.val];exact mY.vvD i
 | FI a i=>simp only [SV.val];exact mY.vaD a _
 | dh e=>simp only [SV.val];exact FJ _
 | Ny e=>simp only [SV.val];exact uR _
 | pv v i s c=>simp only [SV.val,eY];split<;>rfl
 | ji v cs s=>simp only [SV.val];exact oo _ _ _ _ (ρ.vv.getD v V1.nil).one
 | Ia c v=>simp only [SV.val];split<;>first | rfl | (unfold uS;split<;>rfl)
 | _=>first | rfl | simp_all [SV.one,SV.plain]
theorem LO{v:SV}(h:v.one=true)(mY:ρ.Ok): ∀u∈SV.cells ρ v,u.oneCell'=true:=by
 by_cases hs:v.plain=true
 ·rw [gY ρ hs];intro u hu;rw [agZ]at hu;subst hu;exact Ke ρ h hs mY
 ·cases v with
  | agg x=>simp [SV.one]at h
  | a_ k n a=>
   intro u hu;simp only [SV.cells,ak,ag9]at hu;obtain⟨j,_,rfl⟩:=hu;rfl
  | _=>simp [SV.plain]at hs
theorem mZ{l:List SV}(h:l.all SV.one=true)(mY:ρ.Ok): ∀u∈SV.ar ρ l,u.oneCell'=true:=by
 induction l with
 | nil=>intro u hu;cases hu
 | cons v r ih=>
  rw [List.all_cons,ai]at h;intro u hu;simp only [SV.ar,List.mem_append]at hu;exact hu.elim (LO ρ h.1 mY u) (ih h.2 u)
theorem iW{v:SV}{cs:List SV}(h:eR v=some cs)(mY:ρ.Ok):
  (v.val ρ).cells.toList=SV.ar ρ cs∧∀u∈SV.ar ρ cs,u.oneCell'=true:=by
 by_cases hs:v.plain=true
 ·have h1:v.one=true∧cs=[v]:=by
   cases v<;>simp_all [eR,SV.plain]
  obtain⟨h1,rfl⟩:=h1;have h2:=Ke ρ h1 hs mY;refine⟨?_,mZ ρ (by simp [h1]) mY⟩;rw [Ek h2];simp [SV.ar,gY ρ hs]
 ·cases v with
  | agg x=>
   simp only [eR]at h;split at h
   ·rename_i ha;simp only [agy]at h;subst h;exact⟨by simp [SV.val,Value.cells],mZ ρ ha mY⟩
   ·cases h
  | a_ k n a=>
   simp only [eR,SV.one,if_true,agy]at h;subst h;exact⟨by simp [SV.val,Value.cells,SV.ar,SV.cells],mZ ρ (by simp [SV.one]) mY⟩
  | _=>simp [SV.plain]at hs
theorem B5(v:Value)(x:SV)(h:ofValue v=some x)(hn: ∀l,v≠ .agg l):x.plain=true:=by
 unfold ofValue at h;split at h<;>simp_all<;>(subst h;rfl)
mutual
theorem qO: ∀(v:Value) (x:SV),ofValue v=some x→x.val ρ=v
 | .int k n,x,h=>by simp [ofValue]at h;subst h;rfl
 | .bool b,x,h=>by simp [ofValue]at h;subst h;rfl
 | .pointer none,x,h=>by simp [ofValue]at h;subst h;rfl
 | .pointer (some _),x,h=>by simp [ofValue]at h
 | .slice none 0 0,x,h=>by simp [ofValue]at h;subst h;rfl
 | .slice none (_+1) _,x,h=>by simp [ofValue]at h
 | .slice none 0 (_+1),x,h=>by simp [ofValue]at h
 | .slice (some _) _ _,x,h=>by simp [ofValue]at h
 | .nilFunc,x,h=>by simp [ofValue]at h;subst h;rfl
 | .nilIface,x,h=>by simp [ofValue]at h;subst h;rfl
 | .map none,x,h=>by simp [ofValue]at h;subst h;rfl
 | .map (some _),x,h=>by simp [ofValue]at h
 | .string ⟨⟨l⟩⟩,x,h=>by simp [ofValue]at h;subst h;rfl
 | .tuple ⟨[]⟩,x,h=>by simp [ofValue]at h;subst h;rfl
 | .tuple ⟨_::_⟩,x,h=>by simp [ofValue]at h
 | .agg ⟨l⟩,x,h=>by
  simp only [ofValue,agz]at h;obtain⟨y,hy,rfl⟩:=h;simp only [SV.val];rw [qP l y hy]
 | .float ..,x,h=>by simp [ofValue]at h
 | .complex ..,x,h=>by simp [ofValue]at h
 | .chan _,x,h=>by simp [ofValue]at h
 | .func ..,x,h=>by simp [ofValue]at h
 | .iface ..,x,h=>by simp [ofValue]at h
theorem qP: ∀(l:List Value) (xs:List SV),ofValues l=some xs→SV.ar ρ xs=l
 | [],xs,h=>by simp [ofValues]at h;subst h;rfl
 | v::r,xs,h=>by
  unfold ofValues at h;split at h
  ·rename_i heq;cases heq
  ·cases h
  ·rename_i v' r' hn heq;cases heq;split at h
   ·rename_i x xs' hx Ig;simp only [agy]at h;subst h;have hp:=B5 v x hx (fun l e=>hn l e);simp only [SV.ar,gY ρ hp,qO v x hx,qP r xs' Ig];rfl
   ·cases h
end
end
def iA:Option TypeDesc→TK→Bool
 | some (.int k),.int k'=>k==k'
 | some .bool,.bool=>true
 | some .string,.str=>true
 | some (.pointer e),.ptr e'=>e==e'
 | some (.slice e),.slice e'=>e==e'
 | some (.array n e),.arr n' e'=>n==n'&&e==e'
 | some (.struct fs),.struct l=>fs.toList.map (fun f=>(f.type,f.offset))==l
 | some (.struct fs),.Kf l _=>fs.toList.map (fun f=>(f.type,f.offset))==l
 | some (.map k e),.map k' e'=>k==k'&&e==e'
 | some (.func ..),.func=>true
 | some (.interface _),.iface=>true
 | _,_=>false
def isInt(k:IntKind)(m:Int):Value→Bool
 | .int k' n=>k==k'&&n==m
 | _=>false
def NW(x:SV)(vs:List Value):Option (List Value):=
 match x with
 | .a_ k n (.lit m)=>if n≤vs.length∧(vs.take n).all (isInt k m)=true then some (vs.drop n)else none
 | x=>match vs with
  | v::r=>match ofValue v with
   | some y=>match x,y with
    | .int k (.lit m),.int k' (.lit m')=>if k=k'∧m=m' then some r else none
    | .bool (.lit b),.bool (.lit b')=>if b=b' then some r else none
    | .dR,.dR=>some r
    | .bY,.bY=>some r
    | .pE,.pE=>some r
    | .uQ,.uQ=>some r
    | .iJ,.iJ=>some r
    | .str l,.str l'=>if l=l' then some r else none
    | _,_=>none
   | none=>none
  | []=>none
def FQ:List Value→List SV→Bool
 | vs,[]=>vs.isEmpty
 | vs,x::r=>match NW x vs with
  | some HV=>FQ HV r
  | none=>false
theorem NX{k:IntKind}{m:Int}{v:Value}(h:isInt k m v=true):v= .int k m:=by
 cases v<;>simp_all [isInt]
theorem FR(ρ:Env){x:SV}{vs HV:List Value}(h:NW x vs=some HV):vs=SV.cells ρ x++HV:=by
 unfold NW at h;split at h
 ·rename_i k n m;split at h
  ·rename_i hc;simp only [agy]at h;subst h;have:ak k n (E.den ρ (.lit m))=vs.take n:=by
    apply List.ext_getElem?;intro j;rw [bE];by_cases hj:j<n
    ·rw [if_pos hj,List.getElem?_take_of_lt hj];have cZ:j<vs.length:=by omega
     rw [ag6 cZ];have:=agv.1 hc.2 vs[j] (by
      rw [←List.getElem_take (xs:=vs) (j:=n) (h:=by simp;omega)];exact List.getElem_mem _)
     rw [NX this];rfl
    ·rw [if_neg hj,ag7 (by simp;omega)]
   simp only [SV.cells,this,List.take_append_drop]
  ·cases h
 ·split at h
  ·rename_i v r;split at h
   ·rename_i y hy;have hv:=qO ρ v y hy;subst hv;split at h
    all_goals first
     | (simp only [agy]at h;subst h;rfl)
     | (
       split at h
       ·rename_i hc;simp only [agy]at h;subst h
        first | (obtain⟨rfl,rfl⟩:=hc;rfl) | (subst hc;rfl)
       ·cases h)
     | cases h
   ·cases h
  ·cases h
theorem xL(ρ:Env): ∀(l:List SV) (vs:List Value),FQ vs l=true→SV.ar ρ l=vs
 | [],vs,h=>by
  cases vs with
  | nil=>rfl
  | cons v r=>simp [FQ]at h
 | x::r,vs,h=>by
  unfold FQ at h;split at h
  ·rename_i HV hz;rw [FR ρ hz,SV.ar,xL ρ r HV h]
  ·cases h
def kS(P:Program)(f:TypeId→Option (List gR)):List Field→Nat→Option (List gR)
 | [],_=>some []
 | fd::r,off=>
  if fd.name== "_" ||fd.offset != off then none else
  match f fd.type with
  | some l=>if P.cellsOf fd.type==l.length then(kS P f r (off+l.length)).map (l++ ·)else none
  | none=>none
def fD(P:Program):Nat→TypeId→Option (List gR)
 | 0,_=>none
 | d+1,t=>
  match P.underlying t with
  | some (.int k)=>some [some k]
  | some .bool=>some [none]
  | some (.array n e)=>match fD P d e with
   | some l=>if P.cellsOf e==l.length then some (List.replicate n l).flatten else none
   | none=>none
  | some (.struct fs)=>if P.stoodInHeld t then none else kS P (fD P d) fs.toList 0
  | _=>none
def TQ(P:Program)(ti:TI):Bool:=
 ti.lay.isEmpty||(fD P 12 ti.t==some (lE ti.lay)&& !P.eqGuardType P.depth ti.t)
def U5(P:Program)(ti:TI):Bool:=
 iA (P.underlying ti.t) ti.k&&TQ P ti&&SV.qN ti.zero==ti.size&&
 match P.info? ti.t with
 | some i=>i.size==ti.size&&i.bytes==ti.bytes&&ti.zero.all SV.one&&
  match i.zero with
  | some z=>FQ z.cells.toList ti.zero&&(match z with | .agg _=>ti.k.agg | _=> !ti.k.agg)
  | none=>false
 | none=>false
def bC(P:Program)(T:List TI):Bool:=T.all (U5 P)
structure lF (P:Program) (ti:TI):Prop where
 kind:iA (P.underlying ti.t) ti.k=true
 lay:ti.lay.isEmpty=true∨(fD P 12 ti.t=some (lE ti.lay)∧P.eqGuardType P.depth ti.t=false)
 one:ti.zero.all SV.one=true
 B6:SV.qN ti.zero=ti.size
 zag: ∀i z,P.info? ti.t=some i→i.zero=some z→(match z with | .agg _=>ti.k.agg | _=> !ti.k.agg)=true
 info: ∃i,P.info? ti.t=some i∧i.size=ti.size∧i.bytes=ti.bytes∧∃z,i.zero=some z∧∀ρ,SV.ar ρ ti.zero=z.cells.toList
theorem LP{P:Program}{ti:TI}(h:U5 P ti=true):lF P ti:=by
 unfold U5 at h;rw [ai,ai,ai,beq_iff_eq]at h;obtain⟨⟨⟨hk,hl⟩,U6⟩,h⟩:=h;have hl':ti.lay.isEmpty=true∨(fD P 12 ti.t=some (lE ti.lay)∧P.eqGuardType P.depth ti.t=false):=by
  unfold TQ at hl;rw [Bool.or_eq_true,ai,beq_iff_eq,Bool.not_eq_true']at hl;exact hl
 split at h
 ·rename_i i hi;simp only [ai,beq_iff_eq]at h;obtain⟨⟨⟨h1,h2⟩,h4⟩,h3⟩:=h;split at h3
  ·rename_i z hz;rw [ai]at h3;exact⟨hk,hl',h4,U6,fun i' z' oq Ih=>by rw [hi]at oq;cases oq;rw [hz]at Ih;cases Ih;exact h3.2,i,hi,h1,h2,z,hz,fun ρ=>xL ρ _ _ h3.1⟩
  ·cases h3
 ·cases h
theorem ay{P:Program}{T:List TI}(hT:bC P T=true){t:Nat}{ti:TI}(h:aW T t=some ti):ti.t=t∧lF P ti:=by
 unfold aW at h;have hm:=List.mem_of_find?_eq_some h;have ht:=List.find?_some h;simp only [beq_iff_eq]at ht;exact⟨ht,LP (agv.1 hT ti hm)⟩
section
variable {P:Program} (w:World)
theorem lF.sizeOf{ti:TI}(h:lF P ti):(sizeOf ti.t).run P w= .ok ti.size w:=by
 obtain⟨i,hi,hs,_⟩:=h.info;simp [Go.sizeOf,typeInfo,hi,hs]
theorem lF.isAgg{ti:TI}(h:lF P ti):(isAgg ti.t).run P w= .ok ti.k.agg w:=by
 have hk:=h.kind;unfold iA at hk;split at hk<;>first | (cases hk;done) | skip
 all_goals (rename_i h1 h2;simp [Go.isAgg,run_underlying h1,h2,TK.agg])
theorem lF.zero{ti:TI}(h:lF P ti): ∃z,(zeroValue ti.t).run P w= .ok z w∧∀ρ,SV.ar ρ ti.zero=z.cells.toList:=by
 obtain⟨i,hi,_,_,z,hz,hc⟩:=h.info;exact⟨z,by simp [zeroValue,typeInfo,hi,hz],hc⟩
end
end Go.RX
