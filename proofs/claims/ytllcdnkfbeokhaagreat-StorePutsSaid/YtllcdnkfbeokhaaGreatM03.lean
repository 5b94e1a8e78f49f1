/- Executor. -/
import Derived.Test.YtllcdnkfbeokhaaGreatRxD
open Bool renaming and_eq_true -> ai
open Int renaming toNat_natCast -> ax3
open List renaming all_eq_true -> axS, append_assoc -> ayl, eq_nil_of_length_eq_zero -> aye, flatMap_cons -> ayn, getD_cons_succ -> ayI, getElem?_append_left -> axX, getElem?_append_right -> axY, getElem?_eq_getElem -> ays, length_append -> axP, length_cons -> ax5, map_cons -> ayr, mem_append -> ax_, mem_filter -> ayi, mem_map -> ayg, mem_range -> ayc, mem_singleton -> ax2
open Option renaming getD_some -> ayG, map_eq_some_iff -> axV
open Option.some renaming injEq -> axU
namespace Go.RX
def ao(P:Program)(f:Nat)(args:List Value)(pre:List HP)(post:Value->List HP->Prop):Prop:=
 ∀(w:World) (Fs:List HP),aU (pre++Fs) w->
  Calls P f args.toArray w λe w'=> ∃v hs,e= .returned v/\post v hs/\aU (hs++Fs) w'/\jm w w'
def ZY(P:Program)(f:Nat)(args:List Value)(pre:List HP)(post:Value->List HP->Prop):Prop:=
 ∀(w:World) (Fs:List HP),aU (pre++Fs) w->
  ∃v hs w',(callFunc f args.toArray).run P w= .ok (.value v) w'/\post v hs/\aU (hs++Fs) w'/\jm w w'
structure Ext where
 b:List Nat
 v:List V1
 i:List Int
 a:List (Nat->Int)
 bo:List Bool
 p:List HP
 r:List Loop
def AA{α:Type}:Nat->(List α->Prop)->Prop
 | 0,f=>f []
 | n+1,f=> ∀x,AA n λxs=>f (x::xs)
def Qz{α:Type}:Nat->(List α->Prop)->Prop
 | 0,f=>f []
 | n+1,f=> ∃x,Qz n λxs=>f (x::xs)
def AB(c:cI)(f:Ext->Prop):Prop:=
 AA c.b λb=>AA c.v λv=>AA c.i λi=>AA c.a λa=>AA c.bo λbo=>AA c.p λp=>AA c.r λr=>f ⟨b,v,i,a,bo,p,r⟩
def yC(c:cI)(f:Ext->Prop):Prop:=
 Qz c.b λb=>Qz c.v λv=>Qz c.i λi=>Qz c.a λa=>Qz c.bo λbo=>Qz c.p λp=>Qz c.r λr=>f ⟨b,v,i,a,bo,p,r⟩
def Env.ext(ρ:Env)(x:Ext):Env:=
 {ρ with bv:=ρ.bv++x.b,vv:=ρ.vv++x.v,iv:=ρ.iv++x.i,av:=ρ.av++x.a,bo:=ρ.bo++x.bo,pv:=ρ.pv++x.p,lr:=ρ.lr++x.r}
def Env.take(ρ:Env)(c:cI):Env:=
 {ρ with bv:=ρ.bv.take c.b,vv:=ρ.vv.take c.v,iv:=ρ.iv.take c.i,av:=ρ.av.take c.a,bo:=ρ.bo.take c.bo,pv:=ρ.pv.take c.p,lr:=ρ.lr.take c.r}
def Env.oN(ρ:Env)(b:Nat):Env:={ρ with bv:=ρ.bv++[b]}
def Env.jM(ρ:Env)(v:V1):Env:={ρ with vv:=ρ.vv++[v]}
def iz.holds(ρ bG:Env):iz->Prop
 | .e x y=>x.den ρ 0=y.den bG 0
 | .a n x y=> ∀j,j<(n.den ρ 0).toNat->x.den ρ j=y.den bG j
 | .b x y=>x.den ρ=y.den bG
 | .af x y=>x.den ρ=y.den bG
 | .v i j=>ρ.vv.getD i V1.nil=bG.vv.getD j V1.nil
 | .p i j=>ρ.pv.getD i HP.emp=bG.pv.getD j HP.emp
 | .bl i j=>ρ.bv.getD i 0=bG.bv.getD j 0
 | .rc i j=>ρ.lr.getD i j6=bG.lr.getD j j6
def YJ(ρ bG:Env):List iz->Prop->Prop
 | [],q=>q
 | x::r,q=>x.holds ρ bG/\YJ ρ bG r q
structure LC where
 I:Ext->Prop
 μ:Ext->Nat
 cur:Ext
def LC.none:LC:=⟨λ_=>False,λ_=>0,⟨[],[],[],[],[],[],[]⟩⟩
def xu(L:Nat->LC)(i:Nat)(l:LC):Nat->LC:=λj=>if j=i then l else L j
def ay(b r:Prop):Prop:=b/\(b->r)
def bf(c t e:Prop):Prop:=(c->t)/\(¬c->e)
def VC(P:Program)(al:Value->List HP->Prop):F->Env->(Nat->LC)->Prop
 | .fail _ _,_,_=>False
 | .vc b r,ρ,L=>ay (b.prop ρ) (VC P al r ρ L)
 | .fork c t e,ρ,L=>bf (c.prop ρ) (VC P al t ρ L) (VC P al e ρ L)
 | .ret v hp,ρ,_=>al (v.val ρ) (hp.map (Ck.den ρ))
 | .Eh r,ρ,L=> ∀b,VC P al r (ρ.oN b) L
 | .xw r,ρ,L=> ∀v,VC P al r (ρ.jM v) L
 | .qP true r,ρ,L=> ∀d l c,VC P al r (ρ.ext ⟨[d,l],[],[],[],[],[],[c]⟩) L
 | .qP false r,ρ,L=> ∀l c,VC P al r (ρ.ext ⟨[l],[],[],[],[],[],[c]⟩) L
 | .Js r,ρ,L=>VC P al r (ρ.jM ⟨.slice none 0 0,rfl⟩) L
 | .call f args use inc v new r,ρ,L=>
  ∃post,ao P f (SV.bF ρ args) (use.map (Ck.den ρ)) post/\
   ∀x hs,post x hs->yC inc λe=>x=v.val (ρ.ext e)/\hs=new.map (Ck.den (ρ.ext e))/\VC P al r (ρ.ext e) L
 | .ext f args use inc v new r,ρ,L=>
  ∃post,ZY P f (SV.bF ρ args) (use.map (Ck.den ρ)) post/\
   ∀x hs,post x hs->yC inc λe=>x=v.val (ρ.ext e)/\hs=new.map (Ck.den (ρ.ext e))/\VC P al r (ρ.ext e) L
 | .loop up inc eqs body,ρ,L=>
  ∃(I:Ext->Prop) (μ:Ext->Nat),(yC inc λe=>YJ (ρ.ext e) ρ eqs (I e))/\
   AB inc λe=>I e->VC P al body (ρ.ext e) (xu L up ⟨I,μ,e⟩)
 | .back up c0 inc eqs,ρ,L=>
  yC inc λe=>YJ ((ρ.take c0).ext e) ρ eqs ((L up).I e/\(L up).μ e<(L up).μ (L up).cur)
 | .join up inc body r,ρ,L=>
  ∃I:Ext->Prop,VC P al body ρ (xu L up ⟨I,λ_=>0,⟨[],[],[],[],[],[],[]⟩⟩)/\AB inc λe=>I e->VC P al r (ρ.ext e) L
 | .meet up c0 inc eqs,ρ,L=>
  yC inc λe=>YJ ((ρ.take c0).ext e) ρ eqs ((L up).I e)
 | .both a b,ρ,L=>VC P al a ρ L/\VC P al b ρ L
 | .ghost use inc eqs new r,ρ,L=>
  ∃I:Ext->Prop,(∀w Fs,aU (use.map (Ck.den ρ)++Fs) w->yC inc λe=>YJ (ρ.ext e) ρ eqs (aU (new.map (Ck.den (ρ.ext e))++Fs) w/\I e))/\
   AB inc λe=>I e->VC P al r (ρ.ext e) L
def au(f:Nat->Int)(i:Nat)(v:Int):Nat->Int:=λj=>if j=i then v else f j
def QA(l:List Int):Nat->Int:=λj=>l.getD j 0
def bx(f:Nat->Int)(o:Nat):Nat->Int:=λj=>f (o+j)
def bV(f:Nat->Int)(o n:Nat)(g:Nat->Int):Nat->Int:=λj=>if o<=j/\j<o+n then g (j - o)else f j
section
variable (ρ:Env)
theorem bK(a b:E):(fl a b).den ρ 0=a.den ρ 0+b.den ρ 0:=by
 unfold fl;split<;>simp_all[E.den,ar]
theorem gD(a b:E):(xx a b).den ρ 0=a.den ρ 0 - b.den ρ 0:=by
 unfold xx;split<;>simp_all[E.den,ar]
theorem iV(a b:E):(rT a b).den ρ 0=a.den ρ 0*b.den ρ 0:=by
 unfold rT;split<;>simp_all[E.den,ar]
theorem gP(a o:E)(j:Nat):(n_ a o).den ρ j=a.den ρ ((o.den ρ 0).toNat+j):=by
 unfold n_;split<;>simp_all[E.den]
theorem AD(v:E)(j:Nat):(Ei v).den ρ j=v.den ρ 0:=by
 unfold Ei;split
 .rename_i h;cases v<;>first | rfl | (simp[E.aem]at h;done)
 .simp [E.den]
theorem dp(a i:E)(j:Nat):(fc a i).den ρ j=a.den ρ (i.den ρ 0).toNat:=by
 induction a generalizing i j with
 | lit n=>unfold fc;rfl
 | oL b i' v rR _ ihv=>
  unfold fc;split
  .rename_i h;cases h
  .rename_i h;cases h
  .rename_i jj ii h;cases h;split
   .rename_i he;simp only[E.den,he,if_true];exact AD ρ v j
   .rename_i he;rw[rR];exact(if_neg he).symm
  .rename_i h;cases h
  .rename_i h;cases h
  .rename_i heq _;cases heq;split
   .rename_i he;subst he;simp only[E.den,if_true];exact AD ρ _ j
   .rfl
  .rfl
 | shift b o rR _=>
  unfold fc;split
  .rename_i h;cases h
  .rename_i h;cases h
  .rename_i h;cases h
  .rename_i h;cases h;rw[rR];simp only[E.den,ax3]
  .rename_i h;cases h
  .rename_i heq _;cases heq
  .rfl
 | jA b o n x rR _ _ ihx=>
  unfold fc;split
  .rename_i h;cases h
  .rename_i h;cases h
  .rename_i h;cases h
  .rename_i h;cases h
  .rename_i h;cases h;split
   .rename_i hc;rw[ihx];simp only[E.den,ax3];exact(if_pos hc).symm
   .rename_i hc;rw[rR];exact(if_neg hc).symm
  .rename_i heq _;cases heq
  .rfl
 | var n=>unfold fc;rfl
 | cM n=>unfold fc;rfl
 | Vh a b _ _=>unfold fc;rfl
 | bin o k a b _ _=>unfold fc;rfl
 | wrap k a _=>unfold fc;rfl
 | kc n a _=>unfold fc;rfl
 | uv b=>unfold fc;rfl
 | VI a i _ _=>unfold fc;rfl
 | rQ a i s _ _ _=>unfold fc;rfl
 | YC s _=>unfold fc;rfl
 | tH l=>
  unfold fc;split
  .rename_i h;cases h
  .rename_i h;cases h;rfl
  .rename_i h;cases h
  .rename_i h;cases h
  .rename_i h;cases h
  .rename_i h _;cases h
  .rfl
theorem eI(n:Int)(j:Nat):(E.lit n).den ρ j=n:=rfl
theorem Ll(a i v:E)(j:Nat):(E.oL a i v).den ρ j=if j=(i.den ρ 0).toNat then v.den ρ 0 else a.den ρ j:=rfl
theorem Lm(a o n b:E)(j:Nat):(E.jA a o n b).den ρ j=if(o.den ρ 0).toNat<=j/\j<(o.den ρ 0).toNat+(n.den ρ 0).toNat then b.den ρ (j - (o.den ρ 0).toNat)else a.den ρ j:=rfl
theorem lE(a i s:E):(E.rQ a i s).den ρ=Ga (a.den ρ) (i.den ρ 0).toNat (s.den ρ):=rfl
theorem Ln(a i:E):(E.VI a i).den ρ=rK (a.den ρ) (i.den ρ 0).toNat:=rfl
theorem Nn(a i:E)(k:Nat):(Ej a i).den ρ k=rK (a.den ρ) (i.den ρ 0).toNat k:=by
 induction a generalizing k with
 | rQ a jj s mU ihj ihs=>
  rw[lE,lC];unfold Ej;split
  .rename_i heq;cases heq
  .rename_i heq;cases heq;split
   .rename_i he;rw[eI,eI,if_pos he]
   .rename_i he;rw[mU,eI,eI,if_neg he]
  .rename_i heq _;cases heq;split
   .rename_i he;subst he;rw[if_pos rfl]
   .rw [Ln,lE,lC]
  .rw [Ln,lE,lC]
 | lit n=>unfold Ej;rfl
 | _=>unfold Ej;rfl
theorem AE(a i:E):(Ej a i).den ρ=rK (a.den ρ) (i.den ρ 0).toNat:=funext (Nn ρ a i)
theorem vC(l:List UInt8):(Gd l).den ρ=F8 l:=by
 funext j;cases j with
 | zero=>simp[Gd,E.den,F8]
 | succ j=>
  simp only[Gd,E.den,F8,ayI];by_cases h:j<l.length
  .simp [List.getD,ays h]
  .simp [List.getD,List.getElem?_eq_none (Nat.le_of_not_lt h)]
theorem Jt(f:Nat->Int){j:Nat}(h:j<(f 0).toNat):(eB f)[j]? =some (UInt8.ofNat (f (j+1)).toNat):=by
 simp[eB,List.getElem?_range h]
theorem Ju(l:List UInt8)(j:Nat):(E.tH (l.map λb=>((b.toNat:Nat):Int))).den ρ j=((l.getD j 0).toNat:Nat):=by
 simp only[E.den];by_cases h:j<l.length
 .simp [List.getD,ays h]
 .simp [List.getD,List.getElem?_eq_none (Nat.le_of_not_lt h)]
theorem Ge(s:E):(Np s).den ρ=Nj (s.den ρ):=by
 unfold Np;split
 .rename_i n l;split
  .rename_i h;funext j;simp only[E.den,Nj,ayI];by_cases hj:j<l.length
   .have:=axS.1 h l[j] (List.getElem_mem hj);simp only[ai,decide_eq_true_eq]at this;simp only[List.getD,ays hj,ayG];have h2:(UInt8.ofNat l[j].toNat).toNat=l[j].toNat:=by
     rw[UInt8.toNat_ofNat'];omega
    rw[h2];omega
   .simp [List.getD,List.getElem?_eq_none (Nat.le_of_not_lt hj)]
  .rfl
 .rfl
theorem Dt(s:E):(∃l,mkStr s= .str l/\l=eB (s.den ρ))\/mkStr s= .nX s:=by
 unfold mkStr;split
 .rename_i n l;split
  .rename_i h;simp only[ai,beq_iff_eq]at h;obtain⟨rfl,h⟩:=h;left;refine⟨_,rfl,?_⟩;apply List.ext_getElem?;intro j;by_cases hj:j<l.length
   .rw [Jt _ (by simpa[E.den] using hj),List.getElem?_map,ays hj];simp[E.den,List.getD,ays hj]
   .rw [List.getElem?_eq_none (by simp;omega),List.getElem?_eq_none (by rw[dW];simp[E.den];omega)]
  .exact .inr rfl
 .exact .inr rfl
theorem Gf(s:E):SV.cells ρ (mkStr s)=[.string ⟨(eB (s.den ρ)).toArray⟩]:=by
 rcases Dt ρ s with⟨l,h,rfl⟩ | h<;>rw[h]<;>rfl
theorem pW(s:E):(mkStr s).val ρ= .string ⟨(eB (s.den ρ)).toArray⟩:=by
 rcases Dt ρ s with⟨l,h,rfl⟩ | h<;>rw[h]<;>rfl
theorem ko(s:E):(oa s).den ρ 0=s.den ρ 0:=by rw[oa,dp];rfl
theorem Nq(s:E):((eB (s.den ρ)).length:Int)=max 0 ((oa s).den ρ 0):=by rw[dW,ko];omega
theorem ux{v:SV}{s:E}(h:rU v=some s):v.val ρ= .string ⟨(eB (s.den ρ)).toArray⟩:=by
 unfold rU at h;split at h
 .cases h;rw[vC,s6];rfl
 .cases h;rfl
 .cases h
theorem pX(f:Nat->Int){j:Nat}(h:j<(f 0).toNat):(eB f)[j]? =some (UInt8.ofNat (f (j+1)).toNat):=by
 simp[eB,List.getElem?_range h]
theorem uy(a n:E):eB ((uz a n).den ρ)=(List.range (n.den ρ 0).toNat).map λj=>UInt8.ofNat (a.den ρ j).toNat:=by
 unfold eB;have h0:(uz a n).den ρ 0=n.den ρ 0:=by simp[uz,E.den]
 rw[h0];refine List.map_congr_left λj hj=>?_
 have hj:=ayc.1 hj;have:(uz a n).den ρ (j+1)=a.den ρ j:=by
  rw[uz,Ll,eI,if_neg (by simp),Lm,eI,if_pos (by simp;omega)];congr 1
 rw[this]
theorem QB(s t:E)(hs:0<=s.den ρ 0)(ht:0<=t.den ρ 0):eB ((Nr s t).den ρ)=eB (s.den ρ)++eB (t.den ρ):=by
 have h0:(Nr s t).den ρ 0=s.den ρ 0+t.den ρ 0:=by simp[Nr,E.den,bK,ko]
 have hj: ∀j,(Nr s t).den ρ (j+1)=if(s.den ρ 0).toNat<=j/\j<(s.den ρ 0).toNat+(t.den ρ 0).toNat then t.den ρ (j - (s.den ρ 0).toNat+1)else s.den ρ (j+1):=by
  intro j;rw[Nr,Ll,eI,if_neg (by simp),Lm];simp only[bK,ko,eI,gP];have e:(s.den ρ 0+1).toNat=(s.den ρ 0).toNat+1:=by omega
  rw[e];by_cases hc:(s.den ρ 0).toNat<=j/\j<(s.den ρ 0).toNat+(t.den ρ 0).toNat
  .rw [if_pos (by omega),if_pos hc];congr 1;simp only[show(1:Int).toNat=1 from rfl];omega
  .rw [if_neg (by omega),if_neg hc]
 apply List.ext_getElem?;intro j;by_cases hc:j<(s.den ρ 0+t.den ρ 0).toNat
 .rw [pX _ (by rw[h0];exact hc),hj];by_cases hc2:j<(s.den ρ 0).toNat
  .rw [if_neg (by omega),axX (by rw[dW];exact hc2),pX _ hc2]
  .rw [if_pos (by omega),axY (by rw[dW];omega),dW,pX _ (by omega)]
 .rw [List.getElem?_eq_none (by rw[dW,h0];omega),List.getElem?_eq_none (by rw[axP,dW,dW];omega)]
theorem Gg(a b:E):(VN a b).den ρ=(eB (a.den ρ)==eB (b.den ρ)):=by
 unfold VN;by_cases h:a=b
 .rw [if_pos h,h];simp[BE.den]
 .rw [if_neg h];rfl
theorem mE(o:IOp)(k:IntKind)(a b:E):(uA o k a b).den ρ 0=ar o k (a.den ρ 0) (b.den ρ 0):=by
 unfold uA;split<;>rfl
theorem Ns(k:IntKind)(a:E):(QC k a).den ρ 0=k.wrap (a.den ρ 0):=by
 unfold QC;split<;>rfl
theorem zW(a:E):(VO a).den ρ= !(a.den ρ 0==0):=by
 unfold VO;split<;>rfl
theorem oU(a b:E):(Vi a b).den ρ=(a.den ρ 0==b.den ρ 0):=by
 unfold Vi;split
 .rfl
 .split<;>simp_all[BE.den]
theorem vD(a b:E):(Jv a b).den ρ=decide (a.den ρ 0<b.den ρ 0):=by
 unfold Jv;split<;>rfl
theorem jN(a b:E):(zy a b).den ρ=decide (a.den ρ 0<=b.den ρ 0):=by
 unfold zy;split<;>rfl
theorem dY(b:BE):(kp b).den ρ= !b.den ρ:=by
 unfold kp;split<;>simp[BE.den]
theorem pY(a b:BE):(CR a b).den ρ=(a.den ρ&&b.den ρ):=by
 unfold CR;split<;>simp[BE.den]
theorem Lo(a b:BE):(bOr a b).den ρ=(a.den ρ||b.den ρ):=by
 unfold bOr;split<;>simp[BE.den]
theorem pZ(c a b:BE):(Gi c a b).den ρ=if c.den ρ then a.den ρ else b.den ρ:=by
 unfold Gi;split
 .simp [BE.den]
 .simp [BE.den]
 .rw [Lo];simp[BE.den]
 .rw [pY];simp[BE.den]
 .rfl
theorem aH(k:IntKind)(n:Nat)(f:Nat->Int):(aj k n f).length=n:=by simp[aj]
theorem bL(k:IntKind)(n:Nat)(f:Nat->Int)(j:Nat):(aj k n f)[j]? =if j<n then some (.int k (f j))else none:=by
 unfold aj;rw[List.getElem?_map];by_cases h:j<n
 .rw [List.getElem?_range h,if_pos h];rfl
 .rw [List.getElem?_eq_none (by simp;omega),if_neg h];rfl
theorem cN(k:IntKind)(n:Nat){f g:Nat->Int}(h: ∀j,j<n->f j=g j):aj k n f=aj k n g:=by
 unfold aj;exact List.map_congr_left λj hj=>by rw[h j (ayc.1 hj)]
theorem gQ(k:IntKind)(n m:Nat)(f:Nat->Int)(h:m<=n):(aj k n f).take m=aj k m f:=by
 unfold aj;rw[<-List.map_take,List.take_range,Nat.min_eq_left h]
theorem tR(k:IntKind)(n m:Nat)(f:Nat->Int):(aj k n f).drop m=aj k (n - m) λj=>f (m+j):=by
 apply List.ext_getElem?;intro j;rw[List.getElem?_drop,bL,bL];by_cases h:m+j<n
 .rw [if_pos h,if_pos (by omega)]
 .rw [if_neg h,if_neg (by omega)]
mutual
theorem vE: ∀v:SV,(SV.cells ρ v).length=v.width
 | .agg cs=>by simp only[SV.cells,SV.width];exact bJ cs
 | .jD k n a=>by simp[SV.cells,SV.width,aH]
 | .int .. =>rfl
 | .bool _=>rfl
 | .iy=>rfl
 | .bW=>rfl
 | .qK=>rfl
 | .pT=>rfl
 | .oM=>rfl
 | .undef=>rfl
 | .ptr .. =>rfl
 | .rL .. =>rfl
 | .pv .. =>rfl
 | .sl .. =>rfl
 | .vv _=>rfl
 | .str _=>rfl
 | .fn .. =>rfl
 | .fm .. =>rfl
 | .oH _=>rfl
 | .opt .. =>rfl
 | .Gb .. =>rfl
 | .Nk _=>rfl
 | .mp _=>rfl
 | .kj .. =>rfl
 | .j9 _=>rfl
 | .nX _=>rfl
 | .Jp .. =>rfl
 | .Qs .. =>rfl
 | .VJ .. =>rfl
 | .Qt .. =>rfl
 | .Jq _=>rfl
theorem bJ: ∀l:List SV,(SV.aq ρ l).length=SV.qQ l
 | []=>rfl
 | v::r=>by simp only[SV.aq,SV.qQ,axP];rw[vE v,bJ r]
end
theorem je(a b:List SV):SV.aq ρ (a++b)=SV.aq ρ a++SV.aq ρ b:=by
 induction a with
 | nil=>rfl
 | cons v r ih=>simp only[List.cons_append,SV.aq,ih,ayl]
def SV.plain:SV->Bool
 | .agg _=>false
 | .jD .. =>false
 | _=>true
theorem jG{v:SV}(h:v.plain=true):SV.cells ρ v=[v.val ρ]:=by
 cases v<;>simp_all[SV.plain,SV.cells,SV.val]
theorem CS(d:Nat){v:SV}(h:v.plain=true)(r:List SV):ib (d+1) (v::r)=ib d r:=by
 cases v<;>simp_all[SV.plain,ib]
theorem CT(d:Nat){v:SV}(h:v.plain=true)(r:List SV):jO (d+1) (v::r)=(jO d r).map (v:: ·):=by
 cases v<;>simp_all[SV.plain,jO]
theorem fM: ∀(cs:List SV) (d:Nat) (r:List SV),ib d cs=some r->SV.aq ρ r=(SV.aq ρ cs).drop d
 | cs,0,r,h=>by simp[ib]at h;subst h;rfl
 | [],d+1,r,h=>by simp[ib]at h;subst h;simp[SV.aq]
 | v::cs,d+1,r,h=>by
  by_cases hp:v.plain=true
  .rw [CS d hp]at h;rw[fM cs d r h];simp[SV.aq,jG ρ hp]
  .cases v with
   | agg x=>simp[ib]at h
   | jD k n a=>
    simp only[ib]at h;simp only[SV.aq,SV.cells];split at h
    .rename_i cC;simp only[axU]at h;subst h;simp only[SV.aq,SV.cells];rw[List.drop_append_of_le_length (by rw[aH];omega),tR];congr 1;apply cN;intro j _;rw[gP];rfl
    .rename_i lS;rw[fM cs _ r h,List.drop_append,aH,List.drop_of_length_le (l:=aj k n _) (by rw[aH];omega)];rfl
   | _=>simp[SV.plain]at hp
theorem kq: ∀(cs:List SV) (d:Nat) (r:List SV),jO d cs=some r->SV.aq ρ r=(SV.aq ρ cs).take d
 | cs,0,r,h=>by simp[jO]at h;subst h;simp[SV.aq]
 | [],d+1,r,h=>by simp[jO]at h;subst h;simp[SV.aq]
 | v::cs,d+1,r,h=>by
  by_cases hp:v.plain=true
  .rw [CT d hp,axV]at h;obtain⟨x,hx,rfl⟩:=h;simp[SV.aq,jG ρ hp,kq cs d x hx]
  .cases v with
   | agg x=>simp[jO]at h
   | jD k n a=>
    simp only[jO]at h;simp only[SV.aq,SV.cells];split at h
    .rename_i hle;simp only[axU]at h;subst h;simp only[SV.aq,SV.cells,List.append_nil];rw[List.take_append_of_le_length (by rw[aH];omega),gQ _ _ _ _ hle]
    .rename_i hgt;rw[axV]at h;obtain⟨x,hx,rfl⟩:=h;simp only[SV.aq,SV.cells];rw[kq cs _ x hx,List.take_append,aH,List.take_of_length_le (l:=aj k n _) (by rw[aH];omega)]
   | _=>simp[SV.plain]at hp
theorem fy{c size:Nat}{cs r:List SV}(h:kK c size cs=some r):
  SV.aq ρ r=((SV.aq ρ cs).drop c).take size/\c+size<=(SV.aq ρ cs).length:=by
 unfold kK at h;split at h
 .rename_i hle;split at h
  .rename_i x hx;exact⟨by rw[kq ρ _ _ _ h,fM ρ _ _ _ hx],by rw[bJ];exact hle⟩
  .cases h
 .cases h
theorem np{c:Nat}{vs cs r:List SV}(h:xy c vs cs=some r):
  SV.aq ρ r=(SV.aq ρ cs).take c++SV.aq ρ vs++(SV.aq ρ cs).drop (c+(SV.aq ρ vs).length)/\
   c+(SV.aq ρ vs).length<=(SV.aq ρ cs).length:=by
 unfold xy at h;split at h
 .rename_i hle;split at h
  .rename_i x y hx hy;simp only[axU]at h;subst h;rw[je,je,kq ρ _ _ _ hx,fM ρ _ _ _ hy,bJ,bJ];exact⟨rfl,hle⟩
  .cases h
 .cases h
theorem oV{agg:Bool}{cs:List SV}{v:SV}(h:jP agg cs=some v):
  (agg=true->v.val ρ= .agg (SV.aq ρ cs).toArray)/\(agg=false->SV.aq ρ cs=[v.val ρ]):=by
 unfold jP at h;split at h
 .rename_i ha;simp only[axU]at h;subst h;simp[ha,SV.val]
 .rename_i ha;refine⟨λhc=>absurd hc ha,λ_=>?_⟩;split at h
  .simp only[axU]at h;subst h;simp[SV.aq,SV.cells,SV.val,aj,dp,E.den]
  .cases h
  .cases h
  .rename_i v' h1 h2 h3;simp only[axU]at h;subst h;have hp:v'.plain=true:=by
    cases v' with
    | agg cs=>exact absurd rfl (h3 cs)
    | jD k n a=>exact absurd rfl (h2 k n a)
    | _=>rfl
   simp[SV.aq,jG ρ hp]
  .cases h
structure Env.Ok (ρ:Env):Prop where
theorem Env.ok(ρ:Env):ρ.Ok:=⟨⟩
theorem Env.Ok.vvD{ρ:Env}(_:ρ.Ok)(i:Nat):(ρ.vv.getD i V1.nil).v.oneCell'=true:=(ρ.vv.getD i V1.nil).one
theorem Env.Ok.vaD{ρ:Env}(_:ρ.Ok)(i j:Nat):((ρ.va.getD i λ_=>V1.nil) j).v.oneCell'=true:=((ρ.va.getD i λ_=>V1.nil) j).one
theorem Ek{v:Value}(h:v.oneCell'=true):v.cells= #[v]:=by
 cases v<;>simp_all[Value.oneCell',Value.cells]
theorem Lp{v:SV}(h:v.one=true)(hs:v.plain=true)(iW:ρ.Ok):(v.val ρ).oneCell'=true:=by
 cases v with
 | vv i=>simp only[SV.val];exact iW.vvD i
 | Gb a i=>simp only[SV.val];exact iW.vaD a _
 | j9 e=>simp only[SV.val];exact Gc _
 | Jq e=>simp only[SV.val];exact iU _
 | pv v i s c=>simp only[SV.val,gC];split<;>rfl
 | Qt v i s c n=>simp only[SV.val,Ay];split<;>rfl
 | kj v cs s=>simp only[SV.val];exact pz _ _ _ _ (ρ.vv.getD v V1.nil).one
 | Jp c v=>simp only[SV.val];split<;>first | rfl | (unfold vw;split<;>rfl)
 | _=>first | rfl | simp_all[SV.one,SV.plain]
theorem Nt{v:SV}(h:v.one=true)(iW:ρ.Ok): ∀u∈SV.cells ρ v,u.oneCell'=true:=by
 by_cases hs:v.plain=true
 .rw [jG ρ hs];intro u hu;rw[ax2]at hu;subst hu;exact Lp ρ h hs iW
 .cases v with
  | agg x=>simp[SV.one]at h
  | jD k n a=>
   intro u hu;simp only[SV.cells,aj,ayg]at hu;obtain⟨j,_,rfl⟩:=hu;rfl
  | _=>simp[SV.plain]at hs
theorem ob{l:List SV}(h:l.all SV.one=true)(iW:ρ.Ok): ∀u∈SV.aq ρ l,u.oneCell'=true:=by
 induction l with
 | nil=>intro u hu;cases hu
 | cons v r ih=>
  rw[List.all_cons,ai]at h;intro u hu;simp only[SV.aq,ax_]at hu;exact hu.elim (Nt ρ h.1 iW u) (ih h.2 u)
theorem kr{v:SV}{cs:List SV}(h:fA v=some cs)(iW:ρ.Ok):
  (v.val ρ).cells.toList=SV.aq ρ cs/\∀u∈SV.aq ρ cs,u.oneCell'=true:=by
 by_cases hs:v.plain=true
 .have h1:v.one=true/\cs=[v]:=by
   cases v<;>simp_all[fA,SV.plain]
  obtain⟨h1,rfl⟩:=h1;have h2:=Lp ρ h1 hs iW;refine⟨?_,ob ρ (by simp[h1]) iW⟩;rw[Ek h2];simp[SV.aq,jG ρ hs]
 .cases v with
  | agg x=>
   simp only[fA]at h;split at h
   .rename_i ha;simp only[axU]at h;subst h;exact⟨by simp[SV.val,Value.cells],ob ρ ha iW⟩
   .cases h
  | jD k n a=>
   simp only[fA,SV.one,if_true,axU]at h;subst h;exact⟨by simp[SV.val,Value.cells,SV.aq,SV.cells],ob ρ (by simp[SV.one]) iW⟩
  | _=>simp[SV.plain]at hs
theorem CU(v:Value)(x:SV)(h:ofValue v=some x)(hn: ∀l,v≠ .agg l):x.plain=true:=by
 unfold ofValue at h;split at h<;>simp_all<;>(subst h;rfl)
mutual
theorem rV: ∀(v:Value) (x:SV),ofValue v=some x->x.val ρ=v
 | .int k n,x,h=>by simp[ofValue]at h;subst h;rfl
 | .bool b,x,h=>by simp[ofValue]at h;subst h;rfl
 | .pointer none,x,h=>by simp[ofValue]at h;subst h;rfl
 | .pointer (some _),x,h=>by simp[ofValue]at h
 | .slice none 0 0,x,h=>by simp[ofValue]at h;subst h;rfl
 | .slice none (_+1) _,x,h=>by simp[ofValue]at h
 | .slice none 0 (_+1),x,h=>by simp[ofValue]at h
 | .slice (some _) _ _,x,h=>by simp[ofValue]at h
 | .nilFunc,x,h=>by simp[ofValue]at h;subst h;rfl
 | .nilIface,x,h=>by simp[ofValue]at h;subst h;rfl
 | .map none,x,h=>by simp[ofValue]at h;subst h;rfl
 | .map (some _),x,h=>by simp[ofValue]at h
 | .string ⟨⟨l⟩⟩,x,h=>by simp[ofValue]at h;subst h;rfl
 | .tuple ⟨[]⟩,x,h=>by simp[ofValue]at h;subst h;rfl
 | .tuple ⟨_::_⟩,x,h=>by simp[ofValue]at h
 | .agg ⟨l⟩,x,h=>by
  simp only[ofValue,axV]at h;obtain⟨y,hy,rfl⟩:=h;simp only[SV.val];rw[rW l y hy]
 | .float ..,x,h=>by simp[ofValue]at h
 | .complex ..,x,h=>by simp[ofValue]at h
 | .chan _,x,h=>by simp[ofValue]at h
 | .func ..,x,h=>by simp[ofValue]at h
 | .iface ..,x,h=>by simp[ofValue]at h
theorem rW: ∀(l:List Value) (xs:List SV),ofValues l=some xs->SV.aq ρ xs=l
 | [],xs,h=>by simp[ofValues]at h;subst h;rfl
 | v::r,xs,h=>by
  unfold ofValues at h;split at h
  .rename_i heq;cases heq
  .cases h
  .rename_i v' r' hn heq;cases heq;split at h
   .rename_i x xs' hx Jw;simp only[axU]at h;subst h;have hp:=CU v x hx (λl e=>hn l e);simp only[SV.aq,jG ρ hp,rV v x hx,rW r xs' Jw];rfl
   .cases h
end
end
def ku:Option TypeDesc->TK->Bool
 | some (.int k),.int k'=>k==k'
 | some .bool,.bool=>true
 | some .string,.str=>true
 | some (.pointer e),.ptr e'=>e==e'
 | some (.slice e),.slice e'=>e==e'
 | some (.array n e),.arr n' e'=>n==n'&&e==e'
 | some (.struct fs),.struct l=>fs.toList.map (λf=>(f.type,f.offset))==l
 | some (.struct fs),.Lq l _=>fs.toList.map (λf=>(f.type,f.offset))==l
 | some (.map k e),.map k' e'=>k==k'&&e==e'
 | some (.func ..),.func=>true
 | some (.interface _),.iface=>true
 | _,_=>false
def isInt(k:IntKind)(m:Int):Value->Bool
 | .int k' n=>k==k'&&n==m
 | _=>false
def QD(x:SV)(vs:List Value):Option (List Value):=
 match x with
 | .jD k n (.lit m)=>if n<=vs.length/\(vs.take n).all (isInt k m)=true then some (vs.drop n)else none
 | x=>match vs with
  | v::r=>match ofValue v with
   | some y=>match x,y with
    | .int k (.lit m),.int k' (.lit m')=>if k=k'/\m=m' then some r else none
    | .bool (.lit b),.bool (.lit b')=>if b=b' then some r else none
    | .iy,.iy=>some r
    | .bW,.bW=>some r
    | .qK,.qK=>some r
    | .pT,.pT=>some r
    | .oM,.oM=>some r
    | .str l,.str l'=>if l=l' then some r else none
    | _,_=>none
   | none=>none
  | []=>none
def Gj:List Value->List SV->Bool
 | vs,[]=>vs.isEmpty
 | vs,x::r=>match QD x vs with
  | some I9=>Gj I9 r
  | none=>false
theorem QE{k:IntKind}{m:Int}{v:Value}(h:isInt k m v=true):v= .int k m:=by
 cases v<;>simp_all[isInt]
theorem Gk(ρ:Env){x:SV}{vs I9:List Value}(h:QD x vs=some I9):vs=SV.cells ρ x++I9:=by
 unfold QD at h;split at h
 .rename_i k n m;split at h
  .rename_i hc;simp only[axU]at h;subst h;have:aj k n (E.den ρ (.lit m))=vs.take n:=by
    apply List.ext_getElem?;intro j;rw[bL];by_cases hj:j<n
    .rw [if_pos hj,List.getElem?_take_of_lt hj];have cC:j<vs.length:=by omega
     rw[ays cC];have:=axS.1 hc.2 vs[j] (by
      rw[<-List.getElem_take (xs:=vs) (j:=n) (h:=by simp;omega)];exact List.getElem_mem _)
     rw[QE this];rfl
    .rw [if_neg hj,List.getElem?_eq_none (by simp;omega)]
   simp only[SV.cells,this,List.take_append_drop]
  .cases h
 .split at h
  .rename_i v r;split at h
   .rename_i y hy;have hv:=rV ρ v y hy;subst hv;split at h
    all_goals first
     | (simp only[axU]at h;subst h;rfl)
     | (
       split at h
       .rename_i hc;simp only[axU]at h;subst h
        first | (obtain⟨rfl,rfl⟩:=hc;rfl) | (subst hc;rfl)
       .cases h)
     | cases h
   .cases h
  .cases h
theorem yD(ρ:Env): ∀(l:List SV) (vs:List Value),Gj vs l=true->SV.aq ρ l=vs
 | [],vs,h=>by
  cases vs with
  | nil=>rfl
  | cons v r=>simp[Gj]at h
 | x::r,vs,h=>by
  unfold Gj at h;split at h
  .rename_i I9 hz;rw[Gk ρ hz,SV.aq,yD ρ r I9 h]
  .cases h
def mf(P:Program)(f:TypeId->Option (List jt)):List Field->Nat->Option (List jt)
 | [],_=>some []
 | fd::r,off=>
  if fd.name== "_" ||fd.offset != off then none else
  match f fd.type with
  | some l=>if P.cellsOf fd.type==l.length then(mf P f r (off+l.length)).map (l++ ·)else none
  | none=>none
def g9(P:Program):Nat->TypeId->Option (List jt)
 | 0,_=>none
 | d+1,t=>
  match P.underlying t with
  | some (.int k)=>some [some k]
  | some .bool=>some [none]
  | some (.array n e)=>match g9 P d e with
   | some l=>if P.cellsOf e==l.length then some (List.replicate n l).flatten else none
   | none=>none
  | some (.struct fs)=>if P.stoodInHeld t then none else mf P (g9 P d) fs.toList 0
  | _=>none
def YK(P:Program)(ti:TI):Bool:=
 ti.lay.isEmpty||(g9 P 12 ti.t==some (mF ti.lay)&& !P.eqGuardType P.depth ti.t)
def ZZ(P:Program)(ti:TI):Bool:=
 ku (P.underlying ti.t) ti.k&&YK P ti&&SV.qQ ti.zero==ti.size&&
 match P.info? ti.t with
 | some i=>i.size==ti.size&&i.bytes==ti.bytes&&ti.zero.all SV.one&&
  match i.zero with
  | some z=>Gj z.cells.toList ti.zero&&(match z with | .agg _=>ti.k.agg | _=> !ti.k.agg)
  | none=>false
 | none=>false
def bD(P:Program)(T:List TI):Bool:=T.all (ZZ P)
structure lY (P:Program) (ti:TI):Prop where
 kind:ku (P.underlying ti.t) ti.k=true
 lay:ti.lay.isEmpty=true\/(g9 P 12 ti.t=some (mF ti.lay)/\P.eqGuardType P.depth ti.t=false)
 one:ti.zero.all SV.one=true
 Nu:SV.qQ ti.zero=ti.size
 zag: ∀i z,P.info? ti.t=some i->i.zero=some z->(match z with | .agg _=>ti.k.agg | _=> !ti.k.agg)=true
 info: ∃i,P.info? ti.t=some i/\i.size=ti.size/\i.bytes=ti.bytes/\∃z,i.zero=some z/\∀ρ,SV.aq ρ ti.zero=z.cells.toList
theorem Nv{P:Program}{ti:TI}(h:ZZ P ti=true):lY P ti:=by
 unfold ZZ at h;rw[ai,ai,ai,beq_iff_eq]at h;obtain⟨⟨⟨hk,hl⟩,hzl⟩,h⟩:=h;have PU:ti.lay.isEmpty=true\/(g9 P 12 ti.t=some (mF ti.lay)/\P.eqGuardType P.depth ti.t=false):=by
  unfold YK at hl;rw[Bool.or_eq_true,ai,beq_iff_eq,Bool.not_eq_true']at hl;exact hl
 split at h
 .rename_i i hi;simp only[ai,beq_iff_eq]at h;obtain⟨⟨⟨h1,h2⟩,h4⟩,h3⟩:=h;split at h3
  .rename_i z hz;rw[ai]at h3;exact⟨hk,PU,h4,hzl,λi' z' cj PV=>by rw[hi]at cj;cases cj;rw[hz]at PV;cases PV;exact h3.2,i,hi,h1,h2,z,hz,λρ=>yD ρ _ _ h3.1⟩
  .cases h3
 .cases h
theorem aE{P:Program}{T:List TI}(hT:bD P T=true){t:Nat}{ti:TI}(h:aV T t=some ti):ti.t=t/\lY P ti:=by
 unfold aV at h;have hm:=List.mem_of_find?_eq_some h;have ht:=List.find?_some h;simp only[beq_iff_eq]at ht;exact⟨ht,Nv (axS.1 hT ti hm)⟩
section
variable {P:Program} (w:World)
theorem lY.sizeOf{ti:TI}(h:lY P ti):(sizeOf ti.t).run P w= .ok ti.size w:=by
 obtain⟨i,hi,hs,_⟩:=h.info;simp[Go.sizeOf,typeInfo,hi,hs]
theorem lY.isAgg{ti:TI}(h:lY P ti):(isAgg ti.t).run P w= .ok ti.k.agg w:=by
 have hk:=h.kind;unfold ku at hk;split at hk<;>first | (cases hk;done) | skip
 all_goals (rename_i h1 h2;simp[Go.isAgg,run_underlying h1,h2,TK.agg])
theorem lY.zero{ti:TI}(h:lY P ti): ∃z,(zeroValue ti.t).run P w= .ok z w/\∀ρ,SV.aq ρ ti.zero=z.cells.toList:=by
 obtain⟨i,hi,_,_,z,hz,hc⟩:=h.info;exact⟨z,by simp[zeroValue,typeInfo,hi,hz],hc⟩
end
theorem Gl{α:Type}(s:Nat)(f:Nat->List α)(hf: ∀i,(f i).length=s): ∀(n i:Nat),i<n->
  (((List.range n).flatMap f).drop (i*s)).take s=f i:=by
 intro n i hi;have h1:List.range n=List.range i++(i::(List.range (n - i - 1)).map (· +(i+1))):=by
  apply List.ext_getElem?;intro j;rw[List.getElem?_append];by_cases hj:j<n
  .rw [List.getElem?_range hj];by_cases Nw:j<i
   .rw [if_pos (by simpa using Nw),List.getElem?_range Nw]
   .rw [if_neg (by simpa using Nw),List.length_range];by_cases he:j=i
    .subst he;simp
    .obtain⟨d,rfl⟩: ∃d,j=i+1+d:=⟨j - i - 1,by omega⟩;rw[show i+1+d - i=d+1 by omega,List.getElem?_cons_succ,List.getElem?_map,List.getElem?_range (by omega)];simp;omega
  .rw [List.getElem?_eq_none (by simp;omega),if_neg (by simp;omega),List.getElem?_eq_none (by simp;omega)]
 have hlen: ∀l:List Nat,(l.flatMap f).length=l.length*s:=by
  intro l
  induction l with
  | nil=>simp
  | cons a r ih=>rw[ayn,axP,hf,ih,ax5,Nat.add_mul];omega
 rw[h1,List.flatMap_append,ayn];have h2:=hlen (List.range i);rw[List.length_range]at h2;rw[List.drop_append,h2,Nat.sub_self,List.drop_of_length_le (by omega),List.drop_zero,List.nil_append];rw[List.take_append_of_le_length (by rw[hf];exact Nat.le_refl _),List.take_of_length_le (by rw[hf];exact Nat.le_refl _)]
section
variable (ρ:Env)
theorem mg(c:bU)(i:Nat):(c.cells ρ i).length=c.w:=by
 obtain⟨ck,cw,a⟩:=c;cases ck<;>simp[bU.cells,ax,cR,cV,vF,aH]
theorem dU(aB:List bU)(i:Nat):((aB.map (bU.cells ρ)).flatMap λc=>c i).length=cm aB:=by
 induction aB with
 | nil=>rfl
 | cons c r ih=>simp only[ayr,ayn,axP,mg,ih,cm,List.sum_cons,ayr]
theorem VP(aB:List bU)(n i:Nat)(h:i<n):
  ((aL ρ n aB).drop (i*cm aB)).take (cm aB)=(aB.map (bU.cells ρ)).flatMap λc=>c i:=
 Gl (cm aB) (λ(i:Nat)=>(aB.map (bU.cells ρ)).flatMap λ(c:Nat->List Value)=>c i) (dU ρ aB) n i h
theorem eL(aB:List bU)(n:Nat):(aL ρ n aB).length=n*cm aB:=by
 unfold aL aG;have: ∀l:List Nat,(l.flatMap λi=>(aB.map (bU.cells ρ)).flatMap λc=>c i).length=l.length*cm aB:=by
  intro l
  induction l with
  | nil=>simp
  | cons a r ih=>rw[ayn,axP,dU,ih,ax5,Nat.add_mul];omega
 rw[this,List.length_range]
theorem toNat_mul(x:Int)(w:Nat):(x*(w:Int)).toNat=x.toNat*w:=by
 rcases Int.le_total 0 x with h | h
 .obtain⟨m,rfl⟩:=Int.eq_ofNat_of_zero_le h;rw[<-Int.natCast_mul,ax3,ax3]
 .have h1:x*(w:Int)<=0:=Int.mul_nonpos_of_nonpos_of_nonneg h (by omega);rw[Int.toNat_of_nonpos h1,Int.toNat_of_nonpos h];simp
theorem Nx(e:E):SV.cells ρ (mkP e)=[dr (e.den ρ 0)]:=by
 unfold mkP;split
 .simp only[SV.cells,E.den,fq]
 .split
  .rename_i h;subst h;rfl
  .rfl
 .rfl
theorem CV{c:bU}{i:E}{x:SV}(h:El c i=some x):SV.cells ρ x=c.cells ρ (i.den ρ 0).toNat:=by
 obtain⟨ck,cw,a⟩:=c;unfold El at h;cases ck with
 | int k=>
  simp only[bU.cells]at h ⊢;split at h
  .rename_i hw;simp only[axU]at h;subst h;simp[SV.cells,ax,aj,hw,dp]
  .simp only[axU]at h;subst h;simp only[SV.cells,ax];apply cN;intro j _;rw[gP,iV];simp only[E.den];rw[toNat_mul]
 | bool=>
  simp only[bU.cells]at h ⊢;split at h
  .rename_i hw;simp only[axU]at h;subst h;simp[SV.cells,cR,hw,dp,zW]
  .cases h
 | val v=>
  simp only[bU.cells]at h ⊢;split at h
  .rename_i hw;simp only[axU]at h;subst h;simp[SV.cells,cV,hw]
  .cases h
 | ptr=>
  simp only[bU.cells]at h ⊢;split at h
  .rename_i hw;simp only[axU]at h;subst h;rw[Nx];simp[vF,hw,dp]
  .cases h
 | bW=>
  simp only[bU.cells]at h ⊢;split at h
  .rename_i hw;simp only[axU]at h;subst h;simp[SV.cells,cV,hw]
  .cases h
 | str=>
  simp only[bU.cells]at h ⊢;split at h
  .rename_i hw;simp only[axU]at h;subst h;rw[Gf,AE];simp[cV,hw]
  .cases h
 | cv=>
  simp only[bU.cells]at h ⊢;split at h
  .rename_i hw;simp only[axU]at h;subst h;simp[SV.cells,cV,hw,dp]
  .cases h
 | Lr l=>
  simp only[bU.cells]at h ⊢;split at h
  .rename_i k hk;split at h
   .rename_i n hn;split at h
    .rename_i hw;simp only[axU]at h;subst h;have kX:i.den ρ 0=(k:Int):=by
      unfold iH at hk;split at hk
      .cases hk;rfl
      .cases hk
     simp[SV.cells,cV,hw,kX,hn]
    .cases h
   .cases h
  .cases h
 | pt q v=>
  simp only[bU.cells]at h ⊢;split at h
  .rename_i hw;obtain⟨hw,rfl⟩:=hw;simp only[axU]at h;subst h;simp[SV.cells,cV,hw]
  .cases h
theorem oc{i:E}: ∀{aB:List bU} {es:List SV},p_ i aB=some es->
  SV.aq ρ es=(aB.map (bU.cells ρ)).flatMap λc=>c (i.den ρ 0).toNat
 | [],es,h=>by simp[p_]at h;subst h;rfl
 | c::r,es,h=>by
  unfold p_ at h;split at h
  .rename_i x xs hx Jw;simp only[axU]at h;subst h;simp only[SV.aq,ayr,ayn,CV ρ hx,oc Jw]
  .cases h
theorem dR{i n:E}(h: ∀b∈ju i n,b.prop ρ):0<=i.den ρ 0/\i.den ρ 0<n.den ρ 0:=by
 have key: ∀b:BE,b∈[zy (.lit 0) i,Jv i n]->b.den ρ=true:=by
  intro b hb;by_cases hl:b= .lit true
  .subst hl;rfl
  .exact(BE.bY ρ b).2 (h b (by unfold ju;exact ayi.2 ⟨hb,by simpa using hl⟩))
 have h1:=key (zy (.lit 0) i) (by simp);have h2:=key (Jv i n) (by simp);rw[jN]at h1;rw[vD]at h2;exact⟨of_decide_eq_true h1,of_decide_eq_true h2⟩
end
theorem dS(a:Addr)(m n:Nat):(a.add m).add n=a.add (m+n):=by
 unfold Addr.add;by_cases hm:m=0
 .subst hm;simp
 .by_cases hn:n=0
  .subst hn;simp
  .simp [hm,hn,Nat.add_assoc]
theorem gE(b o n:Nat):(⟨b,o,none⟩:Addr).add n=⟨b,o+n,none⟩:=by
 unfold Addr.add;split<;>simp_all
section
variable {P:Program} {w:World}
theorem od{ti:TI}(h:lY P ti)(a:Addr)(xs:List Value)(hl:xs.length=ti.size)
  (hc: ∀(j:Nat) v,xs[j]? =some v->w.cell? (a.add j)=some v) (v:Value)
  (hv:(ti.k.agg=true->v= .agg xs.toArray)/\(ti.k.agg=false->xs=[v])):
  (Instr.loadAt ti.t (.pointer (some a))).run P w= .ok v w:=by
 cases ha:ti.k.agg with
 | true=>
  have h1:=run_loadCells_list (P:=P) w a xs hc;rw[hl]at h1;simp[Instr.loadAt,Instr.sureAddr,loadVar,h.isAgg w,ha,h.sizeOf w,h1,hv.1 ha]
 | false=>
  have hx:=hv.2 ha;subst hx;have:=hc 0 v rfl;simp only[Addr.add,if_true]at this;simp[Instr.loadAt,Instr.sureAddr,loadVar,h.isAgg w,ha,this]
theorem kM{b:Nat}{wr:Bool}{cs:List Value}{S:Nat->Prop}(h:(ak b wr cs).p w S)(c:Nat)(j:Nat)(v:Value)
  (hv:(cs.drop c)[j]? =some v):w.cell? ((⟨b,c,none⟩:Addr).add j)=some v:=by
 rw[gE];rw[List.getElem?_drop]at hv;obtain⟨_,ty,fz,hg,_⟩:=h;rw[cell_of_row w b (c+j) _ ty fz hg];simpa using hv
theorem Gm{md:Bool}{t s n:Nat}{v:Value}{cs:List Value}{S:Nat->Prop}(h:(aA md t s v n cs).p w S)(c j:Nat)(u:Value)
  (hu:(cs.drop c)[j]? =some u): ∃a m cp,v= .slice (some a) m cp/\m=n/\w.cell? ((a.add c).add j)=some u:=by
 rw[List.getElem?_drop]at hu;obtain⟨h0,_⟩:=h;cases md with
 | true=>
  simp only[if_true]at h0;have YL:=h0;obtain⟨hl,hr⟩:=h0;rcases hr with⟨_,rfl⟩ | ⟨g,o,cap,cur,rfl,hg,_⟩
  .have:cs=[]:=aye (by simpa using hl);subst this;simp at hu
  .refine⟨⟨g,o,none⟩,n,cap,rfl,rfl,?_⟩;rw[dS];exact nm YL _ _ hu
 | false=>
  simp only[Bool.false_eq_true,if_false]at h0;obtain⟨hl,a,m,c',rfl,hm,_,lD,hc⟩:=h0;cases a with
  | none=>
   have hn:=lD rfl;subst hn;have:cs=[]:=aye (by simpa using hl);subst this;simp at hu
  | some ad=>
   refine⟨ad,m,c',rfl,hm,?_⟩;rw[dS];exact(hc ad rfl).2 _ _ hu
theorem oe{md:Bool}{t s n:Nat}{v:Value}{cs:List Value}{S:Nat->Prop}(h:(aA md t s v n cs).p w S)(hn:0<n):
  ∃a cp,v= .slice (some a) n cp:=by
 obtain⟨h0,_⟩:=h;cases md with
 | true=>
  simp only[if_true]at h0;rcases h0.2 with⟨_,h1⟩ | ⟨g,o,cap,cur,rfl,_⟩
  .omega
  .exact⟨_,_,rfl⟩
 | false=>
  simp only[Bool.false_eq_true,if_false]at h0;obtain⟨_,a,m,c',rfl,hm,_,lD,_⟩:=h0;subst hm;cases a with
  | none=>have:=lD rfl;omega
  | some ad=>exact⟨_,_,rfl⟩
theorem Em{md:Bool}{t s n:Nat}{v:Value}{cs:List Value}{S:Nat->Prop}(h:(aA md t s v n cs).p w S):
  ∃a cp,v= .slice a n cp:=by
 obtain⟨h0,_⟩:=h;cases md with
 | true=>
  simp only[if_true]at h0;rcases h0.2 with⟨rfl,rfl⟩ | ⟨g,o,cap,cur,rfl,_⟩
  .exact⟨_,_,rfl⟩
  .exact⟨_,_,rfl⟩
 | false=>
  simp only[Bool.false_eq_true,if_false]at h0;obtain⟨_,a,m,c',rfl,rfl,_⟩:=h0;exact⟨_,_,rfl⟩
end
end Go.RX
