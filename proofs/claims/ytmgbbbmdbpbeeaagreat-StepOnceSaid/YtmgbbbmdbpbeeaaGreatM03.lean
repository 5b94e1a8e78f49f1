/- Executor. -/
import Derived.Test.YtmgbbbmdbpbeeaaGreatM02
open Bool renaming and_eq_true → ai
open Int renaming toNat_natCast → aiX
open List renaming all_eq_true → aiM, append_assoc → ajs, drop_of_length_le → ajy, eq_nil_of_length_eq_zero → ai6, getD_cons_succ → aiS, getElem?_append_left → aiR, getElem?_append_right → aiW, getElem?_eq_getElem → ajk, getElem?_eq_none → ajz, map_congr_left → ajq, map_cons → ajb, mem_append → ajt, mem_filter → aja, mem_map → ai_, mem_range → ai8, mem_singleton → ajo, range → ajw, take_of_length_le → ajF
open List.cons renaming injEq → ai5
open Option renaming getD_some → ajh, map_eq_some_iff → aiO
open Option.some renaming injEq → aiP
namespace Go.RX
section
variable (ρ:Env)
theorem bI(a b:E):(du a b).den ρ 0=a.den ρ 0+b.den ρ 0:=by
 unfold du;split<;>simp_all [E.den,ak]
theorem eC(a b:E):(uw a b).den ρ 0=a.den ρ 0 - b.den ρ 0:=by
 unfold uw;split<;>simp_all [E.den,ak]
theorem fN(a b:E):(pw a b).den ρ 0=a.den ρ 0*b.den ρ 0:=by
 unfold pw;split<;>simp_all [E.den,ak]
theorem dF(a o:E)(j:Nat):(jT a o).den ρ j=a.den ρ ((o.den ρ 0).toNat+j):=by
 unfold jT;split<;>simp_all [E.den]
theorem xS(v:E)(j:Nat):(BY v).den ρ j=v.den ρ 0:=by
 unfold BY;split
 ·rename_i h;cases v<;>first | rfl | (simp [E.Xb]at h;done)
 ·simp [E.den]
theorem dY(a i:E)(j:Nat):(gp a i).den ρ j=a.den ρ (i.den ρ 0).toNat:=by
 induction a generalizing i j with
 | lit n=>unfold gp;rfl
 | sD b i' v sE _ Z1=>
  unfold gp;split
  ·rename_i h;cases h
  ·rename_i h;cases h
  ·rename_i jj ii h;cases h;split
   ·rename_i he;simp only [E.den,he,if_true];exact xS ρ v j
   ·rename_i he;rw [sE];exact(if_neg he).symm
  ·rename_i h;cases h
  ·rename_i h;cases h
  ·rename_i heq _;cases heq;split
   ·rename_i he;subst he;simp only [E.den,if_true];exact xS ρ _ j
   ·rfl
  ·rfl
 | shift b o sE _=>
  unfold gp;split
  ·rename_i h;cases h
  ·rename_i h;cases h
  ·rename_i h;cases h
  ·rename_i h;cases h;rw [sE];simp only [E.den,aiX]
  ·rename_i h;cases h
  ·rename_i heq _;cases heq
  ·rfl
 | rl b o n x sE _ _ Xc=>
  unfold gp;split
  ·rename_i h;cases h
  ·rename_i h;cases h
  ·rename_i h;cases h
  ·rename_i h;cases h
  ·rename_i h;cases h;split
   ·rename_i hc;rw [Xc];simp only [E.den,aiX];exact(if_pos hc).symm
   ·rename_i hc;rw [sE];exact(if_neg hc).symm
  ·rename_i heq _;cases heq
  ·rfl
 | var n=>unfold gp;rfl
 | aN n=>unfold gp;rfl
 | P1 a b _ _=>unfold gp;rfl
 | bin o k a b _ _=>unfold gp;rfl
 | wrap k a _=>unfold gp;rfl
 | kc n a _=>unfold gp;rfl
 | oZ b=>unfold gp;rfl
 | Qn a i _ _=>unfold gp;rfl
 | po a i s _ _ _=>unfold gp;rfl
 | S9 s _=>unfold gp;rfl
 | o3 l=>
  unfold gp;split
  ·rename_i h;cases h
  ·rename_i h;cases h;rfl
  ·rename_i h;cases h
  ·rename_i h;cases h
  ·rename_i h;cases h
  ·rename_i h _;cases h
  ·rfl
theorem cH(n:Int)(j:Nat):(E.lit n).den ρ j=n:=rfl
theorem sL(a i v:E)(j:Nat):(E.sD a i v).den ρ j=if j=(i.den ρ 0).toNat then v.den ρ 0 else a.den ρ j:=rfl
theorem IN(a o n b:E)(j:Nat):(E.rl a o n b).den ρ j=if(o.den ρ 0).toNat≤j∧j<(o.den ρ 0).toNat+(n.den ρ 0).toNat then b.den ρ (j - (o.den ρ 0).toNat)else a.den ρ j:=rfl
theorem jo(a i s:E):(E.po a i s).den ρ=DC (a.den ρ) (i.den ρ 0).toNat (s.den ρ):=rfl
theorem IP(a i:E):(E.Qn a i).den ρ=o4 (a.den ρ) (i.den ρ 0).toNat:=rfl
theorem Kk(a i:E)(k:Nat):(BZ a i).den ρ k=o4 (a.den ρ) (i.den ρ 0).toNat k:=by
 induction a generalizing k with
 | po a jj s mg ihj Z2=>
  rw [jo,jh];unfold BZ;split
  ·rename_i heq;cases heq
  ·rename_i heq;cases heq;split
   ·rename_i he;rw [cH,cH,if_pos he]
   ·rename_i he;rw [mg,cH,cH,if_neg he]
  ·rename_i heq _;cases heq;split
   ·rename_i he;subst he;rw [if_pos rfl]
   ·rw [IP,jo,jh]
  ·rw [IP,jo,jh]
 | lit n=>unfold BZ;rfl
 | _=>unfold BZ;rfl
theorem xT(a i:E):(BZ a i).den ρ=o4 (a.den ρ) (i.den ρ 0).toNat:=funext (Kk ρ a i)
theorem lL(l:List UInt8):(zY l).den ρ=Kd l:=by
 funext j;cases j with
 | zero=>simp [zY,E.den,Kd]
 | succ j=>
  simp only [zY,E.den,Kd,aiS];by_cases h:j<l.length
  ·simp [List.getD,ajk h]
  ·simp [List.getD,ajz (Nat.le_of_not_lt h)]
theorem GO(f:Nat→Int){j:Nat}(h:j<(f 0).toNat):(cd f)[j]? =some (UInt8.ofNat (f (j+1)).toNat):=by
 simp [cd,List.getElem?_range h]
theorem GQ(l:List UInt8)(j:Nat):(E.o3 (l.map fun b=>((b.toNat:Nat):Int))).den ρ j=((l.getD j 0).toNat:Nat):=by
 simp only [E.den];by_cases h:j<l.length
 ·simp [List.getD,ajk h]
 ·simp [List.getD,ajz (Nat.le_of_not_lt h)]
theorem DK(s:E):(Kl s).den ρ=Ke (s.den ρ):=by
 unfold Kl;split
 ·rename_i n l;split
  ·rename_i h;funext j;simp only [E.den,Ke,aiS];by_cases hj:j<l.length
   ·have:=aiM.1 h l[j] (List.getElem_mem hj);simp only [ai,decide_eq_true_eq]at this;simp only [List.getD,ajk hj,ajh];have h2:(UInt8.ofNat l[j].toNat).toNat=l[j].toNat:=by
     rw [UInt8.toNat_ofNat'];omega
    rw [h2];omega
   ·simp [List.getD,ajz (Nat.le_of_not_lt hj)]
  ·rfl
 ·rfl
theorem AO(s:E):(∃l,mkStr s= .str l∧l=cd (s.den ρ))∨mkStr s= .kK s:=by
 unfold mkStr;split
 ·rename_i n l;split
  ·rename_i h;simp only [ai,beq_iff_eq]at h;obtain⟨rfl,h⟩:=h;left;refine⟨_,rfl,?_⟩;apply List.ext_getElem?;intro j;by_cases hj:j<l.length
   ·rw [GO _ (by simpa [E.den] using hj),List.getElem?_map,ajk hj];simp [E.den,List.getD,ajk hj]
   ·rw [ajz (by simp;omega),ajz (by rw [cy];simp [E.den];omega)]
  ·exact .inr rfl
 ·exact .inr rfl
theorem DL(s:E):SV.cells ρ (mkStr s)=[.string ⟨(cd (s.den ρ)).toArray⟩]:=by
 rcases AO ρ s with⟨l,h,rfl⟩ | h<;>rw [h]<;>rfl
theorem nA(s:E):(mkStr s).val ρ= .string ⟨(cd (s.den ρ)).toArray⟩:=by
 rcases AO ρ s with⟨l,h,rfl⟩ | h<;>rw [h]<;>rfl
theorem fO(s:E):(kp s).den ρ 0=s.den ρ 0:=by rw [kp,dY];rfl
theorem Km(s:E):((cd (s.den ρ)).length:Int)=max 0 ((kp s).den ρ 0):=by rw [cy,fO];omega
theorem rQ{v:SV}{s:E}(h:pz v=some s):v.val ρ= .string ⟨(cd (s.den ρ)).toArray⟩:=by
 unfold pz at h;split at h
 ·cases h;rw [lL,nr];rfl
 ·cases h;rfl
 ·cases h
theorem jU(f:Nat→Int){j:Nat}(h:j<(f 0).toNat):(cd f)[j]? =some (UInt8.ofNat (f (j+1)).toNat):=by
 simp [cd,List.getElem?_range h]
theorem rR(a n:E):cd ((rS a n).den ρ)=(ajw (n.den ρ 0).toNat).map fun j=>UInt8.ofNat (a.den ρ j).toNat:=by
 unfold cd;have h0:(rS a n).den ρ 0=n.den ρ 0:=by simp [rS,E.den]
 rw [h0];refine ajq fun j hj=>?_
 have hj:=ai8.1 hj;have:(rS a n).den ρ (j+1)=a.den ρ j:=by
  rw [rS,sL,cH,if_neg (by simp),IN,cH,if_pos (by simp;omega)];congr 1
 rw [this]
theorem Kn(s lo hi:E)(hl:0≤lo.den ρ 0)(hlh:lo.den ρ 0≤hi.den ρ 0)(hh:hi.den ρ 0≤s.den ρ 0):
  cd ((AP s lo hi).den ρ)=((cd (s.den ρ)).take (hi.den ρ 0).toNat).drop (lo.den ρ 0).toNat:=by
 have h0:(AP s lo hi).den ρ 0=hi.den ρ 0 - lo.den ρ 0:=by
  unfold AP;split<;>simp [E.den,eC]
 have hj: ∀j,(AP s lo hi).den ρ (j+1)=s.den ρ ((lo.den ρ 0).toNat+j+1):=by
  intro j;unfold AP;split
  ·rw [sL,cH,if_neg (by simp),dF,sL,cH,if_neg (by simp)];congr 1
  ·rw [sL,cH,if_neg (by simp),dF];congr 1
 apply List.ext_getElem?;intro j;rw [List.getElem?_drop,List.getElem?_take];by_cases hc:j<(hi.den ρ 0 - lo.den ρ 0).toNat
 ·rw [jU _ (by rw [h0];exact hc),if_pos (by omega),jU _ (by omega),hj]
 ·rw [ajz (by rw [cy,h0];omega),if_neg (by omega)]
theorem MV(s t:E)(hs:0≤s.den ρ 0)(ht:0≤t.den ρ 0):cd ((Ko s t).den ρ)=cd (s.den ρ)++cd (t.den ρ):=by
 have h0:(Ko s t).den ρ 0=s.den ρ 0+t.den ρ 0:=by simp [Ko,E.den,bI,fO]
 have hj: ∀j,(Ko s t).den ρ (j+1)=if(s.den ρ 0).toNat≤j∧j<(s.den ρ 0).toNat+(t.den ρ 0).toNat then t.den ρ (j - (s.den ρ 0).toNat+1)else s.den ρ (j+1):=by
  intro j;rw [Ko,sL,cH,if_neg (by simp),IN];simp only [bI,fO,cH,dF];have e:(s.den ρ 0+1).toNat=(s.den ρ 0).toNat+1:=by omega
  rw [e];by_cases hc:(s.den ρ 0).toNat≤j∧j<(s.den ρ 0).toNat+(t.den ρ 0).toNat
  ·rw [if_pos (by omega),if_pos hc];congr 1;simp only [show(1:Int).toNat=1 from rfl];omega
  ·rw [if_neg (by omega),if_neg hc]
 apply List.ext_getElem?;intro j;by_cases hc:j<(s.den ρ 0+t.den ρ 0).toNat
 ·rw [jU _ (by rw [h0];exact hc),hj];by_cases hc2:j<(s.den ρ 0).toNat
  ·rw [if_neg (by omega),aiR (by rw [cy];exact hc2),jU _ hc2]
  ·rw [if_pos (by omega),aiW (by rw [cy];omega),cy,jU _ (by omega)]
 ·rw [ajz (by rw [cy,h0];omega),ajz (by rw [List.length_append,cy,cy];omega)]
theorem DM(a b:E):(Qt a b).den ρ=(cd (a.den ρ)==cd (b.den ρ)):=by
 unfold Qt;by_cases h:a=b
 ·rw [if_pos h,h];simp [BE.den]
 ·rw [if_neg h];rfl
theorem lM(o:W7)(k:IntKind)(a b:E):(ux o k a b).den ρ 0=ak o k (a.den ρ 0) (b.den ρ 0):=by
 unfold ux;split<;>rfl
theorem Kp(k:IntKind)(a:E):(MW k a).den ρ 0=k.wrap (a.den ρ 0):=by
 unfold MW;split<;>rfl
theorem w_(a:E):(Qu a).den ρ= !(a.den ρ 0==0):=by
 unfold Qu;split<;>rfl
theorem qB(a b:E):(Uq a b).den ρ=(a.den ρ 0==b.den ρ 0):=by
 unfold Uq;split
 ·rfl
 ·split<;>simp_all [BE.den]
theorem sM(a b:E):(GR a b).den ρ=decide (a.den ρ 0<b.den ρ 0):=by
 unfold GR;split<;>rfl
theorem gW(a b:E):(xd a b).den ρ=decide (a.den ρ 0≤b.den ρ 0):=by
 unfold xd;split<;>rfl
theorem c7(b:BE):(iI b).den ρ= !b.den ρ:=by
 unfold iI;split<;>simp [BE.den]
theorem nB(a b:BE):(zZ a b).den ρ=(a.den ρ&&b.den ρ):=by
 unfold zZ;split<;>simp [BE.den]
theorem IQ(a b:BE):(Z0 a b).den ρ=(a.den ρ||b.den ρ):=by
 unfold Z0;split<;>simp [BE.den]
theorem nC(c a b:BE):(DN c a b).den ρ=if c.den ρ then a.den ρ else b.den ρ:=by
 unfold DN;split
 ·simp [BE.den]
 ·simp [BE.den]
 ·rw [IQ];simp [BE.den]
 ·rw [nB];simp [BE.den]
 ·rfl
theorem aF(k:IntKind)(n:Nat)(f:Nat→Int):(aj k n f).length=n:=by simp [aj]
theorem bf(k:IntKind)(n:Nat)(f:Nat→Int)(j:Nat):(aj k n f)[j]? =if j<n then some (.int k (f j))else none:=by
 unfold aj;rw [List.getElem?_map];by_cases h:j<n
 ·rw [List.getElem?_range h,if_pos h];rfl
 ·rw [ajz (by simp;omega),if_neg h];rfl
theorem aP(k:IntKind)(n:Nat){f g:Nat→Int}(h: ∀j,j<n→f j=g j):aj k n f=aj k n g:=by
 unfold aj;exact ajq fun j hj=>by rw [h j (ai8.1 hj)]
theorem dv(k:IntKind)(n m:Nat)(f:Nat→Int)(h:m≤n):(aj k n f).take m=aj k m f:=by
 unfold aj;rw [←List.map_take,List.take_range,Nat.min_eq_left h]
theorem rp(k:IntKind)(n m:Nat)(f:Nat→Int):(aj k n f).drop m=aj k (n - m) fun j=>f (m+j):=by
 apply List.ext_getElem?;intro j;rw [List.getElem?_drop,bf,bf];by_cases h:m+j<n
 ·rw [if_pos h,if_pos (by omega)]
 ·rw [if_neg h,if_neg (by omega)]
mutual
theorem sO: ∀v:SV,(SV.cells ρ v).length=v.width
 | .agg cs=>by simp only [SV.cells,SV.width];exact bw cs
 | .b_ k n a=>by simp [SV.cells,SV.width,aF]
 | .int .. =>rfl
 | .bool _=>rfl
 | .gx=>rfl
 | .bU=>rfl
 | .mh=>rfl
 | .sF=>rfl
 | .qY=>rfl
 | .undef=>rfl
 | .ptr .. =>rfl
 | .o5 .. =>rfl
 | .pv .. =>rfl
 | .sl .. =>rfl
 | .vv _=>rfl
 | .str _=>rfl
 | .fn .. =>rfl
 | .mu _=>rfl
 | .opt .. =>rfl
 | .DE .. =>rfl
 | .Kf _=>rfl
 | .mp _=>rfl
 | .kg .. =>rfl
 | .n8 _=>rfl
 | .kK _=>rfl
 | .GK .. =>rfl
 | .MH .. =>rfl
 | .Kg _=>rfl
theorem bw: ∀l:List SV,(SV.aA ρ l).length=SV.pA l
 | []=>rfl
 | v::r=>by simp only [SV.aA,SV.pA,List.length_append];rw [sO v,bw r]
end
theorem im(a b:List SV):SV.aA ρ (a++b)=SV.aA ρ a++SV.aA ρ b:=by
 induction a with
 | nil=>rfl
 | cons v r ih=>simp only [List.cons_append,SV.aA,ih,ajs]
def SV.plain:SV→Bool
 | .agg _=>false
 | .b_ .. =>false
 | _=>true
theorem gC{v:SV}(h:v.plain=true):SV.cells ρ v=[v.val ρ]:=by
 cases v<;>simp_all [SV.plain,SV.cells,SV.val]
theorem z5(d:Nat){v:SV}(h:v.plain=true)(r:List SV):e_ (d+1) (v::r)=e_ d r:=by
 cases v<;>simp_all [SV.plain,e_]
theorem z6(d:Nat){v:SV}(h:v.plain=true)(r:List SV):gX (d+1) (v::r)=(gX d r).map (v:: ·):=by
 cases v<;>simp_all [SV.plain,gX]
theorem dQ: ∀(cs:List SV) (d:Nat) (r:List SV),e_ d cs=some r→SV.aA ρ r=(SV.aA ρ cs).drop d
 | cs,0,r,h=>by simp [e_]at h;subst h;rfl
 | [],d+1,r,h=>by simp [e_]at h;subst h;simp [SV.aA]
 | v::cs,d+1,r,h=>by
  by_cases hp:v.plain=true
  ·rw [z5 d hp]at h;rw [dQ cs d r h];simp [SV.aA,gC ρ hp]
  ·cases v with
   | agg x=>simp [e_]at h
   | b_ k n a=>
    simp only [e_]at h;simp only [SV.aA,SV.cells];split at h
    ·rename_i bX;simp only [aiP]at h;subst h;simp only [SV.aA,SV.cells];rw [List.drop_append_of_le_length (by rw [aF];omega),rp];congr 1;apply aP;intro j _;rw [dF];rfl
    ·rename_i jI;rw [dQ cs _ r h,List.drop_append,aF,ajy (l:=aj k n _) (by rw [aF];omega)];rfl
   | _=>simp [SV.plain]at hp
theorem iq: ∀(cs:List SV) (d:Nat) (r:List SV),gX d cs=some r→SV.aA ρ r=(SV.aA ρ cs).take d
 | cs,0,r,h=>by simp [gX]at h;subst h;simp [SV.aA]
 | [],d+1,r,h=>by simp [gX]at h;subst h;simp [SV.aA]
 | v::cs,d+1,r,h=>by
  by_cases hp:v.plain=true
  ·rw [z6 d hp,aiO]at h;obtain⟨x,hx,rfl⟩:=h;simp [SV.aA,gC ρ hp,iq cs d x hx]
  ·cases v with
   | agg x=>simp [gX]at h
   | b_ k n a=>
    simp only [gX]at h;simp only [SV.aA,SV.cells];split at h
    ·rename_i hle;simp only [aiP]at h;subst h;simp only [SV.aA,SV.cells,List.append_nil];rw [List.take_append_of_le_length (by rw [aF];omega),dv _ _ _ _ hle]
    ·rename_i hgt;rw [aiO]at h;obtain⟨x,hx,rfl⟩:=h;simp only [SV.aA,SV.cells];rw [iq cs _ x hx,List.take_append,aF,ajF (l:=aj k n _) (by rw [aF];omega)]
   | _=>simp [SV.plain]at hp
theorem eD{c size:Nat}{cs r:List SV}(h:jl c size cs=some r):
  SV.aA ρ r=((SV.aA ρ cs).drop c).take size∧c+size≤(SV.aA ρ cs).length:=by
 unfold jl at h;split at h
 ·rename_i hle;split at h
  ·rename_i x hx;exact⟨by rw [iq ρ _ _ _ h,dQ ρ _ _ _ hx],by rw [bw];exact hle⟩
  ·cases h
 ·cases h
theorem ob{c:Nat}{vs cs r:List SV}(h:xU c vs cs=some r):
  SV.aA ρ r=(SV.aA ρ cs).take c++SV.aA ρ vs++(SV.aA ρ cs).drop (c+(SV.aA ρ vs).length)∧
   c+(SV.aA ρ vs).length≤(SV.aA ρ cs).length:=by
 unfold xU at h;split at h
 ·rename_i hle;split at h
  ·rename_i x y hx hy;simp only [aiP]at h;subst h;rw [im,im,iq ρ _ _ _ hx,dQ ρ _ _ _ hy,bw,bw];exact⟨rfl,hle⟩
  ·cases h
 ·cases h
theorem mB{agg:Bool}{cs:List SV}{v:SV}(h:iF agg cs=some v):
  (agg=true→v.val ρ= .agg (SV.aA ρ cs).toArray)∧(agg=false→SV.aA ρ cs=[v.val ρ]):=by
 unfold iF at h;split at h
 ·rename_i ha;simp only [aiP]at h;subst h;simp [ha,SV.val]
 ·rename_i ha;refine⟨fun hc=>absurd hc ha,fun _=>?_⟩;split at h
  ·simp only [aiP]at h;subst h;simp [SV.aA,SV.cells,SV.val,aj,dY,E.den]
  ·cases h
  ·cases h
  ·rename_i v' h1 h2 h3;simp only [aiP]at h;subst h;have hp:v'.plain=true:=by
    cases v' with
    | agg cs=>exact absurd rfl (h3 cs)
    | b_ k n a=>exact absurd rfl (h2 k n a)
    | _=>rfl
   simp [SV.aA,gC ρ hp]
  ·cases h
structure Env.Ok (ρ:Env):Prop where
theorem Env.ok(ρ:Env):ρ.Ok:=⟨⟩
theorem Env.Ok.vvD{ρ:Env}(_:ρ.Ok)(i:Nat):(ρ.vv.getD i V1.nil).v.oneCell'=true:=(ρ.vv.getD i V1.nil).one
theorem Env.Ok.vaD{ρ:Env}(_:ρ.Ok)(i j:Nat):((ρ.va.getD i fun _=>V1.nil) j).v.oneCell'=true:=((ρ.va.getD i fun _=>V1.nil) j).one
theorem B4{v:Value}(h:v.oneCell'=true):v.cells= #[v]:=by
 cases v<;>simp_all [Value.oneCell',Value.cells]
theorem IS{v:SV}(h:v.one=true)(hs:v.plain=true)(nZ:ρ.Ok):(v.val ρ).oneCell'=true:=by
 cases v with
 | vv i=>simp only [SV.val];exact nZ.vvD i
 | DE a i=>simp only [SV.val];exact nZ.vaD a _
 | n8 e=>simp only [SV.val];exact DF _
 | Kg e=>simp only [SV.val];exact dV _
 | pv v i s c=>simp only [SV.val,ez];split<;>rfl
 | kg v cs s=>simp only [SV.val];exact mQ _ _ _ _ (ρ.vv.getD v V1.nil).one
 | GK c v=>simp only [SV.val];split<;>first | rfl | (unfold sH;split<;>rfl)
 | _=>first | rfl | simp_all [SV.one,SV.plain]
theorem Kq{v:SV}(h:v.one=true)(nZ:ρ.Ok): ∀u∈SV.cells ρ v,u.oneCell'=true:=by
 by_cases hs:v.plain=true
 ·rw [gC ρ hs];intro u hu;rw [ajo]at hu;subst hu;exact IS ρ h hs nZ
 ·cases v with
  | agg x=>simp [SV.one]at h
  | b_ k n a=>
   intro u hu;simp only [SV.cells,aj,ai_]at hu;obtain⟨j,_,rfl⟩:=hu;rfl
  | _=>simp [SV.plain]at hs
theorem lN{l:List SV}(h:l.all SV.one=true)(nZ:ρ.Ok): ∀u∈SV.aA ρ l,u.oneCell'=true:=by
 induction l with
 | nil=>intro u hu;cases hu
 | cons v r ih=>
  rw [List.all_cons,ai]at h;intro u hu;simp only [SV.aA,ajt]at hu;exact hu.elim (Kq ρ h.1 nZ u) (ih h.2 u)
theorem ir{v:SV}{cs:List SV}(h:ej v=some cs)(nZ:ρ.Ok):
  (v.val ρ).cells.toList=SV.aA ρ cs∧∀u∈SV.aA ρ cs,u.oneCell'=true:=by
 by_cases hs:v.plain=true
 ·have h1:v.one=true∧cs=[v]:=by
   cases v<;>simp_all [ej,SV.plain]
  obtain⟨h1,rfl⟩:=h1;have h2:=IS ρ h1 hs nZ;refine⟨?_,lN ρ (by simp [h1]) nZ⟩;rw [B4 h2];simp [SV.aA,gC ρ hs]
 ·cases v with
  | agg x=>
   simp only [ej]at h;split at h
   ·rename_i ha;simp only [aiP]at h;subst h;exact⟨by simp [SV.val,Value.cells],lN ρ ha nZ⟩
   ·cases h
  | b_ k n a=>
   simp only [ej,SV.one,if_true,aiP]at h;subst h;exact⟨by simp [SV.val,Value.cells,SV.aA,SV.cells],lN ρ (by simp [SV.one]) nZ⟩
  | _=>simp [SV.plain]at hs
theorem z7(v:Value)(x:SV)(h:ofValue v=some x)(hn: ∀l,v≠ .agg l):x.plain=true:=by
 unfold ofValue at h;split at h<;>simp_all<;>(subst h;rfl)
mutual
theorem pB: ∀(v:Value) (x:SV),ofValue v=some x→x.val ρ=v
 | .int k n,x,h=>by simp [ofValue]at h;subst h;rfl
 | .bool b,x,h=>by simp [ofValue]at h;subst h;rfl
 | .pointer none,x,h=>by simp [ofValue]at h;subst h;rfl
 | .pointer (some _),x,h=>by simp [ofValue]at h
 | .slice none 0 0,x,h=>by simp [ofValue]at h;subst h;rfl
 | .slice none (_+1) _,x,h=>by simp [ofValue]at h
 | .slice none 0 (_+1),x,h=>by simp [ofValue]at h
 | .slice (some _) _ _,x,h=>by simp [ofValue]at h
 | .nilFunc,x,h=>by simp [ofValue]at h;subst h;rfl
 | .nilIface,x,h=>by simp [ofValue]at h;subst h;rfl
 | .map none,x,h=>by simp [ofValue]at h;subst h;rfl
 | .map (some _),x,h=>by simp [ofValue]at h
 | .string ⟨⟨l⟩⟩,x,h=>by simp [ofValue]at h;subst h;rfl
 | .tuple ⟨[]⟩,x,h=>by simp [ofValue]at h;subst h;rfl
 | .tuple ⟨_::_⟩,x,h=>by simp [ofValue]at h
 | .agg ⟨l⟩,x,h=>by
  simp only [ofValue,aiO]at h;obtain⟨y,hy,rfl⟩:=h;simp only [SV.val];rw [pC l y hy]
 | .float ..,x,h=>by simp [ofValue]at h
 | .complex ..,x,h=>by simp [ofValue]at h
 | .chan _,x,h=>by simp [ofValue]at h
 | .func ..,x,h=>by simp [ofValue]at h
 | .iface ..,x,h=>by simp [ofValue]at h
theorem pC: ∀(l:List Value) (xs:List SV),ofValues l=some xs→SV.aA ρ xs=l
 | [],xs,h=>by simp [ofValues]at h;subst h;rfl
 | v::r,xs,h=>by
  unfold ofValues at h;split at h
  ·rename_i heq;cases heq
  ·cases h
  ·rename_i v' r' hn heq;cases heq;split at h
   ·rename_i x xs' hx GU;simp only [aiP]at h;subst h;have hp:=z7 v x hx (fun l e=>hn l e);simp only [SV.aA,gC ρ hp,pB v x hx,pC r xs' GU];rfl
   ·cases h
end
end
def gY:Option TypeDesc→TK→Bool
 | some (.int k),.int k'=>k==k'
 | some .bool,.bool=>true
 | some .string,.str=>true
 | some (.pointer e),.ptr e'=>e==e'
 | some (.slice e),.slice e'=>e==e'
 | some (.array n e),.arr n' e'=>n==n'&&e==e'
 | some (.struct fs),.struct l=>fs.toList.map (fun f=>(f.type,f.offset))==l
 | some (.struct fs),.IL l _=>fs.toList.map (fun f=>(f.type,f.offset))==l
 | some (.map k e),.map k' e'=>k==k'&&e==e'
 | some (.func ..),.func=>true
 | some (.interface _),.iface=>true
 | _,_=>false
def isInt(k:IntKind)(m:Int):Value→Bool
 | .int k' n=>k==k'&&n==m
 | _=>false
def MX(x:SV)(vs:List Value):Option (List Value):=
 match x with
 | .b_ k n (.lit m)=>if n≤vs.length∧(vs.take n).all (isInt k m)=true then some (vs.drop n)else none
 | x=>match vs with
  | v::r=>match ofValue v with
   | some y=>match x,y with
    | .int k (.lit m),.int k' (.lit m')=>if k=k'∧m=m' then some r else none
    | .bool (.lit b),.bool (.lit b')=>if b=b' then some r else none
    | .gx,.gx=>some r
    | .bU,.bU=>some r
    | .mh,.mh=>some r
    | .sF,.sF=>some r
    | .qY,.qY=>some r
    | .str l,.str l'=>if l=l' then some r else none
    | _,_=>none
   | none=>none
  | []=>none
def DO:List Value→List SV→Bool
 | vs,[]=>vs.isEmpty
 | vs,x::r=>match MX x vs with
  | some Gv=>DO Gv r
  | none=>false
theorem MY{k:IntKind}{m:Int}{v:Value}(h:isInt k m v=true):v= .int k m:=by
 cases v<;>simp_all [isInt]
theorem DP(ρ:Env){x:SV}{vs Gv:List Value}(h:MX x vs=some Gv):vs=SV.cells ρ x++Gv:=by
 unfold MX at h;split at h
 ·rename_i k n m;split at h
  ·rename_i hc;simp only [aiP]at h;subst h;have:aj k n (E.den ρ (.lit m))=vs.take n:=by
    apply List.ext_getElem?;intro j;rw [bf];by_cases hj:j<n
    ·rw [if_pos hj,List.getElem?_take_of_lt hj];have bX:j<vs.length:=by omega
     rw [ajk bX];have:=aiM.1 hc.2 vs[j] (by
      rw [←List.getElem_take (xs:=vs) (j:=n) (h:=by simp;omega)];exact List.getElem_mem _)
     rw [MY this];rfl
    ·rw [if_neg hj,ajz (by simp;omega)]
   simp only [SV.cells,this,List.take_append_drop]
  ·cases h
 ·split at h
  ·rename_i v r;split at h
   ·rename_i y hy;have hv:=pB ρ v y hy;subst hv;split at h
    all_goals first
     | (simp only [aiP]at h;subst h;rfl)
     | (
       split at h
       ·rename_i hc;simp only [aiP]at h;subst h
        first | (obtain⟨rfl,rfl⟩:=hc;rfl) | (subst hc;rfl)
       ·cases h)
     | cases h
   ·cases h
  ·cases h
theorem vp(ρ:Env): ∀(l:List SV) (vs:List Value),DO vs l=true→SV.aA ρ l=vs
 | [],vs,h=>by
  cases vs with
  | nil=>rfl
  | cons v r=>simp [DO]at h
 | x::r,vs,h=>by
  unfold DO at h;split at h
  ·rename_i Gv hz;rw [DP ρ hz,SV.aA,vp ρ r Gv h]
  ·cases h
def jV(P:Program)(f:TypeId→Option (List gj)):List Field→Nat→Option (List gj)
 | [],_=>some []
 | fd::r,off=>
  if fd.name== "_" ||fd.offset != off then none else
  match f fd.type with
  | some l=>if P.cellsOf fd.type==l.length then(jV P f r (off+l.length)).map (l++ ·)else none
  | none=>none
def eX(P:Program):Nat→TypeId→Option (List gj)
 | 0,_=>none
 | d+1,t=>
  match P.underlying t with
  | some (.int k)=>some [some k]
  | some .bool=>some [none]
  | some (.array n e)=>match eX P d e with
   | some l=>if P.cellsOf e==l.length then some (List.replicate n l).flatten else none
   | none=>none
  | some (.struct fs)=>if P.stoodInHeld t then none else jV P (eX P d) fs.toList 0
  | _=>none
def Th(P:Program)(ti:TI):Bool:=
 ti.lay.isEmpty||(eX P 12 ti.t==some (kq ti.lay)&& !P.eqGuardType P.depth ti.t)
def Ur(P:Program)(ti:TI):Bool:=
 gY (P.underlying ti.t) ti.k&&Th P ti&&SV.pA ti.zero==ti.size&&
 match P.info? ti.t with
 | some i=>i.size==ti.size&&i.bytes==ti.bytes&&ti.zero.all SV.one&&
  match i.zero with
  | some z=>DO z.cells.toList ti.zero&&(match z with | .agg _=>ti.k.agg | _=> !ti.k.agg)
  | none=>false
 | none=>false
def bD(P:Program)(T:List TI):Bool:=T.all (Ur P)
structure kr (P:Program) (ti:TI):Prop where
 kind:gY (P.underlying ti.t) ti.k=true
 lay:ti.lay.isEmpty=true∨(eX P 12 ti.t=some (kq ti.lay)∧P.eqGuardType P.depth ti.t=false)
 one:ti.zero.all SV.one=true
 z9:SV.pA ti.zero=ti.size
 zag: ∀i z,P.info? ti.t=some i→i.zero=some z→(match z with | .agg _=>ti.k.agg | _=> !ti.k.agg)=true
 info: ∃i,P.info? ti.t=some i∧i.size=ti.size∧i.bytes=ti.bytes∧∃z,i.zero=some z∧∀ρ,SV.aA ρ ti.zero=z.cells.toList
theorem Kr{P:Program}{ti:TI}(h:Ur P ti=true):kr P ti:=by
 unfold Ur at h;rw [ai,ai,ai,beq_iff_eq]at h;obtain⟨⟨⟨hk,hl⟩,Ks⟩,h⟩:=h;have Z3:ti.lay.isEmpty=true∨(eX P 12 ti.t=some (kq ti.lay)∧P.eqGuardType P.depth ti.t=false):=by
  unfold Th at hl;rw [Bool.or_eq_true,ai,beq_iff_eq,Bool.not_eq_true']at hl;exact hl
 split at h
 ·rename_i i hi;simp only [ai,beq_iff_eq]at h;obtain⟨⟨⟨h1,h2⟩,h4⟩,h3⟩:=h;split at h3
  ·rename_i z hz;rw [ai]at h3;exact⟨hk,Z3,h4,Ks,fun i' z' mv GV=>by rw [hi]at mv;cases mv;rw [hz]at GV;cases GV;exact h3.2,i,hi,h1,h2,z,hz,fun ρ=>vp ρ _ _ h3.1⟩
  ·cases h3
 ·cases h
theorem aE{P:Program}{T:List TI}(hT:bD P T=true){t:Nat}{ti:TI}(h:aU T t=some ti):ti.t=t∧kr P ti:=by
 unfold aU at h;have hm:=List.mem_of_find?_eq_some h;have ht:=List.find?_some h;simp only [beq_iff_eq]at ht;exact⟨ht,Kr (aiM.1 hT ti hm)⟩
section
variable {P:Program} (w:World)
theorem kr.sizeOf{ti:TI}(h:kr P ti):(sizeOf ti.t).run P w= .ok ti.size w:=by
 obtain⟨i,hi,hs,_⟩:=h.info;simp [Go.sizeOf,typeInfo,hi,hs]
theorem kr.isAgg{ti:TI}(h:kr P ti):(isAgg ti.t).run P w= .ok ti.k.agg w:=by
 have hk:=h.kind;unfold gY at hk;split at hk<;>first | (cases hk;done) | skip
 all_goals (rename_i h1 h2;simp [Go.isAgg,run_underlying h1,h2,TK.agg])
theorem kr.zero{ti:TI}(h:kr P ti): ∃z,(zeroValue ti.t).run P w= .ok z w∧∀ρ,SV.aA ρ ti.zero=z.cells.toList:=by
 obtain⟨i,hi,_,_,z,hz,hc⟩:=h.info;exact⟨z,by simp [zeroValue,typeInfo,hi,hz],hc⟩
end
theorem DQ{α:Type}(s:Nat)(f:Nat→List α)(hf: ∀i,(f i).length=s): ∀(n i:Nat),i<n→
  (((ajw n).flatMap f).drop (i*s)).take s=f i:=by
 intro n i hi;have h1:ajw n=ajw i++(i::(ajw (n - i - 1)).map (· +(i+1))):=by
  apply List.ext_getElem?;intro j;rw [List.getElem?_append];by_cases hj:j<n
  ·rw [List.getElem?_range hj];by_cases IT:j<i
   ·rw [if_pos (by simpa using IT),List.getElem?_range IT]
   ·rw [if_neg (by simpa using IT),List.length_range];by_cases he:j=i
    ·subst he;simp
    ·obtain⟨d,rfl⟩: ∃d,j=i+1+d:=⟨j - i - 1,by omega⟩;rw [show i+1+d - i=d+1 by omega,List.getElem?_cons_succ,List.getElem?_map,List.getElem?_range (by omega)];simp;omega
  ·rw [ajz (by simp;omega),if_neg (by simp;omega),ajz (by simp;omega)]
 have hlen: ∀l:List Nat,(l.flatMap f).length=l.length*s:=by
  intro l
  induction l with
  | nil=>simp
  | cons a r ih=>rw [List.flatMap_cons,List.length_append,hf,ih,List.length_cons,Nat.add_mul];omega
 rw [h1,List.flatMap_append,List.flatMap_cons];have h2:=hlen (ajw i);rw [List.length_range]at h2;rw [List.drop_append,h2,Nat.sub_self,ajy (by omega),List.drop_zero,List.nil_append];rw [List.take_append_of_le_length (by rw [hf];exact Nat.le_refl _),ajF (by rw [hf];exact Nat.le_refl _)]
section
variable (ρ:Env)
theorem jW(c:bR)(i:Nat):(c.cells ρ i).length=c.w:=by
 obtain⟨ck,cw,a⟩:=c;cases ck<;>simp [bR.cells,bd,z_,cJ,xV,aF]
theorem c9(aD:List bR)(i:Nat):((aD.map (bR.cells ρ)).flatMap fun c=>c i).length=bT aD:=by
 induction aD with
 | nil=>rfl
 | cons c r ih=>simp only [ajb,List.flatMap_cons,List.length_append,jW,ih,bT,List.sum_cons,ajb]
theorem Qv(aD:List bR)(n i:Nat)(h:i<n):
  ((aK ρ n aD).drop (i*bT aD)).take (bT aD)=(aD.map (bR.cells ρ)).flatMap fun c=>c i:=
 DQ (bT aD) (fun(i:Nat)=>(aD.map (bR.cells ρ)).flatMap fun(c:Nat→List Value)=>c i) (c9 ρ aD) n i h
theorem c_(aD:List bR)(n:Nat):(aK ρ n aD).length=n*bT aD:=by
 unfold aK aW;have: ∀l:List Nat,(l.flatMap fun i=>(aD.map (bR.cells ρ)).flatMap fun c=>c i).length=l.length*bT aD:=by
  intro l
  induction l with
  | nil=>simp
  | cons a r ih=>rw [List.flatMap_cons,List.length_append,c9,ih,List.length_cons,Nat.add_mul];omega
 rw [this,List.length_range]
theorem toNat_mul(x:Int)(w:Nat):(x*(w:Int)).toNat=x.toNat*w:=by
 rcases Int.le_total 0 x with h | h
 ·obtain⟨m,rfl⟩:=Int.eq_ofNat_of_zero_le h;rw [←Int.natCast_mul,aiX,aiX]
 ·have h1:x*(w:Int)≤0:=Int.mul_nonpos_of_nonpos_of_nonneg h (by omega);rw [Int.toNat_of_nonpos h1,Int.toNat_of_nonpos h];simp
theorem Kt(e:E):SV.cells ρ (mkP e)=[nu (e.den ρ 0)]:=by
 unfold mkP;split
 ·simp only [SV.cells,E.den,sG]
 ·split
  ·rename_i h;subst h;rfl
  ·rfl
 ·rfl
theorem Aa{c:bR}{i:E}{x:SV}(h:B5 c i=some x):SV.cells ρ x=c.cells ρ (i.den ρ 0).toNat:=by
 obtain⟨ck,cw,a⟩:=c;unfold B5 at h;cases ck with
 | int k=>
  simp only [bR.cells]at h ⊢;split at h
  ·rename_i hw;simp only [aiP]at h;subst h;simp [SV.cells,bd,aj,hw,dY]
  ·simp only [aiP]at h;subst h;simp only [SV.cells,bd];apply aP;intro j _;rw [dF,fN];simp only [E.den];rw [toNat_mul]
 | bool=>
  simp only [bR.cells]at h ⊢;split at h
  ·rename_i hw;simp only [aiP]at h;subst h;simp [SV.cells,z_,hw,dY,w_]
  ·cases h
 | val v=>
  simp only [bR.cells]at h ⊢;split at h
  ·rename_i hw;simp only [aiP]at h;subst h;simp [SV.cells,cJ,hw]
  ·cases h
 | ptr=>
  simp only [bR.cells]at h ⊢;split at h
  ·rename_i hw;simp only [aiP]at h;subst h;rw [Kt];simp [xV,hw,dY]
  ·cases h
 | bU=>
  simp only [bR.cells]at h ⊢;split at h
  ·rename_i hw;simp only [aiP]at h;subst h;simp [SV.cells,cJ,hw]
  ·cases h
 | str=>
  simp only [bR.cells]at h ⊢;split at h
  ·rename_i hw;simp only [aiP]at h;subst h;rw [DL,xT];simp [cJ,hw]
  ·cases h
 | cv=>
  simp only [bR.cells]at h ⊢;split at h
  ·rename_i hw;simp only [aiP]at h;subst h;simp [SV.cells,cJ,hw,dY]
  ·cases h
 | Gt l=>
  simp only [bR.cells]at h ⊢;split at h
  ·rename_i k hk;split at h
   ·rename_i n hn;split at h
    ·rename_i hw;simp only [aiP]at h;subst h;have ku:i.den ρ 0=(k:Int):=by
      unfold eR at hk;split at hk
      ·cases hk;rfl
      ·cases hk
     simp [SV.cells,cJ,hw,ku,hn]
    ·cases h
   ·cases h
  ·cases h
 | pt q v=>
  simp only [bR.cells]at h ⊢;split at h
  ·rename_i hw;obtain⟨hw,rfl⟩:=hw;simp only [aiP]at h;subst h;simp [SV.cells,cJ,hw]
  ·cases h
theorem lO{i:E}: ∀{aD:List bR} {es:List SV},nD i aD=some es→
  SV.aA ρ es=(aD.map (bR.cells ρ)).flatMap fun c=>c (i.den ρ 0).toNat
 | [],es,h=>by simp [nD]at h;subst h;rfl
 | c::r,es,h=>by
  unfold nD at h;split at h
  ·rename_i x xs hx GU;simp only [aiP]at h;subst h;simp only [SV.aA,ajb,List.flatMap_cons,Aa ρ hx,lO GU]
  ·cases h
theorem db{i n:E}(h: ∀b∈gZ i n,b.prop ρ):0≤i.den ρ 0∧i.den ρ 0<n.den ρ 0:=by
 have key: ∀b:BE,b∈[xd (.lit 0) i,GR i n]→b.den ρ=true:=by
  intro b hb;by_cases hl:b= .lit true
  ·subst hl;rfl
  ·exact(BE.bZ ρ b).2 (h b (by unfold gZ;exact aja.2 ⟨hb,by simpa using hl⟩))
 have h1:=key (xd (.lit 0) i) (by simp);have h2:=key (GR i n) (by simp);rw [gW]at h1;rw [sM]at h2;exact⟨of_decide_eq_true h1,of_decide_eq_true h2⟩
end
theorem dc(a:Addr)(m n:Nat):(a.add m).add n=a.add (m+n):=by
 unfold Addr.add;by_cases hm:m=0
 ·subst hm;simp
 ·by_cases hn:n=0
  ·subst hn;simp
  ·simp [hm,hn,Nat.add_assoc]
theorem g8(b o n:Nat):(⟨b,o,none⟩:Addr).add n=⟨b,o+n,none⟩:=by
 unfold Addr.add;split<;>simp_all
section
variable {P:Program} {w:World}
theorem lP{ti:TI}(h:kr P ti)(a:Addr)(xs:List Value)(hl:xs.length=ti.size)
  (hc: ∀(j:Nat) v,xs[j]? =some v→w.cell? (a.add j)=some v) (v:Value)
  (hv:(ti.k.agg=true→v= .agg xs.toArray)∧(ti.k.agg=false→xs=[v])):
  (Instr.loadAt ti.t (.pointer (some a))).run P w= .ok v w:=by
 cases ha:ti.k.agg with
 | true=>
  have h1:=run_loadCells_list (P:=P) w a xs hc;rw [hl]at h1;simp [Instr.loadAt,Instr.sureAddr,loadVar,h.isAgg w,ha,h.sizeOf w,h1,hv.1 ha]
 | false=>
  have hx:=hv.2 ha;subst hx;have:=hc 0 v rfl;simp only [Addr.add,if_true]at this;simp [Instr.loadAt,Instr.sureAddr,loadVar,h.isAgg w,ha,this]
theorem iK{b:Nat}{wr:Bool}{cs:List Value}{S:Nat→Prop}(h:(al b wr cs).p w S)(c:Nat)(j:Nat)(v:Value)
  (hv:(cs.drop c)[j]? =some v):w.cell? ((⟨b,c,none⟩:Addr).add j)=some v:=by
 rw [g8];rw [List.getElem?_drop]at hv;obtain⟨_,ty,fz,hg,_⟩:=h;rw [cell_of_row w b (c+j) _ ty fz hg];simpa using hv
theorem DR{md:Bool}{t s n:Nat}{v:Value}{cs:List Value}{S:Nat→Prop}(h:(aG md t s v n cs).p w S)(c j:Nat)(u:Value)
  (hu:(cs.drop c)[j]? =some u): ∃a m cp,v= .slice (some a) m cp∧m=n∧w.cell? ((a.add c).add j)=some u:=by
 rw [List.getElem?_drop]at hu;obtain⟨h0,_⟩:=h;cases md with
 | true=>
  simp only [if_true]at h0;have Ti:=h0;obtain⟨hl,hr⟩:=h0;rcases hr with⟨_,rfl⟩ | ⟨g,o,cap,cur,rfl,hg,_⟩
  ·have:cs=[]:=ai6 (by simpa using hl);subst this;simp at hu
  ·refine⟨⟨g,o,none⟩,n,cap,rfl,rfl,?_⟩;rw [dc];exact jk Ti _ _ hu
 | false=>
  simp only [Bool.false_eq_true,if_false]at h0;obtain⟨hl,a,m,c',rfl,hm,_,kN,hc⟩:=h0;cases a with
  | none=>
   have hn:=kN rfl;subst hn;have:cs=[]:=ai6 (by simpa using hl);subst this;simp at hu
  | some ad=>
   refine⟨ad,m,c',rfl,hm,?_⟩;rw [dc];exact(hc ad rfl).2 _ _ hu
theorem nE{md:Bool}{t s n:Nat}{v:Value}{cs:List Value}{S:Nat→Prop}(h:(aG md t s v n cs).p w S)(hn:0<n):
  ∃a cp,v= .slice (some a) n cp:=by
 obtain⟨h0,_⟩:=h;cases md with
 | true=>
  simp only [if_true]at h0;rcases h0.2 with⟨_,h1⟩ | ⟨g,o,cap,cur,rfl,_⟩
  ·omega
  ·exact⟨_,_,rfl⟩
 | false=>
  simp only [Bool.false_eq_true,if_false]at h0;obtain⟨_,a,m,c',rfl,hm,_,kN,_⟩:=h0;subst hm;cases a with
  | none=>have:=kN rfl;omega
  | some ad=>exact⟨_,_,rfl⟩
theorem Qw{md:Bool}{t s n:Nat}{v:Value}{cs:List Value}{S:Nat→Prop}(h:(aG md t s v n cs).p w S):
  ∃a cp,v= .slice a n cp:=by
 obtain⟨h0,_⟩:=h;cases md with
 | true=>
  simp only [if_true]at h0;rcases h0.2 with⟨rfl,rfl⟩ | ⟨g,o,cap,cur,rfl,_⟩
  ·exact⟨_,_,rfl⟩
  ·exact⟨_,_,rfl⟩
 | false=>
  simp only [Bool.false_eq_true,if_false]at h0;obtain⟨_,a,m,c',rfl,rfl,_⟩:=h0;exact⟨_,_,rfl⟩
end
theorem cM{hp:List Ck}{b j:Nat}{ck:Ck}(h:findAt hp b=some (j,ck)):hp[j]? =some ck∧ck.ra b=true:=by
 unfold findAt at h;split at h
 ·rename_i i hi;rw [aiO]at h;obtain⟨c,hc,he⟩:=h;cases he;refine⟨hc,?_⟩;rw [List.findIdx?_eq_some_iff_getElem]at hi;obtain⟨bX,h1,_⟩:=hi;rw [ajk bX]at hc;cases hc;exact h1
 ·cases h
theorem cN{hp:List Ck}{v j:Nat}{ck:Ck}(h:cG hp v=some (j,ck)):hp[j]? =some ck∧ck.mC v=true:=by
 unfold cG at h;split at h
 ·rename_i i hi;rw [aiO]at h;obtain⟨c,hc,he⟩:=h;cases he;refine⟨hc,?_⟩;rw [List.findIdx?_eq_some_iff_getElem]at hi;obtain⟨bX,h1,_⟩:=hi;rw [ajk bX]at hc;cases hc;exact h1
 ·cases h
theorem Qx(s:Nat)(f g:Nat→List Value)(hf: ∀i,(f i).length=s)(_: ∀i,(g i).length=s)(n i c:Nat)(vs:List Value)(hi:i<n)
  (hc:c+vs.length≤s) (dI: ∀j,j≠i→g j=f j) (he:g i=(f i).take c++vs++(f i).drop (c+vs.length)):
  (ajw n).flatMap g=((ajw n).flatMap f).take (i*s+c)++vs++((ajw n).flatMap f).drop (i*s+c+vs.length):=by
 have h1:ajw n=ajw i++(i::(ajw (n - i - 1)).map (· +(i+1))):=by
  apply List.ext_getElem?;intro j;rw [List.getElem?_append];by_cases hj:j<n
  ·rw [List.getElem?_range hj];by_cases IT:j<i
   ·rw [if_pos (by simpa using IT),List.getElem?_range IT]
   ·rw [if_neg (by simpa using IT),List.length_range];by_cases he:j=i
    ·subst he;simp
    ·obtain⟨d,rfl⟩: ∃d,j=i+1+d:=⟨j - i - 1,by omega⟩;rw [show i+1+d - i=d+1 by omega,List.getElem?_cons_succ,List.getElem?_map,List.getElem?_range (by omega)];simp;omega
  ·rw [ajz (by simp;omega),if_neg (by simp;omega),ajz (by simp;omega)]
 have hlen: ∀l:List Nat,(l.flatMap f).length=l.length*s:=by
  intro l
  induction l with
  | nil=>simp
  | cons a r ih=>rw [List.flatMap_cons,List.length_append,hf,ih,List.length_cons,Nat.add_mul];omega
 have hA:(ajw i).flatMap g=(ajw i).flatMap f:=by
  rw [List.flatMap_def,List.flatMap_def];congr 1;exact ajq fun j hj=>dI j (by have:=ai8.1 hj;omega)
 have hB:((ajw (n - i - 1)).map (· +(i+1))).flatMap g=((ajw (n - i - 1)).map (· +(i+1))).flatMap f:=by
  rw [List.flatMap_def,List.flatMap_def];congr 1;apply ajq;intro j hj;simp only [ai_,ai8]at hj;obtain⟨x,_,rfl⟩:=hj;exact dI _ (by omega)
 rw [h1];simp only [List.flatMap_append,List.flatMap_cons,hA,hB,he];have hl:=hlen (ajw i);rw [List.length_range]at hl;generalize (ajw i).flatMap f=A at hl ⊢;generalize ((ajw (n - i - 1)).map (· +(i+1))).flatMap f=B;have hfi:=hf i;generalize f i=R at hfi ⊢;rw [List.take_append,ajF (l:=A) (by omega),hl,show i*s+c - i*s=c by omega,List.take_append_of_le_length (by omega)];rw [List.drop_append,ajy (l:=A) (by omega),hl,show i*s+c+vs.length - i*s=c+vs.length by omega,List.drop_append_of_le_length (by omega)];simp
section
variable (ρ:Env)
theorem B6{i:E}{v:SV}{c c':bR}(h:B7 i v c=some c'):
  c'.w=c.w∧v.width=c.w∧∀i':Nat,c'.cells ρ i'=if i'=(i.den ρ 0).toNat then SV.cells ρ v else c.cells ρ i':=by
 obtain⟨ck,cw,a⟩:=c;unfold B7 at h;split at h
 ·rename_i k k' e hk;simp only at hk;subst hk;split at h
  ·rename_i hc;obtain⟨hw,rfl⟩:=hc;simp only at hw;subst hw;simp only [aiP]at h;subst h;refine⟨rfl,rfl,fun i'=>?_⟩;simp only [bR.cells,bd,aj,E.den,SV.cells];by_cases hi:i'=(E.den ρ i 0).toNat
   ·simp [hi]
   ·simp [hi]
  ·cases h
 ·rename_i k k' n b hk;simp only at hk;subst hk;split at h
  ·rename_i hc;obtain⟨hw,rfl⟩:=hc;simp only at hw;subst hw;simp only [aiP]at h;subst h;refine⟨rfl,rfl,fun i'=>?_⟩;simp only [bR.cells,bd,SV.cells];by_cases hi:i'=(E.den ρ i 0).toNat
   ·rw [if_pos hi];apply aP;intro j hj;simp only [E.den,fN,toNat_mul,aiX];rw [if_pos (by rw [hi];omega),hi];congr 1;omega
   ·rw [if_neg hi];apply aP;intro j hj;simp only [E.den,fN,toNat_mul,aiX];rw [if_neg];intro hc;rcases Nat.lt_or_gt_of_ne hi with bX | hgt
    ·have:=Nat.mul_le_mul_right cw (Nat.succ_le_of_lt bX);rw [Nat.succ_mul]at this;omega
    ·have:=Nat.mul_le_mul_right cw (Nat.succ_le_of_lt hgt);rw [Nat.succ_mul]at this;omega
  ·cases h
 ·rename_i x hk;simp only at hk;subst hk;split at h
  ·rename_i hw;simp only at hw;subst hw;simp only [aiP]at h;subst h;refine⟨rfl,rfl,fun i'=>?_⟩;simp only [bR.cells,z_,E.den,SV.cells,BE.den];by_cases hi:i'=(E.den ρ i 0).toNat
   ·cases x<;>simp [hi]
   ·simp [hi]
  ·cases h
 ·rename_i e hk;simp only at hk;subst hk;split at h
  ·rename_i hw;simp only at hw;subst hw;simp only [aiP]at h;subst h;refine⟨rfl,rfl,fun i'=>?_⟩;simp only [bR.cells,z_,E.den,SV.cells,BE.den];by_cases hi:i'=(E.den ρ i 0).toNat
   ·simp [hi]
   ·simp [hi]
  ·cases h
 ·rename_i b o hk;simp only at hk;subst hk;split at h
  ·rename_i hw;obtain⟨hw,rfl⟩:=hw;simp only at hw;subst hw;simp only [aiP]at h;subst h;refine⟨rfl,rfl,fun i'=>?_⟩;simp only [bR.cells,xV,E.den,SV.cells];by_cases hi:i'=(E.den ρ i 0).toNat
   ·simp [hi,sG]
   ·simp [hi]
  ·cases h
 ·rename_i hk;simp only at hk;subst hk;split at h
  ·rename_i hw;simp only at hw;subst hw;simp only [aiP]at h;subst h;refine⟨rfl,rfl,fun i'=>?_⟩;simp only [bR.cells,xV,E.den,SV.cells];by_cases hi:i'=(E.den ρ i 0).toNat
   ·simp [hi,nu]
   ·simp [hi]
  ·cases h
 ·rename_i e hk;simp only at hk;subst hk;split at h
  ·rename_i hw;simp only at hw;subst hw;simp only [aiP]at h;subst h;refine⟨rfl,rfl,fun i'=>?_⟩;simp only [bR.cells,xV,E.den,SV.cells];by_cases hi:i'=(E.den ρ i 0).toNat
   ·simp [hi]
   ·simp [hi]
  ·cases h
 ·rename_i hk;simp only at hk;subst hk;split at h
  ·rename_i hw;simp only at hw;subst hw;simp only [aiP]at h;subst h;refine⟨rfl,rfl,fun i'=>?_⟩;simp only [bR.cells,cJ,SV.cells];by_cases hi:i'=(E.den ρ i 0).toNat
   ·simp [hi]
   ·simp [hi]
  ·cases h
 ·rename_i l hk;simp only at hk;subst hk;split at h
  ·rename_i hw;simp only at hw;subst hw;simp only [aiP]at h;subst h;refine⟨rfl,rfl,fun i'=>?_⟩;simp only [bR.cells,cJ,SV.cells,jo,jh,lL];by_cases hi:i'=(E.den ρ i 0).toNat
   ·simp [hi,nr]
   ·simp [hi]
  ·cases h
 ·rename_i s hk;simp only at hk;subst hk;split at h
  ·rename_i hw;simp only at hw;subst hw;simp only [aiP]at h;subst h;refine⟨rfl,rfl,fun i'=>?_⟩;simp only [bR.cells,cJ,SV.cells,jo,jh];by_cases hi:i'=(E.den ρ i 0).toNat
   ·simp [hi]
   ·simp [hi]
  ·cases h
 ·rename_i e hk;simp only at hk;subst hk;split at h
  ·rename_i hw;simp only at hw;subst hw;simp only [aiP]at h;subst h;refine⟨rfl,rfl,fun i'=>?_⟩;simp only [bR.cells,cJ,E.den,SV.cells];by_cases hi:i'=(E.den ρ i 0).toNat
   ·simp [hi,bQ]
   ·simp [hi]
  ·cases h
 ·rename_i hk;simp only at hk;subst hk;split at h
  ·rename_i hw;simp only at hw;subst hw;simp only [aiP]at h;subst h;refine⟨rfl,rfl,fun i'=>?_⟩;simp only [bR.cells,cJ,E.den,SV.cells];by_cases hi:i'=(E.den ρ i 0).toNat
   ·simp [hi,bQ]
   ·simp [hi]
  ·cases h
 ·cases h
end
def xe(kl:List IntKind)(ks:List Int):List Value:=(kl.zip ks).map fun x=> .int x.1 x.2
section
variable {ρ:Env}
theorem GX{k1 k2:List IntKind}{a b:List Int}(h:a.length=k1.length):xe (k1++k2) (a++b)=xe k1 a++xe k2 b:=by
 unfold xe;rw [List.zip_append h.symm,List.map_append]
theorem oc(k:IntKind)(n:Nat)(f:Nat→Int):xe (List.replicate n k) ((ajw n).map f)=aj k n f:=by
 unfold xe aj
 induction n with
 | zero=>rfl
 | succ n ih=>
  rw [List.replicate_succ',List.range_succ,List.map_append,List.zip_append (by simp),List.map_append,ih,List.map_append];simp
theorem rT: ∀{cs:List SV} {o:Nat} {acc:E} {kl:List IntKind} {a:E},vq o acc cs=some (kl,a)→
  (∀j,j<o→a.den ρ j=acc.den ρ j)∧SV.aA ρ cs=xe kl ((ajw kl.length).map fun i=>a.den ρ (o+i))
 | [],o,acc,kl,a,h=>by
  simp [vq]at h;obtain⟨rfl,rfl⟩:=h;exact⟨fun _ _=>rfl,rfl⟩
 | v::r,o,acc,kl,a,h=>by
  cases v with
  | int k e=>
   simp only [vq]at h;split at h
   ·rename_i l a' h1;cases h;obtain⟨i1,i2⟩:=rT h1;have e1: ∀j,(E.sD acc (.lit o) e).den ρ j=if j=o then e.den ρ 0 else acc.den ρ j:=fun j=>rfl
    refine⟨fun j hj=>?_,?_⟩
    ·rw [i1 j (by omega),e1,if_neg (by omega)]
    ·simp only [SV.aA,SV.cells,i2,List.length_cons];rw [List.range_succ_eq_map,ajb,List.map_map];have e0:a.den ρ (o+0)=e.den ρ 0:=by
      rw [i1 (o+0) (by omega),e1,if_pos (by omega)]
     rw [e0];simp only [xe,List.zip_cons_cons,ajb,List.singleton_append,ai5,true_and];congr 3;funext i;simp only [Function.comp];congr 1;omega
   ·cases h
  | b_ k n b=>
   simp only [vq]at h;split at h
   ·rename_i l a' h1;cases h;obtain⟨i1,i2⟩:=rT h1;have e1: ∀j,(E.rl acc (.lit o) (.lit n) b).den ρ j=if o≤j∧j<o+n then b.den ρ (j - o)else acc.den ρ j:=fun j=>rfl
    refine⟨fun j hj=>?_,?_⟩
    ·rw [i1 j (by omega),e1,if_neg (by omega)]
    ·simp only [SV.aA,SV.cells,i2,List.length_append,List.length_replicate];rw [List.range_add,List.map_append,GX (by simp),oc,List.map_map];congr 1
     ·apply aP;intro j hj;rw [i1 (o+j) (by omega),e1,if_pos (by omega)];congr 1;omega
     ·congr 2;funext i;simp only [Function.comp];congr 1;omega
   ·cases h
  | _=>simp [vq]at h
theorem gD{cs:List SV}{kl:List IntKind}{a:E}(h:rowOf cs=some (kl,a)):SV.aA ρ cs=xe kl ((ajw kl.length).map (a.den ρ)):=by
 unfold rowOf at h;split at h
 ·cases h;simp only [SV.aA,SV.cells,List.append_nil,List.length_replicate];rw [oc]
 ·cases h;rfl
 ·have:=(rT (ρ:=ρ) h).2;simpa using this
theorem pD: ∀{aD:List bR} {vs Gv:List SV},align aD vs=some Gv→SV.aA ρ Gv=SV.aA ρ vs
 | [],[],Gv,h=>by simp [align]at h;subst h;rfl
 | _::_,[],Gv,h=>by simp [align]at h;subst h;rfl
 | [],v::r,Gv,h=>by simp [align]at h;subst h;rfl
 | c::aD,v::r,Gv,h=>by
  unfold align at h;split at h
  ·rw [aiO]at h;obtain⟨z,hz,rfl⟩:=h;simp only [SV.aA,pD hz]
  ·split at h
   ·rename_i k x rest hk hx xW;split at h
    ·rename_i kl a DS;split at h
     ·rename_i DT;rw [aiO]at h;obtain⟨z,hz,rfl⟩:=h;have h1:=(eD (ρ:=ρ) hx).1;have h2:=dQ (ρ:=ρ) _ _ _ xW;have h3:=gD (ρ:=ρ) DS;rw [DT,List.length_replicate,oc]at h3;rw [h3,List.drop_zero]at h1;rw [SV.aA,SV.cells,pD hz,h1,h2,List.take_append_drop]
     ·cases h
    ·cases h
   ·cases h
end
section
variable (ρ:Env)
abbrev rowAt(aD:List bR)(i:Nat):List Value:=(aD.map (bR.cells ρ)).flatMap fun c=>c i
theorem rq{i:E}: ∀{vs:List SV} {aD aT:List bR},nF i vs aD=some aT→
  bT aT=bT aD∧(SV.aA ρ vs).length≤bT aD∧
   (∀i':Nat,i'≠(i.den ρ 0).toNat→rowAt ρ aT i'=rowAt ρ aD i')∧
   rowAt ρ aT (i.den ρ 0).toNat=SV.aA ρ vs++(rowAt ρ aD (i.den ρ 0).toNat).drop (SV.aA ρ vs).length
 | [],aD,aT,h=>by
  simp [nF]at h;subst h;simp [SV.aA]
 | v::r,[],aT,h=>by simp [nF]at h
 | v::r,c::aD,aT,h=>by
  unfold nF at h;split at h
  ·rename_i c' xJ h1 h2;simp only [aiP]at h;subst h;obtain⟨hw,hv,hc⟩:=B6 ρ h1;obtain⟨iw,il,Xd,Xe⟩:=rq h2;have Xf:=sO ρ v;refine⟨?_,?_,?_,?_⟩
   ·simp only [bT,ajb,List.sum_cons]at iw ⊢;omega
   ·simp only [SV.aA,List.length_append,bT,ajb,List.sum_cons]at il ⊢;omega
   ·intro i' hi;simp only [rowAt,ajb,List.flatMap_cons]at Xd ⊢;rw [Xd i' hi,hc i',if_neg hi]
   ·simp only [rowAt,ajb,List.flatMap_cons,SV.aA]at Xe ⊢;rw [Xe,hc _,if_pos rfl,ajs,List.length_append,List.drop_append,jW,ajy (l:=c.cells ρ _) (by rw [jW];omega),
     List.nil_append,Xf,hv,Nat.add_sub_cancel_left]
  ·cases h
theorem jq{i:E}{vs:List SV}{aD aT:List bR}(h:ld i vs aD=some aT):
  bT aT=bT aD∧(SV.aA ρ vs).length≤bT aD∧
   (∀i':Nat,i'≠(i.den ρ 0).toNat→rowAt ρ aT i'=rowAt ρ aD i')∧
   rowAt ρ aT (i.den ρ 0).toNat=SV.aA ρ vs++(rowAt ρ aD (i.den ρ 0).toNat).drop (SV.aA ρ vs).length:=by
 unfold ld at h;split at h
 ·rename_i Gv ha;have:=rq ρ h
  rwa [pD ha]at this
 ·cases h
theorem ru{i:E}{vs:List SV}: ∀{o:Nat} {aD aT:List bR},nG i vs o aD=some aT→
  bT aT=bT aD∧o+(SV.aA ρ vs).length≤bT aD∧
   (∀i':Nat,i'≠(i.den ρ 0).toNat→rowAt ρ aT i'=rowAt ρ aD i')∧
   rowAt ρ aT (i.den ρ 0).toNat=(rowAt ρ aD (i.den ρ 0).toNat).take o++SV.aA ρ vs++(rowAt ρ aD (i.den ρ 0).toNat).drop (o+(SV.aA ρ vs).length)
 | 0,aD,aT,h=>by
  unfold nG at h;have:=jq ρ h;simpa using this
 | o+1,[],aT,h=>by simp [nG]at h
 | o+1,c::r,aT,h=>by
  unfold nG at h;split at h
  ·rename_i hle;rw [aiO]at h;obtain⟨r',h1,rfl⟩:=h;obtain⟨iw,il,Xd,Xe⟩:=ru h1;refine⟨?_,?_,?_,?_⟩
   ·simp only [bT,ajb,List.sum_cons]at iw ⊢;omega
   ·simp only [bT,ajb,List.sum_cons]at il ⊢;omega
   ·intro i' hi;simp only [rowAt,ajb,List.flatMap_cons]at Xd ⊢;rw [Xd i' hi]
   ·simp only [rowAt,ajb,List.flatMap_cons]at Xe ⊢;rw [Xe,List.take_append,List.drop_append,jW,ajF (l:=c.cells ρ _) (by rw [jW];exact hle),
     ajy (l:=c.cells ρ _) (by rw [jW];omega),List.nil_append,show o+1+(SV.aA ρ vs).length - c.w=o+1 - c.w+(SV.aA ρ vs).length by omega]
    simp [ajs]
  ·cases h
end
end Go.RX
