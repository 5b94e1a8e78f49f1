/- Executor. -/
import Derived.Test.YtllcdnkfbeokhaaGreatM03
open Go.Result renaming andThen_ok -> ax0
open Go.Sem renaming run_bind -> ax9
open Int renaming toNat_natCast -> ax3
open List renaming append_assoc -> ayl, flatMap_cons -> ayn, getElem?_append_left -> axX, getElem?_append_right -> axY, getElem?_eq_getElem -> ays, length_append -> axP, length_cons -> ax5, length_nil -> aya, map_cons -> ayr, mem_filter -> ayi, mem_map -> ayg, mem_range -> ayc
open Option renaming map_eq_some_iff -> axV
open Option.some renaming injEq -> axU
open Prod.mk renaming injEq -> ayz
namespace Go.RX
theorem eV{hp:List Ck}{b j:Nat}{ck:Ck}(h:findAt hp b=some (j,ck)):hp[j]? =some ck/\ck.xA b=true:=by
 unfold findAt at h;split at h
 .rename_i i hi;rw[axV]at h;obtain⟨c,hc,he⟩:=h;cases he;refine⟨hc,?_⟩;rw[List.findIdx?_eq_some_iff_getElem]at hi;obtain⟨cC,h1,_⟩:=hi;rw[ays cC]at hc;cases hc;exact h1
 .cases h
theorem dy{hp:List Ck}{v j:Nat}{ck:Ck}(h:fC hp v=some (j,ck)):hp[j]? =some ck/\ck.og v=true:=by
 unfold fC at h;split at h
 .rename_i i hi;rw[axV]at h;obtain⟨c,hc,he⟩:=h;cases he;refine⟨hc,?_⟩;rw[List.findIdx?_eq_some_iff_getElem]at hi;obtain⟨cC,h1,_⟩:=hi;rw[ays cC]at hc;cases hc;exact h1
 .cases h
theorem VQ(s:Nat)(f g:Nat->List Value)(hf: ∀i,(f i).length=s)(_: ∀i,(g i).length=s)(n i c:Nat)(vs:List Value)(hi:i<n)
  (hc:c+vs.length<=s) (fL: ∀j,j≠i->g j=f j) (he:g i=(f i).take c++vs++(f i).drop (c+vs.length)):
  (List.range n).flatMap g=((List.range n).flatMap f).take (i*s+c)++vs++((List.range n).flatMap f).drop (i*s+c+vs.length):=by
 have h1:List.range n=List.range i++(i::(List.range (n - i - 1)).map (· +(i+1))):=by
  apply List.ext_getElem?;intro j;rw[List.getElem?_append];by_cases hj:j<n
  .rw [List.getElem?_range hj];by_cases Nw:j<i
   .rw [if_pos (by simpa using Nw),List.getElem?_range Nw]
   .rw [if_neg (by simpa using Nw),List.length_range];by_cases he:j=i
    .subst he;simp
    .obtain⟨d,rfl⟩: ∃d,j=i+1+d:=⟨j - i - 1,by omega⟩;rw[show i+1+d - i=d+1 by omega,List.getElem?_cons_succ,List.getElem?_map,List.getElem?_range (by omega)];simp;omega
  .rw [List.getElem?_eq_none (by simp;omega),if_neg (by simp;omega),List.getElem?_eq_none (by simp;omega)]
 have hlen: ∀l:List Nat,(l.flatMap f).length=l.length*s:=by
  intro l
  induction l with
  | nil=>simp
  | cons a r ih=>rw[ayn,axP,hf,ih,ax5,Nat.add_mul];omega
 have hA:(List.range i).flatMap g=(List.range i).flatMap f:=by
  rw[List.flatMap_def,List.flatMap_def];congr 1;exact List.map_congr_left λj hj=>fL j (by have:=ayc.1 hj;omega)
 have hB:((List.range (n - i - 1)).map (· +(i+1))).flatMap g=((List.range (n - i - 1)).map (· +(i+1))).flatMap f:=by
  rw[List.flatMap_def,List.flatMap_def];congr 1;apply List.map_congr_left;intro j hj;simp only[ayg,ayc]at hj;obtain⟨x,_,rfl⟩:=hj;exact fL _ (by omega)
 rw[h1];simp only[List.flatMap_append,ayn,hA,hB,he];have hl:=hlen (List.range i);rw[List.length_range]at hl;generalize (List.range i).flatMap f=A at hl ⊢;generalize ((List.range (n - i - 1)).map (· +(i+1))).flatMap f=B;have hfi:=hf i;generalize f i=R at hfi ⊢;rw[List.take_append,List.take_of_length_le (l:=A) (by omega),hl,show i*s+c - i*s=c by omega,List.take_append_of_le_length (by omega)];rw[List.drop_append,List.drop_of_length_le (l:=A) (by omega),hl,show i*s+c+vs.length - i*s=c+vs.length by omega,List.drop_append_of_le_length (by omega)];simp
section
variable (ρ:Env)
theorem En{i:E}{v:SV}{c c':bU}(h:Eo i v c=some c'):
  c'.w=c.w/\v.width=c.w/\∀i':Nat,c'.cells ρ i'=if i'=(i.den ρ 0).toNat then SV.cells ρ v else c.cells ρ i':=by
 obtain⟨ck,cw,a⟩:=c;unfold Eo at h;split at h
 .rename_i k k' e hk;simp only at hk;subst hk;split at h
  .rename_i hc;obtain⟨hw,rfl⟩:=hc;simp only at hw;subst hw;simp only[axU]at h;subst h;refine⟨rfl,rfl,λi'=>?_⟩;simp only[bU.cells,ax,aj,E.den,SV.cells];by_cases hi:i'=(E.den ρ i 0).toNat
   .simp [hi]
   .simp [hi]
  .cases h
 .rename_i k k' n b hk;simp only at hk;subst hk;split at h
  .rename_i hc;obtain⟨hw,rfl⟩:=hc;simp only at hw;subst hw;simp only[axU]at h;subst h;refine⟨rfl,rfl,λi'=>?_⟩;simp only[bU.cells,ax,SV.cells];by_cases hi:i'=(E.den ρ i 0).toNat
   .rw [if_pos hi];apply cN;intro j hj;simp only[E.den,iV,toNat_mul,ax3];rw[if_pos (by rw[hi];omega),hi];congr 1;omega
   .rw [if_neg hi];apply cN;intro j hj;simp only[E.den,iV,toNat_mul,ax3];rw[if_neg];intro hc;rcases Nat.lt_or_gt_of_ne hi with cC | hgt
    .have:=Nat.mul_le_mul_right cw (Nat.succ_le_of_lt cC);rw[Nat.succ_mul]at this;omega
    .have:=Nat.mul_le_mul_right cw (Nat.succ_le_of_lt hgt);rw[Nat.succ_mul]at this;omega
  .cases h
 .rename_i x hk;simp only at hk;subst hk;split at h
  .rename_i hw;simp only at hw;subst hw;simp only[axU]at h;subst h;refine⟨rfl,rfl,λi'=>?_⟩;simp only[bU.cells,cR,E.den,SV.cells,BE.den];by_cases hi:i'=(E.den ρ i 0).toNat
   .cases x<;>simp[hi]
   .simp [hi]
  .cases h
 .rename_i e hk;simp only at hk;subst hk;split at h
  .rename_i hw;simp only at hw;subst hw;simp only[axU]at h;subst h;refine⟨rfl,rfl,λi'=>?_⟩;simp only[bU.cells,cR,E.den,SV.cells,BE.den];by_cases hi:i'=(E.den ρ i 0).toNat
   .simp [hi]
   .simp [hi]
  .cases h
 .rename_i b o hk;simp only at hk;subst hk;split at h
  .rename_i hw;obtain⟨hw,rfl⟩:=hw;simp only at hw;subst hw;simp only[axU]at h;subst h;refine⟨rfl,rfl,λi'=>?_⟩;simp only[bU.cells,vF,E.den,SV.cells];by_cases hi:i'=(E.den ρ i 0).toNat
   .simp [hi,fq]
   .simp [hi]
  .cases h
 .rename_i hk;simp only at hk;subst hk;split at h
  .rename_i hw;simp only at hw;subst hw;simp only[axU]at h;subst h;refine⟨rfl,rfl,λi'=>?_⟩;simp only[bU.cells,vF,E.den,SV.cells];by_cases hi:i'=(E.den ρ i 0).toNat
   .simp [hi,dr]
   .simp [hi]
  .cases h
 .rename_i e hk;simp only at hk;subst hk;split at h
  .rename_i hw;simp only at hw;subst hw;simp only[axU]at h;subst h;refine⟨rfl,rfl,λi'=>?_⟩;simp only[bU.cells,vF,E.den,SV.cells];by_cases hi:i'=(E.den ρ i 0).toNat
   .simp [hi]
   .simp [hi]
  .cases h
 .rename_i hk;simp only at hk;subst hk;split at h
  .rename_i hw;simp only at hw;subst hw;simp only[axU]at h;subst h;refine⟨rfl,rfl,λi'=>?_⟩;simp only[bU.cells,cV,SV.cells];by_cases hi:i'=(E.den ρ i 0).toNat
   .simp [hi]
   .simp [hi]
  .cases h
 .rename_i l hk;simp only at hk;subst hk;split at h
  .rename_i hw;simp only at hw;subst hw;simp only[axU]at h;subst h;refine⟨rfl,rfl,λi'=>?_⟩;simp only[bU.cells,cV,SV.cells,lE,lC,vC];by_cases hi:i'=(E.den ρ i 0).toNat
   .simp [hi,s6]
   .simp [hi]
  .cases h
 .rename_i s hk;simp only at hk;subst hk;split at h
  .rename_i hw;simp only at hw;subst hw;simp only[axU]at h;subst h;refine⟨rfl,rfl,λi'=>?_⟩;simp only[bU.cells,cV,SV.cells,lE,lC];by_cases hi:i'=(E.den ρ i 0).toNat
   .simp [hi]
   .simp [hi]
  .cases h
 .rename_i e hk;simp only at hk;subst hk;split at h
  .rename_i hw;simp only at hw;subst hw;simp only[axU]at h;subst h;refine⟨rfl,rfl,λi'=>?_⟩;simp only[bU.cells,cV,E.den,SV.cells];by_cases hi:i'=(E.den ρ i 0).toNat
   .simp [hi,bg]
   .simp [hi]
  .cases h
 .rename_i hk;simp only at hk;subst hk;split at h
  .rename_i hw;simp only at hw;subst hw;simp only[axU]at h;subst h;refine⟨rfl,rfl,λi'=>?_⟩;simp only[bU.cells,cV,E.den,SV.cells];by_cases hi:i'=(E.den ρ i 0).toNat
   .simp [hi,bg]
   .simp [hi]
  .cases h
 .rename_i u hk;simp only at hk;subst hk;split at h
  .rename_i hw;simp only at hw;subst hw;simp only[axU]at h;subst h;refine⟨rfl,rfl,λi'=>?_⟩;simp only[bU.cells,cV,SV.cells];by_cases hi:i'=(E.den ρ i 0).toNat
   .simp [hi]
   .simp [hi]
  .cases h
 .rename_i q _ u hk;simp only at hk;subst hk;split at h
  .rename_i hw;obtain⟨hw,rfl⟩:=hw;simp only at hw;subst hw;simp only[axU]at h;subst h;refine⟨rfl,rfl,λi'=>?_⟩;simp only[bU.cells,cV,SV.cells];by_cases hi:i'=(E.den ρ q 0).toNat
   .simp [hi]
   .simp [hi]
  .cases h
 .cases h
end
def zX(kl:List IntKind)(ks:List Int):List Value:=(kl.zip ks).map λx=> .int x.1 x.2
section
variable {ρ:Env}
theorem Jx{k1 k2:List IntKind}{a b:List Int}(h:a.length=k1.length):zX (k1++k2) (a++b)=zX k1 a++zX k2 b:=by
 unfold zX;rw[List.zip_append h.symm,List.map_append]
theorem vG(k:IntKind)(n:Nat)(f:Nat->Int):zX (List.replicate n k) ((List.range n).map f)=aj k n f:=by
 unfold zX aj
 induction n with
 | zero=>rfl
 | succ n ih=>
  rw[List.replicate_succ',List.range_succ,List.map_append,List.zip_append (by simp),List.map_append,ih,List.map_append];simp
theorem uB: ∀{cs:List SV} {o:Nat} {acc:E} {kl:List IntKind} {a:E},yE o acc cs=some (kl,a)->
  (∀j,j<o->a.den ρ j=acc.den ρ j)/\SV.aq ρ cs=zX kl ((List.range kl.length).map λi=>a.den ρ (o+i))
 | [],o,acc,kl,a,h=>by
  simp[yE]at h;obtain⟨rfl,rfl⟩:=h;exact⟨λ_ _=>rfl,rfl⟩
 | v::r,o,acc,kl,a,h=>by
  cases v with
  | int k e=>
   simp only[yE]at h;split at h
   .rename_i l a' h1;cases h;obtain⟨i1,i2⟩:=uB h1;have e1: ∀j,(E.oL acc (.lit o) e).den ρ j=if j=o then e.den ρ 0 else acc.den ρ j:=λj=>rfl
    refine⟨λj hj=>?_,?_⟩
    .rw [i1 j (by omega),e1,if_neg (by omega)]
    .simp only[SV.aq,SV.cells,i2,ax5];rw[List.range_succ_eq_map,ayr,List.map_map];have e0:a.den ρ (o+0)=e.den ρ 0:=by
      rw[i1 (o+0) (by omega),e1,if_pos (by omega)]
     rw[e0];simp only[zX,List.zip_cons_cons,ayr,List.singleton_append,List.cons.injEq,true_and];congr 3;funext i;simp only[Function.comp];congr 1;omega
   .cases h
  | jD k n b=>
   simp only[yE]at h;split at h
   .rename_i l a' h1;cases h;obtain⟨i1,i2⟩:=uB h1;have e1: ∀j,(E.jA acc (.lit o) (.lit n) b).den ρ j=if o<=j/\j<o+n then b.den ρ (j - o)else acc.den ρ j:=λj=>rfl
    refine⟨λj hj=>?_,?_⟩
    .rw [i1 j (by omega),e1,if_neg (by omega)]
    .simp only[SV.aq,SV.cells,i2,axP,List.length_replicate];rw[List.range_add,List.map_append,Jx (by simp),vG,List.map_map];congr 1
     .apply cN;intro j hj;rw[i1 (o+j) (by omega),e1,if_pos (by omega)];congr 1;omega
     .congr 2;funext i;simp only[Function.comp];congr 1;omega
   .cases h
  | _=>simp[yE]at h
theorem kN{cs:List SV}{kl:List IntKind}{a:E}(h:rowOf cs=some (kl,a)):SV.aq ρ cs=zX kl ((List.range kl.length).map (a.den ρ)):=by
 unfold rowOf at h;split at h
 .cases h;simp only[SV.aq,SV.cells,List.append_nil,List.length_replicate];rw[vG]
 .cases h;rfl
 .have:=(uB (ρ:=ρ) h).2;simpa using this
theorem rX: ∀{aB:List bU} {vs I9:List SV},align aB vs=some I9->SV.aq ρ I9=SV.aq ρ vs
 | [],[],I9,h=>by simp[align]at h;subst h;rfl
 | _::_,[],I9,h=>by simp[align]at h;subst h;rfl
 | [],v::r,I9,h=>by simp[align]at h;subst h;rfl
 | c::aB,v::r,I9,h=>by
  unfold align at h;split at h
  .rw [axV]at h;obtain⟨z,hz,rfl⟩:=h;simp only[SV.aq,rX hz]
  .split at h
   .rename_i k x rest hk hx AF;split at h
    .rename_i kl a rM;split at h
     .rename_i Ny;rw[axV]at h;obtain⟨z,hz,rfl⟩:=h;have h1:=(fy (ρ:=ρ) hx).1;have h2:=fM (ρ:=ρ) _ _ _ AF;have h3:=kN (ρ:=ρ) rM;rw[Ny,List.length_replicate,vG]at h3;rw[h3,List.drop_zero]at h1;rw[SV.aq,SV.cells,rX hz,h1,h2,List.take_append_drop]
     .cases h
    .cases h
   .cases h
end
section
variable (ρ:Env)
abbrev rowAt(aB:List bU)(i:Nat):List Value:=(aB.map (bU.cells ρ)).flatMap λc=>c i
theorem tS{i:E}: ∀{vs:List SV} {aB aS:List bU},qg i vs aB=some aS->
  cm aS=cm aB/\(SV.aq ρ vs).length<=cm aB/\
   (∀i':Nat,i'≠(i.den ρ 0).toNat->rowAt ρ aS i'=rowAt ρ aB i')/\
   rowAt ρ aS (i.den ρ 0).toNat=SV.aq ρ vs++(rowAt ρ aB (i.den ρ 0).toNat).drop (SV.aq ρ vs).length
 | [],aB,aS,h=>by
  simp[qg]at h;subst h;simp[SV.aq]
 | v::r,[],aS,h=>by simp[qg]at h
 | v::r,c::aB,aS,h=>by
  unfold qg at h;split at h
  .rename_i c' qE h1 h2;simp only[axU]at h;subst h;obtain⟨hw,hv,hc⟩:=En ρ h1;obtain⟨iw,il,ine,ieq⟩:=tS h2;have hvl:=vE ρ v;refine⟨?_,?_,?_,?_⟩
   .simp only[cm,ayr,List.sum_cons]at iw ⊢;omega
   .simp only[SV.aq,axP,cm,ayr,List.sum_cons]at il ⊢;omega
   .intro i' hi;simp only[rowAt,ayr,ayn]at ine ⊢;rw[ine i' hi,hc i',if_neg hi]
   .simp only[rowAt,ayr,ayn,SV.aq]at ieq ⊢;rw[ieq,hc _,if_pos rfl,ayl,axP,List.drop_append,mg,List.drop_of_length_le (l:=c.cells ρ _) (by rw[mg];omega),
     List.nil_append,hvl,hv,Nat.add_sub_cancel_left]
  .cases h
theorem jQ{i:E}{vs:List SV}{aB aS:List bU}(h:mz i vs aB=some aS):
  cm aS=cm aB/\(SV.aq ρ vs).length<=cm aB/\
   (∀i':Nat,i'≠(i.den ρ 0).toNat->rowAt ρ aS i'=rowAt ρ aB i')/\
   rowAt ρ aS (i.den ρ 0).toNat=SV.aq ρ vs++(rowAt ρ aB (i.den ρ 0).toNat).drop (SV.aq ρ vs).length:=by
 unfold mz at h;split at h
 .rename_i I9 ha;have:=tS ρ h
  rwa[rX ha]at this
 .cases h
theorem tT{i:E}{vs:List SV}: ∀{o:Nat} {aB aS:List bU},qh i vs o aB=some aS->
  cm aS=cm aB/\o+(SV.aq ρ vs).length<=cm aB/\
   (∀i':Nat,i'≠(i.den ρ 0).toNat->rowAt ρ aS i'=rowAt ρ aB i')/\
   rowAt ρ aS (i.den ρ 0).toNat=(rowAt ρ aB (i.den ρ 0).toNat).take o++SV.aq ρ vs++(rowAt ρ aB (i.den ρ 0).toNat).drop (o+(SV.aq ρ vs).length)
 | 0,aB,aS,h=>by
  unfold qh at h;have:=jQ ρ h;simpa using this
 | o+1,[],aS,h=>by simp[qh]at h
 | o+1,c::r,aS,h=>by
  unfold qh at h;split at h
  .rename_i hle;rw[axV]at h;obtain⟨r',h1,rfl⟩:=h;obtain⟨iw,il,ine,ieq⟩:=tT h1;refine⟨?_,?_,?_,?_⟩
   .simp only[cm,ayr,List.sum_cons]at iw ⊢;omega
   .simp only[cm,ayr,List.sum_cons]at il ⊢;omega
   .intro i' hi;simp only[rowAt,ayr,ayn]at ine ⊢;rw[ine i' hi]
   .simp only[rowAt,ayr,ayn]at ieq ⊢;rw[ieq,List.take_append,List.drop_append,mg,List.take_of_length_le (l:=c.cells ρ _) (by rw[mg];exact hle),
     List.drop_of_length_le (l:=c.cells ρ _) (by rw[mg];omega),List.nil_append,show o+1+(SV.aq ρ vs).length - c.w=o+1 - c.w+(SV.aq ρ vs).length by omega]
    simp[ayl]
  .cases h
end
section
variable {P:Program} {w:World} {ρ:Env}
def Reads(hp:List Ck)(ρ:Env)(w:World)(S:Nat->Nat->Prop)(rd:List Nat):Prop:=
 ∀j∈rd,∀ck,hp[j]? =some ck->(ck.den ρ).p w (S j)
theorem yF{c:Nat}{cs pre post:List SV}{k:IntKind}{n:Nat}{a:E}(h:Ls c cs=some (pre,k,n,a,post)):
  SV.aq ρ cs=SV.aq ρ pre++aj k n (a.den ρ)++SV.aq ρ post/\(SV.aq ρ pre).length=c:=by
 unfold Ls at h;split at h
 .rename_i hle;split at h
  .rename_i k' n' a' r Z0 h1 h2;simp only[axU,ayz]at h;obtain⟨rfl,rfl,rfl,rfl,rfl⟩:=h;have e1:=fM ρ _ _ _ h1;have e2:=kq ρ _ _ _ h2;simp only[SV.aq,SV.cells]at e1;refine⟨?_,?_⟩
   .rw [e2,ayl,e1,List.take_append_drop]
   .rw [e2,List.length_take,bJ];exact Nat.min_eq_left hle
  .cases h
 .cases h
theorem AG{a b:E}(h: ∀c∈fD a b,c.prop ρ):a.den ρ 0<=b.den ρ 0:=by
 unfold fD at h;split at h
 .rename_i he;subst he;exact Int.le_refl _
 .have key:(zy a b).den ρ=true:=by
   by_cases hl:zy a b= .lit true
   .rw [hl];rfl
   .exact(BE.bY ρ _).2 (h _ (ayi.2 ⟨by simp,by simpa using hl⟩))
  rw[jN]at key;exact of_decide_eq_true key
theorem QF(k:IntKind)(n:Nat)(a:E):aL ρ n [⟨.int k,1,a⟩]=aj k n (a.den ρ):=by
 unfold aL aG aj
 induction n with
 | zero=>rfl
 | succ n ih=>
  rw[List.range_succ,List.flatMap_append,List.map_append,ih];simp[bU.cells,ax,aj]
theorem AH{ρ:Env}: ∀{cs:List SV} {o:Nat} {acc a:E},vH o acc cs=some a->
  (∀j,j<o->rK (a.den ρ) j=rK (acc.den ρ) j)/\(SV.aq ρ cs).length=cs.length/\∀j,j<cs.length->(SV.aq ρ cs)[j]? =some (.string ⟨(eB (rK (a.den ρ) (o+j))).toArray⟩)
 | [],o,acc,a,h=>by
  simp only[vH,axU]at h;subst h;exact⟨λ_ _=>rfl,rfl,λj hj=>absurd hj (Nat.not_lt_zero _)⟩
 | v::r,o,acc,a,h=>by
  have key: ∀s:E,SV.cells ρ v=[.string ⟨(eB (s.den ρ)).toArray⟩]->vH (o+1) (.rQ acc (.lit o) s) r=some a->
    (∀j,j<o->rK (a.den ρ) j=rK (acc.den ρ) j)/\(SV.aq ρ (v::r)).length=(v::r).length/\∀j,j<(v::r).length->(SV.aq ρ (v::r))[j]? =some (.string ⟨(eB (rK (a.den ρ) (o+j))).toArray⟩):=by
   intro s hv h;obtain⟨i1,i2,i3⟩:=AH (ρ:=ρ) h;refine⟨λj hj=>?_,by simp[SV.aq,hv,i2],λj hj=>?_⟩
   .rw [i1 j (by omega),lE,lC,eI,if_neg (by simp;omega)]
   .simp only[SV.aq,hv,List.singleton_append];cases j with
    | zero=>
     simp only[List.getElem?_cons_zero,Nat.add_zero];rw[i1 o (by omega),lE,lC,eI,if_pos (by simp)]
    | succ j=>
     rw[List.getElem?_cons_succ,i3 j (by simpa using hj)];congr 6;omega
  cases v with
  | str l=>exact key (Gd l) (by simp[SV.cells,vC,s6]) (by simpa[vH] using h)
  | nX s=>exact key s rfl (by simpa[vH] using h)
  | _=>simp[vH]at h
theorem Ep{ρ:Env}{cs:List SV}{a:E}(h:QG cs=some a)(j:Nat)(hj:j<cs.length):(SV.aq ρ cs)[j]? =some (.string ⟨(eB (rK (a.den ρ) j)).toArray⟩):=by
 have:=(AH (ρ:=ρ) h).2.2 j hj
 rwa[Nat.zero_add]at this
theorem tU{hp:List Ck}{ti:TI}(dZ:lY P ti){x:SV}{res:jf}(h:zY hp ti.k.agg ti.size x=some res)
  {S:Nat->Nat->Prop} (dF:Reads hp ρ w S res.rd) (cA: ∀b∈res.vcs,b.prop ρ):
  (Instr.loadAt ti.t (x.val ρ)).run P w= .ok (res.val.val ρ) w/\res.jE= .none:=by
 unfold zY at h;split at h
 .rename_i b c;split at h
  .rename_i j b' wr cs hf;obtain⟨hj,er⟩:=eV hf;simp only[Ck.xA,beq_iff_eq]at er;subst er;split at h
   .rename_i y hy;rw[axV]at h;obtain⟨v,hv,rfl⟩:=h;have hS:=dF j (by simp) _ hj;obtain⟨h1,h2⟩:=fy ρ hy;refine⟨?_,rfl⟩;refine od dZ ⟨ρ.bv.getD b 0,c,none⟩ (SV.aq ρ y) (by rw[h1,List.length_take,List.length_drop];omega) ?_ _ (oV ρ hv);intro i u hu;rw[h1]at hu;refine kM hS c i u ?_;rw[List.getElem?_take]at hu;split at hu
    .exact hu
    .cases hu
   .cases h
  .cases h
 .rename_i b i s c;split at h
  .rename_i j b' wr cs hf;obtain⟨hj,er⟩:=eV hf;simp only[Ck.xA,beq_iff_eq]at er;subst er;split at h
   .rename_i hc;obtain⟨rfl,jR,zz⟩:=hc;split at h
    .rename_i pre k n a post Z1;simp only[axU]at h;subst h;have hS:=dF j (by simp) _ hj;obtain⟨e1,e2⟩:=yF (ρ:=ρ) Z1;obtain⟨PW,PX⟩:=dR ρ cA;simp only[E.den]at PX;refine⟨?_,rfl⟩;refine od dZ ⟨ρ.bv.getD b 0,(i.den ρ 0).toNat*1+c,none⟩ [.int k ((fc a i).den ρ 0)] (by simp[jR]) ?_ _ ⟨λh=>(by rw[zz]at h;cases h),λ_=>rfl⟩;intro m u hu;refine kM hS _ m u ?_;have hm:m=0:=by
      cases m with
      | zero=>rfl
      | succ m=>simp at hu
     subst hm;rw[e1,List.getElem?_drop,ayl,axY (by omega),e2,axX (by rw[aH];omega),bL,
      if_pos (by omega)]
     simp only[List.getElem?_cons_zero,axU]at hu;rw[<-hu,dp];congr 3;omega
    .split at h
     .rename_i hc0;split at h
      .rename_i a rY;cases h;have hS:=dF j (by simp) _ hj;obtain⟨PW,PX⟩:=dR ρ cA;simp only[E.den]at PX;refine⟨?_,rfl⟩;have mG:=Ep (ρ:=ρ) rY (i.den ρ 0).toNat (by omega);refine od dZ ⟨ρ.bv.getD b 0,(i.den ρ 0).toNat*1+c,none⟩ [.string ⟨(eB (rK (a.den ρ) (i.den ρ 0).toNat)).toArray⟩] (by simp[jR]) ?_ _ ⟨λh=>(by rw[zz]at h;cases h),λ_=>by rw[pW,AE]⟩;intro m u hu;refine kM hS _ m u ?_;have hm:m=0:=by
        cases m with
        | zero=>rfl
        | succ m=>simp at hu
       subst hm;rw[hc0,Nat.mul_one,Nat.add_zero,List.getElem?_drop,Nat.add_zero,mG];simpa using hu
      .cases h
     .cases h
   .cases h
  .cases h
 .rename_i v i s c;split at h
  .rename_i j md v' t s' n aB hf;obtain⟨hj,er⟩:=dy hf;simp only[Ck.og,beq_iff_eq]at er;subst er;split at h
   .rename_i hc;obtain⟨rfl,hs⟩:=hc;split at h
    .split at h
     .rename_i cC k a;split at h
      .rename_i hca;obtain⟨rfl,zz⟩:=hca;cases h;have hS:=dF j (by simp) _ hj;simp only at cA;have q1:=AG (ρ:=ρ) (λb hb=>cA b (List.mem_append_left _ hb));have q2:=AG (ρ:=ρ) (λb hb=>cA b (List.mem_append_right _ hb));rw[bK]at q2;simp only[E.den]at q1 q2;have lZ:s=1:=by simpa[cm] using hs
       subst lZ;obtain⟨a0,cp,hv⟩:=oe hS (by omega);refine⟨?_,rfl⟩;simp only[SV.val,gC,hv];refine od dZ _ (aj k ti.size ((n_ a i).den ρ)) (aH ..) ?_ _ ⟨λ_=>by simp[SV.aq,SV.cells],λh=>(by rw[zz]at h;cases h)⟩;intro m u hu;rw[bL]at hu;split at hu
       .rename_i hm;simp only[axU]at hu;have hu':((aL ρ (n.den ρ 0).toNat [⟨.int k,1,a⟩]).drop ((i.den ρ 0).toNat*1+0))[m]? =some u:=by
         rw[QF,List.getElem?_drop,bL,if_pos (by omega),<-hu,gP];congr 3;omega
        obtain⟨a',m',cp',tI,_,mG⟩:=Gm hS _ m u hu';rw[hv]at tI;cases tI;exact mG
       .cases hu
      .cases h
     .cases h
    split at h
    .rename_i es zZ;split at h
     .rename_i y hy;rw[axV]at h;obtain⟨x,hx,rfl⟩:=h;have hS:=dF j (by simp) _ hj;obtain⟨PW,PX⟩:=dR ρ cA;obtain⟨h1,h2⟩:=fy ρ hy;have h3:=oc ρ zZ;have cC:(i.den ρ 0).toNat<(n.den ρ 0).toNat:=by omega
      have Jy:=VP ρ aB (n.den ρ 0).toNat (i.den ρ 0).toNat cC;obtain⟨a,cp,hv⟩:=oe hS (by omega);refine⟨?_,rfl⟩;simp only[SV.val,gC,hv];refine od dZ _ (SV.aq ρ y) (by rw[h1,List.length_take,List.length_drop];omega) ?_ _ (oV ρ hx);intro m u hu;have hu':((aL ρ (n.den ρ 0).toNat aB).drop ((i.den ρ 0).toNat*s+c))[m]? =some u:=by
       rw[h1,h3,<-Jy,<-hs]at hu;rw[List.getElem?_take]at hu;split at hu
       .rw [List.getElem?_drop,List.getElem?_take]at hu;split at hu
        .rw [List.getElem?_drop]at hu;rw[List.getElem?_drop,<-hu];congr 1;omega
        .cases hu
       .cases hu
      obtain⟨a',m',cp',tI,_,mG⟩:=Gm hS _ m u hu';rw[hv]at tI;cases tI;exact mG
     .cases h
    .cases h
   .cases h
  .cases h
 .cases h
theorem jg(b:Nat): ∀(vs:List Value) (o:Nat) (w:World),(w.setCells b o vs).heap.size=w.heap.size
 | [],_,_=>rfl
 | v::r,o,w=>by rw[World.setCells,jg b r];simp[World.setCell]
theorem jh(b:Nat): ∀(vs:List Value) (o:Nat) (w:World),jm w (w.setCells b o vs)
 | [],_,w=>jm.refl w
 | v::r,o,w=>by
  rw[World.setCells];exact jm.trans (b:=w.setCell ⟨b,o,none⟩ v) ⟨rfl,rfl,rfl,by simp[World.setCell]⟩ (jh b r (o+1) _)
theorem ig(b:Nat): ∀(vs:List Value) (o:Nat) (w:World) (k:Nat),k≠b->(w.setCells b o vs).heap[k]? =w.heap[k]?
 | [],_,_,_,_=>rfl
 | v::r,o,w,k,hk=>by
  rw[World.setCells,ig b r (o+1) _ k hk];simp only[World.setCell,Array.getElem?_modify];rw[if_neg (by omega)]
theorem qi{b:Nat}{cs vs:List Value}{S:Nat->Prop}(h:(ak b true cs).p w S)(c:Nat)(hl:c+vs.length<=cs.length)
  (h1: ∀u∈vs,u.oneCell'=true):
  (storeCells ⟨b,c,none⟩ vs).run P w= .ok () (w.setCells b c vs)/\(ak b true (cs.take c++vs++cs.drop (c+vs.length))).p (w.setCells b c vs) S:=by
 obtain⟨hS,ty,fz,hg,hf⟩:=h;have hfz:=hf rfl;subst hfz;have mG: ∀j,j<vs.length->(w.cell? ⟨b,c+j,none⟩).isSome=true:=λj hj=>by
  rw[cell_of_row w b (c+j) _ ty (0,0) hg];simp;omega
 have YM: ∀j,j<vs.length->w.frozen? ⟨b,c+j,none⟩=false:=λj hj=>by
  simp[World.frozen?,hg]
 have r1:=run_storeCells_cells (P:=P) b c vs 0 w (by simpa using mG) (by simpa using YM) h1;have r2:=run_storeCells_at (P:=P) b c ty vs 0 cs.toArray w hg (by simp;omega) h1;simp only[Nat.add_zero]at r1 r2;have e:w.setCells b c vs=w.setRow b (cs.take c++vs++cs.drop (c+vs.length)).toArray:=by
  rw[r1]at r2;injection r2
 exact⟨r1,hS,ty,(0,0),by rw[e];exact setRow_heap w b _ _ ty _ hg,λ_=>rfl⟩
theorem QH{α:Type}(l vs:List α)(c N:Nat)(h:c+vs.length<=N)(hN:N<=l.length):
  (l.take c++vs++l.drop (c+vs.length)).take N=(l.take N).take c++vs++(l.take N).drop (c+vs.length):=by
 rw[List.take_append,List.take_of_length_le (l:=l.take c++vs) (by simp;omega),List.take_take,Nat.min_eq_left (by omega),List.drop_take];congr 2;simp;omega
theorem yG(l vs:List Value)(o c k:Nat)(hc:c+vs.length<=k)(hk:o+k<=l.length):
  ((l.take (o+c)++vs++l.drop (o+c+vs.length)).drop o).take k=((l.drop o).take k).take c++vs++((l.drop o).take k).drop (c+vs.length):=by
 have e1:(l.take (o+c)++vs++l.drop (o+c+vs.length)).drop o=(l.drop o).take c++vs++(l.drop o).drop (c+vs.length):=by
  rw[ayl,List.drop_append_of_le_length (by simp;omega),List.drop_take,Nat.add_sub_cancel_left,ayl,List.drop_drop,Nat.add_assoc]
 rw[e1];exact QH (l.drop o) vs c k hc (by simp;omega)
theorem jH(g o:Nat)(t:TypeId)(fz:Nat×Nat): ∀(vs:List Value) (i:Nat) (cur:Array Value) (w:World),w.heap[g]? =some (.cells cur t fz)->tQ cur.size fz->o+i+vs.length<=cur.size->(∀v∈vs,v.oneCell'=true)->
  (storeCells ⟨g,o,none⟩ vs i).run P w= .ok () (w.setRow g (cur.toList.take (o+i)++vs++cur.toList.drop (o+i+vs.length)).toArray)
 | [],i,cur,w,hg,_,_,_=>by
  simp only[storeCells,List.append_nil,aya,Nat.add_zero,List.take_append_drop,Array.toArray_toList];rw[setRow_self w g cur t fz hg];rfl
 | v::rest,i,cur,w,hg,hz,hl,h1=>by
  have hi:o+i<cur.size:=by simp at hl;omega
  have ajN:(⟨g,o,none⟩:Addr).add i=⟨g,o+i,none⟩:=by unfold Addr.add;split<;>simp_all
  have mG:w.cell? ⟨g,o+i,none⟩=some cur[o+i]:=by simp[World.cell?,hg,hi]
  have ajO:w.frozen? ⟨g,o+i,none⟩=false:=by
   simp only[World.frozen?,hg];exact hz.off hi
  have rY:(store ((⟨g,o,none⟩:Addr).add i) v).run P w= .ok () (w.setRow g (cur.setIfInBounds (o+i) v)):=by
   rw[ajN,run_store P w _ v _ (h1 v (by simp)),mG];simp[ajO,setCell_eq_setRow w g (o+i) cur t fz v hg]
  have ih:=jH g o t fz rest (i+1) (cur.setIfInBounds (o+i) v) (w.setRow g (cur.setIfInBounds (o+i) v)) (setRow_heap w g cur _ t _ hg) (by simpa using hz) (by simp at hl ⊢;omega) (λx hx=>h1 x (by simp[hx]));simp only[storeCells,ax9,rY,ax0,ih,setRow_setRow];congr 3;have e:=list_seg_step cur.toList (o+i) v rest (by simp at hl ⊢;omega);simpa[Array.toList_setIfInBounds,Nat.add_assoc] using e
theorem Du{t s n:Nat}{v:Value}{cs vs:List Value}{S:Nat->Prop}(h:(aA true t s v n cs).p w S)(c:Nat)(hl:c+vs.length<=cs.length)
  (fL:0<vs.length) (h1: ∀u∈vs,u.oneCell'=true):
  ∃g o w',gC v c= .pointer (some ⟨g,o,none⟩)/\S g/\(storeCells ⟨g,o,none⟩ vs).run P w= .ok () w'/\jm w w'/\w'.heap.size=w.heap.size/\
   (∀k,k≠g->w'.heap[k]? =w.heap[k]?)/\(aA true t s v n (cs.take c++vs++cs.drop (c+vs.length))).p w' S:=by
 obtain⟨h0,hS⟩:=h;simp only[if_true]at h0;obtain⟨hlen,hr⟩:=h0;rcases hr with⟨_,rfl⟩ | ⟨g,o,cap,cur,rfl,⟨t',fz,hg,hz⟩,Jr,ZX,nY,vA⟩
 .rw [Nat.zero_mul]at hlen;omega
 .have hns:n*s<=cap*s:=Nat.mul_le_mul_right _ Jr;have nY:=nY (by
   apply Nat.pos_of_ne_zero;rintro rfl;rw[Nat.zero_mul]at hns;omega)
  have QI:o+c+vs.length<=cur.size:=by omega
  have rY:=jH (P:=P) g (o+c) t' fz vs 0 cur w hg hz (by simpa using QI) h1;simp only[Nat.add_zero]at rY;refine⟨g,o+c,_,by simp[gC,jF],(hS g).2 ⟨by simp[Value.ownBlock],.inl rfl⟩,rY,⟨rfl,rfl,rfl,by simp⟩,by simp,λk hk=>setRow_other w g k _ hk,?_,hS⟩;simp only[if_true];refine⟨by simp;omega,.inr ⟨g,o,cap,_,rfl,⟨t',fz,setRow_heap w g cur _ t' _ hg,by refine Eq.mp (congrArg (tQ · fz) ?_) hz;simp;omega⟩,Jr,ZX,?_,?_⟩⟩
  .simp only[List.size_toArray,axP,List.length_take,List.length_drop,Array.length_toList];intro _;omega
  .rw [<-vA];simp only;exact yG _ vs o c (n*s) (by omega) (by simp;omega)
theorem rZ{ti:TI}(h:lY P ti)(a:Addr)(v:Value)(vs:List Value)(hv:v.cells.toList=vs)(hl:vs.length=ti.size){w':World}
  (hr:(storeCells a vs).run P w= .ok () w'):(Instr.storeAt ti.t (.pointer (some a)) v).run P w= .ok () w':=by
 have jR:v.cells.size=ti.size:=by rw[<-hl,<-hv];simp
 simp[Instr.storeAt,Instr.sureAddr,storeVar,h.sizeOf w,jR,hv,hr]
structure Dv (P:Program) (w:World) (ρ:Env) (hp:List Ck) (S:Nat->Nat->Prop) (j:Nat) (ck:Ck) (w':World):Prop where
 old: ∃VR,hp[j]? =some VR/\(VR.den ρ).wr=true
 wr:j=j
 same:jm w w'
 size:w'.heap.size=w.heap.size
 ZW: ∀k,¬S j k->w'.heap[k]? =w.heap[k]?
 now:(ck.den ρ).p w' (S j)
theorem AI{hp:List Ck}{ti:TI}(dZ:lY P ti){v x:SV}{res:jf}(h:AJ hp ti.size v x=some res)(iW:ρ.Ok)
  {S:Nat->Nat->Prop} (dF:Reads hp ρ w S res.rd) (cA: ∀b∈res.vcs,b.prop ρ):
  res.val= .undef/\∃j ck,res.jE= .set j ck/\∃w',(Instr.storeAt ti.t (x.val ρ) (v.val ρ)).run P w= .ok () w'/\Dv P w ρ hp S j ck w':=by
 unfold AJ at h;split at h
 .rename_i b c;split at h
  .rename_i j b' cs vs hf I_;obtain⟨hj,er⟩:=eV hf;simp only[Ck.xA,beq_iff_eq]at er;subst er;obtain⟨e1,e2⟩:=kr ρ I_ iW;split at h
   .rename_i hlen;rw[axV]at h;obtain⟨qE,ajP,rfl⟩:=h;refine⟨rfl,j,_,rfl,?_⟩;have hS:=dF j (by simp) _ hj;obtain⟨h1,h2⟩:=np ρ ajP;obtain⟨h3,h4⟩:=qi (P:=P) hS c h2 e2;refine⟨_,rZ dZ _ _ _ e1 (by rw[bJ];exact hlen) h3,⟨⟨_,hj,rfl⟩,rfl,jh _ _ _ _,jg _ _ _ _,?_,?_⟩⟩
    .intro k hk;exact ig _ _ _ _ _ (λe=>hk ((hS.1 k).2 e))
    .simp only[Ck.den,h1];exact h4
   .cases h
  .cases h
 .rename_i b i s c;split at h
  .rename_i j b' cs k e hf I_;obtain⟨hj,er⟩:=eV hf;simp only[Ck.xA,beq_iff_eq]at er;subst er;obtain⟨e1,e2⟩:=kr ρ I_ iW;split at h
   .rename_i hc;obtain⟨rfl,jR⟩:=hc;split at h
    .rename_i pre k' n a post Z1;split at h
     .rename_i hk;subst hk;simp only[axU]at h;subst h;refine⟨rfl,j,_,rfl,?_⟩;have hS:=dF j (by simp) _ hj;obtain⟨h1,h2⟩:=yF (ρ:=ρ) Z1;obtain⟨PW,PX⟩:=dR ρ cA;simp only[E.den]at PX;have cC:(i.den ρ 0).toNat<n:=by omega
      have hvl:(SV.aq ρ [SV.int k e])=[.int k (e.den ρ 0)]:=rfl;rw[hvl]at e1 e2;have fO:c+(i.den ρ 0).toNat+1<=(SV.aq ρ cs).length:=by rw[h1];simp[aH];omega
      obtain⟨h3,h4⟩:=qi (P:=P) (vs:=[.int k (e.den ρ 0)]) hS (c+(i.den ρ 0).toNat) (by simpa using fO) e2;refine⟨_,by rw[show SV.val ρ (.rL b i 1 c)= .pointer (some ⟨ρ.bv.getD b 0,c+(i.den ρ 0).toNat,none⟩) by simp[SV.val,Nat.add_comm]];exact rZ dZ _ _ _ e1 (by simpa using jR.symm) h3,
       ⟨⟨_,hj,rfl⟩,rfl,jh _ _ _ _,jg _ _ _ _,?_,?_⟩⟩
      .intro k' kX;exact ig _ _ _ _ _ (λe=>kX ((hS.1 k').2 e))
      .simp only[Ck.den];have:SV.aq ρ (pre++ .jD k n (.oL a i e)::post)=(SV.aq ρ cs).take (c+(i.den ρ 0).toNat)++[.int k (e.den ρ 0)]++(SV.aq ρ cs).drop (c+(i.den ρ 0).toNat+1):=by
        rw[je,h1];simp only[SV.aq,SV.cells];have hlp:(SV.aq ρ pre).length=c:=h2;generalize SV.aq ρ pre=A at hlp ⊢;generalize SV.aq ρ post=B;rw[ayl A,List.take_append,List.take_of_length_le (l:=A) (by omega),hlp,show c+(i.den ρ 0).toNat - c=(i.den ρ 0).toNat by omega,
         List.drop_append,List.drop_of_length_le (l:=A) (by omega),hlp,show c+(i.den ρ 0).toNat+1 - c=(i.den ρ 0).toNat+1 by omega,
         List.take_append_of_le_length (by rw[aH];omega),List.drop_append_of_le_length (by rw[aH];omega),List.nil_append]
        simp only[ayl];congr 1;apply List.ext_getElem?;intro m;by_cases hm:m<n
        .rw [axX (by rw[aH];exact hm),bL,if_pos hm];simp only[E.den];rcases Nat.lt_trichotomy m (i.den ρ 0).toNat with ajR | heq | hgt
         .rw [if_neg (by omega),axX (by simp[aH];omega),List.getElem?_take_of_lt ajR,bL,if_pos hm]
         .subst heq;rw[if_pos rfl,axY (by simp[aH];omega)];simp[aH,Nat.min_eq_left (Nat.le_of_lt hm)]
         .rw [if_neg (by omega),axY (by simp[aH];omega)];simp only[List.length_take,aH,Nat.min_eq_left (Nat.le_of_lt cC)];obtain⟨d,rfl⟩: ∃d,m=(i.den ρ 0).toNat+1+d:=⟨m - (i.den ρ 0).toNat - 1,by omega⟩;rw[show(i.den ρ 0).toNat+1+d - (i.den ρ 0).toNat=d+1 by omega,List.singleton_append,List.getElem?_cons_succ,axX (by simp[aH];omega),
           List.getElem?_drop,bL,if_pos (by omega)]
        .rw [axY (by rw[aH];omega),aH,axY (by simp[aH];omega)];simp only[List.length_take,aH,Nat.min_eq_left (Nat.le_of_lt cC)];obtain⟨d,rfl⟩: ∃d,m=n+d:=⟨m - n,by omega⟩;rw[show n+d - (i.den ρ 0).toNat=(n - (i.den ρ 0).toNat - 1)+d+1 by omega,List.singleton_append,List.getElem?_cons_succ,
          axY (by simp[aH];omega)]
         congr 1;simp[aH];omega
       rw[this];exact h4
     .cases h
    .cases h
   .cases h
  .cases h
 .rename_i xv i s c;split at h
  .rename_i j v' t s' n aB vs hf I_;obtain⟨hj,er⟩:=dy hf;simp only[Ck.og,beq_iff_eq]at er;subst er;obtain⟨e1,e2⟩:=kr ρ I_ iW;split at h
   .rename_i hc;obtain⟨rfl,hs,uC,hlen⟩:=hc;rw[axV]at h;obtain⟨aS,g_,rfl⟩:=h;refine⟨rfl,j,_,rfl,?_⟩;have hS:=dF j (by simp) _ hj;obtain⟨PW,PX⟩:=dR ρ cA;have cC:(i.den ρ 0).toNat<(n.den ρ 0).toNat:=by omega
    obtain⟨p1,p2,p3,p4⟩:=tT ρ g_;have nq:=VQ s (λ(i:Nat)=>rowAt ρ aB i) (λ(i:Nat)=>rowAt ρ aS i) (λi=>by rw[dU];exact hs.symm) (λi=>by rw[dU,p1];exact hs.symm)
     (n.den ρ 0).toNat (i.den ρ 0).toNat c (SV.aq ρ vs) cC (by rw[hs];exact p2) p3 p4
    have hvl:(SV.aq ρ vs).length=ti.size:=by rw[bJ];exact hlen
    have hbound:(i.den ρ 0).toNat*s+c+(SV.aq ρ vs).length<=(aL ρ (n.den ρ 0).toNat aB).length:=by
     rw[eL,<-hs];have:=Nat.mul_le_mul_right s (Nat.succ_le_of_lt cC);rw[Nat.succ_mul]at this;omega
    obtain⟨g,o,w',g1,g2,g3,g4,g5,g6,g7⟩:=Du (P:=P) hS _ hbound (by omega) e2;refine⟨w',?_,⟨⟨_,hj,rfl⟩,rfl,g4,g5,?_,?_⟩⟩
    .rw [show SV.val ρ (.pv xv i s c)=gC (ρ.vv.getD xv V1.nil).v ((i.den ρ 0).toNat*s+c)from rfl,g1];exact rZ dZ _ _ _ e1 hvl g3
    .intro k hk;exact g6 k (λe=>hk (e▸g2))
    .simp only[Ck.den];rw[show aL ρ (n.den ρ 0).toNat aS=(List.range (n.den ρ 0).toNat).flatMap λi=>rowAt ρ aS i from rfl,nq];exact g7
   .cases h
  .cases h
 .cases h
end
end Go.RX
