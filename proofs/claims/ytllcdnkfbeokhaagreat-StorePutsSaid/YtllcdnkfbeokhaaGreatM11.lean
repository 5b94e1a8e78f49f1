/- Executor. -/
import Derived.Test.YtllcdnkfbeokhaaGreatRxOf
open Array renaming getElem?_eq_some_iff -> ax1, getElem?_toList -> ayt
open Bool renaming and_eq_true -> ai
open Go.Builtin renaming append_ -> ayA
open Go.Result renaming andThen_ok -> ax0
open Go.Sem renaming run_bind -> ax9, run_pure -> ayj
open Go.Value renaming int -> ayD
open Int renaming toNat -> ag, toNat_natCast -> ax3
open List renaming eq_nil_of_length_eq_zero -> aye, getElem?_eq_getElem -> ays, getElem?_eq_some_iff -> axT, length_cons -> ax5, length_nil -> aya, mem_append -> ax_, mem_of_getElem? -> ayh, mem_singleton -> ax2
open Option renaming map_eq_some_iff -> axV
open Option.some renaming injEq -> axU
namespace Go.RX
section
variable {P:Program} {ρ:Env} {w:World} {look:Nat->Option SV} {bF:Operand->Value} {hp:List Ck} {S:Nat->Nat->Prop} {nb nv:Nat} {T:List TI}
theorem NO{a:E}{i:Nat}{x:Int}(h:QQ a i=some x):a.den ρ i=x:=by
 unfold QQ at h;split at h
 .rename_i n hn;cases h;have:=dp ρ a (.lit i) 0;rw[hn]at this;simp only[E.den,ax3]at this;exact this.symm
 .cases h
theorem uH{a:E}: ∀{n:Nat} {l:List Int},xH a n=some l->l=(List.range n).map (a.den ρ)
 | 0,l,h=>by simp[xH]at h;subst h;rfl
 | n+1,l,h=>by
  unfold xH at h;split at h
  .rename_i l' x h1 h2;cases h;rw[List.range_succ,List.map_append,<-uH h1];simp[NO h2]
  .cases h
theorem o3(n:Nat)(a:E):((Lu n a).den ρ 0)=(aT ((List.range n).map (a.den ρ)):Nat):=by
 unfold Lu;split
 .rename_i l h;rw[<-uH h];rfl
 .rfl
theorem sq: ∀{l:List jt} {kl:List IntKind},uI l=some kl->l=kl.map some
 | [],kl,h=>by simp[uI]at h;subst h;rfl
 | some k::r,kl,h=>by
  simp only[uI,axV]at h;obtain⟨x,hx,rfl⟩:=h;rw[sq hx];rfl
 | none::r,kl,h=>by simp[uI]at h
theorem pE(hT:bD P T=true){t:Nat}{tk:TI}(ht:aV T t=some tk){kl:List IntKind}{ka:Bool}(h:qp tk=some (kl,ka)):Ex P t kl ka:=by
 obtain⟨rfl,dZ⟩:=aE hT ht;have eJ:=dZ.kind;unfold qp at h;split at h
 .rename_i k hk;cases h;rw[hk]at eJ;have hu:=qm eJ;exact⟨by simp[g9,hu],λ_=>⟨k,rfl,hu⟩,λh=>(by cases h)⟩
 .rename_i fs hk;split at h
  .cases h
  .rename_i fL;rw[axV]at h;obtain⟨l,hl,he⟩:=h;cases he;rw[hk]at eJ;obtain⟨fa,hu,_⟩:=oX eJ;rcases dZ.lay with h | ⟨h,_⟩
   .exact absurd h fL
   .rw [sq hl]at h;exact⟨h,λh=>(by cases h),λ_=>⟨λcs=>by simp[FU,hu],by simp[hu]⟩⟩
 .rename_i n e hk;split at h
  .cases h
  .rename_i fL;rw[axV]at h;obtain⟨l,hl,he⟩:=h;cases he;rw[hk]at eJ;have hu:=ql eJ;rcases dZ.lay with h | ⟨h,_⟩
   .exact absurd h fL
   .rw [sq hl]at h;exact⟨h,λh=>(by cases h),λ_=>⟨λcs=>by simp[FU,hu],by simp[hu]⟩⟩
 .cases h
theorem ns{ka:Bool}{k:SV}{kc:List SV}(h:ss ka k=some kc){kl:List IntKind}{ks:List Int}(hk:ks.length=kl.length)(h1:ka=false->∃k,kl=[k])(hc:SV.aq ρ kc=zX kl ks):k.val ρ=eG ka kl ks:=by
 unfold ss at h;split at h
 .cases h;simp only[SV.val,hc,vR]
 .rename_i q e;cases h;obtain⟨k0,rfl⟩:=h1 rfl
  match ks,hk,hc with
  | [x],_,hc=>
   have hc:[ayD q (e.den ρ 0)]=[ayD k0 x]:=hc;simp only[List.cons.injEq,and_true]at hc;exact hc
 .cases h
theorem su{d:Option TypeDesc}{k v:Nat}(h:ku d (.map k v)=true):d=some (.map k v):=by
 unfold ku at h;split at h<;>simp_all
theorem fF{hp:List Ck}{b j:Nat}{ck:Ck}(h:nu hp b=some (j,ck)):hp[j]? =some ck/\ck.isMap b=true:=by
 unfold nu at h;split at h
 .rename_i i hi;rw[axV]at h;obtain⟨c,hc,he⟩:=h;cases he;refine⟨hc,?_⟩;rw[List.findIdx?_eq_some_iff_getElem]at hi;obtain⟨cC,h1,_⟩:=hi;rw[ays cC]at hc;cases hc;exact h1
 .cases h
theorem AX{te:TI}{z:List bU}(h:xI T te=some z): ∀i:Nat,rowAt ρ z i=SV.aq ρ te.zero:=by
 unfold xI at h;split at h
 .split at h
  .rename_i hz;cases h;simp only[ai,List.isEmpty_iff]at hz;intro i;rw[hz.1];rfl
  .cases h
 .exact λi=>(kx h).1 i
theorem cz: ∀{a b:List SV},fh a b=true->SV.aq ρ a=SV.aq ρ b
 | [],[],_=>rfl
 | [],_::_,h=>by simp[fh]at h
 | v::r,[],h=>by cases v<;>simp[fh]at h
 | v::r,u::s,h=>by
  unfold fh at h;split at h
  .rename_i h1 _;cases h1
  .rename_i h1 h2;cases h1;cases h2;simp only[ai,beq_iff_eq]at h;obtain⟨⟨rfl,rfl⟩,h⟩:=h;simp only[SV.aq,cz h]
  .rename_i h1 h2;cases h1;cases h2;simp only[ai,beq_iff_eq]at h;obtain⟨rfl,h⟩:=h;simp only[SV.aq,cz h]
  .rename_i h1 h2;cases h1;cases h2;simp only[ai,beq_iff_eq]at h;obtain⟨⟨⟨rfl,rfl⟩,rfl⟩,h⟩:=h;simp only[SV.aq,cz h]
  .rename_i h1 h2;cases h1;cases h2;simp only[SV.aq,cz h]
  .rename_i h1 h2;cases h1;cases h2;simp only[SV.aq,cz h]
  .rename_i h1 h2;cases h1;cases h2;simp only[SV.aq,cz h]
  .rename_i h1 h2;cases h1;cases h2;simp only[SV.aq,cz h]
  .rename_i h1 h2;cases h1;cases h2;simp only[SV.aq,cz h]
  .rename_i h1 h2;cases h1;cases h2;simp only[ai,beq_iff_eq]at h;obtain⟨rfl,h⟩:=h;simp only[SV.aq,cz h]
  .cases h
theorem GB{k:Nat}{v:List SV}: ∀{es:List (Nat×List SV)} {q:Nat},r8 (jB k v es) q=if q=k then true else r8 es q
 | [],q=>by simp only[jB,r8,eq_comm]
 | (i,u)::r,q=>by
  simp only[jB];split
  .rename_i h;subst h;simp only[r8,eq_comm];split<;>rfl
  .rename_i h;simp only[r8];split
   .rename_i h2;subst h2;rw[if_neg h]
   .exact GB
theorem GC{k:Nat}{v z:List SV}: ∀{es:List (Nat×List SV)} {q:Nat},oP (jB k v es) z q=if q=k then v else oP es z q
 | [],q=>by simp only[jB,oP,eq_comm]
 | (i,u)::r,q=>by
  simp only[jB];split
  .rename_i h;subst h;simp only[oP,eq_comm];split<;>rfl
  .rename_i h;simp only[oP];split
   .rename_i h2;subst h2;rw[if_neg h]
   .exact GC
theorem xJ(_:bD P T=true)(Er:ρ.bv.length=nb){t:Nat}{res:jf}(h:uJ T nb t=some res):
  Did P ρ w hp S nb nv ((do pure (.value (<-Instr.makeMap t none)):Sem Next).run P w) res:=by
 unfold uJ at h;split at h
 .rename_i kt vt sz by_ zr ly ji;split at h
  .rename_i tk tv Ds htv;split at h
   .rename_i kl ka aB hk hz;cases h;refine⟨w.alloc (.map #[] 0),_,if_pos rfl,?_,⟨rfl,rfl,rfl,by simp⟩,by simp,λk hk=>heap_alloc_old w _ hk,⟨λk=>Iff.rfl,⟨#[],0,heap_alloc_new w _,?_⟩,?_⟩,⟨#[],0,heap_alloc_new w _,rfl⟩,λes clock he=>?_⟩
    .subst Er;simp[Instr.makeMap,SV.val,kY]
    .refine⟨by simp,by simp,λks _ hh=>by simp[E.den]at hh⟩
    .intro ks _ _;split at hz
     .cases hz
     .exact AX (ρ:=ρ) hz _
    .rw [heap_alloc_new]at he;injection he with he
     injection he with he hc
     subst he hc;exact⟨⟨rfl,λi e h=>by simp at h⟩,λks _=>⟨Int.le_refl 0,λh=>by simp[E.den]at h⟩⟩
   .rename_i kl ka hk hz;cases h;refine⟨w.alloc (.map #[] 0),_,if_pos rfl,?_,⟨rfl,rfl,rfl,by simp⟩,by simp,λk hk=>heap_alloc_old w _ hk,⟨λk=>Iff.rfl,⟨#[],0,heap_alloc_new w _,?_⟩,?_⟩⟩
    .subst Er;simp[Instr.makeMap,SV.val,kY]
    .refine⟨by simp,by simp,λks _ hh=>by simp[r8]at hh⟩
    .intro ks _ _;rfl
   .cases h
  .cases h
 .cases h
theorem ny{agg:Bool}{cs:List SV}{v:SV}(h:jP agg cs=some v):v.val ρ=xr agg (SV.aq ρ cs):=by
 obtain⟨h1,h2⟩:=oV ρ h;cases agg with
 | true=>rw[h1 rfl];rfl
 | false=>have:=h2 rfl;rw[this];rfl
theorem GD{ti:TI}(dZ:lY P ti){i:TypeInfo}{z:Value}(hi:P.info? ti.t=some i)(hz:i.zero=some z)(hc:SV.aq ρ ti.zero=z.cells.toList):xr ti.k.agg (SV.aq ρ ti.zero)=z:=by
 have hg:=dZ.zag i z hi hz;rw[hc];cases z with
 | agg cs=>simp only at hg;rw[hg];simp[xr,Value.cells]
 | _=>simp only[Bool.not_eq_true']at hg;rw[hg];simp[xr,Value.cells]
theorem zI(hT:bD P T=true){t:Nat}{x k:SV}{comma:Bool}{res:jf}(h:xK T hp t x k comma=some res)(dF:Reads hp ρ w S res.rd):
  (Instr.lookup t (x.val ρ) (k.val ρ) comma).run P w= .ok (res.val.val ρ) w/\res.jE= .none:=by
 unfold xK at h;split at h
 .rename_i kt vt sz by_ zr ly ji;obtain⟨ht,dZ⟩:=aE hT ji;have hm:P.underlying t=some (.map kt vt):=by
   have:=dZ.kind;rw[<-ht];exact su this
  split at h
  .rename_i tk tv Ds htv;obtain⟨rfl,QR⟩:=aE hT htv;obtain⟨iv,hiv,_,_,z,hz,Gt⟩:=QR.info;have hzr:(zeroValue tv.t).run P w= .ok z w:=by simp[zeroValue,typeInfo,hiv,hz]
   have Vj:=GD (ρ:=ρ) QR hiv hz (Gt ρ);split at h
   .rename_i kl ka eJ;have hK:=pE hT Ds eJ;split at h
    .rename_i kc hkc;split at h
     .rename_i JH a rM;split at h
      .cases h
      .rename_i Ny;simp only[ne_eq,Decidable.not_not]at Ny;subst Ny;have VZ:=ns (ρ:=ρ) (ks:=(List.range JH.length).map (a.den ρ)) hkc (by simp) (λhk=>by obtain⟨k,h1,_⟩:=hK.one hk;exact⟨k,h1⟩) (kN rM);split at h
       .rw [axV]at h;obtain⟨v,hv,rfl⟩:=h;refine⟨?_,rfl⟩;have Ey:=ny (ρ:=ρ) hv;rw[Vj]at Ey;rw[VZ];have:=AY (P:=P) (w:=w) hm hK (ks:=(List.range JH.length).map (a.den ρ)) (comma:=comma) (by simp) hzr;show(Instr.lookup t (.map none) _ comma).run P w=_;rw[this];cases comma<;>simp[SV.val,SV.bF,Ey,BE.den]
       .rename_i b;split at h
        .rename_i j b' nB zJ z_ Dy has aB hf;split at h
         .rename_i iD;obtain⟨rfl,rfl,rfl,xD⟩:=iD;split at h
          .rename_i es zZ;rw[axV]at h;obtain⟨v,hv,rfl⟩:=h;refine⟨?_,rfl⟩;obtain⟨hj,er⟩:=fF hf;simp only[Ck.isMap,beq_iff_eq]at er;subst er;have hS:=dF j (by simp) _ hj;have nY:=oc ρ zZ;rw[o3,ax3]at nY;have Ey:=ny (ρ:=ρ) hv;rw[nY]at Ey;rw[VZ];have hz2:=cz (ρ:=ρ) xD;rw[<-hz2]at Vj;have:=sv (P:=P) (w:=w) hm hK (ks:=(List.range nB.length).map (a.den ρ)) (comma:=comma) (by simp) hS.1 hzr Vj;show(Instr.lookup t (.map (some (ρ.bv.getD b 0))) _ comma).run P w=_;rw[this];cases comma with
           | false=>simp only[Bool.false_eq_true,if_false,Ey]
           | true=>
            simp only[if_true,SV.val,SV.bF,Ey,zW,dp,o3,ax3]
          .cases h
         .cases h
        .rename_i j b' nB zJ z_ Dy es hf;split at h
         .rename_i iD;obtain⟨rfl,rfl,rfl,xD⟩:=iD;split at h
          .rename_i n aac;rw[axV]at h;obtain⟨v,hv,rfl⟩:=h;refine⟨?_,rfl⟩;obtain⟨hj,er⟩:=fF hf;simp only[Ck.isMap,beq_iff_eq]at er;subst er;have hS:=dF j (by simp) _ hj;rw[Ck.mJ]at hS;have PZ:n.toNat=aT ((List.range nB.length).map (a.den ρ)):=by
            have:=o3 (ρ:=ρ) nB.length a;rw[aac]at this;simp only[E.den]at this;rw[this,ax3]
           have Ey:=ny (ρ:=ρ) hv;rw[PZ]at Ey;rw[VZ];have hz2:=cz (ρ:=ρ) xD;rw[<-hz2]at Vj;have:=sv (P:=P) (w:=w) hm hK (ks:=(List.range nB.length).map (a.den ρ)) (comma:=comma) (by simp) hS hzr Vj;show(Instr.lookup t (.map (some (ρ.bv.getD b 0))) _ comma).run P w=_;rw[this];cases comma with
           | false=>simp only[Bool.false_eq_true,if_false,Ey]
           | true=>simp only[if_true,SV.val,SV.bF,Ey,BE.den,PZ]
          .cases h
         .cases h
        .cases h
       .cases h
     .cases h
    .cases h
   .cases h
  .cases h
 .cases h
theorem xL{v:SV}{vs:List SV}(h:fA v=some vs):v.val ρ=xr (AZ v) (SV.aq ρ vs):=by
 cases v with
 | agg cs=>
  simp only[fA]at h;split at h
  .cases h;rfl
  .cases h
 | jD k n a=>
  simp only[fA,SV.one,if_true,axU]at h;subst h;simp[SV.val,SV.aq,SV.cells,AZ,xr]
 | opt c v=>simp[fA,SV.one]at h
 | undef=>simp[fA,SV.one]at h
 | oH vs=>simp[fA,SV.one]at h
 | _=>
  simp only[fA,SV.one,if_true,axU]at h;subst h;rfl
theorem mi: ∀{l:List Int},l≠[]->0<aT l:=by
 intro l hl;rcases List.eq_nil_or_concat l with rfl | ⟨l,c,rfl⟩
 .exact absurd rfl hl
 .rw [List.concat_eq_append,aT,List.foldl_append];simp only[List.foldl_cons,List.foldl_nil,uw];exact Nat.mul_pos (by omega) (Nat.two_pow_pos _)
theorem QS{b:Nat}{kl:List IntKind}{ka va:Bool}{zero:List Value}{f f':Nat->Int}{A_:Nat->Bool}{row GF:Nat->List Value}{w w':World}{S:Nat->Prop}{ks:List Int}
  (hS:(pA b kl ka va zero f row).p w S) (r5:(vB b kl ka va zero A_ GF).p w' S) (hk:ks.length=kl.length)
  (hh: ∀q,A_ q=if q=aT ks then true else !(f q==0)) (hf: ∀q,f' q=if q=aT ks then 1 else if q=0 then f 0+1 - min (f (aT ks)) 1 else f q)
  (r6: ∀es clock,w.heap[b]? =some (.map es clock)->∃CW sx,w'.heap[b]? =some (.map CW sx)/\(CW.size:Int)=es.size+(if !(f (aT ks)==0)then 0 else 1)/\Grown es clock CW sx):
  (pA b kl ka va zero f' GF).p w' S:=by
 obtain⟨h1,⟨Ez,cl0,YR,hc0⟩,h01⟩:=hS;have hz: ∀m:List Int,m.length=kl.length->aT m≠aT ks->aT m≠0:=by
  intro m hm fL h0;by_cases NL:m=[]
  .subst NL;have:ks=[]:=aye (by rw[hk,<-hm];rfl);exact fL (by rw[this])
  .exact absurd h0 (Nat.ne_of_gt (mi NL))
 have gp: ∀m:List Int,m.length=kl.length->(!(f' (aT m)==0))=A_ (aT m):=by
  intro m hm;rw[hh,hf];by_cases he:aT m=aT ks
  .rw [if_pos he,if_pos he];rfl
  .rw [if_neg he,if_neg he,if_neg (hz m hm he)]
 refine⟨⟨r5.1,?_,?_⟩,?_,?_⟩
 .obtain⟨es,cl,hb,hm⟩:=r5.2.1;refine⟨es,cl,hb,⟨λe he=>?_,hm.once,λm hml P0=>hm.all m hml (by rw[<-gp m hml];exact P0)⟩⟩;obtain⟨m,m1,m2,m3,m4⟩:=hm.keys e he;exact⟨m,m1,m2,by rw[gp m m1];exact m3,m4⟩
 .intro m hm hf0;exact r5.2.2 m hm (by rw[<-gp m hm];exact hf0)
 .obtain⟨CW,cl',P1,Z9,_⟩:=r6 Ez cl0 YR;refine⟨CW,cl',P1,?_⟩;have h01:=((h01 Ez cl0 YR).2 ks hk).1;rw[Z9,hf];by_cases h0:0=aT ks
  .have hks:ks=[]:=by
    by_cases hn:ks=[]
    .exact hn
    .exact absurd h0 (Nat.ne_of_lt (mi hn))
   have hle:Ez.size<=1:=by
    obtain⟨es,cl,hb,hm⟩:=h1.2.1;rw[YR]at hb;injection hb with hb
    injection hb with hb _
    subst hb;have Ny:kl=[]:=aye (by rw[<-hk,hks];rfl);rcases Nat.lt_or_ge 1 Ez.size with h | h
    .exfalso;obtain⟨m,m1,m2,_⟩:=hm.keys Ez[0] (by simp);obtain⟨n,n1,n2,_⟩:=hm.keys Ez[1] (by simp);have e1:m=[]:=aye (by rw[m1,Ny];rfl);have e2:n=[]:=aye (by rw[n1,Ny];rfl);have:=hm.once 0 1 Ez[0] Ez[1] (by simp) (by simp) (by rw[m2,n2,e1,e2]);omega
    .exact h
   rw[if_pos h0];rw[<-h0]at h01 ⊢;rw[hc0]at h01 ⊢;by_cases he:(Ez.size:Int)=0
   .rw [he];rfl
   .rw [show(Ez.size:Int)=1 by omega];rfl
  .rw [if_neg h0,if_pos rfl,hc0];by_cases he:f (aT ks)=0
   .rw [he];rfl
   .rw [show((f (aT ks))==0)=false by simpa using he,show min (f (aT ks)) 1=1 by omega];simp
 .intro es1 cl1 CJ;obtain⟨CW,cl',P1,Z9,hg⟩:=r6 Ez cl0 YR;rw[CJ]at P1;injection P1 with P1
  injection P1 with P1 fO
  subst P1 fO;obtain⟨⟨q1,q2⟩,q3⟩:=h01 Ez cl0 YR;obtain⟨hg1,YS⟩:=hg;refine⟨⟨?_,?_⟩,?_⟩
  .rcases hg1 with⟨a,b⟩ | ⟨a,b,_⟩<;>omega
  .intro i e hi;by_cases cC:i<Ez.size
   .obtain⟨e',h1,_,h3⟩:=YS i Ez[i] (by simp[cC]);rw[hi,axU]at h1;subst h1;rw[h3];exact q2 i Ez[i] (by simp[cC])
   .have hl:=(ax1.1 hi).1;rcases hg1 with⟨a,b⟩ | ⟨a,b,c⟩
    .omega
    .have:i=Ez.size:=by omega
     subst this;rw[c e hi,q1]
  .intro m hm;rw[hf];by_cases he:aT m=aT ks
   .rw [if_pos he];exact⟨by decide,λh=>by omega⟩
   .rw [if_neg he,if_neg (hz m hm he)];obtain⟨a,b⟩:=q3 m hm;refine⟨a,λh2=>?_⟩;obtain⟨e,h3,h4⟩:=b h2;obtain⟨e',h5,h6,_⟩:=YS _ e h3;exact⟨e',h5,by rw[h6,h4]⟩
theorem rE(hT:bD P T=true){t:Nat}{x k v:SV}{res:jf}(h:tf T hp t x k v=some res)(dF:Reads hp ρ w S res.rd):
  res.val= .undef/\∃j ck,res.jE= .set j ck/\∃w',(Instr.mapUpdate t (x.val ρ) (k.val ρ) (v.val ρ)).run P w= .ok () w'/\Dv P w ρ hp S j ck w':=by
 unfold tf at h;split at h
 .rename_i kt vt sz by_ zr ly ji;obtain⟨ht,dZ⟩:=aE hT ji;have hm:P.underlying t=some (.map kt vt):=by
   have:=dZ.kind;rw[<-ht];exact su this
  split at h
  .rename_i tk tv Ds htv;split at h
   .rename_i kl ka eJ;have hK:=pE hT Ds eJ;split at h
    .rename_i kc vs hkc I_;split at h
     .rename_i JH a b rM;split at h
      .rename_i j b' nB zJ z_ zero has aB hf;split at h
       .rename_i iD;obtain⟨rfl,rfl,rfl,Dz,hlen,zz⟩:=iD;split at h
        .rename_i aS nq;cases h;have VZ:=ns (ρ:=ρ) (ks:=(List.range nB.length).map (a.den ρ)) hkc (by simp) (λhk=>by obtain⟨k,h1,_⟩:=hK.one hk;exact⟨k,h1⟩) (kN rM);obtain⟨hj,er⟩:=fF hf;simp only[Ck.isMap,beq_iff_eq]at er;subst er;have hS:=dF j (by simp) _ hj;obtain⟨p1,p2,p3,p4⟩:=jQ ρ nq;rw[o3,ax3]at p3 p4;have Ey:=xL (ρ:=ρ) I_;rw[zz,<-Dz]at Ey;have QT:rowAt ρ aS (aT ((List.range nB.length).map (a.den ρ)))=SV.aq ρ vs:=by
          rw[p4,List.drop_eq_nil_of_le,List.append_nil];rw[show(rowAt ρ aB _).length=cm aB from dU ρ aB _,bJ];exact Nat.le_of_eq hlen.symm
         obtain⟨Ez,cl0,YR,hc0⟩:=hS.2.1
         let f':Nat->Int:=(E.oL (.oL has (.lit 0) (xx (fl (fc has (.lit 0)) (.lit 1)) (uA .jl .i64 (fc has (Lu nB.length a)) (.lit 1)))) (Lu nB.length a) (.lit 1)).den ρ
         have GG: ∀q,f' q=if q=aT ((List.range nB.length).map (a.den ρ))then 1 else if q=0 then has.den ρ 0+1 - min (has.den ρ (aT ((List.range nB.length).map (a.den ρ)))) 1 else has.den ρ q:=by
          intro q;simp only[f',E.den,o3,ax3,gD,bK,dp,mE,ar];have aj4: ∀x:Int,(if(1:Int)<x then 1 else x)=min x 1:=λx=>by split<;>omega
          rw[aj4];rfl
         obtain⟨w',r1,r2,r3,r4,r5,r6⟩:=sy (P:=P) (w:=w) hm hK (ks:=(List.range nB.length).map (a.den ρ)) (by simp) hS.1 (v.val ρ) (SV.aq ρ vs) Ey
          (A_:=λq=>if q=aT ((List.range nB.length).map (a.den ρ))then true else !(has.den ρ q==0)) (GF:=λi=>(aS.map (bU.cells ρ)).flatMap λc=>c i)
          (λq=>rfl)
          (λq=>by
           split
           .rename_i hq;rw[hq];exact QT
           .rename_i hq;exact p3 q hq)
         refine⟨rfl,j,_,rfl,w',?_,⟨⟨_,hj,rfl⟩,rfl,r2,r3,λk hk=>r4 k (λe=>hk ((hS.1.1 k).2 e)),QS hS r5 (by simp) (λq=>rfl) GG r6⟩⟩;rw[VZ];exact r1
        .cases h
       .cases h
      .rename_i j b' nB zJ z_ zero es hf;split at h
       .rename_i iD;obtain⟨rfl,rfl,rfl,Dz,zz⟩:=iD;split at h
        .rename_i n aac;cases h;have VZ:=ns (ρ:=ρ) (ks:=(List.range nB.length).map (a.den ρ)) hkc (by simp) (λhk=>by obtain⟨k,h1,_⟩:=hK.one hk;exact⟨k,h1⟩) (kN rM);obtain⟨hj,er⟩:=fF hf;simp only[Ck.isMap,beq_iff_eq]at er;subst er;have hS:=dF j (by simp) _ hj;rw[Ck.mJ]at hS;have PZ:n.toNat=aT ((List.range nB.length).map (a.den ρ)):=by
          have:=o3 (ρ:=ρ) nB.length a;rw[aac]at this;simp only[E.den]at this;rw[this,ax3]
         have Ey:=xL (ρ:=ρ) I_;rw[zz,<-Dz]at Ey;obtain⟨w',r1,r2,r3,r4,r5,_⟩:=sy (P:=P) (w:=w) hm hK (ks:=(List.range nB.length).map (a.den ρ)) (by simp) hS (v.val ρ) (SV.aq ρ vs) Ey
          (A_:=λq=>r8 (jB n.toNat vs es) q) (GF:=λq=>SV.aq ρ (oP (jB n.toNat vs es) zero q))
          (λq=>by rw[GB,<-PZ])
          (λq=>by
           simp only[GC,<-PZ];split<;>rfl)
         refine⟨rfl,j,_,rfl,w',?_,⟨⟨_,hj,rfl⟩,rfl,r2,r3,λk hk=>r4 k (λe=>hk ((hS.1 k).2 e)),by rw[Ck.mJ];exact r5⟩⟩;rw[VZ];exact r1
        .cases h
       .cases h
      .cases h
     .cases h
    .cases h
   .cases h
  .cases h
 .cases h
theorem Lv{h:Array Obj}{b:Nat}{o:Obj}(hb:b<h.size):(h.setIfInBounds b o)[b]? =some o:=by simp[hb]
theorem GH{b:Nat}{kl:List IntKind}{ka va:Bool}{zero:List Value}{f:Nat->Int}{row:Nat->List Value}{S:Nat->Prop}(h:(pA b kl ka va zero f row).p w S):
  ∃es clock,w.heap[b]? =some (.map es clock)/\YI es.toList kl ka va (λi=> !(f i==0)) row/\f 0=(es.size:Int)/\Qy es clock/\
   (∀ks:List Int,ks.length=kl.length->0<=f (aT ks)/\(2<=f (aT ks)->∃e,es[(f (aT ks)).toNat - 2]? =some e/\e.key=eG ka kl ks))/\
   (∀ks:List Int,ks.length=kl.length->f (aT ks)=0->row (aT ks)=zero)/\∀k,S k↔k=b:=by
 obtain⟨⟨h0,⟨es,cl,hb,hm⟩,hz⟩,⟨es1,cl1,CJ,hc⟩,h3⟩:=h;rw[hb]at CJ;injection CJ with CJ
 injection CJ with CJ _
 subst CJ;obtain⟨q1,q2⟩:=h3 es cl hb;exact⟨es,cl,hb,hm,hc,q1,q2,λks hk h=>hz ks hk (by show(!(f (aT ks)==0))=false;rw[h];rfl),h0⟩
theorem Ba(hT:bD P T=true){t:Nat}{x k:SV}{res:jf}(h:Bb T hp t x k=some res)(dF:Reads hp ρ w S res.rd)(cA: ∀b∈res.vcs,b.prop ρ):
  ∃j ck,res.jE= .set j ck/\∃w',(Instr.mapEntry t (x.val ρ) (k.val ρ)).run P w= .ok (res.val.val ρ) w'/\Dv P w ρ hp S j ck w':=by
 unfold Bb at h;split at h
 .rename_i kt vt sz by_ zr ly ji;obtain⟨ht,dZ⟩:=aE hT ji;have hm:P.underlying t=some (.map kt vt):=by
   have:=dZ.kind;rw[<-ht];exact su this
  split at h
  .rename_i tk tv Ds htv;obtain⟨rfl,QR⟩:=aE hT htv;obtain⟨iv,hiv,_,_,z,hz,Gt⟩:=QR.info;have hzr:(zeroValue tv.t).run P w= .ok z w:=by simp[zeroValue,typeInfo,hiv,hz]
   have Vj:=GD (ρ:=ρ) QR hiv hz (Gt ρ);split at h
   .rename_i kl ka eJ;have hK:=pE hT Ds eJ;split at h
    .rename_i kc hkc;split at h
     .rename_i JH a b rM;split at h
      .rename_i j b' nB zJ z_ zero has aB hf;split at h
       .rename_i iD;obtain⟨rfl,rfl,rfl,Dz,fL,xD⟩:=iD;rw[axV]at h;obtain⟨zv,hzv,rfl⟩:=h;have VZ:=ns (ρ:=ρ) (ks:=(List.range nB.length).map (a.den ρ)) hkc (by simp) (λhk=>by obtain⟨k,h1,_⟩:=hK.one hk;exact⟨k,h1⟩) (kN rM);obtain⟨hj,er⟩:=fF hf;simp only[Ck.isMap,beq_iff_eq]at er;subst er;have hS:=dF j (by simp) _ hj;obtain⟨es,clock,hb,Lw,hc,⟨q1,q2⟩,q3,q4,hSb⟩:=GH hS;have hk:((List.range nB.length).map (a.den ρ)).length=nB.length:=by simp
        have aeS:=cA _ (ax2.2 rfl);rw[<-BE.bY,oU,dp,o3,ax3]at aeS;have FY:has.den ρ (aT ((List.range nB.length).map (a.den ρ)))=0:=by simpa[E.den] using aeS
        have mG:=cz (ρ:=ρ) xD;have aeT:=ny (ρ:=ρ) hzv;rw[Vj]at aeT;generalize hks:(List.range nB.length).map (a.den ρ)=ks at*;have GI:=fU (P:=P) (w:=w) false 9988 12 kt _ hK.lay _ _ (qW hk) (hK.val hk);have V0: ∀m:List Int,m.length=nB.length->m≠ks->aT m≠aT ks:=λm hm hn he=>hn (qs (hm.trans hk.symm) he)
        have Vk:=(ax1.1 hb).1;have aeU:aT ks≠0:=Nat.ne_of_gt (mi (λe=>fL (aye (by rw[<-hk,e];rfl))));have Jb: ∀m:List Int,m.length=nB.length->aT m≠0:=λm hm=>Nat.ne_of_gt (mi (λe=>fL (aye (by rw[<-hm,e];rfl))))
        have zK: ∀e∈es.toList,e.key≠eG zJ nB ks:=by
         intro e he EA;obtain⟨m,m1,m2,m3,_⟩:=Lw.keys e he;have:m=ks:=hK.inj m1 hk (m2.symm.trans EA);subst this;rw[FY]at m3;cases m3
        rcases kF (P:=P) (w:=w) hK hk es.toList (λe he=>by obtain⟨m,h1,h2,_⟩:=Lw.keys e he;exact⟨m,h1,h2⟩)with⟨h1,h2⟩ | ⟨j',e,h1,h2,h3⟩
        .let f':Nat->Int:=(E.oL (.oL has (.lit 0) (fl (fc has (.lit 0)) (.lit 1))) (Lu nB.length a) (fl (fc has (.lit 0)) (.lit 2))).den ρ
         have GG: ∀q,f' q=if q=aT ks then(es.size:Int)+2 else if q=0 then(es.size:Int)+1 else has.den ρ q:=by
          intro q;simp only[f',E.den,o3,ax3,bK,dp,hks];rw[show(ag 0)=0 from rfl,hc]
         refine⟨j,_,rfl,{w with heap:=w.heap.setIfInBounds (ρ.bv.getD b 0) (.map (es.push {key:=eG zJ nB ks,val:=z,born:=clock}) (clock+1))},?_,⟨⟨_,hj,rfl⟩,rfl,⟨rfl,rfl,rfl,by simp⟩,by simp,λk kX=>?_,?_⟩⟩
         .show(Instr.mapEntry t (.map (some (ρ.bv.getD b 0))) _).run P w=_;rw[VZ];simp only[Instr.mapEntry,ax9,run_underlying hm,ax0,xM hb,GI,h1,hzr,EB _ hb,ayj];simp only[SV.val,SV.bF,aeT,dp,E.den];rw[show(ag 0)=0 from rfl,hc,q1];rfl
         .simp only[];rw[Array.getElem?_setIfInBounds_ne (λe=>kX ((hSb k).2 e.symm))]
         .have aj5:ρ.bv.getD b 0<w.heap.size:=Vk;have tJ:(w.heap.setIfInBounds (ρ.bv.getD b 0) (.map (es.push {key:=eG zJ nB ks,val:=z,born:=clock}) (clock+1)))[ρ.bv.getD b 0]? =some (.map (es.push {key:=eG zJ nB ks,val:=z,born:=clock}) (clock+1)):=Lv aj5;have YT:=q4 ks hk FY;show(pA (ρ.bv.getD b 0) nB zJ z_ (SV.aq ρ zero) f' λi=>(aB.map (bU.cells ρ)).flatMap λc=>c i).p _ _;refine⟨⟨hSb,⟨_,_,tJ,?_⟩,?_⟩,⟨_,_,tJ,?_⟩,?_⟩
          .rw [Array.toList_push];refine⟨λe he=>?_,λi i' e e' hi cj heq=>?_,λm Bc P0=>?_⟩
           .rcases ax_.1 he with he | he
            .obtain⟨m,m1,m2,m3,m4⟩:=Lw.keys e he;have Jc:m≠ks:=λh=>zK e he (by rw[m2,h])
             exact⟨m,m1,m2,by rw[GG,if_neg (V0 m m1 Jc),if_neg (Jb m m1)];exact m3,m4⟩
            .simp only[ax2]at he;subst he;refine⟨ks,hk,rfl,by rw[GG,if_pos rfl];simp;omega,?_⟩;rw[YT,mG,Dz,Vj]
           .rw [List.getElem?_append]at hi cj;split at hi<;>split at cj
            .exact Lw.once i i' e e' hi cj heq
            .exfalso;have:e'={key:=eG zJ nB ks,val:=z,born:=clock}:=by
              have:=ayh cj;simpa using this
             subst this;exact h2 e (ayh hi) heq
            .exfalso;have:e={key:=eG zJ nB ks,val:=z,born:=clock}:=by
              have:=ayh hi;simpa using this
             subst this;exact h2 e' (ayh cj) heq.symm
            .have g1:=(axT.1 hi).1;have g2:=(axT.1 cj).1;simp only[ax5,aya]at g1 g2;omega
           .by_cases Jc:m=ks
            .subst Jc;exact⟨_,List.mem_append_right _ (ax2.2 rfl),rfl⟩
            .rw [GG,if_neg (V0 m Bc Jc),if_neg (Jb m Bc)]at P0;obtain⟨e,he,EA⟩:=Lw.all m Bc P0;exact⟨e,List.mem_append_left _ he,EA⟩
          .intro m Bc h0;have h0:(!(f' (aT m)==0))=false:=h0;rw[GG]at h0;by_cases Jc:m=ks
           .subst Jc;exact YT
           .rw [if_neg (V0 m Bc Jc),if_neg (Jb m Bc)]at h0;exact q4 m Bc (by simpa using h0)
          .rw [GG,if_neg (λe=>aeU e.symm),if_pos rfl];simp
          .intro es1 cl1 JI;rw[tJ]at JI;injection JI with JI
           injection JI with JI hc1
           subst JI hc1;refine⟨⟨by rw[q1];simp,λi e hi=>?_⟩,λm Bc=>?_⟩
           .rw [Array.getElem?_push]at hi;split at hi
            .rename_i heq;cases hi;rw[q1,heq]
            .exact q2 i e hi
           .rw [GG];by_cases Jc:m=ks
            .subst Jc;rw[if_pos rfl];refine⟨by omega,λ_=>⟨{key:=eG zJ nB m,val:=z,born:=clock},?_,rfl⟩⟩;rw[show((es.size:Int)+2).toNat - 2=es.size by omega,Array.getElem?_push,if_pos rfl]
            .rw [if_neg (V0 m Bc Jc),if_neg (Jb m Bc)];obtain⟨g1,g2⟩:=q3 m Bc;refine⟨g1,λh2'=>?_⟩;obtain⟨e,g3,g4⟩:=g2 h2';have:=(ax1.1 g3).1;exact⟨e,by rw[Array.getElem?_push,if_neg (by omega)];exact g3,g4⟩
        .exact absurd h3 (zK e (ayh h2))
       .cases h
      .cases h
     .cases h
    .cases h
   .cases h
  .cases h
 .cases h
theorem Bd(t:Nat){x s v:SV}{res:jf}(h:Be hp x s v=some res)(dF:Reads hp ρ w S res.rd)(cA: ∀b∈res.vcs,b.prop ρ):
  res.val= .undef/\∃j ck,res.jE= .set j ck/\∃w',(Instr.entryStore t (x.val ρ) (s.val ρ) (v.val ρ)).run P w= .ok () w'/\Dv P w ρ hp S j ck w':=by
 unfold Be at h;split at h
 .rename_i b e vs I_;split at h
  .rename_i j b' kl ka va zero hh n a y aB hf;split at h
   .rename_i iD;obtain⟨rfl,hlen,zz⟩:=iD;split at h
    .rename_i aS nq;cases h;obtain⟨hj,er⟩:=fF hf;simp only[Ck.isMap,beq_iff_eq]at er;subst er;have hS:=dF j (by simp) _ hj;obtain⟨es,clock,hb,Lw,hc,⟨q1,q2⟩,q3,q4,hSb⟩:=GH hS;have hk:((List.range kl.length).map (a.den ρ)).length=kl.length:=by simp
     have v1:=cA (zy (.lit 0) e) (by simp);have v2:=cA (Vi (fc (.oL hh (.kc kl.length a) y) (.kc kl.length a)) (fl e (.lit 2))) (by simp);rw[<-BE.bY,jN]at v1;rw[<-BE.bY,oU,dp,bK]at v2;have v1:0<=e.den ρ 0:=of_decide_eq_true v1;have hfk:(E.oL hh (.kc kl.length a) y).den ρ (aT ((List.range kl.length).map (a.den ρ)))=e.den ρ 0+2:=by
      have:(E.kc kl.length a).den ρ 0=(aT ((List.range kl.length).map (a.den ρ)):Nat):=rfl;rw[this,ax3]at v2;simpa[E.den] using v2
     obtain⟨p1,p2,p3,p4⟩:=jQ ρ nq;have e0:((E.kc kl.length a).den ρ 0).toNat=aT ((List.range kl.length).map (a.den ρ)):=by
      show(((aT ((List.range kl.length).map (a.den ρ)):Nat):Int)).toNat=_;rw[ax3]
     rw[e0]at p3 p4;generalize hfe:(E.oL hh (.kc kl.length a) y).den ρ=f at*;have QT:rowAt ρ aS (aT ((List.range kl.length).map (a.den ρ)))=SV.aq ρ vs:=by
      rw[p4,List.drop_eq_nil_of_le,List.append_nil];rw[show(rowAt ρ aB _).length=cm aB from dU ρ aB _,bJ];exact Nat.le_of_eq hlen.symm
     have Ey:=xL (ρ:=ρ) I_;rw[zz]at Ey;generalize hks:(List.range kl.length).map (a.den ρ)=ks at*;obtain⟨g1,g2⟩:=q3 ks hk;obtain⟨e1,g3,g4⟩:=g2 (by rw[hfk];omega);rw[hfk]at g3;have hi:(e.den ρ 0+2).toNat - 2=(e.den ρ 0).toNat:=by omega
     rw[hi]at g3;have cC:=(ax1.1 g3).1;have aeV:es.findIdx? (λe'=>(e'.born:Int)==e.den ρ 0)=some (e.den ρ 0).toNat:=by
      rw[Array.findIdx?_eq_some_iff_getElem];refine⟨cC,?_,λi cj=>?_⟩
      .have:=q2 _ e1 g3;rw[Array.getElem?_eq_getElem cC,axU]at g3;rw[g3,this];simp;omega
      .have:=q2 i es[i] (by simp);rw[this];simp;omega
     have Vk:=(ax1.1 hb).1;have tJ:(w.heap.setIfInBounds (ρ.bv.getD b 0) (.map (es.modify (e.den ρ 0).toNat λe'=>{e' with val:=v.val ρ}) clock))[ρ.bv.getD b 0]? =some (.map (es.modify (e.den ρ 0).toNat λe'=>{e' with val:=v.val ρ}) clock):=Lv Vk;have sA: ∀(i:Nat),(es.modify (e.den ρ 0).toNat λe'=>{e' with val:=v.val ρ})[i]? =if(e.den ρ 0).toNat=i then(es[i]?).map (λe'=>{e' with val:=v.val ρ})else es[i]? :=λi=>Array.getElem?_modify
     have CX: ∀(i:Nat) u,(es.modify (e.den ρ 0).toNat λe'=>{e' with val:=v.val ρ})[i]? =some u->∃u1,es[i]? =some u1/\u.key=u1.key/\u.born=u1.born/\(i≠(e.den ρ 0).toNat->u.val=u1.val)/\(i=(e.den ρ 0).toNat->u.val=v.val ρ):=by
      intro i u hu;rw[sA]at hu;split at hu
      .rename_i oJ;subst oJ;rw[g3,Option.map_some,axU]at hu;subst hu;exact⟨e1,g3,rfl,rfl,λh=>absurd rfl h,λ_=>rfl⟩
      .rename_i oJ;exact⟨u,hu,rfl,rfl,λ_=>rfl,λh=>absurd h.symm oJ⟩
     have YU: ∀(i:Nat) u1,es[i]? =some u1->∃u,(es.modify (e.den ρ 0).toNat λe'=>{e' with val:=v.val ρ})[i]? =some u/\u.key=u1.key:=by
      intro i u1 hu;rw[sA,hu];split
      .exact⟨{u1 with val:=v.val ρ},rfl,rfl⟩
      .exact⟨u1,rfl,rfl⟩
     refine⟨rfl,j,_,rfl,{w with heap:=w.heap.setIfInBounds (ρ.bv.getD b 0) (.map (es.modify (e.den ρ 0).toNat λe'=>{e' with val:=v.val ρ}) clock)},?_,⟨⟨_,hj,rfl⟩,rfl,⟨rfl,rfl,rfl,by simp⟩,by simp,λk kX=>?_,?_⟩⟩
     .show(Instr.entryStore t (.map (some (ρ.bv.getD b 0))) (.int .i64 (e.den ρ 0)) _).run P w=_;simp only[Instr.entryStore,ax9,xM hb,ax0,asInt,asIntOf,ayj,aeV];exact EB _ hb
     .simp only[];rw[Array.getElem?_setIfInBounds_ne (λe=>kX ((hSb k).2 e.symm))]
     .show(pA (ρ.bv.getD b 0) kl ka va (SV.aq ρ zero) ((E.oL hh (.kc kl.length a) y).den ρ) λi=>(aS.map (bU.cells ρ)).flatMap λc=>c i).p _ _;rw[hfe];refine⟨⟨hSb,⟨_,_,tJ,?_⟩,?_⟩,⟨_,_,tJ,?_⟩,?_⟩
      .refine⟨λu hu=>?_,λi i' u u' hu hu' heq=>?_,λm Bc P0=>?_⟩
       .obtain⟨i,cj⟩:=List.getElem?_of_mem hu;rw[ayt]at cj;obtain⟨u1,k1,k2,_,k4,k5⟩:=CX i u cj;obtain⟨m,m1,m2,m3,m4⟩:=Lw.keys u1 (ayh (by rw[ayt];exact k1));by_cases oJ:i=(e.den ρ 0).toNat
        .subst oJ;rw[g3,axU]at k1;subst k1;refine⟨ks,hk,by rw[k2,g4],?_,?_⟩
         .show(!(f (aT ks)==0))=true;rw[hfk];simp;omega
         .rw [k5 rfl,Ey];exact congrArg (xr va) QT.symm
        .have fL:aT m≠aT ks:=by
          intro Z9;have:m=ks:=qs (m1.trans hk.symm) Z9;subst this;exact oJ (Lw.once i (e.den ρ 0).toNat u1 e1 (by rw[ayt];exact k1) (by rw[ayt];exact g3) (by rw[m2,g4]))
         refine⟨m,m1,by rw[k2,m2],m3,?_⟩;rw[k4 oJ,m4];exact congrArg (xr va) (p3 _ fL).symm
       .rw [ayt]at hu hu';obtain⟨u1,k1,k2,_⟩:=CX i u hu;obtain⟨u1',k1',k2',_⟩:=CX i' u' hu';exact Lw.once i i' u1 u1' (by rw[ayt];exact k1) (by rw[ayt];exact k1') (by rw[<-k2,<-k2',heq])
       .obtain⟨u1,hu,EA⟩:=Lw.all m Bc P0;obtain⟨i,cj⟩:=List.getElem?_of_mem hu;rw[ayt]at cj;obtain⟨u,k1,k2⟩:=YU i u1 cj;exact⟨u,ayh (by rw[ayt];exact k1),by rw[k2,EA]⟩
      .intro m Bc h0;have h0:(!(f (aT m)==0))=false:=h0;have YL:f (aT m)=0:=by simpa using h0
       have fL:aT m≠aT ks:=by
        intro Z9;rw[Z9,hfk]at YL;omega
       exact(p3 _ fL).trans (q4 m Bc YL)
      .rw [hc];simp
      .intro es1 cl1 JI;rw[tJ]at JI;injection JI with JI
       injection JI with JI hc1
       subst JI hc1;refine⟨⟨by rw[q1];simp,λi u hu=>?_⟩,λm Bc=>?_⟩
       .obtain⟨u1,k1,_,k3,_⟩:=CX i u hu;rw[k3];exact q2 i u1 k1
       .obtain⟨z1,z2⟩:=q3 m Bc;refine⟨z1,λh2'=>?_⟩;obtain⟨u1,z3,z4⟩:=z2 h2';obtain⟨u,k1,k2⟩:=YU _ u1 z3;exact⟨u,k1,by rw[k2,z4]⟩
    .cases h
   .cases h
  .cases h
 .cases h
end
variable {P:Program} {w:World}
section
variable {ρ:Env} {hp:List Ck} {S:Nat->Nat->Prop} {nb nv:Nat} {T:List TI}
theorem CY(_:bD P T=true){ts t':TypeId}{tt ti:TI}(_:aV T ts=some tt)(_:aV T t'=some ti){kt:IntKind}(_:ti.k= .int kt){x:SV}{m:E}{res:jf}(h:Lx T hp nv tt.k x m=some res)
  (_:Reads hp ρ w S res.rd) (_: ∀b∈res.vcs,b.prop ρ) (k:IntKind) (ty:TypeId):
  Did P ρ w hp S nb nv ((do pure (.value (<-ayA #[ts,t'] ty #[x.val ρ,.int k (m.den ρ 0)])):Sem Next).run P w) res:=by
 cases (show(none:Option _)=some _ from h)
end
variable {P:Program} {w:World}
section
variable {ρ:Env} {hp:List Ck} {S:Nat->Nat->Prop} {nb nv:Nat} {T:List TI}
theorem zL(_:bD P T=true){ts:TypeId}{tt:TI}(_:aV T ts=some tt){x y:SV}{res:jf}(h:DA T hp nv tt.k x y=some res)
  (_:Reads hp ρ w S res.rd) (_: ∀b∈res.vcs,b.prop ρ) (ty:TypeId):
  Did P ρ w hp S nb nv ((do pure (.value (<-ayA #[ts,ts] ty #[x.val ρ,y.val ρ])):Sem Next).run P w) res:=by
 cases (show(none:Option _)=some _ from h)
theorem zM(_:bD P T=true){ts:TypeId}{tt:TI}(_:aV T ts=some tt){x y:SV}{res:jf}(h:DB T hp nv tt.k x y=some res)
  (_:Reads hp ρ w S res.rd) (ty:TypeId):
  Did P ρ w hp S nb nv ((do pure (.value (<-ayA #[ts,ts] ty #[x.val ρ,y.val ρ])):Sem Next).run P w) res:=by
 cases (show(none:Option _)=some _ from h)
end
end Go.RX
