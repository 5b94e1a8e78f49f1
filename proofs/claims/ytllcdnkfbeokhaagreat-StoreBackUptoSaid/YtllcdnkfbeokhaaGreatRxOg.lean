/- Executor. -/
import Derived.Test.YtllcdnkfbeokhaaGreatRxOf
open Array renaming getElem?_eq_some_iff → auy, getElem?_toList → auX
open Bool renaming and_eq_true → ai
open Go.Result renaming andThen_ok → aut
open Go.Sem renaming run_bind → auC, run_pure → auI
open Int renaming toNat → ag, toNat_natCast → auD
open List renaming eq_nil_of_length_eq_zero → auH, getElem?_eq_getElem → auU, getElem?_eq_some_iff → aup, mem_append → auE, mem_of_getElem? → auM, mem_singleton → auz
open Option renaming map_eq_some_iff → aus
open Option.some renaming injEq → auq
namespace Go.RX
section
variable {P:Program} {ρ:Env} {w:World} {look:Nat→Option SV} {bH:Operand→Value} {hp:List Ck} {S:Nat→Nat→Prop} {nb nv:Nat} {T:List TI}
theorem ON{a:E}{i:Nat}{x:Int}(h:Tk a i=some x):a.den ρ i=x:=by
 unfold Tk at h;split at h
 ·rename_i n hn;cases h;have:=cX ρ a (.lit i) 0;rw [hn]at this;simp only [E.den,auD]at this;exact this.symm
 ·cases h
theorem uL{a:E}: ∀{n:Nat} {l:List Int},xF a n=some l→l=(List.range n).map (a.den ρ)
 | 0,l,h=>by simp [xF]at h;subst h;rfl
 | n+1,l,h=>by
  unfold xF at h;split at h
  ·rename_i l' x h1 h2;cases h;rw [List.range_succ,List.map_append,←uL h1];simp [ON h2]
  ·cases h
theorem oD(n:Nat)(a:E):((LQ n a).den ρ 0)=(aW ((List.range n).map (a.den ρ)):Nat):=by
 unfold LQ;split
 ·rename_i l h;rw [←uL h];rfl
 ·rfl
theorem sD: ∀{l:List iY} {kl:List IntKind},uI l=some kl→l=kl.map some
 | [],kl,h=>by simp [uI]at h;subst h;rfl
 | some k::r,kl,h=>by
  simp only [uI,aus]at h;obtain⟨x,hx,rfl⟩:=h;rw [sD hx];rfl
 | none::r,kl,h=>by simp [uI]at h
theorem o4(hT:bB P T=true){t:Nat}{tk:TI}(ht:aU T t=some tk){kl:List IntKind}{ka:Bool}(h:pL tk=some (kl,ka)):E4 P t kl ka:=by
 obtain⟨rfl,dc⟩:=aC hT ht;have dE:=dc.kind;unfold pL at h;split at h
 ·rename_i k hk;cases h;rw [hk]at dE;have hu:=kK dE;exact⟨by simp [gI,hu],fun _=>⟨k,rfl,hu⟩,fun h=>(by cases h)⟩
 ·rename_i fs hk;split at h
  ·cases h
  ·rename_i fy;rw [aus]at h;obtain⟨l,hl,he⟩:=h;cases he;rw [hk]at dE;obtain⟨fa,hu,_⟩:=og dE;rcases dc.lay with h | ⟨h,_⟩
   ·exact absurd h fy
   ·rw [sD hl]at h;exact⟨h,fun h=>(by cases h),fun _=>⟨fun cs=>by simp [Ft,hu],by simp [hu]⟩⟩
 ·rename_i n e hk;split at h
  ·cases h
  ·rename_i fy;rw [aus]at h;obtain⟨l,hl,he⟩:=h;cases he;rw [hk]at dE;have hu:=pz dE;rcases dc.lay with h | ⟨h,_⟩
   ·exact absurd h fy
   ·rw [sD hl]at h;exact⟨h,fun h=>(by cases h),fun _=>⟨fun cs=>by simp [Ft,hu],by simp [hu]⟩⟩
 ·cases h
theorem m7{ka:Bool}{k:SV}{kc:List SV}(h:sv ka k=some kc){kl:List IntKind}{ks:List Int}(hk:ks.length=kl.length)(h1:ka=false→∃k,kl=[k])(hc:SV.ao ρ kc=zi kl ks):k.val ρ=ep ka kl ks:=by
 unfold sv at h;split at h
 ·cases h;simp only [SV.val,hc,wz]
 ·rename_i q e;cases h;obtain⟨k0,rfl⟩:=h1 rfl
  match ks,hk,hc with
  | [x],_,hc=>
   have hc:[Value.int q (e.den ρ 0)]=[Value.int k0 x]:=hc;simp only [List.cons.injEq,and_true]at hc;exact hc
 ·cases h
theorem sE{d:Option TypeDesc}{k v:Nat}(h:ju d (.map k v)=true):d=some (.map k v):=by
 unfold ju at h;split at h<;>simp_all
theorem fp{hp:List Ck}{b j:Nat}{ck:Ck}(h:mX hp b=some (j,ck)):hp[j]? =some ck∧ck.isMap b=true:=by
 unfold mX at h;split at h
 ·rename_i i hi;rw [aus]at h;obtain⟨c,hc,he⟩:=h;cases he;refine⟨hc,?_⟩;rw [List.findIdx?_eq_some_iff_getElem]at hi;obtain⟨cF,h1,_⟩:=hi;rw [auU cF]at hc;cases hc;exact h1
 ·cases h
theorem BP{te:TI}{z:List bP}(h:xG T te=some z): ∀i:Nat,rowAt ρ z i=SV.ao ρ te.zero:=by
 unfold xG at h;split at h
 ·split at h
  ·rename_i hz;cases h;simp only [ai,List.isEmpty_iff]at hz;intro i;rw [hz.1];rfl
  ·cases h
 ·exact fun i=>(gE h).1 i
theorem cn: ∀{a b:List SV},eM a b=true→SV.ao ρ a=SV.ao ρ b
 | [],[],_=>rfl
 | [],_::_,h=>by simp [eM]at h
 | v::r,[],h=>by cases v<;>simp [eM]at h
 | v::r,u::s,h=>by
  unfold eM at h;split at h
  ·rename_i h1 _;cases h1
  ·rename_i h1 h2;cases h1;cases h2;simp only [ai,beq_iff_eq]at h;obtain⟨⟨rfl,rfl⟩,h⟩:=h;simp only [SV.ao,cn h]
  ·rename_i h1 h2;cases h1;cases h2;simp only [ai,beq_iff_eq]at h;obtain⟨rfl,h⟩:=h;simp only [SV.ao,cn h]
  ·rename_i h1 h2;cases h1;cases h2;simp only [ai,beq_iff_eq]at h;obtain⟨⟨⟨rfl,rfl⟩,rfl⟩,h⟩:=h;simp only [SV.ao,cn h]
  ·rename_i h1 h2;cases h1;cases h2;simp only [SV.ao,cn h]
  ·rename_i h1 h2;cases h1;cases h2;simp only [SV.ao,cn h]
  ·rename_i h1 h2;cases h1;cases h2;simp only [SV.ao,cn h]
  ·rename_i h1 h2;cases h1;cases h2;simp only [SV.ao,cn h]
  ·rename_i h1 h2;cases h1;cases h2;simp only [SV.ao,cn h]
  ·rename_i h1 h2;cases h1;cases h2;simp only [ai,beq_iff_eq]at h;obtain⟨rfl,h⟩:=h;simp only [SV.ao,cn h]
  ·cases h
theorem HT{k:Nat}{v:List SV}: ∀{es:List (Nat×List SV)} {q:Nat},rJ (je k v es) q=if q=k then true else rJ es q
 | [],q=>by simp only [je,rJ,eq_comm]
 | (i,u)::r,q=>by
  simp only [je];split
  ·rename_i h;subst h;simp only [rJ,eq_comm];split<;>rfl
  ·rename_i h;simp only [rJ];split
   ·rename_i h2;subst h2;rw [if_neg h]
   ·exact HT
theorem HU{k:Nat}{v z:List SV}: ∀{es:List (Nat×List SV)} {q:Nat},nX (je k v es) z q=if q=k then v else nX es z q
 | [],q=>by simp only [je,nX,eq_comm]
 | (i,u)::r,q=>by
  simp only [je];split
  ·rename_i h;subst h;simp only [nX,eq_comm];split<;>rfl
  ·rename_i h;simp only [nX];split
   ·rename_i h2;subst h2;rw [if_neg h]
   ·exact HU
theorem xL(_:bB P T=true)(DM:ρ.bv.length=nb){t:Nat}{res:iC}(h:uJ T nb t=some res):
  Did P ρ w hp S nb nv ((do pure (.value (←Instr.makeMap t none)):Sem Next).run P w) res:=by
 unfold uJ at h;split at h
 ·rename_i kt vt sz by_ zr ly gD;split at h
  ·rename_i tk tv CO htv;split at h
   ·rename_i kl ka aA hk hz;cases h;refine⟨w.alloc (.map #[] 0),_,if_pos rfl,?_,⟨rfl,rfl,rfl,by simp⟩,by simp,fun k hk=>heap_alloc_old w _ hk,⟨fun k=>Iff.rfl,⟨#[],0,heap_alloc_new w _,?_⟩,?_⟩,⟨#[],0,heap_alloc_new w _,rfl⟩,fun es clock he=>?_⟩
    ·subst DM;simp [Instr.makeMap,SV.val,ko]
    ·refine⟨by simp,by simp,fun ks _ hh=>by simp [E.den]at hh⟩
    ·intro ks _ _;split at hz
     ·cases hz
     ·exact BP (ρ:=ρ) hz _
    ·rw [heap_alloc_new]at he;injection he with he
     injection he with he hc
     subst he hc;exact⟨⟨rfl,fun i e h=>by simp at h⟩,fun ks _=>⟨Int.le_refl 0,fun h=>by simp [E.den]at h⟩⟩
   ·rename_i kl ka hk hz;cases h;refine⟨w.alloc (.map #[] 0),_,if_pos rfl,?_,⟨rfl,rfl,rfl,by simp⟩,by simp,fun k hk=>heap_alloc_old w _ hk,⟨fun k=>Iff.rfl,⟨#[],0,heap_alloc_new w _,?_⟩,?_⟩⟩
    ·subst DM;simp [Instr.makeMap,SV.val,ko]
    ·refine⟨by simp,by simp,fun ks _ hh=>by simp [rJ]at hh⟩
    ·intro ks _ _;rfl
   ·cases h
  ·cases h
 ·cases h
theorem m8{agg:Bool}{cs:List SV}{v:SV}(h:jt agg cs=some v):v.val ρ=wL agg (SV.ao ρ cs):=by
 obtain⟨h1,h2⟩:=od ρ h;cases agg with
 | true=>rw [h1 rfl];rfl
 | false=>have:=h2 rfl;rw [this];rfl
theorem HV{ti:TI}(dc:lu P ti){i:TypeInfo}{z:Value}(hi:P.info? ti.t=some i)(hz:i.zero=some z)(hc:SV.ao ρ ti.zero=z.cells.toList):wL ti.k.agg (SV.ao ρ ti.zero)=z:=by
 have hg:=dc.zag i z hi hz;rw [hc];cases z with
 | agg cs=>simp only at hg;rw [hg];simp [wL,Value.cells]
 | _=>simp only [Bool.not_eq_true']at hg;rw [hg];simp [wL,Value.cells]
theorem ze(hT:bB P T=true){t:Nat}{x k:SV}{comma:Bool}{res:iC}(h:xH T hp t x k comma=some res)(db:Reads hp ρ w S res.rd):
  (Instr.lookup t (x.val ρ) (k.val ρ) comma).run P w= .ok (res.val.val ρ) w∧res.iD= .none:=by
 unfold xH at h;split at h
 ·rename_i kt vt sz by_ zr ly gD;obtain⟨ht,dc⟩:=aC hT gD;have hm:P.underlying t=some (.map kt vt):=by
   have:=dc.kind;rw [←ht];exact sE this
  split at h
  ·rename_i tk tv CO htv;obtain⟨rfl,Tp⟩:=aC hT htv;obtain⟨iv,hiv,_,_,z,hz,Ab⟩:=Tp.info;have hzr:(zeroValue tv.t).run P w= .ok z w:=by simp [zeroValue,typeInfo,hiv,hz]
   have Uj:=HV (ρ:=ρ) Tp hiv hz (Ab ρ);split at h
   ·rename_i kl ka dE;have hK:=o4 hT CO dE;split at h
    ·rename_i kc hkc;split at h
     ·rename_i Ka a s6;split at h
      ·cases h
      ·rename_i Mw;simp only [ne_eq,Decidable.not_not]at Mw;subst Mw;have Xl:=m7 (ρ:=ρ) (ks:=(List.range Ka.length).map (a.den ρ)) hkc (by simp) (fun hk=>by obtain⟨k,h1,_⟩:=hK.one hk;exact⟨k,h1⟩) (ia s6);split at h
       ·rw [aus]at h;obtain⟨v,hv,rfl⟩:=h;refine⟨?_,rfl⟩;have E7:=m8 (ρ:=ρ) hv;rw [Uj]at E7;rw [Xl];have:=BO (P:=P) (w:=w) hm hK (ks:=(List.range Ka.length).map (a.den ρ)) (comma:=comma) (by simp) hzr;show(Instr.lookup t (.map none) _ comma).run P w=_;rw [this];cases comma<;>simp [SV.val,SV.bH,E7,BE.den]
       ·rename_i b;split at h
        ·rename_i j b' mY zd zD Dt has aA hf;split at h
         ·rename_i gJ;obtain⟨rfl,rfl,rfl,qJ⟩:=gJ;split at h
          ·rename_i es zk;rw [aus]at h;obtain⟨v,hv,rfl⟩:=h;refine⟨?_,rfl⟩;obtain⟨hj,dH⟩:=fp hf;simp only [Ck.isMap,beq_iff_eq]at dH;subst dH;have hS:=db j (by simp) _ hj;have nU:=ns ρ zk;rw [oD,auD]at nU;have E7:=m8 (ρ:=ρ) hv;rw [nU]at E7;rw [Xl];have hz2:=cn (ρ:=ρ) qJ;rw [←hz2]at Uj;have:=sA (P:=P) (w:=w) hm hK (ks:=(List.range mY.length).map (a.den ρ)) (comma:=comma) (by simp) hS.1 hzr Uj;show(Instr.lookup t (.map (some (ρ.bv.getD b 0))) _ comma).run P w=_;rw [this];cases comma with
           | false=>simp only [Bool.false_eq_true,if_false,E7]
           | true=>
            simp only [if_true,SV.val,SV.bH,E7,zh,cX,oD,auD]
          ·cases h
         ·cases h
        ·rename_i j b' mY zd zD Dt es hf;split at h
         ·rename_i gJ;obtain⟨rfl,rfl,rfl,qJ⟩:=gJ;split at h
          ·rename_i n abE;rw [aus]at h;obtain⟨v,hv,rfl⟩:=h;refine⟨?_,rfl⟩;obtain⟨hj,dH⟩:=fp hf;simp only [Ck.isMap,beq_iff_eq]at dH;subst dH;have hS:=db j (by simp) _ hj;rw [Ck.ma]at hS;have Po:n.toNat=aW ((List.range mY.length).map (a.den ρ)):=by
            have:=oD (ρ:=ρ) mY.length a;rw [abE]at this;simp only [E.den]at this;rw [this,auD]
           have E7:=m8 (ρ:=ρ) hv;rw [Po]at E7;rw [Xl];have hz2:=cn (ρ:=ρ) qJ;rw [←hz2]at Uj;have:=sA (P:=P) (w:=w) hm hK (ks:=(List.range mY.length).map (a.den ρ)) (comma:=comma) (by simp) hS hzr Uj;show(Instr.lookup t (.map (some (ρ.bv.getD b 0))) _ comma).run P w=_;rw [this];cases comma with
           | false=>simp only [Bool.false_eq_true,if_false,E7]
           | true=>simp only [if_true,SV.val,SV.bH,E7,BE.den,Po]
          ·cases h
         ·cases h
        ·cases h
       ·cases h
     ·cases h
    ·cases h
   ·cases h
  ·cases h
 ·cases h
theorem xM{v:SV}{vs:List SV}(h:fk v=some vs):v.val ρ=wL (Bx v) (SV.ao ρ vs):=by
 cases v with
 | agg cs=>
  simp only [fk]at h;split at h
  ·cases h;rfl
  ·cases h
 | dg k n a=>
  simp only [fk,SV.one,if_true,auq]at h;subst h;simp [SV.val,SV.ao,SV.cells,Bx,wL]
 | opt c v=>simp [fk,SV.one]at h
 | undef=>simp [fk,SV.one]at h
 | oL vs=>simp [fk,SV.one]at h
 | _=>
  simp only [fk,SV.one,if_true,auq]at h;subst h;rfl
theorem lN: ∀{l:List Int},l≠[]→0<aW l:=by
 intro l hl;rcases List.eq_nil_or_concat l with rfl | ⟨l,c,rfl⟩
 ·exact absurd rfl hl
 ·rw [List.concat_eq_append,aW,List.foldl_append];simp only [List.foldl_cons,List.foldl_nil,tT];exact Nat.mul_pos (by omega) (Nat.two_pow_pos _)
theorem Tq{b:Nat}{kl:List IntKind}{ka va:Bool}{zero:List Value}{f f':Nat→Int}{BD:Nat→Bool}{row HS:Nat→List Value}{w w':World}{S:Nat→Prop}{ks:List Int}
  (hS:(oN b kl ka va zero f row).p w S) (r5:(uZ b kl ka va zero BD HS).p w' S) (hk:ks.length=kl.length)
  (hh: ∀q,BD q=if q=aW ks then true else !(f q==0)) (hf: ∀q,f' q=if q=aW ks then 1 else if q=0 then f 0+1 - min (f (aW ks)) 1 else f q)
  (r6: ∀es clock,w.heap[b]? =some (.map es clock)→∃Cj sB,w'.heap[b]? =some (.map Cj sB)∧(Cj.size:Int)=es.size+(if !(f (aW ks)==0)then 0 else 1)∧Grown es clock Cj sB):
  (oN b kl ka va zero f' HS).p w' S:=by
 obtain⟨h1,⟨E6,cl0,X7,hc0⟩,h01⟩:=hS;have hz: ∀m:List Int,m.length=kl.length→aW m≠aW ks→aW m≠0:=by
  intro m hm fy h0;by_cases IN:m=[]
  ·subst IN;have:ks=[]:=auH (by rw [hk,←hm];rfl);exact fy (by rw [this])
  ·exact absurd h0 (Nat.ne_of_gt (lN IN))
 have fA: ∀m:List Int,m.length=kl.length→(!(f' (aW m)==0))=BD (aW m):=by
  intro m hm;rw [hh,hf];by_cases he:aW m=aW ks
  ·rw [if_pos he,if_pos he];rfl
  ·rw [if_neg he,if_neg he,if_neg (hz m hm he)]
 refine⟨⟨r5.1,?_,?_⟩,?_,?_⟩
 ·obtain⟨es,cl,hb,hm⟩:=r5.2.1;refine⟨es,cl,hb,⟨fun e he=>?_,hm.once,fun m hml Pn=>hm.all m hml (by rw [←fA m hml];exact Pn)⟩⟩;obtain⟨m,m1,m2,m3,m4⟩:=hm.keys e he;exact⟨m,m1,m2,by rw [fA m m1];exact m3,m4⟩
 ·intro m hm hf0;exact r5.2.2 m hm (by rw [←fA m hm];exact hf0)
 ·obtain⟨Cj,cl',Ih,hc',_⟩:=r6 E6 cl0 X7;refine⟨Cj,cl',Ih,?_⟩;have h01:=((h01 E6 cl0 X7).2 ks hk).1;rw [hc',hf];by_cases h0:0=aW ks
  ·have hks:ks=[]:=by
    by_cases hn:ks=[]
    ·exact hn
    ·exact absurd h0 (Nat.ne_of_lt (lN hn))
   have hle:E6.size≤1:=by
    obtain⟨es,cl,hb,hm⟩:=h1.2.1;rw [X7]at hb;injection hb with hb
    injection hb with hb _
    subst hb;have Mw:kl=[]:=auH (by rw [←hk,hks];rfl);rcases Nat.lt_or_ge 1 E6.size with h | h
    ·exfalso;obtain⟨m,m1,m2,_⟩:=hm.keys E6[0] (by simp);obtain⟨n,n1,n2,_⟩:=hm.keys E6[1] (by simp);have e1:m=[]:=auH (by rw [m1,Mw];rfl);have e2:n=[]:=auH (by rw [n1,Mw];rfl);have:=hm.once 0 1 E6[0] E6[1] (by simp) (by simp) (by rw [m2,n2,e1,e2]);omega
    ·exact h
   rw [if_pos h0];rw [←h0]at h01 ⊢;rw [hc0]at h01 ⊢;by_cases he:(E6.size:Int)=0
   ·rw [he];rfl
   ·rw [show(E6.size:Int)=1 by omega];rfl
  ·rw [if_neg h0,if_pos rfl,hc0];by_cases he:f (aW ks)=0
   ·rw [he];rfl
   ·rw [show((f (aW ks))==0)=false by simpa using he,show min (f (aW ks)) 1=1 by omega];simp
 ·intro es1 cl1 zl;obtain⟨Cj,cl',Ih,hc',hg⟩:=r6 E6 cl0 X7;rw [zl]at Ih;injection Ih with Ih
  injection Ih with Ih eV
  subst Ih eV;obtain⟨⟨q1,q2⟩,q3⟩:=h01 E6 cl0 X7;obtain⟨hg1,X5⟩:=hg;refine⟨⟨?_,?_⟩,?_⟩
  ·rcases hg1 with⟨a,b⟩ | ⟨a,b,_⟩<;>omega
  ·intro i e hi;by_cases cF:i<E6.size
   ·obtain⟨e',h1,_,h3⟩:=X5 i E6[i] (by simp [cF]);rw [hi,auq]at h1;subst h1;rw [h3];exact q2 i E6[i] (by simp [cF])
   ·have hl:=(auy.1 hi).1;rcases hg1 with⟨a,b⟩ | ⟨a,b,c⟩
    ·omega
    ·have:i=E6.size:=by omega
     subst this;rw [c e hi,q1]
  ·intro m hm;rw [hf];by_cases he:aW m=aW ks
   ·rw [if_pos he];exact⟨by decide,fun h=>by omega⟩
   ·rw [if_neg he,if_neg (hz m hm he)];obtain⟨a,b⟩:=q3 m hm;refine⟨a,fun h2=>?_⟩;obtain⟨e,h3,h4⟩:=b h2;obtain⟨e',h5,h6,_⟩:=X5 _ e h3;exact⟨e',h5,by rw [h6,h4]⟩
theorem qS(hT:bB P T=true){t:Nat}{x k v:SV}{res:iC}(h:sV T hp t x k v=some res)(db:Reads hp ρ w S res.rd):
  res.val= .undef∧∃j ck,res.iD= .set j ck∧∃w',(Instr.mapUpdate t (x.val ρ) (k.val ρ) (v.val ρ)).run P w= .ok () w'∧CS P w ρ hp S j ck w':=by
 unfold sV at h;split at h
 ·rename_i kt vt sz by_ zr ly gD;obtain⟨ht,dc⟩:=aC hT gD;have hm:P.underlying t=some (.map kt vt):=by
   have:=dc.kind;rw [←ht];exact sE this
  split at h
  ·rename_i tk tv CO htv;split at h
   ·rename_i kl ka dE;have hK:=o4 hT CO dE;split at h
    ·rename_i kc vs hkc Ie;split at h
     ·rename_i Ka a b s6;split at h
      ·rename_i j b' mY zd zD zero has aA hf;split at h
       ·rename_i gJ;obtain⟨rfl,rfl,rfl,CU,hlen,yN⟩:=gJ;split at h
        ·rename_i aS lY;cases h;have Xl:=m7 (ρ:=ρ) (ks:=(List.range mY.length).map (a.den ρ)) hkc (by simp) (fun hk=>by obtain⟨k,h1,_⟩:=hK.one hk;exact⟨k,h1⟩) (ia s6);obtain⟨hj,dH⟩:=fp hf;simp only [Ck.isMap,beq_iff_eq]at dH;subst dH;have hS:=db j (by simp) _ hj;obtain⟨p1,p2,p3,p4⟩:=jv ρ lY;rw [oD,auD]at p3 p4;have E7:=xM (ρ:=ρ) Ie;rw [yN,←CU]at E7;have Tr:rowAt ρ aS (aW ((List.range mY.length).map (a.den ρ)))=SV.ao ρ vs:=by
          rw [p4,List.drop_eq_nil_of_le,List.append_nil];rw [show(rowAt ρ aA _).length=b_ aA from dQ ρ aA _,bu];exact Nat.le_of_eq hlen.symm
         obtain⟨E6,cl0,X7,hc0⟩:=hS.2.1
         let f':Nat→Int:=(E.nm (.nm has (.lit 0) (tU (dP (eJ has (.lit 0)) (.lit 1)) (tY .iO .i64 (eJ has (LQ mY.length a)) (.lit 1)))) (LQ mY.length a) (.lit 1)).den ρ
         have F6: ∀q,f' q=if q=aW ((List.range mY.length).map (a.den ρ))then 1 else if q=0 then has.den ρ 0+1 - min (has.den ρ (aW ((List.range mY.length).map (a.den ρ)))) 1 else has.den ρ q:=by
          intro q;simp only [f',E.den,oD,auD,fE,bG,cX,lV,ar];have alZ: ∀x:Int,(if(1:Int)<x then 1 else x)=min x 1:=fun x=>by split<;>omega
          rw [alZ];rfl
         obtain⟨w',r1,r2,r3,r4,r5,r6⟩:=sC (P:=P) (w:=w) hm hK (ks:=(List.range mY.length).map (a.den ρ)) (by simp) hS.1 (v.val ρ) (SV.ao ρ vs) E7
          (BD:=fun q=>if q=aW ((List.range mY.length).map (a.den ρ))then true else !(has.den ρ q==0)) (HS:=fun i=>(aS.map (bP.cells ρ)).flatMap fun c=>c i)
          (fun q=>rfl)
          (fun q=>by
           split
           ·rename_i hq;rw [hq];exact Tr
           ·rename_i hq;exact p3 q hq)
         refine⟨rfl,j,_,rfl,w',?_,⟨⟨_,hj,rfl⟩,rfl,r2,r3,fun k hk=>r4 k (fun e=>hk ((hS.1.1 k).2 e)),Tq hS r5 (by simp) (fun q=>rfl) F6 r6⟩⟩;rw [Xl];exact r1
        ·cases h
       ·cases h
      ·rename_i j b' mY zd zD zero es hf;split at h
       ·rename_i gJ;obtain⟨rfl,rfl,rfl,CU,yN⟩:=gJ;split at h
        ·rename_i n abE;cases h;have Xl:=m7 (ρ:=ρ) (ks:=(List.range mY.length).map (a.den ρ)) hkc (by simp) (fun hk=>by obtain⟨k,h1,_⟩:=hK.one hk;exact⟨k,h1⟩) (ia s6);obtain⟨hj,dH⟩:=fp hf;simp only [Ck.isMap,beq_iff_eq]at dH;subst dH;have hS:=db j (by simp) _ hj;rw [Ck.ma]at hS;have Po:n.toNat=aW ((List.range mY.length).map (a.den ρ)):=by
          have:=oD (ρ:=ρ) mY.length a;rw [abE]at this;simp only [E.den]at this;rw [this,auD]
         have E7:=xM (ρ:=ρ) Ie;rw [yN,←CU]at E7;obtain⟨w',r1,r2,r3,r4,r5,_⟩:=sC (P:=P) (w:=w) hm hK (ks:=(List.range mY.length).map (a.den ρ)) (by simp) hS (v.val ρ) (SV.ao ρ vs) E7
          (BD:=fun q=>rJ (je n.toNat vs es) q) (HS:=fun q=>SV.ao ρ (nX (je n.toNat vs es) zero q))
          (fun q=>by rw [HT,←Po])
          (fun q=>by
           simp only [HU,←Po];split<;>rfl)
         refine⟨rfl,j,_,rfl,w',?_,⟨⟨_,hj,rfl⟩,rfl,r2,r3,fun k hk=>r4 k (fun e=>hk ((hS.1 k).2 e)),by rw [Ck.ma];exact r5⟩⟩;rw [Xl];exact r1
        ·cases h
       ·cases h
      ·cases h
     ·cases h
    ·cases h
   ·cases h
  ·cases h
 ·cases h
theorem L0{h:Array Obj}{b:Nat}{o:Obj}(hb:b<h.size):(h.setIfInBounds b o)[b]? =some o:=by simp [hb]
theorem HX{b:Nat}{kl:List IntKind}{ka va:Bool}{zero:List Value}{f:Nat→Int}{row:Nat→List Value}{S:Nat→Prop}(h:(oN b kl ka va zero f row).p w S):
  ∃es clock,w.heap[b]? =some (.map es clock)∧XA es.toList kl ka va (fun i=> !(f i==0)) row∧f 0=(es.size:Int)∧PM es clock∧
   (∀ks:List Int,ks.length=kl.length→0≤f (aW ks)∧(2≤f (aW ks)→∃e,es[(f (aW ks)).toNat - 2]? =some e∧e.key=ep ka kl ks))∧
   (∀ks:List Int,ks.length=kl.length→f (aW ks)=0→row (aW ks)=zero)∧∀k,S k↔k=b:=by
 obtain⟨⟨h0,⟨es,cl,hb,hm⟩,hz⟩,⟨es1,cl1,zl,hc⟩,h3⟩:=h;rw [hb]at zl;injection zl with zl
 injection zl with zl _
 subst zl;obtain⟨q1,q2⟩:=h3 es cl hb;exact⟨es,cl,hb,hm,hc,q1,q2,fun ks hk h=>hz ks hk (by show(!(f (aW ks)==0))=false;rw [h];rfl),h0⟩
theorem BQ(hT:bB P T=true){t:Nat}{x k:SV}{res:iC}(h:By T hp t x k=some res)(db:Reads hp ρ w S res.rd)(cd: ∀b∈res.vcs,b.prop ρ):
  ∃j ck,res.iD= .set j ck∧∃w',(Instr.mapEntry t (x.val ρ) (k.val ρ)).run P w= .ok (res.val.val ρ) w'∧CS P w ρ hp S j ck w':=by
 unfold By at h;split at h
 ·rename_i kt vt sz by_ zr ly gD;obtain⟨ht,dc⟩:=aC hT gD;have hm:P.underlying t=some (.map kt vt):=by
   have:=dc.kind;rw [←ht];exact sE this
  split at h
  ·rename_i tk tv CO htv;obtain⟨rfl,Tp⟩:=aC hT htv;obtain⟨iv,hiv,_,_,z,hz,Ab⟩:=Tp.info;have hzr:(zeroValue tv.t).run P w= .ok z w:=by simp [zeroValue,typeInfo,hiv,hz]
   have Uj:=HV (ρ:=ρ) Tp hiv hz (Ab ρ);split at h
   ·rename_i kl ka dE;have hK:=o4 hT CO dE;split at h
    ·rename_i kc hkc;split at h
     ·rename_i Ka a b s6;split at h
      ·rename_i j b' mY zd zD zero has aA hf;split at h
       ·rename_i gJ;obtain⟨rfl,rfl,rfl,CU,fy,qJ⟩:=gJ;rw [aus]at h;obtain⟨zv,hzv,rfl⟩:=h;have Xl:=m7 (ρ:=ρ) (ks:=(List.range mY.length).map (a.den ρ)) hkc (by simp) (fun hk=>by obtain⟨k,h1,_⟩:=hK.one hk;exact⟨k,h1⟩) (ia s6);obtain⟨hj,dH⟩:=fp hf;simp only [Ck.isMap,beq_iff_eq]at dH;subst dH;have hS:=db j (by simp) _ hj;obtain⟨es,clock,hb,L4,hc,⟨q1,q2⟩,q3,q4,hSb⟩:=HX hS;have hk:((List.range mY.length).map (a.den ρ)).length=mY.length:=by simp
        have afJ:=cd _ (auz.2 rfl);rw [←BE.bQ,oc,cX,oD,auD]at afJ;have Ij:has.den ρ (aW ((List.range mY.length).map (a.den ρ)))=0:=by simpa [E.den] using afJ
        have lX:=cn (ρ:=ρ) qJ;have afK:=m8 (ρ:=ρ) hzv;rw [Uj]at afK;generalize hks:(List.range mY.length).map (a.den ρ)=ks at*;have F5:=fD (P:=P) (w:=w) false 9988 12 kt _ hK.lay _ _ (qE hk) (hK.val hk);have Xm: ∀m:List Int,m.length=mY.length→m≠ks→aW m≠aW ks:=fun m hm hn he=>hn (pH (hm.trans hk.symm) he)
        have Ui:=(auy.1 hb).1;have afL:aW ks≠0:=Nat.ne_of_gt (lN (fun e=>fy (auH (by rw [←hk,e];rfl))));have Is: ∀m:List Int,m.length=mY.length→aW m≠0:=fun m hm=>Nat.ne_of_gt (lN (fun e=>fy (auH (by rw [←hm,e];rfl))))
        have zb: ∀e∈es.toList,e.key≠ep zd mY ks:=by
         intro e he EF;obtain⟨m,m1,m2,m3,_⟩:=L4.keys e he;have:m=ks:=hK.inj m1 hk (m2.symm.trans EF);subst this;rw [Ij]at m3;cases m3
        rcases jZ (P:=P) (w:=w) hK hk es.toList (fun e he=>by obtain⟨m,h1,h2,_⟩:=L4.keys e he;exact⟨m,h1,h2⟩)with⟨h1,h2⟩ | ⟨j',e,h1,h2,h3⟩
        ·let f':Nat→Int:=(E.nm (.nm has (.lit 0) (dP (eJ has (.lit 0)) (.lit 1))) (LQ mY.length a) (dP (eJ has (.lit 0)) (.lit 2))).den ρ
         have F6: ∀q,f' q=if q=aW ks then(es.size:Int)+2 else if q=0 then(es.size:Int)+1 else has.den ρ q:=by
          intro q;simp only [f',E.den,oD,auD,bG,cX,hks];rw [show(ag 0)=0 from rfl,hc]
         refine⟨j,_,rfl,{w with heap:=w.heap.setIfInBounds (ρ.bv.getD b 0) (.map (es.push {key:=ep zd mY ks,val:=z,born:=clock}) (clock+1))},?_,⟨⟨_,hj,rfl⟩,rfl,⟨rfl,rfl,rfl,by simp⟩,by simp,fun k kY=>?_,?_⟩⟩
         ·show(Instr.mapEntry t (.map (some (ρ.bv.getD b 0))) _).run P w=_;rw [Xl];simp only [Instr.mapEntry,auC,run_underlying hm,aut,xK hb,F5,h1,hzr,E5 _ hb,auI];simp only [SV.val,SV.bH,afK,cX,E.den];rw [show(ag 0)=0 from rfl,hc,q1];rfl
         ·simp only [];rw [Array.getElem?_setIfInBounds_ne (fun e=>kY ((hSb k).2 e.symm))]
         ·have al0:ρ.bv.getD b 0<w.heap.size:=Ui;have tb:(w.heap.setIfInBounds (ρ.bv.getD b 0) (.map (es.push {key:=ep zd mY ks,val:=z,born:=clock}) (clock+1)))[ρ.bv.getD b 0]? =some (.map (es.push {key:=ep zd mY ks,val:=z,born:=clock}) (clock+1)):=L0 al0;have Yl:=q4 ks hk Ij;show(oN (ρ.bv.getD b 0) mY zd zD (SV.ao ρ zero) f' fun i=>(aA.map (bP.cells ρ)).flatMap fun c=>c i).p _ _;refine⟨⟨hSb,⟨_,_,tb,?_⟩,?_⟩,⟨_,_,tb,?_⟩,?_⟩
          ·rw [Array.toList_push];refine⟨fun e he=>?_,fun i i' e e' hi cD heq=>?_,fun m Av Pn=>?_⟩
           ·rcases auE.1 he with he | he
            ·obtain⟨m,m1,m2,m3,m4⟩:=L4.keys e he;have Iv:m≠ks:=fun h=>zb e he (by rw [m2,h])
             exact⟨m,m1,m2,by rw [F6,if_neg (Xm m m1 Iv),if_neg (Is m m1)];exact m3,m4⟩
            ·simp only [auz]at he;subst he;refine⟨ks,hk,rfl,by rw [F6,if_pos rfl];simp;omega,?_⟩;rw [Yl,lX,CU,Uj]
           ·rw [List.getElem?_append]at hi cD;split at hi<;>split at cD
            ·exact L4.once i i' e e' hi cD heq
            ·exfalso;have:e'={key:=ep zd mY ks,val:=z,born:=clock}:=by
              have:=auM cD;simpa using this
             subst this;exact h2 e (auM hi) heq
            ·exfalso;have:e={key:=ep zd mY ks,val:=z,born:=clock}:=by
              have:=auM hi;simpa using this
             subst this;exact h2 e' (auM cD) heq.symm
            ·have g1:=(aup.1 hi).1;have g2:=(aup.1 cD).1;simp only [List.length_cons,List.length_nil]at g1 g2;omega
           ·by_cases Iv:m=ks
            ·subst Iv;exact⟨_,List.mem_append_right _ (auz.2 rfl),rfl⟩
            ·rw [F6,if_neg (Xm m Av Iv),if_neg (Is m Av)]at Pn;obtain⟨e,he,EF⟩:=L4.all m Av Pn;exact⟨e,List.mem_append_left _ he,EF⟩
          ·intro m Av h0;have h0:(!(f' (aW m)==0))=false:=h0;rw [F6]at h0;by_cases Iv:m=ks
           ·subst Iv;exact Yl
           ·rw [if_neg (Xm m Av Iv),if_neg (Is m Av)]at h0;exact q4 m Av (by simpa using h0)
          ·rw [F6,if_neg (fun e=>afL e.symm),if_pos rfl];simp
          ·intro es1 cl1 Kg;rw [tb]at Kg;injection Kg with Kg
           injection Kg with Kg hc1
           subst Kg hc1;refine⟨⟨by rw [q1];simp,fun i e hi=>?_⟩,fun m Av=>?_⟩
           ·rw [Array.getElem?_push]at hi;split at hi
            ·rename_i heq;cases hi;rw [q1,heq]
            ·exact q2 i e hi
           ·rw [F6];by_cases Iv:m=ks
            ·subst Iv;rw [if_pos rfl];refine⟨by omega,fun _=>⟨{key:=ep zd mY m,val:=z,born:=clock},?_,rfl⟩⟩;rw [show((es.size:Int)+2).toNat - 2=es.size by omega,Array.getElem?_push,if_pos rfl]
            ·rw [if_neg (Xm m Av Iv),if_neg (Is m Av)];obtain⟨g1,g2⟩:=q3 m Av;refine⟨g1,fun h2'=>?_⟩;obtain⟨e,g3,g4⟩:=g2 h2';have:=(auy.1 g3).1;exact⟨e,by rw [Array.getElem?_push,if_neg (by omega)];exact g3,g4⟩
        ·exact absurd h3 (zb e (auM h2))
       ·cases h
      ·cases h
     ·cases h
    ·cases h
   ·cases h
  ·cases h
 ·cases h
theorem BR(t:Nat){x s v:SV}{res:iC}(h:Bz hp x s v=some res)(db:Reads hp ρ w S res.rd)(cd: ∀b∈res.vcs,b.prop ρ):
  res.val= .undef∧∃j ck,res.iD= .set j ck∧∃w',(Instr.entryStore t (x.val ρ) (s.val ρ) (v.val ρ)).run P w= .ok () w'∧CS P w ρ hp S j ck w':=by
 unfold Bz at h;split at h
 ·rename_i b e vs Ie;split at h
  ·rename_i j b' kl ka va zero hh n a y aA hf;split at h
   ·rename_i gJ;obtain⟨rfl,hlen,yN⟩:=gJ;split at h
    ·rename_i aS lY;cases h;obtain⟨hj,dH⟩:=fp hf;simp only [Ck.isMap,beq_iff_eq]at dH;subst dH;have hS:=db j (by simp) _ hj;obtain⟨es,clock,hb,L4,hc,⟨q1,q2⟩,q3,q4,hSb⟩:=HX hS;have hk:((List.range kl.length).map (a.den ρ)).length=kl.length:=by simp
     have v1:=cd (xS (.lit 0) e) (by simp);have v2:=cd (TO (eJ (.nm hh (.kc kl.length a) y) (.kc kl.length a)) (dP e (.lit 2))) (by simp);rw [←BE.bQ,iX]at v1;rw [←BE.bQ,oc,cX,bG]at v2;have v1:0≤e.den ρ 0:=of_decide_eq_true v1;have hfk:(E.nm hh (.kc kl.length a) y).den ρ (aW ((List.range kl.length).map (a.den ρ)))=e.den ρ 0+2:=by
      have:(E.kc kl.length a).den ρ 0=(aW ((List.range kl.length).map (a.den ρ)):Nat):=rfl;rw [this,auD]at v2;simpa [E.den] using v2
     obtain⟨p1,p2,p3,p4⟩:=jv ρ lY;have e0:((E.kc kl.length a).den ρ 0).toNat=aW ((List.range kl.length).map (a.den ρ)):=by
      show(((aW ((List.range kl.length).map (a.den ρ)):Nat):Int)).toNat=_;rw [auD]
     rw [e0]at p3 p4;generalize hfe:(E.nm hh (.kc kl.length a) y).den ρ=f at*;have Tr:rowAt ρ aS (aW ((List.range kl.length).map (a.den ρ)))=SV.ao ρ vs:=by
      rw [p4,List.drop_eq_nil_of_le,List.append_nil];rw [show(rowAt ρ aA _).length=b_ aA from dQ ρ aA _,bu];exact Nat.le_of_eq hlen.symm
     have E7:=xM (ρ:=ρ) Ie;rw [yN]at E7;generalize hks:(List.range kl.length).map (a.den ρ)=ks at*;obtain⟨g1,g2⟩:=q3 ks hk;obtain⟨e1,g3,g4⟩:=g2 (by rw [hfk];omega);rw [hfk]at g3;have hi:(e.den ρ 0+2).toNat - 2=(e.den ρ 0).toNat:=by omega
     rw [hi]at g3;have cF:=(auy.1 g3).1;have afM:es.findIdx? (fun e'=>(e'.born:Int)==e.den ρ 0)=some (e.den ρ 0).toNat:=by
      rw [Array.findIdx?_eq_some_iff_getElem];refine⟨cF,?_,fun i cD=>?_⟩
      ·have:=q2 _ e1 g3;rw [Array.getElem?_eq_getElem cF,auq]at g3;rw [g3,this];simp;omega
      ·have:=q2 i es[i] (by simp);rw [this];simp;omega
     have Ui:=(auy.1 hb).1;have tb:(w.heap.setIfInBounds (ρ.bv.getD b 0) (.map (es.modify (e.den ρ 0).toNat fun e'=>{e' with val:=v.val ρ}) clock))[ρ.bv.getD b 0]? =some (.map (es.modify (e.den ρ 0).toNat fun e'=>{e' with val:=v.val ρ}) clock):=L0 Ui;have rV: ∀(i:Nat),(es.modify (e.den ρ 0).toNat fun e'=>{e' with val:=v.val ρ})[i]? =if(e.den ρ 0).toNat=i then(es[i]?).map (fun e'=>{e' with val:=v.val ρ})else es[i]? :=fun i=>Array.getElem?_modify
     have Cx: ∀(i:Nat) u,(es.modify (e.den ρ 0).toNat fun e'=>{e' with val:=v.val ρ})[i]? =some u→∃u1,es[i]? =some u1∧u.key=u1.key∧u.born=u1.born∧(i≠(e.den ρ 0).toNat→u.val=u1.val)∧(i=(e.den ρ 0).toNat→u.val=v.val ρ):=by
      intro i u hu;rw [rV]at hu;split at hu
      ·rename_i nR;subst nR;rw [g3,Option.map_some,auq]at hu;subst hu;exact⟨e1,g3,rfl,rfl,fun h=>absurd rfl h,fun _=>rfl⟩
      ·rename_i nR;exact⟨u,hu,rfl,rfl,fun _=>rfl,fun h=>absurd h.symm nR⟩
     have Ym: ∀(i:Nat) u1,es[i]? =some u1→∃u,(es.modify (e.den ρ 0).toNat fun e'=>{e' with val:=v.val ρ})[i]? =some u∧u.key=u1.key:=by
      intro i u1 hu;rw [rV,hu];split
      ·exact⟨{u1 with val:=v.val ρ},rfl,rfl⟩
      ·exact⟨u1,rfl,rfl⟩
     refine⟨rfl,j,_,rfl,{w with heap:=w.heap.setIfInBounds (ρ.bv.getD b 0) (.map (es.modify (e.den ρ 0).toNat fun e'=>{e' with val:=v.val ρ}) clock)},?_,⟨⟨_,hj,rfl⟩,rfl,⟨rfl,rfl,rfl,by simp⟩,by simp,fun k kY=>?_,?_⟩⟩
     ·show(Instr.entryStore t (.map (some (ρ.bv.getD b 0))) (.int .i64 (e.den ρ 0)) _).run P w=_;simp only [Instr.entryStore,auC,xK hb,aut,asInt,asIntOf,auI,afM];exact E5 _ hb
     ·simp only [];rw [Array.getElem?_setIfInBounds_ne (fun e=>kY ((hSb k).2 e.symm))]
     ·show(oN (ρ.bv.getD b 0) kl ka va (SV.ao ρ zero) ((E.nm hh (.kc kl.length a) y).den ρ) fun i=>(aS.map (bP.cells ρ)).flatMap fun c=>c i).p _ _;rw [hfe];refine⟨⟨hSb,⟨_,_,tb,?_⟩,?_⟩,⟨_,_,tb,?_⟩,?_⟩
      ·refine⟨fun u hu=>?_,fun i i' u u' hu hu' heq=>?_,fun m Av Pn=>?_⟩
       ·obtain⟨i,cD⟩:=List.getElem?_of_mem hu;rw [auX]at cD;obtain⟨u1,k1,k2,_,k4,k5⟩:=Cx i u cD;obtain⟨m,m1,m2,m3,m4⟩:=L4.keys u1 (auM (by rw [auX];exact k1));by_cases nR:i=(e.den ρ 0).toNat
        ·subst nR;rw [g3,auq]at k1;subst k1;refine⟨ks,hk,by rw [k2,g4],?_,?_⟩
         ·show(!(f (aW ks)==0))=true;rw [hfk];simp;omega
         ·rw [k5 rfl,E7];exact congrArg (wL va) Tr.symm
        ·have fy:aW m≠aW ks:=by
          intro hc';have:m=ks:=pH (m1.trans hk.symm) hc';subst this;exact nR (L4.once i (e.den ρ 0).toNat u1 e1 (by rw [auX];exact k1) (by rw [auX];exact g3) (by rw [m2,g4]))
         refine⟨m,m1,by rw [k2,m2],m3,?_⟩;rw [k4 nR,m4];exact congrArg (wL va) (p3 _ fy).symm
       ·rw [auX]at hu hu';obtain⟨u1,k1,k2,_⟩:=Cx i u hu;obtain⟨u1',k1',k2',_⟩:=Cx i' u' hu';exact L4.once i i' u1 u1' (by rw [auX];exact k1) (by rw [auX];exact k1') (by rw [←k2,←k2',heq])
       ·obtain⟨u1,hu,EF⟩:=L4.all m Av Pn;obtain⟨i,cD⟩:=List.getElem?_of_mem hu;rw [auX]at cD;obtain⟨u,k1,k2⟩:=Ym i u1 cD;exact⟨u,auM (by rw [auX];exact k1),by rw [k2,EF]⟩
      ·intro m Av h0;have h0:(!(f (aW m)==0))=false:=h0;have PV:f (aW m)=0:=by simpa using h0
       have fy:aW m≠aW ks:=by
        intro hc';rw [hc',hfk]at PV;omega
       exact(p3 _ fy).trans (q4 m Av PV)
      ·rw [hc];simp
      ·intro es1 cl1 Kg;rw [tb]at Kg;injection Kg with Kg
       injection Kg with Kg hc1
       subst Kg hc1;refine⟨⟨by rw [q1];simp,fun i u hu=>?_⟩,fun m Av=>?_⟩
       ·obtain⟨u1,k1,_,k3,_⟩:=Cx i u hu;rw [k3];exact q2 i u1 k1
       ·obtain⟨z1,z2⟩:=q3 m Av;refine⟨z1,fun h2'=>?_⟩;obtain⟨u1,z3,z4⟩:=z2 h2';obtain⟨u,k1,k2⟩:=Ym _ u1 z3;exact⟨u,k1,by rw [k2,z4]⟩
    ·cases h
   ·cases h
  ·cases h
 ·cases h
end
end Go.RX
