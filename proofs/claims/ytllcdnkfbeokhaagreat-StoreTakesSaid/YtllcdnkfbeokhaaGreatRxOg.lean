/- Executor. -/
import Derived.Test.YtllcdnkfbeokhaaGreatRxOf
open Array renaming getElem?_eq_some_iff → aqw, getElem?_toList → aqS
open Bool renaming and_eq_true → ai
open Go.Result renaming andThen_ok → aqu
open Go.Sem renaming run_bind → aqA, run_pure → aqH
open Int renaming toNat → ag, toNat_natCast → aqD
open List renaming eq_nil_of_length_eq_zero → aqF, getElem?_eq_some_iff → aqo, mem_append → aqC, mem_of_getElem? → aqG, mem_singleton → aqx
open Option renaming map_eq_some_iff → aqq
open Option.some renaming injEq → aqp
namespace Go.RX
section
variable {P:Program} {ρ:Env} {w:World} {look:Nat→Option SV} {bD:Operand→Value} {hp:List Ck} {S:Nat→Nat→Prop} {nb nv:Nat} {T:List TI}
theorem Lq{a:E}{i:Nat}{x:Int}(h:PV a i=some x):a.den ρ i=x:=by
 unfold PV at h;split at h
 ·rename_i n hn;cases h;have:=cJ ρ a (.lit i) 0;rw [hn]at this;simp only [E.den,aqD]at this;exact this.symm
 ·cases h
theorem tj{a:E}: ∀{n:Nat} {l:List Int},vX a n=some l→l=(List.range n).map (a.den ρ)
 | 0,l,h=>by simp [vX]at h;subst h;rfl
 | n+1,l,h=>by
  unfold vX at h;split at h
  ·rename_i l' x h1 h2;cases h;rw [List.range_succ,List.map_append,←tj h1];simp [Lq h2]
  ·cases h
theorem nI(n:Nat)(a:E):((I5 n a).den ρ 0)=(aS ((List.range n).map (a.den ρ)):Nat):=by
 unfold I5;split
 ·rename_i l h;rw [←tj h];rfl
 ·rfl
theorem qY: ∀{l:List iB} {kl:List IntKind},tc l=some kl→l=kl.map some
 | [],kl,h=>by simp [tc]at h;subst h;rfl
 | some k::r,kl,h=>by
  simp only [tc,aqq]at h;obtain⟨x,hx,rfl⟩:=h;rw [qY hx];rfl
 | none::r,kl,h=>by simp [tc]at h
theorem og(hT:bx P T=true){t:Nat}{tk:TI}(ht:aP T t=some tk){kl:List IntKind}{ka:Bool}(h:oR tk=some (kl,ka)):C1 P t kl ka:=by
 obtain⟨rfl,cO⟩:=aA hT ht;have df:=cO.kind;unfold oR at h;split at h
 ·rename_i k hk;cases h;rw [hk]at df;have hu:=j7 df;exact⟨by simp [fY,hu],fun _=>⟨k,rfl,hu⟩,fun h=>(by cases h)⟩
 ·rename_i fs hk;split at h
  ·cases h
  ·rename_i fg;rw [aqq]at h;obtain⟨l,hl,he⟩:=h;cases he;rw [hk]at df;obtain⟨fa,hu,_⟩:=nr df;rcases cO.lay with h | ⟨h,_⟩
   ·exact absurd h fg
   ·rw [qY hl]at h;exact⟨h,fun h=>(by cases h),fun _=>⟨fun cs=>by simp [Dd,hu],by simp [hu]⟩⟩
 ·rename_i n e hk;split at h
  ·cases h
  ·rename_i fg;rw [aqq]at h;obtain⟨l,hl,he⟩:=h;cases he;rw [hk]at df;have hu:=oJ df;rcases cO.lay with h | ⟨h,_⟩
   ·exact absurd h fg
   ·rw [qY hl]at h;exact⟨h,fun h=>(by cases h),fun _=>⟨fun cs=>by simp [Dd,hu],by simp [hu]⟩⟩
 ·cases h
theorem mn{ka:Bool}{k:SV}{kc:List SV}(h:qS ka k=some kc){kl:List IntKind}{ks:List Int}(hk:ks.length=kl.length)(h1:ka=false→∃k,kl=[k])(hc:SV.ao ρ kc=xN kl ks):k.val ρ=dX ka kl ks:=by
 unfold qS at h;split at h
 ·cases h;simp only [SV.val,hc,uM]
 ·rename_i q e;cases h;obtain⟨k0,rfl⟩:=h1 rfl
  match ks,hk,hc with
  | [x],_,hc=>
   have hc:[Value.int q (e.den ρ 0)]=[Value.int k0 x]:=hc;simp only [List.cons.injEq,and_true]at hc;exact hc
 ·cases h
theorem qZ{d:Option TypeDesc}{k v:Nat}(h:iV d (.map k v)=true):d=some (.map k v):=by
 unfold iV at h;split at h<;>simp_all
theorem eQ{hp:List Ck}{b j:Nat}{ck:Ck}(h:mg hp b=some (j,ck)):hp[j]? =some ck∧ck.isMap b=true:=by
 unfold mg at h;split at h
 ·rename_i i hi;rw [aqq]at h;obtain⟨c,hc,he⟩:=h;cases he;refine⟨hc,?_⟩;rw [List.findIdx?_eq_some_iff_getElem]at hi;obtain⟨cq,h1,_⟩:=hi;rw [List.getElem?_eq_getElem cq]at hc;cases hc;exact h1
 ·cases h
theorem z5{te:TI}{z:List bL}(h:vY T te=some z): ∀i:Nat,rowAt ρ z i=SV.ao ρ te.zero:=by
 unfold vY at h;split at h
 ·split at h
  ·rename_i hz;cases h;simp only [ai,List.isEmpty_iff]at hz;intro i;rw [hz.1];rfl
  ·cases h
 ·exact fun i=>(fS h).1 i
theorem cb: ∀{a b:List SV},ez a b=true→SV.ao ρ a=SV.ao ρ b
 | [],[],_=>rfl
 | [],_::_,h=>by simp [ez]at h
 | v::r,[],h=>by cases v<;>simp [ez]at h
 | v::r,u::s,h=>by
  unfold ez at h;split at h
  ·rename_i h1 _;cases h1
  ·rename_i h1 h2;cases h1;cases h2;simp only [ai,beq_iff_eq]at h;obtain⟨⟨rfl,rfl⟩,h⟩:=h;simp only [SV.ao,cb h]
  ·rename_i h1 h2;cases h1;cases h2;simp only [ai,beq_iff_eq]at h;obtain⟨rfl,h⟩:=h;simp only [SV.ao,cb h]
  ·rename_i h1 h2;cases h1;cases h2;simp only [ai,beq_iff_eq]at h;obtain⟨⟨⟨rfl,rfl⟩,rfl⟩,h⟩:=h;simp only [SV.ao,cb h]
  ·rename_i h1 h2;cases h1;cases h2;simp only [SV.ao,cb h]
  ·rename_i h1 h2;cases h1;cases h2;simp only [SV.ao,cb h]
  ·rename_i h1 h2;cases h1;cases h2;simp only [SV.ao,cb h]
  ·rename_i h1 h2;cases h1;cases h2;simp only [SV.ao,cb h]
  ·rename_i h1 h2;cases h1;cases h2;simp only [SV.ao,cb h]
  ·rename_i h1 h2;cases h1;cases h2;simp only [ai,beq_iff_eq]at h;obtain⟨rfl,h⟩:=h;simp only [SV.ao,cb h]
  ·cases h
theorem FA{k:Nat}{v:List SV}: ∀{es:List (Nat×List SV)} {q:Nat},qw (lM k v es) q=if q=k then true else qw es q
 | [],q=>by simp only [lM,qw,eq_comm]
 | (i,u)::r,q=>by
  simp only [lM];split
  ·rename_i h;subst h;simp only [qw,eq_comm];split<;>rfl
  ·rename_i h;simp only [qw];split
   ·rename_i h2;subst h2;rw [if_neg h]
   ·exact FA
theorem FB{k:Nat}{v z:List SV}: ∀{es:List (Nat×List SV)} {q:Nat},jU (lM k v es) z q=if q=k then v else jU es z q
 | [],q=>by simp only [lM,jU,eq_comm]
 | (i,u)::r,q=>by
  simp only [lM];split
  ·rename_i h;subst h;simp only [jU,eq_comm];split<;>rfl
  ·rename_i h;simp only [jU];split
   ·rename_i h2;subst h2;rw [if_neg h]
   ·exact FB
theorem wj(_:bx P T=true)(BZ:ρ.bv.length=nb){t:Nat}{res:gY}(h:tf T nb t=some res):
  Did P ρ w hp S nb nv ((do pure (.value (←Instr.makeMap t none)):Sem Next).run P w) res:=by
 unfold tf at h;split at h
 ·rename_i kt vt sz by_ zr ly fQ;split at h
  ·rename_i tk tv AY htv;split at h
   ·rename_i kl ka ay hk hz;cases h;refine⟨w.alloc (.map #[] 0),_,if_pos rfl,?_,⟨rfl,rfl,rfl,by simp⟩,by simp,fun k hk=>heap_alloc_old w _ hk,⟨fun k=>Iff.rfl,⟨#[],0,heap_alloc_new w _,?_⟩,?_⟩,⟨#[],0,heap_alloc_new w _,rfl⟩,fun es clock he=>?_⟩
    ·subst BZ;simp [Instr.makeMap,SV.val,jH]
    ·refine⟨by simp,by simp,fun ks _ hh=>by simp [E.den]at hh⟩
    ·intro ks _ _;split at hz
     ·cases hz
     ·exact z5 (ρ:=ρ) hz _
    ·rw [heap_alloc_new]at he;injection he with he
     injection he with he hc
     subst he hc;exact⟨⟨rfl,fun i e h=>by simp at h⟩,fun ks _=>⟨Int.le_refl 0,fun h=>by simp [E.den]at h⟩⟩
   ·rename_i kl ka hk hz;cases h;refine⟨w.alloc (.map #[] 0),_,if_pos rfl,?_,⟨rfl,rfl,rfl,by simp⟩,by simp,fun k hk=>heap_alloc_old w _ hk,⟨fun k=>Iff.rfl,⟨#[],0,heap_alloc_new w _,?_⟩,?_⟩⟩
    ·subst BZ;simp [Instr.makeMap,SV.val,jH]
    ·refine⟨by simp,by simp,fun ks _ hh=>by simp [qw]at hh⟩
    ·intro ks _ _;rfl
   ·cases h
  ·cases h
 ·cases h
theorem mo{agg:Bool}{cs:List SV}{v:SV}(h:iU agg cs=some v):v.val ρ=uW agg (SV.ao ρ cs):=by
 obtain⟨h1,h2⟩:=np ρ h;cases agg with
 | true=>rw [h1 rfl];rfl
 | false=>have:=h2 rfl;rw [this];rfl
theorem FC{ti:TI}(cO:kz P ti){i:TypeInfo}{z:Value}(hi:P.info? ti.t=some i)(hz:i.zero=some z)(hc:SV.ao ρ ti.zero=z.cells.toList):uW ti.k.agg (SV.ao ρ ti.zero)=z:=by
 have hg:=cO.zag i z hi hz;rw [hc];cases z with
 | agg cs=>simp only at hg;rw [hg];simp [uW,Value.cells]
 | _=>simp only [Bool.not_eq_true']at hg;rw [hg];simp [uW,Value.cells]
theorem xJ(hT:bx P T=true){t:Nat}{x k:SV}{comma:Bool}{res:gY}(h:vZ T hp t x k comma=some res)(cN:Reads hp ρ w S res.rd):
  (Instr.lookup t (x.val ρ) (k.val ρ) comma).run P w= .ok (res.val.val ρ) w∧res.gZ= .none:=by
 unfold vZ at h;split at h
 ·rename_i kt vt sz by_ zr ly fQ;obtain⟨ht,cO⟩:=aA hT fQ;have hm:P.underlying t=some (.map kt vt):=by
   have:=cO.kind;rw [←ht];exact qZ this
  split at h
  ·rename_i tk tv AY htv;obtain⟨rfl,PZ⟩:=aA hT htv;obtain⟨iv,hiv,_,_,z,hz,yJ⟩:=PZ.info;have hzr:(zeroValue tv.t).run P w= .ok z w:=by simp [zeroValue,typeInfo,hiv,hz]
   have QO:=FC (ρ:=ρ) PZ hiv hz (yJ ρ);split at h
   ·rename_i kl ka df;have hK:=og hT AY df;split at h
    ·rename_i kc YA;split at h
     ·rename_i HL a rL;split at h
      ·cases h
      ·rename_i JF;simp only [ne_eq,Decidable.not_not]at JF;subst JF;have Th:=mn (ρ:=ρ) (ks:=(List.range HL.length).map (a.den ρ)) YA (by simp) (fun hk=>by obtain⟨k,h1,_⟩:=hK.one hk;exact⟨k,h1⟩) (gJ rL);split at h
       ·rw [aqq]at h;obtain⟨v,hv,rfl⟩:=h;refine⟨?_,rfl⟩;have C4:=mo (ρ:=ρ) hv;rw [QO]at C4;rw [Th];have:=zZ (P:=P) (w:=w) hm hK (ks:=(List.range HL.length).map (a.den ρ)) (comma:=comma) (by simp) hzr;show(Instr.lookup t (.map none) _ comma).run P w=_;rw [this];cases comma<;>simp [SV.val,SV.bD,C4,BE.den]
       ·rename_i b;split at h
        ·rename_i j b' mh xI yd BI has ay hf;split at h
         ·rename_i fZ;obtain⟨rfl,rfl,rfl,pK⟩:=fZ;split at h
          ·rename_i es xP;rw [aqq]at h;obtain⟨v,hv,rfl⟩:=h;refine⟨?_,rfl⟩;obtain⟨hj,dK⟩:=eQ hf;simp only [Ck.isMap,beq_iff_eq]at dK;subst dK;have hS:=cN j (by simp) _ hj;have mC:=mF ρ xP;rw [nI,aqD]at mC;have C4:=mo (ρ:=ρ) hv;rw [mC]at C4;rw [Th];have hz2:=cb (ρ:=ρ) pK;rw [←hz2]at QO;have:=qV (P:=P) (w:=w) hm hK (ks:=(List.range mh.length).map (a.den ρ)) (comma:=comma) (by simp) hS.1 hzr QO;show(Instr.lookup t (.map (some (ρ.bv.getD b 0))) _ comma).run P w=_;rw [this];cases comma with
           | false=>simp only [Bool.false_eq_true,if_false,C4]
           | true=>
            simp only [if_true,SV.val,SV.bD,C4,xM,cJ,nI,aqD]
          ·cases h
         ·cases h
        ·rename_i j b' mh xI yd BI es hf;split at h
         ·rename_i fZ;obtain⟨rfl,rfl,rfl,pK⟩:=fZ;split at h
          ·rename_i n XD;rw [aqq]at h;obtain⟨v,hv,rfl⟩:=h;refine⟨?_,rfl⟩;obtain⟨hj,dK⟩:=eQ hf;simp only [Ck.isMap,beq_iff_eq]at dK;subst dK;have hS:=cN j (by simp) _ hj;rw [Ck.lh]at hS;have LW:n.toNat=aS ((List.range mh.length).map (a.den ρ)):=by
            have:=nI (ρ:=ρ) mh.length a;rw [XD]at this;simp only [E.den]at this;rw [this,aqD]
           have C4:=mo (ρ:=ρ) hv;rw [LW]at C4;rw [Th];have hz2:=cb (ρ:=ρ) pK;rw [←hz2]at QO;have:=qV (P:=P) (w:=w) hm hK (ks:=(List.range mh.length).map (a.den ρ)) (comma:=comma) (by simp) hS hzr QO;show(Instr.lookup t (.map (some (ρ.bv.getD b 0))) _ comma).run P w=_;rw [this];cases comma with
           | false=>simp only [Bool.false_eq_true,if_false,C4]
           | true=>simp only [if_true,SV.val,SV.bD,C4,BE.den,LW]
          ·cases h
         ·cases h
        ·cases h
       ·cases h
     ·cases h
    ·cases h
   ·cases h
  ·cases h
 ·cases h
theorem wk{v:SV}{vs:List SV}(h:eM v=some vs):v.val ρ=uW (zK v) (SV.ao ρ vs):=by
 cases v with
 | agg cs=>
  simp only [eM]at h;split at h
  ·cases h;rfl
  ·cases h
 | cQ k n a=>
  simp only [eM,SV.one,if_true,aqp]at h;subst h;simp [SV.val,SV.ao,SV.cells,zK,uW]
 | opt c v=>simp [eM,SV.one]at h
 | undef=>simp [eM,SV.one]at h
 | nO vs=>simp [eM,SV.one]at h
 | _=>
  simp only [eM,SV.one,if_true,aqp]at h;subst h;rfl
theorem kS: ∀{l:List Int},l≠[]→0<aS l:=by
 intro l hl;rcases List.eq_nil_or_concat l with rfl | ⟨l,c,rfl⟩
 ·exact absurd rfl hl
 ·rw [List.concat_eq_append,aS,List.foldl_append];simp only [List.foldl_cons,List.foldl_nil,sB];exact Nat.mul_pos (by omega) (Nat.two_pow_pos _)
theorem P0{b:Nat}{kl:List IntKind}{ka va:Bool}{zero:List Value}{f f':Nat→Int}{zQ:Nat→Bool}{row Fz:Nat→List Value}{w w':World}{S:Nat→Prop}{ks:List Int}
  (hS:(nQ b kl ka va zero f row).p w S) (r5:(tD b kl ka va zero zQ Fz).p w' S) (hk:ks.length=kl.length)
  (hh: ∀q,zQ q=if q=aS ks then true else !(f q==0)) (hf: ∀q,f' q=if q=aS ks then 1 else if q=0 then f 0+1 - min (f (aS ks)) 1 else f q)
  (r6: ∀es clock,w.heap[b]? =some (.map es clock)→∃AG qW,w'.heap[b]? =some (.map AG qW)∧(AG.size:Int)=es.size+(if !(f (aS ks)==0)then 0 else 1)∧Grown es clock AG qW):
  (nQ b kl ka va zero f' Fz).p w' S:=by
 obtain⟨h1,⟨C3,cl0,Uk,YT⟩,h01⟩:=hS;have hz: ∀m:List Int,m.length=kl.length→aS m≠aS ks→aS m≠0:=by
  intro m hm fg h0;by_cases Gr:m=[]
  ·subst Gr;have:ks=[]:=aqF (by rw [hk,←hm];rfl);exact fg (by rw [this])
  ·exact absurd h0 (Nat.ne_of_gt (kS Gr))
 have eV: ∀m:List Int,m.length=kl.length→(!(f' (aS m)==0))=zQ (aS m):=by
  intro m hm;rw [hh,hf];by_cases he:aS m=aS ks
  ·rw [if_pos he,if_pos he];rfl
  ·rw [if_neg he,if_neg he,if_neg (hz m hm he)]
 refine⟨⟨r5.1,?_,?_⟩,?_,?_⟩
 ·obtain⟨es,cl,hb,hm⟩:=r5.2.1;refine⟨es,cl,hb,⟨fun e he=>?_,hm.once,fun m Yu LV=>hm.all m Yu (by rw [←eV m Yu];exact LV)⟩⟩;obtain⟨m,m1,m2,m3,m4⟩:=hm.keys e he;exact⟨m,m1,m2,by rw [eV m m1];exact m3,m4⟩
 ·intro m hm hf0;exact r5.2.2 m hm (by rw [←eV m hm];exact hf0)
 ·obtain⟨AG,cl',FU,UU,_⟩:=r6 C3 cl0 Uk;refine⟨AG,cl',FU,?_⟩;have h01:=((h01 C3 cl0 Uk).2 ks hk).1;rw [UU,hf];by_cases h0:0=aS ks
  ·have Yy:ks=[]:=by
    by_cases hn:ks=[]
    ·exact hn
    ·exact absurd h0 (Nat.ne_of_lt (kS hn))
   have hle:C3.size≤1:=by
    obtain⟨es,cl,hb,hm⟩:=h1.2.1;rw [Uk]at hb;injection hb with hb
    injection hb with hb _
    subst hb;have JF:kl=[]:=aqF (by rw [←hk,Yy];rfl);rcases Nat.lt_or_ge 1 C3.size with h | h
    ·exfalso;obtain⟨m,m1,m2,_⟩:=hm.keys C3[0] (by simp);obtain⟨n,n1,n2,_⟩:=hm.keys C3[1] (by simp);have e1:m=[]:=aqF (by rw [m1,JF];rfl);have e2:n=[]:=aqF (by rw [n1,JF];rfl);have:=hm.once 0 1 C3[0] C3[1] (by simp) (by simp) (by rw [m2,n2,e1,e2]);omega
    ·exact h
   rw [if_pos h0];rw [←h0]at h01 ⊢;rw [YT]at h01 ⊢;by_cases he:(C3.size:Int)=0
   ·rw [he];rfl
   ·rw [show(C3.size:Int)=1 by omega];rfl
  ·rw [if_neg h0,if_pos rfl,YT];by_cases he:f (aS ks)=0
   ·rw [he];rfl
   ·rw [show((f (aS ks))==0)=false by simpa using he,show min (f (aS ks)) 1=1 by omega];simp
 ·intro es1 cl1 Ao;obtain⟨AG,cl',FU,UU,hg⟩:=r6 C3 cl0 Uk;rw [Ao]at FU;injection FU with FU
  injection FU with FU eG
  subst FU eG;obtain⟨⟨q1,q2⟩,q3⟩:=h01 C3 cl0 Uk;obtain⟨hg1,hg2⟩:=hg;refine⟨⟨?_,?_⟩,?_⟩
  ·rcases hg1 with⟨a,b⟩ | ⟨a,b,_⟩<;>omega
  ·intro i e hi;by_cases cq:i<C3.size
   ·obtain⟨e',h1,_,h3⟩:=hg2 i C3[i] (by simp [cq]);rw [hi,aqp]at h1;subst h1;rw [h3];exact q2 i C3[i] (by simp [cq])
   ·have hl:=(aqw.1 hi).1;rcases hg1 with⟨a,b⟩ | ⟨a,b,c⟩
    ·omega
    ·have:i=C3.size:=by omega
     subst this;rw [c e hi,q1]
  ·intro m hm;rw [hf];by_cases he:aS m=aS ks
   ·rw [if_pos he];exact⟨by decide,fun h=>by omega⟩
   ·rw [if_neg he,if_neg (hz m hm he)];obtain⟨a,b⟩:=q3 m hm;refine⟨a,fun h2=>?_⟩;obtain⟨e,h3,h4⟩:=b h2;obtain⟨e',h5,h6,_⟩:=hg2 _ e h3;exact⟨e',h5,by rw [h6,h4]⟩
theorem pR(hT:bx P T=true){t:Nat}{x k v:SV}{res:gY}(h:rF T hp t x k v=some res)(cN:Reads hp ρ w S res.rd):
  res.val= .undef∧∃j ck,res.gZ= .set j ck∧∃w',(Instr.mapUpdate t (x.val ρ) (k.val ρ) (v.val ρ)).run P w= .ok () w'∧Bb P w ρ hp S j ck w':=by
 unfold rF at h;split at h
 ·rename_i kt vt sz by_ zr ly fQ;obtain⟨ht,cO⟩:=aA hT fQ;have hm:P.underlying t=some (.map kt vt):=by
   have:=cO.kind;rw [←ht];exact qZ this
  split at h
  ·rename_i tk tv AY htv;split at h
   ·rename_i kl ka df;have hK:=og hT AY df;split at h
    ·rename_i kc vs YA FQ;split at h
     ·rename_i HL a b rL;split at h
      ·rename_i j b' mh xI yd zero has ay hf;split at h
       ·rename_i fZ;obtain⟨rfl,rfl,rfl,Be,hlen,xq⟩:=fZ;split at h
        ·rename_i aN nR;cases h;have Th:=mn (ρ:=ρ) (ks:=(List.range mh.length).map (a.den ρ)) YA (by simp) (fun hk=>by obtain⟨k,h1,_⟩:=hK.one hk;exact⟨k,h1⟩) (gJ rL);obtain⟨hj,dK⟩:=eQ hf;simp only [Ck.isMap,beq_iff_eq]at dK;subst dK;have hS:=cN j (by simp) _ hj;obtain⟨p1,p2,p3,p4⟩:=iW ρ nR;rw [nI,aqD]at p3 p4;have C4:=wk (ρ:=ρ) FQ;rw [xq,←Be]at C4;have P1:rowAt ρ aN (aS ((List.range mh.length).map (a.den ρ)))=SV.ao ρ vs:=by
          rw [p4,List.drop_eq_nil_of_le,List.append_nil];rw [show(rowAt ρ ay _).length=bW ay from dC ρ ay _,bh];exact Nat.le_of_eq hlen.symm
         obtain⟨C3,cl0,Uk,YT⟩:=hS.2.1
         let f':Nat→Int:=(E.m7 (.m7 has (.lit 0) (sC (dB (eu has (.lit 0)) (.lit 1)) (sG .ib .i64 (eu has (I5 mh.length a)) (.lit 1)))) (I5 mh.length a) (.lit 1)).den ρ
         have DY: ∀q,f' q=if q=aS ((List.range mh.length).map (a.den ρ))then 1 else if q=0 then has.den ρ 0+1 - min (has.den ρ (aS ((List.range mh.length).map (a.den ρ)))) 1 else has.den ρ q:=by
          intro q;simp only [f',E.den,nI,aqD,eZ,bB,cJ,kY,ar];have abC: ∀x:Int,(if(1:Int)<x then 1 else x)=min x 1:=fun x=>by split<;>omega
          rw [abC];rfl
         obtain⟨w',r1,r2,r3,r4,r5,r6⟩:=qX (P:=P) (w:=w) hm hK (ks:=(List.range mh.length).map (a.den ρ)) (by simp) hS.1 (v.val ρ) (SV.ao ρ vs) C4
          (zQ:=fun q=>if q=aS ((List.range mh.length).map (a.den ρ))then true else !(has.den ρ q==0)) (Fz:=fun i=>(aN.map (bL.cells ρ)).flatMap fun c=>c i)
          (fun q=>rfl)
          (fun q=>by
           split
           ·rename_i hq;rw [hq];exact P1
           ·rename_i hq;exact p3 q hq)
         refine⟨rfl,j,_,rfl,w',?_,⟨⟨_,hj,rfl⟩,rfl,r2,r3,fun k hk=>r4 k (fun e=>hk ((hS.1.1 k).2 e)),P0 hS r5 (by simp) (fun q=>rfl) DY r6⟩⟩;rw [Th];exact r1
        ·cases h
       ·cases h
      ·rename_i j b' mh xI yd zero es hf;split at h
       ·rename_i fZ;obtain⟨rfl,rfl,rfl,Be,xq⟩:=fZ;split at h
        ·rename_i n XD;cases h;have Th:=mn (ρ:=ρ) (ks:=(List.range mh.length).map (a.den ρ)) YA (by simp) (fun hk=>by obtain⟨k,h1,_⟩:=hK.one hk;exact⟨k,h1⟩) (gJ rL);obtain⟨hj,dK⟩:=eQ hf;simp only [Ck.isMap,beq_iff_eq]at dK;subst dK;have hS:=cN j (by simp) _ hj;rw [Ck.lh]at hS;have LW:n.toNat=aS ((List.range mh.length).map (a.den ρ)):=by
          have:=nI (ρ:=ρ) mh.length a;rw [XD]at this;simp only [E.den]at this;rw [this,aqD]
         have C4:=wk (ρ:=ρ) FQ;rw [xq,←Be]at C4;obtain⟨w',r1,r2,r3,r4,r5,_⟩:=qX (P:=P) (w:=w) hm hK (ks:=(List.range mh.length).map (a.den ρ)) (by simp) hS (v.val ρ) (SV.ao ρ vs) C4
          (zQ:=fun q=>qw (lM n.toNat vs es) q) (Fz:=fun q=>SV.ao ρ (jU (lM n.toNat vs es) zero q))
          (fun q=>by rw [FA,←LW])
          (fun q=>by
           simp only [FB,←LW];split<;>rfl)
         refine⟨rfl,j,_,rfl,w',?_,⟨⟨_,hj,rfl⟩,rfl,r2,r3,fun k hk=>r4 k (fun e=>hk ((hS.1 k).2 e)),by rw [Ck.lh];exact r5⟩⟩;rw [Th];exact r1
        ·cases h
       ·cases h
      ·cases h
     ·cases h
    ·cases h
   ·cases h
  ·cases h
 ·cases h
theorem Jd{h:Array Obj}{b:Nat}{o:Obj}(hb:b<h.size):(h.setIfInBounds b o)[b]? =some o:=by simp [hb]
theorem FD{b:Nat}{kl:List IntKind}{ka va:Bool}{zero:List Value}{f:Nat→Int}{row:Nat→List Value}{S:Nat→Prop}(h:(nQ b kl ka va zero f row).p w S):
  ∃es clock,w.heap[b]? =some (.map es clock)∧TH es.toList kl ka va (fun i=> !(f i==0)) row∧f 0=(es.size:Int)∧Mp es clock∧
   (∀ks:List Int,ks.length=kl.length→0≤f (aS ks)∧(2≤f (aS ks)→∃e,es[(f (aS ks)).toNat - 2]? =some e∧e.key=dX ka kl ks))∧
   (∀ks:List Int,ks.length=kl.length→f (aS ks)=0→row (aS ks)=zero)∧∀k,S k↔k=b:=by
 obtain⟨⟨h0,⟨es,cl,hb,hm⟩,hz⟩,⟨es1,cl1,Ao,hc⟩,h3⟩:=h;rw [hb]at Ao;injection Ao with Ao
 injection Ao with Ao _
 subst Ao;obtain⟨q1,q2⟩:=h3 es cl hb;exact⟨es,cl,hb,hm,hc,q1,q2,fun ks hk h=>hz ks hk (by show(!(f (aS ks)==0))=false;rw [h];rfl),h0⟩
theorem z9(hT:bx P T=true){t:Nat}{x k:SV}{res:gY}(h:zL T hp t x k=some res)(cN:Reads hp ρ w S res.rd)(bY: ∀b∈res.vcs,b.prop ρ):
  ∃j ck,res.gZ= .set j ck∧∃w',(Instr.mapEntry t (x.val ρ) (k.val ρ)).run P w= .ok (res.val.val ρ) w'∧Bb P w ρ hp S j ck w':=by
 unfold zL at h;split at h
 ·rename_i kt vt sz by_ zr ly fQ;obtain⟨ht,cO⟩:=aA hT fQ;have hm:P.underlying t=some (.map kt vt):=by
   have:=cO.kind;rw [←ht];exact qZ this
  split at h
  ·rename_i tk tv AY htv;obtain⟨rfl,PZ⟩:=aA hT htv;obtain⟨iv,hiv,_,_,z,hz,yJ⟩:=PZ.info;have hzr:(zeroValue tv.t).run P w= .ok z w:=by simp [zeroValue,typeInfo,hiv,hz]
   have QO:=FC (ρ:=ρ) PZ hiv hz (yJ ρ);split at h
   ·rename_i kl ka df;have hK:=og hT AY df;split at h
    ·rename_i kc YA;split at h
     ·rename_i HL a b rL;split at h
      ·rename_i j b' mh xI yd zero has ay hf;split at h
       ·rename_i fZ;obtain⟨rfl,rfl,rfl,Be,fg,pK⟩:=fZ;rw [aqq]at h;obtain⟨zv,hzv,rfl⟩:=h;have Th:=mn (ρ:=ρ) (ks:=(List.range mh.length).map (a.den ρ)) YA (by simp) (fun hk=>by obtain⟨k,h1,_⟩:=hK.one hk;exact⟨k,h1⟩) (gJ rL);obtain⟨hj,dK⟩:=eQ hf;simp only [Ck.isMap,beq_iff_eq]at dK;subst dK;have hS:=cN j (by simp) _ hj;obtain⟨es,clock,hb,Je,hc,⟨q1,q2⟩,q3,q4,hSb⟩:=FD hS;have hk:((List.range mh.length).map (a.den ρ)).length=mh.length:=by simp
        have abS:=bY _ (aqx.2 rfl);rw [←BE.bK,nm,cJ,nI,aqD]at abS;have FX:has.den ρ (aS ((List.range mh.length).map (a.den ρ)))=0:=by simpa [E.den] using abS
        have j6:=cb (ρ:=ρ) pK;have abT:=mo (ρ:=ρ) hzv;rw [QO]at abT;generalize Yy:(List.range mh.length).map (a.den ρ)=ks at*;have DX:=eX (P:=P) (w:=w) false 9988 12 kt _ hK.lay _ _ (pG hk) (hK.val hk);have Ti: ∀m:List Int,m.length=mh.length→m≠ks→aS m≠aS ks:=fun m hm hn he=>hn (oO (hm.trans hk.symm) he)
        have QN:=(aqw.1 hb).1;have abU:aS ks≠0:=Nat.ne_of_gt (kS (fun e=>fg (aqF (by rw [←hk,e];rfl))));have F6: ∀m:List Int,m.length=mh.length→aS m≠0:=fun m hm=>Nat.ne_of_gt (kS (fun e=>fg (aqF (by rw [←hm,e];rfl))))
        have xH: ∀e∈es.toList,e.key≠dX xI mh ks:=by
         intro e he CP;obtain⟨m,m1,m2,m3,_⟩:=Je.keys e he;have:m=ks:=hK.inj m1 hk (m2.symm.trans CP);subst this;rw [FX]at m3;cases m3
        rcases jx (P:=P) (w:=w) hK hk es.toList (fun e he=>by obtain⟨m,h1,h2,_⟩:=Je.keys e he;exact⟨m,h1,h2⟩)with⟨h1,h2⟩ | ⟨j',e,h1,h2,h3⟩
        ·let f':Nat→Int:=(E.m7 (.m7 has (.lit 0) (dB (eu has (.lit 0)) (.lit 1))) (I5 mh.length a) (dB (eu has (.lit 0)) (.lit 2))).den ρ
         have DY: ∀q,f' q=if q=aS ks then(es.size:Int)+2 else if q=0 then(es.size:Int)+1 else has.den ρ q:=by
          intro q;simp only [f',E.den,nI,aqD,bB,cJ,Yy];rw [show(ag 0)=0 from rfl,hc]
         refine⟨j,_,rfl,{w with heap:=w.heap.setIfInBounds (ρ.bv.getD b 0) (.map (es.push {key:=dX xI mh ks,val:=z,born:=clock}) (clock+1))},?_,⟨⟨_,hj,rfl⟩,rfl,⟨rfl,rfl,rfl,by simp⟩,by simp,fun k kv=>?_,?_⟩⟩
         ·show(Instr.mapEntry t (.map (some (ρ.bv.getD b 0))) _).run P w=_;rw [Th];simp only [Instr.mapEntry,aqA,run_underlying hm,aqu,wh hb,DX,h1,hzr,C2 _ hb,aqH];simp only [SV.val,SV.bD,abT,cJ,E.den];rw [show(ag 0)=0 from rfl,hc,q1];rfl
         ·simp only [];rw [Array.getElem?_setIfInBounds_ne (fun e=>kv ((hSb k).2 e.symm))]
         ·have ah1:ρ.bv.getD b 0<w.heap.size:=QN;have rT:(w.heap.setIfInBounds (ρ.bv.getD b 0) (.map (es.push {key:=dX xI mh ks,val:=z,born:=clock}) (clock+1)))[ρ.bv.getD b 0]? =some (.map (es.push {key:=dX xI mh ks,val:=z,born:=clock}) (clock+1)):=Jd ah1;have Us:=q4 ks hk FX;show(nQ (ρ.bv.getD b 0) mh xI yd (SV.ao ρ zero) f' fun i=>(ay.map (bL.cells ρ)).flatMap fun c=>c i).p _ _;refine⟨⟨hSb,⟨_,_,rT,?_⟩,?_⟩,⟨_,_,rT,?_⟩,?_⟩
          ·rw [Array.toList_push];refine⟨fun e he=>?_,fun i i' e e' hi dy heq=>?_,fun m y5 LV=>?_⟩
           ·rcases aqC.1 he with he | he
            ·obtain⟨m,m1,m2,m3,m4⟩:=Je.keys e he;have F8:m≠ks:=fun h=>xH e he (by rw [m2,h])
             exact⟨m,m1,m2,by rw [DY,if_neg (Ti m m1 F8),if_neg (F6 m m1)];exact m3,m4⟩
            ·simp only [aqx]at he;subst he;refine⟨ks,hk,rfl,by rw [DY,if_pos rfl];simp;omega,?_⟩;rw [Us,j6,Be,QO]
           ·rw [List.getElem?_append]at hi dy;split at hi<;>split at dy
            ·exact Je.once i i' e e' hi dy heq
            ·exfalso;have:e'={key:=dX xI mh ks,val:=z,born:=clock}:=by
              have:=aqG dy;simpa using this
             subst this;exact h2 e (aqG hi) heq
            ·exfalso;have:e={key:=dX xI mh ks,val:=z,born:=clock}:=by
              have:=aqG hi;simpa using this
             subst this;exact h2 e' (aqG dy) heq.symm
            ·have g1:=(aqo.1 hi).1;have g2:=(aqo.1 dy).1;simp only [List.length_cons,List.length_nil]at g1 g2;omega
           ·by_cases F8:m=ks
            ·subst F8;exact⟨_,List.mem_append_right _ (aqx.2 rfl),rfl⟩
            ·rw [DY,if_neg (Ti m y5 F8),if_neg (F6 m y5)]at LV;obtain⟨e,he,CP⟩:=Je.all m y5 LV;exact⟨e,List.mem_append_left _ he,CP⟩
          ·intro m y5 h0;have h0:(!(f' (aS m)==0))=false:=h0;rw [DY]at h0;by_cases F8:m=ks
           ·subst F8;exact Us
           ·rw [if_neg (Ti m y5 F8),if_neg (F6 m y5)]at h0;exact q4 m y5 (by simpa using h0)
          ·rw [DY,if_neg (fun e=>abU e.symm),if_pos rfl];simp
          ·intro es1 cl1 HS;rw [rT]at HS;injection HS with HS
           injection HS with HS hc1
           subst HS hc1;refine⟨⟨by rw [q1];simp,fun i e hi=>?_⟩,fun m y5=>?_⟩
           ·rw [Array.getElem?_push]at hi;split at hi
            ·rename_i heq;cases hi;rw [q1,heq]
            ·exact q2 i e hi
           ·rw [DY];by_cases F8:m=ks
            ·subst F8;rw [if_pos rfl];refine⟨by omega,fun _=>⟨{key:=dX xI mh m,val:=z,born:=clock},?_,rfl⟩⟩;rw [show((es.size:Int)+2).toNat - 2=es.size by omega,Array.getElem?_push,if_pos rfl]
            ·rw [if_neg (Ti m y5 F8),if_neg (F6 m y5)];obtain⟨g1,g2⟩:=q3 m y5;refine⟨g1,fun h2'=>?_⟩;obtain⟨e,g3,g4⟩:=g2 h2';have:=(aqw.1 g3).1;exact⟨e,by rw [Array.getElem?_push,if_neg (by omega)];exact g3,g4⟩
        ·exact absurd h3 (xH e (aqG h2))
       ·cases h
      ·cases h
     ·cases h
    ·cases h
   ·cases h
  ·cases h
 ·cases h
theorem z_(t:Nat){x s v:SV}{res:gY}(h:zM hp x s v=some res)(cN:Reads hp ρ w S res.rd)(bY: ∀b∈res.vcs,b.prop ρ):
  res.val= .undef∧∃j ck,res.gZ= .set j ck∧∃w',(Instr.entryStore t (x.val ρ) (s.val ρ) (v.val ρ)).run P w= .ok () w'∧Bb P w ρ hp S j ck w':=by
 unfold zM at h;split at h
 ·rename_i b e vs FQ;split at h
  ·rename_i j b' kl ka va zero hh n a y ay hf;split at h
   ·rename_i fZ;obtain⟨rfl,hlen,xq⟩:=fZ;split at h
    ·rename_i aN nR;cases h;obtain⟨hj,dK⟩:=eQ hf;simp only [Ck.isMap,beq_iff_eq]at dK;subst dK;have hS:=cN j (by simp) _ hj;obtain⟨es,clock,hb,Je,hc,⟨q1,q2⟩,q3,q4,hSb⟩:=FD hS;have hk:((List.range kl.length).map (a.den ρ)).length=kl.length:=by simp
     have v1:=bY (wz (.lit 0) e) (by simp);have v2:=bY (Ql (eu (.m7 hh (.kc kl.length a) y) (.kc kl.length a)) (dB e (.lit 2))) (by simp);rw [←BE.bK,iA]at v1;rw [←BE.bK,nm,cJ,bB]at v2;have v1:0≤e.den ρ 0:=of_decide_eq_true v1;have hfk:(E.m7 hh (.kc kl.length a) y).den ρ (aS ((List.range kl.length).map (a.den ρ)))=e.den ρ 0+2:=by
      have:(E.kc kl.length a).den ρ 0=(aS ((List.range kl.length).map (a.den ρ)):Nat):=rfl;rw [this,aqD]at v2;simpa [E.den] using v2
     obtain⟨p1,p2,p3,p4⟩:=iW ρ nR;have e0:((E.kc kl.length a).den ρ 0).toNat=aS ((List.range kl.length).map (a.den ρ)):=by
      show(((aS ((List.range kl.length).map (a.den ρ)):Nat):Int)).toNat=_;rw [aqD]
     rw [e0]at p3 p4;generalize hfe:(E.m7 hh (.kc kl.length a) y).den ρ=f at*;have P1:rowAt ρ aN (aS ((List.range kl.length).map (a.den ρ)))=SV.ao ρ vs:=by
      rw [p4,List.drop_eq_nil_of_le,List.append_nil];rw [show(rowAt ρ ay _).length=bW ay from dC ρ ay _,bh];exact Nat.le_of_eq hlen.symm
     have C4:=wk (ρ:=ρ) FQ;rw [xq]at C4;generalize Yy:(List.range kl.length).map (a.den ρ)=ks at*;obtain⟨g1,g2⟩:=q3 ks hk;obtain⟨e1,g3,g4⟩:=g2 (by rw [hfk];omega);rw [hfk]at g3;have hi:(e.den ρ 0+2).toNat - 2=(e.den ρ 0).toNat:=by omega
     rw [hi]at g3;have cq:=(aqw.1 g3).1;have abV:es.findIdx? (fun e'=>(e'.born:Int)==e.den ρ 0)=some (e.den ρ 0).toNat:=by
      rw [Array.findIdx?_eq_some_iff_getElem];refine⟨cq,?_,fun i dy=>?_⟩
      ·have:=q2 _ e1 g3;rw [Array.getElem?_eq_getElem cq,aqp]at g3;rw [g3,this];simp;omega
      ·have:=q2 i es[i] (by simp);rw [this];simp;omega
     have QN:=(aqw.1 hb).1;have rT:(w.heap.setIfInBounds (ρ.bv.getD b 0) (.map (es.modify (e.den ρ 0).toNat fun e'=>{e' with val:=v.val ρ}) clock))[ρ.bv.getD b 0]? =some (.map (es.modify (e.den ρ 0).toNat fun e'=>{e' with val:=v.val ρ}) clock):=Jd QN;have wi: ∀(i:Nat),(es.modify (e.den ρ 0).toNat fun e'=>{e' with val:=v.val ρ})[i]? =if(e.den ρ 0).toNat=i then(es[i]?).map (fun e'=>{e' with val:=v.val ρ})else es[i]? :=fun i=>Array.getElem?_modify
     have AM: ∀(i:Nat) u,(es.modify (e.den ρ 0).toNat fun e'=>{e' with val:=v.val ρ})[i]? =some u→∃u1,es[i]? =some u1∧u.key=u1.key∧u.born=u1.born∧(i≠(e.den ρ 0).toNat→u.val=u1.val)∧(i=(e.den ρ 0).toNat→u.val=v.val ρ):=by
      intro i u hu;rw [wi]at hu;split at hu
      ·rename_i m8;subst m8;rw [g3,Option.map_some,aqp]at hu;subst hu;exact⟨e1,g3,rfl,rfl,fun h=>absurd rfl h,fun _=>rfl⟩
      ·rename_i m8;exact⟨u,hu,rfl,rfl,fun _=>rfl,fun h=>absurd h.symm m8⟩
     have Ut: ∀(i:Nat) u1,es[i]? =some u1→∃u,(es.modify (e.den ρ 0).toNat fun e'=>{e' with val:=v.val ρ})[i]? =some u∧u.key=u1.key:=by
      intro i u1 hu;rw [wi,hu];split
      ·exact⟨{u1 with val:=v.val ρ},rfl,rfl⟩
      ·exact⟨u1,rfl,rfl⟩
     refine⟨rfl,j,_,rfl,{w with heap:=w.heap.setIfInBounds (ρ.bv.getD b 0) (.map (es.modify (e.den ρ 0).toNat fun e'=>{e' with val:=v.val ρ}) clock)},?_,⟨⟨_,hj,rfl⟩,rfl,⟨rfl,rfl,rfl,by simp⟩,by simp,fun k kv=>?_,?_⟩⟩
     ·show(Instr.entryStore t (.map (some (ρ.bv.getD b 0))) (.int .i64 (e.den ρ 0)) _).run P w=_;simp only [Instr.entryStore,aqA,wh hb,aqu,asInt,asIntOf,aqH,abV];exact C2 _ hb
     ·simp only [];rw [Array.getElem?_setIfInBounds_ne (fun e=>kv ((hSb k).2 e.symm))]
     ·show(nQ (ρ.bv.getD b 0) kl ka va (SV.ao ρ zero) ((E.m7 hh (.kc kl.length a) y).den ρ) fun i=>(aN.map (bL.cells ρ)).flatMap fun c=>c i).p _ _;rw [hfe];refine⟨⟨hSb,⟨_,_,rT,?_⟩,?_⟩,⟨_,_,rT,?_⟩,?_⟩
      ·refine⟨fun u hu=>?_,fun i i' u u' hu X4 heq=>?_,fun m y5 LV=>?_⟩
       ·obtain⟨i,dy⟩:=List.getElem?_of_mem hu;rw [aqS]at dy;obtain⟨u1,k1,k2,_,k4,k5⟩:=AM i u dy;obtain⟨m,m1,m2,m3,m4⟩:=Je.keys u1 (aqG (by rw [aqS];exact k1));by_cases m8:i=(e.den ρ 0).toNat
        ·subst m8;rw [g3,aqp]at k1;subst k1;refine⟨ks,hk,by rw [k2,g4],?_,?_⟩
         ·show(!(f (aS ks)==0))=true;rw [hfk];simp;omega
         ·rw [k5 rfl,C4];exact congrArg (uW va) P1.symm
        ·have fg:aS m≠aS ks:=by
          intro UU;have:m=ks:=oO (m1.trans hk.symm) UU;subst this;exact m8 (Je.once i (e.den ρ 0).toNat u1 e1 (by rw [aqS];exact k1) (by rw [aqS];exact g3) (by rw [m2,g4]))
         refine⟨m,m1,by rw [k2,m2],m3,?_⟩;rw [k4 m8,m4];exact congrArg (uW va) (p3 _ fg).symm
       ·rw [aqS]at hu X4;obtain⟨u1,k1,k2,_⟩:=AM i u hu;obtain⟨u1',k1',k2',_⟩:=AM i' u' X4;exact Je.once i i' u1 u1' (by rw [aqS];exact k1) (by rw [aqS];exact k1') (by rw [←k2,←k2',heq])
       ·obtain⟨u1,hu,CP⟩:=Je.all m y5 LV;obtain⟨i,dy⟩:=List.getElem?_of_mem hu;rw [aqS]at dy;obtain⟨u,k1,k2⟩:=Ut i u1 dy;exact⟨u,aqG (by rw [aqS];exact k1),by rw [k2,CP]⟩
      ·intro m y5 h0;have h0:(!(f (aS m)==0))=false:=h0;have Mw:f (aS m)=0:=by simpa using h0
       have fg:aS m≠aS ks:=by
        intro UU;rw [UU,hfk]at Mw;omega
       exact(p3 _ fg).trans (q4 m y5 Mw)
      ·rw [hc];simp
      ·intro es1 cl1 HS;rw [rT]at HS;injection HS with HS
       injection HS with HS hc1
       subst HS hc1;refine⟨⟨by rw [q1];simp,fun i u hu=>?_⟩,fun m y5=>?_⟩
       ·obtain⟨u1,k1,_,k3,_⟩:=AM i u hu;rw [k3];exact q2 i u1 k1
       ·obtain⟨z1,z2⟩:=q3 m y5;refine⟨z1,fun h2'=>?_⟩;obtain⟨u1,z3,z4⟩:=z2 h2';obtain⟨u,k1,k2⟩:=Ut _ u1 z3;exact⟨u,k1,by rw [k2,z4]⟩
    ·cases h
   ·cases h
  ·cases h
 ·cases h
end
end Go.RX
