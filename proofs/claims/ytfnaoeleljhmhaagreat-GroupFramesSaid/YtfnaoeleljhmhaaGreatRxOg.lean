/- A reflective symbolic executor, part 15g: what is done to maps. -/
import Derived.Test.YtfnaoeleljhmhaaGreatRxOf

namespace Go.RX
section
variable {P:Program} {ρ:Env} {w:World} {look:Nat→Option SV} {vals:Operand→Value} {hp:List Ck} {S:Nat→Nat→Prop} {nb nv:Nat} {T:List TI}
theorem litAt_den{a:E}{i:Nat}{x:Int}(h:litAt a i=some x):a.den ρ i=x:=by
 unfold litAt at h;split at h
 ·rename_i n hn;cases h;have:=eSel_den ρ a (.lit i) 0;rw [hn]at this;simp only [E.den,Int.toNat_natCast]at this;exact this.symm
 ·cases h
theorem litsOf_den{a:E}: ∀{n:Nat} {l:List Int},litsOf a n=some l→l=(List.range n).map (a.den ρ)
 | 0,l,h=>by simp [litsOf]at h;subst h;rfl
 | n+1,l,h=>by
  unfold litsOf at h;split at h
  ·rename_i l' x h1 h2;cases h;rw [List.range_succ,List.map_append,←litsOf_den h1];simp [litAt_den h2]
  ·cases h
theorem eKc_den(n:Nat)(a:E):((eKc n a).den ρ 0)=(kcode ((List.range n).map (a.den ρ)):Nat):=by
 unfold eKc;split
 ·rename_i l h;rw [←litsOf_den h];rfl
 ·rfl
theorem allInt_spec: ∀{l:List CellK} {kl:List IntKind},allInt l=some kl→l=kl.map .int
 | [],kl,h=>by simp [allInt]at h;subst h;rfl
 | .int k::r,kl,h=>by
  simp only [allInt,Option.map_eq_some_iff]at h;obtain⟨x,hx,rfl⟩:=h;rw [allInt_spec hx];rfl
 | .bool::r,kl,h=>by simp [allInt]at h
 | .str::r,kl,h=>by simp [allInt]at h
theorem keyKinds_spec(hT:checkT P T=true){t:Nat}{tk:TI}(ht:tlook T t=some tk){kl:List IntKind}{ka:Bool}(h:keyKinds tk=some (kl,ka)):KeyT P t kl ka:=by
 obtain⟨rfl,hti⟩:=tlook_spec hT ht;have hkk:=hti.kind;unfold keyKinds at h;split at h
 ·rename_i k hk;cases h;rw [hk]at hkk;have hu:=kind_int hkk;exact⟨by simp [layOf,hu],fun _=>⟨k,rfl,hu⟩,fun h=>(by cases h)⟩
 ·rename_i fs hk;split at h
  ·cases h
  ·rename_i hne;rw [Option.map_eq_some_iff]at h;obtain⟨l,hl,he⟩:=h;cases he;rw [hk]at hkk;obtain⟨fa,hu,_⟩:=kind_struct hkk;rcases hti.lay with h | ⟨h,_⟩
   ·exact absurd h hne
   ·rw [allInt_spec hl]at h;exact⟨h,fun h=>(by cases h),fun _=>⟨fun cs=>by simp [VOf,hu],by simp [hu]⟩⟩
 ·rename_i n e hk;split at h
  ·cases h
  ·rename_i hne;rw [Option.map_eq_some_iff]at h;obtain⟨l,hl,he⟩:=h;cases he;rw [hk]at hkk;have hu:=kind_arr hkk;rcases hti.lay with h | ⟨h,_⟩
   ·exact absurd h hne
   ·rw [allInt_spec hl]at h;exact⟨h,fun h=>(by cases h),fun _=>⟨fun cs=>by simp [VOf,hu],by simp [hu]⟩⟩
 ·cases h
theorem keyCells_val{ka:Bool}{k:SV}{kc:List SV}(h:keyCells ka k=some kc){kl:List IntKind}{ks:List Int}(hk:ks.length=kl.length)(h1:ka=false→∃k,kl=[k])(hc:SV.cellsL ρ kc=mkI kl ks):k.val ρ=encK ka kl ks:=by
 unfold keyCells at h;split at h
 ·cases h;simp only [SV.val,hc,encK_agg]
 ·rename_i q e;cases h;obtain⟨k0,rfl⟩:=h1 rfl
  match ks,hk,hc with
  | [x],_,hc=>
   have hc:[Value.int q (e.den ρ 0)]=[Value.int k0 x]:=hc;simp only [List.cons.injEq,and_true]at hc;exact hc
 ·cases h
theorem kind_map{d:Option TypeDesc}{k v:Nat}(h:tkOk d (.map k v)=true):d=some (.map k v):=by
 unfold tkOk at h;split at h<;>simp_all
theorem findMap_spec{hp:List Ck}{b j:Nat}{ck:Ck}(h:findMap hp b=some (j,ck)):hp[j]? =some ck∧ck.isMap b=true:=by
 unfold findMap at h;split at h
 ·rename_i i hi;rw [Option.map_eq_some_iff]at h;obtain⟨c,hc,he⟩:=h;cases he;refine⟨hc,?_⟩;rw [List.findIdx?_eq_some_iff_getElem]at hi;obtain⟨hlt,h1,_⟩:=hi;rw [List.getElem?_eq_getElem hlt]at hc;cases hc;exact h1
 ·cases h
theorem zeroColsM_spec{te:TI}{z:List Col}(h:zeroColsM T te=some z): ∀i:Nat,rowAt ρ z i=SV.cellsL ρ te.zero:=by
 unfold zeroColsM at h;split at h
 ·split at h
  ·rename_i hz;cases h;simp only [Bool.and_eq_true,List.isEmpty_iff]at hz;intro i;rw [hz.1];rfl
  ·cases h
 ·exact fun i=>(zeroCols_spec h).1 i
theorem litSame_cells: ∀{a b:List SV},litSame a b=true→SV.cellsL ρ a=SV.cellsL ρ b
 | [],[],_=>rfl
 | [],_::_,h=>by simp [litSame]at h
 | v::r,[],h=>by cases v<;>simp [litSame]at h
 | v::r,u::s,h=>by
  unfold litSame at h;split at h
  ·rename_i h1 _;cases h1
  ·rename_i h1 h2;cases h1;cases h2;simp only [Bool.and_eq_true,beq_iff_eq]at h;obtain⟨⟨rfl,rfl⟩,h⟩:=h;simp only [SV.cellsL,litSame_cells h]
  ·rename_i h1 h2;cases h1;cases h2;simp only [Bool.and_eq_true,beq_iff_eq]at h;obtain⟨rfl,h⟩:=h;simp only [SV.cellsL,litSame_cells h]
  ·rename_i h1 h2;cases h1;cases h2;simp only [Bool.and_eq_true,beq_iff_eq]at h;obtain⟨⟨⟨rfl,rfl⟩,rfl⟩,h⟩:=h;simp only [SV.cellsL,litSame_cells h]
  ·rename_i h1 h2;cases h1;cases h2;simp only [SV.cellsL,litSame_cells h]
  ·rename_i h1 h2;cases h1;cases h2;simp only [SV.cellsL,litSame_cells h]
  ·rename_i h1 h2;cases h1;cases h2;simp only [SV.cellsL,litSame_cells h]
  ·rename_i h1 h2;cases h1;cases h2;simp only [SV.cellsL,litSame_cells h]
  ·rename_i h1 h2;cases h1;cases h2;simp only [SV.cellsL,litSame_cells h]
  ·rename_i h1 h2;cases h1;cases h2;simp only [Bool.and_eq_true,beq_iff_eq]at h;obtain⟨rfl,h⟩:=h;simp only [SV.cellsL,litSame_cells h]
  ·cases h
theorem hasL_put{k:Nat}{v:List SV}: ∀{es:List (Nat×List SV)} {q:Nat},hasL (putL k v es) q=if q=k then true else hasL es q
 | [],q=>by simp only [putL,hasL,eq_comm]
 | (i,u)::r,q=>by
  simp only [putL];split
  ·rename_i h;subst h;simp only [hasL,eq_comm];split<;>rfl
  ·rename_i h;simp only [hasL];split
   ·rename_i h2;subst h2;rw [if_neg h]
   ·exact hasL_put
theorem rowL_put{k:Nat}{v z:List SV}: ∀{es:List (Nat×List SV)} {q:Nat},rowL (putL k v es) z q=if q=k then v else rowL es z q
 | [],q=>by simp only [putL,rowL,eq_comm]
 | (i,u)::r,q=>by
  simp only [putL];split
  ·rename_i h;subst h;simp only [rowL,eq_comm];split<;>rfl
  ·rename_i h;simp only [rowL];split
   ·rename_i h2;subst h2;rw [if_neg h]
   ·exact rowL_put
theorem makeMapSym_sound(_:checkT P T=true)(hnb:ρ.bv.length=nb){t:Nat}{res:Res}(h:makeMapSym T nb t=some res):
  Did P ρ w hp S nb nv ((do pure (.value (←Instr.makeMap t none)):Sem Next).run P w) res:=by
 unfold makeMapSym at h;split at h
 ·rename_i kt vt sz by_ zr ly ms_ htt;split at h
  ·rename_i tk tv htk htv;split at h
   ·rename_i kl ka cols hk hz;cases h;refine⟨w.alloc (.map #[] 0),_,if_pos rfl,?_,⟨rfl,rfl,rfl,by simp⟩,by simp,fun k hk=>heap_alloc_old w _ hk,⟨fun k=>Iff.rfl,⟨#[],0,heap_alloc_new w _,?_⟩,?_⟩,⟨#[],0,heap_alloc_new w _,rfl⟩,fun es clock he=>?_⟩
    ·subst hnb;simp [Instr.makeMap,SV.val,getD_addB]
    ·refine⟨by simp,by simp,fun ks _ hh=>by simp [E.den]at hh⟩
    ·intro ks _ _;split at hz
     ·cases hz
     ·exact zeroColsM_spec (ρ:=ρ) hz _
    ·rw [heap_alloc_new]at he;injection he with he
     injection he with he hc
     subst he hc;exact⟨⟨rfl,fun i e h=>by simp at h⟩,fun ks _=>⟨Int.le_refl 0,fun h=>by simp [E.den]at h⟩⟩
   ·rename_i kl ka hk hz;cases h;refine⟨w.alloc (.map #[] 0),_,if_pos rfl,?_,⟨rfl,rfl,rfl,by simp⟩,by simp,fun k hk=>heap_alloc_old w _ hk,⟨fun k=>Iff.rfl,⟨#[],0,heap_alloc_new w _,?_⟩,?_⟩⟩
    ·subst hnb;simp [Instr.makeMap,SV.val,getD_addB]
    ·refine⟨by simp,by simp,fun ks _ hh=>by simp [hasL]at hh⟩
    ·intro ks _ _;rfl
   ·cases h
  ·cases h
 ·cases h
theorem ofCells_encV{agg:Bool}{cs:List SV}{v:SV}(h:ofCells agg cs=some v):v.val ρ=encV agg (SV.cellsL ρ cs):=by
 obtain⟨h1,h2⟩:=ofCells_val ρ h;cases agg with
 | true=>rw [h1 rfl];rfl
 | false=>have:=h2 rfl;rw [this];rfl
theorem zero_enc{ti:TI}(hti:TInfo P ti){i:TypeInfo}{z:Value}(hi:P.info? ti.t=some i)(hz:i.zero=some z)(hc:SV.cellsL ρ ti.zero=z.cells.toList):encV ti.k.agg (SV.cellsL ρ ti.zero)=z:=by
 have hg:=hti.zag i z hi hz;rw [hc];cases z with
 | agg cs=>simp only at hg;rw [hg];simp [encV,Value.cells]
 | _=>simp only [Bool.not_eq_true']at hg;rw [hg];simp [encV,Value.cells]
theorem lookupSym_sound(hT:checkT P T=true){t:Nat}{x k:SV}{comma:Bool}{res:Res}(h:lookupSym T hp t x k comma=some res)(hrd:Reads hp ρ w S res.rd):
  (Instr.lookup t (x.val ρ) (k.val ρ) comma).run P w= .ok (res.val.val ρ) w∧res.eff= .none:=by
 unfold lookupSym at h;split at h
 ·rename_i kt vt sz by_ zr ly ms_ htt;obtain⟨ht,hti⟩:=tlook_spec hT htt;have hm:P.underlying t=some (.map kt vt):=by
   have:=hti.kind;rw [←ht];exact kind_map this
  split at h
  ·rename_i tk tv htk htv;obtain⟨rfl,htv'⟩:=tlook_spec hT htv;obtain⟨iv,hiv,_,_,z,hz,hzc⟩:=htv'.info;have hzr:(zeroValue tv.t).run P w= .ok z w:=by simp [zeroValue,typeInfo,hiv,hz]
   have hze:=zero_enc (ρ:=ρ) htv' hiv hz (hzc ρ);split at h
   ·rename_i kl ka hkk;have hK:=keyKinds_spec hT htk hkk;split at h
    ·rename_i kc hkc;split at h
     ·rename_i kl' a hrow;split at h
      ·cases h
      ·rename_i hkl;simp only [ne_eq,Decidable.not_not]at hkl;subst hkl;have hkv:=keyCells_val (ρ:=ρ) (ks:=(List.range kl'.length).map (a.den ρ)) hkc (by simp) (fun hk=>by obtain⟨k,h1,_⟩:=hK.one hk;exact⟨k,h1⟩) (rowOf_spec hrow);split at h
       ·rw [Option.map_eq_some_iff]at h;obtain⟨v,hv,rfl⟩:=h;refine⟨?_,rfl⟩;have hvv:=ofCells_encV (ρ:=ρ) hv;rw [hze]at hvv;rw [hkv];have:=run_lookup_nil (P:=P) (w:=w) hm hK (ks:=(List.range kl'.length).map (a.den ρ)) (comma:=comma) (by simp) hzr;show(Instr.lookup t (.map none) _ comma).run P w=_;rw [this];cases comma<;>simp [SV.val,SV.vals,hvv,BE.den]
       ·rename_i b;split at h
        ·rename_i j b' kl2 ka2 va2 zero2 has cols hf;split at h
         ·rename_i hcond;obtain⟨rfl,rfl,rfl,hzs⟩:=hcond;split at h
          ·rename_i es hes;rw [Option.map_eq_some_iff]at h;obtain⟨v,hv,rfl⟩:=h;refine⟨?_,rfl⟩;obtain⟨hj,hat⟩:=findMap_spec hf;simp only [Ck.isMap,beq_iff_eq]at hat;subst hat;have hS:=hrd j (by simp) _ hj;have hcs:=colElems_cells ρ hes;rw [eKc_den,Int.toNat_natCast]at hcs;have hvv:=ofCells_encV (ρ:=ρ) hv;rw [hcs]at hvv;rw [hkv];have hz2:=litSame_cells (ρ:=ρ) hzs;rw [←hz2]at hze;have:=run_lookup_map (P:=P) (w:=w) hm hK (ks:=(List.range kl2.length).map (a.den ρ)) (comma:=comma) (by simp) hS.1 hzr hze;show(Instr.lookup t (.map (some (ρ.bv.getD b 0))) _ comma).run P w=_;rw [this];cases comma with
           | false=>simp only [Bool.false_eq_true,if_false,hvv]
           | true=>
            simp only [if_true,SV.val,SV.vals,hvv,bNz_den,eSel_den,eKc_den,Int.toNat_natCast]
          ·cases h
         ·cases h
        ·rename_i j b' kl2 ka2 va2 zero2 es hf;split at h
         ·rename_i hcond;obtain⟨rfl,rfl,rfl,hzs⟩:=hcond;split at h
          ·rename_i n hlit;rw [Option.map_eq_some_iff]at h;obtain⟨v,hv,rfl⟩:=h;refine⟨?_,rfl⟩;obtain⟨hj,hat⟩:=findMap_spec hf;simp only [Ck.isMap,beq_iff_eq]at hat;subst hat;have hS:=hrd j (by simp) _ hj;rw [Ck.den_mapl]at hS;have hkn:n.toNat=kcode ((List.range kl2.length).map (a.den ρ)):=by
            have:=eKc_den (ρ:=ρ) kl2.length a;rw [hlit]at this;simp only [E.den]at this;rw [this,Int.toNat_natCast]
           have hvv:=ofCells_encV (ρ:=ρ) hv;rw [hkn]at hvv;rw [hkv];have hz2:=litSame_cells (ρ:=ρ) hzs;rw [←hz2]at hze;have:=run_lookup_map (P:=P) (w:=w) hm hK (ks:=(List.range kl2.length).map (a.den ρ)) (comma:=comma) (by simp) hS hzr hze;show(Instr.lookup t (.map (some (ρ.bv.getD b 0))) _ comma).run P w=_;rw [this];cases comma with
           | false=>simp only [Bool.false_eq_true,if_false,hvv]
           | true=>simp only [if_true,SV.val,SV.vals,hvv,BE.den,hkn]
          ·cases h
         ·cases h
        ·cases h
       ·cases h
     ·cases h
    ·cases h
   ·cases h
  ·cases h
 ·cases h
theorem isAgg_enc{v:SV}{vs:List SV}(h:toCells v=some vs):v.val ρ=encV (isAggV v) (SV.cellsL ρ vs):=by
 cases v with
 | agg cs=>
  simp only [toCells]at h;split at h
  ·cases h;rfl
  ·cases h
 | seg k n a=>
  simp only [toCells,SV.one,if_true,Option.some.injEq]at h;subst h;simp [SV.val,SV.cellsL,SV.cells,isAggV,encV]
 | opt c v=>simp [toCells,SV.one]at h
 | undef=>simp [toCells,SV.one]at h
 | tup vs=>simp [toCells,SV.one]at h
 | _=>
  simp only [toCells,SV.one,if_true,Option.some.injEq]at h;subst h;rfl
theorem kcode_pos: ∀{l:List Int},l≠[]→0<kcode l:=by
 intro l hl;rcases List.eq_nil_or_concat l with rfl | ⟨l,c,rfl⟩
 ·exact absurd rfl hl
 ·rw [List.concat_eq_append,kcode,List.foldl_append];simp only [List.foldl_cons,List.foldl_nil,kcode1];exact Nat.mul_pos (by omega) (Nat.two_pow_pos _)
theorem mapN_upd{b:Nat}{kl:List IntKind}{ka va:Bool}{zero:List Value}{f f':Nat→Int}{has':Nat→Bool}{row row':Nat→List Value}{w w':World}{S:Nat→Prop}{ks:List Int}
  (hS:(mapNHP b kl ka va zero f row).p w S) (r5:(mapHP b kl ka va zero has' row').p w' S) (hk:ks.length=kl.length)
  (hh: ∀q,has' q=if q=kcode ks then true else !(f q==0)) (hf: ∀q,f' q=if q=kcode ks then 1 else if q=0 then f 0+1 - min (f (kcode ks)) 1 else f q)
  (r6: ∀es clock,w.heap[b]? =some (.map es clock)→∃es' clock',w'.heap[b]? =some (.map es' clock')∧(es'.size:Int)=es.size+(if !(f (kcode ks)==0)then 0 else 1)∧Grown es clock es' clock'):
  (mapNHP b kl ka va zero f' row').p w' S:=by
 obtain⟨h1,⟨es0,cl0,hb0,hc0⟩,h01⟩:=hS;have hz: ∀m:List Int,m.length=kl.length→kcode m≠kcode ks→kcode m≠0:=by
  intro m hm hne h0;by_cases hm0:m=[]
  ·subst hm0;have:ks=[]:=List.eq_nil_of_length_eq_zero (by rw [hk,←hm];rfl);exact hne (by rw [this])
  ·exact absurd h0 (Nat.ne_of_gt (kcode_pos hm0))
 have hag: ∀m:List Int,m.length=kl.length→(!(f' (kcode m)==0))=has' (kcode m):=by
  intro m hm;rw [hh,hf];by_cases he:kcode m=kcode ks
  ·rw [if_pos he,if_pos he];rfl
  ·rw [if_neg he,if_neg he,if_neg (hz m hm he)]
 refine⟨⟨r5.1,?_,?_⟩,?_,?_⟩
 ·obtain⟨es,cl,hb,hm⟩:=r5.2.1;refine⟨es,cl,hb,⟨fun e he=>?_,hm.once,fun m hml hhm=>hm.all m hml (by rw [←hag m hml];exact hhm)⟩⟩;obtain⟨m,m1,m2,m3,m4⟩:=hm.keys e he;exact⟨m,m1,m2,by rw [hag m m1];exact m3,m4⟩
 ·intro m hm hf0;exact r5.2.2 m hm (by rw [←hag m hm];exact hf0)
 ·obtain⟨es',cl',hb',hc',_⟩:=r6 es0 cl0 hb0;refine⟨es',cl',hb',?_⟩;have h01:=((h01 es0 cl0 hb0).2 ks hk).1;rw [hc',hf];by_cases h0:0=kcode ks
  ·have hks:ks=[]:=by
    by_cases hn:ks=[]
    ·exact hn
    ·exact absurd h0 (Nat.ne_of_lt (kcode_pos hn))
   have hle:es0.size≤1:=by
    obtain⟨es,cl,hb,hm⟩:=h1.2.1;rw [hb0]at hb;injection hb with hb
    injection hb with hb _
    subst hb;have hkl:kl=[]:=List.eq_nil_of_length_eq_zero (by rw [←hk,hks];rfl);rcases Nat.lt_or_ge 1 es0.size with h | h
    ·exfalso;obtain⟨m,m1,m2,_⟩:=hm.keys es0[0] (by simp);obtain⟨n,n1,n2,_⟩:=hm.keys es0[1] (by simp);have e1:m=[]:=List.eq_nil_of_length_eq_zero (by rw [m1,hkl];rfl);have e2:n=[]:=List.eq_nil_of_length_eq_zero (by rw [n1,hkl];rfl);have:=hm.once 0 1 es0[0] es0[1] (by simp) (by simp) (by rw [m2,n2,e1,e2]);omega
    ·exact h
   rw [if_pos h0];rw [←h0]at h01 ⊢;rw [hc0]at h01 ⊢;by_cases he:(es0.size:Int)=0
   ·rw [he];rfl
   ·rw [show(es0.size:Int)=1 by omega];rfl
  ·rw [if_neg h0,if_pos rfl,hc0];by_cases he:f (kcode ks)=0
   ·rw [he];rfl
   ·rw [show((f (kcode ks))==0)=false by simpa using he,show min (f (kcode ks)) 1=1 by omega];simp
 ·intro es1 cl1 hb1;obtain⟨es',cl',hb',hc',hg⟩:=r6 es0 cl0 hb0;rw [hb1]at hb';injection hb' with hb'
  injection hb' with hb' hcl
  subst hb' hcl;obtain⟨⟨q1,q2⟩,q3⟩:=h01 es0 cl0 hb0;obtain⟨hg1,hg2⟩:=hg;refine⟨⟨?_,?_⟩,?_⟩
  ·rcases hg1 with⟨a,b⟩ | ⟨a,b,_⟩<;>omega
  ·intro i e hi;by_cases hlt:i<es0.size
   ·obtain⟨e',h1,_,h3⟩:=hg2 i es0[i] (by simp [hlt]);rw [hi,Option.some.injEq]at h1;subst h1;rw [h3];exact q2 i es0[i] (by simp [hlt])
   ·have hl:=(Array.getElem?_eq_some_iff.1 hi).1;rcases hg1 with⟨a,b⟩ | ⟨a,b,c⟩
    ·omega
    ·have:i=es0.size:=by omega
     subst this;rw [c e hi,q1]
  ·intro m hm;rw [hf];by_cases he:kcode m=kcode ks
   ·rw [if_pos he];exact⟨by decide,fun h=>by omega⟩
   ·rw [if_neg he,if_neg (hz m hm he)];obtain⟨a,b⟩:=q3 m hm;refine⟨a,fun h2=>?_⟩;obtain⟨e,h3,h4⟩:=b h2;obtain⟨e',h5,h6,_⟩:=hg2 _ e h3;exact⟨e',h5,by rw [h6,h4]⟩
theorem updateSym_sound(hT:checkT P T=true){t:Nat}{x k v:SV}{res:Res}(h:updateSym T hp t x k v=some res)(hrd:Reads hp ρ w S res.rd):
  res.val= .undef∧∃j ck,res.eff= .set j ck∧∃w',(Instr.mapUpdate t (x.val ρ) (k.val ρ) (v.val ρ)).run P w= .ok () w'∧Wrote P w ρ hp S j ck w':=by
 unfold updateSym at h;split at h
 ·rename_i kt vt sz by_ zr ly ms_ htt;obtain⟨ht,hti⟩:=tlook_spec hT htt;have hm:P.underlying t=some (.map kt vt):=by
   have:=hti.kind;rw [←ht];exact kind_map this
  split at h
  ·rename_i tk tv htk htv;split at h
   ·rename_i kl ka hkk;have hK:=keyKinds_spec hT htk hkk;split at h
    ·rename_i kc vs hkc hvs;split at h
     ·rename_i kl' a b hrow;split at h
      ·rename_i j b' kl2 ka2 va2 zero has cols hf;split at h
       ·rename_i hcond;obtain⟨rfl,rfl,rfl,hva,hlen,hagg⟩:=hcond;split at h
        ·rename_i cols' hput;cases h;have hkv:=keyCells_val (ρ:=ρ) (ks:=(List.range kl2.length).map (a.den ρ)) hkc (by simp) (fun hk=>by obtain⟨k,h1,_⟩:=hK.one hk;exact⟨k,h1⟩) (rowOf_spec hrow);obtain⟨hj,hat⟩:=findMap_spec hf;simp only [Ck.isMap,beq_iff_eq]at hat;subst hat;have hS:=hrd j (by simp) _ hj;obtain⟨p1,p2,p3,p4⟩:=colPuts_spec ρ hput;rw [eKc_den,Int.toNat_natCast]at p3 p4;have hvv:=isAgg_enc (ρ:=ρ) hvs;rw [hagg,←hva]at hvv;have hfull:rowAt ρ cols' (kcode ((List.range kl2.length).map (a.den ρ)))=SV.cellsL ρ vs:=by
          rw [p4,List.drop_eq_nil_of_le,List.append_nil];rw [show(rowAt ρ cols _).length=colsW cols from row_length ρ cols _,cellsL_length];exact Nat.le_of_eq hlen.symm
         obtain⟨es0,cl0,hb0,hc0⟩:=hS.2.1
         let f':Nat→Int:=(E.upd (.upd has (.lit 0) (eSub (eAdd (eSel has (.lit 0)) (.lit 1)) (eBin .imin .i64 (eSel has (eKc kl2.length a)) (.lit 1)))) (eKc kl2.length a) (.lit 1)).den ρ
         have hf': ∀q,f' q=if q=kcode ((List.range kl2.length).map (a.den ρ))then 1 else if q=0 then has.den ρ 0+1 - min (has.den ρ (kcode ((List.range kl2.length).map (a.den ρ)))) 1 else has.den ρ q:=by
          intro q;simp only [f',E.den,eKc_den,Int.toNat_natCast,eSub_den,eAdd_den,eSel_den,eBin_den,iop];have hmin: ∀x:Int,(if(1:Int)<x then 1 else x)=min x 1:=fun x=>by split<;>omega
          rw [hmin];rfl
         obtain⟨w',r1,r2,r3,r4,r5,r6⟩:=run_update_map (P:=P) (w:=w) hm hK (ks:=(List.range kl2.length).map (a.den ρ)) (by simp) hS.1 (v.val ρ) (SV.cellsL ρ vs) hvv
          (has':=fun q=>if q=kcode ((List.range kl2.length).map (a.den ρ))then true else !(has.den ρ q==0)) (row':=fun i=>(cols'.map (Col.cells ρ)).flatMap fun c=>c i)
          (fun q=>rfl)
          (fun q=>by
           split
           ·rename_i hq;rw [hq];exact hfull
           ·rename_i hq;exact p3 q hq)
         refine⟨rfl,j,_,rfl,w',?_,⟨⟨_,hj,rfl⟩,rfl,r2,r3,fun k hk=>r4 k (fun e=>hk ((hS.1.1 k).2 e)),mapN_upd hS r5 (by simp) (fun q=>rfl) hf' r6⟩⟩;rw [hkv];exact r1
        ·cases h
       ·cases h
      ·rename_i j b' kl2 ka2 va2 zero es hf;split at h
       ·rename_i hcond;obtain⟨rfl,rfl,rfl,hva,hagg⟩:=hcond;split at h
        ·rename_i n hlit;cases h;have hkv:=keyCells_val (ρ:=ρ) (ks:=(List.range kl2.length).map (a.den ρ)) hkc (by simp) (fun hk=>by obtain⟨k,h1,_⟩:=hK.one hk;exact⟨k,h1⟩) (rowOf_spec hrow);obtain⟨hj,hat⟩:=findMap_spec hf;simp only [Ck.isMap,beq_iff_eq]at hat;subst hat;have hS:=hrd j (by simp) _ hj;rw [Ck.den_mapl]at hS;have hkn:n.toNat=kcode ((List.range kl2.length).map (a.den ρ)):=by
          have:=eKc_den (ρ:=ρ) kl2.length a;rw [hlit]at this;simp only [E.den]at this;rw [this,Int.toNat_natCast]
         have hvv:=isAgg_enc (ρ:=ρ) hvs;rw [hagg,←hva]at hvv;obtain⟨w',r1,r2,r3,r4,r5,_⟩:=run_update_map (P:=P) (w:=w) hm hK (ks:=(List.range kl2.length).map (a.den ρ)) (by simp) hS (v.val ρ) (SV.cellsL ρ vs) hvv
          (has':=fun q=>hasL (putL n.toNat vs es) q) (row':=fun q=>SV.cellsL ρ (rowL (putL n.toNat vs es) zero q))
          (fun q=>by rw [hasL_put,←hkn])
          (fun q=>by
           simp only [rowL_put,←hkn];split<;>rfl)
         refine⟨rfl,j,_,rfl,w',?_,⟨⟨_,hj,rfl⟩,rfl,r2,r3,fun k hk=>r4 k (fun e=>hk ((hS.1 k).2 e)),by rw [Ck.den_mapl];exact r5⟩⟩;rw [hkv];exact r1
        ·cases h
       ·cases h
      ·cases h
     ·cases h
    ·cases h
   ·cases h
  ·cases h
 ·cases h
theorem set_get{h:Array Obj}{b:Nat}{o:Obj}(hb:b<h.size):(h.setIfInBounds b o)[b]? =some o:=by simp [hb]
theorem mapN_get{b:Nat}{kl:List IntKind}{ka va:Bool}{zero:List Value}{f:Nat→Int}{row:Nat→List Value}{S:Nat→Prop}(h:(mapNHP b kl ka va zero f row).p w S):
  ∃es clock,w.heap[b]? =some (.map es clock)∧MapIs es.toList kl ka va (fun i=> !(f i==0)) row∧f 0=(es.size:Int)∧Births es clock∧
   (∀ks:List Int,ks.length=kl.length→0≤f (kcode ks)∧(2≤f (kcode ks)→∃e,es[(f (kcode ks)).toNat - 2]? =some e∧e.key=encK ka kl ks))∧
   (∀ks:List Int,ks.length=kl.length→f (kcode ks)=0→row (kcode ks)=zero)∧∀k,S k↔k=b:=by
 obtain⟨⟨h0,⟨es,cl,hb,hm⟩,hz⟩,⟨es1,cl1,hb1,hc⟩,h3⟩:=h;rw [hb]at hb1;injection hb1 with hb1
 injection hb1 with hb1 _
 subst hb1;obtain⟨q1,q2⟩:=h3 es cl hb;exact⟨es,cl,hb,hm,hc,q1,q2,fun ks hk h=>hz ks hk (by show(!(f (kcode ks)==0))=false;rw [h];rfl),h0⟩
theorem entrySym_sound(hT:checkT P T=true){t:Nat}{x k:SV}{res:Res}(h:entrySym T hp t x k=some res)(hrd:Reads hp ρ w S res.rd)(hvc: ∀b∈res.vcs,b.prop ρ):
  ∃j ck,res.eff= .set j ck∧∃w',(Instr.mapEntry t (x.val ρ) (k.val ρ)).run P w= .ok (res.val.val ρ) w'∧Wrote P w ρ hp S j ck w':=by
 unfold entrySym at h;split at h
 ·rename_i kt vt sz by_ zr ly ms_ htt;obtain⟨ht,hti⟩:=tlook_spec hT htt;have hm:P.underlying t=some (.map kt vt):=by
   have:=hti.kind;rw [←ht];exact kind_map this
  split at h
  ·rename_i tk tv htk htv;obtain⟨rfl,htv'⟩:=tlook_spec hT htv;obtain⟨iv,hiv,_,_,z,hz,hzc⟩:=htv'.info;have hzr:(zeroValue tv.t).run P w= .ok z w:=by simp [zeroValue,typeInfo,hiv,hz]
   have hze:=zero_enc (ρ:=ρ) htv' hiv hz (hzc ρ);split at h
   ·rename_i kl ka hkk;have hK:=keyKinds_spec hT htk hkk;split at h
    ·rename_i kc hkc;split at h
     ·rename_i kl' a b hrow;split at h
      ·rename_i j b' kl2 ka2 va2 zero has cols hf;split at h
       ·rename_i hcond;obtain⟨rfl,rfl,rfl,hva,hne,hzs⟩:=hcond;rw [Option.map_eq_some_iff]at h;obtain⟨zv,hzv,rfl⟩:=h;have hkv:=keyCells_val (ρ:=ρ) (ks:=(List.range kl2.length).map (a.den ρ)) hkc (by simp) (fun hk=>by obtain⟨k,h1,_⟩:=hK.one hk;exact⟨k,h1⟩) (rowOf_spec hrow);obtain⟨hj,hat⟩:=findMap_spec hf;simp only [Ck.isMap,beq_iff_eq]at hat;subst hat;have hS:=hrd j (by simp) _ hj;obtain⟨es,clock,hb,hmi,hc,⟨q1,q2⟩,q3,q4,hSb⟩:=mapN_get hS;have hk:((List.range kl2.length).map (a.den ρ)).length=kl2.length:=by simp
        have hvc0:=hvc _ (List.mem_singleton.2 rfl);rw [←BE.den_iff,bEq_den,eSel_den,eKc_den,Int.toNat_natCast]at hvc0;have hno:has.den ρ (kcode ((List.range kl2.length).map (a.den ρ)))=0:=by simpa [E.den] using hvc0
        have hcell:=litSame_cells (ρ:=ρ) hzs;have hzv':=ofCells_encV (ρ:=ρ) hzv;rw [hze]at hzv';generalize hks:(List.range kl2.length).map (a.den ρ)=ks at*;have hck:=run_checkKey_lay (P:=P) (w:=w) false 9988 12 kt _ hK.lay _ _ (mkI_fit hk) (hK.val hk);have hkne: ∀m:List Int,m.length=kl2.length→m≠ks→kcode m≠kcode ks:=fun m hm hn he=>hn (kcode_inj (hm.trans hk.symm) he)
        have hbl:=(Array.getElem?_eq_some_iff.1 hb).1;have hksne:kcode ks≠0:=Nat.ne_of_gt (kcode_pos (fun e=>hne (List.eq_nil_of_length_eq_zero (by rw [←hk,e];rfl))));have hk0: ∀m:List Int,m.length=kl2.length→kcode m≠0:=fun m hm=>Nat.ne_of_gt (kcode_pos (fun e=>hne (List.eq_nil_of_length_eq_zero (by rw [←hm,e];rfl))))
        have hmn: ∀e∈es.toList,e.key≠encK ka2 kl2 ks:=by
         intro e he hke;obtain⟨m,m1,m2,m3,_⟩:=hmi.keys e he;have:m=ks:=hK.inj m1 hk (m2.symm.trans hke);subst this;rw [hno]at m3;cases m3
        rcases run_findKey_map (P:=P) (w:=w) hK hk es.toList (fun e he=>by obtain⟨m,h1,h2,_⟩:=hmi.keys e he;exact⟨m,h1,h2⟩)with⟨h1,h2⟩ | ⟨j',e,h1,h2,h3⟩
        ·let f':Nat→Int:=(E.upd (.upd has (.lit 0) (eAdd (eSel has (.lit 0)) (.lit 1))) (eKc kl2.length a) (eAdd (eSel has (.lit 0)) (.lit 2))).den ρ
         have hf': ∀q,f' q=if q=kcode ks then(es.size:Int)+2 else if q=0 then(es.size:Int)+1 else has.den ρ q:=by
          intro q;simp only [f',E.den,eKc_den,Int.toNat_natCast,eAdd_den,eSel_den,hks];rw [show(Int.toNat 0)=0 from rfl,hc]
         refine⟨j,_,rfl,{w with heap:=w.heap.setIfInBounds (ρ.bv.getD b 0) (.map (es.push {key:=encK ka2 kl2 ks,val:=z,born:=clock}) (clock+1))},?_,⟨⟨_,hj,rfl⟩,rfl,⟨rfl,rfl,rfl,by simp⟩,by simp,fun k hk'=>?_,?_⟩⟩
         ·show(Instr.mapEntry t (.map (some (ρ.bv.getD b 0))) _).run P w=_;rw [hkv];simp only [Instr.mapEntry,Sem.run_bind,run_underlying hm,Result.andThen_ok,getMap hb,hck,h1,hzr,setMap _ hb,Sem.run_pure];simp only [SV.val,SV.vals,hzv',eSel_den,E.den];rw [show(Int.toNat 0)=0 from rfl,hc,q1];rfl
         ·simp only [];rw [Array.getElem?_setIfInBounds_ne (fun e=>hk' ((hSb k).2 e.symm))]
         ·have hbl':ρ.bv.getD b 0<w.heap.size:=hbl;have hnew:(w.heap.setIfInBounds (ρ.bv.getD b 0) (.map (es.push {key:=encK ka2 kl2 ks,val:=z,born:=clock}) (clock+1)))[ρ.bv.getD b 0]? =some (.map (es.push {key:=encK ka2 kl2 ks,val:=z,born:=clock}) (clock+1)):=set_get hbl';have hrow0:=q4 ks hk hno;show(mapNHP (ρ.bv.getD b 0) kl2 ka2 va2 (SV.cellsL ρ zero) f' fun i=>(cols.map (Col.cells ρ)).flatMap fun c=>c i).p _ _;refine⟨⟨hSb,⟨_,_,hnew,?_⟩,?_⟩,⟨_,_,hnew,?_⟩,?_⟩
          ·rw [Array.toList_push];refine⟨fun e he=>?_,fun i i' e e' hi hi' heq=>?_,fun m hm' hhm=>?_⟩
           ·rcases List.mem_append.1 he with he | he
            ·obtain⟨m,m1,m2,m3,m4⟩:=hmi.keys e he;have hmk:m≠ks:=fun h=>hmn e he (by rw [m2,h])
             exact⟨m,m1,m2,by rw [hf',if_neg (hkne m m1 hmk),if_neg (hk0 m m1)];exact m3,m4⟩
            ·simp only [List.mem_singleton]at he;subst he;refine⟨ks,hk,rfl,by rw [hf',if_pos rfl];simp;omega,?_⟩;rw [hrow0,hcell,hva,hze]
           ·rw [List.getElem?_append]at hi hi';split at hi<;>split at hi'
            ·exact hmi.once i i' e e' hi hi' heq
            ·exfalso;have:e'={key:=encK ka2 kl2 ks,val:=z,born:=clock}:=by
              have:=List.mem_of_getElem? hi';simpa using this
             subst this;exact h2 e (List.mem_of_getElem? hi) heq
            ·exfalso;have:e={key:=encK ka2 kl2 ks,val:=z,born:=clock}:=by
              have:=List.mem_of_getElem? hi;simpa using this
             subst this;exact h2 e' (List.mem_of_getElem? hi') heq.symm
            ·have g1:=(List.getElem?_eq_some_iff.1 hi).1;have g2:=(List.getElem?_eq_some_iff.1 hi').1;simp only [List.length_cons,List.length_nil]at g1 g2;omega
           ·by_cases hmk:m=ks
            ·subst hmk;exact⟨_,List.mem_append_right _ (List.mem_singleton.2 rfl),rfl⟩
            ·rw [hf',if_neg (hkne m hm' hmk),if_neg (hk0 m hm')]at hhm;obtain⟨e,he,hke⟩:=hmi.all m hm' hhm;exact⟨e,List.mem_append_left _ he,hke⟩
          ·intro m hm' h0;have h0:(!(f' (kcode m)==0))=false:=h0;rw [hf']at h0;by_cases hmk:m=ks
           ·subst hmk;exact hrow0
           ·rw [if_neg (hkne m hm' hmk),if_neg (hk0 m hm')]at h0;exact q4 m hm' (by simpa using h0)
          ·rw [hf',if_neg (fun e=>hksne e.symm),if_pos rfl];simp
          ·intro es1 cl1 he1;rw [hnew]at he1;injection he1 with he1
           injection he1 with he1 hc1
           subst he1 hc1;refine⟨⟨by rw [q1];simp,fun i e hi=>?_⟩,fun m hm'=>?_⟩
           ·rw [Array.getElem?_push]at hi;split at hi
            ·rename_i heq;cases hi;rw [q1,heq]
            ·exact q2 i e hi
           ·rw [hf'];by_cases hmk:m=ks
            ·subst hmk;rw [if_pos rfl];refine⟨by omega,fun _=>⟨{key:=encK ka2 kl2 m,val:=z,born:=clock},?_,rfl⟩⟩;rw [show((es.size:Int)+2).toNat - 2=es.size by omega,Array.getElem?_push,if_pos rfl]
            ·rw [if_neg (hkne m hm' hmk),if_neg (hk0 m hm')];obtain⟨g1,g2⟩:=q3 m hm';refine⟨g1,fun h2'=>?_⟩;obtain⟨e,g3,g4⟩:=g2 h2';have:=(Array.getElem?_eq_some_iff.1 g3).1;exact⟨e,by rw [Array.getElem?_push,if_neg (by omega)];exact g3,g4⟩
        ·exact absurd h3 (hmn e (List.mem_of_getElem? h2))
       ·cases h
      ·cases h
     ·cases h
    ·cases h
   ·cases h
  ·cases h
 ·cases h
theorem stampSym_sound(t:Nat){x s v:SV}{res:Res}(h:stampSym hp x s v=some res)(hrd:Reads hp ρ w S res.rd)(hvc: ∀b∈res.vcs,b.prop ρ):
  res.val= .undef∧∃j ck,res.eff= .set j ck∧∃w',(Instr.entryStore t (x.val ρ) (s.val ρ) (v.val ρ)).run P w= .ok () w'∧Wrote P w ρ hp S j ck w':=by
 unfold stampSym at h;split at h
 ·rename_i b e vs hvs;split at h
  ·rename_i j b' kl ka va zero hh n a y cols hf;split at h
   ·rename_i hcond;obtain⟨rfl,hlen,hagg⟩:=hcond;split at h
    ·rename_i cols' hput;cases h;obtain⟨hj,hat⟩:=findMap_spec hf;simp only [Ck.isMap,beq_iff_eq]at hat;subst hat;have hS:=hrd j (by simp) _ hj;obtain⟨es,clock,hb,hmi,hc,⟨q1,q2⟩,q3,q4,hSb⟩:=mapN_get hS;have hk:((List.range kl.length).map (a.den ρ)).length=kl.length:=by simp
     have v1:=hvc (bLe (.lit 0) e) (by simp);have v2:=hvc (bEq (eSel (.upd hh (.kc kl.length a) y) (.kc kl.length a)) (eAdd e (.lit 2))) (by simp);rw [←BE.den_iff,bLe_den]at v1;rw [←BE.den_iff,bEq_den,eSel_den,eAdd_den]at v2;have v1:0≤e.den ρ 0:=of_decide_eq_true v1;have hfk:(E.upd hh (.kc kl.length a) y).den ρ (kcode ((List.range kl.length).map (a.den ρ)))=e.den ρ 0+2:=by
      have:(E.kc kl.length a).den ρ 0=(kcode ((List.range kl.length).map (a.den ρ)):Nat):=rfl;rw [this,Int.toNat_natCast]at v2;simpa [E.den] using v2
     obtain⟨p1,p2,p3,p4⟩:=colPuts_spec ρ hput;have e0:((E.kc kl.length a).den ρ 0).toNat=kcode ((List.range kl.length).map (a.den ρ)):=by
      show(((kcode ((List.range kl.length).map (a.den ρ)):Nat):Int)).toNat=_;rw [Int.toNat_natCast]
     rw [e0]at p3 p4;generalize hfe:(E.upd hh (.kc kl.length a) y).den ρ=f at*;have hfull:rowAt ρ cols' (kcode ((List.range kl.length).map (a.den ρ)))=SV.cellsL ρ vs:=by
      rw [p4,List.drop_eq_nil_of_le,List.append_nil];rw [show(rowAt ρ cols _).length=colsW cols from row_length ρ cols _,cellsL_length];exact Nat.le_of_eq hlen.symm
     have hvv:=isAgg_enc (ρ:=ρ) hvs;rw [hagg]at hvv;generalize hks:(List.range kl.length).map (a.den ρ)=ks at*;obtain⟨g1,g2⟩:=q3 ks hk;obtain⟨e1,g3,g4⟩:=g2 (by rw [hfk];omega);rw [hfk]at g3;have hi:(e.den ρ 0+2).toNat - 2=(e.den ρ 0).toNat:=by omega
     rw [hi]at g3;have hlt:=(Array.getElem?_eq_some_iff.1 g3).1;have hidx:es.findIdx? (fun e'=>(e'.born:Int)==e.den ρ 0)=some (e.den ρ 0).toNat:=by
      rw [Array.findIdx?_eq_some_iff_getElem];refine⟨hlt,?_,fun i hi'=>?_⟩
      ·have:=q2 _ e1 g3;rw [Array.getElem?_eq_getElem hlt,Option.some.injEq]at g3;rw [g3,this];simp;omega
      ·have:=q2 i es[i] (by simp);rw [this];simp;omega
     have hbl:=(Array.getElem?_eq_some_iff.1 hb).1;have hnew:(w.heap.setIfInBounds (ρ.bv.getD b 0) (.map (es.modify (e.den ρ 0).toNat fun e'=>{e' with val:=v.val ρ}) clock))[ρ.bv.getD b 0]? =some (.map (es.modify (e.den ρ 0).toNat fun e'=>{e' with val:=v.val ρ}) clock):=set_get hbl;have hget: ∀(i:Nat),(es.modify (e.den ρ 0).toNat fun e'=>{e' with val:=v.val ρ})[i]? =if(e.den ρ 0).toNat=i then(es[i]?).map (fun e'=>{e' with val:=v.val ρ})else es[i]? :=fun i=>Array.getElem?_modify
     have hkey: ∀(i:Nat) u,(es.modify (e.den ρ 0).toNat fun e'=>{e' with val:=v.val ρ})[i]? =some u→∃u1,es[i]? =some u1∧u.key=u1.key∧u.born=u1.born∧(i≠(e.den ρ 0).toNat→u.val=u1.val)∧(i=(e.den ρ 0).toNat→u.val=v.val ρ):=by
      intro i u hu;rw [hget]at hu;split at hu
      ·rename_i hij;subst hij;rw [g3,Option.map_some,Option.some.injEq]at hu;subst hu;exact⟨e1,g3,rfl,rfl,fun h=>absurd rfl h,fun _=>rfl⟩
      ·rename_i hij;exact⟨u,hu,rfl,rfl,fun _=>rfl,fun h=>absurd h.symm hij⟩
     have hback: ∀(i:Nat) u1,es[i]? =some u1→∃u,(es.modify (e.den ρ 0).toNat fun e'=>{e' with val:=v.val ρ})[i]? =some u∧u.key=u1.key:=by
      intro i u1 hu;rw [hget,hu];split
      ·exact⟨{u1 with val:=v.val ρ},rfl,rfl⟩
      ·exact⟨u1,rfl,rfl⟩
     refine⟨rfl,j,_,rfl,{w with heap:=w.heap.setIfInBounds (ρ.bv.getD b 0) (.map (es.modify (e.den ρ 0).toNat fun e'=>{e' with val:=v.val ρ}) clock)},?_,⟨⟨_,hj,rfl⟩,rfl,⟨rfl,rfl,rfl,by simp⟩,by simp,fun k hk'=>?_,?_⟩⟩
     ·show(Instr.entryStore t (.map (some (ρ.bv.getD b 0))) (.int .i64 (e.den ρ 0)) _).run P w=_;simp only [Instr.entryStore,Sem.run_bind,getMap hb,Result.andThen_ok,asInt,asIntOf,Sem.run_pure,hidx];exact setMap _ hb
     ·simp only [];rw [Array.getElem?_setIfInBounds_ne (fun e=>hk' ((hSb k).2 e.symm))]
     ·show(mapNHP (ρ.bv.getD b 0) kl ka va (SV.cellsL ρ zero) ((E.upd hh (.kc kl.length a) y).den ρ) fun i=>(cols'.map (Col.cells ρ)).flatMap fun c=>c i).p _ _;rw [hfe];refine⟨⟨hSb,⟨_,_,hnew,?_⟩,?_⟩,⟨_,_,hnew,?_⟩,?_⟩
      ·refine⟨fun u hu=>?_,fun i i' u u' hu hu' heq=>?_,fun m hm' hhm=>?_⟩
       ·obtain⟨i,hi'⟩:=List.getElem?_of_mem hu;rw [Array.getElem?_toList]at hi';obtain⟨u1,k1,k2,_,k4,k5⟩:=hkey i u hi';obtain⟨m,m1,m2,m3,m4⟩:=hmi.keys u1 (List.mem_of_getElem? (by rw [Array.getElem?_toList];exact k1));by_cases hij:i=(e.den ρ 0).toNat
        ·subst hij;rw [g3,Option.some.injEq]at k1;subst k1;refine⟨ks,hk,by rw [k2,g4],?_,?_⟩
         ·show(!(f (kcode ks)==0))=true;rw [hfk];simp;omega
         ·rw [k5 rfl,hvv];exact congrArg (encV va) hfull.symm
        ·have hne:kcode m≠kcode ks:=by
          intro hc';have:m=ks:=kcode_inj (m1.trans hk.symm) hc';subst this;exact hij (hmi.once i (e.den ρ 0).toNat u1 e1 (by rw [Array.getElem?_toList];exact k1) (by rw [Array.getElem?_toList];exact g3) (by rw [m2,g4]))
         refine⟨m,m1,by rw [k2,m2],m3,?_⟩;rw [k4 hij,m4];exact congrArg (encV va) (p3 _ hne).symm
       ·rw [Array.getElem?_toList]at hu hu';obtain⟨u1,k1,k2,_⟩:=hkey i u hu;obtain⟨u1',k1',k2',_⟩:=hkey i' u' hu';exact hmi.once i i' u1 u1' (by rw [Array.getElem?_toList];exact k1) (by rw [Array.getElem?_toList];exact k1') (by rw [←k2,←k2',heq])
       ·obtain⟨u1,hu,hke⟩:=hmi.all m hm' hhm;obtain⟨i,hi'⟩:=List.getElem?_of_mem hu;rw [Array.getElem?_toList]at hi';obtain⟨u,k1,k2⟩:=hback i u1 hi';exact⟨u,List.mem_of_getElem? (by rw [Array.getElem?_toList];exact k1),by rw [k2,hke]⟩
      ·intro m hm' h0;have h0:(!(f (kcode m)==0))=false:=h0;have h00:f (kcode m)=0:=by simpa using h0
       have hne:kcode m≠kcode ks:=by
        intro hc';rw [hc',hfk]at h00;omega
       exact(p3 _ hne).trans (q4 m hm' h00)
      ·rw [hc];simp
      ·intro es1 cl1 he1;rw [hnew]at he1;injection he1 with he1
       injection he1 with he1 hc1
       subst he1 hc1;refine⟨⟨by rw [q1];simp,fun i u hu=>?_⟩,fun m hm'=>?_⟩
       ·obtain⟨u1,k1,_,k3,_⟩:=hkey i u hu;rw [k3];exact q2 i u1 k1
       ·obtain⟨z1,z2⟩:=q3 m hm';refine⟨z1,fun h2'=>?_⟩;obtain⟨u1,z3,z4⟩:=z2 h2';obtain⟨u,k1,k2⟩:=hback _ u1 z3;exact⟨u,k1,by rw [k2,z4]⟩
    ·cases h
   ·cases h
  ·cases h
 ·cases h
end
end Go.RX
