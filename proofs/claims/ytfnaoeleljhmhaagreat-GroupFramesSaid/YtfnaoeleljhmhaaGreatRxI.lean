/- A reflective symbolic executor, part 9: loads and stores are what their symbolic forms say. -/
import Derived.Test.YtfnaoeleljhmhaaGreatM04

namespace Go.RX
theorem findAt_spec{hp:List Ck}{b j:Nat}{ck:Ck}(h:findAt hp b=some (j,ck)):hp[j]? =some ck∧ck.isAt b=true:=by
 unfold findAt at h;split at h
 ·rename_i i hi;rw [Option.map_eq_some_iff]at h;obtain⟨c,hc,he⟩:=h;cases he;refine⟨hc,?_⟩;rw [List.findIdx?_eq_some_iff_getElem]at hi;obtain⟨hlt,h1,_⟩:=hi;rw [List.getElem?_eq_getElem hlt]at hc;cases hc;exact h1
 ·cases h
theorem findOwn_spec{hp:List Ck}{v j:Nat}{ck:Ck}(h:findOwn hp v=some (j,ck)):hp[j]? =some ck∧ck.ownOf v=true:=by
 unfold findOwn at h;split at h
 ·rename_i i hi;rw [Option.map_eq_some_iff]at h;obtain⟨c,hc,he⟩:=h;cases he;refine⟨hc,?_⟩;rw [List.findIdx?_eq_some_iff_getElem]at hi;obtain⟨hlt,h1,_⟩:=hi;rw [List.getElem?_eq_getElem hlt]at hc;cases hc;exact h1
 ·cases h
theorem tab_put(s:Nat)(f g:Nat→List Value)(hf: ∀i,(f i).length=s)(_: ∀i,(g i).length=s)(n i c:Nat)(vs:List Value)(hi:i<n)
  (hc:c+vs.length≤s) (hne: ∀j,j≠i→g j=f j) (he:g i=(f i).take c++vs++(f i).drop (c+vs.length)):
  (List.range n).flatMap g=((List.range n).flatMap f).take (i*s+c)++vs++((List.range n).flatMap f).drop (i*s+c+vs.length):=by
 have h1:List.range n=List.range i++(i::(List.range (n - i - 1)).map (· +(i+1))):=by
  apply List.ext_getElem?;intro j;rw [List.getElem?_append];by_cases hj:j<n
  ·rw [List.getElem?_range hj];by_cases hji:j<i
   ·rw [if_pos (by simpa using hji),List.getElem?_range hji]
   ·rw [if_neg (by simpa using hji),List.length_range];by_cases he:j=i
    ·subst he;simp
    ·obtain⟨d,rfl⟩: ∃d,j=i+1+d:=⟨j - i - 1,by omega⟩;rw [show i+1+d - i=d+1 by omega,List.getElem?_cons_succ,List.getElem?_map,List.getElem?_range (by omega)];simp;omega
  ·rw [List.getElem?_eq_none (by simp;omega),if_neg (by simp;omega),List.getElem?_eq_none (by simp;omega)]
 have hlen: ∀l:List Nat,(l.flatMap f).length=l.length*s:=by
  intro l
  induction l with
  | nil=>simp
  | cons a r ih=>rw [List.flatMap_cons,List.length_append,hf,ih,List.length_cons,Nat.add_mul];omega
 have hA:(List.range i).flatMap g=(List.range i).flatMap f:=by
  rw [List.flatMap_def,List.flatMap_def];congr 1;exact List.map_congr_left fun j hj=>hne j (by have:=List.mem_range.1 hj;omega)
 have hB:((List.range (n - i - 1)).map (· +(i+1))).flatMap g=((List.range (n - i - 1)).map (· +(i+1))).flatMap f:=by
  rw [List.flatMap_def,List.flatMap_def];congr 1;apply List.map_congr_left;intro j hj;simp only [List.mem_map,List.mem_range]at hj;obtain⟨x,_,rfl⟩:=hj;exact hne _ (by omega)
 rw [h1];simp only [List.flatMap_append,List.flatMap_cons,hA,hB,he];have hl:=hlen (List.range i);rw [List.length_range]at hl;generalize (List.range i).flatMap f=A at hl ⊢;generalize ((List.range (n - i - 1)).map (· +(i+1))).flatMap f=B;have hfi:=hf i;generalize f i=R at hfi ⊢;rw [List.take_append,List.take_of_length_le (l:=A) (by omega),hl,show i*s+c - i*s=c by omega,List.take_append_of_le_length (by omega)];rw [List.drop_append,List.drop_of_length_le (l:=A) (by omega),hl,show i*s+c+vs.length - i*s=c+vs.length by omega,List.drop_append_of_le_length (by omega)];simp
section
variable (ρ:Env)
theorem colPut1_spec{i:E}{v:SV}{c c':Col}(h:colPut1 i v c=some c'):
  c'.w=c.w∧v.width=c.w∧∀i':Nat,c'.cells ρ i'=if i'=(i.den ρ 0).toNat then SV.cells ρ v else c.cells ρ i':=by
 obtain⟨ck,cw,a⟩:=c;unfold colPut1 at h;split at h
 ·rename_i k k' e hk;simp only at hk;subst hk;split at h
  ·rename_i hc;obtain⟨hw,rfl⟩:=hc;simp only at hw;subst hw;simp only [Option.some.injEq]at h;subst h;refine⟨rfl,rfl,fun i'=>?_⟩;simp only [Col.cells,colI,segCells,E.den,SV.cells];by_cases hi:i'=(E.den ρ i 0).toNat
   ·simp [hi]
   ·simp [hi]
  ·cases h
 ·rename_i k k' n b hk;simp only at hk;subst hk;split at h
  ·rename_i hc;obtain⟨hw,rfl⟩:=hc;simp only at hw;subst hw;simp only [Option.some.injEq]at h;subst h;refine⟨rfl,rfl,fun i'=>?_⟩;simp only [Col.cells,colI,SV.cells];by_cases hi:i'=(E.den ρ i 0).toNat
   ·rw [if_pos hi];apply segCells_congr;intro j hj;simp only [E.den,eMul_den,toNat_mul,Int.toNat_natCast];rw [if_pos (by rw [hi];omega),hi];congr 1;omega
   ·rw [if_neg hi];apply segCells_congr;intro j hj;simp only [E.den,eMul_den,toNat_mul,Int.toNat_natCast];rw [if_neg];intro hc;rcases Nat.lt_or_gt_of_ne hi with hlt | hgt
    ·have:=Nat.mul_le_mul_right cw (Nat.succ_le_of_lt hlt);rw [Nat.succ_mul]at this;omega
    ·have:=Nat.mul_le_mul_right cw (Nat.succ_le_of_lt hgt);rw [Nat.succ_mul]at this;omega
  ·cases h
 ·rename_i x hk;simp only at hk;subst hk;split at h
  ·rename_i hw;simp only at hw;subst hw;simp only [Option.some.injEq]at h;subst h;refine⟨rfl,rfl,fun i'=>?_⟩;simp only [Col.cells,colB,E.den,SV.cells,BE.den];by_cases hi:i'=(E.den ρ i 0).toNat
   ·cases x<;>simp [hi]
   ·simp [hi]
  ·cases h
 ·rename_i e hk;simp only at hk;subst hk;split at h
  ·rename_i hw;simp only at hw;subst hw;simp only [Option.some.injEq]at h;subst h;refine⟨rfl,rfl,fun i'=>?_⟩;simp only [Col.cells,colB,E.den,SV.cells,BE.den];by_cases hi:i'=(E.den ρ i 0).toNat
   ·simp [hi]
   ·simp [hi]
  ·cases h
 ·rename_i b o hk;simp only at hk;subst hk;split at h
  ·rename_i hw;obtain⟨hw,rfl⟩:=hw;simp only at hw;subst hw;simp only [Option.some.injEq]at h;subst h;refine⟨rfl,rfl,fun i'=>?_⟩;simp only [Col.cells,colP,E.den,SV.cells];by_cases hi:i'=(E.den ρ i 0).toNat
   ·simp [hi,ptrV_blk]
   ·simp [hi]
  ·cases h
 ·rename_i hk;simp only at hk;subst hk;split at h
  ·rename_i hw;simp only at hw;subst hw;simp only [Option.some.injEq]at h;subst h;refine⟨rfl,rfl,fun i'=>?_⟩;simp only [Col.cells,colP,E.den,SV.cells];by_cases hi:i'=(E.den ρ i 0).toNat
   ·simp [hi,ptrV]
   ·simp [hi]
  ·cases h
 ·rename_i e hk;simp only at hk;subst hk;split at h
  ·rename_i hw;simp only at hw;subst hw;simp only [Option.some.injEq]at h;subst h;refine⟨rfl,rfl,fun i'=>?_⟩;simp only [Col.cells,colP,E.den,SV.cells];by_cases hi:i'=(E.den ρ i 0).toNat
   ·simp [hi]
   ·simp [hi]
  ·cases h
 ·rename_i hk;simp only at hk;subst hk;split at h
  ·rename_i hw;simp only at hw;subst hw;simp only [Option.some.injEq]at h;subst h;refine⟨rfl,rfl,fun i'=>?_⟩;simp only [Col.cells,colV,SV.cells];by_cases hi:i'=(E.den ρ i 0).toNat
   ·simp [hi]
   ·simp [hi]
  ·cases h
 ·rename_i l hk;simp only at hk;subst hk;split at h
  ·rename_i hw;simp only at hw;subst hw;simp only [Option.some.injEq]at h;subst h;refine⟨rfl,rfl,fun i'=>?_⟩;simp only [Col.cells,colV,SV.cells,den_put2,at2_put2,rowB_den];by_cases hi:i'=(E.den ρ i 0).toNat
   ·simp [hi,strD_rowS]
   ·simp [hi]
  ·cases h
 ·rename_i s hk;simp only at hk;subst hk;split at h
  ·rename_i hw;simp only at hw;subst hw;simp only [Option.some.injEq]at h;subst h;refine⟨rfl,rfl,fun i'=>?_⟩;simp only [Col.cells,colV,SV.cells,den_put2,at2_put2];by_cases hi:i'=(E.den ρ i 0).toNat
   ·simp [hi]
   ·simp [hi]
  ·cases h
 ·rename_i l hk;simp only at hk;subst hk;split at h
  ·rename_i hw;simp only at hw;subst hw;simp only [Option.some.injEq]at h;subst h;refine⟨rfl,rfl,fun i'=>?_⟩;simp only [Col.cells,colV,E.den,SV.cells];by_cases hi:i'=(E.den ρ i 0).toNat
   ·simp [hi,sDec_code]
   ·simp [hi]
  ·cases h
 ·rename_i e hk;simp only at hk;subst hk;split at h
  ·rename_i hw;simp only at hw;subst hw;simp only [Option.some.injEq]at h;subst h;refine⟨rfl,rfl,fun i'=>?_⟩;simp only [Col.cells,colV,E.den,SV.cells,srowF,strD_rowS];by_cases hi:i'=(E.den ρ i 0).toNat
   ·simp [hi]
   ·simp [hi]
  ·cases h
 ·rename_i e _ hk;simp only at hk;subst hk;split at h
  ·rename_i hw;simp only at hw;subst hw;simp only [Option.some.injEq]at h;subst h;refine⟨rfl,rfl,fun i'=>?_⟩;simp only [Col.cells,colV,E.den,SV.cells];by_cases hi:i'=(E.den ρ i 0).toNat
   ·simp [hi,sDec_code]
   ·simp [hi]
  ·cases h
 ·rename_i e hk;simp only at hk;subst hk;split at h
  ·rename_i hw;simp only at hw;subst hw;simp only [Option.some.injEq]at h;subst h;refine⟨rfl,rfl,fun i'=>?_⟩;simp only [Col.cells,colV,E.den,SV.cells];by_cases hi:i'=(E.den ρ i 0).toNat
   ·simp [hi,bslV]
   ·simp [hi]
  ·cases h
 ·rename_i hk;simp only at hk;subst hk;split at h
  ·rename_i hw;simp only at hw;subst hw;simp only [Option.some.injEq]at h;subst h;refine⟨rfl,rfl,fun i'=>?_⟩;simp only [Col.cells,colV,E.den,SV.cells];by_cases hi:i'=(E.den ρ i 0).toNat
   ·simp [hi,bslV]
   ·simp [hi]
  ·cases h
 ·rename_i u hk;simp only at hk;subst hk;split at h
  ·rename_i hw;simp only at hw;subst hw;simp only [Option.some.injEq]at h;subst h;refine⟨rfl,rfl,fun i'=>?_⟩;simp only [Col.cells,colV,SV.cells];by_cases hi:i'=(E.den ρ i 0).toNat
   ·simp [hi]
   ·simp [hi]
  ·cases h
 ·rename_i q _ u hk;simp only at hk;subst hk;split at h
  ·rename_i hw;obtain⟨hw,rfl⟩:=hw;simp only at hw;subst hw;simp only [Option.some.injEq]at h;subst h;refine⟨rfl,rfl,fun i'=>?_⟩;simp only [Col.cells,colV,SV.cells];by_cases hi:i'=(E.den ρ q 0).toNat
   ·simp [hi]
   ·simp [hi]
  ·cases h
 ·cases h
end
def mkI(kl:List IntKind)(ks:List Int):List Value:=(kl.zip ks).map fun x=> .int x.1 x.2
section
variable {ρ:Env}
theorem mkI_append{k1 k2:List IntKind}{a b:List Int}(h:a.length=k1.length):mkI (k1++k2) (a++b)=mkI k1 a++mkI k2 b:=by
 unfold mkI;rw [List.zip_append h.symm,List.map_append]
theorem mkI_rep(k:IntKind)(n:Nat)(f:Nat→Int):mkI (List.replicate n k) ((List.range n).map f)=segCells k n f:=by
 unfold mkI segCells
 induction n with
 | zero=>rfl
 | succ n ih=>
  rw [List.replicate_succ',List.range_succ,List.map_append,List.zip_append (by simp),List.map_append,ih,List.map_append];simp
theorem rowGo_spec: ∀{cs:List SV} {o:Nat} {acc:E} {kl:List IntKind} {a:E},rowGo o acc cs=some (kl,a)→
  (∀j,j<o→a.den ρ j=acc.den ρ j)∧SV.cellsL ρ cs=mkI kl ((List.range kl.length).map fun i=>a.den ρ (o+i))
 | [],o,acc,kl,a,h=>by
  simp [rowGo]at h;obtain⟨rfl,rfl⟩:=h;exact⟨fun _ _=>rfl,rfl⟩
 | v::r,o,acc,kl,a,h=>by
  cases v with
  | int k e=>
   simp only [rowGo]at h;split at h
   ·rename_i l a' h1;cases h;obtain⟨i1,i2⟩:=rowGo_spec h1;have e1: ∀j,(E.upd acc (.lit o) e).den ρ j=if j=o then e.den ρ 0 else acc.den ρ j:=fun j=>rfl
    refine⟨fun j hj=>?_,?_⟩
    ·rw [i1 j (by omega),e1,if_neg (by omega)]
    ·simp only [SV.cellsL,SV.cells,i2,List.length_cons];rw [List.range_succ_eq_map,List.map_cons,List.map_map];have e0:a.den ρ (o+0)=e.den ρ 0:=by
      rw [i1 (o+0) (by omega),e1,if_pos (by omega)]
     rw [e0];simp only [mkI,List.zip_cons_cons,List.map_cons,List.singleton_append,List.cons.injEq,true_and];congr 3;funext i;simp only [Function.comp];congr 1;omega
   ·cases h
  | seg k n b=>
   simp only [rowGo]at h;split at h
   ·rename_i l a' h1;cases h;obtain⟨i1,i2⟩:=rowGo_spec h1;have e1: ∀j,(E.spl acc (.lit o) (.lit n) b).den ρ j=if o≤j∧j<o+n then b.den ρ (j - o)else acc.den ρ j:=fun j=>rfl
    refine⟨fun j hj=>?_,?_⟩
    ·rw [i1 j (by omega),e1,if_neg (by omega)]
    ·simp only [SV.cellsL,SV.cells,i2,List.length_append,List.length_replicate];rw [List.range_add,List.map_append,mkI_append (by simp),mkI_rep,List.map_map];congr 1
     ·apply segCells_congr;intro j hj;rw [i1 (o+j) (by omega),e1,if_pos (by omega)];congr 1;omega
     ·congr 2;funext i;simp only [Function.comp];congr 1;omega
   ·cases h
  | _=>simp [rowGo]at h
theorem rowOf_spec{cs:List SV}{kl:List IntKind}{a:E}(h:rowOf cs=some (kl,a)):SV.cellsL ρ cs=mkI kl ((List.range kl.length).map (a.den ρ)):=by
 unfold rowOf at h;split at h
 ·cases h;simp only [SV.cellsL,SV.cells,List.append_nil,List.length_replicate];rw [mkI_rep]
 ·cases h;rfl
 ·have:=(rowGo_spec (ρ:=ρ) h).2;simpa using this
theorem align_cells: ∀{cols:List Col} {vs vs':List SV},align cols vs=some vs'→SV.cellsL ρ vs'=SV.cellsL ρ vs
 | [],[],vs',h=>by simp [align]at h;subst h;rfl
 | _::_,[],vs',h=>by simp [align]at h;subst h;rfl
 | [],v::r,vs',h=>by simp [align]at h;subst h;rfl
 | c::cols,v::r,vs',h=>by
  unfold align at h;split at h
  ·rw [Option.map_eq_some_iff]at h;obtain⟨z,hz,rfl⟩:=h;simp only [SV.cellsL,align_cells hz]
  ·split at h
   ·rename_i k x rest hk hx hrest;split at h
    ·rename_i kl a hrow;split at h
     ·rename_i hkl;rw [Option.map_eq_some_iff]at h;obtain⟨z,hz,rfl⟩:=h;have h1:=(rowCut_cells (ρ:=ρ) hx).1;have h2:=rowDrop_cells (ρ:=ρ) _ _ _ hrest;have h3:=rowOf_spec (ρ:=ρ) hrow;rw [hkl,List.length_replicate,mkI_rep]at h3;rw [h3,List.drop_zero]at h1;rw [SV.cellsL,SV.cells,align_cells hz,h1,h2,List.take_append_drop]
     ·cases h
    ·cases h
   ·cases h
end
section
variable (ρ:Env)
abbrev rowAt(cols:List Col)(i:Nat):List Value:=(cols.map (Col.cells ρ)).flatMap fun c=>c i
theorem colPuts0_spec{i:E}: ∀{vs:List SV} {cols cols':List Col},colPuts0 i vs cols=some cols'→
  colsW cols'=colsW cols∧(SV.cellsL ρ vs).length≤colsW cols∧
   (∀i':Nat,i'≠(i.den ρ 0).toNat→rowAt ρ cols' i'=rowAt ρ cols i')∧
   rowAt ρ cols' (i.den ρ 0).toNat=SV.cellsL ρ vs++(rowAt ρ cols (i.den ρ 0).toNat).drop (SV.cellsL ρ vs).length
 | [],cols,cols',h=>by
  simp [colPuts0]at h;subst h;simp [SV.cellsL]
 | v::r,[],cols',h=>by simp [colPuts0]at h
 | v::r,c::cols,cols',h=>by
  unfold colPuts0 at h;split at h
  ·rename_i c' cs' h1 h2;simp only [Option.some.injEq]at h;subst h;obtain⟨hw,hv,hc⟩:=colPut1_spec ρ h1;obtain⟨iw,il,ine,ieq⟩:=colPuts0_spec h2;have hvl:=cells_length ρ v;refine⟨?_,?_,?_,?_⟩
   ·simp only [colsW,List.map_cons,List.sum_cons]at iw ⊢;omega
   ·simp only [SV.cellsL,List.length_append,colsW,List.map_cons,List.sum_cons]at il ⊢;omega
   ·intro i' hi;simp only [rowAt,List.map_cons,List.flatMap_cons]at ine ⊢;rw [ine i' hi,hc i',if_neg hi]
   ·simp only [rowAt,List.map_cons,List.flatMap_cons,SV.cellsL]at ieq ⊢;rw [ieq,hc _,if_pos rfl,List.append_assoc,List.length_append,List.drop_append,col_length,List.drop_of_length_le (l:=c.cells ρ _) (by rw [col_length];omega),
     List.nil_append,hvl,hv,Nat.add_sub_cancel_left]
  ·cases h
theorem colPuts_spec{i:E}{vs:List SV}{cols cols':List Col}(h:colPuts i vs cols=some cols'):
  colsW cols'=colsW cols∧(SV.cellsL ρ vs).length≤colsW cols∧
   (∀i':Nat,i'≠(i.den ρ 0).toNat→rowAt ρ cols' i'=rowAt ρ cols i')∧
   rowAt ρ cols' (i.den ρ 0).toNat=SV.cellsL ρ vs++(rowAt ρ cols (i.den ρ 0).toNat).drop (SV.cellsL ρ vs).length:=by
 unfold colPuts at h;split at h
 ·rename_i vs' ha;have:=colPuts0_spec ρ h
  rwa [align_cells ha]at this
 ·cases h
theorem colPutAt_spec{i:E}{vs:List SV}: ∀{o:Nat} {cols cols':List Col},colPutAt i vs o cols=some cols'→
  colsW cols'=colsW cols∧o+(SV.cellsL ρ vs).length≤colsW cols∧
   (∀i':Nat,i'≠(i.den ρ 0).toNat→rowAt ρ cols' i'=rowAt ρ cols i')∧
   rowAt ρ cols' (i.den ρ 0).toNat=(rowAt ρ cols (i.den ρ 0).toNat).take o++SV.cellsL ρ vs++(rowAt ρ cols (i.den ρ 0).toNat).drop (o+(SV.cellsL ρ vs).length)
 | 0,cols,cols',h=>by
  unfold colPutAt at h;have:=colPuts_spec ρ h;simpa using this
 | o+1,[],cols',h=>by simp [colPutAt]at h
 | o+1,c::r,cols',h=>by
  unfold colPutAt at h;split at h
  ·rename_i hle;rw [Option.map_eq_some_iff]at h;obtain⟨r',h1,rfl⟩:=h;obtain⟨iw,il,ine,ieq⟩:=colPutAt_spec h1;refine⟨?_,?_,?_,?_⟩
   ·simp only [colsW,List.map_cons,List.sum_cons]at iw ⊢;omega
   ·simp only [colsW,List.map_cons,List.sum_cons]at il ⊢;omega
   ·intro i' hi;simp only [rowAt,List.map_cons,List.flatMap_cons]at ine ⊢;rw [ine i' hi]
   ·simp only [rowAt,List.map_cons,List.flatMap_cons]at ieq ⊢;rw [ieq,List.take_append,List.drop_append,col_length,List.take_of_length_le (l:=c.cells ρ _) (by rw [col_length];exact hle),
     List.drop_of_length_le (l:=c.cells ρ _) (by rw [col_length];omega),List.nil_append,show o+1+(SV.cellsL ρ vs).length - c.w=o+1 - c.w+(SV.cellsL ρ vs).length by omega]
    simp [List.append_assoc]
  ·cases h
end
end Go.RX
