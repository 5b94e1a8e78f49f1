/- A reflective symbolic executor, part 10: loads and stores. -/
import Derived.Test.YtfnaoeleljhmhaaGreatRxI

namespace Go.RX
section
variable {P:Program} {w:World} {ρ:Env}
def Reads(hp:List Ck)(ρ:Env)(w:World)(S:Nat→Nat→Prop)(rd:List Nat):Prop:=
 ∀j∈rd,∀ck,hp[j]? =some ck→(ck.den ρ).p w (S j)
theorem segAt_cells{c:Nat}{cs pre post:List SV}{k:IntKind}{n:Nat}{a:E}(h:segAt c cs=some (pre,k,n,a,post)):
  SV.cellsL ρ cs=SV.cellsL ρ pre++segCells k n (a.den ρ)++SV.cellsL ρ post∧(SV.cellsL ρ pre).length=c:=by
 unfold segAt at h;split at h
 ·rename_i hle;split at h
  ·rename_i k' n' a' r pre' h1 h2;simp only [Option.some.injEq,Prod.mk.injEq]at h;obtain⟨rfl,rfl,rfl,rfl,rfl⟩:=h;have e1:=rowDrop_cells ρ _ _ _ h1;have e2:=rowTake_cells ρ _ _ _ h2;simp only [SV.cellsL,SV.cells]at e1;refine⟨?_,?_⟩
   ·rw [e2,List.append_assoc,e1,List.take_append_drop]
   ·rw [e2,List.length_take,cellsL_length];exact Nat.min_eq_left hle
  ·cases h
 ·cases h
theorem bLe'_prop0{a b:E}(h: ∀c∈bLe' a b,c.prop ρ):a.den ρ 0≤b.den ρ 0:=by
 unfold bLe' at h;split at h
 ·rename_i he;subst he;exact Int.le_refl _
 ·have key:(bLe a b).den ρ=true:=by
   by_cases hl:bLe a b= .lit true
   ·rw [hl];rfl
   ·exact(BE.den_iff ρ _).2 (h _ (List.mem_filter.2 ⟨by simp,by simpa using hl⟩))
  rw [bLe_den]at key;exact of_decide_eq_true key
theorem tabI_one(k:IntKind)(n:Nat)(a:E):tabCells ρ n [⟨.int k,1,a⟩]=segCells k n (a.den ρ):=by
 unfold tabCells tabL segCells
 induction n with
 | zero=>rfl
 | succ n ih=>
  rw [List.range_succ,List.flatMap_append,List.map_append,ih];simp [Col.cells,colI,segCells]
theorem strGo_spec{ρ:Env}: ∀{cs:List SV} {o:Nat} {acc a:E},strGo o acc cs=some a→
  (∀j,j<o→at2F (a.den ρ) j=at2F (acc.den ρ) j)∧(SV.cellsL ρ cs).length=cs.length∧∀j,j<cs.length→(SV.cellsL ρ cs)[j]? =some (.string ⟨(strD (at2F (a.den ρ) (o+j))).toArray⟩)
 | [],o,acc,a,h=>by
  simp only [strGo,Option.some.injEq]at h;subst h;exact⟨fun _ _=>rfl,rfl,fun j hj=>absurd hj (Nat.not_lt_zero _)⟩
 | v::r,o,acc,a,h=>by
  have key: ∀s:E,SV.cells ρ v=[.string ⟨(strD (s.den ρ)).toArray⟩]→strGo (o+1) (.put2 acc (.lit o) s) r=some a→
    (∀j,j<o→at2F (a.den ρ) j=at2F (acc.den ρ) j)∧(SV.cellsL ρ (v::r)).length=(v::r).length∧∀j,j<(v::r).length→(SV.cellsL ρ (v::r))[j]? =some (.string ⟨(strD (at2F (a.den ρ) (o+j))).toArray⟩):=by
   intro s hv h;obtain⟨i1,i2,i3⟩:=strGo_spec (ρ:=ρ) h;refine⟨fun j hj=>?_,by simp [SV.cellsL,hv,i2],fun j hj=>?_⟩
   ·rw [i1 j (by omega),den_put2,at2_put2,den_lit,if_neg (by simp;omega)]
   ·simp only [SV.cellsL,hv,List.singleton_append];cases j with
    | zero=>
     simp only [List.getElem?_cons_zero,Nat.add_zero];rw [i1 o (by omega),den_put2,at2_put2,den_lit,if_pos (by simp)]
    | succ j=>
     rw [List.getElem?_cons_succ,i3 j (by simpa using hj)];congr 6;omega
  cases v with
  | str l=>exact key (rowB l) (by simp [SV.cells,rowB_den,strD_rowS]) (by simpa [strGo] using h)
  | strE s=>exact key s rfl (by simpa [strGo] using h)
  | _=>simp [strGo]at h
theorem strTab_cells{ρ:Env}{cs:List SV}{a:E}(h:strTab cs=some a)(j:Nat)(hj:j<cs.length):(SV.cellsL ρ cs)[j]? =some (.string ⟨(strD (at2F (a.den ρ) j)).toArray⟩):=by
 have:=(strGo_spec (ρ:=ρ) h).2.2 j hj
 rwa [Nat.zero_add]at this
theorem loadSym_sound{hp:List Ck}{ti:TI}(hti:TInfo P ti){x:SV}{res:Res}(h:loadSym hp ti.k.agg ti.size x=some res)
  {S:Nat→Nat→Prop} (hrd:Reads hp ρ w S res.rd) (hvc: ∀b∈res.vcs,b.prop ρ):
  (Instr.loadAt ti.t (x.val ρ)).run P w= .ok (res.val.val ρ) w∧res.eff= .none:=by
 unfold loadSym at h;split at h
 ·rename_i b c;split at h
  ·rename_i j b' wr cs hf;obtain⟨hj,hat⟩:=findAt_spec hf;simp only [Ck.isAt,beq_iff_eq]at hat;subst hat;split at h
   ·rename_i y hy;rw [Option.map_eq_some_iff]at h;obtain⟨v,hv,rfl⟩:=h;have hS:=hrd j (by simp) _ hj;obtain⟨h1,h2⟩:=rowCut_cells ρ hy;refine⟨?_,rfl⟩;refine run_loadAt hti ⟨ρ.bv.getD b 0,c,none⟩ (SV.cellsL ρ y) (by rw [h1,List.length_take,List.length_drop];omega) ?_ _ (ofCells_val ρ hv);intro i u hu;rw [h1]at hu;refine rowHP_read hS c i u ?_;rw [List.getElem?_take]at hu;split at hu
    ·exact hu
    ·cases hu
   ·cases h
  ·cases h
 ·rename_i b i s c;split at h
  ·rename_i j b' wr cs hf;obtain⟨hj,hat⟩:=findAt_spec hf;simp only [Ck.isAt,beq_iff_eq]at hat;subst hat;split at h
   ·rename_i hc;obtain⟨rfl,hsz,hagg⟩:=hc;split at h
    ·rename_i pre k n a post hseg;simp only [Option.some.injEq]at h;subst h;have hS:=hrd j (by simp) _ hj;obtain⟨e1,e2⟩:=segAt_cells (ρ:=ρ) hseg;obtain⟨hi0,hin⟩:=inRange_prop ρ hvc;simp only [E.den]at hin;refine⟨?_,rfl⟩;refine run_loadAt hti ⟨ρ.bv.getD b 0,(i.den ρ 0).toNat*1+c,none⟩ [.int k ((eSel a i).den ρ 0)] (by simp [hsz]) ?_ _ ⟨fun h=>(by rw [hagg]at h;cases h),fun _=>rfl⟩;intro m u hu;refine rowHP_read hS _ m u ?_;have hm:m=0:=by
      cases m with
      | zero=>rfl
      | succ m=>simp at hu
     subst hm;rw [e1,List.getElem?_drop,List.append_assoc,List.getElem?_append_right (by omega),e2,List.getElem?_append_left (by rw [segCells_length];omega),segCells_getElem?,
      if_pos (by omega)]
     simp only [List.getElem?_cons_zero,Option.some.injEq]at hu;rw [←hu,eSel_den];congr 3;omega
    ·split at h
     ·rename_i hc0;split at h
      ·rename_i a hst;cases h;have hS:=hrd j (by simp) _ hj;obtain⟨hi0,hin⟩:=inRange_prop ρ hvc;simp only [E.den]at hin;refine⟨?_,rfl⟩;have hcell:=strTab_cells (ρ:=ρ) hst (i.den ρ 0).toNat (by omega);refine run_loadAt hti ⟨ρ.bv.getD b 0,(i.den ρ 0).toNat*1+c,none⟩ [.string ⟨(strD (at2F (a.den ρ) (i.den ρ 0).toNat)).toArray⟩] (by simp [hsz]) ?_ _ ⟨fun h=>(by rw [hagg]at h;cases h),fun _=>by rw [mkStr_val,eAt2_den]⟩;intro m u hu;refine rowHP_read hS _ m u ?_;have hm:m=0:=by
        cases m with
        | zero=>rfl
        | succ m=>simp at hu
       subst hm;rw [hc0,Nat.mul_one,Nat.add_zero,List.getElem?_drop,Nat.add_zero,hcell];simpa using hu
      ·cases h
     ·cases h
   ·cases h
  ·cases h
 ·rename_i v i s c;split at h
  ·rename_i j md v' t s' n cols hf;obtain⟨hj,hat⟩:=findOwn_spec hf;simp only [Ck.ownOf,beq_iff_eq]at hat;subst hat;split at h
   ·rename_i hc;obtain⟨rfl,hs⟩:=hc;split at h
    ·split at h
     ·rename_i hlt k a;split at h
      ·rename_i hca;obtain⟨rfl,hagg⟩:=hca;cases h;have hS:=hrd j (by simp) _ hj;simp only at hvc;have q1:=bLe'_prop0 (ρ:=ρ) (fun b hb=>hvc b (List.mem_append_left _ hb));have q2:=bLe'_prop0 (ρ:=ρ) (fun b hb=>hvc b (List.mem_append_right _ hb));rw [eAdd_den]at q2;simp only [E.den]at q1 q2;have hs1:s=1:=by simpa [colsW] using hs
       subst hs1;obtain⟨a0,cp,hv⟩:=sli_addr hS (by omega);refine⟨?_,rfl⟩;simp only [SV.val,intoSlice,hv];refine run_loadAt hti _ (segCells k ti.size ((eShift a i).den ρ)) (segCells_length ..) ?_ _ ⟨fun _=>by simp [SV.cellsL,SV.cells],fun h=>(by rw [hagg]at h;cases h)⟩;intro m u hu;rw [segCells_getElem?]at hu;split at hu
       ·rename_i hm;simp only [Option.some.injEq]at hu;have hu':((tabCells ρ (n.den ρ 0).toNat [⟨.int k,1,a⟩]).drop ((i.den ρ 0).toNat*1+0))[m]? =some u:=by
         rw [tabI_one,List.getElem?_drop,segCells_getElem?,if_pos (by omega),←hu,eShift_den];congr 3;omega
        obtain⟨a',m',cp',hv',_,hcell⟩:=sli_read hS _ m u hu';rw [hv]at hv';cases hv';exact hcell
       ·cases hu
      ·cases h
     ·cases h
    split at h
    ·rename_i es hes;split at h
     ·rename_i y hy;rw [Option.map_eq_some_iff]at h;obtain⟨x,hx,rfl⟩:=h;have hS:=hrd j (by simp) _ hj;obtain⟨hi0,hin⟩:=inRange_prop ρ hvc;obtain⟨h1,h2⟩:=rowCut_cells ρ hy;have h3:=colElems_cells ρ hes;have hlt:(i.den ρ 0).toNat<(n.den ρ 0).toNat:=by omega
      have hcut:=tab_cut ρ cols (n.den ρ 0).toNat (i.den ρ 0).toNat hlt;obtain⟨a,cp,hv⟩:=sli_addr hS (by omega);refine⟨?_,rfl⟩;simp only [SV.val,intoSlice,hv];refine run_loadAt hti _ (SV.cellsL ρ y) (by rw [h1,List.length_take,List.length_drop];omega) ?_ _ (ofCells_val ρ hx);intro m u hu;have hu':((tabCells ρ (n.den ρ 0).toNat cols).drop ((i.den ρ 0).toNat*s+c))[m]? =some u:=by
       rw [h1,h3,←hcut,←hs]at hu;rw [List.getElem?_take]at hu;split at hu
       ·rw [List.getElem?_drop,List.getElem?_take]at hu;split at hu
        ·rw [List.getElem?_drop]at hu;rw [List.getElem?_drop,←hu];congr 1;omega
        ·cases hu
       ·cases hu
      obtain⟨a',m',cp',hv',_,hcell⟩:=sli_read hS _ m u hu';rw [hv]at hv';cases hv';exact hcell
     ·cases h
    ·cases h
   ·cases h
  ·cases h
 ·cases h
theorem setCells_size(b:Nat): ∀(vs:List Value) (o:Nat) (w:World),(w.setCells b o vs).heap.size=w.heap.size
 | [],_,_=>rfl
 | v::r,o,w=>by rw [World.setCells,setCells_size b r];simp [World.setCell]
theorem setCells_same(b:Nat): ∀(vs:List Value) (o:Nat) (w:World),Same w (w.setCells b o vs)
 | [],_,w=>Same.refl w
 | v::r,o,w=>by
  rw [World.setCells];exact Same.trans (b:=w.setCell ⟨b,o,none⟩ v) ⟨rfl,rfl,rfl,by simp [World.setCell]⟩ (setCells_same b r (o+1) _)
theorem setCells_other(b:Nat): ∀(vs:List Value) (o:Nat) (w:World) (k:Nat),k≠b→(w.setCells b o vs).heap[k]? =w.heap[k]?
 | [],_,_,_,_=>rfl
 | v::r,o,w,k,hk=>by
  rw [World.setCells,setCells_other b r (o+1) _ k hk];simp only [World.setCell,Array.getElem?_modify];rw [if_neg (by omega)]
theorem rowHP_set{b:Nat}{cs vs:List Value}{S:Nat→Prop}(h:(rowHP b true cs).p w S)(c:Nat)(hl:c+vs.length≤cs.length)
  (h1: ∀u∈vs,u.oneCell'=true):
  (storeCells ⟨b,c,none⟩ vs).run P w= .ok () (w.setCells b c vs)∧(rowHP b true (cs.take c++vs++cs.drop (c+vs.length))).p (w.setCells b c vs) S:=by
 obtain⟨hS,ty,fz,hg,hf⟩:=h;have hfz:=hf rfl;subst hfz;have hcell: ∀j,j<vs.length→(w.cell? ⟨b,c+j,none⟩).isSome=true:=fun j hj=>by
  rw [cell_of_row w b (c+j) _ ty (0,0) hg];simp;omega
 have hfr: ∀j,j<vs.length→w.frozen? ⟨b,c+j,none⟩=false:=fun j hj=>by
  simp [World.frozen?,hg]
 have r1:=run_storeCells_cells (P:=P) b c vs 0 w (by simpa using hcell) (by simpa using hfr) h1;have r2:=run_storeCells_at (P:=P) b c ty vs 0 cs.toArray w hg (by simp;omega) h1;simp only [Nat.add_zero]at r1 r2;have e:w.setCells b c vs=w.setRow b (cs.take c++vs++cs.drop (c+vs.length)).toArray:=by
  rw [r1]at r2;injection r2
 exact⟨r1,hS,ty,(0,0),by rw [e];exact setRow_heap w b _ _ ty _ hg,fun _=>rfl⟩
theorem take_put{α:Type}(l vs:List α)(c N:Nat)(h:c+vs.length≤N)(hN:N≤l.length):
  (l.take c++vs++l.drop (c+vs.length)).take N=(l.take N).take c++vs++(l.take N).drop (c+vs.length):=by
 rw [List.take_append,List.take_of_length_le (l:=l.take c++vs) (by simp;omega),List.take_take,Nat.min_eq_left (by omega),List.drop_take];congr 2;simp;omega
theorem take_put_at(l vs:List Value)(o c k:Nat)(hc:c+vs.length≤k)(hk:o+k≤l.length):
  ((l.take (o+c)++vs++l.drop (o+c+vs.length)).drop o).take k=((l.drop o).take k).take c++vs++((l.drop o).take k).drop (c+vs.length):=by
 have e1:(l.take (o+c)++vs++l.drop (o+c+vs.length)).drop o=(l.drop o).take c++vs++(l.drop o).drop (c+vs.length):=by
  rw [List.append_assoc,List.drop_append_of_le_length (by simp;omega),List.drop_take,Nat.add_sub_cancel_left,List.append_assoc,List.drop_drop,Nat.add_assoc]
 rw [e1];exact take_put (l.drop o) vs c k hc (by simp;omega)
theorem run_storeCells_loose{sz:Nat}(g o:Nat)(t:TypeId)(fz:Nat×Nat): ∀(vs:List Value) (i:Nat) (cur:Array Value) (w:World),w.heap[g]? =some (.cells cur t fz)→Loose sz cur fz→o+i+vs.length≤cur.size→(∀v∈vs,v.oneCell'=true)→
  (storeCells ⟨g,o,none⟩ vs i).run P w= .ok () (w.setRow g (cur.toList.take (o+i)++vs++cur.toList.drop (o+i+vs.length)).toArray)
 | [],i,cur,w,hg,_,_,_=>by
  simp only [storeCells,List.append_nil,List.length_nil,Nat.add_zero,List.take_append_drop,Array.toArray_toList];rw [setRow_self w g cur t fz hg];rfl
 | v::rest,i,cur,w,hg,hz,hl,h1=>by
  have hi:o+i<cur.size:=by simp at hl;omega
  have hadd:(⟨g,o,none⟩:Addr).add i=⟨g,o+i,none⟩:=by unfold Addr.add;split<;>simp_all
  have hcell:w.cell? ⟨g,o+i,none⟩=some cur[o+i]:=by simp [World.cell?,hg,hi]
  have hfro:w.frozen? ⟨g,o+i,none⟩=false:=by
   simp only [World.frozen?,hg];exact hz.off hi
  have hst:(store ((⟨g,o,none⟩:Addr).add i) v).run P w= .ok () (w.setRow g (cur.setIfInBounds (o+i) v)):=by
   rw [hadd,run_store P w _ v _ (h1 v (by simp)),hcell];simp [hfro,setCell_eq_setRow w g (o+i) cur t fz v hg]
  have ih:=run_storeCells_loose g o t fz rest (i+1) (cur.setIfInBounds (o+i) v) (w.setRow g (cur.setIfInBounds (o+i) v)) (setRow_heap w g cur _ t _ hg) (Loose.put (vs:=[v]) (k:=o+i) (m:=o+i+1) hz (fun u hu=>by rw [List.mem_singleton.1 hu];exact h1 v (by simp)) (by rw [Array.toList_setIfInBounds,List.set_eq_take_append_cons_drop,if_pos (by simpa using hi)];simp) (by simp)) (by simp at hl ⊢;omega) (fun x hx=>h1 x (by simp [hx]));simp only [storeCells,Sem.run_bind,hst,Result.andThen_ok,ih,setRow_setRow];congr 3;have e:=list_seg_step cur.toList (o+i) v rest (by simp at hl ⊢;omega);simpa [Array.toList_setIfInBounds,Nat.add_assoc] using e
theorem sliHP_set{t s n:Nat}{v:Value}{cs vs:List Value}{S:Nat→Prop}(h:(sliHP true t s v n cs).p w S)(c:Nat)(hl:c+vs.length≤cs.length)
  (hne:0<vs.length) (h1: ∀u∈vs,u.oneCell'=true):
  ∃g o w',intoSlice v c= .pointer (some ⟨g,o,none⟩)∧S g∧(storeCells ⟨g,o,none⟩ vs).run P w= .ok () w'∧Same w w'∧w'.heap.size=w.heap.size∧
   (∀k,k≠g→w'.heap[k]? =w.heap[k]?)∧(sliHP true t s v n (cs.take c++vs++cs.drop (c+vs.length))).p w' S:=by
 obtain⟨h0,hS⟩:=h;simp only [if_true]at h0;obtain⟨hlen,hr⟩:=h0;rcases hr with⟨_,rfl⟩ | ⟨g,o,cap,cur,rfl,⟨t',fz,hg,hz⟩,hnc,hcm,hcs,htake⟩
 ·rw [Nat.zero_mul]at hlen;omega
 ·have hns:n*s≤cap*s:=Nat.mul_le_mul_right _ hnc;have hcs:=hcs (by
   apply Nat.pos_of_ne_zero;rintro rfl;rw [Nat.zero_mul]at hns;omega)
  have hcur:o+c+vs.length≤cur.size:=by omega
  have hst:=run_storeCells_loose (P:=P) g (o+c) t' fz vs 0 cur w hg hz (by simpa using hcur) h1;simp only [Nat.add_zero]at hst;refine⟨g,o+c,_,by simp [intoSlice,addr_add_at],(hS g).2 ⟨by simp [Value.ownBlock],.inl rfl⟩,hst,⟨rfl,rfl,rfl,by simp⟩,by simp,fun k hk=>setRow_other w g k _ hk,?_,hS⟩;simp only [if_true];refine⟨by simp;omega,.inr ⟨g,o,cap,_,rfl,⟨t',fz,setRow_heap w g cur _ t' _ hg,Loose.put hz h1 rfl (by simp;omega)⟩,hnc,hcm,?_,?_⟩⟩
  ·simp only [List.size_toArray,List.length_append,List.length_take,List.length_drop,Array.length_toList];intro _;omega
  ·rw [←htake];simp only;exact take_put_at _ vs o c (n*s) (by omega) (by simp;omega)
theorem run_storeAt{ti:TI}(h:TInfo P ti)(a:Addr)(v:Value)(vs:List Value)(hv:v.cells.toList=vs)(hl:vs.length=ti.size){w':World}
  (hr:(storeCells a vs).run P w= .ok () w'):(Instr.storeAt ti.t (.pointer (some a)) v).run P w= .ok () w':=by
 have hsz:v.cells.size=ti.size:=by rw [←hl,←hv];simp
 simp [Instr.storeAt,Instr.sureAddr,storeVar,h.sizeOf w,hsz,hv,hr]
structure Wrote (P:Program) (w:World) (ρ:Env) (hp:List Ck) (S:Nat→Nat→Prop) (j:Nat) (ck:Ck) (w':World):Prop where
 old: ∃ck0,hp[j]? =some ck0∧(ck0.den ρ).wr=true
 wr:j=j
 same:Same w w'
 size:w'.heap.size=w.heap.size
 keep: ∀k,¬S j k→w'.heap[k]? =w.heap[k]?
 now:(ck.den ρ).p w' (S j)
theorem storeSym_sound{hp:List Ck}{ti:TI}(hti:TInfo P ti){v x:SV}{res:Res}(h:storeSym hp ti.size v x=some res)(hok:ρ.Ok)
  {S:Nat→Nat→Prop} (hrd:Reads hp ρ w S res.rd) (hvc: ∀b∈res.vcs,b.prop ρ):
  res.val= .undef∧∃j ck,res.eff= .set j ck∧∃w',(Instr.storeAt ti.t (x.val ρ) (v.val ρ)).run P w= .ok () w'∧Wrote P w ρ hp S j ck w':=by
 unfold storeSym at h;split at h
 ·rename_i b c;split at h
  ·rename_i j b' cs vs hf hvs;obtain⟨hj,hat⟩:=findAt_spec hf;simp only [Ck.isAt,beq_iff_eq]at hat;subst hat;obtain⟨e1,e2⟩:=toCells_cells ρ hvs hok;split at h
   ·rename_i hlen;rw [Option.map_eq_some_iff]at h;obtain⟨cs',hcs',rfl⟩:=h;refine⟨rfl,j,_,rfl,?_⟩;have hS:=hrd j (by simp) _ hj;obtain⟨h1,h2⟩:=rowPut_cells ρ hcs';obtain⟨h3,h4⟩:=rowHP_set (P:=P) hS c h2 e2;refine⟨_,run_storeAt hti _ _ _ e1 (by rw [cellsL_length];exact hlen) h3,⟨⟨_,hj,rfl⟩,rfl,setCells_same _ _ _ _,setCells_size _ _ _ _,?_,?_⟩⟩
    ·intro k hk;exact setCells_other _ _ _ _ _ (fun e=>hk ((hS.1 k).2 e))
    ·simp only [Ck.den,h1];exact h4
   ·cases h
  ·cases h
 ·rename_i b i s c;split at h
  ·rename_i j b' cs k e hf hvs;obtain⟨hj,hat⟩:=findAt_spec hf;simp only [Ck.isAt,beq_iff_eq]at hat;subst hat;obtain⟨e1,e2⟩:=toCells_cells ρ hvs hok;split at h
   ·rename_i hc;obtain⟨rfl,hsz⟩:=hc;split at h
    ·rename_i pre k' n a post hseg;split at h
     ·rename_i hk;subst hk;simp only [Option.some.injEq]at h;subst h;refine⟨rfl,j,_,rfl,?_⟩;have hS:=hrd j (by simp) _ hj;obtain⟨h1,h2⟩:=segAt_cells (ρ:=ρ) hseg;obtain⟨hi0,hin⟩:=inRange_prop ρ hvc;simp only [E.den]at hin;have hlt:(i.den ρ 0).toNat<n:=by omega
      have hvl:(SV.cellsL ρ [SV.int k e])=[.int k (e.den ρ 0)]:=rfl;rw [hvl]at e1 e2;have hcl:c+(i.den ρ 0).toNat+1≤(SV.cellsL ρ cs).length:=by rw [h1];simp [segCells_length];omega
      obtain⟨h3,h4⟩:=rowHP_set (P:=P) (vs:=[.int k (e.den ρ 0)]) hS (c+(i.den ρ 0).toNat) (by simpa using hcl) e2;refine⟨_,by rw [show SV.val ρ (.ptri b i 1 c)= .pointer (some ⟨ρ.bv.getD b 0,c+(i.den ρ 0).toNat,none⟩) by simp [SV.val,Nat.add_comm]];exact run_storeAt hti _ _ _ e1 (by simpa using hsz.symm) h3,
       ⟨⟨_,hj,rfl⟩,rfl,setCells_same _ _ _ _,setCells_size _ _ _ _,?_,?_⟩⟩
      ·intro k' hk';exact setCells_other _ _ _ _ _ (fun e=>hk' ((hS.1 k').2 e))
      ·simp only [Ck.den];have:SV.cellsL ρ (pre++ .seg k n (.upd a i e)::post)=(SV.cellsL ρ cs).take (c+(i.den ρ 0).toNat)++[.int k (e.den ρ 0)]++(SV.cellsL ρ cs).drop (c+(i.den ρ 0).toNat+1):=by
        rw [cellsL_append,h1];simp only [SV.cellsL,SV.cells];have hlp:(SV.cellsL ρ pre).length=c:=h2;generalize SV.cellsL ρ pre=A at hlp ⊢;generalize SV.cellsL ρ post=B;rw [List.append_assoc A,List.take_append,List.take_of_length_le (l:=A) (by omega),hlp,show c+(i.den ρ 0).toNat - c=(i.den ρ 0).toNat by omega,
         List.drop_append,List.drop_of_length_le (l:=A) (by omega),hlp,show c+(i.den ρ 0).toNat+1 - c=(i.den ρ 0).toNat+1 by omega,
         List.take_append_of_le_length (by rw [segCells_length];omega),List.drop_append_of_le_length (by rw [segCells_length];omega),List.nil_append]
        simp only [List.append_assoc];congr 1;apply List.ext_getElem?;intro m;by_cases hm:m<n
        ·rw [List.getElem?_append_left (by rw [segCells_length];exact hm),segCells_getElem?,if_pos hm];simp only [E.den];rcases Nat.lt_trichotomy m (i.den ρ 0).toNat with hlt' | heq | hgt
         ·rw [if_neg (by omega),List.getElem?_append_left (by simp [segCells_length];omega),List.getElem?_take_of_lt hlt',segCells_getElem?,if_pos hm]
         ·subst heq;rw [if_pos rfl,List.getElem?_append_right (by simp [segCells_length];omega)];simp [segCells_length,Nat.min_eq_left (Nat.le_of_lt hm)]
         ·rw [if_neg (by omega),List.getElem?_append_right (by simp [segCells_length];omega)];simp only [List.length_take,segCells_length,Nat.min_eq_left (Nat.le_of_lt hlt)];obtain⟨d,rfl⟩: ∃d,m=(i.den ρ 0).toNat+1+d:=⟨m - (i.den ρ 0).toNat - 1,by omega⟩;rw [show(i.den ρ 0).toNat+1+d - (i.den ρ 0).toNat=d+1 by omega,List.singleton_append,List.getElem?_cons_succ,List.getElem?_append_left (by simp [segCells_length];omega),
           List.getElem?_drop,segCells_getElem?,if_pos (by omega)]
        ·rw [List.getElem?_append_right (by rw [segCells_length];omega),segCells_length,List.getElem?_append_right (by simp [segCells_length];omega)];simp only [List.length_take,segCells_length,Nat.min_eq_left (Nat.le_of_lt hlt)];obtain⟨d,rfl⟩: ∃d,m=n+d:=⟨m - n,by omega⟩;rw [show n+d - (i.den ρ 0).toNat=(n - (i.den ρ 0).toNat - 1)+d+1 by omega,List.singleton_append,List.getElem?_cons_succ,
          List.getElem?_append_right (by simp [segCells_length];omega)]
         congr 1;simp [segCells_length];omega
       rw [this];exact h4
     ·cases h
    ·cases h
   ·cases h
  ·cases h
 ·rename_i xv i s c;split at h
  ·rename_i j v' t s' n cols vs hf hvs;obtain⟨hj,hat⟩:=findOwn_spec hf;simp only [Ck.ownOf,beq_iff_eq]at hat;subst hat;obtain⟨e1,e2⟩:=toCells_cells ρ hvs hok;split at h
   ·rename_i hc;obtain⟨rfl,hs,hpos,hlen⟩:=hc;rw [Option.map_eq_some_iff]at h;obtain⟨cols',hcols,rfl⟩:=h;refine⟨rfl,j,_,rfl,?_⟩;have hS:=hrd j (by simp) _ hj;obtain⟨hi0,hin⟩:=inRange_prop ρ hvc;have hlt:(i.den ρ 0).toNat<(n.den ρ 0).toNat:=by omega
    obtain⟨p1,p2,p3,p4⟩:=colPutAt_spec ρ hcols;have hput:=tab_put s (fun(i:Nat)=>rowAt ρ cols i) (fun(i:Nat)=>rowAt ρ cols' i) (fun i=>by rw [row_length];exact hs.symm) (fun i=>by rw [row_length,p1];exact hs.symm)
     (n.den ρ 0).toNat (i.den ρ 0).toNat c (SV.cellsL ρ vs) hlt (by rw [hs];exact p2) p3 p4
    have hvl:(SV.cellsL ρ vs).length=ti.size:=by rw [cellsL_length];exact hlen
    have hbound:(i.den ρ 0).toNat*s+c+(SV.cellsL ρ vs).length≤(tabCells ρ (n.den ρ 0).toNat cols).length:=by
     rw [tab_length,←hs];have:=Nat.mul_le_mul_right s (Nat.succ_le_of_lt hlt);rw [Nat.succ_mul]at this;omega
    obtain⟨g,o,w',g1,g2,g3,g4,g5,g6,g7⟩:=sliHP_set (P:=P) hS _ hbound (by omega) e2;refine⟨w',?_,⟨⟨_,hj,rfl⟩,rfl,g4,g5,?_,?_⟩⟩
    ·rw [show SV.val ρ (.pv xv i s c)=intoSlice (ρ.vv.getD xv V1.nil).v ((i.den ρ 0).toNat*s+c)from rfl,g1];exact run_storeAt hti _ _ _ e1 hvl g3
    ·intro k hk;exact g6 k (fun e=>hk (e▸g2))
    ·simp only [Ck.den];rw [show tabCells ρ (n.den ρ 0).toNat cols'=(List.range (n.den ρ 0).toNat).flatMap fun i=>rowAt ρ cols' i from rfl,hput];exact g7
   ·cases h
  ·cases h
 ·cases h
end
end Go.RX
