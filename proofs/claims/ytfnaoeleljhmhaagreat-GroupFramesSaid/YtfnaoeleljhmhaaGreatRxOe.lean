/- A reflective symbolic executor, part 15e: rows cleared, copied, made. -/
import Derived.Test.YtfnaoeleljhmhaaGreatRxOd

namespace Go.RX
section
variable {P:Program} {ρ:Env} {w:World} {look:Nat→Option SV} {vals:Operand→Value} {hp:List Ck} {S:Nat→Nat→Prop} {nb nv:Nat} {T:List TI}
theorem zeroFit_spec: ∀{l:List SV} {cols:List Col},zeroFit l cols=true→∀i:Nat,rowAt ρ cols i=SV.cellsL ρ l
 | [],[],_,_=>rfl
 | [],_::_,h,_=>by simp [zeroFit]at h
 | v::r,[],h,_=>by cases v<;>simp [zeroFit]at h
 | v::r,c::cols,h,i=>by
  unfold zeroFit at h;split at h
  ·rename_i h1 _;cases h1
  ·rename_i k r' k' w cols' h1 h2;cases h1;cases h2;simp only [Bool.and_eq_true,beq_iff_eq]at h;obtain⟨⟨rfl,rfl⟩,h⟩:=h;have:=zeroFit_spec h i;simp only [rowAt,List.map_cons,List.flatMap_cons,SV.cellsL,SV.cells]at this ⊢;rw [this];simp [Col.cells,colI,segCells,E.den]
  ·rename_i r' w cols' h1 h2;cases h1;cases h2;simp only [Bool.and_eq_true,beq_iff_eq]at h;obtain⟨rfl,h⟩:=h;have:=zeroFit_spec h i;simp only [rowAt,List.map_cons,List.flatMap_cons,SV.cellsL,SV.cells]at this ⊢;rw [this];simp [Col.cells,colB,E.den,BE.den]
  ·rename_i k n r' k' w cols' h1 h2;cases h1;cases h2;simp only [Bool.and_eq_true,beq_iff_eq]at h;obtain⟨⟨rfl,rfl⟩,h⟩:=h;have:=zeroFit_spec h i;simp only [rowAt,List.map_cons,List.flatMap_cons,SV.cellsL,SV.cells]at this ⊢;rw [this];simp only [Col.cells,colI];congr 1
  ·rename_i r' w cols' h1 h2;cases h1;cases h2;simp only [Bool.and_eq_true,beq_iff_eq]at h;obtain⟨rfl,h⟩:=h;have:=zeroFit_spec h i;simp only [rowAt,List.map_cons,List.flatMap_cons,SV.cellsL,SV.cells]at this ⊢;rw [this];simp [Col.cells,colP,E.den,ptrV]
  ·rename_i r' w a' cols' h1 h2;cases h1;cases h2;simp only [Bool.and_eq_true,beq_iff_eq]at h;obtain⟨rfl,h⟩:=h;have:=zeroFit_spec h i;simp only [rowAt,List.map_cons,List.flatMap_cons,SV.cellsL,SV.cells]at this ⊢;rw [this];simp [Col.cells,colV]
  ·rename_i r' w cols' h1 h2;cases h1;cases h2;simp only [Bool.and_eq_true,beq_iff_eq]at h;obtain⟨rfl,h⟩:=h;have:=zeroFit_spec h i;simp only [rowAt,List.map_cons,List.flatMap_cons,SV.cellsL,SV.cells]at this ⊢;rw [this];simp [Col.cells,colV,E.den,at2F,strD]
  ·rename_i r' w cols' h1 h2;cases h1;cases h2;simp only [Bool.and_eq_true,beq_iff_eq]at h;obtain⟨rfl,h⟩:=h;have:=zeroFit_spec h i;simp only [rowAt,List.map_cons,List.flatMap_cons,SV.cellsL,SV.cells]at this ⊢;rw [this];simp [Col.cells,colV,E.den,sDec_zero]
  ·cases h
theorem zeroCols_spec{te:TI}{z:List Col}(h:zeroCols T te=some z):(∀i:Nat,rowAt ρ z i=SV.cellsL ρ te.zero)∧colsW z=te.size∧0<te.size:=by
 unfold zeroCols at h;split at h
 ·split at h
  ·rename_i hc;cases h;simp only [Bool.and_eq_true,beq_iff_eq,Bool.not_eq_true',beq_eq_false_iff_ne]at hc;exact⟨fun i=>zeroFit_spec hc.1.1 i,hc.1.2,by omega⟩
  ·cases h
 ·cases h
theorem zero_tab{te:TI}{z:List Col}(h:zeroCols T te=some z)(n:Nat):tabCells ρ n z=(List.replicate n (SV.cellsL ρ te.zero)).flatten:=by
 rw [tabCells_eq,tabF_congr fun i _=>(zeroCols_spec h).1 i];unfold tabF
 induction n with
 | zero=>rfl
 | succ n ih=>rw [List.range_succ,List.flatMap_append,ih,List.replicate_succ',List.flatten_append];simp
theorem makeSym_sound(hT:checkT P T=true){ts:TypeId}{tt:TI}(htt:tlook T ts=some tt){n c:E}{res:Res}(h:makeSym T nv tt.k n c=some res)(hvc: ∀b∈res.vcs,b.prop ρ)
  (k k':IntKind):
  Did P ρ w hp S nb nv ((do pure (.value (←Instr.makeSlice ts (.int k (n.den ρ 0)) (.int k' (c.den ρ 0)))):Sem Next).run P w) res:=by
 unfold makeSym at h;split at h
 ·rename_i t hk;split at h
  ·rename_i te hte;obtain⟨rfl,htt'⟩:=tlook_spec hT htt;obtain⟨rfl,hti⟩:=tlook_spec hT hte;have hkk:=htt'.kind;rw [hk]at hkk;have hu:=kind_slice hkk;obtain⟨i,hi,hsz,hby,z,hz,hc⟩:=hti.info;have hzs:z.cells.size=te.size:=by rw [←Array.length_toList,←hc ρ,cellsL_length,hti.zlen]
   split at h
   ·rename_i zc hzc;cases h;simp only at hvc;obtain⟨v1,v3⟩:=mem_app hvc;obtain⟨v1,v2⟩:=mem_app v1;have v1:=bLe'_prop v1;have v2:=bLe'_prop v2;simp only [E.den]at v1;obtain⟨b1,b2⟩:=roomVc_prop (n:=c) (bytes:=te.bytes) (v3 _ (by simp)) (by omega);obtain⟨z1,z2,z3⟩:=zeroCols_spec (ρ:=ρ) hzc;have hb':(i.bytes:Int)*c.den ρ 0≤281474976710656:=by
     have:((i.bytes*(c.den ρ 0).toNat:Nat):Int)≤281474976710656:=by rw [hby,Nat.mul_comm];omega
     rw [Int.natCast_mul,Int.toNat_of_nonneg (by omega)]at this;exact this
    have hr:=run_make (P:=P) w tt.t te.t i z hu hi hz k k' (n.den ρ 0) (c.den ρ 0) v1 v2 hb' (by omega);have hcells:(madeCells z.cells ((c.den ρ 0).toNat*i.size)).toList=tabCells ρ (c.den ρ 0).toNat zc:=by
     rw [zero_tab hzc,hc ρ,hsz,←hzs];unfold madeCells;exact rep_mod _ _ (by omega)
    refine⟨te.t,te.size,n,zc,.slice (some ⟨w.heap.size,0,none⟩) (n.den ρ 0).toNat (c.den ρ 0).toNat,w.alloc (.cells (madeCells z.cells ((c.den ρ 0).toNat*i.size)) te.t),fun k=>k=w.heap.size,rfl,rfl,by simp only [Sem.run_bind,hr,Result.andThen_ok,Sem.run_pure],rfl,⟨rfl,rfl,rfl,by simp⟩,fun k hk=>heap_alloc_old w _ hk,⟨?_,?_⟩,?_⟩
    ·simp only [if_true];refine⟨by rw [tab_length,z2],.inr ⟨w.heap.size,0,_,_,rfl,⟨_,_,heap_alloc_new w _,.zero (.inr (made_one (zone hti.one hc) (by omega) _))⟩,by omega,by unfold maxLen;omega,fun _=>?_,?_⟩⟩
     ·rw [size_madeCells,hsz,Nat.zero_add];exact Nat.le_refl _
     ·rw [hcells,←z2,List.drop_zero,cells_take_tab _ _ _ (by omega)]
    ·intro k;simp only [Value.ownBlock,Option.some.injEq];exact⟨fun h=>⟨h.symm,.inl trivial⟩,fun h=>h.1.symm⟩
    ·rintro k rfl;simp
   ·cases h
  ·cases h
 ·cases h
theorem buildNil_sound(hT:checkT P T=true){ti te:TI}{t:TypeId}(ht:tlook T t=some ti){e:Nat}(hk:ti.k= .slice e)(hte:tlook T e=some te){zc:List Col}(_:zeroCols T te=some zc):
  Did P ρ w hp S nb nv ((do pure (.value (←Instr.buildSlice t 0 #[])):Sem Next).run P w) {val:= .vv nv,eff:= .own (.sli true nv e te.size (.lit 0) zc)}:=by
 obtain⟨rfl,hti⟩:=tlook_spec hT ht;obtain⟨rfl,htie⟩:=tlook_spec hT hte;have hkk:=hti.kind;rw [hk]at hkk;have hu:=kind_slice hkk;have hr:(Instr.buildSlice ti.t 0 #[]).run P w= .ok (.slice (some ⟨w.heap.size,0,none⟩) 0 0) (w.alloc (.cells #[] te.t)):=by
  simp [Instr.buildSlice,run_underlying hu,htie.sizeOf w,Instr.fill,newRow,Array.range_zero']
 refine⟨te.t,te.size,.lit 0,zc,.slice (some ⟨w.heap.size,0,none⟩) 0 0,w.alloc (.cells #[] te.t),fun k=>k=w.heap.size,rfl,rfl,by simp only [Sem.run_bind,hr,Result.andThen_ok,Sem.run_pure],rfl,⟨rfl,rfl,rfl,by simp⟩,fun k hk=>heap_alloc_old w _ hk,⟨?_,?_⟩,?_⟩
 ·simp only [if_true];refine⟨by simp [E.den,tabCells,tabL],.inr ⟨w.heap.size,0,0,#[],rfl,⟨_,_,heap_alloc_new w _,.zero (.inr (by simp))⟩,Nat.le_refl _,Nat.zero_le _,by simp,by simp [E.den,tabCells,tabL]⟩⟩
 ·intro k;simp only [Value.ownBlock,Option.some.injEq];exact⟨fun h=>⟨h.symm,.inl trivial⟩,fun h=>h.1.symm⟩
 ·rintro k rfl;simp
theorem sub_put{x:SV}{r:Rt}(hr:rootSV hp x=some r)(hrd:Reads hp ρ w S [r.j])(hv: ∀b∈r.vcs,b.prop ρ)(hmd:r.md=true)(hw:r.s=colsW r.cols)(hl:0≤r.p.len.den ρ 0)
  {m:E} (hm:0≤m.den ρ 0) (hle:m.den ρ 0≤r.p.len.den ρ 0) {sc cols':List Col} (hs:colsW sc=r.s) (hcols:splCols r.p.lo m r.cols sc=some cols'):
  ∃a c,x.val ρ= .slice a (r.p.len.den ρ 0).toNat c∧∃w',(∀ad,a=some ad→(storeCells ad (tabCells ρ (m.den ρ 0).toNat sc)).run P w= .ok () w')∧((m.den ρ 0).toNat=0→w'=w)∧(a=none→w'=w)∧
   Wrote P w ρ hp S r.j (.sli true r.v r.t r.s r.n cols') w':=by
 obtain⟨hj,hsub⟩:=rootSV_spec hr hrd hv;have hS:=hrd r.j (by simp) _ hj;have hS:(sliHP true r.t r.s (ρ.vv.getD r.v V1.nil).v (r.n.den ρ 0).toNat (tabCells ρ (r.n.den ρ 0).toNat r.cols)).p w (S r.j):=by
  rw [hmd]at hS;exact hS
 obtain⟨h1,h2,h3,a,c,k,hv0,hc,hx,hk⟩:=hsub;obtain⟨c1,c2,c3⟩:=splCols_spec (ρ:=ρ) h1 hm hcols;have htab:=tabF_spl (f:=rowAt ρ r.cols) (g:=rowAt ρ sc) (h:=rowAt ρ cols') (s:=r.s) (fun i=>by rw [row_length];exact hw.symm) (r.n.den ρ 0).toNat (r.p.lo.den ρ 0).toNat (m.den ρ 0).toNat (by omega) c3;have hnl:(tabCells ρ (m.den ρ 0).toNat sc).length=(m.den ρ 0).toNat*r.s:=by rw [tab_length,hs]
 have hbnd:(r.p.lo.den ρ 0).toNat*r.s+(tabCells ρ (m.den ρ 0).toNat sc).length≤(tabCells ρ (r.n.den ρ 0).toNat r.cols).length:=by
  rw [hnl,tab_length,←hw,←Nat.add_mul];exact Nat.mul_le_mul_right _ (by omega)
 have hnone:a=none→(m.den ρ 0).toNat=0:=by
  rintro rfl;obtain⟨_,_,he,hnil,_⟩:=(sli_rd hS).1;rw [hv0]at he;cases he;have:=hnil rfl;omega
 obtain⟨w',g1,g2,g3,g4,g5,g6⟩:=sliHP_put (P:=P) hS ((r.p.lo.den ρ 0).toNat*r.s) hbnd (tab_one _ _) ((a.getD ⟨0,0,none⟩).add ((r.p.lo.den ρ 0).toNat*r.s)) (fun hpos'=>by
  rw [hv0];cases a with
  | none=>
   have:=hnone rfl;rw [hnl,this,Nat.zero_mul]at hpos';omega
  | some a=>rfl)
 have hz:(m.den ρ 0).toNat=0→tabCells ρ (m.den ρ 0).toNat sc=[]:=fun h=>List.eq_nil_of_length_eq_zero (by rw [hnl,h,Nat.zero_mul])
 refine⟨_,_,hx,w',?_,fun h=>g6 (hz h),fun h=>?_,⟨⟨_,hj,by rw [hmd];rfl⟩,rfl,g2,g3,g4,?_⟩⟩
 ·intro ad had;by_cases h0:(m.den ρ 0).toNat=0
  ·rw [hz h0]at g6 ⊢;rw [g6 rfl];rfl
  ·cases a with
   | none=>simp at had
   | some a0=>
    simp only [Option.map_some,Option.some.injEq]at had;subst had;have htop:(r.p.lo.den ρ 0).toNat<((r.p.mx.map fun m=>m.den ρ 0).map Int.toNat).getD c:=by
     cases hmx:(r.p.mx.map fun m=>m.den ρ 0)with
     | none=>simp only [Option.map_none,Option.getD_none];omega
     | some q=>have:=h3 q hmx;simp only [Option.map_some,Option.getD_some];omega
    rw [hk (.inl htop)];exact g1
 ·cases a with
  | some a=>simp at h
  | none=>exact g6 (hz (hnone rfl))
 ·simp only [Ck.den];rw [tabCells_eq,htab];rw [hnl]at g5;exact g5
theorem zero_flat{te:TI}{z:Value}{zc:List Col}(hzc:zeroCols T te=some zc)(hc:SV.cellsL ρ te.zero=z.cells.toList)(hzs:z.cells.size=te.size)(n:Nat):
  (Builtin.zeroCells z.cells n).toList=tabCells ρ n zc:=by
 obtain⟨z1,z2,z3⟩:=zeroCols_spec (ρ:=ρ) hzc;rw [zero_tab hzc,hc];unfold Builtin.zeroCells;exact rep_mod _ _ (by omega)
theorem clearSym_sound(hT:checkT P T=true){ts:TypeId}{tt:TI}(htt:tlook T ts=some tt){x:SV}{res:Res}(h:clearSym T hp tt.k x=some res)
  (hrd:Reads hp ρ w S res.rd) (hvc: ∀b∈res.vcs,b.prop ρ) (ty:TypeId):
  Did P ρ w hp S nb nv ((do pure (.value (←Builtin.clear_ #[ts] ty #[x.val ρ])):Sem Next).run P w) res:=by
 unfold clearSym at h;split at h
 ·rename_i e hk;cases h;obtain⟨rfl,htt'⟩:=tlook_spec hT htt;have hkk:=htt'.kind;rw [hk]at hkk;have hu:=kind_slice hkk;show(Sem.run P _ w)= .ok (Next.value (SV.undef.val ρ)) w;simp [Builtin.clear_,run_underlying hu,SV.val,undef]
 ·rename_i e hk _;split at h
  ·rename_i te r hte hr;obtain⟨rfl,htt'⟩:=tlook_spec hT htt;obtain⟨rfl,hti⟩:=tlook_spec hT hte;have hkk:=htt'.kind;rw [hk]at hkk;have hu:=kind_slice hkk;obtain⟨i,hi,hsz,hby,z,hz,hc⟩:=hti.info;have hzs:z.cells.size=te.size:=by rw [←Array.length_toList,←hc ρ,cellsL_length,hti.zlen]
   split at h
   ·rename_i zc hzc;split at h
    ·rename_i hcond;obtain⟨hs,hw,hmd⟩:=hcond;rw [Option.map_eq_some_iff]at h;obtain⟨cols',hcols,rfl⟩:=h;simp only at hvc hrd;obtain⟨v1,v2⟩:=mem_app hvc;have v2:=bLe'_prop v2;simp only [E.den]at v2;obtain⟨_,z2,z3⟩:=zeroCols_spec (ρ:=ρ) hzc;obtain⟨a,c,hx,w',s1,s2,s3,s4⟩:=sub_put (P:=P) hr hrd v1 hmd hw v2 v2 (Int.le_refl _) (z2.trans hs.symm) hcols;refine⟨w',.inl ?_,s4⟩;rw [hx];cases a with
     | none=>
      rw [s3 rfl];simp [Builtin.clear_,run_underlying hu,SV.val,undef]
     | some ad=>
      by_cases h0:(r.p.len.den ρ 0).toNat=0
      ·rw [s2 h0,h0];simp [Builtin.clear_,run_underlying hu,SV.val,undef]
      ·obtain⟨N,hN⟩: ∃N,(r.p.len.den ρ 0).toNat=N+1:=⟨(r.p.len.den ρ 0).toNat - 1,by omega⟩;have hst:=s1 ad rfl;rw [←zero_flat hzc (hc ρ) hzs,hN]at hst;rw [hN];obtain⟨z',hz',_⟩:=hti.zero w;have hzz:(zeroValue te.t).run P w= .ok z w:=by simp [zeroValue,typeInfo,hi,hz]
       simp [Builtin.clear_,run_underlying hu,hzz,hst,SV.val,undef]
    ·cases h
   ·cases h
  ·cases h
 ·cases h
theorem eMin_den(a b:E):(eMin a b).den ρ 0=min (a.den ρ 0) (b.den ρ 0):=by
 unfold eMin;split
 ·rfl
 ·split
  ·rename_i h;subst h;simp
  ·simp only [E.den,iop];omega
theorem run_copy_any(ts ty e:TypeId)(i:TypeInfo)(ht:P.underlying ts=some (.slice e))(hi:P.info? e=some i)(a:Option Addr)(N C:Nat)(y:Value)(m:Nat)(news:List Value)
  (hy:World.rdRow w y m news) (hl:news.length=m*i.size) {w':World} (hs: ∀ad,a=some ad→(storeCells ad (news.take (Nat.min m N*i.size))).run P w= .ok () w') (hn:a=none→w'=w):
  (Builtin.copy_ #[ts,ts] ty #[.slice a N C,y]).run P w= .ok (goInt (Nat.min m N)) w':=by
 obtain⟨q1,q2⟩:=rdRow_first (P:=P) hy hl;have q2:=q2 (Nat.min m N) (Nat.min_le_left _ _);cases a with
 | none=>
  have:=hn rfl;subst this;simp [Builtin.copy_,run_underlying ht,sizeOf,typeInfo,hi,q1,q2]
 | some ad=>
  have:=hs ad rfl;simp [Builtin.copy_,run_underlying ht,sizeOf,typeInfo,hi,q1,q2,this]
theorem seg_spl(k:IntKind)(N i m:Nat)(f g h:Nat→Int)(hle:i+m≤N)(hh: ∀j,h j=if i≤j∧j<i+m then g (j - i)else f j):
  segCells k N h=(segCells k N f).take i++segCells k m g++(segCells k N f).drop (i+m):=by
 have e: ∀(n:Nat) (q:Nat→Int),segCells k n q=tabF (fun j=>[.int k (q j)]) n:=by
  intro n q;unfold segCells tabF
  induction n with
  | zero=>rfl
  | succ n ih=>rw [List.range_succ,List.flatMap_append,List.map_append,ih];simp
 have:=tabF_spl (f:=fun j=>[.int k (f j)]) (g:=fun j=>[.int k (g j)]) (h:=fun j=>[.int k (h j)]) (s:=1) (fun _=>rfl) N i m hle (fun j=>by rw [hh];split<;>rfl);rw [Nat.mul_one,Nat.mul_one]at this;rw [e,e,e];exact this
theorem copySym_sound(hT:checkT P T=true){ts:TypeId}{tt:TI}(htt:tlook T ts=some tt){x y:SV}{res:Res}(h:copySym T hp tt.k x y=some res)
  (hrd:Reads hp ρ w S res.rd) (hvc: ∀b∈res.vcs,b.prop ρ) (ty:TypeId):
  Did P ρ w hp S nb nv ((do pure (.value (←Builtin.copy_ #[ts,ts] ty #[x.val ρ,y.val ρ])):Sem Next).run P w) res:=by
 unfold copySym at h;split at h
 ·rename_i t hk;split at h
  ·rename_i te hte;obtain⟨rfl,htt'⟩:=tlook_spec hT htt;obtain⟨rfl,hti⟩:=tlook_spec hT hte;have hkk:=htt'.kind;rw [hk]at hkk;have hu:=kind_slice hkk;obtain⟨i,hi,hsz,hby,z,hz,hc⟩:=hti.info;split at h
   ·rename_i sc hsc;split at h
    ·rename_i b ix s n cap;split at h
     ·rename_i j b' cs hf;obtain⟨hj,hat⟩:=findAt_spec hf;simp only [Ck.isAt,beq_iff_eq]at hat;subst hat;split at h
      ·cases h
      ·rename_i hs0;have hs:s=te.size:=by
        apply Classical.byContradiction;intro hne;exact hs0 (.inl hne)
       split at h
       ·rename_i k N a;split at h
        ·rename_i k' a' hcols;split at h
         ·rename_i hcond;obtain⟨hs1,rfl⟩:=hcond;cases h;simp only at hvc hrd;obtain⟨v1,v5⟩:=mem_app hvc;obtain⟨v1,v4⟩:=mem_app v1;obtain⟨v1,v3⟩:=mem_app v1;obtain⟨v1,v2⟩:=mem_app v1;have v2:=bLe'_prop v2;have v3:=bLe'_prop v3;have v4:=bLe'_prop v4;have v5:=bLe'_prop v5;rw [eAdd_den]at v5;simp only [E.den]at v2 v3 v4 v5;obtain⟨_,s2,s3⟩:=srcOf_spec (te:=te) hsc (fun j hj=>hrd j (List.mem_cons_of_mem _ hj)) v1 v2;have hS:=hrd j (by simp) _ hj;have hS:(rowHP (ρ.bv.getD b 0) true (segCells k N (a.den ρ))).p w (S j):=by
           simpa [Ck.den,SV.cellsL,SV.cells] using hS
          rw [hcols]at s3;have hmn:((eMin sc.n n).den ρ 0).toNat=Nat.min (sc.n.den ρ 0).toNat (n.den ρ 0).toNat:=by
           rw [eMin_den];simp only [Nat.min_def,Int.min_def];split<;>split<;>omega
          have hle1:Nat.min (sc.n.den ρ 0).toNat (n.den ρ 0).toNat≤(sc.n.den ρ 0).toNat:=Nat.min_le_left _ _;have hle2:Nat.min (sc.n.den ρ 0).toNat (n.den ρ 0).toNat≤(n.den ρ 0).toNat:=Nat.min_le_right _ _;have htk:(tabCells ρ (sc.n.den ρ 0).toNat [⟨.int k,1,a'⟩]).take (Nat.min (sc.n.den ρ 0).toNat (n.den ρ 0).toNat*i.size)=segCells k (Nat.min (sc.n.den ρ 0).toNat (n.den ρ 0).toNat) (a'.den ρ):=by
           rw [tab_single,hsz,←hs,hs1,Nat.mul_one];exact segCells_take k _ _ _ hle1
          obtain⟨g1,g2⟩:=rowHP_set (P:=P) hS (ix.den ρ 0).toNat (vs:=segCells k (Nat.min (sc.n.den ρ 0).toNat (n.den ρ 0).toNat) (a'.den ρ)) (by rw [segCells_length,segCells_length];omega)
           (fun u hu=>by simp only [segCells,List.mem_map]at hu;obtain⟨_,_,rfl⟩:=hu;rfl)
          have hrun:=run_copy_any (P:=P) tt.t ty te.t i hu hi (some ⟨ρ.bv.getD b 0,(ix.den ρ 0).toNat*s,none⟩) (n.den ρ 0).toNat (cap.den ρ 0).toNat _ _ _ s3 (by rw [tab_single,segCells_length,hsz,←hs,hs1,Nat.mul_one])
           (fun ad had=>by
            cases had;rw [htk,hs1,Nat.mul_one];exact g1) (by simp)
          refine⟨w.setCells (ρ.bv.getD b 0) (ix.den ρ 0).toNat (segCells k (Nat.min (sc.n.den ρ 0).toNat (n.den ρ 0).toNat) (a'.den ρ)),.inl ?_,⟨⟨_,hj,rfl⟩,rfl,setCells_same _ _ _ _,setCells_size _ _ _ _,fun k hk=>setCells_other _ _ _ _ _ (fun e=>hk ((hS.1 k).2 e)),?_⟩⟩
          ·have e1:(SV.sl b ix s n cap).val ρ= .slice (some ⟨ρ.bv.getD b 0,(ix.den ρ 0).toNat*s,none⟩) (n.den ρ 0).toNat (cap.den ρ 0).toNat:=rfl;rw [e1];simp only [Sem.run_bind,hrun,Result.andThen_ok,Sem.run_pure,SV.val,goInt];congr 3;have:0≤(eMin sc.n n).den ρ 0:=by rw [eMin_den];omega
           omega
          ·rw [segCells_length]at g2;have:=seg_spl k N (ix.den ρ 0).toNat (Nat.min (sc.n.den ρ 0).toNat (n.den ρ 0).toNat) (a.den ρ) (a'.den ρ) ((E.spl a ix (eMin sc.n n) a').den ρ) (by omega) (fun j=>by simp only [E.den,hmn]);simp only [Ck.den,SV.cellsL,SV.cells,List.append_nil];rw [this];exact g2
         ·cases h
        ·cases h
       ·split at h
        ·rename_i i0 n0 m0 k' a' hi0 hn0 hm0 hcols;split at h
         ·rename_i hs1;rw [Option.map_eq_some_iff]at h;obtain⟨cs',hput,rfl⟩:=h;simp only at hvc hrd;have di:=litNat_den (ρ:=ρ) hi0;have dn:=litNat_den (ρ:=ρ) hn0;have dm:=litNat_den (ρ:=ρ) hm0;obtain⟨_,s2,s3⟩:=srcOf_spec (te:=te) hsc (fun j hj=>hrd j (List.mem_cons_of_mem _ hj)) hvc (by omega);have hS:=hrd j (by simp) _ hj;rw [hcols,dm,Int.toNat_natCast]at s3;obtain⟨p1,p2⟩:=rowPut_cells ρ hput;have hcl:SV.cellsL ρ [SV.seg k' (min m0 n0) a']=segCells k' (min m0 n0) (a'.den ρ):=by simp [SV.cellsL,SV.cells]
          rw [hcl]at p1 p2;obtain⟨g1,g2⟩:=rowHP_set (P:=P) hS i0 p2 (fun u hu=>by simp only [segCells,List.mem_map]at hu;obtain⟨_,_,rfl⟩:=hu;rfl);have htk:(tabCells ρ m0 [⟨.int k',1,a'⟩]).take (Nat.min m0 n0*i.size)=segCells k' (min m0 n0) (a'.den ρ):=by
           rw [tab_single,hsz,←hs,hs1,Nat.mul_one];exact segCells_take k' _ _ _ (Nat.min_le_left _ _)
          have hrun:=run_copy_any (P:=P) tt.t ty te.t i hu hi (some ⟨ρ.bv.getD b 0,i0,none⟩) n0 (cap.den ρ 0).toNat _ _ _ s3 (by rw [tab_single,segCells_length,hsz,←hs,hs1,Nat.mul_one])
           (fun ad had=>by
            cases had;rw [htk];exact g1) (by simp)
          refine⟨w.setCells (ρ.bv.getD b 0) i0 (segCells k' (min m0 n0) (a'.den ρ)),.inl ?_,⟨⟨_,hj,rfl⟩,rfl,setCells_same _ _ _ _,setCells_size _ _ _ _,fun k hk=>setCells_other _ _ _ _ _ (fun e=>hk ((hS.1 k).2 e)),?_⟩⟩
          ·have e1:(SV.sl b ix s n cap).val ρ= .slice (some ⟨ρ.bv.getD b 0,i0,none⟩) n0 (cap.den ρ 0).toNat:=by simp [SV.val,di,dn,hs1]
           rw [e1];simp only [Sem.run_bind,hrun,Result.andThen_ok,Sem.run_pure,SV.val,goInt,E.den]
          ·simp only [Ck.den,p1];exact g2
         ·cases h
        ·rename_i i0 n0 k' a' hi0 hn0 hm0 hcols;split at h
         ·rename_i k2 N2 a hcut;split at h
          ·rename_i hcond;obtain⟨hs1,rfl,rfl⟩:=hcond;rw [Option.map_eq_some_iff]at h;obtain⟨cs',hput,rfl⟩:=h;simp only at hvc hrd;obtain⟨v1,v2⟩:=mem_app hvc;have v2:=bLe'_prop v2;simp only [E.den]at v2;have di:=litNat_den (ρ:=ρ) hi0;have dn:=litNat_den (ρ:=ρ) hn0;obtain⟨_,s2,s3⟩:=srcOf_spec (te:=te) hsc (fun j hj=>hrd j (List.mem_cons_of_mem _ hj)) v1 v2;have hS:=hrd j (by simp) _ hj;rw [hcols]at s3;have hmn:((eMin sc.n (.lit N2)).den ρ 0).toNat=Nat.min (sc.n.den ρ 0).toNat N2:=by
            rw [eMin_den];simp only [E.den,Nat.min_def,Int.min_def];split<;>split<;>omega
           have hle1:Nat.min (sc.n.den ρ 0).toNat N2≤(sc.n.den ρ 0).toNat:=Nat.min_le_left _ _;have hle2:Nat.min (sc.n.den ρ 0).toNat N2≤N2:=Nat.min_le_right _ _;obtain⟨p1,p2⟩:=rowPut_cells ρ hput;obtain⟨c1,c2⟩:=rowCut_cells ρ hcut;have c1:segCells k2 N2 (a.den ρ)=((SV.cellsL ρ cs).drop i0).take N2:=by rw [←c1];simp [SV.cellsL,SV.cells]
           obtain⟨g1,g2⟩:=rowHP_set (P:=P) hS i0 (vs:=segCells k2 (Nat.min (sc.n.den ρ 0).toNat N2) (a'.den ρ)) (by rw [segCells_length];omega) (fun u hu=>by simp only [segCells,List.mem_map]at hu;obtain⟨_,_,rfl⟩:=hu;rfl);have htk:(tabCells ρ (sc.n.den ρ 0).toNat [⟨.int k2,1,a'⟩]).take (Nat.min (sc.n.den ρ 0).toNat N2*i.size)=segCells k2 (Nat.min (sc.n.den ρ 0).toNat N2) (a'.den ρ):=by
            rw [tab_single,hsz,←hs,hs1,Nat.mul_one];exact segCells_take k2 _ _ _ hle1
           have hrun:=run_copy_any (P:=P) tt.t ty te.t i hu hi (some ⟨ρ.bv.getD b 0,i0,none⟩) N2 (cap.den ρ 0).toNat _ _ _ s3 (by rw [tab_single,segCells_length,hsz,←hs,hs1,Nat.mul_one])
            (fun ad had=>by
             cases had;rw [htk];exact g1) (by simp)
           refine⟨w.setCells (ρ.bv.getD b 0) i0 (segCells k2 (Nat.min (sc.n.den ρ 0).toNat N2) (a'.den ρ)),.inl ?_,⟨⟨_,hj,rfl⟩,rfl,setCells_same _ _ _ _,setCells_size _ _ _ _,fun k hk=>setCells_other _ _ _ _ _ (fun e=>hk ((hS.1 k).2 e)),?_⟩⟩
           ·have e1:(SV.sl b ix s n cap).val ρ= .slice (some ⟨ρ.bv.getD b 0,i0,none⟩) N2 (cap.den ρ 0).toNat:=by simp [SV.val,di,dn,hs1]
            rw [e1];simp only [Sem.run_bind,hrun,Result.andThen_ok,Sem.run_pure,SV.val,goInt];congr 3;have:0≤(eMin sc.n (.lit N2)).den ρ 0:=by rw [eMin_den];simp only [E.den];omega
            omega
           ·have hsp:=seg_spl k2 N2 0 (Nat.min (sc.n.den ρ 0).toNat N2) (a.den ρ) (a'.den ρ) ((E.spl a (.lit 0) (eMin sc.n (.lit N2)) a').den ρ) (by omega) (fun j=>by simp only [E.den,hmn];rfl);have hcl:SV.cellsL ρ [SV.seg k2 N2 (E.spl a (.lit 0) (eMin sc.n (.lit N2)) a')]=segCells k2 N2 ((E.spl a (.lit 0) (eMin sc.n (.lit N2)) a').den ρ):=by simp [SV.cellsL,SV.cells]
            rw [hcl,segCells_length]at p1;simp only [Ck.den,p1,hsp,List.take_zero,List.nil_append,Nat.zero_add,c1];rw [segCells_length]at g2;have he:((SV.cellsL ρ cs).drop i0).take N2 |>.drop (Nat.min (sc.n.den ρ 0).toNat N2) |>.append ((SV.cellsL ρ cs).drop (i0+N2)) |> (· =(SV.cellsL ρ cs).drop (i0+Nat.min (sc.n.den ρ 0).toNat N2)):=by
             show List.drop _ (List.take N2 (List.drop i0 _))++List.drop (i0+N2) _=_;rw [←List.drop_drop,←List.drop_drop,List.drop_take];generalize (SV.cellsL ρ cs).drop i0=l;generalize Nat.min (sc.n.den ρ 0).toNat N2=m at hle2;have:l.drop N2=(l.drop m).drop (N2 - m):=by rw [List.drop_drop,Nat.add_sub_cancel' hle2]
             rw [this];exact List.take_append_drop (N2 - m) (l.drop m)
            have he:List.drop (Nat.min (sc.n.den ρ 0).toNat N2) (List.take N2 (List.drop i0 (SV.cellsL ρ cs)))++(SV.cellsL ρ cs).drop (i0+N2)=(SV.cellsL ρ cs).drop (i0+Nat.min (sc.n.den ρ 0).toNat N2):=he;rw [←List.append_assoc,List.append_assoc _ _ (List.drop (i0+N2) _),he];exact g2
          ·cases h
         ·cases h
        ·cases h
     ·cases h
    ·split at h
     ·rename_i r hr;split at h
      ·rename_i hcond;obtain⟨ht,hs,hw,hmd,hpos⟩:=hcond;rw [Option.map_eq_some_iff]at h;obtain⟨cols',hcols,rfl⟩:=h;simp only at hvc hrd;obtain⟨v1,v4⟩:=mem_app hvc;obtain⟨v1,v3⟩:=mem_app v1;obtain⟨v1,v2⟩:=mem_app v1;have v3:=bLe'_prop v3;have v4:=bLe'_prop v4;simp only [E.den]at v3 v4;have hrj:Reads hp ρ w S [r.j]:=fun j hj=>hrd j (by simp at hj;simp [hj])
       obtain⟨_,s2,s3⟩:=srcOf_spec (te:=te) hsc (fun j hj=>hrd j (List.mem_cons_of_mem _ hj)) v2 v4;have hm0:0≤(eMin sc.n r.p.len).den ρ 0:=by rw [eMin_den];omega
       have hml:(eMin sc.n r.p.len).den ρ 0≤r.p.len.den ρ 0:=by rw [eMin_den];omega
       have hmn:((eMin sc.n r.p.len).den ρ 0).toNat=Nat.min (sc.n.den ρ 0).toNat (r.p.len.den ρ 0).toNat:=by
        rw [eMin_den];simp only [Nat.min_def,Int.min_def];split<;>split<;>omega
       obtain⟨a,c,hx,w',q1,q2,q3,q4⟩:=sub_put (P:=P) hr hrj v1 hmd hw v3 hm0 hml (s2.trans hs.symm) hcols;refine⟨w',.inl ?_,by rw [←ht];exact q4⟩;have hrun:=run_copy_any (P:=P) tt.t ty te.t i hu hi a (r.p.len.den ρ 0).toNat c _ _ _ s3 (by rw [tab_length,s2,hsz]) (fun ad had=>by
        have:=q1 ad had;have hct:=cells_take_tab (ρ:=ρ) (sc.n.den ρ 0).toNat (Nat.min (sc.n.den ρ 0).toNat (r.p.len.den ρ 0).toNat) sc.cols (Nat.min_le_left _ _);rw [s2]at hct;rw [hsz,hct,←hmn];exact this) q3
       rw [hx];simp only [Sem.run_bind,hrun,Result.andThen_ok,Sem.run_pure,SV.val,goInt];congr 3;omega
      ·cases h
     ·cases h
   ·cases h
  ·cases h
 ·cases h
end
end Go.RX
