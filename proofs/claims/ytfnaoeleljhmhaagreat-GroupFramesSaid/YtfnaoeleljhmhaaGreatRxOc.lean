/- A reflective symbolic executor, part 15c: tables cut, shifted, spliced; what an operation reads of a slice. -/
import Derived.Test.YtfnaoeleljhmhaaGreatM10

namespace Go.RX
def tabF(f:Nat→List Value)(n:Nat):List Value:=(List.range n).flatMap f
theorem tabF_add(f:Nat→List Value)(a b:Nat):tabF f (a+b)=tabF f a++tabF (fun i=>f (a+i)) b:=by
 unfold tabF;rw [List.range_add,List.flatMap_append,List.flatMap_map]
theorem tabF_length{f:Nat→List Value}{s:Nat}(hf: ∀i,(f i).length=s)(n:Nat):(tabF f n).length=n*s:=by
 induction n with
 | zero=>simp [tabF]
 | succ n ih=>
  rw [tabF_add,List.length_append,ih];simp [tabF,hf,Nat.add_mul]
theorem tabF_congr{f g:Nat→List Value}{n:Nat}(h: ∀i,i<n→f i=g i):tabF f n=tabF g n:=by
 unfold tabF;rw [List.flatMap_def,List.flatMap_def];congr 1;exact List.map_congr_left fun i hi=>h i (List.mem_range.1 hi)
theorem tabF_cut{f:Nat→List Value}{s:Nat}(hf: ∀i,(f i).length=s)(n L N:Nat)(h:L+N≤n):
  ((tabF f n).drop (L*s)).take (N*s)=tabF (fun i=>f (L+i)) N:=by
 obtain⟨d,rfl⟩: ∃d,n=L+N+d:=⟨n - (L+N),by omega⟩;rw [tabF_add,tabF_add];have h1:=tabF_length hf L;have h2:(tabF (fun i=>f (L+i)) N).length=N*s:=tabF_length (fun i=>hf (L+i)) N;generalize tabF f L=A at h1 ⊢;generalize tabF (fun i=>f (L+i)) N=B at h2 ⊢;rw [List.append_assoc,List.drop_append,List.drop_of_length_le (l:=A) (by omega),h1,Nat.sub_self,List.drop_zero,List.nil_append,List.take_append_of_le_length (by omega),List.take_of_length_le (by omega)]
theorem tabF_spl{f g h:Nat→List Value}{s:Nat}(hf: ∀i,(f i).length=s)(n a m:Nat)(hle:a+m≤n)(hh: ∀i,h i=if a≤i∧i<a+m then g (i - a)else f i):
  tabF h n=(tabF f n).take (a*s)++tabF g m++(tabF f n).drop (a*s+m*s):=by
 obtain⟨d,rfl⟩: ∃d,n=a+m+d:=⟨n - (a+m),by omega⟩;have e1:tabF h a=tabF f a:=tabF_congr fun i hi=>by rw [hh,if_neg (by omega)]
 have e2:tabF (fun i=>h (a+i)) m=tabF g m:=tabF_congr fun i hi=>by rw [hh,if_pos (by omega)];congr 1;omega
 have e3:tabF (fun i=>h (a+m+i)) d=tabF (fun i=>f (a+m+i)) d:=tabF_congr fun i hi=>by rw [hh,if_neg (by omega)]
 rw [tabF_add h,tabF_add h,e1,e2,e3,tabF_add f,tabF_add f];have h1:=tabF_length hf a;have h2:(tabF (fun i=>f (a+i)) m).length=m*s:=tabF_length (fun i=>hf (a+i)) m;generalize tabF f a=A at h1 ⊢;generalize tabF (fun i=>f (a+i)) m=B at h2 ⊢;rw [List.append_assoc A B,List.take_append_of_le_length (by omega),List.take_of_length_le (l:=A) (by omega),List.drop_append,List.drop_of_length_le (l:=A) (by omega),h1,
  show a*s+m*s - a*s=m*s by omega,List.drop_append,List.drop_of_length_le (l:=B) (by omega),h2,Nat.sub_self,List.drop_zero,List.nil_append,List.nil_append]
section
variable {P:Program} {ρ:Env} {w:World} {look:Nat→Option SV} {vals:Operand→Value} {hp:List Ck} {S:Nat→Nat→Prop} {nb nv:Nat} {T:List TI}
theorem tabCells_eq(n:Nat)(cols:List Col):tabCells ρ n cols=tabF (rowAt ρ cols) n:=rfl
theorem shiftCols_spec{lo:E}(h0:0≤lo.den ρ 0): ∀{cols cols':List Col},shiftCols lo cols=some cols'→
  colsW cols'=colsW cols∧∀i:Nat,rowAt ρ cols' i=rowAt ρ cols ((lo.den ρ 0).toNat+i)
 | [],cols',h=>by
  simp [shiftCols]at h;subst h;exact⟨rfl,fun _=>rfl⟩
 | c::r,cols',h=>by
  unfold shiftCols at h;split at h
  ·rename_i c' r' h1 h2;cases h;obtain⟨i1,i2⟩:=shiftCols_spec h0 h2;have hc:c'.w=c.w∧∀i,c'.cells ρ i=c.cells ρ ((lo.den ρ 0).toNat+i):=by
    obtain⟨ck,cw,a⟩:=c;unfold shiftCol at h1;cases ck with
    | int k=>
     simp only [Option.some.injEq]at h1;subst h1;refine⟨rfl,fun i=>?_⟩;simp only [Col.cells,colI];apply segCells_congr;intro j _;rw [eShift_den,eMul_den];simp only [E.den];rw [toNat_mul];congr 1;rw [Nat.add_mul];omega
    | bool=>
     simp only [Option.some.injEq]at h1;subst h1;refine⟨rfl,fun i=>?_⟩;simp only [Col.cells,colB];apply List.map_congr_left;intro j _;rw [eShift_den,eMul_den];simp only [E.den];rw [toNat_mul];rw [show(lo.den ρ 0).toNat*cw+(i*cw+j)=((lo.den ρ 0).toNat+i)*cw+j by rw [Nat.add_mul];omega]
    | ptr=>
     simp only [Option.some.injEq]at h1;subst h1;refine⟨rfl,fun i=>?_⟩;simp only [Col.cells,colP];apply List.map_congr_left;intro j _;rw [eShift_den,eMul_den];simp only [E.den];rw [toNat_mul];rw [show(lo.den ρ 0).toNat*cw+(i*cw+j)=((lo.den ρ 0).toNat+i)*cw+j by rw [Nat.add_mul];omega]
    | cv=>
     simp only [Option.some.injEq]at h1;subst h1;refine⟨rfl,fun i=>?_⟩;simp only [Col.cells,colV];apply List.map_congr_left;intro j _;rw [eShift_den,eMul_den];simp only [E.den];rw [toNat_mul];rw [show(lo.den ρ 0).toNat*cw+(i*cw+j)=((lo.den ρ 0).toNat+i)*cw+j by rw [Nat.add_mul];omega]
    | sv=>
     simp only [Option.some.injEq]at h1;subst h1;refine⟨rfl,fun i=>?_⟩;simp only [Col.cells,colV];apply List.map_congr_left;intro j _;rw [eShift_den,eMul_den];simp only [E.den];rw [toNat_mul];rw [show(lo.den ρ 0).toNat*cw+(i*cw+j)=((lo.den ρ 0).toNat+i)*cw+j by rw [Nat.add_mul];omega]
    | ix v=>
     simp only [Option.some.injEq]at h1;subst h1;refine⟨rfl,fun i=>?_⟩;simp only [Col.cells,colV];apply List.map_congr_left;intro j _;rw [eShift_den,eMul_den];simp only [E.den];rw [toNat_mul];rw [show(lo.den ρ 0).toNat*cw+(i*cw+j)=((lo.den ρ 0).toNat+i)*cw+j by rw [Nat.add_mul];omega]
    | nils=>
     simp only [Option.some.injEq]at h1;subst h1;exact⟨rfl,fun i=>rfl⟩
    | val v=>
     simp only at h1;split at h1
     ·rename_i hlo;cases h1;subst hlo;refine⟨rfl,fun i=>?_⟩;simp [Col.cells,E.den]
     ·cases h1
    | vls l=>
     simp only at h1;split at h1
     ·rename_i hlo;cases h1;subst hlo;refine⟨rfl,fun i=>?_⟩;simp [Col.cells,E.den]
     ·cases h1
    | pt q v=>
     simp only at h1;split at h1
     ·rename_i hlo;cases h1;subst hlo;refine⟨rfl,fun i=>?_⟩;simp [Col.cells,E.den]
     ·cases h1
    | str=>
     simp only at h1;split at h1
     ·rename_i hlo;cases h1;subst hlo;refine⟨rfl,fun i=>?_⟩;simp [Col.cells,E.den]
     ·cases h1
   refine⟨?_,fun i=>?_⟩
   ·simp only [colsW,List.map_cons,List.sum_cons,hc.1]at i1 ⊢;omega
   ·simp only [rowAt,List.map_cons,List.flatMap_cons]at i2 ⊢;rw [hc.2,i2]
  ·cases h
theorem splCol_spec{at_ m:E}(h0:0≤at_.den ρ 0)(hm:0≤m.den ρ 0){d s c:Col}(h:splCol at_ m d s=some c):
  c.w=d.w∧s.w=d.w∧∀i:Nat,c.cells ρ i=if(at_.den ρ 0).toNat≤i∧i<(at_.den ρ 0).toNat+(m.den ρ 0).toNat then s.cells ρ (i - (at_.den ρ 0).toNat)else d.cells ρ i:=by
 obtain⟨dk,dw,da⟩:=d;obtain⟨sk,sw,sa⟩:=s;unfold splCol at h;split at h
 ·cases h
 ·rename_i hw;simp only [ne_eq,Decidable.not_not]at hw;subst hw;have key: ∀(i j:Nat),j<dw→(E.spl da (eMul at_ (.lit dw)) (eMul m (.lit dw)) sa).den ρ (i*dw+j)=
    if(at_.den ρ 0).toNat≤i∧i<(at_.den ρ 0).toNat+(m.den ρ 0).toNat then sa.den ρ ((i - (at_.den ρ 0).toNat)*dw+j)else da.den ρ (i*dw+j):=by
   intro i j hj;simp only [E.den,eMul_den,toNat_mul];generalize (at_.den ρ 0).toNat=A;generalize (m.den ρ 0).toNat=M;by_cases hc:A≤i∧i<A+M
   ·obtain⟨h1,h2⟩:=hc;obtain⟨d,rfl⟩: ∃d,i=A+d:=⟨i - A,by omega⟩;have hd:d+1≤M:=by omega
    have:=Nat.mul_le_mul_right dw hd;rw [Nat.add_mul]at this;have L1:A*dw≤(A+d)*dw+j∧(A+d)*dw+j<A*dw+M*dw:=by rw [Nat.add_mul];omega
    rw [if_pos L1,if_pos ⟨by omega,by omega⟩];congr 1;rw [show A+d - A=d by omega,Nat.add_mul];omega
   ·rw [if_neg hc,if_neg];intro hc';apply hc;constructor
    ·apply Nat.le_of_not_lt;intro hlt;have:=Nat.mul_le_mul_right dw (Nat.succ_le_of_lt hlt);rw [Nat.succ_mul]at this;omega
    ·apply Nat.lt_of_not_le;intro hle;have:=Nat.mul_le_mul_right dw hle;rw [Nat.add_mul]at this;omega
  split at h
  ·split at h
   ·rename_i k k' hk hk' hkk;simp only at hk hk';subst hk hk' hkk;cases h;refine⟨rfl,rfl,fun i=>?_⟩;simp only [Col.cells,colI];split
    ·rename_i hc;apply segCells_congr;intro j hj;rw [key i j hj,if_pos hc]
    ·rename_i hc;apply segCells_congr;intro j hj;rw [key i j hj,if_neg hc]
   ·cases h
  ·rename_i hk hk';simp only at hk hk';subst hk hk';cases h;refine⟨rfl,rfl,fun i=>?_⟩;simp only [Col.cells,colB];split
   ·rename_i hc;apply List.map_congr_left;intro j hj;rw [key i j (List.mem_range.1 hj),if_pos hc]
   ·rename_i hc;apply List.map_congr_left;intro j hj;rw [key i j (List.mem_range.1 hj),if_neg hc]
  ·rename_i hk hk';simp only at hk hk';subst hk hk';cases h;refine⟨rfl,rfl,fun i=>?_⟩;simp only [Col.cells,colP];split
   ·rename_i hc;apply List.map_congr_left;intro j hj;rw [key i j (List.mem_range.1 hj),if_pos hc]
   ·rename_i hc;apply List.map_congr_left;intro j hj;rw [key i j (List.mem_range.1 hj),if_neg hc]
  ·rename_i hk hk';simp only at hk hk';subst hk hk';cases h;refine⟨rfl,rfl,fun i=>?_⟩;simp only [Col.cells,colV];split<;>first | rfl | (simp only [hw]) | (congr 1)
  ·rename_i hk hk';simp only at hk hk';subst hk hk';cases h;refine⟨rfl,rfl,fun i=>?_⟩;simp only [Col.cells,colV];split
   ·rename_i hc;apply List.map_congr_left;intro j hj;rw [key i j (List.mem_range.1 hj),if_pos hc]
   ·rename_i hc;apply List.map_congr_left;intro j hj;rw [key i j (List.mem_range.1 hj),if_neg hc]
  ·split at h
   ·rename_i hk hk' hkk;simp only at hk hk';subst hk hk' hkk;cases h;refine⟨rfl,rfl,fun i=>?_⟩;simp only [Col.cells,colV];split
    ·rename_i hc;apply List.map_congr_left;intro j hj;rw [key i j (List.mem_range.1 hj),if_pos hc]
    ·rename_i hc;apply List.map_congr_left;intro j hj;rw [key i j (List.mem_range.1 hj),if_neg hc]
   ·cases h
  ·rename_i hk hk';simp only at hk hk';subst hk hk';split at h
   ·rename_i hc;obtain⟨rfl,hw1⟩:=hc;simp only at hw1;subst hw1;cases h;refine⟨rfl,rfl,fun i=>?_⟩;by_cases hi:i=(at_.den ρ 0).toNat
    ·rw [if_pos (by rw [den_lit,hi];constructor<;>simp)];simp [Col.cells,colV,den_put2,at2_put2,eAt2_den,den_lit,hi]
    ·rw [if_neg (by rw [den_lit];intro hc;apply hi;have:=hc.2;simp at this;omega)];simp [Col.cells,colV,den_put2,at2_put2,hi]
   ·split at h
    ·rename_i hm0;subst hm0;cases h;refine⟨rfl,rfl,fun i=>?_⟩;rw [if_neg (by simp only [den_lit];intro hc;have:=hc.2;simp at this;omega)]
    ·cases h
  ·cases h
theorem splCols_spec{at_ m:E}(h0:0≤at_.den ρ 0)(hm:0≤m.den ρ 0): ∀{d s c:List Col},splCols at_ m d s=some c→
  colsW c=colsW d∧colsW s=colsW d∧
   ∀i:Nat,rowAt ρ c i=if(at_.den ρ 0).toNat≤i∧i<(at_.den ρ 0).toNat+(m.den ρ 0).toNat then rowAt ρ s (i - (at_.den ρ 0).toNat)else rowAt ρ d i
 | [],[],c,h=>by
  simp [splCols]at h;subst h;exact⟨rfl,rfl,fun _=>by simp [rowAt]⟩
 | [],_::_,c,h=>by simp [splCols]at h
 | _::_,[],c,h=>by simp [splCols]at h
 | d::r,s::r',c,h=>by
  unfold splCols at h;split at h
  ·rename_i a b h1 h2;cases h;obtain⟨p1,p2,p3⟩:=splCol_spec h0 hm h1;obtain⟨q1,q2,q3⟩:=splCols_spec h0 hm h2;simp only [colsW,List.map_cons,List.sum_cons]at q1 q2 ⊢;refine⟨by omega,by omega,fun i=>?_⟩;simp only [rowAt,List.map_cons,List.flatMap_cons]at q3 ⊢;rw [p3,q3];split<;>rfl
  ·cases h
theorem putRows_spec{s:Nat}: ∀(k i:Nat) {cs:List SV} {cols cols':List Col},putRows s k i cs cols=some cols'→s=colsW cols→
  colsW cols'=colsW cols∧(∀i':Nat,i'<i→rowAt ρ cols' i'=rowAt ρ cols i')∧tabF (fun j=>rowAt ρ cols' (i+j)) k=(SV.cellsL ρ cs).take (k*s)
 | 0,i,cs,cols,cols',h,hs=>by
  simp [putRows]at h;subst h;simp [tabF]
 | k+1,i,cs,cols,cols',h,hs=>by
  unfold putRows at h;split at h
  ·rename_i a b h1 h2;split at h
   ·rename_i cols1 h3;obtain⟨p1,p2,p3,p4⟩:=colPuts_spec ρ h3;obtain⟨q1,q2,q3⟩:=putRows_spec k (i+1) h (by omega);have e0:((E.lit (i:Int)).den ρ 0).toNat=i:=by simp [E.den]
    rw [e0]at p3 p4;obtain⟨c1,c2⟩:=rowCut_cells ρ h1;have c3:=rowDrop_cells ρ _ _ _ h2;rw [List.drop_zero]at c1;rw [Nat.zero_add]at c2;have hal:(SV.cellsL ρ a).length=s:=by rw [c1,List.length_take];omega
    refine⟨by omega,fun i' hi=>by rw [q2 i' (by omega),p3 i' (by omega)],?_⟩;rw [Nat.add_comm k 1,tabF_add];have e1:tabF (fun j=>rowAt ρ cols' (i+j)) 1=SV.cellsL ρ a:=by
     have:rowAt ρ cols' i=SV.cellsL ρ a:=by
      rw [q2 i (by omega),p4,List.drop_eq_nil_of_le,List.append_nil];rw [show(rowAt ρ cols i).length=colsW cols from row_length ρ cols _];omega
     simp [tabF,this]
    have e2:tabF (fun j=>rowAt ρ cols' (i+(1+j))) k=tabF (fun j=>rowAt ρ cols' (i+1+j)) k:=tabF_congr fun j _=>by rw [Nat.add_assoc]
    rw [e1,e2,q3,c3,c1,Nat.add_mul,Nat.one_mul,List.take_add]
   ·cases h
  ·cases h
def World.rdRow(w:World)(v:Value)(n:Nat)(cs:List Value):Prop:=
 ∃a c,v= .slice a n c∧(a=none→n=0)∧∀ad,a=some ad→∀(j:Nat) u,cs[j]? =some u→w.cell? (ad.add j)=some u
structure SrcAt (ρ:Env) (w:World) (v:Value) (s:Nat) (n:E) (cols:List Col):Prop where
 nn:0≤n.den ρ 0
 wd:colsW cols=s
 rd:World.rdRow w v (n.den ρ 0).toNat (tabCells ρ (n.den ρ 0).toNat cols)
theorem sli_rd{md:Bool}{t s n:Nat}{v:Value}{cs:List Value}{S:Nat→Prop}(h:(sliHP md t s v n cs).p w S):World.rdRow w v n cs∧cs.length=n*s:=by
 obtain⟨h0,_⟩:=h;cases md with
 | true=>
  simp only [if_true]at h0;have h00:=h0;obtain⟨hl,hr⟩:=h0;refine⟨?_,hl⟩;rcases hr with⟨rfl,rfl⟩ | ⟨g,o,cap,cur,rfl,hg,hnc,_⟩
  ·exact⟨none,0,rfl,fun _=>rfl,by simp⟩
  ·refine⟨_,cap,rfl,by simp,?_⟩;rintro _ ⟨⟩;exact fun j u hu=>ownsAt_cells h00 j u hu
 | false=>
  simp only [Bool.false_eq_true,if_false]at h0;obtain⟨hl,a,m,c,rfl,rfl,_,hnil,hr⟩:=h0;exact⟨⟨a,c,rfl,hnil,fun ad had=>(hr ad had).2⟩,hl⟩
theorem sub_rd{s:Nat}{v x:Value}{n:E}{p:Part}{cs:List Value}(h:SubAt ρ s v x n p)(hv:World.rdRow w v (n.den ρ 0).toNat cs):
  World.rdRow w x (p.len.den ρ 0).toNat ((cs.drop ((p.lo.den ρ 0).toNat*s)).take ((p.len.den ρ 0).toNat*s)):=by
 obtain⟨h1,h2,h3,a,c,k,rfl,hc,rfl,hk⟩:=h;obtain⟨a',c',he,hnil,hr⟩:=hv;cases he;have htop:(p.lo.den ρ 0).toNat+(p.len.den ρ 0).toNat≤((p.mx.map fun m=>m.den ρ 0).map Int.toNat).getD c∨(p.len.den ρ 0).toNat=0:=by
  cases hm:(p.mx.map fun m=>m.den ρ 0)with
  | none=>simp only [Option.map_none,Option.getD_none];omega
  | some m=>have:=h3 m hm;simp only [Option.map_some,Option.getD_some];omega
 refine⟨_,_,rfl,?_,?_⟩
 ·intro hn;cases a with
  | none=>have:=hnil rfl;omega
  | some a=>cases hn
 ·intro ad had;rw [Option.map_eq_some_iff]at had;obtain⟨a0,rfl,rfl⟩:=had;have hcell:=hr a0 rfl;intro j u hu;rw [List.getElem?_take]at hu;split at hu
  ·rename_i hj;have hN:(p.len.den ρ 0).toNat≠0:=by intro h;rw [h,Nat.zero_mul]at hj;omega
   rw [List.getElem?_drop]at hu;rw [hk (.inl (by omega)),addr_add_add];exact hcell _ _ hu
  ·cases hu
theorem tab_one(cols:List Col)(n:Nat): ∀u∈tabCells ρ n cols,u.oneCell'=true:=by
 intro u hu;unfold tabCells tabL at hu;rw [List.mem_flatMap]at hu;obtain⟨i,_,hu⟩:=hu;rw [List.mem_flatMap]at hu;obtain⟨c,hc,hu⟩:=hu;rw [List.mem_map]at hc;obtain⟨⟨ck,cw,a⟩,_,rfl⟩:=hc;cases ck with
 | int k=>
  simp only [Col.cells,colI,segCells,List.mem_map]at hu;obtain⟨_,_,rfl⟩:=hu;rfl
 | bool=>
  simp only [Col.cells,colB,List.mem_map]at hu;obtain⟨_,_,rfl⟩:=hu;rfl
 | val v=>
  simp only [Col.cells,colV,List.mem_map]at hu;obtain⟨j,_,rfl⟩:=hu;exact V1.one _
 | ptr=>
  simp only [Col.cells,colP,List.mem_map]at hu;obtain⟨j,_,rfl⟩:=hu;exact ptrV_one _
 | cv=>
  simp only [Col.cells,colV,List.mem_map]at hu;obtain⟨j,_,rfl⟩:=hu;exact bslV_one _
 | sv=>
  simp only [Col.cells,colV,List.mem_map]at hu;obtain⟨j,_,rfl⟩:=hu;rfl
 | ix v=>
  simp only [Col.cells,colV,List.mem_map]at hu;obtain⟨j,_,rfl⟩:=hu;exact V1.one _
 | vls l=>
  simp only [Col.cells,colV,List.mem_map]at hu;obtain⟨j,_,rfl⟩:=hu;exact V1.one _
 | pt q v=>
  simp only [Col.cells,colV,List.mem_map]at hu;obtain⟨j,_,rfl⟩:=hu;split
  ·exact V1.one _
  ·exact bslV_one _
 | nils=>
  simp only [Col.cells,colV,List.mem_map]at hu;obtain⟨j,_,rfl⟩:=hu;rfl
 | str=>
  simp only [Col.cells,colV,List.mem_map]at hu;obtain⟨j,_,rfl⟩:=hu;rfl
theorem root_src{x:SV}{r:Rt}(h:rootSV hp x=some r)(hrd:Reads hp ρ w S [r.j])(hvc: ∀b∈r.vcs,b.prop ρ)(h0:0≤r.p.len.den ρ 0)(hw:r.s=colsW r.cols)
  {cols:List Col} (hc:shiftCols r.p.lo r.cols=some cols):SrcAt ρ w (x.val ρ) r.s r.p.len cols:=by
 obtain⟨hj,hsub⟩:=rootSV_spec h hrd hvc;have hS:=hrd r.j (by simp) _ hj;obtain⟨hv,hl⟩:=sli_rd hS;obtain⟨e1,e2⟩:=shiftCols_spec hsub.lo hc;refine⟨h0,by omega,?_⟩;have:=sub_rd hsub hv;have h2:=hsub.hi;have h1:=hsub.lo;rw [tabCells_eq,hw,tabF_cut (row_length ρ r.cols) _ _ _ (by omega)]at this;rw [tabCells_eq,tabF_congr fun i _=>e2 i];exact this
theorem tab_single(k:IntKind)(n:Nat)(a:E):tabCells ρ n [⟨.int k,1,a⟩]=segCells k n (a.den ρ):=by
 unfold tabCells tabL segCells
 induction n with
 | zero=>rfl
 | succ n ih=>
  rw [List.range_succ,List.flatMap_append,List.map_append,ih];simp [Col.cells,colI,segCells]
theorem srcOf_spec{te:TI}{y:SV}{sc:Src}(h:srcOf T hp te y=some sc)(hrd:Reads hp ρ w S sc.rd)(hvc: ∀b∈sc.vcs,b.prop ρ)
  (h0:0≤sc.n.den ρ 0):SrcAt ρ w (y.val ρ) te.size sc.n sc.cols:=by
 unfold srcOf at h;split at h
 ·split at h
  ·split at h
   ·rename_i hw;cases h;refine⟨by simp [E.den],hw.symm,none,0,by simp [SV.val,E.den],by simp [E.den],by simp⟩
   ·cases h
  ·cases h
 ·rename_i b i s m cap;split at h
  ·rename_i j b' wr cs hf;obtain⟨hj,hat⟩:=findAt_spec hf;simp only [Ck.isAt,beq_iff_eq]at hat;subst hat;split at h
   ·cases h
   ·rename_i hs;simp only [ne_eq,Decidable.not_not]at hs;subst hs;split at h
    ·rename_i i0 m0 hi0 hm0;have di:=litNat_den (ρ:=ρ) hi0;have dm:=litNat_den (ρ:=ρ) hm0;have hval:(SV.sl b i te.size m cap).val ρ= .slice (some ⟨ρ.bv.getD b 0,i0*te.size,none⟩) m0 (cap.den ρ 0).toNat:=by simp [SV.val,di,dm]
     have base: ∀(x:List SV),rowCut (i0*te.size) (m0*te.size) cs=some x→(rowHP (ρ.bv.getD b 0) wr (SV.cellsL ρ cs)).p w (S j)→
       (SV.cellsL ρ x).length=m0*te.size∧∀(k:Nat) u,(SV.cellsL ρ x)[k]? =some u→w.cell? ((⟨ρ.bv.getD b 0,i0*te.size,none⟩:Addr).add k)=some u:=by
      intro x hx hS;obtain⟨c1,c2⟩:=rowCut_cells ρ hx;refine⟨by rw [c1,List.length_take,List.length_drop];omega,fun k u hu=>?_⟩;rw [c1,List.getElem?_take]at hu;split at hu
      ·exact rowHP_read hS _ k u hu
      ·cases hu
     split at h
     ·rename_i k N a hx;split at h
      ·rename_i hc;obtain⟨hs1,rfl⟩:=hc;cases h;obtain⟨_,hb⟩:=base _ hx (hrd j (by simp) _ hj);refine⟨h0,by simp [colsW,hs1],_,_,hval,by simp,?_⟩;rintro _ ⟨⟩ k' u hu;rw [tab_single]at hu;refine hb k' u ?_;simpa [SV.cellsL,SV.cells,E.den] using hu
      ·cases h
     ·rename_i x _ hx;split at h
      ·split at h
       ·rename_i cols0 hcols;split at h
        ·rename_i hw;rw [Option.map_eq_some_iff]at h;obtain⟨cols',hp',rfl⟩:=h;obtain⟨hl,hb⟩:=base _ hx (hrd j (by simp) _ hj);obtain⟨q1,_,q3⟩:=putRows_spec (ρ:=ρ) m0 0 hp' hw;refine⟨h0,q1.trans hw.symm,_,_,hval,by simp,?_⟩;rintro _ ⟨⟩ k' u hu;refine hb k' u ?_;simp only [Nat.zero_add]at q3;rw [List.take_of_length_le (by omega)]at q3;simp only [E.den,Int.toNat_natCast]at hu;rw [tabCells_eq]at hu;rw [←q3];exact hu
        ·cases h
       ·cases h
      ·cases h
     ·cases h
    ·split at h
     ·rename_i k N a;split at h
      ·rename_i hs1;cases h;simp only at hvc h0;obtain⟨v1,v3⟩:=mem_app hvc;obtain⟨v1,v2⟩:=mem_app v1;have v1:=bLe'_prop v1;have v3:=bLe'_prop v3;rw [eAdd_den]at v3;simp only [E.den]at v1 v3;have hS:=hrd j (by simp) _ hj;refine⟨h0,by simp [colsW,hs1],_,_,rfl,by simp,?_⟩;rintro _ ⟨⟩ k' u hu;rw [tab_single,segCells_getElem?]at hu;split at hu
       ·rename_i hk;have hk:k'<(m.den ρ 0).toNat:=hk;simp only [Option.some.injEq]at hu;refine rowHP_read hS _ k' u ?_;rw [hs1,Nat.mul_one,List.getElem?_drop];simp only [SV.cellsL,SV.cells,List.append_nil];rw [segCells_getElem?,if_pos (by omega),←hu,eShift_den]
       ·cases hu
      ·cases h
     ·cases h
  ·cases h
 ·split at h
  ·rename_i r hr;split at h
   ·rename_i hc;obtain⟨hs,hw⟩:=hc;rw [Option.map_eq_some_iff]at h;obtain⟨cols,hcols,rfl⟩:=h;simp only at hvc h0;obtain⟨v1,_⟩:=mem_app hvc;rw [←hs];exact root_src hr hrd v1 h0 hw hcols
   ·cases h
  ·cases h
end
end Go.RX
