/- Executor. -/
import Derived.Test.YtllcdnkfbeokhaaGreatM03
open Int renaming toNat_natCast → auD
open List renaming eq_nil_of_length_eq_zero → auH, getElem?_eq_getElem → auU, getElem?_eq_none → au0, length_append → aum, map_cons → auK, mem_filter → auR, mem_map → auL, mem_range → auG, sum_cons → au7
open Option renaming map_eq_some_iff → aus
open Option.some renaming injEq → auq
namespace Go.RX
theorem FR{α:Type}(s:Nat)(f:Nat→List α)(hf: ∀i,(f i).length=s): ∀(n i:Nat),i<n→
  (((List.range n).flatMap f).drop (i*s)).take s=f i:=by
 intro n i hi;have h1:List.range n=List.range i++(i::(List.range (n - i - 1)).map (· +(i+1))):=by
  apply List.ext_getElem?;intro j;rw [List.getElem?_append];by_cases hj:j<n
  ·rw [List.getElem?_range hj];by_cases Fq:j<i
   ·rw [if_pos (by simpa using Fq),List.getElem?_range Fq]
   ·rw [if_neg (by simpa using Fq),List.length_range];by_cases he:j=i
    ·subst he;simp
    ·obtain⟨d,rfl⟩: ∃d,j=i+1+d:=⟨j - i - 1,by omega⟩;rw [show i+1+d - i=d+1 by omega,List.getElem?_cons_succ,List.getElem?_map,List.getElem?_range (by omega)];simp;omega
  ·rw [au0 (by simp;omega),if_neg (by simp;omega),au0 (by simp;omega)]
 have hlen: ∀l:List Nat,(l.flatMap f).length=l.length*s:=by
  intro l
  induction l with
  | nil=>simp
  | cons a r ih=>rw [List.flatMap_cons,aum,hf,ih,List.length_cons,Nat.add_mul];omega
 rw [h1,List.flatMap_append,List.flatMap_cons];have h2:=hlen (List.range i);rw [List.length_range]at h2;rw [List.drop_append,h2,Nat.sub_self,List.drop_of_length_le (by omega),List.drop_zero,List.nil_append];rw [List.take_append_of_le_length (by rw [hf];exact Nat.le_refl _),List.take_of_length_le (by rw [hf];exact Nat.le_refl _)]
section
variable (ρ:Env)
theorem lD(c:bP)(i:Nat):(c.cells ρ i).length=c.w:=by
 obtain⟨ck,cw,a⟩:=c;cases ck<;>simp [bP.cells,ay,cY,eA,vg,aE]
theorem dQ(aA:List bP)(i:Nat):((aA.map (bP.cells ρ)).flatMap fun c=>c i).length=b_ aA:=by
 induction aA with
 | nil=>rfl
 | cons c r ih=>simp only [auK,List.flatMap_cons,aum,lD,ih,b_,au7,auK]
theorem Uv(aA:List bP)(n i:Nat)(h:i<n):
  ((aG ρ n aA).drop (i*b_ aA)).take (b_ aA)=(aA.map (bP.cells ρ)).flatMap fun c=>c i:=
 FR (b_ aA) (fun(i:Nat)=>(aA.map (bP.cells ρ)).flatMap fun(c:Nat→List Value)=>c i) (dQ ρ aA) n i h
theorem eh(aA:List bP)(n:Nat):(aG ρ n aA).length=n*b_ aA:=by
 unfold aG aM;have: ∀l:List Nat,(l.flatMap fun i=>(aA.map (bP.cells ρ)).flatMap fun c=>c i).length=l.length*b_ aA:=by
  intro l
  induction l with
  | nil=>simp
  | cons a r ih=>rw [List.flatMap_cons,aum,dQ,ih,List.length_cons,Nat.add_mul];omega
 rw [this,List.length_range]
theorem toNat_mul(x:Int)(w:Nat):(x*(w:Int)).toNat=x.toNat*w:=by
 rcases Int.le_total 0 x with h | h
 ·obtain⟨m,rfl⟩:=Int.eq_ofNat_of_zero_le h;rw [←Int.natCast_mul,auD,auD]
 ·have h1:x*(w:Int)≤0:=Int.mul_nonpos_of_nonpos_of_nonneg h (by omega);rw [Int.toNat_of_nonpos h1,Int.toNat_of_nonpos h];simp
theorem Mv(e:E):SV.cells ρ (mkP e)=[cN (e.den ρ 0)]:=by
 unfold mkP;split
 ·simp only [SV.cells,E.den,eY]
 ·split
  ·rename_i h;subst h;rfl
  ·rfl
 ·rfl
theorem Cg{c:bP}{i:E}{x:SV}(h:DG c i=some x):SV.cells ρ x=c.cells ρ (i.den ρ 0).toNat:=by
 obtain⟨ck,cw,a⟩:=c;unfold DG at h;cases ck with
 | int k=>
  simp only [bP.cells]at h ⊢;split at h
  ·rename_i hw;simp only [auq]at h;subst h;simp [SV.cells,ay,aj,hw,cX]
  ·simp only [auq]at h;subst h;simp only [SV.cells,ay];apply cE;intro j _;rw [eT,iA];simp only [E.den];rw [toNat_mul]
 | bool=>
  simp only [bP.cells]at h ⊢;split at h
  ·rename_i hw;simp only [auq]at h;subst h;simp [SV.cells,cY,hw,cX,zh]
  ·cases h
 | val v=>
  simp only [bP.cells]at h ⊢;split at h
  ·rename_i hw;simp only [auq]at h;subst h;simp [SV.cells,eA,hw]
  ·cases h
 | ptr=>
  simp only [bP.cells]at h ⊢;split at h
  ·rename_i hw;simp only [auq]at h;subst h;rw [Mv];simp [vg,hw,cX]
  ·cases h
 | bx=>
  simp only [bP.cells]at h ⊢;split at h
  ·rename_i hw;simp only [auq]at h;subst h;simp [SV.cells,eA,hw]
  ·cases h
 | str=>
  simp only [bP.cells]at h ⊢;split at h
  ·rename_i hw;simp only [auq]at h;subst h;rw [FM,zU];simp [eA,hw]
  ·cases h
 | cv=>
  simp only [bP.cells]at h ⊢;split at h
  ·rename_i hw;simp only [auq]at h;subst h;simp [SV.cells,eA,hw,cX]
  ·cases h
 | Ic l=>
  simp only [bP.cells]at h ⊢;split at h
  ·rename_i k hk;split at h
   ·rename_i n hn;split at h
    ·rename_i hw;simp only [auq]at h;subst h;have kY:i.den ρ 0=(k:Int):=by
      unfold eU at hk;split at hk
      ·cases hk;rfl
      ·cases hk
     simp [SV.cells,eA,hw,kY,hn]
    ·cases h
   ·cases h
  ·cases h
 | pt q v=>
  simp only [bP.cells]at h ⊢;split at h
  ·rename_i hw;obtain⟨hw,rfl⟩:=hw;simp only [auq]at h;subst h;simp [SV.cells,eA,hw]
  ·cases h
theorem ns{i:E}: ∀{aA:List bP} {es:List SV},po i aA=some es→
  SV.ao ρ es=(aA.map (bP.cells ρ)).flatMap fun c=>c (i.den ρ 0).toNat
 | [],es,h=>by simp [po]at h;subst h;rfl
 | c::r,es,h=>by
  unfold po at h;split at h
  ·rename_i x xs hx IC;simp only [auq]at h;subst h;simp only [SV.ao,auK,List.flatMap_cons,Cg ρ hx,ns IC]
  ·cases h
theorem dL{i n:E}(h: ∀b∈iZ i n,b.prop ρ):0≤i.den ρ 0∧i.den ρ 0<n.den ρ 0:=by
 have key: ∀b:BE,b∈[xS (.lit 0) i,IB i n]→b.den ρ=true:=by
  intro b hb;by_cases hl:b= .lit true
  ·subst hl;rfl
  ·exact(BE.bQ ρ b).2 (h b (by unfold iZ;exact auR.2 ⟨hb,by simpa using hl⟩))
 have h1:=key (xS (.lit 0) i) (by simp);have h2:=key (IB i n) (by simp);rw [iX]at h1;rw [vd]at h2;exact⟨of_decide_eq_true h1,of_decide_eq_true h2⟩
end
theorem dM(a:Addr)(m n:Nat):(a.add m).add n=a.add (m+n):=by
 unfold Addr.add;by_cases hm:m=0
 ·subst hm;simp
 ·by_cases hn:n=0
  ·subst hn;simp
  ·simp [hm,hn,Nat.add_assoc]
theorem fW(b o n:Nat):(⟨b,o,none⟩:Addr).add n=⟨b,o+n,none⟩:=by
 unfold Addr.add;split<;>simp_all
section
variable {P:Program} {w:World}
theorem nu{ti:TI}(h:lu P ti)(a:Addr)(xs:List Value)(hl:xs.length=ti.size)
  (hc: ∀(j:Nat) v,xs[j]? =some v→w.cell? (a.add j)=some v) (v:Value)
  (hv:(ti.k.agg=true→v= .agg xs.toArray)∧(ti.k.agg=false→xs=[v])):
  (Instr.loadAt ti.t (.pointer (some a))).run P w= .ok v w:=by
 cases ha:ti.k.agg with
 | true=>
  have h1:=run_loadCells_list (P:=P) w a xs hc;rw [hl]at h1;simp [Instr.loadAt,Instr.sureAddr,loadVar,h.isAgg w,ha,h.sizeOf w,h1,hv.1 ha]
 | false=>
  have hx:=hv.2 ha;subst hx;have:=hc 0 v rfl;simp only [Addr.add,if_true]at this;simp [Instr.loadAt,Instr.sureAddr,loadVar,h.isAgg w,ha,this]
theorem j7{b:Nat}{wr:Bool}{cs:List Value}{S:Nat→Prop}(h:(ak b wr cs).p w S)(c:Nat)(j:Nat)(v:Value)
  (hv:(cs.drop c)[j]? =some v):w.cell? ((⟨b,c,none⟩:Addr).add j)=some v:=by
 rw [fW];rw [List.getElem?_drop]at hv;obtain⟨_,ty,fz,hg,_⟩:=h;rw [cell_of_row w b (c+j) _ ty fz hg];simpa using hv
theorem FU{md:Bool}{t s n:Nat}{v:Value}{cs:List Value}{S:Nat→Prop}(h:(aB md t s v n cs).p w S)(c j:Nat)(u:Value)
  (hu:(cs.drop c)[j]? =some u): ∃a m cp,v= .slice (some a) m cp∧m=n∧w.cell? ((a.add c).add j)=some u:=by
 rw [List.getElem?_drop]at hu;obtain⟨h0,_⟩:=h;cases md with
 | true=>
  simp only [if_true]at h0;have PV:=h0;obtain⟨hl,hr⟩:=h0;rcases hr with⟨_,rfl⟩ | ⟨g,o,cap,cur,rfl,hg,_⟩
  ·have:cs=[]:=auH (by simpa using hl);subst this;simp at hu
  ·refine⟨⟨g,o,none⟩,n,cap,rfl,rfl,?_⟩;rw [dM];exact kH PV _ _ hu
 | false=>
  simp only [Bool.false_eq_true,if_false]at h0;obtain⟨hl,a,m,c',rfl,hm,_,kI,hc⟩:=h0;cases a with
  | none=>
   have hn:=kI rfl;subst hn;have:cs=[]:=auH (by simpa using hl);subst this;simp at hu
  | some ad=>
   refine⟨ad,m,c',rfl,hm,?_⟩;rw [dM];exact(hc ad rfl).2 _ _ hu
theorem ny{md:Bool}{t s n:Nat}{v:Value}{cs:List Value}{S:Nat→Prop}(h:(aB md t s v n cs).p w S)(hn:0<n):
  ∃a cp,v= .slice (some a) n cp:=by
 obtain⟨h0,_⟩:=h;cases md with
 | true=>
  simp only [if_true]at h0;rcases h0.2 with⟨_,h1⟩ | ⟨g,o,cap,cur,rfl,_⟩
  ·omega
  ·exact⟨_,_,rfl⟩
 | false=>
  simp only [Bool.false_eq_true,if_false]at h0;obtain⟨_,a,m,c',rfl,hm,_,kI,_⟩:=h0;subst hm;cases a with
  | none=>have:=kI rfl;omega
  | some ad=>exact⟨_,_,rfl⟩
theorem DH{md:Bool}{t s n:Nat}{v:Value}{cs:List Value}{S:Nat→Prop}(h:(aB md t s v n cs).p w S):
  ∃a cp,v= .slice a n cp:=by
 obtain⟨h0,_⟩:=h;cases md with
 | true=>
  simp only [if_true]at h0;rcases h0.2 with⟨rfl,rfl⟩ | ⟨g,o,cap,cur,rfl,_⟩
  ·exact⟨_,_,rfl⟩
  ·exact⟨_,_,rfl⟩
 | false=>
  simp only [Bool.false_eq_true,if_false]at h0;obtain⟨_,a,m,c',rfl,rfl,_⟩:=h0;exact⟨_,_,rfl⟩
end
theorem dD{hp:List Ck}{b j:Nat}{ck:Ck}(h:findAt hp b=some (j,ck)):hp[j]? =some ck∧ck.s5 b=true:=by
 unfold findAt at h;split at h
 ·rename_i i hi;rw [aus]at h;obtain⟨c,hc,he⟩:=h;cases he;refine⟨hc,?_⟩;rw [List.findIdx?_eq_some_iff_getElem]at hi;obtain⟨cF,h1,_⟩:=hi;rw [auU cF]at hc;cases hc;exact h1
 ·cases h
theorem cZ{hp:List Ck}{v j:Nat}{ck:Ck}(h:eK hp v=some (j,ck)):hp[j]? =some ck∧ck.mI v=true:=by
 unfold eK at h;split at h
 ·rename_i i hi;rw [aus]at h;obtain⟨c,hc,he⟩:=h;cases he;refine⟨hc,?_⟩;rw [List.findIdx?_eq_some_iff_getElem]at hi;obtain⟨cF,h1,_⟩:=hi;rw [auU cF]at hc;cases hc;exact h1
 ·cases h
theorem Uw(s:Nat)(f g:Nat→List Value)(hf: ∀i,(f i).length=s)(_: ∀i,(g i).length=s)(n i c:Nat)(vs:List Value)(hi:i<n)
  (hc:c+vs.length≤s) (fy: ∀j,j≠i→g j=f j) (he:g i=(f i).take c++vs++(f i).drop (c+vs.length)):
  (List.range n).flatMap g=((List.range n).flatMap f).take (i*s+c)++vs++((List.range n).flatMap f).drop (i*s+c+vs.length):=by
 have h1:List.range n=List.range i++(i::(List.range (n - i - 1)).map (· +(i+1))):=by
  apply List.ext_getElem?;intro j;rw [List.getElem?_append];by_cases hj:j<n
  ·rw [List.getElem?_range hj];by_cases Fq:j<i
   ·rw [if_pos (by simpa using Fq),List.getElem?_range Fq]
   ·rw [if_neg (by simpa using Fq),List.length_range];by_cases he:j=i
    ·subst he;simp
    ·obtain⟨d,rfl⟩: ∃d,j=i+1+d:=⟨j - i - 1,by omega⟩;rw [show i+1+d - i=d+1 by omega,List.getElem?_cons_succ,List.getElem?_map,List.getElem?_range (by omega)];simp;omega
  ·rw [au0 (by simp;omega),if_neg (by simp;omega),au0 (by simp;omega)]
 have hlen: ∀l:List Nat,(l.flatMap f).length=l.length*s:=by
  intro l
  induction l with
  | nil=>simp
  | cons a r ih=>rw [List.flatMap_cons,aum,hf,ih,List.length_cons,Nat.add_mul];omega
 have hA:(List.range i).flatMap g=(List.range i).flatMap f:=by
  rw [List.flatMap_def,List.flatMap_def];congr 1;exact List.map_congr_left fun j hj=>fy j (by have:=auG.1 hj;omega)
 have hB:((List.range (n - i - 1)).map (· +(i+1))).flatMap g=((List.range (n - i - 1)).map (· +(i+1))).flatMap f:=by
  rw [List.flatMap_def,List.flatMap_def];congr 1;apply List.map_congr_left;intro j hj;simp only [auL,auG]at hj;obtain⟨x,_,rfl⟩:=hj;exact fy _ (by omega)
 rw [h1];simp only [List.flatMap_append,List.flatMap_cons,hA,hB,he];have hl:=hlen (List.range i);rw [List.length_range]at hl;generalize (List.range i).flatMap f=A at hl ⊢;generalize ((List.range (n - i - 1)).map (· +(i+1))).flatMap f=B;have hfi:=hf i;generalize f i=R at hfi ⊢;rw [List.take_append,List.take_of_length_le (l:=A) (by omega),hl,show i*s+c - i*s=c by omega,List.take_append_of_le_length (by omega)];rw [List.drop_append,List.drop_of_length_le (l:=A) (by omega),hl,show i*s+c+vs.length - i*s=c+vs.length by omega,List.drop_append_of_le_length (by omega)];simp
section
variable (ρ:Env)
theorem DJ{i:E}{v:SV}{c c':bP}(h:DK i v c=some c'):
  c'.w=c.w∧v.width=c.w∧∀i':Nat,c'.cells ρ i'=if i'=(i.den ρ 0).toNat then SV.cells ρ v else c.cells ρ i':=by
 obtain⟨ck,cw,a⟩:=c;unfold DK at h;split at h
 ·rename_i k k' e hk;simp only at hk;subst hk;split at h
  ·rename_i hc;obtain⟨hw,rfl⟩:=hc;simp only at hw;subst hw;simp only [auq]at h;subst h;refine⟨rfl,rfl,fun i'=>?_⟩;simp only [bP.cells,ay,aj,E.den,SV.cells];by_cases hi:i'=(E.den ρ i 0).toNat
   ·simp [hi]
   ·simp [hi]
  ·cases h
 ·rename_i k k' n b hk;simp only at hk;subst hk;split at h
  ·rename_i hc;obtain⟨hw,rfl⟩:=hc;simp only at hw;subst hw;simp only [auq]at h;subst h;refine⟨rfl,rfl,fun i'=>?_⟩;simp only [bP.cells,ay,SV.cells];by_cases hi:i'=(E.den ρ i 0).toNat
   ·rw [if_pos hi];apply cE;intro j hj;simp only [E.den,iA,toNat_mul,auD];rw [if_pos (by rw [hi];omega),hi];congr 1;omega
   ·rw [if_neg hi];apply cE;intro j hj;simp only [E.den,iA,toNat_mul,auD];rw [if_neg];intro hc;rcases Nat.lt_or_gt_of_ne hi with cF | hgt
    ·have:=Nat.mul_le_mul_right cw (Nat.succ_le_of_lt cF);rw [Nat.succ_mul]at this;omega
    ·have:=Nat.mul_le_mul_right cw (Nat.succ_le_of_lt hgt);rw [Nat.succ_mul]at this;omega
  ·cases h
 ·rename_i x hk;simp only at hk;subst hk;split at h
  ·rename_i hw;simp only at hw;subst hw;simp only [auq]at h;subst h;refine⟨rfl,rfl,fun i'=>?_⟩;simp only [bP.cells,cY,E.den,SV.cells,BE.den];by_cases hi:i'=(E.den ρ i 0).toNat
   ·cases x<;>simp [hi]
   ·simp [hi]
  ·cases h
 ·rename_i e hk;simp only at hk;subst hk;split at h
  ·rename_i hw;simp only at hw;subst hw;simp only [auq]at h;subst h;refine⟨rfl,rfl,fun i'=>?_⟩;simp only [bP.cells,cY,E.den,SV.cells,BE.den];by_cases hi:i'=(E.den ρ i 0).toNat
   ·simp [hi]
   ·simp [hi]
  ·cases h
 ·rename_i b o hk;simp only at hk;subst hk;split at h
  ·rename_i hw;obtain⟨hw,rfl⟩:=hw;simp only at hw;subst hw;simp only [auq]at h;subst h;refine⟨rfl,rfl,fun i'=>?_⟩;simp only [bP.cells,vg,E.den,SV.cells];by_cases hi:i'=(E.den ρ i 0).toNat
   ·simp [hi,eY]
   ·simp [hi]
  ·cases h
 ·rename_i hk;simp only at hk;subst hk;split at h
  ·rename_i hw;simp only at hw;subst hw;simp only [auq]at h;subst h;refine⟨rfl,rfl,fun i'=>?_⟩;simp only [bP.cells,vg,E.den,SV.cells];by_cases hi:i'=(E.den ρ i 0).toNat
   ·simp [hi,cN]
   ·simp [hi]
  ·cases h
 ·rename_i e hk;simp only at hk;subst hk;split at h
  ·rename_i hw;simp only at hw;subst hw;simp only [auq]at h;subst h;refine⟨rfl,rfl,fun i'=>?_⟩;simp only [bP.cells,vg,E.den,SV.cells];by_cases hi:i'=(E.den ρ i 0).toNat
   ·simp [hi]
   ·simp [hi]
  ·cases h
 ·rename_i hk;simp only at hk;subst hk;split at h
  ·rename_i hw;simp only at hw;subst hw;simp only [auq]at h;subst h;refine⟨rfl,rfl,fun i'=>?_⟩;simp only [bP.cells,eA,SV.cells];by_cases hi:i'=(E.den ρ i 0).toNat
   ·simp [hi]
   ·simp [hi]
  ·cases h
 ·rename_i l hk;simp only at hk;subst hk;split at h
  ·rename_i hw;simp only at hw;subst hw;simp only [auq]at h;subst h;refine⟨rfl,rfl,fun i'=>?_⟩;simp only [bP.cells,eA,SV.cells,kJ,kF,nq];by_cases hi:i'=(E.den ρ i 0).toNat
   ·simp [hi,pc]
   ·simp [hi]
  ·cases h
 ·rename_i s hk;simp only at hk;subst hk;split at h
  ·rename_i hw;simp only at hw;subst hw;simp only [auq]at h;subst h;refine⟨rfl,rfl,fun i'=>?_⟩;simp only [bP.cells,eA,SV.cells,kJ,kF];by_cases hi:i'=(E.den ρ i 0).toNat
   ·simp [hi]
   ·simp [hi]
  ·cases h
 ·rename_i e hk;simp only at hk;subst hk;split at h
  ·rename_i hw;simp only at hw;subst hw;simp only [auq]at h;subst h;refine⟨rfl,rfl,fun i'=>?_⟩;simp only [bP.cells,eA,E.den,SV.cells];by_cases hi:i'=(E.den ρ i 0).toNat
   ·simp [hi,cc]
   ·simp [hi]
  ·cases h
 ·rename_i hk;simp only at hk;subst hk;split at h
  ·rename_i hw;simp only at hw;subst hw;simp only [auq]at h;subst h;refine⟨rfl,rfl,fun i'=>?_⟩;simp only [bP.cells,eA,E.den,SV.cells];by_cases hi:i'=(E.den ρ i 0).toNat
   ·simp [hi,cc]
   ·simp [hi]
  ·cases h
 ·rename_i q _ u hk;simp only at hk;subst hk;split at h
  ·rename_i hw;obtain⟨hw,rfl⟩:=hw;simp only at hw;subst hw;simp only [auq]at h;subst h;refine⟨rfl,rfl,fun i'=>?_⟩;simp only [bP.cells,eA,SV.cells];by_cases hi:i'=(E.den ρ q 0).toNat
   ·simp [hi]
   ·simp [hi]
  ·cases h
 ·cases h
end
def zi(kl:List IntKind)(ks:List Int):List Value:=(kl.zip ks).map fun x=> .int x.1 x.2
section
variable {ρ:Env}
theorem IE{k1 k2:List IntKind}{a b:List Int}(h:a.length=k1.length):zi (k1++k2) (a++b)=zi k1 a++zi k2 b:=by
 unfold zi;rw [List.zip_append h.symm,List.map_append]
theorem pZ(k:IntKind)(n:Nat)(f:Nat→Int):zi (List.replicate n k) ((List.range n).map f)=aj k n f:=by
 unfold zi aj
 induction n with
 | zero=>rfl
 | succ n ih=>
  rw [List.replicate_succ',List.range_succ,List.map_append,List.zip_append (by simp),List.map_append,ih,List.map_append];simp
theorem tZ: ∀{cs:List SV} {o:Nat} {acc:E} {kl:List IntKind} {a:E},xU o acc cs=some (kl,a)→
  (∀j,j<o→a.den ρ j=acc.den ρ j)∧SV.ao ρ cs=zi kl ((List.range kl.length).map fun i=>a.den ρ (o+i))
 | [],o,acc,kl,a,h=>by
  simp [xU]at h;obtain⟨rfl,rfl⟩:=h;exact⟨fun _ _=>rfl,rfl⟩
 | v::r,o,acc,kl,a,h=>by
  cases v with
  | int k e=>
   simp only [xU]at h;split at h
   ·rename_i l a' h1;cases h;obtain⟨i1,i2⟩:=tZ h1;have e1: ∀j,(E.nm acc (.lit o) e).den ρ j=if j=o then e.den ρ 0 else acc.den ρ j:=fun j=>rfl
    refine⟨fun j hj=>?_,?_⟩
    ·rw [i1 j (by omega),e1,if_neg (by omega)]
    ·simp only [SV.ao,SV.cells,i2,List.length_cons];rw [List.range_succ_eq_map,auK,List.map_map];have e0:a.den ρ (o+0)=e.den ρ 0:=by
      rw [i1 (o+0) (by omega),e1,if_pos (by omega)]
     rw [e0];simp only [zi,List.zip_cons_cons,auK,List.singleton_append,List.cons.injEq,true_and];congr 3;funext i;simp only [Function.comp];congr 1;omega
   ·cases h
  | dg k n b=>
   simp only [xU]at h;split at h
   ·rename_i l a' h1;cases h;obtain⟨i1,i2⟩:=tZ h1;have e1: ∀j,(E.jI acc (.lit o) (.lit n) b).den ρ j=if o≤j∧j<o+n then b.den ρ (j - o)else acc.den ρ j:=fun j=>rfl
    refine⟨fun j hj=>?_,?_⟩
    ·rw [i1 j (by omega),e1,if_neg (by omega)]
    ·simp only [SV.ao,SV.cells,i2,aum,List.length_replicate];rw [List.range_add,List.map_append,IE (by simp),pZ,List.map_map];congr 1
     ·apply cE;intro j hj;rw [i1 (o+j) (by omega),e1,if_pos (by omega)];congr 1;omega
     ·congr 2;funext i;simp only [Function.comp];congr 1;omega
   ·cases h
  | _=>simp [xU]at h
theorem ia{cs:List SV}{kl:List IntKind}{a:E}(h:rowOf cs=some (kl,a)):SV.ao ρ cs=zi kl ((List.range kl.length).map (a.den ρ)):=by
 unfold rowOf at h;split at h
 ·cases h;simp only [SV.ao,SV.cells,List.append_nil,List.length_replicate];rw [pZ]
 ·cases h;rfl
 ·have:=(tZ (ρ:=ρ) h).2;simpa using this
theorem rF: ∀{aA:List bP} {vs Ib:List SV},align aA vs=some Ib→SV.ao ρ Ib=SV.ao ρ vs
 | [],[],Ib,h=>by simp [align]at h;subst h;rfl
 | _::_,[],Ib,h=>by simp [align]at h;subst h;rfl
 | [],v::r,Ib,h=>by simp [align]at h;subst h;rfl
 | c::aA,v::r,Ib,h=>by
  unfold align at h;split at h
  ·rw [aus]at h;obtain⟨z,hz,rfl⟩:=h;simp only [SV.ao,rF hz]
  ·split at h
   ·rename_i k x rest hk hx zV;split at h
    ·rename_i kl a s6;split at h
     ·rename_i Mw;rw [aus]at h;obtain⟨z,hz,rfl⟩:=h;have h1:=(fj (ρ:=ρ) hx).1;have h2:=ft (ρ:=ρ) _ _ _ zV;have h3:=ia (ρ:=ρ) s6;rw [Mw,List.length_replicate,pZ]at h3;rw [h3,List.drop_zero]at h1;rw [SV.ao,SV.cells,rF hz,h1,h2,List.take_append_drop]
     ·cases h
    ·cases h
   ·cases h
end
section
variable (ρ:Env)
abbrev rowAt(aA:List bP)(i:Nat):List Value:=(aA.map (bP.cells ρ)).flatMap fun c=>c i
theorem tn{i:E}: ∀{vs:List SV} {aA aS:List bP},pq i vs aA=some aS→
  b_ aS=b_ aA∧(SV.ao ρ vs).length≤b_ aA∧
   (∀i':Nat,i'≠(i.den ρ 0).toNat→rowAt ρ aS i'=rowAt ρ aA i')∧
   rowAt ρ aS (i.den ρ 0).toNat=SV.ao ρ vs++(rowAt ρ aA (i.den ρ 0).toNat).drop (SV.ao ρ vs).length
 | [],aA,aS,h=>by
  simp [pq]at h;subst h;simp [SV.ao]
 | v::r,[],aS,h=>by simp [pq]at h
 | v::r,c::aA,aS,h=>by
  unfold pq at h;split at h
  ·rename_i c' ra h1 h2;simp only [auq]at h;subst h;obtain⟨hw,hv,hc⟩:=DJ ρ h1;obtain⟨iw,il,ine,ieq⟩:=tn h2;have hvl:=vf ρ v;refine⟨?_,?_,?_,?_⟩
   ·simp only [b_,auK,au7]at iw ⊢;omega
   ·simp only [SV.ao,aum,b_,auK,au7]at il ⊢;omega
   ·intro i' hi;simp only [rowAt,auK,List.flatMap_cons]at ine ⊢;rw [ine i' hi,hc i',if_neg hi]
   ·simp only [rowAt,auK,List.flatMap_cons,SV.ao]at ieq ⊢;rw [ieq,hc _,if_pos rfl,List.append_assoc,aum,List.drop_append,lD,List.drop_of_length_le (l:=c.cells ρ _) (by rw [lD];omega),
     List.nil_append,hvl,hv,Nat.add_sub_cancel_left]
  ·cases h
theorem jv{i:E}{vs:List SV}{aA aS:List bP}(h:lQ i vs aA=some aS):
  b_ aS=b_ aA∧(SV.ao ρ vs).length≤b_ aA∧
   (∀i':Nat,i'≠(i.den ρ 0).toNat→rowAt ρ aS i'=rowAt ρ aA i')∧
   rowAt ρ aS (i.den ρ 0).toNat=SV.ao ρ vs++(rowAt ρ aA (i.den ρ 0).toNat).drop (SV.ao ρ vs).length:=by
 unfold lQ at h;split at h
 ·rename_i Ib ha;have:=tn ρ h
  rwa [rF ha]at this
 ·cases h
theorem tq{i:E}{vs:List SV}: ∀{o:Nat} {aA aS:List bP},pr i vs o aA=some aS→
  b_ aS=b_ aA∧o+(SV.ao ρ vs).length≤b_ aA∧
   (∀i':Nat,i'≠(i.den ρ 0).toNat→rowAt ρ aS i'=rowAt ρ aA i')∧
   rowAt ρ aS (i.den ρ 0).toNat=(rowAt ρ aA (i.den ρ 0).toNat).take o++SV.ao ρ vs++(rowAt ρ aA (i.den ρ 0).toNat).drop (o+(SV.ao ρ vs).length)
 | 0,aA,aS,h=>by
  unfold pr at h;have:=jv ρ h;simpa using this
 | o+1,[],aS,h=>by simp [pr]at h
 | o+1,c::r,aS,h=>by
  unfold pr at h;split at h
  ·rename_i hle;rw [aus]at h;obtain⟨r',h1,rfl⟩:=h;obtain⟨iw,il,ine,ieq⟩:=tq h1;refine⟨?_,?_,?_,?_⟩
   ·simp only [b_,auK,au7]at iw ⊢;omega
   ·simp only [b_,auK,au7]at il ⊢;omega
   ·intro i' hi;simp only [rowAt,auK,List.flatMap_cons]at ine ⊢;rw [ine i' hi]
   ·simp only [rowAt,auK,List.flatMap_cons]at ieq ⊢;rw [ieq,List.take_append,List.drop_append,lD,List.take_of_length_le (l:=c.cells ρ _) (by rw [lD];exact hle),
     List.drop_of_length_le (l:=c.cells ρ _) (by rw [lD];omega),List.nil_append,show o+1+(SV.ao ρ vs).length - c.w=o+1 - c.w+(SV.ao ρ vs).length by omega]
    simp [List.append_assoc]
  ·cases h
end
end Go.RX
