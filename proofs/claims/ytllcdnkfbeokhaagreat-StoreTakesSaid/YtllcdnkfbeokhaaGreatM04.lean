/- Executor. -/
import Derived.Test.YtllcdnkfbeokhaaGreatM03
open Int renaming toNat_natCast → aqD
open List renaming eq_nil_of_length_eq_zero → aqF, getElem?_eq_none → aq3, length_append → aql, map_cons → aqP, mem_filter → aqL, mem_map → aqV, mem_range → aqE
open Option renaming map_eq_some_iff → aqq
open Option.some renaming injEq → aqp
namespace Go.RX
theorem DG{α:Type}(s:Nat)(f:Nat→List α)(hf: ∀i,(f i).length=s): ∀(n i:Nat),i<n→
  (((List.range n).flatMap f).drop (i*s)).take s=f i:=by
 intro n i hi;have h1:List.range n=List.range i++(i::(List.range (n - i - 1)).map (· +(i+1))):=by
  apply List.ext_getElem?;intro j;rw [List.getElem?_append];by_cases hj:j<n
  ·rw [List.getElem?_range hj];by_cases JD:j<i
   ·rw [if_pos (by simpa using JD),List.getElem?_range JD]
   ·rw [if_neg (by simpa using JD),List.length_range];by_cases he:j=i
    ·subst he;simp
    ·obtain⟨d,rfl⟩: ∃d,j=i+1+d:=⟨j - i - 1,by omega⟩;rw [show i+1+d - i=d+1 by omega,List.getElem?_cons_succ,List.getElem?_map,List.getElem?_range (by omega)];simp;omega
  ·rw [aq3 (by simp;omega),if_neg (by simp;omega),aq3 (by simp;omega)]
 have hlen: ∀l:List Nat,(l.flatMap f).length=l.length*s:=by
  intro l
  induction l with
  | nil=>simp
  | cons a r ih=>rw [List.flatMap_cons,aql,hf,ih,List.length_cons,Nat.add_mul];omega
 rw [h1,List.flatMap_append,List.flatMap_cons];have h2:=hlen (List.range i);rw [List.length_range]at h2;rw [List.drop_append,h2,Nat.sub_self,List.drop_of_length_le (by omega),List.drop_zero,List.nil_append];rw [List.take_append_of_le_length (by rw [hf];exact Nat.le_refl _),List.take_of_length_le (by rw [hf];exact Nat.le_refl _)]
section
variable (ρ:Env)
theorem kI(c:bL)(i:Nat):(c.cells ρ i).length=c.w:=by
 obtain⟨ck,cw,a⟩:=c;cases ck<;>simp [bL.cells,aC,ij,fN,tH,aD]
theorem dC(ay:List bL)(i:Nat):((ay.map (bL.cells ρ)).flatMap fun c=>c i).length=bW ay:=by
 induction ay with
 | nil=>rfl
 | cons c r ih=>simp only [aqP,List.flatMap_cons,aql,kI,ih,bW,List.sum_cons,aqP]
theorem Q1(ay:List bL)(n i:Nat)(h:i<n):
  ((aF ρ n ay).drop (i*bW ay)).take (bW ay)=(ay.map (bL.cells ρ)).flatMap fun c=>c i:=
 DG (bW ay) (fun(i:Nat)=>(ay.map (bL.cells ρ)).flatMap fun(c:Nat→List Value)=>c i) (dC ρ ay) n i h
theorem dS(ay:List bL)(n:Nat):(aF ρ n ay).length=n*bW ay:=by
 unfold aF aK;have: ∀l:List Nat,(l.flatMap fun i=>(ay.map (bL.cells ρ)).flatMap fun c=>c i).length=l.length*bW ay:=by
  intro l
  induction l with
  | nil=>simp
  | cons a r ih=>rw [List.flatMap_cons,aql,dC,ih,List.length_cons,Nat.add_mul];omega
 rw [this,List.length_range]
theorem toNat_mul(x:Int)(w:Nat):(x*(w:Int)).toNat=x.toNat*w:=by
 rcases Int.le_total 0 x with h | h
 ·obtain⟨m,rfl⟩:=Int.eq_ofNat_of_zero_le h;rw [←Int.natCast_mul,aqD,aqD]
 ·have h1:x*(w:Int)≤0:=Int.mul_nonpos_of_nonpos_of_nonneg h (by omega);rw [Int.toNat_of_nonpos h1,Int.toNat_of_nonpos h];simp
theorem JE(e:E):SV.cells ρ (mkP e)=[cA (e.den ρ 0)]:=by
 unfold mkP;split
 ·simp only [SV.cells,E.den,eF]
 ·split
  ·rename_i h;subst h;rfl
  ·rfl
 ·rfl
theorem AD{c:bL}{i:E}{x:SV}(h:BU c i=some x):SV.cells ρ x=c.cells ρ (i.den ρ 0).toNat:=by
 obtain⟨ck,cw,a⟩:=c;unfold BU at h;cases ck with
 | int k=>
  simp only [bL.cells]at h ⊢;split at h
  ·rename_i hw;simp only [aqp]at h;subst h;simp [SV.cells,aC,aj,hw,cJ]
  ·simp only [aqp]at h;subst h;simp only [SV.cells,aC];apply cn;intro j _;rw [eB,gW];simp only [E.den];rw [toNat_mul]
 | bool=>
  simp only [bL.cells]at h ⊢;split at h
  ·rename_i hw;simp only [aqp]at h;subst h;simp [SV.cells,ij,hw,cJ,xM]
  ·cases h
 | val v=>
  simp only [bL.cells]at h ⊢;split at h
  ·rename_i hw;simp only [aqp]at h;subst h;simp [SV.cells,fN,hw]
  ·cases h
 | ptr=>
  simp only [bL.cells]at h ⊢;split at h
  ·rename_i hw;simp only [aqp]at h;subst h;rw [JE];simp [tH,hw,cJ]
  ·cases h
 | bu=>
  simp only [bL.cells]at h ⊢;split at h
  ·rename_i hw;simp only [aqp]at h;subst h;simp [SV.cells,fN,hw]
  ·cases h
 | str=>
  simp only [bL.cells]at h ⊢;split at h
  ·rename_i hw;simp only [aqp]at h;subst h;rw [DA,yz];simp [fN,hw]
  ·cases h
 | cv=>
  simp only [bL.cells]at h ⊢;split at h
  ·rename_i hw;simp only [aqp]at h;subst h;simp [SV.cells,fN,hw,cJ]
  ·cases h
 | FP l=>
  simp only [bL.cells]at h ⊢;split at h
  ·rename_i k hk;split at h
   ·rename_i n hn;split at h
    ·rename_i hw;simp only [aqp]at h;subst h;have kv:i.den ρ 0=(k:Int):=by
      unfold eD at hk;split at hk
      ·cases hk;rfl
      ·cases hk
     simp [SV.cells,fN,hw,kv,hn]
    ·cases h
   ·cases h
  ·cases h
 | pt q v=>
  simp only [bL.cells]at h ⊢;split at h
  ·rename_i hw;obtain⟨hw,rfl⟩:=hw;simp only [aqp]at h;subst h;simp [SV.cells,fN,hw]
  ·cases h
theorem mF{i:E}: ∀{ay:List bL} {es:List SV},oC i ay=some es→
  SV.ao ρ es=(ay.map (bL.cells ρ)).flatMap fun c=>c (i.den ρ 0).toNat
 | [],es,h=>by simp [oC]at h;subst h;rfl
 | c::r,es,h=>by
  unfold oC at h;split at h
  ·rename_i x xs hx Gg;simp only [aqp]at h;subst h;simp only [SV.ao,aqP,List.flatMap_cons,AD ρ hx,mF Gg]
  ·cases h
theorem du{i n:E}(h: ∀b∈iC i n,b.prop ρ):0≤i.den ρ 0∧i.den ρ 0<n.den ρ 0:=by
 have key: ∀b:BE,b∈[wz (.lit 0) i,Gf i n]→b.den ρ=true:=by
  intro b hb;by_cases hl:b= .lit true
  ·subst hl;rfl
  ·exact(BE.bK ρ b).2 (h b (by unfold iC;exact aqL.2 ⟨hb,by simpa using hl⟩))
 have h1:=key (wz (.lit 0) i) (by simp);have h2:=key (Gf i n) (by simp);rw [iA]at h1;rw [tF]at h2;exact⟨of_decide_eq_true h1,of_decide_eq_true h2⟩
end
theorem dv(a:Addr)(m n:Nat):(a.add m).add n=a.add (m+n):=by
 unfold Addr.add;by_cases hm:m=0
 ·subst hm;simp
 ·by_cases hn:n=0
  ·subst hn;simp
  ·simp [hm,hn,Nat.add_assoc]
theorem fx(b o n:Nat):(⟨b,o,none⟩:Addr).add n=⟨b,o+n,none⟩:=by
 unfold Addr.add;split<;>simp_all
section
variable {P:Program} {w:World}
theorem mG{ti:TI}(h:kz P ti)(a:Addr)(xs:List Value)(hl:xs.length=ti.size)
  (hc: ∀(j:Nat) v,xs[j]? =some v→w.cell? (a.add j)=some v) (v:Value)
  (hv:(ti.k.agg=true→v= .agg xs.toArray)∧(ti.k.agg=false→xs=[v])):
  (Instr.loadAt ti.t (.pointer (some a))).run P w= .ok v w:=by
 cases ha:ti.k.agg with
 | true=>
  have h1:=run_loadCells_list (P:=P) w a xs hc;rw [hl]at h1;simp [Instr.loadAt,Instr.sureAddr,loadVar,h.isAgg w,ha,h.sizeOf w,h1,hv.1 ha]
 | false=>
  have hx:=hv.2 ha;subst hx;have:=hc 0 v rfl;simp only [Addr.add,if_true]at this;simp [Instr.loadAt,Instr.sureAddr,loadVar,h.isAgg w,ha,this]
theorem jz{b:Nat}{wr:Bool}{cs:List Value}{S:Nat→Prop}(h:(ak b wr cs).p w S)(c:Nat)(j:Nat)(v:Value)
  (hv:(cs.drop c)[j]? =some v):w.cell? ((⟨b,c,none⟩:Addr).add j)=some v:=by
 rw [fx];rw [List.getElem?_drop]at hv;obtain⟨_,ty,fz,hg,_⟩:=h;rw [cell_of_row w b (c+j) _ ty fz hg];simpa using hv
theorem DH{md:Bool}{t s n:Nat}{v:Value}{cs:List Value}{S:Nat→Prop}(h:(aB md t s v n cs).p w S)(c j:Nat)(u:Value)
  (hu:(cs.drop c)[j]? =some u): ∃a m cp,v= .slice (some a) m cp∧m=n∧w.cell? ((a.add c).add j)=some u:=by
 rw [List.getElem?_drop]at hu;obtain⟨h0,_⟩:=h;cases md with
 | true=>
  simp only [if_true]at h0;have Mw:=h0;obtain⟨hl,hr⟩:=h0;rcases hr with⟨_,rfl⟩ | ⟨g,o,cap,cur,rfl,hg,_⟩
  ·have:cs=[]:=aqF (by simpa using hl);subst this;simp at hu
  ·refine⟨⟨g,o,none⟩,n,cap,rfl,rfl,?_⟩;rw [dv];exact jZ Mw _ _ hu
 | false=>
  simp only [Bool.false_eq_true,if_false]at h0;obtain⟨hl,a,m,c',rfl,hm,_,j4,hc⟩:=h0;cases a with
  | none=>
   have hn:=j4 rfl;subst hn;have:cs=[]:=aqF (by simpa using hl);subst this;simp at hu
  | some ad=>
   refine⟨ad,m,c',rfl,hm,?_⟩;rw [dv];exact(hc ad rfl).2 _ _ hu
theorem mH{md:Bool}{t s n:Nat}{v:Value}{cs:List Value}{S:Nat→Prop}(h:(aB md t s v n cs).p w S)(hn:0<n):
  ∃a cp,v= .slice (some a) n cp:=by
 obtain⟨h0,_⟩:=h;cases md with
 | true=>
  simp only [if_true]at h0;rcases h0.2 with⟨_,h1⟩ | ⟨g,o,cap,cur,rfl,_⟩
  ·omega
  ·exact⟨_,_,rfl⟩
 | false=>
  simp only [Bool.false_eq_true,if_false]at h0;obtain⟨_,a,m,c',rfl,hm,_,j4,_⟩:=h0;subst hm;cases a with
  | none=>have:=j4 rfl;omega
  | some ad=>exact⟨_,_,rfl⟩
theorem BV{md:Bool}{t s n:Nat}{v:Value}{cs:List Value}{S:Nat→Prop}(h:(aB md t s v n cs).p w S):
  ∃a cp,v= .slice a n cp:=by
 obtain⟨h0,_⟩:=h;cases md with
 | true=>
  simp only [if_true]at h0;rcases h0.2 with⟨rfl,rfl⟩ | ⟨g,o,cap,cur,rfl,_⟩
  ·exact⟨_,_,rfl⟩
  ·exact⟨_,_,rfl⟩
 | false=>
  simp only [Bool.false_eq_true,if_false]at h0;obtain⟨_,a,m,c',rfl,rfl,_⟩:=h0;exact⟨_,_,rfl⟩
end
theorem de{hp:List Ck}{b j:Nat}{ck:Ck}(h:findAt hp b=some (j,ck)):hp[j]? =some ck∧ck.rK b=true:=by
 unfold findAt at h;split at h
 ·rename_i i hi;rw [aqq]at h;obtain⟨c,hc,he⟩:=h;cases he;refine⟨hc,?_⟩;rw [List.findIdx?_eq_some_iff_getElem]at hi;obtain⟨cq,h1,_⟩:=hi;rw [List.getElem?_eq_getElem cq]at hc;cases hc;exact h1
 ·cases h
theorem cK{hp:List Ck}{v j:Nat}{ck:Ck}(h:ey hp v=some (j,ck)):hp[j]? =some ck∧ck.lP v=true:=by
 unfold ey at h;split at h
 ·rename_i i hi;rw [aqq]at h;obtain⟨c,hc,he⟩:=h;cases he;refine⟨hc,?_⟩;rw [List.findIdx?_eq_some_iff_getElem]at hi;obtain⟨cq,h1,_⟩:=hi;rw [List.getElem?_eq_getElem cq]at hc;cases hc;exact h1
 ·cases h
theorem Q2(s:Nat)(f g:Nat→List Value)(hf: ∀i,(f i).length=s)(_: ∀i,(g i).length=s)(n i c:Nat)(vs:List Value)(hi:i<n)
  (hc:c+vs.length≤s) (fg: ∀j,j≠i→g j=f j) (he:g i=(f i).take c++vs++(f i).drop (c+vs.length)):
  (List.range n).flatMap g=((List.range n).flatMap f).take (i*s+c)++vs++((List.range n).flatMap f).drop (i*s+c+vs.length):=by
 have h1:List.range n=List.range i++(i::(List.range (n - i - 1)).map (· +(i+1))):=by
  apply List.ext_getElem?;intro j;rw [List.getElem?_append];by_cases hj:j<n
  ·rw [List.getElem?_range hj];by_cases JD:j<i
   ·rw [if_pos (by simpa using JD),List.getElem?_range JD]
   ·rw [if_neg (by simpa using JD),List.length_range];by_cases he:j=i
    ·subst he;simp
    ·obtain⟨d,rfl⟩: ∃d,j=i+1+d:=⟨j - i - 1,by omega⟩;rw [show i+1+d - i=d+1 by omega,List.getElem?_cons_succ,List.getElem?_map,List.getElem?_range (by omega)];simp;omega
  ·rw [aq3 (by simp;omega),if_neg (by simp;omega),aq3 (by simp;omega)]
 have hlen: ∀l:List Nat,(l.flatMap f).length=l.length*s:=by
  intro l
  induction l with
  | nil=>simp
  | cons a r ih=>rw [List.flatMap_cons,aql,hf,ih,List.length_cons,Nat.add_mul];omega
 have hA:(List.range i).flatMap g=(List.range i).flatMap f:=by
  rw [List.flatMap_def,List.flatMap_def];congr 1;exact List.map_congr_left fun j hj=>fg j (by have:=aqE.1 hj;omega)
 have hB:((List.range (n - i - 1)).map (· +(i+1))).flatMap g=((List.range (n - i - 1)).map (· +(i+1))).flatMap f:=by
  rw [List.flatMap_def,List.flatMap_def];congr 1;apply List.map_congr_left;intro j hj;simp only [aqV,aqE]at hj;obtain⟨x,_,rfl⟩:=hj;exact fg _ (by omega)
 rw [h1];simp only [List.flatMap_append,List.flatMap_cons,hA,hB,he];have hl:=hlen (List.range i);rw [List.length_range]at hl;generalize (List.range i).flatMap f=A at hl ⊢;generalize ((List.range (n - i - 1)).map (· +(i+1))).flatMap f=B;have hfi:=hf i;generalize f i=R at hfi ⊢;rw [List.take_append,List.take_of_length_le (l:=A) (by omega),hl,show i*s+c - i*s=c by omega,List.take_append_of_le_length (by omega)];rw [List.drop_append,List.drop_of_length_le (l:=A) (by omega),hl,show i*s+c+vs.length - i*s=c+vs.length by omega,List.drop_append_of_le_length (by omega)];simp
section
variable (ρ:Env)
theorem BW{i:E}{v:SV}{c c':bL}(h:BX i v c=some c'):
  c'.w=c.w∧v.width=c.w∧∀i':Nat,c'.cells ρ i'=if i'=(i.den ρ 0).toNat then SV.cells ρ v else c.cells ρ i':=by
 obtain⟨ck,cw,a⟩:=c;unfold BX at h;split at h
 ·rename_i k k' e hk;simp only at hk;subst hk;split at h
  ·rename_i hc;obtain⟨hw,rfl⟩:=hc;simp only at hw;subst hw;simp only [aqp]at h;subst h;refine⟨rfl,rfl,fun i'=>?_⟩;simp only [bL.cells,aC,aj,E.den,SV.cells];by_cases hi:i'=(E.den ρ i 0).toNat
   ·simp [hi]
   ·simp [hi]
  ·cases h
 ·rename_i k k' n b hk;simp only at hk;subst hk;split at h
  ·rename_i hc;obtain⟨hw,rfl⟩:=hc;simp only at hw;subst hw;simp only [aqp]at h;subst h;refine⟨rfl,rfl,fun i'=>?_⟩;simp only [bL.cells,aC,SV.cells];by_cases hi:i'=(E.den ρ i 0).toNat
   ·rw [if_pos hi];apply cn;intro j hj;simp only [E.den,gW,toNat_mul,aqD];rw [if_pos (by rw [hi];omega),hi];congr 1;omega
   ·rw [if_neg hi];apply cn;intro j hj;simp only [E.den,gW,toNat_mul,aqD];rw [if_neg];intro hc;rcases Nat.lt_or_gt_of_ne hi with cq | hgt
    ·have:=Nat.mul_le_mul_right cw (Nat.succ_le_of_lt cq);rw [Nat.succ_mul]at this;omega
    ·have:=Nat.mul_le_mul_right cw (Nat.succ_le_of_lt hgt);rw [Nat.succ_mul]at this;omega
  ·cases h
 ·rename_i x hk;simp only at hk;subst hk;split at h
  ·rename_i hw;simp only at hw;subst hw;simp only [aqp]at h;subst h;refine⟨rfl,rfl,fun i'=>?_⟩;simp only [bL.cells,ij,E.den,SV.cells,BE.den];by_cases hi:i'=(E.den ρ i 0).toNat
   ·cases x<;>simp [hi]
   ·simp [hi]
  ·cases h
 ·rename_i e hk;simp only at hk;subst hk;split at h
  ·rename_i hw;simp only at hw;subst hw;simp only [aqp]at h;subst h;refine⟨rfl,rfl,fun i'=>?_⟩;simp only [bL.cells,ij,E.den,SV.cells,BE.den];by_cases hi:i'=(E.den ρ i 0).toNat
   ·simp [hi]
   ·simp [hi]
  ·cases h
 ·rename_i b o hk;simp only at hk;subst hk;split at h
  ·rename_i hw;obtain⟨hw,rfl⟩:=hw;simp only at hw;subst hw;simp only [aqp]at h;subst h;refine⟨rfl,rfl,fun i'=>?_⟩;simp only [bL.cells,tH,E.den,SV.cells];by_cases hi:i'=(E.den ρ i 0).toNat
   ·simp [hi,eF]
   ·simp [hi]
  ·cases h
 ·rename_i hk;simp only at hk;subst hk;split at h
  ·rename_i hw;simp only at hw;subst hw;simp only [aqp]at h;subst h;refine⟨rfl,rfl,fun i'=>?_⟩;simp only [bL.cells,tH,E.den,SV.cells];by_cases hi:i'=(E.den ρ i 0).toNat
   ·simp [hi,cA]
   ·simp [hi]
  ·cases h
 ·rename_i e hk;simp only at hk;subst hk;split at h
  ·rename_i hw;simp only at hw;subst hw;simp only [aqp]at h;subst h;refine⟨rfl,rfl,fun i'=>?_⟩;simp only [bL.cells,tH,E.den,SV.cells];by_cases hi:i'=(E.den ρ i 0).toNat
   ·simp [hi]
   ·simp [hi]
  ·cases h
 ·rename_i hk;simp only at hk;subst hk;split at h
  ·rename_i hw;simp only at hw;subst hw;simp only [aqp]at h;subst h;refine⟨rfl,rfl,fun i'=>?_⟩;simp only [bL.cells,fN,SV.cells];by_cases hi:i'=(E.den ρ i 0).toNat
   ·simp [hi]
   ·simp [hi]
  ·cases h
 ·rename_i l hk;simp only at hk;subst hk;split at h
  ·rename_i hw;simp only at hw;subst hw;simp only [aqp]at h;subst h;refine⟨rfl,rfl,fun i'=>?_⟩;simp only [bL.cells,fN,SV.cells,j5,jX,mD];by_cases hi:i'=(E.den ρ i 0).toNat
   ·simp [hi,ou]
   ·simp [hi]
  ·cases h
 ·rename_i s hk;simp only at hk;subst hk;split at h
  ·rename_i hw;simp only at hw;subst hw;simp only [aqp]at h;subst h;refine⟨rfl,rfl,fun i'=>?_⟩;simp only [bL.cells,fN,SV.cells,j5,jX];by_cases hi:i'=(E.den ρ i 0).toNat
   ·simp [hi]
   ·simp [hi]
  ·cases h
 ·rename_i e hk;simp only at hk;subst hk;split at h
  ·rename_i hw;simp only at hw;subst hw;simp only [aqp]at h;subst h;refine⟨rfl,rfl,fun i'=>?_⟩;simp only [bL.cells,fN,E.den,SV.cells];by_cases hi:i'=(E.den ρ i 0).toNat
   ·simp [hi,cX]
   ·simp [hi]
  ·cases h
 ·rename_i hk;simp only at hk;subst hk;split at h
  ·rename_i hw;simp only at hw;subst hw;simp only [aqp]at h;subst h;refine⟨rfl,rfl,fun i'=>?_⟩;simp only [bL.cells,fN,E.den,SV.cells];by_cases hi:i'=(E.den ρ i 0).toNat
   ·simp [hi,cX]
   ·simp [hi]
  ·cases h
 ·rename_i q _ u hk;simp only at hk;subst hk;split at h
  ·rename_i hw;obtain⟨hw,rfl⟩:=hw;simp only at hw;subst hw;simp only [aqp]at h;subst h;refine⟨rfl,rfl,fun i'=>?_⟩;simp only [bL.cells,fN,SV.cells];by_cases hi:i'=(E.den ρ q 0).toNat
   ·simp [hi]
   ·simp [hi]
  ·cases h
 ·cases h
end
def xN(kl:List IntKind)(ks:List Int):List Value:=(kl.zip ks).map fun x=> .int x.1 x.2
section
variable {ρ:Env}
theorem Gj{k1 k2:List IntKind}{a b:List Int}(h:a.length=k1.length):xN (k1++k2) (a++b)=xN k1 a++xN k2 b:=by
 unfold xN;rw [List.zip_append h.symm,List.map_append]
theorem o4(k:IntKind)(n:Nat)(f:Nat→Int):xN (List.replicate n k) ((List.range n).map f)=aj k n f:=by
 unfold xN aj
 induction n with
 | zero=>rfl
 | succ n ih=>
  rw [List.replicate_succ',List.range_succ,List.map_append,List.zip_append (by simp),List.map_append,ih,List.map_append];simp
theorem sH: ∀{cs:List SV} {o:Nat} {acc:E} {kl:List IntKind} {a:E},wB o acc cs=some (kl,a)→
  (∀j,j<o→a.den ρ j=acc.den ρ j)∧SV.ao ρ cs=xN kl ((List.range kl.length).map fun i=>a.den ρ (o+i))
 | [],o,acc,kl,a,h=>by
  simp [wB]at h;obtain⟨rfl,rfl⟩:=h;exact⟨fun _ _=>rfl,rfl⟩
 | v::r,o,acc,kl,a,h=>by
  cases v with
  | int k e=>
   simp only [wB]at h;split at h
   ·rename_i l a' h1;cases h;obtain⟨i1,i2⟩:=sH h1;have e1: ∀j,(E.m7 acc (.lit o) e).den ρ j=if j=o then e.den ρ 0 else acc.den ρ j:=fun j=>rfl
    refine⟨fun j hj=>?_,?_⟩
    ·rw [i1 j (by omega),e1,if_neg (by omega)]
    ·simp only [SV.ao,SV.cells,i2,List.length_cons];rw [List.range_succ_eq_map,aqP,List.map_map];have e0:a.den ρ (o+0)=e.den ρ 0:=by
      rw [i1 (o+0) (by omega),e1,if_pos (by omega)]
     rw [e0];simp only [xN,List.zip_cons_cons,aqP,List.singleton_append,List.cons.injEq,true_and];congr 3;funext i;simp only [Function.comp];congr 1;omega
   ·cases h
  | cQ k n b=>
   simp only [wB]at h;split at h
   ·rename_i l a' h1;cases h;obtain⟨i1,i2⟩:=sH h1;have e1: ∀j,(E.jl acc (.lit o) (.lit n) b).den ρ j=if o≤j∧j<o+n then b.den ρ (j - o)else acc.den ρ j:=fun j=>rfl
    refine⟨fun j hj=>?_,?_⟩
    ·rw [i1 j (by omega),e1,if_neg (by omega)]
    ·simp only [SV.ao,SV.cells,i2,aql,List.length_replicate];rw [List.range_add,List.map_append,Gj (by simp),o4,List.map_map];congr 1
     ·apply cn;intro j hj;rw [i1 (o+j) (by omega),e1,if_pos (by omega)];congr 1;omega
     ·congr 2;funext i;simp only [Function.comp];congr 1;omega
   ·cases h
  | _=>simp [wB]at h
theorem gJ{cs:List SV}{kl:List IntKind}{a:E}(h:rowOf cs=some (kl,a)):SV.ao ρ cs=xN kl ((List.range kl.length).map (a.den ρ)):=by
 unfold rowOf at h;split at h
 ·cases h;simp only [SV.ao,SV.cells,List.append_nil,List.length_replicate];rw [o4]
 ·cases h;rfl
 ·have:=(sH (ρ:=ρ) h).2;simpa using this
theorem qp: ∀{ay:List bL} {vs FO:List SV},align ay vs=some FO→SV.ao ρ FO=SV.ao ρ vs
 | [],[],FO,h=>by simp [align]at h;subst h;rfl
 | _::_,[],FO,h=>by simp [align]at h;subst h;rfl
 | [],v::r,FO,h=>by simp [align]at h;subst h;rfl
 | c::ay,v::r,FO,h=>by
  unfold align at h;split at h
  ·rw [aqq]at h;obtain⟨z,hz,rfl⟩:=h;simp only [SV.ao,qp hz]
  ·split at h
   ·rename_i k x rest hk hx yA;split at h
    ·rename_i kl a rL;split at h
     ·rename_i JF;rw [aqq]at h;obtain⟨z,hz,rfl⟩:=h;have h1:=(eK (ρ:=ρ) hx).1;have h2:=eR (ρ:=ρ) _ _ _ yA;have h3:=gJ (ρ:=ρ) rL;rw [JF,List.length_replicate,o4]at h3;rw [h3,List.drop_zero]at h1;rw [SV.ao,SV.cells,qp hz,h1,h2,List.take_append_drop]
     ·cases h
    ·cases h
   ·cases h
end
section
variable (ρ:Env)
abbrev rowAt(ay:List bL)(i:Nat):List Value:=(ay.map (bL.cells ρ)).flatMap fun c=>c i
theorem rX{i:E}: ∀{vs:List SV} {ay aN:List bL},oD i vs ay=some aN→
  bW aN=bW ay∧(SV.ao ρ vs).length≤bW ay∧
   (∀i':Nat,i'≠(i.den ρ 0).toNat→rowAt ρ aN i'=rowAt ρ ay i')∧
   rowAt ρ aN (i.den ρ 0).toNat=SV.ao ρ vs++(rowAt ρ ay (i.den ρ 0).toNat).drop (SV.ao ρ vs).length
 | [],ay,aN,h=>by
  simp [oD]at h;subst h;simp [SV.ao]
 | v::r,[],aN,h=>by simp [oD]at h
 | v::r,c::ay,aN,h=>by
  unfold oD at h;split at h
  ·rename_i c' tI h1 h2;simp only [aqp]at h;subst h;obtain⟨hw,hv,hc⟩:=BW ρ h1;obtain⟨iw,il,YQ,YR⟩:=rX h2;have YS:=tG ρ v;refine⟨?_,?_,?_,?_⟩
   ·simp only [bW,aqP,List.sum_cons]at iw ⊢;omega
   ·simp only [SV.ao,aql,bW,aqP,List.sum_cons]at il ⊢;omega
   ·intro i' hi;simp only [rowAt,aqP,List.flatMap_cons]at YQ ⊢;rw [YQ i' hi,hc i',if_neg hi]
   ·simp only [rowAt,aqP,List.flatMap_cons,SV.ao]at YR ⊢;rw [YR,hc _,if_pos rfl,List.append_assoc,aql,List.drop_append,kI,List.drop_of_length_le (l:=c.cells ρ _) (by rw [kI];omega),
     List.nil_append,YS,hv,Nat.add_sub_cancel_left]
  ·cases h
theorem iW{i:E}{vs:List SV}{ay aN:List bL}(h:kU i vs ay=some aN):
  bW aN=bW ay∧(SV.ao ρ vs).length≤bW ay∧
   (∀i':Nat,i'≠(i.den ρ 0).toNat→rowAt ρ aN i'=rowAt ρ ay i')∧
   rowAt ρ aN (i.den ρ 0).toNat=SV.ao ρ vs++(rowAt ρ ay (i.den ρ 0).toNat).drop (SV.ao ρ vs).length:=by
 unfold kU at h;split at h
 ·rename_i FO ha;have:=rX ρ h
  rwa [qp ha]at this
 ·cases h
theorem rY{i:E}{vs:List SV}: ∀{o:Nat} {ay aN:List bL},oE i vs o ay=some aN→
  bW aN=bW ay∧o+(SV.ao ρ vs).length≤bW ay∧
   (∀i':Nat,i'≠(i.den ρ 0).toNat→rowAt ρ aN i'=rowAt ρ ay i')∧
   rowAt ρ aN (i.den ρ 0).toNat=(rowAt ρ ay (i.den ρ 0).toNat).take o++SV.ao ρ vs++(rowAt ρ ay (i.den ρ 0).toNat).drop (o+(SV.ao ρ vs).length)
 | 0,ay,aN,h=>by
  unfold oE at h;have:=iW ρ h;simpa using this
 | o+1,[],aN,h=>by simp [oE]at h
 | o+1,c::r,aN,h=>by
  unfold oE at h;split at h
  ·rename_i hle;rw [aqq]at h;obtain⟨r',h1,rfl⟩:=h;obtain⟨iw,il,YQ,YR⟩:=rY h1;refine⟨?_,?_,?_,?_⟩
   ·simp only [bW,aqP,List.sum_cons]at iw ⊢;omega
   ·simp only [bW,aqP,List.sum_cons]at il ⊢;omega
   ·intro i' hi;simp only [rowAt,aqP,List.flatMap_cons]at YQ ⊢;rw [YQ i' hi]
   ·simp only [rowAt,aqP,List.flatMap_cons]at YR ⊢;rw [YR,List.take_append,List.drop_append,kI,List.take_of_length_le (l:=c.cells ρ _) (by rw [kI];exact hle),
     List.drop_of_length_le (l:=c.cells ρ _) (by rw [kI];omega),List.nil_append,show o+1+(SV.ao ρ vs).length - c.w=o+1 - c.w+(SV.ao ρ vs).length by omega]
    simp [List.append_assoc]
  ·cases h
end
end Go.RX
