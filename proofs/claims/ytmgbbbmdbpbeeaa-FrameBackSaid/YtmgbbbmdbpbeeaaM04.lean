/- Executor. -/
import Derived.Test.YtmgbbbmdbpbeeaaM03
open List renaming eq_nil_of_length_eq_zero → adR, getElem?_eq_getElem → ad8, getElem?_eq_none → aef, map_cons → adT, mem_filter → adU, mem_range → adZ
open List.cons renaming injEq → adF
open Option renaming map_eq_some_iff → adw
open Option.some renaming injEq → adv
namespace Go.RX
theorem DU{α:Type}(s:Nat)(f:Nat→List α)(hf: ∀i,(f i).length=s): ∀(n i:Nat),i<n→
  (((List.range n).flatMap f).drop (i*s)).take s=f i:=by
 intro n i hi;have h1:List.range n=List.range i++(i::(List.range (n - i - 1)).map (· +(i+1))):=by
  apply List.ext_getElem?;intro j;rw [List.getElem?_append];by_cases hj:j<n
  ·rw [List.getElem?_range hj];by_cases N0:j<i
   ·rw [if_pos (by simpa using N0),List.getElem?_range N0]
   ·rw [if_neg (by simpa using N0),List.length_range];by_cases he:j=i
    ·subst he;simp
    ·obtain⟨d,rfl⟩: ∃d,j=i+1+d:=⟨j - i - 1,by omega⟩;rw [show i+1+d - i=d+1 by omega,List.getElem?_cons_succ,List.getElem?_map,List.getElem?_range (by omega)];simp;omega
  ·rw [aef (by simp;omega),if_neg (by simp;omega),aef (by simp;omega)]
 have hlen: ∀l:List Nat,(l.flatMap f).length=l.length*s:=by
  intro l
  induction l with
  | nil=>simp
  | cons a r ih=>rw [List.flatMap_cons,List.length_append,hf,ih,List.length_cons,Nat.add_mul];omega
 rw [h1,List.flatMap_append,List.flatMap_cons];have h2:=hlen (List.range i);rw [List.length_range]at h2;rw [List.drop_append,h2,Nat.sub_self,List.drop_of_length_le (by omega),List.drop_zero,List.nil_append];rw [List.take_append_of_le_length (by rw [hf];exact Nat.le_refl _),List.take_of_length_le (by rw [hf];exact Nat.le_refl _)]
section
variable (ρ:Env)
theorem jw(c:bS)(i:Nat):(c.cells ρ i).length=c.w:=by
 obtain⟨ck,cw,a⟩:=c;cases ck<;>simp [bS.cells,aJ,zu,gX,xx,aF]
theorem cY(aH:List bS)(i:Nat):((aH.map (bS.cells ρ)).flatMap fun c=>c i).length=bT aH:=by
 induction aH with
 | nil=>rfl
 | cons c r ih=>simp only [adT,List.flatMap_cons,List.length_append,jw,ih,bT,List.sum_cons,adT]
theorem OV(aH:List bS)(n i:Nat)(h:i<n):
  ((aN ρ n aH).drop (i*bT aH)).take (bT aH)=(aH.map (bS.cells ρ)).flatMap fun c=>c i:=
 DU (bT aH) (fun(i:Nat)=>(aH.map (bS.cells ρ)).flatMap fun(c:Nat→List Value)=>c i) (cY ρ aH) n i h
theorem cZ(aH:List bS)(n:Nat):(aN ρ n aH).length=n*bT aH:=by
 unfold aN aK;have: ∀l:List Nat,(l.flatMap fun i=>(aH.map (bS.cells ρ)).flatMap fun c=>c i).length=l.length*bT aH:=by
  intro l
  induction l with
  | nil=>simp
  | cons a r ih=>rw [List.flatMap_cons,List.length_append,cY,ih,List.length_cons,Nat.add_mul];omega
 rw [this,List.length_range]
theorem toNat_mul(x:Int)(w:Nat):(x*(w:Int)).toNat=x.toNat*w:=by
 rcases Int.le_total 0 x with h | h
 ·obtain⟨m,rfl⟩:=Int.eq_ofNat_of_zero_le h;rw [←Int.natCast_mul,Int.toNat_natCast,Int.toNat_natCast]
 ·have h1:x*(w:Int)≤0:=Int.mul_nonpos_of_nonpos_of_nonneg h (by omega);rw [Int.toNat_of_nonpos h1,Int.toNat_of_nonpos h];simp
theorem Jt(e:E):SV.cells ρ (WV e)=[mM (e.den ρ 0)]:=by
 unfold WV;split
 ·simp only [SV.cells,E.den,rS]
 ·split
  ·rename_i h;subst h;rfl
  ·rfl
 ·rfl
theorem zv{c:bS}{i:E}{x:SV}(h:BG c i=some x):SV.cells ρ x=c.cells ρ (i.den ρ 0).toNat:=by
 obtain⟨ck,cw,a⟩:=c;unfold BG at h;cases ck with
 | int k=>
  simp only [bS.cells]at h ⊢;split at h
  ·rename_i hw;simp only [adv]at h;subst h;simp [SV.cells,aJ,aj,hw,dL]
  ·simp only [adv]at h;subst h;simp only [SV.cells,aJ];apply bA;intro j _;rw [dC,fl];simp only [E.den];rw [toNat_mul]
 | bool=>
  simp only [bS.cells]at h ⊢;split at h
  ·rename_i hw;simp only [adv]at h;subst h;simp [SV.cells,zu,hw,dL,wm]
  ·cases h
 | val v=>
  simp only [bS.cells]at h ⊢;split at h
  ·rename_i hw;simp only [adv]at h;subst h;simp [SV.cells,gX,hw]
  ·cases h
 | ptr=>
  simp only [bS.cells]at h ⊢;split at h
  ·rename_i hw;simp only [adv]at h;subst h;rw [Jt];simp [xx,hw,dL]
  ·cases h
 | cC=>
  simp only [bS.cells]at h ⊢;split at h
  ·rename_i hw;simp only [adv]at h;subst h;simp [SV.cells,gX,hw]
  ·cases h
 | str=>
  simp only [bS.cells]at h ⊢;split at h
  ·rename_i hw;simp only [adv]at h;subst h;rw [DP,xr];simp [gX,hw]
  ·cases h
 | cv=>
  simp only [bS.cells]at h ⊢;split at h
  ·rename_i hw;simp only [adv]at h;subst h;simp [SV.cells,gX,hw,dL]
  ·cases h
 | qV l=>
  simp only [bS.cells]at h ⊢;split at h
  ·rename_i k hk;split at h
   ·rename_i n hn;split at h
    ·rename_i hw;simp only [adv]at h;subst h;have mQ:i.den ρ 0=(k:Int):=by
      unfold eA at hk;split at hk
      ·cases hk;rfl
      ·cases hk
     simp [SV.cells,gX,hw,mQ,hn]
    ·cases h
   ·cases h
  ·cases h
theorem kX{i:E}: ∀{aH:List bS} {es:List SV},mR i aH=some es→
  SV.aB ρ es=(aH.map (bS.cells ρ)).flatMap fun c=>c (i.den ρ 0).toNat
 | [],es,h=>by simp [mR]at h;subst h;rfl
 | c::r,es,h=>by
  unfold mR at h;split at h
  ·rename_i x xs hx Ge;simp only [adv]at h;subst h;simp only [SV.aB,adT,List.flatMap_cons,zv ρ hx,kX Ge]
  ·cases h
theorem c7{i n:E}(h: ∀b∈gv i n,b.prop ρ):0≤i.den ρ 0∧i.den ρ 0<n.den ρ 0:=by
 have key: ∀b:BE,b∈[wo (.lit 0) i,Gd i n]→b.den ρ=true:=by
  intro b hb;by_cases hl:b= .lit true
  ·subst hl;rfl
  ·exact(BE.bX ρ b).2 (h b (by unfold gv;exact adU.2 ⟨hb,by simpa using hl⟩))
 have h1:=key (wo (.lit 0) i) (by simp);have h2:=key (Gd i n) (by simp);rw [gp]at h1;rw [rW]at h2;exact⟨of_decide_eq_true h1,of_decide_eq_true h2⟩
end
theorem c9(a:Addr)(m n:Nat):(a.add m).add n=a.add (m+n):=by
 unfold Addr.add;by_cases hm:m=0
 ·subst hm;simp
 ·by_cases hn:n=0
  ·subst hn;simp
  ·simp [hm,hn,Nat.add_assoc]
theorem gw(b o n:Nat):(⟨b,o,none⟩:Addr).add n=⟨b,o+n,none⟩:=by
 unfold Addr.add;split<;>simp_all
section
variable {P:Program} {w:World}
theorem kY{ti:TI}(h:jS P ti)(a:Addr)(xs:List Value)(hl:xs.length=ti.size)
  (hc: ∀(j:Nat) v,xs[j]? =some v→w.cell? (a.add j)=some v) (v:Value)
  (hv:(ti.k.agg=true→v= .agg xs.toArray)∧(ti.k.agg=false→xs=[v])):
  (Instr.loadAt ti.t (.pointer (some a))).run P w= .ok v w:=by
 cases ha:ti.k.agg with
 | true=>
  have h1:=run_loadCells_list (P:=P) w a xs hc;rw [hl]at h1;simp [Instr.loadAt,Instr.sureAddr,loadVar,h.isAgg w,ha,h.sizeOf w,h1,hv.1 ha]
 | false=>
  have hx:=hv.2 ha;subst hx;have:=hc 0 v rfl;simp only [Addr.add,if_true]at this;simp [Instr.loadAt,Instr.sureAddr,loadVar,h.isAgg w,ha,this]
theorem hU{b:Nat}{wr:Bool}{cs:List Value}{S:Nat→Prop}(h:(aq b wr cs).p w S)(c:Nat)(j:Nat)(v:Value)
  (hv:(cs.drop c)[j]? =some v):w.cell? ((⟨b,c,none⟩:Addr).add j)=some v:=by
 rw [gw];rw [List.getElem?_drop]at hv;obtain⟨_,ty,fz,hg,_⟩:=h;rw [cell_of_row w b (c+j) _ ty fz hg];simpa using hv
theorem DV{md:Bool}{t s n:Nat}{v:Value}{cs:List Value}{S:Nat→Prop}(h:(au md t s v n cs).p w S)(c j:Nat)(u:Value)
  (hu:(cs.drop c)[j]? =some u): ∃a m cp,v= .slice (some a) m cp∧m=n∧w.cell? ((a.add c).add j)=some u:=by
 rw [List.getElem?_drop]at hu;obtain⟨h0,_⟩:=h;cases md with
 | true=>
  simp only [if_true]at h0;have QU:=h0;obtain⟨hl,hr⟩:=h0;rcases hr with⟨_,rfl⟩ | ⟨g,o,cap,cur,rfl,hg,_⟩
  ·have:cs=[]:=adR (by simpa using hl);subst this;simp at hu
  ·refine⟨⟨g,o,none⟩,n,cap,rfl,rfl,?_⟩;rw [c9];exact iM QU _ _ hu
 | false=>
  simp only [Bool.false_eq_true,if_false]at h0;obtain⟨hl,a,m,c',rfl,hm,_,ke,hc⟩:=h0;cases a with
  | none=>
   have hn:=ke rfl;subst hn;have:cs=[]:=adR (by simpa using hl);subst this;simp at hu
  | some ad=>
   refine⟨ad,m,c',rfl,hm,?_⟩;rw [c9];exact(hc ad rfl).2 _ _ hu
theorem mS{md:Bool}{t s n:Nat}{v:Value}{cs:List Value}{S:Nat→Prop}(h:(au md t s v n cs).p w S)(hn:0<n):
  ∃a cp,v= .slice (some a) n cp:=by
 obtain⟨h0,_⟩:=h;cases md with
 | true=>
  simp only [if_true]at h0;rcases h0.2 with⟨_,h1⟩ | ⟨g,o,cap,cur,rfl,_⟩
  ·omega
  ·exact⟨_,_,rfl⟩
 | false=>
  simp only [Bool.false_eq_true,if_false]at h0;obtain⟨_,a,m,c',rfl,hm,_,ke,_⟩:=h0;subst hm;cases a with
  | none=>have:=ke rfl;omega
  | some ad=>exact⟨_,_,rfl⟩
theorem OW{md:Bool}{t s n:Nat}{v:Value}{cs:List Value}{S:Nat→Prop}(h:(au md t s v n cs).p w S):
  ∃a cp,v= .slice a n cp:=by
 obtain⟨h0,_⟩:=h;cases md with
 | true=>
  simp only [if_true]at h0;rcases h0.2 with⟨rfl,rfl⟩ | ⟨g,o,cap,cur,rfl,_⟩
  ·exact⟨_,_,rfl⟩
  ·exact⟨_,_,rfl⟩
 | false=>
  simp only [Bool.false_eq_true,if_false]at h0;obtain⟨_,a,m,c',rfl,rfl,_⟩:=h0;exact⟨_,_,rfl⟩
end
theorem cH{hp:List Ck}{b j:Nat}{ck:Ck}(h:findAt hp b=some (j,ck)):hp[j]? =some ck∧ck.qs b=true:=by
 unfold findAt at h;split at h
 ·rename_i i hi;rw [adw]at h;obtain⟨c,hc,he⟩:=h;cases he;refine⟨hc,?_⟩;rw [List.findIdx?_eq_some_iff_getElem]at hi;obtain⟨bP,h1,_⟩:=hi;rw [ad8 bP]at hc;cases hc;exact h1
 ·cases h
theorem cK{hp:List Ck}{v j:Nat}{ck:Ck}(h:dH hp v=some (j,ck)):hp[j]? =some ck∧ck.lI v=true:=by
 unfold dH at h;split at h
 ·rename_i i hi;rw [adw]at h;obtain⟨c,hc,he⟩:=h;cases he;refine⟨hc,?_⟩;rw [List.findIdx?_eq_some_iff_getElem]at hi;obtain⟨bP,h1,_⟩:=hi;rw [ad8 bP]at hc;cases hc;exact h1
 ·cases h
theorem OX(s:Nat)(f g:Nat→List Value)(hf: ∀i,(f i).length=s)(_: ∀i,(g i).length=s)(n i c:Nat)(vs:List Value)(hi:i<n)
  (hc:c+vs.length≤s) (dR: ∀j,j≠i→g j=f j) (he:g i=(f i).take c++vs++(f i).drop (c+vs.length)):
  (List.range n).flatMap g=((List.range n).flatMap f).take (i*s+c)++vs++((List.range n).flatMap f).drop (i*s+c+vs.length):=by
 have h1:List.range n=List.range i++(i::(List.range (n - i - 1)).map (· +(i+1))):=by
  apply List.ext_getElem?;intro j;rw [List.getElem?_append];by_cases hj:j<n
  ·rw [List.getElem?_range hj];by_cases N0:j<i
   ·rw [if_pos (by simpa using N0),List.getElem?_range N0]
   ·rw [if_neg (by simpa using N0),List.length_range];by_cases he:j=i
    ·subst he;simp
    ·obtain⟨d,rfl⟩: ∃d,j=i+1+d:=⟨j - i - 1,by omega⟩;rw [show i+1+d - i=d+1 by omega,List.getElem?_cons_succ,List.getElem?_map,List.getElem?_range (by omega)];simp;omega
  ·rw [aef (by simp;omega),if_neg (by simp;omega),aef (by simp;omega)]
 have hlen: ∀l:List Nat,(l.flatMap f).length=l.length*s:=by
  intro l
  induction l with
  | nil=>simp
  | cons a r ih=>rw [List.flatMap_cons,List.length_append,hf,ih,List.length_cons,Nat.add_mul];omega
 have hA:(List.range i).flatMap g=(List.range i).flatMap f:=by
  rw [List.flatMap_def,List.flatMap_def];congr 1;exact List.map_congr_left fun j hj=>dR j (by have:=adZ.1 hj;omega)
 have hB:((List.range (n - i - 1)).map (· +(i+1))).flatMap g=((List.range (n - i - 1)).map (· +(i+1))).flatMap f:=by
  rw [List.flatMap_def,List.flatMap_def];congr 1;apply List.map_congr_left;intro j hj;simp only [List.mem_map,adZ]at hj;obtain⟨x,_,rfl⟩:=hj;exact dR _ (by omega)
 rw [h1];simp only [List.flatMap_append,List.flatMap_cons,hA,hB,he];have hl:=hlen (List.range i);rw [List.length_range]at hl;generalize (List.range i).flatMap f=A at hl ⊢;generalize ((List.range (n - i - 1)).map (· +(i+1))).flatMap f=B;have hfi:=hf i;generalize f i=R at hfi ⊢;rw [List.take_append,List.take_of_length_le (l:=A) (by omega),hl,show i*s+c - i*s=c by omega,List.take_append_of_le_length (by omega)];rw [List.drop_append,List.drop_of_length_le (l:=A) (by omega),hl,show i*s+c+vs.length - i*s=c+vs.length by omega,List.drop_append_of_le_length (by omega)];simp
section
variable (ρ:Env)
theorem BH{i:E}{v:SV}{c c':bS}(h:BI i v c=some c'):
  c'.w=c.w∧v.width=c.w∧∀i':Nat,c'.cells ρ i'=if i'=(i.den ρ 0).toNat then SV.cells ρ v else c.cells ρ i':=by
 obtain⟨ck,cw,a⟩:=c;unfold BI at h;split at h
 ·rename_i k k' e hk;simp only at hk;subst hk;split at h
  ·rename_i hc;obtain⟨hw,rfl⟩:=hc;simp only at hw;subst hw;simp only [adv]at h;subst h;refine⟨rfl,rfl,fun i'=>?_⟩;simp only [bS.cells,aJ,aj,E.den,SV.cells];by_cases hi:i'=(E.den ρ i 0).toNat
   ·simp [hi]
   ·simp [hi]
  ·cases h
 ·rename_i k k' n b hk;simp only at hk;subst hk;split at h
  ·rename_i hc;obtain⟨hw,rfl⟩:=hc;simp only at hw;subst hw;simp only [adv]at h;subst h;refine⟨rfl,rfl,fun i'=>?_⟩;simp only [bS.cells,aJ,SV.cells];by_cases hi:i'=(E.den ρ i 0).toNat
   ·rw [if_pos hi];apply bA;intro j hj;simp only [E.den,fl,toNat_mul,Int.toNat_natCast];rw [if_pos (by rw [hi];omega),hi];congr 1;omega
   ·rw [if_neg hi];apply bA;intro j hj;simp only [E.den,fl,toNat_mul,Int.toNat_natCast];rw [if_neg];intro hc;rcases Nat.lt_or_gt_of_ne hi with bP | WU
    ·have:=Nat.mul_le_mul_right cw (Nat.succ_le_of_lt bP);rw [Nat.succ_mul]at this;omega
    ·have:=Nat.mul_le_mul_right cw (Nat.succ_le_of_lt WU);rw [Nat.succ_mul]at this;omega
  ·cases h
 ·rename_i x hk;simp only at hk;subst hk;split at h
  ·rename_i hw;simp only at hw;subst hw;simp only [adv]at h;subst h;refine⟨rfl,rfl,fun i'=>?_⟩;simp only [bS.cells,zu,E.den,SV.cells,BE.den];by_cases hi:i'=(E.den ρ i 0).toNat
   ·cases x<;>simp [hi]
   ·simp [hi]
  ·cases h
 ·rename_i e hk;simp only at hk;subst hk;split at h
  ·rename_i hw;simp only at hw;subst hw;simp only [adv]at h;subst h;refine⟨rfl,rfl,fun i'=>?_⟩;simp only [bS.cells,zu,E.den,SV.cells,BE.den];by_cases hi:i'=(E.den ρ i 0).toNat
   ·simp [hi]
   ·simp [hi]
  ·cases h
 ·rename_i b o hk;simp only at hk;subst hk;split at h
  ·rename_i hw;obtain⟨hw,rfl⟩:=hw;simp only at hw;subst hw;simp only [adv]at h;subst h;refine⟨rfl,rfl,fun i'=>?_⟩;simp only [bS.cells,xx,E.den,SV.cells];by_cases hi:i'=(E.den ρ i 0).toNat
   ·simp [hi,rS]
   ·simp [hi]
  ·cases h
 ·rename_i hk;simp only at hk;subst hk;split at h
  ·rename_i hw;simp only at hw;subst hw;simp only [adv]at h;subst h;refine⟨rfl,rfl,fun i'=>?_⟩;simp only [bS.cells,xx,E.den,SV.cells];by_cases hi:i'=(E.den ρ i 0).toNat
   ·simp [hi,mM]
   ·simp [hi]
  ·cases h
 ·rename_i e hk;simp only at hk;subst hk;split at h
  ·rename_i hw;simp only at hw;subst hw;simp only [adv]at h;subst h;refine⟨rfl,rfl,fun i'=>?_⟩;simp only [bS.cells,xx,E.den,SV.cells];by_cases hi:i'=(E.den ρ i 0).toNat
   ·simp [hi]
   ·simp [hi]
  ·cases h
 ·rename_i hk;simp only at hk;subst hk;split at h
  ·rename_i hw;simp only at hw;subst hw;simp only [adv]at h;subst h;refine⟨rfl,rfl,fun i'=>?_⟩;simp only [bS.cells,gX,SV.cells];by_cases hi:i'=(E.den ρ i 0).toNat
   ·simp [hi]
   ·simp [hi]
  ·cases h
 ·rename_i l hk;simp only at hk;subst hk;split at h
  ·rename_i hw;simp only at hw;subst hw;simp only [adv]at h;subst h;refine⟨rfl,rfl,fun i'=>?_⟩;simp only [bS.cells,gX,SV.cells,iN,iJ,kU];by_cases hi:i'=(E.den ρ i 0).toNat
   ·simp [hi,mK]
   ·simp [hi]
  ·cases h
 ·rename_i s hk;simp only at hk;subst hk;split at h
  ·rename_i hw;simp only at hw;subst hw;simp only [adv]at h;subst h;refine⟨rfl,rfl,fun i'=>?_⟩;simp only [bS.cells,gX,SV.cells,iN,iJ];by_cases hi:i'=(E.den ρ i 0).toNat
   ·simp [hi]
   ·simp [hi]
  ·cases h
 ·rename_i e hk;simp only at hk;subst hk;split at h
  ·rename_i hw;simp only at hw;subst hw;simp only [adv]at h;subst h;refine⟨rfl,rfl,fun i'=>?_⟩;simp only [bS.cells,gX,E.den,SV.cells];by_cases hi:i'=(E.den ρ i 0).toNat
   ·simp [hi,Bz]
   ·simp [hi]
  ·cases h
 ·rename_i hk;simp only at hk;subst hk;split at h
  ·rename_i hw;simp only at hw;subst hw;simp only [adv]at h;subst h;refine⟨rfl,rfl,fun i'=>?_⟩;simp only [bS.cells,gX,E.den,SV.cells];by_cases hi:i'=(E.den ρ i 0).toNat
   ·simp [hi,Bz]
   ·simp [hi]
  ·cases h
 ·cases h
end
def wq(kl:List IntKind)(ks:List Int):List Value:=(kl.zip ks).map fun x=> .int x.1 x.2
section
variable {ρ:Env}
theorem Gg{k1 k2:List IntKind}{a b:List Int}(h:a.length=k1.length):wq (k1++k2) (a++b)=wq k1 a++wq k2 b:=by
 unfold wq;rw [List.zip_append h.symm,List.map_append]
theorem nG(k:IntKind)(n:Nat)(f:Nat→Int):wq (List.replicate n k) ((List.range n).map f)=aj k n f:=by
 unfold wq aj
 induction n with
 | zero=>rfl
 | succ n ih=>
  rw [List.replicate_succ',List.range_succ,List.map_append,List.zip_append (by simp),List.map_append,ih,List.map_append];simp
theorem qY: ∀{cs:List SV} {o:Nat} {acc:E} {kl:List IntKind} {a:E},uM o acc cs=some (kl,a)→
  (∀j,j<o→a.den ρ j=acc.den ρ j)∧SV.aB ρ cs=wq kl ((List.range kl.length).map fun i=>a.den ρ (o+i))
 | [],o,acc,kl,a,h=>by
  simp [uM]at h;obtain⟨rfl,rfl⟩:=h;exact⟨fun _ _=>rfl,rfl⟩
 | v::r,o,acc,kl,a,h=>by
  cases v with
  | int k e=>
   simp only [uM]at h;split at h
   ·rename_i l a' h1;cases h;obtain⟨i1,i2⟩:=qY h1;have e1: ∀j,(E.rO acc (.lit o) e).den ρ j=if j=o then e.den ρ 0 else acc.den ρ j:=fun j=>rfl
    refine⟨fun j hj=>?_,?_⟩
    ·rw [i1 j (by omega),e1,if_neg (by omega)]
    ·simp only [SV.aB,SV.cells,i2,List.length_cons];rw [List.range_succ_eq_map,adT,List.map_map];have e0:a.den ρ (o+0)=e.den ρ 0:=by
      rw [i1 (o+0) (by omega),e1,if_pos (by omega)]
     rw [e0];simp only [wq,List.zip_cons_cons,adT,List.singleton_append,adF,true_and];congr 3;funext i;simp only [Function.comp];congr 1;omega
   ·cases h
  | cD k n b=>
   simp only [uM]at h;split at h
   ·rename_i l a' h1;cases h;obtain⟨i1,i2⟩:=qY h1;have e1: ∀j,(E.s7 acc (.lit o) (.lit n) b).den ρ j=if o≤j∧j<o+n then b.den ρ (j - o)else acc.den ρ j:=fun j=>rfl
    refine⟨fun j hj=>?_,?_⟩
    ·rw [i1 j (by omega),e1,if_neg (by omega)]
    ·simp only [SV.aB,SV.cells,i2,List.length_append,List.length_replicate];rw [List.range_add,List.map_append,Gg (by simp),nG,List.map_map];congr 1
     ·apply bA;intro j hj;rw [i1 (o+j) (by omega),e1,if_pos (by omega)];congr 1;omega
     ·congr 2;funext i;simp only [Function.comp];congr 1;omega
   ·cases h
  | _=>simp [uM]at h
theorem fS{cs:List SV}{kl:List IntKind}{a:E}(h:rowOf cs=some (kl,a)):SV.aB ρ cs=wq kl ((List.range kl.length).map (a.den ρ)):=by
 unfold rowOf at h;split at h
 ·cases h;simp only [SV.aB,SV.cells,List.append_nil,List.length_replicate];rw [nG]
 ·cases h;rfl
 ·have:=(qY (ρ:=ρ) h).2;simpa using this
theorem oZ: ∀{aH:List bS} {vs FK:List SV},align aH vs=some FK→SV.aB ρ FK=SV.aB ρ vs
 | [],[],FK,h=>by simp [align]at h;subst h;rfl
 | _::_,[],FK,h=>by simp [align]at h;subst h;rfl
 | [],v::r,FK,h=>by simp [align]at h;subst h;rfl
 | c::aH,v::r,FK,h=>by
  unfold align at h;split at h
  ·rw [adw]at h;obtain⟨z,hz,rfl⟩:=h;simp only [SV.aB,oZ hz]
  ·split at h
   ·rename_i k x rest hk hx xA;split at h
    ·rename_i kl a DW;split at h
     ·rename_i KP;rw [adw]at h;obtain⟨z,hz,rfl⟩:=h;have h1:=(dY (ρ:=ρ) hx).1;have h2:=dJ (ρ:=ρ) _ _ _ xA;have h3:=fS (ρ:=ρ) DW;rw [KP,List.length_replicate,nG]at h3;rw [h3,List.drop_zero]at h1;rw [SV.aB,SV.cells,oZ hz,h1,h2,List.take_append_drop]
     ·cases h
    ·cases h
   ·cases h
end
section
variable (ρ:Env)
abbrev rowAt(aH:List bS)(i:Nat):List Value:=(aH.map (bS.cells ρ)).flatMap fun c=>c i
theorem qB{i:E}: ∀{vs:List SV} {aH aT:List bS},mT i vs aH=some aT→
  bT aT=bT aH∧(SV.aB ρ vs).length≤bT aH∧
   (∀i':Nat,i'≠(i.den ρ 0).toNat→rowAt ρ aT i'=rowAt ρ aH i')∧
   rowAt ρ aT (i.den ρ 0).toNat=SV.aB ρ vs++(rowAt ρ aH (i.den ρ 0).toNat).drop (SV.aB ρ vs).length
 | [],aH,aT,h=>by
  simp [mT]at h;subst h;simp [SV.aB]
 | v::r,[],aT,h=>by simp [mT]at h
 | v::r,c::aH,aT,h=>by
  unfold mT at h;split at h
  ·rename_i c' zh h1 h2;simp only [adv]at h;subst h;obtain⟨hw,hv,hc⟩:=BH ρ h1;obtain⟨iw,il,T9,T_⟩:=qB h2;have Ua:=rX ρ v;refine⟨?_,?_,?_,?_⟩
   ·simp only [bT,adT,List.sum_cons]at iw ⊢;omega
   ·simp only [SV.aB,List.length_append,bT,adT,List.sum_cons]at il ⊢;omega
   ·intro i' hi;simp only [rowAt,adT,List.flatMap_cons]at T9 ⊢;rw [T9 i' hi,hc i',if_neg hi]
   ·simp only [rowAt,adT,List.flatMap_cons,SV.aB]at T_ ⊢;rw [T_,hc _,if_pos rfl,List.append_assoc,List.length_append,List.drop_append,jw,List.drop_of_length_le (l:=c.cells ρ _) (by rw [jw];omega),
     List.nil_append,Ua,hv,Nat.add_sub_cancel_left]
  ·cases h
theorem iQ{i:E}{vs:List SV}{aH aT:List bS}(h:kA i vs aH=some aT):
  bT aT=bT aH∧(SV.aB ρ vs).length≤bT aH∧
   (∀i':Nat,i'≠(i.den ρ 0).toNat→rowAt ρ aT i'=rowAt ρ aH i')∧
   rowAt ρ aT (i.den ρ 0).toNat=SV.aB ρ vs++(rowAt ρ aH (i.den ρ 0).toNat).drop (SV.aB ρ vs).length:=by
 unfold kA at h;split at h
 ·rename_i FK ha;have:=qB ρ h
  rwa [oZ ha]at this
 ·cases h
theorem qC{i:E}{vs:List SV}: ∀{o:Nat} {aH aT:List bS},mU i vs o aH=some aT→
  bT aT=bT aH∧o+(SV.aB ρ vs).length≤bT aH∧
   (∀i':Nat,i'≠(i.den ρ 0).toNat→rowAt ρ aT i'=rowAt ρ aH i')∧
   rowAt ρ aT (i.den ρ 0).toNat=(rowAt ρ aH (i.den ρ 0).toNat).take o++SV.aB ρ vs++(rowAt ρ aH (i.den ρ 0).toNat).drop (o+(SV.aB ρ vs).length)
 | 0,aH,aT,h=>by
  unfold mU at h;have:=iQ ρ h;simpa using this
 | o+1,[],aT,h=>by simp [mU]at h
 | o+1,c::r,aT,h=>by
  unfold mU at h;split at h
  ·rename_i hle;rw [adw]at h;obtain⟨r',h1,rfl⟩:=h;obtain⟨iw,il,T9,T_⟩:=qC h1;refine⟨?_,?_,?_,?_⟩
   ·simp only [bT,adT,List.sum_cons]at iw ⊢;omega
   ·simp only [bT,adT,List.sum_cons]at il ⊢;omega
   ·intro i' hi;simp only [rowAt,adT,List.flatMap_cons]at T9 ⊢;rw [T9 i' hi]
   ·simp only [rowAt,adT,List.flatMap_cons]at T_ ⊢;rw [T_,List.take_append,List.drop_append,jw,List.take_of_length_le (l:=c.cells ρ _) (by rw [jw];exact hle),
     List.drop_of_length_le (l:=c.cells ρ _) (by rw [jw];omega),List.nil_append,show o+1+(SV.aB ρ vs).length - c.w=o+1 - c.w+(SV.aB ρ vs).length by omega]
    simp [List.append_assoc]
  ·cases h
end
end Go.RX
