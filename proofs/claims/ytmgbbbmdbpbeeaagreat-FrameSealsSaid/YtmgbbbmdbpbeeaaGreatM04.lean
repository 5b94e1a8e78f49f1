/- Executor. -/
import Derived.Test.YtmgbbbmdbpbeeaaGreatM03
open Int renaming toNat_natCast → afe
open List renaming eq_nil_of_length_eq_zero → aff, getElem?_eq_getElem → afA, getElem?_eq_none → afz, map_cons → afj, mem_filter → afk, mem_range → afg
open List.cons renaming injEq → ae8
open Option renaming map_eq_some_iff → aeY
open Option.some renaming injEq → aeX
namespace Go.RX
theorem DG{α:Type}(s:Nat)(f:Nat→List α)(hf: ∀i,(f i).length=s): ∀(n i:Nat),i<n→
  (((List.range n).flatMap f).drop (i*s)).take s=f i:=by
 intro n i hi;have h1:List.range n=List.range i++(i::(List.range (n - i - 1)).map (· +(i+1))):=by
  apply List.ext_getElem?;intro j;rw [List.getElem?_append];by_cases hj:j<n
  ·rw [List.getElem?_range hj];by_cases OS:j<i
   ·rw [if_pos (by simpa using OS),List.getElem?_range OS]
   ·rw [if_neg (by simpa using OS),List.length_range];by_cases he:j=i
    ·subst he;simp
    ·obtain⟨d,rfl⟩: ∃d,j=i+1+d:=⟨j - i - 1,by omega⟩;rw [show i+1+d - i=d+1 by omega,List.getElem?_cons_succ,List.getElem?_map,List.getElem?_range (by omega)];simp;omega
  ·rw [afz (by simp;omega),if_neg (by simp;omega),afz (by simp;omega)]
 have hlen: ∀l:List Nat,(l.flatMap f).length=l.length*s:=by
  intro l
  induction l with
  | nil=>simp
  | cons a r ih=>rw [List.flatMap_cons,List.length_append,hf,ih,List.length_cons,Nat.add_mul];omega
 rw [h1,List.flatMap_append,List.flatMap_cons];have h2:=hlen (List.range i);rw [List.length_range]at h2;rw [List.drop_append,h2,Nat.sub_self,List.drop_of_length_le (by omega),List.drop_zero,List.nil_append];rw [List.take_append_of_le_length (by rw [hf];exact Nat.le_refl _),List.take_of_length_le (by rw [hf];exact Nat.le_refl _)]
section
variable (ρ:Env)
theorem jw(c:bV)(i:Nat):(c.cells ρ i).length=c.w:=by
 obtain⟨ck,cw,a⟩:=c;cases ck<;>simp [bV.cells,aO,zf,ic,xn,aG]
theorem dh(aF:List bV)(i:Nat):((aF.map (bV.cells ρ)).flatMap fun c=>c i).length=bW aF:=by
 induction aF with
 | nil=>rfl
 | cons c r ih=>simp only [afj,List.flatMap_cons,List.length_append,jw,ih,bW,List.sum_cons,afj]
theorem PO(aF:List bV)(n i:Nat)(h:i<n):
  ((aM ρ n aF).drop (i*bW aF)).take (bW aF)=(aF.map (bV.cells ρ)).flatMap fun c=>c i:=
 DG (bW aF) (fun(i:Nat)=>(aF.map (bV.cells ρ)).flatMap fun(c:Nat→List Value)=>c i) (dh ρ aF) n i h
theorem dj(aF:List bV)(n:Nat):(aM ρ n aF).length=n*bW aF:=by
 unfold aM aQ;have: ∀l:List Nat,(l.flatMap fun i=>(aF.map (bV.cells ρ)).flatMap fun c=>c i).length=l.length*bW aF:=by
  intro l
  induction l with
  | nil=>simp
  | cons a r ih=>rw [List.flatMap_cons,List.length_append,dh,ih,List.length_cons,Nat.add_mul];omega
 rw [this,List.length_range]
theorem toNat_mul(x:Int)(w:Nat):(x*(w:Int)).toNat=x.toNat*w:=by
 rcases Int.le_total 0 x with h | h
 ·obtain⟨m,rfl⟩:=Int.eq_ofNat_of_zero_le h;rw [←Int.natCast_mul,afe,afe]
 ·have h1:x*(w:Int)≤0:=Int.mul_nonpos_of_nonpos_of_nonneg h (by omega);rw [Int.toNat_of_nonpos h1,Int.toNat_of_nonpos h];simp
theorem JJ(e:E):SV.cells ρ (Yj e)=[mU (e.den ρ 0)]:=by
 unfold Yj;split
 ·simp only [SV.cells,E.den,se]
 ·split
  ·rename_i h;subst h;rfl
  ·rfl
 ·rfl
theorem zg{c:bV}{i:E}{x:SV}(h:Bk c i=some x):SV.cells ρ x=c.cells ρ (i.den ρ 0).toNat:=by
 obtain⟨ck,cw,a⟩:=c;unfold Bk at h;cases ck with
 | int k=>
  simp only [bV.cells]at h ⊢;split at h
  ·rename_i hw;simp only [aeX]at h;subst h;simp [SV.cells,aO,al,hw,ei]
  ·simp only [aeX]at h;subst h;simp only [SV.cells,aO];apply bF;intro j _;rw [dP,fN];simp only [E.den];rw [toNat_mul]
 | bool=>
  simp only [bV.cells]at h ⊢;split at h
  ·rename_i hw;simp only [aeX]at h;subst h;simp [SV.cells,zf,hw,ei,wo]
  ·cases h
 | val v=>
  simp only [bV.cells]at h ⊢;split at h
  ·rename_i hw;simp only [aeX]at h;subst h;simp [SV.cells,ic,hw]
  ·cases h
 | ptr=>
  simp only [bV.cells]at h ⊢;split at h
  ·rename_i hw;simp only [aeX]at h;subst h;rw [JJ];simp [xn,hw,ei]
  ·cases h
 | b_=>
  simp only [bV.cells]at h ⊢;split at h
  ·rename_i hw;simp only [aeX]at h;subst h;simp [SV.cells,ic,hw]
  ·cases h
 | str=>
  simp only [bV.cells]at h ⊢;split at h
  ·rename_i hw;simp only [aeX]at h;subst h;rw [DB,xl];simp [ic,hw]
  ·cases h
 | cv=>
  simp only [bV.cells]at h ⊢;split at h
  ·rename_i hw;simp only [aeX]at h;subst h;simp [SV.cells,ic,hw,ei]
  ·cases h
 | Ba l=>
  simp only [bV.cells]at h ⊢;split at h
  ·rename_i k hk;split at h
   ·rename_i n hn;split at h
    ·rename_i hw;simp only [aeX]at h;subst h;have mY:i.den ρ 0=(k:Int):=by
      unfold fe at hk;split at hk
      ·cases hk;rfl
      ·cases hk
     simp [SV.cells,ic,hw,mY,hn]
    ·cases h
   ·cases h
  ·cases h
theorem lh{i:E}: ∀{aF:List bV} {es:List SV},mZ i aF=some es→
  SV.aC ρ es=(aF.map (bV.cells ρ)).flatMap fun c=>c (i.den ρ 0).toNat
 | [],es,h=>by simp [mZ]at h;subst h;rfl
 | c::r,es,h=>by
  unfold mZ at h;split at h
  ·rename_i x xs hx F3;simp only [aeX]at h;subst h;simp only [SV.aC,afj,List.flatMap_cons,zg ρ hx,lh F3]
  ·cases h
theorem dp{i n:E}(h: ∀b∈gN i n,b.prop ρ):0≤i.den ρ 0∧i.den ρ 0<n.den ρ 0:=by
 have key: ∀b:BE,b∈[wq (.lit 0) i,F2 i n]→b.den ρ=true:=by
  intro b hb;by_cases hl:b= .lit true
  ·subst hl;rfl
  ·exact(BE.cc ρ b).2 (h b (by unfold gN;exact afk.2 ⟨hb,by simpa using hl⟩))
 have h1:=key (wq (.lit 0) i) (by simp);have h2:=key (F2 i n) (by simp);rw [gK]at h1;rw [si]at h2;exact⟨of_decide_eq_true h1,of_decide_eq_true h2⟩
end
theorem dq(a:Addr)(m n:Nat):(a.add m).add n=a.add (m+n):=by
 unfold Addr.add;by_cases hm:m=0
 ·subst hm;simp
 ·by_cases hn:n=0
  ·subst hn;simp
  ·simp [hm,hn,Nat.add_assoc]
theorem gO(b o n:Nat):(⟨b,o,none⟩:Addr).add n=⟨b,o+n,none⟩:=by
 unfold Addr.add;split<;>simp_all
section
variable {P:Program} {w:World}
theorem ll{ti:TI}(h:jS P ti)(a:Addr)(xs:List Value)(hl:xs.length=ti.size)
  (hc: ∀(j:Nat) v,xs[j]? =some v→w.cell? (a.add j)=some v) (v:Value)
  (hv:(ti.k.agg=true→v= .agg xs.toArray)∧(ti.k.agg=false→xs=[v])):
  (Instr.loadAt ti.t (.pointer (some a))).run P w= .ok v w:=by
 cases ha:ti.k.agg with
 | true=>
  have h1:=run_loadCells_list (P:=P) w a xs hc;rw [hl]at h1;simp [Instr.loadAt,Instr.sureAddr,loadVar,h.isAgg w,ha,h.sizeOf w,h1,hv.1 ha]
 | false=>
  have hx:=hv.2 ha;subst hx;have:=hc 0 v rfl;simp only [Addr.add,if_true]at this;simp [Instr.loadAt,Instr.sureAddr,loadVar,h.isAgg w,ha,this]
theorem iC{b:Nat}{wr:Bool}{cs:List Value}{S:Nat→Prop}(h:(ax b wr cs).p w S)(c:Nat)(j:Nat)(v:Value)
  (hv:(cs.drop c)[j]? =some v):w.cell? ((⟨b,c,none⟩:Addr).add j)=some v:=by
 rw [gO];rw [List.getElem?_drop]at hv;obtain⟨_,ty,fz,hg,_⟩:=h;rw [cell_of_row w b (c+j) _ ty fz hg];simpa using hv
theorem DH{md:Bool}{t s n:Nat}{v:Value}{cs:List Value}{S:Nat→Prop}(h:(aE md t s v n cs).p w S)(c j:Nat)(u:Value)
  (hu:(cs.drop c)[j]? =some u): ∃a m cp,v= .slice (some a) m cp∧m=n∧w.cell? ((a.add c).add j)=some u:=by
 rw [List.getElem?_drop]at hu;obtain⟨h0,_⟩:=h;cases md with
 | true=>
  simp only [if_true]at h0;have RM:=h0;obtain⟨hl,hr⟩:=h0;rcases hr with⟨_,rfl⟩ | ⟨g,o,cap,cur,rfl,hg,_⟩
  ·have:cs=[]:=aff (by simpa using hl);subst this;simp at hu
  ·refine⟨⟨g,o,none⟩,n,cap,rfl,rfl,?_⟩;rw [dq];exact iX RM _ _ hu
 | false=>
  simp only [Bool.false_eq_true,if_false]at h0;obtain⟨hl,a,m,c',rfl,hm,_,ko,hc⟩:=h0;cases a with
  | none=>
   have hn:=ko rfl;subst hn;have:cs=[]:=aff (by simpa using hl);subst this;simp at hu
  | some ad=>
   refine⟨ad,m,c',rfl,hm,?_⟩;rw [dq];exact(hc ad rfl).2 _ _ hu
theorem m5{md:Bool}{t s n:Nat}{v:Value}{cs:List Value}{S:Nat→Prop}(h:(aE md t s v n cs).p w S)(hn:0<n):
  ∃a cp,v= .slice (some a) n cp:=by
 obtain⟨h0,_⟩:=h;cases md with
 | true=>
  simp only [if_true]at h0;rcases h0.2 with⟨_,h1⟩ | ⟨g,o,cap,cur,rfl,_⟩
  ·omega
  ·exact⟨_,_,rfl⟩
 | false=>
  simp only [Bool.false_eq_true,if_false]at h0;obtain⟨_,a,m,c',rfl,hm,_,ko,_⟩:=h0;subst hm;cases a with
  | none=>have:=ko rfl;omega
  | some ad=>exact⟨_,_,rfl⟩
theorem PQ{md:Bool}{t s n:Nat}{v:Value}{cs:List Value}{S:Nat→Prop}(h:(aE md t s v n cs).p w S):
  ∃a cp,v= .slice a n cp:=by
 obtain⟨h0,_⟩:=h;cases md with
 | true=>
  simp only [if_true]at h0;rcases h0.2 with⟨rfl,rfl⟩ | ⟨g,o,cap,cur,rfl,_⟩
  ·exact⟨_,_,rfl⟩
  ·exact⟨_,_,rfl⟩
 | false=>
  simp only [Bool.false_eq_true,if_false]at h0;obtain⟨_,a,m,c',rfl,rfl,_⟩:=h0;exact⟨_,_,rfl⟩
end
theorem cO{hp:List Ck}{b j:Nat}{ck:Ck}(h:findAt hp b=some (j,ck)):hp[j]? =some ck∧ck.qv b=true:=by
 unfold findAt at h;split at h
 ·rename_i i hi;rw [aeY]at h;obtain⟨c,hc,he⟩:=h;cases he;refine⟨hc,?_⟩;rw [List.findIdx?_eq_some_iff_getElem]at hi;obtain⟨bU,h1,_⟩:=hi;rw [afA bU]at hc;cases hc;exact h1
 ·cases h
theorem cU{hp:List Ck}{v j:Nat}{ck:Ck}(h:dU hp v=some (j,ck)):hp[j]? =some ck∧ck.lO v=true:=by
 unfold dU at h;split at h
 ·rename_i i hi;rw [aeY]at h;obtain⟨c,hc,he⟩:=h;cases he;refine⟨hc,?_⟩;rw [List.findIdx?_eq_some_iff_getElem]at hi;obtain⟨bU,h1,_⟩:=hi;rw [afA bU]at hc;cases hc;exact h1
 ·cases h
theorem PR(s:Nat)(f g:Nat→List Value)(hf: ∀i,(f i).length=s)(_: ∀i,(g i).length=s)(n i c:Nat)(vs:List Value)(hi:i<n)
  (hc:c+vs.length≤s) (eZ: ∀j,j≠i→g j=f j) (he:g i=(f i).take c++vs++(f i).drop (c+vs.length)):
  (List.range n).flatMap g=((List.range n).flatMap f).take (i*s+c)++vs++((List.range n).flatMap f).drop (i*s+c+vs.length):=by
 have h1:List.range n=List.range i++(i::(List.range (n - i - 1)).map (· +(i+1))):=by
  apply List.ext_getElem?;intro j;rw [List.getElem?_append];by_cases hj:j<n
  ·rw [List.getElem?_range hj];by_cases OS:j<i
   ·rw [if_pos (by simpa using OS),List.getElem?_range OS]
   ·rw [if_neg (by simpa using OS),List.length_range];by_cases he:j=i
    ·subst he;simp
    ·obtain⟨d,rfl⟩: ∃d,j=i+1+d:=⟨j - i - 1,by omega⟩;rw [show i+1+d - i=d+1 by omega,List.getElem?_cons_succ,List.getElem?_map,List.getElem?_range (by omega)];simp;omega
  ·rw [afz (by simp;omega),if_neg (by simp;omega),afz (by simp;omega)]
 have hlen: ∀l:List Nat,(l.flatMap f).length=l.length*s:=by
  intro l
  induction l with
  | nil=>simp
  | cons a r ih=>rw [List.flatMap_cons,List.length_append,hf,ih,List.length_cons,Nat.add_mul];omega
 have hA:(List.range i).flatMap g=(List.range i).flatMap f:=by
  rw [List.flatMap_def,List.flatMap_def];congr 1;exact List.map_congr_left fun j hj=>eZ j (by have:=afg.1 hj;omega)
 have hB:((List.range (n - i - 1)).map (· +(i+1))).flatMap g=((List.range (n - i - 1)).map (· +(i+1))).flatMap f:=by
  rw [List.flatMap_def,List.flatMap_def];congr 1;apply List.map_congr_left;intro j hj;simp only [List.mem_map,afg]at hj;obtain⟨x,_,rfl⟩:=hj;exact eZ _ (by omega)
 rw [h1];simp only [List.flatMap_append,List.flatMap_cons,hA,hB,he];have hl:=hlen (List.range i);rw [List.length_range]at hl;generalize (List.range i).flatMap f=A at hl ⊢;generalize ((List.range (n - i - 1)).map (· +(i+1))).flatMap f=B;have hfi:=hf i;generalize f i=R at hfi ⊢;rw [List.take_append,List.take_of_length_le (l:=A) (by omega),hl,show i*s+c - i*s=c by omega,List.take_append_of_le_length (by omega)];rw [List.drop_append,List.drop_of_length_le (l:=A) (by omega),hl,show i*s+c+vs.length - i*s=c+vs.length by omega,List.drop_append_of_le_length (by omega)];simp
section
variable (ρ:Env)
theorem Bl{i:E}{v:SV}{c c':bV}(h:Bm i v c=some c'):
  c'.w=c.w∧v.width=c.w∧∀i':Nat,c'.cells ρ i'=if i'=(i.den ρ 0).toNat then SV.cells ρ v else c.cells ρ i':=by
 obtain⟨ck,cw,a⟩:=c;unfold Bm at h;split at h
 ·rename_i k k' e hk;simp only at hk;subst hk;split at h
  ·rename_i hc;obtain⟨hw,rfl⟩:=hc;simp only at hw;subst hw;simp only [aeX]at h;subst h;refine⟨rfl,rfl,fun i'=>?_⟩;simp only [bV.cells,aO,al,E.den,SV.cells];by_cases hi:i'=(E.den ρ i 0).toNat
   ·simp [hi]
   ·simp [hi]
  ·cases h
 ·rename_i k k' n b hk;simp only at hk;subst hk;split at h
  ·rename_i hc;obtain⟨hw,rfl⟩:=hc;simp only at hw;subst hw;simp only [aeX]at h;subst h;refine⟨rfl,rfl,fun i'=>?_⟩;simp only [bV.cells,aO,SV.cells];by_cases hi:i'=(E.den ρ i 0).toNat
   ·rw [if_pos hi];apply bF;intro j hj;simp only [E.den,fN,toNat_mul,afe];rw [if_pos (by rw [hi];omega),hi];congr 1;omega
   ·rw [if_neg hi];apply bF;intro j hj;simp only [E.den,fN,toNat_mul,afe];rw [if_neg];intro hc;rcases Nat.lt_or_gt_of_ne hi with bU | XA
    ·have:=Nat.mul_le_mul_right cw (Nat.succ_le_of_lt bU);rw [Nat.succ_mul]at this;omega
    ·have:=Nat.mul_le_mul_right cw (Nat.succ_le_of_lt XA);rw [Nat.succ_mul]at this;omega
  ·cases h
 ·rename_i x hk;simp only at hk;subst hk;split at h
  ·rename_i hw;simp only at hw;subst hw;simp only [aeX]at h;subst h;refine⟨rfl,rfl,fun i'=>?_⟩;simp only [bV.cells,zf,E.den,SV.cells,BE.den];by_cases hi:i'=(E.den ρ i 0).toNat
   ·cases x<;>simp [hi]
   ·simp [hi]
  ·cases h
 ·rename_i e hk;simp only at hk;subst hk;split at h
  ·rename_i hw;simp only at hw;subst hw;simp only [aeX]at h;subst h;refine⟨rfl,rfl,fun i'=>?_⟩;simp only [bV.cells,zf,E.den,SV.cells,BE.den];by_cases hi:i'=(E.den ρ i 0).toNat
   ·simp [hi]
   ·simp [hi]
  ·cases h
 ·rename_i b o hk;simp only at hk;subst hk;split at h
  ·rename_i hw;obtain⟨hw,rfl⟩:=hw;simp only at hw;subst hw;simp only [aeX]at h;subst h;refine⟨rfl,rfl,fun i'=>?_⟩;simp only [bV.cells,xn,E.den,SV.cells];by_cases hi:i'=(E.den ρ i 0).toNat
   ·simp [hi,se]
   ·simp [hi]
  ·cases h
 ·rename_i hk;simp only at hk;subst hk;split at h
  ·rename_i hw;simp only at hw;subst hw;simp only [aeX]at h;subst h;refine⟨rfl,rfl,fun i'=>?_⟩;simp only [bV.cells,xn,E.den,SV.cells];by_cases hi:i'=(E.den ρ i 0).toNat
   ·simp [hi,mU]
   ·simp [hi]
  ·cases h
 ·rename_i e hk;simp only at hk;subst hk;split at h
  ·rename_i hw;simp only at hw;subst hw;simp only [aeX]at h;subst h;refine⟨rfl,rfl,fun i'=>?_⟩;simp only [bV.cells,xn,E.den,SV.cells];by_cases hi:i'=(E.den ρ i 0).toNat
   ·simp [hi]
   ·simp [hi]
  ·cases h
 ·rename_i hk;simp only at hk;subst hk;split at h
  ·rename_i hw;simp only at hw;subst hw;simp only [aeX]at h;subst h;refine⟨rfl,rfl,fun i'=>?_⟩;simp only [bV.cells,ic,SV.cells];by_cases hi:i'=(E.den ρ i 0).toNat
   ·simp [hi]
   ·simp [hi]
  ·cases h
 ·rename_i l hk;simp only at hk;subst hk;split at h
  ·rename_i hw;simp only at hw;subst hw;simp only [aeX]at h;subst h;refine⟨rfl,rfl,fun i'=>?_⟩;simp only [bV.cells,ic,SV.cells,iY,iV,k_];by_cases hi:i'=(E.den ρ i 0).toNat
   ·simp [hi,mS]
   ·simp [hi]
  ·cases h
 ·rename_i s hk;simp only at hk;subst hk;split at h
  ·rename_i hw;simp only at hw;subst hw;simp only [aeX]at h;subst h;refine⟨rfl,rfl,fun i'=>?_⟩;simp only [bV.cells,ic,SV.cells,iY,iV];by_cases hi:i'=(E.den ρ i 0).toNat
   ·simp [hi]
   ·simp [hi]
  ·cases h
 ·rename_i e hk;simp only at hk;subst hk;split at h
  ·rename_i hw;simp only at hw;subst hw;simp only [aeX]at h;subst h;refine⟨rfl,rfl,fun i'=>?_⟩;simp only [bV.cells,ic,E.den,SV.cells];by_cases hi:i'=(E.den ρ i 0).toNat
   ·simp [hi,Bf]
   ·simp [hi]
  ·cases h
 ·rename_i hk;simp only at hk;subst hk;split at h
  ·rename_i hw;simp only at hw;subst hw;simp only [aeX]at h;subst h;refine⟨rfl,rfl,fun i'=>?_⟩;simp only [bV.cells,ic,E.den,SV.cells];by_cases hi:i'=(E.den ρ i 0).toNat
   ·simp [hi,Bf]
   ·simp [hi]
  ·cases h
 ·cases h
end
def wu(kl:List IntKind)(ks:List Int):List Value:=(kl.zip ks).map fun x=> .int x.1 x.2
section
variable {ρ:Env}
theorem F4{k1 k2:List IntKind}{a b:List Int}(h:a.length=k1.length):wu (k1++k2) (a++b)=wu k1 a++wu k2 b:=by
 unfold wu;rw [List.zip_append h.symm,List.map_append]
theorem nN(k:IntKind)(n:Nat)(f:Nat→Int):wu (List.replicate n k) ((List.range n).map f)=al k n f:=by
 unfold wu al
 induction n with
 | zero=>rfl
 | succ n ih=>
  rw [List.replicate_succ',List.range_succ,List.map_append,List.zip_append (by simp),List.map_append,ih,List.map_append];simp
theorem rk: ∀{cs:List SV} {o:Nat} {acc:E} {kl:List IntKind} {a:E},uL o acc cs=some (kl,a)→
  (∀j,j<o→a.den ρ j=acc.den ρ j)∧SV.aC ρ cs=wu kl ((List.range kl.length).map fun i=>a.den ρ (o+i))
 | [],o,acc,kl,a,h=>by
  simp [uL]at h;obtain⟨rfl,rfl⟩:=h;exact⟨fun _ _=>rfl,rfl⟩
 | v::r,o,acc,kl,a,h=>by
  cases v with
  | int k e=>
   simp only [uL]at h;split at h
   ·rename_i l a' h1;cases h;obtain⟨i1,i2⟩:=rk h1;have e1: ∀j,(E.r9 acc (.lit o) e).den ρ j=if j=o then e.den ρ 0 else acc.den ρ j:=fun j=>rfl
    refine⟨fun j hj=>?_,?_⟩
    ·rw [i1 j (by omega),e1,if_neg (by omega)]
    ·simp only [SV.aC,SV.cells,i2,List.length_cons];rw [List.range_succ_eq_map,afj,List.map_map];have e0:a.den ρ (o+0)=e.den ρ 0:=by
      rw [i1 (o+0) (by omega),e1,if_pos (by omega)]
     rw [e0];simp only [wu,List.zip_cons_cons,afj,List.singleton_append,ae8,true_and];congr 3;funext i;simp only [Function.comp];congr 1;omega
   ·cases h
  | cE k n b=>
   simp only [uL]at h;split at h
   ·rename_i l a' h1;cases h;obtain⟨i1,i2⟩:=rk h1;have e1: ∀j,(E.tw acc (.lit o) (.lit n) b).den ρ j=if o≤j∧j<o+n then b.den ρ (j - o)else acc.den ρ j:=fun j=>rfl
    refine⟨fun j hj=>?_,?_⟩
    ·rw [i1 j (by omega),e1,if_neg (by omega)]
    ·simp only [SV.aC,SV.cells,i2,List.length_append,List.length_replicate];rw [List.range_add,List.map_append,F4 (by simp),nN,List.map_map];congr 1
     ·apply bF;intro j hj;rw [i1 (o+j) (by omega),e1,if_pos (by omega)];congr 1;omega
     ·congr 2;funext i;simp only [Function.comp];congr 1;omega
   ·cases h
  | _=>simp [uL]at h
theorem gv{cs:List SV}{kl:List IntKind}{a:E}(h:rowOf cs=some (kl,a)):SV.aC ρ cs=wu kl ((List.range kl.length).map (a.den ρ)):=by
 unfold rowOf at h;split at h
 ·cases h;simp only [SV.aC,SV.cells,List.append_nil,List.length_replicate];rw [nN]
 ·cases h;rfl
 ·have:=(rk (ρ:=ρ) h).2;simpa using this
theorem pd: ∀{aF:List bV} {vs Fz:List SV},align aF vs=some Fz→SV.aC ρ Fz=SV.aC ρ vs
 | [],[],Fz,h=>by simp [align]at h;subst h;rfl
 | _::_,[],Fz,h=>by simp [align]at h;subst h;rfl
 | [],v::r,Fz,h=>by simp [align]at h;subst h;rfl
 | c::aF,v::r,Fz,h=>by
  unfold align at h;split at h
  ·rw [aeY]at h;obtain⟨z,hz,rfl⟩:=h;simp only [SV.aC,pd hz]
  ·split at h
   ·rename_i k x rest hk hx xp;split at h
    ·rename_i kl a zh;split at h
     ·rename_i CL;rw [aeY]at h;obtain⟨z,hz,rfl⟩:=h;have h1:=(eK (ρ:=ρ) hx).1;have h2:=dY (ρ:=ρ) _ _ _ xp;have h3:=gv (ρ:=ρ) zh;rw [CL,List.length_replicate,nN]at h3;rw [h3,List.drop_zero]at h1;rw [SV.aC,SV.cells,pd hz,h1,h2,List.take_append_drop]
     ·cases h
    ·cases h
   ·cases h
end
section
variable (ρ:Env)
abbrev rowAt(aF:List bV)(i:Nat):List Value:=(aF.map (bV.cells ρ)).flatMap fun c=>c i
theorem qE{i:E}: ∀{vs:List SV} {aF aZ:List bV},m6 i vs aF=some aZ→
  bW aZ=bW aF∧(SV.aC ρ vs).length≤bW aF∧
   (∀i':Nat,i'≠(i.den ρ 0).toNat→rowAt ρ aZ i'=rowAt ρ aF i')∧
   rowAt ρ aZ (i.den ρ 0).toNat=SV.aC ρ vs++(rowAt ρ aF (i.den ρ 0).toNat).drop (SV.aC ρ vs).length
 | [],aF,aZ,h=>by
  simp [m6]at h;subst h;simp [SV.aC]
 | v::r,[],aZ,h=>by simp [m6]at h
 | v::r,c::aF,aZ,h=>by
  unfold m6 at h;split at h
  ·rename_i c' uM h1 h2;simp only [aeX]at h;subst h;obtain⟨hw,hv,hc⟩:=Bl ρ h1;obtain⟨iw,il,Vg,Vh⟩:=qE h2;have Vi:=sj ρ v;refine⟨?_,?_,?_,?_⟩
   ·simp only [bW,afj,List.sum_cons]at iw ⊢;omega
   ·simp only [SV.aC,List.length_append,bW,afj,List.sum_cons]at il ⊢;omega
   ·intro i' hi;simp only [rowAt,afj,List.flatMap_cons]at Vg ⊢;rw [Vg i' hi,hc i',if_neg hi]
   ·simp only [rowAt,afj,List.flatMap_cons,SV.aC]at Vh ⊢;rw [Vh,hc _,if_pos rfl,List.append_assoc,List.length_append,List.drop_append,jw,List.drop_of_length_le (l:=c.cells ρ _) (by rw [jw];omega),
     List.nil_append,Vi,hv,Nat.add_sub_cancel_left]
  ·cases h
theorem jb{i:E}{vs:List SV}{aF aZ:List bV}(h:kC i vs aF=some aZ):
  bW aZ=bW aF∧(SV.aC ρ vs).length≤bW aF∧
   (∀i':Nat,i'≠(i.den ρ 0).toNat→rowAt ρ aZ i'=rowAt ρ aF i')∧
   rowAt ρ aZ (i.den ρ 0).toNat=SV.aC ρ vs++(rowAt ρ aF (i.den ρ 0).toNat).drop (SV.aC ρ vs).length:=by
 unfold kC at h;split at h
 ·rename_i Fz ha;have:=qE ρ h
  rwa [pd ha]at this
 ·cases h
theorem qF{i:E}{vs:List SV}: ∀{o:Nat} {aF aZ:List bV},m7 i vs o aF=some aZ→
  bW aZ=bW aF∧o+(SV.aC ρ vs).length≤bW aF∧
   (∀i':Nat,i'≠(i.den ρ 0).toNat→rowAt ρ aZ i'=rowAt ρ aF i')∧
   rowAt ρ aZ (i.den ρ 0).toNat=(rowAt ρ aF (i.den ρ 0).toNat).take o++SV.aC ρ vs++(rowAt ρ aF (i.den ρ 0).toNat).drop (o+(SV.aC ρ vs).length)
 | 0,aF,aZ,h=>by
  unfold m7 at h;have:=jb ρ h;simpa using this
 | o+1,[],aZ,h=>by simp [m7]at h
 | o+1,c::r,aZ,h=>by
  unfold m7 at h;split at h
  ·rename_i hle;rw [aeY]at h;obtain⟨r',h1,rfl⟩:=h;obtain⟨iw,il,Vg,Vh⟩:=qF h1;refine⟨?_,?_,?_,?_⟩
   ·simp only [bW,afj,List.sum_cons]at iw ⊢;omega
   ·simp only [bW,afj,List.sum_cons]at il ⊢;omega
   ·intro i' hi;simp only [rowAt,afj,List.flatMap_cons]at Vg ⊢;rw [Vg i' hi]
   ·simp only [rowAt,afj,List.flatMap_cons]at Vh ⊢;rw [Vh,List.take_append,List.drop_append,jw,List.take_of_length_le (l:=c.cells ρ _) (by rw [jw];exact hle),
     List.drop_of_length_le (l:=c.cells ρ _) (by rw [jw];omega),List.nil_append,show o+1+(SV.aC ρ vs).length - c.w=o+1 - c.w+(SV.aC ρ vs).length by omega]
    simp [List.append_assoc]
  ·cases h
end
end Go.RX
