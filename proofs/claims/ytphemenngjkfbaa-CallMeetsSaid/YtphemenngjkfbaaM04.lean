/- Executor. -/
import Derived.Test.YtphemenngjkfbaaM03
open List renaming append_nil → adW, eq_nil_of_length_eq_zero → adZ, getElem?_eq_getElem → ad9, getElem?_eq_none → aeh, map_cons → ad1, mem_filter → ad7, mem_map → aeu, mem_range → adU, range → aec
open Option renaming map_eq_some_iff → adM
open Option.some renaming injEq → adK
namespace Go.RX
theorem DE{α:Type}(s:Nat)(f:Nat→List α)(hf: ∀i,(f i).length=s): ∀(n i:Nat),i<n→
  (((aec n).flatMap f).drop (i*s)).take s=f i:=by
 intro n i hi;have h1:aec n=aec i++(i::(aec (n - i - 1)).map (· +(i+1))):=by
  apply List.ext_getElem?;intro j;rw [List.getElem?_append];by_cases hj:j<n
  ·rw [List.getElem?_range hj];by_cases rY:j<i
   ·rw [if_pos (by simpa using rY),List.getElem?_range rY]
   ·rw [if_neg (by simpa using rY),List.length_range];by_cases he:j=i
    ·subst he;simp
    ·obtain⟨d,rfl⟩: ∃d,j=i+1+d:=⟨j - i - 1,by omega⟩;rw [show i+1+d - i=d+1 by omega,List.getElem?_cons_succ,List.getElem?_map,List.getElem?_range (by omega)];simp;omega
  ·rw [aeh (by simp;omega),if_neg (by simp;omega),aeh (by simp;omega)]
 have hlen: ∀l:List Nat,(l.flatMap f).length=l.length*s:=by
  intro l
  induction l with
  | nil=>simp
  | cons a r ih=>rw [List.flatMap_cons,List.length_append,hf,ih,List.length_cons,Nat.add_mul];omega
 rw [h1,List.flatMap_append,List.flatMap_cons];have h2:=hlen (aec i);rw [List.length_range]at h2;rw [List.drop_append,h2,Nat.sub_self,List.drop_of_length_le (by omega),List.drop_zero,List.nil_append];rw [List.take_append_of_le_length (by rw [hf];exact Nat.le_refl _),List.take_of_length_le (by rw [hf];exact Nat.le_refl _)]
section
variable (ρ:Env)
theorem jL(c:bV)(i:Nat):(c.cells ρ i).length=c.w:=by
 obtain⟨ck,cw,a⟩:=c;cases ck<;>simp [bV.cells,au,ou,dI,xX,aE]
theorem dj(aA:List bV)(i:Nat):((aA.map (bV.cells ρ)).flatMap fun c=>c i).length=bX aA:=by
 induction aA with
 | nil=>rfl
 | cons c r ih=>simp only [ad1,List.flatMap_cons,List.length_append,jL,ih,bX,List.sum_cons,ad1]
theorem Pq(aA:List bV)(n i:Nat)(h:i<n):
  ((aF ρ n aA).drop (i*bX aA)).take (bX aA)=(aA.map (bV.cells ρ)).flatMap fun c=>c i:=
 DE (bX aA) (fun(i:Nat)=>(aA.map (bV.cells ρ)).flatMap fun(c:Nat→List Value)=>c i) (dj ρ aA) n i h
theorem dp(aA:List bV)(n:Nat):(aF ρ n aA).length=n*bX aA:=by
 unfold aF aH;have: ∀l:List Nat,(l.flatMap fun i=>(aA.map (bV.cells ρ)).flatMap fun c=>c i).length=l.length*bX aA:=by
  intro l
  induction l with
  | nil=>simp
  | cons a r ih=>rw [List.flatMap_cons,List.length_append,dj,ih,List.length_cons,Nat.add_mul];omega
 rw [this,List.length_range]
theorem toNat_mul(x:Int)(w:Nat):(x*(w:Int)).toNat=x.toNat*w:=by
 rcases Int.le_total 0 x with h | h
 ·obtain⟨m,rfl⟩:=Int.eq_ofNat_of_zero_le h;rw [←Int.natCast_mul,Int.toNat_natCast,Int.toNat_natCast]
 ·have h1:x*(w:Int)≤0:=Int.mul_nonpos_of_nonpos_of_nonneg h (by omega);rw [Int.toNat_of_nonpos h1,Int.toNat_of_nonpos h];simp
theorem JB(e:E):SV.cells ρ (XT e)=[aC (e.den ρ 0)]:=by
 unfold XT;split
 ·simp only [SV.cells,E.den,fj]
 ·split
  ·rename_i h;subst h;rfl
  ·rfl
 ·rfl
theorem Ab{c:bV}{i:E}{x:SV}(h:BJ c i=some x):SV.cells ρ x=c.cells ρ (i.den ρ 0).toNat:=by
 obtain⟨ck,cw,a⟩:=c;unfold BJ at h;cases ck with
 | int k=>
  simp only [bV.cells]at h ⊢;split at h
  ·rename_i hw;simp only [adK]at h;subst h;simp [SV.cells,au,al,hw,ej]
  ·simp only [adK]at h;subst h;simp only [SV.cells,au];apply cG;intro j _;rw [dQ,fR];simp only [E.den];rw [toNat_mul]
 | bool=>
  simp only [bV.cells]at h ⊢;split at h
  ·rename_i hw;simp only [adK]at h;subst h;simp [SV.cells,ou,hw,ej,wX]
  ·cases h
 | val v=>
  simp only [bV.cells]at h ⊢;split at h
  ·rename_i hw;simp only [adK]at h;subst h;simp [SV.cells,dI,hw]
  ·cases h
 | ptr=>
  simp only [bV.cells]at h ⊢;split at h
  ·rename_i hw;simp only [adK]at h;subst h;rw [JB];simp [xX,hw,ej]
  ·cases h
 | bT=>
  simp only [bV.cells]at h ⊢;split at h
  ·rename_i hw;simp only [adK]at h;subst h;simp [SV.cells,dI,hw]
  ·cases h
 | str=>
  simp only [bV.cells]at h ⊢;split at h
  ·rename_i hw;simp only [adK]at h;subst h;rw [Dy,xU];simp [dI,hw]
  ·cases h
 | cv=>
  simp only [bV.cells]at h ⊢;split at h
  ·rename_i hw;simp only [adK]at h;subst h;simp [SV.cells,dI,hw,ej]
  ·cases h
 | Gk l=>
  simp only [bV.cells]at h ⊢;split at h
  ·rename_i k hk;split at h
   ·rename_i n hn;split at h
    ·rename_i hw;simp only [adK]at h;subst h;have py:i.den ρ 0=(k:Int):=by
      unfold eU at hk;split at hk
      ·cases hk;rfl
      ·cases hk
     simp [SV.cells,dI,hw,py,hn]
    ·cases h
   ·cases h
  ·cases h
 | pt q v=>
  simp only [bV.cells]at h ⊢;split at h
  ·rename_i hw;obtain⟨hw,rfl⟩:=hw;simp only [adK]at h;subst h;simp [SV.cells,dI,hw]
  ·cases h
theorem lK{i:E}: ∀{aA:List bV} {es:List SV},nL i aA=some es→
  SV.ar ρ es=(aA.map (bV.cells ρ)).flatMap fun c=>c (i.den ρ 0).toNat
 | [],es,h=>by simp [nL]at h;subst h;rfl
 | c::r,es,h=>by
  unfold nL at h;split at h
  ·rename_i x xs hx Gi;simp only [adK]at h;subst h;simp only [SV.ar,ad1,List.flatMap_cons,Ab ρ hx,lK Gi]
  ·cases h
theorem dq{i n:E}(h: ∀b∈gS i n,b.prop ρ):0≤i.den ρ 0∧i.den ρ 0<n.den ρ 0:=by
 have key: ∀b:BE,b∈[wF (.lit 0) i,Gh i n]→b.den ρ=true:=by
  intro b hb;by_cases hl:b= .lit true
  ·subst hl;rfl
  ·exact(BE.bY ρ b).2 (h b (by unfold gS;exact ad7.2 ⟨hb,by simpa using hl⟩))
 have h1:=key (wF (.lit 0) i) (by simp);have h2:=key (Gh i n) (by simp);rw [gP]at h1;rw [tb]at h2;exact⟨of_decide_eq_true h1,of_decide_eq_true h2⟩
end
theorem dr(a:Addr)(m n:Nat):(a.add m).add n=a.add (m+n):=by
 unfold Addr.add;by_cases hm:m=0
 ·subst hm;simp
 ·by_cases hn:n=0
  ·subst hn;simp
  ·simp [hm,hn,Nat.add_assoc]
theorem gT(b o n:Nat):(⟨b,o,none⟩:Addr).add n=⟨b,o+n,none⟩:=by
 unfold Addr.add;split<;>simp_all
section
variable {P:Program} {w:World}
theorem lL{ti:TI}(h:kb P ti)(a:Addr)(xs:List Value)(hl:xs.length=ti.size)
  (hc: ∀(j:Nat) v,xs[j]? =some v→w.cell? (a.add j)=some v) (v:Value)
  (hv:(ti.k.agg=true→v= .agg xs.toArray)∧(ti.k.agg=false→xs=[v])):
  (Instr.loadAt ti.t (.pointer (some a))).run P w= .ok v w:=by
 cases ha:ti.k.agg with
 | true=>
  have h1:=run_loadCells_list (P:=P) w a xs hc;rw [hl]at h1;simp [Instr.loadAt,Instr.sureAddr,loadVar,h.isAgg w,ha,h.sizeOf w,h1,hv.1 ha]
 | false=>
  have hx:=hv.2 ha;subst hx;have:=hc 0 v rfl;simp only [Addr.add,if_true]at this;simp [Instr.loadAt,Instr.sureAddr,loadVar,h.isAgg w,ha,this]
theorem iF{b:Nat}{wr:Bool}{cs:List Value}{S:Nat→Prop}(h:(ak b wr cs).p w S)(c:Nat)(j:Nat)(v:Value)
  (hv:(cs.drop c)[j]? =some v):w.cell? ((⟨b,c,none⟩:Addr).add j)=some v:=by
 rw [gT];rw [List.getElem?_drop]at hv;obtain⟨_,ty,fz,hg,_⟩:=h;rw [cell_of_row w b (c+j) _ ty fz hg];simpa using hv
theorem DF{md:Bool}{t s n:Nat}{v:Value}{cs:List Value}{S:Nat→Prop}(h:(aB md t s v n cs).p w S)(c j:Nat)(u:Value)
  (hu:(cs.drop c)[j]? =some u): ∃a m cp,v= .slice (some a) m cp∧m=n∧w.cell? ((a.add c).add j)=some u:=by
 rw [List.getElem?_drop]at hu;obtain⟨h0,_⟩:=h;cases md with
 | true=>
  simp only [if_true]at h0;have Rd:=h0;obtain⟨hl,hr⟩:=h0;rcases hr with⟨_,rfl⟩ | ⟨g,o,cap,cur,rfl,hg,_⟩
  ·have:cs=[]:=adZ (by simpa using hl);subst this;simp at hu
  ·refine⟨⟨g,o,none⟩,n,cap,rfl,rfl,?_⟩;rw [dr];exact i_ Rd _ _ hu
 | false=>
  simp only [Bool.false_eq_true,if_false]at h0;obtain⟨hl,a,m,c',rfl,hm,_,kG,hc⟩:=h0;cases a with
  | none=>
   have hn:=kG rfl;subst hn;have:cs=[]:=adZ (by simpa using hl);subst this;simp at hu
  | some ad=>
   refine⟨ad,m,c',rfl,hm,?_⟩;rw [dr];exact(hc ad rfl).2 _ _ hu
theorem nM{md:Bool}{t s n:Nat}{v:Value}{cs:List Value}{S:Nat→Prop}(h:(aB md t s v n cs).p w S)(hn:0<n):
  ∃a cp,v= .slice (some a) n cp:=by
 obtain⟨h0,_⟩:=h;cases md with
 | true=>
  simp only [if_true]at h0;rcases h0.2 with⟨_,h1⟩ | ⟨g,o,cap,cur,rfl,_⟩
  ·omega
  ·exact⟨_,_,rfl⟩
 | false=>
  simp only [Bool.false_eq_true,if_false]at h0;obtain⟨_,a,m,c',rfl,hm,_,kG,_⟩:=h0;subst hm;cases a with
  | none=>have:=kG rfl;omega
  | some ad=>exact⟨_,_,rfl⟩
theorem Pr{md:Bool}{t s n:Nat}{v:Value}{cs:List Value}{S:Nat→Prop}(h:(aB md t s v n cs).p w S):
  ∃a cp,v= .slice a n cp:=by
 obtain⟨h0,_⟩:=h;cases md with
 | true=>
  simp only [if_true]at h0;rcases h0.2 with⟨rfl,rfl⟩ | ⟨g,o,cap,cur,rfl,_⟩
  ·exact⟨_,_,rfl⟩
  ·exact⟨_,_,rfl⟩
 | false=>
  simp only [Bool.false_eq_true,if_false]at h0;obtain⟨_,a,m,c',rfl,rfl,_⟩:=h0;exact⟨_,_,rfl⟩
end
theorem cP{hp:List Ck}{b j:Nat}{ck:Ck}(h:findAt hp b=some (j,ck)):hp[j]? =some ck∧ck.rh b=true:=by
 unfold findAt at h;split at h
 ·rename_i i hi;rw [adM]at h;obtain⟨c,hc,he⟩:=h;cases he;refine⟨hc,?_⟩;rw [List.findIdx?_eq_some_iff_getElem]at hi;obtain⟨cK,h1,_⟩:=hi;rw [ad9 cK]at hc;cases hc;exact h1
 ·cases h
theorem cX{hp:List Ck}{v j:Nat}{ck:Ck}(h:dN hp v=some (j,ck)):hp[j]? =some ck∧ck.mI v=true:=by
 unfold dN at h;split at h
 ·rename_i i hi;rw [adM]at h;obtain⟨c,hc,he⟩:=h;cases he;refine⟨hc,?_⟩;rw [List.findIdx?_eq_some_iff_getElem]at hi;obtain⟨cK,h1,_⟩:=hi;rw [ad9 cK]at hc;cases hc;exact h1
 ·cases h
theorem Ps(s:Nat)(f g:Nat→List Value)(hf: ∀i,(f i).length=s)(_: ∀i,(g i).length=s)(n i c:Nat)(vs:List Value)(hi:i<n)
  (hc:c+vs.length≤s) (fc: ∀j,j≠i→g j=f j) (he:g i=(f i).take c++vs++(f i).drop (c+vs.length)):
  (aec n).flatMap g=((aec n).flatMap f).take (i*s+c)++vs++((aec n).flatMap f).drop (i*s+c+vs.length):=by
 have h1:aec n=aec i++(i::(aec (n - i - 1)).map (· +(i+1))):=by
  apply List.ext_getElem?;intro j;rw [List.getElem?_append];by_cases hj:j<n
  ·rw [List.getElem?_range hj];by_cases rY:j<i
   ·rw [if_pos (by simpa using rY),List.getElem?_range rY]
   ·rw [if_neg (by simpa using rY),List.length_range];by_cases he:j=i
    ·subst he;simp
    ·obtain⟨d,rfl⟩: ∃d,j=i+1+d:=⟨j - i - 1,by omega⟩;rw [show i+1+d - i=d+1 by omega,List.getElem?_cons_succ,List.getElem?_map,List.getElem?_range (by omega)];simp;omega
  ·rw [aeh (by simp;omega),if_neg (by simp;omega),aeh (by simp;omega)]
 have hlen: ∀l:List Nat,(l.flatMap f).length=l.length*s:=by
  intro l
  induction l with
  | nil=>simp
  | cons a r ih=>rw [List.flatMap_cons,List.length_append,hf,ih,List.length_cons,Nat.add_mul];omega
 have hA:(aec i).flatMap g=(aec i).flatMap f:=by
  rw [List.flatMap_def,List.flatMap_def];congr 1;exact List.map_congr_left fun j hj=>fc j (by have:=adU.1 hj;omega)
 have hB:((aec (n - i - 1)).map (· +(i+1))).flatMap g=((aec (n - i - 1)).map (· +(i+1))).flatMap f:=by
  rw [List.flatMap_def,List.flatMap_def];congr 1;apply List.map_congr_left;intro j hj;simp only [aeu,adU]at hj;obtain⟨x,_,rfl⟩:=hj;exact fc _ (by omega)
 rw [h1];simp only [List.flatMap_append,List.flatMap_cons,hA,hB,he];have hl:=hlen (aec i);rw [List.length_range]at hl;generalize (aec i).flatMap f=A at hl ⊢;generalize ((aec (n - i - 1)).map (· +(i+1))).flatMap f=B;have hfi:=hf i;generalize f i=R at hfi ⊢;rw [List.take_append,List.take_of_length_le (l:=A) (by omega),hl,show i*s+c - i*s=c by omega,List.take_append_of_le_length (by omega)];rw [List.drop_append,List.drop_of_length_le (l:=A) (by omega),hl,show i*s+c+vs.length - i*s=c+vs.length by omega,List.drop_append_of_le_length (by omega)];simp
section
variable (ρ:Env)
theorem BK{i:E}{v:SV}{c c':bV}(h:BL i v c=some c'):
  c'.w=c.w∧v.width=c.w∧∀i':Nat,c'.cells ρ i'=if i'=(i.den ρ 0).toNat then SV.cells ρ v else c.cells ρ i':=by
 obtain⟨ck,cw,a⟩:=c;unfold BL at h;split at h
 ·rename_i k k' e hk;simp only at hk;subst hk;split at h
  ·rename_i hc;obtain⟨hw,rfl⟩:=hc;simp only at hw;subst hw;simp only [adK]at h;subst h;refine⟨rfl,rfl,fun i'=>?_⟩;simp only [bV.cells,au,al,E.den,SV.cells];by_cases hi:i'=(E.den ρ i 0).toNat
   ·simp [hi]
   ·simp [hi]
  ·cases h
 ·rename_i k k' n b hk;simp only at hk;subst hk;split at h
  ·rename_i hc;obtain⟨hw,rfl⟩:=hc;simp only at hw;subst hw;simp only [adK]at h;subst h;refine⟨rfl,rfl,fun i'=>?_⟩;simp only [bV.cells,au,SV.cells];by_cases hi:i'=(E.den ρ i 0).toNat
   ·rw [if_pos hi];apply cG;intro j hj;simp only [E.den,fR,toNat_mul,Int.toNat_natCast];rw [if_pos (by rw [hi];omega),hi];congr 1;omega
   ·rw [if_neg hi];apply cG;intro j hj;simp only [E.den,fR,toNat_mul,Int.toNat_natCast];rw [if_neg];intro hc;rcases Nat.lt_or_gt_of_ne hi with cK | XS
    ·have:=Nat.mul_le_mul_right cw (Nat.succ_le_of_lt cK);rw [Nat.succ_mul]at this;omega
    ·have:=Nat.mul_le_mul_right cw (Nat.succ_le_of_lt XS);rw [Nat.succ_mul]at this;omega
  ·cases h
 ·rename_i x hk;simp only at hk;subst hk;split at h
  ·rename_i hw;simp only at hw;subst hw;simp only [adK]at h;subst h;refine⟨rfl,rfl,fun i'=>?_⟩;simp only [bV.cells,ou,E.den,SV.cells,BE.den];by_cases hi:i'=(E.den ρ i 0).toNat
   ·cases x<;>simp [hi]
   ·simp [hi]
  ·cases h
 ·rename_i e hk;simp only at hk;subst hk;split at h
  ·rename_i hw;simp only at hw;subst hw;simp only [adK]at h;subst h;refine⟨rfl,rfl,fun i'=>?_⟩;simp only [bV.cells,ou,E.den,SV.cells,BE.den];by_cases hi:i'=(E.den ρ i 0).toNat
   ·simp [hi]
   ·simp [hi]
  ·cases h
 ·rename_i b o hk;simp only at hk;subst hk;split at h
  ·rename_i hw;obtain⟨hw,rfl⟩:=hw;simp only at hw;subst hw;simp only [adK]at h;subst h;refine⟨rfl,rfl,fun i'=>?_⟩;simp only [bV.cells,xX,E.den,SV.cells];by_cases hi:i'=(E.den ρ i 0).toNat
   ·simp [hi,fj]
   ·simp [hi]
  ·cases h
 ·rename_i hk;simp only at hk;subst hk;split at h
  ·rename_i hw;simp only at hw;subst hw;simp only [adK]at h;subst h;refine⟨rfl,rfl,fun i'=>?_⟩;simp only [bV.cells,xX,E.den,SV.cells];by_cases hi:i'=(E.den ρ i 0).toNat
   ·simp [hi,aC]
   ·simp [hi]
  ·cases h
 ·rename_i e hk;simp only at hk;subst hk;split at h
  ·rename_i hw;simp only at hw;subst hw;simp only [adK]at h;subst h;refine⟨rfl,rfl,fun i'=>?_⟩;simp only [bV.cells,xX,E.den,SV.cells];by_cases hi:i'=(E.den ρ i 0).toNat
   ·simp [hi]
   ·simp [hi]
  ·cases h
 ·rename_i hk;simp only at hk;subst hk;split at h
  ·rename_i hw;simp only at hw;subst hw;simp only [adK]at h;subst h;refine⟨rfl,rfl,fun i'=>?_⟩;simp only [bV.cells,dI,SV.cells];by_cases hi:i'=(E.den ρ i 0).toNat
   ·simp [hi]
   ·simp [hi]
  ·cases h
 ·rename_i l hk;simp only at hk;subst hk;split at h
  ·rename_i hw;simp only at hw;subst hw;simp only [adK]at h;subst h;refine⟨rfl,rfl,fun i'=>?_⟩;simp only [bV.cells,dI,SV.cells,jb,iY,lH];by_cases hi:i'=(E.den ρ i 0).toNat
   ·simp [hi,nF]
   ·simp [hi]
  ·cases h
 ·rename_i s hk;simp only at hk;subst hk;split at h
  ·rename_i hw;simp only at hw;subst hw;simp only [adK]at h;subst h;refine⟨rfl,rfl,fun i'=>?_⟩;simp only [bV.cells,dI,SV.cells,jb,iY];by_cases hi:i'=(E.den ρ i 0).toNat
   ·simp [hi]
   ·simp [hi]
  ·cases h
 ·rename_i e hk;simp only at hk;subst hk;split at h
  ·rename_i hw;simp only at hw;subst hw;simp only [adK]at h;subst h;refine⟨rfl,rfl,fun i'=>?_⟩;simp only [bV.cells,dI,E.den,SV.cells];by_cases hi:i'=(E.den ρ i 0).toNat
   ·simp [hi,kQ]
   ·simp [hi]
  ·cases h
 ·rename_i hk;simp only at hk;subst hk;split at h
  ·rename_i hw;simp only at hw;subst hw;simp only [adK]at h;subst h;refine⟨rfl,rfl,fun i'=>?_⟩;simp only [bV.cells,dI,E.den,SV.cells];by_cases hi:i'=(E.den ρ i 0).toNat
   ·simp [hi,kQ]
   ·simp [hi]
  ·cases h
 ·rename_i q _ u hk;simp only at hk;subst hk;split at h
  ·rename_i hw;obtain⟨hw,rfl⟩:=hw;simp only at hw;subst hw;simp only [adK]at h;subst h;refine⟨rfl,rfl,fun i'=>?_⟩;simp only [bV.cells,dI,SV.cells];by_cases hi:i'=(E.den ρ q 0).toNat
   ·simp [hi]
   ·simp [hi]
  ·cases h
 ·cases h
end
def wY(kl:List IntKind)(ks:List Int):List Value:=(kl.zip ks).map fun x=> .int x.1 x.2
section
variable {ρ:Env}
theorem Gl{k1 k2:List IntKind}{a b:List Int}(h:a.length=k1.length):wY (k1++k2) (a++b)=wY k1 a++wY k2 b:=by
 unfold wY;rw [List.zip_append h.symm,List.map_append]
theorem ov(k:IntKind)(n:Nat)(f:Nat→Int):wY (List.replicate n k) ((aec n).map f)=al k n f:=by
 unfold wY al
 induction n with
 | zero=>rfl
 | succ n ih=>
  rw [List.replicate_succ',List.range_succ,List.map_append,List.zip_append (by simp),List.map_append,ih,List.map_append];simp
theorem rZ: ∀{cs:List SV} {o:Nat} {acc:E} {kl:List IntKind} {a:E},vG o acc cs=some (kl,a)→
  (∀j,j<o→a.den ρ j=acc.den ρ j)∧SV.ar ρ cs=wY kl ((aec kl.length).map fun i=>a.den ρ (o+i))
 | [],o,acc,kl,a,h=>by
  simp [vG]at h;obtain⟨rfl,rfl⟩:=h;exact⟨fun _ _=>rfl,rfl⟩
 | v::r,o,acc,kl,a,h=>by
  cases v with
  | int k e=>
   simp only [vG]at h;split at h
   ·rename_i l a' h1;cases h;obtain⟨i1,i2⟩:=rZ h1;have e1: ∀j,(E.cV acc (.lit o) e).den ρ j=if j=o then e.den ρ 0 else acc.den ρ j:=fun j=>rfl
    refine⟨fun j hj=>?_,?_⟩
    ·rw [i1 j (by omega),e1,if_neg (by omega)]
    ·simp only [SV.ar,SV.cells,i2,List.length_cons];rw [List.range_succ_eq_map,ad1,List.map_map];have e0:a.den ρ (o+0)=e.den ρ 0:=by
      rw [i1 (o+0) (by omega),e1,if_pos (by omega)]
     rw [e0];simp only [wY,List.zip_cons_cons,ad1,List.singleton_append,List.cons.injEq,true_and];congr 3;funext i;simp only [Function.comp];congr 1;omega
   ·cases h
  | aX k n b=>
   simp only [vG]at h;split at h
   ·rename_i l a' h1;cases h;obtain⟨i1,i2⟩:=rZ h1;have e1: ∀j,(E.BD acc (.lit o) (.lit n) b).den ρ j=if o≤j∧j<o+n then b.den ρ (j - o)else acc.den ρ j:=fun j=>rfl
    refine⟨fun j hj=>?_,?_⟩
    ·rw [i1 j (by omega),e1,if_neg (by omega)]
    ·simp only [SV.ar,SV.cells,i2,List.length_append,List.length_replicate];rw [List.range_add,List.map_append,Gl (by simp),ov,List.map_map];congr 1
     ·apply cG;intro j hj;rw [i1 (o+j) (by omega),e1,if_pos (by omega)];congr 1;omega
     ·congr 2;funext i;simp only [Function.comp];congr 1;omega
   ·cases h
  | _=>simp [vG]at h
theorem gy{cs:List SV}{kl:List IntKind}{a:E}(h:rowOf cs=some (kl,a)):SV.ar ρ cs=wY kl ((aec kl.length).map (a.den ρ)):=by
 unfold rowOf at h;split at h
 ·cases h;simp only [SV.ar,SV.cells,adW,List.length_replicate];rw [ov]
 ·cases h;rfl
 ·have:=(rZ (ρ:=ρ) h).2;simpa using this
theorem pO: ∀{aA:List bV} {vs FJ:List SV},align aA vs=some FJ→SV.ar ρ FJ=SV.ar ρ vs
 | [],[],FJ,h=>by simp [align]at h;subst h;rfl
 | _::_,[],FJ,h=>by simp [align]at h;subst h;rfl
 | [],v::r,FJ,h=>by simp [align]at h;subst h;rfl
 | c::aA,v::r,FJ,h=>by
  unfold align at h;split at h
  ·rw [adM]at h;obtain⟨z,hz,rfl⟩:=h;simp only [SV.ar,pO hz]
  ·split at h
   ·rename_i k x rest hk hx xY;split at h
    ·rename_i kl a DG;split at h
     ·rename_i O6;rw [adM]at h;obtain⟨z,hz,rfl⟩:=h;have h1:=(eF (ρ:=ρ) hx).1;have h2:=dY (ρ:=ρ) _ _ _ xY;have h3:=gy (ρ:=ρ) DG;rw [O6,List.length_replicate,ov]at h3;rw [h3,List.drop_zero]at h1;rw [SV.ar,SV.cells,pO hz,h1,h2,List.take_append_drop]
     ·cases h
    ·cases h
   ·cases h
end
section
variable (ρ:Env)
abbrev rowAt(aA:List bV)(i:Nat):List Value:=(aA.map (bV.cells ρ)).flatMap fun c=>c i
theorem rz{i:E}: ∀{vs:List SV} {aA aR:List bV},nN i vs aA=some aR→
  bX aR=bX aA∧(SV.ar ρ vs).length≤bX aA∧
   (∀i':Nat,i'≠(i.den ρ 0).toNat→rowAt ρ aR i'=rowAt ρ aA i')∧
   rowAt ρ aR (i.den ρ 0).toNat=SV.ar ρ vs++(rowAt ρ aA (i.den ρ 0).toNat).drop (SV.ar ρ vs).length
 | [],aA,aR,h=>by
  simp [nN]at h;subst h;simp [SV.ar]
 | v::r,[],aR,h=>by simp [nN]at h
 | v::r,c::aA,aR,h=>by
  unfold nN at h;split at h
  ·rename_i c' uC h1 h2;simp only [adK]at h;subst h;obtain⟨hw,hv,hc⟩:=BK ρ h1;obtain⟨iw,il,Uy,Uz⟩:=rz h2;have UA:=tc ρ v;refine⟨?_,?_,?_,?_⟩
   ·simp only [bX,ad1,List.sum_cons]at iw ⊢;omega
   ·simp only [SV.ar,List.length_append,bX,ad1,List.sum_cons]at il ⊢;omega
   ·intro i' hi;simp only [rowAt,ad1,List.flatMap_cons]at Uy ⊢;rw [Uy i' hi,hc i',if_neg hi]
   ·simp only [rowAt,ad1,List.flatMap_cons,SV.ar]at Uz ⊢;rw [Uz,hc _,if_pos rfl,List.append_assoc,List.length_append,List.drop_append,jL,List.drop_of_length_le (l:=c.cells ρ _) (by rw [jL];omega),
     List.nil_append,UA,hv,Nat.add_sub_cancel_left]
  ·cases h
theorem jd{i:E}{vs:List SV}{aA aR:List bV}(h:kR i vs aA=some aR):
  bX aR=bX aA∧(SV.ar ρ vs).length≤bX aA∧
   (∀i':Nat,i'≠(i.den ρ 0).toNat→rowAt ρ aR i'=rowAt ρ aA i')∧
   rowAt ρ aR (i.den ρ 0).toNat=SV.ar ρ vs++(rowAt ρ aA (i.den ρ 0).toNat).drop (SV.ar ρ vs).length:=by
 unfold kR at h;split at h
 ·rename_i FJ ha;have:=rz ρ h
  rwa [pO ha]at this
 ·cases h
theorem rA{i:E}{vs:List SV}: ∀{o:Nat} {aA aR:List bV},nO i vs o aA=some aR→
  bX aR=bX aA∧o+(SV.ar ρ vs).length≤bX aA∧
   (∀i':Nat,i'≠(i.den ρ 0).toNat→rowAt ρ aR i'=rowAt ρ aA i')∧
   rowAt ρ aR (i.den ρ 0).toNat=(rowAt ρ aA (i.den ρ 0).toNat).take o++SV.ar ρ vs++(rowAt ρ aA (i.den ρ 0).toNat).drop (o+(SV.ar ρ vs).length)
 | 0,aA,aR,h=>by
  unfold nO at h;have:=jd ρ h;simpa using this
 | o+1,[],aR,h=>by simp [nO]at h
 | o+1,c::r,aR,h=>by
  unfold nO at h;split at h
  ·rename_i hle;rw [adM]at h;obtain⟨r',h1,rfl⟩:=h;obtain⟨iw,il,Uy,Uz⟩:=rA h1;refine⟨?_,?_,?_,?_⟩
   ·simp only [bX,ad1,List.sum_cons]at iw ⊢;omega
   ·simp only [bX,ad1,List.sum_cons]at il ⊢;omega
   ·intro i' hi;simp only [rowAt,ad1,List.flatMap_cons]at Uy ⊢;rw [Uy i' hi]
   ·simp only [rowAt,ad1,List.flatMap_cons]at Uz ⊢;rw [Uz,List.take_append,List.drop_append,jL,List.take_of_length_le (l:=c.cells ρ _) (by rw [jL];exact hle),
     List.drop_of_length_le (l:=c.cells ρ _) (by rw [jL];omega),List.nil_append,show o+1+(SV.ar ρ vs).length - c.w=o+1 - c.w+(SV.ar ρ vs).length by omega]
    simp [List.append_assoc]
  ·cases h
end
end Go.RX
