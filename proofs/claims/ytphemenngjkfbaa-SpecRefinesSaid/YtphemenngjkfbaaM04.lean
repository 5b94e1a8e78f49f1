/- Executor. -/
import Derived.Test.YtphemenngjkfbaaM03
open List renaming append_assoc → ahf, append_nil → agL, eq_nil_of_length_eq_zero → agU, getElem?_eq_getElem → ag6, getElem?_eq_none → ag7, map_congr_left → ag4, map_cons → agW, mem_filter → agP, mem_map → ag9, mem_range → agJ, range → ag5
open List.cons renaming injEq → agO
open Option renaming map_eq_some_iff → agz
open Option.some renaming injEq → agy
namespace Go.RX
theorem FU{α:Type}(s:Nat)(f:Nat→List α)(hf: ∀i,(f i).length=s): ∀(n i:Nat),i<n→
  (((ag5 n).flatMap f).drop (i*s)).take s=f i:=by
 intro n i hi;have h1:ag5 n=ag5 i++(i::(ag5 (n - i - 1)).map (· +(i+1))):=by
  apply List.ext_getElem?;intro j;rw [List.getElem?_append];by_cases hj:j<n
  ·rw [List.getElem?_range hj];by_cases sM:j<i
   ·rw [if_pos (by simpa using sM),List.getElem?_range sM]
   ·rw [if_neg (by simpa using sM),List.length_range];by_cases he:j=i
    ·subst he;simp
    ·obtain⟨d,rfl⟩: ∃d,j=i+1+d:=⟨j - i - 1,by omega⟩;rw [show i+1+d - i=d+1 by omega,List.getElem?_cons_succ,List.getElem?_map,List.getElem?_range (by omega)];simp;omega
  ·rw [ag7 (by simp;omega),if_neg (by simp;omega),ag7 (by simp;omega)]
 have hlen: ∀l:List Nat,(l.flatMap f).length=l.length*s:=by
  intro l
  induction l with
  | nil=>simp
  | cons a r ih=>rw [List.flatMap_cons,List.length_append,hf,ih,List.length_cons,Nat.add_mul];omega
 rw [h1,List.flatMap_append,List.flatMap_cons];have h2:=hlen (ag5 i);rw [List.length_range]at h2;rw [List.drop_append,h2,Nat.sub_self,List.drop_of_length_le (by omega),List.drop_zero,List.nil_append];rw [List.take_append_of_le_length (by rw [hf];exact Nat.le_refl _),List.take_of_length_le (by rw [hf];exact Nat.le_refl _)]
section
variable (ρ:Env)
theorem kT(c:cb)(i:Nat):(c.cells ρ i).length=c.w:=by
 obtain⟨ck,cw,a⟩:=c;cases ck<;>simp [cb.cells,ax,oh,dC,pJ,aH]
theorem dH(aA:List cb)(i:Nat):((aA.map (cb.cells ρ)).flatMap fun c=>c i).length=cn aA:=by
 induction aA with
 | nil=>rfl
 | cons c r ih=>simp only [agW,List.flatMap_cons,List.length_append,kT,ih,cn,List.sum_cons,agW]
theorem RM(aA:List cb)(n i:Nat)(h:i<n):
  ((aI ρ n aA).drop (i*cn aA)).take (cn aA)=(aA.map (cb.cells ρ)).flatMap fun c=>c i:=
 FU (cn aA) (fun(i:Nat)=>(aA.map (cb.cells ρ)).flatMap fun(c:Nat→List Value)=>c i) (dH ρ aA) n i h
theorem dI(aA:List cb)(n:Nat):(aI ρ n aA).length=n*cn aA:=by
 unfold aI aT;have: ∀l:List Nat,(l.flatMap fun i=>(aA.map (cb.cells ρ)).flatMap fun c=>c i).length=l.length*cn aA:=by
  intro l
  induction l with
  | nil=>simp
  | cons a r ih=>rw [List.flatMap_cons,List.length_append,dH,ih,List.length_cons,Nat.add_mul];omega
 rw [this,List.length_range]
theorem toNat_mul(x:Int)(w:Nat):(x*(w:Int)).toNat=x.toNat*w:=by
 rcases Int.le_total 0 x with h | h
 ·obtain⟨m,rfl⟩:=Int.eq_ofNat_of_zero_le h;rw [←Int.natCast_mul,Int.toNat_natCast,Int.toNat_natCast]
 ·have h1:x*(w:Int)≤0:=Int.mul_nonpos_of_nonpos_of_nonneg h (by omega);rw [Int.toNat_of_nonpos h1,Int.toNat_of_nonpos h];simp
theorem LQ(e:E):SV.cells ρ (mkP e)=[aD (e.den ρ 0)]:=by
 unfold mkP;split
 ·simp only [SV.cells,E.den,fK]
 ·split
  ·rename_i h;subst h;rfl
  ·rfl
 ·rfl
theorem B7{c:cb}{i:E}{x:SV}(h:El c i=some x):SV.cells ρ x=c.cells ρ (i.den ρ 0).toNat:=by
 obtain⟨ck,cw,a⟩:=c;unfold El at h;cases ck with
 | int k=>
  simp only [cb.cells]at h ⊢;split at h
  ·rename_i hw;simp only [agy]at h;subst h;simp [SV.cells,ax,ak,hw,eO]
  ·simp only [agy]at h;subst h;simp only [SV.cells,ax];apply cT;intro j _;rw [eB,gv];simp only [E.den];rw [toNat_mul]
 | bool=>
  simp only [cb.cells]at h ⊢;split at h
  ·rename_i hw;simp only [agy]at h;subst h;simp [SV.cells,oh,hw,eO,za]
  ·cases h
 | val v=>
  simp only [cb.cells]at h ⊢;split at h
  ·rename_i hw;simp only [agy]at h;subst h;simp [SV.cells,dC,hw]
  ·cases h
 | ptr=>
  simp only [cb.cells]at h ⊢;split at h
  ·rename_i hw;simp only [agy]at h;subst h;rw [LQ];simp [pJ,hw,eO]
  ·cases h
 | bY=>
  simp only [cb.cells]at h ⊢;split at h
  ·rename_i hw;simp only [agy]at h;subst h;simp [SV.cells,dC,hw]
  ·cases h
 | str=>
  simp only [cb.cells]at h ⊢;split at h
  ·rename_i hw;simp only [agy]at h;subst h;rw [FN,zT];simp [dC,hw]
  ·cases h
 | cv=>
  simp only [cb.cells]at h ⊢;split at h
  ·rename_i hw;simp only [agy]at h;subst h;simp [SV.cells,dC,hw,eO]
  ·cases h
 | Ii l=>
  simp only [cb.cells]at h ⊢;split at h
  ·rename_i k hk;split at h
   ·rename_i n hn;split at h
    ·rename_i hw;simp only [agy]at h;subst h;have jK:i.den ρ 0=(k:Int):=by
      unfold fw at hk;split at hk
      ·cases hk;rfl
      ·cases hk
     simp [SV.cells,dC,hw,jK,hn]
    ·cases h
   ·cases h
  ·cases h
 | pt q v=>
  simp only [cb.cells]at h ⊢;split at h
  ·rename_i hw;obtain⟨hw,rfl⟩:=hw;simp only [agy]at h;subst h;simp [SV.cells,dC,hw]
  ·cases h
theorem m5{i:E}: ∀{aA:List cb} {es:List SV},oZ i aA=some es→
  SV.ar ρ es=(aA.map (cb.cells ρ)).flatMap fun c=>c (i.den ρ 0).toNat
 | [],es,h=>by simp [oZ]at h;subst h;rfl
 | c::r,es,h=>by
  unfold oZ at h;split at h
  ·rename_i x xs hx Ig;simp only [agy]at h;subst h;simp only [SV.ar,agW,List.flatMap_cons,B7 ρ hx,m5 Ig]
  ·cases h
theorem dJ{i n:E}(h: ∀b∈inRange i n,b.prop ρ):0≤i.den ρ 0∧i.den ρ 0<n.den ρ 0:=by
 have key: ∀b:BE,b∈[yM (.lit 0) i,Ie i n]→b.den ρ=true:=by
  intro b hb;by_cases hl:b= .lit true
  ·subst hl;rfl
  ·exact(BE.cq ρ b).2 (h b (by unfold inRange;exact agP.2 ⟨hb,by simpa using hl⟩))
 have h1:=key (yM (.lit 0) i) (by simp);have h2:=key (Ie i n) (by simp);rw [iy]at h1;rw [uV]at h2;exact⟨of_decide_eq_true h1,of_decide_eq_true h2⟩
end
theorem dK(a:Addr)(m n:Nat):(a.add m).add n=a.add (m+n):=by
 unfold Addr.add;by_cases hm:m=0
 ·subst hm;simp
 ·by_cases hn:n=0
  ·subst hn;simp
  ·simp [hm,hn,Nat.add_assoc]
theorem iB(b o n:Nat):(⟨b,o,none⟩:Addr).add n=⟨b,o+n,none⟩:=by
 unfold Addr.add;split<;>simp_all
section
variable {P:Program} {w:World}
theorem m6{ti:TI}(h:lF P ti)(a:Addr)(xs:List Value)(hl:xs.length=ti.size)
  (hc: ∀(j:Nat) v,xs[j]? =some v→w.cell? (a.add j)=some v) (v:Value)
  (hv:(ti.k.agg=true→v= .agg xs.toArray)∧(ti.k.agg=false→xs=[v])):
  (Instr.loadAt ti.t (.pointer (some a))).run P w= .ok v w:=by
 cases ha:ti.k.agg with
 | true=>
  have h1:=run_loadCells_list (P:=P) w a xs hc;rw [hl]at h1;simp [Instr.loadAt,Instr.sureAddr,loadVar,h.isAgg w,ha,h.sizeOf w,h1,hv.1 ha]
 | false=>
  have hx:=hv.2 ha;subst hx;have:=hc 0 v rfl;simp only [Addr.add,if_true]at this;simp [Instr.loadAt,Instr.sureAddr,loadVar,h.isAgg w,ha,this]
theorem jk{b:Nat}{wr:Bool}{cs:List Value}{S:Nat→Prop}(h:(ao b wr cs).p w S)(c:Nat)(j:Nat)(v:Value)
  (hv:(cs.drop c)[j]? =some v):w.cell? ((⟨b,c,none⟩:Addr).add j)=some v:=by
 rw [iB];rw [List.getElem?_drop]at hv;obtain⟨_,ty,fz,hg,_⟩:=h;rw [cell_of_row w b (c+j) _ ty fz hg];simpa using hv
theorem FV{md:Bool}{t s n:Nat}{v:Value}{cs:List Value}{S:Nat→Prop}(h:(aC md t s v n cs).p w S)(c j:Nat)(u:Value)
  (hu:(cs.drop c)[j]? =some u): ∃a m cp,v= .slice (some a) m cp∧m=n∧w.cell? ((a.add c).add j)=some u:=by
 rw [List.getElem?_drop]at hu;obtain⟨h0,_⟩:=h;cases md with
 | true=>
  simp only [if_true]at h0;have TR:=h0;obtain⟨hl,hr⟩:=h0;rcases hr with⟨_,rfl⟩ | ⟨g,o,cap,cur,rfl,hg,_⟩
  ·have:cs=[]:=agU (by simpa using hl);subst this;simp at hu
  ·refine⟨⟨g,o,none⟩,n,cap,rfl,rfl,?_⟩;rw [dK];exact jQ TR _ _ hu
 | false=>
  simp only [Bool.false_eq_true,if_false]at h0;obtain⟨hl,a,m,c',rfl,hm,_,l7,hc⟩:=h0;cases a with
  | none=>
   have hn:=l7 rfl;subst hn;have:cs=[]:=agU (by simpa using hl);subst this;simp at hu
  | some ad=>
   refine⟨ad,m,c',rfl,hm,?_⟩;rw [dK];exact(hc ad rfl).2 _ _ hu
theorem o0{md:Bool}{t s n:Nat}{v:Value}{cs:List Value}{S:Nat→Prop}(h:(aC md t s v n cs).p w S)(hn:0<n):
  ∃a cp,v= .slice (some a) n cp:=by
 obtain⟨h0,_⟩:=h;cases md with
 | true=>
  simp only [if_true]at h0;rcases h0.2 with⟨_,h1⟩ | ⟨g,o,cap,cur,rfl,_⟩
  ·omega
  ·exact⟨_,_,rfl⟩
 | false=>
  simp only [Bool.false_eq_true,if_false]at h0;obtain⟨_,a,m,c',rfl,hm,_,l7,_⟩:=h0;subst hm;cases a with
  | none=>have:=l7 rfl;omega
  | some ad=>exact⟨_,_,rfl⟩
theorem RN{md:Bool}{t s n:Nat}{v:Value}{cs:List Value}{S:Nat→Prop}(h:(aC md t s v n cs).p w S):
  ∃a cp,v= .slice a n cp:=by
 obtain⟨h0,_⟩:=h;cases md with
 | true=>
  simp only [if_true]at h0;rcases h0.2 with⟨rfl,rfl⟩ | ⟨g,o,cap,cur,rfl,_⟩
  ·exact⟨_,_,rfl⟩
  ·exact⟨_,_,rfl⟩
 | false=>
  simp only [Bool.false_eq_true,if_false]at h0;obtain⟨_,a,m,c',rfl,rfl,_⟩:=h0;exact⟨_,_,rfl⟩
end
theorem c_{hp:List Ck}{b j:Nat}{ck:Ck}(h:findAt hp b=some (j,ck)):hp[j]? =some ck∧ck.sN b=true:=by
 unfold findAt at h;split at h
 ·rename_i i hi;rw [agz]at h;obtain⟨c,hc,he⟩:=h;cases he;refine⟨hc,?_⟩;rw [List.findIdx?_eq_some_iff_getElem]at hi;obtain⟨cZ,h1,_⟩:=hi;rw [ag6 cZ]at hc;cases hc;exact h1
 ·cases h
theorem dr{hp:List Ck}{v j:Nat}{ck:Ck}(h:ef hp v=some (j,ck)):hp[j]? =some ck∧ck.nP v=true:=by
 unfold ef at h;split at h
 ·rename_i i hi;rw [agz]at h;obtain⟨c,hc,he⟩:=h;cases he;refine⟨hc,?_⟩;rw [List.findIdx?_eq_some_iff_getElem]at hi;obtain⟨cZ,h1,_⟩:=hi;rw [ag6 cZ]at hc;cases hc;exact h1
 ·cases h
theorem RO(s:Nat)(f g:Nat→List Value)(hf: ∀i,(f i).length=s)(_: ∀i,(g i).length=s)(n i c:Nat)(vs:List Value)(hi:i<n)
  (hc:c+vs.length≤s) (eJ: ∀j,j≠i→g j=f j) (he:g i=(f i).take c++vs++(f i).drop (c+vs.length)):
  (ag5 n).flatMap g=((ag5 n).flatMap f).take (i*s+c)++vs++((ag5 n).flatMap f).drop (i*s+c+vs.length):=by
 have h1:ag5 n=ag5 i++(i::(ag5 (n - i - 1)).map (· +(i+1))):=by
  apply List.ext_getElem?;intro j;rw [List.getElem?_append];by_cases hj:j<n
  ·rw [List.getElem?_range hj];by_cases sM:j<i
   ·rw [if_pos (by simpa using sM),List.getElem?_range sM]
   ·rw [if_neg (by simpa using sM),List.length_range];by_cases he:j=i
    ·subst he;simp
    ·obtain⟨d,rfl⟩: ∃d,j=i+1+d:=⟨j - i - 1,by omega⟩;rw [show i+1+d - i=d+1 by omega,List.getElem?_cons_succ,List.getElem?_map,List.getElem?_range (by omega)];simp;omega
  ·rw [ag7 (by simp;omega),if_neg (by simp;omega),ag7 (by simp;omega)]
 have hlen: ∀l:List Nat,(l.flatMap f).length=l.length*s:=by
  intro l
  induction l with
  | nil=>simp
  | cons a r ih=>rw [List.flatMap_cons,List.length_append,hf,ih,List.length_cons,Nat.add_mul];omega
 have hA:(ag5 i).flatMap g=(ag5 i).flatMap f:=by
  rw [List.flatMap_def,List.flatMap_def];congr 1;exact ag4 fun j hj=>eJ j (by have:=agJ.1 hj;omega)
 have hB:((ag5 (n - i - 1)).map (· +(i+1))).flatMap g=((ag5 (n - i - 1)).map (· +(i+1))).flatMap f:=by
  rw [List.flatMap_def,List.flatMap_def];congr 1;apply ag4;intro j hj;simp only [ag9,agJ]at hj;obtain⟨x,_,rfl⟩:=hj;exact eJ _ (by omega)
 rw [h1];simp only [List.flatMap_append,List.flatMap_cons,hA,hB,he];have hl:=hlen (ag5 i);rw [List.length_range]at hl;generalize (ag5 i).flatMap f=A at hl ⊢;generalize ((ag5 (n - i - 1)).map (· +(i+1))).flatMap f=B;have hfi:=hf i;generalize f i=R at hfi ⊢;rw [List.take_append,List.take_of_length_le (l:=A) (by omega),hl,show i*s+c - i*s=c by omega,List.take_append_of_le_length (by omega)];rw [List.drop_append,List.drop_of_length_le (l:=A) (by omega),hl,show i*s+c+vs.length - i*s=c+vs.length by omega,List.drop_append_of_le_length (by omega)];simp
section
variable (ρ:Env)
theorem Em{i:E}{v:SV}{c c':cb}(h:En i v c=some c'):
  c'.w=c.w∧v.width=c.w∧∀i':Nat,c'.cells ρ i'=if i'=(i.den ρ 0).toNat then SV.cells ρ v else c.cells ρ i':=by
 obtain⟨ck,cw,a⟩:=c;unfold En at h;split at h
 ·rename_i k k' e hk;simp only at hk;subst hk;split at h
  ·rename_i hc;obtain⟨hw,rfl⟩:=hc;simp only at hw;subst hw;simp only [agy]at h;subst h;refine⟨rfl,rfl,fun i'=>?_⟩;simp only [cb.cells,ax,ak,E.den,SV.cells];by_cases hi:i'=(E.den ρ i 0).toNat
   ·simp [hi]
   ·simp [hi]
  ·cases h
 ·rename_i k k' n b hk;simp only at hk;subst hk;split at h
  ·rename_i hc;obtain⟨hw,rfl⟩:=hc;simp only at hw;subst hw;simp only [agy]at h;subst h;refine⟨rfl,rfl,fun i'=>?_⟩;simp only [cb.cells,ax,SV.cells];by_cases hi:i'=(E.den ρ i 0).toNat
   ·rw [if_pos hi];apply cT;intro j hj;simp only [E.den,gv,toNat_mul,Int.toNat_natCast];rw [if_pos (by rw [hi];omega),hi];congr 1;omega
   ·rw [if_neg hi];apply cT;intro j hj;simp only [E.den,gv,toNat_mul,Int.toNat_natCast];rw [if_neg];intro hc;rcases Nat.lt_or_gt_of_ne hi with cZ | hgt
    ·have:=Nat.mul_le_mul_right cw (Nat.succ_le_of_lt cZ);rw [Nat.succ_mul]at this;omega
    ·have:=Nat.mul_le_mul_right cw (Nat.succ_le_of_lt hgt);rw [Nat.succ_mul]at this;omega
  ·cases h
 ·rename_i x hk;simp only at hk;subst hk;split at h
  ·rename_i hw;simp only at hw;subst hw;simp only [agy]at h;subst h;refine⟨rfl,rfl,fun i'=>?_⟩;simp only [cb.cells,oh,E.den,SV.cells,BE.den];by_cases hi:i'=(E.den ρ i 0).toNat
   ·cases x<;>simp [hi]
   ·simp [hi]
  ·cases h
 ·rename_i e hk;simp only at hk;subst hk;split at h
  ·rename_i hw;simp only at hw;subst hw;simp only [agy]at h;subst h;refine⟨rfl,rfl,fun i'=>?_⟩;simp only [cb.cells,oh,E.den,SV.cells,BE.den];by_cases hi:i'=(E.den ρ i 0).toNat
   ·simp [hi]
   ·simp [hi]
  ·cases h
 ·rename_i b o hk;simp only at hk;subst hk;split at h
  ·rename_i hw;obtain⟨hw,rfl⟩:=hw;simp only at hw;subst hw;simp only [agy]at h;subst h;refine⟨rfl,rfl,fun i'=>?_⟩;simp only [cb.cells,pJ,E.den,SV.cells];by_cases hi:i'=(E.den ρ i 0).toNat
   ·simp [hi,fK]
   ·simp [hi]
  ·cases h
 ·rename_i hk;simp only at hk;subst hk;split at h
  ·rename_i hw;simp only at hw;subst hw;simp only [agy]at h;subst h;refine⟨rfl,rfl,fun i'=>?_⟩;simp only [cb.cells,pJ,E.den,SV.cells];by_cases hi:i'=(E.den ρ i 0).toNat
   ·simp [hi,aD]
   ·simp [hi]
  ·cases h
 ·rename_i e hk;simp only at hk;subst hk;split at h
  ·rename_i hw;simp only at hw;subst hw;simp only [agy]at h;subst h;refine⟨rfl,rfl,fun i'=>?_⟩;simp only [cb.cells,pJ,E.den,SV.cells];by_cases hi:i'=(E.den ρ i 0).toNat
   ·simp [hi]
   ·simp [hi]
  ·cases h
 ·rename_i hk;simp only at hk;subst hk;split at h
  ·rename_i hw;simp only at hw;subst hw;simp only [agy]at h;subst h;refine⟨rfl,rfl,fun i'=>?_⟩;simp only [cb.cells,dC,SV.cells];by_cases hi:i'=(E.den ρ i 0).toNat
   ·simp [hi]
   ·simp [hi]
  ·cases h
 ·rename_i l hk;simp only at hk;subst hk;split at h
  ·rename_i hw;simp only at hw;subst hw;simp only [agy]at h;subst h;refine⟨rfl,rfl,fun i'=>?_⟩;simp only [cb.cells,dC,SV.cells,jR,jO,mW];by_cases hi:i'=(E.den ρ i 0).toNat
   ·simp [hi,oU]
   ·simp [hi]
  ·cases h
 ·rename_i s hk;simp only at hk;subst hk;split at h
  ·rename_i hw;simp only at hw;subst hw;simp only [agy]at h;subst h;refine⟨rfl,rfl,fun i'=>?_⟩;simp only [cb.cells,dC,SV.cells,jR,jO];by_cases hi:i'=(E.den ρ i 0).toNat
   ·simp [hi]
   ·simp [hi]
  ·cases h
 ·rename_i e hk;simp only at hk;subst hk;split at h
  ·rename_i hw;simp only at hw;subst hw;simp only [agy]at h;subst h;refine⟨rfl,rfl,fun i'=>?_⟩;simp only [cb.cells,dC,E.den,SV.cells];by_cases hi:i'=(E.den ρ i 0).toNat
   ·simp [hi,iR]
   ·simp [hi]
  ·cases h
 ·rename_i hk;simp only at hk;subst hk;split at h
  ·rename_i hw;simp only at hw;subst hw;simp only [agy]at h;subst h;refine⟨rfl,rfl,fun i'=>?_⟩;simp only [cb.cells,dC,E.den,SV.cells];by_cases hi:i'=(E.den ρ i 0).toNat
   ·simp [hi,iR]
   ·simp [hi]
  ·cases h
 ·rename_i q _ u hk;simp only at hk;subst hk;split at h
  ·rename_i hw;obtain⟨hw,rfl⟩:=hw;simp only at hw;subst hw;simp only [agy]at h;subst h;refine⟨rfl,rfl,fun i'=>?_⟩;simp only [cb.cells,dC,SV.cells];by_cases hi:i'=(E.den ρ q 0).toNat
   ·simp [hi]
   ·simp [hi]
  ·cases h
 ·cases h
end
def zb(kl:List IntKind)(ks:List Int):List Value:=(kl.zip ks).map fun x=> .int x.1 x.2
section
variable {ρ:Env}
theorem Ij{k1 k2:List IntKind}{a b:List Int}(h:a.length=k1.length):zb (k1++k2) (a++b)=zb k1 a++zb k2 b:=by
 unfold zb;rw [List.zip_append h.symm,List.map_append]
theorem pK(k:IntKind)(n:Nat)(f:Nat→Int):zb (List.replicate n k) ((ag5 n).map f)=ak k n f:=by
 unfold zb ak
 induction n with
 | zero=>rfl
 | succ n ih=>
  rw [List.replicate_succ',List.range_succ,List.map_append,List.zip_append (by simp),List.map_append,ih,List.map_append];simp
theorem tW: ∀{cs:List SV} {o:Nat} {acc:E} {kl:List IntKind} {a:E},xM o acc cs=some (kl,a)→
  (∀j,j<o→a.den ρ j=acc.den ρ j)∧SV.ar ρ cs=zb kl ((ag5 kl.length).map fun i=>a.den ρ (o+i))
 | [],o,acc,kl,a,h=>by
  simp [xM]at h;obtain⟨rfl,rfl⟩:=h;exact⟨fun _ _=>rfl,rfl⟩
 | v::r,o,acc,kl,a,h=>by
  cases v with
  | int k e=>
   simp only [xM]at h;split at h
   ·rename_i l a' h1;cases h;obtain⟨i1,i2⟩:=tW h1;have e1: ∀j,(E.bP acc (.lit o) e).den ρ j=if j=o then e.den ρ 0 else acc.den ρ j:=fun j=>rfl
    refine⟨fun j hj=>?_,?_⟩
    ·rw [i1 j (by omega),e1,if_neg (by omega)]
    ·simp only [SV.ar,SV.cells,i2,List.length_cons];rw [List.range_succ_eq_map,agW,List.map_map];have e0:a.den ρ (o+0)=e.den ρ 0:=by
      rw [i1 (o+0) (by omega),e1,if_pos (by omega)]
     rw [e0];simp only [zb,List.zip_cons_cons,agW,List.singleton_append,agO,true_and];congr 3;funext i;simp only [Function.comp];congr 1;omega
   ·cases h
  | a_ k n b=>
   simp only [xM]at h;split at h
   ·rename_i l a' h1;cases h;obtain⟨i1,i2⟩:=tW h1;have e1: ∀j,(E.Eg acc (.lit o) (.lit n) b).den ρ j=if o≤j∧j<o+n then b.den ρ (j - o)else acc.den ρ j:=fun j=>rfl
    refine⟨fun j hj=>?_,?_⟩
    ·rw [i1 j (by omega),e1,if_neg (by omega)]
    ·simp only [SV.ar,SV.cells,i2,List.length_append,List.length_replicate];rw [List.range_add,List.map_append,Ij (by simp),pK,List.map_map];congr 1
     ·apply cT;intro j hj;rw [i1 (o+j) (by omega),e1,if_pos (by omega)];congr 1;omega
     ·congr 2;funext i;simp only [Function.comp];congr 1;omega
   ·cases h
  | _=>simp [xM]at h
theorem gZ{cs:List SV}{kl:List IntKind}{a:E}(h:rowOf cs=some (kl,a)):SV.ar ρ cs=zb kl ((ag5 kl.length).map (a.den ρ)):=by
 unfold rowOf at h;split at h
 ·cases h;simp only [SV.ar,SV.cells,agL,List.length_replicate];rw [pK]
 ·cases h;rfl
 ·have:=(tW (ρ:=ρ) h).2;simpa using this
theorem qQ: ∀{aA:List cb} {vs HV:List SV},align aA vs=some HV→SV.ar ρ HV=SV.ar ρ vs
 | [],[],HV,h=>by simp [align]at h;subst h;rfl
 | _::_,[],HV,h=>by simp [align]at h;subst h;rfl
 | [],v::r,HV,h=>by simp [align]at h;subst h;rfl
 | c::aA,v::r,HV,h=>by
  unfold align at h;split at h
  ·rw [agz]at h;obtain⟨z,hz,rfl⟩:=h;simp only [SV.ar,qQ hz]
  ·split at h
   ·rename_i k x rest hk hx zW;split at h
    ·rename_i kl a FX;split at h
     ·rename_i Rh;rw [agz]at h;obtain⟨z,hz,rfl⟩:=h;have h1:=(e9 (ρ:=ρ) hx).1;have h2:=eK (ρ:=ρ) _ _ _ zW;have h3:=gZ (ρ:=ρ) FX;rw [Rh,List.length_replicate,pK]at h3;rw [h3,List.drop_zero]at h1;rw [SV.ar,SV.cells,qQ hz,h1,h2,List.take_append_drop]
     ·cases h
    ·cases h
   ·cases h
end
section
variable (ρ:Env)
abbrev rowAt(aA:List cb)(i:Nat):List Value:=(aA.map (cb.cells ρ)).flatMap fun c=>c i
theorem sX{i:E}: ∀{vs:List SV} {aA aV:List cb},o6 i vs aA=some aV→
  cn aV=cn aA∧(SV.ar ρ vs).length≤cn aA∧
   (∀i':Nat,i'≠(i.den ρ 0).toNat→rowAt ρ aV i'=rowAt ρ aA i')∧
   rowAt ρ aV (i.den ρ 0).toNat=SV.ar ρ vs++(rowAt ρ aA (i.den ρ 0).toNat).drop (SV.ar ρ vs).length
 | [],aA,aV,h=>by
  simp [o6]at h;subst h;simp [SV.ar]
 | v::r,[],aV,h=>by simp [o6]at h
 | v::r,c::aA,aV,h=>by
  unfold o6 at h;split at h
  ·rename_i c' wG h1 h2;simp only [agy]at h;subst h;obtain⟨hw,hv,hc⟩:=Em ρ h1;obtain⟨iw,il,Xl,Xm⟩:=sX h2;have Xn:=uW ρ v;refine⟨?_,?_,?_,?_⟩
   ·simp only [cn,agW,List.sum_cons]at iw ⊢;omega
   ·simp only [SV.ar,List.length_append,cn,agW,List.sum_cons]at il ⊢;omega
   ·intro i' hi;simp only [rowAt,agW,List.flatMap_cons]at Xl ⊢;rw [Xl i' hi,hc i',if_neg hi]
   ·simp only [rowAt,agW,List.flatMap_cons,SV.ar]at Xm ⊢;rw [Xm,hc _,if_pos rfl,ahf,List.length_append,List.drop_append,kT,List.drop_of_length_le (l:=c.cells ρ _) (by rw [kT];omega),
     List.nil_append,Xn,hv,Nat.add_sub_cancel_left]
  ·cases h
theorem jT{i:E}{vs:List SV}{aA aV:List cb}(h:mD i vs aA=some aV):
  cn aV=cn aA∧(SV.ar ρ vs).length≤cn aA∧
   (∀i':Nat,i'≠(i.den ρ 0).toNat→rowAt ρ aV i'=rowAt ρ aA i')∧
   rowAt ρ aV (i.den ρ 0).toNat=SV.ar ρ vs++(rowAt ρ aA (i.den ρ 0).toNat).drop (SV.ar ρ vs).length:=by
 unfold mD at h;split at h
 ·rename_i HV ha;have:=sX ρ h
  rwa [qQ ha]at this
 ·cases h
theorem sY{i:E}{vs:List SV}: ∀{o:Nat} {aA aV:List cb},o7 i vs o aA=some aV→
  cn aV=cn aA∧o+(SV.ar ρ vs).length≤cn aA∧
   (∀i':Nat,i'≠(i.den ρ 0).toNat→rowAt ρ aV i'=rowAt ρ aA i')∧
   rowAt ρ aV (i.den ρ 0).toNat=(rowAt ρ aA (i.den ρ 0).toNat).take o++SV.ar ρ vs++(rowAt ρ aA (i.den ρ 0).toNat).drop (o+(SV.ar ρ vs).length)
 | 0,aA,aV,h=>by
  unfold o7 at h;have:=jT ρ h;simpa using this
 | o+1,[],aV,h=>by simp [o7]at h
 | o+1,c::r,aV,h=>by
  unfold o7 at h;split at h
  ·rename_i hle;rw [agz]at h;obtain⟨r',h1,rfl⟩:=h;obtain⟨iw,il,Xl,Xm⟩:=sY h1;refine⟨?_,?_,?_,?_⟩
   ·simp only [cn,agW,List.sum_cons]at iw ⊢;omega
   ·simp only [cn,agW,List.sum_cons]at il ⊢;omega
   ·intro i' hi;simp only [rowAt,agW,List.flatMap_cons]at Xl ⊢;rw [Xl i' hi]
   ·simp only [rowAt,agW,List.flatMap_cons]at Xm ⊢;rw [Xm,List.take_append,List.drop_append,kT,List.take_of_length_le (l:=c.cells ρ _) (by rw [kT];exact hle),
     List.drop_of_length_le (l:=c.cells ρ _) (by rw [kT];omega),List.nil_append,show o+1+(SV.ar ρ vs).length - c.w=o+1 - c.w+(SV.ar ρ vs).length by omega]
    simp [ahf]
  ·cases h
end
end Go.RX
