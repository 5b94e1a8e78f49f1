/- Executor. -/
import Derived.Test.YtphemenngjkfbaaM07
open Decidable renaming not_not → ad5
open Int renaming toNat → ag
open List renaming append_nil → adW, map_cons → ad1, mem_map → aeu, mem_range → adU, range → aec
open Option renaming getD_some → aes, map_eq_some_iff → adM
open Option.some renaming injEq → adK
namespace Go.RX
def fX(f:Nat→List Value)(n:Nat):List Value:=(aec n).flatMap f
theorem fT(f:Nat→List Value)(a b:Nat):fX f (a+b)=fX f a++fX (fun i=>f (a+i)) b:=by
 unfold fX;rw [List.range_add,List.flatMap_append,List.flatMap_map]
theorem m5{f:Nat→List Value}{s:Nat}(hf: ∀i,(f i).length=s)(n:Nat):(fX f n).length=n*s:=by
 induction n with
 | zero=>simp [fX]
 | succ n ih=>
  rw [fT,List.length_append,ih];simp [fX,hf,Nat.add_mul]
theorem cH{f g:Nat→List Value}{n:Nat}(h: ∀i,i<n→f i=g i):fX f n=fX g n:=by
 unfold fX;rw [List.flatMap_def,List.flatMap_def];congr 1;exact List.map_congr_left fun i hi=>h i (adU.1 hi)
theorem ui{f:Nat→List Value}{s:Nat}(hf: ∀i,(f i).length=s)(n L N:Nat)(h:L+N≤n):
  ((fX f n).drop (L*s)).take (N*s)=fX (fun i=>f (L+i)) N:=by
 obtain⟨d,rfl⟩: ∃d,n=L+N+d:=⟨n - (L+N),by omega⟩;rw [fT,fT];have h1:=m5 hf L;have h2:(fX (fun i=>f (L+i)) N).length=N*s:=m5 (fun i=>hf (L+i)) N;generalize fX f L=A at h1 ⊢;generalize fX (fun i=>f (L+i)) N=B at h2 ⊢;rw [List.append_assoc,List.drop_append,List.drop_of_length_le (l:=A) (by omega),h1,Nat.sub_self,List.drop_zero,List.nil_append,List.take_append_of_le_length (by omega),List.take_of_length_le (by omega)]
theorem zI{f g h:Nat→List Value}{s:Nat}(hf: ∀i,(f i).length=s)(n a m:Nat)(hle:a+m≤n)(hh: ∀i,h i=if a≤i∧i<a+m then g (i - a)else f i):
  fX h n=(fX f n).take (a*s)++fX g m++(fX f n).drop (a*s+m*s):=by
 obtain⟨d,rfl⟩: ∃d,n=a+m+d:=⟨n - (a+m),by omega⟩;have e1:fX h a=fX f a:=cH fun i hi=>by rw [hh,if_neg (by omega)]
 have e2:fX (fun i=>h (a+i)) m=fX g m:=cH fun i hi=>by rw [hh,if_pos (by omega)];congr 1;omega
 have e3:fX (fun i=>h (a+m+i)) d=fX (fun i=>f (a+m+i)) d:=cH fun i hi=>by rw [hh,if_neg (by omega)]
 rw [fT h,fT h,e1,e2,e3,fT f,fT f];have h1:=m5 hf a;have h2:(fX (fun i=>f (a+i)) m).length=m*s:=m5 (fun i=>hf (a+i)) m;generalize fX f a=A at h1 ⊢;generalize fX (fun i=>f (a+i)) m=B at h2 ⊢;rw [List.append_assoc A B,List.take_append_of_le_length (by omega),List.take_of_length_le (l:=A) (by omega),List.drop_append,List.drop_of_length_le (l:=A) (by omega),h1,
  show a*s+m*s - a*s=m*s by omega,List.drop_append,List.drop_of_length_le (l:=B) (by omega),h2,Nat.sub_self,List.drop_zero,List.nil_append,List.nil_append]
section
variable {P:Program} {ρ:Env} {w:World} {look:Nat→Option SV} {bK:Operand→Value} {hp:List Ck} {S:Nat→Nat→Prop} {nb nv:Nat} {T:List TI}
theorem cy(n:Nat)(aA:List bV):aF ρ n aA=fX (rowAt ρ aA) n:=rfl
theorem jt{lo:E}(h0:0≤lo.den ρ 0): ∀{aA aR:List bV},gZ lo aA=some aR→
  bX aR=bX aA∧∀i:Nat,rowAt ρ aR i=rowAt ρ aA ((lo.den ρ 0).toNat+i)
 | [],aR,h=>by
  simp [gZ]at h;subst h;exact⟨rfl,fun _=>rfl⟩
 | c::r,aR,h=>by
  unfold gZ at h;split at h
  ·rename_i c' r' h1 h2;cases h;obtain⟨i1,i2⟩:=jt h0 h2;have hc:c'.w=c.w∧∀i,c'.cells ρ i=c.cells ρ ((lo.den ρ 0).toNat+i):=by
    obtain⟨ck,cw,a⟩:=c;unfold Fx at h1;cases ck with
    | int k=>
     simp only [adK]at h1;subst h1;refine⟨rfl,fun i=>?_⟩;simp only [bV.cells,au];apply cG;intro j _;rw [dQ,fR];simp only [E.den];rw [toNat_mul];congr 1;rw [Nat.add_mul];omega
    | bool=>
     simp only [adK]at h1;subst h1;refine⟨rfl,fun i=>?_⟩;simp only [bV.cells,ou];apply List.map_congr_left;intro j _;rw [dQ,fR];simp only [E.den];rw [toNat_mul];rw [show(lo.den ρ 0).toNat*cw+(i*cw+j)=((lo.den ρ 0).toNat+i)*cw+j by rw [Nat.add_mul];omega]
    | ptr=>
     simp only [adK]at h1;subst h1;refine⟨rfl,fun i=>?_⟩;simp only [bV.cells,xX];apply List.map_congr_left;intro j _;rw [dQ,fR];simp only [E.den];rw [toNat_mul];rw [show(lo.den ρ 0).toNat*cw+(i*cw+j)=((lo.den ρ 0).toNat+i)*cw+j by rw [Nat.add_mul];omega]
    | cv=>
     simp only [adK]at h1;subst h1;refine⟨rfl,fun i=>?_⟩;simp only [bV.cells,dI];apply List.map_congr_left;intro j _;rw [dQ,fR];simp only [E.den];rw [toNat_mul];rw [show(lo.den ρ 0).toNat*cw+(i*cw+j)=((lo.den ρ 0).toNat+i)*cw+j by rw [Nat.add_mul];omega]
    | bT=>
     simp only [adK]at h1;subst h1;exact⟨rfl,fun i=>rfl⟩
    | val v=>
     simp only at h1;split at h1
     ·rename_i QZ;cases h1;subst QZ;refine⟨rfl,fun i=>?_⟩;simp [bV.cells,E.den]
     ·cases h1
    | Gk l=>
     simp only at h1;split at h1
     ·rename_i QZ;cases h1;subst QZ;refine⟨rfl,fun i=>?_⟩;simp [bV.cells,E.den]
     ·cases h1
    | pt q v=>
     simp only at h1;split at h1
     ·rename_i QZ;cases h1;subst QZ;refine⟨rfl,fun i=>?_⟩;simp [bV.cells,E.den]
     ·cases h1
    | str=>
     simp only at h1;split at h1
     ·rename_i QZ;cases h1;subst QZ;refine⟨rfl,fun i=>?_⟩;simp [bV.cells,E.den]
     ·cases h1
   refine⟨?_,fun i=>?_⟩
   ·simp only [bX,ad1,List.sum_cons,hc.1]at i1 ⊢;omega
   ·simp only [rowAt,ad1,List.flatMap_cons]at i2 ⊢;rw [hc.2,i2]
  ·cases h
theorem Fy{at_ m:E}(h0:0≤at_.den ρ 0)(hm:0≤m.den ρ 0){d s c:bV}(h:HK at_ m d s=some c):
  c.w=d.w∧s.w=d.w∧∀i:Nat,c.cells ρ i=if(at_.den ρ 0).toNat≤i∧i<(at_.den ρ 0).toNat+(m.den ρ 0).toNat then s.cells ρ (i - (at_.den ρ 0).toNat)else d.cells ρ i:=by
 obtain⟨dk,dw,da⟩:=d;obtain⟨sk,sw,sa⟩:=s;unfold HK at h;split at h
 ·cases h
 ·rename_i hw;simp only [ne_eq,ad5]at hw;subst hw;have key: ∀(i j:Nat),j<dw→(E.BD da (pI at_ (.lit dw)) (pI m (.lit dw)) sa).den ρ (i*dw+j)=
    if(at_.den ρ 0).toNat≤i∧i<(at_.den ρ 0).toNat+(m.den ρ 0).toNat then sa.den ρ ((i - (at_.den ρ 0).toNat)*dw+j)else da.den ρ (i*dw+j):=by
   intro i j hj;simp only [E.den,fR,toNat_mul];generalize (at_.den ρ 0).toNat=A;generalize (m.den ρ 0).toNat=M;by_cases hc:A≤i∧i<A+M
   ·obtain⟨h1,h2⟩:=hc;obtain⟨d,rfl⟩: ∃d,i=A+d:=⟨i - A,by omega⟩;have hd:d+1≤M:=by omega
    have:=Nat.mul_le_mul_right dw hd;rw [Nat.add_mul]at this;have L1:A*dw≤(A+d)*dw+j∧(A+d)*dw+j<A*dw+M*dw:=by rw [Nat.add_mul];omega
    rw [if_pos L1,if_pos ⟨by omega,by omega⟩];congr 1;rw [show A+d - A=d by omega,Nat.add_mul];omega
   ·rw [if_neg hc,if_neg];intro t_;apply hc;constructor
    ·apply Nat.le_of_not_lt;intro cK;have:=Nat.mul_le_mul_right dw (Nat.succ_le_of_lt cK);rw [Nat.succ_mul]at this;omega
    ·apply Nat.lt_of_not_le;intro hle;have:=Nat.mul_le_mul_right dw hle;rw [Nat.add_mul]at this;omega
  split at h
  ·split at h
   ·rename_i k k' hk py cT;simp only at hk py;subst hk py cT;cases h;refine⟨rfl,rfl,fun i=>?_⟩;simp only [bV.cells,au];split
    ·rename_i hc;apply cG;intro j hj;rw [key i j hj,if_pos hc]
    ·rename_i hc;apply cG;intro j hj;rw [key i j hj,if_neg hc]
   ·cases h
  ·rename_i hk py;simp only at hk py;subst hk py;cases h;refine⟨rfl,rfl,fun i=>?_⟩;simp only [bV.cells,ou];split
   ·rename_i hc;apply List.map_congr_left;intro j hj;rw [key i j (adU.1 hj),if_pos hc]
   ·rename_i hc;apply List.map_congr_left;intro j hj;rw [key i j (adU.1 hj),if_neg hc]
  ·rename_i hk py;simp only at hk py;subst hk py;cases h;refine⟨rfl,rfl,fun i=>?_⟩;simp only [bV.cells,xX];split
   ·rename_i hc;apply List.map_congr_left;intro j hj;rw [key i j (adU.1 hj),if_pos hc]
   ·rename_i hc;apply List.map_congr_left;intro j hj;rw [key i j (adU.1 hj),if_neg hc]
  ·rename_i hk py;simp only at hk py;subst hk py;cases h;refine⟨rfl,rfl,fun i=>?_⟩;simp only [bV.cells,dI];split<;>first | rfl | (simp only [hw]) | (congr 1)
  ·rename_i hk py;simp only at hk py;subst hk py;split at h
   ·rename_i hc;obtain⟨rfl,w_⟩:=hc;simp only at w_;subst w_;cases h;refine⟨rfl,rfl,fun i=>?_⟩;by_cases hi:i=(at_.den ρ 0).toNat
    ·rw [if_pos (by rw [cM,hi];constructor<;>simp)];simp [bV.cells,dI,jb,iY,xU,cM,hi]
    ·rw [if_neg (by rw [cM];intro hc;apply hi;have:=hc.2;simp at this;omega)];simp [bV.cells,dI,jb,iY,hi]
   ·split at h
    ·rename_i JM;subst JM;cases h;refine⟨rfl,rfl,fun i=>?_⟩;rw [if_neg (by simp only [cM];intro hc;have:=hc.2;simp at this;omega)]
    ·cases h
  ·cases h
theorem fD{at_ m:E}(h0:0≤at_.den ρ 0)(hm:0≤m.den ρ 0): ∀{d s c:List bV},gu at_ m d s=some c→
  bX c=bX d∧bX s=bX d∧
   ∀i:Nat,rowAt ρ c i=if(at_.den ρ 0).toNat≤i∧i<(at_.den ρ 0).toNat+(m.den ρ 0).toNat then rowAt ρ s (i - (at_.den ρ 0).toNat)else rowAt ρ d i
 | [],[],c,h=>by
  simp [gu]at h;subst h;exact⟨rfl,rfl,fun _=>by simp [rowAt]⟩
 | [],_::_,c,h=>by simp [gu]at h
 | _::_,[],c,h=>by simp [gu]at h
 | d::r,s::r',c,h=>by
  unfold gu at h;split at h
  ·rename_i a b h1 h2;cases h;obtain⟨p1,p2,p3⟩:=Fy h0 hm h1;obtain⟨q1,q2,q3⟩:=fD h0 hm h2;simp only [bX,ad1,List.sum_cons]at q1 q2 ⊢;refine⟨by omega,by omega,fun i=>?_⟩;simp only [rowAt,ad1,List.flatMap_cons]at q3 ⊢;rw [p3,q3];split<;>rfl
  ·cases h
theorem uj{s:Nat}: ∀(k i:Nat) {cs:List SV} {aA aR:List bV},ug s k i cs aA=some aR→s=bX aA→
  bX aR=bX aA∧(∀i':Nat,i'<i→rowAt ρ aR i'=rowAt ρ aA i')∧fX (fun j=>rowAt ρ aR (i+j)) k=(SV.ar ρ cs).take (k*s)
 | 0,i,cs,aA,aR,h,hs=>by
  simp [ug]at h;subst h;simp [fX]
 | k+1,i,cs,aA,aR,h,hs=>by
  unfold ug at h;split at h
  ·rename_i a b h1 h2;split at h
   ·rename_i aa1 h3;obtain⟨p1,p2,p3,p4⟩:=jd ρ h3;obtain⟨q1,q2,q3⟩:=uj k (i+1) h (by omega);have e0:((E.lit (i:Int)).den ρ 0).toNat=i:=by simp [E.den]
    rw [e0]at p3 p4;obtain⟨c1,c2⟩:=eF ρ h1;have c3:=dY ρ _ _ _ h2;rw [List.drop_zero]at c1;rw [Nat.zero_add]at c2;have hal:(SV.ar ρ a).length=s:=by rw [c1,List.length_take];omega
    refine⟨by omega,fun i' hi=>by rw [q2 i' (by omega),p3 i' (by omega)],?_⟩;rw [Nat.add_comm k 1,fT];have e1:fX (fun j=>rowAt ρ aR (i+j)) 1=SV.ar ρ a:=by
     have:rowAt ρ aR i=SV.ar ρ a:=by
      rw [q2 i (by omega),p4,List.drop_eq_nil_of_le,adW];rw [show(rowAt ρ aA i).length=bX aA from dj ρ aA _];omega
     simp [fX,this]
    have e2:fX (fun j=>rowAt ρ aR (i+(1+j))) k=fX (fun j=>rowAt ρ aR (i+1+j)) k:=cH fun j _=>by rw [Nat.add_assoc]
    rw [e1,e2,q3,c3,c1,Nat.add_mul,Nat.one_mul,List.take_add]
   ·cases h
  ·cases h
def World.wq(w:World)(v:Value)(n:Nat)(cs:List Value):Prop:=
 ∃a c,v= .slice a n c∧(a=none→n=0)∧∀ad,a=some ad→∀(j:Nat) u,cs[j]? =some u→w.cell? (ad.add j)=some u
structure RJ (ρ:Env) (w:World) (v:Value) (s:Nat) (n:E) (aA:List bV):Prop where
 nn:0≤n.den ρ 0
 wd:bX aA=s
 rd:World.wq w v (n.den ρ 0).toNat (aF ρ (n.den ρ 0).toNat aA)
theorem CO{md:Bool}{t s n:Nat}{v:Value}{cs:List Value}{S:Nat→Prop}(h:(aB md t s v n cs).p w S):World.wq w v n cs∧cs.length=n*s:=by
 obtain⟨h0,_⟩:=h;cases md with
 | true=>
  simp only [if_true]at h0;have Rd:=h0;obtain⟨hl,hr⟩:=h0;refine⟨?_,hl⟩;rcases hr with⟨rfl,rfl⟩ | ⟨g,o,cap,cur,rfl,hg,Dv,_⟩
  ·exact⟨none,0,rfl,fun _=>rfl,by simp⟩
  ·refine⟨_,cap,rfl,by simp,?_⟩;rintro _ ⟨⟩;exact fun j u hu=>i_ Rd j u hu
 | false=>
  simp only [Bool.false_eq_true,if_false]at h0;obtain⟨hl,a,m,c,rfl,rfl,_,kG,hr⟩:=h0;exact⟨⟨a,c,rfl,kG,fun ad ry=>(hr ad ry).2⟩,hl⟩
theorem TR{s:Nat}{v x:Value}{n:E}{p:Part}{cs:List Value}(h:kM ρ s v x n p)(hv:World.wq w v (n.den ρ 0).toNat cs):
  World.wq w x (p.len.den ρ 0).toNat ((cs.drop ((p.lo.den ρ 0).toNat*s)).take ((p.len.den ρ 0).toNat*s)):=by
 obtain⟨h1,h2,h3,a,c,k,rfl,hc,rfl,hk⟩:=h;obtain⟨a',c',he,kG,hr⟩:=hv;cases he;have JN:(p.lo.den ρ 0).toNat+(p.len.den ρ 0).toNat≤((p.mx.map fun m=>m.den ρ 0).map ag).getD c∨(p.len.den ρ 0).toNat=0:=by
  cases hm:(p.mx.map fun m=>m.den ρ 0)with
  | none=>simp only [Option.map_none,Option.getD_none];omega
  | some m=>have:=h3 m hm;simp only [Option.map_some,aes];omega
 refine⟨_,_,rfl,?_,?_⟩
 ·intro hn;cases a with
  | none=>have:=kG rfl;omega
  | some a=>cases hn
 ·intro ad ry;rw [adM]at ry;obtain⟨a0,rfl,rfl⟩:=ry;have nP:=hr a0 rfl;intro j u hu;rw [List.getElem?_take]at hu;split at hu
  ·rename_i hj;have hN:(p.len.den ρ 0).toNat≠0:=by intro h;rw [h,Nat.zero_mul]at hj;omega
   rw [List.getElem?_drop]at hu;rw [hk (.inl (by omega)),dr];exact nP _ _ hu
  ·cases hu
theorem oI(aA:List bV)(n:Nat): ∀u∈aF ρ n aA,u.oneCell'=true:=by
 intro u hu;unfold aF aH at hu;rw [List.mem_flatMap]at hu;obtain⟨i,_,hu⟩:=hu;rw [List.mem_flatMap]at hu;obtain⟨c,hc,hu⟩:=hu;rw [aeu]at hc;obtain⟨⟨ck,cw,a⟩,_,rfl⟩:=hc;cases ck with
 | int k=>
  simp only [bV.cells,au,al,aeu]at hu;obtain⟨_,_,rfl⟩:=hu;rfl
 | bool=>
  simp only [bV.cells,ou,aeu]at hu;obtain⟨_,_,rfl⟩:=hu;rfl
 | val v=>
  simp only [bV.cells,dI,aeu]at hu;obtain⟨j,_,rfl⟩:=hu;exact V1.one _
 | ptr=>
  simp only [bV.cells,xX,aeu]at hu;obtain⟨j,_,rfl⟩:=hu;exact C9 _
 | cv=>
  simp only [bV.cells,dI,aeu]at hu;obtain⟨j,_,rfl⟩:=hu;exact s7 _
 | Gk l=>
  simp only [bV.cells,dI,aeu]at hu;obtain⟨j,_,rfl⟩:=hu;exact V1.one _
 | pt q v=>
  simp only [bV.cells,dI,aeu]at hu;obtain⟨j,_,rfl⟩:=hu;split
  ·exact V1.one _
  ·exact s7 _
 | bT=>
  simp only [bV.cells,dI,aeu]at hu;obtain⟨j,_,rfl⟩:=hu;rfl
 | str=>
  simp only [bV.cells,dI,aeu]at hu;obtain⟨j,_,rfl⟩:=hu;rfl
theorem Fz{x:SV}{r:Rt}(h:gf hp x=some r)(cU:Reads hp ρ w S [r.j])(cb: ∀b∈r.vcs,b.prop ρ)(h0:0≤r.p.len.den ρ 0)(hw:r.s=bX r.aA)
  {aA:List bV} (hc:gZ r.p.lo r.aA=some aA):RJ ρ w (x.val ρ) r.s r.p.len aA:=by
 obtain⟨hj,dL⟩:=eM h cU cb;have hS:=cU r.j (by simp) _ hj;obtain⟨hv,hl⟩:=CO hS;obtain⟨e1,e2⟩:=jt dL.lo hc;refine⟨h0,by omega,?_⟩;have:=TR dL hv;have h2:=dL.hi;have h1:=dL.lo;rw [cy,hw,ui (dj ρ r.aA) _ _ _ (by omega)]at this;rw [cy,cH fun i _=>e2 i];exact this
theorem dR(k:IntKind)(n:Nat)(a:E):aF ρ n [⟨.int k,1,a⟩]=al k n (a.den ρ):=by
 unfold aF aH al
 induction n with
 | zero=>rfl
 | succ n ih=>
  rw [List.range_succ,List.flatMap_append,List.map_append,ih];simp [bV.cells,au,al]
theorem fE{te:TI}{y:SV}{sc:Src}(h:By T hp te y=some sc)(cU:Reads hp ρ w S sc.rd)(cb: ∀b∈sc.vcs,b.prop ρ)
  (h0:0≤sc.n.den ρ 0):RJ ρ w (y.val ρ) te.size sc.n sc.aA:=by
 unfold By at h;split at h
 ·split at h
  ·split at h
   ·rename_i hw;cases h;refine⟨by simp [E.den],hw.symm,none,0,by simp [SV.val,E.den],by simp [E.den],by simp⟩
   ·cases h
  ·cases h
 ·rename_i b i s m cap;split at h
  ·rename_i j b' wr cs hf;obtain⟨hj,dM⟩:=cP hf;simp only [Ck.rh,beq_iff_eq]at dM;subst dM;split at h
   ·cases h
   ·rename_i hs;simp only [ne_eq,ad5]at hs;subst hs;split at h
    ·rename_i i0 m0 O7 JM;have di:=cA (ρ:=ρ) O7;have dm:=cA (ρ:=ρ) JM;have pe:(SV.sl b i te.size m cap).val ρ= .slice (some ⟨ρ.bv.getD b 0,i0*te.size,none⟩) m0 (cap.den ρ 0).toNat:=by simp [SV.val,di,dm]
     have base: ∀(x:List SV),jc (i0*te.size) (m0*te.size) cs=some x→(ak (ρ.bv.getD b 0) wr (SV.ar ρ cs)).p w (S j)→
       (SV.ar ρ x).length=m0*te.size∧∀(k:Nat) u,(SV.ar ρ x)[k]? =some u→w.cell? ((⟨ρ.bv.getD b 0,i0*te.size,none⟩:Addr).add k)=some u:=by
      intro x hx hS;obtain⟨c1,c2⟩:=eF ρ hx;refine⟨by rw [c1,List.length_take,List.length_drop];omega,fun k u hu=>?_⟩;rw [c1,List.getElem?_take]at hu;split at hu
      ·exact iF hS _ k u hu
      ·cases hu
     split at h
     ·rename_i k N a hx;split at h
      ·rename_i hc;obtain⟨je,rfl⟩:=hc;cases h;obtain⟨_,hb⟩:=base _ hx (cU j (by simp) _ hj);refine⟨h0,by simp [bX,je],_,_,pe,by simp,?_⟩;rintro _ ⟨⟩ k' u hu;rw [dR]at hu;refine hb k' u ?_;simpa [SV.ar,SV.cells,E.den] using hu
      ·cases h
     ·rename_i x _ hx;split at h
      ·split at h
       ·rename_i V4 ew;split at h
        ·rename_i hw;rw [adM]at h;obtain⟨aR,jE,rfl⟩:=h;obtain⟨hl,hb⟩:=base _ hx (cU j (by simp) _ hj);obtain⟨q1,_,q3⟩:=uj (ρ:=ρ) m0 0 jE hw;refine⟨h0,q1.trans hw.symm,_,_,pe,by simp,?_⟩;rintro _ ⟨⟩ k' u hu;refine hb k' u ?_;simp only [Nat.zero_add]at q3;rw [List.take_of_length_le (by omega)]at q3;simp only [E.den,Int.toNat_natCast]at hu;rw [cy]at hu;rw [←q3];exact hu
        ·cases h
       ·cases h
      ·cases h
     ·cases h
    ·split at h
     ·rename_i k N a;split at h
      ·rename_i je;cases h;simp only at cb h0;obtain⟨v1,v3⟩:=bu cb;obtain⟨v1,v2⟩:=bu v1;have v1:=bc v1;have v3:=bc v3;rw [bH]at v3;simp only [E.den]at v1 v3;have hS:=cU j (by simp) _ hj;refine⟨h0,by simp [bX,je],_,_,rfl,by simp,?_⟩;rintro _ ⟨⟩ k' u hu;rw [dR,bx]at hu;split at hu
       ·rename_i hk;have hk:k'<(m.den ρ 0).toNat:=hk;simp only [adK]at hu;refine iF hS _ k' u ?_;rw [je,Nat.mul_one,List.getElem?_drop];simp only [SV.ar,SV.cells,adW];rw [bx,if_pos (by omega),←hu,dQ]
       ·cases hu
      ·cases h
     ·cases h
  ·cases h
 ·split at h
  ·rename_i r hr;split at h
   ·rename_i hc;obtain⟨hs,hw⟩:=hc;rw [adM]at h;obtain⟨aA,ew,rfl⟩:=h;simp only at cb h0;obtain⟨v1,_⟩:=bu cb;rw [←hs];exact Fz hr cU v1 h0 hw ew
   ·cases h
  ·cases h
end
end Go.RX
