/- Executor. -/
import Derived.Test.YtphemenngjkfbaaM07
open Decidable renaming not_not → agN
open Int renaming toNat → ag
open List renaming append_assoc → ahf, append_nil → agL, map_congr_left → ag4, map_cons → agW, mem_map → ag9, mem_range → agJ, range → ag5
open Option renaming getD_some → ahe, map_eq_some_iff → agz
open Option.some renaming injEq → agy
namespace Go.RX
def gD(f:Nat→List Value)(n:Nat):List Value:=(ag5 n).flatMap f
theorem gx(f:Nat→List Value)(a b:Nat):gD f (a+b)=gD f a++gD (fun i=>f (a+i)) b:=by
 unfold gD;rw [List.range_add,List.flatMap_append,List.flatMap_map]
theorem oa{f:Nat→List Value}{s:Nat}(hf: ∀i,(f i).length=s)(n:Nat):(gD f n).length=n*s:=by
 induction n with
 | zero=>simp [gD]
 | succ n ih=>
  rw [gx,List.length_append,ih];simp [gD,hf,Nat.add_mul]
theorem cV{f g:Nat→List Value}{n:Nat}(h: ∀i,i<n→f i=g i):gD f n=gD g n:=by
 unfold gD;rw [List.flatMap_def,List.flatMap_def];congr 1;exact ag4 fun i hi=>h i (agJ.1 hi)
theorem wh{f:Nat→List Value}{s:Nat}(hf: ∀i,(f i).length=s)(n L N:Nat)(h:L+N≤n):
  ((gD f n).drop (L*s)).take (N*s)=gD (fun i=>f (L+i)) N:=by
 obtain⟨d,rfl⟩: ∃d,n=L+N+d:=⟨n - (L+N),by omega⟩;rw [gx,gx];have h1:=oa hf L;have h2:(gD (fun i=>f (L+i)) N).length=N*s:=oa (fun i=>hf (L+i)) N;generalize gD f L=A at h1 ⊢;generalize gD (fun i=>f (L+i)) N=B at h2 ⊢;rw [ahf,List.drop_append,List.drop_of_length_le (l:=A) (by omega),h1,Nat.sub_self,List.drop_zero,List.nil_append,List.take_append_of_le_length (by omega),List.take_of_length_le (by omega)]
theorem BH{f g h:Nat→List Value}{s:Nat}(hf: ∀i,(f i).length=s)(n a m:Nat)(hle:a+m≤n)(hh: ∀i,h i=if a≤i∧i<a+m then g (i - a)else f i):
  gD h n=(gD f n).take (a*s)++gD g m++(gD f n).drop (a*s+m*s):=by
 obtain⟨d,rfl⟩: ∃d,n=a+m+d:=⟨n - (a+m),by omega⟩;have e1:gD h a=gD f a:=cV fun i hi=>by rw [hh,if_neg (by omega)]
 have e2:gD (fun i=>h (a+i)) m=gD g m:=cV fun i hi=>by rw [hh,if_pos (by omega)];congr 1;omega
 have e3:gD (fun i=>h (a+m+i)) d=gD (fun i=>f (a+m+i)) d:=cV fun i hi=>by rw [hh,if_neg (by omega)]
 rw [gx h,gx h,e1,e2,e3,gx f,gx f];have h1:=oa hf a;have h2:(gD (fun i=>f (a+i)) m).length=m*s:=oa (fun i=>hf (a+i)) m;generalize gD f a=A at h1 ⊢;generalize gD (fun i=>f (a+i)) m=B at h2 ⊢;rw [ahf A B,List.take_append_of_le_length (by omega),List.take_of_length_le (l:=A) (by omega),List.drop_append,List.drop_of_length_le (l:=A) (by omega),h1,
  show a*s+m*s - a*s=m*s by omega,List.drop_append,List.drop_of_length_le (l:=B) (by omega),h2,Nat.sub_self,List.drop_zero,List.nil_append,List.nil_append]
section
variable {P:Program} {ρ:Env} {w:World} {look:Nat→Option SV} {bQ:Operand→Value} {hp:List Ck} {S:Nat→Nat→Prop} {nb nv:Nat} {T:List TI}
theorem cK(n:Nat)(aA:List cb):aI ρ n aA=gD (rowAt ρ aA) n:=rfl
theorem j9{lo:E}(h0:0≤lo.den ρ 0): ∀{aA aV:List cb},iF lo aA=some aV→
  cn aV=cn aA∧∀i:Nat,rowAt ρ aV i=rowAt ρ aA ((lo.den ρ 0).toNat+i)
 | [],aV,h=>by
  simp [iF]at h;subst h;exact⟨rfl,fun _=>rfl⟩
 | c::r,aV,h=>by
  unfold iF at h;split at h
  ·rename_i c' r' h1 h2;cases h;obtain⟨i1,i2⟩:=j9 h0 h2;have hc:c'.w=c.w∧∀i,c'.cells ρ i=c.cells ρ ((lo.den ρ 0).toNat+i):=by
    obtain⟨ck,cw,a⟩:=c;unfold Hz at h1;cases ck with
    | int k=>
     simp only [agy]at h1;subst h1;refine⟨rfl,fun i=>?_⟩;simp only [cb.cells,ax];apply cT;intro j _;rw [eB,gv];simp only [E.den];rw [toNat_mul];congr 1;rw [Nat.add_mul];omega
    | bool=>
     simp only [agy]at h1;subst h1;refine⟨rfl,fun i=>?_⟩;simp only [cb.cells,oh];apply ag4;intro j _;rw [eB,gv];simp only [E.den];rw [toNat_mul];rw [show(lo.den ρ 0).toNat*cw+(i*cw+j)=((lo.den ρ 0).toNat+i)*cw+j by rw [Nat.add_mul];omega]
    | ptr=>
     simp only [agy]at h1;subst h1;refine⟨rfl,fun i=>?_⟩;simp only [cb.cells,pJ];apply ag4;intro j _;rw [eB,gv];simp only [E.den];rw [toNat_mul];rw [show(lo.den ρ 0).toNat*cw+(i*cw+j)=((lo.den ρ 0).toNat+i)*cw+j by rw [Nat.add_mul];omega]
    | cv=>
     simp only [agy]at h1;subst h1;refine⟨rfl,fun i=>?_⟩;simp only [cb.cells,dC];apply ag4;intro j _;rw [eB,gv];simp only [E.den];rw [toNat_mul];rw [show(lo.den ρ 0).toNat*cw+(i*cw+j)=((lo.den ρ 0).toNat+i)*cw+j by rw [Nat.add_mul];omega]
    | bY=>
     simp only [agy]at h1;subst h1;exact⟨rfl,fun i=>rfl⟩
    | val v=>
     simp only at h1;split at h1
     ·rename_i TB;cases h1;subst TB;refine⟨rfl,fun i=>?_⟩;simp [cb.cells,E.den]
     ·cases h1
    | Ii l=>
     simp only at h1;split at h1
     ·rename_i TB;cases h1;subst TB;refine⟨rfl,fun i=>?_⟩;simp [cb.cells,E.den]
     ·cases h1
    | pt q v=>
     simp only at h1;split at h1
     ·rename_i TB;cases h1;subst TB;refine⟨rfl,fun i=>?_⟩;simp [cb.cells,E.den]
     ·cases h1
    | str=>
     simp only at h1;split at h1
     ·rename_i TB;cases h1;subst TB;refine⟨rfl,fun i=>?_⟩;simp [cb.cells,E.den]
     ·cases h1
   refine⟨?_,fun i=>?_⟩
   ·simp only [cn,agW,List.sum_cons,hc.1]at i1 ⊢;omega
   ·simp only [rowAt,agW,List.flatMap_cons]at i2 ⊢;rw [hc.2,i2]
  ·cases h
theorem HB{at_ m:E}(h0:0≤at_.den ρ 0)(hm:0≤m.den ρ 0){d s c:cb}(h:JZ at_ m d s=some c):
  c.w=d.w∧s.w=d.w∧∀i:Nat,c.cells ρ i=if(at_.den ρ 0).toNat≤i∧i<(at_.den ρ 0).toNat+(m.den ρ 0).toNat then s.cells ρ (i - (at_.den ρ 0).toNat)else d.cells ρ i:=by
 obtain⟨dk,dw,da⟩:=d;obtain⟨sk,sw,sa⟩:=s;unfold JZ at h;split at h
 ·cases h
 ·rename_i hw;simp only [ne_eq,agN]at hw;subst hw;have key: ∀(i j:Nat),j<dw→(E.Eg da (qL at_ (.lit dw)) (qL m (.lit dw)) sa).den ρ (i*dw+j)=
    if(at_.den ρ 0).toNat≤i∧i<(at_.den ρ 0).toNat+(m.den ρ 0).toNat then sa.den ρ ((i - (at_.den ρ 0).toNat)*dw+j)else da.den ρ (i*dw+j):=by
   intro i j hj;simp only [E.den,gv,toNat_mul];generalize (at_.den ρ 0).toNat=A;generalize (m.den ρ 0).toNat=M;by_cases hc:A≤i∧i<A+M
   ·obtain⟨h1,h2⟩:=hc;obtain⟨d,rfl⟩: ∃d,i=A+d:=⟨i - A,by omega⟩;have hd:d+1≤M:=by omega
    have:=Nat.mul_le_mul_right dw hd;rw [Nat.add_mul]at this;have L1:A*dw≤(A+d)*dw+j∧(A+d)*dw+j<A*dw+M*dw:=by rw [Nat.add_mul];omega
    rw [if_pos L1,if_pos ⟨by omega,by omega⟩];congr 1;rw [show A+d - A=d by omega,Nat.add_mul];omega
   ·rw [if_neg hc,if_neg];intro NJ;apply hc;constructor
    ·apply Nat.le_of_not_lt;intro cZ;have:=Nat.mul_le_mul_right dw (Nat.succ_le_of_lt cZ);rw [Nat.succ_mul]at this;omega
    ·apply Nat.lt_of_not_le;intro hle;have:=Nat.mul_le_mul_right dw hle;rw [Nat.add_mul]at this;omega
  split at h
  ·split at h
   ·rename_i k k' hk jK dg;simp only at hk jK;subst hk jK dg;cases h;refine⟨rfl,rfl,fun i=>?_⟩;simp only [cb.cells,ax];split
    ·rename_i hc;apply cT;intro j hj;rw [key i j hj,if_pos hc]
    ·rename_i hc;apply cT;intro j hj;rw [key i j hj,if_neg hc]
   ·cases h
  ·rename_i hk jK;simp only at hk jK;subst hk jK;cases h;refine⟨rfl,rfl,fun i=>?_⟩;simp only [cb.cells,oh];split
   ·rename_i hc;apply ag4;intro j hj;rw [key i j (agJ.1 hj),if_pos hc]
   ·rename_i hc;apply ag4;intro j hj;rw [key i j (agJ.1 hj),if_neg hc]
  ·rename_i hk jK;simp only at hk jK;subst hk jK;cases h;refine⟨rfl,rfl,fun i=>?_⟩;simp only [cb.cells,pJ];split
   ·rename_i hc;apply ag4;intro j hj;rw [key i j (agJ.1 hj),if_pos hc]
   ·rename_i hc;apply ag4;intro j hj;rw [key i j (agJ.1 hj),if_neg hc]
  ·rename_i hk jK;simp only at hk jK;subst hk jK;cases h;refine⟨rfl,rfl,fun i=>?_⟩;simp only [cb.cells,dC];split<;>first | rfl | (simp only [hw]) | (congr 1)
  ·rename_i hk jK;simp only at hk jK;subst hk jK;split at h
   ·rename_i hc;obtain⟨rfl,zh⟩:=hc;simp only at zh;subst zh;cases h;refine⟨rfl,rfl,fun i=>?_⟩;by_cases hi:i=(at_.den ρ 0).toNat
    ·rw [if_pos (by rw [c8,hi];constructor<;>simp)];simp [cb.cells,dC,jR,jO,zT,c8,hi]
    ·rw [if_neg (by rw [c8];intro hc;apply hi;have:=hc.2;simp at this;omega)];simp [cb.cells,dC,jR,jO,hi]
   ·split at h
    ·rename_i F7;subst F7;cases h;refine⟨rfl,rfl,fun i=>?_⟩;rw [if_neg (by simp only [c8];intro hc;have:=hc.2;simp at this;omega)]
    ·cases h
  ·cases h
theorem gb{at_ m:E}(h0:0≤at_.den ρ 0)(hm:0≤m.den ρ 0): ∀{d s c:List cb},gV at_ m d s=some c→
  cn c=cn d∧cn s=cn d∧
   ∀i:Nat,rowAt ρ c i=if(at_.den ρ 0).toNat≤i∧i<(at_.den ρ 0).toNat+(m.den ρ 0).toNat then rowAt ρ s (i - (at_.den ρ 0).toNat)else rowAt ρ d i
 | [],[],c,h=>by
  simp [gV]at h;subst h;exact⟨rfl,rfl,fun _=>by simp [rowAt]⟩
 | [],_::_,c,h=>by simp [gV]at h
 | _::_,[],c,h=>by simp [gV]at h
 | d::r,s::r',c,h=>by
  unfold gV at h;split at h
  ·rename_i a b h1 h2;cases h;obtain⟨p1,p2,p3⟩:=HB h0 hm h1;obtain⟨q1,q2,q3⟩:=gb h0 hm h2;simp only [cn,agW,List.sum_cons]at q1 q2 ⊢;refine⟨by omega,by omega,fun i=>?_⟩;simp only [rowAt,agW,List.flatMap_cons]at q3 ⊢;rw [p3,q3];split<;>rfl
  ·cases h
theorem wi{s:Nat}: ∀(k i:Nat) {cs:List SV} {aA aV:List cb},wc s k i cs aA=some aV→s=cn aA→
  cn aV=cn aA∧(∀i':Nat,i'<i→rowAt ρ aV i'=rowAt ρ aA i')∧gD (fun j=>rowAt ρ aV (i+j)) k=(SV.ar ρ cs).take (k*s)
 | 0,i,cs,aA,aV,h,hs=>by
  simp [wc]at h;subst h;simp [gD]
 | k+1,i,cs,aA,aV,h,hs=>by
  unfold wc at h;split at h
  ·rename_i a b h1 h2;split at h
   ·rename_i adR h3;obtain⟨p1,p2,p3,p4⟩:=jT ρ h3;obtain⟨q1,q2,q3⟩:=wi k (i+1) h (by omega);have e0:((E.lit (i:Int)).den ρ 0).toNat=i:=by simp [E.den]
    rw [e0]at p3 p4;obtain⟨c1,c2⟩:=e9 ρ h1;have c3:=eK ρ _ _ _ h2;rw [List.drop_zero]at c1;rw [Nat.zero_add]at c2;have hal:(SV.ar ρ a).length=s:=by rw [c1,List.length_take];omega
    refine⟨by omega,fun i' hi=>by rw [q2 i' (by omega),p3 i' (by omega)],?_⟩;rw [Nat.add_comm k 1,gx];have e1:gD (fun j=>rowAt ρ aV (i+j)) 1=SV.ar ρ a:=by
     have:rowAt ρ aV i=SV.ar ρ a:=by
      rw [q2 i (by omega),p4,List.drop_eq_nil_of_le,agL];rw [show(rowAt ρ aA i).length=cn aA from dH ρ aA _];omega
     simp [gD,this]
    have e2:gD (fun j=>rowAt ρ aV (i+(1+j))) k=gD (fun j=>rowAt ρ aV (i+1+j)) k:=cV fun j _=>by rw [Nat.add_assoc]
    rw [e1,e2,q3,c3,c1,Nat.add_mul,Nat.one_mul,List.take_add]
   ·cases h
  ·cases h
def World.yD(w:World)(v:Value)(n:Nat)(cs:List Value):Prop:=
 ∃a c,v= .slice a n c∧(a=none→n=0)∧∀ad,a=some ad→∀(j:Nat) u,cs[j]? =some u→w.cell? (ad.add j)=some u
structure UD (ρ:Env) (w:World) (v:Value) (s:Nat) (n:E) (aA:List cb):Prop where
 nn:0≤n.den ρ 0
 wd:cn aA=s
 rd:World.yD w v (n.den ρ 0).toNat (aI ρ (n.den ρ 0).toNat aA)
theorem Fk{md:Bool}{t s n:Nat}{v:Value}{cs:List Value}{S:Nat→Prop}(h:(aC md t s v n cs).p w S):World.yD w v n cs∧cs.length=n*s:=by
 obtain⟨h0,_⟩:=h;cases md with
 | true=>
  simp only [if_true]at h0;have TR:=h0;obtain⟨hl,hr⟩:=h0;refine⟨?_,hl⟩;rcases hr with⟨rfl,rfl⟩ | ⟨g,o,cap,cur,rfl,hg,FL,_⟩
  ·exact⟨none,0,rfl,fun _=>rfl,by simp⟩
  ·refine⟨_,cap,rfl,by simp,?_⟩;rintro _ ⟨⟩;exact fun j u hu=>jQ TR j u hu
 | false=>
  simp only [Bool.false_eq_true,if_false]at h0;obtain⟨hl,a,m,c,rfl,rfl,_,l7,hr⟩:=h0;exact⟨⟨a,c,rfl,l7,fun ad had=>(hr ad had).2⟩,hl⟩
theorem WJ{s:Nat}{v x:Value}{n:E}{p:Part}{cs:List Value}(h:mu ρ s v x n p)(hv:World.yD w v (n.den ρ 0).toNat cs):
  World.yD w x (p.len.den ρ 0).toNat ((cs.drop ((p.lo.den ρ 0).toNat*s)).take ((p.len.den ρ 0).toNat*s)):=by
 obtain⟨h1,h2,h3,a,c,k,rfl,hc,rfl,hk⟩:=h;obtain⟨a',c',he,l7,hr⟩:=hv;cases he;have L5:(p.lo.den ρ 0).toNat+(p.len.den ρ 0).toNat≤((p.mx.map fun m=>m.den ρ 0).map ag).getD c∨(p.len.den ρ 0).toNat=0:=by
  cases hm:(p.mx.map fun m=>m.den ρ 0)with
  | none=>simp only [Option.map_none,Option.getD_none];omega
  | some m=>have:=h3 m hm;simp only [Option.map_some,ahe];omega
 refine⟨_,_,rfl,?_,?_⟩
 ·intro hn;cases a with
  | none=>have:=l7 rfl;omega
  | some a=>cases hn
 ·intro ad had;rw [agz]at had;obtain⟨a0,rfl,rfl⟩:=had;have o8:=hr a0 rfl;intro j u hu;rw [List.getElem?_take]at hu;split at hu
  ·rename_i hj;have hN:(p.len.den ρ 0).toNat≠0:=by intro h;rw [h,Nat.zero_mul]at hj;omega
   rw [List.getElem?_drop]at hu;rw [hk (.inl (by omega)),dK];exact o8 _ _ hu
  ·cases hu
theorem pX(aA:List cb)(n:Nat): ∀u∈aI ρ n aA,u.oneCell'=true:=by
 intro u hu;unfold aI aT at hu;rw [List.mem_flatMap]at hu;obtain⟨i,_,hu⟩:=hu;rw [List.mem_flatMap]at hu;obtain⟨c,hc,hu⟩:=hu;rw [ag9]at hc;obtain⟨⟨ck,cw,a⟩,_,rfl⟩:=hc;cases ck with
 | int k=>
  simp only [cb.cells,ax,ak,ag9]at hu;obtain⟨_,_,rfl⟩:=hu;rfl
 | bool=>
  simp only [cb.cells,oh,ag9]at hu;obtain⟨_,_,rfl⟩:=hu;rfl
 | val v=>
  simp only [cb.cells,dC,ag9]at hu;obtain⟨j,_,rfl⟩:=hu;exact V1.one _
 | ptr=>
  simp only [cb.cells,pJ,ag9]at hu;obtain⟨j,_,rfl⟩:=hu;exact FJ _
 | cv=>
  simp only [cb.cells,dC,ag9]at hu;obtain⟨j,_,rfl⟩:=hu;exact uR _
 | Ii l=>
  simp only [cb.cells,dC,ag9]at hu;obtain⟨j,_,rfl⟩:=hu;exact V1.one _
 | pt q v=>
  simp only [cb.cells,dC,ag9]at hu;obtain⟨j,_,rfl⟩:=hu;split
  ·exact V1.one _
  ·exact uR _
 | bY=>
  simp only [cb.cells,dC,ag9]at hu;obtain⟨j,_,rfl⟩:=hu;rfl
 | str=>
  simp only [cb.cells,dC,ag9]at hu;obtain⟨j,_,rfl⟩:=hu;rfl
theorem HC{x:SV}{r:Rt}(h:gJ hp x=some r)(dp:Reads hp ρ w S [r.j])(cu: ∀b∈r.vcs,b.prop ρ)(h0:0≤r.p.len.den ρ 0)(hw:r.s=cn r.aA)
  {aA:List cb} (hc:iF r.p.lo r.aA=some aA):UD ρ w (x.val ρ) r.s r.p.len aA:=by
 obtain⟨hj,eu⟩:=fh h dp cu;have hS:=dp r.j (by simp) _ hj;obtain⟨hv,hl⟩:=Fk hS;obtain⟨e1,e2⟩:=j9 eu.lo hc;refine⟨h0,by omega,?_⟩;have:=WJ eu hv;have h2:=eu.hi;have h1:=eu.lo;rw [cK,hw,wh (dH ρ r.aA) _ _ _ (by omega)]at this;rw [cK,cV fun i _=>e2 i];exact this
theorem eC(k:IntKind)(n:Nat)(a:E):aI ρ n [⟨.int k,1,a⟩]=ak k n (a.den ρ):=by
 unfold aI aT ak
 induction n with
 | zero=>rfl
 | succ n ih=>
  rw [List.range_succ,List.flatMap_append,List.map_append,ih];simp [cb.cells,ax,ak]
theorem gf{te:TI}{y:SV}{sc:Src}(h:D3 T hp te y=some sc)(dp:Reads hp ρ w S sc.rd)(cu: ∀b∈sc.vcs,b.prop ρ)
  (h0:0≤sc.n.den ρ 0):UD ρ w (y.val ρ) te.size sc.n sc.aA:=by
 unfold D3 at h;split at h
 ·split at h
  ·split at h
   ·rename_i hw;cases h;refine⟨by simp [E.den],hw.symm,none,0,by simp [SV.val,E.den],by simp [E.den],by simp⟩
   ·cases h
  ·cases h
 ·rename_i b i s m cap;split at h
  ·rename_i j b' wr cs hf;obtain⟨hj,ew⟩:=c_ hf;simp only [Ck.sN,beq_iff_eq]at ew;subst ew;split at h
   ·cases h
   ·rename_i hs;simp only [ne_eq,agN]at hs;subst hs;split at h
    ·rename_i i0 m0 Kh F7;have di:=cM (ρ:=ρ) Kh;have dm:=cM (ρ:=ρ) F7;have hval:(SV.sl b i te.size m cap).val ρ= .slice (some ⟨ρ.bv.getD b 0,i0*te.size,none⟩) m0 (cap.den ρ 0).toNat:=by simp [SV.val,di,dm]
     have base: ∀(x:List SV),jS (i0*te.size) (m0*te.size) cs=some x→(ao (ρ.bv.getD b 0) wr (SV.ar ρ cs)).p w (S j)→
       (SV.ar ρ x).length=m0*te.size∧∀(k:Nat) u,(SV.ar ρ x)[k]? =some u→w.cell? ((⟨ρ.bv.getD b 0,i0*te.size,none⟩:Addr).add k)=some u:=by
      intro x hx hS;obtain⟨c1,c2⟩:=e9 ρ hx;refine⟨by rw [c1,List.length_take,List.length_drop];omega,fun k u hu=>?_⟩;rw [c1,List.getElem?_take]at hu;split at hu
      ·exact jk hS _ k u hu
      ·cases hu
     split at h
     ·rename_i k N a hx;split at h
      ·rename_i hc;obtain⟨iX,rfl⟩:=hc;cases h;obtain⟨_,hb⟩:=base _ hx (dp j (by simp) _ hj);refine⟨h0,by simp [cn,iX],_,_,hval,by simp,?_⟩;rintro _ ⟨⟩ k' u hu;rw [eC]at hu;refine hb k' u ?_;simpa [SV.ar,SV.cells,E.den] using hu
      ·cases h
     ·rename_i x _ hx;split at h
      ·split at h
       ·rename_i Zd eU;split at h
        ·rename_i hw;rw [agz]at h;obtain⟨aV,mQ,rfl⟩:=h;obtain⟨hl,hb⟩:=base _ hx (dp j (by simp) _ hj);obtain⟨q1,_,q3⟩:=wi (ρ:=ρ) m0 0 mQ hw;refine⟨h0,q1.trans hw.symm,_,_,hval,by simp,?_⟩;rintro _ ⟨⟩ k' u hu;refine hb k' u ?_;simp only [Nat.zero_add]at q3;rw [List.take_of_length_le (by omega)]at q3;simp only [E.den,Int.toNat_natCast]at hu;rw [cK]at hu;rw [←q3];exact hu
        ·cases h
       ·cases h
      ·cases h
     ·cases h
    ·split at h
     ·rename_i k N a;split at h
      ·rename_i iX;cases h;simp only at cu h0;obtain⟨v1,v3⟩:=bB cu;obtain⟨v1,v2⟩:=bB v1;have v1:=bg v1;have v3:=bg v3;rw [bN]at v3;simp only [E.den]at v1 v3;have hS:=dp j (by simp) _ hj;refine⟨h0,by simp [cn,iX],_,_,rfl,by simp,?_⟩;rintro _ ⟨⟩ k' u hu;rw [eC,bE]at hu;split at hu
       ·rename_i hk;have hk:k'<(m.den ρ 0).toNat:=hk;simp only [agy]at hu;refine jk hS _ k' u ?_;rw [iX,Nat.mul_one,List.getElem?_drop];simp only [SV.ar,SV.cells,agL];rw [bE,if_pos (by omega),←hu,eB]
       ·cases hu
      ·cases h
     ·cases h
  ·cases h
 ·split at h
  ·rename_i r hr;split at h
   ·rename_i hc;obtain⟨hs,hw⟩:=hc;rw [agz]at h;obtain⟨aA,eU,rfl⟩:=h;simp only at cu h0;obtain⟨v1,_⟩:=bB cu;rw [←hs];exact HC hr dp v1 h0 hw eU
   ·cases h
  ·cases h
end
end Go.RX
