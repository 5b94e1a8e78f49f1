/- Executor. -/
import Derived.Test.YtllcdnkfbeokhaaGreatM07
open Int renaming toNat → ag, toNat_natCast → auD
open List renaming length_append → aum, map_cons → auK, mem_map → auL, mem_range → auG, sum_cons → au7
open Option renaming getD_some → au8, map_eq_some_iff → aus
open Option.some renaming injEq → auq
namespace Go.RX
def iJ(f:Nat→List Value)(n:Nat):List Value:=(List.range n).flatMap f
theorem iE(f:Nat→List Value)(a b:Nat):iJ f (a+b)=iJ f a++iJ (fun i=>f (a+i)) b:=by
 unfold iJ;rw [List.range_add,List.flatMap_append,List.flatMap_map]
theorem oC{f:Nat→List Value}{s:Nat}(hf: ∀i,(f i).length=s)(n:Nat):(iJ f n).length=n*s:=by
 induction n with
 | zero=>simp [iJ]
 | succ n ih=>
  rw [iE,aum,ih];simp [iJ,hf,Nat.add_mul]
theorem dr{f g:Nat→List Value}{n:Nat}(h: ∀i,i<n→f i=g i):iJ f n=iJ g n:=by
 unfold iJ;rw [List.flatMap_def,List.flatMap_def];congr 1;exact List.map_congr_left fun i hi=>h i (auG.1 hi)
theorem wu{f:Nat→List Value}{s:Nat}(hf: ∀i,(f i).length=s)(n L N:Nat)(h:L+N≤n):
  ((iJ f n).drop (L*s)).take (N*s)=iJ (fun i=>f (L+i)) N:=by
 obtain⟨d,rfl⟩: ∃d,n=L+N+d:=⟨n - (L+N),by omega⟩;rw [iE,iE];have h1:=oC hf L;have h2:(iJ (fun i=>f (L+i)) N).length=N*s:=oC (fun i=>hf (L+i)) N;generalize iJ f L=A at h1 ⊢;generalize iJ (fun i=>f (L+i)) N=B at h2 ⊢;rw [List.append_assoc,List.drop_append,List.drop_of_length_le (l:=A) (by omega),h1,Nat.sub_self,List.drop_zero,List.nil_append,List.take_append_of_le_length (by omega),List.take_of_length_le (by omega)]
theorem BK{f g h:Nat→List Value}{s:Nat}(hf: ∀i,(f i).length=s)(n a m:Nat)(hle:a+m≤n)(hh: ∀i,h i=if a≤i∧i<a+m then g (i - a)else f i):
  iJ h n=(iJ f n).take (a*s)++iJ g m++(iJ f n).drop (a*s+m*s):=by
 obtain⟨d,rfl⟩: ∃d,n=a+m+d:=⟨n - (a+m),by omega⟩;have e1:iJ h a=iJ f a:=dr fun i hi=>by rw [hh,if_neg (by omega)]
 have e2:iJ (fun i=>h (a+i)) m=iJ g m:=dr fun i hi=>by rw [hh,if_pos (by omega)];congr 1;omega
 have e3:iJ (fun i=>h (a+m+i)) d=iJ (fun i=>f (a+m+i)) d:=dr fun i hi=>by rw [hh,if_neg (by omega)]
 rw [iE h,iE h,e1,e2,e3,iE f,iE f];have h1:=oC hf a;have h2:(iJ (fun i=>f (a+i)) m).length=m*s:=oC (fun i=>hf (a+i)) m;generalize iJ f a=A at h1 ⊢;generalize iJ (fun i=>f (a+i)) m=B at h2 ⊢;rw [List.append_assoc A B,List.take_append_of_le_length (by omega),List.take_of_length_le (l:=A) (by omega),List.drop_append,List.drop_of_length_le (l:=A) (by omega),h1,
  show a*s+m*s - a*s=m*s by omega,List.drop_append,List.drop_of_length_le (l:=B) (by omega),h2,Nat.sub_self,List.drop_zero,List.nil_append,List.nil_append]
section
variable {P:Program} {ρ:Env} {w:World} {look:Nat→Option SV} {bH:Operand→Value} {hp:List Ck} {S:Nat→Nat→Prop} {nb nv:Nat} {T:List TI}
theorem cT(n:Nat)(aA:List bP):aG ρ n aA=iJ (rowAt ρ aA) n:=rfl
theorem kQ{lo:E}(h0:0≤lo.den ρ 0): ∀{aA aS:List bP},jz lo aA=some aS→
  b_ aS=b_ aA∧∀i:Nat,rowAt ρ aS i=rowAt ρ aA ((lo.den ρ 0).toNat+i)
 | [],aS,h=>by
  simp [jz]at h;subst h;exact⟨rfl,fun _=>rfl⟩
 | c::r,aS,h=>by
  unfold jz at h;split at h
  ·rename_i c' r' h1 h2;cases h;obtain⟨i1,i2⟩:=kQ h0 h2;have hc:c'.w=c.w∧∀i,c'.cells ρ i=c.cells ρ ((lo.den ρ 0).toNat+i):=by
    obtain⟨ck,cw,a⟩:=c;unfold HL at h1;cases ck with
    | int k=>
     simp only [auq]at h1;subst h1;refine⟨rfl,fun i=>?_⟩;simp only [bP.cells,ay];apply cE;intro j _;rw [eT,iA];simp only [E.den];rw [toNat_mul];congr 1;rw [Nat.add_mul];omega
    | bool=>
     simp only [auq]at h1;subst h1;refine⟨rfl,fun i=>?_⟩;simp only [bP.cells,cY];apply List.map_congr_left;intro j _;rw [eT,iA];simp only [E.den];rw [toNat_mul];rw [show(lo.den ρ 0).toNat*cw+(i*cw+j)=((lo.den ρ 0).toNat+i)*cw+j by rw [Nat.add_mul];omega]
    | ptr=>
     simp only [auq]at h1;subst h1;refine⟨rfl,fun i=>?_⟩;simp only [bP.cells,vg];apply List.map_congr_left;intro j _;rw [eT,iA];simp only [E.den];rw [toNat_mul];rw [show(lo.den ρ 0).toNat*cw+(i*cw+j)=((lo.den ρ 0).toNat+i)*cw+j by rw [Nat.add_mul];omega]
    | cv=>
     simp only [auq]at h1;subst h1;refine⟨rfl,fun i=>?_⟩;simp only [bP.cells,eA];apply List.map_congr_left;intro j _;rw [eT,iA];simp only [E.den];rw [toNat_mul];rw [show(lo.den ρ 0).toNat*cw+(i*cw+j)=((lo.den ρ 0).toNat+i)*cw+j by rw [Nat.add_mul];omega]
    | bx=>
     simp only [auq]at h1;subst h1;exact⟨rfl,fun i=>rfl⟩
    | val v=>
     simp only at h1;split at h1
     ·rename_i M6;cases h1;subst M6;refine⟨rfl,fun i=>?_⟩;simp [bP.cells,E.den]
     ·cases h1
    | Ic l=>
     simp only at h1;split at h1
     ·rename_i M6;cases h1;subst M6;refine⟨rfl,fun i=>?_⟩;simp [bP.cells,E.den]
     ·cases h1
    | pt q v=>
     simp only at h1;split at h1
     ·rename_i M6;cases h1;subst M6;refine⟨rfl,fun i=>?_⟩;simp [bP.cells,E.den]
     ·cases h1
    | str=>
     simp only at h1;split at h1
     ·rename_i M6;cases h1;subst M6;refine⟨rfl,fun i=>?_⟩;simp [bP.cells,E.den]
     ·cases h1
   refine⟨?_,fun i=>?_⟩
   ·simp only [b_,auK,au7,hc.1]at i1 ⊢;omega
   ·simp only [rowAt,auK,List.flatMap_cons]at i2 ⊢;rw [hc.2,i2]
  ·cases h
theorem HM{at_ m:E}(h0:0≤at_.den ρ 0)(hm:0≤m.den ρ 0){d s c:bP}(h:J_ at_ m d s=some c):
  c.w=d.w∧s.w=d.w∧∀i:Nat,c.cells ρ i=if(at_.den ρ 0).toNat≤i∧i<(at_.den ρ 0).toNat+(m.den ρ 0).toNat then s.cells ρ (i - (at_.den ρ 0).toNat)else d.cells ρ i:=by
 obtain⟨dk,dw,da⟩:=d;obtain⟨sk,sw,sa⟩:=s;unfold J_ at h;split at h
 ·cases h
 ·rename_i hw;simp only [ne_eq,Decidable.not_not]at hw;subst hw;have key: ∀(i j:Nat),j<dw→(E.jI da (rB at_ (.lit dw)) (rB m (.lit dw)) sa).den ρ (i*dw+j)=
    if(at_.den ρ 0).toNat≤i∧i<(at_.den ρ 0).toNat+(m.den ρ 0).toNat then sa.den ρ ((i - (at_.den ρ 0).toNat)*dw+j)else da.den ρ (i*dw+j):=by
   intro i j hj;simp only [E.den,iA,toNat_mul];generalize (at_.den ρ 0).toNat=A;generalize (m.den ρ 0).toNat=M;by_cases hc:A≤i∧i<A+M
   ·obtain⟨h1,h2⟩:=hc;obtain⟨d,rfl⟩: ∃d,i=A+d:=⟨i - A,by omega⟩;have hd:d+1≤M:=by omega
    have:=Nat.mul_le_mul_right dw hd;rw [Nat.add_mul]at this;have L1:A*dw≤(A+d)*dw+j∧(A+d)*dw+j<A*dw+M*dw:=by rw [Nat.add_mul];omega
    rw [if_pos L1,if_pos ⟨by omega,by omega⟩];congr 1;rw [show A+d - A=d by omega,Nat.add_mul];omega
   ·rw [if_neg hc,if_neg];intro hc';apply hc;constructor
    ·apply Nat.le_of_not_lt;intro cF;have:=Nat.mul_le_mul_right dw (Nat.succ_le_of_lt cF);rw [Nat.succ_mul]at this;omega
    ·apply Nat.lt_of_not_le;intro hle;have:=Nat.mul_le_mul_right dw hle;rw [Nat.add_mul]at this;omega
  split at h
  ·split at h
   ·rename_i k k' hk kY dE;simp only at hk kY;subst hk kY dE;cases h;refine⟨rfl,rfl,fun i=>?_⟩;simp only [bP.cells,ay];split
    ·rename_i hc;apply cE;intro j hj;rw [key i j hj,if_pos hc]
    ·rename_i hc;apply cE;intro j hj;rw [key i j hj,if_neg hc]
   ·cases h
  ·rename_i hk kY;simp only at hk kY;subst hk kY;cases h;refine⟨rfl,rfl,fun i=>?_⟩;simp only [bP.cells,cY];split
   ·rename_i hc;apply List.map_congr_left;intro j hj;rw [key i j (auG.1 hj),if_pos hc]
   ·rename_i hc;apply List.map_congr_left;intro j hj;rw [key i j (auG.1 hj),if_neg hc]
  ·rename_i hk kY;simp only at hk kY;subst hk kY;cases h;refine⟨rfl,rfl,fun i=>?_⟩;simp only [bP.cells,vg];split
   ·rename_i hc;apply List.map_congr_left;intro j hj;rw [key i j (auG.1 hj),if_pos hc]
   ·rename_i hc;apply List.map_congr_left;intro j hj;rw [key i j (auG.1 hj),if_neg hc]
  ·rename_i hk kY;simp only at hk kY;subst hk kY;cases h;refine⟨rfl,rfl,fun i=>?_⟩;simp only [bP.cells,eA];split<;>first | rfl | (simp only [hw]) | (congr 1)
  ·rename_i hk kY;simp only at hk kY;subst hk kY;split at h
   ·rename_i hc;obtain⟨rfl,zp⟩:=hc;simp only at zp;subst zp;cases h;refine⟨rfl,rfl,fun i=>?_⟩;by_cases hi:i=(at_.den ρ 0).toNat
    ·rw [if_pos (by rw [dj,hi];constructor<;>simp)];simp [bP.cells,eA,kJ,kF,zU,dj,hi]
    ·rw [if_neg (by rw [dj];intro hc;apply hi;have:=hc.2;simp at this;omega)];simp [bP.cells,eA,kJ,kF,hi]
   ·split at h
    ·rename_i IN;subst IN;cases h;refine⟨rfl,rfl,fun i=>?_⟩;rw [if_neg (by simp only [dj];intro hc;have:=hc.2;simp at this;omega)]
    ·cases h
  ·cases h
theorem ij{at_ m:E}(h0:0≤at_.den ρ 0)(hm:0≤m.den ρ 0): ∀{d s c:List bP},jc at_ m d s=some c→
  b_ c=b_ d∧b_ s=b_ d∧
   ∀i:Nat,rowAt ρ c i=if(at_.den ρ 0).toNat≤i∧i<(at_.den ρ 0).toNat+(m.den ρ 0).toNat then rowAt ρ s (i - (at_.den ρ 0).toNat)else rowAt ρ d i
 | [],[],c,h=>by
  simp [jc]at h;subst h;exact⟨rfl,rfl,fun _=>by simp [rowAt]⟩
 | [],_::_,c,h=>by simp [jc]at h
 | _::_,[],c,h=>by simp [jc]at h
 | d::r,s::r',c,h=>by
  unfold jc at h;split at h
  ·rename_i a b h1 h2;cases h;obtain⟨p1,p2,p3⟩:=HM h0 hm h1;obtain⟨q1,q2,q3⟩:=ij h0 hm h2;simp only [b_,auK,au7]at q1 q2 ⊢;refine⟨by omega,by omega,fun i=>?_⟩;simp only [rowAt,auK,List.flatMap_cons]at q3 ⊢;rw [p3,q3];split<;>rfl
  ·cases h
theorem wv{s:Nat}: ∀(k i:Nat) {cs:List SV} {aA aS:List bP},wq s k i cs aA=some aS→s=b_ aA→
  b_ aS=b_ aA∧(∀i':Nat,i'<i→rowAt ρ aS i'=rowAt ρ aA i')∧iJ (fun j=>rowAt ρ aS (i+j)) k=(SV.ao ρ cs).take (k*s)
 | 0,i,cs,aA,aS,h,hs=>by
  simp [wq]at h;subst h;simp [iJ]
 | k+1,i,cs,aA,aS,h,hs=>by
  unfold wq at h;split at h
  ·rename_i a b h1 h2;split at h
   ·rename_i anW h3;obtain⟨p1,p2,p3,p4⟩:=jv ρ h3;obtain⟨q1,q2,q3⟩:=wv k (i+1) h (by omega);have e0:((E.lit (i:Int)).den ρ 0).toNat=i:=by simp [E.den]
    rw [e0]at p3 p4;obtain⟨c1,c2⟩:=fj ρ h1;have c3:=ft ρ _ _ _ h2;rw [List.drop_zero]at c1;rw [Nat.zero_add]at c2;have hal:(SV.ao ρ a).length=s:=by rw [c1,List.length_take];omega
    refine⟨by omega,fun i' hi=>by rw [q2 i' (by omega),p3 i' (by omega)],?_⟩;rw [Nat.add_comm k 1,iE];have e1:iJ (fun j=>rowAt ρ aS (i+j)) 1=SV.ao ρ a:=by
     have:rowAt ρ aS i=SV.ao ρ a:=by
      rw [q2 i (by omega),p4,List.drop_eq_nil_of_le,List.append_nil];rw [show(rowAt ρ aA i).length=b_ aA from dQ ρ aA _];omega
     simp [iJ,this]
    have e2:iJ (fun j=>rowAt ρ aS (i+(1+j))) k=iJ (fun j=>rowAt ρ aS (i+1+j)) k:=dr fun j _=>by rw [Nat.add_assoc]
    rw [e1,e2,q3,c3,c1,Nat.add_mul,Nat.one_mul,List.take_add]
   ·cases h
  ·cases h
def World.yC(w:World)(v:Value)(n:Nat)(cs:List Value):Prop:=
 ∃a c,v= .slice a n c∧(a=none→n=0)∧∀ad,a=some ad→∀(j:Nat) u,cs[j]? =some u→w.cell? (ad.add j)=some u
structure Yj (ρ:Env) (w:World) (v:Value) (s:Nat) (n:E) (aA:List bP):Prop where
 nn:0≤n.den ρ 0
 wd:b_ aA=s
 rd:World.yC w v (n.den ρ 0).toNat (aG ρ (n.den ρ 0).toNat aA)
theorem E3{md:Bool}{t s n:Nat}{v:Value}{cs:List Value}{S:Nat→Prop}(h:(aB md t s v n cs).p w S):World.yC w v n cs∧cs.length=n*s:=by
 obtain⟨h0,_⟩:=h;cases md with
 | true=>
  simp only [if_true]at h0;have PV:=h0;obtain⟨hl,hr⟩:=h0;refine⟨?_,hl⟩;rcases hr with⟨rfl,rfl⟩ | ⟨g,o,cap,cur,rfl,hg,Fp,_⟩
  ·exact⟨none,0,rfl,fun _=>rfl,by simp⟩
  ·refine⟨_,cap,rfl,by simp,?_⟩;rintro _ ⟨⟩;exact fun j u hu=>kH PV j u hu
 | false=>
  simp only [Bool.false_eq_true,if_false]at h0;obtain⟨hl,a,m,c,rfl,rfl,_,kI,hr⟩:=h0;exact⟨⟨a,c,rfl,kI,fun ad had=>(hr ad had).2⟩,hl⟩
theorem abA{s:Nat}{v x:Value}{n:E}{p:Part}{cs:List Value}(h:nA ρ s v x n p)(hv:World.yC w v (n.den ρ 0).toNat cs):
  World.yC w x (p.len.den ρ 0).toNat ((cs.drop ((p.lo.den ρ 0).toNat*s)).take ((p.len.den ρ 0).toNat*s)):=by
 obtain⟨h1,h2,h3,a,c,k,rfl,hc,rfl,hk⟩:=h;obtain⟨a',c',he,kI,hr⟩:=hv;cases he;have MJ:(p.lo.den ρ 0).toNat+(p.len.den ρ 0).toNat≤((p.mx.map fun m=>m.den ρ 0).map ag).getD c∨(p.len.den ρ 0).toNat=0:=by
  cases hm:(p.mx.map fun m=>m.den ρ 0)with
  | none=>simp only [Option.map_none,Option.getD_none];omega
  | some m=>have:=h3 m hm;simp only [Option.map_some,au8];omega
 refine⟨_,_,rfl,?_,?_⟩
 ·intro hn;cases a with
  | none=>have:=kI rfl;omega
  | some a=>cases hn
 ·intro ad had;rw [aus]at had;obtain⟨a0,rfl,rfl⟩:=had;have lX:=hr a0 rfl;intro j u hu;rw [List.getElem?_take]at hu;split at hu
  ·rename_i hj;have hN:(p.len.den ρ 0).toNat≠0:=by intro h;rw [h,Nat.zero_mul]at hj;omega
   rw [List.getElem?_drop]at hu;rw [hk (.inl (by omega)),dM];exact lX _ _ hu
  ·cases hu
theorem qh(aA:List bP)(n:Nat): ∀u∈aG ρ n aA,u.oneCell'=true:=by
 intro u hu;unfold aG aM at hu;rw [List.mem_flatMap]at hu;obtain⟨i,_,hu⟩:=hu;rw [List.mem_flatMap]at hu;obtain⟨c,hc,hu⟩:=hu;rw [auL]at hc;obtain⟨⟨ck,cw,a⟩,_,rfl⟩:=hc;cases ck with
 | int k=>
  simp only [bP.cells,ay,aj,auL]at hu;obtain⟨_,_,rfl⟩:=hu;rfl
 | bool=>
  simp only [bP.cells,cY,auL]at hu;obtain⟨_,_,rfl⟩:=hu;rfl
 | val v=>
  simp only [bP.cells,eA,auL]at hu;obtain⟨j,_,rfl⟩:=hu;exact V1.one _
 | ptr=>
  simp only [bP.cells,vg,auL]at hu;obtain⟨j,_,rfl⟩:=hu;exact FK _
 | cv=>
  simp only [bP.cells,eA,auL]at hu;obtain⟨j,_,rfl⟩:=hu;exact kG _
 | Ic l=>
  simp only [bP.cells,eA,auL]at hu;obtain⟨j,_,rfl⟩:=hu;exact V1.one _
 | pt q v=>
  simp only [bP.cells,eA,auL]at hu;obtain⟨j,_,rfl⟩:=hu;split
  ·exact V1.one _
  ·exact kG _
 | bx=>
  simp only [bP.cells,eA,auL]at hu;obtain⟨j,_,rfl⟩:=hu;rfl
 | str=>
  simp only [bP.cells,eA,auL]at hu;obtain⟨j,_,rfl⟩:=hu;rfl
theorem HN{x:SV}{r:Rt}(h:ic hp x=some r)(db:Reads hp ρ w S [r.j])(cd: ∀b∈r.vcs,b.prop ρ)(h0:0≤r.p.len.den ρ 0)(hw:r.s=b_ r.aA)
  {aA:List bP} (hc:jz r.p.lo r.aA=some aA):Yj ρ w (x.val ρ) r.s r.p.len aA:=by
 obtain⟨hj,fi⟩:=gf h db cd;have hS:=db r.j (by simp) _ hj;obtain⟨hv,hl⟩:=E3 hS;obtain⟨e1,e2⟩:=kQ fi.lo hc;refine⟨h0,by omega,?_⟩;have:=abA fi hv;have h2:=fi.hi;have h1:=fi.lo;rw [cT,hw,wu (dQ ρ r.aA) _ _ _ (by omega)]at this;rw [cT,dr fun i _=>e2 i];exact this
theorem ei(k:IntKind)(n:Nat)(a:E):aG ρ n [⟨.int k,1,a⟩]=aj k n (a.den ρ):=by
 unfold aG aM aj
 induction n with
 | zero=>rfl
 | succ n ih=>
  rw [List.range_succ,List.flatMap_append,List.map_append,ih];simp [bP.cells,ay,aj]
theorem gG{te:TI}{y:SV}{sc:Src}(h:Ds T hp te y=some sc)(db:Reads hp ρ w S sc.rd)(cd: ∀b∈sc.vcs,b.prop ρ)
  (h0:0≤sc.n.den ρ 0):Yj ρ w (y.val ρ) te.size sc.n sc.aA:=by
 unfold Ds at h;split at h
 ·split at h
  ·split at h
   ·rename_i hw;cases h;refine⟨by simp [E.den],hw.symm,none,0,by simp [SV.val,E.den],by simp [E.den],by simp⟩
   ·cases h
  ·cases h
 ·rename_i b i s m cap;split at h
  ·rename_i j b' wr cs hf;obtain⟨hj,dH⟩:=dD hf;simp only [Ck.s5,beq_iff_eq]at dH;subst dH;split at h
   ·cases h
   ·rename_i hs;simp only [ne_eq,Decidable.not_not]at hs;subst hs;split at h
    ·rename_i i0 m0 OY IN;have di:=bZ (ρ:=ρ) OY;have dm:=bZ (ρ:=ρ) IN;have nP:(SV.sl b i te.size m cap).val ρ= .slice (some ⟨ρ.bv.getD b 0,i0*te.size,none⟩) m0 (cap.den ρ 0).toNat:=by simp [SV.val,di,dm]
     have base: ∀(x:List SV),j6 (i0*te.size) (m0*te.size) cs=some x→(ak (ρ.bv.getD b 0) wr (SV.ao ρ cs)).p w (S j)→
       (SV.ao ρ x).length=m0*te.size∧∀(k:Nat) u,(SV.ao ρ x)[k]? =some u→w.cell? ((⟨ρ.bv.getD b 0,i0*te.size,none⟩:Addr).add k)=some u:=by
      intro x hx hS;obtain⟨c1,c2⟩:=fj ρ hx;refine⟨by rw [c1,List.length_take,List.length_drop];omega,fun k u hu=>?_⟩;rw [c1,List.getElem?_take]at hu;split at hu
      ·exact j7 hS _ k u hu
      ·cases hu
     split at h
     ·rename_i k N a hx;split at h
      ·rename_i hc;obtain⟨kZ,rfl⟩:=hc;cases h;obtain⟨_,hb⟩:=base _ hx (db j (by simp) _ hj);refine⟨h0,by simp [b_,kZ],_,_,nP,by simp,?_⟩;rintro _ ⟨⟩ k' u hu;rw [ei]at hu;refine hb k' u ?_;simpa [SV.ao,SV.cells,E.den] using hu
      ·cases h
     ·rename_i x _ hx;split at h
      ·split at h
       ·rename_i afx fu;split at h
        ·rename_i hw;rw [aus]at h;obtain⟨aS,nh,rfl⟩:=h;obtain⟨hl,hb⟩:=base _ hx (db j (by simp) _ hj);obtain⟨q1,_,q3⟩:=wv (ρ:=ρ) m0 0 nh hw;refine⟨h0,q1.trans hw.symm,_,_,nP,by simp,?_⟩;rintro _ ⟨⟩ k' u hu;refine hb k' u ?_;simp only [Nat.zero_add]at q3;rw [List.take_of_length_le (by omega)]at q3;simp only [E.den,auD]at hu;rw [cT]at hu;rw [←q3];exact hu
        ·cases h
       ·cases h
      ·cases h
     ·cases h
    ·split at h
     ·rename_i k N a;split at h
      ·rename_i kZ;cases h;simp only at cd h0;obtain⟨v1,v3⟩:=bA cd;obtain⟨v1,v2⟩:=bA v1;have v1:=bf v1;have v3:=bf v3;rw [bG]at v3;simp only [E.den]at v1 v3;have hS:=db j (by simp) _ hj;refine⟨h0,by simp [b_,kZ],_,_,rfl,by simp,?_⟩;rintro _ ⟨⟩ k' u hu;rw [ei,bF]at hu;split at hu
       ·rename_i hk;have hk:k'<(m.den ρ 0).toNat:=hk;simp only [auq]at hu;refine j7 hS _ k' u ?_;rw [kZ,Nat.mul_one,List.getElem?_drop];simp only [SV.ao,SV.cells,List.append_nil];rw [bF,if_pos (by omega),←hu,eT]
       ·cases hu
      ·cases h
     ·cases h
  ·cases h
 ·split at h
  ·rename_i r hr;split at h
   ·rename_i hc;obtain⟨hs,hw⟩:=hc;rw [aus]at h;obtain⟨aA,fu,rfl⟩:=h;simp only at cd h0;obtain⟨v1,_⟩:=bA cd;rw [←hs];exact HN hr db v1 h0 hw fu
   ·cases h
  ·cases h
end
end Go.RX
