/- Executor. -/
import Derived.Test.YtmgbbbmdbpbeeaaGreatM07
open Int renaming toNat → ag, toNat_natCast → afe
open List renaming map_cons → afj, mem_range → afg
open Option renaming getD_some → afG, map_eq_some_iff → aeY
open Option.some renaming injEq → aeX
namespace Go.RX
def fT(f:Nat→List Value)(n:Nat):List Value:=(List.range n).flatMap f
theorem fP(f:Nat→List Value)(a b:Nat):fT f (a+b)=fT f a++fT (fun i=>f (a+i)) b:=by
 unfold fT;rw [List.range_add,List.flatMap_append,List.flatMap_map]
theorem lZ{f:Nat→List Value}{s:Nat}(hf: ∀i,(f i).length=s)(n:Nat):(fT f n).length=n*s:=by
 induction n with
 | zero=>simp [fT]
 | succ n ih=>
  rw [fP,List.length_append,ih];simp [fT,hf,Nat.add_mul]
theorem cH{f g:Nat→List Value}{n:Nat}(h: ∀i,i<n→f i=g i):fT f n=fT g n:=by
 unfold fT;rw [List.flatMap_def,List.flatMap_def];congr 1;exact List.map_congr_left fun i hi=>h i (afg.1 hi)
theorem s_{f:Nat→List Value}{s:Nat}(hf: ∀i,(f i).length=s)(n L N:Nat)(h:L+N≤n):
  ((fT f n).drop (L*s)).take (N*s)=fT (fun i=>f (L+i)) N:=by
 obtain⟨d,rfl⟩: ∃d,n=L+N+d:=⟨n - (L+N),by omega⟩;rw [fP,fP];have h1:=lZ hf L;have h2:(fT (fun i=>f (L+i)) N).length=N*s:=lZ (fun i=>hf (L+i)) N;generalize fT f L=A at h1 ⊢;generalize fT (fun i=>f (L+i)) N=B at h2 ⊢;rw [List.append_assoc,List.drop_append,List.drop_of_length_le (l:=A) (by omega),h1,Nat.sub_self,List.drop_zero,List.nil_append,List.take_append_of_le_length (by omega),List.take_of_length_le (by omega)]
theorem yI{f g h:Nat→List Value}{s:Nat}(hf: ∀i,(f i).length=s)(n a m:Nat)(hle:a+m≤n)(hh: ∀i,h i=if a≤i∧i<a+m then g (i - a)else f i):
  fT h n=(fT f n).take (a*s)++fT g m++(fT f n).drop (a*s+m*s):=by
 obtain⟨d,rfl⟩: ∃d,n=a+m+d:=⟨n - (a+m),by omega⟩;have e1:fT h a=fT f a:=cH fun i hi=>by rw [hh,if_neg (by omega)]
 have e2:fT (fun i=>h (a+i)) m=fT g m:=cH fun i hi=>by rw [hh,if_pos (by omega)];congr 1;omega
 have e3:fT (fun i=>h (a+m+i)) d=fT (fun i=>f (a+m+i)) d:=cH fun i hi=>by rw [hh,if_neg (by omega)]
 rw [fP h,fP h,e1,e2,e3,fP f,fP f];have h1:=lZ hf a;have h2:(fT (fun i=>f (a+i)) m).length=m*s:=lZ (fun i=>hf (a+i)) m;generalize fT f a=A at h1 ⊢;generalize fT (fun i=>f (a+i)) m=B at h2 ⊢;rw [List.append_assoc A B,List.take_append_of_le_length (by omega),List.take_of_length_le (l:=A) (by omega),List.drop_append,List.drop_of_length_le (l:=A) (by omega),h1,
  show a*s+m*s - a*s=m*s by omega,List.drop_append,List.drop_of_length_le (l:=B) (by omega),h2,Nat.sub_self,List.drop_zero,List.nil_append,List.nil_append]
section
variable {P:Program} {ρ:Env} {w:World} {look:Nat→Option SV} {vals:Operand→Value} {hp:List Ck} {S:Nat→Nat→Prop} {nb nv:Nat} {T:List TI}
theorem ct(n:Nat)(aF:List bV):aM ρ n aF=fT (rowAt ρ aF) n:=rfl
theorem jh{lo:E}(h0:0≤lo.den ρ 0): ∀{aF aZ:List bV},gU lo aF=some aZ→
  bW aZ=bW aF∧∀i:Nat,rowAt ρ aZ i=rowAt ρ aF ((lo.den ρ 0).toNat+i)
 | [],aZ,h=>by
  simp [gU]at h;subst h;exact⟨rfl,fun _=>rfl⟩
 | c::r,aZ,h=>by
  unfold gU at h;split at h
  ·rename_i c' r' h1 h2;cases h;obtain⟨i1,i2⟩:=jh h0 h2;have hc:c'.w=c.w∧∀i,c'.cells ρ i=c.cells ρ ((lo.den ρ 0).toNat+i):=by
    obtain⟨ck,cw,a⟩:=c;unfold Fa at h1;cases ck with
    | int k=>
     simp only [aeX]at h1;subst h1;refine⟨rfl,fun i=>?_⟩;simp only [bV.cells,aO];apply bF;intro j _;rw [dP,fN];simp only [E.den];rw [toNat_mul];congr 1;rw [Nat.add_mul];omega
    | bool=>
     simp only [aeX]at h1;subst h1;refine⟨rfl,fun i=>?_⟩;simp only [bV.cells,zf];apply List.map_congr_left;intro j _;rw [dP,fN];simp only [E.den];rw [toNat_mul];rw [show(lo.den ρ 0).toNat*cw+(i*cw+j)=((lo.den ρ 0).toNat+i)*cw+j by rw [Nat.add_mul];omega]
    | ptr=>
     simp only [aeX]at h1;subst h1;refine⟨rfl,fun i=>?_⟩;simp only [bV.cells,xn];apply List.map_congr_left;intro j _;rw [dP,fN];simp only [E.den];rw [toNat_mul];rw [show(lo.den ρ 0).toNat*cw+(i*cw+j)=((lo.den ρ 0).toNat+i)*cw+j by rw [Nat.add_mul];omega]
    | cv=>
     simp only [aeX]at h1;subst h1;refine⟨rfl,fun i=>?_⟩;simp only [bV.cells,ic];apply List.map_congr_left;intro j _;rw [dP,fN];simp only [E.den];rw [toNat_mul];rw [show(lo.den ρ 0).toNat*cw+(i*cw+j)=((lo.den ρ 0).toNat+i)*cw+j by rw [Nat.add_mul];omega]
    | b_=>
     simp only [aeX]at h1;subst h1;exact⟨rfl,fun i=>rfl⟩
    | val v=>
     simp only at h1;split at h1
     ·rename_i Qj;cases h1;subst Qj;refine⟨rfl,fun i=>?_⟩;simp [bV.cells,E.den]
     ·cases h1
    | Ba l=>
     simp only at h1;split at h1
     ·rename_i Qj;cases h1;subst Qj;refine⟨rfl,fun i=>?_⟩;simp [bV.cells,E.den]
     ·cases h1
    | str=>
     simp only at h1;split at h1
     ·rename_i Qj;cases h1;subst Qj;refine⟨rfl,fun i=>?_⟩;simp [bV.cells,E.den]
     ·cases h1
   refine⟨?_,fun i=>?_⟩
   ·simp only [bW,afj,List.sum_cons,hc.1]at i1 ⊢;omega
   ·simp only [rowAt,afj,List.flatMap_cons]at i2 ⊢;rw [hc.2,i2]
  ·cases h
theorem Fb{at_ m:E}(h0:0≤at_.den ρ 0)(hm:0≤m.den ρ 0){d s c:bV}(h:Ha at_ m d s=some c):
  c.w=d.w∧s.w=d.w∧∀i:Nat,c.cells ρ i=if(at_.den ρ 0).toNat≤i∧i<(at_.den ρ 0).toNat+(m.den ρ 0).toNat then s.cells ρ (i - (at_.den ρ 0).toNat)else d.cells ρ i:=by
 obtain⟨dk,dw,da⟩:=d;obtain⟨sk,sw,sa⟩:=s;unfold Ha at h;split at h
 ·cases h
 ·rename_i hw;simp only [ne_eq,Decidable.not_not]at hw;subst hw;have key: ∀(i j:Nat),j<dw→(E.tw da (o6 at_ (.lit dw)) (o6 m (.lit dw)) sa).den ρ (i*dw+j)=
    if(at_.den ρ 0).toNat≤i∧i<(at_.den ρ 0).toNat+(m.den ρ 0).toNat then sa.den ρ ((i - (at_.den ρ 0).toNat)*dw+j)else da.den ρ (i*dw+j):=by
   intro i j hj;simp only [E.den,fN,toNat_mul];generalize (at_.den ρ 0).toNat=A;generalize (m.den ρ 0).toNat=M;by_cases hc:A≤i∧i<A+M
   ·obtain⟨h1,h2⟩:=hc;obtain⟨d,rfl⟩: ∃d,i=A+d:=⟨i - A,by omega⟩;have hd:d+1≤M:=by omega
    have:=Nat.mul_le_mul_right dw hd;rw [Nat.add_mul]at this;have L1:A*dw≤(A+d)*dw+j∧(A+d)*dw+j<A*dw+M*dw:=by rw [Nat.add_mul];omega
    rw [if_pos L1,if_pos ⟨by omega,by omega⟩];congr 1;rw [show A+d - A=d by omega,Nat.add_mul];omega
   ·rw [if_neg hc,if_neg];intro hc';apply hc;constructor
    ·apply Nat.le_of_not_lt;intro bU;have:=Nat.mul_le_mul_right dw (Nat.succ_le_of_lt bU);rw [Nat.succ_mul]at this;omega
    ·apply Nat.lt_of_not_le;intro hle;have:=Nat.mul_le_mul_right dw hle;rw [Nat.add_mul]at this;omega
  split at h
  ·split at h
   ·rename_i k k' hk mY cX;simp only at hk mY;subst hk mY cX;cases h;refine⟨rfl,rfl,fun i=>?_⟩;simp only [bV.cells,aO];split
    ·rename_i hc;apply bF;intro j hj;rw [key i j hj,if_pos hc]
    ·rename_i hc;apply bF;intro j hj;rw [key i j hj,if_neg hc]
   ·cases h
  ·rename_i hk mY;simp only at hk mY;subst hk mY;cases h;refine⟨rfl,rfl,fun i=>?_⟩;simp only [bV.cells,zf];split
   ·rename_i hc;apply List.map_congr_left;intro j hj;rw [key i j (afg.1 hj),if_pos hc]
   ·rename_i hc;apply List.map_congr_left;intro j hj;rw [key i j (afg.1 hj),if_neg hc]
  ·rename_i hk mY;simp only at hk mY;subst hk mY;cases h;refine⟨rfl,rfl,fun i=>?_⟩;simp only [bV.cells,xn];split
   ·rename_i hc;apply List.map_congr_left;intro j hj;rw [key i j (afg.1 hj),if_pos hc]
   ·rename_i hc;apply List.map_congr_left;intro j hj;rw [key i j (afg.1 hj),if_neg hc]
  ·rename_i hk mY;simp only at hk mY;subst hk mY;cases h;refine⟨rfl,rfl,fun i=>?_⟩;simp only [bV.cells,ic];split<;>first | rfl | (simp only [hw]) | (congr 1)
  ·rename_i hk mY;simp only at hk mY;subst hk mY;split at h
   ·rename_i hc;obtain⟨rfl,wC⟩:=hc;simp only at wC;subst wC;cases h;refine⟨rfl,rfl,fun i=>?_⟩;by_cases hi:i=(at_.den ρ 0).toNat
    ·rw [if_pos (by rw [cK,hi];constructor<;>simp)];simp [bV.cells,ic,iY,iV,xl,cK,hi]
    ·rw [if_neg (by rw [cK];intro hc;apply hi;have:=hc.2;simp at this;omega)];simp [bV.cells,ic,iY,iV,hi]
   ·split at h
    ·rename_i JU;subst JU;cases h;refine⟨rfl,rfl,fun i=>?_⟩;rw [if_neg (by simp only [cK];intro hc;have:=hc.2;simp at this;omega)]
    ·cases h
  ·cases h
theorem fG{at_ m:E}(h0:0≤at_.den ρ 0)(hm:0≤m.den ρ 0): ∀{d s c:List bV},gi at_ m d s=some c→
  bW c=bW d∧bW s=bW d∧
   ∀i:Nat,rowAt ρ c i=if(at_.den ρ 0).toNat≤i∧i<(at_.den ρ 0).toNat+(m.den ρ 0).toNat then rowAt ρ s (i - (at_.den ρ 0).toNat)else rowAt ρ d i
 | [],[],c,h=>by
  simp [gi]at h;subst h;exact⟨rfl,rfl,fun _=>by simp [rowAt]⟩
 | [],_::_,c,h=>by simp [gi]at h
 | _::_,[],c,h=>by simp [gi]at h
 | d::r,s::r',c,h=>by
  unfold gi at h;split at h
  ·rename_i a b h1 h2;cases h;obtain⟨p1,p2,p3⟩:=Fb h0 hm h1;obtain⟨q1,q2,q3⟩:=fG h0 hm h2;simp only [bW,afj,List.sum_cons]at q1 q2 ⊢;refine⟨by omega,by omega,fun i=>?_⟩;simp only [rowAt,afj,List.flatMap_cons]at q3 ⊢;rw [p3,q3];split<;>rfl
  ·cases h
theorem tc{s:Nat}: ∀(k i:Nat) {cs:List SV} {aF aZ:List bV},s8 s k i cs aF=some aZ→s=bW aF→
  bW aZ=bW aF∧(∀i':Nat,i'<i→rowAt ρ aZ i'=rowAt ρ aF i')∧fT (fun j=>rowAt ρ aZ (i+j)) k=(SV.aC ρ cs).take (k*s)
 | 0,i,cs,aF,aZ,h,hs=>by
  simp [s8]at h;subst h;simp [fT]
 | k+1,i,cs,aF,aZ,h,hs=>by
  unfold s8 at h;split at h
  ·rename_i a b h1 h2;split at h
   ·rename_i aa4 h3;obtain⟨p1,p2,p3,p4⟩:=jb ρ h3;obtain⟨q1,q2,q3⟩:=tc k (i+1) h (by omega);have e0:((E.lit (i:Int)).den ρ 0).toNat=i:=by simp [E.den]
    rw [e0]at p3 p4;obtain⟨c1,c2⟩:=eK ρ h1;have c3:=dY ρ _ _ _ h2;rw [List.drop_zero]at c1;rw [Nat.zero_add]at c2;have hal:(SV.aC ρ a).length=s:=by rw [c1,List.length_take];omega
    refine⟨by omega,fun i' hi=>by rw [q2 i' (by omega),p3 i' (by omega)],?_⟩;rw [Nat.add_comm k 1,fP];have e1:fT (fun j=>rowAt ρ aZ (i+j)) 1=SV.aC ρ a:=by
     have:rowAt ρ aZ i=SV.aC ρ a:=by
      rw [q2 i (by omega),p4,List.drop_eq_nil_of_le,List.append_nil];rw [show(rowAt ρ aF i).length=bW aF from dh ρ aF _];omega
     simp [fT,this]
    have e2:fT (fun j=>rowAt ρ aZ (i+(1+j))) k=fT (fun j=>rowAt ρ aZ (i+1+j)) k:=cH fun j _=>by rw [Nat.add_assoc]
    rw [e1,e2,q3,c3,c1,Nat.add_mul,Nat.one_mul,List.take_add]
   ·cases h
  ·cases h
def World.vC(w:World)(v:Value)(n:Nat)(cs:List Value):Prop:=
 ∃a c,v= .slice a n c∧(a=none→n=0)∧∀ad,a=some ad→∀(j:Nat) u,cs[j]? =some u→w.cell? (ad.add j)=some u
structure Sj (ρ:Env) (w:World) (v:Value) (s:Nat) (n:E) (aF:List bV):Prop where
 nn:0≤n.den ρ 0
 wd:bW aF=s
 rd:World.vC w v (n.den ρ 0).toNat (aM ρ (n.den ρ 0).toNat aF)
theorem Cz{md:Bool}{t s n:Nat}{v:Value}{cs:List Value}{S:Nat→Prop}(h:(aE md t s v n cs).p w S):World.vC w v n cs∧cs.length=n*s:=by
 obtain⟨h0,_⟩:=h;cases md with
 | true=>
  simp only [if_true]at h0;have RM:=h0;obtain⟨hl,hr⟩:=h0;refine⟨?_,hl⟩;rcases hr with⟨rfl,rfl⟩ | ⟨g,o,cap,cur,rfl,hg,CI,_⟩
  ·exact⟨none,0,rfl,fun _=>rfl,by simp⟩
  ·refine⟨_,cap,rfl,by simp,?_⟩;rintro _ ⟨⟩;exact fun j u hu=>iX RM j u hu
 | false=>
  simp only [Bool.false_eq_true,if_false]at h0;obtain⟨hl,a,m,c,rfl,rfl,_,ko,hr⟩:=h0;exact⟨⟨a,c,rfl,ko,fun ad pW=>(hr ad pW).2⟩,hl⟩
theorem Us{s:Nat}{v x:Value}{n:E}{p:Part}{cs:List Value}(h:lp ρ s v x n p)(hv:World.vC w v (n.den ρ 0).toNat cs):
  World.vC w x (p.len.den ρ 0).toNat ((cs.drop ((p.lo.den ρ 0).toNat*s)).take ((p.len.den ρ 0).toNat*s)):=by
 obtain⟨h1,h2,h3,a,c,k,rfl,hc,rfl,hk⟩:=h;obtain⟨a',c',he,ko,hr⟩:=hv;cases he;have JV:(p.lo.den ρ 0).toNat+(p.len.den ρ 0).toNat≤((p.mx.map fun m=>m.den ρ 0).map ag).getD c∨(p.len.den ρ 0).toNat=0:=by
  cases hm:(p.mx.map fun m=>m.den ρ 0)with
  | none=>simp only [Option.map_none,Option.getD_none];omega
  | some m=>have:=h3 m hm;simp only [Option.map_some,afG];omega
 refine⟨_,_,rfl,?_,?_⟩
 ·intro hn;cases a with
  | none=>have:=ko rfl;omega
  | some a=>cases hn
 ·intro ad pW;rw [aeY]at pW;obtain⟨a0,rfl,rfl⟩:=pW;have ln:=hr a0 rfl;intro j u hu;rw [List.getElem?_take]at hu;split at hu
  ·rename_i hj;have hN:(p.len.den ρ 0).toNat≠0:=by intro h;rw [h,Nat.zero_mul]at hj;omega
   rw [List.getElem?_drop]at hu;rw [hk (.inl (by omega)),dq];exact ln _ _ hu
  ·cases hu
theorem nX(aF:List bV)(n:Nat): ∀u∈aM ρ n aF,u.oneCell'=true:=by
 intro u hu;unfold aM aQ at hu;rw [List.mem_flatMap]at hu;obtain⟨i,_,hu⟩:=hu;rw [List.mem_flatMap]at hu;obtain⟨c,hc,hu⟩:=hu;rw [List.mem_map]at hc;obtain⟨⟨ck,cw,a⟩,_,rfl⟩:=hc;cases ck with
 | int k=>
  simp only [bV.cells,aO,al,List.mem_map]at hu;obtain⟨_,_,rfl⟩:=hu;rfl
 | bool=>
  simp only [bV.cells,zf,List.mem_map]at hu;obtain⟨_,_,rfl⟩:=hu;rfl
 | val v=>
  simp only [bV.cells,ic,List.mem_map]at hu;obtain⟨j,_,rfl⟩:=hu;exact V1.one _
 | ptr=>
  simp only [bV.cells,xn,List.mem_map]at hu;obtain⟨j,_,rfl⟩:=hu;exact Dx _
 | cv=>
  simp only [bV.cells,ic,List.mem_map]at hu;obtain⟨j,_,rfl⟩:=hu;exact Dy _
 | Ba l=>
  simp only [bV.cells,ic,List.mem_map]at hu;obtain⟨j,_,rfl⟩:=hu;exact V1.one _
 | b_=>
  simp only [bV.cells,ic,List.mem_map]at hu;obtain⟨j,_,rfl⟩:=hu;rfl
 | str=>
  simp only [bV.cells,ic,List.mem_map]at hu;obtain⟨j,_,rfl⟩:=hu;rfl
theorem Fc{x:SV}{r:Rt}(h:fE hp x=some r)(cV:Reads hp ρ w S [r.j])(bY: ∀b∈r.vcs,b.prop ρ)(h0:0≤r.p.len.den ρ 0)(hw:r.s=bW r.aF)
  {aF:List bV} (hc:gU r.p.lo r.aF=some aF):Sj ρ w (x.val ρ) r.s r.p.len aF:=by
 obtain⟨hj,dI⟩:=eQ h cV bY;have hS:=cV r.j (by simp) _ hj;obtain⟨hv,hl⟩:=Cz hS;obtain⟨e1,e2⟩:=jh dI.lo hc;refine⟨h0,by omega,?_⟩;have:=Us dI hv;have h2:=dI.hi;have h1:=dI.lo;rw [ct,hw,s_ (dh ρ r.aF) _ _ _ (by omega)]at this;rw [ct,cH fun i _=>e2 i];exact this
theorem eo(k:IntKind)(n:Nat)(a:E):aM ρ n [⟨.int k,1,a⟩]=al k n (a.den ρ):=by
 unfold aM aQ al
 induction n with
 | zero=>rfl
 | succ n ih=>
  rw [List.range_succ,List.flatMap_append,List.map_append,ih];simp [bV.cells,aO,al]
theorem fH{te:TI}{y:SV}{sc:Src}(h:AV T hp te y=some sc)(cV:Reads hp ρ w S sc.rd)(bY: ∀b∈sc.vcs,b.prop ρ)
  (h0:0≤sc.n.den ρ 0):Sj ρ w (y.val ρ) te.size sc.n sc.aF:=by
 unfold AV at h;split at h
 ·split at h
  ·split at h
   ·rename_i hw;cases h;refine⟨by simp [E.den],hw.symm,none,0,by simp [SV.val,E.den],by simp [E.den],by simp⟩
   ·cases h
  ·cases h
 ·rename_i b i s m cap;split at h
  ·rename_i j b' wr cs hf;obtain⟨hj,dC⟩:=cO hf;simp only [Ck.qv,beq_iff_eq]at dC;subst dC;split at h
   ·cases h
   ·rename_i hs;simp only [ne_eq,Decidable.not_not]at hs;subst hs;split at h
    ·rename_i i0 m0 La JU;have di:=cy (ρ:=ρ) La;have dm:=cy (ρ:=ρ) JU;have kf:(SV.sl b i te.size m cap).val ρ= .slice (some ⟨ρ.bv.getD b 0,i0*te.size,none⟩) m0 (cap.den ρ 0).toNat:=by simp [SV.val,di,dm]
     have base: ∀(x:List SV),i_ (i0*te.size) (m0*te.size) cs=some x→(ax (ρ.bv.getD b 0) wr (SV.aC ρ cs)).p w (S j)→
       (SV.aC ρ x).length=m0*te.size∧∀(k:Nat) u,(SV.aC ρ x)[k]? =some u→w.cell? ((⟨ρ.bv.getD b 0,i0*te.size,none⟩:Addr).add k)=some u:=by
      intro x hx hS;obtain⟨c1,c2⟩:=eK ρ hx;refine⟨by rw [c1,List.length_take,List.length_drop];omega,fun k u hu=>?_⟩;rw [c1,List.getElem?_take]at hu;split at hu
      ·exact iC hS _ k u hu
      ·cases hu
     split at h
     ·rename_i k N a hx;split at h
      ·rename_i hc;obtain⟨j_,rfl⟩:=hc;cases h;obtain⟨_,hb⟩:=base _ hx (cV j (by simp) _ hj);refine⟨h0,by simp [bW,j_],_,_,kf,by simp,?_⟩;rintro _ ⟨⟩ k' u hu;rw [eo]at hu;refine hb k' u ?_;simpa [SV.aC,SV.cells,E.den] using hu
      ·cases h
     ·rename_i x _ hx;split at h
      ·split at h
       ·rename_i W4 eB;split at h
        ·rename_i hw;rw [aeY]at h;obtain⟨aZ,kT,rfl⟩:=h;obtain⟨hl,hb⟩:=base _ hx (cV j (by simp) _ hj);obtain⟨q1,_,q3⟩:=tc (ρ:=ρ) m0 0 kT hw;refine⟨h0,q1.trans hw.symm,_,_,kf,by simp,?_⟩;rintro _ ⟨⟩ k' u hu;refine hb k' u ?_;simp only [Nat.zero_add]at q3;rw [List.take_of_length_le (by omega)]at q3;simp only [E.den,afe]at hu;rw [ct]at hu;rw [←q3];exact hu
        ·cases h
       ·cases h
      ·cases h
     ·cases h
    ·split at h
     ·rename_i k N a;split at h
      ·rename_i j_;cases h;simp only at bY h0;obtain⟨v1,v3⟩:=bD bY;obtain⟨v1,v2⟩:=bD v1;have v1:=bq v1;have v3:=bq v3;rw [bM]at v3;simp only [E.den]at v1 v3;have hS:=cV j (by simp) _ hj;refine⟨h0,by simp [bW,j_],_,_,rfl,by simp,?_⟩;rintro _ ⟨⟩ k' u hu;rw [eo,bu]at hu;split at hu
       ·rename_i hk;have hk:k'<(m.den ρ 0).toNat:=hk;simp only [aeX]at hu;refine iC hS _ k' u ?_;rw [j_,Nat.mul_one,List.getElem?_drop];simp only [SV.aC,SV.cells,List.append_nil];rw [bu,if_pos (by omega),←hu,dP]
       ·cases hu
      ·cases h
     ·cases h
  ·cases h
 ·split at h
  ·rename_i r hr;split at h
   ·rename_i hc;obtain⟨hs,hw⟩:=hc;rw [aeY]at h;obtain⟨aF,eB,rfl⟩:=h;simp only at bY h0;obtain⟨v1,_⟩:=bD bY;rw [←hs];exact Fc hr cV v1 h0 hw eB
   ·cases h
  ·cases h
end
end Go.RX
