/- Executor. -/
import Derived.Test.YtmgbbbmdbpbeeaaGreatM05
open Array renaming length_toList → ajv
open Go.Builtin renaming append_ → ajc
open Go.Result renaming andThen_ok → aiU
open Go.Sem renaming run_bind → ai2, run_pure → ajd
open Int renaming toNat → ag, toNat_natCast → aiX
open List renaming append_assoc → ajs, drop_of_length_le → ajy, eq_nil_of_length_eq_zero → ai6, map_congr_left → ajq, map_cons → ajb, mem_cons_of_mem → aiV, mem_map → ai_, mem_range → ai8, range → ajw, take_of_length_le → ajF
open Option renaming getD_some → ajh, map_eq_some_iff → aiO, map_some → ajI
open Option.some renaming injEq → aiP
namespace Go.RX
def fP(f:Nat→List Value)(n:Nat):List Value:=(ajw n).flatMap f
theorem fQ(f:Nat→List Value)(a b:Nat):fP f (a+b)=fP f a++fP (fun i=>f (a+i)) b:=by
 unfold fP;rw [List.range_add,List.flatMap_append,List.flatMap_map]
theorem mH{f:Nat→List Value}{s:Nat}(hf: ∀i,(f i).length=s)(n:Nat):(fP f n).length=n*s:=by
 induction n with
 | zero=>simp [fP]
 | succ n ih=>
  rw [fQ,List.length_append,ih];simp [fP,hf,Nat.add_mul]
theorem cA{f g:Nat→List Value}{n:Nat}(h: ∀i,i<n→f i=g i):fP f n=fP g n:=by
 unfold fP;rw [List.flatMap_def,List.flatMap_def];congr 1;exact ajq fun i hi=>h i (ai8.1 hi)
theorem sX{f:Nat→List Value}{s:Nat}(hf: ∀i,(f i).length=s)(n L N:Nat)(h:L+N≤n):
  ((fP f n).drop (L*s)).take (N*s)=fP (fun i=>f (L+i)) N:=by
 obtain⟨d,rfl⟩: ∃d,n=L+N+d:=⟨n - (L+N),by omega⟩;rw [fQ,fQ];have h1:=mH hf L;have h2:(fP (fun i=>f (L+i)) N).length=N*s:=mH (fun i=>hf (L+i)) N;generalize fP f L=A at h1 ⊢;generalize fP (fun i=>f (L+i)) N=B at h2 ⊢;rw [ajs,List.drop_append,ajy (l:=A) (by omega),h1,Nat.sub_self,List.drop_zero,List.nil_append,List.take_append_of_le_length (by omega),ajF (by omega)]
theorem yu{f g h:Nat→List Value}{s:Nat}(hf: ∀i,(f i).length=s)(n a m:Nat)(hle:a+m≤n)(hh: ∀i,h i=if a≤i∧i<a+m then g (i - a)else f i):
  fP h n=(fP f n).take (a*s)++fP g m++(fP f n).drop (a*s+m*s):=by
 obtain⟨d,rfl⟩: ∃d,n=a+m+d:=⟨n - (a+m),by omega⟩;have e1:fP h a=fP f a:=cA fun i hi=>by rw [hh,if_neg (by omega)]
 have e2:fP (fun i=>h (a+i)) m=fP g m:=cA fun i hi=>by rw [hh,if_pos (by omega)];congr 1;omega
 have e3:fP (fun i=>h (a+m+i)) d=fP (fun i=>f (a+m+i)) d:=cA fun i hi=>by rw [hh,if_neg (by omega)]
 rw [fQ h,fQ h,e1,e2,e3,fQ f,fQ f];have h1:=mH hf a;have h2:(fP (fun i=>f (a+i)) m).length=m*s:=mH (fun i=>hf (a+i)) m;generalize fP f a=A at h1 ⊢;generalize fP (fun i=>f (a+i)) m=B at h2 ⊢;rw [ajs A B,List.take_append_of_le_length (by omega),ajF (l:=A) (by omega),List.drop_append,ajy (l:=A) (by omega),h1,
  show a*s+m*s - a*s=m*s by omega,List.drop_append,ajy (l:=B) (by omega),h2,Nat.sub_self,List.drop_zero,List.nil_append,List.nil_append]
section
variable {P:Program} {ρ:Env} {w:World} {look:Nat→Option SV} {bH:Operand→Value} {hp:List Ck} {S:Nat→Nat→Prop} {nb nv:Nat} {T:List TI}
theorem cj(n:Nat)(aD:List bR):aK ρ n aD=fP (rowAt ρ aD) n:=rfl
theorem js{lo:E}(h0:0≤lo.den ρ 0): ∀{aD aT:List bR},gV lo aD=some aT→
  bT aT=bT aD∧∀i:Nat,rowAt ρ aT i=rowAt ρ aD ((lo.den ρ 0).toNat+i)
 | [],aT,h=>by
  simp [gV]at h;subst h;exact⟨rfl,fun _=>rfl⟩
 | c::r,aT,h=>by
  unfold gV at h;split at h
  ·rename_i c' r' h1 h2;cases h;obtain⟨i1,i2⟩:=js h0 h2;have hc:c'.w=c.w∧∀i,c'.cells ρ i=c.cells ρ ((lo.den ρ 0).toNat+i):=by
    obtain⟨ck,cw,a⟩:=c;unfold D2 at h1;cases ck with
    | int k=>
     simp only [aiP]at h1;subst h1;refine⟨rfl,fun i=>?_⟩;simp only [bR.cells,bd];apply aP;intro j _;rw [dF,fN];simp only [E.den];rw [toNat_mul];congr 1;rw [Nat.add_mul];omega
    | bool=>
     simp only [aiP]at h1;subst h1;refine⟨rfl,fun i=>?_⟩;simp only [bR.cells,z_];apply ajq;intro j _;rw [dF,fN];simp only [E.den];rw [toNat_mul];rw [show(lo.den ρ 0).toNat*cw+(i*cw+j)=((lo.den ρ 0).toNat+i)*cw+j by rw [Nat.add_mul];omega]
    | ptr=>
     simp only [aiP]at h1;subst h1;refine⟨rfl,fun i=>?_⟩;simp only [bR.cells,xV];apply ajq;intro j _;rw [dF,fN];simp only [E.den];rw [toNat_mul];rw [show(lo.den ρ 0).toNat*cw+(i*cw+j)=((lo.den ρ 0).toNat+i)*cw+j by rw [Nat.add_mul];omega]
    | cv=>
     simp only [aiP]at h1;subst h1;refine⟨rfl,fun i=>?_⟩;simp only [bR.cells,cJ];apply ajq;intro j _;rw [dF,fN];simp only [E.den];rw [toNat_mul];rw [show(lo.den ρ 0).toNat*cw+(i*cw+j)=((lo.den ρ 0).toNat+i)*cw+j by rw [Nat.add_mul];omega]
    | bU=>
     simp only [aiP]at h1;subst h1;exact⟨rfl,fun i=>rfl⟩
    | val v=>
     simp only at h1;split at h1
     ·rename_i M9;cases h1;subst M9;refine⟨rfl,fun i=>?_⟩;simp [bR.cells,E.den]
     ·cases h1
    | Gt l=>
     simp only at h1;split at h1
     ·rename_i M9;cases h1;subst M9;refine⟨rfl,fun i=>?_⟩;simp [bR.cells,E.den]
     ·cases h1
    | pt q v=>
     simp only at h1;split at h1
     ·rename_i M9;cases h1;subst M9;refine⟨rfl,fun i=>?_⟩;simp [bR.cells,E.den]
     ·cases h1
    | str=>
     simp only at h1;split at h1
     ·rename_i M9;cases h1;subst M9;refine⟨rfl,fun i=>?_⟩;simp [bR.cells,E.den]
     ·cases h1
   refine⟨?_,fun i=>?_⟩
   ·simp only [bT,ajb,List.sum_cons,hc.1]at i1 ⊢;omega
   ·simp only [rowAt,ajb,List.flatMap_cons]at i2 ⊢;rw [hc.2,i2]
  ·cases h
theorem D3{at_ m:E}(h0:0≤at_.den ρ 0)(hm:0≤m.den ρ 0){d s c:bR}(h:G6 at_ m d s=some c):
  c.w=d.w∧s.w=d.w∧∀i:Nat,c.cells ρ i=if(at_.den ρ 0).toNat≤i∧i<(at_.den ρ 0).toNat+(m.den ρ 0).toNat then s.cells ρ (i - (at_.den ρ 0).toNat)else d.cells ρ i:=by
 obtain⟨dk,dw,da⟩:=d;obtain⟨sk,sw,sa⟩:=s;unfold G6 at h;split at h
 ·cases h
 ·rename_i hw;simp only [ne_eq,Decidable.not_not]at hw;subst hw;have key: ∀(i j:Nat),j<dw→(E.rl da (pw at_ (.lit dw)) (pw m (.lit dw)) sa).den ρ (i*dw+j)=
    if(at_.den ρ 0).toNat≤i∧i<(at_.den ρ 0).toNat+(m.den ρ 0).toNat then sa.den ρ ((i - (at_.den ρ 0).toNat)*dw+j)else da.den ρ (i*dw+j):=by
   intro i j hj;simp only [E.den,fN,toNat_mul];generalize (at_.den ρ 0).toNat=A;generalize (m.den ρ 0).toNat=M;by_cases hc:A≤i∧i<A+M
   ·obtain⟨h1,h2⟩:=hc;obtain⟨d,rfl⟩: ∃d,i=A+d:=⟨i - A,by omega⟩;have hd:d+1≤M:=by omega
    have:=Nat.mul_le_mul_right dw hd;rw [Nat.add_mul]at this;have L1:A*dw≤(A+d)*dw+j∧(A+d)*dw+j<A*dw+M*dw:=by rw [Nat.add_mul];omega
    rw [if_pos L1,if_pos ⟨by omega,by omega⟩];congr 1;rw [show A+d - A=d by omega,Nat.add_mul];omega
   ·rw [if_neg hc,if_neg];intro hc';apply hc;constructor
    ·apply Nat.le_of_not_lt;intro bX;have:=Nat.mul_le_mul_right dw (Nat.succ_le_of_lt bX);rw [Nat.succ_mul]at this;omega
    ·apply Nat.lt_of_not_le;intro hle;have:=Nat.mul_le_mul_right dw hle;rw [Nat.add_mul]at this;omega
  split at h
  ·split at h
   ·rename_i k k' hk ku cO;simp only at hk ku;subst hk ku cO;cases h;refine⟨rfl,rfl,fun i=>?_⟩;simp only [bR.cells,bd];split
    ·rename_i hc;apply aP;intro j hj;rw [key i j hj,if_pos hc]
    ·rename_i hc;apply aP;intro j hj;rw [key i j hj,if_neg hc]
   ·cases h
  ·rename_i hk ku;simp only at hk ku;subst hk ku;cases h;refine⟨rfl,rfl,fun i=>?_⟩;simp only [bR.cells,z_];split
   ·rename_i hc;apply ajq;intro j hj;rw [key i j (ai8.1 hj),if_pos hc]
   ·rename_i hc;apply ajq;intro j hj;rw [key i j (ai8.1 hj),if_neg hc]
  ·rename_i hk ku;simp only at hk ku;subst hk ku;cases h;refine⟨rfl,rfl,fun i=>?_⟩;simp only [bR.cells,xV];split
   ·rename_i hc;apply ajq;intro j hj;rw [key i j (ai8.1 hj),if_pos hc]
   ·rename_i hc;apply ajq;intro j hj;rw [key i j (ai8.1 hj),if_neg hc]
  ·rename_i hk ku;simp only at hk ku;subst hk ku;cases h;refine⟨rfl,rfl,fun i=>?_⟩;simp only [bR.cells,cJ];split<;>first | rfl | (simp only [hw]) | (congr 1)
  ·rename_i hk ku;simp only at hk ku;subst hk ku;split at h
   ·rename_i hc;obtain⟨rfl,xf⟩:=hc;simp only at xf;subst xf;cases h;refine⟨rfl,rfl,fun i=>?_⟩;by_cases hi:i=(at_.den ρ 0).toNat
    ·rw [if_pos (by rw [cH,hi];constructor<;>simp)];simp [bR.cells,cJ,jo,jh,xT,cH,hi]
    ·rw [if_neg (by rw [cH];intro hc;apply hi;have:=hc.2;simp at this;omega)];simp [bR.cells,cJ,jo,jh,hi]
   ·split at h
    ·rename_i KD;subst KD;cases h;refine⟨rfl,rfl,fun i=>?_⟩;rw [if_neg (by simp only [cH];intro hc;have:=hc.2;simp at this;omega)]
    ·cases h
  ·cases h
theorem fE{at_ m:E}(h0:0≤at_.den ρ 0)(hm:0≤m.den ρ 0): ∀{d s c:List bR},gl at_ m d s=some c→
  bT c=bT d∧bT s=bT d∧
   ∀i:Nat,rowAt ρ c i=if(at_.den ρ 0).toNat≤i∧i<(at_.den ρ 0).toNat+(m.den ρ 0).toNat then rowAt ρ s (i - (at_.den ρ 0).toNat)else rowAt ρ d i
 | [],[],c,h=>by
  simp [gl]at h;subst h;exact⟨rfl,rfl,fun _=>by simp [rowAt]⟩
 | [],_::_,c,h=>by simp [gl]at h
 | _::_,[],c,h=>by simp [gl]at h
 | d::r,s::r',c,h=>by
  unfold gl at h;split at h
  ·rename_i a b h1 h2;cases h;obtain⟨p1,p2,p3⟩:=D3 h0 hm h1;obtain⟨q1,q2,q3⟩:=fE h0 hm h2;simp only [bT,ajb,List.sum_cons]at q1 q2 ⊢;refine⟨by omega,by omega,fun i=>?_⟩;simp only [rowAt,ajb,List.flatMap_cons]at q3 ⊢;rw [p3,q3];split<;>rfl
  ·cases h
theorem sY{s:Nat}: ∀(k i:Nat) {cs:List SV} {aD aT:List bR},sZ s k i cs aD=some aT→s=bT aD→
  bT aT=bT aD∧(∀i':Nat,i'<i→rowAt ρ aT i'=rowAt ρ aD i')∧fP (fun j=>rowAt ρ aT (i+j)) k=(SV.aA ρ cs).take (k*s)
 | 0,i,cs,aD,aT,h,hs=>by
  simp [sZ]at h;subst h;simp [fP]
 | k+1,i,cs,aD,aT,h,hs=>by
  unfold sZ at h;split at h
  ·rename_i a b h1 h2;split at h
   ·rename_i adB h3;obtain⟨p1,p2,p3,p4⟩:=jq ρ h3;obtain⟨q1,q2,q3⟩:=sY k (i+1) h (by omega);have e0:((E.lit (i:Int)).den ρ 0).toNat=i:=by simp [E.den]
    rw [e0]at p3 p4;obtain⟨c1,c2⟩:=eD ρ h1;have c3:=dQ ρ _ _ _ h2;rw [List.drop_zero]at c1;rw [Nat.zero_add]at c2;have hal:(SV.aA ρ a).length=s:=by rw [c1,List.length_take];omega
    refine⟨by omega,fun i' hi=>by rw [q2 i' (by omega),p3 i' (by omega)],?_⟩;rw [Nat.add_comm k 1,fQ];have e1:fP (fun j=>rowAt ρ aT (i+j)) 1=SV.aA ρ a:=by
     have:rowAt ρ aT i=SV.aA ρ a:=by
      rw [q2 i (by omega),p4,List.drop_eq_nil_of_le,List.append_nil];rw [show(rowAt ρ aD i).length=bT aD from c9 ρ aD _];omega
     simp [fP,this]
    have e2:fP (fun j=>rowAt ρ aT (i+(1+j))) k=fP (fun j=>rowAt ρ aT (i+1+j)) k:=cA fun j _=>by rw [Nat.add_assoc]
    rw [e1,e2,q3,c3,c1,Nat.add_mul,Nat.one_mul,List.take_add]
   ·cases h
  ·cases h
def World.vG(w:World)(v:Value)(n:Nat)(cs:List Value):Prop:=
 ∃a c,v= .slice a n c∧(a=none→n=0)∧∀ad,a=some ad→∀(j:Nat) u,cs[j]? =some u→w.cell? (ad.add j)=some u
structure Tn (ρ:Env) (w:World) (v:Value) (s:Nat) (n:E) (aD:List bR):Prop where
 nn:0≤n.den ρ 0
 wd:bT aD=s
 rd:World.vG w v (n.den ρ 0).toNat (aK ρ (n.den ρ 0).toNat aD)
theorem Cd{md:Bool}{t s n:Nat}{v:Value}{cs:List Value}{S:Nat→Prop}(h:(aG md t s v n cs).p w S):World.vG w v n cs∧cs.length=n*s:=by
 obtain⟨h0,_⟩:=h;cases md with
 | true=>
  simp only [if_true]at h0;have Ti:=h0;obtain⟨hl,hr⟩:=h0;refine⟨?_,hl⟩;rcases hr with⟨rfl,rfl⟩ | ⟨g,o,cap,cur,rfl,hg,Dg,_⟩
  ·exact⟨none,0,rfl,fun _=>rfl,by simp⟩
  ·refine⟨_,cap,rfl,by simp,?_⟩;rintro _ ⟨⟩;exact fun j u hu=>jk Ti j u hu
 | false=>
  simp only [Bool.false_eq_true,if_false]at h0;obtain⟨hl,a,m,c,rfl,rfl,_,kN,hr⟩:=h0;exact⟨⟨a,c,rfl,kN,fun ad pr=>(hr ad pr).2⟩,hl⟩
theorem Uz{s:Nat}{v x:Value}{n:E}{p:Part}{cs:List Value}(h:lQ ρ s v x n p)(hv:World.vG w v (n.den ρ 0).toNat cs):
  World.vG w x (p.len.den ρ 0).toNat ((cs.drop ((p.lo.den ρ 0).toNat*s)).take ((p.len.den ρ 0).toNat*s)):=by
 obtain⟨h1,h2,h3,a,c,k,rfl,hc,rfl,hk⟩:=h;obtain⟨a',c',he,kN,hr⟩:=hv;cases he;have KF:(p.lo.den ρ 0).toNat+(p.len.den ρ 0).toNat≤((p.mx.map fun m=>m.den ρ 0).map ag).getD c∨(p.len.den ρ 0).toNat=0:=by
  cases hm:(p.mx.map fun m=>m.den ρ 0)with
  | none=>simp only [Option.map_none,Option.getD_none];omega
  | some m=>have:=h3 m hm;simp only [ajI,ajh];omega
 refine⟨_,_,rfl,?_,?_⟩
 ·intro hn;cases a with
  | none=>have:=kN rfl;omega
  | some a=>cases hn
 ·intro ad pr;rw [aiO]at pr;obtain⟨a0,rfl,rfl⟩:=pr;have kv:=hr a0 rfl;intro j u hu;rw [List.getElem?_take]at hu;split at hu
  ·rename_i hj;have hN:(p.len.den ρ 0).toNat≠0:=by intro h;rw [h,Nat.zero_mul]at hj;omega
   rw [List.getElem?_drop]at hu;rw [hk (.inl (by omega)),dc];exact kv _ _ hu
  ·cases hu
theorem ot(aD:List bR)(n:Nat): ∀u∈aK ρ n aD,u.oneCell'=true:=by
 intro u hu;unfold aK aW at hu;rw [List.mem_flatMap]at hu;obtain⟨i,_,hu⟩:=hu;rw [List.mem_flatMap]at hu;obtain⟨c,hc,hu⟩:=hu;rw [ai_]at hc;obtain⟨⟨ck,cw,a⟩,_,rfl⟩:=hc;cases ck with
 | int k=>
  simp only [bR.cells,bd,aj,ai_]at hu;obtain⟨_,_,rfl⟩:=hu;rfl
 | bool=>
  simp only [bR.cells,z_,ai_]at hu;obtain⟨_,_,rfl⟩:=hu;rfl
 | val v=>
  simp only [bR.cells,cJ,ai_]at hu;obtain⟨j,_,rfl⟩:=hu;exact V1.one _
 | ptr=>
  simp only [bR.cells,xV,ai_]at hu;obtain⟨j,_,rfl⟩:=hu;exact DF _
 | cv=>
  simp only [bR.cells,cJ,ai_]at hu;obtain⟨j,_,rfl⟩:=hu;exact dV _
 | Gt l=>
  simp only [bR.cells,cJ,ai_]at hu;obtain⟨j,_,rfl⟩:=hu;exact V1.one _
 | pt q v=>
  simp only [bR.cells,cJ,ai_]at hu;obtain⟨j,_,rfl⟩:=hu;split
  ·exact V1.one _
  ·exact dV _
 | bU=>
  simp only [bR.cells,cJ,ai_]at hu;obtain⟨j,_,rfl⟩:=hu;rfl
 | str=>
  simp only [bR.cells,cJ,ai_]at hu;obtain⟨j,_,rfl⟩:=hu;rfl
theorem D5{x:SV}{r:Rt}(h:fB hp x=some r)(cP:Reads hp ρ w S [r.j])(bW: ∀b∈r.vcs,b.prop ρ)(h0:0≤r.p.len.den ρ 0)(hw:r.s=bT r.aD)
  {aD:List bR} (hc:gV r.p.lo r.aD=some aD):Tn ρ w (x.val ρ) r.s r.p.len aD:=by
 obtain⟨hj,dB⟩:=eK h cP bW;have hS:=cP r.j (by simp) _ hj;obtain⟨hv,hl⟩:=Cd hS;obtain⟨e1,e2⟩:=js dB.lo hc;refine⟨h0,by omega,?_⟩;have:=Uz dB hv;have h2:=dB.hi;have h1:=dB.lo;rw [cj,hw,sX (c9 ρ r.aD) _ _ _ (by omega)]at this;rw [cj,cA fun i _=>e2 i];exact this
theorem dG(k:IntKind)(n:Nat)(a:E):aK ρ n [⟨.int k,1,a⟩]=aj k n (a.den ρ):=by
 unfold aK aW aj
 induction n with
 | zero=>rfl
 | succ n ih=>
  rw [List.range_succ,List.flatMap_append,List.map_append,ih];simp [bR.cells,bd,aj]
theorem fF{te:TI}{y:SV}{sc:Src}(h:AV T hp te y=some sc)(cP:Reads hp ρ w S sc.rd)(bW: ∀b∈sc.vcs,b.prop ρ)
  (h0:0≤sc.n.den ρ 0):Tn ρ w (y.val ρ) te.size sc.n sc.aD:=by
 unfold AV at h;split at h
 ·split at h
  ·split at h
   ·rename_i hw;cases h;refine⟨by simp [E.den],hw.symm,none,0,by simp [SV.val,E.den],by simp [E.den],by simp⟩
   ·cases h
  ·cases h
 ·rename_i b i s m cap;split at h
  ·rename_i j b' wr cs hf;obtain⟨hj,dA⟩:=cM hf;simp only [Ck.ra,beq_iff_eq]at dA;subst dA;split at h
   ·cases h
   ·rename_i hs;simp only [ne_eq,Decidable.not_not]at hs;subst hs;split at h
    ·rename_i i0 m0 P5 KD;have di:=cn (ρ:=ρ) P5;have dm:=cn (ρ:=ρ) KD;have ml:(SV.sl b i te.size m cap).val ρ= .slice (some ⟨ρ.bv.getD b 0,i0*te.size,none⟩) m0 (cap.den ρ 0).toNat:=by simp [SV.val,di,dm]
     have base: ∀(x:List SV),jl (i0*te.size) (m0*te.size) cs=some x→(al (ρ.bv.getD b 0) wr (SV.aA ρ cs)).p w (S j)→
       (SV.aA ρ x).length=m0*te.size∧∀(k:Nat) u,(SV.aA ρ x)[k]? =some u→w.cell? ((⟨ρ.bv.getD b 0,i0*te.size,none⟩:Addr).add k)=some u:=by
      intro x hx hS;obtain⟨c1,c2⟩:=eD ρ hx;refine⟨by rw [c1,List.length_take,List.length_drop];omega,fun k u hu=>?_⟩;rw [c1,List.getElem?_take]at hu;split at hu
      ·exact iK hS _ k u hu
      ·cases hu
     split at h
     ·rename_i k N a hx;split at h
      ·rename_i hc;obtain⟨kx,rfl⟩:=hc;cases h;obtain⟨_,hb⟩:=base _ hx (cP j (by simp) _ hj);refine⟨h0,by simp [bT,kx],_,_,ml,by simp,?_⟩;rintro _ ⟨⟩ k' u hu;rw [dG]at hu;refine hb k' u ?_;simpa [SV.aA,SV.cells,E.den] using hu
      ·cases h
     ·rename_i x _ hx;split at h
      ·split at h
       ·rename_i Xr ep;split at h
        ·rename_i hw;rw [aiO]at h;obtain⟨aT,lz,rfl⟩:=h;obtain⟨hl,hb⟩:=base _ hx (cP j (by simp) _ hj);obtain⟨q1,_,q3⟩:=sY (ρ:=ρ) m0 0 lz hw;refine⟨h0,q1.trans hw.symm,_,_,ml,by simp,?_⟩;rintro _ ⟨⟩ k' u hu;refine hb k' u ?_;simp only [Nat.zero_add]at q3;rw [ajF (by omega)]at q3;simp only [E.den,aiX]at hu;rw [cj]at hu;rw [←q3];exact hu
        ·cases h
       ·cases h
      ·cases h
     ·cases h
    ·split at h
     ·rename_i k N a;split at h
      ·rename_i kx;cases h;simp only at bW h0;obtain⟨v1,v3⟩:=bE bW;obtain⟨v1,v2⟩:=bE v1;have v1:=a_ v1;have v3:=a_ v3;rw [bI]at v3;simp only [E.den]at v1 v3;have hS:=cP j (by simp) _ hj;refine⟨h0,by simp [bT,kx],_,_,rfl,by simp,?_⟩;rintro _ ⟨⟩ k' u hu;rw [dG,bf]at hu;split at hu
       ·rename_i hk;have hk:k'<(m.den ρ 0).toNat:=hk;simp only [aiP]at hu;refine iK hS _ k' u ?_;rw [kx,Nat.mul_one,List.getElem?_drop];simp only [SV.aA,SV.cells,List.append_nil];rw [bf,if_pos (by omega),←hu,dF]
       ·cases hu
      ·cases h
     ·cases h
  ·cases h
 ·split at h
  ·rename_i r hr;split at h
   ·rename_i hc;obtain⟨hs,hw⟩:=hc;rw [aiO]at h;obtain⟨aD,ep,rfl⟩:=h;simp only at bW h0;obtain⟨v1,_⟩:=bE bW;rw [←hs];exact D5 hr cP v1 h0 hw ep
   ·cases h
  ·cases h
end
section
variable {P:Program} {ρ:Env} {w:World} {look:Nat→Option SV} {bH:Operand→Value} {hp:List Ck} {S:Nat→Nat→Prop} {nb nv:Nat} {T:List TI}
theorem AW{t s n:Nat}{v:Value}{cs vs:List Value}{S:Nat→Prop}(h:(aG true t s v n cs).p w S)(c:Nat)(hl:c+vs.length≤cs.length)
  (h1: ∀u∈vs,u.oneCell'=true) (a:Addr) (ha:0<vs.length→ez v c= .pointer (some a)):
  ∃w',(storeCells a vs).run P w= .ok () w'∧fZ w w'∧w'.heap.size=w.heap.size∧
   (∀k,¬S k→w'.heap[k]? =w.heap[k]?)∧(aG true t s v n (cs.take c++vs++cs.drop (c+vs.length))).p w' S∧(vs=[]→w'=w):=by
 cases vs with
 | nil=>
  refine⟨w,rfl,fZ.refl w,rfl,fun _ _=>rfl,?_,fun _=>rfl⟩;simpa using h
 | cons u r=>
  obtain⟨g,o,w',g1,g2,g3,g4,g5,g6,g7⟩:=AQ (P:=P) h c hl (by simp) h1;have:=ha (by simp);rw [g1]at this;cases this;exact⟨w',g3,g4,g5,fun k hk=>g6 k (fun e=>hk (e▸g2)),g7,by simp⟩
theorem vH{x:Value}{m s:Nat}{news:List Value}(h:World.vG w x m news)(hl:news.length=m*s):
  (Builtin.lenOf x).run P w= .ok m w∧∀k,k≤m→(Builtin.firstCells s k x).run P w= .ok (news.take (k*s)).toArray w:=by
 obtain⟨a,c,rfl,kN,hr⟩:=h;refine⟨rfl,fun k hk=>?_⟩;cases a with
 | none=>
  have hm:=kN rfl;subst hm;have:news=[]:=ai6 (by simpa using hl);subst this;simp [Builtin.firstCells]
 | some a=>
  have hks:k*s≤m*s:=Nat.mul_le_mul_right _ hk;have:=run_loadCells_list (P:=P) w a (news.take (k*s)) (fun j v hv=>by
   rw [List.getElem?_take]at hv;split at hv
   ·exact hr a rfl j v hv
   ·cases hv)
  rw [List.length_take,hl,Nat.min_eq_left hks]at this;simpa [Builtin.firstCells] using this
theorem mV(t ty e:TypeId)(i:TypeInfo)(z:Value)(size bytes:Nat)(ht:P.underlying t=some (.slice e))(hi:P.info? e=some i)(hz:i.zero=some z)
  (ji:i.size=size) (ue:i.bytes=bytes) (pe:z.cells.size=size) (eS:0<size)
  (v:Value) (n:Nat) (xs:List Value) (cI:w.ic e size v n xs) (y:Value) (m:Nat) (news:List Value) (hy:World.vG w y m news) (hl:news.length=m*size)
  (h1: ∀u∈news,u.oneCell'=true) (P6:n+m≤maxLen) (oo:(n+m)*bytes≤140737488355328):
  ∃v' w',(ajc #[t,t] ty #[v,y]).run P w= .ok v' w'∧w'.ic e size v' (n+m) (xs++news)∧w.grownBy w' v.ownBlock∧
   (v'.ownBlock=v.ownBlock∨v'.ownBlock=some w.heap.size):=by
 obtain⟨a,c,rfl,kN,hr⟩:=hy;cases a with
 | some a=>
  exact mU (P:=P) (w:=w) t ty e i z size bytes ht hi hz ji ue pe eS v n xs cI a m c news hl (hr a rfl) h1 P6 oo
 | none=>
  have hm:=kN rfl;subst hm;have:news=[]:=ai6 (by simpa using hl);subst this;refine⟨v,w,?_,by simpa using cI,⟨rfl,rfl,rfl,Nat.le_refl _,fun _ _ _=>rfl⟩,.inl rfl⟩;rcases cI.2 with⟨rfl,rfl⟩ | ⟨g,o,cap,cur,rfl,_,Dg,_⟩
  ·simp [ajc,run_underlying ht,sizeOf,typeInfo,hi,Builtin.lenOf,Builtin.firstCells]
  ·simp [ajc,run_underlying ht,sizeOf,typeInfo,hi,Builtin.lenOf,Builtin.firstCells,Dg,storeCells]
theorem yv(t ty e:TypeId)(i:TypeInfo)(ht:P.underlying t=some (.slice e))(hi:P.info? e=some i)(a:Option Addr)(N C:Nat)(y:Value)(m:Nat)(news:List Value)
  (hy:World.vG w y m news) (hl:news.length=m*i.size) (rW:N+m≤C) {w':World} (hs: ∀ad,a=some ad→(storeCells (ad.add (N*i.size)) news).run P w= .ok () w') (hn:a=none→w'=w):
  (ajc #[t,t] ty #[.slice a N C,y]).run P w= .ok (.slice a (N+m) C) w':=by
 obtain⟨q1,q2⟩:=vH (P:=P) hy hl;have q2:=q2 m (Nat.le_refl _);rw [ajF (by omega)]at q2;cases a with
 | none=>
  have:=hn rfl;subst this;simp [ajc,run_underlying ht,sizeOf,typeInfo,hi,q1,q2,rW]
 | some ad=>
  have:=hs ad rfl;simp [ajc,run_underlying ht,sizeOf,typeInfo,hi,q1,q2,rW,this]
theorem vI{t s:Nat}{v x:Value}{n:E}{p:Part}{cs:List Value}(h:lQ ρ s v x n p)(hl:0≤p.len.den ρ 0)
  (hv:w.ic t s v (n.den ρ 0).toNat cs):w.ic t s x (p.len.den ρ 0).toNat ((cs.drop ((p.lo.den ρ 0).toNat*s)).take ((p.len.den ρ 0).toNat*s))∧x.ownBlock=v.ownBlock:=by
 have hle:(p.lo.den ρ 0).toNat+(p.len.den ρ 0).toNat≤(n.den ρ 0).toNat:=by
  have h1:=h.lo;have h2:=h.hi;clear hv h;omega
 obtain⟨h1,h2,h3,a,c,k,rfl,hc,rfl,hk⟩:=h;obtain⟨hlen,hr⟩:=hv;have Xs:=Nat.mul_le_mul_right s hle;rw [Nat.add_mul]at Xs;have key: ∀(A B C:Nat),B+A≤C→min A (C - B)=A:=by intro A B C h;omega
 refine⟨⟨by rw [List.length_take,List.length_drop,hlen];exact key _ _ _ Xs,?_⟩,by cases a<;>simp [Value.ownBlock,Addr.add];try (split<;>rfl)⟩;rcases hr with⟨he,hz⟩ | ⟨g,o,cap,cur,he,hg,Dg,P4,mw,Dh⟩
 ·left;simp only [Value.slice.injEq]at he;obtain⟨rfl,_,rfl⟩:=he;have h0:(p.len.den ρ 0).toNat=0:=by omega
  refine⟨?_,h0⟩;rw [h0];simp only [Option.map_none,Value.slice.injEq,true_and];cases hm:p.mx with
  | none=>simp
  | some m=>
   have:=(h3 (m.den ρ 0) (by rw [hm];rfl)).2;simp only [ajI,ajh];omega
 ·right;simp only [Value.slice.injEq]at he;obtain⟨rfl,_,rfl⟩:=he;simp only [ajI,eB];have Qq:((p.mx.map fun m=>m.den ρ 0).map ag).getD c≤c:=by
   cases hm:p.mx with
   | none=>exact Nat.le_refl _
   | some m=>
    have:=(h3 (m.den ρ 0) (by rw [hm];rfl)).2;simp only [ajI,ajh];omega
  have D6:(p.lo.den ρ 0).toNat+(p.len.den ρ 0).toNat≤((p.mx.map fun m=>m.den ρ 0).map ag).getD c:=by
   cases hm:p.mx with
   | none=>simp only [Option.map_none,Option.getD_none];omega
   | some m=>
    have:=(h3 (m.den ρ 0) (by rw [hm];rfl)).1;simp only [ajI,ajh];omega
  obtain⟨C,hC⟩: ∃C,C=((p.mx.map fun m=>m.den ρ 0).map ag).getD c:=⟨_,rfl⟩;rw [←hC]at hk Qq D6 ⊢;have q1:(p.len.den ρ 0).toNat≤C - (p.lo.den ρ 0).toNat:=Nat.le_sub_of_add_le (by rw [Nat.add_comm];exact D6);have q2:C - (p.lo.den ρ 0).toNat≤maxLen:=Nat.le_trans (Nat.sub_le _ _) (Nat.le_trans Qq P4);refine⟨g,o+k,C - (p.lo.den ρ 0).toNat,cur,rfl,hg,q1,q2,fun od=>?_,?_⟩
  ·have cO:=hk (.inl (by omega));have:=mw (by omega);have e1:(C - (p.lo.den ρ 0).toNat)*s+(p.lo.den ρ 0).toNat*s=C*s:=by rw [←Nat.add_mul];congr 1;omega
   have e2:C*s≤c*s:=Nat.mul_le_mul_right _ Qq;omega
  ·by_cases h0:(p.len.den ρ 0).toNat=0
   ·rw [h0,Nat.zero_mul,List.take_zero,List.take_zero]
   ·have cO:=hk (.inl (by omega));rw [←Dh,List.drop_take,List.take_take,List.drop_drop,cO,Nat.min_eq_left (by omega)]
theorem gH{n:E}{bytes:Nat}(h:(ou n bytes).prop ρ)(h0:0≤n.den ρ 0):
  (n.den ρ 0).toNat*bytes≤140737488355328∧(n.den ρ 0).toNat≤140737488355328:=by
 unfold ou at h;have h:=of_decide_eq_true (gW ρ _ _▸(BE.bZ ρ _).2 h);rw [fN]at h;simp only [E.den]at h;obtain⟨k,hk⟩:=Int.eq_ofNat_of_zero_le h0;rw [hk]at h ⊢;rw [←Int.natCast_mul]at h;have h:k*max 1 bytes≤140737488355328:=by omega
 have h2:k*bytes≤k*max 1 bytes:=Nat.mul_le_mul_left _ (Nat.le_max_right _ _);have h3:k*1≤k*max 1 bytes:=Nat.mul_le_mul_left _ (Nat.le_max_left _ _);simp only [aiX];omega
theorem pN(n L:Nat)(aD:List bR)(h:L≤n):(aK ρ n aD).take (L*bT aD)=aK ρ L aD:=by
 have:=sX (c9 ρ aD) n 0 L (by omega);rw [Nat.zero_mul,List.drop_zero]at this;rw [cj,this,cj];exact cA fun i _=>by rw [Nat.zero_add]
theorem uF(hT:bD P T=true){ts:TypeId}{tt:TI}(fc:aU T ts=some tt){x y:SV}{res:hU}(h:rZ T hp nv tt.k x y=some res)
  (cP:Reads hp ρ w S res.rd) (bW: ∀b∈res.vcs,b.prop ρ) (ty:TypeId):
  sx P ρ w hp S nb nv ((do pure (.value (←ajc #[ts,ts] ty #[x.val ρ,y.val ρ])):Sem Next).run P w) res:=by
 unfold rZ at h;split at h
 ·rename_i t hk;split at h
  ·rename_i te gP;obtain⟨rfl,ov⟩:=aE hT fc;obtain⟨rfl,cK⟩:=aE hT gP;have cO:=ov.kind;rw [hk]at cO;have hu:=bM cO;obtain⟨i,hi,eS,ue,z,hz,hc⟩:=cK.info;have pe:z.cells.size=te.size:=by rw [←ajv,←hc ρ,bw,cK.z9]
   split at h
   ·rename_i sc iT;split at h
    ·cases h
    ·rename_i od;have od:0<te.size:=by omega
     split at h
     ·cases h;simp only at bW cP;obtain⟨v1,v3⟩:=bE bW;obtain⟨v1,v2⟩:=bE v1;have v2:=a_ v2;simp only [E.den]at v2;obtain⟨b1,b2⟩:=gH (bytes:=te.bytes) (v3 _ (by simp)) v2;obtain⟨_,s2,s3⟩:=fF iT cP v1 v2;obtain⟨v',w',r1,r2,r3,r5⟩:=mV (P:=P) tt.t ty te.t i z te.size te.bytes hu hi hz eS ue pe od (.slice none 0 0) 0 [] (jR w te.t te.size)
       _ _ _ s3 (by rw [c_,s2]) (ot _ _) (by unfold maxLen;omega) (by rw [Nat.zero_add];exact b1)
      refine⟨te.t,te.size,_,sc.aD,v',w',fun k=>v'.ownBlock=some k,rfl,rfl,by simp only [SV.val,ai2,r1,aiU,ajd],?_,⟨r3.os,r3.tape,r3.output,r3.size⟩,fun k hk=>r3.block k hk (by simp [Value.ownBlock]),⟨?_,fun k=>⟨fun h=>⟨h,.inl rfl⟩,fun h=>h.1⟩⟩,?_⟩
      ·rcases r2.2 with⟨rfl,_⟩ | ⟨g,o,cap,cur,rfl,_⟩<;>rfl
      ·simp only [if_true];simpa using r2
      ·intro k hk;rcases r5 with h | h
       ·rw [hk]at h;cases h
       ·rw [hk]at h;cases h;exact⟨Nat.le_refl _,gU r2 hk⟩
     ·rename_i b ix s n m;split at h
      ·rename_i x q hx hq;split at h
       ·rename_i hc;obtain⟨hxn,rfl,rfl⟩:=hc;rw [aiO]at h;obtain⟨aT,ep,rfl⟩:=h;simp only at bW cP;obtain⟨v1,v4⟩:=bE bW;obtain⟨v1,v3⟩:=bE v1;obtain⟨v1,v2⟩:=bE v1;have v3:=a_ v3;simp only [E.den]at v3;have hqn:sc.n.den ρ 0=((q+1:Nat):Int):=cn (ρ:=ρ) hq;obtain⟨_,x2,x3⟩:=fF (te:=te) hx (fun j hj=>cP j (List.mem_append_left _ hj)) v1 (by rw [hxn];exact v3);obtain⟨_,s2,s3⟩:=fF (te:=te) iT (fun j hj=>cP j (List.mem_append_right _ hj)) v2 (by omega);rw [hxn]at x3;have o8:(du n sc.n).den ρ 0=n.den ρ 0+sc.n.den ρ 0:=bI ..;obtain⟨b1,b2⟩:=gH (n:=du n sc.n) (bytes:=te.bytes) (v4 _ (by simp)) (by rw [o8];omega);have lR:((du n sc.n).den ρ 0).toNat=(n.den ρ 0).toNat+(sc.n.den ρ 0).toNat:=by rw [o8];omega
        rw [lR]at b1 b2;obtain⟨ya,yc,hyv,Xt,hyr⟩:=s3;have hya: ∃a,ya=some a:=by
         cases ya with
         | none=>have:=Xt rfl;omega
         | some a=>exact⟨a,rfl⟩
        obtain⟨ya,rfl⟩:=hya;obtain⟨xa,xc,G5,_,hxr⟩:=x3;have Xu:(SV.sl b ix te.size n n).val ρ= .slice (some ⟨ρ.bv.getD b 0,(ix.den ρ 0).toNat*te.size,none⟩) (n.den ρ 0).toNat (n.den ρ 0).toNat:=rfl;rw [Xu]at G5;simp only [Value.slice.injEq]at G5;obtain⟨P2,_,_⟩:=G5;obtain⟨v',w',r1,r2,r3,r5⟩:=oS (P:=P) (w:=w) tt.t ty te.t i z te.size te.bytes hu hi hz eS ue pe ⟨ρ.bv.getD b 0,(ix.den ρ 0).toNat*te.size,none⟩ (n.den ρ 0).toNat _ (by rw [c_,x2])
         (fun j u hj=>hxr _ P2.symm j u hj) ya (sc.n.den ρ 0).toNat yc (by omega) _ (by rw [c_,s2]) (fun j u hj=>hyr _ rfl j u hj) (by unfold maxLen;omega) b1
        have fe:aK ρ ((du n sc.n).den ρ 0).toNat aT=aK ρ (n.den ρ 0).toNat x.aD++aK ρ (sc.n.den ρ 0).toNat sc.aD:=by
         rw [lR];obtain⟨c1,c2,c3⟩:=fE (ρ:=ρ) v3 (by omega) ep;rw [cj,fQ];congr 1
         ·exact cA fun k hk=>by rw [c3,if_neg (by omega)]
         ·exact cA fun k hk=>by rw [c3,if_pos (by omega)];congr 1;omega
        refine⟨te.t,te.size,_,aT,v',w',fun k=>v'.ownBlock=some k,rfl,rfl,by rw [Xu,hyv];simp only [ai2,r1,aiU,ajd],?_,⟨r3.os,r3.tape,r3.output,r3.size⟩,fun k hk=>r3.block k hk (by simp),⟨?_,fun k=>⟨fun h=>⟨h,.inl rfl⟩,fun h=>h.1⟩⟩,?_⟩
        ·rcases r2.2 with⟨rfl,_⟩ | ⟨g,o,cap,cur,rfl,_⟩<;>rfl
        ·simp only [if_true];rw [fe,lR];exact r2
        ·intro k hk;rw [hk]at r5;cases r5;exact⟨Nat.le_refl _,gU r2 hk⟩
       ·cases h
      ·cases h
     ·split at h
      ·rename_i r hr;split at h
       ·rename_i ia;obtain⟨ht,hs,hw,G7⟩:=ia;split at h
        ·split at h
         ·rename_i v lo mv s aT ep _ _;cases h;simp only at bW cP;obtain⟨v1,v4⟩:=bE bW;obtain⟨v1,v3⟩:=bE v1;obtain⟨v1,v2⟩:=bE v1;have v3:=a_ v3;have v4:=a_ v4;simp only [E.den]at v3;rw [bI]at v4;have UA:Reads hp ρ w S [r.j]:=fun j hj=>cP j (by simp at hj;simp [hj])
          obtain⟨hj,_⟩:=eK hr UA v1;have hS:=UA r.j (by simp) _ hj;obtain⟨_,s2,s3⟩:=fF (te:=te) iT (fun j hj=>cP j (aiV _ hj)) v2 v3;have hrv:r.v=v∧r.s=s∧r.p=⟨du (.lit 0) lo,uw mv lo,none⟩∧r.vcs=(mG r.n ⟨.lit 0,r.n,none⟩ ⟨lo,mv,none⟩).2++[]:=by
           unfold fB at hr;simp only at hr;split at hr
           ·split at hr
            ·rename_i hss;cases hr;exact⟨rfl,hss,rfl,rfl⟩
            ·cases hr
           ·cases hr
          obtain⟨rfl,rfl,lz,aa8⟩:=hrv;have v1:=aa8▸v1;rw [List.append_nil]at v1;obtain⟨_,k1,k2,_,a,N,C,hv,hN,hC,_⟩:=(lQ.whole (ρ:=ρ) (s:=r.s) (n:=r.n) (nK hS)).step _ v1;have hC:=hC rfl;simp only at k1 k2 hN hC;rw [G7]at hS;have dA:(du r.p.lo r.p.len).den ρ 0=mv.den ρ 0:=by
           rw [lz];simp only [bI,eC,E.den];omega
          obtain⟨c1,c2,c3⟩:=fE (ρ:=ρ) (by rw [dA];omega) v3 ep;rw [dA]at c3;have M_:=yu (f:=rowAt ρ r.aD) (g:=rowAt ρ sc.aD) (h:=rowAt ρ aT) (s:=r.s) (fun i=>by rw [c9];exact hw.symm) (r.n.den ρ 0).toNat (mv.den ρ 0).toNat (sc.n.den ρ 0).toNat
           (by omega) c3
          have ng:(aK ρ (sc.n.den ρ 0).toNat sc.aD).length=(sc.n.den ρ 0).toNat*r.s:=by rw [c_,s2,hs]
          have UB:(mv.den ρ 0).toNat*r.s+(aK ρ (sc.n.den ρ 0).toNat sc.aD).length≤(aK ρ (r.n.den ρ 0).toNat r.aD).length:=by
           rw [ng,c_,←hw,←Nat.add_mul];exact Nat.mul_le_mul_right _ (by omega)
          obtain⟨w',g1,g2,g3,g4,g5,g6⟩:=AW (P:=P) hS ((mv.den ρ 0).toNat*r.s) UB (ot _ _) ((a.getD ⟨0,0,none⟩).add ((mv.den ρ 0).toNat*r.s)) (fun IY=>by
           rw [hv];cases a with
           | none=>
            exfalso;obtain⟨_,_,he,kN,_⟩:=(Cd hS).1;rw [hv]at he;cases he;have:=kN rfl;rw [ng]at IY;have:(sc.n.den ρ 0).toNat=0:=by omega
            rw [this,Nat.zero_mul]at IY;omega
           | some a=>rfl)
          refine⟨w',.inl ?_,⟨⟨_,hj,by rw [G7];rfl⟩,rfl,g2,g3,g4,?_⟩⟩
          ·have ij:=yv (P:=P) (w:=w) (w':=w') tt.t ty te.t i hu hi (if C=(lo.den ρ 0).toNat then a else a.map (·.add ((lo.den ρ 0).toNat*r.s))) ((mv.den ρ 0).toNat - (lo.den ρ 0).toNat) (C - (lo.den ρ 0).toNat)
            (y.val ρ) (sc.n.den ρ 0).toNat (aK ρ (sc.n.den ρ 0).toNat sc.aD) s3 (by rw [ng,eS,hs]) (by
             have:(r.n.den ρ 0).toNat≤C:=by
              obtain⟨_,_,he,hle⟩:=nK hS;rw [hv]at he;cases he;exact hle
             omega) (fun ad pr=>by
             cases a with
             | none=>simp at pr
             | some a0=>
              by_cases Xp:(sc.n.den ρ 0).toNat=0
              ·have kN:aK ρ (sc.n.den ρ 0).toNat sc.aD=[]:=ai6 (by rw [ng,Xp,Nat.zero_mul]);rw [kN]at g6 ⊢;rw [g6 rfl];rfl
              ·have hle:(r.n.den ρ 0).toNat≤C:=by
                obtain⟨_,_,he,hle⟩:=nK hS;rw [hv]at he;cases he;exact hle
               rw [if_neg (by omega)]at pr;simp only [ajI,aiP]at pr;subst pr;rw [dc,eS,←hs,←Nat.add_mul,show(lo.den ρ 0).toNat+((mv.den ρ 0).toNat - (lo.den ρ 0).toNat)=(mv.den ρ 0).toNat by omega];exact g1) (fun D7=>by
             apply g6;cases a with
             | some a0=>split at D7<;>simp at D7
             | none=>
              obtain⟨_,_,he,kN,_⟩:=(Cd hS).1;rw [hv]at he;cases he;have:=kN rfl;apply ai6;rw [ng,show(sc.n.den ρ 0).toNat=0 by omega,Nat.zero_mul])
           have e1:(SV.kg r.v [⟨lo,mv,none⟩] r.s).val ρ= .slice (if C=(lo.den ρ 0).toNat then a else a.map (·.add ((lo.den ρ 0).toNat*r.s))) ((mv.den ρ 0).toNat - (lo.den ρ 0).toNat) (C - (lo.den ρ 0).toNat):=by
            simp only [SV.val,cS,hv];rfl
           have e2:(SV.kg r.v [⟨lo,du mv sc.n,none⟩] r.s).val ρ= .slice (if C=(lo.den ρ 0).toNat then a else a.map (·.add ((lo.den ρ 0).toNat*r.s))) ((mv.den ρ 0).toNat - (lo.den ρ 0).toNat+(sc.n.den ρ 0).toNat) (C - (lo.den ρ 0).toNat):=by
            simp only [SV.val,cS,hv,bI];show Value.slice _ _ _=_;congr 1;omega
           simp only [ai2,e1,ij,aiU,ajd,e2]
          ·simp only [Ck.den];rw [cj,M_];rw [ng]at g5;rw [←ht];exact g5
         ·cases h
        ·split at h
         ·rename_i rc QG;split at h
          ·rename_i aT ep;cases h;simp only at bW cP;obtain⟨v1,v5⟩:=bE bW;obtain⟨v1,v4⟩:=bE v1;obtain⟨v1,v3⟩:=bE v1;obtain⟨v1,v2⟩:=bE v1;have v3:=a_ v3;have v4:=a_ v4;simp only [E.den]at v3 v4;have UA:Reads hp ρ w S [r.j]:=fun j hj=>cP j (by simp at hj;simp [hj])
           obtain⟨hj,dB⟩:=eK hr UA v1;have hS:=UA r.j (by simp) _ hj;rw [G7]at hS;obtain⟨_,s2,s3⟩:=fF (te:=te) iT (fun j hj=>cP j (aiV _ hj)) v2 v4;have o8:(du r.p.len sc.n).den ρ 0=r.p.len.den ρ 0+sc.n.den ρ 0:=bI ..;obtain⟨b1,b2⟩:=gH (n:=du r.p.len sc.n) (bytes:=te.bytes) (v5 _ (by simp)) (by rw [o8];omega);have lR:((du r.p.len sc.n).den ρ 0).toNat=(r.p.len.den ρ 0).toNat+(sc.n.den ρ 0).toNat:=by rw [o8];omega
           rw [lR]at b1 b2;obtain⟨cI,kO⟩:=hS;simp only [if_true]at cI;obtain⟨o1,o2⟩:=vI dB v3 cI;have Z6:=dB.hi;have M9:=dB.lo;obtain⟨e1,e2⟩:=js (ρ:=ρ) dB.lo QG;have Xv:((aK ρ (r.n.den ρ 0).toNat r.aD).drop ((r.p.lo.den ρ 0).toNat*r.s)).take ((r.p.len.den ρ 0).toNat*r.s)=aK ρ (r.p.len.den ρ 0).toNat rc:=by
            rw [cj,hw,sX (c9 ρ r.aD) _ _ _ (by omega),cj];exact cA fun i _=>(e2 i).symm
           rw [Xv]at o1;obtain⟨v',w',r1,r2,r3,r5⟩:=mV (P:=P) tt.t ty te.t i z te.size te.bytes hu hi hz eS ue pe od (x.val ρ) (r.p.len.den ρ 0).toNat _ (by rw [←ht,←hs];exact o1)
            _ _ _ s3 (by rw [c_,s2]) (ot _ _) (by unfold maxLen;omega) b1
           have fe:aK ρ ((du r.p.len sc.n).den ρ 0).toNat aT=aK ρ (r.p.len.den ρ 0).toNat rc++aK ρ (sc.n.den ρ 0).toNat sc.aD:=by
            rw [lR];split at ep
            ·rename_i IW;cases ep;rw [IW];simp [E.den,aK,aW]
            ·obtain⟨c1,c2,c3⟩:=fE (ρ:=ρ) v3 v4 ep;rw [cj,fQ];congr 1
             ·exact cA fun k hk=>by rw [c3,if_neg (by omega)]
             ·exact cA fun k hk=>by rw [c3,if_pos (by omega)];congr 1;omega
           refine⟨te.t,r.s,_,aT,v',w',fun k=>v'.ownBlock=some k,rfl,rfl,by simp only [ai2,r1,aiU,ajd],?_,⟨_,hj,by rw [G7];rfl⟩,⟨r3.os,r3.tape,r3.output,r3.size⟩,?_,⟨?_,fun k=>⟨fun h=>⟨h,.inl rfl⟩,fun h=>h.1⟩⟩,?_⟩
           ·rcases r2.2 with⟨rfl,_⟩ | ⟨g,o,cap,cur,rfl,_⟩<;>rfl
           ·intro k hk hn;refine r3.block k hk fun he=>hn ((kO k).2 ⟨?_,.inl rfl⟩)
            rw [←o2,←he]
           ·simp only [if_true];rw [fe,lR,hs];exact r2
           ·intro k hk;rcases r5 with h | h
            ·left;rw [kO k,←o2,←h];exact⟨hk,.inl rfl⟩
            ·right;rw [hk]at h;cases h;exact⟨Nat.le_refl _,gU r2 hk⟩
          ·cases h
         ·cases h
       ·cases h
      ·cases h
   ·cases h
  ·cases h
 ·cases h
end
end Go.RX
