/- Executor. -/
import Derived.Test.YtllcdnkfbeokhaaGreatM06
open Go.Instr renaming sliceBounds -> ayB
open Go.Result renaming andThen_ok -> ax0
open Go.Sem renaming run_bind -> ax9, run_pure -> ayj
open Int renaming toNat -> ag, toNat_natCast -> ax3
open List renaming append_assoc -> ayl, flatMap_cons -> ayn, length_append -> axP, map_cons -> ayr, mem_map -> ayg, mem_range -> ayc
open Option renaming getD_some -> ayG, map_eq_some_iff -> axV
open Option.some renaming injEq -> axU
namespace Go.RX
def kQ:Option Value->Option Int->Prop
 | none,none=>True
 | some v,some i=> ∃k,v= .int k i
 | _,_=>False
section
variable {P:Program} {ρ:Env} {w:World} {look:Nat->Option SV} {bF:Operand->Value} {hp:List Ck} {S:Nat->Nat->Prop} {nb nv:Nat} {T:List TI}
theorem k_(uG:vJ ρ look bF){o:Option Operand}{l:Option E}(h:AR look o=some l):kQ (o.map bF) (l.map λe:E=>e.den ρ 0):=by
 unfold AR at h;split at h
 .cases h;exact True.intro
 .split at h
  .rename_i k e he;cases h;exact⟨k,eW uG he⟩
  .cases h
theorem AS(isS:Bool)(N C:Nat){lo hi mx:Option Value}{l h m:Option Int}(hl:kQ lo l)(hh:kQ hi h)(hm:kQ mx m)(hx:m.isSome=true->h.isSome=true)
  (h0:0<=l.getD 0) (h1:l.getD 0<=h.getD (N:Int)) (h2: ∀x,m=some x->h.getD (N:Int)<=x/\x<=C) (h3:m=none->h.getD (N:Int)<=C):
  (ayB isS N C lo hi mx).run P w= .ok ((l.getD 0).toNat,(h.getD (N:Int)).toNat,(m.map ag).getD C) w:=by
 have hb:=λ(k:IntKind) (i:Int) (y:Nat) (code:BoundsCode) (a:0<=i) (b:i<=y)=>run_sliceBound (P:=P) (w:=w) k i y code a b
 cases m with
 | none=>
  have h3:=h3 rfl;cases mx with
  | some v=>exact hm.elim
  | none=>
   cases h with
   | none=>
    cases hi with
    | some v=>exact hh.elim
    | none=>
     cases l with
     | none=>
      cases lo with
      | some v=>exact hl.elim
      | none=>simp[ayB]
     | some l=>
      cases lo with
      | none=>exact hl.elim
      | some v=>
       obtain⟨k,rfl⟩:=hl;simp only[ayG,Option.getD_none]at h0 h1;simp[ayB,hb k l N _ h0 h1]
   | some h=>
    cases hi with
    | none=>exact hh.elim
    | some v=>
     obtain⟨kh,rfl⟩:=hh;simp only[ayG]at h1 h3;have hhn:(h.toNat:Int)=h:=Int.toNat_of_nonneg (by omega);cases l with
     | none=>
      cases lo with
      | some v=>exact hl.elim
      | none=>
       simp only[Option.getD_none]at h1;simp[ayB,hb kh h C _ h1 h3]
     | some l=>
      cases lo with
      | none=>exact hl.elim
      | some v=>
       obtain⟨k,rfl⟩:=hl;simp only[ayG]at h0 h1;simp[ayB,hb kh h C _ (by omega) h3,hb k l h.toNat _ h0 (by omega)]
 | some m=>
  obtain⟨g2,g3⟩:=h2 m rfl;cases mx with
  | none=>exact hm.elim
  | some v=>
   obtain⟨km,rfl⟩:=hm;cases h with
   | none=>simp at hx
   | some h=>
    cases hi with
    | none=>exact hh.elim
    | some v=>
     obtain⟨kh,rfl⟩:=hh;simp only[ayG]at h1 g2;cases l with
     | none=>
      cases lo with
      | some v=>exact hl.elim
      | none=>
       simp only[Option.getD_none]at h1;simp[ayB,hb km m C _ (by omega) g3,hb kh h m.toNat _ (by omega) (by omega)]
     | some l=>
      cases lo with
      | none=>exact hl.elim
      | some v=>
       obtain⟨k,rfl⟩:=hl;simp only[ayG]at h0 h1;simp[ayB,hb km m C _ (by omega) g3,hb kh h m.toNat _ (by omega) (by omega),hb k l h.toNat _ h0 (by omega)]
theorem qV(hT:bD P T=true){t:TypeId}{tt te:TI}(ht:aV T t=some tt){e:Nat}(hk:tt.k= .slice e)(kZ:aV T e=some te)
  (a:Option Addr) (N C:Nat) {lo hi mx:Option Value} {l h m:Option Int} (hl:kQ lo l) (hh:kQ hi h) (hm:kQ mx m) (hx:m.isSome=true->h.isSome=true)
  (h0:0<=l.getD 0) (h1:l.getD 0<=h.getD (N:Int)) (h2: ∀x,m=some x->h.getD (N:Int)<=x/\x<=C) (h3:m=none->h.getD (N:Int)<=C):
  (Instr.sliceAt t (.slice a N C) lo hi mx).run P w= .ok (aK te.size (.slice a N C) (l.getD 0).toNat (h.getD (N:Int)).toNat (m.map ag)) w:=by
 obtain⟨rfl,vM⟩:=aE hT ht;obtain⟨rfl,dZ⟩:=aE hT kZ;have eJ:=vM.kind;rw[hk]at eJ;have hu:=cd eJ;have:=AS (P:=P) (w:=w) true N C hl hh hm hx h0 h1 h2 h3;simp[Instr.sliceAt,Instr.slice,run_underlying hu,this,dZ.sizeOf w,aK]
theorem tV(hT:bD P T=true){t:TypeId}{tt te:TI}(ht:aV T t=some tt){n e:Nat}(hk:tt.k= .arr n e)(kZ:aV T e=some te)
  (a:Addr) {lo hi mx:Option Value} {l h m:Option Int} (hl:kQ lo l) (hh:kQ hi h) (hm:kQ mx m) (hx:m.isSome=true->h.isSome=true)
  (h0:0<=l.getD 0) (h1:l.getD 0<=h.getD (n:Int)) (h2: ∀x,m=some x->h.getD (n:Int)<=x/\x<=n) (h3:m=none->h.getD (n:Int)<=n):
  (Instr.sliceAt t (.pointer (some a)) lo hi mx).run P w= .ok (aK te.size (.slice (some a) n n) (l.getD 0).toNat (h.getD (n:Int)).toNat (m.map ag)) w:=by
 obtain⟨rfl,vM⟩:=aE hT ht;obtain⟨rfl,dZ⟩:=aE hT kZ;have eJ:=vM.kind;rw[hk]at eJ;have hu:=ql eJ;have:=AS (P:=P) (w:=w) false n n hl hh hm hx h0 h1 h2 h3;simp only[Instr.sliceAt,ax9,run_underlying hu,ax0,Instr.sureAddr,ayj,this,dZ.sizeOf w,aK];congr 2;split<;>simp
theorem Lt(b i0 n0 m0 s:Nat)(l h:Int)(m:Int)(h0:0<=l)(h1:l<=h)(h2:h<=m)(h3:l=0\/l<m):
  aK s (.slice (some ⟨b,i0*s,none⟩) n0 m0) l.toNat h.toNat (some m.toNat)= .slice (some ⟨b,(i0+l.toNat)*s,none⟩) (h - l).toNat (m - l).toNat:=by
 simp only[aK,ayG];congr 1
 .rcases h3 with rfl | h3
  .simp [pD]
  .rw [if_neg (by omega),Option.map_some,gE,Nat.add_mul]
 .omega
 .omega
theorem sj(o:Option E)(d:E):(o.getD d).den ρ 0=(o.map λe:E=>e.den ρ 0).getD (d.den ρ 0):=by cases o<;>rfl
theorem Ev{x v:SV}{c:Cut}{s:Nat}(h:AT x c s=some v):
  v.val ρ=aK s (x.val ρ) (c.lo.den ρ 0).toNat (c.hi.den ρ 0).toNat (c.mx.map λm=>(m.den ρ 0).toNat):=by
 unfold AT at h;split at h
 .cases h;rfl
 .split at h
  .rename_i hs;subst hs;cases h;simp only[SV.val,pU];rfl
  .cases h
 .cases h
theorem QP{l mm:E}(h: ∀b∈(if l= .lit 0 then []else [Jv l mm].filter λb=>b != .lit true),b.prop ρ):l.den ρ 0=0\/l.den ρ 0<mm.den ρ 0:=by
 split at h
 .rename_i hl;subst hl;exact .inl rfl
 .exact .inr (zG h)
theorem AU(hT:bD P T=true){t:TypeId}{tt:TI}(ji:aV T t=some tt){x:SV}{l h m:Option E}{res:jf}(hs:AV T hp tt.k x l h m=some res)
  {lo hi mx:Option Value} (hl:kQ lo (l.map λe:E=>e.den ρ 0)) (hh:kQ hi (h.map λe:E=>e.den ρ 0)) (hm:kQ mx (m.map λe:E=>e.den ρ 0))
  (dF:Reads hp ρ w S res.rd) (cA: ∀b∈res.vcs,b.prop ρ):
  (Instr.sliceAt t (x.val ρ) lo hi mx).run P w= .ok (res.val.val ρ) w/\res.jE= .none:=by
 unfold AV at hs;split at hs
 .cases hs
 .rename_i hmx;have hx:(m.map λe:E=>e.den ρ 0).isSome=true->(h.map λe:E=>e.den ρ 0).isSome=true:=by
   cases m<;>cases h<;>simp_all
  split at hs
  .rename_i e b i s n cap hk;split at hs
   .rename_i te kZ;split at hs
    .rename_i jR;subst jR;simp only[axU]at hs;subst hs;refine⟨?_,rfl⟩;simp only at cA;obtain⟨cA,q6⟩:=bM cA;obtain⟨cA,q5⟩:=bM cA;obtain⟨cA,q4⟩:=bM cA;obtain⟨cA,q3⟩:=bM cA;obtain⟨cA,q2⟩:=bM cA;obtain⟨q0,q1⟩:=bM cA;have q0:=br q0;have q1:=br q1;have q2:=br q2;have q3:=br q3;have q4:=br q4;have q5:=br q5;have q6:=QP q6;simp only[sj,E.den]at q0 q1 q2 q3 q4 q5 q6;have e1:(SV.sl b i te.size n cap).val ρ= .slice (some ⟨ρ.bv.getD b 0,(i.den ρ 0).toNat*te.size,none⟩) (n.den ρ 0).toNat (cap.den ρ 0).toNat:=rfl;have hNn:((n.den ρ 0).toNat:Int)=n.den ρ 0:=Int.toNat_of_nonneg q5;have jT:=qV (P:=P) (w:=w) hT ji hk kZ (some ⟨ρ.bv.getD b 0,(i.den ρ 0).toNat*te.size,none⟩) (n.den ρ 0).toNat (cap.den ρ 0).toNat hl hh hm hx q1 (by rw[hNn];exact q2)
      (λx hx=>by rw[hx]at q3 q4;rw[hNn];simp only[ayG]at q3 q4;exact⟨q3,by omega⟩) (λhx=>by rw[hx]at q3;rw[hNn];simp only[Option.getD_none]at q3;omega)
     rw[e1,jT,hNn];congr 1;have hmm:aK te.size (.slice (some ⟨ρ.bv.getD b 0,(i.den ρ 0).toNat*te.size,none⟩) (n.den ρ 0).toNat (cap.den ρ 0).toNat) ((l.map λe:E=>e.den ρ 0).getD 0).toNat
       ((h.map λe:E=>e.den ρ 0).getD (n.den ρ 0)).toNat ((m.map λe:E=>e.den ρ 0).map ag)=
       aK te.size (.slice (some ⟨ρ.bv.getD b 0,(i.den ρ 0).toNat*te.size,none⟩) (n.den ρ 0).toNat (cap.den ρ 0).toNat) ((l.map λe:E=>e.den ρ 0).getD 0).toNat
       ((h.map λe:E=>e.den ρ 0).getD (n.den ρ 0)).toNat (some ((m.map λe:E=>e.den ρ 0).getD (cap.den ρ 0)).toNat):=by
      cases m<;>rfl
     rw[hmm,Lt _ _ _ _ _ _ _ _ q1 q2 q3 q6];simp only[SV.val,bK,gD,sj,E.den];congr 4;omega
    .cases hs
   .cases hs
  .rename_i e hk;split at hs
   .rename_i te kZ;split at hs
    .rename_i hz;cases hs;obtain⟨z1,z2,z3⟩:=hz;refine⟨?_,rfl⟩;have g1:(l.map λe:E=>e.den ρ 0).getD 0=0:=by cases l with | none=>rfl | some l=>simp only[ayG]at z1;subst z1;rfl
     have g2:(h.map λe:E=>e.den ρ 0).getD 0=0:=by cases h with | none=>rfl | some l=>simp only[ayG]at z2;subst z2;rfl
     have g3:(m.map λe:E=>e.den ρ 0).getD 0=0:=by cases m with | none=>rfl | some l=>simp only[ayG]at z3;subst z3;rfl
     have jT:=qV (P:=P) (w:=w) hT ji hk kZ none 0 0 hl hh hm hx (by rw[g1];exact Int.le_refl _) (by rw[g1];simp only[Int.natCast_zero,g2];exact Int.le_refl _)
      (λx hx=>by rw[hx]at g3;simp only[ayG]at g3;subst g3;simp only[Int.natCast_zero,g2];exact⟨Int.le_refl _,Int.le_refl _⟩) (λ_=>by simp only[Int.natCast_zero,g2];exact Int.le_refl _)
     rw[show(SV.bW).val ρ= .slice none 0 0 from rfl,jT];congr 1;simp only[g1,Int.natCast_zero,g2];cases m with
     | none=>simp[aK]
     | some m=>simp only[Option.map_some,ayG]at g3;simp[aK,g3]
    .cases hs
   .cases hs
  .rename_i e hk _ _;split at hs
   .rename_i te r kZ hr;split at hs
    .rename_i jR;dsimp only at hs;split at hs
     .rename_i v hv;cases hs;refine⟨?_,rfl⟩;simp only at cA;obtain⟨yN,Ja⟩:=bM cA;obtain⟨hj,fx⟩:=gJ hr dF yN;obtain⟨h1,h2,h3,h4,a,N,C,hxv,hN,hC,hCm⟩:=fx.step _ Ja;rw[Ev hv,hxv];simp only[sj,E.den]at h2 h3 h4 hC ⊢;have hxN:(h.map λe:E=>e.den ρ 0).getD (r.p.len.den ρ 0)=(h.map λe:E=>e.den ρ 0).getD (N:Int)\/(h=none/\r.p.len.den ρ 0<=N):=by
       cases h with
       | none=>right;exact⟨rfl,by omega⟩
       | some h=>left;rfl
      have hxN:(h.map λe:E=>e.den ρ 0).getD (N:Int)=(h.map λe:E=>e.den ρ 0).getD (r.p.len.den ρ 0):=by
       rcases hxN with h | ⟨rfl,hle⟩
       .exact h.symm
       .simp only[Option.map_none,Option.getD_none]at h3 ⊢;omega
      have jT:=qV (P:=P) (w:=w) hT ji hk kZ a N C hl hh hm hx h2 (by rw[hxN];exact h3)
       (λx hx=>by
        rw[hxN];rw[axV]at hx;obtain⟨me,hme,rfl⟩:=hx;have:=h4 me hme;have:=hCm me hme;exact⟨h4 me hme,by omega⟩)
       (λhx=>by
        rw[hxN];have:=hC (by simpa using hx);omega)
      rw[jT,hxN,jR];congr 2;cases m<;>rfl
     .cases hs
    .cases hs
   .cases hs
  .rename_i n e v i s c hk;split at hs
   .rename_i te j md v' t' s' m' aB kZ hf;cases hs;obtain⟨hj,er⟩:=dy hf;simp only[Ck.og,beq_iff_eq]at er;subst er;have hS:=dF j (by simp) _ hj;obtain⟨h0,h1⟩:=dR ρ cA;obtain⟨a,cp,he⟩:=oe hS (by omega);have e2:(SV.pv v i s c).val ρ= .pointer (some (a.add ((i.den ρ 0).toNat*s+c))):=by rw[SV.val,he];rfl
    refine⟨?_,rfl⟩;have jT:=tV (P:=P) (w:=w) hT ji hk kZ (a.add ((i.den ρ 0).toNat*s+c)) hl hh hm hx (by simp) (by simp) (by simp) (by simp);rw[e2,jT];simp only[SV.val,he,Ay];simp[aK,pD]
   .cases hs
  .rename_i n e b c hk;split at hs
   .rename_i te kZ;split at hs
    .rename_i jR;obtain⟨jR,aj0⟩:=jR;simp only[axU]at hs;subst hs;refine⟨?_,rfl⟩;simp only at cA;obtain⟨cA,q6⟩:=bM cA;obtain⟨cA,q4⟩:=bM cA;obtain⟨cA,q3⟩:=bM cA;obtain⟨q1,q2⟩:=bM cA;have q1:=br q1;have q2:=br q2;have q3:=br q3;have q4:=br q4;have q6:=QP q6;simp only[sj,E.den]at q1 q2 q3 q4 q6;have hc:c=c/te.size*te.size:=by
      have:=Nat.div_add_mod c te.size;rw[aj0,Nat.add_zero,Nat.mul_comm]at this;exact this.symm
     have e1:(SV.ptr b c).val ρ= .pointer (some ⟨ρ.bv.getD b 0,c/te.size*te.size,none⟩):=by
      rw[<-hc];rfl
     have jT:=tV (P:=P) (w:=w) hT ji hk kZ ⟨ρ.bv.getD b 0,c/te.size*te.size,none⟩ hl hh hm hx q1 q2
      (λx hx=>by rw[hx]at q3 q4;simp only[ayG]at q3 q4;exact⟨q3,q4⟩) (λhx=>by rw[hx]at q3;simp only[Option.getD_none]at q3;exact q3)
     rw[e1,jT];congr 1;have hmm:aK te.size (.slice (some ⟨ρ.bv.getD b 0,c/te.size*te.size,none⟩) n n) ((l.map λe:E=>e.den ρ 0).getD 0).toNat
       ((h.map λe:E=>e.den ρ 0).getD (n:Int)).toNat ((m.map λe:E=>e.den ρ 0).map ag)=
       aK te.size (.slice (some ⟨ρ.bv.getD b 0,c/te.size*te.size,none⟩) n n) ((l.map λe:E=>e.den ρ 0).getD 0).toNat
       ((h.map λe:E=>e.den ρ 0).getD (n:Int)).toNat (some ((m.map λe:E=>e.den ρ 0).getD (n:Int)).toNat):=by
      cases m<;>simp[aK]
     rw[hmm,Lt _ _ _ _ _ _ _ _ q1 q2 q3 q6];simp only[SV.val,bK,gD,sj,E.den];congr 4;generalize c/te.size=q;omega
    .cases hs
   .cases hs
  .cases hs
end
def iX(f:Nat->List Value)(n:Nat):List Value:=(List.range n).flatMap f
theorem kv(f:Nat->List Value)(a b:Nat):iX f (a+b)=iX f a++iX (λi=>f (a+i)) b:=by
 unfold iX;rw[List.range_add,List.flatMap_append,List.flatMap_map]
theorem oZ{f:Nat->List Value}{s:Nat}(hf: ∀i,(f i).length=s)(n:Nat):(iX f n).length=n*s:=by
 induction n with
 | zero=>simp[iX]
 | succ n ih=>
  rw[kv,axP,ih];simp[iX,hf,Nat.add_mul]
theorem eM{f g:Nat->List Value}{n:Nat}(h: ∀i,i<n->f i=g i):iX f n=iX g n:=by
 unfold iX;rw[List.flatMap_def,List.flatMap_def];congr 1;exact List.map_congr_left λi hi=>h i (ayc.1 hi)
theorem vO{f:Nat->List Value}{s:Nat}(hf: ∀i,(f i).length=s)(n L N:Nat)(h:L+N<=n):
  ((iX f n).drop (L*s)).take (N*s)=iX (λi=>f (L+i)) N:=by
 obtain⟨d,rfl⟩: ∃d,n=L+N+d:=⟨n - (L+N),by omega⟩;rw[kv,kv];have h1:=oZ hf L;have h2:(iX (λi=>f (L+i)) N).length=N*s:=oZ (λi=>hf (L+i)) N;generalize iX f L=A at h1 ⊢;generalize iX (λi=>f (L+i)) N=B at h2 ⊢;rw[ayl,List.drop_append,List.drop_of_length_le (l:=A) (by omega),h1,Nat.sub_self,List.drop_zero,List.nil_append,List.take_append_of_le_length (by omega),List.take_of_length_le (by omega)]
theorem AW{f g h:Nat->List Value}{s:Nat}(hf: ∀i,(f i).length=s)(n a m:Nat)(hle:a+m<=n)(hh: ∀i,h i=if a<=i/\i<a+m then g (i - a)else f i):
  iX h n=(iX f n).take (a*s)++iX g m++(iX f n).drop (a*s+m*s):=by
 obtain⟨d,rfl⟩: ∃d,n=a+m+d:=⟨n - (a+m),by omega⟩;have e1:iX h a=iX f a:=eM λi hi=>by rw[hh,if_neg (by omega)]
 have e2:iX (λi=>h (a+i)) m=iX g m:=eM λi hi=>by rw[hh,if_pos (by omega)];congr 1;omega
 have e3:iX (λi=>h (a+m+i)) d=iX (λi=>f (a+m+i)) d:=eM λi hi=>by rw[hh,if_neg (by omega)]
 rw[kv h,kv h,e1,e2,e3,kv f,kv f];have h1:=oZ hf a;have h2:(iX (λi=>f (a+i)) m).length=m*s:=oZ (λi=>hf (a+i)) m;generalize iX f a=A at h1 ⊢;generalize iX (λi=>f (a+i)) m=B at h2 ⊢;rw[ayl A B,List.take_append_of_le_length (by omega),List.take_of_length_le (l:=A) (by omega),List.drop_append,List.drop_of_length_le (l:=A) (by omega),h1,
  show a*s+m*s - a*s=m*s by omega,List.drop_append,List.drop_of_length_le (l:=B) (by omega),h2,Nat.sub_self,List.drop_zero,List.nil_append,List.nil_append]
section
variable {P:Program} {ρ:Env} {w:World} {look:Nat->Option SV} {bF:Operand->Value} {hp:List Ck} {S:Nat->Nat->Prop} {nb nv:Nat} {T:List TI}
theorem dI(n:Nat)(aB:List bU):aL ρ n aB=iX (rowAt ρ aB) n:=rfl
theorem lG{lo:E}(h0:0<=lo.den ρ 0): ∀{aB aS:List bU},jU lo aB=some aS->
  cm aS=cm aB/\∀i:Nat,rowAt ρ aS i=rowAt ρ aB ((lo.den ρ 0).toNat+i)
 | [],aS,h=>by
  simp[jU]at h;subst h;exact⟨rfl,λ_=>rfl⟩
 | c::r,aS,h=>by
  unfold jU at h;split at h
  .rename_i c' r' h1 h2;cases h;obtain⟨i1,i2⟩:=lG h0 h2;have hc:c'.w=c.w/\∀i,c'.cells ρ i=c.cells ρ ((lo.den ρ 0).toNat+i):=by
    obtain⟨ck,cw,a⟩:=c;unfold Gx at h1;cases ck with
    | int k=>
     simp only[axU]at h1;subst h1;refine⟨rfl,λi=>?_⟩;simp only[bU.cells,ax];apply cN;intro j _;rw[gP,iV];simp only[E.den];rw[toNat_mul];congr 1;rw[Nat.add_mul];omega
    | bool=>
     simp only[axU]at h1;subst h1;refine⟨rfl,λi=>?_⟩;simp only[bU.cells,cR];apply List.map_congr_left;intro j _;rw[gP,iV];simp only[E.den];rw[toNat_mul];rw[show(lo.den ρ 0).toNat*cw+(i*cw+j)=((lo.den ρ 0).toNat+i)*cw+j by rw[Nat.add_mul];omega]
    | ptr=>
     simp only[axU]at h1;subst h1;refine⟨rfl,λi=>?_⟩;simp only[bU.cells,vF];apply List.map_congr_left;intro j _;rw[gP,iV];simp only[E.den];rw[toNat_mul];rw[show(lo.den ρ 0).toNat*cw+(i*cw+j)=((lo.den ρ 0).toNat+i)*cw+j by rw[Nat.add_mul];omega]
    | cv=>
     simp only[axU]at h1;subst h1;refine⟨rfl,λi=>?_⟩;simp only[bU.cells,cV];apply List.map_congr_left;intro j _;rw[gP,iV];simp only[E.den];rw[toNat_mul];rw[show(lo.den ρ 0).toNat*cw+(i*cw+j)=((lo.den ρ 0).toNat+i)*cw+j by rw[Nat.add_mul];omega]
    | bW=>
     simp only[axU]at h1;subst h1;exact⟨rfl,λi=>rfl⟩
    | val v=>
     simp only at h1;split at h1
     .rename_i NN;cases h1;subst NN;refine⟨rfl,λi=>?_⟩;simp[bU.cells,E.den]
     .cases h1
    | Lr l=>
     simp only at h1;split at h1
     .rename_i NN;cases h1;subst NN;refine⟨rfl,λi=>?_⟩;simp[bU.cells,E.den]
     .cases h1
    | pt q v=>
     simp only at h1;split at h1
     .rename_i NN;cases h1;subst NN;refine⟨rfl,λi=>?_⟩;simp[bU.cells,E.den]
     .cases h1
    | str=>
     simp only at h1;split at h1
     .rename_i NN;cases h1;subst NN;refine⟨rfl,λi=>?_⟩;simp[bU.cells,E.den]
     .cases h1
   refine⟨?_,λi=>?_⟩
   .simp only[cm,ayr,List.sum_cons,hc.1]at i1 ⊢;omega
   .simp only[rowAt,ayr,ayn]at i2 ⊢;rw[hc.2,i2]
  .cases h
theorem Gy{at_ m:E}(h0:0<=at_.den ρ 0)(hm:0<=m.den ρ 0){d s c:bU}(h:JG at_ m d s=some c):
  c.w=d.w/\s.w=d.w/\∀i:Nat,c.cells ρ i=if(at_.den ρ 0).toNat<=i/\i<(at_.den ρ 0).toNat+(m.den ρ 0).toNat then s.cells ρ (i - (at_.den ρ 0).toNat)else d.cells ρ i:=by
 obtain⟨dk,dw,da⟩:=d;obtain⟨sk,sw,sa⟩:=s;unfold JG at h;split at h
 .cases h
 .rename_i hw;simp only[ne_eq,Decidable.not_not]at hw;subst hw;have key: ∀(i j:Nat),j<dw->(E.jA da (rT at_ (.lit dw)) (rT m (.lit dw)) sa).den ρ (i*dw+j)=
    if(at_.den ρ 0).toNat<=i/\i<(at_.den ρ 0).toNat+(m.den ρ 0).toNat then sa.den ρ ((i - (at_.den ρ 0).toNat)*dw+j)else da.den ρ (i*dw+j):=by
   intro i j hj;simp only[E.den,iV,toNat_mul];generalize (at_.den ρ 0).toNat=A;generalize (m.den ρ 0).toNat=M;by_cases hc:A<=i/\i<A+M
   .obtain⟨h1,h2⟩:=hc;obtain⟨d,rfl⟩: ∃d,i=A+d:=⟨i - A,by omega⟩;have hd:d+1<=M:=by omega
    have:=Nat.mul_le_mul_right dw hd;rw[Nat.add_mul]at this;have L1:A*dw<=(A+d)*dw+j/\(A+d)*dw+j<A*dw+M*dw:=by rw[Nat.add_mul];omega
    rw[if_pos L1,if_pos ⟨by omega,by omega⟩];congr 1;rw[show A+d - A=d by omega,Nat.add_mul];omega
   .rw [if_neg hc,if_neg];intro Z9;apply hc;constructor
    .apply Nat.le_of_not_lt;intro cC;have:=Nat.mul_le_mul_right dw (Nat.succ_le_of_lt cC);rw[Nat.succ_mul]at this;omega
    .apply Nat.lt_of_not_le;intro hle;have:=Nat.mul_le_mul_right dw hle;rw[Nat.add_mul]at this;omega
  split at h
  .split at h
   .rename_i k k' hk kX eJ;simp only at hk kX;subst hk kX eJ;cases h;refine⟨rfl,rfl,λi=>?_⟩;simp only[bU.cells,ax];split
    .rename_i hc;apply cN;intro j hj;rw[key i j hj,if_pos hc]
    .rename_i hc;apply cN;intro j hj;rw[key i j hj,if_neg hc]
   .cases h
  .rename_i hk kX;simp only at hk kX;subst hk kX;cases h;refine⟨rfl,rfl,λi=>?_⟩;simp only[bU.cells,cR];split
   .rename_i hc;apply List.map_congr_left;intro j hj;rw[key i j (ayc.1 hj),if_pos hc]
   .rename_i hc;apply List.map_congr_left;intro j hj;rw[key i j (ayc.1 hj),if_neg hc]
  .rename_i hk kX;simp only at hk kX;subst hk kX;cases h;refine⟨rfl,rfl,λi=>?_⟩;simp only[bU.cells,vF];split
   .rename_i hc;apply List.map_congr_left;intro j hj;rw[key i j (ayc.1 hj),if_pos hc]
   .rename_i hc;apply List.map_congr_left;intro j hj;rw[key i j (ayc.1 hj),if_neg hc]
  .rename_i hk kX;simp only at hk kX;subst hk kX;cases h;refine⟨rfl,rfl,λi=>?_⟩;simp only[bU.cells,cV];split<;>first | rfl | (simp only[hw]) | (congr 1)
  .rename_i hk kX;simp only at hk kX;subst hk kX;split at h
   .rename_i hc;obtain⟨rfl,z5⟩:=hc;simp only at z5;subst z5;cases h;refine⟨rfl,rfl,λi=>?_⟩;by_cases hi:i=(at_.den ρ 0).toNat
    .rw [if_pos (by rw[eI,hi];constructor<;>simp)];simp[bU.cells,cV,lE,lC,AE,eI,hi]
    .rw [if_neg (by rw[eI];intro hc;apply hi;have:=hc.2;simp at this;omega)];simp[bU.cells,cV,lE,lC,hi]
   .split at h
    .rename_i NL;subst NL;cases h;refine⟨rfl,rfl,λi=>?_⟩;rw[if_neg (by simp only[eI];intro hc;have:=hc.2;simp at this;omega)]
    .cases h
  .cases h
theorem lH{at_ m:E}(h0:0<=at_.den ρ 0)(hm:0<=m.den ρ 0): ∀{d s c:List bU},kE at_ m d s=some c->
  cm c=cm d/\cm s=cm d/\
   ∀i:Nat,rowAt ρ c i=if(at_.den ρ 0).toNat<=i/\i<(at_.den ρ 0).toNat+(m.den ρ 0).toNat then rowAt ρ s (i - (at_.den ρ 0).toNat)else rowAt ρ d i
 | [],[],c,h=>by
  simp[kE]at h;subst h;exact⟨rfl,rfl,λ_=>by simp[rowAt]⟩
 | [],_::_,c,h=>by simp[kE]at h
 | _::_,[],c,h=>by simp[kE]at h
 | d::r,s::r',c,h=>by
  unfold kE at h;split at h
  .rename_i a b h1 h2;cases h;obtain⟨p1,p2,p3⟩:=Gy h0 hm h1;obtain⟨q1,q2,q3⟩:=lH h0 hm h2;simp only[cm,ayr,List.sum_cons]at q1 q2 ⊢;refine⟨by omega,by omega,λi=>?_⟩;simp only[rowAt,ayr,ayn]at q3 ⊢;rw[p3,q3];split<;>rfl
  .cases h
theorem vP{s:Nat}: ∀(k i:Nat) {cs:List SV} {aB aS:List bU},vQ s k i cs aB=some aS->s=cm aB->
  cm aS=cm aB/\(∀i':Nat,i'<i->rowAt ρ aS i'=rowAt ρ aB i')/\iX (λj=>rowAt ρ aS (i+j)) k=(SV.aq ρ cs).take (k*s)
 | 0,i,cs,aB,aS,h,hs=>by
  simp[vQ]at h;subst h;simp[iX]
 | k+1,i,cs,aB,aS,h,hs=>by
  unfold vQ at h;split at h
  .rename_i a b h1 h2;split at h
   .rename_i apd h3;obtain⟨p1,p2,p3,p4⟩:=jQ ρ h3;obtain⟨q1,q2,q3⟩:=vP k (i+1) h (by omega);have e0:((E.lit (i:Int)).den ρ 0).toNat=i:=by simp[E.den]
    rw[e0]at p3 p4;obtain⟨c1,c2⟩:=fy ρ h1;have c3:=fM ρ _ _ _ h2;rw[List.drop_zero]at c1;rw[Nat.zero_add]at c2;have hal:(SV.aq ρ a).length=s:=by rw[c1,List.length_take];omega
    refine⟨by omega,λi' hi=>by rw[q2 i' (by omega),p3 i' (by omega)],?_⟩;rw[Nat.add_comm k 1,kv];have e1:iX (λj=>rowAt ρ aS (i+j)) 1=SV.aq ρ a:=by
     have:rowAt ρ aS i=SV.aq ρ a:=by
      rw[q2 i (by omega),p4,List.drop_eq_nil_of_le,List.append_nil];rw[show(rowAt ρ aB i).length=cm aB from dU ρ aB _];omega
     simp[iX,this]
    have e2:iX (λj=>rowAt ρ aS (i+(1+j))) k=iX (λj=>rowAt ρ aS (i+1+j)) k:=eM λj _=>by rw[Nat.add_assoc]
    rw[e1,e2,q3,c3,c1,Nat.add_mul,Nat.one_mul,List.take_add]
   .cases h
  .cases h
def World.yP(w:World)(v:Value)(n:Nat)(cs:List Value):Prop:=
 ∃a c,v= .slice a n c/\(a=none->n=0)/\∀ad,a=some ad->∀(j:Nat) u,cs[j]? =some u->w.cell? (ad.add j)=some u
structure YQ (ρ:Env) (w:World) (v:Value) (s:Nat) (n:E) (aB:List bU):Prop where
 nn:0<=n.den ρ 0
 wd:cm aB=s
 rd:World.yP w v (n.den ρ 0).toNat (aL ρ (n.den ρ 0).toNat aB)
theorem Ew{md:Bool}{t s n:Nat}{v:Value}{cs:List Value}{S:Nat->Prop}(h:(aA md t s v n cs).p w S):World.yP w v n cs/\cs.length=n*s:=by
 obtain⟨h0,_⟩:=h;cases md with
 | true=>
  simp only[if_true]at h0;have YL:=h0;obtain⟨hl,hr⟩:=h0;refine⟨?_,hl⟩;rcases hr with⟨rfl,rfl⟩ | ⟨g,o,cap,cur,rfl,hg,Jr,_⟩
  .exact⟨none,0,rfl,λ_=>rfl,by simp⟩
  .refine⟨_,cap,rfl,by simp,?_⟩;rintro _ ⟨⟩;exact λj u hu=>nm YL j u hu
 | false=>
  simp only[Bool.false_eq_true,if_false]at h0;obtain⟨hl,a,m,c,rfl,rfl,_,lD,hr⟩:=h0;exact⟨⟨a,c,rfl,lD,λad had=>(hr ad had).2⟩,hl⟩
theorem Z_{s:Nat}{v x:Value}{n:E}{p:Part}{cs:List Value}(h:oh ρ s v x n p)(hv:World.yP w v (n.den ρ 0).toNat cs):
  World.yP w x (p.len.den ρ 0).toNat ((cs.drop ((p.lo.den ρ 0).toNat*s)).take ((p.len.den ρ 0).toNat*s)):=by
 obtain⟨h1,h2,h3,a,c,k,rfl,hc,rfl,hk⟩:=h;obtain⟨a',c',he,lD,hr⟩:=hv;cases he;have NM:(p.lo.den ρ 0).toNat+(p.len.den ρ 0).toNat<=((p.mx.map λm=>m.den ρ 0).map ag).getD c\/(p.len.den ρ 0).toNat=0:=by
  cases hm:(p.mx.map λm=>m.den ρ 0)with
  | none=>simp only[Option.map_none,Option.getD_none];omega
  | some m=>have:=h3 m hm;simp only[Option.map_some,ayG];omega
 refine⟨_,_,rfl,?_,?_⟩
 .intro hn;cases a with
  | none=>have:=lD rfl;omega
  | some a=>cases hn
 .intro ad had;rw[axV]at had;obtain⟨a0,rfl,rfl⟩:=had;have mG:=hr a0 rfl;intro j u hu;rw[List.getElem?_take]at hu;split at hu
  .rename_i hj;have hN:(p.len.den ρ 0).toNat≠0:=by intro h;rw[h,Nat.zero_mul]at hj;omega
   rw[List.getElem?_drop]at hu;rw[hk (.inl (by omega)),dS];exact mG _ _ hu
  .cases hu
theorem z9(aB:List bU)(n:Nat): ∀u∈aL ρ n aB,u.oneCell'=true:=by
 intro u hu;unfold aL aG at hu;rw[List.mem_flatMap]at hu;obtain⟨i,_,hu⟩:=hu;rw[List.mem_flatMap]at hu;obtain⟨c,hc,hu⟩:=hu;rw[ayg]at hc;obtain⟨⟨ck,cw,a⟩,_,rfl⟩:=hc;cases ck with
 | int k=>
  simp only[bU.cells,ax,aj,ayg]at hu;obtain⟨_,_,rfl⟩:=hu;rfl
 | bool=>
  simp only[bU.cells,cR,ayg]at hu;obtain⟨_,_,rfl⟩:=hu;rfl
 | val v=>
  simp only[bU.cells,cV,ayg]at hu;obtain⟨j,_,rfl⟩:=hu;exact V1.one _
 | ptr=>
  simp only[bU.cells,vF,ayg]at hu;obtain⟨j,_,rfl⟩:=hu;exact Gc _
 | cv=>
  simp only[bU.cells,cV,ayg]at hu;obtain⟨j,_,rfl⟩:=hu;exact iU _
 | Lr l=>
  simp only[bU.cells,cV,ayg]at hu;obtain⟨j,_,rfl⟩:=hu;exact V1.one _
 | pt q v=>
  simp only[bU.cells,cV,ayg]at hu;obtain⟨j,_,rfl⟩:=hu;split
  .exact V1.one _
  .exact iU _
 | bW=>
  simp only[bU.cells,cV,ayg]at hu;obtain⟨j,_,rfl⟩:=hu;rfl
 | str=>
  simp only[bU.cells,cV,ayg]at hu;obtain⟨j,_,rfl⟩:=hu;rfl
theorem Gz{x:SV}{r:Rt}(h:iJ hp x=some r)(dF:Reads hp ρ w S [r.j])(cA: ∀b∈r.vcs,b.prop ρ)(h0:0<=r.p.len.den ρ 0)(hw:r.s=cm r.aB)
  {aB:List bU} (hc:jU r.p.lo r.aB=some aB):YQ ρ w (x.val ρ) r.s r.p.len aB:=by
 obtain⟨hj,fx⟩:=gJ h dF cA;have hS:=dF r.j (by simp) _ hj;obtain⟨hv,hl⟩:=Ew hS;obtain⟨e1,e2⟩:=lG fx.lo hc;refine⟨h0,by omega,?_⟩;have:=Z_ fx hv;have h2:=fx.hi;have h1:=fx.lo;rw[dI,hw,vO (dU ρ r.aB) _ _ _ (by omega)]at this;rw[dI,eM λi _=>e2 i];exact this
theorem f_(k:IntKind)(n:Nat)(a:E):aL ρ n [⟨.int k,1,a⟩]=aj k n (a.den ρ):=by
 unfold aL aG aj
 induction n with
 | zero=>rfl
 | succ n ih=>
  rw[List.range_succ,List.flatMap_append,List.map_append,ih];simp[bU.cells,ax,aj]
theorem iK{te:TI}{y:SV}{sc:Src}(h:GA T hp te y=some sc)(dF:Reads hp ρ w S sc.rd)(cA: ∀b∈sc.vcs,b.prop ρ)
  (h0:0<=sc.n.den ρ 0):YQ ρ w (y.val ρ) te.size sc.n sc.aB:=by
 unfold GA at h;split at h
 .split at h
  .split at h
   .rename_i hw;cases h;refine⟨by simp[E.den],hw.symm,none,0,by simp[SV.val,E.den],by simp[E.den],by simp⟩
   .cases h
  .cases h
 .rename_i b i s m cap;split at h
  .rename_i j b' wr cs hf;obtain⟨hj,er⟩:=eV hf;simp only[Ck.xA,beq_iff_eq]at er;subst er;split at h
   .cases h
   .rename_i hs;simp only[ne_eq,Decidable.not_not]at hs;subst hs;split at h
    .rename_i i0 m0 PW NL;have di:=dg (ρ:=ρ) PW;have dm:=dg (ρ:=ρ) NL;have qo:(SV.sl b i te.size m cap).val ρ= .slice (some ⟨ρ.bv.getD b 0,i0*te.size,none⟩) m0 (cap.den ρ 0).toNat:=by simp[SV.val,di,dm]
     have base: ∀(x:List SV),kK (i0*te.size) (m0*te.size) cs=some x->(ak (ρ.bv.getD b 0) wr (SV.aq ρ cs)).p w (S j)->
       (SV.aq ρ x).length=m0*te.size/\∀(k:Nat) u,(SV.aq ρ x)[k]? =some u->w.cell? ((⟨ρ.bv.getD b 0,i0*te.size,none⟩:Addr).add k)=some u:=by
      intro x hx hS;obtain⟨c1,c2⟩:=fy ρ hx;refine⟨by rw[c1,List.length_take,List.length_drop];omega,λk u hu=>?_⟩;rw[c1,List.getElem?_take]at hu;split at hu
      .exact kM hS _ k u hu
      .cases hu
     split at h
     .rename_i k N a hx;split at h
      .rename_i hc;obtain⟨lZ,rfl⟩:=hc;cases h;obtain⟨_,hb⟩:=base _ hx (dF j (by simp) _ hj);refine⟨h0,by simp[cm,lZ],_,_,qo,by simp,?_⟩;rintro _ ⟨⟩ k' u hu;rw[f_]at hu;refine hb k' u ?_;simpa[SV.aq,SV.cells,E.den] using hu
      .cases h
     .rename_i x _ hx;split at h
      .split at h
       .rename_i aeJ g_;split at h
        .rename_i hw;rw[axV]at h;obtain⟨aS,nR,rfl⟩:=h;obtain⟨hl,hb⟩:=base _ hx (dF j (by simp) _ hj);obtain⟨q1,_,q3⟩:=vP (ρ:=ρ) m0 0 nR hw;refine⟨h0,q1.trans hw.symm,_,_,qo,by simp,?_⟩;rintro _ ⟨⟩ k' u hu;refine hb k' u ?_;simp only[Nat.zero_add]at q3;rw[List.take_of_length_le (by omega)]at q3;simp only[E.den,ax3]at hu;rw[dI]at hu;rw[<-q3];exact hu
        .cases h
       .cases h
      .cases h
     .cases h
    .split at h
     .rename_i k N a;split at h
      .rename_i lZ;cases h;simp only at cA h0;obtain⟨v1,v3⟩:=bM cA;obtain⟨v1,v2⟩:=bM v1;have v1:=br v1;have v3:=br v3;rw[bK]at v3;simp only[E.den]at v1 v3;have hS:=dF j (by simp) _ hj;refine⟨h0,by simp[cm,lZ],_,_,rfl,by simp,?_⟩;rintro _ ⟨⟩ k' u hu;rw[f_,bL]at hu;split at hu
       .rename_i hk;have hk:k'<(m.den ρ 0).toNat:=hk;simp only[axU]at hu;refine kM hS _ k' u ?_;rw[lZ,Nat.mul_one,List.getElem?_drop];simp only[SV.aq,SV.cells,List.append_nil];rw[bL,if_pos (by omega),<-hu,gP]
       .cases hu
      .cases h
     .cases h
  .cases h
 .split at h
  .rename_i r hr;split at h
   .rename_i hc;obtain⟨hs,hw⟩:=hc;rw[axV]at h;obtain⟨aB,g_,rfl⟩:=h;simp only at cA h0;obtain⟨v1,_⟩:=bM cA;rw[<-hs];exact Gz hr dF v1 h0 hw g_
   .cases h
  .cases h
end
end Go.RX
