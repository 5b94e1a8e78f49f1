/- Executor. -/
import Derived.Test.YtmgbbbmdbpbeeaaM07
open Go.Instr renaming sliceBounds → aeb
open Go.Result renaming andThen_ok → adC
open Go.Sem renaming run_bind → adL, run_pure → ad_
open Int renaming toNat → ag
open List renaming map_cons → adT, mem_range → adZ
open Option renaming getD_some → aee, map_eq_some_iff → adw
open Option.some renaming injEq → adv
namespace Go.RX
def fb:Option Value→Option Int→Prop
 | none,none=>True
 | some v,some i=> ∃k,v= .int k i
 | _,_=>False
section
variable {P:Program} {ρ:Env} {w:World} {look:Nat→Option SV} {vals:Operand→Value} {hp:List Ck} {S:Nat→Nat→Prop} {nb nv:Nat} {T:List TI}
theorem ij(se:r7 ρ look vals){o:Option Operand}{l:Option E}(h:xM look o=some l):fb (o.map vals) (l.map fun e:E=>e.den ρ 0):=by
 unfold xM at h;split at h
 ·cases h;exact True.intro
 ·split at h
  ·rename_i k e he;cases h;exact⟨k,ej se he⟩
  ·cases h
theorem ra(isS:Bool)(N C:Nat){lo hi mx:Option Value}{l h m:Option Int}(hl:fb lo l)(hh:fb hi h)(hm:fb mx m)(hx:m.isSome=true→h.isSome=true)
  (h0:0≤l.getD 0) (h1:l.getD 0≤h.getD (N:Int)) (h2: ∀x,m=some x→h.getD (N:Int)≤x∧x≤C) (h3:m=none→h.getD (N:Int)≤C):
  (aeb isS N C lo hi mx).run P w= .ok ((l.getD 0).toNat,(h.getD (N:Int)).toNat,(m.map ag).getD C) w:=by
 have hb:=fun(k:IntKind) (i:Int) (y:Nat) (code:BoundsCode) (a:0≤i) (b:i≤y)=>run_sliceBound (P:=P) (w:=w) k i y code a b
 cases m with
 | none=>
  have h3:=h3 rfl;cases mx with
  | some v=>exact hm.elim
  | none=>
   cases h with
   | none=>
    cases hi with
    | some v=>exact hh.elim
    | none=>
     cases l with
     | none=>
      cases lo with
      | some v=>exact hl.elim
      | none=>simp [aeb]
     | some l=>
      cases lo with
      | none=>exact hl.elim
      | some v=>
       obtain⟨k,rfl⟩:=hl;simp only [aee,Option.getD_none]at h0 h1;simp [aeb,hb k l N _ h0 h1]
   | some h=>
    cases hi with
    | none=>exact hh.elim
    | some v=>
     obtain⟨kh,rfl⟩:=hh;simp only [aee]at h1 h3;have hhn:(h.toNat:Int)=h:=Int.toNat_of_nonneg (by omega);cases l with
     | none=>
      cases lo with
      | some v=>exact hl.elim
      | none=>
       simp only [Option.getD_none]at h1;simp [aeb,hb kh h C _ h1 h3]
     | some l=>
      cases lo with
      | none=>exact hl.elim
      | some v=>
       obtain⟨k,rfl⟩:=hl;simp only [aee]at h0 h1;simp [aeb,hb kh h C _ (by omega) h3,hb k l h.toNat _ h0 (by omega)]
 | some m=>
  obtain⟨g2,g3⟩:=h2 m rfl;cases mx with
  | none=>exact hm.elim
  | some v=>
   obtain⟨km,rfl⟩:=hm;cases h with
   | none=>simp at hx
   | some h=>
    cases hi with
    | none=>exact hh.elim
    | some v=>
     obtain⟨kh,rfl⟩:=hh;simp only [aee]at h1 g2;cases l with
     | none=>
      cases lo with
      | some v=>exact hl.elim
      | none=>
       simp only [Option.getD_none]at h1;simp [aeb,hb km m C _ (by omega) g3,hb kh h m.toNat _ (by omega) (by omega)]
     | some l=>
      cases lo with
      | none=>exact hl.elim
      | some v=>
       obtain⟨k,rfl⟩:=hl;simp only [aee]at h0 h1;simp [aeb,hb km m C _ (by omega) g3,hb kh h m.toNat _ (by omega) (by omega),hb k l h.toNat _ h0 (by omega)]
theorem nM(hT:bC P T=true){t:TypeId}{tt te:TI}(ht:aU T t=some tt){e:Nat}(hk:tt.k= .slice e)(gi:aU T e=some te)
  (a:Option Addr) (N C:Nat) {lo hi mx:Option Value} {l h m:Option Int} (hl:fb lo l) (hh:fb hi h) (hm:fb mx m) (hx:m.isSome=true→h.isSome=true)
  (h0:0≤l.getD 0) (h1:l.getD 0≤h.getD (N:Int)) (h2: ∀x,m=some x→h.getD (N:Int)≤x∧x≤C) (h3:m=none→h.getD (N:Int)≤C):
  (Instr.sliceAt t (.slice a N C) lo hi mx).run P w= .ok (aC te.size (.slice a N C) (l.getD 0).toNat (h.getD (N:Int)).toNat (m.map ag)) w:=by
 obtain⟨rfl,rI⟩:=aG hT ht;obtain⟨rfl,cF⟩:=aG hT gi;have cL:=rI.kind;rw [hk]at cL;have hu:=bI cL;have:=ra (P:=P) (w:=w) true N C hl hh hm hx h0 h1 h2 h3;simp [Instr.sliceAt,Instr.slice,run_underlying hu,this,cF.sizeOf w,aC]
theorem zy(hT:bC P T=true){t:TypeId}{tt te:TI}(ht:aU T t=some tt){n e:Nat}(hk:tt.k= .arr n e)(gi:aU T e=some te)
  (a:Addr) {lo hi mx:Option Value} {l h m:Option Int} (hl:fb lo l) (hh:fb hi h) (hm:fb mx m) (hx:m.isSome=true→h.isSome=true)
  (h0:0≤l.getD 0) (h1:l.getD 0≤h.getD (n:Int)) (h2: ∀x,m=some x→h.getD (n:Int)≤x∧x≤n) (h3:m=none→h.getD (n:Int)≤n):
  (Instr.sliceAt t (.pointer (some a)) lo hi mx).run P w= .ok (aC te.size (.slice (some a) n n) (l.getD 0).toNat (h.getD (n:Int)).toNat (m.map ag)) w:=by
 obtain⟨rfl,rI⟩:=aG hT ht;obtain⟨rfl,cF⟩:=aG hT gi;have cL:=rI.kind;rw [hk]at cL;have hu:=mY cL;have:=ra (P:=P) (w:=w) false n n hl hh hm hx h0 h1 h2 h3;simp only [Instr.sliceAt,adL,run_underlying hu,adC,Instr.sureAddr,ad_,this,cF.sizeOf w,aC];congr 2;split<;>simp
theorem HT(b i0 n0 m0 s:Nat)(l h:Int)(m:Int)(h0:0≤l)(h1:l≤h)(h2:h≤m)(h3:l=0∨l<m):
  aC s (.slice (some ⟨b,i0*s,none⟩) n0 m0) l.toNat h.toNat (some m.toNat)= .slice (some ⟨b,(i0+l.toNat)*s,none⟩) (h - l).toNat (m - l).toNat:=by
 simp only [aC,aee];congr 1
 ·rcases h3 with rfl | h3
  ·simp [jI]
  ·rw [if_neg (by omega),Option.map_some,gw,Nat.add_mul]
 ·omega
 ·omega
theorem pc(o:Option E)(d:E):(o.getD d).den ρ 0=(o.map fun e:E=>e.den ρ 0).getD (d.den ρ 0):=by cases o<;>rfl
theorem BP{x v:SV}{c:Cut}{s:Nat}(h:xN x c s=some v):
  v.val ρ=aC s (x.val ρ) (c.lo.den ρ 0).toNat (c.hi.den ρ 0).toNat (c.mx.map fun m=>(m.den ρ 0).toNat):=by
 unfold xN at h;split at h
 ·cases h;rfl
 ·split at h
  ·rename_i hs;subst hs;cases h;simp only [SV.val,mL];rfl
  ·cases h
 ·cases h
theorem LJ{l mm:E}(h: ∀b∈(if l= .lit 0 then []else [Gd l mm].filter fun b=>b != .lit true),b.prop ρ):l.den ρ 0=0∨l.den ρ 0<mm.den ρ 0:=by
 split at h
 ·rename_i hl;subst hl;exact .inl rfl
 ·exact .inr (vT h)
theorem xO(hT:bC P T=true){t:TypeId}{tt:TI}(eN:aU T t=some tt){x:SV}{l h m:Option E}{res:gx}(hs:xP T hp tt.k x l h m=some res)
  {lo hi mx:Option Value} (hl:fb lo (l.map fun e:E=>e.den ρ 0)) (hh:fb hi (h.map fun e:E=>e.den ρ 0)) (hm:fb mx (m.map fun e:E=>e.den ρ 0))
  (cJ:Reads hp ρ w S res.rd) (bV: ∀b∈res.vcs,b.prop ρ):
  (Instr.sliceAt t (x.val ρ) lo hi mx).run P w= .ok (res.val.val ρ) w∧res.gg= .none:=by
 unfold xP at hs;split at hs
 ·cases hs
 ·rename_i QY;have hx:(m.map fun e:E=>e.den ρ 0).isSome=true→(h.map fun e:E=>e.den ρ 0).isSome=true:=by
   cases m<;>cases h<;>simp_all
  split at hs
  ·rename_i e b i s n cap hk;split at hs
   ·rename_i te gi;split at hs
    ·rename_i eL;subst eL;simp only [adv]at hs;subst hs;refine⟨?_,rfl⟩;simp only at bV;obtain⟨bV,q6⟩:=bB bV;obtain⟨bV,q5⟩:=bB bV;obtain⟨bV,q4⟩:=bB bV;obtain⟨bV,q3⟩:=bB bV;obtain⟨bV,q2⟩:=bB bV;obtain⟨q0,q1⟩:=bB bV;have q0:=a_ q0;have q1:=a_ q1;have q2:=a_ q2;have q3:=a_ q3;have q4:=a_ q4;have q5:=a_ q5;have q6:=LJ q6;simp only [pc,E.den]at q0 q1 q2 q3 q4 q5 q6;have e1:(SV.sl b i te.size n cap).val ρ= .slice (some ⟨ρ.bv.getD b 0,(i.den ρ 0).toNat*te.size,none⟩) (n.den ρ 0).toNat (cap.den ρ 0).toNat:=rfl;have Wl:((n.den ρ 0).toNat:Int)=n.den ρ 0:=Int.toNat_of_nonneg q5;have gO:=nM (P:=P) (w:=w) hT eN hk gi (some ⟨ρ.bv.getD b 0,(i.den ρ 0).toNat*te.size,none⟩) (n.den ρ 0).toNat (cap.den ρ 0).toNat hl hh hm hx q1 (by rw [Wl];exact q2)
      (fun x hx=>by rw [hx]at q3 q4;rw [Wl];simp only [aee]at q3 q4;exact⟨q3,by omega⟩) (fun hx=>by rw [hx]at q3;rw [Wl];simp only [Option.getD_none]at q3;omega)
     rw [e1,gO,Wl];congr 1;have N7:aC te.size (.slice (some ⟨ρ.bv.getD b 0,(i.den ρ 0).toNat*te.size,none⟩) (n.den ρ 0).toNat (cap.den ρ 0).toNat) ((l.map fun e:E=>e.den ρ 0).getD 0).toNat
       ((h.map fun e:E=>e.den ρ 0).getD (n.den ρ 0)).toNat ((m.map fun e:E=>e.den ρ 0).map ag)=
       aC te.size (.slice (some ⟨ρ.bv.getD b 0,(i.den ρ 0).toNat*te.size,none⟩) (n.den ρ 0).toNat (cap.den ρ 0).toNat) ((l.map fun e:E=>e.den ρ 0).getD 0).toNat
       ((h.map fun e:E=>e.den ρ 0).getD (n.den ρ 0)).toNat (some ((m.map fun e:E=>e.den ρ 0).getD (cap.den ρ 0)).toNat):=by
      cases m<;>rfl
     rw [N7,HT _ _ _ _ _ _ _ _ q1 q2 q3 q6];simp only [SV.val,bH,dX,pc,E.den];congr 4;omega
    ·cases hs
   ·cases hs
  ·rename_i e hk;split at hs
   ·rename_i te gi;split at hs
    ·rename_i hz;cases hs;obtain⟨z1,z2,z3⟩:=hz;refine⟨?_,rfl⟩;have g1:(l.map fun e:E=>e.den ρ 0).getD 0=0:=by cases l with | none=>rfl | some l=>simp only [aee]at z1;subst z1;rfl
     have g2:(h.map fun e:E=>e.den ρ 0).getD 0=0:=by cases h with | none=>rfl | some l=>simp only [aee]at z2;subst z2;rfl
     have g3:(m.map fun e:E=>e.den ρ 0).getD 0=0:=by cases m with | none=>rfl | some l=>simp only [aee]at z3;subst z3;rfl
     have gO:=nM (P:=P) (w:=w) hT eN hk gi none 0 0 hl hh hm hx (by rw [g1];exact Int.le_refl _) (by rw [g1];simp only [Int.natCast_zero,g2];exact Int.le_refl _)
      (fun x hx=>by rw [hx]at g3;simp only [aee]at g3;subst g3;simp only [Int.natCast_zero,g2];exact⟨Int.le_refl _,Int.le_refl _⟩) (fun _=>by simp only [Int.natCast_zero,g2];exact Int.le_refl _)
     rw [show(SV.cC).val ρ= .slice none 0 0 from rfl,gO];congr 1;simp only [g1,Int.natCast_zero,g2];cases m with
     | none=>simp [aC]
     | some m=>simp only [Option.map_some,aee]at g3;simp [aC,g3]
    ·cases hs
   ·cases hs
  ·rename_i e hk _ _;split at hs
   ·rename_i te r gi hr;split at hs
    ·rename_i eL;dsimp only at hs;split at hs
     ·rename_i v hv;cases hs;refine⟨?_,rfl⟩;simp only at bV;obtain⟨uU,FL⟩:=bB bV;obtain⟨hj,dz⟩:=ek hr cJ uU;obtain⟨h1,h2,h3,h4,a,N,C,Gq,hN,hC,hCm⟩:=dz.step _ FL;rw [BP hv,Gq];simp only [pc,E.den]at h2 h3 h4 hC ⊢;have Tv:(h.map fun e:E=>e.den ρ 0).getD (r.p.len.den ρ 0)=(h.map fun e:E=>e.den ρ 0).getD (N:Int)∨(h=none∧r.p.len.den ρ 0≤N):=by
       cases h with
       | none=>right;exact⟨rfl,by omega⟩
       | some h=>left;rfl
      have Tv:(h.map fun e:E=>e.den ρ 0).getD (N:Int)=(h.map fun e:E=>e.den ρ 0).getD (r.p.len.den ρ 0):=by
       rcases Tv with h | ⟨rfl,hle⟩
       ·exact h.symm
       ·simp only [Option.map_none,Option.getD_none]at h3 ⊢;omega
      have gO:=nM (P:=P) (w:=w) hT eN hk gi a N C hl hh hm hx h2 (by rw [Tv];exact h3)
       (fun x hx=>by
        rw [Tv];rw [adw]at hx;obtain⟨me,Xb,rfl⟩:=hx;have:=h4 me Xb;have:=hCm me Xb;exact⟨h4 me Xb,by omega⟩)
       (fun hx=>by
        rw [Tv];have:=hC (by simpa using hx);omega)
      rw [gO,Tv,eL];congr 2;cases m<;>rfl
     ·cases hs
    ·cases hs
   ·cases hs
  ·rename_i n e b c hk;split at hs
   ·rename_i te gi;split at hs
    ·rename_i eL;obtain⟨eL,Xc⟩:=eL;simp only [adv]at hs;subst hs;refine⟨?_,rfl⟩;simp only at bV;obtain⟨bV,q6⟩:=bB bV;obtain⟨bV,q4⟩:=bB bV;obtain⟨bV,q3⟩:=bB bV;obtain⟨q1,q2⟩:=bB bV;have q1:=a_ q1;have q2:=a_ q2;have q3:=a_ q3;have q4:=a_ q4;have q6:=LJ q6;simp only [pc,E.den]at q1 q2 q3 q4 q6;have hc:c=c/te.size*te.size:=by
      have:=Nat.div_add_mod c te.size;rw [Xc,Nat.add_zero,Nat.mul_comm]at this;exact this.symm
     have e1:(SV.ptr b c).val ρ= .pointer (some ⟨ρ.bv.getD b 0,c/te.size*te.size,none⟩):=by
      rw [←hc];rfl
     have gO:=zy (P:=P) (w:=w) hT eN hk gi ⟨ρ.bv.getD b 0,c/te.size*te.size,none⟩ hl hh hm hx q1 q2
      (fun x hx=>by rw [hx]at q3 q4;simp only [aee]at q3 q4;exact⟨q3,q4⟩) (fun hx=>by rw [hx]at q3;simp only [Option.getD_none]at q3;exact q3)
     rw [e1,gO];congr 1;have N7:aC te.size (.slice (some ⟨ρ.bv.getD b 0,c/te.size*te.size,none⟩) n n) ((l.map fun e:E=>e.den ρ 0).getD 0).toNat
       ((h.map fun e:E=>e.den ρ 0).getD (n:Int)).toNat ((m.map fun e:E=>e.den ρ 0).map ag)=
       aC te.size (.slice (some ⟨ρ.bv.getD b 0,c/te.size*te.size,none⟩) n n) ((l.map fun e:E=>e.den ρ 0).getD 0).toNat
       ((h.map fun e:E=>e.den ρ 0).getD (n:Int)).toNat (some ((m.map fun e:E=>e.den ρ 0).getD (n:Int)).toNat):=by
      cases m<;>simp [aC]
     rw [N7,HT _ _ _ _ _ _ _ _ q1 q2 q3 q6];simp only [SV.val,bH,dX,pc,E.den];congr 4;generalize c/te.size=q;omega
    ·cases hs
   ·cases hs
  ·cases hs
end
def fp(f:Nat→List Value)(n:Nat):List Value:=(List.range n).flatMap f
theorem fq(f:Nat→List Value)(a b:Nat):fp f (a+b)=fp f a++fp (fun i=>f (a+i)) b:=by
 unfold fp;rw [List.range_add,List.flatMap_append,List.flatMap_map]
theorem lN{f:Nat→List Value}{s:Nat}(hf: ∀i,(f i).length=s)(n:Nat):(fp f n).length=n*s:=by
 induction n with
 | zero=>simp [fp]
 | succ n ih=>
  rw [fq,List.length_append,ih];simp [fp,hf,Nat.add_mul]
theorem cy{f g:Nat→List Value}{n:Nat}(h: ∀i,i<n→f i=g i):fp f n=fp g n:=by
 unfold fp;rw [List.flatMap_def,List.flatMap_def];congr 1;exact List.map_congr_left fun i hi=>h i (adZ.1 hi)
theorem sf{f:Nat→List Value}{s:Nat}(hf: ∀i,(f i).length=s)(n L N:Nat)(h:L+N≤n):
  ((fp f n).drop (L*s)).take (N*s)=fp (fun i=>f (L+i)) N:=by
 obtain⟨d,rfl⟩: ∃d,n=L+N+d:=⟨n - (L+N),by omega⟩;rw [fq,fq];have h1:=lN hf L;have h2:(fp (fun i=>f (L+i)) N).length=N*s:=lN (fun i=>hf (L+i)) N;generalize fp f L=A at h1 ⊢;generalize fp (fun i=>f (L+i)) N=B at h2 ⊢;rw [List.append_assoc,List.drop_append,List.drop_of_length_le (l:=A) (by omega),h1,Nat.sub_self,List.drop_zero,List.nil_append,List.take_append_of_le_length (by omega),List.take_of_length_le (by omega)]
theorem xQ{f g h:Nat→List Value}{s:Nat}(hf: ∀i,(f i).length=s)(n a m:Nat)(hle:a+m≤n)(hh: ∀i,h i=if a≤i∧i<a+m then g (i - a)else f i):
  fp h n=(fp f n).take (a*s)++fp g m++(fp f n).drop (a*s+m*s):=by
 obtain⟨d,rfl⟩: ∃d,n=a+m+d:=⟨n - (a+m),by omega⟩;have e1:fp h a=fp f a:=cy fun i hi=>by rw [hh,if_neg (by omega)]
 have e2:fp (fun i=>h (a+i)) m=fp g m:=cy fun i hi=>by rw [hh,if_pos (by omega)];congr 1;omega
 have e3:fp (fun i=>h (a+m+i)) d=fp (fun i=>f (a+m+i)) d:=cy fun i hi=>by rw [hh,if_neg (by omega)]
 rw [fq h,fq h,e1,e2,e3,fq f,fq f];have h1:=lN hf a;have h2:(fp (fun i=>f (a+i)) m).length=m*s:=lN (fun i=>hf (a+i)) m;generalize fp f a=A at h1 ⊢;generalize fp (fun i=>f (a+i)) m=B at h2 ⊢;rw [List.append_assoc A B,List.take_append_of_le_length (by omega),List.take_of_length_le (l:=A) (by omega),List.drop_append,List.drop_of_length_le (l:=A) (by omega),h1,
  show a*s+m*s - a*s=m*s by omega,List.drop_append,List.drop_of_length_le (l:=B) (by omega),h2,Nat.sub_self,List.drop_zero,List.nil_append,List.nil_append]
section
variable {P:Program} {ρ:Env} {w:World} {look:Nat→Option SV} {vals:Operand→Value} {hp:List Ck} {S:Nat→Nat→Prop} {nb nv:Nat} {T:List TI}
theorem cg(n:Nat)(aH:List bS):aN ρ n aH=fp (rowAt ρ aH) n:=rfl
theorem iT{lo:E}(h0:0≤lo.den ρ 0): ∀{aH aT:List bS},gD lo aH=some aT→
  bT aT=bT aH∧∀i:Nat,rowAt ρ aT i=rowAt ρ aH ((lo.den ρ 0).toNat+i)
 | [],aT,h=>by
  simp [gD]at h;subst h;exact⟨rfl,fun _=>rfl⟩
 | c::r,aT,h=>by
  unfold gD at h;split at h
  ·rename_i c' r' h1 h2;cases h;obtain⟨i1,i2⟩:=iT h0 h2;have hc:c'.w=c.w∧∀i,c'.cells ρ i=c.cells ρ ((lo.den ρ 0).toNat+i):=by
    obtain⟨ck,cw,a⟩:=c;unfold D6 at h1;cases ck with
    | int k=>
     simp only [adv]at h1;subst h1;refine⟨rfl,fun i=>?_⟩;simp only [bS.cells,aJ];apply bA;intro j _;rw [dC,fl];simp only [E.den];rw [toNat_mul];congr 1;rw [Nat.add_mul];omega
    | bool=>
     simp only [adv]at h1;subst h1;refine⟨rfl,fun i=>?_⟩;simp only [bS.cells,zu];apply List.map_congr_left;intro j _;rw [dC,fl];simp only [E.den];rw [toNat_mul];rw [show(lo.den ρ 0).toNat*cw+(i*cw+j)=((lo.den ρ 0).toNat+i)*cw+j by rw [Nat.add_mul];omega]
    | ptr=>
     simp only [adv]at h1;subst h1;refine⟨rfl,fun i=>?_⟩;simp only [bS.cells,xx];apply List.map_congr_left;intro j _;rw [dC,fl];simp only [E.den];rw [toNat_mul];rw [show(lo.den ρ 0).toNat*cw+(i*cw+j)=((lo.den ρ 0).toNat+i)*cw+j by rw [Nat.add_mul];omega]
    | cv=>
     simp only [adv]at h1;subst h1;refine⟨rfl,fun i=>?_⟩;simp only [bS.cells,gX];apply List.map_congr_left;intro j _;rw [dC,fl];simp only [E.den];rw [toNat_mul];rw [show(lo.den ρ 0).toNat*cw+(i*cw+j)=((lo.den ρ 0).toNat+i)*cw+j by rw [Nat.add_mul];omega]
    | cC=>
     simp only [adv]at h1;subst h1;exact⟨rfl,fun i=>rfl⟩
    | val v=>
     simp only at h1;split at h1
     ·rename_i O5;cases h1;subst O5;refine⟨rfl,fun i=>?_⟩;simp [bS.cells,E.den]
     ·cases h1
    | qV l=>
     simp only at h1;split at h1
     ·rename_i O5;cases h1;subst O5;refine⟨rfl,fun i=>?_⟩;simp [bS.cells,E.den]
     ·cases h1
    | str=>
     simp only at h1;split at h1
     ·rename_i O5;cases h1;subst O5;refine⟨rfl,fun i=>?_⟩;simp [bS.cells,E.den]
     ·cases h1
   refine⟨?_,fun i=>?_⟩
   ·simp only [bT,adT,List.sum_cons,hc.1]at i1 ⊢;omega
   ·simp only [rowAt,adT,List.flatMap_cons]at i2 ⊢;rw [hc.2,i2]
  ·cases h
theorem D7{at_ m:E}(h0:0≤at_.den ρ 0)(hm:0≤m.den ρ 0){d s c:bS}(h:Gr at_ m d s=some c):
  c.w=d.w∧s.w=d.w∧∀i:Nat,c.cells ρ i=if(at_.den ρ 0).toNat≤i∧i<(at_.den ρ 0).toNat+(m.den ρ 0).toNat then s.cells ρ (i - (at_.den ρ 0).toNat)else d.cells ρ i:=by
 obtain⟨dk,dw,da⟩:=d;obtain⟨sk,sw,sa⟩:=s;unfold Gr at h;split at h
 ·cases h
 ·rename_i hw;simp only [ne_eq,Decidable.not_not]at hw;subst hw;have key: ∀(i j:Nat),j<dw→(E.s7 da (oU at_ (.lit dw)) (oU m (.lit dw)) sa).den ρ (i*dw+j)=
    if(at_.den ρ 0).toNat≤i∧i<(at_.den ρ 0).toNat+(m.den ρ 0).toNat then sa.den ρ ((i - (at_.den ρ 0).toNat)*dw+j)else da.den ρ (i*dw+j):=by
   intro i j hj;simp only [E.den,fl,toNat_mul];generalize (at_.den ρ 0).toNat=A;generalize (m.den ρ 0).toNat=M;by_cases hc:A≤i∧i<A+M
   ·obtain⟨h1,h2⟩:=hc;obtain⟨d,rfl⟩: ∃d,i=A+d:=⟨i - A,by omega⟩;have hd:d+1≤M:=by omega
    have:=Nat.mul_le_mul_right dw hd;rw [Nat.add_mul]at this;have L1:A*dw≤(A+d)*dw+j∧(A+d)*dw+j<A*dw+M*dw:=by rw [Nat.add_mul];omega
    rw [if_pos L1,if_pos ⟨by omega,by omega⟩];congr 1;rw [show A+d - A=d by omega,Nat.add_mul];omega
   ·rw [if_neg hc,if_neg];intro hc';apply hc;constructor
    ·apply Nat.le_of_not_lt;intro bP;have:=Nat.mul_le_mul_right dw (Nat.succ_le_of_lt bP);rw [Nat.succ_mul]at this;omega
    ·apply Nat.lt_of_not_le;intro hle;have:=Nat.mul_le_mul_right dw hle;rw [Nat.add_mul]at this;omega
  split at h
  ·split at h
   ·rename_i k k' hk mQ cL;simp only at hk mQ;subst hk mQ cL;cases h;refine⟨rfl,rfl,fun i=>?_⟩;simp only [bS.cells,aJ];split
    ·rename_i hc;apply bA;intro j hj;rw [key i j hj,if_pos hc]
    ·rename_i hc;apply bA;intro j hj;rw [key i j hj,if_neg hc]
   ·cases h
  ·rename_i hk mQ;simp only at hk mQ;subst hk mQ;cases h;refine⟨rfl,rfl,fun i=>?_⟩;simp only [bS.cells,zu];split
   ·rename_i hc;apply List.map_congr_left;intro j hj;rw [key i j (adZ.1 hj),if_pos hc]
   ·rename_i hc;apply List.map_congr_left;intro j hj;rw [key i j (adZ.1 hj),if_neg hc]
  ·rename_i hk mQ;simp only at hk mQ;subst hk mQ;cases h;refine⟨rfl,rfl,fun i=>?_⟩;simp only [bS.cells,xx];split
   ·rename_i hc;apply List.map_congr_left;intro j hj;rw [key i j (adZ.1 hj),if_pos hc]
   ·rename_i hc;apply List.map_congr_left;intro j hj;rw [key i j (adZ.1 hj),if_neg hc]
  ·rename_i hk mQ;simp only at hk mQ;subst hk mQ;cases h;refine⟨rfl,rfl,fun i=>?_⟩;simp only [bS.cells,gX];split<;>first | rfl | (simp only [hw]) | (congr 1)
  ·rename_i hk mQ;simp only at hk mQ;subst hk mQ;split at h
   ·rename_i hc;obtain⟨rfl,wv⟩:=hc;simp only at wv;subst wv;cases h;refine⟨rfl,rfl,fun i=>?_⟩;by_cases hi:i=(at_.den ρ 0).toNat
    ·rw [if_pos (by rw [cE,hi];constructor<;>simp)];simp [bS.cells,gX,iN,iJ,xr,cE,hi]
    ·rw [if_neg (by rw [cE];intro hc;apply hi;have:=hc.2;simp at this;omega)];simp [bS.cells,gX,iN,iJ,hi]
   ·split at h
    ·rename_i JD;subst JD;cases h;refine⟨rfl,rfl,fun i=>?_⟩;rw [if_neg (by simp only [cE];intro hc;have:=hc.2;simp at this;omega)]
    ·cases h
  ·cases h
theorem fc{at_ m:E}(h0:0≤at_.den ρ 0)(hm:0≤m.den ρ 0): ∀{d s c:List bS},fK at_ m d s=some c→
  bT c=bT d∧bT s=bT d∧
   ∀i:Nat,rowAt ρ c i=if(at_.den ρ 0).toNat≤i∧i<(at_.den ρ 0).toNat+(m.den ρ 0).toNat then rowAt ρ s (i - (at_.den ρ 0).toNat)else rowAt ρ d i
 | [],[],c,h=>by
  simp [fK]at h;subst h;exact⟨rfl,rfl,fun _=>by simp [rowAt]⟩
 | [],_::_,c,h=>by simp [fK]at h
 | _::_,[],c,h=>by simp [fK]at h
 | d::r,s::r',c,h=>by
  unfold fK at h;split at h
  ·rename_i a b h1 h2;cases h;obtain⟨p1,p2,p3⟩:=D7 h0 hm h1;obtain⟨q1,q2,q3⟩:=fc h0 hm h2;simp only [bT,adT,List.sum_cons]at q1 q2 ⊢;refine⟨by omega,by omega,fun i=>?_⟩;simp only [rowAt,adT,List.flatMap_cons]at q3 ⊢;rw [p3,q3];split<;>rfl
  ·cases h
theorem sg{s:Nat}: ∀(k i:Nat) {cs:List SV} {aH aT:List bS},sh s k i cs aH=some aT→s=bT aH→
  bT aT=bT aH∧(∀i':Nat,i'<i→rowAt ρ aT i'=rowAt ρ aH i')∧fp (fun j=>rowAt ρ aT (i+j)) k=(SV.aB ρ cs).take (k*s)
 | 0,i,cs,aH,aT,h,hs=>by
  simp [sh]at h;subst h;simp [fp]
 | k+1,i,cs,aH,aT,h,hs=>by
  unfold sh at h;split at h
  ·rename_i a b h1 h2;split at h
   ·rename_i Zl h3;obtain⟨p1,p2,p3,p4⟩:=iQ ρ h3;obtain⟨q1,q2,q3⟩:=sg k (i+1) h (by omega);have e0:((E.lit (i:Int)).den ρ 0).toNat=i:=by simp [E.den]
    rw [e0]at p3 p4;obtain⟨c1,c2⟩:=dY ρ h1;have c3:=dJ ρ _ _ _ h2;rw [List.drop_zero]at c1;rw [Nat.zero_add]at c2;have hal:(SV.aB ρ a).length=s:=by rw [c1,List.length_take];omega
    refine⟨by omega,fun i' hi=>by rw [q2 i' (by omega),p3 i' (by omega)],?_⟩;rw [Nat.add_comm k 1,fq];have e1:fp (fun j=>rowAt ρ aT (i+j)) 1=SV.aB ρ a:=by
     have:rowAt ρ aT i=SV.aB ρ a:=by
      rw [q2 i (by omega),p4,List.drop_eq_nil_of_le,List.append_nil];rw [show(rowAt ρ aH i).length=bT aH from cY ρ aH _];omega
     simp [fp,this]
    have e2:fp (fun j=>rowAt ρ aT (i+(1+j))) k=fp (fun j=>rowAt ρ aT (i+1+j)) k:=cy fun j _=>by rw [Nat.add_assoc]
    rw [e1,e2,q3,c3,c1,Nat.add_mul,Nat.one_mul,List.take_add]
   ·cases h
  ·cases h
def World.uW(w:World)(v:Value)(n:Nat)(cs:List Value):Prop:=
 ∃a c,v= .slice a n c∧(a=none→n=0)∧∀ad,a=some ad→∀(j:Nat) u,cs[j]? =some u→w.cell? (ad.add j)=some u
structure QZ (ρ:Env) (w:World) (v:Value) (s:Nat) (n:E) (aH:List bS):Prop where
 nn:0≤n.den ρ 0
 wd:bT aH=s
 rd:World.uW w v (n.den ρ 0).toNat (aN ρ (n.den ρ 0).toNat aH)
theorem BQ{md:Bool}{t s n:Nat}{v:Value}{cs:List Value}{S:Nat→Prop}(h:(au md t s v n cs).p w S):World.uW w v n cs∧cs.length=n*s:=by
 obtain⟨h0,_⟩:=h;cases md with
 | true=>
  simp only [if_true]at h0;have QU:=h0;obtain⟨hl,hr⟩:=h0;refine⟨?_,hl⟩;rcases hr with⟨rfl,rfl⟩ | ⟨g,o,cap,cur,rfl,hg,CZ,_⟩
  ·exact⟨none,0,rfl,fun _=>rfl,by simp⟩
  ·refine⟨_,cap,rfl,by simp,?_⟩;rintro _ ⟨⟩;exact fun j u hu=>iM QU j u hu
 | false=>
  simp only [Bool.false_eq_true,if_false]at h0;obtain⟨hl,a,m,c,rfl,rfl,_,ke,hr⟩:=h0;exact⟨⟨a,c,rfl,ke,fun ad oC=>(hr ad oC).2⟩,hl⟩
theorem R6{s:Nat}{v x:Value}{n:E}{p:Part}{cs:List Value}(h:k9 ρ s v x n p)(hv:World.uW w v (n.den ρ 0).toNat cs):
  World.uW w x (p.len.den ρ 0).toNat ((cs.drop ((p.lo.den ρ 0).toNat*s)).take ((p.len.den ρ 0).toNat*s)):=by
 obtain⟨h1,h2,h3,a,c,k,rfl,hc,rfl,hk⟩:=h;obtain⟨a',c',he,ke,hr⟩:=hv;cases he;have JE:(p.lo.den ρ 0).toNat+(p.len.den ρ 0).toNat≤((p.mx.map fun m=>m.den ρ 0).map ag).getD c∨(p.len.den ρ 0).toNat=0:=by
  cases hm:(p.mx.map fun m=>m.den ρ 0)with
  | none=>simp only [Option.map_none,Option.getD_none];omega
  | some m=>have:=h3 m hm;simp only [Option.map_some,aee];omega
 refine⟨_,_,rfl,?_,?_⟩
 ·intro hn;cases a with
  | none=>have:=ke rfl;omega
  | some a=>cases hn
 ·intro ad oC;rw [adw]at oC;obtain⟨a0,rfl,rfl⟩:=oC;have kZ:=hr a0 rfl;intro j u hu;rw [List.getElem?_take]at hu;split at hu
  ·rename_i hj;have hN:(p.len.den ρ 0).toNat≠0:=by intro h;rw [h,Nat.zero_mul]at hj;omega
   rw [List.getElem?_drop]at hu;rw [hk (.inl (by omega)),c9];exact kZ _ _ hu
  ·cases hu
theorem nN(aH:List bS)(n:Nat): ∀u∈aN ρ n aH,u.oneCell'=true:=by
 intro u hu;unfold aN aK at hu;rw [List.mem_flatMap]at hu;obtain⟨i,_,hu⟩:=hu;rw [List.mem_flatMap]at hu;obtain⟨c,hc,hu⟩:=hu;rw [List.mem_map]at hc;obtain⟨⟨ck,cw,a⟩,_,rfl⟩:=hc;cases ck with
 | int k=>
  simp only [bS.cells,aJ,aj,List.mem_map]at hu;obtain⟨_,_,rfl⟩:=hu;rfl
 | bool=>
  simp only [bS.cells,zu,List.mem_map]at hu;obtain⟨_,_,rfl⟩:=hu;rfl
 | val v=>
  simp only [bS.cells,gX,List.mem_map]at hu;obtain⟨j,_,rfl⟩:=hu;exact V1.one _
 | ptr=>
  simp only [bS.cells,xx,List.mem_map]at hu;obtain⟨j,_,rfl⟩:=hu;exact DL _
 | cv=>
  simp only [bS.cells,gX,List.mem_map]at hu;obtain⟨j,_,rfl⟩:=hu;exact DM _
 | qV l=>
  simp only [bS.cells,gX,List.mem_map]at hu;obtain⟨j,_,rfl⟩:=hu;exact V1.one _
 | cC=>
  simp only [bS.cells,gX,List.mem_map]at hu;obtain⟨j,_,rfl⟩:=hu;rfl
 | str=>
  simp only [bS.cells,gX,List.mem_map]at hu;obtain⟨j,_,rfl⟩:=hu;rfl
theorem D8{x:SV}{r:Rt}(h:eZ hp x=some r)(cJ:Reads hp ρ w S [r.j])(bV: ∀b∈r.vcs,b.prop ρ)(h0:0≤r.p.len.den ρ 0)(hw:r.s=bT r.aH)
  {aH:List bS} (hc:gD r.p.lo r.aH=some aH):QZ ρ w (x.val ρ) r.s r.p.len aH:=by
 obtain⟨hj,dz⟩:=ek h cJ bV;have hS:=cJ r.j (by simp) _ hj;obtain⟨hv,hl⟩:=BQ hS;obtain⟨e1,e2⟩:=iT dz.lo hc;refine⟨h0,by omega,?_⟩;have:=R6 dz hv;have h2:=dz.hi;have h1:=dz.lo;rw [cg,hw,sf (cY ρ r.aH) _ _ _ (by omega)]at this;rw [cg,cy fun i _=>e2 i];exact this
theorem dE(k:IntKind)(n:Nat)(a:E):aN ρ n [⟨.int k,1,a⟩]=aj k n (a.den ρ):=by
 unfold aN aK aj
 induction n with
 | zero=>rfl
 | succ n ih=>
  rw [List.range_succ,List.flatMap_append,List.map_append,ih];simp [bS.cells,aJ,aj]
theorem fe{te:TI}{y:SV}{sc:Src}(h:Ap T hp te y=some sc)(cJ:Reads hp ρ w S sc.rd)(bV: ∀b∈sc.vcs,b.prop ρ)
  (h0:0≤sc.n.den ρ 0):QZ ρ w (y.val ρ) te.size sc.n sc.aH:=by
 unfold Ap at h;split at h
 ·split at h
  ·split at h
   ·rename_i hw;cases h;refine⟨by simp [E.den],hw.symm,none,0,by simp [SV.val,E.den],by simp [E.den],by simp⟩
   ·cases h
  ·cases h
 ·rename_i b i s m cap;split at h
  ·rename_i j b' wr cs hf;obtain⟨hj,dD⟩:=cH hf;simp only [Ck.qs,beq_iff_eq]at dD;subst dD;split at h
   ·cases h
   ·rename_i hs;simp only [ne_eq,Decidable.not_not]at hs;subst hs;split at h
    ·rename_i i0 m0 KQ JD;have di:=cl (ρ:=ρ) KQ;have dm:=cl (ρ:=ρ) JD;have kx:(SV.sl b i te.size m cap).val ρ= .slice (some ⟨ρ.bv.getD b 0,i0*te.size,none⟩) m0 (cap.den ρ 0).toNat:=by simp [SV.val,di,dm]
     have base: ∀(x:List SV),iP (i0*te.size) (m0*te.size) cs=some x→(aq (ρ.bv.getD b 0) wr (SV.aB ρ cs)).p w (S j)→
       (SV.aB ρ x).length=m0*te.size∧∀(k:Nat) u,(SV.aB ρ x)[k]? =some u→w.cell? ((⟨ρ.bv.getD b 0,i0*te.size,none⟩:Addr).add k)=some u:=by
      intro x hx hS;obtain⟨c1,c2⟩:=dY ρ hx;refine⟨by rw [c1,List.length_take,List.length_drop];omega,fun k u hu=>?_⟩;rw [c1,List.getElem?_take]at hu;split at hu
      ·exact hU hS _ k u hu
      ·cases hu
     split at h
     ·rename_i k N a hx;split at h
      ·rename_i hc;obtain⟨jT,rfl⟩:=hc;cases h;obtain⟨_,hb⟩:=base _ hx (cJ j (by simp) _ hj);refine⟨h0,by simp [bT,jT],_,_,kx,by simp,?_⟩;rintro _ ⟨⟩ k' u hu;rw [dE]at hu;refine hb k' u ?_;simpa [SV.aB,SV.cells,E.den] using hu
      ·cases h
     ·rename_i x _ hx;split at h
      ·split at h
       ·rename_i Um dP;split at h
        ·rename_i hw;rw [adw]at h;obtain⟨aT,kM,rfl⟩:=h;obtain⟨hl,hb⟩:=base _ hx (cJ j (by simp) _ hj);obtain⟨q1,_,q3⟩:=sg (ρ:=ρ) m0 0 kM hw;refine⟨h0,q1.trans hw.symm,_,_,kx,by simp,?_⟩;rintro _ ⟨⟩ k' u hu;refine hb k' u ?_;simp only [Nat.zero_add]at q3;rw [List.take_of_length_le (by omega)]at q3;simp only [E.den,Int.toNat_natCast]at hu;rw [cg]at hu;rw [←q3];exact hu
        ·cases h
       ·cases h
      ·cases h
     ·cases h
    ·split at h
     ·rename_i k N a;split at h
      ·rename_i jT;cases h;simp only at bV h0;obtain⟨v1,v3⟩:=bB bV;obtain⟨v1,v2⟩:=bB v1;have v1:=a_ v1;have v3:=a_ v3;rw [bH]at v3;simp only [E.den]at v1 v3;have hS:=cJ j (by simp) _ hj;refine⟨h0,by simp [bT,jT],_,_,rfl,by simp,?_⟩;rintro _ ⟨⟩ k' u hu;rw [dE,bd]at hu;split at hu
       ·rename_i hk;have hk:k'<(m.den ρ 0).toNat:=hk;simp only [adv]at hu;refine hU hS _ k' u ?_;rw [jT,Nat.mul_one,List.getElem?_drop];simp only [SV.aB,SV.cells,List.append_nil];rw [bd,if_pos (by omega),←hu,dC]
       ·cases hu
      ·cases h
     ·cases h
  ·cases h
 ·split at h
  ·rename_i r hr;split at h
   ·rename_i hc;obtain⟨hs,hw⟩:=hc;rw [adw]at h;obtain⟨aH,dP,rfl⟩:=h;simp only at bV h0;obtain⟨v1,_⟩:=bB bV;rw [←hs];exact D8 hr cJ v1 h0 hw dP
   ·cases h
  ·cases h
end
end Go.RX
