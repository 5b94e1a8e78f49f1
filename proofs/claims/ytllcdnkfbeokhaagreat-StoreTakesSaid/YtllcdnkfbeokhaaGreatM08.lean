/- Executor. -/
import Derived.Test.YtllcdnkfbeokhaaGreatM07
open Go.Instr renaming sliceBounds → aqY
open Go.Result renaming andThen_ok → aqu
open Go.Sem renaming run_bind → aqA, run_pure → aqH
open Int renaming toNat → ag, toNat_natCast → aqD
open List renaming length_append → aql, map_cons → aqP, mem_map → aqV, mem_range → aqE
open Option renaming map_eq_some_iff → aqq
open Option.some renaming injEq → aqp
namespace Go.RX
def gM:Option Value→Option Int→Prop
 | none,none=>True
 | some v,some i=> ∃k,v= .int k i
 | _,_=>False
section
variable {P:Program} {ρ:Env} {w:World} {look:Nat→Option SV} {bD:Operand→Value} {hp:List Ck} {S:Nat→Nat→Prop} {nb nv:Nat} {T:List TI}
theorem jI(sM:tL ρ look bD){o:Option Operand}{l:Option E}(h:yN look o=some l):gM (o.map bD) (l.map fun e:E=>e.den ρ 0):=by
 unfold yN at h;split at h
 ·cases h;exact True.intro
 ·split at h
  ·rename_i k e he;cases h;exact⟨k,ep sM he⟩
  ·cases h
theorem sN(isS:Bool)(N C:Nat){lo hi mx:Option Value}{l h m:Option Int}(hl:gM lo l)(hh:gM hi h)(hm:gM mx m)(hx:m.isSome=true→h.isSome=true)
  (h0:0≤l.getD 0) (h1:l.getD 0≤h.getD (N:Int)) (h2: ∀x,m=some x→h.getD (N:Int)≤x∧x≤C) (h3:m=none→h.getD (N:Int)≤C):
  (aqY isS N C lo hi mx).run P w= .ok ((l.getD 0).toNat,(h.getD (N:Int)).toNat,(m.map ag).getD C) w:=by
 have hb:=fun(k:IntKind) (i:Int) (y:Nat) (code:BoundsCode) (a:0≤i) (b:i≤y)=>run_sliceBound (P:=P) (w:=w) k i y code a b
 cases m with
 | none=>
  have h3:=h3 rfl;cases mx with
  | some v=>exact hm.elim
  | none=>
   cases h with
   | none=>
    cases hi with
    | some v=>exact hh.elim
    | none=>
     cases l with
     | none=>
      cases lo with
      | some v=>exact hl.elim
      | none=>simp [aqY]
     | some l=>
      cases lo with
      | none=>exact hl.elim
      | some v=>
       obtain⟨k,rfl⟩:=hl;simp only [Option.getD_some,Option.getD_none]at h0 h1;simp [aqY,hb k l N _ h0 h1]
   | some h=>
    cases hi with
    | none=>exact hh.elim
    | some v=>
     obtain⟨kh,rfl⟩:=hh;simp only [Option.getD_some]at h1 h3;have hhn:(h.toNat:Int)=h:=Int.toNat_of_nonneg (by omega);cases l with
     | none=>
      cases lo with
      | some v=>exact hl.elim
      | none=>
       simp only [Option.getD_none]at h1;simp [aqY,hb kh h C _ h1 h3]
     | some l=>
      cases lo with
      | none=>exact hl.elim
      | some v=>
       obtain⟨k,rfl⟩:=hl;simp only [Option.getD_some]at h0 h1;simp [aqY,hb kh h C _ (by omega) h3,hb k l h.toNat _ h0 (by omega)]
 | some m=>
  obtain⟨g2,g3⟩:=h2 m rfl;cases mx with
  | none=>exact hm.elim
  | some v=>
   obtain⟨km,rfl⟩:=hm;cases h with
   | none=>simp at hx
   | some h=>
    cases hi with
    | none=>exact hh.elim
    | some v=>
     obtain⟨kh,rfl⟩:=hh;simp only [Option.getD_some]at h1 g2;cases l with
     | none=>
      cases lo with
      | some v=>exact hl.elim
      | none=>
       simp only [Option.getD_none]at h1;simp [aqY,hb km m C _ (by omega) g3,hb kh h m.toNat _ (by omega) (by omega)]
     | some l=>
      cases lo with
      | none=>exact hl.elim
      | some v=>
       obtain⟨k,rfl⟩:=hl;simp only [Option.getD_some]at h0 h1;simp [aqY,hb km m C _ (by omega) g3,hb kh h m.toNat _ (by omega) (by omega),hb k l h.toNat _ h0 (by omega)]
theorem pc(hT:bx P T=true){t:TypeId}{tt te:TI}(ht:aP T t=some tt){e:Nat}(hk:tt.k= .slice e)(iJ:aP T e=some te)
  (a:Option Addr) (N C:Nat) {lo hi mx:Option Value} {l h m:Option Int} (hl:gM lo l) (hh:gM hi h) (hm:gM mx m) (hx:m.isSome=true→h.isSome=true)
  (h0:0≤l.getD 0) (h1:l.getD 0≤h.getD (N:Int)) (h2: ∀x,m=some x→h.getD (N:Int)≤x∧x≤C) (h3:m=none→h.getD (N:Int)≤C):
  (Instr.sliceAt t (.slice a N C) lo hi mx).run P w= .ok (aE te.size (.slice a N C) (l.getD 0).toNat (h.getD (N:Int)).toNat (m.map ag)) w:=by
 obtain⟨rfl,tn⟩:=aA hT ht;obtain⟨rfl,cO⟩:=aA hT iJ;have df:=tn.kind;rw [hk]at df;have hu:=bH df;have:=sN (P:=P) (w:=w) true N C hl hh hm hx h0 h1 h2 h3;simp [Instr.sliceAt,Instr.slice,run_underlying hu,this,cO.sizeOf w,aE]
theorem r7(hT:bx P T=true){t:TypeId}{tt te:TI}(ht:aP T t=some tt){n e:Nat}(hk:tt.k= .arr n e)(iJ:aP T e=some te)
  (a:Addr) {lo hi mx:Option Value} {l h m:Option Int} (hl:gM lo l) (hh:gM hi h) (hm:gM mx m) (hx:m.isSome=true→h.isSome=true)
  (h0:0≤l.getD 0) (h1:l.getD 0≤h.getD (n:Int)) (h2: ∀x,m=some x→h.getD (n:Int)≤x∧x≤n) (h3:m=none→h.getD (n:Int)≤n):
  (Instr.sliceAt t (.pointer (some a)) lo hi mx).run P w= .ok (aE te.size (.slice (some a) n n) (l.getD 0).toNat (h.getD (n:Int)).toNat (m.map ag)) w:=by
 obtain⟨rfl,tn⟩:=aA hT ht;obtain⟨rfl,cO⟩:=aA hT iJ;have df:=tn.kind;rw [hk]at df;have hu:=oJ df;have:=sN (P:=P) (w:=w) false n n hl hh hm hx h0 h1 h2 h3;simp only [Instr.sliceAt,aqA,run_underlying hu,aqu,Instr.sureAddr,aqH,this,cO.sizeOf w,aE];congr 2;split<;>simp
theorem Ij(b i0 n0 m0 s:Nat)(l h:Int)(m:Int)(h0:0≤l)(h1:l≤h)(h2:h≤m)(h3:l=0∨l<m):
  aE s (.slice (some ⟨b,i0*s,none⟩) n0 m0) l.toNat h.toNat (some m.toNat)= .slice (some ⟨b,(i0+l.toNat)*s,none⟩) (h - l).toNat (m - l).toNat:=by
 simp only [aE,Option.getD_some];congr 1
 ·rcases h3 with rfl | h3
  ·simp [js]
  ·rw [if_neg (by omega),Option.map_some,fx,Nat.add_mul]
 ·omega
 ·omega
theorem qz(o:Option E)(d:E):(o.getD d).den ρ 0=(o.map fun e:E=>e.den ρ 0).getD (d.den ρ 0):=by cases o<;>rfl
theorem B3{x v:SV}{c:Cut}{s:Nat}(h:yO x c s=some v):
  v.val ρ=aE s (x.val ρ) (c.lo.den ρ 0).toNat (c.hi.den ρ 0).toNat (c.mx.map fun m=>(m.den ρ 0).toNat):=by
 unfold yO at h;split at h
 ·cases h;rfl
 ·split at h
  ·rename_i hs;subst hs;cases h;simp only [SV.val,ow];rfl
  ·cases h
 ·cases h
theorem MH{l mm:E}(h: ∀b∈(if l= .lit 0 then []else [Gf l mm].filter fun b=>b != .lit true),b.prop ρ):l.den ρ 0=0∨l.den ρ 0<mm.den ρ 0:=by
 split at h
 ·rename_i hl;subst hl;exact .inl rfl
 ·exact .inr (xx h)
theorem yP(hT:bx P T=true){t:TypeId}{tt:TI}(fQ:aP T t=some tt){x:SV}{l h m:Option E}{res:gY}(hs:yQ T hp tt.k x l h m=some res)
  {lo hi mx:Option Value} (hl:gM lo (l.map fun e:E=>e.den ρ 0)) (hh:gM hi (h.map fun e:E=>e.den ρ 0)) (hm:gM mx (m.map fun e:E=>e.den ρ 0))
  (cN:Reads hp ρ w S res.rd) (bY: ∀b∈res.vcs,b.prop ρ):
  (Instr.sliceAt t (x.val ρ) lo hi mx).run P w= .ok (res.val.val ρ) w∧res.gZ= .none:=by
 unfold yQ at hs;split at hs
 ·cases hs
 ·rename_i Y7;have hx:(m.map fun e:E=>e.den ρ 0).isSome=true→(h.map fun e:E=>e.den ρ 0).isSome=true:=by
   cases m<;>cases h<;>simp_all
  split at hs
  ·rename_i e b i s n cap hk;split at hs
   ·rename_i te iJ;split at hs
    ·rename_i fy;subst fy;simp only [aqp]at hs;subst hs;refine⟨?_,rfl⟩;simp only at bY;obtain⟨bY,q6⟩:=bw bY;obtain⟨bY,q5⟩:=bw bY;obtain⟨bY,q4⟩:=bw bY;obtain⟨bY,q3⟩:=bw bY;obtain⟨bY,q2⟩:=bw bY;obtain⟨q0,q1⟩:=bw bY;have q0:=aZ q0;have q1:=aZ q1;have q2:=aZ q2;have q3:=aZ q3;have q4:=aZ q4;have q5:=aZ q5;have q6:=MH q6;simp only [qz,E.den]at q0 q1 q2 q3 q4 q5 q6;have e1:(SV.sl b i te.size n cap).val ρ= .slice (some ⟨ρ.bv.getD b 0,(i.den ρ 0).toNat*te.size,none⟩) (n.den ρ 0).toNat (cap.den ρ 0).toNat:=rfl;have hNn:((n.den ρ 0).toNat:Int)=n.den ρ 0:=Int.toNat_of_nonneg q5;have ik:=pc (P:=P) (w:=w) hT fQ hk iJ (some ⟨ρ.bv.getD b 0,(i.den ρ 0).toNat*te.size,none⟩) (n.den ρ 0).toNat (cap.den ρ 0).toNat hl hh hm hx q1 (by rw [hNn];exact q2)
      (fun x hx=>by rw [hx]at q3 q4;rw [hNn];simp only [Option.getD_some]at q3 q4;exact⟨q3,by omega⟩) (fun hx=>by rw [hx]at q3;rw [hNn];simp only [Option.getD_none]at q3;omega)
     rw [e1,ik,hNn];congr 1;have UT:aE te.size (.slice (some ⟨ρ.bv.getD b 0,(i.den ρ 0).toNat*te.size,none⟩) (n.den ρ 0).toNat (cap.den ρ 0).toNat) ((l.map fun e:E=>e.den ρ 0).getD 0).toNat
       ((h.map fun e:E=>e.den ρ 0).getD (n.den ρ 0)).toNat ((m.map fun e:E=>e.den ρ 0).map ag)=
       aE te.size (.slice (some ⟨ρ.bv.getD b 0,(i.den ρ 0).toNat*te.size,none⟩) (n.den ρ 0).toNat (cap.den ρ 0).toNat) ((l.map fun e:E=>e.den ρ 0).getD 0).toNat
       ((h.map fun e:E=>e.den ρ 0).getD (n.den ρ 0)).toNat (some ((m.map fun e:E=>e.den ρ 0).getD (cap.den ρ 0)).toNat):=by
      cases m<;>rfl
     rw [UT,Ij _ _ _ _ _ _ _ _ q1 q2 q3 q6];simp only [SV.val,bB,eZ,qz,E.den];congr 4;omega
    ·cases hs
   ·cases hs
  ·rename_i e hk;split at hs
   ·rename_i te iJ;split at hs
    ·rename_i hz;cases hs;obtain⟨z1,z2,z3⟩:=hz;refine⟨?_,rfl⟩;have g1:(l.map fun e:E=>e.den ρ 0).getD 0=0:=by cases l with | none=>rfl | some l=>simp only [Option.getD_some]at z1;subst z1;rfl
     have g2:(h.map fun e:E=>e.den ρ 0).getD 0=0:=by cases h with | none=>rfl | some l=>simp only [Option.getD_some]at z2;subst z2;rfl
     have g3:(m.map fun e:E=>e.den ρ 0).getD 0=0:=by cases m with | none=>rfl | some l=>simp only [Option.getD_some]at z3;subst z3;rfl
     have ik:=pc (P:=P) (w:=w) hT fQ hk iJ none 0 0 hl hh hm hx (by rw [g1];exact Int.le_refl _) (by rw [g1];simp only [Int.natCast_zero,g2];exact Int.le_refl _)
      (fun x hx=>by rw [hx]at g3;simp only [Option.getD_some]at g3;subst g3;simp only [Int.natCast_zero,g2];exact⟨Int.le_refl _,Int.le_refl _⟩) (fun _=>by simp only [Int.natCast_zero,g2];exact Int.le_refl _)
     rw [show(SV.bu).val ρ= .slice none 0 0 from rfl,ik];congr 1;simp only [g1,Int.natCast_zero,g2];cases m with
     | none=>simp [aE]
     | some m=>simp only [Option.map_some,Option.getD_some]at g3;simp [aE,g3]
    ·cases hs
   ·cases hs
  ·rename_i e hk _ _;split at hs
   ·rename_i te r iJ hr;split at hs
    ·rename_i fy;dsimp only at hs;split at hs
     ·rename_i v hv;cases hs;refine⟨?_,rfl⟩;simp only at bY;obtain⟨wJ,FR⟩:=bw bY;obtain⟨hj,eJ⟩:=fE hr cN wJ;obtain⟨h1,h2,h3,h4,a,N,C,Gs,hN,hC,hCm⟩:=eJ.step _ FR;rw [B3 hv,Gs];simp only [qz,E.den]at h2 h3 h4 hC ⊢;have X7:(h.map fun e:E=>e.den ρ 0).getD (r.p.len.den ρ 0)=(h.map fun e:E=>e.den ρ 0).getD (N:Int)∨(h=none∧r.p.len.den ρ 0≤N):=by
       cases h with
       | none=>right;exact⟨rfl,by omega⟩
       | some h=>left;rfl
      have X7:(h.map fun e:E=>e.den ρ 0).getD (N:Int)=(h.map fun e:E=>e.den ρ 0).getD (r.p.len.den ρ 0):=by
       rcases X7 with h | ⟨rfl,hle⟩
       ·exact h.symm
       ·simp only [Option.map_none,Option.getD_none]at h3 ⊢;omega
      have ik:=pc (P:=P) (w:=w) hT fQ hk iJ a N C hl hh hm hx h2 (by rw [X7];exact h3)
       (fun x hx=>by
        rw [X7];rw [aqq]at hx;obtain⟨me,Y8,rfl⟩:=hx;have:=h4 me Y8;have:=hCm me Y8;exact⟨h4 me Y8,by omega⟩)
       (fun hx=>by
        rw [X7];have:=hC (by simpa using hx);omega)
      rw [ik,X7,fy];congr 2;cases m<;>rfl
     ·cases hs
    ·cases hs
   ·cases hs
  ·rename_i n e v i s c hk;split at hs
   ·rename_i te j md v' t' s' m' ay iJ hf;cases hs;obtain⟨hj,dK⟩:=cK hf;simp only [Ck.lP,beq_iff_eq]at dK;subst dK;have hS:=cN j (by simp) _ hj;obtain⟨h0,h1⟩:=du ρ bY;obtain⟨a,cp,he⟩:=mH hS (by omega);have e2:(SV.pv v i s c).val ρ= .pointer (some (a.add ((i.den ρ 0).toNat*s+c))):=by rw [SV.val,he];rfl
    refine⟨?_,rfl⟩;have ik:=r7 (P:=P) (w:=w) hT fQ hk iJ (a.add ((i.den ρ 0).toNat*s+c)) hl hh hm hx (by simp) (by simp) (by simp) (by simp);rw [e2,ik];simp only [SV.val,he,yr];simp [aE,js]
   ·cases hs
  ·rename_i n e b c hk;split at hs
   ·rename_i te iJ;split at hs
    ·rename_i fy;obtain⟨fy,adw⟩:=fy;simp only [aqp]at hs;subst hs;refine⟨?_,rfl⟩;simp only at bY;obtain⟨bY,q6⟩:=bw bY;obtain⟨bY,q4⟩:=bw bY;obtain⟨bY,q3⟩:=bw bY;obtain⟨q1,q2⟩:=bw bY;have q1:=aZ q1;have q2:=aZ q2;have q3:=aZ q3;have q4:=aZ q4;have q6:=MH q6;simp only [qz,E.den]at q1 q2 q3 q4 q6;have hc:c=c/te.size*te.size:=by
      have:=Nat.div_add_mod c te.size;rw [adw,Nat.add_zero,Nat.mul_comm]at this;exact this.symm
     have e1:(SV.ptr b c).val ρ= .pointer (some ⟨ρ.bv.getD b 0,c/te.size*te.size,none⟩):=by
      rw [←hc];rfl
     have ik:=r7 (P:=P) (w:=w) hT fQ hk iJ ⟨ρ.bv.getD b 0,c/te.size*te.size,none⟩ hl hh hm hx q1 q2
      (fun x hx=>by rw [hx]at q3 q4;simp only [Option.getD_some]at q3 q4;exact⟨q3,q4⟩) (fun hx=>by rw [hx]at q3;simp only [Option.getD_none]at q3;exact q3)
     rw [e1,ik];congr 1;have UT:aE te.size (.slice (some ⟨ρ.bv.getD b 0,c/te.size*te.size,none⟩) n n) ((l.map fun e:E=>e.den ρ 0).getD 0).toNat
       ((h.map fun e:E=>e.den ρ 0).getD (n:Int)).toNat ((m.map fun e:E=>e.den ρ 0).map ag)=
       aE te.size (.slice (some ⟨ρ.bv.getD b 0,c/te.size*te.size,none⟩) n n) ((l.map fun e:E=>e.den ρ 0).getD 0).toNat
       ((h.map fun e:E=>e.den ρ 0).getD (n:Int)).toNat (some ((m.map fun e:E=>e.den ρ 0).getD (n:Int)).toNat):=by
      cases m<;>simp [aE]
     rw [UT,Ij _ _ _ _ _ _ _ _ q1 q2 q3 q6];simp only [SV.val,bB,eZ,qz,E.den];congr 4;generalize c/te.size=q;omega
    ·cases hs
   ·cases hs
  ·cases hs
end
def g8(f:Nat→List Value)(n:Nat):List Value:=(List.range n).flatMap f
theorem g9(f:Nat→List Value)(a b:Nat):g8 f (a+b)=g8 f a++g8 (fun i=>f (a+i)) b:=by
 unfold g8;rw [List.range_add,List.flatMap_append,List.flatMap_map]
theorem nu{f:Nat→List Value}{s:Nat}(hf: ∀i,(f i).length=s)(n:Nat):(g8 f n).length=n*s:=by
 induction n with
 | zero=>simp [g8]
 | succ n ih=>
  rw [g9,aql,ih];simp [g8,hf,Nat.add_mul]
theorem cT{f g:Nat→List Value}{n:Nat}(h: ∀i,i<n→f i=g i):g8 f n=g8 g n:=by
 unfold g8;rw [List.flatMap_def,List.flatMap_def];congr 1;exact List.map_congr_left fun i hi=>h i (aqE.1 hi)
theorem tR{f:Nat→List Value}{s:Nat}(hf: ∀i,(f i).length=s)(n L N:Nat)(h:L+N≤n):
  ((g8 f n).drop (L*s)).take (N*s)=g8 (fun i=>f (L+i)) N:=by
 obtain⟨d,rfl⟩: ∃d,n=L+N+d:=⟨n - (L+N),by omega⟩;rw [g9,g9];have h1:=nu hf L;have h2:(g8 (fun i=>f (L+i)) N).length=N*s:=nu (fun i=>hf (L+i)) N;generalize g8 f L=A at h1 ⊢;generalize g8 (fun i=>f (L+i)) N=B at h2 ⊢;rw [List.append_assoc,List.drop_append,List.drop_of_length_le (l:=A) (by omega),h1,Nat.sub_self,List.drop_zero,List.nil_append,List.take_append_of_le_length (by omega),List.take_of_length_le (by omega)]
theorem yR{f g h:Nat→List Value}{s:Nat}(hf: ∀i,(f i).length=s)(n a m:Nat)(hle:a+m≤n)(hh: ∀i,h i=if a≤i∧i<a+m then g (i - a)else f i):
  g8 h n=(g8 f n).take (a*s)++g8 g m++(g8 f n).drop (a*s+m*s):=by
 obtain⟨d,rfl⟩: ∃d,n=a+m+d:=⟨n - (a+m),by omega⟩;have e1:g8 h a=g8 f a:=cT fun i hi=>by rw [hh,if_neg (by omega)]
 have e2:g8 (fun i=>h (a+i)) m=g8 g m:=cT fun i hi=>by rw [hh,if_pos (by omega)];congr 1;omega
 have e3:g8 (fun i=>h (a+m+i)) d=g8 (fun i=>f (a+m+i)) d:=cT fun i hi=>by rw [hh,if_neg (by omega)]
 rw [g9 h,g9 h,e1,e2,e3,g9 f,g9 f];have h1:=nu hf a;have h2:(g8 (fun i=>f (a+i)) m).length=m*s:=nu (fun i=>hf (a+i)) m;generalize g8 f a=A at h1 ⊢;generalize g8 (fun i=>f (a+i)) m=B at h2 ⊢;rw [List.append_assoc A B,List.take_append_of_le_length (by omega),List.take_of_length_le (l:=A) (by omega),List.drop_append,List.drop_of_length_le (l:=A) (by omega),h1,
  show a*s+m*s - a*s=m*s by omega,List.drop_append,List.drop_of_length_le (l:=B) (by omega),h2,Nat.sub_self,List.drop_zero,List.nil_append,List.nil_append]
section
variable {P:Program} {ρ:Env} {w:World} {look:Nat→Option SV} {bD:Operand→Value} {hp:List Ck} {S:Nat→Nat→Prop} {nb nv:Nat} {T:List TI}
theorem cH(n:Nat)(ay:List bL):aF ρ n ay=g8 (rowAt ρ ay) n:=rfl
theorem j9{lo:E}(h0:0≤lo.den ρ 0): ∀{ay aN:List bL},iY lo ay=some aN→
  bW aN=bW ay∧∀i:Nat,rowAt ρ aN i=rowAt ρ ay ((lo.den ρ 0).toNat+i)
 | [],aN,h=>by
  simp [iY]at h;subst h;exact⟨rfl,fun _=>rfl⟩
 | c::r,aN,h=>by
  unfold iY at h;split at h
  ·rename_i c' r' h1 h2;cases h;obtain⟨i1,i2⟩:=j9 h0 h2;have hc:c'.w=c.w∧∀i,c'.cells ρ i=c.cells ρ ((lo.den ρ 0).toNat+i):=by
    obtain⟨ck,cw,a⟩:=c;unfold DT at h1;cases ck with
    | int k=>
     simp only [aqp]at h1;subst h1;refine⟨rfl,fun i=>?_⟩;simp only [bL.cells,aC];apply cn;intro j _;rw [eB,gW];simp only [E.den];rw [toNat_mul];congr 1;rw [Nat.add_mul];omega
    | bool=>
     simp only [aqp]at h1;subst h1;refine⟨rfl,fun i=>?_⟩;simp only [bL.cells,ij];apply List.map_congr_left;intro j _;rw [eB,gW];simp only [E.den];rw [toNat_mul];rw [show(lo.den ρ 0).toNat*cw+(i*cw+j)=((lo.den ρ 0).toNat+i)*cw+j by rw [Nat.add_mul];omega]
    | ptr=>
     simp only [aqp]at h1;subst h1;refine⟨rfl,fun i=>?_⟩;simp only [bL.cells,tH];apply List.map_congr_left;intro j _;rw [eB,gW];simp only [E.den];rw [toNat_mul];rw [show(lo.den ρ 0).toNat*cw+(i*cw+j)=((lo.den ρ 0).toNat+i)*cw+j by rw [Nat.add_mul];omega]
    | cv=>
     simp only [aqp]at h1;subst h1;refine⟨rfl,fun i=>?_⟩;simp only [bL.cells,fN];apply List.map_congr_left;intro j _;rw [eB,gW];simp only [E.den];rw [toNat_mul];rw [show(lo.den ρ 0).toNat*cw+(i*cw+j)=((lo.den ρ 0).toNat+i)*cw+j by rw [Nat.add_mul];omega]
    | bu=>
     simp only [aqp]at h1;subst h1;exact⟨rfl,fun i=>rfl⟩
    | val v=>
     simp only at h1;split at h1
     ·rename_i JS;cases h1;subst JS;refine⟨rfl,fun i=>?_⟩;simp [bL.cells,E.den]
     ·cases h1
    | FP l=>
     simp only at h1;split at h1
     ·rename_i JS;cases h1;subst JS;refine⟨rfl,fun i=>?_⟩;simp [bL.cells,E.den]
     ·cases h1
    | pt q v=>
     simp only at h1;split at h1
     ·rename_i JS;cases h1;subst JS;refine⟨rfl,fun i=>?_⟩;simp [bL.cells,E.den]
     ·cases h1
    | str=>
     simp only at h1;split at h1
     ·rename_i JS;cases h1;subst JS;refine⟨rfl,fun i=>?_⟩;simp [bL.cells,E.den]
     ·cases h1
   refine⟨?_,fun i=>?_⟩
   ·simp only [bW,aqP,List.sum_cons,hc.1]at i1 ⊢;omega
   ·simp only [rowAt,aqP,List.flatMap_cons]at i2 ⊢;rw [hc.2,i2]
  ·cases h
theorem DU{at_ m:E}(h0:0≤at_.den ρ 0)(hm:0≤m.den ρ 0){d s c:bL}(h:Gt at_ m d s=some c):
  c.w=d.w∧s.w=d.w∧∀i:Nat,c.cells ρ i=if(at_.den ρ 0).toNat≤i∧i<(at_.den ρ 0).toNat+(m.den ρ 0).toNat then s.cells ρ (i - (at_.den ρ 0).toNat)else d.cells ρ i:=by
 obtain⟨dk,dw,da⟩:=d;obtain⟨sk,sw,sa⟩:=s;unfold Gt at h;split at h
 ·cases h
 ·rename_i hw;simp only [ne_eq,Decidable.not_not]at hw;subst hw;have key: ∀(i j:Nat),j<dw→(E.jl da (ql at_ (.lit dw)) (ql m (.lit dw)) sa).den ρ (i*dw+j)=
    if(at_.den ρ 0).toNat≤i∧i<(at_.den ρ 0).toNat+(m.den ρ 0).toNat then sa.den ρ ((i - (at_.den ρ 0).toNat)*dw+j)else da.den ρ (i*dw+j):=by
   intro i j hj;simp only [E.den,gW,toNat_mul];generalize (at_.den ρ 0).toNat=A;generalize (m.den ρ 0).toNat=M;by_cases hc:A≤i∧i<A+M
   ·obtain⟨h1,h2⟩:=hc;obtain⟨d,rfl⟩: ∃d,i=A+d:=⟨i - A,by omega⟩;have hd:d+1≤M:=by omega
    have:=Nat.mul_le_mul_right dw hd;rw [Nat.add_mul]at this;have L1:A*dw≤(A+d)*dw+j∧(A+d)*dw+j<A*dw+M*dw:=by rw [Nat.add_mul];omega
    rw [if_pos L1,if_pos ⟨by omega,by omega⟩];congr 1;rw [show A+d - A=d by omega,Nat.add_mul];omega
   ·rw [if_neg hc,if_neg];intro UU;apply hc;constructor
    ·apply Nat.le_of_not_lt;intro cq;have:=Nat.mul_le_mul_right dw (Nat.succ_le_of_lt cq);rw [Nat.succ_mul]at this;omega
    ·apply Nat.lt_of_not_le;intro hle;have:=Nat.mul_le_mul_right dw hle;rw [Nat.add_mul]at this;omega
  split at h
  ·split at h
   ·rename_i k k' hk kv df;simp only at hk kv;subst hk kv df;cases h;refine⟨rfl,rfl,fun i=>?_⟩;simp only [bL.cells,aC];split
    ·rename_i hc;apply cn;intro j hj;rw [key i j hj,if_pos hc]
    ·rename_i hc;apply cn;intro j hj;rw [key i j hj,if_neg hc]
   ·cases h
  ·rename_i hk kv;simp only at hk kv;subst hk kv;cases h;refine⟨rfl,rfl,fun i=>?_⟩;simp only [bL.cells,ij];split
   ·rename_i hc;apply List.map_congr_left;intro j hj;rw [key i j (aqE.1 hj),if_pos hc]
   ·rename_i hc;apply List.map_congr_left;intro j hj;rw [key i j (aqE.1 hj),if_neg hc]
  ·rename_i hk kv;simp only at hk kv;subst hk kv;cases h;refine⟨rfl,rfl,fun i=>?_⟩;simp only [bL.cells,tH];split
   ·rename_i hc;apply List.map_congr_left;intro j hj;rw [key i j (aqE.1 hj),if_pos hc]
   ·rename_i hc;apply List.map_congr_left;intro j hj;rw [key i j (aqE.1 hj),if_neg hc]
  ·rename_i hk kv;simp only at hk kv;subst hk kv;cases h;refine⟨rfl,rfl,fun i=>?_⟩;simp only [bL.cells,fN];split<;>first | rfl | (simp only [hw]) | (congr 1)
  ·rename_i hk kv;simp only at hk kv;subst hk kv;split at h
   ·rename_i hc;obtain⟨rfl,xR⟩:=hc;simp only at xR;subst xR;cases h;refine⟨rfl,rfl,fun i=>?_⟩;by_cases hi:i=(at_.den ρ 0).toNat
    ·rw [if_pos (by rw [cR,hi];constructor<;>simp)];simp [bL.cells,fN,j5,jX,yz,cR,hi]
    ·rw [if_neg (by rw [cR];intro hc;apply hi;have:=hc.2;simp at this;omega)];simp [bL.cells,fN,j5,jX,hi]
   ·split at h
    ·rename_i Gr;subst Gr;cases h;refine⟨rfl,rfl,fun i=>?_⟩;rw [if_neg (by simp only [cR];intro hc;have:=hc.2;simp at this;omega)]
    ·cases h
  ·cases h
theorem gN{at_ m:E}(h0:0≤at_.den ρ 0)(hm:0≤m.den ρ 0): ∀{d s c:List bL},iD at_ m d s=some c→
  bW c=bW d∧bW s=bW d∧
   ∀i:Nat,rowAt ρ c i=if(at_.den ρ 0).toNat≤i∧i<(at_.den ρ 0).toNat+(m.den ρ 0).toNat then rowAt ρ s (i - (at_.den ρ 0).toNat)else rowAt ρ d i
 | [],[],c,h=>by
  simp [iD]at h;subst h;exact⟨rfl,rfl,fun _=>by simp [rowAt]⟩
 | [],_::_,c,h=>by simp [iD]at h
 | _::_,[],c,h=>by simp [iD]at h
 | d::r,s::r',c,h=>by
  unfold iD at h;split at h
  ·rename_i a b h1 h2;cases h;obtain⟨p1,p2,p3⟩:=DU h0 hm h1;obtain⟨q1,q2,q3⟩:=gN h0 hm h2;simp only [bW,aqP,List.sum_cons]at q1 q2 ⊢;refine⟨by omega,by omega,fun i=>?_⟩;simp only [rowAt,aqP,List.flatMap_cons]at q3 ⊢;rw [p3,q3];split<;>rfl
  ·cases h
theorem tS{s:Nat}: ∀(k i:Nat) {cs:List SV} {ay aN:List bL},tT s k i cs ay=some aN→s=bW ay→
  bW aN=bW ay∧(∀i':Nat,i'<i→rowAt ρ aN i'=rowAt ρ ay i')∧g8 (fun j=>rowAt ρ aN (i+j)) k=(SV.ao ρ cs).take (k*s)
 | 0,i,cs,ay,aN,h,hs=>by
  simp [tT]at h;subst h;simp [g8]
 | k+1,i,cs,ay,aN,h,hs=>by
  unfold tT at h;split at h
  ·rename_i a b h1 h2;split at h
   ·rename_i aiz h3;obtain⟨p1,p2,p3,p4⟩:=iW ρ h3;obtain⟨q1,q2,q3⟩:=tS k (i+1) h (by omega);have e0:((E.lit (i:Int)).den ρ 0).toNat=i:=by simp [E.den]
    rw [e0]at p3 p4;obtain⟨c1,c2⟩:=eK ρ h1;have c3:=eR ρ _ _ _ h2;rw [List.drop_zero]at c1;rw [Nat.zero_add]at c2;have hal:(SV.ao ρ a).length=s:=by rw [c1,List.length_take];omega
    refine⟨by omega,fun i' hi=>by rw [q2 i' (by omega),p3 i' (by omega)],?_⟩;rw [Nat.add_comm k 1,g9];have e1:g8 (fun j=>rowAt ρ aN (i+j)) 1=SV.ao ρ a:=by
     have:rowAt ρ aN i=SV.ao ρ a:=by
      rw [q2 i (by omega),p4,List.drop_eq_nil_of_le,List.append_nil];rw [show(rowAt ρ ay i).length=bW ay from dC ρ ay _];omega
     simp [g8,this]
    have e2:g8 (fun j=>rowAt ρ aN (i+(1+j))) k=g8 (fun j=>rowAt ρ aN (i+1+j)) k:=cT fun j _=>by rw [Nat.add_assoc]
    rw [e1,e2,q3,c3,c1,Nat.add_mul,Nat.one_mul,List.take_add]
   ·cases h
  ·cases h
def World.wL(w:World)(v:Value)(n:Nat)(cs:List Value):Prop:=
 ∃a c,v= .slice a n c∧(a=none→n=0)∧∀ad,a=some ad→∀(j:Nat) u,cs[j]? =some u→w.cell? (ad.add j)=some u
structure TP (ρ:Env) (w:World) (v:Value) (s:Nat) (n:E) (ay:List bL):Prop where
 nn:0≤n.den ρ 0
 wd:bW ay=s
 rd:World.wL w v (n.den ρ 0).toNat (aF ρ (n.den ρ 0).toNat ay)
theorem B4{md:Bool}{t s n:Nat}{v:Value}{cs:List Value}{S:Nat→Prop}(h:(aB md t s v n cs).p w S):World.wL w v n cs∧cs.length=n*s:=by
 obtain⟨h0,_⟩:=h;cases md with
 | true=>
  simp only [if_true]at h0;have Mw:=h0;obtain⟨hl,hr⟩:=h0;refine⟨?_,hl⟩;rcases hr with⟨rfl,rfl⟩ | ⟨g,o,cap,cur,rfl,hg,Dc,_⟩
  ·exact⟨none,0,rfl,fun _=>rfl,by simp⟩
  ·refine⟨_,cap,rfl,by simp,?_⟩;rintro _ ⟨⟩;exact fun j u hu=>jZ Mw j u hu
 | false=>
  simp only [Bool.false_eq_true,if_false]at h0;obtain⟨hl,a,m,c,rfl,rfl,_,j4,hr⟩:=h0;exact⟨⟨a,c,rfl,j4,fun ad had=>(hr ad had).2⟩,hl⟩
theorem UW{s:Nat}{v x:Value}{n:E}{p:Part}{cs:List Value}(h:mI ρ s v x n p)(hv:World.wL w v (n.den ρ 0).toNat cs):
  World.wL w x (p.len.den ρ 0).toNat ((cs.drop ((p.lo.den ρ 0).toNat*s)).take ((p.len.den ρ 0).toNat*s)):=by
 obtain⟨h1,h2,h3,a,c,k,rfl,hc,rfl,hk⟩:=h;obtain⟨a',c',he,j4,hr⟩:=hv;cases he;have JR:(p.lo.den ρ 0).toNat+(p.len.den ρ 0).toNat≤((p.mx.map fun m=>m.den ρ 0).map ag).getD c∨(p.len.den ρ 0).toNat=0:=by
  cases hm:(p.mx.map fun m=>m.den ρ 0)with
  | none=>simp only [Option.map_none,Option.getD_none];omega
  | some m=>have:=h3 m hm;simp only [Option.map_some,Option.getD_some];omega
 refine⟨_,_,rfl,?_,?_⟩
 ·intro hn;cases a with
  | none=>have:=j4 rfl;omega
  | some a=>cases hn
 ·intro ad had;rw [aqq]at had;obtain⟨a0,rfl,rfl⟩:=had;have j6:=hr a0 rfl;intro j u hu;rw [List.getElem?_take]at hu;split at hu
  ·rename_i hj;have hN:(p.len.den ρ 0).toNat≠0:=by intro h;rw [h,Nat.zero_mul]at hj;omega
   rw [List.getElem?_drop]at hu;rw [hk (.inl (by omega)),dv];exact j6 _ _ hu
  ·cases hu
theorem pf(ay:List bL)(n:Nat): ∀u∈aF ρ n ay,u.oneCell'=true:=by
 intro u hu;unfold aF aK at hu;rw [List.mem_flatMap]at hu;obtain⟨i,_,hu⟩:=hu;rw [List.mem_flatMap]at hu;obtain⟨c,hc,hu⟩:=hu;rw [aqV]at hc;obtain⟨⟨ck,cw,a⟩,_,rfl⟩:=hc;cases ck with
 | int k=>
  simp only [bL.cells,aC,aj,aqV]at hu;obtain⟨_,_,rfl⟩:=hu;rfl
 | bool=>
  simp only [bL.cells,ij,aqV]at hu;obtain⟨_,_,rfl⟩:=hu;rfl
 | val v=>
  simp only [bL.cells,fN,aqV]at hu;obtain⟨j,_,rfl⟩:=hu;exact V1.one _
 | ptr=>
  simp only [bL.cells,tH,aqV]at hu;obtain⟨j,_,rfl⟩:=hu;exact Dy _
 | cv=>
  simp only [bL.cells,fN,aqV]at hu;obtain⟨j,_,rfl⟩:=hu;exact mA _
 | FP l=>
  simp only [bL.cells,fN,aqV]at hu;obtain⟨j,_,rfl⟩:=hu;exact V1.one _
 | pt q v=>
  simp only [bL.cells,fN,aqV]at hu;obtain⟨j,_,rfl⟩:=hu;split
  ·exact V1.one _
  ·exact mA _
 | bu=>
  simp only [bL.cells,fN,aqV]at hu;obtain⟨j,_,rfl⟩:=hu;rfl
 | str=>
  simp only [bL.cells,fN,aqV]at hu;obtain⟨j,_,rfl⟩:=hu;rfl
theorem DV{x:SV}{r:Rt}(h:gL hp x=some r)(cN:Reads hp ρ w S [r.j])(bY: ∀b∈r.vcs,b.prop ρ)(h0:0≤r.p.len.den ρ 0)(hw:r.s=bW r.ay)
  {ay:List bL} (hc:iY r.p.lo r.ay=some ay):TP ρ w (x.val ρ) r.s r.p.len ay:=by
 obtain⟨hj,eJ⟩:=fE h cN bY;have hS:=cN r.j (by simp) _ hj;obtain⟨hv,hl⟩:=B4 hS;obtain⟨e1,e2⟩:=j9 eJ.lo hc;refine⟨h0,by omega,?_⟩;have:=UW eJ hv;have h2:=eJ.hi;have h1:=eJ.lo;rw [cH,hw,tR (dC ρ r.ay) _ _ _ (by omega)]at this;rw [cH,cT fun i _=>e2 i];exact this
theorem dT(k:IntKind)(n:Nat)(a:E):aF ρ n [⟨.int k,1,a⟩]=aj k n (a.den ρ):=by
 unfold aF aK aj
 induction n with
 | zero=>rfl
 | succ n ih=>
  rw [List.range_succ,List.flatMap_append,List.map_append,ih];simp [bL.cells,aC,aj]
theorem fR{te:TI}{y:SV}{sc:Src}(h:Bd T hp te y=some sc)(cN:Reads hp ρ w S sc.rd)(bY: ∀b∈sc.vcs,b.prop ρ)
  (h0:0≤sc.n.den ρ 0):TP ρ w (y.val ρ) te.size sc.n sc.ay:=by
 unfold Bd at h;split at h
 ·split at h
  ·split at h
   ·rename_i hw;cases h;refine⟨by simp [E.den],hw.symm,none,0,by simp [SV.val,E.den],by simp [E.den],by simp⟩
   ·cases h
  ·cases h
 ·rename_i b i s m cap;split at h
  ·rename_i j b' wr cs hf;obtain⟨hj,dK⟩:=de hf;simp only [Ck.rK,beq_iff_eq]at dK;subst dK;split at h
   ·cases h
   ·rename_i hs;simp only [ne_eq,Decidable.not_not]at hs;subst hs;split at h
    ·rename_i i0 m0 LF Gr;have di:=bU (ρ:=ρ) LF;have dm:=bU (ρ:=ρ) Gr;have pY:(SV.sl b i te.size m cap).val ρ= .slice (some ⟨ρ.bv.getD b 0,i0*te.size,none⟩) m0 (cap.den ρ 0).toNat:=by simp [SV.val,di,dm]
     have base: ∀(x:List SV),jy (i0*te.size) (m0*te.size) cs=some x→(ak (ρ.bv.getD b 0) wr (SV.ao ρ cs)).p w (S j)→
       (SV.ao ρ x).length=m0*te.size∧∀(k:Nat) u,(SV.ao ρ x)[k]? =some u→w.cell? ((⟨ρ.bv.getD b 0,i0*te.size,none⟩:Addr).add k)=some u:=by
      intro x hx hS;obtain⟨c1,c2⟩:=eK ρ hx;refine⟨by rw [c1,List.length_take,List.length_drop];omega,fun k u hu=>?_⟩;rw [c1,List.getElem?_take]at hu;split at hu
      ·exact jz hS _ k u hu
      ·cases hu
     split at h
     ·rename_i k N a hx;split at h
      ·rename_i hc;obtain⟨kx,rfl⟩:=hc;cases h;obtain⟨_,hb⟩:=base _ hx (cN j (by simp) _ hj);refine⟨h0,by simp [bW,kx],_,_,pY,by simp,?_⟩;rintro _ ⟨⟩ k' u hu;rw [dT]at hu;refine hb k' u ?_;simpa [SV.ao,SV.cells,E.den] using hu
      ·cases h
     ·rename_i x _ hx;split at h
      ·split at h
       ·rename_i Y9 eT;split at h
        ·rename_i hw;rw [aqq]at h;obtain⟨aN,mr,rfl⟩:=h;obtain⟨hl,hb⟩:=base _ hx (cN j (by simp) _ hj);obtain⟨q1,_,q3⟩:=tS (ρ:=ρ) m0 0 mr hw;refine⟨h0,q1.trans hw.symm,_,_,pY,by simp,?_⟩;rintro _ ⟨⟩ k' u hu;refine hb k' u ?_;simp only [Nat.zero_add]at q3;rw [List.take_of_length_le (by omega)]at q3;simp only [E.den,aqD]at hu;rw [cH]at hu;rw [←q3];exact hu
        ·cases h
       ·cases h
      ·cases h
     ·cases h
    ·split at h
     ·rename_i k N a;split at h
      ·rename_i kx;cases h;simp only at bY h0;obtain⟨v1,v3⟩:=bw bY;obtain⟨v1,v2⟩:=bw v1;have v1:=aZ v1;have v3:=aZ v3;rw [bB]at v3;simp only [E.den]at v1 v3;have hS:=cN j (by simp) _ hj;refine⟨h0,by simp [bW,kx],_,_,rfl,by simp,?_⟩;rintro _ ⟨⟩ k' u hu;rw [dT,bt]at hu;split at hu
       ·rename_i hk;have hk:k'<(m.den ρ 0).toNat:=hk;simp only [aqp]at hu;refine jz hS _ k' u ?_;rw [kx,Nat.mul_one,List.getElem?_drop];simp only [SV.ao,SV.cells,List.append_nil];rw [bt,if_pos (by omega),←hu,eB]
       ·cases hu
      ·cases h
     ·cases h
  ·cases h
 ·split at h
  ·rename_i r hr;split at h
   ·rename_i hc;obtain⟨hs,hw⟩:=hc;rw [aqq]at h;obtain⟨ay,eT,rfl⟩:=h;simp only at bY h0;obtain⟨v1,_⟩:=bw bY;rw [←hs];exact DV hr cN v1 h0 hw eT
   ·cases h
  ·cases h
end
end Go.RX
