/- Executor. -/
import Derived.Test.YtphemenngjkfbaaM05
import Derived.Maps.AppendAt
import Derived.Great.BuildSlice
open Array renaming ext' → ael
open Bool renaming and_eq_true → ai
open Decidable renaming not_not → ad5
open Go.IntKind renaming wrap → ae
open Go.Op renaming equalIn → aed
open Go.Result renaming andThen_ok → adR
open Go.Sem renaming run_bind → adV, run_pure → aeb
open List renaming map_cons → ad1, mem_singleton → aei, range → aec
open Option renaming isSome_iff_exists → aew, map_eq_some_iff → adM
open Option.some renaming injEq → adK
namespace Go.RX
theorem AP(k:IntKind)(n:Int)(h:IntKind.lo k≤n)(h':n≤IntKind.hi k):k.wrap n=n:=by
 cases k<;>simp only [IntKind.lo,IntKind.hi]at h h'<;>simp [ae,IntKind.bits,IntKind.signed]<;>omega
section
variable {P:Program} {ρ:Env} {w:World}
theorem yf{k:IntKind}{e:E}(cb: ∀b∈(yh k e).2,b.prop ρ):(yh k e).1.den ρ 0=k.wrap (e.den ρ 0):=by
 unfold yh at cb ⊢;split
 ·rfl
 ·split
  ·rename_i hs;simp only [hs,if_true]at cb;have h1:=cb (.le (.lit (IntKind.lo k)) e) (by simp);have h2:=cb (.le e (.lit (IntKind.hi k))) (by simp);simp only [BE.prop,E.den]at h1 h2;exact(AP k _ h1 h2).symm
  ·rfl
theorem L9(k:IntKind)(e:E):yi k e=yh k e∨yi k e=(.wrap k e,[]):=by
 unfold yi;split
 ·split
  ·exact .inr rfl
  ·exact .inl rfl
 ·exact .inl rfl
theorem JD{k:IntKind}{e:E}(cb: ∀b∈(yi k e).2,b.prop ρ):(yi k e).1.den ρ 0=k.wrap (e.den ρ 0):=by
 rcases L9 k e with h | h
 ·rw [h]at cb ⊢;exact yf cb
 ·rw [h];rfl
theorem ke: ∀{l:List SV} {L:List gl},pT l L=true→ft (SV.ar ρ l) L
 | [],[],_=>trivial
 | [],k::L,h=>by simp [pT]at h
 | x::r,L,h=>by
  unfold pT at h;split at h
  ·rename_i heq;cases heq
  ·rename_i k e r' k' l heq;cases heq;simp only [ai,beq_iff_eq]at h;exact⟨h.1,ke h.2⟩
  ·rename_i b r' l heq;cases heq;exact ke (l:=r) h
  ·rename_i L k n a r' heq;cases heq;simp only [ai,decide_eq_true_eq]at h;obtain⟨⟨h1,h2⟩,h3⟩:=h;have ih:=ke (l:=r) h3;simp only [SV.ar,SV.cells];have key: ∀(m:Nat) (f:Nat→Int) (L:List gl) (xs:List Value),m≤L.length→(L.take m).all (· ==some k)=true→ft xs (L.drop m)→ft (al k m f++xs) L:=by
    intro m
    induction m with
    | zero=>intro f L xs _ _ hf;simpa [al] using hf
    | succ m ihm=>
     intro f L xs hle uD hf;cases L with
     | nil=>simp at hle
     | cons c L=>
      simp only [List.take_succ_cons,List.all_cons,ai,beq_iff_eq,List.drop_succ_cons,List.length_cons]at uD hf hle;have hc:=uD.1;subst hc;have:al k (m+1) f= .int k (f 0)::al k m (fun j=>f (j+1)):=by
       unfold al;rw [List.range_succ_eq_map,ad1,List.map_map];rfl
      rw [this];exact⟨rfl,ihm _ L xs (by omega) uD.2 hf⟩
   exact key n _ _ _ h1 h2 ih
  ·cases h
theorem Pu(k:IntKind)(n:Nat)(f g:Nat→Int)(a b:List Value):
  r8 (al k n f++a) (al k n g++b)=((aec n).all (fun j=>f j==g j)&&r8 a b):=by
 induction n generalizing f g with
 | zero=>simp [al]
 | succ n ih=>
  have e: ∀h:Nat→Int,al k (n+1) h= .int k (h 0)::al k n (fun j=>h (j+1)):=by
   intro h;unfold al;rw [List.range_succ_eq_map,ad1,List.map_map];rfl
  rw [e f,e g,List.cons_append,List.cons_append,r8,ih,List.range_succ_eq_map,List.all_cons,List.all_map,Bool.and_assoc];rfl
theorem kf: ∀{a b:List SV} {c:BE},kS a b=some c→c.den ρ=r8 (SV.ar ρ a) (SV.ar ρ b)
 | [],[],c,h=>by simp [kS]at h;subst h;rfl
 | [],y::s,c,h=>by simp [kS]at h
 | x::r,b,c,h=>by
  unfold kS at h;split at h
  ·rename_i heq;exact absurd heq (by simp)
  ·rename_i k e r' k' e' s heq;cases heq;split at h
   ·rename_i hk;subst hk;rw [adM]at h;obtain⟨d,hd,rfl⟩:=h;rw [nJ,qB,kf hd];rfl
   ·cases h
  ·rename_i p r' q s heq;cases heq;rw [adM]at h;obtain⟨d,hd,rfl⟩:=h;rw [nJ,nK,dh,kf hd];simp only [SV.ar,SV.cells,List.singleton_append,r8];cases p.den ρ<;>cases q.den ρ<;>rfl
  ·rename_i k n e r' k' n' e' s heq;cases heq;split at h
   ·rename_i hk;obtain⟨rfl,rfl⟩:=hk;rw [adM]at h;obtain⟨d,hd,rfl⟩:=h;rw [nJ,kf hd];simp only [SV.ar,SV.cells];rw [Pu];congr 1;split
    ·rename_i he;subst he;simp [BE.den]
    ·rfl
   ·cases h
  ·cases h
theorem vJ(k:IntKind)(a:E): ∀(l:List Nat),SV.ar ρ (l.map fun j=>SV.int k (gv a (.lit (j:Nat))))=l.map fun j=>Value.int k (a.den ρ j)
 | []=>rfl
 | x::r=>by simp only [ad1,SV.ar,SV.cells,ej,cM,Int.toNat_natCast,List.singleton_append,vJ k a r]
theorem jV: ∀(l:List SV),SV.ar ρ (qD l)=SV.ar ρ l
 | []=>rfl
 | v::r=>by
  unfold qD;split
  ·rename_i h;cases h
  ·rename_i k n a r' h;cases h;rw [ib,vJ,jV r];rfl
  ·rename_i v' r' _ h;cases h;simp only [SV.ar,jV r]
theorem tg{a b:List SV}{c:BE}(h:yj a b=some c):c.den ρ=r8 (SV.ar ρ a) (SV.ar ρ b):=by
 unfold yj at h;split at h
 ·rename_i c' hc;cases h;exact kf hc
 ·rw [kf h,jV,jV]
theorem wI(op:BinOp)(t:TypeId)(x y:Operand)(k k':IntKind)(a b:Int):(eqGuard op t x y (.int k a) (.int k' b)).run P w= .ok () w:=by
 cases op<;>simp [eqGuard]
theorem nR(op:BinOp)(t:TypeId)(x y:Operand)(a b:Bool):(eqGuard op t x y (.bool a) (.bool b)).run P w= .ok () w:=by
 cases op<;>simp [eqGuard]
def qE:Value→Bool
 | .nilIface=>false
 | .agg _=>false
 | _=>true
theorem c9(op:BinOp)(t:TypeId)(x y:Operand)(a b:Value)(h:qE a=true):(eqGuard op t x y a b).run P w= .ok () w:=by
 cases op<;>cases a<;>simp_all [eqGuard,qE]
theorem eJ{b:E}(h: ∀c∈oA b,c.prop ρ):0≤b.den ρ 0:=by
 by_cases hl:wF (.lit 0) b= .lit true
 ·have:(wF (.lit 0) b).den ρ=true:=by rw [hl];rfl
  rw [gP]at this;exact of_decide_eq_true this
 ·have:=h (wF (.lit 0) b) (by unfold oA;simp [hl]);rw [←BE.bY,gP]at this;exact of_decide_eq_true this
theorem Pv(k yk:IntKind)(x y:Int)(h:0≤y):(Op.shift .shl k x yk y).run P w= .ok (.int k (k.wrap (x*2^min y.toNat k.bits))) w:=by
 simp [Op.shift,Int.not_lt.2 h]
theorem Pw(k yk:IntKind)(x y:Int)(h:0≤y):(Op.shift .shr k x yk y).run P w= .ok (.int k (x.fdiv (2^min y.toNat k.bits))) w:=by
 simp [Op.shift,Int.not_lt.2 h]
theorem Gp(ti:TI){o:BinOp}{k k':IntKind}{a b:E}{res:gU}(h:nh ti o (.int k a) (.int k' b)=some res)(cb: ∀b∈res.vcs,b.prop ρ)(t:TypeId):
  (binOp o t (.int k (a.den ρ 0)) (.int k' (b.den ρ 0))).run P w= .ok (res.val.val ρ) w∧res.gJ= .none:=by
 cases o<;>simp only [nh]at h
 case shl=>
  simp only [adK]at h;subst h;exact⟨by simp only [binOp];rw [Pv _ _ _ _ (eJ cb),SV.val,lI];rfl,rfl⟩
 case shr=>
  simp only [adK]at h;subst h;exact⟨by simp only [binOp];rw [Pw _ _ _ _ (eJ cb),SV.val,lI];rfl,rfl⟩
 all_goals
  split at h
  ·cases h
  ·rename_i hk;simp only [ne_eq,ad5]at hk;subst hk
   first
   | (simp at h;done)
   | (
     simp only [adK]at h;subst h;refine⟨?_,rfl⟩
     first
     | (simp only [binOp,ne_eq,not_true_eq_false,if_false,Op.intCmp,aeb,SV.val,qB,dh,tb,gP];first | done | rfl)
     | (simp only [binOp,ne_eq,not_true_eq_false,if_false,Op.intBits,aeb,SV.val,lI];rfl)
     | (simp only [binOp,ne_eq,not_true_eq_false,if_false,Op.intArith,aeb,SV.val,yf cb,bH,eE,fR])
     | (
      have hnz:=cb (Pp b) (by simp);rw [←BE.bY,wX]at hnz;have X4:b.den ρ 0≠0:=by simpa using hnz
      simp [binOp,Op.intDiv,X4,SV.val,Jy,lI,ax]))
theorem bf{ti:TI}{o:BinOp}{xo yo:Operand}{u v:Value}{r:Result Value}(hg:(eqGuard o ti.t xo yo u v).run P w= .ok () w)(h:(binOp o ti.t u v).run P w=r):
  (do eqGuard o ti.t xo yo u v;binOp o ti.t u v:Sem Value).run P w=r:=by
 simp only [adV,hg,adR,h]
theorem DJ{t:TypeId}(ht:P.underlying t=some .bool)(a b:Bool):(binOp .eql t (.bool a) (.bool b)).run P w= .ok (.bool (a==b)) w:=by
 simp [binOp,Op.equal,Op.maxDepth,run_equalIn_bool' w 9999 t a b ht]
theorem DK{t:TypeId}(ht:P.underlying t=some .bool)(a b:Bool):(binOp .neq t (.bool a) (.bool b)).run P w= .ok (.bool (!(a==b))) w:=by
 simp [binOp,Op.equal,Op.maxDepth,run_equalIn_bool' w 9999 t a b ht]
theorem dy{t:TypeId}{x y:Value}{b:Bool}(hb:binOp .eql t x y=(do pure (.bool (←Op.equal t x y)):Sem Value))(h: ∀d,(aed (d+1) t x y).run P w= .ok b w):
  (binOp .eql t x y).run P w= .ok (.bool b) w:=by
 have:(Op.equal t x y).run P w= .ok b w:=h 9999;rw [hb];simp only [adV,this,adR,aeb]
theorem dz{t:TypeId}{x y:Value}{b:Bool}(hb:binOp .neq t x y=(do pure (.bool (!(←Op.equal t x y))):Sem Value))(h: ∀d,(aed (d+1) t x y).run P w= .ok b w):
  (binOp .neq t x y).run P w= .ok (.bool (!b)) w:=by
 have:(Op.equal t x y).run P w= .ok b w:=h 9999;rw [hb];simp only [adV,this,adR,aeb]
theorem eK{u:Option TypeDesc}{e:Nat}(h:gR u (.ptr e)=true):u=some (.pointer e):=by
 cases u with
 | none=>simp [gR]at h
 | some d=>cases d<;>simp_all [gR]
theorem bL{u:Option TypeDesc}{e:Nat}(h:gR u (.slice e)=true):u=some (.slice e):=by
 cases u with
 | none=>simp [gR]at h
 | some d=>cases d<;>simp_all [gR]
theorem nS{u:Option TypeDesc}{n e:Nat}(h:gR u (.arr n e)=true):u=some (.array n e):=by
 cases u with
 | none=>simp [gR]at h
 | some d=>cases d<;>simp_all [gR]
theorem jf{u:Option TypeDesc}{k:IntKind}(h:gR u (.int k)=true):u=some (.int k):=by
 cases u with
 | none=>simp [gR]at h
 | some d=>cases d<;>simp_all [gR]
theorem mK{u:Option TypeDesc}{l:List (Nat×Nat)}(h:gR u (.struct l)=true): ∃fs:Array Field,u=some (.struct fs)∧fs.toList.map (fun f=>(f.type,f.offset))=l:=by
 cases u with
 | none=>simp [gR]at h
 | some d=>cases d<;>simp_all [gR]
theorem uE{u:Option TypeDesc}(h:gR u .func=true): ∃a b c,u=some (.func a b c):=by
 cases u with
 | none=>simp [gR]at h
 | some d=>cases d<;>simp_all [gR]
theorem Px{t:TypeId}{e:Nat}(hu:P.underlying t=some (.pointer e))(d:Nat):
  (aed (d+1) t (.pointer none) (.pointer none)).run P w= .ok true w:=by
 have vI:=run_underlying hu w;rw [aed];simp only [adV,vI,adR];rfl
theorem L_{t:TypeId}{e:Nat}{a:Addr}(hu:P.underlying t=some (.pointer e))(d:Nat):
  (aed (d+1) t (.pointer none) (.pointer (some a))).run P w= .ok false w:=by
 have vI:=run_underlying hu w;rw [aed];simp only [adV,vI,adR];rfl
theorem Mb{t:TypeId}{e:Nat}{a:Addr}(hu:P.underlying t=some (.pointer e))(d:Nat):
  (aed (d+1) t (.pointer (some a)) (.pointer none)).run P w= .ok false w:=by
 have vI:=run_underlying hu w;rw [aed];simp only [adV,vI,adR];rfl
theorem UC{t:TypeId}{e n m n' m':Nat}(hu:P.underlying t=some (.slice e))(d:Nat):
  (aed (d+1) t (.slice none n m) (.slice none n' m')).run P w= .ok true w:=by
 have vI:=run_underlying hu w;rw [aed];simp only [adV,vI,adR];rfl
theorem UD{t:TypeId}{e n m n' m':Nat}{a:Addr}(hu:P.underlying t=some (.slice e))(d:Nat):
  (aed (d+1) t (.slice none n m) (.slice (some a) n' m')).run P w= .ok false w:=by
 have vI:=run_underlying hu w;rw [aed];simp only [adV,vI,adR];rfl
theorem UE{t:TypeId}{e n m n' m':Nat}{a:Addr}(hu:P.underlying t=some (.slice e))(d:Nat):
  (aed (d+1) t (.slice (some a) n m) (.slice none n' m')).run P w= .ok false w:=by
 have vI:=run_underlying hu w;rw [aed];simp only [adV,vI,adR];rfl
theorem UF{t:TypeId}{x:Array TypeId}{y:Array TypeId}{z:Bool}(hu:P.underlying t=some (.func x y z))(d:Nat):
  (aed (d+1) t .nilFunc .nilFunc).run P w= .ok true w:=by
 have vI:=run_underlying hu w;rw [aed];simp only [adV,vI,adR];rfl
theorem UG{t:TypeId}{x:Array TypeId}{y:Array TypeId}{z:Bool}{f:Fn}{a b:Array Value}(hu:P.underlying t=some (.func x y z))(d:Nat):
  (aed (d+1) t .nilFunc (.func f a b)).run P w= .ok false w:=by
 have vI:=run_underlying hu w;rw [aed];simp only [adV,vI,adR];rfl
theorem UH{t:TypeId}{x:Array TypeId}{y:Array TypeId}{z:Bool}{f:Fn}{a b:Array Value}(hu:P.underlying t=some (.func x y z))(d:Nat):
  (aed (d+1) t (.func f a b) .nilFunc).run P w= .ok false w:=by
 have vI:=run_underlying hu w;rw [aed];simp only [adV,vI,adR];rfl
theorem UI{t:TypeId}{e:Nat}(hu:P.underlying t=some (.pointer e))(y:Int)(d:Nat):
  (aed (d+1) t (.pointer none) (aC y)).run P w= .ok (y==0) w:=by
 unfold aC;split
 ·rename_i h;subst h;exact Px hu d
 ·rename_i h;rw [show(y==(0:Int))=false by simpa using h];exact L_ hu d
theorem UJ{t:TypeId}{e:Nat}(hu:P.underlying t=some (.pointer e))(y:Int)(d:Nat):
  (aed (d+1) t (aC y) (.pointer none)).run P w= .ok (y==0) w:=by
 unfold aC;split
 ·rename_i h;subst h;exact Px hu d
 ·rename_i h;rw [show(y==(0:Int))=false by simpa using h];exact Mb hu d
theorem JE(y:Int):qE (aC y)=true:=by unfold aC;split<;>rfl
theorem AQ{ti:TI}(cN:kb P ti){x y:SV}{c:BE}(h:ptrEq ti.k x y=some c):
  qE (x.val ρ)=true∧(binOp .eql ti.t (x.val ρ) (y.val ρ)).run P w= .ok (.bool (c.den ρ)) w∧(binOp .neq ti.t (x.val ρ) (y.val ρ)).run P w= .ok (.bool (!c.den ρ)) w:=by
 have hk:=cN.kind;generalize ti.k=kk at h hk;unfold ptrEq at h;split at h
 ·cases h;exact⟨rfl,dy rfl fun d=>Px (eK hk) d,dz rfl fun d=>Px (eK hk) d⟩
 ·cases h;exact⟨rfl,dy rfl fun d=>L_ (eK hk) d,dz rfl fun d=>L_ (eK hk) d⟩
 ·cases h;exact⟨rfl,dy rfl fun d=>Mb (eK hk) d,dz rfl fun d=>Mb (eK hk) d⟩
 ·cases h;exact⟨rfl,dy rfl fun d=>L_ (eK hk) d,dz rfl fun d=>L_ (eK hk) d⟩
 ·cases h;exact⟨rfl,dy rfl fun d=>Mb (eK hk) d,dz rfl fun d=>Mb (eK hk) d⟩
 ·cases h;exact⟨rfl,dy rfl fun d=>by rw [qB];exact UI (eK hk) _ d,dz rfl fun d=>by rw [qB];exact UI (eK hk) _ d⟩
 ·cases h;exact⟨JE _,dy (by simp only [SV.val];unfold aC;split<;>rfl) fun d=>by rw [qB];exact UJ (eK hk) _ d,dz (by simp only [SV.val];unfold aC;split<;>rfl) fun d=>by rw [qB];exact UJ (eK hk) _ d⟩
 ·cases h;exact⟨rfl,dy rfl fun d=>UC (bL hk) d,dz rfl fun d=>UC (bL hk) d⟩
 ·cases h;exact⟨rfl,dy rfl fun d=>UD (bL hk) d,dz rfl fun d=>UD (bL hk) d⟩
 ·cases h;exact⟨rfl,dy rfl fun d=>UE (bL hk) d,dz rfl fun d=>UE (bL hk) d⟩
 ·cases h;obtain⟨_,_,_,hu⟩:=uE hk;exact⟨rfl,dy rfl fun d=>UF hu d,dz rfl fun d=>UF hu d⟩
 ·cases h;obtain⟨_,_,_,hu⟩:=uE hk;exact⟨rfl,dy rfl fun d=>UG hu d,dz rfl fun d=>UG hu d⟩
 ·cases h;obtain⟨_,_,_,hu⟩:=uE hk;exact⟨rfl,dy rfl fun d=>UH hu d,dz rfl fun d=>UH hu d⟩
 ·cases h
theorem qF(l:List UInt8):(⟨l.toArray⟩:ByteArray).toList=l:=by rw [ByteArray.toList_eq]
theorem vK(t:TypeId)(a b:List UInt8):(binOp .eql t (.string ⟨a.toArray⟩) (.string ⟨b.toArray⟩)).run P w= .ok (.bool (a==b)) w:=by
 rw [binOp_string_eql,qF,qF];rfl
theorem vL(t:TypeId)(a b:List UInt8):(binOp .neq t (.string ⟨a.toArray⟩) (.string ⟨b.toArray⟩)).run P w= .ok (.bool (!(a==b))) w:=by
 rw [binOp_string_neq,qF,qF];rfl
theorem JF(a b:List UInt8):(⟨a.toArray⟩:ByteArray)++⟨b.toArray⟩=⟨(a++b).toArray⟩:=by
 apply ByteArray.ext;rw [ByteArray.data_append];simp
theorem vM(t:TypeId)(a b:List UInt8)(h:a.length+b.length≤9223372036854775807):(binOp .add t (.string ⟨a.toArray⟩) (.string ⟨b.toArray⟩)).run P w= .ok (.string ⟨(a++b).toArray⟩) w:=by
 rw [binOp_string_add,run_string_add_sum w _ _ (by simpa [ByteArray.size] using h),JF]
theorem Gq{ti:TI}{o:BinOp}{xo yo:Operand}{x y:SV}{res:gU}(h:uF o x y=some res)(cb: ∀b∈res.vcs,b.prop ρ):
  (do eqGuard o ti.t xo yo (x.val ρ) (y.val ρ);binOp o ti.t (x.val ρ) (y.val ρ):Sem Value).run P w= .ok (res.val.val ρ) w∧res.gJ= .none:=by
 unfold uF at h;split at h
 ·rename_i a b;split at h
  ·split at h
   ·rename_i hl;cases h;exact⟨bf (c9 _ _ _ _ _ _ rfl) (vM _ _ _ (by omega)),rfl⟩
   ·cases h
  ·cases h;exact⟨bf (c9 _ _ _ _ _ _ rfl) (vK _ _ _),rfl⟩
  ·cases h;exact⟨bf (c9 _ _ _ _ _ _ rfl) (vL _ _ _),rfl⟩
  ·cases h
 ·split at h
  ·rename_i a b ha hb;have ea:=rW ρ ha;have eb:=rW ρ hb;rw [ea,eb];split at h
   ·cases h;have n1:0≤(j9 a).den ρ 0:=eJ (b:=j9 a) fun c hc=>cb c (List.mem_append_left _ (List.mem_append_left _ hc))
    have n2:0≤(j9 b).den ρ 0:=eJ (b:=j9 b) fun c hc=>cb c (List.mem_append_left _ (List.mem_append_right _ hc))
    have n3:=cb _ (List.mem_append_right _ (aei.2 rfl));rw [←BE.bY,gP]at n3;have n3:=of_decide_eq_true n3;rw [bH]at n3;rw [fS]at n1 n2 n3;rw [fS]at n3;simp only [cM]at n3;refine⟨bf (c9 _ _ _ _ _ _ rfl) ?_,rfl⟩;rw [vM _ _ _ (by rw [cF,cF];omega),SV.val,LZ ρ a b n1 n2]
   ·cases h;refine⟨bf (c9 _ _ _ _ _ _ rfl) ?_,rfl⟩;rw [vK,SV.val,Dz]
   ·cases h;refine⟨bf (c9 _ _ _ _ _ _ rfl) ?_,rfl⟩;rw [vL,SV.val,dh,Dz]
   ·cases h
  ·cases h
theorem JG{ti:TI}(cN:kb P ti){o:BinOp}{xo yo:Operand}{x y:SV}{res:gU}(h:nh ti o x y=some res)(cb: ∀b∈res.vcs,b.prop ρ):
  (do eqGuard o ti.t xo yo (x.val ρ) (y.val ρ);binOp o ti.t (x.val ρ) (y.val ρ):Sem Value).run P w= .ok (res.val.val ρ) w∧res.gJ= .none:=by
 cases x with
 | int k a=>
  cases y with
  | int k' b=>
   obtain⟨h1,h2⟩:=Gp (w:=w) ti h cb ti.t;exact⟨bf (wI _ _ _ _ _ _ _ _) h1,h2⟩
  | _=>simp [nh,ptrEq,uF,pJ]at h
 | bool a=>
  cases y with
  | bool b=>
   simp only [nh]at h;split at h
   ·cases h
   ·rename_i hk;simp only [ne_eq,ad5]at hk;have cT:=cN.kind;rw [hk]at cT;have hu:P.underlying ti.t=some .bool:=by
     unfold gR at cT;split at cT<;>simp_all
    split at h
    ·simp only [adK]at h;subst h;refine⟨bf (nR _ _ _ _ _ _) ?_,rfl⟩;rw [SV.val,SV.val,DJ hu,SV.val,nK,dh];cases a.den ρ<;>cases b.den ρ<;>rfl
    ·simp only [adK]at h;subst h;refine⟨bf (nR _ _ _ _ _ _) ?_,rfl⟩;rw [SV.val,SV.val,DK hu,SV.val,dh,nK,dh];cases a.den ρ<;>cases b.den ρ<;>rfl
    ·cases h
  | _=>simp [nh,ptrEq,uF,pJ]at h
 | agg a=>
  cases y with
  | agg b=>
   simp only [nh]at h;split at h
   ·cases h
   ·rename_i hl;simp only [Bool.or_eq_true,Bool.not_eq_true',not_or,Bool.not_eq_true,Bool.not_eq_false]at hl;obtain⟨⟨⟨Ia,Py⟩,UK⟩,hl3⟩:=hl;rcases cN.lay with he | ⟨X5,Sq⟩
    ·rw [Py]at he;cases he
    ·have hE:=mJ (P:=P) 9988 12 ti.t _ X5 w _ _ (.agg (SV.ar ρ a).toArray) (.agg (SV.ar ρ b).toArray) (ke (ρ:=ρ) UK) (ke (ρ:=ρ) hl3);have hV: ∀cs:List Value,CW P ti.t cs (.agg cs.toArray):=by
      intro cs;have cT:=cN.kind;unfold gR at cT;unfold CW;split at cT
      all_goals first
       | (rename_i hkd;rw [hkd]at Ia;simp [TK.agg]at Ia;done)
       | (rename_i hu _;rw [hu])
       | cases cT
     have hE':=hE (hV _) (hV _);have hg: ∀o:BinOp,(eqGuard o ti.t xo yo (.agg (SV.ar ρ a).toArray) (.agg (SV.ar ρ b).toArray)).run P w= .ok () w:=fun o=>run_eqGuard_agg w o ti.t xo yo _ _ Sq
     split at h
     ·rename_i c hc;simp only [adK]at h;subst h;refine⟨bf (hg _) ?_,rfl⟩;simp only [SV.val];rw [run_eql_struct,hE',adR,tg hc]
     ·rename_i c hc;simp only [adK]at h;subst h;refine⟨bf (hg _) ?_,rfl⟩;simp only [SV.val];rw [run_neq_struct,hE',adR,dh,tg hc]
     ·cases h
  | _=>simp [nh,ptrEq,uF,pJ]at h
 | _=>
  simp only [nh]at h;split at h
  ·exact Gq h cb
  split at h
  ·rename_i c hc;simp only [adK]at h;subst h;obtain⟨h1,h2,_⟩:=AQ (ρ:=ρ) (w:=w) cN hc;exact⟨bf (c9 _ _ _ _ _ _ h1) h2,rfl⟩
  ·rename_i c hc;simp only [adK]at h;subst h;obtain⟨h1,_,h2⟩:=AQ (ρ:=ρ) (w:=w) cN hc;refine⟨bf (c9 _ _ _ _ _ _ h1) ?_,rfl⟩;rw [h2];simp [SV.val,dh]
  ·cases h
end
structure tj (ρ:Env) (look:Nat→Option SV) (bK:Operand→Value):Prop where
 tmp: ∀s v,look s=some v→bK (.tmp s)=v.val ρ
 const: ∀v,bK (.const v)=v
 func: ∀f,bK (.func f)= .func (.func f) #[] #[]
section
variable {P:Program} {ρ:Env} {w:World} {look:Nat→Option SV} {bK:Operand→Value}
theorem eL(h:tj ρ look bK){x:Operand}{v:SV}(he:iG look x=some v):bK x=v.val ρ:=by
 cases x with
 | tmp t=>exact h.tmp t v he
 | const c=>rw [h.const];exact(pM ρ c v he).symm
 | global g=>cases he
 | func f=>
  simp only [iG,adK]at he;subst he;rw [h.func];rfl
theorem kg(h:tj ρ look bK): ∀(xs:List Operand) (vs:List SV),jg (xs.map (iG look))=some vs→xs.map bK=SV.bK ρ vs
 | [],vs,he=>by simp [jg]at he;subst he;rfl
 | x::r,vs,he=>by
  simp only [ad1]at he;cases hx:iG look x with
  | none=>rw [hx]at he;simp [jg]at he
  | some v=>
   rw [hx]at he;simp only [jg,adM]at he;obtain⟨rs,X6,rfl⟩:=he;simp only [ad1,SV.bK,eL h hx,kg h r rs X6]
inductive eW (ρ:Env):List (Nat×List SV)→List (Nat×Value)→Prop
 | nil:eW ρ [] []
 | cons {i cs v r s}:v.cells.toList=SV.ar ρ cs→eW ρ r s→eW ρ ((i,cs)::r) ((i,v)::s)
theorem oB(h:tj ρ look bK)(ng:ρ.Ok): ∀(xs:List (Nat×Operand)) (ps:List (Nat×List SV)),partsOf look xs=some ps→
  eW ρ ps (xs.map fun x=>(x.1,bK x.2))
 | [],ps,he=>by simp [partsOf]at he;subst he;exact .nil
 | (i,x)::r,ps,he=>by
  unfold partsOf at he;split at he
  ·rename_i v rest hv hr;rw [adM]at he;obtain⟨cs,m_,rfl⟩:=he;refine .cons ?_ (oB h ng r rest hr);rw [eL h hv];exact(ig ρ m_ ng).1
  ·cases he
theorem qG(place:Nat→Option (Nat×Nat)): ∀{ps:List (Nat×List SV)} {vs:List (Nat×Value)},eW ρ ps vs→
  ∀{cells uC:List SV} {arr:Array Value},jW place cells ps=some uC→arr.toList=SV.ar ρ cells→
  ∃r,Instr.fill place arr vs=some r∧r.toList=SV.ar ρ uC
 | _,_,.nil,cells,uC,arr,h,ha=>by
  simp only [jW,adK]at h;subst h;exact⟨arr,by rw [Instr.fill],ha⟩
 | _,_,.cons (i:=i) (cs:=cs) (v:=v) (r:=r) (s:=s) hv hr,cells,uC,arr,h,ha=>by
  unfold jW at h;split at h
  ·rename_i off size Sr;split at h
   ·rename_i hlen;split at h
    ·rename_i X7 pR;obtain⟨hc,hle⟩:=ot ρ pR;have eV:v.cells.size=size:=by
      rw [←Array.length_toList,hv,bp];exact hlen
     have abv:arr.size=(SV.ar ρ cells).length:=by rw [←Array.length_toList,ha]
     have dZ:(SV.ar ρ cs).length=size:=by rw [←hv];simpa using eV
     obtain⟨g1,g2⟩:=Great.foldl_set off v.cells.toList 0 arr;unfold Instr.fill;simp only [Sr,eV];rw [if_neg (by simp;omega)];refine qG place hr h ?_;rw [hc];apply List.ext_getElem?;intro k;rw [Array.getElem?_toList];have e1: ∀(X8:Array Value),((v.cells.zipIdx).foldl (fun cs (x:Value×Nat)=>cs.setIfInBounds (off+x.2) x.1) X8)=((v.cells.toList.zipIdx 0).foldl (fun cs (x:Value×Nat)=>cs.setIfInBounds (off+x.2) x.1) X8):=by
      intro X8;rw [←Array.foldl_toList,Array.toList_zipIdx]
     have e2:=g2 k;rw [←e1 arr]at e2;refine Eq.trans e2 ?_;simp only [Nat.add_zero,Array.length_toList,eV];rw [List.append_assoc,List.getElem?_append,List.getElem?_append,List.length_take,Nat.min_eq_left (by omega),dZ,List.getElem?_take,List.getElem?_drop,←ha,←hv];by_cases h1:k<off
     ·rw [if_neg (by omega),if_pos h1,if_pos h1];simp
     ·rw [if_neg h1];by_cases h2:k<off+size
      ·rw [if_pos ⟨by omega,h2,by omega⟩,if_pos (by omega)]
      ·rw [if_neg (by omega),if_neg (by omega)];have:off+size+(k - off - size)=k:=by omega
       rw [this];simp
    ·cases h
   ·cases h
  ·cases h
end
def Gr(ρ:Env)(nb r:Nat):Ck→Option HP
 | .row b true cs=>if b=nb then some (ak r true (SV.ar ρ cs))else none
 | .map b kl ka va z has aA=>if b=nb then some (b_ r kl ka va (SV.ar ρ z) (fun i=> !(has.den ρ i==0)) fun i=>(aA.map (bV.cells ρ)).flatMap fun c=>c i)else none
 | .ni b kl ka va z es=>if b=nb then some (b_ r kl ka va (SV.ar ρ z) (fun i=>pU es i) fun i=>SV.ar ρ (nj es z i))else none
 | .H7 b t e n a=>if b=nb then some (Q9 r t e (al .u8 (n.den ρ 0).toNat (a.den ρ)))else none
 | .Ly b l p=>if b=nb then some (Q8 r l p)else none
 | _=>none
def sV(P:Program)(ρ:Env)(w:World)(hp:List Ck)(S:Nat→Nat→Prop)(nb nv:Nat)(run:Result Next)(res:gU):Prop:=
 match res.gJ with
 | .none=>run= .ok (.value (res.val.val ρ)) w
 | .new ck=> ∃w' Pz,Gr ρ nb w.heap.size ck=some Pz∧run= .ok (.value (res.val.val (ρ.mz w.heap.size))) w'∧fQ w w'∧w'.heap.size=w.heap.size+1∧
   (∀k,k<w.heap.size→w'.heap[k]? =w.heap[k]?)∧Pz.p w' (fun k=>k=w.heap.size)
 | .set j ck=> ∃w',(run= .ok (.value (res.val.val ρ)) w'∨(res.val= .undef∧run= .ok .skip w'))∧H9 P w ρ hp S j ck w'
 | .app j ck=> ∃t s n aA v w' S',ck= .cc true nv t s n aA∧res.val= .vv nv∧run= .ok (.value v) w'∧v.oneCell'=true∧
   (∃Pt,hp[j]? =some Pt∧(Pt.den ρ).wr=true)∧fQ w w'∧(∀k,k<w.heap.size→¬S j k→w'.heap[k]? =w.heap[k]?)∧
   (aB true t s v (n.den ρ 0).toNat (aF ρ (n.den ρ 0).toNat aA)).p w' S'∧∀k,S' k→S j k∨(w.heap.size≤k∧k<w'.heap.size)
 | .own ck=> ∃t s n aA v w' S',ck= .cc true nv t s n aA∧res.val= .vv nv∧run= .ok (.value v) w'∧v.oneCell'=true∧fQ w w'∧(∀k,k<w.heap.size→w'.heap[k]? =w.heap[k]?)∧
   (aB true t s v (n.den ρ 0).toNat (aF ρ (n.den ρ 0).toNat aA)).p w' S'∧∀k,S' k→w.heap.size≤k∧k<w'.heap.size
 | .DL ck=> ∃t s n aA v w' S',ck= .cc false nv t s n aA∧res.val= .vv nv∧run= .ok (.value v) w'∧v.oneCell'=true∧fQ w w'∧(∀k,k<w.heap.size→w'.heap[k]? =w.heap[k]?)∧
   (aB false t s v (n.den ρ 0).toNat (aF ρ (n.den ρ 0).toNat aA)).p w' S'∧∀k,S' k→w.heap.size≤k∧k<w'.heap.size
section
variable {P:Program} {ρ:Env} {w:World} {look:Nat→Option SV} {bK:Operand→Value} {hp:List Ck} {S:Nat→Nat→Prop} {nb nv:Nat} {T:List TI}
theorem jM(ρ:Env)(b:Nat):(ρ.mz b).bv[ρ.bv.length]?.getD 0=b:=by
 simp [Env.mz]
theorem qH(w:World)(cs:Array Value)(e:TypeId)(l:List Value)(hl:cs.toList=l):
  fQ w (w.alloc (.cells cs e))∧(w.alloc (.cells cs e)).heap.size=w.heap.size+1∧(∀k,k<w.heap.size→(w.alloc (.cells cs e)).heap[k]? =w.heap[k]?)∧
   (ak w.heap.size true l).p (w.alloc (.cells cs e)) (fun k=>k=w.heap.size):=by
 subst hl;refine⟨⟨rfl,rfl,rfl,by simp⟩,by simp,fun k hk=>heap_alloc_old w _ hk,fun k=>Iff.rfl,e,(0,0),?_,fun _=>rfl⟩;have hn:=heap_alloc_new w (.cells cs e);simpa using hn
theorem DM(hT:bw P T=true)(DN:ρ.bv.length=nb){t:TypeId}{ti:TI}(ht:aS T t=some ti):
  sV P ρ w hp S nb nv ((do pure (.value (←Instr.alloc t true (.tuple #[]))):Sem Next).run P w) {val:= .ptr nb 0,gJ:= .new (.row nb true ti.zero)}:=by
 obtain⟨rfl,cN⟩:=ay hT ht;obtain⟨z,hz,hc⟩:=cN.zero w;obtain⟨h1,h2,h3,h4⟩:=qH w z.cells ti.t (SV.ar ρ ti.zero) (hc ρ).symm;refine⟨_,_,if_pos rfl,?_,h1,h2,h3,h4⟩;subst DN;simp [Instr.alloc,hz,newVar,newRow,SV.val,jM]
theorem JH(hT:bw P T=true)(DN:ρ.bv.length=nb){t:TypeId}{ti:TI}(ht:aS T t=some ti)(e:Nat)(UL:SV.ar ρ ti.zero=[.pointer none,.slice none 0 0]):
  sV P ρ w hp S nb nv ((do pure (.value (←Instr.alloc t true (.tuple #[]))):Sem Next).run P w) {val:= .ptr nb 0,gJ:= .new (.H7 nb t e (.lit 0) (.lit 0))}:=by
 obtain⟨rfl,cN⟩:=ay hT ht;obtain⟨z,hz,hc⟩:=cN.zero w;obtain⟨h1,h2,h3,h4⟩:=qH w z.cells ti.t (SV.ar ρ ti.zero) (hc ρ).symm;refine⟨_,_,if_pos rfl,?_,h1,h2,h3,?_⟩
 ·subst DN;simp [Instr.alloc,hz,newVar,newRow,SV.val,jM]
 ·have Af:z.cells= #[.pointer none,.slice none 0 0]:=ael (by rw [←hc ρ,UL]);refine⟨.pointer none,.slice none 0 0,?_,.inl rfl,?_,by simp [Value.ownBlock],fun k=>by simp [Value.ownBlock]⟩
  ·have hn:=heap_alloc_new w (.cells z.cells ti.t);rw [Af]at hn;rw [Af];exact hn
  ·simp only [E.den,Int.toNat_zero,al,List.range_zero,List.map_nil,List.length_nil];exact World.ownsRow_nil _ 0 e 1
theorem JI(ng:ρ.Ok)(DN:ρ.bv.length=nb){t:TypeId}{v:SV}{cs:List SV}(m_:er v=some cs):
  sV P ρ w hp S nb nv ((do pure (.value (←Instr.box t (v.val ρ))):Sem Next).run P w) {val:= .ptr nb 0,gJ:= .new (.row nb true cs)}:=by
 obtain⟨h1,h2,h3,h4⟩:=qH w (v.val ρ).cells t (SV.ar ρ cs) (ig ρ m_ ng).1;refine⟨_,_,if_pos rfl,?_,h1,h2,h3,h4⟩;subst DN;simp [Instr.box,newVar,newRow,SV.val,jM]
theorem yl{ti:TI}(cN:kb P ti){cs x:List SV}{off:Nat}{v:SV}(hx:jc off ti.size cs=some x)(hv:iz ti.k.agg x=some v):
  (part ti.t (SV.ar ρ cs).toArray off).run P w= .ok (v.val ρ) w:=by
 obtain⟨h1,h2⟩:=eF ρ hx;obtain⟨h3,h4⟩:=mH ρ hv;cases ha:ti.k.agg with
 | true=>
  simp only [part,adV,cN.isAgg w,ha,adR,if_true,cN.sizeOf w,aeb,h3 ha,h1];congr 3;apply ael;simp [List.extract_eq_take_drop]
 | false=>
  have h5:=h4 ha;rw [h1]at h5;have h6:(SV.ar ρ cs)[off]? =some (v.val ρ):=by
   have:(((SV.ar ρ cs).drop off).take ti.size)[0]? =some (v.val ρ):=by rw [h5];rfl
   rw [List.getElem?_take,List.getElem?_drop]at this;split at this
   ·simpa using this
   ·cases this
  simp [part,cN.isAgg w,ha,h6]
theorem vN(hT:bw P T=true): ∀(fs:List Field) (l:List (Nat×Nat)),fs.map (fun f=>(f.type,f.offset))=l→pV T l=true→
  ∃Gs,fs.mapM (fun f=>(P.info? f.type).map fun i=>(f.offset,i.size))=some Gs∧∀i,Gs[i]? =gB T l i
 | [],l,h,_=>by
  subst h;exact⟨[],rfl,fun i=>by simp [gB]⟩
 | f::r,l,h,ha=>by
  subst h;simp only [pV,ad1,List.all_cons,ai]at ha;obtain⟨p,hp,Sr⟩:=vN hT r _ rfl (by simpa [pV] using ha.2);obtain⟨ti,cN⟩:=aew.1 ha.1;obtain⟨ht,hi⟩:=ay hT cN;obtain⟨i,h1,h2,_⟩:=hi.info;rw [ht]at h1;refine⟨(f.offset,i.size)::p,?_,fun k=>?_⟩
  ·simp [List.mapM_cons,h1,hp]
  ·cases k with
   | zero=>simp [gB,cN,h2]
   | succ k=>rw [List.getElem?_cons_succ,Sr k];simp [gB]
theorem r_(hT:bw P T=true){ti:TI}{t:TypeId}(ht:aS T t=some ti){fs:List (Nat×Nat)}(hk:ti.k= .struct fs)(uD:pV T fs=true)
  {ps:List (Nat×List SV)} {vs:Array (Nat×Value)} (hm:eW ρ ps vs.toList) {cs:List SV} (hf:jW (gB T fs) ti.zero ps=some cs):
  (Instr.build t vs).run P w= .ok (.agg (SV.ar ρ cs).toArray) w:=by
 obtain⟨rfl,cN⟩:=ay hT ht;obtain⟨i,hi,_,_,z,hz,hc⟩:=cN.info;have cT:=cN.kind;rw [hk]at cT;obtain⟨fa,hu,PA⟩:=mK cT;obtain⟨Gs,hp,Sr⟩:=vN hT fa.toList fs PA uD;obtain⟨r,hr,UM⟩:=qG (ρ:=ρ) (gB T fs) hm hf (hc ρ).symm;have hb:P.built ti.t vs.toList=some r:=by
  unfold Program.built;simp only [hi,hu,hz,hp];rw [←hr];congr 1;funext k;rw [←Sr k];simp
 rw [run_build w ti.t vs r hb];congr 2;exact ael (by simpa using UM)
theorem wJ(hT:bw P T=true){ti te:TI}{t:TypeId}(ht:aS T t=some ti){n e:Nat}(hk:ti.k= .arr n e)(gK:aS T e=some te)
  {ps:List (Nat×List SV)} {vs:Array (Nat×Value)} (hm:eW ρ ps vs.toList) {cs:List SV} (hf:jW (jN te.size) ti.zero ps=some cs):
  (Instr.build t vs).run P w= .ok (.agg (SV.ar ρ cs).toArray) w:=by
 obtain⟨rfl,cN⟩:=ay hT ht;obtain⟨rfl,JJ⟩:=ay hT gK;obtain⟨i,hi,_,_,z,hz,hc⟩:=cN.info;obtain⟨ie,PB,T_,_⟩:=JJ.info;have cT:=cN.kind;rw [hk]at cT;have hu:=nS cT;obtain⟨r,hr,UM⟩:=qG (ρ:=ρ) (jN te.size) hm hf (hc ρ).symm;have hb:P.built ti.t vs.toList=some r:=by
  unfold Program.built;simp only [hi,hu,hz,PB,T_];exact hr
 rw [run_build w ti.t vs r hb];congr 2;exact ael (by simpa using UM)
theorem JK(n:Nat)(l:List SV):SV.ar ρ (List.replicate n l).flatten=(List.replicate n (SV.ar ρ l)).flatten:=by
 induction n with
 | zero=>rfl
 | succ n ih=>rw [List.replicate_succ,List.replicate_succ,List.flatten_cons,List.flatten_cons,ib,ih]
theorem tl(z:Array Value)(len:Nat)(_:0<z.size):((Array.range (len*z.size)).map (z[· %z.size]!)).toList=(List.replicate len z.toList).flatten:=by
 rw [Array.toList_map,Array.toList_range]
 induction len with
 | zero=>simp
 | succ n ih=>
  rw [List.replicate_succ',List.flatten_append,←ih,Nat.add_mul,Nat.one_mul,List.range_add,List.map_append];congr 1;rw [List.map_map,List.flatten_singleton];apply List.ext_getElem
  ·simp
  ·intro i h1 h2;have hi:i<z.size:=by simpa using h2
   simp [Nat.add_mod,Nat.mod_eq_of_lt hi,hi]
theorem uG(hT:bw P T=true)(DN:ρ.bv.length=nb){ti te:TI}{t:TypeId}(ht:aS T t=some ti){e:Nat}(hk:ti.k= .slice e)(gK:aS T e=some te){len:Nat}
  (hlen: ¬(len=0∨te.size=0∨1000<len*te.size)) {ps:List (Nat×List SV)} {vs:Array (Nat×Value)} (hm:eW ρ ps vs.toList) {cs:List SV}
  (hf:jW (jN te.size) (List.replicate len te.zero).flatten ps=some cs):
  sV P ρ w hp S nb nv ((do pure (.value (←Instr.buildSlice t len vs)):Sem Next).run P w)
   {val:= .sl nb (.lit 0) te.size (.lit len) (.lit len),gJ:= .new (.row nb true cs)}:=by
 obtain⟨rfl,cN⟩:=ay hT ht;obtain⟨rfl,JJ⟩:=ay hT gK;obtain⟨ie,PB,T_,_,z,hz,hc⟩:=JJ.info;have cT:=cN.kind;rw [hk]at cT;have hu:=bL cT;have pz:z.cells.size=te.size:=by
  rw [←Array.length_toList,←hc ρ,bp,JJ.Aa]
 have Me:((Array.range (len*ie.size)).map (z.cells[· %z.cells.size]!)).toList=SV.ar ρ (List.replicate len te.zero).flatten:=by
  rw [JK,hc ρ,T_,←pz];exact tl _ _ (by omega)
 obtain⟨r,hr,UM⟩:=qG (ρ:=ρ) (jN te.size) hm hf Me;have wH: ¬len*ie.size=0:=by rw [T_];simp only [Nat.mul_eq_zero];omega
 have hb:=run_buildSlice (P:=P) w ti.t te.t len vs r ie z hu PB hz (by rw [T_];omega) wH (by rw [←hr,T_];rfl);obtain⟨h1,h2,h3,h4⟩:=qH w r te.t (SV.ar ρ cs) UM;refine⟨_,_,if_pos rfl,?_,h1,h2,h3,h4⟩;subst DN;simp [hb,SV.val,jM,E.den]
end
end Go.RX
