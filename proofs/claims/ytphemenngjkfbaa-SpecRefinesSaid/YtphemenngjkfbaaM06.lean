/- Executor. -/
import Derived.Test.YtphemenngjkfbaaM05
import Derived.Maps.AppendAt
import Derived.Great.BuildSlice
open Array renaming ext' → aha
open Bool renaming and_eq_true → ai
open Decidable renaming not_not → agN
open Go.IntKind renaming wrap → ae
open Go.Op renaming equalIn → ag1
open Go.Result renaming andThen_ok → agG
open Go.Sem renaming run_bind → agK, run_pure → ag0
open List renaming append_assoc → ahf, map_cons → agW, mem_singleton → agZ, range → ag5
open Option renaming isSome_iff_exists → ahg, map_eq_some_iff → agz
open Option.some renaming injEq → agy
namespace Go.RX
theorem CZ(k:IntKind)(n:Int)(h:IntKind.lo k≤n)(h':n≤IntKind.hi k):k.wrap n=n:=by
 cases k<;>simp only [IntKind.lo,IntKind.hi]at h h'<;>simp [ae,IntKind.bits,IntKind.signed]<;>omega
section
variable {P:Program} {ρ:Env} {w:World}
theorem z5{k:IntKind}{e:E}(cu: ∀b∈(z6 k e).2,b.prop ρ):(z6 k e).1.den ρ 0=k.wrap (e.den ρ 0):=by
 unfold z6 at cu ⊢;split
 ·rfl
 ·split
  ·rename_i hs;simp only [hs,if_true]at cu;have h1:=cu (.le (.lit (IntKind.lo k)) e) (by simp);have h2:=cu (.le e (.lit (IntKind.hi k))) (by simp);simp only [BE.prop,E.den]at h1 h2;exact(CZ k _ h1 h2).symm
  ·rfl
theorem N1(k:IntKind)(e:E):z7 k e=z6 k e∨z7 k e=(.wrap k e,[]):=by
 unfold z7;split
 ·split
  ·exact .inr rfl
  ·exact .inl rfl
 ·exact .inl rfl
theorem LR{k:IntKind}{e:E}(cu: ∀b∈(z7 k e).2,b.prop ρ):(z7 k e).1.den ρ 0=k.wrap (e.den ρ 0):=by
 rcases N1 k e with h | h
 ·rw [h]at cu ⊢;exact z5 cu
 ·rw [h];rfl
theorem lH: ∀{l:List SV} {L:List gR},qU l L=true→fT (SV.ar ρ l) L
 | [],[],_=>trivial
 | [],k::L,h=>by simp [qU]at h
 | x::r,L,h=>by
  unfold qU at h;split at h
  ·rename_i heq;cases heq
  ·rename_i k e r' k' l heq;cases heq;simp only [ai,beq_iff_eq]at h;exact⟨h.1,lH h.2⟩
  ·rename_i b r' l heq;cases heq;exact lH (l:=r) h
  ·rename_i L k n a r' heq;cases heq;simp only [ai,decide_eq_true_eq]at h;obtain⟨⟨h1,h2⟩,h3⟩:=h;have ih:=lH (l:=r) h3;simp only [SV.ar,SV.cells];have key: ∀(m:Nat) (f:Nat→Int) (L:List gR) (xs:List Value),m≤L.length→(L.take m).all (· ==some k)=true→fT xs (L.drop m)→fT (ak k m f++xs) L:=by
    intro m
    induction m with
    | zero=>intro f L xs _ _ hf;simpa [ak] using hf
    | succ m ihm=>
     intro f L xs hle wH hf;cases L with
     | nil=>simp at hle
     | cons c L=>
      simp only [List.take_succ_cons,List.all_cons,ai,beq_iff_eq,List.drop_succ_cons,List.length_cons]at wH hf hle;have hc:=wH.1;subst hc;have:ak k (m+1) f= .int k (f 0)::ak k m (fun j=>f (j+1)):=by
       unfold ak;rw [List.range_succ_eq_map,agW,List.map_map];rfl
      rw [this];exact⟨rfl,ihm _ L xs (by omega) wH.2 hf⟩
   exact key n _ _ _ h1 h2 ih
  ·cases h
theorem RQ(k:IntKind)(n:Nat)(f g:Nat→Int)(a b:List Value):
  tX (ak k n f++a) (ak k n g++b)=((ag5 n).all (fun j=>f j==g j)&&tX a b):=by
 induction n generalizing f g with
 | zero=>simp [ak]
 | succ n ih=>
  have e: ∀h:Nat→Int,ak k (n+1) h= .int k (h 0)::ak k n (fun j=>h (j+1)):=by
   intro h;unfold ak;rw [List.range_succ_eq_map,agW,List.map_map];rfl
  rw [e f,e g,List.cons_append,List.cons_append,tX,ih,List.range_succ_eq_map,List.all_cons,List.all_map,Bool.and_assoc];rfl
theorem lI: ∀{a b:List SV} {c:BE},mE a b=some c→c.den ρ=tX (SV.ar ρ a) (SV.ar ρ b)
 | [],[],c,h=>by simp [mE]at h;subst h;rfl
 | [],y::s,c,h=>by simp [mE]at h
 | x::r,b,c,h=>by
  unfold mE at h;split at h
  ·rename_i heq;exact absurd heq (by simp)
  ·rename_i k e r' k' e' s heq;cases heq;split at h
   ·rename_i hk;subst hk;rw [agz]at h;obtain⟨d,hd,rfl⟩:=h;rw [oX,rU,lI hd];rfl
   ·cases h
  ·rename_i p r' q s heq;cases heq;rw [agz]at h;obtain⟨d,hd,rfl⟩:=h;rw [oX,oY,dG,lI hd];simp only [SV.ar,SV.cells,List.singleton_append,tX];cases p.den ρ<;>cases q.den ρ<;>rfl
  ·rename_i k n e r' k' n' e' s heq;cases heq;split at h
   ·rename_i hk;obtain⟨rfl,rfl⟩:=hk;rw [agz]at h;obtain⟨d,hd,rfl⟩:=h;rw [oX,lI hd];simp only [SV.ar,SV.cells];rw [RQ];congr 1;split
    ·rename_i he;subst he;simp [BE.den]
    ·rfl
   ·cases h
  ·cases h
theorem xQ(k:IntKind)(a:E): ∀(l:List Nat),SV.ar ρ (l.map fun j=>SV.int k (gX a (.lit (j:Nat))))=l.map fun j=>Value.int k (a.den ρ j)
 | []=>rfl
 | x::r=>by simp only [agW,SV.ar,SV.cells,eO,c8,Int.toNat_natCast,List.singleton_append,xQ k a r]
theorem lq: ∀(l:List SV),SV.ar ρ (rW l)=SV.ar ρ l
 | []=>rfl
 | v::r=>by
  unfold rW;split
  ·rename_i h;cases h
  ·rename_i k n a r' h;cases h;rw [iU,xQ,lq r];rfl
  ·rename_i v' r' _ h;cases h;simp only [SV.ar,lq r]
theorem uY{a b:List SV}{c:BE}(h:z_ a b=some c):c.den ρ=tX (SV.ar ρ a) (SV.ar ρ b):=by
 unfold z_ at h;split at h
 ·rename_i c' hc;cases h;exact lI hc
 ·rw [lI h,lq,lq]
theorem yO(op:BinOp)(t:TypeId)(x y:Operand)(k k':IntKind)(a b:Int):(eqGuard op t x y (.int k a) (.int k' b)).run P w= .ok () w:=by
 cases op<;>simp [eqGuard]
theorem o_(op:BinOp)(t:TypeId)(x y:Operand)(a b:Bool):(eqGuard op t x y (.bool a) (.bool b)).run P w= .ok () w:=by
 cases op<;>simp [eqGuard]
def rX:Value→Bool
 | .nilIface=>false
 | .agg _=>false
 | _=>true
theorem dy(op:BinOp)(t:TypeId)(x y:Operand)(a b:Value)(h:rX a=true):(eqGuard op t x y a b).run P w= .ok () w:=by
 cases op<;>cases a<;>simp_all [eqGuard,rX]
theorem fe{b:E}(h: ∀c∈pO b,c.prop ρ):0≤b.den ρ 0:=by
 by_cases hl:yM (.lit 0) b= .lit true
 ·have:(yM (.lit 0) b).den ρ=true:=by rw [hl];rfl
  rw [iy]at this;exact of_decide_eq_true this
 ·have:=h (yM (.lit 0) b) (by unfold pO;simp [hl]);rw [←BE.cq,iy]at this;exact of_decide_eq_true this
theorem RR(k yk:IntKind)(x y:Int)(h:0≤y):(Op.shift .shl k x yk y).run P w= .ok (.int k (k.wrap (x*2^min y.toNat k.bits))) w:=by
 simp [Op.shift,Int.not_lt.2 h]
theorem RT(k yk:IntKind)(x y:Int)(h:0≤y):(Op.shift .shr k x yk y).run P w= .ok (.int k (x.fdiv (2^min y.toNat k.bits))) w:=by
 simp [Op.shift,Int.not_lt.2 h]
theorem Io(ti:TI){o:BinOp}{k k':IntKind}{a b:E}{res:iC}(h:ou ti o (.int k a) (.int k' b)=some res)(cu: ∀b∈res.vcs,b.prop ρ)(t:TypeId):
  (binOp o t (.int k (a.den ρ 0)) (.int k' (b.den ρ 0))).run P w= .ok (res.val.val ρ) w∧res.ij= .none:=by
 cases o<;>simp only [ou]at h
 case shl=>
  simp only [agy]at h;subst h;exact⟨by simp only [binOp];rw [RR _ _ _ _ (fe cu),SV.val,mX];rfl,rfl⟩
 case shr=>
  simp only [agy]at h;subst h;exact⟨by simp only [binOp];rw [RT _ _ _ _ (fe cu),SV.val,mX];rfl,rfl⟩
 all_goals
  split at h
  ·cases h
  ·rename_i hk;simp only [ne_eq,agN]at hk;subst hk
   first
   | (simp at h;done)
   | (
     simp only [agy]at h;subst h;refine⟨?_,rfl⟩
     first
     | (simp only [binOp,ne_eq,not_true_eq_false,if_false,Op.intCmp,ag0,SV.val,rU,dG,uV,iy];first | done | rfl)
     | (simp only [binOp,ne_eq,not_true_eq_false,if_false,Op.intBits,ag0,SV.val,mX];rfl)
     | (simp only [binOp,ne_eq,not_true_eq_false,if_false,Op.intArith,ag0,SV.val,z5 cu,bN,e8,gv])
     | (
      have hnz:=cu (RL b) (by simp);rw [←BE.cq,za]at hnz;have aas:b.den ρ 0≠0:=by simpa using hnz
      simp [binOp,Op.intDiv,aas,SV.val,LN,mX,aF]))
theorem bq{ti:TI}{o:BinOp}{xo yo:Operand}{u v:Value}{r:Result Value}(hg:(eqGuard o ti.t xo yo u v).run P w= .ok () w)(h:(binOp o ti.t u v).run P w=r):
  (do eqGuard o ti.t xo yo u v;binOp o ti.t u v:Sem Value).run P w=r:=by
 simp only [agK,hg,agG,h]
theorem FZ{t:TypeId}(ht:P.underlying t=some .bool)(a b:Bool):(binOp .eql t (.bool a) (.bool b)).run P w= .ok (.bool (a==b)) w:=by
 simp [binOp,Op.equal,Op.maxDepth,run_equalIn_bool' w 9999 t a b ht]
theorem F0{t:TypeId}(ht:P.underlying t=some .bool)(a b:Bool):(binOp .neq t (.bool a) (.bool b)).run P w= .ok (.bool (!(a==b))) w:=by
 simp [binOp,Op.equal,Op.maxDepth,run_equalIn_bool' w 9999 t a b ht]
theorem dO{t:TypeId}{x y:Value}{b:Bool}(hb:binOp .eql t x y=(do pure (.bool (←Op.equal t x y)):Sem Value))(h: ∀d,(ag1 (d+1) t x y).run P w= .ok b w):
  (binOp .eql t x y).run P w= .ok (.bool b) w:=by
 have:(Op.equal t x y).run P w= .ok b w:=h 9999;rw [hb];simp only [agK,this,agG,ag0]
theorem dP{t:TypeId}{x y:Value}{b:Bool}(hb:binOp .neq t x y=(do pure (.bool (!(←Op.equal t x y))):Sem Value))(h: ∀d,(ag1 (d+1) t x y).run P w= .ok b w):
  (binOp .neq t x y).run P w= .ok (.bool (!b)) w:=by
 have:(Op.equal t x y).run P w= .ok b w:=h 9999;rw [hb];simp only [agK,this,agG,ag0]
theorem ff{u:Option TypeDesc}{e:Nat}(h:iA u (.ptr e)=true):u=some (.pointer e):=by
 cases u with
 | none=>simp [iA]at h
 | some d=>cases d<;>simp_all [iA]
theorem bR{u:Option TypeDesc}{e:Nat}(h:iA u (.slice e)=true):u=some (.slice e):=by
 cases u with
 | none=>simp [iA]at h
 | some d=>cases d<;>simp_all [iA]
theorem pc{u:Option TypeDesc}{n e:Nat}(h:iA u (.arr n e)=true):u=some (.array n e):=by
 cases u with
 | none=>simp [iA]at h
 | some d=>cases d<;>simp_all [iA]
theorem jU{u:Option TypeDesc}{k:IntKind}(h:iA u (.int k)=true):u=some (.int k):=by
 cases u with
 | none=>simp [iA]at h
 | some d=>cases d<;>simp_all [iA]
theorem nR{u:Option TypeDesc}{l:List (Nat×Nat)}(h:iA u (.struct l)=true): ∃fs:Array Field,u=some (.struct fs)∧fs.toList.map (fun f=>(f.type,f.offset))=l:=by
 cases u with
 | none=>simp [iA]at h
 | some d=>cases d<;>simp_all [iA]
theorem wI{u:Option TypeDesc}(h:iA u .func=true): ∃a b c,u=some (.func a b c):=by
 cases u with
 | none=>simp [iA]at h
 | some d=>cases d<;>simp_all [iA]
theorem RU{t:TypeId}{e:Nat}(hu:P.underlying t=some (.pointer e))(d:Nat):
  (ag1 (d+1) t (.pointer none) (.pointer none)).run P w= .ok true w:=by
 have xP:=run_underlying hu w;rw [ag1];simp only [agK,xP,agG];rfl
theorem N2{t:TypeId}{e:Nat}{a:Addr}(hu:P.underlying t=some (.pointer e))(d:Nat):
  (ag1 (d+1) t (.pointer none) (.pointer (some a))).run P w= .ok false w:=by
 have xP:=run_underlying hu w;rw [ag1];simp only [agK,xP,agG];rfl
theorem N3{t:TypeId}{e:Nat}{a:Addr}(hu:P.underlying t=some (.pointer e))(d:Nat):
  (ag1 (d+1) t (.pointer (some a)) (.pointer none)).run P w= .ok false w:=by
 have xP:=run_underlying hu w;rw [ag1];simp only [agK,xP,agG];rfl
theorem Xp{t:TypeId}{e n m n' m':Nat}(hu:P.underlying t=some (.slice e))(d:Nat):
  (ag1 (d+1) t (.slice none n m) (.slice none n' m')).run P w= .ok true w:=by
 have xP:=run_underlying hu w;rw [ag1];simp only [agK,xP,agG];rfl
theorem Xq{t:TypeId}{e n m n' m':Nat}{a:Addr}(hu:P.underlying t=some (.slice e))(d:Nat):
  (ag1 (d+1) t (.slice none n m) (.slice (some a) n' m')).run P w= .ok false w:=by
 have xP:=run_underlying hu w;rw [ag1];simp only [agK,xP,agG];rfl
theorem Xr{t:TypeId}{e n m n' m':Nat}{a:Addr}(hu:P.underlying t=some (.slice e))(d:Nat):
  (ag1 (d+1) t (.slice (some a) n m) (.slice none n' m')).run P w= .ok false w:=by
 have xP:=run_underlying hu w;rw [ag1];simp only [agK,xP,agG];rfl
theorem Xs{t:TypeId}{x:Array TypeId}{y:Array TypeId}{z:Bool}(hu:P.underlying t=some (.func x y z))(d:Nat):
  (ag1 (d+1) t .nilFunc .nilFunc).run P w= .ok true w:=by
 have xP:=run_underlying hu w;rw [ag1];simp only [agK,xP,agG];rfl
theorem Xt{t:TypeId}{x:Array TypeId}{y:Array TypeId}{z:Bool}{f:Fn}{a b:Array Value}(hu:P.underlying t=some (.func x y z))(d:Nat):
  (ag1 (d+1) t .nilFunc (.func f a b)).run P w= .ok false w:=by
 have xP:=run_underlying hu w;rw [ag1];simp only [agK,xP,agG];rfl
theorem Xu{t:TypeId}{x:Array TypeId}{y:Array TypeId}{z:Bool}{f:Fn}{a b:Array Value}(hu:P.underlying t=some (.func x y z))(d:Nat):
  (ag1 (d+1) t (.func f a b) .nilFunc).run P w= .ok false w:=by
 have xP:=run_underlying hu w;rw [ag1];simp only [agK,xP,agG];rfl
theorem Xv{t:TypeId}{e:Nat}(hu:P.underlying t=some (.pointer e))(y:Int)(d:Nat):
  (ag1 (d+1) t (.pointer none) (aD y)).run P w= .ok (y==0) w:=by
 unfold aD;split
 ·rename_i h;subst h;exact RU hu d
 ·rename_i h;rw [show(y==(0:Int))=false by simpa using h];exact N2 hu d
theorem Xw{t:TypeId}{e:Nat}(hu:P.underlying t=some (.pointer e))(y:Int)(d:Nat):
  (ag1 (d+1) t (aD y) (.pointer none)).run P w= .ok (y==0) w:=by
 unfold aD;split
 ·rename_i h;subst h;exact RU hu d
 ·rename_i h;rw [show(y==(0:Int))=false by simpa using h];exact N3 hu d
theorem LS(y:Int):rX (aD y)=true:=by unfold aD;split<;>rfl
theorem C4{ti:TI}(c9:lF P ti){x y:SV}{c:BE}(h:ptrEq ti.k x y=some c):
  rX (x.val ρ)=true∧(binOp .eql ti.t (x.val ρ) (y.val ρ)).run P w= .ok (.bool (c.den ρ)) w∧(binOp .neq ti.t (x.val ρ) (y.val ρ)).run P w= .ok (.bool (!c.den ρ)) w:=by
 have hk:=c9.kind;generalize ti.k=kk at h hk;unfold ptrEq at h;split at h
 ·cases h;exact⟨rfl,dO rfl fun d=>RU (ff hk) d,dP rfl fun d=>RU (ff hk) d⟩
 ·cases h;exact⟨rfl,dO rfl fun d=>N2 (ff hk) d,dP rfl fun d=>N2 (ff hk) d⟩
 ·cases h;exact⟨rfl,dO rfl fun d=>N3 (ff hk) d,dP rfl fun d=>N3 (ff hk) d⟩
 ·cases h;exact⟨rfl,dO rfl fun d=>N2 (ff hk) d,dP rfl fun d=>N2 (ff hk) d⟩
 ·cases h;exact⟨rfl,dO rfl fun d=>N3 (ff hk) d,dP rfl fun d=>N3 (ff hk) d⟩
 ·cases h;exact⟨rfl,dO rfl fun d=>by rw [rU];exact Xv (ff hk) _ d,dP rfl fun d=>by rw [rU];exact Xv (ff hk) _ d⟩
 ·cases h;exact⟨LS _,dO (by simp only [SV.val];unfold aD;split<;>rfl) fun d=>by rw [rU];exact Xw (ff hk) _ d,dP (by simp only [SV.val];unfold aD;split<;>rfl) fun d=>by rw [rU];exact Xw (ff hk) _ d⟩
 ·cases h;exact⟨rfl,dO rfl fun d=>Xp (bR hk) d,dP rfl fun d=>Xp (bR hk) d⟩
 ·cases h;exact⟨rfl,dO rfl fun d=>Xq (bR hk) d,dP rfl fun d=>Xq (bR hk) d⟩
 ·cases h;exact⟨rfl,dO rfl fun d=>Xr (bR hk) d,dP rfl fun d=>Xr (bR hk) d⟩
 ·cases h;obtain⟨_,_,_,hu⟩:=wI hk;exact⟨rfl,dO rfl fun d=>Xs hu d,dP rfl fun d=>Xs hu d⟩
 ·cases h;obtain⟨_,_,_,hu⟩:=wI hk;exact⟨rfl,dO rfl fun d=>Xt hu d,dP rfl fun d=>Xt hu d⟩
 ·cases h;obtain⟨_,_,_,hu⟩:=wI hk;exact⟨rfl,dO rfl fun d=>Xu hu d,dP rfl fun d=>Xu hu d⟩
 ·cases h
theorem rY(l:List UInt8):(⟨l.toArray⟩:ByteArray).toList=l:=by rw [ByteArray.toList_eq]
theorem xR(t:TypeId)(a b:List UInt8):(binOp .eql t (.string ⟨a.toArray⟩) (.string ⟨b.toArray⟩)).run P w= .ok (.bool (a==b)) w:=by
 rw [binOp_string_eql,rY,rY];rfl
theorem xS(t:TypeId)(a b:List UInt8):(binOp .neq t (.string ⟨a.toArray⟩) (.string ⟨b.toArray⟩)).run P w= .ok (.bool (!(a==b))) w:=by
 rw [binOp_string_neq,rY,rY];rfl
theorem LU(a b:List UInt8):(⟨a.toArray⟩:ByteArray)++⟨b.toArray⟩=⟨(a++b).toArray⟩:=by
 apply ByteArray.ext;rw [ByteArray.data_append];simp
theorem xT(t:TypeId)(a b:List UInt8)(h:a.length+b.length≤9223372036854775807):(binOp .add t (.string ⟨a.toArray⟩) (.string ⟨b.toArray⟩)).run P w= .ok (.string ⟨(a++b).toArray⟩) w:=by
 rw [binOp_string_add,run_string_add_sum w _ _ (by simpa [ByteArray.size] using h),LU]
theorem Ip{ti:TI}{o:BinOp}{xo yo:Operand}{x y:SV}{res:iC}(h:wJ o x y=some res)(cu: ∀b∈res.vcs,b.prop ρ):
  (do eqGuard o ti.t xo yo (x.val ρ) (y.val ρ);binOp o ti.t (x.val ρ) (y.val ρ):Sem Value).run P w= .ok (res.val.val ρ) w∧res.ij= .none:=by
 unfold wJ at h;split at h
 ·rename_i a b;split at h
  ·split at h
   ·rename_i hl;cases h;exact⟨bq (dy _ _ _ _ _ _ rfl) (xT _ _ _ (by omega)),rfl⟩
   ·cases h
  ·cases h;exact⟨bq (dy _ _ _ _ _ _ rfl) (xR _ _ _),rfl⟩
  ·cases h;exact⟨bq (dy _ _ _ _ _ _ rfl) (xS _ _ _),rfl⟩
  ·cases h
 ·split at h
  ·rename_i a b ha hb;have ea:=tU ρ ha;have eb:=tU ρ hb;rw [ea,eb];split at h
   ·cases h;have n1:0≤(lD a).den ρ 0:=fe (b:=lD a) fun c hc=>cu c (List.mem_append_left _ (List.mem_append_left _ hc))
    have n2:0≤(lD b).den ρ 0:=fe (b:=lD b) fun c hc=>cu c (List.mem_append_left _ (List.mem_append_right _ hc))
    have n3:=cu _ (List.mem_append_right _ (agZ.2 rfl));rw [←BE.cq,iy]at n3;have n3:=of_decide_eq_true n3;rw [bN]at n3;rw [gw]at n1 n2 n3;rw [gw]at n3;simp only [c8]at n3;refine⟨bq (dy _ _ _ _ _ _ rfl) ?_,rfl⟩;rw [xT _ _ _ (by rw [cS,cS];omega),SV.val,NU ρ a b n1 n2]
   ·cases h;refine⟨bq (dy _ _ _ _ _ _ rfl) ?_,rfl⟩;rw [xR,SV.val,FO]
   ·cases h;refine⟨bq (dy _ _ _ _ _ _ rfl) ?_,rfl⟩;rw [xS,SV.val,dG,FO]
   ·cases h
  ·cases h
theorem LV{ti:TI}(c9:lF P ti){o:BinOp}{xo yo:Operand}{x y:SV}{res:iC}(h:ou ti o x y=some res)(cu: ∀b∈res.vcs,b.prop ρ):
  (do eqGuard o ti.t xo yo (x.val ρ) (y.val ρ);binOp o ti.t (x.val ρ) (y.val ρ):Sem Value).run P w= .ok (res.val.val ρ) w∧res.ij= .none:=by
 cases x with
 | int k a=>
  cases y with
  | int k' b=>
   obtain⟨h1,h2⟩:=Io (w:=w) ti h cu ti.t;exact⟨bq (yO _ _ _ _ _ _ _ _) h1,h2⟩
  | _=>simp [ou,ptrEq,wJ,qM]at h
 | bool a=>
  cases y with
  | bool b=>
   simp only [ou]at h;split at h
   ·cases h
   ·rename_i hk;simp only [ne_eq,agN]at hk;have dg:=c9.kind;rw [hk]at dg;have hu:P.underlying ti.t=some .bool:=by
     unfold iA at dg;split at dg<;>simp_all
    split at h
    ·simp only [agy]at h;subst h;refine⟨bq (o_ _ _ _ _ _ _) ?_,rfl⟩;rw [SV.val,SV.val,FZ hu,SV.val,oY,dG];cases a.den ρ<;>cases b.den ρ<;>rfl
    ·simp only [agy]at h;subst h;refine⟨bq (o_ _ _ _ _ _ _) ?_,rfl⟩;rw [SV.val,SV.val,F0 hu,SV.val,dG,oY,dG];cases a.den ρ<;>cases b.den ρ<;>rfl
    ·cases h
  | _=>simp [ou,ptrEq,wJ,qM]at h
 | agg a=>
  cases y with
  | agg b=>
   simp only [ou]at h;split at h
   ·cases h
   ·rename_i hl;simp only [Bool.or_eq_true,Bool.not_eq_true',not_or,Bool.not_eq_true,Bool.not_eq_false]at hl;obtain⟨⟨⟨Kk,RV⟩,Xx⟩,hl3⟩:=hl;rcases c9.lay with he | ⟨aat,Va⟩
    ·rw [RV]at he;cases he
    ·have hE:=nQ (P:=P) 9988 12 ti.t _ aat w _ _ (.agg (SV.ar ρ a).toArray) (.agg (SV.ar ρ b).toArray) (lH (ρ:=ρ) Xx) (lH (ρ:=ρ) hl3);have hV: ∀cs:List Value,Fx P ti.t cs (.agg cs.toArray):=by
      intro cs;have dg:=c9.kind;unfold iA at dg;unfold Fx;split at dg
      all_goals first
       | (rename_i hkd;rw [hkd]at Kk;simp [TK.agg]at Kk;done)
       | (rename_i hu _;rw [hu])
       | cases dg
     have hE':=hE (hV _) (hV _);have hg: ∀o:BinOp,(eqGuard o ti.t xo yo (.agg (SV.ar ρ a).toArray) (.agg (SV.ar ρ b).toArray)).run P w= .ok () w:=fun o=>run_eqGuard_agg w o ti.t xo yo _ _ Va
     split at h
     ·rename_i c hc;simp only [agy]at h;subst h;refine⟨bq (hg _) ?_,rfl⟩;simp only [SV.val];rw [run_eql_struct,hE',agG,uY hc]
     ·rename_i c hc;simp only [agy]at h;subst h;refine⟨bq (hg _) ?_,rfl⟩;simp only [SV.val];rw [run_neq_struct,hE',agG,dG,uY hc]
     ·cases h
  | _=>simp [ou,ptrEq,wJ,qM]at h
 | _=>
  simp only [ou]at h;split at h
  ·exact Ip h cu
  split at h
  ·rename_i c hc;simp only [agy]at h;subst h;obtain⟨h1,h2,_⟩:=C4 (ρ:=ρ) (w:=w) c9 hc;exact⟨bq (dy _ _ _ _ _ _ h1) h2,rfl⟩
  ·rename_i c hc;simp only [agy]at h;subst h;obtain⟨h1,_,h2⟩:=C4 (ρ:=ρ) (w:=w) c9 hc;refine⟨bq (dy _ _ _ _ _ _ h1) ?_,rfl⟩;rw [h2];simp [SV.val,dG]
  ·cases h
end
structure uZ (ρ:Env) (look:Nat→Option SV) (bQ:Operand→Value):Prop where
 tmp: ∀s v,look s=some v→bQ (.tmp s)=v.val ρ
 const: ∀v,bQ (.const v)=v
 func: ∀f,bQ (.func f)= .func (.func f) #[] #[]
section
variable {P:Program} {ρ:Env} {w:World} {look:Nat→Option SV} {bQ:Operand→Value}
theorem fg(h:uZ ρ look bQ){x:Operand}{v:SV}(he:jl look x=some v):bQ x=v.val ρ:=by
 cases x with
 | tmp t=>exact h.tmp t v he
 | const c=>rw [h.const];exact(qO ρ c v he).symm
 | global g=>cases he
 | func f=>
  simp only [jl,agy]at he;subst he;rw [h.func];rfl
theorem lJ(h:uZ ρ look bQ): ∀(xs:List Operand) (vs:List SV),jV (xs.map (jl look))=some vs→xs.map bQ=SV.bQ ρ vs
 | [],vs,he=>by simp [jV]at he;subst he;rfl
 | x::r,vs,he=>by
  simp only [agW]at he;cases hx:jl look x with
  | none=>rw [hx]at he;simp [jV]at he
  | some v=>
   rw [hx]at he;simp only [jV,agz]at he;obtain⟨rs,hrs,rfl⟩:=he;simp only [agW,SV.bQ,fg h hx,lJ h r rs hrs]
inductive fy (ρ:Env):List (Nat×List SV)→List (Nat×Value)→Prop
 | nil:fy ρ [] []
 | cons {i cs v r s}:v.cells.toList=SV.ar ρ cs→fy ρ r s→fy ρ ((i,cs)::r) ((i,v)::s)
theorem pP(h:uZ ρ look bQ)(mY:ρ.Ok): ∀(xs:List (Nat×Operand)) (ps:List (Nat×List SV)),partsOf look xs=some ps→
  fy ρ ps (xs.map fun x=>(x.1,bQ x.2))
 | [],ps,he=>by simp [partsOf]at he;subst he;exact .nil
 | (i,x)::r,ps,he=>by
  unfold partsOf at he;split at he
  ·rename_i v rest hv hr;rw [agz]at he;obtain⟨cs,l6,rfl⟩:=he;refine .cons ?_ (pP h mY r rest hr);rw [fg h hv];exact(iW ρ l6 mY).1
  ·cases he
theorem rZ(place:Nat→Option (Nat×Nat)): ∀{ps:List (Nat×List SV)} {vs:List (Nat×Value)},fy ρ ps vs→
  ∀{cells wG:List SV} {arr:Array Value},lu place cells ps=some wG→arr.toList=SV.ar ρ cells→
  ∃r,Instr.fill place arr vs=some r∧r.toList=SV.ar ρ wG
 | _,_,.nil,cells,wG,arr,h,ha=>by
  simp only [lu,agy]at h;subst h;exact⟨arr,by rw [Instr.fill],ha⟩
 | _,_,.cons (i:=i) (cs:=cs) (v:=v) (r:=r) (s:=s) hv hr,cells,wG,arr,h,ha=>by
  unfold lu at h;split at h
  ·rename_i off size Vb;split at h
   ·rename_i hlen;split at h
    ·rename_i aav qT;obtain⟨hc,hle⟩:=pI ρ qT;have fx:v.cells.size=size:=by
      rw [←Array.length_toList,hv,bw];exact hlen
     have aee:arr.size=(SV.ar ρ cells).length:=by rw [←Array.length_toList,ha]
     have eL:(SV.ar ρ cs).length=size:=by rw [←hv];simpa using fx
     obtain⟨g1,g2⟩:=Great.foldl_set off v.cells.toList 0 arr;unfold Instr.fill;simp only [Vb,fx];rw [if_neg (by simp;omega)];refine rZ place hr h ?_;rw [hc];apply List.ext_getElem?;intro k;rw [Array.getElem?_toList];have e1: ∀(cs0:Array Value),((v.cells.zipIdx).foldl (fun cs (x:Value×Nat)=>cs.setIfInBounds (off+x.2) x.1) cs0)=((v.cells.toList.zipIdx 0).foldl (fun cs (x:Value×Nat)=>cs.setIfInBounds (off+x.2) x.1) cs0):=by
      intro cs0;rw [←Array.foldl_toList,Array.toList_zipIdx]
     have e2:=g2 k;rw [←e1 arr]at e2;refine Eq.trans e2 ?_;simp only [Nat.add_zero,Array.length_toList,fx];rw [ahf,List.getElem?_append,List.getElem?_append,List.length_take,Nat.min_eq_left (by omega),eL,List.getElem?_take,List.getElem?_drop,←ha,←hv];by_cases h1:k<off
     ·rw [if_neg (by omega),if_pos h1,if_pos h1];simp
     ·rw [if_neg h1];by_cases h2:k<off+size
      ·rw [if_pos ⟨by omega,h2,by omega⟩,if_pos (by omega)]
      ·rw [if_neg (by omega),if_neg (by omega)];have:off+size+(k - off - size)=k:=by omega
       rw [this];simp
    ·cases h
   ·cases h
  ·cases h
end
def Iq(ρ:Env)(nb r:Nat):Ck→Option HP
 | .row b true cs=>if b=nb then some (ao r true (SV.ar ρ cs))else none
 | .map b kl ka va z has aA=>if b=nb then some (bK r kl ka va (SV.ar ρ z) (fun i=> !(has.den ρ i==0)) fun i=>(aA.map (cb.cells ρ)).flatMap fun c=>c i)else none
 | .ow b kl ka va z es=>if b=nb then some (bK r kl ka va (SV.ar ρ z) (fun i=>qV es i) fun i=>SV.ar ρ (oz es z i))else none
 | .Kf b t e n a=>if b=nb then some (TN r t e (ak .u8 (n.den ρ 0).toNat (a.den ρ)))else none
 | .NA b l p=>if b=nb then some (TM r l p)else none
 | _=>none
def Did(P:Program)(ρ:Env)(w:World)(hp:List Ck)(S:Nat→Nat→Prop)(nb nv:Nat)(run:Result Next)(res:iC):Prop:=
 match res.ij with
 | .none=>run= .ok (.value (res.val.val ρ)) w
 | .new ck=> ∃w' LW,Iq ρ nb w.heap.size ck=some LW∧run= .ok (.value (res.val.val (ρ.nG w.heap.size))) w'∧gu w w'∧w'.heap.size=w.heap.size+1∧
   (∀k,k<w.heap.size→w'.heap[k]? =w.heap[k]?)∧LW.p w' (fun k=>k=w.heap.size)
 | .set j ck=> ∃w',(run= .ok (.value (res.val.val ρ)) w'∨(res.val= .undef∧run= .ok .skip w'))∧Ki P w ρ hp S j ck w'
 | .app j ck=> ∃t s n aA v w' S',ck= .cy true nv t s n aA∧res.val= .vv nv∧run= .ok (.value v) w'∧v.oneCell'=true∧
   (∃RP,hp[j]? =some RP∧(RP.den ρ).wr=true)∧gu w w'∧(∀k,k<w.heap.size→¬S j k→w'.heap[k]? =w.heap[k]?)∧
   (aC true t s v (n.den ρ 0).toNat (aI ρ (n.den ρ 0).toNat aA)).p w' S'∧∀k,S' k→S j k∨(w.heap.size≤k∧k<w'.heap.size)
 | .own ck=> ∃t s n aA v w' S',ck= .cy true nv t s n aA∧res.val= .vv nv∧run= .ok (.value v) w'∧v.oneCell'=true∧gu w w'∧(∀k,k<w.heap.size→w'.heap[k]? =w.heap[k]?)∧
   (aC true t s v (n.den ρ 0).toNat (aI ρ (n.den ρ 0).toNat aA)).p w' S'∧∀k,S' k→w.heap.size≤k∧k<w'.heap.size
 | .F1 ck=> ∃t s n aA v w' S',ck= .cy false nv t s n aA∧res.val= .vv nv∧run= .ok (.value v) w'∧v.oneCell'=true∧gu w w'∧(∀k,k<w.heap.size→w'.heap[k]? =w.heap[k]?)∧
   (aC false t s v (n.den ρ 0).toNat (aI ρ (n.den ρ 0).toNat aA)).p w' S'∧∀k,S' k→w.heap.size≤k∧k<w'.heap.size
section
variable {P:Program} {ρ:Env} {w:World} {look:Nat→Option SV} {bQ:Operand→Value} {hp:List Ck} {S:Nat→Nat→Prop} {nb nv:Nat} {T:List TI}
theorem kU(ρ:Env)(b:Nat):(ρ.nG b).bv[ρ.bv.length]?.getD 0=b:=by
 simp [Env.nG]
theorem r8(w:World)(cs:Array Value)(e:TypeId)(l:List Value)(hl:cs.toList=l):
  gu w (w.alloc (.cells cs e))∧(w.alloc (.cells cs e)).heap.size=w.heap.size+1∧(∀k,k<w.heap.size→(w.alloc (.cells cs e)).heap[k]? =w.heap[k]?)∧
   (ao w.heap.size true l).p (w.alloc (.cells cs e)) (fun k=>k=w.heap.size):=by
 subst hl;refine⟨⟨rfl,rfl,rfl,by simp⟩,by simp,fun k hk=>heap_alloc_old w _ hk,fun k=>Iff.rfl,e,(0,0),?_,fun _=>rfl⟩;have hn:=heap_alloc_new w (.cells cs e);simpa using hn
theorem F2(hT:bC P T=true)(F3:ρ.bv.length=nb){t:TypeId}{ti:TI}(ht:aW T t=some ti):
  Did P ρ w hp S nb nv ((do pure (.value (←Instr.alloc t true (.tuple #[]))):Sem Next).run P w) {val:= .ptr nb 0,ij:= .new (.row nb true ti.zero)}:=by
 obtain⟨rfl,c9⟩:=ay hT ht;obtain⟨z,hz,hc⟩:=c9.zero w;obtain⟨h1,h2,h3,h4⟩:=r8 w z.cells ti.t (SV.ar ρ ti.zero) (hc ρ).symm;refine⟨_,_,if_pos rfl,?_,h1,h2,h3,h4⟩;subst F3;simp [Instr.alloc,hz,newVar,newRow,SV.val,kU]
theorem LX(hT:bC P T=true)(F3:ρ.bv.length=nb){t:TypeId}{ti:TI}(ht:aW T t=some ti)(e:Nat)(Xy:SV.ar ρ ti.zero=[.pointer none,.slice none 0 0]):
  Did P ρ w hp S nb nv ((do pure (.value (←Instr.alloc t true (.tuple #[]))):Sem Next).run P w) {val:= .ptr nb 0,ij:= .new (.Kf nb t e (.lit 0) (.lit 0))}:=by
 obtain⟨rfl,c9⟩:=ay hT ht;obtain⟨z,hz,hc⟩:=c9.zero w;obtain⟨h1,h2,h3,h4⟩:=r8 w z.cells ti.t (SV.ar ρ ti.zero) (hc ρ).symm;refine⟨_,_,if_pos rfl,?_,h1,h2,h3,?_⟩
 ·subst F3;simp [Instr.alloc,hz,newVar,newRow,SV.val,kU]
 ·have B9:z.cells= #[.pointer none,.slice none 0 0]:=aha (by rw [←hc ρ,Xy]);refine⟨.pointer none,.slice none 0 0,?_,.inl rfl,?_,by simp [Value.ownBlock],fun k=>by simp [Value.ownBlock]⟩
  ·have hn:=heap_alloc_new w (.cells z.cells ti.t);rw [B9]at hn;rw [B9];exact hn
  ·simp only [E.den,Int.toNat_zero,ak,List.range_zero,List.map_nil,List.length_nil];exact World.ownsRow_nil _ 0 e 1
theorem LY(mY:ρ.Ok)(F3:ρ.bv.length=nb){t:TypeId}{v:SV}{cs:List SV}(l6:eR v=some cs):
  Did P ρ w hp S nb nv ((do pure (.value (←Instr.box t (v.val ρ))):Sem Next).run P w) {val:= .ptr nb 0,ij:= .new (.row nb true cs)}:=by
 obtain⟨h1,h2,h3,h4⟩:=r8 w (v.val ρ).cells t (SV.ar ρ cs) (iW ρ l6 mY).1;refine⟨_,_,if_pos rfl,?_,h1,h2,h3,h4⟩;subst F3;simp [Instr.box,newVar,newRow,SV.val,kU]
theorem Aa{ti:TI}(c9:lF P ti){cs x:List SV}{off:Nat}{v:SV}(hx:jS off ti.size cs=some x)(hv:je ti.k.agg x=some v):
  (part ti.t (SV.ar ρ cs).toArray off).run P w= .ok (v.val ρ) w:=by
 obtain⟨h1,h2⟩:=e9 ρ hx;obtain⟨h3,h4⟩:=nO ρ hv;cases ha:ti.k.agg with
 | true=>
  simp only [part,agK,c9.isAgg w,ha,agG,if_true,c9.sizeOf w,ag0,h3 ha,h1];congr 3;apply aha;simp [List.extract_eq_take_drop]
 | false=>
  have h5:=h4 ha;rw [h1]at h5;have h6:(SV.ar ρ cs)[off]? =some (v.val ρ):=by
   have:(((SV.ar ρ cs).drop off).take ti.size)[0]? =some (v.val ρ):=by rw [h5];rfl
   rw [List.getElem?_take,List.getElem?_drop]at this;split at this
   ·simpa using this
   ·cases this
  simp [part,c9.isAgg w,ha,h6]
theorem xU(hT:bC P T=true): ∀(fs:List Field) (l:List (Nat×Nat)),fs.map (fun f=>(f.type,f.offset))=l→qW T l=true→
  ∃places,fs.mapM (fun f=>(P.info? f.type).map fun i=>(f.offset,i.size))=some places∧∀i,places[i]? =hG T l i
 | [],l,h,_=>by
  subst h;exact⟨[],rfl,fun i=>by simp [hG]⟩
 | f::r,l,h,ha=>by
  subst h;simp only [qW,agW,List.all_cons,ai]at ha;obtain⟨p,hp,Vb⟩:=xU hT r _ rfl (by simpa [qW] using ha.2);obtain⟨ti,c9⟩:=ahg.1 ha.1;obtain⟨ht,hi⟩:=ay hT c9;obtain⟨i,h1,h2,_⟩:=hi.info;rw [ht]at h1;refine⟨(f.offset,i.size)::p,?_,fun k=>?_⟩
  ·simp [List.mapM_cons,h1,hp]
  ·cases k with
   | zero=>simp [hG,c9,h2]
   | succ k=>rw [List.getElem?_cons_succ,Vb k];simp [hG]
theorem tY(hT:bC P T=true){ti:TI}{t:TypeId}(ht:aW T t=some ti){fs:List (Nat×Nat)}(hk:ti.k= .struct fs)(wH:qW T fs=true)
  {ps:List (Nat×List SV)} {vs:Array (Nat×Value)} (hm:fy ρ ps vs.toList) {cs:List SV} (hf:lu (hG T fs) ti.zero ps=some cs):
  (Instr.build t vs).run P w= .ok (.agg (SV.ar ρ cs).toArray) w:=by
 obtain⟨rfl,c9⟩:=ay hT ht;obtain⟨i,hi,_,_,z,hz,hc⟩:=c9.info;have dg:=c9.kind;rw [hk]at dg;obtain⟨fa,hu,RW⟩:=nR dg;obtain⟨places,hp,Vb⟩:=xU hT fa.toList fs RW wH;obtain⟨r,hr,Xz⟩:=rZ (ρ:=ρ) (hG T fs) hm hf (hc ρ).symm;have hb:P.built ti.t vs.toList=some r:=by
  unfold Program.built;simp only [hi,hu,hz,hp];rw [←hr];congr 1;funext k;rw [←Vb k];simp
 rw [run_build w ti.t vs r hb];congr 2;exact aha (by simpa using Xz)
theorem yP(hT:bC P T=true){ti te:TI}{t:TypeId}(ht:aW T t=some ti){n e:Nat}(hk:ti.k= .arr n e)(ik:aW T e=some te)
  {ps:List (Nat×List SV)} {vs:Array (Nat×Value)} (hm:fy ρ ps vs.toList) {cs:List SV} (hf:lu (kV te.size) ti.zero ps=some cs):
  (Instr.build t vs).run P w= .ok (.agg (SV.ar ρ cs).toArray) w:=by
 obtain⟨rfl,c9⟩:=ay hT ht;obtain⟨rfl,LZ⟩:=ay hT ik;obtain⟨i,hi,_,_,z,hz,hc⟩:=c9.info;obtain⟨ie,RY,WV,_⟩:=LZ.info;have dg:=c9.kind;rw [hk]at dg;have hu:=pc dg;obtain⟨r,hr,Xz⟩:=rZ (ρ:=ρ) (kV te.size) hm hf (hc ρ).symm;have hb:P.built ti.t vs.toList=some r:=by
  unfold Program.built;simp only [hi,hu,hz,RY,WV];exact hr
 rw [run_build w ti.t vs r hb];congr 2;exact aha (by simpa using Xz)
theorem L0(n:Nat)(l:List SV):SV.ar ρ (List.replicate n l).flatten=(List.replicate n (SV.ar ρ l)).flatten:=by
 induction n with
 | zero=>rfl
 | succ n ih=>rw [List.replicate_succ,List.replicate_succ,List.flatten_cons,List.flatten_cons,iU,ih]
theorem u0(z:Array Value)(len:Nat)(_:0<z.size):((Array.range (len*z.size)).map (z[· %z.size]!)).toList=(List.replicate len z.toList).flatten:=by
 rw [Array.toList_map,Array.toList_range]
 induction len with
 | zero=>simp
 | succ n ih=>
  rw [List.replicate_succ',List.flatten_append,←ih,Nat.add_mul,Nat.one_mul,List.range_add,List.map_append];congr 1;rw [List.map_map,List.flatten_singleton];apply List.ext_getElem
  ·simp
  ·intro i h1 h2;have hi:i<z.size:=by simpa using h2
   simp [Nat.add_mod,Nat.mod_eq_of_lt hi,hi]
theorem wK(hT:bC P T=true)(F3:ρ.bv.length=nb){ti te:TI}{t:TypeId}(ht:aW T t=some ti){e:Nat}(hk:ti.k= .slice e)(ik:aW T e=some te){len:Nat}
  (hlen: ¬(len=0∨te.size=0∨1000<len*te.size)) {ps:List (Nat×List SV)} {vs:Array (Nat×Value)} (hm:fy ρ ps vs.toList) {cs:List SV}
  (hf:lu (kV te.size) (List.replicate len te.zero).flatten ps=some cs):
  Did P ρ w hp S nb nv ((do pure (.value (←Instr.buildSlice t len vs)):Sem Next).run P w)
   {val:= .sl nb (.lit 0) te.size (.lit len) (.lit len),ij:= .new (.row nb true cs)}:=by
 obtain⟨rfl,c9⟩:=ay hT ht;obtain⟨rfl,LZ⟩:=ay hT ik;obtain⟨ie,RY,WV,_,z,hz,hc⟩:=LZ.info;have dg:=c9.kind;rw [hk]at dg;have hu:=bR dg;have qF:z.cells.size=te.size:=by
  rw [←Array.length_toList,←hc ρ,bw,LZ.B6]
 have N4:((Array.range (len*ie.size)).map (z.cells[· %z.cells.size]!)).toList=SV.ar ρ (List.replicate len te.zero).flatten:=by
  rw [L0,hc ρ,WV,←qF];exact u0 _ _ (by omega)
 obtain⟨r,hr,Xz⟩:=rZ (ρ:=ρ) (kV te.size) hm hf N4;have yN: ¬len*ie.size=0:=by rw [WV];simp only [Nat.mul_eq_zero];omega
 have hb:=run_buildSlice (P:=P) w ti.t te.t len vs r ie z hu RY hz (by rw [WV];omega) yN (by rw [←hr,WV];rfl);obtain⟨h1,h2,h3,h4⟩:=r8 w r te.t (SV.ar ρ cs) Xz;refine⟨_,_,if_pos rfl,?_,h1,h2,h3,h4⟩;subst F3;simp [hb,SV.val,kU,E.den]
end
end Go.RX
