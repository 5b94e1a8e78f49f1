/- Executor. -/
import Derived.Test.YtmgbbbmdbpbeeaaGreatM05
import Derived.Maps.AppendAt
import Derived.Great.BuildSlice
open Bool renaming and_eq_true → ai
open Go.IntKind renaming wrap → ae
open Go.Op renaming equalIn → afu
open Go.Result renaming andThen_ok → ae3
open Go.Sem renaming run_bind → afa, run_pure → afs
open Int renaming toNat_natCast → afe
open List renaming map_cons → afj, mem_singleton → afC
open Nat renaming mod_eq_of_lt → afp
open Option renaming map_eq_some_iff → aeY
open Option.some renaming injEq → aeX
namespace Go.RX
theorem tJ(k:IntKind)(n:Int)(h:IntKind.lo k≤n)(h':n≤IntKind.hi k):k.wrap n=n:=by
 cases k<;>simp only [IntKind.lo,IntKind.hi]at h h'<;>simp [ae,IntKind.bits,IntKind.signed]<;>omega
section
variable {P:Program} {ρ:Env} {w:World}
theorem xA{k:IntKind}{e:E}(bY: ∀b∈(xB k e).2,b.prop ρ):(xB k e).1.den ρ 0=k.wrap (e.den ρ 0):=by
 unfold xB at bY ⊢;split
 ·rfl
 ·split
  ·rename_i hs;simp only [hs,if_true]at bY;have h1:=bY (.le (.lit (IntKind.lo k)) e) (by simp);have h2:=bY (.le e (.lit (IntKind.hi k))) (by simp);simp only [BE.prop,E.den]at h1 h2;exact(tJ k _ h1 h2).symm
  ·rfl
theorem Mh(k:IntKind)(e:E):xC k e=xB k e∨xC k e=(.wrap k e,[]):=by
 unfold xC;split
 ·split
  ·exact .inr rfl
  ·exact .inl rfl
 ·exact .inl rfl
theorem JL{k:IntKind}{e:E}(bY: ∀b∈(xC k e).2,b.prop ρ):(xC k e).1.den ρ 0=k.wrap (e.den ρ 0):=by
 rcases Mh k e with h | h
 ·rw [h]at bY ⊢;exact xA bY
 ·rw [h];rfl
theorem jT: ∀{l:List SV} {L:List gb},ph l L=true→fy (SV.aC ρ l) L
 | [],[],_=>trivial
 | [],k::L,h=>by simp [ph]at h
 | x::r,L,h=>by
  unfold ph at h;split at h
  ·rename_i heq;cases heq
  ·rename_i k e r' k' l heq;cases heq;simp only [ai,beq_iff_eq]at h;exact⟨h.1,jT h.2⟩
  ·rename_i b r' l heq;cases heq;exact jT (l:=r) h
  ·rename_i L k n a r' heq;cases heq;simp only [ai,decide_eq_true_eq]at h;obtain⟨⟨h1,h2⟩,h3⟩:=h;have ih:=jT (l:=r) h3;simp only [SV.aC,SV.cells];have key: ∀(m:Nat) (f:Nat→Int) (L:List gb) (xs:List Value),m≤L.length→(L.take m).all (· ==some k)=true→fy xs (L.drop m)→fy (al k m f++xs) L:=by
    intro m
    induction m with
    | zero=>intro f L xs _ _ hf;simpa [al] using hf
    | succ m ihm=>
     intro f L xs hle tK hf;cases L with
     | nil=>simp at hle
     | cons c L=>
      simp only [List.take_succ_cons,List.all_cons,ai,beq_iff_eq,List.drop_succ_cons,List.length_cons]at tK hf hle;have hc:=tK.1;subst hc;have:al k (m+1) f= .int k (f 0)::al k m (fun j=>f (j+1)):=by
       unfold al;rw [List.range_succ_eq_map,afj,List.map_map];rfl
      rw [this];exact⟨rfl,ihm _ L xs (by omega) tK.2 hf⟩
   exact key n _ _ _ h1 h2 ih
  ·cases h
theorem PV(k:IntKind)(n:Nat)(f g:Nat→Int)(a b:List Value):
  rl (al k n f++a) (al k n g++b)=((List.range n).all (fun j=>f j==g j)&&rl a b):=by
 induction n generalizing f g with
 | zero=>simp [al]
 | succ n ih=>
  have e: ∀h:Nat→Int,al k (n+1) h= .int k (h 0)::al k n (fun j=>h (j+1)):=by
   intro h;unfold al;rw [List.range_succ_eq_map,afj,List.map_map];rfl
  rw [e f,e g,List.cons_append,List.cons_append,rl,ih,List.range_succ_eq_map,List.all_cons,List.all_map,Bool.and_assoc];rfl
theorem jU: ∀{a b:List SV} {c:BE},kD a b=some c→c.den ρ=rl (SV.aC ρ a) (SV.aC ρ b)
 | [],[],c,h=>by simp [kD]at h;subst h;rfl
 | [],y::s,c,h=>by simp [kD]at h
 | x::r,b,c,h=>by
  unfold kD at h;split at h
  ·rename_i heq;exact absurd heq (by simp)
  ·rename_i k e r' k' e' s heq;cases heq;split at h
   ·rename_i hk;subst hk;rw [aeY]at h;obtain⟨d,hd,rfl⟩:=h;rw [mW,pX,jU hd];rfl
   ·cases h
  ·rename_i p r' q s heq;cases heq;rw [aeY]at h;obtain⟨d,hd,rfl⟩:=h;rw [mW,mX,df,jU hd];simp only [SV.aC,SV.cells,List.singleton_append,rl];cases p.den ρ<;>cases q.den ρ<;>rfl
  ·rename_i k n e r' k' n' e' s heq;cases heq;split at h
   ·rename_i hk;obtain⟨rfl,rfl⟩:=hk;rw [aeY]at h;obtain⟨d,hd,rfl⟩:=h;rw [mW,jU hd];simp only [SV.aC,SV.cells];rw [PV];congr 1;split
    ·rename_i he;subst he;simp [BE.den]
    ·rfl
   ·cases h
  ·cases h
theorem uP(k:IntKind)(a:E): ∀(l:List Nat),SV.aC ρ (l.map fun j=>SV.int k (gl a (.lit (j:Nat))))=l.map fun j=>Value.int k (a.den ρ j)
 | []=>rfl
 | x::r=>by simp only [afj,SV.aC,SV.cells,ei,cK,afe,List.singleton_append,uP k a r]
theorem jH: ∀(l:List SV),SV.aC ρ (lQ l)=SV.aC ρ l
 | []=>rfl
 | v::r=>by
  unfold lQ;split
  ·rename_i h;cases h
  ·rename_i k n a r' h;cases h;rw [h_,uP,jH r];rfl
  ·rename_i v' r' _ h;cases h;simp only [SV.aC,jH r]
theorem sn{a b:List SV}{c:BE}(h:xD a b=some c):c.den ρ=rl (SV.aC ρ a) (SV.aC ρ b):=by
 unfold xD at h;split at h
 ·rename_i c' hc;cases h;exact jU hc
 ·rw [jU h,jH,jH]
theorem vN(op:BinOp)(t:TypeId)(x y:Operand)(k k':IntKind)(a b:Int):(eqGuard op t x y (.int k a) (.int k' b)).run P w= .ok () w:=by
 cases op<;>simp [eqGuard]
theorem m9(op:BinOp)(t:TypeId)(x y:Operand)(a b:Bool):(eqGuard op t x y (.bool a) (.bool b)).run P w= .ok () w:=by
 cases op<;>simp [eqGuard]
def pZ:Value→Bool
 | .nilIface=>false
 | .agg _=>false
 | _=>true
theorem cZ(op:BinOp)(t:TypeId)(x y:Operand)(a b:Value)(h:pZ a=true):(eqGuard op t x y a b).run P w= .ok () w:=by
 cases op<;>cases a<;>simp_all [eqGuard,pZ]
theorem eN{b:E}(h: ∀c∈nP b,c.prop ρ):0≤b.den ρ 0:=by
 by_cases hl:wq (.lit 0) b= .lit true
 ·have:(wq (.lit 0) b).den ρ=true:=by rw [hl];rfl
  rw [gK]at this;exact of_decide_eq_true this
 ·have:=h (wq (.lit 0) b) (by unfold nP;simp [hl]);rw [←BE.cc,gK]at this;exact of_decide_eq_true this
theorem PW(k yk:IntKind)(x y:Int)(h:0≤y):(Op.shift .shl k x yk y).run P w= .ok (.int k (k.wrap (x*2^min y.toNat k.bits))) w:=by
 simp [Op.shift,Int.not_lt.2 h]
theorem PX(k yk:IntKind)(x y:Int)(h:0≤y):(Op.shift .shr k x yk y).run P w= .ok (.int k (x.fdiv (2^min y.toNat k.bits))) w:=by
 simp [Op.shift,Int.not_lt.2 h]
theorem F6(ti:TI){o:BinOp}{k k':IntKind}{a b:E}{res:hZ}(h:mo ti o (.int k a) (.int k' b)=some res)(bY: ∀b∈res.vcs,b.prop ρ)(t:TypeId):
  (binOp o t (.int k (a.den ρ 0)) (.int k' (b.den ρ 0))).run P w= .ok (res.val.val ρ) w∧res.hO= .none:=by
 cases o<;>simp only [mo]at h
 case shl=>
  simp only [aeX]at h;subst h;exact⟨by simp only [binOp];rw [PW _ _ _ _ (eN bY),SV.val,ld];rfl,rfl⟩
 case shr=>
  simp only [aeX]at h;subst h;exact⟨by simp only [binOp];rw [PX _ _ _ _ (eN bY),SV.val,ld];rfl,rfl⟩
 all_goals
  split at h
  ·cases h
  ·rename_i hk;simp only [ne_eq,Decidable.not_not]at hk;subst hk
   first
   | (simp at h;done)
   | (
     simp only [aeX]at h;subst h;refine⟨?_,rfl⟩
     first
     | (simp only [binOp,ne_eq,not_true_eq_false,if_false,Op.intCmp,afs,SV.val,pX,df,si,gK];first | done | rfl)
     | (simp only [binOp,ne_eq,not_true_eq_false,if_false,Op.intBits,afs,SV.val,ld];rfl)
     | (simp only [binOp,ne_eq,not_true_eq_false,if_false,Op.intArith,afs,SV.val,xA bY,bM,eJ,fN])
     | (
      have hnz:=bY (PN b) (by simp);rw [←BE.cc,wo]at hnz;have Yr:b.den ρ 0≠0:=by simpa using hnz
      simp [binOp,Op.intDiv,Yr,SV.val,JG,ld,ak]))
theorem bw{ti:TI}{o:BinOp}{xo yo:Operand}{u v:Value}{r:Result Value}(hg:(eqGuard o ti.t xo yo u v).run P w= .ok () w)(h:(binOp o ti.t u v).run P w=r):
  (do eqGuard o ti.t xo yo u v;binOp o ti.t u v:Sem Value).run P w=r:=by
 simp only [afa,hg,ae3,h]
theorem DK{t:TypeId}(ht:P.underlying t=some .bool)(a b:Bool):(binOp .eql t (.bool a) (.bool b)).run P w= .ok (.bool (a==b)) w:=by
 simp [binOp,Op.equal,Op.maxDepth,run_equalIn_bool' w 9999 t a b ht]
theorem DL{t:TypeId}(ht:P.underlying t=some .bool)(a b:Bool):(binOp .neq t (.bool a) (.bool b)).run P w= .ok (.bool (!(a==b))) w:=by
 simp [binOp,Op.equal,Op.maxDepth,run_equalIn_bool' w 9999 t a b ht]
theorem du{t:TypeId}{x y:Value}{b:Bool}(hb:binOp .eql t x y=(do pure (.bool (←Op.equal t x y)):Sem Value))(h: ∀d,(afu (d+1) t x y).run P w= .ok b w):
  (binOp .eql t x y).run P w= .ok (.bool b) w:=by
 have:(Op.equal t x y).run P w= .ok b w:=h 9999;rw [hb];simp only [afa,this,ae3,afs]
theorem dv{t:TypeId}{x y:Value}{b:Bool}(hb:binOp .neq t x y=(do pure (.bool (!(←Op.equal t x y))):Sem Value))(h: ∀d,(afu (d+1) t x y).run P w= .ok b w):
  (binOp .neq t x y).run P w= .ok (.bool (!b)) w:=by
 have:(Op.equal t x y).run P w= .ok b w:=h 9999;rw [hb];simp only [afa,this,ae3,afs]
theorem eO{u:Option TypeDesc}{e:Nat}(h:hJ u (.ptr e)=true):u=some (.pointer e):=by
 cases u with
 | none=>simp [hJ]at h
 | some d=>cases d<;>simp_all [hJ]
theorem bO{u:Option TypeDesc}{e:Nat}(h:hJ u (.slice e)=true):u=some (.slice e):=by
 cases u with
 | none=>simp [hJ]at h
 | some d=>cases d<;>simp_all [hJ]
theorem m_{u:Option TypeDesc}{n e:Nat}(h:hJ u (.arr n e)=true):u=some (.array n e):=by
 cases u with
 | none=>simp [hJ]at h
 | some d=>cases d<;>simp_all [hJ]
theorem jV{u:Option TypeDesc}{k:IntKind}(h:hJ u (.int k)=true):u=some (.int k):=by
 cases u with
 | none=>simp [hJ]at h
 | some d=>cases d<;>simp_all [hJ]
theorem lR{u:Option TypeDesc}{l:List (Nat×Nat)}(h:hJ u (.struct l)=true): ∃fs:Array Field,u=some (.struct fs)∧fs.toList.map (fun f=>(f.type,f.offset))=l:=by
 cases u with
 | none=>simp [hJ]at h
 | some d=>cases d<;>simp_all [hJ]
theorem tL{u:Option TypeDesc}(h:hJ u .func=true): ∃a b c,u=some (.func a b c):=by
 cases u with
 | none=>simp [hJ]at h
 | some d=>cases d<;>simp_all [hJ]
theorem PY{t:TypeId}{e:Nat}(hu:P.underlying t=some (.pointer e))(d:Nat):
  (afu (d+1) t (.pointer none) (.pointer none)).run P w= .ok true w:=by
 have uO:=run_underlying hu w;rw [afu];simp only [afa,uO,ae3];rfl
theorem Mi{t:TypeId}{e:Nat}{a:Addr}(hu:P.underlying t=some (.pointer e))(d:Nat):
  (afu (d+1) t (.pointer none) (.pointer (some a))).run P w= .ok false w:=by
 have uO:=run_underlying hu w;rw [afu];simp only [afa,uO,ae3];rfl
theorem Mj{t:TypeId}{e:Nat}{a:Addr}(hu:P.underlying t=some (.pointer e))(d:Nat):
  (afu (d+1) t (.pointer (some a)) (.pointer none)).run P w= .ok false w:=by
 have uO:=run_underlying hu w;rw [afu];simp only [afa,uO,ae3];rfl
theorem Vk{t:TypeId}{e n m n' m':Nat}(hu:P.underlying t=some (.slice e))(d:Nat):
  (afu (d+1) t (.slice none n m) (.slice none n' m')).run P w= .ok true w:=by
 have uO:=run_underlying hu w;rw [afu];simp only [afa,uO,ae3];rfl
theorem Vl{t:TypeId}{e n m n' m':Nat}{a:Addr}(hu:P.underlying t=some (.slice e))(d:Nat):
  (afu (d+1) t (.slice none n m) (.slice (some a) n' m')).run P w= .ok false w:=by
 have uO:=run_underlying hu w;rw [afu];simp only [afa,uO,ae3];rfl
theorem Vm{t:TypeId}{e n m n' m':Nat}{a:Addr}(hu:P.underlying t=some (.slice e))(d:Nat):
  (afu (d+1) t (.slice (some a) n m) (.slice none n' m')).run P w= .ok false w:=by
 have uO:=run_underlying hu w;rw [afu];simp only [afa,uO,ae3];rfl
theorem Vn{t:TypeId}{x:Array TypeId}{y:Array TypeId}{z:Bool}(hu:P.underlying t=some (.func x y z))(d:Nat):
  (afu (d+1) t .nilFunc .nilFunc).run P w= .ok true w:=by
 have uO:=run_underlying hu w;rw [afu];simp only [afa,uO,ae3];rfl
theorem Vo{t:TypeId}{x:Array TypeId}{y:Array TypeId}{z:Bool}{f:Fn}{a b:Array Value}(hu:P.underlying t=some (.func x y z))(d:Nat):
  (afu (d+1) t .nilFunc (.func f a b)).run P w= .ok false w:=by
 have uO:=run_underlying hu w;rw [afu];simp only [afa,uO,ae3];rfl
theorem Vp{t:TypeId}{x:Array TypeId}{y:Array TypeId}{z:Bool}{f:Fn}{a b:Array Value}(hu:P.underlying t=some (.func x y z))(d:Nat):
  (afu (d+1) t (.func f a b) .nilFunc).run P w= .ok false w:=by
 have uO:=run_underlying hu w;rw [afu];simp only [afa,uO,ae3];rfl
theorem Vq{t:TypeId}{e:Nat}(hu:P.underlying t=some (.pointer e))(y:Int)(d:Nat):
  (afu (d+1) t (.pointer none) (mU y)).run P w= .ok (y==0) w:=by
 unfold mU;split
 ·rename_i h;subst h;exact PY hu d
 ·rename_i h;rw [show(y==(0:Int))=false by simpa using h];exact Mi hu d
theorem Vr{t:TypeId}{e:Nat}(hu:P.underlying t=some (.pointer e))(y:Int)(d:Nat):
  (afu (d+1) t (mU y) (.pointer none)).run P w= .ok (y==0) w:=by
 unfold mU;split
 ·rename_i h;subst h;exact PY hu d
 ·rename_i h;rw [show(y==(0:Int))=false by simpa using h];exact Mj hu d
theorem JM(y:Int):pZ (mU y)=true:=by unfold mU;split<;>rfl
theorem Am{ti:TI}(cQ:jS P ti){x y:SV}{c:BE}(h:ptrEq ti.k x y=some c):
  pZ (x.val ρ)=true∧(binOp .eql ti.t (x.val ρ) (y.val ρ)).run P w= .ok (.bool (c.den ρ)) w∧(binOp .neq ti.t (x.val ρ) (y.val ρ)).run P w= .ok (.bool (!c.den ρ)) w:=by
 have hk:=cQ.kind;generalize ti.k=kk at h hk;unfold ptrEq at h;split at h
 ·cases h;exact⟨rfl,du rfl fun d=>PY (eO hk) d,dv rfl fun d=>PY (eO hk) d⟩
 ·cases h;exact⟨rfl,du rfl fun d=>Mi (eO hk) d,dv rfl fun d=>Mi (eO hk) d⟩
 ·cases h;exact⟨rfl,du rfl fun d=>Mj (eO hk) d,dv rfl fun d=>Mj (eO hk) d⟩
 ·cases h;exact⟨rfl,du rfl fun d=>Mi (eO hk) d,dv rfl fun d=>Mi (eO hk) d⟩
 ·cases h;exact⟨rfl,du rfl fun d=>Mj (eO hk) d,dv rfl fun d=>Mj (eO hk) d⟩
 ·cases h;exact⟨rfl,du rfl fun d=>by rw [pX];exact Vq (eO hk) _ d,dv rfl fun d=>by rw [pX];exact Vq (eO hk) _ d⟩
 ·cases h;exact⟨JM _,du (by simp only [SV.val];unfold mU;split<;>rfl) fun d=>by rw [pX];exact Vr (eO hk) _ d,dv (by simp only [SV.val];unfold mU;split<;>rfl) fun d=>by rw [pX];exact Vr (eO hk) _ d⟩
 ·cases h;exact⟨rfl,du rfl fun d=>Vk (bO hk) d,dv rfl fun d=>Vk (bO hk) d⟩
 ·cases h;exact⟨rfl,du rfl fun d=>Vl (bO hk) d,dv rfl fun d=>Vl (bO hk) d⟩
 ·cases h;exact⟨rfl,du rfl fun d=>Vm (bO hk) d,dv rfl fun d=>Vm (bO hk) d⟩
 ·cases h;obtain⟨_,_,_,hu⟩:=tL hk;exact⟨rfl,du rfl fun d=>Vn hu d,dv rfl fun d=>Vn hu d⟩
 ·cases h;obtain⟨_,_,_,hu⟩:=tL hk;exact⟨rfl,du rfl fun d=>Vo hu d,dv rfl fun d=>Vo hu d⟩
 ·cases h;obtain⟨_,_,_,hu⟩:=tL hk;exact⟨rfl,du rfl fun d=>Vp hu d,dv rfl fun d=>Vp hu d⟩
 ·cases h
theorem p5(l:List UInt8):(⟨l.toArray⟩:ByteArray).toList=l:=by rw [ByteArray.toList_eq]
theorem uQ(t:TypeId)(a b:List UInt8):(binOp .eql t (.string ⟨a.toArray⟩) (.string ⟨b.toArray⟩)).run P w= .ok (.bool (a==b)) w:=by
 rw [binOp_string_eql,p5,p5];rfl
theorem uR(t:TypeId)(a b:List UInt8):(binOp .neq t (.string ⟨a.toArray⟩) (.string ⟨b.toArray⟩)).run P w= .ok (.bool (!(a==b))) w:=by
 rw [binOp_string_neq,p5,p5];rfl
theorem JN(a b:List UInt8):(⟨a.toArray⟩:ByteArray)++⟨b.toArray⟩=⟨(a++b).toArray⟩:=by
 apply ByteArray.ext;rw [ByteArray.data_append];simp
theorem uS(t:TypeId)(a b:List UInt8)(h:a.length+b.length≤9223372036854775807):(binOp .add t (.string ⟨a.toArray⟩) (.string ⟨b.toArray⟩)).run P w= .ok (.string ⟨(a++b).toArray⟩) w:=by
 rw [binOp_string_add,run_string_add_sum w _ _ (by simpa [ByteArray.size] using h),JN]
theorem F7{ti:TI}{o:BinOp}{xo yo:Operand}{x y:SV}{res:hZ}(h:tM o x y=some res)(bY: ∀b∈res.vcs,b.prop ρ):
  (do eqGuard o ti.t xo yo (x.val ρ) (y.val ρ);binOp o ti.t (x.val ρ) (y.val ρ):Sem Value).run P w= .ok (res.val.val ρ) w∧res.hO= .none:=by
 unfold tM at h;split at h
 ·rename_i a b;split at h
  ·split at h
   ·rename_i hl;cases h;exact⟨bw (cZ _ _ _ _ _ _ rfl) (uS _ _ _ (by omega)),rfl⟩
   ·cases h
  ·cases h;exact⟨bw (cZ _ _ _ _ _ _ rfl) (uQ _ _ _),rfl⟩
  ·cases h;exact⟨bw (cZ _ _ _ _ _ _ rfl) (uR _ _ _),rfl⟩
  ·cases h
 ·split at h
  ·rename_i a b ha hb;have ea:=rh ρ ha;have eb:=rh ρ hb;rw [ea,eb];split at h
   ·cases h;have n1:0≤(jQ a).den ρ 0:=eN (b:=jQ a) fun c hc=>bY c (List.mem_append_left _ (List.mem_append_left _ hc))
    have n2:0≤(jQ b).den ρ 0:=eN (b:=jQ b) fun c hc=>bY c (List.mem_append_left _ (List.mem_append_right _ hc))
    have n3:=bY _ (List.mem_append_right _ (afC.2 rfl));rw [←BE.cc,gK]at n3;have n3:=of_decide_eq_true n3;rw [bM]at n3;rw [fO]at n1 n2 n3;rw [fO]at n3;simp only [cK]at n3;refine⟨bw (cZ _ _ _ _ _ _ rfl) ?_,rfl⟩;rw [uS _ _ _ (by rw [cG,cG];omega),SV.val,Mb ρ a b n1 n2]
   ·cases h;refine⟨bw (cZ _ _ _ _ _ _ rfl) ?_,rfl⟩;rw [uQ,SV.val,DC]
   ·cases h;refine⟨bw (cZ _ _ _ _ _ _ rfl) ?_,rfl⟩;rw [uR,SV.val,df,DC]
   ·cases h
  ·cases h
theorem JO{ti:TI}(cQ:jS P ti){o:BinOp}{xo yo:Operand}{x y:SV}{res:hZ}(h:mo ti o x y=some res)(bY: ∀b∈res.vcs,b.prop ρ):
  (do eqGuard o ti.t xo yo (x.val ρ) (y.val ρ);binOp o ti.t (x.val ρ) (y.val ρ):Sem Value).run P w= .ok (res.val.val ρ) w∧res.hO= .none:=by
 cases x with
 | int k a=>
  cases y with
  | int k' b=>
   obtain⟨h1,h2⟩:=F6 (w:=w) ti h bY ti.t;exact⟨bw (vN _ _ _ _ _ _ _ _) h1,h2⟩
  | _=>simp [mo,ptrEq,tM,o7]at h
 | bool a=>
  cases y with
  | bool b=>
   simp only [mo]at h;split at h
   ·cases h
   ·rename_i hk;simp only [ne_eq,Decidable.not_not]at hk;have cX:=cQ.kind;rw [hk]at cX;have hu:P.underlying ti.t=some .bool:=by
     unfold hJ at cX;split at cX<;>simp_all
    split at h
    ·simp only [aeX]at h;subst h;refine⟨bw (m9 _ _ _ _ _ _) ?_,rfl⟩;rw [SV.val,SV.val,DK hu,SV.val,mX,df];cases a.den ρ<;>cases b.den ρ<;>rfl
    ·simp only [aeX]at h;subst h;refine⟨bw (m9 _ _ _ _ _ _) ?_,rfl⟩;rw [SV.val,SV.val,DL hu,SV.val,df,mX,df];cases a.den ρ<;>cases b.den ρ<;>rfl
    ·cases h
  | _=>simp [mo,ptrEq,tM,o7]at h
 | agg a=>
  cases y with
  | agg b=>
   simp only [mo]at h;split at h
   ·cases h
   ·rename_i hl;simp only [Bool.or_eq_true,Bool.not_eq_true',not_or,Bool.not_eq_true,Bool.not_eq_false]at hl;obtain⟨⟨⟨HU,XC⟩,hl2⟩,hl3⟩:=hl;rcases cQ.lay with he | ⟨Ys,Td⟩
    ·rw [XC]at he;cases he
    ·have hE:=lP (P:=P) 9988 12 ti.t _ Ys w _ _ (.agg (SV.aC ρ a).toArray) (.agg (SV.aC ρ b).toArray) (jT (ρ:=ρ) hl2) (jT (ρ:=ρ) hl3);have hV: ∀cs:List Value,CM P ti.t cs (.agg cs.toArray):=by
      intro cs;have cX:=cQ.kind;unfold hJ at cX;unfold CM;split at cX
      all_goals first
       | (rename_i hkd;rw [hkd]at HU;simp [TK.agg]at HU;done)
       | (rename_i hu _;rw [hu])
       | cases cX
     have hE':=hE (hV _) (hV _);have hg: ∀o:BinOp,(eqGuard o ti.t xo yo (.agg (SV.aC ρ a).toArray) (.agg (SV.aC ρ b).toArray)).run P w= .ok () w:=fun o=>run_eqGuard_agg w o ti.t xo yo _ _ Td
     split at h
     ·rename_i c hc;simp only [aeX]at h;subst h;refine⟨bw (hg _) ?_,rfl⟩;simp only [SV.val];rw [run_eql_struct,hE',ae3,sn hc]
     ·rename_i c hc;simp only [aeX]at h;subst h;refine⟨bw (hg _) ?_,rfl⟩;simp only [SV.val];rw [run_neq_struct,hE',ae3,df,sn hc]
     ·cases h
  | _=>simp [mo,ptrEq,tM,o7]at h
 | _=>
  simp only [mo]at h;split at h
  ·exact F7 h bY
  split at h
  ·rename_i c hc;simp only [aeX]at h;subst h;obtain⟨h1,h2,_⟩:=Am (ρ:=ρ) (w:=w) cQ hc;exact⟨bw (cZ _ _ _ _ _ _ h1) h2,rfl⟩
  ·rename_i c hc;simp only [aeX]at h;subst h;obtain⟨h1,_,h2⟩:=Am (ρ:=ρ) (w:=w) cQ hc;refine⟨bw (cZ _ _ _ _ _ _ h1) ?_,rfl⟩;rw [h2];simp [SV.val,df]
  ·cases h
end
structure so (ρ:Env) (look:Nat→Option SV) (vals:Operand→Value):Prop where
 tmp: ∀s v,look s=some v→vals (.tmp s)=v.val ρ
 const: ∀v,vals (.const v)=v
 func: ∀f,vals (.func f)= .func (.func f) #[] #[]
section
variable {P:Program} {ρ:Env} {w:World} {look:Nat→Option SV} {vals:Operand→Value}
theorem eP(h:so ρ look vals){x:Operand}{v:SV}(he:iD look x=some v):vals x=v.val ρ:=by
 cases x with
 | tmp t=>exact h.tmp t v he
 | const c=>rw [h.const];exact(o9 ρ c v he).symm
 | global g=>cases he
 | func f=>
  simp only [iD,aeX]at he;subst he;rw [h.func];rfl
theorem jW(h:so ρ look vals): ∀(xs:List Operand) (vs:List SV),jc (xs.map (iD look))=some vs→xs.map vals=SV.vals ρ vs
 | [],vs,he=>by simp [jc]at he;subst he;rfl
 | x::r,vs,he=>by
  simp only [afj]at he;cases hx:iD look x with
  | none=>rw [hx]at he;simp [jc]at he
  | some v=>
   rw [hx]at he;simp only [jc,aeY]at he;obtain⟨rs,nC,rfl⟩:=he;simp only [afj,SV.vals,eP h hx,jW h r rs nC]
inductive ff (ρ:Env):List (Nat×List SV)→List (Nat×Value)→Prop
 | nil:ff ρ [] []
 | cons {i cs v r s}:v.cells.toList=SV.aC ρ cs→ff ρ r s→ff ρ ((i,cs)::r) ((i,v)::s)
theorem nQ(h:so ρ look vals)(j9:ρ.Ok): ∀(xs:List (Nat×Operand)) (ps:List (Nat×List SV)),partsOf look xs=some ps→
  ff ρ ps (xs.map fun x=>(x.1,vals x.2))
 | [],ps,he=>by simp [partsOf]at he;subst he;exact .nil
 | (i,x)::r,ps,he=>by
  unfold partsOf at he;split at he
  ·rename_i v rest hv hr;rw [aeY]at he;obtain⟨cs,mj,rfl⟩:=he;refine .cons ?_ (nQ h j9 r rest hr);rw [eP h hv];exact(ib ρ mj j9).1
  ·cases he
theorem p6(place:Nat→Option (Nat×Nat)): ∀{ps:List (Nat×List SV)} {vs:List (Nat×Value)},ff ρ ps vs→
  ∀{cells uM:List SV} {arr:Array Value},jI place cells ps=some uM→arr.toList=SV.aC ρ cells→
  ∃r,Instr.fill place arr vs=some r∧r.toList=SV.aC ρ uM
 | _,_,.nil,cells,uM,arr,h,ha=>by
  simp only [jI,aeX]at h;subst h;exact⟨arr,by rw [Instr.fill],ha⟩
 | _,_,.cons (i:=i) (cs:=cs) (v:=v) (r:=r) (s:=s) hv hr,cells,uM,arr,h,ha=>by
  unfold jI at h;split at h
  ·rename_i off size CN;split at h
   ·rename_i hlen;split at h
    ·rename_i Yt pg;obtain⟨hc,hle⟩:=nM ρ pg;have fx:v.cells.size=size:=by
      rw [←Array.length_toList,hv,bB];exact hlen
     have aci:arr.size=(SV.aC ρ cells).length:=by rw [←Array.length_toList,ha]
     have dH:(SV.aC ρ cs).length=size:=by rw [←hv];simpa using fx
     obtain⟨g1,g2⟩:=Great.foldl_set off v.cells.toList 0 arr;unfold Instr.fill;simp only [CN,fx];rw [if_neg (by simp;omega)];refine p6 place hr h ?_;rw [hc];apply List.ext_getElem?;intro k;rw [Array.getElem?_toList];have e1: ∀(Lc:Array Value),((v.cells.zipIdx).foldl (fun cs (x:Value×Nat)=>cs.setIfInBounds (off+x.2) x.1) Lc)=((v.cells.toList.zipIdx 0).foldl (fun cs (x:Value×Nat)=>cs.setIfInBounds (off+x.2) x.1) Lc):=by
      intro Lc;rw [←Array.foldl_toList,Array.toList_zipIdx]
     have e2:=g2 k;rw [←e1 arr]at e2;refine Eq.trans e2 ?_;simp only [Nat.add_zero,Array.length_toList,fx];rw [List.append_assoc,List.getElem?_append,List.getElem?_append,List.length_take,Nat.min_eq_left (by omega),dH,List.getElem?_take,List.getElem?_drop,←ha,←hv];by_cases h1:k<off
     ·rw [if_neg (by omega),if_pos h1,if_pos h1];simp
     ·rw [if_neg h1];by_cases h2:k<off+size
      ·rw [if_pos ⟨by omega,h2,by omega⟩,if_pos (by omega)]
      ·rw [if_neg (by omega),if_neg (by omega)];have:off+size+(k - off - size)=k:=by omega
       rw [this];simp
    ·cases h
   ·cases h
  ·cases h
end
def F8(ρ:Env)(nb r:Nat):Ck→Option HP
 | .row b true cs=>if b=nb then some (ax r true (SV.aC ρ cs))else none
 | .map b kl ka va z has aF=>if b=nb then some (uI r kl ka va (SV.aC ρ z) (fun i=> !(has.den ρ i==0)) fun i=>(aF.map (bV.cells ρ)).flatMap fun c=>c i)else none
 | .sq b kl ka va z es=>if b=nb then some (uI r kl ka va (SV.aC ρ z) (fun i=>pj es i) fun i=>SV.aC ρ (mr es z i))else none
 | .HR b t e n a=>if b=nb then some (RJ r t e (al .u8 (n.den ρ 0).toNat (a.den ρ)))else none
 | .RQ b l p=>if b=nb then some (RI r l p)else none
 | _=>none
def Did(P:Program)(ρ:Env)(w:World)(hp:List Ck)(S:Nat→Nat→Prop)(nb nv:Nat)(run:Result Next)(res:hZ):Prop:=
 match res.hO with
 | .none=>run= .ok (.value (res.val.val ρ)) w
 | .new ck=> ∃w' UE,F8 ρ nb w.heap.size ck=some UE∧run= .ok (.value (res.val.val (ρ.lI w.heap.size))) w'∧fV w w'∧w'.heap.size=w.heap.size+1∧
   (∀k,k<w.heap.size→w'.heap[k]? =w.heap[k]?)∧UE.p w' (fun k=>k=w.heap.size)
 | .set j ck=> ∃w',(run= .ok (.value (res.val.val ρ)) w'∨(res.val= .undef∧run= .ok .skip w'))∧HT P w ρ hp S j ck w'
 | .app j ck=> ∃t s n aF v w' S',ck= .bC true nv t s n aF∧res.val= .vv nv∧run= .ok (.value v) w'∧v.oneCell'=true∧
   (∃PS,hp[j]? =some PS∧(PS.den ρ).wr=true)∧fV w w'∧(∀k,k<w.heap.size→¬S j k→w'.heap[k]? =w.heap[k]?)∧
   (aE true t s v (n.den ρ 0).toNat (aM ρ (n.den ρ 0).toNat aF)).p w' S'∧∀k,S' k→S j k∨(w.heap.size≤k∧k<w'.heap.size)
 | .own ck=> ∃t s n aF v w' S',ck= .bC true nv t s n aF∧res.val= .vv nv∧run= .ok (.value v) w'∧v.oneCell'=true∧fV w w'∧(∀k,k<w.heap.size→w'.heap[k]? =w.heap[k]?)∧
   (aE true t s v (n.den ρ 0).toNat (aM ρ (n.den ρ 0).toNat aF)).p w' S'∧∀k,S' k→w.heap.size≤k∧k<w'.heap.size
 | .DM ck=> ∃t s n aF v w' S',ck= .bC false nv t s n aF∧res.val= .vv nv∧run= .ok (.value v) w'∧v.oneCell'=true∧fV w w'∧(∀k,k<w.heap.size→w'.heap[k]? =w.heap[k]?)∧
   (aE false t s v (n.den ρ 0).toNat (aM ρ (n.den ρ 0).toNat aF)).p w' S'∧∀k,S' k→w.heap.size≤k∧k<w'.heap.size
section
variable {P:Program} {ρ:Env} {w:World} {look:Nat→Option SV} {vals:Operand→Value} {hp:List Ck} {S:Nat→Nat→Prop} {nb nv:Nat} {T:List TI}
theorem kP(ρ:Env)(b:Nat):(ρ.lI b).bv[ρ.bv.length]?.getD 0=b:=by
 simp [Env.lI]
theorem p7(w:World)(cs:Array Value)(e:TypeId)(l:List Value)(hl:cs.toList=l):
  fV w (w.alloc (.cells cs e))∧(w.alloc (.cells cs e)).heap.size=w.heap.size+1∧(∀k,k<w.heap.size→(w.alloc (.cells cs e)).heap[k]? =w.heap[k]?)∧
   (ax w.heap.size true l).p (w.alloc (.cells cs e)) (fun k=>k=w.heap.size):=by
 subst hl;refine⟨⟨rfl,rfl,rfl,by simp⟩,by simp,fun k hk=>heap_alloc_old w _ hk,fun k=>Iff.rfl,e,(0,0),?_,fun _=>rfl⟩;have hn:=heap_alloc_new w (.cells cs e);simpa using hn
theorem DN(hT:bG P T=true)(FA:ρ.bv.length=nb){t:TypeId}{ti:TI}(ht:a_ T t=some ti):
  Did P ρ w hp S nb nv ((do pure (.value (←Instr.alloc t true (.tuple #[]))):Sem Next).run P w) {val:= .ptr nb 0,hO:= .new (.row nb true ti.zero)}:=by
 obtain⟨rfl,cQ⟩:=aH hT ht;obtain⟨z,hz,hc⟩:=cQ.zero w;obtain⟨h1,h2,h3,h4⟩:=p7 w z.cells ti.t (SV.aC ρ ti.zero) (hc ρ).symm;refine⟨_,_,if_pos rfl,?_,h1,h2,h3,h4⟩;subst FA;simp [Instr.alloc,hz,newVar,newRow,SV.val,kP]
theorem JP(hT:bG P T=true)(FA:ρ.bv.length=nb){t:TypeId}{ti:TI}(ht:a_ T t=some ti)(e:Nat)(Vs:SV.aC ρ ti.zero=[.pointer none,.slice none 0 0]):
  Did P ρ w hp S nb nv ((do pure (.value (←Instr.alloc t true (.tuple #[]))):Sem Next).run P w) {val:= .ptr nb 0,hO:= .new (.HR nb t e (.lit 0) (.lit 0))}:=by
 obtain⟨rfl,cQ⟩:=aH hT ht;obtain⟨z,hz,hc⟩:=cQ.zero w;obtain⟨h1,h2,h3,h4⟩:=p7 w z.cells ti.t (SV.aC ρ ti.zero) (hc ρ).symm;refine⟨_,_,if_pos rfl,?_,h1,h2,h3,?_⟩
 ·subst FA;simp [Instr.alloc,hz,newVar,newRow,SV.val,kP]
 ·have zi:z.cells= #[.pointer none,.slice none 0 0]:=Array.ext' (by rw [←hc ρ,Vs]);refine⟨.pointer none,.slice none 0 0,?_,.inl rfl,?_,by simp [Value.ownBlock],fun k=>by simp [Value.ownBlock]⟩
  ·have hn:=heap_alloc_new w (.cells z.cells ti.t);rw [zi]at hn;rw [zi];exact hn
  ·simp only [E.den,Int.toNat_zero,al,List.range_zero,List.map_nil,List.length_nil];exact World.ownsRow_nil _ 0 e 1
theorem JQ(j9:ρ.Ok)(FA:ρ.bv.length=nb){t:TypeId}{v:SV}{cs:List SV}(mj:ez v=some cs):
  Did P ρ w hp S nb nv ((do pure (.value (←Instr.box t (v.val ρ))):Sem Next).run P w) {val:= .ptr nb 0,hO:= .new (.row nb true cs)}:=by
 obtain⟨h1,h2,h3,h4⟩:=p7 w (v.val ρ).cells t (SV.aC ρ cs) (ib ρ mj j9).1;refine⟨_,_,if_pos rfl,?_,h1,h2,h3,h4⟩;subst FA;simp [Instr.box,newVar,newRow,SV.val,kP]
theorem xE{ti:TI}(cQ:jS P ti){cs x:List SV}{off:Nat}{v:SV}(hx:i_ off ti.size cs=some x)(hv:iz ti.k.agg x=some v):
  (part ti.t (SV.aC ρ cs).toArray off).run P w= .ok (v.val ρ) w:=by
 obtain⟨h1,h2⟩:=eK ρ hx;obtain⟨h3,h4⟩:=lN ρ hv;cases ha:ti.k.agg with
 | true=>
  simp only [part,afa,cQ.isAgg w,ha,ae3,if_true,cQ.sizeOf w,afs,h3 ha,h1];congr 3;apply Array.ext';simp [List.extract_eq_take_drop]
 | false=>
  have h5:=h4 ha;rw [h1]at h5;have h6:(SV.aC ρ cs)[off]? =some (v.val ρ):=by
   have:(((SV.aC ρ cs).drop off).take ti.size)[0]? =some (v.val ρ):=by rw [h5];rfl
   rw [List.getElem?_take,List.getElem?_drop]at this;split at this
   ·simpa using this
   ·cases this
  simp [part,cQ.isAgg w,ha,h6]
theorem uT(hT:bG P T=true): ∀(fs:List Field) (l:List (Nat×Nat)),fs.map (fun f=>(f.type,f.offset))=l→pk T l=true→
  ∃places,fs.mapM (fun f=>(P.info? f.type).map fun i=>(f.offset,i.size))=some places∧∀i,places[i]? =gx T l i
 | [],l,h,_=>by
  subst h;exact⟨[],rfl,fun i=>by simp [gx]⟩
 | f::r,l,h,ha=>by
  subst h;simp only [pk,afj,List.all_cons,ai]at ha;obtain⟨p,hp,CN⟩:=uT hT r _ rfl (by simpa [pk] using ha.2);obtain⟨ti,cQ⟩:=Option.isSome_iff_exists.1 ha.1;obtain⟨ht,hi⟩:=aH hT cQ;obtain⟨i,h1,h2,_⟩:=hi.info;rw [ht]at h1;refine⟨(f.offset,i.size)::p,?_,fun k=>?_⟩
  ·simp [List.mapM_cons,h1,hp]
  ·cases k with
   | zero=>simp [gx,cQ,h2]
   | succ k=>rw [List.getElem?_cons_succ,CN k];simp [gx]
theorem rm(hT:bG P T=true){ti:TI}{t:TypeId}(ht:a_ T t=some ti){fs:List (Nat×Nat)}(hk:ti.k= .struct fs)(tK:pk T fs=true)
  {ps:List (Nat×List SV)} {vs:Array (Nat×Value)} (hm:ff ρ ps vs.toList) {cs:List SV} (hf:jI (gx T fs) ti.zero ps=some cs):
  (Instr.build t vs).run P w= .ok (.agg (SV.aC ρ cs).toArray) w:=by
 obtain⟨rfl,cQ⟩:=aH hT ht;obtain⟨i,hi,_,_,z,hz,hc⟩:=cQ.info;have cX:=cQ.kind;rw [hk]at cX;obtain⟨fa,hu,PZ⟩:=lR cX;obtain⟨places,hp,CN⟩:=uT hT fa.toList fs PZ tK;obtain⟨r,hr,Te⟩:=p6 (ρ:=ρ) (gx T fs) hm hf (hc ρ).symm;have hb:P.built ti.t vs.toList=some r:=by
  unfold Program.built;simp only [hi,hu,hz,hp];rw [←hr];congr 1;funext k;rw [←CN k];simp
 rw [run_build w ti.t vs r hb];congr 2;exact Array.ext' (by simpa using Te)
theorem vO(hT:bG P T=true){ti te:TI}{t:TypeId}(ht:a_ T t=some ti){n e:Nat}(hk:ti.k= .arr n e)(gX:a_ T e=some te)
  {ps:List (Nat×List SV)} {vs:Array (Nat×Value)} (hm:ff ρ ps vs.toList) {cs:List SV} (hf:jI (jx te.size) ti.zero ps=some cs):
  (Instr.build t vs).run P w= .ok (.agg (SV.aC ρ cs).toArray) w:=by
 obtain⟨rfl,cQ⟩:=aH hT ht;obtain⟨rfl,JR⟩:=aH hT gX;obtain⟨i,hi,_,_,z,hz,hc⟩:=cQ.info;obtain⟨ie,DO,UF,_⟩:=JR.info;have cX:=cQ.kind;rw [hk]at cX;have hu:=m_ cX;obtain⟨r,hr,Te⟩:=p6 (ρ:=ρ) (jx te.size) hm hf (hc ρ).symm;have hb:P.built ti.t vs.toList=some r:=by
  unfold Program.built;simp only [hi,hu,hz,DO,UF];exact hr
 rw [run_build w ti.t vs r hb];congr 2;exact Array.ext' (by simpa using Te)
theorem JS(n:Nat)(l:List SV):SV.aC ρ (List.replicate n l).flatten=(List.replicate n (SV.aC ρ l)).flatten:=by
 induction n with
 | zero=>rfl
 | succ n ih=>rw [List.replicate_succ,List.replicate_succ,List.flatten_cons,List.flatten_cons,h_,ih]
theorem sr(z:Array Value)(len:Nat)(_:0<z.size):((Array.range (len*z.size)).map (z[· %z.size]!)).toList=(List.replicate len z.toList).flatten:=by
 rw [Array.toList_map,Array.toList_range]
 induction len with
 | zero=>simp
 | succ n ih=>
  rw [List.replicate_succ',List.flatten_append,←ih,Nat.add_mul,Nat.one_mul,List.range_add,List.map_append];congr 1;rw [List.map_map,List.flatten_singleton];apply List.ext_getElem
  ·simp
  ·intro i h1 h2;have hi:i<z.size:=by simpa using h2
   simp [Nat.add_mod,afp hi,hi]
theorem tN(hT:bG P T=true)(FA:ρ.bv.length=nb){ti te:TI}{t:TypeId}(ht:a_ T t=some ti){e:Nat}(hk:ti.k= .slice e)(gX:a_ T e=some te){len:Nat}
  (hlen: ¬(len=0∨te.size=0∨1000<len*te.size)) {ps:List (Nat×List SV)} {vs:Array (Nat×Value)} (hm:ff ρ ps vs.toList) {cs:List SV}
  (hf:jI (jx te.size) (List.replicate len te.zero).flatten ps=some cs):
  Did P ρ w hp S nb nv ((do pure (.value (←Instr.buildSlice t len vs)):Sem Next).run P w)
   {val:= .sl nb (.lit 0) te.size (.lit len) (.lit len),hO:= .new (.row nb true cs)}:=by
 obtain⟨rfl,cQ⟩:=aH hT ht;obtain⟨rfl,JR⟩:=aH hT gX;obtain⟨ie,DO,UF,_,z,hz,hc⟩:=JR.info;have cX:=cQ.kind;rw [hk]at cX;have hu:=bO cX;have oM:z.cells.size=te.size:=by
  rw [←Array.length_toList,←hc ρ,bB,JR.ze]
 have Mk:((Array.range (len*ie.size)).map (z.cells[· %z.cells.size]!)).toList=SV.aC ρ (List.replicate len te.zero).flatten:=by
  rw [JS,hc ρ,UF,←oM];exact sr _ _ (by omega)
 obtain⟨r,hr,Te⟩:=p6 (ρ:=ρ) (jx te.size) hm hf Mk;have qx: ¬len*ie.size=0:=by rw [UF];simp only [Nat.mul_eq_zero];omega
 have hb:=run_buildSlice (P:=P) w ti.t te.t len vs r ie z hu DO hz (by rw [UF];omega) qx (by rw [←hr,UF];rfl);obtain⟨h1,h2,h3,h4⟩:=p7 w r te.t (SV.aC ρ cs) Te;refine⟨_,_,if_pos rfl,?_,h1,h2,h3,h4⟩;subst FA;simp [hb,SV.val,kP,E.den]
end
end Go.RX
