/- Executor. -/
import Derived.Test.YtllcdnkfbeokhaaGreatM05
import Derived.Maps.AppendAt
import Derived.Great.BuildSlice
open Array renaming ext' → aqU, getElem?_toList → aqS
open Bool renaming and_eq_true → ai
open Go.IntKind renaming wrap → ae
open Go.Op renaming equalIn → aqR
open Go.Result renaming andThen_ok → aqu
open Go.Sem renaming run_bind → aqA, run_pure → aqH
open Int renaming toNat_natCast → aqD
open List renaming map_cons → aqP, mem_singleton → aqx
open Option renaming map_eq_some_iff → aqq
open Option.some renaming injEq → aqp
namespace Go.RX
theorem vd(k:IntKind)(n:Int)(h:IntKind.lo k≤n)(h':n≤IntKind.hi k):k.wrap n=n:=by
 cases k<;>simp only [IntKind.lo,IntKind.hi]at h h'<;>simp [ae,IntKind.bits,IntKind.signed]<;>omega
section
variable {P:Program} {ρ:Env} {w:World}
theorem yF{k:IntKind}{e:E}(bY: ∀b∈(yG k e).2,b.prop ρ):(yG k e).1.den ρ 0=k.wrap (e.den ρ 0):=by
 unfold yG at bY ⊢;split
 ·rfl
 ·split
  ·rename_i hs;simp only [hs,if_true]at bY;have h1:=bY (.le (.lit (IntKind.lo k)) e) (by simp);have h2:=bY (.le e (.lit (IntKind.hi k))) (by simp);simp only [BE.prop,E.den]at h1 h2;exact(vd k _ h1 h2).symm
  ·rfl
theorem MB(k:IntKind)(e:E):yH k e=yG k e∨yH k e=(.wrap k e,[]):=by
 unfold yH;split
 ·split
  ·exact .inr rfl
  ·exact .inl rfl
 ·exact .inl rfl
theorem JH{k:IntKind}{e:E}(bY: ∀b∈(yH k e).2,b.prop ρ):(yH k e).1.den ρ 0=k.wrap (e.den ρ 0):=by
 rcases MB k e with h | h
 ·rw [h]at bY ⊢;exact yF bY
 ·rw [h];rfl
theorem k_: ∀{l:List SV} {L:List iB},qv l L=true→gy (SV.ao ρ l) L
 | [],[],_=>trivial
 | [],k::L,h=>by simp [qv]at h
 | x::r,L,h=>by
  unfold qv at h;split at h
  ·rename_i heq;cases heq
  ·rename_i k e r' k' l heq;cases heq;simp only [ai,beq_iff_eq]at h;exact⟨h.1,k_ h.2⟩
  ·rename_i b r' l heq;cases heq;exact k_ (l:=r) h
  ·rename_i L k n a r' heq;cases heq;simp only [ai,decide_eq_true_eq]at h;obtain⟨⟨h1,h2⟩,h3⟩:=h;have ih:=k_ (l:=r) h3;simp only [SV.ao,SV.cells];have key: ∀(m:Nat) (f:Nat→Int) (L:List iB) (xs:List Value),m≤L.length→(L.take m).all (· ==some k)=true→gy xs (L.drop m)→gy (aj k m f++xs) L:=by
    intro m
    induction m with
    | zero=>intro f L xs _ _ hf;simpa [aj] using hf
    | succ m ihm=>
     intro f L xs hle oH hf;cases L with
     | nil=>simp at hle
     | cons c L=>
      simp only [List.take_succ_cons,List.all_cons,ai,beq_iff_eq,List.drop_succ_cons,List.length_cons]at oH hf hle;have hc:=oH.1;subst hc;have:aj k (m+1) f= .int k (f 0)::aj k m (fun j=>f (j+1)):=by
       unfold aj;rw [List.range_succ_eq_map,aqP,List.map_map];rfl
      rw [this];exact⟨rfl,ihm _ L xs (by omega) oH.2 hf⟩
   exact key n _ _ _ h1 h2 ih
  ·cases h
theorem Q5(k:IntKind)(n:Nat)(f g:Nat→Int)(a b:List Value):
  sI (aj k n f++a) (aj k n g++b)=((List.range n).all (fun j=>f j==g j)&&sI a b):=by
 induction n generalizing f g with
 | zero=>simp [aj]
 | succ n ih=>
  have e: ∀h:Nat→Int,aj k (n+1) h= .int k (h 0)::aj k n (fun j=>h (j+1)):=by
   intro h;unfold aj;rw [List.range_succ_eq_map,aqP,List.map_map];rfl
  rw [e f,e g,List.cons_append,List.cons_append,sI,ih,List.range_succ_eq_map,List.all_cons,List.all_map,Bool.and_assoc];rfl
theorem lg: ∀{a b:List SV} {c:BE},lT a b=some c→c.den ρ=sI (SV.ao ρ a) (SV.ao ρ b)
 | [],[],c,h=>by simp [lT]at h;subst h;rfl
 | [],y::s,c,h=>by simp [lT]at h
 | x::r,b,c,h=>by
  unfold lT at h;split at h
  ·rename_i heq;exact absurd heq (by simp)
  ·rename_i k e r' k' e' s heq;cases heq;split at h
   ·rename_i hk;subst hk;rw [aqq]at h;obtain⟨d,hd,rfl⟩:=h;rw [oA,nm,lg hd];rfl
   ·cases h
  ·rename_i p r' q s heq;cases heq;rw [aqq]at h;obtain⟨d,hd,rfl⟩:=h;rw [oA,oB,dE,lg hd];simp only [SV.ao,SV.cells,List.singleton_append,sI];cases p.den ρ<;>cases q.den ρ<;>rfl
  ·rename_i k n e r' k' n' e' s heq;cases heq;split at h
   ·rename_i hk;obtain⟨rfl,rfl⟩:=hk;rw [aqq]at h;obtain⟨d,hd,rfl⟩:=h;rw [oA,lg hd];simp only [SV.ao,SV.cells];rw [Q5];congr 1;split
    ·rename_i he;subst he;simp [BE.den]
    ·rfl
   ·cases h
  ·cases h
theorem wE(k:IntKind)(a:E): ∀(l:List Nat),SV.ao ρ (l.map fun j=>SV.int k (eu a (.lit (j:Nat))))=l.map fun j=>Value.int k (a.den ρ j)
 | []=>rfl
 | x::r=>by simp only [aqP,SV.ao,SV.cells,cJ,cR,aqD,List.singleton_append,wE k a r]
theorem fO: ∀(l:List SV),SV.ao ρ (gK l)=SV.ao ρ l
 | []=>rfl
 | v::r=>by
  unfold gK;split
  ·rename_i h;cases h
  ·rename_i k n a r' h;cases h;rw [hY,wE,fO r];rfl
  ·rename_i v' r' _ h;cases h;simp only [SV.ao,fO r]
theorem tK{a b:List SV}{c:BE}(h:yI a b=some c):c.den ρ=sI (SV.ao ρ a) (SV.ao ρ b):=by
 unfold yI at h;split at h
 ·rename_i c' hc;cases h;exact lg hc
 ·rw [lg h,fO,fO]
theorem xr(op:BinOp)(t:TypeId)(x y:Operand)(k k':IntKind)(a b:Int):(eqGuard op t x y (.int k a) (.int k' b)).run P w= .ok () w:=by
 cases op<;>simp [eqGuard]
theorem oI(op:BinOp)(t:TypeId)(x y:Operand)(a b:Bool):(eqGuard op t x y (.bool a) (.bool b)).run P w= .ok () w:=by
 cases op<;>simp [eqGuard]
def rh:Value→Bool
 | .nilIface=>false
 | .agg _=>false
 | _=>true
theorem cF(op:BinOp)(t:TypeId)(x y:Operand)(a b:Value)(h:rh a=true):(eqGuard op t x y a b).run P w= .ok () w:=by
 cases op<;>cases a<;>simp_all [eqGuard,rh]
theorem fD{b:E}(h: ∀c∈o6 b,c.prop ρ):0≤b.den ρ 0:=by
 by_cases hl:wz (.lit 0) b= .lit true
 ·have:(wz (.lit 0) b).den ρ=true:=by rw [hl];rfl
  rw [iA]at this;exact of_decide_eq_true this
 ·have:=h (wz (.lit 0) b) (by unfold o6;simp [hl]);rw [←BE.bK,iA]at this;exact of_decide_eq_true this
theorem Q6(k yk:IntKind)(x y:Int)(h:0≤y):(Op.shift .shl k x yk y).run P w= .ok (.int k (k.wrap (x*2^min y.toNat k.bits))) w:=by
 simp [Op.shift,Int.not_lt.2 h]
theorem Q7(k yk:IntKind)(x y:Int)(h:0≤y):(Op.shift .shr k x yk y).run P w= .ok (.int k (x.fdiv (2^min y.toNat k.bits))) w:=by
 simp [Op.shift,Int.not_lt.2 h]
theorem Gm(ti:TI){o:BinOp}{k k':IntKind}{a b:E}{res:gY}(h:nS ti o (.int k a) (.int k' b)=some res)(bY: ∀b∈res.vcs,b.prop ρ)(t:TypeId):
  (binOp o t (.int k (a.den ρ 0)) (.int k' (b.den ρ 0))).run P w= .ok (res.val.val ρ) w∧res.gZ= .none:=by
 cases o<;>simp only [nS]at h
 case shl=>
  simp only [aqp]at h;subst h;exact⟨by simp only [binOp];rw [Q6 _ _ _ _ (fD bY),SV.val,kY];rfl,rfl⟩
 case shr=>
  simp only [aqp]at h;subst h;exact⟨by simp only [binOp];rw [Q7 _ _ _ _ (fD bY),SV.val,kY];rfl,rfl⟩
 all_goals
  split at h
  ·cases h
  ·rename_i hk;simp only [ne_eq,Decidable.not_not]at hk;subst hk
   first
   | (simp at h;done)
   | (
     simp only [aqp]at h;subst h;refine⟨?_,rfl⟩
     first
     | (simp only [binOp,ne_eq,not_true_eq_false,if_false,Op.intCmp,aqH,SV.val,nm,dE,tF,iA];first | done | rfl)
     | (simp only [binOp,ne_eq,not_true_eq_false,if_false,Op.intBits,aqH,SV.val,kY];rfl)
     | (simp only [binOp,ne_eq,not_true_eq_false,if_false,Op.intArith,aqH,SV.val,yF bY,bB,eZ,gW])
     | (
      have hnz:=bY (Q0 b) (by simp);rw [←BE.bK,xM]at hnz;have adr:b.den ρ 0≠0:=by simpa using hnz
      simp [binOp,Op.intDiv,adr,SV.val,JA,kY,ar]))
theorem aR{ti:TI}{o:BinOp}{xo yo:Operand}{u v:Value}{r:Result Value}(hg:(eqGuard o ti.t xo yo u v).run P w= .ok () w)(h:(binOp o ti.t u v).run P w=r):
  (do eqGuard o ti.t xo yo u v;binOp o ti.t u v:Sem Value).run P w=r:=by
 simp only [aqA,hg,aqu,h]
theorem DK{t:TypeId}(ht:P.underlying t=some .bool)(a b:Bool):(binOp .eql t (.bool a) (.bool b)).run P w= .ok (.bool (a==b)) w:=by
 simp [binOp,Op.equal,Op.maxDepth,run_equalIn_bool' w 9999 t a b ht]
theorem DL{t:TypeId}(ht:P.underlying t=some .bool)(a b:Bool):(binOp .neq t (.bool a) (.bool b)).run P w= .ok (.bool (!(a==b))) w:=by
 simp [binOp,Op.equal,Op.maxDepth,run_equalIn_bool' w 9999 t a b ht]
theorem dj{t:TypeId}{x y:Value}{b:Bool}(hb:binOp .eql t x y=(do pure (.bool (←Op.equal t x y)):Sem Value))(h: ∀d,(aqR (d+1) t x y).run P w= .ok b w):
  (binOp .eql t x y).run P w= .ok (.bool b) w:=by
 have:(Op.equal t x y).run P w= .ok b w:=h 9999;rw [hb];simp only [aqA,this,aqu,aqH]
theorem dp{t:TypeId}{x y:Value}{b:Bool}(hb:binOp .neq t x y=(do pure (.bool (!(←Op.equal t x y))):Sem Value))(h: ∀d,(aqR (d+1) t x y).run P w= .ok b w):
  (binOp .neq t x y).run P w= .ok (.bool (!b)) w:=by
 have:(Op.equal t x y).run P w= .ok b w:=h 9999;rw [hb];simp only [aqA,this,aqu,aqH]
theorem e9{u:Option TypeDesc}{e:Nat}(h:iV u (.ptr e)=true):u=some (.pointer e):=by
 cases u with
 | none=>simp [iV]at h
 | some d=>cases d<;>simp_all [iV]
theorem bH{u:Option TypeDesc}{e:Nat}(h:iV u (.slice e)=true):u=some (.slice e):=by
 cases u with
 | none=>simp [iV]at h
 | some d=>cases d<;>simp_all [iV]
theorem oJ{u:Option TypeDesc}{n e:Nat}(h:iV u (.arr n e)=true):u=some (.array n e):=by
 cases u with
 | none=>simp [iV]at h
 | some d=>cases d<;>simp_all [iV]
theorem j7{u:Option TypeDesc}{k:IntKind}(h:iV u (.int k)=true):u=some (.int k):=by
 cases u with
 | none=>simp [iV]at h
 | some d=>cases d<;>simp_all [iV]
theorem nr{u:Option TypeDesc}{l:List (Nat×Nat)}(h:iV u (.struct l)=true): ∃fs:Array Field,u=some (.struct fs)∧fs.toList.map (fun f=>(f.type,f.offset))=l:=by
 cases u with
 | none=>simp [iV]at h
 | some d=>cases d<;>simp_all [iV]
theorem ri{u:Option TypeDesc}(h:iV u .func=true): ∃a b c,u=some (.func a b c):=by
 cases u with
 | none=>simp [iV]at h
 | some d=>cases d<;>simp_all [iV]
theorem Q8{t:TypeId}{e:Nat}(hu:P.underlying t=some (.pointer e))(d:Nat):
  (aqR (d+1) t (.pointer none) (.pointer none)).run P w= .ok true w:=by
 have wD:=run_underlying hu w;rw [aqR];simp only [aqA,wD,aqu];rfl
theorem MC{t:TypeId}{e:Nat}{a:Addr}(hu:P.underlying t=some (.pointer e))(d:Nat):
  (aqR (d+1) t (.pointer none) (.pointer (some a))).run P w= .ok false w:=by
 have wD:=run_underlying hu w;rw [aqR];simp only [aqA,wD,aqu];rfl
theorem MD{t:TypeId}{e:Nat}{a:Addr}(hu:P.underlying t=some (.pointer e))(d:Nat):
  (aqR (d+1) t (.pointer (some a)) (.pointer none)).run P w= .ok false w:=by
 have wD:=run_underlying hu w;rw [aqR];simp only [aqA,wD,aqu];rfl
theorem YW{t:TypeId}{e n m n' m':Nat}(hu:P.underlying t=some (.slice e))(d:Nat):
  (aqR (d+1) t (.slice none n m) (.slice none n' m')).run P w= .ok true w:=by
 have wD:=run_underlying hu w;rw [aqR];simp only [aqA,wD,aqu];rfl
theorem YX{t:TypeId}{e n m n' m':Nat}{a:Addr}(hu:P.underlying t=some (.slice e))(d:Nat):
  (aqR (d+1) t (.slice none n m) (.slice (some a) n' m')).run P w= .ok false w:=by
 have wD:=run_underlying hu w;rw [aqR];simp only [aqA,wD,aqu];rfl
theorem YY{t:TypeId}{e n m n' m':Nat}{a:Addr}(hu:P.underlying t=some (.slice e))(d:Nat):
  (aqR (d+1) t (.slice (some a) n m) (.slice none n' m')).run P w= .ok false w:=by
 have wD:=run_underlying hu w;rw [aqR];simp only [aqA,wD,aqu];rfl
theorem YZ{t:TypeId}{x:Array TypeId}{y:Array TypeId}{z:Bool}(hu:P.underlying t=some (.func x y z))(d:Nat):
  (aqR (d+1) t .nilFunc .nilFunc).run P w= .ok true w:=by
 have wD:=run_underlying hu w;rw [aqR];simp only [aqA,wD,aqu];rfl
theorem Y0{t:TypeId}{x:Array TypeId}{y:Array TypeId}{z:Bool}{f:Fn}{a b:Array Value}(hu:P.underlying t=some (.func x y z))(d:Nat):
  (aqR (d+1) t .nilFunc (.func f a b)).run P w= .ok false w:=by
 have wD:=run_underlying hu w;rw [aqR];simp only [aqA,wD,aqu];rfl
theorem Q9{t:TypeId}{x:Array TypeId}{y:Array TypeId}{z:Bool}{f:Fn}{a b:Array Value}(hu:P.underlying t=some (.func x y z))(d:Nat):
  (aqR (d+1) t (.func f a b) .nilFunc).run P w= .ok false w:=by
 have wD:=run_underlying hu w;rw [aqR];simp only [aqA,wD,aqu];rfl
theorem Y1{t:TypeId}{e:Nat}(hu:P.underlying t=some (.pointer e))(y:Int)(d:Nat):
  (aqR (d+1) t (.pointer none) (cA y)).run P w= .ok (y==0) w:=by
 unfold cA;split
 ·rename_i h;subst h;exact Q8 hu d
 ·rename_i h;rw [show(y==(0:Int))=false by simpa using h];exact MC hu d
theorem Y2{t:TypeId}{e:Nat}(hu:P.underlying t=some (.pointer e))(y:Int)(d:Nat):
  (aqR (d+1) t (cA y) (.pointer none)).run P w= .ok (y==0) w:=by
 unfold cA;split
 ·rename_i h;subst h;exact Q8 hu d
 ·rename_i h;rw [show(y==(0:Int))=false by simpa using h];exact MD hu d
theorem JI(y:Int):rh (cA y)=true:=by unfold cA;split<;>rfl
theorem Bc{ti:TI}(cO:kz P ti){x y:SV}{c:BE}(h:ptrEq ti.k x y=some c):
  rh (x.val ρ)=true∧(binOp .eql ti.t (x.val ρ) (y.val ρ)).run P w= .ok (.bool (c.den ρ)) w∧(binOp .neq ti.t (x.val ρ) (y.val ρ)).run P w= .ok (.bool (!c.den ρ)) w:=by
 have hk:=cO.kind;generalize ti.k=kk at h hk;unfold ptrEq at h;split at h
 ·cases h;exact⟨rfl,dj rfl fun d=>Q8 (e9 hk) d,dp rfl fun d=>Q8 (e9 hk) d⟩
 ·cases h;exact⟨rfl,dj rfl fun d=>MC (e9 hk) d,dp rfl fun d=>MC (e9 hk) d⟩
 ·cases h;exact⟨rfl,dj rfl fun d=>MD (e9 hk) d,dp rfl fun d=>MD (e9 hk) d⟩
 ·cases h;exact⟨rfl,dj rfl fun d=>MC (e9 hk) d,dp rfl fun d=>MC (e9 hk) d⟩
 ·cases h;exact⟨rfl,dj rfl fun d=>MD (e9 hk) d,dp rfl fun d=>MD (e9 hk) d⟩
 ·cases h;exact⟨rfl,dj rfl fun d=>by rw [nm];exact Y1 (e9 hk) _ d,dp rfl fun d=>by rw [nm];exact Y1 (e9 hk) _ d⟩
 ·cases h;exact⟨JI _,dj (by simp only [SV.val];unfold cA;split<;>rfl) fun d=>by rw [nm];exact Y2 (e9 hk) _ d,dp (by simp only [SV.val];unfold cA;split<;>rfl) fun d=>by rw [nm];exact Y2 (e9 hk) _ d⟩
 ·cases h;exact⟨rfl,dj rfl fun d=>YW (bH hk) d,dp rfl fun d=>YW (bH hk) d⟩
 ·cases h;exact⟨rfl,dj rfl fun d=>YX (bH hk) d,dp rfl fun d=>YX (bH hk) d⟩
 ·cases h;exact⟨rfl,dj rfl fun d=>YY (bH hk) d,dp rfl fun d=>YY (bH hk) d⟩
 ·cases h;obtain⟨_,_,_,hu⟩:=ri hk;exact⟨rfl,dj rfl fun d=>YZ hu d,dp rfl fun d=>YZ hu d⟩
 ·cases h;obtain⟨_,_,_,hu⟩:=ri hk;exact⟨rfl,dj rfl fun d=>Y0 hu d,dp rfl fun d=>Y0 hu d⟩
 ·cases h;obtain⟨_,_,_,hu⟩:=ri hk;exact⟨rfl,dj rfl fun d=>Q9 hu d,dp rfl fun d=>Q9 hu d⟩
 ·cases h;obtain⟨_,_,_,hu⟩:=ri hk;exact⟨rfl,dj rfl fun d=>Q9 hu d,dp rfl fun d=>Q9 hu d⟩
 ·cases h
theorem rj(l:List UInt8):(⟨l.toArray⟩:ByteArray).toList=l:=by rw [ByteArray.toList_eq]
theorem wF(t:TypeId)(a b:List UInt8):(binOp .eql t (.string ⟨a.toArray⟩) (.string ⟨b.toArray⟩)).run P w= .ok (.bool (a==b)) w:=by
 rw [binOp_string_eql,rj,rj];rfl
theorem wG(t:TypeId)(a b:List UInt8):(binOp .neq t (.string ⟨a.toArray⟩) (.string ⟨b.toArray⟩)).run P w= .ok (.bool (!(a==b))) w:=by
 rw [binOp_string_neq,rj,rj];rfl
theorem JJ(a b:List UInt8):(⟨a.toArray⟩:ByteArray)++⟨b.toArray⟩=⟨(a++b).toArray⟩:=by
 apply ByteArray.ext;rw [ByteArray.data_append];simp
theorem wH(t:TypeId)(a b:List UInt8)(h:a.length+b.length≤9223372036854775807):(binOp .add t (.string ⟨a.toArray⟩) (.string ⟨b.toArray⟩)).run P w= .ok (.string ⟨(a++b).toArray⟩) w:=by
 rw [binOp_string_add,run_string_add_sum w _ _ (by simpa [ByteArray.size] using h),JJ]
theorem Gn{ti:TI}{o:BinOp}{xo yo:Operand}{x y:SV}{res:gY}(h:vf o x y=some res)(bY: ∀b∈res.vcs,b.prop ρ):
  (do eqGuard o ti.t xo yo (x.val ρ) (y.val ρ);binOp o ti.t (x.val ρ) (y.val ρ):Sem Value).run P w= .ok (res.val.val ρ) w∧res.gZ= .none:=by
 unfold vf at h;split at h
 ·rename_i a b;split at h
  ·split at h
   ·rename_i hl;cases h;exact⟨aR (cF _ _ _ _ _ _ rfl) (wH _ _ _ (by omega)),rfl⟩
   ·cases h
  ·cases h;exact⟨aR (cF _ _ _ _ _ _ rfl) (wF _ _ _),rfl⟩
  ·cases h;exact⟨aR (cF _ _ _ _ _ _ rfl) (wG _ _ _),rfl⟩
  ·cases h
 ·split at h
  ·rename_i a b ha hb;have ea:=sD ρ ha;have eb:=sD ρ hb;rw [ea,eb];split at h
   ·cases h;have n1:0≤(kX a).den ρ 0:=fD (b:=kX a) fun c hc=>bY c (List.mem_append_left _ (List.mem_append_left _ hc))
    have n2:0≤(kX b).den ρ 0:=fD (b:=kX b) fun c hc=>bY c (List.mem_append_left _ (List.mem_append_right _ hc))
    have n3:=bY _ (List.mem_append_right _ (aqx.2 rfl));rw [←BE.bK,iA]at n3;have n3:=of_decide_eq_true n3;rw [bB]at n3;rw [gX]at n1 n2 n3;rw [gX]at n3;simp only [cR]at n3;refine⟨aR (cF _ _ _ _ _ _ rfl) ?_,rfl⟩;rw [wH _ _ _ (by rw [cS,cS];omega),SV.val,Ms ρ a b n1 n2]
   ·cases h;refine⟨aR (cF _ _ _ _ _ _ rfl) ?_,rfl⟩;rw [wF,SV.val,DB]
   ·cases h;refine⟨aR (cF _ _ _ _ _ _ rfl) ?_,rfl⟩;rw [wG,SV.val,dE,DB]
   ·cases h
  ·cases h
theorem JK{ti:TI}(cO:kz P ti){o:BinOp}{xo yo:Operand}{x y:SV}{res:gY}(h:nS ti o x y=some res)(bY: ∀b∈res.vcs,b.prop ρ):
  (do eqGuard o ti.t xo yo (x.val ρ) (y.val ρ);binOp o ti.t (x.val ρ) (y.val ρ):Sem Value).run P w= .ok (res.val.val ρ) w∧res.gZ= .none:=by
 cases x with
 | int k a=>
  cases y with
  | int k' b=>
   obtain⟨h1,h2⟩:=Gm (w:=w) ti h bY ti.t;exact⟨aR (xr _ _ _ _ _ _ _ _) h1,h2⟩
  | _=>simp [nS,ptrEq,vf,qm]at h
 | bool a=>
  cases y with
  | bool b=>
   simp only [nS]at h;split at h
   ·cases h
   ·rename_i hk;simp only [ne_eq,Decidable.not_not]at hk;have df:=cO.kind;rw [hk]at df;have hu:P.underlying ti.t=some .bool:=by
     unfold iV at df;split at df<;>simp_all
    split at h
    ·simp only [aqp]at h;subst h;refine⟨aR (oI _ _ _ _ _ _) ?_,rfl⟩;rw [SV.val,SV.val,DK hu,SV.val,oB,dE];cases a.den ρ<;>cases b.den ρ<;>rfl
    ·simp only [aqp]at h;subst h;refine⟨aR (oI _ _ _ _ _ _) ?_,rfl⟩;rw [SV.val,SV.val,DL hu,SV.val,dE,oB,dE];cases a.den ρ<;>cases b.den ρ<;>rfl
    ·cases h
  | _=>simp [nS,ptrEq,vf,qm]at h
 | agg a=>
  cases y with
  | agg b=>
   simp only [nS]at h;split at h
   ·cases h
   ·rename_i hl;simp only [Bool.or_eq_true,Bool.not_eq_true',not_or,Bool.not_eq_true,Bool.not_eq_false]at hl;obtain⟨⟨⟨An,LG⟩,Qo⟩,UR⟩:=hl;rcases cO.lay with he | ⟨ads,US⟩
    ·rw [LG]at he;cases he
    ·have hE:=nq (P:=P) 9988 12 ti.t _ ads w _ _ (.agg (SV.ao ρ a).toArray) (.agg (SV.ao ρ b).toArray) (k_ (ρ:=ρ) Qo) (k_ (ρ:=ρ) UR);have hV: ∀cs:List Value,Dd P ti.t cs (.agg cs.toArray):=by
      intro cs;have df:=cO.kind;unfold iV at df;unfold Dd;split at df
      all_goals first
       | (rename_i hkd;rw [hkd]at An;simp [TK.agg]at An;done)
       | (rename_i hu _;rw [hu])
       | cases df
     have hE':=hE (hV _) (hV _);have hg: ∀o:BinOp,(eqGuard o ti.t xo yo (.agg (SV.ao ρ a).toArray) (.agg (SV.ao ρ b).toArray)).run P w= .ok () w:=fun o=>run_eqGuard_agg w o ti.t xo yo _ _ US
     split at h
     ·rename_i c hc;simp only [aqp]at h;subst h;refine⟨aR (hg _) ?_,rfl⟩;simp only [SV.val];rw [run_eql_struct,hE',aqu,tK hc]
     ·rename_i c hc;simp only [aqp]at h;subst h;refine⟨aR (hg _) ?_,rfl⟩;simp only [SV.val];rw [run_neq_struct,hE',aqu,dE,tK hc]
     ·cases h
  | _=>simp [nS,ptrEq,vf,qm]at h
 | _=>
  simp only [nS]at h;split at h
  ·exact Gn h bY
  split at h
  ·rename_i c hc;simp only [aqp]at h;subst h;obtain⟨h1,h2,_⟩:=Bc (ρ:=ρ) (w:=w) cO hc;exact⟨aR (cF _ _ _ _ _ _ h1) h2,rfl⟩
  ·rename_i c hc;simp only [aqp]at h;subst h;obtain⟨h1,_,h2⟩:=Bc (ρ:=ρ) (w:=w) cO hc;refine⟨aR (cF _ _ _ _ _ _ h1) ?_,rfl⟩;rw [h2];simp [SV.val,dE]
  ·cases h
end
structure tL (ρ:Env) (look:Nat→Option SV) (bD:Operand→Value):Prop where
 tmp: ∀s v,look s=some v→bD (.tmp s)=v.val ρ
 const: ∀v,bD (.const v)=v
 func: ∀f,bD (.func f)= .func (.func f) #[] #[]
section
variable {P:Program} {ρ:Env} {w:World} {look:Nat→Option SV} {bD:Operand→Value}
theorem ep(h:tL ρ look bD){x:Operand}{v:SV}(he:jA look x=some v):bD x=v.val ρ:=by
 cases x with
 | tmp t=>exact h.tmp t v he
 | const c=>rw [h.const];exact(qn ρ c v he).symm
 | global g=>cases he
 | func f=>
  simp only [jA,aqp]at he;subst he;rw [h.func];rfl
theorem gD(h:tL ρ look bD): ∀(xs:List Operand) (vs:List SV),jB (xs.map (jA look))=some vs→xs.map bD=SV.bD ρ vs
 | [],vs,he=>by simp [jB]at he;subst he;rfl
 | x::r,vs,he=>by
  simp only [aqP]at he;cases hx:jA look x with
  | none=>rw [hx]at he;simp [jB]at he
  | some v=>
   rw [hx]at he;simp only [jB,aqq]at he;obtain⟨rs,hrs,rfl⟩:=he;simp only [aqP,SV.bD,ep h hx,gD h r rs hrs]
inductive fP (ρ:Env):List (Nat×List SV)→List (Nat×Value)→Prop
 | nil:fP ρ [] []
 | cons {i cs v r s}:v.cells.toList=SV.ao ρ cs→fP ρ r s→fP ρ ((i,cs)::r) ((i,v)::s)
theorem o7(h:tL ρ look bD)(jf:ρ.Ok): ∀(xs:List (Nat×Operand)) (ps:List (Nat×List SV)),partsOf look xs=some ps→
  fP ρ ps (xs.map fun x=>(x.1,bD x.2))
 | [],ps,he=>by simp [partsOf]at he;subst he;exact .nil
 | (i,x)::r,ps,he=>by
  unfold partsOf at he;split at he
  ·rename_i v rest hv hr;rw [aqq]at he;obtain⟨cs,mC,rfl⟩:=he;refine .cons ?_ (o7 h jf r rest hr);rw [ep h hv];exact(jr ρ mC jf).1
  ·cases he
theorem rl(place:Nat→Option (Nat×Nat)): ∀{ps:List (Nat×List SV)} {vs:List (Nat×Value)},fP ρ ps vs→
  ∀{cells tI:List SV} {arr:Array Value},kV place cells ps=some tI→arr.toList=SV.ao ρ cells→
  ∃r,Instr.fill place arr vs=some r∧r.toList=SV.ao ρ tI
 | _,_,.nil,cells,tI,arr,h,ha=>by
  simp only [kV,aqp]at h;subst h;exact⟨arr,by rw [Instr.fill],ha⟩
 | _,_,.cons (i:=i) (cs:=cs) (v:=v) (r:=r) (s:=s) hv hr,cells,tI,arr,h,ha=>by
  unfold kV at h;split at h
  ·rename_i off size Q_;split at h
   ·rename_i hlen;split at h
    ·rename_i adu nR;obtain⟨hc,hle⟩:=lS ρ nR;have fy:v.cells.size=size:=by
      rw [←Array.length_toList,hv,bh];exact hlen
     have ako:arr.size=(SV.ao ρ cells).length:=by rw [←Array.length_toList,ha]
     have eG:(SV.ao ρ cs).length=size:=by rw [←hv];simpa using fy
     obtain⟨g1,g2⟩:=Great.foldl_set off v.cells.toList 0 arr;unfold Instr.fill;simp only [Q_,fy];rw [if_neg (by simp;omega)];refine rl place hr h ?_;rw [hc];apply List.ext_getElem?;intro k;rw [aqS];have e1: ∀(cs0:Array Value),((v.cells.zipIdx).foldl (fun cs (x:Value×Nat)=>cs.setIfInBounds (off+x.2) x.1) cs0)=((v.cells.toList.zipIdx 0).foldl (fun cs (x:Value×Nat)=>cs.setIfInBounds (off+x.2) x.1) cs0):=by
      intro cs0;rw [←Array.foldl_toList,Array.toList_zipIdx]
     have e2:=g2 k;rw [←e1 arr]at e2;refine Eq.trans e2 ?_;simp only [Nat.add_zero,Array.length_toList,fy];rw [List.append_assoc,List.getElem?_append,List.getElem?_append,List.length_take,Nat.min_eq_left (by omega),eG,List.getElem?_take,List.getElem?_drop,←ha,←hv];by_cases h1:k<off
     ·rw [if_neg (by omega),if_pos h1,if_pos h1];simp
     ·rw [if_neg h1];by_cases h2:k<off+size
      ·rw [if_pos ⟨by omega,h2,by omega⟩,if_pos (by omega)]
      ·rw [if_neg (by omega),if_neg (by omega)];have:off+size+(k - off - size)=k:=by omega
       rw [this];simp
    ·cases h
   ·cases h
  ·cases h
end
def Gp(ρ:Env)(nb r:Nat):Ck→Option HP
 | .row b true cs=>if b=nb then some (ak r true (SV.ao ρ cs))else none
 | .map b kl ka va z has ay=>if b=nb then some (nQ r kl ka va (SV.ao ρ z) (has.den ρ) fun i=>(ay.map (bL.cells ρ)).flatMap fun c=>c i)else none
 | .tM b kl ka va z es=>if b=nb then some (tD r kl ka va (SV.ao ρ z) (fun i=>qw es i) fun i=>SV.ao ρ (jU es z i))else none
 | .Ih b t e n a=>if b=nb then some (TG r t e (aj .u8 (n.den ρ 0).toNat (a.den ρ)))else none
 | .LH b l p=>if b=nb then some (TE r l p)else none
 | .ME b m=>if b=nb then some (TF r (ρ.bv.getD m 0))else none
 | _=>none
def Did(P:Program)(ρ:Env)(w:World)(hp:List Ck)(S:Nat→Nat→Prop)(nb nv:Nat)(run:Result Next)(res:gY):Prop:=
 match res.gZ with
 | .none=>run= .ok (.value (res.val.val ρ)) w
 | .new ck=> ∃w' X5,Gp ρ nb w.heap.size ck=some X5∧run= .ok (.value (res.val.val (ρ.m_ w.heap.size))) w'∧ic w w'∧w'.heap.size=w.heap.size+1∧
   (∀k,k<w.heap.size→w'.heap[k]? =w.heap[k]?)∧X5.p w' (fun k=>k=w.heap.size)
 | .set j ck=> ∃w',(run= .ok (.value (res.val.val ρ)) w'∨(res.val= .undef∧run= .ok .skip w'))∧Bb P w ρ hp S j ck w'
 | .app j ck=> ∃t s n ay v w' S',ck= .cr true nv t s n ay∧res.val= .vv nv∧run= .ok (.value v) w'∧v.oneCell'=true∧
   (∃Q3,hp[j]? =some Q3∧(Q3.den ρ).wr=true)∧ic w w'∧(∀k,k<w.heap.size→¬S j k→w'.heap[k]? =w.heap[k]?)∧
   (aB true t s v (n.den ρ 0).toNat (aF ρ (n.den ρ 0).toNat ay)).p w' S'∧∀k,S' k→S j k∨(w.heap.size≤k∧k<w'.heap.size)
 | .own ck=> ∃t s n ay v w' S',ck= .cr true nv t s n ay∧res.val= .vv nv∧run= .ok (.value v) w'∧v.oneCell'=true∧ic w w'∧(∀k,k<w.heap.size→w'.heap[k]? =w.heap[k]?)∧
   (aB true t s v (n.den ρ 0).toNat (aF ρ (n.den ρ 0).toNat ay)).p w' S'∧∀k,S' k→w.heap.size≤k∧k<w'.heap.size
 | .DM ck=> ∃t s n ay v w' S',ck= .cr false nv t s n ay∧res.val= .vv nv∧run= .ok (.value v) w'∧v.oneCell'=true∧ic w w'∧(∀k,k<w.heap.size→w'.heap[k]? =w.heap[k]?)∧
   (aB false t s v (n.den ρ 0).toNat (aF ρ (n.den ρ 0).toNat ay)).p w' S'∧∀k,S' k→w.heap.size≤k∧k<w'.heap.size
section
variable {P:Program} {ρ:Env} {w:World} {look:Nat→Option SV} {bD:Operand→Value} {hp:List Ck} {S:Nat→Nat→Prop} {nb nv:Nat} {T:List TI}
theorem jH(ρ:Env)(b:Nat):(ρ.m_ b).bv[ρ.bv.length]?.getD 0=b:=by
 simp [Env.m_]
theorem rm(w:World)(cs:Array Value)(e:TypeId)(l:List Value)(hl:cs.toList=l):
  ic w (w.alloc (.cells cs e))∧(w.alloc (.cells cs e)).heap.size=w.heap.size+1∧(∀k,k<w.heap.size→(w.alloc (.cells cs e)).heap[k]? =w.heap[k]?)∧
   (ak w.heap.size true l).p (w.alloc (.cells cs e)) (fun k=>k=w.heap.size):=by
 subst hl;refine⟨⟨rfl,rfl,rfl,by simp⟩,by simp,fun k hk=>heap_alloc_old w _ hk,fun k=>Iff.rfl,e,(0,0),?_,fun _=>rfl⟩;have hn:=heap_alloc_new w (.cells cs e);simpa using hn
theorem DN(hT:bx P T=true)(BZ:ρ.bv.length=nb){t:TypeId}{ti:TI}(ht:aP T t=some ti):
  Did P ρ w hp S nb nv ((do pure (.value (←Instr.alloc t true (.tuple #[]))):Sem Next).run P w) {val:= .ptr nb 0,gZ:= .new (.row nb true ti.zero)}:=by
 obtain⟨rfl,cO⟩:=aA hT ht;obtain⟨z,hz,hc⟩:=cO.zero w;obtain⟨h1,h2,h3,h4⟩:=rm w z.cells ti.t (SV.ao ρ ti.zero) (hc ρ).symm;refine⟨_,_,if_pos rfl,?_,h1,h2,h3,h4⟩;subst BZ;simp [Instr.alloc,hz,newVar,newRow,SV.val,jH]
theorem JL(hT:bx P T=true)(BZ:ρ.bv.length=nb){t:TypeId}{ti:TI}(ht:aP T t=some ti)(e:Nat)(Y3:SV.ao ρ ti.zero=[.pointer none,.slice none 0 0]):
  Did P ρ w hp S nb nv ((do pure (.value (←Instr.alloc t true (.tuple #[]))):Sem Next).run P w) {val:= .ptr nb 0,gZ:= .new (.Ih nb t e (.lit 0) (.lit 0))}:=by
 obtain⟨rfl,cO⟩:=aA hT ht;obtain⟨z,hz,hc⟩:=cO.zero w;obtain⟨h1,h2,h3,h4⟩:=rm w z.cells ti.t (SV.ao ρ ti.zero) (hc ρ).symm;refine⟨_,_,if_pos rfl,?_,h1,h2,h3,?_⟩
 ·subst BZ;simp [Instr.alloc,hz,newVar,newRow,SV.val,jH]
 ·have yJ:z.cells= #[.pointer none,.slice none 0 0]:=aqU (by rw [←hc ρ,Y3]);refine⟨.pointer none,.slice none 0 0,?_,.inl rfl,?_,by simp [Value.ownBlock],fun k=>by simp [Value.ownBlock]⟩
  ·have hn:=heap_alloc_new w (.cells z.cells ti.t);rw [yJ]at hn;rw [yJ];exact hn
  ·simp only [E.den,Int.toNat_zero,aj,List.range_zero,List.map_nil,List.length_nil];exact World.ownsRow_nil _ 0 e 1
theorem JM(jf:ρ.Ok)(BZ:ρ.bv.length=nb){t:TypeId}{v:SV}{cs:List SV}(mC:eM v=some cs):
  Did P ρ w hp S nb nv ((do pure (.value (←Instr.box t (v.val ρ))):Sem Next).run P w) {val:= .ptr nb 0,gZ:= .new (.row nb true cs)}:=by
 obtain⟨h1,h2,h3,h4⟩:=rm w (v.val ρ).cells t (SV.ao ρ cs) (jr ρ mC jf).1;refine⟨_,_,if_pos rfl,?_,h1,h2,h3,h4⟩;subst BZ;simp [Instr.box,newVar,newRow,SV.val,jH]
theorem yK{ti:TI}(cO:kz P ti){cs x:List SV}{off:Nat}{v:SV}(hx:jy off ti.size cs=some x)(hv:iU ti.k.agg x=some v):
  (part ti.t (SV.ao ρ cs).toArray off).run P w= .ok (v.val ρ) w:=by
 obtain⟨h1,h2⟩:=eK ρ hx;obtain⟨h3,h4⟩:=np ρ hv;cases ha:ti.k.agg with
 | true=>
  simp only [part,aqA,cO.isAgg w,ha,aqu,if_true,cO.sizeOf w,aqH,h3 ha,h1];congr 3;apply aqU;simp [List.extract_eq_take_drop]
 | false=>
  have h5:=h4 ha;rw [h1]at h5;have h6:(SV.ao ρ cs)[off]? =some (v.val ρ):=by
   have:(((SV.ao ρ cs).drop off).take ti.size)[0]? =some (v.val ρ):=by rw [h5];rfl
   rw [List.getElem?_take,List.getElem?_drop]at this;split at this
   ·simpa using this
   ·cases this
  simp [part,cO.isAgg w,ha,h6]
theorem wI(hT:bx P T=true): ∀(fs:List Field) (l:List (Nat×Nat)),fs.map (fun f=>(f.type,f.offset))=l→qx T l=true→
  ∃Gq,fs.mapM (fun f=>(P.info? f.type).map fun i=>(f.offset,i.size))=some Gq∧∀i,Gq[i]? =iL T l i
 | [],l,h,_=>by
  subst h;exact⟨[],rfl,fun i=>by simp [iL]⟩
 | f::r,l,h,ha=>by
  subst h;simp only [qx,aqP,List.all_cons,ai]at ha;obtain⟨p,hp,Q_⟩:=wI hT r _ rfl (by simpa [qx] using ha.2);obtain⟨ti,cO⟩:=Option.isSome_iff_exists.1 ha.1;obtain⟨ht,hi⟩:=aA hT cO;obtain⟨i,h1,h2,_⟩:=hi.info;rw [ht]at h1;refine⟨(f.offset,i.size)::p,?_,fun k=>?_⟩
  ·simp [List.mapM_cons,h1,hp]
  ·cases k with
   | zero=>simp [iL,cO,h2]
   | succ k=>rw [List.getElem?_cons_succ,Q_ k];simp [iL]
theorem sJ(hT:bx P T=true){ti:TI}{t:TypeId}(ht:aP T t=some ti){fs:List (Nat×Nat)}(hk:ti.k= .struct fs)(oH:qx T fs=true)
  {ps:List (Nat×List SV)} {vs:Array (Nat×Value)} (hm:fP ρ ps vs.toList) {cs:List SV} (hf:kV (iL T fs) ti.zero ps=some cs):
  (Instr.build t vs).run P w= .ok (.agg (SV.ao ρ cs).toArray) w:=by
 obtain⟨rfl,cO⟩:=aA hT ht;obtain⟨i,hi,_,_,z,hz,hc⟩:=cO.info;have df:=cO.kind;rw [hk]at df;obtain⟨fa,hu,Ra⟩:=nr df;obtain⟨Gq,hp,Q_⟩:=wI hT fa.toList fs Ra oH;obtain⟨r,hr,Y4⟩:=rl (ρ:=ρ) (iL T fs) hm hf (hc ρ).symm;have hb:P.built ti.t vs.toList=some r:=by
  unfold Program.built;simp only [hi,hu,hz,hp];rw [←hr];congr 1;funext k;rw [←Q_ k];simp
 rw [run_build w ti.t vs r hb];congr 2;exact aqU (by simpa using Y4)
theorem xu(hT:bx P T=true){ti te:TI}{t:TypeId}(ht:aP T t=some ti){n e:Nat}(hk:ti.k= .arr n e)(iJ:aP T e=some te)
  {ps:List (Nat×List SV)} {vs:Array (Nat×Value)} (hm:fP ρ ps vs.toList) {cs:List SV} (hf:kV (kJ te.size) ti.zero ps=some cs):
  (Instr.build t vs).run P w= .ok (.agg (SV.ao ρ cs).toArray) w:=by
 obtain⟨rfl,cO⟩:=aA hT ht;obtain⟨rfl,JN⟩:=aA hT iJ;obtain⟨i,hi,_,_,z,hz,hc⟩:=cO.info;obtain⟨ie,Rb,X6,_⟩:=JN.info;have df:=cO.kind;rw [hk]at df;have hu:=oJ df;obtain⟨r,hr,Y4⟩:=rl (ρ:=ρ) (kJ te.size) hm hf (hc ρ).symm;have hb:P.built ti.t vs.toList=some r:=by
  unfold Program.built;simp only [hi,hu,hz,Rb,X6];exact hr
 rw [run_build w ti.t vs r hb];congr 2;exact aqU (by simpa using Y4)
theorem JO(n:Nat)(l:List SV):SV.ao ρ (List.replicate n l).flatten=(List.replicate n (SV.ao ρ l)).flatten:=by
 induction n with
 | zero=>rfl
 | succ n ih=>rw [List.replicate_succ,List.replicate_succ,List.flatten_cons,List.flatten_cons,hY,ih]
theorem tN(z:Array Value)(len:Nat)(_:0<z.size):((Array.range (len*z.size)).map (z[· %z.size]!)).toList=(List.replicate len z.toList).flatten:=by
 rw [Array.toList_map,Array.toList_range]
 induction len with
 | zero=>simp
 | succ n ih=>
  rw [List.replicate_succ',List.flatten_append,←ih,Nat.add_mul,Nat.one_mul,List.range_add,List.map_append];congr 1;rw [List.map_map,List.flatten_singleton];apply List.ext_getElem
  ·simp
  ·intro i h1 h2;have hi:i<z.size:=by simpa using h2
   simp [Nat.add_mod,Nat.mod_eq_of_lt hi,hi]
theorem vg(hT:bx P T=true)(BZ:ρ.bv.length=nb){ti te:TI}{t:TypeId}(ht:aP T t=some ti){e:Nat}(hk:ti.k= .slice e)(iJ:aP T e=some te){len:Nat}
  (hlen: ¬(len=0∨te.size=0∨1000<len*te.size)) {ps:List (Nat×List SV)} {vs:Array (Nat×Value)} (hm:fP ρ ps vs.toList) {cs:List SV}
  (hf:kV (kJ te.size) (List.replicate len te.zero).flatten ps=some cs):
  Did P ρ w hp S nb nv ((do pure (.value (←Instr.buildSlice t len vs)):Sem Next).run P w)
   {val:= .sl nb (.lit 0) te.size (.lit len) (.lit len),gZ:= .new (.row nb true cs)}:=by
 obtain⟨rfl,cO⟩:=aA hT ht;obtain⟨rfl,JN⟩:=aA hT iJ;obtain⟨ie,Rb,X6,_,z,hz,hc⟩:=JN.info;have df:=cO.kind;rw [hk]at df;have hu:=bH df;have pK:z.cells.size=te.size:=by
  rw [←Array.length_toList,←hc ρ,bh,JN.AB]
 have MF:((Array.range (len*ie.size)).map (z.cells[· %z.cells.size]!)).toList=SV.ao ρ (List.replicate len te.zero).flatten:=by
  rw [JO,hc ρ,X6,←pK];exact tN _ _ (by omega)
 obtain⟨r,hr,Y4⟩:=rl (ρ:=ρ) (kJ te.size) hm hf MF;have u_: ¬len*ie.size=0:=by rw [X6];simp only [Nat.mul_eq_zero];omega
 have hb:=run_buildSlice (P:=P) w ti.t te.t len vs r ie z hu Rb hz (by rw [X6];omega) u_ (by rw [←hr,X6];rfl);obtain⟨h1,h2,h3,h4⟩:=rm w r te.t (SV.ao ρ cs) Y4;refine⟨_,_,if_pos rfl,?_,h1,h2,h3,h4⟩;subst BZ;simp [hb,SV.val,jH,E.den]
end
end Go.RX
