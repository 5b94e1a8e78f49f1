/- Executor. -/
import Derived.Test.YtllcdnkfbeokhaaGreatM05
import Derived.Maps.AppendAt
import Derived.Great.BuildSlice
open Array renaming ext' → auY, getElem?_toList → auX
open Bool renaming and_eq_true → ai
open Go.IntKind renaming wrap → ae
open Go.Op renaming equalIn → auW
open Go.Result renaming andThen_ok → aut
open Go.Sem renaming run_bind → auC, run_pure → auI
open Int renaming toNat_natCast → auD
open List renaming map_cons → auK, mem_singleton → auz
open Option renaming map_eq_some_iff → aus
open Option.some renaming injEq → auq
namespace Go.RX
theorem wQ(k:IntKind)(n:Int)(h:IntKind.lo k≤n)(h':n≤IntKind.hi k):k.wrap n=n:=by
 cases k<;>simp only [IntKind.lo,IntKind.hi]at h h'<;>simp [ae,IntKind.bits,IntKind.signed]<;>omega
section
variable {P:Program} {ρ:Env} {w:World}
theorem z5{k:IntKind}{e:E}(cd: ∀b∈(z9 k e).2,b.prop ρ):(z9 k e).1.den ρ 0=k.wrap (e.den ρ 0):=by
 unfold z9 at cd ⊢;split
 ·rfl
 ·rfl
 ·split
  ·rename_i hs;simp only [hs,if_true]at cd;have h1:=cd (.le (.lit (IntKind.lo k)) e) (by simp);have h2:=cd (.le e (.lit (IntKind.hi k))) (by simp);simp only [BE.prop,E.den]at h1 h2;exact(wQ k _ h1 h2).symm
  ·rfl
theorem P0(k:IntKind)(e:E):z_ k e=z9 k e∨z_ k e=(.wrap k e,[]):=by
 unfold z_;split
 ·split
  ·exact .inr rfl
  ·exact .inl rfl
 ·exact .inl rfl
theorem My{k:IntKind}{e:E}(cd: ∀b∈(z_ k e).2,b.prop ρ):(z_ k e).1.den ρ 0=k.wrap (e.den ρ 0):=by
 rcases P0 k e with h | h
 ·rw [h]at cd ⊢;exact z5 cd
 ·rw [h];rfl
theorem lZ: ∀{l:List SV} {L:List iY},rI l L=true→hG (SV.ao ρ l) L
 | [],[],_=>trivial
 | [],k::L,h=>by simp [rI]at h
 | x::r,L,h=>by
  unfold rI at h;split at h
  ·rename_i heq;cases heq
  ·rename_i k e r' k' l heq;cases heq;simp only [ai,beq_iff_eq]at h;exact⟨h.1,lZ h.2⟩
  ·rename_i b r' l heq;cases heq;exact lZ (l:=r) h
  ·rename_i L k n a r' heq;cases heq;simp only [ai,decide_eq_true_eq]at h;obtain⟨⟨h1,h2⟩,h3⟩:=h;have ih:=lZ (l:=r) h3;simp only [SV.ao,SV.cells];have key: ∀(m:Nat) (f:Nat→Int) (L:List iY) (xs:List Value),m≤L.length→(L.take m).all (· ==some k)=true→hG xs (L.drop m)→hG (aj k m f++xs) L:=by
    intro m
    induction m with
    | zero=>intro f L xs _ _ hf;simpa [aj] using hf
    | succ m ihm=>
     intro f L xs hle nW hf;cases L with
     | nil=>simp at hle
     | cons c L=>
      simp only [List.take_succ_cons,List.all_cons,ai,beq_iff_eq,List.drop_succ_cons,List.length_cons]at nW hf hle;have hc:=nW.1;subst hc;have:aj k (m+1) f= .int k (f 0)::aj k m (fun j=>f (j+1)):=by
       unfold aj;rw [List.range_succ_eq_map,auK,List.map_map];rfl
      rw [this];exact⟨rfl,ihm _ L xs (by omega) nW.2 hf⟩
   exact key n _ _ _ h1 h2 ih
  ·cases h
theorem Uz(k:IntKind)(n:Nat)(f g:Nat→Int)(a b:List Value):
  ue (aj k n f++a) (aj k n g++b)=((List.range n).all (fun j=>f j==g j)&&ue a b):=by
 induction n generalizing f g with
 | zero=>simp [aj]
 | succ n ih=>
  have e: ∀h:Nat→Int,aj k (n+1) h= .int k (h 0)::aj k n (fun j=>h (j+1)):=by
   intro h;unfold aj;rw [List.range_succ_eq_map,auK,List.map_map];rfl
  rw [e f,e g,List.cons_append,List.cons_append,ue,ih,List.range_succ_eq_map,List.all_cons,List.all_map,Bool.and_assoc];rfl
theorem l_: ∀{a b:List SV} {c:BE},mM a b=some c→c.den ρ=ue (SV.ao ρ a) (SV.ao ρ b)
 | [],[],c,h=>by simp [mM]at h;subst h;rfl
 | [],y::s,c,h=>by simp [mM]at h
 | x::r,b,c,h=>by
  unfold mM at h;split at h
  ·rename_i heq;exact absurd heq (by simp)
  ·rename_i k e r' k' e' s heq;cases heq;split at h
   ·rename_i hk;subst hk;rw [aus]at h;obtain⟨d,hd,rfl⟩:=h;rw [pj,oc,l_ hd];rfl
   ·cases h
  ·rename_i p r' q s heq;cases heq;rw [aus]at h;obtain⟨d,hd,rfl⟩:=h;rw [pj,pk,dT,l_ hd];simp only [SV.ao,SV.cells,List.singleton_append,ue];cases p.den ρ<;>cases q.den ρ<;>rfl
  ·rename_i k n e r' k' n' e' s heq;cases heq;split at h
   ·rename_i hk;obtain⟨rfl,rfl⟩:=hk;rw [aus]at h;obtain⟨d,hd,rfl⟩:=h;rw [pj,l_ hd];simp only [SV.ao,SV.cells];rw [Uz];congr 1;split
    ·rename_i he;subst he;simp [BE.den]
    ·rfl
   ·cases h
  ·cases h
theorem xX(k:IntKind)(a:E): ∀(l:List Nat),SV.ao ρ (l.map fun j=>SV.int k (eJ a (.lit (j:Nat))))=l.map fun j=>Value.int k (a.den ρ j)
 | []=>rfl
 | x::r=>by simp only [auK,SV.ao,SV.cells,cX,dj,auD,List.singleton_append,xX k a r]
theorem gy: ∀(l:List SV),SV.ao ρ (ib l)=SV.ao ρ l
 | []=>rfl
 | v::r=>by
  unfold ib;split
  ·rename_i h;cases h
  ·rename_i k n a r' h;cases h;rw [iK,xX,gy r];rfl
  ·rename_i v' r' _ h;cases h;simp only [SV.ao,gy r]
theorem vj{a b:List SV}{c:BE}(h:Aa a b=some c):c.den ρ=ue (SV.ao ρ a) (SV.ao ρ b):=by
 unfold Aa at h;split at h
 ·rename_i c' hc;cases h;exact l_ hc
 ·rw [l_ h,gy,gy]
theorem yO(op:BinOp)(t:TypeId)(x y:Operand)(k k':IntKind)(a b:Int):(eqGuard op t x y (.int k a) (.int k' b)).run P w= .ok () w:=by
 cases op<;>simp [eqGuard]
theorem py(op:BinOp)(t:TypeId)(x y:Operand)(a b:Bool):(eqGuard op t x y (.bool a) (.bool b)).run P w= .ok () w:=by
 cases op<;>simp [eqGuard]
def sH:Value→Bool
 | .nilIface=>false
 | .agg _=>false
 | _=>true
theorem cR(op:BinOp)(t:TypeId)(x y:Operand)(a b:Value)(h:sH a=true):(eqGuard op t x y a b).run P w= .ok () w:=by
 cases op<;>cases a<;>simp_all [eqGuard,sH]
theorem f_{b:E}(h: ∀c∈p6 b,c.prop ρ):0≤b.den ρ 0:=by
 by_cases hl:xS (.lit 0) b= .lit true
 ·have:(xS (.lit 0) b).den ρ=true:=by rw [hl];rfl
  rw [iX]at this;exact of_decide_eq_true this
 ·have:=h (xS (.lit 0) b) (by unfold p6;simp [hl]);rw [←BE.bQ,iX]at this;exact of_decide_eq_true this
theorem UA(k yk:IntKind)(x y:Int)(h:0≤y):(Op.shift .shl k x yk y).run P w= .ok (.int k (k.wrap (x*2^min y.toNat k.bits))) w:=by
 simp [Op.shift,Int.not_lt.2 h]
theorem UB(k yk:IntKind)(x y:Int)(h:0≤y):(Op.shift .shr k x yk y).run P w= .ok (.int k (x.fdiv (2^min y.toNat k.bits))) w:=by
 simp [Op.shift,Int.not_lt.2 h]
theorem II(ti:TI){o:BinOp}{k k':IntKind}{a b:E}{res:iC}(h:oO ti o (.int k a) (.int k' b)=some res)(cd: ∀b∈res.vcs,b.prop ρ)(t:TypeId):
  (binOp o t (.int k (a.den ρ 0)) (.int k' (b.den ρ 0))).run P w= .ok (res.val.val ρ) w∧res.iD= .none:=by
 cases o<;>simp only [oO]at h
 case shl=>
  simp only [auq]at h;subst h;exact⟨by simp only [binOp];rw [UA _ _ _ _ (f_ cd),SV.val,lV];rfl,rfl⟩
 case shr=>
  simp only [auq]at h;subst h;exact⟨by simp only [binOp];rw [UB _ _ _ _ (f_ cd),SV.val,lV];rfl,rfl⟩
 all_goals
  split at h
  ·cases h
  ·rename_i hk;simp only [ne_eq,Decidable.not_not]at hk;subst hk
   first
   | (simp at h;done)
   | (
     simp only [auq]at h;subst h;refine⟨?_,rfl⟩
     first
     | (simp only [binOp,ne_eq,not_true_eq_false,if_false,Op.intCmp,auI,SV.val,oc,dT,vd,iX];first | done | rfl)
     | (simp only [binOp,ne_eq,not_true_eq_false,if_false,Op.intBits,auI,SV.val,lV];rfl)
     | (simp only [binOp,ne_eq,not_true_eq_false,if_false,Op.intArith,auI,SV.val,z5 cd,bG,fE,iA])
     | (
      have hnz:=cd (Uu b) (by simp);rw [←BE.bQ,zh]at hnz;have aha:b.den ρ 0≠0:=by simpa using hnz
      simp [binOp,Op.intDiv,aha,SV.val,Ms,lV,ar]))
theorem aV{ti:TI}{o:BinOp}{xo yo:Operand}{u v:Value}{r:Result Value}(hg:(eqGuard o ti.t xo yo u v).run P w= .ok () w)(h:(binOp o ti.t u v).run P w=r):
  (do eqGuard o ti.t xo yo u v;binOp o ti.t u v:Sem Value).run P w=r:=by
 simp only [auC,hg,aut,h]
theorem FX{t:TypeId}(ht:P.underlying t=some .bool)(a b:Bool):(binOp .eql t (.bool a) (.bool b)).run P w= .ok (.bool (a==b)) w:=by
 simp [binOp,Op.equal,Op.maxDepth,run_equalIn_bool' w 9999 t a b ht]
theorem FY{t:TypeId}(ht:P.underlying t=some .bool)(a b:Bool):(binOp .neq t (.bool a) (.bool b)).run P w= .ok (.bool (!(a==b))) w:=by
 simp [binOp,Op.equal,Op.maxDepth,run_equalIn_bool' w 9999 t a b ht]
theorem dI{t:TypeId}{x y:Value}{b:Bool}(hb:binOp .eql t x y=(do pure (.bool (←Op.equal t x y)):Sem Value))(h: ∀d,(auW (d+1) t x y).run P w= .ok b w):
  (binOp .eql t x y).run P w= .ok (.bool b) w:=by
 have:(Op.equal t x y).run P w= .ok b w:=h 9999;rw [hb];simp only [auC,this,aut,auI]
theorem dJ{t:TypeId}{x y:Value}{b:Bool}(hb:binOp .neq t x y=(do pure (.bool (!(←Op.equal t x y))):Sem Value))(h: ∀d,(auW (d+1) t x y).run P w= .ok b w):
  (binOp .neq t x y).run P w= .ok (.bool (!b)) w:=by
 have:(Op.equal t x y).run P w= .ok b w:=h 9999;rw [hb];simp only [auC,this,aut,auI]
theorem fF{u:Option TypeDesc}{e:Nat}(h:ju u (.ptr e)=true):u=some (.pointer e):=by
 cases u with
 | none=>simp [ju]at h
 | some d=>cases d<;>simp_all [ju]
theorem bK{u:Option TypeDesc}{e:Nat}(h:ju u (.slice e)=true):u=some (.slice e):=by
 cases u with
 | none=>simp [ju]at h
 | some d=>cases d<;>simp_all [ju]
theorem pz{u:Option TypeDesc}{n e:Nat}(h:ju u (.arr n e)=true):u=some (.array n e):=by
 cases u with
 | none=>simp [ju]at h
 | some d=>cases d<;>simp_all [ju]
theorem kK{u:Option TypeDesc}{k:IntKind}(h:ju u (.int k)=true):u=some (.int k):=by
 cases u with
 | none=>simp [ju]at h
 | some d=>cases d<;>simp_all [ju]
theorem og{u:Option TypeDesc}{l:List (Nat×Nat)}(h:ju u (.struct l)=true): ∃fs:Array Field,u=some (.struct fs)∧fs.toList.map (fun f=>(f.type,f.offset))=l:=by
 cases u with
 | none=>simp [ju]at h
 | some d=>cases d<;>simp_all [ju]
theorem sI{u:Option TypeDesc}(h:ju u .func=true): ∃a b c,u=some (.func a b c):=by
 cases u with
 | none=>simp [ju]at h
 | some d=>cases d<;>simp_all [ju]
theorem UC{t:TypeId}{e:Nat}(hu:P.underlying t=some (.pointer e))(d:Nat):
  (auW (d+1) t (.pointer none) (.pointer none)).run P w= .ok true w:=by
 have xW:=run_underlying hu w;rw [auW];simp only [auC,xW,aut];rfl
theorem P1{t:TypeId}{e:Nat}{a:Addr}(hu:P.underlying t=some (.pointer e))(d:Nat):
  (auW (d+1) t (.pointer none) (.pointer (some a))).run P w= .ok false w:=by
 have xW:=run_underlying hu w;rw [auW];simp only [auC,xW,aut];rfl
theorem P2{t:TypeId}{e:Nat}{a:Addr}(hu:P.underlying t=some (.pointer e))(d:Nat):
  (auW (d+1) t (.pointer (some a)) (.pointer none)).run P w= .ok false w:=by
 have xW:=run_underlying hu w;rw [auW];simp only [auC,xW,aut];rfl
theorem acF{t:TypeId}{e n m n' m':Nat}(hu:P.underlying t=some (.slice e))(d:Nat):
  (auW (d+1) t (.slice none n m) (.slice none n' m')).run P w= .ok true w:=by
 have xW:=run_underlying hu w;rw [auW];simp only [auC,xW,aut];rfl
theorem acG{t:TypeId}{e n m n' m':Nat}{a:Addr}(hu:P.underlying t=some (.slice e))(d:Nat):
  (auW (d+1) t (.slice none n m) (.slice (some a) n' m')).run P w= .ok false w:=by
 have xW:=run_underlying hu w;rw [auW];simp only [auC,xW,aut];rfl
theorem acH{t:TypeId}{e n m n' m':Nat}{a:Addr}(hu:P.underlying t=some (.slice e))(d:Nat):
  (auW (d+1) t (.slice (some a) n m) (.slice none n' m')).run P w= .ok false w:=by
 have xW:=run_underlying hu w;rw [auW];simp only [auC,xW,aut];rfl
theorem acI{t:TypeId}{x:Array TypeId}{y:Array TypeId}{z:Bool}(hu:P.underlying t=some (.func x y z))(d:Nat):
  (auW (d+1) t .nilFunc .nilFunc).run P w= .ok true w:=by
 have xW:=run_underlying hu w;rw [auW];simp only [auC,xW,aut];rfl
theorem acJ{t:TypeId}{x:Array TypeId}{y:Array TypeId}{z:Bool}{f:Fn}{a b:Array Value}(hu:P.underlying t=some (.func x y z))(d:Nat):
  (auW (d+1) t .nilFunc (.func f a b)).run P w= .ok false w:=by
 have xW:=run_underlying hu w;rw [auW];simp only [auC,xW,aut];rfl
theorem UD{t:TypeId}{x:Array TypeId}{y:Array TypeId}{z:Bool}{f:Fn}{a b:Array Value}(hu:P.underlying t=some (.func x y z))(d:Nat):
  (auW (d+1) t (.func f a b) .nilFunc).run P w= .ok false w:=by
 have xW:=run_underlying hu w;rw [auW];simp only [auC,xW,aut];rfl
theorem acK{t:TypeId}{e:Nat}(hu:P.underlying t=some (.pointer e))(y:Int)(d:Nat):
  (auW (d+1) t (.pointer none) (cN y)).run P w= .ok (y==0) w:=by
 unfold cN;split
 ·rename_i h;subst h;exact UC hu d
 ·rename_i h;rw [show(y==(0:Int))=false by simpa using h];exact P1 hu d
theorem acL{t:TypeId}{e:Nat}(hu:P.underlying t=some (.pointer e))(y:Int)(d:Nat):
  (auW (d+1) t (cN y) (.pointer none)).run P w= .ok (y==0) w:=by
 unfold cN;split
 ·rename_i h;subst h;exact UC hu d
 ·rename_i h;rw [show(y==(0:Int))=false by simpa using h];exact P2 hu d
theorem Mz(y:Int):sH (cN y)=true:=by unfold cN;split<;>rfl
theorem CT{ti:TI}(dc:lu P ti){x y:SV}{c:BE}(h:ptrEq ti.k x y=some c):
  sH (x.val ρ)=true∧(binOp .eql ti.t (x.val ρ) (y.val ρ)).run P w= .ok (.bool (c.den ρ)) w∧(binOp .neq ti.t (x.val ρ) (y.val ρ)).run P w= .ok (.bool (!c.den ρ)) w:=by
 have hk:=dc.kind;generalize ti.k=kk at h hk;unfold ptrEq at h;split at h
 ·cases h;exact⟨rfl,dI rfl fun d=>UC (fF hk) d,dJ rfl fun d=>UC (fF hk) d⟩
 ·cases h;exact⟨rfl,dI rfl fun d=>P1 (fF hk) d,dJ rfl fun d=>P1 (fF hk) d⟩
 ·cases h;exact⟨rfl,dI rfl fun d=>P2 (fF hk) d,dJ rfl fun d=>P2 (fF hk) d⟩
 ·cases h;exact⟨rfl,dI rfl fun d=>P1 (fF hk) d,dJ rfl fun d=>P1 (fF hk) d⟩
 ·cases h;exact⟨rfl,dI rfl fun d=>P2 (fF hk) d,dJ rfl fun d=>P2 (fF hk) d⟩
 ·cases h;exact⟨rfl,dI rfl fun d=>by rw [oc];exact acK (fF hk) _ d,dJ rfl fun d=>by rw [oc];exact acK (fF hk) _ d⟩
 ·cases h;exact⟨Mz _,dI (by simp only [SV.val];unfold cN;split<;>rfl) fun d=>by rw [oc];exact acL (fF hk) _ d,dJ (by simp only [SV.val];unfold cN;split<;>rfl) fun d=>by rw [oc];exact acL (fF hk) _ d⟩
 ·cases h;exact⟨rfl,dI rfl fun d=>acF (bK hk) d,dJ rfl fun d=>acF (bK hk) d⟩
 ·cases h;exact⟨rfl,dI rfl fun d=>acG (bK hk) d,dJ rfl fun d=>acG (bK hk) d⟩
 ·cases h;exact⟨rfl,dI rfl fun d=>acH (bK hk) d,dJ rfl fun d=>acH (bK hk) d⟩
 ·cases h;obtain⟨_,_,_,hu⟩:=sI hk;exact⟨rfl,dI rfl fun d=>acI hu d,dJ rfl fun d=>acI hu d⟩
 ·cases h;obtain⟨_,_,_,hu⟩:=sI hk;exact⟨rfl,dI rfl fun d=>acJ hu d,dJ rfl fun d=>acJ hu d⟩
 ·cases h;obtain⟨_,_,_,hu⟩:=sI hk;exact⟨rfl,dI rfl fun d=>UD hu d,dJ rfl fun d=>UD hu d⟩
 ·cases h;obtain⟨_,_,_,hu⟩:=sI hk;exact⟨rfl,dI rfl fun d=>UD hu d,dJ rfl fun d=>UD hu d⟩
 ·cases h
theorem sJ(l:List UInt8):(⟨l.toArray⟩:ByteArray).toList=l:=by rw [ByteArray.toList_eq]
theorem xY(t:TypeId)(a b:List UInt8):(binOp .eql t (.string ⟨a.toArray⟩) (.string ⟨b.toArray⟩)).run P w= .ok (.bool (a==b)) w:=by
 rw [binOp_string_eql,sJ,sJ];rfl
theorem xZ(t:TypeId)(a b:List UInt8):(binOp .neq t (.string ⟨a.toArray⟩) (.string ⟨b.toArray⟩)).run P w= .ok (.bool (!(a==b))) w:=by
 rw [binOp_string_neq,sJ,sJ];rfl
theorem MA(a b:List UInt8):(⟨a.toArray⟩:ByteArray)++⟨b.toArray⟩=⟨(a++b).toArray⟩:=by
 apply ByteArray.ext;rw [ByteArray.data_append];simp
theorem x_(t:TypeId)(a b:List UInt8)(h:a.length+b.length≤9223372036854775807):(binOp .add t (.string ⟨a.toArray⟩) (.string ⟨b.toArray⟩)).run P w= .ok (.string ⟨(a++b).toArray⟩) w:=by
 rw [binOp_string_add,run_string_add_sum w _ _ (by simpa [ByteArray.size] using h),MA]
theorem IJ{ti:TI}{o:BinOp}{xo yo:Operand}{x y:SV}{res:iC}(h:wR o x y=some res)(cd: ∀b∈res.vcs,b.prop ρ):
  (do eqGuard o ti.t xo yo (x.val ρ) (y.val ρ);binOp o ti.t (x.val ρ) (y.val ρ):Sem Value).run P w= .ok (res.val.val ρ) w∧res.iD= .none:=by
 unfold wR at h;split at h
 ·rename_i a b;split at h
  ·split at h
   ·rename_i hl;cases h;exact⟨aV (cR _ _ _ _ _ _ rfl) (x_ _ _ _ (by omega)),rfl⟩
   ·cases h
  ·cases h;exact⟨aV (cR _ _ _ _ _ _ rfl) (xY _ _ _),rfl⟩
  ·cases h;exact⟨aV (cR _ _ _ _ _ _ rfl) (xZ _ _ _),rfl⟩
  ·cases h
 ·split at h
  ·rename_i a b ha hb;have ea:=tV ρ ha;have eb:=tV ρ hb;rw [ea,eb];split at h
   ·cases h;have n1:0≤(lU a).den ρ 0:=f_ (b:=lU a) fun c hc=>cd c (List.mem_append_left _ (List.mem_append_left _ hc))
    have n2:0≤(lU b).den ρ 0:=f_ (b:=lU b) fun c hc=>cd c (List.mem_append_left _ (List.mem_append_right _ hc))
    have n3:=cd _ (List.mem_append_right _ (auz.2 rfl));rw [←BE.bQ,iX]at n3;have n3:=of_decide_eq_true n3;rw [bG]at n3;rw [iB]at n1 n2 n3;rw [iB]at n3;simp only [dj]at n3;refine⟨aV (cR _ _ _ _ _ _ rfl) ?_,rfl⟩;rw [x_ _ _ _ (by rw [dq,dq];omega),SV.val,PQ ρ a b n1 n2]
   ·cases h;refine⟨aV (cR _ _ _ _ _ _ rfl) ?_,rfl⟩;rw [xY,SV.val,FN]
   ·cases h;refine⟨aV (cR _ _ _ _ _ _ rfl) ?_,rfl⟩;rw [xZ,SV.val,dT,FN]
   ·cases h
  ·cases h
theorem MB{ti:TI}(dc:lu P ti){o:BinOp}{xo yo:Operand}{x y:SV}{res:iC}(h:oO ti o x y=some res)(cd: ∀b∈res.vcs,b.prop ρ):
  (do eqGuard o ti.t xo yo (x.val ρ) (y.val ρ);binOp o ti.t (x.val ρ) (y.val ρ):Sem Value).run P w= .ok (res.val.val ρ) w∧res.iD= .none:=by
 cases x with
 | int k a=>
  cases y with
  | int k' b=>
   obtain⟨h1,h2⟩:=II (w:=w) ti h cd ti.t;exact⟨aV (yO _ _ _ _ _ _ _ _) h1,h2⟩
  | _=>simp [oO,ptrEq,wR,rC]at h
 | bool a=>
  cases y with
  | bool b=>
   simp only [oO]at h;split at h
   ·cases h
   ·rename_i hk;simp only [ne_eq,Decidable.not_not]at hk;have dE:=dc.kind;rw [hk]at dE;have hu:P.underlying ti.t=some .bool:=by
     unfold ju at dE;split at dE<;>simp_all
    split at h
    ·simp only [auq]at h;subst h;refine⟨aV (py _ _ _ _ _ _) ?_,rfl⟩;rw [SV.val,SV.val,FX hu,SV.val,pk,dT];cases a.den ρ<;>cases b.den ρ<;>rfl
    ·simp only [auq]at h;subst h;refine⟨aV (py _ _ _ _ _ _) ?_,rfl⟩;rw [SV.val,SV.val,FY hu,SV.val,dT,pk,dT];cases a.den ρ<;>cases b.den ρ<;>rfl
    ·cases h
  | _=>simp [oO,ptrEq,wR,rC]at h
 | agg a=>
  cases y with
  | agg b=>
   simp only [oO]at h;split at h
   ·cases h
   ·rename_i hl;simp only [Bool.or_eq_true,Bool.not_eq_true',not_or,Bool.not_eq_true,Bool.not_eq_false]at hl;obtain⟨⟨⟨yP,IK⟩,MC⟩,YJ⟩:=hl;rcases dc.lay with he | ⟨ahb,YK⟩
    ·rw [IK]at he;cases he
    ·have hE:=oe (P:=P) 9988 12 ti.t _ ahb w _ _ (.agg (SV.ao ρ a).toArray) (.agg (SV.ao ρ b).toArray) (lZ (ρ:=ρ) MC) (lZ (ρ:=ρ) YJ);have hV: ∀cs:List Value,Ft P ti.t cs (.agg cs.toArray):=by
      intro cs;have dE:=dc.kind;unfold ju at dE;unfold Ft;split at dE
      all_goals first
       | (rename_i hkd;rw [hkd]at yP;simp [TK.agg]at yP;done)
       | (rename_i hu _;rw [hu])
       | cases dE
     have hE':=hE (hV _) (hV _);have hg: ∀o:BinOp,(eqGuard o ti.t xo yo (.agg (SV.ao ρ a).toArray) (.agg (SV.ao ρ b).toArray)).run P w= .ok () w:=fun o=>run_eqGuard_agg w o ti.t xo yo _ _ YK
     split at h
     ·rename_i c hc;simp only [auq]at h;subst h;refine⟨aV (hg _) ?_,rfl⟩;simp only [SV.val];rw [run_eql_struct,hE',aut,vj hc]
     ·rename_i c hc;simp only [auq]at h;subst h;refine⟨aV (hg _) ?_,rfl⟩;simp only [SV.val];rw [run_neq_struct,hE',aut,dT,vj hc]
     ·cases h
  | _=>simp [oO,ptrEq,wR,rC]at h
 | _=>
  simp only [oO]at h;split at h
  ·exact IJ h cd
  split at h
  ·rename_i c hc;simp only [auq]at h;subst h;obtain⟨h1,h2,_⟩:=CT (ρ:=ρ) (w:=w) dc hc;exact⟨aV (cR _ _ _ _ _ _ h1) h2,rfl⟩
  ·rename_i c hc;simp only [auq]at h;subst h;obtain⟨h1,_,h2⟩:=CT (ρ:=ρ) (w:=w) dc hc;refine⟨aV (cR _ _ _ _ _ _ h1) ?_,rfl⟩;rw [h2];simp [SV.val,dT]
  ·cases h
end
structure vm (ρ:Env) (look:Nat→Option SV) (bH:Operand→Value):Prop where
 tmp: ∀s v,look s=some v→bH (.tmp s)=v.val ρ
 const: ∀v,bH (.const v)=v
 func: ∀f,bH (.func f)= .func (.func f) #[] #[]
section
variable {P:Program} {ρ:Env} {w:World} {look:Nat→Option SV} {bH:Operand→Value}
theorem eH(h:vm ρ look bH){x:Operand}{v:SV}(he:j8 look x=some v):bH x=v.val ρ:=by
 cases x with
 | tmp t=>exact h.tmp t v he
 | const c=>rw [h.const];exact(rD ρ c v he).symm
 | global g=>cases he
 | func f=>
  simp only [j8,auq]at he;subst he;rw [h.func];rfl
theorem hJ(h:vm ρ look bH): ∀(xs:List Operand) (vs:List SV),j9 (xs.map (j8 look))=some vs→xs.map bH=SV.bH ρ vs
 | [],vs,he=>by simp [j9]at he;subst he;rfl
 | x::r,vs,he=>by
  simp only [auK]at he;cases hx:j8 look x with
  | none=>rw [hx]at he;simp [j9]at he
  | some v=>
   rw [hx]at he;simp only [j9,aus]at he;obtain⟨rs,hrs,rfl⟩:=he;simp only [auK,SV.bH,eH h hx,hJ h r rs hrs]
inductive gC (ρ:Env):List (Nat×List SV)→List (Nat×Value)→Prop
 | nil:gC ρ [] []
 | cons {i cs v r s}:v.cells.toList=SV.ao ρ cs→gC ρ r s→gC ρ ((i,cs)::r) ((i,v)::s)
theorem p7(h:vm ρ look bH)(iz:ρ.Ok): ∀(xs:List (Nat×Operand)) (ps:List (Nat×List SV)),partsOf look xs=some ps→
  gC ρ ps (xs.map fun x=>(x.1,bH x.2))
 | [],ps,he=>by simp [partsOf]at he;subst he;exact .nil
 | (i,x)::r,ps,he=>by
  unfold partsOf at he;split at he
  ·rename_i v rest hv hr;rw [aus]at he;obtain⟨cs,nU,rfl⟩:=he;refine .cons ?_ (p7 h iz r rest hr);rw [eH h hv];exact(jL ρ nU iz).1
  ·cases he
theorem sK(place:Nat→Option (Nat×Nat)): ∀{ps:List (Nat×List SV)} {vs:List (Nat×Value)},gC ρ ps vs→
  ∀{cells ra:List SV} {arr:Array Value},lR place cells ps=some ra→arr.toList=SV.ao ρ cells→
  ∃r,Instr.fill place arr vs=some r∧r.toList=SV.ao ρ ra
 | _,_,.nil,cells,ra,arr,h,ha=>by
  simp only [lR,auq]at h;subst h;exact⟨arr,by rw [Instr.fill],ha⟩
 | _,_,.cons (i:=i) (cs:=cs) (v:=v) (r:=r) (s:=s) hv hr,cells,ra,arr,h,ha=>by
  unfold lR at h;split at h
  ·rename_i off size P3;split at h
   ·rename_i hlen;split at h
    ·rename_i ahd lY;obtain⟨hc,hle⟩:=mL ρ lY;have gx:v.cells.size=size:=by
      rw [←Array.length_toList,hv,bu];exact hlen
     have aoi:arr.size=(SV.ao ρ cells).length:=by rw [←Array.length_toList,ha]
     have eV:(SV.ao ρ cs).length=size:=by rw [←hv];simpa using gx
     obtain⟨g1,g2⟩:=Great.foldl_set off v.cells.toList 0 arr;unfold Instr.fill;simp only [P3,gx];rw [if_neg (by simp;omega)];refine sK place hr h ?_;rw [hc];apply List.ext_getElem?;intro k;rw [auX];have e1: ∀(cs0:Array Value),((v.cells.zipIdx).foldl (fun cs (x:Value×Nat)=>cs.setIfInBounds (off+x.2) x.1) cs0)=((v.cells.toList.zipIdx 0).foldl (fun cs (x:Value×Nat)=>cs.setIfInBounds (off+x.2) x.1) cs0):=by
      intro cs0;rw [←Array.foldl_toList,Array.toList_zipIdx]
     have e2:=g2 k;rw [←e1 arr]at e2;refine Eq.trans e2 ?_;simp only [Nat.add_zero,Array.length_toList,gx];rw [List.append_assoc,List.getElem?_append,List.getElem?_append,List.length_take,Nat.min_eq_left (by omega),eV,List.getElem?_take,List.getElem?_drop,←ha,←hv];by_cases h1:k<off
     ·rw [if_neg (by omega),if_pos h1,if_pos h1];simp
     ·rw [if_neg h1];by_cases h2:k<off+size
      ·rw [if_pos ⟨by omega,h2,by omega⟩,if_pos (by omega)]
      ·rw [if_neg (by omega),if_neg (by omega)];have:off+size+(k - off - size)=k:=by omega
       rw [this];simp
    ·cases h
   ·cases h
  ·cases h
end
def IL(ρ:Env)(nb r:Nat):Ck→Option HP
 | .row b true cs=>if b=nb then some (ak r true (SV.ao ρ cs))else none
 | .map b kl ka va z has aA=>if b=nb then some (oN r kl ka va (SV.ao ρ z) (has.den ρ) fun i=>(aA.map (bP.cells ρ)).flatMap fun c=>c i)else none
 | .vn b kl ka va z es=>if b=nb then some (uZ r kl ka va (SV.ao ρ z) (fun i=>rJ es i) fun i=>SV.ao ρ (nX es z i))else none
 | .KA b t e n a=>if b=nb then some (Xz r t e (aj .u8 (n.den ρ 0).toNat (a.den ρ)))else none
 | .O0 b l p=>if b=nb then some (Xx r l p)else none
 | .P4 b m=>if b=nb then some (Xy r (ρ.bv.getD m 0))else none
 | _=>none
def Did(P:Program)(ρ:Env)(w:World)(hp:List Ck)(S:Nat→Nat→Prop)(nb nv:Nat)(run:Result Next)(res:iC):Prop:=
 match res.iD with
 | .none=>run= .ok (.value (res.val.val ρ)) w
 | .new ck=> ∃w' hpr,IL ρ nb w.heap.size ck=some hpr∧run= .ok (.value (res.val.val (ρ.nV w.heap.size))) w'∧iP w w'∧w'.heap.size=w.heap.size+1∧
   (∀k,k<w.heap.size→w'.heap[k]? =w.heap[k]?)∧hpr.p w' (fun k=>k=w.heap.size)
 | .set j ck=> ∃w',(run= .ok (.value (res.val.val ρ)) w'∨(res.val= .undef∧run= .ok .skip w'))∧CS P w ρ hp S j ck w'
 | .app j ck=> ∃t s n aA v w' S',ck= .cC true nv t s n aA∧res.val= .vv nv∧run= .ok (.value v) w'∧v.oneCell'=true∧
   (∃Ux,hp[j]? =some Ux∧(Ux.den ρ).wr=true)∧iP w w'∧(∀k,k<w.heap.size→¬S j k→w'.heap[k]? =w.heap[k]?)∧
   (aB true t s v (n.den ρ 0).toNat (aG ρ (n.den ρ 0).toNat aA)).p w' S'∧∀k,S' k→S j k∨(w.heap.size≤k∧k<w'.heap.size)
 | .own ck=> ∃t s n aA v w' S',ck= .cC true nv t s n aA∧res.val= .vv nv∧run= .ok (.value v) w'∧v.oneCell'=true∧iP w w'∧(∀k,k<w.heap.size→w'.heap[k]? =w.heap[k]?)∧
   (aB true t s v (n.den ρ 0).toNat (aG ρ (n.den ρ 0).toNat aA)).p w' S'∧∀k,S' k→w.heap.size≤k∧k<w'.heap.size
 | .FZ ck=> ∃t s n aA v w' S',ck= .cC false nv t s n aA∧res.val= .vv nv∧run= .ok (.value v) w'∧v.oneCell'=true∧iP w w'∧(∀k,k<w.heap.size→w'.heap[k]? =w.heap[k]?)∧
   (aB false t s v (n.den ρ 0).toNat (aG ρ (n.den ρ 0).toNat aA)).p w' S'∧∀k,S' k→w.heap.size≤k∧k<w'.heap.size
section
variable {P:Program} {ρ:Env} {w:World} {look:Nat→Option SV} {bH:Operand→Value} {hp:List Ck} {S:Nat→Nat→Prop} {nb nv:Nat} {T:List TI}
theorem ko(ρ:Env)(b:Nat):(ρ.nV b).bv[ρ.bv.length]?.getD 0=b:=by
 simp [Env.nV]
theorem sL(w:World)(cs:Array Value)(e:TypeId)(l:List Value)(hl:cs.toList=l):
  iP w (w.alloc (.cells cs e))∧(w.alloc (.cells cs e)).heap.size=w.heap.size+1∧(∀k,k<w.heap.size→(w.alloc (.cells cs e)).heap[k]? =w.heap[k]?)∧
   (ak w.heap.size true l).p (w.alloc (.cells cs e)) (fun k=>k=w.heap.size):=by
 subst hl;refine⟨⟨rfl,rfl,rfl,by simp⟩,by simp,fun k hk=>heap_alloc_old w _ hk,fun k=>Iff.rfl,e,(0,0),?_,fun _=>rfl⟩;have hn:=heap_alloc_new w (.cells cs e);simpa using hn
theorem F0(hT:bB P T=true)(DM:ρ.bv.length=nb){t:TypeId}{ti:TI}(ht:aU T t=some ti):
  Did P ρ w hp S nb nv ((do pure (.value (←Instr.alloc t true (.tuple #[]))):Sem Next).run P w) {val:= .ptr nb 0,iD:= .new (.row nb true ti.zero)}:=by
 obtain⟨rfl,dc⟩:=aC hT ht;obtain⟨z,hz,hc⟩:=dc.zero w;obtain⟨h1,h2,h3,h4⟩:=sL w z.cells ti.t (SV.ao ρ ti.zero) (hc ρ).symm;refine⟨_,_,if_pos rfl,?_,h1,h2,h3,h4⟩;subst DM;simp [Instr.alloc,hz,newVar,newRow,SV.val,ko]
theorem MD(hT:bB P T=true)(DM:ρ.bv.length=nb){t:TypeId}{ti:TI}(ht:aU T t=some ti)(e:Nat)(hz0:SV.ao ρ ti.zero=[.pointer none,.slice none 0 0]):
  Did P ρ w hp S nb nv ((do pure (.value (←Instr.alloc t true (.tuple #[]))):Sem Next).run P w) {val:= .ptr nb 0,iD:= .new (.KA nb t e (.lit 0) (.lit 0))}:=by
 obtain⟨rfl,dc⟩:=aC hT ht;obtain⟨z,hz,hc⟩:=dc.zero w;obtain⟨h1,h2,h3,h4⟩:=sL w z.cells ti.t (SV.ao ρ ti.zero) (hc ρ).symm;refine⟨_,_,if_pos rfl,?_,h1,h2,h3,?_⟩
 ·subst DM;simp [Instr.alloc,hz,newVar,newRow,SV.val,ko]
 ·have Ab:z.cells= #[.pointer none,.slice none 0 0]:=auY (by rw [←hc ρ,hz0]);refine⟨.pointer none,.slice none 0 0,?_,.inl rfl,?_,by simp [Value.ownBlock],fun k=>by simp [Value.ownBlock]⟩
  ·have hn:=heap_alloc_new w (.cells z.cells ti.t);rw [Ab]at hn;rw [Ab];exact hn
  ·simp only [E.den,Int.toNat_zero,aj,List.range_zero,List.map_nil,List.length_nil];exact World.ownsRow_nil _ 0 e 1
theorem ME(iz:ρ.Ok)(DM:ρ.bv.length=nb){t:TypeId}{v:SV}{cs:List SV}(nU:fk v=some cs):
  Did P ρ w hp S nb nv ((do pure (.value (←Instr.box t (v.val ρ))):Sem Next).run P w) {val:= .ptr nb 0,iD:= .new (.row nb true cs)}:=by
 obtain⟨h1,h2,h3,h4⟩:=sL w (v.val ρ).cells t (SV.ao ρ cs) (jL ρ nU iz).1;refine⟨_,_,if_pos rfl,?_,h1,h2,h3,h4⟩;subst DM;simp [Instr.box,newVar,newRow,SV.val,ko]
theorem Ac{ti:TI}(dc:lu P ti){cs x:List SV}{off:Nat}{v:SV}(hx:j6 off ti.size cs=some x)(hv:jt ti.k.agg x=some v):
  (part ti.t (SV.ao ρ cs).toArray off).run P w= .ok (v.val ρ) w:=by
 obtain⟨h1,h2⟩:=fj ρ hx;obtain⟨h3,h4⟩:=od ρ hv;cases ha:ti.k.agg with
 | true=>
  simp only [part,auC,dc.isAgg w,ha,aut,if_true,dc.sizeOf w,auI,h3 ha,h1];congr 3;apply auY;simp [List.extract_eq_take_drop]
 | false=>
  have h5:=h4 ha;rw [h1]at h5;have h6:(SV.ao ρ cs)[off]? =some (v.val ρ):=by
   have:(((SV.ao ρ cs).drop off).take ti.size)[0]? =some (v.val ρ):=by rw [h5];rfl
   rw [List.getElem?_take,List.getElem?_drop]at this;split at this
   ·simpa using this
   ·cases this
  simp [part,dc.isAgg w,ha,h6]
theorem yd(hT:bB P T=true): ∀(fs:List Field) (l:List (Nat×Nat)),fs.map (fun f=>(f.type,f.offset))=l→rK T l=true→
  ∃IM,fs.mapM (fun f=>(P.info? f.type).map fun i=>(f.offset,i.size))=some IM∧∀i,IM[i]? =jh T l i
 | [],l,h,_=>by
  subst h;exact⟨[],rfl,fun i=>by simp [jh]⟩
 | f::r,l,h,ha=>by
  subst h;simp only [rK,auK,List.all_cons,ai]at ha;obtain⟨p,hp,P3⟩:=yd hT r _ rfl (by simpa [rK] using ha.2);obtain⟨ti,dc⟩:=Option.isSome_iff_exists.1 ha.1;obtain⟨ht,hi⟩:=aC hT dc;obtain⟨i,h1,h2,_⟩:=hi.info;rw [ht]at h1;refine⟨(f.offset,i.size)::p,?_,fun k=>?_⟩
  ·simp [List.mapM_cons,h1,hp]
  ·cases k with
   | zero=>simp [jh,dc,h2]
   | succ k=>rw [List.getElem?_cons_succ,P3 k];simp [jh]
theorem ug(hT:bB P T=true){ti:TI}{t:TypeId}(ht:aU T t=some ti){fs:List (Nat×Nat)}(hk:ti.k= .struct fs)(nW:rK T fs=true)
  {ps:List (Nat×List SV)} {vs:Array (Nat×Value)} (hm:gC ρ ps vs.toList) {cs:List SV} (hf:lR (jh T fs) ti.zero ps=some cs):
  (Instr.build t vs).run P w= .ok (.agg (SV.ao ρ cs).toArray) w:=by
 obtain⟨rfl,dc⟩:=aC hT ht;obtain⟨i,hi,_,_,z,hz,hc⟩:=dc.info;have dE:=dc.kind;rw [hk]at dE;obtain⟨fa,hu,UE⟩:=og dE;obtain⟨IM,hp,P3⟩:=yd hT fa.toList fs UE nW;obtain⟨r,hr,hrl⟩:=sK (ρ:=ρ) (jh T fs) hm hf (hc ρ).symm;have hb:P.built ti.t vs.toList=some r:=by
  unfold Program.built;simp only [hi,hu,hz,hp];rw [←hr];congr 1;funext k;rw [←P3 k];simp
 rw [run_build w ti.t vs r hb];congr 2;exact auY (by simpa using hrl)
theorem yQ(hT:bB P T=true){ti te:TI}{t:TypeId}(ht:aU T t=some ti){n e:Nat}(hk:ti.k= .arr n e)(jf:aU T e=some te)
  {ps:List (Nat×List SV)} {vs:Array (Nat×Value)} (hm:gC ρ ps vs.toList) {cs:List SV} (hf:lR (lE te.size) ti.zero ps=some cs):
  (Instr.build t vs).run P w= .ok (.agg (SV.ao ρ cs).toArray) w:=by
 obtain⟨rfl,dc⟩:=aC hT ht;obtain⟨rfl,MF⟩:=aC hT jf;obtain⟨i,hi,_,_,z,hz,hc⟩:=dc.info;obtain⟨ie,UF,UG,_⟩:=MF.info;have dE:=dc.kind;rw [hk]at dE;have hu:=pz dE;obtain⟨r,hr,hrl⟩:=sK (ρ:=ρ) (lE te.size) hm hf (hc ρ).symm;have hb:P.built ti.t vs.toList=some r:=by
  unfold Program.built;simp only [hi,hu,hz,UF,UG];exact hr
 rw [run_build w ti.t vs r hb];congr 2;exact auY (by simpa using hrl)
theorem MG(n:Nat)(l:List SV):SV.ao ρ (List.replicate n l).flatten=(List.replicate n (SV.ao ρ l)).flatten:=by
 induction n with
 | zero=>rfl
 | succ n ih=>rw [List.replicate_succ,List.replicate_succ,List.flatten_cons,List.flatten_cons,iK,ih]
theorem vo(z:Array Value)(len:Nat)(_:0<z.size):((Array.range (len*z.size)).map (z[· %z.size]!)).toList=(List.replicate len z.toList).flatten:=by
 rw [Array.toList_map,Array.toList_range]
 induction len with
 | zero=>simp
 | succ n ih=>
  rw [List.replicate_succ',List.flatten_append,←ih,Nat.add_mul,Nat.one_mul,List.range_add,List.map_append];congr 1;rw [List.map_map,List.flatten_singleton];apply List.ext_getElem
  ·simp
  ·intro i h1 h2;have hi:i<z.size:=by simpa using h2
   simp [Nat.add_mod,Nat.mod_eq_of_lt hi,hi]
theorem wS(hT:bB P T=true)(DM:ρ.bv.length=nb){ti te:TI}{t:TypeId}(ht:aU T t=some ti){e:Nat}(hk:ti.k= .slice e)(jf:aU T e=some te){len:Nat}
  (hlen: ¬(len=0∨te.size=0∨1000<len*te.size)) {ps:List (Nat×List SV)} {vs:Array (Nat×Value)} (hm:gC ρ ps vs.toList) {cs:List SV}
  (hf:lR (lE te.size) (List.replicate len te.zero).flatten ps=some cs):
  Did P ρ w hp S nb nv ((do pure (.value (←Instr.buildSlice t len vs)):Sem Next).run P w)
   {val:= .sl nb (.lit 0) te.size (.lit len) (.lit len),iD:= .new (.row nb true cs)}:=by
 obtain⟨rfl,dc⟩:=aC hT ht;obtain⟨rfl,MF⟩:=aC hT jf;obtain⟨ie,UF,UG,_,z,hz,hc⟩:=MF.info;have dE:=dc.kind;rw [hk]at dE;have hu:=bK dE;have qJ:z.cells.size=te.size:=by
  rw [←Array.length_toList,←hc ρ,bu,MF.Cf]
 have P5:((Array.range (len*ie.size)).map (z.cells[· %z.cells.size]!)).toList=SV.ao ρ (List.replicate len te.zero).flatten:=by
  rw [MG,hc ρ,UG,←qJ];exact vo _ _ (by omega)
 obtain⟨r,hr,hrl⟩:=sK (ρ:=ρ) (lE te.size) hm hf P5;have t_: ¬len*ie.size=0:=by rw [UG];simp only [Nat.mul_eq_zero];omega
 have hb:=run_buildSlice (P:=P) w ti.t te.t len vs r ie z hu UF hz (by rw [UG];omega) t_ (by rw [←hr,UG];rfl);obtain⟨h1,h2,h3,h4⟩:=sL w r te.t (SV.ao ρ cs) hrl;refine⟨_,_,if_pos rfl,?_,h1,h2,h3,h4⟩;subst DM;simp [hb,SV.val,ko,E.den]
end
end Go.RX
