/- A reflective symbolic executor, part 12: operators, and values put together. · A reflective symbolic executor, part 13: what one operation does. -/
import Derived.Test.YtfnaoeleljhmhaaGreatRxK
import Derived.Maps.AppendAt
import Derived.Great.BuildSlice

namespace Go.RX
theorem wrap_fits(k:IntKind)(n:Int)(h:IntKind.lo k≤n)(h':n≤IntKind.hi k):k.wrap n=n:=by
 cases k<;>simp only [IntKind.lo,IntKind.hi]at h h'<;>simp [IntKind.wrap,IntKind.bits,IntKind.signed]<;>omega
section
variable {P:Program} {ρ:Env} {w:World}
theorem fitK_den{k:IntKind}{e:E}(hvc: ∀b∈(fitK k e).2,b.prop ρ):(fitK k e).1.den ρ 0=k.wrap (e.den ρ 0):=by
 unfold fitK at hvc ⊢;split
 ·rfl
 ·rfl
 ·split
  ·rename_i hs;simp only [hs,if_true]at hvc;have h1:=hvc (.le (.lit (IntKind.lo k)) e) (by simp);have h2:=hvc (.le e (.lit (IntKind.hi k))) (by simp);simp only [BE.prop,E.den]at h1 h2;exact(wrap_fits k _ h1 h2).symm
  ·rfl
theorem convK_or(k:IntKind)(e:E):convK k e=fitK k e∨convK k e=(.wrap k e,[]):=by
 unfold convK;split
 ·split
  ·exact .inr rfl
  ·exact .inl rfl
 ·exact .inl rfl
theorem convK_den{k:IntKind}{e:E}(hvc: ∀b∈(convK k e).2,b.prop ρ):(convK k e).1.den ρ 0=k.wrap (e.den ρ 0):=by
 rcases convK_or k e with h | h
 ·rw [h]at hvc ⊢;exact fitK_den hvc
 ·rw [h];rfl
theorem fitLay_fitV: ∀{l:List SV} {L:List CellK},fitLay l L=true→fitV (SV.cellsL ρ l) L
 | [],[],_=>trivial
 | [],k::L,h=>by simp [fitLay]at h
 | x::r,L,h=>by
  unfold fitLay at h;split at h
  ·rename_i heq;cases heq
  ·rename_i k e r' k' l heq;cases heq;simp only [Bool.and_eq_true,beq_iff_eq]at h;exact⟨h.1,fitLay_fitV h.2⟩
  ·rename_i b r' l heq;cases heq;exact fitLay_fitV (l:=r) h
  ·rename_i b r' l heq;cases heq;exact fitLay_fitV (l:=r) h
  ·rename_i b r' l heq;cases heq;exact fitLay_fitV (l:=r) h
  ·rename_i L k n a r' heq;cases heq;simp only [Bool.and_eq_true,decide_eq_true_eq]at h;obtain⟨⟨h1,h2⟩,h3⟩:=h;have ih:=fitLay_fitV (l:=r) h3;simp only [SV.cellsL,SV.cells];have key: ∀(m:Nat) (f:Nat→Int) (L:List CellK) (xs:List Value),m≤L.length→(L.take m).all (· == .int k)=true→fitV xs (L.drop m)→fitV (segCells k m f++xs) L:=by
    intro m
    induction m with
    | zero=>intro f L xs _ _ hf;simpa [segCells] using hf
    | succ m ihm=>
     intro f L xs hle hall hf;cases L with
     | nil=>simp at hle
     | cons c L=>
      simp only [List.take_succ_cons,List.all_cons,Bool.and_eq_true,beq_iff_eq,List.drop_succ_cons,List.length_cons]at hall hf hle;have hc:=hall.1;subst hc;have:segCells k (m+1) f= .int k (f 0)::segCells k m (fun j=>f (j+1)):=by
       unfold segCells;rw [List.range_succ_eq_map,List.map_cons,List.map_map];rfl
      rw [this];exact⟨rfl,ihm _ L xs (by omega) hall.2 hf⟩
   exact key n _ _ _ h1 h2 ih
  ·cases h
theorem eqV_seg(k:IntKind)(n:Nat)(f g:Nat→Int)(a b:List Value):
  eqV (segCells k n f++a) (segCells k n g++b)=((List.range n).all (fun j=>f j==g j)&&eqV a b):=by
 induction n generalizing f g with
 | zero=>simp [segCells]
 | succ n ih=>
  have e: ∀h:Nat→Int,segCells k (n+1) h= .int k (h 0)::segCells k n (fun j=>h (j+1)):=by
   intro h;unfold segCells;rw [List.range_succ_eq_map,List.map_cons,List.map_map];rfl
  rw [e f,e g,List.cons_append,List.cons_append,eqV,ih,List.range_succ_eq_map,List.all_cons,List.all_map,Bool.and_assoc];rfl
theorem cellsEq_den: ∀{a b:List SV} {c:BE},cellsEq a b=some c→c.den ρ=eqV (SV.cellsL ρ a) (SV.cellsL ρ b)
 | [],[],c,h=>by simp [cellsEq]at h;subst h;rfl
 | [],y::s,c,h=>by simp [cellsEq]at h
 | x::r,b,c,h=>by
  unfold cellsEq at h;split at h
  ·rename_i heq;exact absurd heq (by simp)
  ·rename_i k e r' k' e' s heq;cases heq;split at h
   ·rename_i hk;subst hk;rw [Option.map_eq_some_iff]at h;obtain⟨d,hd,rfl⟩:=h;rw [bAnd_den,bEq_den,cellsEq_den hd];rfl
   ·cases h
  ·rename_i p r' q s heq;cases heq;rw [Option.map_eq_some_iff]at h;obtain⟨d,hd,rfl⟩:=h;rw [bAnd_den,bIte_den,bNot_den,cellsEq_den hd];simp only [SV.cellsL,SV.cells,List.singleton_append,eqV];cases p.den ρ<;>cases q.den ρ<;>rfl
  ·rename_i k n e r' k' n' e' s heq;cases heq;split at h
   ·rename_i hk;obtain⟨rfl,rfl⟩:=hk;rw [Option.map_eq_some_iff]at h;obtain⟨d,hd,rfl⟩:=h;rw [bAnd_den,cellsEq_den hd];simp only [SV.cellsL,SV.cells];rw [eqV_seg];congr 1;split
    ·rename_i he;subst he;simp [BE.den]
    ·rfl
   ·cases h
  ·rename_i y s heq;cases heq;split at h
   ·rename_i p q hp hq;rw [Option.map_eq_some_iff]at h;obtain⟨d,hd,rfl⟩:=h;rw [bAnd_den,cellsEq_den hd,bSeq_den];simp only [SV.cellsL,toStrE_cells ρ hp,toStrE_cells ρ hq,List.singleton_append,eqV,ByteArray.toList_eq]
   ·cases h
  ·cases h
theorem cellsL_ints(k:IntKind)(a:E): ∀(l:List Nat),SV.cellsL ρ (l.map fun j=>SV.int k (eSel a (.lit (j:Nat))))=l.map fun j=>Value.int k (a.den ρ j)
 | []=>rfl
 | x::r=>by simp only [List.map_cons,SV.cellsL,SV.cells,eSel_den,den_lit,Int.toNat_natCast,List.singleton_append,cellsL_ints k a r]
theorem expandR_cells: ∀(l:List SV),SV.cellsL ρ (expandR l)=SV.cellsL ρ l
 | []=>rfl
 | v::r=>by
  unfold expandR;split
  ·rename_i h;cases h
  ·rename_i k n a r' h;cases h;rw [cellsL_append,cellsL_ints,expandR_cells r];rfl
  ·rename_i v' r' _ h;cases h;simp only [SV.cellsL,expandR_cells r]
theorem cellsEqX_den{a b:List SV}{c:BE}(h:cellsEqX a b=some c):c.den ρ=eqV (SV.cellsL ρ a) (SV.cellsL ρ b):=by
 unfold cellsEqX at h;split at h
 ·rename_i c' hc;cases h;exact cellsEq_den hc
 ·rw [cellsEq_den h,expandR_cells,expandR_cells]
theorem run_eqGuard_int(op:BinOp)(t:TypeId)(x y:Operand)(k k':IntKind)(a b:Int):(eqGuard op t x y (.int k a) (.int k' b)).run P w= .ok () w:=by
 cases op<;>simp [eqGuard]
theorem run_eqGuard_bool(op:BinOp)(t:TypeId)(x y:Operand)(a b:Bool):(eqGuard op t x y (.bool a) (.bool b)).run P w= .ok () w:=by
 cases op<;>simp [eqGuard]
def guardFree:Value→Bool
 | .nilIface=>false
 | .agg _=>false
 | _=>true
theorem run_eqGuard_free(op:BinOp)(t:TypeId)(x y:Operand)(a b:Value)(h:guardFree a=true):(eqGuard op t x y a b).run P w= .ok () w:=by
 cases op<;>cases a<;>simp_all [eqGuard,guardFree]
theorem nonNeg_prop{b:E}(h: ∀c∈nonNeg b,c.prop ρ):0≤b.den ρ 0:=by
 by_cases hl:bLe (.lit 0) b= .lit true
 ·have:(bLe (.lit 0) b).den ρ=true:=by rw [hl];rfl
  rw [bLe_den]at this;exact of_decide_eq_true this
 ·have:=h (bLe (.lit 0) b) (by unfold nonNeg;simp [hl]);rw [←BE.den_iff,bLe_den]at this;exact of_decide_eq_true this
theorem run_shl(k yk:IntKind)(x y:Int)(h:0≤y):(Op.shift .shl k x yk y).run P w= .ok (.int k (k.wrap (x*2^min y.toNat k.bits))) w:=by
 simp [Op.shift,Int.not_lt.2 h]
theorem run_shr(k yk:IntKind)(x y:Int)(h:0≤y):(Op.shift .shr k x yk y).run P w= .ok (.int k (x.fdiv (2^min y.toNat k.bits))) w:=by
 simp [Op.shift,Int.not_lt.2 h]
theorem run_binInt(ti:TI){o:BinOp}{k k':IntKind}{a b:E}{res:Res}(h:binSym ti o (.int k a) (.int k' b)=some res)(hvc: ∀b∈res.vcs,b.prop ρ)(t:TypeId):
  (binOp o t (.int k (a.den ρ 0)) (.int k' (b.den ρ 0))).run P w= .ok (res.val.val ρ) w∧res.eff= .none:=by
 cases o<;>simp only [binSym]at h
 case shl=>
  simp only [Option.some.injEq]at h;subst h;exact⟨by simp only [binOp];rw [run_shl _ _ _ _ (nonNeg_prop hvc),SV.val,eBin_den];rfl,rfl⟩
 case shr=>
  simp only [Option.some.injEq]at h;subst h;exact⟨by simp only [binOp];rw [run_shr _ _ _ _ (nonNeg_prop hvc),SV.val,eBin_den];rfl,rfl⟩
 all_goals
  split at h
  ·cases h
  ·rename_i hk;simp only [ne_eq,Decidable.not_not]at hk;subst hk
   first
   | (simp at h;done)
   | (
     simp only [Option.some.injEq]at h;subst h;refine⟨?_,rfl⟩
     first
     | (simp only [binOp,ne_eq,not_true_eq_false,if_false,Op.intCmp,Sem.run_pure,SV.val,bEq_den,bNot_den,bLt_den,bLe_den];first | done | rfl)
     | (simp only [binOp,ne_eq,not_true_eq_false,if_false,Op.intBits,Sem.run_pure,SV.val,eBin_den];rfl)
     | (simp only [binOp,ne_eq,not_true_eq_false,if_false,Op.intArith,Sem.run_pure,SV.val,fitK_den hvc,eAdd_den,eSub_den,eMul_den])
     | (
      have hnz:=hvc (bNz b) (by simp);rw [←BE.den_iff,bNz_den]at hnz;have hnz':b.den ρ 0≠0:=by simpa using hnz
      simp [binOp,Op.intDiv,hnz',SV.val,eWrap_den,eBin_den,iop]))
theorem wrap_of_guardFree{ti:TI}{o:BinOp}{xo yo:Operand}{u v:Value}{r:Result Value}(hg:(eqGuard o ti.t xo yo u v).run P w= .ok () w)(h:(binOp o ti.t u v).run P w=r):
  (do eqGuard o ti.t xo yo u v;binOp o ti.t u v:Sem Value).run P w=r:=by
 simp only [Sem.run_bind,hg,Result.andThen_ok,h]
theorem run_eqlBool{t:TypeId}(ht:P.underlying t=some .bool)(a b:Bool):(binOp .eql t (.bool a) (.bool b)).run P w= .ok (.bool (a==b)) w:=by
 simp [binOp,Op.equal,Op.maxDepth,run_equalIn_bool' w 9999 t a b ht]
theorem run_neqBool{t:TypeId}(ht:P.underlying t=some .bool)(a b:Bool):(binOp .neq t (.bool a) (.bool b)).run P w= .ok (.bool (!(a==b))) w:=by
 simp [binOp,Op.equal,Op.maxDepth,run_equalIn_bool' w 9999 t a b ht]
theorem run_eqlOf{t:TypeId}{x y:Value}{b:Bool}(hb:binOp .eql t x y=(do pure (.bool (←Op.equal t x y)):Sem Value))(h: ∀d,(Op.equalIn (d+1) t x y).run P w= .ok b w):
  (binOp .eql t x y).run P w= .ok (.bool b) w:=by
 have:(Op.equal t x y).run P w= .ok b w:=h 9999;rw [hb];simp only [Sem.run_bind,this,Result.andThen_ok,Sem.run_pure]
theorem run_neqOf{t:TypeId}{x y:Value}{b:Bool}(hb:binOp .neq t x y=(do pure (.bool (!(←Op.equal t x y))):Sem Value))(h: ∀d,(Op.equalIn (d+1) t x y).run P w= .ok b w):
  (binOp .neq t x y).run P w= .ok (.bool (!b)) w:=by
 have:(Op.equal t x y).run P w= .ok b w:=h 9999;rw [hb];simp only [Sem.run_bind,this,Result.andThen_ok,Sem.run_pure]
theorem kind_ptr{u:Option TypeDesc}{e:Nat}(h:tkOk u (.ptr e)=true):u=some (.pointer e):=by
 cases u with
 | none=>simp [tkOk]at h
 | some d=>cases d<;>simp_all [tkOk]
theorem kind_slice{u:Option TypeDesc}{e:Nat}(h:tkOk u (.slice e)=true):u=some (.slice e):=by
 cases u with
 | none=>simp [tkOk]at h
 | some d=>cases d<;>simp_all [tkOk]
theorem kind_arr{u:Option TypeDesc}{n e:Nat}(h:tkOk u (.arr n e)=true):u=some (.array n e):=by
 cases u with
 | none=>simp [tkOk]at h
 | some d=>cases d<;>simp_all [tkOk]
theorem kind_int{u:Option TypeDesc}{k:IntKind}(h:tkOk u (.int k)=true):u=some (.int k):=by
 cases u with
 | none=>simp [tkOk]at h
 | some d=>cases d<;>simp_all [tkOk]
theorem kind_struct{u:Option TypeDesc}{l:List (Nat×Nat)}(h:tkOk u (.struct l)=true): ∃fs:Array Field,u=some (.struct fs)∧fs.toList.map (fun f=>(f.type,f.offset))=l:=by
 cases u with
 | none=>simp [tkOk]at h
 | some d=>cases d<;>simp_all [tkOk]
theorem kind_func{u:Option TypeDesc}(h:tkOk u .func=true): ∃a b c,u=some (.func a b c):=by
 cases u with
 | none=>simp [tkOk]at h
 | some d=>cases d<;>simp_all [tkOk]
theorem eqp1{t:TypeId}{e:Nat}(hu:P.underlying t=some (.pointer e))(d:Nat):
  (Op.equalIn (d+1) t (.pointer none) (.pointer none)).run P w= .ok true w:=by
 have hun:=run_underlying hu w;rw [Op.equalIn];simp only [Sem.run_bind,hun,Result.andThen_ok];rfl
theorem eqp2{t:TypeId}{e:Nat}{a:Addr}(hu:P.underlying t=some (.pointer e))(d:Nat):
  (Op.equalIn (d+1) t (.pointer none) (.pointer (some a))).run P w= .ok false w:=by
 have hun:=run_underlying hu w;rw [Op.equalIn];simp only [Sem.run_bind,hun,Result.andThen_ok];rfl
theorem eqp3{t:TypeId}{e:Nat}{a:Addr}(hu:P.underlying t=some (.pointer e))(d:Nat):
  (Op.equalIn (d+1) t (.pointer (some a)) (.pointer none)).run P w= .ok false w:=by
 have hun:=run_underlying hu w;rw [Op.equalIn];simp only [Sem.run_bind,hun,Result.andThen_ok];rfl
theorem eqs1{t:TypeId}{e n m n' m':Nat}(hu:P.underlying t=some (.slice e))(d:Nat):
  (Op.equalIn (d+1) t (.slice none n m) (.slice none n' m')).run P w= .ok true w:=by
 have hun:=run_underlying hu w;rw [Op.equalIn];simp only [Sem.run_bind,hun,Result.andThen_ok];rfl
theorem eqs2{t:TypeId}{e n m n' m':Nat}{a:Addr}(hu:P.underlying t=some (.slice e))(d:Nat):
  (Op.equalIn (d+1) t (.slice none n m) (.slice (some a) n' m')).run P w= .ok false w:=by
 have hun:=run_underlying hu w;rw [Op.equalIn];simp only [Sem.run_bind,hun,Result.andThen_ok];rfl
theorem eqs3{t:TypeId}{e n m n' m':Nat}{a:Addr}(hu:P.underlying t=some (.slice e))(d:Nat):
  (Op.equalIn (d+1) t (.slice (some a) n m) (.slice none n' m')).run P w= .ok false w:=by
 have hun:=run_underlying hu w;rw [Op.equalIn];simp only [Sem.run_bind,hun,Result.andThen_ok];rfl
theorem eqf1{t:TypeId}{x:Array TypeId}{y:Array TypeId}{z:Bool}(hu:P.underlying t=some (.func x y z))(d:Nat):
  (Op.equalIn (d+1) t .nilFunc .nilFunc).run P w= .ok true w:=by
 have hun:=run_underlying hu w;rw [Op.equalIn];simp only [Sem.run_bind,hun,Result.andThen_ok];rfl
theorem eqf2{t:TypeId}{x:Array TypeId}{y:Array TypeId}{z:Bool}{f:Fn}{a b:Array Value}(hu:P.underlying t=some (.func x y z))(d:Nat):
  (Op.equalIn (d+1) t .nilFunc (.func f a b)).run P w= .ok false w:=by
 have hun:=run_underlying hu w;rw [Op.equalIn];simp only [Sem.run_bind,hun,Result.andThen_ok];rfl
theorem eqf3{t:TypeId}{x:Array TypeId}{y:Array TypeId}{z:Bool}{f:Fn}{a b:Array Value}(hu:P.underlying t=some (.func x y z))(d:Nat):
  (Op.equalIn (d+1) t (.func f a b) .nilFunc).run P w= .ok false w:=by
 have hun:=run_underlying hu w;rw [Op.equalIn];simp only [Sem.run_bind,hun,Result.andThen_ok];rfl
theorem eqp4{t:TypeId}{e:Nat}(hu:P.underlying t=some (.pointer e))(y:Int)(d:Nat):
  (Op.equalIn (d+1) t (.pointer none) (ptrV y)).run P w= .ok (y==0) w:=by
 unfold ptrV;split
 ·rename_i h;subst h;exact eqp1 hu d
 ·rename_i h;rw [show(y==(0:Int))=false by simpa using h];exact eqp2 hu d
theorem eqp5{t:TypeId}{e:Nat}(hu:P.underlying t=some (.pointer e))(y:Int)(d:Nat):
  (Op.equalIn (d+1) t (ptrV y) (.pointer none)).run P w= .ok (y==0) w:=by
 unfold ptrV;split
 ·rename_i h;subst h;exact eqp1 hu d
 ·rename_i h;rw [show(y==(0:Int))=false by simpa using h];exact eqp3 hu d
theorem ptrV_free(y:Int):guardFree (ptrV y)=true:=by unfold ptrV;split<;>rfl
theorem ptrEq_run{ti:TI}(hti:TInfo P ti){x y:SV}{c:BE}(h:ptrEq ti.k x y=some c):
  guardFree (x.val ρ)=true∧(binOp .eql ti.t (x.val ρ) (y.val ρ)).run P w= .ok (.bool (c.den ρ)) w∧(binOp .neq ti.t (x.val ρ) (y.val ρ)).run P w= .ok (.bool (!c.den ρ)) w:=by
 have hk:=hti.kind;generalize ti.k=kk at h hk;unfold ptrEq at h;split at h
 ·cases h;exact⟨rfl,run_eqlOf rfl fun d=>eqp1 (kind_ptr hk) d,run_neqOf rfl fun d=>eqp1 (kind_ptr hk) d⟩
 ·cases h;exact⟨rfl,run_eqlOf rfl fun d=>eqp2 (kind_ptr hk) d,run_neqOf rfl fun d=>eqp2 (kind_ptr hk) d⟩
 ·cases h;exact⟨rfl,run_eqlOf rfl fun d=>eqp3 (kind_ptr hk) d,run_neqOf rfl fun d=>eqp3 (kind_ptr hk) d⟩
 ·cases h;exact⟨rfl,run_eqlOf rfl fun d=>eqp2 (kind_ptr hk) d,run_neqOf rfl fun d=>eqp2 (kind_ptr hk) d⟩
 ·cases h;exact⟨rfl,run_eqlOf rfl fun d=>eqp3 (kind_ptr hk) d,run_neqOf rfl fun d=>eqp3 (kind_ptr hk) d⟩
 ·cases h;exact⟨rfl,run_eqlOf rfl fun d=>by rw [bEq_den];exact eqp4 (kind_ptr hk) _ d,run_neqOf rfl fun d=>by rw [bEq_den];exact eqp4 (kind_ptr hk) _ d⟩
 ·cases h;exact⟨ptrV_free _,run_eqlOf (by simp only [SV.val];unfold ptrV;split<;>rfl) fun d=>by rw [bEq_den];exact eqp5 (kind_ptr hk) _ d,run_neqOf (by simp only [SV.val];unfold ptrV;split<;>rfl) fun d=>by rw [bEq_den];exact eqp5 (kind_ptr hk) _ d⟩
 ·cases h;exact⟨rfl,run_eqlOf rfl fun d=>eqs1 (kind_slice hk) d,run_neqOf rfl fun d=>eqs1 (kind_slice hk) d⟩
 ·cases h;exact⟨rfl,run_eqlOf rfl fun d=>eqs2 (kind_slice hk) d,run_neqOf rfl fun d=>eqs2 (kind_slice hk) d⟩
 ·cases h;exact⟨rfl,run_eqlOf rfl fun d=>eqs3 (kind_slice hk) d,run_neqOf rfl fun d=>eqs3 (kind_slice hk) d⟩
 ·cases h;obtain⟨_,_,_,hu⟩:=kind_func hk;exact⟨rfl,run_eqlOf rfl fun d=>eqf1 hu d,run_neqOf rfl fun d=>eqf1 hu d⟩
 ·cases h;obtain⟨_,_,_,hu⟩:=kind_func hk;exact⟨rfl,run_eqlOf rfl fun d=>eqf2 hu d,run_neqOf rfl fun d=>eqf2 hu d⟩
 ·cases h;obtain⟨_,_,_,hu⟩:=kind_func hk;exact⟨rfl,run_eqlOf rfl fun d=>eqf3 hu d,run_neqOf rfl fun d=>eqf3 hu d⟩
 ·cases h;obtain⟨_,_,_,hu⟩:=kind_func hk;exact⟨rfl,run_eqlOf rfl fun d=>eqf3 hu d,run_neqOf rfl fun d=>eqf3 hu d⟩
 ·cases h
theorem ba_toList(l:List UInt8):(⟨l.toArray⟩:ByteArray).toList=l:=by rw [ByteArray.toList_eq]
theorem run_str_eql(t:TypeId)(a b:List UInt8):(binOp .eql t (.string ⟨a.toArray⟩) (.string ⟨b.toArray⟩)).run P w= .ok (.bool (a==b)) w:=by
 rw [binOp_string_eql,ba_toList,ba_toList];rfl
theorem run_str_neq(t:TypeId)(a b:List UInt8):(binOp .neq t (.string ⟨a.toArray⟩) (.string ⟨b.toArray⟩)).run P w= .ok (.bool (!(a==b))) w:=by
 rw [binOp_string_neq,ba_toList,ba_toList];rfl
theorem ba_append(a b:List UInt8):(⟨a.toArray⟩:ByteArray)++⟨b.toArray⟩=⟨(a++b).toArray⟩:=by
 apply ByteArray.ext;rw [ByteArray.data_append];simp
theorem run_str_add(t:TypeId)(a b:List UInt8)(h:a.length+b.length≤9223372036854775807):(binOp .add t (.string ⟨a.toArray⟩) (.string ⟨b.toArray⟩)).run P w= .ok (.string ⟨(a++b).toArray⟩) w:=by
 rw [binOp_string_add,run_string_add_sum w _ _ (by simpa [ByteArray.size] using h),ba_append]
theorem strBin_run{ti:TI}{o:BinOp}{xo yo:Operand}{x y:SV}{res:Res}(h:strBin o x y=some res)(hvc: ∀b∈res.vcs,b.prop ρ):
  (do eqGuard o ti.t xo yo (x.val ρ) (y.val ρ);binOp o ti.t (x.val ρ) (y.val ρ):Sem Value).run P w= .ok (res.val.val ρ) w∧res.eff= .none:=by
 unfold strBin at h;split at h
 ·rename_i a b;split at h
  ·split at h
   ·rename_i hl;cases h;exact⟨wrap_of_guardFree (run_eqGuard_free _ _ _ _ _ _ rfl) (run_str_add _ _ _ (by omega)),rfl⟩
   ·cases h
  ·cases h;exact⟨wrap_of_guardFree (run_eqGuard_free _ _ _ _ _ _ rfl) (run_str_eql _ _ _),rfl⟩
  ·cases h;exact⟨wrap_of_guardFree (run_eqGuard_free _ _ _ _ _ _ rfl) (run_str_neq _ _ _),rfl⟩
  ·cases h
 ·split at h
  ·rename_i a b ha hb;have ea:=toStrE_val ρ ha;have eb:=toStrE_val ρ hb;rw [ea,eb];split at h
   ·cases h;have n1:0≤(eLen a).den ρ 0:=nonNeg_prop (b:=eLen a) fun c hc=>hvc c (List.mem_append_left _ (List.mem_append_left _ hc))
    have n2:0≤(eLen b).den ρ 0:=nonNeg_prop (b:=eLen b) fun c hc=>hvc c (List.mem_append_left _ (List.mem_append_right _ hc))
    have n3:=hvc _ (List.mem_append_right _ (List.mem_singleton.2 rfl));rw [←BE.den_iff,bLe_den]at n3;have n3:=of_decide_eq_true n3;rw [eAdd_den]at n3;rw [eLen_den]at n1 n2 n3;rw [eLen_den]at n3;simp only [den_lit]at n3;refine⟨wrap_of_guardFree (run_eqGuard_free _ _ _ _ _ _ rfl) ?_,rfl⟩;rw [run_str_add _ _ _ (by rw [strD_length,strD_length];omega),SV.val,eCat_den ρ a b n1 n2]
   ·cases h;refine⟨wrap_of_guardFree (run_eqGuard_free _ _ _ _ _ _ rfl) ?_,rfl⟩;rw [run_str_eql,SV.val,bSeq_den]
   ·cases h;refine⟨wrap_of_guardFree (run_eqGuard_free _ _ _ _ _ _ rfl) ?_,rfl⟩;rw [run_str_neq,SV.val,bNot_den,bSeq_den]
   ·cases h
  ·cases h
theorem run_binOp{ti:TI}(hti:TInfo P ti){o:BinOp}{xo yo:Operand}{x y:SV}{res:Res}(h:binSym ti o x y=some res)(hvc: ∀b∈res.vcs,b.prop ρ):
  (do eqGuard o ti.t xo yo (x.val ρ) (y.val ρ);binOp o ti.t (x.val ρ) (y.val ρ):Sem Value).run P w= .ok (res.val.val ρ) w∧res.eff= .none:=by
 cases x with
 | int k a=>
  cases y with
  | int k' b=>
   obtain⟨h1,h2⟩:=run_binInt (w:=w) ti h hvc ti.t;exact⟨wrap_of_guardFree (run_eqGuard_int _ _ _ _ _ _ _ _) h1,h2⟩
  | _=>simp [binSym,ptrEq,strBin,toStrE]at h
 | bool a=>
  cases y with
  | bool b=>
   simp only [binSym]at h;split at h
   ·cases h
   ·rename_i hk;simp only [ne_eq,Decidable.not_not]at hk;have hkk:=hti.kind;rw [hk]at hkk;have hu:P.underlying ti.t=some .bool:=by
     unfold tkOk at hkk;split at hkk<;>simp_all
    split at h
    ·simp only [Option.some.injEq]at h;subst h;refine⟨wrap_of_guardFree (run_eqGuard_bool _ _ _ _ _ _) ?_,rfl⟩;rw [SV.val,SV.val,run_eqlBool hu,SV.val,bIte_den,bNot_den];cases a.den ρ<;>cases b.den ρ<;>rfl
    ·simp only [Option.some.injEq]at h;subst h;refine⟨wrap_of_guardFree (run_eqGuard_bool _ _ _ _ _ _) ?_,rfl⟩;rw [SV.val,SV.val,run_neqBool hu,SV.val,bNot_den,bIte_den,bNot_den];cases a.den ρ<;>cases b.den ρ<;>rfl
    ·cases h
  | _=>simp [binSym,ptrEq,strBin,toStrE]at h
 | agg a=>
  cases y with
  | agg b=>
   simp only [binSym]at h;split at h
   ·cases h
   ·rename_i hl;simp only [Bool.or_eq_true,Bool.not_eq_true',not_or,Bool.not_eq_true,Bool.not_eq_false]at hl;obtain⟨⟨⟨hl0,hl1⟩,hl2⟩,hl3⟩:=hl;rcases hti.lay with he | ⟨hlay,hguard⟩
    ·rw [hl1]at he;cases he
    ·have hE:=equalIn_lay (P:=P) 9988 12 ti.t _ hlay w _ _ (.agg (SV.cellsL ρ a).toArray) (.agg (SV.cellsL ρ b).toArray) (fitLay_fitV (ρ:=ρ) hl2) (fitLay_fitV (ρ:=ρ) hl3);have hV: ∀cs:List Value,VOf P ti.t cs (.agg cs.toArray):=by
      intro cs;have hkk:=hti.kind;unfold tkOk at hkk;unfold VOf;split at hkk
      all_goals first
       | (rename_i hkd;rw [hkd]at hl0;simp [TK.agg]at hl0;done)
       | (rename_i hu _;rw [hu])
       | cases hkk
     have hE':=hE (hV _) (hV _);have hg: ∀o:BinOp,(eqGuard o ti.t xo yo (.agg (SV.cellsL ρ a).toArray) (.agg (SV.cellsL ρ b).toArray)).run P w= .ok () w:=fun o=>run_eqGuard_agg w o ti.t xo yo _ _ hguard
     split at h
     ·rename_i c hc;simp only [Option.some.injEq]at h;subst h;refine⟨wrap_of_guardFree (hg _) ?_,rfl⟩;simp only [SV.val];rw [run_eql_struct,hE',Result.andThen_ok,cellsEqX_den hc]
     ·rename_i c hc;simp only [Option.some.injEq]at h;subst h;refine⟨wrap_of_guardFree (hg _) ?_,rfl⟩;simp only [SV.val];rw [run_neq_struct,hE',Result.andThen_ok,bNot_den,cellsEqX_den hc]
     ·cases h
  | _=>simp [binSym,ptrEq,strBin,toStrE]at h
 | _=>
  simp only [binSym]at h;split at h
  ·exact strBin_run h hvc
  split at h
  ·rename_i c hc;simp only [Option.some.injEq]at h;subst h;obtain⟨h1,h2,_⟩:=ptrEq_run (ρ:=ρ) (w:=w) hti hc;exact⟨wrap_of_guardFree (run_eqGuard_free _ _ _ _ _ _ h1) h2,rfl⟩
  ·rename_i c hc;simp only [Option.some.injEq]at h;subst h;obtain⟨h1,_,h2⟩:=ptrEq_run (ρ:=ρ) (w:=w) hti hc;refine⟨wrap_of_guardFree (run_eqGuard_free _ _ _ _ _ _ h1) ?_,rfl⟩;rw [h2];simp [SV.val,bNot_den]
  ·cases h
end
end Go.RX

namespace Go.RX
structure OpsOk (ρ:Env) (look:Nat→Option SV) (vals:Operand→Value):Prop where
 tmp: ∀s v,look s=some v→vals (.tmp s)=v.val ρ
 const: ∀v,vals (.const v)=v
 func: ∀f,vals (.func f)= .func (.func f) #[] #[]
section
variable {P:Program} {ρ:Env} {w:World} {look:Nat→Option SV} {vals:Operand→Value}
theorem opEval_spec(h:OpsOk ρ look vals){x:Operand}{v:SV}(he:opEval look x=some v):vals x=v.val ρ:=by
 cases x with
 | tmp t=>exact h.tmp t v he
 | const c=>rw [h.const];exact(ofValue_val ρ c v he).symm
 | global g=>cases he
 | func f=>
  simp only [opEval,Option.some.injEq]at he;subst he;rw [h.func];rfl
theorem optAll_spec(h:OpsOk ρ look vals): ∀(xs:List Operand) (vs:List SV),optAll (xs.map (opEval look))=some vs→xs.map vals=SV.vals ρ vs
 | [],vs,he=>by simp [optAll]at he;subst he;rfl
 | x::r,vs,he=>by
  simp only [List.map_cons]at he;cases hx:opEval look x with
  | none=>rw [hx]at he;simp [optAll]at he
  | some v=>
   rw [hx]at he;simp only [optAll,Option.map_eq_some_iff]at he;obtain⟨rs,hrs,rfl⟩:=he;simp only [List.map_cons,SV.vals,opEval_spec h hx,optAll_spec h r rs hrs]
inductive PartsMatch (ρ:Env):List (Nat×List SV)→List (Nat×Value)→Prop
 | nil:PartsMatch ρ [] []
 | cons {i cs v r s}:v.cells.toList=SV.cellsL ρ cs→PartsMatch ρ r s→PartsMatch ρ ((i,cs)::r) ((i,v)::s)
theorem partsOf_spec(h:OpsOk ρ look vals)(hok:ρ.Ok): ∀(xs:List (Nat×Operand)) (ps:List (Nat×List SV)),partsOf look xs=some ps→
  PartsMatch ρ ps (xs.map fun x=>(x.1,vals x.2))
 | [],ps,he=>by simp [partsOf]at he;subst he;exact .nil
 | (i,x)::r,ps,he=>by
  unfold partsOf at he;split at he
  ·rename_i v rest hv hr;rw [Option.map_eq_some_iff]at he;obtain⟨cs,hcs,rfl⟩:=he;refine .cons ?_ (partsOf_spec h hok r rest hr);rw [opEval_spec h hv];exact(toCells_cells ρ hcs hok).1
  ·cases he
theorem fill_spec(place:Nat→Option (Nat×Nat)): ∀{ps:List (Nat×List SV)} {vs:List (Nat×Value)},PartsMatch ρ ps vs→
  ∀{cells cs':List SV} {arr:Array Value},fillSym place cells ps=some cs'→arr.toList=SV.cellsL ρ cells→
  ∃r,Instr.fill place arr vs=some r∧r.toList=SV.cellsL ρ cs'
 | _,_,.nil,cells,cs',arr,h,ha=>by
  simp only [fillSym,Option.some.injEq]at h;subst h;exact⟨arr,by rw [Instr.fill],ha⟩
 | _,_,.cons (i:=i) (cs:=cs) (v:=v) (r:=r) (s:=s) hv hr,cells,cs',arr,h,ha=>by
  unfold fillSym at h;split at h
  ·rename_i off size hpl;split at h
   ·rename_i hlen;split at h
    ·rename_i cells2 hput;obtain⟨hc,hle⟩:=rowPut_cells ρ hput;have hsz:v.cells.size=size:=by
      rw [←Array.length_toList,hv,cellsL_length];exact hlen
     have hasz:arr.size=(SV.cellsL ρ cells).length:=by rw [←Array.length_toList,ha]
     have hcl:(SV.cellsL ρ cs).length=size:=by rw [←hv];simpa using hsz
     obtain⟨g1,g2⟩:=Great.foldl_set off v.cells.toList 0 arr;unfold Instr.fill;simp only [hpl,hsz];rw [if_neg (by simp;omega)];refine fill_spec place hr h ?_;rw [hc];apply List.ext_getElem?;intro k;rw [Array.getElem?_toList];have e1: ∀(cs0:Array Value),((v.cells.zipIdx).foldl (fun cs (x:Value×Nat)=>cs.setIfInBounds (off+x.2) x.1) cs0)=((v.cells.toList.zipIdx 0).foldl (fun cs (x:Value×Nat)=>cs.setIfInBounds (off+x.2) x.1) cs0):=by
      intro cs0;rw [←Array.foldl_toList,Array.toList_zipIdx]
     have e2:=g2 k;rw [←e1 arr]at e2;refine Eq.trans e2 ?_;simp only [Nat.add_zero,Array.length_toList,hsz];rw [List.append_assoc,List.getElem?_append,List.getElem?_append,List.length_take,Nat.min_eq_left (by omega),hcl,List.getElem?_take,List.getElem?_drop,←ha,←hv];by_cases h1:k<off
     ·rw [if_neg (by omega),if_pos h1,if_pos h1];simp
     ·rw [if_neg h1];by_cases h2:k<off+size
      ·rw [if_pos ⟨by omega,h2,by omega⟩,if_pos (by omega)]
      ·rw [if_neg (by omega),if_neg (by omega)];have:off+size+(k - off - size)=k:=by omega
       rw [this];simp
    ·cases h
   ·cases h
  ·cases h
end
end Go.RX
