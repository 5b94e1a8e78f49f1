/- Executor. -/
import Derived.Test.YtllcdnkfbeokhaaGreatRxOe
open Array renaming getElem?_eq_some_iff → aqw, getElem?_toList → aqS
open Go.Result renaming andThen_ok → aqu
open Go.Sem renaming run_bind → aqA, run_pure → aqH
open List renaming eq_nil_of_length_eq_zero → aqF, getElem?_eq_some_iff → aqo, map_cons → aqP, mem_append → aqC, mem_map → aqV, mem_of_getElem? → aqG, mem_singleton → aqx
open Option renaming map_eq_some_iff → aqq
open Option.some renaming injEq → aqp
namespace Go.RX
theorem Td{a b:Int}(h:Jn a=Jn b):a=b:=by
 cases a<;>cases b<;>simp only [Jn]at h
 ·congr 1;omega
 ·omega
 ·omega
 ·congr 1;omega
theorem Te{a b L M:Nat}(h:(2*a+1)*2^L=(2*b+1)*2^M):a=b∧L=M:=by
 induction L generalizing M with
 | zero=>
  cases M with
  | zero=>simp only [Nat.pow_zero,Nat.mul_one]at h;exact⟨by omega,rfl⟩
  | succ M=>
   rw [Nat.pow_succ,Nat.pow_zero,Nat.mul_one,←Nat.mul_assoc]at h;omega
 | succ L ih=>
  cases M with
  | zero=>
   rw [Nat.pow_succ,Nat.pow_zero,Nat.mul_one,←Nat.mul_assoc]at h;omega
  | succ M=>
   rw [Nat.pow_succ,Nat.pow_succ,←Nat.mul_assoc,←Nat.mul_assoc]at h;have:=ih (Nat.eq_of_mul_eq_mul_right (by omega) h);exact⟨this.1,by omega⟩
theorem HR{a b:Nat}{x y:Int}(h:sB a x=sB b y):a=b∧x=y:=by
 unfold sB at h;obtain⟨h1,h2⟩:=Te h;rw [h2]at h1;have hx:Jn x<2^((Jn y).log2+1):=by rw [←h2];exact Nat.lt_log2_self
 have hy:Jn y<2^((Jn y).log2+1):=Nat.lt_log2_self;generalize 2^((Jn y).log2+1)=N at h1 hx hy;have e1:a=b:=by
  have p:(a*N+Jn x)/N=a:=by rw [Nat.mul_comm,Nat.mul_add_div (by omega),Nat.div_eq_of_lt hx,Nat.add_zero]
  have q:(b*N+Jn y)/N=b:=by rw [Nat.mul_comm,Nat.mul_add_div (by omega),Nat.div_eq_of_lt hy,Nat.add_zero]
  rw [←p,←q,h1]
 subst e1;exact⟨rfl,Td (by omega)⟩
theorem Fx: ∀(l m:List Int) (a b:Nat),l.length=m.length→l.foldl sB a=m.foldl sB b→a=b∧l=m
 | [],[],a,b,_,h=>⟨h,rfl⟩
 | [],_::_,_,_,hl,_=>by simp at hl
 | _::_,[],_,_,hl,_=>by simp at hl
 | x::l,y::m,a,b,hl,h=>by
  simp only [List.foldl_cons]at h;obtain⟨h1,h2⟩:=Fx l m _ _ (by simpa using hl) h;obtain⟨h3,h4⟩:=HR h1;exact⟨h3,by rw [h4,h2]⟩
theorem oO{l m:List Int}(hl:l.length=m.length)(h:aS l=aS m):l=m:=(Fx l m 0 0 hl h).2
theorem Jb: ∀{kl:List IntKind} {a b:List Int},a.length=kl.length→b.length=kl.length→xN kl a=xN kl b→a=b
 | [],a,b,ha,hb,_=>by
  rw [aqF ha,aqF hb]
 | k::kl,[],_,ha,_,_=>by simp at ha
 | k::kl,_::_,[],_,hb,_=>by simp at hb
 | k::kl,x::a,y::b,ha,hb,h=>by
  simp only [xN,List.zip_cons_cons,aqP,List.cons.injEq,Value.int.injEq,true_and]at h;rw [h.1,Jb (by simpa using ha) (by simpa using hb) h.2]
theorem pG: ∀{kl:List IntKind} {a:List Int},a.length=kl.length→gy (xN kl a) (kl.map some)
 | [],a,ha=>by rw [aqF ha];trivial
 | k::kl,[],ha=>by simp at ha
 | k::kl,x::a,ha=>by
  simp only [xN,List.zip_cons_cons,aqP,gy,true_and];exact pG (by simpa using ha)
theorem Jc: ∀{kl:List IntKind} {a b:List Int},a.length=kl.length→b.length=kl.length→sI (xN kl a) (xN kl b)=decide (a=b)
 | [],a,b,ha,hb=>by
  rw [aqF ha,aqF hb];rfl
 | k::kl,[],_,ha,_=>by simp at ha
 | k::kl,_::_,[],_,hb=>by simp at hb
 | k::kl,x::a,y::b,ha,hb=>by
  have ih:=Jc (kl:=kl) (a:=a) (b:=b) (by simpa using ha) (by simpa using hb);unfold xN at ih;simp only [xN,List.zip_cons_cons,aqP,sI,ih];by_cases h1:x=y<;>by_cases h2:a=b<;>simp [h1,h2]
theorem Tf: ∀{kl:List IntKind} {a:List Int},∀u∈xN kl a,∃k n,u= .int k n:=by
 intro kl a u hu;simp only [xN,aqV]at hu;obtain⟨x,_,rfl⟩:=hu;exact⟨_,_,rfl⟩
theorem uM(kl:List IntKind)(ks:List Int):dX true kl ks= .agg (xN kl ks).toArray:=rfl
theorem Fy{ka:Bool}{kl:List IntKind}(hk:ka=false→∃k,kl=[k]){a b:List Int}(ha:a.length=kl.length)(hb:b.length=kl.length)(h:dX ka kl a=dX ka kl b):a=b:=by
 cases ka with
 | true=>
  rw [uM,uM]at h;have:=congrArg (fun v=>match v with | .agg c=>c.toList | _=>[]) h;exact Jb ha hb (by simpa using this)
 | false=>
  obtain⟨k,rfl⟩:=hk rfl
  match a,b,ha,hb with
  | [x],[y],_,_=>simpa [dX] using h
section
variable {P:Program} {w:World}
theorem eX(em:Bool)(k:Nat): ∀(d:Nat) (t:TypeId) (L:List iB),fY P d t=some L→∀(xs:List Value) (x:Value),gy xs L→Dd P t xs x→(Instr.checkKey em (k+d) t x).run P w= .ok () w
 | 0,t,L,h=>by simp [fY]at h
 | d+1,t,L,h=>by
  intro xs x hx vx;rw [show k+(d+1)=(k+d)+1 from rfl,Instr.checkKey];unfold fY at h;cases hu:P.underlying t with
  | none=>simp [hu]at h
  | some td=>
   rw [hu]at h;simp only [Dd,hu]at vx;simp only [aqA,run_underlying hu,aqu];cases td with
   | int q=>
    simp only [aqp]at h;subst h vx;cases x<;>simp only [gy]at hx
    rfl
   | bool=>
    simp only [aqp]at h;subst h vx;cases x<;>simp only [gy]at hx
    rfl
   | array n e=>
    simp only at h vx;subst vx;split at h
    ·rename_i l hl;split at h
     ·rename_i hs;simp only [aqp]at h;subst h;have kT:P.cellsOf e=l.length:=by simpa using hs
      have DJ: ∃i,P.info? e=some i:=by
       cases d with
       | zero=>simp [fY]at hl
       | succ d=>
        cases hi:P.info? e with
        | none=>simp [fY,Program.underlying,hi]at hl
        | some i=>exact⟨i,rfl⟩
      obtain⟨i,hi⟩:=DJ;have fy:i.size=l.length:=by simpa [Program.cellsOf,hi] using kT
      dsimp only;simp only [Std.Legacy.Range.forIn_eq_forIn_range',Std.Legacy.Range.size,Nat.sub_zero,Nat.add_one_sub_one,Nat.div_one];have key: ∀(m j:Nat),gy (xs.drop (j*l.length)) (List.replicate m l).flatten→
        (forIn (List.range' j m) PUnit.unit fun i _=>(do
         let s←sizeOf e
         let a←part e xs.toArray (i*s)
         Instr.checkKey em (k+d) e a
         pure (ForInStep.yield PUnit.unit):Sem (ForInStep PUnit))).run P w= .ok () w:=by
       intro m
       induction m with
       | zero=>intro j _;simp
       | succ m ih=>
        intro j hf;rw [List.replicate_succ,List.flatten_cons]at hf;obtain⟨h1,h2⟩:=fC hf;rw [List.drop_drop]at h2;obtain⟨a,pa,va⟩:=iX w hl kT xs (j*l.length) h1;have hc:=eX em k d e l hl _ _ h1 va;have Yz:=ih (j+1) (by rw [Nat.add_mul,Nat.one_mul];exact h2);rw [List.range'_succ];simp only [List.forIn_cons,aqA,run_sizeOf w hi,aqu,kT,pa,hc,aqH];exact Yz
      have:=key n 0 (by simpa using hx);simpa [aqA] using this
     ·cases h
    ·cases h
   | struct fs=>
    simp only at h vx;subst vx;split at h
    ·cases h
    ·dsimp only;rw [←Array.forIn_toList];have key: ∀(L:List Field) (off:Nat) (l:List iB),kH P (fY P d) L off=some l→gy (xs.drop off) l→
       (forIn L PUnit.unit fun f _=>(do
        if f.name≠ "_" then
         Instr.checkKey em (k+d) f.type (←part f.type xs.toArray f.offset)
         pure (ForInStep.yield PUnit.unit)
        else pure (ForInStep.yield PUnit.unit):Sem (ForInStep PUnit))).run P w= .ok () w:=by
      intro L
      induction L with
      | nil=>intro off l _ _;simp
      | cons f L ih=>
       intro off l hl hf;unfold kH at hl;split at hl
       ·cases hl
       ·rename_i hn;simp only [Bool.or_eq_true,beq_iff_eq,bne_iff_ne,ne_eq,not_or,Decidable.not_not]at hn;obtain⟨hn,rfl⟩:=hn;split at hl
        ·rename_i l1 LG;split at hl
         ·rename_i hs;rw [aqq]at hl;obtain⟨L',UQ,rfl⟩:=hl;have kT:P.cellsOf f.type=l1.length:=by simpa using hs
          obtain⟨h1,h2⟩:=fC hf;rw [List.drop_drop]at h2;obtain⟨a,pa,va⟩:=iX w LG kT xs f.offset h1;have hc:=eX em k d _ _ LG _ _ h1 va;have Yz:=ih _ _ UQ h2;simp only [List.forIn_cons,aqA,hn,ne_eq,not_false_eq_true,if_true,aqu,pa,hc,aqH];exact Yz
         ·cases hl
        ·cases hl
     have:=key fs.toList 0 L h (by simpa using hx);simpa [aqA] using this
   | _=>simp at h
theorem xg(k:IntKind)(n:Int): ∀(es:List MapEntry) (i:Nat),(∀e∈es,∃m,e.key= .int k m)→
  (Instr.findNow (.int k) (.int k n) es i=some none∧∀e∈es,e.key≠ .int k n)∨
  ∃j e,Instr.findNow (.int k) (.int k n) es i=some (some (i+j,e.val))∧es[j]? =some e∧e.key= .int k n
 | [],i,_=> .inl ⟨rfl,by simp⟩
 | e::es,i,h=>by
  obtain⟨m,hm⟩:=h e (by simp);by_cases hnm:n=m
  ·subst hnm;exact .inr ⟨0,e,by simp [Instr.findNow,hm,Instr.sameNow],rfl,hm⟩
  ·have hs:Instr.sameNow (.int k) (.int k n) e.key=some false:=by rw [hm];simp [Instr.sameNow,hnm]
   rcases xg k n es (i+1) (fun x hx=>h x (by simp [hx]))with⟨h1,h2⟩ | ⟨j,e',h1,h2,h3⟩
   ·refine .inl ⟨by simp only [Instr.findNow,hs,h1],fun x hx=>?_⟩;rcases List.mem_cons.1 hx with rfl | hx
    ·rw [hm];simp;exact fun h=>hnm h.symm
    ·exact h2 x hx
   ·exact .inr ⟨j+1,e',by simp only [Instr.findNow,hs,h1];simp [Nat.add_assoc,Nat.add_comm 1 j],by simpa using h2,h3⟩
theorem xh{kt:TypeId}{kl:List IntKind}(hl:fY P 12 kt=some (kl.map some))(ha: ∀cs:List Value,Dd P kt cs (.agg cs.toArray)){ks:List Int}(hk:ks.length=kl.length):
  ∀(es:List MapEntry) (i:Nat),(∀e∈es,∃m:List Int,m.length=kl.length∧e.key=dX true kl m)→
   ((Instr.findAsking kt (dX true kl ks) es i).run P w= .ok none w∧∀e∈es,e.key≠dX true kl ks)∨
   ∃j e,(Instr.findAsking kt (dX true kl ks) es i).run P w= .ok (some (i+j,e.val)) w∧es[j]? =some e∧e.key=dX true kl ks
 | [],i,_=> .inl ⟨by simp [Instr.findAsking],by simp⟩
 | e::es,i,h=>by
  obtain⟨m,hm,hem⟩:=h e (by simp);have heq:(Op.equal kt (dX true kl ks) e.key).run P w= .ok (decide (ks=m)) w:=by
   have:=nq (P:=P) 9988 12 kt _ hl w _ _ (dX true kl ks) e.key (pG hk) (pG hm) (ha _) (by rw [hem];exact ha _);rw [Jc hk hm]at this;exact this
  by_cases hkm:ks=m
  ·subst hkm;exact .inr ⟨0,e,by simp [Instr.findAsking,heq],rfl,hem⟩
  ·rcases xh hl ha hk es (i+1) (fun x hx=>h x (by simp [hx]))with⟨h1,h2⟩ | ⟨j,e',h1,h2,h3⟩
   ·refine .inl ⟨by simp [Instr.findAsking,heq,hkm,h1],fun x hx=>?_⟩;rcases List.mem_cons.1 hx with rfl | hx
    ·rw [hem];intro he;exact hkm (Fy (by simp) hm hk he).symm
    ·exact h2 x hx
   ·exact .inr ⟨j+1,e',by simp [Instr.findAsking,heq,hkm,h1,Nat.add_assoc,Nat.add_comm 1 j],by simpa using h2,h3⟩
structure C1 (P:Program) (kt:TypeId) (kl:List IntKind) (ka:Bool):Prop where
 lay:fY P 12 kt=some (kl.map some)
 one:ka=false→∃k,kl=[k]∧P.underlying kt=some (.int k)
 agg:ka=true→(∀cs:List Value,Dd P kt cs (.agg cs.toArray))∧(match P.underlying kt with | some (.array _ _) | some (.struct _)=>true | _=>false)=true
theorem C1.val{kt:TypeId}{kl:List IntKind}{ka:Bool}(h:C1 P kt kl ka){ks:List Int}(hk:ks.length=kl.length):Dd P kt (xN kl ks) (dX ka kl ks):=by
 cases ka with
 | true=>exact(h.agg rfl).1 _
 | false=>
  obtain⟨k,rfl,hu⟩:=h.one rfl
  match ks,hk with
  | [x],_=>simp [Dd,hu,xN,dX]
theorem C1.inj{kt:TypeId}{kl:List IntKind}{ka:Bool}(h:C1 P kt kl ka){a b:List Int}(ha:a.length=kl.length)(hb:b.length=kl.length)(he:dX ka kl a=dX ka kl b):a=b:=
 Fy (fun hk=>by obtain⟨k,h1,_⟩:=h.one hk;exact⟨k,h1⟩) ha hb he
theorem jx{kt:TypeId}{kl:List IntKind}{ka:Bool}(h:C1 P kt kl ka){ks:List Int}(hk:ks.length=kl.length)(es:List MapEntry)
  (xP: ∀e∈es,∃m:List Int,m.length=kl.length∧e.key=dX ka kl m):
  ((Instr.findKey kt (dX ka kl ks) es).run P w= .ok none w∧∀e∈es,e.key≠dX ka kl ks)∨
  ∃j e,(Instr.findKey kt (dX ka kl ks) es).run P w= .ok (some (j,e.val)) w∧es[j]? =some e∧e.key=dX ka kl ks:=by
 cases ka with
 | true=>
  obtain⟨h1,h2⟩:=h.agg rfl;rw [run_findKey_eq w h2];rcases xh (P:=P) (w:=w) h.lay h1 hk es 0 xP with h | ⟨j,e,h3,h4,h5⟩
  ·exact .inl h
  ·exact .inr ⟨j,e,by simpa using h3,h4,h5⟩
 | false=>
  obtain⟨k,rfl,hu⟩:=h.one rfl
  match ks,hk with
  | [n],_=>
   have ahW: ∀e∈es,∃m,e.key= .int k m:=by
    intro e he;obtain⟨m,hm,hem⟩:=xP e he
    match m,hm with
    | [x],_=>exact⟨x,hem⟩
   rcases xg k n es 0 ahW with⟨h1,h2⟩ | ⟨j,e,h1,h2,h3⟩
   ·exact .inl ⟨by simp [Instr.findKey,run_underlying hu,dX,h1],h2⟩
   ·exact .inr ⟨j,e,by simp [Instr.findKey,run_underlying hu,dX,h1],h2,h3⟩
theorem wh{r:Nat}{es:Array MapEntry}{clock:Nat}(hb:w.heap[r]? =some (.map es clock)):(getObj r).run P w= .ok (.map es clock) w:=by simp [getObj,Sem.run,hb]
theorem C2{r:Nat}{es:Array MapEntry}{clock:Nat}(o:Obj)(hb:w.heap[r]? =some (.map es clock)):(setObj r o).run P w= .ok () {w with heap:=w.heap.setIfInBounds r o}:=by
 simp [setObj,Sem.run,hb]
theorem qV{t kt vt:TypeId}(hm:P.underlying t=some (.map kt vt)){kl:List IntKind}{ka va comma:Bool}(h:C1 P kt kl ka){ks:List Int}(hk:ks.length=kl.length)
  {b:Nat} {zero:List Value} {has:Nat→Bool} {row:Nat→List Value} {S:Nat→Prop} (hp:(tD b kl ka va zero has row).p w S) {z:Value} (hz:(zeroValue vt).run P w= .ok z w) (QO:uW va zero=z):
  (Instr.lookup t (.map (some b)) (dX ka kl ks) comma).run P w= .ok (if comma then .tuple #[uW va (row (aS ks)),.bool (has (aS ks))]else uW va (row (aS ks))) w:=by
 obtain⟨_,⟨es,clock,hb,xP⟩,hzero⟩:=hp;have DX:=eX (P:=P) (w:=w) es.isEmpty 9988 12 kt _ h.lay _ _ (pG hk) (h.val hk);simp only [Instr.lookup,aqA,run_underlying hm,aqu,wh hb,DX,aqH];rcases jx (P:=P) (w:=w) h hk es.toList (fun e he=>by obtain⟨m,h1,h2,_⟩:=xP.keys e he;exact⟨m,h1,h2⟩)with⟨h1,h2⟩ | ⟨j,e,h1,h2,h3⟩
 ·have FX:has (aS ks)=false:=by
   cases hh:has (aS ks)with
   | false=>rfl
   | true=>
    obtain⟨e,he,CP⟩:=xP.all ks hk hh;exact absurd CP (h2 e he)
  rw [h1];simp only [aqu,aqA,hz,aqH,FX,hzero ks hk FX,QO]
 ·obtain⟨m,hm1,Zs,hm3,hm4⟩:=xP.keys e (aqG h2);have:m=ks:=h.inj hm1 hk (Zs.symm.trans h3);subst this;rw [h1];simp only [aqu,hm3,hm4];cases comma<;>rfl
theorem zZ{t kt vt:TypeId}(hm:P.underlying t=some (.map kt vt)){kl:List IntKind}{ka comma:Bool}(h:C1 P kt kl ka){ks:List Int}(hk:ks.length=kl.length)
  {z:Value} (hz:(zeroValue vt).run P w= .ok z w):
  (Instr.lookup t (.map none) (dX ka kl ks) comma).run P w= .ok (if comma then .tuple #[z,.bool false]else z) w:=by
 have DX:=eX (P:=P) (w:=w) (#[]:Array MapEntry).isEmpty 9988 12 kt _ h.lay _ _ (pG hk) (h.val hk);simp only [Instr.lookup,aqA,run_underlying hm,aqu,DX,aqH];have hf:(Instr.findKey kt (dX ka kl ks) (#[]:Array MapEntry).toList).run P w= .ok none w:=by
  rcases jx (P:=P) (w:=w) h hk [] (by simp)with⟨h1,_⟩ | ⟨j,e,_,h2,_⟩
  ·exact h1
  ·simp at h2
 rw [hf];simp only [aqu,aqA,hz,aqH]
theorem xi(n:Nat): ∀(l:List Value),(∀u∈l,∃k m,u= .int k m)→((l.zip l).all fun(x,y)=>Instr.sameBits n x y)=true
 | [],_=>rfl
 | u::r,h=>by
  obtain⟨k,m,rfl⟩:=h u (by simp);have:=xi n r (fun x hx=>h x (by simp [hx]));simp only [List.zip_cons_cons,List.all_cons,this,Bool.and_true];cases n<;>simp [Instr.sameBits]
theorem Lp(v:Value)(kl:List IntKind)(ka:Bool)(ks:List Int)(hk:ks.length=kl.length)(h1:ka=false→∃k,kl=[k])(hv:v=dX ka kl ks):
  (Instr.keyThatStays v (dX ka kl ks)).run P w= .ok (dX ka kl ks) w:=by
 subst hv;have:Instr.sameBits 10000 (dX ka kl ks) (dX ka kl ks)=true:=by
  cases ka with
  | true=>
   rw [uM];simp only [Instr.sameBits,beq_self_eq_true,Bool.true_and];exact xi _ _ Tf
  | false=>
   obtain⟨k,rfl⟩:=h1 rfl
   match ks,hk with
   | [x],_=>simp [dX,Instr.sameBits]
 simp [Instr.keyThatStays,this]
def Grown(es:Array MapEntry)(clock:Nat)(AG:Array MapEntry)(qW:Nat):Prop:=
 (qW=clock∧AG.size=es.size∨qW=clock+1∧AG.size=es.size+1∧∀e,AG[es.size]? =some e→e.born=clock)∧∀(i:Nat) e,es[i]? =some e→∃e',AG[i]? =some e'∧e'.key=e.key∧e'.born=e.born
theorem qX{t kt vt:TypeId}(hm:P.underlying t=some (.map kt vt)){kl:List IntKind}{ka va:Bool}(h:C1 P kt kl ka){ks:List Int}(hk:ks.length=kl.length)
  {b:Nat} {zero:List Value} {has:Nat→Bool} {row:Nat→List Value} {S:Nat→Prop} (hp:(tD b kl ka va zero has row).p w S) (v:Value) (vc:List Value) (hv:v=uW va vc)
  {zQ:Nat→Bool} {Fz:Nat→List Value} (hh: ∀q,zQ q=if q=aS ks then true else has q) (hr: ∀q,Fz q=if q=aS ks then vc else row q):
  ∃w',(Instr.mapUpdate t (.map (some b)) (dX ka kl ks) v).run P w= .ok () w'∧ic w w'∧w'.heap.size=w.heap.size∧(∀k,k≠b→w'.heap[k]? =w.heap[k]?)∧
   (tD b kl ka va zero zQ Fz).p w' S∧∀es clock,w.heap[b]? =some (.map es clock)→∃AG qW,w'.heap[b]? =some (.map AG qW)∧(AG.size:Int)=es.size+(if has (aS ks)then 0 else 1)∧Grown es clock AG qW:=by
 obtain⟨hS,⟨es,clock,hb,xP⟩,hzero⟩:=hp;have h1k:ka=false→∃k,kl=[k]:=fun hk=>by obtain⟨k,h1,_⟩:=h.one hk;exact⟨k,h1⟩
 have DX:=eX (P:=P) (w:=w) false 9988 12 kt _ h.lay _ _ (pG hk) (h.val hk);have fg: ∀m:List Int,m.length=kl.length→m≠ks→aS m≠aS ks:=fun m hm hn he=>hn (oO (hm.trans hk.symm) he)
 have Tg:b<w.heap.size:=(aqw.1 hb).1;have Ur: ∀m:List Int,m.length=kl.length→zQ (aS m)=false→Fz (aS m)=zero:=by
  intro m hm hf;rw [hh]at hf;split at hf
  ·cases hf
  ·rename_i Xm;rw [hr,if_neg Xm];exact hzero m hm hf
 rcases jx (P:=P) (w:=w) h hk es.toList (fun e he=>by obtain⟨m,h1,h2,_⟩:=xP.keys e he;exact⟨m,h1,h2⟩)with⟨h1,h2⟩ | ⟨j,e,h1,h2,h3⟩
 ·refine⟨{w with heap:=w.heap.setIfInBounds b (.map (es.push {key:=dX ka kl ks,val:=v,born:=clock}) (clock+1))},by simp only [Instr.mapUpdate,aqA,run_underlying hm,aqu,wh hb,DX,h1];exact C2 _ hb,⟨rfl,rfl,rfl,by simp⟩,by simp,fun k hk=>?_,⟨hS,⟨es.push {key:=dX ka kl ks,val:=v,born:=clock},clock+1,?_,?_⟩,Ur⟩,?_⟩
  ·simp only [];rw [Array.getElem?_setIfInBounds_ne (Ne.symm hk)]
  ·simp [Tg]
  ·rw [Array.toList_push];refine⟨fun e he=>?_,fun i j e e' hi hj heq=>?_,fun m hm LV=>?_⟩
   ·rcases aqC.1 he with he | he
    ·obtain⟨m,m1,m2,m3,m4⟩:=xP.keys e he;have xH:m≠ks:=fun h=>h2 e he (by rw [m2,h])
     exact⟨m,m1,m2,by rw [hh,if_neg (fg m m1 xH)];exact m3,by rw [hr,if_neg (fg m m1 xH)];exact m4⟩
    ·simp only [aqx]at he;subst he;exact⟨ks,hk,rfl,by rw [hh,if_pos rfl],by rw [hr,if_pos rfl];exact hv⟩
   ·rw [List.getElem?_append]at hi hj;split at hi<;>split at hj
    ·exact xP.once i j e e' hi hj heq
    ·rename_i a1 a2;exfalso;have:e'={key:=dX ka kl ks,val:=v,born:=clock}:=by
      have:=aqG hj;simpa using this
     subst this;exact h2 e (aqG hi) heq
    ·exfalso;have:e={key:=dX ka kl ks,val:=v,born:=clock}:=by
      have:=aqG hi;simpa using this
     subst this;exact h2 e' (aqG hj) heq.symm
    ·have g1:=(aqo.1 hi).1;have g2:=(aqo.1 hj).1;simp only [List.length_cons,List.length_nil]at g1 g2;omega
   ·by_cases F8:m=ks
    ·subst F8;exact⟨_,List.mem_append_right _ (aqx.2 rfl),rfl⟩
    ·rw [hh,if_neg (fg m hm F8)]at LV;obtain⟨e,he,CP⟩:=xP.all m hm LV;exact⟨e,List.mem_append_left _ he,CP⟩
  ·intro C3 XC h0;rw [hb]at h0;injection h0 with h0
   injection h0 with h0 h0c
   subst h0 h0c;have FX:has (aS ks)=false:=by
    cases hh:has (aS ks)with
    | false=>rfl
    | true=>
     obtain⟨e,he,CP⟩:=xP.all ks hk hh;exact absurd CP (h2 e he)
   refine⟨es.push {key:=dX ka kl ks,val:=v,born:=clock},clock+1,by simp [Tg],by rw [FX];simp,.inr ⟨rfl,by simp,fun e he=>?_⟩,fun i e hi=>⟨e,?_,rfl,rfl⟩⟩
   ·simp at he;subst he;rfl
   ·have:=(aqw.1 hi).1;rw [Array.getElem?_push,if_neg (by omega)];exact hi
 ·have hj:es[j]? =some e:=by rw [←aqS];exact h2
  have qs:=Lp (P:=P) (w:=w) e.key kl ka ks hk h1k h3;refine⟨{w with heap:=w.heap.setIfInBounds b (.map (es.modify j fun e=>{e with key:=dX ka kl ks,val:=v}) clock)},by simp only [Instr.mapUpdate,aqA,run_underlying hm,aqu,wh hb,DX,h1,hj,Option.map_some,Option.getD_some,qs];exact C2 _ hb,⟨rfl,rfl,rfl,by simp⟩,by simp,fun k hk=>?_,⟨hS,⟨es.modify j fun e=>{e with key:=dX ka kl ks,val:=v},clock,?_,?_⟩,Ur⟩,?_⟩
  ·simp only [];rw [Array.getElem?_setIfInBounds_ne (Ne.symm hk)]
  ·simp [Tg]
  ·have wi: ∀(i:Nat),(es.modify j fun e=>{e with key:=dX ka kl ks,val:=v}).toList[i]? =if j=i then(es.toList[i]?).map (fun e=>{e with key:=dX ka kl ks,val:=v})else es.toList[i]? :=by
    intro i;rw [aqS,Array.getElem?_modify,aqS]
   have AM: ∀(i:Nat) e0,(es.modify j fun e=>{e with key:=dX ka kl ks,val:=v}).toList[i]? =some e0→∃e1,es.toList[i]? =some e1∧e0.key=e1.key∧(i≠j→e0=e1)∧(i=j→e0.val=v):=by
    intro i e0 hi;rw [wi]at hi;split at hi
    ·rename_i m8;subst m8;rw [h2,Option.map_some,aqp]at hi;subst hi;exact⟨e,h2,h3.symm,fun h=>absurd rfl h,fun _=>rfl⟩
    ·rename_i m8;exact⟨e0,hi,rfl,fun _=>rfl,fun h=>absurd h.symm m8⟩
   refine⟨fun e0 he0=>?_,fun i i' e0 e0' hi dy heq=>?_,fun m hm LV=>?_⟩
   ·obtain⟨i,hi⟩:=List.getElem?_of_mem he0;obtain⟨e1,g1,g2,g3,g4⟩:=AM i e0 hi;by_cases m8:i=j
    ·subst m8;rw [h2,aqp]at g1;subst g1;exact⟨ks,hk,by rw [g2,h3],by rw [hh,if_pos rfl],by rw [hr,if_pos rfl,g4 rfl];exact hv⟩
    ·have:=g3 m8;subst this;obtain⟨m,m1,m2,m3,m4⟩:=xP.keys e0 (aqG g1);have xH:m≠ks:=fun h=>m8 (xP.once i j e0 e g1 h2 (by rw [m2,h3,h]))
     exact⟨m,m1,m2,by rw [hh,if_neg (fg m m1 xH)];exact m3,by rw [hr,if_neg (fg m m1 xH)];exact m4⟩
   ·obtain⟨e1,g1,g2,_⟩:=AM i e0 hi;obtain⟨e1',g1',g2',_⟩:=AM i' e0' dy;exact xP.once i i' e1 e1' g1 g1' (by rw [←g2,←g2',heq])
   ·have: ∃e1∈es.toList,e1.key=dX ka kl m:=by
     by_cases F8:m=ks
     ·subst F8;exact⟨e,aqG h2,h3⟩
     ·rw [hh,if_neg (fg m hm F8)]at LV;exact xP.all m hm LV
    obtain⟨e1,HS,CP⟩:=this;obtain⟨i,hi⟩:=List.getElem?_of_mem HS;have:=wi i;by_cases m8:j=i
    ·rw [if_pos m8,hi,Option.map_some]at this;refine⟨_,aqG this,?_⟩;subst m8;rw [h2,aqp]at hi;subst hi;rw [←CP,h3]
    ·rw [if_neg m8,hi]at this;exact⟨e1,aqG this,CP⟩
  ·intro C3 XC h0;rw [hb]at h0;injection h0 with h0
   injection h0 with h0 h0c
   subst h0 h0c;obtain⟨m,m1,m2,m3,_⟩:=xP.keys e (aqG h2);have:m=ks:=h.inj m1 hk (m2.symm.trans h3);subst this;refine⟨es.modify j fun e=>{e with key:=dX ka kl m,val:=v},clock,by simp [Tg],by rw [m3];simp,.inl ⟨rfl,by simp⟩,fun i e1 hi=>?_⟩;rw [Array.getElem?_modify,hi];by_cases m8:j=i
   ·subst m8;rw [hj,aqp]at hi;subst hi;exact⟨{e with key:=dX ka kl m,val:=v},by rw [if_pos rfl];rfl,h3.symm,rfl⟩
   ·exact⟨e1,by rw [if_neg m8],rfl,rfl⟩
end
end Go.RX
