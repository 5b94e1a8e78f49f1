/- Executor. -/
import Derived.Test.YtmgbbbmdbpbeeaaGreatRxOe
open Array renaming getElem?_eq_some_iff → ae5
open Bool renaming and_eq_true → ai
open Go.Result renaming andThen_ok → ae3
open Go.Sem renaming run_bind → afa, run_pure → afs
open Int renaming toNat_natCast → afe
open List renaming eq_nil_of_length_eq_zero → aff, getElem?_eq_getElem → afA, getElem?_eq_some_iff → aeV, map_cons → afj, mem_cons → afd, mem_of_getElem? → afr, mem_singleton → afC
open List.cons renaming injEq → ae8
open Option renaming getD_some → afG, map_eq_some_iff → aeY
open Option.some renaming injEq → aeX
namespace Go.RX
theorem P0{a b:Int}(h:Jw a=Jw b):a=b:=by
 cases a<;>cases b<;>simp only [Jw]at h
 ·congr 1;omega
 ·omega
 ·omega
 ·congr 1;omega
theorem P1{a b L M:Nat}(h:(2*a+1)*2^L=(2*b+1)*2^M):a=b∧L=M:=by
 induction L generalizing M with
 | zero=>
  cases M with
  | zero=>simp only [Nat.pow_zero,Nat.mul_one]at h;exact⟨by omega,rfl⟩
  | succ M=>
   rw [Nat.pow_succ,Nat.pow_zero,Nat.mul_one,←Nat.mul_assoc]at h;omega
 | succ L ih=>
  cases M with
  | zero=>
   rw [Nat.pow_succ,Nat.pow_zero,Nat.mul_one,←Nat.mul_assoc]at h;omega
  | succ M=>
   rw [Nat.pow_succ,Nat.pow_succ,←Nat.mul_assoc,←Nat.mul_assoc]at h;have:=ih (Nat.eq_of_mul_eq_mul_right (by omega) h);exact⟨this.1,by omega⟩
theorem Ga{a b:Nat}{x y:Int}(h:tF a x=tF b y):a=b∧x=y:=by
 unfold tF at h;obtain⟨h1,h2⟩:=P1 h;rw [h2]at h1;have hx:Jw x<2^((Jw y).log2+1):=by rw [←h2];exact Nat.lt_log2_self
 have hy:Jw y<2^((Jw y).log2+1):=Nat.lt_log2_self;generalize 2^((Jw y).log2+1)=N at h1 hx hy;have e1:a=b:=by
  have p:(a*N+Jw x)/N=a:=by rw [Nat.mul_comm,Nat.mul_add_div (by omega),Nat.div_eq_of_lt hx,Nat.add_zero]
  have q:(b*N+Jw y)/N=b:=by rw [Nat.mul_comm,Nat.mul_add_div (by omega),Nat.div_eq_of_lt hy,Nat.add_zero]
  rw [←p,←q,h1]
 subst e1;exact⟨rfl,P0 (by omega)⟩
theorem DT: ∀(l m:List Int) (a b:Nat),l.length=m.length→l.foldl tF a=m.foldl tF b→a=b∧l=m
 | [],[],a,b,_,h=>⟨h,rfl⟩
 | [],_::_,_,_,hl,_=>by simp at hl
 | _::_,[],_,_,hl,_=>by simp at hl
 | x::l,y::m,a,b,hl,h=>by
  simp only [List.foldl_cons]at h;obtain⟨h1,h2⟩:=DT l m _ _ (by simpa using hl) h;obtain⟨h3,h4⟩:=Ga h1;exact⟨h3,by rw [h4,h2]⟩
theorem An{l m:List Int}(hl:l.length=m.length)(h:cR l=cR m):l=m:=(DT l m 0 0 hl h).2
theorem HX: ∀{kl:List IntKind} {a b:List Int},a.length=kl.length→b.length=kl.length→wu kl a=wu kl b→a=b
 | [],a,b,ha,hb,_=>by
  rw [aff ha,aff hb]
 | k::kl,[],_,ha,_,_=>by simp at ha
 | k::kl,_::_,[],_,hb,_=>by simp at hb
 | k::kl,x::a,y::b,ha,hb,h=>by
  simp only [wu,List.zip_cons_cons,afj,ae8,Value.int.injEq,true_and]at h;rw [h.1,HX (by simpa using ha) (by simpa using hb) h.2]
theorem p_: ∀{kl:List IntKind} {a:List Int},a.length=kl.length→fy (wu kl a) (kl.map some)
 | [],a,ha=>by rw [aff ha];trivial
 | k::kl,[],ha=>by simp at ha
 | k::kl,x::a,ha=>by
  simp only [wu,List.zip_cons_cons,afj,fy,true_and];exact p_ (by simpa using ha)
theorem HY: ∀{kl:List IntKind} {a b:List Int},a.length=kl.length→b.length=kl.length→rl (wu kl a) (wu kl b)=decide (a=b)
 | [],a,b,ha,hb=>by
  rw [aff ha,aff hb];rfl
 | k::kl,[],_,ha,_=>by simp at ha
 | k::kl,_::_,[],_,hb=>by simp at hb
 | k::kl,x::a,y::b,ha,hb=>by
  have ih:=HY (kl:=kl) (a:=a) (b:=b) (by simpa using ha) (by simpa using hb);unfold wu at ih;simp only [wu,List.zip_cons_cons,afj,rl,ih];by_cases h1:x=y<;>by_cases h2:a=b<;>simp [h1,h2]
theorem P2: ∀{kl:List IntKind} {a:List Int},∀u∈wu kl a,∃k n,u= .int k n:=by
 intro kl a u hu;simp only [wu,List.mem_map]at hu;obtain⟨x,_,rfl⟩:=hu;exact⟨_,_,rfl⟩
theorem sy(kl:List IntKind)(ks:List Int):eF true kl ks= .agg (wu kl ks).toArray:=rfl
theorem DU{ka:Bool}{kl:List IntKind}(hk:ka=false→∃k,kl=[k]){a b:List Int}(ha:a.length=kl.length)(hb:b.length=kl.length)(h:eF ka kl a=eF ka kl b):a=b:=by
 cases ka with
 | true=>
  rw [sy,sy]at h;have:=congrArg (fun v=>match v with | .agg c=>c.toList | _=>[]) h;exact HX ha hb (by simpa using this)
 | false=>
  obtain⟨k,rfl⟩:=hk rfl
  match a,b,ha,hb with
  | [x],[y],_,_=>simpa [eF] using h
section
variable {P:Program} {w:World}
theorem fu(em:Bool)(k:Nat): ∀(d:Nat) (t:TypeId) (L:List gb),fi P d t=some L→∀(xs:List Value) (x:Value),fy xs L→CM P t xs x→(Instr.checkKey em (k+d) t x).run P w= .ok () w
 | 0,t,L,h=>by simp [fi]at h
 | d+1,t,L,h=>by
  intro xs x hx vx;rw [show k+(d+1)=(k+d)+1 from rfl,Instr.checkKey];unfold fi at h;cases hu:P.underlying t with
  | none=>simp [hu]at h
  | some td=>
   rw [hu]at h;simp only [CM,hu]at vx;simp only [afa,run_underlying hu,ae3];cases td with
   | int q=>
    simp only [aeX]at h;subst h vx;cases x<;>simp only [fy]at hx
    rfl
   | bool=>
    simp only [aeX]at h;subst h vx;cases x<;>simp only [fy]at hx
    rfl
   | array n e=>
    simp only at h vx;subst vx;split at h
    ·rename_i l hl;split at h
     ·rename_i hs;simp only [aeX]at h;subst h;have nI:P.cellsOf e=l.length:=by simpa using hs
      have DJ: ∃i,P.info? e=some i:=by
       cases d with
       | zero=>simp [fi]at hl
       | succ d=>
        cases hi:P.info? e with
        | none=>simp [fi,Program.underlying,hi]at hl
        | some i=>exact⟨i,rfl⟩
      obtain⟨i,hi⟩:=DJ;have fx:i.size=l.length:=by simpa [Program.cellsOf,hi] using nI
      dsimp only;simp only [Std.Legacy.Range.forIn_eq_forIn_range',Std.Legacy.Range.size,Nat.sub_zero,Nat.add_one_sub_one,Nat.div_one];have key: ∀(m j:Nat),fy (xs.drop (j*l.length)) (List.replicate m l).flatten→
        (forIn (List.range' j m) PUnit.unit fun i _=>(do
         let s←sizeOf e
         let a←part e xs.toArray (i*s)
         Instr.checkKey em (k+d) e a
         pure (ForInStep.yield PUnit.unit):Sem (ForInStep PUnit))).run P w= .ok () w:=by
       intro m
       induction m with
       | zero=>intro j _;simp
       | succ m ih=>
        intro j hf;rw [List.replicate_succ,List.flatten_cons]at hf;obtain⟨h1,h2⟩:=eM hf;rw [List.drop_drop]at h2;obtain⟨a,pa,va⟩:=gP w hl nI xs (j*l.length) h1;have hc:=fu em k d e l hl _ _ h1 va;have UH:=ih (j+1) (by rw [Nat.add_mul,Nat.one_mul];exact h2);rw [List.range'_succ];simp only [List.forIn_cons,afa,run_sizeOf w hi,ae3,nI,pa,hc,afs];exact UH
      have:=key n 0 (by simpa using hx);simpa [afa] using this
     ·cases h
    ·cases h
   | struct fs=>
    simp only at h vx;subst vx;split at h
    ·cases h
    ·dsimp only;rw [←Array.forIn_toList];have key: ∀(L:List Field) (off:Nat) (l:List gb),jv P (fi P d) L off=some l→fy (xs.drop off) l→
       (forIn L PUnit.unit fun f _=>(do
        if f.name≠ "_" then
         Instr.checkKey em (k+d) f.type (←part f.type xs.toArray f.offset)
         pure (ForInStep.yield PUnit.unit)
        else pure (ForInStep.yield PUnit.unit):Sem (ForInStep PUnit))).run P w= .ok () w:=by
      intro L
      induction L with
      | nil=>intro off l _ _;simp
      | cons f L ih=>
       intro off l hl hf;unfold jv at hl;split at hl
       ·cases hl
       ·rename_i hn;simp only [Bool.or_eq_true,beq_iff_eq,bne_iff_ne,ne_eq,not_or,Decidable.not_not]at hn;obtain⟨hn,rfl⟩:=hn;split at hl
        ·rename_i l1 XC;split at hl
         ·rename_i hs;rw [aeY]at hl;obtain⟨L',Tc,rfl⟩:=hl;have nI:P.cellsOf f.type=l1.length:=by simpa using hs
          obtain⟨h1,h2⟩:=eM hf;rw [List.drop_drop]at h2;obtain⟨a,pa,va⟩:=gP w XC nI xs f.offset h1;have hc:=fu em k d _ _ XC _ _ h1 va;have UH:=ih _ _ Tc h2;simp only [List.forIn_cons,afa,hn,ne_eq,not_false_eq_true,if_true,ae3,pa,hc,afs];exact UH
         ·cases hl
        ·cases hl
     have:=key fs.toList 0 L h (by simpa using hx);simpa [afa] using this
   | _=>simp at h
theorem uW(k:IntKind)(n:Int): ∀(es:List MapEntry) (i:Nat),(∀e∈es,∃m,e.key= .int k m)→
  (Instr.findNow (.int k) (.int k n) es i=some none∧∀e∈es,e.key≠ .int k n)∨
  ∃j e,Instr.findNow (.int k) (.int k n) es i=some (some (i+j,e.val))∧es[j]? =some e∧e.key= .int k n
 | [],i,_=> .inl ⟨rfl,by simp⟩
 | e::es,i,h=>by
  obtain⟨m,hm⟩:=h e (by simp);by_cases RT:n=m
  ·subst RT;exact .inr ⟨0,e,by simp [Instr.findNow,hm,Instr.sameNow],rfl,hm⟩
  ·have hs:Instr.sameNow (.int k) (.int k n) e.key=some false:=by rw [hm];simp [Instr.sameNow,RT]
   rcases uW k n es (i+1) (fun x hx=>h x (by simp [hx]))with⟨h1,h2⟩ | ⟨j,e',h1,h2,h3⟩
   ·refine .inl ⟨by simp only [Instr.findNow,hs,h1],fun x hx=>?_⟩;rcases afd.1 hx with rfl | hx
    ·rw [hm];simp;exact fun h=>RT h.symm
    ·exact h2 x hx
   ·exact .inr ⟨j+1,e',by simp only [Instr.findNow,hs,h1];simp [Nat.add_assoc,Nat.add_comm 1 j],by simpa using h2,h3⟩
theorem uX{kt:TypeId}{kl:List IntKind}(hl:fi P 12 kt=some (kl.map some))(ha: ∀cs:List Value,CM P kt cs (.agg cs.toArray)){ks:List Int}(hk:ks.length=kl.length):
  ∀(es:List MapEntry) (i:Nat),(∀e∈es,∃m:List Int,m.length=kl.length∧e.key=eF true kl m)→
   ((Instr.findAsking kt (eF true kl ks) es i).run P w= .ok none w∧∀e∈es,e.key≠eF true kl ks)∨
   ∃j e,(Instr.findAsking kt (eF true kl ks) es i).run P w= .ok (some (i+j,e.val)) w∧es[j]? =some e∧e.key=eF true kl ks
 | [],i,_=> .inl ⟨by simp [Instr.findAsking],by simp⟩
 | e::es,i,h=>by
  obtain⟨m,hm,Vv⟩:=h e (by simp);have heq:(Op.equal kt (eF true kl ks) e.key).run P w= .ok (decide (ks=m)) w:=by
   have:=lP (P:=P) 9988 12 kt _ hl w _ _ (eF true kl ks) e.key (p_ hk) (p_ hm) (ha _) (by rw [Vv];exact ha _);rw [HY hk hm]at this;exact this
  by_cases XF:ks=m
  ·subst XF;exact .inr ⟨0,e,by simp [Instr.findAsking,heq],rfl,Vv⟩
  ·rcases uX hl ha hk es (i+1) (fun x hx=>h x (by simp [hx]))with⟨h1,h2⟩ | ⟨j,e',h1,h2,h3⟩
   ·refine .inl ⟨by simp [Instr.findAsking,heq,XF,h1],fun x hx=>?_⟩;rcases afd.1 hx with rfl | hx
    ·rw [Vv];intro he;exact XF (DU (by simp) hm hk he).symm
    ·exact h2 x hx
   ·exact .inr ⟨j+1,e',by simp [Instr.findAsking,heq,XF,h1,Nat.add_assoc,Nat.add_comm 1 j],by simpa using h2,h3⟩
structure Bs (P:Program) (kt:TypeId) (kl:List IntKind) (ka:Bool):Prop where
 lay:fi P 12 kt=some (kl.map some)
 one:ka=false→∃k,kl=[k]∧P.underlying kt=some (.int k)
 agg:ka=true→(∀cs:List Value,CM P kt cs (.agg cs.toArray))∧(match P.underlying kt with | some (.array _ _) | some (.struct _)=>true | _=>false)=true
theorem Bs.val{kt:TypeId}{kl:List IntKind}{ka:Bool}(h:Bs P kt kl ka){ks:List Int}(hk:ks.length=kl.length):CM P kt (wu kl ks) (eF ka kl ks):=by
 cases ka with
 | true=>exact(h.agg rfl).1 _
 | false=>
  obtain⟨k,rfl,hu⟩:=h.one rfl
  match ks,hk with
  | [x],_=>simp [CM,hu,wu,eF]
theorem Bs.inj{kt:TypeId}{kl:List IntKind}{ka:Bool}(h:Bs P kt kl ka){a b:List Int}(ha:a.length=kl.length)(hb:b.length=kl.length)(he:eF ka kl a=eF ka kl b):a=b:=
 DU (fun hk=>by obtain⟨k,h1,_⟩:=h.one hk;exact⟨k,h1⟩) ha hb he
theorem kq{kt:TypeId}{kl:List IntKind}{ka:Bool}(h:Bs P kt kl ka){ks:List Int}(hk:ks.length=kl.length)(es:List MapEntry)
  (Bo: ∀e∈es,∃m:List Int,m.length=kl.length∧e.key=eF ka kl m):
  ((Instr.findKey kt (eF ka kl ks) es).run P w= .ok none w∧∀e∈es,e.key≠eF ka kl ks)∨
  ∃j e,(Instr.findKey kt (eF ka kl ks) es).run P w= .ok (some (j,e.val)) w∧es[j]? =some e∧e.key=eF ka kl ks:=by
 cases ka with
 | true=>
  obtain⟨h1,h2⟩:=h.agg rfl;rw [run_findKey_eq w h2];rcases uX (P:=P) (w:=w) h.lay h1 hk es 0 Bo with h | ⟨j,e,h3,h4,h5⟩
  ·exact .inl h
  ·exact .inr ⟨j,e,by simpa using h3,h4,h5⟩
 | false=>
  obtain⟨k,rfl,hu⟩:=h.one rfl
  match ks,hk with
  | [n],_=>
   have Yw: ∀e∈es,∃m,e.key= .int k m:=by
    intro e he;obtain⟨m,hm,Vv⟩:=Bo e he
    match m,hm with
    | [x],_=>exact⟨x,Vv⟩
   rcases uW k n es 0 Yw with⟨h1,h2⟩ | ⟨j,e,h1,h2,h3⟩
   ·exact .inl ⟨by simp [Instr.findKey,run_underlying hu,eF,h1],h2⟩
   ·exact .inr ⟨j,e,by simp [Instr.findKey,run_underlying hu,eF,h1],h2,h3⟩
theorem Gb{r:Nat}{es:Array MapEntry}{clock:Nat}(hb:w.heap[r]? =some (.map es clock)):(getObj r).run P w= .ok (.map es clock) w:=by simp [getObj,Sem.run,hb]
theorem Mo{r:Nat}{es:Array MapEntry}{clock:Nat}(o:Obj)(hb:w.heap[r]? =some (.map es clock)):(setObj r o).run P w= .ok () {w with heap:=w.heap.setIfInBounds r o}:=by
 simp [setObj,Sem.run,hb]
theorem pw{t kt vt:TypeId}(hm:P.underlying t=some (.map kt vt)){kl:List IntKind}{ka va comma:Bool}(h:Bs P kt kl ka){ks:List Int}(hk:ks.length=kl.length)
  {b:Nat} {zero:List Value} {has:Nat→Bool} {row:Nat→List Value} {S:Nat→Prop} (hp:(uI b kl ka va zero has row).p w S) {z:Value} (hz:(zeroValue vt).run P w= .ok z w) (Tf:xf va zero=z):
  (Instr.lookup t (.map (some b)) (eF ka kl ks) comma).run P w= .ok (if comma then .tuple #[xf va (row (cR ks)),.bool (has (cR ks))]else xf va (row (cR ks))) w:=by
 obtain⟨_,⟨es,clock,hb,Bo⟩,hzero⟩:=hp;have Ld:=fu (P:=P) (w:=w) es.isEmpty 9988 12 kt _ h.lay _ _ (p_ hk) (h.val hk);simp only [Instr.lookup,afa,run_underlying hm,ae3,Gb hb,Ld,afs];rcases kq (P:=P) (w:=w) h hk es.toList (fun e he=>by obtain⟨m,h1,h2,_⟩:=Bo.keys e he;exact⟨m,h1,h2⟩)with⟨h1,h2⟩ | ⟨j,e,h1,h2,h3⟩
 ·have Py:has (cR ks)=false:=by
   cases hh:has (cR ks)with
   | false=>rfl
   | true=>
    obtain⟨e,he,qZ⟩:=Bo.all ks hk hh;exact absurd qZ (h2 e he)
  rw [h1];simp only [ae3,afa,hz,afs,Py,hzero ks hk Py,Tf]
 ·obtain⟨m,XG,Tg,XH,hm4⟩:=Bo.keys e (afr h2);have:m=ks:=h.inj XG hk (Tg.symm.trans h3);subst this;rw [h1];simp only [ae3,XH,hm4];cases comma<;>rfl
theorem xL{t kt vt:TypeId}(hm:P.underlying t=some (.map kt vt)){kl:List IntKind}{ka comma:Bool}(h:Bs P kt kl ka){ks:List Int}(hk:ks.length=kl.length)
  {z:Value} (hz:(zeroValue vt).run P w= .ok z w):
  (Instr.lookup t (.map none) (eF ka kl ks) comma).run P w= .ok (if comma then .tuple #[z,.bool false]else z) w:=by
 have Ld:=fu (P:=P) (w:=w) (#[]:Array MapEntry).isEmpty 9988 12 kt _ h.lay _ _ (p_ hk) (h.val hk);simp only [Instr.lookup,afa,run_underlying hm,ae3,Ld,afs];have hf:(Instr.findKey kt (eF ka kl ks) (#[]:Array MapEntry).toList).run P w= .ok none w:=by
  rcases kq (P:=P) (w:=w) h hk [] (by simp)with⟨h1,_⟩ | ⟨j,e,_,h2,_⟩
  ·exact h1
  ·simp at h2
 rw [hf];simp only [ae3,afa,hz,afs]
theorem uY(n:Nat): ∀(l:List Value),(∀u∈l,∃k m,u= .int k m)→((l.zip l).all fun(x,y)=>Instr.sameBits n x y)=true
 | [],_=>rfl
 | u::r,h=>by
  obtain⟨k,m,rfl⟩:=h u (by simp);have:=uY n r (fun x hx=>h x (by simp [hx]));simp only [List.zip_cons_cons,List.all_cons,this,Bool.and_true];cases n<;>simp [Instr.sameBits]
theorem JW(v:Value)(kl:List IntKind)(ka:Bool)(ks:List Int)(hk:ks.length=kl.length)(h1:ka=false→∃k,kl=[k])(hv:v=eF ka kl ks):
  (Instr.keyThatStays v (eF ka kl ks)).run P w= .ok (eF ka kl ks) w:=by
 subst hv;have:Instr.sameBits 10000 (eF ka kl ks) (eF ka kl ks)=true:=by
  cases ka with
  | true=>
   rw [sy];simp only [Instr.sameBits,beq_self_eq_true,Bool.true_and];exact uY _ _ P2
  | false=>
   obtain⟨k,rfl⟩:=h1 rfl
   match ks,hk with
   | [x],_=>simp [eF,Instr.sameBits]
 simp [Instr.keyThatStays,this]
theorem px{t kt vt:TypeId}(hm:P.underlying t=some (.map kt vt)){kl:List IntKind}{ka va:Bool}(h:Bs P kt kl ka){ks:List Int}(hk:ks.length=kl.length)
  {b:Nat} {zero:List Value} {has:Nat→Bool} {row:Nat→List Value} {S:Nat→Prop} (hp:(uI b kl ka va zero has row).p w S) (v:Value) (vc:List Value) (hv:v=xf va vc)
  {Gd:Nat→Bool} {Mp:Nat→List Value} (hh: ∀q,Gd q=if q=cR ks then true else has q) (hr: ∀q,Mp q=if q=cR ks then vc else row q):
  ∃w',(Instr.mapUpdate t (.map (some b)) (eF ka kl ks) v).run P w= .ok () w'∧fV w w'∧w'.heap.size=w.heap.size∧(∀k,k≠b→w'.heap[k]? =w.heap[k]?)∧
   (uI b kl ka va zero Gd Mp).p w' S:=by
 obtain⟨hS,⟨es,clock,hb,Bo⟩,hzero⟩:=hp;have h1k:ka=false→∃k,kl=[k]:=fun hk=>by obtain⟨k,h1,_⟩:=h.one hk;exact⟨k,h1⟩
 have Ld:=fu (P:=P) (w:=w) false 9988 12 kt _ h.lay _ _ (p_ hk) (h.val hk);have eZ: ∀m:List Int,m.length=kl.length→m≠ks→cR m≠cR ks:=fun m hm hn he=>hn (An (hm.trans hk.symm) he)
 have Vw:b<w.heap.size:=(ae5.1 hb).1;have RU: ∀m:List Int,m.length=kl.length→Gd (cR m)=false→Mp (cR m)=zero:=by
  intro m hm hf;rw [hh]at hf;split at hf
  ·cases hf
  ·rename_i Yx;rw [hr,if_neg Yx];exact hzero m hm hf
 rcases kq (P:=P) (w:=w) h hk es.toList (fun e he=>by obtain⟨m,h1,h2,_⟩:=Bo.keys e he;exact⟨m,h1,h2⟩)with⟨h1,h2⟩ | ⟨j,e,h1,h2,h3⟩
 ·refine⟨{w with heap:=w.heap.setIfInBounds b (.map (es.push {key:=eF ka kl ks,val:=v,born:=clock}) (clock+1))},by simp only [Instr.mapUpdate,afa,run_underlying hm,ae3,Gb hb,Ld,h1];exact Mo _ hb,⟨rfl,rfl,rfl,by simp⟩,by simp,fun k hk=>?_,hS,⟨es.push {key:=eF ka kl ks,val:=v,born:=clock},clock+1,?_,?_⟩,RU⟩
  ·simp only [];rw [Array.getElem?_setIfInBounds_ne (Ne.symm hk)]
  ·simp [Vw]
  ·rw [Array.toList_push];refine⟨fun e he=>?_,fun i j e e' hi hj heq=>?_,fun m hm LJ=>?_⟩
   ·rcases List.mem_append.1 he with he | he
    ·obtain⟨m,m1,m2,m3,m4⟩:=Bo.keys e he;have DV:m≠ks:=fun h=>h2 e he (by rw [m2,h])
     exact⟨m,m1,m2,by rw [hh,if_neg (eZ m m1 DV)];exact m3,by rw [hr,if_neg (eZ m m1 DV)];exact m4⟩
    ·simp only [afC]at he;subst he;exact⟨ks,hk,rfl,by rw [hh,if_pos rfl],by rw [hr,if_pos rfl];exact hv⟩
   ·rw [List.getElem?_append]at hi hj;split at hi<;>split at hj
    ·exact Bo.once i j e e' hi hj heq
    ·rename_i a1 a2;exfalso;have:e'={key:=eF ka kl ks,val:=v,born:=clock}:=by
      have:=afr hj;simpa using this
     subst this;exact h2 e (afr hi) heq
    ·exfalso;have:e={key:=eF ka kl ks,val:=v,born:=clock}:=by
      have:=afr hi;simpa using this
     subst this;exact h2 e' (afr hj) heq.symm
    ·have g1:=(aeV.1 hi).1;have g2:=(aeV.1 hj).1;simp only [List.length_cons,List.length_nil]at g1 g2;omega
   ·by_cases Vx:m=ks
    ·subst Vx;exact⟨_,List.mem_append_right _ (afC.2 rfl),rfl⟩
    ·rw [hh,if_neg (eZ m hm Vx)]at LJ;obtain⟨e,he,qZ⟩:=Bo.all m hm LJ;exact⟨e,List.mem_append_left _ he,qZ⟩
 ·have hj:es[j]? =some e:=by rw [←Array.getElem?_toList];exact h2
  have uE:=JW (P:=P) (w:=w) e.key kl ka ks hk h1k h3;refine⟨{w with heap:=w.heap.setIfInBounds b (.map (es.modify j fun e=>{e with key:=eF ka kl ks,val:=v}) clock)},by simp only [Instr.mapUpdate,afa,run_underlying hm,ae3,Gb hb,Ld,h1,hj,Option.map_some,afG,uE];exact Mo _ hb,⟨rfl,rfl,rfl,by simp⟩,by simp,fun k hk=>?_,hS,⟨es.modify j fun e=>{e with key:=eF ka kl ks,val:=v},clock,?_,?_⟩,RU⟩
  ·simp only [];rw [Array.getElem?_setIfInBounds_ne (Ne.symm hk)]
  ·simp [Vw]
  ·have DW: ∀(i:Nat),(es.modify j fun e=>{e with key:=eF ka kl ks,val:=v}).toList[i]? =if j=i then(es.toList[i]?).map (fun e=>{e with key:=eF ka kl ks,val:=v})else es.toList[i]? :=by
    intro i;rw [Array.getElem?_toList,Array.getElem?_modify,Array.getElem?_toList]
   have Th: ∀(i:Nat) e0,(es.modify j fun e=>{e with key:=eF ka kl ks,val:=v}).toList[i]? =some e0→∃e1,es.toList[i]? =some e1∧e0.key=e1.key∧(i≠j→e0=e1)∧(i=j→e0.val=v):=by
    intro i e0 hi;rw [DW]at hi;split at hi
    ·rename_i ru;subst ru;rw [h2,Option.map_some,aeX]at hi;subst hi;exact⟨e,h2,h3.symm,fun h=>absurd rfl h,fun _=>rfl⟩
    ·rename_i ru;exact⟨e0,hi,rfl,fun _=>rfl,fun h=>absurd h.symm ru⟩
   refine⟨fun e0 he0=>?_,fun i i' e0 e0' hi mi heq=>?_,fun m hm LJ=>?_⟩
   ·obtain⟨i,hi⟩:=List.getElem?_of_mem he0;obtain⟨e1,g1,g2,g3,g4⟩:=Th i e0 hi;by_cases ru:i=j
    ·subst ru;rw [h2,aeX]at g1;subst g1;exact⟨ks,hk,by rw [g2,h3],by rw [hh,if_pos rfl],by rw [hr,if_pos rfl,g4 rfl];exact hv⟩
    ·have:=g3 ru;subst this;obtain⟨m,m1,m2,m3,m4⟩:=Bo.keys e0 (afr g1);have DV:m≠ks:=fun h=>ru (Bo.once i j e0 e g1 h2 (by rw [m2,h3,h]))
     exact⟨m,m1,m2,by rw [hh,if_neg (eZ m m1 DV)];exact m3,by rw [hr,if_neg (eZ m m1 DV)];exact m4⟩
   ·obtain⟨e1,g1,g2,_⟩:=Th i e0 hi;obtain⟨e1',g1',g2',_⟩:=Th i' e0' mi;exact Bo.once i i' e1 e1' g1 g1' (by rw [←g2,←g2',heq])
   ·have: ∃e1∈es.toList,e1.key=eF ka kl m:=by
     by_cases Vx:m=ks
     ·subst Vx;exact⟨e,afr h2,h3⟩
     ·rw [hh,if_neg (eZ m hm Vx)]at LJ;exact Bo.all m hm LJ
    obtain⟨e1,he1,qZ⟩:=this;obtain⟨i,hi⟩:=List.getElem?_of_mem he1;have:=DW i;by_cases ru:j=i
    ·rw [if_pos ru,hi,Option.map_some]at this;refine⟨_,afr this,?_⟩;subst ru;rw [h2,aeX]at hi;subst hi;rw [←qZ,h3]
    ·rw [if_neg ru,hi]at this;exact⟨e1,afr this,qZ⟩
end
section
variable {P:Program} {ρ:Env} {w:World} {look:Nat→Option SV} {vals:Operand→Value} {hp:List Ck} {S:Nat→Nat→Prop} {nb nv:Nat} {T:List TI}
theorem JX{a:E}{i:Nat}{x:Int}(h:Mq a i=some x):a.den ρ i=x:=by
 unfold Mq at h;split at h
 ·rename_i n hn;cases h;have:=ei ρ a (.lit i) 0;rw [hn]at this;simp only [E.den,afe]at this;exact this.symm
 ·cases h
theorem ry{a:E}: ∀{n:Nat} {l:List Int},tR a n=some l→l=(List.range n).map (a.den ρ)
 | 0,l,h=>by simp [tR]at h;subst h;rfl
 | n+1,l,h=>by
  unfold tR at h;split at h
  ·rename_i l' x h1 h2;cases h;rw [List.range_succ,List.map_append,←ry h1];simp [JX h2]
  ·cases h
theorem qa(n:Nat)(a:E):((P3 n a).den ρ 0)=(cR ((List.range n).map (a.den ρ)):Nat):=by
 unfold P3;split
 ·rename_i l h;rw [←ry h];rfl
 ·rfl
theorem py: ∀{l:List gb} {kl:List IntKind},rz l=some kl→l=kl.map some
 | [],kl,h=>by simp [rz]at h;subst h;rfl
 | some k::r,kl,h=>by
  simp only [rz,aeY]at h;obtain⟨x,hx,rfl⟩:=h;rw [py hx];rfl
 | none::r,kl,h=>by simp [rz]at h
theorem qH(hT:bG P T=true){t:Nat}{tk:TI}(ht:a_ T t=some tk){kl:List IntKind}{ka:Bool}(h:pz tk=some (kl,ka)):Bs P t kl ka:=by
 obtain⟨rfl,cQ⟩:=aH hT ht;have cX:=cQ.kind;unfold pz at h;split at h
 ·rename_i k hk;cases h;rw [hk]at cX;have hu:=jV cX;exact⟨by simp [fi,hu],fun _=>⟨k,rfl,hu⟩,fun h=>(by cases h)⟩
 ·rename_i fs hk;split at h
  ·cases h
  ·rename_i eZ;rw [aeY]at h;obtain⟨l,hl,he⟩:=h;cases he;rw [hk]at cX;obtain⟨fa,hu,_⟩:=lR cX;rcases cQ.lay with h | ⟨h,_⟩
   ·exact absurd h eZ
   ·rw [py hl]at h;exact⟨h,fun h=>(by cases h),fun _=>⟨fun cs=>by simp [CM,hu],by simp [hu]⟩⟩
 ·rename_i n e hk;split at h
  ·cases h
  ·rename_i eZ;rw [aeY]at h;obtain⟨l,hl,he⟩:=h;cases he;rw [hk]at cX;have hu:=m_ cX;rcases cQ.lay with h | ⟨h,_⟩
   ·exact absurd h eZ
   ·rw [py hl]at h;exact⟨h,fun h=>(by cases h),fun _=>⟨fun cs=>by simp [CM,hu],by simp [hu]⟩⟩
 ·cases h
theorem nU{ka:Bool}{k:SV}{kc:List SV}(h:sA ka k=some kc){kl:List IntKind}{ks:List Int}(hk:ks.length=kl.length)(h1:ka=false→∃k,kl=[k])(hc:SV.aC ρ kc=wu kl ks):k.val ρ=eF ka kl ks:=by
 unfold sA at h;split at h
 ·cases h;simp only [SV.val,hc,sy]
 ·rename_i q e;cases h;obtain⟨k0,rfl⟩:=h1 rfl
  match ks,hk,hc with
  | [x],_,hc=>
   have hc:[Value.int q (e.den ρ 0)]=[Value.int k0 x]:=hc;simp only [ae8,and_true]at hc;exact hc
 ·cases h
theorem DX{d:Option TypeDesc}{k v:Nat}(h:hJ d (.map k v)=true):d=some (.map k v):=by
 unfold hJ at h;split at h<;>simp_all
theorem kE{hp:List Ck}{b j:Nat}{ck:Ck}(h:wz hp b=some (j,ck)):hp[j]? =some ck∧ck.isMap b=true:=by
 unfold wz at h;split at h
 ·rename_i i hi;rw [aeY]at h;obtain⟨c,hc,he⟩:=h;cases he;refine⟨hc,?_⟩;rw [List.findIdx?_eq_some_iff_getElem]at hi;obtain⟨bU,h1,_⟩:=hi;rw [afA bU]at hc;cases hc;exact h1
 ·cases h
theorem xM{te:TI}{z:List bV}(h:tS T te=some z): ∀i:Nat,rowAt ρ z i=SV.aC ρ te.zero:=by
 unfold tS at h;split at h
 ·split at h
  ·rename_i hz;cases h;simp only [ai,List.isEmpty_iff]at hz;intro i;rw [hz.1];rfl
  ·cases h
 ·exact fun i=>(fg h).1 i
theorem cI: ∀{a b:List SV},eR a b=true→SV.aC ρ a=SV.aC ρ b
 | [],[],_=>rfl
 | [],_::_,h=>by simp [eR]at h
 | v::r,[],h=>by cases v<;>simp [eR]at h
 | v::r,u::s,h=>by
  unfold eR at h;split at h
  ·rename_i h1 _;cases h1
  ·rename_i h1 h2;cases h1;cases h2;simp only [ai,beq_iff_eq]at h;obtain⟨⟨rfl,rfl⟩,h⟩:=h;simp only [SV.aC,cI h]
  ·rename_i h1 h2;cases h1;cases h2;simp only [ai,beq_iff_eq]at h;obtain⟨rfl,h⟩:=h;simp only [SV.aC,cI h]
  ·rename_i h1 h2;cases h1;cases h2;simp only [ai,beq_iff_eq]at h;obtain⟨⟨⟨rfl,rfl⟩,rfl⟩,h⟩:=h;simp only [SV.aC,cI h]
  ·rename_i h1 h2;cases h1;cases h2;simp only [SV.aC,cI h]
  ·rename_i h1 h2;cases h1;cases h2;simp only [SV.aC,cI h]
  ·rename_i h1 h2;cases h1;cases h2;simp only [SV.aC,cI h]
  ·rename_i h1 h2;cases h1;cases h2;simp only [SV.aC,cI h]
  ·rename_i h1 h2;cases h1;cases h2;simp only [SV.aC,cI h]
  ·rename_i h1 h2;cases h1;cases h2;simp only [ai,beq_iff_eq]at h;obtain⟨rfl,h⟩:=h;simp only [SV.aC,cI h]
  ·cases h
theorem DY{k:Nat}{v:List SV}: ∀{es:List (Nat×List SV)} {q:Nat},pj (zk k v es) q=if q=k then true else pj es q
 | [],q=>by simp only [zk,pj,eq_comm]
 | (i,u)::r,q=>by
  simp only [zk];split
  ·rename_i h;subst h;simp only [pj,eq_comm];split<;>rfl
  ·rename_i h;simp only [pj];split
   ·rename_i h2;subst h2;rw [if_neg h]
   ·exact DY
theorem DZ{k:Nat}{v z:List SV}: ∀{es:List (Nat×List SV)} {q:Nat},mr (zk k v es) z q=if q=k then v else mr es z q
 | [],q=>by simp only [zk,mr,eq_comm]
 | (i,u)::r,q=>by
  simp only [zk];split
  ·rename_i h;subst h;simp only [mr,eq_comm];split<;>rfl
  ·rename_i h;simp only [mr];split
   ·rename_i h2;subst h2;rw [if_neg h]
   ·exact DZ
theorem tT(_:bG P T=true)(FA:ρ.bv.length=nb){t:Nat}{res:hZ}(h:rA T nb t=some res):
  Did P ρ w hp S nb nv ((do pure (.value (←Instr.makeMap t none)):Sem Next).run P w) res:=by
 unfold rA at h;split at h
 ·rename_i kt vt sz by_ zr ly fq;split at h
  ·rename_i tk tv CJ Yz;split at h
   ·rename_i kl ka aF hk hz;cases h;refine⟨w.alloc (.map #[] 0),_,if_pos rfl,?_,⟨rfl,rfl,rfl,by simp⟩,by simp,fun k hk=>heap_alloc_old w _ hk,⟨fun k=>Iff.rfl,⟨#[],0,heap_alloc_new w _,?_⟩,?_⟩⟩
    ·subst FA;simp [Instr.makeMap,SV.val,kP]
    ·refine⟨by simp,by simp,fun ks _ hh=>by simp [E.den]at hh⟩
    ·intro ks _ _;split at hz
     ·cases hz
     ·exact xM (ρ:=ρ) hz _
   ·rename_i kl ka hk hz;cases h;refine⟨w.alloc (.map #[] 0),_,if_pos rfl,?_,⟨rfl,rfl,rfl,by simp⟩,by simp,fun k hk=>heap_alloc_old w _ hk,⟨fun k=>Iff.rfl,⟨#[],0,heap_alloc_new w _,?_⟩,?_⟩⟩
    ·subst FA;simp [Instr.makeMap,SV.val,kP]
    ·refine⟨by simp,by simp,fun ks _ hh=>by simp [pj]at hh⟩
    ·intro ks _ _;rfl
   ·cases h
  ·cases h
 ·cases h
theorem nV{agg:Bool}{cs:List SV}{v:SV}(h:iz agg cs=some v):v.val ρ=xf agg (SV.aC ρ cs):=by
 obtain⟨h1,h2⟩:=lN ρ h;cases agg with
 | true=>rw [h1 rfl];rfl
 | false=>have:=h2 rfl;rw [this];rfl
theorem Mr{ti:TI}(cQ:jS P ti){i:TypeInfo}{z:Value}(hi:P.info? ti.t=some i)(hz:i.zero=some z)(hc:SV.aC ρ ti.zero=z.cells.toList):xf ti.k.agg (SV.aC ρ ti.zero)=z:=by
 have hg:=cQ.zag i z hi hz;rw [hc];cases z with
 | agg cs=>simp only at hg;rw [hg];simp [xf,Value.cells]
 | _=>simp only [Bool.not_eq_true']at hg;rw [hg];simp [xf,Value.cells]
theorem vR(hT:bG P T=true){t:Nat}{x k:SV}{comma:Bool}{res:hZ}(h:tU T hp t x k comma=some res)(cV:Reads hp ρ w S res.rd):
  (Instr.lookup t (x.val ρ) (k.val ρ) comma).run P w= .ok (res.val.val ρ) w∧res.hO= .none:=by
 unfold tU at h;split at h
 ·rename_i kt vt sz by_ zr ly fq;obtain⟨ht,cQ⟩:=aH hT fq;have hm:P.underlying t=some (.map kt vt):=by
   have:=cQ.kind;rw [←ht];exact DX this
  split at h
  ·rename_i tk tv CJ Yz;obtain⟨rfl,Vy⟩:=aH hT Yz;obtain⟨iv,hiv,_,_,z,hz,zi⟩:=Vy.info;have YA:(zeroValue tv.t).run P w= .ok z w:=by simp [zeroValue,typeInfo,hiv,hz]
   have Tf:=Mr (ρ:=ρ) Vy hiv hz (zi ρ);split at h
   ·rename_i kl ka cX;have hK:=qH hT CJ cX;split at h
    ·rename_i kc XI;split at h
     ·rename_i Lf a zh;split at h
      ·cases h
      ·rename_i CL;simp only [ne_eq,Decidable.not_not]at CL;subst CL;have Ti:=nU (ρ:=ρ) (ks:=(List.range Lf.length).map (a.den ρ)) XI (by simp) (fun hk=>by obtain⟨k,h1,_⟩:=hK.one hk;exact⟨k,h1⟩) (gv zh);split at h
       ·rw [aeY]at h;obtain⟨v,hv,rfl⟩:=h;refine⟨?_,rfl⟩;have FC:=nV (ρ:=ρ) hv;rw [Tf]at FC;rw [Ti];have:=xL (P:=P) (w:=w) hm hK (ks:=(List.range Lf.length).map (a.den ρ)) (comma:=comma) (by simp) YA;show(Instr.lookup t (.map none) _ comma).run P w=_;rw [this];cases comma<;>simp [SV.val,SV.vals,FC,BE.den]
       ·rename_i b;split at h
        ·rename_i j b' xN Ms JY Ao has aF hf;split at h
         ·rename_i gY;obtain⟨rfl,rfl,rfl,oM⟩:=gY;split at h
          ·rename_i es Bo;rw [aeY]at h;obtain⟨v,hv,rfl⟩:=h;refine⟨?_,rfl⟩;obtain⟨hj,dC⟩:=kE hf;simp only [Ck.isMap,beq_iff_eq]at dC;subst dC;have hS:=cV j (by simp) _ hj;have mj:=lh ρ Bo;rw [qa,afe]at mj;have FC:=nV (ρ:=ρ) hv;rw [mj]at FC;rw [Ti];have YB:=cI (ρ:=ρ) oM;rw [←YB]at Tf;have:=pw (P:=P) (w:=w) hm hK (ks:=(List.range xN.length).map (a.den ρ)) (comma:=comma) (by simp) hS YA Tf;show(Instr.lookup t (.map (some (ρ.bv.getD b 0))) _ comma).run P w=_;rw [this];cases comma with
           | false=>simp only [Bool.false_eq_true,if_false,FC]
           | true=>
            simp only [if_true,SV.val,SV.vals,FC,wo,ei,qa,afe]
          ·cases h
         ·cases h
        ·rename_i j b' xN Ms JY Ao es hf;split at h
         ·rename_i gY;obtain⟨rfl,rfl,rfl,oM⟩:=gY;split at h
          ·rename_i n Tj;rw [aeY]at h;obtain⟨v,hv,rfl⟩:=h;refine⟨?_,rfl⟩;obtain⟨hj,dC⟩:=kE hf;simp only [Ck.isMap,beq_iff_eq]at dC;subst dC;have hS:=cV j (by simp) _ hj;rw [Ck.jX]at hS;have zl:n.toNat=cR ((List.range xN.length).map (a.den ρ)):=by
            have:=qa (ρ:=ρ) xN.length a;rw [Tj]at this;simp only [E.den]at this;rw [this,afe]
           have FC:=nV (ρ:=ρ) hv;rw [zl]at FC;rw [Ti];have YB:=cI (ρ:=ρ) oM;rw [←YB]at Tf;have:=pw (P:=P) (w:=w) hm hK (ks:=(List.range xN.length).map (a.den ρ)) (comma:=comma) (by simp) hS YA Tf;show(Instr.lookup t (.map (some (ρ.bv.getD b 0))) _ comma).run P w=_;rw [this];cases comma with
           | false=>simp only [Bool.false_eq_true,if_false,FC]
           | true=>simp only [if_true,SV.val,SV.vals,FC,BE.den,zl]
          ·cases h
         ·cases h
        ·cases h
       ·cases h
     ·cases h
    ·cases h
   ·cases h
  ·cases h
 ·cases h
theorem Ap{v:SV}{vs:List SV}(h:ez v=some vs):v.val ρ=xf (Bt v) (SV.aC ρ vs):=by
 cases v with
 | agg cs=>
  simp only [ez]at h;split at h
  ·cases h;rfl
  ·cases h
 | cE k n a=>
  simp only [ez,SV.one,if_true,aeX]at h;subst h;simp [SV.val,SV.aC,SV.cells,Bt,xf]
 | opt c v=>simp [ez,SV.one]at h
 | undef=>simp [ez,SV.one]at h
 | rR vs=>simp [ez,SV.one]at h
 | _=>
  simp only [ez,SV.one,if_true,aeX]at h;subst h;rfl
theorem vS(hT:bG P T=true){t:Nat}{x k v:SV}{res:hZ}(h:tV T hp t x k v=some res)(cV:Reads hp ρ w S res.rd):
  res.val= .undef∧∃j ck,res.hO= .set j ck∧∃w',(Instr.mapUpdate t (x.val ρ) (k.val ρ) (v.val ρ)).run P w= .ok () w'∧HT P w ρ hp S j ck w':=by
 unfold tV at h;split at h
 ·rename_i kt vt sz by_ zr ly fq;obtain⟨ht,cQ⟩:=aH hT fq;have hm:P.underlying t=some (.map kt vt):=by
   have:=cQ.kind;rw [←ht];exact DX this
  split at h
  ·rename_i tk tv CJ Yz;split at h
   ·rename_i kl ka cX;have hK:=qH hT CJ cX;split at h
    ·rename_i kc vs XI Al;split at h
     ·rename_i Lf a b zh;split at h
      ·rename_i j b' xN Ms JY zero has aF hf;split at h
       ·rename_i gY;obtain⟨rfl,rfl,rfl,D0,hlen,vM⟩:=gY;split at h
        ·rename_i aZ pg;cases h;have Ti:=nU (ρ:=ρ) (ks:=(List.range xN.length).map (a.den ρ)) XI (by simp) (fun hk=>by obtain⟨k,h1,_⟩:=hK.one hk;exact⟨k,h1⟩) (gv zh);obtain⟨hj,dC⟩:=kE hf;simp only [Ck.isMap,beq_iff_eq]at dC;subst dC;have hS:=cV j (by simp) _ hj;obtain⟨p1,p2,p3,p4⟩:=jb ρ pg;rw [qa,afe]at p3 p4;have FC:=Ap (ρ:=ρ) Al;rw [vM,←D0]at FC;have Vz:rowAt ρ aZ (cR ((List.range xN.length).map (a.den ρ)))=SV.aC ρ vs:=by
          rw [p4,List.drop_eq_nil_of_le,List.append_nil];rw [show(rowAt ρ aF _).length=bW aF from dh ρ aF _,bB];exact Nat.le_of_eq hlen.symm
         obtain⟨w',r1,r2,r3,r4,r5⟩:=px (P:=P) (w:=w) hm hK (ks:=(List.range xN.length).map (a.den ρ)) (by simp) hS (v.val ρ) (SV.aC ρ vs) FC
          (Gd:=fun q=> !((E.r9 has (P3 xN.length a) (.lit 1)).den ρ q==0)) (Mp:=fun i=>(aZ.map (bV.cells ρ)).flatMap fun c=>c i)
          (fun q=>by
           simp only [E.den,qa,afe];split<;>simp_all)
          (fun q=>by
           split
           ·rename_i hq;rw [hq];exact Vz
           ·rename_i hq;exact p3 q hq)
         refine⟨rfl,j,_,rfl,w',?_,⟨⟨_,hj,rfl⟩,rfl,r2,r3,fun k hk=>r4 k (fun e=>hk ((hS.1 k).2 e)),r5⟩⟩;rw [Ti];exact r1
        ·cases h
       ·cases h
      ·rename_i j b' xN Ms JY zero es hf;split at h
       ·rename_i gY;obtain⟨rfl,rfl,rfl,D0,vM⟩:=gY;split at h
        ·rename_i n Tj;cases h;have Ti:=nU (ρ:=ρ) (ks:=(List.range xN.length).map (a.den ρ)) XI (by simp) (fun hk=>by obtain⟨k,h1,_⟩:=hK.one hk;exact⟨k,h1⟩) (gv zh);obtain⟨hj,dC⟩:=kE hf;simp only [Ck.isMap,beq_iff_eq]at dC;subst dC;have hS:=cV j (by simp) _ hj;rw [Ck.jX]at hS;have zl:n.toNat=cR ((List.range xN.length).map (a.den ρ)):=by
          have:=qa (ρ:=ρ) xN.length a;rw [Tj]at this;simp only [E.den]at this;rw [this,afe]
         have FC:=Ap (ρ:=ρ) Al;rw [vM,←D0]at FC;obtain⟨w',r1,r2,r3,r4,r5⟩:=px (P:=P) (w:=w) hm hK (ks:=(List.range xN.length).map (a.den ρ)) (by simp) hS (v.val ρ) (SV.aC ρ vs) FC
          (Gd:=fun q=>pj (zk n.toNat vs es) q) (Mp:=fun q=>SV.aC ρ (mr (zk n.toNat vs es) zero q))
          (fun q=>by rw [DY,←zl])
          (fun q=>by
           simp only [DZ,←zl];split<;>rfl)
         refine⟨rfl,j,_,rfl,w',?_,⟨⟨_,hj,rfl⟩,rfl,r2,r3,fun k hk=>r4 k (fun e=>hk ((hS.1 k).2 e)),by rw [Ck.jX];exact r5⟩⟩;rw [Ti];exact r1
        ·cases h
       ·cases h
      ·cases h
     ·cases h
    ·cases h
   ·cases h
  ·cases h
 ·cases h
end
end Go.RX
