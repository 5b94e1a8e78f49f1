/- Executor. -/
import Derived.Test.YtphemenngjkfbaaRxOe
open Array renaming getElem?_eq_some_iff → adS
open Bool renaming and_eq_true → ai
open Decidable renaming not_not → ad5
open Go.Result renaming andThen_ok → adR
open Go.Sem renaming run_bind → adV, run_pure → aeb
open List renaming append_nil → adW, eq_nil_of_length_eq_zero → adZ, getElem?_eq_getElem → ad9, getElem?_eq_some_iff → adJ, map_cons → ad1, mem_append → aea, mem_map → aeu, mem_singleton → aei, range → aec
open Option renaming getD_some → aes, map_eq_some_iff → adM
open Option.some renaming injEq → adK
namespace Go.RX
theorem PD{a b:Int}(h:Jm a=Jm b):a=b:=by
 cases a<;>cases b<;>simp only [Jm]at h
 ·congr 1;omega
 ·omega
 ·omega
 ·congr 1;omega
theorem PE{a b L M:Nat}(h:(2*a+1)*2^L=(2*b+1)*2^M):a=b∧L=M:=by
 induction L generalizing M with
 | zero=>
  cases M with
  | zero=>simp only [Nat.pow_zero,Nat.mul_one]at h;exact⟨by omega,rfl⟩
  | succ M=>
   rw [Nat.pow_succ,Nat.pow_zero,Nat.mul_one,←Nat.mul_assoc]at h;omega
 | succ L ih=>
  cases M with
  | zero=>
   rw [Nat.pow_succ,Nat.pow_zero,Nat.mul_one,←Nat.mul_assoc]at h;omega
  | succ M=>
   rw [Nat.pow_succ,Nat.pow_succ,←Nat.mul_assoc,←Nat.mul_assoc]at h;have:=ih (Nat.eq_of_mul_eq_mul_right (by omega) h);exact⟨this.1,by omega⟩
theorem Gv{a b:Nat}{x y:Int}(h:uy a x=uy b y):a=b∧x=y:=by
 unfold uy at h;obtain⟨h1,h2⟩:=PE h;rw [h2]at h1;have hx:Jm x<2^((Jm y).log2+1):=by rw [←h2];exact Nat.lt_log2_self
 have hy:Jm y<2^((Jm y).log2+1):=Nat.lt_log2_self;generalize 2^((Jm y).log2+1)=N at h1 hx hy;have e1:a=b:=by
  have p:(a*N+Jm x)/N=a:=by rw [Nat.mul_comm,Nat.mul_add_div (by omega),Nat.div_eq_of_lt hx,Nat.add_zero]
  have q:(b*N+Jm y)/N=b:=by rw [Nat.mul_comm,Nat.mul_add_div (by omega),Nat.div_eq_of_lt hy,Nat.add_zero]
  rw [←p,←q,h1]
 subst e1;exact⟨rfl,PD (by omega)⟩
theorem DS: ∀(l m:List Int) (a b:Nat),l.length=m.length→l.foldl uy a=m.foldl uy b→a=b∧l=m
 | [],[],a,b,_,h=>⟨h,rfl⟩
 | [],_::_,_,_,hl,_=>by simp at hl
 | _::_,[],_,_,hl,_=>by simp at hl
 | x::l,y::m,a,b,hl,h=>by
  simp only [List.foldl_cons]at h;obtain⟨h1,h2⟩:=DS l m _ _ (by simpa using hl) h;obtain⟨h3,h4⟩:=Gv h1;exact⟨h3,by rw [h4,h2]⟩
theorem ln{l m:List Int}(hl:l.length=m.length)(h:bM l=bM m):l=m:=(DS l m 0 0 hl h).2
theorem Ic: ∀{kl:List IntKind} {a b:List Int},a.length=kl.length→b.length=kl.length→wY kl a=wY kl b→a=b
 | [],a,b,ha,hb,_=>by
  rw [adZ ha,adZ hb]
 | k::kl,[],_,ha,_,_=>by simp at ha
 | k::kl,_::_,[],_,hb,_=>by simp at hb
 | k::kl,x::a,y::b,ha,hb,h=>by
  simp only [wY,List.zip_cons_cons,ad1,List.cons.injEq,Value.int.injEq,true_and]at h;rw [h.1,Ic (by simpa using ha) (by simpa using hb) h.2]
theorem qI: ∀{kl:List IntKind} {a:List Int},a.length=kl.length→ft (wY kl a) (kl.map some)
 | [],a,ha=>by rw [adZ ha];trivial
 | k::kl,[],ha=>by simp at ha
 | k::kl,x::a,ha=>by
  simp only [wY,List.zip_cons_cons,ad1,ft,true_and];exact qI (by simpa using ha)
theorem Ie: ∀{kl:List IntKind} {a b:List Int},a.length=kl.length→b.length=kl.length→r8 (wY kl a) (wY kl b)=decide (a=b)
 | [],a,b,ha,hb=>by
  rw [adZ ha,adZ hb];rfl
 | k::kl,[],_,ha,_=>by simp at ha
 | k::kl,_::_,[],_,hb=>by simp at hb
 | k::kl,x::a,y::b,ha,hb=>by
  have ih:=Ie (kl:=kl) (a:=a) (b:=b) (by simpa using ha) (by simpa using hb);unfold wY at ih;simp only [wY,List.zip_cons_cons,ad1,r8,ih];by_cases h1:x=y<;>by_cases h2:a=b<;>simp [h1,h2]
theorem PF: ∀{kl:List IntKind} {a:List Int},∀u∈wY kl a,∃k n,u= .int k n:=by
 intro kl a u hu;simp only [wY,aeu]at hu;obtain⟨x,_,rfl⟩:=hu;exact⟨_,_,rfl⟩
theorem tu(kl:List IntKind)(ks:List Int):ez true kl ks= .agg (wY kl ks).toArray:=rfl
theorem DT{ka:Bool}{kl:List IntKind}(hk:ka=false→∃k,kl=[k]){a b:List Int}(ha:a.length=kl.length)(hb:b.length=kl.length)(h:ez ka kl a=ez ka kl b):a=b:=by
 cases ka with
 | true=>
  rw [tu,tu]at h;have:=congrArg (fun v=>match v with | .agg c=>c.toList | _=>[]) h;exact Ic ha hb (by simpa using this)
 | false=>
  obtain⟨k,rfl⟩:=hk rfl
  match a,b,ha,hb with
  | [x],[y],_,_=>simpa [ez] using h
section
variable {P:Program} {w:World}
theorem fm(em:Bool)(k:Nat): ∀(d:Nat) (t:TypeId) (L:List gl),e9 P d t=some L→∀(xs:List Value) (x:Value),ft xs L→CW P t xs x→(Instr.checkKey em (k+d) t x).run P w= .ok () w
 | 0,t,L,h=>by simp [e9]at h
 | d+1,t,L,h=>by
  intro xs x hx vx;rw [show k+(d+1)=(k+d)+1 from rfl,Instr.checkKey];unfold e9 at h;cases hu:P.underlying t with
  | none=>simp [hu]at h
  | some td=>
   rw [hu]at h;simp only [CW,hu]at vx;simp only [adV,run_underlying hu,adR];cases td with
   | int q=>
    simp only [adK]at h;subst h vx;cases x<;>simp only [ft]at hx
    rfl
   | bool=>
    simp only [adK]at h;subst h vx;cases x<;>simp only [ft]at hx
    rfl
   | array n e=>
    simp only at h vx;subst vx;split at h
    ·rename_i l hl;split at h
     ·rename_i hs;simp only [adK]at h;subst h;have gN:P.cellsOf e=l.length:=by simpa using hs
      have DH: ∃i,P.info? e=some i:=by
       cases d with
       | zero=>simp [e9]at hl
       | succ d=>
        cases hi:P.info? e with
        | none=>simp [e9,Program.underlying,hi]at hl
        | some i=>exact⟨i,rfl⟩
      obtain⟨i,hi⟩:=DH;have eV:i.size=l.length:=by simpa [Program.cellsOf,hi] using gN
      dsimp only;simp only [Std.Legacy.Range.forIn_eq_forIn_range',Std.Legacy.Range.size,Nat.sub_zero,Nat.add_one_sub_one,Nat.div_one];have key: ∀(m j:Nat),ft (xs.drop (j*l.length)) (List.replicate m l).flatten→
        (forIn (List.range' j m) PUnit.unit fun i _=>(do
         let s←sizeOf e
         let a←part e xs.toArray (i*s)
         Instr.checkKey em (k+d) e a
         pure (ForInStep.yield PUnit.unit):Sem (ForInStep PUnit))).run P w= .ok () w:=by
       intro m
       induction m with
       | zero=>intro j _;simp
       | succ m ih=>
        intro j hf;rw [List.replicate_succ,List.flatten_cons]at hf;obtain⟨h1,h2⟩:=eI hf;rw [List.drop_drop]at h2;obtain⟨a,pa,va⟩:=gV w hl gN xs (j*l.length) h1;have hc:=fm em k d e l hl _ _ h1 va;have Uc:=ih (j+1) (by rw [Nat.add_mul,Nat.one_mul];exact h2);rw [List.range'_succ];simp only [List.forIn_cons,adV,run_sizeOf w hi,adR,gN,pa,hc,aeb];exact Uc
      have:=key n 0 (by simpa using hx);simpa [adV] using this
     ·cases h
    ·cases h
   | struct fs=>
    simp only at h vx;subst vx;split at h
    ·cases h
    ·dsimp only;rw [←Array.forIn_toList];have key: ∀(L:List Field) (off:Nat) (l:List gl),jK P (e9 P d) L off=some l→ft (xs.drop off) l→
       (forIn L PUnit.unit fun f _=>(do
        if f.name≠ "_" then
         Instr.checkKey em (k+d) f.type (←part f.type xs.toArray f.offset)
         pure (ForInStep.yield PUnit.unit)
        else pure (ForInStep.yield PUnit.unit):Sem (ForInStep PUnit))).run P w= .ok () w:=by
      intro L
      induction L with
      | nil=>intro off l _ _;simp
      | cons f L ih=>
       intro off l hl hf;unfold jK at hl;split at hl
       ·cases hl
       ·rename_i hn;simp only [Bool.or_eq_true,beq_iff_eq,bne_iff_ne,ne_eq,not_or,ad5]at hn;obtain⟨hn,rfl⟩:=hn;split at hl
        ·rename_i l1 Py;split at hl
         ·rename_i hs;rw [adM]at hl;obtain⟨L',Sp,rfl⟩:=hl;have gN:P.cellsOf f.type=l1.length:=by simpa using hs
          obtain⟨h1,h2⟩:=eI hf;rw [List.drop_drop]at h2;obtain⟨a,pa,va⟩:=gV w Py gN xs f.offset h1;have hc:=fm em k d _ _ Py _ _ h1 va;have Uc:=ih _ _ Sp h2;simp only [List.forIn_cons,adV,hn,ne_eq,not_false_eq_true,if_true,adR,pa,hc,aeb];exact Uc
         ·cases hl
        ·cases hl
     have:=key fs.toList 0 L h (by simpa using hx);simpa [adV] using this
   | _=>simp at h
theorem vQ(k:IntKind)(n:Int): ∀(es:List MapEntry) (i:Nat),(∀e∈es,∃m,e.key= .int k m)→
  (Instr.findNow (.int k) (.int k n) es i=some none∧∀e∈es,e.key≠ .int k n)∨
  ∃j e,Instr.findNow (.int k) (.int k n) es i=some (some (i+j,e.val))∧es[j]? =some e∧e.key= .int k n
 | [],i,_=> .inl ⟨rfl,by simp⟩
 | e::es,i,h=>by
  obtain⟨m,hm⟩:=h e (by simp);by_cases Ya:n=m
  ·subst Ya;exact .inr ⟨0,e,by simp [Instr.findNow,hm,Instr.sameNow],rfl,hm⟩
  ·have hs:Instr.sameNow (.int k) (.int k n) e.key=some false:=by rw [hm];simp [Instr.sameNow,Ya]
   rcases vQ k n es (i+1) (fun x hx=>h x (by simp [hx]))with⟨h1,h2⟩ | ⟨j,e',h1,h2,h3⟩
   ·refine .inl ⟨by simp only [Instr.findNow,hs,h1],fun x hx=>?_⟩;rcases List.mem_cons.1 hx with rfl | hx
    ·rw [hm];simp;exact fun h=>Ya h.symm
    ·exact h2 x hx
   ·exact .inr ⟨j+1,e',by simp only [Instr.findNow,hs,h1];simp [Nat.add_assoc,Nat.add_comm 1 j],by simpa using h2,h3⟩
theorem vR{kt:TypeId}{kl:List IntKind}(hl:e9 P 12 kt=some (kl.map some))(ha: ∀cs:List Value,CW P kt cs (.agg cs.toArray)){ks:List Int}(hk:ks.length=kl.length):
  ∀(es:List MapEntry) (i:Nat),(∀e∈es,∃m:List Int,m.length=kl.length∧e.key=ez true kl m)→
   ((Instr.findAsking kt (ez true kl ks) es i).run P w= .ok none w∧∀e∈es,e.key≠ez true kl ks)∨
   ∃j e,(Instr.findAsking kt (ez true kl ks) es i).run P w= .ok (some (i+j,e.val)) w∧es[j]? =some e∧e.key=ez true kl ks
 | [],i,_=> .inl ⟨by simp [Instr.findAsking],by simp⟩
 | e::es,i,h=>by
  obtain⟨m,hm,UR⟩:=h e (by simp);have heq:(Op.equal kt (ez true kl ks) e.key).run P w= .ok (decide (ks=m)) w:=by
   have:=mJ (P:=P) 9988 12 kt _ hl w _ _ (ez true kl ks) e.key (qI hk) (qI hm) (ha _) (by rw [UR];exact ha _);rw [Ie hk hm]at this;exact this
  by_cases Ig:ks=m
  ·subst Ig;exact .inr ⟨0,e,by simp [Instr.findAsking,heq],rfl,UR⟩
  ·rcases vR hl ha hk es (i+1) (fun x hx=>h x (by simp [hx]))with⟨h1,h2⟩ | ⟨j,e',h1,h2,h3⟩
   ·refine .inl ⟨by simp [Instr.findAsking,heq,Ig,h1],fun x hx=>?_⟩;rcases List.mem_cons.1 hx with rfl | hx
    ·rw [UR];intro he;exact Ig (DT (by simp) hm hk he).symm
    ·exact h2 x hx
   ·exact .inr ⟨j+1,e',by simp [Instr.findAsking,heq,Ig,h1,Nat.add_assoc,Nat.add_comm 1 j],by simpa using h2,h3⟩
structure BR (P:Program) (kt:TypeId) (kl:List IntKind) (ka:Bool):Prop where
 lay:e9 P 12 kt=some (kl.map some)
 one:ka=false→∃k,kl=[k]∧P.underlying kt=some (.int k)
 agg:ka=true→(∀cs:List Value,CW P kt cs (.agg cs.toArray))∧(match P.underlying kt with | some (.array _ _) | some (.struct _)=>true | _=>false)=true
theorem BR.val{kt:TypeId}{kl:List IntKind}{ka:Bool}(h:BR P kt kl ka){ks:List Int}(hk:ks.length=kl.length):CW P kt (wY kl ks) (ez ka kl ks):=by
 cases ka with
 | true=>exact(h.agg rfl).1 _
 | false=>
  obtain⟨k,rfl,hu⟩:=h.one rfl
  match ks,hk with
  | [x],_=>simp [CW,hu,wY,ez]
theorem BR.inj{kt:TypeId}{kl:List IntKind}{ka:Bool}(h:BR P kt kl ka){a b:List Int}(ha:a.length=kl.length)(hb:b.length=kl.length)(he:ez ka kl a=ez ka kl b):a=b:=
 DT (fun hk=>by obtain⟨k,h1,_⟩:=h.one hk;exact⟨k,h1⟩) ha hb he
theorem kH{kt:TypeId}{kl:List IntKind}{ka:Bool}(h:BR P kt kl ka){ks:List Int}(hk:ks.length=kl.length)(es:List MapEntry)
  (BN: ∀e∈es,∃m:List Int,m.length=kl.length∧e.key=ez ka kl m):
  ((Instr.findKey kt (ez ka kl ks) es).run P w= .ok none w∧∀e∈es,e.key≠ez ka kl ks)∨
  ∃j e,(Instr.findKey kt (ez ka kl ks) es).run P w= .ok (some (j,e.val)) w∧es[j]? =some e∧e.key=ez ka kl ks:=by
 cases ka with
 | true=>
  obtain⟨h1,h2⟩:=h.agg rfl;rw [run_findKey_eq w h2];rcases vR (P:=P) (w:=w) h.lay h1 hk es 0 BN with h | ⟨j,e,h3,h4,h5⟩
  ·exact .inl h
  ·exact .inr ⟨j,e,by simpa using h3,h4,h5⟩
 | false=>
  obtain⟨k,rfl,hu⟩:=h.one rfl
  match ks,hk with
  | [n],_=>
   have Yb: ∀e∈es,∃m,e.key= .int k m:=by
    intro e he;obtain⟨m,hm,UR⟩:=BN e he
    match m,hm with
    | [x],_=>exact⟨x,UR⟩
   rcases vQ k n es 0 Yb with⟨h1,h2⟩ | ⟨j,e,h1,h2,h3⟩
   ·exact .inl ⟨by simp [Instr.findKey,run_underlying hu,ez,h1],h2⟩
   ·exact .inr ⟨j,e,by simp [Instr.findKey,run_underlying hu,ez,h1],h2,h3⟩
theorem Gw{r:Nat}{es:Array MapEntry}{clock:Nat}(hb:w.heap[r]? =some (.map es clock)):(getObj r).run P w= .ok (.map es clock) w:=by simp [getObj,Sem.run,hb]
theorem Mi{r:Nat}{es:Array MapEntry}{clock:Nat}(o:Obj)(hb:w.heap[r]? =some (.map es clock)):(setObj r o).run P w= .ok () {w with heap:=w.heap.setIfInBounds r o}:=by
 simp [setObj,Sem.run,hb]
theorem pY{t kt vt:TypeId}(hm:P.underlying t=some (.map kt vt)){kl:List IntKind}{ka va comma:Bool}(h:BR P kt kl ka){ks:List Int}(hk:ks.length=kl.length)
  {b:Nat} {zero:List Value} {has:Nat→Bool} {row:Nat→List Value} {S:Nat→Prop} (hp:(b_ b kl ka va zero has row).p w S) {z:Value} (hz:(zeroValue vt).run P w= .ok z w) (Su:xP va zero=z):
  (Instr.lookup t (.map (some b)) (ez ka kl ks) comma).run P w= .ok (if comma then .tuple #[xP va (row (bM ks)),.bool (has (bM ks))]else xP va (row (bM ks))) w:=by
 obtain⟨_,⟨es,clock,hb,BN⟩,hzero⟩:=hp;have Gx:=fm (P:=P) (w:=w) es.isEmpty 9988 12 kt _ h.lay _ _ (qI hk) (h.val hk);simp only [Instr.lookup,adV,run_underlying hm,adR,Gw hb,Gx,aeb];rcases kH (P:=P) (w:=w) h hk es.toList (fun e he=>by obtain⟨m,h1,h2,_⟩:=BN.keys e he;exact⟨m,h1,h2⟩)with⟨h1,h2⟩ | ⟨j,e,h1,h2,h3⟩
 ·have Sv:has (bM ks)=false:=by
   cases hh:has (bM ks)with
   | false=>rfl
   | true=>
    obtain⟨e,he,PG⟩:=BN.all ks hk hh;exact absurd PG (h2 e he)
  rw [h1];simp only [adR,adV,hz,aeb,Sv,hzero ks hk Sv,Su]
 ·obtain⟨m,Yc,Sw,Yd,hm4⟩:=BN.keys e (List.mem_of_getElem? h2);have:m=ks:=h.inj Yc hk (Sw.symm.trans h3);subst this;rw [h1];simp only [adR,Yd,hm4];cases comma<;>rfl
theorem yv{t kt vt:TypeId}(hm:P.underlying t=some (.map kt vt)){kl:List IntKind}{ka comma:Bool}(h:BR P kt kl ka){ks:List Int}(hk:ks.length=kl.length)
  {z:Value} (hz:(zeroValue vt).run P w= .ok z w):
  (Instr.lookup t (.map none) (ez ka kl ks) comma).run P w= .ok (if comma then .tuple #[z,.bool false]else z) w:=by
 have Gx:=fm (P:=P) (w:=w) (#[]:Array MapEntry).isEmpty 9988 12 kt _ h.lay _ _ (qI hk) (h.val hk);simp only [Instr.lookup,adV,run_underlying hm,adR,Gx,aeb];have hf:(Instr.findKey kt (ez ka kl ks) (#[]:Array MapEntry).toList).run P w= .ok none w:=by
  rcases kH (P:=P) (w:=w) h hk [] (by simp)with⟨h1,_⟩ | ⟨j,e,_,h2,_⟩
  ·exact h1
  ·simp at h2
 rw [hf];simp only [adR,adV,hz,aeb]
theorem vS(n:Nat): ∀(l:List Value),(∀u∈l,∃k m,u= .int k m)→((l.zip l).all fun(x,y)=>Instr.sameBits n x y)=true
 | [],_=>rfl
 | u::r,h=>by
  obtain⟨k,m,rfl⟩:=h u (by simp);have:=vS n r (fun x hx=>h x (by simp [hx]));simp only [List.zip_cons_cons,List.all_cons,this,Bool.and_true];cases n<;>simp [Instr.sameBits]
theorem JO(v:Value)(kl:List IntKind)(ka:Bool)(ks:List Int)(hk:ks.length=kl.length)(h1:ka=false→∃k,kl=[k])(hv:v=ez ka kl ks):
  (Instr.keyThatStays v (ez ka kl ks)).run P w= .ok (ez ka kl ks) w:=by
 subst hv;have:Instr.sameBits 10000 (ez ka kl ks) (ez ka kl ks)=true:=by
  cases ka with
  | true=>
   rw [tu];simp only [Instr.sameBits,beq_self_eq_true,Bool.true_and];exact vS _ _ PF
  | false=>
   obtain⟨k,rfl⟩:=h1 rfl
   match ks,hk with
   | [x],_=>simp [ez,Instr.sameBits]
 simp [Instr.keyThatStays,this]
theorem pZ{t kt vt:TypeId}(hm:P.underlying t=some (.map kt vt)){kl:List IntKind}{ka va:Bool}(h:BR P kt kl ka){ks:List Int}(hk:ks.length=kl.length)
  {b:Nat} {zero:List Value} {has:Nat→Bool} {row:Nat→List Value} {S:Nat→Prop} (hp:(b_ b kl ka va zero has row).p w S) (v:Value) (vc:List Value) (hv:v=xP va vc)
  {Gy:Nat→Bool} {Mj:Nat→List Value} (hh: ∀q,Gy q=if q=bM ks then true else has q) (hr: ∀q,Mj q=if q=bM ks then vc else row q):
  ∃w',(Instr.mapUpdate t (.map (some b)) (ez ka kl ks) v).run P w= .ok () w'∧fQ w w'∧w'.heap.size=w.heap.size∧(∀k,k≠b→w'.heap[k]? =w.heap[k]?)∧
   (b_ b kl ka va zero Gy Mj).p w' S:=by
 obtain⟨hS,⟨es,clock,hb,BN⟩,hzero⟩:=hp;have h1k:ka=false→∃k,kl=[k]:=fun hk=>by obtain⟨k,h1,_⟩:=h.one hk;exact⟨k,h1⟩
 have Gx:=fm (P:=P) (w:=w) false 9988 12 kt _ h.lay _ _ (qI hk) (h.val hk);have fc: ∀m:List Int,m.length=kl.length→m≠ks→bM m≠bM ks:=fun m hm hn he=>hn (ln (hm.trans hk.symm) he)
 have US:b<w.heap.size:=(adS.1 hb).1;have Ri: ∀m:List Int,m.length=kl.length→Gy (bM m)=false→Mj (bM m)=zero:=by
  intro m hm hf;rw [hh]at hf;split at hf
  ·cases hf
  ·rename_i Ye;rw [hr,if_neg Ye];exact hzero m hm hf
 rcases kH (P:=P) (w:=w) h hk es.toList (fun e he=>by obtain⟨m,h1,h2,_⟩:=BN.keys e he;exact⟨m,h1,h2⟩)with⟨h1,h2⟩ | ⟨j,e,h1,h2,h3⟩
 ·refine⟨{w with heap:=w.heap.setIfInBounds b (.map (es.push {key:=ez ka kl ks,val:=v,born:=clock}) (clock+1))},by simp only [Instr.mapUpdate,adV,run_underlying hm,adR,Gw hb,Gx,h1];exact Mi _ hb,⟨rfl,rfl,rfl,by simp⟩,by simp,fun k hk=>?_,hS,⟨es.push {key:=ez ka kl ks,val:=v,born:=clock},clock+1,?_,?_⟩,Ri⟩
  ·simp only [];rw [Array.getElem?_setIfInBounds_ne (Ne.symm hk)]
  ·simp [US]
  ·rw [Array.toList_push];refine⟨fun e he=>?_,fun i j e e' hi hj heq=>?_,fun m hm UT=>?_⟩
   ·rcases aea.1 he with he | he
    ·obtain⟨m,m1,m2,m3,m4⟩:=BN.keys e he;have DU:m≠ks:=fun h=>h2 e he (by rw [m2,h])
     exact⟨m,m1,m2,by rw [hh,if_neg (fc m m1 DU)];exact m3,by rw [hr,if_neg (fc m m1 DU)];exact m4⟩
    ·simp only [aei]at he;subst he;exact⟨ks,hk,rfl,by rw [hh,if_pos rfl],by rw [hr,if_pos rfl];exact hv⟩
   ·rw [List.getElem?_append]at hi hj;split at hi<;>split at hj
    ·exact BN.once i j e e' hi hj heq
    ·rename_i a1 a2;exfalso;have:e'={key:=ez ka kl ks,val:=v,born:=clock}:=by
      have:=List.mem_of_getElem? hj;simpa using this
     subst this;exact h2 e (List.mem_of_getElem? hi) heq
    ·exfalso;have:e={key:=ez ka kl ks,val:=v,born:=clock}:=by
      have:=List.mem_of_getElem? hi;simpa using this
     subst this;exact h2 e' (List.mem_of_getElem? hj) heq.symm
    ·have g1:=(adJ.1 hi).1;have g2:=(adJ.1 hj).1;simp only [List.length_cons,List.length_nil]at g1 g2;omega
   ·by_cases UU:m=ks
    ·subst UU;exact⟨_,List.mem_append_right _ (aei.2 rfl),rfl⟩
    ·rw [hh,if_neg (fc m hm UU)]at UT;obtain⟨e,he,PG⟩:=BN.all m hm UT;exact⟨e,List.mem_append_left _ he,PG⟩
 ·have hj:es[j]? =some e:=by rw [←Array.getElem?_toList];exact h2
  have ow:=JO (P:=P) (w:=w) e.key kl ka ks hk h1k h3;refine⟨{w with heap:=w.heap.setIfInBounds b (.map (es.modify j fun e=>{e with key:=ez ka kl ks,val:=v}) clock)},by simp only [Instr.mapUpdate,adV,run_underlying hm,adR,Gw hb,Gx,h1,hj,Option.map_some,aes,ow];exact Mi _ hb,⟨rfl,rfl,rfl,by simp⟩,by simp,fun k hk=>?_,hS,⟨es.modify j fun e=>{e with key:=ez ka kl ks,val:=v},clock,?_,?_⟩,Ri⟩
  ·simp only [];rw [Array.getElem?_setIfInBounds_ne (Ne.symm hk)]
  ·simp [US]
  ·have Ah: ∀(i:Nat),(es.modify j fun e=>{e with key:=ez ka kl ks,val:=v}).toList[i]? =if j=i then(es.toList[i]?).map (fun e=>{e with key:=ez ka kl ks,val:=v})else es.toList[i]? :=by
    intro i;rw [Array.getElem?_toList,Array.getElem?_modify,Array.getElem?_toList]
   have Sx: ∀(i:Nat) e0,(es.modify j fun e=>{e with key:=ez ka kl ks,val:=v}).toList[i]? =some e0→∃e1,es.toList[i]? =some e1∧e0.key=e1.key∧(i≠j→e0=e1)∧(i=j→e0.val=v):=by
    intro i e0 hi;rw [Ah]at hi;split at hi
    ·rename_i CX;subst CX;rw [h2,Option.map_some,adK]at hi;subst hi;exact⟨e,h2,h3.symm,fun h=>absurd rfl h,fun _=>rfl⟩
    ·rename_i CX;exact⟨e0,hi,rfl,fun _=>rfl,fun h=>absurd h.symm CX⟩
   refine⟨fun e0 Xg=>?_,fun i i' e0 e0' hi nH heq=>?_,fun m hm UT=>?_⟩
   ·obtain⟨i,hi⟩:=List.getElem?_of_mem Xg;obtain⟨e1,g1,g2,g3,g4⟩:=Sx i e0 hi;by_cases CX:i=j
    ·subst CX;rw [h2,adK]at g1;subst g1;exact⟨ks,hk,by rw [g2,h3],by rw [hh,if_pos rfl],by rw [hr,if_pos rfl,g4 rfl];exact hv⟩
    ·have:=g3 CX;subst this;obtain⟨m,m1,m2,m3,m4⟩:=BN.keys e0 (List.mem_of_getElem? g1);have DU:m≠ks:=fun h=>CX (BN.once i j e0 e g1 h2 (by rw [m2,h3,h]))
     exact⟨m,m1,m2,by rw [hh,if_neg (fc m m1 DU)];exact m3,by rw [hr,if_neg (fc m m1 DU)];exact m4⟩
   ·obtain⟨e1,g1,g2,_⟩:=Sx i e0 hi;obtain⟨e1',g1',g2',_⟩:=Sx i' e0' nH;exact BN.once i i' e1 e1' g1 g1' (by rw [←g2,←g2',heq])
   ·have: ∃e1∈es.toList,e1.key=ez ka kl m:=by
     by_cases UU:m=ks
     ·subst UU;exact⟨e,List.mem_of_getElem? h2,h3⟩
     ·rw [hh,if_neg (fc m hm UU)]at UT;exact BN.all m hm UT
    obtain⟨e1,he1,PG⟩:=this;obtain⟨i,hi⟩:=List.getElem?_of_mem he1;have:=Ah i;by_cases CX:j=i
    ·rw [if_pos CX,hi,Option.map_some]at this;refine⟨_,List.mem_of_getElem? this,?_⟩;subst CX;rw [h2,adK]at hi;subst hi;rw [←PG,h3]
    ·rw [if_neg CX,hi]at this;exact⟨e1,List.mem_of_getElem? this,PG⟩
end
section
variable {P:Program} {ρ:Env} {w:World} {look:Nat→Option SV} {bK:Operand→Value} {hp:List Ck} {S:Nat→Nat→Prop} {nb nv:Nat} {T:List TI}
theorem JP{a:E}{i:Nat}{x:Int}(h:Mk a i=some x):a.den ρ i=x:=by
 unfold Mk at h;split at h
 ·rename_i n hn;cases h;have:=ej ρ a (.lit i) 0;rw [hn]at this;simp only [E.den,Int.toNat_natCast]at this;exact this.symm
 ·cases h
theorem sh{a:E}: ∀{n:Nat} {l:List Int},uJ a n=some l→l=(aec n).map (a.den ρ)
 | 0,l,h=>by simp [uJ]at h;subst h;rfl
 | n+1,l,h=>by
  unfold uJ at h;split at h
  ·rename_i l' x h1 h2;cases h;rw [List.range_succ,List.map_append,←sh h1];simp [JP h2]
  ·cases h
theorem qJ(n:Nat)(a:E):((PH n a).den ρ 0)=(bM ((aec n).map (a.den ρ)):Nat):=by
 unfold PH;split
 ·rename_i l h;rw [←sh h];rfl
 ·rfl
theorem p_: ∀{l:List gl} {kl:List IntKind},si l=some kl→l=kl.map some
 | [],kl,h=>by simp [si]at h;subst h;rfl
 | some k::r,kl,h=>by
  simp only [si,adM]at h;obtain⟨x,hx,rfl⟩:=h;rw [p_ hx];rfl
 | none::r,kl,h=>by simp [si]at h
theorem rC(hT:bw P T=true){t:Nat}{tk:TI}(ht:aS T t=some tk){kl:List IntKind}{ka:Bool}(h:qa tk=some (kl,ka)):BR P t kl ka:=by
 obtain⟨rfl,cN⟩:=ay hT ht;have cT:=cN.kind;unfold qa at h;split at h
 ·rename_i k hk;cases h;rw [hk]at cT;have hu:=jf cT;exact⟨by simp [e9,hu],fun _=>⟨k,rfl,hu⟩,fun h=>(by cases h)⟩
 ·rename_i fs hk;split at h
  ·cases h
  ·rename_i fc;rw [adM]at h;obtain⟨l,hl,he⟩:=h;cases he;rw [hk]at cT;obtain⟨fa,hu,_⟩:=mK cT;rcases cN.lay with h | ⟨h,_⟩
   ·exact absurd h fc
   ·rw [p_ hl]at h;exact⟨h,fun h=>(by cases h),fun _=>⟨fun cs=>by simp [CW,hu],by simp [hu]⟩⟩
 ·rename_i n e hk;split at h
  ·cases h
  ·rename_i fc;rw [adM]at h;obtain⟨l,hl,he⟩:=h;cases he;rw [hk]at cT;have hu:=nS cT;rcases cN.lay with h | ⟨h,_⟩
   ·exact absurd h fc
   ·rw [p_ hl]at h;exact⟨h,fun h=>(by cases h),fun _=>⟨fun cs=>by simp [CW,hu],by simp [hu]⟩⟩
 ·cases h
theorem oF{ka:Bool}{k:SV}{kc:List SV}(h:tw ka k=some kc){kl:List IntKind}{ks:List Int}(hk:ks.length=kl.length)(h1:ka=false→∃k,kl=[k])(hc:SV.ar ρ kc=wY kl ks):k.val ρ=ez ka kl ks:=by
 unfold tw at h;split at h
 ·cases h;simp only [SV.val,hc,tu]
 ·rename_i q e;cases h;obtain⟨k0,rfl⟩:=h1 rfl
  match ks,hk,hc with
  | [x],_,hc=>
   have hc:[Value.int q (e.den ρ 0)]=[Value.int k0 x]:=hc;simp only [List.cons.injEq,and_true]at hc;exact hc
 ·cases h
theorem DV{d:Option TypeDesc}{k v:Nat}(h:gR d (.map k v)=true):d=some (.map k v):=by
 unfold gR at h;split at h<;>simp_all
theorem kT{hp:List Ck}{b j:Nat}{ck:Ck}(h:w5 hp b=some (j,ck)):hp[j]? =some ck∧ck.isMap b=true:=by
 unfold w5 at h;split at h
 ·rename_i i hi;rw [adM]at h;obtain⟨c,hc,he⟩:=h;cases he;refine⟨hc,?_⟩;rw [List.findIdx?_eq_some_iff_getElem]at hi;obtain⟨cK,h1,_⟩:=hi;rw [ad9 cK]at hc;cases hc;exact h1
 ·cases h
theorem yw{te:TI}{z:List bV}(h:uK T te=some z): ∀i:Nat,rowAt ρ z i=SV.ar ρ te.zero:=by
 unfold uK at h;split at h
 ·split at h
  ·rename_i hz;cases h;simp only [ai,List.isEmpty_iff]at hz;intro i;rw [hz.1];rfl
  ·cases h
 ·exact fun i=>(eX h).1 i
theorem cJ: ∀{a b:List SV},ff a b=true→SV.ar ρ a=SV.ar ρ b
 | [],[],_=>rfl
 | [],_::_,h=>by simp [ff]at h
 | v::r,[],h=>by cases v<;>simp [ff]at h
 | v::r,u::s,h=>by
  unfold ff at h;split at h
  ·rename_i h1 _;cases h1
  ·rename_i h1 h2;cases h1;cases h2;simp only [ai,beq_iff_eq]at h;obtain⟨⟨rfl,rfl⟩,h⟩:=h;simp only [SV.ar,cJ h]
  ·rename_i h1 h2;cases h1;cases h2;simp only [ai,beq_iff_eq]at h;obtain⟨rfl,h⟩:=h;simp only [SV.ar,cJ h]
  ·rename_i h1 h2;cases h1;cases h2;simp only [ai,beq_iff_eq]at h;obtain⟨⟨⟨rfl,rfl⟩,rfl⟩,h⟩:=h;simp only [SV.ar,cJ h]
  ·rename_i h1 h2;cases h1;cases h2;simp only [SV.ar,cJ h]
  ·rename_i h1 h2;cases h1;cases h2;simp only [SV.ar,cJ h]
  ·rename_i h1 h2;cases h1;cases h2;simp only [SV.ar,cJ h]
  ·rename_i h1 h2;cases h1;cases h2;simp only [SV.ar,cJ h]
  ·rename_i h1 h2;cases h1;cases h2;simp only [SV.ar,cJ h]
  ·rename_i h1 h2;cases h1;cases h2;simp only [ai,beq_iff_eq]at h;obtain⟨rfl,h⟩:=h;simp only [SV.ar,cJ h]
  ·cases h
theorem DW{k:Nat}{v:List SV}: ∀{es:List (Nat×List SV)} {q:Nat},pU (Ai k v es) q=if q=k then true else pU es q
 | [],q=>by simp only [Ai,pU,eq_comm]
 | (i,u)::r,q=>by
  simp only [Ai];split
  ·rename_i h;subst h;simp only [pU,eq_comm];split<;>rfl
  ·rename_i h;simp only [pU];split
   ·rename_i h2;subst h2;rw [if_neg h]
   ·exact DW
theorem DY{k:Nat}{v z:List SV}: ∀{es:List (Nat×List SV)} {q:Nat},nj (Ai k v es) z q=if q=k then v else nj es z q
 | [],q=>by simp only [Ai,nj,eq_comm]
 | (i,u)::r,q=>by
  simp only [Ai];split
  ·rename_i h;subst h;simp only [nj,eq_comm];split<;>rfl
  ·rename_i h;simp only [nj];split
   ·rename_i h2;subst h2;rw [if_neg h]
   ·exact DY
theorem uL(_:bw P T=true)(DN:ρ.bv.length=nb){t:Nat}{res:gU}(h:sj T nb t=some res):
  sV P ρ w hp S nb nv ((do pure (.value (←Instr.makeMap t none)):Sem Next).run P w) res:=by
 unfold sj at h;split at h
 ·rename_i kt vt sz by_ zr ly fk;split at h
  ·rename_i tk tv zZ Yf;split at h
   ·rename_i kl ka aA hk hz;cases h;refine⟨w.alloc (.map #[] 0),_,if_pos rfl,?_,⟨rfl,rfl,rfl,by simp⟩,by simp,fun k hk=>heap_alloc_old w _ hk,⟨fun k=>Iff.rfl,⟨#[],0,heap_alloc_new w _,?_⟩,?_⟩⟩
    ·subst DN;simp [Instr.makeMap,SV.val,jM]
    ·refine⟨by simp,by simp,fun ks _ hh=>by simp [E.den]at hh⟩
    ·intro ks _ _;split at hz
     ·cases hz
     ·exact yw (ρ:=ρ) hz _
   ·rename_i kl ka hk hz;cases h;refine⟨w.alloc (.map #[] 0),_,if_pos rfl,?_,⟨rfl,rfl,rfl,by simp⟩,by simp,fun k hk=>heap_alloc_old w _ hk,⟨fun k=>Iff.rfl,⟨#[],0,heap_alloc_new w _,?_⟩,?_⟩⟩
    ·subst DN;simp [Instr.makeMap,SV.val,jM]
    ·refine⟨by simp,by simp,fun ks _ hh=>by simp [pU]at hh⟩
    ·intro ks _ _;rfl
   ·cases h
  ·cases h
 ·cases h
theorem oG{agg:Bool}{cs:List SV}{v:SV}(h:iz agg cs=some v):v.val ρ=xP agg (SV.ar ρ cs):=by
 obtain⟨h1,h2⟩:=mH ρ h;cases agg with
 | true=>rw [h1 rfl];rfl
 | false=>have:=h2 rfl;rw [this];rfl
theorem Ml{ti:TI}(cN:kb P ti){i:TypeInfo}{z:Value}(hi:P.info? ti.t=some i)(hz:i.zero=some z)(hc:SV.ar ρ ti.zero=z.cells.toList):xP ti.k.agg (SV.ar ρ ti.zero)=z:=by
 have hg:=cN.zag i z hi hz;rw [hc];cases z with
 | agg cs=>simp only at hg;rw [hg];simp [xP,Value.cells]
 | _=>simp only [Bool.not_eq_true']at hg;rw [hg];simp [xP,Value.cells]
theorem wM(hT:bw P T=true){t:Nat}{x k:SV}{comma:Bool}{res:gU}(h:uM T hp t x k comma=some res)(cU:Reads hp ρ w S res.rd):
  (Instr.lookup t (x.val ρ) (k.val ρ) comma).run P w= .ok (res.val.val ρ) w∧res.gJ= .none:=by
 unfold uM at h;split at h
 ·rename_i kt vt sz by_ zr ly fk;obtain⟨ht,cN⟩:=ay hT fk;have hm:P.underlying t=some (.map kt vt):=by
   have:=cN.kind;rw [←ht];exact DV this
  split at h
  ·rename_i tk tv zZ Yf;obtain⟨rfl,UW⟩:=ay hT Yf;obtain⟨iv,hiv,_,_,z,hz,Af⟩:=UW.info;have Yh:(zeroValue tv.t).run P w= .ok z w:=by simp [zeroValue,typeInfo,hiv,hz]
   have Su:=Ml (ρ:=ρ) UW hiv hz (Af ρ);split at h
   ·rename_i kl ka cT;have hK:=rC hT zZ cT;split at h
    ·rename_i kc Xh;split at h
     ·rename_i Lz a DG;split at h
      ·cases h
      ·rename_i O6;simp only [ne_eq,ad5]at O6;subst O6;have Sz:=oF (ρ:=ρ) (ks:=(aec Lz.length).map (a.den ρ)) Xh (by simp) (fun hk=>by obtain⟨k,h1,_⟩:=hK.one hk;exact⟨k,h1⟩) (gy DG);split at h
       ·rw [adM]at h;obtain⟨v,hv,rfl⟩:=h;refine⟨?_,rfl⟩;have FL:=oG (ρ:=ρ) hv;rw [Su]at FL;rw [Sz];have:=yv (P:=P) (w:=w) hm hK (ks:=(aec Lz.length).map (a.den ρ)) (comma:=comma) (by simp) Yh;show(Instr.lookup t (.map none) _ comma).run P w=_;rw [this];cases comma<;>simp [SV.val,SV.bK,FL,BE.den]
       ·rename_i b;split at h
        ·rename_i j b' yx Mn JQ AR has aA hf;split at h
         ·rename_i hG;obtain⟨rfl,rfl,rfl,pz⟩:=hG;split at h
          ·rename_i es BN;rw [adM]at h;obtain⟨v,hv,rfl⟩:=h;refine⟨?_,rfl⟩;obtain⟨hj,dM⟩:=kT hf;simp only [Ck.isMap,beq_iff_eq]at dM;subst dM;have hS:=cU j (by simp) _ hj;have m_:=lK ρ BN;rw [qJ,Int.toNat_natCast]at m_;have FL:=oG (ρ:=ρ) hv;rw [m_]at FL;rw [Sz];have Yi:=cJ (ρ:=ρ) pz;rw [←Yi]at Su;have:=pY (P:=P) (w:=w) hm hK (ks:=(aec yx.length).map (a.den ρ)) (comma:=comma) (by simp) hS Yh Su;show(Instr.lookup t (.map (some (ρ.bv.getD b 0))) _ comma).run P w=_;rw [this];cases comma with
           | false=>simp only [Bool.false_eq_true,if_false,FL]
           | true=>
            simp only [if_true,SV.val,SV.bK,FL,wX,ej,qJ,Int.toNat_natCast]
          ·cases h
         ·cases h
        ·rename_i j b' yx Mn JQ AR es hf;split at h
         ·rename_i hG;obtain⟨rfl,rfl,rfl,pz⟩:=hG;split at h
          ·rename_i n SA;rw [adM]at h;obtain⟨v,hv,rfl⟩:=h;refine⟨?_,rfl⟩;obtain⟨hj,dM⟩:=kT hf;simp only [Ck.isMap,beq_iff_eq]at dM;subst dM;have hS:=cU j (by simp) _ hj;rw [Ck.kj]at hS;have Ih:n.toNat=bM ((aec yx.length).map (a.den ρ)):=by
            have:=qJ (ρ:=ρ) yx.length a;rw [SA]at this;simp only [E.den]at this;rw [this,Int.toNat_natCast]
           have FL:=oG (ρ:=ρ) hv;rw [Ih]at FL;rw [Sz];have Yi:=cJ (ρ:=ρ) pz;rw [←Yi]at Su;have:=pY (P:=P) (w:=w) hm hK (ks:=(aec yx.length).map (a.den ρ)) (comma:=comma) (by simp) hS Yh Su;show(Instr.lookup t (.map (some (ρ.bv.getD b 0))) _ comma).run P w=_;rw [this];cases comma with
           | false=>simp only [Bool.false_eq_true,if_false,FL]
           | true=>simp only [if_true,SV.val,SV.bK,FL,BE.den,Ih]
          ·cases h
         ·cases h
        ·cases h
       ·cases h
     ·cases h
    ·cases h
   ·cases h
  ·cases h
 ·cases h
theorem AS{v:SV}{vs:List SV}(h:er v=some vs):v.val ρ=xP (BS v) (SV.ar ρ vs):=by
 cases v with
 | agg cs=>
  simp only [er]at h;split at h
  ·cases h;rfl
  ·cases h
 | aX k n a=>
  simp only [er,SV.one,if_true,adK]at h;subst h;simp [SV.val,SV.ar,SV.cells,BS,xP]
 | opt c v=>simp [er,SV.one]at h
 | undef=>simp [er,SV.one]at h
 | j7 vs=>simp [er,SV.one]at h
 | _=>
  simp only [er,SV.one,if_true,adK]at h;subst h;rfl
theorem o9(hT:bw P T=true){t:Nat}{x k v:SV}{res:gU}(h:qK T hp t x k v=some res)(cU:Reads hp ρ w S res.rd):
  res.val= .undef∧∃j ck,res.gJ= .set j ck∧∃w',(Instr.mapUpdate t (x.val ρ) (k.val ρ) (v.val ρ)).run P w= .ok () w'∧H9 P w ρ hp S j ck w':=by
 unfold qK at h;split at h
 ·rename_i kt vt sz by_ zr ly fk;obtain⟨ht,cN⟩:=ay hT fk;have hm:P.underlying t=some (.map kt vt):=by
   have:=cN.kind;rw [←ht];exact DV this
  split at h
  ·rename_i tk tv zZ Yf;split at h
   ·rename_i kl ka cT;have hK:=rC hT zZ cT;split at h
    ·rename_i kc vs Xh H_;split at h
     ·rename_i Lz a b DG;split at h
      ·rename_i j b' yx Mn JQ zero has aA hf;split at h
       ·rename_i hG;obtain⟨rfl,rfl,rfl,CY,hlen,Ad⟩:=hG;split at h
        ·rename_i aR pR;cases h;have Sz:=oF (ρ:=ρ) (ks:=(aec yx.length).map (a.den ρ)) Xh (by simp) (fun hk=>by obtain⟨k,h1,_⟩:=hK.one hk;exact⟨k,h1⟩) (gy DG);obtain⟨hj,dM⟩:=kT hf;simp only [Ck.isMap,beq_iff_eq]at dM;subst dM;have hS:=cU j (by simp) _ hj;obtain⟨p1,p2,p3,p4⟩:=jd ρ pR;rw [qJ,Int.toNat_natCast]at p3 p4;have FL:=AS (ρ:=ρ) H_;rw [Ad,←CY]at FL;have UX:rowAt ρ aR (bM ((aec yx.length).map (a.den ρ)))=SV.ar ρ vs:=by
          rw [p4,List.drop_eq_nil_of_le,adW];rw [show(rowAt ρ aA _).length=bX aA from dj ρ aA _,bp];exact Nat.le_of_eq hlen.symm
         obtain⟨w',r1,r2,r3,r4,r5⟩:=pZ (P:=P) (w:=w) hm hK (ks:=(aec yx.length).map (a.den ρ)) (by simp) hS (v.val ρ) (SV.ar ρ vs) FL
          (Gy:=fun q=> !((E.cV has (PH yx.length a) (.lit 1)).den ρ q==0)) (Mj:=fun i=>(aR.map (bV.cells ρ)).flatMap fun c=>c i)
          (fun q=>by
           simp only [E.den,qJ,Int.toNat_natCast];split<;>simp_all)
          (fun q=>by
           split
           ·rename_i hq;rw [hq];exact UX
           ·rename_i hq;exact p3 q hq)
         refine⟨rfl,j,_,rfl,w',?_,⟨⟨_,hj,rfl⟩,rfl,r2,r3,fun k hk=>r4 k (fun e=>hk ((hS.1 k).2 e)),r5⟩⟩;rw [Sz];exact r1
        ·cases h
       ·cases h
      ·rename_i j b' yx Mn JQ zero es hf;split at h
       ·rename_i hG;obtain⟨rfl,rfl,rfl,CY,Ad⟩:=hG;split at h
        ·rename_i n SA;cases h;have Sz:=oF (ρ:=ρ) (ks:=(aec yx.length).map (a.den ρ)) Xh (by simp) (fun hk=>by obtain⟨k,h1,_⟩:=hK.one hk;exact⟨k,h1⟩) (gy DG);obtain⟨hj,dM⟩:=kT hf;simp only [Ck.isMap,beq_iff_eq]at dM;subst dM;have hS:=cU j (by simp) _ hj;rw [Ck.kj]at hS;have Ih:n.toNat=bM ((aec yx.length).map (a.den ρ)):=by
          have:=qJ (ρ:=ρ) yx.length a;rw [SA]at this;simp only [E.den]at this;rw [this,Int.toNat_natCast]
         have FL:=AS (ρ:=ρ) H_;rw [Ad,←CY]at FL;obtain⟨w',r1,r2,r3,r4,r5⟩:=pZ (P:=P) (w:=w) hm hK (ks:=(aec yx.length).map (a.den ρ)) (by simp) hS (v.val ρ) (SV.ar ρ vs) FL
          (Gy:=fun q=>pU (Ai n.toNat vs es) q) (Mj:=fun q=>SV.ar ρ (nj (Ai n.toNat vs es) zero q))
          (fun q=>by rw [DW,←Ih])
          (fun q=>by
           simp only [DY,←Ih];split<;>rfl)
         refine⟨rfl,j,_,rfl,w',?_,⟨⟨_,hj,rfl⟩,rfl,r2,r3,fun k hk=>r4 k (fun e=>hk ((hS.1 k).2 e)),by rw [Ck.kj];exact r5⟩⟩;rw [Sz];exact r1
        ·cases h
       ·cases h
      ·cases h
     ·cases h
    ·cases h
   ·cases h
  ·cases h
 ·cases h
end
end Go.RX
