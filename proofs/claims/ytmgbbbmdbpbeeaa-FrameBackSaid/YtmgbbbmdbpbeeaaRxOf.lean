/- Executor. -/
import Derived.Test.YtmgbbbmdbpbeeaaRxOe
open Array renaming getElem?_eq_some_iff → adD
open Go.Result renaming andThen_ok → adC
open Go.Sem renaming run_bind → adL, run_pure → ad_
open List renaming eq_nil_of_length_eq_zero → adR, getElem?_eq_some_iff → adu, map_cons → adT, mem_cons → adW, mem_of_getElem? → ad3, mem_singleton → aea
open List.cons renaming injEq → adF
open Option renaming getD_some → aee, map_eq_some_iff → adw
open Option.some renaming injEq → adv
namespace Go.RX
theorem Qv{a b:Int}(h:Jg a=Jg b):a=b:=by
 cases a<;>cases b<;>simp only [Jg]at h
 ·congr 1;omega
 ·omega
 ·omega
 ·congr 1;omega
theorem Qw{a b L M:Nat}(h:(2*a+1)*2^L=(2*b+1)*2^M):a=b∧L=M:=by
 induction L generalizing M with
 | zero=>
  cases M with
  | zero=>simp only [Nat.pow_zero,Nat.mul_one]at h;exact⟨by omega,rfl⟩
  | succ M=>
   rw [Nat.pow_succ,Nat.pow_zero,Nat.mul_one,←Nat.mul_assoc]at h;omega
 | succ L ih=>
  cases M with
  | zero=>
   rw [Nat.pow_succ,Nat.pow_zero,Nat.mul_one,←Nat.mul_assoc]at h;omega
  | succ M=>
   rw [Nat.pow_succ,Nat.pow_succ,←Nat.mul_assoc,←Nat.mul_assoc]at h;have:=ih (Nat.eq_of_mul_eq_mul_right (by omega) h);exact⟨this.1,by omega⟩
theorem Hr{a b:Nat}{x y:Int}(h:tw a x=tw b y):a=b∧x=y:=by
 unfold tw at h;obtain⟨h1,h2⟩:=Qw h;rw [h2]at h1;have hx:Jg x<2^((Jg y).log2+1):=by rw [←h2];exact Nat.lt_log2_self
 have hy:Jg y<2^((Jg y).log2+1):=Nat.lt_log2_self;generalize 2^((Jg y).log2+1)=N at h1 hx hy;have e1:a=b:=by
  have p:(a*N+Jg x)/N=a:=by rw [Nat.mul_comm,Nat.mul_add_div (by omega),Nat.div_eq_of_lt hx,Nat.add_zero]
  have q:(b*N+Jg y)/N=b:=by rw [Nat.mul_comm,Nat.mul_add_div (by omega),Nat.div_eq_of_lt hy,Nat.add_zero]
  rw [←p,←q,h1]
 subst e1;exact⟨rfl,Qv (by omega)⟩
theorem FA: ∀(l m:List Int) (a b:Nat),l.length=m.length→l.foldl tw a=m.foldl tw b→a=b∧l=m
 | [],[],a,b,_,h=>⟨h,rfl⟩
 | [],_::_,_,_,hl,_=>by simp at hl
 | _::_,[],_,_,hl,_=>by simp at hl
 | x::l,y::m,a,b,hl,h=>by
  simp only [List.foldl_cons]at h;obtain⟨h1,h2⟩:=FA l m _ _ (by simpa using hl) h;obtain⟨h3,h4⟩:=Hr h1;exact⟨h3,by rw [h4,h2]⟩
theorem AQ{l m:List Int}(hl:l.length=m.length)(h:cI l=cI m):l=m:=(FA l m 0 0 hl h).2
theorem IW: ∀{kl:List IntKind} {a b:List Int},a.length=kl.length→b.length=kl.length→wq kl a=wq kl b→a=b
 | [],a,b,ha,hb,_=>by
  rw [adR ha,adR hb]
 | k::kl,[],_,ha,_,_=>by simp at ha
 | k::kl,_::_,[],_,hb,_=>by simp at hb
 | k::kl,x::a,y::b,ha,hb,h=>by
  simp only [wq,List.zip_cons_cons,adT,adF,Value.int.injEq,true_and]at h;rw [h.1,IW (by simpa using ha) (by simpa using hb) h.2]
theorem qo: ∀{kl:List IntKind} {a:List Int},a.length=kl.length→eR (wq kl a) (kl.map some)
 | [],a,ha=>by rw [adR ha];trivial
 | k::kl,[],ha=>by simp at ha
 | k::kl,x::a,ha=>by
  simp only [wq,List.zip_cons_cons,adT,eR,true_and];exact qo (by simpa using ha)
theorem IX: ∀{kl:List IntKind} {a b:List Int},a.length=kl.length→b.length=kl.length→qZ (wq kl a) (wq kl b)=decide (a=b)
 | [],a,b,ha,hb=>by
  rw [adR ha,adR hb];rfl
 | k::kl,[],_,ha,_=>by simp at ha
 | k::kl,_::_,[],_,hb=>by simp at hb
 | k::kl,x::a,y::b,ha,hb=>by
  have ih:=IX (kl:=kl) (a:=a) (b:=b) (by simpa using ha) (by simpa using hb);unfold wq at ih;simp only [wq,List.zip_cons_cons,adT,qZ,ih];by_cases h1:x=y<;>by_cases h2:a=b<;>simp [h1,h2]
theorem Qx: ∀{kl:List IntKind} {a:List Int},∀u∈wq kl a,∃k n,u= .int k n:=by
 intro kl a u hu;simp only [wq,List.mem_map]at hu;obtain⟨x,_,rfl⟩:=hu;exact⟨_,_,rfl⟩
theorem sj(kl:List IntKind)(ks:List Int):dS true kl ks= .agg (wq kl ks).toArray:=rfl
theorem FB{ka:Bool}{kl:List IntKind}(hk:ka=false→∃k,kl=[k]){a b:List Int}(ha:a.length=kl.length)(hb:b.length=kl.length)(h:dS ka kl a=dS ka kl b):a=b:=by
 cases ka with
 | true=>
  rw [sj,sj]at h;have:=congrArg (fun v=>match v with | .agg c=>c.toList | _=>[]) h;exact IW ha hb (by simpa using this)
 | false=>
  obtain⟨k,rfl⟩:=hk rfl
  match a,b,ha,hb with
  | [x],[y],_,_=>simpa [dS] using h
section
variable {P:Program} {w:World}
theorem eQ(em:Bool)(k:Nat): ∀(d:Nat) (t:TypeId) (L:List fJ),eG P d t=some L→∀(xs:List Value) (x:Value),eR xs L→C8 P t xs x→(Instr.checkKey em (k+d) t x).run P w= .ok () w
 | 0,t,L,h=>by simp [eG]at h
 | d+1,t,L,h=>by
  intro xs x hx vx;rw [show k+(d+1)=(k+d)+1 from rfl,Instr.checkKey];unfold eG at h;cases hu:P.underlying t with
  | none=>simp [hu]at h
  | some td=>
   rw [hu]at h;simp only [C8,hu]at vx;simp only [adL,run_underlying hu,adC];cases td with
   | int q=>
    simp only [adv]at h;subst h vx;cases x<;>simp only [eR]at hx
    rfl
   | bool=>
    simp only [adv]at h;subst h vx;cases x<;>simp only [eR]at hx
    rfl
   | array n e=>
    simp only at h vx;subst vx;split at h
    ·rename_i l hl;split at h
     ·rename_i hs;simp only [adv]at h;subst h;have nC:P.cellsOf e=l.length:=by simpa using hs
      have DX: ∃i,P.info? e=some i:=by
       cases d with
       | zero=>simp [eG]at hl
       | succ d=>
        cases hi:P.info? e with
        | none=>simp [eG,Program.underlying,hi]at hl
        | some i=>exact⟨i,rfl⟩
      obtain⟨i,hi⟩:=DX;have eL:i.size=l.length:=by simpa [Program.cellsOf,hi] using nC
      dsimp only;simp only [Std.Legacy.Range.forIn_eq_forIn_range',Std.Legacy.Range.size,Nat.sub_zero,Nat.add_one_sub_one,Nat.div_one];have key: ∀(m j:Nat),eR (xs.drop (j*l.length)) (List.replicate m l).flatten→
        (forIn (List.range' j m) PUnit.unit fun i _=>(do
         let s←sizeOf e
         let a←part e xs.toArray (i*s)
         Instr.checkKey em (k+d) e a
         pure (ForInStep.yield PUnit.unit):Sem (ForInStep PUnit))).run P w= .ok () w:=by
       intro m
       induction m with
       | zero=>intro j _;simp
       | succ m ih=>
        intro j hf;rw [List.replicate_succ,List.flatten_cons]at hf;obtain⟨h1,h2⟩:=ef hf;rw [List.drop_drop]at h2;obtain⟨a,pa,va⟩:=gC w hl nC xs (j*l.length) h1;have hc:=eQ em k d e l hl _ _ h1 va;have TL:=ih (j+1) (by rw [Nat.add_mul,Nat.one_mul];exact h2);rw [List.range'_succ];simp only [List.forIn_cons,adL,run_sizeOf w hi,adC,nC,pa,hc,ad_];exact TL
      have:=key n 0 (by simpa using hx);simpa [adL] using this
     ·cases h
    ·cases h
   | struct fs=>
    simp only at h vx;subst vx;split at h
    ·cases h
    ·dsimp only;rw [←Array.forIn_toList];have key: ∀(L:List Field) (off:Nat) (l:List fJ),jv P (eG P d) L off=some l→eR (xs.drop off) l→
       (forIn L PUnit.unit fun f _=>(do
        if f.name≠ "_" then
         Instr.checkKey em (k+d) f.type (←part f.type xs.toArray f.offset)
         pure (ForInStep.yield PUnit.unit)
        else pure (ForInStep.yield PUnit.unit):Sem (ForInStep PUnit))).run P w= .ok () w:=by
      intro L
      induction L with
      | nil=>intro off l _ _;simp
      | cons f L ih=>
       intro off l hl hf;unfold jv at hl;split at hl
       ·cases hl
       ·rename_i hn;simp only [Bool.or_eq_true,beq_iff_eq,bne_iff_ne,ne_eq,not_or,Decidable.not_not]at hn;obtain⟨hn,rfl⟩:=hn;split at hl
        ·rename_i l1 Wj;split at hl
         ·rename_i hs;rw [adw]at hl;obtain⟨L',R2,rfl⟩:=hl;have nC:P.cellsOf f.type=l1.length:=by simpa using hs
          obtain⟨h1,h2⟩:=ef hf;rw [List.drop_drop]at h2;obtain⟨a,pa,va⟩:=gC w Wj nC xs f.offset h1;have hc:=eQ em k d _ _ Wj _ _ h1 va;have TL:=ih _ _ R2 h2;simp only [List.forIn_cons,adL,hn,ne_eq,not_false_eq_true,if_true,adC,pa,hc,ad_];exact TL
         ·cases hl
        ·cases hl
     have:=key fs.toList 0 L h (by simpa using hx);simpa [adL] using this
   | _=>simp at h
theorem vG(k:IntKind)(n:Int): ∀(es:List MapEntry) (i:Nat),(∀e∈es,∃m,e.key= .int k m)→
  (Instr.findNow (.int k) (.int k n) es i=some none∧∀e∈es,e.key≠ .int k n)∨
  ∃j e,Instr.findNow (.int k) (.int k n) es i=some (some (i+j,e.val))∧es[j]? =some e∧e.key= .int k n
 | [],i,_=> .inl ⟨rfl,by simp⟩
 | e::es,i,h=>by
  obtain⟨m,hm⟩:=h e (by simp);by_cases Re:n=m
  ·subst Re;exact .inr ⟨0,e,by simp [Instr.findNow,hm,Instr.sameNow],rfl,hm⟩
  ·have hs:Instr.sameNow (.int k) (.int k n) e.key=some false:=by rw [hm];simp [Instr.sameNow,Re]
   rcases vG k n es (i+1) (fun x hx=>h x (by simp [hx]))with⟨h1,h2⟩ | ⟨j,e',h1,h2,h3⟩
   ·refine .inl ⟨by simp only [Instr.findNow,hs,h1],fun x hx=>?_⟩;rcases adW.1 hx with rfl | hx
    ·rw [hm];simp;exact fun h=>Re h.symm
    ·exact h2 x hx
   ·exact .inr ⟨j+1,e',by simp only [Instr.findNow,hs,h1];simp [Nat.add_assoc,Nat.add_comm 1 j],by simpa using h2,h3⟩
theorem vH{kt:TypeId}{kl:List IntKind}(hl:eG P 12 kt=some (kl.map some))(ha: ∀cs:List Value,C8 P kt cs (.agg cs.toArray)){ks:List Int}(hk:ks.length=kl.length):
  ∀(es:List MapEntry) (i:Nat),(∀e∈es,∃m:List Int,m.length=kl.length∧e.key=dS true kl m)→
   ((Instr.findAsking kt (dS true kl ks) es i).run P w= .ok none w∧∀e∈es,e.key≠dS true kl ks)∨
   ∃j e,(Instr.findAsking kt (dS true kl ks) es i).run P w= .ok (some (i+j,e.val)) w∧es[j]? =some e∧e.key=dS true kl ks
 | [],i,_=> .inl ⟨by simp [Instr.findAsking],by simp⟩
 | e::es,i,h=>by
  obtain⟨m,hm,VP⟩:=h e (by simp);have heq:(Op.equal kt (dS true kl ks) e.key).run P w= .ok (decide (ks=m)) w:=by
   have:=lJ (P:=P) 9988 12 kt _ hl w _ _ (dS true kl ks) e.key (qo hk) (qo hm) (ha _) (by rw [VP];exact ha _);rw [IX hk hm]at this;exact this
  by_cases WI:ks=m
  ·subst WI;exact .inr ⟨0,e,by simp [Instr.findAsking,heq],rfl,VP⟩
  ·rcases vH hl ha hk es (i+1) (fun x hx=>h x (by simp [hx]))with⟨h1,h2⟩ | ⟨j,e',h1,h2,h3⟩
   ·refine .inl ⟨by simp [Instr.findAsking,heq,WI,h1],fun x hx=>?_⟩;rcases adW.1 hx with rfl | hx
    ·rw [VP];intro he;exact WI (FB (by simp) hm hk he).symm
    ·exact h2 x hx
   ·exact .inr ⟨j+1,e',by simp [Instr.findAsking,heq,WI,h1,Nat.add_assoc,Nat.add_comm 1 j],by simpa using h2,h3⟩
structure BR (P:Program) (kt:TypeId) (kl:List IntKind) (ka:Bool):Prop where
 lay:eG P 12 kt=some (kl.map some)
 one:ka=false→∃k,kl=[k]∧P.underlying kt=some (.int k)
 agg:ka=true→(∀cs:List Value,C8 P kt cs (.agg cs.toArray))∧(match P.underlying kt with | some (.array _ _) | some (.struct _)=>true | _=>false)=true
theorem BR.val{kt:TypeId}{kl:List IntKind}{ka:Bool}(h:BR P kt kl ka){ks:List Int}(hk:ks.length=kl.length):C8 P kt (wq kl ks) (dS ka kl ks):=by
 cases ka with
 | true=>exact(h.agg rfl).1 _
 | false=>
  obtain⟨k,rfl,hu⟩:=h.one rfl
  match ks,hk with
  | [x],_=>simp [C8,hu,wq,dS]
theorem BR.inj{kt:TypeId}{kl:List IntKind}{ka:Bool}(h:BR P kt kl ka){a b:List Int}(ha:a.length=kl.length)(hb:b.length=kl.length)(he:dS ka kl a=dS ka kl b):a=b:=
 FB (fun hk=>by obtain⟨k,h1,_⟩:=h.one hk;exact⟨k,h1⟩) ha hb he
theorem kr{kt:TypeId}{kl:List IntKind}{ka:Bool}(h:BR P kt kl ka){ks:List Int}(hk:ks.length=kl.length)(es:List MapEntry)
  (BK: ∀e∈es,∃m:List Int,m.length=kl.length∧e.key=dS ka kl m):
  ((Instr.findKey kt (dS ka kl ks) es).run P w= .ok none w∧∀e∈es,e.key≠dS ka kl ks)∨
  ∃j e,(Instr.findKey kt (dS ka kl ks) es).run P w= .ok (some (j,e.val)) w∧es[j]? =some e∧e.key=dS ka kl ks:=by
 cases ka with
 | true=>
  obtain⟨h1,h2⟩:=h.agg rfl;rw [run_findKey_eq w h2];rcases vH (P:=P) (w:=w) h.lay h1 hk es 0 BK with h | ⟨j,e,h3,h4,h5⟩
  ·exact .inl h
  ·exact .inr ⟨j,e,by simpa using h3,h4,h5⟩
 | false=>
  obtain⟨k,rfl,hu⟩:=h.one rfl
  match ks,hk with
  | [n],_=>
   have YD: ∀e∈es,∃m,e.key= .int k m:=by
    intro e he;obtain⟨m,hm,VP⟩:=BK e he
    match m,hm with
    | [x],_=>exact⟨x,VP⟩
   rcases vG k n es 0 YD with⟨h1,h2⟩ | ⟨j,e,h1,h2,h3⟩
   ·exact .inl ⟨by simp [Instr.findKey,run_underlying hu,dS,h1],h2⟩
   ·exact .inr ⟨j,e,by simp [Instr.findKey,run_underlying hu,dS,h1],h2,h3⟩
theorem Hs{r:Nat}{es:Array MapEntry}{clock:Nat}(hb:w.heap[r]? =some (.map es clock)):(getObj r).run P w= .ok (.map es clock) w:=by simp [getObj,Sem.run,hb]
theorem Nw{r:Nat}{es:Array MapEntry}{clock:Nat}(o:Obj)(hb:w.heap[r]? =some (.map es clock)):(setObj r o).run P w= .ok () {w with heap:=w.heap.setIfInBounds r o}:=by
 simp [setObj,Sem.run,hb]
theorem pf{t kt vt:TypeId}(hm:P.underlying t=some (.map kt vt)){kl:List IntKind}{ka va comma:Bool}(h:BR P kt kl ka){ks:List Int}(hk:ks.length=kl.length)
  {b:Nat} {zero:List Value} {has:Nat→Bool} {row:Nat→List Value} {S:Nat→Prop} (hp:(uJ b kl ka va zero has row).p w S) {z:Value} (hz:(zeroValue vt).run P w= .ok z w) (R7:xl va zero=z):
  (Instr.lookup t (.map (some b)) (dS ka kl ks) comma).run P w= .ok (if comma then .tuple #[xl va (row (cI ks)),.bool (has (cI ks))]else xl va (row (cI ks))) w:=by
 obtain⟨_,⟨es,clock,hb,BK⟩,hzero⟩:=hp;have KU:=eQ (P:=P) (w:=w) es.isEmpty 9988 12 kt _ h.lay _ _ (qo hk) (h.val hk);simp only [Instr.lookup,adL,run_underlying hm,adC,Hs hb,KU,ad_];rcases kr (P:=P) (w:=w) h hk es.toList (fun e he=>by obtain⟨m,h1,h2,_⟩:=BK.keys e he;exact⟨m,h1,h2⟩)with⟨h1,h2⟩ | ⟨j,e,h1,h2,h3⟩
 ·have Pj:has (cI ks)=false:=by
   cases hh:has (cI ks)with
   | false=>rfl
   | true=>
    obtain⟨e,he,AV⟩:=BK.all ks hk hh;exact absurd AV (h2 e he)
  rw [h1];simp only [adC,adL,hz,ad_,Pj,hzero ks hk Pj,R7]
 ·obtain⟨m,Wt,LZ,Ws,hm4⟩:=BK.keys e (ad3 h2);have:m=ks:=h.inj Wt hk (LZ.symm.trans h3);subst this;rw [h1];simp only [adC,Ws,hm4];cases comma<;>rfl
theorem xS{t kt vt:TypeId}(hm:P.underlying t=some (.map kt vt)){kl:List IntKind}{ka comma:Bool}(h:BR P kt kl ka){ks:List Int}(hk:ks.length=kl.length)
  {z:Value} (hz:(zeroValue vt).run P w= .ok z w):
  (Instr.lookup t (.map none) (dS ka kl ks) comma).run P w= .ok (if comma then .tuple #[z,.bool false]else z) w:=by
 have KU:=eQ (P:=P) (w:=w) (#[]:Array MapEntry).isEmpty 9988 12 kt _ h.lay _ _ (qo hk) (h.val hk);simp only [Instr.lookup,adL,run_underlying hm,adC,KU,ad_];have hf:(Instr.findKey kt (dS ka kl ks) (#[]:Array MapEntry).toList).run P w= .ok none w:=by
  rcases kr (P:=P) (w:=w) h hk [] (by simp)with⟨h1,_⟩ | ⟨j,e,_,h2,_⟩
  ·exact h1
  ·simp at h2
 rw [hf];simp only [adC,adL,hz,ad_]
theorem vI(n:Nat): ∀(l:List Value),(∀u∈l,∃k m,u= .int k m)→((l.zip l).all fun(x,y)=>Instr.sameBits n x y)=true
 | [],_=>rfl
 | u::r,h=>by
  obtain⟨k,m,rfl⟩:=h u (by simp);have:=vI n r (fun x hx=>h x (by simp [hx]));simp only [List.zip_cons_cons,List.all_cons,this,Bool.and_true];cases n<;>simp [Instr.sameBits]
theorem Kw(v:Value)(kl:List IntKind)(ka:Bool)(ks:List Int)(hk:ks.length=kl.length)(h1:ka=false→∃k,kl=[k])(hv:v=dS ka kl ks):
  (Instr.keyThatStays v (dS ka kl ks)).run P w= .ok (dS ka kl ks) w:=by
 subst hv;have:Instr.sameBits 10000 (dS ka kl ks) (dS ka kl ks)=true:=by
  cases ka with
  | true=>
   rw [sj];simp only [Instr.sameBits,beq_self_eq_true,Bool.true_and];exact vI _ _ Qx
  | false=>
   obtain⟨k,rfl⟩:=h1 rfl
   match ks,hk with
   | [x],_=>simp [dS,Instr.sameBits]
 simp [Instr.keyThatStays,this]
theorem pg{t kt vt:TypeId}(hm:P.underlying t=some (.map kt vt)){kl:List IntKind}{ka va:Bool}(h:BR P kt kl ka){ks:List Int}(hk:ks.length=kl.length)
  {b:Nat} {zero:List Value} {has:Nat→Bool} {row:Nat→List Value} {S:Nat→Prop} (hp:(uJ b kl ka va zero has row).p w S) (v:Value) (vc:List Value) (hv:v=xl va vc)
  {Gs:Nat→Bool} {LN:Nat→List Value} (hh: ∀q,Gs q=if q=cI ks then true else has q) (hr: ∀q,LN q=if q=cI ks then vc else row q):
  ∃w',(Instr.mapUpdate t (.map (some b)) (dS ka kl ks) v).run P w= .ok () w'∧fE w w'∧w'.heap.size=w.heap.size∧(∀k,k≠b→w'.heap[k]? =w.heap[k]?)∧
   (uJ b kl ka va zero Gs LN).p w' S:=by
 obtain⟨hS,⟨es,clock,hb,BK⟩,hzero⟩:=hp;have h1k:ka=false→∃k,kl=[k]:=fun hk=>by obtain⟨k,h1,_⟩:=h.one hk;exact⟨k,h1⟩
 have KU:=eQ (P:=P) (w:=w) false 9988 12 kt _ h.lay _ _ (qo hk) (h.val hk);have dR: ∀m:List Int,m.length=kl.length→m≠ks→cI m≠cI ks:=fun m hm hn he=>hn (AQ (hm.trans hk.symm) he)
 have VQ:b<w.heap.size:=(adD.1 hb).1;have Ro: ∀m:List Int,m.length=kl.length→Gs (cI m)=false→LN (cI m)=zero:=by
  intro m hm hf;rw [hh]at hf;split at hf
  ·cases hf
  ·rename_i YE;rw [hr,if_neg YE];exact hzero m hm hf
 rcases kr (P:=P) (w:=w) h hk es.toList (fun e he=>by obtain⟨m,h1,h2,_⟩:=BK.keys e he;exact⟨m,h1,h2⟩)with⟨h1,h2⟩ | ⟨j,e,h1,h2,h3⟩
 ·refine⟨{w with heap:=w.heap.setIfInBounds b (.map (es.push {key:=dS ka kl ks,val:=v,born:=clock}) (clock+1))},by simp only [Instr.mapUpdate,adL,run_underlying hm,adC,Hs hb,KU,h1];exact Nw _ hb,⟨rfl,rfl,rfl,by simp⟩,by simp,fun k hk=>?_,hS,⟨es.push {key:=dS ka kl ks,val:=v,born:=clock},clock+1,?_,?_⟩,Ro⟩
  ·simp only [];rw [Array.getElem?_setIfInBounds_ne (Ne.symm hk)]
  ·simp [VQ]
  ·rw [Array.toList_push];refine⟨fun e he=>?_,fun i j e e' hi hj heq=>?_,fun m hm Rj=>?_⟩
   ·rcases List.mem_append.1 he with he | he
    ·obtain⟨m,m1,m2,m3,m4⟩:=BK.keys e he;have Fy:m≠ks:=fun h=>h2 e he (by rw [m2,h])
     exact⟨m,m1,m2,by rw [hh,if_neg (dR m m1 Fy)];exact m3,by rw [hr,if_neg (dR m m1 Fy)];exact m4⟩
    ·simp only [aea]at he;subst he;exact⟨ks,hk,rfl,by rw [hh,if_pos rfl],by rw [hr,if_pos rfl];exact hv⟩
   ·rw [List.getElem?_append]at hi hj;split at hi<;>split at hj
    ·exact BK.once i j e e' hi hj heq
    ·rename_i a1 a2;exfalso;have:e'={key:=dS ka kl ks,val:=v,born:=clock}:=by
      have:=ad3 hj;simpa using this
     subst this;exact h2 e (ad3 hi) heq
    ·exfalso;have:e={key:=dS ka kl ks,val:=v,born:=clock}:=by
      have:=ad3 hi;simpa using this
     subst this;exact h2 e' (ad3 hj) heq.symm
    ·have g1:=(adu.1 hi).1;have g2:=(adu.1 hj).1;simp only [List.length_cons,List.length_nil]at g1 g2;omega
   ·by_cases VR:m=ks
    ·subst VR;exact⟨_,List.mem_append_right _ (aea.2 rfl),rfl⟩
    ·rw [hh,if_neg (dR m hm VR)]at Rj;obtain⟨e,he,AV⟩:=BK.all m hm Rj;exact⟨e,List.mem_append_left _ he,AV⟩
 ·have hj:es[j]? =some e:=by rw [←Array.getElem?_toList];exact h2
  have zi:=Kw (P:=P) (w:=w) e.key kl ka ks hk h1k h3;refine⟨{w with heap:=w.heap.setIfInBounds b (.map (es.modify j fun e=>{e with key:=dS ka kl ks,val:=v}) clock)},by simp only [Instr.mapUpdate,adL,run_underlying hm,adC,Hs hb,KU,h1,hj,Option.map_some,aee,zi];exact Nw _ hb,⟨rfl,rfl,rfl,by simp⟩,by simp,fun k hk=>?_,hS,⟨es.modify j fun e=>{e with key:=dS ka kl ks,val:=v},clock,?_,?_⟩,Ro⟩
  ·simp only [];rw [Array.getElem?_setIfInBounds_ne (Ne.symm hk)]
  ·simp [VQ]
  ·have zT: ∀(i:Nat),(es.modify j fun e=>{e with key:=dS ka kl ks,val:=v}).toList[i]? =if j=i then(es.toList[i]?).map (fun e=>{e with key:=dS ka kl ks,val:=v})else es.toList[i]? :=by
    intro i;rw [Array.getElem?_toList,Array.getElem?_modify,Array.getElem?_toList]
   have Kk: ∀(i:Nat) e0,(es.modify j fun e=>{e with key:=dS ka kl ks,val:=v}).toList[i]? =some e0→∃e1,es.toList[i]? =some e1∧e0.key=e1.key∧(i≠j→e0=e1)∧(i=j→e0.val=v):=by
    intro i e0 hi;rw [zT]at hi;split at hi
    ·rename_i rk;subst rk;rw [h2,Option.map_some,adv]at hi;subst hi;exact⟨e,h2,h3.symm,fun h=>absurd rfl h,fun _=>rfl⟩
    ·rename_i rk;exact⟨e0,hi,rfl,fun _=>rfl,fun h=>absurd h.symm rk⟩
   refine⟨fun e0 he0=>?_,fun i i' e0 e0' hi mF heq=>?_,fun m hm Rj=>?_⟩
   ·obtain⟨i,hi⟩:=List.getElem?_of_mem he0;obtain⟨e1,g1,g2,g3,g4⟩:=Kk i e0 hi;by_cases rk:i=j
    ·subst rk;rw [h2,adv]at g1;subst g1;exact⟨ks,hk,by rw [g2,h3],by rw [hh,if_pos rfl],by rw [hr,if_pos rfl,g4 rfl];exact hv⟩
    ·have:=g3 rk;subst this;obtain⟨m,m1,m2,m3,m4⟩:=BK.keys e0 (ad3 g1);have Fy:m≠ks:=fun h=>rk (BK.once i j e0 e g1 h2 (by rw [m2,h3,h]))
     exact⟨m,m1,m2,by rw [hh,if_neg (dR m m1 Fy)];exact m3,by rw [hr,if_neg (dR m m1 Fy)];exact m4⟩
   ·obtain⟨e1,g1,g2,_⟩:=Kk i e0 hi;obtain⟨e1',g1',g2',_⟩:=Kk i' e0' mF;exact BK.once i i' e1 e1' g1 g1' (by rw [←g2,←g2',heq])
   ·have: ∃e1∈es.toList,e1.key=dS ka kl m:=by
     by_cases VR:m=ks
     ·subst VR;exact⟨e,ad3 h2,h3⟩
     ·rw [hh,if_neg (dR m hm VR)]at Rj;exact BK.all m hm Rj
    obtain⟨e1,he1,AV⟩:=this;obtain⟨i,hi⟩:=List.getElem?_of_mem he1;have:=zT i;by_cases rk:j=i
    ·rw [if_pos rk,hi,Option.map_some]at this;refine⟨_,ad3 this,?_⟩;subst rk;rw [h2,adv]at hi;subst hi;rw [←AV,h3]
    ·rw [if_neg rk,hi]at this;exact⟨e1,ad3 this,AV⟩
end
end Go.RX
