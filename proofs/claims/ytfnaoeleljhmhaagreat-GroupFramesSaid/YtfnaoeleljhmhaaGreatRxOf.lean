/- A reflective symbolic executor, part 15f: maps. -/
import Derived.Test.YtfnaoeleljhmhaaGreatRxOe
import Derived.DeepKeys3
import Derived.MapKept

namespace Go.RX
theorem zig_inj{a b:Int}(h:zig a=zig b):a=b:=by
 cases a<;>cases b<;>simp only [zig]at h
 ·congr 1;omega
 ·omega
 ·omega
 ·congr 1;omega
theorem odd_pow{a b L M:Nat}(h:(2*a+1)*2^L=(2*b+1)*2^M):a=b∧L=M:=by
 induction L generalizing M with
 | zero=>
  cases M with
  | zero=>simp only [Nat.pow_zero,Nat.mul_one]at h;exact⟨by omega,rfl⟩
  | succ M=>
   rw [Nat.pow_succ,Nat.pow_zero,Nat.mul_one,←Nat.mul_assoc]at h;omega
 | succ L ih=>
  cases M with
  | zero=>
   rw [Nat.pow_succ,Nat.pow_zero,Nat.mul_one,←Nat.mul_assoc]at h;omega
  | succ M=>
   rw [Nat.pow_succ,Nat.pow_succ,←Nat.mul_assoc,←Nat.mul_assoc]at h;have:=ih (Nat.eq_of_mul_eq_mul_right (by omega) h);exact⟨this.1,by omega⟩
theorem kcode1_inj{a b:Nat}{x y:Int}(h:kcode1 a x=kcode1 b y):a=b∧x=y:=by
 unfold kcode1 at h;obtain⟨h1,h2⟩:=odd_pow h;rw [h2]at h1;have hx:zig x<2^((zig y).log2+1):=by rw [←h2];exact Nat.lt_log2_self
 have hy:zig y<2^((zig y).log2+1):=Nat.lt_log2_self;generalize 2^((zig y).log2+1)=N at h1 hx hy;have e1:a=b:=by
  have p:(a*N+zig x)/N=a:=by rw [Nat.mul_comm,Nat.mul_add_div (by omega),Nat.div_eq_of_lt hx,Nat.add_zero]
  have q:(b*N+zig y)/N=b:=by rw [Nat.mul_comm,Nat.mul_add_div (by omega),Nat.div_eq_of_lt hy,Nat.add_zero]
  rw [←p,←q,h1]
 subst e1;exact⟨rfl,zig_inj (by omega)⟩
theorem kcode_go: ∀(l m:List Int) (a b:Nat),l.length=m.length→l.foldl kcode1 a=m.foldl kcode1 b→a=b∧l=m
 | [],[],a,b,_,h=>⟨h,rfl⟩
 | [],_::_,_,_,hl,_=>by simp at hl
 | _::_,[],_,_,hl,_=>by simp at hl
 | x::l,y::m,a,b,hl,h=>by
  simp only [List.foldl_cons]at h;obtain⟨h1,h2⟩:=kcode_go l m _ _ (by simpa using hl) h;obtain⟨h3,h4⟩:=kcode1_inj h1;exact⟨h3,by rw [h4,h2]⟩
theorem kcode_inj{l m:List Int}(hl:l.length=m.length)(h:kcode l=kcode m):l=m:=(kcode_go l m 0 0 hl h).2
theorem mkI_inj: ∀{kl:List IntKind} {a b:List Int},a.length=kl.length→b.length=kl.length→mkI kl a=mkI kl b→a=b
 | [],a,b,ha,hb,_=>by
  rw [List.eq_nil_of_length_eq_zero ha,List.eq_nil_of_length_eq_zero hb]
 | k::kl,[],_,ha,_,_=>by simp at ha
 | k::kl,_::_,[],_,hb,_=>by simp at hb
 | k::kl,x::a,y::b,ha,hb,h=>by
  simp only [mkI,List.zip_cons_cons,List.map_cons,List.cons.injEq,Value.int.injEq,true_and]at h;rw [h.1,mkI_inj (by simpa using ha) (by simpa using hb) h.2]
theorem mkI_fit: ∀{kl:List IntKind} {a:List Int},a.length=kl.length→fitV (mkI kl a) (kl.map CellK.int)
 | [],a,ha=>by rw [List.eq_nil_of_length_eq_zero ha];trivial
 | k::kl,[],ha=>by simp at ha
 | k::kl,x::a,ha=>by
  simp only [mkI,List.zip_cons_cons,List.map_cons,fitV,true_and];exact mkI_fit (by simpa using ha)
theorem mkI_eqV: ∀{kl:List IntKind} {a b:List Int},a.length=kl.length→b.length=kl.length→eqV (mkI kl a) (mkI kl b)=decide (a=b)
 | [],a,b,ha,hb=>by
  rw [List.eq_nil_of_length_eq_zero ha,List.eq_nil_of_length_eq_zero hb];rfl
 | k::kl,[],_,ha,_=>by simp at ha
 | k::kl,_::_,[],_,hb=>by simp at hb
 | k::kl,x::a,y::b,ha,hb=>by
  have ih:=mkI_eqV (kl:=kl) (a:=a) (b:=b) (by simpa using ha) (by simpa using hb);unfold mkI at ih;simp only [mkI,List.zip_cons_cons,List.map_cons,eqV,ih];by_cases h1:x=y<;>by_cases h2:a=b<;>simp [h1,h2]
theorem mkI_one: ∀{kl:List IntKind} {a:List Int},∀u∈mkI kl a,∃k n,u= .int k n:=by
 intro kl a u hu;simp only [mkI,List.mem_map]at hu;obtain⟨x,_,rfl⟩:=hu;exact⟨_,_,rfl⟩
theorem encK_agg(kl:List IntKind)(ks:List Int):encK true kl ks= .agg (mkI kl ks).toArray:=rfl
theorem encK_inj{ka:Bool}{kl:List IntKind}(hk:ka=false→∃k,kl=[k]){a b:List Int}(ha:a.length=kl.length)(hb:b.length=kl.length)(h:encK ka kl a=encK ka kl b):a=b:=by
 cases ka with
 | true=>
  rw [encK_agg,encK_agg]at h;have:=congrArg (fun v=>match v with | .agg c=>c.toList | _=>[]) h;exact mkI_inj ha hb (by simpa using this)
 | false=>
  obtain⟨k,rfl⟩:=hk rfl
  match a,b,ha,hb with
  | [x],[y],_,_=>simpa [encK] using h
section
variable {P:Program} {w:World}
theorem run_checkKey_lay(em:Bool)(k:Nat): ∀(d:Nat) (t:TypeId) (L:List CellK),layOf P d t=some L→∀(xs:List Value) (x:Value),fitV xs L→VOf P t xs x→(Instr.checkKey em (k+d) t x).run P w= .ok () w
 | 0,t,L,h=>by simp [layOf]at h
 | d+1,t,L,h=>by
  intro xs x hx vx;rw [show k+(d+1)=(k+d)+1 from rfl,Instr.checkKey];unfold layOf at h;cases hu:P.underlying t with
  | none=>simp [hu]at h
  | some td=>
   rw [hu]at h;simp only [VOf,hu]at vx;simp only [Sem.run_bind,run_underlying hu,Result.andThen_ok];cases td with
   | int q=>
    simp only [Option.some.injEq]at h;subst h vx;cases x<;>simp only [fitV]at hx
    rfl
   | bool=>
    simp only [Option.some.injEq]at h;subst h vx;cases x<;>simp only [fitV]at hx
    rfl
   | string=>
    simp only [Option.some.injEq]at h;subst h vx;cases x<;>simp only [fitV]at hx
    rfl
   | array n e=>
    simp only at h vx;subst vx;split at h
    ·rename_i l hl;split at h
     ·rename_i hs;simp only [Option.some.injEq]at h;subst h;have hs':P.cellsOf e=l.length:=by simpa using hs
      have hinfo: ∃i,P.info? e=some i:=by
       cases d with
       | zero=>simp [layOf]at hl
       | succ d=>
        cases hi:P.info? e with
        | none=>simp [layOf,Program.underlying,hi]at hl
        | some i=>exact⟨i,rfl⟩
      obtain⟨i,hi⟩:=hinfo;have hsz:i.size=l.length:=by simpa [Program.cellsOf,hi] using hs'
      dsimp only;simp only [Std.Legacy.Range.forIn_eq_forIn_range',Std.Legacy.Range.size,Nat.sub_zero,Nat.add_one_sub_one,Nat.div_one];have key: ∀(m j:Nat),fitV (xs.drop (j*l.length)) (List.replicate m l).flatten→
        (forIn (List.range' j m) PUnit.unit fun i _=>(do
         let s←sizeOf e
         let a←part e xs.toArray (i*s)
         Instr.checkKey em (k+d) e a
         pure (ForInStep.yield PUnit.unit):Sem (ForInStep PUnit))).run P w= .ok () w:=by
       intro m
       induction m with
       | zero=>intro j _;simp
       | succ m ih=>
        intro j hf;rw [List.replicate_succ,List.flatten_cons]at hf;obtain⟨h1,h2⟩:=fitV_append hf;rw [List.drop_drop]at h2;obtain⟨a,pa,va⟩:=run_part_lay w hl hs' xs (j*l.length) h1;have hc:=run_checkKey_lay em k d e l hl _ _ h1 va;have ih':=ih (j+1) (by rw [Nat.add_mul,Nat.one_mul];exact h2);rw [List.range'_succ];simp only [List.forIn_cons,Sem.run_bind,run_sizeOf w hi,Result.andThen_ok,hs',pa,hc,Sem.run_pure];exact ih'
      have:=key n 0 (by simpa using hx);simpa [Sem.run_bind] using this
     ·cases h
    ·cases h
   | struct fs=>
    simp only at h vx;subst vx;split at h
    ·cases h
    ·dsimp only;rw [←Array.forIn_toList];have key: ∀(L:List Field) (off:Nat) (l:List CellK),layFields P (layOf P d) L off=some l→fitV (xs.drop off) l→
       (forIn L PUnit.unit fun f _=>(do
        if f.name≠ "_" then
         Instr.checkKey em (k+d) f.type (←part f.type xs.toArray f.offset)
         pure (ForInStep.yield PUnit.unit)
        else pure (ForInStep.yield PUnit.unit):Sem (ForInStep PUnit))).run P w= .ok () w:=by
      intro L
      induction L with
      | nil=>intro off l _ _;simp
      | cons f L ih=>
       intro off l hl hf;unfold layFields at hl;split at hl
       ·cases hl
       ·rename_i hn;simp only [Bool.or_eq_true,beq_iff_eq,bne_iff_ne,ne_eq,not_or,Decidable.not_not]at hn;obtain⟨hn,rfl⟩:=hn;split at hl
        ·rename_i l1 hl1;split at hl
         ·rename_i hs;rw [Option.map_eq_some_iff]at hl;obtain⟨L',hL',rfl⟩:=hl;have hs':P.cellsOf f.type=l1.length:=by simpa using hs
          obtain⟨h1,h2⟩:=fitV_append hf;rw [List.drop_drop]at h2;obtain⟨a,pa,va⟩:=run_part_lay w hl1 hs' xs f.offset h1;have hc:=run_checkKey_lay em k d _ _ hl1 _ _ h1 va;have ih':=ih _ _ hL' h2;simp only [List.forIn_cons,Sem.run_bind,hn,ne_eq,not_false_eq_true,if_true,Result.andThen_ok,pa,hc,Sem.run_pure];exact ih'
         ·cases hl
        ·cases hl
     have:=key fs.toList 0 L h (by simpa using hx);simpa [Sem.run_bind] using this
   | _=>simp at h
theorem findNow_int(k:IntKind)(n:Int): ∀(es:List MapEntry) (i:Nat),(∀e∈es,∃m,e.key= .int k m)→
  (Instr.findNow (.int k) (.int k n) es i=some none∧∀e∈es,e.key≠ .int k n)∨
  ∃j e,Instr.findNow (.int k) (.int k n) es i=some (some (i+j,e.val))∧es[j]? =some e∧e.key= .int k n
 | [],i,_=> .inl ⟨rfl,by simp⟩
 | e::es,i,h=>by
  obtain⟨m,hm⟩:=h e (by simp);by_cases hnm:n=m
  ·subst hnm;exact .inr ⟨0,e,by simp [Instr.findNow,hm,Instr.sameNow],rfl,hm⟩
  ·have hs:Instr.sameNow (.int k) (.int k n) e.key=some false:=by rw [hm];simp [Instr.sameNow,hnm]
   rcases findNow_int k n es (i+1) (fun x hx=>h x (by simp [hx]))with⟨h1,h2⟩ | ⟨j,e',h1,h2,h3⟩
   ·refine .inl ⟨by simp only [Instr.findNow,hs,h1],fun x hx=>?_⟩;rcases List.mem_cons.1 hx with rfl | hx
    ·rw [hm];simp;exact fun h=>hnm h.symm
    ·exact h2 x hx
   ·exact .inr ⟨j+1,e',by simp only [Instr.findNow,hs,h1];simp [Nat.add_assoc,Nat.add_comm 1 j],by simpa using h2,h3⟩
theorem findAsk_agg{kt:TypeId}{kl:List IntKind}(hl:layOf P 12 kt=some (kl.map CellK.int))(ha: ∀cs:List Value,VOf P kt cs (.agg cs.toArray)){ks:List Int}(hk:ks.length=kl.length):
  ∀(es:List MapEntry) (i:Nat),(∀e∈es,∃m:List Int,m.length=kl.length∧e.key=encK true kl m)→
   ((Instr.findAsking kt (encK true kl ks) es i).run P w= .ok none w∧∀e∈es,e.key≠encK true kl ks)∨
   ∃j e,(Instr.findAsking kt (encK true kl ks) es i).run P w= .ok (some (i+j,e.val)) w∧es[j]? =some e∧e.key=encK true kl ks
 | [],i,_=> .inl ⟨by simp [Instr.findAsking],by simp⟩
 | e::es,i,h=>by
  obtain⟨m,hm,hem⟩:=h e (by simp);have heq:(Op.equal kt (encK true kl ks) e.key).run P w= .ok (decide (ks=m)) w:=by
   have:=equalIn_lay (P:=P) 9988 12 kt _ hl w _ _ (encK true kl ks) e.key (mkI_fit hk) (mkI_fit hm) (ha _) (by rw [hem];exact ha _);rw [mkI_eqV hk hm]at this;exact this
  by_cases hkm:ks=m
  ·subst hkm;exact .inr ⟨0,e,by simp [Instr.findAsking,heq],rfl,hem⟩
  ·rcases findAsk_agg hl ha hk es (i+1) (fun x hx=>h x (by simp [hx]))with⟨h1,h2⟩ | ⟨j,e',h1,h2,h3⟩
   ·refine .inl ⟨by simp [Instr.findAsking,heq,hkm,h1],fun x hx=>?_⟩;rcases List.mem_cons.1 hx with rfl | hx
    ·rw [hem];intro he;exact hkm (encK_inj (by simp) hm hk he).symm
    ·exact h2 x hx
   ·exact .inr ⟨j+1,e',by simp [Instr.findAsking,heq,hkm,h1,Nat.add_assoc,Nat.add_comm 1 j],by simpa using h2,h3⟩
structure KeyT (P:Program) (kt:TypeId) (kl:List IntKind) (ka:Bool):Prop where
 lay:layOf P 12 kt=some (kl.map CellK.int)
 one:ka=false→∃k,kl=[k]∧P.underlying kt=some (.int k)
 agg:ka=true→(∀cs:List Value,VOf P kt cs (.agg cs.toArray))∧(match P.underlying kt with | some (.array _ _) | some (.struct _)=>true | _=>false)=true
theorem KeyT.val{kt:TypeId}{kl:List IntKind}{ka:Bool}(h:KeyT P kt kl ka){ks:List Int}(hk:ks.length=kl.length):VOf P kt (mkI kl ks) (encK ka kl ks):=by
 cases ka with
 | true=>exact(h.agg rfl).1 _
 | false=>
  obtain⟨k,rfl,hu⟩:=h.one rfl
  match ks,hk with
  | [x],_=>simp [VOf,hu,mkI,encK]
theorem KeyT.inj{kt:TypeId}{kl:List IntKind}{ka:Bool}(h:KeyT P kt kl ka){a b:List Int}(ha:a.length=kl.length)(hb:b.length=kl.length)(he:encK ka kl a=encK ka kl b):a=b:=
 encK_inj (fun hk=>by obtain⟨k,h1,_⟩:=h.one hk;exact⟨k,h1⟩) ha hb he
theorem run_findKey_map{kt:TypeId}{kl:List IntKind}{ka:Bool}(h:KeyT P kt kl ka){ks:List Int}(hk:ks.length=kl.length)(es:List MapEntry)
  (hes: ∀e∈es,∃m:List Int,m.length=kl.length∧e.key=encK ka kl m):
  ((Instr.findKey kt (encK ka kl ks) es).run P w= .ok none w∧∀e∈es,e.key≠encK ka kl ks)∨
  ∃j e,(Instr.findKey kt (encK ka kl ks) es).run P w= .ok (some (j,e.val)) w∧es[j]? =some e∧e.key=encK ka kl ks:=by
 cases ka with
 | true=>
  obtain⟨h1,h2⟩:=h.agg rfl;rw [run_findKey_eq w h2];rcases findAsk_agg (P:=P) (w:=w) h.lay h1 hk es 0 hes with h | ⟨j,e,h3,h4,h5⟩
  ·exact .inl h
  ·exact .inr ⟨j,e,by simpa using h3,h4,h5⟩
 | false=>
  obtain⟨k,rfl,hu⟩:=h.one rfl
  match ks,hk with
  | [n],_=>
   have hes': ∀e∈es,∃m,e.key= .int k m:=by
    intro e he;obtain⟨m,hm,hem⟩:=hes e he
    match m,hm with
    | [x],_=>exact⟨x,hem⟩
   rcases findNow_int k n es 0 hes' with⟨h1,h2⟩ | ⟨j,e,h1,h2,h3⟩
   ·exact .inl ⟨by simp [Instr.findKey,run_underlying hu,encK,h1],h2⟩
   ·exact .inr ⟨j,e,by simp [Instr.findKey,run_underlying hu,encK,h1],h2,h3⟩
theorem getMap{r:Nat}{es:Array MapEntry}{clock:Nat}(hb:w.heap[r]? =some (.map es clock)):(getObj r).run P w= .ok (.map es clock) w:=by simp [getObj,Sem.run,hb]
theorem setMap{r:Nat}{es:Array MapEntry}{clock:Nat}(o:Obj)(hb:w.heap[r]? =some (.map es clock)):(setObj r o).run P w= .ok () {w with heap:=w.heap.setIfInBounds r o}:=by
 simp [setObj,Sem.run,hb]
theorem run_lookup_map{t kt vt:TypeId}(hm:P.underlying t=some (.map kt vt)){kl:List IntKind}{ka va comma:Bool}(h:KeyT P kt kl ka){ks:List Int}(hk:ks.length=kl.length)
  {b:Nat} {zero:List Value} {has:Nat→Bool} {row:Nat→List Value} {S:Nat→Prop} (hp:(mapHP b kl ka va zero has row).p w S) {z:Value} (hz:(zeroValue vt).run P w= .ok z w) (hze:encV va zero=z):
  (Instr.lookup t (.map (some b)) (encK ka kl ks) comma).run P w= .ok (if comma then .tuple #[encV va (row (kcode ks)),.bool (has (kcode ks))]else encV va (row (kcode ks))) w:=by
 obtain⟨_,⟨es,clock,hb,hes⟩,hzero⟩:=hp;have hck:=run_checkKey_lay (P:=P) (w:=w) es.isEmpty 9988 12 kt _ h.lay _ _ (mkI_fit hk) (h.val hk);simp only [Instr.lookup,Sem.run_bind,run_underlying hm,Result.andThen_ok,getMap hb,hck,Sem.run_pure];rcases run_findKey_map (P:=P) (w:=w) h hk es.toList (fun e he=>by obtain⟨m,h1,h2,_⟩:=hes.keys e he;exact⟨m,h1,h2⟩)with⟨h1,h2⟩ | ⟨j,e,h1,h2,h3⟩
 ·have hno:has (kcode ks)=false:=by
   cases hh:has (kcode ks)with
   | false=>rfl
   | true=>
    obtain⟨e,he,hke⟩:=hes.all ks hk hh;exact absurd hke (h2 e he)
  rw [h1];simp only [Result.andThen_ok,Sem.run_bind,hz,Sem.run_pure,hno,hzero ks hk hno,hze]
 ·obtain⟨m,hm1,hm2,hm3,hm4⟩:=hes.keys e (List.mem_of_getElem? h2);have:m=ks:=h.inj hm1 hk (hm2.symm.trans h3);subst this;rw [h1];simp only [Result.andThen_ok,hm3,hm4];cases comma<;>rfl
theorem run_lookup_nil{t kt vt:TypeId}(hm:P.underlying t=some (.map kt vt)){kl:List IntKind}{ka comma:Bool}(h:KeyT P kt kl ka){ks:List Int}(hk:ks.length=kl.length)
  {z:Value} (hz:(zeroValue vt).run P w= .ok z w):
  (Instr.lookup t (.map none) (encK ka kl ks) comma).run P w= .ok (if comma then .tuple #[z,.bool false]else z) w:=by
 have hck:=run_checkKey_lay (P:=P) (w:=w) (#[]:Array MapEntry).isEmpty 9988 12 kt _ h.lay _ _ (mkI_fit hk) (h.val hk);simp only [Instr.lookup,Sem.run_bind,run_underlying hm,Result.andThen_ok,hck,Sem.run_pure];have hf:(Instr.findKey kt (encK ka kl ks) (#[]:Array MapEntry).toList).run P w= .ok none w:=by
  rcases run_findKey_map (P:=P) (w:=w) h hk [] (by simp)with⟨h1,_⟩ | ⟨j,e,_,h2,_⟩
  ·exact h1
  ·simp at h2
 rw [hf];simp only [Result.andThen_ok,Sem.run_bind,hz,Sem.run_pure]
theorem sameBits_mk(n:Nat): ∀(l:List Value),(∀u∈l,∃k m,u= .int k m)→((l.zip l).all fun(x,y)=>Instr.sameBits n x y)=true
 | [],_=>rfl
 | u::r,h=>by
  obtain⟨k,m,rfl⟩:=h u (by simp);have:=sameBits_mk n r (fun x hx=>h x (by simp [hx]));simp only [List.zip_cons_cons,List.all_cons,this,Bool.and_true];cases n<;>simp [Instr.sameBits]
theorem run_stays(v:Value)(kl:List IntKind)(ka:Bool)(ks:List Int)(hk:ks.length=kl.length)(h1:ka=false→∃k,kl=[k])(hv:v=encK ka kl ks):
  (Instr.keyThatStays v (encK ka kl ks)).run P w= .ok (encK ka kl ks) w:=by
 subst hv;have:Instr.sameBits 10000 (encK ka kl ks) (encK ka kl ks)=true:=by
  cases ka with
  | true=>
   rw [encK_agg];simp only [Instr.sameBits,beq_self_eq_true,Bool.true_and];exact sameBits_mk _ _ mkI_one
  | false=>
   obtain⟨k,rfl⟩:=h1 rfl
   match ks,hk with
   | [x],_=>simp [encK,Instr.sameBits]
 simp [Instr.keyThatStays,this]
def Grown(es:Array MapEntry)(clock:Nat)(es':Array MapEntry)(clock':Nat):Prop:=
 (clock'=clock∧es'.size=es.size∨clock'=clock+1∧es'.size=es.size+1∧∀e,es'[es.size]? =some e→e.born=clock)∧∀(i:Nat) e,es[i]? =some e→∃e',es'[i]? =some e'∧e'.key=e.key∧e'.born=e.born
theorem run_update_map{t kt vt:TypeId}(hm:P.underlying t=some (.map kt vt)){kl:List IntKind}{ka va:Bool}(h:KeyT P kt kl ka){ks:List Int}(hk:ks.length=kl.length)
  {b:Nat} {zero:List Value} {has:Nat→Bool} {row:Nat→List Value} {S:Nat→Prop} (hp:(mapHP b kl ka va zero has row).p w S) (v:Value) (vc:List Value) (hv:v=encV va vc)
  {has':Nat→Bool} {row':Nat→List Value} (hh: ∀q,has' q=if q=kcode ks then true else has q) (hr: ∀q,row' q=if q=kcode ks then vc else row q):
  ∃w',(Instr.mapUpdate t (.map (some b)) (encK ka kl ks) v).run P w= .ok () w'∧Same w w'∧w'.heap.size=w.heap.size∧(∀k,k≠b→w'.heap[k]? =w.heap[k]?)∧
   (mapHP b kl ka va zero has' row').p w' S∧∀es clock,w.heap[b]? =some (.map es clock)→∃es' clock',w'.heap[b]? =some (.map es' clock')∧(es'.size:Int)=es.size+(if has (kcode ks)then 0 else 1)∧Grown es clock es' clock':=by
 obtain⟨hS,⟨es,clock,hb,hes⟩,hzero⟩:=hp;have h1k:ka=false→∃k,kl=[k]:=fun hk=>by obtain⟨k,h1,_⟩:=h.one hk;exact⟨k,h1⟩
 have hck:=run_checkKey_lay (P:=P) (w:=w) false 9988 12 kt _ h.lay _ _ (mkI_fit hk) (h.val hk);have hne: ∀m:List Int,m.length=kl.length→m≠ks→kcode m≠kcode ks:=fun m hm hn he=>hn (kcode_inj (hm.trans hk.symm) he)
 have hblt:b<w.heap.size:=(Array.getElem?_eq_some_iff.1 hb).1;have zero': ∀m:List Int,m.length=kl.length→has' (kcode m)=false→row' (kcode m)=zero:=by
  intro m hm hf;rw [hh]at hf;split at hf
  ·cases hf
  ·rename_i hne';rw [hr,if_neg hne'];exact hzero m hm hf
 rcases run_findKey_map (P:=P) (w:=w) h hk es.toList (fun e he=>by obtain⟨m,h1,h2,_⟩:=hes.keys e he;exact⟨m,h1,h2⟩)with⟨h1,h2⟩ | ⟨j,e,h1,h2,h3⟩
 ·refine⟨{w with heap:=w.heap.setIfInBounds b (.map (es.push {key:=encK ka kl ks,val:=v,born:=clock}) (clock+1))},by simp only [Instr.mapUpdate,Sem.run_bind,run_underlying hm,Result.andThen_ok,getMap hb,hck,h1];exact setMap _ hb,⟨rfl,rfl,rfl,by simp⟩,by simp,fun k hk=>?_,⟨hS,⟨es.push {key:=encK ka kl ks,val:=v,born:=clock},clock+1,?_,?_⟩,zero'⟩,?_⟩
  ·simp only [];rw [Array.getElem?_setIfInBounds_ne (Ne.symm hk)]
  ·simp [hblt]
  ·rw [Array.toList_push];refine⟨fun e he=>?_,fun i j e e' hi hj heq=>?_,fun m hm hhm=>?_⟩
   ·rcases List.mem_append.1 he with he | he
    ·obtain⟨m,m1,m2,m3,m4⟩:=hes.keys e he;have hmn:m≠ks:=fun h=>h2 e he (by rw [m2,h])
     exact⟨m,m1,m2,by rw [hh,if_neg (hne m m1 hmn)];exact m3,by rw [hr,if_neg (hne m m1 hmn)];exact m4⟩
    ·simp only [List.mem_singleton]at he;subst he;exact⟨ks,hk,rfl,by rw [hh,if_pos rfl],by rw [hr,if_pos rfl];exact hv⟩
   ·rw [List.getElem?_append]at hi hj;split at hi<;>split at hj
    ·exact hes.once i j e e' hi hj heq
    ·rename_i a1 a2;exfalso;have:e'={key:=encK ka kl ks,val:=v,born:=clock}:=by
      have:=List.mem_of_getElem? hj;simpa using this
     subst this;exact h2 e (List.mem_of_getElem? hi) heq
    ·exfalso;have:e={key:=encK ka kl ks,val:=v,born:=clock}:=by
      have:=List.mem_of_getElem? hi;simpa using this
     subst this;exact h2 e' (List.mem_of_getElem? hj) heq.symm
    ·have g1:=(List.getElem?_eq_some_iff.1 hi).1;have g2:=(List.getElem?_eq_some_iff.1 hj).1;simp only [List.length_cons,List.length_nil]at g1 g2;omega
   ·by_cases hmk:m=ks
    ·subst hmk;exact⟨_,List.mem_append_right _ (List.mem_singleton.2 rfl),rfl⟩
    ·rw [hh,if_neg (hne m hm hmk)]at hhm;obtain⟨e,he,hke⟩:=hes.all m hm hhm;exact⟨e,List.mem_append_left _ he,hke⟩
  ·intro es0 clock0 h0;rw [hb]at h0;injection h0 with h0
   injection h0 with h0 h0c
   subst h0 h0c;have hno:has (kcode ks)=false:=by
    cases hh:has (kcode ks)with
    | false=>rfl
    | true=>
     obtain⟨e,he,hke⟩:=hes.all ks hk hh;exact absurd hke (h2 e he)
   refine⟨es.push {key:=encK ka kl ks,val:=v,born:=clock},clock+1,by simp [hblt],by rw [hno];simp,.inr ⟨rfl,by simp,fun e he=>?_⟩,fun i e hi=>⟨e,?_,rfl,rfl⟩⟩
   ·simp at he;subst he;rfl
   ·have:=(Array.getElem?_eq_some_iff.1 hi).1;rw [Array.getElem?_push,if_neg (by omega)];exact hi
 ·have hj:es[j]? =some e:=by rw [←Array.getElem?_toList];exact h2
  have hst:=run_stays (P:=P) (w:=w) e.key kl ka ks hk h1k h3;refine⟨{w with heap:=w.heap.setIfInBounds b (.map (es.modify j fun e=>{e with key:=encK ka kl ks,val:=v}) clock)},by simp only [Instr.mapUpdate,Sem.run_bind,run_underlying hm,Result.andThen_ok,getMap hb,hck,h1,hj,Option.map_some,Option.getD_some,hst];exact setMap _ hb,⟨rfl,rfl,rfl,by simp⟩,by simp,fun k hk=>?_,⟨hS,⟨es.modify j fun e=>{e with key:=encK ka kl ks,val:=v},clock,?_,?_⟩,zero'⟩,?_⟩
  ·simp only [];rw [Array.getElem?_setIfInBounds_ne (Ne.symm hk)]
  ·simp [hblt]
  ·have hget: ∀(i:Nat),(es.modify j fun e=>{e with key:=encK ka kl ks,val:=v}).toList[i]? =if j=i then(es.toList[i]?).map (fun e=>{e with key:=encK ka kl ks,val:=v})else es.toList[i]? :=by
    intro i;rw [Array.getElem?_toList,Array.getElem?_modify,Array.getElem?_toList]
   have hkey: ∀(i:Nat) e0,(es.modify j fun e=>{e with key:=encK ka kl ks,val:=v}).toList[i]? =some e0→∃e1,es.toList[i]? =some e1∧e0.key=e1.key∧(i≠j→e0=e1)∧(i=j→e0.val=v):=by
    intro i e0 hi;rw [hget]at hi;split at hi
    ·rename_i hij;subst hij;rw [h2,Option.map_some,Option.some.injEq]at hi;subst hi;exact⟨e,h2,h3.symm,fun h=>absurd rfl h,fun _=>rfl⟩
    ·rename_i hij;exact⟨e0,hi,rfl,fun _=>rfl,fun h=>absurd h.symm hij⟩
   refine⟨fun e0 he0=>?_,fun i i' e0 e0' hi hi' heq=>?_,fun m hm hhm=>?_⟩
   ·obtain⟨i,hi⟩:=List.getElem?_of_mem he0;obtain⟨e1,g1,g2,g3,g4⟩:=hkey i e0 hi;by_cases hij:i=j
    ·subst hij;rw [h2,Option.some.injEq]at g1;subst g1;exact⟨ks,hk,by rw [g2,h3],by rw [hh,if_pos rfl],by rw [hr,if_pos rfl,g4 rfl];exact hv⟩
    ·have:=g3 hij;subst this;obtain⟨m,m1,m2,m3,m4⟩:=hes.keys e0 (List.mem_of_getElem? g1);have hmn:m≠ks:=fun h=>hij (hes.once i j e0 e g1 h2 (by rw [m2,h3,h]))
     exact⟨m,m1,m2,by rw [hh,if_neg (hne m m1 hmn)];exact m3,by rw [hr,if_neg (hne m m1 hmn)];exact m4⟩
   ·obtain⟨e1,g1,g2,_⟩:=hkey i e0 hi;obtain⟨e1',g1',g2',_⟩:=hkey i' e0' hi';exact hes.once i i' e1 e1' g1 g1' (by rw [←g2,←g2',heq])
   ·have: ∃e1∈es.toList,e1.key=encK ka kl m:=by
     by_cases hmk:m=ks
     ·subst hmk;exact⟨e,List.mem_of_getElem? h2,h3⟩
     ·rw [hh,if_neg (hne m hm hmk)]at hhm;exact hes.all m hm hhm
    obtain⟨e1,he1,hke⟩:=this;obtain⟨i,hi⟩:=List.getElem?_of_mem he1;have:=hget i;by_cases hij:j=i
    ·rw [if_pos hij,hi,Option.map_some]at this;refine⟨_,List.mem_of_getElem? this,?_⟩;subst hij;rw [h2,Option.some.injEq]at hi;subst hi;rw [←hke,h3]
    ·rw [if_neg hij,hi]at this;exact⟨e1,List.mem_of_getElem? this,hke⟩
  ·intro es0 clock0 h0;rw [hb]at h0;injection h0 with h0
   injection h0 with h0 h0c
   subst h0 h0c;obtain⟨m,m1,m2,m3,_⟩:=hes.keys e (List.mem_of_getElem? h2);have:m=ks:=h.inj m1 hk (m2.symm.trans h3);subst this;refine⟨es.modify j fun e=>{e with key:=encK ka kl m,val:=v},clock,by simp [hblt],by rw [m3];simp,.inl ⟨rfl,by simp⟩,fun i e1 hi=>?_⟩;rw [Array.getElem?_modify,hi];by_cases hij:j=i
   ·subst hij;rw [hj,Option.some.injEq]at hi;subst hi;exact⟨{e with key:=encK ka kl m,val:=v},by rw [if_pos rfl];rfl,h3.symm,rfl⟩
   ·exact⟨e1,by rw [if_neg hij],rfl,rfl⟩
end
end Go.RX
