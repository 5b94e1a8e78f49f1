/- Executor. -/
import Derived.Test.YtllcdnkfbeokhaaGreatRxOe
open Array renaming getElem?_eq_some_iff → auy, getElem?_toList → auX
open Go.Result renaming andThen_ok → aut
open Go.Sem renaming run_bind → auC, run_pure → auI
open List renaming eq_nil_of_length_eq_zero → auH, getElem?_eq_some_iff → aup, map_cons → auK, mem_append → auE, mem_map → auL, mem_of_getElem? → auM, mem_singleton → auz
open Option renaming getD_some → au8, map_eq_some_iff → aus
open Option.some renaming injEq → auq
namespace Go.RX
theorem Xh{a b:Int}(h:Mh a=Mh b):a=b:=by
 cases a<;>cases b<;>simp only [Mh]at h
 ·congr 1;omega
 ·omega
 ·omega
 ·congr 1;omega
theorem Xi{a b L M:Nat}(h:(2*a+1)*2^L=(2*b+1)*2^M):a=b∧L=M:=by
 induction L generalizing M with
 | zero=>
  cases M with
  | zero=>simp only [Nat.pow_zero,Nat.mul_one]at h;exact⟨by omega,rfl⟩
  | succ M=>
   rw [Nat.pow_succ,Nat.pow_zero,Nat.mul_one,←Nat.mul_assoc]at h;omega
 | succ L ih=>
  cases M with
  | zero=>
   rw [Nat.pow_succ,Nat.pow_zero,Nat.mul_one,←Nat.mul_assoc]at h;omega
  | succ M=>
   rw [Nat.pow_succ,Nat.pow_succ,←Nat.mul_assoc,←Nat.mul_assoc]at h;have:=ih (Nat.eq_of_mul_eq_mul_right (by omega) h);exact⟨this.1,by omega⟩
theorem Kf{a b:Nat}{x y:Int}(h:tT a x=tT b y):a=b∧x=y:=by
 unfold tT at h;obtain⟨h1,h2⟩:=Xi h;rw [h2]at h1;have hx:Mh x<2^((Mh y).log2+1):=by rw [←h2];exact Nat.lt_log2_self
 have hy:Mh y<2^((Mh y).log2+1):=Nat.lt_log2_self;generalize 2^((Mh y).log2+1)=N at h1 hx hy;have e1:a=b:=by
  have p:(a*N+Mh x)/N=a:=by rw [Nat.mul_comm,Nat.mul_add_div (by omega),Nat.div_eq_of_lt hx,Nat.add_zero]
  have q:(b*N+Mh y)/N=b:=by rw [Nat.mul_comm,Nat.mul_add_div (by omega),Nat.div_eq_of_lt hy,Nat.add_zero]
  rw [←p,←q,h1]
 subst e1;exact⟨rfl,Xh (by omega)⟩
theorem HQ: ∀(l m:List Int) (a b:Nat),l.length=m.length→l.foldl tT a=m.foldl tT b→a=b∧l=m
 | [],[],a,b,_,h=>⟨h,rfl⟩
 | [],_::_,_,_,hl,_=>by simp at hl
 | _::_,[],_,_,hl,_=>by simp at hl
 | x::l,y::m,a,b,hl,h=>by
  simp only [List.foldl_cons]at h;obtain⟨h1,h2⟩:=HQ l m _ _ (by simpa using hl) h;obtain⟨h3,h4⟩:=Kf h1;exact⟨h3,by rw [h4,h2]⟩
theorem pH{l m:List Int}(hl:l.length=m.length)(h:aW l=aW m):l=m:=(HQ l m 0 0 hl h).2
theorem LY: ∀{kl:List IntKind} {a b:List Int},a.length=kl.length→b.length=kl.length→zi kl a=zi kl b→a=b
 | [],a,b,ha,hb,_=>by
  rw [auH ha,auH hb]
 | k::kl,[],_,ha,_,_=>by simp at ha
 | k::kl,_::_,[],_,hb,_=>by simp at hb
 | k::kl,x::a,y::b,ha,hb,h=>by
  simp only [zi,List.zip_cons_cons,auK,List.cons.injEq,Value.int.injEq,true_and]at h;rw [h.1,LY (by simpa using ha) (by simpa using hb) h.2]
theorem qE: ∀{kl:List IntKind} {a:List Int},a.length=kl.length→hG (zi kl a) (kl.map some)
 | [],a,ha=>by rw [auH ha];trivial
 | k::kl,[],ha=>by simp at ha
 | k::kl,x::a,ha=>by
  simp only [zi,List.zip_cons_cons,auK,hG,true_and];exact qE (by simpa using ha)
theorem LZ: ∀{kl:List IntKind} {a b:List Int},a.length=kl.length→b.length=kl.length→ue (zi kl a) (zi kl b)=decide (a=b)
 | [],a,b,ha,hb=>by
  rw [auH ha,auH hb];rfl
 | k::kl,[],_,ha,_=>by simp at ha
 | k::kl,_::_,[],_,hb=>by simp at hb
 | k::kl,x::a,y::b,ha,hb=>by
  have ih:=LZ (kl:=kl) (a:=a) (b:=b) (by simpa using ha) (by simpa using hb);unfold zi at ih;simp only [zi,List.zip_cons_cons,auK,ue,ih];by_cases h1:x=y<;>by_cases h2:a=b<;>simp [h1,h2]
theorem Xj: ∀{kl:List IntKind} {a:List Int},∀u∈zi kl a,∃k n,u= .int k n:=by
 intro kl a u hu;simp only [zi,auL]at hu;obtain⟨x,_,rfl⟩:=hu;exact⟨_,_,rfl⟩
theorem wz(kl:List IntKind)(ks:List Int):ep true kl ks= .agg (zi kl ks).toArray:=rfl
theorem HR{ka:Bool}{kl:List IntKind}(hk:ka=false→∃k,kl=[k]){a b:List Int}(ha:a.length=kl.length)(hb:b.length=kl.length)(h:ep ka kl a=ep ka kl b):a=b:=by
 cases ka with
 | true=>
  rw [wz,wz]at h;have:=congrArg (fun v=>match v with | .agg c=>c.toList | _=>[]) h;exact LY ha hb (by simpa using this)
 | false=>
  obtain⟨k,rfl⟩:=hk rfl
  match a,b,ha,hb with
  | [x],[y],_,_=>simpa [ep] using h
section
variable {P:Program} {w:World}
theorem fD(em:Bool)(k:Nat): ∀(d:Nat) (t:TypeId) (L:List iY),gI P d t=some L→∀(xs:List Value) (x:Value),hG xs L→Ft P t xs x→(Instr.checkKey em (k+d) t x).run P w= .ok () w
 | 0,t,L,h=>by simp [gI]at h
 | d+1,t,L,h=>by
  intro xs x hx vx;rw [show k+(d+1)=(k+d)+1 from rfl,Instr.checkKey];unfold gI at h;cases hu:P.underlying t with
  | none=>simp [hu]at h
  | some td=>
   rw [hu]at h;simp only [Ft,hu]at vx;simp only [auC,run_underlying hu,aut];cases td with
   | int q=>
    simp only [auq]at h;subst h vx;cases x<;>simp only [hG]at hx
    rfl
   | bool=>
    simp only [auq]at h;subst h vx;cases x<;>simp only [hG]at hx
    rfl
   | array n e=>
    simp only at h vx;subst vx;split at h
    ·rename_i l hl;split at h
     ·rename_i hs;simp only [auq]at h;subst h;have lP:P.cellsOf e=l.length:=by simpa using hs
      have FV: ∃i,P.info? e=some i:=by
       cases d with
       | zero=>simp [gI]at hl
       | succ d=>
        cases hi:P.info? e with
        | none=>simp [gI,Program.underlying,hi]at hl
        | some i=>exact⟨i,rfl⟩
      obtain⟨i,hi⟩:=FV;have gx:i.size=l.length:=by simpa [Program.cellsOf,hi] using lP
      dsimp only;simp only [Std.Legacy.Range.forIn_eq_forIn_range',Std.Legacy.Range.size,Nat.sub_zero,Nat.add_one_sub_one,Nat.div_one];have key: ∀(m j:Nat),hG (xs.drop (j*l.length)) (List.replicate m l).flatten→
        (forIn (List.range' j m) PUnit.unit fun i _=>(do
         let s←sizeOf e
         let a←part e xs.toArray (i*s)
         Instr.checkKey em (k+d) e a
         pure (ForInStep.yield PUnit.unit):Sem (ForInStep PUnit))).run P w= .ok () w:=by
       intro m
       induction m with
       | zero=>intro j _;simp
       | succ m ih=>
        intro j hf;rw [List.replicate_succ,List.flatten_cons]at hf;obtain⟨h1,h2⟩:=fZ hf;rw [List.drop_drop]at h2;obtain⟨a,pa,va⟩:=jw w hl lP xs (j*l.length) h1;have hc:=fD em k d e l hl _ _ h1 va;have ih':=ih (j+1) (by rw [Nat.add_mul,Nat.one_mul];exact h2);rw [List.range'_succ];simp only [List.forIn_cons,auC,run_sizeOf w hi,aut,lP,pa,hc,auI];exact ih'
      have:=key n 0 (by simpa using hx);simpa [auC] using this
     ·cases h
    ·cases h
   | struct fs=>
    simp only at h vx;subst vx;split at h
    ·cases h
    ·dsimp only;rw [←Array.forIn_toList];have key: ∀(L:List Field) (off:Nat) (l:List iY),lC P (gI P d) L off=some l→hG (xs.drop off) l→
       (forIn L PUnit.unit fun f _=>(do
        if f.name≠ "_" then
         Instr.checkKey em (k+d) f.type (←part f.type xs.toArray f.offset)
         pure (ForInStep.yield PUnit.unit)
        else pure (ForInStep.yield PUnit.unit):Sem (ForInStep PUnit))).run P w= .ok () w:=by
      intro L
      induction L with
      | nil=>intro off l _ _;simp
      | cons f L ih=>
       intro off l hl hf;unfold lC at hl;split at hl
       ·cases hl
       ·rename_i hn;simp only [Bool.or_eq_true,beq_iff_eq,bne_iff_ne,ne_eq,not_or,Decidable.not_not]at hn;obtain⟨hn,rfl⟩:=hn;split at hl
        ·rename_i l1 IK;split at hl
         ·rename_i hs;rw [aus]at hl;obtain⟨L',YI,rfl⟩:=hl;have lP:P.cellsOf f.type=l1.length:=by simpa using hs
          obtain⟨h1,h2⟩:=fZ hf;rw [List.drop_drop]at h2;obtain⟨a,pa,va⟩:=jw w IK lP xs f.offset h1;have hc:=fD em k d _ _ IK _ _ h1 va;have ih':=ih _ _ YI h2;simp only [List.forIn_cons,auC,hn,ne_eq,not_false_eq_true,if_true,aut,pa,hc,auI];exact ih'
         ·cases hl
        ·cases hl
     have:=key fs.toList 0 L h (by simpa using hx);simpa [auC] using this
   | _=>simp at h
theorem yF(k:IntKind)(n:Int): ∀(es:List MapEntry) (i:Nat),(∀e∈es,∃m,e.key= .int k m)→
  (Instr.findNow (.int k) (.int k n) es i=some none∧∀e∈es,e.key≠ .int k n)∨
  ∃j e,Instr.findNow (.int k) (.int k n) es i=some (some (i+j,e.val))∧es[j]? =some e∧e.key= .int k n
 | [],i,_=> .inl ⟨rfl,by simp⟩
 | e::es,i,h=>by
  obtain⟨m,hm⟩:=h e (by simp);by_cases hnm:n=m
  ·subst hnm;exact .inr ⟨0,e,by simp [Instr.findNow,hm,Instr.sameNow],rfl,hm⟩
  ·have hs:Instr.sameNow (.int k) (.int k n) e.key=some false:=by rw [hm];simp [Instr.sameNow,hnm]
   rcases yF k n es (i+1) (fun x hx=>h x (by simp [hx]))with⟨h1,h2⟩ | ⟨j,e',h1,h2,h3⟩
   ·refine .inl ⟨by simp only [Instr.findNow,hs,h1],fun x hx=>?_⟩;rcases List.mem_cons.1 hx with rfl | hx
    ·rw [hm];simp;exact fun h=>hnm h.symm
    ·exact h2 x hx
   ·exact .inr ⟨j+1,e',by simp only [Instr.findNow,hs,h1];simp [Nat.add_assoc,Nat.add_comm 1 j],by simpa using h2,h3⟩
theorem yG{kt:TypeId}{kl:List IntKind}(hl:gI P 12 kt=some (kl.map some))(ha: ∀cs:List Value,Ft P kt cs (.agg cs.toArray)){ks:List Int}(hk:ks.length=kl.length):
  ∀(es:List MapEntry) (i:Nat),(∀e∈es,∃m:List Int,m.length=kl.length∧e.key=ep true kl m)→
   ((Instr.findAsking kt (ep true kl ks) es i).run P w= .ok none w∧∀e∈es,e.key≠ep true kl ks)∨
   ∃j e,(Instr.findAsking kt (ep true kl ks) es i).run P w= .ok (some (i+j,e.val)) w∧es[j]? =some e∧e.key=ep true kl ks
 | [],i,_=> .inl ⟨by simp [Instr.findAsking],by simp⟩
 | e::es,i,h=>by
  obtain⟨m,hm,hem⟩:=h e (by simp);have heq:(Op.equal kt (ep true kl ks) e.key).run P w= .ok (decide (ks=m)) w:=by
   have:=oe (P:=P) 9988 12 kt _ hl w _ _ (ep true kl ks) e.key (qE hk) (qE hm) (ha _) (by rw [hem];exact ha _);rw [LZ hk hm]at this;exact this
  by_cases hkm:ks=m
  ·subst hkm;exact .inr ⟨0,e,by simp [Instr.findAsking,heq],rfl,hem⟩
  ·rcases yG hl ha hk es (i+1) (fun x hx=>h x (by simp [hx]))with⟨h1,h2⟩ | ⟨j,e',h1,h2,h3⟩
   ·refine .inl ⟨by simp [Instr.findAsking,heq,hkm,h1],fun x hx=>?_⟩;rcases List.mem_cons.1 hx with rfl | hx
    ·rw [hem];intro he;exact hkm (HR (by simp) hm hk he).symm
    ·exact h2 x hx
   ·exact .inr ⟨j+1,e',by simp [Instr.findAsking,heq,hkm,h1,Nat.add_assoc,Nat.add_comm 1 j],by simpa using h2,h3⟩
structure E4 (P:Program) (kt:TypeId) (kl:List IntKind) (ka:Bool):Prop where
 lay:gI P 12 kt=some (kl.map some)
 one:ka=false→∃k,kl=[k]∧P.underlying kt=some (.int k)
 agg:ka=true→(∀cs:List Value,Ft P kt cs (.agg cs.toArray))∧(match P.underlying kt with | some (.array _ _) | some (.struct _)=>true | _=>false)=true
theorem E4.val{kt:TypeId}{kl:List IntKind}{ka:Bool}(h:E4 P kt kl ka){ks:List Int}(hk:ks.length=kl.length):Ft P kt (zi kl ks) (ep ka kl ks):=by
 cases ka with
 | true=>exact(h.agg rfl).1 _
 | false=>
  obtain⟨k,rfl,hu⟩:=h.one rfl
  match ks,hk with
  | [x],_=>simp [Ft,hu,zi,ep]
theorem E4.inj{kt:TypeId}{kl:List IntKind}{ka:Bool}(h:E4 P kt kl ka){a b:List Int}(ha:a.length=kl.length)(hb:b.length=kl.length)(he:ep ka kl a=ep ka kl b):a=b:=
 HR (fun hk=>by obtain⟨k,h1,_⟩:=h.one hk;exact⟨k,h1⟩) ha hb he
theorem jZ{kt:TypeId}{kl:List IntKind}{ka:Bool}(h:E4 P kt kl ka){ks:List Int}(hk:ks.length=kl.length)(es:List MapEntry)
  (zk: ∀e∈es,∃m:List Int,m.length=kl.length∧e.key=ep ka kl m):
  ((Instr.findKey kt (ep ka kl ks) es).run P w= .ok none w∧∀e∈es,e.key≠ep ka kl ks)∨
  ∃j e,(Instr.findKey kt (ep ka kl ks) es).run P w= .ok (some (j,e.val)) w∧es[j]? =some e∧e.key=ep ka kl ks:=by
 cases ka with
 | true=>
  obtain⟨h1,h2⟩:=h.agg rfl;rw [run_findKey_eq w h2];rcases yG (P:=P) (w:=w) h.lay h1 hk es 0 zk with h | ⟨j,e,h3,h4,h5⟩
  ·exact .inl h
  ·exact .inr ⟨j,e,by simpa using h3,h4,h5⟩
 | false=>
  obtain⟨k,rfl,hu⟩:=h.one rfl
  match ks,hk with
  | [n],_=>
   have alU: ∀e∈es,∃m,e.key= .int k m:=by
    intro e he;obtain⟨m,hm,hem⟩:=zk e he
    match m,hm with
    | [x],_=>exact⟨x,hem⟩
   rcases yF k n es 0 alU with⟨h1,h2⟩ | ⟨j,e,h1,h2,h3⟩
   ·exact .inl ⟨by simp [Instr.findKey,run_underlying hu,ep,h1],h2⟩
   ·exact .inr ⟨j,e,by simp [Instr.findKey,run_underlying hu,ep,h1],h2,h3⟩
theorem xK{r:Nat}{es:Array MapEntry}{clock:Nat}(hb:w.heap[r]? =some (.map es clock)):(getObj r).run P w= .ok (.map es clock) w:=by simp [getObj,Sem.run,hb]
theorem E5{r:Nat}{es:Array MapEntry}{clock:Nat}(o:Obj)(hb:w.heap[r]? =some (.map es clock)):(setObj r o).run P w= .ok () {w with heap:=w.heap.setIfInBounds r o}:=by
 simp [setObj,Sem.run,hb]
theorem sA{t kt vt:TypeId}(hm:P.underlying t=some (.map kt vt)){kl:List IntKind}{ka va comma:Bool}(h:E4 P kt kl ka){ks:List Int}(hk:ks.length=kl.length)
  {b:Nat} {zero:List Value} {has:Nat→Bool} {row:Nat→List Value} {S:Nat→Prop} (hp:(uZ b kl ka va zero has row).p w S) {z:Value} (hz:(zeroValue vt).run P w= .ok z w) (Uj:wL va zero=z):
  (Instr.lookup t (.map (some b)) (ep ka kl ks) comma).run P w= .ok (if comma then .tuple #[wL va (row (aW ks)),.bool (has (aW ks))]else wL va (row (aW ks))) w:=by
 obtain⟨_,⟨es,clock,hb,zk⟩,hzero⟩:=hp;have F5:=fD (P:=P) (w:=w) es.isEmpty 9988 12 kt _ h.lay _ _ (qE hk) (h.val hk);simp only [Instr.lookup,auC,run_underlying hm,aut,xK hb,F5,auI];rcases jZ (P:=P) (w:=w) h hk es.toList (fun e he=>by obtain⟨m,h1,h2,_⟩:=zk.keys e he;exact⟨m,h1,h2⟩)with⟨h1,h2⟩ | ⟨j,e,h1,h2,h3⟩
 ·have Ij:has (aW ks)=false:=by
   cases hh:has (aW ks)with
   | false=>rfl
   | true=>
    obtain⟨e,he,EF⟩:=zk.all ks hk hh;exact absurd EF (h2 e he)
  rw [h1];simp only [aut,auC,hz,auI,Ij,hzero ks hk Ij,Uj]
 ·obtain⟨m,hm1,hm2,hm3,hm4⟩:=zk.keys e (auM h2);have:m=ks:=h.inj hm1 hk (hm2.symm.trans h3);subst this;rw [h1];simp only [aut,hm3,hm4];cases comma<;>rfl
theorem BO{t kt vt:TypeId}(hm:P.underlying t=some (.map kt vt)){kl:List IntKind}{ka comma:Bool}(h:E4 P kt kl ka){ks:List Int}(hk:ks.length=kl.length)
  {z:Value} (hz:(zeroValue vt).run P w= .ok z w):
  (Instr.lookup t (.map none) (ep ka kl ks) comma).run P w= .ok (if comma then .tuple #[z,.bool false]else z) w:=by
 have F5:=fD (P:=P) (w:=w) (#[]:Array MapEntry).isEmpty 9988 12 kt _ h.lay _ _ (qE hk) (h.val hk);simp only [Instr.lookup,auC,run_underlying hm,aut,F5,auI];have hf:(Instr.findKey kt (ep ka kl ks) (#[]:Array MapEntry).toList).run P w= .ok none w:=by
  rcases jZ (P:=P) (w:=w) h hk [] (by simp)with⟨h1,_⟩ | ⟨j,e,_,h2,_⟩
  ·exact h1
  ·simp at h2
 rw [hf];simp only [aut,auC,hz,auI]
theorem yH(n:Nat): ∀(l:List Value),(∀u∈l,∃k m,u= .int k m)→((l.zip l).all fun(x,y)=>Instr.sameBits n x y)=true
 | [],_=>rfl
 | u::r,h=>by
  obtain⟨k,m,rfl⟩:=h u (by simp);have:=yH n r (fun x hx=>h x (by simp [hx]));simp only [List.zip_cons_cons,List.all_cons,this,Bool.and_true];cases n<;>simp [Instr.sameBits]
theorem OM(v:Value)(kl:List IntKind)(ka:Bool)(ks:List Int)(hk:ks.length=kl.length)(h1:ka=false→∃k,kl=[k])(hv:v=ep ka kl ks):
  (Instr.keyThatStays v (ep ka kl ks)).run P w= .ok (ep ka kl ks) w:=by
 subst hv;have:Instr.sameBits 10000 (ep ka kl ks) (ep ka kl ks)=true:=by
  cases ka with
  | true=>
   rw [wz];simp only [Instr.sameBits,beq_self_eq_true,Bool.true_and];exact yH _ _ Xj
  | false=>
   obtain⟨k,rfl⟩:=h1 rfl
   match ks,hk with
   | [x],_=>simp [ep,Instr.sameBits]
 simp [Instr.keyThatStays,this]
def Grown(es:Array MapEntry)(clock:Nat)(Cj:Array MapEntry)(sB:Nat):Prop:=
 (sB=clock∧Cj.size=es.size∨sB=clock+1∧Cj.size=es.size+1∧∀e,Cj[es.size]? =some e→e.born=clock)∧∀(i:Nat) e,es[i]? =some e→∃e',Cj[i]? =some e'∧e'.key=e.key∧e'.born=e.born
theorem sC{t kt vt:TypeId}(hm:P.underlying t=some (.map kt vt)){kl:List IntKind}{ka va:Bool}(h:E4 P kt kl ka){ks:List Int}(hk:ks.length=kl.length)
  {b:Nat} {zero:List Value} {has:Nat→Bool} {row:Nat→List Value} {S:Nat→Prop} (hp:(uZ b kl ka va zero has row).p w S) (v:Value) (vc:List Value) (hv:v=wL va vc)
  {BD:Nat→Bool} {HS:Nat→List Value} (hh: ∀q,BD q=if q=aW ks then true else has q) (hr: ∀q,HS q=if q=aW ks then vc else row q):
  ∃w',(Instr.mapUpdate t (.map (some b)) (ep ka kl ks) v).run P w= .ok () w'∧iP w w'∧w'.heap.size=w.heap.size∧(∀k,k≠b→w'.heap[k]? =w.heap[k]?)∧
   (uZ b kl ka va zero BD HS).p w' S∧∀es clock,w.heap[b]? =some (.map es clock)→∃Cj sB,w'.heap[b]? =some (.map Cj sB)∧(Cj.size:Int)=es.size+(if has (aW ks)then 0 else 1)∧Grown es clock Cj sB:=by
 obtain⟨hS,⟨es,clock,hb,zk⟩,hzero⟩:=hp;have h1k:ka=false→∃k,kl=[k]:=fun hk=>by obtain⟨k,h1,_⟩:=h.one hk;exact⟨k,h1⟩
 have F5:=fD (P:=P) (w:=w) false 9988 12 kt _ h.lay _ _ (qE hk) (h.val hk);have fy: ∀m:List Int,m.length=kl.length→m≠ks→aW m≠aW ks:=fun m hm hn he=>hn (pH (hm.trans hk.symm) he)
 have Xk:b<w.heap.size:=(auy.1 hb).1;have Yk: ∀m:List Int,m.length=kl.length→BD (aW m)=false→HS (aW m)=zero:=by
  intro m hm hf;rw [hh]at hf;split at hf
  ·cases hf
  ·rename_i abd;rw [hr,if_neg abd];exact hzero m hm hf
 rcases jZ (P:=P) (w:=w) h hk es.toList (fun e he=>by obtain⟨m,h1,h2,_⟩:=zk.keys e he;exact⟨m,h1,h2⟩)with⟨h1,h2⟩ | ⟨j,e,h1,h2,h3⟩
 ·refine⟨{w with heap:=w.heap.setIfInBounds b (.map (es.push {key:=ep ka kl ks,val:=v,born:=clock}) (clock+1))},by simp only [Instr.mapUpdate,auC,run_underlying hm,aut,xK hb,F5,h1];exact E5 _ hb,⟨rfl,rfl,rfl,by simp⟩,by simp,fun k hk=>?_,⟨hS,⟨es.push {key:=ep ka kl ks,val:=v,born:=clock},clock+1,?_,?_⟩,Yk⟩,?_⟩
  ·simp only [];rw [Array.getElem?_setIfInBounds_ne (Ne.symm hk)]
  ·simp [Xk]
  ·rw [Array.toList_push];refine⟨fun e he=>?_,fun i j e e' hi hj heq=>?_,fun m hm Pn=>?_⟩
   ·rcases auE.1 he with he | he
    ·obtain⟨m,m1,m2,m3,m4⟩:=zk.keys e he;have zb:m≠ks:=fun h=>h2 e he (by rw [m2,h])
     exact⟨m,m1,m2,by rw [hh,if_neg (fy m m1 zb)];exact m3,by rw [hr,if_neg (fy m m1 zb)];exact m4⟩
    ·simp only [auz]at he;subst he;exact⟨ks,hk,rfl,by rw [hh,if_pos rfl],by rw [hr,if_pos rfl];exact hv⟩
   ·rw [List.getElem?_append]at hi hj;split at hi<;>split at hj
    ·exact zk.once i j e e' hi hj heq
    ·rename_i a1 a2;exfalso;have:e'={key:=ep ka kl ks,val:=v,born:=clock}:=by
      have:=auM hj;simpa using this
     subst this;exact h2 e (auM hi) heq
    ·exfalso;have:e={key:=ep ka kl ks,val:=v,born:=clock}:=by
      have:=auM hi;simpa using this
     subst this;exact h2 e' (auM hj) heq.symm
    ·have g1:=(aup.1 hi).1;have g2:=(aup.1 hj).1;simp only [List.length_cons,List.length_nil]at g1 g2;omega
   ·by_cases Iv:m=ks
    ·subst Iv;exact⟨_,List.mem_append_right _ (auz.2 rfl),rfl⟩
    ·rw [hh,if_neg (fy m hm Iv)]at Pn;obtain⟨e,he,EF⟩:=zk.all m hm Pn;exact⟨e,List.mem_append_left _ he,EF⟩
  ·intro E6 abD h0;rw [hb]at h0;injection h0 with h0
   injection h0 with h0 h0c
   subst h0 h0c;have Ij:has (aW ks)=false:=by
    cases hh:has (aW ks)with
    | false=>rfl
    | true=>
     obtain⟨e,he,EF⟩:=zk.all ks hk hh;exact absurd EF (h2 e he)
   refine⟨es.push {key:=ep ka kl ks,val:=v,born:=clock},clock+1,by simp [Xk],by rw [Ij];simp,.inr ⟨rfl,by simp,fun e he=>?_⟩,fun i e hi=>⟨e,?_,rfl,rfl⟩⟩
   ·simp at he;subst he;rfl
   ·have:=(auy.1 hi).1;rw [Array.getElem?_push,if_neg (by omega)];exact hi
 ·have hj:es[j]? =some e:=by rw [←auX];exact h2
  have qH:=OM (P:=P) (w:=w) e.key kl ka ks hk h1k h3;refine⟨{w with heap:=w.heap.setIfInBounds b (.map (es.modify j fun e=>{e with key:=ep ka kl ks,val:=v}) clock)},by simp only [Instr.mapUpdate,auC,run_underlying hm,aut,xK hb,F5,h1,hj,Option.map_some,au8,qH];exact E5 _ hb,⟨rfl,rfl,rfl,by simp⟩,by simp,fun k hk=>?_,⟨hS,⟨es.modify j fun e=>{e with key:=ep ka kl ks,val:=v},clock,?_,?_⟩,Yk⟩,?_⟩
  ·simp only [];rw [Array.getElem?_setIfInBounds_ne (Ne.symm hk)]
  ·simp [Xk]
  ·have rV: ∀(i:Nat),(es.modify j fun e=>{e with key:=ep ka kl ks,val:=v}).toList[i]? =if j=i then(es.toList[i]?).map (fun e=>{e with key:=ep ka kl ks,val:=v})else es.toList[i]? :=by
    intro i;rw [auX,Array.getElem?_modify,auX]
   have Cx: ∀(i:Nat) e0,(es.modify j fun e=>{e with key:=ep ka kl ks,val:=v}).toList[i]? =some e0→∃e1,es.toList[i]? =some e1∧e0.key=e1.key∧(i≠j→e0=e1)∧(i=j→e0.val=v):=by
    intro i e0 hi;rw [rV]at hi;split at hi
    ·rename_i nR;subst nR;rw [h2,Option.map_some,auq]at hi;subst hi;exact⟨e,h2,h3.symm,fun h=>absurd rfl h,fun _=>rfl⟩
    ·rename_i nR;exact⟨e0,hi,rfl,fun _=>rfl,fun h=>absurd h.symm nR⟩
   refine⟨fun e0 he0=>?_,fun i i' e0 e0' hi cD heq=>?_,fun m hm Pn=>?_⟩
   ·obtain⟨i,hi⟩:=List.getElem?_of_mem he0;obtain⟨e1,g1,g2,g3,g4⟩:=Cx i e0 hi;by_cases nR:i=j
    ·subst nR;rw [h2,auq]at g1;subst g1;exact⟨ks,hk,by rw [g2,h3],by rw [hh,if_pos rfl],by rw [hr,if_pos rfl,g4 rfl];exact hv⟩
    ·have:=g3 nR;subst this;obtain⟨m,m1,m2,m3,m4⟩:=zk.keys e0 (auM g1);have zb:m≠ks:=fun h=>nR (zk.once i j e0 e g1 h2 (by rw [m2,h3,h]))
     exact⟨m,m1,m2,by rw [hh,if_neg (fy m m1 zb)];exact m3,by rw [hr,if_neg (fy m m1 zb)];exact m4⟩
   ·obtain⟨e1,g1,g2,_⟩:=Cx i e0 hi;obtain⟨e1',g1',g2',_⟩:=Cx i' e0' cD;exact zk.once i i' e1 e1' g1 g1' (by rw [←g2,←g2',heq])
   ·have: ∃e1∈es.toList,e1.key=ep ka kl m:=by
     by_cases Iv:m=ks
     ·subst Iv;exact⟨e,auM h2,h3⟩
     ·rw [hh,if_neg (fy m hm Iv)]at Pn;exact zk.all m hm Pn
    obtain⟨e1,Kg,EF⟩:=this;obtain⟨i,hi⟩:=List.getElem?_of_mem Kg;have:=rV i;by_cases nR:j=i
    ·rw [if_pos nR,hi,Option.map_some]at this;refine⟨_,auM this,?_⟩;subst nR;rw [h2,auq]at hi;subst hi;rw [←EF,h3]
    ·rw [if_neg nR,hi]at this;exact⟨e1,auM this,EF⟩
  ·intro E6 abD h0;rw [hb]at h0;injection h0 with h0
   injection h0 with h0 h0c
   subst h0 h0c;obtain⟨m,m1,m2,m3,_⟩:=zk.keys e (auM h2);have:m=ks:=h.inj m1 hk (m2.symm.trans h3);subst this;refine⟨es.modify j fun e=>{e with key:=ep ka kl m,val:=v},clock,by simp [Xk],by rw [m3];simp,.inl ⟨rfl,by simp⟩,fun i e1 hi=>?_⟩;rw [Array.getElem?_modify,hi];by_cases nR:j=i
   ·subst nR;rw [hj,auq]at hi;subst hi;exact⟨{e with key:=ep ka kl m,val:=v},by rw [if_pos rfl];rfl,h3.symm,rfl⟩
   ·exact⟨e1,by rw [if_neg nR],rfl,rfl⟩
end
end Go.RX
