/- Executor. -/
import Derived.Test.YtphemenngjkfbaaRxOe
open Array renaming getElem?_eq_some_iff → agH
open Bool renaming and_eq_true → ai
open Decidable renaming not_not → agN
open Go.Result renaming andThen_ok → agG
open Go.Sem renaming run_bind → agK, run_pure → ag0
open List renaming append_nil → agL, eq_nil_of_length_eq_zero → agU, getElem?_eq_getElem → ag6, getElem?_eq_some_iff → agx, map_cons → agW, mem_map → ag9, mem_singleton → agZ, range → ag5
open List.cons renaming injEq → agO
open Option renaming getD_some → ahe, map_eq_some_iff → agz
open Option.some renaming injEq → agy
namespace Go.RX
theorem R0{a b:Int}(h:Ly a=Ly b):a=b:=by
 cases a<;>cases b<;>simp only [Ly]at h
 ·congr 1;omega
 ·omega
 ·omega
 ·congr 1;omega
theorem R2{a b L M:Nat}(h:(2*a+1)*2^L=(2*b+1)*2^M):a=b∧L=M:=by
 induction L generalizing M with
 | zero=>
  cases M with
  | zero=>simp only [Nat.pow_zero,Nat.mul_one]at h;exact⟨by omega,rfl⟩
  | succ M=>
   rw [Nat.pow_succ,Nat.pow_zero,Nat.mul_one,←Nat.mul_assoc]at h;omega
 | succ L ih=>
  cases M with
  | zero=>
   rw [Nat.pow_succ,Nat.pow_zero,Nat.mul_one,←Nat.mul_assoc]at h;omega
  | succ M=>
   rw [Nat.pow_succ,Nat.pow_succ,←Nat.mul_assoc,←Nat.mul_assoc]at h;have:=ih (Nat.eq_of_mul_eq_mul_right (by omega) h);exact⟨this.1,by omega⟩
theorem Iv{a b:Nat}{x y:Int}(h:wB a x=wB b y):a=b∧x=y:=by
 unfold wB at h;obtain⟨h1,h2⟩:=R2 h;rw [h2]at h1;have hx:Ly x<2^((Ly y).log2+1):=by rw [←h2];exact Nat.lt_log2_self
 have hy:Ly y<2^((Ly y).log2+1):=Nat.lt_log2_self;generalize 2^((Ly y).log2+1)=N at h1 hx hy;have e1:a=b:=by
  have p:(a*N+Ly x)/N=a:=by rw [Nat.mul_comm,Nat.mul_add_div (by omega),Nat.div_eq_of_lt hx,Nat.add_zero]
  have q:(b*N+Ly y)/N=b:=by rw [Nat.mul_comm,Nat.mul_add_div (by omega),Nat.div_eq_of_lt hy,Nat.add_zero]
  rw [←p,←q,h1]
 subst e1;exact⟨rfl,R0 (by omega)⟩
theorem F8: ∀(l m:List Int) (a b:Nat),l.length=m.length→l.foldl wB a=m.foldl wB b→a=b∧l=m
 | [],[],a,b,_,h=>⟨h,rfl⟩
 | [],_::_,_,_,hl,_=>by simp at hl
 | _::_,[],_,_,hl,_=>by simp at hl
 | x::l,y::m,a,b,hl,h=>by
  simp only [List.foldl_cons]at h;obtain⟨h1,h2⟩:=F8 l m _ _ (by simpa using hl) h;obtain⟨h3,h4⟩:=Iv h1;exact⟨h3,by rw [h4,h2]⟩
theorem jw{l m:List Int}(hl:l.length=m.length)(h:bG l=bG m):l=m:=(F8 l m 0 0 hl h).2
theorem Km: ∀{kl:List IntKind} {a b:List Int},a.length=kl.length→b.length=kl.length→zb kl a=zb kl b→a=b
 | [],a,b,ha,hb,_=>by
  rw [agU ha,agU hb]
 | k::kl,[],_,ha,_,_=>by simp at ha
 | k::kl,_::_,[],_,hb,_=>by simp at hb
 | k::kl,x::a,y::b,ha,hb,h=>by
  simp only [zb,List.zip_cons_cons,agW,agO,Value.int.injEq,true_and]at h;rw [h.1,Km (by simpa using ha) (by simpa using hb) h.2]
theorem r_: ∀{kl:List IntKind} {a:List Int},a.length=kl.length→fT (zb kl a) (kl.map some)
 | [],a,ha=>by rw [agU ha];trivial
 | k::kl,[],ha=>by simp at ha
 | k::kl,x::a,ha=>by
  simp only [zb,List.zip_cons_cons,agW,fT,true_and];exact r_ (by simpa using ha)
theorem Kn: ∀{kl:List IntKind} {a b:List Int},a.length=kl.length→b.length=kl.length→tX (zb kl a) (zb kl b)=decide (a=b)
 | [],a,b,ha,hb=>by
  rw [agU ha,agU hb];rfl
 | k::kl,[],_,ha,_=>by simp at ha
 | k::kl,_::_,[],_,hb=>by simp at hb
 | k::kl,x::a,y::b,ha,hb=>by
  have ih:=Kn (kl:=kl) (a:=a) (b:=b) (by simpa using ha) (by simpa using hb);unfold zb at ih;simp only [zb,List.zip_cons_cons,agW,tX,ih];by_cases h1:x=y<;>by_cases h2:a=b<;>simp [h1,h2]
theorem R3: ∀{kl:List IntKind} {a:List Int},∀u∈zb kl a,∃k n,u= .int k n:=by
 intro kl a u hu;simp only [zb,ag9]at hu;obtain⟨x,_,rfl⟩:=hu;exact⟨_,_,rfl⟩
theorem u7(kl:List IntKind)(ks:List Int):eW true kl ks= .agg (zb kl ks).toArray:=rfl
theorem F9{ka:Bool}{kl:List IntKind}(hk:ka=false→∃k,kl=[k]){a b:List Int}(ha:a.length=kl.length)(hb:b.length=kl.length)(h:eW ka kl a=eW ka kl b):a=b:=by
 cases ka with
 | true=>
  rw [u7,u7]at h;have:=congrArg (fun v=>match v with | .agg c=>c.toList | _=>[]) h;exact Km ha hb (by simpa using this)
 | false=>
  obtain⟨k,rfl⟩:=hk rfl
  match a,b,ha,hb with
  | [x],[y],_,_=>simpa [eW] using h
section
variable {P:Program} {w:World}
theorem fN(em:Bool)(k:Nat): ∀(d:Nat) (t:TypeId) (L:List gR),fD P d t=some L→∀(xs:List Value) (x:Value),fT xs L→Fx P t xs x→(Instr.checkKey em (k+d) t x).run P w= .ok () w
 | 0,t,L,h=>by simp [fD]at h
 | d+1,t,L,h=>by
  intro xs x hx vx;rw [show k+(d+1)=(k+d)+1 from rfl,Instr.checkKey];unfold fD at h;cases hu:P.underlying t with
  | none=>simp [hu]at h
  | some td=>
   rw [hu]at h;simp only [Fx,hu]at vx;simp only [agK,run_underlying hu,agG];cases td with
   | int q=>
    simp only [agy]at h;subst h vx;cases x<;>simp only [fT]at hx
    rfl
   | bool=>
    simp only [agy]at h;subst h vx;cases x<;>simp only [fT]at hx
    rfl
   | array n e=>
    simp only at h vx;subst vx;split at h
    ·rename_i l hl;split at h
     ·rename_i hs;simp only [agy]at h;subst h;have ey:P.cellsOf e=l.length:=by simpa using hs
      have FY: ∃i,P.info? e=some i:=by
       cases d with
       | zero=>simp [fD]at hl
       | succ d=>
        cases hi:P.info? e with
        | none=>simp [fD,Program.underlying,hi]at hl
        | some i=>exact⟨i,rfl⟩
      obtain⟨i,hi⟩:=FY;have fx:i.size=l.length:=by simpa [Program.cellsOf,hi] using ey
      dsimp only;simp only [Std.Legacy.Range.forIn_eq_forIn_range',Std.Legacy.Range.size,Nat.sub_zero,Nat.add_one_sub_one,Nat.div_one];have key: ∀(m j:Nat),fT (xs.drop (j*l.length)) (List.replicate m l).flatten→
        (forIn (List.range' j m) PUnit.unit fun i _=>(do
         let s←sizeOf e
         let a←part e xs.toArray (i*s)
         Instr.checkKey em (k+d) e a
         pure (ForInStep.yield PUnit.unit):Sem (ForInStep PUnit))).run P w= .ok () w:=by
       intro m
       induction m with
       | zero=>intro j _;simp
       | succ m ih=>
        intro j hf;rw [List.replicate_succ,List.flatten_cons]at hf;obtain⟨h1,h2⟩:=fc hf;rw [List.drop_drop]at h2;obtain⟨a,pa,va⟩:=iD w hl ey xs (j*l.length) h1;have hc:=fN em k d e l hl _ _ h1 va;have WY:=ih (j+1) (by rw [Nat.add_mul,Nat.one_mul];exact h2);rw [List.range'_succ];simp only [List.forIn_cons,agK,run_sizeOf w hi,agG,ey,pa,hc,ag0];exact WY
      have:=key n 0 (by simpa using hx);simpa [agK] using this
     ·cases h
    ·cases h
   | struct fs=>
    simp only at h vx;subst vx;split at h
    ·cases h
    ·dsimp only;rw [←Array.forIn_toList];have key: ∀(L:List Field) (off:Nat) (l:List gR),kS P (fD P d) L off=some l→fT (xs.drop off) l→
       (forIn L PUnit.unit fun f _=>(do
        if f.name≠ "_" then
         Instr.checkKey em (k+d) f.type (←part f.type xs.toArray f.offset)
         pure (ForInStep.yield PUnit.unit)
        else pure (ForInStep.yield PUnit.unit):Sem (ForInStep PUnit))).run P w= .ok () w:=by
      intro L
      induction L with
      | nil=>intro off l _ _;simp
      | cons f L ih=>
       intro off l hl hf;unfold kS at hl;split at hl
       ·cases hl
       ·rename_i hn;simp only [Bool.or_eq_true,beq_iff_eq,bne_iff_ne,ne_eq,not_or,agN]at hn;obtain⟨hn,rfl⟩:=hn;split at hl
        ·rename_i l1 RV;split at hl
         ·rename_i hs;rw [agz]at hl;obtain⟨L',U_,rfl⟩:=hl;have ey:P.cellsOf f.type=l1.length:=by simpa using hs
          obtain⟨h1,h2⟩:=fc hf;rw [List.drop_drop]at h2;obtain⟨a,pa,va⟩:=iD w RV ey xs f.offset h1;have hc:=fN em k d _ _ RV _ _ h1 va;have WY:=ih _ _ U_ h2;simp only [List.forIn_cons,agK,hn,ne_eq,not_false_eq_true,if_true,agG,pa,hc,ag0];exact WY
         ·cases hl
        ·cases hl
     have:=key fs.toList 0 L h (by simpa using hx);simpa [agK] using this
   | _=>simp at h
theorem xX(k:IntKind)(n:Int): ∀(es:List MapEntry) (i:Nat),(∀e∈es,∃m,e.key= .int k m)→
  (Instr.findNow (.int k) (.int k n) es i=some none∧∀e∈es,e.key≠ .int k n)∨
  ∃j e,Instr.findNow (.int k) (.int k n) es i=some (some (i+j,e.val))∧es[j]? =some e∧e.key= .int k n
 | [],i,_=> .inl ⟨rfl,by simp⟩
 | e::es,i,h=>by
  obtain⟨m,hm⟩:=h e (by simp);by_cases hnm:n=m
  ·subst hnm;exact .inr ⟨0,e,by simp [Instr.findNow,hm,Instr.sameNow],rfl,hm⟩
  ·have hs:Instr.sameNow (.int k) (.int k n) e.key=some false:=by rw [hm];simp [Instr.sameNow,hnm]
   rcases xX k n es (i+1) (fun x hx=>h x (by simp [hx]))with⟨h1,h2⟩ | ⟨j,e',h1,h2,h3⟩
   ·refine .inl ⟨by simp only [Instr.findNow,hs,h1],fun x hx=>?_⟩;rcases List.mem_cons.1 hx with rfl | hx
    ·rw [hm];simp;exact fun h=>hnm h.symm
    ·exact h2 x hx
   ·exact .inr ⟨j+1,e',by simp only [Instr.findNow,hs,h1];simp [Nat.add_assoc,Nat.add_comm 1 j],by simpa using h2,h3⟩
theorem xY{kt:TypeId}{kl:List IntKind}(hl:fD P 12 kt=some (kl.map some))(ha: ∀cs:List Value,Fx P kt cs (.agg cs.toArray)){ks:List Int}(hk:ks.length=kl.length):
  ∀(es:List MapEntry) (i:Nat),(∀e∈es,∃m:List Int,m.length=kl.length∧e.key=eW true kl m)→
   ((Instr.findAsking kt (eW true kl ks) es i).run P w= .ok none w∧∀e∈es,e.key≠eW true kl ks)∨
   ∃j e,(Instr.findAsking kt (eW true kl ks) es i).run P w= .ok (some (i+j,e.val)) w∧es[j]? =some e∧e.key=eW true kl ks
 | [],i,_=> .inl ⟨by simp [Instr.findAsking],by simp⟩
 | e::es,i,h=>by
  obtain⟨m,hm,XD⟩:=h e (by simp);have heq:(Op.equal kt (eW true kl ks) e.key).run P w= .ok (decide (ks=m)) w:=by
   have:=nQ (P:=P) 9988 12 kt _ hl w _ _ (eW true kl ks) e.key (r_ hk) (r_ hm) (ha _) (by rw [XD];exact ha _);rw [Kn hk hm]at this;exact this
  by_cases Ko:ks=m
  ·subst Ko;exact .inr ⟨0,e,by simp [Instr.findAsking,heq],rfl,XD⟩
  ·rcases xY hl ha hk es (i+1) (fun x hx=>h x (by simp [hx]))with⟨h1,h2⟩ | ⟨j,e',h1,h2,h3⟩
   ·refine .inl ⟨by simp [Instr.findAsking,heq,Ko,h1],fun x hx=>?_⟩;rcases List.mem_cons.1 hx with rfl | hx
    ·rw [XD];intro he;exact Ko (F9 (by simp) hm hk he).symm
    ·exact h2 x hx
   ·exact .inr ⟨j+1,e',by simp [Instr.findAsking,heq,Ko,h1,Nat.add_assoc,Nat.add_comm 1 j],by simpa using h2,h3⟩
structure Eu (P:Program) (kt:TypeId) (kl:List IntKind) (ka:Bool):Prop where
 lay:fD P 12 kt=some (kl.map some)
 one:ka=false→∃k,kl=[k]∧P.underlying kt=some (.int k)
 agg:ka=true→(∀cs:List Value,Fx P kt cs (.agg cs.toArray))∧(match P.underlying kt with | some (.array _ _) | some (.struct _)=>true | _=>false)=true
theorem Eu.val{kt:TypeId}{kl:List IntKind}{ka:Bool}(h:Eu P kt kl ka){ks:List Int}(hk:ks.length=kl.length):Fx P kt (zb kl ks) (eW ka kl ks):=by
 cases ka with
 | true=>exact(h.agg rfl).1 _
 | false=>
  obtain⟨k,rfl,hu⟩:=h.one rfl
  match ks,hk with
  | [x],_=>simp [Fx,hu,zb,eW]
theorem Eu.inj{kt:TypeId}{kl:List IntKind}{ka:Bool}(h:Eu P kt kl ka){a b:List Int}(ha:a.length=kl.length)(hb:b.length=kl.length)(he:eW ka kl a=eW ka kl b):a=b:=
 F9 (fun hk=>by obtain⟨k,h1,_⟩:=h.one hk;exact⟨k,h1⟩) ha hb he
theorem l_{kt:TypeId}{kl:List IntKind}{ka:Bool}(h:Eu P kt kl ka){ks:List Int}(hk:ks.length=kl.length)(es:List MapEntry)
  (Ep: ∀e∈es,∃m:List Int,m.length=kl.length∧e.key=eW ka kl m):
  ((Instr.findKey kt (eW ka kl ks) es).run P w= .ok none w∧∀e∈es,e.key≠eW ka kl ks)∨
  ∃j e,(Instr.findKey kt (eW ka kl ks) es).run P w= .ok (some (j,e.val)) w∧es[j]? =some e∧e.key=eW ka kl ks:=by
 cases ka with
 | true=>
  obtain⟨h1,h2⟩:=h.agg rfl;rw [run_findKey_eq w h2];rcases xY (P:=P) (w:=w) h.lay h1 hk es 0 Ep with h | ⟨j,e,h3,h4,h5⟩
  ·exact .inl h
  ·exact .inr ⟨j,e,by simpa using h3,h4,h5⟩
 | false=>
  obtain⟨k,rfl,hu⟩:=h.one rfl
  match ks,hk with
  | [n],_=>
   have aaz: ∀e∈es,∃m,e.key= .int k m:=by
    intro e he;obtain⟨m,hm,XD⟩:=Ep e he
    match m,hm with
    | [x],_=>exact⟨x,XD⟩
   rcases xX k n es 0 aaz with⟨h1,h2⟩ | ⟨j,e,h1,h2,h3⟩
   ·exact .inl ⟨by simp [Instr.findKey,run_underlying hu,eW,h1],h2⟩
   ·exact .inr ⟨j,e,by simp [Instr.findKey,run_underlying hu,eW,h1],h2,h3⟩
theorem Ix{r:Nat}{es:Array MapEntry}{clock:Nat}(hb:w.heap[r]? =some (.map es clock)):(getObj r).run P w= .ok (.map es clock) w:=by simp [getObj,Sem.run,hb]
theorem N7{r:Nat}{es:Array MapEntry}{clock:Nat}(o:Obj)(hb:w.heap[r]? =some (.map es clock)):(setObj r o).run P w= .ok () {w with heap:=w.heap.setIfInBounds r o}:=by
 simp [setObj,Sem.run,hb]
theorem qZ{t kt vt:TypeId}(hm:P.underlying t=some (.map kt vt)){kl:List IntKind}{ka va comma:Bool}(h:Eu P kt kl ka){ks:List Int}(hk:ks.length=kl.length)
  {b:Nat} {zero:List Value} {has:Nat→Bool} {row:Nat→List Value} {S:Nat→Prop} (hp:(bK b kl ka va zero has row).p w S) {z:Value} (hz:(zeroValue vt).run P w= .ok z w) (Vd:zO va zero=z):
  (Instr.lookup t (.map (some b)) (eW ka kl ks) comma).run P w= .ok (if comma then .tuple #[zO va (row (bG ks)),.bool (has (bG ks))]else zO va (row (bG ks))) w:=by
 obtain⟨_,⟨es,clock,hb,Ep⟩,hzero⟩:=hp;have Iy:=fN (P:=P) (w:=w) es.isEmpty 9988 12 kt _ h.lay _ _ (r_ hk) (h.val hk);simp only [Instr.lookup,agK,run_underlying hm,agG,Ix hb,Iy,ag0];rcases l_ (P:=P) (w:=w) h hk es.toList (fun e he=>by obtain⟨m,h1,h2,_⟩:=Ep.keys e he;exact⟨m,h1,h2⟩)with⟨h1,h2⟩ | ⟨j,e,h1,h2,h3⟩
 ·have Ve:has (bG ks)=false:=by
   cases hh:has (bG ks)with
   | false=>rfl
   | true=>
    obtain⟨e,he,R4⟩:=Ep.all ks hk hh;exact absurd R4 (h2 e he)
  rw [h1];simp only [agG,agK,hz,ag0,Ve,hzero ks hk Ve,Vd]
 ·obtain⟨m,Vf,XE,hm3,hm4⟩:=Ep.keys e (List.mem_of_getElem? h2);have:m=ks:=h.inj Vf hk (XE.symm.trans h3);subst this;rw [h1];simp only [agG,hm3,hm4];cases comma<;>rfl
theorem Ak{t kt vt:TypeId}(hm:P.underlying t=some (.map kt vt)){kl:List IntKind}{ka comma:Bool}(h:Eu P kt kl ka){ks:List Int}(hk:ks.length=kl.length)
  {z:Value} (hz:(zeroValue vt).run P w= .ok z w):
  (Instr.lookup t (.map none) (eW ka kl ks) comma).run P w= .ok (if comma then .tuple #[z,.bool false]else z) w:=by
 have Iy:=fN (P:=P) (w:=w) (#[]:Array MapEntry).isEmpty 9988 12 kt _ h.lay _ _ (r_ hk) (h.val hk);simp only [Instr.lookup,agK,run_underlying hm,agG,Iy,ag0];have hf:(Instr.findKey kt (eW ka kl ks) (#[]:Array MapEntry).toList).run P w= .ok none w:=by
  rcases l_ (P:=P) (w:=w) h hk [] (by simp)with⟨h1,_⟩ | ⟨j,e,_,h2,_⟩
  ·exact h1
  ·simp at h2
 rw [hf];simp only [agG,agK,hz,ag0]
theorem xZ(n:Nat): ∀(l:List Value),(∀u∈l,∃k m,u= .int k m)→((l.zip l).all fun(x,y)=>Instr.sameBits n x y)=true
 | [],_=>rfl
 | u::r,h=>by
  obtain⟨k,m,rfl⟩:=h u (by simp);have:=xZ n r (fun x hx=>h x (by simp [hx]));simp only [List.zip_cons_cons,List.all_cons,this,Bool.and_true];cases n<;>simp [Instr.sameBits]
theorem L6(v:Value)(kl:List IntKind)(ka:Bool)(ks:List Int)(hk:ks.length=kl.length)(h1:ka=false→∃k,kl=[k])(hv:v=eW ka kl ks):
  (Instr.keyThatStays v (eW ka kl ks)).run P w= .ok (eW ka kl ks) w:=by
 subst hv;have:Instr.sameBits 10000 (eW ka kl ks) (eW ka kl ks)=true:=by
  cases ka with
  | true=>
   rw [u7];simp only [Instr.sameBits,beq_self_eq_true,Bool.true_and];exact xZ _ _ R3
  | false=>
   obtain⟨k,rfl⟩:=h1 rfl
   match ks,hk with
   | [x],_=>simp [eW,Instr.sameBits]
 simp [Instr.keyThatStays,this]
theorem q_{t kt vt:TypeId}(hm:P.underlying t=some (.map kt vt)){kl:List IntKind}{ka va:Bool}(h:Eu P kt kl ka){ks:List Int}(hk:ks.length=kl.length)
  {b:Nat} {zero:List Value} {has:Nat→Bool} {row:Nat→List Value} {S:Nat→Prop} (hp:(bK b kl ka va zero has row).p w S) (v:Value) (vc:List Value) (hv:v=zO va vc)
  {Iz:Nat→Bool} {N8:Nat→List Value} (hh: ∀q,Iz q=if q=bG ks then true else has q) (hr: ∀q,N8 q=if q=bG ks then vc else row q):
  ∃w',(Instr.mapUpdate t (.map (some b)) (eW ka kl ks) v).run P w= .ok () w'∧gu w w'∧w'.heap.size=w.heap.size∧(∀k,k≠b→w'.heap[k]? =w.heap[k]?)∧
   (bK b kl ka va zero Iz N8).p w' S:=by
 obtain⟨hS,⟨es,clock,hb,Ep⟩,hzero⟩:=hp;have h1k:ka=false→∃k,kl=[k]:=fun hk=>by obtain⟨k,h1,_⟩:=h.one hk;exact⟨k,h1⟩
 have Iy:=fN (P:=P) (w:=w) false 9988 12 kt _ h.lay _ _ (r_ hk) (h.val hk);have eJ: ∀m:List Int,m.length=kl.length→m≠ks→bG m≠bG ks:=fun m hm hn he=>hn (jw (hm.trans hk.symm) he)
 have XF:b<w.heap.size:=(agH.1 hb).1;have TW: ∀m:List Int,m.length=kl.length→Iz (bG m)=false→N8 (bG m)=zero:=by
  intro m hm hf;rw [hh]at hf;split at hf
  ·cases hf
  ·rename_i aaB;rw [hr,if_neg aaB];exact hzero m hm hf
 rcases l_ (P:=P) (w:=w) h hk es.toList (fun e he=>by obtain⟨m,h1,h2,_⟩:=Ep.keys e he;exact⟨m,h1,h2⟩)with⟨h1,h2⟩ | ⟨j,e,h1,h2,h3⟩
 ·refine⟨{w with heap:=w.heap.setIfInBounds b (.map (es.push {key:=eW ka kl ks,val:=v,born:=clock}) (clock+1))},by simp only [Instr.mapUpdate,agK,run_underlying hm,agG,Ix hb,Iy,h1];exact N7 _ hb,⟨rfl,rfl,rfl,by simp⟩,by simp,fun k hk=>?_,hS,⟨es.push {key:=eW ka kl ks,val:=v,born:=clock},clock+1,?_,?_⟩,TW⟩
  ·simp only [];rw [Array.getElem?_setIfInBounds_ne (Ne.symm hk)]
  ·simp [XF]
  ·rw [Array.toList_push];refine⟨fun e he=>?_,fun i j e e' hi hj heq=>?_,fun m hm XG=>?_⟩
   ·rcases List.mem_append.1 he with he | he
    ·obtain⟨m,m1,m2,m3,m4⟩:=Ep.keys e he;have F_:m≠ks:=fun h=>h2 e he (by rw [m2,h])
     exact⟨m,m1,m2,by rw [hh,if_neg (eJ m m1 F_)];exact m3,by rw [hr,if_neg (eJ m m1 F_)];exact m4⟩
    ·simp only [agZ]at he;subst he;exact⟨ks,hk,rfl,by rw [hh,if_pos rfl],by rw [hr,if_pos rfl];exact hv⟩
   ·rw [List.getElem?_append]at hi hj;split at hi<;>split at hj
    ·exact Ep.once i j e e' hi hj heq
    ·rename_i a1 a2;exfalso;have:e'={key:=eW ka kl ks,val:=v,born:=clock}:=by
      have:=List.mem_of_getElem? hj;simpa using this
     subst this;exact h2 e (List.mem_of_getElem? hi) heq
    ·exfalso;have:e={key:=eW ka kl ks,val:=v,born:=clock}:=by
      have:=List.mem_of_getElem? hi;simpa using this
     subst this;exact h2 e' (List.mem_of_getElem? hj) heq.symm
    ·have g1:=(agx.1 hi).1;have g2:=(agx.1 hj).1;simp only [List.length_cons,List.length_nil]at g1 g2;omega
   ·by_cases Vg:m=ks
    ·subst Vg;exact⟨_,List.mem_append_right _ (agZ.2 rfl),rfl⟩
    ·rw [hh,if_neg (eJ m hm Vg)]at XG;obtain⟨e,he,R4⟩:=Ep.all m hm XG;exact⟨e,List.mem_append_left _ he,R4⟩
 ·have hj:es[j]? =some e:=by rw [←Array.getElem?_toList];exact h2
  have lG:=L6 (P:=P) (w:=w) e.key kl ka ks hk h1k h3;refine⟨{w with heap:=w.heap.setIfInBounds b (.map (es.modify j fun e=>{e with key:=eW ka kl ks,val:=v}) clock)},by simp only [Instr.mapUpdate,agK,run_underlying hm,agG,Ix hb,Iy,h1,hj,Option.map_some,ahe,lG];exact N7 _ hb,⟨rfl,rfl,rfl,by simp⟩,by simp,fun k hk=>?_,hS,⟨es.modify j fun e=>{e with key:=eW ka kl ks,val:=v},clock,?_,?_⟩,TW⟩
  ·simp only [];rw [Array.getElem?_setIfInBounds_ne (Ne.symm hk)]
  ·simp [XF]
  ·have Cc: ∀(i:Nat),(es.modify j fun e=>{e with key:=eW ka kl ks,val:=v}).toList[i]? =if j=i then(es.toList[i]?).map (fun e=>{e with key:=eW ka kl ks,val:=v})else es.toList[i]? :=by
    intro i;rw [Array.getElem?_toList,Array.getElem?_modify,Array.getElem?_toList]
   have Vh: ∀(i:Nat) e0,(es.modify j fun e=>{e with key:=eW ka kl ks,val:=v}).toList[i]? =some e0→∃e1,es.toList[i]? =some e1∧e0.key=e1.key∧(i≠j→e0=e1)∧(i=j→e0.val=v):=by
    intro i e0 hi;rw [Cc]at hi;split at hi
    ·rename_i Fy;subst Fy;rw [h2,Option.map_some,agy]at hi;subst hi;exact⟨e,h2,h3.symm,fun h=>absurd rfl h,fun _=>rfl⟩
    ·rename_i Fy;exact⟨e0,hi,rfl,fun _=>rfl,fun h=>absurd h.symm Fy⟩
   refine⟨fun e0 ZI=>?_,fun i i' e0 e0' hi oq heq=>?_,fun m hm XG=>?_⟩
   ·obtain⟨i,hi⟩:=List.getElem?_of_mem ZI;obtain⟨e1,g1,g2,g3,g4⟩:=Vh i e0 hi;by_cases Fy:i=j
    ·subst Fy;rw [h2,agy]at g1;subst g1;exact⟨ks,hk,by rw [g2,h3],by rw [hh,if_pos rfl],by rw [hr,if_pos rfl,g4 rfl];exact hv⟩
    ·have:=g3 Fy;subst this;obtain⟨m,m1,m2,m3,m4⟩:=Ep.keys e0 (List.mem_of_getElem? g1);have F_:m≠ks:=fun h=>Fy (Ep.once i j e0 e g1 h2 (by rw [m2,h3,h]))
     exact⟨m,m1,m2,by rw [hh,if_neg (eJ m m1 F_)];exact m3,by rw [hr,if_neg (eJ m m1 F_)];exact m4⟩
   ·obtain⟨e1,g1,g2,_⟩:=Vh i e0 hi;obtain⟨e1',g1',g2',_⟩:=Vh i' e0' oq;exact Ep.once i i' e1 e1' g1 g1' (by rw [←g2,←g2',heq])
   ·have: ∃e1∈es.toList,e1.key=eW ka kl m:=by
     by_cases Vg:m=ks
     ·subst Vg;exact⟨e,List.mem_of_getElem? h2,h3⟩
     ·rw [hh,if_neg (eJ m hm Vg)]at XG;exact Ep.all m hm XG
    obtain⟨e1,he1,R4⟩:=this;obtain⟨i,hi⟩:=List.getElem?_of_mem he1;have:=Cc i;by_cases Fy:j=i
    ·rw [if_pos Fy,hi,Option.map_some]at this;refine⟨_,List.mem_of_getElem? this,?_⟩;subst Fy;rw [h2,agy]at hi;subst hi;rw [←R4,h3]
    ·rw [if_neg Fy,hi]at this;exact⟨e1,List.mem_of_getElem? this,R4⟩
end
section
variable {P:Program} {ρ:Env} {w:World} {look:Nat→Option SV} {bQ:Operand→Value} {hp:List Ck} {S:Nat→Nat→Prop} {nb nv:Nat} {T:List TI}
theorem L7{a:E}{i:Nat}{x:Int}(h:N9 a i=some x):a.den ρ i=x:=by
 unfold N9 at h;split at h
 ·rename_i n hn;cases h;have:=eO ρ a (.lit i) 0;rw [hn]at this;simp only [E.den,Int.toNat_natCast]at this;exact this.symm
 ·cases h
theorem ub{a:E}: ∀{n:Nat} {l:List Int},wN a n=some l→l=(ag5 n).map (a.den ρ)
 | 0,l,h=>by simp [wN]at h;subst h;rfl
 | n+1,l,h=>by
  unfold wN at h;split at h
  ·rename_i l' x h1 h2;cases h;rw [List.range_succ,List.map_append,←ub h1];simp [L7 h2]
  ·cases h
theorem sb(n:Nat)(a:E):((Rj n a).den ρ 0)=(bG ((ag5 n).map (a.den ρ)):Nat):=by
 unfold Rj;split
 ·rename_i l h;rw [←ub h];rfl
 ·rfl
theorem rb: ∀{l:List gR} {kl:List IntKind},uc l=some kl→l=kl.map some
 | [],kl,h=>by simp [uc]at h;subst h;rfl
 | some k::r,kl,h=>by
  simp only [uc,agz]at h;obtain⟨x,hx,rfl⟩:=h;rw [rb hx];rfl
 | none::r,kl,h=>by simp [uc]at h
theorem s5(hT:bC P T=true){t:Nat}{tk:TI}(ht:aW T t=some tk){kl:List IntKind}{ka:Bool}(h:rh tk=some (kl,ka)):Eu P t kl ka:=by
 obtain⟨rfl,c9⟩:=ay hT ht;have dg:=c9.kind;unfold rh at h;split at h
 ·rename_i k hk;cases h;rw [hk]at dg;have hu:=jU dg;exact⟨by simp [fD,hu],fun _=>⟨k,rfl,hu⟩,fun h=>(by cases h)⟩
 ·rename_i fs hk;split at h
  ·cases h
  ·rename_i eJ;rw [agz]at h;obtain⟨l,hl,he⟩:=h;cases he;rw [hk]at dg;obtain⟨fa,hu,_⟩:=nR dg;rcases c9.lay with h | ⟨h,_⟩
   ·exact absurd h eJ
   ·rw [rb hl]at h;exact⟨h,fun h=>(by cases h),fun _=>⟨fun cs=>by simp [Fx,hu],by simp [hu]⟩⟩
 ·rename_i n e hk;split at h
  ·cases h
  ·rename_i eJ;rw [agz]at h;obtain⟨l,hl,he⟩:=h;cases he;rw [hk]at dg;have hu:=pc dg;rcases c9.lay with h | ⟨h,_⟩
   ·exact absurd h eJ
   ·rw [rb hl]at h;exact⟨h,fun h=>(by cases h),fun _=>⟨fun cs=>by simp [Fx,hu],by simp [hu]⟩⟩
 ·cases h
theorem pU{ka:Bool}{k:SV}{kc:List SV}(h:u9 ka k=some kc){kl:List IntKind}{ks:List Int}(hk:ks.length=kl.length)(h1:ka=false→∃k,kl=[k])(hc:SV.ar ρ kc=zb kl ks):k.val ρ=eW ka kl ks:=by
 unfold u9 at h;split at h
 ·cases h;simp only [SV.val,hc,u7]
 ·rename_i q e;cases h;obtain⟨k0,rfl⟩:=h1 rfl
  match ks,hk,hc with
  | [x],_,hc=>
   have hc:[Value.int q (e.den ρ 0)]=[Value.int k0 x]:=hc;simp only [agO,and_true]at hc;exact hc
 ·cases h
theorem Ga{d:Option TypeDesc}{k v:Nat}(h:iA d (.map k v)=true):d=some (.map k v):=by
 unfold iA at h;split at h<;>simp_all
theorem mF{hp:List Ck}{b j:Nat}{ck:Ck}(h:ze hp b=some (j,ck)):hp[j]? =some ck∧ck.isMap b=true:=by
 unfold ze at h;split at h
 ·rename_i i hi;rw [agz]at h;obtain⟨c,hc,he⟩:=h;cases he;refine⟨hc,?_⟩;rw [List.findIdx?_eq_some_iff_getElem]at hi;obtain⟨cZ,h1,_⟩:=hi;rw [ag6 cZ]at hc;cases hc;exact h1
 ·cases h
theorem Al{te:TI}{z:List cb}(h:wO T te=some z): ∀i:Nat,rowAt ρ z i=SV.ar ρ te.zero:=by
 unfold wO at h;split at h
 ·split at h
  ·rename_i hz;cases h;simp only [ai,List.isEmpty_iff]at hz;intro i;rw [hz.1];rfl
  ·cases h
 ·exact fun i=>(fA h).1 i
theorem cX: ∀{a b:List SV},fG a b=true→SV.ar ρ a=SV.ar ρ b
 | [],[],_=>rfl
 | [],_::_,h=>by simp [fG]at h
 | v::r,[],h=>by cases v<;>simp [fG]at h
 | v::r,u::s,h=>by
  unfold fG at h;split at h
  ·rename_i h1 _;cases h1
  ·rename_i h1 h2;cases h1;cases h2;simp only [ai,beq_iff_eq]at h;obtain⟨⟨rfl,rfl⟩,h⟩:=h;simp only [SV.ar,cX h]
  ·rename_i h1 h2;cases h1;cases h2;simp only [ai,beq_iff_eq]at h;obtain⟨rfl,h⟩:=h;simp only [SV.ar,cX h]
  ·rename_i h1 h2;cases h1;cases h2;simp only [ai,beq_iff_eq]at h;obtain⟨⟨⟨rfl,rfl⟩,rfl⟩,h⟩:=h;simp only [SV.ar,cX h]
  ·rename_i h1 h2;cases h1;cases h2;simp only [SV.ar,cX h]
  ·rename_i h1 h2;cases h1;cases h2;simp only [SV.ar,cX h]
  ·rename_i h1 h2;cases h1;cases h2;simp only [SV.ar,cX h]
  ·rename_i h1 h2;cases h1;cases h2;simp only [SV.ar,cX h]
  ·rename_i h1 h2;cases h1;cases h2;simp only [SV.ar,cX h]
  ·rename_i h1 h2;cases h1;cases h2;simp only [ai,beq_iff_eq]at h;obtain⟨rfl,h⟩:=h;simp only [SV.ar,cX h]
  ·cases h
theorem Gb{k:Nat}{v:List SV}: ∀{es:List (Nat×List SV)} {q:Nat},qV (Cd k v es) q=if q=k then true else qV es q
 | [],q=>by simp only [Cd,qV,eq_comm]
 | (i,u)::r,q=>by
  simp only [Cd];split
  ·rename_i h;subst h;simp only [qV,eq_comm];split<;>rfl
  ·rename_i h;simp only [qV];split
   ·rename_i h2;subst h2;rw [if_neg h]
   ·exact Gb
theorem Gc{k:Nat}{v z:List SV}: ∀{es:List (Nat×List SV)} {q:Nat},oz (Cd k v es) z q=if q=k then v else oz es z q
 | [],q=>by simp only [Cd,oz,eq_comm]
 | (i,u)::r,q=>by
  simp only [Cd];split
  ·rename_i h;subst h;simp only [oz,eq_comm];split<;>rfl
  ·rename_i h;simp only [oz];split
   ·rename_i h2;subst h2;rw [if_neg h]
   ·exact Gc
theorem wP(_:bC P T=true)(F3:ρ.bv.length=nb){t:Nat}{res:iC}(h:ud T nb t=some res):
  Did P ρ w hp S nb nv ((do pure (.value (←Instr.makeMap t none)):Sem Next).run P w) res:=by
 unfold ud at h;split at h
 ·rename_i kt vt sz by_ zr ly fL;split at h
  ·rename_i tk tv B0 htv;split at h
   ·rename_i kl ka aA hk hz;cases h;refine⟨w.alloc (.map #[] 0),_,if_pos rfl,?_,⟨rfl,rfl,rfl,by simp⟩,by simp,fun k hk=>heap_alloc_old w _ hk,⟨fun k=>Iff.rfl,⟨#[],0,heap_alloc_new w _,?_⟩,?_⟩⟩
    ·subst F3;simp [Instr.makeMap,SV.val,kU]
    ·refine⟨by simp,by simp,fun ks _ hh=>by simp [E.den]at hh⟩
    ·intro ks _ _;split at hz
     ·cases hz
     ·exact Al (ρ:=ρ) hz _
   ·rename_i kl ka hk hz;cases h;refine⟨w.alloc (.map #[] 0),_,if_pos rfl,?_,⟨rfl,rfl,rfl,by simp⟩,by simp,fun k hk=>heap_alloc_old w _ hk,⟨fun k=>Iff.rfl,⟨#[],0,heap_alloc_new w _,?_⟩,?_⟩⟩
    ·subst F3;simp [Instr.makeMap,SV.val,kU]
    ·refine⟨by simp,by simp,fun ks _ hh=>by simp [qV]at hh⟩
    ·intro ks _ _;rfl
   ·cases h
  ·cases h
 ·cases h
theorem pV{agg:Bool}{cs:List SV}{v:SV}(h:je agg cs=some v):v.val ρ=zO agg (SV.ar ρ cs):=by
 obtain⟨h1,h2⟩:=nO ρ h;cases agg with
 | true=>rw [h1 rfl];rfl
 | false=>have:=h2 rfl;rw [this];rfl
theorem N_{ti:TI}(c9:lF P ti){i:TypeInfo}{z:Value}(hi:P.info? ti.t=some i)(hz:i.zero=some z)(hc:SV.ar ρ ti.zero=z.cells.toList):zO ti.k.agg (SV.ar ρ ti.zero)=z:=by
 have hg:=c9.zag i z hi hz;rw [hc];cases z with
 | agg cs=>simp only at hg;rw [hg];simp [zO,Value.cells]
 | _=>simp only [Bool.not_eq_true']at hg;rw [hg];simp [zO,Value.cells]
theorem yS(hT:bC P T=true){t:Nat}{x k:SV}{comma:Bool}{res:iC}(h:wQ T hp t x k comma=some res)(dp:Reads hp ρ w S res.rd):
  (Instr.lookup t (x.val ρ) (k.val ρ) comma).run P w= .ok (res.val.val ρ) w∧res.ij= .none:=by
 unfold wQ at h;split at h
 ·rename_i kt vt sz by_ zr ly fL;obtain⟨ht,c9⟩:=ay hT fL;have hm:P.underlying t=some (.map kt vt):=by
   have:=c9.kind;rw [←ht];exact Ga this
  split at h
  ·rename_i tk tv B0 htv;obtain⟨rfl,XH⟩:=ay hT htv;obtain⟨iv,hiv,_,_,z,hz,B9⟩:=XH.info;have hzr:(zeroValue tv.t).run P w= .ok z w:=by simp [zeroValue,typeInfo,hiv,hz]
   have Vd:=N_ (ρ:=ρ) XH hiv hz (B9 ρ);split at h
   ·rename_i kl ka dg;have hK:=s5 hT B0 dg;split at h
    ·rename_i kc ZJ;split at h
     ·rename_i NC a FX;split at h
      ·cases h
      ·rename_i Rh;simp only [ne_eq,agN]at Rh;subst Rh;have Vi:=pU (ρ:=ρ) (ks:=(ag5 NC.length).map (a.den ρ)) ZJ (by simp) (fun hk=>by obtain⟨k,h1,_⟩:=hK.one hk;exact⟨k,h1⟩) (gZ FX);split at h
       ·rw [agz]at h;obtain⟨v,hv,rfl⟩:=h;refine⟨?_,rfl⟩;have HZ:=pV (ρ:=ρ) hv;rw [Vd]at HZ;rw [Vi];have:=Ak (P:=P) (w:=w) hm hK (ks:=(ag5 NC.length).map (a.den ρ)) (comma:=comma) (by simp) hzr;show(Instr.lookup t (.map none) _ comma).run P w=_;rw [this];cases comma<;>simp [SV.val,SV.bQ,HZ,BE.den]
       ·rename_i b;split at h
        ·rename_i j b' Am Oa L8 C5 has aA hf;split at h
         ·rename_i iH;obtain⟨rfl,rfl,rfl,qF⟩:=iH;split at h
          ·rename_i es Ep;rw [agz]at h;obtain⟨v,hv,rfl⟩:=h;refine⟨?_,rfl⟩;obtain⟨hj,ew⟩:=mF hf;simp only [Ck.isMap,beq_iff_eq]at ew;subst ew;have hS:=dp j (by simp) _ hj;have l6:=m5 ρ Ep;rw [sb,Int.toNat_natCast]at l6;have HZ:=pV (ρ:=ρ) hv;rw [l6]at HZ;rw [Vi];have hz2:=cX (ρ:=ρ) qF;rw [←hz2]at Vd;have:=qZ (P:=P) (w:=w) hm hK (ks:=(ag5 Am.length).map (a.den ρ)) (comma:=comma) (by simp) hS hzr Vd;show(Instr.lookup t (.map (some (ρ.bv.getD b 0))) _ comma).run P w=_;rw [this];cases comma with
           | false=>simp only [Bool.false_eq_true,if_false,HZ]
           | true=>
            simp only [if_true,SV.val,SV.bQ,HZ,za,eO,sb,Int.toNat_natCast]
          ·cases h
         ·cases h
        ·rename_i j b' Am Oa L8 C5 es hf;split at h
         ·rename_i iH;obtain⟨rfl,rfl,rfl,qF⟩:=iH;split at h
          ·rename_i n Vj;rw [agz]at h;obtain⟨v,hv,rfl⟩:=h;refine⟨?_,rfl⟩;obtain⟨hj,ew⟩:=mF hf;simp only [Ck.isMap,beq_iff_eq]at ew;subst ew;have hS:=dp j (by simp) _ hj;rw [Ck.lK]at hS;have Gd:n.toNat=bG ((ag5 Am.length).map (a.den ρ)):=by
            have:=sb (ρ:=ρ) Am.length a;rw [Vj]at this;simp only [E.den]at this;rw [this,Int.toNat_natCast]
           have HZ:=pV (ρ:=ρ) hv;rw [Gd]at HZ;rw [Vi];have hz2:=cX (ρ:=ρ) qF;rw [←hz2]at Vd;have:=qZ (P:=P) (w:=w) hm hK (ks:=(ag5 Am.length).map (a.den ρ)) (comma:=comma) (by simp) hS hzr Vd;show(Instr.lookup t (.map (some (ρ.bv.getD b 0))) _ comma).run P w=_;rw [this];cases comma with
           | false=>simp only [Bool.false_eq_true,if_false,HZ]
           | true=>simp only [if_true,SV.val,SV.bQ,HZ,BE.den,Gd]
          ·cases h
         ·cases h
        ·cases h
       ·cases h
     ·cases h
    ·cases h
   ·cases h
  ·cases h
 ·cases h
theorem C6{v:SV}{vs:List SV}(h:eR v=some vs):v.val ρ=zO (Ex v) (SV.ar ρ vs):=by
 cases v with
 | agg cs=>
  simp only [eR]at h;split at h
  ·cases h;rfl
  ·cases h
 | a_ k n a=>
  simp only [eR,SV.one,if_true,agy]at h;subst h;simp [SV.val,SV.ar,SV.cells,Ex,zO]
 | opt c v=>simp [eR,SV.one]at h
 | undef=>simp [eR,SV.one]at h
 | lp vs=>simp [eR,SV.one]at h
 | _=>
  simp only [eR,SV.one,if_true,agy]at h;subst h;rfl
theorem qq(hT:bC P T=true){t:Nat}{x k v:SV}{res:iC}(h:sd T hp t x k v=some res)(dp:Reads hp ρ w S res.rd):
  res.val= .undef∧∃j ck,res.ij= .set j ck∧∃w',(Instr.mapUpdate t (x.val ρ) (k.val ρ) (v.val ρ)).run P w= .ok () w'∧Ki P w ρ hp S j ck w':=by
 unfold sd at h;split at h
 ·rename_i kt vt sz by_ zr ly fL;obtain⟨ht,c9⟩:=ay hT fL;have hm:P.underlying t=some (.map kt vt):=by
   have:=c9.kind;rw [←ht];exact Ga this
  split at h
  ·rename_i tk tv B0 htv;split at h
   ·rename_i kl ka dg;have hK:=s5 hT B0 dg;split at h
    ·rename_i kc vs ZJ Kj;split at h
     ·rename_i NC a b FX;split at h
      ·rename_i j b' Am Oa L8 zero has aA hf;split at h
       ·rename_i iH;obtain⟨rfl,rfl,rfl,Fz,hlen,B8⟩:=iH;split at h
        ·rename_i aV qT;cases h;have Vi:=pU (ρ:=ρ) (ks:=(ag5 Am.length).map (a.den ρ)) ZJ (by simp) (fun hk=>by obtain⟨k,h1,_⟩:=hK.one hk;exact⟨k,h1⟩) (gZ FX);obtain⟨hj,ew⟩:=mF hf;simp only [Ck.isMap,beq_iff_eq]at ew;subst ew;have hS:=dp j (by simp) _ hj;obtain⟨p1,p2,p3,p4⟩:=jT ρ qT;rw [sb,Int.toNat_natCast]at p3 p4;have HZ:=C6 (ρ:=ρ) Kj;rw [B8,←Fz]at HZ;have XI:rowAt ρ aV (bG ((ag5 Am.length).map (a.den ρ)))=SV.ar ρ vs:=by
          rw [p4,List.drop_eq_nil_of_le,agL];rw [show(rowAt ρ aA _).length=cn aA from dH ρ aA _,bw];exact Nat.le_of_eq hlen.symm
         obtain⟨w',r1,r2,r3,r4,r5⟩:=q_ (P:=P) (w:=w) hm hK (ks:=(ag5 Am.length).map (a.den ρ)) (by simp) hS (v.val ρ) (SV.ar ρ vs) HZ
          (Iz:=fun q=> !((E.bP has (Rj Am.length a) (.lit 1)).den ρ q==0)) (N8:=fun i=>(aV.map (cb.cells ρ)).flatMap fun c=>c i)
          (fun q=>by
           simp only [E.den,sb,Int.toNat_natCast];split<;>simp_all)
          (fun q=>by
           split
           ·rename_i hq;rw [hq];exact XI
           ·rename_i hq;exact p3 q hq)
         refine⟨rfl,j,_,rfl,w',?_,⟨⟨_,hj,rfl⟩,rfl,r2,r3,fun k hk=>r4 k (fun e=>hk ((hS.1 k).2 e)),r5⟩⟩;rw [Vi];exact r1
        ·cases h
       ·cases h
      ·rename_i j b' Am Oa L8 zero es hf;split at h
       ·rename_i iH;obtain⟨rfl,rfl,rfl,Fz,B8⟩:=iH;split at h
        ·rename_i n Vj;cases h;have Vi:=pU (ρ:=ρ) (ks:=(ag5 Am.length).map (a.den ρ)) ZJ (by simp) (fun hk=>by obtain⟨k,h1,_⟩:=hK.one hk;exact⟨k,h1⟩) (gZ FX);obtain⟨hj,ew⟩:=mF hf;simp only [Ck.isMap,beq_iff_eq]at ew;subst ew;have hS:=dp j (by simp) _ hj;rw [Ck.lK]at hS;have Gd:n.toNat=bG ((ag5 Am.length).map (a.den ρ)):=by
          have:=sb (ρ:=ρ) Am.length a;rw [Vj]at this;simp only [E.den]at this;rw [this,Int.toNat_natCast]
         have HZ:=C6 (ρ:=ρ) Kj;rw [B8,←Fz]at HZ;obtain⟨w',r1,r2,r3,r4,r5⟩:=q_ (P:=P) (w:=w) hm hK (ks:=(ag5 Am.length).map (a.den ρ)) (by simp) hS (v.val ρ) (SV.ar ρ vs) HZ
          (Iz:=fun q=>qV (Cd n.toNat vs es) q) (N8:=fun q=>SV.ar ρ (oz (Cd n.toNat vs es) zero q))
          (fun q=>by rw [Gb,←Gd])
          (fun q=>by
           simp only [Gc,←Gd];split<;>rfl)
         refine⟨rfl,j,_,rfl,w',?_,⟨⟨_,hj,rfl⟩,rfl,r2,r3,fun k hk=>r4 k (fun e=>hk ((hS.1 k).2 e)),by rw [Ck.lK];exact r5⟩⟩;rw [Vi];exact r1
        ·cases h
       ·cases h
      ·cases h
     ·cases h
    ·cases h
   ·cases h
  ·cases h
 ·cases h
end
end Go.RX
