/- Executor. -/
import Derived.Test.YtllcdnkfbeokhaaGreatRxOe
open Array renaming getElem?_eq_some_iff -> ax1, getElem?_toList -> ayt
open Go.Result renaming andThen_ok -> ax0
open Go.Sem renaming run_bind -> ax9, run_pure -> ayj
open List renaming eq_nil_of_length_eq_zero -> aye, getElem?_eq_some_iff -> axT, length_cons -> ax5, length_nil -> aya, map_cons -> ayr, mem_append -> ax_, mem_map -> ayg, mem_of_getElem? -> ayh, mem_singleton -> ax2
open Option renaming getD_some -> ayG, map_eq_some_iff -> axV
open Option.some renaming injEq -> axU
namespace Go.RX
theorem Yr{a b:Int}(h:Ni a=Ni b):a=b:=by
 cases a<;>cases b<;>simp only[Ni]at h
 .congr 1;omega
 .omega
 .omega
 .congr 1;omega
theorem Ys{a b L M:Nat}(h:(2*a+1)*2^L=(2*b+1)*2^M):a=b/\L=M:=by
 induction L generalizing M with
 | zero=>
  cases M with
  | zero=>simp only[Nat.pow_zero,Nat.mul_one]at h;exact⟨by omega,rfl⟩
  | succ M=>
   rw[Nat.pow_succ,Nat.pow_zero,Nat.mul_one,<-Nat.mul_assoc]at h;omega
 | succ L ih=>
  cases M with
  | zero=>
   rw[Nat.pow_succ,Nat.pow_zero,Nat.mul_one,<-Nat.mul_assoc]at h;omega
  | succ M=>
   rw[Nat.pow_succ,Nat.pow_succ,<-Nat.mul_assoc,<-Nat.mul_assoc]at h;have:=ih (Nat.eq_of_mul_eq_mul_right (by omega) h);exact⟨this.1,by omega⟩
theorem K_{a b:Nat}{x y:Int}(h:uw a x=uw b y):a=b/\x=y:=by
 unfold uw at h;obtain⟨h1,h2⟩:=Ys h;rw[h2]at h1;have hx:Ni x<2^((Ni y).log2+1):=by rw[<-h2];exact Nat.lt_log2_self
 have hy:Ni y<2^((Ni y).log2+1):=Nat.lt_log2_self;generalize 2^((Ni y).log2+1)=N at h1 hx hy;have e1:a=b:=by
  have p:(a*N+Ni x)/N=a:=by rw[Nat.mul_comm,Nat.mul_add_div (by omega),Nat.div_eq_of_lt hx,Nat.add_zero]
  have q:(b*N+Ni y)/N=b:=by rw[Nat.mul_comm,Nat.mul_add_div (by omega),Nat.div_eq_of_lt hy,Nat.add_zero]
  rw[<-p,<-q,h1]
 subst e1;exact⟨rfl,Yr (by omega)⟩
theorem IX: ∀(l m:List Int) (a b:Nat),l.length=m.length->l.foldl uw a=m.foldl uw b->a=b/\l=m
 | [],[],a,b,_,h=>⟨h,rfl⟩
 | [],_::_,_,_,hl,_=>by simp at hl
 | _::_,[],_,_,hl,_=>by simp at hl
 | x::l,y::m,a,b,hl,h=>by
  simp only[List.foldl_cons]at h;obtain⟨h1,h2⟩:=IX l m _ _ (by simpa using hl) h;obtain⟨h3,h4⟩:=K_ h1;exact⟨h3,by rw[h4,h2]⟩
theorem qs{l m:List Int}(hl:l.length=m.length)(h:aT l=aT m):l=m:=(IX l m 0 0 hl h).2
theorem M_: ∀{kl:List IntKind} {a b:List Int},a.length=kl.length->b.length=kl.length->zX kl a=zX kl b->a=b
 | [],a,b,ha,hb,_=>by
  rw[aye ha,aye hb]
 | k::kl,[],_,ha,_,_=>by simp at ha
 | k::kl,_::_,[],_,hb,_=>by simp at hb
 | k::kl,x::a,y::b,ha,hb,h=>by
  simp only[zX,List.zip_cons_cons,ayr,List.cons.injEq,Value.int.injEq,true_and]at h;rw[h.1,M_ (by simpa using ha) (by simpa using hb) h.2]
theorem qW: ∀{kl:List IntKind} {a:List Int},a.length=kl.length->iA (zX kl a) (kl.map some)
 | [],a,ha=>by rw[aye ha];trivial
 | k::kl,[],ha=>by simp at ha
 | k::kl,x::a,ha=>by
  simp only[zX,List.zip_cons_cons,ayr,iA,true_and];exact qW (by simpa using ha)
theorem Na: ∀{kl:List IntKind} {a b:List Int},a.length=kl.length->b.length=kl.length->uD (zX kl a) (zX kl b)=decide (a=b)
 | [],a,b,ha,hb=>by
  rw[aye ha,aye hb];rfl
 | k::kl,[],_,ha,_=>by simp at ha
 | k::kl,_::_,[],_,hb=>by simp at hb
 | k::kl,x::a,y::b,ha,hb=>by
  have ih:=Na (kl:=kl) (a:=a) (b:=b) (by simpa using ha) (by simpa using hb);unfold zX at ih;simp only[zX,List.zip_cons_cons,ayr,uD,ih];by_cases h1:x=y<;>by_cases h2:a=b<;>simp[h1,h2]
theorem Yt: ∀{kl:List IntKind} {a:List Int},∀u∈zX kl a,∃k n,u= .int k n:=by
 intro kl a u hu;simp only[zX,ayg]at hu;obtain⟨x,_,rfl⟩:=hu;exact⟨_,_,rfl⟩
theorem vR(kl:List IntKind)(ks:List Int):eG true kl ks= .agg (zX kl ks).toArray:=rfl
theorem IY{ka:Bool}{kl:List IntKind}(hk:ka=false->∃k,kl=[k]){a b:List Int}(ha:a.length=kl.length)(hb:b.length=kl.length)(h:eG ka kl a=eG ka kl b):a=b:=by
 cases ka with
 | true=>
  rw[vR,vR]at h;have:=congrArg (λv=>match v with | .agg c=>c.toList | _=>[]) h;exact M_ ha hb (by simpa using this)
 | false=>
  obtain⟨k,rfl⟩:=hk rfl
  match a,b,ha,hb with
  | [x],[y],_,_=>simpa[eG] using h
section
variable {P:Program} {w:World}
theorem fU(em:Bool)(k:Nat): ∀(d:Nat) (t:TypeId) (L:List jt),g9 P d t=some L->∀(xs:List Value) (x:Value),iA xs L->FU P t xs x->(Instr.checkKey em (k+d) t x).run P w= .ok () w
 | 0,t,L,h=>by simp[g9]at h
 | d+1,t,L,h=>by
  intro xs x hx vx;rw[show k+(d+1)=(k+d)+1 from rfl,Instr.checkKey];unfold g9 at h;cases hu:P.underlying t with
  | none=>simp[hu]at h
  | some td=>
   rw[hu]at h;simp only[FU,hu]at vx;simp only[ax9,run_underlying hu,ax0];cases td with
   | int q=>
    simp only[axU]at h;subst h vx;cases x<;>simp only[iA]at hx
    rfl
   | bool=>
    simp only[axU]at h;subst h vx;cases x<;>simp only[iA]at hx
    rfl
   | array n e=>
    simp only at h vx;subst vx;split at h
    .rename_i l hl;split at h
     .rename_i hs;simp only[axU]at h;subst h;have lU:P.cellsOf e=l.length:=by simpa using hs
      have Gn: ∃i,P.info? e=some i:=by
       cases d with
       | zero=>simp[g9]at hl
       | succ d=>
        cases hi:P.info? e with
        | none=>simp[g9,Program.underlying,hi]at hl
        | some i=>exact⟨i,rfl⟩
      obtain⟨i,hi⟩:=Gn;have jR:i.size=l.length:=by simpa[Program.cellsOf,hi] using lU
      dsimp only;simp only[Std.Legacy.Range.forIn_eq_forIn_range',Std.Legacy.Range.size,Nat.sub_zero,Nat.add_one_sub_one,Nat.div_one];have key: ∀(m j:Nat),iA (xs.drop (j*l.length)) (List.replicate m l).flatten->
        (forIn (List.range' j m) PUnit.unit λi _=>(do
         let s<-sizeOf e
         let a<-part e xs.toArray (i*s)
         Instr.checkKey em (k+d) e a
         pure (ForInStep.yield PUnit.unit):Sem (ForInStep PUnit))).run P w= .ok () w:=by
       intro m
       induction m with
       | zero=>intro j _;simp
       | succ m ih=>
        intro j hf;rw[List.replicate_succ,List.flatten_cons]at hf;obtain⟨h1,h2⟩:=gH hf;rw[List.drop_drop]at h2;obtain⟨a,pa,va⟩:=jS w hl lU xs (j*l.length) h1;have hc:=fU em k d e l hl _ _ h1 va;have ih':=ih (j+1) (by rw[Nat.add_mul,Nat.one_mul];exact h2);rw[List.range'_succ];simp only[List.forIn_cons,ax9,run_sizeOf w hi,ax0,lU,pa,hc,ayj];exact ih'
      have:=key n 0 (by simpa using hx);simpa[ax9] using this
     .cases h
    .cases h
   | struct fs=>
    simp only at h vx;subst vx;split at h
    .cases h
    .dsimp only;rw[<-Array.forIn_toList];have key: ∀(L:List Field) (off:Nat) (l:List jt),mf P (g9 P d) L off=some l->iA (xs.drop off) l->
       (forIn L PUnit.unit λf _=>(do
        if f.name≠ "_" then
         Instr.checkKey em (k+d) f.type (<-part f.type xs.toArray f.offset)
         pure (ForInStep.yield PUnit.unit)
        else pure (ForInStep.yield PUnit.unit):Sem (ForInStep PUnit))).run P w= .ok () w:=by
      intro L
      induction L with
      | nil=>intro off l _ _;simp
      | cons f L ih=>
       intro off l hl hf;unfold mf at hl;split at hl
       .cases hl
       .rename_i hn;simp only[Bool.or_eq_true,beq_iff_eq,bne_iff_ne,ne_eq,not_or,Decidable.not_not]at hn;obtain⟨hn,rfl⟩:=hn;split at hl
        .rename_i l1 JC;split at hl
         .rename_i hs;rw[axV]at hl;obtain⟨L',Z3,rfl⟩:=hl;have lU:P.cellsOf f.type=l1.length:=by simpa using hs
          obtain⟨h1,h2⟩:=gH hf;rw[List.drop_drop]at h2;obtain⟨a,pa,va⟩:=jS w JC lU xs f.offset h1;have hc:=fU em k d _ _ JC _ _ h1 va;have ih':=ih _ _ Z3 h2;simp only[List.forIn_cons,ax9,hn,ne_eq,not_false_eq_true,if_true,ax0,pa,hc,ayj];exact ih'
         .cases hl
        .cases hl
     have:=key fs.toList 0 L h (by simpa using hx);simpa[ax9] using this
   | _=>simp at h
theorem zo(k:IntKind)(n:Int): ∀(es:List MapEntry) (i:Nat),(∀e∈es,∃m,e.key= .int k m)->
  (Instr.findNow (.int k) (.int k n) es i=some none/\∀e∈es,e.key≠ .int k n)\/
  ∃j e,Instr.findNow (.int k) (.int k n) es i=some (some (i+j,e.val))/\es[j]? =some e/\e.key= .int k n
 | [],i,_=> .inl ⟨rfl,by simp⟩
 | e::es,i,h=>by
  obtain⟨m,hm⟩:=h e (by simp);by_cases hnm:n=m
  .subst hnm;exact .inr ⟨0,e,by simp[Instr.findNow,hm,Instr.sameNow],rfl,hm⟩
  .have hs:Instr.sameNow (.int k) (.int k n) e.key=some false:=by rw[hm];simp[Instr.sameNow,hnm]
   rcases zo k n es (i+1) (λx hx=>h x (by simp[hx]))with⟨h1,h2⟩ | ⟨j,e',h1,h2,h3⟩
   .refine .inl ⟨by simp only[Instr.findNow,hs,h1],λx hx=>?_⟩;rcases List.mem_cons.1 hx with rfl | hx
    .rw [hm];simp;exact λh=>hnm h.symm
    .exact h2 x hx
   .exact .inr ⟨j+1,e',by simp only[Instr.findNow,hs,h1];simp[Nat.add_assoc,Nat.add_comm 1 j],by simpa using h2,h3⟩
theorem zp{kt:TypeId}{kl:List IntKind}(hl:g9 P 12 kt=some (kl.map some))(ha: ∀cs:List Value,FU P kt cs (.agg cs.toArray)){ks:List Int}(hk:ks.length=kl.length):
  ∀(es:List MapEntry) (i:Nat),(∀e∈es,∃m:List Int,m.length=kl.length/\e.key=eG true kl m)->
   ((Instr.findAsking kt (eG true kl ks) es i).run P w= .ok none w/\∀e∈es,e.key≠eG true kl ks)\/
   ∃j e,(Instr.findAsking kt (eG true kl ks) es i).run P w= .ok (some (i+j,e.val)) w/\es[j]? =some e/\e.key=eG true kl ks
 | [],i,_=> .inl ⟨by simp[Instr.findAsking],by simp⟩
 | e::es,i,h=>by
  obtain⟨m,hm,hem⟩:=h e (by simp);have heq:(Op.equal kt (eG true kl ks) e.key).run P w= .ok (decide (ks=m)) w:=by
   have:=oW (P:=P) 9988 12 kt _ hl w _ _ (eG true kl ks) e.key (qW hk) (qW hm) (ha _) (by rw[hem];exact ha _);rw[Na hk hm]at this;exact this
  by_cases hkm:ks=m
  .subst hkm;exact .inr ⟨0,e,by simp[Instr.findAsking,heq],rfl,hem⟩
  .rcases zp hl ha hk es (i+1) (λx hx=>h x (by simp[hx]))with⟨h1,h2⟩ | ⟨j,e',h1,h2,h3⟩
   .refine .inl ⟨by simp[Instr.findAsking,heq,hkm,h1],λx hx=>?_⟩;rcases List.mem_cons.1 hx with rfl | hx
    .rw [hem];intro he;exact hkm (IY (by simp) hm hk he).symm
    .exact h2 x hx
   .exact .inr ⟨j+1,e',by simp[Instr.findAsking,heq,hkm,h1,Nat.add_assoc,Nat.add_comm 1 j],by simpa using h2,h3⟩
structure Ex (P:Program) (kt:TypeId) (kl:List IntKind) (ka:Bool):Prop where
 lay:g9 P 12 kt=some (kl.map some)
 one:ka=false->∃k,kl=[k]/\P.underlying kt=some (.int k)
 agg:ka=true->(∀cs:List Value,FU P kt cs (.agg cs.toArray))/\(match P.underlying kt with | some (.array _ _) | some (.struct _)=>true | _=>false)=true
theorem Ex.val{kt:TypeId}{kl:List IntKind}{ka:Bool}(h:Ex P kt kl ka){ks:List Int}(hk:ks.length=kl.length):FU P kt (zX kl ks) (eG ka kl ks):=by
 cases ka with
 | true=>exact(h.agg rfl).1 _
 | false=>
  obtain⟨k,rfl,hu⟩:=h.one rfl
  match ks,hk with
  | [x],_=>simp[FU,hu,zX,eG]
theorem Ex.inj{kt:TypeId}{kl:List IntKind}{ka:Bool}(h:Ex P kt kl ka){a b:List Int}(ha:a.length=kl.length)(hb:b.length=kl.length)(he:eG ka kl a=eG ka kl b):a=b:=
 IY (λhk=>by obtain⟨k,h1,_⟩:=h.one hk;exact⟨k,h1⟩) ha hb he
theorem kF{kt:TypeId}{kl:List IntKind}{ka:Bool}(h:Ex P kt kl ka){ks:List Int}(hk:ks.length=kl.length)(es:List MapEntry)
  (zZ: ∀e∈es,∃m:List Int,m.length=kl.length/\e.key=eG ka kl m):
  ((Instr.findKey kt (eG ka kl ks) es).run P w= .ok none w/\∀e∈es,e.key≠eG ka kl ks)\/
  ∃j e,(Instr.findKey kt (eG ka kl ks) es).run P w= .ok (some (j,e.val)) w/\es[j]? =some e/\e.key=eG ka kl ks:=by
 cases ka with
 | true=>
  obtain⟨h1,h2⟩:=h.agg rfl;rw[run_findKey_eq w h2];rcases zp (P:=P) (w:=w) h.lay h1 hk es 0 zZ with h | ⟨j,e,h3,h4,h5⟩
  .exact .inl h
  .exact .inr ⟨j,e,by simpa using h3,h4,h5⟩
 | false=>
  obtain⟨k,rfl,hu⟩:=h.one rfl
  match ks,hk with
  | [n],_=>
   have aoL: ∀e∈es,∃m,e.key= .int k m:=by
    intro e he;obtain⟨m,hm,hem⟩:=zZ e he
    match m,hm with
    | [x],_=>exact⟨x,hem⟩
   rcases zo k n es 0 aoL with⟨h1,h2⟩ | ⟨j,e,h1,h2,h3⟩
   .exact .inl ⟨by simp[Instr.findKey,run_underlying hu,eG,h1],h2⟩
   .exact .inr ⟨j,e,by simp[Instr.findKey,run_underlying hu,eG,h1],h2,h3⟩
theorem xM{r:Nat}{es:Array MapEntry}{clock:Nat}(hb:w.heap[r]? =some (.map es clock)):(getObj r).run P w= .ok (.map es clock) w:=by simp[getObj,Sem.run,hb]
theorem EB{r:Nat}{es:Array MapEntry}{clock:Nat}(o:Obj)(hb:w.heap[r]? =some (.map es clock)):(setObj r o).run P w= .ok () {w with heap:=w.heap.setIfInBounds r o}:=by
 simp[setObj,Sem.run,hb]
theorem sv{t kt vt:TypeId}(hm:P.underlying t=some (.map kt vt)){kl:List IntKind}{ka va comma:Bool}(h:Ex P kt kl ka){ks:List Int}(hk:ks.length=kl.length)
  {b:Nat} {zero:List Value} {has:Nat->Bool} {row:Nat->List Value} {S:Nat->Prop} (hp:(vB b kl ka va zero has row).p w S) {z:Value} (hz:(zeroValue vt).run P w= .ok z w) (Vj:xr va zero=z):
  (Instr.lookup t (.map (some b)) (eG ka kl ks) comma).run P w= .ok (if comma then .tuple #[xr va (row (aT ks)),.bool (has (aT ks))]else xr va (row (aT ks))) w:=by
 obtain⟨_,⟨es,clock,hb,zZ⟩,hzero⟩:=hp;have GI:=fU (P:=P) (w:=w) es.isEmpty 9988 12 kt _ h.lay _ _ (qW hk) (h.val hk);simp only[Instr.lookup,ax9,run_underlying hm,ax0,xM hb,GI,ayj];rcases kF (P:=P) (w:=w) h hk es.toList (λe he=>by obtain⟨m,h1,h2,_⟩:=zZ.keys e he;exact⟨m,h1,h2⟩)with⟨h1,h2⟩ | ⟨j,e,h1,h2,h3⟩
 .have FY:has (aT ks)=false:=by
   cases hh:has (aT ks)with
   | false=>rfl
   | true=>
    obtain⟨e,he,EA⟩:=zZ.all ks hk hh;exact absurd EA (h2 e he)
  rw[h1];simp only[ax0,ax9,hz,ayj,FY,hzero ks hk FY,Vj]
 .obtain⟨m,hm1,hm2,hm3,hm4⟩:=zZ.keys e (ayh h2);have:m=ks:=h.inj hm1 hk (hm2.symm.trans h3);subst this;rw[h1];simp only[ax0,hm3,hm4];cases comma<;>rfl
theorem AY{t kt vt:TypeId}(hm:P.underlying t=some (.map kt vt)){kl:List IntKind}{ka comma:Bool}(h:Ex P kt kl ka){ks:List Int}(hk:ks.length=kl.length)
  {z:Value} (hz:(zeroValue vt).run P w= .ok z w):
  (Instr.lookup t (.map none) (eG ka kl ks) comma).run P w= .ok (if comma then .tuple #[z,.bool false]else z) w:=by
 have GI:=fU (P:=P) (w:=w) (#[]:Array MapEntry).isEmpty 9988 12 kt _ h.lay _ _ (qW hk) (h.val hk);simp only[Instr.lookup,ax9,run_underlying hm,ax0,GI,ayj];have hf:(Instr.findKey kt (eG ka kl ks) (#[]:Array MapEntry).toList).run P w= .ok none w:=by
  rcases kF (P:=P) (w:=w) h hk [] (by simp)with⟨h1,_⟩ | ⟨j,e,_,h2,_⟩
  .exact h1
  .simp at h2
 rw[hf];simp only[ax0,ax9,hz,ayj]
theorem zq(n:Nat): ∀(l:List Value),(∀u∈l,∃k m,u= .int k m)->((l.zip l).all λ(x,y)=>Instr.sameBits n x y)=true
 | [],_=>rfl
 | u::r,h=>by
  obtain⟨k,m,rfl⟩:=h u (by simp);have:=zq n r (λx hx=>h x (by simp[hx]));simp only[List.zip_cons_cons,List.all_cons,this,Bool.and_true];cases n<;>simp[Instr.sameBits]
theorem PI(v:Value)(kl:List IntKind)(ka:Bool)(ks:List Int)(hk:ks.length=kl.length)(h1:ka=false->∃k,kl=[k])(hv:v=eG ka kl ks):
  (Instr.keyThatStays v (eG ka kl ks)).run P w= .ok (eG ka kl ks) w:=by
 subst hv;have:Instr.sameBits 10000 (eG ka kl ks) (eG ka kl ks)=true:=by
  cases ka with
  | true=>
   rw[vR];simp only[Instr.sameBits,beq_self_eq_true,Bool.true_and];exact zq _ _ Yt
  | false=>
   obtain⟨k,rfl⟩:=h1 rfl
   match ks,hk with
   | [x],_=>simp[eG,Instr.sameBits]
 simp[Instr.keyThatStays,this]
def Grown(es:Array MapEntry)(clock:Nat)(CW:Array MapEntry)(sx:Nat):Prop:=
 (sx=clock/\CW.size=es.size\/sx=clock+1/\CW.size=es.size+1/\∀e,CW[es.size]? =some e->e.born=clock)/\∀(i:Nat) e,es[i]? =some e->∃e',CW[i]? =some e'/\e'.key=e.key/\e'.born=e.born
theorem sy{t kt vt:TypeId}(hm:P.underlying t=some (.map kt vt)){kl:List IntKind}{ka va:Bool}(h:Ex P kt kl ka){ks:List Int}(hk:ks.length=kl.length)
  {b:Nat} {zero:List Value} {has:Nat->Bool} {row:Nat->List Value} {S:Nat->Prop} (hp:(vB b kl ka va zero has row).p w S) (v:Value) (vc:List Value) (hv:v=xr va vc)
  {A_:Nat->Bool} {GF:Nat->List Value} (hh: ∀q,A_ q=if q=aT ks then true else has q) (hr: ∀q,GF q=if q=aT ks then vc else row q):
  ∃w',(Instr.mapUpdate t (.map (some b)) (eG ka kl ks) v).run P w= .ok () w'/\jm w w'/\w'.heap.size=w.heap.size/\(∀k,k≠b->w'.heap[k]? =w.heap[k]?)/\
   (vB b kl ka va zero A_ GF).p w' S/\∀es clock,w.heap[b]? =some (.map es clock)->∃CW sx,w'.heap[b]? =some (.map CW sx)/\(CW.size:Int)=es.size+(if has (aT ks)then 0 else 1)/\Grown es clock CW sx:=by
 obtain⟨hS,⟨es,clock,hb,zZ⟩,hzero⟩:=hp;have h1k:ka=false->∃k,kl=[k]:=λhk=>by obtain⟨k,h1,_⟩:=h.one hk;exact⟨k,h1⟩
 have GI:=fU (P:=P) (w:=w) false 9988 12 kt _ h.lay _ _ (qW hk) (h.val hk);have fL: ∀m:List Int,m.length=kl.length->m≠ks->aT m≠aT ks:=λm hm hn he=>hn (qs (hm.trans hk.symm) he)
 have Yu:b<w.heap.size:=(ax1.1 hb).1;have ZL: ∀m:List Int,m.length=kl.length->A_ (aT m)=false->GF (aT m)=zero:=by
  intro m hm hf;rw[hh]at hf;split at hf
  .cases hf
  .rename_i acG;rw[hr,if_neg acG];exact hzero m hm hf
 rcases kF (P:=P) (w:=w) h hk es.toList (λe he=>by obtain⟨m,h1,h2,_⟩:=zZ.keys e he;exact⟨m,h1,h2⟩)with⟨h1,h2⟩ | ⟨j,e,h1,h2,h3⟩
 .refine⟨{w with heap:=w.heap.setIfInBounds b (.map (es.push {key:=eG ka kl ks,val:=v,born:=clock}) (clock+1))},by simp only[Instr.mapUpdate,ax9,run_underlying hm,ax0,xM hb,GI,h1];exact EB _ hb,⟨rfl,rfl,rfl,by simp⟩,by simp,λk hk=>?_,⟨hS,⟨es.push {key:=eG ka kl ks,val:=v,born:=clock},clock+1,?_,?_⟩,ZL⟩,?_⟩
  .simp only[];rw[Array.getElem?_setIfInBounds_ne (Ne.symm hk)]
  .simp [Yu]
  .rw [Array.toList_push];refine⟨λe he=>?_,λi j e e' hi hj heq=>?_,λm hm P0=>?_⟩
   .rcases ax_.1 he with he | he
    .obtain⟨m,m1,m2,m3,m4⟩:=zZ.keys e he;have zK:m≠ks:=λh=>h2 e he (by rw[m2,h])
     exact⟨m,m1,m2,by rw[hh,if_neg (fL m m1 zK)];exact m3,by rw[hr,if_neg (fL m m1 zK)];exact m4⟩
    .simp only[ax2]at he;subst he;exact⟨ks,hk,rfl,by rw[hh,if_pos rfl],by rw[hr,if_pos rfl];exact hv⟩
   .rw [List.getElem?_append]at hi hj;split at hi<;>split at hj
    .exact zZ.once i j e e' hi hj heq
    .rename_i a1 a2;exfalso;have:e'={key:=eG ka kl ks,val:=v,born:=clock}:=by
      have:=ayh hj;simpa using this
     subst this;exact h2 e (ayh hi) heq
    .exfalso;have:e={key:=eG ka kl ks,val:=v,born:=clock}:=by
      have:=ayh hi;simpa using this
     subst this;exact h2 e' (ayh hj) heq.symm
    .have g1:=(axT.1 hi).1;have g2:=(axT.1 hj).1;simp only[ax5,aya]at g1 g2;omega
   .by_cases Jc:m=ks
    .subst Jc;exact⟨_,List.mem_append_right _ (ax2.2 rfl),rfl⟩
    .rw [hh,if_neg (fL m hm Jc)]at P0;obtain⟨e,he,EA⟩:=zZ.all m hm P0;exact⟨e,List.mem_append_left _ he,EA⟩
  .intro Ez adz h0;rw[hb]at h0;injection h0 with h0
   injection h0 with h0 h0c
   subst h0 h0c;have FY:has (aT ks)=false:=by
    cases hh:has (aT ks)with
    | false=>rfl
    | true=>
     obtain⟨e,he,EA⟩:=zZ.all ks hk hh;exact absurd EA (h2 e he)
   refine⟨es.push {key:=eG ka kl ks,val:=v,born:=clock},clock+1,by simp[Yu],by rw[FY];simp,.inr ⟨rfl,by simp,λe he=>?_⟩,λi e hi=>⟨e,?_,rfl,rfl⟩⟩
   .simp at he;subst he;rfl
   .have:=(ax1.1 hi).1;rw[Array.getElem?_push,if_neg (by omega)];exact hi
 .have hj:es[j]? =some e:=by rw[<-ayt];exact h2
  have rY:=PI (P:=P) (w:=w) e.key kl ka ks hk h1k h3;refine⟨{w with heap:=w.heap.setIfInBounds b (.map (es.modify j λe=>{e with key:=eG ka kl ks,val:=v}) clock)},by simp only[Instr.mapUpdate,ax9,run_underlying hm,ax0,xM hb,GI,h1,hj,Option.map_some,ayG,rY];exact EB _ hb,⟨rfl,rfl,rfl,by simp⟩,by simp,λk hk=>?_,⟨hS,⟨es.modify j λe=>{e with key:=eG ka kl ks,val:=v},clock,?_,?_⟩,ZL⟩,?_⟩
  .simp only[];rw[Array.getElem?_setIfInBounds_ne (Ne.symm hk)]
  .simp [Yu]
  .have sA: ∀(i:Nat),(es.modify j λe=>{e with key:=eG ka kl ks,val:=v}).toList[i]? =if j=i then(es.toList[i]?).map (λe=>{e with key:=eG ka kl ks,val:=v})else es.toList[i]? :=by
    intro i;rw[ayt,Array.getElem?_modify,ayt]
   have CX: ∀(i:Nat) e0,(es.modify j λe=>{e with key:=eG ka kl ks,val:=v}).toList[i]? =some e0->∃e1,es.toList[i]? =some e1/\e0.key=e1.key/\(i≠j->e0=e1)/\(i=j->e0.val=v):=by
    intro i e0 hi;rw[sA]at hi;split at hi
    .rename_i oJ;subst oJ;rw[h2,Option.map_some,axU]at hi;subst hi;exact⟨e,h2,h3.symm,λh=>absurd rfl h,λ_=>rfl⟩
    .rename_i oJ;exact⟨e0,hi,rfl,λ_=>rfl,λh=>absurd h.symm oJ⟩
   refine⟨λe0 he0=>?_,λi i' e0 e0' hi cj heq=>?_,λm hm P0=>?_⟩
   .obtain⟨i,hi⟩:=List.getElem?_of_mem he0;obtain⟨e1,g1,g2,g3,g4⟩:=CX i e0 hi;by_cases oJ:i=j
    .subst oJ;rw[h2,axU]at g1;subst g1;exact⟨ks,hk,by rw[g2,h3],by rw[hh,if_pos rfl],by rw[hr,if_pos rfl,g4 rfl];exact hv⟩
    .have:=g3 oJ;subst this;obtain⟨m,m1,m2,m3,m4⟩:=zZ.keys e0 (ayh g1);have zK:m≠ks:=λh=>oJ (zZ.once i j e0 e g1 h2 (by rw[m2,h3,h]))
     exact⟨m,m1,m2,by rw[hh,if_neg (fL m m1 zK)];exact m3,by rw[hr,if_neg (fL m m1 zK)];exact m4⟩
   .obtain⟨e1,g1,g2,_⟩:=CX i e0 hi;obtain⟨e1',g1',g2',_⟩:=CX i' e0' cj;exact zZ.once i i' e1 e1' g1 g1' (by rw[<-g2,<-g2',heq])
   .have: ∃e1∈es.toList,e1.key=eG ka kl m:=by
     by_cases Jc:m=ks
     .subst Jc;exact⟨e,ayh h2,h3⟩
     .rw [hh,if_neg (fL m hm Jc)]at P0;exact zZ.all m hm P0
    obtain⟨e1,JI,EA⟩:=this;obtain⟨i,hi⟩:=List.getElem?_of_mem JI;have:=sA i;by_cases oJ:j=i
    .rw [if_pos oJ,hi,Option.map_some]at this;refine⟨_,ayh this,?_⟩;subst oJ;rw[h2,axU]at hi;subst hi;rw[<-EA,h3]
    .rw [if_neg oJ,hi]at this;exact⟨e1,ayh this,EA⟩
  .intro Ez adz h0;rw[hb]at h0;injection h0 with h0
   injection h0 with h0 h0c
   subst h0 h0c;obtain⟨m,m1,m2,m3,_⟩:=zZ.keys e (ayh h2);have:m=ks:=h.inj m1 hk (m2.symm.trans h3);subst this;refine⟨es.modify j λe=>{e with key:=eG ka kl m,val:=v},clock,by simp[Yu],by rw[m3];simp,.inl ⟨rfl,by simp⟩,λi e1 hi=>?_⟩;rw[Array.getElem?_modify,hi];by_cases oJ:j=i
   .subst oJ;rw[hj,axU]at hi;subst hi;exact⟨{e with key:=eG ka kl m,val:=v},by rw[if_pos rfl];rfl,h3.symm,rfl⟩
   .exact⟨e1,by rw[if_neg oJ],rfl,rfl⟩
end
end Go.RX
