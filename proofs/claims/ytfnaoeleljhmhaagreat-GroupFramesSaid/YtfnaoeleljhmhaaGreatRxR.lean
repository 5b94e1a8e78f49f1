/- A reflective symbolic executor, part 18: patterns. -/
import Derived.Test.YtfnaoeleljhmhaaGreatRxQ

namespace Go.RX
def Hold(ρ ρ':Env)(l:List Eq2):Prop:= ∀x∈l,x.holds ρ ρ'
section
variable {ρ ρ':Env}
theorem Eqs_iff(l:List Eq2)(q:Prop):Eqs ρ ρ' l q↔Hold ρ ρ' l∧q:=by
 induction l with
 | nil=>simp [Eqs,Hold]
 | cons x r ih=>
  simp only [Eqs,ih,Hold,List.mem_cons,forall_eq_or_imp,and_assoc]
theorem Hold.app{a b:List Eq2}(h:Hold ρ ρ' (a++b)):Hold ρ ρ' a∧Hold ρ ρ' b:=
 ⟨fun x hx=>h x (List.mem_append_left _ hx),fun x hx=>h x (List.mem_append_right _ hx)⟩
theorem trivial_holds{c:Cnt}(h:Agree c ρ ρ'){x:Eq2}(ht:x.trivial c=true):x.holds ρ ρ':=by
 cases x<;>simp only [Eq2.trivial,Bool.and_eq_true,beq_iff_eq,Nat.blt_eq]at ht<;>simp only [Eq2.holds]
 case e x y=>obtain⟨rfl,hs⟩:=ht;rw [E.sc_den h hs]
 case a n x y=>obtain⟨⟨rfl,hs⟩,_⟩:=ht;intro j _;rw [E.sc_den h hs]
 case b x y=>obtain⟨rfl,hs⟩:=ht;rw [BE.sc_den h hs]
 case af x y=>obtain⟨rfl,hs⟩:=ht;exact E.sc_den h hs
 case v i j=>obtain⟨rfl,hs⟩:=ht;exact h.v _ hs
 case p i j=>obtain⟨rfl,hs⟩:=ht;exact h.p _ hs
 case bl i j=>obtain⟨rfl,hs⟩:=ht;exact h.b _ hs
 case rc i j=>obtain⟨rfl,hs⟩:=ht;exact h.r _ hs
theorem Hold.all{c:Cnt}(h:Agree c ρ ρ'){l:List Eq2}(hl:Hold ρ ρ' (l.filter fun q=> !q.trivial c)):Hold ρ ρ' l:=by
 intro x hx;by_cases ht:x.trivial c=true
 ·exact trivial_holds h ht
 ·exact hl x (List.mem_filter.2 ⟨hx,by simpa using ht⟩)
theorem unifyCuts_sound(s:Nat): ∀{x y:List Cut} {l:List Eq2} (v:Value),unifyCuts x y=some l→Hold ρ ρ' l→subSlices ρ s v x=subSlices ρ' s v y
 | [],[],_,_,_,_=>rfl
 | [],_::_,l,_,h,hl=>by simp [unifyCuts]at h
 | _::_,[],l,_,h,hl=>by simp [unifyCuts]at h
 | a::r,b::r',l,v,h,hl=>by
  unfold unifyCuts at h;split at h
  ·rename_i x h1 h2 h3;cases h;have e1:=hl _ (List.mem_cons_self);have e2:=hl _ (List.mem_cons_of_mem _ (List.mem_cons_self));simp only [Eq2.holds]at e1 e2;simp only [subSlices,e1,e2,h1,h2,Option.map_none];exact unifyCuts_sound s _ h3 fun q hq=>hl q (List.mem_cons_of_mem _ (List.mem_cons_of_mem _ hq))
  ·rename_i m m' x h1 h2 h3;cases h;have e1:=hl _ (List.mem_cons_self);have e2:=hl _ (List.mem_cons_of_mem _ (List.mem_cons_self));have e3:=hl _ (List.mem_cons_of_mem _ (List.mem_cons_of_mem _ (List.mem_cons_self)));simp only [Eq2.holds]at e1 e2 e3;simp only [subSlices,e1,e2,e3,h1,h2,Option.map_some];exact unifyCuts_sound s _ h3 fun q hq=>hl q (List.mem_cons_of_mem _ (List.mem_cons_of_mem _ (List.mem_cons_of_mem _ hq)))
  ·cases h
mutual
theorem unifySV_sound: ∀{x y:SV} {l:List Eq2},unifySV x y=some l→Hold ρ ρ' l→x.val ρ=y.val ρ'∧x.cells ρ=y.cells ρ'
 | x,y,l,h,hl=>by
  unfold unifySV at h;split at h
  ·split at h
   ·rename_i hk;subst hk;cases h;have:=hl _ List.mem_cons_self;simp only [Eq2.holds]at this;simp only [SV.val,SV.cells,this,and_self]
   ·cases h
  ·cases h;have:=hl _ List.mem_cons_self;simp only [Eq2.holds]at this;simp only [SV.val,SV.cells,this,and_self]
  ·exact⟨rfl,rfl⟩
  ·exact⟨rfl,rfl⟩
  ·exact⟨rfl,rfl⟩
  ·exact⟨rfl,rfl⟩
  ·exact⟨rfl,rfl⟩
  ·exact⟨rfl,rfl⟩
  ·split at h
   ·rename_i hk;subst hk;cases h;have:=hl _ List.mem_cons_self;simp only [Eq2.holds]at this;simp only [SV.val,SV.cells,this,and_self]
   ·cases h
  ·split at h
   ·rename_i hk;obtain⟨rfl,rfl⟩:=hk;cases h;have:=hl _ List.mem_cons_self;simp only [Eq2.holds]at this;simp only [SV.val,SV.cells,this,and_self]
   ·cases h
  ·split at h
   ·rename_i hk;obtain⟨rfl,rfl⟩:=hk;cases h;have h1:=hl _ (List.mem_cons_self);have h2:=hl _ (List.mem_cons_of_mem _ (List.mem_cons_self));simp only [Eq2.holds]at h1 h2;simp only [SV.val,SV.cells,h1,h2,and_self]
   ·cases h
  ·split at h
   ·rename_i hk;obtain⟨rfl,rfl⟩:=hk;cases h;have h1:=hl _ (List.mem_cons_self);have h2:=hl _ (List.mem_cons_of_mem _ (List.mem_cons_self));simp only [Eq2.holds]at h1 h2;simp only [SV.val,SV.cells,h1,h2,and_self]
   ·cases h
  ·split at h
   ·rename_i hk;subst hk;cases h;have h1:=hl _ (List.mem_cons_self);have h2:=hl _ (List.mem_cons_of_mem _ (List.mem_cons_self));have h3:=hl _ (List.mem_cons_of_mem _ (List.mem_cons_of_mem _ (List.mem_cons_self)));have h4:=hl _ (List.mem_cons_of_mem _ (List.mem_cons_of_mem _ (List.mem_cons_of_mem _ (List.mem_cons_self))));simp only [Eq2.holds]at h1 h2 h3 h4;simp only [SV.val,SV.cells,h1,h2,h3,h4,and_self]
   ·cases h
  ·cases h;have:=hl _ List.mem_cons_self;simp only [Eq2.holds]at this;simp only [SV.val,SV.cells,this,and_self]
  ·split at h
   ·rename_i hk;subst hk;exact⟨rfl,rfl⟩
   ·cases h
  ·cases h;have:=hl _ List.mem_cons_self;simp only [Eq2.holds]at this;simp only [SV.val,SV.cells,this,and_self]
  ·cases h;have h1:=hl _ List.mem_cons_self;have h2:=hl _ (List.mem_cons_of_mem _ List.mem_cons_self);simp only [Eq2.holds]at h1 h2;simp only [SV.val,SV.cells,h1,h2,and_self]
  ·split at h
   ·rename_i hk;obtain⟨rfl,rfl⟩:=hk;cases h;have:=hl _ List.mem_cons_self;simp only [Eq2.holds]at this;simp only [SV.val,SV.cells,this,and_self]
   ·cases h
  ·cases h;have:=hl _ List.mem_cons_self;simp only [Eq2.holds,rowB_den]at this;simp only [SV.val,SV.cells,this,strD_rowS,and_self]
  ·split at h
   ·rename_i hk;subst hk;have:=unifySVs_sound h hl;simp only [SV.val,SV.cells,this.1,and_self]
   ·cases h
  ·split at h
   ·rename_i hk;subst hk;have:=unifySVs_sound h hl;simp only [SV.val,SV.cells,this.1,and_self]
   ·cases h
  ·have:=unifySVs_sound h hl;simp only [SV.val,SV.cells,this.2,and_self]
  ·split at h
   ·rename_i hk;obtain⟨rfl,rfl⟩:=hk;cases h;rename_i k n a b;have:=hl _ List.mem_cons_self;simp only [Eq2.holds,E.den,Int.toNat_natCast]at this;have e:segCells k n (a.den ρ)=segCells k n (b.den ρ'):=segCells_congr k n this;simp only [SV.val,SV.cells,e,and_self]
   ·cases h
  ·have:=unifySVs_sound h hl;simp only [SV.val,SV.cells,this.1,and_self]
  ·rw [Option.map_eq_some_iff]at h;obtain⟨z,hz,rfl⟩:=h;have h1:=hl _ List.mem_cons_self;have h2:=unifySV_sound hz fun x hx=>hl x (List.mem_cons_of_mem _ hx)
   simp only [Eq2.holds]at h1;simp only [SV.val,SV.cells,h1,h2.1,and_self]
  ·cases h;have:=hl _ List.mem_cons_self;simp only [Eq2.holds]at this;simp only [SV.val,SV.cells,this,and_self]
  ·cases h;have:=hl _ List.mem_cons_self;simp only [Eq2.holds]at this;simp only [SV.val,SV.cells,this,and_self]
  ·cases h;have:=hl _ List.mem_cons_self;simp only [Eq2.holds]at this;simp only [SV.val,SV.cells,this,and_self]
  ·split at h
   ·rename_i hk;subst hk;cases h;have:=hl _ List.mem_cons_self;simp only [Eq2.holds,E.den]at this;simp only [SV.val,SV.cells,this,ptrV_blk,and_self]
   ·cases h
  ·cases h;have:=hl _ List.mem_cons_self;simp only [Eq2.holds,E.den]at this;simp only [SV.val,SV.cells,this,ptrV,if_true,and_self]
  ·split at h
   ·rename_i hk;subst hk;cases h;have:=hl _ List.mem_cons_self;simp only [Eq2.holds,E.den]at this;simp only [SV.val,SV.cells,←this,ptrV_blk,and_self]
   ·cases h
  ·cases h;have:=hl _ List.mem_cons_self;simp only [Eq2.holds]at this;simp only [SV.val,SV.cells,this,and_self]
  ·cases h;have:=hl _ List.mem_cons_self;simp only [Eq2.holds,E.den]at this;simp only [SV.val,SV.cells,this,bslV,if_true,and_self]
  ·split at h
   ·rename_i hk;subst hk;rw [Option.map_eq_some_iff]at h;obtain⟨z,hz,rfl⟩:=h;have h1:=hl _ (List.mem_cons_self);simp only [Eq2.holds]at h1;simp only [SV.val,SV.cells,h1,unifyCuts_sound _ _ hz fun q hq=>hl q (List.mem_cons_of_mem _ hq),and_self]
   ·cases h
  ·cases h
theorem unifySVs_sound: ∀{x y:List SV} {l:List Eq2},unifySVs x y=some l→Hold ρ ρ' l→SV.vals ρ x=SV.vals ρ' y∧SV.cellsL ρ x=SV.cellsL ρ' y
 | [],[],l,h,hl=>⟨rfl,rfl⟩
 | [],_::_,l,h,hl=>by simp [unifySVs]at h
 | _::_,[],l,h,hl=>by simp [unifySVs]at h
 | a::r,b::r',l,h,hl=>by
  unfold unifySVs at h;split at h
  ·rename_i p q hp hq;cases h;obtain⟨h1,h2⟩:=hl.app;have e1:=unifySV_sound hp h1;have e2:=unifySVs_sound hq h2;simp only [SV.vals,SV.cellsL,e1.1,e1.2,e2.1,e2.2,and_self]
  ·cases h
end
theorem unifyFr_sound: ∀{pat act:List (Nat×SV)} {l:List Eq2},unifyFr pat act=some l→Hold ρ ρ' l→
  ∀s v,look pat s=some v→∃v',look act s=some v'∧v.val ρ=v'.val ρ'
 | [],act,l,h,hl,s,v,hs=>by simp [look]at hs
 | (t,x)::r,act,l,h,hl,s,v,hs=>by
  unfold unifyFr at h;split at h
  ·rename_i v' y hv' hy;rw [Option.map_eq_some_iff]at h;obtain⟨z,hz,rfl⟩:=h;obtain⟨h1,h2⟩:=hl.app;unfold look at hs;split at hs
   ·rename_i hts;rw [beq_iff_eq]at hts;subst hts;cases hs;exact⟨v',hv',(unifySV_sound hz h1).1⟩
   ·exact unifyFr_sound hy h2 s v hs
  ·cases h
theorem unifyCols_sound(hva:ρ.va=ρ'.va)(N:Nat){n:E}(hn:(n.den ρ 0).toNat=N): ∀{pat act:List Col} {l:List Eq2},unifyCols n pat act=some l→Hold ρ ρ' l→
  ∀i,i<N→((pat.map (Col.cells ρ)).flatMap fun c=>c i)=(act.map (Col.cells ρ')).flatMap fun c=>c i
 | [],[],l,h,hl,i,hi=>rfl
 | [],_::_,l,h,hl,i,hi=>by simp [unifyCols]at h
 | _::_,[],l,h,hl,i,hi=>by simp [unifyCols]at h
 | a::r,b::r',l,h,hl,i,hi=>by
  unfold unifyCols at h;split at h
  ·rename_i ls ls' ha hb;split at h
   case isFalse=>cases h
   rename_i hk;rw [Option.map_eq_some_iff]at h;obtain⟨z,hz,rfl⟩:=h;have ih:=unifyCols_sound hva N hn hz (fun x hx=>hl x (List.mem_append_right _ hx)) i hi;simp only [List.map_cons,List.flatMap_cons,ih];congr 1;obtain⟨ck,cw,ca⟩:=a;obtain⟨ck',cw',ca'⟩:=b;obtain⟨e1,e2⟩:=hk;simp only at ha hb e2;subst ha hb e2;simp only [Col.cells,colV];refine List.map_congr_left fun j _=>?_
   generalize i*cw+j=m;by_cases hm:m<ls.length
   ·rw [List.getElem?_eq_getElem hm,List.getElem?_eq_getElem (show m<ls'.length by omega)];have:=hl (.v ls[m] ls'[m]) (List.mem_append_left _ (List.mem_map.2 ⟨(ls[m],ls'[m]),by
     rw [List.mem_iff_getElem?];exact⟨m,by rw [List.getElem?_zip_eq_some];exact⟨List.getElem?_eq_getElem hm,List.getElem?_eq_getElem (by omega)⟩⟩,rfl⟩))
    simp only [Eq2.holds]at this;simp only [Option.elim,this]
   ·rw [List.getElem?_eq_none (by omega),List.getElem?_eq_none (by omega)];rfl
  ·cases h
  rename_i hpt hvls;split at h
  ·rename_i hk;rw [Option.map_eq_some_iff]at h;obtain⟨z,hz,rfl⟩:=h;have ih:=unifyCols_sound hva N hn hz (fun x hx=>hl x (List.mem_cons_of_mem _ hx)) i hi;have h1:=hl _ List.mem_cons_self;simp only [List.map_cons,List.flatMap_cons,ih];congr 1;obtain⟨ck,cw,ca⟩:=a;obtain⟨ck',cw',ca'⟩:=b;obtain⟨e1,e2⟩:=hk;simp only at e1 e2 h1;subst e1 e2;by_cases hstr:ck= .str
   ·subst hstr;simp only [if_true,Eq2.holds]at h1;simp only [Col.cells];rw [show ca.den ρ=ca'.den ρ' from h1]
   rw [if_neg hstr]at h1;simp only [Eq2.holds,eMul_den,E.den]at h1;have hb: ∀j,j<cw→ca.den ρ (i*cw+j)=ca'.den ρ' (i*cw+j):=by
    intro j hj;refine h1 _ ?_;rw [toNat_mul,hn];have:i*cw+cw≤N*cw:=by
     have:=Nat.mul_le_mul_right cw (show i+1≤N by omega)
     rwa [Nat.add_mul,Nat.one_mul]at this
    omega
   cases ck with
   | int k=>exact segCells_congr k cw hb
   | bool=>
    unfold Col.cells colB;exact List.map_congr_left fun j hj=>by rw [hb j (List.mem_range.1 hj)]
   | val v=>simp only [Col.cells,hva]
   | ptr=>
    unfold Col.cells colP;exact List.map_congr_left fun j hj=>by rw [hb j (List.mem_range.1 hj)]
   | nils=>rfl
   | str=>exact absurd rfl hstr
   | cv=>
    simp only [Col.cells,colV];exact List.map_congr_left fun j hj=>by rw [hb j (List.mem_range.1 hj)]
   | sv=>
    simp only [Col.cells,colV];exact List.map_congr_left fun j hj=>by rw [hb j (List.mem_range.1 hj)]
   | ix v=>
    simp only [Col.cells,colV,hva];exact List.map_congr_left fun j hj=>by rw [hb j (List.mem_range.1 hj)]
   | vls l=>exact absurd rfl (hvls l l rfl)
   | pt q v=>exact absurd rfl (hpt q v)
  ·split at h
   ·rename_i hk;rw [Option.map_eq_some_iff]at h;obtain⟨z,hz,rfl⟩:=h;have ih:=unifyCols_sound hva N hn hz (fun x hx=>hl x (List.mem_cons_of_mem _ hx)) i hi;have h1:=hl _ List.mem_cons_self;simp only [List.map_cons,List.flatMap_cons,ih];congr 1;obtain⟨ck,cw,ca⟩:=a;obtain⟨ck',cw',ca'⟩:=b;obtain⟨e0,e1,e2⟩:=hk;simp only at e0 e1 e2 h1;subst e0 e1 e2;simp only [Eq2.holds,eMul_den,E.den]at h1;simp only [Col.cells,colV];refine List.map_congr_left fun j hj=>?_
    rw [h1 _ ?_,bslV_nil];have hj':=List.mem_range.1 hj;rw [toNat_mul,hn];have:i*cw+cw≤N*cw:=by
     have:=Nat.mul_le_mul_right cw (show i+1≤N by omega)
     rwa [Nat.add_mul,Nat.one_mul]at this
    omega
   ·cases h
theorem unifyColsF_sound(hva:ρ.va=ρ'.va): ∀{pat act:List Col} {l:List Eq2},unifyColsF pat act=some l→Hold ρ ρ' l→pat.map (Col.cells ρ)=act.map (Col.cells ρ')
 | [],[],l,h,hl=>rfl
 | [],_::_,l,h,hl=>by simp [unifyColsF]at h
 | _::_,[],l,h,hl=>by simp [unifyColsF]at h
 | a::r,b::r',l,h,hl=>by
  unfold unifyColsF at h;split at h
  ·cases h
  ·rename_i q v q' u hck hck';split at h
   ·rename_i hw;rw [Option.map_eq_some_iff]at h;obtain⟨z,hz,rfl⟩:=h;have ih:=unifyColsF_sound hva hz (fun x hx=>hl x (List.mem_cons_of_mem _ (List.mem_cons_of_mem _ (List.mem_cons_of_mem _ hx))));have h1:=hl _ List.mem_cons_self;have h2:=hl _ (List.mem_cons_of_mem _ List.mem_cons_self);have h3:=hl _ (List.mem_cons_of_mem _ (List.mem_cons_of_mem _ List.mem_cons_self));simp only [Eq2.holds]at h1 h2 h3;rw [List.map_cons,List.map_cons,ih];congr 1;obtain⟨ck,cw,ca⟩:=a;obtain⟨ck',cw',ca'⟩:=b;simp only at hck hck' hw h3;subst hck hck' hw;funext i;simp only [Col.cells];rw [show ca.den ρ=ca'.den ρ' from h3,h1,h2]
   ·cases h
  ·cases h
  rename_i hvls hpt0 hpt;split at h
  ·rename_i hk;rw [Option.map_eq_some_iff]at h;obtain⟨z,hz,rfl⟩:=h;have ih:=unifyColsF_sound hva hz (fun x hx=>hl x (List.mem_cons_of_mem _ hx));have h1:=hl _ List.mem_cons_self;simp only [Eq2.holds]at h1;rw [List.map_cons,List.map_cons,ih];congr 1;obtain⟨ck,cw,ca⟩:=a;obtain⟨ck',cw',ca'⟩:=b;obtain⟨e1,e2⟩:=hk;simp only at e1 e2 h1;subst e1 e2;funext i;cases ck with
   | int k=>simp only [Col.cells];rw [show ca.den ρ=ca'.den ρ' from h1]
   | bool=>simp only [Col.cells];rw [show ca.den ρ=ca'.den ρ' from h1]
   | val v=>simp only [Col.cells,hva]
   | ptr=>simp only [Col.cells];rw [show ca.den ρ=ca'.den ρ' from h1]
   | nils=>rfl
   | str=>simp only [Col.cells];rw [show ca.den ρ=ca'.den ρ' from h1]
   | cv=>simp only [Col.cells];rw [show ca.den ρ=ca'.den ρ' from h1]
   | sv=>simp only [Col.cells];rw [show ca.den ρ=ca'.den ρ' from h1]
   | ix v=>simp only [Col.cells,hva];rw [show ca.den ρ=ca'.den ρ' from h1]
   | vls l=>exact(hvls l rfl).elim
   | pt q v=>first | exact(hpt q v rfl).elim | exact(hpt0 q v rfl).elim | exact(hpt q v q v rfl rfl).elim | exact(hpt0 q v q v rfl rfl).elim
  ·cases h
theorem fitRow_cells: ∀(f:Nat) (p act:List SV),SV.cellsL ρ (fitRow f p act)=SV.cellsL ρ act
 | 0,_,_=>rfl
 | f+1,p,act=>by
  unfold fitRow;split
  ·rfl
  ·rename_i k e p f' k' m a r h;cases h;simp only [SV.cellsL,SV.cells];rw [fitRow_cells f];split
   ·rename_i hm;subst hm;simp [segCells,eSel_den,E.den]
   ·simp only [SV.cellsL,SV.cells];have:segCells k' (m+1) (a.den ρ)=[.int k' (a.den ρ 0)]++segCells k' m ((eShift a (.lit 1)).den ρ):=by
     unfold segCells;rw [List.range_succ_eq_map,List.map_cons,List.map_map];simp only [List.singleton_append,List.cons.injEq,true_and];apply List.map_congr_left;intro j _;simp [Function.comp,eShift_den,E.den,Nat.add_comm]
    rw [this,eSel_den];simp [E.den]
  ·rename_i k n e p f' x r h;cases h;split
   ·simp only [SV.cellsL,fitRow_cells f]
   ·split
    ·rename_i c d hc hd;split
     ·rename_i kl e' hrow;split
      ·rename_i hkl;have h1:=(rowCut_cells (ρ:=ρ) hc).1;have h2:=rowDrop_cells (ρ:=ρ) _ _ _ hd;have h3:=rowOf_spec (ρ:=ρ) hrow;rw [hkl,List.length_replicate,mkI_rep]at h3;rw [h3,List.drop_zero]at h1;rw [SV.cellsL,SV.cells,fitRow_cells f,h1,h2,List.take_append_drop]
      ·rfl
     ·rfl
    ·rfl
  ·rename_i h;cases h;simp only [SV.cellsL,fitRow_cells f]
  ·rfl
theorem unifyEs_sound{z z':List SV}(hz:SV.cellsL ρ z=SV.cellsL ρ' z'): ∀{es es':List (Nat×List SV)} {l:List Eq2},unifyEs es es'=some l→Hold ρ ρ' l→
  ((fun i=>hasL es i)=fun i=>hasL es' i)∧(fun i=>SV.cellsL ρ (rowL es z i))=fun i=>SV.cellsL ρ' (rowL es' z' i)
 | [],[],_,_,_=>⟨rfl,funext fun _=>hz⟩
 | [],_::_,_,h,_=>by simp [unifyEs]at h
 | _::_,[],_,h,_=>by simp [unifyEs]at h
 | (i,v)::r,(j,u)::r',l,h,hl=>by
  simp only [unifyEs]at h;split at h
  ·rename_i hij;subst hij;split at h
   ·rename_i x y hx hy;cases h;obtain⟨h4,h5⟩:=hl.app;obtain⟨e1,e2⟩:=unifyEs_sound hz hy h5;have e3:=(unifySVs_sound hx h4).2;refine⟨funext fun k=>?_,funext fun k=>?_⟩
    ·simp only [hasL];rw [show hasL r k=hasL r' k from congrFun e1 k]
    ·simp only [rowL];split
     ·exact e3
     ·exact congrFun e2 k
   ·cases h
  ·cases h
theorem unifyCk_sound(hva:ρ.va=ρ'.va){x y:Ck}{l:List Eq2}(h:unifyCk x y=some l)(hl:Hold ρ ρ' l):x.den ρ=y.den ρ':=by
 unfold unifyCk at h;split at h
 ·rfl
 ·split at h
  ·rename_i hk;subst hk;rw [Option.map_eq_some_iff]at h;obtain⟨z,hz,rfl⟩:=h;have h1:=hl _ List.mem_cons_self;simp only [Eq2.holds]at h1;simp only [Ck.den,h1,(unifySVs_sound hz fun x hx=>hl x (List.mem_cons_of_mem _ hx)).2,fitRow_cells]
  ·cases h
 ·split at h
  ·rename_i hk;obtain⟨rfl,rfl,rfl⟩:=hk;rw [Option.map_eq_some_iff]at h;obtain⟨z,hz,rfl⟩:=h;have h1:=hl _ List.mem_cons_self;have h2:=hl _ (List.mem_cons_of_mem _ List.mem_cons_self);simp only [Eq2.holds]at h1 h2;have h3:=unifyCols_sound hva _ rfl hz fun x hx=>hl x (List.mem_cons_of_mem _ (List.mem_cons_of_mem _ hx))
   simp only [Ck.den,h1,h2];congr 1;unfold tabCells tabL;rw [List.flatMap_def,List.flatMap_def];congr 1;refine List.map_congr_left fun i hi=>h3 i ?_
   rw [h2];exact List.mem_range.1 hi
  ·cases h
 ·cases h;have:=hl _ List.mem_cons_self;exact this
 ·split at h
  ·rename_i hk;obtain⟨rfl,rfl⟩:=hk;cases h;have h1:=hl _ List.mem_cons_self;have h2:=hl _ (List.mem_cons_of_mem _ List.mem_cons_self);simp only [Eq2.holds]at h1 h2;simp only [Ck.den,h1,h2]
  ·cases h
 ·cases h;have:=hl _ List.mem_cons_self;simp only [Eq2.holds]at this;simp only [Ck.den,this]
 ·cases h;have:=hl _ List.mem_cons_self;simp only [Eq2.holds]at this;simp only [Ck.den,this]
 ·split at h
  ·rename_i hk;obtain⟨rfl,rfl,rfl⟩:=hk;split at h
   ·rename_i x y hx hy;cases h;have h1:=hl _ List.mem_cons_self;have h2:=hl _ (List.mem_cons_of_mem _ List.mem_cons_self);simp only [Eq2.holds]at h1 h2;have h3:Hold ρ ρ' (x++y):=fun q hq=>hl q (List.mem_cons_of_mem _ (List.mem_cons_of_mem _ hq))
    obtain⟨h4,h5⟩:=h3.app;simp only [Ck.den,h1,h2,(unifySVs_sound hx h4).2,unifyColsF_sound hva hy h5]
   ·cases h
  ·cases h
 ·split at h
  ·rename_i hk;obtain⟨rfl,rfl,rfl⟩:=hk;split at h
   ·rename_i x y hx hy;cases h;have h1:=hl _ List.mem_cons_self;simp only [Eq2.holds]at h1;have h3:Hold ρ ρ' (x++y):=fun q hq=>hl q (List.mem_cons_of_mem _ hq)
    obtain⟨h4,h5⟩:=h3.app;obtain⟨e1,e2⟩:=unifyEs_sound (unifySVs_sound hx h4).2 hy h5;rw [Ck.den_mapl,Ck.den_mapl,h1,(unifySVs_sound hx h4).2,e1,e2]
   ·cases h
  ·cases h
 ·split at h
  ·rename_i hk;obtain⟨rfl,rfl⟩:=hk;cases h;have h1:=hl _ List.mem_cons_self;have h2:=hl _ (List.mem_cons_of_mem _ List.mem_cons_self);have h3:=hl _ (List.mem_cons_of_mem _ (List.mem_cons_of_mem _ List.mem_cons_self));simp only [Eq2.holds]at h1 h2 h3;simp only [Ck.den,h1];congr 1;rw [←h2];exact segCells_congr _ _ h3
  ·cases h
 ·split at h
  ·rename_i hk;obtain⟨rfl,rfl⟩:=hk;cases h;have h1:=hl _ List.mem_cons_self;simp only [Eq2.holds]at h1;simp only [Ck.den,h1]
  ·cases h
 ·cases h;have h1:=hl _ List.mem_cons_self;have h2:=hl _ (List.mem_cons_of_mem _ List.mem_cons_self);simp only [Eq2.holds]at h1 h2;simp only [Ck.den,h1,h2]
 ·cases h
theorem unifyHp_sound(hva:ρ.va=ρ'.va): ∀{pat act:List Ck} {l:List Eq2},unifyHp pat act=some l→Hold ρ ρ' l→
  ∃more,act.map (Ck.den ρ')=pat.map (Ck.den ρ)++more
 | [],act,l,h,hl=>⟨_,rfl⟩
 | a::r,[],l,h,hl=>by simp [unifyHp]at h
 | a::r,b::r',l,h,hl=>by
  unfold unifyHp at h;split at h
  ·rename_i p q hp hq;cases h;obtain⟨h1,h2⟩:=hl.app;obtain⟨m,hm⟩:=unifyHp_sound hva hq h2;exact⟨m,by simp only [List.map_cons,List.cons_append,hm,unifyCk_sound hva hp h1]⟩
  ·cases h
end
end Go.RX
