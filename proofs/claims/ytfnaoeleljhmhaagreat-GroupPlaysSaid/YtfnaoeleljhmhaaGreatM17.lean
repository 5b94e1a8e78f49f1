/- A reflective symbolic executor, part 18: patterns. · A reflective symbolic executor, part 19: ownership, step by step. -/
import Derived.Test.YtfnaoeleljhmhaaGreatRxQ

namespace Go.RX
def Hold(ρ ρ':Env)(l:List Eq2):Prop:= ∀x∈l,x.holds ρ ρ'
section
variable {ρ ρ':Env}
theorem Eqs_iff(l:List Eq2)(q:Prop):Eqs ρ ρ' l q↔Hold ρ ρ' l∧q:=by
 induction l with
 | nil=>simp [Eqs,Hold]
 | cons x r ih=>
  simp only [Eqs,ih,Hold,List.mem_cons,forall_eq_or_imp,and_assoc]
theorem Hold.app{a b:List Eq2}(h:Hold ρ ρ' (a++b)):Hold ρ ρ' a∧Hold ρ ρ' b:=
 ⟨fun x hx=>h x (List.mem_append_left _ hx),fun x hx=>h x (List.mem_append_right _ hx)⟩
theorem trivial_holds{c:Cnt}(h:Agree c ρ ρ'){x:Eq2}(ht:x.trivial c=true):x.holds ρ ρ':=by
 cases x<;>simp only [Eq2.trivial,Bool.and_eq_true,beq_iff_eq,Nat.blt_eq]at ht<;>simp only [Eq2.holds]
 case e x y=>obtain⟨rfl,hs⟩:=ht;rw [E.sc_den h hs]
 case a n x y=>obtain⟨⟨rfl,hs⟩,_⟩:=ht;intro j _;rw [E.sc_den h hs]
 case b x y=>obtain⟨rfl,hs⟩:=ht;rw [BE.sc_den h hs]
 case af x y=>obtain⟨rfl,hs⟩:=ht;exact E.sc_den h hs
 case v i j=>obtain⟨rfl,hs⟩:=ht;exact h.v _ hs
 case p i j=>obtain⟨rfl,hs⟩:=ht;exact h.p _ hs
 case bl i j=>obtain⟨rfl,hs⟩:=ht;exact h.b _ hs
 case rc i j=>obtain⟨rfl,hs⟩:=ht;exact h.r _ hs
theorem Hold.all{c:Cnt}(h:Agree c ρ ρ'){l:List Eq2}(hl:Hold ρ ρ' (l.filter fun q=> !q.trivial c)):Hold ρ ρ' l:=by
 intro x hx;by_cases ht:x.trivial c=true
 ·exact trivial_holds h ht
 ·exact hl x (List.mem_filter.2 ⟨hx,by simpa using ht⟩)
theorem unifyCuts_sound(s:Nat): ∀{x y:List Cut} {l:List Eq2} (v:Value),unifyCuts x y=some l→Hold ρ ρ' l→subSlices ρ s v x=subSlices ρ' s v y
 | [],[],_,_,_,_=>rfl
 | [],_::_,l,_,h,hl=>by simp [unifyCuts]at h
 | _::_,[],l,_,h,hl=>by simp [unifyCuts]at h
 | a::r,b::r',l,v,h,hl=>by
  unfold unifyCuts at h;split at h
  ·rename_i x h1 h2 h3;cases h;have e1:=hl _ (List.mem_cons_self);have e2:=hl _ (List.mem_cons_of_mem _ (List.mem_cons_self));simp only [Eq2.holds]at e1 e2;simp only [subSlices,e1,e2,h1,h2,Option.map_none];exact unifyCuts_sound s _ h3 fun q hq=>hl q (List.mem_cons_of_mem _ (List.mem_cons_of_mem _ hq))
  ·rename_i m m' x h1 h2 h3;cases h;have e1:=hl _ (List.mem_cons_self);have e2:=hl _ (List.mem_cons_of_mem _ (List.mem_cons_self));have e3:=hl _ (List.mem_cons_of_mem _ (List.mem_cons_of_mem _ (List.mem_cons_self)));simp only [Eq2.holds]at e1 e2 e3;simp only [subSlices,e1,e2,e3,h1,h2,Option.map_some];exact unifyCuts_sound s _ h3 fun q hq=>hl q (List.mem_cons_of_mem _ (List.mem_cons_of_mem _ (List.mem_cons_of_mem _ hq)))
  ·cases h
mutual
theorem unifySV_sound: ∀{x y:SV} {l:List Eq2},unifySV x y=some l→Hold ρ ρ' l→x.val ρ=y.val ρ'∧x.cells ρ=y.cells ρ'
 | x,y,l,h,hl=>by
  unfold unifySV at h;split at h
  ·split at h
   ·rename_i hk;subst hk;cases h;have:=hl _ List.mem_cons_self;simp only [Eq2.holds]at this;simp only [SV.val,SV.cells,this,and_self]
   ·cases h
  ·cases h;have:=hl _ List.mem_cons_self;simp only [Eq2.holds]at this;simp only [SV.val,SV.cells,this,and_self]
  ·exact⟨rfl,rfl⟩
  ·exact⟨rfl,rfl⟩
  ·exact⟨rfl,rfl⟩
  ·exact⟨rfl,rfl⟩
  ·exact⟨rfl,rfl⟩
  ·exact⟨rfl,rfl⟩
  ·split at h
   ·rename_i hk;subst hk;cases h;have:=hl _ List.mem_cons_self;simp only [Eq2.holds]at this;simp only [SV.val,SV.cells,this,and_self]
   ·cases h
  ·split at h
   ·rename_i hk;obtain⟨rfl,rfl⟩:=hk;cases h;have:=hl _ List.mem_cons_self;simp only [Eq2.holds]at this;simp only [SV.val,SV.cells,this,and_self]
   ·cases h
  ·split at h
   ·rename_i hk;obtain⟨rfl,rfl⟩:=hk;cases h;have h1:=hl _ (List.mem_cons_self);have h2:=hl _ (List.mem_cons_of_mem _ (List.mem_cons_self));simp only [Eq2.holds]at h1 h2;simp only [SV.val,SV.cells,h1,h2,and_self]
   ·cases h
  ·split at h
   ·rename_i hk;obtain⟨rfl,rfl⟩:=hk;cases h;have h1:=hl _ (List.mem_cons_self);have h2:=hl _ (List.mem_cons_of_mem _ (List.mem_cons_self));simp only [Eq2.holds]at h1 h2;simp only [SV.val,SV.cells,h1,h2,and_self]
   ·cases h
  ·split at h
   ·rename_i hk;subst hk;cases h;have h1:=hl _ (List.mem_cons_self);have h2:=hl _ (List.mem_cons_of_mem _ (List.mem_cons_self));have h3:=hl _ (List.mem_cons_of_mem _ (List.mem_cons_of_mem _ (List.mem_cons_self)));have h4:=hl _ (List.mem_cons_of_mem _ (List.mem_cons_of_mem _ (List.mem_cons_of_mem _ (List.mem_cons_self))));simp only [Eq2.holds]at h1 h2 h3 h4;simp only [SV.val,SV.cells,h1,h2,h3,h4,and_self]
   ·cases h
  ·cases h;have:=hl _ List.mem_cons_self;simp only [Eq2.holds]at this;simp only [SV.val,SV.cells,this,and_self]
  ·split at h
   ·rename_i hk;subst hk;exact⟨rfl,rfl⟩
   ·cases h
  ·cases h;have:=hl _ List.mem_cons_self;simp only [Eq2.holds]at this;simp only [SV.val,SV.cells,this,and_self]
  ·cases h;have h1:=hl _ List.mem_cons_self;have h2:=hl _ (List.mem_cons_of_mem _ List.mem_cons_self);simp only [Eq2.holds]at h1 h2;simp only [SV.val,SV.cells,h1,h2,and_self]
  ·split at h
   ·rename_i hk;obtain⟨rfl,rfl⟩:=hk;cases h;have:=hl _ List.mem_cons_self;simp only [Eq2.holds]at this;simp only [SV.val,SV.cells,this,and_self]
   ·cases h
  ·cases h;have:=hl _ List.mem_cons_self;simp only [Eq2.holds,rowB_den]at this;simp only [SV.val,SV.cells,this,strD_rowS,and_self]
  ·split at h
   ·rename_i hk;subst hk;have:=unifySVs_sound h hl;simp only [SV.val,SV.cells,this.1,and_self]
   ·cases h
  ·split at h
   ·rename_i hk;subst hk;have:=unifySVs_sound h hl;simp only [SV.val,SV.cells,this.1,and_self]
   ·cases h
  ·have:=unifySVs_sound h hl;simp only [SV.val,SV.cells,this.2,and_self]
  ·split at h
   ·rename_i hk;obtain⟨rfl,rfl⟩:=hk;cases h;rename_i k n a b;have:=hl _ List.mem_cons_self;simp only [Eq2.holds,E.den,Int.toNat_natCast]at this;have e:segCells k n (a.den ρ)=segCells k n (b.den ρ'):=segCells_congr k n this;simp only [SV.val,SV.cells,e,and_self]
   ·cases h
  ·have:=unifySVs_sound h hl;simp only [SV.val,SV.cells,this.1,and_self]
  ·rw [Option.map_eq_some_iff]at h;obtain⟨z,hz,rfl⟩:=h;have h1:=hl _ List.mem_cons_self;have h2:=unifySV_sound hz fun x hx=>hl x (List.mem_cons_of_mem _ hx)
   simp only [Eq2.holds]at h1;simp only [SV.val,SV.cells,h1,h2.1,and_self]
  ·cases h;have:=hl _ List.mem_cons_self;simp only [Eq2.holds]at this;simp only [SV.val,SV.cells,this,and_self]
  ·cases h;have:=hl _ List.mem_cons_self;simp only [Eq2.holds]at this;simp only [SV.val,SV.cells,this,and_self]
  ·cases h;have:=hl _ List.mem_cons_self;simp only [Eq2.holds]at this;simp only [SV.val,SV.cells,this,and_self]
  ·split at h
   ·rename_i hk;subst hk;cases h;have:=hl _ List.mem_cons_self;simp only [Eq2.holds,E.den]at this;simp only [SV.val,SV.cells,this,ptrV_blk,and_self]
   ·cases h
  ·cases h;have:=hl _ List.mem_cons_self;simp only [Eq2.holds,E.den]at this;simp only [SV.val,SV.cells,this,ptrV,if_true,and_self]
  ·split at h
   ·rename_i hk;subst hk;cases h;have:=hl _ List.mem_cons_self;simp only [Eq2.holds,E.den]at this;simp only [SV.val,SV.cells,←this,ptrV_blk,and_self]
   ·cases h
  ·cases h;have:=hl _ List.mem_cons_self;simp only [Eq2.holds]at this;simp only [SV.val,SV.cells,this,and_self]
  ·cases h;have:=hl _ List.mem_cons_self;simp only [Eq2.holds,E.den]at this;simp only [SV.val,SV.cells,this,bslV,if_true,and_self]
  ·split at h
   ·rename_i hk;subst hk;rw [Option.map_eq_some_iff]at h;obtain⟨z,hz,rfl⟩:=h;have h1:=hl _ (List.mem_cons_self);simp only [Eq2.holds]at h1;simp only [SV.val,SV.cells,h1,unifyCuts_sound _ _ hz fun q hq=>hl q (List.mem_cons_of_mem _ hq),and_self]
   ·cases h
  ·cases h
theorem unifySVs_sound: ∀{x y:List SV} {l:List Eq2},unifySVs x y=some l→Hold ρ ρ' l→SV.vals ρ x=SV.vals ρ' y∧SV.cellsL ρ x=SV.cellsL ρ' y
 | [],[],l,h,hl=>⟨rfl,rfl⟩
 | [],_::_,l,h,hl=>by simp [unifySVs]at h
 | _::_,[],l,h,hl=>by simp [unifySVs]at h
 | a::r,b::r',l,h,hl=>by
  unfold unifySVs at h;split at h
  ·rename_i p q hp hq;cases h;obtain⟨h1,h2⟩:=hl.app;have e1:=unifySV_sound hp h1;have e2:=unifySVs_sound hq h2;simp only [SV.vals,SV.cellsL,e1.1,e1.2,e2.1,e2.2,and_self]
  ·cases h
end
theorem unifyFr_sound: ∀{pat act:List (Nat×SV)} {l:List Eq2},unifyFr pat act=some l→Hold ρ ρ' l→
  ∀s v,look pat s=some v→∃v',look act s=some v'∧v.val ρ=v'.val ρ'
 | [],act,l,h,hl,s,v,hs=>by simp [look]at hs
 | (t,x)::r,act,l,h,hl,s,v,hs=>by
  unfold unifyFr at h;split at h
  ·rename_i v' y hv' hy;rw [Option.map_eq_some_iff]at h;obtain⟨z,hz,rfl⟩:=h;obtain⟨h1,h2⟩:=hl.app;unfold look at hs;split at hs
   ·rename_i hts;rw [beq_iff_eq]at hts;subst hts;cases hs;exact⟨v',hv',(unifySV_sound hz h1).1⟩
   ·exact unifyFr_sound hy h2 s v hs
  ·cases h
theorem unifyCols_sound(hva:ρ.va=ρ'.va)(N:Nat){n:E}(hn:(n.den ρ 0).toNat=N): ∀{pat act:List Col} {l:List Eq2},unifyCols n pat act=some l→Hold ρ ρ' l→
  ∀i,i<N→((pat.map (Col.cells ρ)).flatMap fun c=>c i)=(act.map (Col.cells ρ')).flatMap fun c=>c i
 | [],[],l,h,hl,i,hi=>rfl
 | [],_::_,l,h,hl,i,hi=>by simp [unifyCols]at h
 | _::_,[],l,h,hl,i,hi=>by simp [unifyCols]at h
 | a::r,b::r',l,h,hl,i,hi=>by
  unfold unifyCols at h;split at h
  ·rename_i ls ls' ha hb;split at h
   case isFalse=>cases h
   rename_i hk;rw [Option.map_eq_some_iff]at h;obtain⟨z,hz,rfl⟩:=h;have ih:=unifyCols_sound hva N hn hz (fun x hx=>hl x (List.mem_append_right _ hx)) i hi;simp only [List.map_cons,List.flatMap_cons,ih];congr 1;obtain⟨ck,cw,ca⟩:=a;obtain⟨ck',cw',ca'⟩:=b;obtain⟨e1,e2⟩:=hk;simp only at ha hb e2;subst ha hb e2;simp only [Col.cells,colV];refine List.map_congr_left fun j _=>?_
   generalize i*cw+j=m;by_cases hm:m<ls.length
   ·rw [List.getElem?_eq_getElem hm,List.getElem?_eq_getElem (show m<ls'.length by omega)];have:=hl (.v ls[m] ls'[m]) (List.mem_append_left _ (List.mem_map.2 ⟨(ls[m],ls'[m]),by
     rw [List.mem_iff_getElem?];exact⟨m,by rw [List.getElem?_zip_eq_some];exact⟨List.getElem?_eq_getElem hm,List.getElem?_eq_getElem (by omega)⟩⟩,rfl⟩))
    simp only [Eq2.holds]at this;simp only [Option.elim,this]
   ·rw [List.getElem?_eq_none (by omega),List.getElem?_eq_none (by omega)];rfl
  ·cases h
  rename_i hpt hvls;split at h
  ·rename_i hk;rw [Option.map_eq_some_iff]at h;obtain⟨z,hz,rfl⟩:=h;have ih:=unifyCols_sound hva N hn hz (fun x hx=>hl x (List.mem_cons_of_mem _ hx)) i hi;have h1:=hl _ List.mem_cons_self;simp only [List.map_cons,List.flatMap_cons,ih];congr 1;obtain⟨ck,cw,ca⟩:=a;obtain⟨ck',cw',ca'⟩:=b;obtain⟨e1,e2⟩:=hk;simp only at e1 e2 h1;subst e1 e2;by_cases hstr:ck= .str
   ·subst hstr;simp only [if_true,Eq2.holds]at h1;simp only [Col.cells];rw [show ca.den ρ=ca'.den ρ' from h1]
   rw [if_neg hstr]at h1;simp only [Eq2.holds,eMul_den,E.den]at h1;have hb: ∀j,j<cw→ca.den ρ (i*cw+j)=ca'.den ρ' (i*cw+j):=by
    intro j hj;refine h1 _ ?_;rw [toNat_mul,hn];have:i*cw+cw≤N*cw:=by
     have:=Nat.mul_le_mul_right cw (show i+1≤N by omega)
     rwa [Nat.add_mul,Nat.one_mul]at this
    omega
   cases ck with
   | int k=>exact segCells_congr k cw hb
   | bool=>
    unfold Col.cells colB;exact List.map_congr_left fun j hj=>by rw [hb j (List.mem_range.1 hj)]
   | val v=>simp only [Col.cells,hva]
   | ptr=>
    unfold Col.cells colP;exact List.map_congr_left fun j hj=>by rw [hb j (List.mem_range.1 hj)]
   | nils=>rfl
   | str=>exact absurd rfl hstr
   | cv=>
    simp only [Col.cells,colV];exact List.map_congr_left fun j hj=>by rw [hb j (List.mem_range.1 hj)]
   | sv=>
    simp only [Col.cells,colV];exact List.map_congr_left fun j hj=>by rw [hb j (List.mem_range.1 hj)]
   | ix v=>
    simp only [Col.cells,colV,hva];exact List.map_congr_left fun j hj=>by rw [hb j (List.mem_range.1 hj)]
   | vls l=>exact absurd rfl (hvls l l rfl)
   | pt q v=>exact absurd rfl (hpt q v)
  ·split at h
   ·rename_i hk;rw [Option.map_eq_some_iff]at h;obtain⟨z,hz,rfl⟩:=h;have ih:=unifyCols_sound hva N hn hz (fun x hx=>hl x (List.mem_cons_of_mem _ hx)) i hi;have h1:=hl _ List.mem_cons_self;simp only [List.map_cons,List.flatMap_cons,ih];congr 1;obtain⟨ck,cw,ca⟩:=a;obtain⟨ck',cw',ca'⟩:=b;obtain⟨e0,e1,e2⟩:=hk;simp only at e0 e1 e2 h1;subst e0 e1 e2;simp only [Eq2.holds,eMul_den,E.den]at h1;simp only [Col.cells,colV];refine List.map_congr_left fun j hj=>?_
    rw [h1 _ ?_,bslV_nil];have hj':=List.mem_range.1 hj;rw [toNat_mul,hn];have:i*cw+cw≤N*cw:=by
     have:=Nat.mul_le_mul_right cw (show i+1≤N by omega)
     rwa [Nat.add_mul,Nat.one_mul]at this
    omega
   ·cases h
theorem unifyColsF_sound(hva:ρ.va=ρ'.va): ∀{pat act:List Col} {l:List Eq2},unifyColsF pat act=some l→Hold ρ ρ' l→pat.map (Col.cells ρ)=act.map (Col.cells ρ')
 | [],[],l,h,hl=>rfl
 | [],_::_,l,h,hl=>by simp [unifyColsF]at h
 | _::_,[],l,h,hl=>by simp [unifyColsF]at h
 | a::r,b::r',l,h,hl=>by
  unfold unifyColsF at h;split at h
  ·cases h
  ·rename_i q v q' u hck hck';split at h
   ·rename_i hw;rw [Option.map_eq_some_iff]at h;obtain⟨z,hz,rfl⟩:=h;have ih:=unifyColsF_sound hva hz (fun x hx=>hl x (List.mem_cons_of_mem _ (List.mem_cons_of_mem _ (List.mem_cons_of_mem _ hx))));have h1:=hl _ List.mem_cons_self;have h2:=hl _ (List.mem_cons_of_mem _ List.mem_cons_self);have h3:=hl _ (List.mem_cons_of_mem _ (List.mem_cons_of_mem _ List.mem_cons_self));simp only [Eq2.holds]at h1 h2 h3;rw [List.map_cons,List.map_cons,ih];congr 1;obtain⟨ck,cw,ca⟩:=a;obtain⟨ck',cw',ca'⟩:=b;simp only at hck hck' hw h3;subst hck hck' hw;funext i;simp only [Col.cells];rw [show ca.den ρ=ca'.den ρ' from h3,h1,h2]
   ·cases h
  ·cases h
  rename_i hvls hpt0 hpt;split at h
  ·rename_i hk;rw [Option.map_eq_some_iff]at h;obtain⟨z,hz,rfl⟩:=h;have ih:=unifyColsF_sound hva hz (fun x hx=>hl x (List.mem_cons_of_mem _ hx));have h1:=hl _ List.mem_cons_self;simp only [Eq2.holds]at h1;rw [List.map_cons,List.map_cons,ih];congr 1;obtain⟨ck,cw,ca⟩:=a;obtain⟨ck',cw',ca'⟩:=b;obtain⟨e1,e2⟩:=hk;simp only at e1 e2 h1;subst e1 e2;funext i;cases ck with
   | int k=>simp only [Col.cells];rw [show ca.den ρ=ca'.den ρ' from h1]
   | bool=>simp only [Col.cells];rw [show ca.den ρ=ca'.den ρ' from h1]
   | val v=>simp only [Col.cells,hva]
   | ptr=>simp only [Col.cells];rw [show ca.den ρ=ca'.den ρ' from h1]
   | nils=>rfl
   | str=>simp only [Col.cells];rw [show ca.den ρ=ca'.den ρ' from h1]
   | cv=>simp only [Col.cells];rw [show ca.den ρ=ca'.den ρ' from h1]
   | sv=>simp only [Col.cells];rw [show ca.den ρ=ca'.den ρ' from h1]
   | ix v=>simp only [Col.cells,hva];rw [show ca.den ρ=ca'.den ρ' from h1]
   | vls l=>exact(hvls l rfl).elim
   | pt q v=>first | exact(hpt q v rfl).elim | exact(hpt0 q v rfl).elim | exact(hpt q v q v rfl rfl).elim | exact(hpt0 q v q v rfl rfl).elim
  ·cases h
theorem fitRow_cells: ∀(f:Nat) (p act:List SV),SV.cellsL ρ (fitRow f p act)=SV.cellsL ρ act
 | 0,_,_=>rfl
 | f+1,p,act=>by
  unfold fitRow;split
  ·rfl
  ·rename_i k e p f' k' m a r h;cases h;simp only [SV.cellsL,SV.cells];rw [fitRow_cells f];split
   ·rename_i hm;subst hm;simp [segCells,eSel_den,E.den]
   ·simp only [SV.cellsL,SV.cells];have:segCells k' (m+1) (a.den ρ)=[.int k' (a.den ρ 0)]++segCells k' m ((eShift a (.lit 1)).den ρ):=by
     unfold segCells;rw [List.range_succ_eq_map,List.map_cons,List.map_map];simp only [List.singleton_append,List.cons.injEq,true_and];apply List.map_congr_left;intro j _;simp [Function.comp,eShift_den,E.den,Nat.add_comm]
    rw [this,eSel_den];simp [E.den]
  ·rename_i k n e p f' x r h;cases h;split
   ·simp only [SV.cellsL,fitRow_cells f]
   ·split
    ·rename_i c d hc hd;split
     ·rename_i kl e' hrow;split
      ·rename_i hkl;have h1:=(rowCut_cells (ρ:=ρ) hc).1;have h2:=rowDrop_cells (ρ:=ρ) _ _ _ hd;have h3:=rowOf_spec (ρ:=ρ) hrow;rw [hkl,List.length_replicate,mkI_rep]at h3;rw [h3,List.drop_zero]at h1;rw [SV.cellsL,SV.cells,fitRow_cells f,h1,h2,List.take_append_drop]
      ·rfl
     ·rfl
    ·rfl
  ·rename_i h;cases h;simp only [SV.cellsL,fitRow_cells f]
  ·rfl
theorem unifyEs_sound{z z':List SV}(hz:SV.cellsL ρ z=SV.cellsL ρ' z'): ∀{es es':List (Nat×List SV)} {l:List Eq2},unifyEs es es'=some l→Hold ρ ρ' l→
  ((fun i=>hasL es i)=fun i=>hasL es' i)∧(fun i=>SV.cellsL ρ (rowL es z i))=fun i=>SV.cellsL ρ' (rowL es' z' i)
 | [],[],_,_,_=>⟨rfl,funext fun _=>hz⟩
 | [],_::_,_,h,_=>by simp [unifyEs]at h
 | _::_,[],_,h,_=>by simp [unifyEs]at h
 | (i,v)::r,(j,u)::r',l,h,hl=>by
  simp only [unifyEs]at h;split at h
  ·rename_i hij;subst hij;split at h
   ·rename_i x y hx hy;cases h;obtain⟨h4,h5⟩:=hl.app;obtain⟨e1,e2⟩:=unifyEs_sound hz hy h5;have e3:=(unifySVs_sound hx h4).2;refine⟨funext fun k=>?_,funext fun k=>?_⟩
    ·simp only [hasL];rw [show hasL r k=hasL r' k from congrFun e1 k]
    ·simp only [rowL];split
     ·exact e3
     ·exact congrFun e2 k
   ·cases h
  ·cases h
theorem unifyCk_sound(hva:ρ.va=ρ'.va){x y:Ck}{l:List Eq2}(h:unifyCk x y=some l)(hl:Hold ρ ρ' l):x.den ρ=y.den ρ':=by
 unfold unifyCk at h;split at h
 ·rfl
 ·split at h
  ·rename_i hk;subst hk;rw [Option.map_eq_some_iff]at h;obtain⟨z,hz,rfl⟩:=h;have h1:=hl _ List.mem_cons_self;simp only [Eq2.holds]at h1;simp only [Ck.den,h1,(unifySVs_sound hz fun x hx=>hl x (List.mem_cons_of_mem _ hx)).2,fitRow_cells]
  ·cases h
 ·split at h
  ·rename_i hk;obtain⟨rfl,rfl,rfl⟩:=hk;rw [Option.map_eq_some_iff]at h;obtain⟨z,hz,rfl⟩:=h;have h1:=hl _ List.mem_cons_self;have h2:=hl _ (List.mem_cons_of_mem _ List.mem_cons_self);simp only [Eq2.holds]at h1 h2;have h3:=unifyCols_sound hva _ rfl hz fun x hx=>hl x (List.mem_cons_of_mem _ (List.mem_cons_of_mem _ hx))
   simp only [Ck.den,h1,h2];congr 1;unfold tabCells tabL;rw [List.flatMap_def,List.flatMap_def];congr 1;refine List.map_congr_left fun i hi=>h3 i ?_
   rw [h2];exact List.mem_range.1 hi
  ·cases h
 ·cases h;have:=hl _ List.mem_cons_self;exact this
 ·split at h
  ·rename_i hk;obtain⟨rfl,rfl⟩:=hk;cases h;have h1:=hl _ List.mem_cons_self;have h2:=hl _ (List.mem_cons_of_mem _ List.mem_cons_self);simp only [Eq2.holds]at h1 h2;simp only [Ck.den,h1,h2]
  ·cases h
 ·cases h;have:=hl _ List.mem_cons_self;simp only [Eq2.holds]at this;simp only [Ck.den,this]
 ·cases h;have:=hl _ List.mem_cons_self;simp only [Eq2.holds]at this;simp only [Ck.den,this]
 ·split at h
  ·rename_i hk;obtain⟨rfl,rfl,rfl⟩:=hk;split at h
   ·rename_i x y hx hy;cases h;have h1:=hl _ List.mem_cons_self;have h2:=hl _ (List.mem_cons_of_mem _ List.mem_cons_self);simp only [Eq2.holds]at h1 h2;have h3:Hold ρ ρ' (x++y):=fun q hq=>hl q (List.mem_cons_of_mem _ (List.mem_cons_of_mem _ hq))
    obtain⟨h4,h5⟩:=h3.app;simp only [Ck.den,h1,h2,(unifySVs_sound hx h4).2,unifyColsF_sound hva hy h5]
   ·cases h
  ·cases h
 ·split at h
  ·rename_i hk;obtain⟨rfl,rfl,rfl⟩:=hk;split at h
   ·rename_i x y hx hy;cases h;have h1:=hl _ List.mem_cons_self;simp only [Eq2.holds]at h1;have h3:Hold ρ ρ' (x++y):=fun q hq=>hl q (List.mem_cons_of_mem _ hq)
    obtain⟨h4,h5⟩:=h3.app;obtain⟨e1,e2⟩:=unifyEs_sound (unifySVs_sound hx h4).2 hy h5;rw [Ck.den_mapl,Ck.den_mapl,h1,(unifySVs_sound hx h4).2,e1,e2]
   ·cases h
  ·cases h
 ·split at h
  ·rename_i hk;obtain⟨rfl,rfl⟩:=hk;cases h;have h1:=hl _ List.mem_cons_self;have h2:=hl _ (List.mem_cons_of_mem _ List.mem_cons_self);have h3:=hl _ (List.mem_cons_of_mem _ (List.mem_cons_of_mem _ List.mem_cons_self));simp only [Eq2.holds]at h1 h2 h3;simp only [Ck.den,h1];congr 1;rw [←h2];exact segCells_congr _ _ h3
  ·cases h
 ·split at h
  ·rename_i hk;obtain⟨rfl,rfl⟩:=hk;cases h;have h1:=hl _ List.mem_cons_self;simp only [Eq2.holds]at h1;simp only [Ck.den,h1]
  ·cases h
 ·cases h;have h1:=hl _ List.mem_cons_self;have h2:=hl _ (List.mem_cons_of_mem _ List.mem_cons_self);simp only [Eq2.holds]at h1 h2;simp only [Ck.den,h1,h2]
 ·cases h
theorem unifyHp_sound(hva:ρ.va=ρ'.va): ∀{pat act:List Ck} {l:List Eq2},unifyHp pat act=some l→Hold ρ ρ' l→
  ∃more,act.map (Ck.den ρ')=pat.map (Ck.den ρ)++more
 | [],act,l,h,hl=>⟨_,rfl⟩
 | a::r,[],l,h,hl=>by simp [unifyHp]at h
 | a::r,b::r',l,h,hl=>by
  unfold unifyHp at h;split at h
  ·rename_i p q hp hq;cases h;obtain⟨h1,h2⟩:=hl.app;obtain⟨m,hm⟩:=unifyHp_sound hva hq h2;exact⟨m,by simp only [List.map_cons,List.cons_append,hm,unifyCk_sound hva hp h1]⟩
  ·cases h
end
end Go.RX

namespace Go.RX
theorem Owns.pick'{hs hs':List HP}{w:World}(h:Owns hs w)(f:Nat→Option Nat)
  (he: ∀(j:Nat) x,hs'[j]? =some x→(f j=none∧x=HP.emp)∨∃i,f j=some i∧hs[i]? =some x)
  (hinj: ∀(j j' i:Nat),f j=some i→f j'=some i→j<hs'.length→j'<hs'.length→j=j'):Owns hs' w:=by
 obtain⟨S,hS⟩:=h;refine⟨fun j k=>match f j with | some i=>S i k | none=>False,⟨?_,?_⟩⟩
 ·intro j x hx;rcases he j x hx with⟨hf,rfl⟩ | ⟨i,hf,hi⟩
  ·simp only [hf];exact⟨fun k hk=>hk,fun k hk=>hk.elim⟩
  ·simp only [hf];exact hS.at_ i x hi
 ·intro j j' x y hne hx hy hw k;rcases he j x hx with⟨hf,rfl⟩ | ⟨i,hf,hi⟩
  ·simp only [hf];exact fun h=>h.elim
  ·rcases he j' y hy with⟨hf',rfl⟩ | ⟨i',hf',hi'⟩
   ·simp only [hf'];exact fun _ h=>h
   ·simp only [hf,hf'];refine hS.apart i i' x y ?_ hi hi' hw k;intro e;subst e;exact hne (hinj j j' i hf hf' (List.getElem?_eq_some_iff.1 hx).1 (List.getElem?_eq_some_iff.1 hy).1)
theorem Owns.emp_mid{a b:List HP}{w:World}(h:Owns (a++b) w):Owns (a++[HP.emp]++b) w:=by
 refine h.pick' (fun j=>if j<a.length then some j else if j=a.length then none else some (j - 1)) ?_ ?_
 ·intro j x hx;by_cases h1:j<a.length
  ·right;refine⟨j,by simp [h1],?_⟩;rw [List.append_assoc,List.getElem?_append_left h1]at hx;rw [List.getElem?_append_left h1];exact hx
  ·by_cases h2:j=a.length
   ·left;subst h2;refine⟨by simp,?_⟩;simp at hx;exact hx.symm
   ·right;refine⟨j - 1,by simp [h1,h2],?_⟩;rw [List.getElem?_append_right (by simp;omega)]at hx;rw [List.getElem?_append_right (by omega)];simp only [List.length_append,List.length_cons,List.length_nil]at hx;rw [show j - 1 - a.length=j - (a.length+(0+1)) by omega];exact hx
 ·intro j j' i hj hj' _ _;split at hj<;>split at hj'
  ·simp_all
  ·split at hj'
   ·cases hj'
   ·simp only [Option.some.injEq]at hj hj';omega
  ·split at hj
   ·cases hj
   ·simp only [Option.some.injEq]at hj hj';omega
  ·split at hj
   ·cases hj
   ·split at hj'
    ·cases hj'
    ·simp only [Option.some.injEq]at hj hj';omega
theorem set_mid{α:Type}(a b:List α)(x y:α):(a++[x]++b).set a.length y=a++[y]++b:=by
 simp
theorem Owns.add{a b:List HP}{w w':World}(h:Owns (a++b) w)(h':HP)(S':Nat→Prop)(hsize:w.heap.size≤w'.heap.size)
  (hkeep: ∀k,k<w.heap.size→w'.heap[k]? =w.heap[k]?) (hp:h'.p w' S') (hsub: ∀k,S' k→w.heap.size≤k∧k<w'.heap.size):Owns (a++[h']++b) w':=by
 obtain⟨S,hS⟩:=h.emp_mid;have:=hS.new a.length h' (by simp) S' hsize hkeep hp hsub;rw [set_mid]at this;exact⟨_,this⟩
theorem Owns.step{a b:List HP}{w w':World}{S:Nat→Nat→Prop}(h:Sep (a++b) S w)(i:Nat)(h0 h':HP)(hi:a[i]? =some h0)(hw:h0.wr=true)
  (S':Nat→Prop) (hsize:w.heap.size≤w'.heap.size) (hkeep: ∀k,k<w.heap.size→¬S i k→w'.heap[k]? =w.heap[k]?)
  (hp:h'.p w' S') (hsub: ∀k,S' k→S i k∨(w.heap.size≤k∧k<w'.heap.size)):Owns (a.set i h'++b) w':=by
 have hlt:i<a.length:=(List.getElem?_eq_some_iff.1 hi).1;have:=h.step i h0 h' (by rw [List.getElem?_append_left hlt];exact hi) hw S' hsize hkeep hp hsub;rw [List.set_append_left _ _ hlt]at this;exact⟨_,this⟩
theorem Owns.take1{acc hp Fs:List HP}{w:World}(h:Owns (acc++(hp++Fs)) w)(i:Nat)(c:HP)(hi:hp[i]? =some c):
  Owns ((acc++[c])++(hp.set i HP.emp++Fs)) w:=by
 have hlt:i<hp.length:=(List.getElem?_eq_some_iff.1 hi).1;refine h.pick' (fun j=>if j<acc.length then some j else if j=acc.length then some (acc.length+i)else if j=acc.length+1+i then none else some (j - 1)) ?_ ?_
 ·intro j x hx;by_cases h1:j<acc.length
  ·right;refine⟨j,by simp [h1],?_⟩;rw [List.append_assoc,List.getElem?_append_left h1]at hx;rw [List.getElem?_append_left h1];exact hx
  ·by_cases h2:j=acc.length
   ·right;subst h2;refine⟨acc.length+i,by simp,?_⟩;rw [List.append_assoc,List.getElem?_append_right (Nat.le_refl _),Nat.sub_self]at hx;simp only [List.cons_append,List.nil_append,List.getElem?_cons_zero,Option.some.injEq]at hx;subst hx;rw [List.getElem?_append_right (by omega),List.getElem?_append_left (by omega)];rw [show acc.length+i - acc.length=i by omega];exact hi
   ·rw [List.getElem?_append_right (by simp;omega)]at hx;simp only [List.length_append,List.length_cons,List.length_nil]at hx;by_cases h3:j=acc.length+1+i
    ·left;subst h3;refine⟨by simp [h1,h2],?_⟩;rw [List.getElem?_append_left (by simp;omega),show acc.length+1+i - (acc.length+(0+1))=i by omega,List.getElem?_set_self hlt]at hx;cases hx;rfl
    ·right;refine⟨j - 1,by simp [h1,h2,h3],?_⟩;rw [List.getElem?_append_right (by omega)];rw [List.getElem?_append]at hx ⊢;simp only [List.length_set]at hx;rw [show j - 1 - acc.length=j - (acc.length+(0+1)) by omega];split at hx
     ·rename_i h4;rw [List.getElem?_set_ne (by omega)]at hx;rw [if_pos h4];exact hx
     ·rename_i h4;rw [if_neg h4];exact hx
 ·intro j j' k hj hj' hl hl';have key: ∀j,(if j<acc.length then some j else if j=acc.length then some (acc.length+i)else if j=acc.length+1+i then none else some (j - 1))=some k→
    (j<acc.length∧k=j)∨(j=acc.length∧k=acc.length+i)∨(acc.length<j∧j≠acc.length+1+i∧k=j - 1):=by
   intro j h;split at h
   ·left;simp at h;omega
   ·split at h
    ·right;left;simp at h;omega
    ·split at h
     ·cases h
     ·right;right;simp at h;omega
  rcases key j hj with h | h | h<;>rcases key j' hj' with h' | h' | h'<;>omega
theorem Owns.put1{new hp Fs:List HP}{c:HP}{w:World}(h:Owns ((c::new)++(hp++Fs)) w)(i:Nat)(hi:i<hp.length):
  Owns (new++(hp.set i c++Fs)) w:=by
 refine h.pick' (fun j=>if j=new.length+i then some 0 else some (j+1)) ?_ ?_
 ·intro j x hx;right;by_cases h1:j=new.length+i
  ·refine⟨0,by simp [h1],?_⟩;subst h1;rw [List.getElem?_append_right (by omega),show new.length+i - new.length=i by omega,List.getElem?_append_left (by simpa using hi),List.getElem?_set_self hi]at hx;simpa using hx
  ·refine⟨j+1,by simp [h1],?_⟩;rw [List.cons_append,List.getElem?_cons_succ];rw [List.getElem?_append]at hx ⊢;split at hx
   ·rename_i h2;rw [if_pos h2];exact hx
   ·rename_i h2;rw [if_neg h2];rw [List.getElem?_append]at hx ⊢;simp only [List.length_set]at hx;split at hx
    ·rename_i h3;rw [List.getElem?_set_ne (by omega)]at hx;rw [if_pos h3];exact hx
    ·rename_i h3;rw [if_neg h3];exact hx
 ·intro j j' k hj hj' _ _;split at hj<;>split at hj'<;>simp only [Option.some.injEq]at hj hj'<;>omega
theorem Owns.rot{new hp Fs:List HP}{w:World}(h:Owns (new++(hp++Fs)) w):Owns ((hp++new)++Fs) w:=by
 refine h.pick' (fun j=>if j<hp.length then some (new.length+j)else if j<hp.length+new.length then some (j - hp.length)else some j) ?_ ?_
 ·intro j x hx;right;by_cases h1:j<hp.length
  ·refine⟨new.length+j,by simp [h1],?_⟩;rw [List.append_assoc,List.getElem?_append_left h1]at hx;rw [List.getElem?_append_right (by omega),show new.length+j - new.length=j by omega,List.getElem?_append_left h1];exact hx
  ·by_cases h2:j<hp.length+new.length
   ·refine⟨j - hp.length,by simp [h1,h2],?_⟩;rw [List.append_assoc,List.getElem?_append_right (by omega),List.getElem?_append_left (by omega)]at hx;rw [List.getElem?_append_left (by omega)];exact hx
   ·refine⟨j,by simp [h1,h2],?_⟩;rw [List.append_assoc,List.getElem?_append_right (by omega),List.getElem?_append_right (by omega)]at hx;rw [List.getElem?_append_right (by omega),List.getElem?_append_right (by omega),show j - new.length - hp.length=j - hp.length - new.length by omega];exact hx
 ·intro j j' k hj hj' _ _;have key: ∀j,(if j<hp.length then some (new.length+j)else if j<hp.length+new.length then some (j - hp.length)else some j)=some k→
    (j<hp.length∧k=new.length+j)∨(hp.length≤j∧j<hp.length+new.length∧k=j - hp.length)∨(hp.length+new.length≤j∧k=j):=by
   intro j h;split at h
   ·left;simp at h;omega
   ·split at h
    ·right;left;simp at h;omega
    ·right;right;simp at h;omega
  rcases key j hj with h | h | h<;>rcases key j' hj' with h' | h' | h'<;>omega
def blank(hp:List HP)(use:List Nat):List HP:=use.foldl (fun h i=>h.set i HP.emp) hp
theorem blank_length(use:List Nat): ∀hp:List HP,(blank hp use).length=hp.length:=by
 induction use with
 | nil=>intro hp;rfl
 | cons i r ih=>intro hp;show(blank (hp.set i HP.emp) r).length=_;rw [ih];simp
theorem blank_set(use:List Nat): ∀(hp:List HP) (i:Nat) (c:HP),i ∉ use→blank (hp.set i c) use=(blank hp use).set i c:=by
 induction use with
 | nil=>intro hp i c _;rfl
 | cons j r ih=>
  intro hp i c hi;simp only [List.mem_cons,not_or]at hi;show blank ((hp.set i c).set j HP.emp) r=(blank (hp.set j HP.emp) r).set i c;rw [List.set_comm _ _ hi.1,ih _ _ _ hi.2]
theorem Owns.takeAll: ∀{use:List Nat} {acc hp Fs:List HP} {w:World},Owns (acc++(hp++Fs)) w→use.Nodup→(∀i∈use,i<hp.length)→
  Owns ((acc++use.map (fun i=>hp.getD i HP.emp))++(blank hp use++Fs)) w
 | [],acc,hp,Fs,w,h,_,_=>by simpa [blank] using h
 | i::r,acc,hp,Fs,w,h,hnd,hlt=>by
  have hi:=hlt i List.mem_cons_self;rw [List.nodup_cons]at hnd;have h1:=h.take1 i (hp.getD i HP.emp) (by rw [List.getD_eq_getElem?_getD];simp [hi]);have h2:=Owns.takeAll (use:=r) h1 hnd.2 (fun j hj=>by simpa using hlt j (List.mem_cons_of_mem _ hj));have e:r.map (fun j=>(hp.set i HP.emp).getD j HP.emp)=r.map (fun j=>hp.getD j HP.emp):=by
   refine List.map_congr_left fun j hj=>?_
   rw [List.getD_eq_getElem?_getD,List.getD_eq_getElem?_getD,List.getElem?_set_ne];rintro rfl;exact hnd.1 hj
  rw [e,List.append_assoc acc]at h2;exact h2
theorem replL_blank: ∀(use:List Nat) (hp new:List HP),use.Nodup→replL HP.emp hp use new=replL HP.emp (blank hp use) use new
 | [],hp,new,_=>rfl
 | i::r,hp,c::cs,hnd=>by
  rw [List.nodup_cons]at hnd;show replL HP.emp (hp.set i c) r cs=replL HP.emp ((blank (hp.set i HP.emp) r).set i c) r cs;rw [←blank_set r _ _ _ hnd.1,List.set_set];exact replL_blank r _ _ hnd.2
 | i::r,hp,[],hnd=>by
  rw [List.nodup_cons]at hnd;show replL HP.emp (hp.set i HP.emp) r []=replL HP.emp ((blank (hp.set i HP.emp) r).set i HP.emp) r [];rw [←blank_set r _ _ _ hnd.1,List.set_set];exact replL_blank r _ _ hnd.2
theorem Owns.putAll: ∀{use:List Nat} {new hp Fs:List HP} {w:World},Owns (new++(hp++Fs)) w→(∀i∈use,i<hp.length)→(∀i∈use,hp[i]? =some HP.emp∨True)→
  Owns (replL HP.emp hp use new++Fs) w
 | [],new,hp,Fs,w,h,_,_=>h.rot
 | i::r,c::cs,hp,Fs,w,h,hlt,_=>by
  have hi:=hlt i List.mem_cons_self;exact Owns.putAll (use:=r) (h.put1 i hi) (fun j hj=>by simpa using hlt j (List.mem_cons_of_mem _ hj)) fun _ _=> .inr trivial
 | i::r,[],hp,Fs,w,h,hlt,_=>by
  have hi:=hlt i List.mem_cons_self;have h1:=(Owns.emp_mid (a:=[]) h);exact Owns.putAll (use:=r) (new:=[]) (Owns.put1 (new:=[]) h1 i hi) (fun j hj=>by simpa using hlt j (List.mem_cons_of_mem _ hj)) fun _ _=> .inr trivial
theorem map_replL{α β:Type}(f:α→β)(e:α): ∀(use:List Nat) (hp new:List α),(replL e hp use new).map f=replL (f e) (hp.map f) use (new.map f)
 | [],hp,new=>by simp [replL]
 | i::r,hp,c::cs=>by simp only [replL,List.map_cons];rw [map_replL f e r,List.map_set]
 | i::r,hp,[]=>by simp only [replL,List.map_nil];rw [map_replL f e r,List.map_set];rfl
end Go.RX
