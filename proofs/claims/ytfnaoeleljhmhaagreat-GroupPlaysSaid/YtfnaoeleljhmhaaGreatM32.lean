/- A member in memory; where a key stands (find), one more is held (hold), one more waits (waits). · What a member's clock takes from what it holds (Tick); one more that waits (waits). · One more that waits (waits); what a member takes (Take). · What a member takes (Take). · Devices cloned; a fresh key. -/
import Derived.Test.YtfnaoeleljhmhaaGreatM31
import Derived.Test.YtfnaoeleljhmhaaGreatM28

namespace Go.RX.Gf
open Go Go.RX Go.Proofs Go.Gp Go.RX.Gb
def mrow(b b1:Nat)(m:Me)(v0 v1 v2:V1):HP:=mS b b1 m.sf.1 m.sf.2 m.so (fun i=>m.g.getD i 0) m.ep v0.v v1.v v2.v
def bI(q:Bool):Int:=if q then 1 else 0
theorem mR_row(b b1:Nat)(m:Me)(v0 v1 v2:V1):mR b b1 m.sf.1 m.sf.2 (bI m.so) (fun i=>m.g.getD i 0) m.ep v0 v1 v2=mrow b b1 m v0 v1 v2:=by
 unfold mrow bI;cases m.so<;>rfl
theorem hK_held(md:Bool)(v:V1)(l:List He):hK md v (l.length:Int) (gF (l.map (·.d))) (fF (l.map (·.d)) (·.ep)) (fF (l.map (·.d)) (·.sa)) (fF (l.map (·.d)) (·.sd)) (fF (l.map (·.d)) (·.kid)) (fF (l.map (·.d)) (·.key)) (hF l (·.til)) (hF l fun e=>bI e.ends)=heldHP md v l:=by
 simp only [hK,heldHP,Int.toNat_natCast];exact congrArg (sliHP md 144 23 v.v l.length) (tab_held rfl (heIs_list l))
theorem wK_wait(md:Bool)(v:V1)(l:List Di):wK md v (l.length:Int) (gF l) (fF l (·.ep)) (fF l (·.sa)) (fF l (·.sd)) (fF l (·.kid)) (fF l (·.key))=waitHP md v l:=by
 simp only [wK,waitHP,Int.toNat_natCast];rw [tab_wait rfl (diIs_list l)]
theorem kid_at(l:List He)(j:Nat)(hj:j<l.length):fF (l.map (·.d)) (·.kid) j=l[j].d.kid:=by simp [fF,hj]
theorem half(i j:Nat)(h:i+j<18446744073709551616):iop .shr .u64 (IntKind.wrap .u64 ((i:Int)+(j:Int))) 1=((i+j)/2:Nat):=by
 rw [w64,show((i:Int)+(j:Int))%18446744073709551616=((i+j:Nat):Int) by omega];show((i+j:Nat):Int).fdiv (2^1)=_;rw [Int.fdiv_eq_ediv_of_nonneg _ (by decide)];omega
theorem find_meets(b b1:Nat)(m:Me)(v0 v1 v2:V1)(k:Int)(hl:m.held.length<4611686018427387904)(hr:Rise m.held):
  Meets Tryz.prog 58 [.pointer (some ⟨b,0,none⟩),.int .u64 k] [mrow b b1 m v0 v1 v2,heldHP true v1 m.held]
   fun r hs=>r= .tuple #[.int .i64 (low m.held k:Nat),.bool (holds m.held k)]∧hs=[mrow b b1 m v0 v1 v2,heldHP true v1 m.held]:=by
 obtain⟨l,hlm⟩: ∃l,l=m.held:=⟨_,rfl⟩;rw [←hlm]at hl hr ⊢;have base:=mt_find (fun r hs=>r= .tuple #[.int .i64 (low l k:Nat),.bool (holds l k)]∧hs=[mrow b b1 m v0 v1 v2,heldHP true v1 l]) m.sf.1 m.sf.2 (bI m.so) m.ep (l.length:Int) k (fun i=>m.g.getD i 0)
  (gF (l.map (·.d))) (fF (l.map (·.d)) (·.ep)) (fF (l.map (·.d)) (·.sa)) (fF (l.map (·.d)) (·.sd)) (fF (l.map (·.d)) (·.kid)) (fF (l.map (·.d)) (·.key)) (hF l (·.til)) (hF l fun e=>bI e.ends) v0 v1 v2 b b1
 rw [mR_row,hK_held]at base;refine base ?_;unfold st_find;rw [mR_row,hK_held];refine⟨by omega,fun _=>⟨fun x=> ∃i j:Nat,x=⟨[],[],[(i:Int),(j:Int)],[],[],[],[]⟩∧i≤j∧j≤l.length∧(∀t,t<i→∀h:t<l.length,l[t].d.kid<k)∧∀t,j≤t→∀h:t<l.length,k≤l[t].d.kid,
  fun x=>((x.i.getD 1 0) - (x.i.getD 0 0)).toNat,⟨0,l.length,rfl,rfl,0,l.length,rfl,by omega,by omega,fun t ht=>by omega,fun t ht h=>by omega⟩,?_⟩⟩
 rintro x6 x7 ⟨i,j,he,hij,hj,h1,h2⟩;cases he;refine⟨fun hlt=>?_,fun hge=>?_⟩
 ·have hh:=half i j (by omega);rw [hh];have hlt':i<j:=by omega
  iterate 6 refine⟨by omega,fun _=>?_⟩
  rw [Int.toNat_natCast,kid_at l _ (by omega)];intro _;refine⟨fun hk=>⟨by omega,fun _=>⟨by omega,fun _=>⟨_,_,rfl,rfl,⟨(i+j)/2+1,j,by simp,by omega,hj,fun t ht h=>?_,h2⟩,?_⟩⟩⟩,fun hk=>?_⟩
  ·exact Int.lt_of_le_of_lt (rise_le hr (by omega) (by omega)) hk
  ·simp only [List.getD_cons_zero,List.getD_cons_succ];omega
  ·have hup: ∀t,(i+j)/2≤t→∀h:t<l.length,k≤l[t].d.kid:=fun t ht h=>Int.le_trans (by omega) (rise_le hr ht h)
   refine⟨fun _=>⟨_,_,rfl,rfl,⟨i,(i+j)/2,rfl,by omega,by omega,h1,hup⟩,?_⟩,fun _=>⟨_,_,rfl,rfl,⟨i,(i+j)/2,rfl,by omega,by omega,h1,hup⟩,?_⟩⟩
   all_goals
    simp only [List.getD_cons_zero,List.getD_cons_succ];omega
 ·have hji:j=i:=by omega
  subst hji;have hlow:low l k=j:=low_of hj h1 (fun h=>h2 j (by omega) h)
  iterate 4 refine⟨by omega,fun _=>?_⟩
  have hno:holds l k=true→∃h:j<l.length,l[j].d.kid=k:=fun h=>by
   obtain⟨q1,q2⟩:=(holds_at hr).1 h;simp only [hlow]at q1 q2;exact⟨q1,q2⟩
  refine⟨fun hlt _=>?_,fun hlt=>⟨?_,rfl⟩⟩
  ·have hjl:j<l.length:=by omega
   rw [Int.toNat_natCast,kid_at l _ hjl];refine⟨fun h=>⟨?_,rfl⟩,fun h=>⟨fun h3=>⟨?_,rfl⟩,fun h3=>⟨?_,rfl⟩⟩⟩
   ·rw [hlow,show holds l k=false from Bool.eq_false_iff.2 fun hq=>by obtain⟨_,q2⟩:=hno hq;omega]
   ·rw [hlow,show holds l k=false from Bool.eq_false_iff.2 fun hq=>by obtain⟨_,q2⟩:=hno hq;omega]
   ·rw [hlow,(holds_at hr).2 ⟨by omega,by simp only [hlow];omega⟩]
  ·rw [hlow,show holds l k=false from Bool.eq_false_iff.2 fun hq=>by obtain⟨q1,_⟩:=hno hq;omega]
theorem Ent.rowOne(b t s:Nat)(cs:List Value)(h:cs.length=s)(h1: ∀u∈cs,u.oneCell'=true):Ent [rowHP b true cs] [sliHP true t s (.slice (some ⟨b,0,none⟩) 1 1) 1 cs]:=
 Ent.put 0 _ _ rfl (fun _=>rfl) fun w S hp=>by
  obtain⟨q1,ty,fz,q2,q3⟩:=hp;refine⟨S,fun _ h=>h,?_,fun k=>?_⟩
  ·simp only [if_true];refine⟨by omega,.inr ⟨b,0,1,cs.toArray,rfl,⟨ty,fz,q2,?_⟩,Nat.le_refl _,by decide,fun _=>by simp only [List.size_toArray];omega,by rw [List.drop_zero,Nat.one_mul,←h];exact List.take_length⟩⟩;rw [q3 rfl];exact .zero (.inr (by simpa using h1))
  ·rw [q1 k];simp [Value.ownBlock,eq_comm]
theorem hold_meets(b b1:Nat)(m:Me)(v0 v1 v2:V1)(d:Di)(hl:(m.held.length+1)*72≤140737488355328)(hr:Rise m.held):
  Meets Tryz.prog 54 [.pointer (some ⟨b,0,none⟩),.agg (diC d).toArray] [mrow b b1 m v0 v1 v2,heldHP true v1 m.held]
   fun r hs=> ∃v:V1,r= .tuple #[]∧hs=[mrow b b1 m v0 v v2,heldHP true v (hold m.held d)]:=by
 obtain⟨l,hlm⟩: ∃l,l=m.held:=⟨_,rfl⟩;have base:=mt_hold (fun r hs=> ∃v:V1,r= .tuple #[]∧hs=[mrow b b1 m v0 v v2,heldHP true v (hold l d)]) m.sf.1 m.sf.2 (bI m.so) m.ep (l.length:Int) d.ep d.sa d.sd d.kid d.key (fun i=>m.g.getD i 0)
  (gF (l.map (·.d))) (fF (l.map (·.d)) (·.ep)) (fF (l.map (·.d)) (·.sa)) (fF (l.map (·.d)) (·.sd)) (fF (l.map (·.d)) (·.kid)) (fF (l.map (·.d)) (·.key)) (hF l (·.til)) (hF l fun e=>bI e.ends) (fun i=>d.g.getD i 0) v0 v1 v2 b b1
 rw [mR_row,hK_held,dV_eq]at base;rw [hlm]at base;refine base ?_;rw [←hlm]at hl hr ⊢;unfold st_hold;rw [mR_row,hK_held];have hf:=find_meets b b1 m v0 v1 v2 d.kid (by rw [←hlm];omega) (by rw [←hlm];exact hr);rw [←hlm]at hf;intro _;refine⟨_,hf,fun x hs hq=>?_⟩;obtain⟨rfl,rfl⟩:=hq;refine⟨_,_,rfl,rfl,fun b3=>?_⟩;have hi:=insert_meets v1 ⟨.slice (some ⟨b3,0,none⟩) 1 1,rfl⟩ l ⟨d,0,false⟩ (low l d.kid) (low_le _ _) hl;have hrow:(List.append (segCells .u8 16 (fun i=>d.g.getD i 0)) ([.int .u64 d.ep,.int .u8 d.sa,.int .u8 d.sd,.int .u64 d.kid,.string ⟨(strD (srowF d.key)).toArray⟩,.int .u64 0,.bool false]))=heC ⟨d,0,false⟩:=by
  simp only [heC,diC,srowF,strD_rowS,List.append_assoc];rfl
 rw [hrow];have hent:Ent [heldHP true v1 l,rowHP b3 true (heC ⟨d,0,false⟩)] [heldHP true v1 l,heldHP true ⟨.slice (some ⟨b3,0,none⟩) 1 1,rfl⟩ [⟨d,0,false⟩]]:=by
  have:=Ent.rowOne b3 144 23 (heC ⟨d,0,false⟩) (heC_len _) (heC_one _);refine Ent.trans (Ent.perm (List.Perm.swap _ _ _)) (Ent.trans (Ent.frame this [heldHP true v1 l]) (Ent.trans (Ent.perm (List.Perm.swap _ _ _)) ?_));rw [show heldHP true ⟨.slice (some ⟨b3,0,none⟩) 1 1,rfl⟩ [⟨d,0,false⟩]=sliHP true 144 23 (.slice (some ⟨b3,0,none⟩) 1 1) 1 (heC ⟨d,0,false⟩) by simp [heldHP]];exact Ent.refl _
 refine⟨_,hi.pre hent,fun x hs hq=>?_⟩;obtain⟨v',rfl,rfl⟩:=hq;refine⟨v',_,_,_,_,_,_,_,_,_,rfl,by rw [←hK_held],v',rfl,?_⟩;rw [mR_row,hK_held];rfl
end Go.RX.Gf

namespace Go.RX.Gf
open Go Go.RX Go.Proofs Go.Gp Go.RX.Gb
theorem tab_take{cols:List (Nat→List Value)}{W k n:Nat}(hrow: ∀i,(cols.flatMap fun c=>c i).length=W)(h:k≤n):(tabL n cols).take (k*W)=tabL k cols:=by
 have hlen: ∀m,(tabL m cols).length=m*W:=by
  intro m
  induction m with
  | zero=>simp [tabL]
  | succ m ih=>
   unfold tabL at ih ⊢;rw [List.range_succ,List.flatMap_append,List.length_append,ih,Nat.add_mul];simp [hrow]
 obtain⟨m,rfl⟩:=Nat.exists_eq_add_of_le h;have e:tabL (k+m) cols=tabL k cols++((List.range m).map (k+ ·)).flatMap fun i=>cols.flatMap fun c=>c i:=by
  unfold tabL;rw [List.range_add,List.flatMap_append]
 rw [e,←hlen k];exact List.take_left
theorem heIs_move{A B C D E F G H:Nat→Int}{k j t:Nat}{e:He}(h:if t=k then HeIs A B C D E F G H j e else HeIs A B C D E F G H t e):
  HeIs (splF A (k*16) 16 (shiftF A (j*16))) (updF B k (B j)) (updF C k (C j)) (updF D k (D j)) (updF E k (E j)) (updF F k (F j)) (updF G k (G j)) (updF H k (H j)) t e:=by
 by_cases ht:t=k
 ·subst ht;rw [if_pos rfl]at h;obtain⟨⟨h1,h2,h3,h4,h5,h6⟩,h7,h8⟩:=h;refine⟨⟨fun i hi=>?_,?_,?_,?_,?_,?_⟩,?_,?_⟩
  ·simp only [splF,shiftF];rw [if_pos (by omega),show j*16+(t*16+i - t*16)=j*16+i by omega];exact h1 i hi
  all_goals simp only [updF,if_true];assumption
 ·rw [if_neg ht]at h;obtain⟨⟨h1,h2,h3,h4,h5,h6⟩,h7,h8⟩:=h;refine⟨⟨fun i hi=>?_,?_,?_,?_,?_,?_⟩,?_,?_⟩
  ·simp only [splF];rw [if_neg (by omega)];exact h1 i hi
  all_goals simp only [updF,if_neg ht];assumption
theorem heIs_zero{A B C D E F G H:Nat→Int}{k m t:Nat}{e:He}(z:Nat→Int)(hk:t<k)(h:HeIs A B C D E F G H t e):
  HeIs (splF A (k*16) (m*16) z) (splF B k m z) (splF C k m z) (splF D k m z) (splF E k m z) (splF F k m z) (splF G k m z) (splF H k m z) t e:=by
 obtain⟨⟨h1,h2,h3,h4,h5,h6⟩,h7,h8⟩:=h;refine⟨⟨fun i hi=>?_,?_,?_,?_,?_,?_⟩,?_,?_⟩
 ·simp only [splF];rw [if_neg (by omega)];exact h1 i hi
 all_goals simp only [splF];rw [if_neg (by omega)];assumption
abbrev gone(now:Int)(e:He):Bool:=e.ends&&decide (e.til≤now)
theorem tick_succ(l:List He)(now:Int)(j:Nat)(hj:j<l.length):tick (l.take (j+1)) now=tick (l.take j) now++if gone now l[j]then []else [l[j]]:=by
 unfold tick;rw [List.take_add_one,List.getElem?_eq_getElem hj,List.filter_append];congr 1;show List.filter _ [l[j]]=_;rw [List.filter_cons,List.filter_nil];by_cases h:gone now l[j]=true
 ·rw [if_pos h,if_neg (by rw [Bool.not_eq_true'];exact fun h'=>by simp only [gone]at h;rw [h]at h';cases h')]
 ·rw [if_neg h,if_pos (by rw [Bool.not_eq_true'];exact Bool.eq_false_iff.2 h)]
theorem tick_len(l:List He)(now:Int)(j:Nat):(tick (l.take j) now).length≤j:=by
 unfold tick;exact Nat.le_trans (List.length_filter_le _ _) (by rw [List.length_take];omega)
theorem gone_at(l:List He)(now:Int)(j:Nat)(hj:j<l.length){A B C D E F G H:Nat→Int}(h:HeIs A B C D E F G H j l[j]):(H j≠0∧G j≤now)↔gone now l[j]=true:=by
 obtain⟨_,h7,h8⟩:=h;simp only [gone,Bool.and_eq_true,decide_eq_true_eq,←h7,←h8];simp
theorem row23(A B C D E F G H:Nat→Int)(i:Nat):([colI .u8 16 A,colI .u64 1 B,colI .u8 1 C,colI .u8 1 D,colI .u64 1 E,colS 1 F,colI .u64 1 G,colB 1 H].flatMap fun c=>c i).length=23:=by
 simp [colI,colS,colV,colB,segCells_length]
theorem tick_meets(b b1:Nat)(m:Me)(v0 v1 v2:V1)(now:Int)(hl:m.held.length<4611686018427387904):
  Meets Tryz.prog 13 [.pointer (some ⟨b,0,none⟩),.int .u64 now] [mrow b b1 m v0 v1 v2,heldHP true v1 m.held]
   fun r hs=> ∃v:V1,r= .tuple #[]∧hs=[mrow b b1 m v0 v v2,heldHP true v (tick m.held now)]:=by
 obtain⟨l,hlm⟩: ∃l,l=m.held:=⟨_,rfl⟩;rw [←hlm]at hl ⊢;have base:=mt_tick (fun r hs=> ∃v:V1,r= .tuple #[]∧∃hs',Ent hs hs'∧hs'=[mrow b b1 m v0 v v2,heldHP true v (tick l now)]) m.sf.1 m.sf.2 (bI m.so) m.ep (l.length:Int) now (fun i=>m.g.getD i 0)
  (gF (l.map (·.d))) (fF (l.map (·.d)) (·.ep)) (fF (l.map (·.d)) (·.sa)) (fF (l.map (·.d)) (·.sd)) (fF (l.map (·.d)) (·.kid)) (fF (l.map (·.d)) (·.key)) (hF l (·.til)) (hF l fun e=>bI e.ends) v0 v1 v2 b b1
 rw [mR_row,hK_held]at base;refine(base ?_).post fun r hs ⟨v',h1,hs',h2,h3⟩=>⟨hs',h2,v',h1,h3⟩
 unfold st_tick;rw [mR_row,hK_held];have hat:=heIs_list l;have hg:=fun j hj=>gone_at l now j hj (hat j hj)
 have all0:(∀j,∀h:j<l.length,gone now l[j]=false)→tick l now=l:=fun h=>by
  unfold tick;rw [List.filter_eq_self];intro a ha;obtain⟨j,hj,rfl⟩:=List.getElem_of_mem ha;have:=h j hj;simp only [gone]at this;simp [this]
 intro _;refine⟨by omega,fun _=>⟨fun x=> ∃i:Nat,x=⟨[],[],[(i:Int)],[],[],[],[]⟩∧i≤l.length∧∀j,j<i→∀h:j<l.length,gone now l[j]=false,fun x=>l.length - (x.i.getD 0 0).toNat,⟨0,rfl,0,rfl,by omega,fun j hj=>by omega⟩,?_⟩⟩;rintro x6 ⟨i,he,hi,hb⟩;cases he;refine⟨fun hlt=>⟨by omega,fun _ _=>?_⟩,fun hge=>?_⟩
 ·have hil:i<l.length:=by omega
  rw [Int.toNat_natCast];refine⟨fun hgo=>⟨fun h=>absurd h (by omega),fun _=>⟨by omega,fun _=>⟨by omega,fun _=>?_⟩⟩⟩,fun hgo=>⟨by omega,fun _=>⟨by omega,fun _=>⟨_,rfl,⟨i+1,by simp,by omega,fun j hj hjl=>?_⟩,?_⟩⟩⟩⟩
  ·have hgo:=(hg i hil).1 hgo;have hpre:tick (l.take i) now=l.take i:=by
    unfold tick;rw [List.filter_eq_self];intro a ha;obtain⟨j,hj,rfl⟩:=List.getElem_of_mem ha;rw [List.length_take]at hj;have:=hb j (by omega) (by omega);simp only [gone]at this;rw [List.getElem_take];simp [this]
   refine⟨fun x=> ∃(k j:Nat) (A B C D E F G H:Nat→Int),x=⟨[],[],[(k:Int),(j:Int)],[A,B,C,D,E,F,G,H],[],[],[]⟩∧j≤l.length∧k<j∧(tick (l.take j) now).length=k∧
     (∀t,∀h:t<(tick (l.take j) now).length,HeIs A B C D E F G H t (tick (l.take j) now)[t])∧∀t,j≤t→∀h:t<l.length,HeIs A B C D E F G H t l[t],
    fun x=>l.length - (x.i.getD 1 0).toNat,⟨_,_,_,_,_,_,_,_,_,_,rfl,rfl,fun _ _=>rfl,fun _ _=>rfl,fun _ _=>rfl,fun _ _=>rfl,fun _ _=>rfl,fun _ _=>rfl,fun _ _=>rfl,fun _ _=>rfl,
     i,i+1,_,_,_,_,_,_,_,_,rfl,by omega,by omega,?_,fun t ht=>?_,fun t _ ht=>hat t ht⟩,?_⟩
   ·rw [tick_succ l now i hil,if_pos hgo,List.append_nil,hpre,List.length_take];omega
   ·have e:tick (l.take (i+1)) now=l.take i:=by rw [tick_succ l now i hil,if_pos hgo,List.append_nil,hpre]
    simp only [e]at ht ⊢;rw [List.getElem_take];exact hat t (by rw [List.length_take]at ht;omega)
   rintro x7 x8 A9 A10 A11 A12 A13 A14 A15 A16 ⟨k,j,A,B,C,D,E,F,G,H,he,hj,hkj,hk,h1,h2⟩;cases he;refine⟨by omega,fun _=>⟨fun hlt2=>⟨by omega,fun _ _ _=>?_⟩,fun hge2=>?_⟩⟩
   ·have hjl:j<l.length:=by omega
    have hgj:=gone_at l now j hjl (h2 j (by omega) hjl);rw [Int.toNat_natCast];refine⟨fun hkeep=>?_,fun hdrop=>?_⟩
    ·have hno: ¬gone now l[j]=true:=fun h=>hkeep (hgj.2 h)
     have e:tick (l.take (j+1)) now=tick (l.take j) now++[l[j]]:=by rw [tick_succ l now j hjl,if_neg hno]
     iterate 6 refine⟨by omega,fun _=>?_⟩
     rw [Int.toNat_natCast,show((k:Int)*16).toNat=k*16 by omega,show((j:Int)*16).toNat=j*16 by omega];refine⟨_,_,_,_,_,_,_,_,_,_,rfl,rfl,fun _ _=>rfl,fun _ _=>rfl,fun _ _=>rfl,fun _ _=>rfl,fun _ _=>rfl,fun _ _=>rfl,fun _ _=>rfl,fun _ _=>rfl,
      ⟨k+1,j+1,_,_,_,_,_,_,_,_,rfl,by omega,by omega,?_,fun t ht=>?_,fun t ht htl=>?_⟩,?_⟩
     ·rw [e,List.length_append,hk];rfl
     ·simp only [e]at ht ⊢;rw [List.length_append,List.length_singleton,hk]at ht;refine heIs_move ?_;by_cases htk:t=k
      ·rw [if_pos htk];rw [List.getElem_append_right (by omega)];simp only [List.getElem_singleton];exact h2 j (by omega) hjl
      ·rw [if_neg htk,List.getElem_append_left (by omega)];exact h1 t (by omega)
     ·refine heIs_move ?_;rw [if_neg (by omega)];exact h2 t (by omega) htl
     ·simp only [List.getD_cons_zero,List.getD_cons_succ];omega
    ·have hyes:gone now l[j]=true:=hgj.1 (Classical.not_not.1 hdrop);have e:tick (l.take (j+1)) now=tick (l.take j) now:=by rw [tick_succ l now j hjl,if_pos hyes,List.append_nil]
     refine⟨by omega,fun _=>⟨by omega,fun _=>⟨_,_,_,_,_,_,_,_,_,_,rfl,rfl,fun _ _=>rfl,fun _ _=>rfl,fun _ _=>rfl,fun _ _=>rfl,fun _ _=>rfl,fun _ _=>rfl,fun _ _=>rfl,fun _ _=>rfl,
      ⟨k,j+1,_,_,_,_,_,_,_,_,rfl,by omega,by omega,by rw [e];exact hk,fun t ht=>?_,fun t ht htl=>h2 t (by omega) htl⟩,?_⟩⟩⟩
     ·simp only [e]at ht ⊢;exact h1 t ht
     ·simp only [List.getD_cons_zero,List.getD_cons_succ];omega
   ·have hjl:j=l.length:=by omega
    subst hjl;rw [List.take_length]at hk h1
    iterate 3 refine⟨by omega,fun _=>?_⟩
    rw [Int.toNat_natCast,show((k:Int)*16).toNat=k*16 by omega,show(((l.length:Int) - k)*16).toNat=(l.length - k)*16 by omega,show((l.length:Int) - k).toNat=l.length - k by omega];refine⟨⟨_,subSlice_one 23 v1.v 0 k none⟩,rfl,_,Ent.put 1 _ (sliHP true 144 23 (subSlice 23 v1.v 0 k none) k _) rfl (fun _=>rfl) fun w S hp=>⟨S,fun _ h=>h,sli_cut hp (by rw [Int.toNat_natCast];omega)⟩,?_⟩;rw [Int.toNat_natCast,tab_take (row23 _ _ _ _ _ _ _ _) (by omega),tab_held (l:=tick l now) hk.symm fun t ht=>heIs_zero _ (by omega) (h1 t ht)];simp only [List.set_cons_succ,List.set_cons_zero,mrow,heldHP,hk];have:(!(bI m.so==0))=m.so:=by unfold bI;cases m.so<;>rfl
    rw [this]
  ·by_cases hji:j=i
   ·subst hji;exact Bool.eq_false_iff.2 fun h=>hgo ((hg j hil).2 h)
   ·exact hb j (by omega) hjl
  ·simp only [List.getD_cons_zero];omega
 ·have:i=l.length:=by omega
  subst this;exact⟨v1,rfl,_,Ent.refl _,by rw [all0 fun j h=>hb j h h]⟩
end Go.RX.Gf

namespace Go.RX.Gf
open Go Go.RX Go.Proofs Go.Gp Go.RX.Gb
def Ok1(d:Di):Prop:=d.g.length=16∧∃s:List UInt8,d.key=((sCode s:Nat):Int)
theorem list_eq16{a b:List Int}(ha:a.length=16)(hb:b.length=16):(∀i,i<16→a.getD i 0=b.getD i 0)↔a=b:=by
 constructor
 ·intro h;apply List.ext_getElem (by omega);intro i h1 h2;have:=h i (by omega);simpa [List.getD_eq_getElem?_getD,List.getElem?_eq_getElem h1,List.getElem?_eq_getElem h2] using this
 ·rintro rfl _ _;rfl
theorem key_eq{a b:Int}(ha: ∃s:List UInt8,a=((sCode s:Nat):Int))(hb: ∃s:List UInt8,b=((sCode s:Nat):Int)):strD (srowF a)=strD (srowF b)↔a=b:=by
 obtain⟨s,rfl⟩:=ha;obtain⟨t,rfl⟩:=hb;simp only [srowF,strD_rowS,sDec_code];exact⟨fun h=>by rw [h],fun h=>by rw [←sDec_code s,h,sDec_code]⟩
theorem di_eq{a b:Di}(ha:Ok1 a)(hb:Ok1 b):((∀i,i<16→a.g.getD i 0=b.g.getD i 0)∧a.ep=b.ep∧a.sa=b.sa∧a.sd=b.sd∧a.kid=b.kid∧strD (srowF a.key)=strD (srowF b.key))↔a=b:=by
 rw [list_eq16 ha.1 hb.1,key_eq ha.2 hb.2];cases a;cases b;simp only [Di.mk.injEq]
theorem waits_meets(b b1:Nat)(m:Me)(v0 v1 v2:V1)(d:Di)(hl:m.wait.length≤64)(hd:Ok1 d)(hw: ∀w∈m.wait,Ok1 w):
  Meets Tryz.prog 57 [.pointer (some ⟨b,0,none⟩),.agg (diC d).toArray] [mrow b b1 m v0 v1 v2,waitHP true v2 m.wait]
   fun r hs=> ∃v:V1,r= .int .i64 (waits m.wait d).1∧hs=[mrow b b1 m v0 v1 v,waitHP true v (waits m.wait d).2]:=by
 obtain⟨l,hlm⟩: ∃l,l=m.wait:=⟨_,rfl⟩;rw [←hlm]at hl hw ⊢;have base:=mt_waits (fun r hs=> ∃v:V1,r= .int .i64 (waits l d).1∧hs=[mrow b b1 m v0 v1 v,waitHP true v (waits l d).2]) m.sf.1 m.sf.2 (bI m.so) m.ep (l.length:Int) d.ep d.sa d.sd d.kid d.key (fun i=>m.g.getD i 0)
  (gF l) (fF l (·.ep)) (fF l (·.sa)) (fF l (·.sd)) (fF l (·.kid)) (fF l (·.key)) (fun i=>d.g.getD i 0) v0 v1 v2 b b1
 rw [mR_row,wK_wait,dV_eq]at base;refine base ?_;unfold st_waits;rw [mR_row,wK_wait];have hat:=diIs_list l;have first: ∀i,∀h:i<l.length,(∀j,j<i→∀h:j<l.length,l[j]≠d∧l[j].kid≠d.kid)→(l[i]=d∨l[i].kid=d.kid)→waits l d=(if l[i]=d then 0 else 6,l):=by
  intro i h hb hq;have:(l.find? fun w=>decide (w=d∨w.kid=d.kid))=some l[i]:=by
   rw [List.find?_eq_some_iff_getElem];refine⟨by simpa using hq,i,h,rfl,fun j hj=>?_⟩;have:=hb j hj (by omega);simp [this.1,this.2]
  simp only [waits,this]
 have none_:(∀j,∀h:j<l.length,l[j]≠d∧l[j].kid≠d.kid)→waits l d=if 64≤l.length then(7,l)else(0,l++[d]):=by
  intro hb;have:(l.find? fun w=>decide (w=d∨w.kid=d.kid))=none:=by
   rw [List.find?_eq_none];intro x hx;obtain⟨j,hj,rfl⟩:=List.getElem_of_mem hx;have:=hb j hj;simp [this.1,this.2]
  simp only [waits,this]
 intro _;refine⟨by omega,fun _=>⟨fun x=> ∃i:Nat,x=⟨[],[],[(i:Int)],[],[],[],[]⟩∧i≤l.length∧∀j,j<i→∀h:j<l.length,l[j]≠d∧l[j].kid≠d.kid,fun x=>l.length - (x.i.getD 0 0).toNat,⟨0,rfl,0,rfl,by omega,fun j hj=>by omega⟩,?_⟩⟩;rintro x4 ⟨i,he,hi,hb⟩;cases he;refine⟨fun hlt=>⟨by omega,fun _ _=>?_⟩,fun hge=>?_⟩
 ·have hil:i<l.length:=by omega
  obtain⟨h1,h2,h3,h4,h5,h6⟩:=hat i hil;rw [Int.toNat_natCast,show((i:Int)*16).toNat=i*16 by omega,h2,h3,h4,h5,h6];have hc:((∀j,j<16→shiftF (gF l) (i*16) j=d.g.getD j 0)∧l[i].ep=d.ep∧l[i].sa=d.sa∧l[i].sd=d.sd∧l[i].kid=d.kid∧strD (srowF l[i].key)=strD (srowF d.key))↔l[i]=d:=by
   rw [←di_eq (hw _ (List.getElem_mem hil)) hd];exact and_congr_left' ⟨fun h j hj=>by rw [←h1 j hj];exact h j hj,fun h j hj=>by rw [←h j hj];exact h1 j hj⟩
  refine⟨fun h=>?_,fun h=>⟨fun hk=>?_,fun hk=>⟨by omega,fun _=>⟨by omega,fun _=>⟨_,rfl,⟨i+1,by simp,by omega,fun j hj hjl=>?_⟩,?_⟩⟩⟩⟩⟩
  ·have:=hc.1 h;rw [first i hil hb (.inl this),if_pos this];exact⟨v2,rfl,rfl⟩
  ·have:l[i]≠d:=fun e=>h (hc.2 e)
   rw [first i hil hb (.inr hk),if_neg this];exact⟨v2,rfl,rfl⟩
  ·by_cases hji:j=i
   ·subst hji;exact⟨fun e=>h (hc.2 e),hk⟩
   ·exact hb j (by omega) hjl
  ·simp only [List.getD_cons_zero];omega
 ·have:i=l.length:=by omega
  subst this;have hn:=none_ fun j h=>hb j h h
  refine⟨by omega,fun _=>⟨fun h64=>?_,fun h64=>?_⟩⟩
  ·rw [hn,if_pos (by omega)];exact⟨v2,rfl,rfl⟩
  ·have hfin: ∀v3:V1,[mR b b1 m.sf.1 m.sf.2 (bI m.so) (fun i=>m.g.getD i 0) m.ep v0 v1 v3,wK true v3 ((l.length:Int)+1) (splF (gF l) (Int.toNat ((l.length:Int)*16)) 16 (splF (fun _=>0) 0 16 fun i=>d.g.getD i 0)) (splF (fF l (·.ep)) (Int.toNat (l.length:Int)) 1 (updF (fun _=>0) 0 d.ep)) (splF (fF l (·.sa)) (Int.toNat (l.length:Int)) 1 (updF (fun _=>0) 0 d.sa)) (splF (fF l (·.sd)) (Int.toNat (l.length:Int)) 1 (updF (fun _=>0) 0 d.sd)) (splF (fF l (·.kid)) (Int.toNat (l.length:Int)) 1 (updF (fun _=>0) 0 d.kid)) (splF (fF l (·.key)) (Int.toNat (l.length:Int)) 1 (updF (fun _=>0) 0 d.key))]=
     [mrow b b1 m v0 v1 v3,waitHP true v3 (l++[d])]:=by
    intro v3;rw [mR_row];congr 2;have hlen:(l++[d]).length=l.length+1:=by simp
    simp only [wK,waitHP,hlen];rw [show((l.length:Int)+1).toNat=l.length+1 by omega,show((l.length:Int)*16).toNat=l.length*16 by omega,Int.toNat_natCast];congr 1;refine tab_wait hlen.symm fun j hj=>?_
    rw [hlen]at hj;by_cases hjl:j<l.length
    ·rw [List.getElem_append_left hjl];obtain⟨g1,g2,g3,g4,g5,g6⟩:=hat j hjl;refine⟨fun k hk=>?_,?_,?_,?_,?_,?_⟩
     ·simp only [splF];rw [if_neg (by omega)];exact g1 k hk
     all_goals simp only [splF];rw [if_neg (by omega)];assumption
    ·have hje:j=l.length:=by omega
     subst hje;rw [List.getElem_append_right (by omega)];simp only [Nat.sub_self,List.getElem_singleton];refine⟨fun k hk=>?_,?_,?_,?_,?_,?_⟩
     ·simp only [splF];rw [if_pos (by omega),if_pos (by omega)];congr 1;omega
     all_goals simp only [splF,updF];rw [if_pos (by omega),if_pos (by omega)]
   rw [hn,if_neg (by omega)];refine⟨fun _=>⟨by omega,fun _ v3=>⟨v3,rfl,hfin v3⟩⟩,fun _=>⟨by omega,fun _ v3=>⟨v3,rfl,hfin v3⟩⟩⟩
end Go.RX.Gf

namespace Go.RX.Gf
open Go Go.RX Go.Proofs Go.Gp Go.RX.Gb
structure Fit (m:Me):Prop where
 rise:Rise m.held
 held:(m.held.length+1)*72≤140737488355328
 wait:m.wait.length≤64
 mem:m.mem.length<9223372036854775807
 okH: ∀h∈m.held,Ok1 h.d
 okW: ∀w∈m.wait,Ok1 w
 okG:m.so=true→m.g.length=16
theorem bI_nz(q:Bool):bI q≠0↔q=true:=by cases q<;>simp [bI]
theorem take_meets(b b1:Nat)(m:Me)(v0 v1 v2:V1)(d:Di)(hf:Fit m)(hd:Ok1 d):
  Meets Tryz.prog 11 [.pointer (some ⟨b,0,none⟩),.agg (diC d).toArray] [mrow b b1 m v0 v1 v2,devHP true v0 m.mem,heldHP true v1 m.held,waitHP true v2 m.wait]
   fun r hs=> ∃u1 u2:V1,r= .int .i64 (take m d).1∧hs=[mrow b b1 m v0 u1 u2,devHP true v0 m.mem,heldHP true u1 (take m d).2.1,waitHP true u2 (take m d).2.2]:=by
 obtain⟨Post,hP⟩: ∃Post:PT,Post=fun r hs=> ∃u1 u2:V1,r= .int .i64 (take m d).1∧hs=[mrow b b1 m v0 u1 u2,devHP true v0 m.mem,heldHP true u1 (take m d).2.1,waitHP true u2 (take m d).2.2]:=⟨_,rfl⟩
 rw [←hP];have ret: ∀(e:Int) (h:List He) (w:List Di) (u1 u2:V1),take m d=(e,h,w)→Post (.int .i64 e) [mrow b b1 m v0 u1 u2,devHP true v0 m.mem,heldHP true u1 h,waitHP true u2 w]:=by
  intro e h w u1 u2 ht;rw [hP,ht];exact⟨u1,u2,rfl,rfl⟩
 have base:=mt_take Post m.sf.1 m.sf.2 (bI m.so) m.ep (m.mem.length:Int) (m.held.length:Int) (m.wait.length:Int) d.ep d.sa d.sd d.kid d.key (fun i=>m.g.getD i 0) (pF m.mem (·.1)) (pF m.mem (·.2))
  (gF (m.held.map (·.d))) (fF (m.held.map (·.d)) (·.ep)) (fF (m.held.map (·.d)) (·.sa)) (fF (m.held.map (·.d)) (·.sd)) (fF (m.held.map (·.d)) (·.kid)) (fF (m.held.map (·.d)) (·.key)) (hF m.held (·.til)) (hF m.held fun e=>bI e.ends)
  (gF m.wait) (fF m.wait (·.ep)) (fF m.wait (·.sa)) (fF m.wait (·.sd)) (fF m.wait (·.kid)) (fF m.wait (·.key)) (fun i=>d.g.getD i 0) v0 v1 v2 b b1
 rw [mR_row,dK_dev,hK_held,wK_wait,dV_eq]at base;refine base ?_;unfold st_take;simp only [mR_row,dK_dev,hK_held,wK_wait,dV_eq];have hb:=hf.held;intro _;refine⟨_,may_meets d,fun x hs hq=>?_⟩;obtain⟨rfl,rfl⟩:=hq;refine⟨_,rfl,rfl,fun h1=>?_,fun h1=>?_⟩
 ·refine ret _ _ _ _ _ ?_;rw [take,if_pos];rcases h1 with(h | h) | ⟨h,h'⟩
  ·exact .inl (Bool.eq_false_iff.2 h)
  ·exact .inr (.inl (Prod.ext h.1 h.2))
  ·rw [bI_nz]at h;rw [list_eq16 hd.1 (hf.okG h)]at h';exact .inr (.inr ⟨h,h'⟩)
 have g1: ¬(mayD d=false∨(d.sa,d.sd)=m.sf∨m.so=true∧d.g≠m.g):=by
  rintro (h | h | ⟨h,h'⟩)
  ·exact h1 (.inl (.inl (by rw [h];simp)))
  ·exact h1 (.inl (.inr ⟨by rw [←h],by rw [←h]⟩))
  ·exact h1 (.inr ⟨(bI_nz _).2 h,by rw [list_eq16 hd.1 (hf.okG h)];exact h'⟩)
 refine⟨fun h2=>?_,fun h2=>?_⟩
 ·have g2:m.so=false∨m.ep<d.ep:=by
   rcases h2 with h | h
   ·rw [bI_nz]at h;exact .inl (Bool.eq_false_iff.2 h)
   ·exact .inr h
  refine⟨_,waits_meets b b1 m v0 v1 v2 d hf.wait hd hf.okW,fun x hs hq=>?_⟩;obtain⟨v,rfl,rfl⟩:=hq;refine⟨v,_,_,_,_,_,_,_,_,rfl,by rw [←wK_wait],?_⟩;rw [wK_wait];refine ret _ _ _ _ _ ?_;rw [take,if_neg g1,if_pos g2]
 have g2: ¬(m.so=false∨m.ep<d.ep):=by
  rintro (h | h)
  ·exact h2 (.inl (by rw [bI_nz,h];simp))
  ·exact h2 (.inr h)
 refine⟨fun h3=>?_,fun h3=>?_⟩
 ·refine ret _ _ _ _ _ ?_;rw [take,if_neg g1,if_neg g2,if_pos h3]
 refine⟨_,has_meets m.g m.ep v0 m.mem m.sf hf.mem,fun x hs hq=>?_⟩;obtain⟨rfl,rfl⟩:=hq;refine⟨_,rfl,rfl,fun h4=>?_,fun h4=>?_⟩;rotate_left
 ·refine ret _ _ _ _ _ ?_;rw [take,if_neg g1,if_neg g2,if_neg h3,if_pos (.inl (by simpa using h4))]
 have h4:m.sf∈m.mem:=by simpa using h4
 refine⟨_,has_meets m.g m.ep v0 m.mem (d.sa,d.sd) hf.mem,fun x hs hq=>?_⟩;obtain⟨rfl,rfl⟩:=hq;refine⟨_,rfl,rfl,fun h5=>?_,fun h5=>?_⟩
 ·refine ret _ _ _ _ _ ?_;rw [take,if_neg g1,if_neg g2,if_neg h3,if_pos (.inr (by simpa using h5))]
 have h5:(d.sa,d.sd)∈m.mem:=by simpa using h5
 have g4: ¬(m.sf ∉ m.mem∨(d.sa,d.sd) ∉ m.mem):=by
  rintro (h | h)
  ·exact h h4
  ·exact h h5
 refine⟨_,find_meets b b1 m v0 v1 v2 d.kid (by omega) hf.rise,fun x hs hq=>?_⟩;obtain⟨rfl,rfl⟩:=hq;refine⟨_,_,rfl,rfl,fun h6=>?_,fun h6=>?_⟩
 ·obtain⟨hlt,hk⟩:=(holds_at hf.rise).1 h6;have hg:m.held.getD (low m.held d.kid) default=m.held[low m.held d.kid]:=by simp [List.getD_eq_getElem?_getD,List.getElem?_eq_getElem hlt]
  refine⟨by omega,fun _=>⟨by omega,fun _=>?_⟩⟩;have hkey:fF (m.held.map (·.d)) (·.key) (low m.held d.kid)=m.held[low m.held d.kid].d.key:=by simp [fF,hlt]
  rw [Int.toNat_natCast,hkey,key_eq (hf.okH _ (List.getElem_mem hlt)).2 hd.2];refine⟨fun h7=>ret _ _ _ _ _ ?_,fun h7=>ret _ _ _ _ _ ?_⟩
  ·rw [take,if_neg g1,if_neg g2,if_neg h3,if_neg g4,if_pos h6,hg,if_neg h7]
  ·rw [take,if_neg g1,if_neg g2,if_neg h3,if_neg g4,if_pos h6,hg,if_pos (Classical.not_not.1 h7)]
 ·refine⟨_,hold_meets b b1 m v0 v1 v2 d hb hf.rise,fun x hs hq=>?_⟩;obtain⟨v,rfl,rfl⟩:=hq;refine⟨v,_,_,_,_,_,_,_,_,_,rfl,by rw [←hK_held],?_⟩;rw [hK_held];refine ret _ _ _ _ _ ?_;rw [take,if_neg g1,if_neg g2,if_neg h3,if_neg g4,if_neg h6]
end Go.RX.Gf

namespace Go.RX
theorem Ent.nilS(t s:Nat):Ent [] [sliHP true t s (.slice none 0 0) 0 []]:=by
 intro w Fs ⟨S,hS⟩;refine⟨fun i=>match i with | 0=>fun _=>False | i+1=>S i,⟨?_,?_⟩⟩
 ·intro i x hx
  match i,hx with
  | 0,hx=>
   simp at hx;subst hx;exact⟨⟨by simp only [if_true];exact ownsAt_nil w t s,fun k=>⟨False.elim,fun h=>by simp [Value.ownBlock]at h⟩⟩,fun k h=>h.elim⟩
  | i+1,hx=>exact hS.at_ i x (by simpa using hx)
 ·intro i j x y hne hx hy hw k
  match i,j,hne,hx,hy with
  | 0,_,_,_,_=>exact fun h=>h.elim
  | i+1,0,_,_,_=>exact fun _ h=>h
  | i+1,j+1,hne,hx,hy=>exact hS.apart i j x y (by omega) (by simpa using hx) (by simpa using hy) hw k
theorem Ent.front{A a b:List HP}(h:Ent a b):Ent (A++a) (A++b):=by
 refine Ent.trans (Ent.perm List.perm_append_comm) (Ent.trans (Ent.frame h A) (Ent.perm List.perm_append_comm))
end Go.RX
namespace Go.RX.Gf
open Go Go.RX Go.Proofs Go.Gp Go.RX.Gb
def nil1:V1:=⟨.slice none 0 0,rfl⟩
theorem clone_meets(v:V1)(l:List (Int×Int))(hl:l.length≤70368744177664):
  Meets Tryz.prog 52 [v.v] [devHP true v l] fun r hs=> ∃u:V1,r=u.v∧hs=[devHP true v l,devHP true u l]:=by
 intro w Fs ho;have hnil:nilSl v.v=true→l=[]:=by
  obtain⟨S,hS⟩:=ho;obtain⟨a0,_⟩:=(hS.at_ 0 _ rfl).1;simp only [if_true]at a0;obtain⟨_,⟨_,h⟩ | ⟨g,o,c,u,h,_⟩⟩:=a0
  ·exact fun _=>List.eq_nil_of_length_eq_zero h
  ·intro hn;rw [h]at hn;cases hn
 have base:=mt_clone (fun r hs=> ∃u:V1,r=u.v∧∃hs',Ent hs hs'∧hs'=[devHP true v l,devHP true u l]) 0 0 0 (l.length:Int) (fun _=>0) (pF l (·.1)) (pF l (·.2)) v;rw [dK_dev]at base;refine((base ?_).post fun r hs ⟨v',h1,hs',h2,h3⟩=>⟨hs',h2,v',h1,h3⟩) w Fs ho;unfold st_clone;simp only [dK_dev];refine⟨fun hn=>?_,fun hn v1=>⟨by omega,fun _=>⟨by omega,fun _=>⟨by omega,fun _ v2=>⟨v2,rfl,_,Ent.refl _,rfl⟩⟩⟩⟩⟩;have:=hnil hn;subst this;exact⟨nil1,rfl,_,Ent.front (A:=[devHP true v []]) (Ent.nilS 23 2),rfl⟩
end Go.RX.Gf
