/- Small functions of groups and rosters: a key's number, what may be, who is a member. · A member in memory; where a key stands (find), one more is held (hold), one more waits (waits). · What a member's clock takes from what it holds (Tick); one more that waits (waits). -/
import Derived.Test.YtfnaoeleljhmhaaGreatGfF
import Derived.Test.YtfnaoeleljhmhaaGreatM35

namespace Go.RX.Gf
open Go Go.RX Go.Proofs Go.Gp Go.RX.Gb
theorem w64(x:Int):IntKind.wrap .u64 x=x%18446744073709551616:=rfl
theorem shl5(x:Int):iop .shl .u64 x 5=(x*32)%18446744073709551616:=rfl
theorem kid_eq(x0 x1 x2:Int):IntKind.wrap .u64 ((iop .shl .u64 x0 5)+(IntKind.wrap .u64 ((IntKind.wrap .u64 ((IntKind.wrap .u64 x1)*4))+(IntKind.wrap .u64 x2))))=kidV x0 x1 x2:=by
 simp only [w64,shl5,kidV];omega
theorem kid_meets(ep sa sd:Int):Meets Tryz.prog 21 [.int .u64 ep,.agg #[.int .u8 sa,.int .u8 sd]] [] fun r hs=>r= .int .u64 (kidV ep sa sd)∧hs=[]:=by
 refine mt_kid _ ep sa sd ?_;unfold st_kid;intro _ _;exact⟨by rw [kid_eq],rfl⟩
theorem dV_eq(d:Di):dV (fun i=>d.g.getD i 0) d.ep d.sa d.sd d.kid d.key= .agg (diC d).toArray:=by
 simp only [dV,diC,srowF,strD_rowS];rfl
theorem may_meets(d:Di):Meets Tryz.prog 56 [.agg (diC d).toArray] [] fun r hs=>r= .bool (mayD d)∧hs=[]:=by
 rw [←dV_eq];refine mt_may _ _ _ _ _ _ _ ?_;unfold st_may;intro _;refine⟨fun h _ _=>⟨?_,rfl⟩,fun h=>⟨?_,rfl⟩⟩
 ·rw [kid_eq,mayD,decide_eq_decide.2 (show _↔d.kid=kidV d.ep d.sa d.sd from⟨fun h=>h.2.2.2.2,fun h'=>⟨h.1.1.1,h.1.1.2,h.1.2,h.2,h'⟩⟩)];rfl
 ·rw [mayD,decide_eq_false (fun h'=>h ⟨⟨⟨h'.1,h'.2.1⟩,h'.2.2.1⟩,h'.2.2.2.1⟩)]
def dvC(p:Int×Int):List Value:=[.int .u8 p.1,.int .u8 p.2]
def devHP(md:Bool)(v:V1)(l:List (Int×Int)):HP:=sliHP md 23 2 v.v l.length (l.flatMap dvC)
theorem tab_dev{A B:Nat→Int}{n:Nat}{l:List (Int×Int)}(hn:n=l.length)(h: ∀j (hj:j<l.length),A j=l[j].1∧B j=l[j].2):tabL n [colI .u8 1 A,colI .u8 1 B]=l.flatMap dvC:=by
 subst hn;rw [flat_range];unfold tabL;rw [List.flatMap_def,List.flatMap_def];congr 1;refine List.map_congr_left fun j hj=>?_
 have hj:=List.mem_range.1 hj;obtain⟨h1,h2⟩:=h j hj;rw [List.getElem?_eq_getElem hj];simp [colI,segCells,dvC,h1,h2]
def pF(l:List (Int×Int))(s:Int×Int→Int):Nat→Int:=fun j=>(l[j]?).elim 0 s
theorem pF_at(l:List (Int×Int))(s:Int×Int→Int)(j:Nat)(hj:j<l.length):pF l s j=s l[j]:=by simp [pF,hj]
theorem dK_dev(md:Bool)(v:V1)(l:List (Int×Int)):dK md v (l.length:Int) (pF l (·.1)) (pF l (·.2))=devHP md v l:=by
 simp only [dK,devHP,Int.toNat_natCast];rw [tab_dev rfl fun j hj=>⟨pF_at l _ j hj,pF_at l _ j hj⟩]
def rosV(g:List Int)(ep:Int)(v:Value):Value:= .agg (segCells .u8 16 (fun i=>g.getD i 0)++[.int .u64 ep,v]).toArray
theorem has_meets(g:List Int)(ep:Int)(v:V1)(l:List (Int×Int))(p:Int×Int)(hl:l.length<9223372036854775807):
  Meets Tryz.prog 53 [rosV g ep v.v,.agg #[.int .u8 p.1,.int .u8 p.2]] [devHP true v l] fun r hs=>r= .bool (decide (p∈l))∧hs=[devHP true v l]:=by
 have base:=mt_has (fun r hs=>r= .bool (decide (p∈l))∧hs=[devHP true v l]) ep p.1 p.2 (l.length:Int) (fun i=>g.getD i 0) (pF l (·.1)) (pF l (·.2)) v;rw [dK_dev]at base;refine base ?_;unfold st_has;rw [dK_dev];intro _ _ _ _;refine⟨by omega,fun _=>⟨fun x=> ∃i:Nat,x=⟨[],[],[(i:Int)],[],[],[],[]⟩∧i≤l.length∧∀j,j<i→∀h:j<l.length,l[j]≠p,fun x=>l.length - (x.i.getD 0 0).toNat,⟨0,rfl,0,rfl,by omega,fun j hj=>by omega⟩,?_⟩⟩;rintro x4 ⟨i,he,hi,hb⟩;cases he;refine⟨fun hlt=>⟨by omega,fun _=>?_⟩,fun hge=>⟨?_,rfl⟩⟩
 ·have hil:i<l.length:=by omega
  rw [Int.toNat_natCast,pF_at l _ i hil,pF_at l _ i hil];refine⟨fun h=>⟨?_,rfl⟩,fun h=>⟨by omega,fun _=>⟨by omega,fun _=>⟨_,rfl,⟨i+1,by simp,by omega,fun j hj hjl=>?_⟩,?_⟩⟩⟩⟩
  ·have:p=l[i]:=Prod.ext h.1 h.2;rw [decide_eq_true (this▸List.getElem_mem hil)]
  ·by_cases hji:j=i
   ·subst hji;intro hp;exact h ⟨by rw [hp],by rw [hp]⟩
   ·exact hb j (by omega) hjl
  ·simp only [List.getD_cons_zero];omega
 ·have:i=l.length:=by omega
  subst this;rw [decide_eq_false fun hm=>by
   obtain⟨j,hj,hp⟩:=List.getElem_of_mem hm;exact hb j hj hj hp]
theorem small_meets(v:V1)(l:List (Int×Int))(hl:l.length<9223372036854775807):
  Meets Tryz.prog 97 [v.v] [devHP true v l] fun r hs=>r= .bool (l.all fun p=>decide (p.1<8∧p.2<4))∧hs=[devHP true v l]:=by
 have base:=mt_small (fun r hs=>r= .bool (l.all fun p=>decide (p.1<8∧p.2<4))∧hs=[devHP true v l]) 0 0 0 (l.length:Int) (fun _=>0) (pF l (·.1)) (pF l (·.2)) v;rw [dK_dev]at base;refine base ?_;unfold st_small;rw [dK_dev];refine⟨by omega,fun _=>⟨fun x=> ∃i:Nat,x=⟨[],[],[(i:Int)],[],[],[],[]⟩∧i≤l.length∧∀j,j<i→∀h:j<l.length,l[j].1<8∧l[j].2<4,fun x=>l.length - (x.i.getD 0 0).toNat,⟨0,rfl,0,rfl,by omega,fun j hj=>by omega⟩,?_⟩⟩;rintro x4 ⟨i,he,hi,hb⟩;cases he;refine⟨fun hlt=>⟨by omega,fun _ _=>?_⟩,fun hge=>⟨?_,rfl⟩⟩
 ·have hil:i<l.length:=by omega
  rw [Int.toNat_natCast,pF_at l _ i hil,pF_at l _ i hil];refine⟨fun h=>⟨?_,rfl⟩,fun h=>⟨by omega,fun _=>⟨by omega,fun _=>⟨_,rfl,⟨i+1,by simp,by omega,fun j hj hjl=>?_⟩,?_⟩⟩⟩⟩
  ·have:(l.all fun p=>decide (p.1<8∧p.2<4))=false:=by
    rw [List.all_eq_false];exact⟨l[i],List.getElem_mem hil,by simp;omega⟩
   rw [this]
  ·by_cases hji:j=i
   ·subst hji;omega
   ·exact hb j (by omega) hjl
  ·simp only [List.getD_cons_zero];omega
 ·have:i=l.length:=by omega
  subst this;have:(l.all fun p=>decide (p.1<8∧p.2<4))=true:=by
   rw [List.all_eq_true];intro p hp;obtain⟨j,hj,rfl⟩:=List.getElem_of_mem hp;simpa using hb j hj hj
  rw [this]
theorem ord_meets(a b:Int×Int):Meets Tryz.prog 98 [.agg #[.int .u8 a.1,.int .u8 a.2],.agg #[.int .u8 b.1,.int .u8 b.2]] [] fun r hs=> ∃x:Int,r= .int .i64 x∧hs=[]∧(x<0↔devLt a b=true):=by
 refine mt_ord _ a.1 a.2 b.1 b.2 ?_;unfold st_ord;intro _ _;refine⟨fun h=>⟨fun _ _=>?_,fun _=>⟨fun _ _=>?_,fun _ _=>?_⟩⟩,fun h=>⟨fun h2=>⟨fun _ _=>?_,fun _=>⟨fun _ _=>?_,fun _ _=>?_⟩⟩,fun h2=>⟨fun h3 _=>?_,fun h3=>⟨fun h4 _=>?_,fun h4 _=>?_⟩⟩⟩⟩
 all_goals first | exact⟨-1,rfl,rfl,by simp only [devLt,decide_eq_true_eq];omega⟩ | exact⟨1,rfl,rfl,by simp only [devLt,decide_eq_true_eq];omega⟩ | exact⟨0,rfl,rfl,by simp only [devLt,decide_eq_true_eq];omega⟩
theorem rmay_meets(g:List Int)(ep:Int)(v:V1)(l:List (Int×Int))(hl:l.length<9223372036854775807):
  Meets Tryz.prog 51 [rosV g ep v.v] [devHP true v l] fun r hs=>r= .bool (mayR ep l)∧hs=[devHP true v l]:=by
 have base:=mt_rmay (fun r hs=>r= .bool (mayR ep l)∧hs=[devHP true v l]) ep 0 0 (l.length:Int) (fun i=>g.getD i 0) (pF l (·.1)) (pF l (·.2)) v;rw [dK_dev]at base;refine base ?_;unfold st_rmay;rw [dK_dev];have no1: ¬(1≤ep∧ep≤1099511627776∧l.length≤32)→mayR ep l=false:=fun h=>by simp only [mayR,decide_eq_false h,Bool.false_and]
 intro _;refine⟨by omega,fun _=>⟨fun h1=>⟨_,small_meets v l hl,fun x hs hq=>?_⟩,fun h1=>⟨by rw [no1 (by omega)],rfl⟩⟩⟩;obtain⟨rfl,rfl⟩:=hq;have h1':1≤ep∧ep≤1099511627776∧l.length≤32:=by omega
 have hm:mayR ep l=((l.all fun p=>decide (p.1<8∧p.2<4))&&(List.range (l.length - 1)).all fun i=>devLt (l.getD i (0,0)) (l.getD (i+1) (0,0))):=by
  simp only [mayR,decide_eq_true h1',Bool.true_and]
 refine⟨_,rfl,rfl,fun h2=>⟨by rw [hm,Bool.eq_false_iff.2 h2,Bool.false_and],rfl⟩,fun h2=>?_⟩;have h2:(l.all fun p=>decide (p.1<8∧p.2<4))=true:=by simpa using h2
 rw [h2,Bool.true_and]at hm;refine⟨fun x=> ∃i:Nat,x=⟨[],[],[(i:Int)],[],[],[],[]⟩∧1≤i∧∀j,j+1<i→j+1<l.length→devLt (l.getD j (0,0)) (l.getD (j+1) (0,0))=true,fun x=>l.length - (x.i.getD 0 0).toNat,⟨1,rfl,1,rfl,by omega,fun j hj=>by omega⟩,?_⟩;rintro x4 ⟨i,he,hi,hb⟩;cases he;refine⟨by omega,fun _=>⟨fun hlt=>?_,fun hge=>⟨?_,rfl⟩⟩⟩
 ·iterate 5 refine⟨by omega,fun _=>?_⟩
  have hil:i<l.length:=by omega
  rw [show((i:Int) - 1).toNat=i - 1 by omega,Int.toNat_natCast,pF_at l _ i hil,pF_at l _ i hil,pF_at l _ (i - 1) (by omega),pF_at l _ (i - 1) (by omega)];refine⟨_,ord_meets l[i - 1] l[i],fun x hs hq=>?_⟩;obtain⟨x5,rfl,rfl,hx⟩:=hq;have e1:l.getD (i - 1) (0,0)=l[i - 1]:=by simp [List.getD_eq_getElem?_getD,List.getElem?_eq_getElem (show i - 1<l.length by omega)]
  have e2:l.getD i (0,0)=l[i]:=by simp [List.getD_eq_getElem?_getD,List.getElem?_eq_getElem hil]
  refine⟨x5,rfl,rfl,fun h3=>⟨?_,rfl⟩,fun h3=>⟨by omega,fun _=>⟨by omega,fun _=>⟨_,rfl,⟨i+1,by simp,by omega,fun j hj hjl=>?_⟩,?_⟩⟩⟩⟩
  ·rw [hm];have:(List.range (l.length - 1)).all (fun i=>devLt (l.getD i (0,0)) (l.getD (i+1) (0,0)))=false:=by
    rw [List.all_eq_false];refine⟨i - 1,List.mem_range.2 (by omega),?_⟩;rw [show i - 1+1=i by omega,e1,e2];intro h;have:=hx.2 h;omega
   rw [this]
  ·by_cases hji:j+1=i
   ·have:j=i - 1:=by omega
    subst this;rw [show i - 1+1=i by omega,e1,e2];exact hx.1 (by omega)
   ·exact hb j (by omega) hjl
  ·simp only [List.getD_cons_zero];omega
 ·rw [hm];have:(List.range (l.length - 1)).all (fun i=>devLt (l.getD i (0,0)) (l.getD (i+1) (0,0)))=true:=by
   rw [List.all_eq_true];intro j hj;have:=List.mem_range.1 hj;exact hb j (by omega) (by omega)
  rw [this]
end Go.RX.Gf

namespace Go.RX.Gf
open Go Go.RX Go.Proofs Go.Gp Go.RX.Gb
def mrow(b b1:Nat)(m:Me)(v0 v1 v2:V1):HP:=mS b b1 m.sf.1 m.sf.2 m.so (fun i=>m.g.getD i 0) m.ep v0.v v1.v v2.v
def bI(q:Bool):Int:=if q then 1 else 0
theorem mR_row(b b1:Nat)(m:Me)(v0 v1 v2:V1):mR b b1 m.sf.1 m.sf.2 (bI m.so) (fun i=>m.g.getD i 0) m.ep v0 v1 v2=mrow b b1 m v0 v1 v2:=by
 unfold mrow bI;cases m.so<;>rfl
theorem hK_held(md:Bool)(v:V1)(l:List He):hK md v (l.length:Int) (gF (l.map (·.d))) (fF (l.map (·.d)) (·.ep)) (fF (l.map (·.d)) (·.sa)) (fF (l.map (·.d)) (·.sd)) (fF (l.map (·.d)) (·.kid)) (fF (l.map (·.d)) (·.key)) (hF l (·.til)) (hF l fun e=>bI e.ends)=heldHP md v l:=by
 simp only [hK,heldHP,Int.toNat_natCast];exact congrArg (sliHP md 144 23 v.v l.length) (tab_held rfl (heIs_list l))
theorem wK_wait(md:Bool)(v:V1)(l:List Di):wK md v (l.length:Int) (gF l) (fF l (·.ep)) (fF l (·.sa)) (fF l (·.sd)) (fF l (·.kid)) (fF l (·.key))=waitHP md v l:=by
 simp only [wK,waitHP,Int.toNat_natCast];rw [tab_wait rfl (diIs_list l)]
theorem kid_at(l:List He)(j:Nat)(hj:j<l.length):fF (l.map (·.d)) (·.kid) j=l[j].d.kid:=by simp [fF,hj]
theorem half(i j:Nat)(h:i+j<18446744073709551616):iop .shr .u64 (IntKind.wrap .u64 ((i:Int)+(j:Int))) 1=((i+j)/2:Nat):=by
 rw [w64,show((i:Int)+(j:Int))%18446744073709551616=((i+j:Nat):Int) by omega];show((i+j:Nat):Int).fdiv (2^1)=_;rw [Int.fdiv_eq_ediv_of_nonneg _ (by decide)];omega
theorem find_meets(b b1:Nat)(m:Me)(v0 v1 v2:V1)(k:Int)(hl:m.held.length<4611686018427387904)(hr:Rise m.held):
  Meets Tryz.prog 58 [.pointer (some ⟨b,0,none⟩),.int .u64 k] [mrow b b1 m v0 v1 v2,heldHP true v1 m.held]
   fun r hs=>r= .tuple #[.int .i64 (low m.held k:Nat),.bool (holds m.held k)]∧hs=[mrow b b1 m v0 v1 v2,heldHP true v1 m.held]:=by
 obtain⟨l,hlm⟩: ∃l,l=m.held:=⟨_,rfl⟩;rw [←hlm]at hl hr ⊢;have base:=mt_find (fun r hs=>r= .tuple #[.int .i64 (low l k:Nat),.bool (holds l k)]∧hs=[mrow b b1 m v0 v1 v2,heldHP true v1 l]) m.sf.1 m.sf.2 (bI m.so) m.ep (l.length:Int) k (fun i=>m.g.getD i 0)
  (gF (l.map (·.d))) (fF (l.map (·.d)) (·.ep)) (fF (l.map (·.d)) (·.sa)) (fF (l.map (·.d)) (·.sd)) (fF (l.map (·.d)) (·.kid)) (fF (l.map (·.d)) (·.key)) (hF l (·.til)) (hF l fun e=>bI e.ends) v0 v1 v2 b b1
 rw [mR_row,hK_held]at base;refine base ?_;unfold st_find;rw [mR_row,hK_held];refine⟨by omega,fun _=>⟨fun x=> ∃i j:Nat,x=⟨[],[],[(i:Int),(j:Int)],[],[],[],[]⟩∧i≤j∧j≤l.length∧(∀t,t<i→∀h:t<l.length,l[t].d.kid<k)∧∀t,j≤t→∀h:t<l.length,k≤l[t].d.kid,
  fun x=>((x.i.getD 1 0) - (x.i.getD 0 0)).toNat,⟨0,l.length,rfl,rfl,0,l.length,rfl,by omega,by omega,fun t ht=>by omega,fun t ht h=>by omega⟩,?_⟩⟩
 rintro x6 x7 ⟨i,j,he,hij,hj,h1,h2⟩;cases he;refine⟨fun hlt=>?_,fun hge=>?_⟩
 ·have hh:=half i j (by omega);rw [hh];have hlt':i<j:=by omega
  iterate 6 refine⟨by omega,fun _=>?_⟩
  rw [Int.toNat_natCast,kid_at l _ (by omega)];intro _;refine⟨fun hk=>⟨by omega,fun _=>⟨by omega,fun _=>⟨_,_,rfl,rfl,⟨(i+j)/2+1,j,by simp,by omega,hj,fun t ht h=>?_,h2⟩,?_⟩⟩⟩,fun hk=>?_⟩
  ·exact Int.lt_of_le_of_lt (rise_le hr (by omega) (by omega)) hk
  ·simp only [List.getD_cons_zero,List.getD_cons_succ];omega
  ·have hup: ∀t,(i+j)/2≤t→∀h:t<l.length,k≤l[t].d.kid:=fun t ht h=>Int.le_trans (by omega) (rise_le hr ht h)
   refine⟨fun _=>⟨_,_,rfl,rfl,⟨i,(i+j)/2,rfl,by omega,by omega,h1,hup⟩,?_⟩,fun _=>⟨_,_,rfl,rfl,⟨i,(i+j)/2,rfl,by omega,by omega,h1,hup⟩,?_⟩⟩
   all_goals
    simp only [List.getD_cons_zero,List.getD_cons_succ];omega
 ·have hji:j=i:=by omega
  subst hji;have hlow:low l k=j:=low_of hj h1 (fun h=>h2 j (by omega) h)
  iterate 4 refine⟨by omega,fun _=>?_⟩
  have hno:holds l k=true→∃h:j<l.length,l[j].d.kid=k:=fun h=>by
   obtain⟨q1,q2⟩:=(holds_at hr).1 h;simp only [hlow]at q1 q2;exact⟨q1,q2⟩
  refine⟨fun hlt _=>?_,fun hlt=>⟨?_,rfl⟩⟩
  ·have hjl:j<l.length:=by omega
   rw [Int.toNat_natCast,kid_at l _ hjl];refine⟨fun h=>⟨?_,rfl⟩,fun h=>⟨fun h3=>⟨?_,rfl⟩,fun h3=>⟨?_,rfl⟩⟩⟩
   ·rw [hlow,show holds l k=false from Bool.eq_false_iff.2 fun hq=>by obtain⟨_,q2⟩:=hno hq;omega]
   ·rw [hlow,show holds l k=false from Bool.eq_false_iff.2 fun hq=>by obtain⟨_,q2⟩:=hno hq;omega]
   ·rw [hlow,(holds_at hr).2 ⟨by omega,by simp only [hlow];omega⟩]
  ·rw [hlow,show holds l k=false from Bool.eq_false_iff.2 fun hq=>by obtain⟨q1,_⟩:=hno hq;omega]
theorem Ent.rowOne(b t s:Nat)(cs:List Value)(h:cs.length=s)(h1: ∀u∈cs,u.oneCell'=true):Ent [rowHP b true cs] [sliHP true t s (.slice (some ⟨b,0,none⟩) 1 1) 1 cs]:=
 Ent.put 0 _ _ rfl (fun _=>rfl) fun w S hp=>by
  obtain⟨q1,ty,fz,q2,q3⟩:=hp;refine⟨S,fun _ h=>h,?_,fun k=>?_⟩
  ·simp only [if_true];refine⟨by omega,.inr ⟨b,0,1,cs.toArray,rfl,⟨ty,fz,q2,?_⟩,Nat.le_refl _,by decide,fun _=>by simp only [List.size_toArray];omega,by rw [List.drop_zero,Nat.one_mul,←h];exact List.take_length⟩⟩;rw [q3 rfl];exact .zero (.inr (by simpa using h1))
  ·rw [q1 k];simp [Value.ownBlock,eq_comm]
theorem hold_meets(b b1:Nat)(m:Me)(v0 v1 v2:V1)(d:Di)(hl:(m.held.length+1)*72≤140737488355328)(hr:Rise m.held):
  Meets Tryz.prog 54 [.pointer (some ⟨b,0,none⟩),.agg (diC d).toArray] [mrow b b1 m v0 v1 v2,heldHP true v1 m.held]
   fun r hs=> ∃v:V1,r= .tuple #[]∧hs=[mrow b b1 m v0 v v2,heldHP true v (hold m.held d)]:=by
 obtain⟨l,hlm⟩: ∃l,l=m.held:=⟨_,rfl⟩;have base:=mt_hold (fun r hs=> ∃v:V1,r= .tuple #[]∧hs=[mrow b b1 m v0 v v2,heldHP true v (hold l d)]) m.sf.1 m.sf.2 (bI m.so) m.ep (l.length:Int) d.ep d.sa d.sd d.kid d.key (fun i=>m.g.getD i 0)
  (gF (l.map (·.d))) (fF (l.map (·.d)) (·.ep)) (fF (l.map (·.d)) (·.sa)) (fF (l.map (·.d)) (·.sd)) (fF (l.map (·.d)) (·.kid)) (fF (l.map (·.d)) (·.key)) (hF l (·.til)) (hF l fun e=>bI e.ends) (fun i=>d.g.getD i 0) v0 v1 v2 b b1
 rw [mR_row,hK_held,dV_eq]at base;rw [hlm]at base;refine base ?_;rw [←hlm]at hl hr ⊢;unfold st_hold;rw [mR_row,hK_held];have hf:=find_meets b b1 m v0 v1 v2 d.kid (by rw [←hlm];omega) (by rw [←hlm];exact hr);rw [←hlm]at hf;intro _;refine⟨_,hf,fun x hs hq=>?_⟩;obtain⟨rfl,rfl⟩:=hq;refine⟨_,_,rfl,rfl,fun b3=>?_⟩;have hi:=insert_meets v1 ⟨.slice (some ⟨b3,0,none⟩) 1 1,rfl⟩ l ⟨d,0,false⟩ (low l d.kid) (low_le _ _) hl;have hrow:(List.append (segCells .u8 16 (fun i=>d.g.getD i 0)) ([.int .u64 d.ep,.int .u8 d.sa,.int .u8 d.sd,.int .u64 d.kid,.string ⟨(strD (srowF d.key)).toArray⟩,.int .u64 0,.bool false]))=heC ⟨d,0,false⟩:=by
  simp only [heC,diC,srowF,strD_rowS,List.append_assoc];rfl
 rw [hrow];have hent:Ent [heldHP true v1 l,rowHP b3 true (heC ⟨d,0,false⟩)] [heldHP true v1 l,heldHP true ⟨.slice (some ⟨b3,0,none⟩) 1 1,rfl⟩ [⟨d,0,false⟩]]:=by
  have:=Ent.rowOne b3 144 23 (heC ⟨d,0,false⟩) (heC_len _) (heC_one _);refine Ent.trans (Ent.perm (List.Perm.swap _ _ _)) (Ent.trans (Ent.frame this [heldHP true v1 l]) (Ent.trans (Ent.perm (List.Perm.swap _ _ _)) ?_));rw [show heldHP true ⟨.slice (some ⟨b3,0,none⟩) 1 1,rfl⟩ [⟨d,0,false⟩]=sliHP true 144 23 (.slice (some ⟨b3,0,none⟩) 1 1) 1 (heC ⟨d,0,false⟩) by simp [heldHP]];exact Ent.refl _
 refine⟨_,hi.pre hent,fun x hs hq=>?_⟩;obtain⟨v',rfl,rfl⟩:=hq;refine⟨v',_,_,_,_,_,_,_,_,_,rfl,by rw [←hK_held],v',rfl,?_⟩;rw [mR_row,hK_held];rfl
end Go.RX.Gf

namespace Go.RX.Gf
open Go Go.RX Go.Proofs Go.Gp Go.RX.Gb
theorem tab_take{cols:List (Nat→List Value)}{W k n:Nat}(hrow: ∀i,(cols.flatMap fun c=>c i).length=W)(h:k≤n):(tabL n cols).take (k*W)=tabL k cols:=by
 have hlen: ∀m,(tabL m cols).length=m*W:=by
  intro m
  induction m with
  | zero=>simp [tabL]
  | succ m ih=>
   unfold tabL at ih ⊢;rw [List.range_succ,List.flatMap_append,List.length_append,ih,Nat.add_mul];simp [hrow]
 obtain⟨m,rfl⟩:=Nat.exists_eq_add_of_le h;have e:tabL (k+m) cols=tabL k cols++((List.range m).map (k+ ·)).flatMap fun i=>cols.flatMap fun c=>c i:=by
  unfold tabL;rw [List.range_add,List.flatMap_append]
 rw [e,←hlen k];exact List.take_left
theorem heIs_move{A B C D E F G H:Nat→Int}{k j t:Nat}{e:He}(h:if t=k then HeIs A B C D E F G H j e else HeIs A B C D E F G H t e):
  HeIs (splF A (k*16) 16 (shiftF A (j*16))) (updF B k (B j)) (updF C k (C j)) (updF D k (D j)) (updF E k (E j)) (updF F k (F j)) (updF G k (G j)) (updF H k (H j)) t e:=by
 by_cases ht:t=k
 ·subst ht;rw [if_pos rfl]at h;obtain⟨⟨h1,h2,h3,h4,h5,h6⟩,h7,h8⟩:=h;refine⟨⟨fun i hi=>?_,?_,?_,?_,?_,?_⟩,?_,?_⟩
  ·simp only [splF,shiftF];rw [if_pos (by omega),show j*16+(t*16+i - t*16)=j*16+i by omega];exact h1 i hi
  all_goals simp only [updF,if_true];assumption
 ·rw [if_neg ht]at h;obtain⟨⟨h1,h2,h3,h4,h5,h6⟩,h7,h8⟩:=h;refine⟨⟨fun i hi=>?_,?_,?_,?_,?_,?_⟩,?_,?_⟩
  ·simp only [splF];rw [if_neg (by omega)];exact h1 i hi
  all_goals simp only [updF,if_neg ht];assumption
theorem heIs_zero{A B C D E F G H:Nat→Int}{k m t:Nat}{e:He}(z:Nat→Int)(hk:t<k)(h:HeIs A B C D E F G H t e):
  HeIs (splF A (k*16) (m*16) z) (splF B k m z) (splF C k m z) (splF D k m z) (splF E k m z) (splF F k m z) (splF G k m z) (splF H k m z) t e:=by
 obtain⟨⟨h1,h2,h3,h4,h5,h6⟩,h7,h8⟩:=h;refine⟨⟨fun i hi=>?_,?_,?_,?_,?_,?_⟩,?_,?_⟩
 ·simp only [splF];rw [if_neg (by omega)];exact h1 i hi
 all_goals simp only [splF];rw [if_neg (by omega)];assumption
abbrev gone(now:Int)(e:He):Bool:=e.ends&&decide (e.til≤now)
theorem tick_succ(l:List He)(now:Int)(j:Nat)(hj:j<l.length):tick (l.take (j+1)) now=tick (l.take j) now++if gone now l[j]then []else [l[j]]:=by
 unfold tick;rw [List.take_add_one,List.getElem?_eq_getElem hj,List.filter_append];congr 1;show List.filter _ [l[j]]=_;rw [List.filter_cons,List.filter_nil];by_cases h:gone now l[j]=true
 ·rw [if_pos h,if_neg (by rw [Bool.not_eq_true'];exact fun h'=>by simp only [gone]at h;rw [h]at h';cases h')]
 ·rw [if_neg h,if_pos (by rw [Bool.not_eq_true'];exact Bool.eq_false_iff.2 h)]
theorem gone_at(l:List He)(now:Int)(j:Nat)(hj:j<l.length){A B C D E F G H:Nat→Int}(h:HeIs A B C D E F G H j l[j]):(H j≠0∧G j≤now)↔gone now l[j]=true:=by
 obtain⟨_,h7,h8⟩:=h;simp only [gone,Bool.and_eq_true,decide_eq_true_eq,←h7,←h8];simp
theorem row23(A B C D E F G H:Nat→Int)(i:Nat):([colI .u8 16 A,colI .u64 1 B,colI .u8 1 C,colI .u8 1 D,colI .u64 1 E,colS 1 F,colI .u64 1 G,colB 1 H].flatMap fun c=>c i).length=23:=by
 simp [colI,colS,colV,colB,segCells_length]
theorem tick_meets(b b1:Nat)(m:Me)(v0 v1 v2:V1)(now:Int)(hl:m.held.length<4611686018427387904):
  Meets Tryz.prog 13 [.pointer (some ⟨b,0,none⟩),.int .u64 now] [mrow b b1 m v0 v1 v2,heldHP true v1 m.held]
   fun r hs=> ∃v:V1,r= .tuple #[]∧hs=[mrow b b1 m v0 v v2,heldHP true v (tick m.held now)]:=by
 obtain⟨l,hlm⟩: ∃l,l=m.held:=⟨_,rfl⟩;rw [←hlm]at hl ⊢;have base:=mt_tick (fun r hs=> ∃v:V1,r= .tuple #[]∧∃hs',Ent hs hs'∧hs'=[mrow b b1 m v0 v v2,heldHP true v (tick l now)]) m.sf.1 m.sf.2 (bI m.so) m.ep (l.length:Int) now (fun i=>m.g.getD i 0)
  (gF (l.map (·.d))) (fF (l.map (·.d)) (·.ep)) (fF (l.map (·.d)) (·.sa)) (fF (l.map (·.d)) (·.sd)) (fF (l.map (·.d)) (·.kid)) (fF (l.map (·.d)) (·.key)) (hF l (·.til)) (hF l fun e=>bI e.ends) v0 v1 v2 b b1
 rw [mR_row,hK_held]at base;refine(base ?_).post fun r hs ⟨v',h1,hs',h2,h3⟩=>⟨hs',h2,v',h1,h3⟩
 unfold st_tick;rw [mR_row,hK_held];have hat:=heIs_list l;have hg:=fun j hj=>gone_at l now j hj (hat j hj)
 have all0:(∀j,∀h:j<l.length,gone now l[j]=false)→tick l now=l:=fun h=>by
  unfold tick;rw [List.filter_eq_self];intro a ha;obtain⟨j,hj,rfl⟩:=List.getElem_of_mem ha;have:=h j hj;simp only [gone]at this;simp [this]
 intro _;refine⟨by omega,fun _=>⟨fun x=> ∃i:Nat,x=⟨[],[],[(i:Int)],[],[],[],[]⟩∧i≤l.length∧∀j,j<i→∀h:j<l.length,gone now l[j]=false,fun x=>l.length - (x.i.getD 0 0).toNat,⟨0,rfl,0,rfl,by omega,fun j hj=>by omega⟩,?_⟩⟩;rintro x6 ⟨i,he,hi,hb⟩;cases he;refine⟨fun hlt=>⟨by omega,fun _ _=>?_⟩,fun hge=>?_⟩
 ·have hil:i<l.length:=by omega
  rw [Int.toNat_natCast];refine⟨fun hgo=>⟨fun h=>absurd h (by omega),fun _=>⟨by omega,fun _=>⟨by omega,fun _=>?_⟩⟩⟩,fun hgo=>⟨by omega,fun _=>⟨by omega,fun _=>⟨_,rfl,⟨i+1,by simp,by omega,fun j hj hjl=>?_⟩,?_⟩⟩⟩⟩
  ·have hgo:=(hg i hil).1 hgo;have hpre:tick (l.take i) now=l.take i:=by
    unfold tick;rw [List.filter_eq_self];intro a ha;obtain⟨j,hj,rfl⟩:=List.getElem_of_mem ha;rw [List.length_take]at hj;have:=hb j (by omega) (by omega);simp only [gone]at this;rw [List.getElem_take];simp [this]
   refine⟨fun x=> ∃(k j:Nat) (A B C D E F G H:Nat→Int),x=⟨[],[],[(k:Int),(j:Int)],[A,B,C,D,E,F,G,H],[],[],[]⟩∧j≤l.length∧k<j∧(tick (l.take j) now).length=k∧
     (∀t,∀h:t<(tick (l.take j) now).length,HeIs A B C D E F G H t (tick (l.take j) now)[t])∧∀t,j≤t→∀h:t<l.length,HeIs A B C D E F G H t l[t],
    fun x=>l.length - (x.i.getD 1 0).toNat,⟨_,_,_,_,_,_,_,_,_,_,rfl,rfl,fun _ _=>rfl,fun _ _=>rfl,fun _ _=>rfl,fun _ _=>rfl,fun _ _=>rfl,fun _ _=>rfl,fun _ _=>rfl,fun _ _=>rfl,
     i,i+1,_,_,_,_,_,_,_,_,rfl,by omega,by omega,?_,fun t ht=>?_,fun t _ ht=>hat t ht⟩,?_⟩
   ·rw [tick_succ l now i hil,if_pos hgo,List.append_nil,hpre,List.length_take];omega
   ·have e:tick (l.take (i+1)) now=l.take i:=by rw [tick_succ l now i hil,if_pos hgo,List.append_nil,hpre]
    simp only [e]at ht ⊢;rw [List.getElem_take];exact hat t (by rw [List.length_take]at ht;omega)
   rintro x7 x8 A9 A10 A11 A12 A13 A14 A15 A16 ⟨k,j,A,B,C,D,E,F,G,H,he,hj,hkj,hk,h1,h2⟩;cases he;refine⟨by omega,fun _=>⟨fun hlt2=>⟨by omega,fun _ _ _=>?_⟩,fun hge2=>?_⟩⟩
   ·have hjl:j<l.length:=by omega
    have hgj:=gone_at l now j hjl (h2 j (by omega) hjl);rw [Int.toNat_natCast];refine⟨fun hkeep=>?_,fun hdrop=>?_⟩
    ·have hno: ¬gone now l[j]=true:=fun h=>hkeep (hgj.2 h)
     have e:tick (l.take (j+1)) now=tick (l.take j) now++[l[j]]:=by rw [tick_succ l now j hjl,if_neg hno]
     iterate 6 refine⟨by omega,fun _=>?_⟩
     rw [Int.toNat_natCast,show((k:Int)*16).toNat=k*16 by omega,show((j:Int)*16).toNat=j*16 by omega];refine⟨_,_,_,_,_,_,_,_,_,_,rfl,rfl,fun _ _=>rfl,fun _ _=>rfl,fun _ _=>rfl,fun _ _=>rfl,fun _ _=>rfl,fun _ _=>rfl,fun _ _=>rfl,fun _ _=>rfl,
      ⟨k+1,j+1,_,_,_,_,_,_,_,_,rfl,by omega,by omega,?_,fun t ht=>?_,fun t ht htl=>?_⟩,?_⟩
     ·rw [e,List.length_append,hk];rfl
     ·simp only [e]at ht ⊢;rw [List.length_append,List.length_singleton,hk]at ht;refine heIs_move ?_;by_cases htk:t=k
      ·rw [if_pos htk];rw [List.getElem_append_right (by omega)];simp only [List.getElem_singleton];exact h2 j (by omega) hjl
      ·rw [if_neg htk,List.getElem_append_left (by omega)];exact h1 t (by omega)
     ·refine heIs_move ?_;rw [if_neg (by omega)];exact h2 t (by omega) htl
     ·simp only [List.getD_cons_zero,List.getD_cons_succ];omega
    ·have hyes:gone now l[j]=true:=hgj.1 (Classical.not_not.1 hdrop);have e:tick (l.take (j+1)) now=tick (l.take j) now:=by rw [tick_succ l now j hjl,if_pos hyes,List.append_nil]
     refine⟨by omega,fun _=>⟨by omega,fun _=>⟨_,_,_,_,_,_,_,_,_,_,rfl,rfl,fun _ _=>rfl,fun _ _=>rfl,fun _ _=>rfl,fun _ _=>rfl,fun _ _=>rfl,fun _ _=>rfl,fun _ _=>rfl,fun _ _=>rfl,
      ⟨k,j+1,_,_,_,_,_,_,_,_,rfl,by omega,by omega,by rw [e];exact hk,fun t ht=>?_,fun t ht htl=>h2 t (by omega) htl⟩,?_⟩⟩⟩
     ·simp only [e]at ht ⊢;exact h1 t ht
     ·simp only [List.getD_cons_zero,List.getD_cons_succ];omega
   ·have hjl:j=l.length:=by omega
    subst hjl;rw [List.take_length]at hk h1
    iterate 3 refine⟨by omega,fun _=>?_⟩
    rw [Int.toNat_natCast,show((k:Int)*16).toNat=k*16 by omega,show(((l.length:Int) - k)*16).toNat=(l.length - k)*16 by omega,show((l.length:Int) - k).toNat=l.length - k by omega];refine⟨⟨_,subSlice_one 23 v1.v 0 k none⟩,rfl,_,Ent.put 1 _ (sliHP true 144 23 (subSlice 23 v1.v 0 k none) k _) rfl (fun _=>rfl) fun w S hp=>⟨S,fun _ h=>h,sli_cut hp (by rw [Int.toNat_natCast];omega)⟩,?_⟩;rw [Int.toNat_natCast,tab_take (row23 _ _ _ _ _ _ _ _) (by omega),tab_held (l:=tick l now) hk.symm fun t ht=>heIs_zero _ (by omega) (h1 t ht)];simp only [List.set_cons_succ,List.set_cons_zero,mrow,heldHP,hk];have:(!(bI m.so==0))=m.so:=by unfold bI;cases m.so<;>rfl
    rw [this]
  ·by_cases hji:j=i
   ·subst hji;exact Bool.eq_false_iff.2 fun h=>hgo ((hg j hil).2 h)
   ·exact hb j (by omega) hjl
  ·simp only [List.getD_cons_zero];omega
 ·have:i=l.length:=by omega
  subst this;exact⟨v1,rfl,_,Ent.refl _,by rw [all0 fun j h=>hb j h h]⟩
end Go.RX.Gf
