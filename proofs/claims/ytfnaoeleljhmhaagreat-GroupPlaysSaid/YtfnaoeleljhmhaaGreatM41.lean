/- The document's member in memory: Find, Key, Has, May, Tick. · The document's member: May, Tick. · The document's member: Take. · The document's member: Take, the function. -/
import Derived.Test.YtfnaoeleljhmhaaGreatM40
import Derived.Test.YtfnaoeleljhmhaaGreatM35

namespace Go.RX.Gu
open Go Go.RX Go.Proofs Go.Gp Go.RX.Gb Go.RX.Gf Go.RX.Gl
def rdC(d:Di):List Value:=segCells .u8 16 (fun i=>d.g.getD i 0)++[.int .u64 d.ep,.int .u8 d.sa,.int .u8 d.sd,.int .u64 d.kid,.int .u64 d.key]
def rhL(e:He):List Value:=rdC e.d++[.bool e.ends,.int .u64 e.til]
def rhHP(md:Bool)(v:V1)(l:List He):HP:=sliHP md 76 23 v.v l.length (l.flatMap rhL)
def rqHP(md:Bool)(v:V1)(l:List Di):HP:=sliHP md 38 21 v.v l.length (l.flatMap rdC)
def rmV(m:Me)(v0 v1 v2:V1)(nx:Int):List Value:=rC m.sf.1 m.sf.2 m.so (fun i=>m.g.getD i 0) m.ep v0.v v1.v v2.v nx
theorem rd_row{A B C D E F:Nat→Int}{j:Nat}{d:Di}(h:DiIs A B C D E F j d):colI .u8 16 A j++(colI .u64 1 B j++(colI .u8 1 C j++(colI .u8 1 D j++(colI .u64 1 E j++colI .u64 1 F j))))=rdC d:=by
 obtain⟨h1,h2,h3,h4,h5,h6⟩:=h;simp only [colI,segCells,rdC,List.range_one,List.map_cons,List.map_nil,Nat.mul_one,Nat.add_zero,h2,h3,h4,h5,h6,List.cons_append,List.nil_append];congr 1;refine List.map_congr_left fun i hi=>?_
 rw [h1 i (List.mem_range.1 hi)]
theorem rK_is{md:Bool}{v:V1}{l:List He}{A B C D E F G H:Nat→Int}(h: ∀j (hj:j<l.length),HeIs A B C D E F H G j l[j]):rK md v (l.length:Int) A B C D E F G H=rhHP md v l:=by
 simp only [rK,rhHP,Int.toNat_natCast];congr 1;rw [flat_range];unfold tabL;rw [List.flatMap_def,List.flatMap_def];congr 1;refine List.map_congr_left fun j hj=>?_
 have hj:=List.mem_range.1 hj;obtain⟨h1,h2,h3⟩:=h j hj;rw [List.getElem?_eq_getElem hj];simp only [Option.elim,rhL,List.flatMap_cons,List.flatMap_nil,List.append_nil,←rd_row h1,List.append_assoc];simp [colI,colB,segCells,h2,h3]
theorem qK_is{md:Bool}{v:V1}{l:List Di}{A B C D E F:Nat→Int}(h: ∀j (hj:j<l.length),DiIs A B C D E F j l[j]):qK md v (l.length:Int) A B C D E F=rqHP md v l:=by
 simp only [qK,rqHP,Int.toNat_natCast];congr 1;rw [flat_range];unfold tabL;rw [List.flatMap_def,List.flatMap_def];congr 1;refine List.map_congr_left fun j hj=>?_
 have hj:=List.mem_range.1 hj;rw [List.getElem?_eq_getElem hj];simp only [Option.elim,List.flatMap_cons,List.flatMap_nil,List.append_nil,←rd_row (h j hj)]
theorem rK_held(md:Bool)(v:V1)(l:List He):rK md v (l.length:Int) (gF (l.map (·.d))) (fF (l.map (·.d)) (·.ep)) (fF (l.map (·.d)) (·.sa)) (fF (l.map (·.d)) (·.sd)) (fF (l.map (·.d)) (·.kid)) (fF (l.map (·.d)) (·.key)) (hF l fun e=>bI e.ends) (hF l (·.til))=rhHP md v l:=rK_is (heIs_list l)
theorem qK_wait(md:Bool)(v:V1)(l:List Di):qK md v (l.length:Int) (gF l) (fF l (·.ep)) (fF l (·.sa)) (fF l (·.sd)) (fF l (·.kid)) (fF l (·.key))=rqHP md v l:=qK_is (diIs_list l)
theorem bI_eq(q:Bool):(!(bI q==0))=q:=by cases q<;>rfl
def findR(l:List He)(s:Int×Int)(ep:Int):Int:=match l.findIdx? fun h=>decide ((h.d.sa,h.d.sd)=s∧h.d.ep=ep)with
 | some i=>i
 | none=> -1
theorem rfind_meets(m:Me)(v0 v1 v2:V1)(nx:Int)(s:Int×Int)(ep:Int)(hl:m.held.length<9223372036854775807):
  Meets Tryz.prog 24 [.agg (rmV m v0 v1 v2 nx).toArray,.agg #[.int .u8 s.1,.int .u8 s.2],.int .u64 ep] [rhHP true v1 m.held]
   fun r hs=>r= .int .i64 (findR m.held s ep)∧hs=[rhHP true v1 m.held]:=by
 have base:=mt_rfind (fun r hs=>r= .int .i64 (findR m.held s ep)∧hs=[rhHP true v1 m.held]) m.sf.1 m.sf.2 (bI m.so) m.ep nx 0 (m.held.length:Int) s.1 s.2 ep (fun i=>m.g.getD i 0) (fun _=>0) (fun _=>0)
  (gF (m.held.map (·.d))) (fF (m.held.map (·.d)) (·.ep)) (fF (m.held.map (·.d)) (·.sa)) (fF (m.held.map (·.d)) (·.sd)) (fF (m.held.map (·.d)) (·.kid)) (fF (m.held.map (·.d)) (·.key)) (hF m.held fun e=>bI e.ends) (hF m.held (·.til)) v0 v1 v2
 rw [bI_eq,rK_held]at base;refine base ?_;unfold st_rfind;rw [rK_held];have hat:=diIs_list (m.held.map (·.d));intro _ _;refine⟨fun x=> ∃i:Nat,x=⟨[],[],[(i:Int)],[],[],[],[]⟩∧i≤m.held.length∧∀j,j<i→∀h:j<m.held.length,¬((m.held[j].d.sa,m.held[j].d.sd)=s∧m.held[j].d.ep=ep),
  fun x=>m.held.length - (x.i.getD 0 0).toNat,⟨0,rfl,0,rfl,Nat.zero_le _,fun j hj=>by omega⟩,?_⟩
 rintro x8 ⟨i,he,hi,hb⟩;cases he;refine⟨by omega,fun _=>⟨fun hlt=>⟨by omega,fun _=>?_⟩,fun hge=>?_⟩⟩
 ·have hil:i<m.held.length:=by omega
  obtain⟨_,h2,h3,h4,_,h6⟩:=hat i (by simpa using hil);rw [List.getElem_map]at h2 h3 h4 h6;rw [Int.toNat_natCast,h2,h3,h4]
  iterate 8 refine⟨by omega,fun _=>?_⟩
  refine⟨fun hc=>⟨?_,rfl⟩,fun hc=>⟨by omega,fun _=>⟨by omega,fun _=>⟨_,rfl,⟨i+1,rfl,by omega,fun j hj hjl=>?_⟩,?_⟩⟩⟩⟩
  ·have:(m.held.findIdx? fun h=>decide ((h.d.sa,h.d.sd)=s∧h.d.ep=ep))=some i:=by
    rw [List.findIdx?_eq_some_iff_getElem];refine⟨hil,by simpa [Prod.ext_iff] using hc,fun j hj=>?_⟩;simpa using hb j hj (by omega)
   rw [findR,this]
  ·by_cases hji:j=i
   ·subst hji;simpa [Prod.ext_iff] using hc
   ·exact hb j (by omega) hjl
  ·simp only [List.getD_cons_zero];omega
 ·have hie:i=m.held.length:=by omega
  subst hie;have:(m.held.findIdx? fun h=>decide ((h.d.sa,h.d.sd)=s∧h.d.ep=ep))=none:=by
   rw [List.findIdx?_eq_none_iff];intro x hx;obtain⟨j,hj,rfl⟩:=List.getElem_of_mem hx;exact decide_eq_false (hb j hj hj)
  rw [findR,this];exact⟨rfl,rfl⟩
theorem findR_some{l:List He}{s:Int×Int}{ep:Int}(h:0≤findR l s ep): ∃i:Nat,∃hi:i<l.length,findR l s ep=i∧(l[i].d.sa,l[i].d.sd)=s∧l[i].d.ep=ep∧(l.find? fun h=>decide ((h.d.sa,h.d.sd)=s∧h.d.ep=ep))=some l[i]:=by
 unfold findR at h ⊢;cases hf:(l.findIdx? fun h=>decide ((h.d.sa,h.d.sd)=s∧h.d.ep=ep))with
 | none=>rw [hf]at h;exact absurd h (by decide)
 | some i=>
  obtain⟨hi,h1,h2⟩:=List.findIdx?_eq_some_iff_getElem.1 hf;have h1':=of_decide_eq_true h1;refine⟨i,hi,rfl,h1'.1,h1'.2,?_⟩;rw [List.find?_eq_some_iff_getElem];exact⟨h1,i,hi,rfl,fun j hj=>by have:=h2 j hj;simp only [Bool.not_eq_true,Bool.not_eq_true']at this ⊢;exact this⟩
theorem findR_none{l:List He}{s:Int×Int}{ep:Int}(h: ¬0≤findR l s ep):findR l s ep= -1∧(l.find? fun h=>decide ((h.d.sa,h.d.sd)=s∧h.d.ep=ep))=none:=by
 unfold findR at h ⊢;cases hf:(l.findIdx? fun h=>decide ((h.d.sa,h.d.sd)=s∧h.d.ep=ep))with
 | some i=>rw [hf]at h;exact absurd (Int.natCast_nonneg i) h
 | none=>
  refine⟨rfl,?_⟩;rw [List.find?_eq_none];intro x hx;have:=(List.findIdx?_eq_none_iff.1 hf) x hx;simpa using this
theorem rkey_meets(m:Me)(v0 v1 v2:V1)(nx:Int)(s:Int×Int)(ep:Int)(hl:m.held.length<9223372036854775807):
  Meets Tryz.prog 28 [.agg (rmV m v0 v1 v2 nx).toArray,.agg #[.int .u8 s.1,.int .u8 s.2],.int .u64 ep] [rhHP true v1 m.held]
   fun r hs=>r= .tuple #[.int .u64 (keyAns 0 m s ep).1,.int .i64 (keyAns 0 m s ep).2]∧hs=[rhHP true v1 m.held]:=by
 have base:=mt_rkey (fun r hs=>r= .tuple #[.int .u64 (keyAns 0 m s ep).1,.int .i64 (keyAns 0 m s ep).2]∧hs=[rhHP true v1 m.held]) m.sf.1 m.sf.2 (bI m.so) m.ep nx 0 (m.held.length:Int) s.1 s.2 ep (fun i=>m.g.getD i 0) (fun _=>0) (fun _=>0)
  (gF (m.held.map (·.d))) (fF (m.held.map (·.d)) (·.ep)) (fF (m.held.map (·.d)) (·.sa)) (fF (m.held.map (·.d)) (·.sd)) (fF (m.held.map (·.d)) (·.kid)) (fF (m.held.map (·.d)) (·.key)) (hF m.held fun e=>bI e.ends) (hF m.held (·.til)) v0 v1 v2
 rw [bI_eq,rK_held]at base;refine base ?_;unfold st_rkey;rw [bI_eq,rK_held];intro _ _;refine⟨_,rfind_meets m v0 v1 v2 nx s ep hl,fun x hs hq=>?_⟩;obtain⟨rfl,rfl⟩:=hq;refine⟨_,rfl,rfl,fun h=>?_,fun h=>?_⟩
 ·obtain⟨i,hi,h1,_,_,h4⟩:=findR_some h;rw [h1];refine⟨by omega,fun _=>?_⟩;obtain⟨_,_,_,_,_,h6⟩:=diIs_list (m.held.map (·.d)) i (by simpa using hi);rw [List.getElem_map]at h6;rw [Int.toNat_natCast,h6];have hk:keyAns 0 m s ep=(m.held[i].d.key,0):=by simp only [keyAns,Gp.keyOf,h4,Option.map_some]
  rw [hk];exact⟨rfl,rfl⟩
 ·have hk:keyAns 0 m s ep=(0,if m.so=true∧ep<m.ep then 241 else 240):=by simp only [keyAns,Gp.keyOf,(findR_none h).2,Option.map_none]
  rw [hk,bI_nz];refine⟨fun h=>?_,fun h=>?_⟩
  ·rw [if_pos h];exact⟨rfl,rfl⟩
  ·rw [if_neg h];exact⟨rfl,rfl⟩
theorem rhas_meets(g:List Int)(ep:Int)(v:V1)(l:List (Int×Int))(p:Int×Int)(hl:l.length<9223372036854775807):
  Meets Tryz.prog 65 [rosV g ep v.v,.agg #[.int .u8 p.1,.int .u8 p.2]] [devHP true v l] fun r hs=>r= .bool (decide (p∈l))∧hs=[devHP true v l]:=by
 have base:=mt_rhas (fun r hs=>r= .bool (decide (p∈l))∧hs=[devHP true v l]) ep p.1 p.2 (l.length:Int) (fun i=>g.getD i 0) (pF l (·.1)) (pF l (·.2)) v;rw [dK_dev]at base;refine base ?_;unfold st_rhas;rw [dK_dev];intro _ _;refine⟨fun x=> ∃i:Nat,x=⟨[],[],[(i:Int)],[],[],[],[]⟩∧i≤l.length∧∀j,j<i→∀h:j<l.length,l[j]≠p,fun x=>l.length - (x.i.getD 0 0).toNat,⟨0,rfl,0,rfl,Nat.zero_le _,fun j hj=>by omega⟩,?_⟩;rintro x4 ⟨i,he,hi,hb⟩;cases he;refine⟨by omega,fun _=>⟨fun hlt=>⟨by omega,fun _=>?_⟩,fun hge=>⟨?_,rfl⟩⟩⟩
 ·have hil:i<l.length:=by omega
  rw [Int.toNat_natCast,pF_at l _ i hil,pF_at l _ i hil];refine⟨fun h=>⟨?_,rfl⟩,fun h=>⟨by omega,fun _=>⟨by omega,fun _=>⟨_,rfl,⟨i+1,rfl,by omega,fun j hj hjl=>?_⟩,?_⟩⟩⟩⟩
  ·have:l[i]=p:=Prod.ext h.1 h.2;rw [decide_eq_true (this▸List.getElem_mem hil)]
  ·by_cases hji:j=i
   ·subst hji;intro hp;exact h ⟨by rw [hp],by rw [hp]⟩
   ·exact hb j (by omega) hjl
  ·simp only [List.getD_cons_zero];omega
 ·have:i=l.length:=by omega
  subst this;rw [decide_eq_false fun hm=>by
   obtain⟨j,hj,hp⟩:=List.getElem_of_mem hm;exact hb j hj hj hp]
end Go.RX.Gu

namespace Go.RX.Gu
open Go Go.RX Go.Proofs Go.Gp Go.RX.Gb Go.RX.Gf Go.RX.Gl
theorem rrmay_meets(g:List Int)(ep:Int)(v:V1)(l:List (Int×Int))(hl:l.length≤32)(h0: ∀p∈l,0≤p.1∧p.1<256∧0≤p.2∧p.2<256):
  Meets Tryz.prog 64 [rosV g ep v.v] [devHP true v l] fun r hs=>r= .bool (mayR ep l)∧hs=[devHP true v l]:=by
 have base:=mt_rrmay (fun r hs=>r= .bool (mayR ep l)∧hs=[devHP true v l]) ep 0 0 (l.length:Int) (fun i=>g.getD i 0) (pF l (·.1)) (pF l (·.2)) v;rw [dK_dev]at base;refine base ?_;unfold st_rrmay;rw [dK_dev];intro _;refine⟨fun h1=>⟨?_,rfl⟩,fun h1=>?_⟩
 ·have:mayR ep l=false:=by simp only [mayR,decide_eq_false (show¬(1≤ep∧ep≤1099511627776∧l.length≤32) by omega),Bool.false_and]
  rw [this]
 have h1':1≤ep∧ep≤1099511627776∧l.length≤32:=by omega
 have hm:mayR ep l=((l.all fun p=>decide (p.1<8∧p.2<4))&&(List.range (l.length - 1)).all fun i=>devLt (l.getD i (0,0)) (l.getD (i+1) (0,0))):=by
  simp only [mayR,decide_eq_true h1',Bool.true_and]
 have hg: ∀j,∀h:j<l.length,l.getD j (0,0)=l[j]:=fun j h=>by simp [List.getD_eq_getElem?_getD,List.getElem?_eq_getElem h]
 refine⟨fun x=> ∃(i:Nat) (y:Int),x=⟨[],[],[(i:Int),y],[],[],[],[]⟩∧i≤l.length∧(∀j,j<i→∀h:j<l.length,l[j].1<8∧l[j].2<4)∧(∀j,j+1<i→∀h:j+1<l.length,devLt l[j] l[j+1]=true)∧(i=0→y= -1)∧∀j,j+1=i→∀h:j<l.length,y=4*l[j].1+l[j].2,
  fun x=>l.length - (x.i.getD 0 0).toNat,⟨_,_,rfl,rfl,0,_,rfl,Nat.zero_le _,fun j hj=>by omega,fun j hj=>by omega,fun _=>rfl,fun j hj=>by omega⟩,?_⟩
 rintro x4 x5 ⟨i,y,he,hi,hs,ho,hy0,hy⟩;cases he;refine⟨by omega,fun _=>⟨fun hlt=>⟨by omega,fun _ _=>?_⟩,fun hge=>⟨?_,rfl⟩⟩⟩
 ·have hil:i<l.length:=by omega
  obtain⟨p1,p2,p3,p4⟩:=h0 _ (List.getElem_mem hil);rw [Int.toNat_natCast,pF_at l _ i hil,pF_at l _ i hil]
  iterate 4 refine⟨by omega,fun _=>?_⟩
  refine⟨fun hsm _=>?_,fun hsm=>⟨?_,rfl⟩⟩
  ·iterate 8 refine⟨by omega,fun _=>?_⟩
   refine⟨fun hle=>⟨?_,rfl⟩,fun hgt _=>⟨by omega,fun _=>⟨by omega,fun _=>⟨_,_,rfl,rfl,⟨i+1,_,rfl,by omega,fun j hj hjl=>?_,fun j hj hjl=>?_,fun h=>by omega,fun j hj hjl=>?_⟩,?_⟩⟩⟩⟩
   ·cases i with
    | zero=>
     have:=hy0 rfl;omega
    | succ k=>
     have hyk:=hy k rfl (by omega);have hsk:=hs k (by omega) (by omega);rw [hm];have:(List.range (l.length - 1)).all (fun i=>devLt (l.getD i (0,0)) (l.getD (i+1) (0,0)))=false:=by
      rw [List.all_eq_false];refine⟨k,List.mem_range.2 (by omega),?_⟩;rw [hg k (by omega),hg (k+1) (by omega)];intro h;simp only [devLt,decide_eq_true_eq]at h;omega
     rw [this,Bool.and_false]
   ·by_cases hji:j=i
    ·subst hji;exact hsm
    ·exact hs j (by omega) hjl
   ·by_cases hji:j+1=i
    ·subst hji;have hyk:=hy j rfl (by omega);have hsk:=hs j (by omega) (by omega);obtain⟨r1,r2,r3,r4⟩:=h0 _ (List.getElem_mem (show j<l.length by omega));simp only [devLt,decide_eq_true_eq];omega
    ·exact ho j (by omega) hjl
   ·have:j=i:=by omega
    subst this;rfl
   ·simp only [List.getD_cons_zero];omega
  ·have:(l.all fun p=>decide (p.1<8∧p.2<4))=false:=by
    rw [List.all_eq_false];exact⟨l[i],List.getElem_mem hil,by simpa using hsm⟩
   rw [hm,this,Bool.false_and]
 ·have:i=l.length:=by omega
  subst this;rw [hm];have a1:(l.all fun p=>decide (p.1<8∧p.2<4))=true:=by
   rw [List.all_eq_true];intro p hp;obtain⟨j,hj,rfl⟩:=List.getElem_of_mem hp;exact decide_eq_true (hs j hj hj)
  have a2:(List.range (l.length - 1)).all (fun i=>devLt (l.getD i (0,0)) (l.getD (i+1) (0,0)))=true:=by
   rw [List.all_eq_true];intro j hj;have:=List.mem_range.1 hj;rw [hg j (by omega),hg (j+1) (by omega)];exact ho j (by omega) (by omega)
  rw [a1,a2];rfl
theorem heIs_push{A B C D E F G H A' B' C' D' E' F' G' H':Nat→Int}{k j t:Nat}{e:He}(h:if t=k then HeIs A' B' C' D' E' F' G' H' j e else HeIs A B C D E F G H t e):
  HeIs (splF A (k*16) 16 (shiftF A' (j*16))) (updF B k (B' j)) (updF C k (C' j)) (updF D k (D' j)) (updF E k (E' j)) (updF F k (F' j)) (updF G k (G' j)) (updF H k (H' j)) t e:=by
 by_cases ht:t=k
 ·subst ht;rw [if_pos rfl]at h;obtain⟨⟨h1,h2,h3,h4,h5,h6⟩,h7,h8⟩:=h;refine⟨⟨fun i hi=>?_,?_,?_,?_,?_,?_⟩,?_,?_⟩
  ·simp only [splF,shiftF];rw [if_pos (by omega),show j*16+(t*16+i - t*16)=j*16+i by omega];exact h1 i hi
  all_goals simp only [updF,if_true];assumption
 ·rw [if_neg ht]at h;obtain⟨⟨h1,h2,h3,h4,h5,h6⟩,h7,h8⟩:=h;refine⟨⟨fun i hi=>?_,?_,?_,?_,?_,?_⟩,?_,?_⟩
  ·simp only [splF];rw [if_neg (by omega)];exact h1 i hi
  all_goals simp only [updF,if_neg ht];assumption
theorem rtick_meets(m:Me)(v0 v1 v2:V1)(nx now:Int)(hl:m.held.length≤1000000):
  Meets Tryz.prog 26 [.agg (rmV m v0 v1 v2 nx).toArray,.int .u64 now] [rhHP true v1 m.held]
   fun r hs=> ∃u:V1,r= .agg (rmV m v0 u v2 nx).toArray∧hs=[rhHP true u (tick m.held now)]:=by
 obtain⟨l,hlm⟩: ∃l,l=m.held:=⟨_,rfl⟩;have base:=mt_rtick (fun r hs=> ∃u:V1,r= .agg (rmV m v0 u v2 nx).toArray∧∃hs',Ent hs hs'∧hs'=[rhHP true u (tick m.held now)]) m.sf.1 m.sf.2 (bI m.so) m.ep nx 0 (m.held.length:Int) now (fun i=>m.g.getD i 0) (fun _=>0) (fun _=>0)
  (gF (m.held.map (·.d))) (fF (m.held.map (·.d)) (·.ep)) (fF (m.held.map (·.d)) (·.sa)) (fF (m.held.map (·.d)) (·.sd)) (fF (m.held.map (·.d)) (·.kid)) (fF (m.held.map (·.d)) (·.key)) (hF m.held fun e=>bI e.ends) (hF m.held (·.til)) v0 v1 v2
 rw [bI_eq,rK_held]at base;rw [←hlm]at base hl ⊢;refine(base ?_).post fun r hs ⟨v',h1,hs',h2,h3⟩=>⟨hs',h2,v',h1,h3⟩
 unfold st_rtick;rw [bI_eq,hlm,rK_held,←hlm];have hat:=heIs_list l;intro b0 b1;have hT:=fun i=>tick_len l now i
 refine⟨fun x=> ∃(i:Nat) (u:V1) (A B C D E F G H:Nat→Int),x=⟨[],[u],[(i:Int),((tick (l.take i) now).length:Int)],[A,B,C,D,E,F,G,H],[],[],[]⟩∧i≤l.length∧∀t,∀h:t<(tick (l.take i) now).length,HeIs A B C D E F H G t (tick (l.take i) now)[t],
  fun x=>l.length - (x.i.getD 0 0).toNat,⟨_,_,_,_,_,_,_,_,_,_,_,rfl,rfl,rfl,rfl,fun _ _=>rfl,fun _ _=>rfl,fun _ _=>rfl,fun _ _=>rfl,fun _ _=>rfl,fun _ _=>rfl,fun _ _=>rfl,fun _ _=>rfl,0,_,_,_,_,_,_,_,_,_,rfl,Nat.zero_le _,fun t ht=>by simp [tick]at ht⟩,?_⟩
 rintro v4 x8 x9 A11 A12 A13 A14 A15 A16 A17 A18 ⟨i,u,A,B,C,D,E,F,G,H,he,hi,hH⟩;cases he;refine⟨by omega,fun _=>⟨fun hlt=>⟨by omega,fun _=>?_⟩,fun hge=>?_⟩⟩
 ·have hil:i<l.length:=by omega
  have hgo:=gone_at l now i hil (hat i hil);have hsucc:=tick_succ l now i hil;have hlen:=hT i;rw [Int.toNat_natCast]
  iterate 6 refine⟨by omega,fun _=>?_⟩
  refine⟨fun hk _=>⟨by omega,fun _=>⟨by omega,fun _ v5=>⟨by omega,fun _=>⟨by omega,fun _=>?_⟩⟩⟩⟩,fun hk=>⟨by omega,fun _=>⟨by omega,fun _=>?_⟩⟩⟩
  ·have hno: ¬gone now l[i]=true:=fun h=>by
    have:=hgo.2 h;rcases hk with h1 | h1
    ·exact h1 this.1
    ·omega
   rw [if_neg hno]at hsucc;refine⟨_,_,_,_,_,_,_,_,_,_,_,rfl,rfl,rfl,rfl,fun _ _=>rfl,fun _ _=>rfl,fun _ _=>rfl,fun _ _=>rfl,fun _ _=>rfl,fun _ _=>rfl,fun _ _=>rfl,fun _ _=>rfl,⟨i+1,_,_,_,_,_,_,_,_,_,by rw [hsucc,List.length_append];rfl,by omega,fun t ht=>?_⟩,?_⟩
   ·simp only [hsucc]at ht ⊢;rw [List.length_append,List.length_singleton]at ht;rw [Int.toNat_natCast,show(((tick (l.take i) now).length:Int)*16).toNat=(tick (l.take i) now).length*16 by omega,show((i:Int)*16).toNat=i*16 by omega];refine heIs_push (A':=gF (l.map (·.d))) (B':=fF (l.map (·.d)) (·.ep)) (C':=fF (l.map (·.d)) (·.sa)) (D':=fF (l.map (·.d)) (·.sd)) (E':=fF (l.map (·.d)) (·.kid)) (F':=fF (l.map (·.d)) (·.key)) (G':=hF l (·.til)) (H':=hF l fun e=>bI e.ends) (j:=i) ?_;by_cases htk:t=(tick (l.take i) now).length
    ·subst htk;rw [if_pos rfl,List.getElem_append_right (Nat.le_refl _)];simp only [Nat.sub_self,List.getElem_singleton];exact hat i hil
    ·rw [if_neg htk,List.getElem_append_left (by omega)];exact hH t (by omega)
   ·simp only [List.getD_cons_zero];omega
  ·have hyes:gone now l[i]=true:=hgo.1 ⟨fun h=>hk (.inl fun h'=>h' h),Int.not_lt.1 fun h=>hk (.inr h)⟩;rw [if_pos hyes,List.append_nil]at hsucc;refine⟨_,_,_,_,_,_,_,_,_,_,_,rfl,rfl,rfl,rfl,fun _ _=>rfl,fun _ _=>rfl,fun _ _=>rfl,fun _ _=>rfl,fun _ _=>rfl,fun _ _=>rfl,fun _ _=>rfl,fun _ _=>rfl,⟨i+1,_,_,_,_,_,_,_,_,_,by rw [hsucc];rfl,by omega,?_⟩,?_⟩
   ·simp only [hsucc];exact hH
   ·simp only [List.getD_cons_zero];omega
 ·have hie:i=l.length:=by omega
  subst hie;rw [List.take_length]at hH;rw [List.take_length,rK_is hH];exact⟨_,rfl,_,Ent.pick [3] (by decide) rfl,rfl⟩
end Go.RX.Gu

namespace Go.RX.Gu
open Go Go.RX Go.Proofs Go.Gp Go.RX.Gb Go.RX.Gf Go.RX.Gl
def OkN(d:Di):Prop:=d.g.length=16∧0≤d.sa∧d.sa<256∧0≤d.sd∧d.sd<256
theorem rkid_eq(x0 x1 x2:Int):IntKind.wrap .u64 ((IntKind.wrap .u64 (32*x0))+(IntKind.wrap .u64 ((4*x1)+x2)))=kidV x0 x1 x2:=by
 simp only [w64,kidV];omega
theorem waits_first{l:List Di}{d:Di}(i:Nat)(h:i<l.length)(hb: ∀j,j<i→∀h:j<l.length,l[j]≠d∧l[j].kid≠d.kid)(hq:l[i]=d∨l[i].kid=d.kid):waits l d=(if l[i]=d then 0 else 6,l):=by
 have:(l.find? fun w=>decide (w=d∨w.kid=d.kid))=some l[i]:=by
  rw [List.find?_eq_some_iff_getElem];refine⟨by simpa using hq,i,h,rfl,fun j hj=>?_⟩;have:=hb j hj (by omega);simp [this.1,this.2]
 simp only [waits,this]
theorem waits_none{l:List Di}{d:Di}(hb: ∀j,∀h:j<l.length,l[j]≠d∧l[j].kid≠d.kid):waits l d=if 64≤l.length then(7,l)else(0,l++[d]):=by
 have:(l.find? fun w=>decide (w=d∨w.kid=d.kid))=none:=by
  rw [List.find?_eq_none];intro x hx;obtain⟨j,hj,rfl⟩:=List.getElem_of_mem hx;have:=hb j hj;simp [this.1,this.2]
 simp only [waits,this]
theorem push_cols{l:List Di}{d:Di}{j:Nat}(hj:j<(l++[d]).length){A B C D E F:Nat→Int}(hat: ∀j,∀h:j<l.length,DiIs A B C D E F j l[j]):
  DiIs (splF A (l.length*16) 16 fun i=>d.g.getD i 0) (updF B l.length d.ep) (updF C l.length d.sa) (updF D l.length d.sd) (updF E l.length d.kid) (updF F l.length d.key) j (l++[d])[j]:=by
 rw [List.length_append,List.length_singleton]at hj;by_cases hjl:j<l.length
 ·rw [List.getElem_append_left hjl];obtain⟨g1,g2,g3,g4,g5,g6⟩:=hat j hjl;refine⟨fun k hk=>?_,?_,?_,?_,?_,?_⟩
  ·simp only [splF];rw [if_neg (by omega)];exact g1 k hk
  all_goals simp only [updF];rw [if_neg (by omega)];assumption
 ·have hje:j=l.length:=by omega
  subst hje;rw [List.getElem_append_right (Nat.le_refl _)];simp only [Nat.sub_self,List.getElem_singleton];refine⟨fun k hk=>?_,?_,?_,?_,?_,?_⟩
  ·simp only [splF];rw [if_pos (by omega)];congr 1;omega
  all_goals simp only [updF,if_true]
theorem put_cols{l:List He}{e:He}{i j:Nat}(hi:i≤l.length)(hj:j<(put l i e).length){A B C D E F G H:Nat→Int}(hat: ∀j,∀h:j<l.length,HeIs A B C D E F G H j l[j]){z7 z8:Int}(h7:z7=e.til)(h8:(!(z8==0))=e.ends):
  HeIs (splF (splF A (i*16) 16 fun k=>e.d.g.getD k 0) ((i+1)*16) ((l.length - i)*16) (shiftF A (i*16))) (splF (updF B i e.d.ep) (i+1) (l.length - i) (shiftF B i)) (splF (updF C i e.d.sa) (i+1) (l.length - i) (shiftF C i)) (splF (updF D i e.d.sd) (i+1) (l.length - i) (shiftF D i))
   (splF (updF E i e.d.kid) (i+1) (l.length - i) (shiftF E i)) (splF (updF F i e.d.key) (i+1) (l.length - i) (shiftF F i)) (splF (updF G i z7) (i+1) (l.length - i) (shiftF G i)) (splF (updF H i z8) (i+1) (l.length - i) (shiftF H i)) j (put l i e)[j]:=by
 rw [put_at hi hj];have hl:=put_len l e i hi;have ge: ∀(X:Nat→Int) (z:Int),i<j→splF (updF X i z) (i+1) (l.length - i) (shiftF X i) j=X (j - 1):=fun X z h=>by
  simp only [splF,shiftF];rw [if_pos (by omega)];congr 1;omega
 have lt: ∀(X:Nat→Int) (z:Int),j<i→splF (updF X i z) (i+1) (l.length - i) (shiftF X i) j=X j:=fun X z h=>by
  simp only [splF,updF];rw [if_neg (by omega),if_neg (by omega)]
 have eq: ∀(X:Nat→Int) (z:Int),j=i→splF (updF X i z) (i+1) (l.length - i) (shiftF X i) j=z:=fun X z h=>by
  simp only [splF,updF];rw [if_neg (by omega),if_pos h]
 by_cases h1:j<i
 ·rw [dif_pos h1];have:=hat j (by omega);simp only [HeIs,DiIs,lt _ _ h1]at this ⊢;refine⟨⟨fun k hk=>?_,this.1.2⟩,this.2⟩;rw [←this.1.1 k hk];simp only [splF];rw [if_neg (by omega),if_neg (by omega)]
 ·rw [dif_neg h1];by_cases h2:j=i
  ·rw [dif_pos h2];simp only [HeIs,DiIs,eq _ _ h2];refine⟨⟨fun k hk=>?_,by simp⟩,h7,h8⟩;simp only [splF];rw [if_neg (by omega),if_pos (by omega)];congr 1;omega
  ·rw [dif_neg h2];have:=hat (j - 1) (by omega);simp only [HeIs,DiIs,ge _ _ (show i<j by omega)]at this ⊢;refine⟨⟨fun k hk=>?_,this.1.2⟩,this.2⟩;rw [←this.1.1 k hk];simp only [splF,shiftF];rw [if_pos (by omega)];congr 1;omega
end Go.RX.Gu

namespace Go.RX.Gu
open Go Go.RX Go.Proofs Go.Gp Go.RX.Gb Go.RX.Gf Go.RX.Gl
theorem put_low(l:List He)(d:Di):hold l d=put l (low l d.kid) ⟨d,0,false⟩:=rfl
theorem rtake_meets(m:Me)(v0 v1 v2:V1)(nx:Int)(d:Di)(n:Nat)(hw:Wf OkN n m)(hn:n≤1000000)(hg:m.so=true→m.g.length=16)(hd:OkN d):
  Meets Tryz.prog 25 [.agg (rmV m v0 v1 v2 nx).toArray,.agg (rdC d).toArray] [devHP true v0 m.mem,rhHP true v1 m.held,rqHP true v2 m.wait]
   fun r hs=> ∃u1 u2:V1,r= .tuple #[.agg (rmV m v0 u1 u2 nx).toArray,.int .i64 (take m d).1]∧hs=[devHP true v0 m.mem,rhHP true u1 (take m d).2.1,rqHP true u2 (take m d).2.2]:=by
 obtain⟨Post,hP⟩: ∃Post:PT,Post=fun r hs=> ∃u1 u2:V1,r= .tuple #[.agg (rmV m v0 u1 u2 nx).toArray,.int .i64 (take m d).1]∧∃hs',Ent hs hs'∧hs'=[devHP true v0 m.mem,rhHP true u1 (take m d).2.1,rqHP true u2 (take m d).2.2]:=⟨_,rfl⟩
 have base:=mt_rtake Post m.sf.1 m.sf.2 (bI m.so) m.ep nx (m.mem.length:Int) (m.held.length:Int) (m.wait.length:Int) d.ep d.sa d.sd d.kid d.key (fun i=>m.g.getD i 0) (pF m.mem (·.1)) (pF m.mem (·.2))
  (gF (m.held.map (·.d))) (fF (m.held.map (·.d)) (·.ep)) (fF (m.held.map (·.d)) (·.sa)) (fF (m.held.map (·.d)) (·.sd)) (fF (m.held.map (·.d)) (·.kid)) (fF (m.held.map (·.d)) (·.key)) (hF m.held fun e=>bI e.ends) (hF m.held (·.til))
  (gF m.wait) (fF m.wait (·.ep)) (fF m.wait (·.sa)) (fF m.wait (·.sd)) (fF m.wait (·.kid)) (fF m.wait (·.key)) (fun i=>d.g.getD i 0) v0 v1 v2
 rw [bI_eq,dK_dev,rK_held,qK_wait]at base;refine(base ?_).post fun r hs h=>?_
 rotate_left
 ·rw [hP]at h;obtain⟨u1,u2,h1,hs',h2,h3⟩:=h;exact⟨hs',h2,u1,u2,h1,h3⟩
 have ret: ∀(e:Int) (X:List HP),take m d=(e,m.held,m.wait)→Post (.tuple #[.agg (rmV m v0 v1 v2 nx).toArray,.int .i64 e]) ([devHP true v0 m.mem,rhHP true v1 m.held,rqHP true v2 m.wait]++X):=by
  intro e X ht;rw [hP,ht];exact⟨v1,v2,rfl,_,Ent.sub (List.sublist_append_left _ _),rfl⟩
 have hmem:=hw.mem;have hlen:=hw.len;have hdw: ∀w∈m.wait,OkN w:=fun w hm=>(hw.wait w hm).2
 unfold st_rtake;simp only [bI_eq,dK_dev,rK_held,qK_wait,bI_nz,rkid_eq];obtain⟨d1,d2,d3,d4,d5⟩:=hd;intro b0 b1 b2 b3;refine⟨fun c1 b4 b5=>?_,fun c1=>ret _ _ ?_⟩;rotate_left
 ·rw [take,if_pos];refine .inl (Bool.eq_false_iff.2 fun h=>c1 ?_);obtain⟨q1,q2,q3,q4,_⟩:=(mayD_iff _).1 h;exact⟨⟨⟨q1,q2⟩,by omega⟩,q4⟩
 iterate 8 refine⟨by omega,fun _=>?_⟩
 refine⟨fun c2=>ret _ _ ?_,fun c2=>?_⟩
 ·rw [take,if_pos];rcases c2 with(h | h) | ⟨h,h'⟩
  ·exact .inl (Bool.eq_false_iff.2 fun h2=>h ((mayD_iff _).1 h2).2.2.2.2)
  ·exact .inr (.inl (Prod.ext h.1 h.2))
  ·rw [list_eq16 d1 (hg h)]at h';exact .inr (.inr ⟨h,h'⟩)
 have hkid:d.kid=kidV d.ep d.sa d.sd:=Classical.not_not.1 fun h=>c2 (.inl (.inl h))
 have hmay:mayD d=true:=(mayD_iff _).2 ⟨c1.1.1.1,c1.1.1.2,by omega,c1.2,hkid⟩;have g1: ¬(mayD d=false∨(d.sa,d.sd)=m.sf∨m.so=true∧d.g≠m.g):=by
  rintro (h | h | ⟨h,h'⟩)
  ·rw [hmay]at h;cases h
  ·exact c2 (.inl (.inr ⟨by rw [←h],by rw [←h]⟩))
  ·exact c2 (.inr ⟨h,by rw [list_eq16 d1 (hg h)];exact h'⟩)
 refine⟨fun c3=>?_,fun c3=>?_⟩
 ·have g2:m.so=false∨m.ep<d.ep:=c3.imp_left fun h=>Bool.eq_false_iff.2 h
  have ht:take m d=((waits m.wait d).1,m.held,(waits m.wait d).2):=by rw [take,if_neg g1,if_pos g2]
  obtain⟨l,hl⟩: ∃l,l=m.wait:=⟨_,rfl⟩;rw [←hl]at ht hlen hdw ret ⊢;have hat:=diIs_list l;refine⟨fun x=> ∃i:Nat,x=⟨[],[],[(i:Int)],[],[],[],[]⟩∧i≤l.length∧∀j,j<i→∀h:j<l.length,l[j]≠d∧l[j].kid≠d.kid,fun x=>l.length - (x.i.getD 0 0).toNat,⟨0,rfl,0,rfl,Nat.zero_le _,fun j hj=>by omega⟩,?_⟩;rintro x13 ⟨i,he,hi,hb⟩;cases he;refine⟨by omega,fun _=>⟨fun hlt=>⟨by omega,fun _=>?_⟩,fun hge=>?_⟩⟩
  ·have hil:i<l.length:=by omega
   obtain⟨h1,h2,h3,h4,h5,h6⟩:=hat i hil;rw [Int.toNat_natCast,show((i:Int)*16).toNat=i*16 by omega,h2,h3,h4,h5,h6];have hc:((∀j,j<16→shiftF (gF l) (i*16) j=d.g.getD j 0)∧l[i].ep=d.ep∧l[i].sa=d.sa∧l[i].sd=d.sd∧l[i].kid=d.kid∧l[i].key=d.key)↔l[i]=d:=by
    rw [show(∀j,j<16→shiftF (gF l) (i*16) j=d.g.getD j 0)↔l[i].g=d.g by
     rw [←list_eq16 (hdw _ (List.getElem_mem hil)).1 d1];exact⟨fun h j hj=>by rw [←h1 j hj];exact h j hj,fun h j hj=>by rw [←h j hj];exact h1 j hj⟩]
    cases l[i];cases d;simp only [Di.mk.injEq]
   refine⟨fun h=>ret _ _ ?_,fun h=>⟨fun hk=>ret _ _ ?_,fun hk=>⟨by omega,fun _=>⟨by omega,fun _=>⟨_,rfl,⟨i+1,rfl,by omega,fun j hj hjl=>?_⟩,?_⟩⟩⟩⟩⟩
   ·have:=hc.1 h;rw [ht,waits_first i hil hb (.inl this),if_pos this]
   ·have:l[i]≠d:=fun e=>h (hc.2 e)
    rw [ht,waits_first i hil hb (.inr hk),if_neg this]
   ·by_cases hji:j=i
    ·subst hji;exact⟨fun e=>h (hc.2 e),hk⟩
    ·exact hb j (by omega) hjl
   ·simp only [List.getD_cons_zero];omega
  ·have hie:i=l.length:=by omega
   subst hie;have hno:=waits_none fun j h=>hb j h h
   refine⟨fun h64=>ret _ _ (by rw [ht,hno,if_pos (by omega)]),fun h64=>?_⟩;rw [hno,if_neg (by omega)]at ht;have hq: ∀v5:V1,qK true v5 ((l.length:Int)+1) (splF (gF l) (Int.toNat ((l.length:Int)*16)) 16 fun i=>d.g.getD i 0) (updF (fF l (·.ep)) (Int.toNat (l.length:Int)) d.ep) (updF (fF l (·.sa)) (Int.toNat (l.length:Int)) d.sa) (updF (fF l (·.sd)) (Int.toNat (l.length:Int)) d.sd) (updF (fF l (·.kid)) (Int.toNat (l.length:Int)) d.kid) (updF (fF l (·.key)) (Int.toNat (l.length:Int)) d.key)=rqHP true v5 (l++[d]):=by
    intro v5;rw [show((l.length:Int)+1)=((l++[d]).length:Int) by simp,Int.toNat_natCast,show((l.length:Int)*16).toNat=l.length*16 by omega];exact qK_is fun j hj=>push_cols hj hat
   have hmost:=hw.most;rw [←hl]at hmost;refine⟨fun _=>⟨⟨by omega,fun _ _ b6=>⟨by omega,fun _ v5=>?_⟩⟩,fun b6=>⟨by omega,fun _ _=>⟨by omega,fun _ v5=>?_⟩⟩⟩,fun b6 _=>⟨by omega,fun _ _=>⟨by omega,fun _ v5=>?_⟩⟩⟩
   all_goals
    rw [hq,hP,ht]
   ·exact⟨v1,v5,rfl,_,Ent.pick [0,1,9] (by decide) rfl,rfl⟩
   ·exact⟨v1,v5,rfl,_,Ent.pick [0,1,9] (by decide) rfl,rfl⟩
   ·exact⟨v1,v5,rfl,_,Ent.pick [0,1,10] (by decide) rfl,rfl⟩
 have g2: ¬(m.so=false∨m.ep<d.ep):=fun h=>c3 (h.imp_left fun h=>by rw [h];simp)
 refine⟨fun c4=>ret _ _ (by rw [take,if_neg g1,if_neg g2,if_pos c4]),fun c4=>?_⟩;refine⟨_,rhas_meets m.g m.ep v0 m.mem m.sf (by omega),fun x hs hq=>?_⟩;obtain⟨rfl,rfl⟩:=hq;refine⟨_,rfl,rfl,fun c5=>?_,fun c5=>ret _ _ (by rw [take,if_neg g1,if_neg g2,if_neg c4,if_pos (.inl (by simpa using c5))])⟩;have c5:m.sf∈m.mem:=by simpa using c5
 refine⟨_,rhas_meets m.g m.ep v0 m.mem (d.sa,d.sd) (by omega),fun x hs hq=>?_⟩;obtain⟨rfl,rfl⟩:=hq;refine⟨_,rfl,rfl,fun c6=>ret _ _ (by rw [take,if_neg g1,if_neg g2,if_neg c4,if_pos (.inr (by simpa using c6))]),fun c6=>?_⟩;have c6:(d.sa,d.sd)∈m.mem:=by simpa using c6
 have g4: ¬(m.sf ∉ m.mem∨(d.sa,d.sd) ∉ m.mem):=fun h=>h.elim (fun h=>h c5) fun h=>h c6
 have hP2: ∀d,OkN d→0≤d.sa∧0≤d.sd:=fun d h=>⟨h.2.1,h.2.2.2.1⟩
 have hk: ∀h∈m.held,h.d.kid=d.kid↔(h.d.sa,h.d.sd)=(d.sa,d.sd)∧h.d.ep=d.ep:=fun h hm=>by
  rw [hkid,held_kid hP2 hw hm ⟨by omega,c1.2,d2,c1.1.1.1,d4,c1.1.1.2⟩,Prod.mk.injEq];exact⟨fun⟨a,b,c⟩=>⟨⟨b,c⟩,a⟩,fun⟨⟨b,c⟩,a⟩=>⟨a,b,c⟩⟩
 refine⟨_,rfind_meets m v0 v1 v2 nx (d.sa,d.sd) d.ep (by omega),fun x hs hq=>?_⟩;obtain⟨rfl,rfl⟩:=hq;refine⟨_,rfl,rfl,fun c7=>?_,fun c7=>?_⟩
 ·have hf:=(findR_none (by omega: ¬0≤findR m.held (d.sa,d.sd) d.ep)).2;have g5: ¬holds m.held d.kid=true:=fun h=>by
   unfold holds at h;rw [List.any_eq_true]at h;obtain⟨x,hx,h⟩:=h;rw [List.find?_eq_none]at hf;exact hf x hx (decide_eq_true ((hk x hx).1 (by simpa using h)))
  have ht:take m d=(0,hold m.held d,m.wait):=by rw [take,if_neg g1,if_neg g2,if_neg c4,if_neg g4,if_neg g5]
  obtain⟨l,hl⟩: ∃l,l=m.held:=⟨_,rfl⟩;rw [←hl]at ht hlen ret hf ⊢;have hat:=heIs_list l;intro b6 _ _;refine⟨fun x=> ∃i:Nat,x=⟨[],[],[(i:Int)],[],[],[],[]⟩∧i≤l.length∧∀j,j<i→∀h:j<l.length,l[j].d.kid<d.kid,fun x=>l.length - (x.i.getD 0 0).toNat,⟨0,rfl,0,rfl,Nat.zero_le _,fun j hj=>by omega⟩,?_⟩;rintro x14 ⟨i,he,hi,hb⟩;cases he
  iterate 9 refine⟨by omega,fun _=>?_⟩
  rw [Int.toNat_natCast];refine⟨fun c8=>⟨by omega,fun _=>⟨by omega,fun _=>⟨_,rfl,⟨i+1,rfl,by omega,fun j hj hjl=>?_⟩,?_⟩⟩⟩,fun c8=>⟨by omega,fun _=>⟨by omega,fun _=>?_⟩⟩⟩
  ·by_cases hji:j=i
   ·subst hji;have h2:=c8.2;rw [kid_at l j hjl]at h2;exact h2
   ·exact hb j (by omega) hjl
  ·simp only [List.getD_cons_zero];have:=c8.1;omega
  ·have hlow:low l d.kid=i:=low_of hi hb fun h=>Int.not_lt.1 fun h'=>c8 ⟨by omega,by rw [kid_at l i h];exact h'⟩
   have hput:=put_len l ⟨d,0,false⟩ i hi;have hq: ∀v6:V1,rK true v6 ((i:Int)+1+((l.length:Int) - i)) (splF (splF (gF (l.map (·.d))) (Int.toNat ((i:Int)*16)) 16 fun k=>d.g.getD k 0) (Int.toNat (((i:Int)+1)*16)) (Int.toNat (((l.length:Int) - i)*16)) (shiftF (gF (l.map (·.d))) (Int.toNat ((i:Int)*16)))) (splF (updF (fF (l.map (·.d)) (·.ep)) i d.ep) (Int.toNat ((i:Int)+1)) (Int.toNat ((l.length:Int) - i)) (shiftF (fF (l.map (·.d)) (·.ep)) i)) (splF (updF (fF (l.map (·.d)) (·.sa)) i d.sa) (Int.toNat ((i:Int)+1)) (Int.toNat ((l.length:Int) - i)) (shiftF (fF (l.map (·.d)) (·.sa)) i))
     (splF (updF (fF (l.map (·.d)) (·.sd)) i d.sd) (Int.toNat ((i:Int)+1)) (Int.toNat ((l.length:Int) - i)) (shiftF (fF (l.map (·.d)) (·.sd)) i)) (splF (updF (fF (l.map (·.d)) (·.kid)) i d.kid) (Int.toNat ((i:Int)+1)) (Int.toNat ((l.length:Int) - i)) (shiftF (fF (l.map (·.d)) (·.kid)) i)) (splF (updF (fF (l.map (·.d)) (·.key)) i d.key) (Int.toNat ((i:Int)+1)) (Int.toNat ((l.length:Int) - i)) (shiftF (fF (l.map (·.d)) (·.key)) i))
     (splF (updF (hF l fun e=>bI e.ends) i 0) (Int.toNat ((i:Int)+1)) (Int.toNat ((l.length:Int) - i)) (shiftF (hF l fun e=>bI e.ends) i)) (splF (updF (hF l (·.til)) i 0) (Int.toNat ((i:Int)+1)) (Int.toNat ((l.length:Int) - i)) (shiftF (hF l (·.til)) i))=rhHP true v6 (hold l d):=by
    intro v6;rw [put_low,hlow,show((i:Int)+1+((l.length:Int) - i))=((put l i ⟨d,0,false⟩).length:Int) by omega,show((i:Int)*16).toNat=i*16 by omega,show(((i:Int)+1)*16).toNat=(i+1)*16 by omega,show(((l.length:Int) - i)*16).toNat=(l.length - i)*16 by omega,show((i:Int)+1).toNat=i+1 by omega,show((l.length:Int) - i).toNat=l.length - i by omega];exact rK_is fun j hj=>put_cols hi hj hat rfl rfl
   refine⟨fun _=>⟨⟨by omega,fun _ _ b9=>⟨by omega,fun _ v5=>?_⟩⟩,fun b9=>⟨by omega,fun _ _=>⟨by omega,fun _ v5=>?_⟩⟩⟩,fun b9 _=>⟨by omega,fun _ _=>⟨by omega,fun _ v5=>?_⟩⟩⟩
   all_goals
    iterate 4 refine⟨by omega,fun _=>?_⟩
    intro v6;rw [hq,hP,ht]
   ·exact⟨v6,v2,rfl,_,Ent.pick [0,12,2] (by decide) rfl,rfl⟩
   ·exact⟨v6,v2,rfl,_,Ent.pick [0,12,2] (by decide) rfl,rfl⟩
   ·exact⟨v6,v2,rfl,_,Ent.pick [0,13,2] (by decide) rfl,rfl⟩
 ·obtain⟨i,hi,h1,h2,h3,h4⟩:=findR_some (by omega:0≤findR m.held (d.sa,d.sd) d.ep);have hkd:=(hk _ (List.getElem_mem hi)).2 ⟨h2,h3⟩;have g5:holds m.held d.kid=true:=by
   unfold holds;rw [List.any_eq_true];exact⟨_,List.getElem_mem hi,by simpa using hkd⟩
  have hlow:low m.held d.kid=i:=low_of (by omega) (fun j hj h=>by rw [←hkd];exact rise_lt hw.rise hj hi) fun _=>by rw [hkd];exact Int.le_refl _
  rw [h1];refine⟨by omega,fun _=>⟨by omega,fun _=>?_⟩⟩;obtain⟨_,_,_,_,_,h6⟩:=diIs_list (m.held.map (·.d)) i (by simpa using hi);rw [List.getElem_map]at h6;rw [Int.toNat_natCast,h6];have hgd:m.held.getD (low m.held d.kid) default=m.held[i]:=by rw [hlow];simp [List.getD_eq_getElem?_getD,hi]
  refine⟨fun c8=>ret _ _ ?_,fun c8=>ret _ _ ?_⟩
  ·rw [take,if_neg g1,if_neg g2,if_neg c4,if_neg g4,if_pos g5,hgd,if_neg c8]
  ·rw [take,if_neg g1,if_neg g2,if_neg c4,if_neg g4,if_pos g5,hgd,if_pos (Classical.not_not.1 c8)]
end Go.RX.Gu
