/- The document's Enter: what waited is taken, and to whom the own key goes. · The document's Enter: the function. -/
import Derived.Test.YtfnaoeleljhmhaaGreatHbF
import Derived.Test.YtfnaoeleljhmhaaGreatM41
import Derived.Test.YtfnaoeleljhmhaaGreatM35

namespace Go.RX.Ha
open Go Go.RX Go.Proofs Go.Gp Go.RX.Gb Go.RX.Gf Go.RX.Gl Go.RX.Gu
theorem rm_is{m:Me}{v0 v1 v2:V1}{nx x:Int}{A:Nat→Int}{a b ep:Int}(h1:m.sf.1=a)(h2:m.sf.2=b)(h3:(!(x==0))=m.so)(h4: ∀j,j<16→A j=m.g.getD j 0)(h5:m.ep=ep):rC a b (!(x==0)) A ep v0.v v1.v v2.v nx=rmV m v0 v1 v2 nx:=by
 unfold rmV;rw [h3,h1,h2,h5];simp only [rC];rw [segCells_congr .u8 16 h4]
theorem rdV_at(l:List Di)(i:Nat)(hi:i<l.length):(Value.agg (List.append (segCells .u8 16 (shiftF (gF l) (i*16))) ([.int .u64 (fF l (·.ep) i),.int .u8 (fF l (·.sa) i),.int .u8 (fF l (·.sd) i),.int .u64 (fF l (·.kid) i),.int .u64 (fF l (·.key) i)])).toArray)= .agg (rdC l[i]).toArray:=by
 obtain⟨h1,h2,h3,h4,h5,h6⟩:=diIs_list l i hi;rw [h2,h3,h4,h5,h6,segCells_congr .u8 16 (f:=shiftF (gF l) (i*16)) (g:=fun k=>l[i].g.getD k 0) fun j hj=>h1 j hj];rfl
theorem dK_is{md:Bool}{v:V1}{l:List (Int×Int)}{A B:Nat→Int}(h: ∀j (hj:j<l.length),A j=l[j].1∧B j=l[j].2):dK md v (l.length:Int) A B=devHP md v l:=by
 simp only [dK,devHP,Int.toNat_natCast];rw [tab_dev rfl h]
theorem renter_tail(K:Value→HP→HP→HP→HP→HP→Prop)(m m1:Me)(l1:List He)(i0:Nat)(g:List Int)(ep nx nx':Int)(mem:List (Int×Int))(b0 b2:Nat)(v3 v11:V1)(A22 A23 A24 A25 A26 A27 A28 A29:Nat→Int)(hg:g.length=16)
  (hm:m1.so=true∧m1.sf=m.sf∧m1.g=g∧m1.ep=ep∧m1.mem=mem∧m1.wait=[]) (hi0:i0≤l1.length) (hh:m1.held=put l1 i0 ⟨ownD m g ep nx,0,false⟩)
  (hcol: ∀j,∀h:j<l1.length,HeIs A22 A23 A24 A25 A26 A27 A29 A28 j l1[j])
  (hw1:Wf OkN 100000 m1) (hw: ∀w∈m.wait,OkN w) (hl:m.wait.length≤64) (hmem:mem.length≤32) (hnx:IntKind.wrap .u64 (nx+1)=nx')
  (hK: ∀u1 u2 uo X Y,K (.tuple #[.agg (rmV (m.wait.foldl (retake g ep) m1) v3 u1 u2 nx').toArray,uo.v,.int .i64 0]) (devHP true uo (mem.filter fun p=>decide (p≠m.sf))) (rqHP true u2 (m.wait.foldl (retake g ep) m1).wait) (rhHP true u1 (m.wait.foldl (retake g ep) m1).held) X Y):
  st_rtail K m.sf.1 m.sf.2 nx (m.wait.length:Int) ep (mem.length:Int) (l1.length:Int) (i0:Int) (gF m.wait) (fF m.wait (·.ep)) (fF m.wait (·.sa)) (fF m.wait (·.sd)) (fF m.wait (·.kid)) (fF m.wait (·.key)) (fun i=>g.getD i 0) (pF mem (·.1)) (pF mem (·.2)) A22 A23 A24 A25 A26 A27 A28 A29 v3 v11 b0 b2:=by
 obtain⟨k1,k2,k3,k4,k5,k6⟩:=hm;obtain⟨M,hM⟩: ∃M:Nat→Me,M=fun i=>(m.wait.take i).foldl (retake g ep) m1:=⟨_,rfl⟩
 have hMw: ∀i,i≤m.wait.length→Wf OkN (100000+i) (M i):=fun i hi=>by
  have:=retakes_wf g ep (m.wait.take i) hw1 fun d hd=>hw d (List.mem_of_mem_take hd)
  rw [List.length_take,Nat.min_eq_left hi]at this;rw [hM];exact this
 have hMs: ∀i,(M i).sf=m.sf∧(M i).so=true∧(M i).g=g∧(M i).ep=ep∧(M i).mem=mem:=fun i=>by
  obtain⟨h1,h2,h3,h4,h5⟩:=retakes_same g ep (m.wait.take i) m1;rw [hM];exact⟨h1.trans k2,h2.trans k1,h3.trans k3,h4.trans k4,h5.trans k5⟩
 have hend:M m.wait.length=m.wait.foldl (retake g ep) m1:=by rw [hM];simp only [List.take_length]
 have h0:M 0=m1:=by rw [hM];rfl
 have hrm: ∀i (u1 u2:V1) (x:Int) (A:Nat→Int),(!(x==0))=true→(∀j,j<16→A j=g.getD j 0)→rC m.sf.1 m.sf.2 (!(x==0)) A ep v3.v u1.v u2.v nx'=rmV (M i) v3 u1 u2 nx':=fun i u1 u2 x A hx hA=>by
  obtain⟨h1,h2,h3,h4,_⟩:=hMs i;exact rm_is (by rw [h1]) (by rw [h1]) (by rw [h2,hx]) (by rw [h3];exact hA) h4
 unfold st_rtail;refine⟨fun x=> ∃(i:Nat) (u1 u2:V1) (x18:Int) (A A1 B C D E F G H A' B' C' D' E' F':Nat→Int),x=⟨[],[u1,u2],[(i:Int),m.sf.1,m.sf.2,x18,ep,nx',((M i).held.length:Int),((M i).wait.length:Int)],[A,A1,B,C,D,E,F,G,H,A',B',C',D',E',F'],[],[],[]⟩∧i≤m.wait.length∧(!(x18==0))=true∧(∀j,j<16→A j=g.getD j 0)∧
   (∀j,∀h:j<(M i).held.length,HeIs A1 B C D E F H G j (M i).held[j])∧∀j,∀h:j<(M i).wait.length,DiIs A' B' C' D' E' F' j (M i).wait[j],fun x=>m.wait.length - (x.i.getD 0 0).toNat,
  ⟨_,_,_,_,_,(1:Int),_,_,_,_,_,_,_,_,_,_,_,_,_,_,_,_,_,_,_,rfl,rfl,rfl,rfl,fun _ _=>rfl,rfl,rfl,rfl,hnx.symm,rfl,rfl,fun _ _=>rfl,fun _ _=>rfl,fun _ _=>rfl,fun _ _=>rfl,fun _ _=>rfl,fun _ _=>rfl,fun _ _=>rfl,fun _ _=>rfl,rfl,rfl,fun _ _=>rfl,fun _ _=>rfl,fun _ _=>rfl,fun _ _=>rfl,fun _ _=>rfl,fun _ _=>rfl,
   0,_,_,(1:Int),(fun i=>g.getD i 0),_,_,_,_,_,_,_,_,_,_,_,_,_,_,by rw [h0,k6,hh,put_len l1 _ i0 hi0,show((l1.length+1:Nat):Int)=(i0:Int)+1+((l1.length:Int) - i0) by omega];rfl,Nat.zero_le _,rfl,fun _ _=>rfl,?_,?_⟩,?_⟩
 ·rw [h0];simp only [hh];intro j hj;have:=put_cols hi0 hj hcol (e:=⟨ownD m g ep nx,0,false⟩) (z7:=0) (z8:=0) rfl rfl;rw [rkid_eq,Int.toNat_natCast,show((i0:Int)*16).toNat=i0*16 by omega,show(((i0:Int)+1)*16).toNat=(i0+1)*16 by omega,show(((l1.length:Int) - i0)*16).toNat=(l1.length - i0)*16 by omega,show((i0:Int)+1).toNat=i0+1 by omega,show((l1.length:Int) - i0).toNat=l1.length - i0 by omega];exact this
 ·rw [h0,k6];intro j hj;simp at hj
 rintro v13 v14 x15 x16 x17 x18 x19 x20 x21 x22 A30 A31 A32 A33 A34 A35 A36 A37 A38 A39 A40 A41 A42 A43 A44 ⟨i,u1,u2,z,A,A1,B,C,D,E,F,G,H,A',B',C',D',E',F',he,hi,hz,hA,hH,hW⟩;cases he;refine⟨by omega,fun _=>⟨fun hlt=>⟨by omega,fun _=>?_⟩,fun hge=>?_⟩⟩
 ·have hil:i<m.wait.length:=by omega
  have hd:=diIs_list m.wait i hil;have hdw:=hw _ (List.getElem_mem hil);have hsucc:M (i+1)=retake g ep (M i) m.wait[i]:=by
   rw [hM];exact retakes_succ g ep m.wait m1 i hil
  rw [Int.toNat_natCast,show((i:Int)*16).toNat=i*16 by omega];have hcond:((∀j,j<16→shiftF (gF m.wait) (i*16) j=g.getD j 0)∧ep≤fF m.wait (·.ep) i)↔(m.wait[i].g=g∧ep≤m.wait[i].ep):=by
   rw [hd.2.1,←list_eq16 hdw.1 hg];exact and_congr_left' ⟨fun h j hj=>by rw [←hd.1 j hj];exact h j hj,fun h j hj=>by rw [←h j hj];exact hd.1 j hj⟩
  iterate 6 refine⟨.inr (by omega),fun _=>?_⟩
  refine⟨fun hc=>?_,fun hc=>?_⟩
  ·have hc:=hcond.1 hc;have hs2:M (i+1)=took (M i) m.wait[i]:=by
    rw [hsucc];unfold retake took;rw [if_pos hc]
   have ht:=rtake_meets (M i) v3 v13 v14 nx' m.wait[i] _ (hMw i hi) (by omega) (fun _=>by rw [(hMs i).2.2.1];exact hg) hdw;rw [(hMs i).2.2.2.2]at ht;rw [rdV_at _ _ hil,hrm i v13 v14 x18 A30 hz hA,rK_is hH,qK_is hW,dK_dev];refine⟨_,ht,fun x hs hq=>?_⟩;obtain⟨q1,q2,rfl,rfl⟩:=hq;refine⟨q1,q2,m.sf.1,m.sf.2,1,ep,nx',_,_,_,fun j=>g.getD j 0,_,_,_,_,_,_,_,_,_,_,_,_,_,_,by rw [hrm i q1 q2 1 _ rfl fun _ _=>rfl],by rw [←rK_held,←qK_wait],by omega,fun _=>⟨by omega,fun _=>?_⟩⟩;refine⟨_,_,_,_,_,(1:Int),_,_,_,_,_,_,_,_,_,_,_,_,_,_,_,_,_,_,_,rfl,rfl,rfl,rfl,fun _ _=>rfl,rfl,rfl,rfl,rfl,rfl,rfl,fun _ _=>rfl,fun _ _=>rfl,fun _ _=>rfl,fun _ _=>rfl,fun _ _=>rfl,fun _ _=>rfl,fun _ _=>rfl,fun _ _=>rfl,rfl,rfl,fun _ _=>rfl,fun _ _=>rfl,fun _ _=>rfl,fun _ _=>rfl,fun _ _=>rfl,fun _ _=>rfl,
    ⟨i+1,_,_,(1:Int),_,_,_,_,_,_,_,_,_,_,_,_,_,_,_,by rw [hs2];rfl,by omega,rfl,fun _ _=>rfl,?_,?_⟩,?_⟩
   ·rw [hs2];exact heIs_list _
   ·rw [hs2];exact diIs_list _
   ·simp only [List.getD_cons_zero];omega
  ·have hs2:M (i+1)=M i:=by
    rw [hsucc];unfold retake;rw [if_neg fun h=>hc (hcond.2 h)]
   refine⟨by omega,fun _=>⟨by omega,fun _=>?_⟩⟩;refine⟨_,_,_,_,_,x18,_,_,_,_,_,_,_,_,_,_,_,_,_,_,_,_,_,_,_,rfl,rfl,rfl,rfl,fun _ _=>rfl,rfl,rfl,rfl,rfl,rfl,rfl,fun _ _=>rfl,fun _ _=>rfl,fun _ _=>rfl,fun _ _=>rfl,fun _ _=>rfl,fun _ _=>rfl,fun _ _=>rfl,fun _ _=>rfl,rfl,rfl,fun _ _=>rfl,fun _ _=>rfl,fun _ _=>rfl,fun _ _=>rfl,fun _ _=>rfl,fun _ _=>rfl,
    ⟨i+1,_,_,x18,_,_,_,_,_,_,_,_,_,_,_,_,_,_,_,by rw [hs2];rfl,by omega,hz,hA,?_,?_⟩,?_⟩
   ·rw [hs2];exact hH
   ·rw [hs2];exact hW
   ·simp only [List.getD_cons_zero];omega
 ·have hie:i=m.wait.length:=by omega
  subst hie;have hrm2:=hrm m.wait.length v13 v14 x18 A30 hz hA;rw [hend]at*;rw [hrm2];obtain⟨q,hq⟩: ∃q:Int×Int→Bool,q=fun p=>decide (p≠m.sf):=⟨_,rfl⟩
  refine⟨fun x=> ∃(i:Nat) (u:V1) (A B:Nat→Int),x=⟨[],[u],[(i:Int),(((mem.take i).filter q).length:Int)],[A,B],[],[],[]⟩∧i≤mem.length∧
    ∀j,∀h:j<((mem.take i).filter q).length,A j=((mem.take i).filter q)[j].1∧B j=((mem.take i).filter q)[j].2,fun x=>mem.length - (x.i.getD 0 0).toNat,
   ⟨_,_,_,_,_,rfl,rfl,rfl,rfl,fun _ _=>rfl,fun _ _=>rfl,0,_,_,_,rfl,Nat.zero_le _,fun j hj=>by simp at hj⟩,?_⟩
  rintro v16 x23 x24 A45 A46 ⟨i,u,A2,B2,he,hi2,hO⟩;cases he;have hlen:((mem.take i).filter q).length≤32:=Nat.le_trans (List.length_filter_le _ _) (by rw [List.length_take];omega);refine⟨by omega,fun _=>⟨fun hlt=>⟨by omega,fun _=>?_⟩,fun hge=>?_⟩⟩
  ·have hil:i<mem.length:=by omega
   have hsucc:=filt_succ q mem i hil;rw [Int.toNat_natCast,pF_at mem _ i hil,pF_at mem _ i hil];have hcond: ¬(mem[i].1=m.sf.1∧mem[i].2=m.sf.2)↔q mem[i]=true:=by
    rw [hq];simp only [decide_eq_true_eq,ne_eq,Prod.ext_iff]
   refine⟨fun hc _=>?_,fun hc=>?_⟩
   ·rw [if_pos (hcond.1 hc)]at hsucc;refine⟨by omega,fun _=>⟨by omega,fun _ v17=>⟨by omega,fun _=>⟨by omega,fun _=>?_⟩⟩⟩⟩;refine⟨_,_,_,_,_,rfl,rfl,rfl,rfl,fun _ _=>rfl,fun _ _=>rfl,⟨i+1,_,_,_,by rw [hsucc,List.length_append];rfl,by omega,fun j hj=>?_⟩,?_⟩
    ·simp only [hsucc]at hj ⊢;rw [List.length_append,List.length_singleton]at hj;rw [Int.toNat_natCast];by_cases hjl:j<((mem.take i).filter q).length
     ·rw [List.getElem_append_left hjl];simp only [updF];rw [if_neg (by omega),if_neg (by omega)];exact hO j hjl
     ·have hje:j=((mem.take i).filter q).length:=by omega
      subst hje;rw [List.getElem_append_right (Nat.le_refl _)];simp only [Nat.sub_self,List.getElem_singleton,updF,if_true,and_self]
    ·simp only [List.getD_cons_zero];omega
   ·rw [if_neg fun h=>hc (hcond.2 h),List.append_nil]at hsucc;refine⟨by omega,fun _=>⟨by omega,fun _=>?_⟩⟩;refine⟨_,_,_,_,_,rfl,rfl,rfl,rfl,fun _ _=>rfl,fun _ _=>rfl,⟨i+1,_,_,_,by rw [hsucc];rfl,by omega,?_⟩,?_⟩
    ·simp only [hsucc];exact hO
    ·simp only [List.getD_cons_zero];omega
  ·have hie:i=mem.length:=by omega
   subst hie;rw [List.take_length]at hO;rw [List.take_length,rK_is hH,qK_is hW,dK_is hO,hq];exact hK _ _ _ _ _
end Go.RX.Ha

namespace Go.RX.Ha
open Go Go.RX Go.Proofs Go.Gp Go.RX.Gb Go.RX.Gf Go.RX.Gl Go.RX.Gu
def REntP(e:Int×Me×List (Int×Int)×Bool)(nx nx':Int):PT:=fun r hs=>
 ∃u0 u1 u2 uo:V1,r= .tuple #[.agg (rmV e.2.1 u0 u1 u2 (if e.2.2.2 then nx' else nx)).toArray,uo.v,.int .i64 e.1]∧hs=[devHP true u0 e.2.1.mem,rhHP true u1 e.2.1.held,rqHP true u2 e.2.1.wait,devHP true uo e.2.2.1]
theorem tilR(now:Int)(h:0≤now∧now<18446744073709551616):(now<18446744073709551515→IntKind.wrap .u64 (now+100)=tilOf now)∧(¬now<18446744073709551515→18446744073709551615=tilOf now):=by
 unfold tilOf;rw [w64,Int.emod_eq_of_lt (by omega:0≤18446744073709551615 - now) (by omega)];constructor
 ·intro h1;rw [if_pos (by omega)]
 ·intro h1;by_cases h2:100≤18446744073709551615 - now
  ·rw [if_pos h2];omega
  ·rw [if_neg h2];omega
theorem renter_meets(m:Me)(v0 v1 v2 v3:V1)(g:List Int)(ep now nx nx':Int)(mem:List (Int×Int))(n:Nat)(hw:Wf OkN n m)(hn:n≤1000)(hgm:m.so=true→m.g.length=16)(hg:g.length=16)(hml:mem.length≤32)(hmb: ∀p∈mem,0≤p.1∧p.1<256∧0≤p.2∧p.2<256)(ho:OkN (ownD m g ep nx))(hnow:0≤now∧now<18446744073709551616)(hnx:IntKind.wrap .u64 (nx+1)=nx'):
  Meets Tryz.prog 23 [.agg (rmV m v0 v1 v2 nx).toArray,rosV g ep v3.v,.int .u64 now] [devHP true v0 m.mem,rhHP true v1 m.held,rqHP true v2 m.wait,devHP true v3 mem]
   (REntP (enter m g ep mem now nx) nx nx'):=by
 obtain⟨Post,hP⟩: ∃Post:PT,Post=fun r hs=> ∃hs',Ent hs hs'∧REntP (enter m g ep mem now nx) nx nx' r hs':=⟨_,rfl⟩
 have base:=mt_renter Post m.sf.1 m.sf.2 (bI m.so) m.ep nx (m.mem.length:Int) (m.held.length:Int) (m.wait.length:Int) ep (mem.length:Int) now (fun i=>m.g.getD i 0) (pF m.mem (·.1)) (pF m.mem (·.2))
  (gF (m.held.map (·.d))) (fF (m.held.map (·.d)) (·.ep)) (fF (m.held.map (·.d)) (·.sa)) (fF (m.held.map (·.d)) (·.sd)) (fF (m.held.map (·.d)) (·.kid)) (fF (m.held.map (·.d)) (·.key)) (hF m.held fun e=>bI e.ends) (hF m.held (·.til))
  (gF m.wait) (fF m.wait (·.ep)) (fF m.wait (·.sa)) (fF m.wait (·.sd)) (fF m.wait (·.kid)) (fF m.wait (·.key)) (fun i=>g.getD i 0) (pF mem (·.1)) (pF mem (·.2)) v0 v1 v2 v3
 rw [bI_eq,dK_dev,rK_held,qK_wait,dK_dev]at base;refine(base ?_).post fun r hs h=>by rw [hP]at h;exact h
 have hlen:=hw.len;have hPn: ∀d,OkN d→0≤d.sa∧0≤d.sd:=fun d h=>⟨h.2.1,h.2.2.2.1⟩
 obtain⟨_,hs1,hs2,hs3,hs4⟩:=ho;have hs1:0≤m.sf.1:=hs1;have hs2:m.sf.1<256:=hs2;have hs3:0≤m.sf.2:=hs3;have hs4:m.sf.2<256:=hs4;unfold st_renter;simp only [bI_eq,dK_dev,rK_held,qK_wait,rkid_eq];intro b0 b1 b2;have err: ∀(e:Int) (X:List HP),enter m g ep mem now nx=(e,m,[],false)→Post (.tuple #[.agg (rmV m v0 v1 v2 nx).toArray,.slice none 0 0,.int .i64 e]) ([devHP true v0 m.mem,rhHP true v1 m.held,rqHP true v2 m.wait,devHP true v3 mem]++X):=by
  intro e X he;rw [hP,he];refine⟨_,?_,v0,v1,v2,nil1,rfl,rfl⟩;refine Ent.trans (Ent.sub (b:=[devHP true v0 m.mem,rhHP true v1 m.held,rqHP true v2 m.wait]) (List.Sublist.append (l₁:=[devHP true v0 m.mem,rhHP true v1 m.held,rqHP true v2 m.wait]) (l₂:=[devHP true v0 m.mem,rhHP true v1 m.held,rqHP true v2 m.wait,devHP true v3 mem]) (r₁:=[]) (by simp) (List.nil_sublist X))) ?_;exact Ent.front (A:=[devHP true v0 m.mem,rhHP true v1 m.held,rqHP true v2 m.wait]) (Ent.nilS 23 2)
 refine⟨_,rrmay_meets g ep v3 mem hml hmb,fun x hs hq=>?_⟩;obtain⟨rfl,rfl⟩:=hq;refine⟨_,rfl,rfl,fun h1=>?_,fun h1=>?_⟩
 ·refine err _ _ ?_;rw [enter,if_pos];rcases h1 with h | ⟨h,h'⟩
  ·exact .inl (Bool.eq_false_iff.2 h)
  ·rw [bI_nz]at h;rw [list_eq16 hg (hgm h)]at h';exact .inr ⟨h,h'⟩
 have g1: ¬(mayR ep mem=false∨m.so=true∧g≠m.g):=by
  rintro (h | ⟨h,h'⟩)
  ·exact h1 (.inl (by rw [h];simp))
  ·exact h1 (.inr ⟨(bI_nz _).2 h,by rw [list_eq16 hg (hgm h)];exact h'⟩)
 refine⟨fun h2=>?_,fun h2=>?_⟩
 ·refine err _ _ ?_;rw [bI_nz]at h2;rw [enter,if_neg g1,if_pos h2]
 have g2: ¬(m.so=true∧ep≤m.ep):=fun h=>h2 ⟨(bI_nz _).2 h.1,h.2⟩
 have hr:mayR ep mem=true:=by
  cases h:mayR ep mem
  ·exact absurd (.inl h) g1
  ·rfl
 have hlt:m.so=true→m.ep<ep:=fun h=>by
  have: ¬ep≤m.ep:=fun h'=>g2 ⟨h,h'⟩
  omega
 obtain⟨l,hl⟩: ∃l,l=m.held:=⟨_,rfl⟩;rw [←hl]at hlen ⊢;have hat:=heIs_list l;have hfd: ∀j (h:j<l.length),(fade l now)[j]'(by simp [fade,h])=if l[j].ends then l[j]else {l[j]with ends:=true,til:=tilOf now}:=fun j h=>by simp [fade]
 obtain⟨ht1,ht2⟩:=tilR now hnow;intro _;refine⟨by omega,fun _=>⟨by omega,fun _=>⟨by omega,fun _ v5=>⟨fun x=> ∃(i:Nat) (A B:Nat→Int),x=⟨[],[],[(i:Int)],[A,B],[],[],[]⟩∧i≤l.length∧∀j,∀h:j<l.length,HeIs (gF (l.map (·.d))) (fF (l.map (·.d)) (·.ep)) (fF (l.map (·.d)) (·.sa)) (fF (l.map (·.d)) (·.sd)) (fF (l.map (·.d)) (·.kid)) (fF (l.map (·.d)) (·.key)) B A j (if j<i then(if l[j].ends then l[j]else {l[j]with ends:=true,til:=tilOf now})else l[j]),
  fun x=>l.length - (x.i.getD 0 0).toNat,⟨_,_,_,rfl,fun _ _=>rfl,fun _ _=>rfl,0,_,_,rfl,Nat.zero_le _,fun j hj=>by rw [if_neg (by omega)];exact hat j hj⟩,?_⟩⟩⟩⟩
 rintro x11 A20 A21 ⟨i,A,B,he,hi,hA⟩;cases he;refine⟨by omega,fun _=>⟨fun hlt'=>⟨by omega,fun _=>?_⟩,fun hge=>?_⟩⟩
 ·have hil:i<l.length:=by omega
  rw [Int.toNat_natCast];have hAi:=hA i hil;rw [if_neg (Nat.lt_irrefl i)]at hAi;have step: ∀Z:Nat→Int,(¬A20 i≠0)→(∀j,j<l.length→Z j=if j=i then tilOf now else A21 j)→∀j,∀h:j<l.length,HeIs (gF (l.map (·.d))) (fF (l.map (·.d)) (·.ep)) (fF (l.map (·.d)) (·.sa)) (fF (l.map (·.d)) (·.sd)) (fF (l.map (·.d)) (·.kid)) (fF (l.map (·.d)) (·.key)) Z (updF A20 i 1) j (if j<i+1 then(if l[j].ends then l[j]else {l[j]with ends:=true,til:=tilOf now})else l[j]):=by
   intro Z hc hZ j hj;have hends:l[i].ends=false:=by
    rw [←hAi.2.2];simpa using hc
   by_cases hji:j=i
   ·subst hji;rw [if_pos (by omega),if_neg (by rw [hends];simp)];refine⟨hAi.1,?_,?_⟩
    ·rw [hZ j hj,if_pos rfl]
    ·simp [updF]
   ·have:=hA j hj;by_cases hlt2:j<i
    ·rw [if_pos hlt2]at this;rw [if_pos (by omega)];refine⟨this.1,?_,?_⟩
     ·rw [hZ j hj,if_neg hji];exact this.2.1
     ·simp only [updF,if_neg hji];exact this.2.2
    ·rw [if_neg hlt2]at this;rw [if_neg (by omega)];refine⟨this.1,?_,?_⟩
     ·rw [hZ j hj,if_neg hji];exact this.2.1
     ·simp only [updF,if_neg hji];exact this.2.2
  refine⟨fun hc=>⟨fun h3=>⟨by omega,fun _=>⟨by omega,fun _=>⟨_,_,_,rfl,fun _ _=>rfl,fun _ _=>rfl,⟨i+1,_,_,rfl,by omega,step _ hc fun j hj=>?_⟩,?_⟩⟩⟩,fun h3=>⟨by omega,fun _=>⟨by omega,fun _=>⟨_,_,_,rfl,fun _ _=>rfl,fun _ _=>rfl,⟨i+1,_,_,rfl,by omega,step _ hc fun j hj=>?_⟩,?_⟩⟩⟩⟩,fun hc=>⟨by omega,fun _=>⟨by omega,fun _=>⟨_,_,_,rfl,fun _ _=>rfl,fun _ _=>rfl,⟨i+1,_,_,rfl,by omega,fun j hj=>?_⟩,?_⟩⟩⟩⟩
  ·rw [ht1 h3];simp only [updF];by_cases hji:j=i
   ·rw [if_pos hji,if_pos hji]
   ·rw [if_neg hji,if_neg hji,if_neg hji]
  ·simp only [List.getD_cons_zero];omega
  ·rw [ht2 h3];simp only [updF]
  ·simp only [List.getD_cons_zero];omega
  ·have hends:l[i].ends=true:=by
    rw [←hAi.2.2];simpa using hc
   by_cases hji:j=i
   ·subst hji;rw [if_pos (by omega),if_pos hends];exact hAi
   ·have:=hA j hj;by_cases hlt2:j<i
    ·rw [if_pos hlt2]at this;rw [if_pos (by omega)];exact this
    ·rw [if_neg hlt2]at this;rw [if_neg (by omega)];exact this
  ·simp only [List.getD_cons_zero];omega
 have hie:i=l.length:=by omega
 subst hie;obtain⟨f,hf⟩: ∃f,f=fade l now:=⟨_,rfl⟩;have hfl:f.length=l.length:=by rw [hf];simp [fade]
 have hA2: ∀j,∀h:j<f.length,HeIs (gF (l.map (·.d))) (fF (l.map (·.d)) (·.ep)) (fF (l.map (·.d)) (·.sa)) (fF (l.map (·.d)) (·.sd)) (fF (l.map (·.d)) (·.kid)) (fF (l.map (·.d)) (·.key)) A21 A20 j f[j]:=by
  subst hf;intro j hj;have hj2:j<l.length:=by omega
  have:=hA j hj2;rw [if_pos hj2]at this;rw [hfd j hj2];exact this
 rw [←hfl]at hlen ⊢;intro b3 b4;have hT:=fun i=>tick_len f now i
 refine⟨fun x=> ∃(i:Nat) (u:V1) (A B C D E F G H:Nat→Int),x=⟨[],[u],[(i:Int),((tick (f.take i) now).length:Int)],[A,B,C,D,E,F,G,H],[],[],[]⟩∧i≤f.length∧∀t,∀h:t<(tick (f.take i) now).length,HeIs A B C D E F H G t (tick (f.take i) now)[t],
  fun x=>f.length - (x.i.getD 0 0).toNat,⟨_,_,_,_,_,_,_,_,_,_,_,rfl,rfl,rfl,rfl,fun _ _=>rfl,fun _ _=>rfl,fun _ _=>rfl,fun _ _=>rfl,fun _ _=>rfl,fun _ _=>rfl,fun _ _=>rfl,fun _ _=>rfl,0,_,_,_,_,_,_,_,_,_,rfl,Nat.zero_le _,fun t ht=>by simp [tick]at ht⟩,?_⟩
 rintro v7 x12 x13 A22 A23 A24 A25 A26 A27 A28 A29 ⟨i,u,A,B,C,D,E,F,G,H,he,hi,hH⟩;cases he;refine⟨by omega,fun _=>⟨fun hlt=>⟨by omega,fun _=>?_⟩,fun hge=>?_⟩⟩
 ·have hil:i<f.length:=by omega
  have hgo:=gone_at f now i hil (hA2 i hil);have hsucc:=tick_succ f now i hil;have hlen:=hT i;rw [Int.toNat_natCast]
  iterate 6 refine⟨by omega,fun _=>?_⟩
  refine⟨fun hk _=>⟨by omega,fun _=>⟨by omega,fun _ v5=>⟨by omega,fun _=>⟨by omega,fun _=>?_⟩⟩⟩⟩,fun hk=>⟨by omega,fun _=>⟨by omega,fun _=>?_⟩⟩⟩
  ·have hno: ¬gone now f[i]=true:=fun h=>by
    have:=hgo.2 h;rcases hk with h1 | h1
    ·exact h1 this.1
    ·omega
   rw [if_neg hno]at hsucc;refine⟨_,_,_,_,_,_,_,_,_,_,_,rfl,rfl,rfl,rfl,fun _ _=>rfl,fun _ _=>rfl,fun _ _=>rfl,fun _ _=>rfl,fun _ _=>rfl,fun _ _=>rfl,fun _ _=>rfl,fun _ _=>rfl,⟨i+1,_,_,_,_,_,_,_,_,_,by rw [hsucc,List.length_append];rfl,by omega,fun t ht=>?_⟩,?_⟩
   ·simp only [hsucc]at ht ⊢;rw [List.length_append,List.length_singleton]at ht;rw [Int.toNat_natCast,show(((tick (f.take i) now).length:Int)*16).toNat=(tick (f.take i) now).length*16 by omega,show((i:Int)*16).toNat=i*16 by omega];refine heIs_push (A':=gF (l.map (·.d))) (B':=fF (l.map (·.d)) (·.ep)) (C':=fF (l.map (·.d)) (·.sa)) (D':=fF (l.map (·.d)) (·.sd)) (E':=fF (l.map (·.d)) (·.kid)) (F':=fF (l.map (·.d)) (·.key)) (G':=A21) (H':=A20) (j:=i) ?_;by_cases htk:t=(tick (f.take i) now).length
    ·subst htk;rw [if_pos rfl,List.getElem_append_right (Nat.le_refl _)];simp only [Nat.sub_self,List.getElem_singleton];exact hA2 i hil
    ·rw [if_neg htk,List.getElem_append_left (by omega)];exact hH t (by omega)
   ·simp only [List.getD_cons_zero];omega
  ·have hyes:gone now f[i]=true:=hgo.1 ⟨fun h=>hk (.inl fun h'=>h' h),Int.not_lt.1 fun h=>hk (.inr h)⟩;rw [if_pos hyes,List.append_nil]at hsucc;refine⟨_,_,_,_,_,_,_,_,_,_,_,rfl,rfl,rfl,rfl,fun _ _=>rfl,fun _ _=>rfl,fun _ _=>rfl,fun _ _=>rfl,fun _ _=>rfl,fun _ _=>rfl,fun _ _=>rfl,fun _ _=>rfl,⟨i+1,_,_,_,_,_,_,_,_,_,by rw [hsucc];rfl,by omega,?_⟩,?_⟩
   ·simp only [hsucc];exact hH
   ·simp only [List.getD_cons_zero];omega
 have hie:i=f.length:=by omega
 subst hie;rw [List.take_length]at hH ⊢;obtain⟨l1,hl1⟩: ∃l1,l1=tick f now:=⟨_,rfl⟩;rw [←hl1]at hH ⊢;have hl1l:l1.length≤f.length:=by rw [hl1];exact List.length_filter_le _ _
 refine⟨_,rhas_meets g ep v3 mem m.sf (by omega),fun x hs hq=>?_⟩;obtain⟨rfl,rfl⟩:=hq;refine⟨_,rfl,rfl,fun h3=>?_,fun h3=>?_⟩
 ·have h3:m.sf ∉ mem:=by simpa using h3
  have he:enter m g ep mem now nx=(0,{m with so:=true,g:=g,ep:=ep,mem:=mem,held:=[],wait:=[]},[],false):=by rw [enter,if_neg g1,if_neg g2,if_pos h3]
  rw [hP,he];refine⟨_,?_,v3,nil1,nil1,nil1,rfl,rfl⟩;refine Ent.trans (Ent.pick (b:=[devHP true v3 mem]) [3] (by decide) rfl) ?_;have e1:=Ent.front (A:=[devHP true v3 mem]) (Ent.nilS 76 23);have e2:=Ent.front (A:=[devHP true v3 mem,sliHP true 76 23 (.slice none 0 0) 0 []]) (Ent.nilS 38 21);have e3:=Ent.front (A:=[devHP true v3 mem,sliHP true 76 23 (.slice none 0 0) 0 [],sliHP true 38 21 (.slice none 0 0) 0 []]) (Ent.nilS 23 2);exact Ent.trans e1 (Ent.trans e2 e3)
 have h3:m.sf∈mem:=by simpa using h3
 have he:enter m g ep mem now nx=(0,m.wait.foldl (retake g ep) (into m g ep mem now nx),mem.filter (fun p=>decide (p≠m.sf)),true):=by rw [enter,if_neg g1,if_neg g2,if_neg (by simpa using h3)]
 have hsame:=retakes_same g ep m.wait (into m g ep mem now nx);intro b5 b6
 iterate 8 refine⟨by omega,fun _=>?_⟩
 intro b7 b8 b9;refine⟨fun x=> ∃i:Nat,x=⟨[],[],[(i:Int)],[],[],[],[]⟩∧i≤l1.length∧∀j,j<i→∀h:j<l1.length,l1[j].d.kid<kidV ep m.sf.1 m.sf.2,fun x=>l1.length - (x.i.getD 0 0).toNat,⟨0,rfl,0,rfl,Nat.zero_le _,fun j hj=>by omega⟩,?_⟩;rintro x14 ⟨i,he',hi,hb⟩;cases he'
 iterate 9 refine⟨by omega,fun _=>?_⟩
 have hkid: ∀j,∀h:j<l1.length,A26 j=l1[j].d.kid:=fun j h=>(hH j h).1.2.2.2.2.1
 rw [Int.toNat_natCast];refine⟨fun c8=>⟨by omega,fun _=>⟨by omega,fun _=>⟨_,rfl,⟨i+1,rfl,by omega,fun j hj hjl=>?_⟩,?_⟩⟩⟩,fun c8=>⟨by omega,fun _=>⟨by omega,fun _=>?_⟩⟩⟩
 ·by_cases hji:j=i
  ·subst hji;have h2:=c8.2;rw [hkid j hjl]at h2;exact h2
  ·exact hb j (by omega) hjl
 ·simp only [List.getD_cons_zero];have:=c8.1;omega
 have hlow:low l1 (kidV ep m.sf.1 m.sf.2)=i:=low_of hi hb fun h=>Int.not_lt.1 fun h'=>c8 ⟨by omega,by rw [hkid i h];exact h'⟩
 have hmay:=mayR_small hr;have hiw:=into_wf hPn hw now nx hr hlt h3 ⟨hg,hs1,hs2,hs3,hs4⟩ (g:=g);have tail: ∀(K:Value→HP→HP→HP→HP→HP→Prop) (v11:V1),(∀u1 u2 uo X Y,K (.tuple #[.agg (rmV (m.wait.foldl (retake g ep) (into m g ep mem now nx)) v3 u1 u2 nx').toArray,uo.v,.int .i64 0]) (devHP true uo (mem.filter fun p=>decide (p≠m.sf))) (rqHP true u2 (m.wait.foldl (retake g ep) (into m g ep mem now nx)).wait) (rhHP true u1 (m.wait.foldl (retake g ep) (into m g ep mem now nx)).held) X Y)→st_rtail K m.sf.1 m.sf.2 nx (m.wait.length:Int) ep (mem.length:Int) (l1.length:Int) (i:Int) (gF m.wait) (fF m.wait (·.ep)) (fF m.wait (·.sa)) (fF m.wait (·.sd)) (fF m.wait (·.kid)) (fF m.wait (·.key)) (fun i=>g.getD i 0) (pF mem (·.1)) (pF mem (·.2)) A22 A23 A24 A25 A26 A27 A28 A29 v3 v11 b0 b2:=fun K v11 hK=>
  renter_tail K m (into m g ep mem now nx) l1 i g ep nx nx' mem b0 b2 v3 v11 A22 A23 A24 A25 A26 A27 A28 A29 hg ⟨rfl,rfl,rfl,rfl,rfl,rfl⟩ hi (by rw [hl1,hf,hl];rw [hl1,hf,hl]at hlow;show hold _ _=_;unfold hold;rw [show(ownD m g ep nx).kid=kidV ep m.sf.1 m.sf.2 from rfl,hlow]) hH
   {hiw with len:=Nat.le_trans hiw.len (by have:=hw.len;omega)} (fun w hm=>(hw.wait w hm).2) hw.most hml hnx hK
 have fin: ∀(H:List HP) (idx:List Nat) (u1 u2 uo:V1),idx.Nodup→[devHP true v3 mem,rhHP true u1 (m.wait.foldl (retake g ep) (into m g ep mem now nx)).held,rqHP true u2 (m.wait.foldl (retake g ep) (into m g ep mem now nx)).wait,devHP true uo (mem.filter fun p=>decide (p≠m.sf))].map some=idx.map (fun i=>H[i]?)→Post (.tuple #[.agg (rmV (m.wait.foldl (retake g ep) (into m g ep mem now nx)) v3 u1 u2 nx').toArray,uo.v,.int .i64 0]) H:=by
  intro H idx u1 u2 uo h1 h2;rw [hP,he];refine⟨_,Ent.pick idx h1 h2,v3,u1,u2,uo,rfl,?_⟩;simp only [hsame.2.2.2.2];rfl
 refine⟨fun v8=>⟨⟨by omega,fun _ _ b10=>⟨by omega,fun _ _=>?_⟩⟩,fun b10=>⟨by omega,fun _ _=>⟨by omega,fun _ _=>?_⟩⟩⟩,fun b10 v8=>⟨by omega,fun _ _=>⟨by omega,fun _ _=>?_⟩⟩⟩
 all_goals
  iterate 4 refine⟨by omega,fun _=>?_⟩
  intro v11;refine tail _ v11 fun u1 u2 uo X Y=>?_
 ·exact fin _ [3,16,18,19] _ _ _ (by decide) rfl
 ·exact fin _ [3,16,18,19] _ _ _ (by decide) rfl
 ·exact fin _ [3,17,18,19] _ _ _ (by decide) rfl
end Go.RX.Ha
