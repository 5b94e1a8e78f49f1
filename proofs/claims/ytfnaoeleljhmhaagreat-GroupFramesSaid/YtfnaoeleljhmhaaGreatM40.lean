/- A roster is entered (Enter): what waited is taken, and to whom the own key goes. · A roster is entered (Enter): the function. -/
import Derived.Test.YtfnaoeleljhmhaaGreatM39
import Derived.Test.YtfnaoeleljhmhaaGreatM37

namespace Go.RX.Gl
open Go Go.RX Go.Proofs Go.Gp Go.RX.Gb Go.RX.Gf
def Ok2(d:Di):Prop:=Ok1 d∧0≤d.sa∧0≤d.sd
theorem fit_of{n:Nat}{m:Me}(hw:Wf Ok2 n m)(hn:n≤1000000)(hg:m.so=true→m.g.length=16):Fit m:=by
 have h1:=hw.len;have h2:=hw.mem;exact⟨hw.rise,by omega,hw.most,by omega,fun h hm=>(hw.held h hm).2.1,fun w hm=>(hw.wait w hm).2.1,hg⟩
def ouC(d:Di)(p:Int×Int):List Value:=dvC p++diC d
def outHP(v:V1)(l:List (Int×Int))(d:Di):HP:=sliHP true 74 23 v.v l.length (l.flatMap (ouC d))
def OuIs(A B C D E F G H:Nat→Int)(j:Nat)(d:Di)(p:Int×Int):Prop:=(A j=p.1∧B j=p.2)∧DiIs C D E F G H j d
theorem tab_out{A B C D E F G H:Nat→Int}{n:Nat}{d:Di}{l:List (Int×Int)}(hn:n=l.length)(h: ∀j (hj:j<l.length),OuIs A B C D E F G H j d l[j]):
  tabL n [colI .u8 1 A,colI .u8 1 B,colI .u8 16 C,colI .u64 1 D,colI .u8 1 E,colI .u8 1 F,colI .u64 1 G,colS 1 H]=l.flatMap (ouC d):=by
 subst hn;rw [flat_range];unfold tabL;rw [List.flatMap_def,List.flatMap_def];congr 1;refine List.map_congr_left fun j hj=>?_
 have hj:=List.mem_range.1 hj;obtain⟨h1,h2⟩:=h j hj;rw [List.getElem?_eq_getElem hj];simp only [Option.elim,ouC,List.flatMap_cons,List.flatMap_nil,List.append_nil,←di_row h2];simp [colI,segCells,dvC,h1]
theorem hK_is{md:Bool}{v:V1}{l:List He}{A B C D E F G H:Nat→Int}(h: ∀j (hj:j<l.length),HeIs A B C D E F G H j l[j]):hK md v (l.length:Int) A B C D E F G H=heldHP md v l:=by
 simp only [hK,heldHP,Int.toNat_natCast];exact congrArg (sliHP md 144 23 v.v l.length) (tab_held rfl h)
theorem wK_is{md:Bool}{v:V1}{l:List Di}{A B C D E F:Nat→Int}(h: ∀j (hj:j<l.length),DiIs A B C D E F j l[j]):wK md v (l.length:Int) A B C D E F=waitHP md v l:=by
 simp only [wK,waitHP,Int.toNat_natCast];rw [tab_wait rfl h]
theorem oK_is{v:V1}{l:List (Int×Int)}{d:Di}{A B C D E F G H:Nat→Int}(h: ∀j (hj:j<l.length),OuIs A B C D E F G H j d l[j]):oK true v (l.length:Int) A B C D E F G H=outHP v l d:=by
 simp only [oK,outHP,Int.toNat_natCast];rw [tab_out rfl h]
theorem dV_at(l:List Di)(i:Nat)(hi:i<l.length):dV (shiftF (gF l) (i*16)) (fF l (·.ep) i) (fF l (·.sa) i) (fF l (·.sd) i) (fF l (·.kid) i) (fF l (·.key) i)= .agg (diC l[i]).toArray:=by
 obtain⟨h1,h2,h3,h4,h5,h6⟩:=diIs_list l i hi;rw [←dV_eq,h2,h3,h4,h5,h6];simp only [dV];rw [segCells_congr .u8 16 (f:=shiftF (gF l) (i*16)) (g:=fun k=>l[i].g.getD k 0) fun j hj=>h1 j hj]
theorem retakes_succ(g:List Int)(ep:Int)(l:List Di)(m:Me)(i:Nat)(hi:i<l.length):(l.take (i+1)).foldl (retake g ep) m=retake g ep ((l.take i).foldl (retake g ep) m) l[i]:=by
 rw [List.take_add_one,List.getElem?_eq_getElem hi,List.foldl_append];rfl
theorem filt_succ{α:Type}(q:α→Bool)(l:List α)(i:Nat)(hi:i<l.length):(l.take (i+1)).filter q=(l.take i).filter q++if q l[i]then [l[i]]else []:=by
 rw [List.take_add_one,List.getElem?_eq_getElem hi,List.filter_append];congr 1;show List.filter q [l[i]]=_;rw [List.filter_cons,List.filter_nil]
theorem enter_tail(Post:PT)(m m1:Me)(g:List Int)(ep nx':Int)(mem:List (Int×Int))(own:Di)(b b1 b2 b3:Nat)(v0 v2 v3 v5 v6:V1)(hg:g.length=16)(hm:m1.so=true∧m1.sf=m.sf∧m1.g=g∧m1.ep=ep∧m1.mem=mem∧m1.wait=[])
  (hw1:Wf Ok2 100000 m1) (hw: ∀w∈m.wait,Ok2 w) (hl:m.wait.length≤64) (hmem:mem.length≤32) (ho:own.g=g∧own.ep=ep∧own.sa=m.sf.1∧own.sd=m.sf.2)
  (hpost: ∀X Y u1 u2 uo,Post (.tuple #[uo.v,.int .i64 0]) [mrow b b1 (m.wait.foldl (retake g ep) m1) v5 u1 u2,devHP true v0 m.mem,heldHP true u1 (m.wait.foldl (retake g ep) m1).held,waitHP true v2 m.wait,rowHP b1 true [.int .u64 nx'],devHP true v3 mem,X,devHP true v5 mem,Y,waitHP true u2 (m.wait.foldl (retake g ep) m1).wait,outHP uo (mem.filter fun p=>decide (p≠m.sf)) own]):
  st_tail Post m.sf.1 m.sf.2 (m.mem.length:Int) (m.wait.length:Int) ep (mem.length:Int) (mem.length:Int) own.kid own.key nx' (m1.held.length:Int) (pF m.mem (·.1)) (pF m.mem (·.2))
   (gF m.wait) (fF m.wait (·.ep)) (fF m.wait (·.sa)) (fF m.wait (·.sd)) (fF m.wait (·.kid)) (fF m.wait (·.key)) (fun i=>g.getD i 0) (pF mem (·.1)) (pF mem (·.2)) (pF mem (·.1)) (pF mem (·.2))
   (gF (m1.held.map (·.d))) (fF (m1.held.map (·.d)) (·.ep)) (fF (m1.held.map (·.d)) (·.sa)) (fF (m1.held.map (·.d)) (·.sd)) (fF (m1.held.map (·.d)) (·.kid)) (fF (m1.held.map (·.d)) (·.key)) (hF m1.held (·.til)) (hF m1.held fun e=>bI e.ends) v0 v2 v3 v5 v6 b b1 b2 b3:=by
 obtain⟨k1,k2,k3,k4,k5,k6⟩:=hm;obtain⟨M,hM⟩: ∃M:Nat→Me,M=fun i=>(m.wait.take i).foldl (retake g ep) m1:=⟨_,rfl⟩
 have hMw: ∀i,i≤m.wait.length→Wf Ok2 (100000+i) (M i):=fun i hi=>by
  have:=retakes_wf g ep (m.wait.take i) hw1 fun d hd=>hw d (List.mem_of_mem_take hd)
  rw [List.length_take,Nat.min_eq_left hi]at this;rw [hM];exact this
 have hMs: ∀i,(M i).sf=m.sf∧(M i).so=true∧(M i).g=g∧(M i).ep=ep∧(M i).mem=mem:=fun i=>by
  obtain⟨h1,h2,h3,h4,h5⟩:=retakes_same g ep (m.wait.take i) m1;rw [hM];exact⟨h1.trans k2,h2.trans k1,h3.trans k3,h4.trans k4,h5.trans k5⟩
 have hrow: ∀i (u1 u2:V1),mS b b1 m.sf.1 m.sf.2 true (fun i=>g.getD i 0) ep v5.v u1.v u2.v=mrow b b1 (M i) v5 u1 u2:=fun i u1 u2=>by
  obtain⟨h1,h2,h3,h4,h5⟩:=hMs i;unfold mrow;rw [h1,h2,h3,h4]
 have hend:M m.wait.length=m.wait.foldl (retake g ep) m1:=by rw [hM];simp only [List.take_length]
 have h0:M 0=m1:=by rw [hM];rfl
 unfold st_tail;refine⟨by omega,fun _=>⟨fun x=> ∃(i:Nat) (u1 u2:V1) (A B C D E F G H A' B' C' D' E' F':Nat→Int),x=⟨[],[u1,u2],[(i:Int),((M i).held.length:Int),((M i).wait.length:Int)],[A,B,C,D,E,F,G,H,A',B',C',D',E',F'],[],[],[]⟩∧i≤m.wait.length∧
   (∀j,∀h:j<(M i).held.length,HeIs A B C D E F G H j (M i).held[j])∧∀j,∀h:j<(M i).wait.length,DiIs A' B' C' D' E' F' j (M i).wait[j],fun x=>m.wait.length - (x.i.getD 0 0).toNat,
  ⟨_,_,_,_,_,_,_,_,_,_,_,_,_,_,_,_,_,_,_,rfl,rfl,rfl,rfl,rfl,fun _ _=>rfl,fun _ _=>rfl,fun _ _=>rfl,fun _ _=>rfl,fun _ _=>rfl,fun _ _=>rfl,fun _ _=>rfl,fun _ _=>rfl,rfl,rfl,fun _ _=>rfl,fun _ _=>rfl,fun _ _=>rfl,fun _ _=>rfl,fun _ _=>rfl,fun _ _=>rfl,
   0,_,_,_,_,_,_,_,_,_,_,_,_,_,_,_,_,by rw [h0,k6];rfl,Nat.zero_le _,?_,?_⟩,?_⟩⟩
 ·rw [h0];exact heIs_list m1.held
 ·rw [h0,k6];intro j hj;simp at hj
 rintro v8 v9 x18 x19 x20 A40 A41 A42 A43 A44 A45 A46 A47 A48 A49 A50 A51 A52 A53 ⟨i,u1,u2,A,B,C,D,E,F,G,H,A',B',C',D',E',F',he,hi,hH,hW⟩;cases he;refine⟨fun hlt=>⟨by omega,fun _ _=>?_⟩,fun hge=>⟨by omega,fun _=>?_⟩⟩
 ·have hil:i<m.wait.length:=by omega
  have hd:=diIs_list m.wait i hil;have hdw:=hw _ (List.getElem_mem hil);have hsucc:M (i+1)=retake g ep (M i) m.wait[i]:=by
   rw [hM];exact retakes_succ g ep m.wait m1 i hil
  rw [Int.toNat_natCast,show((i:Int)*16).toNat=i*16 by omega];have hcond:((∀j,j<16→shiftF (gF m.wait) (i*16) j=g.getD j 0)∧ep≤fF m.wait (·.ep) i)↔(m.wait[i].g=g∧ep≤m.wait[i].ep):=by
   rw [hd.2.1,←list_eq16 hdw.1.1 hg];exact and_congr_left' ⟨fun h j hj=>by rw [←hd.1 j hj];exact h j hj,fun h j hj=>by rw [←h j hj];exact hd.1 j hj⟩
  refine⟨fun hc=>?_,fun hc=>?_⟩
  ·have hc:=hcond.1 hc;have hs2:M (i+1)=took (M i) m.wait[i]:=by
    rw [hsucc];unfold retake took;rw [if_pos hc]
   have hfit:=fit_of (hMw i hi) (by omega) fun _=>by rw [(hMs i).2.2.1];exact hg
   have ht:=take_meets b b1 (M i) v5 v8 v9 m.wait[i] hfit hdw.1;rw [(hMs i).2.2.2.2]at ht;rw [dV_at _ _ hil,hrow i,hK_is hH,wK_is hW,dK_dev];refine⟨_,ht,fun x hs hq=>?_⟩;obtain⟨q1,q2,rfl,rfl⟩:=hq;refine⟨q1,q2,_,_,_,_,_,_,_,_,_,_,_,_,_,_,_,_,_,rfl,by rw [←hK_held,←wK_wait,←hrow i],by omega,fun _=>⟨by omega,fun _=>?_⟩⟩;refine⟨_,_,_,_,_,_,_,_,_,_,_,_,_,_,_,_,_,_,_,rfl,rfl,rfl,rfl,rfl,fun _ _=>rfl,fun _ _=>rfl,fun _ _=>rfl,fun _ _=>rfl,fun _ _=>rfl,fun _ _=>rfl,fun _ _=>rfl,fun _ _=>rfl,rfl,rfl,fun _ _=>rfl,fun _ _=>rfl,fun _ _=>rfl,fun _ _=>rfl,fun _ _=>rfl,fun _ _=>rfl,
    ⟨i+1,_,_,_,_,_,_,_,_,_,_,_,_,_,_,_,_,by rw [hs2];rfl,by omega,?_,?_⟩,?_⟩
   ·rw [hs2];exact heIs_list _
   ·rw [hs2];exact diIs_list _
   ·simp only [List.getD_cons_zero];omega
  ·have hs2:M (i+1)=M i:=by
    rw [hsucc];unfold retake;rw [if_neg fun h=>hc (hcond.2 h)]
   refine⟨by omega,fun _=>⟨by omega,fun _=>?_⟩⟩;refine⟨_,_,_,_,_,_,_,_,_,_,_,_,_,_,_,_,_,_,_,rfl,rfl,rfl,rfl,rfl,fun _ _=>rfl,fun _ _=>rfl,fun _ _=>rfl,fun _ _=>rfl,fun _ _=>rfl,fun _ _=>rfl,fun _ _=>rfl,fun _ _=>rfl,rfl,rfl,fun _ _=>rfl,fun _ _=>rfl,fun _ _=>rfl,fun _ _=>rfl,fun _ _=>rfl,fun _ _=>rfl,
    ⟨i+1,_,_,_,_,_,_,_,_,_,_,_,_,_,_,_,_,by rw [hs2];rfl,by omega,?_,?_⟩,?_⟩
   ·rw [hs2];exact hH
   ·rw [hs2];exact hW
   ·simp only [List.getD_cons_zero];omega
 ·have hie:i=m.wait.length:=by omega
  subst hie;rw [hrow m.wait.length,hend]at*;obtain⟨q,hq⟩: ∃q:Int×Int→Bool,q=fun p=>decide (p≠m.sf):=⟨_,rfl⟩
  refine⟨fun x=> ∃(i:Nat) (u:V1) (A B C D E F G H:Nat→Int),x=⟨[],[u],[(i:Int),(((mem.take i).filter q).length:Int)],[A,B,C,D,E,F,G,H],[],[],[]⟩∧i≤mem.length∧
    ∀j,∀h:j<((mem.take i).filter q).length,OuIs A B C D E F G H j own ((mem.take i).filter q)[j],fun x=>mem.length - (x.i.getD 0 0).toNat,
   ⟨_,_,_,_,_,_,_,_,_,_,_,rfl,rfl,rfl,rfl,fun _ _=>rfl,fun _ _=>rfl,fun _ _=>rfl,fun _ _=>rfl,fun _ _=>rfl,fun _ _=>rfl,fun _ _=>rfl,fun _ _=>rfl,0,_,_,_,_,_,_,_,_,_,rfl,Nat.zero_le _,fun j hj=>by simp at hj⟩,?_⟩
  rintro v11 x21 x22 A54 A55 A56 A57 A58 A59 A60 A61 ⟨i,u,A2,B2,C2,D2,E2,F2,G2,H2,he,hi2,hO⟩;cases he;have hlen:((mem.take i).filter q).length≤32:=Nat.le_trans (List.length_filter_le _ _) (by rw [List.length_take];omega);refine⟨fun hlt=>⟨by omega,fun _ _=>?_⟩,fun hge=>?_⟩
  ·have hil:i<mem.length:=by omega
   have hsucc:=filt_succ q mem i hil;rw [Int.toNat_natCast,pF_at mem _ i hil,pF_at mem _ i hil];have hcond: ¬(mem[i].1=m.sf.1∧mem[i].2=m.sf.2)↔q mem[i]=true:=by
    rw [hq];simp only [decide_eq_true_eq,ne_eq,Prod.ext_iff]
   refine⟨fun hc _=>?_,fun hc=>?_⟩
   ·rw [if_pos (hcond.1 hc)]at hsucc;refine⟨by omega,fun _=>⟨by omega,fun _ v12=>⟨by omega,fun _=>⟨by omega,fun _=>?_⟩⟩⟩⟩;refine⟨_,_,_,_,_,_,_,_,_,_,_,rfl,rfl,rfl,rfl,fun _ _=>rfl,fun _ _=>rfl,fun _ _=>rfl,fun _ _=>rfl,fun _ _=>rfl,fun _ _=>rfl,fun _ _=>rfl,fun _ _=>rfl,⟨i+1,_,_,_,_,_,_,_,_,_,by rw [hsucc,List.length_append];rfl,by omega,fun j hj=>?_⟩,?_⟩
    ·simp only [hsucc]at hj ⊢;rw [List.length_append,List.length_singleton]at hj;rw [Int.toNat_natCast,show((((mem.take i).filter q).length:Int)*16).toNat=((mem.take i).filter q).length*16 by omega];by_cases hjl:j<((mem.take i).filter q).length
     ·rw [List.getElem_append_left hjl];obtain⟨⟨g1,g2⟩,g3,g4,g5,g6,g7,g8⟩:=hO j hjl;refine⟨⟨?_,?_⟩,fun k hk=>?_,?_,?_,?_,?_,?_⟩;rotate_left 2
      ·simp only [splF];rw [if_neg (by omega)];exact g3 k hk
      all_goals simp only [updF];rw [if_neg (by omega)];assumption
     ·have hje:j=((mem.take i).filter q).length:=by omega
      subst hje;rw [List.getElem_append_right (Nat.le_refl _)];simp only [Nat.sub_self,List.getElem_singleton];obtain⟨o1,o2,o3,o4⟩:=ho;refine⟨⟨?_,?_⟩,fun k hk=>?_,?_,?_,?_,?_,?_⟩;rotate_left 2
      ·simp only [splF];rw [if_pos (by omega),o1];congr 1;omega
      all_goals simp only [updF,if_true,o2,o3,o4]
    ·simp only [List.getD_cons_zero];omega
   ·rw [if_neg fun h=>hc (hcond.2 h),List.append_nil]at hsucc;refine⟨by omega,fun _=>⟨by omega,fun _=>?_⟩⟩;refine⟨_,_,_,_,_,_,_,_,_,_,_,rfl,rfl,rfl,rfl,fun _ _=>rfl,fun _ _=>rfl,fun _ _=>rfl,fun _ _=>rfl,fun _ _=>rfl,fun _ _=>rfl,fun _ _=>rfl,fun _ _=>rfl,⟨i+1,_,_,_,_,_,_,_,_,_,by rw [hsucc];rfl,by omega,?_⟩,?_⟩
    ·simp only [hsucc];exact hO
    ·simp only [List.getD_cons_zero];omega
  ·have hie:i=mem.length:=by omega
   subst hie;rw [List.take_length]at hO;rw [List.take_length,hK_is hH,wK_is hW,oK_is hO,dK_dev,dK_dev,dK_dev,wK_wait,hq];exact hpost _ _ _ _ _
end Go.RX.Gl

namespace Go.RX.Gl
open Go Go.RX Go.Proofs Go.Gp Go.RX.Gb Go.RX.Gf
theorem til_eq(x:Int):IntKind.wrap .u64 (x+iop .imin .u64 100 (IntKind.wrap .u64 (18446744073709551615 - x)))=tilOf x:=by
 rw [w64,w64,tilOf];generalize (18446744073709551615 - x)%18446744073709551616=y;simp only [iop];by_cases h:y<100
 ·rw [if_pos h,if_neg (by omega)]
 ·rw [if_neg h,if_pos (by omega)]
def EntP(b b1:Nat)(e:Int×Me×List (Int×Int)×Bool)(own:Di)(v3:V1)(mem:List (Int×Int))(nx nx':Int):PT:=fun r hs=>
 ∃u0 u1 u2 uo:V1,r= .tuple #[uo.v,.int .i64 e.1]∧hs=[mrow b b1 e.2.1 u0 u1 u2,devHP true u0 e.2.1.mem,heldHP true u1 e.2.1.held,waitHP true u2 e.2.1.wait,rowHP b1 true [.int .u64 (if e.2.2.2 then nx' else nx)],devHP true v3 mem,outHP uo e.2.2.1 own]
theorem Ent.pick{a b:List HP}(idx:List Nat)(hnd:idx.Nodup)(h:b.map some=idx.map fun i=>a[i]?):Ent a b:=
 Ent.idx' idx hnd fun j x hx=>by
  have:=congrArg (fun l=>l[j]?) h;simp only [List.getElem?_map,hx,Option.map_some]at this;cases hi:idx[j]? with
  | none=>rw [hi]at this;cases this
  | some i=>rw [hi]at this;exact⟨i,rfl,(Option.some.inj this).symm⟩
theorem behind54(Post:PT)(m:Me)(g:List Int)(ep now key nx':Int)(mem:List (Int×Int))(b b1 b2 b3:Nat)(v0 v2 v3 v4 v5:V1)(hg:g.length=16)
  (n:Nat) (hw:Wf Ok2 n m) (hn:n≤1000) (hlt:m.so=true→m.ep<ep) (hr:mayR ep mem=true) (hin:m.sf∈mem) (ho:Ok2 (ownD m g ep key))
  (hpost: ∀X Y u1 u2 uo,Post (.tuple #[uo.v,.int .i64 0]) [mrow b b1 (m.wait.foldl (retake g ep) (into m g ep mem now key)) v5 u1 u2,devHP true v0 m.mem,heldHP true u1 (m.wait.foldl (retake g ep) (into m g ep mem now key)).held,waitHP true v2 m.wait,rowHP b1 true [.int .u64 nx'],devHP true v3 mem,X,devHP true v5 mem,Y,waitHP true u2 (m.wait.foldl (retake g ep) (into m g ep mem now key)).wait,outHP uo (mem.filter fun p=>decide (p≠m.sf)) (ownD m g ep key)]):
  st_54 Post m.sf.1 m.sf.2 (m.mem.length:Int) (m.wait.length:Int) ep (mem.length:Int) ((tick (fade m.held now) now).length:Int) (mem.length:Int) (kidV ep m.sf.1 m.sf.2) key nx' (pF m.mem (·.1)) (pF m.mem (·.2))
   (gF m.wait) (fF m.wait (·.ep)) (fF m.wait (·.sa)) (fF m.wait (·.sd)) (fF m.wait (·.kid)) (fF m.wait (·.key)) (fun i=>g.getD i 0) (pF mem (·.1)) (pF mem (·.2))
   (gF ((tick (fade m.held now) now).map (·.d))) (fF ((tick (fade m.held now) now).map (·.d)) (·.ep)) (fF ((tick (fade m.held now) now).map (·.d)) (·.sa)) (fF ((tick (fade m.held now) now).map (·.d)) (·.sd)) (fF ((tick (fade m.held now) now).map (·.d)) (·.kid)) (fF ((tick (fade m.held now) now).map (·.d)) (·.key)) (hF (tick (fade m.held now) now) (·.til)) (hF (tick (fade m.held now) now) fun e=>bI e.ends)
   (pF mem (·.1)) (pF mem (·.2)) v0 v2 v3 v4 v5 b b1 b2 b3:=by
 obtain⟨⟨e1,e2,e3⟩,hs⟩:=mayR_small hr;have hP: ∀d,Ok2 d→0≤d.sa∧0≤d.sd:=fun d h=>h.2
 have hlen:=fadeTick_le m.held now;have hl2:=hw.len;have hiw:=into_wf hP hw now key hr hlt hin ho;unfold st_54
 let m2:Me:={m with so:=true,g:=g,ep:=ep,mem:=mem,held:=tick (fade m.held now) now,wait:=[]}
 have hh:=hold_meets b b1 m2 v5 v4 nil1 (ownD m g ep key) (by show((tick (fade m.held now) now).length+1)*72≤_;omega) (rise_tick now (rise_fade now hw.rise));rw [hK_held,show(mS b b1 m.sf.1 m.sf.2 true (fun i=>g.getD i 0) ep v5.v v4.v (.slice none 0 0))=mrow b b1 m2 v5 v4 nil1 from rfl,show dV (fun i=>g.getD i 0) ep m.sf.1 m.sf.2 (kidV ep m.sf.1 m.sf.2) key= .agg (diC (ownD m g ep key)).toArray from dV_eq (ownD m g ep key)];refine⟨_,hh,fun x hs hq=>?_⟩;obtain⟨v6,rfl,rfl⟩:=hq;refine⟨v6,_,_,_,_,_,_,_,_,_,rfl,by rw [←hK_held];rfl,?_⟩;exact enter_tail Post m (into m g ep mem now key) g ep nx' mem (ownD m g ep key) b b1 b2 b3 v0 v2 v3 v5 v6 hg ⟨rfl,rfl,rfl,rfl,rfl,rfl⟩
  {hiw with len:=Nat.le_trans hiw.len (by omega)} (fun w hm=>(hw.wait w hm).2) hw.most e3 ⟨rfl,rfl,rfl,rfl⟩ hpost
theorem enter_meets(b b1:Nat)(m:Me)(v0 v1 v2 v3:V1)(g:List Int)(ep now key nx nx':Int)(mem:List (Int×Int))(n:Nat)(hw:Wf Ok2 n m)(hn:n≤1000)(hgm:m.so=true→m.g.length=16)(hg:g.length=16)(hml:mem.length<9223372036854775807)(ho:Ok2 (ownD m g ep key))
  (hFr:Meets Tryz.prog 254 [.pointer (some ⟨b1,0,none⟩)] [rowHP b1 true [.int .u64 nx]] fun r hs=>r= .agg #[tmV key]∧hs=[rowHP b1 true [.int .u64 nx']]):
  Meets Tryz.prog 9 [.pointer (some ⟨b,0,none⟩),rosV g ep v3.v,.int .u64 now] [mrow b b1 m v0 v1 v2,devHP true v0 m.mem,heldHP true v1 m.held,waitHP true v2 m.wait,rowHP b1 true [.int .u64 nx],devHP true v3 mem]
   (EntP b b1 (enter m g ep mem now key) (ownD m g ep key) v3 mem nx nx'):=by
 have base:=mt_enter (fun r hs=> ∃hs',Ent hs hs'∧EntP b b1 (enter m g ep mem now key) (ownD m g ep key) v3 mem nx nx' r hs') m.sf.1 m.sf.2 (bI m.so) m.ep (m.mem.length:Int) (m.held.length:Int) (m.wait.length:Int) nx ep (mem.length:Int) now (fun i=>m.g.getD i 0) (pF m.mem (·.1)) (pF m.mem (·.2))
  (gF (m.held.map (·.d))) (fF (m.held.map (·.d)) (·.ep)) (fF (m.held.map (·.d)) (·.sa)) (fF (m.held.map (·.d)) (·.sd)) (fF (m.held.map (·.d)) (·.kid)) (fF (m.held.map (·.d)) (·.key)) (hF m.held (·.til)) (hF m.held fun e=>bI e.ends)
  (gF m.wait) (fF m.wait (·.ep)) (fF m.wait (·.sa)) (fF m.wait (·.sd)) (fF m.wait (·.kid)) (fF m.wait (·.key)) (fun i=>g.getD i 0) (pF mem (·.1)) (pF mem (·.2)) v0 v1 v2 v3 b b1
 rw [mR_row,dK_dev,hK_held,wK_wait,dK_dev]at base;refine(base ?_).post fun r hs h=>h
 have hlen:=hw.len;unfold st_enter;simp only [mR_row,dK_dev,hK_held,wK_wait];intro b2;have err: ∀(e:Int) (X:HP),enter m g ep mem now key=(e,m,[],false)→∃hs',Ent [mrow b b1 m v0 v1 v2,devHP true v0 m.mem,heldHP true v1 m.held,waitHP true v2 m.wait,rowHP b1 true [.int .u64 nx],devHP true v3 mem,X] hs'∧EntP b b1 (enter m g ep mem now key) (ownD m g ep key) v3 mem nx nx' (.tuple #[.slice none 0 0,.int .i64 e]) hs':=by
  intro e X he;rw [he];refine⟨_,?_,v0,v1,v2,nil1,rfl,rfl⟩;refine Ent.trans (Ent.sub (List.sublist_append_left [mrow b b1 m v0 v1 v2,devHP true v0 m.mem,heldHP true v1 m.held,waitHP true v2 m.wait,rowHP b1 true [.int .u64 nx],devHP true v3 mem] [X])) ?_;exact Ent.front (A:=[mrow b b1 m v0 v1 v2,devHP true v0 m.mem,heldHP true v1 m.held,waitHP true v2 m.wait,rowHP b1 true [.int .u64 nx],devHP true v3 mem]) (Ent.nilS 74 23)
 refine⟨_,rmay_meets g ep v3 mem hml,fun x hs hq=>?_⟩;obtain⟨rfl,rfl⟩:=hq;refine⟨_,rfl,rfl,fun h1=>?_,fun h1=>?_⟩
 ·refine err _ _ ?_;rw [enter,if_pos];rcases h1 with h | ⟨h,h'⟩
  ·exact .inl (Bool.eq_false_iff.2 h)
  ·rw [bI_nz]at h;rw [list_eq16 hg (hgm h)]at h';exact .inr ⟨h,h'⟩
 have g1: ¬(mayR ep mem=false∨m.so=true∧g≠m.g):=by
  rintro (h | ⟨h,h'⟩)
  ·exact h1 (.inl (by rw [h];simp))
  ·exact h1 (.inr ⟨(bI_nz _).2 h,by rw [list_eq16 hg (hgm h)];exact h'⟩)
 refine⟨fun h2=>?_,fun h2=>?_⟩
 ·refine err _ _ ?_;rw [bI_nz]at h2;rw [enter,if_neg g1,if_pos h2]
 have g2: ¬(m.so=true∧ep≤m.ep):=fun h=>h2 ⟨(bI_nz _).2 h.1,h.2⟩
 have hr:mayR ep mem=true:=by
  cases h:mayR ep mem
  ·exact absurd (.inl h) g1
  ·rfl
 have hlt:m.so=true→m.ep<ep:=fun h=>by
  have: ¬ep≤m.ep:=fun h'=>g2 ⟨h,h'⟩
  omega
 have hm32:=(mayR_small hr).1.2.2;obtain⟨l,hl⟩: ∃l,l=m.held:=⟨_,rfl⟩;rw [←hl]at hlen ⊢;have hat:=heIs_list l;have hfd: ∀j (h:j<l.length),(fade l now)[j]'(by simp [fade,h])=if l[j].ends then l[j]else {l[j]with ends:=true,til:=tilOf now}:=fun j h=>by simp [fade]
 refine⟨by omega,fun _=>⟨fun x=> ∃(i:Nat) (A B:Nat→Int),x=⟨[],[],[(i:Int)],[A,B],[],[],[]⟩∧i≤l.length∧∀j,∀h:j<l.length,HeIs (gF (l.map (·.d))) (fF (l.map (·.d)) (·.ep)) (fF (l.map (·.d)) (·.sa)) (fF (l.map (·.d)) (·.sd)) (fF (l.map (·.d)) (·.kid)) (fF (l.map (·.d)) (·.key)) A B j (if j<i then(if l[j].ends then l[j]else {l[j]with ends:=true,til:=tilOf now})else l[j]),
  fun x=>l.length - (x.i.getD 0 0).toNat,⟨_,_,_,rfl,fun _ _=>rfl,fun _ _=>rfl,0,_,_,rfl,Nat.zero_le _,fun j hj=>by rw [if_neg (by omega)];exact hat j hj⟩,?_⟩⟩
 rintro x11 A20 A21 ⟨i,A,B,he,hi,hA⟩;cases he;refine⟨fun hlt'=>⟨by omega,fun _=>?_⟩,fun hge=>?_⟩
 ·have hil:i<l.length:=by omega
  rw [Int.toNat_natCast,til_eq];have hAi:=hA i hil;rw [if_neg (Nat.lt_irrefl i)]at hAi;refine⟨fun hc=>⟨by omega,fun _=>⟨by omega,fun _=>⟨_,_,_,rfl,fun _ _=>rfl,fun _ _=>rfl,⟨i+1,_,_,rfl,by omega,fun j hj=>?_⟩,?_⟩⟩⟩,fun hc=>⟨by omega,fun _=>⟨by omega,fun _=>⟨_,_,_,rfl,fun _ _=>rfl,fun _ _=>rfl,⟨i+1,_,_,rfl,by omega,fun j hj=>?_⟩,?_⟩⟩⟩⟩
  ·have hends:l[i].ends=false:=by
    rw [←hAi.2.2];simpa using hc
   by_cases hji:j=i
   ·subst hji;rw [if_pos (by omega),if_neg (by rw [hends];simp)];refine⟨hAi.1,?_,?_⟩<;>simp [updF]
   ·have:=hA j hj;by_cases hlt2:j<i
    ·rw [if_pos hlt2]at this;rw [if_pos (by omega)];refine⟨this.1,?_,?_⟩<;>simp only [updF,if_neg hji]
     ·exact this.2.1
     ·exact this.2.2
    ·rw [if_neg hlt2]at this;rw [if_neg (by omega)];refine⟨this.1,?_,?_⟩<;>simp only [updF,if_neg hji]
     ·exact this.2.1
     ·exact this.2.2
  ·simp only [List.getD_cons_zero];omega
  ·have hends:l[i].ends=true:=by
    rw [←hAi.2.2];simpa using hc
   by_cases hji:j=i
   ·subst hji;rw [if_pos (by omega),if_pos hends];exact hAi
   ·have:=hA j hj;by_cases hlt2:j<i
    ·rw [if_pos hlt2]at this;rw [if_pos (by omega)];exact this
    ·rw [if_neg hlt2]at this;rw [if_neg (by omega)];exact this
  ·simp only [List.getD_cons_zero];omega
 have hie:i=l.length:=by omega
 subst hie;have hfl:(fade l now).length=l.length:=by simp [fade]
 have hK1:hK true v1 (l.length:Int) (gF (l.map (·.d))) (fF (l.map (·.d)) (·.ep)) (fF (l.map (·.d)) (·.sa)) (fF (l.map (·.d)) (·.sd)) (fF (l.map (·.d)) (·.kid)) (fF (l.map (·.d)) (·.key)) A20 A21=heldHP true v1 (fade l now):=by
  rw [←hfl];refine hK_is fun j hj=>?_
  rw [hfl]at hj;have:=hA j hj;rw [if_pos hj]at this;rw [hfd j hj];exact this
 rw [hK1]
 let mF:Me:={m with held:=fade l now}
 have ht:=tick_meets b b1 mF v0 v1 v2 now (by show(fade l now).length<_;rw [hfl];omega);refine⟨_,ht,fun x hs hq=>?_⟩;obtain⟨v4,rfl,rfl⟩:=hq;refine⟨v4,_,_,_,_,_,_,_,_,_,rfl,by rw [←hK_held];rfl,?_⟩;refine⟨_,clone_meets v3 mem (by omega),fun x hs hq=>?_⟩;obtain⟨v5,rfl,rfl⟩:=hq;refine⟨v5,_,_,_,rfl,by rw [←dK_dev true v5];rfl,?_⟩;rw [dK_dev];refine⟨_,has_meets g ep v5 mem m.sf (by omega),fun x hs hq=>?_⟩;obtain⟨rfl,rfl⟩:=hq;refine⟨_,rfl,rfl,fun h3=>?_,fun h3=>?_⟩
 ·have h3:m.sf ∉ mem:=by simpa using h3
  have he:enter m g ep mem now key=(0,{m with so:=true,g:=g,ep:=ep,mem:=mem,held:=[],wait:=[]},[],false):=by rw [enter,if_neg g1,if_neg g2,if_pos h3]
  rw [he];refine⟨_,?_,v5,nil1,nil1,nil1,rfl,rfl⟩;refine Ent.trans (Ent.pick (b:=[mS b b1 m.sf.1 m.sf.2 true (fun i=>g.getD i 0) ep v5.v (.slice none 0 0) (.slice none 0 0),devHP true v5 mem,rowHP b1 true [.int .u64 nx],devHP true v3 mem]) [0,7,4,5] (by decide) rfl) ?_;have e1:=Ent.front (A:=[mS b b1 m.sf.1 m.sf.2 true (fun i=>g.getD i 0) ep v5.v (.slice none 0 0) (.slice none 0 0),devHP true v5 mem,rowHP b1 true [.int .u64 nx],devHP true v3 mem]) (Ent.nilS 144 23);have e2:=Ent.front (A:=[mS b b1 m.sf.1 m.sf.2 true (fun i=>g.getD i 0) ep v5.v (.slice none 0 0) (.slice none 0 0),devHP true v5 mem,rowHP b1 true [.int .u64 nx],devHP true v3 mem,sliHP true 144 23 (.slice none 0 0) 0 []]) (Ent.nilS 51 21);have e3:=Ent.front (A:=[mS b b1 m.sf.1 m.sf.2 true (fun i=>g.getD i 0) ep v5.v (.slice none 0 0) (.slice none 0 0),devHP true v5 mem,rowHP b1 true [.int .u64 nx],devHP true v3 mem,sliHP true 144 23 (.slice none 0 0) 0 [],sliHP true 51 21 (.slice none 0 0) 0 []]) (Ent.nilS 74 23);exact Ent.trans e1 (Ent.trans e2 (Ent.trans e3 (Ent.pick [0,1,4,5,2,3,6] (by decide) rfl)))
 have h3:m.sf∈mem:=by simpa using h3
 have he:enter m g ep mem now key=(0,m.wait.foldl (retake g ep) (into m g ep mem now key),mem.filter (fun p=>decide (p≠m.sf)),true):=by rw [enter,if_neg g1,if_neg g2,if_neg (by simpa using h3)]
 have hsame:=retakes_same g ep m.wait (into m g ep mem now key);have b54: ∀b3,st_54 (fun r hs=> ∃hs',Ent hs hs'∧EntP b b1 (enter m g ep mem now key) (ownD m g ep key) v3 mem nx nx' r hs') m.sf.1 m.sf.2 _ _ ep _ _ _ _ key nx' _ _ _ _ _ _ _ _ _ _ _ _ _ _ _ _ _ _ _ _ _ v0 v2 v3 v4 v5 b b1 b2 b3:=fun b3=>
  behind54 _ m g ep now key nx' mem b b1 b2 b3 v0 v2 v3 v4 v5 hg n hw hn hlt hr h3 ho fun X Y u1 u2 uo=>by
   rw [he];refine⟨[mrow b b1 (m.wait.foldl (retake g ep) (into m g ep mem now key)) v5 u1 u2,devHP true v5 mem,heldHP true u1 (m.wait.foldl (retake g ep) (into m g ep mem now key)).held,waitHP true u2 (m.wait.foldl (retake g ep) (into m g ep mem now key)).wait,rowHP b1 true [.int .u64 nx'],devHP true v3 mem,outHP uo (mem.filter fun p=>decide (p≠m.sf)) (ownD m g ep key)],Ent.pick [0,7,2,9,4,5,10] (by decide) rfl,v5,u1,u2,uo,rfl,?_⟩;simp only [hsame.2.2.2.2];rfl
 have hk: ∃k:Int,(Value.agg #[tmV key])= .agg #[.string ⟨(strD (srowF k)).toArray⟩]∧k=key:=⟨key,by simp only [srowF,strD_rowS],rfl⟩;subst hl;refine⟨⟨_,kid_meets ep m.sf.1 m.sf.2,fun x hs hq=>?_⟩,fun b3=>⟨_,kid_meets ep m.sf.1 m.sf.2,fun x hs hq=>?_⟩⟩
 ·obtain⟨rfl,rfl⟩:=hq;refine⟨_,rfl,rfl,⟨_,hFr,fun x hs hq=>?_⟩,fun b3=>⟨_,hFr,fun x hs hq=>?_⟩⟩
  ·obtain⟨rfl,rfl⟩:=hq;exact⟨key,nx',by simp only [srowF,strD_rowS],rfl,fun b3=>b54 b3⟩
  ·obtain⟨rfl,rfl⟩:=hq;exact⟨key,nx',by simp only [srowF,strD_rowS],rfl,b54 b3⟩
 ·obtain⟨rfl,rfl⟩:=hq;refine⟨_,rfl,rfl,⟨_,hFr,fun x hs hq=>?_⟩⟩;obtain⟨rfl,rfl⟩:=hq;exact⟨key,nx',by simp only [srowF,strD_rowS],rfl,b54 b3⟩
end Go.RX.Gl
