/- Whether a member stands az the document's (agree): it does, if its keys are the atoms of that one's. · The program's member az one part of memory: what Enter, Take, Tick, Key and agree do with it, by the document's member. -/
import Derived.Test.YtfnaoeleljhmhaaGreatM38
import Derived.Test.YtfnaoeleljhmhaaGreatM43

namespace Go.RX.He
open Go Go.RX Go.Proofs Go.Gp Go.RX.Gb Go.RX.Gf Go.RX.Gl Go.RX.Gu Go.RX.Gr Go.RX.Ha
theorem own_is{P:Di→Prop}(hP: ∀d,P d→0≤d.sa∧0≤d.sd){n:Nat}{m:Me}(hw:Wf P n m)(hs:Sm m)(hso:m.so=true):
  (0≤findR m.held m.sf m.ep→∃i:Nat,∃hi:i<m.held.length,findR m.held m.sf m.ep=i∧ownOf m=some m.held[i].d)∧(¬0≤findR m.held m.sf m.ep→findR m.held m.sf m.ep= -1∧ownOf m=none):=by
 obtain⟨e1,e2⟩:=hs.ep hso;have hkid: ∀h∈m.held,h.d.kid=kidV m.ep m.sf.1 m.sf.2↔(h.d.sa,h.d.sd)=m.sf∧h.d.ep=m.ep:=fun h hm=>by
  obtain⟨s1,s2⟩:=hs.held (List.ne_nil_of_mem hm);rw [held_kid hP hw hm ⟨e1,e2,hw.sf.1,s1,hw.sf.2,s2⟩,Prod.ext_iff];exact⟨fun⟨a,b,c⟩=>⟨⟨b,c⟩,a⟩,fun⟨⟨b,c⟩,a⟩=>⟨a,b,c⟩⟩
 refine⟨fun h=>?_,fun h=>?_⟩
 ·obtain⟨i,hi,h1,h2,h3,_⟩:=findR_some h;have hk:=(hkid _ (List.getElem_mem hi)).2 ⟨h2,h3⟩;have hlow:low m.held (kidV m.ep m.sf.1 m.sf.2)=i:=low_of (by omega) (fun j hj h=>by rw [←hk];exact rise_lt hw.rise hj hi) fun _=>by rw [hk];exact Int.le_refl _
  have hh:holds m.held (kidV m.ep m.sf.1 m.sf.2)=true:=by
   unfold holds;rw [List.any_eq_true];exact⟨_,List.getElem_mem hi,by simpa using hk⟩
  refine⟨i,hi,h1,?_⟩;rw [ownOf,if_pos ⟨hso,hh⟩,hlow,List.getElem?_eq_getElem hi];rfl
 ·obtain⟨h1,h2⟩:=findR_none h;refine⟨h1,?_⟩;rw [ownOf,if_neg];rintro ⟨_,hh⟩;unfold holds at hh;rw [List.any_eq_true]at hh;obtain⟨x,hx,hk⟩:=hh;rw [List.find?_eq_none]at h2;exact h2 x hx (decide_eq_true ((hkid x hx).1 (by simpa using hk)))
theorem ownOf_kf(f:Int→Int)(m:Me):ownOf (m.kf f)=(ownOf m).map (Di.kf f):=by
 unfold ownOf;show(if m.so=true∧holds (m.held.map (He.kf f)) (kidV m.ep m.sf.1 m.sf.2)=true then((m.held.map (He.kf f))[low (m.held.map (He.kf f)) (kidV m.ep m.sf.1 m.sf.2)]?).map (·.d)else none)=_;rw [holds_kf,low_kf];split
 ·rw [List.getElem?_map,Option.map_map,Option.map_map];rfl
 ·rfl
def OkK(d:Di):Prop:=OkN d∧0≤d.key∧d.key<18446744073709551616
theorem rdV_held(l:List He)(i:Nat)(hi:i<l.length):(Value.agg (List.append (segCells .u8 16 (shiftF (gF (l.map (·.d))) (i*16))) ([.int .u64 (fF (l.map (·.d)) (·.ep) i),.int .u8 (fF (l.map (·.d)) (·.sa) i),.int .u8 (fF (l.map (·.d)) (·.sd) i),.int .u64 (fF (l.map (·.d)) (·.kid) i),.int .u64 (fF (l.map (·.d)) (·.key) i)])).toArray)= .agg (rdC l[i].d).toArray:=by
 rw [rdV_at (l.map (·.d)) i (by simpa using hi),List.getElem_map]
theorem agt(Post:PT)(b b1:Nat)(m:Me)(v0 v1 v2 w0 w1 w2:V1)(nx:Int)(n:Nat)(hw:Wf OkK n m)(hn:n≤1000)(hs:Sm m)
  (hP:Post (.bool true) [mrow b b1 (m.kf kA) v0 v1 v2,devHP true v0 m.mem,heldHP true v1 (m.kf kA).held,devHP true w0 m.mem,rhHP true w1 m.held]):
  st_agt Post m.sf.1 m.sf.2 (bI m.so) m.ep (m.mem.length:Int) ((m.kf kA).held.length:Int) m.sf.1 m.sf.2 (bI m.so) m.ep nx (m.mem.length:Int) (m.held.length:Int) (fun i=>m.g.getD i 0) (pF m.mem (·.1)) (pF m.mem (·.2))
   (gF ((m.kf kA).held.map (·.d))) (fF ((m.kf kA).held.map (·.d)) (·.ep)) (fF ((m.kf kA).held.map (·.d)) (·.sa)) (fF ((m.kf kA).held.map (·.d)) (·.sd)) (fF ((m.kf kA).held.map (·.d)) (·.kid)) (fF ((m.kf kA).held.map (·.d)) (·.key)) (hF (m.kf kA).held (·.til)) (hF (m.kf kA).held fun e=>bI e.ends)
   (fun i=>m.g.getD i 0) (pF m.mem (·.1)) (pF m.mem (·.2)) (gF (m.held.map (·.d))) (fF (m.held.map (·.d)) (·.ep)) (fF (m.held.map (·.d)) (·.sa)) (fF (m.held.map (·.d)) (·.sd)) (fF (m.held.map (·.d)) (·.kid)) (fF (m.held.map (·.d)) (·.key)) (hF m.held fun e=>bI e.ends) (hF m.held (·.til)) v0 v1 v2 w0 w1 w2 b b1:=by
 have hlen:=hw.len;have hPn: ∀d,OkK d→0≤d.sa∧0≤d.sd:=fun d h=>⟨h.1.2.1,h.1.2.2.2.1⟩
 have hkl:(m.kf kA).held.length=m.held.length:=List.length_map _;have hrow:mR b b1 m.sf.1 m.sf.2 (bI m.so) (fun i=>m.g.getD i 0) m.ep v0 v1 v2=mrow b b1 (m.kf kA) v0 v1 v2:=mR_row b b1 (m.kf kA) v0 v1 v2;unfold st_agt;simp only [hK_held,dK_dev,rK_held,hrow,bI_eq];intro _ _ _ _ _;refine⟨_,clh_meets v1 (m.kf kA).held (by omega),fun x hs hq=>?_⟩;obtain⟨v7,rfl,rfl⟩:=hq;refine⟨v7,((m.kf kA).held.length:Int),gF ((m.kf kA).held.map (·.d)),fF ((m.kf kA).held.map (·.d)) (·.ep),fF ((m.kf kA).held.map (·.d)) (·.sa),fF ((m.kf kA).held.map (·.d)) (·.sd),fF ((m.kf kA).held.map (·.d)) (·.kid),fF ((m.kf kA).held.map (·.d)) (·.key),hF (m.kf kA).held (·.til),hF (m.kf kA).held fun e=>bI e.ends,rfl,by rw [hK_held];rfl,by omega,fun _=>?_⟩;rw [hkl];refine⟨fun x=> ∃i:Nat,x=⟨[],[],[(i:Int),(i:Int)],[],[],[],[]⟩∧i≤m.held.length,fun x=>m.held.length - (x.i.getD 0 0).toNat,⟨0,0,rfl,rfl,0,rfl,Nat.zero_le _⟩,?_⟩;rintro x16 x17 ⟨i,he,hi⟩;cases he;refine⟨fun hlt=>⟨by omega,fun _ _ _=>?_⟩,fun hge=>?_⟩
 ·have hil:i<m.held.length:=by omega
  iterate 7 refine⟨by omega,fun _=>?_⟩
  refine⟨fun _=>?_,fun h=>absurd (by omega) h⟩;rw [Int.toNat_natCast,show((i:Int)*16).toNat=i*16 by omega,rdV_held _ _ hil];have hk:=(hw.held _ (List.getElem_mem hil)).2.2;refine⟨_,real_meets m.held[i].d hk.1,fun x hs hq=>?_⟩;obtain⟨rfl,rfl⟩:=hq;refine⟨m.held[i].d.ep,m.held[i].d.sa,m.held[i].d.sd,m.held[i].d.kid,kA m.held[i].d.key,fun j=>m.held[i].d.g.getD j 0,(dV_eq (m.held[i].d.kf kA)).symm,rfl,fun h=>absurd ?_ h,fun _=>?_⟩
  ·have hil2:i<((m.kf kA).held.map (·.d)).length:=by rw [List.length_map,hkl];exact hil
   obtain⟨q1,q2,q3,q4,q5,q6⟩:=diIs_list ((m.kf kA).held.map (·.d)) i hil2;have hel:((m.kf kA).held.map (·.d))[i]=m.held[i].d.kf kA:=by
    simp only [Me.kf,List.getElem_map];rfl
   rw [hel]at q1 q2 q3 q4 q5 q6;exact⟨fun j hj=>q1 j hj,q2,q3,q4,q5,by rw [q6];rfl⟩
  ·iterate 4 refine⟨by omega,fun _=>?_⟩
   refine⟨_,_,rfl,rfl,⟨i+1,rfl,by omega⟩,?_⟩;simp only [List.getD_cons_zero];omega
 have hie:i=m.held.length:=by omega
 subst hie;have hw2:=wf_kf (f:=kA) (Q:=fun _=>True) (fun _ _=>trivial) hw;refine⟨_,own_meets b b1 (m.kf kA) v0 v1 v2 (by omega) hw2.rise,fun x hs' hq=>?_⟩;obtain⟨rfl,rfl⟩:=hq;obtain⟨o,ho⟩: ∃o,o=(ownOf (m.kf kA)).getD zDi:=⟨_,rfl⟩;refine⟨o.ep,o.sa,o.sd,o.kid,o.key,fun j=>o.g.getD j 0,(ownOf (m.kf kA)).isSome,by rw [dV_eq,ho],rfl,?_⟩;intro _;rw [ownOf_kf]at ho ⊢;cases hso:m.so with
 | false=>
  have hno:ownOf m=none:=by rw [ownOf,if_neg];rintro ⟨h,_⟩;rw [hso]at h;cases h
  rw [hno];refine⟨fun h=>(by cases h),fun _=>⟨fun h=>absurd rfl h,fun _=>?_⟩⟩
  iterate 7 refine⟨by simp,fun _=>?_⟩
  refine⟨fun h=>(by simp at h),fun _=>?_⟩;rw [show((m.held.length:Int)==(m.held.length:Int))=true by simp];exact hP
 | true=>
  obtain⟨hA,hB⟩:=own_is hPn hw hs hso;have hfm:=rfind_meets m w0 w1 w2 nx m.sf m.ep (by omega);by_cases hf:0≤findR m.held m.sf m.ep
  ·obtain⟨k,hk,hfk,hown⟩:=hA hf;rw [hown]at ho ⊢;simp only [Option.map_some,Option.getD_some]at ho;refine⟨fun _=>⟨fun _=>?_,fun h=>absurd (by decide) h⟩,fun h=>absurd rfl h⟩;rw [show(rC m.sf.1 m.sf.2 true (fun i=>m.g.getD i 0) m.ep w0.v w1.v w2.v nx)=rmV m w0 w1 w2 nx by unfold rmV;rw [hso]];refine⟨_,hfm,fun x hs' hq=>?_⟩;obtain⟨rfl,rfl⟩:=hq;refine⟨_,rfl,rfl,?_⟩;rw [hfk]
   iterate 7 refine⟨by omega,fun _=>?_⟩
   refine⟨fun _=>?_,fun h=>absurd ⟨rfl,by omega⟩ h⟩;rw [Int.toNat_natCast,show((k:Int)*16).toNat=k*16 by omega,rdV_held _ _ hk];have hkk:=(hw.held _ (List.getElem_mem hk)).2.2;refine⟨_,real_meets m.held[k].d hkk.1,fun x hs' hq=>?_⟩;obtain⟨rfl,rfl⟩:=hq;refine⟨m.held[k].d.ep,m.held[k].d.sa,m.held[k].d.sd,m.held[k].d.kid,kA m.held[k].d.key,fun j=>m.held[k].d.g.getD j 0,(dV_eq (m.held[k].d.kf kA)).symm,rfl,?_⟩;subst ho;have e2:((List.range 16).all fun _=>true)=true:=by decide
   simp only [Di.kf,beq_self_eq_true,Bool.and_self,Bool.and_true,e2];exact hP
  ·obtain⟨hf1,hno⟩:=hB hf;rw [hno];refine⟨fun h=>(by cases h),fun _=>⟨fun _=>?_,fun h=>absurd (by decide) h⟩⟩;rw [show(rC m.sf.1 m.sf.2 true (fun i=>m.g.getD i 0) m.ep w0.v w1.v w2.v nx)=rmV m w0 w1 w2 nx by unfold rmV;rw [hso]];refine⟨_,hfm,fun x hs' hq=>?_⟩;obtain⟨rfl,rfl⟩:=hq;refine⟨_,rfl,rfl,?_⟩;rw [hf1]
   iterate 7 refine⟨by simp,fun _=>?_⟩
   refine⟨fun h=>(by simp at h),fun _=>?_⟩;rw [show((m.held.length:Int)==(m.held.length:Int))=true by simp];exact hP
theorem agree_meets(b b1:Nat)(m:Me)(v0 v1 v2 w0 w1 w2:V1)(nx:Int)(n:Nat)(hw:Wf OkK n m)(hn:n≤1000)(hs:Sm m):
  Meets Tryz.prog 29 [.pointer (some ⟨b,0,none⟩),.agg (rmV m w0 w1 w2 nx).toArray] [mrow b b1 (m.kf kA) v0 v1 v2,devHP true v0 m.mem,heldHP true v1 (m.kf kA).held,devHP true w0 m.mem,rhHP true w1 m.held]
   fun r hs=>r= .bool true∧hs=[mrow b b1 (m.kf kA) v0 v1 v2,devHP true v0 m.mem,heldHP true v1 (m.kf kA).held,devHP true w0 m.mem,rhHP true w1 m.held]:=by
 obtain⟨Post,hPo⟩: ∃Post:PT,Post=fun r hs=>r= .bool true∧hs=[mrow b b1 (m.kf kA) v0 v1 v2,devHP true v0 m.mem,heldHP true v1 (m.kf kA).held,devHP true w0 m.mem,rhHP true w1 m.held]:=⟨_,rfl⟩
 have base:=mt_agree Post m.sf.1 m.sf.2 (bI m.so) m.ep (m.mem.length:Int) ((m.kf kA).held.length:Int) m.sf.1 m.sf.2 (bI m.so) m.ep nx (m.mem.length:Int) (m.held.length:Int) (fun i=>m.g.getD i 0) (pF m.mem (·.1)) (pF m.mem (·.2))
  (gF ((m.kf kA).held.map (·.d))) (fF ((m.kf kA).held.map (·.d)) (·.ep)) (fF ((m.kf kA).held.map (·.d)) (·.sa)) (fF ((m.kf kA).held.map (·.d)) (·.sd)) (fF ((m.kf kA).held.map (·.d)) (·.kid)) (fF ((m.kf kA).held.map (·.d)) (·.key)) (hF (m.kf kA).held (·.til)) (hF (m.kf kA).held fun e=>bI e.ends)
  (fun i=>m.g.getD i 0) (pF m.mem (·.1)) (pF m.mem (·.2)) (gF (m.held.map (·.d))) (fF (m.held.map (·.d)) (·.ep)) (fF (m.held.map (·.d)) (·.sa)) (fF (m.held.map (·.d)) (·.sd)) (fF (m.held.map (·.d)) (·.kid)) (fF (m.held.map (·.d)) (·.key)) (hF m.held fun e=>bI e.ends) (hF m.held (·.til)) v0 v1 v2 w0 w1 w2 b b1
 have hrow:mR b b1 m.sf.1 m.sf.2 (bI m.so) (fun i=>m.g.getD i 0) m.ep v0 v1 v2=mrow b b1 (m.kf kA) v0 v1 v2:=mR_row b b1 (m.kf kA) v0 v1 v2;rw [bI_eq,hrow,dK_dev,hK_held,dK_dev,rK_held]at base;rw [hPo]at base;refine base ?_;rw [←hPo];have htail:=agt Post b b1 m v0 v1 v2 w0 w1 w2 nx n hw hn hs (by rw [hPo];exact⟨rfl,rfl⟩);unfold st_agree;simp only [hK_held,dK_dev,rK_held,hrow];intro _ _;have hmem:=hw.mem;have hro:=rost_meets b b1 (m.kf kA) v0 v1 v2 (by show m.mem.length≤_;omega);rw [show(m.kf kA).mem=m.mem from rfl,show(m.kf kA).so=m.so from rfl,show(m.kf kA).g=m.g from rfl,show(m.kf kA).ep=m.ep from rfl]at hro;refine⟨_,hro,fun x hs' hq=>?_⟩;obtain⟨u,rfl,rfl⟩:=hq;cases hso:m.so with
 | false=>
  refine⟨u,0,0,fun i=>(List.replicate 16 (0:Int)).getD i 0,fun _=>0,fun _=>0,false,rfl,rfl,fun _=>⟨fun h=>(by simp at h),fun _=>⟨fun h=>absurd (by simp [bI]) h,fun _=>?_⟩⟩⟩;rw [hso]at htail;exact htail
 | true=>
  refine⟨u,m.ep,(m.mem.length:Int),fun i=>m.g.getD i 0,pF m.mem (·.1),pF m.mem (·.2),true,rfl,by rw [dK_dev];rfl,fun _=>⟨fun _=>?_,fun h=>absurd (by simp [bI]) h⟩⟩;rw [dK_dev];refine⟨_,same_meets m.g m.ep u w0 m.mem (by omega),fun x hs' hq=>?_⟩;obtain⟨rfl,rfl⟩:=hq;refine⟨true,rfl,rfl,fun h=>absurd h (by simp [bI]),fun _=>?_⟩;rw [hso]at htail;exact htail
end Go.RX.He

namespace Go.RX.Hi
open Go Go.RX Go.Proofs Go.Gp Go.RX.Gb Go.RX.Gf Go.RX.Gl Go.RX.Gu Go.RX.Gr Go.RX.Ha Go.RX.He
def S64(k:Int):Prop:=0≤k∧k<18446744073709551616
theorem beB_inj{a b:Nat}(ha:a<18446744073709551616)(hb:b<18446744073709551616)(h:beB a=beB b):a=b:=by
 unfold beB at h;simp only [List.cons.injEq,←UInt8.toNat_inj,UInt8.toNat_ofNat',and_true]at h;omega
theorem kA_inj:InjOn kA S64:=by
 intro a b ha hb h;unfold kA keyC at h;have h2:atomB a.toNat=atomB b.toNat:=by
  rw [←sDec_code (atomB a.toNat),←sDec_code (atomB b.toNat),Int.ofNat.inj h]
 have h3:=beB_inj (by have:=ha.2;omega) (by have:=hb.2;omega) (List.cons.inj h2).2;have:=ha.1;have:=hb.1;omega
def mpL(b b1:Nat)(m:Me)(v0 v1 v2:V1)(nx:Nat):List HP:=[mrow b b1 m v0 v1 v2,devHP true v0 m.mem,heldHP true v1 m.held,waitHP true v2 m.wait,rowHP b1 true [.int .u64 (nx:Int)]]
def MP(b:Nat)(m:Me)(nx:Nat):HP:=HP.ex fun q:Nat×V1×V1×V1=>HP.star (mpL b q.1 m q.2.1 q.2.2.1 q.2.2.2 nx)
theorem mp_open{f:Nat}{args:List Value}{b:Nat}{m:Me}{nx:Nat}{R:List HP}{post:PT}(h: ∀b1 v0 v1 v2,Meets Tryz.prog f args (mpL b b1 m v0 v1 v2 nx++R) post):Meets Tryz.prog f args (MP b m nx::R) post:=
 Meets.ex fun q=>(h q.1 q.2.1 q.2.2.1 q.2.2.2).pre (Ent.frame (Ent.unstar _) R)
theorem mp_shut(b b1:Nat)(m:Me)(v0 v1 v2:V1)(nx:Nat)(R:List HP):Ent (mpL b b1 m v0 v1 v2 nx++R) (MP b m nx::R):=by
 refine Ent.frame (b:=[MP b m nx]) (Ent.trans (Ent.star ?_) (Ent.ex (F:=fun q:Nat×V1×V1×V1=>HP.star (mpL b q.1 m q.2.1 q.2.2.1 q.2.2.2 nx)) (b1,v0,v1,v2) rfl)) R;intro h hm;unfold mpL at hm;simp only [List.mem_cons,List.not_mem_nil,or_false]at hm;rcases hm with rfl | rfl | rfl | rfl | rfl<;>rfl
theorem okk_ok2(d:Di)(h:OkK d):Ok2 (d.kf kA):=⟨⟨h.1.1,atomB d.key.toNat,rfl⟩,h.1.2.1,h.1.2.2.2.1⟩
theorem okk_okn(d:Di)(h:OkK d):OkN d:=h.1
theorem okk_pos(d:Di)(h:OkK d):0≤d.sa∧0≤d.sd:=⟨h.1.2.1,h.1.2.2.2.1⟩
theorem okk_s64(d:Di)(h:OkK d):S64 d.key:=h.2
theorem mp_enter(b:Nat)(m:Me)(v3:V1)(g:List Int)(ep now:Int)(nx:Nat)(mem:List (Int×Int))(n:Nat)(hw:Wf OkK n m)(hn:n≤1000)(hgm:m.so=true→m.g.length=16)(hg:g.length=16)(hml:mem.length≤32)(hnx:nx+1<18446744073709551616)(ho:OkK (ownD m g ep nx)):
  Meets Tryz.prog 9 [.pointer (some ⟨b,0,none⟩),rosV g ep v3.v,.int .u64 now] [MP b (m.kf kA) nx,devHP true v3 mem]
   fun r hs=> ∃uo:V1,r= .tuple #[uo.v,.int .i64 (enter m g ep mem now nx).1]∧hs=[MP b ((enter m g ep mem now nx).2.1.kf kA) (if(enter m g ep mem now nx).2.2.2 then nx+1 else nx),devHP true v3 mem,outHP uo (enter m g ep mem now nx).2.2.1 ((ownD m g ep nx).kf kA)]:=by
 refine mp_open fun b1 v0 v1 v2=>?_
 have hw2:Wf Ok2 n (m.kf kA):=wf_kf okk_ok2 hw;have he:=enter_kf kA_inj okk_pos okk_s64 hw g ep mem now nx ho;have base:=enter_meets b b1 (m.kf kA) v0 v1 v2 v3 g ep now (kA nx) nx ((nx+1:Nat):Int) mem n hw2 hn hgm hg (by omega) (okk_ok2 _ ho) (by rw [kA_nat];exact fresh_meets b1 nx hnx);rw [he]at base;refine base.post fun r hs h=>?_
 obtain⟨u0,u1,u2,uo,rfl,rfl⟩:=h;have hnxt:(if(enter m g ep mem now nx).2.2.2=true then((nx+1:Nat):Int)else(nx:Int))=((if(enter m g ep mem now nx).2.2.2=true then nx+1 else nx:Nat):Int):=by split<;>rfl
 refine⟨[MP b ((enter m g ep mem now nx).2.1.kf kA) (if(enter m g ep mem now nx).2.2.2 then nx+1 else nx),devHP true v3 mem,outHP uo (enter m g ep mem now nx).2.2.1 ((ownD m g ep nx).kf kA)],?_,uo,rfl,rfl⟩;have:=mp_shut b b1 ((enter m g ep mem now nx).2.1.kf kA) u0 u1 u2 (if(enter m g ep mem now nx).2.2.2 then nx+1 else nx) [devHP true v3 mem,outHP uo (enter m g ep mem now nx).2.2.1 ((ownD m g ep nx).kf kA)];unfold mpL at this;rw [←hnxt]at this;exact this
theorem mp_take(b:Nat)(m:Me)(nx:Nat)(d:Di)(n:Nat)(hw:Wf OkK n m)(hn:n≤1000)(hgm:m.so=true→m.g.length=16)(hd:OkK d):
  Meets Tryz.prog 11 [.pointer (some ⟨b,0,none⟩),.agg (diC (d.kf kA)).toArray] [MP b (m.kf kA) nx] fun r hs=>r= .int .i64 (take m d).1∧hs=[MP b ((took m d).kf kA) nx]:=by
 refine mp_open (R:=[]) fun b1 v0 v1 v2=>?_
 have hw2:Wf Ok2 n (m.kf kA):=wf_kf okk_ok2 hw;have base:=(take_meets b b1 (m.kf kA) v0 v1 v2 (d.kf kA) (fit_of hw2 (by omega) hgm) (okk_ok2 d hd).1).frame [rowHP b1 true [.int .u64 (nx:Int)]];rw [take_kf kA_inj hw.rise (fun h hm=>okk_s64 _ (hw.held h hm).2) (fun w hm=>okk_s64 _ (hw.wait w hm).2) (okk_s64 d hd)]at base;refine base.post fun r hs h=>?_
 obtain⟨hs0,rfl,u1,u2,rfl,rfl⟩:=h;exact⟨_,mp_shut b b1 ((took m d).kf kA) v0 u1 u2 nx [],rfl,rfl⟩
theorem mp_tick(b:Nat)(m:Me)(nx:Nat)(now:Int)(n:Nat)(hw:Wf OkK n m)(hn:n≤1000):
  Meets Tryz.prog 13 [.pointer (some ⟨b,0,none⟩),.int .u64 now] [MP b (m.kf kA) nx] fun r hs=>r= .tuple #[]∧hs=[MP b (Me.kf kA {m with held:=tick m.held now}) nx]:=by
 refine mp_open (R:=[]) fun b1 v0 v1 v2=>?_
 have hl:(m.kf kA).held.length=m.held.length:=List.length_map _;have hlen:=hw.len;have base:=(tick_meets b b1 (m.kf kA) v0 v1 v2 now (by omega)).frame [devHP true v0 m.mem,waitHP true v2 (m.kf kA).wait,rowHP b1 true [.int .u64 (nx:Int)]];refine(base.pre (pre:=mpL b b1 (m.kf kA) v0 v1 v2 nx++[]) (Ent.pick [0,2,1,3,4] (by decide) rfl)).post fun r hs h=>?_
 obtain⟨hs0,rfl,v,rfl,rfl⟩:=h;refine⟨_,Ent.trans (Ent.pick (b:=mpL b b1 (Me.kf kA {m with held:=tick m.held now}) v0 v v2 nx++[]) [0,2,1,3,4] (by decide) ?_) (mp_shut b b1 _ v0 v v2 nx []),rfl,rfl⟩;show List.map some (mpL b b1 (Me.kf kA {m with held:=tick m.held now}) v0 v v2 nx++[])=_;unfold mpL;rw [show(Me.kf kA {m with held:=tick m.held now}).held=tick (m.kf kA).held now from(tick_kf kA m.held now).symm];rfl
theorem mp_key(b:Nat)(m:Me)(nx:Nat)(s:Int×Int)(ep:Int)(n:Nat)(hw:Wf OkK n m)(hn:n≤1000):
  Meets Tryz.prog 27 [.pointer (some ⟨b,0,none⟩),.agg #[.int .u8 s.1,.int .u8 s.2],.int .u64 ep] [MP b (m.kf kA) nx]
   fun r hs=>r= .tuple #[.agg #[tmV (keyAns zC (m.kf kA) s ep).1],.int .i64 (keyAns zC (m.kf kA) s ep).2]∧hs=[MP b (m.kf kA) nx]:=by
 refine mp_open (R:=[]) fun b1 v0 v1 v2=>?_
 have hl:(m.kf kA).held.length=m.held.length:=List.length_map _;have hlen:=hw.len;have base:=(key_meets b b1 (m.kf kA) v0 v1 v2 s ep (by omega)).frame [devHP true v0 m.mem,waitHP true v2 (m.kf kA).wait,rowHP b1 true [.int .u64 (nx:Int)]];refine(base.pre (pre:=mpL b b1 (m.kf kA) v0 v1 v2 nx++[]) (Ent.pick [0,2,1,3,4] (by decide) rfl)).post fun r hs h=>?_
 obtain⟨hs0,rfl,rfl,rfl⟩:=h;exact⟨_,Ent.trans (Ent.pick (b:=mpL b b1 (m.kf kA) v0 v1 v2 nx++[]) [0,2,1,3,4] (by decide) rfl) (mp_shut b b1 _ v0 v1 v2 nx []),rfl,rfl⟩
theorem mp_agree(b:Nat)(m:Me)(w0 w1 w2:V1)(nx:Nat)(nx':Int)(n:Nat)(hw:Wf OkK n m)(hn:n≤1000)(hs:Sm m):
  Meets Tryz.prog 29 [.pointer (some ⟨b,0,none⟩),.agg (rmV m w0 w1 w2 nx').toArray] [MP b (m.kf kA) nx,devHP true w0 m.mem,rhHP true w1 m.held]
   fun r hs=>r= .bool true∧hs=[MP b (m.kf kA) nx,devHP true w0 m.mem,rhHP true w1 m.held]:=by
 refine mp_open fun b1 v0 v1 v2=>?_
 have base:=(agree_meets b b1 m v0 v1 v2 w0 w1 w2 nx' n hw hn hs).frame [waitHP true v2 (m.kf kA).wait,rowHP b1 true [.int .u64 (nx:Int)]];refine(base.pre (pre:=mpL b b1 (m.kf kA) v0 v1 v2 nx++[devHP true w0 m.mem,rhHP true w1 m.held]) (Ent.pick [0,1,2,5,6,3,4] (by decide) rfl)).post fun r hs h=>?_
 obtain⟨hs0,rfl,rfl,rfl⟩:=h;exact⟨_,Ent.trans (Ent.pick (b:=mpL b b1 (m.kf kA) v0 v1 v2 nx++[devHP true w0 m.mem,rhHP true w1 m.held]) [0,1,2,5,6,3,4] (by decide) rfl) (mp_shut b b1 _ v0 v1 v2 nx _),rfl,rfl⟩
theorem mp_new(b0:Nat)(s:Int×Int)(n:Nat):Meets Tryz.prog 8 [.iface 135 (.pointer (some ⟨b0,0,none⟩)),.agg #[.int .u8 s.1,.int .u8 s.2]] [rowHP b0 true [.int .u64 (n:Int)]]
  fun r hs=> ∃b,r= .pointer (some ⟨b,0,none⟩)∧hs=[MP b ((newM s).kf kA) n]:=by
 refine(new_meets b0 s n).post fun r hs h=>?_
 obtain⟨b,rfl,rfl⟩:=h;refine⟨_,?_,b,rfl,rfl⟩;have e1:=Ent.front (A:=[rowHP b0 true [.int .u64 (n:Int)],mrow b b0 (newM s) nil1 nil1 nil1]) (Ent.nilS 23 2);have e2:=Ent.front (A:=[rowHP b0 true [.int .u64 (n:Int)],mrow b b0 (newM s) nil1 nil1 nil1,sliHP true 23 2 (.slice none 0 0) 0 []]) (Ent.nilS 144 23);have e3:=Ent.front (A:=[rowHP b0 true [.int .u64 (n:Int)],mrow b b0 (newM s) nil1 nil1 nil1,sliHP true 23 2 (.slice none 0 0) 0 [],sliHP true 144 23 (.slice none 0 0) 0 []]) (Ent.nilS 51 21);exact Ent.trans e1 (Ent.trans e2 (Ent.trans e3 (Ent.trans (Ent.pick (b:=mpL b b0 ((newM s).kf kA) nil1 nil1 nil1 n++[]) [1,2,3,4,0] (by decide) rfl) (mp_shut b b0 _ nil1 nil1 nil1 n []))))
theorem doc_tick(m:Me)(v0 v1 v2:V1)(nx now:Int)(hl:m.held.length≤1000000):
  Meets Tryz.prog 26 [.agg (rmV m v0 v1 v2 nx).toArray,.int .u64 now] [devHP true v0 m.mem,rhHP true v1 m.held,rqHP true v2 m.wait]
   fun r hs=> ∃u:V1,r= .agg (rmV m v0 u v2 nx).toArray∧hs=[devHP true v0 m.mem,rhHP true u (tick m.held now),rqHP true v2 m.wait]:=by
 have base:=(rtick_meets m v0 v1 v2 nx now hl).frame [devHP true v0 m.mem,rqHP true v2 m.wait];refine(base.pre (pre:=[devHP true v0 m.mem,rhHP true v1 m.held,rqHP true v2 m.wait]) (Ent.pick [1,0,2] (by decide) rfl)).post fun r hs h=>?_
 obtain⟨hs0,rfl,u,rfl,rfl⟩:=h;exact⟨_,Ent.pick [1,0,2] (by decide) rfl,u,rfl,rfl⟩
end Go.RX.Hi
