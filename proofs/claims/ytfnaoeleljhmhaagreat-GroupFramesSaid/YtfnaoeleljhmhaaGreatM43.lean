/- Whether a member stands az the document's (agree): it does, if its keys are the atoms of that one's. · The program's member az one part of memory: what Enter, Take, Tick, Key and agree do with it, by the document's member. · GroupPlays over its walk: behind each call the members stand alike. · The chapter's rows (known): they hold. -/
import Derived.Test.YtfnaoeleljhmhaaGreatM41
import Derived.Test.YtfnaoeleljhmhaaGreatM30
import Derived.Test.YtfnaoeleljhmhaaGreatM42

namespace Go.RX.He
open Go Go.RX Go.Proofs Go.Gp Go.RX.Gb Go.RX.Gf Go.RX.Gl Go.RX.Gu Go.RX.Gr Go.RX.Ha
theorem own_is{P:Di→Prop}(hP: ∀d,P d→0≤d.sa∧0≤d.sd){n:Nat}{m:Me}(hw:Wf P n m)(hs:Sm m)(hso:m.so=true):
  (0≤findR m.held m.sf m.ep→∃i:Nat,∃hi:i<m.held.length,findR m.held m.sf m.ep=i∧ownOf m=some m.held[i].d)∧(¬0≤findR m.held m.sf m.ep→findR m.held m.sf m.ep= -1∧ownOf m=none):=by
 obtain⟨e1,e2⟩:=hs.ep hso;have hkid: ∀h∈m.held,h.d.kid=kidV m.ep m.sf.1 m.sf.2↔(h.d.sa,h.d.sd)=m.sf∧h.d.ep=m.ep:=fun h hm=>by
  obtain⟨s1,s2⟩:=hs.held (List.ne_nil_of_mem hm);rw [held_kid hP hw hm ⟨e1,e2,hw.sf.1,s1,hw.sf.2,s2⟩,Prod.ext_iff];exact⟨fun⟨a,b,c⟩=>⟨⟨b,c⟩,a⟩,fun⟨⟨b,c⟩,a⟩=>⟨a,b,c⟩⟩
 refine⟨fun h=>?_,fun h=>?_⟩
 ·obtain⟨i,hi,h1,h2,h3,_⟩:=findR_some h;have hk:=(hkid _ (List.getElem_mem hi)).2 ⟨h2,h3⟩;have hlow:low m.held (kidV m.ep m.sf.1 m.sf.2)=i:=low_of (by omega) (fun j hj h=>by rw [←hk];exact rise_lt hw.rise hj hi) fun _=>by rw [hk];exact Int.le_refl _
  have hh:holds m.held (kidV m.ep m.sf.1 m.sf.2)=true:=by
   unfold holds;rw [List.any_eq_true];exact⟨_,List.getElem_mem hi,by simpa using hk⟩
  refine⟨i,hi,h1,?_⟩;rw [ownOf,if_pos ⟨hso,hh⟩,hlow,List.getElem?_eq_getElem hi];rfl
 ·obtain⟨h1,h2⟩:=findR_none h;refine⟨h1,?_⟩;rw [ownOf,if_neg];rintro ⟨_,hh⟩;unfold holds at hh;rw [List.any_eq_true]at hh;obtain⟨x,hx,hk⟩:=hh;rw [List.find?_eq_none]at h2;exact h2 x hx (decide_eq_true ((hkid x hx).1 (by simpa using hk)))
theorem ownOf_kf(f:Int→Int)(m:Me):ownOf (m.kf f)=(ownOf m).map (Di.kf f):=by
 unfold ownOf;show(if m.so=true∧holds (m.held.map (He.kf f)) (kidV m.ep m.sf.1 m.sf.2)=true then((m.held.map (He.kf f))[low (m.held.map (He.kf f)) (kidV m.ep m.sf.1 m.sf.2)]?).map (·.d)else none)=_;rw [holds_kf,low_kf];split
 ·rw [List.getElem?_map,Option.map_map,Option.map_map];rfl
 ·rfl
def OkK(d:Di):Prop:=OkN d∧0≤d.key∧d.key<18446744073709551616
theorem rdV_held(l:List He)(i:Nat)(hi:i<l.length):(Value.agg (List.append (segCells .u8 16 (shiftF (gF (l.map (·.d))) (i*16))) ([.int .u64 (fF (l.map (·.d)) (·.ep) i),.int .u8 (fF (l.map (·.d)) (·.sa) i),.int .u8 (fF (l.map (·.d)) (·.sd) i),.int .u64 (fF (l.map (·.d)) (·.kid) i),.int .u64 (fF (l.map (·.d)) (·.key) i)])).toArray)= .agg (rdC l[i].d).toArray:=by
 rw [rdV_at (l.map (·.d)) i (by simpa using hi),List.getElem_map]
end Go.RX.He

namespace Go.RX.Hi
open Go Go.RX Go.Proofs Go.Gp Go.RX.Gb Go.RX.Gf Go.RX.Gl Go.RX.Gu Go.RX.Gr Go.RX.Ha Go.RX.He
def S64(k:Int):Prop:=0≤k∧k<18446744073709551616
theorem beB_inj{a b:Nat}(ha:a<18446744073709551616)(hb:b<18446744073709551616)(h:beB a=beB b):a=b:=by
 unfold beB at h;simp only [List.cons.injEq,←UInt8.toNat_inj,UInt8.toNat_ofNat',and_true]at h;omega
theorem kA_inj:InjOn kA S64:=by
 intro a b ha hb h;unfold kA keyC at h;have h2:atomB a.toNat=atomB b.toNat:=by
  rw [←sDec_code (atomB a.toNat),←sDec_code (atomB b.toNat),Int.ofNat.inj h]
 have h3:=beB_inj (by have:=ha.2;omega) (by have:=hb.2;omega) (List.cons.inj h2).2;have:=ha.1;have:=hb.1;omega
def mpL(b b1:Nat)(m:Me)(v0 v1 v2:V1)(nx:Nat):List HP:=[mrow b b1 m v0 v1 v2,devHP true v0 m.mem,heldHP true v1 m.held,waitHP true v2 m.wait,rowHP b1 true [.int .u64 (nx:Int)]]
def MP(b:Nat)(m:Me)(nx:Nat):HP:=HP.ex fun q:Nat×V1×V1×V1=>HP.star (mpL b q.1 m q.2.1 q.2.2.1 q.2.2.2 nx)
theorem mp_open{f:Nat}{args:List Value}{b:Nat}{m:Me}{nx:Nat}{R:List HP}{post:PT}(h: ∀b1 v0 v1 v2,Meets Tryz.prog f args (mpL b b1 m v0 v1 v2 nx++R) post):Meets Tryz.prog f args (MP b m nx::R) post:=
 Meets.ex fun q=>(h q.1 q.2.1 q.2.2.1 q.2.2.2).pre (Ent.frame (Ent.unstar _) R)
theorem mp_shut(b b1:Nat)(m:Me)(v0 v1 v2:V1)(nx:Nat)(R:List HP):Ent (mpL b b1 m v0 v1 v2 nx++R) (MP b m nx::R):=by
 refine Ent.frame (b:=[MP b m nx]) (Ent.trans (Ent.star ?_) (Ent.ex (F:=fun q:Nat×V1×V1×V1=>HP.star (mpL b q.1 m q.2.1 q.2.2.1 q.2.2.2 nx)) (b1,v0,v1,v2) rfl)) R;intro h hm;unfold mpL at hm;simp only [List.mem_cons,List.not_mem_nil,or_false]at hm;rcases hm with rfl | rfl | rfl | rfl | rfl<;>rfl
theorem okk_ok2(d:Di)(h:OkK d):Ok2 (d.kf kA):=⟨⟨h.1.1,atomB d.key.toNat,rfl⟩,h.1.2.1,h.1.2.2.2.1⟩
theorem okk_pos(d:Di)(h:OkK d):0≤d.sa∧0≤d.sd:=⟨h.1.2.1,h.1.2.2.2.1⟩
theorem okk_s64(d:Di)(h:OkK d):S64 d.key:=h.2
theorem mp_enter(b:Nat)(m:Me)(v3:V1)(g:List Int)(ep now:Int)(nx:Nat)(mem:List (Int×Int))(n:Nat)(hw:Wf OkK n m)(hn:n≤1000)(hgm:m.so=true→m.g.length=16)(hg:g.length=16)(hml:mem.length≤32)(hnx:nx+1<18446744073709551616)(ho:OkK (ownD m g ep nx)):
  Meets Tryz.prog 9 [.pointer (some ⟨b,0,none⟩),rosV g ep v3.v,.int .u64 now] [MP b (m.kf kA) nx,devHP true v3 mem]
   fun r hs=> ∃uo:V1,r= .tuple #[uo.v,.int .i64 (enter m g ep mem now nx).1]∧hs=[MP b ((enter m g ep mem now nx).2.1.kf kA) (if(enter m g ep mem now nx).2.2.2 then nx+1 else nx),devHP true v3 mem,outHP uo (enter m g ep mem now nx).2.2.1 ((ownD m g ep nx).kf kA)]:=by
 refine mp_open fun b1 v0 v1 v2=>?_
 have hw2:Wf Ok2 n (m.kf kA):=wf_kf okk_ok2 hw;have he:=enter_kf kA_inj okk_pos okk_s64 hw g ep mem now nx ho;have base:=enter_meets b b1 (m.kf kA) v0 v1 v2 v3 g ep now (kA nx) nx ((nx+1:Nat):Int) mem n hw2 hn hgm hg (by omega) (okk_ok2 _ ho) (by rw [kA_nat];exact fresh_meets b1 nx hnx);rw [he]at base;refine base.post fun r hs h=>?_
 obtain⟨u0,u1,u2,uo,rfl,rfl⟩:=h;have hnxt:(if(enter m g ep mem now nx).2.2.2=true then((nx+1:Nat):Int)else(nx:Int))=((if(enter m g ep mem now nx).2.2.2=true then nx+1 else nx:Nat):Int):=by split<;>rfl
 refine⟨[MP b ((enter m g ep mem now nx).2.1.kf kA) (if(enter m g ep mem now nx).2.2.2 then nx+1 else nx),devHP true v3 mem,outHP uo (enter m g ep mem now nx).2.2.1 ((ownD m g ep nx).kf kA)],?_,uo,rfl,rfl⟩;have:=mp_shut b b1 ((enter m g ep mem now nx).2.1.kf kA) u0 u1 u2 (if(enter m g ep mem now nx).2.2.2 then nx+1 else nx) [devHP true v3 mem,outHP uo (enter m g ep mem now nx).2.2.1 ((ownD m g ep nx).kf kA)];unfold mpL at this;rw [←hnxt]at this;exact this
theorem mp_take(b:Nat)(m:Me)(nx:Nat)(d:Di)(n:Nat)(hw:Wf OkK n m)(hn:n≤1000)(hgm:m.so=true→m.g.length=16)(hd:OkK d):
  Meets Tryz.prog 11 [.pointer (some ⟨b,0,none⟩),.agg (diC (d.kf kA)).toArray] [MP b (m.kf kA) nx] fun r hs=>r= .int .i64 (take m d).1∧hs=[MP b ((took m d).kf kA) nx]:=by
 refine mp_open (R:=[]) fun b1 v0 v1 v2=>?_
 have hw2:Wf Ok2 n (m.kf kA):=wf_kf okk_ok2 hw;have base:=(take_meets b b1 (m.kf kA) v0 v1 v2 (d.kf kA) (fit_of hw2 (by omega) hgm) (okk_ok2 d hd).1).frame [rowHP b1 true [.int .u64 (nx:Int)]];rw [take_kf kA_inj hw.rise (fun h hm=>okk_s64 _ (hw.held h hm).2) (fun w hm=>okk_s64 _ (hw.wait w hm).2) (okk_s64 d hd)]at base;refine base.post fun r hs h=>?_
 obtain⟨hs0,rfl,u1,u2,rfl,rfl⟩:=h;exact⟨_,mp_shut b b1 ((took m d).kf kA) v0 u1 u2 nx [],rfl,rfl⟩
theorem mp_tick(b:Nat)(m:Me)(nx:Nat)(now:Int)(n:Nat)(hw:Wf OkK n m)(hn:n≤1000):
  Meets Tryz.prog 13 [.pointer (some ⟨b,0,none⟩),.int .u64 now] [MP b (m.kf kA) nx] fun r hs=>r= .tuple #[]∧hs=[MP b (Me.kf kA {m with held:=tick m.held now}) nx]:=by
 refine mp_open (R:=[]) fun b1 v0 v1 v2=>?_
 have hl:(m.kf kA).held.length=m.held.length:=List.length_map _;have hlen:=hw.len;have base:=(tick_meets b b1 (m.kf kA) v0 v1 v2 now (by omega)).frame [devHP true v0 m.mem,waitHP true v2 (m.kf kA).wait,rowHP b1 true [.int .u64 (nx:Int)]];refine(base.pre (pre:=mpL b b1 (m.kf kA) v0 v1 v2 nx++[]) (Ent.pick [0,2,1,3,4] (by decide) rfl)).post fun r hs h=>?_
 obtain⟨hs0,rfl,v,rfl,rfl⟩:=h;refine⟨_,Ent.trans (Ent.pick (b:=mpL b b1 (Me.kf kA {m with held:=tick m.held now}) v0 v v2 nx++[]) [0,2,1,3,4] (by decide) ?_) (mp_shut b b1 _ v0 v v2 nx []),rfl,rfl⟩;show List.map some (mpL b b1 (Me.kf kA {m with held:=tick m.held now}) v0 v v2 nx++[])=_;unfold mpL;rw [show(Me.kf kA {m with held:=tick m.held now}).held=tick (m.kf kA).held now from(tick_kf kA m.held now).symm];rfl
theorem mp_key(b:Nat)(m:Me)(nx:Nat)(s:Int×Int)(ep:Int)(n:Nat)(hw:Wf OkK n m)(hn:n≤1000):
  Meets Tryz.prog 27 [.pointer (some ⟨b,0,none⟩),.agg #[.int .u8 s.1,.int .u8 s.2],.int .u64 ep] [MP b (m.kf kA) nx]
   fun r hs=>r= .tuple #[.agg #[tmV (keyAns zC (m.kf kA) s ep).1],.int .i64 (keyAns zC (m.kf kA) s ep).2]∧hs=[MP b (m.kf kA) nx]:=by
 refine mp_open (R:=[]) fun b1 v0 v1 v2=>?_
 have hl:(m.kf kA).held.length=m.held.length:=List.length_map _;have hlen:=hw.len;have base:=(key_meets b b1 (m.kf kA) v0 v1 v2 s ep (by omega)).frame [devHP true v0 m.mem,waitHP true v2 (m.kf kA).wait,rowHP b1 true [.int .u64 (nx:Int)]];refine(base.pre (pre:=mpL b b1 (m.kf kA) v0 v1 v2 nx++[]) (Ent.pick [0,2,1,3,4] (by decide) rfl)).post fun r hs h=>?_
 obtain⟨hs0,rfl,rfl,rfl⟩:=h;exact⟨_,Ent.trans (Ent.pick (b:=mpL b b1 (m.kf kA) v0 v1 v2 nx++[]) [0,2,1,3,4] (by decide) rfl) (mp_shut b b1 _ v0 v1 v2 nx []),rfl,rfl⟩
theorem mp_new(b0:Nat)(s:Int×Int)(n:Nat):Meets Tryz.prog 8 [.iface 135 (.pointer (some ⟨b0,0,none⟩)),.agg #[.int .u8 s.1,.int .u8 s.2]] [rowHP b0 true [.int .u64 (n:Int)]]
  fun r hs=> ∃b,r= .pointer (some ⟨b,0,none⟩)∧hs=[MP b ((newM s).kf kA) n]:=by
 refine(new_meets b0 s n).post fun r hs h=>?_
 obtain⟨b,rfl,rfl⟩:=h;refine⟨_,?_,b,rfl,rfl⟩;have e1:=Ent.front (A:=[rowHP b0 true [.int .u64 (n:Int)],mrow b b0 (newM s) nil1 nil1 nil1]) (Ent.nilS 23 2);have e2:=Ent.front (A:=[rowHP b0 true [.int .u64 (n:Int)],mrow b b0 (newM s) nil1 nil1 nil1,sliHP true 23 2 (.slice none 0 0) 0 []]) (Ent.nilS 144 23);have e3:=Ent.front (A:=[rowHP b0 true [.int .u64 (n:Int)],mrow b b0 (newM s) nil1 nil1 nil1,sliHP true 23 2 (.slice none 0 0) 0 [],sliHP true 144 23 (.slice none 0 0) 0 []]) (Ent.nilS 51 21);exact Ent.trans e1 (Ent.trans e2 (Ent.trans e3 (Ent.trans (Ent.pick (b:=mpL b b0 ((newM s).kf kA) nil1 nil1 nil1 n++[]) [1,2,3,4,0] (by decide) rfl) (mp_shut b b0 _ nil1 nil1 nil1 n []))))
end Go.RX.Hi

namespace Go.RX.Hi
open Go Go.RX Go.Proofs Go.Gp Go.RX.Gb Go.RX.Gf Go.RX.Gl Go.RX.Gu Go.RX.Gr Go.RX.Ha Go.RX.He
theorem own_cols(l:List (Int×Int))(d:Di): ∀j (h:j<l.length),OuIs (pF l (·.1)) (pF l (·.2)) (fun t=>d.g.getD (t%16) 0) (fun _=>d.ep) (fun _=>d.sa) (fun _=>d.sd) (fun _=>d.kid) (fun _=>d.key) j d l[j]:=fun j h=>
 ⟨⟨pF_at l _ j h,pF_at l _ j h⟩,fun i hi=>by simp only [Nat.mul_add_mod_self_right];rw [Nat.mod_eq_of_lt hi],rfl,rfl,rfl,rfl,rfl⟩
theorem k0(Post:PT)(I1j6:Ext→Prop)(m:Me)(g:List Int)(ep now:Int)(nx:Nat)(mem:List (Int×Int))(n i:Nat)(A2:Nat→Int)(hA2:A2 i=ep)(hw:Wf OkK n m)(hn:n≤1000)(ho:OkK (ownD m g ep nx))(v10 v11 v12:V1)(p2:HP)(hl:(enter m g ep mem now nx).2.2.1.length≤64)(s:Int×Int)(hsf:m.sf=s)
  (hJ:I1j6 ⟨[],[v10,v11,v12],[(enter m g ep mem now nx).2.1.sf.1,(enter m g ep mem now nx).2.1.sf.2,(bI (enter m g ep mem now nx).2.1.so),(enter m g ep mem now nx).2.1.ep,((if(enter m g ep mem now nx).2.2.2 then nx+1 else nx:Nat):Int),((enter m g ep mem now nx).2.1.mem.length:Int),((enter m g ep mem now nx).2.1.held.length:Int),((enter m g ep mem now nx).2.1.wait.length:Int)],[(fun j=>(enter m g ep mem now nx).2.1.g.getD j 0),(pF (enter m g ep mem now nx).2.1.mem (·.1)),(pF (enter m g ep mem now nx).2.1.mem (·.2)),(gF ((enter m g ep mem now nx).2.1.held.map (·.d))),(fF ((enter m g ep mem now nx).2.1.held.map (·.d)) (·.ep)),(fF ((enter m g ep mem now nx).2.1.held.map (·.d)) (·.sa)),(fF ((enter m g ep mem now nx).2.1.held.map (·.d)) (·.sd)),(fF ((enter m g ep mem now nx).2.1.held.map (·.d)) (·.kid)),(fF ((enter m g ep mem now nx).2.1.held.map (·.d)) (·.key)),(hF (enter m g ep mem now nx).2.1.held fun e=>bI e.ends),(hF (enter m g ep mem now nx).2.1.held (·.til)),(gF (enter m g ep mem now nx).2.1.wait),(fF (enter m g ep mem now nx).2.1.wait (·.ep)),(fF (enter m g ep mem now nx).2.1.wait (·.sa)),(fF (enter m g ep mem now nx).2.1.wait (·.sd)),(fF (enter m g ep mem now nx).2.1.wait (·.kid)),(fF (enter m g ep mem now nx).2.1.wait (·.key))],[],[p2],[]⟩):st_k0 Post I1j6 s.1 s.2 (i:Int) (enter m g ep mem now nx).1 ((enter m g ep mem now nx).2.2.1.length:Int) (enter m g ep mem now nx).2.1.sf.1 (enter m g ep mem now nx).2.1.sf.2 (bI (enter m g ep mem now nx).2.1.so) (enter m g ep mem now nx).2.1.ep ((if(enter m g ep mem now nx).2.2.2 then nx+1 else nx:Nat):Int) ((enter m g ep mem now nx).2.1.mem.length:Int) ((enter m g ep mem now nx).2.1.held.length:Int) ((enter m g ep mem now nx).2.1.wait.length:Int) (enter m g ep mem now nx).1 ((enter m g ep mem now nx).2.2.1.length:Int) A2 (pF (enter m g ep mem now nx).2.2.1 (·.1)) (pF (enter m g ep mem now nx).2.2.1 (·.2)) (fun t=>((ownD m g ep nx).kf kA).g.getD (t%16) 0) (fun _=>((ownD m g ep nx).kf kA).ep) (fun _=>((ownD m g ep nx).kf kA).sa) (fun _=>((ownD m g ep nx).kf kA).sd) (fun _=>((ownD m g ep nx).kf kA).kid) (fun _=>((ownD m g ep nx).kf kA).key) (fun j=>(enter m g ep mem now nx).2.1.g.getD j 0) (pF (enter m g ep mem now nx).2.1.mem (·.1)) (pF (enter m g ep mem now nx).2.1.mem (·.2)) (gF ((enter m g ep mem now nx).2.1.held.map (·.d))) (fF ((enter m g ep mem now nx).2.1.held.map (·.d)) (·.ep)) (fF ((enter m g ep mem now nx).2.1.held.map (·.d)) (·.sa)) (fF ((enter m g ep mem now nx).2.1.held.map (·.d)) (·.sd)) (fF ((enter m g ep mem now nx).2.1.held.map (·.d)) (·.kid)) (fF ((enter m g ep mem now nx).2.1.held.map (·.d)) (·.key)) (hF (enter m g ep mem now nx).2.1.held fun e=>bI e.ends) (hF (enter m g ep mem now nx).2.1.held (·.til)) (gF (enter m g ep mem now nx).2.1.wait) (fF (enter m g ep mem now nx).2.1.wait (·.ep)) (fF (enter m g ep mem now nx).2.1.wait (·.sa)) (fF (enter m g ep mem now nx).2.1.wait (·.sd)) (fF (enter m g ep mem now nx).2.1.wait (·.kid)) (fF (enter m g ep mem now nx).2.1.wait (·.key)) (pF (enter m g ep mem now nx).2.2.1 (·.1)) (pF (enter m g ep mem now nx).2.2.1 (·.2)) v10 v11 v12 p2:=by
 subst hsf;obtain⟨e,he⟩: ∃e,e=(enter m g ep mem now nx):=⟨_,rfl⟩;have hw2:Wf OkK (n+1) (enter m g ep mem now nx).2.1:=enter_wf okk_pos hw g ep mem now nx ho;have hown:=enter_own okk_pos hw g ep mem now nx ho;have hois:=enter_own_is hw g ep mem now nx;rw [←he]at hw2 hown hois hJ hl ⊢;have hlen:=hw2.len;unfold st_k0;refine⟨.inr (by omega),fun _=>⟨.inr (by omega),fun _=>⟨fun h=>absurd h (by simp),fun _=>⟨by omega,fun _=>?_⟩⟩⟩⟩;refine⟨fun x=> ∃j:Nat,x=⟨[],[],[(j:Int)],[],[],[],[]⟩∧j≤e.2.2.1.length,fun x=>e.2.2.1.length - (x.i.getD 0 0).toNat,⟨0,rfl,0,rfl,Nat.zero_le _⟩,?_⟩;rintro x28 ⟨j,hj,hjl⟩;cases hj;refine⟨fun hlt=>⟨by omega,fun _ _=>?_⟩,fun hge=>?_⟩
 ·have hjl2:j<e.2.2.1.length:=by omega
  have hne:e.2.2.1≠[]:=List.ne_nil_of_length_pos (by omega);rw [rK_held,Int.toNat_natCast,hA2,bI_eq];refine⟨_,rfind_meets e.2.1 v10 v11 v12 _ m.sf ep (by omega),fun x hs hq=>?_⟩;obtain⟨rfl,rfl⟩:=hq;have hf:0≤findR e.2.1.held m.sf ep:=by
   refine Classical.not_not.1 fun h=>?_
   obtain⟨_,h2⟩:=findR_none h;obtain⟨x,hx,h3⟩:=hois hne;rw [List.find?_eq_none]at h2;exact h2 x hx (decide_eq_true h3)
  obtain⟨k,hk,hfk,hk1,hk2,_⟩:=findR_some hf;have hkd:=hown hne _ (List.getElem_mem hk) ⟨hk1,hk2⟩;refine⟨_,rfl,rfl,?_⟩;rw [hfk]
  iterate 18 refine⟨.inr (by omega),fun _=>?_⟩
  rw [Int.toNat_natCast k,Int.toNat_natCast j,show((k:Int)*16).toNat=k*16 by omega,show((j:Int)*16).toNat=j*16 by omega];refine⟨fun _=>?_,fun h=>absurd (fun h'=>h'.elim (fun h=>by omega) fun h=>h ⟨rfl,rfl⟩) h⟩;rw [rdV_held _ _ hk];have hkk:=(hw2.held _ (List.getElem_mem hk)).2.2;refine⟨_,real_meets e.2.1.held[k].d hkk.1,fun x hs hq=>?_⟩;obtain⟨rfl,rfl⟩:=hq;rw [hkd];refine⟨(ownD m g ep nx).ep,(ownD m g ep nx).sa,(ownD m g ep nx).sd,(ownD m g ep nx).kid,kA (ownD m g ep nx).key,fun t=>(ownD m g ep nx).g.getD t 0,(dV_eq ((ownD m g ep nx).kf kA)).symm,rfl,fun h=>absurd ⟨fun t ht=>?_,rfl,rfl,rfl,rfl,rfl⟩ h,fun _=>⟨by omega,fun _=>⟨by omega,fun _=>⟨_,rfl,⟨j+1,rfl,by omega⟩,?_⟩⟩⟩⟩
  ·simp only [shiftF];rw [show(j*16+t)%16=t by omega];rfl
  ·simp only [List.getD_cons_zero];omega
 ·exact⟨_,_,_,_,_,(bI e.2.1.so),_,_,_,_,_,_,_,_,_,_,_,_,_,_,_,_,_,_,_,_,_,_,_,rfl,rfl,(by first | rfl | exact bI_eq _),fun _ _=>rfl,rfl,rfl,rfl,rfl,rfl,rfl,rfl,rfl,fun _ _=>rfl,fun _ _=>rfl,rfl,rfl,fun _ _=>rfl,fun _ _=>rfl,fun _ _=>rfl,fun _ _=>rfl,fun _ _=>rfl,fun _ _=>rfl,fun _ _=>rfl,fun _ _=>rfl,rfl,rfl,fun _ _=>rfl,fun _ _=>rfl,fun _ _=>rfl,fun _ _=>rfl,fun _ _=>rfl,fun _ _=>rfl,hJ⟩
theorem enter_same(m:Me)(g:List Int)(ep:Int)(mem:List (Int×Int))(now key:Int)(hgm:m.so=true→m.g.length=16)(hg:g.length=16):
  (enter m g ep mem now key).2.1.sf=m.sf∧((enter m g ep mem now key).2.1.so=true→(enter m g ep mem now key).2.1.g.length=16)∧(enter m g ep mem now key).2.2.1.length≤mem.length:=by
 unfold enter;by_cases g1:mayR ep mem=false∨m.so=true∧g≠m.g
 ·rw [if_pos g1];exact⟨rfl,hgm,Nat.zero_le _⟩
 rw [if_neg g1];by_cases g2:m.so=true∧ep≤m.ep
 ·rw [if_pos g2];exact⟨rfl,hgm,Nat.zero_le _⟩
 rw [if_neg g2];by_cases g3:m.sf ∉ mem
 ·rw [if_pos g3];exact⟨rfl,fun _=>hg,Nat.zero_le _⟩
 rw [if_neg g3];obtain⟨h1,_,h3,_⟩:=retakes_same g ep m.wait (into m g ep mem now key);exact⟨h1,fun _=>by rw [h3];exact hg,List.length_filter_le _ _⟩
structure Inv (s:Int×Int) (i:Nat) (m:Me) (nx:Nat):Prop where
 wf:Wf OkK i m
 sm:Sm m
 g:m.so=true→m.g.length=16
 sf:m.sf=s
 nx:nx≤4294967296+i
theorem inv_new(s:Int×Int)(hs:0≤s.1∧0≤s.2):Inv s 0 (newM s) 4294967296:=
 ⟨⟨List.Pairwise.nil,fun _ h=>(by cases h),fun _=>rfl,fun _ h=>(by cases h),Nat.le_refl _,Nat.zero_le _,Nat.zero_le _,hs⟩,⟨fun h=>(by cases h),fun _ h=>(by cases h),fun h=>absurd rfl h⟩,fun h=>(by cases h),rfl,Nat.le_refl _⟩
theorem inv_enter{s:Int×Int}{i:Nat}{m:Me}{nx:Nat}(h:Inv s i m nx)(g:List Int)(ep:Int)(mem:List (Int×Int))(now:Int)(hg:g.length=16)(ho:OkK (ownD m g ep nx)):
  Inv s (i+1) (enter m g ep mem now nx).2.1 (if(enter m g ep mem now nx).2.2.2 then nx+1 else nx):=by
 obtain⟨h1,h2,_⟩:=enter_same m g ep mem now nx h.g hg;have h3:=h.nx;exact⟨enter_wf okk_pos h.wf g ep mem now nx ho,sm_enter h.sm g ep mem now nx,h2,h1.trans h.sf,by split<;>omega⟩
theorem inv_took{s:Int×Int}{i:Nat}{m:Me}{nx:Nat}(h:Inv s i m nx){d:Di}(hd:OkK d):Inv s (i+1) (took m d) nx:=
 ⟨took_wf h.wf hd,sm_take h.sm d,h.g,h.sf,by have:=h.nx;omega⟩
theorem inv_tick{s:Int×Int}{i:Nat}{m:Me}{nx:Nat}(h:Inv s i m nx)(now:Int):Inv s (i+1) {m with held:=tick m.held now} nx:=
 ⟨wf_mono (fun _ h=>h) (Nat.le_succ i) (tick_wf h.wf now),sm_tick h.sm now,h.g,h.sf,by have:=h.nx;omega⟩
theorem inv_same{s:Int×Int}{i:Nat}{m:Me}{nx:Nat}(h:Inv s i m nx):Inv s (i+1) m nx:=
 ⟨wf_mono (fun _ h=>h) (Nat.le_succ i) h.wf,h.sm,h.g,h.sf,by have:=h.nx;omega⟩
def tkm(m:Me)(now:Int):Me:={m with held:=tick m.held now}
def dxOf(A0 A1 A2 A3 A4 A5 A6 A7 A8 A9 A10 A11 A12 A13 A14 A15:Nat→Int)(j:Nat):Dx:=
 ⟨A0 j,A1 j,A2 j,(List.range 16).map fun t=>A3 (j*16+t),A4 j,⟨(List.range 16).map fun t=>A5 (j*16+t),A6 j,A7 j,A8 j,A9 j,A10 j⟩,(A11 j,A12 j),A13 j,A14 j,A15 j⟩
theorem seg_at(A:Nat→Int)(j:Nat):segCells .u8 16 (shiftF A (j*16))=segCells .u8 16 (fun t=>((List.range 16).map fun t=>A (j*16+t)).getD t 0):=
 segCells_congr .u8 16 fun t ht=>by simp [shiftF,List.getD_eq_getElem?_getD,ht]
end Go.RX.Hi

namespace Go.RX.Ja
open Go Go.RX Go.Proofs Go.Gp Go.RX.Gb Go.RX.Gf Go.RX.Gl Go.RX.Gu Go.RX.Gr Go.RX.Ha Go.RX.He Go.RX.Hi Go.RX.Ia
theorem enc_hashB(c:UInt8)(ps:List (List UInt8))(h: ∀p∈ps,Enc p)(hn:ps.length<256):Enc (hashB c ps):=by
 have:hashB c ps=3::((beB c.toNat++[UInt8.ofNat ps.length])++ps.flatten):=by
  unfold hashB bldB;rw [if_neg fun h0=>absurd (enc_pos (h _ h0)) (by decide)]
 rw [this];exact Enc.hash (beB c.toNat) rfl ps hn h
theorem enc_symB(c:UInt8)(ps:List (List UInt8))(h: ∀p∈ps,Enc p)(hn:ps.length<255):Enc (symB c ps):=by
 refine enc_hashB c _ (fun p hp=>?_) (by simp;omega);rcases List.mem_cons.1 hp with rfl | hp
 ·exact enc_hashB 1 [] (fun _ h=>by cases h) (by decide)
 ·exact h p hp
theorem enc_stepB{k:List UInt8}(h:Enc k): ∀n,Enc (stepB k n)
 | 0=>h
 | n+1=>enc_symB 10 _ (fun p hp=>by rw [List.mem_singleton.1 hp];exact enc_stepB h n) (by simp)
theorem enc_numB(n:Nat):Enc (numB n):=enc_hashB 0 _ (fun p hp=>by
 obtain⟨c,_,rfl⟩:=List.mem_map.1 hp;exact enc_hashB c [] (fun _ h=>by cases h) (by decide)) (by rw [List.length_map];show 8<256;omega)
theorem enc_atomB(n:Nat):Enc (atomB n):=Enc.atom (beB n) rfl
theorem enc_lock{k:List UInt8}(h:Enc k)(g n:Nat):Enc (symB 11 [stepB k g,numB n]):=
 enc_symB 11 _ (fun p hp=>by
  simp only [List.mem_cons,List.not_mem_nil,or_false]at hp;rcases hp with rfl | rfl
  ·exact enc_stepB h g
  ·exact enc_numB n) (by simp)
theorem Ent.rowDev(b:Nat)(l:List (Int×Int))(hl:l.length≤1000000):Ent [rowHP b true (l.flatMap dvC)] [devHP true ⟨.slice (some ⟨b,0,none⟩) l.length l.length,rfl⟩ l]:=by
 have hlen:(l.flatMap dvC).length=l.length*2:=by
  induction l with
  | nil=>rfl
  | cons a r ih=>
   have:=ih (by simp only [List.length_cons]at hl;omega);simp only [List.flatMap_cons,List.length_append,List.length_cons,this,dvC,List.length_nil];omega
 refine Ent.put 0 _ _ rfl (fun _=>rfl) fun w S hp=>⟨S,fun _ h=>h,?_⟩
 obtain⟨hS,ty,fz,hb,hf⟩:=hp;have:=hf rfl;subst this;unfold devHP sliHP;simp only [if_true];have hown:w.ownsAt 23 2 (.slice (some ⟨b,0,none⟩) l.length l.length) l.length (l.flatMap dvC):=by
  refine⟨by omega,.inr ⟨b,0,l.length,_,rfl,⟨ty,_,hb,.zero (.inr fun u hu=>?_)⟩,Nat.le_refl _,by unfold maxLen;omega,fun _=>by simp [hlen],by rw [List.drop_zero,List.take_of_length_le (by simp [hlen])]⟩⟩;obtain⟨p,_,hp⟩:=List.mem_flatMap.1 hu;simp only [dvC,List.mem_cons,List.not_mem_nil,or_false]at hp;rcases hp with rfl | rfl<;>rfl
 refine⟨hown,fun k=>?_⟩;rw [hS k];exact⟨fun h=>⟨by simp only [Value.ownBlock,h],.inl trivial⟩,fun h=>by have h:=h.1;simp only [Value.ownBlock,Option.some.injEq]at h;exact h.symm⟩
def g1:List Int:=1::List.replicate 15 0
def mem2:List (Int×Int):=[(0,0),(0,1)]
theorem two_known:Meets Tryz.prog 38 [] [] fun r hs=> ∃(b0 b1:Nat) (u:V1),r= .tuple #[.pointer (some ⟨b0,0,none⟩),.pointer (some ⟨b1,0,none⟩),rosV g1 2 u.v]∧hs=[MP b0 ((newM (0,0)).kf kA) 4294967296,MP b1 ((newM (0,1)).kf kA) 8589934592,devHP true u mem2]:=by
 refine(mt_twoM (fun r hs=> ∃(b0 b1:Nat) (u:V1),r= .tuple #[.pointer (some ⟨b0,0,none⟩),.pointer (some ⟨b1,0,none⟩),rosV g1 2 u.v]∧∃hs',Ent hs hs'∧hs'=[MP b0 ((newM (0,0)).kf kA) 4294967296,MP b1 ((newM (0,1)).kf kA) 8589934592,devHP true u mem2]) ?_).post fun r hs ⟨c0,c1,u,h1,hs',h2,h3⟩=>⟨hs',h2,c0,c1,u,h1,h3⟩
 unfold st_twoM;intro b0 b1 b2 b3;refine⟨_,sym_meets 4294967296,fun x hs hq=>?_⟩;obtain⟨b4,rfl,rfl⟩:=hq;refine⟨b4,4294967296,rfl,rfl,?_⟩;intro b5;refine⟨_,mp_new b4 (0,0) 4294967296,fun x hs hq=>?_⟩;obtain⟨b6,rfl,rfl⟩:=hq;refine⟨b6,_,rfl,rfl,?_⟩;refine⟨_,sym_meets 8589934592,fun x hs hq=>?_⟩;obtain⟨b7,rfl,rfl⟩:=hq;refine⟨b7,8589934592,rfl,rfl,?_⟩;intro b8;refine⟨_,mp_new b7 (0,1) 8589934592,fun x hs hq=>?_⟩;obtain⟨b9,rfl,rfl⟩:=hq;refine⟨b9,_,rfl,rfl,?_⟩;refine⟨b6,b9,⟨.slice (some ⟨b3,0,none⟩) 2 2,rfl⟩,rfl,_,?_,rfl⟩;refine Ent.trans (Ent.pick (b:=[rowHP b3 true (mem2.flatMap dvC),MP b6 ((newM (0,0)).kf kA) 4294967296,MP b9 ((newM (0,1)).kf kA) 8589934592]) [3,4,6] (by decide) rfl) ?_;refine Ent.trans (Ent.frame (Ent.rowDev b3 mem2 (by decide)) [MP b6 ((newM (0,0)).kf kA) 4294967296,MP b9 ((newM (0,1)).kf kA) 8589934592]) ?_;exact Ent.pick [1,2,0] (by decide) rfl
theorem mp_own(b:Nat)(m:Me)(nx:Nat)(n:Nat)(hw:Wf OkK n m)(hn:n≤1000):
  Meets Tryz.prog 14 [.pointer (some ⟨b,0,none⟩)] [MP b (m.kf kA) nx] fun r hs=>r= .tuple #[.agg (diC ((ownOf (m.kf kA)).getD zDi)).toArray,.bool (ownOf (m.kf kA)).isSome]∧hs=[MP b (m.kf kA) nx]:=by
 refine mp_open (R:=[]) fun b1 v0 v1 v2=>?_
 have hl:(m.kf kA).held.length=m.held.length:=List.length_map _;have hlen:=hw.len;have hw2:=wf_kf (f:=kA) (Q:=fun _=>True) (fun _ _=>trivial) hw;have base:=(own_meets b b1 (m.kf kA) v0 v1 v2 (by omega) hw2.rise).frame [devHP true v0 m.mem,waitHP true v2 (m.kf kA).wait,rowHP b1 true [.int .u64 (nx:Int)]];refine(base.pre (pre:=mpL b b1 (m.kf kA) v0 v1 v2 nx++[]) (Ent.pick [0,2,1,3,4] (by decide) rfl)).post fun r hs h=>?_
 obtain⟨hs0,rfl,rfl,rfl⟩:=h;exact⟨_,Ent.trans (Ent.pick (b:=mpL b b1 (m.kf kA) v0 v1 v2 nx++[]) [0,2,1,3,4] (by decide) rfl) (mp_shut b b1 _ v0 v1 v2 nx []),rfl,rfl⟩
theorem key_len{m:Me}{n:Nat}(hw:Wf OkK n m){d:Di}(h:ownOf (m.kf kA)=some d):(sDec d.key).length≤1000000:=by
 rw [ownOf_kf]at h;obtain⟨d0,_,rfl⟩:=Option.map_eq_some_iff.1 h;show(sDec (kA d0.key)).length≤_;rw [kA,keyC,sDec_code];show 9≤1000000;omega
theorem mp_frame(b:Nat)(m:Me)(nx:Nat)(g k:Nat)(x:List UInt8)(n:Nat)(hw:Wf OkK n m)(hn:n≤1000)(hx:x.length≤1000000):
  Meets Tryz.prog 17 [.pointer (some ⟨b,0,none⟩),.int .u64 (g:Int),.int .u64 (k:Int),tv x] [MP b (m.kf kA) nx] fun r hs=>r= .tuple #[tv (frameV (ownOf (m.kf kA)) g k x).1,.int .i64 (frameV (ownOf (m.kf kA)) g k x).2]∧hs=[MP b (m.kf kA) nx]:=by
 refine mp_open (R:=[]) fun b1 v0 v1 v2=>?_
 have hl:(m.kf kA).held.length=m.held.length:=List.length_map _;have hlen:=hw.len;have hw2:=wf_kf (f:=kA) (Q:=fun _=>True) (fun _ _=>trivial) hw;have base:=(frame_meets b b1 (m.kf kA) v0 v1 v2 g k x (by omega) hw2.rise (fun d h=>key_len hw h) hx).frame [devHP true v0 m.mem,waitHP true v2 (m.kf kA).wait,rowHP b1 true [.int .u64 (nx:Int)]];refine(base.pre (pre:=mpL b b1 (m.kf kA) v0 v1 v2 nx++[]) (Ent.pick [0,2,1,3,4] (by decide) rfl)).post fun r hs h=>?_
 obtain⟨hs0,rfl,rfl,rfl⟩:=h;exact⟨_,Ent.trans (Ent.pick (b:=mpL b b1 (m.kf kA) v0 v1 v2 nx++[]) [0,2,1,3,4] (by decide) rfl) (mp_shut b b1 _ v0 v1 v2 nx []),rfl,rfl⟩
theorem mp_unframe(b:Nat)(m:Me)(nx:Nat)(s:Int×Int)(ep:Int)(g k:Nat)(k' x:List UInt8)(n:Nat)(hw:Wf OkK n m)(hn:n≤1000)(hk:(sDec (keyAns zC (m.kf kA) s ep).1).length≤1000000)(hk':Enc k')(hx:Enc x)(hlx:k'.length+x.length≤100000000):
  Meets Tryz.prog 20 [.pointer (some ⟨b,0,none⟩),.agg #[.int .u8 s.1,.int .u8 s.2],.int .u64 ep,.int .u64 (g:Int),.int .u64 (k:Int),tv (bldB 4 [] [k',x])] [MP b (m.kf kA) nx]
   fun r hs=>r= .tuple #[tv (unframeV (keyAns zC (m.kf kA) s ep) g k k' x).1,.int .i64 (unframeV (keyAns zC (m.kf kA) s ep) g k k' x).2]∧hs=[MP b (m.kf kA) nx]:=by
 refine mp_open (R:=[]) fun b1 v0 v1 v2=>?_
 have hl:(m.kf kA).held.length=m.held.length:=List.length_map _;have hlen:=hw.len;have base:=(unframe_meets b b1 (m.kf kA) v0 v1 v2 s ep g k k' x (by omega) hk hk' hx hlx).frame [devHP true v0 m.mem,waitHP true v2 (m.kf kA).wait,rowHP b1 true [.int .u64 (nx:Int)]];refine(base.pre (pre:=mpL b b1 (m.kf kA) v0 v1 v2 nx++[]) (Ent.pick [0,2,1,3,4] (by decide) rfl)).post fun r hs h=>?_
 obtain⟨hs0,rfl,rfl,rfl⟩:=h;exact⟨_,Ent.trans (Ent.pick (b:=mpL b b1 (m.kf kA) v0 v1 v2 nx++[]) [0,2,1,3,4] (by decide) rfl) (mp_shut b b1 _ v0 v1 v2 nx []),rfl,rfl⟩
end Go.RX.Ja
