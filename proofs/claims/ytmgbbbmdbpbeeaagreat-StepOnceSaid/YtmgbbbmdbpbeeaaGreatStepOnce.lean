/- The law hailerlaw16.StepOnce holds: whatever the suite, the base key, the bits, the script and the turns are, the call returns true and writes nothing that was there. Conditions: none. -/
import Derived.Test.YtmgbbbmdbpbeeaaGreatRows
import Derived.Test.YtmgbbbmdbpbeeaaGreatM36
open Go.Proofs.Tryz renaming prog → aiT
open List renaming all_eq_true → aiM, mem_cons → ai0, not_mem_nil → aiZ
namespace Go.Proofs.YtmgbbbmdbpbeeaaGreat.stepOnce
open Go.ChangeShapes Go.WideShapes Go.ChangeAt Go.RowKit
theorem own:ownKnob Tryz.prog.godebug=none:=by kernel_rfl
theorem laidOut:laidOutB aiT=true:=by kernel_rfl
theorem walk(s:Nat)(bits:Int)(a1:Option Addr)(S5 Wv:Nat)(z1:List Int)(a3:Option Addr)(Ww:Nat)(D:RX.Fy.Dz)(a4:Option Addr)(Fo Wx:Nat)(z4:List Int)(w:World)
  (w1:RX.oX .u8 w a1 S5 Wv z1) (w3:RX.Fy.SZ w a3 Ww D) (hD:RX.Fy.Mg (RX.lI w.heap.size w) D) (w4:RX.oX .u16 w a4 Fo Wx z4) (h4:Fo≤140737488355328):
  Calls aiT 5 #[.int .u16 (s:Int),.slice a1 S5 Wv,.int .i64 bits,.slice a3 D.n Ww,.slice a4 Fo Wx] w fun e w'=>e= .returned (.bool true)∧Below w.heap.size w w':=by
 have law:=RX.Fy.Mh s S5 bits (fun j=>(((z1.getD j 0).toNat:Nat):Int)) ⟨.slice a1 S5 Wv,rfl⟩ ⟨.slice a3 D.n Ww,rfl⟩ ⟨.slice a4 Fo Wx,rfl⟩ D Fo (fun j=>z4.getD j 0) hD h4 (fun j _=>by
  have:=RX.Fy.Iu w4 (by decide) j;rw [show IntKind.u16.max=65535 by decide]at this;omega)
 refine law.law w (RX.Fy.Is ?_);intro x hx;simp only [ai0,aiZ,or_false]at hx;rcases hx with rfl | rfl | rfl | rfl
 ·exact⟨rfl,fun k=>k<w.heap.size,⟨fun _=>Iff.rfl,fun _ _=>rfl⟩,fun _ h=>h⟩
 ·exact⟨rfl,RX.Fy.J4 w1⟩
 ·exact⟨rfl,RX.Fy.ac7 w3⟩
 ·exact⟨rfl,_,RX.uV w4 3⟩
set_option maxRecDepth 100000 in
theorem lifted(os:Os)(started:os.Started)(H:Type)(enc:TypeId×Value→H):
  ReturnsInHanded {} Tryz.checked os 5 .any (Rows.stepOnceSpec.pre6 enc aiT Tryz.f5 Rows.stepOnceRow.domain false) (Rows.stepOnceSpec.post enc aiT Tryz.f5 false true false false):=by
 refine returnsInHanded_of_change_sized (C:=Tryz.checked) own started (by kernel_rfl) Tryz.func5
  (ChangeSpec.witness6 (enc:=enc) (C:=Tryz.checked) false ⟨#[],#[.int .u16 0,.slice none 0 0,.int .i64 0,.slice none 0 0,.slice none 0 0],[]⟩ 8 (by kernel_rfl) (by kernel_rfl) (by kernel_rfl) (by kernel_rfl)) ?_
 intro W base args ds gs before Ue hW aia eS _;have ml: ∀(j:Nat) t v,Tryz.f5.params[j]? =some t→args[j]? =some v→Value.okWide aiT W .any base t v:=Ue;have Q1:=hW;obtain⟨p,q,wi,hV,rfl,hfz,gu⟩:=hW;have hA:DataW.TrodAll enc aiT W 0 (fun _=>true) true Tryz.f5.params.toList args.toList ds p:=wi;have ZV:(DataW.weightsEach aiT (Tryz.f5.params.toList++Rows.stepOnceSpec.plain.varTypes aiT) (ds++gs)).all (· ≤reachBytes)=true:=eS;rw [Tryz.params5]at hA ml ZV;obtain⟨v0,vs0,d0,ds0,p0,q0,jN,rfl,rfl,h0,r0⟩:=trodAll_cons hA;obtain⟨v1,vs1,d1,ds1,p1,q1,rfl,rfl,rfl,h1,r1⟩:=trodAll_cons r0;obtain⟨v2,vs2,d2,ds2,p2,q2,rfl,rfl,rfl,h2,r2⟩:=trodAll_cons r1;obtain⟨v3,vs3,d3,ds3,p3,q3,rfl,rfl,rfl,h3,r3⟩:=trodAll_cons r2;obtain⟨v4,vs4,d4,ds4,p4,q4,rfl,rfl,rfl,h4,r4⟩:=trodAll_cons r3;obtain⟨rfl,rfl,rfl⟩:=trodAll_nil r4;obtain rfl:args= #[v0,v1,v2,v3,v4]:=by cases args;simp_all
 obtain⟨rfl,rfl⟩:=trodVars_none hV;have k1:=h1;have k3:=h3;have k4:=h4;have big: ∀(j:Nat) t d,([22,24,3,38,67]:List TypeId)[j]? =some t→[d0,d1,d2,d3,d4][j]? =some d→∀q∈d.weights aiT t,q≤reachBytes:=by
  intro j t d ht hd q hq;have hm:=DataW.weights_mem_each (P:=aiT) (ts:=[22,24,3,38,67]) ht hd q hq;have Xz:=aiM.1 ZV q hm;simpa using Xz
 obtain⟨s,rfl,rfl,rfl,ws⟩:=open_int Tryz.underlying22 (ml 0 22 v0 rfl rfl) h0;obtain⟨b1,l1,c1,rfl⟩:=okWide_slice Tryz.underlying24 (ml 1 24 v1 rfl rfl);obtain⟨bits,rfl,rfl,rfl,wb⟩:=open_int Tryz.underlying3 (ml 2 3 v2 rfl rfl) h2;obtain⟨b3,l3,c3,rfl⟩:=okWide_slice Tryz.underlying38 (ml 3 38 v3 rfl rfl);obtain⟨b4,l4,c4,rfl⟩:=okWide_slice Tryz.underlying67 (ml 4 67 v4 rfl rfl);obtain⟨z1,w1⟩: ∃zs,RX.oX .u8 W b1 l1 c1 zs:=by
  obtain⟨fuel,hf⟩:=h1;obtain⟨_,_,_,zs,e,hr,_⟩:=RX.Fy.qs hf (big 1 24 d1 rfl rfl);simp [Value.cells]at e;obtain⟨rfl,rfl,rfl⟩:=e;exact⟨zs,hr⟩
 obtain⟨D,hl3,w3,hD⟩: ∃D:RX.Fy.Dz,l3=D.n∧RX.Fy.SZ W b3 c3 D∧RX.Fy.Mg (RX.lI W.heap.size W) D:=by
  obtain⟨fuel,hf⟩:=h3;obtain⟨_,_,D,e,hr,hk⟩:=RX.Fy.S3 hf (big 3 38 d3 rfl rfl);simp [Value.cells]at e;obtain⟨rfl,rfl,rfl⟩:=e;exact⟨D,rfl,hr,hk⟩
 subst hl3;obtain⟨z4,w4,n4⟩: ∃zs,RX.oX .u16 W b4 l4 c4 zs∧l4≤140737488355328:=by
  obtain⟨fuel,hf⟩:=h4;rcases open_ints Tryz.underlying67 Tryz.underlying22 (by kernel_rfl) hf with⟨e,_⟩ | ⟨x,l,c,zs,e,_,hl,hm,Ks,hx,kv,hwz⟩
  ·simp [Value.cells]at e;obtain⟨rfl,rfl,rfl⟩:=e;exact⟨[],.inl ⟨rfl,rfl,rfl,rfl⟩,by omega⟩
  ·simp [Value.cells]at e;obtain⟨rfl,rfl,rfl⟩:=e;simp only [if_true]at Ks;refine⟨zs,.inr ⟨x,rfl,hl,hm,Ks,kv,hwz⟩,?_⟩;have AU:Tryz.prog.bytesOf 22=2:=by kernel_rfl
   have hxd:=congrArg Prod.fst hx;simp only at hxd;have:=big 4 67 d4 rfl rfl (((zs.take l4).length+(zs.drop l4).length)*2) (by rw [hxd];simp [DataW.weights,Tryz.underlying67,AU,lits]);have hr:=reachBytes_lt;simp only [List.length_take,List.length_drop]at this;omega
 have hs:0≤s:=by
  simp [Lit.wf,IntKind.min,IntKind.max,IntKind.signed,IntKind.bits]at ws;omega
 obtain⟨sn,rfl⟩: ∃n:Nat,s=(n:Int):=⟨s.toNat,by omega⟩;have lt: ∀{t v d p},DataW.Trod enc aiT W 0 (fun _=>true) true t v d p→∀x∈p,x.block<W.heap.size:=fun k=>by obtain⟨m,hm⟩:=k;exact DataW.trod_lt m _ _ _ hm
 clear wi Ue;refine(walk sn bits b1 l1 c1 z1 b3 c3 D b4 l4 c4 z4 W w1 w3 hD w4 n4).mono fun e W' ⟨he,bel⟩=>?_
 subst he;exact⟨_,rfl,_,_,_,[],_,[],Q1,trodAll_mk1 (shut_bool Tryz.underlying4 _),(trodAll_cons_mk (shut_int Tryz.underlying22 ws) (trodAll_cons_mk (Below.trod laidOut (by kernel_rfl) (of_decide_eq_true (by kernel_rfl)) k1 bel (lt k1)) (trodAll_cons_mk (shut_int Tryz.underlying3 wb) (trodAll_cons_mk (Below.trod laidOut (by kernel_rfl) (of_decide_eq_true (by kernel_rfl)) k3 bel (lt k3)) (trodAll_cons_mk (Below.trod laidOut (by kernel_rfl) (of_decide_eq_true (by kernel_rfl)) k4 bel (lt k4)) trodAll_mk0))))),rfl,bel.frame _,fun h=>by cases h⟩
theorem adn:Rows.stepOnceRow.holds Tryz.pinned (OpenSpec.ofChange Rows.stepOnceSpec):=
 OpenClaim.holds_of_wide 5 Tryz.f5 rfl rfl rfl rfl rfl rfl rfl ⟨rfl,rfl,rfl,rfl,rfl⟩ rfl rfl rfl rfl rfl (by kernel_rfl) Tryz.func5 (by kernel_rfl)
  (of_decide_eq_true (by kernel_rfl)) (by unfold Func.isWrapper;first | (rw [if_pos (by decide+kernel)];kernel_rfl) | (rw [if_neg (by decide+kernel)];exact⟨rfl,rfl⟩))
  (fun os started H enc _=>lifted os started H enc)
theorem proved:Rows.StepOnceSaid:=adn
#print axioms proved
end Go.Proofs.YtmgbbbmdbpbeeaaGreat.stepOnce
