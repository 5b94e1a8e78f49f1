/- The law hailerlaw33.StoreTakes holds: whatever the bytes are, the call returns true and writes nothing that was there. Conditions: none. -/
import Derived.Test.YtllcdnkfbeokhaaGreatRows
import Derived.Test.YtllcdnkfbeokhaaGreatM48
open Go.Proofs.Tryz renaming prog → aqQ
open List renaming all_eq_true → aqn, mem_singleton → aqx
namespace Go.Proofs.YtllcdnkfbeokhaaGreat.storeTakes
open Go.ChangeShapes Go.WideShapes Go.ChangeAt Go.RowKit
theorem own:ownKnob Tryz.prog.godebug=none:=by kernel_rfl
theorem laidOut:laidOutB aqQ=true:=by kernel_rfl
theorem walk(a:Option Addr)(len cap:Nat)(z:List Int)(w:World)(hr:RX.sj .u8 w a len cap z)(hn:len≤140737488355328):
  Calls aqQ 5 #[.slice a len cap] w fun e w'=>e= .returned (.bool true)∧Below w.heap.size w w':=by
 have law:=RX.Vb.Fu ⟨.slice a len cap,rfl⟩ (RX.Vb.jU len z) ⟨RX.Vb.S_ hr,by rw [RX.Vb.qR hr];exact hn⟩;refine law.law w (RX.Vb.HH ?_);intro x hx;rw [aqx.1 hx];exact⟨rfl,RX.Vb.HI hr⟩
set_option maxRecDepth 100000 in
theorem lifted(os:Os)(started:os.Started)(H:Type)(enc:TypeId×Value→H):
  ReturnsInHanded {} Tryz.checked os 5 .any (Rows.storeTakesSpec.pre6 enc aqQ Tryz.f5 Rows.storeTakesRow.domain false) (Rows.storeTakesSpec.post enc aqQ Tryz.f5 false true false false):=by
 refine returnsInHanded_of_change_sized (C:=Tryz.checked) own started (by kernel_rfl) Tryz.func5
  (ChangeSpec.witness6 (enc:=enc) (C:=Tryz.checked) false ⟨#[],#[.slice none 0 0],[]⟩ 8 (by kernel_rfl) (by kernel_rfl) (by kernel_rfl) (by kernel_rfl)) ?_
 intro W base args ds gs before UB hW aou fy _;have pY: ∀(j:Nat) t v,Tryz.f5.params[j]? =some t→args[j]? =some v→Value.okWide aqQ W .any base t v:=UB;have Rm:=hW;obtain⟨p,q,uy,hV,rfl,hfz,gV⟩:=hW;have hA:DataW.TrodAll enc aqQ W 0 (fun _=>true) true Tryz.f5.params.toList args.toList ds p:=uy;have ab8:(DataW.weightsEach aqQ (Tryz.f5.params.toList++Rows.storeTakesSpec.plain.varTypes aqQ) (ds++gs)).all (· ≤reachBytes)=true:=fy;rw [Tryz.params5]at hA pY ab8;obtain⟨v0,vs0,d0,ds0,p0,q0,kB,rfl,rfl,h0,r0⟩:=trodAll_cons hA;obtain⟨rfl,rfl,rfl⟩:=trodAll_nil r0;obtain rfl:args= #[v0]:=by cases args;simp_all
 obtain⟨rfl,rfl⟩:=trodVars_none hV;have k0:=h0;have big: ∀(j:Nat) t d,([37]:List TypeId)[j]? =some t→[d0][j]? =some d→∀q∈d.weights aqQ t,q≤reachBytes:=by
  intro j t d ht hd q hq;have hm:=DataW.weights_mem_each (P:=aqQ) (ts:=[37]) ht hd q hq;have Zs:=aqn.1 ab8 q hm;simpa using Zs
 obtain⟨b0,l0,c0,rfl⟩:=okWide_slice Tryz.underlying37 (pY 0 37 v0 rfl rfl);obtain⟨z0,w0,n0⟩: ∃zs,RX.sj .u8 W b0 l0 c0 zs∧l0≤140737488355328:=by
  obtain⟨fuel,hf⟩:=h0;obtain⟨_,_,_,zs,e,hr,hn⟩:=RX.Vb.Fv hf (big 0 37 d0 rfl rfl);simp [Value.cells]at e;obtain⟨rfl,rfl,rfl⟩:=e;exact⟨zs,hr,hn⟩
 have lt: ∀{t v d p},DataW.Trod enc aqQ W 0 (fun _=>true) true t v d p→∀x∈p,x.block<W.heap.size:=fun k=>by obtain⟨m,hm⟩:=k;exact DataW.trod_lt m _ _ _ hm
 clear uy UB;refine(walk b0 l0 c0 z0 W w0 n0).mono fun e W' ⟨he,bel⟩=>?_
 subst he;exact⟨_,rfl,_,_,_,[],_,[],Rm,trodAll_mk1 (shut_bool Tryz.underlying4 _),(trodAll_cons_mk (Below.trod laidOut (by kernel_rfl) (of_decide_eq_true (by kernel_rfl)) k0 bel (lt k0)) trodAll_mk0),rfl,bel.frame _,fun h=>by cases h⟩
theorem over:Rows.storeTakesRow.holds Tryz.pinned (OpenSpec.ofChange Rows.storeTakesSpec):=
 OpenClaim.holds_of_wide 5 Tryz.f5 rfl rfl rfl rfl rfl rfl rfl ⟨rfl,rfl,rfl,rfl,rfl⟩ rfl rfl rfl rfl rfl (by kernel_rfl) Tryz.func5 (by kernel_rfl)
  (of_decide_eq_true (by kernel_rfl)) (by unfold Func.isWrapper;first | (rw [if_pos (by decide+kernel)];kernel_rfl) | (rw [if_neg (by decide+kernel)];exact⟨rfl,rfl⟩))
  (fun os started H enc _=>lifted os started H enc)
theorem proved:Rows.StoreTakesSaid:=over
#print axioms proved
end Go.Proofs.YtllcdnkfbeokhaaGreat.storeTakes
