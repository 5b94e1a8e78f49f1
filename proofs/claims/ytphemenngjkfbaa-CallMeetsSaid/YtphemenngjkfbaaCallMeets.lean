/- The law hailerlaw27.CallMeets holds: whatever four devices do, and whatever is lost, the call returns true and writes nothing that was there. Conditions: none. -/
import Derived.Test.YtphemenngjkfbaaRows
import Derived.Test.YtphemenngjkfbaaM48
open Go.Proofs.Try renaming prog → adY
namespace Go.Proofs.Ytphemenngjkfbaa.callMeets
open Go.ChangeShapes Go.WideShapes Go.ChangeAt Go.RowKit
theorem own:ownKnob Try.prog.godebug=none:=by kernel_rfl
theorem laidOut:laidOutB adY=true:=by kernel_rfl
abbrev qy:List (Option IntKind):=[some .u8,some .u8,some .u16,some .u8]
theorem walk(a0:Option Addr)(C4 Jj:Nat)(F:Nat→Nat→Int)(w:World)(w0:RX.HY qy w a0 C4 Jj F):
  Calls adY 11 #[.slice a0 C4 Jj] w fun e w'=>e= .returned (.bool true)∧Below w.heap.size w w':=by
 have cE:=RX.LK w0 (by decide) 123;have hw: ∀i j,i<C4→∀k,qy[j]? =some k→RX.pD k (F i j):=by
  intro i j hi k hk;rcases w0 with⟨_,rfl,_⟩ | ⟨x,_,_,_,hc⟩
  ·omega
  ·exact(hc i hi j k hk).2
 refine(RX.Ds.Jk RX.Du.XM ⟨.slice a0 C4 Jj,rfl⟩ C4 (fun i=>F i 0) (fun i=>F i 1) (fun i=>F i 2) (fun i=>F i 3) ?_ ?_ ?_ ?_).law w cE
 ·intro j hj;have:=hw j 0 hj _ rfl;simp [RX.pD,Lit.wf,IntKind.min,IntKind.max,IntKind.signed,IntKind.bits]at this;omega
 ·intro j hj;have:=hw j 1 hj _ rfl;simp [RX.pD,Lit.wf,IntKind.min,IntKind.max,IntKind.signed,IntKind.bits]at this;omega
 ·intro j hj;have:=hw j 2 hj _ rfl;simp [RX.pD,Lit.wf,IntKind.min,IntKind.max,IntKind.signed,IntKind.bits]at this;omega
 ·intro j hj;have:=hw j 3 hj _ rfl;simp [RX.pD,Lit.wf,IntKind.min,IntKind.max,IntKind.signed,IntKind.bits]at this;omega
set_option maxRecDepth 100000 in
theorem lifted(os:Os)(started:os.Started)(H:Type)(enc:TypeId×Value→H):
  ReturnsInHanded {} Try.checked os 11 .any (Rows.callMeetsSpec.pre6 enc adY Try.f11 Rows.callMeetsRow.domain false) (Rows.callMeetsSpec.post enc adY Try.f11 false true false false):=by
 refine returnsInHanded_of_change (C:=Try.checked) own started (by kernel_rfl) Try.func11
  (ChangeSpec.witness6 (enc:=enc) (C:=Try.checked) false ⟨#[],#[.slice none 0 0],[]⟩ 8 (by kernel_rfl) (by kernel_rfl) (by kernel_rfl) (by kernel_rfl)) ?_
 intro W base args ds gs before Q5 hW abi _;have pe: ∀(j:Nat) t v,Try.f11.params[j]? =some t→args[j]? =some v→Value.okWide adY W .any base t v:=Q5;have Ph:=hW;obtain⟨p,q,Ls,hV,rfl,hfz,fY⟩:=hW;have hA:DataW.TrodAll enc adY W 0 (fun _=>true) true Try.f11.params.toList args.toList ds p:=Ls;rw [Try.params11]at hA pe;obtain⟨v0,vs0,d0,ds0,p0,q0,jC,rfl,rfl,h0,r0⟩:=trodAll_cons hA;obtain⟨rfl,rfl,rfl⟩:=trodAll_nil r0;obtain rfl:args= #[v0]:=by cases args;simp_all
 obtain⟨rfl,rfl⟩:=trodVars_none hV;obtain⟨a0,C4,Jj,rfl⟩:=okWide_slice Try.underlying119 (pe 0 119 v0 rfl rfl);have k0:=h0;have lt0: ∀x∈p0,x.block<W.heap.size:=by obtain⟨m,hm⟩:=k0;exact DataW.trod_lt m _ _ _ hm
 obtain⟨F,w0⟩: ∃F,RX.HY qy W a0 C4 Jj F:=by
  obtain⟨fuel,hf⟩:=h0;obtain⟨a,l,c,F,m_,hF⟩:=RX.LL (n:=3) (ks:=qy) Try.underlying119 (by kernel_rfl) (by kernel_rfl) hf;simp [Value.cells]at m_;obtain⟨rfl,rfl,rfl⟩:=m_;exact⟨F,hF⟩
 clear Ls Q5;refine(walk a0 C4 Jj F W w0).mono fun e W' ⟨he,bel⟩=>?_
 subst he;exact⟨_,rfl,_,_,_,[],_,[],Ph,trodAll_mk1 (shut_bool Try.underlying4 _),trodAll_cons_mk (Below.trod laidOut (by kernel_rfl) (of_decide_eq_true (by kernel_rfl)) k0 bel lt0) trodAll_mk0,rfl,bel.frame _,fun h=>by cases h⟩
theorem FR:Rows.callMeetsRow.holds Try.pinned (OpenSpec.ofChange Rows.callMeetsSpec):=
 OpenClaim.holds_of_wide 11 Try.f11 rfl rfl rfl rfl rfl rfl rfl ⟨rfl,rfl,rfl,rfl,rfl⟩ rfl rfl rfl rfl rfl (by kernel_rfl) Try.func11 (by kernel_rfl)
  (of_decide_eq_true (by kernel_rfl)) (by unfold Func.isWrapper;first | (rw [if_pos (by decide+kernel)];kernel_rfl) | (rw [if_neg (by decide+kernel)];exact⟨rfl,rfl⟩))
  (fun os started H enc _=>lifted os started H enc)
theorem proved:Rows.CallMeetsSaid:=FR
#print axioms proved
end Go.Proofs.Ytphemenngjkfbaa.callMeets
