/- The law hailerlaw30.SpecRefines holds: whatever four devices do, and whatever is lost: what they tell is a trace of the abstract call system, their records are its; the call returns true and writes nothing that was there. Conditions: none. -/
import Derived.Test.YtphemenngjkfbaaRows
import Derived.Test.YtphemenngjkfbaaM48
open Go.Proofs.Try renaming prog → agQ
namespace Go.Proofs.Ytphemenngjkfbaa.specRefines
open Go.ChangeShapes Go.WideShapes Go.ChangeAt Go.RowKit
theorem own:ownKnob Try.prog.godebug=none:=by kernel_rfl
theorem laidOut:laidOutB agQ=true:=by kernel_rfl
abbrev sK:List (Option IntKind):=[some .u8,some .u8,some .u16,some .u8]
theorem walk(a0:Option Addr)(HL Nx:Nat)(F:Nat→Nat→Int)(w:World)(w0:RX.Kz sK w a0 HL Nx F):
  Calls agQ 12 #[.slice a0 HL Nx] w fun e w'=>e= .returned (.bool true)∧Below w.heap.size w w':=by
 have cU:=RX.OC w0 (by decide) 123;have hw: ∀i j,i<HL→∀k,sK[j]? =some k→RX.rn k (F i j):=by
  intro i j hi k hk;rcases w0 with⟨_,rfl,_⟩ | ⟨x,_,_,_,hc⟩
  ·omega
  ·exact(hc i hi j k hk).2
 refine(RX.Ef.Ni RX.Du.acD ⟨.slice a0 HL Nx,rfl⟩ HL (fun i=>F i 0) (fun i=>F i 1) (fun i=>F i 2) (fun i=>F i 3) ?_ ?_ ?_ ?_).law w cU
 ·intro j hj;have:=hw j 0 hj _ rfl;simp [RX.rn,Lit.wf,IntKind.min,IntKind.max,IntKind.signed,IntKind.bits]at this;omega
 ·intro j hj;have:=hw j 1 hj _ rfl;simp [RX.rn,Lit.wf,IntKind.min,IntKind.max,IntKind.signed,IntKind.bits]at this;omega
 ·intro j hj;have:=hw j 2 hj _ rfl;simp [RX.rn,Lit.wf,IntKind.min,IntKind.max,IntKind.signed,IntKind.bits]at this;omega
 ·intro j hj;have:=hw j 3 hj _ rfl;simp [RX.rn,Lit.wf,IntKind.min,IntKind.max,IntKind.signed,IntKind.bits]at this;omega
set_option maxRecDepth 100000 in
theorem lifted(os:Os)(started:os.Started)(H:Type)(enc:TypeId×Value→H):
  ReturnsInHanded {} Try.checked os 12 .any (Rows.specRefinesSpec.pre6 enc agQ Try.f12 Rows.specRefinesRow.domain false) (Rows.specRefinesSpec.post enc agQ Try.f12 false true false false):=by
 refine returnsInHanded_of_change (C:=Try.checked) own started (by kernel_rfl) Try.func12
  (ChangeSpec.witness6 (enc:=enc) (C:=Try.checked) false ⟨#[],#[.slice none 0 0],[]⟩ 8 (by kernel_rfl) (by kernel_rfl) (by kernel_rfl) (by kernel_rfl)) ?_
 intro W base args ds gs before UM hW af3 _;have hval: ∀(j:Nat) t v,Try.f12.params[j]? =some t→args[j]? =some v→Value.okWide agQ W .any base t v:=UM;have Se:=hW;obtain⟨p,q,NK,hV,rfl,hfz,gE⟩:=hW;have hA:DataW.TrodAll enc agQ W 0 (fun _=>true) true Try.f12.params.toList args.toList ds p:=NK;rw [Try.params12]at hA hval;obtain⟨v0,vs0,d0,ds0,p0,q0,kG,rfl,rfl,h0,r0⟩:=trodAll_cons hA;obtain⟨rfl,rfl,rfl⟩:=trodAll_nil r0;obtain rfl:args= #[v0]:=by cases args;simp_all
 obtain⟨rfl,rfl⟩:=trodVars_none hV;obtain⟨a0,HL,Nx,rfl⟩:=okWide_slice Try.underlying119 (hval 0 119 v0 rfl rfl);have k0:=h0;have lt0: ∀x∈p0,x.block<W.heap.size:=by obtain⟨m,hm⟩:=k0;exact DataW.trod_lt m _ _ _ hm
 obtain⟨F,w0⟩: ∃F,RX.Kz sK W a0 HL Nx F:=by
  obtain⟨fuel,hf⟩:=h0;obtain⟨a,l,c,F,l6,hF⟩:=RX.Oz (n:=3) (ks:=sK) Try.underlying119 (by kernel_rfl) (by kernel_rfl) hf;simp [Value.cells]at l6;obtain⟨rfl,rfl,rfl⟩:=l6;exact⟨F,hF⟩
 clear NK UM;refine(walk a0 HL Nx F W w0).mono fun e W' ⟨he,bel⟩=>?_
 subst he;exact⟨_,rfl,_,_,_,[],_,[],Se,trodAll_mk1 (shut_bool Try.underlying4 _),trodAll_cons_mk (Below.trod laidOut (by kernel_rfl) (of_decide_eq_true (by kernel_rfl)) k0 bel lt0) trodAll_mk0,rfl,bel.frame _,fun h=>by cases h⟩
theorem over:Rows.specRefinesRow.holds Try.pinned (OpenSpec.ofChange Rows.specRefinesSpec):=
 OpenClaim.holds_of_wide 12 Try.f12 rfl rfl rfl rfl rfl rfl rfl ⟨rfl,rfl,rfl,rfl,rfl⟩ rfl rfl rfl rfl rfl (by kernel_rfl) Try.func12 (by kernel_rfl)
  (of_decide_eq_true (by kernel_rfl)) (by unfold Func.isWrapper;first | (rw [if_pos (by decide+kernel)];kernel_rfl) | (rw [if_neg (by decide+kernel)];exact⟨rfl,rfl⟩))
  (fun os started H enc _=>lifted os started H enc)
theorem proved:Rows.SpecRefinesSaid:=over
#print axioms proved
end Go.Proofs.Ytphemenngjkfbaa.specRefines
