/- The law hailerlaw24.GroupFrames holds: whatever the device and the calls are, a member's frame is the document's and is unframed to what was framed, and what is told otherwise is refused; the call returns true and writes nothing that was there. Conditions: none. -/
import Derived.Test.YtfnaoeleljhmhaaGreatRows
import Derived.Test.YtfnaoeleljhmhaaGreatM44
import Derived.Test.YtfnaoeleljhmhaaGreatM45
import Derived.Test.YtfnaoeleljhmhaaGreatRxZg
import Derived.WalkKit
import Derived.ProofKit
import Derived.OpenShut
import Derived.ChangeOld
import Derived.Below

namespace Go.Proofs.YtfnaoeleljhmhaaGreat.groupFrames
open Go.ChangeShapes Go.WideShapes Go.ChangeAt Go.RowKit
theorem own:ownKnob Tryz.prog.godebug=none:=by kernel_rfl
theorem laidOut:laidOutB Tryz.prog=true:=by kernel_rfl
abbrev devLay:List (Option IntKind×Nat):=[(some .u8,2)]
abbrev doLay:List (Option IntKind×Nat):=[(some .u8,1),(some .u32,1),(some .u64,1),(some .u8,16),(some .u64,1),(some .u8,16),(some .u64,1),(some .u8,1),(some .u8,1),(some .u64,1),(some .u64,1),(some .u8,1),(some .u8,1),(some .u64,1),(some .u64,1),(some .u64,1)]
theorem walk(F0:Nat→Int)(h0:0≤F0 0∧F0 0<256∧0≤F0 1∧F0 1<256)(a1:Option Addr)(len1 cap1:Nat)(F:Nat→Nat→Int)(w:World)(w1:RX.IsTab (RX.layCells doLay) w a1 len1 cap1 F):
  Calls Tryz.prog 3 #[.agg (RX.layV devLay F0).toArray,.slice a1 len1 cap1] w fun e w'=>e= .returned (.bool true)∧Below w.heap.size w w':=by
 have hc: ∀i:Nat,i<len1→(0≤F i 19∧F i 19<18446744073709551616)∧(0≤F i 37∧F i 37<256)∧(0≤F i 38∧F i 38<256)∧(0≤F i 40∧F i 40<18446744073709551616)∧0≤F i 44∧0≤F i 45∧F i 45<18446744073709551616:=by
  intro i hi;rcases w1 with⟨_,h,_⟩ | ⟨x,_,hl,_,hc⟩
  ·omega
  ·have e1:=(hc i hi 19 (some .u64) rfl).2;have e2:=(hc i hi 37 (some .u8) rfl).2;have e3:=(hc i hi 38 (some .u8) rfl).2;have e4:=(hc i hi 40 (some .u64) rfl).2;have e5:=(hc i hi 44 (some .u64) rfl).2;have e6:=(hc i hi 45 (some .u64) rfl).2;simp [RX.cellWf,Lit.wf,IntKind.min,IntKind.max,IntKind.signed,IntKind.bits]at e1 e2 e3 e4 e5 e6;omega
 have hown:=RX.owns_lay w1 (by decide) 40;have:=RX.Ka.frames_meets (F0 0,F0 1) len1 (fun m=>F (m/1) (m%1)) (fun m=>F (m/1) (1+m%1)) (fun m=>F (m/1) (1+(1+m%1))) (fun m=>F (m/16) (1+(1+(1+m%16)))) (fun m=>F (m/1) (1+(1+(1+(16+m%1))))) (fun m=>F (m/16) (1+(1+(1+(16+(1+m%16)))))) (fun m=>F (m/1) (1+(1+(1+(16+(1+(16+m%1))))))) (fun m=>F (m/1) (1+(1+(1+(16+(1+(16+(1+m%1)))))))) (fun m=>F (m/1) (1+(1+(1+(16+(1+(16+(1+(1+m%1))))))))) (fun m=>F (m/1) (1+(1+(1+(16+(1+(16+(1+(1+(1+m%1)))))))))) (fun m=>F (m/1) (1+(1+(1+(16+(1+(16+(1+(1+(1+(1+m%1))))))))))) (fun m=>F (m/1) (1+(1+(1+(16+(1+(16+(1+(1+(1+(1+(1+m%1)))))))))))) (fun m=>F (m/1) (1+(1+(1+(16+(1+(16+(1+(1+(1+(1+(1+(1+m%1))))))))))))) (fun m=>F (m/1) (1+(1+(1+(16+(1+(16+(1+(1+(1+(1+(1+(1+(1+m%1)))))))))))))) (fun m=>F (m/1) (1+(1+(1+(16+(1+(16+(1+(1+(1+(1+(1+(1+(1+(1+m%1))))))))))))))) (fun m=>F (m/1) (1+(1+(1+(16+(1+(16+(1+(1+(1+(1+(1+(1+(1+(1+(1+m%1)))))))))))))))) ⟨.slice a1 len1 cap1,rfl⟩ RX.Ja.known_meets h0 (fun j hj=>by
  have h:=hc j hj;simp only [Nat.div_one,Nat.mod_one];exact h)
 exact this.law w hown
set_option maxRecDepth 100000 in
theorem lifted(os:Os)(started:os.Started)(H:Type)(enc:TypeId×Value→H):
  ReturnsInHanded {} Tryz.checked os 3 .any (Rows.groupFramesSpec.pre6 enc Tryz.prog Tryz.f3 Rows.groupFramesRow.domain false) (Rows.groupFramesSpec.post enc Tryz.prog Tryz.f3 false true false false):=by
 refine returnsInHanded_of_change (C:=Tryz.checked) own started (by kernel_rfl) Tryz.func3
  (ChangeSpec.witness6 (enc:=enc) (C:=Tryz.checked) false ⟨#[],#[.agg (RX.layV devLay fun _=>0).toArray,.slice none 0 0],[]⟩ 8 (by kernel_rfl) (by kernel_rfl) (by kernel_rfl) (by kernel_rfl)) ?_
 intro W base args ds gs before hval0 hW hcnd _;have hval: ∀(j:Nat) t v,Tryz.f3.params[j]? =some t→args[j]? =some v→Value.okWide Tryz.prog W .any base t v:=hval0;have hW':=hW;obtain⟨p,q,hA0,hV,rfl,hfz,hnd⟩:=hW;have hA:DataW.TrodAll enc Tryz.prog W 0 (fun _=>true) true Tryz.f3.params.toList args.toList ds p:=hA0;rw [Tryz.params3]at hA hval;obtain⟨v0,vs0,d0,ds0,p0,q0,hargs,rfl,rfl,h0,r0⟩:=trodAll_cons hA;obtain⟨v1,vs1,d1,ds1,p1,q1,rfl,rfl,rfl,h1,r1⟩:=trodAll_cons r0;obtain⟨rfl,rfl,rfl⟩:=trodAll_nil r1;obtain rfl:args= #[v0,v1]:=by cases args;simp_all
 obtain⟨rfl,rfl⟩:=trodVars_none hV;obtain⟨F0,rfl,w0⟩:=RX.open_flat (n:=3) (l:=devLay) (by kernel_rfl) (by kernel_rfl) (by kernel_rfl) (hval 0 23 v0 rfl rfl) h0;obtain⟨a1,len1,cap1,rfl⟩:=okWide_slice Tryz.underlying24 (hval 1 24 v1 rfl rfl);have lt: ∀{t v d p},DataW.Trod enc Tryz.prog W 0 (fun _=>true) true t v d p→∀x∈p,x.block<W.heap.size:=fun k=>by obtain⟨m,hm⟩:=k;exact DataW.trod_lt m _ _ _ hm
 have k1:=h1;obtain⟨F,w1⟩: ∃F,RX.IsTab (RX.layCells doLay) W a1 len1 cap1 F:=by
  obtain⟨fuel,hf⟩:=h1;obtain⟨a,l,c,F,hcs,hF⟩:=RX.open_tabA (n:=4) (ks:=RX.layCells doLay) Tryz.underlying24 (by kernel_rfl) (by kernel_rfl) hf;simp [Value.cells]at hcs;obtain⟨rfl,rfl,rfl⟩:=hcs;exact⟨F,hF⟩
 clear hA0 hval0;have hself:0≤F0 0∧F0 0<256∧0≤F0 1∧F0 1<256:=by
  have e1:=w0 0 (some .u8) rfl;have e2:=w0 1 (some .u8) rfl;simp [RX.cellWf,Lit.wf,IntKind.min,IntKind.max,IntKind.signed,IntKind.bits]at e1 e2;omega
 refine(walk F0 hself a1 len1 cap1 F W w1).mono fun e W' ⟨he,bel⟩=>?_
 subst he;exact⟨_,rfl,_,_,_,[],_,[],hW',trodAll_mk1 (shut_bool Tryz.underlying4 _),(trodAll_cons_mk (Below.trod laidOut (by kernel_rfl) (of_decide_eq_true (by kernel_rfl)) h0 bel (lt h0)) (trodAll_cons_mk (Below.trod laidOut (by kernel_rfl) (of_decide_eq_true (by kernel_rfl)) k1 bel (lt k1)) trodAll_mk0)),rfl,bel.frame _,fun h=>by cases h⟩
theorem over:Rows.groupFramesRow.holds Tryz.pinned (OpenSpec.ofChange Rows.groupFramesSpec):=
 OpenClaim.holds_of_wide 3 Tryz.f3 rfl rfl rfl rfl rfl rfl rfl ⟨rfl,rfl,rfl,rfl,rfl⟩ rfl rfl rfl rfl rfl (by kernel_rfl) Tryz.func3 (by kernel_rfl)
  (of_decide_eq_true (by kernel_rfl)) (by unfold Func.isWrapper;first | (rw [if_pos (by decide+kernel)];kernel_rfl) | (rw [if_neg (by decide+kernel)];exact⟨rfl,rfl⟩))
  (fun os started H enc _=>lifted os started H enc)
theorem proved:Rows.GroupFramesSaid:=over
#print axioms proved
end Go.Proofs.YtfnaoeleljhmhaaGreat.groupFrames
