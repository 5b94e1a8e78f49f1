/- The law hailerlaw14.FrameSeals holds: whatever the keys, the counter, the metadata and the text are, the call returns true and writes nothing that was there. Conditions: none. -/
import Derived.Test.YtmgbbbmdbpbeeaaGreatRows
import Derived.Test.YtmgbbbmdbpbeeaaGreatM48
open Go.Proofs.Tryz renaming prog → ae0
open List renaming append → aeU, mem_cons → afd, not_mem_nil → ae9
namespace Go.Proofs.YtmgbbbmdbpbeeaaGreat.frameSeals
open Go.ChangeShapes Go.WideShapes Go.ChangeAt Go.RowKit
theorem own:ownKnob Tryz.prog.godebug=none:=by kernel_rfl
theorem laidOut:laidOutB ae0=true:=by kernel_rfl
theorem walk(s aU:Nat)(a0:Option Addr)(Jt L4:Nat)(z0:List Int)(S:Nat→Nat)(aS:Nat)(a1:Option Addr)(PD SY:Nat)(z1:List Int)(a2:Option Addr)(PE SZ:Nat)(z2:List Int)(w:World)
  (oG:aU<18446744073709551616) (jN:aS<18446744073709551616) (hS: ∀j,S j<256) (w0:RX.o3 .u8 w a0 Jt L4 z0) (w1:RX.o3 .u8 w a1 PD SY z1) (w2:RX.o3 .u8 w a2 PE SZ z2):
  Calls ae0 3 #[.agg (.int .u16 (s:Int):: .int .u64 (aU:Int):: .slice a0 Jt L4::(aeU (RX.al .u8 12 fun j=>((S j:Nat):Int)) [])).toArray,.int .u64 (aS:Int),.slice a1 PD SY,.slice a2 PE SZ] w fun e w'=>e= .returned (.bool true)∧Below w.heap.size w w':=by
 have:=RX.Fo.Ju s aU aS Jt PD PE ⟨.slice a0 Jt L4,rfl⟩ ⟨.slice a1 PD SY,rfl⟩ ⟨.slice a2 PE SZ,rfl⟩ (fun j=>(z0.getD j 0).toNat) S (fun j=>(z1.getD j 0).toNat) (fun j=>(z2.getD j 0).toNat)
  (RX.Fo.FX w0) hS (RX.Fo.FX w1) (RX.Fo.FX w2) oG jN (RX.Fo.PF w2)
 refine this.law w (RX.Fo.FY ?_);intro x hx;simp only [afd,ae9,or_false]at hx;rcases hx with rfl | rfl | rfl
 ·exact RX.Fo.Be w0
 ·exact RX.Fo.Be w1
 ·exact RX.Fo.Be w2
set_option maxRecDepth 100000 in
theorem lifted(os:Os)(started:os.Started)(H:Type)(enc:TypeId×Value→H):
  ReturnsInHanded {} Tryz.checked os 3 .any (Rows.frameSealsSpec.pre6 enc ae0 Tryz.f3 Rows.frameSealsRow.domain false) (Rows.frameSealsSpec.post enc ae0 Tryz.f3 false true false false):=by
 refine returnsInHanded_of_change (C:=Tryz.checked) own started (by kernel_rfl) Tryz.func3
  (ChangeSpec.witness6 (enc:=enc) (C:=Tryz.checked) false ⟨#[],#[.agg (.int .u16 0:: .int .u64 0:: .slice none 0 0::List.replicate 12 (.int .u8 0)).toArray,.int .u64 0,.slice none 0 0,.slice none 0 0],[]⟩ 8 (by kernel_rfl) (by kernel_rfl) (by kernel_rfl) (by kernel_rfl)) ?_
 intro W base args ds gs before RE hW ab6 _;have kf: ∀(j:Nat) t v,Tryz.f3.params[j]? =some t→args[j]? =some v→Value.okWide ae0 W .any base t v:=RE;have PG:=hW;obtain⟨p,q,tu,hV,rfl,hfz,gn⟩:=hW;have hA:DataW.TrodAll enc ae0 W 0 (fun _=>true) true Tryz.f3.params.toList args.toList ds p:=tu;rw [Tryz.params3]at hA kf;obtain⟨v0,vs0,d0,ds0,p0,q0,jq,rfl,rfl,h0,r0⟩:=trodAll_cons hA;obtain⟨v1,vs1,d1,ds1,p1,q1,rfl,rfl,rfl,h1,r1⟩:=trodAll_cons r0;obtain⟨v2,vs2,d2,ds2,p2,q2,rfl,rfl,rfl,h2,r2⟩:=trodAll_cons r1;obtain⟨v3,vs3,d3,ds3,p3,q3,rfl,rfl,rfl,h3,r3⟩:=trodAll_cons r2;obtain⟨rfl,rfl,rfl⟩:=trodAll_nil r3;obtain rfl:args= #[v0,v1,v2,v3]:=by cases args;simp_all
 obtain⟨rfl,rfl⟩:=trodVars_none hV;have k0:=h0;have k2:=h2;have k3:=h3;obtain⟨s,aU,a0,Jt,L4,z0,S,rfl,oG,w0,hS⟩:=RX.Fo.Jv (kf 0 27 v0 rfl rfl) h0;obtain⟨c,rfl,rfl,rfl,wc⟩:=open_int Tryz.underlying23 (kf 1 23 v1 rfl rfl) h1;obtain⟨b2,l2,c2,rfl⟩:=okWide_slice Tryz.underlying24 (kf 2 24 v2 rfl rfl);obtain⟨b3,l3,c3,rfl⟩:=okWide_slice Tryz.underlying24 (kf 3 24 v3 rfl rfl);obtain⟨z2,w2⟩: ∃zs,RX.o3 .u8 W b2 l2 c2 zs:=by
  obtain⟨fuel,hf⟩:=h2;obtain⟨_,_,_,zs,e,hr⟩:=RX.Fo.rb hf;simp [Value.cells]at e;obtain⟨rfl,rfl,rfl⟩:=e;exact⟨zs,hr⟩
 obtain⟨z3,w3⟩: ∃zs,RX.o3 .u8 W b3 l3 c3 zs:=by
  obtain⟨fuel,hf⟩:=h3;obtain⟨_,_,_,zs,e,hr⟩:=RX.Fo.rb hf;simp [Value.cells]at e;obtain⟨rfl,rfl,rfl⟩:=e;exact⟨zs,hr⟩
 have hc:0≤c∧c<18446744073709551616:=by
  simp [Lit.wf,IntKind.min,IntKind.max,IntKind.signed,IntKind.bits]at wc;omega
 obtain⟨cn,rfl⟩: ∃n:Nat,c=(n:Int):=⟨c.toNat,by omega⟩;have lt: ∀{t v d p},DataW.Trod enc ae0 W 0 (fun _=>true) true t v d p→∀x∈p,x.block<W.heap.size:=fun k=>by obtain⟨m,hm⟩:=k;exact DataW.trod_lt m _ _ _ hm
 clear tu RE;refine(walk s aU a0 Jt L4 z0 S cn b2 l2 c2 z2 b3 l3 c3 z3 W oG (by omega) hS w0 w2 w3).mono fun e W' ⟨he,Xt⟩=>?_
 subst he;exact⟨_,rfl,_,_,_,[],_,[],PG,trodAll_mk1 (shut_bool Tryz.underlying4 _),(trodAll_cons_mk (Below.trod laidOut (by kernel_rfl) (of_decide_eq_true (by kernel_rfl)) k0 Xt (lt k0)) (trodAll_cons_mk (shut_int Tryz.underlying23 wc) (trodAll_cons_mk (Below.trod laidOut (by kernel_rfl) (of_decide_eq_true (by kernel_rfl)) k2 Xt (lt k2)) (trodAll_cons_mk (Below.trod laidOut (by kernel_rfl) (of_decide_eq_true (by kernel_rfl)) k3 Xt (lt k3)) trodAll_mk0)))),rfl,Xt.frame _,fun h=>by cases h⟩
theorem over:Rows.frameSealsRow.holds Tryz.pinned (OpenSpec.ofChange Rows.frameSealsSpec):=
 OpenClaim.holds_of_wide 3 Tryz.f3 rfl rfl rfl rfl rfl rfl rfl ⟨rfl,rfl,rfl,rfl,rfl⟩ rfl rfl rfl rfl rfl (by kernel_rfl) Tryz.func3 (by kernel_rfl)
  (of_decide_eq_true (by kernel_rfl)) (by unfold Func.isWrapper;first | (rw [if_pos (by decide+kernel)];kernel_rfl) | (rw [if_neg (by decide+kernel)];exact⟨rfl,rfl⟩))
  (fun os started H enc _=>lifted os started H enc)
theorem proved:Rows.FrameSealsSaid:=over
#print axioms proved
end Go.Proofs.YtmgbbbmdbpbeeaaGreat.frameSeals
