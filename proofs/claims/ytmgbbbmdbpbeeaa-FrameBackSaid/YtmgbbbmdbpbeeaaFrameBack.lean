/- The law hailerlaw14.FrameBack holds: whatever the suite, the base key, the key id, the counter, the metadata, the text and the bit are, the call returns true and writes nothing that was there. Conditions: none. -/
import Derived.Test.YtmgbbbmdbpbeeaaRows
import Derived.Test.YtmgbbbmdbpbeeaaM47
open Go.Proofs.Try renaming prog → adE
open List renaming mem_cons → adW, not_mem_nil → adP
namespace Go.Proofs.Ytmgbbbmdbpbeeaa.frameBack
open Go.ChangeShapes Go.WideShapes Go.ChangeAt Go.RowKit
theorem own:ownKnob Try.prog.godebug=none:=by kernel_rfl
theorem laidOut:laidOutB adE=true:=by kernel_rfl
theorem walk(s aM aP:Nat)(a0:Option Addr)(OI RN:Nat)(z0:List Int)(a1:Option Addr)(OJ RO:Nat)(z1:List Int)(a2:Option Addr)(OK RP:Nat)(z2:List Int)(bit:Int)(w:World)
  (j_:aM<18446744073709551616) (jO:aP<18446744073709551616) (zk:bit<9223372036854775808) (w0:RX.uH .u8 w a0 OI RN z0) (w1:RX.uH .u8 w a1 OJ RO z1) (w2:RX.uH .u8 w a2 OK RP z2):
  Calls adE 3 #[.int .u16 (s:Int),.slice a0 OI RN,.int .u64 (aM:Int),.int .u64 (aP:Int),.slice a1 OJ RO,.slice a2 OK RP,.int .i64 bit] w fun e w'=>e= .returned (.bool true)∧Below w.heap.size w w':=by
 have:=RX.Ft.Jf (s:=s) (aM:=aM) (aP:=aP) (nb:=OI) (na:=OJ) (nt:=OK) (v0:=⟨.slice a0 OI RN,rfl⟩) (v1:=⟨.slice a1 OJ RO,rfl⟩) (v2:=⟨.slice a2 OK RP,rfl⟩) (Bs:=fun j=>(z0.getD j 0).toNat) (A:=fun j=>(z1.getD j 0).toNat) (T:=fun j=>(z2.getD j 0).toNat)
  (RX.Ft.Ll w1) (RX.Ft.Ll w2) j_ jO bit zk
 refine this.law w (RX.Ft.F7 ?_);intro x hx;simp only [adW,adP,or_false]at hx;rcases hx with rfl | rfl | rfl
 ·exact RX.Ft.By w0
 ·exact RX.Ft.By w1
 ·exact RX.Ft.By w2
theorem F8{H:Type}{enc:TypeId×Value→H}{W:World}{b:Option Addr}{l c:Nat}{d:DataW H}{p:List MemPlace}(h:DataW.Trod enc adE W 0 (fun _=>true) true 23 (.slice b l c) d p): ∃zs,RX.uH .u8 W b l c zs:=by
 obtain⟨fuel,hf⟩:=h;obtain⟨_,_,_,zs,e,hr⟩:=RX.Ft.F9 hf;simp [Value.cells]at e;obtain⟨rfl,rfl,rfl⟩:=e;exact⟨zs,hr⟩
set_option maxRecDepth 100000 in
theorem lifted(os:Os)(started:os.Started)(H:Type)(enc:TypeId×Value→H):
  ReturnsInHanded {} Try.checked os 3 .any (Rows.frameBackSpec.pre6 enc adE Try.f3 Rows.frameBackRow.domain false) (Rows.frameBackSpec.post enc adE Try.f3 false true false false):=by
 refine returnsInHanded_of_change (C:=Try.checked) own started (by kernel_rfl) Try.func3
  (ChangeSpec.witness6 (enc:=enc) (C:=Try.checked) false ⟨#[],#[.int .u16 0,.slice none 0 0,.int .u64 0,.int .u64 0,.slice none 0 0,.slice none 0 0,.int .i64 0],[]⟩ 8 (by kernel_rfl) (by kernel_rfl) (by kernel_rfl) (by kernel_rfl)) ?_
 intro W base args ds gs before QM hW aaT _;have kx: ∀(j:Nat) t v,Try.f3.params[j]? =some t→args[j]? =some v→Value.okWide adE W .any base t v:=QM;have OL:=hW;obtain⟨p,q,s6,hV,rfl,Y8,fQ⟩:=hW;have hA:DataW.TrodAll enc adE W 0 (fun _=>true) true Try.f3.params.toList args.toList ds p:=s6;rw [Try.params3]at hA kx;obtain⟨v0,vs0,d0,ds0,p0,q0,jo,rfl,rfl,h0,r0⟩:=trodAll_cons hA;obtain⟨v1,vs1,d1,ds1,p1,q1,rfl,rfl,rfl,h1,r1⟩:=trodAll_cons r0;obtain⟨v2,vs2,d2,ds2,p2,q2,rfl,rfl,rfl,h2,r2⟩:=trodAll_cons r1;obtain⟨v3,vs3,d3,ds3,p3,q3,rfl,rfl,rfl,h3,r3⟩:=trodAll_cons r2;obtain⟨v4,vs4,d4,ds4,p4,q4,rfl,rfl,rfl,h4,r4⟩:=trodAll_cons r3;obtain⟨v5,vs5,d5,ds5,p5,q5,rfl,rfl,rfl,h5,r5⟩:=trodAll_cons r4;obtain⟨v6,vs6,d6,ds6,p6,q6,rfl,rfl,rfl,h6,r6⟩:=trodAll_cons r5;obtain⟨rfl,rfl,rfl⟩:=trodAll_nil r6;obtain rfl:args= #[v0,v1,v2,v3,v4,v5,v6]:=by cases args;simp_all
 obtain⟨rfl,rfl⟩:=trodVars_none hV;have k1:=h1;have k4:=h4;have k5:=h5;obtain⟨c0,rfl,rfl,rfl,Y9⟩:=open_int Try.underlying22 (kx 0 22 v0 rfl rfl) h0;obtain⟨b1,l1,e1,rfl⟩:=okWide_slice Try.underlying23 (kx 1 23 v1 rfl rfl);obtain⟨c2,rfl,rfl,rfl,Y_⟩:=open_int Try.underlying24 (kx 2 24 v2 rfl rfl) h2;obtain⟨c3,rfl,rfl,rfl,Za⟩:=open_int Try.underlying24 (kx 3 24 v3 rfl rfl) h3;obtain⟨b4,l4,e4,rfl⟩:=okWide_slice Try.underlying23 (kx 4 23 v4 rfl rfl);obtain⟨b5,l5,e5,rfl⟩:=okWide_slice Try.underlying23 (kx 5 23 v5 rfl rfl);obtain⟨c6,rfl,rfl,rfl,Zb⟩:=open_int Try.underlying3 (kx 6 3 v6 rfl rfl) h6;obtain⟨z1,w1⟩:=F8 h1;obtain⟨z4,w4⟩:=F8 h4;obtain⟨z5,w5⟩:=F8 h5;have Zc:0≤c0:=by
  simp [Lit.wf,IntKind.min,IntKind.max,IntKind.signed,IntKind.bits]at Y9;omega
 have WQ:0≤c2∧c2<18446744073709551616:=by
  simp [Lit.wf,IntKind.min,IntKind.max,IntKind.signed,IntKind.bits]at Y_;omega
 have hc3:0≤c3∧c3<18446744073709551616:=by
  simp [Lit.wf,IntKind.min,IntKind.max,IntKind.signed,IntKind.bits]at Za;omega
 have hc6:c6<9223372036854775808:=by
  simp [Lit.wf,IntKind.min,IntKind.max,IntKind.signed,IntKind.bits]at Zb;omega
 obtain⟨s,rfl⟩: ∃n:Nat,c0=(n:Int):=⟨c0.toNat,by omega⟩;obtain⟨aM,rfl⟩: ∃n:Nat,c2=(n:Int):=⟨c2.toNat,by omega⟩;obtain⟨aP,rfl⟩: ∃n:Nat,c3=(n:Int):=⟨c3.toNat,by omega⟩;have lt: ∀{t v d p},DataW.Trod enc adE W 0 (fun _=>true) true t v d p→∀x∈p,x.block<W.heap.size:=fun k=>by obtain⟨m,hm⟩:=k;exact DataW.trod_lt m _ _ _ hm
 clear s6 QM;refine(walk s aM aP b1 l1 e1 z1 b4 l4 e4 z4 b5 l5 e5 z5 c6 W (by omega) (by omega) hc6 w1 w4 w5).mono fun e W' ⟨he,Wc⟩=>?_
 subst he;exact⟨_,rfl,_,_,_,[],_,[],OL,trodAll_mk1 (shut_bool Try.underlying4 _),(trodAll_cons_mk (shut_int Try.underlying22 Y9) (trodAll_cons_mk (Below.trod laidOut (by kernel_rfl) (of_decide_eq_true (by kernel_rfl)) k1 Wc (lt k1)) (trodAll_cons_mk (shut_int Try.underlying24 Y_) (trodAll_cons_mk (shut_int Try.underlying24 Za) (trodAll_cons_mk (Below.trod laidOut (by kernel_rfl) (of_decide_eq_true (by kernel_rfl)) k4 Wc (lt k4)) (trodAll_cons_mk (Below.trod laidOut (by kernel_rfl) (of_decide_eq_true (by kernel_rfl)) k5 Wc (lt k5)) (trodAll_cons_mk (shut_int Try.underlying3 Zb) trodAll_mk0))))))),rfl,Wc.frame _,fun h=>by cases h⟩
theorem over:Rows.frameBackRow.holds Try.pinned (OpenSpec.ofChange Rows.frameBackSpec):=
 OpenClaim.holds_of_wide 3 Try.f3 rfl rfl rfl rfl rfl rfl rfl ⟨rfl,rfl,rfl,rfl,rfl⟩ rfl rfl rfl rfl rfl (by kernel_rfl) Try.func3 (by kernel_rfl)
  (of_decide_eq_true (by kernel_rfl)) (by unfold Func.isWrapper;first | (rw [if_pos (by decide+kernel)];kernel_rfl) | (rw [if_neg (by decide+kernel)];exact⟨rfl,rfl⟩))
  (fun os started H enc _=>lifted os started H enc)
theorem proved:Rows.FrameBackSaid:=over
#print axioms proved
end Go.Proofs.Ytmgbbbmdbpbeeaa.frameBack
