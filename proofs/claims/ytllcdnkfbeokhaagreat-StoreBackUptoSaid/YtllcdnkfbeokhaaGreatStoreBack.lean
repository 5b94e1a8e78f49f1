/- The law hailerlaw33.StoreBack holds where what it reads is of bulk at most 1048576: whatever the state, the place, the bit are, the call returns true and writes nothing that was there. Conditions: the bulk's bound, az the statement has it. -/
import Derived.Test.YtllcdnkfbeokhaaGreatM48
open Go.Proofs.Tryz renaming prog → auN
open List renaming mem_append → auE, mem_singleton → auz
namespace Go.Proofs.YtllcdnkfbeokhaaGreat.storeBack
open Go.ChangeShapes Go.WideShapes Go.ChangeAt Go.RowKit
theorem own:ownKnob Tryz.prog.godebug=none:=by kernel_rfl
theorem laidOut:laidOutB auN=true:=by kernel_rfl
theorem walk(p:RX.Vb.iW)(w:World)(h:(RX.Vb.kg (w:=w)).ok p)(hb:(RX.Vb.kg (w:=w)).bw p≤1048576)(at_:Int)(bit:Nat)(Bm:Bool):
  Calls auN 6 #[.agg ((RX.Vb.kg (w:=w)).cells p).toArray,.int .i64 at_,.int .u8 (bit:Int),.bool Bm] w fun e w'=>e= .returned (.bool true)∧Below w.heap.size w w':=by
 obtain⟨C,h1,h2⟩:=RX.Vb.OK h;have law:=RX.Vb.J0 (RX.Vb.toState p) (RX.Vb.EN p) (RX.Vb.Dq p) (RX.Vb.LG p) (RX.Vb.EO p) (RX.Vb.LH p) (RX.Vb.EP p) (RX.Vb.ER p) (RX.Vb.W9 p) (RX.Vb.ES p) C (RX.pW w.heap.size w) rfl h2 (RX.Vb.Ti h hb) at_ bit Bm;rw [RX.Vb.HD];refine law.law w (RX.Vb.I7 ?_);intro x hx;rcases auE.1 hx with hx | hx
 ·exact h1 x hx
 ·rw [auz.1 hx];exact⟨rfl,fun k=>k<w.heap.size,⟨fun _=>Iff.rfl,fun _ _=>rfl⟩,fun _ h=>h⟩
set_option maxRecDepth 100000 in
theorem TM(H:Type)(enc:TypeId×Value→H)(W:World)(base:Nat)(args:Array Value)(ds gs:List (DataW H))(before:List MemPlace)
  (Yu: ∀(j:Nat) t v,Tryz.f6.params[j]? =some t→args[j]? =some v→Value.okWide auN W .any base t v)
  (hW:DataW.Whole enc auN Tryz.f6.params.toList Rows.storeBackSpec.vars false W args.toList ds gs before) (hk:Rows.uptoSmall H (ds++gs)=true):
  Calls auN 6 args W fun e W'=> ∃v,e= .returned v∧Rows.storeBackSpec.post enc auN Tryz.f6 false true false false W args v W':=by
 have nP: ∀(j:Nat) t v,Tryz.f6.params[j]? =some t→args[j]? =some v→Value.okWide auN W .any base t v:=Yu;have UR:=hW;obtain⟨p,q,vV,hV,rfl,hfz,iy⟩:=hW;have hA:DataW.TrodAll enc auN W 0 (fun _=>true) true Tryz.f6.params.toList args.toList ds p:=vV;rw [Tryz.params6]at hA nP;obtain⟨v0,vs0,d0,ds0,p0,q0,lx,rfl,rfl,h0,r0⟩:=trodAll_cons hA;obtain⟨v1,vs1,d1,ds1,p1,q1,rfl,rfl,rfl,h1,r1⟩:=trodAll_cons r0;obtain⟨v2,vs2,d2,ds2,p2,q2,rfl,rfl,rfl,h2,r2⟩:=trodAll_cons r1;obtain⟨v3,vs3,d3,ds3,p3,q3,rfl,rfl,rfl,h3,r3⟩:=trodAll_cons r2;obtain⟨rfl,rfl,rfl⟩:=trodAll_nil r3;obtain rfl:args= #[v0,v1,v2,v3]:=by cases args;simp_all
 obtain⟨rfl,rfl⟩:=trodVars_none hV;have k0:=h0;have afZ:Rows.uptoBulk d0≤1048576:=by
  have h:Rows.uptoBulkAll ([d0,d1,d2,d3]++[])≤1048576:=of_decide_eq_true hk;simp only [Rows.uptoBulkAll,List.cons_append,List.nil_append]at h;omega
 obtain⟨cs,rfl,_⟩:=okWide_struct Tryz.underlying44 (nP 0 44 v0 rfl rfl);obtain⟨P,hP,ok,bk⟩: ∃P,cs.toList=(RX.Vb.kg (w:=W)).cells P∧(RX.Vb.kg (w:=W)).ok P∧(RX.Vb.kg (w:=W)).bw P≤1048576:=by
  obtain⟨fuel,hf⟩:=h0;obtain⟨P,e1,e2,e3⟩:=(RX.Vb.kg (w:=W)).op hf;exact⟨P,e1,e2,Nat.le_trans e3 afZ⟩
 obtain rfl:cs=((RX.Vb.kg (w:=W)).cells P).toArray:=by rw [←hP]
 obtain⟨at_,rfl,rfl,rfl,w1⟩:=open_int Tryz.underlying3 (nP 1 3 v1 rfl rfl) h1;obtain⟨bit,rfl,rfl,rfl,w2⟩:=open_int Tryz.underlying5 (nP 2 5 v2 rfl rfl) h2;obtain⟨Bm,rfl,rfl,rfl⟩:=open_bool Tryz.underlying4 (nP 3 4 v3 rfl rfl) h3;have hs:0≤bit:=by
  simp [Lit.wf,IntKind.min,IntKind.max,IntKind.signed,IntKind.bits]at w2;omega
 obtain⟨bn,rfl⟩: ∃n:Nat,bit=(n:Int):=⟨bit.toNat,by omega⟩;have lt: ∀{t v d p},DataW.Trod enc auN W 0 (fun _=>true) true t v d p→∀x∈p,x.block<W.heap.size:=fun k=>by obtain⟨m,hm⟩:=k;exact DataW.trod_lt m _ _ _ hm
 clear vV Yu;refine(walk P W ok bk at_ bn Bm).mono fun e W' ⟨he,bel⟩=>?_
 subst he;exact⟨_,rfl,_,_,_,[],_,[],UR,trodAll_mk1 (shut_bool Tryz.underlying4 _),(trodAll_cons_mk (Below.trod laidOut (by kernel_rfl) (of_decide_eq_true (by kernel_rfl)) k0 bel (lt k0)) (trodAll_cons_mk (shut_int Tryz.underlying3 w1) (trodAll_cons_mk (shut_int Tryz.underlying5 w2) (trodAll_cons_mk (shut_bool Tryz.underlying4 _) trodAll_mk0)))),rfl,bel.frame _,fun h=>by cases h⟩
def z8{H:Type}:DataW H:= .lit (.int .u8 0)
def zn{H:Type}(n:Nat):DataW H:= .agg (List.replicate n z8)
def z64{H:Type}:DataW H:= .lit (.int .u64 0)
def abN{H:Type}:DataW H:= .agg [z8,z8]
def abO{H:Type}:DataW H:= .agg [zn 32,z64,.agg [.agg [abN,zn 32,zn 32,.nil],.lit (.int .i64 0),.nil],.agg [abN,zn 8,.nil,z8,zn 16,.lit (.bool false),z8,abN,zn 32,zn 32,zn 32,.nil,.lit (.int .i64 0),.nil,z64,z64,z64,z64,z64,.lit (.int .u32 0)],.nil,.nil]
set_option maxRecDepth 100000 in
theorem lifted(os:Os)(started:os.Started)(H:Type)(enc:TypeId×Value→H)(F:Stop.Interp):
  ReturnsInHanded {} Tryz.checked os 6 .any ((Rows.OpenSpec.upto Rows.storeBackSpec).pre6 enc auN Tryz.f6 Rows.storeBackUptoRow.domain false) (((Rows.OpenSpec.upto Rows.storeBackSpec).at F).post enc auN Tryz.f6 false true false false):=by
 refine returnsInHanded_of_cond (C:=Tryz.checked) (s:=Rows.OpenSpec.upto Rows.storeBackSpec) (k:=Rows.uptoSmall) rfl own started (by kernel_rfl) Tryz.func6
  (OpenSpec.witness (enc:=enc) (C:=Tryz.checked) (s:=Rows.OpenSpec.upto Rows.storeBackSpec) (k:=Rows.uptoSmall) rfl false ⟨#[],#[.agg (RX.Vb.TR).toArray,.int .i64 0,.int .u8 0,.bool false],[]⟩ 8 (by kernel_rfl) (by kernel_rfl) (by kernel_rfl)
   (x:=([abO,.lit (.int .i64 0),.lit (.int .u8 0),.lit (.bool false)],[],[])) (by kernel_rfl) rfl (by kernel_rfl)) ?_
 intro W base args ds gs before nP hW _ hk _;exact TM H enc W base args ds gs before nP hW hk
theorem over:Rows.storeBackUptoRow.holds Tryz.pinned (Rows.OpenSpec.upto Rows.storeBackSpec):=
 OpenClaim.holds_of_cond 6 Tryz.f6 rfl rfl rfl rfl rfl rfl rfl ⟨rfl,rfl,rfl,rfl,rfl⟩ rfl rfl rfl rfl rfl (by kernel_rfl) Tryz.func6 closed
  (of_decide_eq_true (by kernel_rfl)) (by unfold Func.isWrapper;first | (rw [if_pos (by decide+kernel)];kernel_rfl) | (rw [if_neg (by decide+kernel)];exact⟨rfl,rfl⟩))
  (fun os started H enc _ F=>lifted os started H enc F)
theorem proved:Rows.StoreBackUptoSaid:=over
#print axioms proved
end Go.Proofs.YtllcdnkfbeokhaaGreat.storeBack
