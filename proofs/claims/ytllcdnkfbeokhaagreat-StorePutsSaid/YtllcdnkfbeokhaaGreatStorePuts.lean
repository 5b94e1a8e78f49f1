/- The law hailerlaw33.StorePuts holds where what it reads is of bulk at most 1048576: whatever the state is, the call returns true and writes nothing that was there. Conditions: the bulk's bound, as the statement has it. -/
import Derived.Test.YtllcdnkfbeokhaaGreatM46
open Go.Proofs.Tryz renaming prog -> ax8
open List renaming mem_append -> ax_, mem_singleton -> ax2
namespace Go.Proofs.YtllcdnkfbeokhaaGreat.storePuts
open Go.ChangeShapes Go.WideShapes Go.ChangeAt Go.RowKit
theorem own:ownKnob Tryz.prog.godebug=none:=by kernel_rfl
theorem laidOut:laidOutB ax8=true:=by kernel_rfl
theorem walk(p:RX.Vb.iQ)(w:World)(h:(RX.Vb.ke (w:=w)).ok p)(hb:(RX.Vb.ke (w:=w)).bz p<=1048576):
  Calls ax8 3 #[.agg ((RX.Vb.ke (w:=w)).cells p).toArray] w λe w'=>e= .returned (.bool true)/\Below w.heap.size w w':=by
 obtain⟨C,h1,h2⟩:=RX.Vb.Pw h;obtain⟨m1,m2,m3⟩:=RX.Vb.K3 h;have law:=RX.Vb.K2 (RX.Vb.toState p) (RX.Vb.Fu p) (RX.Vb.D_ p) (RX.Vb.MD p) (RX.Vb.Fv p) (RX.Vb.ME p) (RX.Vb.Cc p) (RX.Vb.Fw p) (RX.Vb.Uh p) (RX.Vb.Fx p) C (RX.nZ w.heap.size w) rfl h2 (RX.Vb.Uo h hb) m1 m2 m3;rw[RX.Vb.IA];refine law.law w (RX.Vb.J0 ?_);intro x hx;rcases ax_.1 hx with hx | hx
 .exact h1 x hx
 .rw [ax2.1 hx];exact⟨rfl,λk=>k<w.heap.size,⟨λ_=>Iff.rfl,λ_ _=>rfl⟩,λ_ h=>h⟩
set_option maxRecDepth 100000 in
theorem Vg(H:Type)(enc:TypeId×Value->H)(W:World)(base:Nat)(args:Array Value)(ds gs:List (DataW H))(before:List MemPlace)
  (ZT: ∀(j:Nat) t v,Tryz.f3.params[j]? =some t->args[j]? =some v->Value.okWide ax8 W .any base t v)
  (hW:DataW.Whole enc ax8 Tryz.f3.params.toList Rows.storePutsSpec.vars false W args.toList ds gs before) (hk:Rows.uptoSmall H (ds++gs)=true):
  Calls ax8 3 args W λe W'=> ∃v,e= .returned v/\Rows.storePutsSpec.post enc ax8 Tryz.f3 false true false false W args v W':=by
 have qo: ∀(j:Nat) t v,Tryz.f3.params[j]? =some t->args[j]? =some v->Value.okWide ax8 W .any base t v:=ZT;have V_:=hW;obtain⟨p,q,wI,hV,rfl,hfz,iT⟩:=hW;have hA:DataW.TrodAll enc ax8 W 0 (λ_=>true) true Tryz.f3.params.toList args.toList ds p:=wI;rw[Tryz.params3]at hA qo;obtain⟨v0,vs0,d0,ds0,p0,q0,ma,rfl,rfl,h0,r0⟩:=trodAll_cons hA;obtain⟨rfl,rfl,rfl⟩:=trodAll_nil r0;obtain rfl:args= #[v0]:=by cases args;simp_all
 obtain⟨rfl,rfl⟩:=trodVars_none hV;have k0:=h0;have aiL:Rows.uptoBulk d0<=1048576:=by
  have h:Rows.uptoBulkAll ([d0]++[])<=1048576:=of_decide_eq_true hk;simp only[Rows.uptoBulkAll,List.cons_append,List.nil_append]at h;omega
 obtain⟨cs,rfl,_⟩:=okWide_struct Tryz.underlying44 (qo 0 44 v0 rfl rfl);obtain⟨P,hP,ok,bk⟩: ∃P,cs.toList=(RX.Vb.ke (w:=W)).cells P/\(RX.Vb.ke (w:=W)).ok P/\(RX.Vb.ke (w:=W)).bz P<=1048576:=by
  obtain⟨fuel,hf⟩:=h0;obtain⟨P,e1,e2,e3⟩:=(RX.Vb.ke (w:=W)).op hf;exact⟨P,e1,e2,Nat.le_trans e3 aiL⟩
 obtain rfl:cs=((RX.Vb.ke (w:=W)).cells P).toArray:=by rw[<-hP]
 have lt: ∀{t v d p},DataW.Trod enc ax8 W 0 (λ_=>true) true t v d p->∀x∈p,x.block<W.heap.size:=λk=>by obtain⟨m,hm⟩:=k;exact DataW.trod_lt m _ _ _ hm
 clear wI ZT;refine(walk P W ok bk).mono λe W' ⟨he,bel⟩=>?_
 subst he;exact⟨_,rfl,_,_,_,[],_,[],V_,trodAll_mk1 (shut_bool Tryz.underlying4 _),(trodAll_mk1 (Below.trod laidOut (by kernel_rfl) (of_decide_eq_true (by kernel_rfl)) k0 bel (lt k0))),rfl,bel.frame _,λh=>by cases h⟩
def z8{H:Type}:DataW H:= .lit (.int .u8 0)
def zn{H:Type}(n:Nat):DataW H:= .agg (List.replicate n z8)
def z64{H:Type}:DataW H:= .lit (.int .u64 0)
def adH{H:Type}:DataW H:= .agg [z8,z8]
def adI{H:Type}:DataW H:= .agg [zn 32,z64,.agg [.agg [adH,zn 32,zn 32,.nil],.lit (.int .i64 0),.nil],.agg [adH,zn 8,.nil,z8,zn 16,.lit (.bool false),z8,adH,zn 32,zn 32,zn 32,.nil,.lit (.int .i64 0),.nil,z64,z64,z64,z64,z64,.lit (.int .u32 0)],.nil,.nil]
set_option maxRecDepth 100000 in
theorem lifted(os:Os)(started:os.Started)(H:Type)(enc:TypeId×Value->H)(F:Stop.Interp):
  ReturnsInHanded {} Tryz.checked os 3 .any ((Rows.OpenSpec.upto Rows.storePutsSpec).pre6 enc ax8 Tryz.f3 Rows.storePutsUptoRow.domain false) (((Rows.OpenSpec.upto Rows.storePutsSpec).at F).post enc ax8 Tryz.f3 false true false false):=by
 refine returnsInHanded_of_cond (C:=Tryz.checked) (s:=Rows.OpenSpec.upto Rows.storePutsSpec) (k:=Rows.uptoSmall) rfl own started (by kernel_rfl) Tryz.func3
  (OpenSpec.witness (enc:=enc) (C:=Tryz.checked) (s:=Rows.OpenSpec.upto Rows.storePutsSpec) (k:=Rows.uptoSmall) rfl false ⟨#[],#[.agg (RX.Vb.Vm).toArray],[]⟩ 8 (by kernel_rfl) (by kernel_rfl) (by kernel_rfl)
   (x:=([adI],[],[])) (by kernel_rfl) rfl (by kernel_rfl)) ?_
 intro W base args ds gs before qo hW _ hk _;exact Vg H enc W base args ds gs before qo hW hk
theorem over:Rows.storePutsUptoRow.holds Tryz.pinned (Rows.OpenSpec.upto Rows.storePutsSpec):=
 OpenClaim.holds_of_cond 3 Tryz.f3 rfl rfl rfl rfl rfl rfl rfl ⟨rfl,rfl,rfl,rfl,rfl⟩ rfl rfl rfl rfl rfl (by kernel_rfl) Tryz.func3 closed
  (of_decide_eq_true (by kernel_rfl)) (by unfold Func.isWrapper;first | (rw[if_pos (by decide+kernel)];kernel_rfl) | (rw[if_neg (by decide+kernel)];exact⟨rfl,rfl⟩))
  (λos started H enc _ F=>lifted os started H enc F)
theorem proved:Rows.StorePutsUptoSaid:=over
#print axioms proved
end Go.Proofs.YtllcdnkfbeokhaaGreat.storePuts
