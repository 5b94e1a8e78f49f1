/- Executor. -/
import Derived.Lib.OthersKept
import Derived.Test.YtphemenngjkfbaaM11
import Derived.Test.YtphemenngjkfbaaM12
import Derived.Lib.ConvBytes
open Array renaming ext' → ael
open Go.Builtin renaming append_ → ad2
open Go.Op renaming equalIn → aed
open Go.Result renaming andThen_ok → adR
open Go.Sem renaming run_bind → adV, run_pure → aeb
open Int renaming toNat → ag
open List renaming append_nil → adW, getD_cons_zero → ah, getElem?_append_left → adO, getElem?_eq_getElem → ad9, getElem?_eq_some_iff → adJ, map_cons → ad1, map_toArray → aep, mem_cons_of_mem → adP, mem_cons_self → adN, mem_filter → ad7, mem_range → adU, mem_singleton → aei, range → aec
open Option renaming getD_some → aes, map_eq_some_iff → adM
open Option.some renaming injEq → adK
namespace Go.RX
section
variable {P:Program} {ρ:Env} {w:World} {look:Nat→Option SV} {bK:Operand→Value} {hp:List Ck} {S:Nat→Nat→Prop} {nb nv:Nat} {T:List TI}
theorem ct{run:Result Next}{v:SV}{vcs:List BE}{rd:List Nat}(h:run= .ok (.value (v.val ρ)) w):sV P ρ w hp S nb nv run {val:=v,vcs:=vcs,rd:=rd}:=h
theorem dH{s:Sem Value}{v:SV}{vcs:List BE}{rd:List Nat}(h:s.run P w= .ok (v.val ρ) w):
  sV P ρ w hp S nb nv ((do pure (.value (←s)):Sem Next).run P w) {val:=v,vcs:=vcs,rd:=rd}:=by
 apply ct;simp only [adV,h,adR,aeb]
theorem HO{c:BE}{a b v:SV}(h:CH c a b=some v):v.val ρ=if c.den ρ then a.val ρ else b.val ρ:=by
 unfold CH at h;split at h
 ·cases h;simp [BE.den]
 ·cases h;simp [BE.den]
 ·split at h
  ·cases h;simp only [SV.val,nK];cases c.den ρ<;>rfl
  ·split at h
   ·rename_i hg;cases h;subst hg;simp only [SV.val,nK,dh];cases c.den ρ<;>rfl
   ·cases h
  ·split at h
   ·rename_i hg;cases h;subst hg;simp only [SV.val,nK];cases h:BE.den ρ _<;>simp
   ·cases h
  ·cases h
theorem Lk(hT:bw P T=true){t:TypeId}{tt:TI}(fk:aS T t=some tt){v:SV}{res:gU}(h:HJ hp tt.k v=some res)
  (cU:Reads hp ρ w S res.rd) (cb: ∀b∈res.vcs,b.prop ρ) (ty:TypeId):
  (Builtin.len_ #[t] ty #[v.val ρ]).run P w= .ok (res.val.val ρ) w∧res.gJ= .none:=by
 unfold HJ at h;split at h
 ·rename_i e hk;split at h
  ·rename_i b i s n m;cases h;have:=eJ cb;refine⟨?_,rfl⟩;show(Builtin.len_ #[t] ty #[.slice (some ⟨ρ.bv.getD b 0,(i.den ρ 0).toNat*s,none⟩) (n.den ρ 0).toNat (m.den ρ 0).toNat]).run P w=_;rw [oC hT fk hk,goInt,Int.toNat_of_nonneg this];rfl
  ·cases h;exact⟨oC hT fk hk _ _ _ _,rfl⟩
  ·rename_i v;split at h
   ·rename_i j md v' t' s n aA cE;cases h;obtain⟨hj,dM⟩:=cX cE;simp only [Ck.mI,beq_iff_eq]at dM;subst dM;have hS:=cU j (by simp) _ hj;have:=eJ cb;obtain⟨ad,cp,he⟩:=Pr hS;have e1:(SV.vv v).val ρ= .slice ad (n.den ρ 0).toNat cp:=he;refine⟨?_,rfl⟩;rw [e1,oC hT fk hk,SV.val,goInt,Int.toNat_of_nonneg this]
   ·cases h
  ·rename_i v cs s;split at h
   ·rename_i r hr;cases h;simp only at cb cU;obtain⟨v1,v2⟩:=bu cb;have v2:=bc v2;simp only [E.den]at v2;obtain⟨_,dL⟩:=eM hr cU v1;obtain⟨_,_,_,a,c,k,_,_,hx,_⟩:=dL;refine⟨?_,rfl⟩;rw [hx,oC hT fk hk,SV.val,goInt,Int.toNat_of_nonneg v2]
   ·cases h
  ·cases h
 ·rename_i hk;split at h
  ·rename_i l;cases h;exact⟨yn hT fk hk _ _,rfl⟩
  ·rename_i s;cases h;have:=eJ cb;refine⟨?_,rfl⟩;have e1:(SV.kE s).val ρ= .string ⟨(dW (s.den ρ)).toArray⟩:=rfl;rw [e1,yn hT fk hk,SV.val,goInt];congr 2;have e:=Jv ρ s;simp only [ByteArray.size,List.size_toArray];omega
  ·cases h
 ·cases h
theorem wT(hT:bw P T=true)(ng:ρ.Ok){ts:TypeId}{tt:TI}(fk:aS T ts=some tt){x y:SV}{res:gU}(h:vp T hp nv tt.k x y=some res)
  (cU:Reads hp ρ w S res.rd) (cb: ∀b∈res.vcs,b.prop ρ) (ty:TypeId):
  sV P ρ w hp S nb nv ((do pure (.value (←ad2 #[ts,ts] ty #[x.val ρ,y.val ρ])):Sem Next).run P w) res:=by
 unfold vp at h;split at h
 ·rename_i v b i s m cap;split at h
  ·rename_i j v' t s' n aA j' b' wr cs h1 h2;split at h
   ·rename_i aR te pR gK;split at h
    ·rename_i hc;obtain⟨rfl,rfl,hk,rfl,hw,hl,DR,iV,eV⟩:=hc;cases h;obtain⟨hj,dM⟩:=cX h1;simp only [Ck.mI,beq_iff_eq]at dM;subst dM;obtain⟨ky,OK⟩:=cP h2;simp only [Ck.rh,beq_iff_eq]at OK;subst OK;have XC:0≤n.den ρ 0:=eJ fun c hc=>cb c (List.mem_append_left _ hc)
     have Gt:=cb _ (List.mem_append_right _ (aei.2 rfl));have:=BO (P:=P) (w:=w) (nb:=nb) (nv:=nv) (cap:=(cap.den ρ 0).toNat) hT ng fk hk gK eV DR hj (cU j (by simp) _ hj) ky (cU j' (by simp) _ ky) hw hl iV pR XC Gt ty;have e1:(SV.sl b (.lit 0) s (.lit 1) cap).val ρ= .slice (some ⟨ρ.bv.getD b 0,0,none⟩) 1 (cap.den ρ 0).toNat:=by
      simp [SV.val,E.den]
     rw [e1];exact this
    ·cases h
   ·cases h
  ·cases h
 ·rename_i b i s m cap;split at h
  ·rename_i j' b' wr cs t h2 hk;split at h
   ·rename_i te aA gK ew;split at h
    ·rename_i aR pR;split at h
     ·rename_i hc;obtain⟨rfl,rfl,hw,hl,DR,iV,eV,Gt⟩:=hc;cases h;obtain⟨ky,OK⟩:=cP h2;simp only [Ck.rh,beq_iff_eq]at OK;subst OK;have e1:(SV.sl b (.lit 0) s (.lit 1) cap).val ρ= .slice (some ⟨ρ.bv.getD b 0,0,none⟩) 1 (cap.den ρ 0).toNat:=by
       simp [SV.val,E.den]
      rw [e1];exact uI (P:=P) (w:=w) (hp:=hp) (S:=S) (nb:=nb) (nv:=nv) hT ng fk hk gK eV DR (cU j' (by simp) _ ky) hw hl iV pR Gt ty
     ·cases h
    ·cases h
   ·cases h
  ·cases h
 ·cases h
theorem vz{b:Nat}{cs:List Value}{S:Nat→Prop}(hS:(ak b true cs).p w S)(t e:TypeId)(ht:P.underlying t=some (.slice e))(he:P.underlying e=some (.int .u8))(o n c:Nat):
  ∃w',(convert t t (.slice (some ⟨b,o,none⟩) n c)).run P w= .ok (.slice (some ⟨b,o,none⟩) n c) w'∧fQ w w'∧w'.heap.size=w.heap.size∧(∀k,k≠b→w'.heap[k]? =w.heap[k]?)∧(ak b false cs).p w' S:=by
 obtain⟨h1,ty,fz,hg,_⟩:=hS;have HB:w.shape? b=some (ty,cs.length):=by
  unfold World.shape?;rw [hg];simp
 refine⟨w.freeze ⟨b,cs.length,none⟩ 1,by simp [convert,run_underlying ht,run_underlying he,markStringish,HB],?_,?_,?_,h1,?_⟩
 ·unfold World.freeze;rw [if_neg (by decide)];exact⟨rfl,rfl,rfl,by simp⟩
 ·unfold World.freeze;rw [if_neg (by decide)];simp
 ·intro k hk;unfold World.freeze;rw [if_neg (by decide)];simp [Array.getElem?_modify,Ne.symm hk]
 ·unfold World.freeze;rw [if_neg (by decide)];obtain⟨lo,hi⟩:=fz;exact⟨ty,_,by simp only [Array.getElem?_modify,if_true,hg,Option.map_some];rfl,fun h=>by cases h⟩
theorem nB{t:TypeId}{tt:TI}(hT:bw P T=true)(fk:aS T t=some tt)(hk:tt.k= .str)(l:List UInt8)(k:IntKind)(j:Int)(h0:0≤j)(h1:j.toNat<l.length):
  (Instr.index t (.string ⟨l.toArray⟩) (.int k j)).run P w= .ok (.int .u8 ((l.getD j.toNat 0).toNat:Nat)) w:=by
 obtain⟨rfl,hi⟩:=ay hT fk;have cT:=hi.kind;rw [hk]at cT;have hu:P.underlying tt.t=some .string:=by
  unfold gR at cT;split at cT<;>simp_all
 have hg:(⟨l.toArray⟩:ByteArray)[j.toNat]? =some (l.getD j.toNat 0):=by
  have cK:j.toNat<(⟨l.toArray⟩:ByteArray).size:=by simpa [ByteArray.size] using h1
  rw [getElem?_pos (⟨l.toArray⟩:ByteArray) j.toNat cK];simp only [List.getD,ad9 h1,aes];rfl
 simp [Instr.index,asIntOf,run_underlying hu,h0,hg]
theorem n_{l:List BE}(h: ∀b∈l.filter (fun b=>b != .lit true),b.prop ρ): ∀b∈l,b.prop ρ:=by
 intro b hb;by_cases hc:b= .lit true
 ·subst hc;rfl
 ·exact h b (ad7.2 ⟨hb,by simpa using hc⟩)
theorem CP{t:TypeId}{tt:TI}(hT:bw P T=true)(fk:aS T t=some tt)(hk:tt.k= .str){v:SV}{k:IntKind}{j:E}{res:gU}(h:HI v j=some res)(cb: ∀b∈res.vcs,b.prop ρ):
  (Instr.index t (v.val ρ) (.int k (j.den ρ 0))).run P w= .ok (res.val.val ρ) w∧res.gJ= .none:=by
 unfold HI at h;split at h
 ·rename_i l;split at h
  ·rename_i i;split at h
   ·rename_i hl;cases h;exact⟨nB hT fk hk l k _ (by simp [E.den]) (by simpa [E.den] using hl),rfl⟩
   ·cases h
  ·cases h;have h2:=n_ cb;have q0:=of_decide_eq_true (gP ρ _ _▸(BE.bY ρ _).2 (h2 _ adN));have q1:=of_decide_eq_true (tb ρ _ _▸(BE.bY ρ _).2 (h2 _ (adP _ adN)));simp only [cM]at q0 q1;refine⟨?_,rfl⟩;have e1:(SV.str l).val ρ= .string ⟨l.toArray⟩:=rfl;rw [e1,nB hT fk hk l k _ q0 (by omega),SV.val,ej,Gg]
 ·rename_i s;cases h;have h2:=n_ cb;have q0:=of_decide_eq_true (gP ρ _ _▸(BE.bY ρ _).2 (h2 _ adN));have q1:=of_decide_eq_true (tb ρ _ _▸(BE.bY ρ _).2 (h2 _ (adP _ adN)));simp only [cM,fS]at q0 q1;refine⟨?_,rfl⟩;have cK:(j.den ρ 0).toNat<(s.den ρ 0).toNat:=by omega
  have e1:(SV.kE s).val ρ= .string ⟨(dW (s.den ρ)).toArray⟩:=rfl;rw [e1,nB hT fk hk _ k _ q0 (by rw [cF];exact cK),SV.val,ej,Dx];congr 2;simp [List.getD,jJ _ cK,Jo]
 ·cases h
theorem HQ(l:List UInt8)(a b:Nat):(⟨l.toArray⟩:ByteArray).extract a b=⟨((l.take b).drop a).toArray⟩:=by
 apply ByteArray.ext;rw [ByteArray.data_extract];apply ael;simp [List.drop_take]
theorem rR{t:TypeId}{tt:TI}(hT:bw P T=true)(fk:aS T t=some tt)(hk:tt.k= .str)(L:List UInt8){lo hi:Option Value}{l h:Option Int}(hl:fC lo l)(hh:fC hi h)
  (h0:0≤l.getD 0) (h1:l.getD 0≤h.getD (L.length:Int)) (h2:h.getD (L.length:Int)≤L.length):
  (Instr.sliceAt t (.string ⟨L.toArray⟩) lo hi none).run P w= .ok (.string ⟨((L.take (h.getD (L.length:Int)).toNat).drop (l.getD 0).toNat).toArray⟩) w:=by
 obtain⟨rfl,nH⟩:=ay hT fk;have cT:=nH.kind;rw [hk]at cT;have hu:P.underlying tt.t=some .string:=by
  unfold gR at cT;split at cT<;>simp_all
 have hb:=se (P:=P) (w:=w) false L.length L.length (lo:=lo) (hi:=hi) (mx:=none) (m:=none) hl hh True.intro (by simp) h0 h1 (by simp) (fun _=>h2);have eV:(⟨L.toArray⟩:ByteArray).size=L.length:=by simp [ByteArray.size]
 simp only [Instr.sliceAt,Instr.slice,adV,run_underlying hu,adR,eV,HQ];simp [hb]
theorem uk{t:TypeId}{tt:TI}(hT:bw P T=true)(fk:aS T t=some tt)(hk:tt.k= .str)(s a b:E){lo hi:Option Value}{l h:Option Int}(hl:fC lo l)(hh:fC hi h)
  (ha:a.den ρ 0=l.getD 0) (hb: ∀n:Int,(0≤s.den ρ 0→n=s.den ρ 0)→b.den ρ 0=h.getD n∨(h=none∧b.den ρ 0=s.den ρ 0)) (cb: ∀b'∈(sP s a b).vcs,b'.prop ρ):
  (Instr.sliceAt t (.string ⟨(dW (s.den ρ)).toArray⟩) lo hi none).run P w= .ok ((sP s a b).val.val ρ) w:=by
 unfold sP at cb ⊢;have ZM: ∀x y:E,(∀b'∈sP.V0 x y,b'.prop ρ)→x.den ρ 0≤y.den ρ 0:=by
  intro x y h;unfold sP.V0 at h;split at h
  ·rename_i he;rw [he];exact Int.le_refl _
  ·exact of_decide_eq_true (gP ρ _ _▸(BE.bY ρ _).2 (n_ h _ (aei.2 rfl)))
 have q1:=ZM _ _ fun c hc=>cb c (List.mem_append_left _ (List.mem_append_left _ hc))
 have q2:=ZM _ _ fun c hc=>cb c (List.mem_append_left _ (List.mem_append_right _ hc))
 have q3:=ZM _ _ fun c hc=>cb c (List.mem_append_right _ hc)
 simp only [cM,fS]at q1 q2 q3;have hlen:((dW (s.den ρ)).length:Int)=s.den ρ 0:=by rw [cF];omega
 have ZN:b.den ρ 0=h.getD ((dW (s.den ρ)).length:Int):=by
  rcases hb (dW (s.den ρ)).length (fun _=>hlen)with e | ⟨e1,e2⟩
  ·exact e
  ·rw [e1,e2];exact hlen.symm
 have:=rR (P:=P) (w:=w) hT fk hk (dW (s.den ρ)) hl hh (by rw [←ha];exact q1) (by rw [←ha,←ZN];exact q2) (by rw [←ZN,hlen];exact q3);rw [this,SV.val,Jw ρ s a b q1 q2 q3,←ZN,←ha]
theorem zN{t:TypeId}{tt:TI}(hT:bw P T=true)(fk:aS T t=some tt)(hk:tt.k= .str){v:SV}{l h:Option E}{res:gU}(hs:zz v l h=some res)
  {lo hi:Option Value} (hl:fC lo (l.map fun e:E=>e.den ρ 0)) (hh:fC hi (h.map fun e:E=>e.den ρ 0)) (cb: ∀b∈res.vcs,b.prop ρ):
  (Instr.sliceAt t (v.val ρ) lo hi none).run P w= .ok (res.val.val ρ) w∧res.gJ= .none:=by
 have ga: ∀(o:Option E) (d:E),(o.getD d).den ρ 0=(o.map fun e:E=>e.den ρ 0).getD (d.den ρ 0):=by intro o d;cases o<;>rfl
 unfold zz at hs;split at hs
 ·rename_i L;split at hs
  ·rename_i a b e1 e2;split at hs
   ·rename_i hc;cases hs;have f1:=ga l (.lit 0);have f2:=ga h (.lit L.length);rw [e1]at f1;rw [e2]at f2;simp only [cM]at f1 f2;refine⟨?_,rfl⟩;have:=rR (P:=P) (w:=w) hT fk hk L hl hh (by rw [←f1];simp) (by rw [←f1,←f2];exact Int.ofNat_le.2 hc.1) (by rw [←f2];exact Int.ofNat_le.2 hc.2);rw [SV.val,this,SV.val,←f1,←f2];simp
   ·cases hs
  ·rename_i a b fc;cases hs;refine⟨?_,rfl⟩;have:=uk (P:=P) (w:=w) (ρ:=ρ) hT fk hk (iD L) (l.getD (.lit 0)) (h.getD (.lit L.length)) hl hh (ga l (.lit 0)) (fun n hn=>by
    left;rw [ga h (.lit L.length),cM,hn (by rw [lH];simp [Jn]),lH];rfl) cb
   rw [lH,nF]at this;exact this
 ·rename_i s;cases hs;refine⟨?_,rfl⟩;exact uk (P:=P) (w:=w) (ρ:=ρ) hT fk hk s (l.getD (.lit 0)) (h.getD (j9 s)) hl hh (ga l (.lit 0)) (fun n hn=>by
   cases h with
   | none=>exact .inr ⟨rfl,by simp [fS]⟩
   | some e=>exact .inl rfl) cb
 ·cases hs
theorem TV{t:TypeId}(hu: ∃m,P.underlying t=some (.interface m))(d:Nat):(aed (d+1) t .nilIface .nilIface).run P w= .ok true w:=by
 obtain⟨m,hu⟩:=hu;have vI:=run_underlying hu w;rw [aed];simp only [adV,vI,adR];rfl
theorem V_{t t':TypeId}{v:Value}(hu: ∃m,P.underlying t=some (.interface m))(d:Nat):(aed (d+1) t (.iface t' v) .nilIface).run P w= .ok false w:=by
 obtain⟨m,hu⟩:=hu;have vI:=run_underlying hu w;rw [aed];simp only [adV,vI,adR];rfl
theorem HR(x:Value): ∃t v,s8 x= .iface t v:=by
 unfold s8;split<;>exact⟨_,_,rfl⟩
theorem CQ{ti:TI}(cN:kb P ti){op:BinOp}{xo yo:Operand}{a:SV}{r:gU}(h:zC ti op yo a=some r):
  yo= .const .nilIface∧(do eqGuard op ti.t xo yo (a.val ρ) .nilIface;binOp op ti.t (a.val ρ) .nilIface:Sem Value).run P w= .ok (r.val.val ρ) w∧r.gJ= .none:=by
 have hk:=cN.kind;have hu:ti.k= .iface→∃m,P.underlying ti.t=some (.interface m):=by
  intro e;rw [e]at hk;unfold gR at hk;split at hk<;>simp_all
 have g1: ∀v,(eqGuard op ti.t xo (.const .nilIface) v .nilIface).run P w= .ok () w:=by
  intro v;cases op<;>cases v<;>simp [eqGuard]
 unfold zC at h;split at h
 ·rename_i Ap;have hu:=hu Ap;split at h
  ·cases h;exact⟨rfl,bf (g1 _) (dy rfl fun d=>TV hu d),rfl⟩
  ·cases h;exact⟨rfl,bf (g1 _) (dz rfl fun d=>TV hu d),rfl⟩
  ·cases h
 ·rename_i t' k' e' Ap;have hu:=hu Ap;have hv: ∀d,(aed (d+1) ti.t ((SV.LV t' k' e').val ρ) .nilIface).run P w= .ok false w:=fun d=>V_ hu d
  split at h
  ·cases h;exact⟨rfl,bf (g1 _) (dy rfl hv),rfl⟩
  ·cases h;exact⟨rfl,bf (g1 _) (dz rfl hv),rfl⟩
  ·cases h
 ·rename_i c v Ap;have hu:=hu Ap;obtain⟨t',x,hx⟩:=HR (ρ.vv.getD v V1.nil).v;have hv: ∀d,(aed (d+1) ti.t ((SV.Ge c v).val ρ) .nilIface).run P w= .ok (!c.den ρ) w:=by
   intro d;simp only [SV.val];cases c.den ρ with
   | true=>simp only [if_true,hx];exact V_ hu d
   | false=>simp only [Bool.false_eq_true,if_false];exact TV hu d
  have Ua:binOp .eql ti.t ((SV.Ge c v).val ρ) .nilIface=(do pure (.bool (←Op.equal ti.t ((SV.Ge c v).val ρ) .nilIface)):Sem Value):=by
   simp only [SV.val];cases c.den ρ with
   | true=>simp only [if_true,hx];rfl
   | false=>rfl
  have UN:binOp .neq ti.t ((SV.Ge c v).val ρ) .nilIface=(do pure (.bool (!(←Op.equal ti.t ((SV.Ge c v).val ρ) .nilIface))):Sem Value):=by
   simp only [SV.val];cases c.den ρ with
   | true=>simp only [if_true,hx];rfl
   | false=>rfl
  split at h
  ·cases h;refine⟨rfl,bf (g1 _) ?_,rfl⟩;rw [dy Ua hv];simp [SV.val,dh]
  ·cases h;refine⟨rfl,bf (g1 _) ?_,rfl⟩;rw [dz UN hv];simp [SV.val]
  ·cases h
 ·cases h
theorem pc(w:World)(e:TypeId)(s:ByteArray):fQ w (Lib.bytesWorld w e s):=by
 unfold Lib.bytesWorld World.freeze;rw [if_neg (by decide)];exact⟨rfl,rfl,rfl,by simp⟩
theorem rS(w:World)(e:TypeId)(s:ByteArray):w.heap.size<(Lib.bytesWorld w e s).heap.size:=by rw [Lib.bytesWorld_size];omega
theorem vA(w:World)(e:TypeId)(s:E):
  World.views (Lib.bytesWorld w e ⟨(dW (s.den ρ)).toArray⟩) (.slice (some ⟨w.heap.size,0,none⟩) (s.den ρ 0).toNat (grownCap w (s.den ρ 0).toNat 0 e)) ((j9 s).den ρ 0).toNat
   (aF ρ ((j9 s).den ρ 0).toNat [⟨.int .u8,1,Ju s⟩]):=by
 refine⟨_,_,_,rfl,by rw [fS],grownCap_ge ..,fun h=>(nomatch h),fun ad ry=>⟨fun _=>?_,fun j u hu=>?_⟩⟩
 ·cases ry;rfl
 ·cases ry;rw [dR,bx,fS]at hu;split at hu
  ·rename_i hj;have:=Lib.bytesWorld_cell w e ⟨(dW (s.den ρ)).toArray⟩ j (by simpa [ByteArray.size,cF] using hj);rw [eD,Nat.zero_add];cases hu;rw [this,Dx];congr 2;simp [List.getD,jJ _ hj,Jo]
  ·cases hu
theorem AH(hT:bw P T=true){src dst:TypeId}{ts ti:TI}(sW:aS T src=some ts)(hk:ts.k= .str)(cN:aS T dst=some ti){v:SV}{res:gU}(h:bytesOf T nv ti.k v=some res)(cb: ∀b∈res.vcs,b.prop ρ):
  sV P ρ w hp S nb nv ((do pure (.value (←convert src dst (v.val ρ))):Sem Next).run P w) res:=by
 obtain⟨rfl,FN⟩:=ay hT sW;obtain⟨rfl,Jd⟩:=ay hT cN;have cT:=FN.kind;rw [hk]at cT;have Wa:P.underlying ts.t=some .string:=by
  unfold gR at cT;split at cT<;>simp_all
 unfold bytesOf at h;split at h
 ·rename_i e he;split at h
  ·rename_i te s gK hs;split at h
   ·rename_i hc;obtain⟨TW,je⟩:=hc;cases h;obtain⟨rfl,PB⟩:=ay hT gK;have k2:=Jd.kind;rw [he]at k2;have ZO:=bL k2;have k3:=PB.kind;rw [TW]at k3;have ZP:=jf k3;have q0:=of_decide_eq_true (gP ρ _ _▸(BE.bY ρ _).2 (n_ cb _ (aei.2 rfl)));simp only [cM,fS]at q0;have hv:=rW ρ hs;have hZ:=Lib.run_convert_string_bytes (P:=P) w ts.t ti.t te.t ⟨(dW (s.den ρ)).toArray⟩ Wa ZO ZP;have eV:(⟨(dW (s.den ρ)).toArray⟩:ByteArray).size=(s.den ρ 0).toNat:=by simp [ByteArray.size,cF]
    rw [eV]at hZ;refine⟨te.t,1,j9 s,[⟨.int .u8,1,Ju s⟩],.slice (some ⟨w.heap.size,0,none⟩) (s.den ρ 0).toNat (grownCap w (s.den ρ 0).toNat 0 te.t),Lib.bytesWorld w te.t ⟨(dW (s.den ρ)).toArray⟩,fun k=>k=w.heap.size∧0<(s.den ρ 0).toNat,rfl,rfl,by rw [hv,adV,hZ];rfl,rfl,?_,?_,?_,?_⟩
    ·exact pc w te.t _
    ·exact fun k hk=>Lib.bytesWorld_at_old w te.t _ k hk
    ·refine⟨?_,fun k=>?_⟩
     ·simp only [Bool.false_eq_true,if_false];exact⟨by rw [dp];simp [bX],vA w te.t s⟩
     ·simp [Value.ownBlock,fS,eq_comm]
    ·intro k hk;refine⟨by omega,?_⟩;rw [hk.1];exact rS w te.t _
   ·cases h
  ·cases h
 ·cases h
theorem zO(hT:bw P T=true){src dst:TypeId}{ts ti:TI}(sW:aS T src=some ts)(hk:ts.k= .str)(cN:aS T dst=some ti){l:List UInt8}{res:gU}(h:zB T nv ti.k l=some res):
  sV P ρ w hp S nb nv ((do pure (.value (←convert src dst ((SV.str l).val ρ))):Sem Next).run P w) res:=by
 obtain⟨rfl,FN⟩:=ay hT sW;obtain⟨rfl,Jd⟩:=ay hT cN;have cT:=FN.kind;rw [hk]at cT;have Wa:P.underlying ts.t=some .string:=by
  unfold gR at cT;split at cT<;>simp_all
 unfold zB at h;split at h
 ·rename_i e he;split at h
  ·rename_i te gK;split at h
   ·rename_i hc;obtain⟨TW,je,hl⟩:=hc;cases h;obtain⟨rfl,PB⟩:=ay hT gK;have k2:=Jd.kind;rw [he]at k2;have ZO:=bL k2;have k3:=PB.kind;rw [TW]at k3;have ZP:=jf k3;have hZ:=Lib.run_convert_string_bytes (P:=P) w ts.t ti.t te.t ⟨l.toArray⟩ Wa ZO ZP;have eV:(⟨l.toArray⟩:ByteArray).size=l.length:=by simp [ByteArray.size]
    have wG:=grownCap_ge w l.length 0 te.t;have m_:(Lib.bytesCells w te.t ⟨l.toArray⟩).toList=(l.map fun b=>Value.int .u8 b.toNat)++List.replicate (grownCap w l.length 0 te.t - l.length) (.int .u8 0):=by
     simp [Lib.bytesCells,eV]
    rw [eV]at hZ;have hn:(E.den ρ (.lit (l.length:Int)) 0).toNat=l.length:=by simp [E.den]
    refine⟨te.t,1,.lit l.length,[⟨.int .u8,1,.pk (l.map fun b=>(b.toNat:Int))⟩],.slice (some ⟨w.heap.size,0,none⟩) l.length (grownCap w l.length 0 te.t),Lib.bytesWorld w te.t ⟨l.toArray⟩,fun k=>k=w.heap.size,rfl,rfl,by rw [SV.val,adV,hZ];rfl,rfl,?_,?_,⟨?_,fun k=>?_⟩,?_⟩
    ·exact pc w te.t _
    ·exact fun k hk=>Lib.bytesWorld_at_old w te.t _ k hk
    ·simp only [if_true];rw [hn,dR];refine⟨by rw [aE,Nat.mul_one],.inr ⟨w.heap.size,0,_,Lib.bytesCells w te.t ⟨l.toArray⟩,rfl,⟨te.t,_,Lib.bytesWorld_at_new w te.t _,.inr (Nat.le_refl _)⟩,wG,grownCap_le_maxLen w l.length 0 te.t (by unfold maxLen;omega),fun _=>?_,?_⟩⟩
     ·rw [←Array.length_toList,m_];simp;omega
     ·rw [List.drop_zero,m_,Nat.mul_one];apply List.ext_getElem?;intro j;rw [bx,List.getElem?_take];split
      ·rename_i hj;rw [adO (by simpa using hj),List.getElem?_map,ad9 hj];simp [E.den,List.getD,hj]
      ·rfl
    ·simp [Value.ownBlock,eq_comm]
    ·intro k hk;exact⟨by omega,by rw [hk];exact rS w te.t _⟩
   ·cases h
  ·cases h
 ·cases h
theorem Ll(a:Addr)(k:Nat)(h:a.spot=none):(a.add k).spot=none:=by
 unfold Addr.add;split<;>simp_all
theorem BB{md:Bool}{t s n:Nat}{v:Value}{cs:List Value}{S:Nat→Prop}(h:(aB md t s v n cs).p w S):World.views w v n cs∧cs.length=n*s:=by
 obtain⟨h0,_⟩:=h;cases md with
 | true=>
  simp only [if_true]at h0;have Rd:=h0;obtain⟨hl,hr⟩:=h0;refine⟨?_,hl⟩;rcases hr with⟨rfl,rfl⟩ | ⟨g,o,cap,cur,rfl,hg,Dv,_⟩
  ·exact⟨none,0,0,rfl,rfl,Nat.le_refl _,fun _=>rfl,by simp⟩
  ·refine⟨_,n,cap,rfl,rfl,Dv,by simp,?_⟩;rintro _ ⟨⟩;exact⟨fun _=>rfl,fun j u hu=>i_ Rd j u hu⟩
 | false=>
  simp only [Bool.false_eq_true,if_false]at h0;exact⟨h0.2,h0.1⟩
theorem vB(ad:Addr)(l:List Value)(n:Nat)(hn:l.length=n)(h: ∀(j:Nat) v,l[j]? =some v→w.cell? (ad.add j)=some v):(loadCells ad n).run P w= .ok l.toArray w:=by
 subst hn;exact run_loadCells_list (P:=P) w ad l h
theorem iy{src dst e:TypeId}(hs:P.underlying src=some (.slice e))(he:P.underlying e=some (.int .u8))(hd:P.underlying dst=some .string){a:Option Addr}{m c:Nat}{f:Nat→Int}(h0:a=none→m=0)(hc: ∀ad,a=some ad→∀(j:Nat) u,(al .u8 m f)[j]? =some u→w.cell? (ad.add j)=some u):
  (convert src dst (.slice a m c)).run P w= .ok (.string ⟨((aec m).map fun j=>UInt8.ofNat (f j).toNat).toArray⟩) w:=by
 rw [run_convert_bytes_string w src dst e a m c hs he hd];cases a with
 | none=>
  have:=h0 rfl;subst this;simp [Conv.bytesToString,aeb];rfl
 | some ad=>
  have hl:(loadCells ad m).run P w= .ok (((aec m).map f).map (Value.int .u8)).toArray w:=by
   rw [List.map_map];exact vB ad _ m (by simp) fun j u hu=>hc ad rfl j u hu
  rw [run_bytesToString w ad m c _ hl,foldl_push_bytes,List.map_map];simp [ByteArray.empty,ByteArray.emptyWithCapacity,Function.comp_def];rfl
theorem FC{t:TypeId}(h:gR (P.underlying t) .str=true):P.underlying t=some .string:=by
 unfold gR at h;split at h<;>simp_all
theorem m6(a n:E):dW ((q8 a n).den ρ)=(aec (n.den ρ 0).toNat).map fun j=>UInt8.ofNat (a.den ρ j).toNat:=by
 unfold q8;split
 ·rename_i k hk;have hn:=cA (ρ:=ρ) hk;split
  ·rename_i l hl;have hl:=sh (ρ:=ρ) hl;subst hl;rw [hn,Int.toNat_natCast];unfold dW;simp only [E.den,ah,Int.toNat_natCast];refine List.map_congr_left fun j hj=>?_
   have hj:=adU.1 hj;simp [hj]
  ·exact xV ρ a n
 ·exact xV ρ a n
theorem AI{src dst e:TypeId}(hs:P.underlying src=some (.slice e))(he:P.underlying e=some (.int .u8))(hd:P.underlying dst=some .string){v:SV}{res:gU}(h:CL hp v=some res)(cU:Reads hp ρ w S res.rd)(cb: ∀b∈res.vcs,b.prop ρ):
  sV P ρ w hp S nb nv ((do pure (.value (←convert src dst (v.val ρ))):Sem Next).run P w) res:=by
 unfold CL at h;split at h
 ·cases h;refine dH ?_;exact iy (P:=P) (w:=w) (a:=none) (m:=0) (c:=0) (f:=fun _=>0) hs he hd (fun _=>rfl) fun _ h=>nomatch h
 ·rename_i b i n m;split at h
  ·rename_i j b' wr cs i' n' hf hi hn;split at h
   ·rename_i xs Gi;split at h
    ·rename_i kl a JR;split at h
     ·rename_i O6;cases h;obtain⟨hj,dM⟩:=cP hf;simp only [Ck.rh,beq_iff_eq]at dM;subst dM;have hS:=cU j (by simp) _ hj;obtain⟨h1,ty,fz,hg,_⟩:=hS;have hi:=cA (ρ:=ρ) hi;have hn:=cA (ρ:=ρ) hn;refine dH ?_;have PJ:=gy (ρ:=ρ) JR;rw [O6,List.length_replicate,ov]at PJ;obtain⟨So,hle⟩:=eF (ρ:=ρ) Gi;rw [So]at PJ;rw [nI,m6,cM,Int.toNat_natCast];have e1:(SV.sl b i 1 n m).val ρ= .slice (some ⟨ρ.bv.getD b 0,i',none⟩) n' (m.den ρ 0).toNat:=by simp [SV.val,hi,hn]
      rw [e1];refine iy (P:=P) (w:=w) (f:=a.den ρ) hs he hd (fun h=>nomatch h) ?_;rintro _ ⟨⟩ j u hu;rw [←PJ,List.getElem?_take]at hu;split at hu
      ·rw [List.getElem?_drop]at hu;rw [eD];simp only [World.cell?,hg];simpa using hu
      ·cases hu
     ·cases h
    ·cases h
   ·cases h
  ·rename_i j b' wr m' a hf hi hn;cases h;obtain⟨hj,dM⟩:=cP hf;simp only [Ck.rh,beq_iff_eq]at dM;subst dM;have hS:=cU j (by simp) _ hj;obtain⟨h1,ty,fz,hg,_⟩:=hS;have hi:=cA (ρ:=ρ) hi;have hle:=of_decide_eq_true (gP ρ _ _▸(BE.bY ρ _).2 (n_ cb _ (aei.2 rfl)));simp only [cM]at hle;refine dH ?_;rw [nI,m6];have e1:(SV.sl b i 1 n m).val ρ= .slice (some ⟨ρ.bv.getD b 0,0,none⟩) (n.den ρ 0).toNat (m.den ρ 0).toNat:=by simp [SV.val,hi]
   rw [e1];refine iy (P:=P) (w:=w) (f:=a.den ρ) hs he hd (fun h=>nomatch h) ?_;rintro _ ⟨⟩ j u hu;obtain⟨cK,_⟩:=adJ.1 hu;rw [aE]at cK;rw [eD];simp only [World.cell?,hg];rw [←hu,bx,if_pos cK];have ec:SV.ar ρ [SV.aX .u8 m' a]=al .u8 m' (a.den ρ):=by simp [SV.ar,SV.cells]
   rw [ec,Nat.zero_add,List.getElem?_toArray,bx,if_pos (show j<m' by omega)];rfl
  ·cases h
 ·rename_i v;split at h
  ·rename_i j md v' t n a hf;cases h;obtain⟨hj,dM⟩:=cX hf;simp only [Ck.mI,beq_iff_eq]at dM;subst dM;have hS:=cU j (by simp) _ hj;have hv:=(BB hS).1;rw [dR]at hv;obtain⟨a',m',c',e1,e2,_,h0,hc⟩:=hv;refine dH ?_;rw [nI,m6];rw [show(SV.vv v).val ρ= .slice a' m' c' from e1,←e2];exact iy (P:=P) (w:=w) hs he hd (fun h=>e2.trans (h0 h)) fun ad ry j u hu=>(hc ad ry).2 j u (by rw [←e2];exact hu)
  ·cases h
 ·rename_i v cs s;split at h
  ·rename_i r hr;split at h
   ·rename_i a HB;split at h
    ·rename_i hG;obtain⟨je,hw⟩:=hG;cases h;simp only at cb cU;obtain⟨v1,v2⟩:=bu cb;have v2:=bc v2;simp only [E.den]at v2;have ZQ:=Fz hr cU v1 v2 hw HB;obtain⟨_,_,a',c',e1,h0,hc⟩:=ZQ;rw [dR]at hc;refine dH ?_;rw [nI,m6,e1];exact iy (P:=P) (w:=w) hs he hd h0 fun ad ry j u hu=>hc ad ry j u hu
    ·cases h
   ·cases h
  ·cases h
 ·cases h
theorem ju(hT:bw P T=true){src dst:TypeId}{ti:TI}(cN:aS T dst=some ti)(hk:ti.k= .str){v:SV}{res:gU}(h:n9 T hp src v=some res)(cU:Reads hp ρ w S res.rd)(cb: ∀b∈res.vcs,b.prop ρ):
  sV P ρ w hp S nb nv ((do pure (.value (←convert src dst (v.val ρ))):Sem Next).run P w) res:=by
 unfold n9 at h;split at h
 ·rename_i ts sW;split at h
  ·rename_i e he;split at h
   ·rename_i te gK;split at h
    ·rename_i TW;obtain⟨rfl,FN⟩:=ay hT sW;obtain⟨rfl,Jd⟩:=ay hT cN;obtain⟨rfl,hi3⟩:=ay hT gK;have k1:=FN.kind;rw [he]at k1;have k2:=Jd.kind;rw [hk]at k2;have k3:=hi3.kind;rw [TW]at k3;exact AI (bL k1) (jf k3) (FC k2) h cU cb
    ·cases h
   ·cases h
  ·cases h
 ·cases h
theorem wU(hT:bw P T=true)(ng:ρ.Ok){t t':TypeId}{tt:TI}(fk:aS T t=some tt){v u:SV}{res:gU}(h:vq T hp nv tt t t' v u=some res)
  (cU:Reads hp ρ w S res.rd) (cb: ∀b∈res.vcs,b.prop ρ) (ty:TypeId):
  sV P ρ w hp S nb nv ((do pure (.value (←ad2 #[t,t'] ty #[v.val ρ,u.val ρ])):Sem Next).run P w) res:=by
 unfold vq at h;split at h
 ·rename_i heq;subst heq;split at h
  ·rename_i r hr;cases h;exact wT (P:=P) (w:=w) (nb:=nb) hT ng fk hr cU cb ty
  ·split at h
   ·rename_i r hr;cases h;exact vw hT fk hr cU cb ty
   ·split at h
    ·rename_i r hr;cases h;exact wN hT fk hr cU cb ty
    ·exact wO hT fk h cU ty
 ·split at h
  ·rename_i ti kk m cN;split at h
   ·rename_i kt Xi;exact Ak hT fk cN Xi h cU cb kk ty
   ·cases h
  ·cases h
theorem qb(hT:bw P T=true)(ng:ρ.Ok)(tr:tj ρ look bK){o:Oper}{res:gU}(h:dB T look hp nb nv o=some res)
  (cU:Reads hp ρ w S res.rd) (cb: ∀b∈res.vcs,b.prop ρ) (DN:ρ.bv.length=nb):sV P ρ w hp S nb nv ((execOp bK o).run P w) res:=by
 obtain⟨dst,op,ty,pos,aft,gd⟩:=o;have ev: ∀{x v},iG look x=some v→bK x=v.val ρ:=fun h=>eL tr h
 cases op with
 | move x=>
  simp only [dB,adM]at h;obtain⟨v,hv,rfl⟩:=h;exact ct (by simp [execOp,ev hv])
 | assign x=>
  simp only [dB,adM]at h;obtain⟨v,hv,rfl⟩:=h;exact ct (by simp [execOp,ev hv])
 | pick c a b=>
  simp only [dB]at h;split at h
  ·rename_i c' a' b' hc ha hb;rw [adM]at h;obtain⟨v,hv,rfl⟩:=h;refine ct ?_;rw [HO hv];simp [execOp,ev hc,ev ha,ev hb,SV.val,asBool]
  ·cases h
 | alloc t=>
  simp only [dB,Option.bind_eq_some_iff]at h;obtain⟨ti,cN,h⟩:=h;split at h
  ·split at h
   ·rename_i hz;cases h;exact JH hT DN cN _ (cJ hz)
   ·cases h
  ·cases h;exact DM hT DN cN
 | box t x=>
  simp only [dB]at h;split at h
  ·rename_i v hv;rw [adM]at h;obtain⟨cs,m_,rfl⟩:=h;have:=JI (P:=P) (w:=w) (hp:=hp) (S:=S) (nv:=nv) ng DN (t:=t) m_;simp only [execOp,ev hv];exact this
  ·cases h
 | build t parts=>
  simp only [dB]at h;split at h
  ·rename_i ti ps cN O_;have hm:eW ρ ps (parts.map fun x=>(x.1,bK x.2)).toList:=by
    rw [Array.toList_map];exact oB tr ng _ _ O_
   split at h
   ·rename_i fs hk;split at h
    ·rename_i uD;rw [adM]at h;obtain⟨cs,m_,rfl⟩:=h;have:=r_ (w:=w) hT cN hk uD hm m_;exact dH this
    ·cases h
   ·rename_i n e hk;split at h
    ·rename_i te gK;rw [adM]at h;obtain⟨cs,m_,rfl⟩:=h;have:=wJ (w:=w) hT cN hk gK hm m_;exact dH this
    ·cases h
   ·cases h
  ·cases h
 | buildSlice t len parts=>
  simp only [dB]at h;split at h
  ·rename_i ti ps cN O_;have hm:eW ρ ps (parts.map fun x=>(x.1,bK x.2)).toList:=by
    rw [Array.toList_map];exact oB tr ng _ _ O_
   split at h
   ·rename_i e hk;split at h
    ·rename_i te gK;split at h
     ·rename_i Ia;split at h
      ·rename_i rn;rw [adM]at h;obtain⟨zc,Af,rfl⟩:=h;have TX:(parts.map fun x=>(x.1,bK x.2))= #[]:=by
        have:ps=[]:=by simpa using rn
        subst this;apply ael;generalize (parts.map fun x=>(x.1,bK x.2)).toList=l at hm;cases hm;rfl
       have:=zL (P:=P) (w:=w) (hp:=hp) (S:=S) (nb:=nb) (nv:=nv) (ρ:=ρ) hT cN hk gK Af;simp only [execOp,Ia,TX];exact this
      ·cases h
     ·split at h
      ·cases h
      ·rename_i Ia hlen;rw [adM]at h;obtain⟨cs,m_,rfl⟩:=h;exact uG hT DN cN hk gK (by rintro (h | h | h);exact Ia h;exact hlen (.inl h);exact hlen (.inr h)) hm m_
    ·cases h
   ·cases h
  ·cases h
 | load t x=>
  simp only [dB]at h;split at h
  ·rename_i ti a cN ha;obtain⟨rfl,hi⟩:=ay hT cN;obtain⟨h1,h2⟩:=rB hi h cU cb;obtain⟨rv,Pf,RK,re⟩:=res;simp only at h2;subst h2;refine ct ?_;simp only [execOp,ev ha,adV,h1,adR,aeb]
  ·cases h
 | store t x y=>
  simp only [dB]at h;split at h
  ·rename_i ti a v cN ha hv;obtain⟨rfl,hi⟩:=ay hT cN;obtain⟨h1,j,ck,h2,w',h3,h4⟩:=yd hi h ng cU cb;unfold sV;rw [h2];refine⟨w',.inr ⟨h1,?_⟩,h4⟩;simp only [execOp,ev ha,ev hv,adV,h3,adR,aeb]
  ·cases h
 | nilCheck x=>
  simp only [dB]at h;split at h
  ·rename_i b c hx;cases h;exact ct (by simp [execOp,ev hx,SV.val])
  ·rename_i b c hx;cases h;exact ct (by simp [execOp,ev hx,SV.val])
  ·rename_i e hx;cases h;have hz:=cb (Pp e) (by simp);have fc:e.den ρ 0≠0:=by
    rw [←BE.bY,wX]at hz;simpa using hz
   exact ct (by simp [execOp,ev hx,SV.val,aC,fc])
  ·rename_i v i s c hx;split at h
   ·rename_i j md v' t s' n aA hf;cases h;obtain⟨hj,dM⟩:=cX hf;simp only [Ck.mI,beq_iff_eq]at dM;subst dM;have hS:=cU j (by simp) _ hj;obtain⟨h0,h1⟩:=dq ρ cb;obtain⟨a,cp,he⟩:=nM hS (by omega);have e2:(SV.pv v i s c).val ρ= .pointer (some (a.add ((i.den ρ 0).toNat*s+c))):=by rw [SV.val,he];rfl
    refine ct ?_;simp only [execOp,ev hx,e2,aeb]
   ·cases h
  ·rename_i f cs hx;cases h;exact ct (by simp [execOp,ev hx,SV.val])
  ·cases h
 | binOp op t x y yt=>
  simp only [dB]at h;split at h
  ·rename_i ti a b cN ha hb;obtain⟨rfl,hi⟩:=ay hT cN;split at h
   ·rename_i r hr;cases h;have hr2:=CQ (P:=P) (w:=w) (ρ:=ρ) hi (xo:=x) hr;obtain⟨e1,h1,h2⟩:=hr2;subst e1;obtain⟨rv,Pf,RK,re⟩:=res;simp only at h2;subst h2;refine ct ?_;have hy:bK (.const .nilIface)= .nilIface:=by
     have:iG look (.const .nilIface)=some .s6:=rfl;exact ev this
    simp only [execOp,ev ha,hy];rw [adV,h1];rfl
   obtain⟨h1,h2⟩:=JG hi (w:=w) (xo:=x) (yo:=y) h cb;obtain⟨rv,Pf,RK,re⟩:=res;simp only at h2;subst h2;refine ct ?_;simp only [execOp,ev ha,ev hb];rw [adV,h1];rfl
  ·cases h
 | unOp op t x=>
  simp only [dB]at h;split at h
  ·rename_i b hb;cases h;refine ct ?_;simp [execOp,ev hb,SV.val,Op.unary,dh]
  ·rename_i k a ha;cases h;refine ct ?_;simp only [SV.val,lI,E.den];cases k<;>simp [execOp,ev ha,SV.val,Op.unary,Op.intBits,IntKind.signed,IntKind.max,uf,IntKind.hi,ax,LU,IntKind.bits]
  ·rename_i k a ha;simp only [adK]at h;subst h;refine ct ?_;simp only [SV.val,yf cb,eE,E.den];simp [execOp,ev ha,SV.val,Op.unary,Op.intArith]
  ·cases h
 | convert src dst x=>
  simp only [dB]at h;split at h
  ·rename_i RL Q1 k' a h1 h2 ha;split at h
   ·rename_i k hk;cases h;obtain⟨rfl,FN⟩:=ay hT h1;obtain⟨rfl,Jd⟩:=ay hT h2;have cT:=Jd.kind;rw [hk]at cT;have hu:=jf cT;have Wa:(P.underlying RL.t).isSome=true:=by
     have:=FN.kind;unfold gR at this;split at this<;>simp_all
    have W_:P.intKind Q1.t=k:=by simp [Program.intKind,hu]
    refine dH ?_;rw [ev ha,SV.val,run_convert_int w RL.t Q1.t k' _ Wa (by rw [W_];exact hu),W_,SV.val,JD cb]
   ·cases h
  ·rename_i RL Q1 l h1 h2 ha;split at h
   ·rename_i hk;have:=zO (P:=P) (w:=w) (hp:=hp) (S:=S) (nb:=nb) (ρ:=ρ) hT h1 hk h2 h;simp only [execOp,ev ha];exact this
   ·cases h
  ·rename_i RL Q1 l h1 h2 ha;split at h
   ·rename_i hk;have:=AH (P:=P) (w:=w) (hp:=hp) (S:=S) (nb:=nb) (ρ:=ρ) hT h1 hk h2 h cb;simp only [execOp,ev ha];exact this
   ·cases h
  ·rename_i RL Q1 b i s n m h1 h2 ha;split at h
   ·rename_i e hk;split at h
    ·rename_i te j b' cs gK hf;split at h
     ·rename_i hc;obtain⟨rfl,TW⟩:=hc;cases h;obtain⟨e2,Jd⟩:=ay hT h2;subst e2;obtain⟨rfl,PB⟩:=ay hT gK;have cT:=Jd.kind;rw [hk]at cT;have hu:=bL cT;have PG:=PB.kind;rw [TW]at PG;have hue:=jf PG;obtain⟨hj,dM⟩:=cP hf;simp only [Ck.rh,beq_iff_eq]at dM;subst dM;have hS:=cU j (by simp) _ hj;obtain⟨w',r1,r2,r3,r4,r5⟩:=vz (P:=P) hS Q1.t te.t hu hue ((i.den ρ 0).toNat*s) (n.den ρ 0).toNat (m.den ρ 0).toNat;refine⟨w',.inl ?_,⟨⟨_,hj,rfl⟩,rfl,r2,r3,fun k hk=>r4 k fun e=>hk ((hS.1 k).2 e),r5⟩⟩;simp only [execOp,ev ha,SV.val,adV,r1,adR,aeb]
     ·cases h
    ·cases h
   ·rename_i hk;have:=ju (P:=P) (w:=w) (ρ:=ρ) (nb:=nb) (nv:=nv) hT h2 hk h cU cb;simp only [execOp,ev ha];exact this
   ·cases h
  ·rename_i RL Q1 v h1 h2 ha;split at h
   ·rename_i hk;have:=ju (P:=P) (w:=w) (ρ:=ρ) (nb:=nb) (nv:=nv) hT h2 hk h cU cb;simp only [execOp,ev ha];exact this
   ·cases h
  ·rename_i RL Q1 v cs s h1 h2 ha;split at h
   ·rename_i hk;have:=ju (P:=P) (w:=w) (ρ:=ρ) (nb:=nb) (nv:=nv) hT h2 hk h cU cb;simp only [execOp,ev ha];exact this
   ·cases h
  ·rename_i RL Q1 h1 h2 ha;split at h
   ·rename_i hk;have:=ju (P:=P) (w:=w) (ρ:=ρ) (nb:=nb) (nv:=nv) hT h2 hk h cU cb;simp only [execOp,ev ha];exact this
   ·cases h
  ·cases h
 | makeInterface t x=>
  simp only [dB]at h;split at h
  ·rename_i ti k e cN hx;split at h
   ·rename_i hk;cases h;obtain⟨rfl,hi⟩:=ay hT cN;have cT:=hi.kind;rw [hk]at cT;have hu:=jf cT;refine ct ?_;have hc:P.concrete ti.t=true:=by simp [Go.Program.concrete,hu]
    simp only [execOp,ev hx,adV,run_makeInterface w ti.t _ hc,adR,aeb,SV.val]
   ·cases h
  ·cases h
 | sliceToArrayPointer arr x=>
  simp only [dB]at h;split at h
  ·rename_i ta v hta hv;split at h
   ·rename_i n e hk;split at h
    ·rename_i te gK;split at h
     ·cases h
     ·rename_i XC;obtain⟨rfl,FN⟩:=ay hT hta;have cT:=FN.kind;rw [hk]at cT;have hu:=nS cT;split at h
      ·rename_i b i s m c;cases h;have q:=bc cb;simp only [E.den]at q;refine ct ?_;simp only [execOp,ev hv,SV.val,uH];have: ¬(m.den ρ 0).toNat<n:=by omega
       simp [Instr.arrayAt,run_underlying hu,this]
      ·split at h
       ·rename_i v _ r hr;cases h;simp only at cb cU;obtain⟨q1,q2⟩:=bu cb;have q:=bc q2;simp only [E.den]at q;obtain⟨hj,dL⟩:=eM hr cU q1;have QZ:=dL.lo;have XB:=dL.hi;obtain⟨a,cp,k,e1,e2,e3,e4⟩:=dL.is;have cK:(r.p.lo.den ρ 0).toNat<(Option.map ag (Option.map (fun m=>m.den ρ 0) r.p.mx)).getD cp:=by
         cases hm:r.p.mx with
         | none=>simp only [Option.map_none,Option.getD_none];omega
         | some m=>
          have:=(dL.top (m.den ρ 0) (by rw [hm];rfl)).1;simp only [Option.map_some,aes];omega
        have py:=e4 (.inl cK);have hS:=cU r.j (by simp) _ hj;refine ct ?_;simp only [execOp,ev hv,SV.val];rw [e3];have: ¬(r.p.len.den ρ 0).toNat<n:=by omega
        have Wb: ∃ad,a=some ad:=by
         obtain⟨ad,c2,hh⟩:=nM hS (by omega);rw [hh]at e1;simp only [Value.slice.injEq]at e1;exact⟨ad,e1.1.symm⟩
        obtain⟨ad,rfl⟩:=Wb;rw [e1];simp [Instr.arrayAt,run_underlying hu,this,eC,py]
       ·cases h
    ·cases h
   ·cases h
  ·cases h
 | fieldAddr s x f=>
  simp only [dB]at h;split at h
  ·rename_i ts a sW ha;split at h
   ·rename_i fs hk;split at h
    ·rename_i t off hf;split at h
     ·rename_i ti cN;split at h
      ·cases h
      ·rename_i eV;have hZ:=fun ad=>tm (w:=w) hT sW hk hf cN eV ad
       split at h
       ·cases h;refine dH ?_;rw [ev ha,SV.val,hZ,gT,SV.val]
       ·cases h;refine dH ?_;rw [ev ha,SV.val,hZ,gT,SV.val,Nat.add_assoc]
       ·rename_i v i s' c;split at h
        ·rename_i j md v' t' s2 n aA cE;cases h;obtain⟨hj,dM⟩:=cX cE;simp only [Ck.mI,beq_iff_eq]at dM;subst dM;have hS:=cU j (by simp) _ hj;obtain⟨h0,h1⟩:=dq ρ cb;obtain⟨ad,cp,he⟩:=nM hS (by omega);refine dH ?_;rw [ev ha,SV.val,he,eC,hZ,dr,SV.val,he,eC,Nat.add_assoc]
        ·cases h
       ·cases h
     ·cases h
    ·cases h
   ·cases h
  ·cases h
 | field s x f=>
  simp only [dB]at h;split at h
  ·rename_i ts cs sW ha;split at h
   ·rename_i fs hk;split at h
    ·rename_i t off hf;split at h
     ·rename_i ti cN;split at h
      ·rename_i xs Gi;rw [adM]at h;obtain⟨v,hv,rfl⟩:=h;refine dH ?_;rw [ev ha,SV.val];exact wK hT sW hk hf cN Gi hv
      ·cases h
     ·cases h
    ·cases h
   ·cases h
  ·cases h
 | indexAddr t x y=>
  simp only [dB]at h;split at h
  ·rename_i tt a k j fk ha hy;split at h
   ·rename_i e hk;split at h
    ·rename_i te gK;split at h
     ·rename_i b i s n m;split at h
      ·rename_i eV;cases h;have O7:0≤i.den ρ 0:=eJ fun c hc=>cb c (List.mem_append_left _ hc)
       obtain⟨h0,h1⟩:=dq ρ (i:=j) (n:=n) fun c hc=>cb c (List.mem_append_right _ hc)
       refine dH ?_;rw [ev ha,ev hy,SV.val,SV.val,pW hT fk hk gK _ _ _ _ _ h0 (by omega),gT,uH,bH,eV,Int.toNat_add O7 h0,Nat.add_mul,Nat.add_zero]
      ·cases h
     ·split at h
      ·rename_i r hr;split at h
       ·rename_i eV;cases h;simp only at cb cU;obtain⟨w1,w2⟩:=bu cb;obtain⟨hj,dL⟩:=eM hr cU w1;obtain⟨h0,h1⟩:=dq ρ w2;obtain⟨b1,b2,b3,ad,c,q,hv,hc,hx,hq⟩:=dL;have JN:(r.p.lo.den ρ 0).toNat<((r.p.mx.map fun m=>m.den ρ 0).map ag).getD c:=by
         cases UQ:(r.p.mx.map fun m=>m.den ρ 0)with
         | none=>simp only [Option.map_none,Option.getD_none];omega
         | some m=>have:=b3 m UQ;simp only [Option.map_some,aes];omega
        have hq:=hq (.inl JN);have fc: ∃ZR,ad=some ZR:=by
         cases ad with
         | some ZR=>exact⟨ZR,rfl⟩
         | none=>
          obtain⟨a',cp',he⟩:=nM (cU r.j (by simp) _ hj) (by omega);rw [hv]at he;cases he
        obtain⟨ad,rfl⟩:=fc;refine dH ?_;have e3:(SV.int k j).val ρ= .int k (j.den ρ 0):=rfl;have e2:(SV.pv r.v (dC r.p.lo j) r.s 0).val ρ= .pointer (some (ad.add ((r.p.lo.den ρ 0+j.den ρ 0).toNat*r.s+0))):=by rw [SV.val,hv,bH];rfl
        rw [ev ha,ev hy,hx,e2,e3,Option.map_some,pW hT fk hk gK _ _ _ _ _ h0 (by omega),eV,Nat.add_zero,dr,hq,←Nat.add_mul,←Int.toNat_add b1 h0]
       ·cases h
      ·cases h
    ·cases h
   ·rename_i n e hk;split at h
    ·rename_i te gK;split at h
     ·rename_i b c;cases h;obtain⟨h0,h1⟩:=dq ρ cb;refine dH ?_;rw [ev ha,ev hy,SV.val,SV.val,ym hT fk hk gK _ _ _ h0 h1,gT,uH,Nat.add_comm]
     ·cases h
    ·cases h
   ·cases h
  ·cases h
 | index t x y=>
  simp only [dB]at h;split at h
  ·rename_i tt cs k j fk ha hy;split at h
   ·rename_i n e hk;split at h
    ·rename_i te gK;have hi:=(ay hT gK).2;split at h
     ·rename_i l hl;split at h
      ·rename_i hln;split at h
       ·rename_i xs Gi;rw [adM]at h;obtain⟨v,hv,rfl⟩:=h;refine dH ?_;have hd:=cA (ρ:=ρ) hl;rw [ev ha,ev hy,SV.val,SV.val];refine tn hT fk hk gK _ _ _ (by omega) (by omega) ?_;rw [hd,Int.toNat_natCast];exact yl hi Gi hv
       ·cases h
      ·cases h
     ·split at h
      ·rename_i k' m a;split at h
       ·rename_i hc;obtain⟨rfl,je,Ad⟩:=hc;cases h;obtain⟨h0,h1⟩:=dq ρ cb;refine dH ?_;rw [ev ha,ev hy,SV.val,SV.val];refine tn hT fk hk gK _ _ _ h0 h1 ?_;have cK:(j.den ρ 0).toNat<m:=by simp only [E.den]at h1;omega
        have Ah:(SV.ar ρ [SV.aX k' m a])[(j.den ρ 0).toNat]? =some (.int k' (a.den ρ (j.den ρ 0).toNat)):=by
         simp only [SV.ar,SV.cells,adW];rw [bx,if_pos cK]
        rw [je,Nat.mul_one,ej];simp [part,hi.isAgg w,Ad,Ah]
       ·cases h
      ·cases h
    ·cases h
   ·cases h
  ·rename_i tt v k j _ fk hx hy;split at h
   ·rename_i hk;obtain⟨h1,h2⟩:=CP (P:=P) (w:=w) (ρ:=ρ) (k:=k) hT fk hk h cb;obtain⟨rv,Pf,RK,re⟩:=res;simp only at h2;subst h2;refine dH ?_;rw [ev hx,ev hy];exact h1
   ·cases h
  ·cases h
 | extract x i=>
  simp only [dB]at h;split at h
  ·rename_i vs hx;rw [adM]at h;obtain⟨v,hv,rfl⟩:=h;refine ct ?_;have:(SV.bK ρ vs)[i]? =some (v.val ρ):=by
    have key: ∀(l:List SV) (i:Nat),(SV.bK ρ l)[i]? =(l[i]?).map (SV.val ρ):=by
     intro l
     induction l with
     | nil=>intro i;simp [SV.bK]
     | cons x r ih=>intro i;cases i<;>simp [SV.bK,ih]
    rw [key,hv];rfl
   simp [execOp,ev hx,SV.val,Instr.extract,this]
  ·cases h
 | makeFunc fn first jB=>
  simp only [dB]at h;split at h
  ·rename_i f TY;rw [adM]at h;obtain⟨cs,m_,rfl⟩:=h;have:=kg tr _ _ m_;have hf:first= #[]:=ael TY
   subst hf;refine ct ?_;simp only [execOp,adV,Instr.makeFunc,aeb,adR,SV.val];have e5:Array.map bK jB=(SV.bK ρ cs).toArray:=ael (by rw [Array.toList_map,this]);rw [e5];simp
  ·cases h
 | call c=>
  obtain⟨callee,args,argTypes⟩:=c;simp only [dB]at h;split at h
  ·rename_i x t jC CR;have hf:args= #[x]:=ael jC;have hg:argTypes= #[t]:=ael CR;subst hf hg;split at h
   ·rename_i tt v fk hv;obtain⟨h1,h2⟩:=Lk (P:=P) hT fk h cU cb ty;obtain⟨rv,Pf,RK,re⟩:=res;simp only at h2;subst h2;refine ct ?_;simp only [execOp,resolve,invoke,builtin,adV,aeb,adR,aep,ad1,List.map_nil,ev hv];rw [h1];rfl
   ·cases h
  ·rename_i x t jC CR;have hf:args= #[x]:=ael jC;have hg:argTypes= #[t]:=ael CR;subst hf hg;split at h
   ·rename_i tt fk hv;split at h
    ·rename_i e hk;cases h;obtain⟨rfl,oH⟩:=ay hT fk;have cT:=oH.kind;rw [hk]at cT;have hu:=bL cT;refine ct ?_;have hc:(Builtin.cap_ #[tt.t] ty #[.slice none 0 0]).run P w= .ok (goInt 0) w:=by
      simp [Builtin.cap_,run_underlying hu]
     simp only [execOp,resolve,invoke,builtin,adV,aeb,adR,aep,ad1,List.map_nil,ev hv,SV.val];rw [hc];rfl
    ·cases h
   ·cases h
  ·rename_i x y jC;have hf:args= #[x,y]:=ael jC;subst hf;split at h
   ·rename_i k a k' b ha hb;cases h;refine ct ?_;simp only [execOp,resolve,invoke,builtin,adV,aeb,adR,aep,ad1,List.map_nil,ev ha,ev hb,SV.val,lI];simp [Builtin.max_,Builtin.max2,ax]
   ·cases h
  ·rename_i x y jC;have hf:args= #[x,y]:=ael jC;subst hf;split at h
   ·rename_i k a k' b ha hb;cases h;refine ct ?_;simp only [execOp,resolve,invoke,builtin,adV,aeb,adR,aep,ad1,List.map_nil,ev ha,ev hb,SV.val,lI];simp [Builtin.min_,Builtin.min2,ax]
   ·cases h
  ·rename_i x y t t' jC CR;have hf:args= #[x,y]:=ael jC;have hg:argTypes= #[t,t']:=ael CR;subst hf hg;split at h
   ·rename_i tt v u fk hv hu;have:=wU (P:=P) (w:=w) (nb:=nb) hT ng fk h cU cb ty;simp only [execOp,resolve,invoke,builtin,adV,aeb,adR,aep,ad1,List.map_nil,ev hv,ev hu];simp only [adV,aeb]at this;exact this
   ·cases h
  ·rename_i x t jC CR;have hf:args= #[x]:=ael jC;have hg:argTypes= #[t]:=ael CR;subst hf hg;split at h
   ·rename_i tt v fk hv;have:=zM (P:=P) (w:=w) (nb:=nb) (nv:=nv) hT fk h cU cb ty;simp only [execOp,resolve,invoke,builtin,adV,aeb,adR,aep,ad1,List.map_nil,ev hv];simp only [adV,aeb]at this;exact this
   ·cases h
  ·rename_i x y t t' jC CR;have hf:args= #[x,y]:=ael jC;have hg:argTypes= #[t,t']:=ael CR;subst hf hg;split at h
   ·rename_i tt v u fk hv hu;split at h
    ·rename_i heq;subst heq;have:=AG (P:=P) (w:=w) (nb:=nb) (nv:=nv) hT fk h cU cb ty;simp only [execOp,resolve,invoke,builtin,adV,aeb,adR,aep,ad1,List.map_nil,ev hv,ev hu];simp only [adV,aeb]at this;exact this
    ·cases h
   ·cases h
  ·cases h
 | slice t x lo hi mx=>
  simp only [dB]at h;split at h
  ·rename_i tt v l hh m fk hv hl XB hm;split at h
   ·rename_i hk;split at h
    ·cases h
    ·rename_i UQ;have DU:m=none:=by cases m<;>simp_all
     subst DU;obtain⟨h1,h2⟩:=zN (P:=P) (w:=w) (ρ:=ρ) hT fk hk h (iL tr hl) (iL tr XB) cb;have ZS:mx.map bK=none:=by
      have:=iL tr hm;cases hq:mx.map bK with
      | none=>rfl
      | some v=>rw [hq]at this;exact this.elim
     obtain⟨rv,Pf,RK,re⟩:=res;simp only at h2;subst h2;refine dH ?_;rw [ev hv,ZS];exact h1
   obtain⟨h1,h2⟩:=yr (P:=P) (w:=w) hT fk h (iL tr hl) (iL tr XB) (iL tr hm) cU cb;obtain⟨rv,Pf,RK,re⟩:=res;simp only at h2;subst h2;refine dH ?_;rw [ev hv];exact h1
  ·cases h
 | makeMap t r=>
  cases r with
  | some r=>simp [dB]at h
  | none=>
   simp only [dB]at h;have:=uL (P:=P) (w:=w) (hp:=hp) (S:=S) (nv:=nv) (ρ:=ρ) hT DN h;simp only [execOp,Option.map_none];exact this
 | lookup t x k comma=>
  simp only [dB]at h;split at h
  ·rename_i x' k' hx hk;obtain⟨h1,h2⟩:=wM (P:=P) (w:=w) hT h cU;obtain⟨rv,Pf,RK,re⟩:=res;simp only at h2;subst h2;refine dH ?_;rw [ev hx,ev hk];exact h1
  ·cases h
 | mapUpdate t x k v=>
  simp only [dB]at h;split at h
  ·rename_i x' k' v' hx hk hv;obtain⟨h1,j,ck,h2,w',h3,h4⟩:=o9 (P:=P) (w:=w) hT h cU;unfold sV;rw [h2];refine⟨w',.inr ⟨h1,?_⟩,h4⟩;simp only [execOp,ev hx,ev hk,ev hv,adV,h3,adR,aeb]
  ·cases h
 | insert t x k v=>
  simp only [dB]at h;split at h
  ·rename_i x' k' v' hx hk hv;obtain⟨h1,j,ck,h2,w',h3,h4⟩:=o9 (P:=P) (w:=w) hT h cU;unfold sV;rw [h2];refine⟨w',.inr ⟨h1,?_⟩,h4⟩;simp only [execOp,ev hx,ev hk,ev hv,adV,h3,adR,aeb]
  ·cases h
 | makeSlice t n c=>
  simp only [dB]at h;split at h
  ·rename_i tt k n' k' c' fk hn hc;have:=AF (P:=P) (w:=w) (hp:=hp) (S:=S) (nb:=nb) (ρ:=ρ) hT fk h cb k k';have en:bK n= .int k (n'.den ρ 0):=ev hn;have ec:bK c= .int k' (c'.den ρ 0):=ev hc;simp only [execOp,en,ec];exact this
  ·cases h
 | range t x=>
  simp only [dB]at h;split at h
  ·rename_i ti l cN hx;split at h
   ·rename_i hk;cases h;obtain⟨rfl,hi⟩:=ay hT cN;have k1:=hi.kind;rw [hk]at k1;have hu:=FC k1;refine⟨w.alloc (.stringIter ⟨l.toArray⟩ 0),_,if_pos rfl,?_,⟨rfl,rfl,rfl,by simp⟩,by simp,fun k hk=>heap_alloc_old w _ hk,fun k=>Iff.rfl,heap_alloc_new w _⟩;subst DN;have e1:bK x= .string ⟨l.toArray⟩:=ev hx;simp only [execOp,e1,adV,run_range_string w _ _ hu,adR,aeb,SV.val,List.getD_eq_getElem?_getD,jM];rfl
   ·cases h
  ·cases h
 | next x b=>
  cases b with
  | false=>simp [dB]at h
  | true=>
   simp only [dB,Option.bind_eq_some_iff]at h;obtain⟨v,hv,h⟩:=h;unfold I_ at h;split at h
   ·rename_i b;split at h
    ·rename_i j Yn;split at h
     ·rename_i b' l pos hj;split at h
      ·rename_i hbb;subst hbb;have e1:bK x= .pointer (some ⟨ρ.bv.getD b 0,0,none⟩):=ev hv;split at h
       ·rename_i c hc;split at h
        ·rename_i ZT;cases h;obtain⟨hS,hh⟩:=cU j (by simp) _ hj;obtain⟨cK,Ah⟩:=adJ.1 hc;have O_:pos<(⟨l.toArray⟩:ByteArray).size:=by simpa [ByteArray.size] using cK
         have hce:(⟨l.toArray⟩:ByteArray)[pos]'O_=c:=by
          show l.toArray[pos]'_=c;simpa using Ah
         have hn:=Lib.run_next_ascii_at (P:=P) w (ρ.bv.getD b 0) ⟨l.toArray⟩ pos ty hh O_ (by rw [hce];exact ZT);rw [hce]at hn;refine⟨w.iterAt (ρ.bv.getD b 0) ⟨l.toArray⟩ (pos+1),.inl ?_,⟨⟨_,hj,rfl⟩,rfl,⟨rfl,rfl,rfl,by simp [World.iterAt]⟩,by simp [World.iterAt],fun k hk=>?_,fun k=>hS k,?_⟩⟩
         ·simp only [execOp,e1,adV,hn,adR,aeb,SV.val,SV.bK];rfl
         ·have: ¬k=ρ.bv.getD b 0:=fun e=>hk ((hS k).2 e)
          exact Array.getElem?_setIfInBounds_ne (Ne.symm this)
         ·exact Lib.iterAt_heap w _ _ pos (pos+1) hh
        ·cases h
       ·rename_i hc;cases h;obtain⟨hS,hh⟩:=cU j (by simp) _ hj;have hn:=Lib.run_next_end_at (P:=P) w (ρ.bv.getD b 0) ⟨l.toArray⟩ pos ty hh (by
         rw [List.getElem?_eq_none_iff]at hc;simpa [ByteArray.size] using hc)
        refine ct ?_;simp only [execOp,e1,adV,hn,adR,aeb,SV.val,SV.bK];rfl
      ·cases h
     ·cases h
    ·cases h
   ·cases h
 | _=>simp [dB]at h
end
end Go.RX
