/- Executor. -/
import Derived.Lib.OthersKept
import Derived.Test.YtphemenngjkfbaaM11
import Derived.Test.YtphemenngjkfbaaM12
import Derived.Lib.ConvBytes
open Array renaming ext' → aha
open Go.Builtin renaming append_ → agR
open Go.Op renaming equalIn → ag1
open Go.Result renaming andThen_ok → agG
open Go.Sem renaming run_bind → agK, run_pure → ag0
open Int renaming toNat → ag
open List renaming append_nil → agL, getD_cons_zero → ah, getElem?_append_left → agC, getElem?_eq_getElem → ag6, getElem?_eq_some_iff → agx, map_congr_left → ag4, map_cons → agW, map_toArray → ahc, mem_cons_of_mem → agF, mem_cons_self → agA, mem_filter → agP, mem_range → agJ, mem_singleton → agZ, range → ag5
open Option renaming getD_some → ahe, map_eq_some_iff → agz
open Option.some renaming injEq → agy
namespace Go.RX
section
variable {P:Program} {ρ:Env} {w:World} {look:Nat→Option SV} {bQ:Operand→Value} {hp:List Ck} {S:Nat→Nat→Prop} {nb nv:Nat} {T:List TI}
theorem cH{run:Result Next}{v:SV}{vcs:List BE}{rd:List Nat}(h:run= .ok (.value (v.val ρ)) w):Did P ρ w hp S nb nv run {val:=v,vcs:=vcs,rd:=rd}:=h
theorem ei{s:Sem Value}{v:SV}{vcs:List BE}{rd:List Nat}(h:s.run P w= .ok (v.val ρ) w):
  Did P ρ w hp S nb nv ((do pure (.value (←s)):Sem Next).run P w) {val:=v,vcs:=vcs,rd:=rd}:=by
 apply cH;simp only [agK,h,agG,ag0]
theorem J3{c:BE}{a b v:SV}(h:Fc c a b=some v):v.val ρ=if c.den ρ then a.val ρ else b.val ρ:=by
 unfold Fc at h;split at h
 ·cases h;simp [BE.den]
 ·cases h;simp [BE.den]
 ·split at h
  ·cases h;simp only [SV.val,oY];cases c.den ρ<;>rfl
  ·split at h
   ·rename_i hg;cases h;subst hg;simp only [SV.val,oY,dG];cases c.den ρ<;>rfl
   ·cases h
  ·split at h
   ·rename_i hg;cases h;subst hg;simp only [SV.val,oY];cases h:BE.den ρ _<;>simp
   ·cases h
  ·cases h
theorem Np(hT:bC P T=true){t:TypeId}{tt:TI}(fL:aW T t=some tt){v:SV}{res:iC}(h:JY hp tt.k v=some res)
  (dp:Reads hp ρ w S res.rd) (cu: ∀b∈res.vcs,b.prop ρ) (ty:TypeId):
  (Builtin.len_ #[t] ty #[v.val ρ]).run P w= .ok (res.val.val ρ) w∧res.ij= .none:=by
 unfold JY at h;split at h
 ·rename_i e hk;split at h
  ·rename_i b i s n m;cases h;have:=fe cu;refine⟨?_,rfl⟩;show(Builtin.len_ #[t] ty #[.slice (some ⟨ρ.bv.getD b 0,(i.den ρ 0).toNat*s,none⟩) (n.den ρ 0).toNat (m.den ρ 0).toNat]).run P w=_;rw [pQ hT fL hk,goInt,Int.toNat_of_nonneg this];rfl
  ·cases h;exact⟨pQ hT fL hk _ _ _ _,rfl⟩
  ·rename_i v;split at h
   ·rename_i j md v' t' s n aA cU;cases h;obtain⟨hj,ew⟩:=dr cU;simp only [Ck.nP,beq_iff_eq]at ew;subst ew;have hS:=dp j (by simp) _ hj;have:=fe cu;obtain⟨ad,cp,he⟩:=RN hS;have e1:(SV.vv v).val ρ= .slice ad (n.den ρ 0).toNat cp:=he;refine⟨?_,rfl⟩;rw [e1,pQ hT fL hk,SV.val,goInt,Int.toNat_of_nonneg this]
   ·cases h
  ·rename_i v cs s;split at h
   ·rename_i r hr;cases h;simp only at cu dp;obtain⟨v1,v2⟩:=bB cu;have v2:=bg v2;simp only [E.den]at v2;obtain⟨_,eu⟩:=fh hr dp v1;obtain⟨_,_,_,a,c,k,_,_,hx,_⟩:=eu;refine⟨?_,rfl⟩;rw [hx,pQ hT fL hk,SV.val,goInt,Int.toNat_of_nonneg v2]
   ·cases h
  ·cases h
 ·rename_i hk;split at h
  ·rename_i l;cases h;exact⟨Ad hT fL hk _ _,rfl⟩
  ·rename_i s;cases h;have:=fe cu;refine⟨?_,rfl⟩;have e1:(SV.lZ s).val ρ= .string ⟨(eI (s.den ρ)).toArray⟩:=rfl;rw [e1,Ad hT fL hk,SV.val,goInt];congr 2;have e:=LK ρ s;simp only [ByteArray.size,List.size_toArray];omega
  ·cases h
 ·cases h
theorem y5(hT:bC P T=true)(mY:ρ.Ok){ts:TypeId}{tt:TI}(fL:aW T ts=some tt){x y:SV}{res:iC}(h:xD T hp nv tt.k x y=some res)
  (dp:Reads hp ρ w S res.rd) (cu: ∀b∈res.vcs,b.prop ρ) (ty:TypeId):
  Did P ρ w hp S nb nv ((do pure (.value (←agR #[ts,ts] ty #[x.val ρ,y.val ρ])):Sem Next).run P w) res:=by
 unfold xD at h;split at h
 ·rename_i v b i s m cap;split at h
  ·rename_i j v' t s' n aA j' b' wr cs h1 h2;split at h
   ·rename_i aV te qT ik;split at h
    ·rename_i hc;obtain⟨rfl,rfl,hk,rfl,hw,hl,qG,jJ,fx⟩:=hc;cases h;obtain⟨hj,ew⟩:=dr h1;simp only [Ck.nP,beq_iff_eq]at ew;subst ew;obtain⟨lW,QT⟩:=c_ h2;simp only [Ck.sN,beq_iff_eq]at QT;subst QT;have FD:0≤n.den ρ 0:=fe fun c hc=>cu c (List.mem_append_left _ hc)
     have Ir:=cu _ (List.mem_append_right _ (agZ.2 rfl));have:=Er (P:=P) (w:=w) (nb:=nb) (nv:=nv) (cap:=(cap.den ρ 0).toNat) hT mY fL hk ik fx qG hj (dp j (by simp) _ hj) lW (dp j' (by simp) _ lW) hw hl jJ qT FD Ir ty;have e1:(SV.sl b (.lit 0) s (.lit 1) cap).val ρ= .slice (some ⟨ρ.bv.getD b 0,0,none⟩) 1 (cap.den ρ 0).toNat:=by
      simp [SV.val,E.den]
     rw [e1];exact this
    ·cases h
   ·cases h
  ·cases h
 ·rename_i b i s m cap;split at h
  ·rename_i j' b' wr cs t h2 hk;split at h
   ·rename_i te aA ik eU;split at h
    ·rename_i aV qT;split at h
     ·rename_i hc;obtain⟨rfl,rfl,hw,hl,qG,jJ,fx,Ir⟩:=hc;cases h;obtain⟨lW,QT⟩:=c_ h2;simp only [Ck.sN,beq_iff_eq]at QT;subst QT;have e1:(SV.sl b (.lit 0) s (.lit 1) cap).val ρ= .slice (some ⟨ρ.bv.getD b 0,0,none⟩) 1 (cap.den ρ 0).toNat:=by
       simp [SV.val,E.den]
      rw [e1];exact wM (P:=P) (w:=w) (hp:=hp) (S:=S) (nb:=nb) (nv:=nv) hT mY fL hk ik fx qG (dp j' (by simp) _ lW) hw hl jJ qT Ir ty
     ·cases h
    ·cases h
   ·cases h
  ·cases h
 ·cases h
theorem xH{b:Nat}{cs:List Value}{S:Nat→Prop}(hS:(ao b true cs).p w S)(t e:TypeId)(ht:P.underlying t=some (.slice e))(he:P.underlying e=some (.int .u8))(o n c:Nat):
  ∃w',(convert t t (.slice (some ⟨b,o,none⟩) n c)).run P w= .ok (.slice (some ⟨b,o,none⟩) n c) w'∧gu w w'∧w'.heap.size=w.heap.size∧(∀k,k≠b→w'.heap[k]? =w.heap[k]?)∧(ao b false cs).p w' S:=by
 obtain⟨h1,ty,fz,hg,_⟩:=hS;have Y_:w.shape? b=some (ty,cs.length):=by
  unfold World.shape?;rw [hg];simp
 refine⟨w.freeze ⟨b,cs.length,none⟩ 1,by simp [convert,run_underlying ht,run_underlying he,markStringish,Y_],?_,?_,?_,h1,?_⟩
 ·unfold World.freeze;rw [if_neg (by decide)];exact⟨rfl,rfl,rfl,by simp⟩
 ·unfold World.freeze;rw [if_neg (by decide)];simp
 ·intro k hk;unfold World.freeze;rw [if_neg (by decide)];simp [Array.getElem?_modify,Ne.symm hk]
 ·unfold World.freeze;rw [if_neg (by decide)];obtain⟨lo,hi⟩:=fz;exact⟨ty,_,by simp only [Array.getElem?_modify,if_true,hg,Option.map_some];rfl,fun h=>by cases h⟩
theorem oL{t:TypeId}{tt:TI}(hT:bC P T=true)(fL:aW T t=some tt)(hk:tt.k= .str)(l:List UInt8)(k:IntKind)(j:Int)(h0:0≤j)(h1:j.toNat<l.length):
  (Instr.index t (.string ⟨l.toArray⟩) (.int k j)).run P w= .ok (.int .u8 ((l.getD j.toNat 0).toNat:Nat)) w:=by
 obtain⟨rfl,hi⟩:=ay hT fL;have dg:=hi.kind;rw [hk]at dg;have hu:P.underlying tt.t=some .string:=by
  unfold iA at dg;split at dg<;>simp_all
 have hg:(⟨l.toArray⟩:ByteArray)[j.toNat]? =some (l.getD j.toNat 0):=by
  have cZ:j.toNat<(⟨l.toArray⟩:ByteArray).size:=by simpa [ByteArray.size] using h1
  rw [getElem?_pos (⟨l.toArray⟩:ByteArray) j.toNat cZ];simp only [List.getD,ag6 h1,ahe];rfl
 simp [Instr.index,asIntOf,run_underlying hu,h0,hg]
theorem pB{l:List BE}(h: ∀b∈l.filter (fun b=>b != .lit true),b.prop ρ): ∀b∈l,b.prop ρ:=by
 intro b hb;by_cases hc:b= .lit true
 ·subst hc;rfl
 ·exact h b (agP.2 ⟨hb,by simpa using hc⟩)
theorem Fm{t:TypeId}{tt:TI}(hT:bC P T=true)(fL:aW T t=some tt)(hk:tt.k= .str){v:SV}{k:IntKind}{j:E}{res:iC}(h:JX v j=some res)(cu: ∀b∈res.vcs,b.prop ρ):
  (Instr.index t (v.val ρ) (.int k (j.den ρ 0))).run P w= .ok (res.val.val ρ) w∧res.ij= .none:=by
 unfold JX at h;split at h
 ·rename_i l;split at h
  ·rename_i i;split at h
   ·rename_i hl;cases h;exact⟨oL hT fL hk l k _ (by simp [E.den]) (by simpa [E.den] using hl),rfl⟩
   ·cases h
  ·cases h;have h2:=pB cu;have q0:=of_decide_eq_true (iy ρ _ _▸(BE.cq ρ _).2 (h2 _ agA));have q1:=of_decide_eq_true (uV ρ _ _▸(BE.cq ρ _).2 (h2 _ (agF _ agA)));simp only [c8]at q0 q1;refine⟨?_,rfl⟩;have e1:(SV.str l).val ρ= .string ⟨l.toArray⟩:=rfl;rw [e1,oL hT fL hk l k _ q0 (by omega),SV.val,eO,Ic]
 ·rename_i s;cases h;have h2:=pB cu;have q0:=of_decide_eq_true (iy ρ _ _▸(BE.cq ρ _).2 (h2 _ agA));have q1:=of_decide_eq_true (uV ρ _ _▸(BE.cq ρ _).2 (h2 _ (agF _ agA)));simp only [c8,gw]at q0 q1;refine⟨?_,rfl⟩;have cZ:(j.den ρ 0).toNat<(s.den ρ 0).toNat:=by omega
  have e1:(SV.lZ s).val ρ= .string ⟨(eI (s.den ρ)).toArray⟩:=rfl;rw [e1,oL hT fL hk _ k _ q0 (by rw [cS];exact cZ),SV.val,eO,FM];congr 2;simp [List.getD,kR _ cZ,LA]
 ·cases h
theorem J4(l:List UInt8)(a b:Nat):(⟨l.toArray⟩:ByteArray).extract a b=⟨((l.take b).drop a).toArray⟩:=by
 apply ByteArray.ext;rw [ByteArray.data_extract];apply aha;simp [List.drop_take]
theorem tw{t:TypeId}{tt:TI}(hT:bC P T=true)(fL:aW T t=some tt)(hk:tt.k= .str)(L:List UInt8){lo hi:Option Value}{l h:Option Int}(hl:f_ lo l)(hh:f_ hi h)
  (h0:0≤l.getD 0) (h1:l.getD 0≤h.getD (L.length:Int)) (h2:h.getD (L.length:Int)≤L.length):
  (Instr.sliceAt t (.string ⟨L.toArray⟩) lo hi none).run P w= .ok (.string ⟨((L.take (h.getD (L.length:Int)).toNat).drop (l.getD 0).toNat).toArray⟩) w:=by
 obtain⟨rfl,oq⟩:=ay hT fL;have dg:=oq.kind;rw [hk]at dg;have hu:P.underlying tt.t=some .string:=by
  unfold iA at dg;split at dg<;>simp_all
 have hb:=ua (P:=P) (w:=w) false L.length L.length (lo:=lo) (hi:=hi) (mx:=none) (m:=none) hl hh True.intro (by simp) h0 h1 (by simp) (fun _=>h2);have fx:(⟨L.toArray⟩:ByteArray).size=L.length:=by simp [ByteArray.size]
 simp only [Instr.sliceAt,Instr.slice,agK,run_underlying hu,agG,fx,J4];simp [hb]
theorem wj{t:TypeId}{tt:TI}(hT:bC P T=true)(fL:aW T t=some tt)(hk:tt.k= .str)(s a b:E){lo hi:Option Value}{l h:Option Int}(hl:f_ lo l)(hh:f_ hi h)
  (ha:a.den ρ 0=l.getD 0) (hb: ∀n:Int,(0≤s.den ρ 0→n=s.den ρ 0)→b.den ρ 0=h.getD n∨(h=none∧b.den ρ 0=s.den ρ 0)) (cu: ∀b'∈(uB s a b).vcs,b'.prop ρ):
  (Instr.sliceAt t (.string ⟨(eI (s.den ρ)).toArray⟩) lo hi none).run P w= .ok ((uB s a b).val.val ρ) w:=by
 unfold uB at cu ⊢;have leP: ∀x y:E,(∀b'∈uB.Za x y,b'.prop ρ)→x.den ρ 0≤y.den ρ 0:=by
  intro x y h;unfold uB.Za at h;split at h
  ·rename_i he;rw [he];exact Int.le_refl _
  ·exact of_decide_eq_true (iy ρ _ _▸(BE.cq ρ _).2 (pB h _ (agZ.2 rfl)))
 have q1:=leP _ _ fun c hc=>cu c (List.mem_append_left _ (List.mem_append_left _ hc))
 have q2:=leP _ _ fun c hc=>cu c (List.mem_append_left _ (List.mem_append_right _ hc))
 have q3:=leP _ _ fun c hc=>cu c (List.mem_append_right _ hc)
 simp only [c8,gw]at q1 q2 q3;have hlen:((eI (s.den ρ)).length:Int)=s.den ρ 0:=by rw [cS];omega
 have hbe:b.den ρ 0=h.getD ((eI (s.den ρ)).length:Int):=by
  rcases hb (eI (s.den ρ)).length (fun _=>hlen)with e | ⟨e1,e2⟩
  ·exact e
  ·rw [e1,e2];exact hlen.symm
 have:=tw (P:=P) (w:=w) hT fL hk (eI (s.den ρ)) hl hh (by rw [←ha];exact q1) (by rw [←ha,←hbe];exact q2) (by rw [←hbe,hlen];exact q3);rw [this,SV.val,LL ρ s a b q1 q2 q3,←hbe,←ha]
theorem BL{t:TypeId}{tt:TI}(hT:bC P T=true)(fL:aW T t=some tt)(hk:tt.k= .str){v:SV}{l h:Option E}{res:iC}(hs:Bz v l h=some res)
  {lo hi:Option Value} (hl:f_ lo (l.map fun e:E=>e.den ρ 0)) (hh:f_ hi (h.map fun e:E=>e.den ρ 0)) (cu: ∀b∈res.vcs,b.prop ρ):
  (Instr.sliceAt t (v.val ρ) lo hi none).run P w= .ok (res.val.val ρ) w∧res.ij= .none:=by
 have ga: ∀(o:Option E) (d:E),(o.getD d).den ρ 0=(o.map fun e:E=>e.den ρ 0).getD (d.den ρ 0):=by intro o d;cases o<;>rfl
 unfold Bz at hs;split at hs
 ·rename_i L;split at hs
  ·rename_i a b e1 e2;split at hs
   ·rename_i hc;cases hs;have f1:=ga l (.lit 0);have f2:=ga h (.lit L.length);rw [e1]at f1;rw [e2]at f2;simp only [c8]at f1 f2;refine⟨?_,rfl⟩;have:=tw (P:=P) (w:=w) hT fL hk L hl hh (by rw [←f1];simp) (by rw [←f1,←f2];exact Int.ofNat_le.2 hc.1) (by rw [←f2];exact Int.ofNat_le.2 hc.2);rw [SV.val,this,SV.val,←f1,←f2];simp
   ·cases hs
  ·rename_i a b eJ;cases hs;refine⟨?_,rfl⟩;have:=wj (P:=P) (w:=w) (ρ:=ρ) hT fL hk (fZ L) (l.getD (.lit 0)) (h.getD (.lit L.length)) hl hh (ga l (.lit 0)) (fun n hn=>by
    left;rw [ga h (.lit L.length),c8,hn (by rw [mW];simp [Lz]),mW];rfl) cu
   rw [mW,oU]at this;exact this
 ·rename_i s;cases hs;refine⟨?_,rfl⟩;exact wj (P:=P) (w:=w) (ρ:=ρ) hT fL hk s (l.getD (.lit 0)) (h.getD (lD s)) hl hh (ga l (.lit 0)) (fun n hn=>by
   cases h with
   | none=>exact .inr ⟨rfl,by simp [gw]⟩
   | some e=>exact .inl rfl) cu
 ·cases hs
theorem WM{t:TypeId}(hu: ∃m,P.underlying t=some (.interface m))(d:Nat):(ag1 (d+1) t .nilIface .nilIface).run P w= .ok true w:=by
 obtain⟨m,hu⟩:=hu;have xP:=run_underlying hu w;rw [ag1];simp only [agK,xP,agG];rfl
theorem Zj{t t':TypeId}{v:Value}(hu: ∃m,P.underlying t=some (.interface m))(d:Nat):(ag1 (d+1) t (.iface t' v) .nilIface).run P w= .ok false w:=by
 obtain⟨m,hu⟩:=hu;have xP:=run_underlying hu w;rw [ag1];simp only [agK,xP,agG];rfl
theorem J5(x:Value): ∃t v,uS x= .iface t v:=by
 unfold uS;split<;>exact⟨_,_,rfl⟩
theorem Fo{ti:TI}(c9:lF P ti){op:BinOp}{xo yo:Operand}{a:SV}{r:iC}(h:BC ti op yo a=some r):
  yo= .const .nilIface∧(do eqGuard op ti.t xo yo (a.val ρ) .nilIface;binOp op ti.t (a.val ρ) .nilIface:Sem Value).run P w= .ok (r.val.val ρ) w∧r.ij= .none:=by
 have hk:=c9.kind;have hu:ti.k= .iface→∃m,P.underlying ti.t=some (.interface m):=by
  intro e;rw [e]at hk;unfold iA at hk;split at hk<;>simp_all
 have g1: ∀v,(eqGuard op ti.t xo (.const .nilIface) v .nilIface).run P w= .ok () w:=by
  intro v;cases op<;>cases v<;>simp [eqGuard]
 unfold BC at h;split at h
 ·rename_i sP;have hu:=hu sP;split at h
  ·cases h;exact⟨rfl,bq (g1 _) (dO rfl fun d=>WM hu d),rfl⟩
  ·cases h;exact⟨rfl,bq (g1 _) (dP rfl fun d=>WM hu d),rfl⟩
  ·cases h
 ·rename_i t' k' e' sP;have hu:=hu sP;have hv: ∀d,(ag1 (d+1) ti.t ((SV.NP t' k' e').val ρ) .nilIface).run P w= .ok false w:=fun d=>Zj hu d
  split at h
  ·cases h;exact⟨rfl,bq (g1 _) (dO rfl hv),rfl⟩
  ·cases h;exact⟨rfl,bq (g1 _) (dP rfl hv),rfl⟩
  ·cases h
 ·rename_i c v sP;have hu:=hu sP;obtain⟨t',x,hx⟩:=J5 (ρ.vv.getD v V1.nil).v;have hv: ∀d,(ag1 (d+1) ti.t ((SV.Ia c v).val ρ) .nilIface).run P w= .ok (!c.den ρ) w:=by
   intro d;simp only [SV.val];cases c.den ρ with
   | true=>simp only [if_true,hx];exact Zj hu d
   | false=>simp only [Bool.false_eq_true,if_false];exact WM hu d
  have ZF:binOp .eql ti.t ((SV.Ia c v).val ρ) .nilIface=(do pure (.bool (←Op.equal ti.t ((SV.Ia c v).val ρ) .nilIface)):Sem Value):=by
   simp only [SV.val];cases c.den ρ with
   | true=>simp only [if_true,hx];rfl
   | false=>rfl
  have WW:binOp .neq ti.t ((SV.Ia c v).val ρ) .nilIface=(do pure (.bool (!(←Op.equal ti.t ((SV.Ia c v).val ρ) .nilIface))):Sem Value):=by
   simp only [SV.val];cases c.den ρ with
   | true=>simp only [if_true,hx];rfl
   | false=>rfl
  split at h
  ·cases h;refine⟨rfl,bq (g1 _) ?_,rfl⟩;rw [dO ZF hv];simp [SV.val,dG]
  ·cases h;refine⟨rfl,bq (g1 _) ?_,rfl⟩;rw [dP WW hv];simp [SV.val]
  ·cases h
 ·cases h
theorem qv(w:World)(e:TypeId)(s:ByteArray):gu w (Lib.bytesWorld w e s):=by
 unfold Lib.bytesWorld World.freeze;rw [if_neg (by decide)];exact⟨rfl,rfl,rfl,by simp⟩
theorem tz(w:World)(e:TypeId)(s:ByteArray):w.heap.size<(Lib.bytesWorld w e s).heap.size:=by rw [Lib.bytesWorld_size];omega
theorem xI(w:World)(e:TypeId)(s:E):
  World.views (Lib.bytesWorld w e ⟨(eI (s.den ρ)).toArray⟩) (.slice (some ⟨w.heap.size,0,none⟩) (s.den ρ 0).toNat (grownCap w (s.den ρ 0).toNat 0 e)) ((lD s).den ρ 0).toNat
   (aI ρ ((lD s).den ρ 0).toNat [⟨.int .u8,1,LJ s⟩]):=by
 refine⟨_,_,_,rfl,by rw [gw],grownCap_ge ..,fun h=>(nomatch h),fun ad had=>⟨fun _=>?_,fun j u hu=>?_⟩⟩
 ·cases had;rfl
 ·cases had;rw [eC,bE,gw]at hu;split at hu
  ·rename_i hj;have:=Lib.bytesWorld_cell w e ⟨(eI (s.den ρ)).toArray⟩ j (by simpa [ByteArray.size,cS] using hj);rw [eZ,Nat.zero_add];cases hu;rw [this,FM];congr 2;simp [List.getD,kR _ hj,LA]
  ·cases hu
theorem CJ(hT:bC P T=true){src dst:TypeId}{ts ti:TI}(uK:aW T src=some ts)(hk:ts.k= .str)(c9:aW T dst=some ti){v:SV}{res:iC}(h:bytesOf T nv ti.k v=some res)(cu: ∀b∈res.vcs,b.prop ρ):
  Did P ρ w hp S nb nv ((do pure (.value (←convert src dst (v.val ρ))):Sem Next).run P w) res:=by
 obtain⟨rfl,DF⟩:=ay hT uK;obtain⟨rfl,H5⟩:=ay hT c9;have dg:=DF.kind;rw [hk]at dg;have Zk:P.underlying ts.t=some .string:=by
  unfold iA at dg;split at dg<;>simp_all
 unfold bytesOf at h;split at h
 ·rename_i e he;split at h
  ·rename_i te s ik hs;split at h
   ·rename_i hc;obtain⟨WN,iX⟩:=hc;cases h;obtain⟨rfl,RY⟩:=ay hT ik;have k2:=H5.kind;rw [he]at k2;have hu2:=bR k2;have k3:=RY.kind;rw [WN]at k3;have hu3:=jU k3;have q0:=of_decide_eq_true (iy ρ _ _▸(BE.cq ρ _).2 (pB cu _ (agZ.2 rfl)));simp only [c8,gw]at q0;have hv:=tU ρ hs;have iL:=Lib.run_convert_string_bytes (P:=P) w ts.t ti.t te.t ⟨(eI (s.den ρ)).toArray⟩ Zk hu2 hu3;have fx:(⟨(eI (s.den ρ)).toArray⟩:ByteArray).size=(s.den ρ 0).toNat:=by simp [ByteArray.size,cS]
    rw [fx]at iL;refine⟨te.t,1,lD s,[⟨.int .u8,1,LJ s⟩],.slice (some ⟨w.heap.size,0,none⟩) (s.den ρ 0).toNat (grownCap w (s.den ρ 0).toNat 0 te.t),Lib.bytesWorld w te.t ⟨(eI (s.den ρ)).toArray⟩,fun k=>k=w.heap.size∧0<(s.den ρ 0).toNat,rfl,rfl,by rw [hv,agK,iL];rfl,rfl,?_,?_,?_,?_⟩
    ·exact qv w te.t _
    ·exact fun k hk=>Lib.bytesWorld_at_old w te.t _ k hk
    ·refine⟨?_,fun k=>?_⟩
     ·simp only [Bool.false_eq_true,if_false];exact⟨by rw [dI];simp [cn],xI w te.t s⟩
     ·simp [Value.ownBlock,gw,eq_comm]
    ·intro k hk;refine⟨by omega,?_⟩;rw [hk.1];exact tz w te.t _
   ·cases h
  ·cases h
 ·cases h
theorem BM(hT:bC P T=true){src dst:TypeId}{ts ti:TI}(uK:aW T src=some ts)(hk:ts.k= .str)(c9:aW T dst=some ti){l:List UInt8}{res:iC}(h:BB T nv ti.k l=some res):
  Did P ρ w hp S nb nv ((do pure (.value (←convert src dst ((SV.str l).val ρ))):Sem Next).run P w) res:=by
 obtain⟨rfl,DF⟩:=ay hT uK;obtain⟨rfl,H5⟩:=ay hT c9;have dg:=DF.kind;rw [hk]at dg;have Zk:P.underlying ts.t=some .string:=by
  unfold iA at dg;split at dg<;>simp_all
 unfold BB at h;split at h
 ·rename_i e he;split at h
  ·rename_i te ik;split at h
   ·rename_i hc;obtain⟨WN,iX,hl⟩:=hc;cases h;obtain⟨rfl,RY⟩:=ay hT ik;have k2:=H5.kind;rw [he]at k2;have hu2:=bR k2;have k3:=RY.kind;rw [WN]at k3;have hu3:=jU k3;have iL:=Lib.run_convert_string_bytes (P:=P) w ts.t ti.t te.t ⟨l.toArray⟩ Zk hu2 hu3;have fx:(⟨l.toArray⟩:ByteArray).size=l.length:=by simp [ByteArray.size]
    have uJ:=grownCap_ge w l.length 0 te.t;have l6:(Lib.bytesCells w te.t ⟨l.toArray⟩).toList=(l.map fun b=>Value.int .u8 b.toNat)++List.replicate (grownCap w l.length 0 te.t - l.length) (.int .u8 0):=by
     simp [Lib.bytesCells,fx]
    rw [fx]at iL;have hn:(E.den ρ (.lit (l.length:Int)) 0).toNat=l.length:=by simp [E.den]
    refine⟨te.t,1,.lit l.length,[⟨.int .u8,1,.qw (l.map fun b=>(b.toNat:Int))⟩],.slice (some ⟨w.heap.size,0,none⟩) l.length (grownCap w l.length 0 te.t),Lib.bytesWorld w te.t ⟨l.toArray⟩,fun k=>k=w.heap.size,rfl,rfl,by rw [SV.val,agK,iL];rfl,rfl,?_,?_,⟨?_,fun k=>?_⟩,?_⟩
    ·exact qv w te.t _
    ·exact fun k hk=>Lib.bytesWorld_at_old w te.t _ k hk
    ·simp only [if_true];rw [hn,eC];refine⟨by rw [aH,Nat.mul_one],.inr ⟨w.heap.size,0,_,Lib.bytesCells w te.t ⟨l.toArray⟩,rfl,⟨te.t,_,Lib.bytesWorld_at_new w te.t _,.inr (Nat.le_refl _)⟩,uJ,grownCap_le_maxLen w l.length 0 te.t (by unfold maxLen;omega),fun _=>?_,?_⟩⟩
     ·rw [←Array.length_toList,l6];simp;omega
     ·rw [List.drop_zero,l6,Nat.mul_one];apply List.ext_getElem?;intro j;rw [bE,List.getElem?_take];split
      ·rename_i hj;rw [agC (by simpa using hj),List.getElem?_map,ag6 hj];simp [E.den,List.getD,hj]
      ·rfl
    ·simp [Value.ownBlock,eq_comm]
    ·intro k hk;exact⟨by omega,by rw [hk];exact tz w te.t _⟩
   ·cases h
  ·cases h
 ·cases h
theorem Nq(a:Addr)(k:Nat)(h:a.spot=none):(a.add k).spot=none:=by
 unfold Addr.add;split<;>simp_all
theorem D6{md:Bool}{t s n:Nat}{v:Value}{cs:List Value}{S:Nat→Prop}(h:(aC md t s v n cs).p w S):World.views w v n cs∧cs.length=n*s:=by
 obtain⟨h0,_⟩:=h;cases md with
 | true=>
  simp only [if_true]at h0;have TR:=h0;obtain⟨hl,hr⟩:=h0;refine⟨?_,hl⟩;rcases hr with⟨rfl,rfl⟩ | ⟨g,o,cap,cur,rfl,hg,FL,_⟩
  ·exact⟨none,0,0,rfl,rfl,Nat.le_refl _,fun _=>rfl,by simp⟩
  ·refine⟨_,n,cap,rfl,rfl,FL,by simp,?_⟩;rintro _ ⟨⟩;exact⟨fun _=>rfl,fun j u hu=>jQ TR j u hu⟩
 | false=>
  simp only [Bool.false_eq_true,if_false]at h0;exact⟨h0.2,h0.1⟩
theorem xJ(ad:Addr)(l:List Value)(n:Nat)(hn:l.length=n)(h: ∀(j:Nat) v,l[j]? =some v→w.cell? (ad.add j)=some v):(loadCells ad n).run P w= .ok l.toArray w:=by
 subst hn;exact run_loadCells_list (P:=P) w ad l h
theorem jc{src dst e:TypeId}(hs:P.underlying src=some (.slice e))(he:P.underlying e=some (.int .u8))(hd:P.underlying dst=some .string){a:Option Addr}{m c:Nat}{f:Nat→Int}(h0:a=none→m=0)(hc: ∀ad,a=some ad→∀(j:Nat) u,(ak .u8 m f)[j]? =some u→w.cell? (ad.add j)=some u):
  (convert src dst (.slice a m c)).run P w= .ok (.string ⟨((ag5 m).map fun j=>UInt8.ofNat (f j).toNat).toArray⟩) w:=by
 rw [run_convert_bytes_string w src dst e a m c hs he hd];cases a with
 | none=>
  have:=h0 rfl;subst this;simp [Conv.bytesToString,ag0];rfl
 | some ad=>
  have hl:(loadCells ad m).run P w= .ok (((ag5 m).map f).map (Value.int .u8)).toArray w:=by
   rw [List.map_map];exact xJ ad _ m (by simp) fun j u hu=>hc ad rfl j u hu
  rw [run_bytesToString w ad m c _ hl,foldl_push_bytes,List.map_map];simp [ByteArray.empty,ByteArray.emptyWithCapacity,Function.comp_def];rfl
theorem HE{t:TypeId}(h:iA (P.underlying t) .str=true):P.underlying t=some .string:=by
 unfold iA at h;split at h<;>simp_all
theorem ob(a n:E):eI ((sG a n).den ρ)=(ag5 (n.den ρ 0).toNat).map fun j=>UInt8.ofNat (a.den ρ j).toNat:=by
 unfold sG;split
 ·rename_i k hk;have hn:=cM (ρ:=ρ) hk;split
  ·rename_i l hl;have hl:=ub (ρ:=ρ) hl;subst hl;rw [hn,Int.toNat_natCast];unfold eI;simp only [E.den,ah,Int.toNat_natCast];refine ag4 fun j hj=>?_
   have hj:=agJ.1 hj;simp [hj]
  ·exact zU ρ a n
 ·exact zU ρ a n
theorem CL{src dst e:TypeId}(hs:P.underlying src=some (.slice e))(he:P.underlying e=some (.int .u8))(hd:P.underlying dst=some .string){v:SV}{res:iC}(h:Fh hp v=some res)(dp:Reads hp ρ w S res.rd)(cu: ∀b∈res.vcs,b.prop ρ):
  Did P ρ w hp S nb nv ((do pure (.value (←convert src dst (v.val ρ))):Sem Next).run P w) res:=by
 unfold Fh at h;split at h
 ·cases h;refine ei ?_;exact jc (P:=P) (w:=w) (a:=none) (m:=0) (c:=0) (f:=fun _=>0) hs he hd (fun _=>rfl) fun _ h=>nomatch h
 ·rename_i b i n m;split at h
  ·rename_i j b' wr cs i' n' hf hi hn;split at h
   ·rename_i xs Ig;split at h
    ·rename_i kl a L9;split at h
     ·rename_i Rh;cases h;obtain⟨hj,ew⟩:=c_ hf;simp only [Ck.sN,beq_iff_eq]at ew;subst ew;have hS:=dp j (by simp) _ hj;obtain⟨h1,ty,fz,hg,_⟩:=hS;have hi:=cM (ρ:=ρ) hi;have hn:=cM (ρ:=ρ) hn;refine ei ?_;have R5:=gZ (ρ:=ρ) L9;rw [Rh,List.length_replicate,pK]at R5;obtain⟨U9,hle⟩:=e9 (ρ:=ρ) Ig;rw [U9]at R5;rw [oW,ob,c8,Int.toNat_natCast];have e1:(SV.sl b i 1 n m).val ρ= .slice (some ⟨ρ.bv.getD b 0,i',none⟩) n' (m.den ρ 0).toNat:=by simp [SV.val,hi,hn]
      rw [e1];refine jc (P:=P) (w:=w) (f:=a.den ρ) hs he hd (fun h=>nomatch h) ?_;rintro _ ⟨⟩ j u hu;rw [←R5,List.getElem?_take]at hu;split at hu
      ·rw [List.getElem?_drop]at hu;rw [eZ];simp only [World.cell?,hg];simpa using hu
      ·cases hu
     ·cases h
    ·cases h
   ·cases h
  ·rename_i j b' wr m' a hf hi hn;cases h;obtain⟨hj,ew⟩:=c_ hf;simp only [Ck.sN,beq_iff_eq]at ew;subst ew;have hS:=dp j (by simp) _ hj;obtain⟨h1,ty,fz,hg,_⟩:=hS;have hi:=cM (ρ:=ρ) hi;have hle:=of_decide_eq_true (iy ρ _ _▸(BE.cq ρ _).2 (pB cu _ (agZ.2 rfl)));simp only [c8]at hle;refine ei ?_;rw [oW,ob];have e1:(SV.sl b i 1 n m).val ρ= .slice (some ⟨ρ.bv.getD b 0,0,none⟩) (n.den ρ 0).toNat (m.den ρ 0).toNat:=by simp [SV.val,hi]
   rw [e1];refine jc (P:=P) (w:=w) (f:=a.den ρ) hs he hd (fun h=>nomatch h) ?_;rintro _ ⟨⟩ j u hu;obtain⟨cZ,_⟩:=agx.1 hu;rw [aH]at cZ;rw [eZ];simp only [World.cell?,hg];rw [←hu,bE,if_pos cZ];have ec:SV.ar ρ [SV.a_ .u8 m' a]=ak .u8 m' (a.den ρ):=by simp [SV.ar,SV.cells]
   rw [ec,Nat.zero_add,List.getElem?_toArray,bE,if_pos (show j<m' by omega)];rfl
  ·cases h
 ·rename_i v;split at h
  ·rename_i j md v' t n a hf;cases h;obtain⟨hj,ew⟩:=dr hf;simp only [Ck.nP,beq_iff_eq]at ew;subst ew;have hS:=dp j (by simp) _ hj;have hv:=(D6 hS).1;rw [eC]at hv;obtain⟨a',m',c',e1,e2,_,h0,hc⟩:=hv;refine ei ?_;rw [oW,ob];rw [show(SV.vv v).val ρ= .slice a' m' c' from e1,←e2];exact jc (P:=P) (w:=w) hs he hd (fun h=>e2.trans (h0 h)) fun ad had j u hu=>(hc ad had).2 j u (by rw [←e2];exact hu)
  ·cases h
 ·rename_i v cs s;split at h
  ·rename_i r hr;split at h
   ·rename_i a Y_;split at h
    ·rename_i iH;obtain⟨iX,hw⟩:=iH;cases h;simp only at cu dp;obtain⟨v1,v2⟩:=bB cu;have v2:=bg v2;simp only [E.den]at v2;have acM:=HC hr dp v1 v2 hw Y_;obtain⟨_,_,a',c',e1,h0,hc⟩:=acM;rw [eC]at hc;refine ei ?_;rw [oW,ob,e1];exact jc (P:=P) (w:=w) hs he hd h0 fun ad had j u hu=>hc ad had j u hu
    ·cases h
   ·cases h
  ·cases h
 ·cases h
theorem j_(hT:bC P T=true){src dst:TypeId}{ti:TI}(c9:aW T dst=some ti)(hk:ti.k= .str){v:SV}{res:iC}(h:pA T hp src v=some res)(dp:Reads hp ρ w S res.rd)(cu: ∀b∈res.vcs,b.prop ρ):
  Did P ρ w hp S nb nv ((do pure (.value (←convert src dst (v.val ρ))):Sem Next).run P w) res:=by
 unfold pA at h;split at h
 ·rename_i ts uK;split at h
  ·rename_i e he;split at h
   ·rename_i te ik;split at h
    ·rename_i WN;obtain⟨rfl,DF⟩:=ay hT uK;obtain⟨rfl,H5⟩:=ay hT c9;obtain⟨rfl,hi3⟩:=ay hT ik;have k1:=DF.kind;rw [he]at k1;have k2:=H5.kind;rw [hk]at k2;have k3:=hi3.kind;rw [WN]at k3;exact CL (bR k1) (jU k3) (HE k2) h dp cu
    ·cases h
   ·cases h
  ·cases h
 ·cases h
theorem y6(hT:bC P T=true)(mY:ρ.Ok){t t':TypeId}{tt:TI}(fL:aW T t=some tt){v u:SV}{res:iC}(h:xE T hp nv tt t t' v u=some res)
  (dp:Reads hp ρ w S res.rd) (cu: ∀b∈res.vcs,b.prop ρ) (ty:TypeId):
  Did P ρ w hp S nb nv ((do pure (.value (←agR #[t,t'] ty #[v.val ρ,u.val ρ])):Sem Next).run P w) res:=by
 unfold xE at h;split at h
 ·rename_i heq;subst heq;split at h
  ·rename_i r hr;cases h;exact y5 (P:=P) (w:=w) (nb:=nb) hT mY fL hr dp cu ty
  ·split at h
   ·rename_i r hr;cases h;exact xG hT fL hr dp cu ty
   ·split at h
    ·rename_i r hr;cases h;exact yT hT fL hr dp cu ty
    ·exact yU hT fL h dp ty
 ·split at h
  ·rename_i ti kk m c9;split at h
   ·rename_i kt ZK;exact Cf hT fL c9 ZK h dp cu kk ty
   ·cases h
  ·cases h
theorem ri(hT:bC P T=true)(mY:ρ.Ok)(u6:uZ ρ look bQ){o:Oper}{res:iC}(h:dS T look hp nb nv o=some res)
  (dp:Reads hp ρ w S res.rd) (cu: ∀b∈res.vcs,b.prop ρ) (F3:ρ.bv.length=nb):Did P ρ w hp S nb nv ((execOp bQ o).run P w) res:=by
 obtain⟨dst,op,ty,pos,aft,gd⟩:=o;have ev: ∀{x v},jl look x=some v→bQ x=v.val ρ:=fun h=>fg u6 h
 cases op with
 | move x=>
  simp only [dS,agz]at h;obtain⟨v,hv,rfl⟩:=h;exact cH (by simp [execOp,ev hv])
 | assign x=>
  simp only [dS,agz]at h;obtain⟨v,hv,rfl⟩:=h;exact cH (by simp [execOp,ev hv])
 | pick c a b=>
  simp only [dS]at h;split at h
  ·rename_i c' a' b' hc ha hb;rw [agz]at h;obtain⟨v,hv,rfl⟩:=h;refine cH ?_;rw [J3 hv];simp [execOp,ev hc,ev ha,ev hb,SV.val,asBool]
  ·cases h
 | alloc t=>
  simp only [dS,Option.bind_eq_some_iff]at h;obtain⟨ti,c9,h⟩:=h;split at h
  ·split at h
   ·rename_i hz;cases h;exact LX hT F3 c9 _ (cX hz)
   ·cases h
  ·cases h;exact F2 hT F3 c9
 | box t x=>
  simp only [dS]at h;split at h
  ·rename_i v hv;rw [agz]at h;obtain⟨cs,l6,rfl⟩:=h;have:=LY (P:=P) (w:=w) (hp:=hp) (S:=S) (nv:=nv) mY F3 (t:=t) l6;simp only [execOp,ev hv];exact this
  ·cases h
 | build t parts=>
  simp only [dS]at h;split at h
  ·rename_i ti ps c9 eN;have hm:fy ρ ps (parts.map fun x=>(x.1,bQ x.2)).toList:=by
    rw [Array.toList_map];exact pP u6 mY _ _ eN
   split at h
   ·rename_i fs hk;split at h
    ·rename_i wH;rw [agz]at h;obtain⟨cs,l6,rfl⟩:=h;have:=tY (w:=w) hT c9 hk wH hm l6;exact ei this
    ·cases h
   ·rename_i n e hk;split at h
    ·rename_i te ik;rw [agz]at h;obtain⟨cs,l6,rfl⟩:=h;have:=yP (w:=w) hT c9 hk ik hm l6;exact ei this
    ·cases h
   ·cases h
  ·cases h
 | buildSlice t len parts=>
  simp only [dS]at h;split at h
  ·rename_i ti ps c9 eN;have hm:fy ρ ps (parts.map fun x=>(x.1,bQ x.2)).toList:=by
    rw [Array.toList_map];exact pP u6 mY _ _ eN
   split at h
   ·rename_i e hk;split at h
    ·rename_i te ik;split at h
     ·rename_i Kk;split at h
      ·rename_i Zl;rw [agz]at h;obtain⟨zc,B9,rfl⟩:=h;have WO:(parts.map fun x=>(x.1,bQ x.2))= #[]:=by
        have:ps=[]:=by simpa using Zl
        subst this;apply aha;generalize (parts.map fun x=>(x.1,bQ x.2)).toList=l at hm;cases hm;rfl
       have:=BJ (P:=P) (w:=w) (hp:=hp) (S:=S) (nb:=nb) (nv:=nv) (ρ:=ρ) hT c9 hk ik B9;simp only [execOp,Kk,WO];exact this
      ·cases h
     ·split at h
      ·cases h
      ·rename_i Kk hlen;rw [agz]at h;obtain⟨cs,l6,rfl⟩:=h;exact wK hT F3 c9 hk ik (by rintro (h | h | h);exact Kk h;exact hlen (.inl h);exact hlen (.inr h)) hm l6
    ·cases h
   ·cases h
  ·cases h
 | load t x=>
  simp only [dS]at h;split at h
  ·rename_i ti a c9 ha;obtain⟨rfl,hi⟩:=ay hT c9;obtain⟨h1,h2⟩:=sZ hi h dp cu;obtain⟨rv,RD,UE,re⟩:=res;simp only at h2;subst h2;refine cH ?_;simp only [execOp,ev ha,agK,h1,agG,ag0]
  ·cases h
 | store t x y=>
  simp only [dS]at h;split at h
  ·rename_i ti a v c9 ha hv;obtain⟨rfl,hi⟩:=ay hT c9;obtain⟨h1,j,ck,h2,w',h3,h4⟩:=zZ hi h mY dp cu;unfold Did;rw [h2];refine⟨w',.inr ⟨h1,?_⟩,h4⟩;simp only [execOp,ev ha,ev hv,agK,h3,agG,ag0]
  ·cases h
 | nilCheck x=>
  simp only [dS]at h;split at h
  ·rename_i b c hx;cases h;exact cH (by simp [execOp,ev hx,SV.val])
  ·rename_i b c hx;cases h;exact cH (by simp [execOp,ev hx,SV.val])
  ·rename_i e hx;cases h;have hz:=cu (RL e) (by simp);have eJ:e.den ρ 0≠0:=by
    rw [←BE.cq,za]at hz;simpa using hz
   exact cH (by simp [execOp,ev hx,SV.val,aD,eJ])
  ·rename_i v i s c hx;split at h
   ·rename_i j md v' t s' n aA hf;cases h;obtain⟨hj,ew⟩:=dr hf;simp only [Ck.nP,beq_iff_eq]at ew;subst ew;have hS:=dp j (by simp) _ hj;obtain⟨h0,h1⟩:=dJ ρ cu;obtain⟨a,cp,he⟩:=o0 hS (by omega);have e2:(SV.pv v i s c).val ρ= .pointer (some (a.add ((i.den ρ 0).toNat*s+c))):=by rw [SV.val,he];rfl
    refine cH ?_;simp only [execOp,ev hx,e2,ag0]
   ·cases h
  ·rename_i f cs hx;cases h;exact cH (by simp [execOp,ev hx,SV.val])
  ·cases h
 | binOp op t x y yt=>
  simp only [dS]at h;split at h
  ·rename_i ti a b c9 ha hb;obtain⟨rfl,hi⟩:=ay hT c9;split at h
   ·rename_i r hr;cases h;have hr2:=Fo (P:=P) (w:=w) (ρ:=ρ) hi (xo:=x) hr;obtain⟨e1,h1,h2⟩:=hr2;subst e1;obtain⟨rv,RD,UE,re⟩:=res;simp only at h2;subst h2;refine cH ?_;have hy:bQ (.const .nilIface)= .nilIface:=by
     have:jl look (.const .nilIface)=some .uQ:=rfl;exact ev this
    simp only [execOp,ev ha,hy];rw [agK,h1];rfl
   obtain⟨h1,h2⟩:=LV hi (w:=w) (xo:=x) (yo:=y) h cu;obtain⟨rv,RD,UE,re⟩:=res;simp only at h2;subst h2;refine cH ?_;simp only [execOp,ev ha,ev hb];rw [agK,h1];rfl
  ·cases h
 | unOp op t x=>
  simp only [dS]at h;split at h
  ·rename_i b hb;cases h;refine cH ?_;simp [execOp,ev hb,SV.val,Op.unary,dG]
  ·rename_i k a ha;cases h;refine cH ?_;simp only [SV.val,mX,E.den];cases k<;>simp [execOp,ev ha,SV.val,Op.unary,Op.intBits,IntKind.signed,IntKind.max,wb,IntKind.hi,aF,NO,IntKind.bits]
  ·rename_i k a ha;simp only [agy]at h;subst h;refine cH ?_;simp only [SV.val,z5 cu,e8,E.den];simp [execOp,ev ha,SV.val,Op.unary,Op.intArith]
  ·cases h
 | convert src dst x=>
  simp only [dS]at h;split at h
  ·rename_i UF TE k' a h1 h2 ha;split at h
   ·rename_i k hk;cases h;obtain⟨rfl,DF⟩:=ay hT h1;obtain⟨rfl,H5⟩:=ay hT h2;have dg:=H5.kind;rw [hk]at dg;have hu:=jU dg;have Zk:(P.underlying UF.t).isSome=true:=by
     have:=DF.kind;unfold iA at this;split at this<;>simp_all
    have ZB:P.intKind TE.t=k:=by simp [Program.intKind,hu]
    refine ei ?_;rw [ev ha,SV.val,run_convert_int w UF.t TE.t k' _ Zk (by rw [ZB];exact hu),ZB,SV.val,LR cu]
   ·cases h
  ·rename_i UF TE l h1 h2 ha;split at h
   ·rename_i hk;have:=BM (P:=P) (w:=w) (hp:=hp) (S:=S) (nb:=nb) (ρ:=ρ) hT h1 hk h2 h;simp only [execOp,ev ha];exact this
   ·cases h
  ·rename_i UF TE l h1 h2 ha;split at h
   ·rename_i hk;have:=CJ (P:=P) (w:=w) (hp:=hp) (S:=S) (nb:=nb) (ρ:=ρ) hT h1 hk h2 h cu;simp only [execOp,ev ha];exact this
   ·cases h
  ·rename_i UF TE b i s n m h1 h2 ha;split at h
   ·rename_i e hk;split at h
    ·rename_i te j b' cs ik hf;split at h
     ·rename_i hc;obtain⟨rfl,WN⟩:=hc;cases h;obtain⟨e2,H5⟩:=ay hT h2;subst e2;obtain⟨rfl,RY⟩:=ay hT ik;have dg:=H5.kind;rw [hk]at dg;have hu:=bR dg;have R4:=RY.kind;rw [WN]at R4;have hue:=jU R4;obtain⟨hj,ew⟩:=c_ hf;simp only [Ck.sN,beq_iff_eq]at ew;subst ew;have hS:=dp j (by simp) _ hj;obtain⟨w',r1,r2,r3,r4,r5⟩:=xH (P:=P) hS TE.t te.t hu hue ((i.den ρ 0).toNat*s) (n.den ρ 0).toNat (m.den ρ 0).toNat;refine⟨w',.inl ?_,⟨⟨_,hj,rfl⟩,rfl,r2,r3,fun k hk=>r4 k fun e=>hk ((hS.1 k).2 e),r5⟩⟩;simp only [execOp,ev ha,SV.val,agK,r1,agG,ag0]
     ·cases h
    ·cases h
   ·rename_i hk;have:=j_ (P:=P) (w:=w) (ρ:=ρ) (nb:=nb) (nv:=nv) hT h2 hk h dp cu;simp only [execOp,ev ha];exact this
   ·cases h
  ·rename_i UF TE v h1 h2 ha;split at h
   ·rename_i hk;have:=j_ (P:=P) (w:=w) (ρ:=ρ) (nb:=nb) (nv:=nv) hT h2 hk h dp cu;simp only [execOp,ev ha];exact this
   ·cases h
  ·rename_i UF TE v cs s h1 h2 ha;split at h
   ·rename_i hk;have:=j_ (P:=P) (w:=w) (ρ:=ρ) (nb:=nb) (nv:=nv) hT h2 hk h dp cu;simp only [execOp,ev ha];exact this
   ·cases h
  ·rename_i UF TE h1 h2 ha;split at h
   ·rename_i hk;have:=j_ (P:=P) (w:=w) (ρ:=ρ) (nb:=nb) (nv:=nv) hT h2 hk h dp cu;simp only [execOp,ev ha];exact this
   ·cases h
  ·cases h
 | makeInterface t x=>
  simp only [dS]at h;split at h
  ·rename_i ti k e c9 hx;split at h
   ·rename_i hk;cases h;obtain⟨rfl,hi⟩:=ay hT c9;have dg:=hi.kind;rw [hk]at dg;have hu:=jU dg;refine cH ?_;have hc:P.concrete ti.t=true:=by simp [Go.Program.concrete,hu]
    simp only [execOp,ev hx,agK,run_makeInterface w ti.t _ hc,agG,ag0,SV.val]
   ·cases h
  ·cases h
 | sliceToArrayPointer arr x=>
  simp only [dS]at h;split at h
  ·rename_i ta v hta hv;split at h
   ·rename_i n e hk;split at h
    ·rename_i te ik;split at h
     ·cases h
     ·rename_i FD;obtain⟨rfl,DF⟩:=ay hT hta;have dg:=DF.kind;rw [hk]at dg;have hu:=pc dg;split at h
      ·rename_i b i s m c;cases h;have q:=bg cu;simp only [E.den]at q;refine cH ?_;simp only [execOp,ev hv,SV.val,wL];have: ¬(m.den ρ 0).toNat<n:=by omega
       simp [Instr.arrayAt,run_underlying hu,this]
      ·split at h
       ·rename_i v _ r hr;cases h;simp only at cu dp;obtain⟨q1,q2⟩:=bB cu;have q:=bg q2;simp only [E.den]at q;obtain⟨hj,eu⟩:=fh hr dp q1;have TB:=eu.lo;have Z8:=eu.hi;obtain⟨a,cp,k,e1,e2,e3,e4⟩:=eu.is;have cZ:(r.p.lo.den ρ 0).toNat<(Option.map ag (Option.map (fun m=>m.den ρ 0) r.p.mx)).getD cp:=by
         cases hm:r.p.mx with
         | none=>simp only [Option.map_none,Option.getD_none];omega
         | some m=>
          have:=(eu.top (m.den ρ 0) (by rw [hm];rfl)).1;simp only [Option.map_some,ahe];omega
        have jK:=e4 (.inl cZ);have hS:=dp r.j (by simp) _ hj;refine cH ?_;simp only [execOp,ev hv,SV.val];rw [e3];have: ¬(r.p.len.den ρ 0).toNat<n:=by omega
        have Zm: ∃ad,a=some ad:=by
         obtain⟨ad,c2,hh⟩:=o0 hS (by omega);rw [hh]at e1;simp only [Value.slice.injEq]at e1;exact⟨ad,e1.1.symm⟩
        obtain⟨ad,rfl⟩:=Zm;rw [e1];simp [Instr.arrayAt,run_underlying hu,this,eY,jK]
       ·cases h
    ·cases h
   ·cases h
  ·cases h
 | fieldAddr s x f=>
  simp only [dS]at h;split at h
  ·rename_i ts a uK ha;split at h
   ·rename_i fs hk;split at h
    ·rename_i t off hf;split at h
     ·rename_i ti c9;split at h
      ·cases h
      ·rename_i fx;have iL:=fun ad=>u3 (w:=w) hT uK hk hf c9 fx ad
       split at h
       ·cases h;refine ei ?_;rw [ev ha,SV.val,iL,iB,SV.val]
       ·cases h;refine ei ?_;rw [ev ha,SV.val,iL,iB,SV.val,Nat.add_assoc]
       ·rename_i v i s' c;split at h
        ·rename_i j md v' t' s2 n aA cU;cases h;obtain⟨hj,ew⟩:=dr cU;simp only [Ck.nP,beq_iff_eq]at ew;subst ew;have hS:=dp j (by simp) _ hj;obtain⟨h0,h1⟩:=dJ ρ cu;obtain⟨ad,cp,he⟩:=o0 hS (by omega);refine ei ?_;rw [ev ha,SV.val,he,eY,iL,dK,SV.val,he,eY,Nat.add_assoc]
        ·cases h
       ·cases h
     ·cases h
    ·cases h
   ·cases h
  ·cases h
 | field s x f=>
  simp only [dS]at h;split at h
  ·rename_i ts cs uK ha;split at h
   ·rename_i fs hk;split at h
    ·rename_i t off hf;split at h
     ·rename_i ti c9;split at h
      ·rename_i xs Ig;rw [agz]at h;obtain⟨v,hv,rfl⟩:=h;refine ei ?_;rw [ev ha,SV.val];exact yQ hT uK hk hf c9 Ig hv
      ·cases h
     ·cases h
    ·cases h
   ·cases h
  ·cases h
 | indexAddr t x y=>
  simp only [dS]at h;split at h
  ·rename_i tt a k j fL ha hy;split at h
   ·rename_i e hk;split at h
    ·rename_i te ik;split at h
     ·rename_i b i s n m;split at h
      ·rename_i fx;cases h;have Kh:0≤i.den ρ 0:=fe fun c hc=>cu c (List.mem_append_left _ hc)
       obtain⟨h0,h1⟩:=dJ ρ (i:=j) (n:=n) fun c hc=>cu c (List.mem_append_right _ hc)
       refine ei ?_;rw [ev ha,ev hy,SV.val,SV.val,qX hT fL hk ik _ _ _ _ _ h0 (by omega),iB,wL,bN,fx,Int.toNat_add Kh h0,Nat.add_mul,Nat.add_zero]
      ·cases h
     ·split at h
      ·rename_i r hr;split at h
       ·rename_i fx;cases h;simp only at cu dp;obtain⟨w1,w2⟩:=bB cu;obtain⟨hj,eu⟩:=fh hr dp w1;obtain⟨h0,h1⟩:=dJ ρ w2;obtain⟨b1,b2,b3,ad,c,q,hv,hc,hx,hq⟩:=eu;have L5:(r.p.lo.den ρ 0).toNat<((r.p.mx.map fun m=>m.den ρ 0).map ag).getD c:=by
         cases XC:(r.p.mx.map fun m=>m.den ρ 0)with
         | none=>simp only [Option.map_none,Option.getD_none];omega
         | some m=>have:=b3 m XC;simp only [Option.map_some,ahe];omega
        have hq:=hq (.inl L5);have eJ: ∃ad0,ad=some ad0:=by
         cases ad with
         | some ad0=>exact⟨ad0,rfl⟩
         | none=>
          obtain⟨a',cp',he⟩:=o0 (dp r.j (by simp) _ hj) (by omega);rw [hv]at he;cases he
        obtain⟨ad,rfl⟩:=eJ;refine ei ?_;have e3:(SV.int k j).val ρ= .int k (j.den ρ 0):=rfl;have e2:(SV.pv r.v (dV r.p.lo j) r.s 0).val ρ= .pointer (some (ad.add ((r.p.lo.den ρ 0+j.den ρ 0).toNat*r.s+0))):=by rw [SV.val,hv,bN];rfl
        rw [ev ha,ev hy,hx,e2,e3,Option.map_some,qX hT fL hk ik _ _ _ _ _ h0 (by omega),fx,Nat.add_zero,dK,hq,←Nat.add_mul,←Int.toNat_add b1 h0]
       ·cases h
      ·cases h
    ·cases h
   ·rename_i n e hk;split at h
    ·rename_i te ik;split at h
     ·rename_i b c;cases h;obtain⟨h0,h1⟩:=dJ ρ cu;refine ei ?_;rw [ev ha,ev hy,SV.val,SV.val,Ab hT fL hk ik _ _ _ h0 h1,iB,wL,Nat.add_comm]
     ·cases h
    ·cases h
   ·cases h
  ·cases h
 | index t x y=>
  simp only [dS]at h;split at h
  ·rename_i tt cs k j fL ha hy;split at h
   ·rename_i n e hk;split at h
    ·rename_i te ik;have hi:=(ay hT ik).2;split at h
     ·rename_i l hl;split at h
      ·rename_i hln;split at h
       ·rename_i xs Ig;rw [agz]at h;obtain⟨v,hv,rfl⟩:=h;refine ei ?_;have hd:=cM (ρ:=ρ) hl;rw [ev ha,ev hy,SV.val,SV.val];refine u4 hT fL hk ik _ _ _ (by omega) (by omega) ?_;rw [hd,Int.toNat_natCast];exact Aa hi Ig hv
       ·cases h
      ·cases h
     ·split at h
      ·rename_i k' m a;split at h
       ·rename_i hc;obtain⟨rfl,iX,B8⟩:=hc;cases h;obtain⟨h0,h1⟩:=dJ ρ cu;refine ei ?_;rw [ev ha,ev hy,SV.val,SV.val];refine u4 hT fL hk ik _ _ _ h0 h1 ?_;have cZ:(j.den ρ 0).toNat<m:=by simp only [E.den]at h1;omega
        have Cc:(SV.ar ρ [SV.a_ k' m a])[(j.den ρ 0).toNat]? =some (.int k' (a.den ρ (j.den ρ 0).toNat)):=by
         simp only [SV.ar,SV.cells,agL];rw [bE,if_pos cZ]
        rw [iX,Nat.mul_one,eO];simp [part,hi.isAgg w,B8,Cc]
       ·cases h
      ·cases h
    ·cases h
   ·cases h
  ·rename_i tt v k j _ fL hx hy;split at h
   ·rename_i hk;obtain⟨h1,h2⟩:=Fm (P:=P) (w:=w) (ρ:=ρ) (k:=k) hT fL hk h cu;obtain⟨rv,RD,UE,re⟩:=res;simp only at h2;subst h2;refine ei ?_;rw [ev hx,ev hy];exact h1
   ·cases h
  ·cases h
 | extract x i=>
  simp only [dS]at h;split at h
  ·rename_i vs hx;rw [agz]at h;obtain⟨v,hv,rfl⟩:=h;refine cH ?_;have:(SV.bQ ρ vs)[i]? =some (v.val ρ):=by
    have key: ∀(l:List SV) (i:Nat),(SV.bQ ρ l)[i]? =(l[i]?).map (SV.val ρ):=by
     intro l
     induction l with
     | nil=>intro i;simp [SV.bQ]
     | cons x r ih=>intro i;cases i<;>simp [SV.bQ,ih]
    rw [key,hv];rfl
   simp [execOp,ev hx,SV.val,Instr.extract,this]
  ·cases h
 | makeFunc fn first kp=>
  simp only [dS]at h;split at h
  ·rename_i f WQ;rw [agz]at h;obtain⟨cs,l6,rfl⟩:=h;have:=lJ u6 _ _ l6;have hf:first= #[]:=aha WQ
   subst hf;refine cH ?_;simp only [execOp,agK,Instr.makeFunc,ag0,agG,SV.val];have e5:Array.map bQ kp=(SV.bQ ρ cs).toArray:=aha (by rw [Array.toList_map,this]);rw [e5];simp
  ·cases h
 | call c=>
  obtain⟨callee,args,argTypes⟩:=c;simp only [dS]at h;split at h
  ·rename_i x t kG Fp;have hf:args= #[x]:=aha kG;have hg:argTypes= #[t]:=aha Fp;subst hf hg;split at h
   ·rename_i tt v fL hv;obtain⟨h1,h2⟩:=Np (P:=P) hT fL h dp cu ty;obtain⟨rv,RD,UE,re⟩:=res;simp only at h2;subst h2;refine cH ?_;simp only [execOp,resolve,invoke,builtin,agK,ag0,agG,ahc,agW,List.map_nil,ev hv];rw [h1];rfl
   ·cases h
  ·rename_i x t kG Fp;have hf:args= #[x]:=aha kG;have hg:argTypes= #[t]:=aha Fp;subst hf hg;split at h
   ·rename_i tt fL hv;split at h
    ·rename_i e hk;cases h;obtain⟨rfl,pW⟩:=ay hT fL;have dg:=pW.kind;rw [hk]at dg;have hu:=bR dg;refine cH ?_;have hc:(Builtin.cap_ #[tt.t] ty #[.slice none 0 0]).run P w= .ok (goInt 0) w:=by
      simp [Builtin.cap_,run_underlying hu]
     simp only [execOp,resolve,invoke,builtin,agK,ag0,agG,ahc,agW,List.map_nil,ev hv,SV.val];rw [hc];rfl
    ·cases h
   ·cases h
  ·rename_i x y kG;have hf:args= #[x,y]:=aha kG;subst hf;split at h
   ·rename_i k a k' b ha hb;cases h;refine cH ?_;simp only [execOp,resolve,invoke,builtin,agK,ag0,agG,ahc,agW,List.map_nil,ev ha,ev hb,SV.val,mX];simp [Builtin.max_,Builtin.max2,aF]
   ·cases h
  ·rename_i x y kG;have hf:args= #[x,y]:=aha kG;subst hf;split at h
   ·rename_i k a k' b ha hb;cases h;refine cH ?_;simp only [execOp,resolve,invoke,builtin,agK,ag0,agG,ahc,agW,List.map_nil,ev ha,ev hb,SV.val,mX];simp [Builtin.min_,Builtin.min2,aF]
   ·cases h
  ·rename_i x y t t' kG Fp;have hf:args= #[x,y]:=aha kG;have hg:argTypes= #[t,t']:=aha Fp;subst hf hg;split at h
   ·rename_i tt v u fL hv hu;have:=y6 (P:=P) (w:=w) (nb:=nb) hT mY fL h dp cu ty;simp only [execOp,resolve,invoke,builtin,agK,ag0,agG,ahc,agW,List.map_nil,ev hv,ev hu];simp only [agK,ag0]at this;exact this
   ·cases h
  ·rename_i x t kG Fp;have hf:args= #[x]:=aha kG;have hg:argTypes= #[t]:=aha Fp;subst hf hg;split at h
   ·rename_i tt v fL hv;have:=BK (P:=P) (w:=w) (nb:=nb) (nv:=nv) hT fL h dp cu ty;simp only [execOp,resolve,invoke,builtin,agK,ag0,agG,ahc,agW,List.map_nil,ev hv];simp only [agK,ag0]at this;exact this
   ·cases h
  ·rename_i x y t t' kG Fp;have hf:args= #[x,y]:=aha kG;have hg:argTypes= #[t,t']:=aha Fp;subst hf hg;split at h
   ·rename_i tt v u fL hv hu;split at h
    ·rename_i heq;subst heq;have:=CI (P:=P) (w:=w) (nb:=nb) (nv:=nv) hT fL h dp cu ty;simp only [execOp,resolve,invoke,builtin,agK,ag0,agG,ahc,agW,List.map_nil,ev hv,ev hu];simp only [agK,ag0]at this;exact this
    ·cases h
   ·cases h
  ·cases h
 | slice t x lo hi mx=>
  simp only [dS]at h;split at h
  ·rename_i tt v l hh m fL hv hl Z8 hm;split at h
   ·rename_i hk;split at h
    ·cases h
    ·rename_i XC;have F_:m=none:=by cases m<;>simp_all
     subst F_;obtain⟨h1,h2⟩:=BL (P:=P) (w:=w) (ρ:=ρ) hT fL hk h (jv u6 hl) (jv u6 Z8) cu;have acO:mx.map bQ=none:=by
      have:=jv u6 hm;cases hq:mx.map bQ with
      | none=>rfl
      | some v=>rw [hq]at this;exact this.elim
     obtain⟨rv,RD,UE,re⟩:=res;simp only at h2;subst h2;refine ei ?_;rw [ev hv,acO];exact h1
   obtain⟨h1,h2⟩:=Ai (P:=P) (w:=w) hT fL h (jv u6 hl) (jv u6 Z8) (jv u6 hm) dp cu;obtain⟨rv,RD,UE,re⟩:=res;simp only at h2;subst h2;refine ei ?_;rw [ev hv];exact h1
  ·cases h
 | makeMap t r=>
  cases r with
  | some r=>simp [dS]at h
  | none=>
   simp only [dS]at h;have:=wP (P:=P) (w:=w) (hp:=hp) (S:=S) (nv:=nv) (ρ:=ρ) hT F3 h;simp only [execOp,Option.map_none];exact this
 | lookup t x k comma=>
  simp only [dS]at h;split at h
  ·rename_i x' k' hx hk;obtain⟨h1,h2⟩:=yS (P:=P) (w:=w) hT h dp;obtain⟨rv,RD,UE,re⟩:=res;simp only at h2;subst h2;refine ei ?_;rw [ev hx,ev hk];exact h1
  ·cases h
 | mapUpdate t x k v=>
  simp only [dS]at h;split at h
  ·rename_i x' k' v' hx hk hv;obtain⟨h1,j,ck,h2,w',h3,h4⟩:=qq (P:=P) (w:=w) hT h dp;unfold Did;rw [h2];refine⟨w',.inr ⟨h1,?_⟩,h4⟩;simp only [execOp,ev hx,ev hk,ev hv,agK,h3,agG,ag0]
  ·cases h
 | insert t x k v=>
  simp only [dS]at h;split at h
  ·rename_i x' k' v' hx hk hv;obtain⟨h1,j,ck,h2,w',h3,h4⟩:=qq (P:=P) (w:=w) hT h dp;unfold Did;rw [h2];refine⟨w',.inr ⟨h1,?_⟩,h4⟩;simp only [execOp,ev hx,ev hk,ev hv,agK,h3,agG,ag0]
  ·cases h
 | makeSlice t n c=>
  simp only [dS]at h;split at h
  ·rename_i tt k n' k' c' fL hn hc;have:=CH (P:=P) (w:=w) (hp:=hp) (S:=S) (nb:=nb) (ρ:=ρ) hT fL h cu k k';have en:bQ n= .int k (n'.den ρ 0):=ev hn;have ec:bQ c= .int k' (c'.den ρ 0):=ev hc;simp only [execOp,en,ec];exact this
  ·cases h
 | range t x=>
  simp only [dS]at h;split at h
  ·rename_i ti l c9 hx;split at h
   ·rename_i hk;cases h;obtain⟨rfl,hi⟩:=ay hT c9;have k1:=hi.kind;rw [hk]at k1;have hu:=HE k1;refine⟨w.alloc (.stringIter ⟨l.toArray⟩ 0),_,if_pos rfl,?_,⟨rfl,rfl,rfl,by simp⟩,by simp,fun k hk=>heap_alloc_old w _ hk,fun k=>Iff.rfl,heap_alloc_new w _⟩;subst F3;have e1:bQ x= .string ⟨l.toArray⟩:=ev hx;simp only [execOp,e1,agK,run_range_string w _ _ hu,agG,ag0,SV.val,List.getD_eq_getElem?_getD,kU];rfl
   ·cases h
  ·cases h
 | next x b=>
  cases b with
  | false=>simp [dS]at h
  | true=>
   simp only [dS,Option.bind_eq_some_iff]at h;obtain⟨v,hv,h⟩:=h;unfold Lk at h;split at h
   ·rename_i b;split at h
    ·rename_i j hj0;split at h
     ·rename_i b' l pos hj;split at h
      ·rename_i hbb;subst hbb;have e1:bQ x= .pointer (some ⟨ρ.bv.getD b 0,0,none⟩):=ev hv;split at h
       ·rename_i c hc;split at h
        ·rename_i acP;cases h;obtain⟨hS,hh⟩:=dp j (by simp) _ hj;obtain⟨cZ,Cc⟩:=agx.1 hc;have eN:pos<(⟨l.toArray⟩:ByteArray).size:=by simpa [ByteArray.size] using cZ
         have hce:(⟨l.toArray⟩:ByteArray)[pos]'eN=c:=by
          show l.toArray[pos]'_=c;simpa using Cc
         have hn:=Lib.run_next_ascii_at (P:=P) w (ρ.bv.getD b 0) ⟨l.toArray⟩ pos ty hh eN (by rw [hce];exact acP);rw [hce]at hn;refine⟨w.iterAt (ρ.bv.getD b 0) ⟨l.toArray⟩ (pos+1),.inl ?_,⟨⟨_,hj,rfl⟩,rfl,⟨rfl,rfl,rfl,by simp [World.iterAt]⟩,by simp [World.iterAt],fun k hk=>?_,fun k=>hS k,?_⟩⟩
         ·simp only [execOp,e1,agK,hn,agG,ag0,SV.val,SV.bQ];rfl
         ·have: ¬k=ρ.bv.getD b 0:=fun e=>hk ((hS k).2 e)
          exact Array.getElem?_setIfInBounds_ne (Ne.symm this)
         ·exact Lib.iterAt_heap w _ _ pos (pos+1) hh
        ·cases h
       ·rename_i hc;cases h;obtain⟨hS,hh⟩:=dp j (by simp) _ hj;have hn:=Lib.run_next_end_at (P:=P) w (ρ.bv.getD b 0) ⟨l.toArray⟩ pos ty hh (by
         rw [List.getElem?_eq_none_iff]at hc;simpa [ByteArray.size] using hc)
        refine cH ?_;simp only [execOp,e1,agK,hn,agG,ag0,SV.val,SV.bQ];rfl
      ·cases h
     ·cases h
    ·cases h
   ·cases h
 | _=>simp [dS]at h
end
end Go.RX
