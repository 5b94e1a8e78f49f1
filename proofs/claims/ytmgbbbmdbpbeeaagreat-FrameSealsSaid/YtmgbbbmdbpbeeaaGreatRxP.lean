/- Executor. -/
import Derived.Lib.OthersKept
import Derived.Test.YtmgbbbmdbpbeeaaGreatM11
import Derived.Test.YtmgbbbmdbpbeeaaGreatM12
import Derived.Lib.ConvBytes
open Go.Builtin renaming append_ → afh
open Go.Op renaming equalIn → afu
open Go.Result renaming andThen_ok → ae3
open Go.Sem renaming run_bind → afa, run_pure → afs
open Int renaming toNat → ag, toNat_natCast → afe
open List renaming getD_cons_zero → ah, getElem?_eq_getElem → afA, getElem?_eq_some_iff → aeV, map_cons → afj, map_toArray → afF, mem_cons_of_mem → ae4, mem_cons_self → aeZ, mem_filter → afk, mem_range → afg, mem_singleton → afC
open Option renaming getD_some → afG, map_eq_some_iff → aeY
open Option.some renaming injEq → aeX
namespace Go.RX
section
variable {P:Program} {ρ:Env} {w:World} {look:Nat→Option SV} {vals:Operand→Value} {hp:List Ck} {S:Nat→Nat→Prop} {nb nv:Nat} {T:List TI}
theorem cD{run:Result Next}{v:SV}{vcs:List BE}{rd:List Nat}(h:run= .ok (.value (v.val ρ)) w):Did P ρ w hp S nb nv run {val:=v,vcs:=vcs,rd:=rd}:=h
theorem dD{s:Sem Value}{v:SV}{vcs:List BE}{rd:List Nat}(h:s.run P w= .ok (v.val ρ) w):
  Did P ρ w hp S nb nv ((do pure (.value (←s)):Sem Next).run P w) {val:=v,vcs:=vcs,rd:=rd}:=by
 apply cD;simp only [afa,h,ae3,afs]
theorem Hf{c:BE}{a b v:SV}(h:Ct c a b=some v):v.val ρ=if c.den ρ then a.val ρ else b.val ρ:=by
 unfold Ct at h;split at h
 ·cases h;simp [BE.den]
 ·cases h;simp [BE.den]
 ·split at h
  ·cases h;simp only [SV.val,mX];cases c.den ρ<;>rfl
  ·split at h
   ·rename_i hg;cases h;subst hg;simp only [SV.val,mX,df];cases c.den ρ<;>rfl
   ·cases h
  ·split at h
   ·rename_i hg;cases h;subst hg;simp only [SV.val,mX];cases h:BE.den ρ _<;>simp
   ·cases h
  ·cases h
theorem KN(hT:bG P T=true){t:TypeId}{tt:TI}(fq:a_ T t=some tt){v:SV}{res:hZ}(h:G_ hp tt.k v=some res)
  (cV:Reads hp ρ w S res.rd) (bY: ∀b∈res.vcs,b.prop ρ) (ty:TypeId):
  (Builtin.len_ #[t] ty #[v.val ρ]).run P w= .ok (res.val.val ρ) w∧res.hO= .none:=by
 unfold G_ at h;split at h
 ·rename_i e hk;split at h
  ·rename_i b i s n m;cases h;have:=eN bY;refine⟨?_,rfl⟩;show(Builtin.len_ #[t] ty #[.slice (some ⟨ρ.bv.getD b 0,(i.den ρ 0).toNat*s,none⟩) (n.den ρ 0).toNat (m.den ρ 0).toNat]).run P w=_;rw [nR hT fq hk,goInt,Int.toNat_of_nonneg this];rfl
  ·cases h;exact⟨nR hT fq hk _ _ _ _,rfl⟩
  ·rename_i v;split at h
   ·rename_i j md v' t' s n aF cM;cases h;obtain⟨hj,dC⟩:=cU cM;simp only [Ck.lO,beq_iff_eq]at dC;subst dC;have hS:=cV j (by simp) _ hj;have:=eN bY;obtain⟨ad,cp,he⟩:=PQ hS;have e1:(SV.vv v).val ρ= .slice ad (n.den ρ 0).toNat cp:=he;refine⟨?_,rfl⟩;rw [e1,nR hT fq hk,SV.val,goInt,Int.toNat_of_nonneg this]
   ·cases h
  ·rename_i v cs s;split at h
   ·rename_i r hr;cases h;simp only at bY cV;obtain⟨v1,v2⟩:=bD bY;have v2:=bq v2;simp only [E.den]at v2;obtain⟨_,dI⟩:=eQ hr cV v1;obtain⟨_,_,_,a,c,k,_,_,hx,_⟩:=dI;refine⟨?_,rfl⟩;rw [hx,nR hT fq hk,SV.val,goInt,Int.toNat_of_nonneg v2]
   ·cases h
  ·cases h
 ·rename_i hk;split at h
  ·rename_i l;cases h;exact⟨xG hT fq hk _ _,rfl⟩
  ·rename_i s;cases h;have:=eN bY;refine⟨?_,rfl⟩;have e1:(SV.kg s).val ρ= .string ⟨(cj (s.den ρ)).toArray⟩:=rfl;rw [e1,xG hT fq hk,SV.val,goInt];congr 2;have e:=JD ρ s;simp only [ByteArray.size,List.size_toArray];omega
  ·cases h
 ·cases h
theorem wh(hT:bG P T=true)(j9:ρ.Ok){ts:TypeId}{tt:TI}(fq:a_ T ts=some tt){x y:SV}{res:hZ}(h:ur T hp nv tt.k x y=some res)
  (cV:Reads hp ρ w S res.rd) (bY: ∀b∈res.vcs,b.prop ρ) (ty:TypeId):
  Did P ρ w hp S nb nv ((do pure (.value (←afh #[ts,ts] ty #[x.val ρ,y.val ρ])):Sem Next).run P w) res:=by
 unfold ur at h;split at h
 ·rename_i v b i s m cap;split at h
  ·rename_i j v' t s' n aF j' b' wr cs h1 h2;split at h
   ·rename_i aZ te pg gX;split at h
    ·rename_i hc;obtain⟨rfl,rfl,hk,rfl,hw,hl,DS,iR,fx⟩:=hc;cases h;obtain⟨hj,dC⟩:=cU h1;simp only [Ck.lO,beq_iff_eq]at dC;subst dC;obtain⟨k9,Oj⟩:=cO h2;simp only [Ck.qv,beq_iff_eq]at Oj;subst Oj;have US:0≤n.den ρ 0:=eN fun c hc=>bY c (List.mem_append_left _ hc)
     have F9:=bY _ (List.mem_append_right _ (afC.2 rfl));have:=Bp (P:=P) (w:=w) (nb:=nb) (nv:=nv) (cap:=(cap.den ρ 0).toNat) hT j9 fq hk gX fx DS hj (cV j (by simp) _ hj) k9 (cV j' (by simp) _ k9) hw hl iR pg US F9 ty;have e1:(SV.sl b (.lit 0) s (.lit 1) cap).val ρ= .slice (some ⟨ρ.bv.getD b 0,0,none⟩) 1 (cap.den ρ 0).toNat:=by
      simp [SV.val,E.den]
     rw [e1];exact this
    ·cases h
   ·cases h
  ·cases h
 ·rename_i b i s m cap;split at h
  ·rename_i j' b' wr cs t h2 hk;split at h
   ·rename_i te aF gX eB;split at h
    ·rename_i aZ pg;split at h
     ·rename_i hc;obtain⟨rfl,rfl,hw,hl,DS,iR,fx,F9⟩:=hc;cases h;obtain⟨k9,Oj⟩:=cO h2;simp only [Ck.qv,beq_iff_eq]at Oj;subst Oj;have e1:(SV.sl b (.lit 0) s (.lit 1) cap).val ρ= .slice (some ⟨ρ.bv.getD b 0,0,none⟩) 1 (cap.den ρ 0).toNat:=by
       simp [SV.val,E.den]
      rw [e1];exact tQ (P:=P) (w:=w) (hp:=hp) (S:=S) (nb:=nb) (nv:=nv) hT j9 fq hk gX fx DS (cV j' (by simp) _ k9) hw hl iR pg F9 ty
     ·cases h
    ·cases h
   ·cases h
  ·cases h
 ·cases h
theorem ux{b:Nat}{cs:List Value}{S:Nat→Prop}(hS:(ax b true cs).p w S)(t e:TypeId)(ht:P.underlying t=some (.slice e))(he:P.underlying e=some (.int .u8))(o n c:Nat):
  ∃w',(convert t t (.slice (some ⟨b,o,none⟩) n c)).run P w= .ok (.slice (some ⟨b,o,none⟩) n c) w'∧fV w w'∧w'.heap.size=w.heap.size∧(∀k,k≠b→w'.heap[k]? =w.heap[k]?)∧(ax b false cs).p w' S:=by
 obtain⟨h1,ty,fz,hg,_⟩:=hS;have oe:w.shape? b=some (ty,cs.length):=by
  unfold World.shape?;rw [hg];simp
 refine⟨w.freeze ⟨b,cs.length,none⟩ 1,by simp [convert,run_underlying ht,run_underlying he,markStringish,oe],?_,?_,?_,h1,?_⟩
 ·unfold World.freeze;rw [if_neg (by decide)];exact⟨rfl,rfl,rfl,by simp⟩
 ·unfold World.freeze;rw [if_neg (by decide)];simp
 ·intro k hk;unfold World.freeze;rw [if_neg (by decide)];simp [Array.getElem?_modify,Ne.symm hk]
 ·unfold World.freeze;rw [if_neg (by decide)];obtain⟨lo,hi⟩:=fz;exact⟨ty,_,by simp only [Array.getElem?_modify,if_true,hg,Option.map_some];rfl,fun h=>by cases h⟩
theorem mH{t:TypeId}{tt:TI}(hT:bG P T=true)(fq:a_ T t=some tt)(hk:tt.k= .str)(l:List UInt8)(k:IntKind)(j:Int)(h0:0≤j)(h1:j.toNat<l.length):
  (Instr.index t (.string ⟨l.toArray⟩) (.int k j)).run P w= .ok (.int .u8 ((l.getD j.toNat 0).toNat:Nat)) w:=by
 obtain⟨rfl,hi⟩:=aH hT fq;have cX:=hi.kind;rw [hk]at cX;have hu:P.underlying tt.t=some .string:=by
  unfold hJ at cX;split at cX<;>simp_all
 have hg:(⟨l.toArray⟩:ByteArray)[j.toNat]? =some (l.getD j.toNat 0):=by
  have bU:j.toNat<(⟨l.toArray⟩:ByteArray).size:=by simpa [ByteArray.size] using h1
  rw [getElem?_pos (⟨l.toArray⟩:ByteArray) j.toNat bU];simp only [List.getD,afA h1,afG];rfl
 simp [Instr.index,asIntOf,run_underlying hu,h0,hg]
theorem nA{l:List BE}(h: ∀b∈l.filter (fun b=>b != .lit true),b.prop ρ): ∀b∈l,b.prop ρ:=by
 intro b hb;by_cases hc:b= .lit true
 ·subst hc;rfl
 ·exact h b (afk.2 ⟨hb,by simpa using hc⟩)
theorem CA{t:TypeId}{tt:TI}(hT:bG P T=true)(fq:a_ T t=some tt)(hk:tt.k= .str){v:SV}{k:IntKind}{j:E}{res:hZ}(h:G9 v j=some res)(bY: ∀b∈res.vcs,b.prop ρ):
  (Instr.index t (v.val ρ) (.int k (j.den ρ 0))).run P w= .ok (res.val.val ρ) w∧res.hO= .none:=by
 unfold G9 at h;split at h
 ·rename_i l;split at h
  ·rename_i i;split at h
   ·rename_i hl;cases h;exact⟨mH hT fq hk l k _ (by simp [E.den]) (by simpa [E.den] using hl),rfl⟩
   ·cases h
  ·cases h;have h2:=nA bY;have q0:=of_decide_eq_true (gK ρ _ _▸(BE.cc ρ _).2 (h2 _ aeZ));have q1:=of_decide_eq_true (si ρ _ _▸(BE.cc ρ _).2 (h2 _ (ae4 _ aeZ)));simp only [cK]at q0 q1;refine⟨?_,rfl⟩;have e1:(SV.str l).val ρ= .string ⟨l.toArray⟩:=rfl;rw [e1,mH hT fq hk l k _ q0 (by omega),SV.val,ei,F1]
 ·rename_i s;cases h;have h2:=nA bY;have q0:=of_decide_eq_true (gK ρ _ _▸(BE.cc ρ _).2 (h2 _ aeZ));have q1:=of_decide_eq_true (si ρ _ _▸(BE.cc ρ _).2 (h2 _ (ae4 _ aeZ)));simp only [cK,fO]at q0 q1;refine⟨?_,rfl⟩;have bU:(j.den ρ 0).toNat<(s.den ρ 0).toNat:=by omega
  have e1:(SV.kg s).val ρ= .string ⟨(cj (s.den ρ)).toArray⟩:=rfl;rw [e1,mH hT fq hk _ k _ q0 (by rw [cG];exact bU),SV.val,ei,DA];congr 2;simp [List.getD,ju _ bU,Jy]
 ·cases h
theorem Hg(l:List UInt8)(a b:Nat):(⟨l.toArray⟩:ByteArray).extract a b=⟨((l.take b).drop a).toArray⟩:=by
 apply ByteArray.ext;rw [ByteArray.data_extract];apply Array.ext';simp [List.drop_take]
theorem qT{t:TypeId}{tt:TI}(hT:bG P T=true)(fq:a_ T t=some tt)(hk:tt.k= .str)(L:List UInt8){lo hi:Option Value}{l h:Option Int}(hl:fF lo l)(hh:fF hi h)
  (h0:0≤l.getD 0) (h1:l.getD 0≤h.getD (L.length:Int)) (h2:h.getD (L.length:Int)≤L.length):
  (Instr.sliceAt t (.string ⟨L.toArray⟩) lo hi none).run P w= .ok (.string ⟨((L.take (h.getD (L.length:Int)).toNat).drop (l.getD 0).toNat).toArray⟩) w:=by
 obtain⟨rfl,mi⟩:=aH hT fq;have cX:=mi.kind;rw [hk]at cX;have hu:P.underlying tt.t=some .string:=by
  unfold hJ at cX;split at cX<;>simp_all
 have hb:=rq (P:=P) (w:=w) false L.length L.length (lo:=lo) (hi:=hi) (mx:=none) (m:=none) hl hh True.intro (by simp) h0 h1 (by simp) (fun _=>h2);have fx:(⟨L.toArray⟩:ByteArray).size=L.length:=by simp [ByteArray.size]
 simp only [Instr.sliceAt,Instr.slice,afa,run_underlying hu,ae3,fx,Hg];simp [hb]
theorem tf{t:TypeId}{tt:TI}(hT:bG P T=true)(fq:a_ T t=some tt)(hk:tt.k= .str)(s a b:E){lo hi:Option Value}{l h:Option Int}(hl:fF lo l)(hh:fF hi h)
  (ha:a.den ρ 0=l.getD 0) (hb: ∀n:Int,(0≤s.den ρ 0→n=s.den ρ 0)→b.den ρ 0=h.getD n∨(h=none∧b.den ρ 0=s.den ρ 0)) (bY: ∀b'∈(rL s a b).vcs,b'.prop ρ):
  (Instr.sliceAt t (.string ⟨(cj (s.den ρ)).toArray⟩) lo hi none).run P w= .ok ((rL s a b).val.val ρ) w:=by
 unfold rL at bY ⊢;have Z2: ∀x y:E,(∀b'∈rL.W0 x y,b'.prop ρ)→x.den ρ 0≤y.den ρ 0:=by
  intro x y h;unfold rL.W0 at h;split at h
  ·rename_i he;rw [he];exact Int.le_refl _
  ·exact of_decide_eq_true (gK ρ _ _▸(BE.cc ρ _).2 (nA h _ (afC.2 rfl)))
 have q1:=Z2 _ _ fun c hc=>bY c (List.mem_append_left _ (List.mem_append_left _ hc))
 have q2:=Z2 _ _ fun c hc=>bY c (List.mem_append_left _ (List.mem_append_right _ hc))
 have q3:=Z2 _ _ fun c hc=>bY c (List.mem_append_right _ hc)
 simp only [cK,fO]at q1 q2 q3;have hlen:((cj (s.den ρ)).length:Int)=s.den ρ 0:=by rw [cG];omega
 have Z3:b.den ρ 0=h.getD ((cj (s.den ρ)).length:Int):=by
  rcases hb (cj (s.den ρ)).length (fun _=>hlen)with e | ⟨e1,e2⟩
  ·exact e
  ·rw [e1,e2];exact hlen.symm
 have:=qT (P:=P) (w:=w) hT fq hk (cj (s.den ρ)) hl hh (by rw [←ha];exact q1) (by rw [←ha,←Z3];exact q2) (by rw [←Z3,hlen];exact q3);rw [this,SV.val,JE ρ s a b q1 q2 q3,←Z3,←ha]
theorem yM{t:TypeId}{tt:TI}(hT:bG P T=true)(fq:a_ T t=some tt)(hk:tt.k= .str){v:SV}{l h:Option E}{res:hZ}(hs:yA v l h=some res)
  {lo hi:Option Value} (hl:fF lo (l.map fun e:E=>e.den ρ 0)) (hh:fF hi (h.map fun e:E=>e.den ρ 0)) (bY: ∀b∈res.vcs,b.prop ρ):
  (Instr.sliceAt t (v.val ρ) lo hi none).run P w= .ok (res.val.val ρ) w∧res.hO= .none:=by
 have ga: ∀(o:Option E) (d:E),(o.getD d).den ρ 0=(o.map fun e:E=>e.den ρ 0).getD (d.den ρ 0):=by intro o d;cases o<;>rfl
 unfold yA at hs;split at hs
 ·rename_i L;split at hs
  ·rename_i a b e1 e2;split at hs
   ·rename_i hc;cases hs;have f1:=ga l (.lit 0);have f2:=ga h (.lit L.length);rw [e1]at f1;rw [e2]at f2;simp only [cK]at f1 f2;refine⟨?_,rfl⟩;have:=qT (P:=P) (w:=w) hT fq hk L hl hh (by rw [←f1];simp) (by rw [←f1,←f2];exact Int.ofNat_le.2 hc.1) (by rw [←f2];exact Int.ofNat_le.2 hc.2);rw [SV.val,this,SV.val,←f1,←f2];simp
   ·cases hs
  ·rename_i a b eZ;cases hs;refine⟨?_,rfl⟩;have:=tf (P:=P) (w:=w) (ρ:=ρ) hT fq hk (y9 L) (l.getD (.lit 0)) (h.getD (.lit L.length)) hl hh (ga l (.lit 0)) (fun n hn=>by
    left;rw [ga h (.lit L.length),cK,hn (by rw [k_];simp [Jx]),k_];rfl) bY
   rw [k_,mS]at this;exact this
 ·rename_i s;cases hs;refine⟨?_,rfl⟩;exact tf (P:=P) (w:=w) (ρ:=ρ) hT fq hk s (l.getD (.lit 0)) (h.getD (jQ s)) hl hh (ga l (.lit 0)) (fun n hn=>by
   cases h with
   | none=>exact .inr ⟨rfl,by simp [fO]⟩
   | some e=>exact .inl rfl) bY
 ·cases hs
theorem Uv{t:TypeId}(hu: ∃m,P.underlying t=some (.interface m))(d:Nat):(afu (d+1) t .nilIface .nilIface).run P w= .ok true w:=by
 obtain⟨m,hu⟩:=hu;have uO:=run_underlying hu w;rw [afu];simp only [afa,uO,ae3];rfl
theorem W_{t t':TypeId}{v:Value}(hu: ∃m,P.underlying t=some (.interface m))(d:Nat):(afu (d+1) t (.iface t' v) .nilIface).run P w= .ok false w:=by
 obtain⟨m,hu⟩:=hu;have uO:=run_underlying hu w;rw [afu];simp only [afa,uO,ae3];rfl
theorem Hh(x:Value): ∃t v,sf x= .iface t v:=by
 unfold sf;split<;>exact⟨_,_,rfl⟩
theorem CB{ti:TI}(cQ:jS P ti){op:BinOp}{xo yo:Operand}{a:SV}{r:hZ}(h:yC ti op yo a=some r):
  yo= .const .nilIface∧(do eqGuard op ti.t xo yo (a.val ρ) .nilIface;binOp op ti.t (a.val ρ) .nilIface:Sem Value).run P w= .ok (r.val.val ρ) w∧r.hO= .none:=by
 have hk:=cQ.kind;have hu:ti.k= .iface→∃m,P.underlying ti.t=some (.interface m):=by
  intro e;rw [e]at hk;unfold hJ at hk;split at hk<;>simp_all
 have g1: ∀v,(eqGuard op ti.t xo (.const .nilIface) v .nilIface).run P w= .ok () w:=by
  intro v;cases op<;>cases v<;>simp [eqGuard]
 unfold yC at h;split at h
 ·rename_i Xa;have hu:=hu Xa;split at h
  ·cases h;exact⟨rfl,bw (g1 _) (du rfl fun d=>Uv hu d),rfl⟩
  ·cases h;exact⟨rfl,bw (g1 _) (dv rfl fun d=>Uv hu d),rfl⟩
  ·cases h
 ·rename_i t' k' e' Xa;have hu:=hu Xa;have hv: ∀d,(afu (d+1) ti.t ((SV.L6 t' k' e').val ρ) .nilIface).run P w= .ok false w:=fun d=>W_ hu d
  split at h
  ·cases h;exact⟨rfl,bw (g1 _) (du rfl hv),rfl⟩
  ·cases h;exact⟨rfl,bw (g1 _) (dv rfl hv),rfl⟩
  ·cases h
 ·rename_i c v Xa;have hu:=hu Xa;obtain⟨t',x,hx⟩:=Hh (ρ.vv.getD v V1.nil).v;have hv: ∀d,(afu (d+1) ti.t ((SV.FZ c v).val ρ) .nilIface).run P w= .ok (!c.den ρ) w:=by
   intro d;simp only [SV.val];cases c.den ρ with
   | true=>simp only [if_true,hx];exact W_ hu d
   | false=>simp only [Bool.false_eq_true,if_false];exact Uv hu d
  have wm:binOp .eql ti.t ((SV.FZ c v).val ρ) .nilIface=(do pure (.bool (←Op.equal ti.t ((SV.FZ c v).val ρ) .nilIface)):Sem Value):=by
   simp only [SV.val];cases c.den ρ with
   | true=>simp only [if_true,hx];rfl
   | false=>rfl
  have y4:binOp .neq ti.t ((SV.FZ c v).val ρ) .nilIface=(do pure (.bool (!(←Op.equal ti.t ((SV.FZ c v).val ρ) .nilIface))):Sem Value):=by
   simp only [SV.val];cases c.den ρ with
   | true=>simp only [if_true,hx];rfl
   | false=>rfl
  split at h
  ·cases h;refine⟨rfl,bw (g1 _) ?_,rfl⟩;rw [du wm hv];simp [SV.val,df]
  ·cases h;refine⟨rfl,bw (g1 _) ?_,rfl⟩;rw [dv y4 hv];simp [SV.val]
  ·cases h
 ·cases h
theorem wi(w:World)(e:TypeId)(s:ByteArray):fV w (Lib.bytesWorld w e s):=by
 unfold Lib.bytesWorld World.freeze;rw [if_neg (by decide)];exact⟨rfl,rfl,rfl,by simp⟩
theorem zH(w:World)(e:TypeId)(s:ByteArray):w.heap.size<(Lib.bytesWorld w e s).heap.size:=by rw [Lib.bytesWorld_size];omega
theorem uy(w:World)(e:TypeId)(s:E):
  World.views (Lib.bytesWorld w e ⟨(cj (s.den ρ)).toArray⟩) (.slice (some ⟨w.heap.size,0,none⟩) (s.den ρ 0).toNat (grownCap w (s.den ρ 0).toNat 0 e)) ((jQ s).den ρ 0).toNat
   (aM ρ ((jQ s).den ρ 0).toNat [⟨.int .u8,1,JC s⟩]):=by
 refine⟨_,_,_,rfl,by rw [fO],grownCap_ge ..,fun h=>(nomatch h),fun ad pW=>⟨fun _=>?_,fun j u hu=>?_⟩⟩
 ·cases pW;rfl
 ·cases pW;rw [eo,bu,fO]at hu;split at hu
  ·rename_i hj;have:=Lib.bytesWorld_cell w e ⟨(cj (s.den ρ)).toArray⟩ j (by simpa [ByteArray.size,cG] using hj);rw [eI,Nat.zero_add];cases hu;rw [this,DA];congr 2;simp [List.getD,ju _ hj,Jy]
  ·cases hu
theorem qU(hT:bG P T=true){src dst:TypeId}{ts ti:TI}(tz:a_ T src=some ts)(hk:ts.k= .str)(cQ:a_ T dst=some ti){v:SV}{res:hZ}(h:bytesOf T nv ti.k v=some res)(bY: ∀b∈res.vcs,b.prop ρ):
  Did P ρ w hp S nb nv ((do pure (.value (←convert src dst (v.val ρ))):Sem Next).run P w) res:=by
 obtain⟨rfl,FG⟩:=aH hT tz;obtain⟨rfl,Is⟩:=aH hT cQ;have cX:=FG.kind;rw [hk]at cX;have Z4:P.underlying ts.t=some .string:=by
  unfold hJ at cX;split at cX<;>simp_all
 unfold bytesOf at h;split at h
 ·rename_i e he;split at h
  ·rename_i te s gX hs;split at h
   ·rename_i hc;obtain⟨Xb,j_⟩:=hc;cases h;obtain⟨rfl,DO⟩:=aH hT gX;have k2:=Is.kind;rw [he]at k2;have hu2:=bO k2;have k3:=DO.kind;rw [Xb]at k3;have hu3:=jV k3;have q0:=of_decide_eq_true (gK ρ _ _▸(BE.cc ρ _).2 (nA bY _ (afC.2 rfl)));simp only [cK,fO]at q0;have hv:=rh ρ hs;have iS:=Lib.run_convert_string_bytes (P:=P) w ts.t ti.t te.t ⟨(cj (s.den ρ)).toArray⟩ Z4 hu2 hu3;have fx:(⟨(cj (s.den ρ)).toArray⟩:ByteArray).size=(s.den ρ 0).toNat:=by simp [ByteArray.size,cG]
    rw [fx]at iS;refine⟨te.t,1,jQ s,[⟨.int .u8,1,JC s⟩],.slice (some ⟨w.heap.size,0,none⟩) (s.den ρ 0).toNat (grownCap w (s.den ρ 0).toNat 0 te.t),Lib.bytesWorld w te.t ⟨(cj (s.den ρ)).toArray⟩,fun k=>k=w.heap.size∧0<(s.den ρ 0).toNat,rfl,rfl,by rw [hv,afa,iS];rfl,rfl,?_,?_,?_,?_⟩
    ·exact wi w te.t _
    ·exact fun k hk=>Lib.bytesWorld_at_old w te.t _ k hk
    ·refine⟨?_,fun k=>?_⟩
     ·simp only [Bool.false_eq_true,if_false];exact⟨by rw [dj];simp [bW],uy w te.t s⟩
     ·simp [Value.ownBlock,fO,eq_comm]
    ·intro k hk;refine⟨by omega,?_⟩;rw [hk.1];exact zH w te.t _
   ·cases h
  ·cases h
 ·cases h
theorem KO(a:Addr)(k:Nat)(h:a.spot=none):(a.add k).spot=none:=by
 unfold Addr.add;split<;>simp_all
theorem ug{md:Bool}{t s n:Nat}{v:Value}{cs:List Value}{S:Nat→Prop}(h:(aE md t s v n cs).p w S):World.views w v n cs∧cs.length=n*s:=by
 obtain⟨h0,_⟩:=h;cases md with
 | true=>
  simp only [if_true]at h0;have RM:=h0;obtain⟨hl,hr⟩:=h0;refine⟨?_,hl⟩;rcases hr with⟨rfl,rfl⟩ | ⟨g,o,cap,cur,rfl,hg,CI,_⟩
  ·exact⟨none,0,0,rfl,rfl,Nat.le_refl _,fun _=>rfl,by simp⟩
  ·refine⟨_,n,cap,rfl,rfl,CI,by simp,?_⟩;rintro _ ⟨⟩;exact⟨fun _=>rfl,fun j u hu=>iX RM j u hu⟩
 | false=>
  simp only [Bool.false_eq_true,if_false]at h0;exact⟨h0.2,h0.1⟩
theorem uz(ad:Addr)(l:List Value)(n:Nat)(hn:l.length=n)(h: ∀(j:Nat) v,l[j]? =some v→w.cell? (ad.add j)=some v):(loadCells ad n).run P w= .ok l.toArray w:=by
 subst hn;exact run_loadCells_list (P:=P) w ad l h
theorem iy{src dst e:TypeId}(hs:P.underlying src=some (.slice e))(he:P.underlying e=some (.int .u8))(hd:P.underlying dst=some .string){a:Option Addr}{m c:Nat}{f:Nat→Int}(h0:a=none→m=0)(hc: ∀ad,a=some ad→∀(j:Nat) u,(al .u8 m f)[j]? =some u→w.cell? (ad.add j)=some u):
  (convert src dst (.slice a m c)).run P w= .ok (.string ⟨((List.range m).map fun j=>UInt8.ofNat (f j).toNat).toArray⟩) w:=by
 rw [run_convert_bytes_string w src dst e a m c hs he hd];cases a with
 | none=>
  have:=h0 rfl;subst this;simp [Conv.bytesToString,afs];rfl
 | some ad=>
  have hl:(loadCells ad m).run P w= .ok (((List.range m).map f).map (Value.int .u8)).toArray w:=by
   rw [List.map_map];exact uz ad _ m (by simp) fun j u hu=>hc ad rfl j u hu
  rw [run_bytesToString w ad m c _ hl,foldl_push_bytes,List.map_map];simp [ByteArray.empty,ByteArray.emptyWithCapacity,Function.comp_def];rfl
theorem Ol{t:TypeId}(h:hJ (P.underlying t) .str=true):P.underlying t=some .string:=by
 unfold hJ at h;split at h<;>simp_all
theorem mb(a n:E):cj ((ql a n).den ρ)=(List.range (n.den ρ 0).toNat).map fun j=>UInt8.ofNat (a.den ρ j).toNat:=by
 unfold ql;split
 ·rename_i k hk;have hn:=cy (ρ:=ρ) hk;split
  ·rename_i l hl;have hl:=ry (ρ:=ρ) hl;subst hl;rw [hn,afe];unfold cj;simp only [E.den,ah,afe];refine List.map_congr_left fun j hj=>?_
   have hj:=afg.1 hj;simp [hj]
  ·exact ri ρ a n
 ·exact ri ρ a n
theorem zI{src dst e:TypeId}(hs:P.underlying src=some (.slice e))(he:P.underlying e=some (.int .u8))(hd:P.underlying dst=some .string){v:SV}{res:hZ}(h:Cw hp v=some res)(cV:Reads hp ρ w S res.rd)(bY: ∀b∈res.vcs,b.prop ρ):
  Did P ρ w hp S nb nv ((do pure (.value (←convert src dst (v.val ρ))):Sem Next).run P w) res:=by
 unfold Cw at h;split at h
 ·cases h;refine dD ?_;exact iy (P:=P) (w:=w) (a:=none) (m:=0) (c:=0) (f:=fun _=>0) hs he hd (fun _=>rfl) fun _ h=>nomatch h
 ·rename_i b i n m;split at h
  ·rename_i j b' wr cs i' n' hf hi hn;split at h
   ·rename_i xs F3;split at h
    ·rename_i kl a JZ;split at h
     ·rename_i CL;cases h;obtain⟨hj,dC⟩:=cO hf;simp only [Ck.qv,beq_iff_eq]at dC;subst dC;have hS:=cV j (by simp) _ hj;obtain⟨h1,ty,fz,hg,_⟩:=hS;have hi:=cy (ρ:=ρ) hi;have hn:=cy (ρ:=ρ) hn;refine dD ?_;have P4:=gv (ρ:=ρ) JZ;rw [CL,List.length_replicate,nN]at P4;obtain⟨Tb,hle⟩:=eK (ρ:=ρ) F3;rw [Tb]at P4;rw [mV,mb,cK,afe];have e1:(SV.sl b i 1 n m).val ρ= .slice (some ⟨ρ.bv.getD b 0,i',none⟩) n' (m.den ρ 0).toNat:=by simp [SV.val,hi,hn]
      rw [e1];refine iy (P:=P) (w:=w) (f:=a.den ρ) hs he hd (fun h=>nomatch h) ?_;rintro _ ⟨⟩ j u hu;rw [←P4,List.getElem?_take]at hu;split at hu
      ·rw [List.getElem?_drop]at hu;rw [eI];simp only [World.cell?,hg];simpa using hu
      ·cases hu
     ·cases h
    ·cases h
   ·cases h
  ·rename_i j b' wr m' a hf hi hn;cases h;obtain⟨hj,dC⟩:=cO hf;simp only [Ck.qv,beq_iff_eq]at dC;subst dC;have hS:=cV j (by simp) _ hj;obtain⟨h1,ty,fz,hg,_⟩:=hS;have hi:=cy (ρ:=ρ) hi;have hle:=of_decide_eq_true (gK ρ _ _▸(BE.cc ρ _).2 (nA bY _ (afC.2 rfl)));simp only [cK]at hle;refine dD ?_;rw [mV,mb];have e1:(SV.sl b i 1 n m).val ρ= .slice (some ⟨ρ.bv.getD b 0,0,none⟩) (n.den ρ 0).toNat (m.den ρ 0).toNat:=by simp [SV.val,hi]
   rw [e1];refine iy (P:=P) (w:=w) (f:=a.den ρ) hs he hd (fun h=>nomatch h) ?_;rintro _ ⟨⟩ j u hu;obtain⟨bU,_⟩:=aeV.1 hu;rw [aG]at bU;rw [eI];simp only [World.cell?,hg];rw [←hu,bu,if_pos bU];have ec:SV.aC ρ [SV.cE .u8 m' a]=al .u8 m' (a.den ρ):=by simp [SV.aC,SV.cells]
   rw [ec,Nat.zero_add,List.getElem?_toArray,bu,if_pos (show j<m' by omega)];rfl
  ·cases h
 ·rename_i v;split at h
  ·rename_i j md v' t n a hf;cases h;obtain⟨hj,dC⟩:=cU hf;simp only [Ck.lO,beq_iff_eq]at dC;subst dC;have hS:=cV j (by simp) _ hj;have hv:=(ug hS).1;rw [eo]at hv;obtain⟨a',m',c',e1,e2,_,h0,hc⟩:=hv;refine dD ?_;rw [mV,mb];rw [show(SV.vv v).val ρ= .slice a' m' c' from e1,←e2];exact iy (P:=P) (w:=w) hs he hd (fun h=>e2.trans (h0 h)) fun ad pW j u hu=>(hc ad pW).2 j u (by rw [←e2];exact hu)
  ·cases h
 ·rename_i v cs s;split at h
  ·rename_i r hr;split at h
   ·rename_i a oe;split at h
    ·rename_i gY;obtain⟨j_,hw⟩:=gY;cases h;simp only at bY cV;obtain⟨v1,v2⟩:=bD bY;have v2:=bq v2;simp only [E.den]at v2;have Z5:=Fc hr cV v1 v2 hw oe;obtain⟨_,_,a',c',e1,h0,hc⟩:=Z5;rw [eo]at hc;refine dD ?_;rw [mV,mb,e1];exact iy (P:=P) (w:=w) hs he hd h0 fun ad pW j u hu=>hc ad pW j u hu
    ·cases h
   ·cases h
  ·cases h
 ·cases h
theorem ji(hT:bG P T=true){src dst:TypeId}{ti:TI}(cQ:a_ T dst=some ti)(hk:ti.k= .str){v:SV}{res:hZ}(h:ns T hp src v=some res)(cV:Reads hp ρ w S res.rd)(bY: ∀b∈res.vcs,b.prop ρ):
  Did P ρ w hp S nb nv ((do pure (.value (←convert src dst (v.val ρ))):Sem Next).run P w) res:=by
 unfold ns at h;split at h
 ·rename_i ts tz;split at h
  ·rename_i e he;split at h
   ·rename_i te gX;split at h
    ·rename_i Xb;obtain⟨rfl,FG⟩:=aH hT tz;obtain⟨rfl,Is⟩:=aH hT cQ;obtain⟨rfl,hi3⟩:=aH hT gX;have k1:=FG.kind;rw [he]at k1;have k2:=Is.kind;rw [hk]at k2;have k3:=hi3.kind;rw [Xb]at k3;exact zI (bO k1) (jV k3) (Ol k2) h cV bY
    ·cases h
   ·cases h
  ·cases h
 ·cases h
theorem wj(hT:bG P T=true)(j9:ρ.Ok){t t':TypeId}{tt:TI}(fq:a_ T t=some tt){v u:SV}{res:hZ}(h:uu T hp nv tt t t' v u=some res)
  (cV:Reads hp ρ w S res.rd) (bY: ∀b∈res.vcs,b.prop ρ) (ty:TypeId):
  Did P ρ w hp S nb nv ((do pure (.value (←afh #[t,t'] ty #[v.val ρ,u.val ρ])):Sem Next).run P w) res:=by
 unfold uu at h;split at h
 ·rename_i heq;subst heq;split at h
  ·rename_i r hr;cases h;exact wh (P:=P) (w:=w) (nb:=nb) hT j9 fq hr cV bY ty
  ·split at h
   ·rename_i r hr;cases h;exact uw hT fq hr cV bY ty
   ·split at h
    ·rename_i r hr;cases h;exact vT hT fq hr cV bY ty
    ·exact vU hT fq h cV ty
 ·split at h
  ·rename_i ti kk m cQ;split at h
   ·rename_i kt XJ;exact zo hT fq cQ XJ h cV bY kk ty
   ·cases h
  ·cases h
theorem pA(hT:bG P T=true)(j9:ρ.Ok)(sx:so ρ look vals){o:Oper}{res:hZ}(h:dA T look hp nb nv o=some res)
  (cV:Reads hp ρ w S res.rd) (bY: ∀b∈res.vcs,b.prop ρ) (FA:ρ.bv.length=nb):Did P ρ w hp S nb nv ((execOp vals o).run P w) res:=by
 obtain⟨dst,op,ty,pos,aft,gd⟩:=o;have ev: ∀{x v},iD look x=some v→vals x=v.val ρ:=fun h=>eP sx h
 cases op with
 | move x=>
  simp only [dA,aeY]at h;obtain⟨v,hv,rfl⟩:=h;exact cD (by simp [execOp,ev hv])
 | assign x=>
  simp only [dA,aeY]at h;obtain⟨v,hv,rfl⟩:=h;exact cD (by simp [execOp,ev hv])
 | pick c a b=>
  simp only [dA]at h;split at h
  ·rename_i c' a' b' hc ha hb;rw [aeY]at h;obtain⟨v,hv,rfl⟩:=h;refine cD ?_;rw [Hf hv];simp [execOp,ev hc,ev ha,ev hb,SV.val,asBool]
  ·cases h
 | alloc t=>
  simp only [dA,Option.bind_eq_some_iff]at h;obtain⟨ti,cQ,h⟩:=h;split at h
  ·split at h
   ·rename_i hz;cases h;exact JP hT FA cQ _ (cI hz)
   ·cases h
  ·cases h;exact DN hT FA cQ
 | box t x=>
  simp only [dA]at h;split at h
  ·rename_i v hv;rw [aeY]at h;obtain⟨cs,mj,rfl⟩:=h;have:=JQ (P:=P) (w:=w) (hp:=hp) (S:=S) (nv:=nv) j9 FA (t:=t) mj;simp only [execOp,ev hv];exact this
  ·cases h
 | build t parts=>
  simp only [dA]at h;split at h
  ·rename_i ti ps cQ Tu;have hm:ff ρ ps (parts.map fun x=>(x.1,vals x.2)).toList:=by
    rw [Array.toList_map];exact nQ sx j9 _ _ Tu
   split at h
   ·rename_i fs hk;split at h
    ·rename_i tK;rw [aeY]at h;obtain⟨cs,mj,rfl⟩:=h;have:=rm (w:=w) hT cQ hk tK hm mj;exact dD this
    ·cases h
   ·rename_i n e hk;split at h
    ·rename_i te gX;rw [aeY]at h;obtain⟨cs,mj,rfl⟩:=h;have:=vO (w:=w) hT cQ hk gX hm mj;exact dD this
    ·cases h
   ·cases h
  ·cases h
 | buildSlice t len parts=>
  simp only [dA]at h;split at h
  ·rename_i ti ps cQ Tu;have hm:ff ρ ps (parts.map fun x=>(x.1,vals x.2)).toList:=by
    rw [Array.toList_map];exact nQ sx j9 _ _ Tu
   split at h
   ·rename_i e hk;split at h
    ·rename_i te gX;split at h
     ·rename_i HU;split at h
      ·rename_i Rk;rw [aeY]at h;obtain⟨zc,zi,rfl⟩:=h;have Uw:(parts.map fun x=>(x.1,vals x.2))= #[]:=by
        have:ps=[]:=by simpa using Rk
        subst this;apply Array.ext';generalize (parts.map fun x=>(x.1,vals x.2)).toList=l at hm;cases hm;rfl
       have:=yK (P:=P) (w:=w) (hp:=hp) (S:=S) (nb:=nb) (nv:=nv) (ρ:=ρ) hT cQ hk gX zi;simp only [execOp,HU,Uw];exact this
      ·cases h
     ·split at h
      ·cases h
      ·rename_i HU hlen;rw [aeY]at h;obtain⟨cs,mj,rfl⟩:=h;exact tN hT FA cQ hk gX (by rintro (h | h | h);exact HU h;exact hlen (.inl h);exact hlen (.inr h)) hm mj
    ·cases h
   ·cases h
  ·cases h
 | load t x=>
  simp only [dA]at h;split at h
  ·rename_i ti a cQ ha;obtain⟨rfl,hi⟩:=aH hT cQ;obtain⟨h1,h2⟩:=qG hi h cV bY;obtain⟨rv,OX,Sk,re⟩:=res;simp only at h2;subst h2;refine cD ?_;simp only [execOp,ev ha,afa,h1,ae3,afs]
  ·cases h
 | store t x y=>
  simp only [dA]at h;split at h
  ·rename_i ti a v cQ ha hv;obtain⟨rfl,hi⟩:=aH hT cQ;obtain⟨h1,j,ck,h2,w',h3,h4⟩:=xw hi h j9 cV bY;unfold Did;rw [h2];refine⟨w',.inr ⟨h1,?_⟩,h4⟩;simp only [execOp,ev ha,ev hv,afa,h3,ae3,afs]
  ·cases h
 | nilCheck x=>
  simp only [dA]at h;split at h
  ·rename_i b c hx;cases h;exact cD (by simp [execOp,ev hx,SV.val])
  ·rename_i b c hx;cases h;exact cD (by simp [execOp,ev hx,SV.val])
  ·rename_i e hx;cases h;have hz:=bY (PN e) (by simp);have eZ:e.den ρ 0≠0:=by
    rw [←BE.cc,wo]at hz;simpa using hz
   exact cD (by simp [execOp,ev hx,SV.val,mU,eZ])
  ·rename_i v i s c hx;split at h
   ·rename_i j md v' t s' n aF hf;cases h;obtain⟨hj,dC⟩:=cU hf;simp only [Ck.lO,beq_iff_eq]at dC;subst dC;have hS:=cV j (by simp) _ hj;obtain⟨h0,h1⟩:=dp ρ bY;obtain⟨a,cp,he⟩:=m5 hS (by omega);have e2:(SV.pv v i s c).val ρ= .pointer (some (a.add ((i.den ρ 0).toNat*s+c))):=by rw [SV.val,he];rfl
    refine cD ?_;simp only [execOp,ev hx,e2,afs]
   ·cases h
  ·rename_i f cs hx;cases h;exact cD (by simp [execOp,ev hx,SV.val])
  ·cases h
 | binOp op t x y yt=>
  simp only [dA]at h;split at h
  ·rename_i ti a b cQ ha hb;obtain⟨rfl,hi⟩:=aH hT cQ;split at h
   ·rename_i r hr;cases h;have XX:=CB (P:=P) (w:=w) (ρ:=ρ) hi (xo:=x) hr;obtain⟨e1,h1,h2⟩:=XX;subst e1;obtain⟨rv,OX,Sk,re⟩:=res;simp only at h2;subst h2;refine cD ?_;have hy:vals (.const .nilIface)= .nilIface:=by
     have:iD look (.const .nilIface)=some .sd:=rfl;exact ev this
    simp only [execOp,ev ha,hy];rw [afa,h1];rfl
   obtain⟨h1,h2⟩:=JO hi (w:=w) (xo:=x) (yo:=y) h bY;obtain⟨rv,OX,Sk,re⟩:=res;simp only at h2;subst h2;refine cD ?_;simp only [execOp,ev ha,ev hb];rw [afa,h1];rfl
  ·cases h
 | unOp op t x=>
  simp only [dA]at h;split at h
  ·rename_i b hb;cases h;refine cD ?_;simp [execOp,ev hb,SV.val,Op.unary,df]
  ·rename_i k a ha;cases h;refine cD ?_;simp only [SV.val,ld,E.den];cases k<;>simp [execOp,ev ha,SV.val,Op.unary,Op.intBits,IntKind.signed,IntKind.max,s7,IntKind.hi,ak,L5,IntKind.bits]
  ·rename_i k a ha;simp only [aeX]at h;subst h;refine cD ?_;simp only [SV.val,xA bY,eJ,E.den];simp [execOp,ev ha,SV.val,Op.unary,Op.intArith]
  ·cases h
 | convert src dst x=>
  simp only [dA]at h;split at h
  ·rename_i Sl Rq k' a h1 h2 ha;split at h
   ·rename_i k hk;cases h;obtain⟨rfl,FG⟩:=aH hT h1;obtain⟨rfl,Is⟩:=aH hT h2;have cX:=Is.kind;rw [hk]at cX;have hu:=jV cX;have Z4:(P.underlying Sl.t).isSome=true:=by
     have:=FG.kind;unfold hJ at this;split at this<;>simp_all
    have RH:P.intKind Rq.t=k:=by simp [Program.intKind,hu]
    refine dD ?_;rw [ev ha,SV.val,run_convert_int w Sl.t Rq.t k' _ Z4 (by rw [RH];exact hu),RH,SV.val,JL bY]
   ·cases h
  ·rename_i Sl Rq l h1 h2 ha;split at h
   ·rename_i hk;have:=qU (P:=P) (w:=w) (hp:=hp) (S:=S) (nb:=nb) (ρ:=ρ) hT h1 hk h2 h bY;simp only [execOp,ev ha];exact this
   ·cases h
  ·rename_i Sl Rq l h1 h2 ha;split at h
   ·rename_i hk;have:=qU (P:=P) (w:=w) (hp:=hp) (S:=S) (nb:=nb) (ρ:=ρ) hT h1 hk h2 h bY;simp only [execOp,ev ha];exact this
   ·cases h
  ·rename_i Sl Rq b i s n m h1 h2 ha;split at h
   ·rename_i e hk;split at h
    ·rename_i te j b' cs gX hf;split at h
     ·rename_i hc;obtain⟨rfl,Xb⟩:=hc;cases h;obtain⟨e2,Is⟩:=aH hT h2;subst e2;obtain⟨rfl,DO⟩:=aH hT gX;have cX:=Is.kind;rw [hk]at cX;have hu:=bO cX;have qZ:=DO.kind;rw [Xb]at qZ;have hue:=jV qZ;obtain⟨hj,dC⟩:=cO hf;simp only [Ck.qv,beq_iff_eq]at dC;subst dC;have hS:=cV j (by simp) _ hj;obtain⟨w',r1,r2,r3,r4,r5⟩:=ux (P:=P) hS Rq.t te.t hu hue ((i.den ρ 0).toNat*s) (n.den ρ 0).toNat (m.den ρ 0).toNat;refine⟨w',.inl ?_,⟨⟨_,hj,rfl⟩,rfl,r2,r3,fun k hk=>r4 k fun e=>hk ((hS.1 k).2 e),r5⟩⟩;simp only [execOp,ev ha,SV.val,afa,r1,ae3,afs]
     ·cases h
    ·cases h
   ·rename_i hk;have:=ji (P:=P) (w:=w) (ρ:=ρ) (nb:=nb) (nv:=nv) hT h2 hk h cV bY;simp only [execOp,ev ha];exact this
   ·cases h
  ·rename_i Sl Rq v h1 h2 ha;split at h
   ·rename_i hk;have:=ji (P:=P) (w:=w) (ρ:=ρ) (nb:=nb) (nv:=nv) hT h2 hk h cV bY;simp only [execOp,ev ha];exact this
   ·cases h
  ·rename_i Sl Rq v cs s h1 h2 ha;split at h
   ·rename_i hk;have:=ji (P:=P) (w:=w) (ρ:=ρ) (nb:=nb) (nv:=nv) hT h2 hk h cV bY;simp only [execOp,ev ha];exact this
   ·cases h
  ·rename_i Sl Rq h1 h2 ha;split at h
   ·rename_i hk;have:=ji (P:=P) (w:=w) (ρ:=ρ) (nb:=nb) (nv:=nv) hT h2 hk h cV bY;simp only [execOp,ev ha];exact this
   ·cases h
  ·cases h
 | makeInterface t x=>
  simp only [dA]at h;split at h
  ·rename_i ti k e cQ hx;split at h
   ·rename_i hk;cases h;obtain⟨rfl,hi⟩:=aH hT cQ;have cX:=hi.kind;rw [hk]at cX;have hu:=jV cX;refine cD ?_;have hc:P.concrete ti.t=true:=by simp [Go.Program.concrete,hu]
    simp only [execOp,ev hx,afa,run_makeInterface w ti.t _ hc,ae3,afs,SV.val]
   ·cases h
  ·cases h
 | sliceToArrayPointer arr x=>
  simp only [dA]at h;split at h
  ·rename_i ta v hta hv;split at h
   ·rename_i n e hk;split at h
    ·rename_i te gX;split at h
     ·cases h
     ·rename_i US;obtain⟨rfl,FG⟩:=aH hT hta;have cX:=FG.kind;rw [hk]at cX;have hu:=m_ cX;split at h
      ·rename_i b i s m c;cases h;have q:=bq bY;simp only [E.den]at q;refine cD ?_;simp only [execOp,ev hv,SV.val,tO];have: ¬(m.den ρ 0).toNat<n:=by omega
       simp [Instr.arrayAt,run_underlying hu,this]
      ·split at h
       ·rename_i v _ r hr;cases h;simp only at bY cV;obtain⟨q1,q2⟩:=bD bY;have q:=bq q2;simp only [E.den]at q;obtain⟨hj,dI⟩:=eQ hr cV q1;have Qj:=dI.lo;have X2:=dI.hi;obtain⟨a,cp,k,e1,e2,e3,e4⟩:=dI.is;have bU:(r.p.lo.den ρ 0).toNat<(Option.map ag (Option.map (fun m=>m.den ρ 0) r.p.mx)).getD cp:=by
         cases hm:r.p.mx with
         | none=>simp only [Option.map_none,Option.getD_none];omega
         | some m=>
          have:=(dI.top (m.den ρ 0) (by rw [hm];rfl)).1;simp only [Option.map_some,afG];omega
        have mY:=e4 (.inl bU);have hS:=cV r.j (by simp) _ hj;refine cD ?_;simp only [execOp,ev hv,SV.val];rw [e3];have: ¬(r.p.len.den ρ 0).toNat<n:=by omega
        have Xc: ∃ad,a=some ad:=by
         obtain⟨ad,c2,hh⟩:=m5 hS (by omega);rw [hh]at e1;simp only [Value.slice.injEq]at e1;exact⟨ad,e1.1.symm⟩
        obtain⟨ad,rfl⟩:=Xc;rw [e1];simp [Instr.arrayAt,run_underlying hu,this,eG,mY]
       ·cases h
    ·cases h
   ·cases h
  ·cases h
 | fieldAddr s x f=>
  simp only [dA]at h;split at h
  ·rename_i ts a tz ha;split at h
   ·rename_i fs hk;split at h
    ·rename_i t off hf;split at h
     ·rename_i ti cQ;split at h
      ·cases h
      ·rename_i fx;have iS:=fun ad=>ss (w:=w) hT tz hk hf cQ fx ad
       split at h
       ·cases h;refine dD ?_;rw [ev ha,SV.val,iS,gO,SV.val]
       ·cases h;refine dD ?_;rw [ev ha,SV.val,iS,gO,SV.val,Nat.add_assoc]
       ·rename_i v i s' c;split at h
        ·rename_i j md v' t' s2 n aF cM;cases h;obtain⟨hj,dC⟩:=cU cM;simp only [Ck.lO,beq_iff_eq]at dC;subst dC;have hS:=cV j (by simp) _ hj;obtain⟨h0,h1⟩:=dp ρ bY;obtain⟨ad,cp,he⟩:=m5 hS (by omega);refine dD ?_;rw [ev ha,SV.val,he,eG,iS,dq,SV.val,he,eG,Nat.add_assoc]
        ·cases h
       ·cases h
     ·cases h
    ·cases h
   ·cases h
  ·cases h
 | field s x f=>
  simp only [dA]at h;split at h
  ·rename_i ts cs tz ha;split at h
   ·rename_i fs hk;split at h
    ·rename_i t off hf;split at h
     ·rename_i ti cQ;split at h
      ·rename_i xs F3;rw [aeY]at h;obtain⟨v,hv,rfl⟩:=h;refine dD ?_;rw [ev ha,SV.val];exact vP hT tz hk hf cQ F3 hv
      ·cases h
     ·cases h
    ·cases h
   ·cases h
  ·cases h
 | indexAddr t x y=>
  simp only [dA]at h;split at h
  ·rename_i tt a k j fq ha hy;split at h
   ·rename_i e hk;split at h
    ·rename_i te gX;split at h
     ·rename_i b i s n m;split at h
      ·rename_i fx;cases h;have La:0≤i.den ρ 0:=eN fun c hc=>bY c (List.mem_append_left _ hc)
       obtain⟨h0,h1⟩:=dp ρ (i:=j) (n:=n) fun c hc=>bY c (List.mem_append_right _ hc)
       refine dD ?_;rw [ev ha,ev hy,SV.val,SV.val,po hT fq hk gX _ _ _ _ _ h0 (by omega),gO,tO,bM,fx,Int.toNat_add La h0,Nat.add_mul,Nat.add_zero]
      ·cases h
     ·split at h
      ·rename_i r hr;split at h
       ·rename_i fx;cases h;simp only at bY cV;obtain⟨w1,w2⟩:=bD bY;obtain⟨hj,dI⟩:=eQ hr cV w1;obtain⟨h0,h1⟩:=dp ρ w2;obtain⟨b1,b2,b3,ad,c,q,hv,hc,hx,hq⟩:=dI;have JV:(r.p.lo.den ρ 0).toNat<((r.p.mx.map fun m=>m.den ρ 0).map ag).getD c:=by
         cases RR:(r.p.mx.map fun m=>m.den ρ 0)with
         | none=>simp only [Option.map_none,Option.getD_none];omega
         | some m=>have:=b3 m RR;simp only [Option.map_some,afG];omega
        have hq:=hq (.inl JV);have eZ: ∃V2,ad=some V2:=by
         cases ad with
         | some V2=>exact⟨V2,rfl⟩
         | none=>
          obtain⟨a',cp',he⟩:=m5 (cV r.j (by simp) _ hj) (by omega);rw [hv]at he;cases he
        obtain⟨ad,rfl⟩:=eZ;refine dD ?_;have e3:(SV.int k j).val ρ= .int k (j.den ρ 0):=rfl;have e2:(SV.pv r.v (dB r.p.lo j) r.s 0).val ρ= .pointer (some (ad.add ((r.p.lo.den ρ 0+j.den ρ 0).toNat*r.s+0))):=by rw [SV.val,hv,bM];rfl
        rw [ev ha,ev hy,hx,e2,e3,Option.map_some,po hT fq hk gX _ _ _ _ _ h0 (by omega),fx,Nat.add_zero,dq,hq,←Nat.add_mul,←Int.toNat_add b1 h0]
       ·cases h
      ·cases h
    ·cases h
   ·rename_i n e hk;split at h
    ·rename_i te gX;split at h
     ·rename_i b c;cases h;obtain⟨h0,h1⟩:=dp ρ bY;refine dD ?_;rw [ev ha,ev hy,SV.val,SV.val,xF hT fq hk gX _ _ _ h0 h1,gO,tO,Nat.add_comm]
     ·cases h
    ·cases h
   ·cases h
  ·cases h
 | index t x y=>
  simp only [dA]at h;split at h
  ·rename_i tt cs k j fq ha hy;split at h
   ·rename_i n e hk;split at h
    ·rename_i te gX;have hi:=(aH hT gX).2;split at h
     ·rename_i l hl;split at h
      ·rename_i hln;split at h
       ·rename_i xs F3;rw [aeY]at h;obtain⟨v,hv,rfl⟩:=h;refine dD ?_;have hd:=cy (ρ:=ρ) hl;rw [ev ha,ev hy,SV.val,SV.val];refine sv hT fq hk gX _ _ _ (by omega) (by omega) ?_;rw [hd,afe];exact xE hi F3 hv
       ·cases h
      ·cases h
     ·split at h
      ·rename_i k' m a;split at h
       ·rename_i hc;obtain⟨rfl,j_,vM⟩:=hc;cases h;obtain⟨h0,h1⟩:=dp ρ bY;refine dD ?_;rw [ev ha,ev hy,SV.val,SV.val];refine sv hT fq hk gX _ _ _ h0 h1 ?_;have bU:(j.den ρ 0).toNat<m:=by simp only [E.den]at h1;omega
        have DW:(SV.aC ρ [SV.cE k' m a])[(j.den ρ 0).toNat]? =some (.int k' (a.den ρ (j.den ρ 0).toNat)):=by
         simp only [SV.aC,SV.cells,List.append_nil];rw [bu,if_pos bU]
        rw [j_,Nat.mul_one,ei];simp [part,hi.isAgg w,vM,DW]
       ·cases h
      ·cases h
    ·cases h
   ·cases h
  ·rename_i tt v k j _ fq hx hy;split at h
   ·rename_i hk;obtain⟨h1,h2⟩:=CA (P:=P) (w:=w) (ρ:=ρ) (k:=k) hT fq hk h bY;obtain⟨rv,OX,Sk,re⟩:=res;simp only at h2;subst h2;refine dD ?_;rw [ev hx,ev hy];exact h1
   ·cases h
  ·cases h
 | extract x i=>
  simp only [dA]at h;split at h
  ·rename_i vs hx;rw [aeY]at h;obtain⟨v,hv,rfl⟩:=h;refine cD ?_;have:(SV.vals ρ vs)[i]? =some (v.val ρ):=by
    have key: ∀(l:List SV) (i:Nat),(SV.vals ρ l)[i]? =(l[i]?).map (SV.val ρ):=by
     intro l
     induction l with
     | nil=>intro i;simp [SV.vals]
     | cons x r ih=>intro i;cases i<;>simp [SV.vals,ih]
    rw [key,hv];rfl
   simp [execOp,ev hx,SV.val,Instr.extract,this]
  ·cases h
 | makeFunc fn first caps=>
  simp only [dA]at h;split at h
  ·rename_i f Ux;rw [aeY]at h;obtain⟨cs,mj,rfl⟩:=h;have:=jW sx _ _ mj;have hf:first= #[]:=Array.ext' Ux
   subst hf;refine cD ?_;simp only [execOp,afa,Instr.makeFunc,afs,ae3,SV.val];have e5:Array.map vals caps=(SV.vals ρ cs).toArray:=Array.ext' (by rw [Array.toList_map,this]);rw [e5];simp
  ·cases h
 | call c=>
  obtain⟨callee,args,argTypes⟩:=c;simp only [dA]at h;split at h
  ·rename_i x t jq CC;have hf:args= #[x]:=Array.ext' jq;have hg:argTypes= #[t]:=Array.ext' CC;subst hf hg;split at h
   ·rename_i tt v fq hv;obtain⟨h1,h2⟩:=KN (P:=P) hT fq h cV bY ty;obtain⟨rv,OX,Sk,re⟩:=res;simp only at h2;subst h2;refine cD ?_;simp only [execOp,resolve,invoke,builtin,afa,afs,ae3,afF,afj,List.map_nil,ev hv];rw [h1];rfl
   ·cases h
  ·rename_i x t jq CC;have hf:args= #[x]:=Array.ext' jq;have hg:argTypes= #[t]:=Array.ext' CC;subst hf hg;split at h
   ·rename_i tt fq hv;split at h
    ·rename_i e hk;cases h;obtain⟨rfl,nW⟩:=aH hT fq;have cX:=nW.kind;rw [hk]at cX;have hu:=bO cX;refine cD ?_;have hc:(Builtin.cap_ #[tt.t] ty #[.slice none 0 0]).run P w= .ok (goInt 0) w:=by
      simp [Builtin.cap_,run_underlying hu]
     simp only [execOp,resolve,invoke,builtin,afa,afs,ae3,afF,afj,List.map_nil,ev hv,SV.val];rw [hc];rfl
    ·cases h
   ·cases h
  ·rename_i x y jq;have hf:args= #[x,y]:=Array.ext' jq;subst hf;split at h
   ·rename_i k a k' b ha hb;cases h;refine cD ?_;simp only [execOp,resolve,invoke,builtin,afa,afs,ae3,afF,afj,List.map_nil,ev ha,ev hb,SV.val,ld];simp [Builtin.max_,Builtin.max2,ak]
   ·cases h
  ·rename_i x y jq;have hf:args= #[x,y]:=Array.ext' jq;subst hf;split at h
   ·rename_i k a k' b ha hb;cases h;refine cD ?_;simp only [execOp,resolve,invoke,builtin,afa,afs,ae3,afF,afj,List.map_nil,ev ha,ev hb,SV.val,ld];simp [Builtin.min_,Builtin.min2,ak]
   ·cases h
  ·rename_i x y t t' jq CC;have hf:args= #[x,y]:=Array.ext' jq;have hg:argTypes= #[t,t']:=Array.ext' CC;subst hf hg;split at h
   ·rename_i tt v u fq hv hu;have:=wj (P:=P) (w:=w) (nb:=nb) hT j9 fq h cV bY ty;simp only [execOp,resolve,invoke,builtin,afa,afs,ae3,afF,afj,List.map_nil,ev hv,ev hu];simp only [afa,afs]at this;exact this
   ·cases h
  ·rename_i x t jq CC;have hf:args= #[x]:=Array.ext' jq;have hg:argTypes= #[t]:=Array.ext' CC;subst hf hg;split at h
   ·rename_i tt v fq hv;have:=yL (P:=P) (w:=w) (nb:=nb) (nv:=nv) hT fq h cV bY ty;simp only [execOp,resolve,invoke,builtin,afa,afs,ae3,afF,afj,List.map_nil,ev hv];simp only [afa,afs]at this;exact this
   ·cases h
  ·rename_i x y t t' jq CC;have hf:args= #[x,y]:=Array.ext' jq;have hg:argTypes= #[t,t']:=Array.ext' CC;subst hf hg;split at h
   ·rename_i tt v u fq hv hu;split at h
    ·rename_i heq;subst heq;have:=zG (P:=P) (w:=w) (nb:=nb) (nv:=nv) hT fq h cV bY ty;simp only [execOp,resolve,invoke,builtin,afa,afs,ae3,afF,afj,List.map_nil,ev hv,ev hu];simp only [afa,afs]at this;exact this
    ·cases h
   ·cases h
  ·cases h
 | slice t x lo hi mx=>
  simp only [dA]at h;split at h
  ·rename_i tt v l hh m fq hv hl X2 hm;split at h
   ·rename_i hk;split at h
    ·cases h
    ·rename_i RR;have DV:m=none:=by cases m<;>simp_all
     subst DV;obtain⟨h1,h2⟩:=yM (P:=P) (w:=w) (ρ:=ρ) hT fq hk h (iI sx hl) (iI sx X2) bY;have Z6:mx.map vals=none:=by
      have:=iI sx hm;cases hq:mx.map vals with
      | none=>rfl
      | some v=>rw [hq]at this;exact this.elim
     obtain⟨rv,OX,Sk,re⟩:=res;simp only at h2;subst h2;refine dD ?_;rw [ev hv,Z6];exact h1
   obtain⟨h1,h2⟩:=xJ (P:=P) (w:=w) hT fq h (iI sx hl) (iI sx X2) (iI sx hm) cV bY;obtain⟨rv,OX,Sk,re⟩:=res;simp only at h2;subst h2;refine dD ?_;rw [ev hv];exact h1
  ·cases h
 | makeMap t r=>
  cases r with
  | some r=>simp [dA]at h
  | none=>
   simp only [dA]at h;have:=tT (P:=P) (w:=w) (hp:=hp) (S:=S) (nv:=nv) (ρ:=ρ) hT FA h;simp only [execOp,Option.map_none];exact this
 | lookup t x k comma=>
  simp only [dA]at h;split at h
  ·rename_i x' k' hx hk;obtain⟨h1,h2⟩:=vR (P:=P) (w:=w) hT h cV;obtain⟨rv,OX,Sk,re⟩:=res;simp only at h2;subst h2;refine dD ?_;rw [ev hx,ev hk];exact h1
  ·cases h
 | mapUpdate t x k v=>simp [dA]at h
 | insert t x k v=>
  simp only [dA]at h;split at h
  ·rename_i x' k' v' hx hk hv;obtain⟨h1,j,ck,h2,w',h3,h4⟩:=vS (P:=P) (w:=w) hT h cV;unfold Did;rw [h2];refine⟨w',.inr ⟨h1,?_⟩,h4⟩;simp only [execOp,ev hx,ev hk,ev hv,afa,h3,ae3,afs]
  ·cases h
 | makeSlice t n c=>
  simp only [dA]at h;split at h
  ·rename_i tt k n' k' c' fq hn hc;have:=zF (P:=P) (w:=w) (hp:=hp) (S:=S) (nb:=nb) (ρ:=ρ) hT fq h bY k k';have en:vals n= .int k (n'.den ρ 0):=ev hn;have ec:vals c= .int k' (c'.den ρ 0):=ev hc;simp only [execOp,en,ec];exact this
  ·cases h
 | range t x=>simp [dA]at h
 | next x b=>simp [dA]at h
 | _=>simp [dA]at h
end
end Go.RX
