/- Executor. -/
import Derived.Lib.OthersKept
import Derived.Test.YtllcdnkfbeokhaaGreatRxOg
import Derived.Test.YtllcdnkfbeokhaaGreatM13
import Derived.Lib.ConvBytes
import Derived.WalkSpells
open Array renaming ext' → auY
open Go.Builtin renaming append_ → auP
open Go.Op renaming equalIn → auW
open Go.Result renaming andThen_ok → aut
open Go.Sem renaming run_bind → auC, run_pure → auI
open Int renaming toNat → ag, toNat_natCast → auD
open List renaming getD_cons_zero → ah, getD_eq_getElem?_getD → auO, getElem?_append_left → auu, getElem?_eq_getElem → auU, getElem?_eq_some_iff → aup, map_cons → auK, map_toArray → au5, mem_cons_of_mem → auw, mem_cons_self → aur, mem_filter → auR, mem_range → auG, mem_singleton → auz
open Option renaming getD_some → au8, map_eq_some_iff → aus
open Option.some renaming injEq → auq
namespace Go.RX
section
variable {P:Program} {ρ:Env} {w:World} {look:Nat→Option SV} {bH:Operand→Value} {hp:List Ck} {S:Nat→Nat→Prop} {nb nv:Nat} {T:List TI}
theorem ct{run:Result Next}{v:SV}{vcs:List BE}{rd:List Nat}(h:run= .ok (.value (v.val ρ)) w):Did P ρ w hp S nb nv run {val:=v,vcs:=vcs,rd:=rd}:=h
theorem eF{s:Sem Value}{v:SV}{vcs:List BE}{rd:List Nat}(h:s.run P w= .ok (v.val ρ) w):
  Did P ρ w hp S nb nv ((do pure (.value (←s)):Sem Next).run P w) {val:=v,vcs:=vcs,rd:=rd}:=by
 apply ct;simp only [auC,h,aut,auI]
theorem Kh{c:BE}{a b v:SV}(h:EX c a b=some v):v.val ρ=if c.den ρ then a.val ρ else b.val ρ:=by
 unfold EX at h;split at h
 ·cases h;simp [BE.den]
 ·cases h;simp [BE.den]
 ·split at h
  ·cases h;simp only [SV.val,pk];cases c.den ρ<;>rfl
  ·split at h
   ·rename_i hg;cases h;subst hg;simp only [SV.val,pk,dT];cases c.den ρ<;>rfl
   ·cases h
  ·split at h
   ·rename_i hg;cases h;subst hg;simp only [SV.val,pk];cases h:BE.den ρ _<;>simp
   ·cases h
  ·cases h
theorem OO(hT:bB P T=true){t:TypeId}{tt:TI}(gD:aU T t=some tt){v:SV}{res:iC}(h:J9 hp tt.k v=some res)
  (db:Reads hp ρ w S res.rd) (cd: ∀b∈res.vcs,b.prop ρ) (ty:TypeId):
  (Builtin.len_ #[t] ty #[v.val ρ]).run P w= .ok (res.val.val ρ) w∧res.iD= .none:=by
 unfold J9 at h;split at h
 ·rename_i kt vt hk;have hm:P.underlying t=some (.map kt vt):=by
   obtain⟨ht,dc⟩:=aC hT gD;have:=dc.kind;rw [hk]at this;rw [←ht];exact sE this
  split at h
  ·rename_i b;split at h
   ·rename_i j b' mY zd zD zero has aA hf;cases h;obtain⟨hj,dH⟩:=fp hf;simp only [Ck.isMap,beq_iff_eq]at dH;subst dH;obtain⟨_,⟨es,cl,hb,hc⟩,_⟩:=db j (by simp) _ hj;refine⟨?_,rfl⟩;show(Builtin.len_ #[t] ty #[.map (some (ρ.bv.getD b 0))]).run P w=_;simp only [Builtin.len_,List.getElem?_toArray,List.getElem?_cons_zero,auC,run_underlying hm,aut,xK hb,auI,SV.val,cX,dj,Int.toNat_zero,hc,goInt]
   ·cases h
  ·cases h;refine⟨?_,rfl⟩;show(Builtin.len_ #[t] ty #[.map none]).run P w=_;simp only [Builtin.len_,List.getElem?_toArray,List.getElem?_cons_zero,auC,run_underlying hm,aut,auI,SV.val];rfl
  ·cases h
 ·rename_i e hk;split at h
  ·rename_i b i s n m;cases h;have:=f_ cd;refine⟨?_,rfl⟩;show(Builtin.len_ #[t] ty #[.slice (some ⟨ρ.bv.getD b 0,(i.den ρ 0).toNat*s,none⟩) (n.den ρ 0).toNat (m.den ρ 0).toNat]).run P w=_;rw [p8 hT gD hk,goInt,Int.toNat_of_nonneg this];rfl
  ·cases h;exact⟨p8 hT gD hk _ _ _ _,rfl⟩
  ·rename_i v;split at h
   ·rename_i j md v' t' s n aA du;cases h;obtain⟨hj,dH⟩:=cZ du;simp only [Ck.mI,beq_iff_eq]at dH;subst dH;have hS:=db j (by simp) _ hj;have:=f_ cd;obtain⟨ad,cp,he⟩:=DH hS;have e1:(SV.vv v).val ρ= .slice ad (n.den ρ 0).toNat cp:=he;refine⟨?_,rfl⟩;rw [e1,p8 hT gD hk,SV.val,goInt,Int.toNat_of_nonneg this]
   ·cases h
  ·rename_i v cs s;split at h
   ·rename_i r hr;cases h;simp only at cd db;obtain⟨v1,v2⟩:=bA cd;have v2:=bf v2;simp only [E.den]at v2;obtain⟨_,fi⟩:=gf hr db v1;obtain⟨_,_,_,a,c,k,_,_,hx,_⟩:=fi;refine⟨?_,rfl⟩;rw [hx,p8 hT gD hk,SV.val,goInt,Int.toNat_of_nonneg v2]
   ·cases h
  ·cases h
 ·rename_i hk;split at h
  ·rename_i l;cases h;exact⟨Af hT gD hk _ _,rfl⟩
  ·rename_i s;cases h;have:=f_ cd;refine⟨?_,rfl⟩;have e1:(SV.mu s).val ρ= .string ⟨(dC (s.den ρ)).toArray⟩:=rfl;rw [e1,Af hT gD hk,SV.val,goInt];congr 2;have e:=Mp ρ s;simp only [ByteArray.size,List.size_toArray];omega
  ·cases h
 ·cases h
theorem zf(hT:bB P T=true)(iz:ρ.Ok){ts:TypeId}{tt:TI}(gD:aU T ts=some tt){x y:SV}{res:iC}(h:xD T hp nv tt.k x y=some res)
  (db:Reads hp ρ w S res.rd) (cd: ∀b∈res.vcs,b.prop ρ) (ty:TypeId):
  Did P ρ w hp S nb nv ((do pure (.value (←auP #[ts,ts] ty #[x.val ρ,y.val ρ])):Sem Next).run P w) res:=by
 unfold xD at h;split at h
 ·rename_i v b i s m cap;split at h
  ·rename_i j v' t s' n aA j' b' wr cs h1 h2;split at h
   ·rename_i aS te lY jf;split at h
    ·rename_i hc;obtain⟨rfl,rfl,hk,rfl,hw,hl,yS,kE,gx⟩:=hc;cases h;obtain⟨hj,dH⟩:=cZ h1;simp only [Ck.mI,beq_iff_eq]at dH;subst dH;obtain⟨lq,Ts⟩:=dD h2;simp only [Ck.s5,beq_iff_eq]at Ts;subst Ts;have Da:0≤n.den ρ 0:=f_ fun c hc=>cd c (List.mem_append_left _ hc)
     have IP:=cd _ (List.mem_append_right _ (auz.2 rfl));have:=DN (P:=P) (w:=w) (nb:=nb) (nv:=nv) (cap:=(cap.den ρ 0).toNat) hT iz gD hk jf gx yS hj (db j (by simp) _ hj) lq (db j' (by simp) _ lq) hw hl kE lY Da IP ty;have e1:(SV.sl b (.lit 0) s (.lit 1) cap).val ρ= .slice (some ⟨ρ.bv.getD b 0,0,none⟩) 1 (cap.den ρ 0).toNat:=by
      simp [SV.val,E.den]
     rw [e1];exact this
    ·cases h
   ·cases h
  ·cases h
 ·rename_i b i s m cap;split at h
  ·rename_i j' b' wr cs t h2 hk;split at h
   ·rename_i te aA jf fu;split at h
    ·rename_i aS lY;split at h
     ·rename_i hc;obtain⟨rfl,rfl,hw,hl,yS,kE,gx,IP⟩:=hc;cases h;obtain⟨lq,Ts⟩:=dD h2;simp only [Ck.s5,beq_iff_eq]at Ts;subst Ts;have e1:(SV.sl b (.lit 0) s (.lit 1) cap).val ρ= .slice (some ⟨ρ.bv.getD b 0,0,none⟩) 1 (cap.den ρ 0).toNat:=by
       simp [SV.val,E.den]
      rw [e1];exact wU (P:=P) (w:=w) (hp:=hp) (S:=S) (nb:=nb) (nv:=nv) hT iz gD hk jf gx yS (db j' (by simp) _ lq) hw hl kE lY IP ty
     ·cases h
    ·cases h
   ·cases h
  ·cases h
 ·cases h
theorem xN{b:Nat}{cs:List Value}{S:Nat→Prop}(hS:(ak b true cs).p w S)(t e:TypeId)(ht:P.underlying t=some (.slice e))(he:P.underlying e=some (.int .u8))(o n c:Nat):
  ∃w',(convert t t (.slice (some ⟨b,o,none⟩) n c)).run P w= .ok (.slice (some ⟨b,o,none⟩) n c) w'∧iP w w'∧w'.heap.size=w.heap.size∧(∀k,k≠b→w'.heap[k]? =w.heap[k]?)∧(ak b false cs).p w' S:=by
 obtain⟨h1,ty,fz,hg,_⟩:=hS;have yu:w.shape? b=some (ty,cs.length):=by
  unfold World.shape?;rw [hg];simp
 refine⟨w.freeze ⟨b,cs.length,none⟩ 1,by simp [convert,run_underlying ht,run_underlying he,markStringish,yu],?_,?_,?_,h1,?_⟩
 ·unfold World.freeze;rw [if_neg (by decide)];exact⟨rfl,rfl,rfl,by simp⟩
 ·unfold World.freeze;rw [if_neg (by decide)];simp
 ·intro k hk;unfold World.freeze;rw [if_neg (by decide)];simp [Array.getElem?_modify,Ne.symm hk]
 ·unfold World.freeze;rw [if_neg (by decide)];obtain⟨lo,hi⟩:=fz;exact⟨ty,_,by simp only [Array.getElem?_modify,if_true,hg,Option.map_some];rfl,fun h=>by cases h⟩
theorem o5{t:TypeId}{tt:TI}(hT:bB P T=true)(gD:aU T t=some tt)(hk:tt.k= .str)(l:List UInt8)(k:IntKind)(j:Int)(h0:0≤j)(h1:j.toNat<l.length):
  (Instr.index t (.string ⟨l.toArray⟩) (.int k j)).run P w= .ok (.int .u8 ((l.getD j.toNat 0).toNat:Nat)) w:=by
 obtain⟨rfl,hi⟩:=aC hT gD;have dE:=hi.kind;rw [hk]at dE;have hu:P.underlying tt.t=some .string:=by
  unfold ju at dE;split at dE<;>simp_all
 have hg:(⟨l.toArray⟩:ByteArray)[j.toNat]? =some (l.getD j.toNat 0):=by
  have cF:j.toNat<(⟨l.toArray⟩:ByteArray).size:=by simpa [ByteArray.size] using h1
  rw [getElem?_pos (⟨l.toArray⟩:ByteArray) j.toNat cF];simp only [List.getD,auU h1,au8];rfl
 simp [Instr.index,asIntOf,run_underlying hu,h0,hg]
theorem pN{l:List BE}(h: ∀b∈l.filter (fun b=>b != .lit true),b.prop ρ): ∀b∈l,b.prop ρ:=by
 intro b hb;by_cases hc:b= .lit true
 ·subst hc;rfl
 ·exact h b (auR.2 ⟨hb,by simpa using hc⟩)
theorem E8{t:TypeId}{tt:TI}(hT:bB P T=true)(gD:aU T t=some tt)(hk:tt.k= .str){v:SV}{k:IntKind}{j:E}{res:iC}(h:J8 v j=some res)(cd: ∀b∈res.vcs,b.prop ρ):
  (Instr.index t (v.val ρ) (.int k (j.den ρ 0))).run P w= .ok (res.val.val ρ) w∧res.iD= .none:=by
 unfold J8 at h;split at h
 ·rename_i l;split at h
  ·rename_i i;split at h
   ·rename_i hl;cases h;exact⟨o5 hT gD hk l k _ (by simp [E.den]) (by simpa [E.den] using hl),rfl⟩
   ·cases h
  ·cases h;have h2:=pN cd;have q0:=of_decide_eq_true (iX ρ _ _▸(BE.bQ ρ _).2 (h2 _ aur));have q1:=of_decide_eq_true (vd ρ _ _▸(BE.bQ ρ _).2 (h2 _ (auw _ aur)));simp only [dj]at q0 q1;refine⟨?_,rfl⟩;have e1:(SV.str l).val ρ= .string ⟨l.toArray⟩:=rfl;rw [e1,o5 hT gD hk l k _ q0 (by omega),SV.val,cX,IA]
 ·rename_i s;cases h;have h2:=pN cd;have q0:=of_decide_eq_true (iX ρ _ _▸(BE.bQ ρ _).2 (h2 _ aur));have q1:=of_decide_eq_true (vd ρ _ _▸(BE.bQ ρ _).2 (h2 _ (auw _ aur)));simp only [dj,iB]at q0 q1;refine⟨?_,rfl⟩;have cF:(j.den ρ 0).toNat<(s.den ρ 0).toNat:=by omega
  have e1:(SV.mu s).val ρ= .string ⟨(dC (s.den ρ)).toArray⟩:=rfl;rw [e1,o5 hT gD hk _ k _ q0 (by rw [dq];exact cF),SV.val,cX,FL];congr 2;simp [List.getD,lB _ cF,Mj]
 ·cases h
theorem Ki(l:List UInt8)(a b:Nat):(⟨l.toArray⟩:ByteArray).extract a b=⟨((l.take b).drop a).toArray⟩:=by
 apply ByteArray.ext;rw [ByteArray.data_extract];apply auY;simp [List.drop_take]
theorem tM{t:TypeId}{tt:TI}(hT:bB P T=true)(gD:aU T t=some tt)(hk:tt.k= .str)(L:List UInt8){lo hi:Option Value}{l h:Option Int}(hl:ig lo l)(hh:ig hi h)
  (h0:0≤l.getD 0) (h1:l.getD 0≤h.getD (L.length:Int)) (h2:h.getD (L.length:Int)≤L.length):
  (Instr.sliceAt t (.string ⟨L.toArray⟩) lo hi none).run P w= .ok (.string ⟨((L.take (h.getD (L.length:Int)).toNat).drop (l.getD 0).toNat).toArray⟩) w:=by
 obtain⟨rfl,cD⟩:=aC hT gD;have dE:=cD.kind;rw [hk]at dE;have hu:P.underlying tt.t=some .string:=by
  unfold ju at dE;split at dE<;>simp_all
 have hb:=uj (P:=P) (w:=w) false L.length L.length (lo:=lo) (hi:=hi) (mx:=none) (m:=none) hl hh True.intro (by simp) h0 h1 (by simp) (fun _=>h2);have gx:(⟨L.toArray⟩:ByteArray).size=L.length:=by simp [ByteArray.size]
 simp only [Instr.sliceAt,Instr.slice,auC,run_underlying hu,aut,gx,Ki];simp [hb]
theorem wA{t:TypeId}{tt:TI}(hT:bB P T=true)(gD:aU T t=some tt)(hk:tt.k= .str)(s a b:E){lo hi:Option Value}{l h:Option Int}(hl:ig lo l)(hh:ig hi h)
  (ha:a.den ρ 0=l.getD 0) (hb: ∀n:Int,(0≤s.den ρ 0→n=s.den ρ 0)→b.den ρ 0=h.getD n∨(h=none∧b.den ρ 0=s.den ρ 0)) (cd: ∀b'∈(uG s a b).vcs,b'.prop ρ):
  (Instr.sliceAt t (.string ⟨(dC (s.den ρ)).toArray⟩) lo hi none).run P w= .ok ((uG s a b).val.val ρ) w:=by
 unfold uG at cd ⊢;have leP: ∀x y:E,(∀b'∈uG.leS x y,b'.prop ρ)→x.den ρ 0≤y.den ρ 0:=by
  intro x y h;unfold uG.leS at h;split at h
  ·rename_i he;rw [he];exact Int.le_refl _
  ·exact of_decide_eq_true (iX ρ _ _▸(BE.bQ ρ _).2 (pN h _ (auz.2 rfl)))
 have q1:=leP _ _ fun c hc=>cd c (List.mem_append_left _ (List.mem_append_left _ hc))
 have q2:=leP _ _ fun c hc=>cd c (List.mem_append_left _ (List.mem_append_right _ hc))
 have q3:=leP _ _ fun c hc=>cd c (List.mem_append_right _ hc)
 simp only [dj,iB]at q1 q2 q3;have hlen:((dC (s.den ρ)).length:Int)=s.den ρ 0:=by rw [dq];omega
 have hbe:b.den ρ 0=h.getD ((dC (s.den ρ)).length:Int):=by
  rcases hb (dC (s.den ρ)).length (fun _=>hlen)with e | ⟨e1,e2⟩
  ·exact e
  ·rw [e1,e2];exact hlen.symm
 have:=tM (P:=P) (w:=w) hT gD hk (dC (s.den ρ)) hl hh (by rw [←ha];exact q1) (by rw [←ha,←hbe];exact q2) (by rw [←hbe,hlen];exact q3);rw [this,SV.val,Mq ρ s a b q1 q2 q3,←hbe,←ha]
theorem BS{t:TypeId}{tt:TI}(hT:bB P T=true)(gD:aU T t=some tt)(hk:tt.k= .str){v:SV}{l h:Option E}{res:iC}(hs:Bv v l h=some res)
  {lo hi:Option Value} (hl:ig lo (l.map fun e:E=>e.den ρ 0)) (hh:ig hi (h.map fun e:E=>e.den ρ 0)) (cd: ∀b∈res.vcs,b.prop ρ):
  (Instr.sliceAt t (v.val ρ) lo hi none).run P w= .ok (res.val.val ρ) w∧res.iD= .none:=by
 have ga: ∀(o:Option E) (d:E),(o.getD d).den ρ 0=(o.map fun e:E=>e.den ρ 0).getD (d.den ρ 0):=by intro o d;cases o<;>rfl
 unfold Bv at hs;split at hs
 ·rename_i L;split at hs
  ·rename_i a b e1 e2;split at hs
   ·rename_i hc;cases hs;have f1:=ga l (.lit 0);have f2:=ga h (.lit L.length);rw [e1]at f1;rw [e2]at f2;simp only [dj]at f1 f2;refine⟨?_,rfl⟩;have:=tM (P:=P) (w:=w) hT gD hk L hl hh (by rw [←f1];simp) (by rw [←f1,←f2];exact Int.ofNat_le.2 hc.1) (by rw [←f2];exact Int.ofNat_le.2 hc.2);rw [SV.val,this,SV.val,←f1,←f2];simp
   ·cases hs
  ·rename_i a b fy;cases hs;refine⟨?_,rfl⟩;have:=wA (P:=P) (w:=w) (ρ:=ρ) hT gD hk (B9 L) (l.getD (.lit 0)) (h.getD (.lit L.length)) hl hh (ga l (.lit 0)) (fun n hn=>by
    left;rw [ga h (.lit L.length),dj,hn (by rw [nq];simp [Mi]),nq];rfl) cd
   rw [nq,pc]at this;exact this
 ·rename_i s;cases hs;refine⟨?_,rfl⟩;exact wA (P:=P) (w:=w) (ρ:=ρ) hT gD hk s (l.getD (.lit 0)) (h.getD (lU s)) hl hh (ga l (.lit 0)) (fun n hn=>by
   cases h with
   | none=>exact .inr ⟨rfl,by simp [iB]⟩
   | some e=>exact .inl rfl) cd
 ·cases hs
theorem abF{t:TypeId}(hu: ∃m,P.underlying t=some (.interface m))(d:Nat):(auW (d+1) t .nilIface .nilIface).run P w= .ok true w:=by
 obtain⟨m,hu⟩:=hu;have xW:=run_underlying hu w;rw [auW];simp only [auC,xW,aut];rfl
theorem abG{t t':TypeId}{v:Value}(hu: ∃m,P.underlying t=some (.interface m))(d:Nat):(auW (d+1) t (.iface t' v) .nilIface).run P w= .ok false w:=by
 obtain⟨m,hu⟩:=hu;have xW:=run_underlying hu w;rw [auW];simp only [auC,xW,aut];rfl
theorem Kj(x:Value): ∃t v,uW x= .iface t v:=by
 unfold uW;split<;>exact⟨_,_,rfl⟩
theorem E9{ti:TI}(dc:lu P ti){op:BinOp}{xo yo:Operand}{a b:SV}{r:iC}(db:Reads hp ρ w S r.rd)(h:BB hp ti op a b=some r):
  (do eqGuard op ti.t xo yo (a.val ρ) (b.val ρ);binOp op ti.t (a.val ρ) (b.val ρ):Sem Value).run P w= .ok (r.val.val ρ) w∧r.iD= .none:=by
 have hk:=dc.kind;unfold BB at h;split at h
 ·rename_i e i Is;rw [Is]at hk;split at h
  ·rename_i j md v' t s n aA hf;obtain⟨hj,dH⟩:=cZ hf;simp only [Ck.mI,beq_iff_eq]at dH;subst dH;split at h
   ·cases h;have hS:=db j (by simp) _ hj;obtain⟨ad,cp,hv⟩:=DH hS;have e1:(SV.vv i).val ρ= .slice ad (n.den ρ 0).toNat cp:=hv;refine⟨?_,rfl⟩;rw [e1];refine aV (cR _ _ _ _ _ _ rfl) ?_;have:=Lib.run_eql_slice_nil w ti.t e ad (n.den ρ 0).toNat cp 0 0 (bK hk);refine this.trans ?_;simp only [SV.val,BE.den];rw [show(ρ.vv.getD i V1.nil).v=_ from hv];cases ad<;>rfl
   ·cases h;have hS:=db j (by simp) _ hj;obtain⟨ad,cp,hv⟩:=DH hS;have e1:(SV.vv i).val ρ= .slice ad (n.den ρ 0).toNat cp:=hv;refine⟨?_,rfl⟩;rw [e1];refine aV (cR _ _ _ _ _ _ rfl) ?_;have:=run_neq_slice_nil_any w ti.t e ad (n.den ρ 0).toNat cp 0 0 (bK hk);refine this.trans ?_;simp only [SV.val,dT,BE.den];rw [show(ρ.vv.getD i V1.nil).v=_ from hv];cases ad<;>rfl
   ·cases h
  ·cases h
 ·cases h
theorem E_{ti:TI}(dc:lu P ti){op:BinOp}{xo yo:Operand}{a:SV}{r:iC}(h:BC ti op yo a=some r):
  yo= .const .nilIface∧(do eqGuard op ti.t xo yo (a.val ρ) .nilIface;binOp op ti.t (a.val ρ) .nilIface:Sem Value).run P w= .ok (r.val.val ρ) w∧r.iD= .none:=by
 have hk:=dc.kind;have hu:ti.k= .iface→∃m,P.underlying ti.t=some (.interface m):=by
  intro e;rw [e]at hk;unfold ju at hk;split at hk<;>simp_all
 have g1: ∀v,(eqGuard op ti.t xo (.const .nilIface) v .nilIface).run P w= .ok () w:=by
  intro v;cases op<;>cases v<;>simp [eqGuard]
 unfold BC at h;split at h
 ·rename_i Is;have hu:=hu Is;split at h
  ·cases h;exact⟨rfl,aV (g1 _) (dI rfl fun d=>abF hu d),rfl⟩
  ·cases h;exact⟨rfl,aV (g1 _) (dJ rfl fun d=>abF hu d),rfl⟩
  ·cases h
 ·rename_i t' k' e' Is;have hu:=hu Is;have hv: ∀d,(auW (d+1) ti.t ((SV.PF t' k' e').val ρ) .nilIface).run P w= .ok false w:=fun d=>abG hu d
  split at h
  ·cases h;exact⟨rfl,aV (g1 _) (dI rfl hv),rfl⟩
  ·cases h;exact⟨rfl,aV (g1 _) (dJ rfl hv),rfl⟩
  ·cases h
 ·rename_i t' b' c' Is;have hu:=hu Is;have hv: ∀d,(auW (d+1) ti.t ((SV.Uo t' b' c').val ρ) .nilIface).run P w= .ok false w:=fun d=>abG hu d
  split at h
  ·cases h;exact⟨rfl,aV (g1 _) (dI rfl hv),rfl⟩
  ·cases h;exact⟨rfl,aV (g1 _) (dJ rfl hv),rfl⟩
  ·cases h
 ·rename_i c v Is;have hu:=hu Is;obtain⟨t',x,hx⟩:=Kj (ρ.vv.getD v V1.nil).v;have hv: ∀d,(auW (d+1) ti.t ((SV.Ix c v).val ρ) .nilIface).run P w= .ok (!c.den ρ) w:=by
   intro d;simp only [SV.val];cases c.den ρ with
   | true=>simp only [if_true,hx];exact abG hu d
   | false=>simp only [Bool.false_eq_true,if_false];exact abF hu d
  have zl:binOp .eql ti.t ((SV.Ix c v).val ρ) .nilIface=(do pure (.bool (←Op.equal ti.t ((SV.Ix c v).val ρ) .nilIface)):Sem Value):=by
   simp only [SV.val];cases c.den ρ with
   | true=>simp only [if_true,hx];rfl
   | false=>rfl
  have DO:binOp .neq ti.t ((SV.Ix c v).val ρ) .nilIface=(do pure (.bool (!(←Op.equal ti.t ((SV.Ix c v).val ρ) .nilIface))):Sem Value):=by
   simp only [SV.val];cases c.den ρ with
   | true=>simp only [if_true,hx];rfl
   | false=>rfl
  split at h
  ·cases h;refine⟨rfl,aV (g1 _) ?_,rfl⟩;rw [dI zl hv];simp [SV.val,dT]
  ·cases h;refine⟨rfl,aV (g1 _) ?_,rfl⟩;rw [dJ DO hv];simp [SV.val]
  ·cases h
 ·cases h
theorem qT(w:World)(e:TypeId)(s:ByteArray):iP w (Lib.bytesWorld w e s):=by
 unfold Lib.bytesWorld World.freeze;rw [if_neg (by decide)];exact⟨rfl,rfl,rfl,by simp⟩
theorem tN(w:World)(e:TypeId)(s:ByteArray):w.heap.size<(Lib.bytesWorld w e s).heap.size:=by rw [Lib.bytesWorld_size];omega
theorem xO(w:World)(e:TypeId)(s:E):
  World.views (Lib.bytesWorld w e ⟨(dC (s.den ρ)).toArray⟩) (.slice (some ⟨w.heap.size,0,none⟩) (s.den ρ 0).toNat (grownCap w (s.den ρ 0).toNat 0 e)) ((lU s).den ρ 0).toNat
   (aG ρ ((lU s).den ρ 0).toNat [⟨.int .u8,1,Mo s⟩]):=by
 refine⟨_,_,_,rfl,by rw [iB],grownCap_ge ..,fun h=>(nomatch h),fun ad had=>⟨fun _=>?_,fun j u hu=>?_⟩⟩
 ·cases had;rfl
 ·cases had;rw [ei,bF,iB]at hu;split at hu
  ·rename_i hj;have:=Lib.bytesWorld_cell w e ⟨(dC (s.den ρ)).toArray⟩ j (by simpa [ByteArray.size,dq] using hj);rw [fV,Nat.zero_add];cases hu;rw [this,FL];congr 2;simp [List.getD,lB _ hj,Mj]
  ·cases hu
theorem CF(hT:bB P T=true){src dst:TypeId}{ts ti:TI}(uO:aU T src=some ts)(hk:ts.k= .str)(dc:aU T dst=some ti){v:SV}{res:iC}(h:bytesOf T nv ti.k v=some res)(cd: ∀b∈res.vcs,b.prop ρ):
  Did P ρ w hp S nb nv ((do pure (.value (←convert src dst (v.val ρ))):Sem Next).run P w) res:=by
 obtain⟨rfl,Ln⟩:=aC hT uO;obtain⟨rfl,L_⟩:=aC hT dc;have dE:=Ln.kind;rw [hk]at dE;have hu1:P.underlying ts.t=some .string:=by
  unfold ju at dE;split at dE<;>simp_all
 unfold bytesOf at h;split at h
 ·rename_i e he;split at h
  ·rename_i te s jf hs;split at h
   ·rename_i hc;obtain⟨hu8,kZ⟩:=hc;cases h;obtain⟨rfl,UF⟩:=aC hT jf;have k2:=L_.kind;rw [he]at k2;have hu2:=bK k2;have k3:=UF.kind;rw [hu8]at k3;have hu3:=kK k3;have q0:=of_decide_eq_true (iX ρ _ _▸(BE.bQ ρ _).2 (pN cd _ (auz.2 rfl)));simp only [dj,iB]at q0;have hv:=tV ρ hs;have iR:=Lib.run_convert_string_bytes (P:=P) w ts.t ti.t te.t ⟨(dC (s.den ρ)).toArray⟩ hu1 hu2 hu3;have gx:(⟨(dC (s.den ρ)).toArray⟩:ByteArray).size=(s.den ρ 0).toNat:=by simp [ByteArray.size,dq]
    rw [gx]at iR;refine⟨te.t,1,lU s,[⟨.int .u8,1,Mo s⟩],.slice (some ⟨w.heap.size,0,none⟩) (s.den ρ 0).toNat (grownCap w (s.den ρ 0).toNat 0 te.t),Lib.bytesWorld w te.t ⟨(dC (s.den ρ)).toArray⟩,fun k=>k=w.heap.size∧0<(s.den ρ 0).toNat,rfl,rfl,by rw [hv,auC,iR];rfl,rfl,?_,?_,?_,?_⟩
    ·exact qT w te.t _
    ·exact fun k hk=>Lib.bytesWorld_at_old w te.t _ k hk
    ·refine⟨?_,fun k=>?_⟩
     ·simp only [Bool.false_eq_true,if_false];exact⟨by rw [eh];simp [b_],xO w te.t s⟩
     ·simp [Value.ownBlock,iB,eq_comm]
    ·intro k hk;refine⟨by omega,?_⟩;rw [hk.1];exact tN w te.t _
   ·cases h
  ·cases h
 ·cases h
theorem BT(hT:bB P T=true){src dst:TypeId}{ts ti:TI}(uO:aU T src=some ts)(hk:ts.k= .str)(dc:aU T dst=some ti){l:List UInt8}{res:iC}(h:BA T nv ti.k l=some res):
  Did P ρ w hp S nb nv ((do pure (.value (←convert src dst ((SV.str l).val ρ))):Sem Next).run P w) res:=by
 obtain⟨rfl,Ln⟩:=aC hT uO;obtain⟨rfl,L_⟩:=aC hT dc;have dE:=Ln.kind;rw [hk]at dE;have hu1:P.underlying ts.t=some .string:=by
  unfold ju at dE;split at dE<;>simp_all
 unfold BA at h;split at h
 ·rename_i e he;split at h
  ·rename_i te jf;split at h
   ·rename_i hc;obtain⟨hu8,kZ,hl⟩:=hc;cases h;obtain⟨rfl,UF⟩:=aC hT jf;have k2:=L_.kind;rw [he]at k2;have hu2:=bK k2;have k3:=UF.kind;rw [hu8]at k3;have hu3:=kK k3;have iR:=Lib.run_convert_string_bytes (P:=P) w ts.t ti.t te.t ⟨l.toArray⟩ hu1 hu2 hu3;have gx:(⟨l.toArray⟩:ByteArray).size=l.length:=by simp [ByteArray.size]
    have mn:=grownCap_ge w l.length 0 te.t;have nU:(Lib.bytesCells w te.t ⟨l.toArray⟩).toList=(l.map fun b=>Value.int .u8 b.toNat)++List.replicate (grownCap w l.length 0 te.t - l.length) (.int .u8 0):=by
     simp [Lib.bytesCells,gx]
    rw [gx]at iR;have hn:(E.den ρ (.lit (l.length:Int)) 0).toNat=l.length:=by simp [E.den]
    refine⟨te.t,1,.lit l.length,[⟨.int .u8,1,.qV (l.map fun b=>(b.toNat:Int))⟩],.slice (some ⟨w.heap.size,0,none⟩) l.length (grownCap w l.length 0 te.t),Lib.bytesWorld w te.t ⟨l.toArray⟩,fun k=>k=w.heap.size,rfl,rfl,by rw [SV.val,auC,iR];rfl,rfl,?_,?_,⟨?_,fun k=>?_⟩,?_⟩
    ·exact qT w te.t _
    ·exact fun k hk=>Lib.bytesWorld_at_old w te.t _ k hk
    ·simp only [if_true];rw [hn,ei];refine⟨by rw [aE,Nat.mul_one],.inr ⟨w.heap.size,0,_,Lib.bytesCells w te.t ⟨l.toArray⟩,rfl,⟨te.t,_,Lib.bytesWorld_at_new w te.t _,.inr (Nat.le_refl _)⟩,mn,grownCap_le_maxLen w l.length 0 te.t (by unfold maxLen;omega),fun _=>?_,?_⟩⟩
     ·rw [←Array.length_toList,nU];simp;omega
     ·rw [List.drop_zero,nU,Nat.mul_one];apply List.ext_getElem?;intro j;rw [bF,List.getElem?_take];split
      ·rename_i hj;rw [auu (by simpa using hj),List.getElem?_map,auU hj];simp [E.den,List.getD,hj]
      ·rfl
    ·simp [Value.ownBlock,eq_comm]
    ·intro k hk;exact⟨by omega,by rw [hk];exact tN w te.t _⟩
   ·cases h
  ·cases h
 ·cases h
theorem OP(a:Addr)(k:Nat)(h:a.spot=none):(a.add k).spot=none:=by
 unfold Addr.add;split<;>simp_all
theorem xg{md:Bool}{t s n:Nat}{v:Value}{cs:List Value}{S:Nat→Prop}(h:(aB md t s v n cs).p w S):World.views w v n cs∧cs.length=n*s:=by
 obtain⟨h0,_⟩:=h;cases md with
 | true=>
  simp only [if_true]at h0;have PV:=h0;obtain⟨hl,hr⟩:=h0;refine⟨?_,hl⟩;rcases hr with⟨rfl,rfl⟩ | ⟨g,o,cap,cur,rfl,hg,Fp,_⟩
  ·exact⟨none,0,0,rfl,rfl,Nat.le_refl _,fun _=>rfl,by simp⟩
  ·refine⟨_,n,cap,rfl,rfl,Fp,by simp,?_⟩;rintro _ ⟨⟩;exact⟨fun _=>rfl,fun j u hu=>kH PV j u hu⟩
 | false=>
  simp only [Bool.false_eq_true,if_false]at h0;exact⟨h0.2,h0.1⟩
theorem xP(ad:Addr)(l:List Value)(n:Nat)(hn:l.length=n)(h: ∀(j:Nat) v,l[j]? =some v→w.cell? (ad.add j)=some v):(loadCells ad n).run P w= .ok l.toArray w:=by
 subst hn;exact run_loadCells_list (P:=P) w ad l h
theorem jU{src dst e:TypeId}(hs:P.underlying src=some (.slice e))(he:P.underlying e=some (.int .u8))(hd:P.underlying dst=some .string){a:Option Addr}{m c:Nat}{f:Nat→Int}(h0:a=none→m=0)(hc: ∀ad,a=some ad→∀(j:Nat) u,(aj .u8 m f)[j]? =some u→w.cell? (ad.add j)=some u):
  (convert src dst (.slice a m c)).run P w= .ok (.string ⟨((List.range m).map fun j=>UInt8.ofNat (f j).toNat).toArray⟩) w:=by
 rw [run_convert_bytes_string w src dst e a m c hs he hd];cases a with
 | none=>
  have:=h0 rfl;subst this;simp [Conv.bytesToString,auI];rfl
 | some ad=>
  have hl:(loadCells ad m).run P w= .ok (((List.range m).map f).map (Value.int .u8)).toArray w:=by
   rw [List.map_map];exact xP ad _ m (by simp) fun j u hu=>hc ad rfl j u hu
  rw [run_bytesToString w ad m c _ hl,foldl_push_bytes,List.map_map];simp [ByteArray.empty,ByteArray.emptyWithCapacity,Function.comp_def];rfl
theorem HY{t:TypeId}(h:ju (P.underlying t) .str=true):P.underlying t=some .string:=by
 unfold ju at h;split at h<;>simp_all
theorem oE(a n:E):dC ((sW a n).den ρ)=(List.range (n.den ρ 0).toNat).map fun j=>UInt8.ofNat (a.den ρ j).toNat:=by
 unfold sW;split
 ·rename_i k hk;have hn:=bZ (ρ:=ρ) hk;split
  ·rename_i l hl;have hl:=uL (ρ:=ρ) hl;subst hl;rw [hn,auD];unfold dC;simp only [E.den,ah,auD];refine List.map_congr_left fun j hj=>?_
   have hj:=auG.1 hj;simp [hj]
  ·exact tW ρ a n
 ·exact tW ρ a n
theorem CG{src dst e:TypeId}(hs:P.underlying src=some (.slice e))(he:P.underlying e=some (.int .u8))(hd:P.underlying dst=some .string){v:SV}{res:iC}(h:E0 hp v=some res)(db:Reads hp ρ w S res.rd)(cd: ∀b∈res.vcs,b.prop ρ):
  Did P ρ w hp S nb nv ((do pure (.value (←convert src dst (v.val ρ))):Sem Next).run P w) res:=by
 unfold E0 at h;split at h
 ·cases h;refine eF ?_;exact jU (P:=P) (w:=w) (a:=none) (m:=0) (c:=0) (f:=fun _=>0) hs he hd (fun _=>rfl) fun _ h=>nomatch h
 ·rename_i b i n m;split at h
  ·rename_i j b' wr cs i' n' hf hi hn;split at h
   ·rename_i xs IC;split at h
    ·rename_i kl a ML;split at h
     ·rename_i Mw;cases h;obtain⟨hj,dH⟩:=dD hf;simp only [Ck.s5,beq_iff_eq]at dH;subst dH;have hS:=db j (by simp) _ hj;obtain⟨h1,ty,fz,hg,_⟩:=hS;have hi:=bZ (ρ:=ρ) hi;have hn:=bZ (ρ:=ρ) hn;refine eF ?_;have UH:=ia (ρ:=ρ) ML;rw [Mw,List.length_replicate,pZ]at UH;obtain⟨IF,hle⟩:=fj (ρ:=ρ) IC;rw [IF]at UH;rw [ph,oE,dj,auD];have e1:(SV.sl b i 1 n m).val ρ= .slice (some ⟨ρ.bv.getD b 0,i',none⟩) n' (m.den ρ 0).toNat:=by simp [SV.val,hi,hn]
      rw [e1];refine jU (P:=P) (w:=w) (f:=a.den ρ) hs he hd (fun h=>nomatch h) ?_;rintro _ ⟨⟩ j u hu;rw [←UH,List.getElem?_take]at hu;split at hu
      ·rw [List.getElem?_drop]at hu;rw [fV];simp only [World.cell?,hg];simpa using hu
      ·cases hu
     ·cases h
    ·cases h
   ·cases h
  ·rename_i j b' wr m' a hf hi hn;cases h;obtain⟨hj,dH⟩:=dD hf;simp only [Ck.s5,beq_iff_eq]at dH;subst dH;have hS:=db j (by simp) _ hj;obtain⟨h1,ty,fz,hg,_⟩:=hS;have hi:=bZ (ρ:=ρ) hi;have hle:=of_decide_eq_true (iX ρ _ _▸(BE.bQ ρ _).2 (pN cd _ (auz.2 rfl)));simp only [dj]at hle;refine eF ?_;rw [ph,oE];have e1:(SV.sl b i 1 n m).val ρ= .slice (some ⟨ρ.bv.getD b 0,0,none⟩) (n.den ρ 0).toNat (m.den ρ 0).toNat:=by simp [SV.val,hi]
   rw [e1];refine jU (P:=P) (w:=w) (f:=a.den ρ) hs he hd (fun h=>nomatch h) ?_;rintro _ ⟨⟩ j u hu;obtain⟨cF,_⟩:=aup.1 hu;rw [aE]at cF;rw [fV];simp only [World.cell?,hg];rw [←hu,bF,if_pos cF];have ec:SV.ao ρ [SV.dg .u8 m' a]=aj .u8 m' (a.den ρ):=by simp [SV.ao,SV.cells]
   rw [ec,Nat.zero_add,List.getElem?_toArray,bF,if_pos (show j<m' by omega)];rfl
  ·cases h
 ·rename_i v;split at h
  ·rename_i j md v' t n a hf;cases h;obtain⟨hj,dH⟩:=cZ hf;simp only [Ck.mI,beq_iff_eq]at dH;subst dH;have hS:=db j (by simp) _ hj;have hv:=(xg hS).1;rw [ei]at hv;obtain⟨a',m',c',e1,e2,_,h0,hc⟩:=hv;refine eF ?_;rw [ph,oE];rw [show(SV.vv v).val ρ= .slice a' m' c' from e1,←e2];exact jU (P:=P) (w:=w) hs he hd (fun h=>e2.trans (h0 h)) fun ad had j u hu=>(hc ad had).2 j u (by rw [←e2];exact hu)
  ·cases h
 ·rename_i v cs s;split at h
  ·rename_i r hr;split at h
   ·rename_i a yu;split at h
    ·rename_i gJ;obtain⟨kZ,hw⟩:=gJ;cases h;simp only at cd db;obtain⟨v1,v2⟩:=bA cd;have v2:=bf v2;simp only [E.den]at v2;have al7:=HN hr db v1 v2 hw yu;obtain⟨_,_,a',c',e1,h0,hc⟩:=al7;rw [ei]at hc;refine eF ?_;rw [ph,oE,e1];exact jU (P:=P) (w:=w) hs he hd h0 fun ad had j u hu=>hc ad had j u hu
    ·cases h
   ·cases h
  ·cases h
 ·cases h
theorem kR(hT:bB P T=true){src dst:TypeId}{ti:TI}(dc:aU T dst=some ti)(hk:ti.k= .str){v:SV}{res:iC}(h:pM T hp src v=some res)(db:Reads hp ρ w S res.rd)(cd: ∀b∈res.vcs,b.prop ρ):
  Did P ρ w hp S nb nv ((do pure (.value (←convert src dst (v.val ρ))):Sem Next).run P w) res:=by
 unfold pM at h;split at h
 ·rename_i ts uO;split at h
  ·rename_i e he;split at h
   ·rename_i te jf;split at h
    ·rename_i hu8;obtain⟨rfl,Ln⟩:=aC hT uO;obtain⟨rfl,L_⟩:=aC hT dc;obtain⟨rfl,hi3⟩:=aC hT jf;have k1:=Ln.kind;rw [he]at k1;have k2:=L_.kind;rw [hk]at k2;have k3:=hi3.kind;rw [hu8]at k3;exact CG (bK k1) (kK k3) (HY k2) h db cd
    ·cases h
   ·cases h
  ·cases h
 ·cases h
theorem zg(hT:bB P T=true)(iz:ρ.Ok){t t':TypeId}{tt:TI}(gD:aU T t=some tt){v u:SV}{res:iC}(h:xE T hp nv tt t t' v u=some res)
  (db:Reads hp ρ w S res.rd) (cd: ∀b∈res.vcs,b.prop ρ) (ty:TypeId):
  Did P ρ w hp S nb nv ((do pure (.value (←auP #[t,t'] ty #[v.val ρ,u.val ρ])):Sem Next).run P w) res:=by
 unfold xE at h;split at h
 ·rename_i heq;subst heq;split at h
  ·rename_i r hr;cases h;exact zf (P:=P) (w:=w) (nb:=nb) hT iz gD hr db cd ty
  ·split at h
   ·rename_i r hr;cases h;exact xJ hT gD hr db cd ty
   ·split at h
    ·rename_i r hr;cases h;exact yV hT gD hr db cd ty
    ·exact yW hT gD h db ty
 ·split at h
  ·rename_i ti kk m dc;split at h
   ·rename_i kt hkt;exact Ci hT gD dc hkt h db cd kk ty
   ·cases h
  ·cases h
theorem rO(hT:bB P T=true)(iz:ρ.Ok)(ui:vm ρ look bH){o:Oper}{res:iC}(h:eg T look hp nb nv o=some res)
  (db:Reads hp ρ w S res.rd) (cd: ∀b∈res.vcs,b.prop ρ) (DM:ρ.bv.length=nb):Did P ρ w hp S nb nv ((execOp bH o).run P w) res:=by
 obtain⟨dst,op,ty,pos,aft,gd⟩:=o;have ev: ∀{x v},j8 look x=some v→bH x=v.val ρ:=fun h=>eH ui h
 cases op with
 | move x=>
  simp only [eg,aus]at h;obtain⟨v,hv,rfl⟩:=h;exact ct (by simp [execOp,ev hv])
 | assign x=>
  simp only [eg,aus]at h;obtain⟨v,hv,rfl⟩:=h;exact ct (by simp [execOp,ev hv])
 | pick c a b=>
  simp only [eg]at h;split at h
  ·rename_i c' a' b' hc ha hb;rw [aus]at h;obtain⟨v,hv,rfl⟩:=h;refine ct ?_;rw [Kh hv];simp [execOp,ev hc,ev ha,ev hb,SV.val,asBool]
  ·cases h
 | alloc t=>
  simp only [eg,Option.bind_eq_some_iff]at h;obtain⟨ti,dc,h⟩:=h;split at h
  ·split at h
   ·rename_i hz;cases h;exact MD hT DM dc _ (cn hz)
   ·cases h
  ·cases h;exact F0 hT DM dc
 | box t x=>
  simp only [eg]at h;split at h
  ·rename_i v hv;rw [aus]at h;obtain⟨cs,nU,rfl⟩:=h;have:=ME (P:=P) (w:=w) (hp:=hp) (S:=S) (nv:=nv) iz DM (t:=t) nU;simp only [execOp,ev hv];exact this
  ·cases h
 | build t parts=>
  simp only [eg]at h;split at h
  ·rename_i ti ps dc M1;have hm:gC ρ ps (parts.map fun x=>(x.1,bH x.2)).toList:=by
    rw [Array.toList_map];exact p7 ui iz _ _ M1
   split at h
   ·rename_i fs hk;split at h
    ·rename_i nW;rw [aus]at h;obtain⟨cs,nU,rfl⟩:=h;have:=ug (w:=w) hT dc hk nW hm nU;exact eF this
    ·cases h
   ·rename_i n e hk;split at h
    ·rename_i te jf;rw [aus]at h;obtain⟨cs,nU,rfl⟩:=h;have:=yQ (w:=w) hT dc hk jf hm nU;exact eF this
    ·cases h
   ·cases h
  ·cases h
 | buildSlice t len parts=>
  simp only [eg]at h;split at h
  ·rename_i ti ps dc M1;have hm:gC ρ ps (parts.map fun x=>(x.1,bH x.2)).toList:=by
    rw [Array.toList_map];exact p7 ui iz _ _ M1
   split at h
   ·rename_i e hk;split at h
    ·rename_i te jf;split at h
     ·rename_i yP;split at h
      ·rename_i Ir;rw [aus]at h;obtain⟨zc,Ab,rfl⟩:=h;have abI:(parts.map fun x=>(x.1,bH x.2))= #[]:=by
        have:ps=[]:=by simpa using Ir
        subst this;apply auY;generalize (parts.map fun x=>(x.1,bH x.2)).toList=l at hm;cases hm;rfl
       have:=BM (P:=P) (w:=w) (hp:=hp) (S:=S) (nb:=nb) (nv:=nv) (ρ:=ρ) hT dc hk jf Ab;simp only [execOp,yP,abI];exact this
      ·cases h
     ·split at h
      ·cases h
      ·rename_i yP hlen;rw [aus]at h;obtain⟨cs,nU,rfl⟩:=h;exact wS hT DM dc hk jf (by rintro (h | h | h);exact yP h;exact hlen (.inl h);exact hlen (.inr h)) hm nU
    ·cases h
   ·cases h
  ·cases h
 | load t x=>
  simp only [eg]at h;split at h
  ·rename_i ti a dc ha;obtain⟨rfl,hi⟩:=aC hT dc;obtain⟨h1,h2⟩:=tu hi h db cd;obtain⟨rv,Tt,Xn,re⟩:=res;simp only at h2;subst h2;refine ct ?_;simp only [execOp,ev ha,auC,h1,aut,auI]
  ·cases h
 | store t x y=>
  simp only [eg]at h;split at h
  ·rename_i ti a v dc ha hv;obtain⟨rfl,hi⟩:=aC hT dc;obtain⟨h1,j,ck,h2,w',h3,h4⟩:=zY hi h iz db cd;unfold Did;rw [h2];refine⟨w',.inr ⟨h1,?_⟩,h4⟩;simp only [execOp,ev ha,ev hv,auC,h3,aut,auI]
  ·cases h
 | nilCheck x=>
  simp only [eg]at h;split at h
  ·rename_i b c hx;cases h;exact ct (by simp [execOp,ev hx,SV.val])
  ·rename_i b c hx;cases h;exact ct (by simp [execOp,ev hx,SV.val])
  ·rename_i e hx;cases h;have hz:=cd (Uu e) (by simp);have fy:e.den ρ 0≠0:=by
    rw [←BE.bQ,zh]at hz;simpa using hz
   exact ct (by simp [execOp,ev hx,SV.val,cN,fy])
  ·rename_i v i s c hx;split at h
   ·rename_i j md v' t s' n aA hf;cases h;obtain⟨hj,dH⟩:=cZ hf;simp only [Ck.mI,beq_iff_eq]at dH;subst dH;have hS:=db j (by simp) _ hj;obtain⟨h0,h1⟩:=dL ρ cd;obtain⟨a,cp,he⟩:=ny hS (by omega);have e2:(SV.pv v i s c).val ρ= .pointer (some (a.add ((i.den ρ 0).toNat*s+c))):=by rw [SV.val,he];rfl
    refine ct ?_;simp only [execOp,ev hx,e2,auI]
   ·cases h
  ·rename_i f cs hx;cases h;exact ct (by simp [execOp,ev hx,SV.val])
  ·cases h
 | binOp op t x y yt=>
  simp only [eg]at h;split at h
  ·rename_i ti a b dc ha hb;obtain⟨rfl,hi⟩:=aC hT dc;split at h
   ·rename_i r hr;cases h;have hr2:=E_ (P:=P) (w:=w) (ρ:=ρ) hi (xo:=x) hr;obtain⟨e1,h1,h2⟩:=hr2;subst e1;obtain⟨rv,Tt,Xn,re⟩:=res;simp only at h2;subst h2;refine ct ?_;have hy:bH (.const .nilIface)= .nilIface:=by
     have:j8 look (.const .nilIface)=some .pf:=rfl;exact ev this
    simp only [execOp,ev ha,hy];rw [auC,h1];rfl
   split at h
   ·rename_i r hr;cases h;obtain⟨h1,h2⟩:=E9 (P:=P) (w:=w) (ρ:=ρ) hi (xo:=x) (yo:=y) db hr;obtain⟨rv,Tt,Xn,re⟩:=res;simp only at h2;subst h2;refine ct ?_;simp only [execOp,ev ha,ev hb];rw [auC,h1];rfl
   obtain⟨h1,h2⟩:=MB hi (w:=w) (xo:=x) (yo:=y) h cd;obtain⟨rv,Tt,Xn,re⟩:=res;simp only at h2;subst h2;refine ct ?_;simp only [execOp,ev ha,ev hb];rw [auC,h1];rfl
  ·cases h
 | unOp op t x=>
  simp only [eg]at h;split at h
  ·rename_i b hb;cases h;refine ct ?_;simp [execOp,ev hb,SV.val,Op.unary,dT]
  ·rename_i k a ha;cases h;refine ct ?_;simp only [SV.val,lV,E.den];cases k<;>simp [execOp,ev ha,SV.val,Op.unary,Op.intBits,IntKind.signed,IntKind.max,wo,IntKind.hi,ar,PE,IntKind.bits]
  ·rename_i k a ha;simp only [auq]at h;subst h;refine ct ?_;simp only [SV.val,z5 cd,fE,E.den];simp [execOp,ev ha,SV.val,Op.unary,Op.intArith]
  ·cases h
 | convert src dst x=>
  simp only [eg]at h;split at h
  ·rename_i Yn Xo k' a h1 h2 ha;split at h
   ·rename_i k hk;cases h;obtain⟨rfl,Ln⟩:=aC hT h1;obtain⟨rfl,L_⟩:=aC hT h2;have dE:=L_.kind;rw [hk]at dE;have hu:=kK dE;have hu1:(P.underlying Yn.t).isSome=true:=by
     have:=Ln.kind;unfold ju at this;split at this<;>simp_all
    have hik:P.intKind Xo.t=k:=by simp [Program.intKind,hu]
    refine eF ?_;rw [ev ha,SV.val,run_convert_int w Yn.t Xo.t k' _ hu1 (by rw [hik];exact hu),hik,SV.val,My cd]
   ·cases h
  ·rename_i Yn Xo l h1 h2 ha;split at h
   ·rename_i hk;have:=BT (P:=P) (w:=w) (hp:=hp) (S:=S) (nb:=nb) (ρ:=ρ) hT h1 hk h2 h;simp only [execOp,ev ha];exact this
   ·cases h
  ·rename_i Yn Xo l h1 h2 ha;split at h
   ·rename_i hk;have:=CF (P:=P) (w:=w) (hp:=hp) (S:=S) (nb:=nb) (ρ:=ρ) hT h1 hk h2 h cd;simp only [execOp,ev ha];exact this
   ·cases h
  ·rename_i Yn Xo b i s n m h1 h2 ha;split at h
   ·rename_i e hk;split at h
    ·rename_i te j b' cs jf hf;split at h
     ·rename_i hc;obtain⟨rfl,hu8⟩:=hc;cases h;obtain⟨e2,L_⟩:=aC hT h2;subst e2;obtain⟨rfl,UF⟩:=aC hT jf;have dE:=L_.kind;rw [hk]at dE;have hu:=bK dE;have EF:=UF.kind;rw [hu8]at EF;have hue:=kK EF;obtain⟨hj,dH⟩:=dD hf;simp only [Ck.s5,beq_iff_eq]at dH;subst dH;have hS:=db j (by simp) _ hj;obtain⟨w',r1,r2,r3,r4,r5⟩:=xN (P:=P) hS Xo.t te.t hu hue ((i.den ρ 0).toNat*s) (n.den ρ 0).toNat (m.den ρ 0).toNat;refine⟨w',.inl ?_,⟨⟨_,hj,rfl⟩,rfl,r2,r3,fun k hk=>r4 k fun e=>hk ((hS.1 k).2 e),r5⟩⟩;simp only [execOp,ev ha,SV.val,auC,r1,aut,auI]
     ·cases h
    ·cases h
   ·rename_i hk;have:=kR (P:=P) (w:=w) (ρ:=ρ) (nb:=nb) (nv:=nv) hT h2 hk h db cd;simp only [execOp,ev ha];exact this
   ·cases h
  ·rename_i Yn Xo v h1 h2 ha;split at h
   ·rename_i hk;have:=kR (P:=P) (w:=w) (ρ:=ρ) (nb:=nb) (nv:=nv) hT h2 hk h db cd;simp only [execOp,ev ha];exact this
   ·cases h
  ·rename_i Yn Xo v cs s h1 h2 ha;split at h
   ·rename_i hk;have:=kR (P:=P) (w:=w) (ρ:=ρ) (nb:=nb) (nv:=nv) hT h2 hk h db cd;simp only [execOp,ev ha];exact this
   ·cases h
  ·rename_i Yn Xo h1 h2 ha;split at h
   ·rename_i hk;have:=kR (P:=P) (w:=w) (ρ:=ρ) (nb:=nb) (nv:=nv) hT h2 hk h db cd;simp only [execOp,ev ha];exact this
   ·cases h
  ·cases h
 | makeInterface t x=>
  simp only [eg]at h;split at h
  ·rename_i ti k e dc hx;split at h
   ·rename_i hk;cases h;obtain⟨rfl,hi⟩:=aC hT dc;have dE:=hi.kind;rw [hk]at dE;have hu:=kK dE;refine ct ?_;have hc:P.concrete ti.t=true:=by simp [Go.Program.concrete,hu]
    simp only [execOp,ev hx,auC,run_makeInterface w ti.t _ hc,aut,auI,SV.val]
   ·cases h
  ·rename_i ti b c dc hx;split at h
   ·rename_i e hk;cases h;obtain⟨rfl,hi⟩:=aC hT dc;have dE:=hi.kind;rw [hk]at dE;have hu:=fF dE;refine ct ?_;have hc:P.concrete ti.t=true:=by simp [Go.Program.concrete,hu]
    simp only [execOp,ev hx,auC,run_makeInterface w ti.t _ hc,aut,auI,SV.val]
   ·cases h
  ·cases h
 | sliceToArrayPointer arr x=>
  simp only [eg]at h;split at h
  ·rename_i ta v hta hv;split at h
   ·rename_i n e hk;split at h
    ·rename_i te jf;split at h
     ·cases h
     ·rename_i Da;obtain⟨rfl,Ln⟩:=aC hT hta;have dE:=Ln.kind;rw [hk]at dE;have hu:=pz dE;split at h
      ·rename_i b i s m c;cases h;have q:=bf cd;simp only [E.den]at q;refine ct ?_;simp only [execOp,ev hv,SV.val,wT];have: ¬(m.den ρ 0).toNat<n:=by omega
       simp [Instr.arrayAt,run_underlying hu,this]
      ·split at h
       ·rename_i v _ r hr;cases h;simp only at cd db;obtain⟨q1,q2⟩:=bA cd;have q:=bf q2;simp only [E.den]at q;obtain⟨hj,fi⟩:=gf hr db q1;have M6:=fi.lo;have hhi:=fi.hi;obtain⟨a,cp,k,e1,e2,e3,e4⟩:=fi.is;have cF:(r.p.lo.den ρ 0).toNat<(Option.map ag (Option.map (fun m=>m.den ρ 0) r.p.mx)).getD cp:=by
         cases hm:r.p.mx with
         | none=>simp only [Option.map_none,Option.getD_none];omega
         | some m=>
          have:=(fi.top (m.den ρ 0) (by rw [hm];rfl)).1;simp only [Option.map_some,au8];omega
        have kY:=e4 (.inl cF);have hS:=db r.j (by simp) _ hj;refine ct ?_;simp only [execOp,ev hv,SV.val];rw [e3];have: ¬(r.p.len.den ρ 0).toNat<n:=by omega
        have afO: ∃ad,a=some ad:=by
         obtain⟨ad,c2,hh⟩:=ny hS (by omega);rw [hh]at e1;simp only [Value.slice.injEq]at e1;exact⟨ad,e1.1.symm⟩
        obtain⟨ad,rfl⟩:=afO;rw [e1];simp [Instr.arrayAt,run_underlying hu,this,fS,kY]
       ·cases h
    ·cases h
   ·cases h
  ·cases h
 | fieldAddr s x f=>
  simp only [eg]at h;split at h
  ·rename_i ts a uO ha;split at h
   ·rename_i fs hk;split at h
    ·rename_i t off hf;split at h
     ·rename_i ti dc;split at h
      ·cases h
      ·rename_i gx;have iR:=fun ad=>vp (w:=w) hT uO hk hf dc gx ad
       split at h
       ·cases h;refine eF ?_;rw [ev ha,SV.val,iR,fW,SV.val]
       ·cases h;refine eF ?_;rw [ev ha,SV.val,iR,fW,SV.val,Nat.add_assoc]
       ·rename_i v i s' c;split at h
        ·rename_i j md v' t' s2 n aA du;cases h;obtain⟨hj,dH⟩:=cZ du;simp only [Ck.mI,beq_iff_eq]at dH;subst dH;have hS:=db j (by simp) _ hj;obtain⟨h0,h1⟩:=dL ρ cd;obtain⟨ad,cp,he⟩:=ny hS (by omega);refine eF ?_;rw [ev ha,SV.val,he,fS,iR,dM,SV.val,he,fS,Nat.add_assoc]
        ·cases h
       ·cases h
     ·cases h
    ·cases h
   ·cases h
  ·cases h
 | field s x f=>
  simp only [eg]at h;split at h
  ·rename_i ts cs uO ha;split at h
   ·rename_i fs hk;split at h
    ·rename_i t off hf;split at h
     ·rename_i ti dc;split at h
      ·rename_i xs IC;rw [aus]at h;obtain⟨v,hv,rfl⟩:=h;refine eF ?_;rw [ev ha,SV.val];exact yR hT uO hk hf dc IC hv
      ·cases h
     ·cases h
    ·cases h
   ·cases h
  ·cases h
 | indexAddr t x y=>
  simp only [eg]at h;split at h
  ·rename_i tt a k j gD ha hy;split at h
   ·rename_i e hk;split at h
    ·rename_i te jf;split at h
     ·rename_i b i s n m;split at h
      ·rename_i gx;cases h;have OY:0≤i.den ρ 0:=f_ fun c hc=>cd c (List.mem_append_left _ hc)
       obtain⟨h0,h1⟩:=dL ρ (i:=j) (n:=n) fun c hc=>cd c (List.mem_append_right _ hc)
       refine eF ?_;rw [ev ha,ev hy,SV.val,SV.val,rL hT gD hk jf _ _ _ _ _ h0 (by omega),fW,wT,bG,gx,Int.toNat_add OY h0,Nat.add_mul,Nat.add_zero]
      ·cases h
     ·split at h
      ·rename_i r hr;split at h
       ·rename_i gx;cases h;simp only at cd db;obtain⟨w1,w2⟩:=bA cd;obtain⟨hj,fi⟩:=gf hr db w1;obtain⟨h0,h1⟩:=dL ρ w2;obtain⟨b1,b2,b3,ad,c,q,hv,hc,hx,hq⟩:=fi;have MJ:(r.p.lo.den ρ 0).toNat<((r.p.mx.map fun m=>m.den ρ 0).map ag).getD c:=by
         cases hmx:(r.p.mx.map fun m=>m.den ρ 0)with
         | none=>simp only [Option.map_none,Option.getD_none];omega
         | some m=>have:=b3 m hmx;simp only [Option.map_some,au8];omega
        have hq:=hq (.inl MJ);have fy: ∃ad0,ad=some ad0:=by
         cases ad with
         | some ad0=>exact⟨ad0,rfl⟩
         | none=>
          obtain⟨a',cp',he⟩:=ny (db r.j (by simp) _ hj) (by omega);rw [hv]at he;cases he
        obtain⟨ad,rfl⟩:=fy;refine eF ?_;have e3:(SV.int k j).val ρ= .int k (j.den ρ 0):=rfl;have e2:(SV.pv r.v (dP r.p.lo j) r.s 0).val ρ= .pointer (some (ad.add ((r.p.lo.den ρ 0+j.den ρ 0).toNat*r.s+0))):=by rw [SV.val,hv,bG];rfl
        rw [ev ha,ev hy,hx,e2,e3,Option.map_some,rL hT gD hk jf _ _ _ _ _ h0 (by omega),gx,Nat.add_zero,dM,hq,←Nat.add_mul,←Int.toNat_add b1 h0]
       ·cases h
      ·cases h
    ·cases h
   ·rename_i n e hk;split at h
    ·rename_i te jf;split at h
     ·rename_i b c;cases h;obtain⟨h0,h1⟩:=dL ρ cd;refine eF ?_;rw [ev ha,ev hy,SV.val,SV.val,Ad hT gD hk jf _ _ _ h0 h1,fW,wT,Nat.add_comm]
     ·cases h
    ·cases h
   ·cases h
  ·cases h
 | index t x y=>
  simp only [eg]at h;split at h
  ·rename_i tt cs k j gD ha hy;split at h
   ·rename_i n e hk;split at h
    ·rename_i te jf;have hi:=(aC hT jf).2;split at h
     ·rename_i l hl;split at h
      ·rename_i hln;split at h
       ·rename_i xs IC;rw [aus]at h;obtain⟨v,hv,rfl⟩:=h;refine eF ?_;have hd:=bZ (ρ:=ρ) hl;rw [ev ha,ev hy,SV.val,SV.val];refine vq hT gD hk jf _ _ _ (by omega) (by omega) ?_;rw [hd,auD];exact Ac hi IC hv
       ·cases h
      ·cases h
     ·split at h
      ·rename_i k' m a;split at h
       ·rename_i hc;obtain⟨rfl,kZ,yN⟩:=hc;cases h;obtain⟨h0,h1⟩:=dL ρ cd;refine eF ?_;rw [ev ha,ev hy,SV.val,SV.val];refine vq hT gD hk jf _ _ _ h0 h1 ?_;have cF:(j.den ρ 0).toNat<m:=by simp only [E.den]at h1;omega
        have rV:(SV.ao ρ [SV.dg k' m a])[(j.den ρ 0).toNat]? =some (.int k' (a.den ρ (j.den ρ 0).toNat)):=by
         simp only [SV.ao,SV.cells,List.append_nil];rw [bF,if_pos cF]
        rw [kZ,Nat.mul_one,cX];simp [part,hi.isAgg w,yN,rV]
       ·cases h
      ·cases h
    ·cases h
   ·cases h
  ·rename_i tt v k j _ gD hx hy;split at h
   ·rename_i hk;obtain⟨h1,h2⟩:=E8 (P:=P) (w:=w) (ρ:=ρ) (k:=k) hT gD hk h cd;obtain⟨rv,Tt,Xn,re⟩:=res;simp only at h2;subst h2;refine eF ?_;rw [ev hx,ev hy];exact h1
   ·cases h
  ·cases h
 | extract x i=>
  simp only [eg]at h;split at h
  ·rename_i vs hx;rw [aus]at h;obtain⟨v,hv,rfl⟩:=h;refine ct ?_;have:(SV.bH ρ vs)[i]? =some (v.val ρ):=by
    have key: ∀(l:List SV) (i:Nat),(SV.bH ρ l)[i]? =(l[i]?).map (SV.val ρ):=by
     intro l
     induction l with
     | nil=>intro i;simp [SV.bH]
     | cons x r ih=>intro i;cases i<;>simp [SV.bH,ih]
    rw [key,hv];rfl
   simp [execOp,ev hx,SV.val,Instr.extract,this]
  ·cases h
 | makeFunc fn first jq=>
  simp only [eg]at h;split at h
  ·rename_i f Kk;rw [aus]at h;obtain⟨cs,nU,rfl⟩:=h;have:=hJ ui _ _ nU;have hf:first= #[]:=auY Kk
   subst hf;refine ct ?_;simp only [execOp,auC,Instr.makeFunc,auI,aut,SV.val];have e5:Array.map bH jq=(SV.bH ρ cs).toArray:=auY (by rw [Array.toList_map,this]);rw [e5];simp
  ·rename_i f x r Kk;split at h
   ·rename_i C7;rw [aus]at h;obtain⟨cs,nU,rfl⟩:=h;rw [←Kk]at nU;have:=hJ ui _ _ nU;have hf:jq= #[]:=by simpa using C7
    subst hf;refine ct ?_;simp only [execOp,auC,Instr.makeFunc,auI,aut,SV.val];have e5:Array.map bH first=(SV.bH ρ cs).toArray:=auY (by rw [Array.toList_map,this])
    rw [e5];simp
   ·cases h
  ·cases h
 | call c=>
  obtain⟨callee,args,argTypes⟩:=c;simp only [eg]at h;split at h
  ·rename_i x t lx Fa;have hf:args= #[x]:=auY lx;have hg:argTypes= #[t]:=auY Fa;subst hf hg;split at h
   ·rename_i tt v gD hv;obtain⟨h1,h2⟩:=OO (P:=P) hT gD h db cd ty;obtain⟨rv,Tt,Xn,re⟩:=res;simp only at h2;subst h2;refine ct ?_;simp only [execOp,resolve,invoke,builtin,auC,auI,aut,au5,auK,List.map_nil,ev hv];rw [h1];rfl
   ·cases h
  ·rename_i x t lx Fa;have hf:args= #[x]:=auY lx;have hg:argTypes= #[t]:=auY Fa;subst hf hg;split at h
   ·rename_i tt gD hv;split at h
    ·rename_i e hk;cases h;obtain⟨rfl,qg⟩:=aC hT gD;have dE:=qg.kind;rw [hk]at dE;have hu:=bK dE;refine ct ?_;have hc:(Builtin.cap_ #[tt.t] ty #[.slice none 0 0]).run P w= .ok (goInt 0) w:=by
      simp [Builtin.cap_,run_underlying hu]
     simp only [execOp,resolve,invoke,builtin,auC,auI,aut,au5,auK,List.map_nil,ev hv,SV.val];rw [hc];rfl
    ·cases h
   ·cases h
  ·rename_i x y lx;have hf:args= #[x,y]:=auY lx;subst hf;split at h
   ·rename_i k a k' b ha hb;cases h;refine ct ?_;simp only [execOp,resolve,invoke,builtin,auC,auI,aut,au5,auK,List.map_nil,ev ha,ev hb,SV.val,lV];simp [Builtin.max_,Builtin.max2,ar]
   ·cases h
  ·rename_i x y lx;have hf:args= #[x,y]:=auY lx;subst hf;split at h
   ·rename_i k a k' b ha hb;cases h;refine ct ?_;simp only [execOp,resolve,invoke,builtin,auC,auI,aut,au5,auK,List.map_nil,ev ha,ev hb,SV.val,lV];simp [Builtin.min_,Builtin.min2,ar]
   ·cases h
  ·rename_i x y t t' lx Fa;have hf:args= #[x,y]:=auY lx;have hg:argTypes= #[t,t']:=auY Fa;subst hf hg;split at h
   ·rename_i tt v u gD hv hu;have:=zg (P:=P) (w:=w) (nb:=nb) hT iz gD h db cd ty;simp only [execOp,resolve,invoke,builtin,auC,auI,aut,au5,auK,List.map_nil,ev hv,ev hu];simp only [auC,auI]at this;exact this
   ·cases h
  ·rename_i x t lx Fa;have hf:args= #[x]:=auY lx;have hg:argTypes= #[t]:=auY Fa;subst hf hg;split at h
   ·rename_i tt v gD hv;have:=BN (P:=P) (w:=w) (nb:=nb) (nv:=nv) hT gD h db cd ty;simp only [execOp,resolve,invoke,builtin,auC,auI,aut,au5,auK,List.map_nil,ev hv];simp only [auC,auI]at this;exact this
   ·cases h
  ·rename_i x y t t' lx Fa;have hf:args= #[x,y]:=auY lx;have hg:argTypes= #[t,t']:=auY Fa;subst hf hg;split at h
   ·rename_i tt v u gD hv hu;split at h
    ·rename_i heq;subst heq;have:=CE (P:=P) (w:=w) (nb:=nb) (nv:=nv) hT gD h db cd ty;simp only [execOp,resolve,invoke,builtin,auC,auI,aut,au5,auK,List.map_nil,ev hv,ev hu];simp only [auC,auI]at this;exact this
    ·cases h
   ·cases h
  ·cases h
 | slice t x lo hi mx=>
  simp only [eg]at h;split at h
  ·rename_i tt v l hh m gD hv hl hhi hm;split at h
   ·rename_i hk;split at h
    ·cases h
    ·rename_i hmx;have zb:m=none:=by cases m<;>simp_all
     subst zb;obtain⟨h1,h2⟩:=BS (P:=P) (w:=w) (ρ:=ρ) hT gD hk h (kp ui hl) (kp ui hhi) cd;have al8:mx.map bH=none:=by
      have:=kp ui hm;cases hq:mx.map bH with
      | none=>rfl
      | some v=>rw [hq]at this;exact this.elim
     obtain⟨rv,Tt,Xn,re⟩:=res;simp only at h2;subst h2;refine eF ?_;rw [ev hv,al8];exact h1
   obtain⟨h1,h2⟩:=Ai (P:=P) (w:=w) hT gD h (kp ui hl) (kp ui hhi) (kp ui hm) db cd;obtain⟨rv,Tt,Xn,re⟩:=res;simp only at h2;subst h2;refine eF ?_;rw [ev hv];exact h1
  ·cases h
 | makeMap t r=>
  cases r with
  | some r=>simp [eg]at h
  | none=>
   simp only [eg]at h;have:=xL (P:=P) (w:=w) (hp:=hp) (S:=S) (nv:=nv) (ρ:=ρ) hT DM h;simp only [execOp,Option.map_none];exact this
 | lookup t x k comma=>
  simp only [eg]at h;split at h
  ·rename_i x' k' hx hk;obtain⟨h1,h2⟩:=ze (P:=P) (w:=w) hT h db;obtain⟨rv,Tt,Xn,re⟩:=res;simp only at h2;subst h2;refine eF ?_;rw [ev hx,ev hk];exact h1
  ·cases h
 | mapUpdate t x k v=>
  simp only [eg]at h;split at h
  ·rename_i x' k' v' hx hk hv;obtain⟨h1,j,ck,h2,w',h3,h4⟩:=qS (P:=P) (w:=w) hT h db;unfold Did;rw [h2];refine⟨w',.inr ⟨h1,?_⟩,h4⟩;simp only [execOp,ev hx,ev hk,ev hv,auC,h3,aut,auI]
  ·cases h
 | mapEntry t x k=>
  simp only [eg]at h;split at h
  ·rename_i x' k' hx hk;obtain⟨j,ck,h2,w',h3,h4⟩:=BQ (P:=P) (w:=w) hT h db cd;unfold Did;rw [h2];refine⟨w',.inl ?_,h4⟩;simp only [execOp,ev hx,ev hk,auC,h3,aut,auI]
  ·cases h
 | entryStore t x s v=>
  simp only [eg]at h;split at h
  ·rename_i x' s' v' hx hs hv;obtain⟨h1,j,ck,h2,w',h3,h4⟩:=BR (P:=P) (w:=w) t h db cd;unfold Did;rw [h2];refine⟨w',.inr ⟨h1,?_⟩,h4⟩;simp only [execOp,ev hx,ev hs,ev hv,auC,h3,aut,auI]
  ·cases h
 | insert t x k v=>
  simp only [eg]at h;split at h
  ·rename_i x' k' v' hx hk hv;obtain⟨h1,j,ck,h2,w',h3,h4⟩:=qS (P:=P) (w:=w) hT h db;unfold Did;rw [h2];refine⟨w',.inr ⟨h1,?_⟩,h4⟩;simp only [execOp,ev hx,ev hk,ev hv,auC,h3,aut,auI]
  ·cases h
 | makeSlice t n c=>
  simp only [eg]at h;split at h
  ·rename_i tt k n' k' c' gD hn hc;have:=CD (P:=P) (w:=w) (hp:=hp) (S:=S) (nb:=nb) (ρ:=ρ) hT gD h cd k k';have en:bH n= .int k (n'.den ρ 0):=ev hn;have ec:bH c= .int k' (c'.den ρ 0):=ev hc;simp only [execOp,en,ec];exact this
  ·cases h
 | range t x=>
  simp only [eg]at h;split at h
  ·rename_i ti l dc hx;split at h
   ·rename_i hk;cases h;obtain⟨rfl,hi⟩:=aC hT dc;have k1:=hi.kind;rw [hk]at k1;have hu:=HY k1;refine⟨w.alloc (.stringIter ⟨l.toArray⟩ 0),_,if_pos rfl,?_,⟨rfl,rfl,rfl,by simp⟩,by simp,fun k hk=>heap_alloc_old w _ hk,fun k=>Iff.rfl,heap_alloc_new w _⟩;subst DM;have e1:bH x= .string ⟨l.toArray⟩:=ev hx;simp only [execOp,e1,auC,run_range_string w _ _ hu,aut,auI,SV.val,auO,ko];rfl
   ·cases h
  ·rename_i ti m dc hx;unfold rangeMap at h;split at h
   ·rename_i kt vt hk;split at h
    ·rename_i j b' mY zd zD zero has aA hf;cases h;obtain⟨hj,dH⟩:=fp hf;simp only [Ck.isMap,beq_iff_eq]at dH;subst dH;obtain⟨rfl,hi⟩:=aC hT dc;have k1:=hi.kind;rw [hk]at k1;have hu:=sE k1;obtain⟨_,⟨es,cl,hb,hc⟩,_⟩:=db j (by simp) _ hj;refine⟨w.alloc (.mapIter (some (ρ.bv.getD m 0)) cl #[] cl),_,if_pos rfl,?_,⟨rfl,rfl,rfl,by simp⟩,by simp,fun k hk=>heap_alloc_old w _ hk,fun k=>Iff.rfl,cl,heap_alloc_new w _⟩;subst DM;have e1:bH x= .map (some (ρ.bv.getD m 0)):=ev hx;have hrr:=run_range_map (P:=P) w _ _ _ (ρ.bv.getD m 0) es cl hu hb;simp only [execOp,e1,auC,hrr,aut,auI,SV.val];simp only [auO,ko]
    ·cases h
   ·cases h
  ·cases h
 | next x b=>
  cases b with
  | false=>
   simp only [eg,Option.bind_eq_some_iff]at h;obtain⟨v,hv,h⟩:=h;unfold LS at h;split at h
   ·rename_i b;split at h
    ·rename_i j hj0;split at h
     ·rename_i b' m hj;split at h
      ·rename_i hbb;subst hbb;split at h
       ·rename_i i bm mY zd zD zero has aA hf;split at h
        ·rename_i h0;cases h;obtain⟨hi,dH⟩:=fp hf;simp only [Ck.isMap,beq_iff_eq]at dH;subst dH;have e1:bH x= .pointer (some ⟨ρ.bv.getD b 0,0,none⟩):=ev hv;obtain⟨hS,c,hh⟩:=db j (by simp) _ hj;obtain⟨_,⟨es,cl,hb,hc⟩,_⟩:=db i (by simp) _ hi;have hz:=bZ (ρ:=ρ) h0;rw [cX]at hz;have zk:es= #[]:=by
          have:es.size=0:=by
           have e0:(E.den ρ (.lit 0) 0).toNat=0:=rfl;rw [e0]at hz;rw [hz]at hc;exact(Int.ofNat.inj hc).symm
          exact Array.eq_empty_of_size_eq_zero this
         have hn:=run_next_at (P:=P) w ty (ρ.bv.getD b 0) (ρ.bv.getD m 0) c c #[] es cl hh hb (by rw [zk];intro x hx;cases hx) (Nat.le_refl _);rcases hn with⟨_,hn⟩ | ⟨e,he,_⟩
         ·refine ct ?_;simp only [execOp,e1,auC,hn,aut,auI,SV.val,SV.bH];rfl
         ·rw [zk]at he;simp [leftOf]at he
        ·cases h
       ·cases h
      ·cases h
     ·cases h
    ·cases h
   ·cases h
  | true=>
   simp only [eg,Option.bind_eq_some_iff]at h;obtain⟨v,hv,h⟩:=h;unfold LR at h;split at h
   ·rename_i b;split at h
    ·rename_i j hj0;split at h
     ·rename_i b' l pos hj;split at h
      ·rename_i hbb;subst hbb;have e1:bH x= .pointer (some ⟨ρ.bv.getD b 0,0,none⟩):=ev hv;split at h
       ·rename_i c hc;split at h
        ·rename_i al_;cases h;obtain⟨hS,hh⟩:=db j (by simp) _ hj;obtain⟨cF,rV⟩:=aup.1 hc;have M1:pos<(⟨l.toArray⟩:ByteArray).size:=by simpa [ByteArray.size] using cF
         have hce:(⟨l.toArray⟩:ByteArray)[pos]'M1=c:=by
          show l.toArray[pos]'_=c;simpa using rV
         have hn:=Lib.run_next_ascii_at (P:=P) w (ρ.bv.getD b 0) ⟨l.toArray⟩ pos ty hh M1 (by rw [hce];exact al_);rw [hce]at hn;refine⟨w.iterAt (ρ.bv.getD b 0) ⟨l.toArray⟩ (pos+1),.inl ?_,⟨⟨_,hj,rfl⟩,rfl,⟨rfl,rfl,rfl,by simp [World.iterAt]⟩,by simp [World.iterAt],fun k hk=>?_,fun k=>hS k,?_⟩⟩
         ·simp only [execOp,e1,auC,hn,aut,auI,SV.val,SV.bH];rfl
         ·have: ¬k=ρ.bv.getD b 0:=fun e=>hk ((hS k).2 e)
          exact Array.getElem?_setIfInBounds_ne (Ne.symm this)
         ·exact Lib.iterAt_heap w _ _ pos (pos+1) hh
        ·cases h
       ·rename_i hc;cases h;obtain⟨hS,hh⟩:=db j (by simp) _ hj;have hn:=Lib.run_next_end_at (P:=P) w (ρ.bv.getD b 0) ⟨l.toArray⟩ pos ty hh (by
         rw [List.getElem?_eq_none_iff]at hc;simpa [ByteArray.size] using hc)
        refine ct ?_;simp only [execOp,e1,auC,hn,aut,auI,SV.val,SV.bH];rfl
      ·cases h
     ·cases h
    ·cases h
   ·cases h
 | _=>simp [eg]at h
end
end Go.RX
