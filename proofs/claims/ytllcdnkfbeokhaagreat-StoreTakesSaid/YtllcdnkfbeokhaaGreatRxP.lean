/- Executor. -/
import Derived.Lib.OthersKept
import Derived.Test.YtllcdnkfbeokhaaGreatRxOg
import Derived.Test.YtllcdnkfbeokhaaGreatM13
import Derived.Lib.ConvBytes
import Derived.WalkSpells
open Array renaming ext' → aqU
open Go.Builtin renaming append_ → aqJ
open Go.Op renaming equalIn → aqR
open Go.Result renaming andThen_ok → aqu
open Go.Sem renaming run_bind → aqA, run_pure → aqH
open Int renaming toNat → ag, toNat_natCast → aqD
open List renaming getD_cons_zero → ah, getD_eq_getElem?_getD → aqN, getElem?_append_left → aqs, getElem?_eq_some_iff → aqo, map_cons → aqP, map_toArray → aq0, mem_cons_of_mem → aqv, mem_cons_self → aqr, mem_filter → aqL, mem_range → aqE, mem_singleton → aqx
open Option renaming map_eq_some_iff → aqq
open Option.some renaming injEq → aqp
namespace Go.RX
section
variable {P:Program} {ρ:Env} {w:World} {look:Nat→Option SV} {bD:Operand→Value} {hp:List Ck} {S:Nat→Nat→Prop} {nb nv:Nat} {T:List TI}
theorem cf{run:Result Next}{v:SV}{vcs:List BE}{rd:List Nat}(h:run= .ok (.value (v.val ρ)) w):Did P ρ w hp S nb nv run {val:=v,vcs:=vcs,rd:=rd}:=h
theorem ej{s:Sem Value}{v:SV}{vcs:List BE}{rd:List Nat}(h:s.run P w= .ok (v.val ρ) w):
  Did P ρ w hp S nb nv ((do pure (.value (←s)):Sem Next).run P w) {val:=v,vcs:=vcs,rd:=rd}:=by
 apply cf;simp only [aqA,h,aqu,aqH]
theorem HT{c:BE}{a b v:SV}(h:CU c a b=some v):v.val ρ=if c.den ρ then a.val ρ else b.val ρ:=by
 unfold CU at h;split at h
 ·cases h;simp [BE.den]
 ·cases h;simp [BE.den]
 ·split at h
  ·cases h;simp only [SV.val,oB];cases c.den ρ<;>rfl
  ·split at h
   ·rename_i hg;cases h;subst hg;simp only [SV.val,oB,dE];cases c.den ρ<;>rfl
   ·cases h
  ·split at h
   ·rename_i hg;cases h;subst hg;simp only [SV.val,oB];cases h:BE.den ρ _<;>simp
   ·cases h
  ·cases h
theorem Lr(hT:bx P T=true){t:TypeId}{tt:TI}(fQ:aP T t=some tt){v:SV}{res:gY}(h:HK hp tt.k v=some res)
  (cN:Reads hp ρ w S res.rd) (bY: ∀b∈res.vcs,b.prop ρ) (ty:TypeId):
  (Builtin.len_ #[t] ty #[v.val ρ]).run P w= .ok (res.val.val ρ) w∧res.gZ= .none:=by
 unfold HK at h;split at h
 ·rename_i kt vt hk;have hm:P.underlying t=some (.map kt vt):=by
   obtain⟨ht,cO⟩:=aA hT fQ;have:=cO.kind;rw [hk]at this;rw [←ht];exact qZ this
  split at h
  ·rename_i b;split at h
   ·rename_i j b' mh xI yd zero has ay hf;cases h;obtain⟨hj,dK⟩:=eQ hf;simp only [Ck.isMap,beq_iff_eq]at dK;subst dK;obtain⟨_,⟨es,cl,hb,hc⟩,_⟩:=cN j (by simp) _ hj;refine⟨?_,rfl⟩;show(Builtin.len_ #[t] ty #[.map (some (ρ.bv.getD b 0))]).run P w=_;simp only [Builtin.len_,List.getElem?_toArray,List.getElem?_cons_zero,aqA,run_underlying hm,aqu,wh hb,aqH,SV.val,cJ,cR,Int.toNat_zero,hc,goInt]
   ·cases h
  ·cases h;refine⟨?_,rfl⟩;show(Builtin.len_ #[t] ty #[.map none]).run P w=_;simp only [Builtin.len_,List.getElem?_toArray,List.getElem?_cons_zero,aqA,run_underlying hm,aqu,aqH,SV.val];rfl
  ·cases h
 ·rename_i e hk;split at h
  ·rename_i b i s n m;cases h;have:=fD bY;refine⟨?_,rfl⟩;show(Builtin.len_ #[t] ty #[.slice (some ⟨ρ.bv.getD b 0,(i.den ρ 0).toNat*s,none⟩) (n.den ρ 0).toNat (m.den ρ 0).toNat]).run P w=_;rw [o9 hT fQ hk,goInt,Int.toNat_of_nonneg this];rfl
  ·cases h;exact⟨o9 hT fQ hk _ _ _ _,rfl⟩
  ·rename_i v;split at h
   ·rename_i j md v' t' s n ay cY;cases h;obtain⟨hj,dK⟩:=cK cY;simp only [Ck.lP,beq_iff_eq]at dK;subst dK;have hS:=cN j (by simp) _ hj;have:=fD bY;obtain⟨ad,cp,he⟩:=BV hS;have e1:(SV.vv v).val ρ= .slice ad (n.den ρ 0).toNat cp:=he;refine⟨?_,rfl⟩;rw [e1,o9 hT fQ hk,SV.val,goInt,Int.toNat_of_nonneg this]
   ·cases h
  ·rename_i v cs s;split at h
   ·rename_i r hr;cases h;simp only at bY cN;obtain⟨v1,v2⟩:=bw bY;have v2:=aZ v2;simp only [E.den]at v2;obtain⟨_,eJ⟩:=fE hr cN v1;obtain⟨_,_,_,a,c,k,_,_,hx,_⟩:=eJ;refine⟨?_,rfl⟩;rw [hx,o9 hT fQ hk,SV.val,goInt,Int.toNat_of_nonneg v2]
   ·cases h
  ·cases h
 ·rename_i hk;split at h
  ·rename_i l;cases h;exact⟨yM hT fQ hk _ _,rfl⟩
  ·rename_i s;cases h;have:=fD bY;refine⟨?_,rfl⟩;have e1:(SV.lD s).val ρ= .string ⟨(dc (s.den ρ)).toArray⟩:=rfl;rw [e1,yM hT fQ hk,SV.val,goInt];congr 2;have e:=Jx ρ s;simp only [ByteArray.size,List.size_toArray];omega
  ·cases h
 ·cases h
theorem xK(hT:bx P T=true)(jf:ρ.Ok){ts:TypeId}{tt:TI}(fQ:aP T ts=some tt){x y:SV}{res:gY}(h:vV T hp nv tt.k x y=some res)
  (cN:Reads hp ρ w S res.rd) (bY: ∀b∈res.vcs,b.prop ρ) (ty:TypeId):
  Did P ρ w hp S nb nv ((do pure (.value (←aqJ #[ts,ts] ty #[x.val ρ,y.val ρ])):Sem Next).run P w) res:=by
 unfold vV at h;split at h
 ·rename_i v b i s m cap;split at h
  ·rename_i j v' t s' n ay j' b' wr cs h1 h2;split at h
   ·rename_i aN te nR iJ;split at h
    ·rename_i hc;obtain⟨rfl,rfl,hk,rfl,hw,hl,xQ,jV,fy⟩:=hc;cases h;obtain⟨hj,dK⟩:=cK h1;simp only [Ck.lP,beq_iff_eq]at dK;subst dK;obtain⟨lO,P2⟩:=de h2;simp only [Ck.rK,beq_iff_eq]at P2;subst P2;have Bx:0≤n.den ρ 0:=fD fun c hc=>bY c (List.mem_append_left _ hc)
     have DR:=bY _ (List.mem_append_right _ (aqx.2 rfl));have:=B1 (P:=P) (w:=w) (nb:=nb) (nv:=nv) (cap:=(cap.den ρ 0).toNat) hT jf fQ hk iJ fy xQ hj (cN j (by simp) _ hj) lO (cN j' (by simp) _ lO) hw hl jV nR Bx DR ty;have e1:(SV.sl b (.lit 0) s (.lit 1) cap).val ρ= .slice (some ⟨ρ.bv.getD b 0,0,none⟩) 1 (cap.den ρ 0).toNat:=by
      simp [SV.val,E.den]
     rw [e1];exact this
    ·cases h
   ·cases h
  ·cases h
 ·rename_i b i s m cap;split at h
  ·rename_i j' b' wr cs t h2 hk;split at h
   ·rename_i te ay iJ eT;split at h
    ·rename_i aN nR;split at h
     ·rename_i hc;obtain⟨rfl,rfl,hw,hl,xQ,jV,fy,DR⟩:=hc;cases h;obtain⟨lO,P2⟩:=de h2;simp only [Ck.rK,beq_iff_eq]at P2;subst P2;have e1:(SV.sl b (.lit 0) s (.lit 1) cap).val ρ= .slice (some ⟨ρ.bv.getD b 0,0,none⟩) 1 (cap.den ρ 0).toNat:=by
       simp [SV.val,E.den]
      rw [e1];exact vj (P:=P) (w:=w) (hp:=hp) (S:=S) (nb:=nb) (nv:=nv) hT jf fQ hk iJ fy xQ (cN j' (by simp) _ lO) hw hl jV nR DR ty
     ·cases h
    ·cases h
   ·cases h
  ·cases h
 ·cases h
theorem wm{b:Nat}{cs:List Value}{S:Nat→Prop}(hS:(ak b true cs).p w S)(t e:TypeId)(ht:P.underlying t=some (.slice e))(he:P.underlying e=some (.int .u8))(o n c:Nat):
  ∃w',(convert t t (.slice (some ⟨b,o,none⟩) n c)).run P w= .ok (.slice (some ⟨b,o,none⟩) n c) w'∧ic w w'∧w'.heap.size=w.heap.size∧(∀k,k≠b→w'.heap[k]? =w.heap[k]?)∧(ak b false cs).p w' S:=by
 obtain⟨h1,ty,fz,hg,_⟩:=hS;have w6:w.shape? b=some (ty,cs.length):=by
  unfold World.shape?;rw [hg];simp
 refine⟨w.freeze ⟨b,cs.length,none⟩ 1,by simp [convert,run_underlying ht,run_underlying he,markStringish,w6],?_,?_,?_,h1,?_⟩
 ·unfold World.freeze;rw [if_neg (by decide)];exact⟨rfl,rfl,rfl,by simp⟩
 ·unfold World.freeze;rw [if_neg (by decide)];simp
 ·intro k hk;unfold World.freeze;rw [if_neg (by decide)];simp [Array.getElem?_modify,Ne.symm hk]
 ·unfold World.freeze;rw [if_neg (by decide)];obtain⟨lo,hi⟩:=fz;exact⟨ty,_,by simp only [Array.getElem?_modify,if_true,hg,Option.map_some];rfl,fun h=>by cases h⟩
theorem oh{t:TypeId}{tt:TI}(hT:bx P T=true)(fQ:aP T t=some tt)(hk:tt.k= .str)(l:List UInt8)(k:IntKind)(j:Int)(h0:0≤j)(h1:j.toNat<l.length):
  (Instr.index t (.string ⟨l.toArray⟩) (.int k j)).run P w= .ok (.int .u8 ((l.getD j.toNat 0).toNat:Nat)) w:=by
 obtain⟨rfl,hi⟩:=aA hT fQ;have df:=hi.kind;rw [hk]at df;have hu:P.underlying tt.t=some .string:=by
  unfold iV at df;split at df<;>simp_all
 have hg:(⟨l.toArray⟩:ByteArray)[j.toNat]? =some (l.getD j.toNat 0):=by
  have cq:j.toNat<(⟨l.toArray⟩:ByteArray).size:=by simpa [ByteArray.size] using h1
  rw [getElem?_pos (⟨l.toArray⟩:ByteArray) j.toNat cq];simp only [List.getD,List.getElem?_eq_getElem h1,Option.getD_some];rfl
 simp [Instr.index,asIntOf,run_underlying hu,h0,hg]
theorem oT{l:List BE}(h: ∀b∈l.filter (fun b=>b != .lit true),b.prop ρ): ∀b∈l,b.prop ρ:=by
 intro b hb;by_cases hc:b= .lit true
 ·subst hc;rfl
 ·exact h b (aqL.2 ⟨hb,by simpa using hc⟩)
theorem C5{t:TypeId}{tt:TI}(hT:bx P T=true)(fQ:aP T t=some tt)(hk:tt.k= .str){v:SV}{k:IntKind}{j:E}{res:gY}(h:HJ v j=some res)(bY: ∀b∈res.vcs,b.prop ρ):
  (Instr.index t (v.val ρ) (.int k (j.den ρ 0))).run P w= .ok (res.val.val ρ) w∧res.gZ= .none:=by
 unfold HJ at h;split at h
 ·rename_i l;split at h
  ·rename_i i;split at h
   ·rename_i hl;cases h;exact⟨oh hT fQ hk l k _ (by simp [E.den]) (by simpa [E.den] using hl),rfl⟩
   ·cases h
  ·cases h;have h2:=oT bY;have q0:=of_decide_eq_true (iA ρ _ _▸(BE.bK ρ _).2 (h2 _ aqr));have q1:=of_decide_eq_true (tF ρ _ _▸(BE.bK ρ _).2 (h2 _ (aqv _ aqr)));simp only [cR]at q0 q1;refine⟨?_,rfl⟩;have e1:(SV.str l).val ρ= .string ⟨l.toArray⟩:=rfl;rw [e1,oh hT fQ hk l k _ q0 (by omega),SV.val,cJ,Ge]
 ·rename_i s;cases h;have h2:=oT bY;have q0:=of_decide_eq_true (iA ρ _ _▸(BE.bK ρ _).2 (h2 _ aqr));have q1:=of_decide_eq_true (tF ρ _ _▸(BE.bK ρ _).2 (h2 _ (aqv _ aqr)));simp only [cR,gX]at q0 q1;refine⟨?_,rfl⟩;have cq:(j.den ρ 0).toNat<(s.den ρ 0).toNat:=by omega
  have e1:(SV.lD s).val ρ= .string ⟨(dc (s.den ρ)).toArray⟩:=rfl;rw [e1,oh hT fQ hk _ k _ q0 (by rw [cS];exact cq),SV.val,cJ,Dz];congr 2;simp [List.getD,kG _ cq,Jp]
 ·cases h
theorem HU(l:List UInt8)(a b:Nat):(⟨l.toArray⟩:ByteArray).extract a b=⟨((l.take b).drop a).toArray⟩:=by
 apply ByteArray.ext;rw [ByteArray.data_extract];apply aqU;simp [List.drop_take]
theorem ss{t:TypeId}{tt:TI}(hT:bx P T=true)(fQ:aP T t=some tt)(hk:tt.k= .str)(L:List UInt8){lo hi:Option Value}{l h:Option Int}(hl:gM lo l)(hh:gM hi h)
  (h0:0≤l.getD 0) (h1:l.getD 0≤h.getD (L.length:Int)) (h2:h.getD (L.length:Int)≤L.length):
  (Instr.sliceAt t (.string ⟨L.toArray⟩) lo hi none).run P w= .ok (.string ⟨((L.take (h.getD (L.length:Int)).toNat).drop (l.getD 0).toNat).toArray⟩) w:=by
 obtain⟨rfl,dy⟩:=aA hT fQ;have df:=dy.kind;rw [hk]at df;have hu:P.underlying tt.t=some .string:=by
  unfold iV at df;split at df<;>simp_all
 have hb:=sN (P:=P) (w:=w) false L.length L.length (lo:=lo) (hi:=hi) (mx:=none) (m:=none) hl hh True.intro (by simp) h0 h1 (by simp) (fun _=>h2);have fy:(⟨L.toArray⟩:ByteArray).size=L.length:=by simp [ByteArray.size]
 simp only [Instr.sliceAt,Instr.slice,aqA,run_underlying hu,aqu,fy,HU];simp [hb]
theorem uN{t:TypeId}{tt:TI}(hT:bx P T=true)(fQ:aP T t=some tt)(hk:tt.k= .str)(s a b:E){lo hi:Option Value}{l h:Option Int}(hl:gM lo l)(hh:gM hi h)
  (ha:a.den ρ 0=l.getD 0) (hb: ∀n:Int,(0≤s.den ρ 0→n=s.den ρ 0)→b.den ρ 0=h.getD n∨(h=none∧b.den ρ 0=s.den ρ 0)) (bY: ∀b'∈(s_ s a b).vcs,b'.prop ρ):
  (Instr.sliceAt t (.string ⟨(dc (s.den ρ)).toArray⟩) lo hi none).run P w= .ok ((s_ s a b).val.val ρ) w:=by
 unfold s_ at bY ⊢;have leP: ∀x y:E,(∀b'∈s_.leS x y,b'.prop ρ)→x.den ρ 0≤y.den ρ 0:=by
  intro x y h;unfold s_.leS at h;split at h
  ·rename_i he;rw [he];exact Int.le_refl _
  ·exact of_decide_eq_true (iA ρ _ _▸(BE.bK ρ _).2 (oT h _ (aqx.2 rfl)))
 have q1:=leP _ _ fun c hc=>bY c (List.mem_append_left _ (List.mem_append_left _ hc))
 have q2:=leP _ _ fun c hc=>bY c (List.mem_append_left _ (List.mem_append_right _ hc))
 have q3:=leP _ _ fun c hc=>bY c (List.mem_append_right _ hc)
 simp only [cR,gX]at q1 q2 q3;have hlen:((dc (s.den ρ)).length:Int)=s.den ρ 0:=by rw [cS];omega
 have hbe:b.den ρ 0=h.getD ((dc (s.den ρ)).length:Int):=by
  rcases hb (dc (s.den ρ)).length (fun _=>hlen)with e | ⟨e1,e2⟩
  ·exact e
  ·rw [e1,e2];exact hlen.symm
 have:=ss (P:=P) (w:=w) hT fQ hk (dc (s.den ρ)) hl hh (by rw [←ha];exact q1) (by rw [←ha,←hbe];exact q2) (by rw [←hbe,hlen];exact q3);rw [this,SV.val,Jy ρ s a b q1 q2 q3,←hbe,←ha]
theorem Aa{t:TypeId}{tt:TI}(hT:bx P T=true)(fQ:aP T t=some tt)(hk:tt.k= .str){v:SV}{l h:Option E}{res:gY}(hs:zI v l h=some res)
  {lo hi:Option Value} (hl:gM lo (l.map fun e:E=>e.den ρ 0)) (hh:gM hi (h.map fun e:E=>e.den ρ 0)) (bY: ∀b∈res.vcs,b.prop ρ):
  (Instr.sliceAt t (v.val ρ) lo hi none).run P w= .ok (res.val.val ρ) w∧res.gZ= .none:=by
 have ga: ∀(o:Option E) (d:E),(o.getD d).den ρ 0=(o.map fun e:E=>e.den ρ 0).getD (d.den ρ 0):=by intro o d;cases o<;>rfl
 unfold zI at hs;split at hs
 ·rename_i L;split at hs
  ·rename_i a b e1 e2;split at hs
   ·rename_i hc;cases hs;have f1:=ga l (.lit 0);have f2:=ga h (.lit L.length);rw [e1]at f1;rw [e2]at f2;simp only [cR]at f1 f2;refine⟨?_,rfl⟩;have:=ss (P:=P) (w:=w) hT fQ hk L hl hh (by rw [←f1];simp) (by rw [←f1,←f2];exact Int.ofNat_le.2 hc.1) (by rw [←f2];exact Int.ofNat_le.2 hc.2);rw [SV.val,this,SV.val,←f1,←f2];simp
   ·cases hs
  ·rename_i a b fg;cases hs;refine⟨?_,rfl⟩;have:=uN (P:=P) (w:=w) (ρ:=ρ) hT fQ hk (Aw L) (l.getD (.lit 0)) (h.getD (.lit L.length)) hl hh (ga l (.lit 0)) (fun n hn=>by
    left;rw [ga h (.lit L.length),cR,hn (by rw [mD];simp [Jo]),mD];rfl) bY
   rw [mD,ou]at this;exact this
 ·rename_i s;cases hs;refine⟨?_,rfl⟩;exact uN (P:=P) (w:=w) (ρ:=ρ) hT fQ hk s (l.getD (.lit 0)) (h.getD (kX s)) hl hh (ga l (.lit 0)) (fun n hn=>by
   cases h with
   | none=>exact .inr ⟨rfl,by simp [gX]⟩
   | some e=>exact .inl rfl) bY
 ·cases hs
theorem XE{t:TypeId}(hu: ∃m,P.underlying t=some (.interface m))(d:Nat):(aqR (d+1) t .nilIface .nilIface).run P w= .ok true w:=by
 obtain⟨m,hu⟩:=hu;have wD:=run_underlying hu w;rw [aqR];simp only [aqA,wD,aqu];rfl
theorem XF{t t':TypeId}{v:Value}(hu: ∃m,P.underlying t=some (.interface m))(d:Nat):(aqR (d+1) t (.iface t' v) .nilIface).run P w= .ok false w:=by
 obtain⟨m,hu⟩:=hu;have wD:=run_underlying hu w;rw [aqR];simp only [aqA,wD,aqu];rfl
theorem HV(x:Value): ∃t v,tA x= .iface t v:=by
 unfold tA;split<;>exact⟨_,_,rfl⟩
theorem C6{ti:TI}(cO:kz P ti){op:BinOp}{xo yo:Operand}{a b:SV}{r:gY}(cN:Reads hp ρ w S r.rd)(h:zO hp ti op a b=some r):
  (do eqGuard op ti.t xo yo (a.val ρ) (b.val ρ);binOp op ti.t (a.val ρ) (b.val ρ):Sem Value).run P w= .ok (r.val.val ρ) w∧r.gZ= .none:=by
 have hk:=cO.kind;unfold zO at h;split at h
 ·rename_i e i F6;rw [F6]at hk;split at h
  ·rename_i j md v' t s n ay hf;obtain⟨hj,dK⟩:=cK hf;simp only [Ck.lP,beq_iff_eq]at dK;subst dK;split at h
   ·cases h;have hS:=cN j (by simp) _ hj;obtain⟨ad,cp,hv⟩:=BV hS;have e1:(SV.vv i).val ρ= .slice ad (n.den ρ 0).toNat cp:=hv;refine⟨?_,rfl⟩;rw [e1];refine aR (cF _ _ _ _ _ _ rfl) ?_;have:=Lib.run_eql_slice_nil w ti.t e ad (n.den ρ 0).toNat cp 0 0 (bH hk);refine this.trans ?_;simp only [SV.val,BE.den];rw [show(ρ.vv.getD i V1.nil).v=_ from hv];cases ad<;>rfl
   ·cases h;have hS:=cN j (by simp) _ hj;obtain⟨ad,cp,hv⟩:=BV hS;have e1:(SV.vv i).val ρ= .slice ad (n.den ρ 0).toNat cp:=hv;refine⟨?_,rfl⟩;rw [e1];refine aR (cF _ _ _ _ _ _ rfl) ?_;have:=run_neq_slice_nil_any w ti.t e ad (n.den ρ 0).toNat cp 0 0 (bH hk);refine this.trans ?_;simp only [SV.val,dE,BE.den];rw [show(ρ.vv.getD i V1.nil).v=_ from hv];cases ad<;>rfl
   ·cases h
  ·cases h
 ·cases h
theorem C7{ti:TI}(cO:kz P ti){op:BinOp}{xo yo:Operand}{a:SV}{r:gY}(h:zP ti op yo a=some r):
  yo= .const .nilIface∧(do eqGuard op ti.t xo yo (a.val ρ) .nilIface;binOp op ti.t (a.val ρ) .nilIface:Sem Value).run P w= .ok (r.val.val ρ) w∧r.gZ= .none:=by
 have hk:=cO.kind;have hu:ti.k= .iface→∃m,P.underlying ti.t=some (.interface m):=by
  intro e;rw [e]at hk;unfold iV at hk;split at hk<;>simp_all
 have g1: ∀v,(eqGuard op ti.t xo (.const .nilIface) v .nilIface).run P w= .ok () w:=by
  intro v;cases op<;>cases v<;>simp [eqGuard]
 unfold zP at h;split at h
 ·rename_i F6;have hu:=hu F6;split at h
  ·cases h;exact⟨rfl,aR (g1 _) (dj rfl fun d=>XE hu d),rfl⟩
  ·cases h;exact⟨rfl,aR (g1 _) (dp rfl fun d=>XE hu d),rfl⟩
  ·cases h
 ·rename_i t' k' e' F6;have hu:=hu F6;have hv: ∀d,(aqR (d+1) ti.t ((SV.Mk t' k' e').val ρ) .nilIface).run P w= .ok false w:=fun d=>XF hu d
  split at h
  ·cases h;exact⟨rfl,aR (g1 _) (dj rfl hv),rfl⟩
  ·cases h;exact⟨rfl,aR (g1 _) (dp rfl hv),rfl⟩
  ·cases h
 ·rename_i t' b' c' F6;have hu:=hu F6;have hv: ∀d,(aqR (d+1) ti.t ((SV.QV t' b' c').val ρ) .nilIface).run P w= .ok false w:=fun d=>XF hu d
  split at h
  ·cases h;exact⟨rfl,aR (g1 _) (dj rfl hv),rfl⟩
  ·cases h;exact⟨rfl,aR (g1 _) (dp rfl hv),rfl⟩
  ·cases h
 ·rename_i c v F6;have hu:=hu F6;obtain⟨t',x,hx⟩:=HV (ρ.vv.getD v V1.nil).v;have hv: ∀d,(aqR (d+1) ti.t ((SV.Ga c v).val ρ) .nilIface).run P w= .ok (!c.den ρ) w:=by
   intro d;simp only [SV.val];cases c.den ρ with
   | true=>simp only [if_true,hx];exact XF hu d
   | false=>simp only [Bool.false_eq_true,if_false];exact XE hu d
  have Ao:binOp .eql ti.t ((SV.Ga c v).val ρ) .nilIface=(do pure (.bool (←Op.equal ti.t ((SV.Ga c v).val ρ) .nilIface)):Sem Value):=by
   simp only [SV.val];cases c.den ρ with
   | true=>simp only [if_true,hx];rfl
   | false=>rfl
  have DS:binOp .neq ti.t ((SV.Ga c v).val ρ) .nilIface=(do pure (.bool (!(←Op.equal ti.t ((SV.Ga c v).val ρ) .nilIface))):Sem Value):=by
   simp only [SV.val];cases c.den ρ with
   | true=>simp only [if_true,hx];rfl
   | false=>rfl
  split at h
  ·cases h;refine⟨rfl,aR (g1 _) ?_,rfl⟩;rw [dj Ao hv];simp [SV.val,dE]
  ·cases h;refine⟨rfl,aR (g1 _) ?_,rfl⟩;rw [dp DS hv];simp [SV.val]
  ·cases h
 ·cases h
theorem pT(w:World)(e:TypeId)(s:ByteArray):ic w (Lib.bytesWorld w e s):=by
 unfold Lib.bytesWorld World.freeze;rw [if_neg (by decide)];exact⟨rfl,rfl,rfl,by simp⟩
theorem su(w:World)(e:TypeId)(s:ByteArray):w.heap.size<(Lib.bytesWorld w e s).heap.size:=by rw [Lib.bytesWorld_size];omega
theorem wo(w:World)(e:TypeId)(s:E):
  World.views (Lib.bytesWorld w e ⟨(dc (s.den ρ)).toArray⟩) (.slice (some ⟨w.heap.size,0,none⟩) (s.den ρ 0).toNat (grownCap w (s.den ρ 0).toNat 0 e)) ((kX s).den ρ 0).toNat
   (aF ρ ((kX s).den ρ 0).toNat [⟨.int .u8,1,Jw s⟩]):=by
 refine⟨_,_,_,rfl,by rw [gX],grownCap_ge ..,fun h=>(nomatch h),fun ad had=>⟨fun _=>?_,fun j u hu=>?_⟩⟩
 ·cases had;rfl
 ·cases had;rw [dT,bt,gX]at hu;split at hu
  ·rename_i hj;have:=Lib.bytesWorld_cell w e ⟨(dc (s.den ρ)).toArray⟩ j (by simpa [ByteArray.size,cS] using hj);rw [fw,Nat.zero_add];cases hu;rw [this,Dz];congr 2;simp [List.getD,kG _ hj,Jp]
  ·cases hu
theorem AR(hT:bx P T=true){src dst:TypeId}{ts ti:TI}(tn:aP T src=some ts)(hk:ts.k= .str)(cO:aP T dst=some ti){v:SV}{res:gY}(h:bytesOf T nv ti.k v=some res)(bY: ∀b∈res.vcs,b.prop ρ):
  Did P ρ w hp S nb nv ((do pure (.value (←convert src dst (v.val ρ))):Sem Next).run P w) res:=by
 obtain⟨rfl,IY⟩:=aA hT tn;obtain⟨rfl,Jf⟩:=aA hT cO;have df:=IY.kind;rw [hk]at df;have hu1:P.underlying ts.t=some .string:=by
  unfold iV at df;split at df<;>simp_all
 unfold bytesOf at h;split at h
 ·rename_i e he;split at h
  ·rename_i te s iJ hs;split at h
   ·rename_i hc;obtain⟨XG,kx⟩:=hc;cases h;obtain⟨rfl,Rb⟩:=aA hT iJ;have k2:=Jf.kind;rw [he]at k2;have hu2:=bH k2;have k3:=Rb.kind;rw [XG]at k3;have hu3:=j7 k3;have q0:=of_decide_eq_true (iA ρ _ _▸(BE.bK ρ _).2 (oT bY _ (aqx.2 rfl)));simp only [cR,gX]at q0;have hv:=sD ρ hs;have ik:=Lib.run_convert_string_bytes (P:=P) w ts.t ti.t te.t ⟨(dc (s.den ρ)).toArray⟩ hu1 hu2 hu3;have fy:(⟨(dc (s.den ρ)).toArray⟩:ByteArray).size=(s.den ρ 0).toNat:=by simp [ByteArray.size,cS]
    rw [fy]at ik;refine⟨te.t,1,kX s,[⟨.int .u8,1,Jw s⟩],.slice (some ⟨w.heap.size,0,none⟩) (s.den ρ 0).toNat (grownCap w (s.den ρ 0).toNat 0 te.t),Lib.bytesWorld w te.t ⟨(dc (s.den ρ)).toArray⟩,fun k=>k=w.heap.size∧0<(s.den ρ 0).toNat,rfl,rfl,by rw [hv,aqA,ik];rfl,rfl,?_,?_,?_,?_⟩
    ·exact pT w te.t _
    ·exact fun k hk=>Lib.bytesWorld_at_old w te.t _ k hk
    ·refine⟨?_,fun k=>?_⟩
     ·simp only [Bool.false_eq_true,if_false];exact⟨by rw [dS];simp [bW],wo w te.t s⟩
     ·simp [Value.ownBlock,gX,eq_comm]
    ·intro k hk;refine⟨by omega,?_⟩;rw [hk.1];exact su w te.t _
   ·cases h
  ·cases h
 ·cases h
theorem Ab(hT:bx P T=true){src dst:TypeId}{ts ti:TI}(tn:aP T src=some ts)(hk:ts.k= .str)(cO:aP T dst=some ti){l:List UInt8}{res:gY}(h:zN T nv ti.k l=some res):
  Did P ρ w hp S nb nv ((do pure (.value (←convert src dst ((SV.str l).val ρ))):Sem Next).run P w) res:=by
 obtain⟨rfl,IY⟩:=aA hT tn;obtain⟨rfl,Jf⟩:=aA hT cO;have df:=IY.kind;rw [hk]at df;have hu1:P.underlying ts.t=some .string:=by
  unfold iV at df;split at df<;>simp_all
 unfold zN at h;split at h
 ·rename_i e he;split at h
  ·rename_i te iJ;split at h
   ·rename_i hc;obtain⟨XG,kx,hl⟩:=hc;cases h;obtain⟨rfl,Rb⟩:=aA hT iJ;have k2:=Jf.kind;rw [he]at k2;have hu2:=bH k2;have k3:=Rb.kind;rw [XG]at k3;have hu3:=j7 k3;have ik:=Lib.run_convert_string_bytes (P:=P) w ts.t ti.t te.t ⟨l.toArray⟩ hu1 hu2 hu3;have fy:(⟨l.toArray⟩:ByteArray).size=l.length:=by simp [ByteArray.size]
    have lN:=grownCap_ge w l.length 0 te.t;have mC:(Lib.bytesCells w te.t ⟨l.toArray⟩).toList=(l.map fun b=>Value.int .u8 b.toNat)++List.replicate (grownCap w l.length 0 te.t - l.length) (.int .u8 0):=by
     simp [Lib.bytesCells,fy]
    rw [fy]at ik;have hn:(E.den ρ (.lit (l.length:Int)) 0).toNat=l.length:=by simp [E.den]
    refine⟨te.t,1,.lit l.length,[⟨.int .u8,1,.pV (l.map fun b=>(b.toNat:Int))⟩],.slice (some ⟨w.heap.size,0,none⟩) l.length (grownCap w l.length 0 te.t),Lib.bytesWorld w te.t ⟨l.toArray⟩,fun k=>k=w.heap.size,rfl,rfl,by rw [SV.val,aqA,ik];rfl,rfl,?_,?_,⟨?_,fun k=>?_⟩,?_⟩
    ·exact pT w te.t _
    ·exact fun k hk=>Lib.bytesWorld_at_old w te.t _ k hk
    ·simp only [if_true];rw [hn,dT];refine⟨by rw [aD,Nat.mul_one],.inr ⟨w.heap.size,0,_,Lib.bytesCells w te.t ⟨l.toArray⟩,rfl,⟨te.t,_,Lib.bytesWorld_at_new w te.t _,.inr (Nat.le_refl _)⟩,lN,grownCap_le_maxLen w l.length 0 te.t (by unfold maxLen;omega),fun _=>?_,?_⟩⟩
     ·rw [←Array.length_toList,mC];simp;omega
     ·rw [List.drop_zero,mC,Nat.mul_one];apply List.ext_getElem?;intro j;rw [bt,List.getElem?_take];split
      ·rename_i hj;rw [aqs (by simpa using hj),List.getElem?_map,List.getElem?_eq_getElem hj];simp [E.den,List.getD,hj]
      ·rfl
    ·simp [Value.ownBlock,eq_comm]
    ·intro k hk;exact⟨by omega,by rw [hk];exact su w te.t _⟩
   ·cases h
  ·cases h
 ·cases h
theorem Ls(a:Addr)(k:Nat)(h:a.spot=none):(a.add k).spot=none:=by
 unfold Addr.add;split<;>simp_all
theorem vB{md:Bool}{t s n:Nat}{v:Value}{cs:List Value}{S:Nat→Prop}(h:(aB md t s v n cs).p w S):World.views w v n cs∧cs.length=n*s:=by
 obtain⟨h0,_⟩:=h;cases md with
 | true=>
  simp only [if_true]at h0;have Mw:=h0;obtain⟨hl,hr⟩:=h0;refine⟨?_,hl⟩;rcases hr with⟨rfl,rfl⟩ | ⟨g,o,cap,cur,rfl,hg,Dc,_⟩
  ·exact⟨none,0,0,rfl,rfl,Nat.le_refl _,fun _=>rfl,by simp⟩
  ·refine⟨_,n,cap,rfl,rfl,Dc,by simp,?_⟩;rintro _ ⟨⟩;exact⟨fun _=>rfl,fun j u hu=>jZ Mw j u hu⟩
 | false=>
  simp only [Bool.false_eq_true,if_false]at h0;exact⟨h0.2,h0.1⟩
theorem wq(ad:Addr)(l:List Value)(n:Nat)(hn:l.length=n)(h: ∀(j:Nat) v,l[j]? =some v→w.cell? (ad.add j)=some v):(loadCells ad n).run P w= .ok l.toArray w:=by
 subst hn;exact run_loadCells_list (P:=P) w ad l h
theorem jv{src dst e:TypeId}(hs:P.underlying src=some (.slice e))(he:P.underlying e=some (.int .u8))(hd:P.underlying dst=some .string){a:Option Addr}{m c:Nat}{f:Nat→Int}(h0:a=none→m=0)(hc: ∀ad,a=some ad→∀(j:Nat) u,(aj .u8 m f)[j]? =some u→w.cell? (ad.add j)=some u):
  (convert src dst (.slice a m c)).run P w= .ok (.string ⟨((List.range m).map fun j=>UInt8.ofNat (f j).toNat).toArray⟩) w:=by
 rw [run_convert_bytes_string w src dst e a m c hs he hd];cases a with
 | none=>
  have:=h0 rfl;subst this;simp [Conv.bytesToString,aqH];rfl
 | some ad=>
  have hl:(loadCells ad m).run P w= .ok (((List.range m).map f).map (Value.int .u8)).toArray w:=by
   rw [List.map_map];exact wq ad _ m (by simp) fun j u hu=>hc ad rfl j u hu
  rw [run_bytesToString w ad m c _ hl,foldl_push_bytes,List.map_map];simp [ByteArray.empty,ByteArray.emptyWithCapacity,Function.comp_def];rfl
theorem FE{t:TypeId}(h:iV (P.underlying t) .str=true):P.underlying t=some .string:=by
 unfold iV at h;split at h<;>simp_all
theorem nJ(a n:E):dc ((rG a n).den ρ)=(List.range (n.den ρ 0).toNat).map fun j=>UInt8.ofNat (a.den ρ j).toNat:=by
 unfold rG;split
 ·rename_i k hk;have hn:=bU (ρ:=ρ) hk;split
  ·rename_i l hl;have hl:=tj (ρ:=ρ) hl;subst hl;rw [hn,aqD];unfold dc;simp only [E.den,ah,aqD];refine List.map_congr_left fun j hj=>?_
   have hj:=aqE.1 hj;simp [hj]
  ·exact sE ρ a n
 ·exact sE ρ a n
theorem AS{src dst e:TypeId}(hs:P.underlying src=some (.slice e))(he:P.underlying e=some (.int .u8))(hd:P.underlying dst=some .string){v:SV}{res:gY}(h:CX hp v=some res)(cN:Reads hp ρ w S res.rd)(bY: ∀b∈res.vcs,b.prop ρ):
  Did P ρ w hp S nb nv ((do pure (.value (←convert src dst (v.val ρ))):Sem Next).run P w) res:=by
 unfold CX at h;split at h
 ·cases h;refine ej ?_;exact jv (P:=P) (w:=w) (a:=none) (m:=0) (c:=0) (f:=fun _=>0) hs he hd (fun _=>rfl) fun _ h=>nomatch h
 ·rename_i b i n m;split at h
  ·rename_i j b' wr cs i' n' hf hi hn;split at h
   ·rename_i xs Gg;split at h
    ·rename_i kl a JT;split at h
     ·rename_i JF;cases h;obtain⟨hj,dK⟩:=de hf;simp only [Ck.rK,beq_iff_eq]at dK;subst dK;have hS:=cN j (by simp) _ hj;obtain⟨h1,ty,fz,hg,_⟩:=hS;have hi:=bU (ρ:=ρ) hi;have hn:=bU (ρ:=ρ) hn;refine ej ?_;have Rc:=gJ (ρ:=ρ) JT;rw [JF,List.length_replicate,o4]at Rc;obtain⟨Gk,hle⟩:=eK (ρ:=ρ) Gg;rw [Gk]at Rc;rw [oz,nJ,cR,aqD];have e1:(SV.sl b i 1 n m).val ρ= .slice (some ⟨ρ.bv.getD b 0,i',none⟩) n' (m.den ρ 0).toNat:=by simp [SV.val,hi,hn]
      rw [e1];refine jv (P:=P) (w:=w) (f:=a.den ρ) hs he hd (fun h=>nomatch h) ?_;rintro _ ⟨⟩ j u hu;rw [←Rc,List.getElem?_take]at hu;split at hu
      ·rw [List.getElem?_drop]at hu;rw [fw];simp only [World.cell?,hg];simpa using hu
      ·cases hu
     ·cases h
    ·cases h
   ·cases h
  ·rename_i j b' wr m' a hf hi hn;cases h;obtain⟨hj,dK⟩:=de hf;simp only [Ck.rK,beq_iff_eq]at dK;subst dK;have hS:=cN j (by simp) _ hj;obtain⟨h1,ty,fz,hg,_⟩:=hS;have hi:=bU (ρ:=ρ) hi;have hle:=of_decide_eq_true (iA ρ _ _▸(BE.bK ρ _).2 (oT bY _ (aqx.2 rfl)));simp only [cR]at hle;refine ej ?_;rw [oz,nJ];have e1:(SV.sl b i 1 n m).val ρ= .slice (some ⟨ρ.bv.getD b 0,0,none⟩) (n.den ρ 0).toNat (m.den ρ 0).toNat:=by simp [SV.val,hi]
   rw [e1];refine jv (P:=P) (w:=w) (f:=a.den ρ) hs he hd (fun h=>nomatch h) ?_;rintro _ ⟨⟩ j u hu;obtain⟨cq,_⟩:=aqo.1 hu;rw [aD]at cq;rw [fw];simp only [World.cell?,hg];rw [←hu,bt,if_pos cq];have ec:SV.ao ρ [SV.cQ .u8 m' a]=aj .u8 m' (a.den ρ):=by simp [SV.ao,SV.cells]
   rw [ec,Nat.zero_add,List.getElem?_toArray,bt,if_pos (show j<m' by omega)];rfl
  ·cases h
 ·rename_i v;split at h
  ·rename_i j md v' t n a hf;cases h;obtain⟨hj,dK⟩:=cK hf;simp only [Ck.lP,beq_iff_eq]at dK;subst dK;have hS:=cN j (by simp) _ hj;have hv:=(vB hS).1;rw [dT]at hv;obtain⟨a',m',c',e1,e2,_,h0,hc⟩:=hv;refine ej ?_;rw [oz,nJ];rw [show(SV.vv v).val ρ= .slice a' m' c' from e1,←e2];exact jv (P:=P) (w:=w) hs he hd (fun h=>e2.trans (h0 h)) fun ad had j u hu=>(hc ad had).2 j u (by rw [←e2];exact hu)
  ·cases h
 ·rename_i v cs s;split at h
  ·rename_i r hr;split at h
   ·rename_i a w6;split at h
    ·rename_i fZ;obtain⟨kx,hw⟩:=fZ;cases h;simp only at bY cN;obtain⟨v1,v2⟩:=bw bY;have v2:=aZ v2;simp only [E.den]at v2;have ah8:=DV hr cN v1 v2 hw w6;obtain⟨_,_,a',c',e1,h0,hc⟩:=ah8;rw [dT]at hc;refine ej ?_;rw [oz,nJ,e1];exact jv (P:=P) (w:=w) hs he hd h0 fun ad had j u hu=>hc ad had j u hu
    ·cases h
   ·cases h
  ·cases h
 ·cases h
theorem kg(hT:bx P T=true){src dst:TypeId}{ti:TI}(cO:aP T dst=some ti)(hk:ti.k= .str){v:SV}{res:gY}(h:oS T hp src v=some res)(cN:Reads hp ρ w S res.rd)(bY: ∀b∈res.vcs,b.prop ρ):
  Did P ρ w hp S nb nv ((do pure (.value (←convert src dst (v.val ρ))):Sem Next).run P w) res:=by
 unfold oS at h;split at h
 ·rename_i ts tn;split at h
  ·rename_i e he;split at h
   ·rename_i te iJ;split at h
    ·rename_i XG;obtain⟨rfl,IY⟩:=aA hT tn;obtain⟨rfl,Jf⟩:=aA hT cO;obtain⟨rfl,hi3⟩:=aA hT iJ;have k1:=IY.kind;rw [he]at k1;have k2:=Jf.kind;rw [hk]at k2;have k3:=hi3.kind;rw [XG]at k3;exact AS (bH k1) (j7 k3) (FE k2) h cN bY
    ·cases h
   ·cases h
  ·cases h
 ·cases h
theorem xL(hT:bx P T=true)(jf:ρ.Ok){t t':TypeId}{tt:TI}(fQ:aP T t=some tt){v u:SV}{res:gY}(h:vW T hp nv tt t t' v u=some res)
  (cN:Reads hp ρ w S res.rd) (bY: ∀b∈res.vcs,b.prop ρ) (ty:TypeId):
  Did P ρ w hp S nb nv ((do pure (.value (←aqJ #[t,t'] ty #[v.val ρ,u.val ρ])):Sem Next).run P w) res:=by
 unfold vW at h;split at h
 ·rename_i heq;subst heq;split at h
  ·rename_i r hr;cases h;exact xK (P:=P) (w:=w) (nb:=nb) hT jf fQ hr cN bY ty
  ·split at h
   ·rename_i r hr;cases h;exact wg hT fQ hr cN bY ty
   ·split at h
    ·rename_i r hr;cases h;exact xA hT fQ hr cN bY ty
    ·exact xB hT fQ h cN ty
 ·split at h
  ·rename_i ti kk m cO;split at h
   ·rename_i kt hkt;exact AF hT fQ cO hkt h cN bY kk ty
   ·cases h
  ·cases h
theorem qA(hT:bx P T=true)(jf:ρ.Ok)(sM:tL ρ look bD){o:Oper}{res:gY}(h:dR T look hp nb nv o=some res)
  (cN:Reads hp ρ w S res.rd) (bY: ∀b∈res.vcs,b.prop ρ) (BZ:ρ.bv.length=nb):Did P ρ w hp S nb nv ((execOp bD o).run P w) res:=by
 obtain⟨dst,op,ty,pos,aft,gd⟩:=o;have ev: ∀{x v},jA look x=some v→bD x=v.val ρ:=fun h=>ep sM h
 cases op with
 | move x=>
  simp only [dR,aqq]at h;obtain⟨v,hv,rfl⟩:=h;exact cf (by simp [execOp,ev hv])
 | assign x=>
  simp only [dR,aqq]at h;obtain⟨v,hv,rfl⟩:=h;exact cf (by simp [execOp,ev hv])
 | pick c a b=>
  simp only [dR]at h;split at h
  ·rename_i c' a' b' hc ha hb;rw [aqq]at h;obtain⟨v,hv,rfl⟩:=h;refine cf ?_;rw [HT hv];simp [execOp,ev hc,ev ha,ev hb,SV.val,asBool]
  ·cases h
 | alloc t=>
  simp only [dR,Option.bind_eq_some_iff]at h;obtain⟨ti,cO,h⟩:=h;split at h
  ·split at h
   ·rename_i hz;cases h;exact JL hT BZ cO _ (cb hz)
   ·cases h
  ·cases h;exact DN hT BZ cO
 | box t x=>
  simp only [dR]at h;split at h
  ·rename_i v hv;rw [aqq]at h;obtain⟨cs,mC,rfl⟩:=h;have:=JM (P:=P) (w:=w) (hp:=hp) (S:=S) (nv:=nv) jf BZ (t:=t) mC;simp only [execOp,ev hv];exact this
  ·cases h
 | build t parts=>
  simp only [dR]at h;split at h
  ·rename_i ti ps cO J8;have hm:fP ρ ps (parts.map fun x=>(x.1,bD x.2)).toList:=by
    rw [Array.toList_map];exact o7 sM jf _ _ J8
   split at h
   ·rename_i fs hk;split at h
    ·rename_i oH;rw [aqq]at h;obtain⟨cs,mC,rfl⟩:=h;have:=sJ (w:=w) hT cO hk oH hm mC;exact ej this
    ·cases h
   ·rename_i n e hk;split at h
    ·rename_i te iJ;rw [aqq]at h;obtain⟨cs,mC,rfl⟩:=h;have:=xu (w:=w) hT cO hk iJ hm mC;exact ej this
    ·cases h
   ·cases h
  ·cases h
 | buildSlice t len parts=>
  simp only [dR]at h;split at h
  ·rename_i ti ps cO J8;have hm:fP ρ ps (parts.map fun x=>(x.1,bD x.2)).toList:=by
    rw [Array.toList_map];exact o7 sM jf _ _ J8
   split at h
   ·rename_i e hk;split at h
    ·rename_i te iJ;split at h
     ·rename_i An;split at h
      ·rename_i F5;rw [aqq]at h;obtain⟨zc,yJ,rfl⟩:=h;have XH:(parts.map fun x=>(x.1,bD x.2))= #[]:=by
        have:ps=[]:=by simpa using F5
        subst this;apply aqU;generalize (parts.map fun x=>(x.1,bD x.2)).toList=l at hm;cases hm;rfl
       have:=zX (P:=P) (w:=w) (hp:=hp) (S:=S) (nb:=nb) (nv:=nv) (ρ:=ρ) hT cO hk iJ yJ;simp only [execOp,An,XH];exact this
      ·cases h
     ·split at h
      ·cases h
      ·rename_i An hlen;rw [aqq]at h;obtain⟨cs,mC,rfl⟩:=h;exact vg hT BZ cO hk iJ (by rintro (h | h | h);exact An h;exact hlen (.inl h);exact hlen (.inr h)) hm mC
    ·cases h
   ·cases h
  ·cases h
 | load t x=>
  simp only [dR]at h;split at h
  ·rename_i ti a cO ha;obtain⟨rfl,hi⟩:=aA hT cO;obtain⟨h1,h2⟩:=rZ hi h cN bY;obtain⟨rv,P3,Tj,re⟩:=res;simp only at h2;subst h2;refine cf ?_;simp only [execOp,ev ha,aqA,h1,aqu,aqH]
  ·cases h
 | store t x y=>
  simp only [dR]at h;split at h
  ·rename_i ti a v cO ha hv;obtain⟨rfl,hi⟩:=aA hT cO;obtain⟨h1,j,ck,h2,w',h3,h4⟩:=yD hi h jf cN bY;unfold Did;rw [h2];refine⟨w',.inr ⟨h1,?_⟩,h4⟩;simp only [execOp,ev ha,ev hv,aqA,h3,aqu,aqH]
  ·cases h
 | nilCheck x=>
  simp only [dR]at h;split at h
  ·rename_i b c hx;cases h;exact cf (by simp [execOp,ev hx,SV.val])
  ·rename_i b c hx;cases h;exact cf (by simp [execOp,ev hx,SV.val])
  ·rename_i e hx;cases h;have hz:=bY (Q0 e) (by simp);have fg:e.den ρ 0≠0:=by
    rw [←BE.bK,xM]at hz;simpa using hz
   exact cf (by simp [execOp,ev hx,SV.val,cA,fg])
  ·rename_i v i s c hx;split at h
   ·rename_i j md v' t s' n ay hf;cases h;obtain⟨hj,dK⟩:=cK hf;simp only [Ck.lP,beq_iff_eq]at dK;subst dK;have hS:=cN j (by simp) _ hj;obtain⟨h0,h1⟩:=du ρ bY;obtain⟨a,cp,he⟩:=mH hS (by omega);have e2:(SV.pv v i s c).val ρ= .pointer (some (a.add ((i.den ρ 0).toNat*s+c))):=by rw [SV.val,he];rfl
    refine cf ?_;simp only [execOp,ev hx,e2,aqH]
   ·cases h
  ·rename_i f cs hx;cases h;exact cf (by simp [execOp,ev hx,SV.val])
  ·cases h
 | binOp op t x y yt=>
  simp only [dR]at h;split at h
  ·rename_i ti a b cO ha hb;obtain⟨rfl,hi⟩:=aA hT cO;split at h
   ·rename_i r hr;cases h;have hr2:=C7 (P:=P) (w:=w) (ρ:=ρ) hi (xo:=x) hr;obtain⟨e1,h1,h2⟩:=hr2;subst e1;obtain⟨rv,P3,Tj,re⟩:=res;simp only at h2;subst h2;refine cf ?_;have hy:bD (.const .nilIface)= .nilIface:=by
     have:jA look (.const .nilIface)=some .ov:=rfl;exact ev this
    simp only [execOp,ev ha,hy];rw [aqA,h1];rfl
   split at h
   ·rename_i r hr;cases h;obtain⟨h1,h2⟩:=C6 (P:=P) (w:=w) (ρ:=ρ) hi (xo:=x) (yo:=y) cN hr;obtain⟨rv,P3,Tj,re⟩:=res;simp only at h2;subst h2;refine cf ?_;simp only [execOp,ev ha,ev hb];rw [aqA,h1];rfl
   obtain⟨h1,h2⟩:=JK hi (w:=w) (xo:=x) (yo:=y) h bY;obtain⟨rv,P3,Tj,re⟩:=res;simp only at h2;subst h2;refine cf ?_;simp only [execOp,ev ha,ev hb];rw [aqA,h1];rfl
  ·cases h
 | unOp op t x=>
  simp only [dR]at h;split at h
  ·rename_i b hb;cases h;refine cf ?_;simp [execOp,ev hb,SV.val,Op.unary,dE]
  ·rename_i k a ha;cases h;refine cf ?_;simp only [SV.val,kY,E.den];cases k<;>simp [execOp,ev ha,SV.val,Op.unary,Op.intBits,IntKind.signed,IntKind.max,uL,IntKind.hi,ar,Mj,IntKind.bits]
  ·rename_i k a ha;simp only [aqp]at h;subst h;refine cf ?_;simp only [SV.val,yF bY,eZ,E.den];simp [execOp,ev ha,SV.val,Op.unary,Op.intArith]
  ·cases h
 | convert src dst x=>
  simp only [dR]at h;split at h
  ·rename_i Uu Tk k' a h1 h2 ha;split at h
   ·rename_i k hk;cases h;obtain⟨rfl,IY⟩:=aA hT h1;obtain⟨rfl,Jf⟩:=aA hT h2;have df:=Jf.kind;rw [hk]at df;have hu:=j7 df;have hu1:(P.underlying Uu.t).isSome=true:=by
     have:=IY.kind;unfold iV at this;split at this<;>simp_all
    have hik:P.intKind Tk.t=k:=by simp [Program.intKind,hu]
    refine ej ?_;rw [ev ha,SV.val,run_convert_int w Uu.t Tk.t k' _ hu1 (by rw [hik];exact hu),hik,SV.val,JH bY]
   ·cases h
  ·rename_i Uu Tk l h1 h2 ha;split at h
   ·rename_i hk;have:=Ab (P:=P) (w:=w) (hp:=hp) (S:=S) (nb:=nb) (ρ:=ρ) hT h1 hk h2 h;simp only [execOp,ev ha];exact this
   ·cases h
  ·rename_i Uu Tk l h1 h2 ha;split at h
   ·rename_i hk;have:=AR (P:=P) (w:=w) (hp:=hp) (S:=S) (nb:=nb) (ρ:=ρ) hT h1 hk h2 h bY;simp only [execOp,ev ha];exact this
   ·cases h
  ·rename_i Uu Tk b i s n m h1 h2 ha;split at h
   ·rename_i e hk;split at h
    ·rename_i te j b' cs iJ hf;split at h
     ·rename_i hc;obtain⟨rfl,XG⟩:=hc;cases h;obtain⟨e2,Jf⟩:=aA hT h2;subst e2;obtain⟨rfl,Rb⟩:=aA hT iJ;have df:=Jf.kind;rw [hk]at df;have hu:=bH df;have CP:=Rb.kind;rw [XG]at CP;have hue:=j7 CP;obtain⟨hj,dK⟩:=de hf;simp only [Ck.rK,beq_iff_eq]at dK;subst dK;have hS:=cN j (by simp) _ hj;obtain⟨w',r1,r2,r3,r4,r5⟩:=wm (P:=P) hS Tk.t te.t hu hue ((i.den ρ 0).toNat*s) (n.den ρ 0).toNat (m.den ρ 0).toNat;refine⟨w',.inl ?_,⟨⟨_,hj,rfl⟩,rfl,r2,r3,fun k hk=>r4 k fun e=>hk ((hS.1 k).2 e),r5⟩⟩;simp only [execOp,ev ha,SV.val,aqA,r1,aqu,aqH]
     ·cases h
    ·cases h
   ·rename_i hk;have:=kg (P:=P) (w:=w) (ρ:=ρ) (nb:=nb) (nv:=nv) hT h2 hk h cN bY;simp only [execOp,ev ha];exact this
   ·cases h
  ·rename_i Uu Tk v h1 h2 ha;split at h
   ·rename_i hk;have:=kg (P:=P) (w:=w) (ρ:=ρ) (nb:=nb) (nv:=nv) hT h2 hk h cN bY;simp only [execOp,ev ha];exact this
   ·cases h
  ·rename_i Uu Tk v cs s h1 h2 ha;split at h
   ·rename_i hk;have:=kg (P:=P) (w:=w) (ρ:=ρ) (nb:=nb) (nv:=nv) hT h2 hk h cN bY;simp only [execOp,ev ha];exact this
   ·cases h
  ·rename_i Uu Tk h1 h2 ha;split at h
   ·rename_i hk;have:=kg (P:=P) (w:=w) (ρ:=ρ) (nb:=nb) (nv:=nv) hT h2 hk h cN bY;simp only [execOp,ev ha];exact this
   ·cases h
  ·cases h
 | makeInterface t x=>
  simp only [dR]at h;split at h
  ·rename_i ti k e cO hx;split at h
   ·rename_i hk;cases h;obtain⟨rfl,hi⟩:=aA hT cO;have df:=hi.kind;rw [hk]at df;have hu:=j7 df;refine cf ?_;have hc:P.concrete ti.t=true:=by simp [Go.Program.concrete,hu]
    simp only [execOp,ev hx,aqA,run_makeInterface w ti.t _ hc,aqu,aqH,SV.val]
   ·cases h
  ·rename_i ti b c cO hx;split at h
   ·rename_i e hk;cases h;obtain⟨rfl,hi⟩:=aA hT cO;have df:=hi.kind;rw [hk]at df;have hu:=e9 df;refine cf ?_;have hc:P.concrete ti.t=true:=by simp [Go.Program.concrete,hu]
    simp only [execOp,ev hx,aqA,run_makeInterface w ti.t _ hc,aqu,aqH,SV.val]
   ·cases h
  ·cases h
 | sliceToArrayPointer arr x=>
  simp only [dR]at h;split at h
  ·rename_i ta v hta hv;split at h
   ·rename_i n e hk;split at h
    ·rename_i te iJ;split at h
     ·cases h
     ·rename_i Bx;obtain⟨rfl,IY⟩:=aA hT hta;have df:=IY.kind;rw [hk]at df;have hu:=oJ df;split at h
      ·rename_i b i s m c;cases h;have q:=aZ bY;simp only [E.den]at q;refine cf ?_;simp only [execOp,ev hv,SV.val,vi];have: ¬(m.den ρ 0).toNat<n:=by omega
       simp [Instr.arrayAt,run_underlying hu,this]
      ·split at h
       ·rename_i v _ r hr;cases h;simp only at bY cN;obtain⟨q1,q2⟩:=bw bY;have q:=aZ q2;simp only [E.den]at q;obtain⟨hj,eJ⟩:=fE hr cN q1;have JS:=eJ.lo;have Yo:=eJ.hi;obtain⟨a,cp,k,e1,e2,e3,e4⟩:=eJ.is;have cq:(r.p.lo.den ρ 0).toNat<(Option.map ag (Option.map (fun m=>m.den ρ 0) r.p.mx)).getD cp:=by
         cases hm:r.p.mx with
         | none=>simp only [Option.map_none,Option.getD_none];omega
         | some m=>
          have:=(eJ.top (m.den ρ 0) (by rw [hm];rfl)).1;simp only [Option.map_some,Option.getD_some];omega
        have kv:=e4 (.inl cq);have hS:=cN r.j (by simp) _ hj;refine cf ?_;simp only [execOp,ev hv,SV.val];rw [e3];have: ¬(r.p.len.den ρ 0).toNat<n:=by omega
        have abX: ∃ad,a=some ad:=by
         obtain⟨ad,c2,hh⟩:=mH hS (by omega);rw [hh]at e1;simp only [Value.slice.injEq]at e1;exact⟨ad,e1.1.symm⟩
        obtain⟨ad,rfl⟩:=abX;rw [e1];simp [Instr.arrayAt,run_underlying hu,this,ft,kv]
       ·cases h
    ·cases h
   ·cases h
  ·cases h
 | fieldAddr s x f=>
  simp only [dR]at h;split at h
  ·rename_i ts a tn ha;split at h
   ·rename_i fs hk;split at h
    ·rename_i t off hf;split at h
     ·rename_i ti cO;split at h
      ·cases h
      ·rename_i fy;have ik:=fun ad=>tO (w:=w) hT tn hk hf cO fy ad
       split at h
       ·cases h;refine ej ?_;rw [ev ha,SV.val,ik,fx,SV.val]
       ·cases h;refine ej ?_;rw [ev ha,SV.val,ik,fx,SV.val,Nat.add_assoc]
       ·rename_i v i s' c;split at h
        ·rename_i j md v' t' s2 n ay cY;cases h;obtain⟨hj,dK⟩:=cK cY;simp only [Ck.lP,beq_iff_eq]at dK;subst dK;have hS:=cN j (by simp) _ hj;obtain⟨h0,h1⟩:=du ρ bY;obtain⟨ad,cp,he⟩:=mH hS (by omega);refine ej ?_;rw [ev ha,SV.val,he,ft,ik,dv,SV.val,he,ft,Nat.add_assoc]
        ·cases h
       ·cases h
     ·cases h
    ·cases h
   ·cases h
  ·cases h
 | field s x f=>
  simp only [dR]at h;split at h
  ·rename_i ts cs tn ha;split at h
   ·rename_i fs hk;split at h
    ·rename_i t off hf;split at h
     ·rename_i ti cO;split at h
      ·rename_i xs Gg;rw [aqq]at h;obtain⟨v,hv,rfl⟩:=h;refine ej ?_;rw [ev ha,SV.val];exact xw hT tn hk hf cO Gg hv
      ·cases h
     ·cases h
    ·cases h
   ·cases h
  ·cases h
 | indexAddr t x y=>
  simp only [dR]at h;split at h
  ·rename_i tt a k j fQ ha hy;split at h
   ·rename_i e hk;split at h
    ·rename_i te iJ;split at h
     ·rename_i b i s n m;split at h
      ·rename_i fy;cases h;have LF:0≤i.den ρ 0:=fD fun c hc=>bY c (List.mem_append_left _ hc)
       obtain⟨h0,h1⟩:=du ρ (i:=j) (n:=n) fun c hc=>bY c (List.mem_append_right _ hc)
       refine ej ?_;rw [ev ha,ev hy,SV.val,SV.val,qy hT fQ hk iJ _ _ _ _ _ h0 (by omega),fx,vi,bB,fy,Int.toNat_add LF h0,Nat.add_mul,Nat.add_zero]
      ·cases h
     ·split at h
      ·rename_i r hr;split at h
       ·rename_i fy;cases h;simp only at bY cN;obtain⟨w1,w2⟩:=bw bY;obtain⟨hj,eJ⟩:=fE hr cN w1;obtain⟨h0,h1⟩:=du ρ w2;obtain⟨b1,b2,b3,ad,c,q,hv,hc,hx,hq⟩:=eJ;have JR:(r.p.lo.den ρ 0).toNat<((r.p.mx.map fun m=>m.den ρ 0).map ag).getD c:=by
         cases Y7:(r.p.mx.map fun m=>m.den ρ 0)with
         | none=>simp only [Option.map_none,Option.getD_none];omega
         | some m=>have:=b3 m Y7;simp only [Option.map_some,Option.getD_some];omega
        have hq:=hq (.inl JR);have fg: ∃ZB,ad=some ZB:=by
         cases ad with
         | some ZB=>exact⟨ZB,rfl⟩
         | none=>
          obtain⟨a',cp',he⟩:=mH (cN r.j (by simp) _ hj) (by omega);rw [hv]at he;cases he
        obtain⟨ad,rfl⟩:=fg;refine ej ?_;have e3:(SV.int k j).val ρ= .int k (j.den ρ 0):=rfl;have e2:(SV.pv r.v (dB r.p.lo j) r.s 0).val ρ= .pointer (some (ad.add ((r.p.lo.den ρ 0+j.den ρ 0).toNat*r.s+0))):=by rw [SV.val,hv,bB];rfl
        rw [ev ha,ev hy,hx,e2,e3,Option.map_some,qy hT fQ hk iJ _ _ _ _ _ h0 (by omega),fy,Nat.add_zero,dv,hq,←Nat.add_mul,←Int.toNat_add b1 h0]
       ·cases h
      ·cases h
    ·cases h
   ·rename_i n e hk;split at h
    ·rename_i te iJ;split at h
     ·rename_i b c;cases h;obtain⟨h0,h1⟩:=du ρ bY;refine ej ?_;rw [ev ha,ev hy,SV.val,SV.val,yL hT fQ hk iJ _ _ _ h0 h1,fx,vi,Nat.add_comm]
     ·cases h
    ·cases h
   ·cases h
  ·cases h
 | index t x y=>
  simp only [dR]at h;split at h
  ·rename_i tt cs k j fQ ha hy;split at h
   ·rename_i n e hk;split at h
    ·rename_i te iJ;have hi:=(aA hT iJ).2;split at h
     ·rename_i l hl;split at h
      ·rename_i hln;split at h
       ·rename_i xs Gg;rw [aqq]at h;obtain⟨v,hv,rfl⟩:=h;refine ej ?_;have hd:=bU (ρ:=ρ) hl;rw [ev ha,ev hy,SV.val,SV.val];refine tP hT fQ hk iJ _ _ _ (by omega) (by omega) ?_;rw [hd,aqD];exact yK hi Gg hv
       ·cases h
      ·cases h
     ·split at h
      ·rename_i k' m a;split at h
       ·rename_i hc;obtain⟨rfl,kx,xq⟩:=hc;cases h;obtain⟨h0,h1⟩:=du ρ bY;refine ej ?_;rw [ev ha,ev hy,SV.val,SV.val];refine tP hT fQ hk iJ _ _ _ h0 h1 ?_;have cq:(j.den ρ 0).toNat<m:=by simp only [E.den]at h1;omega
        have wi:(SV.ao ρ [SV.cQ k' m a])[(j.den ρ 0).toNat]? =some (.int k' (a.den ρ (j.den ρ 0).toNat)):=by
         simp only [SV.ao,SV.cells,List.append_nil];rw [bt,if_pos cq]
        rw [kx,Nat.mul_one,cJ];simp [part,hi.isAgg w,xq,wi]
       ·cases h
      ·cases h
    ·cases h
   ·cases h
  ·rename_i tt v k j _ fQ hx hy;split at h
   ·rename_i hk;obtain⟨h1,h2⟩:=C5 (P:=P) (w:=w) (ρ:=ρ) (k:=k) hT fQ hk h bY;obtain⟨rv,P3,Tj,re⟩:=res;simp only at h2;subst h2;refine ej ?_;rw [ev hx,ev hy];exact h1
   ·cases h
  ·cases h
 | extract x i=>
  simp only [dR]at h;split at h
  ·rename_i vs hx;rw [aqq]at h;obtain⟨v,hv,rfl⟩:=h;refine cf ?_;have:(SV.bD ρ vs)[i]? =some (v.val ρ):=by
    have key: ∀(l:List SV) (i:Nat),(SV.bD ρ l)[i]? =(l[i]?).map (SV.val ρ):=by
     intro l
     induction l with
     | nil=>intro i;simp [SV.bD]
     | cons x r ih=>intro i;cases i<;>simp [SV.bD,ih]
    rw [key,hv];rfl
   simp [execOp,ev hx,SV.val,Instr.extract,this]
  ·cases h
 | makeFunc fn first iR=>
  simp only [dR]at h;split at h
  ·rename_i f HX;rw [aqq]at h;obtain⟨cs,mC,rfl⟩:=h;have:=gD sM _ _ mC;have hf:first= #[]:=aqU HX
   subst hf;refine cf ?_;simp only [execOp,aqA,Instr.makeFunc,aqH,aqu,SV.val];have e5:Array.map bD iR=(SV.bD ρ cs).toArray:=aqU (by rw [Array.toList_map,this]);rw [e5];simp
  ·rename_i f x r HX;split at h
   ·rename_i Bp;rw [aqq]at h;obtain⟨cs,mC,rfl⟩:=h;rw [←HX]at mC;have:=gD sM _ _ mC;have hf:iR= #[]:=by simpa using Bp
    subst hf;refine cf ?_;simp only [execOp,aqA,Instr.makeFunc,aqH,aqu,SV.val];have e5:Array.map bD first=(SV.bD ρ cs).toArray:=aqU (by rw [Array.toList_map,this])
    rw [e5];simp
   ·cases h
  ·cases h
 | call c=>
  obtain⟨callee,args,argTypes⟩:=c;simp only [dR]at h;split at h
  ·rename_i x t kB C8;have hf:args= #[x]:=aqU kB;have hg:argTypes= #[t]:=aqU C8;subst hf hg;split at h
   ·rename_i tt v fQ hv;obtain⟨h1,h2⟩:=Lr (P:=P) hT fQ h cN bY ty;obtain⟨rv,P3,Tj,re⟩:=res;simp only at h2;subst h2;refine cf ?_;simp only [execOp,resolve,invoke,builtin,aqA,aqH,aqu,aq0,aqP,List.map_nil,ev hv];rw [h1];rfl
   ·cases h
  ·rename_i x t kB C8;have hf:args= #[x]:=aqU kB;have hg:argTypes= #[t]:=aqU C8;subst hf hg;split at h
   ·rename_i tt fQ hv;split at h
    ·rename_i e hk;cases h;obtain⟨rfl,pg⟩:=aA hT fQ;have df:=pg.kind;rw [hk]at df;have hu:=bH df;refine cf ?_;have hc:(Builtin.cap_ #[tt.t] ty #[.slice none 0 0]).run P w= .ok (goInt 0) w:=by
      simp [Builtin.cap_,run_underlying hu]
     simp only [execOp,resolve,invoke,builtin,aqA,aqH,aqu,aq0,aqP,List.map_nil,ev hv,SV.val];rw [hc];rfl
    ·cases h
   ·cases h
  ·rename_i x y kB;have hf:args= #[x,y]:=aqU kB;subst hf;split at h
   ·rename_i k a k' b ha hb;cases h;refine cf ?_;simp only [execOp,resolve,invoke,builtin,aqA,aqH,aqu,aq0,aqP,List.map_nil,ev ha,ev hb,SV.val,kY];simp [Builtin.max_,Builtin.max2,ar]
   ·cases h
  ·rename_i x y kB;have hf:args= #[x,y]:=aqU kB;subst hf;split at h
   ·rename_i k a k' b ha hb;cases h;refine cf ?_;simp only [execOp,resolve,invoke,builtin,aqA,aqH,aqu,aq0,aqP,List.map_nil,ev ha,ev hb,SV.val,kY];simp [Builtin.min_,Builtin.min2,ar]
   ·cases h
  ·rename_i x y t t' kB C8;have hf:args= #[x,y]:=aqU kB;have hg:argTypes= #[t,t']:=aqU C8;subst hf hg;split at h
   ·rename_i tt v u fQ hv hu;have:=xL (P:=P) (w:=w) (nb:=nb) hT jf fQ h cN bY ty;simp only [execOp,resolve,invoke,builtin,aqA,aqH,aqu,aq0,aqP,List.map_nil,ev hv,ev hu];simp only [aqA,aqH]at this;exact this
   ·cases h
  ·rename_i x t kB C8;have hf:args= #[x]:=aqU kB;have hg:argTypes= #[t]:=aqU C8;subst hf hg;split at h
   ·rename_i tt v fQ hv;have:=zY (P:=P) (w:=w) (nb:=nb) (nv:=nv) hT fQ h cN bY ty;simp only [execOp,resolve,invoke,builtin,aqA,aqH,aqu,aq0,aqP,List.map_nil,ev hv];simp only [aqA,aqH]at this;exact this
   ·cases h
  ·rename_i x y t t' kB C8;have hf:args= #[x,y]:=aqU kB;have hg:argTypes= #[t,t']:=aqU C8;subst hf hg;split at h
   ·rename_i tt v u fQ hv hu;split at h
    ·rename_i heq;subst heq;have:=AQ (P:=P) (w:=w) (nb:=nb) (nv:=nv) hT fQ h cN bY ty;simp only [execOp,resolve,invoke,builtin,aqA,aqH,aqu,aq0,aqP,List.map_nil,ev hv,ev hu];simp only [aqA,aqH]at this;exact this
    ·cases h
   ·cases h
  ·cases h
 | slice t x lo hi mx=>
  simp only [dR]at h;split at h
  ·rename_i tt v l hh m fQ hv hl Yo hm;split at h
   ·rename_i hk;split at h
    ·cases h
    ·rename_i Y7;have xH:m=none:=by cases m<;>simp_all
     subst xH;obtain⟨h1,h2⟩:=Aa (P:=P) (w:=w) (ρ:=ρ) hT fQ hk h (jI sM hl) (jI sM Yo) bY;have ah9:mx.map bD=none:=by
      have:=jI sM hm;cases hq:mx.map bD with
      | none=>rfl
      | some v=>rw [hq]at this;exact this.elim
     obtain⟨rv,P3,Tj,re⟩:=res;simp only at h2;subst h2;refine ej ?_;rw [ev hv,ah9];exact h1
   obtain⟨h1,h2⟩:=yP (P:=P) (w:=w) hT fQ h (jI sM hl) (jI sM Yo) (jI sM hm) cN bY;obtain⟨rv,P3,Tj,re⟩:=res;simp only at h2;subst h2;refine ej ?_;rw [ev hv];exact h1
  ·cases h
 | makeMap t r=>
  cases r with
  | some r=>simp [dR]at h
  | none=>
   simp only [dR]at h;have:=wj (P:=P) (w:=w) (hp:=hp) (S:=S) (nv:=nv) (ρ:=ρ) hT BZ h;simp only [execOp,Option.map_none];exact this
 | lookup t x k comma=>
  simp only [dR]at h;split at h
  ·rename_i x' k' hx hk;obtain⟨h1,h2⟩:=xJ (P:=P) (w:=w) hT h cN;obtain⟨rv,P3,Tj,re⟩:=res;simp only at h2;subst h2;refine ej ?_;rw [ev hx,ev hk];exact h1
  ·cases h
 | mapUpdate t x k v=>
  simp only [dR]at h;split at h
  ·rename_i x' k' v' hx hk hv;obtain⟨h1,j,ck,h2,w',h3,h4⟩:=pR (P:=P) (w:=w) hT h cN;unfold Did;rw [h2];refine⟨w',.inr ⟨h1,?_⟩,h4⟩;simp only [execOp,ev hx,ev hk,ev hv,aqA,h3,aqu,aqH]
  ·cases h
 | mapEntry t x k=>
  simp only [dR]at h;split at h
  ·rename_i x' k' hx hk;obtain⟨j,ck,h2,w',h3,h4⟩:=z9 (P:=P) (w:=w) hT h cN bY;unfold Did;rw [h2];refine⟨w',.inl ?_,h4⟩;simp only [execOp,ev hx,ev hk,aqA,h3,aqu,aqH]
  ·cases h
 | entryStore t x s v=>
  simp only [dR]at h;split at h
  ·rename_i x' s' v' hx hs hv;obtain⟨h1,j,ck,h2,w',h3,h4⟩:=z_ (P:=P) (w:=w) t h cN bY;unfold Did;rw [h2];refine⟨w',.inr ⟨h1,?_⟩,h4⟩;simp only [execOp,ev hx,ev hs,ev hv,aqA,h3,aqu,aqH]
  ·cases h
 | insert t x k v=>
  simp only [dR]at h;split at h
  ·rename_i x' k' v' hx hk hv;obtain⟨h1,j,ck,h2,w',h3,h4⟩:=pR (P:=P) (w:=w) hT h cN;unfold Did;rw [h2];refine⟨w',.inr ⟨h1,?_⟩,h4⟩;simp only [execOp,ev hx,ev hk,ev hv,aqA,h3,aqu,aqH]
  ·cases h
 | makeSlice t n c=>
  simp only [dR]at h;split at h
  ·rename_i tt k n' k' c' fQ hn hc;have:=AP (P:=P) (w:=w) (hp:=hp) (S:=S) (nb:=nb) (ρ:=ρ) hT fQ h bY k k';have en:bD n= .int k (n'.den ρ 0):=ev hn;have ec:bD c= .int k' (c'.den ρ 0):=ev hc;simp only [execOp,en,ec];exact this
  ·cases h
 | range t x=>
  simp only [dR]at h;split at h
  ·rename_i ti l cO hx;split at h
   ·rename_i hk;cases h;obtain⟨rfl,hi⟩:=aA hT cO;have k1:=hi.kind;rw [hk]at k1;have hu:=FE k1;refine⟨w.alloc (.stringIter ⟨l.toArray⟩ 0),_,if_pos rfl,?_,⟨rfl,rfl,rfl,by simp⟩,by simp,fun k hk=>heap_alloc_old w _ hk,fun k=>Iff.rfl,heap_alloc_new w _⟩;subst BZ;have e1:bD x= .string ⟨l.toArray⟩:=ev hx;simp only [execOp,e1,aqA,run_range_string w _ _ hu,aqu,aqH,SV.val,aqN,jH];rfl
   ·cases h
  ·rename_i ti m cO hx;unfold rangeMap at h;split at h
   ·rename_i kt vt hk;split at h
    ·rename_i j b' mh xI yd zero has ay hf;cases h;obtain⟨hj,dK⟩:=eQ hf;simp only [Ck.isMap,beq_iff_eq]at dK;subst dK;obtain⟨rfl,hi⟩:=aA hT cO;have k1:=hi.kind;rw [hk]at k1;have hu:=qZ k1;obtain⟨_,⟨es,cl,hb,hc⟩,_⟩:=cN j (by simp) _ hj;refine⟨w.alloc (.mapIter (some (ρ.bv.getD m 0)) cl #[] cl),_,if_pos rfl,?_,⟨rfl,rfl,rfl,by simp⟩,by simp,fun k hk=>heap_alloc_old w _ hk,fun k=>Iff.rfl,cl,heap_alloc_new w _⟩;subst BZ;have e1:bD x= .map (some (ρ.bv.getD m 0)):=ev hx;have hrr:=run_range_map (P:=P) w _ _ _ (ρ.bv.getD m 0) es cl hu hb;simp only [execOp,e1,aqA,hrr,aqu,aqH,SV.val];simp only [aqN,jH]
    ·cases h
   ·cases h
  ·cases h
 | next x b=>
  cases b with
  | false=>
   simp only [dR,Option.bind_eq_some_iff]at h;obtain⟨v,hv,h⟩:=h;unfold I7 at h;split at h
   ·rename_i b;split at h
    ·rename_i j hj0;split at h
     ·rename_i b' m hj;split at h
      ·rename_i hbb;subst hbb;split at h
       ·rename_i i bm mh xI yd zero has ay hf;split at h
        ·rename_i h0;cases h;obtain⟨hi,dK⟩:=eQ hf;simp only [Ck.isMap,beq_iff_eq]at dK;subst dK;have e1:bD x= .pointer (some ⟨ρ.bv.getD b 0,0,none⟩):=ev hv;obtain⟨hS,c,hh⟩:=cN j (by simp) _ hj;obtain⟨_,⟨es,cl,hb,hc⟩,_⟩:=cN i (by simp) _ hi;have hz:=bU (ρ:=ρ) h0;rw [cJ]at hz;have xP:es= #[]:=by
          have:es.size=0:=by
           have e0:(E.den ρ (.lit 0) 0).toNat=0:=rfl;rw [e0]at hz;rw [hz]at hc;exact(Int.ofNat.inj hc).symm
          exact Array.eq_empty_of_size_eq_zero this
         have hn:=run_next_at (P:=P) w ty (ρ.bv.getD b 0) (ρ.bv.getD m 0) c c #[] es cl hh hb (by rw [xP];intro x hx;cases hx) (Nat.le_refl _);rcases hn with⟨_,hn⟩ | ⟨e,he,_⟩
         ·refine cf ?_;simp only [execOp,e1,aqA,hn,aqu,aqH,SV.val,SV.bD];rfl
         ·rw [xP]at he;simp [leftOf]at he
        ·cases h
       ·cases h
      ·cases h
     ·cases h
    ·cases h
   ·cases h
  | true=>
   simp only [dR,Option.bind_eq_some_iff]at h;obtain⟨v,hv,h⟩:=h;unfold I6 at h;split at h
   ·rename_i b;split at h
    ·rename_i j hj0;split at h
     ·rename_i b' l pos hj;split at h
      ·rename_i hbb;subst hbb;have e1:bD x= .pointer (some ⟨ρ.bv.getD b 0,0,none⟩):=ev hv;split at h
       ·rename_i c hc;split at h
        ·rename_i aia;cases h;obtain⟨hS,hh⟩:=cN j (by simp) _ hj;obtain⟨cq,wi⟩:=aqo.1 hc;have J8:pos<(⟨l.toArray⟩:ByteArray).size:=by simpa [ByteArray.size] using cq
         have hce:(⟨l.toArray⟩:ByteArray)[pos]'J8=c:=by
          show l.toArray[pos]'_=c;simpa using wi
         have hn:=Lib.run_next_ascii_at (P:=P) w (ρ.bv.getD b 0) ⟨l.toArray⟩ pos ty hh J8 (by rw [hce];exact aia);rw [hce]at hn;refine⟨w.iterAt (ρ.bv.getD b 0) ⟨l.toArray⟩ (pos+1),.inl ?_,⟨⟨_,hj,rfl⟩,rfl,⟨rfl,rfl,rfl,by simp [World.iterAt]⟩,by simp [World.iterAt],fun k hk=>?_,fun k=>hS k,?_⟩⟩
         ·simp only [execOp,e1,aqA,hn,aqu,aqH,SV.val,SV.bD];rfl
         ·have: ¬k=ρ.bv.getD b 0:=fun e=>hk ((hS k).2 e)
          exact Array.getElem?_setIfInBounds_ne (Ne.symm this)
         ·exact Lib.iterAt_heap w _ _ pos (pos+1) hh
        ·cases h
       ·rename_i hc;cases h;obtain⟨hS,hh⟩:=cN j (by simp) _ hj;have hn:=Lib.run_next_end_at (P:=P) w (ρ.bv.getD b 0) ⟨l.toArray⟩ pos ty hh (by
         rw [List.getElem?_eq_none_iff]at hc;simpa [ByteArray.size] using hc)
        refine cf ?_;simp only [execOp,e1,aqA,hn,aqu,aqH,SV.val,SV.bD];rfl
      ·cases h
     ·cases h
    ·cases h
   ·cases h
 | _=>simp [dR]at h
end
end Go.RX
