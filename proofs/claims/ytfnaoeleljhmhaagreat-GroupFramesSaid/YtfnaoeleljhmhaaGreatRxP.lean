/- A reflective symbolic executor, part 16: every operation. -/
import Derived.Lib.OthersKept
import Derived.Maps.RangeRun
import Derived.Test.YtfnaoeleljhmhaaGreatRxOg
import Derived.Test.YtfnaoeleljhmhaaGreatM16
import Derived.Lib.ConvBytes
import Derived.Lib.SliceRun
import Derived.WalkSpells

namespace Go.RX
section
variable {P:Program} {ρ:Env} {w:World} {look:Nat→Option SV} {vals:Operand→Value} {hp:List Ck} {S:Nat→Nat→Prop} {nb nv:Nat} {T:List TI}
theorem did_none{run:Result Next}{v:SV}{vcs:List BE}{rd:List Nat}(h:run= .ok (.value (v.val ρ)) w):Did P ρ w hp S nb nv run {val:=v,vcs:=vcs,rd:=rd}:=h
theorem did_val{s:Sem Value}{v:SV}{vcs:List BE}{rd:List Nat}(h:s.run P w= .ok (v.val ρ) w):
  Did P ρ w hp S nb nv ((do pure (.value (←s)):Sem Next).run P w) {val:=v,vcs:=vcs,rd:=rd}:=by
 apply did_none;simp only [Sem.run_bind,h,Result.andThen_ok,Sem.run_pure]
theorem pick_sound{c:BE}{a b v:SV}(h:pickSym c a b=some v):v.val ρ=if c.den ρ then a.val ρ else b.val ρ:=by
 unfold pickSym at h;split at h
 ·cases h;simp [BE.den]
 ·cases h;simp [BE.den]
 ·split at h
  ·cases h;simp only [SV.val,bIte_den];cases c.den ρ<;>rfl
  ·split at h
   ·rename_i hg;cases h;subst hg;simp only [SV.val,bIte_den,bNot_den];cases c.den ρ<;>rfl
   ·cases h
  ·split at h
   ·rename_i hg;cases h;subst hg;simp only [SV.val,bIte_den];cases h:BE.den ρ _<;>simp
   ·cases h
  ·cases h
theorem len_sound(hT:checkT P T=true){t:TypeId}{tt:TI}(htt:tlook T t=some tt){v:SV}{res:Res}(h:lenSym hp tt.k v=some res)
  (hrd:Reads hp ρ w S res.rd) (hvc: ∀b∈res.vcs,b.prop ρ) (ty:TypeId):
  (Builtin.len_ #[t] ty #[v.val ρ]).run P w= .ok (res.val.val ρ) w∧res.eff= .none:=by
 unfold lenSym at h;split at h
 ·rename_i kt vt hk;have hm:P.underlying t=some (.map kt vt):=by
   obtain⟨ht,hti⟩:=tlook_spec hT htt;have:=hti.kind;rw [hk]at this;rw [←ht];exact kind_map this
  split at h
  ·rename_i b;split at h
   ·rename_i j b' kl2 ka2 va2 zero has cols hf;cases h;obtain⟨hj,hat⟩:=findMap_spec hf;simp only [Ck.isMap,beq_iff_eq]at hat;subst hat;obtain⟨_,⟨es,cl,hb,hc⟩,_⟩:=hrd j (by simp) _ hj;refine⟨?_,rfl⟩;show(Builtin.len_ #[t] ty #[.map (some (ρ.bv.getD b 0))]).run P w=_;simp only [Builtin.len_,List.getElem?_toArray,List.getElem?_cons_zero,Sem.run_bind,run_underlying hm,Result.andThen_ok,getMap hb,Sem.run_pure,SV.val,eSel_den,den_lit,Int.toNat_zero,hc,goInt]
   ·cases h
  ·cases h;refine⟨?_,rfl⟩;show(Builtin.len_ #[t] ty #[.map none]).run P w=_;simp only [Builtin.len_,List.getElem?_toArray,List.getElem?_cons_zero,Sem.run_bind,run_underlying hm,Result.andThen_ok,Sem.run_pure,SV.val];rfl
  ·cases h
 ·rename_i e hk;split at h
  ·rename_i b i s n m;cases h;have:=nonNeg_prop hvc;refine⟨?_,rfl⟩;show(Builtin.len_ #[t] ty #[.slice (some ⟨ρ.bv.getD b 0,(i.den ρ 0).toNat*s,none⟩) (n.den ρ 0).toNat (m.den ρ 0).toNat]).run P w=_;rw [run_len_sl hT htt hk,goInt,Int.toNat_of_nonneg this];rfl
  ·cases h;exact⟨run_len_sl hT htt hk _ _ _ _,rfl⟩
  ·rename_i v;split at h
   ·rename_i j md v' t' s n cols hown;cases h;obtain⟨hj,hat⟩:=findOwn_spec hown;simp only [Ck.ownOf,beq_iff_eq]at hat;subst hat;have hS:=hrd j (by simp) _ hj;have:=nonNeg_prop hvc;obtain⟨ad,cp,he⟩:=sli_len hS;have e1:(SV.vv v).val ρ= .slice ad (n.den ρ 0).toNat cp:=he;refine⟨?_,rfl⟩;rw [e1,run_len_sl hT htt hk,SV.val,goInt,Int.toNat_of_nonneg this]
   ·cases h
  ·rename_i v cs s;split at h
   ·rename_i r hr;cases h;simp only at hvc hrd;obtain⟨v1,v2⟩:=mem_app hvc;have v2:=bLe'_prop v2;simp only [E.den]at v2;obtain⟨_,hsub⟩:=rootSV_spec hr hrd v1;obtain⟨_,_,_,a,c,k,_,_,hx,_⟩:=hsub;refine⟨?_,rfl⟩;rw [hx,run_len_sl hT htt hk,SV.val,goInt,Int.toNat_of_nonneg v2]
   ·cases h
  ·cases h
 ·rename_i hk;split at h
  ·rename_i l;cases h;exact⟨run_len_st hT htt hk _ _,rfl⟩
  ·rename_i s;cases h;have:=nonNeg_prop hvc;refine⟨?_,rfl⟩;have e1:(SV.strE s).val ρ= .string ⟨(strD (s.den ρ)).toArray⟩:=rfl;rw [e1,run_len_st hT htt hk,SV.val,goInt];congr 2;have e:=strD_eLen ρ s;simp only [ByteArray.size,List.size_toArray];omega
  ·cases h
 ·cases h
theorem appendSym_sound(hT:checkT P T=true)(hok:ρ.Ok){ts:TypeId}{tt:TI}(htt:tlook T ts=some tt){x y:SV}{res:Res}(h:appendSym T hp nv tt.k x y=some res)
  (hrd:Reads hp ρ w S res.rd) (hvc: ∀b∈res.vcs,b.prop ρ) (ty:TypeId):
  Did P ρ w hp S nb nv ((do pure (.value (←Builtin.append_ #[ts,ts] ty #[x.val ρ,y.val ρ])):Sem Next).run P w) res:=by
 unfold appendSym at h;split at h
 ·rename_i v b i s m cap;split at h
  ·rename_i j v' t s' n cols j' b' wr cs h1 h2;split at h
   ·rename_i cols' te hput hte;split at h
    ·rename_i hc;obtain⟨rfl,rfl,hk,rfl,hw,hl,hs0,hone,hsz⟩:=hc;cases h;obtain⟨hj,hat⟩:=findOwn_spec h1;simp only [Ck.ownOf,beq_iff_eq]at hat;subst hat;obtain⟨hj',hat'⟩:=findAt_spec h2;simp only [Ck.isAt,beq_iff_eq]at hat';subst hat';have hn0:0≤n.den ρ 0:=nonNeg_prop fun c hc=>hvc c (List.mem_append_left _ hc)
     have hbig:=hvc _ (List.mem_append_right _ (List.mem_singleton.2 rfl));have:=append_sound (P:=P) (w:=w) (nb:=nb) (nv:=nv) (cap:=(cap.den ρ 0).toNat) hT hok htt hk hte hsz hs0 hj (hrd j (by simp) _ hj) hj' (hrd j' (by simp) _ hj') hw hl hone hput hn0 hbig ty;have e1:(SV.sl b (.lit 0) s (.lit 1) cap).val ρ= .slice (some ⟨ρ.bv.getD b 0,0,none⟩) 1 (cap.den ρ 0).toNat:=by
      simp [SV.val,E.den]
     rw [e1];exact this
    ·cases h
   ·cases h
  ·cases h
 ·rename_i b i s m cap;split at h
  ·rename_i j' b' wr cs t h2 hk;split at h
   ·rename_i te cols hte hcols;split at h
    ·rename_i cols' hput;split at h
     ·rename_i hc;obtain⟨rfl,rfl,hw,hl,hs0,hone,hsz,hbig⟩:=hc;cases h;obtain⟨hj',hat'⟩:=findAt_spec h2;simp only [Ck.isAt,beq_iff_eq]at hat';subst hat';have e1:(SV.sl b (.lit 0) s (.lit 1) cap).val ρ= .slice (some ⟨ρ.bv.getD b 0,0,none⟩) 1 (cap.den ρ 0).toNat:=by
       simp [SV.val,E.den]
      rw [e1];exact append_nil_sound (P:=P) (w:=w) (hp:=hp) (S:=S) (nb:=nb) (nv:=nv) hT hok htt hk hte hsz hs0 (hrd j' (by simp) _ hj') hw hl hone hput hbig ty
     ·cases h
    ·cases h
   ·cases h
  ·cases h
 ·cases h
theorem run_convert_mark{b:Nat}{cs:List Value}{S:Nat→Prop}(hS:(rowHP b true cs).p w S)(t e:TypeId)(ht:P.underlying t=some (.slice e))(he:P.underlying e=some (.int .u8))(o n c:Nat):
  ∃w',(convert t t (.slice (some ⟨b,o,none⟩) n c)).run P w= .ok (.slice (some ⟨b,o,none⟩) n c) w'∧Same w w'∧w'.heap.size=w.heap.size∧(∀k,k≠b→w'.heap[k]? =w.heap[k]?)∧(rowHP b false cs).p w' S:=by
 obtain⟨h1,ty,fz,hg,_⟩:=hS;have hsh:w.shape? b=some (ty,cs.length):=by
  unfold World.shape?;rw [hg];simp
 refine⟨w.freeze ⟨b,cs.length,none⟩ 1,by simp [convert,run_underlying ht,run_underlying he,markStringish,hsh],?_,?_,?_,h1,?_⟩
 ·unfold World.freeze;rw [if_neg (by decide)];exact⟨rfl,rfl,rfl,by simp⟩
 ·unfold World.freeze;rw [if_neg (by decide)];simp
 ·intro k hk;unfold World.freeze;rw [if_neg (by decide)];simp [Array.getElem?_modify,Ne.symm hk]
 ·unfold World.freeze;rw [if_neg (by decide)];obtain⟨lo,hi⟩:=fz;exact⟨ty,_,by simp only [Array.getElem?_modify,if_true,hg,Option.map_some];rfl,fun h=>by cases h⟩
theorem run_index_str{t:TypeId}{tt:TI}(hT:checkT P T=true)(htt:tlook T t=some tt)(hk:tt.k= .str)(l:List UInt8)(k:IntKind)(j:Int)(h0:0≤j)(h1:j.toNat<l.length):
  (Instr.index t (.string ⟨l.toArray⟩) (.int k j)).run P w= .ok (.int .u8 ((l.getD j.toNat 0).toNat:Nat)) w:=by
 obtain⟨rfl,hi⟩:=tlook_spec hT htt;have hkk:=hi.kind;rw [hk]at hkk;have hu:P.underlying tt.t=some .string:=by
  unfold tkOk at hkk;split at hkk<;>simp_all
 have hg:(⟨l.toArray⟩:ByteArray)[j.toNat]? =some (l.getD j.toNat 0):=by
  have hlt:j.toNat<(⟨l.toArray⟩:ByteArray).size:=by simpa [ByteArray.size] using h1
  rw [getElem?_pos (⟨l.toArray⟩:ByteArray) j.toNat hlt];simp only [List.getD,List.getElem?_eq_getElem h1,Option.getD_some];rfl
 simp [Instr.index,asIntOf,run_underlying hu,h0,hg]
theorem filt_prop{l:List BE}(h: ∀b∈l.filter (fun b=>b != .lit true),b.prop ρ): ∀b∈l,b.prop ρ:=by
 intro b hb;by_cases hc:b= .lit true
 ·subst hc;rfl
 ·exact h b (List.mem_filter.2 ⟨hb,by simpa using hc⟩)
theorem idxStr_sound{t:TypeId}{tt:TI}(hT:checkT P T=true)(htt:tlook T t=some tt)(hk:tt.k= .str){v:SV}{k:IntKind}{j:E}{res:Res}(h:idxStr v j=some res)(hvc: ∀b∈res.vcs,b.prop ρ):
  (Instr.index t (v.val ρ) (.int k (j.den ρ 0))).run P w= .ok (res.val.val ρ) w∧res.eff= .none:=by
 unfold idxStr at h;split at h
 ·rename_i l;split at h
  ·rename_i i;split at h
   ·rename_i hl;cases h;exact⟨run_index_str hT htt hk l k _ (by simp [E.den]) (by simpa [E.den] using hl),rfl⟩
   ·cases h
  ·cases h;have h2:=filt_prop hvc;have q0:=of_decide_eq_true (bLe_den ρ _ _▸(BE.den_iff ρ _).2 (h2 _ List.mem_cons_self));have q1:=of_decide_eq_true (bLt_den ρ _ _▸(BE.den_iff ρ _).2 (h2 _ (List.mem_cons_of_mem _ List.mem_cons_self)));simp only [den_lit]at q0 q1;refine⟨?_,rfl⟩;have e1:(SV.str l).val ρ= .string ⟨l.toArray⟩:=rfl;rw [e1,run_index_str hT htt hk l k _ q0 (by omega),SV.val,eSel_den,bytesL_den]
 ·rename_i s;cases h;have h2:=filt_prop hvc;have q0:=of_decide_eq_true (bLe_den ρ _ _▸(BE.den_iff ρ _).2 (h2 _ List.mem_cons_self));have q1:=of_decide_eq_true (bLt_den ρ _ _▸(BE.den_iff ρ _).2 (h2 _ (List.mem_cons_of_mem _ List.mem_cons_self)));simp only [den_lit,eLen_den]at q0 q1;refine⟨?_,rfl⟩;have hlt:(j.den ρ 0).toNat<(s.den ρ 0).toNat:=by omega
  have e1:(SV.strE s).val ρ= .string ⟨(strD (s.den ρ)).toArray⟩:=rfl;rw [e1,run_index_str hT htt hk _ k _ q0 (by rw [strD_length];exact hlt),SV.val,eSel_den,eSby_den];congr 2;simp [List.getD,strD_getD _ hlt,sbyF]
 ·cases h
theorem ba_extract(l:List UInt8)(a b:Nat):(⟨l.toArray⟩:ByteArray).extract a b=⟨((l.take b).drop a).toArray⟩:=by
 apply ByteArray.ext;rw [ByteArray.data_extract];apply Array.ext';simp [List.drop_take]
theorem run_slice_str{t:TypeId}{tt:TI}(hT:checkT P T=true)(htt:tlook T t=some tt)(hk:tt.k= .str)(L:List UInt8){lo hi:Option Value}{l h:Option Int}(hl:OptInt lo l)(hh:OptInt hi h)
  (h0:0≤l.getD 0) (h1:l.getD 0≤h.getD (L.length:Int)) (h2:h.getD (L.length:Int)≤L.length):
  (Instr.sliceAt t (.string ⟨L.toArray⟩) lo hi none).run P w= .ok (.string ⟨((L.take (h.getD (L.length:Int)).toNat).drop (l.getD 0).toNat).toArray⟩) w:=by
 obtain⟨rfl,hi'⟩:=tlook_spec hT htt;have hkk:=hi'.kind;rw [hk]at hkk;have hu:P.underlying tt.t=some .string:=by
  unfold tkOk at hkk;split at hkk<;>simp_all
 have hb:=run_bounds (P:=P) (w:=w) false L.length L.length (lo:=lo) (hi:=hi) (mx:=none) (m:=none) hl hh True.intro (by simp) h0 h1 (by simp) (fun _=>h2);have hsz:(⟨L.toArray⟩:ByteArray).size=L.length:=by simp [ByteArray.size]
 simp only [Instr.sliceAt,Instr.slice,Sem.run_bind,run_underlying hu,Result.andThen_ok,hsz,ba_extract];simp [hb]
theorem sliceE_sound{t:TypeId}{tt:TI}(hT:checkT P T=true)(htt:tlook T t=some tt)(hk:tt.k= .str)(s a b:E){lo hi:Option Value}{l h:Option Int}(hl:OptInt lo l)(hh:OptInt hi h)
  (ha:a.den ρ 0=l.getD 0) (hb: ∀n:Int,(0≤s.den ρ 0→n=s.den ρ 0)→b.den ρ 0=h.getD n∨(h=none∧b.den ρ 0=s.den ρ 0)) (hvc: ∀b'∈(sliceE s a b).vcs,b'.prop ρ):
  (Instr.sliceAt t (.string ⟨(strD (s.den ρ)).toArray⟩) lo hi none).run P w= .ok ((sliceE s a b).val.val ρ) w:=by
 unfold sliceE at hvc ⊢;have leP: ∀x y:E,(∀b'∈sliceE.leS x y,b'.prop ρ)→x.den ρ 0≤y.den ρ 0:=by
  intro x y h;unfold sliceE.leS at h;split at h
  ·rename_i he;rw [he];exact Int.le_refl _
  ·exact of_decide_eq_true (bLe_den ρ _ _▸(BE.den_iff ρ _).2 (filt_prop h _ (List.mem_singleton.2 rfl)))
 have q1:=leP _ _ fun c hc=>hvc c (List.mem_append_left _ (List.mem_append_left _ hc))
 have q2:=leP _ _ fun c hc=>hvc c (List.mem_append_left _ (List.mem_append_right _ hc))
 have q3:=leP _ _ fun c hc=>hvc c (List.mem_append_right _ hc)
 simp only [den_lit,eLen_den]at q1 q2 q3;have hlen:((strD (s.den ρ)).length:Int)=s.den ρ 0:=by rw [strD_length];omega
 have hbe:b.den ρ 0=h.getD ((strD (s.den ρ)).length:Int):=by
  rcases hb (strD (s.den ρ)).length (fun _=>hlen)with e | ⟨e1,e2⟩
  ·exact e
  ·rw [e1,e2];exact hlen.symm
 have:=run_slice_str (P:=P) (w:=w) hT htt hk (strD (s.den ρ)) hl hh (by rw [←ha];exact q1) (by rw [←ha,←hbe];exact q2) (by rw [←hbe,hlen];exact q3);rw [this,SV.val,eSub2_den ρ s a b q1 q2 q3,←hbe,←ha]
theorem sliceStr_sound{t:TypeId}{tt:TI}(hT:checkT P T=true)(htt:tlook T t=some tt)(hk:tt.k= .str){v:SV}{l h:Option E}{res:Res}(hs:sliceStr v l h=some res)
  {lo hi:Option Value} (hl:OptInt lo (l.map fun e:E=>e.den ρ 0)) (hh:OptInt hi (h.map fun e:E=>e.den ρ 0)) (hvc: ∀b∈res.vcs,b.prop ρ):
  (Instr.sliceAt t (v.val ρ) lo hi none).run P w= .ok (res.val.val ρ) w∧res.eff= .none:=by
 have ga: ∀(o:Option E) (d:E),(o.getD d).den ρ 0=(o.map fun e:E=>e.den ρ 0).getD (d.den ρ 0):=by intro o d;cases o<;>rfl
 unfold sliceStr at hs;split at hs
 ·rename_i L;split at hs
  ·rename_i a b e1 e2;split at hs
   ·rename_i hc;cases hs;have f1:=ga l (.lit 0);have f2:=ga h (.lit L.length);rw [e1]at f1;rw [e2]at f2;simp only [den_lit]at f1 f2;refine⟨?_,rfl⟩;have:=run_slice_str (P:=P) (w:=w) hT htt hk L hl hh (by rw [←f1];simp) (by rw [←f1,←f2];exact Int.ofNat_le.2 hc.1) (by rw [←f2];exact Int.ofNat_le.2 hc.2);rw [SV.val,this,SV.val,←f1,←f2];simp
   ·cases hs
  ·rename_i a b hne;cases hs;refine⟨?_,rfl⟩;have:=sliceE_sound (P:=P) (w:=w) (ρ:=ρ) hT htt hk (rowB L) (l.getD (.lit 0)) (h.getD (.lit L.length)) hl hh (ga l (.lit 0)) (fun n hn=>by
    left;rw [ga h (.lit L.length),den_lit,hn (by rw [rowB_den];simp [rowS]),rowB_den];rfl) hvc
   rw [rowB_den,strD_rowS]at this;exact this
 ·rename_i s;cases hs;refine⟨?_,rfl⟩;exact sliceE_sound (P:=P) (w:=w) (ρ:=ρ) hT htt hk s (l.getD (.lit 0)) (h.getD (eLen s)) hl hh (ga l (.lit 0)) (fun n hn=>by
   cases h with
   | none=>exact .inr ⟨rfl,by simp [eLen_den]⟩
   | some e=>exact .inl rfl) hvc
 ·cases hs
theorem eqi1{t:TypeId}(hu: ∃m,P.underlying t=some (.interface m))(d:Nat):(Op.equalIn (d+1) t .nilIface .nilIface).run P w= .ok true w:=by
 obtain⟨m,hu⟩:=hu;have hun:=run_underlying hu w;rw [Op.equalIn];simp only [Sem.run_bind,hun,Result.andThen_ok];rfl
theorem eqi2{t t':TypeId}{v:Value}(hu: ∃m,P.underlying t=some (.interface m))(d:Nat):(Op.equalIn (d+1) t (.iface t' v) .nilIface).run P w= .ok false w:=by
 obtain⟨m,hu⟩:=hu;have hun:=run_underlying hu w;rw [Op.equalIn];simp only [Sem.run_bind,hun,Result.andThen_ok];rfl
theorem ifaceOf_is(x:Value): ∃t v,ifaceOf x= .iface t v:=by
 unfold ifaceOf;split<;>exact⟨_,_,rfl⟩
theorem sliceNil_run{ti:TI}(hti:TInfo P ti){op:BinOp}{xo yo:Operand}{a b:SV}{r:Res}(hrd:Reads hp ρ w S r.rd)(h:sliceNil hp ti op a b=some r):
  (do eqGuard op ti.t xo yo (a.val ρ) (b.val ρ);binOp op ti.t (a.val ρ) (b.val ρ):Sem Value).run P w= .ok (r.val.val ρ) w∧r.eff= .none:=by
 have hk:=hti.kind;unfold sliceNil at h;split at h
 ·rename_i e i hk0;rw [hk0]at hk;split at h
  ·rename_i j md v' t s n cols hf;obtain⟨hj,hat⟩:=findOwn_spec hf;simp only [Ck.ownOf,beq_iff_eq]at hat;subst hat;split at h
   ·cases h;have hS:=hrd j (by simp) _ hj;obtain⟨ad,cp,hv⟩:=sli_len hS;have e1:(SV.vv i).val ρ= .slice ad (n.den ρ 0).toNat cp:=hv;refine⟨?_,rfl⟩;rw [e1];refine wrap_of_guardFree (run_eqGuard_free _ _ _ _ _ _ rfl) ?_;have:=Lib.run_eql_slice_nil w ti.t e ad (n.den ρ 0).toNat cp 0 0 (kind_slice hk);refine this.trans ?_;simp only [SV.val,BE.den];rw [show(ρ.vv.getD i V1.nil).v=_ from hv];cases ad<;>rfl
   ·cases h;have hS:=hrd j (by simp) _ hj;obtain⟨ad,cp,hv⟩:=sli_len hS;have e1:(SV.vv i).val ρ= .slice ad (n.den ρ 0).toNat cp:=hv;refine⟨?_,rfl⟩;rw [e1];refine wrap_of_guardFree (run_eqGuard_free _ _ _ _ _ _ rfl) ?_;have:=run_neq_slice_nil_any w ti.t e ad (n.den ρ 0).toNat cp 0 0 (kind_slice hk);refine this.trans ?_;simp only [SV.val,bNot_den,BE.den];rw [show(ρ.vv.getD i V1.nil).v=_ from hv];cases ad<;>rfl
   ·cases h
  ·cases h
 ·cases h
theorem ifaceNil_run{ti:TI}(hti:TInfo P ti){op:BinOp}{xo yo:Operand}{a:SV}{r:Res}(h:ifaceNil ti op yo a=some r):
  yo= .const .nilIface∧(do eqGuard op ti.t xo yo (a.val ρ) .nilIface;binOp op ti.t (a.val ρ) .nilIface:Sem Value).run P w= .ok (r.val.val ρ) w∧r.eff= .none:=by
 have hk:=hti.kind;have hu:ti.k= .iface→∃m,P.underlying ti.t=some (.interface m):=by
  intro e;rw [e]at hk;unfold tkOk at hk;split at hk<;>simp_all
 have g1: ∀v,(eqGuard op ti.t xo (.const .nilIface) v .nilIface).run P w= .ok () w:=by
  intro v;cases op<;>cases v<;>simp [eqGuard]
 unfold ifaceNil at h;split at h
 ·rename_i hk0;have hu:=hu hk0;split at h
  ·cases h;exact⟨rfl,wrap_of_guardFree (g1 _) (run_eqlOf rfl fun d=>eqi1 hu d),rfl⟩
  ·cases h;exact⟨rfl,wrap_of_guardFree (g1 _) (run_neqOf rfl fun d=>eqi1 hu d),rfl⟩
  ·cases h
 ·rename_i t' k' e' hk0;have hu:=hu hk0;have hv: ∀d,(Op.equalIn (d+1) ti.t ((SV.ifl t' k' e').val ρ) .nilIface).run P w= .ok false w:=fun d=>eqi2 hu d
  split at h
  ·cases h;exact⟨rfl,wrap_of_guardFree (g1 _) (run_eqlOf rfl hv),rfl⟩
  ·cases h;exact⟨rfl,wrap_of_guardFree (g1 _) (run_neqOf rfl hv),rfl⟩
  ·cases h
 ·rename_i t' b' c' hk0;have hu:=hu hk0;have hv: ∀d,(Op.equalIn (d+1) ti.t ((SV.ifp t' b' c').val ρ) .nilIface).run P w= .ok false w:=fun d=>eqi2 hu d
  split at h
  ·cases h;exact⟨rfl,wrap_of_guardFree (g1 _) (run_eqlOf rfl hv),rfl⟩
  ·cases h;exact⟨rfl,wrap_of_guardFree (g1 _) (run_neqOf rfl hv),rfl⟩
  ·cases h
 ·rename_i c v hk0;have hu:=hu hk0;obtain⟨t',x,hx⟩:=ifaceOf_is (ρ.vv.getD v V1.nil).v;have hv: ∀d,(Op.equalIn (d+1) ti.t ((SV.ifv c v).val ρ) .nilIface).run P w= .ok (!c.den ρ) w:=by
   intro d;simp only [SV.val];cases c.den ρ with
   | true=>simp only [if_true,hx];exact eqi2 hu d
   | false=>simp only [Bool.false_eq_true,if_false];exact eqi1 hu d
  have hb1:binOp .eql ti.t ((SV.ifv c v).val ρ) .nilIface=(do pure (.bool (←Op.equal ti.t ((SV.ifv c v).val ρ) .nilIface)):Sem Value):=by
   simp only [SV.val];cases c.den ρ with
   | true=>simp only [if_true,hx];rfl
   | false=>rfl
  have hb2:binOp .neq ti.t ((SV.ifv c v).val ρ) .nilIface=(do pure (.bool (!(←Op.equal ti.t ((SV.ifv c v).val ρ) .nilIface))):Sem Value):=by
   simp only [SV.val];cases c.den ρ with
   | true=>simp only [if_true,hx];rfl
   | false=>rfl
  split at h
  ·cases h;refine⟨rfl,wrap_of_guardFree (g1 _) ?_,rfl⟩;rw [run_eqlOf hb1 hv];simp [SV.val,bNot_den]
  ·cases h;refine⟨rfl,wrap_of_guardFree (g1 _) ?_,rfl⟩;rw [run_neqOf hb2 hv];simp [SV.val]
  ·cases h
 ·cases h
theorem bytesWorld_same(w:World)(e:TypeId)(s:ByteArray):Same w (Lib.bytesWorld w e s):=by
 unfold Lib.bytesWorld World.freeze;rw [if_neg (by decide)];exact⟨rfl,rfl,rfl,by simp⟩
theorem bytesWorld_lt(w:World)(e:TypeId)(s:ByteArray):w.heap.size<(Lib.bytesWorld w e s).heap.size:=by rw [Lib.bytesWorld_size];omega
theorem bytesWorld_views(w:World)(e:TypeId)(s:E):
  World.views (Lib.bytesWorld w e ⟨(strD (s.den ρ)).toArray⟩) (.slice (some ⟨w.heap.size,0,none⟩) (s.den ρ 0).toNat (grownCap w (s.den ρ 0).toNat 0 e)) ((eLen s).den ρ 0).toNat
   (tabCells ρ ((eLen s).den ρ 0).toNat [⟨.int .u8,1,eSby s⟩]):=by
 refine⟨_,_,_,rfl,by rw [eLen_den],grownCap_ge ..,fun h=>(nomatch h),fun ad had=>⟨fun _=>?_,fun j u hu=>?_⟩⟩
 ·cases had;rfl
 ·cases had;rw [tab_single,segCells_getElem?,eLen_den]at hu;split at hu
  ·rename_i hj;have:=Lib.bytesWorld_cell w e ⟨(strD (s.den ρ)).toArray⟩ j (by simpa [ByteArray.size,strD_length] using hj);rw [addr_add_at,Nat.zero_add];cases hu;rw [this,eSby_den];congr 2;simp [List.getD,strD_getD _ hj,sbyF]
  ·cases hu
theorem bytesOf_sound(hT:checkT P T=true){src dst:TypeId}{ts ti:TI}(hts:tlook T src=some ts)(hk:ts.k= .str)(hti:tlook T dst=some ti){v:SV}{res:Res}(h:bytesOf T nv ti.k v=some res)(hvc: ∀b∈res.vcs,b.prop ρ):
  Did P ρ w hp S nb nv ((do pure (.value (←convert src dst (v.val ρ))):Sem Next).run P w) res:=by
 obtain⟨rfl,hi1⟩:=tlook_spec hT hts;obtain⟨rfl,hi2⟩:=tlook_spec hT hti;have hkk:=hi1.kind;rw [hk]at hkk;have hu1:P.underlying ts.t=some .string:=by
  unfold tkOk at hkk;split at hkk<;>simp_all
 unfold bytesOf at h;split at h
 ·rename_i e he;split at h
  ·rename_i te s hte hs;split at h
   ·rename_i hc;obtain⟨hu8,hs1⟩:=hc;cases h;obtain⟨rfl,hie⟩:=tlook_spec hT hte;have k2:=hi2.kind;rw [he]at k2;have hu2:=kind_slice k2;have k3:=hie.kind;rw [hu8]at k3;have hu3:=kind_int k3;have q0:=of_decide_eq_true (bLe_den ρ _ _▸(BE.den_iff ρ _).2 (filt_prop hvc _ (List.mem_singleton.2 rfl)));simp only [den_lit,eLen_den]at q0;have hv:=toStrE_val ρ hs;have hrun:=Lib.run_convert_string_bytes (P:=P) w ts.t ti.t te.t ⟨(strD (s.den ρ)).toArray⟩ hu1 hu2 hu3;have hsz:(⟨(strD (s.den ρ)).toArray⟩:ByteArray).size=(s.den ρ 0).toNat:=by simp [ByteArray.size,strD_length]
    rw [hsz]at hrun;refine⟨te.t,1,eLen s,[⟨.int .u8,1,eSby s⟩],.slice (some ⟨w.heap.size,0,none⟩) (s.den ρ 0).toNat (grownCap w (s.den ρ 0).toNat 0 te.t),Lib.bytesWorld w te.t ⟨(strD (s.den ρ)).toArray⟩,fun k=>k=w.heap.size∧0<(s.den ρ 0).toNat,rfl,rfl,by rw [hv,Sem.run_bind,hrun];rfl,rfl,?_,?_,?_,?_⟩
    ·exact bytesWorld_same w te.t _
    ·exact fun k hk=>Lib.bytesWorld_at_old w te.t _ k hk
    ·refine⟨?_,fun k=>?_⟩
     ·simp only [Bool.false_eq_true,if_false];exact⟨by rw [tab_length];simp [colsW],bytesWorld_views w te.t s⟩
     ·simp [Value.ownBlock,eLen_den,eq_comm]
    ·intro k hk;refine⟨by omega,?_⟩;rw [hk.1];exact bytesWorld_lt w te.t _
   ·cases h
  ·cases h
 ·cases h
theorem bytesOwn_sound(hT:checkT P T=true){src dst:TypeId}{ts ti:TI}(hts:tlook T src=some ts)(hk:ts.k= .str)(hti:tlook T dst=some ti){l:List UInt8}{res:Res}(h:bytesOwn T nv ti.k l=some res):
  Did P ρ w hp S nb nv ((do pure (.value (←convert src dst ((SV.str l).val ρ))):Sem Next).run P w) res:=by
 obtain⟨rfl,hi1⟩:=tlook_spec hT hts;obtain⟨rfl,hi2⟩:=tlook_spec hT hti;have hkk:=hi1.kind;rw [hk]at hkk;have hu1:P.underlying ts.t=some .string:=by
  unfold tkOk at hkk;split at hkk<;>simp_all
 unfold bytesOwn at h;split at h
 ·rename_i e he;split at h
  ·rename_i te hte;split at h
   ·rename_i hc;obtain⟨hu8,hs1,hl⟩:=hc;cases h;obtain⟨rfl,hie⟩:=tlook_spec hT hte;have k2:=hi2.kind;rw [he]at k2;have hu2:=kind_slice k2;have k3:=hie.kind;rw [hu8]at k3;have hu3:=kind_int k3;have hrun:=Lib.run_convert_string_bytes (P:=P) w ts.t ti.t te.t ⟨l.toArray⟩ hu1 hu2 hu3;have hsz:(⟨l.toArray⟩:ByteArray).size=l.length:=by simp [ByteArray.size]
    have hge:=grownCap_ge w l.length 0 te.t;have hcs:(Lib.bytesCells w te.t ⟨l.toArray⟩).toList=(l.map fun b=>Value.int .u8 b.toNat)++List.replicate (grownCap w l.length 0 te.t - l.length) (.int .u8 0):=by
     simp [Lib.bytesCells,hsz]
    rw [hsz]at hrun;have hn:(E.den ρ (.lit (l.length:Int)) 0).toNat=l.length:=by simp [E.den]
    refine⟨te.t,1,.lit l.length,[⟨.int .u8,1,.rowl (l.map fun b=>(b.toNat:Int))⟩],.slice (some ⟨w.heap.size,0,none⟩) l.length (grownCap w l.length 0 te.t),Lib.bytesWorld w te.t ⟨l.toArray⟩,fun k=>k=w.heap.size,rfl,rfl,by rw [SV.val,Sem.run_bind,hrun];rfl,rfl,?_,?_,⟨?_,fun k=>?_⟩,?_⟩
    ·exact bytesWorld_same w te.t _
    ·exact fun k hk=>Lib.bytesWorld_at_old w te.t _ k hk
    ·simp only [if_true];rw [hn,tab_single];refine⟨by rw [segCells_length,Nat.mul_one],.inr ⟨w.heap.size,0,_,Lib.bytesCells w te.t ⟨l.toArray⟩,rfl,⟨te.t,_,Lib.bytesWorld_at_new w te.t _,.inr ⟨rfl,.inr (Nat.le_refl _)⟩,.inl rfl⟩,hge,grownCap_le_maxLen w l.length 0 te.t (by unfold maxLen;omega),fun _=>?_,?_⟩⟩
     ·rw [←Array.length_toList,hcs];simp;omega
     ·rw [List.drop_zero,hcs,Nat.mul_one];apply List.ext_getElem?;intro j;rw [segCells_getElem?,List.getElem?_take];split
      ·rename_i hj;rw [List.getElem?_append_left (by simpa using hj),List.getElem?_map,List.getElem?_eq_getElem hj];simp [E.den,List.getD,hj]
      ·rfl
    ·simp [Value.ownBlock,eq_comm]
    ·intro k hk;exact⟨by omega,by rw [hk];exact bytesWorld_lt w te.t _⟩
   ·cases h
  ·cases h
 ·cases h
theorem addr_spot(a:Addr)(k:Nat)(h:a.spot=none):(a.add k).spot=none:=by
 unfold Addr.add;split<;>simp_all
theorem sli_views{md:Bool}{t s n:Nat}{v:Value}{cs:List Value}{S:Nat→Prop}(h:(sliHP md t s v n cs).p w S):World.views w v n cs∧cs.length=n*s:=by
 obtain⟨h0,_⟩:=h;cases md with
 | true=>
  simp only [if_true]at h0;have h00:=h0;obtain⟨hl,hr⟩:=h0;refine⟨?_,hl⟩;rcases hr with⟨rfl,rfl⟩ | ⟨g,o,cap,cur,rfl,hg,hnc,_⟩
  ·exact⟨none,0,0,rfl,rfl,Nat.le_refl _,fun _=>rfl,by simp⟩
  ·refine⟨_,n,cap,rfl,rfl,hnc,by simp,?_⟩;rintro _ ⟨⟩;exact⟨fun _=>rfl,fun j u hu=>ownsAt_cells h00 j u hu⟩
 | false=>
  simp only [Bool.false_eq_true,if_false]at h0;exact⟨h0.2,h0.1⟩
theorem run_loadCells_at(ad:Addr)(l:List Value)(n:Nat)(hn:l.length=n)(h: ∀(j:Nat) v,l[j]? =some v→w.cell? (ad.add j)=some v):(loadCells ad n).run P w= .ok l.toArray w:=by
 subst hn;exact run_loadCells_list (P:=P) w ad l h
theorem run_bytes_str{src dst e:TypeId}(hs:P.underlying src=some (.slice e))(he:P.underlying e=some (.int .u8))(hd:P.underlying dst=some .string){a:Option Addr}{m c:Nat}{f:Nat→Int}(h0:a=none→m=0)(hc: ∀ad,a=some ad→∀(j:Nat) u,(segCells .u8 m f)[j]? =some u→w.cell? (ad.add j)=some u):
  (convert src dst (.slice a m c)).run P w= .ok (.string ⟨((List.range m).map fun j=>UInt8.ofNat (f j).toNat).toArray⟩) w:=by
 rw [run_convert_bytes_string w src dst e a m c hs he hd];cases a with
 | none=>
  have:=h0 rfl;subst this;simp [Conv.bytesToString,Sem.run_pure];rfl
 | some ad=>
  have hl:(loadCells ad m).run P w= .ok (((List.range m).map f).map (Value.int .u8)).toArray w:=by
   rw [List.map_map];exact run_loadCells_at ad _ m (by simp) fun j u hu=>hc ad rfl j u hu
  rw [run_bytesToString w ad m c _ hl,foldl_push_bytes,List.map_map];simp [ByteArray.empty,ByteArray.emptyWithCapacity,Function.comp_def];rfl
theorem kind_str{t:TypeId}(h:tkOk (P.underlying t) .str=true):P.underlying t=some .string:=by
 unfold tkOk at h;split at h<;>simp_all
theorem eBytesL_den(a n:E):strD ((eBytesL a n).den ρ)=(List.range (n.den ρ 0).toNat).map fun j=>UInt8.ofNat (a.den ρ j).toNat:=by
 unfold eBytesL;split
 ·rename_i k hk;have hn:=litNat_den (ρ:=ρ) hk;split
  ·rename_i l hl;have hl:=litsOf_den (ρ:=ρ) hl;subst hl;rw [hn,Int.toNat_natCast];unfold strD;simp only [E.den,List.getD_cons_zero,Int.toNat_natCast];refine List.map_congr_left fun j hj=>?_
   have hj:=List.mem_range.1 hj;simp [hj]
  ·exact eBytes_den ρ a n
 ·exact eBytes_den ρ a n
theorem strOfSl_sound{src dst e:TypeId}(hs:P.underlying src=some (.slice e))(he:P.underlying e=some (.int .u8))(hd:P.underlying dst=some .string){v:SV}{res:Res}(h:strOfSl hp v=some res)(hrd:Reads hp ρ w S res.rd)(hvc: ∀b∈res.vcs,b.prop ρ):
  Did P ρ w hp S nb nv ((do pure (.value (←convert src dst (v.val ρ))):Sem Next).run P w) res:=by
 unfold strOfSl at h;split at h
 ·cases h;refine did_val ?_;exact run_bytes_str (P:=P) (w:=w) (a:=none) (m:=0) (c:=0) (f:=fun _=>0) hs he hd (fun _=>rfl) fun _ h=>nomatch h
 ·rename_i b i n m;split at h
  ·rename_i j b' wr cs i' n' hf hi hn;split at h
   ·rename_i xs hxs;split at h
    ·rename_i kl a hro;split at h
     ·rename_i hkl;cases h;obtain⟨hj,hat⟩:=findAt_spec hf;simp only [Ck.isAt,beq_iff_eq]at hat;subst hat;have hS:=hrd j (by simp) _ hj;obtain⟨h1,ty,fz,hg,_⟩:=hS;have hi:=litNat_den (ρ:=ρ) hi;have hn:=litNat_den (ρ:=ρ) hn;refine did_val ?_;have hcx:=rowOf_spec (ρ:=ρ) hro;rw [hkl,List.length_replicate,mkI_rep]at hcx;obtain⟨hcut,hle⟩:=rowCut_cells (ρ:=ρ) hxs;rw [hcut]at hcx;rw [mkStr_val,eBytesL_den,den_lit,Int.toNat_natCast];have e1:(SV.sl b i 1 n m).val ρ= .slice (some ⟨ρ.bv.getD b 0,i',none⟩) n' (m.den ρ 0).toNat:=by simp [SV.val,hi,hn]
      rw [e1];refine run_bytes_str (P:=P) (w:=w) (f:=a.den ρ) hs he hd (fun h=>nomatch h) ?_;rintro _ ⟨⟩ j u hu;rw [←hcx,List.getElem?_take]at hu;split at hu
      ·rw [List.getElem?_drop]at hu;rw [addr_add_at];simp only [World.cell?,hg];simpa using hu
      ·cases hu
     ·cases h
    ·cases h
   ·cases h
  ·rename_i j b' wr m' a hf hi hn;cases h;obtain⟨hj,hat⟩:=findAt_spec hf;simp only [Ck.isAt,beq_iff_eq]at hat;subst hat;have hS:=hrd j (by simp) _ hj;obtain⟨h1,ty,fz,hg,_⟩:=hS;have hi:=litNat_den (ρ:=ρ) hi;have hle:=of_decide_eq_true (bLe_den ρ _ _▸(BE.den_iff ρ _).2 (filt_prop hvc _ (List.mem_singleton.2 rfl)));simp only [den_lit]at hle;refine did_val ?_;rw [mkStr_val,eBytesL_den];have e1:(SV.sl b i 1 n m).val ρ= .slice (some ⟨ρ.bv.getD b 0,0,none⟩) (n.den ρ 0).toNat (m.den ρ 0).toNat:=by simp [SV.val,hi]
   rw [e1];refine run_bytes_str (P:=P) (w:=w) (f:=a.den ρ) hs he hd (fun h=>nomatch h) ?_;rintro _ ⟨⟩ j u hu;obtain⟨hlt,_⟩:=List.getElem?_eq_some_iff.1 hu;rw [segCells_length]at hlt;rw [addr_add_at];simp only [World.cell?,hg];rw [←hu,segCells_getElem?,if_pos hlt];have ec:SV.cellsL ρ [SV.seg .u8 m' a]=segCells .u8 m' (a.den ρ):=by simp [SV.cellsL,SV.cells]
   rw [ec,Nat.zero_add,List.getElem?_toArray,segCells_getElem?,if_pos (show j<m' by omega)];rfl
  ·cases h
 ·rename_i v;split at h
  ·rename_i j md v' t n a hf;cases h;obtain⟨hj,hat⟩:=findOwn_spec hf;simp only [Ck.ownOf,beq_iff_eq]at hat;subst hat;have hS:=hrd j (by simp) _ hj;have hv:=(sli_views hS).1;rw [tab_single]at hv;obtain⟨a',m',c',e1,e2,_,h0,hc⟩:=hv;refine did_val ?_;rw [mkStr_val,eBytesL_den];rw [show(SV.vv v).val ρ= .slice a' m' c' from e1,←e2];exact run_bytes_str (P:=P) (w:=w) hs he hd (fun h=>e2.trans (h0 h)) fun ad had j u hu=>(hc ad had).2 j u (by rw [←e2];exact hu)
  ·cases h
 ·rename_i v cs s;split at h
  ·rename_i r hr;split at h
   ·rename_i a hsh;split at h
    ·rename_i hcond;obtain⟨hs1,hw⟩:=hcond;cases h;simp only at hvc hrd;obtain⟨v1,v2⟩:=mem_app hvc;have v2:=bLe'_prop v2;simp only [E.den]at v2;have hsrc:=root_src hr hrd v1 v2 hw hsh;obtain⟨_,_,a',c',e1,h0,hc⟩:=hsrc;rw [tab_single]at hc;refine did_val ?_;rw [mkStr_val,eBytesL_den,e1];exact run_bytes_str (P:=P) (w:=w) hs he hd h0 fun ad had j u hu=>hc ad had j u hu
    ·cases h
   ·cases h
  ·cases h
 ·cases h
theorem bytesStr_sound(hT:checkT P T=true){src dst:TypeId}{ti:TI}(hti:tlook T dst=some ti)(hk:ti.k= .str){v:SV}{res:Res}(h:bytesStr T hp src v=some res)(hrd:Reads hp ρ w S res.rd)(hvc: ∀b∈res.vcs,b.prop ρ):
  Did P ρ w hp S nb nv ((do pure (.value (←convert src dst (v.val ρ))):Sem Next).run P w) res:=by
 unfold bytesStr at h;split at h
 ·rename_i ts hts;split at h
  ·rename_i e he;split at h
   ·rename_i te hte;split at h
    ·rename_i hu8;obtain⟨rfl,hi1⟩:=tlook_spec hT hts;obtain⟨rfl,hi2⟩:=tlook_spec hT hti;obtain⟨rfl,hi3⟩:=tlook_spec hT hte;have k1:=hi1.kind;rw [he]at k1;have k2:=hi2.kind;rw [hk]at k2;have k3:=hi3.kind;rw [hu8]at k3;exact strOfSl_sound (kind_slice k1) (kind_int k3) (kind_str k2) h hrd hvc
    ·cases h
   ·cases h
  ·cases h
 ·cases h
theorem appendAny_sound(hT:checkT P T=true)(hok:ρ.Ok){t t':TypeId}{tt:TI}(htt:tlook T t=some tt){v u:SV}{res:Res}(h:appendAny T hp nv tt t t' v u=some res)
  (hrd:Reads hp ρ w S res.rd) (hvc: ∀b∈res.vcs,b.prop ρ) (ty:TypeId):
  Did P ρ w hp S nb nv ((do pure (.value (←Builtin.append_ #[t,t'] ty #[v.val ρ,u.val ρ])):Sem Next).run P w) res:=by
 unfold appendAny at h;split at h
 ·rename_i heq;subst heq;split at h
  ·rename_i r hr;cases h;exact appendSym_sound (P:=P) (w:=w) (nb:=nb) hT hok htt hr hrd hvc ty
  ·split at h
   ·rename_i r hr;cases h;exact appendSym2_sound hT htt hr hrd hvc ty
   ·split at h
    ·rename_i r hr;cases h;exact appendRow_sound hT htt hr hrd hvc ty
    ·exact appendVls_sound hT htt h hrd ty
 ·split at h
  ·rename_i ti kk m hti;split at h
   ·rename_i kt hkt;exact appendZ_sound hT htt hti hkt h hrd hvc kk ty
   ·cases h
  ·cases h
theorem nilAhead_run{T:List TI}(hT:checkT P T=true){t:Nat}{ti:TI}{name:String}(hti:tlook T t=some ti)(hms:(ti.ms.any fun x=>x.1==name)=true)(v:Value)(w:World):
  (nilAhead (P.types.size+Made.depth) t v name).run P w= .ok (some false) w:=by
 obtain⟨rfl,hI⟩:=tlook_spec hT hti;obtain⟨y,hy,hn⟩:=List.any_eq_true.1 hms;rw [beq_iff_eq]at hn;subst hn;have hm:=hI.ms;unfold msOk at hm;have h1:=List.all_eq_true.1 hm y hy;split at h1
 ·rename_i e i hu hi;split at h1
  ·rename_i m hm;rw [Bool.and_eq_true,beq_iff_eq]at h1;have hp:m.path= #[]:=by
    have:=h1.1;cases hq:m.path with
    | mk l=>cases l with
     | nil=>rfl
     | cons a r=>rw [hq]at this;cases this
   rw [show P.types.size+Made.depth=(P.types.size+99)+1 from rfl];unfold nilAhead;simp only [Sem.run_bind,run_typeInfo w hi,Result.andThen_ok,hm,hp,h1.2];simp [followBlind]
  ·cases h1
 ·cases h1
theorem symOp_sound(hT:checkT P T=true)(hok:ρ.Ok)(hops:OpsOk ρ look vals){o:Oper}{res:Res}(h:symOp T look hp nb nv o=some res)
  (hrd:Reads hp ρ w S res.rd) (hvc: ∀b∈res.vcs,b.prop ρ) (hnb:ρ.bv.length=nb):Did P ρ w hp S nb nv ((execOp vals o).run P w) res:=by
 obtain⟨dst,op,ty,pos,aft,gd⟩:=o;have ev: ∀{x v},opEval look x=some v→vals x=v.val ρ:=fun h=>opEval_spec hops h
 cases op with
 | move x=>
  simp only [symOp,Option.map_eq_some_iff]at h;obtain⟨v,hv,rfl⟩:=h;exact did_none (by simp [execOp,ev hv])
 | assign x=>
  simp only [symOp,Option.map_eq_some_iff]at h;obtain⟨v,hv,rfl⟩:=h;exact did_none (by simp [execOp,ev hv])
 | pick c a b=>
  simp only [symOp]at h;split at h
  ·rename_i c' a' b' hc ha hb;rw [Option.map_eq_some_iff]at h;obtain⟨v,hv,rfl⟩:=h;refine did_none ?_;rw [pick_sound hv];simp [execOp,ev hc,ev ha,ev hb,SV.val,asBool]
  ·cases h
 | alloc t=>
  simp only [symOp,Option.bind_eq_some_iff]at h;obtain⟨ti,hti,h⟩:=h;split at h
  ·split at h
   ·rename_i hz;cases h;exact bld_sound hT hnb hti _ (litSame_cells hz)
   ·cases h
  ·cases h;exact alloc_sound hT hnb hti
 | box t x=>
  simp only [symOp]at h;split at h
  ·rename_i v hv;rw [Option.map_eq_some_iff]at h;obtain⟨cs,hcs,rfl⟩:=h;have:=box_sound (P:=P) (w:=w) (hp:=hp) (S:=S) (nv:=nv) hok hnb (t:=t) hcs;simp only [execOp,ev hv];exact this
  ·cases h
 | build t parts=>
  simp only [symOp]at h;split at h
  ·rename_i ti ps hti hps;have hm:PartsMatch ρ ps (parts.map fun x=>(x.1,vals x.2)).toList:=by
    rw [Array.toList_map];exact partsOf_spec hops hok _ _ hps
   split at h
   ·rename_i fs hk;split at h
    ·rename_i hall;rw [Option.map_eq_some_iff]at h;obtain⟨cs,hcs,rfl⟩:=h;have:=build_struct_sound (w:=w) hT hti hk hall hm hcs;exact did_val this
    ·cases h
   ·rename_i n e hk;split at h
    ·rename_i te hte;rw [Option.map_eq_some_iff]at h;obtain⟨cs,hcs,rfl⟩:=h;have:=build_arr_sound (w:=w) hT hti hk hte hm hcs;exact did_val this
    ·cases h
   ·cases h
  ·cases h
 | buildSlice t len parts=>
  simp only [symOp]at h;split at h
  ·rename_i ti ps hti hps;have hm:PartsMatch ρ ps (parts.map fun x=>(x.1,vals x.2)).toList:=by
    rw [Array.toList_map];exact partsOf_spec hops hok _ _ hps
   split at h
   ·rename_i e hk;split at h
    ·rename_i te hte;split at h
     ·rename_i hl0;split at h
      ·rename_i hpe;rw [Option.map_eq_some_iff]at h;obtain⟨zc,hzc,rfl⟩:=h;have hparts:(parts.map fun x=>(x.1,vals x.2))= #[]:=by
        have:ps=[]:=by simpa using hpe
        subst this;apply Array.ext';generalize (parts.map fun x=>(x.1,vals x.2)).toList=l at hm;cases hm;rfl
       have:=buildNil_sound (P:=P) (w:=w) (hp:=hp) (S:=S) (nb:=nb) (nv:=nv) (ρ:=ρ) hT hti hk hte hzc;simp only [execOp,hl0,hparts];exact this
      ·cases h
     ·split at h
      ·cases h
      ·rename_i hl0 hlen;rw [Option.map_eq_some_iff]at h;obtain⟨cs,hcs,rfl⟩:=h;exact buildSlice_sound hT hnb hti hk hte (by rintro (h | h | h);exact hl0 h;exact hlen (.inl h);exact hlen (.inr h)) hm hcs
    ·cases h
   ·cases h
  ·cases h
 | load t x=>
  simp only [symOp]at h;split at h
  ·rename_i ti a hti ha;obtain⟨rfl,hi⟩:=tlook_spec hT hti;obtain⟨h1,h2⟩:=loadSym_sound hi h hrd hvc;obtain⟨rv,rvc,rrd,re⟩:=res;simp only at h2;subst h2;refine did_none ?_;simp only [execOp,ev ha,Sem.run_bind,h1,Result.andThen_ok,Sem.run_pure]
  ·cases h
 | store t x y=>
  simp only [symOp]at h;split at h
  ·rename_i ti a v hti ha hv;obtain⟨rfl,hi⟩:=tlook_spec hT hti;obtain⟨h1,j,ck,h2,w',h3,h4⟩:=storeSym_sound hi h hok hrd hvc;unfold Did;rw [h2];refine⟨w',.inr ⟨h1,?_⟩,h4⟩;simp only [execOp,ev ha,ev hv,Sem.run_bind,h3,Result.andThen_ok,Sem.run_pure]
  ·cases h
 | nilCheck x=>
  simp only [symOp]at h;split at h
  ·rename_i b c hx;cases h;exact did_none (by simp [execOp,ev hx,SV.val])
  ·rename_i b c hx;cases h;exact did_none (by simp [execOp,ev hx,SV.val])
  ·rename_i e hx;cases h;have hz:=hvc (bNz e) (by simp);have hne:e.den ρ 0≠0:=by
    rw [←BE.den_iff,bNz_den]at hz;simpa using hz
   exact did_none (by simp [execOp,ev hx,SV.val,ptrV,hne])
  ·rename_i v i s c hx;split at h
   ·rename_i j md v' t s' n cols hf;cases h;obtain⟨hj,hat⟩:=findOwn_spec hf;simp only [Ck.ownOf,beq_iff_eq]at hat;subst hat;have hS:=hrd j (by simp) _ hj;obtain⟨h0,h1⟩:=inRange_prop ρ hvc;obtain⟨a,cp,he⟩:=sli_addr hS (by omega);have e2:(SV.pv v i s c).val ρ= .pointer (some (a.add ((i.den ρ 0).toNat*s+c))):=by rw [SV.val,he];rfl
    refine did_none ?_;simp only [execOp,ev hx,e2,Sem.run_pure]
   ·cases h
  ·rename_i f cs hx;cases h;exact did_none (by simp [execOp,ev hx,SV.val])
  ·rename_i t b c hx;cases h;exact did_none (by simp [execOp,ev hx,SV.val])
  ·rename_i name t b c hx;split at h
   ·rename_i ti hti;split at h
    ·rename_i hms;cases h;refine did_none ?_;simp only [execOp,ev hx,SV.val];simp [nilAhead_run hT hti hms,run_program]
    ·cases h
   ·cases h
  ·cases h
 | binOp op t x y yt=>
  simp only [symOp]at h;split at h
  ·rename_i ti a b hti ha hb;obtain⟨rfl,hi⟩:=tlook_spec hT hti;split at h
   ·rename_i r hr;cases h;have hr2:=ifaceNil_run (P:=P) (w:=w) (ρ:=ρ) hi (xo:=x) hr;obtain⟨e1,h1,h2⟩:=hr2;subst e1;obtain⟨rv,rvc,rrd,re⟩:=res;simp only at h2;subst h2;refine did_none ?_;have hy:vals (.const .nilIface)= .nilIface:=by
     have:opEval look (.const .nilIface)=some .nili:=rfl;exact ev this
    simp only [execOp,ev ha,hy];rw [Sem.run_bind,h1];rfl
   split at h
   ·rename_i r hr;cases h;obtain⟨h1,h2⟩:=sliceNil_run (P:=P) (w:=w) (ρ:=ρ) hi (xo:=x) (yo:=y) hrd hr;obtain⟨rv,rvc,rrd,re⟩:=res;simp only at h2;subst h2;refine did_none ?_;simp only [execOp,ev ha,ev hb];rw [Sem.run_bind,h1];rfl
   obtain⟨h1,h2⟩:=run_binOp hi (w:=w) (xo:=x) (yo:=y) h hvc;obtain⟨rv,rvc,rrd,re⟩:=res;simp only at h2;subst h2;refine did_none ?_;simp only [execOp,ev ha,ev hb];rw [Sem.run_bind,h1];rfl
  ·cases h
 | unOp op t x=>
  simp only [symOp]at h;split at h
  ·rename_i b hb;cases h;refine did_none ?_;simp [execOp,ev hb,SV.val,Op.unary,bNot_den]
  ·rename_i k a ha;cases h;refine did_none ?_;simp only [SV.val,eBin_den,E.den];cases k<;>simp [execOp,ev ha,SV.val,Op.unary,Op.intBits,IntKind.signed,IntKind.max,isSigned,IntKind.hi,iop,bitsOp,IntKind.bits]
  ·rename_i k a ha;simp only [Option.some.injEq]at h;subst h;refine did_none ?_;simp only [SV.val,fitK_den hvc,eSub_den,E.den];simp [execOp,ev ha,SV.val,Op.unary,Op.intArith]
  ·cases h
 | convert src dst x=>
  simp only [symOp]at h;split at h
  ·rename_i ti1 ti2 k' a h1 h2 ha;split at h
   ·rename_i k hk;cases h;obtain⟨rfl,hi1⟩:=tlook_spec hT h1;obtain⟨rfl,hi2⟩:=tlook_spec hT h2;have hkk:=hi2.kind;rw [hk]at hkk;have hu:=kind_int hkk;have hu1:(P.underlying ti1.t).isSome=true:=by
     have:=hi1.kind;unfold tkOk at this;split at this<;>simp_all
    have hik:P.intKind ti2.t=k:=by simp [Program.intKind,hu]
    refine did_val ?_;rw [ev ha,SV.val,run_convert_int w ti1.t ti2.t k' _ hu1 (by rw [hik];exact hu),hik,SV.val,convK_den hvc]
   ·cases h
  ·rename_i ti1 ti2 l h1 h2 ha;split at h
   ·rename_i hk;have:=bytesOwn_sound (P:=P) (w:=w) (hp:=hp) (S:=S) (nb:=nb) (ρ:=ρ) hT h1 hk h2 h;simp only [execOp,ev ha];exact this
   ·cases h
  ·rename_i ti1 ti2 l h1 h2 ha;split at h
   ·rename_i hk;have:=bytesOf_sound (P:=P) (w:=w) (hp:=hp) (S:=S) (nb:=nb) (ρ:=ρ) hT h1 hk h2 h hvc;simp only [execOp,ev ha];exact this
   ·cases h
  ·rename_i ti1 ti2 b i s n m h1 h2 ha;split at h
   ·rename_i e hk;split at h
    ·rename_i te j b' cs hte hf;split at h
     ·rename_i hc;obtain⟨rfl,hu8⟩:=hc;cases h;obtain⟨e2,hi2⟩:=tlook_spec hT h2;subst e2;obtain⟨rfl,hie⟩:=tlook_spec hT hte;have hkk:=hi2.kind;rw [hk]at hkk;have hu:=kind_slice hkk;have hke:=hie.kind;rw [hu8]at hke;have hue:=kind_int hke;obtain⟨hj,hat⟩:=findAt_spec hf;simp only [Ck.isAt,beq_iff_eq]at hat;subst hat;have hS:=hrd j (by simp) _ hj;obtain⟨w',r1,r2,r3,r4,r5⟩:=run_convert_mark (P:=P) hS ti2.t te.t hu hue ((i.den ρ 0).toNat*s) (n.den ρ 0).toNat (m.den ρ 0).toNat;refine⟨w',.inl ?_,⟨⟨_,hj,rfl⟩,rfl,r2,r3,fun k hk=>r4 k fun e=>hk ((hS.1 k).2 e),r5⟩⟩;simp only [execOp,ev ha,SV.val,Sem.run_bind,r1,Result.andThen_ok,Sem.run_pure]
     ·cases h
    ·cases h
   ·rename_i hk;have:=bytesStr_sound (P:=P) (w:=w) (ρ:=ρ) (nb:=nb) (nv:=nv) hT h2 hk h hrd hvc;simp only [execOp,ev ha];exact this
   ·cases h
  ·rename_i ti1 ti2 v h1 h2 ha;split at h
   ·rename_i hk;have:=bytesStr_sound (P:=P) (w:=w) (ρ:=ρ) (nb:=nb) (nv:=nv) hT h2 hk h hrd hvc;simp only [execOp,ev ha];exact this
   ·cases h
  ·rename_i ti1 ti2 v cs s h1 h2 ha;split at h
   ·rename_i hk;have:=bytesStr_sound (P:=P) (w:=w) (ρ:=ρ) (nb:=nb) (nv:=nv) hT h2 hk h hrd hvc;simp only [execOp,ev ha];exact this
   ·cases h
  ·rename_i ti1 ti2 h1 h2 ha;split at h
   ·rename_i hk;have:=bytesStr_sound (P:=P) (w:=w) (ρ:=ρ) (nb:=nb) (nv:=nv) hT h2 hk h hrd hvc;simp only [execOp,ev ha];exact this
   ·cases h
  ·cases h
 | makeInterface t x=>
  simp only [symOp]at h;split at h
  ·rename_i ti k e hti hx;split at h
   ·rename_i hk;cases h;obtain⟨rfl,hi⟩:=tlook_spec hT hti;have hkk:=hi.kind;rw [hk]at hkk;have hu:=kind_int hkk;refine did_none ?_;have hc:P.concrete ti.t=true:=by simp [Go.Program.concrete,hu]
    simp only [execOp,ev hx,Sem.run_bind,run_makeInterface w ti.t _ hc,Result.andThen_ok,Sem.run_pure,SV.val]
   ·cases h
  ·rename_i ti b c hti hx;split at h
   ·rename_i e hk;cases h;obtain⟨rfl,hi⟩:=tlook_spec hT hti;have hkk:=hi.kind;rw [hk]at hkk;have hu:=kind_ptr hkk;refine did_none ?_;have hc:P.concrete ti.t=true:=by simp [Go.Program.concrete,hu]
    simp only [execOp,ev hx,Sem.run_bind,run_makeInterface w ti.t _ hc,Result.andThen_ok,Sem.run_pure,SV.val]
   ·cases h
  ·cases h
 | sliceToArrayPointer arr x=>
  simp only [symOp]at h;split at h
  ·rename_i ta v hta hv;split at h
   ·rename_i n e hk;split at h
    ·rename_i te hte;split at h
     ·cases h
     ·rename_i hn0;obtain⟨rfl,hi1⟩:=tlook_spec hT hta;have hkk:=hi1.kind;rw [hk]at hkk;have hu:=kind_arr hkk;split at h
      ·rename_i b i s m c;cases h;have q:=bLe'_prop hvc;simp only [E.den]at q;refine did_none ?_;simp only [execOp,ev hv,SV.val,mkPtr_val];have: ¬(m.den ρ 0).toNat<n:=by omega
       simp [Instr.arrayAt,run_underlying hu,this]
      ·split at h
       ·rename_i v _ r hr;cases h;simp only at hvc hrd;obtain⟨q1,q2⟩:=mem_app hvc;have q:=bLe'_prop q2;simp only [E.den]at q;obtain⟨hj,hsub⟩:=rootSV_spec hr hrd q1;have hlo:=hsub.lo;have hhi:=hsub.hi;obtain⟨a,cp,k,e1,e2,e3,e4⟩:=hsub.is;have hlt:(r.p.lo.den ρ 0).toNat<(Option.map Int.toNat (Option.map (fun m=>m.den ρ 0) r.p.mx)).getD cp:=by
         cases hm:r.p.mx with
         | none=>simp only [Option.map_none,Option.getD_none];omega
         | some m=>
          have:=(hsub.top (m.den ρ 0) (by rw [hm];rfl)).1;simp only [Option.map_some,Option.getD_some];omega
        have hk':=e4 (.inl hlt);have hS:=hrd r.j (by simp) _ hj;refine did_none ?_;simp only [execOp,ev hv,SV.val];rw [e3];have: ¬(r.p.len.den ρ 0).toNat<n:=by omega
        have haddr: ∃ad,a=some ad:=by
         obtain⟨ad,c2,hh⟩:=sli_addr hS (by omega);rw [hh]at e1;simp only [Value.slice.injEq]at e1;exact⟨ad,e1.1.symm⟩
        obtain⟨ad,rfl⟩:=haddr;rw [e1];simp [Instr.arrayAt,run_underlying hu,this,intoSlice,hk']
       ·cases h
    ·cases h
   ·cases h
  ·cases h
 | fieldAddr s x f=>
  simp only [symOp]at h;split at h
  ·rename_i ts a hts ha;split at h
   ·rename_i fs hk;split at h
    ·rename_i t off hf;split at h
     ·rename_i ti hti;split at h
      ·cases h
      ·rename_i hsz;have hrun:=fun ad=>run_fieldAt_sound (w:=w) hT hts hk hf hti hsz ad
       split at h
       ·cases h;refine did_val ?_;rw [ev ha,SV.val,hrun,addr_add_lit,SV.val]
       ·cases h;refine did_val ?_;rw [ev ha,SV.val,hrun,addr_add_lit,SV.val,Nat.add_assoc]
       ·rename_i v i s' c;split at h
        ·rename_i j md v' t' s2 n cols hown;cases h;obtain⟨hj,hat⟩:=findOwn_spec hown;simp only [Ck.ownOf,beq_iff_eq]at hat;subst hat;have hS:=hrd j (by simp) _ hj;obtain⟨h0,h1⟩:=inRange_prop ρ hvc;obtain⟨ad,cp,he⟩:=sli_addr hS (by omega);refine did_val ?_;rw [ev ha,SV.val,he,intoSlice,hrun,addr_add_add,SV.val,he,intoSlice,Nat.add_assoc]
        ·cases h
       ·cases h
     ·cases h
    ·cases h
   ·cases h
  ·cases h
 | field s x f=>
  simp only [symOp]at h;split at h
  ·rename_i ts cs hts ha;split at h
   ·rename_i fs hk;split at h
    ·rename_i t off hf;split at h
     ·rename_i ti hti;split at h
      ·rename_i xs hxs;rw [Option.map_eq_some_iff]at h;obtain⟨v,hv,rfl⟩:=h;refine did_val ?_;rw [ev ha,SV.val];exact run_field_sound hT hts hk hf hti hxs hv
      ·cases h
     ·cases h
    ·cases h
   ·cases h
  ·cases h
 | indexAddr t x y=>
  simp only [symOp]at h;split at h
  ·rename_i tt a k j htt ha hy;split at h
   ·rename_i e hk;split at h
    ·rename_i te hte;split at h
     ·rename_i b i s n m;split at h
      ·rename_i hsz;cases h;have hi0:0≤i.den ρ 0:=nonNeg_prop fun c hc=>hvc c (List.mem_append_left _ hc)
       obtain⟨h0,h1⟩:=inRange_prop ρ (i:=j) (n:=n) fun c hc=>hvc c (List.mem_append_right _ hc)
       refine did_val ?_;rw [ev ha,ev hy,SV.val,SV.val,run_indexAt_sl hT htt hk hte _ _ _ _ _ h0 (by omega),addr_add_lit,mkPtr_val,eAdd_den,hsz,Int.toNat_add hi0 h0,Nat.add_mul,Nat.add_zero]
      ·cases h
     ·split at h
      ·rename_i r hr;split at h
       ·rename_i hsz;cases h;simp only at hvc hrd;obtain⟨w1,w2⟩:=mem_app hvc;obtain⟨hj,hsub⟩:=rootSV_spec hr hrd w1;obtain⟨h0,h1⟩:=inRange_prop ρ w2;obtain⟨b1,b2,b3,ad,c,q,hv,hc,hx,hq⟩:=hsub;have htop:(r.p.lo.den ρ 0).toNat<((r.p.mx.map fun m=>m.den ρ 0).map Int.toNat).getD c:=by
         cases hmx:(r.p.mx.map fun m=>m.den ρ 0)with
         | none=>simp only [Option.map_none,Option.getD_none];omega
         | some m=>have:=b3 m hmx;simp only [Option.map_some,Option.getD_some];omega
        have hq:=hq (.inl htop);have hne: ∃ad0,ad=some ad0:=by
         cases ad with
         | some ad0=>exact⟨ad0,rfl⟩
         | none=>
          obtain⟨a',cp',he⟩:=sli_addr (hrd r.j (by simp) _ hj) (by omega);rw [hv]at he;cases he
        obtain⟨ad,rfl⟩:=hne;refine did_val ?_;have e3:(SV.int k j).val ρ= .int k (j.den ρ 0):=rfl;have e2:(SV.pv r.v (eAdd r.p.lo j) r.s 0).val ρ= .pointer (some (ad.add ((r.p.lo.den ρ 0+j.den ρ 0).toNat*r.s+0))):=by rw [SV.val,hv,eAdd_den];rfl
        rw [ev ha,ev hy,hx,e2,e3,Option.map_some,run_indexAt_sl hT htt hk hte _ _ _ _ _ h0 (by omega),hsz,Nat.add_zero,addr_add_add,hq,←Nat.add_mul,←Int.toNat_add b1 h0]
       ·cases h
      ·cases h
    ·cases h
   ·rename_i n e hk;split at h
    ·rename_i te hte;split at h
     ·rename_i b c;cases h;obtain⟨h0,h1⟩:=inRange_prop ρ hvc;refine did_val ?_;rw [ev ha,ev hy,SV.val,SV.val,run_indexAt_ar hT htt hk hte _ _ _ h0 h1,addr_add_lit,mkPtr_val,Nat.add_comm]
     ·cases h
    ·cases h
   ·cases h
  ·cases h
 | index t x y=>
  simp only [symOp]at h;split at h
  ·rename_i tt cs k j htt ha hy;split at h
   ·rename_i n e hk;split at h
    ·rename_i te hte;have hi:=(tlook_spec hT hte).2;split at h
     ·rename_i l hl;split at h
      ·rename_i hln;split at h
       ·rename_i xs hxs;rw [Option.map_eq_some_iff]at h;obtain⟨v,hv,rfl⟩:=h;refine did_val ?_;have hd:=litNat_den (ρ:=ρ) hl;rw [ev ha,ev hy,SV.val,SV.val];refine run_index_ar hT htt hk hte _ _ _ (by omega) (by omega) ?_;rw [hd,Int.toNat_natCast];exact part_sound hi hxs hv
       ·cases h
      ·cases h
     ·split at h
      ·rename_i k' m a;split at h
       ·rename_i hc;obtain⟨rfl,hs1,hagg⟩:=hc;cases h;obtain⟨h0,h1⟩:=inRange_prop ρ hvc;refine did_val ?_;rw [ev ha,ev hy,SV.val,SV.val];refine run_index_ar hT htt hk hte _ _ _ h0 h1 ?_;have hlt:(j.den ρ 0).toNat<m:=by simp only [E.den]at h1;omega
        have hget:(SV.cellsL ρ [SV.seg k' m a])[(j.den ρ 0).toNat]? =some (.int k' (a.den ρ (j.den ρ 0).toNat)):=by
         simp only [SV.cellsL,SV.cells,List.append_nil];rw [segCells_getElem?,if_pos hlt]
        rw [hs1,Nat.mul_one,eSel_den];simp [part,hi.isAgg w,hagg,hget]
       ·cases h
      ·cases h
    ·cases h
   ·cases h
  ·rename_i tt v k j _ htt hx hy;split at h
   ·rename_i hk;obtain⟨h1,h2⟩:=idxStr_sound (P:=P) (w:=w) (ρ:=ρ) (k:=k) hT htt hk h hvc;obtain⟨rv,rvc,rrd,re⟩:=res;simp only at h2;subst h2;refine did_val ?_;rw [ev hx,ev hy];exact h1
   ·cases h
  ·cases h
 | extract x i=>
  simp only [symOp]at h;split at h
  ·rename_i vs hx;rw [Option.map_eq_some_iff]at h;obtain⟨v,hv,rfl⟩:=h;refine did_none ?_;have:(SV.vals ρ vs)[i]? =some (v.val ρ):=by
    have key: ∀(l:List SV) (i:Nat),(SV.vals ρ l)[i]? =(l[i]?).map (SV.val ρ):=by
     intro l
     induction l with
     | nil=>intro i;simp [SV.vals]
     | cons x r ih=>intro i;cases i<;>simp [SV.vals,ih]
    rw [key,hv];rfl
   simp [execOp,ev hx,SV.val,Instr.extract,this]
  ·cases h
 | makeFunc fn first caps=>
  simp only [symOp]at h;split at h
  ·rename_i f hfirst;rw [Option.map_eq_some_iff]at h;obtain⟨cs,hcs,rfl⟩:=h;have:=optAll_spec hops _ _ hcs;have hf:first= #[]:=Array.ext' hfirst
   subst hf;refine did_none ?_;simp only [execOp,Sem.run_bind,Instr.makeFunc,Sem.run_pure,Result.andThen_ok,SV.val];have e5:Array.map vals caps=(SV.vals ρ cs).toArray:=Array.ext' (by rw [Array.toList_map,this]);rw [e5];simp
  ·rename_i f x r hfirst;split at h
   ·rename_i hcaps;rw [Option.map_eq_some_iff]at h;obtain⟨cs,hcs,rfl⟩:=h;rw [←hfirst]at hcs;have:=optAll_spec hops _ _ hcs;have hf:caps= #[]:=by simpa using hcaps
    subst hf;refine did_none ?_;simp only [execOp,Sem.run_bind,Instr.makeFunc,Sem.run_pure,Result.andThen_ok,SV.val];have e5:Array.map vals first=(SV.vals ρ cs).toArray:=Array.ext' (by rw [Array.toList_map,this])
    rw [e5];simp
   ·cases h
  ·rename_i name x hfirst;split at h
   ·rename_i hcaps;split at h
    ·rename_i t b c hx;cases h;have hf:caps= #[]:=by simpa using hcaps
     have hf1:first= #[x]:=Array.ext' hfirst
     subst hf hf1;refine did_none ?_;simp only [execOp,Sem.run_bind,Instr.makeFunc,Sem.run_pure,Result.andThen_ok,SV.val];simp [ev hx,SV.val]
    ·cases h
   ·cases h
  ·cases h
 | call c=>
  obtain⟨callee,args,argTypes⟩:=c;simp only [symOp]at h;split at h
  ·rename_i x t hargs htys;have hf:args= #[x]:=Array.ext' hargs;have hg:argTypes= #[t]:=Array.ext' htys;subst hf hg;split at h
   ·rename_i tt v htt hv;obtain⟨h1,h2⟩:=len_sound (P:=P) hT htt h hrd hvc ty;obtain⟨rv,rvc,rrd,re⟩:=res;simp only at h2;subst h2;refine did_none ?_;simp only [execOp,resolve,invoke,builtin,Sem.run_bind,Sem.run_pure,Result.andThen_ok,List.map_toArray,List.map_cons,List.map_nil,ev hv];rw [h1];rfl
   ·cases h
  ·rename_i x t hargs htys;have hf:args= #[x]:=Array.ext' hargs;have hg:argTypes= #[t]:=Array.ext' htys;subst hf hg;split at h
   ·rename_i tt htt hv;split at h
    ·rename_i e hk;cases h;obtain⟨rfl,htt'⟩:=tlook_spec hT htt;have hkk:=htt'.kind;rw [hk]at hkk;have hu:=kind_slice hkk;refine did_none ?_;have hc:(Builtin.cap_ #[tt.t] ty #[.slice none 0 0]).run P w= .ok (goInt 0) w:=by
      simp [Builtin.cap_,run_underlying hu]
     simp only [execOp,resolve,invoke,builtin,Sem.run_bind,Sem.run_pure,Result.andThen_ok,List.map_toArray,List.map_cons,List.map_nil,ev hv,SV.val];rw [hc];rfl
    ·cases h
   ·rename_i tt v cs s htt hv;split at h
    ·rename_i e r hk hr;split at h
     ·rename_i m hmx;cases h;obtain⟨rfl,htt'⟩:=tlook_spec hT htt;have hkk:=htt'.kind;rw [hk]at hkk;have hu:=kind_slice hkk;obtain⟨v1,v2⟩:=mem_app hvc;have v2:=bLe'_prop v2;obtain⟨_,hsub⟩:=rootSV_spec hr hrd v1;obtain⟨g1,_,_,a,c,k,_,_,hx,_⟩:=hsub;rw [hmx]at hx;simp only [Option.map_some,Option.getD_some]at hx;refine did_none ?_;have hc:(Builtin.cap_ #[tt.t] ty #[(SV.vsub v cs s).val ρ]).run P w= .ok (goInt ((eSub m r.p.lo).den ρ 0)) w:=by
       rw [hx,eSub_den];simp only [Builtin.cap_,List.getElem?_toArray,List.getElem?_cons_zero,Sem.run_bind,run_underlying hu,Result.andThen_ok,Sem.run_pure];rw [show(((E.den ρ m 0).toNat - (E.den ρ r.p.lo 0).toNat:Nat):Int)=E.den ρ m 0 - E.den ρ r.p.lo 0 by omega]
      simp only [execOp,resolve,invoke,builtin,Sem.run_bind,Sem.run_pure,Result.andThen_ok,List.map_toArray,List.map_cons,List.map_nil,ev hv];rw [hc];rfl
     ·cases h
    ·cases h
   ·cases h
  ·rename_i x y hargs;have hf:args= #[x,y]:=Array.ext' hargs;subst hf;split at h
   ·rename_i k a k' b ha hb;cases h;refine did_none ?_;simp only [execOp,resolve,invoke,builtin,Sem.run_bind,Sem.run_pure,Result.andThen_ok,List.map_toArray,List.map_cons,List.map_nil,ev ha,ev hb,SV.val,eBin_den];simp [Builtin.max_,Builtin.max2,iop]
   ·cases h
  ·rename_i x y hargs;have hf:args= #[x,y]:=Array.ext' hargs;subst hf;split at h
   ·rename_i k a k' b ha hb;cases h;refine did_none ?_;simp only [execOp,resolve,invoke,builtin,Sem.run_bind,Sem.run_pure,Result.andThen_ok,List.map_toArray,List.map_cons,List.map_nil,ev ha,ev hb,SV.val,eBin_den];simp [Builtin.min_,Builtin.min2,iop]
   ·cases h
  ·rename_i x y t t' hargs htys;have hf:args= #[x,y]:=Array.ext' hargs;have hg:argTypes= #[t,t']:=Array.ext' htys;subst hf hg;split at h
   ·rename_i tt v u htt hv hu;have:=appendAny_sound (P:=P) (w:=w) (nb:=nb) hT hok htt h hrd hvc ty;simp only [execOp,resolve,invoke,builtin,Sem.run_bind,Sem.run_pure,Result.andThen_ok,List.map_toArray,List.map_cons,List.map_nil,ev hv,ev hu];simp only [Sem.run_bind,Sem.run_pure]at this;exact this
   ·cases h
  ·rename_i x t hargs htys;have hf:args= #[x]:=Array.ext' hargs;have hg:argTypes= #[t]:=Array.ext' htys;subst hf hg;split at h
   ·rename_i tt v htt hv;have:=clearSym_sound (P:=P) (w:=w) (nb:=nb) (nv:=nv) hT htt h hrd hvc ty;simp only [execOp,resolve,invoke,builtin,Sem.run_bind,Sem.run_pure,Result.andThen_ok,List.map_toArray,List.map_cons,List.map_nil,ev hv];simp only [Sem.run_bind,Sem.run_pure]at this;exact this
   ·cases h
  ·rename_i x y t t' hargs htys;have hf:args= #[x,y]:=Array.ext' hargs;have hg:argTypes= #[t,t']:=Array.ext' htys;subst hf hg;split at h
   ·rename_i tt v u htt hv hu;split at h
    ·rename_i heq;subst heq;have:=copySym_sound (P:=P) (w:=w) (nb:=nb) (nv:=nv) hT htt h hrd hvc ty;simp only [execOp,resolve,invoke,builtin,Sem.run_bind,Sem.run_pure,Result.andThen_ok,List.map_toArray,List.map_cons,List.map_nil,ev hv,ev hu];simp only [Sem.run_bind,Sem.run_pure]at this;exact this
    ·cases h
   ·cases h
  ·cases h
 | slice t x lo hi mx=>
  simp only [symOp]at h;split at h
  ·rename_i tt v l hh m htt hv hl hhi hm;split at h
   ·rename_i hk;split at h
    ·cases h
    ·rename_i hmx;have hmn:m=none:=by cases m<;>simp_all
     subst hmn;obtain⟨h1,h2⟩:=sliceStr_sound (P:=P) (w:=w) (ρ:=ρ) hT htt hk h (intOpt_spec hops hl) (intOpt_spec hops hhi) hvc;have hmx':mx.map vals=none:=by
      have:=intOpt_spec hops hm;cases hq:mx.map vals with
      | none=>rfl
      | some v=>rw [hq]at this;exact this.elim
     obtain⟨rv,rvc,rrd,re⟩:=res;simp only at h2;subst h2;refine did_val ?_;rw [ev hv,hmx'];exact h1
   obtain⟨h1,h2⟩:=sliceSym_sound (P:=P) (w:=w) hT htt h (intOpt_spec hops hl) (intOpt_spec hops hhi) (intOpt_spec hops hm) hrd hvc;obtain⟨rv,rvc,rrd,re⟩:=res;simp only at h2;subst h2;refine did_val ?_;rw [ev hv];exact h1
  ·cases h
 | makeMap t r=>
  cases r with
  | some r=>simp [symOp]at h
  | none=>
   simp only [symOp]at h;have:=makeMapSym_sound (P:=P) (w:=w) (hp:=hp) (S:=S) (nv:=nv) (ρ:=ρ) hT hnb h;simp only [execOp,Option.map_none];exact this
 | lookup t x k comma=>
  simp only [symOp]at h;split at h
  ·rename_i x' k' hx hk;obtain⟨h1,h2⟩:=lookupSym_sound (P:=P) (w:=w) hT h hrd;obtain⟨rv,rvc,rrd,re⟩:=res;simp only at h2;subst h2;refine did_val ?_;rw [ev hx,ev hk];exact h1
  ·cases h
 | mapUpdate t x k v=>
  simp only [symOp]at h;split at h
  ·rename_i x' k' v' hx hk hv;obtain⟨h1,j,ck,h2,w',h3,h4⟩:=updateSym_sound (P:=P) (w:=w) hT h hrd;unfold Did;rw [h2];refine⟨w',.inr ⟨h1,?_⟩,h4⟩;simp only [execOp,ev hx,ev hk,ev hv,Sem.run_bind,h3,Result.andThen_ok,Sem.run_pure]
  ·cases h
 | mapEntry t x k=>
  simp only [symOp]at h;split at h
  ·rename_i x' k' hx hk;obtain⟨j,ck,h2,w',h3,h4⟩:=entrySym_sound (P:=P) (w:=w) hT h hrd hvc;unfold Did;rw [h2];refine⟨w',.inl ?_,h4⟩;simp only [execOp,ev hx,ev hk,Sem.run_bind,h3,Result.andThen_ok,Sem.run_pure]
  ·cases h
 | entryStore t x s v=>
  simp only [symOp]at h;split at h
  ·rename_i x' s' v' hx hs hv;obtain⟨h1,j,ck,h2,w',h3,h4⟩:=stampSym_sound (P:=P) (w:=w) t h hrd hvc;unfold Did;rw [h2];refine⟨w',.inr ⟨h1,?_⟩,h4⟩;simp only [execOp,ev hx,ev hs,ev hv,Sem.run_bind,h3,Result.andThen_ok,Sem.run_pure]
  ·cases h
 | insert t x k v=>
  simp only [symOp]at h;split at h
  ·rename_i x' k' v' hx hk hv;obtain⟨h1,j,ck,h2,w',h3,h4⟩:=updateSym_sound (P:=P) (w:=w) hT h hrd;unfold Did;rw [h2];refine⟨w',.inr ⟨h1,?_⟩,h4⟩;simp only [execOp,ev hx,ev hk,ev hv,Sem.run_bind,h3,Result.andThen_ok,Sem.run_pure]
  ·cases h
 | makeSlice t n c=>
  simp only [symOp]at h;split at h
  ·rename_i tt k n' k' c' htt hn hc;have:=makeSym_sound (P:=P) (w:=w) (hp:=hp) (S:=S) (nb:=nb) (ρ:=ρ) hT htt h hvc k k';have en:vals n= .int k (n'.den ρ 0):=ev hn;have ec:vals c= .int k' (c'.den ρ 0):=ev hc;simp only [execOp,en,ec];exact this
  ·cases h
 | range t x=>
  simp only [symOp]at h;split at h
  ·rename_i ti l hti hx;split at h
   ·rename_i hk;cases h;obtain⟨rfl,hi⟩:=tlook_spec hT hti;have k1:=hi.kind;rw [hk]at k1;have hu:=kind_str k1;refine⟨w.alloc (.stringIter ⟨l.toArray⟩ 0),_,if_pos rfl,?_,⟨rfl,rfl,rfl,by simp⟩,by simp,fun k hk=>heap_alloc_old w _ hk,fun k=>Iff.rfl,heap_alloc_new w _⟩;subst hnb;have e1:vals x= .string ⟨l.toArray⟩:=ev hx;simp only [execOp,e1,Sem.run_bind,run_range_string w _ _ hu,Result.andThen_ok,Sem.run_pure,SV.val,List.getD_eq_getElem?_getD,getD_addB];rfl
   ·cases h
  ·rename_i ti m hti hx;unfold rangeMap at h;split at h
   ·rename_i kt vt hk;split at h
    ·rename_i j b' kl2 ka2 va2 zero has cols hf;cases h;obtain⟨hj,hat⟩:=findMap_spec hf;simp only [Ck.isMap,beq_iff_eq]at hat;subst hat;obtain⟨rfl,hi⟩:=tlook_spec hT hti;have k1:=hi.kind;rw [hk]at k1;have hu:=kind_map k1;obtain⟨_,⟨es,cl,hb,hc⟩,_⟩:=hrd j (by simp) _ hj;refine⟨w.alloc (.mapIter (some (ρ.bv.getD m 0)) cl #[] cl),_,if_pos rfl,?_,⟨rfl,rfl,rfl,by simp⟩,by simp,fun k hk=>heap_alloc_old w _ hk,fun k=>Iff.rfl,cl,heap_alloc_new w _⟩;subst hnb;have e1:vals x= .map (some (ρ.bv.getD m 0)):=ev hx;have hrr:=run_range_map (P:=P) w _ _ _ (ρ.bv.getD m 0) es cl hu hb;simp only [execOp,e1,Sem.run_bind,hrr,Result.andThen_ok,Sem.run_pure,SV.val];simp only [List.getD_eq_getElem?_getD,getD_addB]
    ·cases h
   ·cases h
  ·cases h
 | next x b=>
  cases b with
  | false=>
   simp only [symOp,Option.bind_eq_some_iff]at h;obtain⟨v,hv,h⟩:=h;unfold nextMap at h;split at h
   ·rename_i b;split at h
    ·rename_i j hj0;split at h
     ·rename_i b' m hj;split at h
      ·rename_i hbb;subst hbb;split at h
       ·rename_i i bm kl2 ka2 va2 zero has cols hf;split at h
        ·rename_i h0;cases h;obtain⟨hi,hat⟩:=findMap_spec hf;simp only [Ck.isMap,beq_iff_eq]at hat;subst hat;have e1:vals x= .pointer (some ⟨ρ.bv.getD b 0,0,none⟩):=ev hv;obtain⟨hS,c,hh⟩:=hrd j (by simp) _ hj;obtain⟨_,⟨es,cl,hb,hc⟩,_⟩:=hrd i (by simp) _ hi;have hz:=litNat_den (ρ:=ρ) h0;rw [eSel_den]at hz;have hes:es= #[]:=by
          have:es.size=0:=by
           have e0:(E.den ρ (.lit 0) 0).toNat=0:=rfl;rw [e0]at hz;rw [hz]at hc;exact(Int.ofNat.inj hc).symm
          exact Array.eq_empty_of_size_eq_zero this
         have hn:=run_next_at (P:=P) w ty (ρ.bv.getD b 0) (ρ.bv.getD m 0) c c #[] es cl hh hb (by rw [hes];intro x hx;cases hx) (Nat.le_refl _);rcases hn with⟨_,hn⟩ | ⟨e,he,_⟩
         ·refine did_none ?_;simp only [execOp,e1,Sem.run_bind,hn,Result.andThen_ok,Sem.run_pure,SV.val,SV.vals];rfl
         ·rw [hes]at he;simp [leftOf]at he
        ·cases h
       ·cases h
      ·cases h
     ·cases h
    ·cases h
   ·cases h
  | true=>
   simp only [symOp,Option.bind_eq_some_iff]at h;obtain⟨v,hv,h⟩:=h;unfold nextSym at h;split at h
   ·rename_i b;split at h
    ·rename_i j hj0;split at h
     ·rename_i b' l pos hj;split at h
      ·rename_i hbb;subst hbb;have e1:vals x= .pointer (some ⟨ρ.bv.getD b 0,0,none⟩):=ev hv;split at h
       ·rename_i c hc;split at h
        ·rename_i h128;cases h;obtain⟨hS,hh⟩:=hrd j (by simp) _ hj;obtain⟨hlt,hget⟩:=List.getElem?_eq_some_iff.1 hc;have hps:pos<(⟨l.toArray⟩:ByteArray).size:=by simpa [ByteArray.size] using hlt
         have hce:(⟨l.toArray⟩:ByteArray)[pos]'hps=c:=by
          show l.toArray[pos]'_=c;simpa using hget
         have hn:=Lib.run_next_ascii_at (P:=P) w (ρ.bv.getD b 0) ⟨l.toArray⟩ pos ty hh hps (by rw [hce];exact h128);rw [hce]at hn;refine⟨w.iterAt (ρ.bv.getD b 0) ⟨l.toArray⟩ (pos+1),.inl ?_,⟨⟨_,hj,rfl⟩,rfl,⟨rfl,rfl,rfl,by simp [World.iterAt]⟩,by simp [World.iterAt],fun k hk=>?_,fun k=>hS k,?_⟩⟩
         ·simp only [execOp,e1,Sem.run_bind,hn,Result.andThen_ok,Sem.run_pure,SV.val,SV.vals];rfl
         ·have: ¬k=ρ.bv.getD b 0:=fun e=>hk ((hS k).2 e)
          exact Array.getElem?_setIfInBounds_ne (Ne.symm this)
         ·exact Lib.iterAt_heap w _ _ pos (pos+1) hh
        ·cases h
       ·rename_i hc;cases h;obtain⟨hS,hh⟩:=hrd j (by simp) _ hj;have hn:=Lib.run_next_end_at (P:=P) w (ρ.bv.getD b 0) ⟨l.toArray⟩ pos ty hh (by
         rw [List.getElem?_eq_none_iff]at hc;simpa [ByteArray.size] using hc)
        refine did_none ?_;simp only [execOp,e1,Sem.run_bind,hn,Result.andThen_ok,Sem.run_pure,SV.val,SV.vals];rfl
      ·cases h
     ·cases h
    ·cases h
   ·cases h
 | _=>simp [symOp]at h
end
end Go.RX
