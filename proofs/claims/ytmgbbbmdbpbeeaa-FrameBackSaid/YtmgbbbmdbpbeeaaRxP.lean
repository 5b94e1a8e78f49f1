/- Executor. -/
import Derived.Lib.OthersKept
import Derived.Test.YtmgbbbmdbpbeeaaRxOi
import Derived.Lib.ConvBytes
open Go.Builtin renaming append_ → ad2
open Go.Op renaming equalIn → ad4
open Go.Result renaming andThen_ok → adC
open Go.Sem renaming run_bind → adL, run_pure → ad_
open Int renaming toNat → ag
open List renaming getD_cons_zero → ah, getElem?_append_left → adz, getElem?_eq_getElem → ad8, getElem?_eq_some_iff → adu, map_cons → adT, map_toArray → aed, mem_cons_of_mem → adB, mem_cons_self → ady, mem_filter → adU, mem_range → adZ, mem_singleton → aea
open Option renaming getD_some → aee, map_eq_some_iff → adw
open Option.some renaming injEq → adv
namespace Go.RX
section
variable {P:Program} {ρ:Env} {w:World} {look:Nat→Option SV} {vals:Operand→Value} {hp:List Ck} {S:Nat→Nat→Prop} {nb nv:Nat} {T:List TI}
theorem cf{run:Result Next}{v:SV}{vcs:List BE}{rd:List Nat}(h:run= .ok (.value (v.val ρ)) w):Did P ρ w hp S nb nv run {val:=v,vcs:=vcs,rd:=rd}:=h
theorem dr{s:Sem Value}{v:SV}{vcs:List BE}{rd:List Nat}(h:s.run P w= .ok (v.val ρ) w):
  Did P ρ w hp S nb nv ((do pure (.value (←s)):Sem Next).run P w) {val:=v,vcs:=vcs,rd:=rd}:=by
 apply cf;simp only [adL,h,adC,ad_]
theorem Ht{c:BE}{a b v:SV}(h:CJ c a b=some v):v.val ρ=if c.den ρ then a.val ρ else b.val ρ:=by
 unfold CJ at h;split at h
 ·cases h;simp [BE.den]
 ·cases h;simp [BE.den]
 ·split at h
  ·cases h;simp only [SV.val,mP];cases c.den ρ<;>rfl
  ·split at h
   ·rename_i hg;cases h;subst hg;simp only [SV.val,mP,cX];cases c.den ρ<;>rfl
   ·cases h
  ·split at h
   ·rename_i hg;cases h;subst hg;simp only [SV.val,mP];cases h:BE.den ρ _<;>simp
   ·cases h
  ·cases h
theorem Ky(hT:bC P T=true){t:TypeId}{tt:TI}(eN:aU T t=some tt){v:SV}{res:gx}(h:Hn hp tt.k v=some res)
  (cJ:Reads hp ρ w S res.rd) (bV: ∀b∈res.vcs,b.prop ρ) (ty:TypeId):
  (Builtin.len_ #[t] ty #[v.val ρ]).run P w= .ok (res.val.val ρ) w∧res.gg= .none:=by
 unfold Hn at h;split at h
 ·rename_i e hk;split at h
  ·rename_i b i s n m;cases h;have:=eg bV;refine⟨?_,rfl⟩;show(Builtin.len_ #[t] ty #[.slice (some ⟨ρ.bv.getD b 0,(i.den ρ 0).toNat*s,none⟩) (n.den ρ 0).toNat (m.den ρ 0).toNat]).run P w=_;rw [nK hT eN hk,goInt,Int.toNat_of_nonneg this];rfl
  ·cases h;exact⟨nK hT eN hk _ _ _ _,rfl⟩
  ·rename_i v;split at h
   ·rename_i j md v' t' s n aH cr;cases h;obtain⟨hj,dD⟩:=cK cr;simp only [Ck.lI,beq_iff_eq]at dD;subst dD;have hS:=cJ j (by simp) _ hj;have:=eg bV;obtain⟨ad,cp,he⟩:=OW hS;have e1:(SV.vv v).val ρ= .slice ad (n.den ρ 0).toNat cp:=he;refine⟨?_,rfl⟩;rw [e1,nK hT eN hk,SV.val,goInt,Int.toNat_of_nonneg this]
   ·cases h
  ·rename_i v cs s;split at h
   ·rename_i r hr;cases h;simp only at bV cJ;obtain⟨v1,v2⟩:=bB bV;have v2:=a_ v2;simp only [E.den]at v2;obtain⟨_,dz⟩:=ek hr cJ v1;obtain⟨_,_,_,a,c,k,_,_,hx,_⟩:=dz;refine⟨?_,rfl⟩;rw [hx,nK hT eN hk,SV.val,goInt,Int.toNat_of_nonneg v2]
   ·cases h
  ·cases h
 ·rename_i hk;split at h
  ·rename_i l;cases h;exact⟨xL hT eN hk _ _,rfl⟩
  ·rename_i s;cases h;have:=eg bV;refine⟨?_,rfl⟩;have e1:(SV.kb s).val ρ= .string ⟨(bZ (s.den ρ)).toArray⟩:=rfl;rw [e1,xL hT eN hk,SV.val,goInt];congr 2;have e:=Jn ρ s;simp only [ByteArray.size,List.size_toArray];omega
  ·cases h
 ·cases h
theorem wh(hT:bC P T=true)(nr:ρ.Ok){ts:TypeId}{tt:TI}(eN:aU T ts=some tt){x y:SV}{res:gx}(h:uj T hp nv tt.k x y=some res)
  (cJ:Reads hp ρ w S res.rd) (bV: ∀b∈res.vcs,b.prop ρ) (ty:TypeId):
  Did P ρ w hp S nb nv ((do pure (.value (←ad2 #[ts,ts] ty #[x.val ρ,y.val ρ])):Sem Next).run P w) res:=by
 unfold uj at h;split at h
 ·rename_i v b i s m cap;split at h
  ·rename_i j v' t s' n aH j' b' wr cs h1 h2;split at h
   ·rename_i aT te o5 gi;split at h
    ·rename_i hc;obtain⟨rfl,rfl,hk,rfl,hw,hl,BM,iF,eL⟩:=hc;cases h;obtain⟨hj,dD⟩:=cK h1;simp only [Ck.lI,beq_iff_eq]at dD;subst dD;obtain⟨kz,Nx⟩:=cH h2;simp only [Ck.qs,beq_iff_eq]at Nx;subst Nx;have TD:0≤n.den ρ 0:=eg fun c hc=>bV c (List.mem_append_left _ hc)
     have Gp:=bV _ (List.mem_append_right _ (aea.2 rfl));have:=BL (P:=P) (w:=w) (nb:=nb) (nv:=nv) (cap:=(cap.den ρ 0).toNat) hT nr eN hk gi eL BM hj (cJ j (by simp) _ hj) kz (cJ j' (by simp) _ kz) hw hl iF o5 TD Gp ty;have e1:(SV.sl b (.lit 0) s (.lit 1) cap).val ρ= .slice (some ⟨ρ.bv.getD b 0,0,none⟩) 1 (cap.den ρ 0).toNat:=by
      simp [SV.val,E.den]
     rw [e1];exact this
    ·cases h
   ·cases h
  ·cases h
 ·rename_i b i s m cap;split at h
  ·rename_i j' b' wr cs t h2 hk;split at h
   ·rename_i te aH gi dP;split at h
    ·rename_i aT o5;split at h
     ·rename_i hc;obtain⟨rfl,rfl,hw,hl,BM,iF,eL,Gp⟩:=hc;cases h;obtain⟨kz,Nx⟩:=cH h2;simp only [Ck.qs,beq_iff_eq]at Nx;subst Nx;have e1:(SV.sl b (.lit 0) s (.lit 1) cap).val ρ= .slice (some ⟨ρ.bv.getD b 0,0,none⟩) 1 (cap.den ρ 0).toNat:=by
       simp [SV.val,E.den]
      rw [e1];exact tH (P:=P) (w:=w) (hp:=hp) (S:=S) (nb:=nb) (nv:=nv) hT nr eN hk gi eL BM (cJ j' (by simp) _ kz) hw hl iF o5 Gp ty
     ·cases h
    ·cases h
   ·cases h
  ·cases h
 ·cases h
theorem uu{b:Nat}{cs:List Value}{S:Nat→Prop}(hS:(aq b true cs).p w S)(t e:TypeId)(ht:P.underlying t=some (.slice e))(he:P.underlying e=some (.int .u8))(o n c:Nat):
  ∃w',(convert t t (.slice (some ⟨b,o,none⟩) n c)).run P w= .ok (.slice (some ⟨b,o,none⟩) n c) w'∧fE w w'∧w'.heap.size=w.heap.size∧(∀k,k≠b→w'.heap[k]? =w.heap[k]?)∧(aq b false cs).p w' S:=by
 obtain⟨h1,ty,fz,hg,_⟩:=hS;have rz:w.shape? b=some (ty,cs.length):=by
  unfold World.shape?;rw [hg];simp
 refine⟨w.freeze ⟨b,cs.length,none⟩ 1,by simp [convert,run_underlying ht,run_underlying he,markStringish,rz],?_,?_,?_,h1,?_⟩
 ·unfold World.freeze;rw [if_neg (by decide)];exact⟨rfl,rfl,rfl,by simp⟩
 ·unfold World.freeze;rw [if_neg (by decide)];simp
 ·intro k hk;unfold World.freeze;rw [if_neg (by decide)];simp [Array.getElem?_modify,Ne.symm hk]
 ·unfold World.freeze;rw [if_neg (by decide)];obtain⟨lo,hi⟩:=fz;exact⟨ty,_,by simp only [Array.getElem?_modify,if_true,hg,Option.map_some];rfl,fun h=>by cases h⟩
theorem mC{t:TypeId}{tt:TI}(hT:bC P T=true)(eN:aU T t=some tt)(hk:tt.k= .str)(l:List UInt8)(k:IntKind)(j:Int)(h0:0≤j)(h1:j.toNat<l.length):
  (Instr.index t (.string ⟨l.toArray⟩) (.int k j)).run P w= .ok (.int .u8 ((l.getD j.toNat 0).toNat:Nat)) w:=by
 obtain⟨rfl,hi⟩:=aG hT eN;have cL:=hi.kind;rw [hk]at cL;have hu:P.underlying tt.t=some .string:=by
  unfold gu at cL;split at cL<;>simp_all
 have hg:(⟨l.toArray⟩:ByteArray)[j.toNat]? =some (l.getD j.toNat 0):=by
  have bP:j.toNat<(⟨l.toArray⟩:ByteArray).size:=by simpa [ByteArray.size] using h1
  rw [getElem?_pos (⟨l.toArray⟩:ByteArray) j.toNat bP];simp only [List.getD,ad8 h1,aee];rfl
 simp [Instr.index,asIntOf,run_underlying hu,h0,hg]
theorem np{l:List BE}(h: ∀b∈l.filter (fun b=>b != .lit true),b.prop ρ): ∀b∈l,b.prop ρ:=by
 intro b hb;by_cases hc:b= .lit true
 ·subst hc;rfl
 ·exact h b (adU.2 ⟨hb,by simpa using hc⟩)
theorem CQ{t:TypeId}{tt:TI}(hT:bC P T=true)(eN:aU T t=some tt)(hk:tt.k= .str){v:SV}{k:IntKind}{j:E}{res:gx}(h:Hm v j=some res)(bV: ∀b∈res.vcs,b.prop ρ):
  (Instr.index t (v.val ρ) (.int k (j.den ρ 0))).run P w= .ok (res.val.val ρ) w∧res.gg= .none:=by
 unfold Hm at h;split at h
 ·rename_i l;split at h
  ·rename_i i;split at h
   ·rename_i hl;cases h;exact⟨mC hT eN hk l k _ (by simp [E.den]) (by simpa [E.den] using hl),rfl⟩
   ·cases h
  ·cases h;have h2:=np bV;have q0:=of_decide_eq_true (gp ρ _ _▸(BE.bX ρ _).2 (h2 _ ady));have q1:=of_decide_eq_true (rW ρ _ _▸(BE.bX ρ _).2 (h2 _ (adB _ ady)));simp only [cE]at q0 q1;refine⟨?_,rfl⟩;have e1:(SV.str l).val ρ= .string ⟨l.toArray⟩:=rfl;rw [e1,mC hT eN hk l k _ q0 (by omega),SV.val,dL,Gb]
 ·rename_i s;cases h;have h2:=np bV;have q0:=of_decide_eq_true (gp ρ _ _▸(BE.bX ρ _).2 (h2 _ ady));have q1:=of_decide_eq_true (rW ρ _ _▸(BE.bX ρ _).2 (h2 _ (adB _ ady)));simp only [cE,fm]at q0 q1;refine⟨?_,rfl⟩;have bP:(j.den ρ 0).toNat<(s.den ρ 0).toNat:=by omega
  have e1:(SV.kb s).val ρ= .string ⟨(bZ (s.den ρ)).toArray⟩:=rfl;rw [e1,mC hT eN hk _ k _ q0 (by rw [cu];exact bP),SV.val,dL,DO];congr 2;simp [List.getD,ju _ bP,Ji]
 ·cases h
theorem Hu(l:List UInt8)(a b:Nat):(⟨l.toArray⟩:ByteArray).extract a b=⟨((l.take b).drop a).toArray⟩:=by
 apply ByteArray.ext;rw [ByteArray.data_extract];apply Array.ext';simp [List.drop_take]
theorem qQ{t:TypeId}{tt:TI}(hT:bC P T=true)(eN:aU T t=some tt)(hk:tt.k= .str)(L:List UInt8){lo hi:Option Value}{l h:Option Int}(hl:fb lo l)(hh:fb hi h)
  (h0:0≤l.getD 0) (h1:l.getD 0≤h.getD (L.length:Int)) (h2:h.getD (L.length:Int)≤L.length):
  (Instr.sliceAt t (.string ⟨L.toArray⟩) lo hi none).run P w= .ok (.string ⟨((L.take (h.getD (L.length:Int)).toNat).drop (l.getD 0).toNat).toArray⟩) w:=by
 obtain⟨rfl,mF⟩:=aG hT eN;have cL:=mF.kind;rw [hk]at cL;have hu:P.underlying tt.t=some .string:=by
  unfold gu at cL;split at cL<;>simp_all
 have hb:=ra (P:=P) (w:=w) false L.length L.length (lo:=lo) (hi:=hi) (mx:=none) (m:=none) hl hh True.intro (by simp) h0 h1 (by simp) (fun _=>h2);have eL:(⟨L.toArray⟩:ByteArray).size=L.length:=by simp [ByteArray.size]
 simp only [Instr.sliceAt,Instr.slice,adL,run_underlying hu,adC,eL,Hu];simp [hb]
theorem sW{t:TypeId}{tt:TI}(hT:bC P T=true)(eN:aU T t=some tt)(hk:tt.k= .str)(s a b:E){lo hi:Option Value}{l h:Option Int}(hl:fb lo l)(hh:fb hi h)
  (ha:a.den ρ 0=l.getD 0) (hb: ∀n:Int,(0≤s.den ρ 0→n=s.den ρ 0)→b.den ρ 0=h.getD n∨(h=none∧b.den ρ 0=s.den ρ 0)) (bV: ∀b'∈(rD s a b).vcs,b'.prop ρ):
  (Instr.sliceAt t (.string ⟨(bZ (s.den ρ)).toArray⟩) lo hi none).run P w= .ok ((rD s a b).val.val ρ) w:=by
 unfold rD at bV ⊢;have YI: ∀x y:E,(∀b'∈rD.VH x y,b'.prop ρ)→x.den ρ 0≤y.den ρ 0:=by
  intro x y h;unfold rD.VH at h;split at h
  ·rename_i he;rw [he];exact Int.le_refl _
  ·exact of_decide_eq_true (gp ρ _ _▸(BE.bX ρ _).2 (np h _ (aea.2 rfl)))
 have q1:=YI _ _ fun c hc=>bV c (List.mem_append_left _ (List.mem_append_left _ hc))
 have q2:=YI _ _ fun c hc=>bV c (List.mem_append_left _ (List.mem_append_right _ hc))
 have q3:=YI _ _ fun c hc=>bV c (List.mem_append_right _ hc)
 simp only [cE,fm]at q1 q2 q3;have hlen:((bZ (s.den ρ)).length:Int)=s.den ρ 0:=by rw [cu];omega
 have YJ:b.den ρ 0=h.getD ((bZ (s.den ρ)).length:Int):=by
  rcases hb (bZ (s.den ρ)).length (fun _=>hlen)with e | ⟨e1,e2⟩
  ·exact e
  ·rw [e1,e2];exact hlen.symm
 have:=qQ (P:=P) (w:=w) hT eN hk (bZ (s.den ρ)) hl hh (by rw [←ha];exact q1) (by rw [←ha,←YJ];exact q2) (by rw [←YJ,hlen];exact q3);rw [this,SV.val,Jo ρ s a b q1 q2 q3,←YJ,←ha]
theorem y1{t:TypeId}{tt:TI}(hT:bC P T=true)(eN:aU T t=some tt)(hk:tt.k= .str){v:SV}{l h:Option E}{res:gx}(hs:yP v l h=some res)
  {lo hi:Option Value} (hl:fb lo (l.map fun e:E=>e.den ρ 0)) (hh:fb hi (h.map fun e:E=>e.den ρ 0)) (bV: ∀b∈res.vcs,b.prop ρ):
  (Instr.sliceAt t (v.val ρ) lo hi none).run P w= .ok (res.val.val ρ) w∧res.gg= .none:=by
 have ga: ∀(o:Option E) (d:E),(o.getD d).den ρ 0=(o.map fun e:E=>e.den ρ 0).getD (d.den ρ 0):=by intro o d;cases o<;>rfl
 unfold yP at hs;split at hs
 ·rename_i L;split at hs
  ·rename_i a b e1 e2;split at hs
   ·rename_i hc;cases hs;have f1:=ga l (.lit 0);have f2:=ga h (.lit L.length);rw [e1]at f1;rw [e2]at f2;simp only [cE]at f1 f2;refine⟨?_,rfl⟩;have:=qQ (P:=P) (w:=w) hT eN hk L hl hh (by rw [←f1];simp) (by rw [←f1,←f2];exact Int.ofNat_le.2 hc.1) (by rw [←f2];exact Int.ofNat_le.2 hc.2);rw [SV.val,this,SV.val,←f1,←f2];simp
   ·cases hs
  ·rename_i a b dR;cases hs;refine⟨?_,rfl⟩;have:=sW (P:=P) (w:=w) (ρ:=ρ) hT eN hk (zl L) (l.getD (.lit 0)) (h.getD (.lit L.length)) hl hh (ga l (.lit 0)) (fun n hn=>by
    left;rw [ga h (.lit L.length),cE,hn (by rw [kU];simp [Jh]),kU];rfl) bV
   rw [kU,mK]at this;exact this
 ·rename_i s;cases hs;refine⟨?_,rfl⟩;exact sW (P:=P) (w:=w) (ρ:=ρ) hT eN hk s (l.getD (.lit 0)) (h.getD (jQ s)) hl hh (ga l (.lit 0)) (fun n hn=>by
   cases h with
   | none=>exact .inr ⟨rfl,by simp [fm]⟩
   | some e=>exact .inl rfl) bV
 ·cases hs
theorem Tj{t:TypeId}(hu: ∃m,P.underlying t=some (.interface m))(d:Nat):(ad4 (d+1) t .nilIface .nilIface).run P w= .ok true w:=by
 obtain⟨m,hu⟩:=hu;have uO:=run_underlying hu w;rw [ad4];simp only [adL,uO,adC];rfl
theorem VU{t t':TypeId}{v:Value}(hu: ∃m,P.underlying t=some (.interface m))(d:Nat):(ad4 (d+1) t (.iface t' v) .nilIface).run P w= .ok false w:=by
 obtain⟨m,hu⟩:=hu;have uO:=run_underlying hu w;rw [ad4];simp only [adL,uO,adC];rfl
theorem Hv(x:Value): ∃t v,rT x= .iface t v:=by
 unfold rT;split<;>exact⟨_,_,rfl⟩
theorem CR{ti:TI}(cF:jS P ti){op:BinOp}{xo yo:Operand}{a:SV}{r:gx}(h:yS ti op yo a=some r):
  yo= .const .nilIface∧(do eqGuard op ti.t xo yo (a.val ρ) .nilIface;binOp op ti.t (a.val ρ) .nilIface:Sem Value).run P w= .ok (r.val.val ρ) w∧r.gg= .none:=by
 have hk:=cF.kind;have hu:ti.k= .iface→∃m,P.underlying ti.t=some (.interface m):=by
  intro e;rw [e]at hk;unfold gu at hk;split at hk<;>simp_all
 have g1: ∀v,(eqGuard op ti.t xo (.const .nilIface) v .nilIface).run P w= .ok () w:=by
  intro v;cases op<;>cases v<;>simp [eqGuard]
 unfold yS at h;split at h
 ·rename_i VV;have hu:=hu VV;split at h
  ·cases h;exact⟨rfl,bf (g1 _) (dc rfl fun d=>Tj hu d),rfl⟩
  ·cases h;exact⟨rfl,bf (g1 _) (de rfl fun d=>Tj hu d),rfl⟩
  ·cases h
 ·rename_i t' k' e' VV;have hu:=hu VV;have hv: ∀d,(ad4 (d+1) ti.t ((SV.Ln t' k' e').val ρ) .nilIface).run P w= .ok false w:=fun d=>VU hu d
  split at h
  ·cases h;exact⟨rfl,bf (g1 _) (dc rfl hv),rfl⟩
  ·cases h;exact⟨rfl,bf (g1 _) (de rfl hv),rfl⟩
  ·cases h
 ·rename_i c v VV;have hu:=hu VV;obtain⟨t',x,hx⟩:=Hv (ρ.vv.getD v V1.nil).v;have hv: ∀d,(ad4 (d+1) ti.t ((SV.F_ c v).val ρ) .nilIface).run P w= .ok (!c.den ρ) w:=by
   intro d;simp only [SV.val];cases c.den ρ with
   | true=>simp only [if_true,hx];exact VU hu d
   | false=>simp only [Bool.false_eq_true,if_false];exact Tj hu d
  have BN:binOp .eql ti.t ((SV.F_ c v).val ρ) .nilIface=(do pure (.bool (←Op.equal ti.t ((SV.F_ c v).val ρ) .nilIface)):Sem Value):=by
   simp only [SV.val];cases c.den ρ with
   | true=>simp only [if_true,hx];rfl
   | false=>rfl
  have C_:binOp .neq ti.t ((SV.F_ c v).val ρ) .nilIface=(do pure (.bool (!(←Op.equal ti.t ((SV.F_ c v).val ρ) .nilIface))):Sem Value):=by
   simp only [SV.val];cases c.den ρ with
   | true=>simp only [if_true,hx];rfl
   | false=>rfl
  split at h
  ·cases h;refine⟨rfl,bf (g1 _) ?_,rfl⟩;rw [dc BN hv];simp [SV.val,cX]
  ·cases h;refine⟨rfl,bf (g1 _) ?_,rfl⟩;rw [de C_ hv];simp [SV.val]
  ·cases h
 ·cases h
theorem ou(w:World)(e:TypeId)(s:ByteArray):fE w (Lib.bytesWorld w e s):=by
 unfold Lib.bytesWorld World.freeze;rw [if_neg (by decide)];exact⟨rfl,rfl,rfl,by simp⟩
theorem qR(w:World)(e:TypeId)(s:ByteArray):w.heap.size<(Lib.bytesWorld w e s).heap.size:=by rw [Lib.bytesWorld_size];omega
theorem uv(w:World)(e:TypeId)(s:E):
  World.views (Lib.bytesWorld w e ⟨(bZ (s.den ρ)).toArray⟩) (.slice (some ⟨w.heap.size,0,none⟩) (s.den ρ 0).toNat (grownCap w (s.den ρ 0).toNat 0 e)) ((jQ s).den ρ 0).toNat
   (aN ρ ((jQ s).den ρ 0).toNat [⟨.int .u8,1,Jm s⟩]):=by
 refine⟨_,_,_,rfl,by rw [fm],grownCap_ge ..,fun h=>(nomatch h),fun ad oC=>⟨fun _=>?_,fun j u hu=>?_⟩⟩
 ·cases oC;rfl
 ·cases oC;rw [dE,bd,fm]at hu;split at hu
  ·rename_i hj;have:=Lib.bytesWorld_cell w e ⟨(bZ (s.den ρ)).toArray⟩ j (by simpa [ByteArray.size,cu] using hj);rw [dV,Nat.zero_add];cases hu;rw [this,DO];congr 2;simp [List.getD,ju _ hj,Ji]
  ·cases hu
theorem zU(hT:bC P T=true){src dst:TypeId}{ts ti:TI}(rI:aU T src=some ts)(hk:ts.k= .str)(cF:aU T dst=some ti){v:SV}{res:gx}(h:bytesOf T nv ti.k v=some res)(bV: ∀b∈res.vcs,b.prop ρ):
  Did P ρ w hp S nb nv ((do pure (.value (←convert src dst (v.val ρ))):Sem Next).run P w) res:=by
 obtain⟨rfl,FP⟩:=aG hT rI;obtain⟨rfl,IY⟩:=aG hT cF;have cL:=FP.kind;rw [hk]at cL;have VW:P.underlying ts.t=some .string:=by
  unfold gu at cL;split at cL<;>simp_all
 unfold bytesOf at h;split at h
 ·rename_i e he;split at h
  ·rename_i te s gi hs;split at h
   ·rename_i hc;obtain⟨Tk,jT⟩:=hc;cases h;obtain⟨rfl,Gn⟩:=aG hT gi;have k2:=IY.kind;rw [he]at k2;have YK:=bI k2;have k3:=Gn.kind;rw [Tk]at k3;have YL:=iR k3;have q0:=of_decide_eq_true (gp ρ _ _▸(BE.bX ρ _).2 (np bV _ (aea.2 rfl)));simp only [cE,fm]at q0;have hv:=qW ρ hs;have gO:=Lib.run_convert_string_bytes (P:=P) w ts.t ti.t te.t ⟨(bZ (s.den ρ)).toArray⟩ VW YK YL;have eL:(⟨(bZ (s.den ρ)).toArray⟩:ByteArray).size=(s.den ρ 0).toNat:=by simp [ByteArray.size,cu]
    rw [eL]at gO;refine⟨te.t,1,jQ s,[⟨.int .u8,1,Jm s⟩],.slice (some ⟨w.heap.size,0,none⟩) (s.den ρ 0).toNat (grownCap w (s.den ρ 0).toNat 0 te.t),Lib.bytesWorld w te.t ⟨(bZ (s.den ρ)).toArray⟩,fun k=>k=w.heap.size∧0<(s.den ρ 0).toNat,rfl,rfl,by rw [hv,adL,gO];rfl,rfl,?_,?_,?_,?_⟩
    ·exact ou w te.t _
    ·exact fun k hk=>Lib.bytesWorld_at_old w te.t _ k hk
    ·refine⟨?_,fun k=>?_⟩
     ·simp only [Bool.false_eq_true,if_false];exact⟨by rw [cZ];simp [bT],uv w te.t s⟩
     ·simp [Value.ownBlock,fm,eq_comm]
    ·intro k hk;refine⟨by omega,?_⟩;rw [hk.1];exact qR w te.t _
   ·cases h
  ·cases h
 ·cases h
theorem y2(hT:bC P T=true){src dst:TypeId}{ts ti:TI}(rI:aU T src=some ts)(hk:ts.k= .str)(cF:aU T dst=some ti){l:List UInt8}{res:gx}(h:yR T nv ti.k l=some res):
  Did P ρ w hp S nb nv ((do pure (.value (←convert src dst ((SV.str l).val ρ))):Sem Next).run P w) res:=by
 obtain⟨rfl,FP⟩:=aG hT rI;obtain⟨rfl,IY⟩:=aG hT cF;have cL:=FP.kind;rw [hk]at cL;have VW:P.underlying ts.t=some .string:=by
  unfold gu at cL;split at cL<;>simp_all
 unfold yR at h;split at h
 ·rename_i e he;split at h
  ·rename_i te gi;split at h
   ·rename_i hc;obtain⟨Tk,jT,hl⟩:=hc;cases h;obtain⟨rfl,Gn⟩:=aG hT gi;have k2:=IY.kind;rw [he]at k2;have YK:=bI k2;have k3:=Gn.kind;rw [Tk]at k3;have YL:=iR k3;have gO:=Lib.run_convert_string_bytes (P:=P) w ts.t ti.t te.t ⟨l.toArray⟩ VW YK YL;have eL:(⟨l.toArray⟩:ByteArray).size=l.length:=by simp [ByteArray.size]
    have ig:=grownCap_ge w l.length 0 te.t;have mG:(Lib.bytesCells w te.t ⟨l.toArray⟩).toList=(l.map fun b=>Value.int .u8 b.toNat)++List.replicate (grownCap w l.length 0 te.t - l.length) (.int .u8 0):=by
     simp [Lib.bytesCells,eL]
    rw [eL]at gO;have hn:(E.den ρ (.lit (l.length:Int)) 0).toNat=l.length:=by simp [E.den]
    refine⟨te.t,1,.lit l.length,[⟨.int .u8,1,.oz (l.map fun b=>(b.toNat:Int))⟩],.slice (some ⟨w.heap.size,0,none⟩) l.length (grownCap w l.length 0 te.t),Lib.bytesWorld w te.t ⟨l.toArray⟩,fun k=>k=w.heap.size,rfl,rfl,by rw [SV.val,adL,gO];rfl,rfl,?_,?_,⟨?_,fun k=>?_⟩,?_⟩
    ·exact ou w te.t _
    ·exact fun k hk=>Lib.bytesWorld_at_old w te.t _ k hk
    ·simp only [if_true];rw [hn,dE];refine⟨by rw [aF,Nat.mul_one],.inr ⟨w.heap.size,0,_,Lib.bytesCells w te.t ⟨l.toArray⟩,rfl,⟨te.t,_,Lib.bytesWorld_at_new w te.t _,.inr (Nat.le_refl _)⟩,ig,grownCap_le_maxLen w l.length 0 te.t (by unfold maxLen;omega),fun _=>?_,?_⟩⟩
     ·rw [←Array.length_toList,mG];simp;omega
     ·rw [List.drop_zero,mG,Nat.mul_one];apply List.ext_getElem?;intro j;rw [bd,List.getElem?_take];split
      ·rename_i hj;rw [adz (by simpa using hj),List.getElem?_map,ad8 hj];simp [E.den,List.getD,hj]
      ·rfl
    ·simp [Value.ownBlock,eq_comm]
    ·intro k hk;exact⟨by omega,by rw [hk];exact qR w te.t _⟩
   ·cases h
  ·cases h
 ·cases h
theorem Kz(a:Addr)(k:Nat)(h:a.spot=none):(a.add k).spot=none:=by
 unfold Addr.add;split<;>simp_all
theorem tU{md:Bool}{t s n:Nat}{v:Value}{cs:List Value}{S:Nat→Prop}(h:(au md t s v n cs).p w S):World.views w v n cs∧cs.length=n*s:=by
 obtain⟨h0,_⟩:=h;cases md with
 | true=>
  simp only [if_true]at h0;have QU:=h0;obtain⟨hl,hr⟩:=h0;refine⟨?_,hl⟩;rcases hr with⟨rfl,rfl⟩ | ⟨g,o,cap,cur,rfl,hg,CZ,_⟩
  ·exact⟨none,0,0,rfl,rfl,Nat.le_refl _,fun _=>rfl,by simp⟩
  ·refine⟨_,n,cap,rfl,rfl,CZ,by simp,?_⟩;rintro _ ⟨⟩;exact⟨fun _=>rfl,fun j u hu=>iM QU j u hu⟩
 | false=>
  simp only [Bool.false_eq_true,if_false]at h0;exact⟨h0.2,h0.1⟩
theorem uw(ad:Addr)(l:List Value)(n:Nat)(hn:l.length=n)(h: ∀(j:Nat) v,l[j]? =some v→w.cell? (ad.add j)=some v):(loadCells ad n).run P w= .ok l.toArray w:=by
 subst hn;exact run_loadCells_list (P:=P) w ad l h
theorem g_{src dst e:TypeId}(hs:P.underlying src=some (.slice e))(he:P.underlying e=some (.int .u8))(hd:P.underlying dst=some .string){a:Option Addr}{m c:Nat}{f:Nat→Int}(h0:a=none→m=0)(hc: ∀ad,a=some ad→∀(j:Nat) u,(aj .u8 m f)[j]? =some u→w.cell? (ad.add j)=some u):
  (convert src dst (.slice a m c)).run P w= .ok (.string ⟨((List.range m).map fun j=>UInt8.ofNat (f j).toNat).toArray⟩) w:=by
 rw [run_convert_bytes_string w src dst e a m c hs he hd];cases a with
 | none=>
  have:=h0 rfl;subst this;simp [Conv.bytesToString,ad_];rfl
 | some ad=>
  have hl:(loadCells ad m).run P w= .ok (((List.range m).map f).map (Value.int .u8)).toArray w:=by
   rw [List.map_map];exact uw ad _ m (by simp) fun j u hu=>hc ad rfl j u hu
  rw [run_bytesToString w ad m c _ hl,foldl_push_bytes,List.map_map];simp [ByteArray.empty,ByteArray.emptyWithCapacity,Function.comp_def];rfl
theorem FC{t:TypeId}(h:gu (P.underlying t) .str=true):P.underlying t=some .string:=by
 unfold gu at h;split at h<;>simp_all
theorem lW(a n:E):bZ ((qk a n).den ρ)=(List.range (n.den ρ 0).toNat).map fun j=>UInt8.ofNat (a.den ρ j).toNat:=by
 unfold qk;split
 ·rename_i k hk;have hn:=cl (ρ:=ρ) hk;split
  ·rename_i l hl;have hl:=rb (ρ:=ρ) hl;subst hl;rw [hn,Int.toNat_natCast];unfold bZ;simp only [E.den,ah,Int.toNat_natCast];refine List.map_congr_left fun j hj=>?_
   have hj:=adZ.1 hj;simp [hj]
  ·exact xu ρ a n
 ·exact xu ρ a n
theorem zV{src dst e:TypeId}(hs:P.underlying src=some (.slice e))(he:P.underlying e=some (.int .u8))(hd:P.underlying dst=some .string){v:SV}{res:gx}(h:CN hp v=some res)(cJ:Reads hp ρ w S res.rd)(bV: ∀b∈res.vcs,b.prop ρ):
  Did P ρ w hp S nb nv ((do pure (.value (←convert src dst (v.val ρ))):Sem Next).run P w) res:=by
 unfold CN at h;split at h
 ·cases h;refine dr ?_;exact g_ (P:=P) (w:=w) (a:=none) (m:=0) (c:=0) (f:=fun _=>0) hs he hd (fun _=>rfl) fun _ h=>nomatch h
 ·rename_i b i n m;split at h
  ·rename_i j b' wr cs i' n' hf hi hn;split at h
   ·rename_i xs Ge;split at h
    ·rename_i kl a JT;split at h
     ·rename_i KP;cases h;obtain⟨hj,dD⟩:=cH hf;simp only [Ck.qs,beq_iff_eq]at dD;subst dD;have hS:=cJ j (by simp) _ hj;obtain⟨h1,ty,fz,hg,_⟩:=hS;have hi:=cl (ρ:=ρ) hi;have hn:=cl (ρ:=ρ) hn;refine dr ?_;have Qy:=fS (ρ:=ρ) JT;rw [KP,List.length_replicate,nG]at Qy;obtain⟨R1,hle⟩:=dY (ρ:=ρ) Ge;rw [R1]at Qy;rw [mN,lW,cE,Int.toNat_natCast];have e1:(SV.sl b i 1 n m).val ρ= .slice (some ⟨ρ.bv.getD b 0,i',none⟩) n' (m.den ρ 0).toNat:=by simp [SV.val,hi,hn]
      rw [e1];refine g_ (P:=P) (w:=w) (f:=a.den ρ) hs he hd (fun h=>nomatch h) ?_;rintro _ ⟨⟩ j u hu;rw [←Qy,List.getElem?_take]at hu;split at hu
      ·rw [List.getElem?_drop]at hu;rw [dV];simp only [World.cell?,hg];simpa using hu
      ·cases hu
     ·cases h
    ·cases h
   ·cases h
  ·rename_i j b' wr m' a hf hi hn;cases h;obtain⟨hj,dD⟩:=cH hf;simp only [Ck.qs,beq_iff_eq]at dD;subst dD;have hS:=cJ j (by simp) _ hj;obtain⟨h1,ty,fz,hg,_⟩:=hS;have hi:=cl (ρ:=ρ) hi;have hle:=of_decide_eq_true (gp ρ _ _▸(BE.bX ρ _).2 (np bV _ (aea.2 rfl)));simp only [cE]at hle;refine dr ?_;rw [mN,lW];have e1:(SV.sl b i 1 n m).val ρ= .slice (some ⟨ρ.bv.getD b 0,0,none⟩) (n.den ρ 0).toNat (m.den ρ 0).toNat:=by simp [SV.val,hi]
   rw [e1];refine g_ (P:=P) (w:=w) (f:=a.den ρ) hs he hd (fun h=>nomatch h) ?_;rintro _ ⟨⟩ j u hu;obtain⟨bP,_⟩:=adu.1 hu;rw [aF]at bP;rw [dV];simp only [World.cell?,hg];rw [←hu,bd,if_pos bP];have ec:SV.aB ρ [SV.cD .u8 m' a]=aj .u8 m' (a.den ρ):=by simp [SV.aB,SV.cells]
   rw [ec,Nat.zero_add,List.getElem?_toArray,bd,if_pos (show j<m' by omega)];rfl
  ·cases h
 ·rename_i v;split at h
  ·rename_i j md v' t n a hf;cases h;obtain⟨hj,dD⟩:=cK hf;simp only [Ck.lI,beq_iff_eq]at dD;subst dD;have hS:=cJ j (by simp) _ hj;have hv:=(tU hS).1;rw [dE]at hv;obtain⟨a',m',c',e1,e2,_,h0,hc⟩:=hv;refine dr ?_;rw [mN,lW];rw [show(SV.vv v).val ρ= .slice a' m' c' from e1,←e2];exact g_ (P:=P) (w:=w) hs he hd (fun h=>e2.trans (h0 h)) fun ad oC j u hu=>(hc ad oC).2 j u (by rw [←e2];exact hu)
  ·cases h
 ·rename_i v cs s;split at h
  ·rename_i r hr;split at h
   ·rename_i a rz;split at h
    ·rename_i gK;obtain⟨jT,hw⟩:=gK;cases h;simp only at bV cJ;obtain⟨v1,v2⟩:=bB bV;have v2:=a_ v2;simp only [E.den]at v2;have YM:=D8 hr cJ v1 v2 hw rz;obtain⟨_,_,a',c',e1,h0,hc⟩:=YM;rw [dE]at hc;refine dr ?_;rw [mN,lW,e1];exact g_ (P:=P) (w:=w) hs he hd h0 fun ad oC j u hu=>hc ad oC j u hu
    ·cases h
   ·cases h
  ·cases h
 ·cases h
theorem je(hT:bC P T=true){src dst:TypeId}{ti:TI}(cF:aU T dst=some ti)(hk:ti.k= .str){v:SV}{res:gx}(h:nj T hp src v=some res)(cJ:Reads hp ρ w S res.rd)(bV: ∀b∈res.vcs,b.prop ρ):
  Did P ρ w hp S nb nv ((do pure (.value (←convert src dst (v.val ρ))):Sem Next).run P w) res:=by
 unfold nj at h;split at h
 ·rename_i ts rI;split at h
  ·rename_i e he;split at h
   ·rename_i te gi;split at h
    ·rename_i Tk;obtain⟨rfl,FP⟩:=aG hT rI;obtain⟨rfl,IY⟩:=aG hT cF;obtain⟨rfl,ZN⟩:=aG hT gi;have k1:=FP.kind;rw [he]at k1;have k2:=IY.kind;rw [hk]at k2;have k3:=ZN.kind;rw [Tk]at k3;exact zV (bI k1) (iR k3) (FC k2) h cJ bV
    ·cases h
   ·cases h
  ·cases h
 ·cases h
theorem wi(hT:bC P T=true)(nr:ρ.Ok){t t':TypeId}{tt:TI}(eN:aU T t=some tt){v u:SV}{res:gx}(h:uo T hp nv tt t t' v u=some res)
  (cJ:Reads hp ρ w S res.rd) (bV: ∀b∈res.vcs,b.prop ρ) (ty:TypeId):
  Did P ρ w hp S nb nv ((do pure (.value (←ad2 #[t,t'] ty #[v.val ρ,u.val ρ])):Sem Next).run P w) res:=by
 unfold uo at h;split at h
 ·rename_i heq;subst heq;split at h
  ·rename_i r hr;cases h;exact wh (P:=P) (w:=w) (nb:=nb) hT nr eN hr cJ bV ty
  ·split at h
   ·rename_i r hr;cases h;exact ur hT eN hr cJ bV ty
   ·split at h
    ·rename_i r hr;cases h;exact vZ hT eN hr cJ bV ty
    ·exact wb hT eN h cJ ty
 ·split at h
  ·rename_i ti kk m cF;split at h
   ·rename_i kt Wn;exact zB hT eN cF Wn h cJ bV kk ty
   ·cases h
  ·cases h
theorem ph(hT:bC P T=true)(nr:ρ.Ok)(se:r7 ρ look vals){o:Oper}{res:gx}(h:dh T look hp nb nv o=some res)
  (cJ:Reads hp ρ w S res.rd) (bV: ∀b∈res.vcs,b.prop ρ) (D2:ρ.bv.length=nb):Did P ρ w hp S nb nv ((execOp vals o).run P w) res:=by
 obtain⟨dst,op,ty,pos,aft,gd⟩:=o;have ev: ∀{x v},hZ look x=some v→vals x=v.val ρ:=fun h=>ej se h
 cases op with
 | move x=>
  simp only [dh,adw]at h;obtain⟨v,hv,rfl⟩:=h;exact cf (by simp [execOp,ev hv])
 | assign x=>
  simp only [dh,adw]at h;obtain⟨v,hv,rfl⟩:=h;exact cf (by simp [execOp,ev hv])
 | pick c a b=>
  simp only [dh]at h;split at h
  ·rename_i c' a' b' hc ha hb;rw [adw]at h;obtain⟨v,hv,rfl⟩:=h;refine cf ?_;rw [Ht hv];simp [execOp,ev hc,ev ha,ev hb,SV.val,asBool]
  ·cases h
 | alloc t=>
  simp only [dh,Option.bind_eq_some_iff]at h;obtain⟨ti,cF,h⟩:=h;split at h
  ·split at h
   ·rename_i hz;cases h;exact Jy hT D2 cF _ (cA hz)
   ·cases h
  ·cases h;exact D1 hT D2 cF
 | box t x=>
  simp only [dh]at h;split at h
  ·rename_i v hv;rw [adw]at h;obtain⟨cs,mG,rfl⟩:=h;have:=Jz (P:=P) (w:=w) (hp:=hp) (S:=S) (nv:=nv) nr D2 (t:=t) mG;simp only [execOp,ev hv];exact this
  ·cases h
 | build t parts=>
  simp only [dh]at h;split at h
  ·rename_i ti ps cF N9;have hm:eB ρ ps (parts.map fun x=>(x.1,vals x.2)).toList:=by
    rw [Array.toList_map];exact nJ se nr _ _ N9
   split at h
   ·rename_i fs hk;split at h
    ·rename_i tC;rw [adw]at h;obtain⟨cs,mG,rfl⟩:=h;have:=q8 (w:=w) hT cF hk tC hm mG;exact dr this
    ·cases h
   ·rename_i n e hk;split at h
    ·rename_i te gi;rw [adw]at h;obtain⟨cs,mG,rfl⟩:=h;have:=vR (w:=w) hT cF hk gi hm mG;exact dr this
    ·cases h
   ·cases h
  ·cases h
 | buildSlice t len parts=>
  simp only [dh]at h;split at h
  ·rename_i ti ps cF N9;have hm:eB ρ ps (parts.map fun x=>(x.1,vals x.2)).toList:=by
    rw [Array.toList_map];exact nJ se nr _ _ N9
   split at h
   ·rename_i e hk;split at h
    ·rename_i te gi;split at h
     ·rename_i HS;split at h
      ·rename_i P_;rw [adw]at h;obtain⟨zc,zx,rfl⟩:=h;have Tl:(parts.map fun x=>(x.1,vals x.2))= #[]:=by
        have:ps=[]:=by simpa using P_
        subst this;apply Array.ext';generalize (parts.map fun x=>(x.1,vals x.2)).toList=l at hm;cases hm;rfl
       have:=yZ (P:=P) (w:=w) (hp:=hp) (S:=S) (nb:=nb) (nv:=nv) (ρ:=ρ) hT cF hk gi zx;simp only [execOp,HS,Tl];exact this
      ·cases h
     ·split at h
      ·cases h
      ·rename_i HS hlen;rw [adw]at h;obtain⟨cs,mG,rfl⟩:=h;exact tF hT D2 cF hk gi (by rintro (h | h | h);exact HS h;exact hlen (.inl h);exact hlen (.inr h)) hm mG
    ·cases h
   ·cases h
  ·cases h
 | load t x=>
  simp only [dh]at h;split at h
  ·rename_i ti a cF ha;obtain⟨rfl,hi⟩:=aG hT cF;obtain⟨h1,h2⟩:=qD hi h cJ bV;obtain⟨rv,Oc,Rp,re⟩:=res;simp only at h2;subst h2;refine cf ?_;simp only [execOp,ev ha,adL,h1,adC,ad_]
  ·cases h
 | store t x y=>
  simp only [dh]at h;split at h
  ·rename_i ti a v cF ha hv;obtain⟨rfl,hi⟩:=aG hT cF;obtain⟨h1,j,ck,h2,w',h3,h4⟩:=xD hi h nr cJ bV;unfold Did;rw [h2];refine⟨w',.inr ⟨h1,?_⟩,h4⟩;simp only [execOp,ev ha,ev hv,adL,h3,adC,ad_]
  ·cases h
 | nilCheck x=>
  simp only [dh]at h;split at h
  ·rename_i b c hx;cases h;exact cf (by simp [execOp,ev hx,SV.val])
  ·rename_i b c hx;cases h;exact cf (by simp [execOp,ev hx,SV.val])
  ·rename_i e hx;cases h;have hz:=bV (OU e) (by simp);have dR:e.den ρ 0≠0:=by
    rw [←BE.bX,wm]at hz;simpa using hz
   exact cf (by simp [execOp,ev hx,SV.val,mM,dR])
  ·rename_i v i s c hx;split at h
   ·rename_i j md v' t s' n aH hf;cases h;obtain⟨hj,dD⟩:=cK hf;simp only [Ck.lI,beq_iff_eq]at dD;subst dD;have hS:=cJ j (by simp) _ hj;obtain⟨h0,h1⟩:=c7 ρ bV;obtain⟨a,cp,he⟩:=mS hS (by omega);have e2:(SV.pv v i s c).val ρ= .pointer (some (a.add ((i.den ρ 0).toNat*s+c))):=by rw [SV.val,he];rfl
    refine cf ?_;simp only [execOp,ev hx,e2,ad_]
   ·cases h
  ·rename_i f cs hx;cases h;exact cf (by simp [execOp,ev hx,SV.val])
  ·cases h
 | binOp op t x y yt=>
  simp only [dh]at h;split at h
  ·rename_i ti a b cF ha hb;obtain⟨rfl,hi⟩:=aG hT cF;split at h
   ·rename_i r hr;cases h;have Vp:=CR (P:=P) (w:=w) (ρ:=ρ) hi (xo:=x) hr;obtain⟨e1,h1,h2⟩:=Vp;subst e1;obtain⟨rv,Oc,Rp,re⟩:=res;simp only at h2;subst h2;refine cf ?_;have hy:vals (.const .nilIface)= .nilIface:=by
     have:hZ look (.const .nilIface)=some .rQ:=rfl;exact ev this
    simp only [execOp,ev ha,hy];rw [adL,h1];rfl
   obtain⟨h1,h2⟩:=Jx hi (w:=w) (xo:=x) (yo:=y) h bV;obtain⟨rv,Oc,Rp,re⟩:=res;simp only at h2;subst h2;refine cf ?_;simp only [execOp,ev ha,ev hb];rw [adL,h1];rfl
  ·cases h
 | unOp op t x=>
  simp only [dh]at h;split at h
  ·rename_i b hb;cases h;refine cf ?_;simp [execOp,ev hb,SV.val,Op.unary,cX]
  ·rename_i k a ha;cases h;refine cf ?_;simp only [SV.val,kV,E.den];cases k<;>simp [execOp,ev ha,SV.val,Op.unary,Op.intBits,IntKind.signed,IntKind.max,sR,IntKind.hi,ak,Lm,IntKind.bits]
  ·rename_i k a ha;simp only [adv]at h;subst h;refine cf ?_;simp only [SV.val,xF bV,dX,E.den];simp [execOp,ev ha,SV.val,Op.unary,Op.intArith]
  ·cases h
 | convert src dst x=>
  simp only [dh]at h;split at h
  ·rename_i Rq QA k' a h1 h2 ha;split at h
   ·rename_i k hk;cases h;obtain⟨rfl,FP⟩:=aG hT h1;obtain⟨rfl,IY⟩:=aG hT h2;have cL:=IY.kind;rw [hk]at cL;have hu:=iR cL;have VW:(P.underlying Rq.t).isSome=true:=by
     have:=FP.kind;unfold gu at this;split at this<;>simp_all
    have QP:P.intKind QA.t=k:=by simp [Program.intKind,hu]
    refine dr ?_;rw [ev ha,SV.val,run_convert_int w Rq.t QA.t k' _ VW (by rw [QP];exact hu),QP,SV.val,Ju bV]
   ·cases h
  ·rename_i Rq QA l h1 h2 ha;split at h
   ·rename_i hk;have:=y2 (P:=P) (w:=w) (hp:=hp) (S:=S) (nb:=nb) (ρ:=ρ) hT h1 hk h2 h;simp only [execOp,ev ha];exact this
   ·cases h
  ·rename_i Rq QA l h1 h2 ha;split at h
   ·rename_i hk;have:=zU (P:=P) (w:=w) (hp:=hp) (S:=S) (nb:=nb) (ρ:=ρ) hT h1 hk h2 h bV;simp only [execOp,ev ha];exact this
   ·cases h
  ·rename_i Rq QA b i s n m h1 h2 ha;split at h
   ·rename_i e hk;split at h
    ·rename_i te j b' cs gi hf;split at h
     ·rename_i hc;obtain⟨rfl,Tk⟩:=hc;cases h;obtain⟨e2,IY⟩:=aG hT h2;subst e2;obtain⟨rfl,Gn⟩:=aG hT gi;have cL:=IY.kind;rw [hk]at cL;have hu:=bI cL;have AV:=Gn.kind;rw [Tk]at AV;have hue:=iR AV;obtain⟨hj,dD⟩:=cH hf;simp only [Ck.qs,beq_iff_eq]at dD;subst dD;have hS:=cJ j (by simp) _ hj;obtain⟨w',r1,r2,r3,r4,r5⟩:=uu (P:=P) hS QA.t te.t hu hue ((i.den ρ 0).toNat*s) (n.den ρ 0).toNat (m.den ρ 0).toNat;refine⟨w',.inl ?_,⟨⟨_,hj,rfl⟩,rfl,r2,r3,fun k hk=>r4 k fun e=>hk ((hS.1 k).2 e),r5⟩⟩;simp only [execOp,ev ha,SV.val,adL,r1,adC,ad_]
     ·cases h
    ·cases h
   ·rename_i hk;have:=je (P:=P) (w:=w) (ρ:=ρ) (nb:=nb) (nv:=nv) hT h2 hk h cJ bV;simp only [execOp,ev ha];exact this
   ·cases h
  ·rename_i Rq QA v h1 h2 ha;split at h
   ·rename_i hk;have:=je (P:=P) (w:=w) (ρ:=ρ) (nb:=nb) (nv:=nv) hT h2 hk h cJ bV;simp only [execOp,ev ha];exact this
   ·cases h
  ·rename_i Rq QA v cs s h1 h2 ha;split at h
   ·rename_i hk;have:=je (P:=P) (w:=w) (ρ:=ρ) (nb:=nb) (nv:=nv) hT h2 hk h cJ bV;simp only [execOp,ev ha];exact this
   ·cases h
  ·rename_i Rq QA h1 h2 ha;split at h
   ·rename_i hk;have:=je (P:=P) (w:=w) (ρ:=ρ) (nb:=nb) (nv:=nv) hT h2 hk h cJ bV;simp only [execOp,ev ha];exact this
   ·cases h
  ·cases h
 | makeInterface t x=>
  simp only [dh]at h;split at h
  ·rename_i ti k e cF hx;split at h
   ·rename_i hk;cases h;obtain⟨rfl,hi⟩:=aG hT cF;have cL:=hi.kind;rw [hk]at cL;have hu:=iR cL;refine cf ?_;have hc:P.concrete ti.t=true:=by simp [Go.Program.concrete,hu]
    simp only [execOp,ev hx,adL,run_makeInterface w ti.t _ hc,adC,ad_,SV.val]
   ·cases h
  ·cases h
 | sliceToArrayPointer arr x=>
  simp only [dh]at h;split at h
  ·rename_i ta v hta hv;split at h
   ·rename_i n e hk;split at h
    ·rename_i te gi;split at h
     ·cases h
     ·rename_i TD;obtain⟨rfl,FP⟩:=aG hT hta;have cL:=FP.kind;rw [hk]at cL;have hu:=mY cL;split at h
      ·rename_i b i s m c;cases h;have q:=a_ bV;simp only [E.den]at q;refine cf ?_;simp only [execOp,ev hv,SV.val,tG];have: ¬(m.den ρ 0).toNat<n:=by omega
       simp [Instr.arrayAt,run_underlying hu,this]
      ·split at h
       ·rename_i v _ r hr;cases h;simp only at bV cJ;obtain⟨q1,q2⟩:=bB bV;have q:=a_ q2;simp only [E.den]at q;obtain⟨hj,dz⟩:=ek hr cJ q1;have O5:=dz.lo;have WH:=dz.hi;obtain⟨a,cp,k,e1,e2,e3,e4⟩:=dz.is;have bP:(r.p.lo.den ρ 0).toNat<(Option.map ag (Option.map (fun m=>m.den ρ 0) r.p.mx)).getD cp:=by
         cases hm:r.p.mx with
         | none=>simp only [Option.map_none,Option.getD_none];omega
         | some m=>
          have:=(dz.top (m.den ρ 0) (by rw [hm];rfl)).1;simp only [Option.map_some,aee];omega
        have mQ:=e4 (.inl bP);have hS:=cJ r.j (by simp) _ hj;refine cf ?_;simp only [execOp,ev hv,SV.val];rw [e3];have: ¬(r.p.len.den ρ 0).toNat<n:=by omega
        have VX: ∃ad,a=some ad:=by
         obtain⟨ad,c2,hh⟩:=mS hS (by omega);rw [hh]at e1;simp only [Value.slice.injEq]at e1;exact⟨ad,e1.1.symm⟩
        obtain⟨ad,rfl⟩:=VX;rw [e1];simp [Instr.arrayAt,run_underlying hu,this,dU,mQ]
       ·cases h
    ·cases h
   ·cases h
  ·cases h
 | fieldAddr s x f=>
  simp only [dh]at h;split at h
  ·rename_i ts a rI ha;split at h
   ·rename_i fs hk;split at h
    ·rename_i t off hf;split at h
     ·rename_i ti cF;split at h
      ·cases h
      ·rename_i eL;have gO:=fun ad=>r_ (w:=w) hT rI hk hf cF eL ad
       split at h
       ·cases h;refine dr ?_;rw [ev ha,SV.val,gO,gw,SV.val]
       ·cases h;refine dr ?_;rw [ev ha,SV.val,gO,gw,SV.val,Nat.add_assoc]
       ·rename_i v i s' c;split at h
        ·rename_i j md v' t' s2 n aH cr;cases h;obtain⟨hj,dD⟩:=cK cr;simp only [Ck.lI,beq_iff_eq]at dD;subst dD;have hS:=cJ j (by simp) _ hj;obtain⟨h0,h1⟩:=c7 ρ bV;obtain⟨ad,cp,he⟩:=mS hS (by omega);refine dr ?_;rw [ev ha,SV.val,he,dU,gO,c9,SV.val,he,dU,Nat.add_assoc]
        ·cases h
       ·cases h
     ·cases h
    ·cases h
   ·cases h
  ·cases h
 | field s x f=>
  simp only [dh]at h;split at h
  ·rename_i ts cs rI ha;split at h
   ·rename_i fs hk;split at h
    ·rename_i t off hf;split at h
     ·rename_i ti cF;split at h
      ·rename_i xs Ge;rw [adw]at h;obtain⟨v,hv,rfl⟩:=h;refine dr ?_;rw [ev ha,SV.val];exact vS hT rI hk hf cF Ge hv
      ·cases h
     ·cases h
    ·cases h
   ·cases h
  ·cases h
 | indexAddr t x y=>
  simp only [dh]at h;split at h
  ·rename_i tt a k j eN ha hy;split at h
   ·rename_i e hk;split at h
    ·rename_i te gi;split at h
     ·rename_i b i s n m;split at h
      ·rename_i eL;cases h;have KQ:0≤i.den ρ 0:=eg fun c hc=>bV c (List.mem_append_left _ hc)
       obtain⟨h0,h1⟩:=c7 ρ (i:=j) (n:=n) fun c hc=>bV c (List.mem_append_right _ hc)
       refine dr ?_;rw [ev ha,ev hy,SV.val,SV.val,o9 hT eN hk gi _ _ _ _ _ h0 (by omega),gw,tG,bH,eL,Int.toNat_add KQ h0,Nat.add_mul,Nat.add_zero]
      ·cases h
     ·split at h
      ·rename_i r hr;split at h
       ·rename_i eL;cases h;simp only at bV cJ;obtain⟨w1,w2⟩:=bB bV;obtain⟨hj,dz⟩:=ek hr cJ w1;obtain⟨h0,h1⟩:=c7 ρ w2;obtain⟨b1,b2,b3,ad,c,q,hv,hc,hx,hq⟩:=dz;have JE:(r.p.lo.den ρ 0).toNat<((r.p.mx.map fun m=>m.den ρ 0).map ag).getD c:=by
         cases QY:(r.p.mx.map fun m=>m.den ρ 0)with
         | none=>simp only [Option.map_none,Option.getD_none];omega
         | some m=>have:=b3 m QY;simp only [Option.map_some,aee];omega
        have hq:=hq (.inl JE);have dR: ∃UO,ad=some UO:=by
         cases ad with
         | some UO=>exact⟨UO,rfl⟩
         | none=>
          obtain⟨a',Zf,he⟩:=mS (cJ r.j (by simp) _ hj) (by omega);rw [hv]at he;cases he
        obtain⟨ad,rfl⟩:=dR;refine dr ?_;have e3:(SV.int k j).val ρ= .int k (j.den ρ 0):=rfl;have e2:(SV.pv r.v (dp r.p.lo j) r.s 0).val ρ= .pointer (some (ad.add ((r.p.lo.den ρ 0+j.den ρ 0).toNat*r.s+0))):=by rw [SV.val,hv,bH];rfl
        rw [ev ha,ev hy,hx,e2,e3,Option.map_some,o9 hT eN hk gi _ _ _ _ _ h0 (by omega),eL,Nat.add_zero,c9,hq,←Nat.add_mul,←Int.toNat_add b1 h0]
       ·cases h
      ·cases h
    ·cases h
   ·rename_i n e hk;split at h
    ·rename_i te gi;split at h
     ·rename_i b c;cases h;obtain⟨h0,h1⟩:=c7 ρ bV;refine dr ?_;rw [ev ha,ev hy,SV.val,SV.val,xK hT eN hk gi _ _ _ h0 h1,gw,tG,Nat.add_comm]
     ·cases h
    ·cases h
   ·cases h
  ·cases h
 | index t x y=>
  simp only [dh]at h;split at h
  ·rename_i tt cs k j eN ha hy;split at h
   ·rename_i n e hk;split at h
    ·rename_i te gi;have hi:=(aG hT gi).2;split at h
     ·rename_i l hl;split at h
      ·rename_i hln;split at h
       ·rename_i xs Ge;rw [adw]at h;obtain⟨v,hv,rfl⟩:=h;refine dr ?_;have hd:=cl (ρ:=ρ) hl;rw [ev ha,ev hy,SV.val,SV.val];refine sd hT eN hk gi _ _ _ (by omega) (by omega) ?_;rw [hd,Int.toNat_natCast];exact xJ hi Ge hv
       ·cases h
      ·cases h
     ·split at h
      ·rename_i k' m a;split at h
       ·rename_i hc;obtain⟨rfl,jT,zw⟩:=hc;cases h;obtain⟨h0,h1⟩:=c7 ρ bV;refine dr ?_;rw [ev ha,ev hy,SV.val,SV.val];refine sd hT eN hk gi _ _ _ h0 h1 ?_;have bP:(j.den ρ 0).toNat<m:=by simp only [E.den]at h1;omega
        have zT:(SV.aB ρ [SV.cD k' m a])[(j.den ρ 0).toNat]? =some (.int k' (a.den ρ (j.den ρ 0).toNat)):=by
         simp only [SV.aB,SV.cells,List.append_nil];rw [bd,if_pos bP]
        rw [jT,Nat.mul_one,dL];simp [part,hi.isAgg w,zw,zT]
       ·cases h
      ·cases h
    ·cases h
   ·cases h
  ·rename_i tt v k j _ eN hx hy;split at h
   ·rename_i hk;obtain⟨h1,h2⟩:=CQ (P:=P) (w:=w) (ρ:=ρ) (k:=k) hT eN hk h bV;obtain⟨rv,Oc,Rp,re⟩:=res;simp only at h2;subst h2;refine dr ?_;rw [ev hx,ev hy];exact h1
   ·cases h
  ·cases h
 | extract x i=>
  simp only [dh]at h;split at h
  ·rename_i vs hx;rw [adw]at h;obtain⟨v,hv,rfl⟩:=h;refine cf ?_;have:(SV.vals ρ vs)[i]? =some (v.val ρ):=by
    have key: ∀(l:List SV) (i:Nat),(SV.vals ρ l)[i]? =(l[i]?).map (SV.val ρ):=by
     intro l
     induction l with
     | nil=>intro i;simp [SV.vals]
     | cons x r ih=>intro i;cases i<;>simp [SV.vals,ih]
    rw [key,hv];rfl
   simp [execOp,ev hx,SV.val,Instr.extract,this]
  ·cases h
 | makeFunc fn first caps=>
  simp only [dh]at h;split at h
  ·rename_i f Tm;rw [adw]at h;obtain⟨cs,mG,rfl⟩:=h;have:=jW se _ _ mG;have hf:first= #[]:=Array.ext' Tm
   subst hf;refine cf ?_;simp only [execOp,adL,Instr.makeFunc,ad_,adC,SV.val];have e5:Array.map vals caps=(SV.vals ρ cs).toArray:=Array.ext' (by rw [Array.toList_map,this]);rw [e5];simp
  ·cases h
 | call c=>
  obtain⟨callee,args,argTypes⟩:=c;simp only [dh]at h;split at h
  ·rename_i x t jo CS;have hf:args= #[x]:=Array.ext' jo;have hg:argTypes= #[t]:=Array.ext' CS;subst hf hg;split at h
   ·rename_i tt v eN hv;obtain⟨h1,h2⟩:=Ky (P:=P) hT eN h cJ bV ty;obtain⟨rv,Oc,Rp,re⟩:=res;simp only at h2;subst h2;refine cf ?_;simp only [execOp,resolve,invoke,builtin,adL,ad_,adC,aed,adT,List.map_nil,ev hv];rw [h1];rfl
   ·cases h
  ·rename_i x t jo CS;have hf:args= #[x]:=Array.ext' jo;have hg:argTypes= #[t]:=Array.ext' CS;subst hf hg;split at h
   ·rename_i tt eN hv;split at h
    ·rename_i e hk;cases h;obtain⟨rfl,nQ⟩:=aG hT eN;have cL:=nQ.kind;rw [hk]at cL;have hu:=bI cL;refine cf ?_;have hc:(Builtin.cap_ #[tt.t] ty #[.slice none 0 0]).run P w= .ok (goInt 0) w:=by
      simp [Builtin.cap_,run_underlying hu]
     simp only [execOp,resolve,invoke,builtin,adL,ad_,adC,aed,adT,List.map_nil,ev hv,SV.val];rw [hc];rfl
    ·cases h
   ·cases h
  ·rename_i x y jo;have hf:args= #[x,y]:=Array.ext' jo;subst hf;split at h
   ·rename_i k a k' b ha hb;cases h;refine cf ?_;simp only [execOp,resolve,invoke,builtin,adL,ad_,adC,aed,adT,List.map_nil,ev ha,ev hb,SV.val,kV];simp [Builtin.max_,Builtin.max2,ak]
   ·cases h
  ·rename_i x y jo;have hf:args= #[x,y]:=Array.ext' jo;subst hf;split at h
   ·rename_i k a k' b ha hb;cases h;refine cf ?_;simp only [execOp,resolve,invoke,builtin,adL,ad_,adC,aed,adT,List.map_nil,ev ha,ev hb,SV.val,kV];simp [Builtin.min_,Builtin.min2,ak]
   ·cases h
  ·rename_i x y t t' jo CS;have hf:args= #[x,y]:=Array.ext' jo;have hg:argTypes= #[t,t']:=Array.ext' CS;subst hf hg;split at h
   ·rename_i tt v u eN hv hu;have:=wi (P:=P) (w:=w) (nb:=nb) hT nr eN h cJ bV ty;simp only [execOp,resolve,invoke,builtin,adL,ad_,adC,aed,adT,List.map_nil,ev hv,ev hu];simp only [adL,ad_]at this;exact this
   ·cases h
  ·rename_i x t jo CS;have hf:args= #[x]:=Array.ext' jo;have hg:argTypes= #[t]:=Array.ext' CS;subst hf hg;split at h
   ·rename_i tt v eN hv;have:=y0 (P:=P) (w:=w) (nb:=nb) (nv:=nv) hT eN h cJ bV ty;simp only [execOp,resolve,invoke,builtin,adL,ad_,adC,aed,adT,List.map_nil,ev hv];simp only [adL,ad_]at this;exact this
   ·cases h
  ·rename_i x y t t' jo CS;have hf:args= #[x,y]:=Array.ext' jo;have hg:argTypes= #[t,t']:=Array.ext' CS;subst hf hg;split at h
   ·rename_i tt v u eN hv hu;split at h
    ·rename_i heq;subst heq;have:=zS (P:=P) (w:=w) (nb:=nb) (nv:=nv) hT eN h cJ bV ty;simp only [execOp,resolve,invoke,builtin,adL,ad_,adC,aed,adT,List.map_nil,ev hv,ev hu];simp only [adL,ad_]at this;exact this
    ·cases h
   ·cases h
  ·cases h
 | slice t x lo hi mx=>
  simp only [dh]at h;split at h
  ·rename_i tt v l hh m eN hv hl WH hm;split at h
   ·rename_i hk;split at h
    ·cases h
    ·rename_i QY;have Fy:m=none:=by cases m<;>simp_all
     subst Fy;obtain⟨h1,h2⟩:=y1 (P:=P) (w:=w) (ρ:=ρ) hT eN hk h (ij se hl) (ij se WH) bV;have YN:mx.map vals=none:=by
      have:=ij se hm;cases hq:mx.map vals with
      | none=>rfl
      | some v=>rw [hq]at this;exact this.elim
     obtain⟨rv,Oc,Rp,re⟩:=res;simp only at h2;subst h2;refine dr ?_;rw [ev hv,YN];exact h1
   obtain⟨h1,h2⟩:=xO (P:=P) (w:=w) hT eN h (ij se hl) (ij se WH) (ij se hm) cJ bV;obtain⟨rv,Oc,Rp,re⟩:=res;simp only at h2;subst h2;refine dr ?_;rw [ev hv];exact h1
  ·cases h
 | makeMap t r=>
  cases r with
  | some r=>simp [dh]at h
  | none=>
   simp only [dh]at h;have:=tK (P:=P) (w:=w) (hp:=hp) (S:=S) (nv:=nv) (ρ:=ρ) hT D2 h;simp only [execOp,Option.map_none];exact this
 | lookup t x k comma=>
  simp only [dh]at h;split at h
  ·rename_i x' k' hx hk;obtain⟨h1,h2⟩:=vU (P:=P) (w:=w) hT h cJ;obtain⟨rv,Oc,Rp,re⟩:=res;simp only at h2;subst h2;refine dr ?_;rw [ev hx,ev hk];exact h1
  ·cases h
 | mapUpdate t x k v=>
  simp only [dh]at h;split at h
  ·rename_i x' k' v' hx hk hv;obtain⟨h1,j,ck,h2,w',h3,h4⟩:=oo (P:=P) (w:=w) hT h cJ;unfold Did;rw [h2];refine⟨w',.inr ⟨h1,?_⟩,h4⟩;simp only [execOp,ev hx,ev hk,ev hv,adL,h3,adC,ad_]
  ·cases h
 | insert t x k v=>
  simp only [dh]at h;split at h
  ·rename_i x' k' v' hx hk hv;obtain⟨h1,j,ck,h2,w',h3,h4⟩:=oo (P:=P) (w:=w) hT h cJ;unfold Did;rw [h2];refine⟨w',.inr ⟨h1,?_⟩,h4⟩;simp only [execOp,ev hx,ev hk,ev hv,adL,h3,adC,ad_]
  ·cases h
 | makeSlice t n c=>
  simp only [dh]at h;split at h
  ·rename_i tt k n' k' c' eN hn hc;have:=zR (P:=P) (w:=w) (hp:=hp) (S:=S) (nb:=nb) (ρ:=ρ) hT eN h bV k k';have en:vals n= .int k (n'.den ρ 0):=ev hn;have ec:vals c= .int k' (c'.den ρ 0):=ev hc;simp only [execOp,en,ec];exact this
  ·cases h
 | range t x=>
  simp only [dh]at h;split at h
  ·rename_i ti l cF hx;split at h
   ·rename_i hk;cases h;obtain⟨rfl,hi⟩:=aG hT cF;have k1:=hi.kind;rw [hk]at k1;have hu:=FC k1;refine⟨w.alloc (.stringIter ⟨l.toArray⟩ 0),_,if_pos rfl,?_,⟨rfl,rfl,rfl,by simp⟩,by simp,fun k hk=>heap_alloc_old w _ hk,fun k=>Iff.rfl,heap_alloc_new w _⟩;subst D2;have e1:vals x= .string ⟨l.toArray⟩:=ev hx;simp only [execOp,e1,adL,run_range_string w _ _ hu,adC,ad_,SV.val,List.getD_eq_getElem?_getD,jx];rfl
   ·cases h
  ·cases h
 | next x b=>
  cases b with
  | false=>simp [dh]at h
  | true=>
   simp only [dh,Option.bind_eq_some_iff]at h;obtain⟨v,hv,h⟩:=h;unfold IP at h;split at h
   ·rename_i b;split at h
    ·rename_i j Xk;split at h
     ·rename_i b' l pos hj;split at h
      ·rename_i hbb;subst hbb;have e1:vals x= .pointer (some ⟨ρ.bv.getD b 0,0,none⟩):=ev hv;split at h
       ·rename_i c hc;split at h
        ·rename_i YO;cases h;obtain⟨hS,hh⟩:=cJ j (by simp) _ hj;obtain⟨bP,zT⟩:=adu.1 hc;have N9:pos<(⟨l.toArray⟩:ByteArray).size:=by simpa [ByteArray.size] using bP
         have ZU:(⟨l.toArray⟩:ByteArray)[pos]'N9=c:=by
          show l.toArray[pos]'_=c;simpa using zT
         have hn:=Lib.run_next_ascii_at (P:=P) w (ρ.bv.getD b 0) ⟨l.toArray⟩ pos ty hh N9 (by rw [ZU];exact YO);rw [ZU]at hn;refine⟨w.iterAt (ρ.bv.getD b 0) ⟨l.toArray⟩ (pos+1),.inl ?_,⟨⟨_,hj,rfl⟩,rfl,⟨rfl,rfl,rfl,by simp [World.iterAt]⟩,by simp [World.iterAt],fun k hk=>?_,fun k=>hS k,?_⟩⟩
         ·simp only [execOp,e1,adL,hn,adC,ad_,SV.val,SV.vals];rfl
         ·have: ¬k=ρ.bv.getD b 0:=fun e=>hk ((hS k).2 e)
          exact Array.getElem?_setIfInBounds_ne (Ne.symm this)
         ·exact Lib.iterAt_heap w _ _ pos (pos+1) hh
        ·cases h
       ·rename_i hc;cases h;obtain⟨hS,hh⟩:=cJ j (by simp) _ hj;have hn:=Lib.run_next_end_at (P:=P) w (ρ.bv.getD b 0) ⟨l.toArray⟩ pos ty hh (by
         rw [List.getElem?_eq_none_iff]at hc;simpa [ByteArray.size] using hc)
        refine cf ?_;simp only [execOp,e1,adL,hn,adC,ad_,SV.val,SV.vals];rfl
      ·cases h
     ·cases h
    ·cases h
   ·cases h
 | _=>simp [dh]at h
end
end Go.RX
