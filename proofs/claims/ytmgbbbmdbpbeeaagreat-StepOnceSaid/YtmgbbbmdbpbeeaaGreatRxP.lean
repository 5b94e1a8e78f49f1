/- Executor. -/
import Derived.Lib.OthersKept
import Derived.Test.YtmgbbbmdbpbeeaaGreatM08
import Derived.Lib.ConvBytes
open Array renaming length_toList → ajv
open Go.Builtin renaming append_ → ajc
open Go.Op renaming equalIn → aji
open Go.Result renaming andThen_ok → aiU
open Go.Sem renaming run_bind → ai2, run_pure → ajd
open Int renaming toNat → ag, toNat_natCast → aiX
open List renaming getD_cons_zero → ah, getElem?_append_left → aiR, getElem?_eq_getElem → ajk, getElem?_eq_some_iff → aiN, map_congr_left → ajq, map_cons → ajb, map_toArray → ajD, mem_cons_of_mem → aiV, mem_cons_self → aiQ, mem_filter → aja, mem_range → ai8, mem_singleton → ajo, range → ajw
open Option renaming getD_some → ajh, map_eq_some_iff → aiO, map_some → ajI
open Option.some renaming injEq → aiP
namespace Go.RX
section
variable {P:Program} {ρ:Env} {w:World} {look:Nat→Option SV} {bH:Operand→Value} {hp:List Ck} {S:Nat→Nat→Prop} {nb nv:Nat} {T:List TI}
theorem cq{run:Result Next}{v:SV}{vcs:List BE}{rd:List Nat}(h:run= .ok (.value (v.val ρ)) w):sx P ρ w hp S nb nv run {val:=v,vcs:=vcs,rd:=rd}:=h
theorem dx{s:Sem Value}{v:SV}{vcs:List BE}{rd:List Nat}(h:s.run P w= .ok (v.val ρ) w):
  sx P ρ w hp S nb nv ((do pure (.value (←s)):Sem Next).run P w) {val:=v,vcs:=vcs,rd:=rd}:=by
 apply cq;simp only [ai2,h,aiU,ajd]
theorem Ix{c:BE}{a b v:SV}(h:C9 c a b=some v):v.val ρ=if c.den ρ then a.val ρ else b.val ρ:=by
 unfold C9 at h;split at h
 ·cases h;simp [BE.den]
 ·cases h;simp [BE.den]
 ·split at h
  ·cases h;simp only [SV.val,nC];cases c.den ρ<;>rfl
  ·split at h
   ·rename_i hg;cases h;subst hg;simp only [SV.val,nC,c7];cases c.den ρ<;>rfl
   ·cases h
  ·split at h
   ·rename_i hg;cases h;subst hg;simp only [SV.val,nC];cases h:BE.den ρ _<;>simp
   ·cases h
  ·cases h
theorem Mi(hT:bD P T=true){t:TypeId}{tt:TI}(fc:aU T t=some tt){v:SV}{res:hU}(h:Iw hp tt.k v=some res)
  (cP:Reads hp ρ w S res.rd) (bW: ∀b∈res.vcs,b.prop ρ) (ty:TypeId):
  (Builtin.len_ #[t] ty #[v.val ρ]).run P w= .ok (res.val.val ρ) w∧res.hZ= .none:=by
 unfold Iw at h;split at h
 ·rename_i e hk;split at h
  ·rename_i b i s n m;cases h;have:=eH bW;refine⟨?_,rfl⟩;show(Builtin.len_ #[t] ty #[.slice (some ⟨ρ.bv.getD b 0,(i.den ρ 0).toNat*s,none⟩) (n.den ρ 0).toNat (m.den ρ 0).toNat]).run P w=_;rw [om hT fc hk,goInt,Int.toNat_of_nonneg this];rfl
  ·cases h;exact⟨om hT fc hk _ _ _ _,rfl⟩
  ·rename_i v;split at h
   ·rename_i j md v' t' s n aD cI;cases h;obtain⟨hj,dA⟩:=cN cI;simp only [Ck.mC,beq_iff_eq]at dA;subst dA;have hS:=cP j (by simp) _ hj;have:=eH bW;obtain⟨ad,cp,he⟩:=Qw hS;have e1:(SV.vv v).val ρ= .slice ad (n.den ρ 0).toNat cp:=he;refine⟨?_,rfl⟩;rw [e1,om hT fc hk,SV.val,goInt,Int.toNat_of_nonneg this]
   ·cases h
  ·rename_i v cs s;split at h
   ·rename_i r hr;cases h;simp only at bW cP;obtain⟨v1,v2⟩:=bE bW;have v2:=a_ v2;simp only [E.den]at v2;obtain⟨_,dB⟩:=eK hr cP v1;obtain⟨_,_,_,a,c,k,_,_,hx,_⟩:=dB;refine⟨?_,rfl⟩;rw [hx,om hT fc hk,SV.val,goInt,Int.toNat_of_nonneg v2]
   ·cases h
  ·cases h
 ·rename_i hk;split at h
  ·rename_i l;cases h;exact⟨yl hT fc hk _ _,rfl⟩
  ·rename_i s;cases h;have:=eH bW;refine⟨?_,rfl⟩;have e1:(SV.kK s).val ρ= .string ⟨(cd (s.den ρ)).toArray⟩:=rfl;rw [e1,yl hT fc hk,SV.val,goInt];congr 2;have e:=Km ρ s;simp only [ByteArray.size,List.size_toArray];omega
  ·cases h
 ·cases h
theorem wW(hT:bD P T=true)(nZ:ρ.Ok){ts:TypeId}{tt:TI}(fc:aU T ts=some tt){x y:SV}{res:hU}(h:ve T hp nv tt.k x y=some res)
  (cP:Reads hp ρ w S res.rd) (bW: ∀b∈res.vcs,b.prop ρ) (ty:TypeId):
  sx P ρ w hp S nb nv ((do pure (.value (←ajc #[ts,ts] ty #[x.val ρ,y.val ρ])):Sem Next).run P w) res:=by
 unfold ve at h;split at h
 ·rename_i v b i s m cap;split at h
  ·rename_i j v' t s' n aD j' b' wr cs h1 h2;split at h
   ·rename_i aT te pG gP;split at h
    ·rename_i hc;obtain⟨rfl,rfl,hk,rfl,hw,hl,ym,iz,eS⟩:=hc;cases h;obtain⟨hj,dA⟩:=cN h1;simp only [Ck.mC,beq_iff_eq]at dA;subst dA;obtain⟨lH,PS⟩:=cM h2;simp only [Ck.ra,beq_iff_eq]at PS;subst PS;have AX:0≤n.den ρ 0:=eH fun c hc=>bW c (List.mem_append_left _ hc)
     have G4:=bW _ (List.mem_append_right _ (ajo.2 rfl));have:=B_ (P:=P) (w:=w) (nb:=nb) (nv:=nv) (cap:=(cap.den ρ 0).toNat) hT nZ fc hk gP eS ym hj (cP j (by simp) _ hj) lH (cP j' (by simp) _ lH) hw hl iz pG AX G4 ty;have e1:(SV.sl b (.lit 0) s (.lit 1) cap).val ρ= .slice (some ⟨ρ.bv.getD b 0,0,none⟩) 1 (cap.den ρ 0).toNat:=by
      simp [SV.val,E.den]
     rw [e1];exact this
    ·cases h
   ·cases h
  ·cases h
 ·rename_i b i s m cap;split at h
  ·rename_i j' b' wr cs t h2 hk;split at h
   ·rename_i te aD gP ep;split at h
    ·rename_i aT pG;split at h
     ·rename_i hc;obtain⟨rfl,rfl,hw,hl,ym,iz,eS,G4⟩:=hc;cases h;obtain⟨lH,PS⟩:=cM h2;simp only [Ck.ra,beq_iff_eq]at PS;subst PS;have e1:(SV.sl b (.lit 0) s (.lit 1) cap).val ρ= .slice (some ⟨ρ.bv.getD b 0,0,none⟩) 1 (cap.den ρ 0).toNat:=by
       simp [SV.val,E.den]
      rw [e1];exact uE (P:=P) (w:=w) (hp:=hp) (S:=S) (nb:=nb) (nv:=nv) hT nZ fc hk gP eS ym (cP j' (by simp) _ lH) hw hl iz pG G4 ty
     ·cases h
    ·cases h
   ·cases h
  ·cases h
 ·cases h
theorem vg{b:Nat}{cs:List Value}{S:Nat→Prop}(hS:(al b true cs).p w S)(t e:TypeId)(ht:P.underlying t=some (.slice e))(he:P.underlying e=some (.int .u8))(o n c:Nat):
  ∃w',(convert t t (.slice (some ⟨b,o,none⟩) n c)).run P w= .ok (.slice (some ⟨b,o,none⟩) n c) w'∧fZ w w'∧w'.heap.size=w.heap.size∧(∀k,k≠b→w'.heap[k]? =w.heap[k]?)∧(al b false cs).p w' S:=by
 obtain⟨h1,ty,fz,hg,_⟩:=hS;have hsh:w.shape? b=some (ty,cs.length):=by
  unfold World.shape?;rw [hg];simp
 refine⟨w.freeze ⟨b,cs.length,none⟩ 1,by simp [convert,run_underlying ht,run_underlying he,markStringish,hsh],?_,?_,?_,h1,?_⟩
 ·unfold World.freeze;rw [if_neg (by decide)];exact⟨rfl,rfl,rfl,by simp⟩
 ·unfold World.freeze;rw [if_neg (by decide)];simp
 ·intro k hk;unfold World.freeze;rw [if_neg (by decide)];simp [Array.getElem?_modify,Ne.symm hk]
 ·unfold World.freeze;rw [if_neg (by decide)];obtain⟨lo,hi⟩:=fz;exact⟨ty,_,by simp only [Array.getElem?_modify,if_true,hg,ajI];rfl,fun h=>by cases h⟩
theorem m7{t:TypeId}{tt:TI}(hT:bD P T=true)(fc:aU T t=some tt)(hk:tt.k= .str)(l:List UInt8)(k:IntKind)(j:Int)(h0:0≤j)(h1:j.toNat<l.length):
  (Instr.index t (.string ⟨l.toArray⟩) (.int k j)).run P w= .ok (.int .u8 ((l.getD j.toNat 0).toNat:Nat)) w:=by
 obtain⟨rfl,hi⟩:=aE hT fc;have cO:=hi.kind;rw [hk]at cO;have hu:P.underlying tt.t=some .string:=by
  unfold gY at cO;split at cO<;>simp_all
 have hg:(⟨l.toArray⟩:ByteArray)[j.toNat]? =some (l.getD j.toNat 0):=by
  have bX:j.toNat<(⟨l.toArray⟩:ByteArray).size:=by simpa [ByteArray.size] using h1
  rw [getElem?_pos (⟨l.toArray⟩:ByteArray) j.toNat bX];simp only [List.getD,ajk h1,ajh];rfl
 simp [Instr.index,asIntOf,run_underlying hu,h0,hg]
theorem nY{l:List BE}(h: ∀b∈l.filter (fun b=>b != .lit true),b.prop ρ): ∀b∈l,b.prop ρ:=by
 intro b hb;by_cases hc:b= .lit true
 ·subst hc;rfl
 ·exact h b (aja.2 ⟨hb,by simpa using hc⟩)
theorem Da{t:TypeId}{tt:TI}(hT:bD P T=true)(fc:aU T t=some tt)(hk:tt.k= .str){v:SV}{k:IntKind}{j:E}{res:hU}(h:Iv v j=some res)(bW: ∀b∈res.vcs,b.prop ρ):
  (Instr.index t (v.val ρ) (.int k (j.den ρ 0))).run P w= .ok (res.val.val ρ) w∧res.hZ= .none:=by
 unfold Iv at h;split at h
 ·rename_i l;split at h
  ·rename_i i;split at h
   ·rename_i hl;cases h;exact⟨m7 hT fc hk l k _ (by simp [E.den]) (by simpa [E.den] using hl),rfl⟩
   ·cases h
  ·cases h;have h2:=nY bW;have q0:=of_decide_eq_true (gW ρ _ _▸(BE.bZ ρ _).2 (h2 _ aiQ));have q1:=of_decide_eq_true (sM ρ _ _▸(BE.bZ ρ _).2 (h2 _ (aiV _ aiQ)));simp only [cH]at q0 q1;refine⟨?_,rfl⟩;have e1:(SV.str l).val ρ= .string ⟨l.toArray⟩:=rfl;rw [e1,m7 hT fc hk l k _ q0 (by omega),SV.val,dY,GQ]
 ·rename_i s;cases h;have h2:=nY bW;have q0:=of_decide_eq_true (gW ρ _ _▸(BE.bZ ρ _).2 (h2 _ aiQ));have q1:=of_decide_eq_true (sM ρ _ _▸(BE.bZ ρ _).2 (h2 _ (aiV _ aiQ)));simp only [cH,fO]at q0 q1;refine⟨?_,rfl⟩;have bX:(j.den ρ 0).toNat<(s.den ρ 0).toNat:=by omega
  have e1:(SV.kK s).val ρ= .string ⟨(cd (s.den ρ)).toArray⟩:=rfl;rw [e1,m7 hT fc hk _ k _ q0 (by rw [cy];exact bX),SV.val,dY,DK];congr 2;simp [List.getD,jU _ bX,Ke]
 ·cases h
theorem Iy(l:List UInt8)(a b:Nat):(⟨l.toArray⟩:ByteArray).extract a b=⟨((l.take b).drop a).toArray⟩:=by
 apply ByteArray.ext;rw [ByteArray.data_extract];apply Array.ext';simp [List.drop_take]
theorem rK{t:TypeId}{tt:TI}(hT:bD P T=true)(fc:aU T t=some tt)(hk:tt.k= .str)(L:List UInt8){lo hi:Option Value}{l h:Option Int}(hl:fD lo l)(hh:fD hi h)
  (h0:0≤l.getD 0) (h1:l.getD 0≤h.getD (L.length:Int)) (h2:h.getD (L.length:Int)≤L.length):
  (Instr.sliceAt t (.string ⟨L.toArray⟩) lo hi none).run P w= .ok (.string ⟨((L.take (h.getD (L.length:Int)).toNat).drop (l.getD 0).toNat).toArray⟩) w:=by
 obtain⟨rfl,mv⟩:=aE hT fc;have cO:=mv.kind;rw [hk]at cO;have hu:P.underlying tt.t=some .string:=by
  unfold gY at cO;split at cO<;>simp_all
 have hb:=rY (P:=P) (w:=w) false L.length L.length (lo:=lo) (hi:=hi) (mx:=none) (m:=none) hl hh True.intro (by simp) h0 h1 (by simp) (fun _=>h2);have eS:(⟨L.toArray⟩:ByteArray).size=L.length:=by simp [ByteArray.size]
 simp only [Instr.sliceAt,Instr.slice,ai2,run_underlying hu,aiU,eS,Iy];simp [hb]
theorem ub{t:TypeId}{tt:TI}(hT:bD P T=true)(fc:aU T t=some tt)(hk:tt.k= .str)(s a b:E){lo hi:Option Value}{l h:Option Int}(hl:fD lo l)(hh:fD hi h)
  (ha:a.den ρ 0=l.getD 0) (hb: ∀n:Int,(0≤s.den ρ 0→n=s.den ρ 0)→b.den ρ 0=h.getD n∨(h=none∧b.den ρ 0=s.den ρ 0)) (bW: ∀b'∈(sr s a b).vcs,b'.prop ρ):
  (Instr.sliceAt t (.string ⟨(cd (s.den ρ)).toArray⟩) lo hi none).run P w= .ok ((sr s a b).val.val ρ) w:=by
 unfold sr at bW ⊢;have leP: ∀x y:E,(∀b'∈sr.ZN x y,b'.prop ρ)→x.den ρ 0≤y.den ρ 0:=by
  intro x y h;unfold sr.ZN at h;split at h
  ·rename_i he;rw [he];exact Int.le_refl _
  ·exact of_decide_eq_true (gW ρ _ _▸(BE.bZ ρ _).2 (nY h _ (ajo.2 rfl)))
 have q1:=leP _ _ fun c hc=>bW c (List.mem_append_left _ (List.mem_append_left _ hc))
 have q2:=leP _ _ fun c hc=>bW c (List.mem_append_left _ (List.mem_append_right _ hc))
 have q3:=leP _ _ fun c hc=>bW c (List.mem_append_right _ hc)
 simp only [cH,fO]at q1 q2 q3;have hlen:((cd (s.den ρ)).length:Int)=s.den ρ 0:=by rw [cy];omega
 have hbe:b.den ρ 0=h.getD ((cd (s.den ρ)).length:Int):=by
  rcases hb (cd (s.den ρ)).length (fun _=>hlen)with e | ⟨e1,e2⟩
  ·exact e
  ·rw [e1,e2];exact hlen.symm
 have:=rK (P:=P) (w:=w) hT fc hk (cd (s.den ρ)) hl hh (by rw [←ha];exact q1) (by rw [←ha,←hbe];exact q2) (by rw [←hbe,hlen];exact q3);rw [this,SV.val,Kn ρ s a b q1 q2 q3,←hbe,←ha]
theorem zR{t:TypeId}{tt:TI}(hT:bD P T=true)(fc:aU T t=some tt)(hk:tt.k= .str){v:SV}{l h:Option E}{res:hU}(hs:zO v l h=some res)
  {lo hi:Option Value} (hl:fD lo (l.map fun e:E=>e.den ρ 0)) (hh:fD hi (h.map fun e:E=>e.den ρ 0)) (bW: ∀b∈res.vcs,b.prop ρ):
  (Instr.sliceAt t (v.val ρ) lo hi none).run P w= .ok (res.val.val ρ) w∧res.hZ= .none:=by
 have ga: ∀(o:Option E) (d:E),(o.getD d).den ρ 0=(o.map fun e:E=>e.den ρ 0).getD (d.den ρ 0):=by intro o d;cases o<;>rfl
 unfold zO at hs;split at hs
 ·rename_i L;split at hs
  ·rename_i a b e1 e2;split at hs
   ·rename_i hc;cases hs;have f1:=ga l (.lit 0);have f2:=ga h (.lit L.length);rw [e1]at f1;rw [e2]at f2;simp only [cH]at f1 f2;refine⟨?_,rfl⟩;have:=rK (P:=P) (w:=w) hT fc hk L hl hh (by rw [←f1];simp) (by rw [←f1,←f2];exact Int.ofNat_le.2 hc.1) (by rw [←f2];exact Int.ofNat_le.2 hc.2);rw [SV.val,this,SV.val,←f1,←f2];simp
   ·cases hs
  ·rename_i a b dI;cases hs;refine⟨?_,rfl⟩;have:=ub (P:=P) (w:=w) (ρ:=ρ) hT fc hk (zY L) (l.getD (.lit 0)) (h.getD (.lit L.length)) hl hh (ga l (.lit 0)) (fun n hn=>by
    left;rw [ga h (.lit L.length),cH,hn (by rw [lL];simp [Kd]),lL];rfl) bW
   rw [lL,nr]at this;exact this
 ·rename_i s;cases hs;refine⟨?_,rfl⟩;exact ub (P:=P) (w:=w) (ρ:=ρ) hT fc hk s (l.getD (.lit 0)) (h.getD (kp s)) hl hh (ga l (.lit 0)) (fun n hn=>by
   cases h with
   | none=>exact .inr ⟨rfl,by simp [fO]⟩
   | some e=>exact .inl rfl) bW
 ·cases hs
theorem Wq{t:TypeId}(hu: ∃m,P.underlying t=some (.interface m))(d:Nat):(aji (d+1) t .nilIface .nilIface).run P w= .ok true w:=by
 obtain⟨m,hu⟩:=hu;have vu:=run_underlying hu w;rw [aji];simp only [ai2,vu,aiU];rfl
theorem ZO{t t':TypeId}{v:Value}(hu: ∃m,P.underlying t=some (.interface m))(d:Nat):(aji (d+1) t (.iface t' v) .nilIface).run P w= .ok false w:=by
 obtain⟨m,hu⟩:=hu;have vu:=run_underlying hu w;rw [aji];simp only [ai2,vu,aiU];rfl
theorem Iz(x:Value): ∃t v,sH x= .iface t v:=by
 unfold sH;split<;>exact⟨_,_,rfl⟩
theorem Db{ti:TI}(cK:kr P ti){op:BinOp}{xo yo:Operand}{a:SV}{r:hU}(h:zQ ti op yo a=some r):
  yo= .const .nilIface∧(do eqGuard op ti.t xo yo (a.val ρ) .nilIface;binOp op ti.t (a.val ρ) .nilIface:Sem Value).run P w= .ok (r.val.val ρ) w∧r.hZ= .none:=by
 have hk:=cK.kind;have hu:ti.k= .iface→∃m,P.underlying ti.t=some (.interface m):=by
  intro e;rw [e]at hk;unfold gY at hk;split at hk<;>simp_all
 have g1: ∀v,(eqGuard op ti.t xo (.const .nilIface) v .nilIface).run P w= .ok () w:=by
  intro v;cases op<;>cases v<;>simp [eqGuard]
 unfold zQ at h;split at h
 ·rename_i ZP;have hu:=hu ZP;split at h
  ·cases h;exact⟨rfl,bj (g1 _) (df rfl fun d=>Wq hu d),rfl⟩
  ·cases h;exact⟨rfl,bj (g1 _) (dh rfl fun d=>Wq hu d),rfl⟩
  ·cases h
 ·rename_i t' k' e' ZP;have hu:=hu ZP;have hv: ∀d,(aji (d+1) ti.t ((SV.MH t' k' e').val ρ) .nilIface).run P w= .ok false w:=fun d=>ZO hu d
  split at h
  ·cases h;exact⟨rfl,bj (g1 _) (df rfl hv),rfl⟩
  ·cases h;exact⟨rfl,bj (g1 _) (dh rfl hv),rfl⟩
  ·cases h
 ·rename_i c v ZP;have hu:=hu ZP;obtain⟨t',x,hx⟩:=Iz (ρ.vv.getD v V1.nil).v;have hv: ∀d,(aji (d+1) ti.t ((SV.GK c v).val ρ) .nilIface).run P w= .ok (!c.den ρ) w:=by
   intro d;simp only [SV.val];cases c.den ρ with
   | true=>simp only [if_true,hx];exact ZO hu d
   | false=>simp only [Bool.false_eq_true,if_false];exact Wq hu d
  have Ca:binOp .eql ti.t ((SV.GK c v).val ρ) .nilIface=(do pure (.bool (←Op.equal ti.t ((SV.GK c v).val ρ) .nilIface)):Sem Value):=by
   simp only [SV.val];cases c.den ρ with
   | true=>simp only [if_true,hx];rfl
   | false=>rfl
  have AU:binOp .neq ti.t ((SV.GK c v).val ρ) .nilIface=(do pure (.bool (!(←Op.equal ti.t ((SV.GK c v).val ρ) .nilIface))):Sem Value):=by
   simp only [SV.val];cases c.den ρ with
   | true=>simp only [if_true,hx];rfl
   | false=>rfl
  split at h
  ·cases h;refine⟨rfl,bj (g1 _) ?_,rfl⟩;rw [df Ca hv];simp [SV.val,c7]
  ·cases h;refine⟨rfl,bj (g1 _) ?_,rfl⟩;rw [dh AU hv];simp [SV.val]
  ·cases h
 ·cases h
theorem oY(w:World)(e:TypeId)(s:ByteArray):fZ w (Lib.bytesWorld w e s):=by
 unfold Lib.bytesWorld World.freeze;rw [if_neg (by decide)];exact⟨rfl,rfl,rfl,by simp⟩
theorem rL(w:World)(e:TypeId)(s:ByteArray):w.heap.size<(Lib.bytesWorld w e s).heap.size:=by rw [Lib.bytesWorld_size];omega
theorem vi(w:World)(e:TypeId)(s:E):
  World.views (Lib.bytesWorld w e ⟨(cd (s.den ρ)).toArray⟩) (.slice (some ⟨w.heap.size,0,none⟩) (s.den ρ 0).toNat (grownCap w (s.den ρ 0).toNat 0 e)) ((kp s).den ρ 0).toNat
   (aK ρ ((kp s).den ρ 0).toNat [⟨.int .u8,1,Kl s⟩]):=by
 refine⟨_,_,_,rfl,by rw [fO],grownCap_ge ..,fun h=>(nomatch h),fun ad pr=>⟨fun _=>?_,fun j u hu=>?_⟩⟩
 ·cases pr;rfl
 ·cases pr;rw [dG,bf,fO]at hu;split at hu
  ·rename_i hj;have:=Lib.bytesWorld_cell w e ⟨(cd (s.den ρ)).toArray⟩ j (by simpa [ByteArray.size,cy] using hj);rw [eB,Nat.zero_add];cases hu;rw [this,DK];congr 2;simp [List.getD,jU _ hj,Ke]
  ·cases hu
theorem AE(hT:bD P T=true){src dst:TypeId}{ts ti:TI}(sy:aU T src=some ts)(hk:ts.k= .str)(cK:aU T dst=some ti){v:SV}{res:hU}(h:bytesOf T nv ti.k v=some res)(bW: ∀b∈res.vcs,b.prop ρ):
  sx P ρ w hp S nb nv ((do pure (.value (←convert src dst (v.val ρ))):Sem Next).run P w) res:=by
 obtain⟨rfl,Gy⟩:=aE hT sy;obtain⟨rfl,yM⟩:=aE hT cK;have cO:=Gy.kind;rw [hk]at cO;have ZQ:P.underlying ts.t=some .string:=by
  unfold gY at cO;split at cO<;>simp_all
 unfold bytesOf at h;split at h
 ·rename_i e he;split at h
  ·rename_i te s gP hs;split at h
   ·rename_i hc;obtain⟨Ws,kx⟩:=hc;cases h;obtain⟨rfl,wM⟩:=aE hT gP;have k2:=yM.kind;rw [he]at k2;have hu2:=bM k2;have k3:=wM.kind;rw [Ws]at k3;have hu3:=jr k3;have q0:=of_decide_eq_true (gW ρ _ _▸(BE.bZ ρ _).2 (nY bW _ (ajo.2 rfl)));simp only [cH,fO]at q0;have hv:=rQ ρ hs;have ij:=Lib.run_convert_string_bytes (P:=P) w ts.t ti.t te.t ⟨(cd (s.den ρ)).toArray⟩ ZQ hu2 hu3;have eS:(⟨(cd (s.den ρ)).toArray⟩:ByteArray).size=(s.den ρ 0).toNat:=by simp [ByteArray.size,cy]
    rw [eS]at ij;refine⟨te.t,1,kp s,[⟨.int .u8,1,Kl s⟩],.slice (some ⟨w.heap.size,0,none⟩) (s.den ρ 0).toNat (grownCap w (s.den ρ 0).toNat 0 te.t),Lib.bytesWorld w te.t ⟨(cd (s.den ρ)).toArray⟩,fun k=>k=w.heap.size∧0<(s.den ρ 0).toNat,rfl,rfl,by rw [hv,ai2,ij];rfl,rfl,?_,?_,?_,?_⟩
    ·exact oY w te.t _
    ·exact fun k hk=>Lib.bytesWorld_at_old w te.t _ k hk
    ·refine⟨?_,fun k=>?_⟩
     ·simp only [Bool.false_eq_true,if_false];exact⟨by rw [c_];simp [bT],vi w te.t s⟩
     ·simp [Value.ownBlock,fO,eq_comm]
    ·intro k hk;refine⟨by omega,?_⟩;rw [hk.1];exact rL w te.t _
   ·cases h
  ·cases h
 ·cases h
theorem zS(hT:bD P T=true){src dst:TypeId}{ts ti:TI}(sy:aU T src=some ts)(hk:ts.k= .str)(cK:aU T dst=some ti){l:List UInt8}{res:hU}(h:zP T nv ti.k l=some res):
  sx P ρ w hp S nb nv ((do pure (.value (←convert src dst ((SV.str l).val ρ))):Sem Next).run P w) res:=by
 obtain⟨rfl,Gy⟩:=aE hT sy;obtain⟨rfl,yM⟩:=aE hT cK;have cO:=Gy.kind;rw [hk]at cO;have ZQ:P.underlying ts.t=some .string:=by
  unfold gY at cO;split at cO<;>simp_all
 unfold zP at h;split at h
 ·rename_i e he;split at h
  ·rename_i te gP;split at h
   ·rename_i hc;obtain⟨Ws,kx,hl⟩:=hc;cases h;obtain⟨rfl,wM⟩:=aE hT gP;have k2:=yM.kind;rw [he]at k2;have hu2:=bM k2;have k3:=wM.kind;rw [Ws]at k3;have hu3:=jr k3;have ij:=Lib.run_convert_string_bytes (P:=P) w ts.t ti.t te.t ⟨l.toArray⟩ ZQ hu2 hu3;have eS:(⟨l.toArray⟩:ByteArray).size=l.length:=by simp [ByteArray.size]
    have jI:=grownCap_ge w l.length 0 te.t;have mw:(Lib.bytesCells w te.t ⟨l.toArray⟩).toList=(l.map fun b=>Value.int .u8 b.toNat)++List.replicate (grownCap w l.length 0 te.t - l.length) (.int .u8 0):=by
     simp [Lib.bytesCells,eS]
    rw [eS]at ij;have hn:(E.den ρ (.lit (l.length:Int)) 0).toNat=l.length:=by simp [E.den]
    refine⟨te.t,1,.lit l.length,[⟨.int .u8,1,.o3 (l.map fun b=>(b.toNat:Int))⟩],.slice (some ⟨w.heap.size,0,none⟩) l.length (grownCap w l.length 0 te.t),Lib.bytesWorld w te.t ⟨l.toArray⟩,fun k=>k=w.heap.size,rfl,rfl,by rw [SV.val,ai2,ij];rfl,rfl,?_,?_,⟨?_,fun k=>?_⟩,?_⟩
    ·exact oY w te.t _
    ·exact fun k hk=>Lib.bytesWorld_at_old w te.t _ k hk
    ·simp only [if_true];rw [hn,dG];refine⟨by rw [aF,Nat.mul_one],.inr ⟨w.heap.size,0,_,Lib.bytesCells w te.t ⟨l.toArray⟩,rfl,⟨te.t,_,Lib.bytesWorld_at_new w te.t _,.inr (Nat.le_refl _)⟩,jI,grownCap_le_maxLen w l.length 0 te.t (by unfold maxLen;omega),fun _=>?_,?_⟩⟩
     ·rw [←ajv,mw];simp;omega
     ·rw [List.drop_zero,mw,Nat.mul_one];apply List.ext_getElem?;intro j;rw [bf,List.getElem?_take];split
      ·rename_i hj;rw [aiR (by simpa using hj),List.getElem?_map,ajk hj];simp [E.den,List.getD,hj]
      ·rfl
    ·simp [Value.ownBlock,eq_comm]
    ·intro k hk;exact⟨by omega,by rw [hk];exact rL w te.t _⟩
   ·cases h
  ·cases h
 ·cases h
theorem KU(a:Addr)(k:Nat)(h:a.spot=none):(a.add k).spot=none:=by
 unfold Addr.add;split<;>simp_all
theorem uP{md:Bool}{t s n:Nat}{v:Value}{cs:List Value}{S:Nat→Prop}(h:(aG md t s v n cs).p w S):World.views w v n cs∧cs.length=n*s:=by
 obtain⟨h0,_⟩:=h;cases md with
 | true=>
  simp only [if_true]at h0;have Ti:=h0;obtain⟨hl,hr⟩:=h0;refine⟨?_,hl⟩;rcases hr with⟨rfl,rfl⟩ | ⟨g,o,cap,cur,rfl,hg,Dg,_⟩
  ·exact⟨none,0,0,rfl,rfl,Nat.le_refl _,fun _=>rfl,by simp⟩
  ·refine⟨_,n,cap,rfl,rfl,Dg,by simp,?_⟩;rintro _ ⟨⟩;exact⟨fun _=>rfl,fun j u hu=>jk Ti j u hu⟩
 | false=>
  simp only [Bool.false_eq_true,if_false]at h0;exact⟨h0.2,h0.1⟩
theorem vj(ad:Addr)(l:List Value)(n:Nat)(hn:l.length=n)(h: ∀(j:Nat) v,l[j]? =some v→w.cell? (ad.add j)=some v):(loadCells ad n).run P w= .ok l.toArray w:=by
 subst hn;exact run_loadCells_list (P:=P) w ad l h
theorem iE{src dst e:TypeId}(hs:P.underlying src=some (.slice e))(he:P.underlying e=some (.int .u8))(hd:P.underlying dst=some .string){a:Option Addr}{m c:Nat}{f:Nat→Int}(h0:a=none→m=0)(hc: ∀ad,a=some ad→∀(j:Nat) u,(aj .u8 m f)[j]? =some u→w.cell? (ad.add j)=some u):
  (convert src dst (.slice a m c)).run P w= .ok (.string ⟨((ajw m).map fun j=>UInt8.ofNat (f j).toNat).toArray⟩) w:=by
 rw [run_convert_bytes_string w src dst e a m c hs he hd];cases a with
 | none=>
  have:=h0 rfl;subst this;simp [Conv.bytesToString,ajd];rfl
 | some ad=>
  have hl:(loadCells ad m).run P w= .ok (((ajw m).map f).map (Value.int .u8)).toArray w:=by
   rw [List.map_map];exact vj ad _ m (by simp) fun j u hu=>hc ad rfl j u hu
  rw [run_bytesToString w ad m c _ hl,foldl_push_bytes,List.map_map];simp [ByteArray.empty,ByteArray.emptyWithCapacity,Function.comp_def];rfl
theorem PU{t:TypeId}(h:gY (P.underlying t) .str=true):P.underlying t=some .string:=by
 unfold gY at h;split at h<;>simp_all
theorem mP(a n:E):cd ((qW a n).den ρ)=(ajw (n.den ρ 0).toNat).map fun j=>UInt8.ofNat (a.den ρ j).toNat:=by
 unfold qW;split
 ·rename_i k hk;have hn:=cn (ρ:=ρ) hk;split
  ·rename_i l hl;have hl:=r6 (ρ:=ρ) hl;subst hl;rw [hn,aiX];unfold cd;simp only [E.den,ah,aiX];refine ajq fun j hj=>?_
   have hj:=ai8.1 hj;simp [hj]
  ·exact rR ρ a n
 ·exact rR ρ a n
theorem AF{src dst e:TypeId}(hs:P.underlying src=some (.slice e))(he:P.underlying e=some (.int .u8))(hd:P.underlying dst=some .string){v:SV}{res:hU}(h:C_ hp v=some res)(cP:Reads hp ρ w S res.rd)(bW: ∀b∈res.vcs,b.prop ρ):
  sx P ρ w hp S nb nv ((do pure (.value (←convert src dst (v.val ρ))):Sem Next).run P w) res:=by
 unfold C_ at h;split at h
 ·cases h;refine dx ?_;exact iE (P:=P) (w:=w) (a:=none) (m:=0) (c:=0) (f:=fun _=>0) hs he hd (fun _=>rfl) fun _ h=>nomatch h
 ·rename_i b i n m;split at h
  ·rename_i j b' wr cs i' n' hf hi hn;split at h
   ·rename_i xs GU;split at h
    ·rename_i kl a KM;split at h
     ·rename_i DT;cases h;obtain⟨hj,dA⟩:=cM hf;simp only [Ck.ra,beq_iff_eq]at dA;subst dA;have hS:=cP j (by simp) _ hj;obtain⟨h1,ty,fz,hg,_⟩:=hS;have hi:=cn (ρ:=ρ) hi;have hn:=cn (ρ:=ρ) hn;refine dx ?_;have QN:=gD (ρ:=ρ) KM;rw [DT,List.length_replicate,oc]at QN;obtain⟨Uu,hle⟩:=eD (ρ:=ρ) GU;rw [Uu]at QN;rw [nA,mP,cH,aiX];have e1:(SV.sl b i 1 n m).val ρ= .slice (some ⟨ρ.bv.getD b 0,i',none⟩) n' (m.den ρ 0).toNat:=by simp [SV.val,hi,hn]
      rw [e1];refine iE (P:=P) (w:=w) (f:=a.den ρ) hs he hd (fun h=>nomatch h) ?_;rintro _ ⟨⟩ j u hu;rw [←QN,List.getElem?_take]at hu;split at hu
      ·rw [List.getElem?_drop]at hu;rw [eB];simp only [World.cell?,hg];simpa using hu
      ·cases hu
     ·cases h
    ·cases h
   ·cases h
  ·rename_i j b' wr m' a hf hi hn;cases h;obtain⟨hj,dA⟩:=cM hf;simp only [Ck.ra,beq_iff_eq]at dA;subst dA;have hS:=cP j (by simp) _ hj;obtain⟨h1,ty,fz,hg,_⟩:=hS;have hi:=cn (ρ:=ρ) hi;have hle:=of_decide_eq_true (gW ρ _ _▸(BE.bZ ρ _).2 (nY bW _ (ajo.2 rfl)));simp only [cH]at hle;refine dx ?_;rw [nA,mP];have e1:(SV.sl b i 1 n m).val ρ= .slice (some ⟨ρ.bv.getD b 0,0,none⟩) (n.den ρ 0).toNat (m.den ρ 0).toNat:=by simp [SV.val,hi]
   rw [e1];refine iE (P:=P) (w:=w) (f:=a.den ρ) hs he hd (fun h=>nomatch h) ?_;rintro _ ⟨⟩ j u hu;obtain⟨bX,_⟩:=aiN.1 hu;rw [aF]at bX;rw [eB];simp only [World.cell?,hg];rw [←hu,bf,if_pos bX];have ec:SV.aA ρ [SV.b_ .u8 m' a]=aj .u8 m' (a.den ρ):=by simp [SV.aA,SV.cells]
   rw [ec,Nat.zero_add,List.getElem?_toArray,bf,if_pos (show j<m' by omega)];rfl
  ·cases h
 ·rename_i v;split at h
  ·rename_i j md v' t n a hf;cases h;obtain⟨hj,dA⟩:=cN hf;simp only [Ck.mC,beq_iff_eq]at dA;subst dA;have hS:=cP j (by simp) _ hj;have hv:=(uP hS).1;rw [dG]at hv;obtain⟨a',m',c',e1,e2,_,h0,hc⟩:=hv;refine dx ?_;rw [nA,mP];rw [show(SV.vv v).val ρ= .slice a' m' c' from e1,←e2];exact iE (P:=P) (w:=w) hs he hd (fun h=>e2.trans (h0 h)) fun ad pr j u hu=>(hc ad pr).2 j u (by rw [←e2];exact hu)
  ·cases h
 ·rename_i v cs s;split at h
  ·rename_i r hr;split at h
   ·rename_i a hsh;split at h
    ·rename_i ia;obtain⟨kx,hw⟩:=ia;cases h;simp only at bW cP;obtain⟨v1,v2⟩:=bE bW;have v2:=a_ v2;simp only [E.den]at v2;have adf:=D5 hr cP v1 v2 hw hsh;obtain⟨_,_,a',c',e1,h0,hc⟩:=adf;rw [dG]at hc;refine dx ?_;rw [nA,mP,e1];exact iE (P:=P) (w:=w) hs he hd h0 fun ad pr j u hu=>hc ad pr j u hu
    ·cases h
   ·cases h
  ·cases h
 ·cases h
theorem jF(hT:bD P T=true){src dst:TypeId}{ti:TI}(cK:aU T dst=some ti)(hk:ti.k= .str){v:SV}{res:hU}(h:nX T hp src v=some res)(cP:Reads hp ρ w S res.rd)(bW: ∀b∈res.vcs,b.prop ρ):
  sx P ρ w hp S nb nv ((do pure (.value (←convert src dst (v.val ρ))):Sem Next).run P w) res:=by
 unfold nX at h;split at h
 ·rename_i ts sy;split at h
  ·rename_i e he;split at h
   ·rename_i te gP;split at h
    ·rename_i Ws;obtain⟨rfl,Gy⟩:=aE hT sy;obtain⟨rfl,yM⟩:=aE hT cK;obtain⟨rfl,hi3⟩:=aE hT gP;have k1:=Gy.kind;rw [he]at k1;have k2:=yM.kind;rw [hk]at k2;have k3:=hi3.kind;rw [Ws]at k3;exact AF (bM k1) (jr k3) (PU k2) h cP bW
    ·cases h
   ·cases h
  ·cases h
 ·cases h
theorem wX(hT:bD P T=true)(nZ:ρ.Ok){t t':TypeId}{tt:TI}(fc:aU T t=some tt){v u:SV}{res:hU}(h:vf T hp nv tt t t' v u=some res)
  (cP:Reads hp ρ w S res.rd) (bW: ∀b∈res.vcs,b.prop ρ) (ty:TypeId):
  sx P ρ w hp S nb nv ((do pure (.value (←ajc #[t,t'] ty #[v.val ρ,u.val ρ])):Sem Next).run P w) res:=by
 unfold vf at h;split at h
 ·rename_i heq;subst heq;split at h
  ·rename_i r hr;cases h;exact wW (P:=P) (w:=w) (nb:=nb) hT nZ fc hr cP bW ty
  ·split at h
   ·rename_i r hr;cases h;exact uF hT fc hr cP bW ty
   ·split at h
    ·rename_i r hr;cases h;exact wR hT fc hr cP bW ty
    ·exact wS hT fc h cP ty
 ·split at h
  ·rename_i ti kk m cK;split at h
   ·rename_i kt Z9;exact Aj hT fc cK Z9 h cP bW kk ty
   ·cases h
  ·cases h
theorem pX(hT:bD P T=true)(nZ:ρ.Ok)(sW:sR ρ look bH){o:Oper}{res:hU}(h:dt T look hp nb nv o=some res)
  (cP:Reads hp ρ w S res.rd) (bW: ∀b∈res.vcs,b.prop ρ) (DY:ρ.bv.length=nb):sx P ρ w hp S nb nv ((execOp bH o).run P w) res:=by
 obtain⟨dst,op,ty,pos,aft,gd⟩:=o;have ev: ∀{x v},iJ look x=some v→bH x=v.val ρ:=fun h=>eJ sW h
 cases op with
 | move x=>
  simp only [dt,aiO]at h;obtain⟨v,hv,rfl⟩:=h;exact cq (by simp [execOp,ev hv])
 | assign x=>
  simp only [dt,aiO]at h;obtain⟨v,hv,rfl⟩:=h;exact cq (by simp [execOp,ev hv])
 | pick c a b=>
  simp only [dt]at h;split at h
  ·rename_i c' a' b' hc ha hb;rw [aiO]at h;obtain⟨v,hv,rfl⟩:=h;refine cq ?_;rw [Ix hv];simp [execOp,ev hc,ev ha,ev hb,SV.val,asBool]
  ·cases h
 | alloc t=>
  simp only [dt,Option.bind_eq_some_iff]at h;obtain⟨ti,cK,h⟩:=h;split at h
  ·split at h
   ·rename_i hz;cases h;exact Ky hT DY cK _ (cE hz)
   ·cases h
  ·cases h;exact DX hT DY cK
 | box t x=>
  simp only [dt]at h;split at h
  ·rename_i v hv;rw [aiO]at h;obtain⟨cs,mw,rfl⟩:=h;have:=Kz (P:=P) (w:=w) (hp:=hp) (S:=S) (nv:=nv) nZ DY (t:=t) mw;simp only [execOp,ev hv];exact this
  ·cases h
 | build t parts=>
  simp only [dt]at h;split at h
  ·rename_i ti ps cK US;have hm:eT ρ ps (parts.map fun x=>(x.1,bH x.2)).toList:=by
    rw [Array.toList_map];exact oh sW nZ _ _ US
   split at h
   ·rename_i fs hk;split at h
    ·rename_i uz;rw [aiO]at h;obtain⟨cs,mw,rfl⟩:=h;have:=rV (w:=w) hT cK hk uz hm mw;exact dx this
    ·cases h
   ·rename_i n e hk;split at h
    ·rename_i te gP;rw [aiO]at h;obtain⟨cs,mw,rfl⟩:=h;have:=wL (w:=w) hT cK hk gP hm mw;exact dx this
    ·cases h
   ·cases h
  ·cases h
 | buildSlice t len parts=>
  simp only [dt]at h;split at h
  ·rename_i ti ps cK US;have hm:eT ρ ps (parts.map fun x=>(x.1,bH x.2)).toList:=by
    rw [Array.toList_map];exact oh sW nZ _ _ US
   split at h
   ·rename_i e hk;split at h
    ·rename_i te gP;split at h
     ·rename_i IW;split at h
      ·rename_i QV;rw [aiO]at h;obtain⟨zc,Ac,rfl⟩:=h;have Wt:(parts.map fun x=>(x.1,bH x.2))= #[]:=by
        have:ps=[]:=by simpa using QV
        subst this;apply Array.ext';generalize (parts.map fun x=>(x.1,bH x.2)).toList=l at hm;cases hm;rfl
       have:=yw (P:=P) (w:=w) (hp:=hp) (S:=S) (nb:=nb) (nv:=nv) (ρ:=ρ) hT cK hk gP Ac;simp only [execOp,IW,Wt];exact this
      ·cases h
     ·split at h
      ·cases h
      ·rename_i IW hlen;rw [aiO]at h;obtain⟨cs,mw,rfl⟩:=h;exact uC hT DY cK hk gP (by rintro (h | h | h);exact IW h;exact hlen (.inl h);exact hlen (.inr h)) hm mw
    ·cases h
   ·cases h
  ·cases h
 | load t x=>
  simp only [dt]at h;split at h
  ·rename_i ti a cK ha;obtain⟨rfl,hi⟩:=aE hT cK;obtain⟨h1,h2⟩:=ry hi h cP bW;obtain⟨rv,P9,Tu,re⟩:=res;simp only at h2;subst h2;refine cq ?_;simp only [execOp,ev ha,ai2,h1,aiU,ajd]
  ·cases h
 | store t x y=>
  simp only [dt]at h;split at h
  ·rename_i ti a v cK ha hv;obtain⟨rfl,hi⟩:=aE hT cK;obtain⟨h1,j,ck,h2,w',h3,h4⟩:=x_ hi h nZ cP bW;unfold sx;rw [h2];refine⟨w',.inr ⟨h1,?_⟩,h4⟩;simp only [execOp,ev ha,ev hv,ai2,h3,aiU,ajd]
  ·cases h
 | nilCheck x=>
  simp only [dt]at h;split at h
  ·rename_i b c hx;cases h;exact cq (by simp [execOp,ev hx,SV.val])
  ·rename_i b c hx;cases h;exact cq (by simp [execOp,ev hx,SV.val])
  ·rename_i e hx;cases h;have hz:=bW (Qu e) (by simp);have dI:e.den ρ 0≠0:=by
    rw [←BE.bZ,w_]at hz;simpa using hz
   exact cq (by simp [execOp,ev hx,SV.val,nu,dI])
  ·rename_i v i s c hx;split at h
   ·rename_i j md v' t s' n aD hf;cases h;obtain⟨hj,dA⟩:=cN hf;simp only [Ck.mC,beq_iff_eq]at dA;subst dA;have hS:=cP j (by simp) _ hj;obtain⟨h0,h1⟩:=db ρ bW;obtain⟨a,cp,he⟩:=nE hS (by omega);have e2:(SV.pv v i s c).val ρ= .pointer (some (a.add ((i.den ρ 0).toNat*s+c))):=by rw [SV.val,he];rfl
    refine cq ?_;simp only [execOp,ev hx,e2,ajd]
   ·cases h
  ·rename_i f cs hx;cases h;exact cq (by simp [execOp,ev hx,SV.val])
  ·cases h
 | binOp op t x y yt=>
  simp only [dt]at h;split at h
  ·rename_i ti a b cK ha hb;obtain⟨rfl,hi⟩:=aE hT cK;split at h
   ·rename_i r hr;cases h;have hr2:=Db (P:=P) (w:=w) (ρ:=ρ) hi (xo:=x) hr;obtain⟨e1,h1,h2⟩:=hr2;subst e1;obtain⟨rv,P9,Tu,re⟩:=res;simp only at h2;subst h2;refine cq ?_;have hy:bH (.const .nilIface)= .nilIface:=by
     have:iJ look (.const .nilIface)=some .sF:=rfl;exact ev this
    simp only [execOp,ev ha,hy];rw [ai2,h1];rfl
   obtain⟨h1,h2⟩:=Kx hi (w:=w) (xo:=x) (yo:=y) h bW;obtain⟨rv,P9,Tu,re⟩:=res;simp only at h2;subst h2;refine cq ?_;simp only [execOp,ev ha,ev hb];rw [ai2,h1];rfl
  ·cases h
 | unOp op t x=>
  simp only [dt]at h;split at h
  ·rename_i b hb;cases h;refine cq ?_;simp [execOp,ev hb,SV.val,Op.unary,c7]
  ·rename_i k a ha;cases h;refine cq ?_;simp only [SV.val,lM,E.den];cases k<;>simp [execOp,ev ha,SV.val,Op.unary,Op.intBits,IntKind.signed,IntKind.max,ua,IntKind.hi,ak,MG,IntKind.bits]
  ·rename_i k a ha;simp only [aiP]at h;subst h;refine cq ?_;simp only [SV.val,ye bW,eC,E.den];simp [execOp,ev ha,SV.val,Op.unary,Op.intArith]
  ·cases h
 | convert src dst x=>
  simp only [dt]at h;split at h
  ·rename_i Ub S4 k' a h1 h2 ha;split at h
   ·rename_i k hk;cases h;obtain⟨rfl,Gy⟩:=aE hT h1;obtain⟨rfl,yM⟩:=aE hT h2;have cO:=yM.kind;rw [hk]at cO;have hu:=jr cO;have ZQ:(P.underlying Ub.t).isSome=true:=by
     have:=Gy.kind;unfold gY at this;split at this<;>simp_all
    have IK:P.intKind S4.t=k:=by simp [Program.intKind,hu]
    refine dx ?_;rw [ev ha,SV.val,run_convert_int w Ub.t S4.t k' _ ZQ (by rw [IK];exact hu),IK,SV.val,Ku bW]
   ·cases h
  ·rename_i Ub S4 l h1 h2 ha;split at h
   ·rename_i hk;have:=zS (P:=P) (w:=w) (hp:=hp) (S:=S) (nb:=nb) (ρ:=ρ) hT h1 hk h2 h;simp only [execOp,ev ha];exact this
   ·cases h
  ·rename_i Ub S4 l h1 h2 ha;split at h
   ·rename_i hk;have:=AE (P:=P) (w:=w) (hp:=hp) (S:=S) (nb:=nb) (ρ:=ρ) hT h1 hk h2 h bW;simp only [execOp,ev ha];exact this
   ·cases h
  ·rename_i Ub S4 b i s n m h1 h2 ha;split at h
   ·rename_i e hk;split at h
    ·rename_i te j b' cs gP hf;split at h
     ·rename_i hc;obtain⟨rfl,Ws⟩:=hc;cases h;obtain⟨e2,yM⟩:=aE hT h2;subst e2;obtain⟨rfl,wM⟩:=aE hT gP;have cO:=yM.kind;rw [hk]at cO;have hu:=bM cO;have yz:=wM.kind;rw [Ws]at yz;have hue:=jr yz;obtain⟨hj,dA⟩:=cM hf;simp only [Ck.ra,beq_iff_eq]at dA;subst dA;have hS:=cP j (by simp) _ hj;obtain⟨w',r1,r2,r3,r4,r5⟩:=vg (P:=P) hS S4.t te.t hu hue ((i.den ρ 0).toNat*s) (n.den ρ 0).toNat (m.den ρ 0).toNat;refine⟨w',.inl ?_,⟨⟨_,hj,rfl⟩,rfl,r2,r3,fun k hk=>r4 k fun e=>hk ((hS.1 k).2 e),r5⟩⟩;simp only [execOp,ev ha,SV.val,ai2,r1,aiU,ajd]
     ·cases h
    ·cases h
   ·rename_i hk;have:=jF (P:=P) (w:=w) (ρ:=ρ) (nb:=nb) (nv:=nv) hT h2 hk h cP bW;simp only [execOp,ev ha];exact this
   ·cases h
  ·rename_i Ub S4 v h1 h2 ha;split at h
   ·rename_i hk;have:=jF (P:=P) (w:=w) (ρ:=ρ) (nb:=nb) (nv:=nv) hT h2 hk h cP bW;simp only [execOp,ev ha];exact this
   ·cases h
  ·rename_i Ub S4 v cs s h1 h2 ha;split at h
   ·rename_i hk;have:=jF (P:=P) (w:=w) (ρ:=ρ) (nb:=nb) (nv:=nv) hT h2 hk h cP bW;simp only [execOp,ev ha];exact this
   ·cases h
  ·rename_i Ub S4 h1 h2 ha;split at h
   ·rename_i hk;have:=jF (P:=P) (w:=w) (ρ:=ρ) (nb:=nb) (nv:=nv) hT h2 hk h cP bW;simp only [execOp,ev ha];exact this
   ·cases h
  ·cases h
 | makeInterface t x=>
  simp only [dt]at h;split at h
  ·rename_i ti k e cK hx;split at h
   ·rename_i hk;cases h;obtain⟨rfl,hi⟩:=aE hT cK;have cO:=hi.kind;rw [hk]at cO;have hu:=jr cO;refine cq ?_;have hc:P.concrete ti.t=true:=by simp [Go.Program.concrete,hu]
    simp only [execOp,ev hx,ai2,run_makeInterface w ti.t _ hc,aiU,ajd,SV.val]
   ·cases h
  ·cases h
 | sliceToArrayPointer arr x=>
  simp only [dt]at h;split at h
  ·rename_i ta v hta hv;split at h
   ·rename_i n e hk;split at h
    ·rename_i te gP;split at h
     ·cases h
     ·rename_i AX;obtain⟨rfl,Gy⟩:=aE hT hta;have cO:=Gy.kind;rw [hk]at cO;have hu:=nJ cO;split at h
      ·rename_i b i s m c;cases h;have q:=a_ bW;simp only [E.den]at q;refine cq ?_;simp only [execOp,ev hv,SV.val,uD];have: ¬(m.den ρ 0).toNat<n:=by omega
       simp [Instr.arrayAt,run_underlying hu,this]
      ·split at h
       ·rename_i v _ r hr;cases h;simp only at bW cP;obtain⟨q1,q2⟩:=bE bW;have q:=a_ q2;simp only [E.den]at q;obtain⟨hj,dB⟩:=eK hr cP q1;have M9:=dB.lo;have Z6:=dB.hi;obtain⟨a,cp,k,e1,e2,e3,e4⟩:=dB.is;have bX:(r.p.lo.den ρ 0).toNat<(Option.map ag (Option.map (fun m=>m.den ρ 0) r.p.mx)).getD cp:=by
         cases hm:r.p.mx with
         | none=>simp only [Option.map_none,Option.getD_none];omega
         | some m=>
          have:=(dB.top (m.den ρ 0) (by rw [hm];rfl)).1;simp only [ajI,ajh];omega
        have ku:=e4 (.inl bX);have hS:=cP r.j (by simp) _ hj;refine cq ?_;simp only [execOp,ev hv,SV.val];rw [e3];have: ¬(r.p.len.den ρ 0).toNat<n:=by omega
        have ZR: ∃ad,a=some ad:=by
         obtain⟨ad,c2,hh⟩:=nE hS (by omega);rw [hh]at e1;simp only [Value.slice.injEq]at e1;exact⟨ad,e1.1.symm⟩
        obtain⟨ad,rfl⟩:=ZR;rw [e1];simp [Instr.arrayAt,run_underlying hu,this,ez,ku]
       ·cases h
    ·cases h
   ·cases h
  ·cases h
 | fieldAddr s x f=>
  simp only [dt]at h;split at h
  ·rename_i ts a sy ha;split at h
   ·rename_i fs hk;split at h
    ·rename_i t off hf;split at h
     ·rename_i ti cK;split at h
      ·cases h
      ·rename_i eS;have ij:=fun ad=>sU (w:=w) hT sy hk hf cK eS ad
       split at h
       ·cases h;refine dx ?_;rw [ev ha,SV.val,ij,g8,SV.val]
       ·cases h;refine dx ?_;rw [ev ha,SV.val,ij,g8,SV.val,Nat.add_assoc]
       ·rename_i v i s' c;split at h
        ·rename_i j md v' t' s2 n aD cI;cases h;obtain⟨hj,dA⟩:=cN cI;simp only [Ck.mC,beq_iff_eq]at dA;subst dA;have hS:=cP j (by simp) _ hj;obtain⟨h0,h1⟩:=db ρ bW;obtain⟨ad,cp,he⟩:=nE hS (by omega);refine dx ?_;rw [ev ha,SV.val,he,ez,ij,dc,SV.val,he,ez,Nat.add_assoc]
        ·cases h
       ·cases h
     ·cases h
    ·cases h
   ·cases h
  ·cases h
 | field s x f=>
  simp only [dt]at h;split at h
  ·rename_i ts cs sy ha;split at h
   ·rename_i fs hk;split at h
    ·rename_i t off hf;split at h
     ·rename_i ti cK;split at h
      ·rename_i xs GU;rw [aiO]at h;obtain⟨v,hv,rfl⟩:=h;refine dx ?_;rw [ev ha,SV.val];exact wN hT sy hk hf cK GU hv
      ·cases h
     ·cases h
    ·cases h
   ·cases h
  ·cases h
 | indexAddr t x y=>
  simp only [dt]at h;split at h
  ·rename_i tt a k j fc ha hy;split at h
   ·rename_i e hk;split at h
    ·rename_i te gP;split at h
     ·rename_i b i s n m;split at h
      ·rename_i eS;cases h;have P5:0≤i.den ρ 0:=eH fun c hc=>bW c (List.mem_append_left _ hc)
       obtain⟨h0,h1⟩:=db ρ (i:=j) (n:=n) fun c hc=>bW c (List.mem_append_right _ hc)
       refine dx ?_;rw [ev ha,ev hy,SV.val,SV.val,pK hT fc hk gP _ _ _ _ _ h0 (by omega),g8,uD,bI,eS,Int.toNat_add P5 h0,Nat.add_mul,Nat.add_zero]
      ·cases h
     ·split at h
      ·rename_i r hr;split at h
       ·rename_i eS;cases h;simp only at bW cP;obtain⟨w1,w2⟩:=bE bW;obtain⟨hj,dB⟩:=eK hr cP w1;obtain⟨h0,h1⟩:=db ρ w2;obtain⟨b1,b2,b3,ad,c,q,hv,hc,hx,hq⟩:=dB;have KF:(r.p.lo.den ρ 0).toNat<((r.p.mx.map fun m=>m.den ρ 0).map ag).getD c:=by
         cases Tm:(r.p.mx.map fun m=>m.den ρ 0)with
         | none=>simp only [Option.map_none,Option.getD_none];omega
         | some m=>have:=b3 m Tm;simp only [ajI,ajh];omega
        have hq:=hq (.inl KF);have dI: ∃Yf,ad=some Yf:=by
         cases ad with
         | some Yf=>exact⟨Yf,rfl⟩
         | none=>
          obtain⟨a',cp',he⟩:=nE (cP r.j (by simp) _ hj) (by omega);rw [hv]at he;cases he
        obtain⟨ad,rfl⟩:=dI;refine dx ?_;have e3:(SV.int k j).val ρ= .int k (j.den ρ 0):=rfl;have e2:(SV.pv r.v (du r.p.lo j) r.s 0).val ρ= .pointer (some (ad.add ((r.p.lo.den ρ 0+j.den ρ 0).toNat*r.s+0))):=by rw [SV.val,hv,bI];rfl
        rw [ev ha,ev hy,hx,e2,e3,ajI,pK hT fc hk gP _ _ _ _ _ h0 (by omega),eS,Nat.add_zero,dc,hq,←Nat.add_mul,←Int.toNat_add b1 h0]
       ·cases h
      ·cases h
    ·cases h
   ·rename_i n e hk;split at h
    ·rename_i te gP;split at h
     ·rename_i b c;cases h;obtain⟨h0,h1⟩:=db ρ bW;refine dx ?_;rw [ev ha,ev hy,SV.val,SV.val,yj hT fc hk gP _ _ _ h0 h1,g8,uD,Nat.add_comm]
     ·cases h
    ·cases h
   ·cases h
  ·cases h
 | index t x y=>
  simp only [dt]at h;split at h
  ·rename_i tt cs k j fc ha hy;split at h
   ·rename_i n e hk;split at h
    ·rename_i te gP;have hi:=(aE hT gP).2;split at h
     ·rename_i l hl;split at h
      ·rename_i hln;split at h
       ·rename_i xs GU;rw [aiO]at h;obtain⟨v,hv,rfl⟩:=h;refine dx ?_;have hd:=cn (ρ:=ρ) hl;rw [ev ha,ev hy,SV.val,SV.val];refine sV hT fc hk gP _ _ _ (by omega) (by omega) ?_;rw [hd,aiX];exact yi hi GU hv
       ·cases h
      ·cases h
     ·split at h
      ·rename_i k' m a;split at h
       ·rename_i hc;obtain⟨rfl,kx,Ab⟩:=hc;cases h;obtain⟨h0,h1⟩:=db ρ bW;refine dx ?_;rw [ev ha,ev hy,SV.val,SV.val];refine sV hT fc hk gP _ _ _ h0 h1 ?_;have bX:(j.den ρ 0).toNat<m:=by simp only [E.den]at h1;omega
        have D_:(SV.aA ρ [SV.b_ k' m a])[(j.den ρ 0).toNat]? =some (.int k' (a.den ρ (j.den ρ 0).toNat)):=by
         simp only [SV.aA,SV.cells,List.append_nil];rw [bf,if_pos bX]
        rw [kx,Nat.mul_one,dY];simp [part,hi.isAgg w,Ab,D_]
       ·cases h
      ·cases h
    ·cases h
   ·cases h
  ·rename_i tt v k j _ fc hx hy;split at h
   ·rename_i hk;obtain⟨h1,h2⟩:=Da (P:=P) (w:=w) (ρ:=ρ) (k:=k) hT fc hk h bW;obtain⟨rv,P9,Tu,re⟩:=res;simp only at h2;subst h2;refine dx ?_;rw [ev hx,ev hy];exact h1
   ·cases h
  ·cases h
 | extract x i=>
  simp only [dt]at h;split at h
  ·rename_i vs hx;rw [aiO]at h;obtain⟨v,hv,rfl⟩:=h;refine cq ?_;have:(SV.bH ρ vs)[i]? =some (v.val ρ):=by
    have key: ∀(l:List SV) (i:Nat),(SV.bH ρ l)[i]? =(l[i]?).map (SV.val ρ):=by
     intro l
     induction l with
     | nil=>intro i;simp [SV.bH]
     | cons x r ih=>intro i;cases i<;>simp [SV.bH,ih]
    rw [key,hv];rfl
   simp [execOp,ev hx,SV.val,Instr.extract,this]
  ·cases h
 | makeFunc fn first jK=>
  simp only [dt]at h;split at h
  ·rename_i f Wu;rw [aiO]at h;obtain⟨cs,mw,rfl⟩:=h;have:=kA sW _ _ mw;have hf:first= #[]:=Array.ext' Wu
   subst hf;refine cq ?_;simp only [execOp,ai2,Instr.makeFunc,ajd,aiU,SV.val];have e5:Array.map bH jK=(SV.bH ρ cs).toArray:=Array.ext' (by rw [Array.toList_map,this]);rw [e5];simp
  ·cases h
 | call c=>
  obtain⟨callee,args,argTypes⟩:=c;simp only [dt]at h;split at h
  ·rename_i x t jN Dc;have hf:args= #[x]:=Array.ext' jN;have hg:argTypes= #[t]:=Array.ext' Dc;subst hf hg;split at h
   ·rename_i tt v fc hv;obtain⟨h1,h2⟩:=Mi (P:=P) hT fc h cP bW ty;obtain⟨rv,P9,Tu,re⟩:=res;simp only at h2;subst h2;refine cq ?_;simp only [execOp,resolve,invoke,builtin,ai2,ajd,aiU,ajD,ajb,List.map_nil,ev hv];rw [h1];rfl
   ·cases h
  ·rename_i x t jN Dc;have hf:args= #[x]:=Array.ext' jN;have hg:argTypes= #[t]:=Array.ext' Dc;subst hf hg;split at h
   ·rename_i tt fc hv;split at h
    ·rename_i e hk;cases h;obtain⟨rfl,ov⟩:=aE hT fc;have cO:=ov.kind;rw [hk]at cO;have hu:=bM cO;refine cq ?_;have hc:(Builtin.cap_ #[tt.t] ty #[.slice none 0 0]).run P w= .ok (goInt 0) w:=by
      simp [Builtin.cap_,run_underlying hu]
     simp only [execOp,resolve,invoke,builtin,ai2,ajd,aiU,ajD,ajb,List.map_nil,ev hv,SV.val];rw [hc];rfl
    ·cases h
   ·cases h
  ·rename_i x y jN;have hf:args= #[x,y]:=Array.ext' jN;subst hf;split at h
   ·rename_i k a k' b ha hb;cases h;refine cq ?_;simp only [execOp,resolve,invoke,builtin,ai2,ajd,aiU,ajD,ajb,List.map_nil,ev ha,ev hb,SV.val,lM];simp [Builtin.max_,Builtin.max2,ak]
   ·cases h
  ·rename_i x y jN;have hf:args= #[x,y]:=Array.ext' jN;subst hf;split at h
   ·rename_i k a k' b ha hb;cases h;refine cq ?_;simp only [execOp,resolve,invoke,builtin,ai2,ajd,aiU,ajD,ajb,List.map_nil,ev ha,ev hb,SV.val,lM];simp [Builtin.min_,Builtin.min2,ak]
   ·cases h
  ·rename_i x y t t' jN Dc;have hf:args= #[x,y]:=Array.ext' jN;have hg:argTypes= #[t,t']:=Array.ext' Dc;subst hf hg;split at h
   ·rename_i tt v u fc hv hu;have:=wX (P:=P) (w:=w) (nb:=nb) hT nZ fc h cP bW ty;simp only [execOp,resolve,invoke,builtin,ai2,ajd,aiU,ajD,ajb,List.map_nil,ev hv,ev hu];simp only [ai2,ajd]at this;exact this
   ·cases h
  ·rename_i x t jN Dc;have hf:args= #[x]:=Array.ext' jN;have hg:argTypes= #[t]:=Array.ext' Dc;subst hf hg;split at h
   ·rename_i tt v fc hv;have:=yx (P:=P) (w:=w) (nb:=nb) (nv:=nv) hT fc h cP bW ty;simp only [execOp,resolve,invoke,builtin,ai2,ajd,aiU,ajD,ajb,List.map_nil,ev hv];simp only [ai2,ajd]at this;exact this
   ·cases h
  ·rename_i x y t t' jN Dc;have hf:args= #[x,y]:=Array.ext' jN;have hg:argTypes= #[t,t']:=Array.ext' Dc;subst hf hg;split at h
   ·rename_i tt v u fc hv hu;split at h
    ·rename_i heq;subst heq;have:=Ag (P:=P) (w:=w) (nb:=nb) (nv:=nv) hT fc h cP bW ty;simp only [execOp,resolve,invoke,builtin,ai2,ajd,aiU,ajD,ajb,List.map_nil,ev hv,ev hu];simp only [ai2,ajd]at this;exact this
    ·cases h
   ·cases h
  ·cases h
 | slice t x lo hi mx=>
  simp only [dt]at h;split at h
  ·rename_i tt v l hh m fc hv hl Z6 hm;split at h
   ·rename_i hk;split at h
    ·cases h
    ·rename_i Tm;have D6:m=none:=by cases m<;>simp_all
     subst D6;obtain⟨h1,h2⟩:=zR (P:=P) (w:=w) (ρ:=ρ) hT fc hk h (iS sW hl) (iS sW Z6) bW;have adg:mx.map bH=none:=by
      have:=iS sW hm;cases hq:mx.map bH with
      | none=>rfl
      | some v=>rw [hq]at this;exact this.elim
     obtain⟨rv,P9,Tu,re⟩:=res;simp only at h2;subst h2;refine dx ?_;rw [ev hv,adg];exact h1
   obtain⟨h1,h2⟩:=yq (P:=P) (w:=w) hT fc h (iS sW hl) (iS sW Z6) (iS sW hm) cP bW;obtain⟨rv,P9,Tu,re⟩:=res;simp only at h2;subst h2;refine dx ?_;rw [ev hv];exact h1
  ·cases h
 | makeMap t r=>
  cases r with
  | some r=>simp [dt]at h
  | none=>
   simp only [dt]at h;have:=uI (P:=P) (w:=w) (hp:=hp) (S:=S) (nv:=nv) (ρ:=ρ) hT DY h;simp only [execOp,Option.map_none];exact this
 | lookup t x k comma=>
  simp only [dt]at h;split at h
  ·rename_i x' k' hx hk;obtain⟨h1,h2⟩:=wQ (P:=P) (w:=w) hT h cP;obtain⟨rv,P9,Tu,re⟩:=res;simp only at h2;subst h2;refine dx ?_;rw [ev hx,ev hk];exact h1
  ·cases h
 | mapUpdate t x k v=>
  simp only [dt]at h;split at h
  ·rename_i x' k' v' hx hk hv;obtain⟨h1,j,ck,h2,w',h3,h4⟩:=oV (P:=P) (w:=w) hT h cP;unfold sx;rw [h2];refine⟨w',.inr ⟨h1,?_⟩,h4⟩;simp only [execOp,ev hx,ev hk,ev hv,ai2,h3,aiU,ajd]
  ·cases h
 | insert t x k v=>
  simp only [dt]at h;split at h
  ·rename_i x' k' v' hx hk hv;obtain⟨h1,j,ck,h2,w',h3,h4⟩:=oV (P:=P) (w:=w) hT h cP;unfold sx;rw [h2];refine⟨w',.inr ⟨h1,?_⟩,h4⟩;simp only [execOp,ev hx,ev hk,ev hv,ai2,h3,aiU,ajd]
  ·cases h
 | makeSlice t n c=>
  simp only [dt]at h;split at h
  ·rename_i tt k n' k' c' fc hn hc;have:=Af (P:=P) (w:=w) (hp:=hp) (S:=S) (nb:=nb) (ρ:=ρ) hT fc h bW k k';have en:bH n= .int k (n'.den ρ 0):=ev hn;have ec:bH c= .int k' (c'.den ρ 0):=ev hc;simp only [execOp,en,ec];exact this
  ·cases h
 | range t x=>simp [dt]at h
 | next x b=>simp [dt]at h
 | _=>simp [dt]at h
end
end Go.RX
