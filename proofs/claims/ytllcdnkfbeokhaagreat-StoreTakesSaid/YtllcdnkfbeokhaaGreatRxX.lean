/- Executor. -/
import Derived.Test.YtllcdnkfbeokhaaGreatRxW
import Derived.LoopNIn
open Bool renaming and_eq_true → ai
open List renaming all_eq_true → aqn, getD_eq_getElem?_getD → aqN, getElem?_append_left → aqs, getElem?_append_right → aqt, getElem?_eq_none → aq3, length_append → aql, mem_cons_of_mem → aqv, mem_cons_self → aqr, mem_filter → aqL, mem_map → aqV, mem_or_eq_of_mem_set → aqT
open Nat renaming blt_eq → aqB, le_succ → aqZ
open Option renaming map_eq_some_iff → aqq
open Option.some renaming injEq → aqp
namespace Go.RX
section
variable {P:Program} {C:Ctx} {al:Value→List HP→Prop} {Fs:List HP} {w0:World}
structure B_ (ρ:Env) (k:List KI) (ro:Option Nat):Prop where
 rf: ∀l r fn nt fr ps x y fd,KI.rf l r fn nt fr ps x y fd∈k→∃wR c0,hG wR c0∧Env.Le wR ρ∧lW c0 fr=true∧r<c0.r∧(wR.lr.getD r je).params=ps∧(wR.lr.getD r je).assign=x∧
  (wR.lr.getD r je).body=y∧HA fr ⟨nt.n,[]⟩ wR {tmps:=(wR.lr.getD r je).tmps,defers:=[]}
 ro:match zR k with
  | none=>ro=none
  | some l=> ∃wR c0,hG wR c0∧Env.Le wR ρ∧l<c0.b∧ro=some (wR.bv.getD l 0)
theorem B_.le{ρ bF:Env}{k:List KI}{ro:Option Nat}(h:B_ ρ k ro)(hle:Env.Le ρ bF):B_ bF k ro:=by
 refine⟨fun l r fn nt fr ps x y fd hm=>?_,?_⟩
 ·obtain⟨wR,c0,h1,h2,h3⟩:=h.rf l r fn nt fr ps x y fd hm;exact⟨wR,c0,h1,h2.trans hle,h3⟩
 ·have:=h.ro;split at this
  ·exact this
  ·obtain⟨wR,c0,h1,h2,h3⟩:=this;exact⟨wR,c0,h1,h2.trans hle,h3⟩
def KI.inner:KI→Bool
 | .code _=>true
 | .ops .. =>true
 | .sP .. =>true
 | .MQ .. =>true
 | .sA _=>true
 | .again _=>true
 | .loop .. =>true
 | .jn .. =>true
 | .gh _=>true
 | _=>false
theorem B_.push{ρ:Env}{k:List KI}{ro:Option Nat}(h:B_ ρ k ro){x:KI}(hx:x.inner=true):B_ ρ (x::k) ro:=by
 have ha:zR (x::k)=zR k:=by cases x<;>first | rfl | (simp [KI.inner]at hx;done)
 refine⟨fun l r fn nt fr ps a b fd hm=>?_,by rw [ha];exact h.ro⟩;rcases List.mem_cons.1 hm with rfl | hm
 ·simp [KI.inner]at hx
 ·exact h.rf l r fn nt fr ps a b fd hm
def qC(P:Program)(C:Ctx)(al:Value→List HP→Prop)(Fs:List HP)(w0:World)(n:Nat):Prop:=
 ∀ro c k st ρ L a w,VC P al (run C n (.code c::k) st) ρ L→HW Fs w0 st ρ w→HA st.fr st.nt ρ a→B_ ρ k ro→c.wpIn (FW ro) 0 P (QK P C al Fs w0 n k ρ L) a w
def sQ(P:Program)(C:Ctx)(al:Value→List HP→Prop)(Fs:List HP)(w0:World)(n:Nat):Prop:=
 ∀ro all r k st ρ L a w,VC P al (run C n (.ops all r::k) st) ρ L→HW Fs w0 st ρ w→HA st.fr st.nt ρ a→B_ ρ k ro→wpListIn (FW ro) 0 P all (QK P C al Fs w0 n k ρ L) r a w
def Gz(P:Program)(C:Ctx)(al:Value→List HP→Prop)(Fs:List HP)(w0:World)(n:Nat):Prop:=
 ∀ro id all pm k st ρ L a w,VC P al (run C n (.sP all pm (List.range all.size) 0 []::k) st) ρ L→lu all pm=true→yX all pm=true→HW Fs w0 st ρ w→HA st.fr st.nt ρ a→B_ ρ k ro→
  (Code.region id all true).wpIn (FW ro) 0 P (QK P C al Fs w0 n k ρ L) a w
def MY(P:Program)(C:Ctx)(al:Value→List HP→Prop)(Fs:List HP)(w0:World)(n:Nat):Prop:=
 ∀ro g ps x y k st ρ L a w,VC P al (run C n (.code (.rangeFunc g ps x y)::k) st) ρ L→HW Fs w0 st ρ w→HA st.fr st.nt ρ a→B_ ρ k ro→
  (Code.rangeFunc g ps x y).wpIn (FW ro) 0 P (QK P C al Fs w0 n k ρ L) a w
theorem QK.here{n m:Nat}{k k':List KI}{ρ:Env}{L:Nat→LC}{e:Exit}{a:Act}{w:World}{st:St}(hm:m<n)(hk:resume e k=some k')
  (hv:VC P al (run C m k' st) ρ L) (hw:HW Fs w0 st ρ w) (ha:HA st.fr st.nt ρ a):QK P C al Fs w0 n k ρ L e a w:=
 ⟨k',hk,m,hm,st,ρ,L,Env.Le.refl _,fun _ _=>rfl,hw,ha,hv⟩
theorem HW.know{st:St}{ρ:Env}{w:World}(h:HW Fs w0 st ρ w){b:BE}(hb:b.prop ρ)(hs:b.sc st.aW=true):HW Fs w0 {st with known:=b::st.known} ρ w:=
 ⟨h.lens,h.lx,h.gj,by rw [List.all_cons,hs,h.ot];rfl,fun x hx=>(List.mem_cons.1 hx).elim (fun e=>e▸hb) (h.kn x),h.own,h.same,h.mw⟩
theorem Db{c:ct}{b:BE}(h:b.sc c=true):(jT b).sc c=true:=by
 unfold jT;split
 ·rfl
 ·exact h
 ·exact h
theorem hG.le{ρ bF:Env}{c d:ct}(h:hG ρ c)(h':hG bF d)(hle:Env.Le ρ bF):c.le d:=by
 obtain⟨x,rfl⟩:=hle;constructor
 ·rw [←h.b,←h'.b];simp [Env.ext]
 ·rw [←h.v,←h'.v];simp [Env.ext]
 ·rw [←h.i,←h'.i];simp [Env.ext]
 ·rw [←h.a,←h'.a];simp [Env.ext]
 ·rw [←h.bo,←h'.bo];simp [Env.ext]
 ·rw [←h.p,←h'.p];simp [Env.ext]
 ·rw [←h.r,←h'.r];simp [Env.ext]
theorem xl{x y:List (Nat×SV)}{s:Nat}{v:SV}(h:look (x++y) s=some v):look x s=some v∨look y s=some v:=by
 induction x with
 | nil=>exact .inr h
 | cons t r ih=>
  obtain⟨q,u⟩:=t;have h':(if q==s then some u else look (r++y) s)=some v:=h;show(if q==s then some u else look r s)=some v∨look y s=some v;by_cases hq:(q==s)=true
  ·rw [if_pos hq]at h' ⊢;exact .inl h'
  ·rw [if_neg hq]at h' ⊢;exact ih h'
theorem mM{x:List (Nat×SV)}{f:Nat→Bool}{s:Nat}{v:SV}(h:look (x.filter fun y=>f y.1) s=some v):look x s=some v:=by
 induction x with
 | nil=>cases h
 | cons t r ih=>
  obtain⟨q,u⟩:=t;by_cases hf:f q=true
  ·rw [List.filter_cons_of_pos (by exact hf)]at h;unfold look at h ⊢;split at h
   ·rename_i hq;simp only [hq,if_true];exact h
   ·rename_i hq;simp only [hq];exact ih h
  ·rw [List.filter_cons_of_neg (by exact hf)]at h;have:=ih h;unfold look;split
   ·rename_i hq;rw [beq_iff_eq]at hq;subst hq;exfalso;apply hf;clear ih this
    induction r with
    | nil=>cases h
    | cons t' r' Yz=>
     obtain⟨q',u'⟩:=t';by_cases DY:f q'=true
     ·rw [List.filter_cons_of_pos (by exact DY)]at h;unfold look at h;split at h
      ·rename_i Uo;rw [beq_iff_eq]at Uo;subst Uo;exact DY
      ·exact Yz h
     ·rw [List.filter_cons_of_neg (by exact DY)]at h;exact Yz h
   ·exact this
theorem g_.trans{c:ct}{a b d:Env}(h:g_ c a b)(k:g_ c b d):g_ c a d:=
 ⟨fun i hi=>(h.b i hi).trans (k.b i hi),fun i hi=>(h.v i hi).trans (k.v i hi),fun i hi=>(h.i i hi).trans (k.i i hi),fun i hi=>(h.a i hi).trans (k.a i hi),fun i hi=>(h.bo i hi).trans (k.bo i hi),fun i hi=>(h.p i hi).trans (k.p i hi),fun i hi=>(h.r i hi).trans (k.r i hi),h.va.trans k.va⟩
theorem bG.front{a b Fs:List HP}{w:World}(h:bG (a++b++Fs) w):bG (a++Fs) w:=by
 refine h.ue (fun j=>if j<a.length then some j else some (j+b.length)) ?_ ?_
 ·intro j x hx;right;by_cases h1:j<a.length
  ·refine⟨j,by simp [h1],?_⟩;rw [aqs h1]at hx;rw [List.append_assoc,aqs h1];exact hx
  ·refine⟨j+b.length,by simp [h1],?_⟩;rw [aqt (by omega)]at hx;rw [aqt (by simp;omega),aql,show j+b.length - (a.length+b.length)=j - a.length by omega];exact hx
 ·intro j j' i hj lO _ _;split at hj<;>split at lO<;>simp only [aqp]at hj lO<;>omega
theorem oq{ρ bF:Env}: ∀{x y:List MK} {l:List gx},mi x y=some l→lU ρ bF l→marks ρ x=marks bF y
 | [],[],l,_,_=>rfl
 | .one b::r,.one b'::r',l,h,hl=>by
  simp only [mi,aqq]at h;obtain⟨z,hz,rfl⟩:=h;have h1:=hl _ aqr;simp only [gx.holds]at h1;have h2:=oq hz fun x hx=>hl x (aqv _ hx)
  simp only [marks,List.flatMap_cons,List.map_append,MK.blocks,h1]at h2 ⊢;rw [h2]
 | .many b::r,.many b'::r',l,h,hl=>by
  simp only [mi,aqq]at h;obtain⟨z,hz,rfl⟩:=h;have h1:=hl _ aqr;simp only [gx.holds]at h1;have h2:=oq hz fun x hx=>hl x (aqv _ hx)
  simp only [marks,List.flatMap_cons,List.map_append,MK.blocks,h1]at h2 ⊢;rw [h2]
 | [],.one _::_,_,h,_=>by cases h
 | [],.many _::_,_,h,_=>by cases h
 | .one _::_,[],_,h,_=>by cases h
 | .many _::_,[],_,h,_=>by cases h
 | .one _::_,.many _::_,_,h,_=>by cases h
 | .many _::_,.one _::_,_,h,_=>by cases h
theorem kp{st:St}{ρ rz Ir:Env}{a:Act}{w:World}{c0:ct}{F7:List (Nat×SV)}{mr:List Ck}{x y z:List gx}{nt yh:NT}
  (hw:HW Fs w0 st ρ w) (ha:HA st.fr nt ρ a) (h1:hG rz c0) (hle:Env.Le rz ρ) (GV:Env.Le rz Ir)
  (hx:ny F7 st.fr=some x) (hy:nA mr st.hp=some y) (hz:mi yh.ds nt.ds=some z) (hn:yh.n=nt.n) (hh:lU Ir ρ ((x++y++z).filter fun q=> !q.trivial c0)):
  HA F7 yh Ir a∧bG (mr.map (Ck.den Ir)++Fs) w:=by
 have eV:g_ c0 Ir ρ:=(Env.Le.eH h1 GV).symm.trans (Env.Le.eH h1 hle);obtain⟨k12,k3⟩:=(lU.all eV hh).app;obtain⟨k1,k2⟩:=k12.app;refine⟨⟨ha.defers.trans (oq hz k3).symm,hn▸ha.size,fun s v hs=>?_⟩,?_⟩
 ·obtain⟨v',rM,he⟩:=nW hx k1 s v hs;rw [ha.aU s v' rM,he]
 ·obtain⟨more,hm⟩:=sf eV.va hy k2;have:=hw.own;rw [hm]at this;exact this.front
theorem pI{mj:St}{rz:Env}{w:World}{inc:ct}{e:Ext}{aU:List (Nat×SV)}{f:Nat→Bool}{mr:List Ck}{yh:NT}
  (h1:hG rz mj.aW) (he:e.Fits inc) (kx:lW (mj.aW.add inc) aU=true) (xD:mr.all (Ck.sc (mj.aW.add inc))=true) (kr:lW mj.aW mj.fr=true)
  (LL:yh.ds.all (MK.sc (mj.aW.add inc))=true) (Ah:ic w0 w) (own:bG (mr.map (Ck.den (rz.ext e))++Fs) w):
  HW Fs w0 {mj with fr:=aU++mj.fr.filter (fun x=>f x.1),hp:=mr,aW:=mj.aW.add inc,known:=[],nt:=yh} (rz.ext e) w:=by
 refine⟨h1.ext he,?_,xD,rfl,fun b hb=>(by cases hb),own,Ah,LL⟩;simp only [lW,List.all_append,ai];refine⟨kx,aqn.2 fun x hx=>?_⟩;exact SV.a_ (ct.kO _ _) (aqn.1 kr x (aqL.1 hx).1)
theorem mz{α:Type}(p:α→Bool)(e:α)(he:p e=true): ∀(use:List Nat) (hp new:List α),hp.all p=true→new.all p=true→(lp e hp use new).all p=true
 | [],hp,new,h1,h2=>by simp only [lp,List.all_append,h1,h2,Bool.and_self]
 | i::r,hp,c::cs,h1,h2=>by
  simp only [List.all_cons,ai]at h2;refine mz p e he r _ _ (aqn.2 fun x hx=>?_) h2.2;rcases aqT hx with hx | rfl
  ·exact aqn.1 h1 x hx
  ·exact h2.1
 | i::r,hp,[],h1,h2=>by
  refine mz p e he r _ _ (aqn.2 fun x hx=>?_) h2;rcases aqT hx with hx | rfl
  ·exact aqn.1 h1 x hx
  ·exact he
theorem At.gh{n:Nat}{g:St→Option dH}{k:List KI}{ρ:Env}{L:Nat→LC}{a:Act}{w:World}(h:At P C al Fs w0 n (.gh g::k) ρ L a w):At P C al Fs w0 n k ρ L a w:=by
 obtain⟨m,hm,st,bF,L',h1,h2,h3,h4,h5⟩:=h
 induction m generalizing st with
 | zero=>exact h5.elim
 | succ m ih=>
  simp only [run]at h5;split at h5
  ·exact⟨m,by omega,st,bF,L',h1,h2,h3,h4,h5⟩
  ·rename_i s hs;split at h5
   ·rename_i b hb;split at h5
    case isFalse=>exact h5.elim
    rename_i jt;simp only [VC,br]at h5;cases hd:b.den bF with
    | true=>
     have hp:=(BE.bK bF b).1 hd;exact ih (by omega) _ (h3.know hp jt) h4 (h5.1 hp)
    | false=>
     have hp: ¬b.prop bF:=fun h=>by rw [←BE.bK,hd]at h;cases h
     have mr:(jT b).prop bF:=by rw [←BE.bK,dE,hd];rfl
     exact ih (by omega) _ (h3.know mr (Db jt)) h4 (h5.2 hp)
   rename_i SK;split at h5
   ·rename_i idx abV;split at h5
    case isFalse=>exact h5.elim
    rename_i hc;rw [ai,decide_eq_true_eq]at hc;obtain⟨cq,gV⟩:=hc;have cq: ∀i∈idx,i<st.hp.length:=fun i hi=>by simpa [aqB] using aqn.1 cq i hi
    refine⟨m,by omega,{st with hp:=idx.map fun i=>st.hp.getD i .emp},bF,L',h1,h2,⟨h3.lens,h3.lx,?_,h3.ot,h3.kn,?_,h3.same,h3.mw⟩,h4,h5⟩
    ·refine aqn.2 fun x hx=>?_
     obtain⟨i,hi,rfl⟩:=aqV.1 hx;have hl:=cq i hi;rw [aqN,List.getElem?_eq_getElem hl];exact aqn.1 h3.gj _ (List.getElem_mem hl)
    ·refine h3.own.pick (idx++(List.range Fs.length).map (st.hp.length+ ·)) _ ?_ ?_
     ·refine List.nodup_append.2 ⟨gV,?_,?_⟩
      ·exact List.Pairwise.map _ (fun a b h=>by omega) List.nodup_range
      ·intro x hx y hy;have:=cq x hx;obtain⟨q,_,rfl⟩:=aqV.1 hy;omega
     ·intro j;by_cases hj:j<idx.length
      ·have hl:=cq idx[j] (List.getElem_mem hj);have e1:(((idx.map fun i=>st.hp.getD i .emp).map (Ck.den bF))++Fs)[j]? =some ((st.hp[idx[j]]).den bF):=by
        rw [aqs (by simpa using hj)];simp [hj,hl]
       have e2:(st.hp.map (Ck.den bF)++Fs)[idx[j]]? =some ((st.hp[idx[j]]).den bF):=by
        rw [aqs (by simpa using hl)];simp [hl]
       rw [e1,aqs hj,List.getElem?_eq_getElem hj,Option.bind_some,e2]
      ·rw [aqt (by simpa using hj),aqt (by omega)];simp only [List.length_map,List.getElem?_map];by_cases hq:j - idx.length<Fs.length
       ·rw [List.getElem?_range hq,Option.map_some,Option.bind_some,aqt (by simp)];simp
       ·rw [aq3 (by omega),aq3 (by simpa using hq)];simp
   split at h5
   case h_2=>exact h5.elim
   rename_i eqs heq;split at h5
   case isFalse=>exact h5.elim
   rename_i jt;simp only [ai,decide_eq_true_eq]at jt;obtain⟨⟨⟨kx,xD⟩,kr⟩,Dh⟩:=jt;have cq: ∀i∈s.use,i<st.hp.length:=fun i hi=>by simpa [aqB] using aqn.1 kr i hi
   simp only [VC]at h5;obtain⟨I,hI,hr⟩:=h5;rw [ph]at hr;have cY:=bG.ug (acc:=[]) (use:=s.use) (by simpa using h3.own) Dh (by simpa using cq);have H3:(s.use.map fun i=>st.hp.getD i .emp).map (Ck.den bF)=s.use.map (fun i=>(st.hp.map (Ck.den bF)).getD i HP.emp):=by
    rw [List.map_map];refine List.map_congr_left fun i hi=>?_
    have:=cq i hi;simp [this]
   rw [List.nil_append,←H3]at cY;have hx:=hI _ _ cY;rw [kM]at hx;obtain⟨e,hf,hq⟩:=hx;rw [tZ]at hq;obtain⟨hh,Ai,hIe⟩:=hq;have hle:=Env.im bF e;have eV:=Env.Le.eH h3.lens hle;refine⟨m,by omega,_,bF.ext e,L',h1.trans hle,h2,?_,?_,hr e hf hIe⟩
   ·refine⟨h3.lens.ext hf,?_,?_,fF (ct.kO _ _) h3.ot,fun b hb=>?_,?_,h3.same,dF (ct.kO _ _) h3.mw⟩
    ·simp only [lW,List.all_append,ai];refine⟨kx,aqn.2 fun x hx=>?_⟩;exact SV.a_ (ct.kO _ _) (aqn.1 h3.lx x (aqL.1 hx).1)
    ·exact mz _ _ rfl _ _ _ (ju (ct.kO _ _) h3.gj) xD
    ·exact(BE.iE eV (aqn.1 h3.ot b hb)).1 (h3.kn b hb)
    ·have h1:=bG.lI (use:=s.use) Ai (fun i hi=>by rw [lV];simpa using cq i hi) fun _ _=> .inr trivial
     rw [←jK _ _ _ Dh,kK eV h3.gj]at h1;simp only [gw];rw [mv];exact h1
   ·have hm:=h4.more h3.lx h3.mw eV;refine⟨hm.defers,hm.size,fun x v hx=>?_⟩;rcases xl hx with hx | hx
    ·obtain⟨v',rM,he⟩:=nW heq hh x v hx;rw [h4.aU x v' rM,he]
    ·have:=mM (f:=fun q=> !(s.aU.any fun y=>y.1==q)) hx;exact hm.aU x v this
theorem QK.gh{n:Nat}{g:St→Option dH}{k:List KI}{ρ:Env}{L:Nat→LC}{e:Exit}{a:Act}{w:World}(h:QK P C al Fs w0 n (.gh g::k) ρ L e a w):QK P C al Fs w0 n k ρ L e a w:=by
 cases e with
 | normal=>
  obtain⟨k',hk,dK⟩:=h;cases hk;exact⟨k,rfl,dK.gh⟩
 | exit id=>exact QK.move (k:=k) h rfl fun _ _=>rfl
 | ret=>exact QK.move (k:=k) h rfl fun _ _=>rfl
 | goto l=>obtain⟨k',hk,_⟩:=h;cases hk
 | panic l=>obtain⟨k',hk,_⟩:=h;cases hk
 | outgrown=>obtain⟨k',hk,_⟩:=h;cases hk
theorem xm{F:Fence}{n:Nat}{c:Code}{Q:Exit→Act→World→Prop}: ∀{m m':Nat} {a:Act} {w:World},m≤m'→Code.roundsIn F n P c Q m a w→Code.roundsIn F n P c Q m' a w
 | 0,_,_,_,_,h=>h.elim
 | m+1,0,_,_,hm,_=>absurd hm (by omega)
 | m+1,m'+1,a,w,hm,h=>by
  refine wpIn_mono (show c.wpIn F n P (Exit.then (Code.roundsIn F n P c Q m) Q) a w from h) fun e a w hq=>?_
  cases e with
  | normal=>exact xm (by omega) hq
  | _=>exact hq
theorem Qa{N:Nat}{ro:Option Nat}{body:Code}{k:List KI}{ρ:Env}{L:Nat→LC}(wQ: ∀m,m<N→qC P C al Fs w0 m): ∀(n:Nat),n<N→∀(st:St) (bF:Env) (L':Nat→LC) (a:Act) (w:World),
  VC P al (run C n (.code body:: .again body::k) st) bF L'→Env.Le ρ bF→(∀j,j<nl k→L' j=L j)→HW Fs w0 st bF w→HA st.fr st.nt bF a→B_ bF k ro→Code.roundsIn (FW ro) 0 P body (QK P C al Fs w0 N k ρ L) (n+1) a w:=by
 intro n
 induction n using Nat.strongRecOn with
 | _ n ih=>
  intro hn st bF L' a w hv hle hL hw ha hk;refine wpIn_mono (wQ n hn ro body (.again body::k) st bF L' a w hv hw ha (hk.push rfl)) ?_;intro e a' w' hq;cases e with
  | normal=>
   obtain⟨k',hk2,m,hm,D4,Ir,L2,h1,h2,h3,h4,h5⟩:=hq;cases hk2;cases m with
   | zero=>exact h5.elim
   | succ m=>
    have:=ih m (by omega) (by omega) D4 Ir L2 a' w' h5 (hle.trans h1) (fun j hj=>(h2 j hj).trans (hL j hj)) h3 h4 (hk.le h1);exact xm (by omega) this
  | exit id=>exact(QK.move (k:=k) hq rfl fun _ _=>rfl).mono (by omega) hle hL
  | ret=>exact(QK.move (k:=k) hq rfl fun _ _=>rfl).mono (by omega) hle hL
  | goto l=>obtain⟨k',hk,_⟩:=hq;cases hk
  | panic l=>obtain⟨k',hk,_⟩:=hq;cases hk
  | outgrown=>obtain⟨k',hk,_⟩:=hq;cases hk
theorem Ea(_:bx P C.T=true){n:Nat}(wQ: ∀m,m<n→qC P C al Fs w0 m)(LK: ∀m,m<n→sQ P C al Fs w0 m)(IHd: ∀m,m<n→Gz P C al Fs w0 m)(IHr:MY P C al Fs w0 n):qC P C al Fs w0 n:=by
 intro ro c k st ρ L a w hv hw ha gO;cases n with
 | zero=>exact hv.elim
 | succ n=>
  have hn:n<n+1:=Nat.lt_succ_self n;cases c with
  | skip=>exact wpIn_skip (QK.here hn rfl hv hw ha)
  | label l=>exact wpIn_label (QK.here hn rfl hv hw ha)
  | seq x y=>
   refine wpIn_seq (wpIn_mono (wQ n hn ro x (.code y::k) st ρ L a w hv hw ha (gO.push rfl)) ?_);intro e a' w' hq;cases e with
   | normal=>
    obtain⟨k',hk,m,hm,dO,bF,L',h1,h2,h3,h4,h5⟩:=hq;cases hk;refine wpIn_mono (wQ m (by omega) ro y k dO bF L' a' w' h5 h3 h4 (gO.le h1)) fun e a w hq=>?_
    exact hq.mono (by omega) h1 h2
   | exit id=>exact(QK.move (k:=k) hq rfl fun _ _=>rfl).mono (aqZ n) (Env.Le.refl _) fun _ _=>rfl
   | ret=>exact(QK.move (k:=k) hq rfl fun _ _=>rfl).mono (aqZ n) (Env.Le.refl _) fun _ _=>rfl
   | goto l=>obtain⟨k',hk,_⟩:=hq;cases hk
   | panic l=>obtain⟨k',hk,_⟩:=hq;cases hk
   | outgrown=>obtain⟨k',hk,_⟩:=hq;cases hk
  | cond x t e=>
   simp only [run]at hv;have up: ∀{e:Exit} {a:Act} {w:World},QK P C al Fs w0 n k ρ L e a w→QK P C al Fs w0 (n+1) k ρ L e a w:=fun hq=>hq.mono (aqZ n) (Env.Le.refl _) fun _ _=>rfl
   split at hv
   ·rename_i hc;have:=pH ha hw.kn hc;exact wpIn_cond_true this (wpIn_mono (wQ n hn ro t k st ρ L a w hv hw ha gO) fun e a w hq=>up hq)
   ·rename_i hc;have:=pH ha hw.kn hc;exact wpIn_cond_false this (wpIn_mono (wQ n hn ro e k st ρ L a w hv hw ha gO) fun e a w hq=>up hq)
   ·rename_i b _ _ hc;have hb:=pH ha hw.kn hc;split at hv
    ·rename_i jt;simp only [VC,br]at hv;cases hd:b.den ρ with
     | true=>
      have hp:=(BE.bK ρ b).1 hd;exact wpIn_cond_true (by rw [hb,hd]) (wpIn_mono (wQ n hn ro t k _ ρ L a w (hv.1 hp) (hw.know hp jt) ha gO) fun e a w hq=>up hq)
     | false=>
      have hp: ¬b.prop ρ:=fun h=>by rw [←BE.bK,hd]at h;cases h
      have mr:(jT b).prop ρ:=by rw [←BE.bK,dE,hd];rfl
      exact wpIn_cond_false (by rw [hb,hd]) (wpIn_mono (wQ n hn ro e k _ ρ L a w (hv.2 hp) (hw.know mr (Db jt)) ha gO) fun e a w hq=>up hq)
    ·exact hv.elim
   ·exact hv.elim
  | block id b=>
   simp only [run]at hv;split at hv;rotate_left
   ·rename_i ja Xo;split at hv
    case isFalse=>exact hv.elim
    rename_i jt;simp only [ai]at jt;obtain⟨⟨⟨kx,xD⟩,kr⟩,Dh⟩:=jt;simp only [VC]at hv;obtain⟨I,Qb,yA⟩:=hv;rw [ph]at yA;have Jj: ∀(m:Nat) (dO:St) (bF:Env) (L':Nat→LC) (a':Act) (w':World),m≤n→Env.Le ρ bF→(∀j,j<nl k+1→L' j=uX L (nl k) ⟨I,fun _=>0,⟨[],[],[],[],[],[],[]⟩⟩ j)→
      HW Fs w0 dO bF w'→HA dO.fr dO.nt bF a'→
      VC P al (run C m (.jn (some id) (nl k) {st.nt with ds:=ja.ds st.aW st.nt.ds} st.aW ja.inc (ja.aU st.aW++st.fr.filter fun x=> !((writes b).contains x.1)&& !((ja.aU st.aW).any fun y=>y.1==x.1)) (ja.hp st.aW st.hp) ja.pre::k) dO) bF L'→
      QK P C al Fs w0 (n+1) k ρ L .normal a' w':=by
     intro m dO bF L' a' w' hm hle hL g3 g4 g5;cases m with
     | zero=>exact g5.elim
     | succ m=>
      simp only [run]at g5;split at g5
      ·exact g5.elim
      rename_i st9 nn9 FI;obtain⟨ρ9,Qc,g3,g4,ab1,g5⟩:=ko FI g3 g4 g5;have hle:=hle.trans Qc;split at g5
      ·rename_i x' y' z' Sr XK Gi;split at g5
       ·exact g5.elim
       ·rename_i AI;simp only [bne_iff_ne,ne_eq,Decidable.not_not]at AI;simp only [VC]at g5;rw [kM]at g5;obtain⟨e2,QL,Uv⟩:=g5;rw [Env.Le.take hw.lens hle,tZ]at Uv;obtain⟨hh2,QP⟩:=Uv;have hLI:(L' (nl k)).I=I:=by
         rw [hL _ (by omega)];simp [uX]
        rw [hLI]at QP;obtain⟨r1,r2⟩:=kp (yh:={st.nt with ds:=ja.ds st.aW st.nt.ds}) g3 g4 hw.lens hle (Env.im ρ e2) Sr XK Gi AI.symm hh2;refine⟨k,rfl,n,by omega,_,ρ.ext e2,L,Env.im ρ e2,fun _ _=>rfl,?_,r1,yA e2 QL QP⟩;exact pI (f:=fun q=> !((writes b).contains q)&& !((ja.aU st.aW).any fun y=>y.1==q)) hw.lens QL kx xD hw.lx Dh g3.same r2
      ·exact g5.elim
      ·exact g5.elim
      ·exact g5.elim
    refine wpIn_block (wpIn_mono (wQ n hn ro b _ st ρ _ a w Qb hw ha (gO.push rfl)) ?_);intro e a' w' hq;cases e with
    | normal=>
     obtain⟨k',hk,m,hm,dO,bF,L',h1,h2,h3,h4,h5⟩:=hq;cases hk;exact Jj m dO bF L' a' w' (Nat.le_of_lt hm) h1 h2 h3 h4 h5
    | exit id'=>
     simp only [Exit.inBlock];split
     ·rename_i he;subst he;obtain⟨k',hk,m,hm,dO,bF,L',h1,h2,h3,h4,h5⟩:=hq;simp only [resume,dL,beq_self_eq_true,if_true,aqp]at hk;subst hk;exact Jj m dO bF L' a' w' (Nat.le_of_lt hm) h1 h2 h3 h4 h5
     ·rename_i he;refine(QK.move (k:=k) (L:=L) hq ?_ fun j hj=>?_).mono (aqZ n) (Env.Le.refl _) fun _ _=>rfl
      ·simp only [resume,dL];rw [if_neg (by simpa using Ne.symm he)]
      ·simp only [uX];rw [if_neg (by omega)]
    | ret=>
     refine(QK.move (k:=k) (L:=L) hq rfl fun j hj=>?_).mono (aqZ n) (Env.Le.refl _) fun _ _=>rfl
     simp only [uX];rw [if_neg (by omega)]
    | goto l=>obtain⟨k',hk,_⟩:=hq;cases hk
    | panic l=>obtain⟨k',hk,_⟩:=hq;cases hk
    | outgrown=>obtain⟨k',hk,_⟩:=hq;cases hk
   refine wpIn_block (wpIn_mono (wQ n hn ro b (.sA id::k) st ρ L a w hv hw ha (gO.push rfl)) ?_);intro e a' w' hq;cases e with
   | normal=>
    obtain⟨k',hk,m,hm,dO,bF,L',h1,h2,h3,h4,h5⟩:=hq;cases hk;cases m with
    | zero=>exact h5.elim
    | succ m=>exact⟨k,rfl,m,by omega,dO,bF,L',h1,h2,h3,h4,h5⟩
   | exit id'=>
    simp only [Exit.inBlock];split
    ·rename_i he;subst he;obtain⟨k',hk,m,hm,dO,bF,L',h1,h2,h3,h4,h5⟩:=hq;simp only [resume,dL,beq_self_eq_true,if_true,aqp]at hk;subst hk;exact⟨k,rfl,m,by omega,dO,bF,L',h1,h2,h3,h4,h5⟩
    ·rename_i he;refine(QK.move (k:=k) hq ?_ fun _ _=>rfl).mono (aqZ n) (Env.Le.refl _) fun _ _=>rfl
     simp only [resume,dL];rw [if_neg (by simpa using Ne.symm he)]
   | ret=>exact(QK.move (k:=k) hq rfl fun _ _=>rfl).mono (aqZ n) (Env.Le.refl _) fun _ _=>rfl
   | goto l=>obtain⟨k',hk,_⟩:=hq;cases hk
   | panic l=>obtain⟨k',hk,_⟩:=hq;cases hk
   | outgrown=>obtain⟨k',hk,_⟩:=hq;cases hk
  | loop body=>
   simp only [run]at hv;split at hv
   ·rename_i id k0;split at hv
    ·exact wpIn_loop_rounds _ (Qa wQ n hn st ρ L a w hv (Env.Le.refl _) (fun _ _=>rfl) hw ha gO)
    ·rename_i la Yq;split at hv
     ·exact hv.elim
     ·rename_i mj nn j4;obtain⟨rz,HQ,xR,GB,hfn,wJ⟩:=ko j4 hw ha hv;split at wJ
      ·rename_i x y z hx hy hz;split at wJ
       ·rename_i jt;simp only [ai]at jt;obtain⟨⟨⟨kx,xD⟩,kr⟩,Dh⟩:=jt;simp only [VC]at wJ;obtain⟨I,μ,Qd,Qe⟩:=wJ;rw [kM]at Qd;rw [ph]at Qe;obtain⟨e0,hf0,hq0⟩:=Qd;rw [tZ]at hq0;obtain⟨hh0,hI0⟩:=hq0;obtain⟨q1,q2⟩:=kp (yh:={mj.nt with ds:=la.ds mj.aW mj.nt.ds}) xR GB xR.lens (Env.Le.refl _) (Env.im rz e0) hx hy hz rfl hh0;refine wpIn_loop_ghost (fun n' a w=> ∃e:Ext,e.Fits la.inc∧I e∧μ e=n'∧HW Fs w0
          {mj with fr:=la.aU mj.aW++mj.fr.filter (fun x=> !((writes body).contains x.1)&& !((la.aU mj.aW).any fun y=>y.1==x.1)),hp:=la.hp mj.aW mj.hp,aW:=mj.aW.add la.inc,known:=[],nt:={mj.nt with ds:=la.ds mj.aW mj.nt.ds}} (rz.ext e) w∧
          HA (la.aU mj.aW++mj.fr.filter (fun x=> !((writes body).contains x.1)&& !((la.aU mj.aW).any fun y=>y.1==x.1))) {mj.nt with ds:=la.ds mj.aW mj.nt.ds} (rz.ext e) a) (μ e0) ⟨e0,hf0,hI0,rfl,?_,?_⟩ ?_
        ·exact pI (f:=fun q=> !((writes body).contains q)&& !((la.aU mj.aW).any fun y=>y.1==q)) xR.lens hf0 kx xD xR.lx Dh xR.same q2
        ·refine⟨q1.defers,q1.size,fun s v hs=>?_⟩;rcases xl hs with hs | hs
         ·exact q1.aU s v hs
         ·have:=mM (f:=fun q=> !((writes body).contains q)&& !((la.aU mj.aW).any fun y=>y.1==q)) hs;rw [GB.aU s v this];exact(SV.vo (Env.Le.eH xR.lens (Env.im rz e0)) (B8 xR.lx this)).1
        ·intro n' a2 w2 QP;obtain⟨e,he,hIe,hμ,Ce,YC⟩:=QP;subst hμ;have hvb:=Qe e he hIe;refine wpIn_mono (wQ n hn ro body _ _ _ _ a2 w2 hvb Ce YC ((gO.le (HQ.trans (Env.im rz e))).push rfl)) ?_;intro ex a3 w3 hq;cases ex with
         | normal=>
          obtain⟨k',hk,m,hm,dO,bF,L',g1,g2,g3,g4,g5⟩:=hq;cases hk;cases m with
          | zero=>exact g5.elim
          | succ m=>
           simp only [run]at g5;split at g5
           ·exact g5.elim
           rename_i st9 nn9 FI;obtain⟨ρ9,Qc,g3,g4,ab1,g5⟩:=ko FI g3 g4 g5;have g1:=g1.trans Qc;split at g5
           ·rename_i x' y' z' Sr XK Gi;split at g5
            ·exact g5.elim
            ·rename_i AI;simp only [bne_iff_ne,ne_eq,Decidable.not_not]at AI;simp only [VC]at g5;rw [kM]at g5;obtain⟨e2,QL,Uv⟩:=g5;have Lx:Env.Le rz ρ9:=(Env.im rz e).trans g1;rw [Env.Le.take xR.lens Lx,tZ]at Uv;obtain⟨hh2,QP,ab3⟩:=Uv;have hL:L' (nl (.sA id::k0))=⟨I,μ,e⟩:=by
              rw [g2 _ (by simp [nl])];simp [uX]
             rw [hL]at QP ab3;obtain⟨r1,r2⟩:=kp (yh:={mj.nt with ds:=la.ds mj.aW mj.nt.ds}) g3 g4 xR.lens Lx (Env.im rz e2) Sr XK Gi AI.symm hh2;refine⟨μ e2,ab3,e2,QL,QP,rfl,?_,r1⟩;exact pI (f:=fun q=> !((writes body).contains q)&& !((la.aU mj.aW).any fun y=>y.1==q)) xR.lens QL kx xD xR.lx Dh g3.same r2
           ·exact g5.elim
           ·exact g5.elim
         | exit id'=>
          refine(QK.move (k:= .sA id::k0) (L:=L) hq rfl ?_).mono (aqZ n) (HQ.trans (Env.im rz e)) fun _ _=>rfl
          intro j hj;simp only [uX];rw [if_neg (by omega)]
         | ret=>
          refine(QK.move (k:= .sA id::k0) (L:=L) hq rfl ?_).mono (aqZ n) (HQ.trans (Env.im rz e)) fun _ _=>rfl
          intro j hj;simp only [uX];rw [if_neg (by omega)]
         | goto l=>obtain⟨k',hk,_⟩:=hq;cases hk
         | panic l=>obtain⟨k',hk,_⟩:=hq;cases hk
         | outgrown=>obtain⟨k',hk,_⟩:=hq;cases hk
       ·exact wJ.elim
      ·exact wJ.elim
   ·exact wpIn_loop_rounds _ (Qa wQ n hn st ρ L a w hv (Env.Le.refl _) (fun _ _=>rfl) hw ha gO)
  | exit id=>
   simp only [run]at hv;split at hv
   ·rename_i k' hk;exact wpIn_exit (QK.here hn hk hv hw ha)
   ·exact hv.elim
  | ret=>
   simp only [run]at hv;split at hv
   ·rename_i k' hk;exact wpIn_ret (QK.here hn hk hv hw ha)
   ·exact hv.elim
  | region id ops draw=>
   cases draw with
   | false=>
    simp only [run]at hv;split at hv
    ·exact wpIn_region_list (fT (fun e a w hq=>hq.mono (aqZ n) (Env.Le.refl _) fun _ _=>rfl) (LK n hn ro ops ops.toList k st ρ L a w hv hw ha gO))
    ·exact wpIn_region_list (fT (fun e a w hq=>hq.gh.mono (aqZ n) (Env.Le.refl _) fun _ _=>rfl) (LK n hn ro ops ops.toList _ st ρ L a w hv hw ha (gO.push rfl)))
   | true=>
    simp only [run]at hv;split at hv
    ·rename_i hc;simp only [ai]at hc;split at hv
     ·rename_i ja Xo;split at hv
      case isFalse=>exact hv.elim
      rename_i jt;simp only [ai]at jt;obtain⟨⟨⟨kx,xD⟩,kr⟩,Dh⟩:=jt;simp only [VC]at hv;obtain⟨I,Qb,yA⟩:=hv;rw [ph]at yA;have Jj: ∀(m:Nat) (dO:St) (bF:Env) (L':Nat→LC) (a':Act) (w':World),m≤n→Env.Le ρ bF→(∀j,j<nl k+1→L' j=uX L (nl k) ⟨I,fun _=>0,⟨[],[],[],[],[],[],[]⟩⟩ j)→
        HW Fs w0 dO bF w'→HA dO.fr dO.nt bF a'→
        VC P al (run C m (.jn none (nl k) {st.nt with ds:=ja.ds st.aW st.nt.ds} st.aW ja.inc (ja.aU st.aW++st.fr.filter fun x=> !((writes (.region id ops true)).contains x.1)&& !((ja.aU st.aW).any fun y=>y.1==x.1)) (ja.hp st.aW st.hp) ja.pre::k) dO) bF L'→
        QK P C al Fs w0 (n+1) k ρ L .normal a' w':=by
       intro m dO bF L' a' w' hm hle hL g3 g4 g5;cases m with
       | zero=>exact g5.elim
       | succ m=>
        simp only [run]at g5;split at g5
        ·exact g5.elim
        rename_i st9 nn9 FI;obtain⟨ρ9,Qc,g3,g4,ab1,g5⟩:=ko FI g3 g4 g5;have hle:=hle.trans Qc;split at g5
        ·rename_i x' y' z' Sr XK Gi;split at g5
         ·exact g5.elim
         ·rename_i AI;simp only [bne_iff_ne,ne_eq,Decidable.not_not]at AI;simp only [VC]at g5;rw [kM]at g5;obtain⟨e2,QL,Uv⟩:=g5;rw [Env.Le.take hw.lens hle,tZ]at Uv;obtain⟨hh2,QP⟩:=Uv;have hLI:(L' (nl k)).I=I:=by
           rw [hL _ (by omega)];simp [uX]
          rw [hLI]at QP;obtain⟨r1,r2⟩:=kp (yh:={st.nt with ds:=ja.ds st.aW st.nt.ds}) g3 g4 hw.lens hle (Env.im ρ e2) Sr XK Gi AI.symm hh2;refine⟨k,rfl,n,by omega,_,ρ.ext e2,L,Env.im ρ e2,fun _ _=>rfl,?_,r1,yA e2 QL QP⟩;exact pI (f:=fun q=> !((writes (.region id ops true)).contains q)&& !((ja.aU st.aW).any fun y=>y.1==q)) hw.lens QL kx xD hw.lx Dh g3.same r2
        ·exact g5.elim
        ·exact g5.elim
        ·exact g5.elim
      refine wpIn_mono (IHd n hn ro id ops _ _ st ρ _ a w Qb hc.1 hc.2 hw ha ((gO.push rfl).push rfl)) ?_;intro e a' w' hq;have hq:=hq.gh;cases e with
      | normal=>
       obtain⟨k',hk,m,hm,dO,bF,L',h1,h2,h3,h4,h5⟩:=hq;cases hk;exact Jj m dO bF L' a' w' (Nat.le_of_lt hm) h1 h2 h3 h4 h5
      | exit id'=>
       refine(QK.move (k:=k) (L:=L) hq rfl fun j hj=>?_).mono (aqZ n) (Env.Le.refl _) fun _ _=>rfl
       simp only [uX];rw [if_neg (by omega)]
      | ret=>
       refine(QK.move (k:=k) (L:=L) hq rfl fun j hj=>?_).mono (aqZ n) (Env.Le.refl _) fun _ _=>rfl
       simp only [uX];rw [if_neg (by omega)]
      | goto l=>obtain⟨k',hk,_⟩:=hq;cases hk
      | panic l=>obtain⟨k',hk,_⟩:=hq;cases hk
      | outgrown=>obtain⟨k',hk,_⟩:=hq;cases hk
     split at hv
     ·exact wpIn_mono (IHd n hn ro id ops _ k st ρ L a w hv hc.1 hc.2 hw ha gO) fun e a w hq=>hq.mono (aqZ n) (Env.Le.refl _) fun _ _=>rfl
     ·exact wpIn_mono (IHd n hn ro id ops _ _ st ρ L a w hv hc.1 hc.2 hw ha (gO.push rfl)) fun e a w hq=>hq.gh.mono (aqZ n) (Env.Le.refl _) fun _ _=>rfl
    ·exact hv.elim
  | rangeFunc f ps x y=>exact IHr ro f ps x y k st ρ L a w hv hw ha gO
  | scope x=>exact hv.elim
  | goto l=>exact hv.elim
  | refuse y=>exact hv.elim
end
end Go.RX
