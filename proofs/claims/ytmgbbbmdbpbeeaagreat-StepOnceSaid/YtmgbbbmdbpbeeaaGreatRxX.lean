/- Executor. -/
import Derived.Test.YtmgbbbmdbpbeeaaGreatM12
import Derived.LoopNIn
open Bool renaming and_eq_true → ai
open List renaming all_eq_true → aiM, append_assoc → ajs, getElem?_append_left → aiR, getElem?_append_right → aiW, getElem?_eq_getElem → ajk, getElem?_eq_none → ajz, map_congr_left → ajq, mem_cons → ai0, mem_cons_of_mem → aiV, mem_cons_self → aiQ, mem_filter → aja, mem_map → ai_, mem_or_eq_of_mem_set → ajf, range → ajw
open Nat renaming blt_eq → ai3, le_succ → ajC
open Option renaming map_eq_some_iff → aiO, map_some → ajI
open Option.some renaming injEq → aiP
namespace Go.RX
section
variable {P:Program} {C:Ctx} {ao:Value→List HP→Prop} {Fs:List HP} {w0:World}
structure Cu (ρ:Env) (k:List KI) (ro:Option Nat):Prop where
 rf: ∀l r fn nt fr ps x y fd,KI.rf l r fn nt fr ps x y fd∈k→∃vR c0,fq vR c0∧Env.Le vR ρ∧kZ c0 fr=true∧r<c0.r∧(vR.lr.getD r h_).params=ps∧(vR.lr.getD r h_).assign=x∧
  (vR.lr.getD r h_).body=y∧HA fr ⟨nt.n,[]⟩ vR {tmps:=(vR.lr.getD r h_).tmps,defers:=[]}
 ro:match xK k with
  | none=>ro=none
  | some l=> ∃vR c0,fq vR c0∧Env.Le vR ρ∧l<c0.b∧ro=some (vR.bv.getD l 0)
theorem Cu.le{ρ bF:Env}{k:List KI}{ro:Option Nat}(h:Cu ρ k ro)(hle:Env.Le ρ bF):Cu bF k ro:=by
 refine⟨fun l r fn nt fr ps x y fd hm=>?_,?_⟩
 ·obtain⟨vR,c0,h1,h2,h3⟩:=h.rf l r fn nt fr ps x y fd hm;exact⟨vR,c0,h1,h2.trans hle,h3⟩
 ·have:=h.ro;split at this
  ·exact this
  ·obtain⟨vR,c0,h1,h2,h3⟩:=this;exact⟨vR,c0,h1,h2.trans hle,h3⟩
def KI.inner:KI→Bool
 | .code _=>true
 | .ops .. =>true
 | .rN .. =>true
 | .MP .. =>true
 | .oZ _=>true
 | .again _=>true
 | .loop .. =>true
 | .jn .. =>true
 | .gh _=>true
 | _=>false
theorem Cu.push{ρ:Env}{k:List KI}{ro:Option Nat}(h:Cu ρ k ro){x:KI}(hx:x.inner=true):Cu ρ (x::k) ro:=by
 have ha:xK (x::k)=xK k:=by cases x<;>first | rfl | (simp [KI.inner]at hx;done)
 refine⟨fun l r fn nt fr ps a b fd hm=>?_,by rw [ha];exact h.ro⟩;rcases ai0.1 hm with rfl | hm
 ·simp [KI.inner]at hx
 ·exact h.rf l r fn nt fr ps a b fd hm
def pW(P:Program)(C:Ctx)(ao:Value→List HP→Prop)(Fs:List HP)(w0:World)(n:Nat):Prop:=
 ∀ro c k st ρ L a w,VC P ao (run C n (.code c::k) st) ρ L→HW Fs w0 st ρ w→HA st.fr st.nt ρ a→Cu ρ k ro→c.wpIn (FW ro) 0 P (QK P C ao Fs w0 n k ρ L) a w
def se(P:Program)(C:Ctx)(ao:Value→List HP→Prop)(Fs:List HP)(w0:World)(n:Nat):Prop:=
 ∀ro all r k st ρ L a w,VC P ao (run C n (.ops all r::k) st) ρ L→HW Fs w0 st ρ w→HA st.fr st.nt ρ a→Cu ρ k ro→wpListIn (FW ro) 0 P all (QK P C ao Fs w0 n k ρ L) r a w
def Hm(P:Program)(C:Ctx)(ao:Value→List HP→Prop)(Fs:List HP)(w0:World)(n:Nat):Prop:=
 ∀ro id all pm k st ρ L a w,VC P ao (run C n (.rN all pm (ajw all.size) 0 []::k) st) ρ L→ko all pm=true→xP all pm=true→HW Fs w0 st ρ w→HA st.fr st.nt ρ a→Cu ρ k ro→
  (Code.region id all true).wpIn (FW ro) 0 P (QK P C ao Fs w0 n k ρ L) a w
def ND(P:Program)(C:Ctx)(ao:Value→List HP→Prop)(Fs:List HP)(w0:World)(n:Nat):Prop:=
 ∀ro g ps x y k st ρ L a w,VC P ao (run C n (.code (.rangeFunc g ps x y)::k) st) ρ L→HW Fs w0 st ρ w→HA st.fr st.nt ρ a→Cu ρ k ro→
  (Code.rangeFunc g ps x y).wpIn (FW ro) 0 P (QK P C ao Fs w0 n k ρ L) a w
theorem QK.here{n m:Nat}{k k':List KI}{ρ:Env}{L:Nat→LC}{e:Exit}{a:Act}{w:World}{st:St}(hm:m<n)(hk:resume e k=some k')
  (hv:VC P ao (run C m k' st) ρ L) (hw:HW Fs w0 st ρ w) (ha:HA st.fr st.nt ρ a):QK P C ao Fs w0 n k ρ L e a w:=
 ⟨k',hk,m,hm,st,ρ,L,Env.Le.refl _,fun _ _=>rfl,hw,ha,hv⟩
theorem HW.know{st:St}{ρ:Env}{w:World}(h:HW Fs w0 st ρ w){b:BE}(hb:b.prop ρ)(hs:b.sc st.aV=true):HW Fs w0 {st with known:=b::st.known} ρ w:=
 ⟨h.lens,h.kI,h.fU,by rw [List.all_cons,hs,h.nh];rfl,fun x hx=>(ai0.1 hx).elim (fun e=>e▸hb) (h.kn x),h.own,h.same,h.lC⟩
theorem Ct{c:cz}{b:BE}(h:b.sc c=true):(iI b).sc c=true:=by
 unfold iI;split
 ·rfl
 ·exact h
 ·exact h
theorem fq.le{ρ bF:Env}{c d:cz}(h:fq ρ c)(h':fq bF d)(hle:Env.Le ρ bF):c.le d:=by
 obtain⟨x,rfl⟩:=hle;constructor
 ·rw [←h.b,←h'.b];simp [Env.ext]
 ·rw [←h.v,←h'.v];simp [Env.ext]
 ·rw [←h.i,←h'.i];simp [Env.ext]
 ·rw [←h.a,←h'.a];simp [Env.ext]
 ·rw [←h.bo,←h'.bo];simp [Env.ext]
 ·rw [←h.p,←h'.p];simp [Env.ext]
 ·rw [←h.r,←h'.r];simp [Env.ext]
theorem wI{x y:List (Nat×SV)}{s:Nat}{v:SV}(h:look (x++y) s=some v):look x s=some v∨look y s=some v:=by
 induction x with
 | nil=>exact .inr h
 | cons t r ih=>
  obtain⟨q,u⟩:=t;have h':(if q==s then some u else look (r++y) s)=some v:=h;show(if q==s then some u else look r s)=some v∨look y s=some v;by_cases hq:(q==s)=true
  ·rw [if_pos hq]at h' ⊢;exact .inl h'
  ·rw [if_neg hq]at h' ⊢;exact ih h'
theorem lU{x:List (Nat×SV)}{f:Nat→Bool}{s:Nat}{v:SV}(h:look (x.filter fun y=>f y.1) s=some v):look x s=some v:=by
 induction x with
 | nil=>cases h
 | cons t r ih=>
  obtain⟨q,u⟩:=t;by_cases hf:f q=true
  ·rw [List.filter_cons_of_pos (by exact hf)]at h;unfold look at h ⊢;split at h
   ·rename_i hq;simp only [hq,if_true];exact h
   ·rename_i hq;simp only [hq];exact ih h
  ·rw [List.filter_cons_of_neg (by exact hf)]at h;have:=ih h;unfold look;split
   ·rename_i hq;rw [beq_iff_eq]at hq;subst hq;exfalso;apply hf;clear ih this
    induction r with
    | nil=>cases h
    | cons t' r' WG=>
     obtain⟨q',u'⟩:=t';by_cases Tr:f q'=true
     ·rw [List.filter_cons_of_pos (by exact Tr)]at h;unfold look at h;split at h
      ·rename_i hq';rw [beq_iff_eq]at hq';subst hq';exact Tr
      ·exact WG h
     ·rw [List.filter_cons_of_neg (by exact Tr)]at h;exact WG h
   ·exact this
theorem fR.trans{c:cz}{a b d:Env}(h:fR c a b)(k:fR c b d):fR c a d:=
 ⟨fun i hi=>(h.b i hi).trans (k.b i hi),fun i hi=>(h.v i hi).trans (k.v i hi),fun i hi=>(h.i i hi).trans (k.i i hi),fun i hi=>(h.a i hi).trans (k.a i hi),fun i hi=>(h.bo i hi).trans (k.bo i hi),fun i hi=>(h.p i hi).trans (k.p i hi),fun i hi=>(h.r i hi).trans (k.r i hi),h.va.trans k.va⟩
theorem bz.front{a b Fs:List HP}{w:World}(h:bz (a++b++Fs) w):bz (a++Fs) w:=by
 refine h.tf (fun j=>if j<a.length then some j else some (j+b.length)) ?_ ?_
 ·intro j x hx;right;by_cases h1:j<a.length
  ·refine⟨j,by simp [h1],?_⟩;rw [aiR h1]at hx;rw [ajs,aiR h1];exact hx
  ·refine⟨j+b.length,by simp [h1],?_⟩;rw [aiW (by omega)]at hx;rw [aiW (by simp;omega),List.length_append,show j+b.length - (a.length+b.length)=j - a.length by omega];exact hx
 ·intro j j' i hj lH _ _;split at hj<;>split at lH<;>simp only [aiP]at hj lH<;>omega
theorem m8{ρ bF:Env}: ∀{x y:List MK} {l:List fA},k9 x y=some l→ll ρ bF l→marks ρ x=marks bF y
 | [],[],l,_,_=>rfl
 | .one b::r,.one b'::r',l,h,hl=>by
  simp only [k9,aiO]at h;obtain⟨z,hz,rfl⟩:=h;have h1:=hl _ aiQ;simp only [fA.holds]at h1;have h2:=m8 hz fun x hx=>hl x (aiV _ hx)
  simp only [marks,List.flatMap_cons,List.map_append,MK.blocks,h1]at h2 ⊢;rw [h2]
 | .many b::r,.many b'::r',l,h,hl=>by
  simp only [k9,aiO]at h;obtain⟨z,hz,rfl⟩:=h;have h1:=hl _ aiQ;simp only [fA.holds]at h1;have h2:=m8 hz fun x hx=>hl x (aiV _ hx)
  simp only [marks,List.flatMap_cons,List.map_append,MK.blocks,h1]at h2 ⊢;rw [h2]
 | [],.one _::_,_,h,_=>by cases h
 | [],.many _::_,_,h,_=>by cases h
 | .one _::_,[],_,h,_=>by cases h
 | .many _::_,[],_,h,_=>by cases h
 | .one _::_,.many _::_,_,h,_=>by cases h
 | .many _::_,.one _::_,_,h,_=>by cases h
theorem jG{st:St}{ρ qL Jb:Env}{a:Act}{w:World}{c0:cz}{Gu:List (Nat×SV)}{lz:List Ck}{x y z:List fA}{nt w9:NT}
  (hw:HW Fs w0 st ρ w) (ha:HA st.fr nt ρ a) (h1:fq qL c0) (hle:Env.Le qL ρ) (Xx:Env.Le qL Jb)
  (hx:mz Gu st.fr=some x) (hy:my lz st.hp=some y) (hz:k9 w9.ds nt.ds=some z) (hn:w9.n=nt.n) (hh:ll Jb ρ ((x++y++z).filter fun q=> !q.trivial c0)):
  HA Gu w9 Jb a∧bz (lz.map (Ck.den Jb)++Fs) w:=by
 have eu:fR c0 Jb ρ:=(Env.Le.dK h1 Xx).symm.trans (Env.Le.dK h1 hle);obtain⟨WU,k3⟩:=(ll.all eu hh).app;obtain⟨k1,k2⟩:=WU.app;refine⟨⟨ha.defers.trans (m8 hz k3).symm,hn▸ha.size,fun s v hs=>?_⟩,?_⟩
 ·obtain⟨v',rb,he⟩:=mX hx k1 s v hs;rw [ha.aO s v' rb,he]
 ·obtain⟨more,hm⟩:=rE eu.va hy k2;have:=hw.own;rw [hm]at this;exact this.front
theorem oQ{k_:St}{qL:Env}{w:World}{inc:cz}{e:Ext}{aO:List (Nat×SV)}{f:Nat→Bool}{lz:List Ck}{w9:NT}
  (h1:fq qL k_.aV) (he:e.Fits inc) (kx:kZ (k_.aV.add inc) aO=true) (vO:lz.all (Ck.sc (k_.aV.add inc))=true) (ke:kZ k_.aV k_.fr=true)
  (Mq:w9.ds.all (MK.sc (k_.aV.add inc))=true) (nM:fZ w0 w) (own:bz (lz.map (Ck.den (qL.ext e))++Fs) w):
  HW Fs w0 {k_ with fr:=aO++k_.fr.filter (fun x=>f x.1),hp:=lz,aV:=k_.aV.add inc,known:=[],nt:=w9} (qL.ext e) w:=by
 refine⟨h1.ext he,?_,vO,rfl,fun b hb=>(by cases hb),own,nM,Mq⟩;simp only [kZ,List.all_append,ai];refine⟨kx,aiM.2 fun x hx=>?_⟩;exact SV.bq (cz.j4 _ _) (aiM.1 ke x (aja.1 hx).1)
theorem lE{α:Type}(p:α→Bool)(e:α)(he:p e=true): ∀(use:List Nat) (hp new:List α),hp.all p=true→new.all p=true→(kj e hp use new).all p=true
 | [],hp,new,h1,h2=>by simp only [kj,List.all_append,h1,h2,Bool.and_self]
 | i::r,hp,c::cs,h1,h2=>by
  simp only [List.all_cons,ai]at h2;refine lE p e he r _ _ (aiM.2 fun x hx=>?_) h2.2;rcases ajf hx with hx | rfl
  ·exact aiM.1 h1 x hx
  ·exact h2.1
 | i::r,hp,[],h1,h2=>by
  refine lE p e he r _ _ (aiM.2 fun x hx=>?_) h2;rcases ajf hx with hx | rfl
  ·exact aiM.1 h1 x hx
  ·exact he
theorem At.gh{n:Nat}{g:St→Option dR}{k:List KI}{ρ:Env}{L:Nat→LC}{a:Act}{w:World}(h:At P C ao Fs w0 n (.gh g::k) ρ L a w):At P C ao Fs w0 n k ρ L a w:=by
 obtain⟨m,hm,st,bF,L',h1,h2,h3,h4,h5⟩:=h
 induction m generalizing st with
 | zero=>exact h5.elim
 | succ m ih=>
  simp only [run]at h5;split at h5
  ·exact⟨m,by omega,st,bF,L',h1,h2,h3,h4,h5⟩
  ·rename_i s hs;split at h5
   ·rename_i b hb;split at h5
    case isFalse=>exact h5.elim
    rename_i iT;simp only [VC,aJ]at h5;cases hd:b.den bF with
    | true=>
     have hp:=(BE.bZ bF b).1 hd;exact ih (by omega) _ (h3.know hp iT) h4 (h5.1 hp)
    | false=>
     have hp: ¬b.prop bF:=fun h=>by rw [←BE.bZ,hd]at h;cases h
     have lz:(iI b).prop bF:=by rw [←BE.bZ,c7,hd];rfl
     exact ih (by omega) _ (h3.know lz (Ct iT)) h4 (h5.2 hp)
   rename_i hsp;split at h5
   ·rename_i idx ah5;split at h5
    case isFalse=>exact h5.elim
    rename_i hc;rw [ai,decide_eq_true_eq]at hc;obtain⟨bX,gu⟩:=hc;have bX: ∀i∈idx,i<st.hp.length:=fun i hi=>by simpa [ai3] using aiM.1 bX i hi
    refine⟨m,by omega,{st with hp:=idx.map fun i=>st.hp.getD i .emp},bF,L',h1,h2,⟨h3.lens,h3.kI,?_,h3.nh,h3.kn,?_,h3.same,h3.lC⟩,h4,h5⟩
    ·refine aiM.2 fun x hx=>?_
     obtain⟨i,hi,rfl⟩:=ai_.1 hx;have hl:=bX i hi;rw [List.getD_eq_getElem?_getD,ajk hl];exact aiM.1 h3.fU _ (List.getElem_mem hl)
    ·refine h3.own.pick (idx++(ajw Fs.length).map (st.hp.length+ ·)) _ ?_ ?_
     ·refine List.nodup_append.2 ⟨gu,?_,?_⟩
      ·exact List.Pairwise.map _ (fun a b h=>by omega) List.nodup_range
      ·intro x hx y hy;have:=bX x hx;obtain⟨q,_,rfl⟩:=ai_.1 hy;omega
     ·intro j;by_cases hj:j<idx.length
      ·have hl:=bX idx[j] (List.getElem_mem hj);have e1:(((idx.map fun i=>st.hp.getD i .emp).map (Ck.den bF))++Fs)[j]? =some ((st.hp[idx[j]]).den bF):=by
        rw [aiR (by simpa using hj)];simp [hj,hl]
       have e2:(st.hp.map (Ck.den bF)++Fs)[idx[j]]? =some ((st.hp[idx[j]]).den bF):=by
        rw [aiR (by simpa using hl)];simp [hl]
       rw [e1,aiR hj,ajk hj,Option.bind_some,e2]
      ·rw [aiW (by simpa using hj),aiW (by omega)];simp only [List.length_map,List.getElem?_map];by_cases hq:j - idx.length<Fs.length
       ·rw [List.getElem?_range hq,ajI,Option.bind_some,aiW (by simp)];simp
       ·rw [ajz (by omega),ajz (by simpa using hq)];simp
   split at h5
   case h_2=>exact h5.elim
   rename_i eqs heq;split at h5
   case isFalse=>exact h5.elim
   rename_i iT;simp only [ai,decide_eq_true_eq]at iT;obtain⟨⟨⟨kx,vO⟩,ke⟩,Ao⟩:=iT;have bX: ∀i∈s.use,i<st.hp.length:=fun i hi=>by simpa [ai3] using aiM.1 ke i hi
   simp only [VC]at h5;obtain⟨I,hI,hr⟩:=h5;rw [oB]at hr;have cI:=bz.tg (acc:=[]) (use:=s.use) (by simpa using h3.own) Ao (by simpa using bX);have Hf:(s.use.map fun i=>st.hp.getD i .emp).map (Ck.den bF)=s.use.map (fun i=>(st.hp.map (Ck.den bF)).getD i HP.emp):=by
    rw [List.map_map];refine ajq fun i hi=>?_
    have:=bX i hi;simp [this]
   rw [List.nil_append,←Hf]at cI;have hx:=hI _ _ cI;rw [j1]at hx;obtain⟨e,hf,hq⟩:=hx;rw [tc]at hq;obtain⟨hh,yX,hIe⟩:=hq;have hle:=Env.gg bF e;have eu:=Env.Le.dK h3.lens hle;refine⟨m,by omega,_,bF.ext e,L',h1.trans hle,h2,?_,?_,hr e hf hIe⟩
   ·refine⟨h3.lens.ext hf,?_,?_,eN (cz.j4 _ _) h3.nh,fun b hb=>?_,?_,h3.same,cV (cz.j4 _ _) h3.lC⟩
    ·simp only [kZ,List.all_append,ai];refine⟨kx,aiM.2 fun x hx=>?_⟩;exact SV.bq (cz.j4 _ _) (aiM.1 h3.kI x (aja.1 hx).1)
    ·exact lE _ _ rfl _ _ _ (iA (cz.j4 _ _) h3.fU) vO
    ·exact(BE.gn eu (aiM.1 h3.nh b hb)).1 (h3.kn b hb)
    ·have h1:=bz.kR (use:=s.use) yX (fun i hi=>by rw [ln];simpa using bX i hi) fun _ _=> .inr trivial
     rw [←iU _ _ _ Ao,jZ eu h3.fU]at h1;simp only [fb];rw [lB];exact h1
   ·have hm:=h4.more h3.kI h3.lC eu;refine⟨hm.defers,hm.size,fun x v hx=>?_⟩;rcases wI hx with hx | hx
    ·obtain⟨v',rb,he⟩:=mX heq hh x v hx;rw [h4.aO x v' rb,he]
    ·have:=lU (f:=fun q=> !(s.aO.any fun y=>y.1==q)) hx;exact hm.aO x v this
theorem QK.gh{n:Nat}{g:St→Option dR}{k:List KI}{ρ:Env}{L:Nat→LC}{e:Exit}{a:Act}{w:World}(h:QK P C ao Fs w0 n (.gh g::k) ρ L e a w):QK P C ao Fs w0 n k ρ L e a w:=by
 cases e with
 | normal=>
  obtain⟨k',hk,dA⟩:=h;cases hk;exact⟨k,rfl,dA.gh⟩
 | exit id=>exact QK.move (k:=k) h rfl fun _ _=>rfl
 | ret=>exact QK.move (k:=k) h rfl fun _ _=>rfl
 | goto l=>obtain⟨k',hk,_⟩:=h;cases hk
 | panic l=>obtain⟨k',hk,_⟩:=h;cases hk
 | outgrown=>obtain⟨k',hk,_⟩:=h;cases hk
theorem wJ{F:Fence}{n:Nat}{c:Code}{Q:Exit→Act→World→Prop}: ∀{m m':Nat} {a:Act} {w:World},m≤m'→Code.roundsIn F n P c Q m a w→Code.roundsIn F n P c Q m' a w
 | 0,_,_,_,_,h=>h.elim
 | m+1,0,_,_,hm,_=>absurd hm (by omega)
 | m+1,m'+1,a,w,hm,h=>by
  refine wpIn_mono (show c.wpIn F n P (Exit.then (Code.roundsIn F n P c Q m) Q) a w from h) fun e a w hq=>?_
  cases e with
  | normal=>exact wJ (by omega) hq
  | _=>exact hq
theorem PV{N:Nat}{ro:Option Nat}{body:Code}{k:List KI}{ρ:Env}{L:Nat→LC}(vQ: ∀m,m<N→pW P C ao Fs w0 m): ∀(n:Nat),n<N→∀(st:St) (bF:Env) (L':Nat→LC) (a:Act) (w:World),
  VC P ao (run C n (.code body:: .again body::k) st) bF L'→Env.Le ρ bF→(∀j,j<nl k→L' j=L j)→HW Fs w0 st bF w→HA st.fr st.nt bF a→Cu bF k ro→Code.roundsIn (FW ro) 0 P body (QK P C ao Fs w0 N k ρ L) (n+1) a w:=by
 intro n
 induction n using Nat.strongRecOn with
 | _ n ih=>
  intro hn st bF L' a w hv hle hL hw ha hk;refine wpIn_mono (vQ n hn ro body (.again body::k) st bF L' a w hv hw ha (hk.push rfl)) ?_;intro e a' w' hq;cases e with
  | normal=>
   obtain⟨k',BC,m,hm,Ej,Jb,L2,h1,h2,h3,h4,h5⟩:=hq;cases BC;cases m with
   | zero=>exact h5.elim
   | succ m=>
    have:=ih m (by omega) (by omega) Ej Jb L2 a' w' h5 (hle.trans h1) (fun j hj=>(h2 j hj).trans (hL j hj)) h3 h4 (hk.le h1);exact wJ (by omega) this
  | exit id=>exact(QK.move (k:=k) hq rfl fun _ _=>rfl).mono (by omega) hle hL
  | ret=>exact(QK.move (k:=k) hq rfl fun _ _=>rfl).mono (by omega) hle hL
  | goto l=>obtain⟨k',hk,_⟩:=hq;cases hk
  | panic l=>obtain⟨k',hk,_⟩:=hq;cases hk
  | outgrown=>obtain⟨k',hk,_⟩:=hq;cases hk
theorem Ev(_:bD P C.T=true){n:Nat}(vQ: ∀m,m<n→pW P C ao Fs w0 m)(Mr: ∀m,m<n→se P C ao Fs w0 m)(IHd: ∀m,m<n→Hm P C ao Fs w0 m)(IHr:ND P C ao Fs w0 n):pW P C ao Fs w0 n:=by
 intro ro c k st ρ L a w hv hw ha fI;cases n with
 | zero=>exact hv.elim
 | succ n=>
  have hn:n<n+1:=Nat.lt_succ_self n;cases c with
  | skip=>exact wpIn_skip (QK.here hn rfl hv hw ha)
  | label l=>exact wpIn_label (QK.here hn rfl hv hw ha)
  | seq x y=>
   refine wpIn_seq (wpIn_mono (vQ n hn ro x (.code y::k) st ρ L a w hv hw ha (fI.push rfl)) ?_);intro e a' w' hq;cases e with
   | normal=>
    obtain⟨k',hk,m,hm,cY,bF,L',h1,h2,h3,h4,h5⟩:=hq;cases hk;refine wpIn_mono (vQ m (by omega) ro y k cY bF L' a' w' h5 h3 h4 (fI.le h1)) fun e a w hq=>?_
    exact hq.mono (by omega) h1 h2
   | exit id=>exact(QK.move (k:=k) hq rfl fun _ _=>rfl).mono (ajC n) (Env.Le.refl _) fun _ _=>rfl
   | ret=>exact(QK.move (k:=k) hq rfl fun _ _=>rfl).mono (ajC n) (Env.Le.refl _) fun _ _=>rfl
   | goto l=>obtain⟨k',hk,_⟩:=hq;cases hk
   | panic l=>obtain⟨k',hk,_⟩:=hq;cases hk
   | outgrown=>obtain⟨k',hk,_⟩:=hq;cases hk
  | cond x t e=>
   simp only [run]at hv;have up: ∀{e:Exit} {a:Act} {w:World},QK P C ao Fs w0 n k ρ L e a w→QK P C ao Fs w0 (n+1) k ρ L e a w:=fun hq=>hq.mono (ajC n) (Env.Le.refl _) fun _ _=>rfl
   split at hv
   ·rename_i hc;have:=oC ha hw.kn hc;exact wpIn_cond_true this (wpIn_mono (vQ n hn ro t k st ρ L a w hv hw ha fI) fun e a w hq=>up hq)
   ·rename_i hc;have:=oC ha hw.kn hc;exact wpIn_cond_false this (wpIn_mono (vQ n hn ro e k st ρ L a w hv hw ha fI) fun e a w hq=>up hq)
   ·rename_i b _ _ hc;have hb:=oC ha hw.kn hc;split at hv
    ·rename_i iT;simp only [VC,aJ]at hv;cases hd:b.den ρ with
     | true=>
      have hp:=(BE.bZ ρ b).1 hd;exact wpIn_cond_true (by rw [hb,hd]) (wpIn_mono (vQ n hn ro t k _ ρ L a w (hv.1 hp) (hw.know hp iT) ha fI) fun e a w hq=>up hq)
     | false=>
      have hp: ¬b.prop ρ:=fun h=>by rw [←BE.bZ,hd]at h;cases h
      have lz:(iI b).prop ρ:=by rw [←BE.bZ,c7,hd];rfl
      exact wpIn_cond_false (by rw [hb,hd]) (wpIn_mono (vQ n hn ro e k _ ρ L a w (hv.2 hp) (hw.know lz (Ct iT)) ha fI) fun e a w hq=>up hq)
    ·exact hv.elim
   ·exact hv.elim
  | block id b=>
   simp only [run]at hv;split at hv;rotate_left
   ·rename_i ja KR;split at hv
    case isFalse=>exact hv.elim
    rename_i iT;simp only [ai]at iT;obtain⟨⟨⟨kx,vO⟩,ke⟩,Ao⟩:=iT;simp only [VC]at hv;obtain⟨I,PW,xW⟩:=hv;rw [oB]at xW;have J8: ∀(m:Nat) (cY:St) (bF:Env) (L':Nat→LC) (a':Act) (w':World),m≤n→Env.Le ρ bF→(∀j,j<nl k+1→L' j=uv L (nl k) ⟨I,fun _=>0,⟨[],[],[],[],[],[],[]⟩⟩ j)→
      HW Fs w0 cY bF w'→HA cY.fr cY.nt bF a'→
      VC P ao (run C m (.jn (some id) (nl k) {st.nt with ds:=ja.ds st.aV st.nt.ds} st.aV ja.inc (ja.aO st.aV++st.fr.filter fun x=> !((writes b).contains x.1)&& !((ja.aO st.aV).any fun y=>y.1==x.1)) (ja.hp st.aV st.hp) ja.pre::k) cY) bF L'→
      QK P C ao Fs w0 (n+1) k ρ L .normal a' w':=by
     intro m cY bF L' a' w' hm hle hL g3 g4 g5;cases m with
     | zero=>exact g5.elim
     | succ m=>
      simp only [run]at g5;split at g5
      ·exact g5.elim
      rename_i st9 nn9 Gq;obtain⟨ρ9,PX,g3,g4,ZS,g5⟩:=jw Gq g3 g4 g5;have hle:=hle.trans PX;split at g5
      ·rename_i x' y' z' Tt UK GV;split at g5
       ·exact g5.elim
       ·rename_i Aq;simp only [bne_iff_ne,ne_eq,Decidable.not_not]at Aq;simp only [VC]at g5;rw [j1]at g5;obtain⟨e2,Uc,Ud⟩:=g5;rw [Env.Le.take hw.lens hle,tc]at Ud;obtain⟨ZT,Qc⟩:=Ud;have hLI:(L' (nl k)).I=I:=by
         rw [hL _ (by omega)];simp [uv]
        rw [hLI]at Qc;obtain⟨r1,r2⟩:=jG (w9:={st.nt with ds:=ja.ds st.aV st.nt.ds}) g3 g4 hw.lens hle (Env.gg ρ e2) Tt UK GV Aq.symm ZT;refine⟨k,rfl,n,by omega,_,ρ.ext e2,L,Env.gg ρ e2,fun _ _=>rfl,?_,r1,xW e2 Uc Qc⟩;exact oQ (f:=fun q=> !((writes b).contains q)&& !((ja.aO st.aV).any fun y=>y.1==q)) hw.lens Uc kx vO hw.kI Ao g3.same r2
      ·exact g5.elim
      ·exact g5.elim
      ·exact g5.elim
    refine wpIn_block (wpIn_mono (vQ n hn ro b _ st ρ _ a w PW hw ha (fI.push rfl)) ?_);intro e a' w' hq;cases e with
    | normal=>
     obtain⟨k',hk,m,hm,cY,bF,L',h1,h2,h3,h4,h5⟩:=hq;cases hk;exact J8 m cY bF L' a' w' (Nat.le_of_lt hm) h1 h2 h3 h4 h5
    | exit id'=>
     simp only [Exit.inBlock];split
     ·rename_i he;subst he;obtain⟨k',hk,m,hm,cY,bF,L',h1,h2,h3,h4,h5⟩:=hq;simp only [resume,cX,beq_self_eq_true,if_true,aiP]at hk;subst hk;exact J8 m cY bF L' a' w' (Nat.le_of_lt hm) h1 h2 h3 h4 h5
     ·rename_i he;refine(QK.move (k:=k) (L:=L) hq ?_ fun j hj=>?_).mono (ajC n) (Env.Le.refl _) fun _ _=>rfl
      ·simp only [resume,cX];rw [if_neg (by simpa using Ne.symm he)]
      ·simp only [uv];rw [if_neg (by omega)]
    | ret=>
     refine(QK.move (k:=k) (L:=L) hq rfl fun j hj=>?_).mono (ajC n) (Env.Le.refl _) fun _ _=>rfl
     simp only [uv];rw [if_neg (by omega)]
    | goto l=>obtain⟨k',hk,_⟩:=hq;cases hk
    | panic l=>obtain⟨k',hk,_⟩:=hq;cases hk
    | outgrown=>obtain⟨k',hk,_⟩:=hq;cases hk
   refine wpIn_block (wpIn_mono (vQ n hn ro b (.oZ id::k) st ρ L a w hv hw ha (fI.push rfl)) ?_);intro e a' w' hq;cases e with
   | normal=>
    obtain⟨k',hk,m,hm,cY,bF,L',h1,h2,h3,h4,h5⟩:=hq;cases hk;cases m with
    | zero=>exact h5.elim
    | succ m=>exact⟨k,rfl,m,by omega,cY,bF,L',h1,h2,h3,h4,h5⟩
   | exit id'=>
    simp only [Exit.inBlock];split
    ·rename_i he;subst he;obtain⟨k',hk,m,hm,cY,bF,L',h1,h2,h3,h4,h5⟩:=hq;simp only [resume,cX,beq_self_eq_true,if_true,aiP]at hk;subst hk;exact⟨k,rfl,m,by omega,cY,bF,L',h1,h2,h3,h4,h5⟩
    ·rename_i he;refine(QK.move (k:=k) hq ?_ fun _ _=>rfl).mono (ajC n) (Env.Le.refl _) fun _ _=>rfl
     simp only [resume,cX];rw [if_neg (by simpa using Ne.symm he)]
   | ret=>exact(QK.move (k:=k) hq rfl fun _ _=>rfl).mono (ajC n) (Env.Le.refl _) fun _ _=>rfl
   | goto l=>obtain⟨k',hk,_⟩:=hq;cases hk
   | panic l=>obtain⟨k',hk,_⟩:=hq;cases hk
   | outgrown=>obtain⟨k',hk,_⟩:=hq;cases hk
  | loop body=>
   simp only [run]at hv;split at hv
   ·rename_i id k0;split at hv
    ·exact wpIn_loop_rounds _ (PV vQ n hn st ρ L a w hv (Env.Le.refl _) (fun _ _=>rfl) hw ha fI)
    ·rename_i la hla;split at hv
     ·exact hv.elim
     ·rename_i k_ nn kN;obtain⟨qL,Na,xf,Hi,hfn,vE⟩:=jw kN hw ha hv;split at vE
      ·rename_i x y z hx hy hz;split at vE
       ·rename_i iT;simp only [ai]at iT;obtain⟨⟨⟨kx,vO⟩,ke⟩,Ao⟩:=iT;simp only [VC]at vE;obtain⟨I,μ,PY,PZ⟩:=vE;rw [j1]at PY;rw [oB]at PZ;obtain⟨e0,hf0,hq0⟩:=PY;rw [tc]at hq0;obtain⟨hh0,hI0⟩:=hq0;obtain⟨q1,q2⟩:=jG (w9:={k_.nt with ds:=la.ds k_.aV k_.nt.ds}) xf Hi xf.lens (Env.Le.refl _) (Env.gg qL e0) hx hy hz rfl hh0;refine wpIn_loop_ghost (fun n' a w=> ∃e:Ext,e.Fits la.inc∧I e∧μ e=n'∧HW Fs w0
          {k_ with fr:=la.aO k_.aV++k_.fr.filter (fun x=> !((writes body).contains x.1)&& !((la.aO k_.aV).any fun y=>y.1==x.1)),hp:=la.hp k_.aV k_.hp,aV:=k_.aV.add la.inc,known:=[],nt:={k_.nt with ds:=la.ds k_.aV k_.nt.ds}} (qL.ext e) w∧
          HA (la.aO k_.aV++k_.fr.filter (fun x=> !((writes body).contains x.1)&& !((la.aO k_.aV).any fun y=>y.1==x.1))) {k_.nt with ds:=la.ds k_.aV k_.nt.ds} (qL.ext e) a) (μ e0) ⟨e0,hf0,hI0,rfl,?_,?_⟩ ?_
        ·exact oQ (f:=fun q=> !((writes body).contains q)&& !((la.aO k_.aV).any fun y=>y.1==q)) xf.lens hf0 kx vO xf.kI Ao xf.same q2
        ·refine⟨q1.defers,q1.size,fun s v hs=>?_⟩;rcases wI hs with hs | hs
         ·exact q1.aO s v hs
         ·have:=lU (f:=fun q=> !((writes body).contains q)&& !((la.aO k_.aV).any fun y=>y.1==q)) hs;rw [Hi.aO s v this];exact(SV.uM (Env.Le.dK xf.lens (Env.gg qL e0)) (Cn xf.kI this)).1
        ·intro n' a2 w2 Qc;obtain⟨e,he,hIe,hμ,Ek,WK⟩:=Qc;subst hμ;have hvb:=PZ e he hIe;refine wpIn_mono (vQ n hn ro body _ _ _ _ a2 w2 hvb Ek WK ((fI.le (Na.trans (Env.gg qL e))).push rfl)) ?_;intro ex a3 w3 hq;cases ex with
         | normal=>
          obtain⟨k',hk,m,hm,cY,bF,L',g1,g2,g3,g4,g5⟩:=hq;cases hk;cases m with
          | zero=>exact g5.elim
          | succ m=>
           simp only [run]at g5;split at g5
           ·exact g5.elim
           rename_i st9 nn9 Gq;obtain⟨ρ9,PX,g3,g4,ZS,g5⟩:=jw Gq g3 g4 g5;have g1:=g1.trans PX;split at g5
           ·rename_i x' y' z' Tt UK GV;split at g5
            ·exact g5.elim
            ·rename_i Aq;simp only [bne_iff_ne,ne_eq,Decidable.not_not]at Aq;simp only [VC]at g5;rw [j1]at g5;obtain⟨e2,Uc,Ud⟩:=g5;have KZ:Env.Le qL ρ9:=(Env.gg qL e).trans g1;rw [Env.Le.take xf.lens KZ,tc]at Ud;obtain⟨ZT,Qc,ZU⟩:=Ud;have hL:L' (nl (.oZ id::k0))=⟨I,μ,e⟩:=by
              rw [g2 _ (by simp [nl])];simp [uv]
             rw [hL]at Qc ZU;obtain⟨r1,r2⟩:=jG (w9:={k_.nt with ds:=la.ds k_.aV k_.nt.ds}) g3 g4 xf.lens KZ (Env.gg qL e2) Tt UK GV Aq.symm ZT;refine⟨μ e2,ZU,e2,Uc,Qc,rfl,?_,r1⟩;exact oQ (f:=fun q=> !((writes body).contains q)&& !((la.aO k_.aV).any fun y=>y.1==q)) xf.lens Uc kx vO xf.kI Ao g3.same r2
           ·exact g5.elim
           ·exact g5.elim
         | exit id'=>
          refine(QK.move (k:= .oZ id::k0) (L:=L) hq rfl ?_).mono (ajC n) (Na.trans (Env.gg qL e)) fun _ _=>rfl
          intro j hj;simp only [uv];rw [if_neg (by omega)]
         | ret=>
          refine(QK.move (k:= .oZ id::k0) (L:=L) hq rfl ?_).mono (ajC n) (Na.trans (Env.gg qL e)) fun _ _=>rfl
          intro j hj;simp only [uv];rw [if_neg (by omega)]
         | goto l=>obtain⟨k',hk,_⟩:=hq;cases hk
         | panic l=>obtain⟨k',hk,_⟩:=hq;cases hk
         | outgrown=>obtain⟨k',hk,_⟩:=hq;cases hk
       ·exact vE.elim
      ·exact vE.elim
   ·exact wpIn_loop_rounds _ (PV vQ n hn st ρ L a w hv (Env.Le.refl _) (fun _ _=>rfl) hw ha fI)
  | exit id=>
   simp only [run]at hv;split at hv
   ·rename_i k' hk;exact wpIn_exit (QK.here hn hk hv hw ha)
   ·exact hv.elim
  | ret=>
   simp only [run]at hv;split at hv
   ·rename_i k' hk;exact wpIn_ret (QK.here hn hk hv hw ha)
   ·exact hv.elim
  | region id ops draw=>
   cases draw with
   | false=>
    simp only [run]at hv;split at hv
    ·exact wpIn_region_list (eV (fun e a w hq=>hq.mono (ajC n) (Env.Le.refl _) fun _ _=>rfl) (Mr n hn ro ops ops.toList k st ρ L a w hv hw ha fI))
    ·exact wpIn_region_list (eV (fun e a w hq=>hq.gh.mono (ajC n) (Env.Le.refl _) fun _ _=>rfl) (Mr n hn ro ops ops.toList _ st ρ L a w hv hw ha (fI.push rfl)))
   | true=>
    simp only [run]at hv;split at hv
    ·rename_i hc;simp only [ai]at hc;split at hv
     ·rename_i ja KR;split at hv
      case isFalse=>exact hv.elim
      rename_i iT;simp only [ai]at iT;obtain⟨⟨⟨kx,vO⟩,ke⟩,Ao⟩:=iT;simp only [VC]at hv;obtain⟨I,PW,xW⟩:=hv;rw [oB]at xW;have J8: ∀(m:Nat) (cY:St) (bF:Env) (L':Nat→LC) (a':Act) (w':World),m≤n→Env.Le ρ bF→(∀j,j<nl k+1→L' j=uv L (nl k) ⟨I,fun _=>0,⟨[],[],[],[],[],[],[]⟩⟩ j)→
        HW Fs w0 cY bF w'→HA cY.fr cY.nt bF a'→
        VC P ao (run C m (.jn none (nl k) {st.nt with ds:=ja.ds st.aV st.nt.ds} st.aV ja.inc (ja.aO st.aV++st.fr.filter fun x=> !((writes (.region id ops true)).contains x.1)&& !((ja.aO st.aV).any fun y=>y.1==x.1)) (ja.hp st.aV st.hp) ja.pre::k) cY) bF L'→
        QK P C ao Fs w0 (n+1) k ρ L .normal a' w':=by
       intro m cY bF L' a' w' hm hle hL g3 g4 g5;cases m with
       | zero=>exact g5.elim
       | succ m=>
        simp only [run]at g5;split at g5
        ·exact g5.elim
        rename_i st9 nn9 Gq;obtain⟨ρ9,PX,g3,g4,ZS,g5⟩:=jw Gq g3 g4 g5;have hle:=hle.trans PX;split at g5
        ·rename_i x' y' z' Tt UK GV;split at g5
         ·exact g5.elim
         ·rename_i Aq;simp only [bne_iff_ne,ne_eq,Decidable.not_not]at Aq;simp only [VC]at g5;rw [j1]at g5;obtain⟨e2,Uc,Ud⟩:=g5;rw [Env.Le.take hw.lens hle,tc]at Ud;obtain⟨ZT,Qc⟩:=Ud;have hLI:(L' (nl k)).I=I:=by
           rw [hL _ (by omega)];simp [uv]
          rw [hLI]at Qc;obtain⟨r1,r2⟩:=jG (w9:={st.nt with ds:=ja.ds st.aV st.nt.ds}) g3 g4 hw.lens hle (Env.gg ρ e2) Tt UK GV Aq.symm ZT;refine⟨k,rfl,n,by omega,_,ρ.ext e2,L,Env.gg ρ e2,fun _ _=>rfl,?_,r1,xW e2 Uc Qc⟩;exact oQ (f:=fun q=> !((writes (.region id ops true)).contains q)&& !((ja.aO st.aV).any fun y=>y.1==q)) hw.lens Uc kx vO hw.kI Ao g3.same r2
        ·exact g5.elim
        ·exact g5.elim
        ·exact g5.elim
      refine wpIn_mono (IHd n hn ro id ops _ _ st ρ _ a w PW hc.1 hc.2 hw ha ((fI.push rfl).push rfl)) ?_;intro e a' w' hq;have hq:=hq.gh;cases e with
      | normal=>
       obtain⟨k',hk,m,hm,cY,bF,L',h1,h2,h3,h4,h5⟩:=hq;cases hk;exact J8 m cY bF L' a' w' (Nat.le_of_lt hm) h1 h2 h3 h4 h5
      | exit id'=>
       refine(QK.move (k:=k) (L:=L) hq rfl fun j hj=>?_).mono (ajC n) (Env.Le.refl _) fun _ _=>rfl
       simp only [uv];rw [if_neg (by omega)]
      | ret=>
       refine(QK.move (k:=k) (L:=L) hq rfl fun j hj=>?_).mono (ajC n) (Env.Le.refl _) fun _ _=>rfl
       simp only [uv];rw [if_neg (by omega)]
      | goto l=>obtain⟨k',hk,_⟩:=hq;cases hk
      | panic l=>obtain⟨k',hk,_⟩:=hq;cases hk
      | outgrown=>obtain⟨k',hk,_⟩:=hq;cases hk
     split at hv
     ·exact wpIn_mono (IHd n hn ro id ops _ k st ρ L a w hv hc.1 hc.2 hw ha fI) fun e a w hq=>hq.mono (ajC n) (Env.Le.refl _) fun _ _=>rfl
     ·exact wpIn_mono (IHd n hn ro id ops _ _ st ρ L a w hv hc.1 hc.2 hw ha (fI.push rfl)) fun e a w hq=>hq.gh.mono (ajC n) (Env.Le.refl _) fun _ _=>rfl
    ·exact hv.elim
  | rangeFunc f ps x y=>exact IHr ro f ps x y k st ρ L a w hv hw ha fI
  | scope x=>exact hv.elim
  | goto l=>exact hv.elim
  | refuse y=>exact hv.elim
end
end Go.RX
