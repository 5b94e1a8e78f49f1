/- Executor. -/
import Derived.Test.YtmgbbbmdbpbeeaaRxW
import Derived.LoopNIn
open Bool renaming and_eq_true → ai
open List renaming all_eq_true → adt, getElem?_append_left → adz, getElem?_append_right → adA, getElem?_eq_getElem → ad8, getElem?_eq_none → aef, mem_cons → adW, mem_cons_of_mem → adB, mem_cons_self → ady, mem_filter → adU, mem_or_eq_of_mem_set → ad6
open Nat renaming blt_eq → adK, le_succ → aec
open Option renaming map_eq_some_iff → adw
open Option.some renaming injEq → adv
namespace Go.RX
section
variable {P:Program} {C:Ctx} {ax:Value→List HP→Prop} {Fs:List HP} {w0:World}
structure BZ (ρ:Env) (k:List KI) (ro:Option Nat):Prop where
 rf: ∀l r fn nt fr ps x y fd,KI.rf l r fn nt fr ps x y fd∈k→∃u_ c0,fg u_ c0∧Env.Le u_ ρ∧kF c0 fr=true∧r<c0.r∧(u_.lr.getD r gJ).params=ps∧(u_.lr.getD r gJ).assign=x∧
  (u_.lr.getD r gJ).body=y∧HA fr ⟨nt.n,[]⟩ u_ {tmps:=(u_.lr.getD r gJ).tmps,defers:=[]}
 ro:match yT k with
  | none=>ro=none
  | some l=> ∃u_ c0,fg u_ c0∧Env.Le u_ ρ∧l<c0.b∧ro=some (u_.bv.getD l 0)
theorem BZ.le{ρ bE:Env}{k:List KI}{ro:Option Nat}(h:BZ ρ k ro)(hle:Env.Le ρ bE):BZ bE k ro:=by
 refine⟨fun l r fn nt fr ps x y fd hm=>?_,?_⟩
 ·obtain⟨u_,c0,h1,h2,h3⟩:=h.rf l r fn nt fr ps x y fd hm;exact⟨u_,c0,h1,h2.trans hle,h3⟩
 ·have:=h.ro;split at this
  ·exact this
  ·obtain⟨u_,c0,h1,h2,h3⟩:=this;exact⟨u_,c0,h1,h2.trans hle,h3⟩
def KI.inner:KI→Bool
 | .code _=>true
 | .ops .. =>true
 | .rl .. =>true
 | .LS .. =>true
 | .ky _=>true
 | .again _=>true
 | .loop .. =>true
 | .jn .. =>true
 | .gh _=>true
 | _=>false
theorem BZ.push{ρ:Env}{k:List KI}{ro:Option Nat}(h:BZ ρ k ro){x:KI}(hx:x.inner=true):BZ ρ (x::k) ro:=by
 have ha:yT (x::k)=yT k:=by cases x<;>first | rfl | (simp [KI.inner]at hx;done)
 refine⟨fun l r fn nt fr ps a b fd hm=>?_,by rw [ha];exact h.ro⟩;rcases adW.1 hm with rfl | hm
 ·simp [KI.inner]at hx
 ·exact h.rf l r fn nt fr ps a b fd hm
def pk(P:Program)(C:Ctx)(ax:Value→List HP→Prop)(Fs:List HP)(w0:World)(n:Nat):Prop:=
 ∀ro c k st ρ L a w,VC P ax (run C n (.code c::k) st) ρ L→HW Fs w0 st ρ w→HA st.fr st.nt ρ a→BZ ρ k ro→c.wpIn (FW ro) 0 P (QK P C ax Fs w0 n k ρ L) a w
def rm(P:Program)(C:Ctx)(ax:Value→List HP→Prop)(Fs:List HP)(w0:World)(n:Nat):Prop:=
 ∀ro all r k st ρ L a w,VC P ax (run C n (.ops all r::k) st) ρ L→HW Fs w0 st ρ w→HA st.fr st.nt ρ a→BZ ρ k ro→wpListIn (FW ro) 0 P all (QK P C ax Fs w0 n k ρ L) r a w
def Gy(P:Program)(C:Ctx)(ax:Value→List HP→Prop)(Fs:List HP)(w0:World)(n:Nat):Prop:=
 ∀ro id all pm k st ρ L a w,VC P ax (run C n (.rl all pm (List.range all.size) 0 []::k) st) ρ L→j1 all pm=true→xZ all pm=true→HW Fs w0 st ρ w→HA st.fr st.nt ρ a→BZ ρ k ro→
  (Code.region id all true).wpIn (FW ro) 0 P (QK P C ax Fs w0 n k ρ L) a w
def L5(P:Program)(C:Ctx)(ax:Value→List HP→Prop)(Fs:List HP)(w0:World)(n:Nat):Prop:=
 ∀ro g ps x y k st ρ L a w,VC P ax (run C n (.code (.rangeFunc g ps x y)::k) st) ρ L→HW Fs w0 st ρ w→HA st.fr st.nt ρ a→BZ ρ k ro→
  (Code.rangeFunc g ps x y).wpIn (FW ro) 0 P (QK P C ax Fs w0 n k ρ L) a w
theorem QK.here{n m:Nat}{k k':List KI}{ρ:Env}{L:Nat→LC}{e:Exit}{a:Act}{w:World}{st:St}(hm:m<n)(hk:resume e k=some k')
  (hv:VC P ax (run C m k' st) ρ L) (hw:HW Fs w0 st ρ w) (ha:HA st.fr st.nt ρ a):QK P C ax Fs w0 n k ρ L e a w:=
 ⟨k',hk,m,hm,st,ρ,L,Env.Le.refl _,fun _ _=>rfl,hw,ha,hv⟩
theorem HW.know{st:St}{ρ:Env}{w:World}(h:HW Fs w0 st ρ w){b:BE}(hb:b.prop ρ)(hs:b.sc st.aX=true):HW Fs w0 {st with known:=b::st.known} ρ w:=
 ⟨h.lens,h.j9,h.fy,by rw [List.all_cons,hs,h.mH];rfl,fun x hx=>(adW.1 hx).elim (fun e=>e▸hb) (h.kn x),h.own,h.same,h.kP⟩
theorem CW{c:cG}{b:BE}(h:b.sc c=true):(iO b).sc c=true:=by
 unfold iO;split
 ·rfl
 ·exact h
 ·exact h
theorem fg.le{ρ bE:Env}{c d:cG}(h:fg ρ c)(h':fg bE d)(hle:Env.Le ρ bE):c.le d:=by
 obtain⟨x,rfl⟩:=hle;constructor
 ·rw [←h.b,←h'.b];simp [Env.ext]
 ·rw [←h.v,←h'.v];simp [Env.ext]
 ·rw [←h.i,←h'.i];simp [Env.ext]
 ·rw [←h.a,←h'.a];simp [Env.ext]
 ·rw [←h.bo,←h'.bo];simp [Env.ext]
 ·rw [←h.p,←h'.p];simp [Env.ext]
 ·rw [←h.r,←h'.r];simp [Env.ext]
theorem vL{x y:List (Nat×SV)}{s:Nat}{v:SV}(h:look (x++y) s=some v):look x s=some v∨look y s=some v:=by
 induction x with
 | nil=>exact .inr h
 | cons t r ih=>
  obtain⟨q,u⟩:=t;have h':(if q==s then some u else look (r++y) s)=some v:=h;show(if q==s then some u else look r s)=some v∨look y s=some v;by_cases hq:(q==s)=true
  ·rw [if_pos hq]at h' ⊢;exact .inl h'
  ·rw [if_neg hq]at h' ⊢;exact ih h'
theorem lh{x:List (Nat×SV)}{f:Nat→Bool}{s:Nat}{v:SV}(h:look (x.filter fun y=>f y.1) s=some v):look x s=some v:=by
 induction x with
 | nil=>cases h
 | cons t r ih=>
  obtain⟨q,u⟩:=t;by_cases hf:f q=true
  ·rw [List.filter_cons_of_pos (by exact hf)]at h;unfold look at h ⊢;split at h
   ·rename_i hq;simp only [hq,if_true];exact h
   ·rename_i hq;simp only [hq];exact ih h
  ·rw [List.filter_cons_of_neg (by exact hf)]at h;have:=ih h;unfold look;split
   ·rename_i hq;rw [beq_iff_eq]at hq;subst hq;exfalso;apply hf;clear ih this
    induction r with
    | nil=>cases h
    | cons t' r' TL=>
     obtain⟨q',u'⟩:=t';by_cases Q0:f q'=true
     ·rw [List.filter_cons_of_pos (by exact Q0)]at h;unfold look at h;split at h
      ·rename_i ZX;rw [beq_iff_eq]at ZX;subst ZX;exact Q0
      ·exact TL h
     ·rw [List.filter_cons_of_neg (by exact Q0)]at h;exact TL h
   ·exact this
theorem ft.trans{c:cG}{a b d:Env}(h:ft c a b)(k:ft c b d):ft c a d:=
 ⟨fun i hi=>(h.b i hi).trans (k.b i hi),fun i hi=>(h.v i hi).trans (k.v i hi),fun i hi=>(h.i i hi).trans (k.i i hi),fun i hi=>(h.a i hi).trans (k.a i hi),fun i hi=>(h.bo i hi).trans (k.bo i hi),fun i hi=>(h.p i hi).trans (k.p i hi),fun i hi=>(h.r i hi).trans (k.r i hi),h.va.trans k.va⟩
theorem bG.front{a b Fs:List HP}{w:World}(h:bG (a++b++Fs) w):bG (a++Fs) w:=by
 refine h.ss (fun j=>if j<a.length then some j else some (j+b.length)) ?_ ?_
 ·intro j x hx;right;by_cases h1:j<a.length
  ·refine⟨j,by simp [h1],?_⟩;rw [adz h1]at hx;rw [List.append_assoc,adz h1];exact hx
  ·refine⟨j+b.length,by simp [h1],?_⟩;rw [adA (by omega)]at hx;rw [adA (by simp;omega),List.length_append,show j+b.length - (a.length+b.length)=j - a.length by omega];exact hx
 ·intro j j' i hj kz _ _;split at hj<;>split at kz<;>simp only [adv]at hj kz<;>omega
theorem mE{ρ bE:Env}: ∀{x y:List MK} {l:List eX},kK x y=some l→kD ρ bE l→marks ρ x=marks bE y
 | [],[],l,_,_=>rfl
 | .one b::r,.one b'::r',l,h,hl=>by
  simp only [kK,adw]at h;obtain⟨z,hz,rfl⟩:=h;have h1:=hl _ ady;simp only [eX.holds]at h1;have h2:=mE hz fun x hx=>hl x (adB _ hx)
  simp only [marks,List.flatMap_cons,List.map_append,MK.blocks,h1]at h2 ⊢;rw [h2]
 | .many b::r,.many b'::r',l,h,hl=>by
  simp only [kK,adw]at h;obtain⟨z,hz,rfl⟩:=h;have h1:=hl _ ady;simp only [eX.holds]at h1;have h2:=mE hz fun x hx=>hl x (adB _ hx)
  simp only [marks,List.flatMap_cons,List.map_append,MK.blocks,h1]at h2 ⊢;rw [h2]
 | [],.one _::_,_,h,_=>by cases h
 | [],.many _::_,_,h,_=>by cases h
 | .one _::_,[],_,h,_=>by cases h
 | .many _::_,[],_,h,_=>by cases h
 | .one _::_,.many _::_,_,h,_=>by cases h
 | .many _::_,.one _::_,_,h,_=>by cases h
theorem jh{st:St}{ρ qc H4:Env}{a:Act}{w:World}{c0:cG}{FQ:List (Nat×SV)}{kM:List Ck}{x y z:List eX}{nt wL:NT}
  (hw:HW Fs w0 st ρ w) (ha:HA st.fr nt ρ a) (h1:fg qc c0) (hle:Env.Le qc ρ) (VO:Env.Le qc H4)
  (hx:lO FQ st.fr=some x) (hy:lP kM st.hp=some y) (hz:kK wL.ds nt.ds=some z) (hn:wL.n=nt.n) (hh:kD H4 ρ ((x++y++z).filter fun q=> !q.trivial c0)):
  HA FQ wL H4 a∧bG (kM.map (Ck.den H4)++Fs) w:=by
 have dQ:ft c0 H4 ρ:=(Env.Le.agree h1 VO).symm.trans (Env.Le.agree h1 hle);obtain⟨TC,k3⟩:=(kD.all dQ hh).app;obtain⟨k1,k2⟩:=TC.app;refine⟨⟨ha.defers.trans (mE hz k3).symm,hn▸ha.size,fun s v hs=>?_⟩,?_⟩
 ·obtain⟨v',qt,he⟩:=mr hx k1 s v hs;rw [ha.aV s v' qt,he]
 ·obtain⟨more,hm⟩:=qI dQ.va hy k2;have:=hw.own;rw [hm]at this;exact this.front
theorem og{kL:St}{qc:Env}{w:World}{inc:cG}{e:Ext}{aV:List (Nat×SV)}{f:Nat→Bool}{kM:List Ck}{wL:NT}
  (h1:fg qc kL.aX) (he:e.Fits inc) (jT:kF (kL.aX.add inc) aV=true) (vW:kM.all (Ck.sc (kL.aX.add inc))=true) (jL:kF kL.aX kL.fr=true)
  (KW:wL.ds.all (MK.sc (kL.aX.add inc))=true) (m9:fE w0 w) (own:bG (kM.map (Ck.den (qc.ext e))++Fs) w):
  HW Fs w0 {kL with fr:=aV++kL.fr.filter (fun x=>f x.1),hp:=kM,aX:=kL.aX.add inc,known:=[],nt:=wL} (qc.ext e) w:=by
 refine⟨h1.ext he,?_,vW,rfl,fun b hb=>(by cases hb),own,m9,KW⟩;simp only [kF,List.all_append,ai];refine⟨jT,adt.2 fun x hx=>?_⟩;exact SV.bj (cG.jD _ _) (adt.1 jL x (adU.1 hx).1)
theorem kS{α:Type}(p:α→Bool)(e:α)(he:p e=true): ∀(use:List Nat) (hp new:List α),hp.all p=true→new.all p=true→(jY e hp use new).all p=true
 | [],hp,new,h1,h2=>by simp only [jY,List.all_append,h1,h2,Bool.and_self]
 | i::r,hp,c::cs,h1,h2=>by
  simp only [List.all_cons,ai]at h2;refine kS p e he r _ _ (adt.2 fun x hx=>?_) h2.2;rcases ad6 hx with hx | rfl
  ·exact adt.1 h1 x hx
  ·exact h2.1
 | i::r,hp,[],h1,h2=>by
  refine kS p e he r _ _ (adt.2 fun x hx=>?_) h2;rcases ad6 hx with hx | rfl
  ·exact adt.1 h1 x hx
  ·exact he
theorem At.gh{n:Nat}{g:St→Option nm}{k:List KI}{ρ:Env}{L:Nat→LC}{a:Act}{w:World}(h:At P C ax Fs w0 n (.gh g::k) ρ L a w):At P C ax Fs w0 n k ρ L a w:=by
 obtain⟨m,hm,st,bE,L',h1,h2,h3,h4,h5⟩:=h
 induction m generalizing st with
 | zero=>exact h5.elim
 | succ m ih=>
  simp only [run]at h5;split at h5
  ·exact⟨m,by omega,st,bE,L',h1,h2,h3,h4,h5⟩
  ·rename_i s hs;split at h5
   ·rename_i b hb;split at h5
    case isFalse=>exact h5.elim
    rename_i iA;simp only [VC,aZ]at h5;cases hd:b.den bE with
    | true=>
     have hp:=(BE.bX bE b).1 hd;exact ih (by omega) _ (h3.know hp iA) h4 (h5.1 hp)
    | false=>
     have hp: ¬b.prop bE:=fun h=>by rw [←BE.bX,hd]at h;cases h
     have kM:(iO b).prop bE:=by rw [←BE.bX,cX,hd];rfl
     exact ih (by omega) _ (h3.know kM (CW iA)) h4 (h5.2 hp)
   rename_i hsp;split at h5
   ·rename_i idx acB;split at h5
    case isFalse=>exact h5.elim
    rename_i hc;rw [ai,decide_eq_true_eq]at hc;obtain⟨bP,fQ⟩:=hc;have bP: ∀i∈idx,i<st.hp.length:=fun i hi=>by simpa [adK] using adt.1 bP i hi
    refine⟨m,by omega,{st with hp:=idx.map fun i=>st.hp.getD i .emp},bE,L',h1,h2,⟨h3.lens,h3.j9,?_,h3.mH,h3.kn,?_,h3.same,h3.kP⟩,h4,h5⟩
    ·refine adt.2 fun x hx=>?_
     obtain⟨i,hi,rfl⟩:=List.mem_map.1 hx;have hl:=bP i hi;rw [List.getD_eq_getElem?_getD,ad8 hl];exact adt.1 h3.fy _ (List.getElem_mem hl)
    ·refine h3.own.pick (idx++(List.range Fs.length).map (st.hp.length+ ·)) _ ?_ ?_
     ·refine List.nodup_append.2 ⟨fQ,?_,?_⟩
      ·exact List.Pairwise.map _ (fun a b h=>by omega) List.nodup_range
      ·intro x hx y hy;have:=bP x hx;obtain⟨q,_,rfl⟩:=List.mem_map.1 hy;omega
     ·intro j;by_cases hj:j<idx.length
      ·have hl:=bP idx[j] (List.getElem_mem hj);have e1:(((idx.map fun i=>st.hp.getD i .emp).map (Ck.den bE))++Fs)[j]? =some ((st.hp[idx[j]]).den bE):=by
        rw [adz (by simpa using hj)];simp [hj,hl]
       have e2:(st.hp.map (Ck.den bE)++Fs)[idx[j]]? =some ((st.hp[idx[j]]).den bE):=by
        rw [adz (by simpa using hl)];simp [hl]
       rw [e1,adz hj,ad8 hj,Option.bind_some,e2]
      ·rw [adA (by simpa using hj),adA (by omega)];simp only [List.length_map,List.getElem?_map];by_cases hq:j - idx.length<Fs.length
       ·rw [List.getElem?_range hq,Option.map_some,Option.bind_some,adA (by simp)];simp
       ·rw [aef (by omega),aef (by simpa using hq)];simp
   split at h5
   case h_2=>exact h5.elim
   rename_i eqs heq;split at h5
   case isFalse=>exact h5.elim
   rename_i iA;simp only [ai,decide_eq_true_eq]at iA;obtain⟨⟨⟨jT,vW⟩,jL⟩,zO⟩:=iA;have bP: ∀i∈s.use,i<st.hp.length:=fun i hi=>by simpa [adK] using adt.1 jL i hi
   simp only [VC]at h5;obtain⟨I,hI,hr⟩:=h5;rw [nR]at hr;have cr:=bG.sv (acc:=[]) (use:=s.use) (by simpa using h3.own) zO (by simpa using bP);have Hy:(s.use.map fun i=>st.hp.getD i .emp).map (Ck.den bE)=s.use.map (fun i=>(st.hp.map (Ck.den bE)).getD i HP.emp):=by
    rw [List.map_map];refine List.map_congr_left fun i hi=>?_
    have:=bP i hi;simp [this]
   rw [List.nil_append,←Hy]at cr;have hx:=hI _ _ cr;rw [jB]at hx;obtain⟨e,hf,hq⟩:=hx;rw [sq]at hq;obtain⟨hh,y8,YU⟩:=hq;have hle:=Env.fG bE e;have dQ:=Env.Le.agree h3.lens hle;refine⟨m,by omega,_,bE.ext e,L',h1.trans hle,h2,?_,?_,hr e hf YU⟩
   ·refine⟨h3.lens.ext hf,?_,?_,er (cG.jD _ _) h3.mH,fun b hb=>?_,?_,h3.same,cP (cG.jD _ _) h3.kP⟩
    ·simp only [kF,List.all_append,ai];refine⟨jT,adt.2 fun x hx=>?_⟩;exact SV.bj (cG.jD _ _) (adt.1 h3.j9 x (adU.1 hx).1)
    ·exact kS _ _ rfl _ _ _ (g9 (cG.jD _ _) h3.fy) vW
    ·exact(BE.fL dQ (adt.1 h3.mH b hb)).1 (h3.kn b hb)
    ·have h1:=bG.ko (use:=s.use) y8 (fun i hi=>by rw [kE];simpa using bP i hi) fun _ _=> .inr trivial
     rw [←iq _ _ _ zO,jA dQ h3.fy]at h1;simp only [eP];rw [kO];exact h1
   ·have hm:=h4.more h3.j9 h3.kP dQ;refine⟨hm.defers,hm.size,fun x v hx=>?_⟩;rcases vL hx with hx | hx
    ·obtain⟨v',qt,he⟩:=mr heq hh x v hx;rw [h4.aV x v' qt,he]
    ·have:=lh (f:=fun q=> !(s.aV.any fun y=>y.1==q)) hx;exact hm.aV x v this
theorem QK.gh{n:Nat}{g:St→Option nm}{k:List KI}{ρ:Env}{L:Nat→LC}{e:Exit}{a:Act}{w:World}(h:QK P C ax Fs w0 n (.gh g::k) ρ L e a w):QK P C ax Fs w0 n k ρ L e a w:=by
 cases e with
 | normal=>
  obtain⟨k',hk,dD⟩:=h;cases hk;exact⟨k,rfl,dD.gh⟩
 | exit id=>exact QK.move (k:=k) h rfl fun _ _=>rfl
 | ret=>exact QK.move (k:=k) h rfl fun _ _=>rfl
 | goto l=>obtain⟨k',hk,_⟩:=h;cases hk
 | panic l=>obtain⟨k',hk,_⟩:=h;cases hk
 | outgrown=>obtain⟨k',hk,_⟩:=h;cases hk
theorem vM{F:Fence}{n:Nat}{c:Code}{Q:Exit→Act→World→Prop}: ∀{m m':Nat} {a:Act} {w:World},m≤m'→Code.roundsIn F n P c Q m a w→Code.roundsIn F n P c Q m' a w
 | 0,_,_,_,_,h=>h.elim
 | m+1,0,_,_,hm,_=>absurd hm (by omega)
 | m+1,m'+1,a,w,hm,h=>by
  refine wpIn_mono (show c.wpIn F n P (Exit.then (Code.roundsIn F n P c Q m) Q) a w from h) fun e a w hq=>?_
  cases e with
  | normal=>exact vM (by omega) hq
  | _=>exact hq
theorem NG{N:Nat}{ro:Option Nat}{body:Code}{k:List KI}{ρ:Env}{L:Nat→LC}(u7: ∀m,m<N→pk P C ax Fs w0 m): ∀(n:Nat),n<N→∀(st:St) (bE:Env) (L':Nat→LC) (a:Act) (w:World),
  VC P ax (run C n (.code body:: .again body::k) st) bE L'→Env.Le ρ bE→(∀j,j<nl k→L' j=L j)→HW Fs w0 st bE w→HA st.fr st.nt bE a→BZ bE k ro→Code.roundsIn (FW ro) 0 P body (QK P C ax Fs w0 N k ρ L) (n+1) a w:=by
 intro n
 induction n using Nat.strongRecOn with
 | _ n ih=>
  intro hn st bE L' a w hv hle hL hw ha hk;refine wpIn_mono (u7 n hn ro body (.again body::k) st bE L' a w hv hw ha (hk.push rfl)) ?_;intro e a' w' hq;cases e with
  | normal=>
   obtain⟨k',yx,m,hm,Eg,H4,L2,h1,h2,h3,h4,h5⟩:=hq;cases yx;cases m with
   | zero=>exact h5.elim
   | succ m=>
    have:=ih m (by omega) (by omega) Eg H4 L2 a' w' h5 (hle.trans h1) (fun j hj=>(h2 j hj).trans (hL j hj)) h3 h4 (hk.le h1);exact vM (by omega) this
  | exit id=>exact(QK.move (k:=k) hq rfl fun _ _=>rfl).mono (by omega) hle hL
  | ret=>exact(QK.move (k:=k) hq rfl fun _ _=>rfl).mono (by omega) hle hL
  | goto l=>obtain⟨k',hk,_⟩:=hq;cases hk
  | panic l=>obtain⟨k',hk,_⟩:=hq;cases hk
  | outgrown=>obtain⟨k',hk,_⟩:=hq;cases hk
theorem En(_:bC P C.T=true){n:Nat}(u7: ∀m,m<n→pk P C ax Fs w0 m)(KV: ∀m,m<n→rm P C ax Fs w0 m)(YV: ∀m,m<n→Gy P C ax Fs w0 m)(IHr:L5 P C ax Fs w0 n):pk P C ax Fs w0 n:=by
 intro ro c k st ρ L a w hv hw ha fh;cases n with
 | zero=>exact hv.elim
 | succ n=>
  have hn:n<n+1:=Nat.lt_succ_self n;cases c with
  | skip=>exact wpIn_skip (QK.here hn rfl hv hw ha)
  | label l=>exact wpIn_label (QK.here hn rfl hv hw ha)
  | seq x y=>
   refine wpIn_seq (wpIn_mono (u7 n hn ro x (.code y::k) st ρ L a w hv hw ha (fh.push rfl)) ?_);intro e a' w' hq;cases e with
   | normal=>
    obtain⟨k',hk,m,hm,cT,bE,L',h1,h2,h3,h4,h5⟩:=hq;cases hk;refine wpIn_mono (u7 m (by omega) ro y k cT bE L' a' w' h5 h3 h4 (fh.le h1)) fun e a w hq=>?_
    exact hq.mono (by omega) h1 h2
   | exit id=>exact(QK.move (k:=k) hq rfl fun _ _=>rfl).mono (aec n) (Env.Le.refl _) fun _ _=>rfl
   | ret=>exact(QK.move (k:=k) hq rfl fun _ _=>rfl).mono (aec n) (Env.Le.refl _) fun _ _=>rfl
   | goto l=>obtain⟨k',hk,_⟩:=hq;cases hk
   | panic l=>obtain⟨k',hk,_⟩:=hq;cases hk
   | outgrown=>obtain⟨k',hk,_⟩:=hq;cases hk
  | cond x t e=>
   simp only [run]at hv;have up: ∀{e:Exit} {a:Act} {w:World},QK P C ax Fs w0 n k ρ L e a w→QK P C ax Fs w0 (n+1) k ρ L e a w:=fun hq=>hq.mono (aec n) (Env.Le.refl _) fun _ _=>rfl
   split at hv
   ·rename_i hc;have:=oe ha hw.kn hc;exact wpIn_cond_true this (wpIn_mono (u7 n hn ro t k st ρ L a w hv hw ha fh) fun e a w hq=>up hq)
   ·rename_i hc;have:=oe ha hw.kn hc;exact wpIn_cond_false this (wpIn_mono (u7 n hn ro e k st ρ L a w hv hw ha fh) fun e a w hq=>up hq)
   ·rename_i b _ _ hc;have hb:=oe ha hw.kn hc;split at hv
    ·rename_i iA;simp only [VC,aZ]at hv;cases hd:b.den ρ with
     | true=>
      have hp:=(BE.bX ρ b).1 hd;exact wpIn_cond_true (by rw [hb,hd]) (wpIn_mono (u7 n hn ro t k _ ρ L a w (hv.1 hp) (hw.know hp iA) ha fh) fun e a w hq=>up hq)
     | false=>
      have hp: ¬b.prop ρ:=fun h=>by rw [←BE.bX,hd]at h;cases h
      have kM:(iO b).prop ρ:=by rw [←BE.bX,cX,hd];rfl
      exact wpIn_cond_false (by rw [hb,hd]) (wpIn_mono (u7 n hn ro e k _ ρ L a w (hv.2 hp) (hw.know kM (CW iA)) ha fh) fun e a w hq=>up hq)
    ·exact hv.elim
   ·exact hv.elim
  | block id b=>
   simp only [run]at hv;split at hv;rotate_left
   ·rename_i ja SQ;split at hv
    case isFalse=>exact hv.elim
    rename_i iA;simp only [ai]at iA;obtain⟨⟨⟨jT,vW⟩,jL⟩,zO⟩:=iA;simp only [VC]at hv;obtain⟨I,sQ,xA⟩:=hv;rw [nR]at xA;have I2: ∀(m:Nat) (cT:St) (bE:Env) (L':Nat→LC) (a':Act) (w':World),m≤n→Env.Le ρ bE→(∀j,j<nl k+1→L' j=tx L (nl k) ⟨I,fun _=>0,⟨[],[],[],[],[],[],[]⟩⟩ j)→
      HW Fs w0 cT bE w'→HA cT.fr cT.nt bE a'→
      VC P ax (run C m (.jn (some id) (nl k) {st.nt with ds:=ja.ds st.aX st.nt.ds} st.aX ja.inc (ja.aV st.aX++st.fr.filter fun x=> !((writes b).contains x.1)&& !((ja.aV st.aX).any fun y=>y.1==x.1)) (ja.hp st.aX st.hp) ja.pre::k) cT) bE L'→
      QK P C ax Fs w0 (n+1) k ρ L .normal a' w':=by
     intro m cT bE L' a' w' hm hle hL g3 g4 g5;cases m with
     | zero=>exact g5.elim
     | succ m=>
      simp only [run]at g5;split at g5
      ·exact g5.elim
      rename_i ZY ZZ FG;obtain⟨YW,NH,g3,g4,V2,g5⟩:=jg FG g3 g4 g5;have hle:=hle.trans NH;split at g5
      ·rename_i x' y' z' Rb Tq Gf;split at g5
       ·exact g5.elim
       ·rename_i zE;simp only [bne_iff_ne,ne_eq,Decidable.not_not]at zE;simp only [VC]at g5;rw [jB]at g5;obtain⟨e2,Rs,Ru⟩:=g5;rw [Env.Le.take hw.lens hle,sq]at Ru;obtain⟨V3,Od⟩:=Ru;have YX:(L' (nl k)).I=I:=by
         rw [hL _ (by omega)];simp [tx]
        rw [YX]at Od;obtain⟨r1,r2⟩:=jh (wL:={st.nt with ds:=ja.ds st.aX st.nt.ds}) g3 g4 hw.lens hle (Env.fG ρ e2) Rb Tq Gf zE.symm V3;refine⟨k,rfl,n,by omega,_,ρ.ext e2,L,Env.fG ρ e2,fun _ _=>rfl,?_,r1,xA e2 Rs Od⟩;exact og (f:=fun q=> !((writes b).contains q)&& !((ja.aV st.aX).any fun y=>y.1==q)) hw.lens Rs jT vW hw.j9 zO g3.same r2
      ·exact g5.elim
      ·exact g5.elim
      ·exact g5.elim
    refine wpIn_block (wpIn_mono (u7 n hn ro b _ st ρ _ a w sQ hw ha (fh.push rfl)) ?_);intro e a' w' hq;cases e with
    | normal=>
     obtain⟨k',hk,m,hm,cT,bE,L',h1,h2,h3,h4,h5⟩:=hq;cases hk;exact I2 m cT bE L' a' w' (Nat.le_of_lt hm) h1 h2 h3 h4 h5
    | exit YY=>
     simp only [Exit.inBlock];split
     ·rename_i he;subst he;obtain⟨k',hk,m,hm,cT,bE,L',h1,h2,h3,h4,h5⟩:=hq;simp only [resume,cS,beq_self_eq_true,if_true,adv]at hk;subst hk;exact I2 m cT bE L' a' w' (Nat.le_of_lt hm) h1 h2 h3 h4 h5
     ·rename_i he;refine(QK.move (k:=k) (L:=L) hq ?_ fun j hj=>?_).mono (aec n) (Env.Le.refl _) fun _ _=>rfl
      ·simp only [resume,cS];rw [if_neg (by simpa using Ne.symm he)]
      ·simp only [tx];rw [if_neg (by omega)]
    | ret=>
     refine(QK.move (k:=k) (L:=L) hq rfl fun j hj=>?_).mono (aec n) (Env.Le.refl _) fun _ _=>rfl
     simp only [tx];rw [if_neg (by omega)]
    | goto l=>obtain⟨k',hk,_⟩:=hq;cases hk
    | panic l=>obtain⟨k',hk,_⟩:=hq;cases hk
    | outgrown=>obtain⟨k',hk,_⟩:=hq;cases hk
   refine wpIn_block (wpIn_mono (u7 n hn ro b (.ky id::k) st ρ L a w hv hw ha (fh.push rfl)) ?_);intro e a' w' hq;cases e with
   | normal=>
    obtain⟨k',hk,m,hm,cT,bE,L',h1,h2,h3,h4,h5⟩:=hq;cases hk;cases m with
    | zero=>exact h5.elim
    | succ m=>exact⟨k,rfl,m,by omega,cT,bE,L',h1,h2,h3,h4,h5⟩
   | exit YY=>
    simp only [Exit.inBlock];split
    ·rename_i he;subst he;obtain⟨k',hk,m,hm,cT,bE,L',h1,h2,h3,h4,h5⟩:=hq;simp only [resume,cS,beq_self_eq_true,if_true,adv]at hk;subst hk;exact⟨k,rfl,m,by omega,cT,bE,L',h1,h2,h3,h4,h5⟩
    ·rename_i he;refine(QK.move (k:=k) hq ?_ fun _ _=>rfl).mono (aec n) (Env.Le.refl _) fun _ _=>rfl
     simp only [resume,cS];rw [if_neg (by simpa using Ne.symm he)]
   | ret=>exact(QK.move (k:=k) hq rfl fun _ _=>rfl).mono (aec n) (Env.Le.refl _) fun _ _=>rfl
   | goto l=>obtain⟨k',hk,_⟩:=hq;cases hk
   | panic l=>obtain⟨k',hk,_⟩:=hq;cases hk
   | outgrown=>obtain⟨k',hk,_⟩:=hq;cases hk
  | loop body=>
   simp only [run]at hv;split at hv
   ·rename_i id k0;split at hv
    ·exact wpIn_loop_rounds _ (NG u7 n hn st ρ L a w hv (Env.Le.refl _) (fun _ _=>rfl) hw ha fh)
    ·rename_i la hla;split at hv
     ·exact hv.elim
     ·rename_i kL nn ke;obtain⟨qc,Nv,wv,GC,WL,uU⟩:=jg ke hw ha hv;split at uU
      ·rename_i x y z hx hy hz;split at uU
       ·rename_i iA;simp only [ai]at iA;obtain⟨⟨⟨jT,vW⟩,jL⟩,zO⟩:=iA;simp only [VC]at uU;obtain⟨I,μ,NI,NJ⟩:=uU;rw [jB]at NI;rw [nR]at NJ;obtain⟨e0,Z1,Z2⟩:=NI;rw [sq]at Z2;obtain⟨hh0,hI0⟩:=Z2;obtain⟨q1,q2⟩:=jh (wL:={kL.nt with ds:=la.ds kL.aX kL.nt.ds}) wv GC wv.lens (Env.Le.refl _) (Env.fG qc e0) hx hy hz rfl hh0;refine wpIn_loop_ghost (fun n' a w=> ∃e:Ext,e.Fits la.inc∧I e∧μ e=n'∧HW Fs w0
          {kL with fr:=la.aV kL.aX++kL.fr.filter (fun x=> !((writes body).contains x.1)&& !((la.aV kL.aX).any fun y=>y.1==x.1)),hp:=la.hp kL.aX kL.hp,aX:=kL.aX.add la.inc,known:=[],nt:={kL.nt with ds:=la.ds kL.aX kL.nt.ds}} (qc.ext e) w∧
          HA (la.aV kL.aX++kL.fr.filter (fun x=> !((writes body).contains x.1)&& !((la.aV kL.aX).any fun y=>y.1==x.1))) {kL.nt with ds:=la.ds kL.aX kL.nt.ds} (qc.ext e) a) (μ e0) ⟨e0,Z1,hI0,rfl,?_,?_⟩ ?_
        ·exact og (f:=fun q=> !((writes body).contains q)&& !((la.aV kL.aX).any fun y=>y.1==q)) wv.lens Z1 jT vW wv.j9 zO wv.same q2
        ·refine⟨q1.defers,q1.size,fun s v hs=>?_⟩;rcases vL hs with hs | hs
         ·exact q1.aV s v hs
         ·have:=lh (f:=fun q=> !((writes body).contains q)&& !((la.aV kL.aX).any fun y=>y.1==q)) hs;rw [GC.aV s v this];exact(SV.tM (Env.Le.agree wv.lens (Env.fG qc e0)) (BW wv.j9 this)).1
        ·intro n' a2 w2 Od;obtain⟨e,he,YU,hμ,Ei,TN⟩:=Od;subst hμ;have hvb:=NJ e he YU;refine wpIn_mono (u7 n hn ro body _ _ _ _ a2 w2 hvb Ei TN ((fh.le (Nv.trans (Env.fG qc e))).push rfl)) ?_;intro ex a3 w3 hq;cases ex with
         | normal=>
          obtain⟨k',hk,m,hm,cT,bE,L',g1,g2,g3,g4,g5⟩:=hq;cases hk;cases m with
          | zero=>exact g5.elim
          | succ m=>
           simp only [run]at g5;split at g5
           ·exact g5.elim
           rename_i ZY ZZ FG;obtain⟨YW,NH,g3,g4,V2,g5⟩:=jg FG g3 g4 g5;have g1:=g1.trans NH;split at g5
           ·rename_i x' y' z' Rb Tq Gf;split at g5
            ·exact g5.elim
            ·rename_i zE;simp only [bne_iff_ne,ne_eq,Decidable.not_not]at zE;simp only [VC]at g5;rw [jB]at g5;obtain⟨e2,Rs,Ru⟩:=g5;have KF:Env.Le qc YW:=(Env.fG qc e).trans g1;rw [Env.Le.take wv.lens KF,sq]at Ru;obtain⟨V3,Od,V4⟩:=Ru;have hL:L' (nl (.ky id::k0))=⟨I,μ,e⟩:=by
              rw [g2 _ (by simp [nl])];simp [tx]
             rw [hL]at Od V4;obtain⟨r1,r2⟩:=jh (wL:={kL.nt with ds:=la.ds kL.aX kL.nt.ds}) g3 g4 wv.lens KF (Env.fG qc e2) Rb Tq Gf zE.symm V3;refine⟨μ e2,V4,e2,Rs,Od,rfl,?_,r1⟩;exact og (f:=fun q=> !((writes body).contains q)&& !((la.aV kL.aX).any fun y=>y.1==q)) wv.lens Rs jT vW wv.j9 zO g3.same r2
           ·exact g5.elim
           ·exact g5.elim
         | exit YY=>
          refine(QK.move (k:= .ky id::k0) (L:=L) hq rfl ?_).mono (aec n) (Nv.trans (Env.fG qc e)) fun _ _=>rfl
          intro j hj;simp only [tx];rw [if_neg (by omega)]
         | ret=>
          refine(QK.move (k:= .ky id::k0) (L:=L) hq rfl ?_).mono (aec n) (Nv.trans (Env.fG qc e)) fun _ _=>rfl
          intro j hj;simp only [tx];rw [if_neg (by omega)]
         | goto l=>obtain⟨k',hk,_⟩:=hq;cases hk
         | panic l=>obtain⟨k',hk,_⟩:=hq;cases hk
         | outgrown=>obtain⟨k',hk,_⟩:=hq;cases hk
       ·exact uU.elim
      ·exact uU.elim
   ·exact wpIn_loop_rounds _ (NG u7 n hn st ρ L a w hv (Env.Le.refl _) (fun _ _=>rfl) hw ha fh)
  | exit id=>
   simp only [run]at hv;split at hv
   ·rename_i k' hk;exact wpIn_exit (QK.here hn hk hv hw ha)
   ·exact hv.elim
  | ret=>
   simp only [run]at hv;split at hv
   ·rename_i k' hk;exact wpIn_ret (QK.here hn hk hv hw ha)
   ·exact hv.elim
  | region id ops draw=>
   cases draw with
   | false=>
    simp only [run]at hv;split at hv
    ·exact wpIn_region_list (eD (fun e a w hq=>hq.mono (aec n) (Env.Le.refl _) fun _ _=>rfl) (KV n hn ro ops ops.toList k st ρ L a w hv hw ha fh))
    ·exact wpIn_region_list (eD (fun e a w hq=>hq.gh.mono (aec n) (Env.Le.refl _) fun _ _=>rfl) (KV n hn ro ops ops.toList _ st ρ L a w hv hw ha (fh.push rfl)))
   | true=>
    simp only [run]at hv;split at hv
    ·rename_i hc;simp only [ai]at hc;split at hv
     ·rename_i ja SQ;split at hv
      case isFalse=>exact hv.elim
      rename_i iA;simp only [ai]at iA;obtain⟨⟨⟨jT,vW⟩,jL⟩,zO⟩:=iA;simp only [VC]at hv;obtain⟨I,sQ,xA⟩:=hv;rw [nR]at xA;have I2: ∀(m:Nat) (cT:St) (bE:Env) (L':Nat→LC) (a':Act) (w':World),m≤n→Env.Le ρ bE→(∀j,j<nl k+1→L' j=tx L (nl k) ⟨I,fun _=>0,⟨[],[],[],[],[],[],[]⟩⟩ j)→
        HW Fs w0 cT bE w'→HA cT.fr cT.nt bE a'→
        VC P ax (run C m (.jn none (nl k) {st.nt with ds:=ja.ds st.aX st.nt.ds} st.aX ja.inc (ja.aV st.aX++st.fr.filter fun x=> !((writes (.region id ops true)).contains x.1)&& !((ja.aV st.aX).any fun y=>y.1==x.1)) (ja.hp st.aX st.hp) ja.pre::k) cT) bE L'→
        QK P C ax Fs w0 (n+1) k ρ L .normal a' w':=by
       intro m cT bE L' a' w' hm hle hL g3 g4 g5;cases m with
       | zero=>exact g5.elim
       | succ m=>
        simp only [run]at g5;split at g5
        ·exact g5.elim
        rename_i ZY ZZ FG;obtain⟨YW,NH,g3,g4,V2,g5⟩:=jg FG g3 g4 g5;have hle:=hle.trans NH;split at g5
        ·rename_i x' y' z' Rb Tq Gf;split at g5
         ·exact g5.elim
         ·rename_i zE;simp only [bne_iff_ne,ne_eq,Decidable.not_not]at zE;simp only [VC]at g5;rw [jB]at g5;obtain⟨e2,Rs,Ru⟩:=g5;rw [Env.Le.take hw.lens hle,sq]at Ru;obtain⟨V3,Od⟩:=Ru;have YX:(L' (nl k)).I=I:=by
           rw [hL _ (by omega)];simp [tx]
          rw [YX]at Od;obtain⟨r1,r2⟩:=jh (wL:={st.nt with ds:=ja.ds st.aX st.nt.ds}) g3 g4 hw.lens hle (Env.fG ρ e2) Rb Tq Gf zE.symm V3;refine⟨k,rfl,n,by omega,_,ρ.ext e2,L,Env.fG ρ e2,fun _ _=>rfl,?_,r1,xA e2 Rs Od⟩;exact og (f:=fun q=> !((writes (.region id ops true)).contains q)&& !((ja.aV st.aX).any fun y=>y.1==q)) hw.lens Rs jT vW hw.j9 zO g3.same r2
        ·exact g5.elim
        ·exact g5.elim
        ·exact g5.elim
      refine wpIn_mono (YV n hn ro id ops _ _ st ρ _ a w sQ hc.1 hc.2 hw ha ((fh.push rfl).push rfl)) ?_;intro e a' w' hq;have hq:=hq.gh;cases e with
      | normal=>
       obtain⟨k',hk,m,hm,cT,bE,L',h1,h2,h3,h4,h5⟩:=hq;cases hk;exact I2 m cT bE L' a' w' (Nat.le_of_lt hm) h1 h2 h3 h4 h5
      | exit YY=>
       refine(QK.move (k:=k) (L:=L) hq rfl fun j hj=>?_).mono (aec n) (Env.Le.refl _) fun _ _=>rfl
       simp only [tx];rw [if_neg (by omega)]
      | ret=>
       refine(QK.move (k:=k) (L:=L) hq rfl fun j hj=>?_).mono (aec n) (Env.Le.refl _) fun _ _=>rfl
       simp only [tx];rw [if_neg (by omega)]
      | goto l=>obtain⟨k',hk,_⟩:=hq;cases hk
      | panic l=>obtain⟨k',hk,_⟩:=hq;cases hk
      | outgrown=>obtain⟨k',hk,_⟩:=hq;cases hk
     split at hv
     ·exact wpIn_mono (YV n hn ro id ops _ k st ρ L a w hv hc.1 hc.2 hw ha fh) fun e a w hq=>hq.mono (aec n) (Env.Le.refl _) fun _ _=>rfl
     ·exact wpIn_mono (YV n hn ro id ops _ _ st ρ L a w hv hc.1 hc.2 hw ha (fh.push rfl)) fun e a w hq=>hq.gh.mono (aec n) (Env.Le.refl _) fun _ _=>rfl
    ·exact hv.elim
  | rangeFunc f ps x y=>exact IHr ro f ps x y k st ρ L a w hv hw ha fh
  | scope x=>exact hv.elim
  | goto l=>exact hv.elim
  | refuse y=>exact hv.elim
end
end Go.RX
