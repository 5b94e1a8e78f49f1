/- Executor. -/
import Derived.Test.YtmgbbbmdbpbeeaaGreatRxW
import Derived.LoopNIn
open Bool renaming and_eq_true → ai
open List renaming all_eq_true → aeT, getElem?_append_left → ae1, getElem?_append_right → ae2, getElem?_eq_getElem → afA, getElem?_eq_none → afz, mem_cons → afd, mem_cons_of_mem → ae4, mem_cons_self → aeZ, mem_filter → afk, mem_or_eq_of_mem_set → afv
open Nat renaming blt_eq → afb, le_succ → afE
open Option renaming map_eq_some_iff → aeY
open Option.some renaming injEq → aeX
namespace Go.RX
section
variable {P:Program} {C:Ctx} {ar:Value→List HP→Prop} {Fs:List HP} {w0:World}
structure BA (ρ:Env) (k:List KI) (ro:Option Nat):Prop where
 rf: ∀l r fn nt fr ps x y fd,KI.rf l r fn nt fr ps x y fd∈k→∃ve c0,fJ ve c0∧Env.Le ve ρ∧kH c0 fr=true∧r<c0.r∧(ve.lr.getD r gW).params=ps∧(ve.lr.getD r gW).assign=x∧
  (ve.lr.getD r gW).body=y∧HA fr ⟨nt.n,[]⟩ ve {tmps:=(ve.lr.getD r gW).tmps,defers:=[]}
 ro:match yD k with
  | none=>ro=none
  | some l=> ∃ve c0,fJ ve c0∧Env.Le ve ρ∧l<c0.b∧ro=some (ve.bv.getD l 0)
theorem BA.le{ρ bI:Env}{k:List KI}{ro:Option Nat}(h:BA ρ k ro)(hle:Env.Le ρ bI):BA bI k ro:=by
 refine⟨fun l r fn nt fr ps x y fd hm=>?_,?_⟩
 ·obtain⟨ve,c0,h1,h2,h3⟩:=h.rf l r fn nt fr ps x y fd hm;exact⟨ve,c0,h1,h2.trans hle,h3⟩
 ·have:=h.ro;split at this
  ·exact this
  ·obtain⟨ve,c0,h1,h2,h3⟩:=this;exact⟨ve,c0,h1,h2.trans hle,h3⟩
def KI.inner:KI→Bool
 | .code _=>true
 | .ops .. =>true
 | .rC .. =>true
 | .MA .. =>true
 | .mR _=>true
 | .again _=>true
 | .loop .. =>true
 | .jn .. =>true
 | .gh _=>true
 | _=>false
theorem BA.push{ρ:Env}{k:List KI}{ro:Option Nat}(h:BA ρ k ro){x:KI}(hx:x.inner=true):BA ρ (x::k) ro:=by
 have ha:yD (x::k)=yD k:=by cases x<;>first | rfl | (simp [KI.inner]at hx;done)
 refine⟨fun l r fn nt fr ps a b fd hm=>?_,by rw [ha];exact h.ro⟩;rcases afd.1 hm with rfl | hm
 ·simp [KI.inner]at hx
 ·exact h.rf l r fn nt fr ps a b fd hm
def pC(P:Program)(C:Ctx)(ar:Value→List HP→Prop)(Fs:List HP)(w0:World)(n:Nat):Prop:=
 ∀ro c k st ρ L a w,VC P ar (run C n (.code c::k) st) ρ L→HW Fs w0 st ρ w→HA st.fr st.nt ρ a→BA ρ k ro→c.wpIn (FW ro) 0 P (QK P C ar Fs w0 n k ρ L) a w
def rD(P:Program)(C:Ctx)(ar:Value→List HP→Prop)(Fs:List HP)(w0:World)(n:Nat):Prop:=
 ∀ro all r k st ρ L a w,VC P ar (run C n (.ops all r::k) st) ρ L→HW Fs w0 st ρ w→HA st.fr st.nt ρ a→BA ρ k ro→wpListIn (FW ro) 0 P all (QK P C ar Fs w0 n k ρ L) r a w
def Gk(P:Program)(C:Ctx)(ar:Value→List HP→Prop)(Fs:List HP)(w0:World)(n:Nat):Prop:=
 ∀ro id all pm k st ρ L a w,VC P ar (run C n (.rC all pm (List.range all.size) 0 []::k) st) ρ L→j4 all pm=true→xU all pm=true→HW Fs w0 st ρ w→HA st.fr st.nt ρ a→BA ρ k ro→
  (Code.region id all true).wpIn (FW ro) 0 P (QK P C ar Fs w0 n k ρ L) a w
def MI(P:Program)(C:Ctx)(ar:Value→List HP→Prop)(Fs:List HP)(w0:World)(n:Nat):Prop:=
 ∀ro g ps x y k st ρ L a w,VC P ar (run C n (.code (.rangeFunc g ps x y)::k) st) ρ L→HW Fs w0 st ρ w→HA st.fr st.nt ρ a→BA ρ k ro→
  (Code.rangeFunc g ps x y).wpIn (FW ro) 0 P (QK P C ar Fs w0 n k ρ L) a w
theorem QK.here{n m:Nat}{k k':List KI}{ρ:Env}{L:Nat→LC}{e:Exit}{a:Act}{w:World}{st:St}(hm:m<n)(hk:resume e k=some k')
  (hv:VC P ar (run C m k' st) ρ L) (hw:HW Fs w0 st ρ w) (ha:HA st.fr st.nt ρ a):QK P C ar Fs w0 n k ρ L e a w:=
 ⟨k',hk,m,hm,st,ρ,L,Env.Le.refl _,fun _ _=>rfl,hw,ha,hv⟩
theorem HW.know{st:St}{ρ:Env}{w:World}(h:HW Fs w0 st ρ w){b:BE}(hb:b.prop ρ)(hs:b.sc st.bd=true):HW Fs w0 {st with known:=b::st.known} ρ w:=
 ⟨h.lens,h.kd,h.fm,by rw [List.all_cons,hs,h.mL];rfl,fun x hx=>(afd.1 hx).elim (fun e=>e▸hb) (h.kn x),h.own,h.same,h.kS⟩
theorem CG{c:cP}{b:BE}(h:b.sc c=true):(iZ b).sc c=true:=by
 unfold iZ;split
 ·rfl
 ·exact h
 ·exact h
theorem fJ.le{ρ bI:Env}{c d:cP}(h:fJ ρ c)(h':fJ bI d)(hle:Env.Le ρ bI):c.le d:=by
 obtain⟨x,rfl⟩:=hle;constructor
 ·rw [←h.b,←h'.b];simp [Env.ext]
 ·rw [←h.v,←h'.v];simp [Env.ext]
 ·rw [←h.i,←h'.i];simp [Env.ext]
 ·rw [←h.a,←h'.a];simp [Env.ext]
 ·rw [←h.bo,←h'.bo];simp [Env.ext]
 ·rw [←h.p,←h'.p];simp [Env.ext]
 ·rw [←h.r,←h'.r];simp [Env.ext]
theorem vH{x y:List (Nat×SV)}{s:Nat}{v:SV}(h:look (x++y) s=some v):look x s=some v∨look y s=some v:=by
 induction x with
 | nil=>exact .inr h
 | cons t r ih=>
  obtain⟨q,u⟩:=t;have h':(if q==s then some u else look (r++y) s)=some v:=h;show(if q==s then some u else look r s)=some v∨look y s=some v;by_cases hq:(q==s)=true
  ·rw [if_pos hq]at h' ⊢;exact .inl h'
  ·rw [if_neg hq]at h' ⊢;exact ih h'
theorem lx{x:List (Nat×SV)}{f:Nat→Bool}{s:Nat}{v:SV}(h:look (x.filter fun y=>f y.1) s=some v):look x s=some v:=by
 induction x with
 | nil=>cases h
 | cons t r ih=>
  obtain⟨q,u⟩:=t;by_cases hf:f q=true
  ·rw [List.filter_cons_of_pos (by exact hf)]at h;unfold look at h ⊢;split at h
   ·rename_i hq;simp only [hq,if_true];exact h
   ·rename_i hq;simp only [hq];exact ih h
  ·rw [List.filter_cons_of_neg (by exact hf)]at h;have:=ih h;unfold look;split
   ·rename_i hq;rw [beq_iff_eq]at hq;subst hq;exfalso;apply hf;clear ih this
    induction r with
    | nil=>cases h
    | cons t' r' UH=>
     obtain⟨q',u'⟩:=t';by_cases Lg:f q'=true
     ·rw [List.filter_cons_of_pos (by exact Lg)]at h;unfold look at h;split at h
      ·rename_i hq';rw [beq_iff_eq]at hq';subst hq';exact Lg
      ·exact UH h
     ·rw [List.filter_cons_of_neg (by exact Lg)]at h;exact UH h
   ·exact this
theorem fQ.trans{c:cP}{a b d:Env}(h:fQ c a b)(k:fQ c b d):fQ c a d:=
 ⟨fun i hi=>(h.b i hi).trans (k.b i hi),fun i hi=>(h.v i hi).trans (k.v i hi),fun i hi=>(h.i i hi).trans (k.i i hi),fun i hi=>(h.a i hi).trans (k.a i hi),fun i hi=>(h.bo i hi).trans (k.bo i hi),fun i hi=>(h.p i hi).trans (k.p i hi),fun i hi=>(h.r i hi).trans (k.r i hi),h.va.trans k.va⟩
theorem bK.front{a b Fs:List HP}{w:World}(h:bK (a++b++Fs) w):bK (a++Fs) w:=by
 refine h.sI (fun j=>if j<a.length then some j else some (j+b.length)) ?_ ?_
 ·intro j x hx;right;by_cases h1:j<a.length
  ·refine⟨j,by simp [h1],?_⟩;rw [ae1 h1]at hx;rw [List.append_assoc,ae1 h1];exact hx
  ·refine⟨j+b.length,by simp [h1],?_⟩;rw [ae2 (by omega)]at hx;rw [ae2 (by simp;omega),List.length_append,show j+b.length - (a.length+b.length)=j - a.length by omega];exact hx
 ·intro j j' i hj k9 _ _;split at hj<;>split at k9<;>simp only [aeX]at hj k9<;>omega
theorem mJ{ρ bI:Env}: ∀{x y:List MK} {l:List fD},kM x y=some l→kF ρ bI l→marks ρ x=marks bI y
 | [],[],l,_,_=>rfl
 | .one b::r,.one b'::r',l,h,hl=>by
  simp only [kM,aeY]at h;obtain⟨z,hz,rfl⟩:=h;have h1:=hl _ aeZ;simp only [fD.holds]at h1;have h2:=mJ hz fun x hx=>hl x (ae4 _ hx)
  simp only [marks,List.flatMap_cons,List.map_append,MK.blocks,h1]at h2 ⊢;rw [h2]
 | .many b::r,.many b'::r',l,h,hl=>by
  simp only [kM,aeY]at h;obtain⟨z,hz,rfl⟩:=h;have h1:=hl _ aeZ;simp only [fD.holds]at h1;have h2:=mJ hz fun x hx=>hl x (ae4 _ hx)
  simp only [marks,List.flatMap_cons,List.map_append,MK.blocks,h1]at h2 ⊢;rw [h2]
 | [],.one _::_,_,h,_=>by cases h
 | [],.many _::_,_,h,_=>by cases h
 | .one _::_,[],_,h,_=>by cases h
 | .many _::_,[],_,h,_=>by cases h
 | .one _::_,.many _::_,_,h,_=>by cases h
 | .many _::_,.one _::_,_,h,_=>by cases h
theorem jm{st:St}{ρ qe H8:Env}{a:Act}{w:World}{c0:cP}{FI:List (Nat×SV)}{kT:List Ck}{x y z:List fD}{nt wN:NT}
  (hw:HW Fs w0 st ρ w) (ha:HA st.fr nt ρ a) (h1:fJ qe c0) (hle:Env.Le qe ρ) (W9:Env.Le qe H8)
  (hx:lT FI st.fr=some x) (hy:lU kT st.hp=some y) (hz:kM wN.ds nt.ds=some z) (hn:wN.n=nt.n) (hh:kF H8 ρ ((x++y++z).filter fun q=> !q.trivial c0)):
  HA FI wN H8 a∧bK (kT.map (Ck.den H8)++Fs) w:=by
 have eD:fQ c0 H8 ρ:=(Env.Le.agree h1 W9).symm.trans (Env.Le.agree h1 hle);obtain⟨UO,k3⟩:=(kF.all eD hh).app;obtain⟨k1,k2⟩:=UO.app;refine⟨⟨ha.defers.trans (mJ hz k3).symm,hn▸ha.size,fun s v hs=>?_⟩,?_⟩
 ·obtain⟨v',qw,he⟩:=mB hx k1 s v hs;rw [ha.aT s v' qw,he]
 ·obtain⟨more,hm⟩:=qM eD.va hy k2;have:=hw.own;rw [hm]at this;exact this.front
theorem ot{kN:St}{qe:Env}{w:World}{inc:cP}{e:Ext}{aT:List (Nat×SV)}{f:Nat→Bool}{kT:List Ck}{wN:NT}
  (h1:fJ qe kN.bd) (he:e.Fits inc) (j_:kH (kN.bd.add inc) aT=true) (vW:kT.all (Ck.sc (kN.bd.add inc))=true) (jL:kH kN.bd kN.fr=true)
  (Li:wN.ds.all (MK.sc (kN.bd.add inc))=true) (nj:fV w0 w) (own:bK (kT.map (Ck.den (qe.ext e))++Fs) w):
  HW Fs w0 {kN with fr:=aT++kN.fr.filter (fun x=>f x.1),hp:=kT,bd:=kN.bd.add inc,known:=[],nt:=wN} (qe.ext e) w:=by
 refine⟨h1.ext he,?_,vW,rfl,fun b hb=>(by cases hb),own,nj,Li⟩;simp only [kH,List.all_append,ai];refine⟨j_,aeT.2 fun x hx=>?_⟩;exact SV.bA (cP.jC _ _) (aeT.1 jL x (afk.1 hx).1)
theorem kV{α:Type}(p:α→Bool)(e:α)(he:p e=true): ∀(use:List Nat) (hp new:List α),hp.all p=true→new.all p=true→(jY e hp use new).all p=true
 | [],hp,new,h1,h2=>by simp only [jY,List.all_append,h1,h2,Bool.and_self]
 | i::r,hp,c::cs,h1,h2=>by
  simp only [List.all_cons,ai]at h2;refine kV p e he r _ _ (aeT.2 fun x hx=>?_) h2.2;rcases afv hx with hx | rfl
  ·exact aeT.1 h1 x hx
  ·exact h2.1
 | i::r,hp,[],h1,h2=>by
  refine kV p e he r _ _ (aeT.2 fun x hx=>?_) h2;rcases afv hx with hx | rfl
  ·exact aeT.1 h1 x hx
  ·exact he
theorem At.gh{n:Nat}{g:St→Option nu}{k:List KI}{ρ:Env}{L:Nat→LC}{a:Act}{w:World}(h:At P C ar Fs w0 n (.gh g::k) ρ L a w):At P C ar Fs w0 n k ρ L a w:=by
 obtain⟨m,hm,st,bI,L',h1,h2,h3,h4,h5⟩:=h
 induction m generalizing st with
 | zero=>exact h5.elim
 | succ m ih=>
  simp only [run]at h5;split at h5
  ·exact⟨m,by omega,st,bI,L',h1,h2,h3,h4,h5⟩
  ·rename_i s hs;split at h5
   ·rename_i b hb;split at h5
    case isFalse=>exact h5.elim
    rename_i iJ;simp only [VC,aR]at h5;cases hd:b.den bI with
    | true=>
     have hp:=(BE.cc bI b).1 hd;exact ih (by omega) _ (h3.know hp iJ) h4 (h5.1 hp)
    | false=>
     have hp: ¬b.prop bI:=fun h=>by rw [←BE.cc,hd]at h;cases h
     have kT:(iZ b).prop bI:=by rw [←BE.cc,df,hd];rfl
     exact ih (by omega) _ (h3.know kT (CG iJ)) h4 (h5.2 hp)
   rename_i hsp;split at h5
   ·rename_i idx ad8;split at h5
    case isFalse=>exact h5.elim
    rename_i hc;rw [ai,decide_eq_true_eq]at hc;obtain⟨bU,gn⟩:=hc;have bU: ∀i∈idx,i<st.hp.length:=fun i hi=>by simpa [afb] using aeT.1 bU i hi
    refine⟨m,by omega,{st with hp:=idx.map fun i=>st.hp.getD i .emp},bI,L',h1,h2,⟨h3.lens,h3.kd,?_,h3.mL,h3.kn,?_,h3.same,h3.kS⟩,h4,h5⟩
    ·refine aeT.2 fun x hx=>?_
     obtain⟨i,hi,rfl⟩:=List.mem_map.1 hx;have hl:=bU i hi;rw [List.getD_eq_getElem?_getD,afA hl];exact aeT.1 h3.fm _ (List.getElem_mem hl)
    ·refine h3.own.pick (idx++(List.range Fs.length).map (st.hp.length+ ·)) _ ?_ ?_
     ·refine List.nodup_append.2 ⟨gn,?_,?_⟩
      ·exact List.Pairwise.map _ (fun a b h=>by omega) List.nodup_range
      ·intro x hx y hy;have:=bU x hx;obtain⟨q,_,rfl⟩:=List.mem_map.1 hy;omega
     ·intro j;by_cases hj:j<idx.length
      ·have hl:=bU idx[j] (List.getElem_mem hj);have e1:(((idx.map fun i=>st.hp.getD i .emp).map (Ck.den bI))++Fs)[j]? =some ((st.hp[idx[j]]).den bI):=by
        rw [ae1 (by simpa using hj)];simp [hj,hl]
       have e2:(st.hp.map (Ck.den bI)++Fs)[idx[j]]? =some ((st.hp[idx[j]]).den bI):=by
        rw [ae1 (by simpa using hl)];simp [hl]
       rw [e1,ae1 hj,afA hj,Option.bind_some,e2]
      ·rw [ae2 (by simpa using hj),ae2 (by omega)];simp only [List.length_map,List.getElem?_map];by_cases hq:j - idx.length<Fs.length
       ·rw [List.getElem?_range hq,Option.map_some,Option.bind_some,ae2 (by simp)];simp
       ·rw [afz (by omega),afz (by simpa using hq)];simp
   split at h5
   case h_2=>exact h5.elim
   rename_i eqs heq;split at h5
   case isFalse=>exact h5.elim
   rename_i iJ;simp only [ai,decide_eq_true_eq]at iJ;obtain⟨⟨⟨j_,vW⟩,jL⟩,zC⟩:=iJ;have bU: ∀i∈s.use,i<st.hp.length:=fun i hi=>by simpa [afb] using aeT.1 jL i hi
   simp only [VC]at h5;obtain⟨I,hI,hr⟩:=h5;rw [nY]at hr;have cM:=bK.sJ (acc:=[]) (use:=s.use) (by simpa using h3.own) zC (by simpa using bU);have Hl:(s.use.map fun i=>st.hp.getD i .emp).map (Ck.den bI)=s.use.map (fun i=>(st.hp.map (Ck.den bI)).getD i HP.emp):=by
    rw [List.map_map];refine List.map_congr_left fun i hi=>?_
    have:=bU i hi;simp [this]
   rw [List.nil_append,←Hl]at cM;have hx:=hI _ _ cM;rw [jA]at hx;obtain⟨e,hf,hq⟩:=hx;rw [sG]at hq;obtain⟨hh,yS,hIe⟩:=hq;have hle:=Env.fX bI e;have eD:=Env.Le.agree h3.lens hle;refine⟨m,by omega,_,bI.ext e,L',h1.trans hle,h2,?_,?_,hr e hf hIe⟩
   ·refine⟨h3.lens.ext hf,?_,?_,eT (cP.jC _ _) h3.mL,fun b hb=>?_,?_,h3.same,c6 (cP.jC _ _) h3.kS⟩
    ·simp only [kH,List.all_append,ai];refine⟨j_,aeT.2 fun x hx=>?_⟩;exact SV.bA (cP.jC _ _) (aeT.1 h3.kd x (afk.1 hx).1)
    ·exact kV _ _ rfl _ _ _ (ik (cP.jC _ _) h3.fm) vW
    ·exact(BE.gf eD (aeT.1 h3.mL b hb)).1 (h3.kn b hb)
    ·have h1:=bK.kx (use:=s.use) yS (fun i hi=>by rw [kG];simpa using bU i hi) fun _ _=> .inr trivial
     rw [←iL _ _ _ zC,jz eD h3.fm]at h1;simp only [fw];rw [kR];exact h1
   ·have hm:=h4.more h3.kd h3.kS eD;refine⟨hm.defers,hm.size,fun x v hx=>?_⟩;rcases vH hx with hx | hx
    ·obtain⟨v',qw,he⟩:=mB heq hh x v hx;rw [h4.aT x v' qw,he]
    ·have:=lx (f:=fun q=> !(s.aT.any fun y=>y.1==q)) hx;exact hm.aT x v this
theorem QK.gh{n:Nat}{g:St→Option nu}{k:List KI}{ρ:Env}{L:Nat→LC}{e:Exit}{a:Act}{w:World}(h:QK P C ar Fs w0 n (.gh g::k) ρ L e a w):QK P C ar Fs w0 n k ρ L e a w:=by
 cases e with
 | normal=>
  obtain⟨k',hk,dC⟩:=h;cases hk;exact⟨k,rfl,dC.gh⟩
 | exit id=>exact QK.move (k:=k) h rfl fun _ _=>rfl
 | ret=>exact QK.move (k:=k) h rfl fun _ _=>rfl
 | goto l=>obtain⟨k',hk,_⟩:=h;cases hk
 | panic l=>obtain⟨k',hk,_⟩:=h;cases hk
 | outgrown=>obtain⟨k',hk,_⟩:=h;cases hk
theorem vI{F:Fence}{n:Nat}{c:Code}{Q:Exit→Act→World→Prop}: ∀{m m':Nat} {a:Act} {w:World},m≤m'→Code.roundsIn F n P c Q m a w→Code.roundsIn F n P c Q m' a w
 | 0,_,_,_,_,h=>h.elim
 | m+1,0,_,_,hm,_=>absurd hm (by omega)
 | m+1,m'+1,a,w,hm,h=>by
  refine wpIn_mono (show c.wpIn F n P (Exit.then (Code.roundsIn F n P c Q m) Q) a w from h) fun e a w hq=>?_
  cases e with
  | normal=>exact vI (by omega) hq
  | _=>exact hq
theorem Ow{N:Nat}{ro:Option Nat}{body:Code}{k:List KI}{ρ:Env}{L:Nat→LC}(vd: ∀m,m<N→pC P C ar Fs w0 m): ∀(n:Nat),n<N→∀(st:St) (bI:Env) (L':Nat→LC) (a:Act) (w:World),
  VC P ar (run C n (.code body:: .again body::k) st) bI L'→Env.Le ρ bI→(∀j,j<nl k→L' j=L j)→HW Fs w0 st bI w→HA st.fr st.nt bI a→BA bI k ro→Code.roundsIn (FW ro) 0 P body (QK P C ar Fs w0 N k ρ L) (n+1) a w:=by
 intro n
 induction n using Nat.strongRecOn with
 | _ n ih=>
  intro hn st bI L' a w hv hle hL hw ha hk;refine wpIn_mono (vd n hn ro body (.again body::k) st bI L' a w hv hw ha (hk.push rfl)) ?_;intro e a' w' hq;cases e with
  | normal=>
   obtain⟨k',Bb,m,hm,D5,H8,L2,h1,h2,h3,h4,h5⟩:=hq;cases Bb;cases m with
   | zero=>exact h5.elim
   | succ m=>
    have:=ih m (by omega) (by omega) D5 H8 L2 a' w' h5 (hle.trans h1) (fun j hj=>(h2 j hj).trans (hL j hj)) h3 h4 (hk.le h1);exact vI (by omega) this
  | exit id=>exact(QK.move (k:=k) hq rfl fun _ _=>rfl).mono (by omega) hle hL
  | ret=>exact(QK.move (k:=k) hq rfl fun _ _=>rfl).mono (by omega) hle hL
  | goto l=>obtain⟨k',hk,_⟩:=hq;cases hk
  | panic l=>obtain⟨k',hk,_⟩:=hq;cases hk
  | outgrown=>obtain⟨k',hk,_⟩:=hq;cases hk
theorem Eb(_:bG P C.T=true){n:Nat}(vd: ∀m,m<n→pC P C ar Fs w0 m)(Lh: ∀m,m<n→rD P C ar Fs w0 m)(IHd: ∀m,m<n→Gk P C ar Fs w0 m)(IHr:MI P C ar Fs w0 n):pC P C ar Fs w0 n:=by
 intro ro c k st ρ L a w hv hw ha fK;cases n with
 | zero=>exact hv.elim
 | succ n=>
  have hn:n<n+1:=Nat.lt_succ_self n;cases c with
  | skip=>exact wpIn_skip (QK.here hn rfl hv hw ha)
  | label l=>exact wpIn_label (QK.here hn rfl hv hw ha)
  | seq x y=>
   refine wpIn_seq (wpIn_mono (vd n hn ro x (.code y::k) st ρ L a w hv hw ha (fK.push rfl)) ?_);intro e a' w' hq;cases e with
   | normal=>
    obtain⟨k',hk,m,hm,c_,bI,L',h1,h2,h3,h4,h5⟩:=hq;cases hk;refine wpIn_mono (vd m (by omega) ro y k c_ bI L' a' w' h5 h3 h4 (fK.le h1)) fun e a w hq=>?_
    exact hq.mono (by omega) h1 h2
   | exit id=>exact(QK.move (k:=k) hq rfl fun _ _=>rfl).mono (afE n) (Env.Le.refl _) fun _ _=>rfl
   | ret=>exact(QK.move (k:=k) hq rfl fun _ _=>rfl).mono (afE n) (Env.Le.refl _) fun _ _=>rfl
   | goto l=>obtain⟨k',hk,_⟩:=hq;cases hk
   | panic l=>obtain⟨k',hk,_⟩:=hq;cases hk
   | outgrown=>obtain⟨k',hk,_⟩:=hq;cases hk
  | cond x t e=>
   simp only [run]at hv;have up: ∀{e:Exit} {a:Act} {w:World},QK P C ar Fs w0 n k ρ L e a w→QK P C ar Fs w0 (n+1) k ρ L e a w:=fun hq=>hq.mono (afE n) (Env.Le.refl _) fun _ _=>rfl
   split at hv
   ·rename_i hc;have:=oq ha hw.kn hc;exact wpIn_cond_true this (wpIn_mono (vd n hn ro t k st ρ L a w hv hw ha fK) fun e a w hq=>up hq)
   ·rename_i hc;have:=oq ha hw.kn hc;exact wpIn_cond_false this (wpIn_mono (vd n hn ro e k st ρ L a w hv hw ha fK) fun e a w hq=>up hq)
   ·rename_i b _ _ hc;have hb:=oq ha hw.kn hc;split at hv
    ·rename_i iJ;simp only [VC,aR]at hv;cases hd:b.den ρ with
     | true=>
      have hp:=(BE.cc ρ b).1 hd;exact wpIn_cond_true (by rw [hb,hd]) (wpIn_mono (vd n hn ro t k _ ρ L a w (hv.1 hp) (hw.know hp iJ) ha fK) fun e a w hq=>up hq)
     | false=>
      have hp: ¬b.prop ρ:=fun h=>by rw [←BE.cc,hd]at h;cases h
      have kT:(iZ b).prop ρ:=by rw [←BE.cc,df,hd];rfl
      exact wpIn_cond_false (by rw [hb,hd]) (wpIn_mono (vd n hn ro e k _ ρ L a w (hv.2 hp) (hw.know kT (CG iJ)) ha fK) fun e a w hq=>up hq)
    ·exact hv.elim
   ·exact hv.elim
  | block id b=>
   simp only [run]at hv;split at hv;rotate_left
   ·rename_i ja Ud;split at hv
    case isFalse=>exact hv.elim
    rename_i iJ;simp only [ai]at iJ;obtain⟨⟨⟨j_,vW⟩,jL⟩,zC⟩:=iJ;simp only [VC]at hv;obtain⟨I,Ox,xp⟩:=hv;rw [nY]at xp;have I7: ∀(m:Nat) (c_:St) (bI:Env) (L':Nat→LC) (a':Act) (w':World),m≤n→Env.Le ρ bI→(∀j,j<nl k+1→L' j=tG L (nl k) ⟨I,fun _=>0,⟨[],[],[],[],[],[],[]⟩⟩ j)→
      HW Fs w0 c_ bI w'→HA c_.fr c_.nt bI a'→
      VC P ar (run C m (.jn (some id) (nl k) {st.nt with ds:=ja.ds st.bd st.nt.ds} st.bd ja.inc (ja.aT st.bd++st.fr.filter fun x=> !((writes b).contains x.1)&& !((ja.aT st.bd).any fun y=>y.1==x.1)) (ja.hp st.bd st.hp) ja.pre::k) c_) bI L'→
      QK P C ar Fs w0 (n+1) k ρ L .normal a' w':=by
     intro m c_ bI L' a' w' hm hle hL g3 g4 g5;cases m with
     | zero=>exact g5.elim
     | succ m=>
      simp only [run]at g5;split at g5
      ·exact g5.elim
      rename_i st9 nn9 Fu;obtain⟨ρ9,Oy,g3,g4,Xg,g5⟩:=jl Fu g3 g4 g5;have hle:=hle.trans Oy;split at g5
      ·rename_i x' y' z' R4 UA OQ;split at g5
       ·exact g5.elim
       ·rename_i zt;simp only [bne_iff_ne,ne_eq,Decidable.not_not]at zt;simp only [VC]at g5;rw [jA]at g5;obtain⟨e2,Sn,Kn⟩:=g5;rw [Env.Le.take hw.lens hle,sG]at Kn;obtain⟨Xh,OY⟩:=Kn;have hLI:(L' (nl k)).I=I:=by
         rw [hL _ (by omega)];simp [tG]
        rw [hLI]at OY;obtain⟨r1,r2⟩:=jm (wN:={st.nt with ds:=ja.ds st.bd st.nt.ds}) g3 g4 hw.lens hle (Env.fX ρ e2) R4 UA OQ zt.symm Xh;refine⟨k,rfl,n,by omega,_,ρ.ext e2,L,Env.fX ρ e2,fun _ _=>rfl,?_,r1,xp e2 Sn OY⟩;exact ot (f:=fun q=> !((writes b).contains q)&& !((ja.aT st.bd).any fun y=>y.1==q)) hw.lens Sn j_ vW hw.kd zC g3.same r2
      ·exact g5.elim
      ·exact g5.elim
      ·exact g5.elim
    refine wpIn_block (wpIn_mono (vd n hn ro b _ st ρ _ a w Ox hw ha (fK.push rfl)) ?_);intro e a' w' hq;cases e with
    | normal=>
     obtain⟨k',hk,m,hm,c_,bI,L',h1,h2,h3,h4,h5⟩:=hq;cases hk;exact I7 m c_ bI L' a' w' (Nat.le_of_lt hm) h1 h2 h3 h4 h5
    | exit id'=>
     simp only [Exit.inBlock];split
     ·rename_i he;subst he;obtain⟨k',hk,m,hm,c_,bI,L',h1,h2,h3,h4,h5⟩:=hq;simp only [resume,c9,beq_self_eq_true,if_true,aeX]at hk;subst hk;exact I7 m c_ bI L' a' w' (Nat.le_of_lt hm) h1 h2 h3 h4 h5
     ·rename_i he;refine(QK.move (k:=k) (L:=L) hq ?_ fun j hj=>?_).mono (afE n) (Env.Le.refl _) fun _ _=>rfl
      ·simp only [resume,c9];rw [if_neg (by simpa using Ne.symm he)]
      ·simp only [tG];rw [if_neg (by omega)]
    | ret=>
     refine(QK.move (k:=k) (L:=L) hq rfl fun j hj=>?_).mono (afE n) (Env.Le.refl _) fun _ _=>rfl
     simp only [tG];rw [if_neg (by omega)]
    | goto l=>obtain⟨k',hk,_⟩:=hq;cases hk
    | panic l=>obtain⟨k',hk,_⟩:=hq;cases hk
    | outgrown=>obtain⟨k',hk,_⟩:=hq;cases hk
   refine wpIn_block (wpIn_mono (vd n hn ro b (.mR id::k) st ρ L a w hv hw ha (fK.push rfl)) ?_);intro e a' w' hq;cases e with
   | normal=>
    obtain⟨k',hk,m,hm,c_,bI,L',h1,h2,h3,h4,h5⟩:=hq;cases hk;cases m with
    | zero=>exact h5.elim
    | succ m=>exact⟨k,rfl,m,by omega,c_,bI,L',h1,h2,h3,h4,h5⟩
   | exit id'=>
    simp only [Exit.inBlock];split
    ·rename_i he;subst he;obtain⟨k',hk,m,hm,c_,bI,L',h1,h2,h3,h4,h5⟩:=hq;simp only [resume,c9,beq_self_eq_true,if_true,aeX]at hk;subst hk;exact⟨k,rfl,m,by omega,c_,bI,L',h1,h2,h3,h4,h5⟩
    ·rename_i he;refine(QK.move (k:=k) hq ?_ fun _ _=>rfl).mono (afE n) (Env.Le.refl _) fun _ _=>rfl
     simp only [resume,c9];rw [if_neg (by simpa using Ne.symm he)]
   | ret=>exact(QK.move (k:=k) hq rfl fun _ _=>rfl).mono (afE n) (Env.Le.refl _) fun _ _=>rfl
   | goto l=>obtain⟨k',hk,_⟩:=hq;cases hk
   | panic l=>obtain⟨k',hk,_⟩:=hq;cases hk
   | outgrown=>obtain⟨k',hk,_⟩:=hq;cases hk
  | loop body=>
   simp only [run]at hv;split at hv
   ·rename_i id k0;split at hv
    ·exact wpIn_loop_rounds _ (Ow vd n hn st ρ L a w hv (Env.Le.refl _) (fun _ _=>rfl) hw ha fK)
    ·rename_i la hla;split at hv
     ·exact hv.elim
     ·rename_i kN nn ko;obtain⟨qe,Oi,wC,Gm,X5,uU⟩:=jl ko hw ha hv;split at uU
      ·rename_i x y z hx hy hz;split at uU
       ·rename_i iJ;simp only [ai]at iJ;obtain⟨⟨⟨j_,vW⟩,jL⟩,zC⟩:=iJ;simp only [VC]at uU;obtain⟨I,μ,Oz,OA⟩:=uU;rw [jA]at Oz;rw [nY]at OA;obtain⟨e0,hf0,Zm⟩:=Oz;rw [sG]at Zm;obtain⟨hh0,hI0⟩:=Zm;obtain⟨q1,q2⟩:=jm (wN:={kN.nt with ds:=la.ds kN.bd kN.nt.ds}) wC Gm wC.lens (Env.Le.refl _) (Env.fX qe e0) hx hy hz rfl hh0;refine wpIn_loop_ghost (fun n' a w=> ∃e:Ext,e.Fits la.inc∧I e∧μ e=n'∧HW Fs w0
          {kN with fr:=la.aT kN.bd++kN.fr.filter (fun x=> !((writes body).contains x.1)&& !((la.aT kN.bd).any fun y=>y.1==x.1)),hp:=la.hp kN.bd kN.hp,bd:=kN.bd.add la.inc,known:=[],nt:={kN.nt with ds:=la.ds kN.bd kN.nt.ds}} (qe.ext e) w∧
          HA (la.aT kN.bd++kN.fr.filter (fun x=> !((writes body).contains x.1)&& !((la.aT kN.bd).any fun y=>y.1==x.1))) {kN.nt with ds:=la.ds kN.bd kN.nt.ds} (qe.ext e) a) (μ e0) ⟨e0,hf0,hI0,rfl,?_,?_⟩ ?_
        ·exact ot (f:=fun q=> !((writes body).contains q)&& !((la.aT kN.bd).any fun y=>y.1==q)) wC.lens hf0 j_ vW wC.kd zC wC.same q2
        ·refine⟨q1.defers,q1.size,fun s v hs=>?_⟩;rcases vH hs with hs | hs
         ·exact q1.aT s v hs
         ·have:=lx (f:=fun q=> !((writes body).contains q)&& !((la.aT kN.bd).any fun y=>y.1==q)) hs;rw [Gm.aT s v this];exact(SV.tY (Env.Le.agree wC.lens (Env.fX qe e0)) (Bx wC.kd this)).1
        ·intro n' a2 w2 OY;obtain⟨e,he,hIe,hμ,D7,UX⟩:=OY;subst hμ;have hvb:=OA e he hIe;refine wpIn_mono (vd n hn ro body _ _ _ _ a2 w2 hvb D7 UX ((fK.le (Oi.trans (Env.fX qe e))).push rfl)) ?_;intro ex a3 w3 hq;cases ex with
         | normal=>
          obtain⟨k',hk,m,hm,c_,bI,L',g1,g2,g3,g4,g5⟩:=hq;cases hk;cases m with
          | zero=>exact g5.elim
          | succ m=>
           simp only [run]at g5;split at g5
           ·exact g5.elim
           rename_i st9 nn9 Fu;obtain⟨ρ9,Oy,g3,g4,Xg,g5⟩:=jl Fu g3 g4 g5;have g1:=g1.trans Oy;split at g5
           ·rename_i x' y' z' R4 UA OQ;split at g5
            ·exact g5.elim
            ·rename_i zt;simp only [bne_iff_ne,ne_eq,Decidable.not_not]at zt;simp only [VC]at g5;rw [jA]at g5;obtain⟨e2,Sn,Kn⟩:=g5;have KU:Env.Le qe ρ9:=(Env.fX qe e).trans g1;rw [Env.Le.take wC.lens KU,sG]at Kn;obtain⟨Xh,OY,Xi⟩:=Kn;have hL:L' (nl (.mR id::k0))=⟨I,μ,e⟩:=by
              rw [g2 _ (by simp [nl])];simp [tG]
             rw [hL]at OY Xi;obtain⟨r1,r2⟩:=jm (wN:={kN.nt with ds:=la.ds kN.bd kN.nt.ds}) g3 g4 wC.lens KU (Env.fX qe e2) R4 UA OQ zt.symm Xh;refine⟨μ e2,Xi,e2,Sn,OY,rfl,?_,r1⟩;exact ot (f:=fun q=> !((writes body).contains q)&& !((la.aT kN.bd).any fun y=>y.1==q)) wC.lens Sn j_ vW wC.kd zC g3.same r2
           ·exact g5.elim
           ·exact g5.elim
         | exit id'=>
          refine(QK.move (k:= .mR id::k0) (L:=L) hq rfl ?_).mono (afE n) (Oi.trans (Env.fX qe e)) fun _ _=>rfl
          intro j hj;simp only [tG];rw [if_neg (by omega)]
         | ret=>
          refine(QK.move (k:= .mR id::k0) (L:=L) hq rfl ?_).mono (afE n) (Oi.trans (Env.fX qe e)) fun _ _=>rfl
          intro j hj;simp only [tG];rw [if_neg (by omega)]
         | goto l=>obtain⟨k',hk,_⟩:=hq;cases hk
         | panic l=>obtain⟨k',hk,_⟩:=hq;cases hk
         | outgrown=>obtain⟨k',hk,_⟩:=hq;cases hk
       ·exact uU.elim
      ·exact uU.elim
   ·exact wpIn_loop_rounds _ (Ow vd n hn st ρ L a w hv (Env.Le.refl _) (fun _ _=>rfl) hw ha fK)
  | exit id=>
   simp only [run]at hv;split at hv
   ·rename_i k' hk;exact wpIn_exit (QK.here hn hk hv hw ha)
   ·exact hv.elim
  | ret=>
   simp only [run]at hv;split at hv
   ·rename_i k' hk;exact wpIn_ret (QK.here hn hk hv hw ha)
   ·exact hv.elim
  | region id ops draw=>
   cases draw with
   | false=>
    simp only [run]at hv;split at hv
    ·exact wpIn_region_list (fh (fun e a w hq=>hq.mono (afE n) (Env.Le.refl _) fun _ _=>rfl) (Lh n hn ro ops ops.toList k st ρ L a w hv hw ha fK))
    ·exact wpIn_region_list (fh (fun e a w hq=>hq.gh.mono (afE n) (Env.Le.refl _) fun _ _=>rfl) (Lh n hn ro ops ops.toList _ st ρ L a w hv hw ha (fK.push rfl)))
   | true=>
    simp only [run]at hv;split at hv
    ·rename_i hc;simp only [ai]at hc;split at hv
     ·rename_i ja Ud;split at hv
      case isFalse=>exact hv.elim
      rename_i iJ;simp only [ai]at iJ;obtain⟨⟨⟨j_,vW⟩,jL⟩,zC⟩:=iJ;simp only [VC]at hv;obtain⟨I,Ox,xp⟩:=hv;rw [nY]at xp;have I7: ∀(m:Nat) (c_:St) (bI:Env) (L':Nat→LC) (a':Act) (w':World),m≤n→Env.Le ρ bI→(∀j,j<nl k+1→L' j=tG L (nl k) ⟨I,fun _=>0,⟨[],[],[],[],[],[],[]⟩⟩ j)→
        HW Fs w0 c_ bI w'→HA c_.fr c_.nt bI a'→
        VC P ar (run C m (.jn none (nl k) {st.nt with ds:=ja.ds st.bd st.nt.ds} st.bd ja.inc (ja.aT st.bd++st.fr.filter fun x=> !((writes (.region id ops true)).contains x.1)&& !((ja.aT st.bd).any fun y=>y.1==x.1)) (ja.hp st.bd st.hp) ja.pre::k) c_) bI L'→
        QK P C ar Fs w0 (n+1) k ρ L .normal a' w':=by
       intro m c_ bI L' a' w' hm hle hL g3 g4 g5;cases m with
       | zero=>exact g5.elim
       | succ m=>
        simp only [run]at g5;split at g5
        ·exact g5.elim
        rename_i st9 nn9 Fu;obtain⟨ρ9,Oy,g3,g4,Xg,g5⟩:=jl Fu g3 g4 g5;have hle:=hle.trans Oy;split at g5
        ·rename_i x' y' z' R4 UA OQ;split at g5
         ·exact g5.elim
         ·rename_i zt;simp only [bne_iff_ne,ne_eq,Decidable.not_not]at zt;simp only [VC]at g5;rw [jA]at g5;obtain⟨e2,Sn,Kn⟩:=g5;rw [Env.Le.take hw.lens hle,sG]at Kn;obtain⟨Xh,OY⟩:=Kn;have hLI:(L' (nl k)).I=I:=by
           rw [hL _ (by omega)];simp [tG]
          rw [hLI]at OY;obtain⟨r1,r2⟩:=jm (wN:={st.nt with ds:=ja.ds st.bd st.nt.ds}) g3 g4 hw.lens hle (Env.fX ρ e2) R4 UA OQ zt.symm Xh;refine⟨k,rfl,n,by omega,_,ρ.ext e2,L,Env.fX ρ e2,fun _ _=>rfl,?_,r1,xp e2 Sn OY⟩;exact ot (f:=fun q=> !((writes (.region id ops true)).contains q)&& !((ja.aT st.bd).any fun y=>y.1==q)) hw.lens Sn j_ vW hw.kd zC g3.same r2
        ·exact g5.elim
        ·exact g5.elim
        ·exact g5.elim
      refine wpIn_mono (IHd n hn ro id ops _ _ st ρ _ a w Ox hc.1 hc.2 hw ha ((fK.push rfl).push rfl)) ?_;intro e a' w' hq;have hq:=hq.gh;cases e with
      | normal=>
       obtain⟨k',hk,m,hm,c_,bI,L',h1,h2,h3,h4,h5⟩:=hq;cases hk;exact I7 m c_ bI L' a' w' (Nat.le_of_lt hm) h1 h2 h3 h4 h5
      | exit id'=>
       refine(QK.move (k:=k) (L:=L) hq rfl fun j hj=>?_).mono (afE n) (Env.Le.refl _) fun _ _=>rfl
       simp only [tG];rw [if_neg (by omega)]
      | ret=>
       refine(QK.move (k:=k) (L:=L) hq rfl fun j hj=>?_).mono (afE n) (Env.Le.refl _) fun _ _=>rfl
       simp only [tG];rw [if_neg (by omega)]
      | goto l=>obtain⟨k',hk,_⟩:=hq;cases hk
      | panic l=>obtain⟨k',hk,_⟩:=hq;cases hk
      | outgrown=>obtain⟨k',hk,_⟩:=hq;cases hk
     split at hv
     ·exact wpIn_mono (IHd n hn ro id ops _ k st ρ L a w hv hc.1 hc.2 hw ha fK) fun e a w hq=>hq.mono (afE n) (Env.Le.refl _) fun _ _=>rfl
     ·exact wpIn_mono (IHd n hn ro id ops _ _ st ρ L a w hv hc.1 hc.2 hw ha (fK.push rfl)) fun e a w hq=>hq.gh.mono (afE n) (Env.Le.refl _) fun _ _=>rfl
    ·exact hv.elim
  | rangeFunc f ps x y=>exact IHr ro f ps x y k st ρ L a w hv hw ha fK
  | scope x=>exact hv.elim
  | goto l=>exact hv.elim
  | refuse y=>exact hv.elim
end
end Go.RX
