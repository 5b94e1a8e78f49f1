/- Executor. -/
import Derived.Test.YtphemenngjkfbaaRxW
import Derived.LoopNIn
open Bool renaming and_eq_true → ai
open Decidable renaming not_not → ad5
open List renaming all_eq_true → adI, getElem?_append_left → adO, getElem?_append_right → adQ, getElem?_eq_getElem → ad9, getElem?_eq_none → aeh, mem_cons_of_mem → adP, mem_cons_self → adN, mem_filter → ad7, mem_map → aeu, mem_or_eq_of_mem_set → aee, range → aec
open Nat renaming blt_eq → adX
open Option renaming map_eq_some_iff → adM
open Option.some renaming injEq → adK
namespace Go.RX
section
variable {P:Program} {C:Ctx} {ao:Value→List HP→Prop} {Fs:List HP} {w0:World}
structure BY (ρ:Env) (k:List KI) (ro:Option Nat):Prop where
 rf: ∀l r fn nt fr ps x y fd,KI.rf l r fn nt fr ps x y fd∈k→∃vX c0,gg vX c0∧Env.Le vX ρ∧kW c0 fr=true∧r<c0.r∧(vX.lr.getD r g_).params=ps∧(vX.lr.getD r g_).assign=x∧
  (vX.lr.getD r g_).body=y∧HA fr ⟨nt.n,[]⟩ vX {tmps:=(vX.lr.getD r g_).tmps,defers:=[]}
 ro:match zD k with
  | none=>ro=none
  | some l=> ∃vX c0,gg vX c0∧Env.Le vX ρ∧l<c0.b∧ro=some (vX.bv.getD l 0)
theorem BY.le{ρ bC:Env}{k:List KI}{ro:Option Nat}(h:BY ρ k ro)(hle:Env.Le ρ bC):BY bC k ro:=by
 refine⟨fun l r fn nt fr ps x y fd hm=>?_,?_⟩
 ·obtain⟨vX,c0,h1,h2,h3⟩:=h.rf l r fn nt fr ps x y fd hm;exact⟨vX,c0,h1,h2.trans hle,h3⟩
 ·have:=h.ro;split at this
  ·exact this
  ·obtain⟨vX,c0,h1,h2,h3⟩:=this;exact⟨vX,c0,h1,h2.trans hle,h3⟩
def KI.inner:KI→Bool
 | .code _=>true
 | .ops .. =>true
 | .sn .. =>true
 | .Mv .. =>true
 | .s5 _=>true
 | .again _=>true
 | .loop .. =>true
 | .jn .. =>true
 | .gh _=>true
 | _=>false
theorem BY.push{ρ:Env}{k:List KI}{ro:Option Nat}(h:BY ρ k ro){x:KI}(hx:x.inner=true):BY ρ (x::k) ro:=by
 have ha:zD (x::k)=zD k:=by cases x<;>first | rfl | (simp [KI.inner]at hx;done)
 refine⟨fun l r fn nt fr ps a b fd hm=>?_,by rw [ha];exact h.ro⟩;rcases List.mem_cons.1 hm with rfl | hm
 ·simp [KI.inner]at hx
 ·exact h.rf l r fn nt fr ps a b fd hm
def qd(P:Program)(C:Ctx)(ao:Value→List HP→Prop)(Fs:List HP)(w0:World)(n:Nat):Prop:=
 ∀ro c k st ρ L a w,VC P ao (run C n (.code c::k) st) ρ L→HW Fs w0 st ρ w→HA st.fr st.nt ρ a→BY ρ k ro→c.wpIn (FW ro) 0 P (QK P C ao Fs w0 n k ρ L) a w
def sq(P:Program)(C:Ctx)(ao:Value→List HP→Prop)(Fs:List HP)(w0:World)(n:Nat):Prop:=
 ∀ro all r k st ρ L a w,VC P ao (run C n (.ops all r::k) st) ρ L→HW Fs w0 st ρ w→HA st.fr st.nt ρ a→BY ρ k ro→wpListIn (FW ro) 0 P all (QK P C ao Fs w0 n k ρ L) r a w
def GF(P:Program)(C:Ctx)(ao:Value→List HP→Prop)(Fs:List HP)(w0:World)(n:Nat):Prop:=
 ∀ro id all pm k st ρ L a w,VC P ao (run C n (.sn all pm (aec all.size) 0 []::k) st) ρ L→kq all pm=true→yE all pm=true→HW Fs w0 st ρ w→HA st.fr st.nt ρ a→BY ρ k ro→
  (Code.region id all true).wpIn (FW ro) 0 P (QK P C ao Fs w0 n k ρ L) a w
def ME(P:Program)(C:Ctx)(ao:Value→List HP→Prop)(Fs:List HP)(w0:World)(n:Nat):Prop:=
 ∀ro g ps x y k st ρ L a w,VC P ao (run C n (.code (.rangeFunc g ps x y)::k) st) ρ L→HW Fs w0 st ρ w→HA st.fr st.nt ρ a→BY ρ k ro→
  (Code.rangeFunc g ps x y).wpIn (FW ro) 0 P (QK P C ao Fs w0 n k ρ L) a w
theorem QK.here{n m:Nat}{k k':List KI}{ρ:Env}{L:Nat→LC}{e:Exit}{a:Act}{w:World}{st:St}(hm:m<n)(hk:resume e k=some k')
  (hv:VC P ao (run C m k' st) ρ L) (hw:HW Fs w0 st ρ w) (ha:HA st.fr st.nt ρ a):QK P C ao Fs w0 n k ρ L e a w:=
 ⟨k',hk,m,hm,st,ρ,L,Env.Le.refl _,fun _ _=>rfl,hw,ha,hv⟩
theorem HW.know{st:St}{ρ:Env}{w:World}(h:HW Fs w0 st ρ w){b:BE}(hb:b.prop ρ)(hs:b.sc st.aQ=true):HW Fs w0 {st with known:=b::st.known} ρ w:=
 ⟨h.lens,h.kz,h.fg,by rw [List.all_cons,hs,h.nE];rfl,fun x hx=>(List.mem_cons.1 hx).elim (fun e=>e▸hb) (h.kn x),h.own,h.same,h.lu⟩
theorem CV{c:cz}{b:BE}(h:b.sc c=true):(iE b).sc c=true:=by
 unfold iE;split
 ·rfl
 ·exact h
 ·exact h
theorem gg.le{ρ bC:Env}{c d:cz}(h:gg ρ c)(h':gg bC d)(hle:Env.Le ρ bC):c.le d:=by
 obtain⟨x,rfl⟩:=hle;constructor
 ·rw [←h.b,←h'.b];simp [Env.ext]
 ·rw [←h.v,←h'.v];simp [Env.ext]
 ·rw [←h.i,←h'.i];simp [Env.ext]
 ·rw [←h.a,←h'.a];simp [Env.ext]
 ·rw [←h.bo,←h'.bo];simp [Env.ext]
 ·rw [←h.p,←h'.p];simp [Env.ext]
 ·rw [←h.r,←h'.r];simp [Env.ext]
theorem wA{x y:List (Nat×SV)}{s:Nat}{v:SV}(h:look (x++y) s=some v):look x s=some v∨look y s=some v:=by
 induction x with
 | nil=>exact .inr h
 | cons t r ih=>
  obtain⟨q,u⟩:=t;have h':(if q==s then some u else look (r++y) s)=some v:=h;show(if q==s then some u else look r s)=some v∨look y s=some v;by_cases hq:(q==s)=true
  ·rw [if_pos hq]at h' ⊢;exact .inl h'
  ·rw [if_neg hq]at h' ⊢;exact ih h'
theorem lP{x:List (Nat×SV)}{f:Nat→Bool}{s:Nat}{v:SV}(h:look (x.filter fun y=>f y.1) s=some v):look x s=some v:=by
 induction x with
 | nil=>cases h
 | cons t r ih=>
  obtain⟨q,u⟩:=t;by_cases hf:f q=true
  ·rw [List.filter_cons_of_pos (by exact hf)]at h;unfold look at h ⊢;split at h
   ·rename_i hq;simp only [hq,if_true];exact h
   ·rename_i hq;simp only [hq];exact ih h
  ·rw [List.filter_cons_of_neg (by exact hf)]at h;have:=ih h;unfold look;split
   ·rename_i hq;rw [beq_iff_eq]at hq;subst hq;exfalso;apply hf;clear ih this
    induction r with
    | nil=>cases h
    | cons t' r' Uc=>
     obtain⟨q',u'⟩:=t';by_cases D0:f q'=true
     ·rw [List.filter_cons_of_pos (by exact D0)]at h;unfold look at h;split at h
      ·rename_i hq';rw [beq_iff_eq]at hq';subst hq';exact D0
      ·exact Uc h
     ·rw [List.filter_cons_of_neg (by exact D0)]at h;exact Uc h
   ·exact this
theorem fU.trans{c:cz}{a b d:Env}(h:fU c a b)(k:fU c b d):fU c a d:=
 ⟨fun i hi=>(h.b i hi).trans (k.b i hi),fun i hi=>(h.v i hi).trans (k.v i hi),fun i hi=>(h.i i hi).trans (k.i i hi),fun i hi=>(h.a i hi).trans (k.a i hi),fun i hi=>(h.bo i hi).trans (k.bo i hi),fun i hi=>(h.p i hi).trans (k.p i hi),fun i hi=>(h.r i hi).trans (k.r i hi),h.va.trans k.va⟩
theorem bd.front{a b Fs:List HP}{w:World}(h:bd (a++b++Fs) w):bd (a++Fs) w:=by
 refine h.rI (fun j=>if j<a.length then some j else some (j+b.length)) ?_ ?_
 ·intro j x hx;right;by_cases h1:j<a.length
  ·refine⟨j,by simp [h1],?_⟩;rw [adO h1]at hx;rw [List.append_assoc,adO h1];exact hx
  ·refine⟨j+b.length,by simp [h1],?_⟩;rw [adQ (by omega)]at hx;rw [adQ (by simp;omega),List.length_append,show j+b.length - (a.length+b.length)=j - a.length by omega];exact hx
 ·intro j j' i hj ky _ _;split at hj<;>split at ky<;>simp only [adK]at hj ky<;>omega
theorem nD{ρ bC:Env}: ∀{x y:List MK} {l:List eu},lb x y=some l→kU ρ bC l→marks ρ x=marks bC y
 | [],[],l,_,_=>rfl
 | .one b::r,.one b'::r',l,h,hl=>by
  simp only [lb,adM]at h;obtain⟨z,hz,rfl⟩:=h;have h1:=hl _ adN;simp only [eu.holds]at h1;have h2:=nD hz fun x hx=>hl x (adP _ hx)
  simp only [marks,List.flatMap_cons,List.map_append,MK.blocks,h1]at h2 ⊢;rw [h2]
 | .many b::r,.many b'::r',l,h,hl=>by
  simp only [lb,adM]at h;obtain⟨z,hz,rfl⟩:=h;have h1:=hl _ adN;simp only [eu.holds]at h1;have h2:=nD hz fun x hx=>hl x (adP _ hx)
  simp only [marks,List.flatMap_cons,List.map_append,MK.blocks,h1]at h2 ⊢;rw [h2]
 | [],.one _::_,_,h,_=>by cases h
 | [],.many _::_,_,h,_=>by cases h
 | .one _::_,[],_,h,_=>by cases h
 | .many _::_,[],_,h,_=>by cases h
 | .one _::_,.many _::_,_,h,_=>by cases h
 | .many _::_,.one _::_,_,h,_=>by cases h
theorem jx{st:St}{ρ qO Ip:Env}{a:Act}{w:World}{c0:cz}{FQ:List (Nat×SV)}{jE:List Ck}{x y z:List eu}{nt xK:NT}
  (hw:HW Fs w0 st ρ w) (ha:HA st.fr nt ρ a) (h1:gg qO c0) (hle:Env.Le qO ρ) (V9:Env.Le qO Ip)
  (hx:mL FQ st.fr=some x) (hy:mM jE st.hp=some y) (hz:lb xK.ds nt.ds=some z) (hn:xK.n=nt.n) (hh:kU Ip ρ ((x++y++z).filter fun q=> !q.trivial c0)):
  HA FQ xK Ip a∧bd (jE.map (Ck.den Ip)++Fs) w:=by
 have ey:fU c0 Ip ρ:=(Env.Le.agree h1 V9).symm.trans (Env.Le.agree h1 hle);obtain⟨k12,k3⟩:=(kU.all ey hh).app;obtain⟨k1,k2⟩:=k12.app;refine⟨⟨ha.defers.trans (nD hz k3).symm,hn▸ha.size,fun s v hs=>?_⟩,?_⟩
 ·obtain⟨v',ri,he⟩:=nq hx k1 s v hs;rw [ha.aV s v' ri,he]
 ·obtain⟨more,hm⟩:=rH ey.va hy k2;have:=hw.own;rw [hm]at this;exact this.front
theorem oZ{ld:St}{qO:Env}{w:World}{inc:cz}{e:Ext}{aV:List (Nat×SV)}{f:Nat→Bool}{jE:List Ck}{xK:NT}
  (h1:gg qO ld.aQ) (he:e.Fits inc) (je:kW (ld.aQ.add inc) aV=true) (tL:jE.all (Ck.sc (ld.aQ.add inc))=true) (jZ:kW ld.aQ ld.fr=true)
  (LG:xK.ds.all (MK.sc (ld.aQ.add inc))=true) (jq:fQ w0 w) (own:bd (jE.map (Ck.den (qO.ext e))++Fs) w):
  HW Fs w0 {ld with fr:=aV++ld.fr.filter (fun x=>f x.1),hp:=jE,aQ:=ld.aQ.add inc,known:=[],nt:=xK} (qO.ext e) w:=by
 refine⟨h1.ext he,?_,tL,rfl,fun b hb=>(by cases hb),own,jq,LG⟩;simp only [kW,List.all_append,ai];refine⟨je,adI.2 fun x hx=>?_⟩;exact SV.bg (cz.jS _ _) (adI.1 jZ x (ad7.1 hx).1)
theorem lB{α:Type}(p:α→Bool)(e:α)(he:p e=true): ∀(use:List Nat) (hp new:List α),hp.all p=true→new.all p=true→(ko e hp use new).all p=true
 | [],hp,new,h1,h2=>by simp only [ko,List.all_append,h1,h2,Bool.and_self]
 | i::r,hp,c::cs,h1,h2=>by
  simp only [List.all_cons,ai]at h2;refine lB p e he r _ _ (adI.2 fun x hx=>?_) h2.2;rcases aee hx with hx | rfl
  ·exact adI.1 h1 x hx
  ·exact h2.1
 | i::r,hp,[],h1,h2=>by
  refine lB p e he r _ _ (adI.2 fun x hx=>?_) h2;rcases aee hx with hx | rfl
  ·exact adI.1 h1 x hx
  ·exact he
theorem At.gh{n:Nat}{g:St→Option eg}{k:List KI}{ρ:Env}{L:Nat→LC}{a:Act}{w:World}(h:At P C ao Fs w0 n (.gh g::k) ρ L a w):At P C ao Fs w0 n k ρ L a w:=by
 obtain⟨m,hm,st,bC,L',h1,h2,h3,h4,h5⟩:=h
 induction m generalizing st with
 | zero=>exact h5.elim
 | succ m ih=>
  simp only [run]at h5;split at h5
  ·exact⟨m,by omega,st,bC,L',h1,h2,h3,h4,h5⟩
  ·rename_i s hs;split at h5
   ·rename_i b hb;split at h5
    case isFalse=>exact h5.elim
    rename_i iM;simp only [VC,aU]at h5;cases hd:b.den bC with
    | true=>
     have hp:=(BE.bY bC b).1 hd;exact ih (by omega) _ (h3.know hp iM) h4 (h5.1 hp)
    | false=>
     have hp: ¬b.prop bC:=fun h=>by rw [←BE.bY,hd]at h;cases h
     have jE:(iE b).prop bC:=by rw [←BE.bY,dh,hd];rfl
     exact ih (by omega) _ (h3.know jE (CV iM)) h4 (h5.2 hp)
   rename_i hsp;split at h5
   ·rename_i idx acM;split at h5
    case isFalse=>exact h5.elim
    rename_i hc;rw [ai,decide_eq_true_eq]at hc;obtain⟨cK,fY⟩:=hc;have cK: ∀i∈idx,i<st.hp.length:=fun i hi=>by simpa [adX] using adI.1 cK i hi
    refine⟨m,by omega,{st with hp:=idx.map fun i=>st.hp.getD i .emp},bC,L',h1,h2,⟨h3.lens,h3.kz,?_,h3.nE,h3.kn,?_,h3.same,h3.lu⟩,h4,h5⟩
    ·refine adI.2 fun x hx=>?_
     obtain⟨i,hi,rfl⟩:=aeu.1 hx;have hl:=cK i hi;rw [List.getD_eq_getElem?_getD,ad9 hl];exact adI.1 h3.fg _ (List.getElem_mem hl)
    ·refine h3.own.pick (idx++(aec Fs.length).map (st.hp.length+ ·)) _ ?_ ?_
     ·refine List.nodup_append.2 ⟨fY,?_,?_⟩
      ·exact List.Pairwise.map _ (fun a b h=>by omega) List.nodup_range
      ·intro x hx y hy;have:=cK x hx;obtain⟨q,_,rfl⟩:=aeu.1 hy;omega
     ·intro j;by_cases hj:j<idx.length
      ·have hl:=cK idx[j] (List.getElem_mem hj);have e1:(((idx.map fun i=>st.hp.getD i .emp).map (Ck.den bC))++Fs)[j]? =some ((st.hp[idx[j]]).den bC):=by
        rw [adO (by simpa using hj)];simp [hj,hl]
       have e2:(st.hp.map (Ck.den bC)++Fs)[idx[j]]? =some ((st.hp[idx[j]]).den bC):=by
        rw [adO (by simpa using hl)];simp [hl]
       rw [e1,adO hj,ad9 hj,Option.bind_some,e2]
      ·rw [adQ (by simpa using hj),adQ (by omega)];simp only [List.length_map,List.getElem?_map];by_cases hq:j - idx.length<Fs.length
       ·rw [List.getElem?_range hq,Option.map_some,Option.bind_some,adQ (by simp)];simp
       ·rw [aeh (by omega),aeh (by simpa using hq)];simp
   split at h5
   case h_2=>exact h5.elim
   rename_i eqs heq;split at h5
   case isFalse=>exact h5.elim
   rename_i iM;simp only [ai,decide_eq_true_eq]at iM;obtain⟨⟨⟨je,tL⟩,jZ⟩,C3⟩:=iM;have cK: ∀i∈s.use,i<st.hp.length:=fun i hi=>by simpa [adX] using adI.1 jZ i hi
   simp only [VC]at h5;obtain⟨I,hI,hr⟩:=h5;rw [oJ]at hr;have cE:=bd.tF (acc:=[]) (use:=s.use) (by simpa using h3.own) C3 (by simpa using cK);have HU:(s.use.map fun i=>st.hp.getD i .emp).map (Ck.den bC)=s.use.map (fun i=>(st.hp.map (Ck.den bC)).getD i HP.emp):=by
    rw [List.map_map];refine List.map_congr_left fun i hi=>?_
    have:=cK i hi;simp [this]
   rw [List.nil_append,←HU]at cE;have hx:=hI _ _ cE;rw [jQ]at hx;obtain⟨e,hf,hq⟩:=hx;rw [tD]at hq;obtain⟨hh,zT,ZZ⟩:=hq;have hle:=Env.gi bC e;have ey:=Env.Le.agree h3.lens hle;refine⟨m,by omega,_,bC.ext e,L',h1.trans hle,h2,?_,?_,hr e hf ZZ⟩
   ·refine⟨h3.lens.ext hf,?_,?_,eO (cz.jS _ _) h3.nE,fun b hb=>?_,?_,h3.same,c_ (cz.jS _ _) h3.lu⟩
    ·simp only [kW,List.all_append,ai];refine⟨je,adI.2 fun x hx=>?_⟩;exact SV.bg (cz.jS _ _) (adI.1 h3.kz x (ad7.1 hx).1)
    ·exact lB _ _ rfl _ _ _ (im (cz.jS _ _) h3.fg) tL
    ·exact(BE.gn ey (adI.1 h3.nE b hb)).1 (h3.kn b hb)
    ·have h1:=bd.kK (use:=s.use) zT (fun i hi=>by rw [kV];simpa using cK i hi) fun _ _=> .inr trivial
     rw [←iO _ _ _ C3,jP ey h3.fg]at h1;simp only [fq];rw [lq];exact h1
   ·have hm:=h4.more h3.kz h3.lu ey;refine⟨hm.defers,hm.size,fun x v hx=>?_⟩;rcases wA hx with hx | hx
    ·obtain⟨v',ri,he⟩:=nq heq hh x v hx;rw [h4.aV x v' ri,he]
    ·have:=lP (f:=fun q=> !(s.aV.any fun y=>y.1==q)) hx;exact hm.aV x v this
theorem QK.gh{n:Nat}{g:St→Option eg}{k:List KI}{ρ:Env}{L:Nat→LC}{e:Exit}{a:Act}{w:World}(h:QK P C ao Fs w0 n (.gh g::k) ρ L e a w):QK P C ao Fs w0 n k ρ L e a w:=by
 cases e with
 | normal=>
  obtain⟨k',hk,dM⟩:=h;cases hk;exact⟨k,rfl,dM.gh⟩
 | exit id=>exact QK.move (k:=k) h rfl fun _ _=>rfl
 | ret=>exact QK.move (k:=k) h rfl fun _ _=>rfl
 | goto l=>obtain⟨k',hk,_⟩:=h;cases hk
 | panic l=>obtain⟨k',hk,_⟩:=h;cases hk
 | outgrown=>obtain⟨k',hk,_⟩:=h;cases hk
theorem wB{F:Fence}{n:Nat}{c:Code}{Q:Exit→Act→World→Prop}: ∀{m m':Nat} {a:Act} {w:World},m≤m'→Code.roundsIn F n P c Q m a w→Code.roundsIn F n P c Q m' a w
 | 0,_,_,_,_,h=>h.elim
 | m+1,0,_,_,hm,_=>absurd hm (by omega)
 | m+1,m'+1,a,w,hm,h=>by
  refine wpIn_mono (show c.wpIn F n P (Exit.then (Code.roundsIn F n P c Q m) Q) a w from h) fun e a w hq=>?_
  cases e with
  | normal=>exact wB (by omega) hq
  | _=>exact hq
theorem OS{N:Nat}{ro:Option Nat}{body:Code}{k:List KI}{ρ:Env}{L:Nat→LC}(vW: ∀m,m<N→qd P C ao Fs w0 m): ∀(n:Nat),n<N→∀(st:St) (bC:Env) (L':Nat→LC) (a:Act) (w:World),
  VC P ao (run C n (.code body:: .again body::k) st) bC L'→Env.Le ρ bC→(∀j,j<nl k→L' j=L j)→HW Fs w0 st bC w→HA st.fr st.nt bC a→BY bC k ro→Code.roundsIn (FW ro) 0 P body (QK P C ao Fs w0 N k ρ L) (n+1) a w:=by
 intro n
 induction n using Nat.strongRecOn with
 | _ n ih=>
  intro hn st bC L' a w hv hle hL hw ha hk;refine wpIn_mono (vW n hn ro body (.again body::k) st bC L' a w hv hw ha (hk.push rfl)) ?_;intro e a' w' hq;cases e with
  | normal=>
   obtain⟨k',Ui,m,hm,D7,Ip,L2,h1,h2,h3,h4,h5⟩:=hq;cases Ui;cases m with
   | zero=>exact h5.elim
   | succ m=>
    have:=ih m (by omega) (by omega) D7 Ip L2 a' w' h5 (hle.trans h1) (fun j hj=>(h2 j hj).trans (hL j hj)) h3 h4 (hk.le h1);exact wB (by omega) this
  | exit id=>exact(QK.move (k:=k) hq rfl fun _ _=>rfl).mono (by omega) hle hL
  | ret=>exact(QK.move (k:=k) hq rfl fun _ _=>rfl).mono (by omega) hle hL
  | goto l=>obtain⟨k',hk,_⟩:=hq;cases hk
  | panic l=>obtain⟨k',hk,_⟩:=hq;cases hk
  | outgrown=>obtain⟨k',hk,_⟩:=hq;cases hk
theorem Ed(_:bw P C.T=true){n:Nat}(vW: ∀m,m<n→qd P C ao Fs w0 m)(LF: ∀m,m<n→sq P C ao Fs w0 m)(Z0: ∀m,m<n→GF P C ao Fs w0 m)(IHr:ME P C ao Fs w0 n):qd P C ao Fs w0 n:=by
 intro ro c k st ρ L a w hv hw ha fG;cases n with
 | zero=>exact hv.elim
 | succ n=>
  have hn:n<n+1:=Nat.lt_succ_self n;cases c with
  | skip=>exact wpIn_skip (QK.here hn rfl hv hw ha)
  | label l=>exact wpIn_label (QK.here hn rfl hv hw ha)
  | seq x y=>
   refine wpIn_seq (wpIn_mono (vW n hn ro x (.code y::k) st ρ L a w hv hw ha (fG.push rfl)) ?_);intro e a' w' hq;cases e with
   | normal=>
    obtain⟨k',hk,m,hm,df,bC,L',h1,h2,h3,h4,h5⟩:=hq;cases hk;refine wpIn_mono (vW m (by omega) ro y k df bC L' a' w' h5 h3 h4 (fG.le h1)) fun e a w hq=>?_
    exact hq.mono (by omega) h1 h2
   | exit id=>exact(QK.move (k:=k) hq rfl fun _ _=>rfl).mono (Nat.le_succ n) (Env.Le.refl _) fun _ _=>rfl
   | ret=>exact(QK.move (k:=k) hq rfl fun _ _=>rfl).mono (Nat.le_succ n) (Env.Le.refl _) fun _ _=>rfl
   | goto l=>obtain⟨k',hk,_⟩:=hq;cases hk
   | panic l=>obtain⟨k',hk,_⟩:=hq;cases hk
   | outgrown=>obtain⟨k',hk,_⟩:=hq;cases hk
  | cond x t e=>
   simp only [run]at hv;have up: ∀{e:Exit} {a:Act} {w:World},QK P C ao Fs w0 n k ρ L e a w→QK P C ao Fs w0 (n+1) k ρ L e a w:=fun hq=>hq.mono (Nat.le_succ n) (Env.Le.refl _) fun _ _=>rfl
   split at hv
   ·rename_i hc;have:=oY ha hw.kn hc;exact wpIn_cond_true this (wpIn_mono (vW n hn ro t k st ρ L a w hv hw ha fG) fun e a w hq=>up hq)
   ·rename_i hc;have:=oY ha hw.kn hc;exact wpIn_cond_false this (wpIn_mono (vW n hn ro e k st ρ L a w hv hw ha fG) fun e a w hq=>up hq)
   ·rename_i b _ _ hc;have hb:=oY ha hw.kn hc;split at hv
    ·rename_i iM;simp only [VC,aU]at hv;cases hd:b.den ρ with
     | true=>
      have hp:=(BE.bY ρ b).1 hd;exact wpIn_cond_true (by rw [hb,hd]) (wpIn_mono (vW n hn ro t k _ ρ L a w (hv.1 hp) (hw.know hp iM) ha fG) fun e a w hq=>up hq)
     | false=>
      have hp: ¬b.prop ρ:=fun h=>by rw [←BE.bY,hd]at h;cases h
      have jE:(iE b).prop ρ:=by rw [←BE.bY,dh,hd];rfl
      exact wpIn_cond_false (by rw [hb,hd]) (wpIn_mono (vW n hn ro e k _ ρ L a w (hv.2 hp) (hw.know jE (CV iM)) ha fG) fun e a w hq=>up hq)
    ·exact hv.elim
   ·exact hv.elim
  | block id b=>
   simp only [run]at hv;split at hv;rotate_left
   ·rename_i ja TA;split at hv
    case isFalse=>exact hv.elim
    rename_i iM;simp only [ai]at iM;obtain⟨⟨⟨je,tL⟩,jZ⟩,C3⟩:=iM;simp only [VC]at hv;obtain⟨I,OT,xY⟩:=hv;rw [oJ]at xY;have Jh: ∀(m:Nat) (df:St) (bC:Env) (L':Nat→LC) (a':Act) (w':World),m≤n→Env.Le ρ bC→(∀j,j<nl k+1→L' j=uz L (nl k) ⟨I,fun _=>0,⟨[],[],[],[],[],[],[]⟩⟩ j)→
      HW Fs w0 df bC w'→HA df.fr df.nt bC a'→
      VC P ao (run C m (.jn (some id) (nl k) {st.nt with ds:=ja.ds st.aQ st.nt.ds} st.aQ ja.inc (ja.aV st.aQ++st.fr.filter fun x=> !((writes b).contains x.1)&& !((ja.aV st.aQ).any fun y=>y.1==x.1)) (ja.hp st.aQ st.hp) ja.pre::k) df) bC L'→
      QK P C ao Fs w0 (n+1) k ρ L .normal a' w':=by
     intro m df bC L' a' w' hm hle hL g3 g4 g5;cases m with
     | zero=>exact g5.elim
     | succ m=>
      simp only [run]at g5;split at g5
      ·exact g5.elim
      rename_i st9 nn9 FG;obtain⟨Z1,OU,g3,g4,Wf,g5⟩:=jw FG g3 g4 g5;have hle:=hle.trans OU;split at g5
      ·rename_i x' y' z' T5 T6 Gj;split at g5
       ·exact g5.elim
       ·rename_i An;simp only [bne_iff_ne,ne_eq,ad5]at An;simp only [VC]at g5;rw [jQ]at g5;obtain⟨e2,RN,Pe⟩:=g5;rw [Env.Le.take hw.lens hle,tD]at Pe;obtain⟨Wg,Pg⟩:=Pe;have Z2:(L' (nl k)).I=I:=by
         rw [hL _ (by omega)];simp [uz]
        rw [Z2]at Pg;obtain⟨r1,r2⟩:=jx (xK:={st.nt with ds:=ja.ds st.aQ st.nt.ds}) g3 g4 hw.lens hle (Env.gi ρ e2) T5 T6 Gj An.symm Wg;refine⟨k,rfl,n,by omega,_,ρ.ext e2,L,Env.gi ρ e2,fun _ _=>rfl,?_,r1,xY e2 RN Pg⟩;exact oZ (f:=fun q=> !((writes b).contains q)&& !((ja.aV st.aQ).any fun y=>y.1==q)) hw.lens RN je tL hw.kz C3 g3.same r2
      ·exact g5.elim
      ·exact g5.elim
      ·exact g5.elim
    refine wpIn_block (wpIn_mono (vW n hn ro b _ st ρ _ a w OT hw ha (fG.push rfl)) ?_);intro e a' w' hq;cases e with
    | normal=>
     obtain⟨k',hk,m,hm,df,bC,L',h1,h2,h3,h4,h5⟩:=hq;cases hk;exact Jh m df bC L' a' w' (Nat.le_of_lt hm) h1 h2 h3 h4 h5
    | exit Z3=>
     simp only [Exit.inBlock];split
     ·rename_i he;subst he;obtain⟨k',hk,m,hm,df,bC,L',h1,h2,h3,h4,h5⟩:=hq;simp only [resume,dc,beq_self_eq_true,if_true,adK]at hk;subst hk;exact Jh m df bC L' a' w' (Nat.le_of_lt hm) h1 h2 h3 h4 h5
     ·rename_i he;refine(QK.move (k:=k) (L:=L) hq ?_ fun j hj=>?_).mono (Nat.le_succ n) (Env.Le.refl _) fun _ _=>rfl
      ·simp only [resume,dc];rw [if_neg (by simpa using Ne.symm he)]
      ·simp only [uz];rw [if_neg (by omega)]
    | ret=>
     refine(QK.move (k:=k) (L:=L) hq rfl fun j hj=>?_).mono (Nat.le_succ n) (Env.Le.refl _) fun _ _=>rfl
     simp only [uz];rw [if_neg (by omega)]
    | goto l=>obtain⟨k',hk,_⟩:=hq;cases hk
    | panic l=>obtain⟨k',hk,_⟩:=hq;cases hk
    | outgrown=>obtain⟨k',hk,_⟩:=hq;cases hk
   refine wpIn_block (wpIn_mono (vW n hn ro b (.s5 id::k) st ρ L a w hv hw ha (fG.push rfl)) ?_);intro e a' w' hq;cases e with
   | normal=>
    obtain⟨k',hk,m,hm,df,bC,L',h1,h2,h3,h4,h5⟩:=hq;cases hk;cases m with
    | zero=>exact h5.elim
    | succ m=>exact⟨k,rfl,m,by omega,df,bC,L',h1,h2,h3,h4,h5⟩
   | exit Z3=>
    simp only [Exit.inBlock];split
    ·rename_i he;subst he;obtain⟨k',hk,m,hm,df,bC,L',h1,h2,h3,h4,h5⟩:=hq;simp only [resume,dc,beq_self_eq_true,if_true,adK]at hk;subst hk;exact⟨k,rfl,m,by omega,df,bC,L',h1,h2,h3,h4,h5⟩
    ·rename_i he;refine(QK.move (k:=k) hq ?_ fun _ _=>rfl).mono (Nat.le_succ n) (Env.Le.refl _) fun _ _=>rfl
     simp only [resume,dc];rw [if_neg (by simpa using Ne.symm he)]
   | ret=>exact(QK.move (k:=k) hq rfl fun _ _=>rfl).mono (Nat.le_succ n) (Env.Le.refl _) fun _ _=>rfl
   | goto l=>obtain⟨k',hk,_⟩:=hq;cases hk
   | panic l=>obtain⟨k',hk,_⟩:=hq;cases hk
   | outgrown=>obtain⟨k',hk,_⟩:=hq;cases hk
  | loop body=>
   simp only [run]at hv;split at hv
   ·rename_i id k0;split at hv
    ·exact wpIn_loop_rounds _ (OS vW n hn st ρ L a w hv (Env.Le.refl _) (fun _ _=>rfl) hw ha fG)
    ·rename_i la hla;split at hv
     ·exact hv.elim
     ·rename_i ld nn kG;obtain⟨qO,OJ,w_,GH,XF,vO⟩:=jw kG hw ha hv;split at vO
      ·rename_i x y z hx hy hz;split at vO
       ·rename_i iM;simp only [ai]at iM;obtain⟨⟨⟨je,tL⟩,jZ⟩,C3⟩:=iM;simp only [VC]at vO;obtain⟨I,μ,OV,OW⟩:=vO;rw [jQ]at OV;rw [oJ]at OW;obtain⟨e0,sH,hq0⟩:=OV;rw [tD]at hq0;obtain⟨hh0,hI0⟩:=hq0;obtain⟨q1,q2⟩:=jx (xK:={ld.nt with ds:=la.ds ld.aQ ld.nt.ds}) w_ GH w_.lens (Env.Le.refl _) (Env.gi qO e0) hx hy hz rfl hh0;refine wpIn_loop_ghost (fun n' a w=> ∃e:Ext,e.Fits la.inc∧I e∧μ e=n'∧HW Fs w0
          {ld with fr:=la.aV ld.aQ++ld.fr.filter (fun x=> !((writes body).contains x.1)&& !((la.aV ld.aQ).any fun y=>y.1==x.1)),hp:=la.hp ld.aQ ld.hp,aQ:=ld.aQ.add la.inc,known:=[],nt:={ld.nt with ds:=la.ds ld.aQ ld.nt.ds}} (qO.ext e) w∧
          HA (la.aV ld.aQ++ld.fr.filter (fun x=> !((writes body).contains x.1)&& !((la.aV ld.aQ).any fun y=>y.1==x.1))) {ld.nt with ds:=la.ds ld.aQ ld.nt.ds} (qO.ext e) a) (μ e0) ⟨e0,sH,hI0,rfl,?_,?_⟩ ?_
        ·exact oZ (f:=fun q=> !((writes body).contains q)&& !((la.aV ld.aQ).any fun y=>y.1==q)) w_.lens sH je tL w_.kz C3 w_.same q2
        ·refine⟨q1.defers,q1.size,fun s v hs=>?_⟩;rcases wA hs with hs | hs
         ·exact q1.aV s v hs
         ·have:=lP (f:=fun q=> !((writes body).contains q)&& !((la.aV ld.aQ).any fun y=>y.1==q)) hs;rw [GH.aV s v this];exact(SV.uP (Env.Le.agree w_.lens (Env.gi qO e0)) (BW w_.kz this)).1
        ·intro n' a2 w2 Pg;obtain⟨e,he,ZZ,hμ,D9,Uq⟩:=Pg;subst hμ;have hvb:=OW e he ZZ;refine wpIn_mono (vW n hn ro body _ _ _ _ a2 w2 hvb D9 Uq ((fG.le (OJ.trans (Env.gi qO e))).push rfl)) ?_;intro ex a3 w3 hq;cases ex with
         | normal=>
          obtain⟨k',hk,m,hm,df,bC,L',g1,g2,g3,g4,g5⟩:=hq;cases hk;cases m with
          | zero=>exact g5.elim
          | succ m=>
           simp only [run]at g5;split at g5
           ·exact g5.elim
           rename_i st9 nn9 FG;obtain⟨Z1,OU,g3,g4,Wf,g5⟩:=jw FG g3 g4 g5;have g1:=g1.trans OU;split at g5
           ·rename_i x' y' z' T5 T6 Gj;split at g5
            ·exact g5.elim
            ·rename_i An;simp only [bne_iff_ne,ne_eq,ad5]at An;simp only [VC]at g5;rw [jQ]at g5;obtain⟨e2,RN,Pe⟩:=g5;have Lq:Env.Le qO Z1:=(Env.gi qO e).trans g1;rw [Env.Le.take w_.lens Lq,tD]at Pe;obtain⟨Wg,Pg,Wh⟩:=Pe;have hL:L' (nl (.s5 id::k0))=⟨I,μ,e⟩:=by
              rw [g2 _ (by simp [nl])];simp [uz]
             rw [hL]at Pg Wh;obtain⟨r1,r2⟩:=jx (xK:={ld.nt with ds:=la.ds ld.aQ ld.nt.ds}) g3 g4 w_.lens Lq (Env.gi qO e2) T5 T6 Gj An.symm Wg;refine⟨μ e2,Wh,e2,RN,Pg,rfl,?_,r1⟩;exact oZ (f:=fun q=> !((writes body).contains q)&& !((la.aV ld.aQ).any fun y=>y.1==q)) w_.lens RN je tL w_.kz C3 g3.same r2
           ·exact g5.elim
           ·exact g5.elim
         | exit Z3=>
          refine(QK.move (k:= .s5 id::k0) (L:=L) hq rfl ?_).mono (Nat.le_succ n) (OJ.trans (Env.gi qO e)) fun _ _=>rfl
          intro j hj;simp only [uz];rw [if_neg (by omega)]
         | ret=>
          refine(QK.move (k:= .s5 id::k0) (L:=L) hq rfl ?_).mono (Nat.le_succ n) (OJ.trans (Env.gi qO e)) fun _ _=>rfl
          intro j hj;simp only [uz];rw [if_neg (by omega)]
         | goto l=>obtain⟨k',hk,_⟩:=hq;cases hk
         | panic l=>obtain⟨k',hk,_⟩:=hq;cases hk
         | outgrown=>obtain⟨k',hk,_⟩:=hq;cases hk
       ·exact vO.elim
      ·exact vO.elim
   ·exact wpIn_loop_rounds _ (OS vW n hn st ρ L a w hv (Env.Le.refl _) (fun _ _=>rfl) hw ha fG)
  | exit id=>
   simp only [run]at hv;split at hv
   ·rename_i k' hk;exact wpIn_exit (QK.here hn hk hv hw ha)
   ·exact hv.elim
  | ret=>
   simp only [run]at hv;split at hv
   ·rename_i k' hk;exact wpIn_ret (QK.here hn hk hv hw ha)
   ·exact hv.elim
  | region id ops draw=>
   cases draw with
   | false=>
    simp only [run]at hv;split at hv
    ·exact wpIn_region_list (eY (fun e a w hq=>hq.mono (Nat.le_succ n) (Env.Le.refl _) fun _ _=>rfl) (LF n hn ro ops ops.toList k st ρ L a w hv hw ha fG))
    ·exact wpIn_region_list (eY (fun e a w hq=>hq.gh.mono (Nat.le_succ n) (Env.Le.refl _) fun _ _=>rfl) (LF n hn ro ops ops.toList _ st ρ L a w hv hw ha (fG.push rfl)))
   | true=>
    simp only [run]at hv;split at hv
    ·rename_i hc;simp only [ai]at hc;split at hv
     ·rename_i ja TA;split at hv
      case isFalse=>exact hv.elim
      rename_i iM;simp only [ai]at iM;obtain⟨⟨⟨je,tL⟩,jZ⟩,C3⟩:=iM;simp only [VC]at hv;obtain⟨I,OT,xY⟩:=hv;rw [oJ]at xY;have Jh: ∀(m:Nat) (df:St) (bC:Env) (L':Nat→LC) (a':Act) (w':World),m≤n→Env.Le ρ bC→(∀j,j<nl k+1→L' j=uz L (nl k) ⟨I,fun _=>0,⟨[],[],[],[],[],[],[]⟩⟩ j)→
        HW Fs w0 df bC w'→HA df.fr df.nt bC a'→
        VC P ao (run C m (.jn none (nl k) {st.nt with ds:=ja.ds st.aQ st.nt.ds} st.aQ ja.inc (ja.aV st.aQ++st.fr.filter fun x=> !((writes (.region id ops true)).contains x.1)&& !((ja.aV st.aQ).any fun y=>y.1==x.1)) (ja.hp st.aQ st.hp) ja.pre::k) df) bC L'→
        QK P C ao Fs w0 (n+1) k ρ L .normal a' w':=by
       intro m df bC L' a' w' hm hle hL g3 g4 g5;cases m with
       | zero=>exact g5.elim
       | succ m=>
        simp only [run]at g5;split at g5
        ·exact g5.elim
        rename_i st9 nn9 FG;obtain⟨Z1,OU,g3,g4,Wf,g5⟩:=jw FG g3 g4 g5;have hle:=hle.trans OU;split at g5
        ·rename_i x' y' z' T5 T6 Gj;split at g5
         ·exact g5.elim
         ·rename_i An;simp only [bne_iff_ne,ne_eq,ad5]at An;simp only [VC]at g5;rw [jQ]at g5;obtain⟨e2,RN,Pe⟩:=g5;rw [Env.Le.take hw.lens hle,tD]at Pe;obtain⟨Wg,Pg⟩:=Pe;have Z2:(L' (nl k)).I=I:=by
           rw [hL _ (by omega)];simp [uz]
          rw [Z2]at Pg;obtain⟨r1,r2⟩:=jx (xK:={st.nt with ds:=ja.ds st.aQ st.nt.ds}) g3 g4 hw.lens hle (Env.gi ρ e2) T5 T6 Gj An.symm Wg;refine⟨k,rfl,n,by omega,_,ρ.ext e2,L,Env.gi ρ e2,fun _ _=>rfl,?_,r1,xY e2 RN Pg⟩;exact oZ (f:=fun q=> !((writes (.region id ops true)).contains q)&& !((ja.aV st.aQ).any fun y=>y.1==q)) hw.lens RN je tL hw.kz C3 g3.same r2
        ·exact g5.elim
        ·exact g5.elim
        ·exact g5.elim
      refine wpIn_mono (Z0 n hn ro id ops _ _ st ρ _ a w OT hc.1 hc.2 hw ha ((fG.push rfl).push rfl)) ?_;intro e a' w' hq;have hq:=hq.gh;cases e with
      | normal=>
       obtain⟨k',hk,m,hm,df,bC,L',h1,h2,h3,h4,h5⟩:=hq;cases hk;exact Jh m df bC L' a' w' (Nat.le_of_lt hm) h1 h2 h3 h4 h5
      | exit Z3=>
       refine(QK.move (k:=k) (L:=L) hq rfl fun j hj=>?_).mono (Nat.le_succ n) (Env.Le.refl _) fun _ _=>rfl
       simp only [uz];rw [if_neg (by omega)]
      | ret=>
       refine(QK.move (k:=k) (L:=L) hq rfl fun j hj=>?_).mono (Nat.le_succ n) (Env.Le.refl _) fun _ _=>rfl
       simp only [uz];rw [if_neg (by omega)]
      | goto l=>obtain⟨k',hk,_⟩:=hq;cases hk
      | panic l=>obtain⟨k',hk,_⟩:=hq;cases hk
      | outgrown=>obtain⟨k',hk,_⟩:=hq;cases hk
     split at hv
     ·exact wpIn_mono (Z0 n hn ro id ops _ k st ρ L a w hv hc.1 hc.2 hw ha fG) fun e a w hq=>hq.mono (Nat.le_succ n) (Env.Le.refl _) fun _ _=>rfl
     ·exact wpIn_mono (Z0 n hn ro id ops _ _ st ρ L a w hv hc.1 hc.2 hw ha (fG.push rfl)) fun e a w hq=>hq.gh.mono (Nat.le_succ n) (Env.Le.refl _) fun _ _=>rfl
    ·exact hv.elim
  | rangeFunc f ps x y=>exact IHr ro f ps x y k st ρ L a w hv hw ha fG
  | scope x=>exact hv.elim
  | goto l=>exact hv.elim
  | refuse y=>exact hv.elim
end
end Go.RX
