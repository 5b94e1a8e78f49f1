/- Executor. -/
import Derived.Test.YtphemenngjkfbaaRxW
import Derived.LoopNIn
open Bool renaming and_eq_true → ai
open Decidable renaming not_not → agN
open List renaming all_eq_true → agv, append_assoc → ahf, getElem?_append_left → agC, getElem?_append_right → agD, getElem?_eq_getElem → ag6, getElem?_eq_none → ag7, map_congr_left → ag4, mem_cons_of_mem → agF, mem_cons_self → agA, mem_filter → agP, mem_map → ag9, mem_or_eq_of_mem_set → ag2, range → ag5
open Nat renaming blt_eq → agM
open Option renaming map_eq_some_iff → agz
open Option.some renaming injEq → agy
namespace Go.RX
section
variable {P:Program} {C:Ctx} {aq:Value→List HP→Prop} {Fs:List HP} {w0:World}
structure ED (ρ:Env) (k:List KI) (ro:Option Nat):Prop where
 rf: ∀l r fn nt fr ps x y fd,KI.rf l r fn nt fr ps x y fd∈k→∃yi c0,gK yi c0∧Env.Le yi ρ∧mH c0 fr=true∧r<c0.r∧(yi.lr.getD r iG).params=ps∧(yi.lr.getD r iG).assign=x∧
  (yi.lr.getD r iG).body=y∧HA fr ⟨nt.n,[]⟩ yi {tmps:=(yi.lr.getD r iG).tmps,defers:=[]}
 ro:match around k with
  | none=>ro=none
  | some l=> ∃yi c0,gK yi c0∧Env.Le yi ρ∧l<c0.b∧ro=some (yi.bv.getD l 0)
theorem ED.le{ρ bI:Env}{k:List KI}{ro:Option Nat}(h:ED ρ k ro)(hle:Env.Le ρ bI):ED bI k ro:=by
 refine⟨fun l r fn nt fr ps x y fd hm=>?_,?_⟩
 ·obtain⟨yi,c0,h1,h2,h3⟩:=h.rf l r fn nt fr ps x y fd hm;exact⟨yi,c0,h1,h2.trans hle,h3⟩
 ·have:=h.ro;split at this
  ·exact this
  ·obtain⟨yi,c0,h1,h2,h3⟩:=this;exact⟨yi,c0,h1,h2.trans hle,h3⟩
def KI.inner:KI→Bool
 | .code _=>true
 | .ops .. =>true
 | .ug .. =>true
 | .Oj .. =>true
 | .rT _=>true
 | .again _=>true
 | .loop .. =>true
 | .jn .. =>true
 | .gh _=>true
 | _=>false
theorem ED.push{ρ:Env}{k:List KI}{ro:Option Nat}(h:ED ρ k ro){x:KI}(hx:x.inner=true):ED ρ (x::k) ro:=by
 have ha:around (x::k)=around k:=by cases x<;>first | rfl | (simp [KI.inner]at hx;done)
 refine⟨fun l r fn nt fr ps a b fd hm=>?_,by rw [ha];exact h.ro⟩;rcases List.mem_cons.1 hm with rfl | hm
 ·simp [KI.inner]at hx
 ·exact h.rf l r fn nt fr ps a b fd hm
def rk(P:Program)(C:Ctx)(aq:Value→List HP→Prop)(Fs:List HP)(w0:World)(n:Nat):Prop:=
 ∀ro c k st ρ L a w,VC P aq (run C n (.code c::k) st) ρ L→HW Fs w0 st ρ w→HA st.fr st.nt ρ a→ED ρ k ro→c.wpIn (FW ro) 0 P (QK P C aq Fs w0 n k ρ L) a w
def uh(P:Program)(C:Ctx)(aq:Value→List HP→Prop)(Fs:List HP)(w0:World)(n:Nat):Prop:=
 ∀ro all r k st ρ L a w,VC P aq (run C n (.ops all r::k) st) ρ L→HW Fs w0 st ρ w→HA st.fr st.nt ρ a→ED ρ k ro→wpListIn (FW ro) 0 P all (QK P C aq Fs w0 n k ρ L) r a w
def II(P:Program)(C:Ctx)(aq:Value→List HP→Prop)(Fs:List HP)(w0:World)(n:Nat):Prop:=
 ∀ro id all pm k st ρ L a w,VC P aq (run C n (.ug all pm (ag5 all.size) 0 []::k) st) ρ L→lN all pm=true→Ay all pm=true→HW Fs w0 st ρ w→HA st.fr st.nt ρ a→ED ρ k ro→
  (Code.region id all true).wpIn (FW ro) 0 P (QK P C aq Fs w0 n k ρ L) a w
def Ow(P:Program)(C:Ctx)(aq:Value→List HP→Prop)(Fs:List HP)(w0:World)(n:Nat):Prop:=
 ∀ro g ps x y k st ρ L a w,VC P aq (run C n (.code (.rangeFunc g ps x y)::k) st) ρ L→HW Fs w0 st ρ w→HA st.fr st.nt ρ a→ED ρ k ro→
  (Code.rangeFunc g ps x y).wpIn (FW ro) 0 P (QK P C aq Fs w0 n k ρ L) a w
theorem QK.here{n m:Nat}{k k':List KI}{ρ:Env}{L:Nat→LC}{e:Exit}{a:Act}{w:World}{st:St}(hm:m<n)(hk:resume e k=some k')
  (hv:VC P aq (run C m k' st) ρ L) (hw:HW Fs w0 st ρ w) (ha:HA st.fr st.nt ρ a):QK P C aq Fs w0 n k ρ L e a w:=
 ⟨k',hk,m,hm,st,ρ,L,Env.Le.refl _,fun _ _=>rfl,hw,ha,hv⟩
theorem HW.know{st:St}{ρ:Env}{w:World}(h:HW Fs w0 st ρ w){b:BE}(hb:b.prop ρ)(hs:b.sc st.aS=true):HW Fs w0 {st with known:=b::st.known} ρ w:=
 ⟨h.lens,h.lX,h.gF,by rw [List.all_cons,hs,h.oO];rfl,fun x hx=>(List.mem_cons.1 hx).elim (fun e=>e▸hb) (h.kn x),h.own,h.same,h.mP⟩
theorem Fv{c:cF}{b:BE}(h:b.sc c=true):(iT b).sc c=true:=by
 unfold iT;split
 ·rfl
 ·exact h
 ·exact h
theorem gK.le{ρ bI:Env}{c d:cF}(h:gK ρ c)(h':gK bI d)(hle:Env.Le ρ bI):c.le d:=by
 obtain⟨x,rfl⟩:=hle;constructor
 ·rw [←h.b,←h'.b];simp [Env.ext]
 ·rw [←h.v,←h'.v];simp [Env.ext]
 ·rw [←h.i,←h'.i];simp [Env.ext]
 ·rw [←h.a,←h'.a];simp [Env.ext]
 ·rw [←h.bo,←h'.bo];simp [Env.ext]
 ·rw [←h.p,←h'.p];simp [Env.ext]
 ·rw [←h.r,←h'.r];simp [Env.ext]
theorem yH{x y:List (Nat×SV)}{s:Nat}{v:SV}(h:look (x++y) s=some v):look x s=some v∨look y s=some v:=by
 induction x with
 | nil=>exact .inr h
 | cons t r ih=>
  obtain⟨q,u⟩:=t;have h':(if q==s then some u else look (r++y) s)=some v:=h;show(if q==s then some u else look r s)=some v∨look y s=some v;by_cases hq:(q==s)=true
  ·rw [if_pos hq]at h' ⊢;exact .inl h'
  ·rw [if_neg hq]at h' ⊢;exact ih h'
theorem m_{x:List (Nat×SV)}{f:Nat→Bool}{s:Nat}{v:SV}(h:look (x.filter fun y=>f y.1) s=some v):look x s=some v:=by
 induction x with
 | nil=>cases h
 | cons t r ih=>
  obtain⟨q,u⟩:=t;by_cases hf:f q=true
  ·rw [List.filter_cons_of_pos (by exact hf)]at h;unfold look at h ⊢;split at h
   ·rename_i hq;simp only [hq,if_true];exact h
   ·rename_i hq;simp only [hq];exact ih h
  ·rw [List.filter_cons_of_neg (by exact hf)]at h;have:=ih h;unfold look;split
   ·rename_i hq;rw [beq_iff_eq]at hq;subst hq;exfalso;apply hf;clear ih this
    induction r with
    | nil=>cases h
    | cons t' r' WY=>
     obtain⟨q',u'⟩:=t';by_cases Gf:f q'=true
     ·rw [List.filter_cons_of_pos (by exact Gf)]at h;unfold look at h;split at h
      ·rename_i hq';rw [beq_iff_eq]at hq';subst hq';exact Gf
      ·exact WY h
     ·rw [List.filter_cons_of_neg (by exact Gf)]at h;exact WY h
   ·exact this
theorem gy.trans{c:cF}{a b d:Env}(h:gy c a b)(k:gy c b d):gy c a d:=
 ⟨fun i hi=>(h.b i hi).trans (k.b i hi),fun i hi=>(h.v i hi).trans (k.v i hi),fun i hi=>(h.i i hi).trans (k.i i hi),fun i hi=>(h.a i hi).trans (k.a i hi),fun i hi=>(h.bo i hi).trans (k.bo i hi),fun i hi=>(h.p i hi).trans (k.p i hi),fun i hi=>(h.r i hi).trans (k.r i hi),h.va.trans k.va⟩
theorem aU.front{a b Fs:List HP}{w:World}(h:aU (a++b++Fs) w):aU (a++Fs) w:=by
 refine h.tf (fun j=>if j<a.length then some j else some (j+b.length)) ?_ ?_
 ·intro j x hx;right;by_cases h1:j<a.length
  ·refine⟨j,by simp [h1],?_⟩;rw [agC h1]at hx;rw [ahf,agC h1];exact hx
  ·refine⟨j+b.length,by simp [h1],?_⟩;rw [agD (by omega)]at hx;rw [agD (by simp;omega),List.length_append,show j+b.length - (a.length+b.length)=j - a.length by omega];exact hx
 ·intro j j' i hj lW _ _;split at hj<;>split at lW<;>simp only [agy]at hj lW<;>omega
theorem oN{ρ bI:Env}: ∀{x y:List MK} {l:List eT},mK x y=some l→Hold ρ bI l→marks ρ x=marks bI y
 | [],[],l,_,_=>rfl
 | .one b::r,.one b'::r',l,h,hl=>by
  simp only [mK,agz]at h;obtain⟨z,hz,rfl⟩:=h;have h1:=hl _ agA;simp only [eT.holds]at h1;have h2:=oN hz fun x hx=>hl x (agF _ hx)
  simp only [marks,List.flatMap_cons,List.map_append,MK.blocks,h1]at h2 ⊢;rw [h2]
 | .many b::r,.many b'::r',l,h,hl=>by
  simp only [mK,agz]at h;obtain⟨z,hz,rfl⟩:=h;have h1:=hl _ agA;simp only [eT.holds]at h1;have h2:=oN hz fun x hx=>hl x (agF _ hx)
  simp only [marks,List.flatMap_cons,List.map_append,MK.blocks,h1]at h2 ⊢;rw [h2]
 | [],.one _::_,_,h,_=>by cases h
 | [],.many _::_,_,h,_=>by cases h
 | .one _::_,[],_,h,_=>by cases h
 | .many _::_,[],_,h,_=>by cases h
 | .one _::_,.many _::_,_,h,_=>by cases h
 | .many _::_,.one _::_,_,h,_=>by cases h
theorem kf{st:St}{ρ sj Kv:Env}{a:Act}{w:World}{c0:cF}{H6:List (Nat×SV)}{mQ:List Ck}{x y z:List eT}{nt zz:NT}
  (hw:HW Fs w0 st ρ w) (ha:HA st.fr nt ρ a) (h1:gK sj c0) (hle:Env.Le sj ρ) (Zi:Env.Le sj Kv)
  (hx:nS H6 st.fr=some x) (hy:nT mQ st.hp=some y) (hz:mK zz.ds nt.ds=some z) (hn:zz.n=nt.n) (hh:Hold Kv ρ ((x++y++z).filter fun q=> !q.trivial c0)):
  HA H6 zz Kv a∧aU (mQ.map (Ck.den Kv)++Fs) w:=by
 have eV:gy c0 Kv ρ:=(Env.Le.agree h1 Zi).symm.trans (Env.Le.agree h1 hle);obtain⟨k12,k3⟩:=(Hold.all eV hh).app;obtain⟨k1,k2⟩:=k12.app;refine⟨⟨ha.defers.trans (oN hz k3).symm,hn▸ha.size,fun s v hs=>?_⟩,?_⟩
 ·obtain⟨v',sO,he⟩:=oD hx k1 s v hs;rw [ha.slots s v' sO,he]
 ·obtain⟨more,hm⟩:=s_ eV.va hy k2;have:=hw.own;rw [hm]at this;exact this.front
theorem qn{mL:St}{sj:Env}{w:World}{inc:cF}{e:Ext}{slots:List (Nat×SV)}{f:Nat→Bool}{mQ:List Ck}{zz:NT}
  (h1:gK sj mL.aS) (he:e.Fits inc) (iX:mH (mL.aS.add inc) slots=true) (vw:mQ.all (Ck.sc (mL.aS.add inc))=true) (lA:mH mL.aS mL.fr=true)
  (IJ:zz.ds.all (MK.sc (mL.aS.add inc))=true) (fQ:gu w0 w) (own:aU (mQ.map (Ck.den (sj.ext e))++Fs) w):
  HW Fs w0 {mL with fr:=slots++mL.fr.filter (fun x=>f x.1),hp:=mQ,aS:=mL.aS.add inc,known:=[],nt:=zz} (sj.ext e) w:=by
 refine⟨h1.ext he,?_,vw,rfl,fun b hb=>(by cases hb),own,fQ,IJ⟩;simp only [mH,List.all_append,ai];refine⟨iX,agv.2 fun x hx=>?_⟩;exact SV.bu (cF.k9 _ _) (agv.1 lA x (agP.1 hx).1)
theorem mU{α:Type}(p:α→Bool)(e:α)(he:p e=true): ∀(use:List Nat) (hp new:List α),hp.all p=true→new.all p=true→(lL e hp use new).all p=true
 | [],hp,new,h1,h2=>by simp only [lL,List.all_append,h1,h2,Bool.and_self]
 | i::r,hp,c::cs,h1,h2=>by
  simp only [List.all_cons,ai]at h2;refine mU p e he r _ _ (agv.2 fun x hx=>?_) h2.2;rcases ag2 hx with hx | rfl
  ·exact agv.1 h1 x hx
  ·exact h2.1
 | i::r,hp,[],h1,h2=>by
  refine mU p e he r _ _ (agv.2 fun x hx=>?_) h2;rcases ag2 hx with hx | rfl
  ·exact agv.1 h1 x hx
  ·exact he
theorem At.gh{n:Nat}{g:St→Option ct}{k:List KI}{ρ:Env}{L:Nat→LC}{a:Act}{w:World}(h:At P C aq Fs w0 n (.gh g::k) ρ L a w):At P C aq Fs w0 n k ρ L a w:=by
 obtain⟨m,hm,st,bI,L',h1,h2,h3,h4,h5⟩:=h
 induction m generalizing st with
 | zero=>exact h5.elim
 | succ m ih=>
  simp only [run]at h5;split at h5
  ·exact⟨m,by omega,st,bI,L',h1,h2,h3,h4,h5⟩
  ·rename_i s hs;split at h5
   ·rename_i b hb;split at h5
    case isFalse=>exact h5.elim
    rename_i jx;simp only [VC,aK]at h5;cases hd:b.den bI with
    | true=>
     have hp:=(BE.cq bI b).1 hd;exact ih (by omega) _ (h3.know hp jx) h4 (h5.1 hp)
    | false=>
     have hp: ¬b.prop bI:=fun h=>by rw [←BE.cq,hd]at h;cases h
     have mQ:(iT b).prop bI:=by rw [←BE.cq,dG,hd];rfl
     exact ih (by omega) _ (h3.know mQ (Fv jx)) h4 (h5.2 hp)
   rename_i hsp;split at h5
   ·rename_i idx afS;split at h5
    case isFalse=>exact h5.elim
    rename_i hc;rw [ai,decide_eq_true_eq]at hc;obtain⟨cZ,gE⟩:=hc;have cZ: ∀i∈idx,i<st.hp.length:=fun i hi=>by simpa [agM] using agv.1 cZ i hi
    refine⟨m,by omega,{st with hp:=idx.map fun i=>st.hp.getD i .emp},bI,L',h1,h2,⟨h3.lens,h3.lX,?_,h3.oO,h3.kn,?_,h3.same,h3.mP⟩,h4,h5⟩
    ·refine agv.2 fun x hx=>?_
     obtain⟨i,hi,rfl⟩:=ag9.1 hx;have hl:=cZ i hi;rw [List.getD_eq_getElem?_getD,ag6 hl];exact agv.1 h3.gF _ (List.getElem_mem hl)
    ·refine h3.own.pick (idx++(ag5 Fs.length).map (st.hp.length+ ·)) _ ?_ ?_
     ·refine List.nodup_append.2 ⟨gE,?_,?_⟩
      ·exact List.Pairwise.map _ (fun a b h=>by omega) List.nodup_range
      ·intro x hx y hy;have:=cZ x hx;obtain⟨q,_,rfl⟩:=ag9.1 hy;omega
     ·intro j;by_cases hj:j<idx.length
      ·have hl:=cZ idx[j] (List.getElem_mem hj);have e1:(((idx.map fun i=>st.hp.getD i .emp).map (Ck.den bI))++Fs)[j]? =some ((st.hp[idx[j]]).den bI):=by
        rw [agC (by simpa using hj)];simp [hj,hl]
       have e2:(st.hp.map (Ck.den bI)++Fs)[idx[j]]? =some ((st.hp[idx[j]]).den bI):=by
        rw [agC (by simpa using hl)];simp [hl]
       rw [e1,agC hj,ag6 hj,Option.bind_some,e2]
      ·rw [agD (by simpa using hj),agD (by omega)];simp only [List.length_map,List.getElem?_map];by_cases hq:j - idx.length<Fs.length
       ·rw [List.getElem?_range hq,Option.map_some,Option.bind_some,agD (by simp)];simp
       ·rw [ag7 (by omega),ag7 (by simpa using hq)];simp
   split at h5
   case h_2=>exact h5.elim
   rename_i eqs heq;split at h5
   case isFalse=>exact h5.elim
   rename_i jx;simp only [ai,decide_eq_true_eq]at jx;obtain⟨⟨⟨iX,vw⟩,lA⟩,FE⟩:=jx;have cZ: ∀i∈s.use,i<st.hp.length:=fun i hi=>by simpa [agM] using agv.1 lA i hi
   simp only [VC]at h5;obtain⟨I,hI,hr⟩:=h5;rw [pY]at hr;have cU:=aU.vm (acc:=[]) (use:=s.use) (by simpa using h3.own) FE (by simpa using cZ);have J8:(s.use.map fun i=>st.hp.getD i .emp).map (Ck.den bI)=s.use.map (fun i=>(st.hp.map (Ck.den bI)).getD i HP.emp):=by
    rw [List.map_map];refine ag4 fun i hi=>?_
    have:=cZ i hi;simp [this]
   rw [List.nil_append,←J8]at cU;have hx:=hI _ _ cU;rw [kY]at hx;obtain⟨e,hf,hq⟩:=hx;rw [vj]at hq;obtain⟨hh,BR,hIe⟩:=hq;have hle:=Env.gL bI e;have eV:=Env.Le.agree h3.lens hle;refine⟨m,by omega,_,bI.ext e,L',h1.trans hle,h2,?_,?_,hr e hf hIe⟩
   ·refine⟨h3.lens.ext hf,?_,?_,fk (cF.k9 _ _) h3.oO,fun b hb=>?_,?_,h3.same,dz (cF.k9 _ _) h3.mP⟩
    ·simp only [mH,List.all_append,ai];refine⟨iX,agv.2 fun x hx=>?_⟩;exact SV.bu (cF.k9 _ _) (agv.1 h3.lX x (agP.1 hx).1)
    ·exact mU _ _ rfl _ _ _ (i_ (cF.k9 _ _) h3.gF) vw
    ·exact(BE.gT eV (agv.1 h3.oO b hb)).1 (h3.kn b hb)
    ·have h1:=aU.mj (use:=s.use) BR (fun i hi=>by rw [mG];simpa using cZ i hi) fun _ _=> .inr trivial
     rw [←jz _ _ _ FE,kX eV h3.gF]at h1;simp only [fS];rw [mO];exact h1
   ·have hm:=h4.more h3.lX h3.mP eV;refine⟨hm.defers,hm.size,fun x v hx=>?_⟩;rcases yH hx with hx | hx
    ·obtain⟨v',sO,he⟩:=oD heq hh x v hx;rw [h4.slots x v' sO,he]
    ·have:=m_ (f:=fun q=> !(s.slots.any fun y=>y.1==q)) hx;exact hm.slots x v this
theorem QK.gh{n:Nat}{g:St→Option ct}{k:List KI}{ρ:Env}{L:Nat→LC}{e:Exit}{a:Act}{w:World}(h:QK P C aq Fs w0 n (.gh g::k) ρ L e a w):QK P C aq Fs w0 n k ρ L e a w:=by
 cases e with
 | normal=>
  obtain⟨k',hk,ew⟩:=h;cases hk;exact⟨k,rfl,ew.gh⟩
 | exit id=>exact QK.move (k:=k) h rfl fun _ _=>rfl
 | ret=>exact QK.move (k:=k) h rfl fun _ _=>rfl
 | goto l=>obtain⟨k',hk,_⟩:=h;cases hk
 | panic l=>obtain⟨k',hk,_⟩:=h;cases hk
 | outgrown=>obtain⟨k',hk,_⟩:=h;cases hk
theorem yI{F:Fence}{n:Nat}{c:Code}{Q:Exit→Act→World→Prop}: ∀{m m':Nat} {a:Act} {w:World},m≤m'→Code.roundsIn F n P c Q m a w→Code.roundsIn F n P c Q m' a w
 | 0,_,_,_,_,h=>h.elim
 | m+1,0,_,_,hm,_=>absurd hm (by omega)
 | m+1,m'+1,a,w,hm,h=>by
  refine wpIn_mono (show c.wpIn F n P (Exit.then (Code.roundsIn F n P c Q m) Q) a w from h) fun e a w hq=>?_
  cases e with
  | normal=>exact yI (by omega) hq
  | _=>exact hq
theorem Q1{N:Nat}{ro:Option Nat}{body:Code}{k:List KI}{ρ:Env}{L:Nat→LC}(yh: ∀m,m<N→rk P C aq Fs w0 m): ∀(n:Nat),n<N→∀(st:St) (bI:Env) (L':Nat→LC) (a:Act) (w:World),
  VC P aq (run C n (.code body:: .again body::k) st) bI L'→Env.Le ρ bI→(∀j,j<nl k→L' j=L j)→HW Fs w0 st bI w→HA st.fr st.nt bI a→ED bI k ro→Code.roundsIn (FW ro) 0 P body (QK P C aq Fs w0 N k ρ L) (n+1) a w:=by
 intro n
 induction n using Nat.strongRecOn with
 | _ n ih=>
  intro hn st bI L' a w hv hle hL hw ha hk;refine wpIn_mono (yh n hn ro body (.again body::k) st bI L' a w hv hw ha (hk.push rfl)) ?_;intro e a' w' hq;cases e with
  | normal=>
   obtain⟨k',Rr,m,hm,Gk,Kv,L2,h1,h2,h3,h4,h5⟩:=hq;cases Rr;cases m with
   | zero=>exact h5.elim
   | succ m=>
    have:=ih m (by omega) (by omega) Gk Kv L2 a' w' h5 (hle.trans h1) (fun j hj=>(h2 j hj).trans (hL j hj)) h3 h4 (hk.le h1);exact yI (by omega) this
  | exit id=>exact(QK.move (k:=k) hq rfl fun _ _=>rfl).mono (by omega) hle hL
  | ret=>exact(QK.move (k:=k) hq rfl fun _ _=>rfl).mono (by omega) hle hL
  | goto l=>obtain⟨k',hk,_⟩:=hq;cases hk
  | panic l=>obtain⟨k',hk,_⟩:=hq;cases hk
  | outgrown=>obtain⟨k',hk,_⟩:=hq;cases hk
theorem Gs(_:bC P C.T=true){n:Nat}(yh: ∀m,m<n→rk P C aq Fs w0 m)(NH: ∀m,m<n→uh P C aq Fs w0 m)(IHd: ∀m,m<n→II P C aq Fs w0 m)(IHr:Ow P C aq Fs w0 n):rk P C aq Fs w0 n:=by
 intro ro c k st ρ L a w hv hw ha gi;cases n with
 | zero=>exact hv.elim
 | succ n=>
  have hn:n<n+1:=Nat.lt_succ_self n;cases c with
  | skip=>exact wpIn_skip (QK.here hn rfl hv hw ha)
  | label l=>exact wpIn_label (QK.here hn rfl hv hw ha)
  | seq x y=>
   refine wpIn_seq (wpIn_mono (yh n hn ro x (.code y::k) st ρ L a w hv hw ha (gi.push rfl)) ?_);intro e a' w' hq;cases e with
   | normal=>
    obtain⟨k',hk,m,hm,dD,bI,L',h1,h2,h3,h4,h5⟩:=hq;cases hk;refine wpIn_mono (yh m (by omega) ro y k dD bI L' a' w' h5 h3 h4 (gi.le h1)) fun e a w hq=>?_
    exact hq.mono (by omega) h1 h2
   | exit id=>exact(QK.move (k:=k) hq rfl fun _ _=>rfl).mono (Nat.le_succ n) (Env.Le.refl _) fun _ _=>rfl
   | ret=>exact(QK.move (k:=k) hq rfl fun _ _=>rfl).mono (Nat.le_succ n) (Env.Le.refl _) fun _ _=>rfl
   | goto l=>obtain⟨k',hk,_⟩:=hq;cases hk
   | panic l=>obtain⟨k',hk,_⟩:=hq;cases hk
   | outgrown=>obtain⟨k',hk,_⟩:=hq;cases hk
  | cond x t e=>
   simp only [run]at hv;have up: ∀{e:Exit} {a:Act} {w:World},QK P C aq Fs w0 n k ρ L e a w→QK P C aq Fs w0 (n+1) k ρ L e a w:=fun hq=>hq.mono (Nat.le_succ n) (Env.Le.refl _) fun _ _=>rfl
   split at hv
   ·rename_i hc;have:=qm ha hw.kn hc;exact wpIn_cond_true this (wpIn_mono (yh n hn ro t k st ρ L a w hv hw ha gi) fun e a w hq=>up hq)
   ·rename_i hc;have:=qm ha hw.kn hc;exact wpIn_cond_false this (wpIn_mono (yh n hn ro e k st ρ L a w hv hw ha gi) fun e a w hq=>up hq)
   ·rename_i b _ _ hc;have hb:=qm ha hw.kn hc;split at hv
    ·rename_i jx;simp only [VC,aK]at hv;cases hd:b.den ρ with
     | true=>
      have hp:=(BE.cq ρ b).1 hd;exact wpIn_cond_true (by rw [hb,hd]) (wpIn_mono (yh n hn ro t k _ ρ L a w (hv.1 hp) (hw.know hp jx) ha gi) fun e a w hq=>up hq)
     | false=>
      have hp: ¬b.prop ρ:=fun h=>by rw [←BE.cq,hd]at h;cases h
      have mQ:(iT b).prop ρ:=by rw [←BE.cq,dG,hd];rfl
      exact wpIn_cond_false (by rw [hb,hd]) (wpIn_mono (yh n hn ro e k _ ρ L a w (hv.2 hp) (hw.know mQ (Fv jx)) ha gi) fun e a w hq=>up hq)
    ·exact hv.elim
   ·exact hv.elim
  | block id b=>
   simp only [run]at hv;split at hv;rotate_left
   ·rename_i ja Pm;split at hv
    case isFalse=>exact hv.elim
    rename_i jx;simp only [ai]at jx;obtain⟨⟨⟨iX,vw⟩,lA⟩,FE⟩:=jx;simp only [VC]at hv;obtain⟨I,Q2,zW⟩:=hv;rw [pY]at zW;have Lr: ∀(m:Nat) (dD:St) (bI:Env) (L':Nat→LC) (a':Act) (w':World),m≤n→Env.Le ρ bI→(∀j,j<nl k+1→L' j=wC L (nl k) ⟨I,fun _=>0,⟨[],[],[],[],[],[],[]⟩⟩ j)→
      HW Fs w0 dD bI w'→HA dD.fr dD.nt bI a'→
      VC P aq (run C m (.jn (some id) (nl k) {st.nt with ds:=ja.ds st.aS st.nt.ds} st.aS ja.inc (ja.slots st.aS++st.fr.filter fun x=> !((writes b).contains x.1)&& !((ja.slots st.aS).any fun y=>y.1==x.1)) (ja.hp st.aS st.hp) ja.pre::k) dD) bI L'→
      QK P C aq Fs w0 (n+1) k ρ L .normal a' w':=by
     intro m dD bI L' a' w' hm hle hL g3 g4 g5;cases m with
     | zero=>exact g5.elim
     | succ m=>
      simp only [run]at g5;split at g5
      ·exact g5.elim
      rename_i st9 nn9 HI;obtain⟨ρ9,Q3,g3,g4,Zq,g5⟩:=ke HI g3 g4 g5;have hle:=hle.trans Q3;split at g5
      ·rename_i x' y' z' H3 Pp Ih;split at g5
       ·exact g5.elim
       ·rename_i Ci;simp only [bne_iff_ne,ne_eq,agN]at Ci;simp only [VC]at g5;rw [kY]at g5;obtain⟨e2,UH,DU⟩:=g5;rw [Env.Le.take hw.lens hle,vj]at DU;obtain⟨Zr,RE⟩:=DU;have hLI:(L' (nl k)).I=I:=by
         rw [hL _ (by omega)];simp [wC]
        rw [hLI]at RE;obtain⟨r1,r2⟩:=kf (zz:={st.nt with ds:=ja.ds st.aS st.nt.ds}) g3 g4 hw.lens hle (Env.gL ρ e2) H3 Pp Ih Ci.symm Zr;refine⟨k,rfl,n,by omega,_,ρ.ext e2,L,Env.gL ρ e2,fun _ _=>rfl,?_,r1,zW e2 UH RE⟩;exact qn (f:=fun q=> !((writes b).contains q)&& !((ja.slots st.aS).any fun y=>y.1==q)) hw.lens UH iX vw hw.lX FE g3.same r2
      ·exact g5.elim
      ·exact g5.elim
      ·exact g5.elim
    refine wpIn_block (wpIn_mono (yh n hn ro b _ st ρ _ a w Q2 hw ha (gi.push rfl)) ?_);intro e a' w' hq;cases e with
    | normal=>
     obtain⟨k',hk,m,hm,dD,bI,L',h1,h2,h3,h4,h5⟩:=hq;cases hk;exact Lr m dD bI L' a' w' (Nat.le_of_lt hm) h1 h2 h3 h4 h5
    | exit id'=>
     simp only [Exit.inBlock];split
     ·rename_i he;subst he;obtain⟨k',hk,m,hm,dD,bI,L',h1,h2,h3,h4,h5⟩:=hq;simp only [resume,dB,beq_self_eq_true,if_true,agy]at hk;subst hk;exact Lr m dD bI L' a' w' (Nat.le_of_lt hm) h1 h2 h3 h4 h5
     ·rename_i he;refine(QK.move (k:=k) (L:=L) hq ?_ fun j hj=>?_).mono (Nat.le_succ n) (Env.Le.refl _) fun _ _=>rfl
      ·simp only [resume,dB];rw [if_neg (by simpa using Ne.symm he)]
      ·simp only [wC];rw [if_neg (by omega)]
    | ret=>
     refine(QK.move (k:=k) (L:=L) hq rfl fun j hj=>?_).mono (Nat.le_succ n) (Env.Le.refl _) fun _ _=>rfl
     simp only [wC];rw [if_neg (by omega)]
    | goto l=>obtain⟨k',hk,_⟩:=hq;cases hk
    | panic l=>obtain⟨k',hk,_⟩:=hq;cases hk
    | outgrown=>obtain⟨k',hk,_⟩:=hq;cases hk
   refine wpIn_block (wpIn_mono (yh n hn ro b (.rT id::k) st ρ L a w hv hw ha (gi.push rfl)) ?_);intro e a' w' hq;cases e with
   | normal=>
    obtain⟨k',hk,m,hm,dD,bI,L',h1,h2,h3,h4,h5⟩:=hq;cases hk;cases m with
    | zero=>exact h5.elim
    | succ m=>exact⟨k,rfl,m,by omega,dD,bI,L',h1,h2,h3,h4,h5⟩
   | exit id'=>
    simp only [Exit.inBlock];split
    ·rename_i he;subst he;obtain⟨k',hk,m,hm,dD,bI,L',h1,h2,h3,h4,h5⟩:=hq;simp only [resume,dB,beq_self_eq_true,if_true,agy]at hk;subst hk;exact⟨k,rfl,m,by omega,dD,bI,L',h1,h2,h3,h4,h5⟩
    ·rename_i he;refine(QK.move (k:=k) hq ?_ fun _ _=>rfl).mono (Nat.le_succ n) (Env.Le.refl _) fun _ _=>rfl
     simp only [resume,dB];rw [if_neg (by simpa using Ne.symm he)]
   | ret=>exact(QK.move (k:=k) hq rfl fun _ _=>rfl).mono (Nat.le_succ n) (Env.Le.refl _) fun _ _=>rfl
   | goto l=>obtain⟨k',hk,_⟩:=hq;cases hk
   | panic l=>obtain⟨k',hk,_⟩:=hq;cases hk
   | outgrown=>obtain⟨k',hk,_⟩:=hq;cases hk
  | loop body=>
   simp only [run]at hv;split at hv
   ·rename_i id k0;split at hv
    ·exact wpIn_loop_rounds _ (Q1 yh n hn st ρ L a w hv (Env.Le.refl _) (fun _ _=>rfl) hw ha gi)
    ·rename_i la hla;split at hv
     ·exact hv.elim
     ·rename_i mL nn l7;obtain⟨sj,QS,zh,IL,Z_,xV⟩:=ke l7 hw ha hv;split at xV
      ·rename_i x y z hx hy hz;split at xV
       ·rename_i jx;simp only [ai]at jx;obtain⟨⟨⟨iX,vw⟩,lA⟩,FE⟩:=jx;simp only [VC]at xV;obtain⟨I,μ,Q4,Q5⟩:=xV;rw [kY]at Q4;rw [pY]at Q5;obtain⟨e0,tr,hq0⟩:=Q4;rw [vj]at hq0;obtain⟨hh0,hI0⟩:=hq0;obtain⟨q1,q2⟩:=kf (zz:={mL.nt with ds:=la.ds mL.aS mL.nt.ds}) zh IL zh.lens (Env.Le.refl _) (Env.gL sj e0) hx hy hz rfl hh0;refine wpIn_loop_ghost (fun n' a w=> ∃e:Ext,e.Fits la.inc∧I e∧μ e=n'∧HW Fs w0
          {mL with fr:=la.slots mL.aS++mL.fr.filter (fun x=> !((writes body).contains x.1)&& !((la.slots mL.aS).any fun y=>y.1==x.1)),hp:=la.hp mL.aS mL.hp,aS:=mL.aS.add la.inc,known:=[],nt:={mL.nt with ds:=la.ds mL.aS mL.nt.ds}} (sj.ext e) w∧
          HA (la.slots mL.aS++mL.fr.filter (fun x=> !((writes body).contains x.1)&& !((la.slots mL.aS).any fun y=>y.1==x.1))) {mL.nt with ds:=la.ds mL.aS mL.nt.ds} (sj.ext e) a) (μ e0) ⟨e0,tr,hI0,rfl,?_,?_⟩ ?_
        ·exact qn (f:=fun q=> !((writes body).contains q)&& !((la.slots mL.aS).any fun y=>y.1==q)) zh.lens tr iX vw zh.lX FE zh.same q2
        ·refine⟨q1.defers,q1.size,fun s v hs=>?_⟩;rcases yH hs with hs | hs
         ·exact q1.slots s v hs
         ·have:=m_ (f:=fun q=> !((writes body).contains q)&& !((la.slots mL.aS).any fun y=>y.1==q)) hs;rw [IL.slots s v this];exact(SV.wU (Env.Le.agree zh.lens (Env.gL sj e0)) (EB zh.lX this)).1
        ·intro n' a2 w2 RE;obtain⟨e,he,hIe,hμ,Gm,Xf⟩:=RE;subst hμ;have hvb:=Q5 e he hIe;refine wpIn_mono (yh n hn ro body _ _ _ _ a2 w2 hvb Gm Xf ((gi.le (QS.trans (Env.gL sj e))).push rfl)) ?_;intro ex a3 w3 hq;cases ex with
         | normal=>
          obtain⟨k',hk,m,hm,dD,bI,L',g1,g2,g3,g4,g5⟩:=hq;cases hk;cases m with
          | zero=>exact g5.elim
          | succ m=>
           simp only [run]at g5;split at g5
           ·exact g5.elim
           rename_i st9 nn9 HI;obtain⟨ρ9,Q3,g3,g4,Zq,g5⟩:=ke HI g3 g4 g5;have g1:=g1.trans Q3;split at g5
           ·rename_i x' y' z' H3 Pp Ih;split at g5
            ·exact g5.elim
            ·rename_i Ci;simp only [bne_iff_ne,ne_eq,agN]at Ci;simp only [VC]at g5;rw [kY]at g5;obtain⟨e2,UH,DU⟩:=g5;have Nv:Env.Le sj ρ9:=(Env.gL sj e).trans g1;rw [Env.Le.take zh.lens Nv,vj]at DU;obtain⟨Zr,RE,Zs⟩:=DU;have hL:L' (nl (.rT id::k0))=⟨I,μ,e⟩:=by
              rw [g2 _ (by simp [nl])];simp [wC]
             rw [hL]at RE Zs;obtain⟨r1,r2⟩:=kf (zz:={mL.nt with ds:=la.ds mL.aS mL.nt.ds}) g3 g4 zh.lens Nv (Env.gL sj e2) H3 Pp Ih Ci.symm Zr;refine⟨μ e2,Zs,e2,UH,RE,rfl,?_,r1⟩;exact qn (f:=fun q=> !((writes body).contains q)&& !((la.slots mL.aS).any fun y=>y.1==q)) zh.lens UH iX vw zh.lX FE g3.same r2
           ·exact g5.elim
           ·exact g5.elim
         | exit id'=>
          refine(QK.move (k:= .rT id::k0) (L:=L) hq rfl ?_).mono (Nat.le_succ n) (QS.trans (Env.gL sj e)) fun _ _=>rfl
          intro j hj;simp only [wC];rw [if_neg (by omega)]
         | ret=>
          refine(QK.move (k:= .rT id::k0) (L:=L) hq rfl ?_).mono (Nat.le_succ n) (QS.trans (Env.gL sj e)) fun _ _=>rfl
          intro j hj;simp only [wC];rw [if_neg (by omega)]
         | goto l=>obtain⟨k',hk,_⟩:=hq;cases hk
         | panic l=>obtain⟨k',hk,_⟩:=hq;cases hk
         | outgrown=>obtain⟨k',hk,_⟩:=hq;cases hk
       ·exact xV.elim
      ·exact xV.elim
   ·exact wpIn_loop_rounds _ (Q1 yh n hn st ρ L a w hv (Env.Le.refl _) (fun _ _=>rfl) hw ha gi)
  | exit id=>
   simp only [run]at hv;split at hv
   ·rename_i k' hk;exact wpIn_exit (QK.here hn hk hv hw ha)
   ·exact hv.elim
  | ret=>
   simp only [run]at hv;split at hv
   ·rename_i k' hk;exact wpIn_ret (QK.here hn hk hv hw ha)
   ·exact hv.elim
  | region id ops draw=>
   cases draw with
   | false=>
    simp only [run]at hv;split at hv
    ·exact wpIn_region_list (fB (fun e a w hq=>hq.mono (Nat.le_succ n) (Env.Le.refl _) fun _ _=>rfl) (NH n hn ro ops ops.toList k st ρ L a w hv hw ha gi))
    ·exact wpIn_region_list (fB (fun e a w hq=>hq.gh.mono (Nat.le_succ n) (Env.Le.refl _) fun _ _=>rfl) (NH n hn ro ops ops.toList _ st ρ L a w hv hw ha (gi.push rfl)))
   | true=>
    simp only [run]at hv;split at hv
    ·rename_i hc;simp only [ai]at hc;split at hv
     ·rename_i ja Pm;split at hv
      case isFalse=>exact hv.elim
      rename_i jx;simp only [ai]at jx;obtain⟨⟨⟨iX,vw⟩,lA⟩,FE⟩:=jx;simp only [VC]at hv;obtain⟨I,Q2,zW⟩:=hv;rw [pY]at zW;have Lr: ∀(m:Nat) (dD:St) (bI:Env) (L':Nat→LC) (a':Act) (w':World),m≤n→Env.Le ρ bI→(∀j,j<nl k+1→L' j=wC L (nl k) ⟨I,fun _=>0,⟨[],[],[],[],[],[],[]⟩⟩ j)→
        HW Fs w0 dD bI w'→HA dD.fr dD.nt bI a'→
        VC P aq (run C m (.jn none (nl k) {st.nt with ds:=ja.ds st.aS st.nt.ds} st.aS ja.inc (ja.slots st.aS++st.fr.filter fun x=> !((writes (.region id ops true)).contains x.1)&& !((ja.slots st.aS).any fun y=>y.1==x.1)) (ja.hp st.aS st.hp) ja.pre::k) dD) bI L'→
        QK P C aq Fs w0 (n+1) k ρ L .normal a' w':=by
       intro m dD bI L' a' w' hm hle hL g3 g4 g5;cases m with
       | zero=>exact g5.elim
       | succ m=>
        simp only [run]at g5;split at g5
        ·exact g5.elim
        rename_i st9 nn9 HI;obtain⟨ρ9,Q3,g3,g4,Zq,g5⟩:=ke HI g3 g4 g5;have hle:=hle.trans Q3;split at g5
        ·rename_i x' y' z' H3 Pp Ih;split at g5
         ·exact g5.elim
         ·rename_i Ci;simp only [bne_iff_ne,ne_eq,agN]at Ci;simp only [VC]at g5;rw [kY]at g5;obtain⟨e2,UH,DU⟩:=g5;rw [Env.Le.take hw.lens hle,vj]at DU;obtain⟨Zr,RE⟩:=DU;have hLI:(L' (nl k)).I=I:=by
           rw [hL _ (by omega)];simp [wC]
          rw [hLI]at RE;obtain⟨r1,r2⟩:=kf (zz:={st.nt with ds:=ja.ds st.aS st.nt.ds}) g3 g4 hw.lens hle (Env.gL ρ e2) H3 Pp Ih Ci.symm Zr;refine⟨k,rfl,n,by omega,_,ρ.ext e2,L,Env.gL ρ e2,fun _ _=>rfl,?_,r1,zW e2 UH RE⟩;exact qn (f:=fun q=> !((writes (.region id ops true)).contains q)&& !((ja.slots st.aS).any fun y=>y.1==q)) hw.lens UH iX vw hw.lX FE g3.same r2
        ·exact g5.elim
        ·exact g5.elim
        ·exact g5.elim
      refine wpIn_mono (IHd n hn ro id ops _ _ st ρ _ a w Q2 hc.1 hc.2 hw ha ((gi.push rfl).push rfl)) ?_;intro e a' w' hq;have hq:=hq.gh;cases e with
      | normal=>
       obtain⟨k',hk,m,hm,dD,bI,L',h1,h2,h3,h4,h5⟩:=hq;cases hk;exact Lr m dD bI L' a' w' (Nat.le_of_lt hm) h1 h2 h3 h4 h5
      | exit id'=>
       refine(QK.move (k:=k) (L:=L) hq rfl fun j hj=>?_).mono (Nat.le_succ n) (Env.Le.refl _) fun _ _=>rfl
       simp only [wC];rw [if_neg (by omega)]
      | ret=>
       refine(QK.move (k:=k) (L:=L) hq rfl fun j hj=>?_).mono (Nat.le_succ n) (Env.Le.refl _) fun _ _=>rfl
       simp only [wC];rw [if_neg (by omega)]
      | goto l=>obtain⟨k',hk,_⟩:=hq;cases hk
      | panic l=>obtain⟨k',hk,_⟩:=hq;cases hk
      | outgrown=>obtain⟨k',hk,_⟩:=hq;cases hk
     split at hv
     ·exact wpIn_mono (IHd n hn ro id ops _ k st ρ L a w hv hc.1 hc.2 hw ha gi) fun e a w hq=>hq.mono (Nat.le_succ n) (Env.Le.refl _) fun _ _=>rfl
     ·exact wpIn_mono (IHd n hn ro id ops _ _ st ρ L a w hv hc.1 hc.2 hw ha (gi.push rfl)) fun e a w hq=>hq.gh.mono (Nat.le_succ n) (Env.Le.refl _) fun _ _=>rfl
    ·exact hv.elim
  | rangeFunc f ps x y=>exact IHr ro f ps x y k st ρ L a w hv hw ha gi
  | scope x=>exact hv.elim
  | goto l=>exact hv.elim
  | refuse y=>exact hv.elim
end
end Go.RX
