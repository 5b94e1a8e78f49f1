/- Executor. -/
import Derived.Test.YtllcdnkfbeokhaaGreatRxW
import Derived.LoopNIn
open Bool renaming and_eq_true → ai
open List renaming all_eq_true → auo, getD_eq_getElem?_getD → auO, getElem?_append_left → auu, getElem?_append_right → auv, getElem?_eq_getElem → auU, getElem?_eq_none → au0, length_append → aum, length_map → auJ, mem_cons_of_mem → auw, mem_cons_self → aur, mem_filter → auR, mem_map → auL, mem_or_eq_of_mem_set → au1
open Nat renaming blt_eq → auF, le_succ → au4
open Option renaming map_eq_some_iff → aus
open Option.some renaming injEq → auq
namespace Go.RX
section
variable {P:Program} {C:Ctx} {al:Value→List HP→Prop} {Fs:List HP} {w0:World}
structure DX (ρ:Env) (k:List KI) (ro:Option Nat):Prop where
 rf: ∀l r fn nt fr ps x y fd,KI.rf l r fn nt fr ps x y fd∈k→∃yl c0,iG yl c0∧Env.Le yl ρ∧mP c0 fr=true∧r<c0.r∧(yl.lr.getD r jA).params=ps∧(yl.lr.getD r jA).assign=x∧
  (yl.lr.getD r jA).body=y∧HA fr ⟨nt.n,[]⟩ yl {tmps:=(yl.lr.getD r jA).tmps,defers:=[]}
 ro:match BF k with
  | none=>ro=none
  | some l=> ∃yl c0,iG yl c0∧Env.Le yl ρ∧l<c0.b∧ro=some (yl.bv.getD l 0)
theorem DX.le{ρ bJ:Env}{k:List KI}{ro:Option Nat}(h:DX ρ k ro)(hle:Env.Le ρ bJ):DX bJ k ro:=by
 refine⟨fun l r fn nt fr ps x y fd hm=>?_,?_⟩
 ·obtain⟨yl,c0,h1,h2,h3⟩:=h.rf l r fn nt fr ps x y fd hm;exact⟨yl,c0,h1,h2.trans hle,h3⟩
 ·have:=h.ro;split at this
  ·exact this
  ·obtain⟨yl,c0,h1,h2,h3⟩:=this;exact⟨yl,c0,h1,h2.trans hle,h3⟩
def KI.inner:KI→Bool
 | .code _=>true
 | .ops .. =>true
 | .um .. =>true
 | .Qd .. =>true
 | .tS _=>true
 | .again _=>true
 | .loop .. =>true
 | .jn .. =>true
 | .gh _=>true
 | _=>false
theorem DX.push{ρ:Env}{k:List KI}{ro:Option Nat}(h:DX ρ k ro){x:KI}(hx:x.inner=true):DX ρ (x::k) ro:=by
 have ha:BF (x::k)=BF k:=by cases x<;>first | rfl | (simp [KI.inner]at hx;done)
 refine⟨fun l r fn nt fr ps a b fd hm=>?_,by rw [ha];exact h.ro⟩;rcases List.mem_cons.1 hm with rfl | hm
 ·simp [KI.inner]at hx
 ·exact h.rf l r fn nt fr ps a b fd hm
def rQ(P:Program)(C:Ctx)(al:Value→List HP→Prop)(Fs:List HP)(w0:World)(n:Nat):Prop:=
 ∀ro c k st ρ L a w,VC P al (run C n (.code c::k) st) ρ L→HW Fs w0 st ρ w→HA st.fr st.nt ρ a→DX ρ k ro→c.wpIn (FW ro) 0 P (QK P C al Fs w0 n k ρ L) a w
def uo(P:Program)(C:Ctx)(al:Value→List HP→Prop)(Fs:List HP)(w0:World)(n:Nat):Prop:=
 ∀ro all r k st ρ L a w,VC P al (run C n (.ops all r::k) st) ρ L→HW Fs w0 st ρ w→HA st.fr st.nt ρ a→DX ρ k ro→wpListIn (FW ro) 0 P all (QK P C al Fs w0 n k ρ L) r a w
def IX(P:Program)(C:Ctx)(al:Value→List HP→Prop)(Fs:List HP)(w0:World)(n:Nat):Prop:=
 ∀ro id all pm k st ρ L a w,VC P al (run C n (.um all pm (List.range all.size) 0 []::k) st) ρ L→mf all pm=true→Ap all pm=true→HW Fs w0 st ρ w→HA st.fr st.nt ρ a→DX ρ k ro→
  (Code.region id all true).wpIn (FW ro) 0 P (QK P C al Fs w0 n k ρ L) a w
def Ql(P:Program)(C:Ctx)(al:Value→List HP→Prop)(Fs:List HP)(w0:World)(n:Nat):Prop:=
 ∀ro g ps x y k st ρ L a w,VC P al (run C n (.code (.rangeFunc g ps x y)::k) st) ρ L→HW Fs w0 st ρ w→HA st.fr st.nt ρ a→DX ρ k ro→
  (Code.rangeFunc g ps x y).wpIn (FW ro) 0 P (QK P C al Fs w0 n k ρ L) a w
theorem QK.here{n m:Nat}{k k':List KI}{ρ:Env}{L:Nat→LC}{e:Exit}{a:Act}{w:World}{st:St}(hm:m<n)(hk:resume e k=some k')
  (hv:VC P al (run C m k' st) ρ L) (hw:HW Fs w0 st ρ w) (ha:HA st.fr st.nt ρ a):QK P C al Fs w0 n k ρ L e a w:=
 ⟨k',hk,m,hm,st,ρ,L,Env.Le.refl _,fun _ _=>rfl,hw,ha,hv⟩
theorem HW.know{st:St}{ρ:Env}{w:World}(h:HW Fs w0 st ρ w){b:BE}(hb:b.prop ρ)(hs:b.sc st.a_=true):HW Fs w0 {st with known:=b::st.known} ρ w:=
 ⟨h.lens,h.mj,h.gP,by rw [List.all_cons,hs,h.o9];rfl,fun x hx=>(List.mem_cons.1 hx).elim (fun e=>e▸hb) (h.kn x),h.own,h.same,h.ng⟩
theorem Fo{c:cG}{b:BE}(h:b.sc c=true):(j5 b).sc c=true:=by
 unfold j5;split
 ·rfl
 ·exact h
 ·exact h
theorem iG.le{ρ bJ:Env}{c d:cG}(h:iG ρ c)(h':iG bJ d)(hle:Env.Le ρ bJ):c.le d:=by
 obtain⟨x,rfl⟩:=hle;constructor
 ·rw [←h.b,←h'.b];simp [Env.ext]
 ·rw [←h.v,←h'.v];simp [Env.ext]
 ·rw [←h.i,←h'.i];simp [Env.ext]
 ·rw [←h.a,←h'.a];simp [Env.ext]
 ·rw [←h.bo,←h'.bo];simp [Env.ext]
 ·rw [←h.p,←h'.p];simp [Env.ext]
 ·rw [←h.r,←h'.r];simp [Env.ext]
theorem yK{x y:List (Nat×SV)}{s:Nat}{v:SV}(h:look (x++y) s=some v):look x s=some v∨look y s=some v:=by
 induction x with
 | nil=>exact .inr h
 | cons t r ih=>
  obtain⟨q,u⟩:=t;have h':(if q==s then some u else look (r++y) s)=some v:=h;show(if q==s then some u else look r s)=some v∨look y s=some v;by_cases hq:(q==s)=true
  ·rw [if_pos hq]at h' ⊢;exact .inl h'
  ·rw [if_neg hq]at h' ⊢;exact ih h'
theorem nF{x:List (Nat×SV)}{f:Nat→Bool}{s:Nat}{v:SV}(h:look (x.filter fun y=>f y.1) s=some v):look x s=some v:=by
 induction x with
 | nil=>cases h
 | cons t r ih=>
  obtain⟨q,u⟩:=t;by_cases hf:f q=true
  ·rw [List.filter_cons_of_pos (by exact hf)]at h;unfold look at h ⊢;split at h
   ·rename_i hq;simp only [hq,if_true];exact h
   ·rename_i hq;simp only [hq];exact ih h
  ·rw [List.filter_cons_of_neg (by exact hf)]at h;have:=ih h;unfold look;split
   ·rename_i hq;rw [beq_iff_eq]at hq;subst hq;exfalso;apply hf;clear ih this
    induction r with
    | nil=>cases h
    | cons t' r' ih'=>
     obtain⟨q',u'⟩:=t';by_cases F6:f q'=true
     ·rw [List.filter_cons_of_pos (by exact F6)]at h;unfold look at h;split at h
      ·rename_i Yc;rw [beq_iff_eq]at Yc;subst Yc;exact F6
      ·exact ih' h
     ·rw [List.filter_cons_of_neg (by exact F6)]at h;exact ih' h
   ·exact this
theorem iF.trans{c:cG}{a b d:Env}(h:iF c a b)(k:iF c b d):iF c a d:=
 ⟨fun i hi=>(h.b i hi).trans (k.b i hi),fun i hi=>(h.v i hi).trans (k.v i hi),fun i hi=>(h.i i hi).trans (k.i i hi),fun i hi=>(h.a i hi).trans (k.a i hi),fun i hi=>(h.bo i hi).trans (k.bo i hi),fun i hi=>(h.p i hi).trans (k.p i hi),fun i hi=>(h.r i hi).trans (k.r i hi),h.va.trans k.va⟩
theorem bz.front{a b Fs:List HP}{w:World}(h:bz (a++b++Fs) w):bz (a++Fs) w:=by
 refine h.vE (fun j=>if j<a.length then some j else some (j+b.length)) ?_ ?_
 ·intro j x hx;right;by_cases h1:j<a.length
  ·refine⟨j,by simp [h1],?_⟩;rw [auu h1]at hx;rw [List.append_assoc,auu h1];exact hx
  ·refine⟨j+b.length,by simp [h1],?_⟩;rw [auv (by omega)]at hx;rw [auv (by simp;omega),aum,show j+b.length - (a.length+b.length)=j - a.length by omega];exact hx
 ·intro j j' i hj lq _ _;split at hj<;>split at lq<;>simp only [auq]at hj lq<;>omega
theorem o7{ρ bJ:Env}: ∀{x y:List MK} {l:List g_},mZ x y=some l→mN ρ bJ l→marks ρ x=marks bJ y
 | [],[],l,_,_=>rfl
 | .one b::r,.one b'::r',l,h,hl=>by
  simp only [mZ,aus]at h;obtain⟨z,hz,rfl⟩:=h;have h1:=hl _ aur;simp only [g_.holds]at h1;have h2:=o7 hz fun x hx=>hl x (auw _ hx)
  simp only [marks,List.flatMap_cons,List.map_append,MK.blocks,h1]at h2 ⊢;rw [h2]
 | .many b::r,.many b'::r',l,h,hl=>by
  simp only [mZ,aus]at h;obtain⟨z,hz,rfl⟩:=h;have h1:=hl _ aur;simp only [g_.holds]at h1;have h2:=o7 hz fun x hx=>hl x (auw _ hx)
  simp only [marks,List.flatMap_cons,List.map_append,MK.blocks,h1]at h2 ⊢;rw [h2]
 | [],.one _::_,_,h,_=>by cases h
 | [],.many _::_,_,h,_=>by cases h
 | .one _::_,[],_,h,_=>by cases h
 | .many _::_,[],_,h,_=>by cases h
 | .one _::_,.many _::_,_,h,_=>by cases h
 | .many _::_,.one _::_,_,h,_=>by cases h
theorem kU{st:St}{ρ sP KK:Env}{a:Act}{w:World}{c0:cG}{Iu:List (Nat×SV)}{nh:List Ck}{x y z:List g_}{nt zH:NT}
  (hw:HW Fs w0 st ρ w) (ha:HA st.fr nt ρ a) (h1:iG sP c0) (hle:Env.Le sP ρ) (Jf:Env.Le sP KK)
  (hx:om Iu st.fr=some x) (hy:oq nh st.hp=some y) (hz:mZ zH.ds nt.ds=some z) (hn:zH.n=nt.n) (hh:mN KK ρ ((x++y++z).filter fun q=> !q.trivial c0)):
  HA Iu zH KK a∧bz (nh.map (Ck.den KK)++Fs) w:=by
 have fA:iF c0 KK ρ:=(Env.Le.e9 h1 Jf).symm.trans (Env.Le.e9 h1 hle);obtain⟨k12,k3⟩:=(mN.all fA hh).app;obtain⟨k1,k2⟩:=k12.app;refine⟨⟨ha.defers.trans (o7 hz k3).symm,hn▸ha.size,fun s v hs=>?_⟩,?_⟩
 ·obtain⟨v',s7,he⟩:=oT hx k1 s v hs;rw [ha.aX s v' s7,he]
 ·obtain⟨more,hm⟩:=tD fA.va hy k2;have:=hw.own;rw [hm]at this;exact this.front
theorem qG{m5:St}{sP:Env}{w:World}{inc:cG}{e:Ext}{aX:List (Nat×SV)}{f:Nat→Bool}{nh:List Ck}{zH:NT}
  (h1:iG sP m5.a_) (he:e.Fits inc) (kZ:mP (m5.a_.add inc) aX=true) (yY:nh.all (Ck.sc (m5.a_.add inc))=true) (kW:mP m5.a_ m5.fr=true)
  (O5:zH.ds.all (MK.sc (m5.a_.add inc))=true) (BY:iP w0 w) (own:bz (nh.map (Ck.den (sP.ext e))++Fs) w):
  HW Fs w0 {m5 with fr:=aX++m5.fr.filter (fun x=>f x.1),hp:=nh,a_:=m5.a_.add inc,known:=[],nt:=zH} (sP.ext e) w:=by
 refine⟨h1.ext he,?_,yY,rfl,fun b hb=>(by cases hb),own,BY,O5⟩;simp only [mP,List.all_append,ai];refine⟨kZ,auo.2 fun x hx=>?_⟩;exact SV.bg (cG.lI _ _) (auo.1 kW x (auR.1 hx).1)
theorem nk{α:Type}(p:α→Bool)(e:α)(he:p e=true): ∀(use:List Nat) (hp new:List α),hp.all p=true→new.all p=true→(mb e hp use new).all p=true
 | [],hp,new,h1,h2=>by simp only [mb,List.all_append,h1,h2,Bool.and_self]
 | i::r,hp,c::cs,h1,h2=>by
  simp only [List.all_cons,ai]at h2;refine nk p e he r _ _ (auo.2 fun x hx=>?_) h2.2;rcases au1 hx with hx | rfl
  ·exact auo.1 h1 x hx
  ·exact h2.1
 | i::r,hp,[],h1,h2=>by
  refine nk p e he r _ _ (auo.2 fun x hx=>?_) h2;rcases au1 hx with hx | rfl
  ·exact auo.1 h1 x hx
  ·exact he
theorem At.gh{n:Nat}{g:St→Option cJ}{k:List KI}{ρ:Env}{L:Nat→LC}{a:Act}{w:World}(h:At P C al Fs w0 n (.gh g::k) ρ L a w):At P C al Fs w0 n k ρ L a w:=by
 obtain⟨m,hm,st,bJ,L',h1,h2,h3,h4,h5⟩:=h
 induction m generalizing st with
 | zero=>exact h5.elim
 | succ m ih=>
  simp only [run]at h5;split at h5
  ·exact⟨m,by omega,st,bJ,L',h1,h2,h3,h4,h5⟩
  ·rename_i s hs;split at h5
   ·rename_i b hb;split at h5
    case isFalse=>exact h5.elim
    rename_i jM;simp only [VC,bt]at h5;cases hd:b.den bJ with
    | true=>
     have hp:=(BE.bQ bJ b).1 hd;exact ih (by omega) _ (h3.know hp jM) h4 (h5.1 hp)
    | false=>
     have hp: ¬b.prop bJ:=fun h=>by rw [←BE.bQ,hd]at h;cases h
     have nh:(j5 b).prop bJ:=by rw [←BE.bQ,dT,hd];rfl
     exact ih (by omega) _ (h3.know nh (Fo jM)) h4 (h5.2 hp)
   rename_i N4;split at h5
   ·rename_i idx afM;split at h5
    case isFalse=>exact h5.elim
    rename_i hc;rw [ai,decide_eq_true_eq]at hc;obtain⟨cF,iy⟩:=hc;have cF: ∀i∈idx,i<st.hp.length:=fun i hi=>by simpa [auF] using auo.1 cF i hi
    refine⟨m,by omega,{st with hp:=idx.map fun i=>st.hp.getD i .emp},bJ,L',h1,h2,⟨h3.lens,h3.mj,?_,h3.o9,h3.kn,?_,h3.same,h3.ng⟩,h4,h5⟩
    ·refine auo.2 fun x hx=>?_
     obtain⟨i,hi,rfl⟩:=auL.1 hx;have hl:=cF i hi;rw [auO,auU hl];exact auo.1 h3.gP _ (List.getElem_mem hl)
    ·refine h3.own.pick (idx++(List.range Fs.length).map (st.hp.length+ ·)) _ ?_ ?_
     ·refine List.nodup_append.2 ⟨iy,?_,?_⟩
      ·exact List.Pairwise.map _ (fun a b h=>by omega) List.nodup_range
      ·intro x hx y hy;have:=cF x hx;obtain⟨q,_,rfl⟩:=auL.1 hy;omega
     ·intro j;by_cases hj:j<idx.length
      ·have hl:=cF idx[j] (List.getElem_mem hj);have e1:(((idx.map fun i=>st.hp.getD i .emp).map (Ck.den bJ))++Fs)[j]? =some ((st.hp[idx[j]]).den bJ):=by
        rw [auu (by simpa using hj)];simp [hj,hl]
       have e2:(st.hp.map (Ck.den bJ)++Fs)[idx[j]]? =some ((st.hp[idx[j]]).den bJ):=by
        rw [auu (by simpa using hl)];simp [hl]
       rw [e1,auu hj,auU hj,Option.bind_some,e2]
      ·rw [auv (by simpa using hj),auv (by omega)];simp only [auJ,List.getElem?_map];by_cases hq:j - idx.length<Fs.length
       ·rw [List.getElem?_range hq,Option.map_some,Option.bind_some,auv (by simp)];simp
       ·rw [au0 (by omega),au0 (by simpa using hq)];simp
   split at h5
   case h_2=>exact h5.elim
   rename_i eqs heq;split at h5
   case isFalse=>exact h5.elim
   rename_i jM;simp only [ai,decide_eq_true_eq]at jM;obtain⟨⟨⟨kZ,yY⟩,kW⟩,Fv⟩:=jM;have cF: ∀i∈s.use,i<st.hp.length:=fun i hi=>by simpa [auF] using auo.1 kW i hi
   simp only [VC]at h5;obtain⟨I,hI,hr⟩:=h5;rw [qi]at hr;have du:=bz.vF (acc:=[]) (use:=s.use) (by simpa using h3.own) Fv (by simpa using cF);have Kn:(s.use.map fun i=>st.hp.getD i .emp).map (Ck.den bJ)=s.use.map (fun i=>(st.hp.map (Ck.den bJ)).getD i HP.emp):=by
    rw [List.map_map];refine List.map_congr_left fun i hi=>?_
    have:=cF i hi;simp [this]
   rw [List.nil_append,←Kn]at du;have hx:=hI _ _ du;rw [lG]at hx;obtain⟨e,hf,hq⟩:=hx;rw [vC]at hq;obtain⟨hh,BZ,hIe⟩:=hq;have hle:=Env.iS bJ e;have fA:=Env.Le.e9 h3.lens hle;refine⟨m,by omega,_,bJ.ext e,L',h1.trans hle,h2,?_,?_,hr e hf hIe⟩
   ·refine⟨h3.lens.ext hf,?_,?_,gg (cG.lI _ _) h3.o9,fun b hb=>?_,?_,h3.same,dU (cG.lI _ _) h3.ng⟩
    ·simp only [mP,List.all_append,ai];refine⟨kZ,auo.2 fun x hx=>?_⟩;exact SV.bg (cG.lI _ _) (auo.1 h3.mj x (auR.1 hx).1)
    ·exact nk _ _ rfl _ _ _ (jN (cG.lI _ _) h3.gP) yY
    ·exact(BE.i_ fA (auo.1 h3.o9 b hb)).1 (h3.kn b hb)
    ·have h1:=bz.mA (use:=s.use) BZ (fun i hi=>by rw [mO];simpa using cF i hi) fun _ _=> .inr trivial
     rw [←kr _ _ _ Fv,lF fA h3.gP]at h1;simp only [g9];rw [m_];exact h1
   ·have hm:=h4.more h3.mj h3.ng fA;refine⟨hm.defers,hm.size,fun x v hx=>?_⟩;rcases yK hx with hx | hx
    ·obtain⟨v',s7,he⟩:=oT heq hh x v hx;rw [h4.aX x v' s7,he]
    ·have:=nF (f:=fun q=> !(s.aX.any fun y=>y.1==q)) hx;exact hm.aX x v this
theorem QK.gh{n:Nat}{g:St→Option cJ}{k:List KI}{ρ:Env}{L:Nat→LC}{e:Exit}{a:Act}{w:World}(h:QK P C al Fs w0 n (.gh g::k) ρ L e a w):QK P C al Fs w0 n k ρ L e a w:=by
 cases e with
 | normal=>
  obtain⟨k',hk,dH⟩:=h;cases hk;exact⟨k,rfl,dH.gh⟩
 | exit id=>exact QK.move (k:=k) h rfl fun _ _=>rfl
 | ret=>exact QK.move (k:=k) h rfl fun _ _=>rfl
 | goto l=>obtain⟨k',hk,_⟩:=h;cases hk
 | panic l=>obtain⟨k',hk,_⟩:=h;cases hk
 | outgrown=>obtain⟨k',hk,_⟩:=h;cases hk
theorem yL{F:Fence}{n:Nat}{c:Code}{Q:Exit→Act→World→Prop}: ∀{m m':Nat} {a:Act} {w:World},m≤m'→Code.roundsIn F n P c Q m a w→Code.roundsIn F n P c Q m' a w
 | 0,_,_,_,_,h=>h.elim
 | m+1,0,_,_,hm,_=>absurd hm (by omega)
 | m+1,m'+1,a,w,hm,h=>by
  refine wpIn_mono (show c.wpIn F n P (Exit.then (Code.roundsIn F n P c Q m) Q) a w from h) fun e a w hq=>?_
  cases e with
  | normal=>exact yL (by omega) hq
  | _=>exact hq
theorem TB{N:Nat}{ro:Option Nat}{body:Code}{k:List KI}{ρ:Env}{L:Nat→LC}(yj: ∀m,m<N→rQ P C al Fs w0 m): ∀(n:Nat),n<N→∀(st:St) (bJ:Env) (L':Nat→LC) (a:Act) (w:World),
  VC P al (run C n (.code body:: .again body::k) st) bJ L'→Env.Le ρ bJ→(∀j,j<nl k→L' j=L j)→HW Fs w0 st bJ w→HA st.fr st.nt bJ a→DX bJ k ro→Code.roundsIn (FW ro) 0 P body (QK P C al Fs w0 N k ρ L) (n+1) a w:=by
 intro n
 induction n using Nat.strongRecOn with
 | _ n ih=>
  intro hn st bJ L' a w hv hle hL hw ha hk;refine wpIn_mono (yj n hn ro body (.again body::k) st bJ L' a w hv hw ha (hk.push rfl)) ?_;intro e a' w' hq;cases e with
  | normal=>
   obtain⟨k',hk2,m,hm,Gb,KK,L2,h1,h2,h3,h4,h5⟩:=hq;cases hk2;cases m with
   | zero=>exact h5.elim
   | succ m=>
    have:=ih m (by omega) (by omega) Gb KK L2 a' w' h5 (hle.trans h1) (fun j hj=>(h2 j hj).trans (hL j hj)) h3 h4 (hk.le h1);exact yL (by omega) this
  | exit id=>exact(QK.move (k:=k) hq rfl fun _ _=>rfl).mono (by omega) hle hL
  | ret=>exact(QK.move (k:=k) hq rfl fun _ _=>rfl).mono (by omega) hle hL
  | goto l=>obtain⟨k',hk,_⟩:=hq;cases hk
  | panic l=>obtain⟨k',hk,_⟩:=hq;cases hk
  | outgrown=>obtain⟨k',hk,_⟩:=hq;cases hk
theorem Gg(_:bB P C.T=true){n:Nat}(yj: ∀m,m<n→rQ P C al Fs w0 m)(O4: ∀m,m<n→uo P C al Fs w0 m)(IHd: ∀m,m<n→IX P C al Fs w0 m)(IHr:Ql P C al Fs w0 n):rQ P C al Fs w0 n:=by
 intro ro c k st ρ L a w hv hw ha ik;cases n with
 | zero=>exact hv.elim
 | succ n=>
  have hn:n<n+1:=Nat.lt_succ_self n;cases c with
  | skip=>exact wpIn_skip (QK.here hn rfl hv hw ha)
  | label l=>exact wpIn_label (QK.here hn rfl hv hw ha)
  | seq x y=>
   refine wpIn_seq (wpIn_mono (yj n hn ro x (.code y::k) st ρ L a w hv hw ha (ik.push rfl)) ?_);intro e a' w' hq;cases e with
   | normal=>
    obtain⟨k',hk,m,hm,d_,bJ,L',h1,h2,h3,h4,h5⟩:=hq;cases hk;refine wpIn_mono (yj m (by omega) ro y k d_ bJ L' a' w' h5 h3 h4 (ik.le h1)) fun e a w hq=>?_
    exact hq.mono (by omega) h1 h2
   | exit id=>exact(QK.move (k:=k) hq rfl fun _ _=>rfl).mono (au4 n) (Env.Le.refl _) fun _ _=>rfl
   | ret=>exact(QK.move (k:=k) hq rfl fun _ _=>rfl).mono (au4 n) (Env.Le.refl _) fun _ _=>rfl
   | goto l=>obtain⟨k',hk,_⟩:=hq;cases hk
   | panic l=>obtain⟨k',hk,_⟩:=hq;cases hk
   | outgrown=>obtain⟨k',hk,_⟩:=hq;cases hk
  | cond x t e=>
   simp only [run]at hv;have up: ∀{e:Exit} {a:Act} {w:World},QK P C al Fs w0 n k ρ L e a w→QK P C al Fs w0 (n+1) k ρ L e a w:=fun hq=>hq.mono (au4 n) (Env.Le.refl _) fun _ _=>rfl
   split at hv
   ·rename_i hc;have:=qF ha hw.kn hc;exact wpIn_cond_true this (wpIn_mono (yj n hn ro t k st ρ L a w hv hw ha ik) fun e a w hq=>up hq)
   ·rename_i hc;have:=qF ha hw.kn hc;exact wpIn_cond_false this (wpIn_mono (yj n hn ro e k st ρ L a w hv hw ha ik) fun e a w hq=>up hq)
   ·rename_i b _ _ hc;have hb:=qF ha hw.kn hc;split at hv
    ·rename_i jM;simp only [VC,bt]at hv;cases hd:b.den ρ with
     | true=>
      have hp:=(BE.bQ ρ b).1 hd;exact wpIn_cond_true (by rw [hb,hd]) (wpIn_mono (yj n hn ro t k _ ρ L a w (hv.1 hp) (hw.know hp jM) ha ik) fun e a w hq=>up hq)
     | false=>
      have hp: ¬b.prop ρ:=fun h=>by rw [←BE.bQ,hd]at h;cases h
      have nh:(j5 b).prop ρ:=by rw [←BE.bQ,dT,hd];rfl
      exact wpIn_cond_false (by rw [hb,hd]) (wpIn_mono (yj n hn ro e k _ ρ L a w (hv.2 hp) (hw.know nh (Fo jM)) ha ik) fun e a w hq=>up hq)
    ·exact hv.elim
   ·exact hv.elim
  | block id b=>
   simp only [run]at hv;split at hv;rotate_left
   ·rename_i ja hja;split at hv
    case isFalse=>exact hv.elim
    rename_i jM;simp only [ai]at jM;obtain⟨⟨⟨kZ,yY⟩,kW⟩,Fv⟩:=jM;simp only [VC]at hv;obtain⟨I,TC,zV⟩:=hv;rw [qi]at zV;have Md: ∀(m:Nat) (d_:St) (bJ:Env) (L':Nat→LC) (a':Act) (w':World),m≤n→Env.Le ρ bJ→(∀j,j<nl k+1→L' j=wM L (nl k) ⟨I,fun _=>0,⟨[],[],[],[],[],[],[]⟩⟩ j)→
      HW Fs w0 d_ bJ w'→HA d_.fr d_.nt bJ a'→
      VC P al (run C m (.jn (some id) (nl k) {st.nt with ds:=ja.ds st.a_ st.nt.ds} st.a_ ja.inc (ja.aX st.a_++st.fr.filter fun x=> !((writes b).contains x.1)&& !((ja.aX st.a_).any fun y=>y.1==x.1)) (ja.hp st.a_ st.hp) ja.pre::k) d_) bJ L'→
      QK P C al Fs w0 (n+1) k ρ L .normal a' w':=by
     intro m d_ bJ L' a' w' hm hle hL g3 g4 g5;cases m with
     | zero=>exact g5.elim
     | succ m=>
      simp only [run]at g5;split at g5
      ·exact g5.elim
      rename_i st9 nn9 H6;obtain⟨ρ9,TD,g3,g4,afS,g5⟩:=kT H6 g3 g4 g5;have hle:=hle.trans TD;split at g5
      ·rename_i x' y' z' V_ hy' ID;split at g5
       ·exact g5.elim
       ·rename_i Cn;simp only [bne_iff_ne,ne_eq,Decidable.not_not]at Cn;simp only [VC]at g5;rw [lG]at g5;obtain⟨e2,Oa,Yo⟩:=g5;rw [Env.Le.take hw.lens hle,vC]at Yo;obtain⟨hh2,Pm⟩:=Yo;have hLI:(L' (nl k)).I=I:=by
         rw [hL _ (by omega)];simp [wM]
        rw [hLI]at Pm;obtain⟨r1,r2⟩:=kU (zH:={st.nt with ds:=ja.ds st.a_ st.nt.ds}) g3 g4 hw.lens hle (Env.iS ρ e2) V_ hy' ID Cn.symm hh2;refine⟨k,rfl,n,by omega,_,ρ.ext e2,L,Env.iS ρ e2,fun _ _=>rfl,?_,r1,zV e2 Oa Pm⟩;exact qG (f:=fun q=> !((writes b).contains q)&& !((ja.aX st.a_).any fun y=>y.1==q)) hw.lens Oa kZ yY hw.mj Fv g3.same r2
      ·exact g5.elim
      ·exact g5.elim
      ·exact g5.elim
    refine wpIn_block (wpIn_mono (yj n hn ro b _ st ρ _ a w TC hw ha (ik.push rfl)) ?_);intro e a' w' hq;cases e with
    | normal=>
     obtain⟨k',hk,m,hm,d_,bJ,L',h1,h2,h3,h4,h5⟩:=hq;cases hk;exact Md m d_ bJ L' a' w' (Nat.le_of_lt hm) h1 h2 h3 h4 h5
    | exit id'=>
     simp only [Exit.inBlock];split
     ·rename_i he;subst he;obtain⟨k',hk,m,hm,d_,bJ,L',h1,h2,h3,h4,h5⟩:=hq;simp only [resume,dZ,beq_self_eq_true,if_true,auq]at hk;subst hk;exact Md m d_ bJ L' a' w' (Nat.le_of_lt hm) h1 h2 h3 h4 h5
     ·rename_i he;refine(QK.move (k:=k) (L:=L) hq ?_ fun j hj=>?_).mono (au4 n) (Env.Le.refl _) fun _ _=>rfl
      ·simp only [resume,dZ];rw [if_neg (by simpa using Ne.symm he)]
      ·simp only [wM];rw [if_neg (by omega)]
    | ret=>
     refine(QK.move (k:=k) (L:=L) hq rfl fun j hj=>?_).mono (au4 n) (Env.Le.refl _) fun _ _=>rfl
     simp only [wM];rw [if_neg (by omega)]
    | goto l=>obtain⟨k',hk,_⟩:=hq;cases hk
    | panic l=>obtain⟨k',hk,_⟩:=hq;cases hk
    | outgrown=>obtain⟨k',hk,_⟩:=hq;cases hk
   refine wpIn_block (wpIn_mono (yj n hn ro b (.tS id::k) st ρ L a w hv hw ha (ik.push rfl)) ?_);intro e a' w' hq;cases e with
   | normal=>
    obtain⟨k',hk,m,hm,d_,bJ,L',h1,h2,h3,h4,h5⟩:=hq;cases hk;cases m with
    | zero=>exact h5.elim
    | succ m=>exact⟨k,rfl,m,by omega,d_,bJ,L',h1,h2,h3,h4,h5⟩
   | exit id'=>
    simp only [Exit.inBlock];split
    ·rename_i he;subst he;obtain⟨k',hk,m,hm,d_,bJ,L',h1,h2,h3,h4,h5⟩:=hq;simp only [resume,dZ,beq_self_eq_true,if_true,auq]at hk;subst hk;exact⟨k,rfl,m,by omega,d_,bJ,L',h1,h2,h3,h4,h5⟩
    ·rename_i he;refine(QK.move (k:=k) hq ?_ fun _ _=>rfl).mono (au4 n) (Env.Le.refl _) fun _ _=>rfl
     simp only [resume,dZ];rw [if_neg (by simpa using Ne.symm he)]
   | ret=>exact(QK.move (k:=k) hq rfl fun _ _=>rfl).mono (au4 n) (Env.Le.refl _) fun _ _=>rfl
   | goto l=>obtain⟨k',hk,_⟩:=hq;cases hk
   | panic l=>obtain⟨k',hk,_⟩:=hq;cases hk
   | outgrown=>obtain⟨k',hk,_⟩:=hq;cases hk
  | loop body=>
   simp only [run]at hv;split at hv
   ·rename_i id k0;split at hv
    ·exact wpIn_loop_rounds _ (TB yj n hn st ρ L a w hv (Env.Le.refl _) (fun _ _=>rfl) hw ha ik)
    ·rename_i la hla;split at hv
     ·exact hv.elim
     ·rename_i m5 nn kI;obtain⟨sP,Ke,zp,IZ,hfn,ye⟩:=kT kI hw ha hv;split at ye
      ·rename_i x y z hx hy hz;split at ye
       ·rename_i jM;simp only [ai]at jM;obtain⟨⟨⟨kZ,yY⟩,kW⟩,Fv⟩:=jM;simp only [VC]at ye;obtain⟨I,μ,TE,TF⟩:=ye;rw [lG]at TE;rw [qi]at TF;obtain⟨e0,hf0,hq0⟩:=TE;rw [vC]at hq0;obtain⟨hh0,hI0⟩:=hq0;obtain⟨q1,q2⟩:=kU (zH:={m5.nt with ds:=la.ds m5.a_ m5.nt.ds}) zp IZ zp.lens (Env.Le.refl _) (Env.iS sP e0) hx hy hz rfl hh0;refine wpIn_loop_ghost (fun n' a w=> ∃e:Ext,e.Fits la.inc∧I e∧μ e=n'∧HW Fs w0
          {m5 with fr:=la.aX m5.a_++m5.fr.filter (fun x=> !((writes body).contains x.1)&& !((la.aX m5.a_).any fun y=>y.1==x.1)),hp:=la.hp m5.a_ m5.hp,a_:=m5.a_.add la.inc,known:=[],nt:={m5.nt with ds:=la.ds m5.a_ m5.nt.ds}} (sP.ext e) w∧
          HA (la.aX m5.a_++m5.fr.filter (fun x=> !((writes body).contains x.1)&& !((la.aX m5.a_).any fun y=>y.1==x.1))) {m5.nt with ds:=la.ds m5.a_ m5.nt.ds} (sP.ext e) a) (μ e0) ⟨e0,hf0,hI0,rfl,?_,?_⟩ ?_
        ·exact qG (f:=fun q=> !((writes body).contains q)&& !((la.aX m5.a_).any fun y=>y.1==q)) zp.lens hf0 kZ yY zp.mj Fv zp.same q2
        ·refine⟨q1.defers,q1.size,fun s v hs=>?_⟩;rcases yK hs with hs | hs
         ·exact q1.aX s v hs
         ·have:=nF (f:=fun q=> !((writes body).contains q)&& !((la.aX m5.a_).any fun y=>y.1==q)) hs;rw [IZ.aX s v this];exact(SV.wY (Env.Le.e9 zp.lens (Env.iS sP e0)) (DU zp.mj this)).1
        ·intro n' a2 w2 Pm;obtain⟨e,he,hIe,hμ,D0,ha2⟩:=Pm;subst hμ;have hvb:=TF e he hIe;refine wpIn_mono (yj n hn ro body _ _ _ _ a2 w2 hvb D0 ha2 ((ik.le (Ke.trans (Env.iS sP e))).push rfl)) ?_;intro ex a3 w3 hq;cases ex with
         | normal=>
          obtain⟨k',hk,m,hm,d_,bJ,L',g1,g2,g3,g4,g5⟩:=hq;cases hk;cases m with
          | zero=>exact g5.elim
          | succ m=>
           simp only [run]at g5;split at g5
           ·exact g5.elim
           rename_i st9 nn9 H6;obtain⟨ρ9,TD,g3,g4,afS,g5⟩:=kT H6 g3 g4 g5;have g1:=g1.trans TD;split at g5
           ·rename_i x' y' z' V_ hy' ID;split at g5
            ·exact g5.elim
            ·rename_i Cn;simp only [bne_iff_ne,ne_eq,Decidable.not_not]at Cn;simp only [VC]at g5;rw [lG]at g5;obtain⟨e2,Oa,Yo⟩:=g5;have OU:Env.Le sP ρ9:=(Env.iS sP e).trans g1;rw [Env.Le.take zp.lens OU,vC]at Yo;obtain⟨hh2,Pm,afU⟩:=Yo;have hL:L' (nl (.tS id::k0))=⟨I,μ,e⟩:=by
              rw [g2 _ (by simp [nl])];simp [wM]
             rw [hL]at Pm afU;obtain⟨r1,r2⟩:=kU (zH:={m5.nt with ds:=la.ds m5.a_ m5.nt.ds}) g3 g4 zp.lens OU (Env.iS sP e2) V_ hy' ID Cn.symm hh2;refine⟨μ e2,afU,e2,Oa,Pm,rfl,?_,r1⟩;exact qG (f:=fun q=> !((writes body).contains q)&& !((la.aX m5.a_).any fun y=>y.1==q)) zp.lens Oa kZ yY zp.mj Fv g3.same r2
           ·exact g5.elim
           ·exact g5.elim
         | exit id'=>
          refine(QK.move (k:= .tS id::k0) (L:=L) hq rfl ?_).mono (au4 n) (Ke.trans (Env.iS sP e)) fun _ _=>rfl
          intro j hj;simp only [wM];rw [if_neg (by omega)]
         | ret=>
          refine(QK.move (k:= .tS id::k0) (L:=L) hq rfl ?_).mono (au4 n) (Ke.trans (Env.iS sP e)) fun _ _=>rfl
          intro j hj;simp only [wM];rw [if_neg (by omega)]
         | goto l=>obtain⟨k',hk,_⟩:=hq;cases hk
         | panic l=>obtain⟨k',hk,_⟩:=hq;cases hk
         | outgrown=>obtain⟨k',hk,_⟩:=hq;cases hk
       ·exact ye.elim
      ·exact ye.elim
   ·exact wpIn_loop_rounds _ (TB yj n hn st ρ L a w hv (Env.Le.refl _) (fun _ _=>rfl) hw ha ik)
  | exit id=>
   simp only [run]at hv;split at hv
   ·rename_i k' hk;exact wpIn_exit (QK.here hn hk hv hw ha)
   ·exact hv.elim
  | ret=>
   simp only [run]at hv;split at hv
   ·rename_i k' hk;exact wpIn_ret (QK.here hn hk hv hw ha)
   ·exact hv.elim
  | region id ops draw=>
   cases draw with
   | false=>
    simp only [run]at hv;split at hv
    ·exact wpIn_region_list (gH (fun e a w hq=>hq.mono (au4 n) (Env.Le.refl _) fun _ _=>rfl) (O4 n hn ro ops ops.toList k st ρ L a w hv hw ha ik))
    ·exact wpIn_region_list (gH (fun e a w hq=>hq.gh.mono (au4 n) (Env.Le.refl _) fun _ _=>rfl) (O4 n hn ro ops ops.toList _ st ρ L a w hv hw ha (ik.push rfl)))
   | true=>
    simp only [run]at hv;split at hv
    ·rename_i hc;simp only [ai]at hc;split at hv
     ·rename_i ja hja;split at hv
      case isFalse=>exact hv.elim
      rename_i jM;simp only [ai]at jM;obtain⟨⟨⟨kZ,yY⟩,kW⟩,Fv⟩:=jM;simp only [VC]at hv;obtain⟨I,TC,zV⟩:=hv;rw [qi]at zV;have Md: ∀(m:Nat) (d_:St) (bJ:Env) (L':Nat→LC) (a':Act) (w':World),m≤n→Env.Le ρ bJ→(∀j,j<nl k+1→L' j=wM L (nl k) ⟨I,fun _=>0,⟨[],[],[],[],[],[],[]⟩⟩ j)→
        HW Fs w0 d_ bJ w'→HA d_.fr d_.nt bJ a'→
        VC P al (run C m (.jn none (nl k) {st.nt with ds:=ja.ds st.a_ st.nt.ds} st.a_ ja.inc (ja.aX st.a_++st.fr.filter fun x=> !((writes (.region id ops true)).contains x.1)&& !((ja.aX st.a_).any fun y=>y.1==x.1)) (ja.hp st.a_ st.hp) ja.pre::k) d_) bJ L'→
        QK P C al Fs w0 (n+1) k ρ L .normal a' w':=by
       intro m d_ bJ L' a' w' hm hle hL g3 g4 g5;cases m with
       | zero=>exact g5.elim
       | succ m=>
        simp only [run]at g5;split at g5
        ·exact g5.elim
        rename_i st9 nn9 H6;obtain⟨ρ9,TD,g3,g4,afS,g5⟩:=kT H6 g3 g4 g5;have hle:=hle.trans TD;split at g5
        ·rename_i x' y' z' V_ hy' ID;split at g5
         ·exact g5.elim
         ·rename_i Cn;simp only [bne_iff_ne,ne_eq,Decidable.not_not]at Cn;simp only [VC]at g5;rw [lG]at g5;obtain⟨e2,Oa,Yo⟩:=g5;rw [Env.Le.take hw.lens hle,vC]at Yo;obtain⟨hh2,Pm⟩:=Yo;have hLI:(L' (nl k)).I=I:=by
           rw [hL _ (by omega)];simp [wM]
          rw [hLI]at Pm;obtain⟨r1,r2⟩:=kU (zH:={st.nt with ds:=ja.ds st.a_ st.nt.ds}) g3 g4 hw.lens hle (Env.iS ρ e2) V_ hy' ID Cn.symm hh2;refine⟨k,rfl,n,by omega,_,ρ.ext e2,L,Env.iS ρ e2,fun _ _=>rfl,?_,r1,zV e2 Oa Pm⟩;exact qG (f:=fun q=> !((writes (.region id ops true)).contains q)&& !((ja.aX st.a_).any fun y=>y.1==q)) hw.lens Oa kZ yY hw.mj Fv g3.same r2
        ·exact g5.elim
        ·exact g5.elim
        ·exact g5.elim
      refine wpIn_mono (IHd n hn ro id ops _ _ st ρ _ a w TC hc.1 hc.2 hw ha ((ik.push rfl).push rfl)) ?_;intro e a' w' hq;have hq:=hq.gh;cases e with
      | normal=>
       obtain⟨k',hk,m,hm,d_,bJ,L',h1,h2,h3,h4,h5⟩:=hq;cases hk;exact Md m d_ bJ L' a' w' (Nat.le_of_lt hm) h1 h2 h3 h4 h5
      | exit id'=>
       refine(QK.move (k:=k) (L:=L) hq rfl fun j hj=>?_).mono (au4 n) (Env.Le.refl _) fun _ _=>rfl
       simp only [wM];rw [if_neg (by omega)]
      | ret=>
       refine(QK.move (k:=k) (L:=L) hq rfl fun j hj=>?_).mono (au4 n) (Env.Le.refl _) fun _ _=>rfl
       simp only [wM];rw [if_neg (by omega)]
      | goto l=>obtain⟨k',hk,_⟩:=hq;cases hk
      | panic l=>obtain⟨k',hk,_⟩:=hq;cases hk
      | outgrown=>obtain⟨k',hk,_⟩:=hq;cases hk
     split at hv
     ·exact wpIn_mono (IHd n hn ro id ops _ k st ρ L a w hv hc.1 hc.2 hw ha ik) fun e a w hq=>hq.mono (au4 n) (Env.Le.refl _) fun _ _=>rfl
     ·exact wpIn_mono (IHd n hn ro id ops _ _ st ρ L a w hv hc.1 hc.2 hw ha (ik.push rfl)) fun e a w hq=>hq.gh.mono (au4 n) (Env.Le.refl _) fun _ _=>rfl
    ·exact hv.elim
  | rangeFunc f ps x y=>exact IHr ro f ps x y k st ρ L a w hv hw ha ik
  | scope x=>exact hv.elim
  | goto l=>exact hv.elim
  | refuse y=>exact hv.elim
end
end Go.RX
