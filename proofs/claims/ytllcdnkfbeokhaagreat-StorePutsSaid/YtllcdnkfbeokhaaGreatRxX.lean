/- Executor. -/
import Derived.Test.YtllcdnkfbeokhaaGreatRxW
import Derived.LoopNIn
open Bool renaming and_eq_true -> ai
open List renaming all_eq_true -> axS, append_assoc -> ayl, flatMap_cons -> ayn, getD_eq_getElem?_getD -> ayk, getElem?_append_left -> axX, getElem?_append_right -> axY, getElem?_eq_getElem -> ays, length_append -> axP, length_map -> ayd, mem_cons_of_mem -> axZ, mem_cons_self -> axW, mem_filter -> ayi, mem_map -> ayg, mem_or_eq_of_mem_set -> ayy
open Nat renaming blt_eq -> ayb, le_succ -> ayC
open Option renaming map_eq_some_iff -> axV
open Option.some renaming injEq -> axU
namespace Go.RX
section
variable {P:Program} {C:Ctx} {al:Value->List HP->Prop} {Fs:List HP} {w0:World}
structure EH (ρ:Env) (k:List KI) (ro:Option Nat):Prop where
 rf: ∀l r fn nt fr ps x y fd,KI.rf l r fn nt fr ps x y fd∈k->∃yV c0,iZ yV c0/\Env.Le yV ρ/\nF c0 fr=true/\r<c0.r/\(yV.lr.getD r j6).params=ps/\(yV.lr.getD r j6).assign=x/\
  (yV.lr.getD r j6).body=y/\HA fr ⟨nt.n,[]⟩ yV {tmps:=(yV.lr.getD r j6).tmps,defers:=[]}
 ro:match Cm k with
  | none=>ro=none
  | some l=> ∃yV c0,iZ yV c0/\Env.Le yV ρ/\l<c0.b/\ro=some (yV.bv.getD l 0)
theorem EH.le{ρ bG:Env}{k:List KI}{ro:Option Nat}(h:EH ρ k ro)(hle:Env.Le ρ bG):EH bG k ro:=by
 refine⟨λl r fn nt fr ps x y fd hm=>?_,?_⟩
 .obtain⟨yV,c0,h1,h2,h3⟩:=h.rf l r fn nt fr ps x y fd hm;exact⟨yV,c0,h1,h2.trans hle,h3⟩
 .have:=h.ro;split at this
  .exact this
  .obtain⟨yV,c0,h1,h2,h3⟩:=this;exact⟨yV,c0,h1,h2.trans hle,h3⟩
def KI.inner:KI->Bool
 | .code _=>true
 | .ops .. =>true
 | .uL .. =>true
 | .QZ .. =>true
 | .uv _=>true
 | .again _=>true
 | .loop .. =>true
 | .jn .. =>true
 | .gh _=>true
 | _=>false
theorem EH.push{ρ:Env}{k:List KI}{ro:Option Nat}(h:EH ρ k ro){x:KI}(hx:x.inner=true):EH ρ (x::k) ro:=by
 have ha:Cm (x::k)=Cm k:=by cases x<;>first | rfl | (simp[KI.inner]at hx;done)
 refine⟨λl r fn nt fr ps a b fd hm=>?_,by rw[ha];exact h.ro⟩;rcases List.mem_cons.1 hm with rfl | hm
 .simp [KI.inner]at hx
 .exact h.rf l r fn nt fr ps a b fd hm
def sD(P:Program)(C:Ctx)(al:Value->List HP->Prop)(Fs:List HP)(w0:World)(n:Nat):Prop:=
 ∀ro c k st ρ L a w,VC P al (run C n (.code c::k) st) ρ L->HW Fs w0 st ρ w->HA st.fr st.nt ρ a->EH ρ k ro->c.wpIn (FW ro) 0 P (QK P C al Fs w0 n k ρ L) a w
def uM(P:Program)(C:Ctx)(al:Value->List HP->Prop)(Fs:List HP)(w0:World)(n:Nat):Prop:=
 ∀ro all r k st ρ L a w,VC P al (run C n (.ops all r::k) st) ρ L->HW Fs w0 st ρ w->HA st.fr st.nt ρ a->EH ρ k ro->wpListIn (FW ro) 0 P all (QK P C al Fs w0 n k ρ L) r a w
def JN(P:Program)(C:Ctx)(al:Value->List HP->Prop)(Fs:List HP)(w0:World)(n:Nat):Prop:=
 ∀ro id all pm k st ρ L a w,VC P al (run C n (.uL all pm (List.range all.size) 0 []::k) st) ρ L->mM all pm=true->Bj all pm=true->HW Fs w0 st ρ w->HA st.fr st.nt ρ a->EH ρ k ro->
  (Code.region id all true).wpIn (FW ro) 0 P (QK P C al Fs w0 n k ρ L) a w
def Q7(P:Program)(C:Ctx)(al:Value->List HP->Prop)(Fs:List HP)(w0:World)(n:Nat):Prop:=
 ∀ro g ps x y k st ρ L a w,VC P al (run C n (.code (.rangeFunc g ps x y)::k) st) ρ L->HW Fs w0 st ρ w->HA st.fr st.nt ρ a->EH ρ k ro->
  (Code.rangeFunc g ps x y).wpIn (FW ro) 0 P (QK P C al Fs w0 n k ρ L) a w
theorem QK.here{n m:Nat}{k k':List KI}{ρ:Env}{L:Nat->LC}{e:Exit}{a:Act}{w:World}{st:St}(hm:m<n)(hk:resume e k=some k')
  (hv:VC P al (run C m k' st) ρ L) (hw:HW Fs w0 st ρ w) (ha:HA st.fr st.nt ρ a):QK P C al Fs w0 n k ρ L e a w:=
 ⟨k',hk,m,hm,st,ρ,L,Env.Le.refl _,λ_ _=>rfl,hw,ha,hv⟩
theorem HW.know{st:St}{ρ:Env}{w:World}(h:HW Fs w0 st ρ w){b:BE}(hb:b.prop ρ)(hs:b.sc st.aY=true):HW Fs w0 {st with known:=b::st.known} ρ w:=
 ⟨h.lens,h.m7,h.iu,by rw[List.all_cons,hs,h.qF];rfl,λx hx=>(List.mem_cons.1 hx).elim (λe=>e▸hb) (h.kn x),h.own,h.same,h.oq⟩
theorem FR{c:cI}{b:BE}(h:b.sc c=true):(kp b).sc c=true:=by
 unfold kp;split
 .rfl
 .exact h
 .exact h
theorem iZ.le{ρ bG:Env}{c d:cI}(h:iZ ρ c)(h':iZ bG d)(hle:Env.Le ρ bG):c.le d:=by
 obtain⟨x,rfl⟩:=hle;constructor
 .rw [<-h.b,<-h'.b];simp[Env.ext]
 .rw [<-h.v,<-h'.v];simp[Env.ext]
 .rw [<-h.i,<-h'.i];simp[Env.ext]
 .rw [<-h.a,<-h'.a];simp[Env.ext]
 .rw [<-h.bo,<-h'.bo];simp[Env.ext]
 .rw [<-h.p,<-h'.p];simp[Env.ext]
 .rw [<-h.r,<-h'.r];simp[Env.ext]
theorem zw{x y:List (Nat×SV)}{s:Nat}{v:SV}(h:look (x++y) s=some v):look x s=some v\/look y s=some v:=by
 induction x with
 | nil=>exact .inr h
 | cons t r ih=>
  obtain⟨q,u⟩:=t;have h':(if q==s then some u else look (r++y) s)=some v:=h;show(if q==s then some u else look r s)=some v\/look y s=some v;by_cases hq:(q==s)=true
  .rw [if_pos hq]at h' ⊢;exact .inl h'
  .rw [if_neg hq]at h' ⊢;exact ih h'
theorem ou{x:List (Nat×SV)}{f:Nat->Bool}{s:Nat}{v:SV}(h:look (x.filter λy=>f y.1) s=some v):look x s=some v:=by
 induction x with
 | nil=>cases h
 | cons t r ih=>
  obtain⟨q,u⟩:=t;by_cases hf:f q=true
  .rw [List.filter_cons_of_pos (by exact hf)]at h;unfold look at h ⊢;split at h
   .rename_i hq;simp only[hq,if_true];exact h
   .rename_i hq;simp only[hq];exact ih h
  .rw [List.filter_cons_of_neg (by exact hf)]at h;have:=ih h;unfold look;split
   .rename_i hq;rw[beq_iff_eq]at hq;subst hq;exfalso;apply hf;clear ih this
    induction r with
    | nil=>cases h
    | cons t' r' ih'=>
     obtain⟨q',u'⟩:=t';by_cases GG:f q'=true
     .rw [List.filter_cons_of_pos (by exact GG)]at h;unfold look at h;split at h
      .rename_i Zx;rw[beq_iff_eq]at Zx;subst Zx;exact GG
      .exact ih' h
     .rw [List.filter_cons_of_neg (by exact GG)]at h;exact ih' h
   .exact this
theorem iY.trans{c:cI}{a b d:Env}(h:iY c a b)(k:iY c b d):iY c a d:=
 ⟨λi hi=>(h.b i hi).trans (k.b i hi),λi hi=>(h.v i hi).trans (k.v i hi),λi hi=>(h.i i hi).trans (k.i i hi),λi hi=>(h.a i hi).trans (k.a i hi),λi hi=>(h.bo i hi).trans (k.bo i hi),λi hi=>(h.p i hi).trans (k.p i hi),λi hi=>(h.r i hi).trans (k.r i hi),h.va.trans k.va⟩
theorem aU.front{a b Fs:List HP}{w:World}(h:aU (a++b++Fs) w):aU (a++Fs) w:=by
 refine h.vW (λj=>if j<a.length then some j else some (j+b.length)) ?_ ?_
 .intro j x hx;right;by_cases h1:j<a.length
  .refine⟨j,by simp[h1],?_⟩;rw[axX h1]at hx;rw[ayl,axX h1];exact hx
  .refine⟨j+b.length,by simp[h1],?_⟩;rw[axY (by omega)]at hx;rw[axY (by simp;omega),axP,show j+b.length - (a.length+b.length)=j - a.length by omega];exact hx
 .intro j j' i hj eF _ _;split at hj<;>split at eF<;>simp only[axU]at hj eF<;>omega
theorem pQ{ρ bG:Env}: ∀{x y:List MK} {l:List iz},nO x y=some l->nD ρ bG l->marks ρ x=marks bG y
 | [],[],l,_,_=>rfl
 | .one b::r,.one b'::r',l,h,hl=>by
  simp only[nO,axV]at h;obtain⟨z,hz,rfl⟩:=h;have h1:=hl _ axW;simp only[iz.holds]at h1;have h2:=pQ hz λx hx=>hl x (axZ _ hx)
  simp only[marks,ayn,List.map_append,MK.blocks,h1]at h2 ⊢;rw[h2]
 | .many b::r,.many b'::r',l,h,hl=>by
  simp only[nO,axV]at h;obtain⟨z,hz,rfl⟩:=h;have h1:=hl _ axW;simp only[iz.holds]at h1;have h2:=pQ hz λx hx=>hl x (axZ _ hx)
  simp only[marks,ayn,List.map_append,MK.blocks,h1]at h2 ⊢;rw[h2]
 | [],.one _::_,_,h,_=>by cases h
 | [],.many _::_,_,h,_=>by cases h
 | .one _::_,[],_,h,_=>by cases h
 | .many _::_,[],_,h,_=>by cases h
 | .one _::_,.many _::_,_,h,_=>by cases h
 | .many _::_,.one _::_,_,h,_=>by cases h
theorem lR{st:St}{ρ tm LG:Env}{a:Act}{w:World}{c0:cI}{Jl:List (Nat×SV)}{nR:List Ck}{x y z:List iz}{nt As:NT}
  (hw:HW Fs w0 st ρ w) (ha:HA st.fr nt ρ a) (h1:iZ tm c0) (hle:Env.Le tm ρ) (Ka:Env.Le tm LG)
  (hx:o5 Jl st.fr=some x) (hy:o6 nR st.hp=some y) (hz:nO As.ds nt.ds=some z) (hn:As.n=nt.n) (hh:nD LG ρ ((x++y++z).filter λq=> !q.trivial c0)):
  HA Jl As LG a/\aU (nR.map (Ck.den LG)++Fs) w:=by
 have gp:iY c0 LG ρ:=(Env.Le.fP h1 Ka).symm.trans (Env.Le.fP h1 hle);obtain⟨k12,k3⟩:=(nD.all gp hh).app;obtain⟨k1,k2⟩:=k12.app;refine⟨⟨ha.defers.trans (pQ hz k3).symm,hn▸ha.size,λs v hs=>?_⟩,?_⟩
 .obtain⟨v',tI,he⟩:=pG hx k1 s v hs;rw[ha.aQ s v' tI,he]
 .obtain⟨more,hm⟩:=tZ gp.va hy k2;have:=hw.own;rw[hm]at this;exact this.front
theorem rC{nP:St}{tm:Env}{w:World}{inc:cI}{e:Ext}{aQ:List (Nat×SV)}{f:Nat->Bool}{nR:List Ck}{As:NT}
  (h1:iZ tm nP.aY) (he:e.Fits inc) (lZ:nF (nP.aY.add inc) aQ=true) (zO:nR.all (Ck.sc (nP.aY.add inc))=true) (lT:nF nP.aY nP.fr=true)
  (P5:As.ds.all (MK.sc (nP.aY.add inc))=true) (CD:jm w0 w) (own:aU (nR.map (Ck.den (tm.ext e))++Fs) w):
  HW Fs w0 {nP with fr:=aQ++nP.fr.filter (λx=>f x.1),hp:=nR,aY:=nP.aY.add inc,known:=[],nt:=As} (tm.ext e) w:=by
 refine⟨h1.ext he,?_,zO,rfl,λb hb=>(by cases hb),own,CD,P5⟩;simp only[nF,List.all_append,ai];refine⟨lZ,axS.2 λx hx=>?_⟩;exact SV.bp (cI.mn _ _) (axS.1 lT x (ayi.1 hx).1)
theorem nW{α:Type}(p:α->Bool)(e:α)(he:p e=true): ∀(use:List Nat) (hp new:List α),hp.all p=true->new.all p=true->(mK e hp use new).all p=true
 | [],hp,new,h1,h2=>by simp only[mK,List.all_append,h1,h2,Bool.and_self]
 | i::r,hp,c::cs,h1,h2=>by
  simp only[List.all_cons,ai]at h2;refine nW p e he r _ _ (axS.2 λx hx=>?_) h2.2;rcases ayy hx with hx | rfl
  .exact axS.1 h1 x hx
  .exact h2.1
 | i::r,hp,[],h1,h2=>by
  refine nW p e he r _ _ (axS.2 λx hx=>?_) h2;rcases ayy hx with hx | rfl
  .exact axS.1 h1 x hx
  .exact he
theorem At.gh{n:Nat}{g:St->Option cc}{k:List KI}{ρ:Env}{L:Nat->LC}{a:Act}{w:World}(h:At P C al Fs w0 n (.gh g::k) ρ L a w):At P C al Fs w0 n k ρ L a w:=by
 obtain⟨m,hm,st,bG,L',h1,h2,h3,h4,h5⟩:=h
 induction m generalizing st with
 | zero=>exact h5.elim
 | succ m ih=>
  simp only[run]at h5;split at h5
  .exact⟨m,by omega,st,bG,L',h1,h2,h3,h4,h5⟩
  .rename_i s hs;split at h5
   .rename_i b hb;split at h5
    case isFalse=>exact h5.elim
    rename_i kS;simp only[VC,bf]at h5;cases hd:b.den bG with
    | true=>
     have hp:=(BE.bY bG b).1 hd;exact ih (by omega) _ (h3.know hp kS) h4 (h5.1 hp)
    | false=>
     have hp: ¬b.prop bG:=λh=>by rw[<-BE.bY,hd]at h;cases h
     have nR:(kp b).prop bG:=by rw[<-BE.bY,dY,hd];rfl
     exact ih (by omega) _ (h3.know nR (FR kS)) h4 (h5.2 hp)
   rename_i OV;split at h5
   .rename_i idx aeV;split at h5
    case isFalse=>exact h5.elim
    rename_i hc;rw[ai,decide_eq_true_eq]at hc;obtain⟨cC,iT⟩:=hc;have cC: ∀i∈idx,i<st.hp.length:=λi hi=>by simpa[ayb] using axS.1 cC i hi
    refine⟨m,by omega,{st with hp:=idx.map λi=>st.hp.getD i .emp},bG,L',h1,h2,⟨h3.lens,h3.m7,?_,h3.qF,h3.kn,?_,h3.same,h3.oq⟩,h4,h5⟩
    .refine axS.2 λx hx=>?_
     obtain⟨i,hi,rfl⟩:=ayg.1 hx;have hl:=cC i hi;rw[ayk,ays hl];exact axS.1 h3.iu _ (List.getElem_mem hl)
    .refine h3.own.pick (idx++(List.range Fs.length).map (st.hp.length+ ·)) _ ?_ ?_
     .refine List.nodup_append.2 ⟨iT,?_,?_⟩
      .exact List.Pairwise.map _ (λa b h=>by omega) List.nodup_range
      .intro x hx y hy;have:=cC x hx;obtain⟨q,_,rfl⟩:=ayg.1 hy;omega
     .intro j;by_cases hj:j<idx.length
      .have hl:=cC idx[j] (List.getElem_mem hj);have e1:(((idx.map λi=>st.hp.getD i .emp).map (Ck.den bG))++Fs)[j]? =some ((st.hp[idx[j]]).den bG):=by
        rw[axX (by simpa using hj)];simp[hj,hl]
       have e2:(st.hp.map (Ck.den bG)++Fs)[idx[j]]? =some ((st.hp[idx[j]]).den bG):=by
        rw[axX (by simpa using hl)];simp[hl]
       rw[e1,axX hj,ays hj,Option.bind_some,e2]
      .rw [axY (by simpa using hj),axY (by omega)];simp only[ayd,List.getElem?_map];by_cases hq:j - idx.length<Fs.length
       .rw [List.getElem?_range hq,Option.map_some,Option.bind_some,axY (by simp)];simp
       .rw [List.getElem?_eq_none (by omega),List.getElem?_eq_none (by simpa using hq)];simp
   split at h5
   case h_2=>exact h5.elim
   rename_i eqs heq;split at h5
   case isFalse=>exact h5.elim
   rename_i kS;simp only[ai,decide_eq_true_eq]at kS;obtain⟨⟨⟨lZ,zO⟩,lT⟩,F0⟩:=kS;have cC: ∀i∈s.use,i<st.hp.length:=λi hi=>by simpa[ayb] using axS.1 lT i hi
   simp only[VC]at h5;obtain⟨I,hI,hr⟩:=h5;rw[qX]at hr;have eX:=aU.vX (acc:=[]) (use:=s.use) (by simpa using h3.own) F0 (by simpa using cC);have Lg:(s.use.map λi=>st.hp.getD i .emp).map (Ck.den bG)=s.use.map (λi=>(st.hp.map (Ck.den bG)).getD i HP.emp):=by
    rw[List.map_map];refine List.map_congr_left λi hi=>?_
    have:=cC i hi;simp[this]
   rw[List.nil_append,<-Lg]at eX;have hx:=hI _ _ eX;rw[mj]at hx;obtain⟨e,hf,hq⟩:=hx;rw[vU]at hq;obtain⟨hh,CE,hIe⟩:=hq;have hle:=Env.jo bG e;have gp:=Env.Le.fP h3.lens hle;refine⟨m,by omega,_,bG.ext e,L',h1.trans hle,h2,?_,?_,hr e hf hIe⟩
   .refine⟨h3.lens.ext hf,?_,?_,ik (cI.mn _ _) h3.qF,λb hb=>?_,?_,h3.same,ey (cI.mn _ _) h3.oq⟩
    .simp only[nF,List.all_append,ai];refine⟨lZ,axS.2 λx hx=>?_⟩;exact SV.bp (cI.mn _ _) (axS.1 h3.m7 x (ayi.1 hx).1)
    .exact nW _ _ rfl _ _ _ (ky (cI.mn _ _) h3.iu) zO
    .exact(BE.jV gp (axS.1 h3.qF b hb)).1 (h3.kn b hb)
    .have h1:=aU.m6 (use:=s.use) CE (λi hi=>by rw[nE];simpa using cC i hi) λ_ _=> .inr trivial
     rw[<-lh _ _ _ F0,mZ gp h3.iu]at h1;simp only[iq];rw[nT];exact h1
   .have hm:=h4.more h3.m7 h3.oq gp;refine⟨hm.defers,hm.size,λx v hx=>?_⟩;rcases zw hx with hx | hx
    .obtain⟨v',tI,he⟩:=pG heq hh x v hx;rw[h4.aQ x v' tI,he]
    .have:=ou (f:=λq=> !(s.aQ.any λy=>y.1==q)) hx;exact hm.aQ x v this
theorem QK.gh{n:Nat}{g:St->Option cc}{k:List KI}{ρ:Env}{L:Nat->LC}{e:Exit}{a:Act}{w:World}(h:QK P C al Fs w0 n (.gh g::k) ρ L e a w):QK P C al Fs w0 n k ρ L e a w:=by
 cases e with
 | normal=>
  obtain⟨k',hk,er⟩:=h;cases hk;exact⟨k,rfl,er.gh⟩
 | exit id=>exact QK.move (k:=k) h rfl λ_ _=>rfl
 | ret=>exact QK.move (k:=k) h rfl λ_ _=>rfl
 | goto l=>obtain⟨k',hk,_⟩:=h;cases hk
 | panic l=>obtain⟨k',hk,_⟩:=h;cases hk
 | outgrown=>obtain⟨k',hk,_⟩:=h;cases hk
theorem zx{F:Fence}{n:Nat}{c:Code}{Q:Exit->Act->World->Prop}: ∀{m m':Nat} {a:Act} {w:World},m<=m'->Code.roundsIn F n P c Q m a w->Code.roundsIn F n P c Q m' a w
 | 0,_,_,_,_,h=>h.elim
 | m+1,0,_,_,hm,_=>absurd hm (by omega)
 | m+1,m'+1,a,w,hm,h=>by
  refine wpIn_mono (show c.wpIn F n P (Exit.then (Code.roundsIn F n P c Q m) Q) a w from h) λe a w hq=>?_
  cases e with
  | normal=>exact zx (by omega) hq
  | _=>exact hq
theorem U4{N:Nat}{ro:Option Nat}{body:Code}{k:List KI}{ρ:Env}{L:Nat->LC}(yU: ∀m,m<N->sD P C al Fs w0 m): ∀(n:Nat),n<N->∀(st:St) (bG:Env) (L':Nat->LC) (a:Act) (w:World),
  VC P al (run C n (.code body:: .again body::k) st) bG L'->Env.Le ρ bG->(∀j,j<nl k->L' j=L j)->HW Fs w0 st bG w->HA st.fr st.nt bG a->EH bG k ro->Code.roundsIn (FW ro) 0 P body (QK P C al Fs w0 N k ρ L) (n+1) a w:=by
 intro n
 induction n using Nat.strongRecOn with
 | _ n ih=>
  intro hn st bG L' a w hv hle hL hw ha hk;refine wpIn_mono (yU n hn ro body (.again body::k) st bG L' a w hv hw ha (hk.push rfl)) ?_;intro e a' w' hq;cases e with
  | normal=>
   obtain⟨k',hk2,m,hm,GN,LG,L2,h1,h2,h3,h4,h5⟩:=hq;cases hk2;cases m with
   | zero=>exact h5.elim
   | succ m=>
    have:=ih m (by omega) (by omega) GN LG L2 a' w' h5 (hle.trans h1) (λj hj=>(h2 j hj).trans (hL j hj)) h3 h4 (hk.le h1);exact zx (by omega) this
  | exit id=>exact(QK.move (k:=k) hq rfl λ_ _=>rfl).mono (by omega) hle hL
  | ret=>exact(QK.move (k:=k) hq rfl λ_ _=>rfl).mono (by omega) hle hL
  | goto l=>obtain⟨k',hk,_⟩:=hq;cases hk
  | panic l=>obtain⟨k',hk,_⟩:=hq;cases hk
  | outgrown=>obtain⟨k',hk,_⟩:=hq;cases hk
theorem GX(_:bD P C.T=true){n:Nat}(yU: ∀m,m<n->sD P C al Fs w0 m)(P4: ∀m,m<n->uM P C al Fs w0 m)(IHd: ∀m,m<n->JN P C al Fs w0 m)(IHr:Q7 P C al Fs w0 n):sD P C al Fs w0 n:=by
 intro ro c k st ρ L a w hv hw ha iL;cases n with
 | zero=>exact hv.elim
 | succ n=>
  have hn:n<n+1:=Nat.lt_succ_self n;cases c with
  | skip=>exact wpIn_skip (QK.here hn rfl hv hw ha)
  | label l=>exact wpIn_label (QK.here hn rfl hv hw ha)
  | seq x y=>
   refine wpIn_seq (wpIn_mono (yU n hn ro x (.code y::k) st ρ L a w hv hw ha (iL.push rfl)) ?_);intro e a' w' hq;cases e with
   | normal=>
    obtain⟨k',hk,m,hm,ei,bG,L',h1,h2,h3,h4,h5⟩:=hq;cases hk;refine wpIn_mono (yU m (by omega) ro y k ei bG L' a' w' h5 h3 h4 (iL.le h1)) λe a w hq=>?_
    exact hq.mono (by omega) h1 h2
   | exit id=>exact(QK.move (k:=k) hq rfl λ_ _=>rfl).mono (ayC n) (Env.Le.refl _) λ_ _=>rfl
   | ret=>exact(QK.move (k:=k) hq rfl λ_ _=>rfl).mono (ayC n) (Env.Le.refl _) λ_ _=>rfl
   | goto l=>obtain⟨k',hk,_⟩:=hq;cases hk
   | panic l=>obtain⟨k',hk,_⟩:=hq;cases hk
   | outgrown=>obtain⟨k',hk,_⟩:=hq;cases hk
  | cond x t e=>
   simp only[run]at hv;have up: ∀{e:Exit} {a:Act} {w:World},QK P C al Fs w0 n k ρ L e a w->QK P C al Fs w0 (n+1) k ρ L e a w:=λhq=>hq.mono (ayC n) (Env.Le.refl _) λ_ _=>rfl
   split at hv
   .rename_i hc;have:=rB ha hw.kn hc;exact wpIn_cond_true this (wpIn_mono (yU n hn ro t k st ρ L a w hv hw ha iL) λe a w hq=>up hq)
   .rename_i hc;have:=rB ha hw.kn hc;exact wpIn_cond_false this (wpIn_mono (yU n hn ro e k st ρ L a w hv hw ha iL) λe a w hq=>up hq)
   .rename_i b _ _ hc;have hb:=rB ha hw.kn hc;split at hv
    .rename_i kS;simp only[VC,bf]at hv;cases hd:b.den ρ with
     | true=>
      have hp:=(BE.bY ρ b).1 hd;exact wpIn_cond_true (by rw[hb,hd]) (wpIn_mono (yU n hn ro t k _ ρ L a w (hv.1 hp) (hw.know hp kS) ha iL) λe a w hq=>up hq)
     | false=>
      have hp: ¬b.prop ρ:=λh=>by rw[<-BE.bY,hd]at h;cases h
      have nR:(kp b).prop ρ:=by rw[<-BE.bY,dY,hd];rfl
      exact wpIn_cond_false (by rw[hb,hd]) (wpIn_mono (yU n hn ro e k _ ρ L a w (hv.2 hp) (hw.know nR (FR kS)) ha iL) λe a w hq=>up hq)
    .exact hv.elim
   .exact hv.elim
  | block id b=>
   simp only[run]at hv;split at hv;rotate_left
   .rename_i ja hja;split at hv
    case isFalse=>exact hv.elim
    rename_i kS;simp only[ai]at kS;obtain⟨⟨⟨lZ,zO⟩,lT⟩,F0⟩:=kS;simp only[VC]at hv;obtain⟨I,U5,AF⟩:=hv;rw[qX]at AF;have Nf: ∀(m:Nat) (ei:St) (bG:Env) (L':Nat->LC) (a':Act) (w':World),m<=n->Env.Le ρ bG->(∀j,j<nl k+1->L' j=xu L (nl k) ⟨I,λ_=>0,⟨[],[],[],[],[],[],[]⟩⟩ j)->
      HW Fs w0 ei bG w'->HA ei.fr ei.nt bG a'->
      VC P al (run C m (.jn (some id) (nl k) {st.nt with ds:=ja.ds st.aY st.nt.ds} st.aY ja.inc (ja.aQ st.aY++st.fr.filter λx=> !((writes b).contains x.1)&& !((ja.aQ st.aY).any λy=>y.1==x.1)) (ja.hp st.aY st.hp) ja.pre::k) ei) bG L'->
      QK P C al Fs w0 (n+1) k ρ L .normal a' w':=by
     intro m ei bG L' a' w' hm hle hL g3 g4 g5;cases m with
     | zero=>exact g5.elim
     | succ m=>
      simp only[run]at g5;split at g5
      .exact g5.elim
      rename_i st9 nn9 I3;obtain⟨ρ9,U6,g3,g4,aiE,g5⟩:=lQ I3 g3 g4 g5;have hle:=hle.trans U6;split at g5
      .rename_i x' y' z' Xh hy' PV;split at g5
       .exact g5.elim
       .rename_i C2;simp only[bne_iff_ne,ne_eq,Decidable.not_not]at C2;simp only[VC]at g5;rw[mj]at g5;obtain⟨e2,VD,ZN⟩:=g5;rw[Env.Le.take hw.lens hle,vU]at ZN;obtain⟨hh2,VF⟩:=ZN;have hLI:(L' (nl k)).I=I:=by
         rw[hL _ (by omega)];simp[xu]
        rw[hLI]at VF;obtain⟨r1,r2⟩:=lR (As:={st.nt with ds:=ja.ds st.aY st.nt.ds}) g3 g4 hw.lens hle (Env.jo ρ e2) Xh hy' PV C2.symm hh2;refine⟨k,rfl,n,by omega,_,ρ.ext e2,L,Env.jo ρ e2,λ_ _=>rfl,?_,r1,AF e2 VD VF⟩;exact rC (f:=λq=> !((writes b).contains q)&& !((ja.aQ st.aY).any λy=>y.1==q)) hw.lens VD lZ zO hw.m7 F0 g3.same r2
      .exact g5.elim
      .exact g5.elim
      .exact g5.elim
    refine wpIn_block (wpIn_mono (yU n hn ro b _ st ρ _ a w U5 hw ha (iL.push rfl)) ?_);intro e a' w' hq;cases e with
    | normal=>
     obtain⟨k',hk,m,hm,ei,bG,L',h1,h2,h3,h4,h5⟩:=hq;cases hk;exact Nf m ei bG L' a' w' (Nat.le_of_lt hm) h1 h2 h3 h4 h5
    | exit id'=>
     simp only[Exit.inBlock];split
     .rename_i he;subst he;obtain⟨k',hk,m,hm,ei,bG,L',h1,h2,h3,h4,h5⟩:=hq;simp only[resume,eh,beq_self_eq_true,if_true,axU]at hk;subst hk;exact Nf m ei bG L' a' w' (Nat.le_of_lt hm) h1 h2 h3 h4 h5
     .rename_i he;refine(QK.move (k:=k) (L:=L) hq ?_ λj hj=>?_).mono (ayC n) (Env.Le.refl _) λ_ _=>rfl
      .simp only[resume,eh];rw[if_neg (by simpa using Ne.symm he)]
      .simp only[xu];rw[if_neg (by omega)]
    | ret=>
     refine(QK.move (k:=k) (L:=L) hq rfl λj hj=>?_).mono (ayC n) (Env.Le.refl _) λ_ _=>rfl
     simp only[xu];rw[if_neg (by omega)]
    | goto l=>obtain⟨k',hk,_⟩:=hq;cases hk
    | panic l=>obtain⟨k',hk,_⟩:=hq;cases hk
    | outgrown=>obtain⟨k',hk,_⟩:=hq;cases hk
   refine wpIn_block (wpIn_mono (yU n hn ro b (.uv id::k) st ρ L a w hv hw ha (iL.push rfl)) ?_);intro e a' w' hq;cases e with
   | normal=>
    obtain⟨k',hk,m,hm,ei,bG,L',h1,h2,h3,h4,h5⟩:=hq;cases hk;cases m with
    | zero=>exact h5.elim
    | succ m=>exact⟨k,rfl,m,by omega,ei,bG,L',h1,h2,h3,h4,h5⟩
   | exit id'=>
    simp only[Exit.inBlock];split
    .rename_i he;subst he;obtain⟨k',hk,m,hm,ei,bG,L',h1,h2,h3,h4,h5⟩:=hq;simp only[resume,eh,beq_self_eq_true,if_true,axU]at hk;subst hk;exact⟨k,rfl,m,by omega,ei,bG,L',h1,h2,h3,h4,h5⟩
    .rename_i he;refine(QK.move (k:=k) hq ?_ λ_ _=>rfl).mono (ayC n) (Env.Le.refl _) λ_ _=>rfl
     simp only[resume,eh];rw[if_neg (by simpa using Ne.symm he)]
   | ret=>exact(QK.move (k:=k) hq rfl λ_ _=>rfl).mono (ayC n) (Env.Le.refl _) λ_ _=>rfl
   | goto l=>obtain⟨k',hk,_⟩:=hq;cases hk
   | panic l=>obtain⟨k',hk,_⟩:=hq;cases hk
   | outgrown=>obtain⟨k',hk,_⟩:=hq;cases hk
  | loop body=>
   simp only[run]at hv;split at hv
   .rename_i id k0;split at hv
    .exact wpIn_loop_rounds _ (U4 yU n hn st ρ L a w hv (Env.Le.refl _) (λ_ _=>rfl) hw ha iL)
    .rename_i la hla;split at hv
     .exact hv.elim
     .rename_i nP nn lD;obtain⟨tm,K9,z5,JP,hfn,yN⟩:=lQ lD hw ha hv;split at yN
      .rename_i x y z hx hy hz;split at yN
       .rename_i kS;simp only[ai]at kS;obtain⟨⟨⟨lZ,zO⟩,lT⟩,F0⟩:=kS;simp only[VC]at yN;obtain⟨I,μ,U7,U8⟩:=yN;rw[mj]at U7;rw[qX]at U8;obtain⟨e0,hf0,hq0⟩:=U7;rw[vU]at hq0;obtain⟨hh0,hI0⟩:=hq0;obtain⟨q1,q2⟩:=lR (As:={nP.nt with ds:=la.ds nP.aY nP.nt.ds}) z5 JP z5.lens (Env.Le.refl _) (Env.jo tm e0) hx hy hz rfl hh0;refine wpIn_loop_ghost (λn' a w=> ∃e:Ext,e.Fits la.inc/\I e/\μ e=n'/\HW Fs w0
          {nP with fr:=la.aQ nP.aY++nP.fr.filter (λx=> !((writes body).contains x.1)&& !((la.aQ nP.aY).any λy=>y.1==x.1)),hp:=la.hp nP.aY nP.hp,aY:=nP.aY.add la.inc,known:=[],nt:={nP.nt with ds:=la.ds nP.aY nP.nt.ds}} (tm.ext e) w/\
          HA (la.aQ nP.aY++nP.fr.filter (λx=> !((writes body).contains x.1)&& !((la.aQ nP.aY).any λy=>y.1==x.1))) {nP.nt with ds:=la.ds nP.aY nP.nt.ds} (tm.ext e) a) (μ e0) ⟨e0,hf0,hI0,rfl,?_,?_⟩ ?_
        .exact rC (f:=λq=> !((writes body).contains q)&& !((la.aQ nP.aY).any λy=>y.1==q)) z5.lens hf0 lZ zO z5.m7 F0 z5.same q2
        .refine⟨q1.defers,q1.size,λs v hs=>?_⟩;rcases zw hs with hs | hs
         .exact q1.aQ s v hs
         .have:=ou (f:=λq=> !((writes body).contains q)&& !((la.aQ nP.aY).any λy=>y.1==q)) hs;rw[JP.aQ s v this];exact(SV.xN (Env.Le.fP z5.lens (Env.jo tm e0)) (EE z5.m7 this)).1
        .intro n' a2 w2 VF;obtain⟨e,he,hIe,hμ,GQ,ha2⟩:=VF;subst hμ;have hvb:=U8 e he hIe;refine wpIn_mono (yU n hn ro body _ _ _ _ a2 w2 hvb GQ ha2 ((iL.le (K9.trans (Env.jo tm e))).push rfl)) ?_;intro ex a3 w3 hq;cases ex with
         | normal=>
          obtain⟨k',hk,m,hm,ei,bG,L',g1,g2,g3,g4,g5⟩:=hq;cases hk;cases m with
          | zero=>exact g5.elim
          | succ m=>
           simp only[run]at g5;split at g5
           .exact g5.elim
           rename_i st9 nn9 I3;obtain⟨ρ9,U6,g3,g4,aiE,g5⟩:=lQ I3 g3 g4 g5;have g1:=g1.trans U6;split at g5
           .rename_i x' y' z' Xh hy' PV;split at g5
            .exact g5.elim
            .rename_i C2;simp only[bne_iff_ne,ne_eq,Decidable.not_not]at C2;simp only[VC]at g5;rw[mj]at g5;obtain⟨e2,VD,ZN⟩:=g5;have PQ:Env.Le tm ρ9:=(Env.jo tm e).trans g1;rw[Env.Le.take z5.lens PQ,vU]at ZN;obtain⟨hh2,VF,aiG⟩:=ZN;have hL:L' (nl (.uv id::k0))=⟨I,μ,e⟩:=by
              rw[g2 _ (by simp[nl])];simp[xu]
             rw[hL]at VF aiG;obtain⟨r1,r2⟩:=lR (As:={nP.nt with ds:=la.ds nP.aY nP.nt.ds}) g3 g4 z5.lens PQ (Env.jo tm e2) Xh hy' PV C2.symm hh2;refine⟨μ e2,aiG,e2,VD,VF,rfl,?_,r1⟩;exact rC (f:=λq=> !((writes body).contains q)&& !((la.aQ nP.aY).any λy=>y.1==q)) z5.lens VD lZ zO z5.m7 F0 g3.same r2
           .exact g5.elim
           .exact g5.elim
         | exit id'=>
          refine(QK.move (k:= .uv id::k0) (L:=L) hq rfl ?_).mono (ayC n) (K9.trans (Env.jo tm e)) λ_ _=>rfl
          intro j hj;simp only[xu];rw[if_neg (by omega)]
         | ret=>
          refine(QK.move (k:= .uv id::k0) (L:=L) hq rfl ?_).mono (ayC n) (K9.trans (Env.jo tm e)) λ_ _=>rfl
          intro j hj;simp only[xu];rw[if_neg (by omega)]
         | goto l=>obtain⟨k',hk,_⟩:=hq;cases hk
         | panic l=>obtain⟨k',hk,_⟩:=hq;cases hk
         | outgrown=>obtain⟨k',hk,_⟩:=hq;cases hk
       .exact yN.elim
      .exact yN.elim
   .exact wpIn_loop_rounds _ (U4 yU n hn st ρ L a w hv (Env.Le.refl _) (λ_ _=>rfl) hw ha iL)
  | exit id=>
   simp only[run]at hv;split at hv
   .rename_i k' hk;exact wpIn_exit (QK.here hn hk hv hw ha)
   .exact hv.elim
  | ret=>
   simp only[run]at hv;split at hv
   .rename_i k' hk;exact wpIn_ret (QK.here hn hk hv hw ha)
   .exact hv.elim
  | region id ops draw=>
   cases draw with
   | false=>
    simp only[run]at hv;split at hv
    .exact wpIn_region_list (gU (λe a w hq=>hq.mono (ayC n) (Env.Le.refl _) λ_ _=>rfl) (P4 n hn ro ops ops.toList k st ρ L a w hv hw ha iL))
    .exact wpIn_region_list (gU (λe a w hq=>hq.gh.mono (ayC n) (Env.Le.refl _) λ_ _=>rfl) (P4 n hn ro ops ops.toList _ st ρ L a w hv hw ha (iL.push rfl)))
   | true=>
    simp only[run]at hv;split at hv
    .rename_i hc;simp only[ai]at hc;split at hv
     .rename_i ja hja;split at hv
      case isFalse=>exact hv.elim
      rename_i kS;simp only[ai]at kS;obtain⟨⟨⟨lZ,zO⟩,lT⟩,F0⟩:=kS;simp only[VC]at hv;obtain⟨I,U5,AF⟩:=hv;rw[qX]at AF;have Nf: ∀(m:Nat) (ei:St) (bG:Env) (L':Nat->LC) (a':Act) (w':World),m<=n->Env.Le ρ bG->(∀j,j<nl k+1->L' j=xu L (nl k) ⟨I,λ_=>0,⟨[],[],[],[],[],[],[]⟩⟩ j)->
        HW Fs w0 ei bG w'->HA ei.fr ei.nt bG a'->
        VC P al (run C m (.jn none (nl k) {st.nt with ds:=ja.ds st.aY st.nt.ds} st.aY ja.inc (ja.aQ st.aY++st.fr.filter λx=> !((writes (.region id ops true)).contains x.1)&& !((ja.aQ st.aY).any λy=>y.1==x.1)) (ja.hp st.aY st.hp) ja.pre::k) ei) bG L'->
        QK P C al Fs w0 (n+1) k ρ L .normal a' w':=by
       intro m ei bG L' a' w' hm hle hL g3 g4 g5;cases m with
       | zero=>exact g5.elim
       | succ m=>
        simp only[run]at g5;split at g5
        .exact g5.elim
        rename_i st9 nn9 I3;obtain⟨ρ9,U6,g3,g4,aiE,g5⟩:=lQ I3 g3 g4 g5;have hle:=hle.trans U6;split at g5
        .rename_i x' y' z' Xh hy' PV;split at g5
         .exact g5.elim
         .rename_i C2;simp only[bne_iff_ne,ne_eq,Decidable.not_not]at C2;simp only[VC]at g5;rw[mj]at g5;obtain⟨e2,VD,ZN⟩:=g5;rw[Env.Le.take hw.lens hle,vU]at ZN;obtain⟨hh2,VF⟩:=ZN;have hLI:(L' (nl k)).I=I:=by
           rw[hL _ (by omega)];simp[xu]
          rw[hLI]at VF;obtain⟨r1,r2⟩:=lR (As:={st.nt with ds:=ja.ds st.aY st.nt.ds}) g3 g4 hw.lens hle (Env.jo ρ e2) Xh hy' PV C2.symm hh2;refine⟨k,rfl,n,by omega,_,ρ.ext e2,L,Env.jo ρ e2,λ_ _=>rfl,?_,r1,AF e2 VD VF⟩;exact rC (f:=λq=> !((writes (.region id ops true)).contains q)&& !((ja.aQ st.aY).any λy=>y.1==q)) hw.lens VD lZ zO hw.m7 F0 g3.same r2
        .exact g5.elim
        .exact g5.elim
        .exact g5.elim
      refine wpIn_mono (IHd n hn ro id ops _ _ st ρ _ a w U5 hc.1 hc.2 hw ha ((iL.push rfl).push rfl)) ?_;intro e a' w' hq;have hq:=hq.gh;cases e with
      | normal=>
       obtain⟨k',hk,m,hm,ei,bG,L',h1,h2,h3,h4,h5⟩:=hq;cases hk;exact Nf m ei bG L' a' w' (Nat.le_of_lt hm) h1 h2 h3 h4 h5
      | exit id'=>
       refine(QK.move (k:=k) (L:=L) hq rfl λj hj=>?_).mono (ayC n) (Env.Le.refl _) λ_ _=>rfl
       simp only[xu];rw[if_neg (by omega)]
      | ret=>
       refine(QK.move (k:=k) (L:=L) hq rfl λj hj=>?_).mono (ayC n) (Env.Le.refl _) λ_ _=>rfl
       simp only[xu];rw[if_neg (by omega)]
      | goto l=>obtain⟨k',hk,_⟩:=hq;cases hk
      | panic l=>obtain⟨k',hk,_⟩:=hq;cases hk
      | outgrown=>obtain⟨k',hk,_⟩:=hq;cases hk
     split at hv
     .exact wpIn_mono (IHd n hn ro id ops _ k st ρ L a w hv hc.1 hc.2 hw ha iL) λe a w hq=>hq.mono (ayC n) (Env.Le.refl _) λ_ _=>rfl
     .exact wpIn_mono (IHd n hn ro id ops _ _ st ρ L a w hv hc.1 hc.2 hw ha (iL.push rfl)) λe a w hq=>hq.gh.mono (ayC n) (Env.Le.refl _) λ_ _=>rfl
    .exact hv.elim
  | rangeFunc f ps x y=>exact IHr ro f ps x y k st ρ L a w hv hw ha iL
  | scope x=>exact hv.elim
  | goto l=>exact hv.elim
  | refuse y=>exact hv.elim
end
end Go.RX
